/- Proved here: parts of the proof, joined (Lo9d, Lo9e, Lo10, Lo11, Lo12, Lo13, Lo14, Lo14b): an abstract machine, its soundness, what functions of the program compute in it; no condition. -/
import Derived.Lib.UnsafeStr
import Derived.Lib.Builder
import Derived.Lib.Bytealg
import Derived.Lib.AppendStr
import Derived.Lib.AppendZeros
import Derived.Lib.MakeNoZero
import Derived.Laws.CopyRow
import Derived.Laws.IdiomCopy
import Derived.Lib.BufferWrite
import Derived.StillTail
import Derived.Test.YtkaedpmmopigkaaGreatDoorM1
namespace Go.Proofs.YtkaedpmmopigkaaGreatDoor
open Go.RowKit
set_option linter.unusedVariables false
set_option linter.unusedSimpArgs false
section
variable {P:Program} {w:World} {ρ:Vo} {S:St}
theorem ptrT_iff{t e:TypeId}:ptrT P t=some e↔P.underlying t=some (.pointer e):=by
 unfold ptrT;split
 ·
  rename_i e' h;simp[h]
 rename_i h;constructor
 ·
  intro h';simp at h'
 intro h';exact absurd h' (h e)
theorem unsT_iff{t:TypeId}:unsT P t=true↔P.underlying t=some .unsafePointer:=by
 unfold unsT;split
 ·
  rename_i h;simp[h]
 rename_i h;constructor
 ·
  intro h';simp at h'
 intro h';exact absurd h' h
theorem eqp_ok {d1 d2 : D} {v1 v2 : Value} {t e : TypeId} {n : Nat} {b : Bool} {op : BinOp} {x y : Operand} (ho : op = .eql ∨ op = .neq) (ht : ptrT P t = some e) (hn : Dn P e = some n) (h1 : VR w ρ S.heap d1 v1) (h2 : VR w ρ S.heap d2 v2) (h : eqpD S d1 d2 = some b) :
    ∃v,(do eqGuard op t x y v1 v2;binOp op t v1 v2).run P w=.ok v w∧VR w ρ S.heap (.bool (b != decide (op=.neq))) v:=by
  have hu:=ptrT_iff.1 ht
  have key:(∀d:Nat,(Op.equalIn (d+1) t v1 v2).run P w=.ok b w)→(eqGuard op t x y v1 v2).run P w=.ok () w→(op=.eql→binOp op t v1 v2=(do pure (.bool (←Op.equal t v1 v2))))→(op=.neq→binOp op t v1 v2=(do pure (.bool (!(←Op.equal t v1 v2))))) →
      ∃v,(do eqGuard op t x y v1 v2;binOp op t v1 v2).run P w=.ok v w∧VR w ρ S.heap (.bool (b != decide (op=.neq))) v:=by
    intro he hg uX hb2;have hq:(Op.equal t v1 v2).run P w=.ok b w:=he 9999;rcases ho with rfl | rfl
    · exact⟨.bool b,by rw[Ag hg,uX rfl,Ag hq];rfl,by cases b<;>exact .bool _⟩
    exact⟨.bool !b,by rw[Ag hg,hb2 rfl,Ag hq];rfl,by cases b<;>exact .bool _⟩
  unfold eqpD at h;split at h
  · simp only [Oi] at h;subst h;cases h1;cases h2;exact key (fun d=>by unfold Op.equalIn;rw[Ag (run_underlying hu w)];rfl) (by rcases ho with rfl | rfl<;>rfl) (by rintro rfl;rfl) (by rintro rfl;rfl)
  · simp only [Oi] at h;subst h;cases h1;cases h2;exact key (fun d=>by unfold Op.equalIn;rw[Ag (run_underlying hu w)];rfl) (by rcases ho with rfl | rfl<;>rfl) (by rintro rfl;rfl) (by rintro rfl;rfl)
  · simp only [Oi] at h;subst h;cases h1;cases h2;exact key (fun d=>by unfold Op.equalIn;rw[Ag (run_underlying hu w)];rfl) (by rcases ho with rfl | rfl<;>rfl) (by rintro rfl;rfl) (by rintro rfl;rfl)
  · simp only [Oi] at h;subst h;cases h1;cases h2;exact key (fun d=>by unfold Op.equalIn;rw[Ag (run_underlying hu w)];rfl) (by rcases ho with rfl | rfl<;>rfl) (by rintro rfl;rfl) (by rintro rfl;rfl)
  · simp only [Oi] at h;subst h;cases h1;cases h2;exact key (fun d=>by unfold Op.equalIn;rw[Ag (run_underlying hu w)];rfl) (by rcases ho with rfl | rfl<;>rfl) (by rintro rfl;rfl) (by rintro rfl;rfl)
  · rename_i g v i o g' v' i' o';split at h
    · rename_i ob ob' zO qZ;split at h
      · rename_i uw;subst uw;simp only[Oi]at h
        cases h1 with | ptr _ _ _ _ a1 ob1 yT zS xS yC =>
        cases h2 with | ptr _ _ _ _ a2 ob2 uJ wY zM wz =>
        unfold rowsOf at zO qZ;simp only[yT]at zO qZ;rw[yT]at uJ;injection uJ with uJ;subst uJ;split at zO
        · rename_i e1;split at qZ
          · rename_i e2;simp only[Oi]at zO qZ;subst zO;obtain⟨b1,r1,rfl⟩:=yC e1;obtain⟨b2,r2,rfl⟩:=wz e2;rw[r1]at r2;injection r2 with r2;subst r2;obtain⟨i2,d2,zN,hd2,xK,h0⟩:=Dw hn;refine key (fun d=>?_) (by rcases ho with rfl | rfl<;>rfl) (by rintro rfl;rfl) (by rintro rfl;rfl);unfold Op.equalIn;rw[Ag (run_underlying hu w)];simp only;rw[Ag (run_sizeOf hn)];have rV:n≠0:=by omega
            simp only[rV,ne_eq,not_false_eq_true,if_true];unfold sameAddr;simp only[beq_self_eq_true,if_true]
            have:((⟨b1,i*ob1.sz+o,none⟩:Addr)==⟨b1,i'*ob1.sz+o',none⟩)=b:=by
              rw[←h];by_cases hq:i*ob1.sz+o=i'*ob1.sz+o'
              · simp[hq]
              simp[hq]
            rw[this];rfl
          simp at qZ
        simp at zO
      simp at h
    simp at h
  simp at h
theorem shape_of{b:Nat}{cur:Array Value}{e:TypeId}{f:Nat × Nat}(h:w.heap[b]?=some (.cells cur e f)):w.shape? b=some (e,cur.size):=by simp[World.shape?,h]
theorem whole_ptr{t:TypeId}{n:Nat}{x r:D}{v:Value}(hr:Rel w ρ S.heap)(hx:VR w ρ S.heap x v)(h:Og S t n x=some r) :
  VR w ρ S.heap r v∧(v=.pointer none∨∃b,v=.pointer (some ⟨b,0,none⟩)∧w.shape? b=some (t,n)):=by
 unfold Og at h;split at h
 ·
  simp only[Oi]at h;subst h;cases hx;exact⟨.nilp,.inl rfl⟩
 ·
  rename_i g ver;split at h
  ·
   rename_i ob zO;split at h
   ·
    rename_i hk;obtain⟨rZ,rfl,rfl,xS,zM⟩:=hk;simp only[Oi]at h;subst h;refine⟨hx,.inr ?_⟩
    cases hx with | ptr _ _ _ _ a ob1 hg hv xY hc =>
    unfold rowsOf at zO;simp only[hg]at zO;split at zO
    ·
     rename_i e1;simp only[Oi]at zO;subst zO;obtain⟨b,hb,rfl⟩:=hc e1;obtain⟨o1,xQ,cur,xP,hz,⟨c,yR,yB,_,uL⟩,hl,zC,hh⟩:=hr.cel hb hg xY;rw[hg]at xQ;injection xQ with xQ;subst xQ;refine⟨b,by simp,?_⟩;rw[shape_of xP,yR,uL zM,xS,Nat.one_mul]
    simp at zO
   simp at h
  simp at h
 simp at h
theorem cellsOf_size{t:TypeId}{n:Nat}(h:Dn P t=some n):P.cellsOf t=n:=by
 obtain⟨i,d,hi,hd,xK,h0⟩:=Dw h;simp[Program.cellsOf,hi,xK]
theorem toU_ok{s d t:TypeId}{n:Nat}{x r:D}{v:Value}(hr:Rel w ρ S.heap)(hs:ptrT P s=some t)(hd:unsT P d=true)(hn:Dn P t=some n)(hx:VR w ρ S.heap x v)(h:Og S t n x=some r) :
  (convert s d v).run P w=.ok v w∧VR w ρ S.heap r v:=by
 obtain⟨h1,h2⟩:=whole_ptr hr hx h;refine⟨?_,h1⟩;obtain⟨i,td,hi,htd,xK,h0⟩:=Dw hn;rcases h2 with rfl | ⟨b,rfl,hsh⟩
 ·
  simp[convert,run_underlying (ptrT_iff.1 hs),run_underlying (unsT_iff.1 hd),Conv.unsafePointer]
 exact Lib.run_to_unsafe w ⟨b,0,none⟩ (ptrT_iff.1 hs) (unsT_iff.1 hd) hi (by omega) hsh (by simpa using h0)
theorem liesAt_whole{t:TypeId}{n:Nat}(hc:P.cellsOf t=n)(h0:0<n):liesAt P P.depth t (n / P.cellsOf t) 0 t 1=true:=by
 have hd:P.depth=(2*(P.types.size+Made.depth)+1)+1:=rfl;rw[hd];simp only[liesAt,Bool.or_eq_true];left;rw[hd];have h1:n / n=1:=Nat.div_self h0;have rV:n≠0:=by omega
 simp[rowAt,hc,h1,sameLayout,rV]
theorem ofU_ok{s d t:TypeId}{n:Nat}{x r:D}{v:Value}(hr:Rel w ρ S.heap)(hs:unsT P s=true)(hd:ptrT P d=some t)(hn:Dn P t=some n)(hx:VR w ρ S.heap x v)(h:Og S t n x=some r) :
  (convert s d v).run P w=.ok v w∧VR w ρ S.heap r v:=by
 obtain⟨h1,h2⟩:=whole_ptr hr hx h;refine⟨?_,h1⟩;obtain⟨i,td,hi,htd,xK,h0⟩:=Dw hn;rcases h2 with rfl | ⟨b,rfl,hsh⟩
 ·
  simp[convert,run_underlying (unsT_iff.1 hs),run_underlying (ptrT_iff.1 hd),Conv.unsafePointer]
 exact Lib.run_from_unsafe w ⟨b,0,none⟩ (unsT_iff.1 hs) (ptrT_iff.1 hd) hi hsh (liesAt_whole (cellsOf_size hn) h0)
theorem sdata_ok {ts : Array TypeId} {ty : TypeId} {x r : D} {v : Value} (hr : Rel w ρ S.heap) (hx : VR w ρ S.heap x v) (h : sdataD S x = some r) : ∃ u, (Builtin.unsafeSliceData_ ts ty #[v]).run P w = .ok u w ∧ VR w ρ S.heap r u := by
  unfold sdataD at h;split at h
  · simp only [Oi] at h;subst h;cases hx;exact⟨_,Lib.run_unsafeSliceData_nil w ts ty 0 0,.nilp⟩
  · rename_i g ver m;split at h
    · rename_i ob zO;split at h
      · simp only [Oi] at h;subst h
        cases hx with | msl _ _ _ _ _ A c ob1 yh xM hg hv xY hc =>
        refine⟨_,Lib.run_unsafeSliceData_row w ts ty A _ c (by omega),.ptr g ver 0 0 A ob1 hg hv xY fun e=>?_⟩;obtain⟨b,hb,_,hA,_⟩:=hc e;exact⟨b,hb,by rw[hA (.inr rfl)];simp⟩
      simp at h
    simp at h
  simp at h
theorem freeze_set{b n:Nat}{cur:Array Value}{e:TypeId}(h:w.heap[b]?=some (.cells cur e (0,0)))(o:Nat)(hn:n≠0):Vy w (w.freeze ⟨b,o,none⟩ n) b (.cells cur e (o,o+n)):=by
  have xE:=lt_of_heap h;refine⟨by simp[World.freeze,hn],by simp[World.freeze,hn],by simp[World.freeze,hn],by simp[World.freeze,hn],?_,fun k hk=>?_⟩
  · simp[World.freeze,hn,Array.getElem?_modify,h]
  simp[World.freeze,hn,Array.getElem?_modify,Ne.symm hk]
theorem U2 : ∀ {rows : List (List D)} {l : List UInt8}, Pt rows = some l → rows.length = l.length ∧ ∀ (j : Nat) (x : UInt8), l[j]? = some x → rows[j]? = some [D.int .u8 (x.toNat : Int)]
  | [], l, h => by
    simp only[Pt,Oi]at h;subst h;exact⟨rfl,fun j x h=>by simp at h⟩
  | r :: rows, l, h => by
    unfold Pt at h;split at h
    · simp at *
    · rename_i n l' qG;simp only[List.cons.injEq]at qG;obtain⟨rfl,rfl⟩:=qG;split at h
      · rename_i hb;simp only[Om]at h;obtain⟨l2,yS,rfl⟩:=h;obtain⟨h1,h2⟩:=U2 yS;refine⟨by simp[h1],fun j x hj=>?_⟩
        cases j with
        | zero =>
          simp at hj;subst hj;have:(UInt8.ofNat n.toNat).toNat=n.toNat:=by simp;omega
          simp[this];omega
        | succ j=>simpa using h2 j x (by simpa using hj)
      simp at h
    simp at h
theorem ustr_ok {pt it ty e : TypeId} {p r : D} {n : Int} {v : Value} {S' : St} {wr : Bool} (hr : Rel w ρ S.heap) (hp : ptrT P pt = some e) (hc : Dn P e = some 1) (hx : VR w ρ S.heap p v) (h : ustrD S e p n = some (r, S', wr)) :
    ∃u w',(Builtin.unsafeString_ #[pt,it] ty #[v,.int .i64 n]).run P w=.ok u w'∧Vu w ρ S r S' wr u w':=by
  unfold ustrD at h;split at h
  · split at h
    · rename_i hn;subst hn;simp only[Oi,Pi_]at h;obtain⟨rfl,rfl,rfl⟩:=h;cases hx;exact⟨_,w,Lib.run_unsafeString_none w pt it ty none,Vu.pure hr (.str _)⟩
    simp at h
  · rename_i g ver;split at h
    · rename_i ob zO;split at h
      · rename_i yc;obtain⟨hkind,xK,he,hn,uh⟩:=yc;split at h
        · rename_i l hl;simp only[Oi,Pi_]at h;obtain⟨rfl,rfl,rfl⟩:=h
          cases hx with | ptr _ _ _ _ a ob1 hg hv xY qp =>
          unfold rowsOf at zO;simp only[hg]at zO;split at zO
          · rename_i e1;simp only[Oi]at zO;subst zO;subst e1;obtain⟨b,hb,rfl⟩:=qp rfl;obtain⟨o1,xQ,cur,xP,hz,⟨c,yR,yB,uy,uL⟩,yV,zC,hh⟩:=hr.cel hb hg xY;rw[hg]at xQ;injection xQ with xQ;subst xQ;obtain⟨xg,hat0⟩:=U2 hl
            have zP:∀(j:Nat) (x:UInt8),l[j]?=some x→ob1.rows[j]?=some [D.int .u8 (x.toNat:Int)]:=fun j x hj=>by
              have h1:=hat0 j x hj;rw[List.getElem?_take]at h1;split at h1
              · exact h1
              simp at h1
            rw[List.length_take,Nat.min_eq_left uh]at xg;obtain⟨m,rfl⟩:∃m:Nat,n=m:=⟨n.toNat,by omega⟩;simp only[Int.toNat_natCast]at xg uh;subst he;subst xg;by_cases xB:l=[]
            · subst xB;simp only[List.length_nil];refine⟨_,w,Lib.run_unsafeString_none w pt it ty _,updN ρ g,?_,?_,.str _,by simp⟩
              · exact rel_drop (o':={ ob1 with ver:=ob1.ver+1 }) hr hb hg xP (⟨rfl,rfl,rfl,rfl,xP,fun _ _=>rfl⟩:Vy w w b (.cells cur ob1.elem (0,0))) (by simp) rfl
              exact Oj (o':={ ob1 with ver:=ob1.ver+1 }) hr hb hg xP (⟨rfl,rfl,rfl,rfl,xP,fun _ _=>rfl⟩:Vy w w b (.cells cur ob1.elem (0,0))) (by simp) rfl
            have uG:l.length≠0:=by simpa using xB
            have xV:=freeze_set xP 0 uG
            have xD:=Lib.run_unsafeString_row (P:=P) w pt it ty ob1.elem (ptrT_iff.1 hp) (cellsOf_size hc) b cur.size (shape_of xP) l xB (by rw[yR,xK];omega) (by unfold maxLen at uy;omega) (fun j x hj=>by
              have y9:=zP j x hj;obtain⟨_,_,v,zS,wY⟩:=hh j _ 0 _ y9 rfl;cases wY;rw[add_plain,Nat.zero_add];simp only[World.cell?,xP]
              simpa [xK] using zS)
            simp only[Nat.zero_mul,Nat.zero_add]at xD ⊢;refine⟨_,_,xD,updN ρ g,?_,?_,.str _,by simp⟩
            · exact rel_drop (o':={ ob1 with ver:=ob1.ver+1 }) hr hb hg xP xV (by simp) rfl
            exact Oj (o':={ ob1 with ver:=ob1.ver+1 }) hr hb hg xP xV (by simp) rfl
          simp at zO
        simp at h
      simp at h
    simp at h
  simp at h
theorem strsh_ok {s e : TypeId} {x r : D} {v : Value} {S' : St} {wr : Bool} (hr : Rel w ρ S.heap) (hs : P.underlying s = some (.slice e)) (he : P.underlying e = some (.int .u8)) (hx : VR w ρ S.heap x v) (h : Sd S x = some (r, S', wr)) :
    ∃u w',(convert s s v).run P w=.ok u w'∧Vu w ρ S r S' wr u w':=by
  unfold Sd at h;split at h
  · rename_i g ver n;split at h
    · rename_i ob zO;split at h
      · rename_i yc;obtain⟨zM,xK,rfl,rE⟩:=yc;simp only[Oi,Pi_]at h;obtain⟨rfl,rfl,rfl⟩:=h
        cases hx with | msl _ _ _ _ _ A c ob1 yh xM hg hv xY hc =>
        unfold rowsOf at zO;simp only[hg]at zO;split at zO
        · rename_i e1;simp only[Oi]at zO;subst zO;subst e1;obtain⟨b,hb,xI,hA,qp⟩:=hc rfl;obtain⟨o1,xQ,cur,xP,hz,⟨cc,yR,yB,uy,uL⟩,yV,zC,hh⟩:=hr.cel hb hg xY;rw[hg]at xQ;injection xQ with xQ;subst xQ;obtain⟨cur1,yC,wz⟩:=qp rfl;rw[xP]at yC;injection yC with yC;injection yC with yC;subst yC
          have hce:c=ob1.rows.length:=by
            have h1:=uL rE;rw[yR,h1,xK]at wz;omega
          have kP:=hA (.inr rfl);simp only[Nat.zero_mul]at kP;subst kP;have xV:=freeze_set xP cur.size (show (1:Nat)≠0 by decide)
          have xD:(convert s s (.slice (some ⟨b,0,none⟩) ob1.rows.length c)).run P w=.ok (.slice (some ⟨b,0,none⟩) ob1.rows.length c) (w.freeze ⟨b,cur.size,none⟩ 1):=by
            simp[convert,run_underlying hs,run_underlying he,markStringish,shape_of xP]
          refine⟨_,_,xD,updN ρ g,rel_drop (o':={ ob1 with ver:=ob1.ver+1 }) hr hb hg xP xV (by simp) rfl,Oj (o':={ ob1 with ver:=ob1.ver+1 }) hr hb hg xP xV (by simp) rfl,?_,by simp⟩;have xX:=Oj (o':={ ob1 with ver:=ob1.ver+1 }) hr hb hg xP xV (by simp) rfl;refine .sl 1 ob1.rows (some ob1.rows.length) ⟨b,0,none⟩ ob1.rows.length c rfl yh (fun k hk=>by simp at hk;omega) (fun r hr'=>by rw[yV r hr',xK]) b 0 (fun i j=>(cur[i*1+j]?).getD .nilFunc) (fun _=>rfl) (fun i r j d hi hj=>?_) (fun i r j d hi hj=>?_)
          · obtain ⟨q1, q2, u, q3, q4⟩ := hh i r j d hi hj;rw[xK]at q3;refine⟨?_,⟨by rw[xV.size];exact lt_of_heap xP,?_,?_⟩,q2 (by omega)⟩
            · simp only[World.cell?,xV.new,Nat.zero_add,q3,Option.isSome_none,Bool.false_eq_true,if_false,Option.getD_some]
            · intro hX;exact (hr.hid b _ hX).2 g hb
            intro g' hg';simp only[updN]at hg';split at hg'
            · simp at hg'
            rename_i xB;exact absurd (hr.inj g' g b hg' hb) xB
          obtain⟨q1,q2,u,q3,q4⟩:=hh i r j d hi hj;rw[xK]at q3;rw[q3];exact q4.mono xX
        simp at zO
      simp at h
    simp at h
  simp at h
theorem rngs_ok{t:TypeId}{s:ByteArray}(hr:Rel w ρ S.heap)(ht:P.underlying t=some .string):∃v w',(Instr.range t (.string s)).run P w=.ok v w'∧Vu w ρ S (.iter S.heap.length 0) (newAt S ⟨1,2,[[.str s,.int .i64 0]],0,3,false⟩) true v w':=by
  have xJ:=Vx.alloc w (.stringIter s 0);refine⟨.pointer (some ⟨w.heap.size,0,none⟩),w.alloc (.stringIter s 0),?_,_,rel_newiter (ob:=⟨1,2,[[.str s,.int .i64 0]],0,3,false⟩) hr xJ rfl (show (1:Nat)≠0 by decide) rfl,Ia hr xJ,?_,by simp⟩
  · unfold Instr.range;rw[Ag (run_underlying ht w)];rfl
  exact .iter _ 0 _ ⟨1,2,[[.str s,.int .i64 0]],0,3,false⟩ (by simp[newAt]) (Nat.le_refl _) (fun _=>by simp[upd])
theorem Tz{b pos:Nat}{s:ByteArray}(h:w.heap[b]?=some (.stringIter s pos)):(getObj b).run P w=.ok (.stringIter s pos) w:=by
 simp[getObj,Sem.run,h]
theorem run_setIter{b pos:Nat}{s:ByteArray}{o:Obj}(h:w.heap[b]?=some (.stringIter s pos)):(setObj b o).run P w=.ok () { w with heap:=w.heap.setIfInBounds b o }:=by
 simp[setObj,Sem.run,h]
theorem nexts_ok {ty : TypeId} {g ver : Nat} {r : D} {v : Value} {S' : St} {wr : Bool} (hr : Rel w ρ S.heap) (hx : VR w ρ S.heap (.iter g ver) v) (h : nextsD S g ver = some (r, S', wr)) :
    ∃u w',(Instr.next v true ty).run P w=.ok u w'∧Vu w ρ S r S' wr u w':=by
  unfold nextsD at h;split at h
  · rename_i ob zO;split at h
    · rename_i hk;split at h
      · rename_i s pos xH
        cases hx with | iter _ _ b ob1 hg hv hc =>
        unfold rowsOf at zO;simp only[hg]at zO;split at zO
        · rename_i e1;simp only[Oi]at zO;subst zO;subst e1;have hb:=hc rfl;obtain⟨s1,p1,h1,h2⟩:=hr.iter hb hg hk.1 (by rw[hk.2];decide);rw[xH]at h2;simp only[List.cons.injEq,D.str.injEq,D.int.injEq,and_true,true_and]at h2;obtain⟨rfl,rfl⟩:=h2;rw[Int.toNat_natCast]at h;have yh:∀c e f,Obj.stringIter s p1≠.cells c e f:=fun _ _ _ e=>by cases e
          have uR:=lt_of_heap h1;split at h
          · rename_i xE;simp only[Oi,Pi_]at h;obtain⟨rfl,rfl,rfl⟩:=h;have xV:=Vy.setObj (w:=w) (o:=.stringIter s (p1+(Utf8.decode s p1).2)) uR;refine⟨.tuple #[.bool true,goInt p1,.int .i32 (Utf8.decode s p1).1],_,?_,ρ,rel_iter hr hb hg hk.1 (by rw[hk.2];decide) h1 yh xV ⟨rfl,rfl,rfl,by simp[xH],rfl⟩ rfl,Lc hr hb hg hk.1 h1 yh xV ⟨rfl,rfl,rfl,by simp[xH],rfl⟩,?_,by simp⟩
            · unfold Instr.next
              simp only;rw[Ag (Tz h1)];simp only[xE,if_true];rw[Ag (run_setIter h1)];rfl
            have hv:VL w ρ S.heap [D.bool true,.int .i64 p1,.int .i32 (Utf8.decode s p1).1] [.bool true,goInt p1,.int .i32 (Utf8.decode s p1).1]:=.cons (.bool _) (.cons (.int _ _) (.cons (.int _ _) .nil));have xX:=Lc hr hb hg hk.1 h1 yh xV (o':={ ob1 with rows:=[[.str s,.int .i64 (p1+(Utf8.decode s p1).2:Nat)]] }) ⟨rfl,rfl,rfl,by simp[xH],rfl⟩;exact .tup _ [.bool true,goInt p1,.int .i32 (Utf8.decode s p1).1] rfl (fun j d v e1 e2=>(hv.get e1 e2).mono xX)
          rename_i xE;simp only[Oi,Pi_]at h;obtain⟨rfl,rfl,rfl⟩:=h;refine⟨.tuple #[.bool false],w,?_,Vu.pure hr (.tup [.bool false] [.bool false] rfl (fun j d v=>VL.get (.cons (.bool _) .nil)))⟩;unfold Instr.next
          simp only;rw[Ag (Tz h1)];simp only[xE,if_false];rfl
        simp at zO
      simp at h
    simp at h
  simp at h
theorem ext_none : Extern.allNextRows.lookup "" = none := by kernel_rfl
theorem ext_idx : Extern.allNextRows.lookup "internal/bytealg.IndexByteString" = none ∧ Extern.allGenericRows.lookup "internal/bytealg.IndexByteString" = none ∧ Extern.allTypedRows.lookup "internal/bytealg.IndexByteString" = none ∧ Extern.allRows.lookup "internal/bytealg.IndexByteString" = some Extern.BytealgIndexByte.indexByte := ⟨by kernel_rfl, by kernel_rfl, by kernel_rfl, by kernel_rfl⟩
theorem ext_cnt : Extern.allNextRows.lookup "internal/bytealg.CountString" = none ∧ Extern.allGenericRows.lookup "internal/bytealg.CountString" = none ∧ Extern.allTypedRows.lookup "internal/bytealg.CountString" = none ∧ Extern.allRows.lookup "internal/bytealg.CountString" = some Extern.BytealgCount.count := ⟨by kernel_rfl, by kernel_rfl, by kernel_rfl, by kernel_rfl⟩
theorem ext_esc : Extern.allNextRows.lookup "internal/abi.NoEscape" = none ∧ Extern.allGenericRows.lookup "internal/abi.NoEscape" = none ∧ Extern.allTypedRows.lookup "internal/abi.NoEscape" = none ∧ Extern.allRows.lookup "internal/abi.NoEscape" = some Extern.AbiNoEscape.same := ⟨by kernel_rfl, by kernel_rfl, by kernel_rfl, by kernel_rfl⟩
theorem run_ext {f : FuncId} {fn : Func} {name : String} {g : Array Value → Sem Value} {vs : Array Value} {v : Value} {w' : World} (hf : P.funcs[f]? = some fn) (hb : fn.body.isNone = true) (hn : fn.name = name) (ho : fn.origin = "") (xB : (name == "runtime.NumGoroutine") = false)
  (hx:Extern.allNextRows.lookup name=none∧Extern.allGenericRows.lookup name=none∧Extern.allTypedRows.lookup name=none∧Extern.allRows.lookup name=some g) (h:(g vs).run P w=.ok v w'):(callFunc f vs).run P w=.ok (.value v) w':=by
 obtain⟨h1,h2,h3,h4⟩:=hx;have hp:Sem.run P program w=.ok P w:=rfl;have zA:Extern.findNext fn=none:=by simp[Extern.findNext,hn,ho,h1,ext_none]
 have kg:Extern.find fn=some g:=by simp[Extern.find,hn,h2,h3,h4]
 unfold callFunc;rw[Ag hp];simp only[hf];rw[if_neg (by rw[hn,xB];simp),if_pos hb];rw[Ag (a:=()) (w':=w) rfl];simp only[zA,kg];rw[Ag h];rfl
theorem idxb_run{s:ByteArray}{c:Int}:(Extern.BytealgIndexByte.indexByte #[.string s,.int .u8 c]).run P w=.ok (.int .i64 (match (List.range s.size).find? (fun i=>s[i]! == UInt8.ofNat c.toNat) with | some i=>(i:Int) | none=>-1)) w:=by
 have hdef:Extern.BytealgIndexByte.indexByte #[.string s,.int .u8 c]=(do
   let b ←Extern.Bytes.bytesOf (.string s)
   let c ←Extern.Bytes.asByte (.int .u8 c)
   match (List.range b.size).find? fun i=>b[i]! == c with
   | some i=>pure (goInt i)
   | none=>pure (goInt (-1))):=rfl
 rw[hdef,Ag (a:=s) (w':=w) rfl,Ag (a:=UInt8.ofNat c.toNat) (w':=w) rfl];cases (List.range s.size).find? (fun i=>s[i]! == UInt8.ofNat c.toNat)<;>rfl
theorem cntb_run{s:ByteArray}{c:Int}:(Extern.BytealgCount.count #[.string s,.int .u8 c]).run P w=.ok (.int .i64 (s.foldl (fun n x=>if x==UInt8.ofNat c.toNat then n+1 else n) (0:Nat))) w:=by
 have hdef:Extern.BytealgCount.count #[.string s,.int .u8 c]=(do
   let b ←Extern.Bytes.bytesOf (.string s)
   let c ←Extern.Bytes.asByte (.int .u8 c)
   pure (goInt (b.foldl (fun n x=>if x==c then n+1 else n) (0:Nat)))):=rfl
 rw[hdef,Ag (a:=s) (w':=w) rfl,Ag (a:=UInt8.ofNat c.toNat) (w':=w) rfl];rfl
theorem appNoneS{t u ty e:TypeId}{i:TypeInfo}(ht:P.underlying t=some (.slice e))(hu:P.underlying u=some .string)(hi:P.info? e=some i){A:Option Addr}{n c:Nat}(yh:n≤c){s:ByteArray}(hs:s.size=0) :
  (Builtin.append_ #[t,u] ty #[.slice A n c,.string s]).run P w=.ok (.slice A n c) w:=by
 cases A with
 | none=>simp[Builtin.append_,run_underlying ht,run_underlying hu,sizeOf,typeInfo,hi,Builtin.lenOf,Builtin.firstCells,yh,hs]
 | some a=>simp[Builtin.append_,run_underlying ht,run_underlying hu,sizeOf,typeInfo,hi,Builtin.lenOf,Builtin.firstCells,yh,hs,storeCells]
theorem appstr_ok{t u ty e:TypeId}{i:TypeInfo}{kind:Nat}{z:List D}{s r:D}{vs:Value}{str:ByteArray}{S':St}{wr:Bool}(hr:Rel w ρ S.heap)(ht:P.underlying t=some (.slice e))(hu:P.underlying u=some .string)(hi:P.info? e=some i)(hn:Dn P e=some 1)(hz:I8 P e=some z)(qP:z.length=1)(hb:0<i.bytes)(hk:kind=0∨kind=1∨kind=2)
    (hs:VR w ρ S.heap s vs) (h:Cs e 1 i.bytes kind s (Cu str) S=some (r,S',wr)) :
    ∃v w',(Builtin.append_ #[t,u] ty #[vs,.string str]).run P w=.ok v w'∧Vu w ρ S r S' wr v w':=by
  obtain⟨i1,zv,zV,wP,hzc,_,_⟩:=Hl (w:=w) (ρ:=ρ) (H:=S.heap) hz;rw[hi]at zV;injection zV with zV;subst zV;obtain⟨i2,d2,zN,hd2,xK,h0⟩:=Dw hn;rw[hi]at zN;injection zN with zN;subst zN;have xg:(Cu str).length=str.size:=by simp[Cu]
  refine U3 hr hi hn hzc qP hb hk hs (fun r hr'=>by
    simp only[Cu,List.mem_map]at hr';obtain⟨b,_,rfl⟩:=hr'
    rfl) ?_ ?_ h
  · intro xB A m c hm;exact appNoneS ht hu hi hm (by rw[←xg,xB];rfl)
  intro xB;refine⟨Lib.strCells str,by rw[Lib.strCells_length,xg,Nat.mul_one],Lib.strCells_oneCell str,fun i r j d hi' hj=>?_,fun yK k1 k2=>?_,fun bb sLen sCap olds xI holds hg k1 k2=>?_,fun g sLen sCap cur hg wJ yQ=>?_⟩
  · simp only [Cu, Lp_, Om] at hi';obtain⟨b,hb',rfl⟩:=hi';have hj0:j=0:=by have:=lt_of_some hj;simp at this;exact this
    subst hj0;simp at hj;subst hj;refine⟨rfl,fun _=>rfl,.int .u8 b.toNat,?_,.int _ _⟩;simp[Lib.strCells,hb']
  · rw [xg] at yK k1 k2 ⊢;have:=run_append_nil_string (P:=P) w t u ty e i zv ht hu hi wP str yK k1 k2;have e:Array.map (fun b:UInt8=>Value.int .u8 (b.toNat:Int)) str.data=(Lib.strCells str).toArray:=by apply Array.ext';simp[Lib.strCells]
    rw[this,e]
  · rw [xg] at hg k1 k2 ⊢;exact Lib.run_append_grow_string (P:=P) w t u ty e i zv ht hu hi wP bb sLen sCap olds xI holds str hg k1 k2
  rw[xg]at wJ ⊢;rw[Lib.strCells_length,xK,Nat.mul_one]at yQ ⊢;exact Lib.run_append_room_string (P:=P) w t u ty e i ht hu hi xK g sLen sCap cur hg str wJ yQ
theorem appmk_ok{t u ty e:TypeId}{i:TypeInfo}{n:Nat}{z:List D}{k kn:IntKind}{m:Int}{r:D}{S':St}{wr:Bool}(hr:Rel w ρ S.heap)(ht:P.underlying t=some (.slice e))(hu:P.underlying u=some (.int kn))(hi:P.info? e=some i)(hn:Dn P e=some n)(hz:I8 P e=some z)(qP:z.length=n){kd:Nat}(uI:kd=0∨kd=2)(hb:0<i.bytes)
    (h:(if 0<m∧m.toNat*i.bytes≤140737488355328 then some (D.msl S.heap.length 0 0 m.toNat none,newAt S ⟨e,n,List.replicate m.toNat z,0,kd,true⟩,true) else none)=some (r,S',wr)) :
    ∃v w',(Builtin.append_ #[t,u] ty #[.slice none 0 0,.int k m]).run P w=.ok v w'∧Vu w ρ S r S' wr v w':=by
  obtain⟨i1,zv,zV,wP,hzc,xA,yN⟩:=Hl (w:=w) (ρ:=ρ) (H:=S.heap) hz;rw[hi]at zV;injection zV with zV;subst zV;obtain⟨i2,d2,zN,hd2,xK,h0⟩:=Dw hn;rw[hi]at zN;injection zN with zN;subst zN;split at h
  · rename_i hc;obtain⟨hm,ko⟩:=hc;simp only[Oi,Pi_]at h;obtain⟨rfl,rfl,rfl⟩:=h;obtain⟨q,rfl⟩:∃q:Nat,m=q:=⟨m.toNat,by omega⟩;rw[Int.toNat_natCast]at ko ⊢;have h1:q*1≤q*i.bytes:=Nat.mul_le_mul_left _ hb;have hq:0<q:=by omega
    have hml:q≤maxLen:=by simp only[maxLen];omega
    have xD:=Lib.run_append_nil_zeros (P:=P) w t u ty e i zv k kn ht hu hi wP q hq (by rw[xK];exact h0) (by omega) (by omega);have xJ:=Vx.drewAlloc w (.cells (Builtin.zeroCells zv.cells q++Builtin.zeroCells zv.cells (grownCap w q 0 e-q)) e);have wC:=grownCap_ge w q 0 e;have uy:=grownCap_le_maxLen w q 0 e hml;subst qP;have hzs:zv.cells.size=z.length:=hzc.1
    have uK:(Builtin.zeroCells zv.cells q++Builtin.zeroCells zv.cells (grownCap w q 0 e-q)).size=grownCap w q 0 e*z.length:=by
      simp only[Array.size_append,size_zeroCells,hzs,←Nat.add_mul];congr 1;omega
    have zD:=RowsIn.replicate (kk:=True) hzc xA yN q h0
    have xH:∀i' r' j d,(List.replicate q z)[i']?=some r'→r'[j]?=some d→d.Vv=true∧d.free=true∧∃v,(Builtin.zeroCells zv.cells q++Builtin.zeroCells zv.cells (grownCap w q 0 e-q))[i'*z.length+j]?=some v∧VR w ρ S.heap d v:=by
      intro i' r' j d hi' hj;obtain⟨q1,q2,v,q3,q4⟩:=zD.2 i' r' j d hi' hj;refine⟨q1,q2 trivial,v,?_,q4⟩;have e1:Builtin.zeroCells zv.cells q=(Array.range (q*z.length)).map (zv.cells[· % zv.cells.size]!):=by rw[←hzs];rfl
      rw[←e1]at q3;rw[Array.getElem?_append_left (Array.getElem?_eq_some_iff.1 q3).1];exact q3
    refine⟨_,_,xD,_,Kl (ob:=⟨e,z.length,List.replicate q z,0,kd,true⟩) hr xJ h0 ⟨_,uK,by simpa using wC,uy,by simp⟩ (fun r hr'=>by rw[List.eq_of_mem_replicate hr']) (uI.elim .inl fun h=>.inr (.inr h)) (fun i' r' j d hi' hj=>?_),Ia hr xJ,?_,by simp⟩
    · obtain ⟨q1, q2, q3⟩ := xH i' r' j d hi' hj;exact⟨q1,fun _=>q2,q3⟩
    refine .msl _ 0 0 _ none _ _ ⟨e,z.length,List.replicate q z,0,kd,true⟩ wC (fun k hk=>by cases hk) (by simp[newAt]) (Nat.le_refl _) (by show kd≠3;omega) fun _=>⟨w.heap.size,by simp[upd],by simp,fun _=>by simp,fun _=>⟨_,xJ.new,by simpa using uK⟩⟩
  simp at h
end
open Go.RowKit
section
variable {P:Program} {w:World} {ρ:Vo} {S:St}
theorem over_rows{run:Sem Value}{kind g ver lo n m c:Nat}{cap:Option Nat}{A:Addr}{ob:Vi}{new:List (List D)}{news:List Value}
    (hr:Rel w ρ S.heap) (hs:VR w ρ S.heap (.msl g ver lo n cap) (.slice (some A) n c)) (hg:S.heap[g]?=some ob) (hv:ob.ver=ver) (xK:ob.sz=1) (zC:kW kind ob.kind=true)
    (hm:new.length=m) (hmn:m≤n) (uh:news.length=m) (hnew1:∀r∈new,r.length=1)
    (rU:∀(i:Nat) (d:D),new[i]?=some [d]→d.Vv=true∧(kind≠0→d.free=true)∧∃v,news[i]?=some v∧VR w ρ S.heap d v)
    (qz:m=0→run.run P w=.ok (goInt 0) w)
    (xD:∀(b o:Nat) (cur:Array Value) (e:TypeId),m≠0→w.heap[b]?=some (.cells cur e (0,0))→o+m≤cur.size→A=⟨b,o,none⟩→run.run P w=.ok (goInt ((m:Nat):Int)) (w.setRow b (cur.toList.take o++news++cur.toList.drop (o+m)).toArray)) :
    ∃v w',run.run P w=.ok v w'∧Vu w ρ S (.int .i64 m) (setAt S g { ob with rows:=ob.rows.take lo++new++ob.rows.drop (lo+m) }) true v w':=by
  cases hs with
  | msl _ _ _ _ _ _ _ ob1 yh xM yT yD xY xP =>
  rw[hg]at yT;injection yT with yT;subst yT;obtain⟨b,hρ,xI,hA,_⟩:=xP hv;obtain⟨o1,xQ,cur,hc,hz,⟨cc,yR,yB,uy,uL⟩,hl,hkk',hh⟩:=hr.cel hρ hg xY;rw[hg]at xQ;injection xQ with xQ;subst xQ;obtain⟨hk01,kH,kG⟩:=kW_ok zC;rw[xK]at hl hh yR hA;simp only[Nat.mul_one]at yR hh hA
  have hrl':(ob.rows.take lo++new++ob.rows.drop (lo+m)).length=ob.rows.length:=by
    simp only[Ll_,List.length_take,List.length_drop];omega
  have wF:({ ob with rows:=ob.rows.take lo++new++ob.rows.drop (lo+m) }:Vi).sz=ob.sz∧({ ob with rows:=ob.rows.take lo++new++ob.rows.drop (lo+m) }:Vi).elem=ob.elem∧({ ob with rows:=ob.rows.take lo++new++ob.rows.drop (lo+m) }:Vi).kind=ob.kind∧ob.rows.length≤({ ob with rows:=ob.rows.take lo++new++ob.rows.drop (lo+m) }:Vi).rows.length∧ob.ver≤({ ob with rows:=ob.rows.take lo++new++ob.rows.drop (lo+m) }:Vi).ver:=⟨rfl,rfl,rfl,by show ob.rows.length≤(ob.rows.take lo++new++ob.rows.drop (lo+m)).length;omega,Nat.le_refl _⟩
  have zh:∀r∈ob.rows.take lo++new++ob.rows.drop (lo+m),r.length=ob.sz:=by
    intro r hr';rw[xK];rcases List.mem_append.1 hr' with h1 | h1
    · rcases List.mem_append.1 h1 with h2 | h2
      · exact hl r (List.mem_of_mem_take h2)
      exact hnew1 r h2
    exact hl r (List.mem_of_mem_drop h1)
  by_cases hm0:m=0
  · have hnew : new = [] := List.eq_nil_of_length_eq_zero (hm.trans hm0);subst hnew;have xV:Vy w w b (.cells cur ob.elem (0,0)):=⟨rfl,rfl,rfl,rfl,hc,fun _ _=>rfl⟩;have yY:ob.rows.take lo++[]++ob.rows.drop (lo+m)=ob.rows:=by rw[hm0];simp
    refine⟨_,w,qz hm0,ρ,Nf xY hr hρ hg hc xV rfl wF (fun _ _ _=>rfl) ⟨cc,by rw[xK,Nat.mul_one];exact yR,by show _≤cc;rw[yY];exact yB,uy,by intro h;show _=(_:List (List D)).length;rw[yY];exact uL h⟩ zh (by rw[show ({ ob with rows:=ob.rows.take lo++[]++ob.rows.drop (lo+m) }:Vi).rows=ob.rows from yY];intro i r j d h1 h2;have:=hh i r j d h1 h2;simpa [xK] using this),Lb hr hρ hg hc xV rfl wF (fun _ _ _=>rfl),by rw[hm0];exact .int _ _,by simp⟩
  have kP:=hA (.inl (by omega));have yQ:lo+m≤cur.size:=by omega
  have hrn:=xD b lo cur ob.elem hm0 hc yQ kP;have xV:=Vy.setRow (cs:=(cur.toList.take lo++news++cur.toList.drop (lo+m)).toArray) hc
  have yH:∀q:Nat,(cur.toList.take lo++news++cur.toList.drop (lo+m)).toArray[q]?=if lo≤q∧q<lo+m then news[q-lo]? else cur[q]?:=by
    intro q;have:=M7 (cur:=cur.toList) (vs:=news) (o:=lo) (by rw[uh];simpa using yQ) q;rw[uh]at this;simpa using this
  have yj:(cur.toList.take lo++news++cur.toList.drop (lo+m)).toArray.size=cur.size:=by
    simp only[List.size_toArray,Ll_,List.length_take,List.length_drop,Array.length_toList];omega
  generalize (cur.toList.take lo++news++cur.toList.drop (lo+m)).toArray=cur' at xV yH yj hrn;have uo:ob.kind=1→∀q,q<ob.rows.length*ob.sz→cur'[q]?=cur[q]?:=fun h=>absurd h hk01
  have xH:∀i' r' j d,(ob.rows.take lo++new++ob.rows.drop (lo+m))[i']?=some r'→r'[j]?=some d→d.Vv=true∧(ob.kind≠0→d.free=true)∧∃v,cur'[i'*ob.sz+j]?=some v∧VR w ρ S.heap d v:=by
    intro i' r' j d hi' hj;have hr1:=zh r' (Lm hi');rw[xK]at hr1 ⊢;obtain⟨d',rfl⟩:∃d',r'=[d']:=List.length_eq_one_iff.1 hr1;have hj0:j=0:=by have:=lt_of_some hj;simp at this;exact this
    subst hj0;simp only[Lz,Oi]at hj;subst hj;simp only[Nat.mul_one,Nat.add_zero];have uV:(ob.rows.take lo).length=lo:=by rw[List.length_take];omega
    rw[Lo_]at hi';by_cases c1:i'<lo
    · rw [La_ (by omega), List.getElem?_take_of_lt c1] at hi';obtain⟨q1,q2,v,q3,q4⟩:=hh i' _ 0 d' hi' rfl;refine⟨q1,q2,v,?_,q4⟩;rw[yH,if_neg (by omega)];simpa using q3
    rw[Lr_ (by omega),uV]at hi';by_cases c2:i'-lo<m
    · rw [La_ (by omega)] at hi';obtain⟨q1,q2,v,q3,q4⟩:=rU (i'-lo) d' hi';refine⟨q1,fun h=>q2 (kH h),v,?_,q4⟩;rw[yH,if_pos (by omega)];exact q3
    rw[Lr_ (by omega),List.getElem?_drop]at hi';obtain⟨q1,q2,v,q3,q4⟩:=hh _ _ 0 d' hi' rfl;refine⟨q1,q2,v,?_,q4⟩;rw[yH,if_neg (by omega)];rw[Nat.add_zero,show lo+m+(i'-lo-new.length)=i' by omega]at q3;exact q3
  exact⟨_,_,hrn,ρ,Nf xY hr hρ hg hc xV yj wF uo ⟨cc,by rw[yj,xK,Nat.mul_one];exact yR,by show (ob.rows.take lo++new++ob.rows.drop (lo+m)).length≤cc;omega,uy,fun h=>by show cc=(ob.rows.take lo++new++ob.rows.drop (lo+m)).length;rw[hrl'];exact uL h⟩ zh xH,Lb hr hρ hg hc xV yj wF uo,.int _ _,by simp⟩
theorem Tf {t u ty e : TypeId} {kind : Nat} {d r : D} {vd vx : Value} {S' : St} {wr : Bool} {src : List (List D)} {cells : List Value} (hr : Rel w ρ S.heap) (ht : P.underlying t = some (.slice e)) (hs1 : (P.info? e).map (·.size) = some 1)
    (hd:VR w ρ S.heap d vd) (yB:cells.length=src.length) (hsrc1:∀r∈src,r.length=1)
    (wm:∀(i:Nat) (d:D),src[i]?=some [d]→d.Vv=true∧(kind≠0→d.free=true)∧∃v,cells[i]?=some v∧VR w ρ S.heap d v)
    (qz:∀(A:Option Addr) (n c:Nat),min src.length n=0→(Builtin.copy_ #[t,u] ty #[.slice A n c,vx]).run P w=.ok (goInt 0) w)
    (xD:∀(b o n c:Nat) (cur:Array Value) (q:TypeId),min src.length n≠0→w.heap[b]?=some (.cells cur q (0,0))→o+min src.length n≤cur.size→(Builtin.copy_ #[t,u] ty #[.slice (some ⟨b,o,none⟩) n c,vx]).run P w=.ok (goInt ((min src.length n:Nat):Int)) (w.setRow b (cur.toList.take o++cells.take (min src.length n)++cur.toList.drop (o+min src.length n)).toArray))
    (h:H5 1 kind d src S=some (r,S',wr)):∃v w',(Builtin.copy_ #[t,u] ty #[vd,vx]).run P w=.ok v w'∧Vu w ρ S r S' wr v w':=by
  unfold H5 at h;split at h
  · cases hd;simp only[Oi,Pi_]at h;obtain⟨rfl,rfl,rfl⟩:=h;exact⟨_,w,qz none 0 0 (by simp),Vu.pure hr (.int _ _)⟩
  · split at h
    · rename_i s rows cap hc;simp only[Oi,Pi_]at h;obtain⟨rfl,rfl,rfl⟩:=h
      cases hd with
      | sl _ _ _ A n c hn =>
        refine⟨_,w,qz (some A) n c ?_,Vu.pure hr (.int _ _)⟩;rcases hc.2 with h1 | h1
        · have : src = [] := by simpa using h1
          simp[this]
        have:rows=[]:=by simpa using h1
        simp[hn,this]
    simp at h
  · rename_i g ver lo n cap;unfold rowsOf at h
    cases hd with
    | msl _ _ _ _ _ A c ob yh xM hg yD xY xP =>
    simp only[hg]at h;by_cases hv:ob.ver=ver
    · subst hv;simp only[if_true]at h;split at h
      · rename_i hc;simp only[Oi,Pi_]at h;obtain⟨rfl,rfl,rfl⟩:=h;refine over_rows (run:=Builtin.copy_ #[t,u] ty #[.slice (some A) n c,vx]) (m:=min src.length n) (new:=src.take (min src.length n)) (news:=cells.take (min src.length n)) hr (.msl g ob.ver lo n cap A c ob yh xM hg yD xY xP) hg rfl hc.1 hc.2 (by rw[List.length_take];omega) (by omega) (by rw[List.length_take,yB];omega) (fun r hr'=>hsrc1 r (List.mem_of_mem_take hr')) (fun i d hi=>?_) (fun h0=>qz _ _ _ h0) (fun b o cur q h0 yR yQ hA=>?_)
        · have zi : i < min src.length n := by have := lt_of_some hi; rw [List.length_take] at this; omega
          rw[List.getElem?_take_of_lt zi]at hi;obtain⟨q1,q2,v,q3,q4⟩:=wm i d hi;exact⟨q1,q2,v,by rw[List.getElem?_take_of_lt zi];exact q3,q4⟩
        subst hA;exact xD b o n c cur q h0 yR yQ
      simp at h
    simp[hv]at h
  simp at h
theorem copy_ok{t ty e:TypeId}{kind:Nat}{d x r:D}{vd vx:Value}{S':St}{wr:Bool}{src:List (List D)}(hr:Rel w ρ S.heap)(ht:P.underlying t=some (.slice e))(hn:Dn P e=some 1)
    (hd:VR w ρ S.heap d vd) (hx:VR w ρ S.heap x vx) (vQ:Oz kind S 1 x=some src) (h:H5 1 kind d src S=some (r,S',wr)) :
    ∃v w',(Builtin.copy_ #[t,t] ty #[vd,vx]).run P w=.ok v w'∧Vu w ρ S r S' wr v w':=by
  obtain⟨i,d2,hi,hd2,xK,h0⟩:=Dw hn;have hs1:(P.info? e).map (·.size)=some 1:=by rw[hi];simp[xK]
  obtain⟨A,c,rfl,yV,hs⟩:=srcK_ok hr hx vQ;by_cases he:src=[]
  · subst he;refine Tf (cells:=[]) hr ht hs1 hd rfl (by simp) (by simp) (fun A' n c' hm=>?_) (fun b o n c' cur q hm=>by simp at hm) h;exact run_copy_none (P:=P) w t t ty e A' A n c' _ c ht hs1 (by simp)
  obtain⟨b0,o0,f,rfl,hf⟩:=hs he
  have uE:∀(i:Nat) (d:D),src[i]?=some [d]→w.cell? ⟨b0,o0+i,none⟩=some (f i 0)∧VR w ρ S.heap d (f i 0)∧d.Vv=true∧(kind≠0→d.free=true):=by
    intro i d hi;obtain⟨q1,q2,q3,q4⟩:=hf i [d] 0 d hi rfl;rw[Nat.mul_one,Nat.add_zero]at q1;exact⟨q1,q2,q3,q4⟩
  have vH:∀i,i<src.length→∃d,src[i]?=some [d]:=by
    intro i hi;have h1:=yV _ (List.getElem_mem hi);obtain⟨d,hd⟩:=List.length_eq_one_iff.1 h1;exact⟨d,by rw[Lg hi,hd]⟩
  have uL:∀(j:Nat) (v:Value),((List.range src.length).map fun i=>f i 0)[j]?=some v→j<src.length∧v=f j 0:=by
    intro j v hj;have yO:=lt_of_some hj;simp only[List.length_map,List.length_range]at yO;rw[Lp_,List.getElem?_range yO]at hj;simp only[Option.map_some,Oi]at hj;exact⟨yO,hj.symm⟩
  refine Tf (cells:=(List.range src.length).map fun i=>f i 0) hr ht hs1 hd (by simp) yV (fun i d hi=>?_) (fun A' n c' hm=>?_) (fun b o n c' cur q hm yR yQ=>?_) h
  · obtain ⟨q1, q2, q3, q4⟩ := uE i d hi;have zi:=lt_of_some hi;exact⟨q3,q4,f i 0,by rw[Lp_,List.getElem?_range zi];rfl,q2⟩
  · exact run_copy_none (P:=P) w t t ty e A' (some ⟨b0,o0,none⟩) n c' _ c ht hs1 hm
  have hl:(((List.range src.length).map fun i=>f i 0).take (min src.length n)).length=min src.length n:=by simp
  have:=run_copy_row (P:=P) w t t ty e b o n c' ⟨b0,o0,none⟩ src.length c cur q (((List.range src.length).map fun i=>f i 0).take (min src.length n)) ht hs1 yR hl (fun j v hj=>?_) (by rw[hl];exact yQ) (fun v hv=>?_)
  · rw [hl] at this;exact this
  · have yO : j < min src.length n := by have := lt_of_some hj; rw [hl] at this; exact this
    rw[List.getElem?_take_of_lt yO]at hj;obtain⟨h1,rfl⟩:=uL j v hj;obtain⟨d,hd⟩:=vH j h1;rw[add_plain];exact (uE j d hd).1
  obtain⟨j,hj,rfl⟩:=List.mem_iff_getElem.1 (List.mem_of_mem_take hv);simp only[List.length_map,List.length_range]at hj;obtain⟨d,hd⟩:=vH j hj;simp only[List.getElem_map,List.getElem_range];exact ((uE j d hd).2.1.oneCell (uE j d hd).2.2.1).1
theorem copys_ok{t u ty e:TypeId}{kind:Nat}{d r:D}{s:ByteArray}{vd:Value}{S':St}{wr:Bool}(hr:Rel w ρ S.heap)(ht:P.underlying t=some (.slice e))(hn:Dn P e=some 1)
    (hd:VR w ρ S.heap d vd) (h:H5 1 kind d (Cu s) S=some (r,S',wr)) :
    ∃v w',(Builtin.copy_ #[t,u] ty #[vd,.string s]).run P w=.ok v w'∧Vu w ρ S r S' wr v w':=by
  obtain⟨i,d2,hi,hd2,xK,h0⟩:=Dw hn;have hs1:(P.info? e).map (·.size)=some 1:=by rw[hi];simp[xK]
  have hbl:(Cu s).length=s.size:=by simp[Cu]
  have yB:(Lib.byteCells s.data.toList).length=s.size:=by rw[Lib.byteCells_length];simp
  refine Tf (cells:=Lib.byteCells s.data.toList) hr ht hs1 hd (by rw[yB,hbl]) (fun r hr'=>?_) (fun i d hi=>?_) (fun A n c hm=>?_) (fun b o n c cur q hm yR yQ=>?_) h
  · simp only [Cu, List.mem_map] at hr';obtain⟨_,_,rfl⟩:=hr';rfl
  · simp only [Cu, Lp_, Om, List.cons.injEq, and_true] at hi;obtain⟨b,hb,rfl⟩:=hi;refine⟨rfl,fun _=>rfl,.int .u8 b.toNat,?_,.int _ _⟩;simp[Lib.byteCells,hb]
  · rw [hbl] at hm;simp only[Builtin.copy_,Sem.run_bind];cases A<;>simp[run_underlying ht,Builtin.lenOf,Builtin.firstCells,sizeOf,typeInfo,hi,hm,storeCells,Result.andThen]
  rw[hbl]at hm yQ ⊢;have hl:((Lib.byteCells s.data.toList).take (min s.size n)).length=min s.size n:=by rw[List.length_take,yB];omega
  have xX:=run_storeCells_at P b o q ((Lib.byteCells s.data.toList).take (min s.size n)) 0 cur w yR (by rw[hl];simpa using yQ) (fun v hv=>Lib.byteCells_one _ v (List.mem_of_mem_take hv));rw[hl]at xX;simp only[Nat.add_zero]at xX;simp[Builtin.copy_,run_underlying ht,Builtin.lenOf,Builtin.firstCells,sizeOf,typeInfo,hi];rw[show List.take (min s.size n) (List.map (fun b:UInt8=>Value.int IntKind.u8 (b.toNat:Int)) s.data.toList)=(Lib.byteCells s.data.toList).take (min s.size n) from rfl,xX];simp[Result.andThen]
theorem digits_u8:∀(n t:Nat) (acc:Array Value),(∀(i:Nat) (v:Value),acc[i]?=some v→∃k:Int,v=.int .u8 k)→∀(i:Nat) (v:Value),(Extern.BytealgMakeNoZero.digits n t acc)[i]?=some v→∃k:Int,v=.int .u8 k
 | 0,_,_,h=>h
 | n + 1, t, acc, h => by
  rw[Extern.BytealgMakeNoZero.digits];refine digits_u8 n _ _ fun i v hi=>?_;rw[Array.getElem?_push]at hi;split at hi
  ·
   simp only[Oi]at hi;exact⟨_,hi.symm⟩
  exact h i v hi
theorem mknz_run(ps:Array TypeId){t e:TypeId}(ht:P.underlying t=some (.slice e))(n:Nat)(hn:n≤140737488355328) :
  ∃cs:Array Value,(Extern.BytealgMakeNoZero.makeNoZero ps #[t] #[.int .i64 n]).run P w=.ok (.slice (some ⟨w.heap.size,0,none⟩) n cs.size) (w.drew.drew.alloc (.cells cs e))∧n≤cs.size∧cs.size≤maxLen∧∀(i:Nat) (v:Value),cs[i]?=some v→∃k:Int,v=.int .u8 k:=by
 obtain⟨cs,h1,h2,h3⟩:=Lib.run_makeNoZero (P:=P) w ps t e ht n (by omega);refine⟨cs,h1,h2,h3 (by simp only[maxLen];omega),?_⟩
 have hdef:Extern.BytealgMakeNoZero.makeNoZero ps #[t] #[.int .i64 n] =
   (do
    let .slice elem ← underlying t | stuck "bytealg.MakeNoZero: slice type expected"
    if (n : Int) < 0 || (n : Int) > 2 ^ 48 then runtimePanic (.error "makeslice: len out of range")
    let cap ←choose (.appendCap (n:Int).toNat 0 elem)
    askRoom cap
    let bytes ← choose (.extern "internal/bytealg.MakeNoZero.bytes" 0)
    let a ←newRow elem (Extern.BytealgMakeNoZero.digits cap bytes #[])
    pure (.slice (some a) (n:Int).toNat cap)):=rfl
 rw[hdef]at h1;have g1:¬(n:Int)<0:=by omega
 have g2:¬(281474976710656:Int)<(n:Int):=by omega
 simp[run_underlying ht,g1,g2,Question.forced,newRow]at h1;obtain⟨_,h5⟩:=h1;have h6:=congrArg (fun w':World=>w'.heap[w.heap.size]?) h5;have e1:∀o:Obj,(w.drew.drew.alloc o).heap[w.heap.size]?=some o:=fun o=>heap_alloc_new w.drew.drew o;simp only[e1,Oi,Obj.cells.injEq]at h6;obtain⟨h6,_⟩:=h6;rw[←h6];exact digits_u8 _ _ _ (by simp)
theorem drew2_add(w:World)(o:Obj):Vx w (w.drew.drew.alloc o) o:=⟨rfl,rfl,rfl,by simp,heap_alloc_new w.drew.drew o,fun k h=>heap_alloc_old w.drew.drew o h⟩
theorem mknz_ok(ps:Array TypeId){t e:TypeId}{k:IntKind}{n:Int}(hr:Rel w ρ S.heap)(ht:P.underlying t=some (.slice e))(hk:k=.i64)(h0:0≤n)(hn:n≤140737488355328) :
    ∃v w',(Extern.BytealgMakeNoZero.makeNoZero ps #[t] #[.int k n]).run P w=.ok v w'∧Vu w ρ S (.msl S.heap.length 0 0 n.toNat none) (newAt S ⟨e,1,List.replicate n.toNat [.junk],0,2,true⟩) true v w':=by
  subst hk;obtain⟨m,rfl⟩:∃m:Nat,n=m:=⟨n.toNat,by omega⟩;simp only[Int.toNat_natCast];obtain⟨cs,h1,h2,h3,h4⟩:=mknz_run (P:=P) (w:=w) ps ht m (by omega);have xJ:=drew2_add w (.cells cs e);refine⟨_,_,h1,_,Kl (ob:=⟨e,1,List.replicate m [.junk],0,2,true⟩) hr xJ (by simp) ⟨cs.size,by simp,by simpa using h2,h3,by simp⟩ (fun r hr'=>by rw[List.eq_of_mem_replicate hr'];rfl) (.inr (.inr rfl)) (fun i' r' j d hi' hj=>?_),Ia hr xJ,?_,by simp⟩
  · have hr' := List.eq_of_mem_replicate (Lm hi');subst hr';have zi:i'<m:=by have:=lt_of_some hi';simpa using this
    have hj0:j=0:=by have:=lt_of_some hj;simp at this;exact this
    subst hj0;simp only[Lz,Oi]at hj;subst hj;have hq:i'<cs.size:=by omega
    obtain⟨q,hq2⟩:=h4 i' cs[i'] (Array.getElem?_eq_getElem hq);refine⟨rfl,fun _=>rfl,cs[i'],by simp[hq],?_⟩;rw[hq2];exact .junk q
  refine .msl _ 0 0 _ none _ _ ⟨e,1,List.replicate m [.junk],0,2,true⟩ h2 (fun k hk=>by cases hk) (by simp[newAt]) (Nat.le_refl _) (by simp) fun _=>⟨w.heap.size,by simp[upd],by simp,fun _=>by simp,fun _=>⟨_,xJ.new,by simp⟩⟩
theorem checkKeyS : ∀ (d : Nat) (t : TypeId) (V6 : List Nat), Gf P d t = some V6 → ∀ (b : Bool) (k : Nat) (a : D) (va : Value), VR w ρ S.heap a va → a.val = true → a.cells.length = V6.length → (Hf P t = true → ∃ cs, a = .agg cs) →
    (Instr.checkKey b (d+k) t va).run P w=.ok () w
  | 0,t,V6,h=>by simp[Gf]at h
  | d + 1, t, V6, h => by
    intro b k a va h1 ha xg hag;rw[show d+1+k=(d+k)+1 by omega];simp only[Gf]at h;split at h
    · rename_i kk hu;simp[Instr.checkKey,run_underlying hu]
    · rename_i hu;simp[Instr.checkKey,run_underlying hu]
    · rename_i hu;simp[Instr.checkKey,run_underlying hu]
    · rename_i fs hu;split at h
      · simp at h
      obtain⟨xs,rfl⟩:=hag (by simp[Hf,hu])
      cases h1 with | agg _ va yX yC hh1 =>
      have key:∀(fl:List Field) (o:Nat) (fm:List Nat),eqFields P (Gf P d) fl o=some fm→o+fm.length≤xs.length →
          (forIn fl PUnit.unit (fun (f : Field) (_ : PUnit) => (if f.name ≠ "_" then (do Instr.checkKey b (d + k) f.type (← part f.type va.toArray f.offset); pure (ForInStep.yield PUnit.unit)) else pure (ForInStep.yield PUnit.unit) : Sem (ForInStep PUnit)))).run P w = .ok PUnit.unit w := by
        intro fl
        induction fl with
        | nil=>intro o fm hf zx;simp
        | cons f fl ihl =>
          intro o fm hf zx;simp only[eqFields]at hf;split at hf
          · simp at hf
          rename_i qC;simp only[not_or,ne_eq,Decidable.not_not]at qC;obtain⟨yt,hoff⟩:=qC;split at hf
          · rename_i fa m xR xK;split at hf
            · rename_i rX;simp only[Om]at hf;obtain⟨fm',hf',rfl⟩:=hf;simp only[Ll_]at zx
              have uE:Hf P f.type=false→m=1:=by
                intro hg
                cases d with
                | zero=>simp[Gf]at xR
                | succ d' =>
                  simp only[Gf]at xR;split at xR
                  · simp only[Oi]at xR;subst xR;exact rX.symm
                  · simp only[Oi]at xR;subst xR;exact rX.symm
                  · simp only[Oi]at xR;subst xR;exact rX.symm
                  · rename_i hu';unfold Hf at hg;rw[hu']at hg;simp at hg
                  simp at xR
              obtain⟨pa,a1,a2,a3,a4⟩:∃p,Ay xs o m (Hf P f.type)=some p∧p.cells.length=m∧p.val=true∧(Hf P f.type=true→∃c,p=.agg c):=by
                cases hg:Hf P f.type with
                | true =>
                  refine⟨.agg ((xs.drop o).take m),by simp[Ay];omega,by simp[D.cells];omega,?_,fun _=>⟨_,rfl⟩⟩;simp only[D.val,List.all_eq_true]at yC ⊢;intro c hc';exact yC c (List.mem_of_mem_drop (List.mem_of_mem_take hc'))
                | false =>
                  have:=uE hg;subst this;have xE:o<xs.length:=by omega
                  have yB:xs[o].Vv=true:=by
                    simp only[List.all_eq_true]at yC;exact yC _ (List.getElem_mem xE)
                  refine⟨xs[o],by simp[Ay,xE],?_,?_,fun h=>by simp at h⟩
                  · cases e:xs[o]<;>first | rfl | (rw[e]at yB;simp[D.Vv]at yB)
                  cases e:xs[o]<;>first | rfl | (rw[e]at yB;simp[D.Vv]at yB)
              obtain⟨xa,x1,x2⟩:=O3 (P:=P) yX yC hh1 a1 xK rfl;have hq:=checkKeyS d f.type fa xR b k pa xa x2 a3 (by rw[a2,rX]) a4;simp only[List.forIn_cons,Sem.run_bind,yt,ne_eq,not_false_eq_true,if_true,hoff,x1,Result.andThen_ok,hq,Sem.run_pure];exact ihl (o+m) fm' hf' (by omega)
            simp at hf
          simp at hf
      have hk:=key fs.toList 0 V6 h (by simp only[D.cells]at xg;omega);rw[Array.forIn_toList]at hk;simp only[Instr.checkKey,Sem.run_bind,run_underlying hu,Result.andThen_ok];refine Eq.trans (congrArg (fun z=>Result.andThen z _) hk) ?_;rfl
    simp at h
theorem keyS_free {V6 : List Nat} {k : D} (h : Qx V6 k = true) : k.Vr = true ∧ k.val = true := by
  unfold Qx at h;split at h
  · rename_i cs;simp only[Bool.and_eq_true,beq_iff_eq,List.all_eq_true]at h;obtain⟨h1,h2⟩:=h
    have key:∀d∈cs,d.free=true∧d.Vv=true:=by
      intro d hd;obtain⟨i,hi,rfl⟩:=List.mem_iff_getElem.1 hd
      have:=h2 (cs[i],V6[i]'(by omega)) (by
        rw[List.mem_iff_getElem]
        exact⟨i,by simp;omega,by simp⟩)
      simp only at this
      revert this
      cases e:cs[i]<;>cases e2:V6[i]'(by omega)<;>simp[isKey,D.free,D.Vw,D.Vv]
    exact⟨by simp only[D.Vr,List.all_eq_true];exact fun d hd=>(key d hd).1,by simp only[D.val,List.all_eq_true];exact fun d hd=>(key d hd).2⟩
  simp at h
theorem keyS_check{kt:TypeId}{V6:List Nat}{k:D}{vk:Value}{b:Bool}(uW:Hf P kt=true)(qm:Gf P 9 kt=some V6)(yx:Qx V6 k=true)(hk:VR w ρ S.heap k vk):(Instr.checkKey b 10000 kt vk).run P w=.ok () w:=by
 obtain⟨_,h2⟩:=keyS_free yx;refine checkKeyS 9 kt V6 qm b 9991 k vk hk h2 ?_ fun _=>?_
 ·
  unfold Qx at yx;split at yx
  ·
   simp only[Bool.and_eq_true,beq_iff_eq]at yx;exact yx.1
  simp at yx
 unfold Qx at yx;split at yx
 ·
  exact⟨_,rfl⟩
 simp at yx
theorem eqS_run{kt:TypeId}{V6:List Nat}{cs ds:List D}{va vb:Value}{r:Bool}(uW:Hf P kt=true)(qm:Gf P 9 kt=some V6)(h1:VR w ρ S.heap (.agg cs) va)(h2:VR w ρ S.heap (.agg ds) vb)(he:Dh V6 cs ds=some r):(Op.equal kt va vb).run P w=.ok r w:=by
 have zS:(D.agg cs).val=true:=by cases h1 with | agg _ _ _ hc _=>exact hc
 have wY:(D.agg ds).val=true:=by cases h2 with | agg _ _ _ hc _=>exact hc
 exact Td 9 kt V6 qm 9991 _ _ _ _ r h1 h2 zS wY he (fun _=>⟨⟨_,rfl⟩,⟨_,rfl⟩⟩) (fun h=>by rw[uW]at h;simp at h)
theorem Uu {kt : TypeId} {V6 : List Nat} {k : D} {vk : Value} (uW : Hf P kt = true) (qm : Gf P 9 kt = some V6) (hk : VR w ρ S.heap k vk) : ∀ {rows : List (List D)} {es : List MapEntry} {i : Nat} {x : Option (Nat × D)}, es.length = rows.length → (∀ (j : Nat) (r : List D), rows[j]? = some r → ∃ (e : MapEntry) (a v : D), es[j]? = some e ∧ r = [a, v] ∧ VR w ρ S.heap a e.key ∧ VR w ρ S.heap v e.val) → Ns V6 k rows i = some x →
    (x=none∧(Instr.findAsking kt vk es i).run P w=.ok none w)∨∃(j:Nat) (v:D) (e:MapEntry) (cs ds:List D),x=some (i+j,v)∧(∃a,a=D.agg ds∧rows[j]?=some [a,v]∧k=.agg cs∧VR w ρ S.heap a e.key)∧es[j]?=some e∧VR w ρ S.heap v e.val∧Dh V6 cs ds=some true∧(Instr.findAsking kt vk es i).run P w=.ok (some (i+j,e.val)) w
  | [], es, i, x, hl, hh, h => by
    have:es=[]:=by simpa using hl
    subst this;simp only[Ns,Oi]at h;subst h;exact .inl ⟨rfl,rfl⟩
  | r :: rows, es, i, x, hl, hh, h => by
    cases es with
    | nil=>simp at hl
    | cons e es =>
      obtain⟨e',a,v,h1,h2,h3,h4⟩:=hh 0 r rfl;simp at h1;subst h1 h2;simp only[Ns]at h;split at h
      · rename_i cs ds
        cases hb:Dh V6 cs ds with
        | none=>simp[hb]at h
        | some bb =>
          have qL:=eqS_run uW qm hk h3 hb
          cases bb with
          | true =>
            simp only[hb,Oi]at h;subst h;exact .inr ⟨0,v,e,cs,ds,rfl,⟨_,rfl,rfl,rfl,h3⟩,rfl,h4,hb,by unfold Instr.findAsking;rw[Ag qL];rfl⟩
          | false =>
            simp only[hb]at h;rcases Uu uW qm hk (es:=es) (by simpa using hl) (fun j r hj=>by simpa using hh (j+1) r (by simpa using hj)) h with⟨rfl,hf⟩ | ⟨j,v2,e2,c2,d2,hx,⟨a2,q0,hr,q1,q2⟩,he,q3,q4,hf⟩
            · exact .inl ⟨rfl,by unfold Instr.findAsking;rw[Ag qL];exact hf⟩
            refine .inr ⟨j+1,v2,e2,c2,d2,by rw[hx];congr 2;omega,⟨a2,q0,by simpa using hr,q1,q2⟩,by simpa using he,q3,q4,?_⟩;unfold Instr.findAsking;rw[Ag qL];simp only[Bool.false_eq_true,if_false];rw[hf];congr 3;omega
      simp at h
theorem find_S{kt:TypeId}{V6:List Nat}{k:D}{vk:Value}(uW:Hf P kt=true)(qm:Gf P 9 kt=some V6)(hk:VR w ρ S.heap k vk){rows:List (List D)}{es:List MapEntry}{x:Option (Nat × D)}(hl:es.length=rows.length)(hh:∀(j:Nat) (r:List D),rows[j]?=some r→∃(e:MapEntry) (a v:D),es[j]?=some e∧r=[a,v]∧VR w ρ S.heap a e.key∧VR w ρ S.heap v e.val)(h:Ns V6 k rows 0=some x) :
  (x=none∧(Instr.findKey kt vk es).run P w=.ok none w)∨∃(j:Nat) (v:D) (e:MapEntry) (a:D),x=some (0+j,v)∧rows[j]?=some [a,v]∧es[j]?=some e∧VR w ρ S.heap v e.val∧VR w ρ S.heap a e.key∧(∃cs ds,k=.agg cs∧a=.agg ds∧Dh V6 cs ds=some true)∧(Instr.findKey kt vk es).run P w=.ok (some (0+j,e.val)) w:=by
 obtain⟨fs,hu⟩:∃kd,P.underlying kt=some kd∧((∃fs,kd=.struct fs)∨∃n e,kd=.array n e):=by
  unfold Hf at uW;split at uW
  ·
   rename_i hu;exact⟨_,hu,.inl ⟨_,rfl⟩⟩
  ·
   rename_i hu;exact⟨_,hu,.inr ⟨_,_,rfl⟩⟩
  simp at uW
 have hfk:(Instr.findKey kt vk es).run P w=(Instr.findAsking kt vk es 0).run P w:=by
  unfold Instr.findKey;rw[Ag (run_underlying hu.1 w)]
  cases es with
  | nil=>rfl
  | cons e es=>rcases hu.2 with⟨fs,rfl⟩ | ⟨n,e,rfl⟩<;>rfl
 rw[hfk];rcases Uu uW qm hk hl hh h with h1 | ⟨j,v,e,cs,ds,h1,⟨a,rfl,h3,h4,h5⟩,h6,h7,h8,h9⟩
 ·
  exact .inl h1
 exact .inr ⟨j,v,e,_,h1,h3,h6,h7,h5,⟨cs,ds,h4,rfl,h8⟩,h9⟩
theorem sameBits_S {V6 : List Nat} {k a : D} {vk va : Value} (hk : VR w ρ S.heap k vk) (ha : VR w ρ S.heap a va) (h : ∃ cs ds, k = .agg cs ∧ a = .agg ds ∧ Dh V6 cs ds = some true) : Instr.sameBits 10000 va vk = true := by
  obtain⟨cs,ds,rfl,rfl,he⟩:=h
  cases hk with | agg _ vs hl hc hh =>
  cases ha with | agg _ us yS wz hh2 =>
  have key:∀(V6:List Nat) (cs ds:List D) (vs us:List Value),vs.length=cs.length→us.length=ds.length→(∀(j:Nat) (d:D) (v:Value),cs[j]?=some d→vs[j]?=some v→VR w ρ S.heap d v)→(∀(j:Nat) (d:D) (v:Value),ds[j]?=some d→us[j]?=some v→VR w ρ S.heap d v)→Dh V6 cs ds=some true→us.length=vs.length∧((us.zip vs).all fun (x,y)=>Instr.sameBits 9999 x y)=true:=by
    intro V6
    induction V6 with
    | nil =>
      intro cs ds vs us h1 h2 _ _ he;cases cs<;>cases ds<;>simp[Dh]at he;have:vs=[]:=by simpa using h1
      have:us=[]:=by simpa using h2
      simp_all
    | cons f V6 ih =>
      intro cs ds vs us h1 h2 g1 g2 he
      cases cs with
      | nil=>cases ds<;>simp[Dh]at he
      | cons c cs =>
        cases ds with
        | nil=>simp[Dh]at he
        | cons d ds =>
          cases vs with
          | nil=>simp at h1
          | cons v vs =>
            cases us with
            | nil=>simp at h2
            | cons u us =>
              simp only[Dh]at he;split at he
              · rename_i zM;simp only[Bool.and_eq_true]at zM;split at he
                · rename_i x y e1 e2;simp only[Oi,Bool.and_eq_true]at he;obtain⟨rfl,rfl⟩:=he;obtain⟨q1,q2⟩:=ih cs ds vs us (by simpa using h1) (by simpa using h2) (fun j d v hd hv=>g1 (j+1) d v (by simpa using hd) (by simpa using hv)) (fun j d v hd hv=>g2 (j+1) d v (by simpa using hd) (by simpa using hv)) e2;have:=Rj (n:=9998) zM.1 (g1 0 c v rfl rfl) (g2 0 d u rfl rfl) e1;exact⟨by simp[q1],by simp only[List.zip_cons_cons,List.all_cons,Bool.and_eq_true];exact⟨this,q2⟩⟩
                simp at he
              simp at he
  obtain⟨q1,q2⟩:=key V6 cs ds vs us hl yS hh hh2 he;show (us.toArray.size==vs.toArray.size&&(us.toArray.toList.zip vs.toArray.toList).all fun (x,y)=>Instr.sameBits 9999 x y)=true;simp only[Bool.and_eq_true,beq_iff_eq];exact⟨by simpa using q1,by simpa using q2⟩
theorem mapgetS_ok {t kt e : TypeId} {V6 : List Nat} {z m k r : D} {vm vk : Value} {ok : Bool} (hr : Rel w ρ S.heap) (ht : P.underlying t = some (.map kt e)) (uW : Hf P kt = true) (qm : Gf P 9 kt = some V6) (hz : Oe P e = some z) (hm : VR w ρ S.heap m vm) (hk : VR w ρ S.heap k vk)
    (h:Rq S V6 z ok m k=some r):∃v,(Instr.lookup t vm vk ok).run P w=.ok v w∧VR w ρ S.heap r v:=by
  unfold Rq at h;split at h
  · rename_i rows xH;obtain⟨es,hes,xK,xA⟩:=map_rows hr hm xH;split at h
    · rename_i yx
      obtain⟨zv,wX,zG⟩:∃zv,(zeroValue e).run P w=.ok zv w∧VR w ρ S.heap z zv:=by
        unfold Oe at hz;split at hz
        · rename_i i hi;split at hz
          · rename_i zv wP;exact⟨zv,by simp[zeroValue,typeInfo,hi,wP],Nv hz⟩
          simp at hz
        simp at hz
      have hck:=fun b=>keyS_check (b:=b) uW qm yx hk
      have vH:∀j v,(Instr.findKey kt vk es.toList).run P w=.ok (some (j,v)) w→(Instr.lookup t vm vk ok).run P w=.ok (if ok then .tuple #[v,.bool true] else v) w:=by
        intro j v hx;unfold Instr.lookup;rw[Ag (run_underlying ht w)];rcases hes with⟨rfl,rfl⟩ | ⟨b,clock,rfl,hb⟩
        · simp only;rw[Ag (a:=(#[]:Array MapEntry)) (w':=w) rfl,Ag (hck _),Ag hx];rfl
        simp only;rw[Ag (Ii hb)];simp only;rw[Ag (a:=es) (w':=w) rfl,Ag (hck _),Ag hx];rfl
      have yE:(Instr.findKey kt vk es.toList).run P w=.ok none w→(Instr.lookup t vm vk ok).run P w=.ok (if ok then .tuple #[zv,.bool false] else zv) w:=by
        intro hx;unfold Instr.lookup;rw[Ag (run_underlying ht w)];rcases hes with⟨rfl,rfl⟩ | ⟨b,clock,rfl,hb⟩
        · simp only;rw[Ag (a:=(#[]:Array MapEntry)) (w':=w) rfl,Ag (hck _),Ag hx];simp only;rw[Ag wX];rfl
        simp only;rw[Ag (Ii hb)];simp only;rw[Ag (a:=es) (w':=w) rfl,Ag (hck _),Ag hx];simp only;rw[Ag wX];rfl
      have uz:∀(x:D) (v:Value) (b:Bool),VR w ρ S.heap x v→VR w ρ S.heap (.tup [x,.bool b]) (.tuple #[v,.bool b]):=by
        intro x v b hx;have hv:VL w ρ S.heap [x,.bool b] [v,.bool b]:=.cons hx (.cons (.bool _) .nil);exact .tup [x,.bool b] [v,.bool b] rfl (fun j d v=>hv.get)
      cases hf:Ns V6 k rows 0 with
      | none=>simp[hf]at h
      | some x =>
        rcases find_S uW qm hk (es:=es.toList) (by simpa using xK) (fun j r hj=>by obtain⟨e,a,v,h1,h2⟩:=xA j r hj;exact⟨e,a,v,by simpa using h1,h2⟩) hf with⟨rfl,zA⟩ | ⟨j,v,e2,a,rfl,y9,he,q1,q2,q3,zA⟩
        · simp only [hf, Oi] at h;subst h;refine⟨_,yE zA,?_⟩;cases ok
          · exact zG
          exact uz _ _ _ zG
        simp only[hf,Oi]at h;subst h;refine⟨_,vH _ _ zA,?_⟩;cases ok
        · exact q1
        exact uz _ _ _ q1
    simp at h
  simp at h
theorem mapsetS_ok {t kt e : TypeId} {V6 : List Nat} {m k v : D} {vm vk vv : Value} {S' : St} (hr : Rel w ρ S.heap) (ht : P.underlying t = some (.map kt e)) (uW : Hf P kt = true) (qm : Gf P 9 kt = some V6) (hm : VR w ρ S.heap m vm) (hk : VR w ρ S.heap k vk) (hv : VR w ρ S.heap v vv) (h : Rp S V6 m k v = some S') :
    ∃w',(Instr.mapUpdate t vm vk vv).run P w=.ok () w'∧Vu w ρ S .undef S' true undef w':=by
  unfold Rp at h;split at h
  · rename_i g ver
    cases hm with
    | mref _ _ r ob hg yD hh =>
      unfold rowsOf at h;simp only[hg]at h;by_cases hvv:ob.ver=ver
      · subst hvv;simp only[if_true]at h;split at h
        · rename_i zC;obtain⟨xY,qH,yx⟩:=zC;split at h
          · rename_i v' qL;have hv':=Oq hr (Nat.le_refl _) hv qL;split at h
            · rename_i kY;simp only[Bool.and_eq_true]at kY;have hρ:=hh rfl;obtain⟨es,clock,hc,hs,hl,xA⟩:=hr.map hρ hg xY qH;have uH:=keyS_free yx;have hck:=fun b=>keyS_check (b:=b) uW qm yx hk;have uR:=lt_of_heap hc;have yh:∀c e f,Obj.map es clock≠.cells c e f:=fun _ _ _ e=>by cases e
              cases hf:Ns V6 k ob.rows 0 with
              | none=>simp[hf]at h
              | some x =>
                rcases find_S uW qm hk (es:=es.toList) (by simpa using hs) (fun j r hj=>by obtain⟨e,a,v,h1,h2,_,_,h5,h6⟩:=xA j r hj;exact⟨e,a,v,by simpa using h1,h2,h5,h6⟩) hf with⟨rfl,zA⟩ | ⟨j,v0,e2,a,rfl,y9,he,q1,q2,q3,zA⟩
                · simp only [hf, Oi] at h;subst h;refine⟨{ w with heap:=w.heap.setIfInBounds r (.map (es.push ⟨vk,vv,clock⟩) (clock+1)) },?_,ρ,?_,Lc hr hρ hg xY hc yh (Vy.setObj uR) ⟨rfl,rfl,rfl,by simp,rfl⟩,.undef _,by simp⟩
                  · unfold Instr.mapUpdate;rw[Ag (run_underlying ht w)];simp only;rw[Ag (Ii hc)];simp only;rw[Ag (hck _),Ag zA];exact M9 hc
                  refine Vb hr hρ hg xY qH hc yh (Vy.setObj uR) ⟨rfl,rfl,rfl,by simp,rfl⟩ (by simp[hs]) ?_ ?_
                  · intro r' hr';simp only[List.mem_append,List.mem_singleton]at hr';rcases hr' with hr' | rfl
                    · exact hl r' hr'
                    rfl
                  intro i r' hi;simp only at hi;by_cases zi:i<ob.rows.length
                  · rw [La_ zi] at hi;obtain⟨e3,k3,v3,z1,z2⟩:=xA i r' hi;exact⟨e3,k3,v3,by rw[Array.getElem?_push_lt (by omega)];rw[Array.getElem?_eq_getElem (by omega)]at z1;exact z1,z2⟩
                  rw[Lr_ (by omega)]at hi;have hi0:i-ob.rows.length=0:=by have:=lt_of_some hi;simp at this;omega
                  rw[hi0]at hi;simp at hi;subst hi;have hie:i=es.size:=by omega
                  subst hie;exact⟨⟨vk,vv,clock⟩,k,v',by simp,rfl,uH,kY,hk,hv'⟩
                simp only[hf,Oi,Nat.zero_add]at h;subst h;have he':es[j]?=some e2:=by simpa using he
                have yO:=(Array.getElem?_eq_some_iff.1 he').1
                have hkts:(Instr.keyThatStays (((es[0+j]?).map (·.key)).getD vk) vk).run P w=.ok vk w:=by
                  rw[Nat.zero_add,he'];unfold Instr.keyThatStays;simp only[Option.map_some,Option.getD_some];rw[if_pos (sameBits_S hk q2 q3)];rfl
                refine⟨{ w with heap:=w.heap.setIfInBounds r (.map (es.modify j fun e=>{ e with key:=vk,val:=vv }) clock) },?_,ρ,?_,Lc hr hρ hg xY hc yh (Vy.setObj uR) ⟨rfl,rfl,rfl,by simp,rfl⟩,.undef _,by simp⟩
                · unfold Instr.mapUpdate;rw[Ag (run_underlying ht w)];simp only;rw[Ag (Ii hc)];simp only;rw[Ag (hck _),Ag zA];simp only;rw[Ag hkts];rw[Nat.zero_add];exact M9 hc
                refine Vb hr hρ hg xY qH hc yh (Vy.setObj uR) ⟨rfl,rfl,rfl,by simp,rfl⟩ (by simp[hs]) ?_ ?_
                · intro r' hr';rcases List.mem_or_eq_of_mem_set hr' with hr' | rfl
                  · exact hl r' hr'
                  rfl
                intro i r' hi;simp only at hi;by_cases kJ:j=i
                · subst kJ;rw[List.getElem?_set_self (by omega)]at hi;simp only[Oi]at hi;subst hi;exact⟨{ e2 with key:=vk,val:=vv },k,v',by simp[Array.getElem?_modify,he'],rfl,uH,kY,hk,hv'⟩
                rw[Ln_ kJ]at hi;obtain⟨e3,k3,v3,z1,z2⟩:=xA i r' hi;exact⟨e3,k3,v3,by rw[Array.getElem?_modify,if_neg kJ];exact z1,z2⟩
            simp at h
          simp at h
        simp at h
      simp[hvv]at h
  simp at h
end
open Go.RowKit
section
variable {P:Program} {w:World} {ρ:Vo} {S:St}
def Does (P:Program) (w:World) (ρ:Vo) (S:St) (ev:Operand→Value) (o:Oper) (r:D) (S':St) (wr:Bool):Prop :=
 ∃nx v w',(execOp ev o).run P w=.ok nx w'∧(nx=.value v∨nx=.skip∧v=undef)∧Vu w ρ S r S' wr v w'
theorem Does.val{ev:Operand→Value}{o:Oper}{r:D}{S':St}{wr:Bool}{s:Sem Value}(he:execOp ev o=(do pure (.value (←s))))(h:∃v w',s.run P w=.ok v w'∧Vu w ρ S r S' wr v w'):Does P w ρ S ev o r S' wr:=by
 obtain⟨v,w',h1,h2⟩:=h;exact⟨.value v,v,w',by rw[he,Ag h1];rfl,.inl rfl,h2⟩
theorem Does.pure{ev:Operand→Value}{o:Oper}{r:D}{s:Sem Value}(hr:Rel w ρ S.heap)(he:execOp ev o=(do pure (.value (←s))))(h:∃v,s.run P w=.ok v w∧VR w ρ S.heap r v):Does P w ρ S ev o r S false:=by
 obtain⟨v,h1,h2⟩:=h;exact Does.val he ⟨v,w,h1,Vu.pure hr h2⟩
theorem eqb_ok{neg a b:Bool}{op:BinOp}{t:TypeId}{x y:Operand}{H:List Vi}(ho:op=.eql∨op=.neq)(hn:neg=decide (op=.neq))(ht:P.underlying t=some .bool) :
  ∃v,(do eqGuard op t x y (.bool a) (.bool b);binOp op t (.bool a) (.bool b)).run P w=.ok v w∧VR w ρ H (.bool ((a==b) != neg)) v:=by
 have h:∀d:Nat,(Op.equalIn (d+1) t (.bool a) (.bool b)).run P w=.ok (a==b) w:=fun d=>by simp[Op.equalIn,run_underlying ht]
 rcases ho with rfl | rfl
 ·
  subst hn;refine⟨.bool (a==b),?_,by cases a<;>cases b<;>exact .bool _⟩;simp only[eqGuard,binOp];simp[Op.equal,Op.maxDepth,h 9999]
 subst hn;refine⟨.bool !(a==b),?_,by cases a<;>cases b<;>exact .bool _⟩;simp only[eqGuard,binOp];simp[Op.equal,Op.maxDepth,h 9999]
theorem fold_ok{f:D→D→Option D}{g:Value→Value→Sem Value}(hfg:∀{d1 d2 r:D} {v1 v2:Value},VR w ρ S.heap d1 v1→VR w ρ S.heap d2 v2→f d1 d2=some r→∃v,(g v1 v2).run P w=.ok v w∧VR w ρ S.heap r v) :
  ∀{ds:List D} {vs:List Value} {d r:D} {v:Value},VR w ρ S.heap d v→VL w ρ S.heap ds vs→Ry f d ds=some r→∃u,(vs.foldlM g v).run P w=.ok u w∧VR w ρ S.heap r u:=by
 intro ds
 induction ds with
 | nil =>
  intro vs d r v hd hv h;cases hv;simp only[Ry,Oi]at h;subst h;exact⟨v,rfl,hd⟩
 | cons a ds ih =>
  intro vs d r v hd hv h
  cases hv with | cons h1 t1 =>
  simp only[Ry]at h;split at h
  ·
   rename_i z hz;obtain⟨u,h3,h4⟩:=hfg hd h1 hz;obtain⟨u2,h5,h6⟩:=ih h4 t1 h;refine⟨u2,?_,h6⟩;rw[List.foldlM_cons,Ag h3];exact h5
  simp at h
theorem max2_ok{d1 d2 r:D}{v1 v2:Value}(h1:VR w ρ S.heap d1 v1)(h2:VR w ρ S.heap d2 v2)(h:maxD d1 d2=some r):∃v,(Builtin.max2 v1 v2).run P w=.ok v w∧VR w ρ S.heap r v:=by
 unfold maxD at h;split at h
 ·
  split at h
  ·
   rename_i hk;subst hk;simp only[Oi]at h;subst h;cases h1;cases h2;exact⟨_,rfl,.int _ _⟩
  simp at h
 simp at h
theorem min2_ok{d1 d2 r:D}{v1 v2:Value}(h1:VR w ρ S.heap d1 v1)(h2:VR w ρ S.heap d2 v2)(h:minD d1 d2=some r):∃v,(Builtin.min2 v1 v2).run P w=.ok v w∧VR w ρ S.heap r v:=by
 unfold minD at h;split at h
 ·
  split at h
  ·
   rename_i hk;subst hk;simp only[Oi]at h;subst h;cases h1;cases h2;exact⟨_,rfl,.int _ _⟩
  simp at h
 simp at h
theorem maxs_ok{ts:Array TypeId}{t:TypeId}{ds:List D}{vs:List Value}{r:D}(hv:VL w ρ S.heap ds vs)(h:pop .max ds=some r):∃v,(Builtin.max_ ts t vs.toArray).run P w=.ok v w∧VR w ρ S.heap r v:=by
 cases hv with
 | nil=>simp[pop]at h
 | cons h1 t1=>exact fold_ok (fun a b c=>max2_ok a b c) h1 t1 h
theorem mins_ok{ts:Array TypeId}{t:TypeId}{ds:List D}{vs:List Value}{r:D}(hv:VL w ρ S.heap ds vs)(h:pop .min ds=some r):∃v,(Builtin.min_ ts t vs.toArray).run P w=.ok v w∧VR w ρ S.heap r v:=by
 cases hv with
 | nil=>simp[pop]at h
 | cons h1 t1=>exact fold_ok (fun a b c=>min2_ok a b c) h1 t1 h
theorem boolT_iff{t:TypeId}:boolT P t=true↔P.underlying t=some .bool:=by
 unfold boolT;split
 ·
  rename_i h;simp[h]
 rename_i h;constructor
 ·
  intro h';simp at h'
 intro h';exact absurd h' h
theorem intT_iff{t:TypeId}{k:IntKind}:Sq P t=some k↔P.underlying t=some (.int k):=by
 unfold Sq;split
 ·
  rename_i k' h;simp[h]
 rename_i h;constructor
 ·
  intro h';simp at h'
 intro h';exact absurd h' (h k)
theorem mapT_iff{t k e:TypeId}:mapT P t=some (k,e)↔P.underlying t=some (.map k e):=by
 unfold mapT;split
 ·
  rename_i k' e' h;simp[h]
 rename_i h;constructor
 ·
  intro h';simp at h'
 intro h';exact absurd h' (h k e)
theorem Uw{s:TypeId}{k:Nat}{f:Field}(h:fieldT P s k=some f):∃fs,P.underlying s=some (.struct fs)∧fs[k]?=some f:=by
 unfold fieldT at h;split at h
 ·
  rename_i fs hu;exact⟨fs,hu,h⟩
 simp at h
theorem parts_zip(ps:Array (Nat × Operand))(ev:Operand→Value):(ps.map fun (i,x)=>(i,ev x))=((ps.toList.map (·.1)).zip ((ps.toList.map (·.2)).map ev)).toArray:=by
 apply Array.ext';simp only[Array.toList_map];generalize ps.toList=l
 induction l with
 | nil=>rfl
 | cons p l ih=>simp[ih]
theorem vo_of{H:List Vi}{lo hi mx:Option Operand}{ev:Operand→Value}{xs:List D}{a b m:Option D}(hv:VL w ρ H xs ((opnds [lo,hi,mx]).map ev))(h:Cx lo.isSome hi.isSome mx.isSome xs=some (a,b,m)) :
    VO w ρ H a (lo.map ev)∧VO w ρ H b (hi.map ev)∧VO w ρ H m (mx.map ev)∧(m.isSome=true→b.isSome=true):=by
  cases lo<;>cases hi<;>cases mx<;>simp only[opnds,List.filterMap_cons,List.filterMap_nil,id,List.map_cons,List.map_nil]at hv<;>simp only[Option.isSome_some,Option.isSome_none]at h
  all_goals
    first
      | (cases hv with
         | nil=>simp[Cx]at h;obtain⟨rfl,rfl,rfl⟩:=h;exact⟨.none,.none,.none,by simp⟩)
      | (cases hv with
         | cons h1 t1 => cases t1 with
           | nil=>simp[Cx]at h<;>(obtain⟨rfl,rfl,rfl⟩:=h;first | exact⟨.some h1,.none,.none,by simp⟩ | exact⟨.none,.some h1,.none,by simp⟩))
      | (cases hv with
         | cons h1 t1 => cases t1 with
           | cons h2 t2 => cases t2 with
             | nil=>simp[Cx]at h<;>(obtain⟨rfl,rfl,rfl⟩:=h;first | exact⟨.some h1,.some h2,.none,by simp⟩ | exact⟨.none,.some h1,.some h2,by simp⟩))
      | (cases hv with
         | cons h1 t1 => cases t1 with
           | cons h2 t2 => cases t2 with
             | cons h3 t3 => cases t3 with
               | nil=>simp[Cx]at h;obtain⟨rfl,rfl,rfl⟩:=h;exact⟨.some h1,.some h2,.some h3,by simp⟩)
      | (simp[Cx]at h;done)
set_option maxHeartbeats 4000000 in
theorem kd_of(kd:Kd)(e:TypeId):kd.of e=0∨kd.of e=1∨kd.of e=2:=by
 unfold Kd.of;split
 ·
  exact .inl rfl
 split
 ·
  exact .inr (.inr rfl)
 exact .inr (.inl rfl)
theorem ext_mk : Extern.allNextRows.lookup "internal/bytealg.MakeNoZero" = none ∧ Extern.allGenericRows.lookup "internal/bytealg.MakeNoZero" = none ∧ Extern.allTypedRows.lookup "internal/bytealg.MakeNoZero" = some Extern.BytealgMakeNoZero.makeNoZero := ⟨by kernel_rfl, by kernel_rfl, by kernel_rfl⟩
theorem run_mknz {f : FuncId} {fn : Func} {rt : TypeId} {vs : Array Value} {v : Value} {w' : World} (hf : P.funcs[f]? = some fn) (hb : fn.body.isNone = true) (hn : fn.name = "internal/bytealg.MakeNoZero") (ho : fn.origin = "") (hrt : fn.resultTypes = #[rt])
  (h:(Extern.BytealgMakeNoZero.makeNoZero fn.params #[rt] vs).run P w=.ok v w'):(callFunc f vs).run P w=.ok (.value v) w':=by
 obtain⟨h1,h2,h3⟩:=ext_mk;have hp:Sem.run P program w=.ok P w:=rfl;have zA:Extern.findNext fn=none:=by simp[Extern.findNext,hn,ho,h1,ext_none]
 have kg:Extern.find fn=some (Extern.BytealgMakeNoZero.makeNoZero fn.params fn.resultTypes):=by simp[Extern.find,hn,h2,h3]
 unfold callFunc;rw[Ag hp];simp only[hf];rw[if_neg (by rw[hn];decide),if_pos hb];rw[Ag (a:=()) (w':=w) rfl];simp only[zA,kg];rw[hrt,Ag h];rfl
theorem lop_mknz{e:TypeId}{ds:List D}{S:St}{r:D}{S':St}{wr:Bool}(h:lop (.mknz e) ds S=some (r,S',wr)):∃n:Int,ds=[.int .i64 n]∧0≤n∧n≤140737488355328∧r=.msl S.heap.length 0 0 n.toNat none∧S'=newAt S ⟨e,1,List.replicate n.toNat [.junk],0,2,true⟩∧wr=true:=by
 unfold lop at h;split at h<;>simp only[reduceCtorEq,LOp.mknz.injEq]at *;rename_i h1;subst h1;split at h
 ·
  rename_i hn;simp only[Oi,Pi_]at h;obtain⟨rfl,rfl,rfl⟩:=h;exact⟨_,rfl,hn.1,hn.2,rfl,rfl,rfl⟩
 simp at h
theorem tass_ok {t xt : TypeId} {td : TypeDesc} {z x r : D} {v : Value} {ok : Bool} {H : List Vi} (hu : P.underlying t = some td) (r9 : ∀ m, td ≠ .interface m) (hz : Oe P t = some z) (hx : VR w ρ H x v) (h : pop (.tass t z ok) [x] = some r) :
    ∃u,(Instr.typeAssert v xt t ok).run P w=.ok u w∧VR w ρ H r u:=by
  obtain⟨zv,wX,zG⟩:∃zv,(zeroValue t).run P w=.ok zv w∧VR w ρ H z zv:=by
    unfold Oe at hz;split at hz
    · rename_i i hi;split at hz
      · rename_i zv wP;exact⟨zv,by simp[zeroValue,typeInfo,hi,wP],Nv hz⟩
      simp at hz
    simp at hz
  have uz:∀(x:D) (v:Value) (b:Bool),VR w ρ H x v→VR w ρ H (.tup [x,.bool b]) (.tuple #[v,.bool b]):=by
    intro x v b hx;have hv:VL w ρ H [x,.bool b] [v,.bool b]:=.cons hx (.cons (.bool _) .nil);exact .tup [x,.bool b] [v,.bool b] rfl (fun j d v=>hv.get)
  have hif:∀(t':TypeId) (u:Value),(Instr.typeAssert (.iface t' u) xt t true).run P w=.ok (if t'=t then .tuple #[u,.bool true] else .tuple #[zv,.bool false]) w:=by
    intro t' u;unfold Instr.typeAssert;simp only[Sem.run_bind,run_underlying hu,Result.andThen_ok]
    cases td<;>first | exact absurd rfl (r9 _) | (simp only[if_true];split<;>rename_i he<;>simp[he,wX,Sem.run_bind])
  have hif2:∀(u:Value),(Instr.typeAssert (.iface t u) xt t false).run P w=.ok u w:=by
    intro u;unfold Instr.typeAssert;simp only[Sem.run_bind,run_underlying hu,Result.andThen_ok]
    cases td<;>first | exact absurd rfl (r9 _) | simp
  have hni:(Instr.typeAssert .nilIface xt t true).run P w=.ok (.tuple #[zv,.bool false]) w:=by
    unfold Instr.typeAssert;simp only[Sem.run_bind,run_underlying hu,Result.andThen_ok]
    cases td<;>first | exact absurd rfl (r9 _) | simp[wX,Sem.run_bind]
  unfold pop at h;split at h<;>simp only[reduceCtorEq,List.cons.injEq,and_true,LOp.tass.injEq]at *
  · rename_i t1 z1 ok1 t' d yZ qG;obtain⟨rfl,rfl,rfl⟩:=yZ;subst qG
    cases hx with
    | ifc _ _ u hf hv hxx =>
    by_cases he:t'=t
    · subst he;rw[if_pos rfl]at h;simp only[Oi]at h;subst h;cases ok
      · exact⟨_,hif2 _,hxx⟩
      exact⟨_,by rw[hif,if_pos rfl],uz _ _ _ hxx⟩
    rw[if_neg he]at h;cases ok
    · simp at h
    simp only[if_true,Oi]at h;subst h;exact⟨_,by rw[hif,if_neg he],uz _ _ _ zG⟩
  · rename_i t1 z1 ok1 t' d yZ qG;obtain⟨rfl,rfl,rfl⟩:=yZ;subst qG
    cases hx with
    | ifr _ _ u hv hxx =>
    by_cases he:t'=t
    · subst he;rw[if_pos rfl]at h;simp only[Oi]at h;subst h;cases ok
      · exact⟨_,hif2 _,hxx⟩
      exact⟨_,by rw[hif,if_pos rfl],uz _ _ _ hxx⟩
    rw[if_neg he]at h;cases ok
    · simp at h
    simp only[if_true,Oi]at h;subst h;exact⟨_,by rw[hif,if_neg he],uz _ _ _ zG⟩
  rename_i t1 z1 yZ qG;obtain⟨rfl,rfl,rfl⟩:=yZ;subst qG;cases hx;simp only[Oi]at h;subst h;exact⟨_,hni,uz _ _ _ zG⟩
set_option maxHeartbeats 8000000 in
theorem aop_ok {kd : Kd} {o : Oper} {l : LOp} {xs : List Operand} {ev : Operand → Value} {ds : List D} {r : D} {S' : St} {wr : Bool} (hevf : ∀ f, ev (.func f) = .func (.func f) #[] #[]) (x9 : O8 P kd o = some (l, xs)) (hv : VL w ρ S.heap ds (xs.map ev)) (hr : Rel w ρ S.heap) (h : aop l ds S = some (r, S', wr)) :
    Does P w ρ S ev o r S' wr:=by
  obtain⟨odst,oop,oty,opos,oafter,oguard⟩:=o;unfold O8 at x9;simp only at x9;split at x9
  case h_1 x =>
    simp only[Oi,Pi_]at x9;obtain⟨rfl,rfl⟩:=x9
    cases hv with | cons h1 t1=>cases t1 with | nil =>
    simp only[aop,LOp.loud,pop,Bool.false_eq_true,if_false,Option.map_some,Oi,Pi_]at h;obtain⟨rfl,rfl,rfl⟩:=h;exact⟨_,_,w,rfl,.inl rfl,Vu.pure hr h1⟩
  case h_2 x =>
    simp only[Oi,Pi_]at x9;obtain⟨rfl,rfl⟩:=x9
    cases hv with | cons h1 t1=>cases t1 with | nil =>
    simp only[aop,LOp.loud,pop,Bool.false_eq_true,if_false,Option.map_some,Oi,Pi_]at h;obtain⟨rfl,rfl,rfl⟩:=h;exact⟨_,_,w,rfl,.inl rfl,Vu.pure hr h1⟩
  case h_3 c a b =>
    simp only[Oi,Pi_]at x9;obtain⟨rfl,rfl⟩:=x9
    cases hv with | cons h1 t1=>cases t1 with | cons h2 t2=>cases t2 with | cons h3 t3=>cases t3 with | nil =>
    rename_i d1 d2 d3;cases d1<;>simp only[aop,LOp.loud,pop,Bool.false_eq_true,if_false,Option.map_some,Option.map_none,reduceCtorEq]at h;rename_i bb;simp only[Oi,Pi_]at h;obtain⟨rfl,rfl,rfl⟩:=h;generalize hc:ev c=vc at h1;cases h1;cases bb
    · exact⟨_,_,w,by simp[execOp,hc,asBool],.inl rfl,Vu.pure hr h3⟩
    exact⟨_,_,w,by simp[execOp,hc,asBool],.inl rfl,Vu.pure hr h2⟩
  case h_4 op t x y ty =>
    have key:l=.bin op→xs=[x,y]→Does P w ρ S ev ⟨odst,.binOp op t x y ty,oty,opos,oafter,oguard⟩ r S' wr:=by
      rintro rfl rfl
      cases hv with | cons h1 t1=>cases t1 with | cons h2 t2=>cases t2 with | nil =>
      simp only[aop,LOp.loud,pop,Bool.false_eq_true,if_false,Om,Pi_]at h;obtain⟨r',hb,rfl,rfl,rfl⟩:=h;exact Does.pure hr rfl (bin_ok h1 h2 hb)
    split at x9
    · rename_i yZ;split at x9
      · rename_i hbt;simp only[Oi,Pi_]at x9;obtain⟨rfl,rfl⟩:=x9
        cases hv with | cons h1 t1=>cases t1 with | cons h2 t2=>cases t2 with | nil =>
        rename_i d1 d2;cases d1<;>cases d2<;>simp only[aop,LOp.loud,pop,Bool.false_eq_true,if_false,Option.map_some,Option.map_none,reduceCtorEq]at h;simp only[Oi,Pi_]at h;obtain⟨rfl,rfl,rfl⟩:=h;generalize hx:ev x=vx at h1;generalize hy:ev y=vy at h2;cases h1;cases h2;refine Does.pure (s:=(do eqGuard op t x y (ev x) (ev y);binOp op t (ev x) (ev y))) hr rfl ?_;rw[hx,hy];exact eqb_ok yZ rfl (boolT_iff.1 hbt)
      split at x9
      · simp only [Oi, Pi_] at x9;exact key x9.1.symm x9.2.symm
      split at x9
      · rename_i fam hfam;split at x9
        · split at x9
          · rename_i e kS;simp only[Om,Pi_]at x9;obtain⟨n,hn,rfl,rfl⟩:=x9
            cases hv with | cons h1 t1=>cases t1 with | cons h2 t2=>cases t2 with | nil =>
            simp only[aop,LOp.loud,lop,if_true,Om,Pi_]at h;obtain⟨b,hb,rfl,rfl,rfl⟩:=h;exact Does.pure hr rfl (eqp_ok yZ kS hn h1 h2 hb)
          simp at x9
        rename_i hf1;split at x9
        · simp at x9
        rename_i yU;simp only[Oi,Pi_]at x9;obtain⟨rfl,rfl⟩:=x9
        cases hv with | cons h1 t1=>cases t1 with | cons h2 t2=>cases t2 with | nil =>
        simp only[aop,LOp.loud,pop,Bool.false_eq_true,if_false,Om,Pi_]at h;obtain⟨_,⟨b,hb,rfl⟩,rfl,rfl,rfl⟩:=h;refine Does.pure hr rfl (eqnil_ok yZ hfam hf1 (fun h4=>?_) h1 h2 hb)
        cases hcx:isConst x with
        | true=>exact .inl rfl
        | false =>
          cases hcy:isConst y with
          | true=>exact .inr rfl
          | false=>exact absurd ⟨h4,hcx,hcy⟩ yU
      split at x9
      · rename_i wU;split at x9
        · rename_i V6 kX;simp only[Oi,Pi_]at x9;obtain⟨rfl,rfl⟩:=x9
          cases hv with | cons h1 t1=>cases t1 with | cons h2 t2=>cases t2 with | nil =>
          rename_i d1 d2;cases d1<;>cases d2<;>simp only[aop,LOp.loud,pop,Bool.false_eq_true,if_false,Option.map_some,Option.map_none,reduceCtorEq]at h;simp only[Om,Pi_]at h;obtain⟨_,⟨q,hq,rfl⟩,rfl,rfl,rfl⟩:=h;exact Does.pure (s:=(do eqGuard op t x y (ev x) (ev y);binOp op t (ev x) (ev y))) hr rfl (eqs_ok yZ rfl wU kX h1 h2 hq)
        simp at x9
      simp at x9
    simp only[Oi,Pi_]at x9;exact key x9.1.symm x9.2.symm
  case h_5 op t x =>
    simp only[Oi,Pi_]at x9;obtain⟨rfl,rfl⟩:=x9
    cases hv with | cons h1 t1=>cases t1 with | nil =>
    simp only[aop,LOp.loud,pop,Bool.false_eq_true,if_false,Om,Pi_]at h;obtain⟨r',hb,rfl,rfl,rfl⟩:=h;exact Does.pure hr rfl (un_ok h1 hb)
  case h_6 e =>
    split at x9
    · rename_i z n hz hn;split at x9
      · rename_i hl;simp only[Oi,Pi_]at x9;obtain⟨rfl,rfl⟩:=x9;cases hv;simp only[aop,LOp.loud,lop,if_true,Oi,Pi_]at h;obtain⟨rfl,rfl,rfl⟩:=h;exact Does.val rfl (alloc_ok hr hz hn hl)
      simp at x9
    simp at x9
  case h_7 e x =>
    cases hbx:kd.bx odst with
    | false =>
      rw[if_neg (by rw[hbx];exact Bool.false_ne_true)]at x9;simp only[Om,Pi_]at x9;obtain⟨n,hn,rfl,rfl⟩:=x9
      cases hv with | cons h1 t1=>cases t1 with | nil =>
      simp only[aop,LOp.loud,lop,if_true]at h;split at h
      · rename_i hc;simp only[Bool.and_eq_true,beq_iff_eq]at hc;simp only[Oi,Pi_]at h;obtain⟨rfl,rfl,rfl⟩:=h;exact Does.val rfl (box_ok hr hn h1 hc.1 hc.2)
      simp at h
    | true =>
      rw[if_pos hbx]at x9;simp only[Om,Pi_]at x9;obtain⟨n,hn,rfl,rfl⟩:=x9
      cases hv with | cons h1 t1=>cases t1 with | nil =>
      simp only[aop,LOp.loud,lop,if_true]at h;split at h
      · rename_i hc;simp only[Bool.and_eq_true,beq_iff_eq]at hc;simp only[Oi,Pi_]at h;obtain⟨rfl,rfl,rfl⟩:=h;exact Does.val rfl (boxc_ok hr h1 hc.1.1 hc.2)
      simp at h
  case h_8 t ps =>
    split at x9
    · rename_i z pl hz rP;split at x9
      · rename_i places hp;simp only[Oi,Pi_]at x9;obtain⟨rfl,rfl⟩:=x9;simp only[aop,LOp.loud,pop,Bool.false_eq_true,if_false,Om,Pi_]at h;obtain⟨_,⟨cs,hb,rfl⟩,rfl,rfl,rfl⟩:=h;refine Does.pure (s:=Instr.build t (ps.map fun (i,x)=>(i,ev x))) hr rfl ?_;rw[parts_zip];exact build_ok hz rP hp hv (by simp) hb
      simp at x9
    simp at x9
  case h_9 t len ps =>
    split at x9
    · rename_i e he;split at x9
      · rename_i z n hz hn;split at x9
        · rename_i hl;simp only[Oi,Pi_]at x9;obtain⟨rfl,rfl⟩:=x9;simp only[aop,LOp.loud,lop,if_true]at h;refine Does.val (s:=Instr.buildSlice t len (ps.map fun (i,x)=>(i,ev x))) rfl ?_;rw[parts_zip];generalize (if kd.bx odst=true then 1 else kd.of e)=kk at h;by_cases rZ:kk=0
          · rw [if_pos rZ] at h
            cases hf:Ff (List.replicate len z) n (ps.toList.map (·.1)) ds with
            | none=>rw[hf]at h;simp at h
            | some rs =>
              rw[hf]at h;simp only[Oi,Pi_]at h;obtain⟨rfl,rfl,rfl⟩:=h;exact bslice0_ok hr (sliceT_iff.1 he) hz hn hl.1 hl.2 hv (by simp) hf
          rw[if_neg rZ]at h
          cases hys:Av S.heap.length S.heap ds with
          | none=>rw[hys]at h;simp at h
          | some ys =>
            rw[hys]at h;simp only at h
            cases vS:Cf (List.replicate len z) n (ps.toList.map (·.1)) ys with
            | none=>rw[vS]at h;simp at h
            | some rs =>
              rw[vS]at h;exact bslice_ok hr (sliceT_iff.1 he) hz hn hl.1 hl.2 hv (by simp) hys vS h
        simp at x9
      simp at x9
    simp at x9
  case h_10 t a =>
    simp only[Om,Pi_]at x9;obtain⟨n,hn,rfl,rfl⟩:=x9
    cases hv with | cons h1 t1=>cases t1 with | nil =>
    simp only[aop,LOp.loud,lop,if_true,Om,Pi_]at h;obtain⟨r',hb,rfl,rfl,rfl⟩:=h;exact Does.pure hr rfl (load_ok hr h1 hb hn rfl)
  case h_11 t a x =>
    simp only[Om,Pi_]at x9;obtain⟨n,hn,rfl,rfl⟩:=x9
    cases hv with | cons h1 t1=>cases t1 with | cons h2 t2=>cases t2 with | nil =>
    simp only[aop,LOp.loud,lop,if_true,Om,Pi_]at h;obtain⟨S2,hb,rfl,rfl,rfl⟩:=h;obtain⟨w',h3,h4⟩:=store_ok hr h1 h2 hn hb;exact⟨.skip,undef,w',by simp[execOp,h3],.inr ⟨rfl,rfl⟩,h4⟩
  case h_12 x =>
    simp only[Oi,Pi_]at x9;obtain⟨rfl,rfl⟩:=x9
    cases hv with | cons h1 t1=>cases t1 with | nil =>
    rename_i d1;generalize hx:ev x=vx at h1;cases d1<;>simp only[aop,LOp.loud,pop,Bool.false_eq_true,if_false,Option.map_some,Option.map_none,reduceCtorEq]at h
    all_goals
      simp only[Oi,Pi_]at h;obtain⟨rfl,rfl,rfl⟩:=h;have h1':=h1;cases h1;exact⟨_,_,w,by simp[execOp,hx],.inl rfl,Vu.pure hr h1'⟩
  case h_13 s x f =>
    split at x9
    · rename_i fd kg;simp only[Om,Pi_]at x9;obtain⟨n,hn,rfl,rfl⟩:=x9
      cases hv with | cons h1 t1=>cases t1 with | nil =>
      simp only[aop,LOp.loud,pop,Bool.false_eq_true,if_false,Om,Pi_]at h;obtain⟨r',hb,rfl,rfl,rfl⟩:=h;obtain⟨fs,hu,hf⟩:=Uw kg;exact Does.pure hr rfl (faddr_ok hu hf hn h1 hb)
    simp at x9
  case h_14 s x f =>
    split at x9
    · rename_i fd kg;simp only[Om,Pi_]at x9;obtain⟨n,hn,rfl,rfl⟩:=x9
      cases hv with | cons h1 t1=>cases t1 with | nil =>
      rename_i d1;cases d1<;>simp only[aop,LOp.loud,pop,Bool.false_eq_true,if_false,Option.map_some,Option.map_none,reduceCtorEq]at h;simp only[Om,Pi_]at h;obtain⟨r',hb,rfl,rfl,rfl⟩:=h;obtain⟨fs,hu,hf⟩:=Uw kg;generalize hx:ev x=vx at h1;refine Does.pure (s:=Instr.field s (ev x) f) hr rfl ?_;rw[hx]
      cases h1 with
      | agg _ vs hl hc hh =>
        obtain⟨v,h2,h3⟩:=O3 (P:=P) hl hc hh hb hn rfl;exact⟨v,by simp[Instr.field,run_underlying hu,hf,asAgg,h2],h3⟩
    simp at x9
  case h_15 t x i =>
    split at x9
    · rename_i e he;simp only[Om,Pi_]at x9;obtain⟨n,hn,rfl,rfl⟩:=x9
      cases hv with | cons h1 t1=>cases t1 with | cons h2 t2=>cases t2 with | nil =>
      simp only[aop,LOp.loud,lop,if_true,Om,Pi_]at h;obtain⟨r',hb,rfl,rfl,rfl⟩:=h;exact Does.pure hr rfl (iaddr_ok (sliceT_iff.1 he) hn h1 h2 hb)
    split at x9
    · rename_i len e he;simp only[Om,Pi_]at x9;obtain⟨n,hn,rfl,rfl⟩:=x9
      cases hv with | cons h1 t1=>cases t1 with | cons h2 t2=>cases t2 with | nil =>
      simp only[aop,LOp.loud,pop,Bool.false_eq_true,if_false,Om,Pi_]at h;obtain⟨r',hb,rfl,rfl,rfl⟩:=h;exact Does.pure hr rfl (aaddr_ok (arrayT_iff.1 he) hn h1 h2 hb)
    simp at x9
  case h_16 t x i =>
    split at x9
    · rename_i hs;simp only[Oi,Pi_]at x9;obtain⟨rfl,rfl⟩:=x9
      cases hv with | cons h1 t1=>cases t1 with | cons h2 t2=>cases t2 with | nil =>
      simp only[aop,LOp.loud,pop,Bool.false_eq_true,if_false,Om,Pi_]at h;obtain⟨r',hb,rfl,rfl,rfl⟩:=h;exact Does.pure hr rfl (index_ok hs h1 h2 hb)
    split at x9
    · rename_i len e he;simp only[Om,Pi_]at x9;obtain⟨n,hn,rfl,rfl⟩:=x9
      cases hv with | cons h1 t1=>cases t1 with | cons h2 t2=>cases t2 with | nil =>
      rename_i d1 d2;cases d1<;>cases d2<;>simp only[aop,LOp.loud,pop,Bool.false_eq_true,if_false,Option.map_some,Option.map_none,reduceCtorEq]at h;split at h
      · rename_i hj;simp only[Om,Pi_]at h;obtain⟨r',hb,rfl,rfl,rfl⟩:=h;generalize hx:ev x=vx at h1;generalize hi:ev i=vi at h2;cases h2;refine Does.pure (s:=Instr.index t (ev x) (ev i)) hr rfl ?_;rw[hx,hi]
        cases h1 with
        | agg _ vs hl hc hh =>
          obtain⟨v,h2,h3⟩:=O3 (P:=P) hl hc hh hb hn rfl;exact⟨v,by simp[Instr.index,asIntOf,run_underlying (arrayT_iff.1 he),hj,run_sizeOf hn,h2],h3⟩
      simp at h
    simp at x9
  case h_17 t x lo hi mx =>
    split at x9
    · rename_i hs;simp only[Oi,Pi_]at x9;obtain⟨rfl,rfl⟩:=x9
      cases hv with | cons h1 t1 =>
      rename_i d1 ds;generalize hx:ev x=vx at h1;cases d1<;>simp only[aop,LOp.loud,pop,Bool.false_eq_true,if_false,Option.map_some,Option.map_none,reduceCtorEq]at h;cases h1;split at h
      · rename_i a b hsa;simp only[Om,Pi_]at h;obtain⟨_,⟨⟨l,hh⟩,hb,rfl⟩,rfl,rfl,rfl⟩:=h;obtain⟨o1,o2,o3,_⟩:=vo_of t1 hsa;refine Does.pure (s:=Instr.sliceAt t (ev x) (lo.map ev) (hi.map ev) (mx.map ev)) hr rfl ?_;generalize mx.map ev=vm at o3;cases o3;rw[hx];exact⟨_,sliceStr_ok (strT_iff.1 hs) o1 o2 hb,.str _⟩
      simp at h
    split at x9
    · rename_i e he;simp only[Om,Pi_]at x9;obtain⟨n,hn,rfl,rfl⟩:=x9
      cases hv with | cons h1 t1 =>
      simp only[aop,LOp.loud,lop,if_true]at h;split at h
      · rename_i a b m hsa;simp only[Om,Pi_]at h;obtain⟨r',hb,rfl,rfl,rfl⟩:=h;obtain⟨o1,o2,o3,o4⟩:=vo_of t1 hsa;exact Does.pure hr rfl (slice_ok (sliceT_iff.1 he) hn h1 o1 o2 o3 o4 hb)
      simp at h
    simp at x9
  case h_18 x i =>
    simp only[Oi,Pi_]at x9;obtain⟨rfl,rfl⟩:=x9
    cases hv with | cons h1 t1=>cases t1 with | nil =>
    rename_i d1;cases d1<;>simp only[aop,LOp.loud,pop,Bool.false_eq_true,if_false,Option.map_some,Option.map_none,reduceCtorEq]at h;simp only[Om,Pi_]at h;obtain⟨r',hb,rfl,rfl,rfl⟩:=h;exact Does.pure hr rfl (extract_ok h1 hb)
  case h_19 t l c =>
    split at x9
    · rename_i e he;split at x9
      · rename_i i z n hi hz hn;split at x9
        · rename_i hl;simp only[Oi,Pi_]at x9;obtain⟨rfl,rfl⟩:=x9
          cases hv with | cons h1 t1=>cases t1 with | cons h2 t2=>cases t2 with | nil =>
          rename_i d1 d2;generalize qc:ev l=vl at h1;generalize hvc:ev c=vc at h2;cases d1<;>cases d2<;>simp only[aop,LOp.loud,lop,if_true,reduceCtorEq]at h;cases h1;cases h2;refine Does.val (s:=Instr.makeSlice t (ev l) (ev c)) rfl ?_;rw[qc,hvc];exact mkslice_ok hr (sliceT_iff.1 he) hi hn hz hl.1 hl.2 (kd_of kd _) h
        simp at x9
      simp at x9
    simp at x9
  case h_20 t rr =>
    split at x9
    · rename_i hn;simp only[Oi,Pi_]at x9;obtain⟨rfl,rfl⟩:=x9;cases hv;simp only[aop,LOp.loud,lop,if_true,Oi,Pi_]at h;obtain⟨rfl,rfl,rfl⟩:=h;have:rr=none:=by simpa using hn
      subst this;exact Does.val rfl (mkmap_ok hr)
    simp at x9
  case h_21 t m k v =>
    split at x9
    · rename_i kt e hmt;split at x9
      · rename_i kf kH;simp only[Oi,Pi_]at x9;obtain⟨rfl,rfl⟩:=x9
        cases hv with | cons h1 t1=>cases t1 with | cons h2 t2=>cases t2 with | cons h3 t3=>cases t3 with | nil =>
        simp only[aop,LOp.loud,lop,if_true,Om,Pi_]at h;obtain⟨S2,hb,rfl,rfl,rfl⟩:=h;obtain⟨w',h4,h5⟩:=mapset_ok hr (mapT_iff.1 hmt) kH h1 h2 h3 hb;exact⟨.skip,undef,w',by simp[execOp,h4],.inr ⟨rfl,rfl⟩,h5⟩
      split at x9
      · rename_i hag;simp only[Om,Pi_]at x9;obtain⟨V6,hfm,rfl,rfl⟩:=x9
        cases hv with | cons h1 t1=>cases t1 with | cons h2 t2=>cases t2 with | cons h3 t3=>cases t3 with | nil =>
        simp only[aop,LOp.loud,lop,if_true,Om,Pi_]at h;obtain⟨S2,hb,rfl,rfl,rfl⟩:=h;obtain⟨w',h4,h5⟩:=mapsetS_ok hr (mapT_iff.1 hmt) hag hfm h1 h2 h3 hb;exact⟨.skip,undef,w',by simp[execOp,h4],.inr ⟨rfl,rfl⟩,h5⟩
      simp at x9
    simp at x9
  case h_22 t m k v =>
    split at x9
    · rename_i kt e hmt;split at x9
      · rename_i kf kH;simp only[Oi,Pi_]at x9;obtain⟨rfl,rfl⟩:=x9
        cases hv with | cons h1 t1=>cases t1 with | cons h2 t2=>cases t2 with | cons h3 t3=>cases t3 with | nil =>
        simp only[aop,LOp.loud,lop,if_true,Om,Pi_]at h;obtain⟨S2,hb,rfl,rfl,rfl⟩:=h;obtain⟨w',h4,h5⟩:=mapset_ok hr (mapT_iff.1 hmt) kH h1 h2 h3 hb;exact⟨.skip,undef,w',by simp[execOp,h4],.inr ⟨rfl,rfl⟩,h5⟩
      split at x9
      · rename_i hag;simp only[Om,Pi_]at x9;obtain⟨V6,hfm,rfl,rfl⟩:=x9
        cases hv with | cons h1 t1=>cases t1 with | cons h2 t2=>cases t2 with | cons h3 t3=>cases t3 with | nil =>
        simp only[aop,LOp.loud,lop,if_true,Om,Pi_]at h;obtain⟨S2,hb,rfl,rfl,rfl⟩:=h;obtain⟨w',h4,h5⟩:=mapsetS_ok hr (mapT_iff.1 hmt) hag hfm h1 h2 h3 hb;exact⟨.skip,undef,w',by simp[execOp,h4],.inr ⟨rfl,rfl⟩,h5⟩
      simp at x9
    simp at x9
  case h_23 t m k ok =>
    split at x9
    · rename_i kt e hmt;split at x9
      · rename_i z kf hz kH;simp only[Oi,Pi_]at x9;obtain⟨rfl,rfl⟩:=x9
        cases hv with | cons h1 t1=>cases t1 with | cons h2 t2=>cases t2 with | nil =>
        simp only[aop,LOp.loud,lop,if_true,Om,Pi_]at h;obtain⟨r',hb,rfl,rfl,rfl⟩:=h;exact Does.pure hr rfl (mapget_ok hr (mapT_iff.1 hmt) kH hz h1 h2 hb)
      · rename_i z hz hkn;split at x9
        · rename_i hag;simp only[Om,Pi_]at x9;obtain⟨V6,hfm,rfl,rfl⟩:=x9
          cases hv with | cons h1 t1=>cases t1 with | cons h2 t2=>cases t2 with | nil =>
          simp only[aop,LOp.loud,lop,if_true,Om,Pi_]at h;obtain⟨r',hb,rfl,rfl,rfl⟩:=h;exact Does.pure hr rfl (mapgetS_ok hr (mapT_iff.1 hmt) hag hfm hz h1 h2 hb)
        simp at x9
      simp at x9
    simp at x9
  case h_24 f first caps =>
    split at x9
    · rename_i hf;simp only[Oi,Pi_]at x9;obtain⟨rfl,rfl⟩:=x9;simp only[aop,LOp.loud,pop,Bool.false_eq_true,if_false,Option.map_some,Oi,Pi_]at h;obtain⟨rfl,rfl,rfl⟩:=h
      have kZ:first=#[]:=by simpa using hf
      subst kZ;refine Does.pure (s:=Instr.makeFunc (.func f) (#[].map ev) (caps.map ev)) hr rfl ⟨.func (.func f) #[] (caps.map ev),by simp[Instr.makeFunc],?_⟩;have:=VR.fn (w:=w) (ρ:=ρ) (H:=S.heap) f ds (caps.toList.map ev) hv.len (fun j d v=>hv.get);have he:(caps.toList.map ev).toArray=caps.map ev:=by apply Array.ext';simp
      rw[he]at this;exact this
    simp at x9
  case h_25 s d x =>
    split at x9
    · rename_i k1 k xS hk;simp only[Oi,Pi_]at x9;obtain⟨rfl,rfl⟩:=x9
      cases hv with | cons h1 t1=>cases t1 with | nil =>
      rename_i d1;cases d1<;>simp only[aop,LOp.loud,pop,Bool.false_eq_true,if_false,Option.map_some,Option.map_none,reduceCtorEq]at h;simp only[Oi,Pi_]at h;obtain⟨rfl,rfl,rfl⟩:=h;generalize hx:ev x=vx at h1;cases h1;refine Does.pure (s:=convert s d (ev x)) hr rfl ⟨.int k _,?_,.int _ _⟩;rw[hx];simp[convert,run_underlying (intT_iff.1 xS),run_underlying (intT_iff.1 hk),Conv.intToInt]
    split at x9
    · rename_i hss;simp only[Bool.and_eq_true]at hss;simp only[Oi,Pi_]at x9;obtain⟨rfl,rfl⟩:=x9
      cases hv with | cons h1 t1=>cases t1 with | nil =>
      rename_i d1;cases d1<;>simp only[aop,LOp.loud,pop,Bool.false_eq_true,if_false,Option.map_some,Option.map_none,reduceCtorEq]at h;simp only[Oi,Pi_]at h;obtain⟨rfl,rfl,rfl⟩:=h;generalize hx:ev x=vx at h1;cases h1;refine Does.pure (s:=convert s d (ev x)) hr rfl ⟨.string _,?_,.str _⟩;rw[hx];simp[convert,run_underlying (strT_iff.1 hss.1),run_underlying (strT_iff.1 hss.2)]
    split at x9
    · rename_i hud;split at x9
      · rename_i t kS;simp only[Om,Pi_]at x9;obtain⟨n,hn,rfl,rfl⟩:=x9
        cases hv with | cons h1 t1=>cases t1 with | nil =>
        simp only[aop,LOp.loud,lop,if_true,Om,Pi_]at h;obtain⟨r',hb,rfl,rfl,rfl⟩:=h;obtain⟨h3,h4⟩:=toU_ok hr kS hud hn h1 hb;exact Does.pure (s:=convert s d (ev x)) hr rfl ⟨_,h3,h4⟩
      simp at x9
    split at x9
    · rename_i hus;split at x9
      · rename_i t kS;simp only[Om,Pi_]at x9;obtain⟨n,hn,rfl,rfl⟩:=x9
        cases hv with | cons h1 t1=>cases t1 with | nil =>
        simp only[aop,LOp.loud,lop,if_true,Om,Pi_]at h;obtain⟨r',hb,rfl,rfl,rfl⟩:=h;obtain⟨h3,h4⟩:=ofU_ok hr hus kS hn h1 hb;exact Does.pure (s:=convert s d (ev x)) hr rfl ⟨_,h3,h4⟩
      simp at x9
    split at x9
    · rename_i e e' hse hde;split at x9
      · rename_i hc;obtain⟨rfl,yC,wz⟩:=hc;simp only[Oi,Pi_]at x9;obtain⟨rfl,rfl⟩:=x9
        cases hv with | cons h1 t1=>cases t1 with | nil =>
        simp only[aop,LOp.loud,lop,if_true]at h;exact Does.val (s:=convert s s (ev x)) rfl (strsh_ok hr (sliceT_iff.1 hse) (intT_iff.1 yC) h1 h)
      simp at x9
    · rename_i e hse hde;split at x9
      · rename_i hc;simp only[Bool.and_eq_true,decide_eq_true_eq,beq_iff_eq]at hc;simp only[Oi,Pi_]at x9;obtain⟨rfl,rfl⟩:=x9
        cases hv with | cons h1 t1=>cases t1 with | nil =>
        simp only[aop,LOp.loud,lop,if_true]at h;split at h
        · rename_i rows xH;simp only[Om,Pi_]at h;obtain⟨b,hb,rfl,rfl,rfl⟩:=h;exact Does.pure hr rfl ⟨_,bstr_ok hr (sliceT_iff.1 hse) (intT_iff.1 hc.1.1) (strT_iff.1 hc.1.2) h1 xH hb,.str _⟩
        simp at h
      simp at x9
    · rename_i e hse hde;split at x9
      · rename_i hc;simp only[Bool.and_eq_true,decide_eq_true_eq,beq_iff_eq]at hc;simp only[Oi,Pi_]at x9;obtain⟨rfl,rfl⟩:=x9
        cases hv with | cons h1 t1=>cases t1 with | nil =>
        rename_i d1;generalize hx:ev x=vx at h1;cases d1<;>simp only[aop,LOp.loud,lop,if_true,reduceCtorEq]at h;cases h1;simp only[Oi,Pi_]at h;obtain⟨rfl,rfl,rfl⟩:=h;refine Does.val (s:=convert s d (ev x)) rfl ?_;rw[hx];exact strb_ok hr (strT_iff.1 hc.1.2) (sliceT_iff.1 hde) (intT_iff.1 hc.1.1)
      simp at x9
    simp at x9
  case h_26 t x =>
    split at x9
    · simp at x9
    · simp at x9
    rename_i td r9 hu;simp only[Oi,Pi_]at x9;obtain⟨rfl,rfl⟩:=x9
    cases hv with | cons h1 t1=>cases t1 with | nil =>
    simp only[aop,LOp.loud,pop,Bool.false_eq_true,if_false]at h;split at h
    · rename_i vN;simp only[Option.map_some,Oi,Pi_]at h;obtain⟨rfl,rfl,rfl⟩:=h;refine Does.pure hr (s:=Instr.makeInterface t (ev x)) rfl ⟨.iface t (ev x),?_,?_⟩
      · simp only [Instr.makeInterface, Sem.run_bind, run_underlying hu, Result.andThen_ok]
        cases td<;>first | rfl | exact absurd rfl (r9 _)
      split
      · rename_i hf;exact .ifc t _ _ hf vN h1
      exact .ifr t _ _ vN h1
    simp at h
  case h_27 x xt t ok =>
    split at x9
    · simp at x9
    · simp at x9
    rename_i td r9 hu;simp only[Om,Pi_]at x9;obtain⟨z,hz,rfl,rfl⟩:=x9
    cases hv with | cons h1 t1=>cases t1 with | nil =>
    simp only[aop,LOp.loud,Bool.false_eq_true,if_false,Om,Pi_]at h;obtain⟨r',hp,rfl,rfl,rfl⟩:=h;exact Does.pure hr (s:=Instr.typeAssert (ev x) xt t ok) rfl (tass_ok hu (fun m hm=>r9 m hm) hz h1 hp)
  case h_28 c =>
    obtain⟨callee,args,argTypes⟩:=c
    have run_bi:∀(bi:Builtin) (s:Sem Value),(∀k,builtin bi argTypes oty k (args.map ev)=(do pure (.value (←s))))→callee=.builtin bi→(∃v w',s.run P w=.ok v w'∧Vu w ρ S r S' wr v w') →
        Does P w ρ S ev ⟨odst,.call ⟨callee,args,argTypes⟩,oty,opos,oafter,oguard⟩ r S' wr:=by
      rintro bi s hs rfl hh;refine Does.val (s:=s) ?_ hh;simp only[execOp,resolve,invoke];rw[←hs (args.map fun | .const _=>true | _=>false)];rfl
    simp only at x9;split at x9
    · simp only [Oi, Pi_] at x9;obtain⟨rfl,rfl⟩:=x9;simp[aop,lop,LOp.loud]at h
    · -- a function
      rename_i f;split at x9
      · rename_i fn zA;split at x9
        · rename_i hbody;split at x9
          · rename_i hmz;split at x9
            · rename_i rt hrt;split at x9
              · rename_i e he;split at x9
                · rename_i hu8;simp only[Oi,Pi_]at x9;obtain⟨rfl,rfl⟩:=x9;have he':(args.toList.map ev).toArray=args.map ev:=by apply Array.ext';simp
                  have hrt':fn.resultTypes=#[rt]:=by apply Array.ext';simpa using hrt
                  simp only[aop,LOp.loud,if_true]at h;obtain⟨n,rfl,rV,wQ,rfl,rfl,rfl⟩:=lop_mknz h
                  have rJ:args.map ev=#[.int .i64 n]:=by
                    rw[←he'];generalize args.toList.map ev=vs at hv
                    cases hv with
                    | cons h1 t1 =>
                    cases t1 with
                    | nil =>
                    cases h1;rfl
                  obtain⟨v,w',h4,h5⟩:=mknz_ok (P:=P) fn.params hr (sliceT_iff.1 he) rfl rV wQ;refine⟨.value v,v,w',?_,.inl rfl,h5⟩
                  have hh:(execOp ev ⟨odst,.call ⟨.value (.func f),args,argTypes⟩,oty,opos,oafter,oguard⟩).run P w=(callFunc f (args.map ev)).run P w:=by
                    simp[execOp,resolve,Deferred.ofValue,invoke,hevf]
                  rw[hh,rJ];exact run_mknz zA hbody hmz.1 hmz.2 hrt' h4
                simp at x9
              simp at x9
            simp at x9
          split at x9
          rotate_left
          · simp at x9
          rename_i l' hl';simp only[Oi,Pi_]at x9;obtain⟨rfl,rfl⟩:=x9;split at hl'
          · rename_i horig;have he:(args.toList.map ev).toArray=args.map ev:=by apply Array.ext';simp
            have run_x : ∀ (name : String) (g : Array Value → Sem Value), fn.name = name → (name == "runtime.NumGoroutine") = false → (Extern.allNextRows.lookup name = none ∧ Extern.allGenericRows.lookup name = none ∧ Extern.allTypedRows.lookup name = none ∧ Extern.allRows.lookup name = some g) →
                (∃v w',(g (args.map ev)).run P w=.ok v w'∧Vu w ρ S r S' wr v w')→Does P w ρ S ev ⟨odst,.call ⟨.value (.func f),args,argTypes⟩,oty,opos,oafter,oguard⟩ r S' wr:=by
              rintro name g h1 h2 h3 ⟨v,w',h4,h5⟩;refine⟨.value v,v,w',?_,.inl rfl,h5⟩
              have hh:(execOp ev ⟨odst,.call ⟨.value (.func f),args,argTypes⟩,oty,opos,oafter,oguard⟩).run P w=(callFunc f (args.map ev)).run P w:=by
                simp[execOp,resolve,Deferred.ofValue,invoke,hevf]
              rw[hh];exact run_ext zA hbody h1 horig h2 h3 h4
            unfold Li at hl';split at hl'
            · rename_i hnm;simp only[Oi]at hl';subst hl';refine run_x _ _ hnm (by decide) ext_idx ?_;rw[←he];generalize args.toList.map ev=vs at hv
              cases hv with
              | nil=>simp[aop,LOp.loud,pop]at h
              | cons h1 t1 => cases t1 with
                | nil=>simp[aop,LOp.loud,pop]at h
                | cons h2 t2 => cases t2 with
                  | cons h3 t3=>simp[aop,LOp.loud,pop]at h
                  | nil =>
                    rename_i d1 v1 d2 v2;simp only[aop,LOp.loud,Bool.false_eq_true,if_false,Om,Pi_]at h;obtain⟨r',hp,rfl,rfl,rfl⟩:=h;unfold pop at hp;split at hp<;>simp only[reduceCtorEq,List.cons.injEq,and_true,Oi]at *;rename_i s c qG;obtain⟨rfl,rfl⟩:=qG;subst hp;cases h1;cases h2;exact⟨_,w,idxb_run,Vu.pure hr (.int _ _)⟩
            split at hl'
            · rename_i hnm;simp only[Oi]at hl';subst hl';refine run_x _ _ hnm (by decide) ext_cnt ?_;rw[←he];generalize args.toList.map ev=vs at hv
              cases hv with
              | nil=>simp[aop,LOp.loud,pop]at h
              | cons h1 t1 => cases t1 with
                | nil=>simp[aop,LOp.loud,pop]at h
                | cons h2 t2 => cases t2 with
                  | cons h3 t3=>simp[aop,LOp.loud,pop]at h
                  | nil =>
                    rename_i d1 v1 d2 v2;simp only[aop,LOp.loud,Bool.false_eq_true,if_false,Om,Pi_]at h;obtain⟨r',hp,rfl,rfl,rfl⟩:=h;unfold pop at hp;split at hp<;>simp only[reduceCtorEq,List.cons.injEq,and_true,Oi]at *;rename_i s c qG;obtain⟨rfl,rfl⟩:=qG;subst hp;cases h1;cases h2;exact⟨_,w,cntb_run,Vu.pure hr (.int _ _)⟩
            split at hl'
            · rename_i hnm;simp only[Oi]at hl';subst hl';refine run_x _ _ hnm (by decide) ext_esc ?_;rw[←he];generalize args.toList.map ev=vs at hv
              cases hv with
              | nil=>simp[aop,LOp.loud,pop]at h
              | cons h1 t1 => cases t1 with
                | cons h2 t2=>simp[aop,LOp.loud,pop]at h
                | nil =>
                  simp only[aop,LOp.loud,pop,Bool.false_eq_true,if_false,Option.map_some,Oi,Pi_]at h;obtain⟨rfl,rfl,rfl⟩:=h;exact⟨_,w,rfl,Vu.pure hr h1⟩
            simp at hl'
          simp at hl'
        simp only[Oi,Pi_]at x9;obtain⟨rfl,rfl⟩:=x9;simp[aop,lop,LOp.loud]at h
      simp at x9
    · simp only [Oi, Pi_] at x9;obtain⟨rfl,rfl⟩:=x9;simp[aop,lop,LOp.loud]at h
    · -- len
      split at x9
      · rename_i x t yw vO;have ha:args=#[x]:=by apply Array.ext';simpa using yw
        have hb:argTypes=#[t]:=by apply Array.ext';simpa using vO
        subst ha hb;split at x9
        · rename_i xX;simp only[Oi,Pi_]at x9;obtain⟨rfl,rfl⟩:=x9
          cases hv with | cons h1 t1=>cases t1 with | nil =>
          simp only[aop,LOp.loud,pop,Bool.false_eq_true,if_false,Om,Pi_]at h;obtain⟨r',hb,rfl,rfl,rfl⟩:=h
          have ht:(Ob P t=true∧P.underlying t=some .string)∨(Ob P t=false∧∃e,P.underlying t=some (.slice e)):=by
            cases hs:Ob P t with
            | true=>exact .inl ⟨rfl,strT_iff.1 hs⟩
            | false =>
              rw[hs]at xX;simp only[Bool.false_or]at xX;obtain⟨e,he⟩:=Option.isSome_iff_exists.1 xX;exact .inr ⟨rfl,e,sliceT_iff.1 he⟩
          obtain⟨v,h3,h4⟩:=len_ok (P:=P) (ty:=oty) ht h1 hb;exact run_bi .len (Builtin.len_ #[t] oty #[ev x]) (fun k=>by simp[builtin]) rfl ⟨v,w,h3,Vu.pure hr h4⟩
        split at x9
        · rename_i n e he;simp only[Oi,Pi_]at x9;obtain⟨rfl,rfl⟩:=x9
          cases hv with | cons h1 t1=>cases t1 with | nil =>
          simp only[aop,LOp.loud,pop,Bool.false_eq_true,if_false,Option.map_some,Oi,Pi_]at h;obtain⟨rfl,rfl,rfl⟩:=h;exact run_bi .len (Builtin.len_ #[t] oty #[ev x]) (fun k=>by simp[builtin]) rfl ⟨.int .i64 n,w,by simp[Builtin.len_,run_underlying (arrayT_iff.1 he),goInt],Vu.pure hr (.int _ _)⟩
        simp at x9
      simp at x9
    · -- cap
      split at x9
      · rename_i x t yw vO;have ha:args=#[x]:=by apply Array.ext';simpa using yw
        have hb:argTypes=#[t]:=by apply Array.ext';simpa using vO
        subst ha hb;split at x9
        · rename_i xX;simp only[Oi,Pi_]at x9;obtain⟨rfl,rfl⟩:=x9
          cases hv with | cons h1 t1=>cases t1 with | nil =>
          simp only[aop,LOp.loud,pop,Bool.false_eq_true,if_false,Om,Pi_]at h;obtain⟨r',hb,rfl,rfl,rfl⟩:=h;obtain⟨e,he⟩:=Option.isSome_iff_exists.1 xX;obtain⟨v,h3,h4⟩:=cap_ok (P:=P) (ty:=oty) (sliceT_iff.1 he) h1 hb;exact run_bi .cap (Builtin.cap_ #[t] oty #[ev x]) (fun k=>by simp[builtin]) rfl ⟨v,w,h3,Vu.pure hr h4⟩
        simp at x9
      simp at x9
    · -- append
      split at x9
      · rename_i sx x t t' yw vO;have ha:args=#[sx,x]:=by apply Array.ext';simpa using yw
        have hb:argTypes=#[t,t']:=by apply Array.ext';simpa using vO
        subst ha hb;split at x9
        · rename_i xX;split at x9
          · rename_i e he;split at x9
            · rename_i i z hi hz;split at x9
              · rename_i hl;simp only[Oi,Pi_]at x9;obtain⟨rfl,rfl⟩:=x9
                cases hv with | cons h1 t1=>cases t1 with | cons h2 t2=>cases t2 with | nil =>
                rename_i d1 d2;generalize hx:ev x=vx at h2;cases d2<;>simp only[aop,LOp.loud,lop,if_true,reduceCtorEq]at h;cases h2;refine run_bi .append (Builtin.append_ #[t,t'] oty #[ev sx,ev x]) (fun k=>by simp[builtin]) rfl ?_;rw[hx];exact appstr_ok hr (sliceT_iff.1 he) (strT_iff.1 xX) hi hl.2.1 hz hl.2.2.1 hl.2.2.2 (kd_of kd _) h1 h
              simp at x9
            simp at x9
          simp at x9
        split at x9
        · rename_i qR;subst qR;split at x9
          · rename_i e he;split at x9
            · rename_i i n z hi hn hz;split at x9
              · rename_i hl;simp only[Oi,Pi_]at x9;obtain⟨rfl,rfl⟩:=x9
                cases hv with | cons h1 t1=>cases t1 with | cons h2 t2=>cases t2 with | nil =>
                simp only[aop,LOp.loud,lop,if_true]at h;exact run_bi .append (Builtin.append_ #[t,t] oty #[ev sx,ev x]) (fun k=>by simp[builtin]) rfl (append_ok hr (sliceT_iff.1 he) hi hn hz hl.1 hl.2 (kd_of kd _) h1 h2 h)
              simp at x9
            simp at x9
          simp at x9
        split at x9
        · rename_i hit;obtain⟨kn,hkn⟩:=Option.isSome_iff_exists.1 hit;split at x9
          · rename_i e he;split at x9
            · rename_i i n z hi hn hz;split at x9
              · rename_i hl;simp only[Oi,Pi_]at x9;obtain⟨rfl,rfl⟩:=x9
                cases hv with | cons h1 t1=>cases t1 with | cons h2 t2=>cases t2 with | nil =>
                rename_i d1 d2;generalize rJ:ev sx=vs at h1;generalize hvx:ev x=vx at h2;cases d1<;>cases d2<;>simp only[aop,LOp.loud,lop,if_true,reduceCtorEq]at h;cases h1;cases h2;refine run_bi .append (Builtin.append_ #[t,t'] oty #[ev sx,ev x]) (fun k=>by simp[builtin]) rfl ?_;rw[rJ,hvx];exact appmk_ok hr (sliceT_iff.1 he) (intT_iff.1 hkn) hi hn hz hl.1 (kd:=if kd.of e=0 then 0 else 2) (by split<;>simp) hl.2 h
              simp at x9
            simp at x9
          simp at x9
        simp at x9
      simp at x9
    · -- copy
      split at x9
      · rename_i dx x t t' yw vO;have ha:args=#[dx,x]:=by apply Array.ext';simpa using yw
        have hb:argTypes=#[t,t']:=by apply Array.ext';simpa using vO
        subst ha hb;split at x9
        · rename_i e he;split at x9
          · rename_i i n hi hn;split at x9
            · rename_i wQ;subst wQ;split at x9
              · rename_i xX;split at x9
                · simp only [Oi, Pi_] at x9;obtain⟨rfl,rfl⟩:=x9
                  cases hv with | cons h1 t1=>cases t1 with | cons h2 t2=>cases t2 with | nil =>
                  rename_i d1 d2;generalize hx:ev x=vx at h2;cases d2<;>simp only[aop,LOp.loud,lop,if_true,reduceCtorEq]at h;cases h2;by_cases rZ:kd.of e=0
                  · rw[if_pos rZ]at h;simp at h
                  rw[if_neg rZ]at h;refine run_bi .copy (Builtin.copy_ #[t,t'] oty #[ev dx,ev x]) (fun k=>by simp[builtin]) rfl ?_;rw[hx];exact copys_ok hr (sliceT_iff.1 he) hn h1 h
                simp at x9
              split at x9
              · rename_i qR;subst qR;simp only[Oi,Pi_]at x9;obtain⟨rfl,rfl⟩:=x9
                cases hv with | cons h1 t1=>cases t1 with | cons h2 t2=>cases t2 with | nil =>
                rename_i d1 d2;simp only[aop,LOp.loud,lop,if_true]at h
                cases vQ:Oz (kd.of e) S 1 d2 with
                | none=>rw[vQ]at h;simp at h
                | some src =>
                  rw[vQ]at h;exact run_bi .copy (Builtin.copy_ #[t,t] oty #[ev dx,ev x]) (fun k=>by simp[builtin]) rfl (copy_ok hr (sliceT_iff.1 he) hn h1 h2 vQ h)
              simp at x9
            simp at x9
          simp at x9
        simp at x9
      simp at x9
    · -- max
      simp only[Oi,Pi_]at x9;obtain⟨rfl,rfl⟩:=x9;simp only[aop,LOp.loud,Bool.false_eq_true,if_false,Om,Pi_]at h;obtain⟨r',hb,rfl,rfl,rfl⟩:=h;have he:(args.toList.map ev).toArray=args.map ev:=by apply Array.ext';simp
      obtain⟨v,h3,h4⟩:=maxs_ok (P:=P) (ts:=argTypes) (t:=oty) hv hb;rw[he]at h3;exact run_bi .max (Builtin.max_ argTypes oty (args.map ev)) (fun k=>by simp[builtin]) rfl ⟨v,w,h3,Vu.pure hr h4⟩
    · -- min
      simp only[Oi,Pi_]at x9;obtain⟨rfl,rfl⟩:=x9;simp only[aop,LOp.loud,Bool.false_eq_true,if_false,Om,Pi_]at h;obtain⟨r',hb,rfl,rfl,rfl⟩:=h;have he:(args.toList.map ev).toArray=args.map ev:=by apply Array.ext';simp
      obtain⟨v,h3,h4⟩:=mins_ok (P:=P) (ts:=argTypes) (t:=oty) hv hb;rw[he]at h3;exact run_bi .min (Builtin.min_ argTypes oty (args.map ev)) (fun k=>by simp[builtin]) rfl ⟨v,w,h3,Vu.pure hr h4⟩
    · -- the bytes of a slice
      split at x9
      · rename_i x yw;have ha:args=#[x]:=by apply Array.ext';simpa using yw
        subst ha;simp only[Oi,Pi_]at x9;obtain⟨rfl,rfl⟩:=x9
        cases hv with | cons h1 t1=>cases t1 with | nil =>
        simp only[aop,LOp.loud,lop,if_true,Om,Pi_]at h;obtain⟨r',hb,rfl,rfl,rfl⟩:=h;obtain⟨v,h3,h4⟩:=sdata_ok (P:=P) (ts:=argTypes) (ty:=oty) hr h1 hb;exact run_bi .unsafeSliceData (Builtin.unsafeSliceData_ argTypes oty #[ev x]) (fun k=>by simp[builtin]) rfl ⟨v,w,h3,Vu.pure hr h4⟩
      simp at x9
    · -- bytes as a string
      split at x9
      · rename_i x y t t' yw vO;have ha:args=#[x,y]:=by apply Array.ext';simpa using yw
        have hb:argTypes=#[t,t']:=by apply Array.ext';simpa using vO
        subst ha hb;split at x9
        · rename_i e kS;split at x9
          · rename_i hc;simp only[Oi,Pi_]at x9;obtain⟨rfl,rfl⟩:=x9
            cases hv with | cons h1 t1=>cases t1 with | cons h2 t2=>cases t2 with | nil =>
            rename_i d1 d2;generalize hy:ev y=vy at h2;simp only[aop,LOp.loud,if_true]at h;unfold lop at h;split at h<;>simp only[reduceCtorEq,List.cons.injEq,and_true,LOp.ustr.injEq]at *;rename_i e' p n heq1 heq2;subst heq1;obtain⟨rfl,rfl⟩:=heq2;cases h2;refine run_bi .unsafeString (Builtin.unsafeString_ #[t,t'] oty #[ev x,ev y]) (fun k=>by simp[builtin]) rfl ?_;rw[hy];exact ustr_ok hr kS hc.2 h1 h
          simp at x9
        simp at x9
      simp at x9
    simp at x9
  case h_29 t x =>
    split at x9
    · rename_i xX;simp only[Oi,Pi_]at x9;obtain⟨rfl,rfl⟩:=x9
      cases hv with | cons h1 t1=>cases t1 with | nil =>
      rename_i d1;generalize hx:ev x=vx at h1;cases d1<;>simp only[aop,LOp.loud,lop,if_true,reduceCtorEq]at h;cases h1;simp only[Oi,Pi_]at h;obtain⟨rfl,rfl,rfl⟩:=h;refine Does.val (s:=Instr.range t (ev x)) rfl ?_;rw[hx];exact rngs_ok hr (strT_iff.1 xX)
    simp at x9
  case h_30 it isString =>
    split at x9
    · rename_i xX;subst xX;simp only[Oi,Pi_]at x9;obtain⟨rfl,rfl⟩:=x9
      cases hv with | cons h1 t1=>cases t1 with | nil =>
      rename_i d1;cases d1<;>simp only[aop,LOp.loud,lop,if_true,reduceCtorEq]at h;exact Does.val (s:=Instr.next (ev it) true oty) rfl (nexts_ok hr h1 h)
    simp at x9
  case h_31=>simp at x9
end
open Go.RowKit
section
variable {P:Program}
def Im (P:Program) (G:Nat→Option (List D)) (call:Bp):Prop :=
 ∀f ds S r S' wr,call f ds S=some (r,S',wr)→∀w (ρ:Vo) vs,ρ.X.G=G→Rel w ρ S.heap→VL w ρ S.heap ds vs →
  (callFunc f vs.toArray).run P w=.ok (.enter f vs.toArray) w∧Calls P f vs.toArray w fun e w'=>∃v,e=.returned v∧Vu w ρ S r S' wr v w'
theorem lowOp_call{kd:Kd}{o:Oper}{f:FuncId}{xs:List Operand}(h:O8 P kd o=some (.call f,xs)):∃args tys,o.op=.call ⟨.value (.func f),args,tys⟩∧xs=args.toList:=by
 have hx:∀{s:String} {b:Prop} [Decidable b] {l:LOp},(if b then Li s else none)=some l→l≠.call f:=by
  intro s b _ l hl e;subst e;split at hl
  ·
   unfold Li at hl
   repeat' (first | (split at hl;skip) | (simp at hl;done))
   all_goals simp at hl
  simp at hl
 unfold O8 at h;split at h
 case h_28 c yZ =>
  obtain⟨callee,args,tys⟩:=c;simp only at h;split at h
  ·
   simp at h
  ·
   rename_i f';split at h
   ·
    split at h
    ·
     split at h
     ·
      repeat' (first | (split at h;skip) | (simp at h;done))
      all_goals simp at h
     split at h
     ·
      rename_i l' hl';simp only[Oi,Pi_]at h;exact absurd h.1 (hx hl')
     simp at h
    simp only[Oi,Pi_,LOp.call.injEq]at h;obtain⟨rfl,rfl⟩:=h;exact⟨args,tys,yZ,rfl⟩
   simp at h
  all_goals (repeat' (first | (split at h;skip) | (simp at h;done)))
  all_goals first
   | (simp at h;done)
   | (simp only[Om,Pi_,reduceCtorEq,false_and,and_false,exists_false]at h;done)
 all_goals (repeat' (first | (split at h;skip) | (simp at h;done)))
 all_goals first
  | (simp at h;done)
  | (simp only[Om,Pi_,reduceCtorEq,false_and,and_false,exists_false]at h;done)
theorem lowOp_callv{kd:Kd}{o:Oper}{xs:List Operand}(h:O8 P kd o=some (.callv,xs)):∃t args tys,o.op=.call ⟨.value (.tmp t),args,tys⟩∧xs=.tmp t::args.toList:=by
 have hx:∀{s:String} {b:Prop} [Decidable b] {l:LOp},(if b then Li s else none)=some l→l≠.callv:=by
  intro s b _ l hl e;subst e;split at hl
  ·
   unfold Li at hl
   repeat' (first | (split at hl;skip) | (simp at hl;done))
   all_goals simp at hl
  simp at hl
 unfold O8 at h;split at h
 case h_28 c yZ =>
  obtain⟨callee,args,tys⟩:=c;simp only at h;split at h
  ·
   simp at h
  ·
   rename_i f';split at h
   ·
    split at h
    ·
     split at h
     ·
      repeat' (first | (split at h;skip) | (simp at h;done))
      all_goals simp at h
     split at h
     ·
      rename_i l' hl';simp only[Oi,Pi_]at h;exact absurd h.1 (hx hl')
     simp at h
    simp at h
   simp at h
  ·
   simp only[Oi,Pi_]at h;obtain⟨_,rfl⟩:=h;exact⟨_,args,tys,yZ,rfl⟩
  all_goals (repeat' (first | (split at h;skip) | (simp at h;done)))
  all_goals first
   | (simp at h;done)
   | (simp only[Om,Pi_,reduceCtorEq,false_and,and_false,exists_false]at h;done)
 all_goals (repeat' (first | (split at h;skip) | (simp at h;done)))
 all_goals first
  | (simp at h;done)
  | (simp only[Om,Pi_,reduceCtorEq,false_and,and_false,exists_false]at h;done)
theorem lowOp_invoke{kd:Kd}{o:Oper}{tab:List (TypeId × FuncId)}{xs:List Operand}(h:O8 P kd o=some (.invoke tab,xs)):∃recv name args tys,o.op=.call ⟨.invoke recv name,args,tys⟩∧xs=recv::args.toList∧tab=Ro P name:=by
 have hx:∀{s:String} {b:Prop} [Decidable b] {l:LOp},(if b then Li s else none)=some l→l≠.invoke tab:=by
  intro s b _ l hl e;subst e;split at hl
  ·
   unfold Li at hl
   repeat' (first | (split at hl;skip) | (simp at hl;done))
   all_goals simp at hl
  simp at hl
 unfold O8 at h;split at h
 case h_28 c yZ =>
  obtain⟨callee,args,tys⟩:=c;simp only at h;split at h
  ·
   simp only[Oi,Pi_,LOp.invoke.injEq]at h;obtain⟨rfl,rfl⟩:=h;exact⟨_,_,args,tys,yZ,rfl,rfl⟩
  ·
   rename_i f';split at h
   ·
    split at h
    ·
     split at h
     ·
      repeat' (first | (split at h;skip) | (simp at h;done))
      all_goals simp at h
     split at h
     ·
      rename_i l' hl';simp only[Oi,Pi_]at h;exact absurd h.1 (hx hl')
     simp at h
    simp at h
   simp at h
  ·
   simp at h
  all_goals (repeat' (first | (split at h;skip) | (simp at h;done)))
  all_goals first
   | (simp at h;done)
   | (simp only[Om,Pi_,reduceCtorEq,false_and,and_false,exists_false]at h;done)
 all_goals (repeat' (first | (split at h;skip) | (simp at h;done)))
 all_goals first
  | (simp at h;done)
  | (simp only[Om,Pi_,reduceCtorEq,false_and,and_false,exists_false]at h;done)
theorem mem_lookup{α β:Type}[BEq α][LawfulBEq α]{l:List (α × β)}{a:α}{b:β}(h:l.lookup a=some b):(a,b)∈l:=by
 induction l with
 | nil=>simp at h
 | cons p l ih =>
  obtain⟨x,y⟩:=p;simp only[List.lookup_cons]at h;split at h
  ·
   rename_i he;simp only[Oi]at h;rw[eq_of_beq he,h];exact List.mem_cons_self
  exact List.mem_cons_of_mem _ (ih h)
theorem pointerT_iff{t:TypeId}:O1 P t=true↔∃e,P.underlying t=some (.pointer e):=by
 unfold O1;split
 ·
  rename_i e hu;exact⟨fun _=>⟨e,hu⟩,fun _=>rfl⟩
 rename_i hn;exact⟨fun h=>by simp at h,fun ⟨e,he⟩=>absurd he (hn e)⟩
theorem run_method{w:World}{name:String}{tab:List (TypeId × FuncId)}{t:TypeId}{f:FuncId}{v:Value}(htab:tab=Ro P name)(h:tab.lookup t=some f):(method (P.types.size+Made.depth) t v name).run P w=.ok (f,v) w:=by
 subst htab;have hm:=mem_lookup h;unfold Ro at hm;simp only[List.mem_filterMap,List.mem_range]at hm;obtain⟨t',xE,hx⟩:=hm;split at hx
 ·
  rename_i i hi;split at hx
  ·
   rename_i m hfm;split at hx
   ·
    rename_i f' pr hmf;rw[Option.ite_none_right_eq_some]at hx;obtain⟨hc,hx⟩:=hx;simp only[Oi,Pi_]at hx;obtain⟨rfl,rfl⟩:=hx;rw[Bool.and_eq_true,Bool.and_eq_true,Bool.and_eq_true,beq_iff_eq,Array.isEmpty_iff]at hc;obtain⟨⟨⟨hp,hpr⟩,hus⟩,hb⟩:=hc;obtain⟨td,hu⟩:=Option.isSome_iff_exists.1 hus;obtain⟨k,hk⟩:∃k,P.types.size+Made.depth=k+1:=⟨P.types.size+Made.depth-1,by omega⟩;rw[hk];have hti:(typeInfo t').run P w=.ok i w:=by simp[typeInfo,hi]
    unfold method;rw[Ag hti];simp only[hfm,hp];have hfo:(follow [] t' (.val v)).run P w=.ok (t',.val v) w:=rfl;rw[Ag hfo];simp only[hmf]
    have hre : (receiverAt t' (.val v) pr (if (#[] : Array FieldStep).isEmpty = true then some ((name.splitOn ".").getLastD name) else none)).run P w = .ok v w := by
     unfold receiverAt;rw[Ag (run_underlying hu w)]
     cases kS:O1 P t' with
     | true =>
      rw[kS]at hpr;subst hpr;obtain⟨e,he⟩:=pointerT_iff.1 kS;rw[hu]at he;simp only[Oi]at he;subst he;rfl
     | false =>
      rw[kS]at hpr;subst hpr
      cases td<;>first | rfl | (exfalso;have:O1 P t'=true:=pointerT_iff.2 ⟨_,hu⟩;rw[kS]at this;simp at this)
    rw[Ag hre];rfl
   simp at hx
  simp at hx
 simp at hx
theorem exOp_okQ{call:Bp}{kd:Kd}{o:Oper}{l:LOp}{xs:List Operand}{a:Act}{w:World}{ρ:Vo}{S S':St}{ds:List D}{r:D}{wr:Bool}{K:Act→World→Prop}{Q:Exit→Act→World→Prop}
  (xO:∀f ds r S' wr vs,call f ds S=some (r,S',wr)→VL w ρ S.heap ds vs→(callFunc f vs.toArray).run P w=.ok (.enter f vs.toArray) w∧Calls P f vs.toArray w fun e w'=>(∃v,e=.returned v∧Vu w ρ S r S' wr v w')∨∃ch,e=.panicked ch∧Q (.panic ch) a w')
  (uF:Jv P kd o=some (l,xs)) (hv:VL w ρ S.heap ds (xs.map a.eval)) (hr:Rel w ρ S.heap) (h:Ce call l ds S=some (r,S',wr)) (hK:∀v w',Vu w ρ S r S' wr v w'→K (a.put o.dst v) w'):o.wp P a w K Q:=by
 have x9:O8 P kd o=some (l,xs):=by
  unfold Jv at uF;split at uF
  ·
   rename_i x hx;rw[hx];exact uF
  simp only[Oi,Pi_]at uF;obtain⟨rfl,rfl⟩:=uF;simp[Ce,aop,LOp.loud,pop]at h
 have plain:aop l ds S=some (r,S',wr)→o.wp P a w K Q:=by
  intro h;obtain⟨nx,v,w',h1,h2,h3⟩:=aop_ok (fun _=>rfl) x9 hv hr h;unfold Oper.wp;rw[h1];rcases h2 with rfl | ⟨rfl,rfl⟩
  ·
   exact hK v w' h3
  exact hK undef w' h3
 have fin:∀f vs,(execOp a.eval o).run P w=(callFunc f vs).run P w→(callFunc f vs).run P w=.ok (.enter f vs) w∧(Calls P f vs w fun e w'=>(∃v,e=.returned v∧Vu w ρ S r S' wr v w')∨∃ch,e=.panicked ch∧Q (.panic ch) a w')→o.wp P a w K Q:=by
  rintro f vs he ⟨h1,h2⟩;unfold Oper.wp;rw[he,h1,Oper.upon_enter];refine h2.mono ?_;rintro e w' (⟨v,rfl,hp⟩ | ⟨ch,rfl,hp⟩)
  ·
   exact hK v w' hp
  exact hp
 unfold Ce at h;split at h
 ·
  rename_i f;obtain⟨args,tys,yZ,rfl⟩:=lowOp_call x9;have hc:=xO f ds r S' wr _ h hv;have he:(args.toList.map a.eval).toArray=args.map a.eval:=by apply Array.ext';simp
  rw[he]at hc;refine fin f (args.map a.eval) ?_ hc;simp[execOp,yZ,resolve,Deferred.ofValue,invoke,Act.eval]
 ·
  split at h
  ·
   rename_i f caps ys;obtain⟨t,args,tys,yZ,rfl⟩:=lowOp_callv x9
   cases hv with
   | cons h1 t1 =>
    generalize hx:a.eval (.tmp t)=vx at h1
    cases h1 with
    | fn _ _ vs hl hh =>
     have hc:=xO f _ r S' wr _ h (t1.append (VL.of hl hh));have he:(args.toList.map a.eval++vs).toArray=args.map a.eval++vs.toArray:=by apply Array.ext';simp
     rw[he]at hc;refine fin f _ ?_ hc;simp only[Act.eval]at hx;simp[execOp,yZ,resolve,Deferred.ofValue,invoke,Act.eval,hx]
  simp at h
 ·
  rename_i tab;obtain⟨recv,name,args,tys,yZ,rfl,htab⟩:=lowOp_invoke x9
  have go:∀(t:TypeId) (d:D) (v:Value) (ys:List D) (f:FuncId),a.eval recv=.iface t v→VR w ρ S.heap d v→VL w ρ S.heap ys (args.toList.map a.eval)→tab.lookup t=some f→call f (d::ys) S=some (r,S',wr)→o.wp P a w K Q:=by
   intro t d v ys f he hd hys hlk yB;have hc:=xO f _ r S' wr _ yB (.cons hd hys);have he2:(v::args.toList.map a.eval).toArray=#[v]++args.map a.eval:=by apply Array.ext';simp
   rw[he2]at hc;refine fin f _ ?_ hc;have hm:=run_method (w:=w) (v:=v) htab hlk;have hp:Sem.run P program w=.ok P w:=rfl
   have h0:execOp a.eval o=invoke (.fn (.method name) #[]) (#[a.eval recv]++args.map a.eval):=by
    unfold execOp;rw[yZ];rfl
   rw[h0,he]
   have e1:(#[Value.iface t v]++args.map a.eval)[0]?=some (.iface t v):=by
    rw[Array.getElem?_append_left (by simp)];rfl
   have e2:(#[Value.iface t v]++args.map a.eval).extract 1 (#[Value.iface t v]++args.map a.eval).size=args.map a.eval:=by
    apply Array.ext';simp only[Array.toList_extract,Array.toList_append,List.extract_eq_take_drop,Array.size_append];simp;rw[List.take_of_length_le (by simp)]
   simp only[invoke,e1,e2,callMethod];rw[Ag hp,Ag hm]
  split at h
  ·
   rename_i t d ys;split at h
   ·
    rename_i f hlk
    cases hv with
    | cons h1 t1 =>
    generalize hx:a.eval recv=vx at h1
    cases h1 with
    | ifc _ _ v hf hvv h1=>exact go t d v ys f hx h1 t1 hlk h
   simp at h
  ·
   rename_i t d ys;split at h
   ·
    rename_i f hlk
    cases hv with
    | cons h1 t1 =>
    generalize hx:a.eval recv=vx at h1
    cases h1 with
    | ifr _ _ v hvv h1=>exact go t d v ys f hx h1 t1 hlk h
   simp at h
  simp at h
 exact plain h
theorem exOp_ok{G:Nat→Option (List D)}{call:Bp}(xO:Im P G call){kd:Kd}{o:Oper}{l:LOp}{xs:List Operand}{a:Act}{w:World}{ρ:Vo}{S S':St}{ds:List D}{r:D}{wr:Bool}{K:Act→World→Prop}{Q:Exit→Act→World→Prop}
  (hG:ρ.X.G=G) (uF:Jv P kd o=some (l,xs)) (hv:VL w ρ S.heap ds (xs.map a.eval)) (hr:Rel w ρ S.heap) (h:Ce call l ds S=some (r,S',wr)) (hK:∀v w',Vu w ρ S r S' wr v w'→K (a.put o.dst v) w'):o.wp P a w K Q :=
 exOp_okQ (fun f ds r S' wr vs h hv=>let ⟨h1,h2⟩:=xO f ds S r S' wr h w ρ vs hG hr hv;⟨h1,h2.mono fun e w' h=>.inl h⟩) uF hv hr h hK
def sig (slots:List Nat) (prev:List (Option Tmp)) (vals env:List D) (t:Nat):D :=
 match Gb prev t with
 | some d=>vals.getD d .undef
 | none=>match idxOf slots t with
  | some j=>env.getD j .undef
  | none=>.undef
def FR (w:World) (ρ:Vo) (H:List Vi) (nt:Nat) (σ:Nat→D) (a:Act):Prop :=
 a.tmps.size=nt∧∀t,t<nt→VR w ρ H (σ t) (a.tmps.getD t undef)
theorem Rh(slots:List Nat)(o:Option Tmp)(prev:List (Option Tmp))(r:D)(vals env:List D)(t:Nat):sig slots (o::prev) (r::vals) env t=if o=some t then r else sig slots prev vals env t:=by
 have e:Gb (o::prev) t=if o=some t then some 0 else (Gb prev t).map (·+1):=rfl
 unfold sig;rw[e];by_cases h:o=some t
 ·
  simp[h]
 simp only[h,if_false]
 cases Gb prev t with
 | none=>simp
 | some d=>simp
theorem FR.put{w w':World}{ρ ρ':Vo}{S S':St}{nt:Nat}{σ σ':Nat→D}{a:Act}{dst:Option Tmp}{r:D}{v:Value}(h:FR w ρ S.heap nt σ a)(hs:Stp w ρ S w' ρ' S')(hv:VR w' ρ' S'.heap r v)(hd:G5 nt dst=true)(hσ:∀t,σ' t=if dst=some t then r else σ t) :
  FR w' ρ' S'.heap nt σ' (a.put dst v):=by
 cases dst with
 | none=>exact⟨h.1,fun t ht=>by rw[hσ];simpa [Act.put] using (h.2 t ht).mono hs⟩
 | some d =>
  have hdl:d<a.tmps.size:=by rw[h.1];simpa [G5] using hd
  refine⟨by simpa [Act.put] using h.1,fun t ht=>?_⟩;rw[hσ];by_cases e:d=t
  ·
   subst e;simp[Act.put,hdl,hv]
  have e':¬some d=some t:=by simpa using e
  rw[if_neg e'];have:=(h.2 t ht).mono hs;simp only[Act.put,Array.getD_eq_getD_getElem?,Array.getElem?_setIfInBounds,if_neg e]at this ⊢;exact this
theorem Hd{l:List Nat}{t j:Nat}(h:idxOf l t=some j):l[j]?=some t:=by
 induction l generalizing j with
 | nil=>simp[idxOf]at h
 | cons s l ih =>
  unfold idxOf at h;split at h
  ·
   rename_i e;simp at h;subst h e;rfl
  simp only[Om]at h;obtain⟨k,hk,rfl⟩:=h;simpa using ih hk
theorem Je{l:List (Option Tmp)}{t d:Nat}(h:Gb l t=some d):l[d]?=some (some t):=by
 induction l generalizing d with
 | nil=>simp[Gb]at h
 | cons s l ih =>
  unfold Gb at h;split at h
  ·
   rename_i e;simp at h;subst h e;rfl
  simp only[Om]at h;obtain⟨k,hk,rfl⟩:=h;simpa using ih hk
theorem opd_ok{w:World}{ρ:Vo}{H:List Vi}{nt:Nat}{slots:List Nat}{prev:List (Option Tmp)}{vals env:List D}{a:Act}{x:Operand}{y:Vl}{gl:Nat→Option (List D)}(xG:∀g row,gl g=some row→VR w ρ H (.V7 row 0) (.pointer (some ⟨g,0,none⟩)))(h:Sn gl slots prev x=some y)(hs:slots.all (·<nt)=true)(hp:∀d∈prev,G5 nt d=true)
    (hf:∀t,x=.tmp t→VR w ρ H (sig slots prev vals env t) (a.tmps.getD t undef)):VR w ρ H (opd vals env y) (a.eval x):=by
  unfold Sn at h;split at h
  · rename_i t;have h1:=hf t rfl;unfold sig at h1;split at h
    · rename_i d hd;simp only[Oi]at h;subst h;simp only[hd]at h1;exact h1
    rename_i hd;simp only[Om]at h;obtain⟨j,hj,rfl⟩:=h;simp only[hd,hj]at h1;exact h1
  · rename_i v;simp only[Oi]at h;subst h
    cases hc:R6 v with
    | none=>exact .undef _
    | some d=>exact Nv hc
  · simp only [Oi] at h;subst h;exact .fn _ [] [] rfl (fun j d v h=>by simp at h)
  rename_i g;simp only[Oi]at h;subst h
  cases hg:gl g with
  | none=>exact .undef _
  | some row=>exact xG g row hg
theorem tmp_in{nt:Nat}{slots:List Nat}{prev:List (Option Tmp)}{t:Nat}{y:Vl}{gl:Nat→Option (List D)}(h:Sn gl slots prev (.tmp t)=some y)(hs:slots.all (·<nt)=true)(hp:∀d∈prev,G5 nt d=true):t<nt:=by
 unfold Sn at h;simp only at h;split at h
 ·
  rename_i d hd;have:=hp _ (Lm (Je hd));simpa [G5] using this
 simp only[Om]at h;obtain⟨j,hj,_⟩:=h;have:=List.all_eq_true.1 hs t (Lm (Hd hj));simpa using this
theorem Vd{w:World}{ρ:Vo}{H:List Vi}{nt:Nat}{slots:List Nat}{prev:List (Option Tmp)}{vals env:List D}{a:Act}{gl:Nat→Option (List D)}(xG:∀g row,gl g=some row→VR w ρ H (.V7 row 0) (.pointer (some ⟨g,0,none⟩)))(hs:slots.all (·<nt)=true)(hp:∀d∈prev,G5 nt d=true):∀{xs:List Operand} {ys:List Vl},Km gl slots prev xs=some ys →
  (∀t,.tmp t∈xs→t<nt→VR w ρ H (sig slots prev vals env t) (a.tmps.getD t undef))→VL w ρ H (ys.map (opd vals env)) (xs.map a.eval)
 | [],ys,h,_=>by simp only[Km,Oi]at h;subst h;exact .nil
 | x :: xs, ys, h, hf => by
  unfold Km at h;split at h
  ·
   rename_i y m hy hm;simp only[Oi]at h;subst h;refine .cons (opd_ok xG hy hs hp fun t ht=>?_) (Vd xG hs hp hm fun t ht=>hf t (List.mem_cons_of_mem _ ht));subst ht;exact hf t (List.mem_cons_self ..) (tmp_in hy hs hp)
  simp at h
theorem Pp {dsts : List (Option Tmp)} {vals : List D} {slots0 : List Nat} : ∀ {slots : List Nat} {k : Nat} {env : List D} (j : Nat), (exports (Il dsts slots k) vals env).getD j .undef = if k ≤ j ∧ j < k + slots.length ∧ j < env.length then (match Gb dsts (slots.getD (j - k) 0) with | some d => vals.getD d .undef | none => env.getD j .undef) else env.getD j .undef
  | [],k,env,j=>by simp only[Il,exports,List.length_nil];rw[if_neg (by omega)]
  | s :: l, k, env, j => by
    unfold Il;split
    · rename_i d hd;simp only[exports];rw[Pp (slots0:=slots0) (slots:=l) (k:=k+1) j];by_cases e:k=j
      · subst e;rw[if_neg (by omega)];by_cases hl:k<env.length
        · rw [if_pos ⟨Nat.le_refl _, by simp, hl⟩];simp[hd,hl]
        rw[if_neg (by omega)];simp[hl]
      have h1:(env.set k (vals.getD d .undef)).getD j .undef=env.getD j .undef:=by simp[List.getD,Ln_ e]
      rw[h1];by_cases h2:k+1≤j∧j<k+1+l.length∧j<env.length
      · rw [if_pos (by simpa using h2), if_pos (by simp; omega)];rw[show j-k=(j-(k+1))+1 by omega];simp
      rw[if_neg (by simpa using h2),if_neg (by simp;omega)]
    rename_i hd;rw[Pp (slots0:=slots0) (slots:=l) (k:=k+1) j];by_cases e:k=j
    · subst e;rw[if_neg (by omega)];by_cases hl:k<env.length
      · rw [if_pos ⟨Nat.le_refl _, by simp, hl⟩];simp[hd]
      rw[if_neg (by omega)]
    by_cases h2:k+1≤j∧j<k+1+l.length∧j<env.length
    · rw [if_pos h2, if_pos (by simp; omega)];rw[show j-k=(j-(k+1))+1 by omega];simp
    rw[if_neg h2,if_neg (by simp;omega)]
theorem Kb{vals:List D}:∀{es:List (Nat × Nat)} {env:List D},(exports es vals env).length=env.length
 | [],env=>rfl
 | (j,d)::es,env=>by simp only[exports];rw[Kb];simp
theorem R4{vals:List D}{n:Nat}:∀{es:List (Nat × Nat)} {env:List D},(∀p∈es,p.1<n)→(exports es vals env).drop n=env.drop n
 | [],env,_=>rfl
 | (j,d)::es,env,h=>by
  simp only[exports];rw[R4 fun p hp=>h p (List.mem_cons_of_mem _ hp)];have:=h (j,d) List.mem_cons_self;rw[List.drop_set_of_lt this]
theorem Tc{dsts:List (Option Tmp)}:∀{slots:List Nat} {k:Nat},∀p∈Il dsts slots k,p.1<k+slots.length
 | [],k,p,h=>by simp[Il]at h
 | s :: l, k, p, h => by
  unfold Il at h;split at h
  ·
   rcases List.mem_cons.1 h with rfl | h
   ·
    simp
   have:=Tc (slots:=l) (k:=k+1) p h;simp;omega
  have:=Tc (slots:=l) (k:=k+1) p h;simp;omega
theorem sig_end{dsts:List (Option Tmp)}{slots:List Nat}{vals env:List D}(hl:slots.length≤env.length)(t:Nat):sig slots [] [] (exports (Il dsts slots 0) vals env) t=(match idxOf slots t with | some _=>sig slots dsts vals env t | none=>.undef):=by
 unfold sig;simp only[Gb]
 cases hj:idxOf slots t with
 | none=>rfl
 | some j =>
  have hm:=Hd hj;have yO:=lt_of_some hm;simp only;rw[Pp (slots0:=slots),if_pos (by omega)];have:slots.getD (j-0) 0=t:=by simp[List.getD,hm]
  rw[this]
theorem FR.end_{w:World}{ρ:Vo}{H:List Vi}{nt:Nat}{dsts:List (Option Tmp)}{slots:List Nat}{vals env:List D}{a:Act}(hl:slots.length≤env.length)(h:FR w ρ H nt (sig slots dsts vals env) a):FR w ρ H nt (sig slots [] [] (exports (Il dsts slots 0) vals env)) a:=by
 refine⟨h.1,fun t ht=>?_⟩;rw[sig_end hl]
 cases idxOf slots t with
 | none=>exact .undef _
 | some j=>exact h.2 t ht
theorem guard_ok{w:World}{ρ:Vo}{H:List Vi}{nt:Nat}{slots:List Nat}{prev:List (Option Tmp)}{vals env:List D}{a:Act}{ops:Array Oper}{j d:Nat}{b b':Bool}{t:Tmp}(kV:(ops[j]?).bind (·.dst)=some t)(zU:Gb prev t=some d)(hp:∀d∈prev,G5 nt d=true)
  (hf:VR w ρ H (sig slots prev vals env t) (a.tmps.getD t undef)) (xK:a.tmps.size=nt) (hv:vals.getD d .undef=.bool b'):yielded ops a.tmps j=some b':=by
 unfold sig at hf;simp only[zU,hv]at hf
 have ht:t<a.tmps.size:=by
  have:=hp _ (Lm (Je zU));rw[xK];simpa [G5] using this
 unfold yielded;rw[kV];simp only[Option.bind_some,Array.getElem?_eq_getElem ht];simp only[Array.getD,ht,dif_pos]at hf;generalize hx:a.tmps[t]=x at hf;have hx':a.tmps.getInternal t ht=x:=hx;rw[hx']at hf;cases hf;rfl
theorem guard_skip{w:World}{ρ:Vo}{H:List Vi}{nt:Nat}{slots:List Nat}{prev:List (Option Tmp)}{vals env:List D}{a:Act}{ops:Array Oper}{j d:Nat}{t:Tmp}(kV:(ops[j]?).bind (·.dst)=some t)(zU:Gb prev t=some d)(hp:∀d∈prev,G5 nt d=true)
  (hf:VR w ρ H (sig slots prev vals env t) (a.tmps.getD t undef)) (xK:a.tmps.size=nt) (hv:vals.getD d .undef=.skip):yielded ops a.tmps j=none:=by
 unfold sig at hf;simp only[zU,hv]at hf
 have ht:t<a.tmps.size:=by
  have:=hp _ (Lm (Je zU));rw[xK];simpa [G5] using this
 unfold yielded;rw[kV];simp only[Option.bind_some,Array.getElem?_eq_getElem ht];simp only[Array.getD,ht,dif_pos]at hf;generalize hx:a.tmps[t]=x at hf;have hx':a.tmps.getInternal t ht=x:=hx;rw[hx']at hf;cases hf;rfl
theorem kd_glob{kd:Kd}{g:Nat}{row:List D}(h:kd.glob g=some row):kd.glob g=some row:=h
def LowL (P:Program) (kd:Kd) (nt:Nat) (slots:List Nat):List Oper→List (Option Tmp)→List Vk→Prop
 | [],_,los=>los=[]
 | o::os,prev,los=>∃l xs args g rest mt,Jv P (kd.lit mt) o=some (l,xs)∧Km kd.glob slots prev xs=some args∧Ht prev o.guard=some g∧G5 nt o.dst=true∧LowL P kd nt slots os (o.dst::prev) rest∧los=⟨l,args,g,[],none⟩::rest
theorem Mh{kd:Kd}{nt:Nat}{slots:List Nat}:∀{os:List Oper} {prev:List (Option Tmp)} {los:List Vk},Qw P kd nt slots os prev=some los→LowL P kd nt slots os prev los
 | [],prev,los,h=>by simp only[Qw,Oi]at h;exact h.symm
 | o :: os, prev, los, h => by
  unfold Qw at h;split at h
  ·
   simp at h
  rename_i l xs hl;split at h
  ·
   rename_i args g rest h1 h2 h3;split at h
   ·
    rename_i hd;simp only[Oi]at h;exact⟨l,xs,args,g,rest,_,hl,h1,h2,hd,Mh h3,h.symm⟩
   simp at h
  simp at h
theorem Ri {G : Nat → Option (List D)} {call : Bp} (xO : Im P G call) {kd : Kd} {nt : Nat} {slots : List Nat} {ops : Array Oper} {env : List D} {Q : Exit → Act → World → Prop} (tl : List Oper) (zQ : ∀ g row, kd.glob g = some row → G g = some row) (hs : slots.all (· < nt) = true) :
    ∀ (os : List Oper) (k : Nat) (prev : List (Option Tmp)) (vals : List D) (los : List Vk) (S : St) (vals' : List D) (S' : St) (a : Act) (w : World) (ρ : Vo), ops.toList.drop k = os ++ tl → prev = ((ops.toList.take k).map (·.dst)).reverse → (∀ d ∈ prev, G5 nt d = true) →
      LowL P kd nt slots os prev los→He call los vals env S=some (vals',S')→Rel w ρ S.heap→ρ.X.G=G→FR w ρ S.heap nt (sig slots prev vals env) a →
      (∀a' w' ρ',Rel w' ρ' S'.heap→Stp w ρ S w' ρ' S'→FR w' ρ' S'.heap nt (sig slots (((ops.toList.take (k+os.length)).map (·.dst)).reverse) vals' env) a'→a'.defers=a.defers→wpOps P ops Q (List.range' (k+os.length) tl.length) a' w') →
      wpOps P ops Q (List.range' k (os.length+tl.length)) a w:=by
  intro os
  induction os with
  | nil =>
    intro k prev vals los S vals' S' a w ρ hk zL hp x9 yg hr hG hf hQ;simp only[LowL]at x9;subst x9;simp only[He,Oi,Pi_]at yg;obtain⟨rfl,rfl⟩:=yg;have:=hQ a w ρ hr (Stp.refl _ _ _) (by simpa [zL] using hf) rfl;simpa using this
  | cons o os ih =>
    intro k prev vals los S vals' S' a w ρ hk zL hp x9 yg hr hG hf hQ
    have hko:ops.toList[k]?=some o:=by
      have:(ops.toList.drop k)[0]?=some o:=by rw[hk];rfl
      simpa using this
    have rY:k<ops.toList.length:=lt_of_some hko;have hko':ops[k]?=some o:=by simpa using hko
    have hdrop:ops.toList.drop (k+1)=os++tl:=by
      have:(ops.toList.drop k).drop 1=os++tl:=by rw[hk];rfl
      rwa [List.drop_drop]at this
    have qX:o.dst::prev=((ops.toList.take (k+1)).map (·.dst)).reverse:=by
      rw[List.take_succ_eq_append_getElem rY,List.map_append,List.reverse_append,←zL];have:ops.toList[k]=o:=by rw[Lg rY]at hko;injection hko
      simp[this]
    have rP:prev.length=k:=by rw[zL,List.length_reverse,List.length_map,List.length_take];omega
    obtain⟨l,xs,args,g,rest,mt,hlop,yw,hg,hd,qA,rfl⟩:=x9
    have hp':∀d∈o.dst::prev,G5 nt d=true:=by
      intro d hd';rcases List.mem_cons.1 hd' with rfl | hd'
      · exact hd
      exact hp d hd'
    rw[show (o::os).length+tl.length=(os.length+tl.length)+1 by simp;omega,List.range'_succ];simp only[wpOps,hko']
    have go:Region.wanted o (yielded ops a.tmps)=true→(match Ce call l (args.map (opd vals env)) S with | none=>none | some (r,S1,wr)=>He call rest (r::vals) env S1)=some (vals',S') →
        (if Region.wanted o (yielded ops a.tmps)=true then o.wp P a w (wpOps P ops Q (List.range' (k+1) (os.length+tl.length))) Q∨o.asks P a w∧LetsOut Q else wpOps P ops Q (List.range' (k+1) (os.length+tl.length)) (a.put o.dst undef) w):=by
      intro hw hx;rw[if_pos hw];left;split at hx
      · simp at hx
      rename_i r S1 wr yZ;refine exOp_ok xO hG hlop (Vd (fun g row hg=>(hr.glob g row (by rw[hG];exact zQ g row (kd_glob hg))).1) hs hp yw fun t _ ht=>hf.2 t ht) hr yZ ?_;rintro v w1 ⟨ρ1,h1,h2,h3,_⟩;refine ih (k+1) (o.dst::prev) (r::vals) rest S1 vals' S' _ w1 ρ1 hdrop qX hp' qA hx h1 (by rw[h2.hid];exact hG) (hf.put h2 h3 hd fun t=>Rh slots o.dst prev r vals env t) ?_;intro a' w' ρ' h4 h5 h6 h7;have:=hQ a' w' ρ' h4 (h2.trans h5) (by rw[show k+(o::os).length=k+1+os.length by simp;omega];exact h6) (h7.trans (by cases o.dst<;>rfl));rw[show k+1+os.length=k+(o::os).length by simp;omega];exact this
    unfold He at yg
    cases hgo:o.guard with
    | none =>
      rw[hgo]at hg;simp only[Ht,Oi]at hg;subst hg;simp only[onG]at yg;exact go (by simp[Region.wanted,hgo]) yg
    | some jb =>
      obtain⟨j,b⟩:=jb;rw[hgo]at hg;unfold Ht at hg;simp only at hg;split at hg
      · rename_i hj;split at hg
        · rename_i t ht;split at hg
          · rename_i zU;simp only[Oi]at hg;subst hg;simp only[onG]at yg
            have kV:(ops[j]?).bind (·.dst)=some t:=by
              rw[zL]at ht;have yO:j<ops.toList.length:=by omega
              have h1:((ops.toList.take k).map (·.dst)).length=k:=by rw[List.length_map,List.length_take];omega
              simp only[List.getD,List.length_reverse,h1]at ht;rw[List.getElem?_reverse (by rw[h1];omega),h1,show k-1-(k-1-j)=j by omega]at ht;simp only[Lp_,List.getElem?_take]at ht;rw[if_pos (by omega)]at ht;have h2:ops[j]?=some ops.toList[j]:=by simp
              rw[Lg yO]at ht;rw[h2];simpa using ht
            split at yg
            · simp at yg
            · -- the guard says no
              rename_i hv;split at hv
              · rename_i b' hb';simp only[Oi]at hv
                have hy:=guard_ok (b:=b) kV zU hp (hf.2 t (by
                  have:=hp _ (Lm (Je zU))
                  simpa [G5] using this)) hf.1 hb'
                have hw:Region.wanted o (yielded ops a.tmps)=false:=by
                  simp only[Region.wanted,hgo,hy];simpa using hv
                rw[hw];simp only[Bool.false_eq_true,if_false];refine ih (k+1) (o.dst::prev) (.skip::vals) rest S vals' S' _ w ρ hdrop qX hp' qA yg hr hG (hf.put (Stp.refl _ _ _) .skip hd fun t=>Rh slots o.dst prev .skip vals env t) ?_;intro a' w' ρ' h4 h5 h6 h7;have:=hQ a' w' ρ' h4 h5 (by rw[show k+(o::os).length=k+1+os.length by simp;omega];exact h6) (h7.trans (by cases o.dst<;>rfl));rw[show k+1+os.length=k+(o::os).length by simp;omega];exact this
              · rename_i hb'
                have hy:=guard_skip kV zU hp (hf.2 t (by
                  have:=hp _ (Lm (Je zU))
                  simpa [G5] using this)) hf.1 hb'
                have hw:Region.wanted o (yielded ops a.tmps)=false:=by
                  simp only[Region.wanted,hgo,hy];rfl
                rw[hw];simp only[Bool.false_eq_true,if_false];refine ih (k+1) (o.dst::prev) (.skip::vals) rest S vals' S' _ w ρ hdrop qX hp' qA yg hr hG (hf.put (Stp.refl _ _ _) .skip hd fun t=>Rh slots o.dst prev .skip vals env t) ?_;intro a' w' ρ' h4 h5 h6 h7;have:=hQ a' w' ρ' h4 h5 (by rw[show k+(o::os).length=k+1+os.length by simp;omega];exact h6) (h7.trans (by cases o.dst<;>rfl));rw[show k+1+os.length=k+(o::os).length by simp;omega];exact this
              simp at hv
            rename_i hv;split at hv
            · rename_i b' hb';simp only[Oi]at hv
              have hy:=guard_ok (b:=b) kV zU hp (hf.2 t (by
                have:=hp _ (Lm (Je zU))
                simpa [G5] using this)) hf.1 hb'
              refine go ?_ yg;simp only[Region.wanted,hgo,hy];simpa using hv
            · simp at hv
            simp at hv
          simp at hg
        simp at hg
      simp at hg
theorem seq_ok{G:Nat→Option (List D)}{call:Bp}(xO:Im P G call){kd:Kd}{nt:Nat}{slots:List Nat}{ops:Array Oper}{env:List D}{Q:Exit→Act→World→Prop}(zQ:∀g row,kd.glob g=some row→G g=some row)(hs:slots.all (·<nt)=true) :
  ∀(os:List Oper) (k:Nat) (prev:List (Option Tmp)) (vals:List D) (los:List Vk) (S:St) (vals':List D) (S':St) (a:Act) (w:World) (ρ:Vo),ops.toList.drop k=os→prev=((ops.toList.take k).map (·.dst)).reverse→(∀d∈prev,G5 nt d=true) →
   Qw P kd nt slots os prev=some los→He call los vals env S=some (vals',S')→Rel w ρ S.heap→ρ.X.G=G→FR w ρ S.heap nt (sig slots prev vals env) a →
   (∀a' w' ρ',Rel w' ρ' S'.heap→Stp w ρ S w' ρ' S'→FR w' ρ' S'.heap nt (sig slots (dstsOf ops.toList) vals' env) a'→a'.defers=a.defers→Q .normal a' w') →
   wpOps P ops Q (List.range' k os.length) a w:=by
 intro os k prev vals los S vals' S' a w ρ hk zL hp x9 yg hr hG hf hQ
 have rY:k+os.length=max k ops.toList.length:=by
  have:=congrArg List.length hk;simp only[List.length_drop]at this;omega
 refine Ri xO [] zQ hs os k prev vals los S vals' S' a w ρ (by simpa using hk) zL hp (Mh x9) yg hr hG hf fun a' w' ρ' h1 h2 h3 h4=>?_;rw[List.take_of_length_le (by omega)]at h3;exact hQ a' w' ρ' h1 h2 h3 h4
end
open Go.RowKit
def Down (ops:Array Oper) (L:Nat→Prop):Prop:=∀i o,ops[i]?=some o→L i→∀e∈o.after,Region.binds .any e=true→L e.on
theorem one_bit (get : Nat → Nat) : ∀ (es : List Edge) (s i : Nat), (es.foldl (fun s e => if Region.binds .any e then s ||| 2 ^ e.on ||| get e.on else s) s).testBit i = true → s.testBit i = true ∨ ∃ e ∈ es, Region.binds .any e = true ∧ (i = e.on ∨ (get e.on).testBit i = true)
  | [],s,i,h=>.inl h
  | e :: es, s, i, h => by
    rw[List.foldl_cons]at h;rcases one_bit get es _ i h with h1 | ⟨e',he',h2⟩
    · by_cases hb : Region.binds .any e = true
      · rw [if_pos hb, Nat.testBit_or, Nat.testBit_or, Bool.or_eq_true, Bool.or_eq_true] at h1;rcases h1 with (h1 | h1) | h1
        · exact .inl h1
        · refine .inr ⟨e, by simp, hb, .inl ?_⟩;rw[Nat.testBit_two_pow]at h1;have:e.on=i:=by simpa using h1
          exact this.symm
        exact .inr ⟨e,by simp,hb,.inr h1⟩
      rw[if_neg hb]at h1;exact .inl h1
    exact .inr ⟨e',by simp[he'],h2⟩
theorem before_aux{ops:Array Oper}{L:Nat→Prop}(hL:Down ops L):∀(os:List Oper) (acc:Array Nat),ops.toList.drop acc.size=os→(∀j i,(acc.getD j 0).testBit i=true→L j→L i)→∀j i,((os.foldl (fun acc o=>acc.push (o.after.foldl (fun s e=>if Region.binds .any e then s ||| 2 ^ e.on ||| acc.getD e.on 0 else s) 0)) acc).getD j 0).testBit i=true→L j→L i
 | [],acc,hd,h=>h
 | o :: os, acc, hd, h => by
  rw[List.foldl_cons]
  have ho:ops[acc.size]?=some o:=by
   have:(ops.toList.drop acc.size)[0]?=some o:=by rw[hd];rfl
   simpa using this
  refine before_aux hL os _ ?_ ?_
  ·
   have:(ops.toList.drop acc.size).drop 1=os:=by rw[hd];rfl
   rw[List.drop_drop]at this;simpa using this
  intro j i hj kL;by_cases xE:j<acc.size
  ·
   have e:(acc.push (o.after.foldl (fun s e=>if Region.binds .any e then s ||| 2 ^ e.on ||| acc.getD e.on 0 else s) 0)).getD j 0=acc.getD j 0:=by
    simp only[Array.getD_eq_getD_getElem?];rw[Array.getElem?_push_lt xE,Array.getElem?_eq_getElem xE]
   rw[e]at hj;exact h j i hj kL
  by_cases qG:j=acc.size
  ·
   subst qG
   have e:(acc.push (o.after.foldl (fun s e=>if Region.binds .any e then s ||| 2 ^ e.on ||| acc.getD e.on 0 else s) 0)).getD acc.size 0=o.after.foldl (fun s e=>if Region.binds .any e then s ||| 2 ^ e.on ||| acc.getD e.on 0 else s) 0:=by
    simp[Array.getD_eq_getD_getElem?]
   rw[e,←Array.foldl_toList]at hj;rcases one_bit (fun k=>acc.getD k 0) _ _ _ hj with h1 | ⟨e',he',hb,h2⟩
   ·
    simp at h1
   have hLe:=hL _ o ho kL e' (Array.mem_toList_iff.1 he') hb;rcases h2 with rfl | h2
   ·
    exact hLe
   exact h _ _ h2 hLe
  have e:(acc.push (o.after.foldl (fun s e=>if Region.binds .any e then s ||| 2 ^ e.on ||| acc.getD e.on 0 else s) 0)).getD j 0=0:=by
   simp only[Array.getD_eq_getD_getElem?];rw[Array.getElem?_eq_none (by simp;omega)];rfl
  rw[e]at hj;simp at hj
theorem Pv{ops:Array Oper}{L:Nat→Prop}(hL:Down ops L){j i:Nat}(h:((Region.before ops).toList.getD j 0).testBit i=true)(hj:L j):L i:=by
 have:=before_aux hL ops.toList #[] (by simp) (by simp) j i;refine this ?_ hj;unfold Region.before at h;rw[←Array.foldl_toList]at h;simpa using h
theorem Rn{ops:Array Oper}{L:Nat→Prop}(hL:Down ops L){i j:Nat}(h:ordered (Region.before ops).toList i j=true):(j<i→L i→L j)∧(i<j→L j→L i):=by
 unfold ordered at h;refine⟨fun xE hi=>?_,fun xE hj=>?_⟩
 ·
  rw[show Nat.max i j=i from Nat.max_eq_left (Nat.le_of_lt xE),show Nat.min i j=j from Nat.min_eq_right (Nat.le_of_lt xE)]at h;exact Pv hL h hi
 rw[show Nat.max i j=j from Nat.max_eq_right (Nat.le_of_lt xE),show Nat.min i j=i from Nat.min_eq_left (Nat.le_of_lt xE)]at h;exact Pv hL h hj
theorem countP_le'{p q:Nat→Bool}(h:∀x,q x=true→p x=true):∀l:List Nat,l.countP q≤l.countP p
 | []=>by simp
 | a::l=>by
  have ih:=countP_le' h l;simp only[List.countP_cons];have:=h a;cases hq:q a<;>cases hp:p a<;>simp_all<;>omega
theorem countP_lt'{p q:Nat→Bool}(h:∀x,q x=true→p x=true){i:Nat}(hp:p i=true)(hq:q i=false):∀l:List Nat,i∈l→l.countP q<l.countP p
 | [],hi=>by simp at hi
 | a :: l, hi => by
  simp only[List.countP_cons];rcases List.mem_cons.1 hi with rfl | hi
  ·
   have:=countP_le' h l;simp[hp,hq];omega
  have ih:=countP_lt' h hp hq l hi;have:=h a;cases hq':q a<;>cases hp':p a<;>simp_all<;>omega
section
variable {P:Program} {ops:Array Oper} {Q:Exit→Act→World→Prop}
theorem wp_region_inv {id : Nat} {a0 : Act} {w0 : World} (hm : P.follows .mixedOrders = true) (hB : ∀ i o, ops[i]? = some o → ∀ e ∈ o.after, Region.binds .any e = true → e.on < i) (Inv : (Nat → Prop) → Act → World → Prop)
    (h0:Inv (fun _=>False) a0 w0.drew)
    (hstep:∀L i o a w,ops[i]?=some o→¬L i→Down ops L→(∀e∈o.after,Region.binds .any e=true→L e.on)→Inv L a w→wpOp P ops Q i (fun a' w'=>Inv (fun k=>L k∨k=i) a' w') a w)
    (hend:∀L a w,(∀i,i<ops.size→L i)→Inv L a w→Q .normal a w):(Code.region id ops true).wp P Q a0 w0:=by
  refine wp_region_any hm ?_
  have key:∀(fuel:Nat) (listed:Array Bool) (a:Act) (w:World),listed.size=ops.size→(List.range ops.size).countP (fun i=>!listed.getD i false)≤fuel→Down ops (fun i=>listed.getD i false=true)→Inv (fun i=>listed.getD i false=true) a w→wpAny P .any ops Q fuel listed a w:=by
    intro fuel
    induction fuel with
    | zero =>
      intro listed a w hs hc hd h
      have xA:∀i,i<ops.size→listed.getD i false=true:=by
        intro i hi;have h0:(List.range ops.size).countP (fun i=>!listed.getD i false)=0:=by omega
        rw[List.countP_eq_zero]at h0;simpa using h0 i (List.mem_range.2 hi)
      refine⟨?_,hend _ a w xA h⟩;rw[List.eq_nil_iff_forall_not_mem];intro j hj;obtain⟨hu,o,ho,_⟩:=mem_ready.1 hj;have yO:=(Array.getElem?_eq_some_iff.1 ho).1;have:=xA j yO;rw[getD_both hu]at this;cases this
    | succ fuel ih =>
      intro listed a w hs hc hd h;refine⟨fun hnil=>hend _ a w ?_ h,fun i hi=>?_⟩
      · intro i
        induction i using Nat.strongRecOn with
        | _ i ihs =>
          intro zi
          cases hli:listed.getD i false with
          | true=>rfl
          | false =>
            exfalso;have ho:ops[i]?=some ops[i]:=Array.getElem?_eq_getElem zi;have hr:i∈Region.ready .any ops listed:=mem_ready.2 ⟨getD_in (by omega) hli,ops[i],ho,fun e he hb=>ihs e.on (hB i _ ho e he hb) (Nat.lt_trans (hB i _ ho e he hb) zi)⟩;rw[hnil]at hr;cases hr
      obtain⟨hu,o,ho,xA⟩:=mem_ready.1 hi;have zi:=(Array.getElem?_eq_some_iff.1 ho).1
      have xV:(fun k=>(listed.setIfInBounds i true).getD k false=true)=(fun k=>listed.getD k false=true∨k=i):=by
        funext k
        apply propext;by_cases hki:i=k
        · subst hki;simp[hs,zi]
        rw[getD_set_ne false hki];constructor
        · exact .inl
        rintro (h | h)
        · exact h
        exact absurd h.symm hki
      have hni:¬(listed.getD i false=true):=by rw[getD_both hu];simp
      refine wpOp_mono ?_ (hstep _ i o a w ho hni hd xA h);intro a' w' hinv;refine ih _ _ _ (by simp[hs]) ?_ ?_ (by rw[xV];exact hinv)
      · have := countP_lt' (p := fun k => !listed.getD k false) (q := fun k => !(listed.setIfInBounds i true).getD k false) (i := i) ?_ ?_ ?_ (List.range ops.size) (List.mem_range.2 zi)
        · omega
        · intro x hx';simp only[Bool.not_eq_true']at hx' ⊢;rw[Bool.eq_false_iff]at hx' ⊢;intro hc;apply hx';have:=congrFun xV x;rw[this];exact .inl hc
        · simp only[Bool.not_eq_true'];exact getD_both hu
        simp only[Bool.not_eq_false'];have:=congrFun xV i;rw[this];exact .inr rfl
      rw[xV];intro k ok hk qJ e he hb;rcases qJ with qJ | rfl
      · exact .inl (hd k ok hk qJ e he hb)
      rw[ho]at hk;injection hk with hk;subst hk;exact .inl (xA e he hb)
  refine key ops.size _ a0 _ (by simp) (Nat.le_trans (List.countP_le_length) (by simp)) ?_ ?_
  · intro i o ho hL;simp[Array.getD]at hL
  have:(fun i=>(Array.replicate ops.size false).getD i false=true)=(fun _=>False):=by
    funext i
    apply propext;simp[Array.getD]
  rw[this];exact h0
end
open Go.RowKit
def Er (call:Bp):Prop:=∀f ds S r S',call f ds S=some (r,S',false)→S'=S
theorem lop_clean{l:LOp}{ds:List D}{S S':St}{r:D}(h:lop l ds S=some (r,S',false)):S'=S:=by
 unfold lop at h
 repeat' (first | (simp at h;done) | (split at h))
 all_goals first
  | (simp at h;done)
  | (simp only[Oi,Pi_]at h;exact h.2.1.symm)
  | (simp only[Om,Pi_]at h;obtain⟨_,_,h1,h2,h3⟩:=h;first | exact h2.symm | (cases h3;done))
  | skip
 all_goals
  first | unfold Di at h | unfold Cs at h | unfold ustrD at h | unfold Sd at h | unfold nextsD at h | unfold H5 at h
  repeat' (first | (simp at h;done) | (split at h) | (unfold Cs at h;skip))
  all_goals first
   | (simp at h;done)
   | (simp only[Oi,Pi_]at h;exact h.2.1.symm)
theorem aop_clean{l:LOp}{ds:List D}{S S':St}{r:D}(h:aop l ds S=some (r,S',false)):S'=S:=by
 unfold aop at h;split at h
 ·
  exact lop_clean h
 simp only[Om,Pi_]at h;obtain⟨_,_,_,h2,_⟩:=h;exact h2.symm
theorem Nt{call:Bp}(hc:Er call){l:LOp}{ds:List D}{S S':St}{r:D}(h:Ce call l ds S=some (r,S',false)):S'=S:=by
 unfold Ce at h;split at h
 ·
  exact hc _ _ _ _ _ h
 ·
  split at h
  ·
   exact hc _ _ _ _ _ h
  simp at h
 ·
  split at h
  ·
   split at h
   ·
    exact hc _ _ _ _ _ h
   simp at h
  ·
   split at h
   ·
    exact hc _ _ _ _ _ h
   simp at h
  simp at h
 exact aop_clean h
theorem Q5{call:Bp}{l:LOp}{ds:List D}{S S':St}{r:D}{wr:Bool}(hl:l.loud=false)(h:Ce call l ds S=some (r,S',wr)):S'=S∧wr=false∧∀S2,Ce call l ds S2=some (r,S2,false):=by
 have ha:Ce call l ds=aop l ds:=by cases l<;>first | rfl | (simp[LOp.loud]at hl;done)
 rw[ha]at h ⊢;unfold aop at h;simp only[hl,Bool.false_eq_true,if_false,Om,Pi_]at h;obtain⟨r',h1,rfl,rfl,rfl⟩:=h;exact⟨rfl,rfl,fun S2=>by simp[aop,hl,h1]⟩
inductive Eff where
 | none
 | set (g:Nat) (o:Vi)
 | new (o:Vi)
def Eff.app:Eff→St→St
 | .none,S=>S
 | .set g o,S=>setAt S g o
 | .new o,S=>newAt S o
def Eff.within (n:Nat) (W:List Nat) (c:Bool):Eff→Prop
 | .none=>True
 | .set g _=>g∈W
 | .new _=>c=true∧n∈W
def Framed (call:Bp) (l:LOp) (ds:List D) (S:St) (r:D) (S':St) (wr:Bool) (fp:FP):Prop :=
 ∃R W eff,fp.reads=some R∧fp.writes=some W∧S'=Eff.app eff S∧Eff.within S.heap.length W fp.creates eff ∧
  ∀T:St,(∀g∈R,T.heap[g]?=S.heap[g]?)→(fp.creates=true→T.heap.length=S.heap.length)→Ce call l ds T=some (r,eff.app T,wr)
theorem Hm{S T:St}{g v:Nat}(h:T.heap[g]?=S.heap[g]?):rowsOf T g v=rowsOf S g v:=by simp[rowsOf,h]
theorem snap_plain{m:Nat}{H:List Vi}{d:D}(h:Ac d=true):snap m H d=some d:=by
 cases d<;>first | rfl | (simp[Ac]at h;done)
theorem Tp{m:Nat}{H:List Vi}:∀{ds:List D},ds.all Ac=true→Cg m H ds=some ds
 | [],_=>rfl
 | d::ds,h=>by
  simp only[List.all_cons,Bool.and_eq_true]at h;simp[Cg,snap_plain h.1,Tp h.2]
theorem Tt{m:Nat}{H:List Vi}{d:D}(h:Vp d=true):Vq m H d=some d:=by
 unfold Vp at h;split at h
 ·
  simp[Vq,Tp h]
 rename_i hn;unfold Vq;split
 ·
  rename_i cs;exact absurd rfl (hn cs)
 exact snap_plain h
theorem fpApp_loud(s x r:D)(wr:Bool):(Fq s x r wr).loud=true:=by
 unfold Fq;cases wr
 ·
  rfl
 simp only[if_true];split
 ·
  split<;>rfl
 rfl
theorem fpMk_loud(r:D)(wr:Bool):(Bv r wr).loud=true:=by
 unfold Bv;split<;>cases wr<;>rfl
theorem fpOf_loud(l:LOp)(ds:List D)(r:D)(wr:Bool):(F3 l ds r wr).loud=l.loud:=by
 unfold F3
 repeat' split
 all_goals first
  | rfl
  | (cases wr<;>rfl)
  | exact fpApp_loud ..
  | exact fpMk_loud ..
  | (rename_i h;simp[h,Ba];cases wr<;>rfl)
  | (rename_i h;simp at h;simp[h,Ae])
theorem G7{call:Bp}{l:LOp}{ds:List D}{S S':St}{r:D}{wr:Bool}(h:Ce call l ds S=some (r,S',wr)){f:St→Option D}(he:∀T:St,Ce call l ds T=(f T).map fun r=>(r,T,false))(R:List Nat)(hT:∀T:St,(∀g∈R,T.heap[g]?=S.heap[g]?)→f T=f S)(hf:F3 l ds r wr=Ah R):Framed call l ds S r S' wr (F3 l ds r wr):=by
 rw[he S,Om]at h;obtain⟨r',h1,h2⟩:=h;simp only[Pi_]at h2;obtain⟨rfl,rfl,rfl⟩:=h2;rw[hf];exact⟨R,[],.none,rfl,rfl,rfl,trivial,fun T hR _=>by rw[he T,hT T hR,h1];rfl⟩
theorem read_congr{S T:St}{sz:Nat}{x:D}(h:∀g∈Cc x,T.heap[g]?=S.heap[g]?):Ef T sz x=Ef S sz x∧Ex T sz x=Ex S sz x:=by
 cases x with
 | msl g v lo n c=>simp[Ef,Ex,Hm (h g (by simp[Cc]))]
 | _=>exact⟨rfl,rfl⟩
theorem rowsOf_lt{S:St}{g v:Nat}{o:Vi}(h:rowsOf S g v=some o):g<S.heap.length:=by
 unfold rowsOf at h;split at h
 ·
  rename_i h1;exact (List.getElem?_eq_some_iff.1 h1).1
 simp at h
theorem fp_app {e sz bytes kind : Nat} {s x r : D} {new : List (List D)} {S S' : St} {wr : Bool} {F : St → Option (D × St × Bool)}
    (hF:∀T:St,(∀g∈Cc s++Cc x,T.heap[g]?=S.heap[g]?)→F T=Cs e sz bytes kind s new T) (h:Cs e sz bytes kind s new S=some (r,S',wr)) :
    ∃ R W eff, (Fq s x r wr).reads = some R ∧ (Fq s x r wr).writes = some W ∧ S' = Eff.app eff S ∧ Eff.within S.heap.length W (Fq s x r wr).creates eff ∧
      ∀T:St,(∀g∈R,T.heap[g]?=S.heap[g]?)→((Fq s x r wr).creates=true→T.heap.length=S.heap.length)→F T=some (r,eff.app T,wr):=by
  have quiet:∀r,wr=false→S'=S→(∀T:St,(∀g∈Cc s++Cc x,T.heap[g]?=S.heap[g]?)→Cs e sz bytes kind s new T=some (r,T,false))→∃R W eff,(Fq s x r wr).reads=some R∧(Fq s x r wr).writes=some W∧S'=Eff.app eff S∧Eff.within S.heap.length W (Fq s x r wr).creates eff ∧
      ∀T:St,(∀g∈R,T.heap[g]?=S.heap[g]?)→((Fq s x r wr).creates=true→T.heap.length=S.heap.length)→F T=some (r,eff.app T,wr):=by
    intro r h1 h2 h3;subst h1 h2;exact⟨_,_,.none,rfl,rfl,rfl,trivial,fun T hR _=>by rw[hF T hR,h3 T hR];rfl⟩
  have fresh:∀v lo n c o,wr=true→S'=newAt S o→(Cc s≠[S.heap.length])→(∀T:St,(∀g∈Cc s++Cc x,T.heap[g]?=S.heap[g]?)→Cs e sz bytes kind s new T=some (.msl T.heap.length v lo n c,newAt T o,true))→∃R W eff,(Fq s x (.msl S.heap.length v lo n c) wr).reads=some R∧(Fq s x (.msl S.heap.length v lo n c) wr).writes=some W∧S'=Eff.app eff S∧Eff.within S.heap.length W (Fq s x (.msl S.heap.length v lo n c) wr).creates eff ∧
      ∀T:St,(∀g∈R,T.heap[g]?=S.heap[g]?)→((Fq s x (.msl S.heap.length v lo n c) wr).creates=true→T.heap.length=S.heap.length)→F T=some (.msl S.heap.length v lo n c,eff.app T,wr):=by
    intro v lo n c o h1 h2 xB h3;subst h1 h2;have hf:Fq s x (.msl S.heap.length v lo n c) true=⟨true,some (Cc s++Cc x),some [S.heap.length],true,none⟩:=by simp only[Fq,if_true,if_neg xB]
    rw[hf];exact⟨_,_,.new o,rfl,rfl,rfl,⟨rfl,by simp⟩,fun T hR hl=>by rw[hF T hR,h3 T hR,hl rfl];rfl⟩
  have inpl:∀g v lo n c o,wr=true→S'=setAt S g o→Cc s=[g]→(∀T:St,(∀g∈Cc s++Cc x,T.heap[g]?=S.heap[g]?)→Cs e sz bytes kind s new T=some (.msl g v lo n c,setAt T g o,true))→∃R W eff,(Fq s x (.msl g v lo n c) wr).reads=some R∧(Fq s x (.msl g v lo n c) wr).writes=some W∧S'=Eff.app eff S∧Eff.within S.heap.length W (Fq s x (.msl g v lo n c) wr).creates eff ∧
      ∀T:St,(∀g∈R,T.heap[g]?=S.heap[g]?)→((Fq s x (.msl g v lo n c) wr).creates=true→T.heap.length=S.heap.length)→F T=some (.msl g v lo n c,eff.app T,wr):=by
    intro g v lo n c o h1 h2 xB h3;subst h1 h2;have hf:Fq s x (.msl g v lo n c) true=⟨true,some (Cc s++Cc x),some [g],false,none⟩:=by simp only[Fq,if_true,if_pos xB]
    rw[hf];exact⟨_,_,.set g o,rfl,rfl,rfl,by simp[Eff.within],fun T hR _=>by rw[hF T hR,h3 T hR];rfl⟩
  cases s with
  | V5 =>
    simp only[Cs]at h quiet fresh;split at h
    · rename_i hc;simp only[Oi,Pi_]at h;obtain⟨rfl,rfl,rfl⟩:=h;exact quiet _ rfl rfl fun T hT=>by rw[if_pos hc]
    rename_i hc;split at h
    · rename_i hb;simp only[Oi,Pi_]at h;obtain⟨rfl,rfl,rfl⟩:=h;exact fresh _ _ _ _ _ rfl rfl (by simp[Cc]) fun T hT=>by rw[if_neg hc,if_pos hb]
    simp at h
  | sl s' rows cap =>
    simp only[Cs]at h quiet fresh;split at h
    · rename_i hc;simp only[Oi,Pi_]at h;obtain⟨rfl,rfl,rfl⟩:=h;exact quiet _ rfl rfl fun T hT=>by rw[if_pos hc]
    rename_i hc;split at h
    · rename_i hb;simp only[Oi,Pi_]at h;obtain⟨rfl,rfl,rfl⟩:=h;exact fresh _ _ _ _ _ rfl rfl (by simp[Cc]) fun T hT=>by rw[if_neg hc,if_pos hb]
    simp at h
  | msl g v lo n cap =>
    simp only[Cs]at h quiet fresh inpl
    cases ho:rowsOf S g v with
    | none=>rw[ho]at h;simp at h
    | some o =>
      rw[ho]at h;have hg:=rowsOf_lt ho;have hT':∀T:St,(∀k∈Cc (D.msl g v lo n cap)++Cc x,T.heap[k]?=S.heap[k]?)→rowsOf T g v=some o:=fun T hT=>(Hm (hT g (by simp[Cc]))).trans ho;by_cases h1:o.sz=sz∧o.elem=e∧lo=0∧n=o.rows.length∧cap=none∧(if kind=0 then o.kind=0 else (o.kind=1∨o.kind=2))∧(n+new.length)*bytes≤140737488355328
      · replace h : some (D.msl g (v + 1) 0 (n + new.length) none, setAt S g { o with rows := o.rows ++ new, ver := v + 1, grow := true }, true) = some (r, S', wr) := by rw [← h]; exact (if_pos h1).symm
        simp only[Oi,Pi_]at h;obtain⟨rfl,rfl,rfl⟩:=h;exact inpl _ _ _ _ _ _ rfl rfl rfl fun T hT=>by rw[hT' T hT];exact if_pos h1
      by_cases h2:o.sz=sz∧o.elem=e∧lo=0∧cap=none∧(if kind=0 then o.kind=0 else o.kind=2)∧n+new.length≤o.rows.length
      · replace h : some (D.msl g v 0 (n + new.length) none, setAt S g { o with rows := o.rows.take n ++ new ++ o.rows.drop (n + new.length) }, true) = some (r, S', wr) := by rw [← h]; exact ((if_neg h1).trans (if_pos h2)).symm
        simp only[Oi,Pi_]at h;obtain⟨rfl,rfl,rfl⟩:=h;exact inpl _ _ _ _ _ _ rfl rfl rfl fun T hT=>by rw[hT' T hT];exact (if_neg h1).trans (if_pos h2)
      by_cases h3:o.sz=sz∧o.elem=e∧cap=some n∧(if kind=0 then o.kind=0 else (o.kind=1∨o.kind=2))∧(n+new.length)*bytes≤140737488355328
      · by_cases h4 : new.isEmpty = true
        · replace h : some (D.msl g v lo n cap, S, false) = some (r, S', wr) := by rw [← h]; exact ((if_neg h1).trans ((if_neg h2).trans ((if_pos h3).trans (if_pos h4)))).symm
          simp only[Oi,Pi_]at h;obtain⟨rfl,rfl,rfl⟩:=h;exact quiet _ rfl rfl fun T hT=>by rw[hT' T hT];exact (if_neg h1).trans ((if_neg h2).trans ((if_pos h3).trans (if_pos h4)))
        replace h:some (D.msl S.heap.length 0 0 (n+new.length) none,newAt S ⟨e,sz,(o.rows.drop lo).take n++new,0,kind,true⟩,true)=some (r,S',wr):=by rw[←h];exact ((if_neg h1).trans ((if_neg h2).trans ((if_pos h3).trans (if_neg h4)))).symm
        simp only[Oi,Pi_]at h;obtain⟨rfl,rfl,rfl⟩:=h;exact fresh _ _ _ _ _ rfl rfl (by simp only[Cc];intro hq;injection hq;omega) fun T hT=>by rw[hT' T hT];exact (if_neg h1).trans ((if_neg h2).trans ((if_pos h3).trans (if_neg h4)))
      replace h:none=some (r,S',wr):=by rw[←h];exact ((if_neg h1).trans ((if_neg h2).trans (if_neg h3))).symm
      simp at h
  | _=>simp[Cs]at h
theorem Kk{m:Nat}{H:List Vi}:∀{ds:List D},ds.all Vp=true→Av m H ds=some ds
 | [],_=>rfl
 | d::ds,h=>by
  simp only[List.all_cons,Bool.and_eq_true]at h;simp[Av,Tt h.1,Kk h.2]
theorem K7 {call : Bp} {l : LOp} {ds : List D} {S S' : St} {r : D} {wr : Bool} (h : Ce call l ds S = some (r, S', wr)) : Framed call l ds S r S' wr (F3 l ds r wr) ∨ F3 l ds r wr = Ba wr := by
  cases hl:l.loud with
  | false =>
    left;obtain⟨rfl,rfl,h2⟩:=Q5 hl h
    have e:F3 l ds r false=Ae:=by
      cases l<;>first | rfl | (simp[LOp.loud]at hl;done) | skip
      rename_i st _ _ _ _;cases st
      · simp[LOp.loud]at hl
      rfl
    rw[e];exact⟨[],[],.none,rfl,rfl,rfl,trivial,fun T _ _=>h2 T⟩
  | true =>
    cases l with
    | load sz agg =>
      left
      match ds,h with
      | [a], h =>
        have he:∀T:St,Ce call (.load sz agg) [a] T=(Jn sz agg T a).map fun r=>(r,T,false):=fun T=>rfl
        cases a with
        | ptr g v i o =>
          refine G7 h he [g] (fun T hT=>?_) rfl;simp only[Jn,Hm (hT g (by simp))]
        | _=>refine G7 h he [] (fun T hT=>?_) rfl;rfl
      | [],h=>simp[Ce,aop,LOp.loud,lop]at h
      | _::_::_,h=>simp[Ce,aop,LOp.loud,lop]at h
    | V3 sz =>
      left
      match ds,h with
      | [a, i], h =>
        have he:∀T:St,Ce call (.V3 sz) [a,i] T=(Gd T sz a i).map fun r=>(r,T,false):=fun T=>rfl
        cases a with
        | msl g v lo n c =>
          refine G7 h he [g] (fun T hT=>?_) rfl;cases i<;>simp only[Gd,Hm (hT g (by simp))]
        | _=>refine G7 h he [] (fun T hT=>?_) rfl;cases i<;>rfl
      | [],h=>simp[Ce,aop,LOp.loud,lop]at h
      | [_],h=>simp[Ce,aop,LOp.loud,lop]at h
      | _::_::_::_,h=>simp[Ce,aop,LOp.loud,lop]at h
    | mapget kf z ok =>
      left
      match ds,h with
      | [a, i], h =>
        have he:∀T:St,Ce call (.mapget kf z ok) [a,i] T=(Lf T kf z ok a i).map fun r=>(r,T,false):=fun T=>rfl
        cases a with
        | mref g v =>
          refine G7 h he [g] (fun T hT=>?_) rfl;simp only[Lf,Nj,Hm (hT g (by simp))]
        | _=>refine G7 h he [] (fun T hT=>?_) rfl;rfl
      | [],h=>simp[Ce,aop,LOp.loud,lop]at h
      | [_],h=>simp[Ce,aop,LOp.loud,lop]at h
      | _::_::_::_,h=>simp[Ce,aop,LOp.loud,lop]at h
    | slice st sz lo hi mx =>
      cases st with
      | true=>simp[LOp.loud]at hl
      | false =>
        left
        match ds,h with
        | a :: xs, h =>
          have he:∀T:St,Ce call (.slice false sz lo hi mx) (a::xs) T=(match Cx lo hi mx xs with | some (p,q,m)=>Eb T sz a p q m | none=>none).map fun r=>(r,T,false):=by
            intro T;show lop (.slice false sz lo hi mx) (a::xs) T=_;simp only[lop];split<;>(rename_i hq;rw[hq];try rfl)
          cases a with
          | msl g v o n c =>
            refine G7 h he [g] (fun T hT=>?_) rfl;simp only[Eb,Gm,Hm (hT g (by simp))]
          | _=>refine G7 h he [] (fun T hT=>?_) rfl;rfl
        | [],h=>simp[Ce,aop,LOp.loud,lop]at h
    | strb =>
      left
      match ds,h with
      | [a], h =>
        cases a with
        | str s=>exact G7 h (f:=fun T=>some (.sl 1 (Cu s) none)) (fun T=>rfl) [] (fun T hT=>rfl) rfl
        | _=>simp[Ce,aop,LOp.loud,lop]at h
      | [],h=>simp[Ce,aop,LOp.loud,lop]at h
      | _::_::_,h=>simp[Ce,aop,LOp.loud,lop]at h
    | append e sz bytes kind =>
      left
      match ds,h with
      | [s, x], h =>
        have he:∀T:St,Ce call (.append e sz bytes kind) [s,x] T=Di e sz bytes kind s x T:=fun T=>rfl;rw[he]at h;unfold Di at h
        cases hn:(if kind=0 then Ex S sz x else Ef S sz x) with
        | none=>rw[hn]at h;simp at h
        | some new =>
          rw[hn]at h;refine fp_app (F:=fun T=>Ce call (.append e sz bytes kind) [s,x] T) (fun T hT=>?_) h;obtain⟨h1,h2⟩:=read_congr (sz:=sz) (x:=x) fun g hg=>hT g (List.mem_append.2 (.inr hg));rw[he];unfold Di;rw[h1,h2,hn]
      | [],h=>simp[Ce,aop,LOp.loud,lop]at h
      | [_],h=>simp[Ce,aop,LOp.loud,lop]at h
      | _::_::_::_,h=>simp[Ce,aop,LOp.loud,lop]at h
    | Vz e sz len z ps kind =>
      by_cases hk:(decide (kind=0)||ds.all Vp)=true
      · have kZ : F3 (.Vz e sz len z ps kind) ds r wr = Bv r wr := by simp only [F3]; rw [if_pos hk]
        have he:∀T:St,Ce call (.Vz e sz len z ps kind) ds T=lop (.Vz e sz len z ps kind) ds T:=fun T=>rfl;rw[he]at h;by_cases h0:kind=0
        · simp only [lop, if_pos h0] at h
          cases hf:Ff (List.replicate len z) sz ps ds with
          | none=>rw[hf]at h;simp at h
          | some rs =>
            rw[hf]at h;simp only[Oi,Pi_]at h;obtain⟨rfl,rfl,rfl⟩:=h;left;rw[kZ];exact⟨[],[S.heap.length],.new ⟨e,sz,rs,0,0,false⟩,rfl,rfl,rfl,⟨rfl,by simp⟩,fun T _ hT=>by rw[he];simp only[lop,if_pos h0,hf,hT rfl];rfl⟩
        have hp:ds.all Vp=true:=by simpa [h0] using hk
        simp only[lop,if_neg h0,Kk hp]at h
        cases hf:Cf (List.replicate len z) sz ps ds with
        | none=>rw[hf]at h;simp at h
        | some rs =>
          rw[hf]at h;simp only at h;by_cases h2:kind=2
          · rw [if_pos h2] at h;simp only[Oi,Pi_]at h;obtain⟨rfl,rfl,rfl⟩:=h;left;rw[kZ];exact⟨[],[S.heap.length],.new ⟨e,sz,rs,0,2,false⟩,rfl,rfl,rfl,⟨rfl,by simp⟩,fun T _ hT=>by rw[he];simp only[lop,if_neg h0,Kk hp,hf,if_pos h2,hT rfl];rfl⟩
          rw[if_neg h2]at h;simp only[Oi,Pi_]at h;obtain⟨rfl,rfl,rfl⟩:=h;left;rw[kZ];exact⟨[],[],.none,rfl,rfl,rfl,trivial,fun T _ _=>by rw[he];simp only[lop,if_neg h0,Kk hp,hf,if_neg h2];rfl⟩
      right;simp only[F3];rw[if_neg hk]
    | boxc sz =>
      left
      match ds,h with
      | [x],h=>exact G7 h (f:=fun T=>if x.val&&x.cells.length==sz&&x.cells.all D.free then some (.V7 x.cells 0) else none) (fun T=>by simp only[Ce,aop,LOp.loud,if_true,lop];split<;>rfl) [] (fun T hT=>rfl) rfl
      | [],h=>simp[Ce,aop,LOp.loud,lop]at h
      | _::_::_,h=>simp[Ce,aop,LOp.loud,lop]at h
    | box e sz =>
      left
      match ds,h with
      | [x], h =>
        simp only[Ce,aop,LOp.loud,if_true,lop]at h;split at h
        · rename_i hx;simp only[Oi,Pi_]at h;obtain⟨rfl,rfl,rfl⟩:=h;exact⟨[],[S.heap.length],.new ⟨e,sz,[x.cells],0,0,false⟩,rfl,rfl,rfl,⟨rfl,by simp⟩,fun T _ hT=>by simp only[Ce,aop,LOp.loud,if_true,lop,if_pos hx,hT rfl];rfl⟩
        simp at h
      | [],h=>simp[Ce,aop,LOp.loud,lop]at h
      | _::_::_,h=>simp[Ce,aop,LOp.loud,lop]at h
    | mknz e =>
      left;rcases ds with _ | ⟨a,_ | ⟨b,ds⟩⟩
      · simp[Ce,aop,LOp.loud,lop]at h
      · have he : ∀ T : St, Ce call (.mknz e) [a] T = lop (.mknz e) [a] T := fun T => rfl;rw[he]at h
        cases a with
        | int k n =>
          cases k<;>first | (simp[lop]at h;done) | skip
          simp only[lop]at h;split at h
          · rename_i hx;simp only[Oi,Pi_]at h;obtain⟨rfl,rfl,rfl⟩:=h;exact⟨[],[S.heap.length],.new ⟨e,1,List.replicate n.toNat [.junk],0,2,true⟩,rfl,rfl,rfl,⟨rfl,by simp⟩,fun T _ hT=>by rw[he];simp only[lop,if_pos hx,hT rfl];rfl⟩
          simp at h
        | _=>simp[lop]at h
      simp[Ce,aop,LOp.loud,lop]at h
    | mkslice e sz bytes z kind =>
      left;rcases ds with _ | ⟨a,_ | ⟨b,_ | ⟨c,ds⟩⟩⟩
      · simp[Ce,aop,LOp.loud,lop]at h
      · simp[Ce,aop,LOp.loud,lop]at h
      · cases a <;> first | (simp [Ce, aop, LOp.loud, lop] at h; done) | skip
        cases b<;>first | (simp[Ce,aop,LOp.loud,lop]at h;done) | skip
        rename_i k1 l k2 c;simp only[Ce,aop,LOp.loud,if_true,lop]at h;split at h
        · rename_i hx;simp only[Oi,Pi_]at h;obtain⟨rfl,rfl,rfl⟩:=h;exact⟨[],[S.heap.length],.new ⟨e,sz,List.replicate l.toNat z,0,kind,decide (l≠c)⟩,rfl,rfl,rfl,⟨rfl,by simp⟩,fun T _ hT=>by simp only[Ce,aop,LOp.loud,if_true,lop,if_pos hx,hT rfl];rfl⟩
        simp at h
      simp[Ce,aop,LOp.loud,lop]at h
    | store sz =>
      match ds,h with
      | [a, x], h =>
        cases a with
        | ptr g v i o =>
          by_cases hp:Vp x=true
          · left;have hf:F3 (.store sz) [.ptr g v i o,x] r wr=⟨true,some [g],some [g],false,none⟩:=by simp[F3,hp]
            have hs:∀ob:Vi,∀T:St,(if ob.kind=0 then some x else Vq T.heap.length T.heap x)=some x:=fun ob T=>by rw[Tt hp];simp
            simp only[Ce,aop,LOp.loud,if_true,lop,Om,Pi_]at h;obtain⟨S1,h1,rfl,rfl,rfl⟩:=h;simp only[Bj,hs]at h1;split at h1
            · rename_i ob zO;split at h1
              · rename_i row y9;split at h1
                · rename_i hc;simp only[Oi]at h1;subst h1;rw[hf];refine⟨[g],[g],.set g { ob with rows:=ob.rows.set i (overlay row o x.cells) },rfl,rfl,rfl,by simp[Eff.within],fun T hT _=>?_⟩;have qZ:rowsOf T g v=some ob:=(Hm (hT g (by simp))).trans zO;simp only[Ce,aop,LOp.loud,if_true,lop,Bj,hs,qZ,y9,if_pos hc];rfl
                simp at h1
              simp at h1
            simp at h1
          right;simp[F3,hp]
        | _=>right;rfl
      | [],h=>simp[Ce,aop,LOp.loud,lop]at h
      | [_],h=>simp[Ce,aop,LOp.loud,lop]at h
      | _::_::_::_,h=>simp[Ce,aop,LOp.loud,lop]at h
    | _=>right;simp_all [F3,LOp.loud]
theorem app_get{e:Eff}{S:St}{W:List Nat}{c:Bool}(h:e.within S.heap.length W c){g:Nat}(hg:g∉W):(e.app S).heap[g]?=S.heap[g]?:=by
 cases e with
 | none=>rfl
 | set g' o =>
  have xB:g'≠g:=fun e=>hg (e▸h);simp[Eff.app,setAt,Ln_ xB]
 | new o =>
  have xB:g≠S.heap.length:=fun e=>hg (e▸h.2);simp only[Eff.app,newAt];rcases Nat.lt_or_ge g S.heap.length with h1 | h1
  ·
   rw[La_ h1]
  rw[Lr_ h1,List.getElem?_eq_none h1];simp only[List.getElem?_eq_none_iff,List.length_singleton];omega
theorem app_len{e:Eff}{S:St}{W:List Nat}{c:Bool}(h:e.within S.heap.length W c)(hc:c=false):(e.app S).heap.length=S.heap.length:=by
 cases e with
 | none=>rfl
 | set g' o=>simp[Eff.app,setAt]
 | new o=>rw[hc]at h;cases h.1
theorem app_comm{e f:Eff}{S:St}{W V:List Nat}{c d:Bool}(he:e.within S.heap.length W c)(hf:f.within S.heap.length V d)(hd:∀g∈W,g∉V)(hcd:¬(c=true∧d=true)):e.app (f.app S)=f.app (e.app S):=by
 cases e with
 | none=>rfl
 | set g o =>
  cases f with
  | none=>rfl
  | set g' o' =>
   have xB:g≠g':=fun e=>hd g he (e▸hf);simp only[Eff.app,setAt,St.mk.injEq];exact⟨List.set_comm _ _ (fun e=>xB e.symm),by omega⟩
  | new o' =>
   have xB:g≠S.heap.length:=fun e=>hd g he (e▸hf.2);simp only[Eff.app,setAt,newAt,St.mk.injEq,and_true];rw[List.set_append];split
   ·
    rfl
   rename_i h1;rw[List.set_eq_of_length_le (l:=S.heap) (by omega),List.set_eq_of_length_le (by simp;omega)]
 | new o =>
  cases f with
  | none=>rfl
  | set g' o' =>
   have xB:g'≠S.heap.length:=fun e=>hd _ he.2 (e▸hf);simp only[Eff.app,setAt,newAt,St.mk.injEq,and_true];rw[List.set_append];split
   ·
    rfl
   rename_i h1;rw[List.set_eq_of_length_le (l:=S.heap) (by omega),List.set_eq_of_length_le (by simp;omega)]
  | new o'=>exact absurd ⟨he.1,hf.1⟩ hcd
theorem dj_some{l m:List Nat}(h:dj (some l) (some m)=true):∀g∈l,g∉m:=by
 intro g hg hm
 cases l with
 | nil=>cases hg
 | cons a l =>
  cases m with
  | nil=>cases hm
  | cons b m =>
   have:=List.all_eq_true.1 h g hg;simp at this;simp at hm;rcases hm with hm | hm
   ·
    exact this.1 hm
   exact this.2 hm
theorem dj_some0{l:List Nat}(h:dj none (some l)=true):l=[]:=by
 cases l with
 | nil=>rfl
 | cons a l=>simp[dj]at h
theorem dj_none{l:List Nat}(h:dj (some l) none=true):l=[]:=by
 cases l with
 | nil=>rfl
 | cons a l=>simp[dj]at h
theorem swap {call : Bp} (hc : Er call) {la lb : LOp} {da db : List D} {ra rb : D} {wa wb : Bool} {S S1 S2 : St} (h1 : Ce call la da S = some (ra, S1, wa)) (h2 : Ce call lb db S1 = some (rb, S2, wb)) (hi : Au (F3 la da ra wa) (F3 lb db rb wb) = true) :
    ∃S3,Ce call lb db S=some (rb,S3,wb)∧Ce call la da S3=some (ra,S2,wa)∧((F3 la da ra wa).writes=none→S2=S1)∧((F3 lb db rb wb).writes=none→S3=S2):=by
  cases kF:la.loud with
  | false =>
    obtain⟨rfl,rfl,h3⟩:=Q5 kF h1;refine⟨S2,h2,h3 S2,fun hw=>?_,fun _=>rfl⟩;rcases K7 h1 with⟨_,_,_,_,hw',_⟩ | hf
    · rw[hw]at hw';cases hw'
    rw[hf]at hw;cases hw
  | true =>
    cases hlb:lb.loud with
    | false =>
      obtain⟨rfl,rfl,h3⟩:=Q5 hlb h2;refine⟨S,h3 S,h1,fun _=>rfl,fun hw=>?_⟩;rcases K7 h2 with⟨_,_,_,_,hw',_⟩ | hf
      · rw[hw]at hw';cases hw'
      rw[hf]at hw;cases hw
    | true =>
      simp only[Au,fpOf_loud,kF,hlb,Bool.not_true,Bool.false_or,Bool.and_eq_true,Bool.not_eq_true']at hi;obtain⟨⟨⟨⟨⟨d1,d2⟩,d3⟩,d4⟩,d5⟩,d6⟩:=hi;rcases K7 h1 with⟨Ra,Wa,ea,hra,ku,rfl,yG,hTa⟩ | xR
      · rcases K7 h2 with ⟨Rb, Wb, eb, hrb, hwb, rfl, rz, hTb⟩ | hfb
        · rw [hra, hwb] at d3;rw[ku,hrb]at d1;rw[ku,hwb]at d2;have d1:=dj_some d1;have d2:=dj_some d2;have d3:=dj_some d3;have xg:∀(hcb:(F3 lb db rb wb).creates=true),(ea.app S).heap.length=S.heap.length:=fun hcb=>app_len yG (by rw[hcb]at d4;simpa using d4)
          have hib':eb.within S.heap.length Wb (F3 lb db rb wb).creates:=by
            cases eb with
            | none=>trivial
            | set g o=>exact rz
            | new o=>exact⟨rz.1,by rw[←xg rz.1];exact rz.2⟩
          have hb:Ce call lb db S=some (rb,eb.app S,wb):=hTb S (fun g hg=>(app_get yG fun hgw=>d1 g hgw hg).symm) (fun hcb=>(xg hcb).symm);have ha:Ce call la da (eb.app S)=some (ra,ea.app (eb.app S),wa):=hTa (eb.app S) (fun g hg=>app_get hib' fun hgw=>d3 g hgw hg) (fun hca=>app_len hib' (by rw[hca]at d4;simpa using d4));rw[app_comm yG hib' d2 (fun hcd=>by rw[hcd.1,hcd.2]at d4;cases d4)]at ha;exact⟨eb.app S,hb,ha,fun hw=>(by rw[hw]at ku;cases ku),fun hw=>(by rw[hw]at hwb;cases hwb)⟩
        cases wb with
        | true =>
          rw[hfb,hra]at d3;rw[hfb,ku]at d2;rw[hfb]at d4;have hR:=dj_some0 (by simpa [Ba] using d3);have hW:=dj_none (by simpa [Ba] using d2);subst hR hW;have hca:(F3 la da ra wa).creates=false:=by simpa [Ba] using d4
          have he:∀T:St,ea.app T=T:=fun T=>by
            cases ea with
            | none=>rfl
            | set g o=>cases yG
            | new o=>cases yG.2
          rw[he]at h1 h2;refine⟨S2,h2,?_,fun hw=>(by rw[ku]at hw;cases hw),fun _=>rfl⟩;have:=hTa S2 (fun g hg=>(by cases hg)) (fun h=>by rw[hca]at h;cases h);rwa [he]at this
        | false =>
          have:=Nt hc h2;subst this;rw[hfb,ku]at d1;have hW:=dj_none (by simpa [Ba] using d1);subst hW;rw[hfb]at d5;have hca:(F3 la da ra wa).creates=false:=by simpa [Ba] using d5
          have he:ea.app S=S:=by
            cases ea with
            | none=>rfl
            | set g o=>cases yG
            | new o=>cases yG.2
          rw[he]at h1 h2 ⊢;exact⟨S,h2,h1,fun _=>rfl,fun _=>rfl⟩
      cases wa with
      | true =>
        rcases K7 h2 with⟨Rb,Wb,eb,hrb,hwb,rfl,rz,hTb⟩ | hfb
        · rw [xR, hrb] at d1;rw[xR,hwb]at d2;rw[xR]at d4;have hR:=dj_some0 (by simpa [Ba] using d1);have hW:=dj_some0 (by simpa [Ba] using d2);subst hR hW;have hcb:(F3 lb db rb wb).creates=false:=by simpa [Ba] using d4
          have he:∀T:St,eb.app T=T:=fun T=>by
            cases eb with
            | none=>rfl
            | set g o=>cases rz
            | new o=>cases rz.2
          rw[he]at h2 ⊢;refine⟨S,?_,h1,fun _=>rfl,fun hw=>(by rw[hwb]at hw;cases hw)⟩;have:=hTb S (fun g hg=>(by cases hg)) (fun h=>by rw[hcb]at h;cases h);rwa [he]at this
        rw[hfb,xR]at d1;exact absurd (show dj none none=true by cases wb<;>exact d1) (by decide)
      | false =>
        have:=Nt hc h1;subst this;rcases K7 h2 with⟨Rb,Wb,eb,hrb,hwb,rfl,rz,hTb⟩ | hfb
        · rw [xR, hwb] at d3;have hW:=dj_none (by simpa [Ba] using d3);subst hW
          have he:eb.app S1=S1:=by
            cases eb with
            | none=>rfl
            | set g o=>cases rz
            | new o=>cases rz.2
          rw[he]at h2 ⊢;exact⟨S1,h2,h1,fun _=>rfl,fun _=>rfl⟩
        cases wb with
        | true=>rw[hfb,xR]at d3;exact absurd (show dj none none=true from d3) (by decide)
        | false =>
          have:=Nt hc h2;subst this;exact⟨S2,h2,h1,fun _=>rfl,fun _=>rfl⟩
open Go.RowKit
def Gu {α:Type} (V:Nat→α) (i:Nat):List α:=((List.range i).map V).reverse
theorem Mo{α:Type}(V:Nat→α)(i:Nat):Gu V (i+1)=V i::Gu V i:=by simp[Gu,List.range_succ]
theorem Nn{α:Type}{V W:Nat→α}{i:Nat}(h:∀k,k<i→V k=W k):Gu V i=Gu W i:=by
 unfold Gu;congr 1;exact List.map_congr_left fun k hk=>h k (List.mem_range.1 hk)
theorem Mq{α:Type}(V:Nat→α)(i:Nat):(Gu V i).length=i:=by simp[Gu]
theorem J9{α:Type}(V:Nat→α):∀(i d:Nat),d<i→(Gu V i)[d]?=some (V (i-1-d))
 | 0,d,h=>by omega
 | i+1,0,h=>by rw[Mo];simp
 | i+1,d+1,h=>by
  rw[Mo,Ls_,J9 V i d (by omega)];congr 2;omega
theorem stp_drew(w:World)(ρ:Vo)(S:St):Stp w ρ S w.drew ρ S :=
 ⟨rfl,rfl,rfl,rfl,Nat.le_refl _,Nat.le_refl _,fun b _ h=>⟨rfl,h⟩,fun b q h=>⟨rfl,h⟩,fun _ _ _ _ _ _=>rfl,fun g o h=>⟨o,h,⟨Nat.le_refl _,rfl⟩,fun _=>rfl,fun _=>⟨rfl,rfl,rfl,Nat.le_refl _,fun b cur _ h=>⟨cur,h,rfl⟩⟩⟩⟩
def Mw (ops:Array Oper) (i:Nat):List (Option Tmp):=((ops.toList.take i).map (·.dst)).reverse
theorem dstTo_succ{ops:Array Oper}{i:Nat}{o:Oper}(h:ops[i]?=some o):Mw ops (i+1)=o.dst::Mw ops i:=by
 have hl:ops.toList[i]?=some o:=by simpa using h
 have xE:=lt_of_some hl;unfold Mw;rw[List.take_succ_eq_append_getElem xE,List.map_append,List.reverse_append];have:ops.toList[i]=o:=by rw[Lg xE]at hl;injection hl
 simp[this]
theorem sig_to{ops:Array Oper}{slots:List Nat}{V:Nat→D}{env:List D}{t:Nat}(hu:∀(k k':Nat) (o o':Oper),ops[k]?=some o→ops[k']?=some o'→o.dst=some t→o'.dst=some t→k=k') :
    ∀i,i≤ops.size→((∃k o,k<i∧ops[k]?=some o∧o.dst=some t∧sig slots (Mw ops i) (Gu V i) env t=V k)∨((∀k o,k<i→ops[k]?=some o→o.dst≠some t)∧sig slots (Mw ops i) (Gu V i) env t=sig slots [] [] env t))
  | 0,_=>.inr ⟨fun k o hk=>by omega,by simp[Mw,Gu]⟩
  | i + 1, hi => by
    have ho:ops[i]?=some ops[i]:=Array.getElem?_eq_getElem (by omega);rw[dstTo_succ ho,Mo,Rh];by_cases e:ops[i].dst=some t
    · exact .inl ⟨i,ops[i],by omega,ho,e,by simp[e]⟩
    rw[if_neg e];rcases sig_to hu i (by omega) with⟨k,o,hk,yM,hd,hs⟩ | ⟨hn,hs⟩
    · exact .inl ⟨k,o,by omega,yM,hd,hs⟩
    refine .inr ⟨fun k o hk yM hd=>?_,hs⟩;by_cases hki:k=i
    · subst hki;rw[ho]at yM;injection yM with yM;subst yM;exact e hd
    exact hn k o (by omega) yM hd
inductive TStep (call:Bp) (n:Nat) (news:List (TypeId × List D)) (tl env:List D) (V:Nat→D) (ST:Nat→St) (W:Nat→Bool) (F:Nat→FP) (i:Nat) (lo:Vk):Prop
 | skip (hg:onG (Gu V i++tl) lo.guard=some false) (h1:V i=.skip) (h2:ST (i+1)=ST i) (h3:F i=Ae)
 | run (hg:onG (Gu V i++tl) lo.guard=some true) (h:Ce call lo.op (lo.args.map (opd (Gu V i++tl) env)) (ST i)=some (V i,ST (i+1),W i)) (hF:F i=Ao n lo (lo.args.map (opd (Gu V i++tl) env)) (V i) (W i)) (hs:Ai n news lo (Gu F i) (F i) (ST (i+1))=true)
theorem trace_ex {call : Bp} {n : Nat} {news : List (TypeId × List D)} {tl env : List D} : ∀ (los : List Vk) (k : Nat) (V0 : Nat → D) (F0 : Nat → FP) (S : St) (valsF : List D) (SF : St), Js call n news los (Gu F0 k) (Gu V0 k ++ tl) env S = some (valsF, SF) →
    ∃(V:Nat→D) (ST:Nat→St) (W:Nat→Bool) (F:Nat→FP),(∀j,j<k→V j=V0 j)∧(∀j,j<k→F j=F0 j)∧ST k=S∧ST (k+los.length)=SF∧valsF=Gu V (k+los.length)++tl∧∀i lo,los[i]?=some lo→TStep call n news tl env V ST W F (k+i) lo
  | [], k, V0, F0, S, valsF, SF, h => by
    simp only[Js,Oi,Pi_]at h;obtain⟨rfl,rfl⟩:=h;exact⟨V0,fun _=>S,fun _=>false,F0,fun _ _=>rfl,fun _ _=>rfl,rfl,rfl,rfl,fun i lo hi=>by simp at hi⟩
  | lo :: los, k, V0, F0, S, valsF, SF, h => by
    have fin:∀(r:D) (S1:St) (wr:Bool) (fp:FP),Js call n news los (fp::Gu F0 k) (r::(Gu V0 k++tl)) env S1=some (valsF,SF) →
        (∀V ST W F,Gu V k=Gu V0 k→Gu F k=Gu F0 k→V k=r→F k=fp→ST k=S→ST (k+1)=S1→W k=wr→TStep call n news tl env V ST W F k lo) →
        ∃(V:Nat→D) (ST:Nat→St) (W:Nat→Bool) (F:Nat→FP),(∀j,j<k→V j=V0 j)∧(∀j,j<k→F j=F0 j)∧ST k=S∧ST (k+(lo::los).length)=SF∧valsF=Gu V (k+(lo::los).length)++tl∧∀i lo',(lo::los)[i]?=some lo'→TStep call n news tl env V ST W F (k+i) lo':=by
      intro r S1 wr fp hx ht
      have e1:r::(Gu V0 k++tl)=Gu (fun i=>if i=k then r else V0 i) (k+1)++tl:=by
        rw[Mo];simp only[if_true,List.cons_append,List.cons.injEq,true_and];rw[Nn (V:=fun i=>if i=k then r else V0 i) (W:=V0) (fun j hj=>by rw[if_neg (by omega)])]
      have e2:fp::Gu F0 k=Gu (fun i=>if i=k then fp else F0 i) (k+1):=by
        rw[Mo];simp only[if_true,List.cons.injEq,true_and];rw[Nn (V:=fun i=>if i=k then fp else F0 i) (W:=F0) (fun j hj=>by rw[if_neg (by omega)])]
      rw[e1,e2]at hx;obtain⟨V,ST,W,F,h1,h2,h3,h4,h5,h6⟩:=trace_ex los (k+1) _ _ S1 valsF SF hx;have hV:∀j,j<k→V j=V0 j:=fun j hj=>by rw[h1 j (by omega),if_neg (by omega)]
      have hF:∀j,j<k→F j=F0 j:=fun j hj=>by rw[h2 j (by omega),if_neg (by omega)]
      refine⟨V,fun i=>if i=k then S else ST i,fun i=>if i=k then wr else W i,F,hV,hF,by simp,?_,?_,?_⟩
      · simp only [List.length_cons];rw[if_neg (by omega),←h4];congr 1;omega
      · rw [h5, List.length_cons];congr 2;omega
      intro i lo' hi
      cases i with
      | zero =>
        simp at hi;subst hi;exact ht V _ _ F (Nn hV) (Nn hF) (by rw[h1 k (by omega)];simp) (by rw[h2 k (by omega)];simp) (by simp) (by simp[h3]) (by simp)
      | succ i =>
        simp at hi;have:=h6 i lo' hi;rw[show k+1+i=k+(i+1) by omega]at this
        cases this with
        | skip hg a1 a2 a3=>exact .skip hg a1 (by rw[if_neg (by omega),if_neg (by omega)];exact a2) a3
        | run hg hh hF hs=>exact .run hg (by rw[if_neg (by omega),if_neg (by omega),if_neg (by omega)];exact hh) (by rw[if_neg (by omega)];exact hF) (by rw[if_neg (by omega)];exact hs)
    unfold Js at h;split at h
    · simp at h
    · rename_i hg;exact fin .skip S false Ae h fun V ST W F a1 a2 a3 a4 a5 a6 a7=>.skip (by rw[a1];exact hg) a3 (by rw[a6,a5]) a4
    rename_i hg;split at h
    · simp at h
    rename_i r S' wr yZ;split at h
    · rename_i yM;exact fin r S' wr _ h fun V ST W F a1 a2 a3 a4 a5 a6 a7=>.run (by rw[a1];exact hg) (by rw[a1,a3,a5,a6,a7];exact yZ) (by rw[a1,a3,a4,a7]) (by rw[a2,a4,a6];exact yM)
    simp at h
theorem Nk {P : Program} {kd : Kd} {nt : Nat} {slots bs : List Nat} {k : Nat} : ∀ {os : List Oper} {prev : List (Option Tmp)} {r0 : Nat} {los : List Vk}, O9 P kd nt slots bs k os prev r0 = some los →
    los.length=os.length∧(∀o∈os,G5 nt o.dst=true)∧∀i o,os[i]?=some o →
      (∃p,Le P o=some p∧los[i]?=some ⟨.mv,[.loc (prev.length+i+(k-1-(r0+(Es P (os.take i)).length)))],none,Qr bs (prev.length+i),some (r0+(Es P (os.take i)).length)⟩) ∨
      (Le P o=none∧∃l xs args g,(∃mt':Bool,Jv P (kd.lit mt') o=some (l,xs))∧Km kd.glob slots (((os.take i).map (·.dst)).reverse++prev) xs=some args∧Ht (((os.take i).map (·.dst)).reverse++prev) o.guard=some g∧los[i]?=some ⟨l,args,g,Qr bs (prev.length+i),none⟩)
  | [], prev, r0, los, h => by
    simp only[O9,Oi]at h;subst h;exact⟨rfl,by simp,fun i o hi=>by simp at hi⟩
  | o :: os, prev, r0, los, h => by
    unfold O9 at h;split at h
    · rename_i hd;split at h
      · rename_i p hp;split at h
        · rename_i rest hr;simp only[Oi]at h;subst h;obtain⟨h1,h2,h3⟩:=Nk hr;refine⟨by simp[h1],fun o' ho'=>?_,fun i o' hi=>?_⟩
          · rcases List.mem_cons.1 ho' with rfl | ho'
            · exact hd
            exact h2 o' ho'
          cases i with
          | zero =>
            simp at hi;subst hi;exact .inl ⟨p,hp,by simp[Es]⟩
          | succ i =>
            simp at hi;have e1:prev.length+(i+1)=(o.dst::prev).length+i:=by simp;omega
            have e2:r0+(Es P ((o::os).take (i+1))).length=r0+1+(Es P (os.take i)).length:=by
              simp only[Es,List.take_succ_cons,List.filterMap_cons,hp,List.length_cons];omega
            rw[e1,e2];rcases h3 i o' hi with⟨p',q1,q2⟩ | ⟨q0,l',xs',args',g',q1,q2,q3,q4⟩
            · exact .inl ⟨p',q1,by simpa using q2⟩
            exact .inr ⟨q0,l',xs',args',g',q1,by simpa using q2,by simpa using q3,by simpa using q4⟩
        simp at h
      rename_i hp;split at h
      · simp at h
      rename_i l xs hl;split at h
      · rename_i args g rest ha hg hr;simp only[Oi]at h;subst h;obtain⟨h1,h2,h3⟩:=Nk hr;refine⟨by simp[h1],fun o' ho'=>?_,fun i o' hi=>?_⟩
        · rcases List.mem_cons.1 ho' with rfl | ho'
          · exact hd
          exact h2 o' ho'
        cases i with
        | zero =>
          simp at hi;subst hi;exact .inr ⟨hp,l,xs,args,g,⟨_,hl⟩,by simpa using ha,by simpa using hg,by simp⟩
        | succ i =>
          simp at hi;have e1:prev.length+(i+1)=(o.dst::prev).length+i:=by simp;omega
          have e2:r0+(Es P ((o::os).take (i+1))).length=r0+(Es P (os.take i)).length:=by
            simp only[Es,List.take_succ_cons,List.filterMap_cons,hp]
          rw[e1,e2];rcases h3 i o' hi with⟨p',q1,q2⟩ | ⟨q0,l',xs',args',g',q1,q2,q3,q4⟩
          · exact .inl ⟨p',q1,by simpa using q2⟩
          exact .inr ⟨q0,l',xs',args',g',q1,by simpa using q2,by simpa using q3,by simpa using q4⟩
      simp at h
    simp at h
structure Ev where
 op:LOp
 ds:List D
 r:D
 wr:Bool
def Ev.fp (e:Ev):FP:=F3 e.op e.ds e.r e.wr
def Runs (call:Bp) (E:Nat→Option Ev) (Z:Nat→List Vi→Prop):List Nat→St→St→Prop
 | [],S,S'=>S'=S
 | i::l,S,S'=>match E i with
  | none=>Runs call E Z l S S'
  | some e=>∃S1,Ce call e.op e.ds S=some (e.r,S1,e.wr)∧(e.fp.writes=none→Z i S1.heap)∧Runs call E Z l S1 S'
theorem Runs.drop{call:Bp}{E:Nat→Option Ev}{Z:Nat→List Vi→Prop}{i:Nat}(hi:E i=none){post:List Nat}:∀{pre:List Nat} {S S':St},Runs call E Z (pre++i::post) S S'→Runs call E Z (pre++post) S S'
 | [],S,S',h=>by simpa [Runs,hi] using h
 | j :: pre, S, S', h => by
  simp only[List.cons_append,Runs]at h ⊢;split at h
  ·
   rename_i hj;exact Runs.drop hi h
  rename_i e hj;obtain⟨S1,h1,h2,h3⟩:=h;exact⟨S1,h1,h2,Runs.drop hi h3⟩
theorem Runs.front{call:Bp}(hc:Er call){E:Nat→Option Ev}{Z:Nat→List Vi→Prop}{i:Nat}{e:Ev}(hi:E i=some e){post:List Nat}:∀{pre:List Nat} {S S':St},Runs call E Z (pre++i::post) S S'→(∀j∈pre,∀e',E j=some e'→Au e'.fp e.fp=true) →
  ∃S1,Ce call e.op e.ds S=some (e.r,S1,e.wr)∧(e.fp.writes=none→Z i S1.heap)∧Runs call E Z (pre++post) S1 S'
 | [],S,S',h,_=>by simpa [Runs,hi] using h
 | j :: pre, S, S', h, hd => by
  simp only[List.cons_append,Runs]at h ⊢;split at h
  ·
   rename_i hj;exact Runs.front hc hi h fun k hk=>hd k (List.mem_cons_of_mem _ hk)
  rename_i e' hj;obtain⟨S1,h1,h2,h3⟩:=h;obtain⟨S2,k1,k2,k3⟩:=Runs.front hc hi h3 fun k hk=>hd k (List.mem_cons_of_mem _ hk);obtain⟨S3,q1,q2,q3,q4⟩:=swap hc h1 k1 (hd j (by simp) e' hj);exact⟨S3,q1,fun hw=>by rw[q4 hw];exact k2 hw,S2,q2,fun hw=>by rw[q3 hw];exact h2 hw,k3⟩
open Go.RowKit
theorem okFP_get:∀{bs:List Bool} {fs:List FP} {x:FP},Bl bs fs x=true→∀(d:Nat) (f:FP),fs[d]?=some f→∃b,bs[d]?=some b∧Aj b f x=true
 | [],[],x,h,d,f,hd=>by simp at hd
 | b::bs,[],x,h,d,f,hd=>by simp at hd
 | [],_::_,x,h,d,f,hd=>by simp[Bl]at h
 | b::bs,f'::fs,x,h,0,f,hd=>by
  simp only[Bl,Bool.and_eq_true]at h;simp at hd;subst hd;exact⟨b,rfl,h.1⟩
 | b::bs,f'::fs,x,h,d+1,f,hd=>by
  simp only[Bl,Bool.and_eq_true]at h;exact okFP_get h.2 d f (by simpa using hd)
theorem Q6:∀{bs:List Bool} {fs:List FP} {g:Nat},g∈Br bs fs→∃(d:Nat) (f:FP),bs[d]?=some true∧fs[d]?=some f∧f.hoist=some g
 | [],fs,g,h=>by simp[Br]at h
 | b::bs,[],g,h=>by simp[Br]at h
 | b :: bs, f :: fs, g, h => by
  unfold Br at h;split at h
  ·
   rename_i g' hb hf;rcases List.mem_cons.1 h with rfl | h
   ·
    exact⟨0,f,rfl,rfl,hf⟩
   obtain⟨d,f',h1,h2,h3⟩:=Q6 h;exact⟨d+1,f',h1,h2,h3⟩
  obtain⟨d,f',h1,h2,h3⟩:=Q6 h;exact⟨d+1,f',h1,h2,h3⟩
theorem sameD_eq{a b:D}(h:Co a b=true):a=b:=by
 unfold Co at h;split at h
 all_goals first | rfl | (simp at h;done) | skip
 ·
  simp only[Bool.and_eq_true,decide_eq_true_eq]at h;rw[h.1,h.2]
 ·
  simp only[beq_iff_eq]at h;rw[h]
 simp only[decide_eq_true_eq]at h;rw[h]
theorem sameDs_eq:∀{l m:List D},Bu l m=true→l=m
 | [],[],_=>rfl
 | a::l,b::m,h=>by
  simp only[Bu,Bool.and_eq_true]at h;rw[sameD_eq h.1,sameDs_eq h.2]
 | [],_::_,h=>by simp[Bu]at h
 | _::_,[],h=>by simp[Bu]at h
theorem sameNew_eq{p:TypeId × List D}{x:Option Vi}(h:Bg p x=true):x=some (D9 p):=by
 unfold Bg at h;split at h
 ·
  simp only[Bool.and_eq_true,decide_eq_true_eq]at h;obtain⟨⟨rfl,rfl⟩,h3⟩:=h;rw[sameDs_eq h3];rfl
 simp at h
theorem Q9{n:Nat}{dn:List Nat}{H:List Vi}:∀{l:List (TypeId × List D)} {r0:Nat},Aw n dn H l r0=true→∀r p,l[r]?=some p→n+(r0+r)∉dn→H[n+(r0+r)]?=some (D9 p)
  | [],r0,h,r,p,hr,_=>by simp at hr
  | q :: l, r0, h, 0, p, hr, hn => by
    simp only[Aw,Bool.and_eq_true,Bool.or_eq_true]at h;simp at hr;subst hr;rcases h.1 with h1 | h1
    · exact absurd (by simpa using h1) hn
    exact sameNew_eq h1
  | q :: l, r0, h, r + 1, p, hr, hn => by
    simp only[Aw,Bool.and_eq_true]at h;have e:r0+(r+1)=r0+1+r:=by omega
    rw[e]at hn ⊢;exact Q9 h.2 r p (by simpa using hr) hn
theorem fpApp_hoist(s x r:D)(wr:Bool):(Fq s x r wr).hoist=none:=by
 unfold Fq;cases wr
 ·
  rfl
 simp only[if_true];split
 ·
  split<;>rfl
 rfl
theorem fpMk_hoist(r:D)(wr:Bool):(Bv r wr).hoist=none:=by
 unfold Bv;split<;>cases wr<;>rfl
theorem Q3(l:LOp)(ds:List D)(r:D)(wr:Bool):(F3 l ds r wr).hoist=none:=by
 unfold F3
 repeat' split
 all_goals first | rfl | (cases wr<;>rfl) | exact fpApp_hoist .. | exact fpMk_hoist ..
def rk (P:Program) (ops:Array Oper) (j:Nat):Nat:=(Es P (ops.toList.take j)).length
theorem rk_get{P:Program}{ops:Array Oper}{j:Nat}{o:Oper}{p:TypeId × List D}(ho:ops[j]?=some o)(hp:Le P o=some p):(Es P ops.toList)[rk P ops j]?=some p:=by
 have hl:ops.toList[j]?=some o:=by simpa using ho
 have xE:=lt_of_some hl
 have e:ops.toList=ops.toList.take j++o::ops.toList.drop (j+1):=by
  conv=>lhs;rw[←List.take_append_drop j ops.toList]
  rw[List.drop_eq_getElem_cons xE];rw[Lg xE]at hl;injection hl with hl;rw[hl]
 unfold rk
 conv=>lhs;arg 1;rw[e]
 unfold Es;rw[List.filterMap_append,Lr_ (Nat.le_refl _),Nat.sub_self,List.filterMap_cons_some hp];rfl
theorem rk_lt{P:Program}{ops:Array Oper}{i j:Nat}{o:Oper}{p:TypeId × List D}(ho:ops[i]?=some o)(hp:Le P o=some p)(kJ:i<j):rk P ops i<rk P ops j:=by
 have hl:ops.toList[i]?=some o:=by simpa using ho
 have xE:=lt_of_some hl
 have e:ops.toList.take j=ops.toList.take i++o::(ops.toList.take j).drop (i+1):=by
  conv=>lhs;rw[←List.take_append_drop i (ops.toList.take j)]
  have hlt':i<(ops.toList.take j).length:=by rw[List.length_take];omega
  rw[List.drop_eq_getElem_cons hlt',List.take_take,Nat.min_eq_left (Nat.le_of_lt kJ)];rw[Lg xE]at hl;injection hl with hl;rw[List.getElem_take,hl]
 unfold rk
 conv=>rhs;rw[e]
 unfold Es;rw[List.filterMap_append,Ll_,List.filterMap_cons_some hp,List.length_cons];omega
theorem rk_inj{P:Program}{ops:Array Oper}{i j:Nat}{o o':Oper}{p p':TypeId × List D}(ho:ops[i]?=some o)(hp:Le P o=some p)(ho':ops[j]?=some o')(hp':Le P o'=some p')(h:rk P ops i=rk P ops j):i=j:=by
 rcases Nat.lt_trichotomy i j with h1 | h1 | h1
 ·
  have:=rk_lt ho hp h1;omega
 ·
  exact h1
 have:=rk_lt ho' hp' h1;omega
theorem newOf_some{P:Program}{o:Oper}{p:TypeId × List D}(h:Le P o=some p):∃n,o.op=.alloc p.1∧o.guard=none∧I8 P p.1=some p.2∧Dn P p.1=some n∧p.2.length=n:=by
 unfold Le at h;split at h
 ·
  rename_i e ho hg;split at h
  ·
   rename_i z n hz hn;split at h
   ·
    rename_i hl;simp only[Oi]at h;subst h;exact⟨n,ho,hg,hz,hn,hl⟩
   simp at h
  simp at h
 simp at h
theorem dstTo_len{ops:Array Oper}{i:Nat}(h:i≤ops.size):(Mw ops i).length=i:=by
 unfold Mw;rw[List.length_reverse,List.length_map,List.length_take,Array.length_toList];omega
theorem sig_tl{slots:List Nat}{prev:List (Option Tmp)}{vals tl env:List D}{t i:Nat}(hp:prev.length=i)(hv:vals.length=i):sig slots prev (vals++tl) env t=sig slots prev vals env t:=by
  unfold sig;split
  · rename_i d hd;have:=lt_of_some (Je hd);simp only[List.getD_eq_getElem?_getD];rw[La_ (by omega)]
  rfl
theorem newsVals_get{n k r:Nat}(h:r<k):(Ci n k)[k-1-r]?=some (.ptr (n+r) 0 0 0):=by
 have:=J9 (fun r=>D.ptr (n+r) 0 0 0) k (k-1-r) (by omega);rw[show k-1-(k-1-r)=r by omega]at this;exact this
noncomputable def notB (p:Prop):Bool:=@decide (¬p) (Classical.propDecidable _)
theorem notB_iff{p:Prop}:notB p=true↔¬p:=by unfold notB;exact @decide_eq_true_iff _ (Classical.propDecidable _)
theorem notB_congr{p q:Prop}(h:p↔q):notB p=notB q:=by rw[propext h]
noncomputable def left (n:Nat) (L:Nat→Prop):List Nat:=(List.range n).filter (fun i=>notB (L i))
theorem left_split{n i:Nat}{L:Nat→Prop}(hi:i<n)(hL:¬L i):∃pre post,left n L=pre++i::post∧left n (fun k=>L k∨k=i)=pre++post∧∀j∈pre,j<i∧¬L j:=by
  have e:List.range n=List.range i++i::List.range' (i+1) (n-i-1):=by
    rw[List.range_eq_range',List.range_eq_range',←List.range'_succ,show n-i-1+1=n-i by omega];have:=List.range'_append (s:=0) (m:=i) (n:=n-i) (step:=1);simp only[Nat.one_mul,Nat.zero_add]at this;rw[this];congr 1;omega
  refine⟨(List.range i).filter (fun k=>notB (L k)),(List.range' (i+1) (n-i-1)).filter (fun k=>notB (L k)),?_,?_,?_⟩
  · unfold left;rw[e,List.filter_append,List.filter_cons_of_pos (by rw[notB_iff];exact hL)]
  · unfold left;rw[e,List.filter_append,List.filter_cons_of_neg (by rw[notB_iff];simp)];congr 1
    · apply List.filter_congr;intro k hk;have:k≠i:=by have:=List.mem_range.1 hk;omega
      exact notB_congr (by simp[this])
    apply List.filter_congr;intro k hk;have:k≠i:=by have:=List.mem_range'_1.1 hk;omega
    exact notB_congr (by simp[this])
  intro j hj;rw[List.mem_filter]at hj;exact⟨List.mem_range.1 hj.1,notB_iff.1 hj.2⟩
section
variable {P:Program} {call:Bp} {kd:Kd} {nt:Nat} {slots:List Nat} {ops:Array Oper} {env:List D} {Q:Exit→Act→World→Prop}
def Real (d:D):Prop:=∃w ρ H v,VR w ρ H d v
def FA (ops:Array Oper) (slots:List Nat) (nt:Nat) (env:List D) (df:List Deferred) (a:Act) (w:World) (ρ:Vo) (H:List Vi):Prop :=
 a.tmps.size=nt∧a.defers=df∧∀t,t<nt→(∀(k:Nat) (o:Oper),ops[k]?=some o→o.dst≠some t)→VR w ρ H (sig slots [] [] env t) (a.tmps.getD t undef)
structure DInv (P:Program) (call:Bp) (ops:Array Oper) (slots:List Nat) (nt:Nat) (env:List D) (V:Nat→D) (E:Nat→Option Ev) (Z:Nat→List Vi→Prop) (S SF:St) (w0:World) (ρ0:Vo) (df:List Deferred) (L:Nat→Prop) (a:Act) (w:World) (ρ:Vo) (S1:St):Prop where
 rel:Rel w ρ S1.heap
 stp:Stp w0 ρ0 S w ρ S1
 size:a.tmps.size=nt
 defers:a.defers=df
 slot:∀t,t<nt→(∃k o,ops[k]?=some o∧L k∧o.dst=some t∧VR w ρ S1.heap (V k) (a.tmps.getD t undef))∨((∀k o,ops[k]?=some o→L k→o.dst≠some t)∧VR w ρ S1.heap (sig slots [] [] env t) (a.tmps.getD t undef))
 runs:Runs call E Z (left ops.size L) S1 SF
 real:∀k o,ops[k]?=some o→L k→Real (V k)
 pend:∀j o p,ops[j]?=some o→¬L j→Le P o=some p→S1.heap[S.heap.length+rk P ops j]?=some (D9 p)∧ρ (S.heap.length+rk P ops j)=none
theorem draw_okQ {G : Nat → Option (List D)} (zQ : ∀ g row, kd.glob g = some row → G g = some row) (hm : P.follows .mixedOrders = true) (y7 : Er call) {S S' : St} {vals' : List D} {los : List Vk} {w : World} {ρ : Vo} {a : Act} {id : Nat} (hs : slots.all (· < nt) = true) (hdraw : drawOk P kd ops (Region.before ops).toList = true)
    (x9:O9 P kd nt slots (Region.before ops).toList (Es P ops.toList).length ops.toList [] 0=some los) (yg:Js call S.heap.length (Es P ops.toList) los [] (Ci S.heap.length (Es P ops.toList).length) env ⟨S.heap++(Es P ops.toList).map D9,S.low⟩=some (vals',S')) (hr:Rel w ρ S.heap) (hG:ρ.X.G=G) (hf:FR w ρ S.heap nt (sig slots [] [] env) a)
    (xO:∀f ds S1 r S2 wr a1 w1 ρ1 vs,call f ds S1=some (r,S2,wr)→ρ1.X.G=G→Rel w1 ρ1 S1.heap→VL w1 ρ1 S1.heap ds vs→Stp w ρ S w1 ρ1 S1→FA ops slots nt env a.defers a1 w1 ρ1 S1.heap→(callFunc f vs.toArray).run P w1=.ok (.enter f vs.toArray) w1∧Calls P f vs.toArray w1 fun e w'=>(∃v,e=.returned v∧Vu w1 ρ1 S1 r S2 wr v w')∨∃ch,e=.panicked ch∧Q (.panic ch) a1 w')
    (hQ:∀a' w' ρ',Rel w' ρ' S'.heap→Stp w ρ S w' ρ' S'→FR w' ρ' S'.heap nt (sig slots (dstsOf ops.toList) vals' env) a'→a'.defers=a.defers→(∀d,d<ops.size→Real (vals'.getD d .undef))→Q .normal a' w'):(Code.region id ops true).wp P Q a w:=by
  obtain⟨rW,hdin,yH⟩:=Nk x9;generalize uV:Ci S.heap.length (Es P ops.toList).length=tl at yg;obtain⟨V,ST,W,F,_,_,t2,t3,t4,t5⟩:=trace_ex los 0 (fun _=>.undef) (fun _=>Ae) _ vals' S' yg;simp only[Nat.zero_add,List.length_nil]at t3 t4 t5 yH;have xK:los.length=ops.size:=by rw[rW];simp
  rw[xK]at t3 t4
  -- the checks
  have vF:∀i o,ops[i]?=some o→(∀e∈o.after,Region.binds .any e=true→e.on<i)∧∀k o' d,ops[k]?=some o'→o'.dst=some d→k≠i→o.dst≠some d ∧
      (ordered (Region.before ops).toList i k=true∨((∀(mt:Bool) l xs,Jv P (kd.lit mt) o=some (l,xs)→.tmp d∉xs)∧∀j b oj,o.guard=some (j,b)→ops[j]?=some oj→oj.dst≠some d)):=by
    intro i o ho;have zi:=(Array.getElem?_eq_some_iff.1 ho).1;have h:=List.all_eq_true.1 hdraw i (List.mem_range.2 zi);rw[ho]at h;simp only[Bool.and_eq_true]at h;obtain⟨h1,h2⟩:=h;refine⟨fun e he hb=>?_,fun k o' d hk hd xB=>?_⟩
    · have := List.all_eq_true.1 h1 e (Array.mem_toList_iff.2 he);simpa [hb] using this
    have rY:=(Array.getElem?_eq_some_iff.1 hk).1;have h3:=List.all_eq_true.1 h2 k (List.mem_range.2 rY);rw[hk]at h3;simp only[hd,Bool.or_eq_true,beq_iff_eq,xB,false_or,Bool.and_eq_true,bne_iff_ne,ne_eq]at h3;refine⟨h3.1,?_⟩;rcases h3.2 with h4 | ⟨h4,h5⟩
    · exact .inl h4
    refine .inr ⟨fun mt l xs hl hmem=>?_,fun j b oj hg hj he=>?_⟩
    · cases mt with
      | true =>
        rw[hl]at h4;have:=List.all_eq_true.1 h4.1 _ hmem;simp at this
      | false =>
        have h4:=h4.2;rw[hl]at h4;have:=List.all_eq_true.1 h4 _ hmem;simp at this
    rw[hg]at h5;simp only[hj]at h5;simp[he]at h5
  have hu:∀(t k k':Nat) (o o':Oper),ops[k]?=some o→ops[k']?=some o'→o.dst=some t→o'.dst=some t→k=k':=by
    intro t k k' o o' hk hk' hd hd';by_cases e:k'=k
    · exact e.symm
    exact absurd hd ((vF k o hk).2 k' o' t hk' hd' e).1
  have hT:∀i,i<ops.size→∃lo,los[i]?=some lo∧TStep call S.heap.length (Es P ops.toList) tl env V ST W F i lo:=fun i hi=>⟨los[i]'(by omega),Lg (by omega),t5 i _ (Lg (by omega))⟩
  -- the operations as they were run
  let E:Nat→Option Ev:=fun i=>match los[i]? with
    | some lo=>if onG (Gu V i++tl) lo.guard=some true∧lo.hoist=none then some ⟨lo.op,lo.args.map (opd (Gu V i++tl) env),V i,W i⟩ else none
    | none=>none
  let Z:Nat→List Vi→Prop:=fun i H=>∀r p,(Es P ops.toList)[r]?=some p→S.heap.length+r∉Br (Qr (Region.before ops).toList i) (Gu F i)→H[S.heap.length+r]?=some (D9 p)
  have hordo:∀i lo,los[i]?=some lo→lo.ord=Qr (Region.before ops).toList i:=by
    intro i lo xI;have zi:i<ops.size:=by have:=lt_of_some xI;omega
    rcases yH i ops[i] (by simp[zi]) with⟨p,_,q2⟩ | ⟨_,l,xs,args,g,_,_,_,q4⟩
    · rw[xI]at q2;injection q2 with q2;rw[q2]
    rw[xI]at q4;injection q4 with q4;rw[q4]
  -- hoisted operations
  have rA:∀i o p,ops[i]?=some o→Le P o=some p→(∃lo,los[i]?=some lo∧lo.hoist=some (rk P ops i))∧E i=none∧V i=.ptr (S.heap.length+rk P ops i) 0 0 0∧(F i).hoist=some (S.heap.length+rk P ops i)∧Bl (Qr (Region.before ops).toList i) (Gu F i) (F i)=true:=by
    intro i o p ho hp;have zi:=(Array.getElem?_eq_some_iff.1 ho).1;rcases yH i o (by simpa using ho) with⟨p',q1,q2⟩ | ⟨q0,_⟩
    · obtain ⟨lo, xI, ht⟩ := hT i zi;rw[xI]at q2;injection q2 with q2;have hho:lo.hoist=some (rk P ops i):=by rw[q2];rfl
      have hE:E i=none:=by simp only[E,xI,hho];simp
      have yV:rk P ops i<(Es P ops.toList).length:=lt_of_some (rk_get ho hp)
      cases ht with
      | skip hg=>rw[q2]at hg;simp[onG]at hg
      | run hg hh hF yM =>
        refine⟨⟨lo,xI,hho⟩,hE,?_,?_,?_⟩
        · rw [q2] at hh;simp only[Ce,aop,LOp.loud,pop,List.map_cons,List.map_nil,opd,Bool.false_eq_true,if_false,Option.map_some,Oi,Pi_]at hh;rw[←hh.1];have h1:=newsVals_get (n:=S.heap.length) yV;rw[uV]at h1;simp only[List.getD_eq_getElem?_getD];rw[Lr_ (by rw[Mq];omega),Mq,Nat.add_sub_cancel_left];show (tl[(Es P ops.toList).length-1-rk P ops i]?).getD _=_;rw[h1];rfl
        · rw[hF];simp[Ao,hho]
        have h1:=yM;simp only[Ai,Bool.and_eq_true]at h1;rw[←hordo i lo xI];exact h1.1
    rw[hp]at q0;cases q0
  -- the others
  have qY:∀i lo e,los[i]?=some lo→E i=some e→e=⟨lo.op,lo.args.map (opd (Gu V i++tl) env),V i,W i⟩∧F i=e.fp∧Ce call e.op e.ds (ST i)=some (e.r,ST (i+1),e.wr)∧Bl (Qr (Region.before ops).toList i) (Gu F i) (F i)=true∧(e.fp.writes=none→Z i (ST (i+1)).heap):=by
    intro i lo e xI he;simp only[E,xI]at he;split at he
    · rename_i hc;simp only[Oi]at he;subst he;have zi:i<ops.size:=by have:=lt_of_some xI;omega
      obtain⟨lo',vB,ht⟩:=hT i zi;rw[xI]at vB;injection vB with vB;subst vB
      cases ht with
      | skip hg=>rw[hc.1]at hg;cases hg
      | run hg hh hF yM =>
        simp only[Ai,Bool.and_eq_true,Bool.or_eq_true]at yM;have hFe:F i=(⟨lo.op,lo.args.map (opd (Gu V i++tl) env),V i,W i⟩:Ev).fp:=by rw[hF];simp[Ao,hc.2,Ev.fp]
        refine⟨rfl,hFe,hh,by rw[←hordo i lo xI];exact yM.1,fun hw r p hr hn=>?_⟩;rcases yM.2 with h1 | h1
        · rw[hFe,hw]at h1;cases h1
        have:=Q9 h1 r p hr (by rw[hordo i lo xI,Nat.zero_add];exact hn);rwa [Nat.zero_add]at this
    cases he
  have hruns0 : ∀ m k, k + m = ops.size → Runs call E Z (List.range' k m) (ST k) S' := by
    intro m
    induction m with
    | zero=>intro k hk;rw[show k=ops.size by omega,t3];rfl
    | succ m ih =>
      intro k hk;obtain⟨lo,xI,ht⟩:=hT k (by omega);rw[List.range'_succ];have ihk:=ih (k+1) (by omega);simp only[Runs]
      cases hE:E k with
      | none =>
        have xX:ST (k+1)=ST k:=by
          cases ht with
          | skip hg h1 h2 h3=>exact h2
          | run hg hh hF yM =>
            have hho:lo.hoist≠none:=by
              intro hn;simp[E,xI,hg,hn]at hE
            rcases yH k ops[k] (by simp) with⟨p,_,q2⟩ | ⟨_,l,xs,args,g,_,_,_,q4⟩
            · rw [xI] at q2;injection q2 with q2;rw[q2]at hh;simp only[Ce,aop,LOp.loud,pop,List.map_cons,List.map_nil,opd,Bool.false_eq_true,if_false,Option.map_some,Oi,Pi_]at hh;exact hh.2.1.symm
            rw[xI]at q4;injection q4 with q4;rw[q4]at hho;exact absurd rfl hho
        rw[xX]at ihk;exact ihk
      | some e =>
        obtain⟨_,_,h3,_,h5⟩:=qY k lo e xI hE;exact⟨ST (k+1),h3,h5,ihk⟩
  refine wp_region_inv hm (fun i o ho=>(vF i o ho).1) (fun L a' w'=>∃ρ' S1,DInv P call ops slots nt env V E Z S S' w ρ a.defers L a' w' ρ' S1) ⟨ρ,ST 0,?_⟩ ?_ ?_
  · rw [t2];have xX:Stp w ρ S w.drew ρ ⟨S.heap++(Es P ops.toList).map D9,S.low⟩:=(stp_news hr _).trans (stp_drew w ρ _);refine⟨?_,xX,hf.1,rfl,fun t ht=>.inr ⟨fun k o _ h=>h.elim,(hf.2 t ht).mono xX⟩,?_,fun k o _ h=>h.elim,fun j o p hj _ hp=>?_⟩
    · exact⟨hr.inj,fun g b hb=>by
        obtain⟨o,ho,hk⟩:=hr.obj g b hb
        exact⟨o,by rw[La_ (lt_of_some ho)];exact ho,hk.mono xX rfl⟩,hr.hids xX,hr.globs xX⟩
    · have h0 := hruns0 ops.size 0 (by omega);rw[t2]at h0
      have:left ops.size (fun _=>False)=List.range' 0 ops.size:=by
        unfold left;rw[List.filter_eq_self.2 (fun k _=>notB_iff.2 (fun h=>h)),List.range_eq_range']
      rw[this];exact h0
    have hg:=rk_get hj hp;refine⟨?_,?_⟩
    · show (S.heap ++ (Es P ops.toList).map D9)[S.heap.length + rk P ops j]? = _;rw[Lr_ (by omega),Nat.add_sub_cancel_left,Lp_,hg];rfl
    cases hρ:ρ (S.heap.length+rk P ops j) with
    | none=>rfl
    | some b=>have:=hr.in hρ;omega
  · -- one operation
    rintro L i o a1 w1 ho hni hdown hdep ⟨ρ1,S1,hI⟩;have zi:=(Array.getElem?_eq_some_iff.1 ho).1;obtain⟨lo,xI,ht⟩:=hT i zi;have hdst:G5 nt o.dst=true:=hdin o (by rw[Array.mem_toList_iff];exact Array.mem_of_getElem? ho)
    have zL:∀d∈Mw ops i,G5 nt d=true:=by
      intro d hd;unfold Mw at hd;rw[List.mem_reverse,List.mem_map]at hd;obtain⟨o',ho',rfl⟩:=hd;exact hdin o' (List.mem_of_mem_take ho')
    obtain⟨pre,post,yX,yS,hpre⟩:=left_split zi hni;have rM:=hI.runs;rw[yX]at rM
    -- what the operation sees
    have hdown':Down ops (fun k=>L k∨k=i):=by
      intro k ok hk qJ e he hb;rcases qJ with qJ | rfl
      · exact .inl (hdown k ok hk qJ e he hb)
      rw[ho]at hk;injection hk with hk;subst hk;exact .inl (hdep e he hb)
    have hanc:∀k,k<i→ordered (Region.before ops).toList i k=true→L k:=fun k hk h=>((Rn hdown' h).1 hk (.inr rfl)).resolve_right (by omega);have hdesc:∀k,i<k→ordered (Region.before ops).toList i k=true→¬L k:=fun k hk h qJ=>hni ((Rn hdown h).2 hk qJ);have hbit:∀k,k<i→((Region.before ops).toList.getD i 0).testBit k=true→L k:=fun k hk h=>(Pv hdown' h (.inr rfl)).resolve_right (by omega)
    -- behind it
    have hput:∀(v:Value) (w2:World) (ρ2:Vo) (S2:St),Rel w2 ρ2 S2.heap→Stp w ρ S w2 ρ2 S2→Fwd w1 ρ1 S1.heap w2 ρ2 S2.heap→VR w2 ρ2 S2.heap (V i) v→Runs call E Z (pre++post) S2 S' →
        (∀j o p,ops[j]?=some o→¬L j→j≠i→Le P o=some p→S2.heap[S.heap.length+rk P ops j]?=some (D9 p)∧ρ2 (S.heap.length+rk P ops j)=none) →
        ∃ρ' S2,DInv P call ops slots nt env V E Z S S' w ρ a.defers (fun k=>L k∨k=i) (a1.put o.dst v) w2 ρ' S2:=by
      intro v w2 ρ2 S2 vo xX hfw wG xD hpend;refine⟨ρ2,S2,⟨vo,xX,?_,?_,fun t ht=>?_,by rw[yS];exact xD,fun k o' hk qJ=>qJ.elim (hI.real k o' hk) (fun e=>e▸⟨w2,ρ2,S2.heap,v,wG⟩),fun j oj p hj kL hp=>hpend j oj p hj (fun h=>kL (.inl h)) (fun h=>kL (.inr h)) hp⟩⟩
      · cases o.dst with
        | none=>exact hI.size
        | some d=>simpa [Act.put] using hI.size
      · cases o.dst with
        | none=>exact hI.defers
        | some d=>exact hI.defers
      by_cases e:o.dst=some t
      · refine .inl ⟨i, o, ho, .inr rfl, e, ?_⟩;have uV:t<a1.tmps.size:=by rw[hI.size];exact ht
        rw[e];simpa [Act.put,uV] using wG
      have yY:(a1.put o.dst v).tmps.getD t undef=a1.tmps.getD t undef:=by
        cases hd:o.dst with
        | none=>rfl
        | some d =>
          have xB:d≠t:=fun h=>e (by rw[hd,h]);simp only[Act.put,Array.getD_eq_getD_getElem?,Array.getElem?_setIfInBounds,if_neg xB]
      rw[yY];rcases hI.slot t ht with⟨k',o',hk',rH,hd',hvr'⟩ | ⟨qC,hvr'⟩
      · exact .inl ⟨k',o',hk',.inl rH,hd',hvr'.fwd hfw⟩
      refine .inr ⟨fun k o' hk qJ=>?_,hvr'.fwd hfw⟩;rcases qJ with qJ | rfl
      · exact qC k o' hk qJ
      rw[ho]at hk;injection hk with hk;subst hk;exact e
    rcases yH i o (by simpa using ho) with⟨p,hp,k4⟩ | ⟨hnn,l,xs,args,g,k1,k2,k3,k4⟩
    · -- a new variable
      obtain⟨⟨lo',vB,_⟩,hE,hV,_,_⟩:=rA i o p ho hp;obtain⟨n,yZ,vY,hz,hn,xg⟩:=newOf_some hp;obtain⟨hobj,yE⟩:=hI.pend i o p ho hni hp;obtain⟨v,w2,ob,xD,xJ,vo,wG⟩:=alloc_fill (P:=P) (S:=S1) (g:=S.heap.length+rk P ops i) hI.rel hz hn xg hobj yE;unfold wpOp;rw[ho];have hw:Region.wanted o (yielded ops a1.tmps)=true:=by simp[Region.wanted,vY]
      simp only[hw,if_true];left
      have hx:(execOp a1.eval o).run P w1=.ok (.value v) w2:=by
        have he:execOp a1.eval o=(do pure (.value (←Instr.alloc p.1 true (.tuple #[])))):=by simp[execOp,yZ]
        rw[he,Ag xD];rfl
      unfold Oper.wp;rw[hx];refine hput v w2 _ S1 vo (stp_fill hI.stp hI.rel xJ yE (by omega)) (fwd_fill hI.rel xJ yE) (by rw[hV];exact wG) (Runs.drop hE rM) fun j oj p' hj kL xB hp'=>?_;obtain⟨q1,q2⟩:=hI.pend j oj p' hj kL hp';refine⟨q1,?_⟩;simp only[upd];rw[if_neg (fun h=>xB (rk_inj hj hp' ho hp (by omega)))];exact q2
    rw[xI]at k4;injection k4 with k4;subst k4;simp only[List.append_nil]at k2 k3
    have hsee:∀t,t<nt→(∀k o',ops[k]?=some o'→o'.dst=some t→k≠i→ordered (Region.before ops).toList i k=true)→VR w1 ρ1 S1.heap (sig slots (Mw ops i) (Gu V i++tl) env t) (a1.tmps.getD t undef):=by
      intro t ht hord;rw[sig_tl (dstTo_len (Nat.le_of_lt zi)) (Mq V i)];rcases sig_to (slots:=slots) (V:=V) (env:=env) (hu t) i (Nat.le_of_lt zi) with⟨k,ok,hk,yM,hd,hsg⟩ | ⟨hn,hsg⟩
      · rw [hsg];have qJ:=hanc k hk (hord k ok yM hd (by omega));rcases hI.slot t ht with⟨k',o',hk',rH,hd',wG⟩ | ⟨qC,_⟩
        · have := hu t k k' ok o' yM hk' hd hd';subst this;exact wG
        exact absurd hd (qC k ok yM qJ)
      rw[hsg];rcases hI.slot t ht with⟨k',o',hk',rH,hd',wG⟩ | ⟨qC,wG⟩
      · exfalso;have hki:¬k'<i:=fun h=>hn k' o' h hk' hd';have xB:k'≠i:=fun e=>hni (e▸rH);exact hdesc k' (by omega) (hord k' o' hk' hd' xB) rH
      exact wG
    have zH:VL w1 ρ1 S1.heap (args.map (opd (Gu V i++tl) env)) (xs.map a1.eval):=by
      refine Vd (fun g row hg=>(hI.rel.glob g row (by rw[hI.stp.hid,hG];exact zQ g row hg)).1) hs zL k2 fun t hmem ht=>hsee t ht fun k o' hk hd xB=>?_;rcases ((vF i o ho).2 k o' t hk hd xB).2 with h | ⟨h,_⟩
      · exact h
      obtain⟨mt',k1⟩:=k1;exact absurd hmem (h mt' l xs k1)
    have rC : ∀ j b d b0, o.guard = some (j, b) → g = some (d, b0) → (∀ b', (Gu V i ++ tl).getD d .undef = .bool b' → yielded ops a1.tmps j = some b') ∧ ((Gu V i ++ tl).getD d .undef = .skip → yielded ops a1.tmps j = none) ∧ b0 = b := by
      intro j b d b0 vY hg;rw[vY]at k3;unfold Ht at k3;simp only at k3;split at k3
      · rename_i hj;split at k3
        · rename_i t qR;split at k3
          · rename_i zU;simp only[Oi]at k3;subst k3;simp only[Oi,Pi_]at hg;obtain⟨rfl,rfl⟩:=hg
            have xg:((ops.toList.take i).map (·.dst)).reverse.length=i:=by
              rw[List.length_reverse,List.length_map,List.length_take,Array.length_toList];omega
            rw[xg]at hj qR zU;have yO:j<ops.toList.length:=by rw[Array.length_toList];omega
            have kV:(ops[j]?).bind (·.dst)=some t:=by
              have h1:((ops.toList.take i).map (·.dst)).length=i:=by rw[List.length_map,List.length_take,Array.length_toList];omega
              rw[List.getD_eq_getElem?_getD,List.getElem?_reverse (by rw[h1];omega),h1,show i-1-(i-1-j)=j by omega]at qR;simp only[Lp_,List.getElem?_take]at qR;rw[if_pos hj,Lg yO]at qR;have h2:ops[j]?=some ops.toList[j]:=by simp
              rw[h2];simpa using qR
            have kC:t<nt:=by
              have:=zL _ (Lm (Je zU));simpa [G5] using this
            have hvis:=hsee t kC fun k o' hk hd xB=>by
              obtain⟨oj,hoj,hdj⟩:∃oj,ops[j]?=some oj∧oj.dst=some t:=by
                cases hx:ops[j]? with
                | none=>simp[hx]at kV
                | some oj=>exact⟨oj,rfl,by simpa [hx] using kV⟩
              rcases ((vF i o ho).2 k o' t hk hd xB).2 with h | ⟨_,h⟩
              · exact h
              exact absurd hdj (h j _ oj vY hoj)
            refine⟨fun b' hb'=>?_,fun hb'=>?_,rfl⟩
            · rw [xg] at hb';exact guard_ok (b:=b) kV zU zL hvis hI.size hb'
            rw[xg]at hb';exact guard_skip kV zU zL hvis hI.size hb'
          simp at k3
        simp at k3
      simp at k3
    cases ht with
    | skip hg h1 h2 h3 =>
      have hE:E i=none:=by simp only[E,xI,hg];simp
      have hw : Region.wanted o (yielded ops a1.tmps) = false := by
        cases vY:o.guard with
        | none=>rw[vY]at k3;simp only[Ht,Oi]at k3;subst k3;simp[onG]at hg
        | some jb =>
          obtain⟨j,b2⟩:=jb
          cases uw:g with
          | none=>simp[uw,onG]at hg
          | some db =>
            obtain⟨d,b⟩:=db;simp only[uw,onG]at hg;split at hg
            · rename_i b' hb';simp only[Oi]at hg;obtain⟨hy,_,rfl⟩:=rC j b2 d b vY uw;have hy:=hy b' hb';simp only[Region.wanted,vY,hy];simpa using hg
            · rename_i hb';obtain⟨_,hy,rfl⟩:=rC j b2 d b vY uw;have hy:=hy hb';simp only[Region.wanted,vY,hy];rfl
            simp at hg
      unfold wpOp;rw[ho];simp only[hw,Bool.false_eq_true,if_false];exact hput undef w1 ρ1 S1 hI.rel hI.stp (Stp.refl w1 ρ1 S1).fwd (by rw[h1];exact .skip) (Runs.drop hE rM) fun j oj p hj kL _ hp=>hI.pend j oj p hj kL hp
    | run hg hh hF yM =>
      have hw : Region.wanted o (yielded ops a1.tmps) = true := by
        cases vY:o.guard with
        | none=>simp[Region.wanted,vY]
        | some jb =>
          obtain⟨j,b2⟩:=jb
          cases uw:g with
          | none =>
            rw[vY,uw]at k3;unfold Ht at k3;simp only at k3;split at k3
            · split at k3
              · split at k3<;>simp at k3
              simp at k3
            simp at k3
          | some db =>
            obtain⟨d,b⟩:=db;simp only[uw,onG]at hg;split at hg
            · rename_i b' hb';simp only[Oi]at hg;obtain⟨hy,_,rfl⟩:=rC j b2 d b vY uw;have hy:=hy b' hb';simp only[Region.wanted,vY,hy];simpa using hg
            · simp at hg
            simp at hg
      have hE:E i=some ⟨l,args.map (opd (Gu V i++tl) env),V i,W i⟩:=by simp only[E,xI];rw[if_pos ⟨hg,trivial⟩]
      obtain⟨_,hFe,_,hokF,_⟩:=qY i _ _ xI hE;have hFh:(F i).hoist=none:=by rw[hFe];exact Q3 _ _ _ _
      have hpair:∀j,j<i→∃b,(b=true→L j)∧Aj b (F j) (F i)=true:=by
        intro j hj;obtain⟨b,h1,h2⟩:=okFP_get hokF (i-1-j) (F j) (by rw[J9 F i _ (by omega)];congr 2;omega);refine⟨b,fun hb=>hbit j hj ?_,h2⟩;have h3:=J9 (fun k=>((Region.before ops).toList.getD i 0).testBit k) i (i-1-j) (by omega);have h4:(Qr (Region.before ops).toList i)[i-1-j]?=some (((Region.before ops).toList.getD i 0).testBit (i-1-(i-1-j))):=h3;rw[h4,show i-1-(i-1-j)=j by omega]at h1;injection h1 with h1;rw[h1];exact hb
      obtain⟨S2,r1,r2,r3⟩:=Runs.front y7 hE rM (fun j hj e' he'=>by
        obtain⟨hji,hnL⟩:=hpre j hj;obtain⟨lo',vB,_⟩:=hT j (by omega);obtain⟨_,hFj,_,_,_⟩:=qY j lo' e' vB he';obtain⟨b,h1,h2⟩:=hpair j hji;have hFjh:(F j).hoist=none:=by rw[hFj];exact Q3 _ _ _ _
        simp only[Aj,hFh,hFjh,Bool.or_eq_true]at h2;rcases h2 with h2 | h2
        · exact absurd (h1 h2) hnL
        rw[hFj,hFe]at h2;exact h2)
      unfold wpOp;rw[ho];simp only[hw,if_true];left
      have xR:FA ops slots nt env a.defers a1 w1 ρ1 S1.heap:=⟨hI.size,hI.defers,fun t ht hn=>by
        rcases hI.slot t ht with⟨k',o',hk',_,hd',_⟩ | ⟨_,h⟩
        · exact absurd hd' (hn k' o' hk')
        exact h⟩
      refine exOp_okQ (fun f ds r S' wr vs h hv=>xO f ds S1 r S' wr a1 w1 ρ1 vs h (by rw[hI.stp.hid];exact hG) hI.rel hv hI.stp xR) k1.choose_spec zH hI.rel r1 ?_;rintro v w2 ⟨ρ2,q1,q2,q3,_⟩;refine hput v w2 ρ2 S2 q1 (hI.stp.trans q2) q2.fwd q3 r3 fun j oj p hj kL xB hp=>?_;obtain⟨p1,p2⟩:=hI.pend j oj p hj kL hp;obtain⟨_,_,_,hFjh,hokj⟩:=rA j oj p hj hp
      have yY:S2.heap[S.heap.length+rk P ops j]?=some (D9 p):=by
        cases hwr:(F i).writes with
        | none =>
          rw[hFe]at hwr;refine r2 hwr _ p (rk_get hj hp) fun hd=>?_;obtain⟨d,f,d1,d2,d3⟩:=Q6 hd;have hdl:d<i:=by have:=lt_of_some d2;rw[Mq]at this;exact this
          rw[J9 F i d hdl]at d2;injection d2 with d2;subst d2;have d4:(Qr (Region.before ops).toList i)[d]?=some (((Region.before ops).toList.getD i 0).testBit (i-1-d)):=J9 (fun k=>((Region.before ops).toList.getD i 0).testBit k) i d hdl;rw[d4]at d1;injection d1 with d1;have hLd:=hbit (i-1-d) (by omega) d1;obtain⟨lo',vB,ht'⟩:=hT (i-1-d) (by omega);have hod:ops[i-1-d]?=some ops[i-1-d]:=Array.getElem?_eq_getElem (by omega)
          cases hpd:Le P ops[i-1-d] with
          | some p' =>
            obtain⟨_,_,_,hh',_⟩:=rA (i-1-d) _ p' hod hpd;rw[hh']at d3;injection d3 with d3;have:=rk_inj hod hpd hj hp (by omega);exact kL (this▸hLd)
          | none =>
            have hnh:(F (i-1-d)).hoist=none:=by
              rcases yH (i-1-d) ops[i-1-d] (by simp) with⟨p',q1',_⟩ | ⟨_,l',xs',args',g',_,_,_,q4'⟩
              · rw[hpd]at q1';cases q1'
              rw[vB]at q4';injection q4' with q4'
              cases ht' with
              | skip hg' h1' h2' h3'=>rw[h3'];rfl
              | run hg' hh' hF' hok'=>rw[hF',q4'];exact Q3 _ _ _ _
            rw[hnh]at d3;cases d3
        | some Wr =>
          have vG:Aq (S.heap.length+rk P ops j) (F i).writes=true:=by
            rcases Nat.lt_trichotomy j i with h | h | h
            · obtain ⟨b, h1, h2⟩ := hpair j h;simp only[Aj,hFjh,hFh,Bool.or_eq_true]at h2;rcases h2 with h2 | h2
              · exact absurd (h1 h2) kL
              exact h2
            · exact absurd h xB
            obtain⟨b,h1,h2⟩:=okFP_get hokj (j-1-i) (F i) (by rw[J9 F j _ (by omega)];congr 2;omega);simp only[Aj,hFjh,hFh]at h2;exact h2
          rw[hwr]at vG;have vG:S.heap.length+rk P ops j∉Wr:=by simpa [Aq] using vG
          rw[←p1];rcases K7 r1 with⟨R,W',eff,_,hw',rfl,zD,_⟩ | xA
          · have : W' = Wr := by
              rw[hFe]at hwr;have hw2:(Ev.fp ⟨l,args.map (opd (Gu V i++tl) env),V i,W i⟩).writes=some W':=hw';rw[hw2]at hwr;injection hwr
            subst this;exact app_get zD vG
          rw[hFe]at hwr;have hall':Ev.fp ⟨l,args.map (opd (Gu V i++tl) env),V i,W i⟩=Ba (W i):=xA;rw[hall']at hwr
          cases hWi:W i with
          | true=>rw[hWi]at hwr;cases hwr
          | false =>
            simp only[hWi]at r1;rw[Nt y7 r1]
      refine⟨yY,?_⟩;obtain⟨o',ho',_,_,hv'⟩:=q2.obj _ _ p1;rw[yY]at ho';injection ho' with ho';subst ho';rw[(hv' rfl).1];exact p2
  -- the end
  rintro L a1 w1 xA ⟨ρ1,S1,hI⟩
  have hSt:S'=S1:=by
    have h:=hI.runs
    have:left ops.size L=[]:=by
      unfold left;rw[List.filter_eq_nil_iff];intro k hk;rw[notB_iff];exact fun h=>h (xA k (List.mem_range.1 hk))
    rw[this]at h;exact h
  subst hSt;have hslot:=hI.slot
  refine hQ a1 w1 ρ1 hI.rel hI.stp ⟨hI.size,fun t ht=>?_⟩ hI.defers (fun d hd=>by
    rw[t4,List.getD_eq_getElem?_getD,La_ (by rw[Mq];exact hd),J9 V _ _ hd];have hi:ops.size-1-d<ops.size:=by omega
    exact hI.real _ _ (Array.getElem?_eq_getElem hi) (xA _ hi))
  have hde:dstsOf ops.toList=Mw ops ops.size:=by unfold dstsOf Mw;rw[List.take_of_length_le (by simp)]
  rw[hde,t4,sig_tl (dstTo_len (Nat.le_refl _)) (Mq V _)];rcases sig_to (slots:=slots) (V:=V) (env:=env) (hu t) ops.size (Nat.le_refl _) with⟨k,ok,hk,yM,hd,hsg⟩ | ⟨hn,hsg⟩
  · rw [hsg];rcases hslot t ht with⟨k',o',hk',rH,hd',wG⟩ | ⟨qC,_⟩
    · have := hu t k k' ok o' yM hk' hd hd';subst this;exact wG
    exact absurd hd (qC k ok yM (xA k hk))
  rw[hsg];rcases hslot t ht with⟨k',o',hk',rH,hd',wG⟩ | ⟨qC,wG⟩
  · exact absurd hd' (hn k' o' (Array.getElem?_eq_some_iff.1 hk').1 hk')
  exact wG
theorem draw_ok{G:Nat→Option (List D)}(zQ:∀g row,kd.glob g=some row→G g=some row)(hm:P.follows .mixedOrders=true)(xO:Im P G call)(y7:Er call){S S':St}{vals':List D}{los:List Vk}{w:World}{ρ:Vo}{a:Act}{id:Nat}(hs:slots.all (·<nt)=true)(hdraw:drawOk P kd ops (Region.before ops).toList=true)
  (x9:O9 P kd nt slots (Region.before ops).toList (Es P ops.toList).length ops.toList [] 0=some los) (yg:Js call S.heap.length (Es P ops.toList) los [] (Ci S.heap.length (Es P ops.toList).length) env ⟨S.heap++(Es P ops.toList).map D9,S.low⟩=some (vals',S')) (hr:Rel w ρ S.heap) (hG:ρ.X.G=G) (hf:FR w ρ S.heap nt (sig slots [] [] env) a)
  (hQ:∀a' w' ρ',Rel w' ρ' S'.heap→Stp w ρ S w' ρ' S'→FR w' ρ' S'.heap nt (sig slots (dstsOf ops.toList) vals' env) a'→a'.defers=a.defers→Q .normal a' w'):(Code.region id ops true).wp P Q a w :=
 draw_okQ zQ hm y7 hs hdraw x9 yg hr hG hf (fun f ds S1 r S2 wr a1 w1 ρ1 vs h hG hr hv _ _=>let ⟨h1,h2⟩:=xO f ds S1 r S2 wr h w1 ρ1 vs hG hr hv;⟨h1,h2.mono fun e w' h=>.inl h⟩) fun a' w' ρ' h1 h2 h3 h4 _=>hQ a' w' ρ' h1 h2 h3 h4
end
end Go.Proofs.YtkaedpmmopigkaaGreatDoor
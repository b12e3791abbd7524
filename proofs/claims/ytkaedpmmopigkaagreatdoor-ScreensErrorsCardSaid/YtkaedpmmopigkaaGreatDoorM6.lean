/- Proved here: parts of the proof, joined (K29, K30, K31, K32, K33, K34, K35, K36, K37, K38, K39, K40, K41, ScP): an abstract machine, its soundness, what functions of the program compute in it; no condition. -/
import Derived.Test.YtkaedpmmopigkaaGreatDoorTie
import Derived.WalkKit
import Derived.ProofKit
import Derived.OpenShut
import Derived.ShutString
import Derived.ChangeOld
import Derived.Below
import Derived.LaidMore
import Derived.Lay
import Derived.SevenTiedAt
import Derived.Stop.Joined
import Derived.Test.YtkaedpmmopigkaaGreatDoorM5
namespace Go.Proofs.YtkaedpmmopigkaaGreatDoor
set_option linter.unusedSimpArgs false
set_option linter.unusedVariables false
set_option maxRecDepth 100000
set_option maxHeartbeats 4000000

theorem SrcF.mono {H : List Sk} {x : D} {rows : List (List D)} {gs v : Nat} (h : SrcF H x rows gs v) (l : List Sk) : SrcF (H ++ l) x rows gs v :=
 ⟨h.len,h.cell,fun m l'=>by rw [Lo_]; exact h.snap m _,h.fpi,fun l' lo i hi=>by rw [Lo_]; exact h.ia _ lo i hi,fun l' lo i r hr h16=>by rw [Lo_]; exact h.ld _ lo i r hr h16⟩
abbrev sbO (nm : ByteArray) (x : D) (p0 c0 : Nat) : Sk:=⟨36,4,[[.str nm,x,.int .i64 (p0 : Nat),.int .i64 (c0 : Nat)]],0,0,false⟩

theorem show_run {d : Nat} (hd : 24 ≤ d) {H : List Sk} {x xv : D} {rows : List (List D)} {vals : List D} {gs v gv vv : Nat} {P : List (FM × List UInt8)} (hS : SrcF H x rows gs v) (hR : RW (P.map (·.1)) rows) (hv : SrcV H xv vals gv vv) (hlen : P.length ≤ 256) (hvl : vals.length = P.length) (hfit : ∀ (i : Nat) (p : FM × List UInt8) (w : D),P[i]? = some p→vals[i]? = some w→Fits H p.1 p.2 w) (nm : ByteArray) (p0 c0 : Nat) (lo : Nat) :
  Bf LP NN d 20 [.agg [.str nm,x,.int .i64 (p0 : Nat),.int .i64 (c0 : Nat)],xv] ⟨H,lo⟩ = some (.tup [.sl 1 (G8 (Ea P) 24) (some 24),.int .i64 0],⟨H,lo⟩,false):=by
 have hvz : ∀ m,Go.Proofs.YtkaedpmmopigkaaGreatDoor.Sw m H xv = some xv:=fun m=>by have:=hv.Sw m []; rwa [List.append_nil] at this
 have hrl:=hR.len
 rw [List.length_map] at hrl
 have hE : (((vals.length : Nat) : Int) != ((rows.length : Nat) : Int)) = false:=by rw [hvl,hrl,bne_self_eq_false]
 have hchk : ∀ d',d = d' + 1→∀ l lo,Bf LP NN d' 13 [.agg [.str nm,x,.int .i64 (p0 : Nat),.int .i64 (c0 : Nat)]] ⟨H ++ l,lo⟩ = some (.int .i64 0,⟨H ++ l,lo⟩,false):=fun d' e l lo=>Nj (l0:=P.map (·.1)) (by omega) (hS.mono l) hR (by rw [List.length_map]; omega) nm p0 c0 lo
 refine Dl (F:=F20) rfl (by simp only [LP,Ar,Bw,zs,zm,hS.zero,hvz]<;>exact rfl) rfl (by simp only [LP,zf,zm]; try rfl) (by simp only [F20,zv]<;>exact rfl) (by omega) ?_
 rintro d rfl
 refine Ad (Ab (by simp only [zl,zm,zc,hS.cell]<;>exact rfl) ?_)
 refine Bj (Bj ?_)
 refine Aa (Af ?_)
 refine Aj (Ad ?_)
 refine xo5 ?_
 refine Ab (by simp only [zo]; exact hchk d rfl _ _) ?_
 refine Ag rfl (Aa ?_)
 refine Af ?_
 refine Ad (Ae rfl ?_)
 refine xo2 ?_
 refine Aa (Af ?_)
 skip
 refine Cq ?_
 refine Ap (Bt rfl (Aj (Ad ?_)))
 refine Ae rfl (Ab (by simp only [zo,hv.len]<;>exact rfl) ?_)
 refine xo0 ?_
 refine xo5 ?_
 refine Ab (by simp only [zo,hS.len]<;>exact rfl) ?_
 refine Ab (by simp only [zo,Bo,hE]<;>exact rfl) ?_
 refine Aa (Af ?_)
 skip
 refine Cq ?_
 refine Ap (Bt rfl (Ad ?_))
 refine Ab (by simp only [zl,zm,Int.reduceToNat]<;>exact rfl) ?_
 refine Ag rfl (Aa ?_)
 refine Af ?_
 refine Aj (Ad ?_)
 refine Ae rfl (Lc ?_)
 refine Bj (Aa ?_)
 refine Af ?_
 refine Av ?_
 refine D5 (fun n env S'=>∃ (i : Nat) (u7 u20 : D),i ≤ 24∧n = 24 - i∧S' = ⟨H ++ (sbO nm x p0 c0 :: GLi H.length i :: LNi G0 i),H.length⟩∧env = [.agg [.str nm,x,.int .i64 (p0 : Nat),.int .i64 (c0 : Nat)],xv,.ptr H.length 0 0 0,.Tk,.int .i64 0,.int .i64 0,.msl (H.length + 1) 0 0 24 none,u7,.undef,.undef,.undef,.undef,.undef,.undef,.undef,.undef,.bool false,.bool false,.int .i64 24,.int .i64 (i : Nat),u20,.undef,.undef,.undef,.undef,.undef,.undef,.undef,.undef,.undef,.undef,.undef,.undef,.undef,.undef,.undef]) (24) (by omega) (⟨0,_,_,by omega,by omega,rfl,rfl⟩) ?_
 rintro n env S' ⟨i,u7,u20,hi,hnk,rfl,rfl⟩
 refine Ad (xo2 ?_)
 refine Aa (Af ?_)
 refine Aj ?_
 refine Cm (by simp only [opd,zv]<;>exact rfl) (fun hcA=>?_) (fun hcA=>?_)
 ·
  have hlt : i < 24:=by have:=of_decide_eq_true hcA; omega
  have hw:=Du i (by omega)
  have hga:=(Hq (n0:=H.length) (i:=i) hlt).trans (by rw [if_neg (by omega)])
  have hgs:=glRows_set (n0:=H.length) hlt
  have hgl:=Kv H.length i
  have h0 : (0 : Int) ≤ (i : Int):=by omega
  have h24 : (i : Int) < ((24 : Nat) : Int):=by omega
  have hll:=Je G0 i
  have hb32 : (H ++ (sbO nm x p0 c0 :: GLi H.length i :: (LNi G0 i ++ [⟨5,1,[[.int .u8 32]],0,2,false⟩])))[H.length + (2 * i + 1 + 1)]? = some ⟨5,1,[[.int .u8 32]],0,2,false⟩:=by
   rw [Bu,Ls_,Ls_,Lr_ (by rw [hll]; omega),hll]; simp
  have hrep:=fun lo=>repeat_run (d:=d) (by omega) hb32 lo
  have hlen : (H ++ (sbO nm x p0 c0 :: GLi H.length i :: (LNi G0 i ++ [⟨5,1,[[.int .u8 32]],0,2,false⟩]))).length = H.length + (3 + 2 * i):=by
   simp [hll]; omega
  have hmin : min H.length (H.length + (3 + 2 * i)) = H.length:=by omega
  have hLN : LNi G0 (i + 1) = LNi G0 i ++ [⟨5,1,[[.int .u8 32]],0,2,false⟩,⟨5,1,spR 80,0,2,true⟩]:=by rw [Py,spR_blank i]; rfl
  rw [hlen] at hrep
  refine Ap (Bt rfl (Aj (Av (Ad ?_))))
  refine Ae rfl (Ag rfl ?_)
  refine Aa (Af ?_)
  refine Bc (Ae rfl ?_)
  refine Ae rfl (Ab (by simp only [zl,zm,Cw,List.replicate,Ar,zs,zc,zf,hll,GLi]<;>exact rfl) ?_)
  refine Ab (by simp only [zo]; exact (hrep _)) ?_
  refine Ab (by simp only [zl,zm,Cj,Int.toNat_natCast,h0,h24,GLi,hmin]<;>exact rfl) ?_
  refine Ab (by simp only [zl,zm,Bq,overlay,zs,zc,zf,List.take,List.drop,hga,hgs,hll]<;>exact rfl) ?_
  refine Aa (Eh ?_)
  refine Af ?_
  refine Bc (Ab (by simp only [zo,Bo,hw]<;>exact rfl) ?_)
  refine Ag rfl (Aa ?_)
  refine Gr (by simp only [ze]<;>exact rfl) ?_
  exact ⟨24 - (i + 1),by omega,i + 1,_,_,by omega,rfl,by rw [hLN]; rfl,rfl⟩
 ·
  have hi' : i = 24:=by have:=of_decide_eq_false hcA; omega
  subst hi'
  refine Dq (H6 (Iz (Ig (Bt rfl (Aj (Ad ?_))))))
  refine xo0 ?_
  refine xo5 ?_
  refine Ab (by simp only [zo,hS.len]<;>exact rfl) ?_
  refine Bj (Aa ?_)
  refine Af ?_
  refine Av ?_
  refine D5 (fun n env S'=>∃ (i : Nat) (t : List Sk) (u7 u8 u9 u10 u11 u12 u19 u20 u24 u25 u26 u27 u28 u29 u30 u31 : D),i ≤ P.length∧n = P.length - i∧S' = ⟨H ++ (HB (sbO nm x p0 c0) H.length (Ea (P.take i)) ++ t),H.length⟩∧env = [.agg [.str nm,x,.int .i64 (p0 : Nat),.int .i64 (c0 : Nat)],xv,.ptr H.length 0 0 0,.Tk,.int .i64 0,.int .i64 0,.msl (H.length + 1) 0 0 24 none,u7,u8,u9,u10,u11,u12,.undef,.undef,.undef,.bool false,.bool false,.int .i64 24,u19,u20,x,.int .i64 rows.length,.int .i64 (i : Nat),u24,u25,u26,u27,u28,u29,u30,u31,.undef,.undef,.undef,.undef]) (P.length) (by omega) (⟨0,[],_,_,_,_,_,_,_,_,_,_,_,_,_,_,_,_,by omega,by omega,by rw [List.append_nil,List.take_zero]; rfl,rfl⟩) ?_
  rintro n env S' ⟨i,t,u7,u8,u9,u10,u11,u12,u19,u20,u24,u25,u26,u27,u28,u29,u30,u31,hi,hnk,rfl,rfl⟩
  refine Ad (xo2 ?_)
  refine Aa (Af ?_)
  refine Aj ?_
  refine Cm (by simp only [opd,zv]<;>exact rfl) (fun hcAFB=>?_) (fun hcAFB=>?_)
  ·
   have hlt : i < P.length:=by have:=of_decide_eq_true hcAFB; omega
   have hw:=Du i (by omega)
   obtain ⟨f,bs,hPe⟩ : ∃ f bs,P[i] = (f,bs):=⟨_,_,rfl⟩
   have hPi : P[i]? = some (f,bs):=by rw [Lg hlt,hPe]
   obtain ⟨w,hwi⟩ : ∃ w,vals[i]? = some w:=⟨_,Lg (by omega)⟩
   obtain ⟨hbl,hbf⟩:=hfit i _ w hPi hwi
   simp only at hbl hbf
   have hltr : i < rows.length:=by omega
   have hia:=fun l lo=>hS.ia l lo i hltr
   have hiv:=fun l lo=>hv.ia l lo i (by omega)
   have hlv:=fun l lo=>hv.ld l lo i w hwi
   obtain ⟨p,hrow⟩:=hR.at_ (i:=i) (by rw [List.length_map]; exact hlt)
   have hfe : (P.map (·.1))[i]'(by rw [List.length_map]; exact hlt) = f:=by rw [List.getElem_map,hPe]
   rw [hfe] at hrow
   have hld:=fun (l : List Sk) lo=>hS.ld l lo i _ hrow (by rw [Jo]; exact Nat.le_refl _)
   rw [Jn] at hld
   obtain ⟨tx,op,nu,r1,r2,hrf,htx,hop,hk1,hk2⟩:=Ho f p
   rw [hrf] at hld
   obtain ⟨G,hG⟩ : ∃ G,G = Ea (P.take i):=⟨_,rfl⟩
   rw [← hG]
   have hsz:=f.size_le
   have hkd:=f.kind_le
   have hnw:=fun G o m=>HB_new H (sbO nm x p0 c0) G t o m
   have hns:=fun G o y m=>HB_newS H (sbO nm x p0 c0) G t o y m
   have hBl:=fun G=>Ms (sbO nm x p0 c0) H.length G
   have hsbo:=fun G t=>HB_sb H (sbO nm x p0 c0) G t
   by_cases hk1' : f.kind = 1
   ·
    obtain ⟨rfl,rfl,rfl,rfl⟩:=hk1 hk1'
    rw [if_pos hk1'] at hbf
    have e1 : (((f.kind : Nat) : Int) == 1) = true:=by rw [beq_iff_eq]; omega
    have hb : RdB H (.sl 1 (Be f.text) none) bs:=by rw [hbf]; exact SlD.rdb (.of _ _ _) H
    have hbl2 : (Be f.text).length = f.size:=by rw [Fw,Gv]
    refine Ap (Bt rfl (Aj (Av (Ad ?_))))
    refine Ae rfl (Ab (by simp only [zl,zm,hia]<;>exact rfl) ?_)
    refine Ab (by simp only [zl,zm,hld]<;>exact rfl) ?_
    refine Ab (by simp only [zl,zm,hBl]<;>exact rfl) ?_
    refine Ag rfl (Ab (by simp only [zl,zm,Bq,overlay,Bw,zs,zc,zf,List.take,List.drop,hnw,hns,hBl,htx.Tc,hop.Tc]<;>exact rfl) ?_)
    refine Aa (Af ?_)
    refine Ad (Ae rfl ?_)
    refine Ae rfl (Ab (by simp only [zl,zm,hiv]<;>exact rfl) ?_)
    refine Ab (by simp only [zl,zm,hlv]<;>exact rfl) ?_
    refine Ag rfl (Aa ?_)
    refine Af ?_
    refine Aj (Ad ?_)
    refine xo0 ?_
    refine Ab (by simp only [zl,zm,zd,Ay,List.take,List.drop,hnw]<;>exact rfl) ?_
    refine Ab (by simp only [zo,Bo,e1]<;>exact rfl) ?_
    refine Aa (Af ?_)
    skip
    refine E9 ?_
    refine Bc (xo0 ?_)
    refine Ab (by simp only [zl,zm,zd,Ay,List.take,List.drop,hnw]<;>exact rfl) ?_
    refine Ag rfl (Aa ?_)
    refine Af ?_
    refine Aj (Ad ?_)
    refine Ae rfl (Ab (by simp only [zo,O6,hbl2]<;>exact rfl) ?_)
    refine xo0 ?_
    refine xo0 ?_
    refine Ab (by simp only [zl,zm,zd,Ay,List.take,List.drop,hnw]<;>exact rfl) ?_
    refine Ab (by simp only [zo,Bo,bne_self_eq_false]<;>exact rfl) ?_
    refine Aa (Af ?_)
    skip
    refine Cq ?_
    refine Ap (Bt rfl (Ad ?_))
    refine Ae rfl (Ab (by simp only [zo,O6,hbl2]<;>exact rfl) ?_)
    refine Bj (Aa ?_)
    refine Af ?_
    refine Av ?_
    refine D5 (fun n env S'=>∃ (k : Nat) (t2 : List Sk) (v11 v12 v30 v31 : D),k ≤ f.size∧n = f.size - k∧S' = ⟨H ++ (HB (sbO nm x p0 c0) H.length (Ep G f bs k) ++ (t ++ FO [.int .i64 (f.line : Nat),.int .i64 (f.column : Nat),.int .u8 (f.kind : Nat),.sl 1 (Be f.text) none,.int .u8 (if false then (if f.size = 1 then 4 else 5) else 2),.int .u8 0,.str (Dz false f.size),.int .i64 (if false then (f.size : Nat) else 0),.int .i64 0,.bool false,.bool false,.bool false,.bool false,.bool false,.int .i64 (f.size : Nat),.Tk] :: t2)),H.length⟩∧env = [.agg [.str nm,x,.int .i64 (p0 : Nat),.int .i64 (c0 : Nat)],xv,.ptr H.length 0 0 0,.Tk,.int .i64 0,.int .i64 0,.msl (H.length + 1) 0 0 24 none,u7,.int .i64 (i : Nat),.ptr (H.length + (50 + t.length)) 0 0 0,(.sl 1 (Be f.text) none),v11,v12,.undef,.undef,.undef,.bool false,.bool false,.int .i64 24,u19,u20,x,.int .i64 rows.length,.int .i64 (i : Nat),.bool (decide (((i : Nat) : Int) < ((rows.length : Nat) : Int))),.bool true,.bool false,(.sl 1 (Be f.text) none),.int .i64 (f.size : Nat),.int .i64 (k : Nat),v30,v31,.undef,.undef,.undef,.undef]) (f.size) (by omega) (⟨0,[],_,_,_,_,by omega,by omega,by rw [paintK_0]; rfl,rfl⟩) ?_
    rintro n env S' ⟨k,t2,v11,v12,v30,v31,hk,hnk2,rfl,rfl⟩
    refine Ad (Ab (by simp only [zo,Bo,FO]<;>exact rfl) ?_)
    refine Aa (Af ?_)
    refine Aj ?_
    refine Cm (by simp only [opd,zv]<;>exact rfl) (fun hcAFBT1C=>?_) (fun hcAFBT1C=>?_)
    ·
     have hkl : k < f.size:=by have:=of_decide_eq_true hcAFBT1C; omega
     have hwk:=Du k (by omega)
     have hbk : bs[k]? = some (bs[k]'(by omega)):=Lg _
     obtain ⟨c,hc⟩ : ∃ c,c = bs[k]'(by omega):=⟨_,rfl⟩
     rw [← hc] at hbk
     obtain ⟨A,hA⟩:=hb.rd k c hbk
     have hiab:=fun l lo=>(hA l lo).1
     have hlab:=fun l lo=>(hA l lo).2
     have hln:=f.line_le
     have hcn:=f.column_le
     have hwl : IntKind.i64.wrap (((f.line : Nat) : Int) - 1) = ((f.line - 1 : Nat) : Int):=by rw [IntKind.wrap_i64]; omega
     have hwc : IntKind.i64.wrap (((f.column : Nat) : Int) - 1) = ((f.column - 1 : Nat) : Int):=by rw [IntKind.wrap_i64]; omega
     have hwa : IntKind.i64.wrap (((f.column - 1 : Nat) : Int) + ((k : Nat) : Int)) = ((f.column - 1 + k : Nat) : Int):=by rw [IntKind.wrap_i64]; omega
     have hr24 : f.line - 1 < 24:=by omega
     have hc80 : f.column - 1 + k < 80:=by omega
     have hgl:=fun G t=>HB_gl H (sbO nm x p0 c0) G t
     have hgr:=(Hq (n0:=H.length) (i:=24) hr24).trans (by rw [if_pos hr24])
     have hgn:=fun G t=>HB_ln H (sbO nm x p0 c0) G t hr24
     have hnw2 : ∀ (G : Il) (fo o : Sk),(H ++ (HB (sbO nm x p0 c0) H.length G ++ (t ++ fo :: (t2 ++ [o]))))[H.length + (50 + (t.length + (t2.length + 1)))]? = some o:=fun G fo o=>by
      have:=HB_new H (sbO nm x p0 c0) G (t ++ fo :: t2) o []
      simpa using this
     have hbo : bytesOf [[D.int .u8 (c.toNat : Nat)]] = some [c]:=by simp [bytesOf]
     have hp:=fun S=>prn_run (d:=d) (by omega) S c
     have hcc : UInt8.ofNat (((c.toNat : Nat) : Int)).toNat = c:=by simp
     have hp2 : ∀ S,Bf LP NN d 46 [.str ⟨#[UInt8.ofNat (((c.toNat : Nat) : Int)).toNat]⟩] S = some (.bool (decide (32 ≤ c.toNat) && decide (c.toNat ≤ 126)),S,false):=fun S=>by rw [hcc]; exact hp S
     have hold:=bR_at (Lg (l:=Eo (Ep G f bs k) (f.line - 1)) (i:=f.column - 1 + k) (by rw [M9]; exact hc80))
     have hst : ∀ (v : UInt8) m,v = prn c→(H ++ (HB (sbO nm x p0 c0) H.length (Ep G f bs k) ++ m)).set (H.length + (3 + 2 * (f.line - 1))) ⟨5,1,(bR (Eo (Ep G f bs k) (f.line - 1))).set (f.column - 1 + k) [.int .u8 (v.toNat : Nat)],0,2,true⟩ = H ++ (HB (sbO nm x p0 c0) H.length (Ep G f bs (k + 1)) ++ m):=fun v m e=>by
      subst e
      rw [bR_set]
      refine HB_set H _ (Ep G f bs k) m hr24 fun j=>?_
      rw [Q8 G f bs hkl j]
      have : bs.getD k 0 = c:=by rw [List.getD_eq_getElem?_getD,hbk]; rfl
      rw [this]
      split
      ·
       rename_i e; rw [e]
      ·
       rfl
     have z1 : (0 : Int) ≤ ((f.line - 1 : Nat) : Int):=by omega
     have z2 : ((f.line - 1 : Nat) : Int) < ((24 : Nat) : Int):=by omega
     have z3 : (0 : Int) ≤ ((f.column - 1 + k : Nat) : Int):=by omega
     have z4 : ((f.column - 1 + k : Nat) : Int) < ((80 : Nat) : Int):=by omega
     refine Ap (Bt rfl (Aj (Av (Ad ?_))))
     refine Ae rfl (Ab (by simp only [zl,zm,hiab]<;>exact rfl) ?_)
     refine Ab (by simp only [zl,zm,hlab]<;>exact rfl) ?_
     refine Ag rfl (Ag rfl ?_)
     refine Aa (Af ?_)
     refine Aj (Ad ?_)
     refine Ae rfl (Ab (by simp only [zl,zm,Cw,List.replicate,Ar,zs,zc,zf,hBl]<;>exact rfl) ?_)
     refine Ab (by simp only [zl,zm,Iu,hnw2]<;>exact rfl) ?_
     first
      | refine Ab (by simp only [zo]; exact hp _) ?_
      | refine Ab (by simp only [zo]; exact hp2 _) ?_
     refine xo9 ?_
     refine Aa (Af ?_)
     refine Cm (by simp only [opd,zv]<;>exact rfl) (fun hcAFBT1CT=>?_) (fun hcAFBT1CT=>?_)
     ·
      have hv46 : (46 : UInt8) = prn c:=by
       have h:=hcAFBT1CT
       unfold prn
       rw [if_neg (by intro h2; rw [h2] at h; cases h)]
      have hst2:=fun m=>hst 46 m hv46
      simp only [show ((((46 : UInt8).toNat : Nat) : Int)) = 46 from rfl] at hst2
      have hst3:=fun m=>List.append_cancel_left ((Et H _ _ _).symm.trans (hst2 m))
      refine Bc (Bj ?_)
      refine Aa (Af ?_)
      refine Ez ?_
      refine Cc rfl rfl (xo3 rfl rfl ?_)
      refine Cr (by simp only [zl,zm,zd,Ay,List.take,List.drop,hnw]<;>exact rfl) rfl ?_
      refine Ce (by simp only [zo,Bo,hwl]<;>exact rfl) rfl rfl ?_
      refine Cr (by simp only [zl,zm,Cj,Int.toNat_natCast,hgl,z1,z2,GLi]<;>exact rfl) rfl ?_
      refine Cr (by simp only [zl,zm,zd,Ay,List.take,List.drop,hgl,hgr,GLi]<;>exact rfl) rfl ?_
      refine xo3 rfl rfl ?_
      refine Cr (by simp only [zl,zm,zd,Ay,List.take,List.drop,hnw]<;>exact rfl) rfl ?_
      refine Ce (by simp only [zo,Bo,hwc]<;>exact rfl) rfl rfl ?_
      refine Cc rfl rfl (Ce (by simp only [zo,Bo,hwa]<;>exact rfl) rfl rfl ?_)
      refine Cc rfl rfl (Cr (by simp only [zl,zm,Cj,Int.toNat_natCast,hgn,z3,z4,lnO]<;>exact rfl) rfl ?_)
      refine Cr (by simp only [zl,zm,Bq,overlay,zs,List.take,hBl,hgn,hold,lnO]<;>exact rfl) rfl ?_
      refine De (Eh ?_)
      refine Af ?_
      refine Bc (Ab (by simp only [zo,Bo,hwk]<;>exact rfl) ?_)
      refine Ag rfl (Aa ?_)
      refine Gr (by simp only [ze]<;>exact rfl) ?_
      exact ⟨f.size - (k + 1),by omega,k + 1,_,_,_,_,_,by omega,rfl,by rw [← hst3]; rfl,rfl⟩
     ·
      have hvc : c = prn c:=by
       have h:=hcAFBT1CT
       unfold prn
       rw [if_pos (by simpa using h)]
      have hst2:=fun m=>hst c m hvc
      have hst3:=fun m=>List.append_cancel_left ((Et H _ _ _).symm.trans (hst2 m))
      refine Ap (Bt rfl ?_)
      refine Ez ?_
      refine Cc rfl rfl (xo3 rfl rfl ?_)
      refine Cr (by simp only [zl,zm,zd,Ay,List.take,List.drop,hnw]<;>exact rfl) rfl ?_
      refine Ce (by simp only [zo,Bo,hwl]<;>exact rfl) rfl rfl ?_
      refine Cr (by simp only [zl,zm,Cj,Int.toNat_natCast,hgl,z1,z2,GLi]<;>exact rfl) rfl ?_
      refine Cr (by simp only [zl,zm,zd,Ay,List.take,List.drop,hgl,hgr,GLi]<;>exact rfl) rfl ?_
      refine xo3 rfl rfl ?_
      refine Cr (by simp only [zl,zm,zd,Ay,List.take,List.drop,hnw]<;>exact rfl) rfl ?_
      refine Ce (by simp only [zo,Bo,hwc]<;>exact rfl) rfl rfl ?_
      refine Cc rfl rfl (Ce (by simp only [zo,Bo,hwa]<;>exact rfl) rfl rfl ?_)
      refine Cc rfl rfl (Cr (by simp only [zl,zm,Cj,Int.toNat_natCast,hgn,z3,z4,lnO]<;>exact rfl) rfl ?_)
      refine Cr (by simp only [zl,zm,Bq,overlay,zs,List.take,hBl,hgn,hold,lnO]<;>exact rfl) rfl ?_
      refine De (Eh ?_)
      refine Af ?_
      refine Bc (Ab (by simp only [zo,Bo,hwk]<;>exact rfl) ?_)
      refine Ag rfl (Aa ?_)
      refine Gr (by simp only [ze]<;>exact rfl) ?_
      exact ⟨f.size - (k + 1),by omega,k + 1,_,_,_,_,_,by omega,rfl,by rw [← hst3]; rfl,rfl⟩
    ·
     have hk' : k = f.size:=by have:=of_decide_eq_false hcAFBT1C; omega
     subst hk'
     refine Dq (H6 (Iz (Ig (Eh (Bt rfl (Bc ?_))))))
     refine Ab (by simp only [zo,Bo,hw]<;>exact rfl) ?_
     refine Ag rfl (Aa ?_)
     refine Gr (by simp only [ze]<;>exact rfl) ?_
     exact ⟨P.length - (i + 1),by omega,i + 1,_,_,_,_,_,_,_,_,_,_,_,_,_,_,_,_,_,by omega,rfl,by rw [Ro hlt,hPe,← hG],rfl⟩
   ·
    rw [if_neg hk1'] at hbf
    have e1 : (((f.kind : Nat) : Int) == 1) = false:=by rw [beq_eq_false_iff_ne]; omega
    have hb:=hbf
    have hbl2:=hb.len
    rw [hbl] at hbl2
    refine Ap (Bt rfl (Aj (Av (Ad ?_))))
    refine Ae rfl (Ab (by simp only [zl,zm,hia]<;>exact rfl) ?_)
    refine Ab (by simp only [zl,zm,hld]<;>exact rfl) ?_
    refine Ab (by simp only [zl,zm,hBl]<;>exact rfl) ?_
    refine Ag rfl (Ab (by simp only [zl,zm,Bq,overlay,Bw,zs,zc,zf,List.take,List.drop,hnw,hns,hBl,htx.Tc,hop.Tc]<;>exact rfl) ?_)
    refine Aa (Af ?_)
    refine Ad (Ae rfl ?_)
    refine Ae rfl (Ab (by simp only [zl,zm,hiv]<;>exact rfl) ?_)
    refine Ab (by simp only [zl,zm,hlv]<;>exact rfl) ?_
    refine Ag rfl (Aa ?_)
    refine Af ?_
    refine Aj (Ad ?_)
    refine xo0 ?_
    refine Ab (by simp only [zl,zm,zd,Ay,List.take,List.drop,hnw]<;>exact rfl) ?_
    refine Ab (by simp only [zo,Bo,e1]<;>exact rfl) ?_
    refine Aa (Af ?_)
    skip
    refine Cq ?_
    refine Ap (Bt rfl (Aj (Ad ?_)))
    refine Ae rfl (Ab (by simp only [zo,hbl2]<;>exact rfl) ?_)
    refine xo0 ?_
    refine xo0 ?_
    refine Ab (by simp only [zl,zm,zd,Ay,List.take,List.drop,hnw]<;>exact rfl) ?_
    refine Ab (by simp only [zo,Bo,bne_self_eq_false]<;>exact rfl) ?_
    refine Aa (Af ?_)
    skip
    refine Cq ?_
    refine Ap (Bt rfl (Ad ?_))
    refine Ae rfl (Ab (by simp only [zo,hbl2]<;>exact rfl) ?_)
    refine Bj (Aa ?_)
    refine Af ?_
    refine Av ?_
    refine D5 (fun n env S'=>∃ (k : Nat) (t2 : List Sk) (v11 v12 v30 v31 : D),k ≤ f.size∧n = f.size - k∧S' = ⟨H ++ (HB (sbO nm x p0 c0) H.length (Ep G f bs k) ++ (t ++ FO [.int .i64 (f.line : Nat),.int .i64 (f.column : Nat),.int .u8 (f.kind : Nat),tx,.int .u8 (if nu then (if f.size = 1 then 4 else 5) else 2),.int .u8 0,.str (Dz nu f.size),.int .i64 (if nu then (f.size : Nat) else 0),.int .i64 0,.bool false,.bool false,.bool false,.bool false,.bool false,.int .i64 (f.size : Nat),op] :: t2)),H.length⟩∧env = [.agg [.str nm,x,.int .i64 (p0 : Nat),.int .i64 (c0 : Nat)],xv,.ptr H.length 0 0 0,.Tk,.int .i64 0,.int .i64 0,.msl (H.length + 1) 0 0 24 none,u7,.int .i64 (i : Nat),.ptr (H.length + (50 + t.length)) 0 0 0,w,v11,v12,.undef,.undef,.undef,.bool false,.bool false,.int .i64 24,u19,u20,x,.int .i64 rows.length,.int .i64 (i : Nat),.bool (decide (((i : Nat) : Int) < ((rows.length : Nat) : Int))),.bool false,.bool false,w,.int .i64 (f.size : Nat),.int .i64 (k : Nat),v30,v31,.undef,.undef,.undef,.undef]) (f.size) (by omega) (⟨0,[],_,_,_,_,by omega,by omega,by rw [paintK_0]; rfl,rfl⟩) ?_
    rintro n env S' ⟨k,t2,v11,v12,v30,v31,hk,hnk2,rfl,rfl⟩
    refine Ad (Ab (by simp only [zo,Bo,FO]<;>exact rfl) ?_)
    refine Aa (Af ?_)
    refine Aj ?_
    refine Cm (by simp only [opd,zv]<;>exact rfl) (fun hcAFBT2C=>?_) (fun hcAFBT2C=>?_)
    ·
     have hkl : k < f.size:=by have:=of_decide_eq_true hcAFBT2C; omega
     have hwk:=Du k (by omega)
     have hbk : bs[k]? = some (bs[k]'(by omega)):=Lg _
     obtain ⟨c,hc⟩ : ∃ c,c = bs[k]'(by omega):=⟨_,rfl⟩
     rw [← hc] at hbk
     obtain ⟨A,hA⟩:=hb.rd k c hbk
     have hiab:=fun l lo=>(hA l lo).1
     have hlab:=fun l lo=>(hA l lo).2
     have hln:=f.line_le
     have hcn:=f.column_le
     have hwl : IntKind.i64.wrap (((f.line : Nat) : Int) - 1) = ((f.line - 1 : Nat) : Int):=by rw [IntKind.wrap_i64]; omega
     have hwc : IntKind.i64.wrap (((f.column : Nat) : Int) - 1) = ((f.column - 1 : Nat) : Int):=by rw [IntKind.wrap_i64]; omega
     have hwa : IntKind.i64.wrap (((f.column - 1 : Nat) : Int) + ((k : Nat) : Int)) = ((f.column - 1 + k : Nat) : Int):=by rw [IntKind.wrap_i64]; omega
     have hr24 : f.line - 1 < 24:=by omega
     have hc80 : f.column - 1 + k < 80:=by omega
     have hgl:=fun G t=>HB_gl H (sbO nm x p0 c0) G t
     have hgr:=(Hq (n0:=H.length) (i:=24) hr24).trans (by rw [if_pos hr24])
     have hgn:=fun G t=>HB_ln H (sbO nm x p0 c0) G t hr24
     have hnw2 : ∀ (G : Il) (fo o : Sk),(H ++ (HB (sbO nm x p0 c0) H.length G ++ (t ++ fo :: (t2 ++ [o]))))[H.length + (50 + (t.length + (t2.length + 1)))]? = some o:=fun G fo o=>by
      have:=HB_new H (sbO nm x p0 c0) G (t ++ fo :: t2) o []
      simpa using this
     have hbo : bytesOf [[D.int .u8 (c.toNat : Nat)]] = some [c]:=by simp [bytesOf]
     have hp:=fun S=>prn_run (d:=d) (by omega) S c
     have hcc : UInt8.ofNat (((c.toNat : Nat) : Int)).toNat = c:=by simp
     have hp2 : ∀ S,Bf LP NN d 46 [.str ⟨#[UInt8.ofNat (((c.toNat : Nat) : Int)).toNat]⟩] S = some (.bool (decide (32 ≤ c.toNat) && decide (c.toNat ≤ 126)),S,false):=fun S=>by rw [hcc]; exact hp S
     have hold:=bR_at (Lg (l:=Eo (Ep G f bs k) (f.line - 1)) (i:=f.column - 1 + k) (by rw [M9]; exact hc80))
     have hst : ∀ (v : UInt8) m,v = prn c→(H ++ (HB (sbO nm x p0 c0) H.length (Ep G f bs k) ++ m)).set (H.length + (3 + 2 * (f.line - 1))) ⟨5,1,(bR (Eo (Ep G f bs k) (f.line - 1))).set (f.column - 1 + k) [.int .u8 (v.toNat : Nat)],0,2,true⟩ = H ++ (HB (sbO nm x p0 c0) H.length (Ep G f bs (k + 1)) ++ m):=fun v m e=>by
      subst e
      rw [bR_set]
      refine HB_set H _ (Ep G f bs k) m hr24 fun j=>?_
      rw [Q8 G f bs hkl j]
      have : bs.getD k 0 = c:=by rw [List.getD_eq_getElem?_getD,hbk]; rfl
      rw [this]
      split
      ·
       rename_i e; rw [e]
      ·
       rfl
     have z1 : (0 : Int) ≤ ((f.line - 1 : Nat) : Int):=by omega
     have z2 : ((f.line - 1 : Nat) : Int) < ((24 : Nat) : Int):=by omega
     have z3 : (0 : Int) ≤ ((f.column - 1 + k : Nat) : Int):=by omega
     have z4 : ((f.column - 1 + k : Nat) : Int) < ((80 : Nat) : Int):=by omega
     refine Ap (Bt rfl (Aj (Av (Ad ?_))))
     refine Ae rfl (Ab (by simp only [zl,zm,hiab]<;>exact rfl) ?_)
     refine Ab (by simp only [zl,zm,hlab]<;>exact rfl) ?_
     refine Ag rfl (Ag rfl ?_)
     refine Aa (Af ?_)
     refine Aj (Ad ?_)
     refine Ae rfl (Ab (by simp only [zl,zm,Cw,List.replicate,Ar,zs,zc,zf,hBl]<;>exact rfl) ?_)
     refine Ab (by simp only [zl,zm,Iu,hnw2]<;>exact rfl) ?_
     first
      | refine Ab (by simp only [zo]; exact hp _) ?_
      | refine Ab (by simp only [zo]; exact hp2 _) ?_
     refine xo9 ?_
     refine Aa (Af ?_)
     refine Cm (by simp only [opd,zv]<;>exact rfl) (fun hcAFBT2CT=>?_) (fun hcAFBT2CT=>?_)
     ·
      have hv46 : (46 : UInt8) = prn c:=by
       have h:=hcAFBT2CT
       unfold prn
       rw [if_neg (by intro h2; rw [h2] at h; cases h)]
      have hst2:=fun m=>hst 46 m hv46
      simp only [show ((((46 : UInt8).toNat : Nat) : Int)) = 46 from rfl] at hst2
      have hst3:=fun m=>List.append_cancel_left ((Et H _ _ _).symm.trans (hst2 m))
      refine Bc (Bj ?_)
      refine Aa (Af ?_)
      refine Ez ?_
      refine Cc rfl rfl (xo3 rfl rfl ?_)
      refine Cr (by simp only [zl,zm,zd,Ay,List.take,List.drop,hnw]<;>exact rfl) rfl ?_
      refine Ce (by simp only [zo,Bo,hwl]<;>exact rfl) rfl rfl ?_
      refine Cr (by simp only [zl,zm,Cj,Int.toNat_natCast,hgl,z1,z2,GLi]<;>exact rfl) rfl ?_
      refine Cr (by simp only [zl,zm,zd,Ay,List.take,List.drop,hgl,hgr,GLi]<;>exact rfl) rfl ?_
      refine xo3 rfl rfl ?_
      refine Cr (by simp only [zl,zm,zd,Ay,List.take,List.drop,hnw]<;>exact rfl) rfl ?_
      refine Ce (by simp only [zo,Bo,hwc]<;>exact rfl) rfl rfl ?_
      refine Cc rfl rfl (Ce (by simp only [zo,Bo,hwa]<;>exact rfl) rfl rfl ?_)
      refine Cc rfl rfl (Cr (by simp only [zl,zm,Cj,Int.toNat_natCast,hgn,z3,z4,lnO]<;>exact rfl) rfl ?_)
      refine Cr (by simp only [zl,zm,Bq,overlay,zs,List.take,hBl,hgn,hold,lnO]<;>exact rfl) rfl ?_
      refine De (Eh ?_)
      refine Af ?_
      refine Bc (Ab (by simp only [zo,Bo,hwk]<;>exact rfl) ?_)
      refine Ag rfl (Aa ?_)
      refine Gr (by simp only [ze]<;>exact rfl) ?_
      exact ⟨f.size - (k + 1),by omega,k + 1,_,_,_,_,_,by omega,rfl,by rw [← hst3]; rfl,rfl⟩
     ·
      have hvc : c = prn c:=by
       have h:=hcAFBT2CT
       unfold prn
       rw [if_pos (by simpa using h)]
      have hst2:=fun m=>hst c m hvc
      have hst3:=fun m=>List.append_cancel_left ((Et H _ _ _).symm.trans (hst2 m))
      refine Ap (Bt rfl ?_)
      refine Ez ?_
      refine Cc rfl rfl (xo3 rfl rfl ?_)
      refine Cr (by simp only [zl,zm,zd,Ay,List.take,List.drop,hnw]<;>exact rfl) rfl ?_
      refine Ce (by simp only [zo,Bo,hwl]<;>exact rfl) rfl rfl ?_
      refine Cr (by simp only [zl,zm,Cj,Int.toNat_natCast,hgl,z1,z2,GLi]<;>exact rfl) rfl ?_
      refine Cr (by simp only [zl,zm,zd,Ay,List.take,List.drop,hgl,hgr,GLi]<;>exact rfl) rfl ?_
      refine xo3 rfl rfl ?_
      refine Cr (by simp only [zl,zm,zd,Ay,List.take,List.drop,hnw]<;>exact rfl) rfl ?_
      refine Ce (by simp only [zo,Bo,hwc]<;>exact rfl) rfl rfl ?_
      refine Cc rfl rfl (Ce (by simp only [zo,Bo,hwa]<;>exact rfl) rfl rfl ?_)
      refine Cc rfl rfl (Cr (by simp only [zl,zm,Cj,Int.toNat_natCast,hgn,z3,z4,lnO]<;>exact rfl) rfl ?_)
      refine Cr (by simp only [zl,zm,Bq,overlay,zs,List.take,hBl,hgn,hold,lnO]<;>exact rfl) rfl ?_
      refine De (Eh ?_)
      refine Af ?_
      refine Bc (Ab (by simp only [zo,Bo,hwk]<;>exact rfl) ?_)
      refine Ag rfl (Aa ?_)
      refine Gr (by simp only [ze]<;>exact rfl) ?_
      exact ⟨f.size - (k + 1),by omega,k + 1,_,_,_,_,_,by omega,rfl,by rw [← hst3]; rfl,rfl⟩
    ·
     have hk' : k = f.size:=by have:=of_decide_eq_false hcAFBT2C; omega
     subst hk'
     refine Dq (H6 (Iz (Ig (Eh (Bt rfl (Bc ?_))))))
     refine Ab (by simp only [zo,Bo,hw]<;>exact rfl) ?_
     refine Ag rfl (Aa ?_)
     refine Gr (by simp only [ze]<;>exact rfl) ?_
     exact ⟨P.length - (i + 1),by omega,i + 1,_,_,_,_,_,_,_,_,_,_,_,_,_,_,_,_,_,by omega,rfl,by rw [Ro hlt,hPe,← hG],rfl⟩
  ·
   have hi' : i = P.length:=by have:=of_decide_eq_false hcAFB; omega
   subst hi'
   have hnw:=fun G o m=>HB_new H (sbO nm x p0 c0) G t o m
   have hns:=fun G o y m=>HB_newS H (sbO nm x p0 c0) G t o y m
   have hBl:=fun G=>Ms (sbO nm x p0 c0) H.length G
   have hsbo:=fun G t=>HB_sb H (sbO nm x p0 c0) G t
   refine Dq (H6 (Iz (Ig (Bt rfl (Ad ?_)))))
   refine Ab (by simp only [zl,zm,Int.reduceToNat,hBl]<;>exact rfl) ?_
   refine Ag rfl (Aa ?_)
   refine Af ?_
   refine Aj (Ad ?_)
   refine Ae rfl (Lc ?_)
   refine Bj (Aa ?_)
   refine Af ?_
   refine Av ?_
   refine D5 (fun n env S'=>∃ (i : Nat) (w14 w15 w24 w35 : D),i ≤ 24∧n = 24 - i∧S' = ⟨H ++ (HB (sbO nm x p0 c0) H.length (Ea P) ++ (t ++ [⟨9,1,G8 (Ea P) i,0,2,false⟩])),H.length⟩∧env = [.agg [.str nm,x,.int .i64 (p0 : Nat),.int .i64 (c0 : Nat)],xv,.ptr H.length 0 0 0,.Tk,.int .i64 0,.int .i64 0,.msl (H.length + 1) 0 0 24 none,u7,u8,u9,u10,u11,u12,.msl (H.length + (50 + t.length)) 0 0 24 none,w14,w15,.bool false,.bool false,.int .i64 24,u19,u20,x,.int .i64 rows.length,.int .i64 (P.length : Nat),w24,u25,u26,u27,u28,u29,u30,u31,.msl (H.length + 1) 0 0 24 none,.int .i64 24,.int .i64 (i : Nat),w35]) (24) (by omega) (⟨0,_,_,_,_,by omega,by omega,by rw [List.take_length]; rfl,rfl⟩) ?_
   rintro n env S' ⟨i,w14,w15,w24,w35,hi2,hnk3,rfl,rfl⟩
   refine Ad (xo2 ?_)
   refine Aa (Af ?_)
   refine Aj ?_
   refine Cm (by simp only [opd,zv]<;>exact rfl) (fun hcAFBFD=>?_) (fun hcAFBFD=>?_)
   ·
    have hlt : i < 24:=by have:=of_decide_eq_true hcAFBFD; omega
    have hw:=Du i (by omega)
    have h0 : (0 : Int) ≤ (i : Int):=by omega
    have h24 : (i : Int) < ((24 : Nat) : Int):=by omega
    have hgl:=fun G t=>HB_gl H (sbO nm x p0 c0) G t
    have hgr:=(Hq (n0:=H.length) (i:=24) hlt).trans (by rw [if_pos hlt])
    have hgn:=fun G t=>HB_ln H (sbO nm x p0 c0) G t hlt
    have hTr : ∀ m lo,Bf LP NN d 47 [.msl (H.length + (3 + 2 * i)) 0 0 80 (some 80)] ⟨H ++ (HB (sbO nm x p0 c0) H.length (Ea P) ++ m),lo⟩ = some (.sl 1 (bR ((Eo (Ea P) i).take (tn (Eo (Ea P) i)))) (some (tn (Eo (Ea P) i))),⟨H ++ (HB (sbO nm x p0 c0) H.length (Ea P) ++ m),lo⟩,false):=fun m lo=>by
     have:=trim_run (d:=d) (cap:=some 80) (by omega) (hgn (Ea P) m) (by rw [M9]; omega) lo
     rwa [M9] at this
    have hbb:=bytesOf_bR ((Eo (Ea P) i).take (tn (Eo (Ea P) i)))
    have hoa:=(Km (G:=Ea P) (i:=i) hlt).trans (by rw [if_neg (by omega)])
    have hos:=outRows_set (G:=Ea P) hlt
    rw [show trS (Ea P) i = ⟨((Eo (Ea P) i).take (tn (Eo (Ea P) i))).toArray⟩ from rfl] at hos
    refine Ap (Bt rfl (Aj (Av (Ad ?_))))
    refine Ae rfl (Ab (by simp only [zl,zm,Cj,Int.toNat_natCast,h0,h24,hgl,GLi]<;>exact rfl) ?_)
    refine Ab (by simp only [zl,zm,zd,Ay,List.take,List.drop,hgl,hgr,GLi]<;>exact rfl) ?_
    refine Ag rfl (Ag rfl ?_)
    refine Aa (Af ?_)
    refine Bc (Ae rfl ?_)
    refine Ae rfl (Ae rfl ?_)
    refine Ab (by simp only [zo]; exact hTr _ _) ?_
    refine Ab (by simp only [zl,zm,H7,hbb]<;>exact rfl) ?_
    refine Ab (by simp only [zl,zm,Cj,Int.toNat_natCast,hnw,h0,h24]<;>exact rfl) ?_
    refine Ab (by simp only [zl,zm,Bq,overlay,zs,List.take,hnw,hns,hBl,hoa]<;>exact rfl) ?_
    refine Aa (Eh ?_)
    refine Af ?_
    refine Bc (Ab (by simp only [zo,Bo,hw]<;>exact rfl) ?_)
    refine Ag rfl (Aa ?_)
    refine Gr (by simp only [ze]<;>exact rfl) ?_
    exact ⟨24 - (i + 1),by omega,i + 1,_,_,_,_,by omega,rfl,by rw [← hos]; rfl,rfl⟩
   ·
    have hi' : i = 24:=by have:=of_decide_eq_false hcAFBFD; omega
    subst hi'
    have hto : (G8 (Ea P) 24).take 24 = G8 (Ea P) 24:=List.take_of_length_le (by rw [H8]; exact Nat.le_refl _)
    have hol:=H8 (Ea P) 24
    have hge : H.length ≤ H.length + (50 + t.length):=by omega
    refine Dq (H6 (Iz (Ig (Bt rfl (Ad ?_)))))
    refine Ae rfl (Ag rfl ?_)
    refine Bj (Aa ?_)
    refine Af ?_
    refine Br ?_
    refine ⟨_,by simp only [F20,Au,Bz,Dn,zg]<;>exact rfl,?_⟩
    simp [leave,LP,S9,Sw,snap,D.Sz,D.Sy,D.free,D.Td,Ar,hnw,hto,hol,hge]

def OL (l : List Sk) (n0 q : Nat) (x : D) (rows : List (List D)) : Prop:=(x = .Tk∧rows = []) ∨ ∃ vs,x = .msl (n0 + q) vs 0 rows.length none∧l[q]? = some ⟨74,2,rows,vs,0,true⟩
theorem OL.app {H l : List Sk} {q n0 : Nat} {x : D} {rows : List (List D)} {row : List D} (hn : H.length = n0) (h : OL l n0 q x rows) (hq : 0 < q) (hl : rows.length < 1000) (hpos : 0 < l.length) :
  ∃ x' l' q',Cf 74 2 32 0 x (.msl (n0 + l.length) 0 0 1 none) ⟨H ++ (l ++ [⟨74,2,[row],0,0,false⟩]),n0⟩ = some (x',⟨H ++ l',n0⟩,true)∧OL l' n0 q' x' (rows ++ [row])∧0 < q'∧l.length + 1 ≤ l'.length∧l'[0]? = l[0]?∧x'.Tc = true∧∀ (k : Nat) (o : Sk),l[k]? = some o→o.elem ≠ 74→l'[k]? = some o:=by
 subst hn
 have hr : (H ++ (l ++ [(⟨74,2,[row],0,0,false⟩ : Sk)]))[H.length + l.length]? = some ⟨74,2,[row],0,0,false⟩:=by rw [Bu,Di]; rfl
 have hread : Dj ⟨H ++ (l ++ [⟨74,2,[row],0,0,false⟩]),H.length⟩ 2 (.msl (H.length + l.length) 0 0 1 none) = some [row]:=by simp [Dj,rowsOf]
 rcases h with ⟨rfl,rfl⟩ | ⟨vs,rfl,ho⟩
 ·
  refine ⟨.msl (H.length + (l.length + 1)) 0 0 1 none,l ++ [⟨74,2,[row],0,0,false⟩,⟨74,2,[row],0,0,true⟩],l.length + 1,?_,.inr ⟨0,rfl,by simp⟩,by omega,by simp,by rw [La_ hpos],rfl,fun k o h _=>by rw [Cg (Bh h)]; exact h⟩
  simp [Cf,hread,Bl,newAt]
 ·
  have hql:=Bh ho
  have hz : (H ++ (l ++ [(⟨74,2,[row],0,0,false⟩ : Sk)]))[H.length + q]? = some ⟨74,2,rows,vs,0,true⟩:=by rw [Bu,Cg hql]; exact ho
  refine ⟨.msl (H.length + q) (vs + 1) 0 (rows.length + 1) none,l.set q ⟨74,2,rows ++ [row],vs + 1,0,true⟩ ++ [⟨74,2,[row],0,0,false⟩],q,?_,.inr ⟨vs + 1,by simp,by rw [Cg (by simpa using hql)]; exact Ei hql _⟩,hq,by simp,?_,rfl,fun k o h he=>?_⟩
  ·
   have hb : (rows.length + 1) * 32 ≤ 140737488355328:=by omega
   have hmin : min H.length (H.length + q) = H.length:=by omega
   simp [Cf,hread,Bl,rowsOf,hz,setAt,hb,hmin,G7 hql]
  ·
   rw [La_ (by simpa using hpos),Ln_ (by omega)]
  ·
   rw [Cg (by simpa using Bh h),Ln_ ?_]
   ·
    exact h
   ·
    intro e
    subst e
    rw [ho] at h
    cases h
    exact he rfl
theorem OL.len {l : List Sk} {n0 q : Nat} {x : D} {rows : List (List D)} (h : OL l n0 q x rows) : Iw false x = some (.int .i64 (rows.length : Nat)):=by
 rcases h with ⟨rfl,rfl⟩ | ⟨vs,rfl,_⟩<;>rfl
theorem OL.more {l : List Sk} {n0 q : Nat} {x : D} {rows : List (List D)} (h : OL l n0 q x rows) (m : List Sk) : OL (l ++ m) n0 q x rows:=by
 rcases h with h | ⟨vs,h1,h2⟩
 ·
  exact .inl h
 ·
  exact .inr ⟨vs,h1,by rw [Cg (Bh h2)]; exact h2⟩
def F4 (T : Nat→D × Bool) (m j : Nat) : Option (Nat × D):=if j < m then (if (T j).2 then some (j + 1,(T j).1) else F4 T m (j + 1)) else none
termination_by m - j
def Kb (T : Nat→Nat→D × Bool) (m : Nat) : List FM→Nat→Nat→List (Nat × D)→Option (Nat × List (Nat × D))
 | [],_,used,out=>some (used,out)
 | f :: l,i,used,out=>if f.kind < 3 then Kb T m l (i + 1) used out else match F4 (T i) m used with
  | none=>none
  | some (j,b)=>Kb T m l (i + 1) j (out ++ [(i,b)])
def Ih (l : List (Nat × D)) : List (List D):=l.map fun p=>[.int .i64 (p.1 : Nat),p.2]
theorem Qv (l : List (Nat × D)) (i : Nat) (b : D) : Ih (l ++ [(i,b)]) = Ih l ++ [[.int .i64 (i : Nat),b]]:=by simp [Ih]
theorem tyRows_len (l : List (Nat × D)) : (Ih l).length = l.length:=by simp [Ih]
theorem clip49_msl {d : Nat} (hd : 1 ≤ d) {H : List Sk} {gs vs : Nat} {rows : List (List D)} (h2 : H[gs]? = some ⟨74,2,rows,vs,0,true⟩) (lo : Nat) : Bf LP NN d 49 [.msl gs vs 0 rows.length none] ⟨H,lo⟩ = some (.msl gs vs 0 rows.length (some rows.length),⟨H,lo⟩,false):=by
 have hb : ∀ (n : Nat),(0 : Int) ≤ (n : Int):=fun n=>by omega
 refine Dl (F:=F49) rfl (by simp only [LP,Ar,zs,zm,h2,show ((0 : Nat) = 1) = False from by decide,show ((0 : Nat) = 2) = False from by decide,and_false,or_self]<;>exact rfl) rfl (by simp only [LP,zf,zm,Bool.and_false]; try rfl) (by simp only [F49,zv]<;>exact rfl) (by omega) ?_
 rintro d rfl
 refine Ad (Bj ?_)
 refine Aa (Af ?_)
 refine Ad (Ae rfl ?_)
 refine Ae rfl (Lc ?_)
 refine Ae rfl (Lc ?_)
 refine Ab (by simp only [zl,zm,Ci,D8,Fz,Cz,Fe,Eb,h2,hb,Int.toNat_natCast,Nat.zero_le,Nat.le_refl,Nat.sub_zero]<;>exact rfl) ?_
 refine Ag rfl (Aa ?_)
 refine Af ?_
 refine Br ?_
 refine ⟨_,by simp only [F49,Au,Bz,Dn,zg]<;>exact rfl,?_⟩
 simp [leave,LP,S9,Sw,snap,D.Sz,D.Sy,D.free,D.Td,h2]

theorem clip49_nil {d : Nat} (hd : 1 ≤ d) (H : List Sk) (lo : Nat) : Bf LP NN d 49 [.Tk] ⟨H,lo⟩ = some (.Tk,⟨H,lo⟩,false):=by
 refine Dl (F:=F49) rfl (by simp only [LP,Ar,zs]<;>exact rfl) rfl (by simp only [LP,zf,zm]; try rfl) (by simp only [F49,zv]<;>exact rfl) (by omega) ?_
 rintro d rfl
 refine Ad (Bj ?_)
 refine Aa (Af ?_)
 refine Ad (Ae rfl ?_)
 refine Ae rfl (Ab (by simp only [zo,Nb]<;>exact rfl) ?_)
 refine Ae rfl (Ab (by simp only [zo,Nb]<;>exact rfl) ?_)
 refine Ab (by simp only [zl,Ci,D8,Cz,Fe,Eb]<;>exact rfl) ?_
 refine Ag rfl (Aa ?_)
 refine Af ?_
 refine Br ?_
 refine ⟨_,by simp only [F49,Au,Bz,Dn,zg]<;>exact rfl,?_⟩
 simp [leave,LP,S9,Sw,snap,D.Sz,D.Sy,D.free,D.Td]

theorem clip49_run {d : Nat} (hd : 1 ≤ d) {H l : List Sk} {q : Nat} {x : D} {rows : List (List D)} (h : OL l H.length q x rows) (lo : Nat) : Bf LP NN d 49 [x] ⟨H ++ l,lo⟩ = some (Ck x,⟨H ++ l,lo⟩,false):=by
 rcases h with ⟨rfl,rfl⟩ | ⟨vs,rfl,h2⟩
 ·
  exact clip49_nil hd _ lo
 ·
  exact clip49_msl hd (by rw [Bu]; exact h2) lo

def TL (H : List Sk) (go : Nat) (y : D) (rows : List (List D)) : Prop:=(y = .Tk∧rows = []) ∨ ∃ vs,y = .msl go vs 0 rows.length (some rows.length)∧H[go]? = some ⟨74,2,rows,vs,0,true⟩
def AccR (H : List Sk) (lo : Nat) : Option (Nat × List (Nat × D))→D × St × Bool→Prop
 | none,x=>x = (.tup [.Tk,.int .i64 0,.int .i64 7],⟨H,lo⟩,false)
 | some (u,out),x=>∃ y H' go wr,x = (.tup [y,.int .i64 (u : Nat),.int .i64 0],⟨H',lo⟩,wr)∧TL H' go y (Ih out)∧H.length ≤ H'.length∧(∀ k,k < H.length→H'[k]? = H[k]?)∧u ≤ 1000000
theorem accept_run {d : Nat} (hd : 24 ≤ d) {H : List Sk} {x xl : D} {rows : List (List D)} {gs v : Nat} {l0 : List FM} {ls : List ByteArray} {T : Nat→Nat→D × Bool} (hS : SrcF H x rows gs v) (hR : RW l0 rows) (hl0 : SlD 1 (F5 ls) xl) (hlen : l0.length ≤ 256) (hls : ls.length ≤ 1000)
  (hT : ∀ i j p (hi : i < l0.length) (hj : j < ls.length),3 ≤ l0[i].kind→(∀ d',d = d' + 1→∀ S,Bf LP NN d' 48 [.agg (Gm l0[i] p),.str ls[j]] S = some (.tup [(T i j).1,.bool (T i j).2],S,false))∧∃ ys,SlD 1 ys (T i j).1) (nm : ByteArray) (p0 c0 : Nat) (lo : Nat) (hlo : lo ≤ H.length) :
  ∃ r,AccR H lo (Kb T ls.length l0 0 0 []) r∧Bf LP NN d 23 [.agg [.str nm,x,.int .i64 (p0 : Nat),.int .i64 (c0 : Nat)],xl] ⟨H,lo⟩ = some r:=by
 have hrl:=hR.len
 have hchk : ∀ d',d = d' + 1→∀ l lo,Bf LP NN d' 13 [.agg [.str nm,x,.int .i64 (p0 : Nat),.int .i64 (c0 : Nat)]] ⟨H ++ l,lo⟩ = some (.int .i64 0,⟨H ++ l,lo⟩,false):=fun d' e l lo=>Nj (l0:=l0) (by omega) (hS.mono l) hR (by omega) nm p0 c0 lo
 refine run_at_ex (F:=F23) (P:=fun r=>AccR H lo (Kb T ls.length l0 0 0 []) r) rfl (by simp only [LP,Ar,Bw,zs,zm,hS.zero,hl0.Sw]<;>exact rfl) rfl (by simp only [LP,zf,zm]; try rfl) (by simp only [F23,zv]<;>exact rfl) (by omega) ?_
 rintro d rfl
 have zz9:=And.intro hl0.len (And.intro hS.len (And.intro hS.cell (And.intro @Bu (@Di))))
 refine Ad (Ab (by simp only [zl,zm,zc,zz9]<;>exact rfl) ?_)
 refine Bj (Bj ?_)
 refine Bj (Aa ?_)
 refine Af ?_
 refine Aj (Ad ?_)
 refine xo23 ?_
 refine Ab (by simp only [zo]; exact hchk d rfl _ _) ?_
 refine Ag rfl (Aa ?_)
 refine Af ?_
 refine Ad (Ae rfl ?_)
 refine Go.Proofs.YtkaedpmmopigkaaGreatDoor.xo2 ?_
 refine Aa (Af ?_)
 skip
 refine Cq ?_
 refine Ap (Bt rfl (Ad ?_))
 refine Bj (Aa ?_)
 refine Af ?_
 refine Ad (Bj ?_)
 refine Aa (Af ?_)
 refine Aj (Ad ?_)
 refine xo0 ?_
 refine xo23 ?_
 refine Ab (by simp only [zo,zz9]<;>exact rfl) ?_
 refine Bj (Aa ?_)
 refine Af ?_
 refine Av ?_
 refine D5 (fun n env S'=>∃ (i used q : Nat) (out : List (Nat × D)) (l : List Sk) (xo u9 u10 u11 u12 u13 u18 u19 u20 u21 u22 : D),i ≤ l0.length∧n = l0.length - i∧S' = ⟨H ++ l,H.length⟩∧env = [.agg [.str nm,x,.int .i64 (p0 : Nat),.int .i64 (c0 : Nat)],xl,.ptr H.length 0 0 0,.Tk,.int .i64 0,.int .i64 0,.int .i64 0,xo,.int .i64 (used : Nat),u9,u10,u11,u12,u13,.bool false,x,.int .i64 rows.length,.int .i64 (i : Nat),u18,u19,u20,u21,u22]∧OL l H.length q xo (Ih out)∧0 < q∧l[0]? = some (sbO nm x p0 c0)∧used ≤ ls.length∧out.length ≤ i∧Kb T ls.length l0 0 0 [] = Kb T ls.length (l0.drop i) i used out) (l0.length) (by omega) (⟨0,0,1,[],[sbO nm x p0 c0],.Tk,_,_,_,_,_,_,_,_,_,_,by omega,by omega,rfl,rfl,.inl ⟨rfl,rfl⟩,by omega,rfl,by omega,by simp,by rw [List.drop_zero]⟩) ?_
 rintro n env S' ⟨i,used,q,out,l,xo,u9,u10,u11,u12,u13,u18,u19,u20,u21,u22,hi,hnk,rfl,rfl,hO,hq,hsb,hu,hou,hacc⟩
 refine Ad (Go.Proofs.YtkaedpmmopigkaaGreatDoor.xo2 ?_)
 refine Aa (Af ?_)
 refine Aj ?_
 refine Cm (by simp only [opd,zv]<;>exact rfl) (fun hcA=>?_) (fun hcA=>?_)
 ·
  have hlt : i < rows.length:=by have:=of_decide_eq_true hcA; omega
  have hlt0 : i < l0.length:=by omega
  have hw:=Du i (by omega)
  have hdr:=List.drop_eq_getElem_cons hlt0
  obtain ⟨f,hf0⟩ : ∃ f,f = l0[i]:=⟨_,rfl⟩
  rw [← hf0] at hdr
  have hia:=fun l lo=>hS.ia l lo i hlt
  obtain ⟨p,hrow⟩:=hR.at_ hlt0
  rw [← hf0] at hrow
  have hld:=fun (l : List Sk) lo=>hS.ld l lo i _ hrow (by rw [Jo]; exact Nat.le_refl _)
  rw [Jn] at hld
  have hTy:=fun j hj hk=>hT i j p hlt0 hj (by rw [← hf0]; exact hk)
  rw [← hf0] at hTy
  obtain ⟨tx,op,nu,r1,r2,hrf,htx,hop,hk1,hk2⟩:=Ho f p
  rw [hrf] at hld hTy
  have hkd:=f.kind_le
  have hsb1:=Bh hsb
  have hll0 : ∀ o : Sk,(l ++ [o])[l.length]? = some o:=fun o=>by simp
  have hlls : ∀ o y : Sk,(l ++ [o]).set l.length y = l ++ [y]:=fun o y=>by simp
  have zz10:=And.intro hw (And.intro hia (And.intro hld (And.intro hll0 (And.intro hlls (And.intro htx.Tc (And.intro hop.Tc (And.intro htx.cells (And.intro hop.cells (And.intro htx.val (hop.val))))))))))
  rcases (by omega : f.kind < 3 ∨ f.kind = 3 ∨ f.kind = 4) with hkk | hkk | hkk
  ·
   have e3 : (((f.kind : Nat) : Int) != 3) = true:=by rw [bne_iff_ne]; omega
   have e4 : (((f.kind : Nat) : Int) != 4) = true:=by rw [bne_iff_ne]; omega
   refine Ap (Bt rfl (Aj (Av (Ad ?_))))
   refine Ae rfl (Ab (by simp only [zl,zm,zz10]<;>exact rfl) ?_)
   refine Ab (by simp only [zl,zm,zz10]<;>exact rfl) ?_
   refine xo6 ?_
   refine Ag rfl (xo31 ?_)
   refine Aa (Af ?_)
   refine Aj (Ad ?_)
   refine xo0 ?_
   refine xo23 ?_
   refine Ab (by simp only [zo,Bo,e3]<;>exact rfl) ?_
   refine Ag rfl (Ch 0 (b:=true) ?_)
   refine Ah rfl (xo0 ?_)
   refine Ah rfl (xo23 ?_)
   refine Ah rfl (Ab (by simp only [zo,Bo,e4]<;>exact rfl) ?_)
   refine xo1 ?_
   refine Aa (Af ?_)
   skip
   refine E9 ?_
   refine Dq (H6 (Ig (Bt rfl (Bc ?_))))
   refine Ab (by simp only [zo,Bo,zz10]<;>exact rfl) ?_
   refine Ag rfl (Aa ?_)
   refine Gr (by simp only [ze]<;>exact rfl) ?_
   exact ⟨l0.length - (i + 1),by omega,i + 1,used,q,out,_,xo,_,_,_,_,_,_,_,_,_,_,by omega,rfl,rfl,rfl,hO.more _,hq,by rw [Cg (Bh hsb)]; exact hsb,hu,by omega,by rw [hacc,hdr,Kb,if_pos (by omega)]⟩
  ·
   have e3 : (((f.kind : Nat) : Int) != 3) = false:=by rw [hkk]; rfl
   have hk3 : 3 ≤ f.kind:=by omega
   refine Ap (Bt rfl (Aj (Av (Ad ?_))))
   refine Ae rfl (Ab (by simp only [zl,zm,zz10]<;>exact rfl) ?_)
   refine Ab (by simp only [zl,zm,zz10]<;>exact rfl) ?_
   refine xo6 ?_
   refine Ag rfl (xo31 ?_)
   refine Aa (Af ?_)
   refine Aj (Ad ?_)
   refine xo0 ?_
   refine xo23 ?_
   refine Ab (by simp only [zo,Bo,e3]<;>exact rfl) ?_
   refine Ag rfl (Ch 0 (b:=false) ?_)
   refine Bb rfl rfl ?_
   refine Bb rfl rfl ?_
   refine Bb rfl rfl ?_
   refine xo1 ?_
   refine Aa (Af ?_)
   refine Ie (by simp only [opd,zv]) ?_
   refine Ap (Bt rfl (Ad ?_))
   refine Bj (Aa ?_)
   refine Af ?_
   refine Av ?_
   refine D5 (fun n env S'=>∃ (j q2 : Nat) (done : Bool) (out2 : List (Nat × D)) (l2 : List Sk) (xo2 v12 v13 v20 v21 v22 : D),S' = ⟨H ++ l2,H.length⟩∧env = [.agg [.str nm,x,.int .i64 (p0 : Nat),.int .i64 (c0 : Nat)],xl,.ptr H.length 0 0 0,.Tk,.int .i64 0,.int .i64 0,.int .i64 0,xo2,.int .i64 (j : Nat),.int .i64 (i : Nat),.ptr (H.length + l.length) 0 0 0,.bool done,v12,v13,.bool false,x,.int .i64 rows.length,.int .i64 (i : Nat),.bool (decide (((i : Nat) : Int) < ((rows.length : Nat) : Int))),.bool false,v20,v21,v22]∧OL l2 H.length q2 xo2 (Ih out2)∧0 < q2∧l2[0]? = some (sbO nm x p0 c0)∧l2[l.length]? = some (FO [.int .i64 (f.line : Nat),.int .i64 (f.column : Nat),.int .u8 (f.kind : Nat),tx,.int .u8 (if nu then (if f.size = 1 then 4 else 5) else 2),.int .u8 0,.str (Dz nu f.size),.int .i64 (if nu then (f.size : Nat) else 0),.int .i64 0,.bool false,.bool false,.bool false,.bool false,.bool false,.int .i64 (f.size : Nat),op])∧j ≤ ls.length∧n = 2 * (ls.length - j) + (if done then 0 else 1)∧((done = false∧F4 (T i) ls.length used = F4 (T i) ls.length j∧out2 = out) ∨ (done = true∧∃ b,F4 (T i) ls.length used = some (j,b)∧out2 = out ++ [(i,b)]))) (2 * (ls.length - used) + 1) (by omega) (⟨used,q,false,out,_,xo,_,_,_,_,_,rfl,rfl,hO.more _,hq,by rw [Cg hsb1]; exact hsb,hll0 _,hu,rfl,.inl ⟨rfl,rfl,rfl⟩⟩) ?_
   rintro n env S' ⟨j,q2,done,out2,l2,xo2,v12,v13,v20,v21,v22,rfl,rfl,hO2,hq2,hsb2,hfo,hj,hnB,hdone⟩
   rcases hdone with ⟨rfl,hf,rfl⟩ | ⟨rfl,b0,hf,rfl⟩
   ·
    refine Aj (Ad ?_)
    refine Ae rfl (xo9 ?_)
    refine Aa (Af ?_)
    skip
    refine E9 ?_
    refine Ap (Bt rfl (Av (Aj (Ad ?_))))
    refine Ae rfl (Ae rfl ?_)
    refine Ab (by simp only [zo,I9,zz9]<;>exact rfl) ?_
    refine Go.Proofs.YtkaedpmmopigkaaGreatDoor.xo2 ?_
    refine Aa (Af ?_)
    refine Cm (by simp only [opd,zv]<;>exact rfl) (fun hcAT3Bn=>?_) (fun hcAT3Bn=>?_)
    ·
     have hjm : ls.length ≤ j:=by have:=of_decide_eq_true hcAT3Bn; omega
     have hnone : Kb T ls.length l0 0 0 [] = none:=by
      rw [hacc,hdr,Kb,if_neg (by omega),hf,F4,if_neg (by omega)]
     refine Ad (Bj ?_)
     refine Bj (Bj ?_)
     refine Aa (Af ?_)
     refine Br (Gc (Hr (lk_r (Hr (Hr (Gc (lk_r (Hr (Gc ?_)))))))))
     refine ⟨_,by rw [hnone]; exact rfl,?_⟩
     refine ⟨_,by simp only [F23,Au,Bz,Dn,zg]<;>exact rfl,?_⟩
     simp [leave,LP,S9,Sw,snap,D.Sz,D.Sy,D.free,D.Td,Ar]
    ·
     have hjl : j < ls.length:=by have:=of_decide_eq_false hcAT3Bn; omega
     have hwj:=Du j (by omega)
     have hil:=fun (S : St)=>hl0.iaddrN S .i64 (Nu hjl)
     obtain ⟨hty,ys,hyc⟩:=hTy j hjl (by omega)
     have hfr : Dw [[D.int .i64 0,D.Tk]] 2 [0] [D.agg [D.int .i64 (i : Nat),(T i j).1]] = some [[D.int .i64 (i : Nat),(T i j).1]]:=by simp [Dw,D.val,D.cells,hyc.Tc,I1]
     have zz11:=And.intro hwj (And.intro hil (And.intro hyc.Tc (And.intro hyc.val (And.intro hyc.cells (hfr)))))
     refine Ap (Bt rfl (Aj ?_))
     refine Ez ?_
     refine Cr (by simp only [zl,zm,zd,Ay,List.take,List.drop,zz9,FO,hfo]<;>exact rfl) rfl ?_
     refine Cc rfl rfl (Cc rfl rfl ?_)
     refine Ca (by simp only [zl,zm,zz11]<;>exact rfl) (by simp only [Bd,zo,hl0.fpi]<;>exact rfl) rfl ?_
     refine xo8 rfl ?_
     refine Cr (by simp only [zo]; exact (hty d rfl _)) rfl ?_
     refine Ee rfl rfl (xo26 rfl rfl ?_)
     refine xo27 rfl rfl ?_
     refine Ee rfl rfl (Ee rfl rfl ?_)
     refine De ?_
     refine Af ?_
     refine Ad (Ae rfl ?_)
     refine Ab (by simp only [zo,Bo,zz11]<;>exact rfl) ?_
     refine Ag rfl (Aa ?_)
     refine Af ?_
     refine Ad (Ae rfl ?_)
     refine Aa (Af ?_)
     refine Cm (by simp only [opd,zv]<;>exact rfl) (fun hcAT3BnF=>?_) (fun hcAT3BnF=>?_)
     ·
      have hok : (T i j).2 = true:=hcAT3BnF
      obtain ⟨x3,l3,q3,hap,hO3,hq3,hl3,h30,hx3,hkp⟩:=hO2.app (H:=H) (row:=[.int .i64 (i : Nat),(T i j).1]) rfl hq2 (by rw [tyRows_len]; omega) (by have:=Bh hsb2; omega)
      rw [← Qv] at hO3
      have hfo3:=hkp _ _ hfo (by simp [FO])
      refine Ad (Ae rfl ?_)
      refine Ae rfl (Ae rfl ?_)
      refine Ab (by simp only [zo,Hd,overlay,zc,List.take,List.drop,Nat.reduceAdd,Nat.reduceLeDiff,zm,zz11]<;>exact rfl) ?_
      refine Ab (by simp only [zl,zm,List.replicate,Ar,Bw,zs,zz11]<;>exact rfl) ?_
      refine Ab (by simp only [Aw,aop,LOp.loud,lop,if_true,opd,zv]; exact hap) ?_
      refine Ag rfl (Aa ?_)
      refine Af ?_
      refine Bc (Bj ?_)
      refine Aa (Eh ?_)
      refine Gr (by simp only [ze]<;>exact rfl) ?_
      exact ⟨2 * (ls.length - (j + 1)) + 0,by simp at hnB; omega,j + 1,q3,true,_,l3,x3,_,_,_,_,_,rfl,rfl,hO3,hq3,by rw [h30]; exact hsb2,hfo3,by omega,rfl,.inr ⟨rfl,_,by rw [hf,F4,if_pos hjl,if_pos hok],rfl⟩⟩
     ·
      have hok : (T i j).2 = false:=hcAT3BnF
      refine Ap (Eh ?_)
      refine Gr rfl ?_
      exact ⟨2 * (ls.length - (j + 1)) + 1,by simp at hnB; omega,j + 1,q2,false,_,l2,xo2,_,_,_,_,_,rfl,rfl,hO2,hq2,hsb2,hfo,by omega,rfl,.inl ⟨rfl,by rw [hf,F4,if_pos hjl,if_neg (by rw [hok]; simp)],rfl⟩⟩
   ·
    refine Aj (Ad ?_)
    refine Ae rfl (xo9 ?_)
    refine Aa (Af ?_)
    skip
    refine Cq ?_
    refine Dq (H6 (Iz (Ig (Eh (Bt rfl (Bc ?_))))))
    refine Ab (by simp only [zo,Bo,zz10]<;>exact rfl) ?_
    refine Ag rfl (Aa ?_)
    refine Gr (by simp only [ze]<;>exact rfl) ?_
    exact ⟨l0.length - (i + 1),by omega,i + 1,j,q2,_,_,xo2,_,_,_,_,_,_,_,_,_,_,by omega,rfl,rfl,rfl,hO2,hq2,hsb2,hj,by rw [Ll_,List.length_cons,List.length_nil]; omega,by rw [hacc,hdr,Kb,if_neg (by omega),hf]⟩
  ·
   have e3 : (((f.kind : Nat) : Int) != 3) = true:=by rw [hkk]; rfl
   have e4 : (((f.kind : Nat) : Int) != 4) = false:=by rw [hkk]; rfl
   have hk3 : 3 ≤ f.kind:=by omega
   refine Ap (Bt rfl (Aj (Av (Ad ?_))))
   refine Ae rfl (Ab (by simp only [zl,zm,zz10]<;>exact rfl) ?_)
   refine Ab (by simp only [zl,zm,zz10]<;>exact rfl) ?_
   refine xo6 ?_
   refine Ag rfl (xo31 ?_)
   refine Aa (Af ?_)
   refine Aj (Ad ?_)
   refine xo0 ?_
   refine xo23 ?_
   refine Ab (by simp only [zo,Bo,e3]<;>exact rfl) ?_
   refine Ag rfl (Ch 0 (b:=true) ?_)
   refine Ah rfl (xo0 ?_)
   refine Ah rfl (xo23 ?_)
   refine Ah rfl (Ab (by simp only [zo,Bo,e4]<;>exact rfl) ?_)
   refine xo1 ?_
   refine Aa (Af ?_)
   skip
   refine Cq ?_
   refine Ap (Bt rfl (Ad ?_))
   refine Bj (Aa ?_)
   refine Af ?_
   refine Av ?_
   refine D5 (fun n env S'=>∃ (j q2 : Nat) (done : Bool) (out2 : List (Nat × D)) (l2 : List Sk) (xo2 v12 v13 v20 v21 v22 : D),S' = ⟨H ++ l2,H.length⟩∧env = [.agg [.str nm,x,.int .i64 (p0 : Nat),.int .i64 (c0 : Nat)],xl,.ptr H.length 0 0 0,.Tk,.int .i64 0,.int .i64 0,.int .i64 0,xo2,.int .i64 (j : Nat),.int .i64 (i : Nat),.ptr (H.length + l.length) 0 0 0,.bool done,v12,v13,.bool false,x,.int .i64 rows.length,.int .i64 (i : Nat),.bool (decide (((i : Nat) : Int) < ((rows.length : Nat) : Int))),.bool false,v20,v21,v22]∧OL l2 H.length q2 xo2 (Ih out2)∧0 < q2∧l2[0]? = some (sbO nm x p0 c0)∧l2[l.length]? = some (FO [.int .i64 (f.line : Nat),.int .i64 (f.column : Nat),.int .u8 (f.kind : Nat),tx,.int .u8 (if nu then (if f.size = 1 then 4 else 5) else 2),.int .u8 0,.str (Dz nu f.size),.int .i64 (if nu then (f.size : Nat) else 0),.int .i64 0,.bool false,.bool false,.bool false,.bool false,.bool false,.int .i64 (f.size : Nat),op])∧j ≤ ls.length∧n = 2 * (ls.length - j) + (if done then 0 else 1)∧((done = false∧F4 (T i) ls.length used = F4 (T i) ls.length j∧out2 = out) ∨ (done = true∧∃ b,F4 (T i) ls.length used = some (j,b)∧out2 = out ++ [(i,b)]))) (2 * (ls.length - used) + 1) (by omega) (⟨used,q,false,out,_,xo,_,_,_,_,_,rfl,rfl,hO.more _,hq,by rw [Cg hsb1]; exact hsb,hll0 _,hu,rfl,.inl ⟨rfl,rfl,rfl⟩⟩) ?_
   rintro n env S' ⟨j,q2,done,out2,l2,xo2,v12,v13,v20,v21,v22,rfl,rfl,hO2,hq2,hsb2,hfo,hj,hnB,hdone⟩
   rcases hdone with ⟨rfl,hf,rfl⟩ | ⟨rfl,b0,hf,rfl⟩
   ·
    refine Aj (Ad ?_)
    refine Ae rfl (xo9 ?_)
    refine Aa (Af ?_)
    skip
    refine E9 ?_
    refine Ap (Bt rfl (Av (Aj (Ad ?_))))
    refine Ae rfl (Ae rfl ?_)
    refine Ab (by simp only [zo,I9,zz9]<;>exact rfl) ?_
    refine Go.Proofs.YtkaedpmmopigkaaGreatDoor.xo2 ?_
    refine Aa (Af ?_)
    refine Cm (by simp only [opd,zv]<;>exact rfl) (fun hcAT4Bn=>?_) (fun hcAT4Bn=>?_)
    ·
     have hjm : ls.length ≤ j:=by have:=of_decide_eq_true hcAT4Bn; omega
     have hnone : Kb T ls.length l0 0 0 [] = none:=by
      rw [hacc,hdr,Kb,if_neg (by omega),hf,F4,if_neg (by omega)]
     refine Ad (Bj ?_)
     refine Bj (Bj ?_)
     refine Aa (Af ?_)
     refine Br (Gc (Hr (lk_r (Hr (Hr (Gc (lk_r (Hr (Gc ?_)))))))))
     refine ⟨_,by rw [hnone]; exact rfl,?_⟩
     refine ⟨_,by simp only [F23,Au,Bz,Dn,zg]<;>exact rfl,?_⟩
     simp [leave,LP,S9,Sw,snap,D.Sz,D.Sy,D.free,D.Td,Ar]
    ·
     have hjl : j < ls.length:=by have:=of_decide_eq_false hcAT4Bn; omega
     have hwj:=Du j (by omega)
     have hil:=fun (S : St)=>hl0.iaddrN S .i64 (Nu hjl)
     obtain ⟨hty,ys,hyc⟩:=hTy j hjl (by omega)
     have hfr : Dw [[D.int .i64 0,D.Tk]] 2 [0] [D.agg [D.int .i64 (i : Nat),(T i j).1]] = some [[D.int .i64 (i : Nat),(T i j).1]]:=by simp [Dw,D.val,D.cells,hyc.Tc,I1]
     have zz12:=And.intro hwj (And.intro hil (And.intro hyc.Tc (And.intro hyc.val (And.intro hyc.cells (hfr)))))
     refine Ap (Bt rfl (Aj ?_))
     refine Ez ?_
     refine Cr (by simp only [zl,zm,zd,Ay,List.take,List.drop,zz9,FO,hfo]<;>exact rfl) rfl ?_
     refine Cc rfl rfl (Cc rfl rfl ?_)
     refine Ca (by simp only [zl,zm,zz12]<;>exact rfl) (by simp only [Bd,zo,hl0.fpi]<;>exact rfl) rfl ?_
     refine xo8 rfl ?_
     refine Cr (by simp only [zo]; exact (hty d rfl _)) rfl ?_
     refine Ee rfl rfl (xo26 rfl rfl ?_)
     refine xo27 rfl rfl ?_
     refine Ee rfl rfl (Ee rfl rfl ?_)
     refine De ?_
     refine Af ?_
     refine Ad (Ae rfl ?_)
     refine Ab (by simp only [zo,Bo,zz12]<;>exact rfl) ?_
     refine Ag rfl (Aa ?_)
     refine Af ?_
     refine Ad (Ae rfl ?_)
     refine Aa (Af ?_)
     refine Cm (by simp only [opd,zv]<;>exact rfl) (fun hcAT4BnF=>?_) (fun hcAT4BnF=>?_)
     ·
      have hok : (T i j).2 = true:=hcAT4BnF
      obtain ⟨x3,l3,q3,hap,hO3,hq3,hl3,h30,hx3,hkp⟩:=hO2.app (H:=H) (row:=[.int .i64 (i : Nat),(T i j).1]) rfl hq2 (by rw [tyRows_len]; omega) (by have:=Bh hsb2; omega)
      rw [← Qv] at hO3
      have hfo3:=hkp _ _ hfo (by simp [FO])
      refine Ad (Ae rfl ?_)
      refine Ae rfl (Ae rfl ?_)
      refine Ab (by simp only [zo,Hd,overlay,zc,List.take,List.drop,Nat.reduceAdd,Nat.reduceLeDiff,zm,zz12]<;>exact rfl) ?_
      refine Ab (by simp only [zl,zm,List.replicate,Ar,Bw,zs,zz12]<;>exact rfl) ?_
      refine Ab (by simp only [Aw,aop,LOp.loud,lop,if_true,opd,zv]; exact hap) ?_
      refine Ag rfl (Aa ?_)
      refine Af ?_
      refine Bc (Bj ?_)
      refine Aa (Eh ?_)
      refine Gr (by simp only [ze]<;>exact rfl) ?_
      exact ⟨2 * (ls.length - (j + 1)) + 0,by simp at hnB; omega,j + 1,q3,true,_,l3,x3,_,_,_,_,_,rfl,rfl,hO3,hq3,by rw [h30]; exact hsb2,hfo3,by omega,rfl,.inr ⟨rfl,_,by rw [hf,F4,if_pos hjl,if_pos hok],rfl⟩⟩
     ·
      have hok : (T i j).2 = false:=hcAT4BnF
      refine Ap (Eh ?_)
      refine Gr rfl ?_
      exact ⟨2 * (ls.length - (j + 1)) + 1,by simp at hnB; omega,j + 1,q2,false,_,l2,xo2,_,_,_,_,_,rfl,rfl,hO2,hq2,hsb2,hfo,by omega,rfl,.inl ⟨rfl,by rw [hf,F4,if_pos hjl,if_neg (by rw [hok]; simp)],rfl⟩⟩
   ·
    refine Aj (Ad ?_)
    refine Ae rfl (xo9 ?_)
    refine Aa (Af ?_)
    skip
    refine Cq ?_
    refine Dq (H6 (Iz (Ig (Eh (Bt rfl (Bc ?_))))))
    refine Ab (by simp only [zo,Bo,zz10]<;>exact rfl) ?_
    refine Ag rfl (Aa ?_)
    refine Gr (by simp only [ze]<;>exact rfl) ?_
    exact ⟨l0.length - (i + 1),by omega,i + 1,j,q2,_,_,xo2,_,_,_,_,_,_,_,_,_,_,by omega,rfl,rfl,rfl,hO2,hq2,hsb2,hj,by rw [Ll_,List.length_cons,List.length_nil]; omega,by rw [hacc,hdr,Kb,if_neg (by omega),hf]⟩
 ·
  have hi' : i = l0.length:=by have:=of_decide_eq_false hcA; omega
  subst hi'
  refine Dq (H6 (Iz (Ig (Bt rfl (Ad ?_)))))
  refine Ae rfl (Ab (by simp only [zo]; exact (clip49_run (by omega) hO _)) ?_)
  refine Ae rfl (Ag rfl ?_)
  refine Ag rfl (Bj ?_)
  refine Aa (Af ?_)
  refine Br ?_
  rw [List.drop_length] at hacc
  rw [Kb] at hacc
  rcases hO with ⟨rfl,hto⟩ | ⟨vs,rfl,ho⟩
  ·
   refine ⟨(.tup [.Tk,.int .i64 (used : Nat),.int .i64 0],⟨H,lo⟩,false),by rw [hacc]; exact ⟨_,_,0,_,rfl,.inl ⟨rfl,hto⟩,Nat.le_refl _,fun _ _=>rfl,by omega⟩,?_⟩
   refine ⟨_,by simp only [F23,Au,Bz,Dn,zg]<;>exact rfl,?_⟩
   simp [leave,LP,S9,Sw,snap,D.Sz,D.Sy,D.free,D.Td,Ar,Ck]
  ·
   have hHl : min lo H.length = lo:=by omega
   have hne : ¬ l = []:=by intro e; rw [e] at hsb; cases hsb
   have ho' : (H ++ l)[H.length + q]? = some ⟨74,2,Ih out,vs,0,true⟩:=by rw [Bu]; exact ho
   refine ⟨(.tup [.msl (H.length + q) vs 0 (Ih out).length (some (Ih out).length),.int .i64 (used : Nat),.int .i64 0],⟨H ++ l,lo⟩,true),by rw [hacc]; exact ⟨_,_,H.length + q,_,rfl,.inr ⟨vs,rfl,ho'⟩,by rw [Ll_]; omega,fun k hk=>Cg hk,by omega⟩,?_⟩
   refine ⟨_,by simp only [F23,Au,Bz,Dn,zg]<;>exact rfl,?_⟩
   simp [leave,LP,S9,Sw,snap,D.Sz,D.Sy,D.free,D.Td,Ar,Ck,ho',hHl,hne]

def fm1 : FM:=⟨1,2,0,1,false,false,by decide⟩
def fm2 : FM:=⟨1,3,3,2,true,false,by decide⟩
section
variable (d : Nat) (S : St) (p : Nat)
theorem typed_x : Da LP NN (d + 20) 48 [.agg [.int .i64 2,.int .i64 4,.int .u8 4,.Tk,.int .u8 5,.int .u8 0,.str ⟨#[90,90,57]⟩,.int .i64 3,.int .i64 0,.bool false,.bool false,.bool false,.bool false,.bool false,.int .i64 3,.sl 5 [[.int .u8 1,.str ⟨#[78]⟩,.int .i64 (p : Nat),.int .i64 12,.bool false]] (some 1)],.str ⟨#[120]⟩] S = some (.tup [.Tk,.bool false],S,false):=by kernel_rfl
theorem typed_7 : Da LP NN (d + 20) 48 [.agg [.int .i64 2,.int .i64 4,.int .u8 4,.Tk,.int .u8 5,.int .u8 0,.str ⟨#[90,90,57]⟩,.int .i64 3,.int .i64 0,.bool false,.bool false,.bool false,.bool false,.bool false,.int .i64 3,.sl 5 [[.int .u8 1,.str ⟨#[78]⟩,.int .i64 (p : Nat),.int .i64 12,.bool false]] (some 1)],.str ⟨#[55]⟩] S = some (.tup [.sl 1 [[.int .u8 32],[.int .u8 32],[.int .u8 55]] (some 3),.bool true],S,false):=by kernel_rfl
end
def P0v : List (FM × List UInt8):=[(fm1,[65,66]),(fm2,[32,49,50])]
theorem out_cl : G8 (Ea P0v) 24 = [.str ⟨#[]⟩] :: [.str ⟨#[32,32,65,32,49,50]⟩] :: List.replicate 22 [.str ⟨#[]⟩]:=by kernel_rfl

def T2 : Nat→Nat→D × Bool:=fun _ j=>if j = 0 then (.Tk,false) else ((.sl 1 [[.int .u8 32],[.int .u8 32],[.int .u8 55]] (some 3)),true)
theorem acc_cl : Kb T2 2 [fm1,fm2] 0 0 [] = some (2,[(1,(.sl 1 [[.int .u8 32],[.int .u8 32],[.int .u8 55]] (some 3)))]):=by
 have h1 : fm1.kind = 1:=rfl
 have h2 : fm2.kind = 4:=rfl
 rw [Kb,if_pos (by rw [h1]; omega),Kb,if_neg (by rw [h2]; omega),F4,if_pos (by omega),if_neg (by simp [T2]),F4,if_pos (by omega),if_pos (by simp [T2])]
 simp [Kb,T2]
theorem SrcV.of {H : List Sk} {gv n vv : Nat} {vals : List D} {gr : Bool} (hg : H[gv]? = some ⟨42,1,vals.map fun v=>[v],vv,0,gr⟩) (hn : n = vals.length) : SrcV H (.msl gv vv 0 n none) vals gv vv:=by
 subst hn
 refine ⟨rfl,rfl,fun m l=>?_,fun l lo i hi=>?_,fun l lo i v hv=>?_⟩
 ·
  rw [Mw,H5,Cg (Bh hg),hg]; simp
 ·
  simp [Fg,rowsOf,Cg (Bh hg),hg,hi]
 ·
  simp [Gq,rowsOf,Cg (Bh hg),hg,hv,Ay]
theorem lives_T (d : Nat) (hd : 20 ≤ d) : ∀ i j p (hi : i < [fm1,fm2].length) (hj : j < ([⟨#[120]⟩,⟨#[55]⟩] : List ByteArray).length),3 ≤ ([fm1,fm2][i]).kind→(∀ d',d = d'→∀ S,Bf LP NN d' 48 [.agg (Gm [fm1,fm2][i] p),.str ([⟨#[120]⟩,⟨#[55]⟩] : List ByteArray)[j]] S = some (.tup [(T2 i j).1,.bool (T2 i j).2],S,false))∧∃ ys,SlD 1 ys (T2 i j).1:=by
 intro i j p hi hj hk
 match i,hi,hk with
 | 0,_,hk=>exact absurd hk (show ¬ 3 ≤ fm1.kind from by decide)
 | 1,_,_ =>
  match j,hj with
  | 0,_=>exact ⟨fun d' e S=>by subst e; obtain ⟨d,rfl⟩ : ∃ d',d = d' + 20:=⟨d - 20,by omega⟩; exact fast_ok (typed_x d S p),[],.nil 1⟩
  | 1,_=>exact ⟨fun d' e S=>by subst e; obtain ⟨d,rfl⟩ : ∃ d',d = d' + 20:=⟨d - 20,by omega⟩; exact fast_ok (typed_7 d S p),_,.of _ _ _⟩
  | j + 2,h=>exact absurd h (by simp)
 | i + 2,h,_=>exact absurd h (by simp)

theorem Jv {d : Nat} (hd : 26 ≤ d) (S : St) : Bf LP NN d 8 [] S = some (.bool true,S,false):=by
 obtain ⟨H',x0,gs,rows,wr,hof,-,-,hFL,hRW,-⟩:=of_run (d:=d - 1) (by omega) [] 0 (by simp) (lx:=.sl 6 [[.int .u8 1,.int .u8 2,.int .u8 0,.int .u8 1,.bool false,.bool false],[.int .u8 1,.int .u8 3,.int .u8 3,.int .u8 2,.bool true,.bool false]] (some 2)) (l:=[fm1,fm2]) (SlD.of 6 (Ik [fm1,fm2]) (some 2)) (by decide)
 obtain ⟨v,hS⟩:=hFL.src
 have hrl : rows.length = 2:=hRW.len
 have hS2:=hS.mono [⟨36,4,[[.str nmA,Ck x0,.int .i64 ((1 : Nat) : Int),.int .i64 ((12 : Nat) : Int)]],0,0,false⟩,⟨5,1,[[.int .u8 32],[.int .u8 49],[.int .u8 50]],1,2,false⟩,⟨42,1,[[.Tk],[.sl 1 [[.int .u8 32],[.int .u8 49],[.int .u8 50]] (some 3)]],0,0,false⟩]
 have hxl:=hS.len
 rw [hrl] at hxl
 have hcl:=hS.cell
 have hv : SrcV (H' ++ [⟨36,4,[[.str nmA,Ck x0,.int .i64 ((1 : Nat) : Int),.int .i64 ((12 : Nat) : Int)]],0,0,false⟩,⟨5,1,[[.int .u8 32],[.int .u8 49],[.int .u8 50]],1,2,false⟩,⟨42,1,[[.Tk],[.sl 1 [[.int .u8 32],[.int .u8 49],[.int .u8 50]] (some 3)]],0,0,false⟩]) (.msl (H'.length + 2) 0 0 2 none) [.Tk,.sl 1 [[.int .u8 32],[.int .u8 49],[.int .u8 50]] (some 3)] (H'.length + 2) 0:=.of (gr:=false) (by rw [Bu]; rfl) rfl
 have hshow:=fun lo=>show_run (d:=d - 1) (by omega) (P:=P0v) hS2 hRW hv (by decide) rfl (fun i p w hp hw=>by
  match i with
  | 0=>cases hp; cases hw; exact ⟨rfl,rfl⟩
  | 1=>cases hp; cases hw; exact ⟨rfl,by rw [if_neg (by decide)]; exact SlD.rdb (SlD.of 1 (bR [32,49,50]) (some 3)) _⟩
  | i + 2=>simp [P0v] at hp) nmA 1 12 lo
 rw [out_cl] at hshow
 have hacc:=accept_run (d:=d - 1) (by omega) (T:=T2) (ls:=[⟨#[120]⟩,⟨#[55]⟩]) (xl:=.sl 1 [[.str ⟨#[120]⟩],[.str ⟨#[55]⟩]] (some 2)) (lo:=0) hS2 hRW (SlD.of 1 _ _) (by decide) (by simp) (fun i j p hi hj hk=>by
  obtain ⟨h1,h2⟩:=lives_T (d - 1 - 1) (by omega) i j p hi hj hk
  exact ⟨fun d' e S=>h1 d' (by omega) S,h2⟩) nmA 1 12 (by omega)
 rw [show ([⟨#[120]⟩,⟨#[55]⟩] : List ByteArray).length = 2 from rfl,acc_cl] at hacc
 obtain ⟨_,⟨y,H3,go,wr2,rfl,hTL,-,-,-⟩,hacc⟩:=hacc
 rcases hTL with ⟨-,hbad⟩ | ⟨vs,rfl,h3⟩
 ·
  cases hbad
 have h3' : H3[go]? = some ⟨74,2,[[.int .i64 1,(.sl 1 [[.int .u8 32],[.int .u8 32],[.int .u8 55]] (some 3))]],vs,0,true⟩:=h3
 have hol : ∀ i : Nat,2 ≤ i→i < 24→(([.str ⟨#[]⟩] :: [.str ⟨#[32,32,65,32,49,50]⟩] :: List.replicate 22 [.str ⟨#[]⟩] : List (List D)))[i]? = some [.str ⟨#[]⟩]:=fun i h1 h2=>by
  obtain ⟨j,rfl⟩ : ∃ j,i = j + 2:=⟨i - 2,by omega⟩
  rw [Ls_,Ls_,List.getElem?_replicate,if_pos (by omega)]
 have h3p:=h3'
 have h24l : ((⟨#[UInt8.ofNat 32,UInt8.ofNat 32,UInt8.ofNat 55]⟩ : ByteArray).toList == (⟨#[32,32,55]⟩ : ByteArray).toList) = true:=by decide +kernel
 refine run_pure (F:=F8) rfl (by simp only [LP,Ar]<;>exact rfl) rfl (by simp only [LP,zm]; try rfl) (by simp only [F8,zv]<;>exact rfl) (by omega) ?_
 rintro d rfl
 have zz2:=And.intro @beq_self_eq_true.{0} (And.intro @Bool.not_true (And.intro hxl (And.intro hcl (And.intro @Bu (And.intro @Di (And.intro h3p (h24l)))))))
 refine Ad (Bj ?_)
 refine Aa (Af ?_)
 refine Ad (xo29 ?_)
 refine xo29 ?_
 refine xo28 ?_
 refine Ag rfl (Aa ?_)
 refine Af ?_
 refine Ad (Ae rfl ?_)
 refine Ab (by simp only [zo]; exact hof) ?_
 refine Ag rfl (xo17 ?_)
 refine Pz ?_
 refine xo6 ?_
 refine xo30 ?_
 refine Ag rfl (Aa ?_)
 refine Af ?_
 refine Aj (Ad ?_)
 refine Ae rfl (Ab (by simp only [zo,unD,zz2]<;>exact rfl) ?_)
 refine Ag rfl (Ch 0 (b:=false) ?_)
 refine Ah rfl (xo0 ?_)
 refine Ah rfl (xo4 ?_)
 refine Ah rfl (Ab (by simp only [zo,zz2]<;>exact rfl) ?_)
 refine Ah rfl (xo2 ?_)
 refine xo1 ?_
 refine Aa (Af ?_)
 skip
 refine Cq ?_
 refine Ap (Bt rfl (Ad ?_))
 refine xo4 ?_
 refine Nt ?_
 refine Ab (by simp only [zl,zm,P7,zz2]<;>exact rfl) ?_
 refine Nt ?_
 refine Ab (by simp only [zo]; exact (hshow _)) ?_
 refine Ag rfl (xo17 ?_)
 refine Pz ?_
 refine Ag rfl (Ag rfl ?_)
 refine Aa (Af ?_)
 refine Ad (xo4 ?_)
 refine Nt ?_
 refine Ab (by simp only [zo]; exact hacc) ?_
 refine Ag rfl (xo17 ?_)
 refine Pz ?_
 refine Pz ?_
 refine Ag rfl (Ag rfl ?_)
 refine Ag rfl (Aa ?_)
 refine Af ?_
 refine Aj (Ad ?_)
 refine Ae rfl (xo2 ?_)
 refine Ag rfl (Ch 0 (b:=false) ?_)
 refine Ah rfl (Ae rfl ?_)
 refine Ah rfl (xo2 ?_)
 refine xo1 ?_
 refine Ag rfl (Ch 0 (b:=false) ?_)
 refine Ah rfl (Ae rfl ?_)
 refine Ah rfl (Ab (by simp only [zo,O6]<;>exact rfl) ?_)
 refine Ah rfl (xo2 ?_)
 refine xo1 ?_
 refine Ag rfl (Ch 0 (b:=false) ?_)
 refine Ah rfl (Ae rfl ?_)
 refine Ah rfl (Lc ?_)
 refine Ah rfl (xo2 ?_)
 refine xo1 ?_
 refine Aa (Af ?_)
 skip
 refine Cq ?_
 refine Ap (Bt rfl (Aj (Ad ?_)))
 refine Bj (Aa ?_)
 refine Af ?_
 refine Av ?_
 refine D5 (fun n env S'=>∃ (i : Nat) (u12 u13 : D),2 ≤ i∧i ≤ 24∧n = 24 - i∧S' = ⟨H3,0⟩∧env = [.bool false,.sl 6 [[.int .u8 1,.int .u8 2,.int .u8 0,.int .u8 1,.bool false,.bool false],[.int .u8 1,.int .u8 3,.int .u8 3,.int .u8 2,.bool true,.bool false]] (some 2),.ptr H'.length 0 0 0,.bool true,.sl 1 ([.str ⟨#[]⟩] :: [.str ⟨#[32,32,65,32,49,50]⟩] :: List.replicate 22 [.str ⟨#[]⟩]) (some 24),.int .i64 0,.msl go vs 0 1 (some 1),.int .i64 2,.int .i64 0,.int .i64 (i : Nat),.bool false,.bool false,u12,u13]) (22) (by omega) (⟨2,_,_,by omega,by omega,by omega,rfl,rfl⟩) ?_
 rintro n env S' ⟨i,u12,u13,hi2,hi,hnk,rfl,rfl⟩
 refine Aj (Ad ?_)
 refine Ae rfl (xo2 ?_)
 refine Aa (Af ?_)
 refine Cm (by simp only [opd,zv]<;>exact rfl) (fun hcA=>?_) (fun hcA=>?_)
 ·
  have hlt : i < 24:=by have:=of_decide_eq_true hcA; omega
  have hw:=Du i (by omega)
  have hii:=hol i hi2 hlt
  have h0 : (0 : Int) ≤ (i : Int):=by omega
  refine Ap (Bt rfl (Aj (Av (Ad ?_))))
  refine Ae rfl (Ae rfl ?_)
  refine Ab (by simp only [zl,zm,Jz,Int.toNat_natCast,hii,h0]<;>exact rfl) ?_
  refine xo5 ?_
  refine Ns ?_
  refine Aa (Af ?_)
  skip
  refine Cq ?_
  refine Ap (Eh (Bt rfl (Bc ?_)))
  refine Ae rfl (Ab (by simp only [zo,Bo,hw]<;>exact rfl) ?_)
  refine Ag rfl (Aa ?_)
  refine Gr (by simp only [ze]<;>exact rfl) ?_
  exact ⟨24 - (i + 1),by omega,i + 1,_,_,by omega,by omega,rfl,rfl,rfl⟩
 ·
  have hlt : i = 24:=by have:=of_decide_eq_false hcA; omega
  subst hlt
  refine Dq (H6 (Iz (Ig (Bt rfl (Ad ?_)))))
  refine Ae rfl (Ab (by simp only [zl,zm,Jz,Int.toNat_zero,Int.le_refl]<;>exact rfl) ?_)
  refine xo5 ?_
  refine Ns ?_
  refine Ag rfl (Ch 0 (b:=true) ?_)
  refine Ah rfl (Ae rfl ?_)
  refine Ah rfl (Ab (by simp only [zl,zm,Jz]<;>exact rfl) ?_)
  refine Ah rfl (xo5 ?_)
  refine Ah rfl (Ns ?_)
  refine xo1 ?_
  refine Ag rfl (Ch 0 (b:=true) ?_)
  refine Ah rfl (Ae rfl ?_)
  refine Ah rfl (Ab (by simp only [zl,zm,Cj,Int.toNat_zero,Int.le_refl,zz2]<;>exact rfl) ?_)
  refine Ah rfl (xo0 ?_)
  refine Ah rfl (xo4 ?_)
  refine Ah rfl (Ns ?_)
  refine xo1 ?_
  refine Ag rfl (Ch 0 (b:=true) ?_)
  refine Ah rfl (Ae rfl ?_)
  refine Ah rfl (Ab (by simp only [zl,zm,Cj,Int.toNat_zero,Int.le_refl,zz2]<;>exact rfl) ?_)
  refine Ah rfl (xo0 ?_)
  refine Ah rfl (xo4 ?_)
  refine Ah rfl (Ab (by simp only [zl,zm,H7]<;>exact rfl) ?_)
  refine Ah rfl (Ab (by simp only [zo,Bo,Int.reduceToNat,zz2]<;>exact rfl) ?_)
  refine xo1 ?_
  refine Ag rfl (Ch 0 (b:=true) ?_)
  refine Ah rfl (Ae rfl ?_)
  refine Ah rfl (Ab (by simp only [zo,Bo,Int.reduceToNat,zz2]<;>exact rfl) ?_)
  refine xo1 ?_
  refine Ag rfl (Aa ?_)
  refine Af ?_
  refine Br ?_
  refine ⟨_,by simp only [F8,Au,Bz,Dn,zg]<;>exact rfl,?_⟩
  simp only [Dx,leave,zs,zf,zk]

def nmC : ByteArray:=⟨#[67]⟩

def cstep (r c : Nat) (acc : UInt8) (p : FM × List UInt8) : UInt8:=if r + 1 = p.1.line∧p.1.column ≤ c + 1∧c + 1 < p.1.column + p.1.size then prn (p.2.getD (c + 1 - p.1.column) 0) else acc
def cellT (P : List (FM × List UInt8)) (r c k : Nat) : UInt8:=(P.take k).foldl (cstep r c) 32
def preG (P : List (FM × List UInt8)) (r j : Nat) : List UInt8:=(List.range j).map (Ea P r)
def RLi (l : List Sk) (q : Nat) (x : D) (rows : List (List D)) : Prop:=(x = .Tk∧rows = []) ∨ ∃ vs,x = .msl q vs 0 rows.length none∧l[q]? = some ⟨9,1,rows,vs,1,true⟩
theorem RLi.app {l : List Sk} {q lo : Nat} {x : D} {rows : List (List D)} {row : List D} (h : RLi l q x rows) (hlo : lo ≤ q ∨ x = .Tk) (hl : rows.length < 1000) :
  ∃ x' l' q',Cf 9 1 16 1 x (.sl 1 [row] (some 1)) ⟨l,lo⟩ = some (x',⟨l',lo⟩,true)∧RLi l' q' x' (rows ++ [row])∧(q' = q ∨ q' = l.length)∧l.length ≤ l'.length∧∀ (k : Nat) (o : Sk),l[k]? = some o→o.elem ≠ 9→l'[k]? = some o:=by
 rcases h with ⟨rfl,rfl⟩ | ⟨vs,rfl,ho⟩
 ·
  refine ⟨.msl l.length 0 0 1 none,l ++ [⟨9,1,[row],0,1,true⟩],l.length,?_,.inr ⟨0,rfl,by simp⟩,.inr rfl,by simp,fun k o h _=>by rw [Cg (Bh h)]; exact h⟩
  simp [Cf,Dh,Bl,newAt]
 ·
  have hql:=Bh ho
  have hlo' : lo ≤ q:=by
   rcases hlo with h | h
   ·
    exact h
   ·
    cases h
  refine ⟨.msl q (vs + 1) 0 (rows.length + 1) none,l.set q ⟨9,1,rows ++ [row],vs + 1,1,true⟩,q,?_,.inr ⟨vs + 1,by simp,Ei hql _⟩,.inl rfl,by simp,fun k o h he=>?_⟩
  ·
   have hb : (rows.length + 1) * 16 ≤ 140737488355328:=by omega
   have hmin : min lo q = lo:=by omega
   simp [Cf,Dh,Bl,rowsOf,ho,setAt,hb,hmin]
  ·
   rw [Ln_ ?_]
   ·
    exact h
   ·
    intro e
    subst e
    rw [ho] at h
    cases h
    exact he rfl
theorem RLi.more {l : List Sk} {q : Nat} {x : D} {rows : List (List D)} (h : RLi l q x rows) (m : List Sk) : RLi (l ++ m) q x rows:=by
 rcases h with h | ⟨vs,h1,h2⟩
 ·
  exact .inl h
 ·
  exact .inr ⟨vs,h1,by rw [Cg (Bh h2)]; exact h2⟩
theorem RLi.len {l : List Sk} {q : Nat} {x : D} {rows : List (List D)} (h : RLi l q x rows) : Iw false x = some (.int .i64 (rows.length : Nat)):=by
 rcases h with ⟨rfl,rfl⟩ | ⟨vs,rfl,_⟩<;>rfl
def orow (G : Il) (i : Nat) : List (List D):=(List.range i).map fun r=>[.str (trS G r)]
def RG (e kind : Nat) (l : List Sk) (n0 q : Nat) (x : D) (rows : List (List D)) : Prop:=(x = .Tk∧rows = []) ∨ ∃ vs,x = .msl (n0 + q) vs 0 rows.length none∧l[q]? = some ⟨e,1,rows,vs,kind,true⟩
theorem RG.more {e kind n0 q : Nat} {l : List Sk} {x : D} {rows : List (List D)} (h : RG e kind l n0 q x rows) (m : List Sk) : RG e kind (l ++ m) n0 q x rows:=by
 rcases h with h | ⟨vs,h1,h2⟩
 ·
  exact .inl h
 ·
  exact .inr ⟨vs,h1,by rw [Cg (Bh h2)]; exact h2⟩
theorem RG.keep {e kind n0 q : Nat} {l l' : List Sk} {x : D} {rows : List (List D)} (h : RG e kind l n0 q x rows) (hk : ∀ (k : Nat) (o : Sk),l[k]? = some o→o.elem = e→l'[k]? = some o) : RG e kind l' n0 q x rows:=by
 rcases h with h | ⟨vs,h1,h2⟩
 ·
  exact .inl h
 ·
  exact .inr ⟨vs,h1,hk _ _ h2 rfl⟩
theorem RG.app0 {H l : List Sk} {e b q lo : Nat} {x : D} {rows : List (List D)} {row : List D} (h : RG e 0 l H.length q x rows) (hq : 0 < q) (hlo : lo ≤ H.length) (hl : rows.length < 1000) (hb : b ≤ 1000) (hpos : 0 < l.length) :
  ∃ x' l' q',Cf e 1 b 0 x (.msl (H.length + l.length) 0 0 1 none) ⟨H ++ (l ++ [⟨e,1,[row],0,0,false⟩]),lo⟩ = some (x',⟨H ++ l',lo⟩,true)∧RG e 0 l' H.length q' x' (rows ++ [row])∧0 < q'∧l.length ≤ l'.length∧l'[0]? = l[0]?∧∀ (k : Nat) (o : Sk),l[k]? = some o→o.elem ≠ e→l'[k]? = some o:=by
 have hr : (H ++ (l ++ [(⟨e,1,[row],0,0,false⟩ : Sk)]))[H.length + l.length]? = some ⟨e,1,[row],0,0,false⟩:=by rw [Bu,Di]; rfl
 have hread : Dj ⟨H ++ (l ++ [⟨e,1,[row],0,0,false⟩]),lo⟩ 1 (.msl (H.length + l.length) 0 0 1 none) = some [row]:=by simp [Dj,rowsOf]
 rcases h with ⟨rfl,rfl⟩ | ⟨vs,rfl,ho⟩
 ·
  have hbb : b ≤ 140737488355328:=by omega
  refine ⟨.msl (H.length + (l.length + 1)) 0 0 1 none,l ++ [⟨e,1,[row],0,0,false⟩,⟨e,1,[row],0,0,true⟩],l.length + 1,?_,.inr ⟨0,rfl,by simp⟩,by omega,by simp,by rw [La_ hpos],fun k o h _=>by rw [Cg (Bh h)]; exact h⟩
  simp [Cf,hread,Bl,newAt,hbb]
 ·
  have hql:=Bh ho
  have hz : (H ++ (l ++ [(⟨e,1,[row],0,0,false⟩ : Sk)]))[H.length + q]? = some ⟨e,1,rows,vs,0,true⟩:=by rw [Bu,Cg hql]; exact ho
  refine ⟨.msl (H.length + q) (vs + 1) 0 (rows.length + 1) none,l.set q ⟨e,1,rows ++ [row],vs + 1,0,true⟩ ++ [⟨e,1,[row],0,0,false⟩],q,?_,.inr ⟨vs + 1,by simp,by rw [Cg (by simpa using hql)]; exact Ei hql _⟩,hq,by simp,?_,fun k o h he=>?_⟩
  ·
   have hbb : (rows.length + 1) * b ≤ 140737488355328:=by
    have:=Nat.mul_le_mul (show rows.length + 1 ≤ 1000 by omega) hb
    omega
   have hmin : min lo (H.length + q) = lo:=by omega
   simp [Cf,hread,Bl,rowsOf,hz,setAt,hbb,hmin,G7 hql]
  ·
   rw [La_ (by simpa using hpos),Ln_ (by omega)]
  ·
   rw [Cg (by simpa using Bh h),Ln_ ?_]
   ·
    exact h
   ·
    intro e'
    subst e'
    rw [ho] at h
    cases h
    exact he rfl
def atN (l : List FM) (i : Nat) : Nat:=((l.take i).map FM.size).sum
def plB (raw : List UInt8) (a n : Nat) : List UInt8:=(List.range n).map fun k=>raw.getD (a + k) 97
def plR (l : List FM) (raw : List UInt8) (i : Nat) : List ByteArray:=(List.range i).map fun j=>mkS (plB raw (atN l j) ((l[j]?.map FM.size).getD 0))
def vlR (l : List FM) (raw : List UInt8) (i : Nat) : List D:=(List.range i).map fun j=>.sl 1 (Be (if (l[j]?.map FM.kind).getD 0 = 1∧atN l (j + 1) % 2 = 0 then ⟨#[]⟩ else mkS (plB raw (atN l j) ((l[j]?.map FM.size).getD 0)))) none
def PLs (l : List FM) (raw : List UInt8) : List (FM × List UInt8):=l.mapIdx fun i f=>(f,if f.kind = 1 then f.text.data.toList else plB raw (atN l i) f.size)
theorem SrcV.nil (H : List Sk) : SrcV H .Tk [] 0 0:=⟨rfl,rfl,fun _ _=>rfl,fun _ _ i h=>absurd h (by simp),fun _ _ i v h=>by simp at h⟩
theorem Gi {d : Nat} (hd : 18 ≤ d) {H : List Sk} {x : D} {rows r1 r2 : List (List D)} {gs v idx : Nat} {l0 : List FM} {bl bc bk ct dg bs code : Int} {pc : ByteArray} {tx op : D} (hS : SrcF H x rows gs v) (hlen : rows.length ≤ 256) (hl0 : rows.length ≤ l0.length) (hidx : idx < rows.length) (hgood : ∀ (i : Nat),i < idx→∀ hl : i < l0.length,∃ p,rows[i]? = some (Gm l0[i] p))
  (hbad : rows[idx]? = some [.int .i64 bl,.int .i64 bc,.int .u8 bk,tx,.int .u8 ct,.int .u8 0,.str pc,.int .i64 dg,.int .i64 0,.bool false,.bool false,.bool false,.bool false,.bool false,.int .i64 bs,op]) (htx : SlD 1 r1 tx) (hop : SlD 5 r2 op) (hcase : decide (bk < 1) = true∧code = 1 ∨ decide (bk < 1) = false∧decide (bk > 4) = true∧code = 1 ∨ decide (bk < 1) = false∧decide (bk > 4) = false∧(∀ d',d = d' + 1→∀ S,Bf LP NN d' 38 [.agg [.int .u8 ct,.int .u8 0,.str pc,.int .i64 dg,.int .i64 0,.bool false,.bool false,.bool false,.bool false,.bool false,.int .i64 bs]] S = some (.int .i64 5,S,false))∧code = 1 ∨ decide (bk < 1) = false∧decide (bk > 4) = false∧(∀ d',d = d' + 1→∀ S,Bf LP NN d' 38 [.agg [.int .u8 ct,.int .u8 0,.str pc,.int .i64 dg,.int .i64 0,.bool false,.bool false,.bool false,.bool false,.bool false,.int .i64 bs]] S = some (.int .i64 0,S,false))∧(bk == 1) = true∧(ct != 2) = false∧(((r1.length : Nat) : Int) != bs) = false∧(∀ d',d = d' + 1→∀ S,Bf LP NN d' 39 [.agg [.int .i64 bl,.int .i64 bc,.int .u8 bk,tx,.int .u8 ct,.int .u8 0,.str pc,.int .i64 dg,.int .i64 0,.bool false,.bool false,.bool false,.bool false,.bool false,.int .i64 bs,op]] S = some (.bool false,S,false))∧code = 13 ∨ decide (bk < 1) = false∧decide (bk > 4) = false∧(∀ d',d = d' + 1→∀ S,Bf LP NN d' 38 [.agg [.int .u8 ct,.int .u8 0,.str pc,.int .i64 dg,.int .i64 0,.bool false,.bool false,.bool false,.bool false,.bool false,.int .i64 bs]] S = some (.int .i64 0,S,false))∧(bk == 1) = false∧(∀ d',d = d' + 1→∀ S,Bf LP NN d' 39 [.agg [.int .i64 bl,.int .i64 bc,.int .u8 bk,tx,.int .u8 ct,.int .u8 0,.str pc,.int .i64 dg,.int .i64 0,.bool false,.bool false,.bool false,.bool false,.bool false,.int .i64 bs,op]] S = some (.bool false,S,false))∧code = 13) (nm : ByteArray) (p0 c0 : Nat) (lo : Nat) :
  Bf LP NN d 13 [.agg [.str nm,x,.int .i64 (p0 : Nat),.int .i64 (c0 : Nat)]] ⟨H,lo⟩ = some (.int .i64 code,⟨H,lo⟩,false):=by
 have hx256 : decide (((rows.length : Nat) : Int) > 256) = false:=decide_eq_false (by omega)
 refine Dl (F:=F13) rfl (by simp only [LP,Ar,Bw,zs,zm,hS.zero]<;>exact rfl) rfl (by simp only [LP,zf,zm]; try rfl) (by simp only [F13,zv]<;>exact rfl) (by omega) ?_
 rintro d rfl
 have zz2:=And.intro hS.len (And.intro hS.cell (And.intro hx256 (And.intro @Bu (@Di))))
 refine Ad (Ab (by simp only [zl,zm,zc,zz2]<;>exact rfl) ?_)
 refine Bj (Aa ?_)
 refine Af ?_
 refine Aj (Ad ?_)
 refine xo0 ?_
 refine xo4 ?_
 refine Ab (by simp only [zo,zz2]<;>exact rfl) ?_
 refine Ns ?_
 refine Aa (Af ?_)
 skip
 refine Cq ?_
 refine Ap (Bt rfl (Aj (Ad ?_)))
 refine xo0 ?_
 refine xo4 ?_
 refine Ab (by simp only [zo,zz2]<;>exact rfl) ?_
 refine Bj (Aa ?_)
 refine Af ?_
 refine Av ?_
 refine D5 (fun n env S'=>∃ (i : Nat) (l : List Sk) (u3 u9 u10 u11 u8 : D),i ≤ idx∧n = rows.length - i∧S' = ⟨H ++ ⟨36,4,[[.str nm,x,.int .i64 (p0 : Nat),.int .i64 (c0 : Nat)]],0,0,false⟩ :: l,H.length⟩∧env = [.agg [.str nm,x,.int .i64 (p0 : Nat),.int .i64 (c0 : Nat)],.ptr H.length 0 0 0,.int .i64 0,u3,.bool false,x,.int .i64 rows.length,.int .i64 i,u8,u9,u10,u11]) (rows.length) (by omega) (⟨0,[],_,_,_,_,_,by omega,by omega,rfl,rfl⟩) ?_
 rintro n env S' ⟨i,l,u3,u9,u10,u11,u8,hi,hnk,rfl,rfl⟩
 have hltr : i < rows.length:=by omega
 have hdl : decide (((i : Nat) : Int) < ((rows.length : Nat) : Int)) = true:=decide_eq_true (by omega)
 have hw:=Du i (by omega)
 have hia:=fun l lo=>hS.ia l lo i hltr
 have hat : ∀ (o : Sk) (m : List Sk),(H ++ ⟨36,4,[[.str nm,x,.int .i64 (p0 : Nat),.int .i64 (c0 : Nat)]],0,0,false⟩ :: (l ++ o :: m))[H.length + (l.length + 1)]? = some o:=fun o m=>by rw [Bu,Ls_,Di]; rfl
 have hst : ∀ (o y : Sk) (m : List Sk),(H ++ ⟨36,4,[[.str nm,x,.int .i64 (p0 : Nat),.int .i64 (c0 : Nat)]],0,0,false⟩ :: (l ++ o :: m)).set (H.length + (l.length + 1)) y = H ++ ⟨36,4,[[.str nm,x,.int .i64 (p0 : Nat),.int .i64 (c0 : Nat)]],0,0,false⟩ :: (l ++ y :: m):=fun o y m=>by rw [Et,List.set_cons_succ,Fb]; rfl
 rcases (show (i < idx∧(l0[i]?.map FM.kind).getD 0 = 1) ∨ (i < idx∧¬ (l0[i]?.map FM.kind).getD 0 = 1) ∨ i = idx from by omega) with ⟨hix,hk0⟩ | ⟨hix,hk0⟩ | rfl
 rotate_left 2
 rcases hcase with ⟨hb1,rfl⟩ | ⟨hb1,hb2,rfl⟩ | ⟨hb1,hb2,hpb,rfl⟩ | ⟨hb1,hb2,hpb,hb3,hb4,hb5,hfb,rfl⟩ | ⟨hb1,hb2,hpb,hb3,hfb,rfl⟩
 ·
  have hld:=fun (l : List Sk) lo=>hS.ld l lo i _ hbad (by simp)
  simp only [List.take_succ_cons,List.take_zero] at hld
  have zz3:=And.intro hdl (And.intro hw (And.intro hia (And.intro hat (And.intro hst (And.intro hld (And.intro htx.Tc (And.intro hop.Tc (And.intro htx.cells (And.intro hop.cells (And.intro htx.val (And.intro hop.val (And.intro htx.len (hb1)))))))))))))
  refine Ad (Ab (by simp only [zo,Bo,zz3]<;>exact rfl) ?_)
  refine Aa (Af ?_)
  refine Aj ?_
  skip
  refine E9 ?_
  refine Ap (Bt rfl (Aj (Av (Ad ?_))))
  refine Ab (by simp only [zl,zm,zz3]<;>exact rfl) ?_
  refine Ab (by simp only [zl,zm,zz3]<;>exact rfl) ?_
  refine xo6 ?_
  refine Ab (by simp only [zl,zm,Bq,overlay,Bw,zs,zc,zf,List.take,List.drop,zz2,zz3]<;>exact rfl) ?_
  refine Aa (Af ?_)
  refine Av (Ad ?_)
  refine xo0 ?_
  refine xo4 ?_
  refine Ab (by simp only [zo,Bo,zz3]<;>exact rfl) ?_
  refine Ag rfl (Ch 0 (b:=true) ?_)
  refine Bb rfl rfl ?_
  refine Bb rfl rfl ?_
  refine Bb rfl rfl ?_
  refine xo1 ?_
  refine Ag rfl (Bb rfl rfl ?_)
  refine Bb rfl rfl ?_
  refine Bb rfl rfl ?_
  refine Bb rfl rfl ?_
  refine xo1 ?_
  refine Ag rfl (Aa ?_)
  refine Af ?_
  refine Pp (by simp only [opd,zv]) ?_
  refine Ad (Bj ?_)
  refine Aa (Af ?_)
  refine Br (Hr (Hr (Gc (lk_r (Hr (Gc ?_))))))
  refine ⟨_,by simp only [F13,Au,Bz,Dn,zg]<;>exact rfl,?_⟩
  simp [leave,LP,S9,Sw,snap,D.Sz,D.Sy,D.free,D.Td]
 ·
  have hld:=fun (l : List Sk) lo=>hS.ld l lo i _ hbad (by simp)
  simp only [List.take_succ_cons,List.take_zero] at hld
  have zz4:=And.intro hdl (And.intro hw (And.intro hia (And.intro hat (And.intro hst (And.intro hld (And.intro htx.Tc (And.intro hop.Tc (And.intro htx.cells (And.intro hop.cells (And.intro htx.val (And.intro hop.val (And.intro htx.len (And.intro hb1 (hb2))))))))))))))
  refine Ad (xo16 ?_)
  refine Aa (Af ?_)
  refine Aj ?_
  skip
  refine E9 ?_
  refine Ap (Bt rfl (Aj (Av (Ad ?_))))
  refine Ab (by simp only [zl,zm,zz4]<;>exact rfl) ?_
  refine Ab (by simp only [zl,zm,zz4]<;>exact rfl) ?_
  refine xo6 ?_
  refine Ab (by simp only [zl,zm,Bq,overlay,Bw,zs,zc,zf,List.take,List.drop,zz2,zz4]<;>exact rfl) ?_
  refine Aa (Af ?_)
  refine Av (Ad ?_)
  refine xo0 ?_
  refine xo4 ?_
  refine xo16 ?_
  refine Ag rfl (Ch 0 (b:=false) ?_)
  refine Ah rfl (xo0 ?_)
  refine Ah rfl (xo4 ?_)
  refine Ah rfl (xo16 ?_)
  refine xo1 ?_
  refine Ag rfl (Ch 0 (b:=true) ?_)
  refine Bb rfl rfl ?_
  refine Bb rfl rfl ?_
  refine Bb rfl rfl ?_
  refine Bb rfl rfl ?_
  refine xo1 ?_
  refine Ag rfl (Aa ?_)
  refine Af ?_
  refine Pp (by simp only [opd,zv]) ?_
  refine Ad (Bj ?_)
  refine Aa (Af ?_)
  refine Br (Hr (Hr (Gc (lk_r (Hr (Gc ?_))))))
  refine ⟨_,by simp only [F13,Au,Bz,Dn,zg]<;>exact rfl,?_⟩
  simp [leave,LP,S9,Sw,snap,D.Sz,D.Sy,D.free,D.Td]
 ·
  have hld:=fun (l : List Sk) lo=>hS.ld l lo i _ hbad (by simp)
  simp only [List.take_succ_cons,List.take_zero] at hld
  have zz5:=And.intro hdl (And.intro hw (And.intro hia (And.intro hat (And.intro hst (And.intro hld (And.intro htx.Tc (And.intro hop.Tc (And.intro htx.cells (And.intro hop.cells (And.intro htx.val (And.intro hop.val (And.intro htx.len (And.intro hb1 (hb2))))))))))))))
  refine Ad (xo22 ?_)
  refine Aa (Af ?_)
  refine Aj ?_
  skip
  refine E9 ?_
  refine Ap (Bt rfl (Aj (Av (Ad ?_))))
  refine Ab (by simp only [zl,zm,zz5]<;>exact rfl) ?_
  refine Ab (by simp only [zl,zm,zz5]<;>exact rfl) ?_
  refine xo6 ?_
  refine Ab (by simp only [zl,zm,Bq,overlay,Bw,zs,zc,zf,List.take,List.drop,zz2,zz5]<;>exact rfl) ?_
  refine Aa (Af ?_)
  refine Av (Ad ?_)
  refine xo0 ?_
  refine xo4 ?_
  refine xo22 ?_
  refine Ag rfl (Ch 0 (b:=false) ?_)
  refine Ah rfl (xo0 ?_)
  refine Ah rfl (xo4 ?_)
  refine Ah rfl (xo22 ?_)
  refine xo1 ?_
  refine Ag rfl (Ch 0 (b:=false) ?_)
  refine Ah rfl (xo0 ?_)
  refine Ah rfl (xo4 ?_)
  refine Ah rfl (Ab (by simp only [zo]; exact hpb d rfl _) ?_)
  refine Ah rfl (xo2 ?_)
  refine xo1 ?_
  refine Ag rfl (Aa ?_)
  refine Af ?_
  skip
  refine E9 ?_
  refine Ad (Bj ?_)
  refine Aa (Af ?_)
  refine Br (Hr (Hr (Gc (lk_r (Hr (Gc ?_))))))
  refine ⟨_,by simp only [F13,Au,Bz,Dn,zg]<;>exact rfl,?_⟩
  simp [leave,LP,S9,Sw,snap,D.Sz,D.Sy,D.free,D.Td]
 ·
  have hld:=fun (l : List Sk) lo=>hS.ld l lo i _ hbad (by simp)
  simp only [List.take_succ_cons,List.take_zero] at hld
  have zz6:=And.intro hdl (And.intro hw (And.intro hia (And.intro hat (And.intro hst (And.intro hld (And.intro htx.Tc (And.intro hop.Tc (And.intro htx.cells (And.intro hop.cells (And.intro htx.val (And.intro hop.val (And.intro htx.len (And.intro hb1 (And.intro hb2 (And.intro hb3 (And.intro hb4 (hb5)))))))))))))))))
  refine Ad (xo18 ?_)
  refine Aa (Af ?_)
  refine Aj ?_
  skip
  refine E9 ?_
  refine Ap (Bt rfl (Aj (Av (Ad ?_))))
  refine Ab (by simp only [zl,zm,zz6]<;>exact rfl) ?_
  refine Ab (by simp only [zl,zm,zz6]<;>exact rfl) ?_
  refine xo6 ?_
  refine Ab (by simp only [zl,zm,Bq,overlay,Bw,zs,zc,zf,List.take,List.drop,zz2,zz6]<;>exact rfl) ?_
  refine Aa (Af ?_)
  refine Av (Ad ?_)
  refine xo0 ?_
  refine xo4 ?_
  refine xo18 ?_
  refine Ag rfl (Ch 0 (b:=false) ?_)
  refine Ah rfl (xo0 ?_)
  refine Ah rfl (xo4 ?_)
  refine Ah rfl (xo18 ?_)
  refine xo1 ?_
  refine Ag rfl (Ch 0 (b:=false) ?_)
  refine Ah rfl (xo0 ?_)
  refine Ah rfl (xo4 ?_)
  refine Ah rfl (Ab (by simp only [zo]; exact hpb d rfl _) ?_)
  refine Ah rfl (xo2 ?_)
  refine xo1 ?_
  refine Ag rfl (Aa ?_)
  refine Af ?_
  skip
  refine Cq ?_
  refine Ad (xo0 ?_)
  refine xo4 ?_
  refine xo18 ?_
  refine Ag rfl (Ch 0 (b:=true) ?_)
  refine Ah rfl (xo0 ?_)
  refine Ah rfl (xo0 ?_)
  refine Ah rfl (xo4 ?_)
  refine Ah rfl (xo18 ?_)
  refine Ah rfl (Ag rfl ?_)
  refine Ch 0 (b:=false) ?_
  refine Ah rfl (xo0 ?_)
  refine Ah rfl (xo4 ?_)
  refine Ah rfl (Ab (by simp only [zo,zz6]<;>exact rfl) ?_)
  refine Ah rfl (xo0 ?_)
  refine Ah rfl (xo0 ?_)
  refine Ah rfl (xo4 ?_)
  refine Ah rfl (xo18 ?_)
  refine Ah rfl (xo1 ?_)
  refine xo1 ?_
  refine Ag rfl (Aa ?_)
  refine Af ?_
  skip
  refine Cq ?_
  refine Ad (xo4 ?_)
  refine Ab (by simp only [zo]; exact hfb d rfl _) ?_
  refine xo9 ?_
  refine Ag rfl (Aa ?_)
  refine Af ?_
  skip
  refine E9 ?_
  refine Ad (Bj ?_)
  refine Aa (Af ?_)
  refine Br (Hr (Hr (Gc (lk_r (Hr (Gc ?_))))))
  refine ⟨_,by simp only [F13,Au,Bz,Dn,zg]<;>exact rfl,?_⟩
  simp [leave,LP,S9,Sw,snap,D.Sz,D.Sy,D.free,D.Td]
 ·
  have hld:=fun (l : List Sk) lo=>hS.ld l lo i _ hbad (by simp)
  simp only [List.take_succ_cons,List.take_zero] at hld
  have zz7:=And.intro hdl (And.intro hw (And.intro hia (And.intro hat (And.intro hst (And.intro hld (And.intro htx.Tc (And.intro hop.Tc (And.intro htx.cells (And.intro hop.cells (And.intro htx.val (And.intro hop.val (And.intro htx.len (And.intro hb1 (And.intro hb2 (hb3)))))))))))))))
  refine Ad (xo24 ?_)
  refine Aa (Af ?_)
  refine Aj ?_
  skip
  refine E9 ?_
  refine Ap (Bt rfl (Aj (Av (Ad ?_))))
  refine Ab (by simp only [zl,zm,zz7]<;>exact rfl) ?_
  refine Ab (by simp only [zl,zm,zz7]<;>exact rfl) ?_
  refine xo6 ?_
  refine Ab (by simp only [zl,zm,Bq,overlay,Bw,zs,zc,zf,List.take,List.drop,zz2,zz7]<;>exact rfl) ?_
  refine Aa (Af ?_)
  refine Av (Ad ?_)
  refine xo0 ?_
  refine xo4 ?_
  refine xo24 ?_
  refine Ag rfl (Ch 0 (b:=false) ?_)
  refine Ah rfl (xo0 ?_)
  refine Ah rfl (xo4 ?_)
  refine Ah rfl (xo24 ?_)
  refine xo1 ?_
  refine Ag rfl (Ch 0 (b:=false) ?_)
  refine Ah rfl (xo0 ?_)
  refine Ah rfl (xo4 ?_)
  refine Ah rfl (Ab (by simp only [zo]; exact hpb d rfl _) ?_)
  refine Ah rfl (xo2 ?_)
  refine xo1 ?_
  refine Ag rfl (Aa ?_)
  refine Af ?_
  skip
  refine Cq ?_
  refine Ad (xo0 ?_)
  refine xo4 ?_
  refine xo24 ?_
  refine Ag rfl (Ch 0 (b:=false) ?_)
  refine Bb rfl rfl ?_
  refine Bb rfl rfl ?_
  refine Bb rfl rfl ?_
  refine Bb rfl rfl ?_
  refine Bb rfl rfl ?_
  refine Df rfl ?_
  refine Df rfl ?_
  refine Df rfl ?_
  refine Df rfl ?_
  refine Df rfl ?_
  refine Df rfl ?_
  refine Df rfl ?_
  refine Bb rfl rfl ?_
  refine xo1 ?_
  refine Ag rfl (Aa ?_)
  refine Af ?_
  refine Ie (by simp only [opd,zv]) ?_
  refine Ad (xo4 ?_)
  refine Ab (by simp only [zo]; exact hfb d rfl _) ?_
  refine xo9 ?_
  refine Ag rfl (Aa ?_)
  refine Af ?_
  skip
  refine E9 ?_
  refine Ad (Bj ?_)
  refine Aa (Af ?_)
  refine Br (Hr (Hr (Gc (lk_r (Hr (Gc ?_))))))
  refine ⟨_,by simp only [F13,Au,Bz,Dn,zg]<;>exact rfl,?_⟩
  simp [leave,LP,S9,Sw,snap,D.Sz,D.Sy,D.free,D.Td]
 ·
  have hlx : i < l0.length:=by omega
  rw [Lg hlx,Option.map_some,Option.getD_some] at hk0
  have hltl : i < l0.length:=by omega
  obtain ⟨p,hrow⟩:=hgood i (by omega) hltl
  have hld:=fun (l : List Sk) lo=>hS.ld l lo i _ hrow (by rw [Jo]; exact Nat.le_refl _)
  rw [Jn] at hld
  have hfit:=fun (S : St)=>J5 l0[i] p (d:=d) (by omega) S
  obtain ⟨tx,op,nu,r1,r2,hrf,htx,hop,hk1,hk2⟩:=Ho l0[i] p
  have hpc:=fun (S : St)=>Eu (d:=d) (by omega) S nu l0[i]
  rw [hrf] at hld hfit
  have hsz:=l0[i].size_le
  have hkd:=l0[i].kind_le
  have k1 : decide (((l0[i].kind : Nat) : Int) < 1) = false:=decide_eq_false (by omega)
  have k2 : decide (((l0[i].kind : Nat) : Int) > 4) = false:=decide_eq_false (by omega)
  have hk : l0[i].kind = 1:=hk0
  obtain ⟨rfl,rfl,rfl,rfl⟩:=hk1 hk
  have e1 : (((l0[i].kind : Nat) : Int) == 1) = true:=by rw [beq_iff_eq]; omega
  have e2 : (((Be l0[i].text).length : Int) != ((l0[i].size : Nat) : Int)) = false:=by rw [Fw,Gv,bne_self_eq_false]
  have zz8:=And.intro hdl (And.intro hw (And.intro hia (And.intro hat (And.intro hst (And.intro hld (And.intro htx.Tc (And.intro hop.Tc (And.intro htx.cells (And.intro hop.cells (And.intro htx.val (And.intro hop.val (And.intro htx.len (@bne_self_eq_false.{0})))))))))))))
  refine Ad (Ab (by simp only [zo,Bo,zz8]<;>exact rfl) ?_)
  refine Aa (Af ?_)
  refine Aj ?_
  skip
  refine E9 ?_
  refine Ap (Bt rfl (Aj (Av (Ad ?_))))
  refine Ab (by simp only [zl,zm,zz8]<;>exact rfl) ?_
  refine Ab (by simp only [zl,zm,zz8]<;>exact rfl) ?_
  refine xo6 ?_
  refine Ab (by simp only [zl,zm,Bq,overlay,Bw,zs,zc,zf,List.take,List.drop,zz2,zz8]<;>exact rfl) ?_
  refine Aa (Af ?_)
  refine Av (Ad ?_)
  refine xo0 ?_
  refine xo4 ?_
  refine Ab (by simp only [zo,Bo,k1]<;>exact rfl) ?_
  refine Ag rfl (Ch 0 (b:=false) ?_)
  refine Ah rfl (xo0 ?_)
  refine Ah rfl (xo4 ?_)
  refine Ah rfl (Ab (by simp only [zo,Bo,k2]<;>exact rfl) ?_)
  refine xo1 ?_
  refine Ag rfl (Ch 0 (b:=false) ?_)
  refine Ah rfl (xo0 ?_)
  refine Ah rfl (xo4 ?_)
  refine Ah rfl (Ab (by simp only [zo]; exact hpc _) ?_)
  refine Ah rfl (Ab (by simp only [zo,Bo,zz8]<;>exact rfl) ?_)
  refine xo1 ?_
  refine Ag rfl (Aa ?_)
  refine Af ?_
  skip
  refine Cq ?_
  refine Ad (xo0 ?_)
  refine xo4 ?_
  refine Ab (by simp only [zo,Bo,e1]<;>exact rfl) ?_
  refine Ag rfl (Ch 0 (b:=true) ?_)
  refine Ah rfl (xo0 ?_)
  refine Ah rfl (xo0 ?_)
  refine Ah rfl (xo4 ?_)
  refine Ah rfl (Ab (by simp only [zo,Bo,zz8]<;>exact rfl) ?_)
  refine Ah rfl (Ag rfl ?_)
  refine Ch 0 (b:=false) ?_
  refine Ah rfl (xo0 ?_)
  refine Ah rfl (xo4 ?_)
  refine Ah rfl (Ab (by simp only [zo,zz8]<;>exact rfl) ?_)
  refine Ah rfl (xo0 ?_)
  refine Ah rfl (xo0 ?_)
  refine Ah rfl (xo4 ?_)
  refine Ah rfl (Ab (by simp only [zo,Bo,e2]<;>exact rfl) ?_)
  refine Ah rfl (xo1 ?_)
  refine xo1 ?_
  refine Ag rfl (Aa ?_)
  refine Af ?_
  skip
  refine Cq ?_
  refine Ad (xo4 ?_)
  refine Ab (by simp only [zo]; exact hfit _) ?_
  refine xo9 ?_
  refine Ag rfl (Aa ?_)
  refine Af ?_
  skip
  refine Cq ?_
  refine Ap (Eh (Eh (Bt rfl (Bc ?_))))
  refine Ab (by simp only [zo,Bo,zz8]<;>exact rfl) ?_
  refine Ag rfl (Aa ?_)
  refine Gr (by simp only [ze]<;>exact rfl) ?_
  exact ⟨rows.length - (i + 1),by omega,i + 1,_,_,_,_,_,_,by omega,rfl,rfl,rfl⟩
 ·
  have hlx : i < l0.length:=by omega
  rw [Lg hlx,Option.map_some,Option.getD_some] at hk0
  have hltl : i < l0.length:=by omega
  obtain ⟨p,hrow⟩:=hgood i (by omega) hltl
  have hld:=fun (l : List Sk) lo=>hS.ld l lo i _ hrow (by rw [Jo]; exact Nat.le_refl _)
  rw [Jn] at hld
  have hfit:=fun (S : St)=>J5 l0[i] p (d:=d) (by omega) S
  obtain ⟨tx,op,nu,r1,r2,hrf,htx,hop,hk1,hk2⟩:=Ho l0[i] p
  have hpc:=fun (S : St)=>Eu (d:=d) (by omega) S nu l0[i]
  rw [hrf] at hld hfit
  have hsz:=l0[i].size_le
  have hkd:=l0[i].kind_le
  have k1 : decide (((l0[i].kind : Nat) : Int) < 1) = false:=decide_eq_false (by omega)
  have k2 : decide (((l0[i].kind : Nat) : Int) > 4) = false:=decide_eq_false (by omega)
  have hk : ¬ l0[i].kind = 1:=hk0
  have e1 : (((l0[i].kind : Nat) : Int) == 1) = false:=by rw [beq_eq_false_iff_ne]; omega
  have zz9:=And.intro hdl (And.intro hw (And.intro hia (And.intro hat (And.intro hst (And.intro hld (And.intro htx.Tc (And.intro hop.Tc (And.intro htx.cells (And.intro hop.cells (And.intro htx.val (And.intro hop.val (htx.len))))))))))))
  refine Ad (Ab (by simp only [zo,Bo,zz9]<;>exact rfl) ?_)
  refine Aa (Af ?_)
  refine Aj ?_
  skip
  refine E9 ?_
  refine Ap (Bt rfl (Aj (Av (Ad ?_))))
  refine Ab (by simp only [zl,zm,zz9]<;>exact rfl) ?_
  refine Ab (by simp only [zl,zm,zz9]<;>exact rfl) ?_
  refine xo6 ?_
  refine Ab (by simp only [zl,zm,Bq,overlay,Bw,zs,zc,zf,List.take,List.drop,zz2,zz9]<;>exact rfl) ?_
  refine Aa (Af ?_)
  refine Av (Ad ?_)
  refine xo0 ?_
  refine xo4 ?_
  refine Ab (by simp only [zo,Bo,k1]<;>exact rfl) ?_
  refine Ag rfl (Ch 0 (b:=false) ?_)
  refine Ah rfl (xo0 ?_)
  refine Ah rfl (xo4 ?_)
  refine Ah rfl (Ab (by simp only [zo,Bo,k2]<;>exact rfl) ?_)
  refine xo1 ?_
  refine Ag rfl (Ch 0 (b:=false) ?_)
  refine Ah rfl (xo0 ?_)
  refine Ah rfl (xo4 ?_)
  refine Ah rfl (Ab (by simp only [zo]; exact hpc _) ?_)
  refine Ah rfl (xo2 ?_)
  refine xo1 ?_
  refine Ag rfl (Aa ?_)
  refine Af ?_
  skip
  refine Cq ?_
  refine Ad (xo0 ?_)
  refine xo4 ?_
  refine Ab (by simp only [zo,Bo,e1]<;>exact rfl) ?_
  refine Ag rfl (Ch 0 (b:=false) ?_)
  refine Bb rfl rfl ?_
  refine Bb rfl rfl ?_
  refine Bb rfl rfl ?_
  refine Bb rfl rfl ?_
  refine Bb rfl rfl ?_
  refine Df rfl ?_
  refine Df rfl ?_
  refine Df rfl ?_
  refine Df rfl ?_
  refine Df rfl ?_
  refine Df rfl ?_
  refine Df rfl ?_
  refine Bb rfl rfl ?_
  refine xo1 ?_
  refine Ag rfl (Aa ?_)
  refine Af ?_
  refine Ie (by simp only [opd,zv]) ?_
  refine Ad (xo4 ?_)
  refine Ab (by simp only [zo]; exact hfit _) ?_
  refine xo9 ?_
  refine Ag rfl (Aa ?_)
  refine Af ?_
  skip
  refine Cq ?_
  refine Ap (Eh (Eh (Bt rfl (Bc ?_))))
  refine Ab (by simp only [zo,Bo,zz9]<;>exact rfl) ?_
  refine Ag rfl (Aa ?_)
  refine Gr (by simp only [ze]<;>exact rfl) ?_
  exact ⟨rows.length - (i + 1),by omega,i + 1,_,_,_,_,_,_,by omega,rfl,rfl,rfl⟩

theorem check_many {d : Nat} (hd : 18 ≤ d) {H : List Sk} {x : D} {rows : List (List D)} {gs v : Nat} (hS : SrcF H x rows gs v) (hlen : 256 < rows.length) (nm : ByteArray) (p0 c0 : Nat) (lo : Nat) :
  Bf LP NN d 13 [.agg [.str nm,x,.int .i64 (p0 : Nat),.int .i64 (c0 : Nat)]] ⟨H,lo⟩ = some (.int .i64 3,⟨H,lo⟩,false):=by
 have hx256 : decide (((rows.length : Nat) : Int) > 256) = true:=decide_eq_true (by omega)
 refine Dl (F:=F13) rfl (by simp only [LP,Ar,Bw,zs,zm,hS.zero]<;>exact rfl) rfl (by simp only [LP,zf,zm]; try rfl) (by simp only [F13,zv]<;>exact rfl) (by omega) ?_
 rintro d rfl
 have zz10:=And.intro hS.len (And.intro hS.cell (And.intro hx256 (And.intro @Bu (@Di))))
 refine Ad (Ab (by simp only [zl,zm,zc,zz10]<;>exact rfl) ?_)
 refine Bj (Aa ?_)
 refine Af ?_
 refine Aj (Ad ?_)
 refine xo0 ?_
 refine Ab (by simp only [zl,zm,zd,Ay,List.take,List.drop,zz10]<;>exact rfl) ?_
 refine Ab (by simp only [zo,zz10]<;>exact rfl) ?_
 refine Ab (by simp only [zo,Bo,zz10]<;>exact rfl) ?_
 refine Aa (Af ?_)
 skip
 refine E9 ?_
 refine Ad (Bj ?_)
 refine Aa (Af ?_)
 refine Br (Gc ?_)
 refine ⟨_,by simp only [F13,Au,Bz,Dn,zg]<;>exact rfl,?_⟩
 simp [leave,LP,S9,Sw,snap,D.Sz,D.Sy,D.free,D.Td]

theorem show_err {d : Nat} (hd : 18 ≤ d) {H : List Sk} {x xv : D} {rows : List (List D)} {gs v : Nat} {e : Int} (hS : SrcF H x rows gs v) (hv : ∀ m,Go.Proofs.YtkaedpmmopigkaaGreatDoor.Sw m H xv = some xv) {nm : ByteArray} {p0 c0 : Nat} (hchk : ∀ d',d = d' + 1→∀ l lo,Bf LP NN d' 13 [.agg [.str nm,x,.int .i64 (p0 : Nat),.int .i64 (c0 : Nat)]] ⟨H ++ l,lo⟩ = some (.int .i64 e,⟨H ++ l,lo⟩,false)) (he : (e != 0) = true) (lo : Nat) :
  Bf LP NN d 20 [.agg [.str nm,x,.int .i64 (p0 : Nat),.int .i64 (c0 : Nat)],xv] ⟨H,lo⟩ = some (.tup [.Tk,.int .i64 e],⟨H,lo⟩,false):=by
 refine Dl (F:=F20) rfl (by simp only [LP,Ar,Bw,zs,zm,hS.zero,hv]<;>exact rfl) rfl (by simp only [LP,zf,zm]; try rfl) (by simp only [F20,zv]<;>exact rfl) (by omega) ?_
 rintro d rfl
 have zz11:=And.intro hS.cell (And.intro @Bu (And.intro @Di (he)))
 refine Ad (Ab (by simp only [zl,zm,zc,zz11]<;>exact rfl) ?_)
 refine Bj (Bj ?_)
 refine Aa (Af ?_)
 refine Aj (Ad ?_)
 refine Ab (by simp only [zl,zm,zd,Ay,List.take,List.drop,zz11]<;>exact rfl) ?_
 refine Ab (by simp only [zo]; exact hchk d rfl _ _) ?_
 refine Ag rfl (Aa ?_)
 refine Af ?_
 refine Ad (Ae rfl ?_)
 refine Ab (by simp only [zo,Bo,zz11]<;>exact rfl) ?_
 refine Aa (Af ?_)
 skip
 refine E9 ?_
 refine Ad (Ae rfl ?_)
 refine Bj (Ag rfl ?_)
 refine Aa (Af ?_)
 refine Br (Gc ?_)
 refine ⟨_,by simp only [F20,Au,Bz,Dn,zg]<;>exact rfl,?_⟩
 simp [leave,LP,S9,Sw,snap,D.Sz,D.Sy,D.free,D.Td,Ar]

theorem accept_err {d : Nat} (hd : 18 ≤ d) {H : List Sk} {x : D} {rows : List (List D)} {gs v : Nat} {e : Int} (hS : SrcF H x rows gs v) {nm : ByteArray} {p0 c0 : Nat} (hchk : ∀ d',d = d' + 1→∀ l lo,Bf LP NN d' 13 [.agg [.str nm,x,.int .i64 (p0 : Nat),.int .i64 (c0 : Nat)]] ⟨H ++ l,lo⟩ = some (.int .i64 e,⟨H ++ l,lo⟩,false)) (he : (e != 0) = true) (lo : Nat) :
  Bf LP NN d 23 [.agg [.str nm,x,.int .i64 (p0 : Nat),.int .i64 (c0 : Nat)],.Tk] ⟨H,lo⟩ = some (.tup [.Tk,.int .i64 0,.int .i64 e],⟨H,lo⟩,false):=by
 refine Dl (F:=F23) rfl (by simp only [LP,Ar,Bw,zs,zm,hS.zero]<;>exact rfl) rfl (by simp only [LP,zf,zm]; try rfl) (by simp only [F23,zv]<;>exact rfl) (by omega) ?_
 rintro d rfl
 have zz12:=And.intro hS.cell (And.intro @Bu (And.intro @Di (he)))
 refine Ad (Ab (by simp only [zl,zm,zc,zz12]<;>exact rfl) ?_)
 refine Bj (Bj ?_)
 refine Bj (Aa ?_)
 refine Af ?_
 refine Aj (Ad ?_)
 refine Ab (by simp only [zl,zm,zd,Ay,List.take,List.drop,zz12]<;>exact rfl) ?_
 refine Ab (by simp only [zo]; exact hchk d rfl _ _) ?_
 refine Ag rfl (Aa ?_)
 refine Af ?_
 refine Ad (Ae rfl ?_)
 refine Ab (by simp only [zo,Bo,zz12]<;>exact rfl) ?_
 refine Aa (Af ?_)
 skip
 refine E9 ?_
 refine Ad (Ae rfl ?_)
 refine Bj (Bj ?_)
 refine Ag rfl (Aa ?_)
 refine Af ?_
 refine Br (Gc ?_)
 refine ⟨_,by simp only [F23,Au,Bz,Dn,zg]<;>exact rfl,?_⟩
 simp [leave,LP,S9,Sw,snap,D.Sz,D.Sy,D.free,D.Td,Ar]

theorem show_width {d : Nat} (hd : 18 ≤ d) {H : List Sk} {x xv : D} {rows : List (List D)} {gs v m : Nat} (hS : SrcF H x rows gs v) (hv : ∀ m,Go.Proofs.YtkaedpmmopigkaaGreatDoor.Sw m H xv = some xv) (hvl : Iw false xv = some (.int .i64 (m : Nat))) (hne : (((m : Nat) : Int) != ((rows.length : Nat) : Int)) = true) {nm : ByteArray} {p0 c0 : Nat} (hchk : ∀ d',d = d' + 1→∀ l lo,Bf LP NN d' 13 [.agg [.str nm,x,.int .i64 (p0 : Nat),.int .i64 (c0 : Nat)]] ⟨H ++ l,lo⟩ = some (.int .i64 0,⟨H ++ l,lo⟩,false)) (lo : Nat) :
  Bf LP NN d 20 [.agg [.str nm,x,.int .i64 (p0 : Nat),.int .i64 (c0 : Nat)],xv] ⟨H,lo⟩ = some (.tup [.Tk,.int .i64 5],⟨H,lo⟩,false):=by
 refine Dl (F:=F20) rfl (by simp only [LP,Ar,Bw,zs,zm,hS.zero,hv]<;>exact rfl) rfl (by simp only [LP,zf,zm]; try rfl) (by simp only [F20,zv]<;>exact rfl) (by omega) ?_
 rintro d rfl
 have zz13:=And.intro hS.cell (And.intro hS.len (And.intro hvl (And.intro @Bu (And.intro @Di (hne)))))
 refine Ad (Ab (by simp only [zl,zm,zc,zz13]<;>exact rfl) ?_)
 refine Bj (Bj ?_)
 refine Aa (Af ?_)
 refine Aj (Ad ?_)
 refine Ab (by simp only [zl,zm,zd,Ay,List.take,List.drop,zz13]<;>exact rfl) ?_
 refine Ab (by simp only [zo]; exact hchk d rfl _ _) ?_
 refine Ag rfl (Aa ?_)
 refine Af ?_
 refine Ad (Ae rfl ?_)
 refine xo2 ?_
 refine Aa (Af ?_)
 skip
 refine Cq ?_
 refine Ap (Bt rfl (Aj (Ad ?_)))
 refine Ae rfl (Ab (by simp only [zo,zz13]<;>exact rfl) ?_)
 refine xo0 ?_
 refine Ab (by simp only [zl,zm,zd,Ay,List.take,List.drop,zz13]<;>exact rfl) ?_
 refine Ab (by simp only [zo,zz13]<;>exact rfl) ?_
 refine Ab (by simp only [zo,Bo,zz13]<;>exact rfl) ?_
 refine Aa (Af ?_)
 skip
 refine E9 ?_
 refine Ad (Bj ?_)
 refine Bj (Aa ?_)
 refine Af ?_
 refine Br (Gc ?_)
 refine ⟨_,by simp only [F20,Au,Bz,Dn,zg]<;>exact rfl,?_⟩
 simp [leave,LP,S9,Sw,snap,D.Sz,D.Sy,D.free,D.Td,Ar]

theorem ext_of {H Z : List Sk} (hl : H.length ≤ Z.length) (h : ∀ k,k < H.length→Z[k]? = H[k]?) : ∃ l,Z = H ++ l:=by
 refine ⟨Z.drop H.length,?_⟩
 refine List.ext_getElem? fun k=>?_
 by_cases hk : k < H.length
 ·
  rw [h k hk,La_ hk]
 ·
  rw [Lr_ (by omega),List.getElem?_drop]
  congr 1; omega
def VZ (l2 : List Sk) (n0 : Nat) (l : List FM) (i : Nat) (vals : List D) : Prop:=vals.length = i∧∀ j,j < i→∃ (p : Nat) (f : FM),l[j]? = some f∧vals[j]? = some (.msl (n0 + p) 0 0 f.size none)∧l2[p]? = some ⟨5,1,List.replicate f.size [.int .u8 0],0,1,false⟩
theorem VZ.keep {l2 l3 : List Sk} {n0 i : Nat} {l : List FM} {vals : List D} (h : VZ l2 n0 l i vals) (hk : ∀ (k : Nat) (o : Sk),l2[k]? = some o→o.elem = 5→l3[k]? = some o) : VZ l3 n0 l i vals :=
 ⟨h.1,fun j hj=>by
  obtain ⟨p,f,h1,h2,h3⟩:=h.2 j hj
  exact ⟨p,f,h1,h2,hk p _ h3 rfl⟩⟩
theorem VZ.snoc {l2 : List Sk} {n0 i p : Nat} {l : List FM} {vals : List D} (h : VZ l2 n0 l i vals) (hi : i < l.length) (hp : l2[p]? = some ⟨5,1,List.replicate l[i].size [.int .u8 0],0,1,false⟩) : VZ l2 n0 l (i + 1) (vals ++ [.msl (n0 + p) 0 0 l[i].size none]) :=
 ⟨by simp [h.1],fun j hj=>by
  by_cases hji : j < i
  ·
   obtain ⟨p,f,h1,h2,h3⟩:=h.2 j hji
   exact ⟨p,f,h1,by rw [La_ (by rw [h.1]; exact hji)]; exact h2,h3⟩
  ·
   have : j = i:=by omega
   subst this
   refine ⟨p,l[j],Lg hi,?_,hp⟩
   rw [Lr_ (by rw [h.1]; omega),h.1]; simp⟩
theorem VZ.rdb {H l2 : List Sk} {l : List FM} {vals : List D} {i j : Nat} {w : D} {f : FM} (h : VZ l2 H.length l i vals) (hf : l[j]? = some f) (hj : j < i) (hw : vals[j]? = some w) (l3 : List Sk) : RdB (H ++ (l2 ++ l3)) w (List.replicate f.size 0):=by
 obtain ⟨p,f',h1,h2,h3⟩:=h.2 j hj
 rw [hf] at h1
 cases h1
 rw [hw] at h2
 cases h2
 have ha : ∀ l,(H ++ (l2 ++ (l3 ++ l)))[H.length + p]? = some ⟨5,1,List.replicate f.size [.int .u8 0],0,1,false⟩:=fun l=>by
  rw [Bu,Cg (Bh h3)]; exact h3
 refine ⟨by simp [Iw],rfl,fun k b hb=>⟨.ptr (H.length + p) 0 k 0,fun l lo=>?_⟩⟩
 obtain ⟨hk,hbe⟩:=List.getElem?_eq_some_iff.1 hb
 rw [List.length_replicate] at hk
 rw [List.getElem_replicate] at hbe
 subst hbe
 have hk' : (k : Int) < (f.size : Int):=by omega
 refine ⟨by simp [Fg,rowsOf,ha,hk'],by simp [Gq,rowsOf,ha,Ay,hk]⟩
section
variable (d : Nat) (S : St)
theorem szm_tabT : (List.range 6).map (fun k=>Da LP NN (d + 16) 38 [.agg [.int .u8 (if true then (if k + 1 = 1 then 4 else 5) else 2),.int .u8 0,.str (Dz true (k + 1)),.int .i64 (if true then ((k + 1 : Nat) : Int) else 0),.int .i64 0,.bool false,.bool false,.bool false,.bool false,.bool false,.int .i64 (-1)]] S) = (List.range 6).map (fun k=>some (.int .i64 5,S,false)):=by kernel_rfl
theorem szm_tabF : (List.range 6).map (fun k=>Da LP NN (d + 16) 38 [.agg [.int .u8 (if false then (if k + 1 = 1 then 4 else 5) else 2),.int .u8 0,.str (Dz false (k + 1)),.int .i64 (if false then ((k + 1 : Nat) : Int) else 0),.int .i64 0,.bool false,.bool false,.bool false,.bool false,.bool false,.int .i64 (-1)]] S) = (List.range 6).map (fun k=>some (.int .i64 5,S,false)):=by kernel_rfl
end
theorem szm_run {d : Nat} (hd : 16 ≤ d) (S : St) (nu : Bool) (f : FM) : Bf LP NN d 38 [.agg [.int .u8 (if nu then (if f.size = 1 then 4 else 5) else 2),.int .u8 0,.str (Dz nu f.size),.int .i64 (if nu then (f.size : Nat) else 0),.int .i64 0,.bool false,.bool false,.bool false,.bool false,.bool false,.int .i64 (-1)]] S = some (.int .i64 5,S,false):=by
 obtain ⟨d,rfl⟩ : ∃ d',d = d' + 16:=⟨d - 16,by omega⟩
 have h:=f.size_le
 obtain ⟨k,hk⟩ : ∃ k,f.size = k + 1:=⟨f.size - 1,by omega⟩
 rw [hk]
 cases nu with
 | true=>exact fast_ok (Ii (szm_tabT d S) k (by omega))
 | false=>exact fast_ok (Ii (szm_tabF d S) k (by omega))

theorem fits_badL {d : Nat} (hd : 2 ≤ d) (S : St) (f : FM) (nu : Bool) {bl bc k : Int} {tx op : D} {r1 r2 : List (List D)} (ht : SlD 1 r1 tx) (ho : SlD 5 r2 op) (h1 : bl = 25) :
  Bf LP NN d 39 [.agg [.int .i64 bl,.int .i64 bc,.int .u8 k,tx,.int .u8 (if nu then (if f.size = 1 then 4 else 5) else 2),.int .u8 0,.str (Dz nu f.size),.int .i64 (if nu then (f.size : Nat) else 0),.int .i64 0,.bool false,.bool false,.bool false,.bool false,.bool false,.int .i64 (f.size : Nat),op]] S = some (.bool false,S,false):=by
 have c1 : decide (bl ≥ 1) = true:=decide_eq_true (by omega)
 have c2 : decide (bl ≤ 24) = false:=decide_eq_false (by omega)
 refine run_pure (F:=F39) rfl (by simp only [LP,Ar,Bw,zs,zm,ht.snap,ho.snap]<;>exact rfl) rfl (by simp only [LP,zf,zm,ht.free,ho.free]; try rfl) (by simp only [F39,zv]<;>exact rfl) (by omega) ?_
 rintro d rfl
 have zz14:=And.intro ht.Tc (And.intro ho.Tc (And.intro ht.cells (ho.cells)))
 refine Ad (Ab (by simp only [zl,zm,zc,zz14]<;>exact rfl) ?_)
 refine Bj (Aa ?_)
 refine Af ?_
 refine Ad (xo0 ?_)
 refine xo5 ?_
 refine Ab (by simp only [zo,Bo,c1]<;>exact rfl) ?_
 refine Ag rfl (Ch 0 (b:=true) ?_)
 refine Ah rfl (xo0 ?_)
 refine Ah rfl (xo5 ?_)
 refine Ah rfl (Ab (by simp only [zo,Bo,c2]<;>exact rfl) ?_)
 refine xo1 ?_
 refine Ag rfl (Ch 0 (b:=false) ?_)
 refine Bb rfl rfl ?_
 refine Bb rfl rfl ?_
 refine Bb rfl rfl ?_
 refine xo1 ?_
 refine Ag rfl (Bb rfl rfl ?_)
 refine Bb rfl rfl ?_
 refine Bb rfl rfl ?_
 refine Bb rfl rfl ?_
 refine xo1 ?_
 refine Ag rfl (Bb rfl rfl ?_)
 refine Bb rfl rfl ?_
 refine Bb rfl rfl ?_
 refine Bb rfl rfl ?_
 refine Bb rfl rfl ?_
 refine Bb rfl rfl ?_
 refine Bb rfl rfl ?_
 refine Bb rfl rfl ?_
 refine xo1 ?_
 refine Ag rfl (Aa ?_)
 refine Af ?_
 refine Br ?_
 refine ⟨_,by simp only [F39,Au,Bz,Dn,zg]<;>exact rfl,?_⟩
 simp only [Dx,leave,zs,zf,zk]

theorem fits_badC {d : Nat} (hd : 2 ≤ d) (S : St) (f : FM) (nu : Bool) {bl bc k : Int} {tx op : D} {r1 r2 : List (List D)} (ht : SlD 1 r1 tx) (ho : SlD 5 r2 op) (h1 : bl = (f.line : Nat)) (h2 : bc = 82 - (f.size : Nat)) :
  Bf LP NN d 39 [.agg [.int .i64 bl,.int .i64 bc,.int .u8 k,tx,.int .u8 (if nu then (if f.size = 1 then 4 else 5) else 2),.int .u8 0,.str (Dz nu f.size),.int .i64 (if nu then (f.size : Nat) else 0),.int .i64 0,.bool false,.bool false,.bool false,.bool false,.bool false,.int .i64 (f.size : Nat),op]] S = some (.bool false,S,false):=by
 have hl:=f.line_le
 have hc:=f.column_le
 have hs:=f.size_le
 have c1 : decide (bl ≥ 1) = true:=decide_eq_true (by omega)
 have c2 : decide (bl ≤ 24) = true:=decide_eq_true (by omega)
 have c3 : decide (bc ≥ 1) = true:=decide_eq_true (by omega)
 have c4 : decide (((f.size : Nat) : Int) ≤ 80) = true:=decide_eq_true (by omega)
 have w1 : IntKind.i64.wrap (80 - ((f.size : Nat) : Int)) = 80 - ((f.size : Nat) : Int):=by rw [IntKind.wrap_i64]; omega
 have w2 : IntKind.i64.wrap (80 - ((f.size : Nat) : Int) + 1) = 80 - ((f.size : Nat) : Int) + 1:=by rw [IntKind.wrap_i64]; omega
 have c5 : decide (bc ≤ 80 - ((f.size : Nat) : Int) + 1) = false:=decide_eq_false (by omega)
 refine run_pure (F:=F39) rfl (by simp only [LP,Ar,Bw,zs,zm,ht.snap,ho.snap]<;>exact rfl) rfl (by simp only [LP,zf,zm,ht.free,ho.free]; try rfl) (by simp only [F39,zv]<;>exact rfl) (by omega) ?_
 rintro d rfl
 have zz15:=And.intro ht.Tc (And.intro ho.Tc (And.intro ht.cells (ho.cells)))
 refine Ad (Ab (by simp only [zl,zm,zc,zz15]<;>exact rfl) ?_)
 refine Bj (Aa ?_)
 refine Af ?_
 refine Ad (xo0 ?_)
 refine xo5 ?_
 refine Ab (by simp only [zo,Bo,c1]<;>exact rfl) ?_
 refine Ag rfl (Ch 0 (b:=true) ?_)
 refine Ah rfl (xo0 ?_)
 refine Ah rfl (xo5 ?_)
 refine Ah rfl (Ab (by simp only [zo,Bo,c2]<;>exact rfl) ?_)
 refine xo1 ?_
 refine Ag rfl (Ch 0 (b:=true) ?_)
 refine Ah rfl (xo0 ?_)
 refine Ah rfl (xo5 ?_)
 refine Ah rfl (Ab (by simp only [zo,Bo,c3]<;>exact rfl) ?_)
 refine xo1 ?_
 refine Ag rfl (Ch 0 (b:=true) ?_)
 refine Ah rfl (xo0 ?_)
 refine Ah rfl (xo0 ?_)
 refine Ah rfl (xo5 ?_)
 refine Ah rfl (Ab (by simp only [zo,Bo,c4]<;>exact rfl) ?_)
 refine xo1 ?_
 refine Ag rfl (Ch 0 (b:=true) ?_)
 refine Ah rfl (xo0 ?_)
 refine Ah rfl (xo5 ?_)
 refine Ah rfl (xo0 ?_)
 refine Ah rfl (xo0 ?_)
 refine Ah rfl (xo5 ?_)
 refine Ah rfl (Ab (by simp only [zo,Bo,w1]<;>exact rfl) ?_)
 refine Ah rfl (Ab (by simp only [zo,Bo,w2]<;>exact rfl) ?_)
 refine Ah rfl (Ab (by simp only [zo,Bo,c5]<;>exact rfl) ?_)
 refine xo1 ?_
 refine Ag rfl (Aa ?_)
 refine Af ?_
 refine Br ?_
 refine ⟨_,by simp only [F39,Au,Bz,Dn,zg]<;>exact rfl,?_⟩
 simp only [Dx,leave,zs,zf,zk]

theorem fits_badN {d : Nat} (hd : 2 ≤ d) (S : St) (f : FM) (nu : Bool) {bl bc k : Int} {tx op : D} {r1 r2 : List (List D)} (ht : SlD 1 r1 tx) (ho : SlD 5 r2 op) (h1 : bl = (f.line : Nat)) (h2 : bc = -9223372036854775808) :
  Bf LP NN d 39 [.agg [.int .i64 bl,.int .i64 bc,.int .u8 k,tx,.int .u8 (if nu then (if f.size = 1 then 4 else 5) else 2),.int .u8 0,.str (Dz nu f.size),.int .i64 (if nu then (f.size : Nat) else 0),.int .i64 0,.bool false,.bool false,.bool false,.bool false,.bool false,.int .i64 (f.size : Nat),op]] S = some (.bool false,S,false):=by
 have hl:=f.line_le
 have c1 : decide (bl ≥ 1) = true:=decide_eq_true (by omega)
 have c2 : decide (bl ≤ 24) = true:=decide_eq_true (by omega)
 have c3 : decide (bc ≥ 1) = false:=decide_eq_false (by omega)
 refine run_pure (F:=F39) rfl (by simp only [LP,Ar,Bw,zs,zm,ht.snap,ho.snap]<;>exact rfl) rfl (by simp only [LP,zf,zm,ht.free,ho.free]; try rfl) (by simp only [F39,zv]<;>exact rfl) (by omega) ?_
 rintro d rfl
 have zz16:=And.intro ht.Tc (And.intro ho.Tc (And.intro ht.cells (ho.cells)))
 refine Ad (Ab (by simp only [zl,zm,zc,zz16]<;>exact rfl) ?_)
 refine Bj (Aa ?_)
 refine Af ?_
 refine Ad (xo0 ?_)
 refine xo5 ?_
 refine Ab (by simp only [zo,Bo,c1]<;>exact rfl) ?_
 refine Ag rfl (Ch 0 (b:=true) ?_)
 refine Ah rfl (xo0 ?_)
 refine Ah rfl (xo5 ?_)
 refine Ah rfl (Ab (by simp only [zo,Bo,c2]<;>exact rfl) ?_)
 refine xo1 ?_
 refine Ag rfl (Ch 0 (b:=true) ?_)
 refine Ah rfl (xo0 ?_)
 refine Ah rfl (xo5 ?_)
 refine Ah rfl (Ab (by simp only [zo,Bo,c3]<;>exact rfl) ?_)
 refine xo1 ?_
 refine Ag rfl (Ch 0 (b:=false) ?_)
 refine Bb rfl rfl ?_
 refine Bb rfl rfl ?_
 refine Bb rfl rfl ?_
 refine Bb rfl rfl ?_
 refine xo1 ?_
 refine Ag rfl (Bb rfl rfl ?_)
 refine Bb rfl rfl ?_
 refine Bb rfl rfl ?_
 refine Bb rfl rfl ?_
 refine Bb rfl rfl ?_
 refine Bb rfl rfl ?_
 refine Bb rfl rfl ?_
 refine Bb rfl rfl ?_
 refine xo1 ?_
 refine Ag rfl (Aa ?_)
 refine Af ?_
 refine Br ?_
 refine ⟨_,by simp only [F39,Au,Bz,Dn,zg]<;>exact rfl,?_⟩
 simp only [Dx,leave,zs,zf,zk]

theorem Es {H : List Sk} {gs vs n : Nat} {cap : Option Nat} {rows : List (List D)} (ho : H[gs]? = some ⟨48,16,rows,vs,0,true⟩) (hn : n = rows.length) : SrcF H (.msl gs vs 0 n cap) rows gs vs:=by
 subst hn
 refine ⟨rfl,rfl,fun m l=>?_,fun _ _ _ _=>rfl,fun l lo i h=>?_,fun l lo i r h h16=>?_⟩
 ·
  rw [H5,Cg (Bh ho),ho]; simp
 ·
  simp [Fg,rowsOf,Cg (Bh ho),ho,h]
 ·
  simp [Gq,rowsOf,Cg (Bh ho),ho,h,Ay,h16]

theorem bad0_run {d : Nat} (hd : 20 ≤ d) {H : List Sk} {x : D} {rows r1 r2 : List (List D)} {gs v idx : Nat} {l : List FM} {f : FM} {nu : Bool} {tx op : D} (hS : SrcF H x (rows.set idx [.int .i64 (f.line : Nat),.int .i64 (f.column : Nat),.int .u8 5,tx,.int .u8 (if nu then (if f.size = 1 then 4 else 5) else 2),.int .u8 0,.str (Dz nu f.size),.int .i64 (if nu then (f.size : Nat) else 0),.int .i64 0,.bool false,.bool false,.bool false,.bool false,.bool false,.int .i64 (f.size : Nat),op]) gs v) (hR : RW l rows) (hl : l.length ≤ 10) (hidx : idx < l.length) (htx : SlD 1 r1 tx) (hop : SlD 5 r2 op) (hform : f.kind = 1→nu = false∧tx = .sl 1 (Be f.text) none∧r1 = Be f.text) (nm : ByteArray) (p0 c0 : Nat) (lo : Nat) :
  Bf LP NN d 13 [.agg [.str nm,x,.int .i64 (p0 : Nat),.int .i64 (c0 : Nat)]] ⟨H,lo⟩ = some (.int .i64 1,⟨H,lo⟩,false):=by
 have hrl:=hR.len
 have hkd:=f.kind_le
 have hb1 : decide (((f.kind : Nat) : Int) < 1) = false:=decide_eq_false (by omega)
 have hb2 : decide (((f.kind : Nat) : Int) > 4) = false:=decide_eq_false (by omega)
 have hbad : (rows.set idx [.int .i64 (f.line : Nat),.int .i64 (f.column : Nat),.int .u8 5,tx,.int .u8 (if nu then (if f.size = 1 then 4 else 5) else 2),.int .u8 0,.str (Dz nu f.size),.int .i64 (if nu then (f.size : Nat) else 0),.int .i64 0,.bool false,.bool false,.bool false,.bool false,.bool false,.int .i64 (f.size : Nat),op])[idx]? = some [.int .i64 (f.line : Nat),.int .i64 (f.column : Nat),.int .u8 5,tx,.int .u8 (if nu then (if f.size = 1 then 4 else 5) else 2),.int .u8 0,.str (Dz nu f.size),.int .i64 (if nu then (f.size : Nat) else 0),.int .i64 0,.bool false,.bool false,.bool false,.bool false,.bool false,.int .i64 (f.size : Nat),op]:=by rw [List.getElem?_set_self (by omega)]
 have hgood : ∀ (i : Nat),i < idx→∀ hl : i < l.length,∃ p,(rows.set idx [.int .i64 (f.line : Nat),.int .i64 (f.column : Nat),.int .u8 5,tx,.int .u8 (if nu then (if f.size = 1 then 4 else 5) else 2),.int .u8 0,.str (Dz nu f.size),.int .i64 (if nu then (f.size : Nat) else 0),.int .i64 0,.bool false,.bool false,.bool false,.bool false,.bool false,.int .i64 (f.size : Nat),op])[i]? = some (Gm l[i] p):=fun i hi hl=>by
  rw [Ln_ (by omega)]; exact hR.at_ hl
 exact Gi (by omega) hS (by rw [List.length_set]; omega) (by rw [List.length_set]; omega) (by rw [List.length_set]; omega) hgood hbad htx hop (.inr (.inl ⟨by decide,by decide,rfl⟩)) nm p0 c0 lo

theorem bad1_run {d : Nat} (hd : 20 ≤ d) {H : List Sk} {x : D} {rows r1 r2 : List (List D)} {gs v idx : Nat} {l : List FM} {f : FM} {nu : Bool} {tx op : D} (hS : SrcF H x (rows.set idx [.int .i64 (f.line : Nat),.int .i64 (f.column : Nat),.int .u8 0,tx,.int .u8 (if nu then (if f.size = 1 then 4 else 5) else 2),.int .u8 0,.str (Dz nu f.size),.int .i64 (if nu then (f.size : Nat) else 0),.int .i64 0,.bool false,.bool false,.bool false,.bool false,.bool false,.int .i64 (f.size : Nat),op]) gs v) (hR : RW l rows) (hl : l.length ≤ 10) (hidx : idx < l.length) (htx : SlD 1 r1 tx) (hop : SlD 5 r2 op) (hform : f.kind = 1→nu = false∧tx = .sl 1 (Be f.text) none∧r1 = Be f.text) (nm : ByteArray) (p0 c0 : Nat) (lo : Nat) :
  Bf LP NN d 13 [.agg [.str nm,x,.int .i64 (p0 : Nat),.int .i64 (c0 : Nat)]] ⟨H,lo⟩ = some (.int .i64 1,⟨H,lo⟩,false):=by
 have hrl:=hR.len
 have hkd:=f.kind_le
 have hb1 : decide (((f.kind : Nat) : Int) < 1) = false:=decide_eq_false (by omega)
 have hb2 : decide (((f.kind : Nat) : Int) > 4) = false:=decide_eq_false (by omega)
 have hbad : (rows.set idx [.int .i64 (f.line : Nat),.int .i64 (f.column : Nat),.int .u8 0,tx,.int .u8 (if nu then (if f.size = 1 then 4 else 5) else 2),.int .u8 0,.str (Dz nu f.size),.int .i64 (if nu then (f.size : Nat) else 0),.int .i64 0,.bool false,.bool false,.bool false,.bool false,.bool false,.int .i64 (f.size : Nat),op])[idx]? = some [.int .i64 (f.line : Nat),.int .i64 (f.column : Nat),.int .u8 0,tx,.int .u8 (if nu then (if f.size = 1 then 4 else 5) else 2),.int .u8 0,.str (Dz nu f.size),.int .i64 (if nu then (f.size : Nat) else 0),.int .i64 0,.bool false,.bool false,.bool false,.bool false,.bool false,.int .i64 (f.size : Nat),op]:=by rw [List.getElem?_set_self (by omega)]
 have hgood : ∀ (i : Nat),i < idx→∀ hl : i < l.length,∃ p,(rows.set idx [.int .i64 (f.line : Nat),.int .i64 (f.column : Nat),.int .u8 0,tx,.int .u8 (if nu then (if f.size = 1 then 4 else 5) else 2),.int .u8 0,.str (Dz nu f.size),.int .i64 (if nu then (f.size : Nat) else 0),.int .i64 0,.bool false,.bool false,.bool false,.bool false,.bool false,.int .i64 (f.size : Nat),op])[i]? = some (Gm l[i] p):=fun i hi hl=>by
  rw [Ln_ (by omega)]; exact hR.at_ hl
 exact Gi (by omega) hS (by rw [List.length_set]; omega) (by rw [List.length_set]; omega) (by rw [List.length_set]; omega) hgood hbad htx hop (.inl ⟨by decide,rfl⟩) nm p0 c0 lo

theorem bad2_run {d : Nat} (hd : 20 ≤ d) {H : List Sk} {x : D} {rows r1 r2 : List (List D)} {gs v idx : Nat} {l : List FM} {f : FM} {nu : Bool} {tx op : D} (hS : SrcF H x (rows.set idx [.int .i64 25,.int .i64 (f.column : Nat),.int .u8 (f.kind : Nat),tx,.int .u8 (if nu then (if f.size = 1 then 4 else 5) else 2),.int .u8 0,.str (Dz nu f.size),.int .i64 (if nu then (f.size : Nat) else 0),.int .i64 0,.bool false,.bool false,.bool false,.bool false,.bool false,.int .i64 (f.size : Nat),op]) gs v) (hR : RW l rows) (hl : l.length ≤ 10) (hidx : idx < l.length) (htx : SlD 1 r1 tx) (hop : SlD 5 r2 op) (hform : f.kind = 1→nu = false∧tx = .sl 1 (Be f.text) none∧r1 = Be f.text) (nm : ByteArray) (p0 c0 : Nat) (lo : Nat) :
  Bf LP NN d 13 [.agg [.str nm,x,.int .i64 (p0 : Nat),.int .i64 (c0 : Nat)]] ⟨H,lo⟩ = some (.int .i64 13,⟨H,lo⟩,false):=by
 have hrl:=hR.len
 have hkd:=f.kind_le
 have hb1 : decide (((f.kind : Nat) : Int) < 1) = false:=decide_eq_false (by omega)
 have hb2 : decide (((f.kind : Nat) : Int) > 4) = false:=decide_eq_false (by omega)
 have hbad : (rows.set idx [.int .i64 25,.int .i64 (f.column : Nat),.int .u8 (f.kind : Nat),tx,.int .u8 (if nu then (if f.size = 1 then 4 else 5) else 2),.int .u8 0,.str (Dz nu f.size),.int .i64 (if nu then (f.size : Nat) else 0),.int .i64 0,.bool false,.bool false,.bool false,.bool false,.bool false,.int .i64 (f.size : Nat),op])[idx]? = some [.int .i64 25,.int .i64 (f.column : Nat),.int .u8 (f.kind : Nat),tx,.int .u8 (if nu then (if f.size = 1 then 4 else 5) else 2),.int .u8 0,.str (Dz nu f.size),.int .i64 (if nu then (f.size : Nat) else 0),.int .i64 0,.bool false,.bool false,.bool false,.bool false,.bool false,.int .i64 (f.size : Nat),op]:=by rw [List.getElem?_set_self (by omega)]
 have hgood : ∀ (i : Nat),i < idx→∀ hl : i < l.length,∃ p,(rows.set idx [.int .i64 25,.int .i64 (f.column : Nat),.int .u8 (f.kind : Nat),tx,.int .u8 (if nu then (if f.size = 1 then 4 else 5) else 2),.int .u8 0,.str (Dz nu f.size),.int .i64 (if nu then (f.size : Nat) else 0),.int .i64 0,.bool false,.bool false,.bool false,.bool false,.bool false,.int .i64 (f.size : Nat),op])[i]? = some (Gm l[i] p):=fun i hi hl=>by
  rw [Ln_ (by omega)]; exact hR.at_ hl
 have hfb : ∀ d',d = d' + 1→∀ S,Bf LP NN d' 39 [.agg [.int .i64 25,.int .i64 (f.column : Nat),.int .u8 (f.kind : Nat),tx,.int .u8 (if nu then (if f.size = 1 then 4 else 5) else 2),.int .u8 0,.str (Dz nu f.size),.int .i64 (if nu then (f.size : Nat) else 0),.int .i64 0,.bool false,.bool false,.bool false,.bool false,.bool false,.int .i64 (f.size : Nat),op]] S = some (.bool false,S,false):=fun d' e S=>fits_badL (by omega) S f nu htx hop rfl
 by_cases hk : f.kind = 1
 ·
  obtain ⟨rfl,rfl,rfl⟩:=hform hk
  exact Gi (by omega) hS (by rw [List.length_set]; omega) (by rw [List.length_set]; omega) (by rw [List.length_set]; omega) hgood hbad htx hop (.inr (.inr (.inr (.inl ⟨hb1,hb2,fun d' e S=>Eu (by omega) S false f,by rw [beq_iff_eq]; omega,by simp,by rw [Fw,Gv,bne_self_eq_false],hfb,rfl⟩)))) nm p0 c0 lo
 ·
  exact Gi (by omega) hS (by rw [List.length_set]; omega) (by rw [List.length_set]; omega) (by rw [List.length_set]; omega) hgood hbad htx hop (.inr (.inr (.inr (.inr ⟨hb1,hb2,fun d' e S=>Eu (by omega) S nu f,by rw [beq_eq_false_iff_ne]; omega,hfb,rfl⟩)))) nm p0 c0 lo

theorem bad3_run {d : Nat} (hd : 20 ≤ d) {H : List Sk} {x : D} {rows r1 r2 : List (List D)} {gs v idx : Nat} {l : List FM} {f : FM} {nu : Bool} {tx op : D} (hS : SrcF H x (rows.set idx [.int .i64 (f.line : Nat),.int .i64 (82 - (f.size : Nat)),.int .u8 (f.kind : Nat),tx,.int .u8 (if nu then (if f.size = 1 then 4 else 5) else 2),.int .u8 0,.str (Dz nu f.size),.int .i64 (if nu then (f.size : Nat) else 0),.int .i64 0,.bool false,.bool false,.bool false,.bool false,.bool false,.int .i64 (f.size : Nat),op]) gs v) (hR : RW l rows) (hl : l.length ≤ 10) (hidx : idx < l.length) (htx : SlD 1 r1 tx) (hop : SlD 5 r2 op) (hform : f.kind = 1→nu = false∧tx = .sl 1 (Be f.text) none∧r1 = Be f.text) (nm : ByteArray) (p0 c0 : Nat) (lo : Nat) :
  Bf LP NN d 13 [.agg [.str nm,x,.int .i64 (p0 : Nat),.int .i64 (c0 : Nat)]] ⟨H,lo⟩ = some (.int .i64 13,⟨H,lo⟩,false):=by
 have hrl:=hR.len
 have hkd:=f.kind_le
 have hb1 : decide (((f.kind : Nat) : Int) < 1) = false:=decide_eq_false (by omega)
 have hb2 : decide (((f.kind : Nat) : Int) > 4) = false:=decide_eq_false (by omega)
 have hbad : (rows.set idx [.int .i64 (f.line : Nat),.int .i64 (82 - (f.size : Nat)),.int .u8 (f.kind : Nat),tx,.int .u8 (if nu then (if f.size = 1 then 4 else 5) else 2),.int .u8 0,.str (Dz nu f.size),.int .i64 (if nu then (f.size : Nat) else 0),.int .i64 0,.bool false,.bool false,.bool false,.bool false,.bool false,.int .i64 (f.size : Nat),op])[idx]? = some [.int .i64 (f.line : Nat),.int .i64 (82 - (f.size : Nat)),.int .u8 (f.kind : Nat),tx,.int .u8 (if nu then (if f.size = 1 then 4 else 5) else 2),.int .u8 0,.str (Dz nu f.size),.int .i64 (if nu then (f.size : Nat) else 0),.int .i64 0,.bool false,.bool false,.bool false,.bool false,.bool false,.int .i64 (f.size : Nat),op]:=by rw [List.getElem?_set_self (by omega)]
 have hgood : ∀ (i : Nat),i < idx→∀ hl : i < l.length,∃ p,(rows.set idx [.int .i64 (f.line : Nat),.int .i64 (82 - (f.size : Nat)),.int .u8 (f.kind : Nat),tx,.int .u8 (if nu then (if f.size = 1 then 4 else 5) else 2),.int .u8 0,.str (Dz nu f.size),.int .i64 (if nu then (f.size : Nat) else 0),.int .i64 0,.bool false,.bool false,.bool false,.bool false,.bool false,.int .i64 (f.size : Nat),op])[i]? = some (Gm l[i] p):=fun i hi hl=>by
  rw [Ln_ (by omega)]; exact hR.at_ hl
 have hfb : ∀ d',d = d' + 1→∀ S,Bf LP NN d' 39 [.agg [.int .i64 (f.line : Nat),.int .i64 (82 - (f.size : Nat)),.int .u8 (f.kind : Nat),tx,.int .u8 (if nu then (if f.size = 1 then 4 else 5) else 2),.int .u8 0,.str (Dz nu f.size),.int .i64 (if nu then (f.size : Nat) else 0),.int .i64 0,.bool false,.bool false,.bool false,.bool false,.bool false,.int .i64 (f.size : Nat),op]] S = some (.bool false,S,false):=fun d' e S=>fits_badC (by omega) S f nu htx hop rfl rfl
 by_cases hk : f.kind = 1
 ·
  obtain ⟨rfl,rfl,rfl⟩:=hform hk
  exact Gi (by omega) hS (by rw [List.length_set]; omega) (by rw [List.length_set]; omega) (by rw [List.length_set]; omega) hgood hbad htx hop (.inr (.inr (.inr (.inl ⟨hb1,hb2,fun d' e S=>Eu (by omega) S false f,by rw [beq_iff_eq]; omega,by simp,by rw [Fw,Gv,bne_self_eq_false],hfb,rfl⟩)))) nm p0 c0 lo
 ·
  exact Gi (by omega) hS (by rw [List.length_set]; omega) (by rw [List.length_set]; omega) (by rw [List.length_set]; omega) hgood hbad htx hop (.inr (.inr (.inr (.inr ⟨hb1,hb2,fun d' e S=>Eu (by omega) S nu f,by rw [beq_eq_false_iff_ne]; omega,hfb,rfl⟩)))) nm p0 c0 lo

theorem bad4_run {d : Nat} (hd : 20 ≤ d) {H : List Sk} {x : D} {rows r1 r2 : List (List D)} {gs v idx : Nat} {l : List FM} {f : FM} {nu : Bool} {tx op : D} (hS : SrcF H x (rows.set idx [.int .i64 (f.line : Nat),.int .i64 (-9223372036854775808),.int .u8 (f.kind : Nat),tx,.int .u8 (if nu then (if f.size = 1 then 4 else 5) else 2),.int .u8 0,.str (Dz nu f.size),.int .i64 (if nu then (f.size : Nat) else 0),.int .i64 0,.bool false,.bool false,.bool false,.bool false,.bool false,.int .i64 (f.size : Nat),op]) gs v) (hR : RW l rows) (hl : l.length ≤ 10) (hidx : idx < l.length) (htx : SlD 1 r1 tx) (hop : SlD 5 r2 op) (hform : f.kind = 1→nu = false∧tx = .sl 1 (Be f.text) none∧r1 = Be f.text) (nm : ByteArray) (p0 c0 : Nat) (lo : Nat) :
  Bf LP NN d 13 [.agg [.str nm,x,.int .i64 (p0 : Nat),.int .i64 (c0 : Nat)]] ⟨H,lo⟩ = some (.int .i64 13,⟨H,lo⟩,false):=by
 have hrl:=hR.len
 have hkd:=f.kind_le
 have hb1 : decide (((f.kind : Nat) : Int) < 1) = false:=decide_eq_false (by omega)
 have hb2 : decide (((f.kind : Nat) : Int) > 4) = false:=decide_eq_false (by omega)
 have hbad : (rows.set idx [.int .i64 (f.line : Nat),.int .i64 (-9223372036854775808),.int .u8 (f.kind : Nat),tx,.int .u8 (if nu then (if f.size = 1 then 4 else 5) else 2),.int .u8 0,.str (Dz nu f.size),.int .i64 (if nu then (f.size : Nat) else 0),.int .i64 0,.bool false,.bool false,.bool false,.bool false,.bool false,.int .i64 (f.size : Nat),op])[idx]? = some [.int .i64 (f.line : Nat),.int .i64 (-9223372036854775808),.int .u8 (f.kind : Nat),tx,.int .u8 (if nu then (if f.size = 1 then 4 else 5) else 2),.int .u8 0,.str (Dz nu f.size),.int .i64 (if nu then (f.size : Nat) else 0),.int .i64 0,.bool false,.bool false,.bool false,.bool false,.bool false,.int .i64 (f.size : Nat),op]:=by rw [List.getElem?_set_self (by omega)]
 have hgood : ∀ (i : Nat),i < idx→∀ hl : i < l.length,∃ p,(rows.set idx [.int .i64 (f.line : Nat),.int .i64 (-9223372036854775808),.int .u8 (f.kind : Nat),tx,.int .u8 (if nu then (if f.size = 1 then 4 else 5) else 2),.int .u8 0,.str (Dz nu f.size),.int .i64 (if nu then (f.size : Nat) else 0),.int .i64 0,.bool false,.bool false,.bool false,.bool false,.bool false,.int .i64 (f.size : Nat),op])[i]? = some (Gm l[i] p):=fun i hi hl=>by
  rw [Ln_ (by omega)]; exact hR.at_ hl
 have hfb : ∀ d',d = d' + 1→∀ S,Bf LP NN d' 39 [.agg [.int .i64 (f.line : Nat),.int .i64 (-9223372036854775808),.int .u8 (f.kind : Nat),tx,.int .u8 (if nu then (if f.size = 1 then 4 else 5) else 2),.int .u8 0,.str (Dz nu f.size),.int .i64 (if nu then (f.size : Nat) else 0),.int .i64 0,.bool false,.bool false,.bool false,.bool false,.bool false,.int .i64 (f.size : Nat),op]] S = some (.bool false,S,false):=fun d' e S=>fits_badN (by omega) S f nu htx hop rfl rfl
 by_cases hk : f.kind = 1
 ·
  obtain ⟨rfl,rfl,rfl⟩:=hform hk
  exact Gi (by omega) hS (by rw [List.length_set]; omega) (by rw [List.length_set]; omega) (by rw [List.length_set]; omega) hgood hbad htx hop (.inr (.inr (.inr (.inl ⟨hb1,hb2,fun d' e S=>Eu (by omega) S false f,by rw [beq_iff_eq]; omega,by simp,by rw [Fw,Gv,bne_self_eq_false],hfb,rfl⟩)))) nm p0 c0 lo
 ·
  exact Gi (by omega) hS (by rw [List.length_set]; omega) (by rw [List.length_set]; omega) (by rw [List.length_set]; omega) hgood hbad htx hop (.inr (.inr (.inr (.inr ⟨hb1,hb2,fun d' e S=>Eu (by omega) S nu f,by rw [beq_eq_false_iff_ne]; omega,hfb,rfl⟩)))) nm p0 c0 lo

theorem bad5_run {d : Nat} (hd : 20 ≤ d) {H : List Sk} {x : D} {rows r1 r2 : List (List D)} {gs v idx : Nat} {l : List FM} {f : FM} {nu : Bool} {tx op : D} (hS : SrcF H x (rows.set idx [.int .i64 (f.line : Nat),.int .i64 (f.column : Nat),.int .u8 (f.kind : Nat),tx,.int .u8 (if nu then (if f.size = 1 then 4 else 5) else 2),.int .u8 0,.str (Dz nu f.size),.int .i64 (if nu then (f.size : Nat) else 0),.int .i64 0,.bool false,.bool false,.bool false,.bool false,.bool false,.int .i64 (-1),op]) gs v) (hR : RW l rows) (hl : l.length ≤ 10) (hidx : idx < l.length) (htx : SlD 1 r1 tx) (hop : SlD 5 r2 op) (hform : f.kind = 1→nu = false∧tx = .sl 1 (Be f.text) none∧r1 = Be f.text) (nm : ByteArray) (p0 c0 : Nat) (lo : Nat) :
  Bf LP NN d 13 [.agg [.str nm,x,.int .i64 (p0 : Nat),.int .i64 (c0 : Nat)]] ⟨H,lo⟩ = some (.int .i64 1,⟨H,lo⟩,false):=by
 have hrl:=hR.len
 have hkd:=f.kind_le
 have hb1 : decide (((f.kind : Nat) : Int) < 1) = false:=decide_eq_false (by omega)
 have hb2 : decide (((f.kind : Nat) : Int) > 4) = false:=decide_eq_false (by omega)
 have hbad : (rows.set idx [.int .i64 (f.line : Nat),.int .i64 (f.column : Nat),.int .u8 (f.kind : Nat),tx,.int .u8 (if nu then (if f.size = 1 then 4 else 5) else 2),.int .u8 0,.str (Dz nu f.size),.int .i64 (if nu then (f.size : Nat) else 0),.int .i64 0,.bool false,.bool false,.bool false,.bool false,.bool false,.int .i64 (-1),op])[idx]? = some [.int .i64 (f.line : Nat),.int .i64 (f.column : Nat),.int .u8 (f.kind : Nat),tx,.int .u8 (if nu then (if f.size = 1 then 4 else 5) else 2),.int .u8 0,.str (Dz nu f.size),.int .i64 (if nu then (f.size : Nat) else 0),.int .i64 0,.bool false,.bool false,.bool false,.bool false,.bool false,.int .i64 (-1),op]:=by rw [List.getElem?_set_self (by omega)]
 have hgood : ∀ (i : Nat),i < idx→∀ hl : i < l.length,∃ p,(rows.set idx [.int .i64 (f.line : Nat),.int .i64 (f.column : Nat),.int .u8 (f.kind : Nat),tx,.int .u8 (if nu then (if f.size = 1 then 4 else 5) else 2),.int .u8 0,.str (Dz nu f.size),.int .i64 (if nu then (f.size : Nat) else 0),.int .i64 0,.bool false,.bool false,.bool false,.bool false,.bool false,.int .i64 (-1),op])[i]? = some (Gm l[i] p):=fun i hi hl=>by
  rw [Ln_ (by omega)]; exact hR.at_ hl
 exact Gi (by omega) hS (by rw [List.length_set]; omega) (by rw [List.length_set]; omega) (by rw [List.length_set]; omega) hgood hbad htx hop (.inr (.inr (.inl ⟨hb1,hb2,fun d' e S=>szm_run (by omega) S nu f,rfl⟩))) nm p0 c0 lo

theorem Ip {Z l2 : List Sk} {n0 qv : Nat} {xv : D} {vals : List D} (h : RG 42 0 l2 n0 qv xv (vals.map fun v=>[v])) (hz : ∀ (k : Nat) (o : Sk),l2[k]? = some o→o.elem = 42→Z[n0 + k]? = some o) : ∃ gv vv,SrcV Z xv vals gv vv:=by
 rcases h with ⟨rfl,h2⟩ | ⟨vs,rfl,h2⟩
 ·
  have h0 : vals = []:=by simpa using h2
  rw [h0]
  exact ⟨0,0,.nil _⟩
 ·
  exact ⟨_,_,.of (gr:=true) (hz _ _ h2 rfl) (by simp)⟩

def A48 (H : List Sk) (x : D) (rows : List (List D)) : Prop:=∃ (g v : Nat) (c : Option Nat),x = .msl g v 0 rows.length c∧(c = none ∨ c = some rows.length)∧H[g]? = some ⟨48,16,rows,v,0,true⟩
theorem app48 {H : List Sk} {x : D} {rows : List (List D)} (row : List D) (h : A48 H x rows) (hl : rows.length < 1000) (h0 : 0 < rows.length) :
  ∃ g' v' H4,Cf 48 16 128 0 x (.msl H.length 0 0 1 none) ⟨H ++ [⟨48,16,[row],0,0,false⟩],0⟩ = some (.msl g' v' 0 (rows.length + 1) none,⟨H4,0⟩,true)∧H4[g']? = some ⟨48,16,rows ++ [row],v',0,true⟩∧H.length < H4.length∧∀ (k : Nat) (o : Sk),H[k]? = some o→o.elem ≠ 48→H4[k]? = some o:=by
 obtain ⟨g,v,c,rfl,hc,ho⟩:=h
 have hg:=Bh ho
 have hr : (H ++ [(⟨48,16,[row],0,0,false⟩ : Sk)])[H.length]? = some ⟨48,16,[row],0,0,false⟩:=by simp
 have hread : Dj ⟨H ++ [⟨48,16,[row],0,0,false⟩],0⟩ 16 (.msl H.length 0 0 1 none) = some [row]:=by simp [Dj,rowsOf]
 have hz : (H ++ [(⟨48,16,[row],0,0,false⟩ : Sk)])[g]? = some ⟨48,16,rows,v,0,true⟩:=by rw [Cg hg]; exact ho
 have hbb : (rows.length + 1) * 128 ≤ 140737488355328:=by omega
 rcases hc with rfl | rfl
 ·
  refine ⟨g,v + 1,H.set g ⟨48,16,rows ++ [row],v + 1,0,true⟩ ++ [⟨48,16,[row],0,0,false⟩],?_,?_,by simp,fun k o hk he=>?_⟩
  ·
   simp [Cf,hread,Bl,rowsOf,hz,setAt,hbb,G7 hg]
  ·
   rw [Cg (by simpa using hg)]; exact Ei hg _
  ·
   rw [Cg (by simpa using Bh hk),Ln_ ?_]
   ·
    exact hk
   ·
    intro e'
    subst e'
    rw [ho] at hk
    cases hk
    exact he rfl
 ·
  refine ⟨H.length + 1,0,H ++ [⟨48,16,[row],0,0,false⟩,⟨48,16,rows ++ [row],0,0,true⟩],?_,by simp,by simp,fun k o hk _=>by rw [Cg (Bh hk)]; exact hk⟩
  simp [Cf,hread,Bl,rowsOf,hz,newAt,hbb]

def Px (l : List FM) : Bool:=l.any fun f=>decide (3 ≤ f.kind)
theorem anyK_snoc {l : List FM} {i : Nat} (h : i < l.length) : Px (l.take (i + 1)) = (Px (l.take i) || decide (3 ≤ l[i].kind)):=by
 unfold Px
 rw [List.take_succ_eq_append_getElem h,List.any_append]
 simp
theorem accF0 (T : Nat→Nat→D × Bool) : ∀ (l : List FM) (i : Nat) (out : List (Nat × D)),Kb T 0 l i 0 out = if Px l then none else some (0,out)
 | [],i,out=>rfl
 | f :: l, i, out => by
  unfold Kb
  by_cases h : f.kind < 3
  ·
   rw [if_pos h,accF0 T l]
   have : Px (f :: l) = Px l:=by simp [Px]; omega
   rw [this]
  ·
   rw [if_neg h]
   have h1 : F4 (T i) 0 0 = none:=by unfold F4; simp
   have h2 : Px (f :: l) = true:=by simp [Px]; left; omega
   rw [h1,h2]
   rfl
def ZP (l : List FM) : List (FM × List UInt8):=l.map fun f=>(f,if f.kind = 1 then f.text.data.toList else List.replicate f.size 0)
theorem ZP_fst (l : List FM) : (ZP l).map (·.1) = l:=by
 simp only [ZP,List.map_map]
 exact (List.map_congr_left (fun _ _=>rfl)).trans (List.map_id l)
theorem ZP_len (l : List FM) : (ZP l).length = l.length:=by simp [ZP]
theorem acc0_run {d : Nat} (hd : 24 ≤ d) {H : List Sk} {x : D} {rows : List (List D)} {gs v : Nat} {l : List FM} (hS : SrcF H x rows gs v) (hR : RW l rows) (hlen : l.length ≤ 256) (nm : ByteArray) (p0 c0 : Nat) :
  ∃ (y : D) (l4 : List Sk) (wr : Bool),Bf LP NN d 23 [.agg [.str nm,x,.int .i64 (p0 : Nat),.int .i64 (c0 : Nat)],.Tk] ⟨H,0⟩ = some (.tup [y,.int .i64 0,.int .i64 (if Px l then 7 else 0)],⟨H ++ l4,0⟩,wr):=by
 obtain ⟨r,hA,hr⟩:=accept_run (d:=d) hd hS hR (ls:=[]) (xl:=.Tk) (T:=fun _ _=>(.undef,false)) (.nil 1) hlen (by simp) (fun i j p hi hj=>absurd hj (by simp)) nm p0 c0 0 (by omega)
 rw [show ([] : List ByteArray).length = 0 from rfl,accF0] at hA
 cases hk : Px l with
 | true =>
  rw [hk,if_pos rfl] at hA
  refine ⟨.Tk,[],false,?_⟩
  rw [hr,show r = _ from hA,List.append_nil]
  rfl
 | false =>
  rw [hk] at hA
  obtain ⟨y,H4,go,wr,h1,-,h2,h3,-⟩:=hA
  obtain ⟨l4,rfl⟩:=ext_of h2 h3
  refine ⟨y,l4,wr,?_⟩
  rw [hr,h1]
  rfl

theorem law7_run {d : Nat} (hd : 30 ≤ d) (S : St) {l : List FM} {wt wh : UInt8} {lx : D} (hlx : SlD 6 (Ik l) lx) : Bf LP NN d 7 [lx, .int .u8 (wt.toNat : Nat), .int .u8 (wh.toNat : Nat)] S = some (.bool true, S, false) := by
 refine run_pure (F:=F7) rfl (by simp only [LP,Ar,zs,hlx.Sw]<;>exact rfl) rfl (by simp only [LP,zf,zm,hlx.Sy]; try rfl) (by simp only [F7,zv]<;>exact rfl) (by omega) ?_
 rintro d rfl
 refine Ad (Bj ?_)
 refine Aa (Af ?_)
 refine Aj (Ad ?_)
 refine Ae rfl (Ab (by simp only [zo,hlx.len,E8]<;>exact rfl) ?_)
 refine xo2 ?_
 refine Ag rfl ?_
 refine Lu 0 (by simp only [zv]<;>exact rfl) (by simp only [zn]<;>exact rfl) (by simp only [zn]<;>exact rfl) (fun hg=>?_) (fun hg=>?_)
 ·
  refine Bb rfl rfl ?_
  refine Bb rfl rfl ?_
  refine Bb rfl rfl ?_
  refine xo1 ?_
  refine Aa (Af ?_)
  refine Pp (by simp only [opd,zv]) ?_
  refine Ad (Ab (by simp only [zo]; exact Jv (by omega) _) ?_)
  refine Ag rfl (Aa ?_)
  refine Af ?_
  refine Br (Gc ?_)
  refine ⟨_,by simp only [F7,Au,Bz,Dn,zg]<;>exact rfl,?_⟩
  simp only [Dx,leave,zs,zf,zk]
 ·
  refine Ah rfl (Ae rfl ?_)
  refine Ah rfl (Ab (by simp only [zo,hlx.len,E8]<;>exact rfl) ?_)
  refine Ah rfl (xo2 ?_)
  refine xo1 ?_
  refine Aa (Af ?_)
  refine Cm (by simp only [opd,zv]<;>exact rfl) (fun hcF=>?_) (fun hcF=>?_)
  ·
   refine Ad (Ab (by simp only [zo]; exact Jv (by omega) _) ?_)
   refine Ag rfl (Aa ?_)
   refine Af ?_
   refine Br (Gc ?_)
   refine ⟨_,by simp only [F7,Au,Bz,Dn,zg]<;>exact rfl,?_⟩
   simp only [Dx,leave,zs,zf,zk]
  ·
   have hll : l.length ≤ 10:=by have:=of_decide_eq_false hg; omega
   have hpos : 0 < l.length:=by have:=hcF; rw [beq_eq_false_iff_ne] at this; omega
   obtain ⟨H',x0,gs,rows,wr,hof,-,-,hFL,hRW,-⟩:=of_run (d:=d) (by omega) [] 0 (by simp) hlx (by omega)
   have hrl:=hRW.len
   obtain ⟨vs,rfl,hob⟩ : ∃ vs,x0 = .msl gs vs 0 l.length none∧H'[gs]? = some ⟨48,16,rows,vs,0,true⟩:=by
    rcases hFL with ⟨rfl,h⟩ | h
    ·
     rw [h] at hrl; simp at hrl; omega
    ·
     rw [← hrl]; exact h
   have zz2:=And.intro @Bu (And.intro @Di (And.intro hrl (@bne_self_eq_false.{0})))
   refine Ap (Bt rfl (Ad ?_))
   refine Ae rfl (Ab (by simp only [zo]; exact hof) ?_)
   refine Ag rfl (xo17 ?_)
   refine Pz ?_
   refine xo6 ?_
   refine xo30 ?_
   refine Ag rfl (Aa ?_)
   refine Af ?_
   refine Aj (Ad ?_)
   refine Ae rfl (xo9 ?_)
   refine Ag rfl (Ch 0 (b:=false) ?_)
   refine Ah rfl (xo0 ?_)
   refine Ah rfl (xo4 ?_)
   refine Ah rfl (xo1 ?_)
   refine Ah rfl (Ae rfl ?_)
   refine Ah rfl (Ab (by simp only [zo,hlx.len,E8]<;>exact rfl) ?_)
   refine Ah rfl (Ns ?_)
   refine xo1 ?_
   refine Aa (Af ?_)
   skip
   refine Cq ?_
   refine Ap (Bt rfl (Ad ?_))
   refine Bj (Aa ?_)
   refine Af ?_
   refine Aj (Ad ?_)
   refine Bj (Aa ?_)
   refine Af ?_
   refine Av ?_
   refine D5 (fun n env S'=>∃ (i qv : Nat) (l2 : List Sk) (xv v19 : D) (vals : List D),i ≤ l.length∧n = l.length - i∧S' = ⟨H' ++ l2,0⟩∧env = [lx,.int .u8 (wt.toNat : Nat),.int .u8 (wh.toNat : Nat),.bool false,.ptr H'.length 0 0 0,.bool true,xv,.int .i64 (i : Nat),.undef,.undef,.undef,.undef,.undef,.undef,.undef,.undef,.undef,.bool (((l.length : Nat) : Int) == 0),.bool false,v19,.undef,.undef,.undef,.undef,.undef,.undef,.undef,.undef,.undef,.undef,.undef,.undef]∧VZ l2 H'.length l i vals∧RG 42 0 l2 H'.length qv xv (vals.map fun v=>[v])∧0 < qv∧l2[0]? = some ⟨36,4,[[.str nmA,Ck (.msl gs vs 0 l.length none),.int .i64 ((1 : Nat) : Int),.int .i64 ((12 : Nat) : Int)]],0,0,false⟩) (l.length) (by omega) (⟨0,1,[⟨36,4,[[.str nmA,Ck (.msl gs vs 0 l.length none),.int .i64 ((1 : Nat) : Int),.int .i64 ((12 : Nat) : Int)]],0,0,false⟩],.Tk,_,[],by omega,by omega,rfl,rfl,⟨rfl,fun j h=>absurd h (by omega)⟩,.inl ⟨rfl,rfl⟩,by omega,rfl⟩) ?_
   rintro n env S' ⟨i,qv,l2,xv,v19,vals,hi,hnk,rfl,rfl,hVZ,hRG,hqv,hsb⟩
   refine Aj (Ad ?_)
   refine Ae rfl (Ae rfl ?_)
   refine Ab (by simp only [zo,hlx.len,E8]<;>exact rfl) ?_
   refine xo2 ?_
   refine Aa (Af ?_)
   refine Cm (by simp only [opd,zv]<;>exact rfl) (fun hcFFA=>?_) (fun hcFFA=>?_)
   ·
    have hlt : i < l.length:=by have:=of_decide_eq_true hcFFA; omega
    have hwi:=Du i (by omega)
    have hia:=fun (S : St)=>hlx.iaddrN S .i64 (Ni hlt)
    have hsz:=l[i].size_le
    have hRG2:=hRG.more [(⟨5,1,List.replicate l[i].size [.int .u8 0],0,1,false⟩ : Sk)]
    obtain ⟨x6,l6,q6,hap0,hV6,hq6,hl6,h60,hk6⟩:=hRG2.app0 (row:=[.msl (H'.length + l2.length) 0 0 l[i].size none]) (b:=24) (lo:=0) hqv (by omega) (by rw [List.length_map,hVZ.1]; omega) (by omega) (by simp)
    simp only [Ll_,List.length_cons,List.length_nil,Lo_,List.cons_append,List.nil_append,Nat.zero_add] at hap0
    have hms : (0 ≤ ((l[i].size : Nat) : Int)∧((l[i].size : Nat) : Int) ≤ ((l[i].size : Nat) : Int)∧l[i].size * 1 ≤ 140737488355328) = True:=eq_true (by omega)
    have zz3:=And.intro hwi (And.intro hia (And.intro hms (@Int.toNat_natCast)))
    refine Ap (Bt rfl (Aj (Av (Bc ?_))))
    refine Ae rfl (Ae rfl ?_)
    refine Ae rfl (Ab (by simp only [zl,zm,FM.row,zz3]<;>exact rfl) ?_)
    refine xo5 ?_
    refine Ab (by simp only [zo]; exact size_run (by omega) _ _) ?_
    refine Ab (by simp only [zl,zm,decide_false,zz3]<;>exact rfl) ?_
    refine Ab (by simp only [zl,zm,List.replicate,Ar,zs,zz2]<;>exact rfl) ?_
    refine Ab (by simp only [Aw,aop,LOp.loud,lop,if_true,opd,zv]; exact hap0) ?_
    refine Ag rfl ?_
    refine Aa (Eh ?_)
    refine Af ?_
    refine Bc (Ae rfl ?_)
    refine Ab (by simp only [zo,Bo,zz3]<;>exact rfl) ?_
    refine Ag rfl (Aa ?_)
    refine Gr (by simp only [ze]<;>exact rfl) ?_
    exact ⟨l.length - (i + 1),by omega,i + 1,q6,l6,x6,_,vals ++ [.msl (H'.length + l2.length) 0 0 l[i].size none],by omega,rfl,rfl,rfl,(hVZ.keep (l3:=l6) fun k o ho he=>hk6 k o (by rw [Cg (Bh ho)]; exact ho) (by rw [he]; decide)).snoc hlt (hk6 l2.length _ (by simp) (show (5 : Nat) ≠ 42 by decide)),by rw [List.map_append]; exact hV6,hq6,by rw [h60,La_ (Bh hsb)]; exact hsb⟩
   ·
    have hi' : i = l.length:=by have:=of_decide_eq_false hcFFA; omega
    subst hi'
    have hwl : IntKind.i64.wrap ((wh.toNat : Nat) : Int) = ((wh.toNat : Nat) : Int):=by have:=wh.toNat_lt; rw [IntKind.wrap_i64]; omega
    have hn0 : (((l.length : Nat) : Int) = 0) = False:=eq_false (by omega)
    have htm : ((wh.toNat : Nat) : Int).tmod (l.length : Nat) = ((wh.toNat % l.length : Nat) : Int):=tmod_nat _ _
    obtain ⟨idx,hidx⟩ : ∃ idx,idx = wh.toNat % l.length:=⟨_,rfl⟩
    rw [← hidx] at htm
    have hil : idx < l.length:=by rw [hidx]; exact Nat.mod_lt _ hpos
    have hgs2 : (H' ++ l2)[gs]? = some ⟨48,16,rows,vs,0,true⟩:=by rw [Cg (Bh hob)]; exact hob
    obtain ⟨pp,hrow⟩:=hRW.at_ hil
    obtain ⟨tx,op,nu,r1,r2,hrf,htx,hop,hk1,hk2⟩:=Ho l[idx] pp
    rw [hrf] at hrow
    have hgl:=Bh hob
    have hform : l[idx].kind = 1→nu = false∧tx = .sl 1 (Be l[idx].text) none∧r1 = Be l[idx].text:=fun h=>⟨(hk1 h).1,(hk1 h).2.1,(hk1 h).2.2.2⟩
    have hsz2:=l[idx].size_le
    have hw82 : IntKind.i64.wrap (82 - ((l[idx].size : Nat) : Int)) = 82 - ((l[idx].size : Nat) : Int):=by rw [IntKind.wrap_i64]; omega
    have h0i : (0 : Int) ≤ (idx : Int):=by omega
    have hii : (idx : Int) < ((l.length : Nat) : Int):=by omega
    have zz4:=And.intro hsb (And.intro hwl (And.intro hn0 (And.intro htm (And.intro h0i (And.intro hii (And.intro @Int.toNat_natCast (And.intro hgs2 (And.intro hrl (And.intro hrow (hw82))))))))))
    refine Dq (H6 (Iz (Ig (Bt rfl (Aj ?_)))))
    refine Ez ?_
    refine xo3 rfl rfl ?_
    refine Cr (by simp only [zl,zm,zd,Ay,List.take,List.drop,zz2,Ck,zz4]<;>exact rfl) rfl ?_
    refine Cc rfl rfl (Ce (by simp only [zo,zz4]<;>exact rfl) rfl rfl ?_)
    refine Cc rfl rfl (Ce (by simp only [zo,hlx.len,E8]<;>exact rfl) rfl rfl ?_)
    refine Ce (by simp only [zo,Bo,zb,zz4]<;>exact rfl) rfl rfl ?_
    refine Cr (by simp only [zl,zm,Cj,zz4]<;>exact rfl) rfl ?_
    refine Ee rfl rfl (De ?_)
    refine Af ?_
    refine Ad (Bj ?_)
    refine Aa (Af ?_)
    refine cw_cut (fun env S'=>∃ (x1 : D) (H2 : List Sk) (e : Int) (w10 w20 w21 w22 w23 w24 w25 w26 w27 w28 : D),S' = ⟨H2,0⟩∧env = [lx,.int .u8 (wt.toNat : Nat),.int .u8 (wh.toNat : Nat),.bool false,.ptr H'.length 0 0 0,.bool true,xv,.int .i64 (l.length : Nat),.ptr gs vs idx 0,.int .i64 e,w10,.undef,.undef,.undef,.undef,.undef,.undef,.bool (((l.length : Nat) : Int) == 0),.bool false,.bool (decide (((l.length : Nat) : Int) < ((l.length : Nat) : Int))),w20,w21,w22,w23,w24,w25,w26,w27,w28,.undef,.undef,.undef]∧H2[H'.length]? = some ⟨36,4,[[.str nmA,x1,.int .i64 ((1 : Nat) : Int),.int .i64 ((12 : Nat) : Int)]],0,0,false⟩∧(∃ rows1 gs1 v1,SrcF H2 x1 rows1 gs1 v1)∧(∃ gv vv,SrcV H2 xv vals gv vv)∧((e != 0) = true∧(∀ d',20 ≤ d'→∀ l lo,Bf LP NN d' 13 [.agg [.str nmA,x1,.int .i64 ((1 : Nat) : Int),.int .i64 ((12 : Nat) : Int)]] ⟨H2 ++ l,lo⟩ = some (.int .i64 e,⟨H2 ++ l,lo⟩,false)) ∨ e = 0∧H2 = H' ++ l2∧x1 = Ck (.msl gs vs 0 l.length none))) ?_ ?_
    ·
     refine Ad (Ae rfl ?_)
     refine Ab (by simp only [zo,Bo,zb,Int.reduceEq]<;>exact rfl) ?_
     refine Aa (Af ?_)
     refine Av (Ad ?_)
     refine xo2 ?_
     refine Ag rfl (Aa ?_)
     refine Af ?_
     refine Cm (by simp only [opd,zv]<;>exact rfl) (fun hcFFAF=>?_) (fun hcFFAF=>?_)
     ·
      refine Bc (Ae rfl ?_)
      refine xo1 ?_
      refine xo0 ?_
      refine xo25 ?_
      refine Aa (Eh ?_)
      refine ck_n (by simp only [ze]<;>exact rfl) ?_
      refine ⟨Ck (.msl gs vs 0 l.length none),_,_,_,_,_,_,_,_,_,_,_,_,rfl,rfl,?_,?_,?_,?_⟩
      ·
       rw [Ln_ (by omega)]
       exact (Bu H' l2 0).trans hsb
      ·
       exact ⟨_,_,_,Es (List.getElem?_set_self (by rw [Ll_]; omega)) (by rw [List.length_set]; exact hrl.symm)⟩
      ·
       exact Ip hRG fun k o ho _=>by rw [Ln_ (by omega),Bu]; exact ho
      ·
       refine .inl ⟨rfl,fun d' hd' l3 lo=>?_⟩
       exact bad0_run hd' ((Es (List.getElem?_set_self (by rw [Ll_]; omega)) (by rw [List.length_set]; exact hrl.symm)).mono l3) hRW hll hil htx hop hform nmA 1 12 lo
     ·
      refine Ad (xo2 ?_)
      refine Ag rfl (Aa ?_)
      refine Af ?_
      refine Cm (by simp only [opd,zv]<;>exact rfl) (fun hcFFAFF=>?_) (fun hcFFAFF=>?_)
      ·
       refine Bc (Ae rfl ?_)
       refine xo1 ?_
       refine xo0 ?_
       refine xo25 ?_
       refine Aa (Eh ?_)
       refine ck_n (by simp only [ze]<;>exact rfl) ?_
       refine ⟨Ck (.msl gs vs 0 l.length none),_,_,_,_,_,_,_,_,_,_,_,_,rfl,rfl,?_,?_,?_,?_⟩
       ·
        rw [Ln_ (by omega)]
        exact (Bu H' l2 0).trans hsb
       ·
        exact ⟨_,_,_,Es (List.getElem?_set_self (by rw [Ll_]; omega)) (by rw [List.length_set]; exact hrl.symm)⟩
       ·
        exact Ip hRG fun k o ho _=>by rw [Ln_ (by omega),Bu]; exact ho
       ·
        refine .inl ⟨rfl,fun d' hd' l3 lo=>?_⟩
        exact bad1_run hd' ((Es (List.getElem?_set_self (by rw [Ll_]; omega)) (by rw [List.length_set]; exact hrl.symm)).mono l3) hRW hll hil htx hop hform nmA 1 12 lo
      ·
       refine Ad (xo2 ?_)
       refine Ag rfl (Aa ?_)
       refine Af ?_
       refine Cm (by simp only [opd,zv]<;>exact rfl) (fun hcFFAFFF=>?_) (fun hcFFAFFF=>?_)
       ·
        refine Ad (Ae rfl ?_)
        refine xo1 ?_
        refine xo0 ?_
        refine xo25 ?_
        refine Aa (Af ?_)
        refine Bc (Bj ?_)
        refine Aa (Eh ?_)
        refine ck_n (by simp only [ze]<;>exact rfl) ?_
        refine ⟨Ck (.msl gs vs 0 l.length none),_,_,_,_,_,_,_,_,_,_,_,_,rfl,rfl,?_,?_,?_,?_⟩
        ·
         rw [Ln_ (by omega)]
         exact (Bu H' l2 0).trans hsb
        ·
         exact ⟨_,_,_,Es (List.getElem?_set_self (by rw [Ll_]; omega)) (by rw [List.length_set]; exact hrl.symm)⟩
        ·
         exact Ip hRG fun k o ho _=>by rw [Ln_ (by omega),Bu]; exact ho
        ·
         refine .inl ⟨rfl,fun d' hd' l3 lo=>?_⟩
         exact bad2_run hd' ((Es (List.getElem?_set_self (by rw [Ll_]; omega)) (by rw [List.length_set]; exact hrl.symm)).mono l3) hRW hll hil htx hop hform nmA 1 12 lo
       ·
        refine Ad (xo2 ?_)
        refine Ag rfl (Aa ?_)
        refine Af ?_
        refine Cm (by simp only [opd,zv]<;>exact rfl) (fun hcFFAFFFF=>?_) (fun hcFFAFFFF=>?_)
        ·
         refine Ad (Ae rfl ?_)
         refine Ae rfl (xo1 ?_)
         refine xo0 ?_
         refine xo0 ?_
         refine Ab (by simp only [zl,zm,zd,Ay,List.take,List.drop,zz4]<;>exact rfl) ?_
         refine xo16 ?_
         refine xo1 ?_
         refine xo0 ?_
         refine xo25 ?_
         refine Aa (Af ?_)
         refine Bc (Bj ?_)
         refine Aa (Eh ?_)
         refine ck_n (by simp only [ze]<;>exact rfl) ?_
         refine ⟨Ck (.msl gs vs 0 l.length none),_,_,_,_,_,_,_,_,_,_,_,_,rfl,rfl,?_,?_,?_,?_⟩
         ·
          rw [Ln_ (by omega)]
          exact (Bu H' l2 0).trans hsb
         ·
          exact ⟨_,_,_,Es (List.getElem?_set_self (by rw [Ll_]; omega)) (by rw [List.length_set]; exact hrl.symm)⟩
         ·
          exact Ip hRG fun k o ho _=>by rw [Ln_ (by omega),Bu]; exact ho
         ·
          refine .inl ⟨rfl,fun d' hd' l3 lo=>?_⟩
          exact bad3_run hd' ((Es (List.getElem?_set_self (by rw [Ll_]; omega)) (by rw [List.length_set]; exact hrl.symm)).mono l3) hRW hll hil htx hop hform nmA 1 12 lo
        ·
         refine Ad (xo2 ?_)
         refine Ag rfl (Aa ?_)
         refine Af ?_
         refine Cm (by simp only [opd,zv]<;>exact rfl) (fun hcFFAFFFFF=>?_) (fun hcFFAFFFFF=>?_)
         ·
          refine Ad (Ae rfl ?_)
          refine xo1 ?_
          refine xo0 ?_
          refine xo25 ?_
          refine Aa (Af ?_)
          refine Bc (Bj ?_)
          refine Aa (Eh ?_)
          refine ck_n (by simp only [ze]<;>exact rfl) ?_
          refine ⟨Ck (.msl gs vs 0 l.length none),_,_,_,_,_,_,_,_,_,_,_,_,rfl,rfl,?_,?_,?_,?_⟩
          ·
           rw [Ln_ (by omega)]
           exact (Bu H' l2 0).trans hsb
          ·
           exact ⟨_,_,_,Es (List.getElem?_set_self (by rw [Ll_]; omega)) (by rw [List.length_set]; exact hrl.symm)⟩
          ·
           exact Ip hRG fun k o ho _=>by rw [Ln_ (by omega),Bu]; exact ho
          ·
           refine .inl ⟨rfl,fun d' hd' l3 lo=>?_⟩
           exact bad4_run hd' ((Es (List.getElem?_set_self (by rw [Ll_]; omega)) (by rw [List.length_set]; exact hrl.symm)).mono l3) hRW hll hil htx hop hform nmA 1 12 lo
         ·
          refine Ad (xo2 ?_)
          refine Ag rfl (Aa ?_)
          refine Af ?_
          refine Cm (by simp only [opd,zv]<;>exact rfl) (fun hcFFAFFFFFF=>?_) (fun hcFFAFFFFFF=>?_)
          ·
           refine Bc (Ae rfl ?_)
           refine xo1 ?_
           refine xo0 ?_
           refine xo0 ?_
           refine xo25 ?_
           refine Aa (Eh ?_)
           refine ck_n (by simp only [ze]<;>exact rfl) ?_
           refine ⟨Ck (.msl gs vs 0 l.length none),_,_,_,_,_,_,_,_,_,_,_,_,rfl,rfl,?_,?_,?_,?_⟩
           ·
            rw [Ln_ (by omega)]
            exact (Bu H' l2 0).trans hsb
           ·
            exact ⟨_,_,_,Es (List.getElem?_set_self (by rw [Ll_]; omega)) (by rw [List.length_set]; exact hrl.symm)⟩
           ·
            exact Ip hRG fun k o ho _=>by rw [Ln_ (by omega),Bu]; exact ho
           ·
            refine .inl ⟨rfl,fun d' hd' l3 lo=>?_⟩
            exact bad5_run hd' ((Es (List.getElem?_set_self (by rw [Ll_]; omega)) (by rw [List.length_set]; exact hrl.symm)).mono l3) hRW hll hil htx hop hform nmA 1 12 lo
          ·
           refine Ad (xo2 ?_)
           refine Ag rfl (Aa ?_)
           refine Af ?_
           refine Cm (by simp only [opd,zv]<;>exact rfl) (fun hcFFAFFFFFFF=>?_) (fun hcFFAFFFFFFF=>?_)
           ·
            refine Aj (Ad ?_)
            refine Bj (Aa ?_)
            refine Af ?_
            refine Av ?_
            refine D5 (fun n env S'=>∃ (k : Nat) (H3 : List Sk) (x3 v20 v21 v22 v23 v24 v25 v26 v27 w28 : D) (rows3 : List (List D)),k ≤ 257∧n = 257 - k∧S' = ⟨H3,0⟩∧env = [lx,.int .u8 (wt.toNat : Nat),.int .u8 (wh.toNat : Nat),.bool false,.ptr H'.length 0 0 0,.bool true,xv,.int .i64 (l.length : Nat),.ptr gs vs idx 0,.int .i64 1,.int .i64 (k : Nat),.undef,.undef,.undef,.undef,.undef,.undef,.bool (((l.length : Nat) : Int) == 0),.bool false,.bool (decide (((l.length : Nat) : Int) < ((l.length : Nat) : Int))),v20,v21,v22,v23,v24,v25,v26,v27,w28,.undef,.undef,.undef]∧H3[H'.length]? = some ⟨36,4,[[.str nmA,x3,.int .i64 ((1 : Nat) : Int),.int .i64 ((12 : Nat) : Int)]],0,0,false⟩∧A48 H3 x3 rows3∧rows3.length = l.length + k∧rows3[0]? = rows[0]?∧∀ (q : Nat) (o : Sk),l2[q]? = some o→o.elem = 42→H3[H'.length + q]? = some o) (257) (by omega) (⟨0,H' ++ l2,_,_,_,_,_,_,_,_,_,_,rows,by omega,by omega,rfl,rfl,(Bu H' l2 0).trans hsb,⟨gs,vs,some rows.length,by rw [hrl]; rfl,.inr rfl,hgs2⟩,hrl,rfl,fun q o ho _=>by rw [Bu]; exact ho⟩) ?_
            rintro n env S' ⟨k,H3,x3,v20,v21,v22,v23,v24,v25,v26,v27,w28,rows3,hk,hnk2,rfl,rfl,hc3,hA3,hr3,h03,hk3⟩
            refine Aj (Ad ?_)
            refine Ae rfl (xo2 ?_)
            refine Aa (Af ?_)
            refine Cm (by simp only [opd,zv]<;>exact rfl) (fun hcFFAFFFFFFFTL=>?_) (fun hcFFAFFFFFFFTL=>?_)
            ·
             have hk7 : k < 257:=by have:=of_decide_eq_true hcFFAFFFFFFFTL; omega
             have hwk:=Du k (by omega)
             obtain ⟨pp0,hrow0⟩:=hRW.at_ hpos
             obtain ⟨tx0,op0,nu0,r10,r20,hrf0,htx0,hop0,-,-⟩:=Ho l[0] pp0
             rw [hrf0] at hrow0
             have hrow3:=h03.trans hrow0
             have hA4:=app48 [.int .i64 (l[0].line : Nat),.int .i64 (l[0].column : Nat),.int .u8 (l[0].kind : Nat),tx0,.int .u8 (if nu0 then (if l[0].size = 1 then 4 else 5) else 2),.int .u8 0,.str (Dz nu0 l[0].size),.int .i64 (if nu0 then (l[0].size : Nat) else 0),.int .i64 0,.bool false,.bool false,.bool false,.bool false,.bool false,.int .i64 (l[0].size : Nat),op0] hA3 (by omega) (by omega)
             obtain ⟨g4,v4,H4,hap,ho4,hl4,hk4⟩:=hA4
             obtain ⟨g3,v3,c3,rfl,hcc,ho3⟩:=hA3
             have hr0 : (0 : Int) < ((rows3.length : Nat) : Int):=by omega
             have hc4:=hk4 _ _ hc3 (show (36 : Nat) ≠ 48 by decide)
             have hfr : Dw [[.int .i64 0,.int .i64 0,.int .u8 0,.Tk,.int .u8 0,.int .u8 0,.str ⟨#[]⟩,.int .i64 0,.int .i64 0,.bool false,.bool false,.bool false,.bool false,.bool false,.int .i64 0,.Tk]] 16 [0] [.agg [.int .i64 (l[0].line : Nat),.int .i64 (l[0].column : Nat),.int .u8 (l[0].kind : Nat),tx0,.int .u8 (if nu0 then (if l[0].size = 1 then 4 else 5) else 2),.int .u8 0,.str (Dz nu0 l[0].size),.int .i64 (if nu0 then (l[0].size : Nat) else 0),.int .i64 0,.bool false,.bool false,.bool false,.bool false,.bool false,.int .i64 (l[0].size : Nat),op0]] = some [[.int .i64 (l[0].line : Nat),.int .i64 (l[0].column : Nat),.int .u8 (l[0].kind : Nat),tx0,.int .u8 (if nu0 then (if l[0].size = 1 then 4 else 5) else 2),.int .u8 0,.str (Dz nu0 l[0].size),.int .i64 (if nu0 then (l[0].size : Nat) else 0),.int .i64 0,.bool false,.bool false,.bool false,.bool false,.bool false,.int .i64 (l[0].size : Nat),op0]]:=by
              simp [Dw,D.val,D.cells,htx0.Tc,hop0.Tc,I1,N8,Ma]
             have hn1 : H3.length ≠ H'.length:=by have:=Bh hc3; omega
             have hn2 : g4 ≠ H'.length:=by intro e; rw [e,hc4] at ho4; cases ho4
             have hn3 : g3 ≠ H'.length:=by intro e; rw [e,hc3] at ho3; cases ho3
             have zz5:=And.intro hc3 (And.intro hwk (And.intro ho3 (And.intro hrow3 (And.intro hr0 (And.intro htx0.Tc (And.intro htx0.cells (And.intro htx0.val (And.intro hop0.Tc (And.intro hop0.cells (And.intro hop0.val (And.intro hc4 (hfr))))))))))))
             refine Ap (Bt rfl (Aj (Av ?_)))
             refine Ez ?_
             refine xo3 rfl rfl ?_
             refine Ca (by simp only [zl,zm,zd,Ay,List.take,List.drop,zz5]<;>exact rfl) (by simp only [Bd,zo,zq]<;>exact rfl) (by first | rfl | (simp [show ob 1 1 = [true] from rfl,Sv,Ao,Am,Bp,Al,Ba,dj,Ak,Ai,Az,Bg,Cb,Co,Bv,Aq,hn1,hn2,hn3,hn1.symm,hn2.symm,hn3.symm]; done) | (by_cases h34 : g3 = g4<;>simp [h34,show ob 1 1 = [true] from rfl,Sv,Ao,Am,Bp,Al,Ba,dj,Ak,Ai,Az,Bg,Cb,Co,Bv,Aq,hn1,hn2,hn3,hn1.symm,hn2.symm,hn3.symm]; done) | (by_cases h34 : g3 = g4<;>simp [h34,show ob 1 1 = [true] from rfl,Sv,Ao,Am,Bp,Al,Ba,dj,Ak,Ai,Az,Bg,Cb,Co,Bv,Aq,hn1,hn2,hn3,hn1.symm,hn2.symm,hn3.symm])) ?_
             refine xo3 rfl rfl ?_
             refine Ca (by simp only [zl,zm,zd,Ay,List.take,List.drop,zz5]<;>exact rfl) (by simp only [Bd,zo,zq]<;>exact rfl) (by first | rfl | (simp [show ob 4 3 = [true,false,false] from rfl,Sv,Ao,Am,Bp,Al,Ba,dj,Ak,Ai,Az,Bg,Cb,Co,Bv,Aq,hn1,hn2,hn3,hn1.symm,hn2.symm,hn3.symm]; done) | (by_cases h34 : g3 = g4<;>simp [h34,show ob 4 3 = [true,false,false] from rfl,Sv,Ao,Am,Bp,Al,Ba,dj,Ak,Ai,Az,Bg,Cb,Co,Bv,Aq,hn1,hn2,hn3,hn1.symm,hn2.symm,hn3.symm]; done) | (by_cases h34 : g3 = g4<;>simp [h34,show ob 4 3 = [true,false,false] from rfl,Sv,Ao,Am,Bp,Al,Ba,dj,Ak,Ai,Az,Bg,Cb,Co,Bv,Aq,hn1,hn2,hn3,hn1.symm,hn2.symm,hn3.symm])) ?_
             refine Ca (by simp only [zl,zm,Cj,Int.toNat_zero,Int.le_refl,Int.toNat_zero,Int.le_refl,zz5]<;>exact rfl) (by simp only [Bd,zo,zq]<;>exact rfl) (by first | rfl | (simp [show ob 12 4 = [true,true,false,false] from rfl,Sv,Ao,Am,Bp,Al,Ba,dj,Ak,Ai,Az,Bg,Cb,Co,Bv,Aq,hn1,hn2,hn3,hn1.symm,hn2.symm,hn3.symm]; done) | (by_cases h34 : g3 = g4<;>simp [h34,show ob 12 4 = [true,true,false,false] from rfl,Sv,Ao,Am,Bp,Al,Ba,dj,Ak,Ai,Az,Bg,Cb,Co,Bv,Aq,hn1,hn2,hn3,hn1.symm,hn2.symm,hn3.symm]; done) | (by_cases h34 : g3 = g4<;>simp [h34,show ob 12 4 = [true,true,false,false] from rfl,Sv,Ao,Am,Bp,Al,Ba,dj,Ak,Ai,Az,Bg,Cb,Co,Bv,Aq,hn1,hn2,hn3,hn1.symm,hn2.symm,hn3.symm])) ?_
             refine Ca (by simp only [zl,zm,zd,Ay,List.take,List.drop,zz5]<;>exact rfl) (by simp only [Bd,zo,zq]<;>exact rfl) (by first | rfl | (simp [show ob 28 5 = [true,true,true,false,false] from rfl,Sv,Ao,Am,Bp,Al,Ba,dj,Ak,Ai,Az,Bg,Cb,Co,Bv,Aq,hn1,hn2,hn3,hn1.symm,hn2.symm,hn3.symm]; done) | (by_cases h34 : g3 = g4<;>simp [h34,show ob 28 5 = [true,true,true,false,false] from rfl,Sv,Ao,Am,Bp,Al,Ba,dj,Ak,Ai,Az,Bg,Cb,Co,Bv,Aq,hn1,hn2,hn3,hn1.symm,hn2.symm,hn3.symm]; done) | (by_cases h34 : g3 = g4<;>simp [h34,show ob 28 5 = [true,true,true,false,false] from rfl,Sv,Ao,Am,Bp,Al,Ba,dj,Ak,Ai,Az,Bg,Cb,Co,Bv,Aq,hn1,hn2,hn3,hn1.symm,hn2.symm,hn3.symm])) ?_
             refine Ca (by simp only [zl,zm,List.replicate,Ar,Bw,zs,zz5]<;>exact rfl) (by simp only [Bd,zo,zq]<;>exact rfl) (by first | rfl | (simp [show ob 60 6 = [true,true,true,true,false,false] from rfl,Sv,Ao,Am,Bp,Al,Ba,dj,Ak,Ai,Cb,Aq,hn1]; done) | (by_cases h34 : g3 = g4<;>simp [h34,show ob 60 6 = [true,true,true,true,false,false] from rfl,Sv,Ao,Am,Bp,Al,Ba,dj,Ak,Ai,Az,Bg,Cb,Co,Bv,Aq,hn1,hn2,hn3,hn1.symm,hn2.symm,hn3.symm]; done) | (by_cases h34 : g3 = g4<;>simp [h34,show ob 60 6 = [true,true,true,true,false,false] from rfl,Sv,Ao,Am,Bp,Al,Ba,dj,Ak,Ai,Az,Bg,Cb,Co,Bv,Aq,hn1,hn2,hn3,hn1.symm,hn2.symm,hn3.symm])) ?_
             refine Ca (by simp only [Aw,aop,LOp.loud,lop,if_true,opd,zv]; exact hap) (by simp only [Bd,zo,zq]<;>exact rfl) (by first | rfl | (simp [show ob 127 7 = [true,true,true,true,true,true,true] from rfl,Sv,Ao,Am,Bp,Al,Ba,dj,Ak,Ai,Az,Cb,Co,Bv,Aq]; done) | (by_cases h34 : g3 = g4<;>simp [h34,show ob 127 7 = [true,true,true,true,true,true,true] from rfl,Sv,Ao,Am,Bp,Al,Ba,dj,Ak,Ai,Cb,Co,Bv,Aq,hn2]; done) | (by_cases h34 : g3 = g4<;>simp [h34,show ob 127 7 = [true,true,true,true,true,true,true] from rfl,Sv,Ao,Am,Bp,Al,Ba,dj,Ak,Ai,Az,Bg,Cb,Co,Bv,Aq,hn1,hn2,hn3,hn1.symm,hn2.symm,hn3.symm])) ?_
             refine xo3 rfl rfl ?_
             refine Ca (by simp only [zl,zm,Bq,overlay,zs,zc,zf,List.take,List.drop,zz5]<;>exact rfl) (by simp only [Bd,zo,zq]<;>exact rfl) (by first | rfl | (simp [show ob 511 9 = [true,true,true,true,true,true,true,true,true] from rfl,Sv,Ao,Am,Bp,Al,Ba,dj,Ak,Ai,Az,Cb,Co,Bv,Aq]; done) | (by_cases h34 : g3 = g4<;>simp [h34,show ob 511 9 = [true,true,true,true,true,true,true,true,true] from rfl,Sv,Ao,Am,Bp,Al,Ba,dj,Ak,Ai,Cb,Co,Bv,Aq]; done) | (by_cases h34 : g3 = g4<;>simp [h34,show ob 511 9 = [true,true,true,true,true,true,true,true,true] from rfl,Sv,Ao,Am,Bp,Al,Ba,dj,Ak,Ai,Az,Bg,Cb,Co,Bv,Aq,hn1,hn2,hn3,hn1.symm,hn2.symm,hn3.symm])) ?_
             refine De (Eh ?_)
             refine Af ?_
             refine Bc (Ae rfl ?_)
             refine xo22 ?_
             refine Ag rfl (Aa ?_)
             refine Gr (by simp only [ze]<;>exact rfl) ?_
             exact ⟨257 - (k + 1),by omega,k + 1,H4.set H'.length ⟨36,4,[[.str nmA,(.msl g4 v4 0 (rows3.length + 1) none),.int .i64 ((1 : Nat) : Int),.int .i64 ((12 : Nat) : Int)]],0,0,false⟩,.msl g4 v4 0 (rows3.length + 1) none,_,_,_,_,_,_,_,_,_,rows3 ++ [_],by omega,rfl,rfl,rfl,List.getElem?_set_self (Bh hc4),⟨g4,v4,none,by simp,.inl rfl,by rw [Ln_ hn2.symm]; exact ho4⟩,by rw [Ll_]; simp; omega,by rw [La_ (by omega)]; exact h03,fun q o ho he=>by rw [Ln_ ?_]; exact hk4 _ _ (hk3 q o ho he) (by rw [he]; decide); intro e; have h:=hk3 q o ho he; rw [← e,hc3] at h; cases h; exact absurd he (show ¬ (36 : Nat) = 42 by decide)⟩
            ·
             have hk7 : k = 257:=by have:=of_decide_eq_false hcFFAFFFFFFFTL; omega
             refine Dq (H6 (Iz (Ig (Bt rfl (Bc ?_)))))
             refine Bj ?_
             refine Aa (Eh ?_)
             refine ck_n (by simp only [ze]<;>exact rfl) ?_
             refine ⟨x3,H3,3,_,_,_,_,_,_,_,_,_,_,rfl,rfl,hc3,?_,Ip hRG hk3,.inl ⟨rfl,fun d' hd' l3 lo=>?_⟩⟩
             ·
              obtain ⟨g3,v3,c3,rfl,-,ho3⟩:=hA3
              exact ⟨_,_,_,Es ho3 rfl⟩
             ·
              obtain ⟨g3,v3,c3,rfl,-,ho3⟩:=hA3
              exact check_many (by omega) ((Es ho3 rfl).mono l3) (by omega) nmA 1 12 lo
           ·
            refine Bc (Bj ?_)
            refine Aa (Eh ?_)
            refine ck_n (by simp only [ze]<;>exact rfl) ?_
            refine ⟨Ck (.msl gs vs 0 l.length none),_,_,_,_,_,_,_,_,_,_,_,_,rfl,rfl,?_,?_,?_,?_⟩
            ·
             exact (Bu H' l2 0).trans hsb
            ·
             exact ⟨_,_,_,Es hgs2 hrl.symm⟩
            ·
             exact Ip hRG fun k o ho _=>by rw [Bu]; exact ho
            ·
             exact .inr ⟨rfl,rfl,rfl⟩
    rintro env S' ⟨x1,H2,e,w10,w20,w21,w22,w23,w24,w25,w26,w27,w28,rfl,rfl,hcell,⟨rows1,gs1,v1,hS1⟩,⟨gv,vv,hV1⟩,hcase⟩
    rcases hcase with ⟨he,hchk⟩ | ⟨rfl,rfl,rfl⟩
    rotate_left
    ·
     have hS2 : SrcF (H' ++ l2) (Ck (.msl gs vs 0 l.length none)) rows gs vs:=Es hgs2 hrl.symm
     have hzl:=ZP_len l
     have hshow:=show_run (d:=d) (by omega) hS2 (P:=ZP l) (by rw [ZP_fst]; exact hRW) hV1 (by omega) (by rw [hVZ.1,hzl]) (fun i p w hp hw=>by
      simp only [ZP,Lp_,Om] at hp
      obtain ⟨f,hf,rfl⟩:=hp
      have hi:=(List.getElem?_eq_some_iff.1 hf).1
      refine ⟨?_,?_⟩
      ·
       simp only
       split
       ·
        exact Gv f
       ·
        simp
      ·
       by_cases hk : f.kind = 1
       ·
        simp only [hk,if_true]
       ·
        simp only [hk,if_false]
        have:=hVZ.rdb hf hi hw []
        rwa [List.append_nil] at this) nmA 1 12 0
     obtain ⟨y4,l4,wr4,hacc⟩:=acc0_run (d:=d) (by omega) hS2 hRW (by omega) nmA 1 12
     obtain ⟨cd,hcd⟩ : ∃ c : Int,c = (if Px l then 7 else 0):=⟨_,rfl⟩
     rw [← hcd,Lo_] at hacc
     have hck:=Nj (d:=d) (by omega) (hS2.mono l4) hRW (by omega) nmA 1 12 0
     rw [Lo_] at hck
     have hsb4 : (l2 ++ l4)[0]? = some ⟨36,4,[[.str nmA,(Ck (.msl gs vs 0 l.length none)),.int .i64 ((1 : Nat) : Int),.int .i64 ((12 : Nat) : Int)]],0,0,false⟩:=by rw [La_ (Bh hsb)]; exact hsb
     have zz6:=And.intro hcell (And.intro hsb4 (And.intro hsb (And.intro hS1.cell (And.intro @bne_self_eq_false.{0} (@beq_self_eq_true.{0})))))
     refine Ad (Ab (by simp only [zl,zm,zd,Ay,List.take,List.drop,zz2,Ck,zz4]<;>exact rfl) ?_)
     refine Ae rfl (Ab (by simp only [zo]; exact hshow) ?_)
     refine Ag rfl (xo17 ?_)
     refine Pz ?_
     refine Ag rfl (Ag rfl ?_)
     refine Aa (Af ?_)
     refine Ad (Ab (by simp only [zl,zm,zd,Ay,List.take,List.drop,zz2,Ck,zz4]<;>exact rfl) ?_)
     refine Ab (by simp only [zo]; exact hacc) ?_
     refine Ag rfl (xo17 ?_)
     refine Pz ?_
     refine Pz ?_
     refine Ag rfl (Ag rfl ?_)
     refine Ag rfl (Aa ?_)
     refine Af ?_
     refine Aj (Ad ?_)
     refine Ab (by simp only [zl,zm,zd,Ay,List.take,List.drop,zz2,Ck,zz6]<;>exact rfl) ?_
     refine Ab (by simp only [zo]; exact hck) ?_
     refine Ae rfl (Ns ?_)
     refine Ag rfl (Ch 0 (b:=false) ?_)
     refine Ah rfl (Ae rfl ?_)
     refine Ah rfl (Ae rfl ?_)
     refine Ah rfl (Ns ?_)
     refine xo1 ?_
     refine Aa (Af ?_)
     skip
     refine Cq ?_
     refine Ap (Bt rfl (Aj (Ad ?_)))
     refine Ae rfl (Ns ?_)
     refine Aa (Af ?_)
     skip
     refine Cq ?_
     refine Ap (Bt rfl (Ad ?_))
     refine Bj (Aa ?_)
     refine Af ?_
     refine Aj (Ad ?_)
     refine Bj (Aa ?_)
     refine Af ?_
     refine Av ?_
     refine D5 (fun n env S'=>∃ (i : Nat) (y11 y12 y29 y30 y31 : D),i ≤ l.length∧n = l.length - i∧S' = ⟨H' ++ (l2 ++ l4),0⟩∧env = [lx,.int .u8 (wt.toNat : Nat),.int .u8 (wh.toNat : Nat),.bool false,.ptr H'.length 0 0 0,.bool true,xv,.int .i64 (l.length : Nat),.ptr gs vs idx 0,.int .i64 0,w10,y11,y12,.int .i64 cd,.bool (Px (l.take i)),.int .i64 (i : Nat),.undef,.bool (((l.length : Nat) : Int) == 0),.bool false,.bool (decide (((l.length : Nat) : Int) < ((l.length : Nat) : Int))),w20,w21,w22,w23,w24,w25,w26,w27,w28,y29,y30,y31]) (l.length) (by omega) (⟨0,_,_,_,_,_,by omega,by omega,rfl,rfl⟩) ?_
     rintro n env S' ⟨i,y11,y12,y29,y30,y31,hi,hnk3,rfl,rfl⟩
     refine Aj (Ad ?_)
     refine Ae rfl (Ae rfl ?_)
     refine Ab (by simp only [zo,hlx.len,E8]<;>exact rfl) ?_
     refine xo2 ?_
     refine Aa (Af ?_)
     refine Cm (by simp only [opd,zv]<;>exact rfl) (fun hcFFAFZzY=>?_) (fun hcFFAFZzY=>?_)
     ·
      have hlt : i < l.length:=by have:=of_decide_eq_true hcFFAFZzY; omega
      have hwi:=Du i (by omega)
      have hia:=fun (S : St)=>hlx.iaddrN S .i64 (Ni hlt)
      have hkd:=l[i].kind_le
      have hdk : decide (((l[i].kind : Nat) : Int) ≥ 3) = decide (3 ≤ l[i].kind):=by rw [decide_eq_decide]; omega
      refine Ap (Bt rfl (Aj (Av (Bc ?_))))
      refine Ae rfl (Ag rfl ?_)
      refine Lu 0 (by simp only [zv]<;>exact rfl) (by simp only [zn]<;>exact rfl) (by simp only [zn]<;>exact rfl) (fun hgFFAFZzYT=>?_) (fun hgFFAFZzYT=>?_)
      ·
       refine Bb rfl rfl ?_
       refine Bb rfl rfl ?_
       refine Bb rfl rfl ?_
       refine Bb rfl rfl ?_
       refine Bb rfl rfl ?_
       refine Bb rfl rfl ?_
       refine xo1 ?_
       refine Ag rfl ?_
       refine Aa (Eh ?_)
       refine Af ?_
       refine Bc (Ae rfl ?_)
       refine Ab (by simp only [zo,Bo,hwi]<;>exact rfl) ?_
       refine Ag rfl (Aa ?_)
       refine Gr (by simp only [ze]<;>exact rfl) ?_
       exact ⟨l.length - (i + 1),by omega,i + 1,_,_,_,_,_,by omega,rfl,rfl,by rw [anyK_snoc hlt,hgFFAFZzYT]<;>exact rfl⟩
      ·
       refine Ah rfl (Ae rfl ?_)
       refine Ah rfl (Ae rfl ?_)
       refine Ah rfl (Ab (by simp only [zl,zm,hia,FM.row]<;>exact rfl) ?_)
       refine Ah rfl (xo5 ?_)
       refine Ah rfl (Ab (by simp only [zo]; exact L9 (by omega) _ _) ?_)
       refine Ah rfl (Ab (by simp only [zo,Bo,hdk]<;>exact rfl) ?_)
       refine xo1 ?_
       refine Ag rfl ?_
       refine Aa (Eh ?_)
       refine Af ?_
       refine Bc (Ae rfl ?_)
       refine Ab (by simp only [zo,Bo,hwi]<;>exact rfl) ?_
       refine Ag rfl (Aa ?_)
       refine Gr (by simp only [ze]<;>exact rfl) ?_
       exact ⟨l.length - (i + 1),by omega,i + 1,_,_,_,_,_,by omega,rfl,rfl,by rw [anyK_snoc hlt,hgFFAFZzYT]<;>exact rfl⟩
     ·
      have hi' : i = l.length:=by have:=of_decide_eq_false hcFFAFZzY; omega
      subst hi'
      rw [List.take_length]
      have hRG4:=hRG.more l4
      obtain ⟨x6,l6,q6,hap6,hV6,hq6,hl6,h60,hk6⟩:=hRG4.app0 (row:=[.Tk]) (b:=24) (lo:=0) hqv (by omega) (by rw [List.length_map,hVZ.1]; omega) (by omega) (by rw [Ll_]; have:=Bh hsb; omega)
      simp only [Lo_,Ll_] at hap6
      obtain ⟨vx,rfl⟩ : ∃ vx,xv = .msl (H'.length + qv) vx 0 vals.length none:=by
       rcases hRG with ⟨-,h⟩ | ⟨vx,h,-⟩
       ·
        have h1 : vals = []:=by simpa using h
        have h2:=hVZ.1
        rw [h1] at h2
        exact absurd h2 (by simp; omega)
       ·
        exact ⟨vx,by rw [h,List.length_map]⟩
      have hV6s:=Ip (Z:=H' ++ l6) (vals:=vals ++ [.Tk]) (by rw [List.map_append]; exact hV6) (fun k o ho _=>by rw [Bu]; exact ho)
      obtain ⟨v6,rfl⟩ : ∃ v6,x6 = .msl (H'.length + q6) v6 0 (vals.length + 1) none:=by
       rcases hV6 with ⟨-,h⟩ | ⟨v6,h,-⟩
       ·
        exact absurd h (by simp)
       ·
        exact ⟨v6,by rw [h,Ll_,List.length_map]; rfl⟩
      obtain ⟨gv6,vv6,hV6s⟩:=hV6s
      have hz1 : qv ≠ 0:=by omega
      have hz3 : l2 ≠ []:=List.ne_nil_of_length_pos (by have:=Bh hsb; omega)
      have hz2 : q6 ≠ 0:=by omega
      have hgs6 : (H' ++ l6)[gs]? = some ⟨48,16,rows,vs,0,true⟩:=by rw [Cg (Bh hob)]; exact hob
      have hS6 : SrcF (H' ++ l6) (Ck (.msl gs vs 0 l.length none)) rows gs vs:=Es hgs6 hrl.symm
      have hwid:=show_width (d:=d) (by omega) hS6 (fun m=>by have:=hV6s.Sw m []; rwa [List.append_nil] at this) (m:=vals.length + 1) rfl (by rw [bne_iff_ne]; have:=hVZ.1; omega) (fun d' e' l3 lo=>Nj (by omega) (hS6.mono l3) hRW (by omega) nmA 1 12 lo) 0
      obtain hany | hany:=Bool.eq_false_or_eq_true (Px l)
      ·
       rw [if_pos hany] at hcd
       subst hcd
       rw [hany]
       refine Dq (H6 (Iz (Ig (Bt rfl (Aj ?_)))))
       refine Ez ?_
       refine Cr (by simp only [zl,zm,zd,Ay,List.take,List.drop,zz2,Ck,zz6]<;>exact rfl) rfl ?_
       refine Cc rfl rfl ?_
       refine Ca (by simp only [zl,zm,Cw,List.replicate,Ar,zs,zc,zf]<;>exact rfl) (by simp only [Bd,zo,zq]<;>exact rfl) (by first | rfl | (by_cases h34 : qv = q6<;>simp [show ob 0 2 = [false,false] from rfl,Sv,Ao,Am,Bp,Al,Ba,dj,Ak,Ai,Cb,Aq,hz3]; done) | (by_cases h34 : qv = q6<;>simp [h34,show ob 0 2 = [false,false] from rfl,Sv,Ao,Am,Bp,Al,Ba,dj,Ak,Ai,Az,Bg,Cb,Co,Bv,Aq,hz1,hz2,hz3])) ?_
       refine Ca (by simp only [Aw,aop,LOp.loud,lop,if_true,opd,zv]; exact hap6) (by simp only [Bd,zo,zq]<;>exact rfl) (by first | rfl | (by_cases h34 : qv = q6<;>simp [h34,show ob 6 3 = [true,true,false] from rfl,Sv,Ao,Am,Bp,Al,Ba,dj,Ak,Ai,Cb,Co,Bv,Aq,hz2]; done) | (by_cases h34 : qv = q6<;>simp [h34,show ob 6 3 = [true,true,false] from rfl,Sv,Ao,Am,Bp,Al,Ba,dj,Ak,Ai,Az,Bg,Cb,Co,Bv,Aq,hz1,hz2,hz3])) ?_
       refine Ca (by simp only [zo]; exact hwid) (by simp only [Bd,zo,zq]<;>exact rfl) (by first | rfl | (by_cases h34 : qv = q6<;>simp [h34,show ob 15 4 = [true,true,true,true] from rfl,Sv,Ao,Am,Bp,Al,Ba,dj,Ak,Ai,Cb,Co,Bv,Aq]; done) | (by_cases h34 : qv = q6<;>simp [h34,show ob 15 4 = [true,true,true,true] from rfl,Sv,Ao,Am,Bp,Al,Ba,dj,Ak,Ai,Az,Bg,Cb,Co,Bv,Aq,hz1,hz2,hz3])) ?_
       refine Ee rfl rfl (xo26 rfl rfl ?_)
       refine xo27 rfl rfl ?_
       refine Ee rfl rfl (Ee rfl rfl ?_)
       refine De ?_
       refine Af ?_
       refine Ad (Ae rfl ?_)
       refine xo18 ?_
       refine Ae rfl (Ab (by simp only [zo,zz6]<;>exact rfl) ?_)
       refine Ag rfl (Ch 0 (b:=true) ?_)
       refine Ah rfl (Ae rfl ?_)
       refine Ah rfl (Ag rfl ?_)
       refine Ch 0 (b:=true) ?_
       refine Bb rfl rfl ?_
       refine Bb rfl rfl ?_
       refine Ah rfl (xo1 ?_)
       refine xo1 ?_
       refine Ag rfl (Ah rfl ?_)
       refine Ae rfl (Ah rfl ?_)
       refine xo18 ?_
       refine xo1 ?_
       refine Ag rfl (Ch 0 (b:=true) ?_)
       refine Ah rfl (Ab (by simp only [zo]; exact Jv (by omega) _) ?_)
       refine xo1 ?_
       refine Ag rfl (Aa ?_)
       refine Af ?_
       refine Br ?_
       refine ⟨_,by simp only [F7,Au,Bz,Dn,zg]<;>exact rfl,?_⟩
       simp only [Dx,leave,zs,zf,zk]
      ·
       rw [hany,if_neg Bool.false_ne_true] at hcd
       subst hcd
       rw [hany]
       refine Dq (H6 (Iz (Ig (Bt rfl (Aj ?_)))))
       refine Ez ?_
       refine Cr (by simp only [zl,zm,zd,Ay,List.take,List.drop,zz2,Ck,zz6]<;>exact rfl) rfl ?_
       refine Cc rfl rfl ?_
       refine Ca (by simp only [zl,zm,Cw,List.replicate,Ar,zs,zc,zf]<;>exact rfl) (by simp only [Bd,zo,zq]<;>exact rfl) (by first | rfl | (by_cases h34 : qv = q6<;>simp [show ob 0 2 = [false,false] from rfl,Sv,Ao,Am,Bp,Al,Ba,dj,Ak,Ai,Cb,Aq,hz3]; done) | (by_cases h34 : qv = q6<;>simp [h34,show ob 0 2 = [false,false] from rfl,Sv,Ao,Am,Bp,Al,Ba,dj,Ak,Ai,Az,Bg,Cb,Co,Bv,Aq,hz1,hz2,hz3])) ?_
       refine Ca (by simp only [Aw,aop,LOp.loud,lop,if_true,opd,zv]; exact hap6) (by simp only [Bd,zo,zq]<;>exact rfl) (by first | rfl | (by_cases h34 : qv = q6<;>simp [h34,show ob 6 3 = [true,true,false] from rfl,Sv,Ao,Am,Bp,Al,Ba,dj,Ak,Ai,Cb,Co,Bv,Aq,hz2]; done) | (by_cases h34 : qv = q6<;>simp [h34,show ob 6 3 = [true,true,false] from rfl,Sv,Ao,Am,Bp,Al,Ba,dj,Ak,Ai,Az,Bg,Cb,Co,Bv,Aq,hz1,hz2,hz3])) ?_
       refine Ca (by simp only [zo]; exact hwid) (by simp only [Bd,zo,zq]<;>exact rfl) (by first | rfl | (by_cases h34 : qv = q6<;>simp [h34,show ob 15 4 = [true,true,true,true] from rfl,Sv,Ao,Am,Bp,Al,Ba,dj,Ak,Ai,Cb,Co,Bv,Aq]; done) | (by_cases h34 : qv = q6<;>simp [h34,show ob 15 4 = [true,true,true,true] from rfl,Sv,Ao,Am,Bp,Al,Ba,dj,Ak,Ai,Az,Bg,Cb,Co,Bv,Aq,hz1,hz2,hz3])) ?_
       refine Ee rfl rfl (xo26 rfl rfl ?_)
       refine xo27 rfl rfl ?_
       refine Ee rfl rfl (Ee rfl rfl ?_)
       refine De ?_
       refine Af ?_
       refine Ad (Ae rfl ?_)
       refine xo2 ?_
       refine Ae rfl (xo1 ?_)
       refine Ag rfl (Ch 0 (b:=true) ?_)
       refine Ah rfl (Ae rfl ?_)
       refine Ah rfl (Ag rfl ?_)
       refine Ch 0 (b:=false) ?_
       refine Ah rfl (Ae rfl ?_)
       refine Ah rfl (xo18 ?_)
       refine Ah rfl (xo1 ?_)
       refine xo1 ?_
       refine Ag rfl (Ch 0 (b:=true) ?_)
       refine Ah rfl (Ae rfl ?_)
       refine Ah rfl (xo18 ?_)
       refine xo1 ?_
       refine Ag rfl (Ch 0 (b:=true) ?_)
       refine Ah rfl (Ab (by simp only [zo]; exact Jv (by omega) _) ?_)
       refine xo1 ?_
       refine Ag rfl (Aa ?_)
       refine Af ?_
       refine Br ?_
       refine ⟨_,by simp only [F7,Au,Bz,Dn,zg]<;>exact rfl,?_⟩
       simp only [Dx,leave,zs,zf,zk]
    ·
     have hshow:=show_err (d:=d) (by omega) hS1 (xv:=xv) (fun m=>by have:=hV1.Sw m []; rwa [List.append_nil] at this) (fun d' e' l3 lo=>hchk d' (by omega) l3 lo) he 0
     have hacc:=accept_err (d:=d) (by omega) hS1 (fun d' e' l3 lo=>hchk d' (by omega) l3 lo) he 0
     have hck:=hchk d (by omega) [] 0
     rw [List.append_nil] at hck
     have zz7:=And.intro hcell (And.intro hS1.cell (And.intro he (And.intro @bne_self_eq_false.{0} (@beq_self_eq_true.{0}))))
     refine Ad (Ab (by simp only [zl,zm,zd,Ay,List.take,List.drop,zz7]<;>exact rfl) ?_)
     refine Ae rfl (Ab (by simp only [zo]; exact hshow) ?_)
     refine Ag rfl (xo17 ?_)
     refine Pz ?_
     refine Ag rfl (Ag rfl ?_)
     refine Aa (Af ?_)
     refine Ad (Ab (by simp only [zl,zm,zd,Ay,List.take,List.drop,zz7]<;>exact rfl) ?_)
     refine Ab (by simp only [zo]; exact hacc) ?_
     refine Ag rfl (xo17 ?_)
     refine Pz ?_
     refine Pz ?_
     refine Ag rfl (Ag rfl ?_)
     refine Ag rfl (Aa ?_)
     refine Af ?_
     refine Aj (Ad ?_)
     refine Ab (by simp only [zl,zm,zd,Ay,List.take,List.drop,zz7]<;>exact rfl) ?_
     refine Ab (by simp only [zo]; exact hck) ?_
     refine Ae rfl (Ns ?_)
     refine Ag rfl (Ch 0 (b:=false) ?_)
     refine Ah rfl (Ae rfl ?_)
     refine Ah rfl (Ae rfl ?_)
     refine Ah rfl (Ns ?_)
     refine xo1 ?_
     refine Aa (Af ?_)
     skip
     refine Cq ?_
     refine Ap (Bt rfl (Aj (Ad ?_)))
     refine Ae rfl (xo24 ?_)
     refine Aa (Af ?_)
     skip
     refine E9 ?_
     refine Ad (Ae rfl ?_)
     refine Ae rfl (xo24 ?_)
     refine Ag rfl (Ch 0 (b:=true) ?_)
     refine Ah rfl (Ae rfl ?_)
     refine Ah rfl (xo24 ?_)
     refine xo1 ?_
     refine Ag rfl (Ch 0 (b:=true) ?_)
     refine Ah rfl (Ab (by simp only [zo]; exact Jv (by omega) _) ?_)
     refine xo1 ?_
     refine Ag rfl (Aa ?_)
     refine Af ?_
     refine Br (Gc ?_)
     refine ⟨_,by simp only [F7,Au,Bz,Dn,zg]<;>exact rfl,?_⟩
     simp only [Dx,leave,zs,zf,zk]

end Go.Proofs.YtkaedpmmopigkaaGreatDoor
namespace Go.Proofs.YtkaedpmmopigkaaGreatDoor
set_option linter.unusedSimpArgs false
open Go.ChangeShapes Go.WideShapes Go.ChangeAt Go.RowKit
set_option linter.unusedVariables false
set_option maxRecDepth 100000

theorem own : ownKnob Tryz.prog.godebug = none:=by kernel_rfl
theorem laidOut : laidOutB Tryz.prog = true:=by kernel_rfl
theorem ty4 : Tryz.prog.underlying 4 = some .bool:=by kernel_rfl
theorem ty5 : Tryz.prog.underlying 5 = some (.int .u8):=by kernel_rfl
theorem ty22 : Tryz.prog.underlying 22 = some (.slice 50):=by kernel_rfl
noncomputable def fs50 : Array Field:=match Tryz.prog.underlying 50 with
  | some (.struct fs)=>fs
  | _=>#[]
theorem ty50 : ∃ fs : Array Field,Tryz.prog.underlying 50 = some (.struct fs)∧fs.size = 6∧fs.toList.map (·.type) = [5,5,5,5,4,4]:=⟨fs50,by kernel_rfl,by kernel_rfl,by kernel_rfl⟩
def L8 : List (String × DataW Unit):=Rows.screensParseRow.laid
theorem door_met (os : Os) (args : Array Value) : laidMetH Tryz.prog L8 ((World.laidAll Tryz.prog os L8).forCall (fun _ _=>0) ⟨#[],args,[]⟩).memory:=by
  rw [MakeChecks.laidMetH_plain _ _ _ (by kernel_rfl)]
  exact laidMet_laidAll _ (by kernel_rfl) (by kernel_rfl)
/-- the fields -/
theorem fieldsArg {ds : List D} (h : Sh Tryz.prog 3 22 ds) : ∃ (x : D) (l : List FM),ds = [x]∧SlD 6 (Ik l) x:=by
  have e1 : Tryz.prog.cellsOf 50 = 6:=by kernel_rfl
  obtain ⟨fs,hu,hn,ht⟩:=ty50
  obtain ⟨x,rows,rfl,hS,_,hr⟩:=Sh.slice ty22 h
  rw [e1] at hS
  obtain ⟨l,rfl⟩:=rows_of (f:=FM.row) (rows:=rows) (fun r hr'=>by
    obtain ⟨parts,rfl,hp,hf⟩:=Sh.struct hu (hr r hr')
    have tk : ∀ (j : Nat) (t : TypeId),[5,5,5,5,4,4][j]? = some t→∃ f : Field,fs[j]? = some f∧f.type = t:=fun j t hj=>by
      rw [← ht,Lp_] at hj
      rw [← Array.getElem?_toList]
      cases e : fs.toList[j]? with
      | none=>rw [e] at hj; cases hj
      | some f=>rw [e] at hj; exact ⟨f,rfl,Option.some.inj hj⟩
    obtain ⟨f0,g0,t0⟩:=tk 0 5 rfl
    obtain ⟨f1,g1,t1⟩:=tk 1 5 rfl
    obtain ⟨f2,g2,t2⟩:=tk 2 5 rfl
    obtain ⟨f3,g3,t3⟩:=tk 3 5 rfl
    obtain ⟨f4,g4,t4⟩:=tk 4 4 rfl
    obtain ⟨f5,g5,t5⟩:=tk 5 4 rfl
    obtain ⟨r0,h0,s0⟩:=hf 0 _ g0
    obtain ⟨r1,h1,s1⟩:=hf 1 _ g1
    obtain ⟨r2,h2,s2⟩:=hf 2 _ g2
    obtain ⟨r3,h3,s3⟩:=hf 3 _ g3
    obtain ⟨r4,h4,s4⟩:=hf 4 _ g4
    obtain ⟨r5,h5,s5⟩:=hf 5 _ g5
    rw [t0] at s0; rw [t1] at s1; rw [t2] at s2; rw [t3] at s3; rw [t4] at s4; rw [t5] at s5
    obtain ⟨n0,rfl,w0⟩:=Sh.int ty5 s0
    obtain ⟨n1,rfl,w1⟩:=Sh.int ty5 s1
    obtain ⟨n2,rfl,w2⟩:=Sh.int ty5 s2
    obtain ⟨n3,rfl,w3⟩:=Sh.int ty5 s3
    obtain ⟨b4,rfl⟩:=Sh.bool ty4 s4
    obtain ⟨b5,rfl⟩:=Sh.bool ty4 s5
    obtain ⟨m0,rfl,k0⟩:=P6 w0
    obtain ⟨m1,rfl,k1⟩:=P6 w1
    obtain ⟨m2,rfl,k2⟩:=P6 w2
    obtain ⟨m3,rfl,k3⟩:=P6 w3
    rw [hn] at hp
    match parts,hp,h0,h1,h2,h3,h4,h5 with
    | [p0, p1, p2, p3, p4, p5], _, h0, h1, h2, h3, h4, h5 =>
      simp at h0 h1 h2 h3 h4 h5
      subst h0 h1 h2 h3 h4 h5
      exact ⟨⟨m0,m1,m2,m3,b4,b5,k0,k1,k2,k3⟩,rfl⟩)
  exact ⟨x,l,rfl,hS⟩
theorem glob_ok {W : World} (h : laidMetH Tryz.prog L8 W) : GlobOK GT W:=by
  rw [MakeChecks.laidMetH_plain _ _ _ (by kernel_rfl)] at h
  intro g row hg
  unfold GT at hg
  split at hg
  · cases hg
    exact Pg h (x:=(L8[8]'(by decide))) (List.getElem_mem _) (n:=3) (t:=((Tryz.prog.globals[0]?).map (·.type)).getD 0) (by kernel_rfl) (by kernel_rfl) (by kernel_rfl) (by kernel_rfl)
  · cases hg
    exact Pg h (x:=(L8[10]'(by decide))) (List.getElem_mem _) (n:=3) (t:=((Tryz.prog.globals[2]?).map (·.type)).getD 0) (by kernel_rfl) (by kernel_rfl) (by kernel_rfl) (by kernel_rfl)
  · cases hg
    exact Pg h (x:=(L8[9]'(by decide))) (List.getElem_mem _) (n:=3) (t:=((Tryz.prog.globals[5]?).map (·.type)).getD 0) (by kernel_rfl) (by kernel_rfl) (by kernel_rfl) (by kernel_rfl)
  · cases hg
    exact Pg h (x:=(L8[7]'(by decide))) (List.getElem_mem _) (n:=3) (t:=((Tryz.prog.globals[8]?).map (·.type)).getD 0) (by kernel_rfl) (by kernel_rfl) (by kernel_rfl) (by kernel_rfl)
  · cases hg
    exact Pg h (x:=(L8[2]'(by decide))) (List.getElem_mem _) (n:=3) (t:=((Tryz.prog.globals[10]?).map (·.type)).getD 0) (by kernel_rfl) (by kernel_rfl) (by kernel_rfl) (by kernel_rfl)
  · cases hg

end Go.Proofs.YtkaedpmmopigkaaGreatDoor

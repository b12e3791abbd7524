/- Proved here: parts of the proof, joined (K1, K2, K3, K4, K5, K6, K7, K8, K9, K10, K11, K12, K13, K0, K14, K15, K16, K17, K18, K19, K20, K21, K22, K23, K24, K25, K26, K27, K28): an abstract machine, its soundness, what functions of the program compute in it; no condition. -/
import Derived.Test.YtkaedpmmopigkaaGreatDoorM4
namespace Go.Proofs.YtkaedpmmopigkaaGreatDoor
set_option linter.unusedSimpArgs false
set_option linter.unusedVariables false
set_option maxRecDepth 100000
set_option maxHeartbeats 4000000

structure FM where
 li : Nat
 co : Nat
 ki : Nat
 si : Nat
 nu : Bool
 lo : Bool
 h : li < 256∧co < 256∧ki < 256∧si < 256
def FM.row (f : FM) : List D:=[.int .u8 (f.li : Nat),.int .u8 (f.co : Nat),.int .u8 (f.ki : Nat),.int .u8 (f.si : Nat),.bool f.nu,.bool f.lo]
def FM.kind (f : FM) : Nat:=1 + f.ki % 4
def FM.size (f : FM) : Nat:=1 + f.si % 6
def FM.line (f : FM) : Nat:=1 + f.li % 24
def FM.column (f : FM) : Nat:=1 + f.co % (81 - f.size)
def FM.text (f : FM) : ByteArray:=⟨(([65,66,67,68,69,70] : List UInt8).take f.size).toArray⟩
def FM.pic (f : FM) : ByteArray:=if f.nu then ⟨(([90,90,90,90,90,57] : List UInt8).drop (6 - f.size)).toArray⟩ else ⟨(List.replicate f.size 88).toArray⟩
section
variable (d : Nat) (S : St) (a b c : Int) (x y : Bool)
theorem size_tab : (List.range 256).map (fun k=>Da LP NN (d + 2) 16 [.agg [.int .u8 a,.int .u8 b,.int .u8 c,.int .u8 ((k : Nat) : Int),.bool x,.bool y]] S) = (List.range 256).map (fun k=>some (.int .i64 ((1 + k % 6 : Nat) : Int),S,false)):=by kernel_rfl
theorem kind_tab : (List.range 256).map (fun k=>Da LP NN (d + 2) 19 [.agg [.int .u8 a,.int .u8 b,.int .u8 ((k : Nat) : Int),.int .u8 c,.bool x,.bool y]] S) = (List.range 256).map (fun k=>some (.int .u8 ((1 + k % 4 : Nat) : Int),S,false)):=by kernel_rfl
theorem line_tab : (List.range 256).map (fun k=>Da LP NN (d + 2) 32 [.agg [.int .u8 ((k : Nat) : Int),.int .u8 a,.int .u8 b,.int .u8 c,.bool x,.bool y]] S) = (List.range 256).map (fun k=>some (.int .i64 ((1 + k % 24 : Nat) : Int),S,false)):=by kernel_rfl
theorem text_tab : (List.range 256).map (fun k=>Da LP NN (d + 3) 34 [.agg [.int .u8 a,.int .u8 b,.int .u8 c,.int .u8 ((k : Nat) : Int),.bool x,.bool y]] S) = (List.range 256).map (fun k=>some (.str ⟨(([65,66,67,68,69,70] : List UInt8).take (1 + k % 6)).toArray⟩,S,false)):=by kernel_rfl
theorem picT_tab : (List.range 256).map (fun k=>Da LP NN (d + 3) 35 [.agg [.int .u8 a,.int .u8 b,.int .u8 c,.int .u8 ((k : Nat) : Int),.bool true,.bool y]] S) = (List.range 256).map (fun k=>some (.str ⟨(([90,90,90,90,90,57] : List UInt8).drop (6 - (1 + k % 6))).toArray⟩,S,false)):=by kernel_rfl
theorem picF_tab : (List.range 256).map (fun k=>Da LP NN (d + 3) 35 [.agg [.int .u8 a,.int .u8 b,.int .u8 c,.int .u8 ((k : Nat) : Int),.bool false,.bool y]] S) = (List.range 256).map (fun k=>some (.str ⟨(List.replicate (1 + k % 6) 88).toArray⟩,S,false)):=by kernel_rfl
end
def Fu (n : Nat) : ByteArray:=⟨(if n < 10 then [UInt8.ofNat (48 + n)] else [UInt8.ofNat (48 + n / 10),UInt8.ofNat (48 + n % 10)] : List UInt8).toArray⟩
section
variable {d : Nat} (hd : 6 ≤ d) (S : St) (f : FM)
include hd
theorem size_run : Bf LP NN d 16 [.agg f.row] S = some (.int .i64 (f.size : Nat),S,false):=by
 obtain ⟨d,rfl⟩ : ∃ d',d = d' + 2:=⟨d - 2,by omega⟩
 exact fast_ok (Ii (size_tab d S _ _ _ f.nu f.lo) f.si f.h.2.2.2)
theorem L9 : Bf LP NN d 19 [.agg f.row] S = some (.int .u8 (f.kind : Nat),S,false):=by
 obtain ⟨d,rfl⟩ : ∃ d',d = d' + 2:=⟨d - 2,by omega⟩
 exact fast_ok (Ii (kind_tab d S _ _ _ f.nu f.lo) f.ki f.h.2.2.1)
theorem line_run : Bf LP NN d 32 [.agg f.row] S = some (.int .i64 (f.line : Nat),S,false):=by
 obtain ⟨d,rfl⟩ : ∃ d',d = d' + 2:=⟨d - 2,by omega⟩
 exact fast_ok (Ii (line_tab d S _ _ _ f.nu f.lo) f.li f.h.1)
theorem Oq : Bf LP NN d 34 [.agg f.row] S = some (.str f.text,S,false):=by
 obtain ⟨d,rfl⟩ : ∃ d',d = d' + 3:=⟨d - 3,by omega⟩
 exact fast_ok (Ii (text_tab d S _ _ _ f.nu f.lo) f.si f.h.2.2.2)
theorem pic_run : Bf LP NN d 35 [.agg f.row] S = some (.str f.pic,S,false):=by
 obtain ⟨d,rfl⟩ : ∃ d',d = d' + 3:=⟨d - 3,by omega⟩
 obtain ⟨li,co,ki,si,nu,lo,h⟩:=f
 cases nu with
 | true=>exact fast_ok (Ii (picT_tab d S _ _ _ lo) si h.2.2.2)
 | false=>exact fast_ok (Ii (picF_tab d S _ _ _ lo) si h.2.2.2)
end
theorem FM.size_le (f : FM) : 1 ≤ f.size∧f.size ≤ 6:=by unfold FM.size; omega
theorem FM.line_le (f : FM) : 1 ≤ f.line∧f.line ≤ 24:=by unfold FM.line; omega
theorem FM.column_le (f : FM) : 1 ≤ f.column∧f.column + f.size ≤ 81:=by
 have:=f.size_le
 unfold FM.column
 have:=Nat.mod_lt f.co (show 0 < 81 - f.size by omega)
 omega
theorem FM.kind_le (f : FM) : 1 ≤ f.kind∧f.kind ≤ 4:=by unfold FM.kind; omega

theorem column_run {d : Nat} (hd : 8 ≤ d) (S : St) (f : FM) : Bf LP NN d 33 [.agg f.row] S = some (.int .i64 (f.column : Nat),S,false):=by
 have hl:=f.size_le
 have hc:=f.column_le
 have hsz : (0 : Nat) = 0:=rfl
 have hsub : IntKind.i64.wrap (81 - ((f.size : Nat) : Int)) = ((81 - f.size : Nat) : Int):=by rw [IntKind.wrap_i64]; omega
 have hwc : IntKind.i64.wrap ((f.co : Nat) : Int) = ((f.co : Nat) : Int):=by have:=f.h.2.1; rw [IntKind.wrap_i64]; omega
 have hne : ((((81 - f.size : Nat) : Int)) = 0) = False:=eq_false (by omega)
 have hmod : ((f.co : Nat) : Int).tmod ((81 - f.size : Nat) : Int) = ((f.co % (81 - f.size) : Nat) : Int):=tmod_nat _ _
 have hadd : IntKind.i64.wrap (1 + ((f.co % (81 - f.size) : Nat) : Int)) = ((f.column : Nat) : Int):=by unfold FM.column at hc ⊢; rw [IntKind.wrap_i64]; omega
 refine run_pure (F:=F33) rfl (by simp only [LP,Ar,Bw,zs,zm,FM.row]<;>exact rfl) rfl (by simp only [LP,zf,zm]; try rfl) (by simp only [F33,zv]<;>exact rfl) (by omega) ?_
 rintro d rfl
 have zz1:=And.intro hsz (And.intro hsub (And.intro hwc (And.intro hne (And.intro hmod (hadd)))))
 refine Ad (Ab (by simp only [opd,zv,Aw,LOp.loud,aop,lop,if_true,zm,zc,zf,Bool.and_self,Nat.reduceAdd]<;>exact rfl) ?_)
 refine Bj (Aa ?_)
 refine Af ?_
 refine Aj (Ez ?_)
 refine Ce (by simp only [zo,Ey,zm]<;>exact rfl) rfl rfl ?_
 refine xo8 rfl ?_
 refine Ce (by simp only [zo,zz1]<;>exact rfl) rfl rfl ?_
 refine xo8 rfl ?_
 refine Cr (by simp only [zo]; exact size_run (by omega) _ f) rfl ?_
 refine Ce (by simp only [zo,Bo,zz1]<;>exact rfl) rfl rfl ?_
 refine Ce (by simp only [zo,Bo,zb,zz1]<;>exact rfl) rfl rfl ?_
 refine Ce (by simp only [zo,Bo,zz1]<;>exact rfl) rfl rfl ?_
 refine Ee rfl rfl (De ?_)
 refine Af ?_
 refine Br ?_
 refine ⟨_,by simp only [F33,Au,Bz,Dn,zg]<;>exact rfl,?_⟩
 simp only [Dx,leave,zs,zf,zk]

def tkR (k : Nat) (s : ByteArray) (l c : Nat) : List D:=[.int .u8 (k : Nat),.str s,.int .i64 (l : Nat),.int .i64 (c : Nat),.bool false]
theorem word_tab (d : Nat) (S : St) (s : ByteArray) : Da LP NN (d + 1) 14 [.str s] S = some (.agg [.int .u8 1,.str s,.int .i64 0,.int .i64 0,.bool false],S,false):=by kernel_rfl
theorem number_tab (d : Nat) (S : St) : (List.range 100).map (fun k=>Da LP NN (d + 5) 24 [.int .i64 ((k : Nat) : Int)] S) = (List.range 100).map (fun k=>some (.agg [.int .u8 2,.str (Fu k),.int .i64 0,.int .i64 0,.bool false],S,false)):=by kernel_rfl
def kwB (k : Nat) : ByteArray:=if k = 2 then ⟨#[70,82,79,77]⟩ else if k = 3 then ⟨#[84,79]⟩ else ⟨#[85,83,73,78,71]⟩
def Ji (f : FM) : List (Nat × ByteArray):=(2,Fu 5) ::
 ((if f.lo then [(1,⟨#[70,73,76,76,69,82]⟩),(1,⟨#[76,73,78,69]⟩),(1,⟨#[78,85,77,66,69,82]⟩),(1,⟨#[73,83]⟩),(2,Fu f.line),(1,⟨#[67,79,76]⟩),(1,⟨#[73,83]⟩),(2,Fu f.column)]
  else [(1,⟨#[76,73,78,69]⟩),(2,Fu f.line),(1,⟨#[67,79,76,85,77,78]⟩),(2,Fu f.column)]) ++
 (if f.kind = 1 then (if f.lo then [(1,⟨#[86,65,76,85,69]⟩),(1,⟨#[73,83]⟩),(3,f.text)] else [(1,⟨#[86,65,76,85,69]⟩),(3,f.text)])
  else [(1,⟨#[80,73,67]⟩),(4,f.pic),(1,kwB f.kind),(1,⟨#[78]⟩)]))
def K9 (l : List (Nat × ByteArray)) : List (List D):=l.map fun p=>tkR p.1 p.2 0 0
section
variable {d : Nat} (hd : 6 ≤ d) (S : St)
include hd
theorem Dm (s : ByteArray) : Bf LP NN d 14 [.str s] S = some (.agg [.int .u8 1,.str s,.int .i64 0,.int .i64 0,.bool false],S,false):=by
 obtain ⟨d,rfl⟩ : ∃ d',d = d' + 1:=⟨d - 1,by omega⟩
 exact fast_ok (word_tab d S s)
theorem Fq (n : Nat) (hn : n < 100) : Bf LP NN d 24 [.int .i64 (n : Nat)] S = some (.agg [.int .u8 2,.str (Fu n),.int .i64 0,.int .i64 0,.bool false],S,false):=by
 obtain ⟨d,rfl⟩ : ∃ d',d = d' + 5:=⟨d - 5,by omega⟩
 exact fast_ok (Ii (number_tab d S) n hn)
theorem H9 : Bf LP NN d 24 [.int .i64 5] S = some (.agg [.int .u8 2,.str (Fu 5),.int .i64 0,.int .i64 0,.bool false],S,false):=Fq hd S 5 (by omega)
end
theorem kw_at (k : Nat) (h1 : 2 ≤ k) (h2 : k ≤ 4) : ([[.str ⟨#[]⟩],[.str ⟨#[]⟩],[.str ⟨#[70,82,79,77]⟩],[.str ⟨#[84,79]⟩],[.str ⟨#[85,83,73,78,71]⟩]] : List (List D))[k]? = some [.str (kwB k)]:=by
 match k,h1,h2 with
 | 2,_,_=>rfl
 | 3,_,_=>rfl
 | 4,_,_=>rfl
 | n + 5,_,h=>omega

theorem tokens_run {d : Nat} (hd : 10 ≤ d) (S : St) (f : FM) : Bf LP NN d 25 [.agg f.row] S = some (.sl 5 (K9 (Ji f)) none,S,false):=by
 have hl:=f.size_le
 have hc:=f.column_le
 have hln:=f.line_le
 have hkk:=f.kind_le
 have hkn : (0 : Int) ≤ ((f.kind : Nat) : Int):=by omega
 have hkw:=fun (h : 2 ≤ f.kind)=>kw_at f.kind h hkk.2
 refine run_pure (F:=F25) rfl (by simp only [LP,Ar,Bw,zs,zm,FM.row]<;>exact rfl) rfl (by simp only [LP,zf,zm]; try rfl) (by simp only [F25,zv]<;>exact rfl) (by omega) ?_
 rintro d rfl
 refine Ad (Ab (by simp only [opd,zv,Aw,LOp.loud,aop,lop,if_true,zm,zc,zf,Bool.and_self,Nat.reduceAdd]<;>exact rfl) ?_)
 refine Bj (Aa ?_)
 refine Af ?_
 refine Ad ?_
 first
  | refine Ab (by simp only [zo]; exact H9 (by omega) _) ?_
  | refine Ab (by simp only [zo,hkw,hkn]; exact Fq (by omega) _ _ (by omega)) ?_
 refine xo28 ?_
 refine Ag rfl (Aa ?_)
 refine Af ?_
 refine Aj (Ad ?_)
 refine Ab (by simp only [zo,Ey,zm]<;>exact rfl) ?_
 refine xo5 ?_
 refine Aa (Af ?_)
 refine Cm (by simp only [opd,zv]<;>exact rfl) (fun hc=>?_) (fun hc=>?_)
 ·
  refine Ez ?_
  refine Cc rfl rfl (Cr (by simp only [zo]; exact Dm (by omega) _ _) rfl ?_)
  refine Cr (by simp only [zo]; exact Dm (by omega) _ _) rfl ?_
  refine Cr (by simp only [zo]; exact Dm (by omega) _ _) rfl ?_
  refine Cr (by simp only [zo]; exact Dm (by omega) _ _) rfl ?_
  refine xo8 rfl ?_
  refine Cr (by simp only [zo]; exact line_run (by omega) _ f) rfl ?_
  first
   | refine Cr (by simp only [zo]; exact H9 (by omega) _) rfl ?_
   | refine Cr (by simp only [zo]; exact Fq (by omega) _ _ (by omega)) rfl ?_
  refine Cr (by simp only [zo]; exact Dm (by omega) _ _) rfl ?_
  refine Cr (by simp only [zo]; exact Dm (by omega) _ _) rfl ?_
  refine xo8 rfl ?_
  refine Cr (by simp only [zo]; exact column_run (by omega) _ f) rfl ?_
  first
   | refine Cr (by simp only [zo]; exact H9 (by omega) _) rfl ?_
   | refine Cr (by simp only [zo]; exact Fq (by omega) _ _ (by omega)) rfl ?_
  refine R9 rfl ?_
  refine xo19 rfl ?_
  refine Ee rfl rfl (De ?_)
  refine Af ?_
  refine Aj (Ad ?_)
  refine xo5 ?_
  refine Ab (by simp only [zo]; exact L9 (by omega) _ f) ?_
  refine xo2 ?_
  refine Aa (Af ?_)
  refine Cm (by simp only [opd,zv]<;>exact rfl) (fun hcT=>?_) (fun hcT=>?_)
  ·
   have hk1 : f.kind = 1:=by
    have h:=hcT; simp at h; omega
   refine Aj (Ad ?_)
   refine Ab (by simp only [zo,Ey,zm]<;>exact rfl) ?_
   refine xo5 ?_
   refine Aa (Af ?_)
   refine Cm (by simp only [opd,zv]<;>exact rfl) (fun hcTT=>?_) (fun hcTT=>?_)
   ·
    refine Aj (Ez ?_)
    refine Cc rfl rfl (Cr (by simp only [zo]; exact Dm (by omega) _ _) rfl ?_)
    refine Cr (by simp only [zo]; exact Dm (by omega) _ _) rfl ?_
    refine xo8 rfl ?_
    refine Cr (by simp only [zo]; exact Oq (by omega) _ f) rfl ?_
    refine xo20 rfl rfl ?_
    refine R9 rfl ?_
    refine xo19 rfl ?_
    refine Ee rfl rfl (De ?_)
    refine Af ?_
    refine Br (Gc (Gc ?_))
    refine ⟨_,by simp only [F25,Au,Bz,Dn,zg,zm]<;>exact rfl,?_⟩
    simp [Dx,leave,S9,Sw,snap,D.Sz,D.Sy,D.free,D.Td,K9,Ji,tkR,hc,hk1]
   ·
    refine Ap (Bt rfl (Aj ?_))
    refine Ez ?_
    refine Cc rfl rfl (Cr (by simp only [zo]; exact Dm (by omega) _ _) rfl ?_)
    refine xo8 rfl ?_
    refine Cr (by simp only [zo]; exact Oq (by omega) _ f) rfl ?_
    refine xo20 rfl rfl ?_
    refine R9 rfl ?_
    refine xo19 rfl ?_
    refine Ee rfl rfl (De ?_)
    refine Af ?_
    refine Br (Gc ?_)
    exact absurd hc (by rw [hcTT]; simp)
  ·
   have hk1 : ¬ f.kind = 1:=by
    have h:=hcT; simp at h; omega
   have hk2:=hkw (by omega)
   refine Ap (Bt rfl (Aj ?_))
   refine Ez ?_
   refine Cc rfl rfl (Cr (by simp only [zo]; exact Dm (by omega) _ _) rfl ?_)
   refine xo8 rfl ?_
   refine Cr (by simp only [zo]; exact pic_run (by omega) _ f) rfl ?_
   refine xo20 rfl rfl ?_
   refine R9 rfl ?_
   refine xo19 rfl ?_
   refine Ee rfl rfl (De ?_)
   refine Af ?_
   refine Ad (Ae rfl ?_)
   refine Nt ?_
   refine xo5 ?_
   refine Ab (by simp only [zo]; exact L9 (by omega) _ f) ?_
   refine Ab (by simp only [zl,zm,Jz,Int.toNat_natCast,hkn,hk2]<;>exact rfl) ?_
   refine xo5 ?_
   refine Ab (by simp only [zo]; exact Dm (by omega) _ _) ?_
   refine Ab (by simp only [zo]; exact Dm (by omega) _ _) ?_
   refine xo28 ?_
   refine Ab (by simp only [zl,zm,Cf,Bl,H7]<;>exact rfl) ?_
   refine Ag rfl (Aa ?_)
   refine Af ?_
   refine Br ?_
   refine ⟨_,by simp only [F25,Au,Bz,Dn,zg,zm]<;>exact rfl,?_⟩
   simp [Dx,leave,S9,Sw,snap,D.Sz,D.Sy,D.free,D.Td,K9,Ji,tkR,hc,hk1]
 ·
  refine Ez ?_
  refine Cc rfl rfl (Cr (by simp only [zo]; exact Dm (by omega) _ _) rfl ?_)
  refine xo8 rfl ?_
  refine Cr (by simp only [zo]; exact line_run (by omega) _ f) rfl ?_
  first
   | refine Cr (by simp only [zo]; exact H9 (by omega) _) rfl ?_
   | refine Cr (by simp only [zo]; exact Fq (by omega) _ _ (by omega)) rfl ?_
  refine Cr (by simp only [zo]; exact Dm (by omega) _ _) rfl ?_
  refine xo8 rfl ?_
  refine Cr (by simp only [zo]; exact column_run (by omega) _ f) rfl ?_
  first
   | refine Cr (by simp only [zo]; exact H9 (by omega) _) rfl ?_
   | refine Cr (by simp only [zo]; exact Fq (by omega) _ _ (by omega)) rfl ?_
  refine R9 rfl ?_
  refine xo19 rfl ?_
  refine Ee rfl rfl (De ?_)
  refine Af ?_
  refine Aj (Ad ?_)
  refine xo5 ?_
  refine Ab (by simp only [zo]; exact L9 (by omega) _ f) ?_
  refine xo2 ?_
  refine Aa (Af ?_)
  refine Cm (by simp only [opd,zv]<;>exact rfl) (fun hcF=>?_) (fun hcF=>?_)
  ·
   have hk1 : f.kind = 1:=by
    have h:=hcF; simp at h; omega
   refine Aj (Ad ?_)
   refine Ab (by simp only [zo,Ey,zm]<;>exact rfl) ?_
   refine xo5 ?_
   refine Aa (Af ?_)
   refine Cm (by simp only [opd,zv]<;>exact rfl) (fun hcFT=>?_) (fun hcFT=>?_)
   ·
    refine Aj (Ez ?_)
    refine Cc rfl rfl (Cr (by simp only [zo]; exact Dm (by omega) _ _) rfl ?_)
    refine Cr (by simp only [zo]; exact Dm (by omega) _ _) rfl ?_
    refine xo8 rfl ?_
    refine Cr (by simp only [zo]; exact Oq (by omega) _ f) rfl ?_
    refine xo20 rfl rfl ?_
    refine R9 rfl ?_
    refine xo19 rfl ?_
    refine Ee rfl rfl (De ?_)
    refine Af ?_
    refine Br (Gc (Gc ?_))
    exact absurd hcFT (by rw [hc]; simp)
   ·
    refine Ap (Bt rfl (Aj ?_))
    refine Ez ?_
    refine Cc rfl rfl (Cr (by simp only [zo]; exact Dm (by omega) _ _) rfl ?_)
    refine xo8 rfl ?_
    refine Cr (by simp only [zo]; exact Oq (by omega) _ f) rfl ?_
    refine xo20 rfl rfl ?_
    refine R9 rfl ?_
    refine xo19 rfl ?_
    refine Ee rfl rfl (De ?_)
    refine Af ?_
    refine Br (Gc ?_)
    refine ⟨_,by simp only [F25,Au,Bz,Dn,zg,zm]<;>exact rfl,?_⟩
    simp [Dx,leave,S9,Sw,snap,D.Sz,D.Sy,D.free,D.Td,K9,Ji,tkR,hc,hk1]
  ·
   have hk1 : ¬ f.kind = 1:=by
    have h:=hcF; simp at h; omega
   have hk2:=hkw (by omega)
   refine Ap (Bt rfl (Aj ?_))
   refine Ez ?_
   refine Cc rfl rfl (Cr (by simp only [zo]; exact Dm (by omega) _ _) rfl ?_)
   refine xo8 rfl ?_
   refine Cr (by simp only [zo]; exact pic_run (by omega) _ f) rfl ?_
   refine xo20 rfl rfl ?_
   refine R9 rfl ?_
   refine xo19 rfl ?_
   refine Ee rfl rfl (De ?_)
   refine Af ?_
   refine Ad (Ae rfl ?_)
   refine Nt ?_
   refine xo5 ?_
   refine Ab (by simp only [zo]; exact L9 (by omega) _ f) ?_
   refine Ab (by simp only [zl,zm,Jz,Int.toNat_natCast,hkn,hk2]<;>exact rfl) ?_
   refine xo5 ?_
   refine Ab (by simp only [zo]; exact Dm (by omega) _ _) ?_
   refine Ab (by simp only [zo]; exact Dm (by omega) _ _) ?_
   refine xo28 ?_
   refine Ab (by simp only [zl,zm,Cf,Bl,H7]<;>exact rfl) ?_
   refine Ag rfl (Aa ?_)
   refine Af ?_
   refine Br ?_
   refine ⟨_,by simp only [F25,Au,Bz,Dn,zg,zm]<;>exact rfl,?_⟩
   simp [Dx,leave,S9,Sw,snap,D.Sz,D.Sy,D.free,D.Td,K9,Ji,tkR,hc,hk1]

theorem Pw {call : Bi} {H : List Sk} {g e sz v kind bytes n lo : Nat} {rows new : List (List D)} {gr : Bool} {x : D} (hg : H[g]? = some ⟨e,sz,rows,v,kind,gr⟩) (hk : kind = 1 ∨ kind = 2) (hx : SlD sz new x) (hn : n = rows.length) (hb : (n + new.length) * bytes ≤ 140737488355328) :
  Aw call (.append e sz bytes kind) [.msl g v 0 n none,x] ⟨H,lo⟩ = some (.msl g (v + 1) 0 (n + new.length) none,⟨H.set g ⟨e,sz,rows ++ new,v + 1,kind,true⟩,min lo g⟩,true):=by
 have hk0 : kind ≠ 0:=by omega
 have hr : Dh ⟨H,lo⟩ sz x = some new:=hx.read _
 simp only [Aw,aop,LOp.loud,lop,if_true,Cf,hk0,if_false,hr,Bl,rowsOf,hg]
 rw [if_pos (by refine ⟨?_,?_,?_,?_,?_,?_,?_⟩<;>first | trivial | assumption | rfl)]
 rfl
def Sb : Nat × ByteArray:=(6,⟨#[46]⟩)
def G5 (l : List FM) : List (Nat × ByteArray):=l.flatMap fun f=>Ji f ++ [Sb]
def Hg (s : ByteArray) : List (Nat × ByteArray):=[(2,Fu 1),(1,s),Sb]
theorem headL_len (s : ByteArray) : (Hg s).length = 3:=rfl
theorem Rf {d : Nat} (hd : 6 ≤ d) (S : St) : Bf LP NN d 24 [.int .i64 1] S = some (.agg [.int .u8 2,.str (Fu 1),.int .i64 0,.int .i64 0,.bool false],S,false):=Fq hd S 1 (by omega)
def Hm (a b : List FM) : List (Nat × ByteArray):=Hg ⟨#[65]⟩ ++ G5 a ++ Hg ⟨#[66]⟩ ++ G5 b
def El (n : Nat) (l : List (Nat × ByteArray)) : List (List D):=l.mapIdx fun i p=>tkR p.1 p.2 (n + i) 12
def Ik (l : List FM) : List (List D):=l.map FM.row
theorem Ni {l : List FM} {i : Nat} (h : i < l.length) : (Ik l)[i]? = some l[i].row:=by simp [Ik,h]
theorem E8 (l : List FM) : (Ik l).length = l.length:=by simp [Ik]
theorem Fa (l : List (Nat × ByteArray)) : (K9 l).length = l.length:=by simp [K9]
theorem Gn (l m : List (Nat × ByteArray)) : K9 (l ++ m) = K9 l ++ K9 m:=by simp [K9]
theorem tokL_len (f : FM) : (Ji f).length ≤ 14:=by
 unfold Ji
 split<;>split<;>(try split)<;>simp
theorem J7 : ∀ (l : List FM),(G5 l).length ≤ 15 * l.length
 | []=>by simp [G5]
 | f :: l=>by
  have h1:=J7 l
  have h2:=tokL_len f
  simp only [G5,List.flatMap_cons,Ll_,List.length_cons,List.length_nil] at h1 ⊢
  omega
theorem entL_take {l : List FM} {i : Nat} (h : i < l.length) : G5 (l.take (i + 1)) = G5 (l.take i) ++ (Ji l[i] ++ [Sb]):=by
 unfold G5
 rw [List.take_succ_eq_append_getElem h,List.flatMap_append]
 simp
def Hl (p : List (Nat × ByteArray)) (l : List FM) (i : Nat) : List (Nat × ByteArray):=p ++ G5 (l.take i)
theorem M4 {p : List (Nat × ByteArray)} {l : List FM} {i : Nat} (h : i < l.length) : Hl p l (i + 1) = Hl p l i ++ (Ji l[i] ++ [Sb]):=by
 unfold Hl
 rw [entL_take h,Lo_]
theorem Jl (p : List (Nat × ByteArray)) (l : List FM) (i : Nat) : (Hl p l i).length ≤ p.length + 15 * l.length:=by
 have h1:=J7 (l.take i)
 simp only [Hl,Ll_,List.length_take] at h1 ⊢
 omega
theorem secP_end (p : List (Nat × ByteArray)) (l : List FM) : Hl p l l.length = p ++ G5 l:=by unfold Hl; rw [List.take_length]
def preA : List (Nat × ByteArray):=Hg ⟨#[65]⟩
def preB (a : List FM) : List (Nat × ByteArray):=Hl preA a a.length ++ Hg ⟨#[66]⟩
theorem secL_eq (a b : List FM) : Hm a b = Hl (preB a) b b.length:=by
 unfold Hm preB preA
 rw [secP_end,secP_end]
theorem O0 : preA.length = 3:=rfl
theorem preB_len (a : List FM) : (preB a).length ≤ 6 + 15 * a.length:=by
 have h:=Jl preA a a.length
 rw [O0] at h
 simp only [preB,Ll_,headL_len]; omega

def posT (l : List (Nat × ByteArray)) (i : Nat) : List (List D):=(El 1 l).take i ++ (K9 l).drop i
theorem Ej (n : Nat) (l : List (Nat × ByteArray)) : (El n l).length = l.length:=by simp [El]
theorem posT_at {l : List (Nat × ByteArray)} {i : Nat} (h : i < l.length) : (posT l i)[i]? = some (tkR l[i].1 l[i].2 0 0):=by
 unfold posT
 rw [Lr_ (by simp [Ej]; omega)]
 simp [Ej,K9,Nat.min_eq_left (Nat.le_of_lt h),h]
theorem posT_set {l : List (Nat × ByteArray)} {i : Nat} (h : i < l.length) : (posT l i).set i (tkR l[i].1 l[i].2 (i + 1) 12) = posT l (i + 1):=by
 refine List.ext_getElem? fun j=>?_
 rw [List.getElem?_set]
 unfold posT
 by_cases hj : i = j
 ·
  subst hj
  rw [if_pos rfl,if_pos (by simp [Ej,Fa]; omega),La_ (by simp [Ej]; omega)]
  rw [List.getElem?_take_of_lt (by omega)]
  simp [El,h,Nat.add_comm]
 ·
  rw [if_neg hj]
  by_cases hlt : j < i
  ·
   rw [La_ (by simp [Ej]; omega),La_ (by simp [Ej]; omega),List.getElem?_take_of_lt hlt,List.getElem?_take_of_lt (by omega)]
  ·
   rw [Lr_ (by simp [Ej]; omega),Lr_ (by simp [Ej]; omega),List.getElem?_drop,List.getElem?_drop]
   congr 1
   simp [Ej]; omega
theorem posT_0 (l : List (Nat × ByteArray)) : posT l 0 = K9 l:=by simp [posT]
theorem posT_end (l : List (Nat × ByteArray)) : posT l l.length = El 1 l:=by
 unfold posT
 rw [List.take_of_length_le (by simp [Ej]),List.drop_eq_nil_of_le (by simp [Fa])]; simp
theorem take_posR (l : List (Nat × ByteArray)) : List.take l.length (El 1 l) = El 1 l:=List.take_of_length_le (by simp [Ej])
def oPer : Sk:=⟨39,5,[tkR 6 ⟨#[46]⟩ 0 0],0,0,false⟩

theorem section_run {d : Nat} (hd : 12 ≤ d) (S : St) {a b : List FM} {ax bx : D} (ha : SlD 6 (Ik a) ax) (hb : SlD 6 (Ik b) bx) (hla : a.length ≤ 20) (hlb : b.length ≤ 20) : Bf LP NN d 9 [ax,bx] S = some (.sl 5 (El 1 (Hm a b)) none,S,false):=by
 have hsl : (Hm a b).length ≤ 700:=by
  have h1:=J7 a
  have h2:=J7 b
  simp only [Hm,Hg,Ll_,List.length_cons,List.length_nil]; omega
 refine run_pure (F:=F9) rfl (by simp only [LP,Ar,ha.Sw,hb.Sw]<;>exact rfl) rfl (by simp only [LP,zm,ha.Sy,hb.Sy]; try rfl) (by simp only [F9,zv]<;>exact rfl) (by omega) ?_
 rintro d rfl
 refine Ad (Bj ?_)
 refine Aa (Af ?_)
 refine Ad (xo29 ?_)
 refine xo6 ?_
 refine Ab (by simp only [zl,zm,Bq,overlay,Bw,zs,zc,zf,List.take,List.drop]<;>exact rfl) ?_
 refine Aa (Af ?_)
 refine Aj (Gs (by simp only [Db,zw,Nat.reduceAdd]<;>exact rfl) (by simp only [zw]<;>exact rfl) ?_)
 first
  | refine Cr (by simp only [zo]; exact Fq (by omega) _ 1 (by omega)) rfl ?_
  | refine Ca (by simp only [zo,ha.len,hb.len,E8,oPer,tkR]; exact Rf (by omega) _) (by simp only [Bd,zo,zq,ha.fpi,hb.fpi]<;>exact rfl) rfl ?_
 refine Cr (by simp only [zo]; exact Dm (by omega) _ _) rfl ?_
 refine xo8 rfl ?_
 refine R9 rfl ?_
 refine Ee rfl rfl (De ?_)
 refine Af ?_
 refine Aj (Ad ?_)
 refine Bj (Aa ?_)
 refine Af ?_
 refine Av ?_
 refine D5 (fun n env S'=>∃ (i v : Nat) (gr : Bool) (A6 A7 A8 A9 A10 : D),S' = ⟨[oPer,⟨39,5,K9 (Hl preA a i),v,2,gr⟩],0⟩∧env = [ax,bx,.Tk,.ptr 0 0 0 0,.msl 1 v 0 (K9 (Hl preA a i)).length none,.int .i64 (i : Nat),A6,A7,A8,A9,A10]∧i ≤ a.length∧n = a.length - i) (a.length) (by omega) (⟨0,_,_,_,_,_,_,_,rfl,rfl,by omega,by omega⟩) ?_
 rintro n env S' ⟨i,v,gr,A6,A7,A8,A9,A10,rfl,rfl,hi,rfl⟩
 refine Aj (Ad ?_)
 refine Ae rfl (Ae rfl ?_)
 refine Ab (by simp only [zo,ha.len,E8,oPer,tkR]<;>exact rfl) ?_
 refine xo2 ?_
 refine Aa (Af ?_)
 refine Cm (by simp only [opd,zv]<;>exact rfl) (fun hcA=>?_) (fun hcA=>?_)
 ·
  have hlt : i < a.length:=by have:=of_decide_eq_true hcA; omega
  have hia:=fun (S : St)=>ha.iaddrN S .i64 (Ni hlt)
  have hw:=Du i (by omega)
  have htl:=tokL_len a[i]
  have hsp:=Jl preA a i
  have hsq:=Jl (preB a) b i
  have hpa:=O0
  have hpb:=preB_len a
  refine Ap (Bt rfl (Aj (Av ?_)))
  refine Gs (by simp only [Db,zw,Nat.reduceAdd]<;>exact rfl) (by simp only [zw]<;>exact rfl) ?_
  refine Cc rfl rfl (Cc rfl rfl ?_)
  refine Cc rfl rfl (Ca (by simp only [zl,zm,hia,FM.row]<;>exact rfl) (by simp only [Bd,zo,ha.fpi]<;>exact rfl) rfl ?_)
  refine xo8 rfl ?_
  refine Cr (by simp only [zo]; exact tokens_run (by omega) _ a[i]) rfl ?_
  refine Cr (by simp only [opd,zv]; exact (Pw (by first | rfl | exact hg0) (.inr rfl) (.of _ _ _) (by simp only [Fa]) (by simp only [Fa]; omega)).trans (by simp only [List.set_cons_succ,List.set_cons_zero,Nat.zero_min]<;>exact rfl)) rfl ?_
  refine xo8 rfl ?_
  refine R9 rfl ?_
  refine Cr (by simp only [opd,zv]; exact (Pw (by first | rfl | exact hg0) (.inr rfl) (.of _ _ _) (by simp only [Ll_,Fa]) (by simp only [List.length_cons,List.length_nil,Fa]; omega)).trans (by simp only [List.set_cons_succ,List.set_cons_zero,Nat.zero_min]<;>exact rfl)) rfl ?_
  refine Ee rfl rfl ?_
  refine De (Eh ?_)
  refine Af ?_
  refine Bc (Ae rfl ?_)
  refine Ab (by simp only [zo,Bo,hw]<;>exact rfl) ?_
  refine Ag rfl (Aa ?_)
  refine Gr (by simp only [ze]<;>exact rfl) ?_
  exact ⟨a.length - (i + 1),by omega,i + 1,_,_,_,_,_,_,_,by rw [M4 hlt,Gn (Hl _ _ _),Gn (Ji _)]; simp only [Lo_]; exact rfl,by rw [M4 hlt,Gn (Hl _ _ _),Gn (Ji _)]; simp only [Ll_,Nat.add_assoc]; exact rfl,by omega,rfl⟩
 ·
  have hi' : i = a.length:=by have:=of_decide_eq_false hcA; omega
  subst hi'
  have hsp:=Jl preA a a.length
  have hpa:=O0
  refine Dq (H6 (Iz (Ig (Bt rfl (Aj ?_)))))
  refine Gs (by simp only [Db,zw,Nat.reduceAdd]<;>exact rfl) (by simp only [zw]<;>exact rfl) ?_
  refine Cc rfl rfl ?_
  first
   | refine Cr (by simp only [zo]; exact Fq (by omega) _ 1 (by omega)) rfl ?_
   | refine Ca (by simp only [zo,ha.len,hb.len,E8,oPer,tkR]; exact Rf (by omega) _) (by simp only [Bd,zo,zq,ha.fpi,hb.fpi]<;>exact rfl) rfl ?_
  refine Cr (by simp only [zo]; exact Dm (by omega) _ _) rfl ?_
  refine xo8 rfl ?_
  refine R9 rfl ?_
  refine Cr (by simp only [opd,zv]; exact (Pw (by first | rfl | exact hg0) (.inr rfl) (.of _ _ _) (by simp only [Fa]) (by simp only [List.length_cons,List.length_nil,Fa]; omega)).trans (by simp only [List.set_cons_succ,List.set_cons_zero,Nat.zero_min]<;>exact rfl)) rfl ?_
  refine Ee rfl rfl (De ?_)
  refine Af ?_
  refine Aj (Ad ?_)
  refine Bj (Aa ?_)
  refine Af ?_
  refine Av ?_
  refine D5 (fun n env S'=>∃ (i v : Nat) (B5 B7 B8 B9 B10 : D),S' = ⟨[oPer,⟨39,5,K9 (Hl (preB a) b i),v,2,true⟩],0⟩∧env = [ax,bx,.Tk,.ptr 0 0 0 0,.msl 1 v 0 (K9 (Hl (preB a) b i)).length none,B5,.int .i64 (i : Nat),B7,B8,B9,B10]∧i ≤ b.length∧n = b.length - i) (b.length) (by omega) (⟨0,_,_,_,_,_,_,by rw [show Hl (preB a) b 0 = Hl preA a a.length ++ Hg ⟨#[66]⟩ from by unfold Hl preB; simp [G5,Hl],Gn (Hl _ _ _)]; exact rfl,by rw [show Hl (preB a) b 0 = Hl preA a a.length ++ Hg ⟨#[66]⟩ from by unfold Hl preB; simp [G5,Hl],Gn (Hl _ _ _),Ll_]; exact rfl,by omega,by omega⟩) ?_
  rintro n env S' ⟨i,v,B5,B7,B8,B9,B10,rfl,rfl,hi,rfl⟩
  refine Aj (Ad ?_)
  refine Ae rfl (Ae rfl ?_)
  refine Ab (by simp only [zo,hb.len,E8,oPer,tkR]<;>exact rfl) ?_
  refine xo2 ?_
  refine Aa (Af ?_)
  refine Cm (by simp only [opd,zv]<;>exact rfl) (fun hcAFB=>?_) (fun hcAFB=>?_)
  ·
   have hlt : i < b.length:=by have:=of_decide_eq_true hcAFB; omega
   have hia:=fun (S : St)=>hb.iaddrN S .i64 (Ni hlt)
   have hw:=Du i (by omega)
   have htl:=tokL_len b[i]
   have hsp:=Jl preA a i
   have hsq:=Jl (preB a) b i
   have hpa:=O0
   have hpb:=preB_len a
   refine Ap (Bt rfl (Aj (Av ?_)))
   refine Gs (by simp only [Db,zw,Nat.reduceAdd]<;>exact rfl) (by simp only [zw]<;>exact rfl) ?_
   refine Cc rfl rfl (Cc rfl rfl ?_)
   refine Cc rfl rfl (Ca (by simp only [zl,zm,hia,FM.row]<;>exact rfl) (by simp only [Bd,zo,hb.fpi]<;>exact rfl) rfl ?_)
   refine xo8 rfl ?_
   refine Cr (by simp only [zo]; exact tokens_run (by omega) _ b[i]) rfl ?_
   refine Cr (by simp only [opd,zv]; exact (Pw (by first | rfl | exact hg0) (.inr rfl) (.of _ _ _) (by simp only [Fa]) (by simp only [Fa]; omega)).trans (by simp only [List.set_cons_succ,List.set_cons_zero,Nat.zero_min]<;>exact rfl)) rfl ?_
   refine xo8 rfl ?_
   refine R9 rfl ?_
   refine Cr (by simp only [opd,zv]; exact (Pw (by first | rfl | exact hg0) (.inr rfl) (.of _ _ _) (by simp only [Ll_,Fa]) (by simp only [List.length_cons,List.length_nil,Fa]; omega)).trans (by simp only [List.set_cons_succ,List.set_cons_zero,Nat.zero_min]<;>exact rfl)) rfl ?_
   refine Ee rfl rfl ?_
   refine De (Eh ?_)
   refine Af ?_
   refine Bc (Ae rfl ?_)
   refine Ab (by simp only [zo,Bo,hw]<;>exact rfl) ?_
   refine Ag rfl (Aa ?_)
   refine Gr (by simp only [ze]<;>exact rfl) ?_
   exact ⟨b.length - (i + 1),by omega,i + 1,_,_,_,_,_,_,by rw [M4 hlt,Gn (Hl _ _ _),Gn (Ji _)]; simp only [Lo_]; exact rfl,by rw [M4 hlt,Gn (Hl _ _ _),Gn (Ji _)]; simp only [Ll_,Nat.add_assoc]; exact rfl,by omega,rfl⟩
  ·
   have hi' : i = b.length:=by have:=of_decide_eq_false hcAFB; omega
   subst hi'
   refine Dq (H6 (Iz (Ig (Bt rfl (Aj (Ad ?_))))))
   refine Bj (Aa ?_)
   refine Af ?_
   refine Av ?_
   refine D5 (fun n env S'=>∃ (i v : Nat) (C5 C6 C8 C9 C10 : D),S' = ⟨[oPer,⟨39,5,posT (Hm a b) i,v,2,true⟩],0⟩∧env = [ax,bx,.Tk,.ptr 0 0 0 0,.msl 1 v 0 (Hm a b).length none,C5,C6,.int .i64 (i : Nat),C8,C9,C10]∧i ≤ (Hm a b).length∧n = (Hm a b).length - i) ((Hm a b).length) (by omega) (⟨0,_,_,_,_,_,_,by rw [posT_0,secL_eq]; exact rfl,by rw [secL_eq,← Fa]; exact rfl,by omega,by omega⟩) ?_
   rintro n env S' ⟨i,v,C5,C6,C8,C9,C10,rfl,rfl,hi,rfl⟩
   refine Aj (Ad ?_)
   refine Ae rfl (Ae rfl ?_)
   refine Ab (by simp only [zo,O7,oPer,tkR]<;>exact rfl) ?_
   refine xo2 ?_
   refine Aa (Af ?_)
   refine Cm (by simp only [opd,zv]<;>exact rfl) (fun hcAFBFC=>?_) (fun hcAFBFC=>?_)
   ·
    have hlt : i < (Hm a b).length:=by have:=of_decide_eq_true hcAFBFC; omega
    have hw:=Du i (by omega)
    have hat:=posT_at hlt
    have hi0 : (0 : Int) ≤ (i : Int):=by omega
    have hi1 : (i : Int) < ((Hm a b).length : Int):=by omega
    have zz1:=And.intro hw (And.intro hat (And.intro hi0 (And.intro hi1 (@Int.toNat_natCast))))
    refine Ap (Bt rfl (Aj (Av (Bc ?_))))
    refine Ae rfl (Ae rfl ?_)
    refine Ae rfl (Ab (by simp only [zo,Bo,zz1]<;>exact rfl) ?_)
    refine Ab (by simp only [zo,Hd,overlay,zc,List.take,List.drop,Nat.reduceAdd,Nat.reduceLeDiff,zm,zz1]<;>exact rfl) ?_
    refine Ab (by simp only [zl,zm,Cj,zz1]<;>exact rfl) ?_
    refine Ab (by simp only [zo,Gt,zm,zz1]<;>exact rfl) ?_
    refine Ab (by simp only [zl,zm,Bq,overlay,Bw,zs,List.take,tkR,zz1]<;>exact rfl) ?_
    refine Aa (Eh ?_)
    refine Af ?_
    refine Bc (Ae rfl ?_)
    refine Ab (by simp only [zo,Bo,zz1]<;>exact rfl) ?_
    refine Ag rfl (Aa ?_)
    refine Gr (by simp only [ze]<;>exact rfl) ?_
    exact ⟨(Hm a b).length - (i + 1),by omega,i + 1,_,_,_,_,_,_,by rw [← posT_set hlt]; exact rfl,rfl,by omega,rfl⟩
   ·
    have hi' : i = (Hm a b).length:=by have:=of_decide_eq_false hcAFBFC; omega
    subst hi'
    refine Dq (H6 (Iz (Ig (Bt rfl (Ad ?_)))))
    refine Ae rfl (Ag rfl ?_)
    refine Aa (Af ?_)
    refine Br ?_
    refine ⟨_,by simp only [F9,Au,Bz,Dn,zg]<;>exact rfl,?_⟩
    simp [Dx,leave,S9,Sw,snap,D.Sz,D.Sy,D.free,D.Td,posT_end,take_posR]

theorem index_run {d : Nat} (hd : 1 ≤ d) (S : St) {x : D} {l : List ByteArray} (hS : SlD 1 (F5 l) x) (s : ByteArray) (hl : l.length ≤ 1000000) :
  Bf LP NN d 206 [x,.str s] S = some (.int .i64 (idxI (fun x=>s.toList == x.toList) l),S,false):=by
 refine run_pure (F:=F206) rfl (by simp only [LP,Ar,zs,hS.Sw]<;>exact rfl) rfl (by simp only [LP,zf,zm,hS.Sy]; try rfl) (by simp only [F206,zv]<;>exact rfl) (by omega) ?_
 rintro d rfl
 refine Ad (Bj ?_)
 refine Aa (Af ?_)
 refine Aj (Ad ?_)
 refine Ae rfl (Ab (by simp only [zo,hS.len,I9]<;>exact rfl) ?_)
 refine Bj (Aa ?_)
 refine Af ?_
 refine Av ?_
 refine D5 (fun n env S'=>∃ (i : Nat) (u3 u6 u7 : D),i ≤ l.length∧n = l.length - i∧((l.take i).any fun x=>s.toList == x.toList) = false∧S' = ⟨[],0⟩∧env = [x,.str s,.int .i64 0,u3,.int .i64 l.length,.int .i64 i,u6,u7]) (l.length) (by omega) (⟨0,_,_,_,by omega,by omega,by simp,rfl,rfl⟩) ?_
 rintro n env S' ⟨i,u3,u6,u7,hi,rfl,hany,rfl,rfl⟩
 have h0 : (0 : Int) ≤ (i : Int):=by omega
 refine Ad (xo2 ?_)
 refine Aa (Af ?_)
 refine Aj ?_
 refine Cm (by simp only [opd,zv]<;>exact rfl) (fun hcA=>?_) (fun hcA=>?_)
 ·
  have hlt : i < l.length:=by have:=of_decide_eq_true hcA; omega
  have hw:=Du i (by omega)
  have hx:=Lg hlt
  have hia:=fun (S : St)=>hS.iaddrN S .i64 (Nu hlt)
  refine Ap (Bt rfl (Aj (Av (Ad ?_))))
  refine Ae rfl (Ag rfl ?_)
  refine Aa (Af ?_)
  refine Ad (Ae rfl ?_)
  refine Ae rfl (Ae rfl ?_)
  refine Ab (by simp only [zl,zm,hia]<;>exact rfl) ?_
  refine xo5 ?_
  refine xo2 ?_
  refine Aa (Af ?_)
  refine Cm (by simp only [opd,zv]<;>exact rfl) (fun hcAT=>?_) (fun hcAT=>?_)
  ·
   refine Ad (Ae rfl ?_)
   refine Ag rfl (Aa ?_)
   refine Af ?_
   refine Br (Hr (Gc (lk_r (Hr (Gc ?_)))))
   refine ⟨_,by simp only [F206,Au,Bz,Dn,zg]<;>exact rfl,?_⟩
   rw [idxI_at (p:=fun x=>s.toList == x.toList) hlt hcAT hany]; rfl
  ·
   refine Ap (Eh (Bt rfl (Bc ?_)))
   refine Ab (by simp only [zo,Bo,hw]<;>exact rfl) ?_
   refine Ag rfl (Aa ?_)
   refine Gr (by simp only [ze]<;>exact rfl) ?_
   exact ⟨l.length - (i + 1),by omega,i + 1,_,_,_,by omega,rfl,any_take_succ hlt hany hcAT,rfl,rfl⟩
 ·
  have hge : l.length ≤ i:=by have:=of_decide_eq_false hcA; omega
  refine Dq (H6 (Iz (Ig (Bt rfl (Ad ?_)))))
  refine Bj (Aa ?_)
  refine Af ?_
  refine Br ?_
  refine ⟨_,by simp only [F206,Au,Bz,Dn,zg]<;>exact rfl,?_⟩
  rw [List.take_of_length_le hge] at hany
  rw [Qh hany]; rfl

theorem contains_run {d : Nat} (hd : 2 ≤ d) (S : St) {x : D} {l : List ByteArray} (hS : SlD 1 (F5 l) x) (s : ByteArray) (hl : l.length ≤ 1000000) :
  Bf LP NN d 180 [x,.str s] S = some (.bool (l.any fun x=>s.toList == x.toList),S,false):=by
 refine run_pure (F:=F180) rfl (by simp only [LP,Ar,zs,hS.Sw]<;>exact rfl) rfl (by simp only [LP,zf,zm,hS.Sy]; try rfl) (by simp only [F180,zv]<;>exact rfl) (by omega) ?_
 rintro d rfl
 refine Ad (Bj ?_)
 refine Aa (Af ?_)
 refine Ad (Ae rfl ?_)
 refine Ae rfl (Ab (by simp only [zo]; exact index_run (by omega) _ hS s hl) ?_)
 refine xo2 ?_
 refine Ag rfl (Aa ?_)
 refine Af ?_
 refine Br ?_
 refine ⟨_,by simp only [F180,Au,Bz,Dn,zg]<;>exact rfl,?_⟩
 rw [idxI_nonneg]; rfl

def PO (lx : D) (a c : Nat) (ox : D) : Sk:=⟨87,4,[[lx,.int .i64 (a : Nat),.int .i64 (c : Nat),ox]],0,0,false⟩

theorem is_run {d : Nat} (hd : 4 ≤ d) {H : List Sk} {g a c : Nat} {lx ox tx : D} {rest : List (List D)} {k l0 c0 kd : Nat} {s : ByteArray} {texts : List ByteArray} (hH : H[g]? = some (PO lx a c ox)) (hL : SlD 5 (tkR k s l0 c0 :: rest) lx) (hX : SlD 1 (F5 texts) tx) (hlx : texts.length ≤ 1000000) (lo : Nat) :
  Bf LP NN d 142 [.ptr g 0 0 0,.int .u8 (kd : Nat),tx] ⟨H,lo⟩ = some (.bool (((k : Int) == (kd : Int)) && (texts.isEmpty || texts.any fun x=>s.toList == x.toList)),⟨H,lo⟩,false):=by
 have hlen : Iw false lx = some (.int .i64 ((rest.length + 1 : Nat) : Int)):=hL.len
 have hpos : decide (((rest.length + 1 : Nat) : Int) > 0) = true:=decide_eq_true (by omega)
 have hia:=fun (S : St)=>hL.Ti S .i64 (i:=0) (r:=tkR k s l0 c0) (by omega) rfl
 refine Dl (F:=F142) rfl (by simp only [LP,Ar,zs,hX.Sw]<;>exact rfl) rfl (by simp only [LP,zf,zm,hX.Sy]; try rfl) (by simp only [F142,zv]<;>exact rfl) (by omega) ?_
 rintro d rfl
 have zz1:=And.intro hH (And.intro hlen (And.intro hX.len (And.intro hpos (hia))))
 refine Ad (Bj ?_)
 refine Aa (Af ?_)
 refine Ad (Ae rfl ?_)
 refine xo1 ?_
 refine xo0 ?_
 refine Ab (by simp only [zl,zm,zd,Ay,List.take,List.drop,PO,zz1]<;>exact rfl) ?_
 refine Ab (by simp only [zo,zz1]<;>exact rfl) ?_
 refine Ab (by simp only [zo,Bo,zz1]<;>exact rfl) ?_
 refine Ag rfl (Ch 0 (b:=true) ?_)
 refine Ah rfl (Ae rfl ?_)
 refine Ah rfl (xo1 ?_)
 refine Ah rfl (xo0 ?_)
 refine Ah rfl (Ab (by simp only [zl,zm,zd,Ay,List.take,List.drop,PO,zz1]<;>exact rfl) ?_)
 refine Ah rfl (Ab (by simp only [zl,zm,tkR,zz1]<;>exact rfl) ?_)
 refine Ah rfl (Ab (by simp only [zo,Ey,zm]<;>exact rfl) ?_)
 refine Ah rfl (xo5 ?_)
 refine Ah rfl (Ae rfl ?_)
 refine Ah rfl (xo2 ?_)
 refine xo1 ?_
 refine Ag rfl ?_
 refine Lu 0 (by simp only [zv]<;>exact rfl) (by simp only [zn]<;>exact rfl) (by simp only [zn]<;>exact rfl) (fun hg=>?_) (fun hg=>?_)
 ·
  refine Ah rfl (Ae rfl ?_)
  refine Ah rfl (Ab (by simp only [zo,I9,zz1]<;>exact rfl) ?_)
  refine Ah rfl (xo2 ?_)
  refine Ah rfl (Ag rfl ?_)
  refine Lu 0 (by simp only [zv]<;>exact rfl) (by simp only [zn]<;>exact rfl) (by simp only [zn]<;>exact rfl) (fun hgT=>?_) (fun hgT=>?_)
  ·
   have htT : texts = []:=by
    have h:=hgT; simp at h; exact h
   refine Bb rfl rfl ?_
   refine Bb rfl rfl ?_
   refine Bb rfl rfl ?_
   refine Bb rfl rfl ?_
   refine Bb rfl rfl ?_
   refine Bb rfl rfl ?_
   refine Bb rfl rfl ?_
   refine Bb rfl rfl ?_
   refine Bb rfl rfl ?_
   refine Ah rfl (xo1 ?_)
   refine xo1 ?_
   refine Ag rfl (Aa ?_)
   refine Af ?_
   refine Br ?_
   refine ⟨_,by simp only [F142,Au,Bz,Dn,zg]<;>exact rfl,?_⟩
   simp [leave,LP,S9,Sw,snap,D.Sz,D.Sy,D.free,D.Td,hg,htT]
  ·
   have htF : texts ≠ []:=by
    have h:=hgT; intro e; rw [e] at h; simp at h
   refine Ah rfl (Ae rfl ?_)
   refine Ah rfl (Ae rfl ?_)
   refine Ah rfl (xo1 ?_)
   refine Ah rfl (xo0 ?_)
   refine Ah rfl (Ab (by simp only [zl,zm,zd,Ay,List.take,List.drop,PO,zz1]<;>exact rfl) ?_)
   refine Ah rfl (Ab (by simp only [zl,zm,tkR,zz1]<;>exact rfl) ?_)
   refine Ah rfl (Ab (by simp only [zo,Ey,zm]<;>exact rfl) ?_)
   refine Ah rfl (xo5 ?_)
   refine Ah rfl (Ab (by simp only [zo]; exact contains_run (by omega) _ hX s hlx) ?_)
   refine Ah rfl (xo1 ?_)
   refine xo1 ?_
   refine Ag rfl (Aa ?_)
   refine Af ?_
   refine Br ?_
   refine ⟨_,by simp only [F142,Au,Bz,Dn,zg]<;>exact rfl,?_⟩
   simp [leave,LP,S9,Sw,snap,D.Sz,D.Sy,D.free,D.Td,hg,htF]
 ·
  refine Bb rfl rfl ?_
  refine Bb rfl rfl ?_
  refine Bb rfl rfl ?_
  refine Bb rfl rfl ?_
  refine Df rfl ?_
  refine Df rfl ?_
  refine Df rfl ?_
  refine Df rfl ?_
  refine Df rfl ?_
  refine Df rfl ?_
  refine Df rfl ?_
  refine Df rfl ?_
  refine Df rfl ?_
  refine Bb rfl rfl ?_
  refine xo1 ?_
  refine Ag rfl (Aa ?_)
  refine Af ?_
  refine Br ?_
  refine ⟨_,by simp only [F142,Au,Bz,Dn,zg]<;>exact rfl,?_⟩
  simp [leave,LP,S9,Sw,snap,D.Sz,D.Sy,D.free,D.Td,hg]

theorem Cg {H l : List Sk} {g : Nat} (h : g < H.length) : (H ++ l)[g]? = H[g]?:=La_ h
theorem G7 {H l : List Sk} {g : Nat} (h : g < H.length) (x : Sk) : (H ++ l).set g x = H.set g x ++ l:=List.set_append_left g x h
theorem Bh {H : List Sk} {g : Nat} {o : Sk} (h : H[g]? = some o) : g < H.length:=(List.getElem?_eq_some_iff.1 h).1
theorem at_S0 (H l : List Sk) (g : Nat) (x : Sk) : (H.set g x ++ l)[H.length]? = l[0]?:=by
 rw [Lr_ (by simp)]; simp
theorem at_S (H l : List Sk) (g k : Nat) (x : Sk) : (H.set g x ++ l)[H.length + k]? = l[k]?:=by
 rw [Lr_ (by simp)]; simp
theorem set_S0 (H l : List Sk) (g : Nat) (x y : Sk) : (H.set g x ++ l).set H.length y = H.set g x ++ l.set 0 y:=by
 rw [List.set_append_right _ _ (by simp)]; simp
theorem set_S (H l : List Sk) (g k : Nat) (x y : Sk) : (H.set g x ++ l).set (H.length + k) y = H.set g x ++ l.set k y:=by
 rw [List.set_append_right _ _ (by simp)]; simp
theorem Ei {H : List Sk} {g : Nat} (h : g < H.length) (x : Sk) : (H.set g x)[g]? = some x:=List.getElem?_set_self h
structure Upd (H H' : List Sk) (g : Nat) (o : Sk) : Prop where
 at_ : H'[g]? = some o
 len : H.length ≤ H'.length
 ne : ∀ k,k < H.length→k ≠ g→H'[k]? = H[k]?
theorem Upd.of {H : List Sk} {g : Nat} (h : g < H.length) (o : Sk) (l : List Sk) : Upd H (H.set g o ++ l) g o :=
 ⟨by rw [Cg (by simpa using h)]; exact Ei h o,by simp,fun k hk hn=>by rw [Cg (by simpa using hk),Ln_ (Ne.symm hn)]⟩
theorem Upd.trans {H1 H2 H3 : List Sk} {g : Nat} {o p : Sk} (h : Upd H1 H2 g o) (k : Upd H2 H3 g p) : Upd H1 H3 g p :=
 ⟨k.at_,Nat.le_trans h.len k.len,fun q hq hn=>(k.ne q (Nat.lt_of_lt_of_le hq h.len) hn).trans (h.ne q hq hn)⟩
theorem Upd.refl {H : List Sk} {g : Nat} {o : Sk} (h : H[g]? = some o) : Upd H H g o:=⟨h,Nat.le_refl _,fun _ _ _=>rfl⟩
theorem Upd.app {H H' : List Sk} {g : Nat} {o : Sk} (h : Upd H H' g o) (l : List Sk) : Upd H (H' ++ l) g o :=
 ⟨by rw [Cg (Bh h.at_)]; exact h.at_,by rw [Ll_]; have:=h.len; omega,fun k hk hn=>by rw [Cg (Nat.lt_of_lt_of_le hk h.len)]; exact h.ne k hk hn⟩
def tkO (k : Nat) (s : ByteArray) (l c : Nat) : Sk:=⟨39,5,[tkR k s l c],0,0,false⟩
def isB (k kd : Nat) (s : ByteArray) (texts : List ByteArray) : Bool:=((k : Int) == (kd : Int)) && (texts.isEmpty || texts.any fun x=>s.toList == x.toList)
section
variable (d : Nat) (S : St)
theorem dig_tab : (List.range 100).map (fun k=>Da LP NN (d + 4) 90 [.str (Fu k)] S) = (List.range 100).map (fun _=>some (.bool true,S,false)):=by kernel_rfl
theorem atoi_tab : (List.range 100).map (fun k=>Da LP NN (d + 4) 91 [.str (Fu k)] S) = (List.range 100).map (fun k=>some (.tup [.int .i64 ((k : Nat) : Int),.nili],S,false)):=by kernel_rfl
end
theorem dig_run {d : Nat} (hd : 4 ≤ d) (S : St) (n : Nat) (hn : n < 100) : Bf LP NN d 90 [.str (Fu n)] S = some (.bool true,S,false):=by
 obtain ⟨d,rfl⟩ : ∃ d',d = d' + 4:=⟨d - 4,by omega⟩
 exact fast_ok (Ii (dig_tab d S) n hn)
theorem atoi_run {d : Nat} (hd : 4 ≤ d) (S : St) (n : Nat) (hn : n < 100) : Bf LP NN d 91 [.str (Fu n)] S = some (.tup [.int .i64 (n : Nat),.nili],S,false):=by
 obtain ⟨d,rfl⟩ : ∃ d',d = d' + 4:=⟨d - 4,by omega⟩
 exact fast_ok (Ii (atoi_tab d S) n hn)

theorem skip_hit {d : Nat} (hd : 5 ≤ d) {H : List Sk} {g a c : Nat} {lx ox tx : D} {rest : List (List D)} {k l0 c0 : Nat} {s : ByteArray} {texts : List ByteArray} (hH : H[g]? = some (PO lx a c ox)) (hL : SlD 5 (tkR k s l0 c0 :: rest) lx) (hX : SlD 1 (F5 texts) tx) (hlx : texts.length ≤ 1000000) (hb : isB k 1 s texts = true) (lo : Nat) : Bf LP NN d 93 [.ptr g 0 0 0,tx] ⟨H,lo⟩ = some (.bool true,⟨H.set g (PO (Dr 1 lx) a c ox),min lo g⟩,true):=by
 have hl:=Bh hH
 have hat:=fun (x : Sk)=>Ei hl x
 have hla : ∀ (l : List Sk),H.length ≤ (H ++ l).length:=fun l=>by simp
 have hsl:=fun (S : St)=>hL.slice_1 S (by simp)
 have hia:=fun (S : St)=>hL.Ti S .i64 (i:=0) (r:=tkR k s l0 c0) (by omega) rfl
 have hD:=hL.drop 1
 have hmin : min H.length g = g:=by omega
 have hng : ¬ H.length ≤ g:=by omega
 have hmin2 : min g H.length = g:=by omega
 have hmk : ∀ k : Nat,min g (H.length + k) = g:=fun k=>by omega
 refine Dl (F:=F93) rfl (by simp only [LP,Ar,zs,hX.Sw]<;>exact rfl) rfl (by simp only [LP,zf,zm,hX.Sy]; try rfl) (by simp only [F93,zv]<;>exact rfl) (by omega) ?_
 rintro d rfl
 have zz1:=And.intro @at_S0 (And.intro @at_S (And.intro @set_S0 (And.intro @set_S (And.intro @List.getElem?_cons_zero.{0} (And.intro @List.getElem?_cons_succ.{0} (And.intro @List.length_set.{0} (And.intro @List.set_set.{0} (And.intro hH (And.intro hat (And.intro hsl (And.intro hD.Tc (And.intro hD.val (hD.cells)))))))))))))
 refine Ad (Bj ?_)
 refine Aa (Af ?_)
 refine Ad (Ae rfl ?_)
 refine Ae rfl ?_
 refine Ab (by simp only [zo]; exact (is_run (by omega) hH hL hX hlx _).trans (congrArg (fun b=>some (D.bool b,_,false)) hb)) ?_
 refine Ag rfl (Aa ?_)
 refine Af ?_
 refine Aj (Ad ?_)
 refine Ae rfl (Aa ?_)
 refine Af ?_
 skip
 refine E9 ?_
 refine Bc (Ae rfl ?_)
 refine Ae rfl (xo1 ?_)
 refine xo0 ?_
 refine Ab (by simp only [zl,zm,zd,Ay,List.take,List.drop,Nat.reduceAdd,PO,zz1]<;>exact rfl) ?_
 refine Ab (by simp only [opd,zv,Aw,aop,LOp.loud,lop,if_true,Ci,Option.map_some,zz1]<;>exact rfl) ?_
 refine xo1 ?_
 refine xo0 ?_
 refine Ab (by simp only [zl,zm,Bq,overlay,List.take,List.drop,Nat.reduceAdd,PO,zz1]<;>exact rfl) ?_
 refine Aa (Af ?_)
 refine Ad (Ae rfl ?_)
 refine Ag rfl (Aa ?_)
 refine Af ?_
 refine Br ?_
 refine ⟨_,by simp only [F93,Au,Bz,Dn,zg]<;>exact rfl,?_⟩
 simp [leave,LP,S9,Sw,snap,hmin,hng,PO]

theorem P9 {d : Nat} (hd : 5 ≤ d) {H : List Sk} {g a c : Nat} {lx ox tx : D} {rest : List (List D)} {k l0 c0 : Nat} {s : ByteArray} {texts : List ByteArray} (hH : H[g]? = some (PO lx a c ox)) (hL : SlD 5 (tkR k s l0 c0 :: rest) lx) (hX : SlD 1 (F5 texts) tx) (hlx : texts.length ≤ 1000000) (hb : isB k 1 s texts = false) (lo : Nat) : Bf LP NN d 93 [.ptr g 0 0 0,tx] ⟨H,lo⟩ = some (.bool false,⟨H,lo⟩,false):=by
 have hl:=Bh hH
 have hat:=fun (x : Sk)=>Ei hl x
 have hla : ∀ (l : List Sk),H.length ≤ (H ++ l).length:=fun l=>by simp
 have hsl:=fun (S : St)=>hL.slice_1 S (by simp)
 have hia:=fun (S : St)=>hL.Ti S .i64 (i:=0) (r:=tkR k s l0 c0) (by omega) rfl
 have hD:=hL.drop 1
 have hmin : min H.length g = g:=by omega
 have hng : ¬ H.length ≤ g:=by omega
 have hmin2 : min g H.length = g:=by omega
 have hmk : ∀ k : Nat,min g (H.length + k) = g:=fun k=>by omega
 refine Dl (F:=F93) rfl (by simp only [LP,Ar,zs,hX.Sw]<;>exact rfl) rfl (by simp only [LP,zf,zm,hX.Sy]; try rfl) (by simp only [F93,zv]<;>exact rfl) (by omega) ?_
 rintro d rfl
 have zz2:=And.intro @at_S0 (And.intro @at_S (And.intro @set_S0 (And.intro @set_S (And.intro @List.getElem?_cons_zero.{0} (And.intro @List.getElem?_cons_succ.{0} (And.intro @List.length_set.{0} (And.intro @List.set_set.{0} (And.intro hH (hat)))))))))
 refine Ad (Bj ?_)
 refine Aa (Af ?_)
 refine Ad (Ae rfl ?_)
 refine Ae rfl ?_
 refine Ab (by simp only [zo]; exact (is_run (by omega) hH hL hX hlx _).trans (congrArg (fun b=>some (D.bool b,_,false)) hb)) ?_
 refine Ag rfl (Aa ?_)
 refine Af ?_
 refine Aj (Ad ?_)
 refine Ae rfl (Aa ?_)
 refine Af ?_
 skip
 refine Cq ?_
 refine Ap (Bt rfl (Ad ?_))
 refine Ae rfl (Ag rfl ?_)
 refine Aa (Af ?_)
 refine Br ?_
 refine ⟨_,by simp only [F93,Au,Bz,Dn,zg]<;>exact rfl,?_⟩
 simp [leave,LP,S9,Sw,snap,D.Sz,D.Sy,D.free,D.Td]

theorem Hz {d : Nat} (hd : 5 ≤ d) {H : List Sk} {g a c : Nat} {lx ox tx : D} {rest : List (List D)} {k l0 c0 kd : Nat} {s : ByteArray} {texts : List ByteArray} (hH : H[g]? = some (PO lx a c ox)) (hL : SlD 5 (tkR k s l0 c0 :: rest) lx) (hX : SlD 1 (F5 texts) tx) (hlx : texts.length ≤ 1000000) (hb : isB k kd s texts = true) (lo : Nat) : Bf LP NN d 89 [.ptr g 0 0 0,.int .u8 (kd : Nat),tx] ⟨H,lo⟩ = some (.agg (tkR k s l0 c0),⟨H.set g (PO (Dr 1 lx) a c ox) ++ [tkO k s l0 c0,tkO k s l0 c0],min lo g⟩,true):=by
 have hl:=Bh hH
 have hat:=fun (x : Sk)=>Ei hl x
 have hla : ∀ (l : List Sk),H.length ≤ (H ++ l).length:=fun l=>by simp
 have hsl:=fun (S : St)=>hL.slice_1 S (by simp)
 have hia:=fun (S : St)=>hL.Ti S .i64 (i:=0) (r:=tkR k s l0 c0) (by omega) rfl
 have hD:=hL.drop 1
 have hmin : min H.length g = g:=by omega
 have hng : ¬ H.length ≤ g:=by omega
 have hmin2 : min g H.length = g:=by omega
 have hmk : ∀ k : Nat,min g (H.length + k) = g:=fun k=>by omega
 refine Dl (F:=F89) rfl (by simp only [LP,Ar,zs,hX.Sw]<;>exact rfl) rfl (by simp only [LP,zf,zm,hX.Sy]; try rfl) (by simp only [F89,zv]<;>exact rfl) (by omega) ?_
 rintro d rfl
 have zz3:=And.intro @at_S0 (And.intro @at_S (And.intro @set_S0 (And.intro @set_S (And.intro @List.getElem?_cons_zero.{0} (And.intro @List.getElem?_cons_succ.{0} (And.intro @List.length_set.{0} (And.intro @List.set_set.{0} (And.intro hH (And.intro hat (And.intro hsl (And.intro hia (And.intro hD.Tc (And.intro hD.val (And.intro hD.cells (And.intro @Bu (@Di))))))))))))))))
 refine Ad (Ab (by simp only [zl,zm,Nat.reduceAdd]<;>exact rfl) ?_)
 refine Aa (Af ?_)
 refine Aj (Ad ?_)
 refine Ae rfl (Ae rfl ?_)
 refine Ae rfl ?_
 refine Ab (by simp only [zo]; exact (is_run (by omega) (by rw [Cg hl]; exact hH) hL hX hlx _).trans (congrArg (fun b=>some (D.bool b,_,false)) hb)) ?_
 refine xo9 ?_
 refine Aa (Af ?_)
 skip
 refine Cq ?_
 refine Ap (Bt rfl (Ad ?_))
 refine Ae rfl (xo1 ?_)
 refine xo0 ?_
 refine Ab (by simp only [zl,zm,zd,Ay,List.take,List.drop,Cg hl,Nat.reduceAdd,PO,zz3]<;>exact rfl) ?_
 refine Ab (by simp only [zl,zm,tkR,zz3]<;>exact rfl) ?_
 refine Ab (by simp only [zl,zm,zd,Ay,List.take,List.drop,Nat.reduceAdd,zz3]<;>exact rfl) ?_
 refine Ab (by simp only [zl,zm,Nat.reduceAdd]<;>exact rfl) ?_
 refine Ab (by simp only [zl,zm,Bq,overlay,Bw,zs,zc,zf,List.take,List.drop,Nat.reduceAdd,zz3]<;>exact rfl) ?_
 refine Aa (Af ?_)
 refine Ad (Ae rfl ?_)
 refine Ae rfl (xo1 ?_)
 refine xo0 ?_
 refine Ab (by simp only [zl,zm,zd,Ay,List.take,List.drop,Cg hl,Nat.reduceAdd,PO,zz3]<;>exact rfl) ?_
 refine Ab (by simp only [opd,zv,Aw,aop,LOp.loud,lop,if_true,Ci,Option.map_some,zz3]<;>exact rfl) ?_
 refine xo1 ?_
 refine xo0 ?_
 refine Ab (by simp only [zl,zm,Bq,overlay,List.take,List.drop,Cg hl,G7 hl,Nat.reduceAdd,PO,zz3]<;>exact rfl) ?_
 refine Aa (Af ?_)
 refine Ad (Ab (by simp only [zl,zm,zd,Ay,List.take,List.drop,Nat.reduceAdd,zz3]<;>exact rfl) ?_)
 refine Ab (by simp only [zl,zm,Bq,overlay,Bw,zs,zc,zf,List.take,List.drop,Nat.reduceAdd,zz3]<;>exact rfl) ?_
 refine Aa (Af ?_)
 refine Br ?_
 refine ⟨_,by simp only [F89,Au,Bz,Dn,zg,zd,rowsOf,Ay,List.take,List.drop,zm,at_S0,Nat.reduceAdd]<;>exact rfl,?_⟩
 simp [leave,LP,S9,Sw,snap,hmin,hng,hmin2,tkR,tkO,Bw,PO]

theorem Pf (k : Nat) (s : ByteArray) : isB k k s [] = true:=by simp [isB]
theorem number_at {d : Nat} (hd : 7 ≤ d) {H : List Sk} {g a c : Nat} {lx ox : D} {rest : List (List D)} {l0 c0 n : Nat} (hn : n < 100) (hH : H[g]? = some (PO lx a c ox)) (hL : SlD 5 (tkR 2 (Fu n) l0 c0 :: rest) lx) (lo : Nat) :
  Bf LP NN d 50 [.ptr g 0 0 0] ⟨H,lo⟩ = some (.int .i64 (n : Nat),⟨H.set g (PO (Dr 1 lx) a c ox) ++ [tkO 2 (Fu n) l0 c0,tkO 2 (Fu n) l0 c0,tkO 2 (Fu n) l0 c0],min lo g⟩,true):=by
 have hl:=Bh hH
 have hat:=fun (x : Sk)=>Ei hl x
 have hla : ∀ (l : List Sk),H.length ≤ (H ++ l).length:=fun l=>by simp
 have hsl:=fun (S : St)=>hL.slice_1 S (by simp)
 have hia:=fun (S : St)=>hL.Ti S .i64 (i:=0) (r:=tkR 2 (Fu n) l0 c0) (by omega) rfl
 have hD:=hL.drop 1
 have hmin : min H.length g = g:=by omega
 have hng : ¬ H.length ≤ g:=by omega
 have hmin2 : min g H.length = g:=by omega
 have hmk : ∀ k : Nat,min g (H.length + k) = g:=fun k=>by omega
 have hnm : ¬ H.length ≤ min H.length g:=by omega
 refine Dl (F:=F50) rfl (by simp only [LP,Ar,zs]<;>exact rfl) rfl (by simp only [LP,zf,zm]; try rfl) (by simp only [F50,zv]<;>exact rfl) (by omega) ?_
 rintro d rfl
 have zz4:=And.intro @at_S0 (And.intro @at_S (And.intro @set_S0 (And.intro @set_S (And.intro @List.getElem?_cons_zero.{0} (And.intro @List.getElem?_cons_succ.{0} (And.intro @List.length_set.{0} (And.intro @List.set_set.{0} (And.intro hH (And.intro hat (And.intro @Bu (@Di)))))))))))
 refine Ad (Bj ?_)
 refine Aa (Af ?_)
 refine Ad (Ae rfl ?_)
 refine Ab (by simp only [zo]; exact Hz (by omega) hH hL (texts:=[]) (.nil 1) (by simp) (Pf 2 _) _) ?_
 refine Ab (by simp only [zl,zm,Nat.reduceAdd,PO,tkR,tkO,zz4]<;>exact rfl) ?_
 refine Ab (by simp only [zl,zm,Bq,overlay,Bw,zs,zc,zf,List.take,List.drop,Nat.reduceAdd,tkR,zz4]<;>exact rfl) ?_
 refine Aa (Af ?_)
 refine Aj (Ad ?_)
 refine xo0 ?_
 refine xo21 ?_
 refine Ab (by simp only [zo]; exact dig_run (by omega) _ n hn) ?_
 refine xo9 ?_
 refine Aa (Af ?_)
 skip
 refine Cq ?_
 refine Ap (Bt rfl (Ad ?_))
 refine xo0 ?_
 refine xo21 ?_
 refine Ab (by simp only [zo]; exact atoi_run (by omega) _ n hn) ?_
 refine Ag rfl (Ab (by simp only [zo,zz4]<;>exact rfl) ?_)
 refine Ab (by simp only [zo,zz4]<;>exact rfl) ?_
 refine Ag rfl (Ag rfl ?_)
 refine Aa (Af ?_)
 refine Aj (Ad ?_)
 refine Ae rfl (Ab (by simp only [zo,Oh]<;>exact rfl) ?_)
 refine Aa (Af ?_)
 skip
 refine Cq ?_
 refine Ap (Bt rfl (Ad ?_))
 refine Ae rfl (Ag rfl ?_)
 refine Aa (Af ?_)
 refine Br ?_
 refine ⟨_,by simp only [F50,Au,Bz,Dn,zg]<;>exact rfl,?_⟩
 simp [leave,LP,S9,Sw,snap,hmin,hng,hmk,tkR,tkO,PO]

theorem posR_cons (n : Nat) (p : Nat × ByteArray) (l : List (Nat × ByteArray)) : El n (p :: l) = tkR p.1 p.2 n 12 :: El (n + 1) l:=by
 simp [El,List.mapIdx_cons,Nat.add_comm,Nat.add_left_comm]
theorem Fx {n : Nat} {p : Nat × ByteArray} {l : List (Nat × ByteArray)} {x : D} (h : SlD 5 (El n (p :: l)) x) : SlD 5 (El (n + 1) l) (Dr 1 x):=by
 have:=h.drop 1
 rw [posR_cons] at this
 exact this
theorem Em {n : Nat} {p : Nat × ByteArray} {l : List (Nat × ByteArray)} {x : D} (h : SlD 5 (El n (p :: l)) x) : SlD 5 (tkR p.1 p.2 n 12 :: El (n + 1) l) x:=by rw [← posR_cons]; exact h
theorem Li {d : Nat} (hd : 5 ≤ d) {H : List Sk} {g a c m : Nat} {lx ox : D} (w : ByteArray) (b : Bool) {t : Nat × ByteArray} {L : List (Nat × ByteArray)} (hH : H[g]? = some (PO lx a c ox)) (hL : SlD 5 (El m ((if b then [(1,w)] else []) ++ t :: L)) lx) (ht : isB t.1 1 t.2 [w] = false) :
  ∃ H' lx' wr m',Bf LP NN d 93 [.ptr g 0 0 0,.sl 1 [[.str w]] (some 1)] ⟨H,g⟩ = some (.bool b,⟨H',g⟩,wr)∧Upd H H' g (PO lx' a c ox)∧SlD 5 (El m' (t :: L)) lx':=by
 cases b with
 | true =>
  have h1:=skip_hit (texts:=[w]) (tx:=.sl 1 [[.str w]] (some 1)) hd hH (Em hL) (.of _ _ _) (by simp) (by simp [isB]) g
  rw [Nat.min_self] at h1
  exact ⟨_,_,_,_,h1,by have:=Upd.of (Bh hH) (PO (Dr 1 lx) a c ox) []; rwa [List.append_nil] at this,Fx hL⟩
 | false =>
  have h1:=P9 (texts:=[w]) (tx:=.sl 1 [[.str w]] (some 1)) hd hH (Em hL) (.of _ _ _) (by simp) ht g
  exact ⟨_,_,_,_,h1,Upd.refl hH,hL⟩
def kNUM : ByteArray:=⟨#[78,85,77,66,69,82]⟩
def kIS : ByteArray:=⟨#[73,83]⟩

theorem place_at {d : Nat} (hd : 9 ≤ d) {H H2 H3 H4 : List Sk} {g : Nat} {tx : D} {texts : List ByteArray} {x1 : D} {b1 b2 w2 w3 : Bool} {n : Nat} {H1 : List Sk} (hX : SlD 1 (F5 texts) tx) (hgl : g < H.length) (hn4 : ¬ H.length ≤ g)
  (h1 : ∀ d',d = d' + 1→∀ lo,Bf LP NN d' 89 [.ptr g 0 0 0,.int .u8 1,tx] ⟨H,lo⟩ = some (x1,⟨H1,min lo g⟩,true)) (h2 : ∀ d',d = d' + 1→Bf LP NN d' 93 [.ptr g 0 0 0,.sl 1 [[.str kNUM]] (some 1)] ⟨H1,g⟩ = some (.bool b1,⟨H2,g⟩,w2))
  (h3 : ∀ d',d = d' + 1→Bf LP NN d' 93 [.ptr g 0 0 0,.sl 1 [[.str kIS]] (some 1)] ⟨H2,g⟩ = some (.bool b2,⟨H3,g⟩,w3)) (h4 : ∀ d',d = d' + 1→Bf LP NN d' 50 [.ptr g 0 0 0] ⟨H3,g⟩ = some (.int .i64 (n : Nat),⟨H4,g⟩,true)) (lo : Nat) :
  Bf LP NN d 94 [.ptr g 0 0 0,tx] ⟨H,lo⟩ = some (.int .i64 (n : Nat),⟨H4,min lo g⟩,true):=by
 have hmin : min H.length g = g:=by omega
 have hng : ¬ H.length ≤ g:=by omega
 have hmin2 : min g H.length = g:=by omega
 have hmk : ∀ k : Nat,min g (H.length + k) = g:=fun k=>by omega
 have hh1 : ∀ d',d = d' + 1→Bf LP NN d' 89 [.ptr g 0 0 0,.int .u8 1,tx] ⟨H,H.length⟩ = some (x1,⟨H1,g⟩,true):=fun d' e=>by rw [h1 d' e,hmin]
 simp only [kNUM,kIS] at h2 h3
 refine Dl (F:=F94) rfl (by simp only [LP,Ar,zs,hX.Sw]<;>exact rfl) rfl (by simp only [LP,zf,zm,hX.Sy]; try rfl) (by simp only [F94,zv]<;>exact rfl) (by omega) ?_
 rintro d rfl
 refine Ad (Bj ?_)
 refine Aa (Af ?_)
 refine Ad (Ae rfl ?_)
 refine Ae rfl (Ab (by simp only [zo]; exact hh1 d rfl) ?_)
 refine Aa (Af ?_)
 refine Ad (Ae rfl ?_)
 refine Nt ?_
 first
  | refine Ab (by simp only [zo]; exact h2 d rfl) ?_
  | refine Ab (by simp only [zo,hmin,kNUM,kIS]; exact h3 d rfl) ?_
 refine Aa (Af ?_)
 refine Ad (Ae rfl ?_)
 refine Nt ?_
 first
  | refine Ab (by simp only [zo]; exact h2 d rfl) ?_
  | refine Ab (by simp only [zo]; exact h3 d rfl) ?_
 refine Aa (Af ?_)
 refine Ad (Ae rfl ?_)
 refine Ab (by simp only [zo]; exact h4 d rfl) ?_
 refine Ag rfl (Aa ?_)
 refine Af ?_
 refine Br ?_
 refine ⟨_,by simp only [F94,Au,Bz,Dn,zg]<;>exact rfl,?_⟩
 simp [leave,LP,S9,Sw,snap,hng]

theorem place_run {d : Nat} (hd : 9 ≤ d) {H : List Sk} {g a c m n : Nat} {lx ox tx : D} {texts : List ByteArray} (b1 b2 : Bool) {w : ByteArray} {L : List (Nat × ByteArray)} (hn : n < 100) (hH : H[g]? = some (PO lx a c ox)) (hX : SlD 1 (F5 texts) tx) (hlx : texts.length ≤ 1000000) (hb : isB 1 1 w texts = true)
  (hL : SlD 5 (El m ((1,w) :: ((if b1 then [(1,kNUM)] else []) ++ ((if b2 then [(1,kIS)] else []) ++ (2,Fu n) :: L)))) lx) :
  ∃ H' lx' m',(∀ lo,Bf LP NN d 94 [.ptr g 0 0 0,tx] ⟨H,lo⟩ = some (.int .i64 (n : Nat),⟨H',min lo g⟩,true))∧Upd H H' g (PO lx' a c ox)∧SlD 5 (El m' L) lx':=by
 have hgl:=Bh hH
 have h1:=Hz (d:=d - 1) (by omega) hH (Em hL) hX hlx hb
 have u1:=Upd.of hgl (PO (Dr 1 lx) a c ox) [tkO 1 w m 12,tkO 1 w m 12]
 have s1:=Fx hL
 have q2 : ∃ H' lx' wr m',Bf LP NN (d - 1) 93 [.ptr g 0 0 0,.sl 1 [[.str kNUM]] (some 1)] ⟨H.set g (PO (Dr 1 lx) a c ox) ++ [tkO 1 w m 12,tkO 1 w m 12],g⟩ = some (.bool b1,⟨H',g⟩,wr)∧Upd (H.set g (PO (Dr 1 lx) a c ox) ++ [tkO 1 w m 12,tkO 1 w m 12]) H' g (PO lx' a c ox)∧SlD 5 (El m' ((if b2 then [(1,kIS)] else []) ++ (2,Fu n) :: L)) lx':=by
  cases b2 with
  | true=>exact Li (d:=d - 1) (by omega) kNUM b1 (t:=(1,kIS)) u1.at_ s1 (by decide +kernel)
  | false=>exact Li (d:=d - 1) (by omega) kNUM b1 (t:=(2,Fu n)) u1.at_ s1 (by simp [isB])
 obtain ⟨H2,lx2,w2,m2,h2,u2,s2⟩:=q2
 obtain ⟨H3,lx3,w3,m3,h3,u3,s3⟩:=Li (d:=d - 1) (by omega) kIS b2 (t:=(2,Fu n)) u2.at_ s2 (by simp [isB])
 have h4:=number_at (d:=d - 1) (by omega) hn u3.at_ (Em s3) g
 rw [Nat.min_self] at h4
 have u4:=Upd.of (Bh u3.at_) (PO (Dr 1 lx3) a c ox) [tkO 2 (Fu n) m3 12,tkO 2 (Fu n) m3 12,tkO 2 (Fu n) m3 12]
 exact ⟨_,_,_,fun lo=>place_at hd hX hgl (by omega) (fun d' e=>by subst e; exact h1) (fun d' e=>by subst e; exact h2) (fun d' e=>by subst e; exact h3) (fun d' e=>by subst e; exact h4) lo,u1.trans (u2.trans (u3.trans u4)),Fx s3⟩

def Dz (nu : Bool) (n : Nat) : ByteArray:=if nu then ⟨(([90,90,90,90,90,57] : List UInt8).drop (6 - n)).toArray⟩ else ⟨(List.replicate n 88).toArray⟩
theorem FM.pic_eq (f : FM) : f.pic = Dz f.nu f.size:=rfl
def Dt (nu : Bool) (n : Nat) : List D:=[.int .u8 (if nu then (if n = 1 then 4 else 5) else 2),.int .u8 0,.str (Dz nu n),.int .i64 (if nu then (n : Nat) else 0),.int .i64 0,.bool false,.bool false,.bool false,.bool false,.bool false,.int .i64 (n : Nat)]
section
variable (d : Nat) (S : St)
theorem parse_T0 : Da LP NN (d + 14) 17 [.str (Dz true 1)] S = some (.tup [.agg (Dt true 1),.int .i64 0],S,false):=by kernel_rfl
theorem parse_F0 : Da LP NN (d + 14) 17 [.str (Dz false 1)] S = some (.tup [.agg (Dt false 1),.int .i64 0],S,false):=by kernel_rfl
theorem check_T0 : Da LP NN (d + 16) 38 [.agg (Dt true 1)] S = some (.int .i64 0,S,false):=by kernel_rfl
theorem check_F0 : Da LP NN (d + 16) 38 [.agg (Dt false 1)] S = some (.int .i64 0,S,false):=by kernel_rfl
theorem text_0 : Da LP NN (d + 14) 88 [.int .i64 ((1 : Nat) : Int)] S = some (.agg (Dt false 1),S,false):=by kernel_rfl
theorem parse_T1 : Da LP NN (d + 14) 17 [.str (Dz true 2)] S = some (.tup [.agg (Dt true 2),.int .i64 0],S,false):=by kernel_rfl
theorem parse_F1 : Da LP NN (d + 14) 17 [.str (Dz false 2)] S = some (.tup [.agg (Dt false 2),.int .i64 0],S,false):=by kernel_rfl
theorem check_T1 : Da LP NN (d + 16) 38 [.agg (Dt true 2)] S = some (.int .i64 0,S,false):=by kernel_rfl
theorem check_F1 : Da LP NN (d + 16) 38 [.agg (Dt false 2)] S = some (.int .i64 0,S,false):=by kernel_rfl
theorem text_1 : Da LP NN (d + 14) 88 [.int .i64 ((2 : Nat) : Int)] S = some (.agg (Dt false 2),S,false):=by kernel_rfl
theorem parse_T2 : Da LP NN (d + 14) 17 [.str (Dz true 3)] S = some (.tup [.agg (Dt true 3),.int .i64 0],S,false):=by kernel_rfl
theorem parse_F2 : Da LP NN (d + 14) 17 [.str (Dz false 3)] S = some (.tup [.agg (Dt false 3),.int .i64 0],S,false):=by kernel_rfl
theorem check_T2 : Da LP NN (d + 16) 38 [.agg (Dt true 3)] S = some (.int .i64 0,S,false):=by kernel_rfl
theorem check_F2 : Da LP NN (d + 16) 38 [.agg (Dt false 3)] S = some (.int .i64 0,S,false):=by kernel_rfl
theorem text_2 : Da LP NN (d + 14) 88 [.int .i64 ((3 : Nat) : Int)] S = some (.agg (Dt false 3),S,false):=by kernel_rfl
theorem parse_T3 : Da LP NN (d + 14) 17 [.str (Dz true 4)] S = some (.tup [.agg (Dt true 4),.int .i64 0],S,false):=by kernel_rfl
theorem parse_F3 : Da LP NN (d + 14) 17 [.str (Dz false 4)] S = some (.tup [.agg (Dt false 4),.int .i64 0],S,false):=by kernel_rfl
theorem check_T3 : Da LP NN (d + 16) 38 [.agg (Dt true 4)] S = some (.int .i64 0,S,false):=by kernel_rfl
theorem check_F3 : Da LP NN (d + 16) 38 [.agg (Dt false 4)] S = some (.int .i64 0,S,false):=by kernel_rfl
theorem text_3 : Da LP NN (d + 14) 88 [.int .i64 ((4 : Nat) : Int)] S = some (.agg (Dt false 4),S,false):=by kernel_rfl
theorem parse_T4 : Da LP NN (d + 14) 17 [.str (Dz true 5)] S = some (.tup [.agg (Dt true 5),.int .i64 0],S,false):=by kernel_rfl
theorem parse_F4 : Da LP NN (d + 14) 17 [.str (Dz false 5)] S = some (.tup [.agg (Dt false 5),.int .i64 0],S,false):=by kernel_rfl
theorem check_T4 : Da LP NN (d + 16) 38 [.agg (Dt true 5)] S = some (.int .i64 0,S,false):=by kernel_rfl
theorem check_F4 : Da LP NN (d + 16) 38 [.agg (Dt false 5)] S = some (.int .i64 0,S,false):=by kernel_rfl
theorem text_4 : Da LP NN (d + 14) 88 [.int .i64 ((5 : Nat) : Int)] S = some (.agg (Dt false 5),S,false):=by kernel_rfl
theorem parse_T5 : Da LP NN (d + 14) 17 [.str (Dz true 6)] S = some (.tup [.agg (Dt true 6),.int .i64 0],S,false):=by kernel_rfl
theorem parse_F5 : Da LP NN (d + 14) 17 [.str (Dz false 6)] S = some (.tup [.agg (Dt false 6),.int .i64 0],S,false):=by kernel_rfl
theorem check_T5 : Da LP NN (d + 16) 38 [.agg (Dt true 6)] S = some (.int .i64 0,S,false):=by kernel_rfl
theorem check_F5 : Da LP NN (d + 16) 38 [.agg (Dt false 6)] S = some (.int .i64 0,S,false):=by kernel_rfl
theorem text_5 : Da LP NN (d + 14) 88 [.int .i64 ((6 : Nat) : Int)] S = some (.agg (Dt false 6),S,false):=by kernel_rfl
theorem word_A : Da LP NN (d + 6) 92 [.str ⟨#[65]⟩] S = some (.int .u8 0,S,false):=by kernel_rfl
theorem word_B : Da LP NN (d + 6) 92 [.str ⟨#[66]⟩] S = some (.int .u8 0,S,false):=by kernel_rfl
end
section
variable {d : Nat} (hd : 14 ≤ d) (S : St)
include hd
theorem parse_run (f : FM) : Bf LP NN d 17 [.str f.pic] S = some (.tup [.agg (Dt f.nu f.size),.int .i64 0],S,false):=by
 obtain ⟨d,rfl⟩ : ∃ d',d = d' + 14:=⟨d - 14,by omega⟩
 have h:=f.size_le
 rw [f.pic_eq]
 obtain ⟨k,hk⟩ : ∃ k,f.size = k + 1:=⟨f.size - 1,by omega⟩
 rw [hk]
 cases f.nu with
 | true => match k, (show k < 6 by omega) with
   | 0,_=>exact fast_ok (parse_T0 d S)
   | 1,_=>exact fast_ok (parse_T1 d S)
   | 2,_=>exact fast_ok (parse_T2 d S)
   | 3,_=>exact fast_ok (parse_T3 d S)
   | 4,_=>exact fast_ok (parse_T4 d S)
   | 5,_=>exact fast_ok (parse_T5 d S)
 | false => match k, (show k < 6 by omega) with
   | 0,_=>exact fast_ok (parse_F0 d S)
   | 1,_=>exact fast_ok (parse_F1 d S)
   | 2,_=>exact fast_ok (parse_F2 d S)
   | 3,_=>exact fast_ok (parse_F3 d S)
   | 4,_=>exact fast_ok (parse_F4 d S)
   | 5,_=>exact fast_ok (parse_F5 d S)
theorem pcheck_run (hd : 16 ≤ d) (nu : Bool) (n : Nat) (h1 : 1 ≤ n) (h6 : n ≤ 6) : Bf LP NN d 38 [.agg (Dt nu n)] S = some (.int .i64 0,S,false):=by
 obtain ⟨d,rfl⟩ : ∃ d',d = d' + 16:=⟨d - 16,by omega⟩
 obtain ⟨k,rfl⟩ : ∃ k,n = k + 1:=⟨n - 1,by omega⟩
 cases nu with
 | true => match k, (show k < 6 by omega) with
   | 0,_=>exact fast_ok (check_T0 d S)
   | 1,_=>exact fast_ok (check_T1 d S)
   | 2,_=>exact fast_ok (check_T2 d S)
   | 3,_=>exact fast_ok (check_T3 d S)
   | 4,_=>exact fast_ok (check_T4 d S)
   | 5,_=>exact fast_ok (check_T5 d S)
 | false => match k, (show k < 6 by omega) with
   | 0,_=>exact fast_ok (check_F0 d S)
   | 1,_=>exact fast_ok (check_F1 d S)
   | 2,_=>exact fast_ok (check_F2 d S)
   | 3,_=>exact fast_ok (check_F3 d S)
   | 4,_=>exact fast_ok (check_F4 d S)
   | 5,_=>exact fast_ok (check_F5 d S)
theorem stext_run (n : Nat) (h1 : 1 ≤ n) (h6 : n ≤ 6) : Bf LP NN d 88 [.int .i64 (n : Nat)] S = some (.agg (Dt false n),S,false):=by
 obtain ⟨d,rfl⟩ : ∃ d',d = d' + 14:=⟨d - 14,by omega⟩
 obtain ⟨k,rfl⟩ : ∃ k,n = k + 1:=⟨n - 1,by omega⟩
 match k,(show k < 6 by omega) with
  | 0,_=>exact fast_ok (text_0 d S)
  | 1,_=>exact fast_ok (text_1 d S)
  | 2,_=>exact fast_ok (text_2 d S)
  | 3,_=>exact fast_ok (text_3 d S)
  | 4,_=>exact fast_ok (text_4 d S)
  | 5,_=>exact fast_ok (text_5 d S)
theorem wordA_run : Bf LP NN d 92 [.str ⟨#[65]⟩] S = some (.int .u8 0,S,false):=by
 obtain ⟨d,rfl⟩ : ∃ d',d = d' + 6:=⟨d - 6,by omega⟩
 exact fast_ok (word_A d S)
theorem wordB_run : Bf LP NN d 92 [.str ⟨#[66]⟩] S = some (.int .u8 0,S,false):=by
 obtain ⟨d,rfl⟩ : ∃ d',d = d' + 6:=⟨d - 6,by omega⟩
 exact fast_ok (word_B d S)
end

def FO (row : List D) : Sk:=⟨48,16,[row],0,0,false⟩
def Qw : List D:=tkR 0 ⟨#[]⟩ 0 0
def Ij : ByteArray:=⟨#[86,65,76,85,69]⟩
def kPIC : ByteArray:=⟨#[80,73,67]⟩
def O8 : ByteArray:=⟨#[80,73,67,84,85,82,69]⟩
def kFROM : ByteArray:=⟨#[70,82,79,77]⟩
def kTO : ByteArray:=⟨#[84,79]⟩
def kUSING : ByteArray:=⟨#[85,83,73,78,71]⟩
structure Upd2 (H H' : List Sk) (g : Nat) (o : Sk) (f : Nat) (p : Sk) : Prop where
 at1 : H'[g]? = some o
 at2 : H'[f]? = some p
 len : H.length ≤ H'.length
 ne : ∀ k,k < H.length→k ≠ g→k ≠ f→H'[k]? = H[k]?
theorem Fw (s : ByteArray) : (Be s).length = s.size:=by simp only [Be,List.length_map]; exact Array.length_toList
def Jf : Sk:=⟨39,5,[[.int .u8 0,.str ⟨#[]⟩,.int .i64 0,.int .i64 0,.bool false]],0,0,false⟩
theorem Pv {H l : List Sk} {g k : Nat} {x : Sk} (hk : k < H.length) (hn : k ≠ g) : (H.set g x ++ l)[k]? = H[k]?:=by
 rw [Cg (by simpa using hk),Ln_ (Ne.symm hn)]
theorem set_same {H : List Sk} {g k : Nat} {x o : Sk} (h : H[k]? = some o) (hn : k ≠ g) : (H.set g x).set k o = H.set g x:=by
 refine List.ext_getElem? fun j=>?_
 rw [List.getElem?_set]
 by_cases hj : k = j
 ·
  subst hj
  rw [if_pos rfl,if_pos (by simpa using Bh h),Ln_ (Ne.symm hn)]; exact h.symm
 ·
  rw [if_neg hj]

theorem value_lit {d : Nat} (hd : 16 ≤ d) {H H1 H2 H3 : List Sk} {g gf n l0 c0 : Nat} {a0 a1 a2 a3 a4 a5 a6 a7 a8 a9 a10 a11 a12 a13 a14 a15 : D} {b2 w2 : Bool} {s : ByteArray} (hgf : gf < H.length) (hgg : g < gf)
  (h1 : ∀ d',d = d' + 1→Bf LP NN d' 93 [.ptr g 0 0 0,.sl 1 [[.str Ij]] (some 1)] ⟨H ++ [Jf],H.length⟩ = some (.bool true,⟨H1,g⟩,true))
  (h2 : ∀ d',d = d' + 1→Bf LP NN d' 93 [.ptr g 0 0 0,.sl 1 [[.str kIS]] (some 1)] ⟨H1,g⟩ = some (.bool b2,⟨H2,g⟩,w2))
  (h3 : ∀ d',d = d' + 1→Bf LP NN d' 89 [.ptr g 0 0 0,.int .u8 3,.Tk] ⟨H2,g⟩ = some (.agg (tkR 3 s l0 c0),⟨H3,g⟩,true))
  (hF : H3[gf]? = some (FO [a0,a1,a2,a3,a4,a5,a6,a7,a8,a9,a10,a11,a12,a13,a14,a15])) (hZ : H3[H.length]? = some (Jf)) (hs : s.size = n) (h1n : 1 ≤ n) (hn : n ≤ 6) (lo : Nat) :
  Bf LP NN d 95 [.ptr g 0 0 0,.ptr gf 0 0 0] ⟨H,lo⟩ = some (.agg Qw,⟨H3.set gf (FO ([a0,a1,.int .u8 1,.sl 1 (Be s) none] ++ Dt false n ++ [a15])) ++ [tkO 3 s l0 c0],min lo g⟩,true):=by
 have h3f:=Bh hF
 have h3z:=Bh hZ
 have hfz : ¬ gf = H.length:=by omega
 have hfz2 : ¬ gf = H3.length:=by omega
 have hgfp : ¬ H3.length = gf:=by omega
 have hgf2 : ¬ H.length = gf:=by omega
 have hA : ∀ l,(H3 ++ l)[gf]? = some (FO [a0,a1,a2,a3,a4,a5,a6,a7,a8,a9,a10,a11,a12,a13,a14,a15]):=fun l=>by rw [Cg h3f]; exact hF
 have hS1 : ∀ l x,(H3 ++ l).set gf x = H3.set gf x ++ l:=fun l x=>G7 h3f x
 have hA2 : ∀ l x,(H3.set gf x ++ l)[gf]? = some x:=fun l x=>by rw [Cg (by simpa using h3f)]; exact Ei h3f x
 have hS2 : ∀ l x y,(H3.set gf x ++ l).set gf y = H3.set gf y ++ l:=fun l x y=>by rw [G7 (by simpa using h3f),List.set_set]
 have hZ1 : ∀ l x,(H3.set gf x ++ l)[H.length]? = some (Jf):=fun l x=>by rw [Pv h3z hgf2]; exact hZ
 have hS3 : ∀ l x,(H3.set gf x ++ l).set H.length (Jf) = H3.set gf x ++ l:=fun l x=>by rw [G7 (by simpa using h3z),set_same hZ hgf2]
 have hS4 : ∀ l x,(H3.set gf x ++ l)[H3.length]? = l[0]?:=fun l x=>at_S0 H3 l gf x
 have hS5 : ∀ l,(H3 ++ l)[H3.length]? = l[0]?:=fun l=>Di H3 l
 have hS6 : ∀ l x,(H3 ++ l).set H3.length x = H3 ++ l.set 0 x:=fun l x=>Fb H3 l x
 have hS7 : (0 : Nat) = 0:=rfl
 have hbl : (Be s).length = n:=(Fw s).trans hs
 have hne : (s.toList == (⟨#[]⟩ : ByteArray).toList) = false:=by
  rw [beq_eq_false_iff_ne]; intro e
  have:=(baeq s ⟨#[]⟩).1 e
  rw [this] at hs; simp [ByteArray.size] at hs; omega
 have hmin : min H.length g = g:=by omega
 have hng : ¬ H.length ≤ g:=by omega
 have hmins : min g (min H3.length (min gf H.length)) = g:=by omega
 simp only [Ij,kIS] at h1 h2
 simp only [Jf] at h1
 have hS3p:=hS3
 have hZ1p:=hZ1
 simp only [Jf] at hS3p hZ1p
 refine Dl (F:=F95) rfl (by simp only [LP,Ar,zs]<;>exact rfl) rfl (by simp only [LP,zf,zm]; try rfl) (by simp only [F95,zv]<;>exact rfl) (by omega) ?_
 rintro d rfl
 have zz1:=And.intro hA (And.intro hA2 (And.intro hZ1p (And.intro hS1 (And.intro hS2 (And.intro hS3p (And.intro hS4 (And.intro hS5 (And.intro hS6 (And.intro hS7 (And.intro hne (And.intro hbl (hmin))))))))))))
 refine Ad (xo6 ?_)
 refine Aa (Af ?_)
 refine Aj (Ad ?_)
 refine Ae rfl (xo1 ?_)
 refine xo0 ?_
 refine Nt ?_
 first
  | refine Ab (by simp only [zo]; exact h1 d rfl) ?_
  | refine Ab (by simp only [zo,tkO,tkR,Qw,FO,Dt,zz1]; exact h2 d rfl) ?_
 refine Aa (Af ?_)
 skip
 refine E9 ?_
 refine Ad (Ae rfl ?_)
 refine xo1 ?_
 refine xo0 ?_
 refine Nt ?_
 first
  | refine Ab (by simp only [zo]; exact h1 d rfl) ?_
  | refine Ab (by simp only [zo]; exact h2 d rfl) ?_
 refine Aa (Af ?_)
 refine Ad (Ae rfl ?_)
 refine xo1 ?_
 refine xo0 ?_
 refine Ab (by simp only [zo]; exact h3 d rfl) ?_
 refine Ab (by simp only [zl,zm,tkR]<;>exact rfl) ?_
 refine Ab (by simp only [zl,zm,Bq,overlay,Bw,zs,zc,zf,List.take,List.drop,tkR,zz1]<;>exact rfl) ?_
 refine Aa (Af ?_)
 refine Aj (Ad ?_)
 refine xo0 ?_
 refine Ab (by simp only [zl,zm,zd,Ay,List.take,List.drop,zz1]<;>exact rfl) ?_
 refine Ab (by simp only [zo,Bo,zz1]<;>exact rfl) ?_
 refine Aa (Af ?_)
 skip
 refine Cq ?_
 refine Ap (Bt rfl (Aj ?_))
 refine Gs (by simp only [Db,zw,Nat.reduceAdd]<;>exact rfl) (by simp only [zw]<;>exact rfl) ?_
 refine Cc rfl rfl (Cc rfl rfl ?_)
 refine xo3 rfl rfl ?_
 refine Cr (by simp only [zl,zm,zd,Ay,List.take,List.drop,zz1]<;>exact rfl) rfl ?_
 refine Cr (by simp only [zl]<;>exact rfl) rfl ?_
 refine xo7 rfl rfl ?_
 refine xo3 rfl rfl ?_
 refine Ca (by simp only [zl,zm,Bq,overlay,zs,zc,zf,List.take,List.drop,FO,zz1]<;>exact rfl) (by simp only [Bd,zo,zq]<;>exact rfl) (by first | rfl | simp [show ob 97 7 = [true,true,false,false,false,false,true] from rfl,Sv,Ao,Am,Bp,Al,Ba,dj,Ak,Ai,hfz2]) ?_
 refine xo7 rfl rfl ?_
 refine xo3 rfl rfl ?_
 refine Ca (by simp only [zl,zm,Bq,overlay,zs,zc,zf,List.take,List.drop,zz1]<;>exact rfl) (by simp only [Bd,zo,zq]<;>exact rfl) (by first | rfl | simp [show ob 1023 10 = [true,true,true,true,true,true,true,true,true,true] from rfl,Sv,Ao,Am,Bp,Al,Ba,dj,Ak,Ai,Az,hfz,hfz2,hgfp,hgf2]) ?_
 refine De ?_
 refine Af ?_
 refine Ad (Ae rfl ?_)
 refine Ae rfl (xo1 ?_)
 refine xo0 ?_
 refine Ab (by simp only [zl,zm,zd,Ay,List.take,List.drop,zz1]<;>exact rfl) ?_
 refine Ab (by simp only [zo,O6,zz1]<;>exact rfl) ?_
 refine Ab (by simp only [zo]; exact stext_run (by omega) _ _ h1n hn) ?_
 refine Ab (by simp only [zo,Dt]<;>exact rfl) ?_
 refine Ab (by simp only [zo,Gt,zm,Dt]<;>exact rfl) ?_
 refine Ab (by simp only [zl,zm,Bq,overlay,Bw,zs,zc,zf,List.take,List.drop,Dt,zz1]<;>exact rfl) ?_
 refine Aa (Af ?_)
 refine Ad (Ab (by simp only [zo,Hd,Nat.reduceAdd,zm]<;>exact rfl) ?_)
 refine Ab (by simp only [zl,zm,Bq,overlay,Bw,zs,zc,zf,List.take,List.drop,zz1]<;>exact rfl) ?_
 refine Aa (Af ?_)
 refine Br (Gc ?_)
 refine ⟨_,by simp only [F95,Au,Bz,Dn,zg,zd,rowsOf,Ay,List.take,List.drop,zm,hZ1p]<;>exact rfl,?_⟩
 simp [leave,LP,S9,Sw,snap,hmins,hng,Bw,Qw,tkR,tkO,FO,Dt]

section
variable (d : Nat) (S : St) (k l c : Int) (s : ByteArray) (b : Bool) (cap : Option Nat)
theorem clone_one : Da LP NN (d + 2) 148 [.sl 5 [[.int .u8 k,.str s,.int .i64 l,.int .i64 c,.bool b]] cap] S = some (.sl 5 [[.int .u8 k,.str s,.int .i64 l,.int .i64 c,.bool b]] none,S,false):=by kernel_rfl
theorem clip_one : Da LP NN (d + 2) 147 [.sl 5 [[.int .u8 k,.str s,.int .i64 l,.int .i64 c,.bool b]] none] S = some (.sl 5 [[.int .u8 k,.str s,.int .i64 l,.int .i64 c,.bool b]] (some 1),S,false):=by kernel_rfl
end
theorem clone1_run {d : Nat} (hd : 2 ≤ d) (S : St) (k l c : Nat) (s : ByteArray) (cap : Option Nat) : Bf LP NN d 148 [.sl 5 [tkR k s l c] cap] S = some (.sl 5 [tkR k s l c] none,S,false):=by
 obtain ⟨d,rfl⟩ : ∃ d',d = d' + 2:=⟨d - 2,by omega⟩
 exact fast_ok (clone_one d S _ _ _ s false cap)
theorem clip1_run {d : Nat} (hd : 2 ≤ d) (S : St) (k l c : Nat) (s : ByteArray) : Bf LP NN d 147 [.sl 5 [tkR k s l c] none] S = some (.sl 5 [tkR k s l c] (some 1),S,false):=by
 obtain ⟨d,rfl⟩ : ∃ d',d = d' + 2:=⟨d - 2,by omega⟩
 exact fast_ok (clip_one d S _ _ _ s false)
def kwMap : List (List D):=[[.str ⟨#[70,82,79,77]⟩,.int .u8 2],[.str ⟨#[84,79]⟩,.int .u8 3],[.str ⟨#[85,83,73,78,71]⟩,.int .u8 4]]
theorem kw_find (k : Nat) (h1 : 2 ≤ k) (h2 : k ≤ 4) : J6 (.str (kwB k)) kwMap 0 = some (some (k - 2,.int .u8 (k : Nat))):=by
 match k,h1,h2 with
 | 2,_,_=>rfl
 | 3,_,_=>rfl
 | 4,_,_=>rfl
 | n + 5,_,h=>omega
def mapO : Sk:=⟨0,2,kwMap,0,3,false⟩

theorem value_pic {d : Nat} (hd : 16 ≤ d) {H H1 H2 H3 H4 : List Sk} {g gf a c l0 c0 l1 c1 l2 c2 k kk : Nat} {a0 a1 a2 a3 a4 a5 a6 a7 a8 a9 a10 a11 a12 a13 a14 a15 x1 ox : D} {cap : Option Nat} {b2 w2 : Bool} {s w s2 : ByteArray} (hgf : gf < H.length) (hgg : g < gf)
  (h1 : ∀ d',d = d' + 1→Bf LP NN d' 93 [.ptr g 0 0 0,.sl 1 [[.str Ij]] (some 1)] ⟨H ++ [Jf],H.length⟩ = some (.bool false,⟨H ++ [Jf],H.length⟩,false))
  (h1b : ∀ d',d = d' + 1→Bf LP NN d' 89 [.ptr g 0 0 0,.int .u8 1,.sl 1 [[.str kPIC],[.str O8]] (some 2)] ⟨H ++ [Jf],H.length⟩ = some (x1,⟨H1,g⟩,true))
  (h2 : ∀ d',d = d' + 1→Bf LP NN d' 93 [.ptr g 0 0 0,.sl 1 [[.str kIS]] (some 1)] ⟨H1,g⟩ = some (.bool b2,⟨H2,g⟩,w2))
  (h3 : ∀ d',d = d' + 1→Bf LP NN d' 89 [.ptr g 0 0 0,.int .u8 4,.Tk] ⟨H2,g⟩ = some (.agg (tkR 4 s l0 c0),⟨H3,g⟩,true))
  (h4 : ∀ d',d = d' + 1→Bf LP NN d' 89 [.ptr g 0 0 0,.int .u8 1,.sl 1 [[.str kFROM],[.str kTO],[.str kUSING]] (some 3)] ⟨H3 ++ [tkO 4 s l0 c0,mapO],g⟩ = some (.agg (tkR 1 w l1 c1),⟨H4,g⟩,true))
  (hfd : J6 (.str w) [[.str ⟨#[70,82,79,77]⟩,.int .u8 2],[.str ⟨#[84,79]⟩,.int .u8 3],[.str ⟨#[85,83,73,78,71]⟩,.int .u8 4]] 0 = some (some (kk,.int .u8 (k : Nat)))) (hlen : H.length < H3.length)
  (h4g : H4[g]? = some (PO (.sl 5 [tkR 1 s2 l2 c2] cap) a c ox)) (h4f : H4[gf]? = some (FO [a0,a1,a2,a3,a4,a5,a6,a7,a8,a9,a10,a11,a12,a13,a14,a15])) (h4z : H4[H.length]? = some Jf) (h4t : H4[H3.length]? = some (tkO 4 s l0 c0)) (h4m : H4[H3.length + 1]? = some mapO) (lo : Nat) :
  Bf LP NN d 95 [.ptr g 0 0 0,.ptr gf 0 0 0] ⟨H,lo⟩ = some (.agg (tkR 4 s l0 c0),⟨((H4.set gf (FO [a0,a1,.int .u8 (k : Nat),a3,a4,a5,a6,a7,a8,a9,a10,a11,a12,a13,a14,.sl 5 [tkR 1 s2 l2 c2] (some 1)])).set g (PO .Tk a c ox)).set H.length (tkO 4 s l0 c0),min lo g⟩,true):=by
 have hg4:=Bh h4g
 have hf4:=Bh h4f
 have hz4:=Bh h4z
 have ht4:=Bh h4t
 have hm4:=Bh h4m
 have hn1 : (gf = g) = False:=eq_false (by omega)
 have hn2 : (g = H.length) = False:=eq_false (by omega)
 have hn3 : (gf = H3.length) = False:=eq_false (by omega)
 have hn4 : (g = H3.length) = False:=eq_false (by omega)
 have hn5 : (gf = H3.length + 1) = False:=eq_false (by omega)
 have hn6 : (g = H3.length + 1) = False:=eq_false (by omega)
 have hn7 : (gf = H.length) = False:=eq_false (by omega)
 have hn8 : (g = gf) = False:=eq_false (by omega)
 have hn9 : (H.length = H3.length) = False:=eq_false (by omega)
 have hl1 : (gf < H4.length) = True:=eq_true hf4
 have hl2 : (g < H4.length) = True:=eq_true hg4
 have hl3 : (H.length < H4.length) = True:=eq_true hz4
 have hl4 : (H3.length < H4.length) = True:=eq_true ht4
 have hl5 : (H3.length + 1 < H4.length) = True:=eq_true hm4
 have hmin : min H.length g = g:=by omega
 have hmin3 : min g H3.length = g:=by omega
 have hmin4 : min g (H3.length + 1) = g:=by omega
 have hng : ¬ H.length ≤ g:=by omega
 have hmins : min g (min gf H.length) = g:=by omega
 simp only [Ij,kIS,kPIC,O8,kFROM,kTO,kUSING] at h1 h1b h2 h4
 simp only [Jf,tkO,tkR,PO,FO,mapO,kwMap] at h1 h1b h4 h4g h4f h4z h4t h4m
 refine Dl (F:=F95) rfl (by simp only [LP,Ar,zs]<;>exact rfl) rfl (by simp only [LP,zf,zm]; try rfl) (by simp only [F95,zv]<;>exact rfl) (by omega) ?_
 rintro d rfl
 have zz2:=And.intro @List.length_set.{0} (And.intro @List.set_set.{0} (And.intro h4g (And.intro h4f (And.intro h4z (And.intro h4t (And.intro h4m (And.intro hn1 (And.intro hn2 (And.intro hn3 (And.intro hn4 (And.intro hn5 (And.intro hn6 (And.intro hn7 (And.intro hn8 (And.intro hn9 (And.intro hl1 (And.intro hl2 (And.intro hl3 (And.intro hl4 (And.intro hl5 (And.intro @Bu (And.intro @Di (And.intro hmin3 (hmin4))))))))))))))))))))))))
 refine Ad (xo6 ?_)
 refine Aa (Af ?_)
 refine Aj (Ad ?_)
 refine Ae rfl (xo1 ?_)
 refine xo0 ?_
 refine Nt ?_
 first
  | refine Ab (by simp only [zo]; exact h1 d rfl) ?_
  | refine Ab (by simp only [zo,List.getElem?_set,tkO,tkR,PO,FO,mapO,Et,Fb,zz2]; exact h2 d rfl) ?_
 refine Aa (Af ?_)
 skip
 refine Cq ?_
 refine Ap (Bt rfl (Ad ?_))
 refine Ae rfl (xo1 ?_)
 refine xo0 ?_
 refine Nt ?_
 first
  | refine Ab (by simp only [zo]; exact h1b d rfl) ?_
  | refine Ab (by simp only [zo,List.getElem?_set,tkO,tkR,PO,FO,mapO,Et,Fb,zz2]; exact h3 d rfl) ?_
  | refine Ab (by simp only [zo,List.getElem?_set,tkO,tkR,PO,FO,mapO,Et,Fb,zz2]; exact h4 d rfl) ?_
 refine Aa (Af ?_)
 refine Ad (Ae rfl ?_)
 refine xo1 ?_
 refine xo0 ?_
 refine Nt ?_
 first
  | refine Ab (by simp only [zo]; exact h1 d rfl) ?_
  | refine Ab (by simp only [zo]; exact h2 d rfl) ?_
 refine Aa (Af ?_)
 refine Ad (Ae rfl ?_)
 refine xo1 ?_
 refine xo0 ?_
 first
  | refine Ab (by simp only [zo]; exact h1b d rfl) ?_
  | refine Ab (by simp only [zo]; exact h3 d rfl) ?_
  | refine Ab (by simp only [zo,List.getElem?_set,tkO,tkR,PO,FO,mapO,Et,Fb,zz2]; exact h4 d rfl) ?_
 refine Ab (by simp only [zl,zm,tkR]<;>exact rfl) ?_
 refine Ab (by simp only [zl,zm,Bq,overlay,Bw,zs,zc,zf,List.take,List.drop,tkR,zz2]<;>exact rfl) ?_
 refine Aa (Af ?_)
 refine Ad (xo6 ?_)
 refine Ab (by simp only [zl,zm,Ko,isKey,J6,zs,zc,zf,zz2]<;>exact rfl) ?_
 refine Ab (by simp only [zl,zm,Ko,isKey,J6,Fs,zs,zc,zf,zz2]<;>exact rfl) ?_
 refine Ab (by simp only [zl,zm,Ko,isKey,J6,Fs,zs,zc,zf,zz2]<;>exact rfl) ?_
 refine Ag rfl (Ag rfl ?_)
 refine Aa (Af ?_)
 refine Ad (Ae rfl ?_)
 refine Ae rfl (Ae rfl ?_)
 refine xo1 ?_
 refine xo0 ?_
 refine Nt ?_
 first
  | refine Ab (by simp only [zo]; exact h1b d rfl) ?_
  | refine Ab (by simp only [zo]; exact h3 d rfl) ?_
  | refine Ab (by simp only [zo]; exact h4 d rfl) ?_
 refine Ab (by simp only [zo,Ay,List.take,List.drop,zm]<;>exact rfl) ?_
 refine Ab (by simp only [zl,zm,Kq,M7,isKey,hfd,zz2]<;>exact rfl) ?_
 refine xo1 ?_
 refine xo0 ?_
 refine Ab (by simp only [zl,zm,Bq,overlay,zs,zc,zf,List.take,List.drop,zz2]<;>exact rfl) ?_
 refine Aa (Af ?_)
 refine Ad (Ae rfl ?_)
 refine Ae rfl (xo1 ?_)
 refine xo0 ?_
 refine xo0 ?_
 refine Ab (by simp only [zl,zm,zd,Ay,List.take,List.drop,List.getElem?_set,zz2]<;>exact rfl) ?_
 refine Ab (by simp only [zo]; exact clone1_run (by omega) _ _ _ _ _ _) ?_
 refine Ab (by simp only [zo,tkR]; exact clip1_run (by omega) _ _ _ _ _) ?_
 refine Ab (by simp only [zo,tkR]<;>exact rfl) ?_
 refine Ab (by simp only [zo,Gt,zm,tkR]<;>exact rfl) ?_
 refine Ab (by simp only [zl,zm,Bq,overlay,zs,zc,zf,List.take,List.drop,List.getElem?_set,tkR,zz2]<;>exact rfl) ?_
 refine Aa (Af ?_)
 refine Ad (Ae rfl ?_)
 refine xo1 ?_
 refine xo0 ?_
 refine xo0 ?_
 refine Ab (by simp only [zl,zm,Bq,overlay,zs,zc,zf,List.take,List.drop,List.getElem?_set,zz2]<;>exact rfl) ?_
 refine Aa (Af ?_)
 refine Ad (Ab (by simp only [zl,zm,zd,Ay,List.take,List.drop,List.getElem?_set,zz2]<;>exact rfl) ?_)
 refine Ab (by simp only [zl,zm,Bq,overlay,Bw,zs,zc,zf,List.take,List.drop,List.getElem?_set,zz2]<;>exact rfl) ?_
 refine Aa (Af ?_)
 refine Br ?_
 refine ⟨_,by simp only [F95,Au,Bz,Dn,zg,zd,rowsOf,Ay,List.take,List.drop,zm,List.getElem?_set,List.length_set,h4z,hn2,hn7,hl1,hl2,hl3]<;>exact rfl,?_⟩
 simp [leave,LP,S9,Sw,snap,Bw,hmins,hng,tkR,tkO,FO,PO]

def tailL (f : FM) : List (Nat × ByteArray):=if f.kind = 1 then (if f.lo then [(1,Ij),(1,kIS),(3,f.text)] else [(1,Ij),(3,f.text)]) else [(1,kPIC),(4,f.pic),(1,kwB f.kind),(1,⟨#[78]⟩)]
def shp0 : List D:=[.int .u8 0,.int .u8 0,.str ⟨#[]⟩,.int .i64 0,.int .i64 0,.bool false,.bool false,.bool false,.bool false,.bool false,.int .i64 0]
def row1 (f : FM) : List D:=[.int .i64 (f.line : Nat),.int .i64 (f.column : Nat),.int .u8 0,.Tk] ++ shp0 ++ [.Tk]
def row2 (f : FM) (p : Nat) : List D:=if f.kind = 1 then [.int .i64 (f.line : Nat),.int .i64 (f.column : Nat),.int .u8 1,.sl 1 (Be f.text) none] ++ Dt false f.size ++ [.Tk]
 else [.int .i64 (f.line : Nat),.int .i64 (f.column : Nat),.int .u8 (f.kind : Nat),.Tk] ++ shp0 ++ [.sl 5 [tkR 1 ⟨#[78]⟩ p 12] (some 1)]
theorem Gv (f : FM) : f.text.size = f.size:=by
 have h:=f.size_le
 unfold FM.text
 rw [show (⟨(([65,66,67,68,69,70] : List UInt8).take f.size).toArray⟩ : ByteArray).size = (([65,66,67,68,69,70] : List UInt8).take f.size).toArray.size from rfl,List.size_toArray,List.length_take]
 simp; omega
theorem Upd.lt {H H' : List Sk} {g k : Nat} {o x : Sk} (u : Upd H H' g o) (hn : k ≠ g) (h : H[k]? = some x) : H'[k]? = some x:=(u.ne k (Bh h) hn).trans h
theorem kw_isB (k : Nat) (h1 : 2 ≤ k) (h2 : k ≤ 4) : isB 1 1 (kwB k) [kFROM,kTO,kUSING] = true:=by
 match k,h1,h2 with
 | 2,_,_=>decide +kernel
 | 3,_,_=>decide +kernel
 | 4,_,_=>decide +kernel
 | n + 5,_,h=>omega
theorem value_run {d : Nat} (hd : 16 ≤ d) {H : List Sk} {g gf a c m : Nat} {lx ox : D} (f : FM) (hgg : g < gf) (hH : H[g]? = some (PO lx a c ox)) (hF : H[gf]? = some (FO (row1 f))) (hL : SlD 5 (El m (tailL f)) lx) :
  ∃ H' lx' p q,(∀ lo,Bf LP NN d 95 [.ptr g 0 0 0,.ptr gf 0 0 0] ⟨H,lo⟩ = some (.agg (if f.kind = 1 then Qw else tkR 4 f.pic q 12),⟨H',min lo g⟩,true))∧Upd2 H H' g (PO lx' a c ox) gf (FO (row2 f p))∧SlD 5 [] lx':=by
 have hgl:=Bh hH
 have hfl:=Bh hF
 have hk:=f.kind_le
 have hsz:=f.size_le
 have hz : (H ++ [Jf])[H.length]? = some Jf:=by simp
 have hH0 : (H ++ [Jf])[g]? = some (PO lx a c ox):=by rw [Cg hgl]; exact hH
 have hF0 : (H ++ [Jf])[gf]? = some (FO (row1 f)):=by rw [Cg hfl]; exact hF
 have hn0 : ∀ k,k < H.length→(H ++ [Jf])[k]? = H[k]?:=fun k hk=>Cg hk
 have hmin : min H.length g = g:=by omega
 by_cases h1 : f.kind = 1
 ·
  -- a literal
  simp only [tailL,h1,if_true] at hL
  have q : ∃ H1 lx1 m1,Bf LP NN (d - 1) 93 [.ptr g 0 0 0,.sl 1 [[.str Ij]] (some 1)] ⟨H ++ [Jf],H.length⟩ = some (.bool true,⟨H1,g⟩,true)∧Upd (H ++ [Jf]) H1 g (PO lx1 a c ox)∧SlD 5 (El m1 ((if f.lo then [(1,kIS)] else []) ++ [(3,f.text)])) lx1:=by
   have hL' : SlD 5 (El m ((1,Ij) :: ((if f.lo then [(1,kIS)] else []) ++ [(3,f.text)]))) lx:=by
    cases hlo : f.lo<;>simp only [hlo,if_true,if_false,Bool.false_eq_true] at hL ⊢<;>exact hL
   have s:=skip_hit (d:=d - 1) (texts:=[Ij]) (tx:=.sl 1 [[.str Ij]] (some 1)) (by omega) hH0 (Em hL') (.of _ _ _) (by simp) (by simp [isB]) H.length
   rw [hmin] at s
   exact ⟨_,_,_,s,by have:=Upd.of (Bh hH0) (PO (Dr 1 lx) a c ox) []; rwa [List.append_nil] at this,Fx hL'⟩
  obtain ⟨H1,lx1,m1,r1,u1,s1⟩:=q
  obtain ⟨H2,lx2,w2,m2,r2,u2,s2⟩:=Li (d:=d - 1) (by omega) kIS f.lo (t:=(3,f.text)) (L:=[]) u1.at_ s1 (by simp [isB])
  have r3:=Hz (d:=d - 1) (kd:=3) (by omega) u2.at_ (Em s2) (texts:=[]) (.nil 1) (by simp) (Pf 3 _) g
  rw [Nat.min_self] at r3
  have u3:=Upd.of (Bh u2.at_) (PO (Dr 1 lx2) a c ox) [tkO 3 f.text m2 12,tkO 3 f.text m2 12]
  have u:=u1.trans (u2.trans u3)
  have hf3:=u.lt (by omega) hF0
  have hz3:=u.lt (by omega) hz
  have e2 : row2 f 0 = [.int .i64 (f.line : Nat),.int .i64 (f.column : Nat),.int .u8 1,.sl 1 (Be f.text) none] ++ Dt false f.size ++ [.Tk]:=if_pos h1
  generalize hH3 : (H2.set g (PO (Dr 1 lx2) a c ox) ++ [tkO 3 f.text m2 12,tkO 3 f.text m2 12]) = H3 at r3 u3 u hf3 hz3
  refine ⟨H3.set gf (FO (row2 f 0)) ++ [tkO 3 f.text m2 12],Dr 1 lx2,0,0,fun lo=>?_,?_,?_⟩
  ·
   rw [if_pos h1,e2]
   exact value_lit hd hfl hgg (fun d' e=>by subst e; exact r1) (fun d' e=>by subst e; exact r2) (fun d' e=>by subst e; exact r3) hf3 hz3 (Gv f) hsz.1 hsz.2 lo
  ·
   have hlt:=u.len
   rw [Ll_,List.length_cons,List.length_nil] at hlt
   refine ⟨by rw [Pv (Bh u.at_) (by omega)]; exact u.at_,?_,by rw [Ll_,List.length_set]; omega,fun k hk h2 h3=>?_⟩
   ·
    rw [Cg (by rw [List.length_set]; exact Bh hf3),Ei (Bh hf3)]
   ·
    rw [Pv (by omega) h3,u.ne k (by rw [Ll_]; omega) h2]; exact hn0 k hk
  ·
   have:=Fx s2
   exact this
 ·
  -- with a picture
  simp only [tailL,h1,if_false] at hL
  have hk2:=kw_isB f.kind (by omega) hk.2
  have r0:=P9 (d:=d - 1) (texts:=[Ij]) (tx:=.sl 1 [[.str Ij]] (some 1)) (by omega) hH0 (Em hL) (.of _ _ _) (by simp) (by decide +kernel) H.length
  have r1:=Hz (d:=d - 1) (kd:=1) (by omega) hH0 (Em hL) (texts:=[kPIC,O8]) (tx:=.sl 1 [[.str kPIC],[.str O8]] (some 2)) (.of _ _ _) (by simp) (by decide +kernel) H.length
  rw [hmin] at r1
  have u1:=Upd.of (Bh hH0) (PO (Dr 1 lx) a c ox) [tkO 1 kPIC m 12,tkO 1 kPIC m 12]
  have s1:=Fx hL
  obtain ⟨H2,lx2,w2,m2,r2,u2,s2⟩:=Li (d:=d - 1) (by omega) kIS false (t:=(4,f.pic)) (L:=[(1,kwB f.kind),(1,⟨#[78]⟩)]) u1.at_ s1 (by simp [isB])
  have r3:=Hz (d:=d - 1) (kd:=4) (by omega) u2.at_ (Em s2) (texts:=[]) (.nil 1) (by simp) (Pf 4 _) g
  rw [Nat.min_self] at r3
  have u3:=Upd.of (Bh u2.at_) (PO (Dr 1 lx2) a c ox) [tkO 4 f.pic m2 12,tkO 4 f.pic m2 12]
  have s3:=Fx s2
  have u:=u1.trans (u2.trans u3)
  generalize hH3 : (H2.set g (PO (Dr 1 lx2) a c ox) ++ [tkO 4 f.pic m2 12,tkO 4 f.pic m2 12]) = H3 at r3 u u3
  have h3g : (H3 ++ [tkO 4 f.pic m2 12,mapO])[g]? = some (PO (Dr 1 lx2) a c ox):=by rw [Cg (Bh u.at_)]; exact u.at_
  have r4:=Hz (d:=d - 1) (kd:=1) (by omega) h3g (Em s3) (texts:=[kFROM,kTO,kUSING]) (tx:=.sl 1 [[.str kFROM],[.str kTO],[.str kUSING]] (some 3)) (.of _ _ _) (by simp) hk2 g
  rw [Nat.min_self] at r4
  have s4:=Fx s3
  have u4:=(u.app [tkO 4 f.pic m2 12,mapO]).trans (Upd.of (Bh h3g) (PO (Dr 1 (Dr 1 lx2)) a c ox) [tkO 1 (kwB f.kind) (m2 + 1) 12,tkO 1 (kwB f.kind) (m2 + 1) 12])
  have u4':=Upd.of (Bh h3g) (PO (Dr 1 (Dr 1 lx2)) a c ox) [tkO 1 (kwB f.kind) (m2 + 1) 12,tkO 1 (kwB f.kind) (m2 + 1) 12]
  generalize hH4 : ((H3 ++ [tkO 4 f.pic m2 12,mapO]).set g (PO (Dr 1 (Dr 1 lx2)) a c ox) ++ [tkO 1 (kwB f.kind) (m2 + 1) 12,tkO 1 (kwB f.kind) (m2 + 1) 12]) = H4 at r4 u4 u4'
  have hlen3 : H.length < H3.length:=by have:=u.len; rw [Ll_,List.length_cons,List.length_nil] at this; omega
  have h4t : H4[H3.length]? = some (tkO 4 f.pic m2 12):=u4'.lt (by omega) (Di H3 _)
  have h4m : H4[H3.length + 1]? = some mapO:=u4'.lt (by omega) (Bu H3 _ 1)
  have h4f:=u4.lt (k:=gf) (by omega) hF0
  have h4z:=u4.lt (k:=H.length) (by omega) hz
  have h4g:=u4.at_
  rcases s4 with ⟨_,hbad⟩ | ⟨cap,hcap⟩
  ·
   simp [El] at hbad
  rw [show El (m2 + 1 + 1) [(1,⟨#[78]⟩)] = [tkR 1 ⟨#[78]⟩ (m2 + 2) 12] from rfl] at hcap
  rw [hcap] at h4g
  have e2 : row2 f (m2 + 2) = [.int .i64 (f.line : Nat),.int .i64 (f.column : Nat),.int .u8 (f.kind : Nat),.Tk] ++ shp0 ++ [.sl 5 [tkR 1 ⟨#[78]⟩ (m2 + 2) 12] (some 1)]:=if_neg h1
  refine ⟨((H4.set gf (FO (row2 f (m2 + 2)))).set g (PO .Tk a c ox)).set H.length (tkO 4 f.pic m2 12),.Tk,m2 + 2,m2,fun lo=>?_,?_,.nil 5⟩
  ·
   rw [if_neg h1,e2]
   exact value_pic hd hfl hgg (fun d' e=>by subst e; exact r0) (fun d' e=>by subst e; exact r1) (fun d' e=>by subst e; exact r2) (fun d' e=>by subst e; exact r3) (fun d' e=>by subst e; exact r4) (kw_find f.kind (by omega) hk.2) hlen3 h4g h4f h4z h4t h4m lo
  ·
   refine ⟨?_,?_,?_,fun k hk h2 h3=>?_⟩
   ·
    rw [Ln_ (by omega),List.getElem?_set_self (by rw [List.length_set]; exact Bh h4g)]
   ·
    rw [Ln_ (by omega),Ln_ (by omega),List.getElem?_set_self (Bh h4f)]
   ·
    rw [List.length_set,List.length_set,List.length_set]; have:=Bh h4z; omega
   ·
    rw [Ln_ (by omega),Ln_ (Ne.symm h2),Ln_ (Ne.symm h3),u4.ne k (by rw [Ll_]; omega) h2]; exact hn0 k hk

theorem fits_run {d : Nat} (hd : 2 ≤ d) (S : St) (f : FM) (nu : Bool) (k : Nat) {tx op : D} {r1 r2 : List (List D)} (ht : SlD 1 r1 tx) (ho : SlD 5 r2 op) :
  Bf LP NN d 39 [.agg [.int .i64 (f.line : Nat),.int .i64 (f.column : Nat),.int .u8 (k : Nat),tx,.int .u8 (if nu then (if f.size = 1 then 4 else 5) else 2),.int .u8 0,.str (Dz nu f.size),.int .i64 (if nu then (f.size : Nat) else 0),.int .i64 0,.bool false,.bool false,.bool false,.bool false,.bool false,.int .i64 (f.size : Nat),op]] S = some (.bool true,S,false):=by
 have hl:=f.line_le
 have hc:=f.column_le
 have hs:=f.size_le
 have c1 : decide (((f.line : Nat) : Int) ≥ 1) = true:=decide_eq_true (by omega)
 have c2 : decide (((f.line : Nat) : Int) ≤ 24) = true:=decide_eq_true (by omega)
 have c3 : decide (((f.column : Nat) : Int) ≥ 1) = true:=decide_eq_true (by omega)
 have c4 : decide (((f.size : Nat) : Int) ≤ 80) = true:=decide_eq_true (by omega)
 have w1 : IntKind.i64.wrap (80 - ((f.size : Nat) : Int)) = 80 - ((f.size : Nat) : Int):=by rw [IntKind.wrap_i64]; omega
 have w2 : IntKind.i64.wrap (80 - ((f.size : Nat) : Int) + 1) = 80 - ((f.size : Nat) : Int) + 1:=by rw [IntKind.wrap_i64]; omega
 have c5 : decide (((f.column : Nat) : Int) ≤ 80 - ((f.size : Nat) : Int) + 1) = true:=decide_eq_true (by omega)
 refine run_pure (F:=F39) rfl (by simp only [LP,Ar,Bw,zs,zm,ht.snap,ho.snap]<;>exact rfl) rfl (by simp only [LP,zf,zm,ht.free,ho.free]; try rfl) (by simp only [F39,zv]<;>exact rfl) (by omega) ?_
 rintro d rfl
 have zz2:=And.intro ht.Tc (And.intro ho.Tc (And.intro ht.cells (ho.cells)))
 refine Ad (Ab (by simp only [zl,zm,zc,zz2]<;>exact rfl) ?_)
 refine Bj (Aa ?_)
 refine Af ?_
 refine Ad (xo0 ?_)
 refine xo5 ?_
 refine Ab (by simp only [zo,Bo,c1]<;>exact rfl) ?_
 refine Ag rfl (Ch 0 (b:=true) ?_)
 refine Ah rfl (xo0 ?_)
 refine Ah rfl (xo5 ?_)
 refine Ah rfl (Ab (by simp only [zo,Bo,c2]<;>exact rfl) ?_)
 refine xo1 ?_
 refine Ag rfl (Ch 0 (b:=true) ?_)
 refine Ah rfl (xo0 ?_)
 refine Ah rfl (xo5 ?_)
 refine Ah rfl (Ab (by simp only [zo,Bo,c3]<;>exact rfl) ?_)
 refine xo1 ?_
 refine Ag rfl (Ch 0 (b:=true) ?_)
 refine Ah rfl (xo0 ?_)
 refine Ah rfl (xo0 ?_)
 refine Ah rfl (xo5 ?_)
 refine Ah rfl (Ab (by simp only [zo,Bo,c4]<;>exact rfl) ?_)
 refine xo1 ?_
 refine Ag rfl (Ch 0 (b:=true) ?_)
 refine Ah rfl (xo0 ?_)
 refine Ah rfl (xo5 ?_)
 refine Ah rfl (xo0 ?_)
 refine Ah rfl (xo0 ?_)
 refine Ah rfl (xo5 ?_)
 refine Ah rfl (Ab (by simp only [zo,Bo,w1]<;>exact rfl) ?_)
 refine Ah rfl (Ab (by simp only [zo,Bo,w2]<;>exact rfl) ?_)
 refine Ah rfl (Ab (by simp only [zo,Bo,c5]<;>exact rfl) ?_)
 refine xo1 ?_
 refine Ag rfl (Aa ?_)
 refine Af ?_
 refine Br ?_
 refine ⟨_,by simp only [F39,Au,Bz,Dn,zg]<;>exact rfl,?_⟩
 simp only [Dx,leave,zs,zf,zk]

def Gm (f : FM) (p : Nat) : List D:=if f.kind = 1 then row2 f p else [.int .i64 (f.line : Nat),.int .i64 (f.column : Nat),.int .u8 (f.kind : Nat),.Tk] ++ Dt f.nu f.size ++ [.sl 5 [tkR 1 ⟨#[78]⟩ p 12] (some 1)]
def row0 : List D:=[.int .i64 0,.int .i64 0,.int .u8 0,.Tk] ++ shp0 ++ [.Tk]
def GO (rs : List (List D)) (nm : ByteArray) (x : D) (l c v : Nat) : Sk:=⟨36,4,rs ++ [[.str nm,x,.int .i64 (l : Nat),.int .i64 (c : Nat)]],v,0,true⟩
def Hw : ByteArray:=⟨#[70,73,76,76,69,82]⟩
def O9 : ByteArray:=⟨#[76,73,78,69]⟩
def Hy : ByteArray:=⟨#[67,79,76,85,77,78]⟩
def kCOL : ByteArray:=⟨#[67,79,76]⟩

theorem field_lit {d : Nat} (hd : 18 ≤ d) {H H1 H2 H3 H4 HY : List Sk} {g go a c n v l0 c0 lo1 : Nat} {f : FM} {x x' lx4 : D} {rs : List (List D)} {nm : ByteArray} {b1 w1 cr : Bool} {rd wt : List Nat} (hgo : g < go) (hol : go < H1.length) (hgl : g < H.length) (hrs : rs.length < 100) (hlo1 : min lo1 g = g)
  (h1 : ∀ d',d = d' + 1→Bf LP NN d' 93 [.ptr g 0 0 0,.sl 1 [[.str Hw]] (some 1)] ⟨H,H.length⟩ = some (.bool b1,⟨H1,lo1⟩,w1))
  (h2 : ∀ d',d = d' + 1→∀ lo,Bf LP NN d' 94 [.ptr g 0 0 0,.sl 1 [[.str O9]] (some 1)] ⟨H1 ++ [FO row0],lo⟩ = some (.int .i64 (f.line : Nat),⟨H2,min lo g⟩,true))
  (h3 : ∀ d',d = d' + 1→∀ lo,Bf LP NN d' 94 [.ptr g 0 0 0,.sl 1 [[.str Hy],[.str kCOL]] (some 2)] ⟨H2,lo⟩ = some (.int .i64 (f.column : Nat),⟨H3,min lo g⟩,true))
  (hN2 : H2[H1.length]? = some (FO row0)) (hN3 : H3[H1.length]? = some (FO row0))
  (h4 : ∀ d',d = d' + 1→∀ lo,Bf LP NN d' 95 [.ptr g 0 0 0,.ptr H1.length 0 0 0] ⟨H3.set H1.length (FO (row1 f)),lo⟩ = some (.agg Qw,⟨H4,min lo g⟩,true))
  (h4g : H4[g]? = some (PO lx4 a c (.msl go v 0 (rs.length + 1) none))) (hlx : SlD 5 [] lx4) (h4f : H4[H1.length]? = some (FO ([.int .i64 (f.line : Nat),.int .i64 (f.column : Nat),.int .u8 1,.sl 1 (Be f.text) none] ++ Dt false f.size ++ [.Tk]))) (h4o : H4[go]? = some (GO rs nm x l0 c0 v))
  (hfits : ∀ d',d = d' + 1→∀ S,Bf LP NN d' 39 [.agg ([.int .i64 (f.line : Nat),.int .i64 (f.column : Nat),.int .u8 1,.sl 1 (Be f.text) none] ++ Dt false f.size ++ [.Tk])] S = some (.bool true,S,false))
  (hxl : Iw false x = some (.int .i64 (n : Nat))) (hx256 : decide (((n : Nat) : Int) ≥ 256) = false)
  (hap : Cf 48 16 128 0 x (.msl (H4.length + 1) 0 0 1 none) ⟨H4 ++ [Jf,FO ([.int .i64 (f.line : Nat),.int .i64 (f.column : Nat),.int .u8 1,.sl 1 (Be f.text) none] ++ Dt false f.size ++ [.Tk])],g⟩ = some (x',⟨HY,g⟩,true)) (hxv : x'.val = true) (hpv : Sv x' = false) (hxc : x'.cells = [x']) (hfa : Co x (.msl (H4.length + 1) 0 0 1 none) x' true = ⟨true,some rd,some wt,cr,none⟩) (hYo : HY[go]? = some (GO rs nm x l0 c0 v)) (lo : Nat) :
  Bf LP NN d 52 [.ptr g 0 0 0] ⟨H,lo⟩ = some (.tup [],⟨HY.set go (GO rs nm x' l0 c0 v),min lo g⟩,true):=by
 have hg4:=Bh h4g
 have ho4:=Bh h4o
 have hf4:=Bh h4f
 have ieq1 : ¬ go = H4.length:=by omega
 have ieq2 : ¬ H4.length = go:=by omega
 have ieq3 : ¬ go = H4.length + 1:=by omega
 have ieq4 : ¬ H4.length + 1 = go:=by omega
 have ieq:=And.intro ieq1 (And.intro ieq2 (And.intro ieq3 ieq4))
 have hmg : min lo1 g = g:=hlo1
 have hmg2 : min g H1.length = g:=by omega
 have hmg3 : min g H4.length = g:=by omega
 have hmg4 : min g go = g:=by omega
 have hng : ¬ H.length ≤ g:=by omega
 have hw : IntKind.i64.wrap (((rs.length + 1 : Nat) : Int) - 1) = ((rs.length : Nat) : Int):=by rw [IntKind.wrap_i64]; omega
 have hl4:=hlx.len
 have hlz : decide (((rs.length + 1 : Nat) : Int) = 0) = false:=decide_eq_false (by omega)
 have hia0 : (0 : Int) ≤ ((rs.length : Nat) : Int):=by omega
 have hia1 : ((rs.length : Nat) : Int) < ((rs.length + 1 : Nat) : Int):=by omega
 simp only [Hw,O9,Hy,kCOL] at h1 h2 h3
 simp only [FO,row0,row1,shp0,Dt,List.cons_append,List.nil_append,PO,GO,Qw,Jf,tkR] at h2 h4 hN2 hN3 h4g h4f h4o hap hYo hfits
 refine Dl (F:=F52) rfl (by simp only [LP,Ar,zs]<;>exact rfl) rfl (by simp only [LP,zf,zm]; try rfl) (by simp only [F52,zv]<;>exact rfl) (by omega) ?_
 rintro d rfl
 have zz3:=And.intro h4g (And.intro h4o (And.intro h4f (And.intro hl4 (And.intro hlz (And.intro hw (And.intro hxl (And.intro hx256 (And.intro hia0 (And.intro hia1 (And.intro @Bu (And.intro @Di (And.intro hmg (And.intro hmg2 (And.intro hmg3 (And.intro hmg4 (And.intro hYo (And.intro hN3 (And.intro hxv (hxc)))))))))))))))))))
 refine Ad (Ae rfl ?_)
 refine xo1 ?_
 refine xo0 ?_
 refine Nt ?_
 refine Ab (by simp only [zo]; exact h1 d rfl) ?_
 refine Aa (Af ?_)
 refine Aj (Gs (by simp only [Db,zw]<;>exact rfl) (by simp only [zw,Ew]<;>exact rfl) ?_)
 refine Cc rfl rfl (xo7 rfl rfl ?_)
 refine xo3 rfl rfl ?_
 refine Ca (by simp only [zl,zm,Cw,List.replicate,Ar,zs,zc,zf]<;>exact rfl) (by simp only [Bd,zo,zq]<;>exact rfl) (by first | rfl | (simp [show ob 0 3 = [false,false,false] from rfl,Sv,Ao,Am,Bp,Al,Ba,dj,Ak,Ai,Az,Bg,Cb,hfa,Bv,ieq]; done) | (simp [show ob 0 3 = [false,false,false] from rfl,Sv,Ao,Am,Bp,Al,Ba,dj,Ak,Ai,Az,Bg,Cb,hfa,Bv,ieq,Cs,Aq,Cn,Cx,Dy,hN2,hN3]; done)) ?_
 first
  | refine Ca (by simp only [zo]; exact (h2 d rfl _)) (by simp only [Bd,zo,zq]<;>exact rfl) (by first | rfl | (simp [show ob 15 4 = [true,true,true,true] from rfl,Sv,Ao,Am,Bp,Al,Ba,dj,Ak,Ai,Cb]; done) | (simp [show ob 15 4 = [true,true,true,true] from rfl,Sv,Ao,Am,Bp,Al,Ba,dj,Ak,Ai,Cb,Cs,Aq,Cn,Cx,Dy,hN2]; done)) ?_
  | refine Ca (by simp only [zo,Cg hg4,Cg ho4,Cg hf4,G7 ho4,G7 hf4,PO,GO,FO,Qw,tkR,Dt,shp0,row0,Et,Fb,zz3]; exact (h3 d rfl _)) (by simp only [Bd,zo,zq,hpv,Bool.false_eq_true,if_false]<;>exact rfl) (by first | rfl | (simp [show ob 15 4 = [true,true,true,true] from rfl,Sv,Ao,Am,Bp,Al,Ba,dj,Ak,Ai,Az,Bg,Cb,hfa,Bv,ieq]; done) | (simp [show ob 15 4 = [true,true,true,true] from rfl,Sv,Ao,Am,Bp,Al,Ba,dj,Ak,Ai,Az,Bg,Cb,hfa,Bv,ieq,Cs,Aq,Cn,Cx,Dy,hN2,hN3]; done)) ?_
 refine Cc rfl rfl (Ce (by simp only [zo,zz3]<;>exact rfl) rfl rfl ?_)
 refine xo3 rfl rfl ?_
 refine Ca (by simp only [zl,zm,Cw,List.replicate,Ar,zs,zc,zf]<;>exact rfl) (by simp only [Bd,zo,zq]<;>exact rfl) (by first | rfl | (simp [show ob 0 8 = [false,false,false,false,false,false,false,false] from rfl,Sv,Ao,Am,Bp,Al,Ba,dj,Ak,Ai,Az,Bg,Cb,hfa,Bv,ieq]; done) | (simp [show ob 0 8 = [false,false,false,false,false,false,false,false] from rfl,Sv,Ao,Am,Bp,Al,Ba,dj,Ak,Ai,Az,Bg,Cb,hfa,Bv,ieq,Cs,Aq,Cn,Cx,Dy,hN2,hN3]; done)) ?_
 first
  | refine Ca (by simp only [zo]; exact (h2 d rfl _)) (by simp only [Bd,zo,zq,hpv,Bool.false_eq_true,if_false]<;>exact rfl) (by first | rfl | (simp [show ob 511 9 = [true,true,true,true,true,true,true,true,true] from rfl,Sv,Ao,Am,Bp,Al,Ba,dj,Ak,Ai,Az,Bg,Cb,hfa,Bv,ieq]; done) | (simp [show ob 511 9 = [true,true,true,true,true,true,true,true,true] from rfl,Sv,Ao,Am,Bp,Al,Ba,dj,Ak,Ai,Az,Bg,Cb,hfa,Bv,ieq,Cs,Aq,Cn,Cx,Dy,hN2,hN3]; done)) ?_
  | refine Ca (by simp only [zo]; exact (h3 d rfl _)) (by simp only [Bd,zo,zq]<;>exact rfl) (by first | rfl | (simp [show ob 511 9 = [true,true,true,true,true,true,true,true,true] from rfl,Sv,Ao,Am,Bp,Al,Ba,dj,Ak,Ai,Cb]; done) | (simp [show ob 511 9 = [true,true,true,true,true,true,true,true,true] from rfl,Sv,Ao,Am,Bp,Al,Ba,dj,Ak,Ai,Cb,Cs,Aq,Cn,Cx,Dy,hN3]; done)) ?_
 refine xo20 rfl rfl ?_
 refine Ca (by simp only [zo]<;>exact rfl) rfl rfl ?_
 refine Ca (by simp only [zl,zm,Bq,overlay,Bw,zs,zc,zf,List.take,List.drop,zz3]<;>exact rfl) (by simp only [Bd,zo,zq]<;>exact rfl) (by first | rfl | (simp [show ob 4095 12 = [true,true,true,true,true,true,true,true,true,true,true,true] from rfl,Sv,Ao,Am,Bp,Al,Ba,dj,Ak,Ai,Az,Bg,Cb,hfa,Bv,ieq]; done) | (simp [show ob 4095 12 = [true,true,true,true,true,true,true,true,true,true,true,true] from rfl,Sv,Ao,Am,Bp,Al,Ba,dj,Ak,Ai,Az,Bg,Cb,hfa,Bv,ieq,Cs,Aq,Cn,Cx,Dy,hN2,hN3]; done)) ?_
 refine De ?_
 refine Af ?_
 refine Ad (Ae rfl ?_)
 refine Ab (by simp only [zo]; exact (h4 d rfl _)) ?_
 refine xo6 ?_
 refine Ab (by simp only [zl,zm,Bq,overlay,Bw,zs,zc,zf,List.take,List.drop,zz3]<;>exact rfl) ?_
 refine Aa (Af ?_)
 refine Aj (Ad ?_)
 refine Ae rfl (xo1 ?_)
 refine xo0 ?_
 refine xo0 ?_
 refine Ab (by simp only [zl,zm,zd,Ay,List.take,List.drop,Cg hg4,zz3]<;>exact rfl) ?_
 refine Ab (by simp only [zo,zz3]<;>exact rfl) ?_
 refine xo2 ?_
 refine Ag rfl (Ch 0 (b:=false) ?_)
 refine Ah rfl (xo0 ?_)
 refine Ah rfl (Ab (by simp only [zl,zm,zd,Ay,List.take,List.drop,Cg hf4,zz3]<;>exact rfl) ?_)
 refine Ah rfl (xo2 ?_)
 refine Ah rfl (Ag rfl ?_)
 refine Ch 0 (b:=false) ?_
 refine Bb rfl rfl ?_
 refine Bb rfl rfl ?_
 refine Bb rfl rfl ?_
 refine Bb rfl rfl ?_
 refine Ah rfl (xo1 ?_)
 refine xo1 ?_
 refine Aa (Af ?_)
 refine Ie (by simp only [opd,zv]) ?_
 refine Ap (Bt rfl (Aj (Ad ?_)))
 refine Ae rfl (xo1 ?_)
 refine xo0 ?_
 refine Ab (by simp only [zl,zm,zd,Ay,List.take,List.drop,Cg hg4,zz3]<;>exact rfl) ?_
 refine Lc ?_
 refine xo2 ?_
 refine Aa (Af ?_)
 skip
 refine Cq ?_
 refine Ap (Bt rfl (Aj (Ad ?_)))
 refine xo0 ?_
 refine Ab (by simp only [zl,zm,zd,Ay,List.take,List.drop,Cg hf4,zz3]<;>exact rfl) ?_
 refine xo2 ?_
 refine Aa (Af ?_)
 skip
 refine Cq ?_
 refine Ap (Bt rfl (Aj ?_))
 refine Gs (by simp only [Db,zw,Nat.reduceAdd]<;>exact rfl) (by simp only [zw]<;>exact rfl) ?_
 refine Cc rfl rfl (xo7 rfl rfl ?_)
 refine xo3 rfl rfl ?_
 refine Ca (by simp only [zl,zm,zd,Ay,List.take,List.drop,Cg hg4,zz3]<;>exact rfl) (by simp only [Bd,zo,zq]<;>exact rfl) (by first | rfl | (simp [show ob 7 3 = [true,true,true] from rfl,Sv,Ao,Am,Bp,Al,Ba,dj,Ak,Ai,Az,Bg,Cb,hfa,Bv,ieq]; done) | (simp [show ob 7 3 = [true,true,true] from rfl,Sv,Ao,Am,Bp,Al,Ba,dj,Ak,Ai,Az,Bg,Cb,hfa,Bv,ieq,Cs,Aq,Cn,Cx,Dy,hN2,hN3]; done)) ?_
 refine Cc rfl rfl (xo7 rfl rfl ?_)
 refine xo3 rfl rfl ?_
 refine Ca (by simp only [zl,zm,zd,Ay,List.take,List.drop,Cg hg4,zz3]<;>exact rfl) (by simp only [Bd,zo,zq]<;>exact rfl) (by first | rfl | (simp [show ob 112 7 = [true,true,true,false,false,false,false] from rfl,Sv,Ao,Am,Bp,Al,Ba,dj,Ak,Ai,Az,Bg,Cb,hfa,Bv,ieq]; done) | (simp [show ob 112 7 = [true,true,true,false,false,false,false] from rfl,Sv,Ao,Am,Bp,Al,Ba,dj,Ak,Ai,Az,Bg,Cb,hfa,Bv,ieq,Cs,Aq,Cn,Cx,Dy,hN2,hN3]; done)) ?_
 refine Ce (by simp only [zo,O7]<;>exact rfl) rfl rfl ?_
 refine Ce (by simp only [zo,Bo,zz3]<;>exact rfl) rfl rfl ?_
 refine Ca (by simp only [zl,zm,Cj,Int.toNat_natCast,Cg ho4,zz3]<;>exact rfl) (by simp only [Bd,zo,zq]<;>exact rfl) (by first | rfl | (simp [show ob 1023 10 = [true,true,true,true,true,true,true,true,true,true] from rfl,Sv,Ao,Am,Bp,Al,Ba,dj,Ak,Ai,Az,Bg,Cb,hfa,Bv,ieq]; done) | (simp [show ob 1023 10 = [true,true,true,true,true,true,true,true,true,true] from rfl,Sv,Ao,Am,Bp,Al,Ba,dj,Ak,Ai,Az,Bg,Cb,hfa,Bv,ieq,Cs,Aq,Cn,Cx,Dy,hN2,hN3]; done)) ?_
 refine Ee rfl rfl (De ?_)
 refine Af ?_
 refine Aj (Ad ?_)
 refine Ab (by simp only [zl,zm,zd,Ay,List.take,List.drop,Cg hf4,zz3]<;>exact rfl) ?_
 refine Ab (by simp only [zo]; exact hfits d rfl _) ?_
 refine xo9 ?_
 refine Aa (Af ?_)
 skip
 refine Cq ?_
 refine Ap (Bt rfl (Aj (Ad ?_)))
 refine Ae rfl (xo1 ?_)
 refine xo0 ?_
 refine Ab (by simp only [zl,zm,zd,Ay,List.take,List.drop,Cg ho4,zz3]<;>exact rfl) ?_
 refine Ab (by simp only [zo,zz3]<;>exact rfl) ?_
 refine Ab (by simp only [zo,Bo,zz3]<;>exact rfl) ?_
 refine Aa (Af ?_)
 skip
 refine Cq ?_
 refine Ap (Bt rfl ?_)
 refine Gs (by simp only [Db,zw,Nat.reduceAdd]<;>exact rfl) (by simp only [zw]<;>exact rfl) ?_
 refine Cc rfl rfl (Cc rfl rfl ?_)
 refine xo7 rfl rfl ?_
 refine xo3 rfl rfl ?_
 refine Ca (by simp only [zl,zm,zd,Ay,List.take,List.drop,Cg ho4,zz3]<;>exact rfl) (by simp only [Bd,zo,zq]<;>exact rfl) (by first | rfl | (simp [show ob 14 4 = [true,true,true,false] from rfl,Sv,Ao,Am,Bp,Al,Ba,dj,Ak,Ai,Az,Bg,Cb,hfa,Bv,ieq]; done) | (simp [show ob 14 4 = [true,true,true,false] from rfl,Sv,Ao,Am,Bp,Al,Ba,dj,Ak,Ai,Az,Bg,Cb,hfa,Bv,ieq,Cs,Aq,Cn,Cx,Dy,hN2,hN3]; done)) ?_
 refine Ca (by simp only [zl,zm,zd,Ay,List.take,List.drop,Cg hf4,zz3]<;>exact rfl) (by simp only [Bd,zo,zq]<;>exact rfl) (by first | rfl | (simp [show ob 0 5 = [false,false,false,false,false] from rfl,Sv,Ao,Am,Bp,Al,Ba,dj,Ak,Ai,Az,Bg,Cb,hfa,Bv,ieq]; done) | (simp [show ob 0 5 = [false,false,false,false,false] from rfl,Sv,Ao,Am,Bp,Al,Ba,dj,Ak,Ai,Az,Bg,Cb,hfa,Bv,ieq,Cs,Aq,Cn,Cx,Dy,hN2,hN3]; done)) ?_
 refine Ca (by simp only [zl,zm,Cw,List.replicate,Ar,Bw,zs,zc,zf]<;>exact rfl) (by simp only [Bd,zo,zq]<;>exact rfl) (by first | rfl | (simp [show ob 32 6 = [true,false,false,false,false,false] from rfl,Sv,Ao,Am,Bp,Al,Ba,dj,Ak,Ai,Cb,ieq]; done) | (simp [show ob 32 6 = [true,false,false,false,false,false] from rfl,Sv,Ao,Am,Bp,Al,Ba,dj,Ak,Ai,Az,Bg,Cb,hfa,Bv,ieq,Cs,Aq,Cn,Cx,Dy,hN2,hN3]; done)) ?_
 refine Ca (by simp only [Aw,aop,LOp.loud,lop,if_true,opd,zv]; exact hap) (by simp only [Bd,zo,zq]<;>exact rfl) (by first | rfl | (simp [show ob 126 7 = [true,true,true,true,true,true,false] from rfl,Sv,Ao,Am,Bp,Al,Ba,dj,Ak,Ai,Cb,hfa]; done) | (simp [show ob 126 7 = [true,true,true,true,true,true,false] from rfl,Sv,Ao,Am,Bp,Al,Ba,dj,Ak,Ai,Az,Bg,Cb,hfa,Bv,ieq,Cs,Aq,Cn,Cx,Dy,hN2,hN3]; done)) ?_
 refine xo7 rfl rfl ?_
 refine xo3 rfl rfl ?_
 refine Ca (by simp only [zl,zm,Bq,overlay,List.take,List.drop,zz3]<;>exact rfl) (by simp only [Bd,zo,zq,hpv]<;>exact rfl) (by first | rfl | (simp [show ob 1023 10 = [true,true,true,true,true,true,true,true,true,true] from rfl,Sv,Ao,Am,Bp,Al,Ba,dj,Ak,Ai,Cb,hfa]; done) | (simp [show ob 1023 10 = [true,true,true,true,true,true,true,true,true,true] from rfl,Sv,Ao,Am,Bp,Al,Ba,dj,Ak,Ai,Cb,hfa,Aq]; done)) ?_
 refine De ?_
 simp only [ze]
 refine ⟨_,by simp only [F52,Au,Bz]<;>exact rfl,?_⟩
 simp [leave,LP,S9,hng,Ar,GO]

theorem field_pic {d : Nat} (hd : 18 ≤ d) {H H1 H2 H3 H4 HY : List Sk} {g go a c n v l0 c0 lo1 : Nat} {f : FM} {x x' lx4 : D} {rs : List (List D)} {nm : ByteArray} {b1 w1 cr : Bool} {rd wt : List Nat} (hgo : g < go) (hol : go < H1.length) (hgl : g < H.length) (hrs : rs.length < 100) (hlo1 : min lo1 g = g)
  (h1 : ∀ d',d = d' + 1→Bf LP NN d' 93 [.ptr g 0 0 0,.sl 1 [[.str Hw]] (some 1)] ⟨H,H.length⟩ = some (.bool b1,⟨H1,lo1⟩,w1))
  (h2 : ∀ d',d = d' + 1→∀ lo,Bf LP NN d' 94 [.ptr g 0 0 0,.sl 1 [[.str O9]] (some 1)] ⟨H1 ++ [FO row0],lo⟩ = some (.int .i64 (f.line : Nat),⟨H2,min lo g⟩,true))
  (h3 : ∀ d',d = d' + 1→∀ lo,Bf LP NN d' 94 [.ptr g 0 0 0,.sl 1 [[.str Hy],[.str kCOL]] (some 2)] ⟨H2,lo⟩ = some (.int .i64 (f.column : Nat),⟨H3,min lo g⟩,true))
  (hN2 : H2[H1.length]? = some (FO row0)) (hN3 : H3[H1.length]? = some (FO row0)) {p q : Nat} (hk : f.kind ≠ 1)
  (h4 : ∀ d',d = d' + 1→∀ lo,Bf LP NN d' 95 [.ptr g 0 0 0,.ptr H1.length 0 0 0] ⟨H3.set H1.length (FO (row1 f)),lo⟩ = some (.agg (tkR 4 f.pic q 12),⟨H4,min lo g⟩,true))
  (h4g : H4[g]? = some (PO lx4 a c (.msl go v 0 (rs.length + 1) none))) (hlx : SlD 5 [] lx4) (h4f : H4[H1.length]? = some (FO ([.int .i64 (f.line : Nat),.int .i64 (f.column : Nat),.int .u8 (f.kind : Nat),.Tk] ++ shp0 ++ [.sl 5 [tkR 1 ⟨#[78]⟩ p 12] (some 1)]))) (h4o : H4[go]? = some (GO rs nm x l0 c0 v))
  (hfits : ∀ d',d = d' + 1→∀ S,Bf LP NN d' 39 [.agg ([.int .i64 (f.line : Nat),.int .i64 (f.column : Nat),.int .u8 (f.kind : Nat),.Tk] ++ Dt f.nu f.size ++ [.sl 5 [tkR 1 ⟨#[78]⟩ p 12] (some 1)])] S = some (.bool true,S,false))
  (hxl : Iw false x = some (.int .i64 (n : Nat))) (hx256 : decide (((n : Nat) : Int) ≥ 256) = false)
  (hap : Cf 48 16 128 0 x (.msl (H4.length + 2) 0 0 1 none) ⟨H4.set H1.length (FO ([.int .i64 (f.line : Nat),.int .i64 (f.column : Nat),.int .u8 (f.kind : Nat),.Tk] ++ Dt f.nu f.size ++ [.sl 5 [tkR 1 ⟨#[78]⟩ p 12] (some 1)])) ++ [tkO 4 f.pic q 12,⟨46,11,[Dt f.nu f.size],0,0,false⟩,FO ([.int .i64 (f.line : Nat),.int .i64 (f.column : Nat),.int .u8 (f.kind : Nat),.Tk] ++ Dt f.nu f.size ++ [.sl 5 [tkR 1 ⟨#[78]⟩ p 12] (some 1)])],g⟩ = some (x',⟨HY,g⟩,true)) (hxv : x'.val = true) (hpv : Sv x' = false) (hxc : x'.cells = [x']) (hfa : Co x (.msl (H4.length + 2) 0 0 1 none) x' true = ⟨true,some rd,some wt,cr,none⟩) (hYo : HY[go]? = some (GO rs nm x l0 c0 v)) (lo : Nat) :
  Bf LP NN d 52 [.ptr g 0 0 0] ⟨H,lo⟩ = some (.tup [],⟨HY.set go (GO rs nm x' l0 c0 v),min lo g⟩,true):=by
 have hg4:=Bh h4g
 have ho4:=Bh h4o
 have hf4:=Bh h4f
 have ieq1 : ¬ go = H4.length:=by omega
 have ieq2 : ¬ H4.length = go:=by omega
 have ieq3 : ¬ go = H4.length + 1:=by omega
 have ieq4 : ¬ H4.length + 1 = go:=by omega
 have ieq5 : ¬ go = H4.length + 2:=by omega
 have ieq6 : ¬ H4.length + 2 = go:=by omega
 have ieq:=And.intro ieq1 (And.intro ieq2 (And.intro ieq3 (And.intro ieq4 (And.intro ieq5 ieq6))))
 have hmg : min lo1 g = g:=hlo1
 have hmg2 : min g H1.length = g:=by omega
 have hmg3 : min g H4.length = g:=by omega
 have hmg4 : min g go = g:=by omega
 have hng : ¬ H.length ≤ g:=by omega
 have hw : IntKind.i64.wrap (((rs.length + 1 : Nat) : Int) - 1) = ((rs.length : Nat) : Int):=by rw [IntKind.wrap_i64]; omega
 have hl4:=hlx.len
 have hlz : decide (((rs.length + 1 : Nat) : Int) = 0) = false:=decide_eq_false (by omega)
 have hia0 : (0 : Int) ≤ ((rs.length : Nat) : Int):=by omega
 have hia1 : ((rs.length : Nat) : Int) < ((rs.length + 1 : Nat) : Int):=by omega
 simp only [Hw,O9,Hy,kCOL] at h1 h2 h3
 have hmg5 : min g (H4.length + 1) = g:=by omega
 have hk1 : (((f.kind : Nat) : Int) != 1) = true:=by rw [bne_iff_ne]; omega
 have hA2 : ∀ l x,(H4.set H1.length x ++ l)[H1.length]? = some x:=fun l x=>by rw [Cg (by simpa using hf4)]; exact Ei hf4 x
 have hS2 : ∀ l x y,(H4.set H1.length x ++ l).set H1.length y = H4.set H1.length y ++ l:=fun l x y=>by rw [G7 (by simpa using hf4),List.set_set]
 have hG2 : ∀ l x,(H4.set H1.length x ++ l)[g]? = H4[g]?:=fun l x=>Pv hg4 (by omega)
 have hO2 : ∀ l x,(H4.set H1.length x ++ l)[go]? = H4[go]?:=fun l x=>Pv ho4 (by omega)
 have hSO : ∀ l x y,(H4.set H1.length x ++ l).set go y = (H4.set H1.length x).set go y ++ l:=fun l x y=>G7 (by simpa using ho4) y
 simp only [FO,row0,row1,shp0,Dt,List.cons_append,List.nil_append,PO,GO,tkR,tkO] at h2 h4 hN2 hN3 h4g h4f h4o hap hYo hfits
 refine Dl (F:=F52) rfl (by simp only [LP,Ar,zs]<;>exact rfl) rfl (by simp only [LP,zf,zm]; try rfl) (by simp only [F52,zv]<;>exact rfl) (by omega) ?_
 rintro d rfl
 have zz4:=And.intro h4g (And.intro h4o (And.intro h4f (And.intro hl4 (And.intro hlz (And.intro hw (And.intro hxl (And.intro hx256 (And.intro hia0 (And.intro hia1 (And.intro @Bu (And.intro @Di (And.intro hmg (And.intro hmg2 (And.intro hmg3 (And.intro hmg4 (And.intro hYo (And.intro hN3 (And.intro hxv (And.intro hxc (And.intro hA2 (And.intro hS2 (And.intro hG2 (And.intro hO2 (And.intro hSO (And.intro hk1 (And.intro @List.length_set.{0} (hmg5)))))))))))))))))))))))))))
 refine Ad (Ae rfl ?_)
 refine xo1 ?_
 refine xo0 ?_
 refine Nt ?_
 refine Ab (by simp only [zo]; exact h1 d rfl) ?_
 refine Aa (Af ?_)
 refine Aj (Gs (by simp only [Db,zw]<;>exact rfl) (by simp only [zw,Ew]<;>exact rfl) ?_)
 refine Cc rfl rfl (Ce (by simp only [zo,Nat.reduceAdd]<;>exact rfl) rfl rfl ?_)
 refine xo3 rfl rfl ?_
 refine Ca (by simp only [zl,zm,Cw,List.replicate,Ar,zs,zc,zf]<;>exact rfl) (by simp only [Bd,zo,zq]<;>exact rfl) (by first | rfl | (simp [show ob 0 3 = [false,false,false] from rfl,Sv,Ao,Am,Bp,Al,Ba,dj,Ak,Ai,Az,Bg,Cb,hfa,Bv,ieq]; done) | (simp [show ob 0 3 = [false,false,false] from rfl,Sv,Ao,Am,Bp,Al,Ba,dj,Ak,Ai,Az,Bg,Cb,hfa,Bv,ieq,Cs,Aq,Cn,Cx,Dy,hN2,hN3]; done)) ?_
 first
  | refine Ca (by simp only [zo]; exact (h2 d rfl _)) (by simp only [Bd,zo,zq]<;>exact rfl) (by first | rfl | (simp [show ob 15 4 = [true,true,true,true] from rfl,Sv,Ao,Am,Bp,Al,Ba,dj,Ak,Ai,Cb]; done) | (simp [show ob 15 4 = [true,true,true,true] from rfl,Sv,Ao,Am,Bp,Al,Ba,dj,Ak,Ai,Cb,Cs,Aq,Cn,Cx,Dy,hN2]; done)) ?_
  | refine Ca (by simp only [zo,Cg hg4,Cg ho4,Cg hf4,G7 ho4,G7 hf4,PO,GO,FO,Qw,tkR,Dt,shp0,row0,Et,Fb,Nat.reduceAdd,zz4]; exact (h3 d rfl _)) (by simp only [Bd,zo,zq,hpv,Bool.false_eq_true,if_false]<;>exact rfl) (by first | rfl | (simp [show ob 15 4 = [true,true,true,true] from rfl,Sv,Ao,Am,Bp,Al,Ba,dj,Ak,Ai,Az,Bg,Cb,hfa,Bv,ieq]; done) | (simp [show ob 15 4 = [true,true,true,true] from rfl,Sv,Ao,Am,Bp,Al,Ba,dj,Ak,Ai,Az,Bg,Cb,hfa,Bv,ieq,Cs,Aq,Cn,Cx,Dy,hN2,hN3]; done)) ?_
 refine Cc rfl rfl (Ce (by simp only [zo,zz4]<;>exact rfl) rfl rfl ?_)
 refine xo3 rfl rfl ?_
 refine Ca (by simp only [zl,zm,Cw,List.replicate,Ar,zs,zc,zf,Nat.reduceAdd]<;>exact rfl) (by simp only [Bd,zo,zq]<;>exact rfl) (by first | rfl | (simp [show ob 0 8 = [false,false,false,false,false,false,false,false] from rfl,Sv,Ao,Am,Bp,Al,Ba,dj,Ak,Ai,Az,Bg,Cb,hfa,Bv,ieq]; done) | (simp [show ob 0 8 = [false,false,false,false,false,false,false,false] from rfl,Sv,Ao,Am,Bp,Al,Ba,dj,Ak,Ai,Az,Bg,Cb,hfa,Bv,ieq,Cs,Aq,Cn,Cx,Dy,hN2,hN3]; done)) ?_
 first
  | refine Ca (by simp only [zo]; exact (h2 d rfl _)) (by simp only [Bd,zo,zq,hpv,Bool.false_eq_true,if_false]<;>exact rfl) (by first | rfl | (simp [show ob 511 9 = [true,true,true,true,true,true,true,true,true] from rfl,Sv,Ao,Am,Bp,Al,Ba,dj,Ak,Ai,Az,Bg,Cb,hfa,Bv,ieq]; done) | (simp [show ob 511 9 = [true,true,true,true,true,true,true,true,true] from rfl,Sv,Ao,Am,Bp,Al,Ba,dj,Ak,Ai,Az,Bg,Cb,hfa,Bv,ieq,Cs,Aq,Cn,Cx,Dy,hN2,hN3]; done)) ?_
  | refine Ca (by simp only [zo]; exact (h3 d rfl _)) (by simp only [Bd,zo,zq]<;>exact rfl) (by first | rfl | (simp [show ob 511 9 = [true,true,true,true,true,true,true,true,true] from rfl,Sv,Ao,Am,Bp,Al,Ba,dj,Ak,Ai,Cb]; done) | (simp [show ob 511 9 = [true,true,true,true,true,true,true,true,true] from rfl,Sv,Ao,Am,Bp,Al,Ba,dj,Ak,Ai,Cb,Cs,Aq,Cn,Cx,Dy,hN3]; done)) ?_
 refine Ce (by simp only [zo,Hd,overlay,zc,List.take,List.drop,Nat.reduceAdd,Nat.reduceLeDiff,zm,Nat.reduceAdd]<;>exact rfl) rfl rfl ?_
 refine Ca (by simp only [zo]<;>exact rfl) rfl rfl ?_
 refine Ca (by simp only [zl,zm,Bq,overlay,Bw,zs,zc,zf,List.take,List.drop,Nat.reduceAdd,zz4]<;>exact rfl) (by simp only [Bd,zo,zq]<;>exact rfl) (by first | rfl | (simp [show ob 4095 12 = [true,true,true,true,true,true,true,true,true,true,true,true] from rfl,Sv,Ao,Am,Bp,Al,Ba,dj,Ak,Ai,Az,Bg,Cb,hfa,Bv,ieq]; done) | (simp [show ob 4095 12 = [true,true,true,true,true,true,true,true,true,true,true,true] from rfl,Sv,Ao,Am,Bp,Al,Ba,dj,Ak,Ai,Az,Bg,Cb,hfa,Bv,ieq,Cs,Aq,Cn,Cx,Dy,hN2,hN3]; done)) ?_
 refine De ?_
 refine Af ?_
 refine Ad (Ae rfl ?_)
 refine Ab (by simp only [zo]; exact (h4 d rfl _)) ?_
 refine Ab (by simp only [zl,zm,Nat.reduceAdd]<;>exact rfl) ?_
 refine Ab (by simp only [zl,zm,Bq,overlay,Bw,zs,zc,zf,List.take,List.drop,Nat.reduceAdd,zz4]<;>exact rfl) ?_
 refine Aa (Af ?_)
 refine Aj (Ad ?_)
 refine Ae rfl (xo1 ?_)
 refine xo0 ?_
 refine xo0 ?_
 refine Ab (by simp only [zl,zm,zd,Ay,List.take,List.drop,Cg hg4,Nat.reduceAdd,zz4]<;>exact rfl) ?_
 refine Ab (by simp only [zo,zz4]<;>exact rfl) ?_
 refine xo2 ?_
 refine Ag rfl (Ch 0 (b:=false) ?_)
 refine Ah rfl (xo0 ?_)
 refine Ah rfl (Ab (by simp only [zl,zm,zd,Ay,List.take,List.drop,Cg hf4,Nat.reduceAdd,zz4]<;>exact rfl) ?_)
 refine Ah rfl (xo16 ?_)
 refine Ah rfl (Ag rfl ?_)
 refine Ch 0 (b:=true) ?_
 refine Ah rfl (xo0 ?_)
 refine Ah rfl (Ab (by simp only [zl,zm,zd,Ay,List.take,List.drop,Cg hf4,Nat.reduceAdd,zz4]<;>exact rfl) ?_)
 refine Ah rfl (Ab (by simp only [zo,O6]<;>exact rfl) ?_)
 refine Ah rfl (xo2 ?_)
 refine Ah rfl (xo1 ?_)
 refine xo1 ?_
 refine Aa (Af ?_)
 skip
 refine Cq ?_
 refine Ap (Bt rfl (Aj (Ad ?_)))
 refine Ae rfl (xo1 ?_)
 refine xo0 ?_
 refine Ab (by simp only [zl,zm,zd,Ay,List.take,List.drop,Cg hg4,Nat.reduceAdd,zz4]<;>exact rfl) ?_
 refine Lc ?_
 refine xo2 ?_
 refine Aa (Af ?_)
 skip
 refine Cq ?_
 refine Ap (Bt rfl (Aj (Ad ?_)))
 refine xo0 ?_
 refine Ab (by simp only [zl,zm,zd,Ay,List.take,List.drop,Cg hf4,Nat.reduceAdd,zz4]<;>exact rfl) ?_
 refine xo16 ?_
 refine Aa (Af ?_)
 skip
 refine E9 ?_
 refine Ad (xo0 ?_)
 refine xo21 ?_
 refine Ab (by simp only [zo]; exact parse_run (by omega) _ f) ?_
 refine Ag rfl (Ab (by simp only [zo,Lz,Dt]<;>exact rfl) ?_)
 refine Ab (by simp only [zo,Lz,Ls_,Dt]<;>exact rfl) ?_
 refine Ab (by simp only [zl,zm,Dt,Nat.reduceAdd]<;>exact rfl) ?_
 refine Ab (by simp only [zl,zm,Bq,overlay,Bw,zs,zc,zf,List.take,List.drop,Dt,Nat.reduceAdd,zz4]<;>exact rfl) ?_
 refine Ag rfl (Aa ?_)
 refine Af ?_
 refine Aj (Ad ?_)
 refine Ae rfl (xo2 ?_)
 refine Aa (Af ?_)
 skip
 refine Cq ?_
 refine Ap (Bt rfl (Bc ?_))
 refine xo21 ?_
 refine xo0 ?_
 refine Ab (by simp only [zl,zm,Bq,overlay,Bw,zs,zc,zf,List.take,List.drop,Cg hf4,G7 hf4,Nat.reduceAdd,zz4]<;>exact rfl) ?_
 refine Aa (Af ?_)
 refine Aj (Ez ?_)
 refine Cc rfl rfl (xo7 rfl rfl ?_)
 refine xo3 rfl rfl ?_
 refine Ca (by simp only [zl,zm,zd,Ay,List.take,List.drop,Nat.reduceAdd,zz4]<;>exact rfl) (by simp only [Bd,zo,zq]<;>exact rfl) (by first | rfl | (simp [show ob 7 3 = [true,true,true] from rfl,Sv,Ao,Am,Bp,Al,Ba,dj,Ak,Ai,Az,Bg,Cb,hfa,Bv,ieq]; done) | (simp [show ob 7 3 = [true,true,true] from rfl,Sv,Ao,Am,Bp,Al,Ba,dj,Ak,Ai,Az,Bg,Cb,hfa,Bv,ieq,Cs,Aq,Cn,Cx,Dy,hN2,hN3]; done)) ?_
 refine Cc rfl rfl (xo7 rfl rfl ?_)
 refine xo3 rfl rfl ?_
 refine Ca (by simp only [zl,zm,zd,Ay,List.take,List.drop,Nat.reduceAdd,zz4]<;>exact rfl) (by simp only [Bd,zo,zq]<;>exact rfl) (by first | rfl | (simp [show ob 112 7 = [true,true,true,false,false,false,false] from rfl,Sv,Ao,Am,Bp,Al,Ba,dj,Ak,Ai,Az,Bg,Cb,hfa,Bv,ieq]; done) | (simp [show ob 112 7 = [true,true,true,false,false,false,false] from rfl,Sv,Ao,Am,Bp,Al,Ba,dj,Ak,Ai,Az,Bg,Cb,hfa,Bv,ieq,Cs,Aq,Cn,Cx,Dy,hN2,hN3]; done)) ?_
 refine Ce (by simp only [zo,O7]<;>exact rfl) rfl rfl ?_
 refine Ce (by simp only [zo,Bo,zz4]<;>exact rfl) rfl rfl ?_
 refine Ca (by simp only [zl,zm,Cj,Int.toNat_natCast,zz4]<;>exact rfl) (by simp only [Bd,zo,zq]<;>exact rfl) (by first | rfl | (simp [show ob 1023 10 = [true,true,true,true,true,true,true,true,true,true] from rfl,Sv,Ao,Am,Bp,Al,Ba,dj,Ak,Ai,Az,Bg,Cb,hfa,Bv,ieq]; done) | (simp [show ob 1023 10 = [true,true,true,true,true,true,true,true,true,true] from rfl,Sv,Ao,Am,Bp,Al,Ba,dj,Ak,Ai,Az,Bg,Cb,hfa,Bv,ieq,Cs,Aq,Cn,Cx,Dy,hN2,hN3]; done)) ?_
 refine Ee rfl rfl (De ?_)
 refine Af ?_
 refine Aj (Ad ?_)
 refine xo21 ?_
 refine Ab (by simp only [zo]; exact hfits d rfl _) ?_
 refine xo9 ?_
 refine Aa (Af ?_)
 skip
 refine Cq ?_
 refine Ap (Bt rfl (Aj (Ad ?_)))
 refine Ae rfl (xo1 ?_)
 refine xo0 ?_
 refine xo21 ?_
 refine Ab (by simp only [zo,zz4]<;>exact rfl) ?_
 refine xo16 ?_
 refine Aa (Af ?_)
 skip
 refine Cq ?_
 refine Ap (Bt rfl ?_)
 refine Ez ?_
 refine Cc rfl rfl (Cc rfl rfl ?_)
 refine xo7 rfl rfl ?_
 refine xo3 rfl rfl ?_
 refine Ca (by simp only [zl,zm,zd,Ay,List.take,List.drop,Nat.reduceAdd,zz4]<;>exact rfl) (by simp only [Bd,zo,zq]<;>exact rfl) (by first | rfl | (simp [show ob 14 4 = [true,true,true,false] from rfl,Sv,Ao,Am,Bp,Al,Ba,dj,Ak,Ai,Az,Bg,Cb,hfa,Bv,ieq]; done) | (simp [show ob 14 4 = [true,true,true,false] from rfl,Sv,Ao,Am,Bp,Al,Ba,dj,Ak,Ai,Az,Bg,Cb,hfa,Bv,ieq,Cs,Aq,Cn,Cx,Dy,hN2,hN3]; done)) ?_
 refine Ca (by simp only [zl,zm,zd,Ay,List.take,List.drop,Nat.reduceAdd,zz4]<;>exact rfl) (by simp only [Bd,zo,zq]<;>exact rfl) (by first | rfl | (simp [show ob 0 5 = [false,false,false,false,false] from rfl,Sv,Ao,Am,Bp,Al,Ba,dj,Ak,Ai,Az,Bg,Cb,hfa,Bv,ieq]; done) | (simp [show ob 0 5 = [false,false,false,false,false] from rfl,Sv,Ao,Am,Bp,Al,Ba,dj,Ak,Ai,Az,Bg,Cb,hfa,Bv,ieq,Cs,Aq,Cn,Cx,Dy,hN2,hN3]; done)) ?_
 refine Ca (by simp only [zl,zm,Cw,List.replicate,Ar,Bw,zs,zc,zf,Nat.reduceAdd,zz4]<;>exact rfl) (by simp only [Bd,zo,zq]<;>exact rfl) (by first | rfl | (simp [show ob 32 6 = [true,false,false,false,false,false] from rfl,Sv,Ao,Am,Bp,Al,Ba,dj,Ak,Ai,Cb,ieq]; done) | (simp [show ob 32 6 = [true,false,false,false,false,false] from rfl,Sv,Ao,Am,Bp,Al,Ba,dj,Ak,Ai,Az,Bg,Cb,hfa,Bv,ieq,Cs,Aq,Cn,Cx,Dy,hN2,hN3]; done)) ?_
 refine Ca (by simp only [Aw,aop,LOp.loud,lop,if_true,opd,zv]; exact hap) (by simp only [Bd,zo,zq]<;>exact rfl) (by first | rfl | (simp [show ob 126 7 = [true,true,true,true,true,true,false] from rfl,Sv,Ao,Am,Bp,Al,Ba,dj,Ak,Ai,Cb,hfa]; done) | (simp [show ob 126 7 = [true,true,true,true,true,true,false] from rfl,Sv,Ao,Am,Bp,Al,Ba,dj,Ak,Ai,Az,Bg,Cb,hfa,Bv,ieq,Cs,Aq,Cn,Cx,Dy,hN2,hN3]; done)) ?_
 refine xo7 rfl rfl ?_
 refine xo3 rfl rfl ?_
 refine Ca (by simp only [zl,zm,Bq,overlay,List.take,List.drop,Nat.reduceAdd,zz4]<;>exact rfl) (by simp only [Bd,zo,zq,hpv]<;>exact rfl) (by first | rfl | (simp [show ob 1023 10 = [true,true,true,true,true,true,true,true,true,true] from rfl,Sv,Ao,Am,Bp,Al,Ba,dj,Ak,Ai,Cb,hfa]; done) | (simp [show ob 1023 10 = [true,true,true,true,true,true,true,true,true,true] from rfl,Sv,Ao,Am,Bp,Al,Ba,dj,Ak,Ai,Cb,hfa,Aq]; done)) ?_
 refine De ?_
 simp only [ze]
 refine ⟨_,by simp only [F52,Au,Bz,zm]<;>exact rfl,?_⟩
 simp [leave,LP,S9,hng,Ar,GO]

def FL (H : List Sk) (gs : Nat) (x : D) (rows : List (List D)) : Prop:=(x = .Tk∧rows = []) ∨ ∃ vs,x = .msl gs vs 0 rows.length none∧H[gs]? = some ⟨48,16,rows,vs,0,true⟩
theorem FL.len {H : List Sk} {gs : Nat} {x : D} {rows : List (List D)} (h : FL H gs x rows) : Iw false x = some (.int .i64 (rows.length : Nat)):=by
 rcases h with ⟨rfl,rfl⟩ | ⟨vs,rfl,_⟩<;>rfl
def tokT (f : FM) : List (Nat × ByteArray):=(if f.lo then [(1,Hw),(1,O9),(1,kNUM),(1,kIS),(2,Fu f.line),(1,kCOL),(1,kIS),(2,Fu f.column)] else [(1,O9),(2,Fu f.line),(1,Hy),(2,Fu f.column)]) ++ tailL f
theorem Sc (f : FM) : Ji f = (2,Fu 5) :: tokT f:=rfl
theorem FL.app {H Z : List Sk} {gs g m : Nat} {x : D} {rows : List (List D)} {row : List D} (h : FL H gs x rows) (hgs : g < gs) (hm : Z.length = m + 1) (hr : Z[m]? = some (FO row)) (hgm : gs < m ∨ x = .Tk) (hZ : ∀ vs,H[gs]? = some ⟨48,16,rows,vs,0,true⟩→x ≠ .Tk→Z[gs]? = some ⟨48,16,rows,vs,0,true⟩) (hl : rows.length < 256) :
  ∃ x' HY gs' rd wt cr,Cf 48 16 128 0 x (.msl m 0 0 1 none) ⟨Z,g⟩ = some (x',⟨HY,g⟩,true)∧x'.val = true∧Sv x' = false∧x'.cells = [x']∧Co x (.msl m 0 0 1 none) x' true = ⟨true,some rd,some wt,cr,none⟩∧FL HY gs' x' (rows ++ [row])∧(gs' = gs ∨ gs' = Z.length)∧Z.length ≤ HY.length∧∀ k,k < Z.length→(k ≠ gs ∨ x = .Tk)→HY[k]? = Z[k]?:=by
 have hread : Dj ⟨Z,g⟩ 16 (.msl m 0 0 1 none) = some [row]:=by simp [Dj,rowsOf,hr,FO]
 rcases h with ⟨rfl,rfl⟩ | ⟨vs,rfl,ho⟩
 ·
  refine ⟨.msl Z.length 0 0 1 none,Z ++ [⟨48,16,[row],0,0,true⟩],Z.length,[m],[Z.length],true,?_,rfl,rfl,rfl,?_,.inr ⟨0,rfl,by simp⟩,.inr rfl,by simp,fun k hk _=>Cg hk⟩
  ·
   simp [Cf,hread,Bl,newAt]
  ·
   simp [Co,Bv]
 ·
  have hz:=hZ vs ho (by simp)
  have hgl:=Bh hz
  refine ⟨.msl gs (vs + 1) 0 (rows.length + 1) none,Z.set gs ⟨48,16,rows ++ [row],vs + 1,0,true⟩,gs,[gs,m],[gs],false,?_,rfl,rfl,rfl,?_,.inr ⟨vs + 1,by simp,by rw [Ei hgl]⟩,.inl rfl,by simp,fun k hk hn=>?_⟩
  ·
   have hb : (rows.length + 1) * 128 ≤ 140737488355328:=by omega
   have hmin : min g gs = g:=by omega
   simp [Cf,hread,Bl,rowsOf,hz,setAt,hb,hmin]
  ·
   simp [Co,Bv]
  ·
   rcases hn with hn | hn
   ·
    rw [Ln_ (Ne.symm hn)]
   ·
    cases hn
theorem J5 (f : FM) (p : Nat) {d : Nat} (hd : 2 ≤ d) (S : St) : Bf LP NN d 39 [.agg (Gm f p)] S = some (.bool true,S,false):=by
 unfold Gm row2
 split
 ·
  exact fits_run hd S f false 1 (.of _ _ _) (.nil 5)
 ·
  exact fits_run hd S f f.nu f.kind (.nil 1) (.of _ _ _)
theorem field_run {d : Nat} (hd : 18 ≤ d) {H : List Sk} {g go gs a c m v l0 c0 : Nat} {f : FM} {lx x : D} {rs rows : List (List D)} {nm : ByteArray} (hgo : g < go) (hgs : g < gs) (hne : gs ≠ go) (hrs : rs.length < 100) (hrows : rows.length < 256)
  (hH : H[g]? = some (PO lx a c (.msl go v 0 (rs.length + 1) none))) (hO : H[go]? = some (GO rs nm x l0 c0 v)) (hF : FL H gs x rows) (hL : SlD 5 (El m (tokT f)) lx) :
  ∃ H' lx' x' gs' p,(∀ lo,Bf LP NN d 52 [.ptr g 0 0 0] ⟨H,lo⟩ = some (.tup [],⟨H',min lo g⟩,true))∧H'[g]? = some (PO lx' a c (.msl go v 0 (rs.length + 1) none))∧H'[go]? = some (GO rs nm x' l0 c0 v)∧FL H' gs' x' (rows ++ [Gm f p])∧(gs' = gs ∨ H.length ≤ gs')∧H.length ≤ H'.length∧∀ k,k < H.length→k ≠ g→k ≠ go→(k ≠ gs ∨ x = .Tk)→H'[k]? = H[k]?:=by
 have hgl:=Bh hH
 have hol:=Bh hO
 have hk:=f.kind_le
 have hln:=f.line_le
 have hcn:=f.column_le
 have hsn:=f.size_le
 have hmin : min H.length g = g:=by omega
 -- FILLER
 have q : ∃ H1 lx1 lo1 w1 m1,Bf LP NN (d - 1) 93 [.ptr g 0 0 0,.sl 1 [[.str Hw]] (some 1)] ⟨H,H.length⟩ = some (.bool f.lo,⟨H1,lo1⟩,w1)∧min lo1 g = g∧Upd H H1 g (PO lx1 a c (.msl go v 0 (rs.length + 1) none)) ∧
   SlD 5 (El m1 ((1,O9) :: ((if f.lo then [(1,kNUM)] else []) ++ ((if f.lo then [(1,kIS)] else []) ++ (2,Fu f.line) :: (1,if f.lo then kCOL else Hy) :: ((if false then [(1,kNUM)] else []) ++ ((if f.lo then [(1,kIS)] else []) ++ (2,Fu f.column) :: tailL f)))))) lx1:=by
  unfold tokT at hL
  cases hlo : f.lo with
  | true =>
   simp only [hlo,if_true] at hL
   have s:=skip_hit (d:=d - 1) (texts:=[Hw]) (tx:=.sl 1 [[.str Hw]] (some 1)) (by omega) hH (Em hL) (.of _ _ _) (by simp) (by simp [isB]) H.length
   rw [hmin] at s
   exact ⟨_,_,_,_,_,s,Nat.min_self g,by have:=Upd.of hgl (PO (Dr 1 lx) a c (.msl go v 0 (rs.length + 1) none)) []; rwa [List.append_nil] at this,Fx hL⟩
  | false =>
   simp only [hlo,if_false,Bool.false_eq_true] at hL
   exact ⟨_,_,_,_,_,P9 (d:=d - 1) (texts:=[Hw]) (tx:=.sl 1 [[.str Hw]] (some 1)) (by omega) hH (Em hL) (.of _ _ _) (by simp) (by decide +kernel) H.length,hmin,Upd.refl hH,hL⟩
 obtain ⟨H1,lx1,lo1,w1,m1,r1,hlo1,u1,s1⟩:=q
 have hl1:=u1.len
 -- the places
 have hg1 : (H1 ++ [FO row0])[g]? = some (PO lx1 a c (.msl go v 0 (rs.length + 1) none)):=by rw [Cg (Bh u1.at_)]; exact u1.at_
 obtain ⟨H2,lx2,m2,r2,u2,s2⟩:=place_run (d:=d - 1) (tx:=.sl 1 [[.str O9]] (some 1)) (texts:=[O9]) (by omega) f.lo f.lo (by omega) hg1 (.of _ _ _) (by simp) (by simp [isB]) s1
 have hw : isB 1 1 (if f.lo then kCOL else Hy) [Hy,kCOL] = true:=by cases f.lo<;>decide +kernel
 obtain ⟨H3,lx3,m3,r3,u3,s3⟩:=place_run (d:=d - 1) (tx:=.sl 1 [[.str Hy],[.str kCOL]] (some 2)) (texts:=[Hy,kCOL]) (by omega) false f.lo (by omega) u2.at_ (.of _ _ _) (by simp) hw s2
 have hN1 : (H1 ++ [FO row0])[H1.length]? = some (FO row0):=by simp
 have hN2:=u2.lt (k:=H1.length) (by omega) hN1
 have hN3:=u3.lt (k:=H1.length) (by omega) hN2
 have hl2:=u2.len
 have hl3:=u3.len
 rw [Ll_,List.length_cons,List.length_nil] at hl2
 have u123:=u2.trans u3
 -- the value
 have hg3 : (H3.set H1.length (FO (row1 f)))[g]? = some (PO lx3 a c (.msl go v 0 (rs.length + 1) none)):=by rw [Ln_ (by omega)]; exact u3.at_
 obtain ⟨H4,lx4,p,q,r4,u4,s4⟩:=value_run (d:=d - 1) (by omega) f (gf:=H1.length) (by omega) hg3 (Ei (Bh hN3) _) s3
 have hl4:=u4.len
 rw [List.length_set] at hl4
 have keep : ∀ k,k < H.length→k ≠ g→H4[k]? = H[k]?:=fun k hk hn=>by
  rw [u4.ne k (by rw [List.length_set]; omega) hn (by omega),Ln_ (by omega),u123.ne k (by rw [Ll_]; omega) hn,Cg (by omega),u1.ne k hk hn]
 have h4o : H4[go]? = some (GO rs nm x l0 c0 v):=(keep go hol (by omega)).trans hO
 have hxl:=hF.len
 have hx256 : decide (((rows.length : Nat) : Int) ≥ 256) = false:=decide_eq_false (by omega)
 have hgsl : gs < H.length ∨ x = .Tk:=by
  rcases hF with ⟨h,_⟩ | ⟨vs,_,h⟩
  ·
   exact .inr h
  ·
   exact .inl (Bh h)
 have fin : ∀ (Z : List Sk) (mm : Nat),Z.length = mm + 1→Z[mm]? = some (FO (Gm f p))→H.length < mm→(∀ k,k < H.length→k ≠ g→Z[k]? = H[k]?)→Z[g]? = some (PO lx4 a c (.msl go v 0 (rs.length + 1) none)) →
   (∀ x' HY rd wt cr,Cf 48 16 128 0 x (.msl mm 0 0 1 none) ⟨Z,g⟩ = some (x',⟨HY,g⟩,true)→x'.val = true→Sv x' = false→x'.cells = [x']→Co x (.msl mm 0 0 1 none) x' true = ⟨true,some rd,some wt,cr,none⟩→HY[go]? = some (GO rs nm x l0 c0 v)→∀ lo,Bf LP NN d 52 [.ptr g 0 0 0] ⟨H,lo⟩ = some (.tup [],⟨HY.set go (GO rs nm x' l0 c0 v),min lo g⟩,true)) →
   ∃ H' lx' x' gs' p,(∀ lo,Bf LP NN d 52 [.ptr g 0 0 0] ⟨H,lo⟩ = some (.tup [],⟨H',min lo g⟩,true))∧H'[g]? = some (PO lx' a c (.msl go v 0 (rs.length + 1) none))∧H'[go]? = some (GO rs nm x' l0 c0 v)∧FL H' gs' x' (rows ++ [Gm f p])∧(gs' = gs ∨ H.length ≤ gs')∧H.length ≤ H'.length∧∀ k,k < H.length→k ≠ g→k ≠ go→(k ≠ gs ∨ x = .Tk)→H'[k]? = H[k]?:=by
  intro Z mm hZl hZr hmm hZk hZg hrun
  obtain ⟨x',HY,gs',rd,wt,cr,ha,hv,hp,hc,hf,hFL,hgs',hlen,hkeep⟩:=hF.app (Z:=Z) (g:=g) hgs hZl hZr (hgsl.imp (by omega) id) (fun vs h hn=>by
   rcases hgsl with h1 | h1
   ·
    rw [hZk gs h1 (by omega)]; exact h
   ·
    exact absurd h1 hn) hrows
  have hYo : HY[go]? = some (GO rs nm x l0 c0 v):=by
   rw [hkeep go (by omega) (.inl (Ne.symm hne)),hZk go hol (by omega)]; exact hO
  have hYg : HY[g]? = some (PO lx4 a c (.msl go v 0 (rs.length + 1) none)):=by
   rw [hkeep g (by omega) (.inl (by omega))]; exact hZg
  refine ⟨_,lx4,x',gs',p,hrun x' HY rd wt cr ha hv hp hc hf hYo,by rw [Ln_ (by omega)]; exact hYg,Ei (Bh hYo) _,?_,?_,by rw [List.length_set]; omega,fun k hk h1 h2 h3=>?_⟩
  ·
   rcases hFL with h | ⟨vs,h1,h2⟩
   ·
    exact .inl h
   ·
    refine .inr ⟨vs,h1,?_⟩
    rw [Ln_ ?_]; exact h2
    rcases hgs' with e | e<;>rw [e]
    ·
     exact Ne.symm hne
    ·
     omega
  ·
   rcases hgs' with e | e
   ·
    exact .inl e
   ·
    exact .inr (by omega)
  ·
   rw [Ln_ (Ne.symm h2),hkeep k (by omega) h3,hZk k hk h1]
 by_cases hk1 : f.kind = 1
 ·
  have e3 : Gm f p = [.int .i64 (f.line : Nat),.int .i64 (f.column : Nat),.int .u8 1,.sl 1 (Be f.text) none] ++ Dt false f.size ++ [.Tk]:=(if_pos hk1).trans (if_pos hk1)
  have e2 : row2 f p = [.int .i64 (f.line : Nat),.int .i64 (f.column : Nat),.int .u8 1,.sl 1 (Be f.text) none] ++ Dt false f.size ++ [.Tk]:=if_pos hk1
  have h4f:=u4.at2
  rw [e2] at h4f
  simp only [hk1,if_true] at r4
  refine fin (H4 ++ [Jf,FO (Gm f p)]) (H4.length + 1) (by simp) (Bu H4 _ 1) (by omega) (fun k hk hn=>by rw [Cg (by omega)]; exact keep k hk hn) (by rw [Cg (Bh u4.at1)]; exact u4.at1) (fun x' HY rd wt cr ha hv hp hc hf hYo lo=>?_)
  rw [e3] at ha
  exact field_lit hd hgo (by omega) hgl hrs hlo1 (fun d' e=>by subst e; exact r1) (fun d' e=>by subst e; exact r2) (fun d' e=>by subst e; exact r3) hN2 hN3 (fun d' e=>by subst e; exact r4) u4.at1 s4 h4f h4o (fun d' e S=>by rw [← e3]; exact J5 f p (by omega) S) hxl hx256 ha hv hp hc hf hYo lo
 ·
  have e3 : Gm f p = [.int .i64 (f.line : Nat),.int .i64 (f.column : Nat),.int .u8 (f.kind : Nat),.Tk] ++ Dt f.nu f.size ++ [.sl 5 [tkR 1 ⟨#[78]⟩ p 12] (some 1)]:=if_neg hk1
  have e2 : row2 f p = [.int .i64 (f.line : Nat),.int .i64 (f.column : Nat),.int .u8 (f.kind : Nat),.Tk] ++ shp0 ++ [.sl 5 [tkR 1 ⟨#[78]⟩ p 12] (some 1)]:=if_neg hk1
  have h4f:=u4.at2
  rw [e2] at h4f
  simp only [hk1,if_false] at r4
  have hlf:=Bh h4f
  refine fin (H4.set H1.length (FO (Gm f p)) ++ [tkO 4 f.pic q 12,⟨46,11,[Dt f.nu f.size],0,0,false⟩,FO (Gm f p)]) (H4.length + 2) (by simp) (by have e:=Bu (H4.set H1.length (FO (Gm f p))) [tkO 4 f.pic q 12,⟨46,11,[Dt f.nu f.size],0,0,false⟩,FO (Gm f p)] 2; rw [List.length_set] at e; exact e) (by omega) (fun k hk hn=>by rw [Pv (by omega) (by omega)]; exact keep k hk hn) (by rw [Pv (Bh u4.at1) (by omega)]; exact u4.at1) (fun x' HY rd wt cr ha hv hp hc hf hYo lo=>?_)
  rw [e3] at ha
  exact field_pic hd hgo (by omega) hgl hrs hlo1 (fun d' e=>by subst e; exact r1) (fun d' e=>by subst e; exact r2) (fun d' e=>by subst e; exact r3) hN2 hN3 hk1 (fun d' e=>by subst e; exact r4) u4.at1 s4 h4f h4o (fun d' e S=>by rw [← e3]; exact J5 f p (by omega) S) hxl hx256 ha hv hp hc hf hYo lo

set_option maxRecDepth 10000
theorem loopN_mono {f : List D→St→Option (Sr × List D × St)} : ∀ {k : Nat} {env : List D} {S : St} {r : Sr × List D × St},Gp f k env S = some r→Gp f (k + 1) env S = some r
 | 0,env,S,r,h=>by simp [Gp] at h
 | k + 1, env, S, r, h => by
  rw [Gp] at h ⊢
  cases e : f env S with
  | none=>rw [e] at h; simp at h
  | some x =>
   obtain ⟨ex,env1,S1⟩:=x
   rw [e] at h
   cases ex with
   | normal=>exact loopN_mono h
   | ret=>exact h
   | exit i=>exact h
def CL (call : Bi) (k : Nat) (c : Sq) (Q : Sr→List D→St→Prop) (env : List D) (S : St) : Prop:=∃ e env' S',Gp (Bn call NN c) k env S = some (e,env',S')∧Q e env' S'
theorem loopN_le {f : List D→St→Option (Sr × List D × St)} {k : Nat} {env : List D} {S : St} {r : Sr × List D × St} (h : Gp f k env S = some r) (j : Nat) : Gp f (k + j) env S = some r:=by
 induction j with
 | zero=>exact h
 | succ j ih=>exact loopN_mono ih
section
variable {call : Bi} {Q : Sr→List D→St→Prop} {env env' : List D} {S : St} {c : Sq} {k : Nat}
def LuK (call : Bi) (k : Nat) (c : Sq) (Q : Sr→List D→St→Prop) : Sr→List D→St→Prop
 | .normal,env,S=>CL call k c Q env S
 | e,env,S=>Q e env S
theorem lu_n (h : env = env') (h2 : CL call k c Q env' S) : LuK call k c Q .normal env S:=by subst h; exact h2
theorem lu_e {i : Nat} (h : Q (.exit i) env S) : LuK call k c Q (.exit i) env S:=h
theorem Ps (h : CW call c (LuK call k c Q) env S) : CL call (k + 1) c Q env S:=by
 obtain ⟨e,env',S',h1,h2⟩:=h
 unfold CL
 simp only [Gp,h1]
 cases e with
 | normal=>exact h2
 | ret=>exact ⟨_,_,_,rfl,h2⟩
 | exit i=>exact ⟨_,_,_,rfl,h2⟩
theorem cw_unroll (h : CL call 1000 c Q env S) : CW call (.loop c) Q env S:=by
 obtain ⟨e,env',S',h1,h2⟩:=h
 refine ⟨e,env',S',?_,h2⟩
 simp only [Bn]
 have:=loopN_le h1 (18446744073709551616 - 1000)
 exact this
end
def CutK (I : List D→St→Prop) : Sr→List D→St→Prop
 | .normal,env,S=>I env S
 | _,_,_=>False
theorem ck_n {I : List D→St→Prop} {env env' : List D} {S : St} (h : env = env') (h2 : I env' S) : CutK I .normal env S:=by subst h; exact h2
theorem cw_cut {call : Bi} {Q : Sr→List D→St→Prop} {env : List D} {S : St} {a b : Sq} (I : List D→St→Prop) (h1 : CW call a (CutK I) env S) (h2 : ∀ env S,I env S→CW call b Q env S) : CW call (.seq a b) Q env S:=by
 refine Aj (cw_mono h1 ?_)
 intro e env' S' h
 cases e with
 | normal=>exact h2 env' S' h
 | ret=>exact h.elim
 | exit i=>exact h.elim
theorem cw_dfr {call : Bi} {Q : Sr→List D→St→Prop} {env env' : List D} {S : St} {x : Sn} {f : FuncId} {caps : List D} (hc : opd [] env x = .fn f caps) (he : env ++ [.fn f caps] = env') (h : Q .normal env' S) : CW call (.dfr x) Q env S:=by
 subst he
 exact ⟨_,_,_,by simp only [Bn,hc],h⟩
def FinKD (L : Prg) (d : Nat) (f : FuncId) (F : Sl) (S : St) (x : D × St × Bool) : Sr→List D→St→Prop
 | .exit _,_,_=>False
 | _,env',S1=>∃ S2,I7 L.dfn (Bf L NN d) NN (env'.drop F.slots.length).reverse S1 = some S2∧∃ r0,Au env' S2 F.res = some r0∧leave (L.raw f) S r0 S2 = some x
theorem run_atD_ex {L : Prg} {d : Nat} {f : FuncId} {F : Sl} {args args' env0 : List D} {S : St} {P : D × St × Bool→Prop} (hF : L.fns f = some F) (ha : (if L.raw f then some args else Ar S.heap.length S.heap args) = some args') (hl : args'.length = F.nargs) (hp : (L.pure f && args'.all D.Sy) = false) (he : (F.slots.map fun s=>args'.getD s .undef) = env0) (hd : 0 < d)
  (hb : ∀ d',d = d' + 1→CW (Bf L NN d') F.body (fun e env' S1=>∃ x,P x∧FinKD L d' f F S x e env' S1) env0 ⟨S.heap,S.heap.length⟩) (hdp : L.deep f = false:=by rfl) (hE : L.ext f args = none:=by rfl) (hds : L.dfs f = true:=by rfl) : ∃ x,P x∧Bf L NN d f args S = some x:=by
 subst he
 obtain ⟨d',rfl⟩ : ∃ d',d = d' + 1:=⟨d - 1,by omega⟩
 obtain ⟨e,env',S1,h1,x,hP,h2⟩:=hb d' rfl
 refine ⟨x,hP,?_⟩
 simp only [Bf,behind,hds,hE,hF,ha,hl,hp,ne_eq,not_true_eq_false,if_false,if_true,Bool.false_eq_true,h1,hdp]
 cases e with
 | exit i=>exact h2.elim
 | normal =>
  obtain ⟨S2,h3,r0,h4,h5⟩:=h2
  simp only [h3,h4]
  exact h5
 | ret =>
  obtain ⟨S2,h3,r0,h4,h5⟩:=h2
  simp only [h3,h4]
  exact h5
theorem run_at_ex {L : Prg} {d : Nat} {f : FuncId} {F : Sl} {args args' env0 : List D} {S : St} {P : D × St × Bool→Prop} (hF : L.fns f = some F) (ha : (if L.raw f then some args else Ar S.heap.length S.heap args) = some args') (hl : args'.length = F.nargs) (hp : (L.pure f && args'.all D.Sy) = false) (he : (F.slots.map fun s=>args'.getD s .undef) = env0) (hd : 0 < d)
  (hb : ∀ d',d = d' + 1→CW (Bf L NN d') F.body (fun e env' S1=>∃ x,P x∧FinK L f F S x e env' S1) env0 ⟨S.heap,S.heap.length⟩) (hdp : L.deep f = false:=by rfl) (hE : L.ext f args = none:=by rfl) (hds : L.dfs f = false:=by rfl) : ∃ x,P x∧Bf L NN d f args S = some x:=by
 obtain ⟨d',rfl⟩ : ∃ d',d = d' + 1:=⟨d - 1,by omega⟩
 obtain ⟨e,env',S1,h1,x,hP,h2⟩:=hb d' rfl
 refine ⟨x,hP,Dl hF ha hl hp he (by omega) (fun d'' e'=>?_) hdp hE hds⟩
 obtain rfl : d' = d'':=by omega
 subst he
 exact ⟨e,env',S1,h1,h2⟩
def nmO (nm : ByteArray) : Sk:=⟨9,1,[[.str nm]],0,0,false⟩
theorem FL.cell {H : List Sk} {gs : Nat} {x : D} {rows : List (List D)} (h : FL H gs x rows) : x.Tc = true:=by
 rcases h with ⟨rfl,rfl⟩ | ⟨vs,rfl,_⟩<;>rfl
theorem FL.snap {H : List Sk} {gs : Nat} {x : D} {rows : List (List D)} (h : FL H gs x rows) (m : Nat) (l : List Sk) : snap m (H ++ l) x = some x:=by
 rcases h with ⟨rfl,rfl⟩ | ⟨vs,rfl,ho⟩
 ·
  rfl
 ·
  rw [H5,Cg (Bh ho),ho]; simp

theorem find37 {d : Nat} (hd : 1 ≤ d) {H : List Sk} {r : Nat} {x : D} {nm nm' : ByteArray} {l c : Nat} (hR : H[r]? = some (nmO nm)) (hx : snap H.length H x = some x) (hc : x.Tc = true) (lo : Nat) :
  Bf LP NN d 37 [.agg [.str nm',x,.int .i64 (l : Nat),.int .i64 (c : Nat)],.ptr r 0 0 0] ⟨H,lo⟩ = some (.bool (nm'.toList == nm.toList),⟨H,lo⟩,false):=by
 have hrl:=Bh hR
 simp only [nmO] at hR
 refine Dl (F:=F37) rfl (by simp only [LP,Ar,Bw,zs,zm,hx]<;>exact rfl) rfl (by simp only [LP,zf,zm,Bool.and_false]; try rfl) (by simp only [F37,zv]<;>exact rfl) (by omega) ?_
 rintro d rfl
 refine Ad (Ab (by simp only [zl,zm,zc,hc]<;>exact rfl) ?_)
 refine Bj (Aa ?_)
 refine Af ?_
 refine Ad (xo0 ?_)
 refine xo5 ?_
 refine Ab (by simp only [zl,zm,zd,Ay,List.take,List.drop,hR,Cg hrl]<;>exact rfl) ?_
 refine xo2 ?_
 refine Ag rfl (Aa ?_)
 refine Af ?_
 refine Br ?_
 refine ⟨_,by simp only [F37,Au,Bz,Dn,zg]<;>exact rfl,?_⟩
 simp [leave,LP,S9,Sw,snap,D.Sz,D.Sy,D.free,D.Td]

theorem find36 {d : Nat} (hd : 3 ≤ d) {H : List Sk} {r go v : Nat} {x : D} {nm nm' : ByteArray} {l c : Nat} (hO : H[go]? = some (GO [] nm' x l c v)) (hR : H[r]? = some (nmO nm)) (hx : snap H.length H x = some x) (hc : x.Tc = true) (hne : (nm'.toList == nm.toList) = false) (lo : Nat) :
  Bf LP NN d 36 [.msl go v 0 1 none,.fn 37 [.ptr r 0 0 0]] ⟨H,lo⟩ = some (.int .i64 (-1),⟨H,lo⟩,false):=by
 simp only [GO,List.nil_append] at hO
 refine Dl (F:=F36) rfl (by simp only [LP,Ar,zs,zm,hO,show ((0 : Nat) = 1) = False from by decide,show ((0 : Nat) = 2) = False from by decide,and_false,or_self]<;>exact rfl) rfl (by simp only [LP,zf,zm]; try rfl) (by simp only [F36,zv]<;>exact rfl) (by omega) ?_
 rintro d rfl
 refine Ad (Bj ?_)
 refine Aa (Af ?_)
 refine Aj (Ad ?_)
 refine Ae rfl (Lc ?_)
 refine Bj (Aa ?_)
 refine Af ?_
 refine Av (cw_unroll ?_)
 refine Ps ?_
 refine Ad (xo2 ?_)
 refine Aa (Af ?_)
 refine Aj ?_
 skip
 refine E9 ?_
 refine Ap (Bt rfl (Aj (Av (Ad ?_))))
 refine Ae rfl (Ag rfl ?_)
 refine Aa (Af ?_)
 refine Ad (Ae rfl ?_)
 refine Ae rfl (Ae rfl ?_)
 refine Ab (by simp only [zl,zm,Cj,Int.toNat_zero,Int.le_refl,hO]<;>exact rfl) ?_
 refine Ab (by simp only [zl,zm,zd,Ay,List.take,List.drop,hO]<;>exact rfl) ?_
 refine Ab (by simp only [zo]; exact (find37 (by omega) hR hx hc _).trans (congrArg (fun b=>some (D.bool b,_,false)) hne)) ?_
 refine Aa (Af ?_)
 skip
 refine Cq ?_
 refine Ap (Eh (Bt rfl (Bc ?_)))
 refine xo2 ?_
 refine Ag rfl (Aa ?_)
 refine lu_n (by simp only [ze]<;>exact rfl) ?_
 refine Ps ?_
 refine Ad (xo2 ?_)
 refine Aa (Af ?_)
 refine Aj ?_
 skip
 refine Cq ?_
 refine Dq (H6 (lu_e (Ig (Bt rfl (Ad ?_)))))
 refine Bj (Aa ?_)
 refine Af ?_
 refine Br ?_
 refine ⟨_,by simp only [F36,Au,Bz,Dn,zg]<;>exact rfl,?_⟩
 simp [leave,LP,S9,Sw,snap,D.Sz,D.Sy,D.free,D.Td]

theorem find_one {d : Nat} (hd : 5 ≤ d) {H : List Sk} {go v gs : Nat} {x : D} {rows : List (List D)} {nm nm' : ByteArray} {l c : Nat} (hO : H[go]? = some (GO [] nm' x l c v)) (hF : FL H gs x rows) (hne : (nm'.toList == nm.toList) = false) (lo : Nat) :
  Bf LP NN d 12 [.msl go v 0 1 none,.str nm] ⟨H,lo⟩ = some (.tup [.int .i64 0,.int .i64 7],⟨H,lo⟩,false):=by
 have hol:=Bh hO
 have hO0:=hO
 have hc:=hF.cell
 have hx:=hF.snap
 simp only [GO,List.nil_append] at hO
 refine Dl (F:=F12) rfl (by simp only [LP,Ar,zs,zm,hO,show ((0 : Nat) = 1) = False from by decide,show ((0 : Nat) = 2) = False from by decide,and_false,or_self]<;>exact rfl) rfl (by simp only [LP,zf,zm,Bool.and_false]; try rfl) (by simp only [F12,zv]<;>exact rfl) (by omega) ?_
 rintro d rfl
 refine Ad (Ab (by simp only [zl,zm,zc]<;>exact rfl) ?_)
 refine Bj (Bj ?_)
 refine Aa (Af ?_)
 refine Ad (Ae rfl ?_)
 refine xo1 ?_
 refine Ab (by simp only [zo]; exact find36 (by omega) (by rw [Cg hol]; exact hO0) (Di H _) (by rw [Ll_]; exact hx _ _) hc hne _) ?_
 refine Ag rfl (Aa ?_)
 refine Af ?_
 refine Aj (Ad ?_)
 refine Ae rfl (Ab (by simp only [zo,Bo,Int.reduceLT]<;>exact rfl) ?_)
 refine Aa (Af ?_)
 skip
 refine E9 ?_
 refine Ad (Bj ?_)
 refine Bj (Aa ?_)
 refine Af ?_
 refine Br (Gc ?_)
 refine ⟨_,by simp only [F12,Au,Bz,Dn,zg,zm]<;>exact rfl,?_⟩
 simp [leave,LP,S9,Sw,snap,D.Sz,D.Sy,D.free,D.Td,Ar]

section
variable (d : Nat) (S : St) (s : ByteArray)
theorem find_nil : Da LP NN (d + 5) 12 [.Tk,.str s] S = some (.tup [.int .i64 0,.int .i64 7],S,false):=by kernel_rfl
end
theorem find_nils {d : Nat} (hd : 5 ≤ d) (S : St) (s : ByteArray) : Bf LP NN d 12 [.Tk,.str s] S = some (.tup [.int .i64 0,.int .i64 7],S,false):=by
 obtain ⟨d,rfl⟩ : ∃ d',d = d' + 5:=⟨d - 5,by omega⟩
 exact fast_ok (find_nil d S s)

def SO (nm : ByteArray) (l c : Nat) : Sk:=⟨36,4,[[.str nm,.Tk,.int .i64 (l : Nat),.int .i64 (c : Nat)]],0,0,false⟩

theorem read_one {H : List Sk} {g m e : Nat} {row : List D} (h : H[m]? = some ⟨e,4,[row],0,0,false⟩) : Dj ⟨H,g⟩ 4 (.msl m 0 0 1 none) = some [row]:=by simp [Dj,rowsOf,h]

theorem Q6 {d : Nat} (hd : 6 ≤ d) {H H1 HY : List Sk} {g a c n l0 c0 : Nat} {ox ox' lx1 : D} {nm : ByteArray} {rd wt : List Nat} {cr : Bool} (hgl : g < H.length)
  (h1 : ∀ d',d = d' + 1→Bf LP NN d' 89 [.ptr g 0 0 0,.int .u8 1,.Tk] ⟨H,H.length⟩ = some (.agg (tkR 1 nm l0 c0),⟨H1,g⟩,true)) (h1g : H1[g]? = some (PO lx1 a c ox)) (hlx : SlD 5 [] lx1)
  (hwd : ∀ d',d = d' + 1→∀ S,Bf LP NN d' 92 [.str nm] S = some (.int .u8 0,S,false))
  (h3 : ∀ d',d = d' + 1→Bf LP NN d' 12 [ox,.str nm] ⟨H1 ++ [tkO 1 nm l0 c0],g⟩ = some (.tup [.int .i64 0,.int .i64 7],⟨H1 ++ [tkO 1 nm l0 c0],g⟩,false))
  (hxl : Iw false ox = some (.int .i64 (n : Nat))) (hx64 : decide (((n : Nat) : Int) ≥ 64) = false)
  (hap : Cf 36 4 56 0 ox (.msl (H1.length + 1) 0 0 1 none) ⟨H1 ++ [tkO 1 nm l0 c0,SO nm a c],g⟩ = some (ox',⟨HY,g⟩,true)) (hxv : ox'.val = true) (hpv : Sv ox' = false) (hxc : ox'.cells = [ox']) (hfa : Co ox (.msl (H1.length + 1) 0 0 1 none) ox' true = ⟨true,some rd,some wt,cr,none⟩) (hYg : HY[g]? = some (PO lx1 a c ox)) (lo : Nat) :
  Bf LP NN d 51 [.ptr g 0 0 0] ⟨H,lo⟩ = some (.tup [],⟨HY.set g (PO lx1 a c ox'),min lo g⟩,true):=by
 have hg1:=Bh h1g
 have ieq1 : ¬ g = H1.length:=by omega
 have ieq2 : ¬ H1.length = g:=by omega
 have ieq3 : ¬ g = H1.length + 1:=by omega
 have ieq4 : ¬ H1.length + 1 = g:=by omega
 have ieq:=And.intro ieq1 (And.intro ieq2 (And.intro ieq3 ieq4))
 have hN2 : (0 : Nat) = 0:=rfl
 have hN3:=hN2
 have hw0:=hN2
 have hmg : min g H1.length = g:=by omega
 have hmg2 : min g (H1.length + 1) = g:=by omega
 have hmg3 : min g g = g:=by omega
 have hng : ¬ H.length ≤ g:=by omega
 have hl1:=hlx.len
 simp only [PO,tkO,tkR,SO] at h1 h1g h3 hap hYg
 refine Dl (F:=F51) rfl (by simp only [LP,Ar,zs]<;>exact rfl) rfl (by simp only [LP,zf,zm]; try rfl) (by simp only [F51,zv]<;>exact rfl) (by omega) ?_
 rintro d rfl
 have zz4:=And.intro h1g (And.intro hl1 (And.intro hw0 (And.intro hxl (And.intro hx64 (And.intro @Bu (And.intro @Di (And.intro hmg (And.intro hmg2 (And.intro hmg3 (And.intro hYg (And.intro hxv (hxc))))))))))))
 refine Ad (Ae rfl ?_)
 refine xo1 ?_
 refine xo0 ?_
 refine Ab (by simp only [zo]; exact h1 d rfl) ?_
 refine Ab (by simp only [zl,zm,Nat.reduceAdd]<;>exact rfl) ?_
 refine Ab (by simp only [zl,zm,Bq,overlay,Bw,zs,zc,zf,List.take,List.drop,Nat.reduceAdd,zz4]<;>exact rfl) ?_
 refine Aa (Af ?_)
 refine Aj (Ad ?_)
 refine Ae rfl (xo1 ?_)
 refine xo0 ?_
 refine xo0 ?_
 refine Ab (by simp only [zl,zm,zd,Ay,List.take,List.drop,Cg hg1,Nat.reduceAdd,zz4]<;>exact rfl) ?_
 refine Ab (by simp only [zo,zz4]<;>exact rfl) ?_
 refine xo2 ?_
 refine Aa (Af ?_)
 skip
 refine Cq ?_
 refine Ap (Bt rfl (Aj (Ad ?_)))
 refine xo0 ?_
 refine xo21 ?_
 refine Ab (by simp only [zo]; exact hwd d rfl _) ?_
 refine xo2 ?_
 refine Aa (Af ?_)
 skip
 refine Cq ?_
 refine Ap (Bt rfl (Aj (Aj ?_)))
 refine Ez ?_
 refine Cc rfl rfl (xo7 rfl rfl ?_)
 refine xo3 rfl rfl ?_
 refine Ca (by simp only [zl,zm,zd,Ay,List.take,List.drop,Cg hg1,Nat.reduceAdd,zz4]<;>exact rfl) (by simp only [Bd,zo,zq]<;>exact rfl) (by first | rfl | (simp [show ob 7 3 = [true,true,true] from rfl,Sv,Ao,Am,Bp,Al,Ba,dj,Ak,Ai,Az,Bg,Cb,hfa,Bv,ieq]; done) | (simp [show ob 7 3 = [true,true,true] from rfl,Sv,Ao,Am,Bp,Al,Ba,dj,Ak,Ai,Az,Bg,Cb,hfa,Bv,ieq,Cs,Aq,Cn,Cx,Dy,hN2,hN3]; done)) ?_
 refine xo3 rfl rfl ?_
 refine Ca (by simp only [zl,zm,zd,Ay,List.take,List.drop,Nat.reduceAdd,zz4]<;>exact rfl) (by simp only [Bd,zo,zq]<;>exact rfl) (by first | rfl | (simp [show ob 16 5 = [true,false,false,false,false] from rfl,Sv,Ao,Am,Bp,Al,Ba,dj,Ak,Ai,Az,Bg,Cb,hfa,Bv,ieq]; done) | (simp [show ob 16 5 = [true,false,false,false,false] from rfl,Sv,Ao,Am,Bp,Al,Ba,dj,Ak,Ai,Az,Bg,Cb,hfa,Bv,ieq,Cs,Aq,Cn,Cx,Dy,hN2,hN3]; done)) ?_
 refine Ca (by simp only [zo]; exact h3 d rfl) (by simp only [Bd,zo,zq]<;>exact rfl) (by first | rfl | (simp [show ob 63 6 = [true,true,true,true,true,true] from rfl,Sv,Ao,Am,Bp,Al,Ba,dj,Ak,Ai,Az,Bg,Cb,hfa,Bv,ieq]; done) | (simp [show ob 63 6 = [true,true,true,true,true,true] from rfl,Sv,Ao,Am,Bp,Al,Ba,dj,Ak,Ai,Az,Bg,Cb,hfa,Bv,ieq,Cs,Aq,Cn,Cx,Dy,hN2,hN3]; done)) ?_
 refine Ee rfl rfl (xo26 rfl rfl ?_)
 refine xo27 rfl rfl ?_
 refine Ee rfl rfl (Ee rfl rfl ?_)
 refine De ?_
 refine Af ?_
 refine Ad (Ae rfl ?_)
 refine xo2 ?_
 refine Aa (Af ?_)
 skip
 refine Cq ?_
 refine Ap (Bt rfl (Aj (Ad ?_)))
 refine Ae rfl (xo1 ?_)
 refine xo0 ?_
 refine Ab (by simp only [zl,zm,zd,Ay,List.take,List.drop,Cg hg1,Nat.reduceAdd,zz4]<;>exact rfl) ?_
 refine Ab (by simp only [zo,zz4]<;>exact rfl) ?_
 refine xo16 ?_
 refine Aa (Af ?_)
 skip
 refine Cq ?_
 refine Ap (Bt rfl ?_)
 refine Ez ?_
 refine Cc rfl rfl (Cc rfl rfl ?_)
 refine xo7 rfl rfl ?_
 refine xo3 rfl rfl ?_
 refine Ca (by simp only [zl,zm,zd,Ay,List.take,List.drop,Cg hg1,Nat.reduceAdd,zz4]<;>exact rfl) (by simp only [Bd,zo,zq]<;>exact rfl) (by first | rfl | (simp [show ob 14 4 = [true,true,true,false] from rfl,Sv,Ao,Am,Bp,Al,Ba,dj,Ak,Ai,Az,Bg,Cb,hfa,Bv,ieq]; done) | (simp [show ob 14 4 = [true,true,true,false] from rfl,Sv,Ao,Am,Bp,Al,Ba,dj,Ak,Ai,Az,Bg,Cb,hfa,Bv,ieq,Cs,Aq,Cn,Cx,Dy,hN2,hN3]; done)) ?_
 refine xo3 rfl rfl ?_
 refine Ca (by simp only [zl,zm,zd,Ay,List.take,List.drop,Nat.reduceAdd,zz4]<;>exact rfl) (by simp only [Bd,zo,zq]<;>exact rfl) (by first | rfl | (simp [show ob 32 6 = [true,false,false,false,false,false] from rfl,Sv,Ao,Am,Bp,Al,Ba,dj,Ak,Ai,Az,Bg,Cb,hfa,Bv,ieq]; done) | (simp [show ob 32 6 = [true,false,false,false,false,false] from rfl,Sv,Ao,Am,Bp,Al,Ba,dj,Ak,Ai,Az,Bg,Cb,hfa,Bv,ieq,Cs,Aq,Cn,Cx,Dy,hN2,hN3]; done)) ?_
 refine Cc rfl rfl (xo7 rfl rfl ?_)
 refine xo3 rfl rfl ?_
 refine xo3 rfl rfl ?_
 refine Ca (by simp only [zl,zm,zd,Ay,List.take,List.drop,Cg hg1,Nat.reduceAdd,zz4]<;>exact rfl) (by simp only [Bd,zo,zq]<;>exact rfl) (by first | rfl | (simp [show ob 1920 11 = [true,true,true,true,false,false,false,false,false,false,false] from rfl,Sv,Ao,Am,Bp,Al,Ba,dj,Ak,Ai,Az,Bg,Cb,hfa,Bv,ieq]; done) | (simp [show ob 1920 11 = [true,true,true,true,false,false,false,false,false,false,false] from rfl,Sv,Ao,Am,Bp,Al,Ba,dj,Ak,Ai,Az,Bg,Cb,hfa,Bv,ieq,Cs,Aq,Cn,Cx,Dy,hN2,hN3]; done)) ?_
 refine Ce (by simp only [zo,Hd,overlay,zc,List.take,List.drop,Nat.reduceAdd,Nat.reduceLeDiff,zm,Nat.reduceAdd]<;>exact rfl) rfl rfl ?_
 refine Ca (by simp only [zl,zm,Cw,List.replicate,Ar,Bw,zs,zc,zf,Nat.reduceAdd]<;>exact rfl) (by simp only [Bd,zo,zq]<;>exact rfl) (by first | rfl | (simp [show ob 8160 13 = [true,true,true,true,true,true,true,true,false,false,false,false,false] from rfl,Sv,Ao,Am,Bp,Al,Ba,dj,Ak,Ai,Cb,ieq]; done) | (simp [show ob 8160 13 = [true,true,true,true,true,true,true,true,false,false,false,false,false] from rfl,Sv,Ao,Am,Bp,Al,Ba,dj,Ak,Ai,Az,Bg,Cb,hfa,Bv,ieq,Cs,Aq,Cn,Cx,Dy,hN2,hN3]; done)) ?_
 refine Ca (by simp only [Aw,aop,LOp.loud,lop,if_true,opd,zv]; exact hap) (by simp only [Bd,zo,zq]<;>exact rfl) (by first | rfl | (simp [show ob 16382 14 = [true,true,true,true,true,true,true,true,true,true,true,true,true,false] from rfl,Sv,Ao,Am,Bp,Al,Ba,dj,Ak,Ai,Cb,hfa]; done) | (simp [show ob 16382 14 = [true,true,true,true,true,true,true,true,true,true,true,true,true,false] from rfl,Sv,Ao,Am,Bp,Al,Ba,dj,Ak,Ai,Az,Bg,Cb,hfa,Bv,ieq,Cs,Aq,Cn,Cx,Dy,hN2,hN3]; done)) ?_
 refine xo7 rfl rfl ?_
 refine xo3 rfl rfl ?_
 refine Ca (by simp only [zl,zm,Bq,overlay,List.take,List.drop,Nat.reduceAdd,zz4]<;>exact rfl) (by simp only [Bd,zo,zq,hpv]<;>exact rfl) (by first | rfl | (simp [show ob 131071 17 = [true,true,true,true,true,true,true,true,true,true,true,true,true,true,true,true,true] from rfl,Sv,Ao,Am,Bp,Al,Ba,dj,Ak,Ai,Cb,hfa]; done) | (simp [show ob 131071 17 = [true,true,true,true,true,true,true,true,true,true,true,true,true,true,true,true,true] from rfl,Sv,Ao,Am,Bp,Al,Ba,dj,Ak,Ai,Cb,hfa,Aq]; done)) ?_
 refine De ?_
 simp only [ze]
 refine ⟨_,by simp only [F51,Au,Bz,zm]<;>exact rfl,?_⟩
 simp [leave,LP,S9,hng,Ar,PO]

theorem screen_run1 {d : Nat} (hd : 16 ≤ d) {H : List Sk} {g a c m : Nat} {lx : D} {nm : ByteArray} (hH : H[g]? = some (PO lx a c .Tk)) (hL : SlD 5 (El m [(1,nm)]) lx) (hwd : ∀ d',14 ≤ d'→∀ S,Bf LP NN d' 92 [.str nm] S = some (.int .u8 0,S,false)) :
  ∃ H' lx' go,(∀ lo,Bf LP NN d 51 [.ptr g 0 0 0] ⟨H,lo⟩ = some (.tup [],⟨H',min lo g⟩,true))∧H'[g]? = some (PO lx' a c (.msl go 0 0 1 none))∧H'[go]? = some (GO [] nm .Tk a c 0)∧H.length ≤ go∧H.length ≤ H'.length∧∀ k,k < H.length→k ≠ g→H'[k]? = H[k]?:=by
 have hgl:=Bh hH
 have hmin : min H.length g = g:=by omega
 have r1:=Hz (d:=d - 1) (kd:=1) (by omega) hH (Em hL) (texts:=[]) (.nil 1) (by simp) (Pf 1 _) H.length
 rw [hmin] at r1
 have u:=Upd.of hgl (PO (Dr 1 lx) a c .Tk) [tkO 1 nm m 12,tkO 1 nm m 12]
 generalize hH1 : (H.set g (PO (Dr 1 lx) a c .Tk) ++ [tkO 1 nm m 12,tkO 1 nm m 12]) = H1 at r1 u
 have s1 : SlD 5 [] (Dr 1 lx):=Fx hL
 have hlt:=u.len
 have hg1:=Bh u.at_
 have hap : Cf 36 4 56 0 .Tk (.msl (H1.length + 1) 0 0 1 none) ⟨H1 ++ [tkO 1 nm m 12,SO nm a c],g⟩ = some (.msl (H1.length + 2) 0 0 1 none,⟨(H1 ++ [tkO 1 nm m 12,SO nm a c]) ++ [GO [] nm .Tk a c 0],g⟩,true):=by
  have hr : (H1 ++ [tkO 1 nm m 12,SO nm a c])[H1.length + 1]? = some (SO nm a c):=Bu H1 _ 1
  have hread : Dj ⟨H1 ++ [tkO 1 nm m 12,SO nm a c],g⟩ 4 (.msl (H1.length + 1) 0 0 1 none) = some [[.str nm,.Tk,.int .i64 (a : Nat),.int .i64 (c : Nat)]]:=read_one hr
  simp [Cf,hread,Bl,newAt,GO]
 have hYg : ((H1 ++ [tkO 1 nm m 12,SO nm a c]) ++ [GO [] nm .Tk a c 0])[g]? = some (PO (Dr 1 lx) a c .Tk):=by rw [Cg (by rw [Ll_]; omega),Cg hg1]; exact u.at_
 refine ⟨((H1 ++ [tkO 1 nm m 12,SO nm a c]) ++ [GO [] nm .Tk a c 0]).set g (PO (Dr 1 lx) a c (.msl (H1.length + 2) 0 0 1 none)),Dr 1 lx,H1.length + 2,fun lo=>?_,Ei (Bh hYg) _,?_,by omega,by simp; omega,fun k hk hn=>?_⟩
 ·
  exact Q6 (n:=0) (by omega) hgl (fun d' e=>by subst e; exact r1) u.at_ s1 (fun d' e S=>hwd d' (by omega) S) (fun d' e=>find_nils (by omega) _ nm) rfl rfl hap rfl rfl rfl (rd:=[H1.length + 1]) (wt:=[H1.length + 2]) (cr:=true) (by simp [Co,Bv]) hYg lo
 ·
  rw [Ln_ (by omega)]; simp
 ·
  rw [Ln_ (Ne.symm hn),Cg (by rw [Ll_]; omega),Cg (by omega)]; exact u.ne k hk hn
theorem screen_run2 {d : Nat} (hd : 16 ≤ d) {H : List Sk} {g go gs a c m v l0 c0 : Nat} {lx x : D} {nm nm' : ByteArray} {rows : List (List D)} (hgo : g < go) (hgs : gs ≠ g ∨ x = .Tk) (hH : H[g]? = some (PO lx a c (.msl go v 0 1 none))) (hO : H[go]? = some (GO [] nm' x l0 c0 v)) (hF : FL H gs x rows) (hne : (nm'.toList == nm.toList) = false) (hL : SlD 5 (El m [(1,nm)]) lx) (hwd : ∀ d',14 ≤ d'→∀ S,Bf LP NN d' 92 [.str nm] S = some (.int .u8 0,S,false)) :
  ∃ H' lx',(∀ lo,Bf LP NN d 51 [.ptr g 0 0 0] ⟨H,lo⟩ = some (.tup [],⟨H',min lo g⟩,true))∧H'[g]? = some (PO lx' a c (.msl go (v + 1) 0 2 none))∧H'[go]? = some (GO [[.str nm',x,.int .i64 (l0 : Nat),.int .i64 (c0 : Nat)]] nm .Tk a c (v + 1))∧H.length ≤ H'.length∧∀ k,k < H.length→k ≠ g→k ≠ go→H'[k]? = H[k]?:=by
 have hgl:=Bh hH
 have hol:=Bh hO
 have hmin : min H.length g = g:=by omega
 have r1:=Hz (d:=d - 1) (kd:=1) (by omega) hH (Em hL) (texts:=[]) (.nil 1) (by simp) (Pf 1 _) H.length
 rw [hmin] at r1
 have u:=Upd.of hgl (PO (Dr 1 lx) a c (.msl go v 0 1 none)) [tkO 1 nm m 12,tkO 1 nm m 12]
 generalize hH1 : (H.set g (PO (Dr 1 lx) a c (.msl go v 0 1 none)) ++ [tkO 1 nm m 12,tkO 1 nm m 12]) = H1 at r1 u
 have s1 : SlD 5 [] (Dr 1 lx):=Fx hL
 have hlt:=u.len
 have hg1:=Bh u.at_
 have h1o : H1[go]? = some (GO [] nm' x l0 c0 v):=u.lt (by omega) hO
 have hF1 : FL H1 gs x rows:=by
  rcases hF with h | ⟨vs,h1,h2⟩
  ·
   exact .inl h
  ·
   refine .inr ⟨vs,h1,u.lt ?_ h2⟩
   rcases hgs with h | h
   ·
    exact h
   ·
    rw [h] at h1; cases h1
 have hF2 : FL (H1 ++ [tkO 1 nm m 12]) gs x rows:=by
  rcases hF1 with h | ⟨vs,h1,h2⟩
  ·
   exact .inl h
  ·
   exact .inr ⟨vs,h1,by rw [Cg (Bh h2)]; exact h2⟩
 have h2o : (H1 ++ [tkO 1 nm m 12,SO nm a c])[go]? = some (GO [] nm' x l0 c0 v):=by rw [Cg (Bh h1o)]; exact h1o
 have hap : Cf 36 4 56 0 (.msl go v 0 1 none) (.msl (H1.length + 1) 0 0 1 none) ⟨H1 ++ [tkO 1 nm m 12,SO nm a c],g⟩ = some (.msl go (v + 1) 0 2 none,⟨(H1 ++ [tkO 1 nm m 12,SO nm a c]).set go (GO [[.str nm',x,.int .i64 (l0 : Nat),.int .i64 (c0 : Nat)]] nm .Tk a c (v + 1)),g⟩,true):=by
  have hr : (H1 ++ [tkO 1 nm m 12,SO nm a c])[H1.length + 1]? = some (SO nm a c):=Bu H1 _ 1
  have hread : Dj ⟨H1 ++ [tkO 1 nm m 12,SO nm a c],g⟩ 4 (.msl (H1.length + 1) 0 0 1 none) = some [[.str nm,.Tk,.int .i64 (a : Nat),.int .i64 (c : Nat)]]:=read_one hr
  have hmg : min g go = g:=by omega
  simp only [GO] at h2o
  simp [Cf,hread,Bl,rowsOf,h2o,setAt,GO,hmg]
 have hYg : ((H1 ++ [tkO 1 nm m 12,SO nm a c]).set go (GO [[.str nm',x,.int .i64 (l0 : Nat),.int .i64 (c0 : Nat)]] nm .Tk a c (v + 1)))[g]? = some (PO (Dr 1 lx) a c (.msl go v 0 1 none)):=by rw [Ln_ (by omega),Cg hg1]; exact u.at_
 refine ⟨((H1 ++ [tkO 1 nm m 12,SO nm a c]).set go (GO [[.str nm',x,.int .i64 (l0 : Nat),.int .i64 (c0 : Nat)]] nm .Tk a c (v + 1))).set g (PO (Dr 1 lx) a c (.msl go (v + 1) 0 2 none)),Dr 1 lx,fun lo=>?_,Ei (Bh hYg) _,?_,by simp; omega,fun k hk hn hn2=>?_⟩
 ·
  exact Q6 (n:=1) (by omega) hgl (fun d' e=>by subst e; exact r1) u.at_ s1 (fun d' e S=>hwd d' (by omega) S) (fun d' e=>find_one (by omega) (by rw [Cg (Bh h1o)]; exact h1o) hF2 hne g) rfl rfl hap rfl rfl rfl (rd:=[go,H1.length + 1]) (wt:=[go]) (cr:=false) (by simp [Co,Bv]) hYg lo
 ·
  rw [Ln_ (by omega),Ei (Bh h2o)]
 ·
  rw [Ln_ (Ne.symm hn),Ln_ (Ne.symm hn2),Cg (by omega)]; exact u.ne k hk hn

theorem entry_scr {d : Nat} (hd : 3 ≤ d) {H H1 H2 : List Sk} {g a0 c0 a c n : Nat} {ox lx0 lx : D} {rows : List (List D)} (hH : H[g]? = some (PO lx0 a0 c0 ox)) (hL : SlD 5 rows lx) (hn : n = 1)
  (h5 : ∀ d',d = d' + 1→Bf LP NN d' 50 [.ptr g 0 0 0] ⟨H.set g (PO lx a c ox) ++ [⟨29,2,[[.int .i64 (a : Nat),.int .i64 (c : Nat)]],0,0,false⟩],g⟩ = some (.int .i64 (n : Nat),⟨H1,g⟩,true))
  (h6 : ∀ d',d = d' + 1→Bf LP NN d' 51 [.ptr g 0 0 0] ⟨H1,g⟩ = some (.tup [],⟨H2,g⟩,true)) (lo : Nat) :
  Bf LP NN d 29 [.ptr g 0 0 0,lx,.agg [.int .i64 (a : Nat),.int .i64 (c : Nat)]] ⟨H,lo⟩ = some (.tup [],⟨H2,min lo g⟩,true):=by
 have hgl:=Bh hH
 have ieq1 : ¬ g = H.length:=by omega
 have ieq2 : ¬ H.length = g:=by omega
 have hng : ¬ H.length ≤ g:=by omega
 have hmg : min H.length g = g:=by omega
 have hmg2 : min g g = g:=by omega
 have hSg : ∀ l x,(H.set g x ++ l)[g]? = some x:=fun l x=>by rw [Cg (by simpa using hgl)]; exact Ei hgl x
 have hSg2 : ∀ l x y,(H.set g x ++ l).set g y = H.set g y ++ l:=fun l x y=>by rw [G7 (by simpa using hgl),List.set_set]
 have hl1 : (((n : Nat) : Int) == 1) = true:=by rw [beq_iff_eq]; omega
 have hl2 : decide (((n : Nat) : Int) ≥ 2) = false:=decide_eq_false (by omega)
 have hl3 : decide (((n : Nat) : Int) ≤ 49) = true:=decide_eq_true (by omega)
 simp only [PO] at hH h5
 refine Dl (F:=F29) rfl (by simp only [LP,Ar,Bw,zs,zm,hL.Sw]<;>exact rfl) rfl (by simp only [LP,zf,zm,hL.Sy,Bool.and_false]; try rfl) (by simp only [F29,zv]<;>exact rfl) (by omega) ?_
 rintro d rfl
 have zz4:=And.intro hH (And.intro @Bu (And.intro @Di (And.intro hSg (And.intro hSg2 (And.intro hL.Tc (And.intro hL.val (And.intro hL.cells (And.intro hmg (And.intro hmg2 (And.intro hl1 (And.intro hl2 (hl3))))))))))))
 refine Ad (Ab (by simp only [zl,zm,zc]<;>exact rfl) ?_)
 refine Aa (Af ?_)
 refine Aj (Ez ?_)
 refine Cc rfl rfl (Cc rfl rfl ?_)
 refine Cc rfl rfl (Cr (by simp only [zl,zm,zd,Ay,List.take,List.drop,zz4]<;>exact rfl) rfl ?_)
 refine xo7 rfl rfl ?_
 refine xo3 rfl rfl ?_
 refine xo3 rfl rfl ?_
 refine Ca (by simp only [zl,zm,Bq,overlay,List.take,List.drop,Cg hgl,G7 hgl,zz4]<;>exact rfl) (by simp only [Bd,zo,zq,hL.Sv]<;>exact rfl) (by simp [show ob 117 7 = [true,true,true,false,true,false,true] from rfl,Am,Bp,Al,Ba,dj,Ak,Ai,ieq1]) ?_
 refine xo7 rfl rfl ?_
 refine xo3 rfl rfl ?_
 refine xo3 rfl rfl ?_
 refine Cr (by simp only [zl,zm,Bq,overlay,Bw,zs,zc,zf,List.take,List.drop,zz4]<;>exact rfl) rfl ?_
 refine De ?_
 refine Af ?_
 refine Ad (Ae rfl ?_)
 refine xo1 ?_
 refine xo0 ?_
 refine Ab (by simp only [zo]; exact h5 d rfl) ?_
 refine Ag rfl (Aa ?_)
 refine Af ?_
 refine Av (Ad ?_)
 refine Ae rfl (xo16 ?_)
 refine Ag rfl (Aa ?_)
 refine Af ?_
 skip
 refine E9 ?_
 refine Bc (Ae rfl ?_)
 refine Ab (by simp only [zo]; exact h6 d rfl) ?_
 refine Aa (Eh ?_)
 simp only [ze]
 refine ⟨_,by simp only [F29,Au,Bz]<;>exact rfl,?_⟩
 simp [leave,LP,S9,hng,Ar]

theorem entry_fld {d : Nat} (hd : 3 ≤ d) {H H1 H2 : List Sk} {g a0 c0 a c n : Nat} {ox lx0 lx : D} {rows : List (List D)} (hH : H[g]? = some (PO lx0 a0 c0 ox)) (hL : SlD 5 rows lx) (hn : 2 ≤ n∧n ≤ 49)
  (h5 : ∀ d',d = d' + 1→Bf LP NN d' 50 [.ptr g 0 0 0] ⟨H.set g (PO lx a c ox) ++ [⟨29,2,[[.int .i64 (a : Nat),.int .i64 (c : Nat)]],0,0,false⟩],g⟩ = some (.int .i64 (n : Nat),⟨H1,g⟩,true))
  (h6 : ∀ d',d = d' + 1→Bf LP NN d' 52 [.ptr g 0 0 0] ⟨H1,g⟩ = some (.tup [],⟨H2,g⟩,true)) (lo : Nat) :
  Bf LP NN d 29 [.ptr g 0 0 0,lx,.agg [.int .i64 (a : Nat),.int .i64 (c : Nat)]] ⟨H,lo⟩ = some (.tup [],⟨H2,min lo g⟩,true):=by
 have hgl:=Bh hH
 have ieq1 : ¬ g = H.length:=by omega
 have ieq2 : ¬ H.length = g:=by omega
 have hng : ¬ H.length ≤ g:=by omega
 have hmg : min H.length g = g:=by omega
 have hmg2 : min g g = g:=by omega
 have hSg : ∀ l x,(H.set g x ++ l)[g]? = some x:=fun l x=>by rw [Cg (by simpa using hgl)]; exact Ei hgl x
 have hSg2 : ∀ l x y,(H.set g x ++ l).set g y = H.set g y ++ l:=fun l x y=>by rw [G7 (by simpa using hgl),List.set_set]
 have hl1 : (((n : Nat) : Int) == 1) = false:=by rw [beq_eq_false_iff_ne]; omega
 have hl2 : decide (((n : Nat) : Int) ≥ 2) = true:=decide_eq_true (by omega)
 have hl3 : decide (((n : Nat) : Int) ≤ 49) = true:=decide_eq_true (by omega)
 simp only [PO] at hH h5
 refine Dl (F:=F29) rfl (by simp only [LP,Ar,Bw,zs,zm,hL.Sw]<;>exact rfl) rfl (by simp only [LP,zf,zm,hL.Sy,Bool.and_false]; try rfl) (by simp only [F29,zv]<;>exact rfl) (by omega) ?_
 rintro d rfl
 have zz5:=And.intro hH (And.intro @Bu (And.intro @Di (And.intro hSg (And.intro hSg2 (And.intro hL.Tc (And.intro hL.val (And.intro hL.cells (And.intro hmg (And.intro hmg2 (And.intro hl1 (And.intro hl2 (hl3))))))))))))
 refine Ad (Ab (by simp only [zl,zm,zc]<;>exact rfl) ?_)
 refine Aa (Af ?_)
 refine Aj (Ez ?_)
 refine Cc rfl rfl (Cc rfl rfl ?_)
 refine Cc rfl rfl (Cr (by simp only [zl,zm,zd,Ay,List.take,List.drop,zz5]<;>exact rfl) rfl ?_)
 refine xo7 rfl rfl ?_
 refine xo3 rfl rfl ?_
 refine xo3 rfl rfl ?_
 refine Ca (by simp only [zl,zm,Bq,overlay,List.take,List.drop,Cg hgl,G7 hgl,zz5]<;>exact rfl) (by simp only [Bd,zo,zq,hL.Sv]<;>exact rfl) (by simp [show ob 117 7 = [true,true,true,false,true,false,true] from rfl,Am,Bp,Al,Ba,dj,Ak,Ai,ieq1]) ?_
 refine xo7 rfl rfl ?_
 refine xo3 rfl rfl ?_
 refine xo3 rfl rfl ?_
 refine Cr (by simp only [zl,zm,Bq,overlay,Bw,zs,zc,zf,List.take,List.drop,zz5]<;>exact rfl) rfl ?_
 refine De ?_
 refine Af ?_
 refine Ad (Ae rfl ?_)
 refine xo1 ?_
 refine xo0 ?_
 refine Ab (by simp only [zo]; exact h5 d rfl) ?_
 refine Ag rfl (Aa ?_)
 refine Af ?_
 refine Av (Ad ?_)
 refine Ae rfl (xo22 ?_)
 refine Ag rfl (Aa ?_)
 refine Af ?_
 skip
 refine Cq ?_
 refine Ad (Ae rfl ?_)
 refine xo22 ?_
 refine Ag rfl (Ch 0 (b:=true) ?_)
 refine Ah rfl (Ae rfl ?_)
 refine Ah rfl (xo22 ?_)
 refine xo1 ?_
 refine Ag rfl (Aa ?_)
 refine Af ?_
 skip
 refine E9 ?_
 refine Bc (Ae rfl ?_)
 refine Ab (by simp only [zo]; exact h6 d rfl) ?_
 refine Aa (Eh ?_)
 simp only [ze]
 refine ⟨_,by simp only [F29,Au,Bz]<;>exact rfl,?_⟩
 simp [leave,LP,S9,hng,Ar]

theorem per_run {d : Nat} (hd : 2 ≤ d) (S : St) (k l c : Nat) (s : ByteArray) : Bf LP NN d 28 [.agg (tkR k s l c)] S = some (.bool ((k : Int) == 6),S,false):=by
 refine run_pure (F:=F28) rfl (by simp only [LP,Ar,Bw,zs,zm,tkR]<;>exact rfl) rfl (by simp only [LP,zf,zm]; try rfl) (by simp only [F28,zv]<;>exact rfl) (by omega) ?_
 rintro d rfl
 refine Ad (Ab (by simp only [zl,zm,zc]<;>exact rfl) ?_)
 refine Bj (Aa ?_)
 refine Af ?_
 refine Ad (xo0 ?_)
 refine xo5 ?_
 refine xo2 ?_
 refine Ag rfl (Aa ?_)
 refine Af ?_
 refine Br ?_
 refine ⟨_,by simp only [F28,Au,Bz,Dn,zg]<;>exact rfl,?_⟩
 simp only [Dx,leave,zs,zf,zk]

theorem posR_at {m : Nat} {l : List (Nat × ByteArray)} {i : Nat} (h : i < l.length) : (El m l)[i]? = some (tkR l[i].1 l[i].2 (m + i) 12):=by simp [El,h]

theorem index27_run {d : Nat} (hd : 4 ≤ d) (S : St) {x : D} {m : Nat} {l : List (Nat × ByteArray)} (hS : SlD 5 (El m l) x) (hl : l.length ≤ 1000000) :
  Bf LP NN d 27 [x,.fn 28 []] S = some (.int .i64 (idxI (fun x : Nat × ByteArray=>((x.1 : Int) == 6)) l),S,false):=by
 refine run_pure (F:=F27) rfl (by simp only [LP,Ar,zs,hS.Sw]<;>exact rfl) rfl (by simp only [LP,zf,zm,hS.Sy]; try rfl) (by simp only [F27,zv]<;>exact rfl) (by omega) ?_
 rintro d rfl
 refine Ad (Bj ?_)
 refine Aa (Af ?_)
 refine Aj (Ad ?_)
 refine Ae rfl (Ab (by simp only [zo,hS.len,Ej]<;>exact rfl) ?_)
 refine Bj (Aa ?_)
 refine Af ?_
 refine Av ?_
 refine D5 (fun n env S'=>∃ (i : Nat) (u3 u6 u7 : D),i ≤ l.length∧n = l.length - i∧((l.take i).any fun x=>((x.1 : Int) == 6)) = false∧S' = ⟨[],0⟩∧env = [x,.fn 28 [],.int .i64 0,u3,.int .i64 l.length,.int .i64 i,u6,u7]) (l.length) (by omega) (⟨0,_,_,_,by omega,by omega,by simp,rfl,rfl⟩) ?_
 rintro n env S' ⟨i,u3,u6,u7,hi,rfl,hany,rfl,rfl⟩
 have h0 : (0 : Int) ≤ (i : Int):=by omega
 refine Ad (xo2 ?_)
 refine Aa (Af ?_)
 refine Aj ?_
 refine Cm (by simp only [opd,zv]<;>exact rfl) (fun hcA=>?_) (fun hcA=>?_)
 ·
  have hlt : i < l.length:=by have:=of_decide_eq_true hcA; omega
  have hw:=Du i (by omega)
  have hx:=Lg hlt
  have hia:=fun (S : St)=>hS.iaddrN S .i64 (posR_at (m:=m) hlt)
  refine Ap (Bt rfl (Aj (Av (Ad ?_))))
  refine Ae rfl (Ag rfl ?_)
  refine Aa (Af ?_)
  refine Ad (Ae rfl ?_)
  refine Ae rfl (Ae rfl ?_)
  refine Ab (by simp only [zl,zm,hia,tkR]<;>exact rfl) ?_
  refine xo5 ?_
  refine Ab (by simp only [zo]; exact per_run (by omega) _ _ _ _ _) ?_
  refine Aa (Af ?_)
  refine Cm (by simp only [opd,zv]<;>exact rfl) (fun hcAT=>?_) (fun hcAT=>?_)
  ·
   refine Ad (Ae rfl ?_)
   refine Ag rfl (Aa ?_)
   refine Af ?_
   refine Br (Hr (Gc (lk_r (Hr (Gc ?_)))))
   refine ⟨_,by simp only [F27,Au,Bz,Dn,zg]<;>exact rfl,?_⟩
   rw [idxI_at (p:=fun x : Nat × ByteArray=>((x.1 : Int) == 6)) hlt hcAT hany]; rfl
  ·
   refine Ap (Eh (Bt rfl (Bc ?_)))
   refine Ab (by simp only [zo,Bo,hw]<;>exact rfl) ?_
   refine Ag rfl (Aa ?_)
   refine Gr (by simp only [ze]<;>exact rfl) ?_
   exact ⟨l.length - (i + 1),by omega,i + 1,_,_,_,by omega,rfl,any_take_succ hlt hany hcAT,rfl,rfl⟩
 ·
  have hge : l.length ≤ i:=by have:=of_decide_eq_false hcA; omega
  refine Dq (H6 (Iz (Ig (Bt rfl (Ad ?_)))))
  refine Bj (Aa ?_)
  refine Af ?_
  refine Br ?_
  refine ⟨_,by simp only [F27,Au,Bz,Dn,zg]<;>exact rfl,?_⟩
  rw [List.take_of_length_le hge] at hany
  rw [Qh hany]; rfl

theorem idxI_app {α : Type} {p : α→Bool} {e L : List α} {t : α} (he : e.any p = false) (ht : p t = true) : idxI p (e ++ t :: L) = (e.length : Nat):=by
 refine idxI_at (by simp) (by simp [ht]) (by simp [he])
def takeD (n : Nat) : D→D
 | .sl s rows cap=>.sl s (rows.take n) cap
 | x=>x
theorem SlD.take {sz : Nat} {rows : List (List D)} {x : D} (h : SlD sz rows x) (n : Nat) : SlD sz (rows.take n) (takeD n x):=by
 rcases h with ⟨rfl,rfl⟩ | ⟨c,rfl⟩
 ·
  simp [takeD,SlD.nil]
 ·
  exact .of _ _ _
theorem SlD.slice_hi {sz : Nat} {rows : List (List D)} {x : D} (h : SlD sz rows x) (S : St) (k : IntKind) {n : Nat} (hn : n ≤ rows.length) : D8 S sz x none (some (.int k n)) none = some (takeD n x):=by
 rcases h with ⟨rfl,rfl⟩ | ⟨c,rfl⟩
 ·
  simp only [List.length_nil,Nat.le_zero] at hn
  subst hn
  simp [D8,Cz,Fe,Eb,takeD]
 ·
  cases c<;>simp [D8,Cz,Fe,Eb,takeD,hn]
theorem posR_take (m n : Nat) (l : List (Nat × ByteArray)) : (El m l).take n = El m (l.take n):=by
 refine List.ext_getElem? fun i=>?_
 rw [List.getElem?_take]
 simp only [El,List.getElem?_mapIdx,List.getElem?_take]
 split<;>rfl
theorem posR_drop (m n : Nat) (l : List (Nat × ByteArray)) : (El m l).drop n = El (m + n) (l.drop n):=by
 refine List.ext_getElem? fun i=>?_
 rw [List.getElem?_drop]
 simp only [El,List.getElem?_mapIdx,List.getElem?_drop]
 cases l[n + i]?<;>simp [Nat.add_assoc]
def RW (l : List FM) (rows : List (List D)) : Prop:=∃ ps : List Nat,ps.length = l.length∧rows = List.zipWith Gm l ps
theorem RW.nil : RW [] []:=⟨[],rfl,rfl⟩
theorem RW.snoc {l : List FM} {rows : List (List D)} (h : RW l rows) (f : FM) (p : Nat) : RW (l ++ [f]) (rows ++ [Gm f p]):=by
 obtain ⟨ps,h1,rfl⟩:=h
 exact ⟨ps ++ [p],by simp [h1],by rw [List.zipWith_append (by omega)]; rfl⟩
theorem RW.len {l : List FM} {rows : List (List D)} (h : RW l rows) : rows.length = l.length:=by
 obtain ⟨ps,h1,rfl⟩:=h
 simp [h1]
theorem RW.at_ {l : List FM} {rows : List (List D)} (h : RW l rows) {i : Nat} (hi : i < l.length) : ∃ p,rows[i]? = some (Gm l[i] p):=by
 obtain ⟨ps,h1,rfl⟩:=h
 exact ⟨ps[i]'(by omega),by simp [h1,hi]⟩
structure P0 (B H : List Sk) : Prop where
 o0 : H[B.length]? = some ⟨26,1,[[.Tk]],0,0,false⟩
 o1 : H[B.length + 1]? = some ⟨31,3,[[.int .i64 0,.int .i64 0,.int .i64 0]],0,0,false⟩
 fr : ∀ k,k < B.length→H[k]? = B[k]?
theorem P0.keep {B H H' : List Sk} (h : P0 B H) (hk : ∀ k,k < B.length + 2→H'[k]? = H[k]?) : P0 B H':=⟨(hk _ (by omega)).trans h.o0,(hk _ (by omega)).trans h.o1,fun k hl=>(hk k (by omega)).trans (h.fr k hl)⟩
def nmA : ByteArray:=⟨#[65]⟩
def nmB : ByteArray:=⟨#[66]⟩
def PA (B H : List Sk) (l : List FM) : Prop:=∃ lx a c go gs x rows,H[B.length + 2]? = some (PO lx a c (.msl go 0 0 1 none))∧H[go]? = some (GO [] nmA x 1 12 0)∧FL H gs x rows∧RW l rows∧B.length + 2 < go∧B.length + 2 < gs∧gs ≠ go
def PB (B H : List Sk) (la l : List FM) : Prop:=∃ lx a c go ga gs xa x lb ra rows,H[B.length + 2]? = some (PO lx a c (.msl go 1 0 2 none))∧H[go]? = some (GO [[.str nmA,xa,.int .i64 ((1 : Nat) : Int),.int .i64 ((12 : Nat) : Int)]] nmB x lb 12 1)∧FL H ga xa ra∧FL H gs x rows∧RW la ra∧RW l rows∧B.length + 2 < go∧B.length + 2 < ga∧B.length + 2 < gs∧gs ≠ go∧ga ≠ go∧ga ≠ gs
inductive PI (B : List Sk) (a b : List FM) : List (Nat × ByteArray)→List Sk→Prop
 | start {H : List Sk} : P0 B H→H[B.length + 2]? = some (PO .Tk 0 0 .Tk)→PI B a b (Hm a b) H
 | first {H : List Sk} {i : Nat} : P0 B H→i ≤ a.length→PA B H (a.take i)→PI B a b (G5 (a.drop i) ++ Hg nmB ++ G5 b) H
 | second {H : List Sk} {i : Nat} : P0 B H→i ≤ b.length→PB B H a (b.take i)→PI B a b (G5 (b.drop i)) H
theorem tokL_any (f : FM) : (Ji f).any (fun x : Nat × ByteArray=>((x.1 : Int) == 6)) = false:=by
 unfold Ji
 split<;>split<;>(try split)<;>rfl
theorem Qp (f : FM) (l : List FM) : G5 (f :: l) = Ji f ++ Sb :: G5 l:=by simp [G5]
theorem Qq {l : List FM} {i : Nat} (h : i < l.length) : l.drop i = l[i] :: l.drop (i + 1):=List.drop_eq_getElem_cons h
theorem take_e {m : Nat} {e L : List (Nat × ByteArray)} {t : Nat × ByteArray} {x : D} (hx : SlD 5 (El m (e ++ t :: L)) x) : SlD 5 (El m e) (takeD e.length x):=by
 have h:=hx.take e.length
 rwa [posR_take,List.take_left'] at h
 rfl
theorem Na {d : Nat} (hd : 7 ≤ d) {H : List Sk} {g m a0 c0 n : Nat} {lx0 lx ox : D} {T : List (Nat × ByteArray)} (hn : n < 100) (hH : H[g]? = some (PO lx0 a0 c0 ox)) (hL : SlD 5 (El m ((2,Fu n) :: T)) lx) :
  ∃ H1 lx1,Bf LP NN d 50 [.ptr g 0 0 0] ⟨H.set g (PO lx m 12 ox) ++ [⟨29,2,[[.int .i64 (m : Nat),.int .i64 ((12 : Nat) : Int)]],0,0,false⟩],g⟩ = some (.int .i64 (n : Nat),⟨H1,g⟩,true)∧H1[g]? = some (PO lx1 m 12 ox)∧SlD 5 (El (m + 1) T) lx1∧H.length ≤ H1.length∧∀ k,k < H.length→k ≠ g→H1[k]? = H[k]?:=by
 have u1:=Upd.of (Bh hH) (PO lx m 12 ox) [⟨29,2,[[.int .i64 (m : Nat),.int .i64 ((12 : Nat) : Int)]],0,0,false⟩]
 have r:=number_at hd hn u1.at_ (Em hL) g
 rw [Nat.min_self] at r
 have u:=u1.trans (Upd.of (Bh u1.at_) (PO (Dr 1 lx) m 12 ox) [tkO 2 (Fu n) m 12,tkO 2 (Fu n) m 12,tkO 2 (Fu n) m 12])
 exact ⟨_,_,r,u.at_,Fx hL,u.len,u.ne⟩
theorem FL.keep {H H' : List Sk} {gs : Nat} {x : D} {rows : List (List D)} (h : FL H gs x rows) (hk : gs < H.length→H'[gs]? = H[gs]?) : FL H' gs x rows:=by
 rcases h with h | ⟨vs,h1,h2⟩
 ·
  exact .inl h
 ·
  exact .inr ⟨vs,h1,(hk (Bh h2)).trans h2⟩
theorem PI_step {d : Nat} (hd : 20 ≤ d) {a b : List FM} (ha : a.length ≤ 20) (hb : b.length ≤ 20) {L : List (Nat × ByteArray)} {B H : List Sk} (h : PI B a b L H) (hL : L ≠ []) {x : D} {m : Nat} (hm : L = Hm a b→m = 1) (hx : SlD 5 (El m L) x) :
  ∃ e L' H',L = e ++ Sb :: L'∧e.any (fun x : Nat × ByteArray=>((x.1 : Int) == 6)) = false∧Bf LP NN d 29 [.ptr (B.length + 2) 0 0 0,takeD e.length x,.agg [.int .i64 (m : Nat),.int .i64 ((12 : Nat) : Int)]] ⟨H,B.length⟩ = some (.tup [],⟨H',B.length⟩,true)∧PI B a b L' H'∧e ≠ []:=by
 have hlt : ∀ {H : List Sk},(∃ o,H[B.length + 2]? = some o)→B.length + 2 < H.length:=fun ⟨_,h⟩=>Bh h
 have hmin : min B.length (B.length + 2) = B.length:=by omega
 cases h with
 | start h0 h2 =>
  have:=hm rfl
  subst this
  have eL : Hm a b = [(2,Fu 1),(1,nmA)] ++ Sb :: (G5 a ++ Hg nmB ++ G5 b):=by simp [Hm,Hg,nmA,nmB]
  rw [eL] at hx
  have se:=take_e hx
  obtain ⟨H1,lx1,r1,g1,s1,l1,n1⟩:=Na (d:=d - 1) (by omega) (by omega) h2 se
  obtain ⟨H',lx',go,r2,g2,o2,hgo,l2,n2⟩:=screen_run1 (d:=d - 1) (by omega) g1 s1 (fun d' hd' S=>wordA_run (by omega) S)
  have:=r2 (B.length + 2)
  rw [Nat.min_self] at this
  have hw:=hlt ⟨_,g1⟩
  have h2l:=hlt ⟨_,h2⟩
  refine ⟨_,_,H',eL,rfl,by have:=entry_scr (d:=d) (by omega) h2 se rfl (fun d' e=>by subst e; exact r1) (fun d' e=>by subst e; exact this) B.length; rwa [hmin] at this,?_,by simp⟩
  have:=PI.first (B:=B) (a:=a) (b:=b) (i:=0) (h0.keep fun k hk=>by rw [n2 k (by omega) (by omega),n1 k (by omega) (by omega)]) (Nat.zero_le _) ⟨lx',1,12,go,go + 1,.Tk,[],g2,o2,.inl ⟨rfl,rfl⟩,by rw [List.take_zero]; exact .nil,by omega,by omega,by omega⟩
  rwa [List.drop_zero] at this
 | @first _ i h0 hi hA =>
  obtain ⟨lx,a0,c0,go,gs,xf,rows,h2,ho,hF,hR,hgo,hgs,hne⟩:=hA
  have h2l:=hlt ⟨_,h2⟩
  have hol:=Bh ho
  by_cases hia : i < a.length
  ·
   have eL : G5 (a.drop i) ++ Hg nmB ++ G5 b = Ji a[i] ++ Sb :: (G5 (a.drop (i + 1)) ++ Hg nmB ++ G5 b):=by
    rw [Qq hia,Qp]; simp
   rw [eL] at hx
   have se:=take_e hx
   have se':=se
   rw [Sc] at se'
   obtain ⟨H1,lx1,r1,g1,s1,l1,n1⟩:=Na (d:=d - 1) (by omega) (by omega) h2 se'
   have hrl:=hR.len
   rw [List.length_take] at hrl
   obtain ⟨H',lx',x',gs',p,r2,g2,o2,hF2,hg2,l2,n2⟩:=field_run (d:=d - 1) (by omega) (rs:=[]) hgo hgs hne (by simp) (by omega) g1 ((n1 go hol (by omega)).trans ho) (hF.keep fun h=>n1 gs h (by omega)) s1
   have:=r2 (B.length + 2)
   rw [Nat.min_self] at this
   refine ⟨_,_,H',eL,tokL_any _,by have:=entry_fld (d:=d) (n:=5) (by omega) h2 se (by omega) (fun d' e=>by subst e; exact r1) (fun d' e=>by subst e; exact this) B.length; rwa [hmin] at this,?_,by rw [Sc]; simp⟩
   refine PI.first (B:=B) (i:=i + 1) (h0.keep fun k hk=>?_) hia ⟨lx',m,12,go,gs',x',rows ++ [Gm a[i] p],g2,o2,hF2,?_,hgo,?_,?_⟩
   ·
    rw [n2 k (by omega) (by omega) (by omega) (.inl (by omega)),n1 k (by omega) (by omega)]
   ·
    rw [List.take_succ_eq_append_getElem hia]; exact hR.snoc _ _
   ·
    rcases hg2 with e | e<;>omega
   ·
    rcases hg2 with e | e<;>omega
  ·
   have hia' : i = a.length:=by omega
   subst hia'
   have eL : G5 (a.drop a.length) ++ Hg nmB ++ G5 b = [(2,Fu 1),(1,nmB)] ++ Sb :: G5 b:=by simp [Hg,G5]
   rw [eL] at hx
   have se:=take_e hx
   obtain ⟨H1,lx1,r1,g1,s1,l1,n1⟩:=Na (d:=d - 1) (by omega) (by omega) h2 se
   obtain ⟨H',lx',r2,g2,o2,l2,n2⟩:=screen_run2 (d:=d - 1) (by omega) hgo (.inl (by omega)) g1 ((n1 go hol (by omega)).trans ho) (hF.keep fun h=>n1 gs h (by omega)) (by decide +kernel) s1 (fun d' hd' S=>wordB_run (by omega) S)
   have:=r2 (B.length + 2)
   rw [Nat.min_self] at this
   refine ⟨_,_,H',eL,rfl,by have:=entry_scr (d:=d) (by omega) h2 se rfl (fun d' e=>by subst e; exact r1) (fun d' e=>by subst e; exact this) B.length; rwa [hmin] at this,?_,by simp⟩
   rw [List.take_length] at hR
   have:=PI.second (B:=B) (a:=a) (b:=b) (i:=0) (h0.keep fun k hk=>by rw [n2 k (by omega) (by omega) (by omega),n1 k (by omega) (by omega)]) (Nat.zero_le _) ⟨lx',m,12,go,gs,go + gs + 3,xf,.Tk,m,rows,[],g2,o2,hF.keep fun h=>by rw [n2 gs (by omega) (by omega) hne,n1 gs h (by omega)],.inl ⟨rfl,rfl⟩,hR,by rw [List.take_zero]; exact .nil,hgo,hgs,by omega,by omega,hne,by omega⟩
   rwa [List.drop_zero] at this
 | @second _ i h0 hi hB =>
  obtain ⟨lx,a0,c0,go,ga,gs,xa,xf,lb,ra,rows,h2,ho,hFa,hF,hRa,hR,hgo,hga,hgs,hne,hnea,hng⟩:=hB
  have h2l:=hlt ⟨_,h2⟩
  have hol:=Bh ho
  have hib : i < b.length:=by
   refine Nat.lt_of_not_le fun h=>hL ?_
   rw [List.drop_eq_nil_of_le h]; rfl
  have eL : G5 (b.drop i) = Ji b[i] ++ Sb :: G5 (b.drop (i + 1)):=by rw [Qq hib,Qp]
  rw [eL] at hx
  have se:=take_e hx
  have se':=se
  rw [Sc] at se'
  obtain ⟨H1,lx1,r1,g1,s1,l1,n1⟩:=Na (d:=d - 1) (by omega) (by omega) h2 se'
  have hrl:=hR.len
  rw [List.length_take] at hrl
  obtain ⟨H',lx',x',gs',p,r2,g2,o2,hF2,hg2,l2,n2⟩:=field_run (d:=d - 1) (by omega) (rs:=[[.str nmA,xa,.int .i64 ((1 : Nat) : Int),.int .i64 ((12 : Nat) : Int)]]) hgo hgs hne (by simp) (by omega) g1 ((n1 go hol (by omega)).trans ho) (hF.keep fun h=>n1 gs h (by omega)) s1
  have:=r2 (B.length + 2)
  rw [Nat.min_self] at this
  refine ⟨_,_,H',eL,tokL_any _,by have:=entry_fld (d:=d) (n:=5) (by omega) h2 se (by omega) (fun d' e=>by subst e; exact r1) (fun d' e=>by subst e; exact this) B.length; rwa [hmin] at this,?_,by rw [Sc]; simp⟩
  have hRs : RW (b.take (i + 1)) (rows ++ [Gm b[i] p]):=by rw [List.take_succ_eq_append_getElem hib]; exact hR.snoc _ _
  have h0' : P0 B H':=h0.keep fun k hk=>by rw [n2 k (by omega) (by omega) (by omega) (.inl (by omega)),n1 k (by omega) (by omega)]
  have hgs' : B.length + 2 < gs'∧gs' ≠ go:=by rcases hg2 with e | e<;>omega
  rcases hFa with ⟨e1,e2⟩ | ⟨vs,e1,e2⟩
  ·
   exact PI.second (B:=B) (i:=i + 1) h0' hib ⟨lx',m,12,go,gs' + go + 1,gs',xa,x',lb,ra,_,g2,o2,.inl ⟨e1,e2⟩,hF2,hRa,hRs,hgo,by omega,hgs'.1,hgs'.2,by omega,by omega⟩
  ·
   have hal:=Bh e2
   refine PI.second (B:=B) (i:=i + 1) h0' hib ⟨lx',m,12,go,ga,gs',xa,x',lb,ra,_,g2,o2,.inr ⟨vs,e1,?_⟩,hF2,hRa,hRs,hgo,hga,hgs'.1,hgs'.2,hnea,?_⟩
   ·
    rw [n2 ga (by omega) (by omega) hnea (.inl hng),n1 ga hal (by omega)]; exact e2
   ·
    rcases hg2 with e | e<;>omega

def Ck : D→D
 | .msl g v lo n _=>.msl g v lo n (some n)
 | x=>x
theorem FL.clip_val {H : List Sk} {gs : Nat} {x : D} {rows : List (List D)} (h : FL H gs x rows) : (Ck x).val = true∧(Ck x).cells = [Ck x]:=by
 rcases h with ⟨rfl,rfl⟩ | ⟨vs,rfl,_⟩<;>exact ⟨rfl,rfl⟩

theorem clip30_nil {d : Nat} (hd : 1 ≤ d) (H : List Sk) (lo : Nat) : Bf LP NN d 30 [.Tk] ⟨H,lo⟩ = some (.Tk,⟨H,lo⟩,false):=by
 refine Dl (F:=F30) rfl (by simp only [LP,Ar,zs]<;>exact rfl) rfl (by simp only [LP,zf,zm]; try rfl) (by simp only [F30,zv]<;>exact rfl) (by omega) ?_
 rintro d rfl
 refine Ad (Bj ?_)
 refine Aa (Af ?_)
 refine Ad (Ae rfl ?_)
 refine Ae rfl (Ab (by simp only [zo,Nb]<;>exact rfl) ?_)
 refine Ae rfl (Ab (by simp only [zo,Nb]<;>exact rfl) ?_)
 refine Ab (by simp only [zl,Ci,D8,Cz,Fe,Eb]<;>exact rfl) ?_
 refine Ag rfl (Aa ?_)
 refine Af ?_
 refine Br ?_
 refine ⟨_,by simp only [F30,Au,Bz,Dn,zg]<;>exact rfl,?_⟩
 simp [leave,LP,S9,Sw,snap,D.Sz,D.Sy,D.free,D.Td]

theorem clip30_msl {d : Nat} (hd : 1 ≤ d) {H : List Sk} {gs vs : Nat} {rows : List (List D)} (h2 : H[gs]? = some ⟨48,16,rows,vs,0,true⟩) (lo : Nat) : Bf LP NN d 30 [.msl gs vs 0 rows.length none] ⟨H,lo⟩ = some (.msl gs vs 0 rows.length (some rows.length),⟨H,lo⟩,false):=by
 have hb : ∀ (n : Nat),(0 : Int) ≤ (n : Int):=fun n=>by omega
 refine Dl (F:=F30) rfl (by simp only [LP,Ar,zs,zm,h2,show ((0 : Nat) = 1) = False from by decide,show ((0 : Nat) = 2) = False from by decide,and_false,or_self]<;>exact rfl) rfl (by simp only [LP,zf,zm,Bool.and_false]; try rfl) (by simp only [F30,zv]<;>exact rfl) (by omega) ?_
 rintro d rfl
 refine Ad (Bj ?_)
 refine Aa (Af ?_)
 refine Ad (Ae rfl ?_)
 refine Ae rfl (Lc ?_)
 refine Ae rfl (Lc ?_)
 refine Ab (by simp only [zl,zm,Ci,D8,Fz,Cz,Fe,Eb,h2,hb,Int.toNat_natCast,Nat.zero_le,Nat.le_refl,Nat.sub_zero]<;>exact rfl) ?_
 refine Ag rfl (Aa ?_)
 refine Af ?_
 refine Br ?_
 refine ⟨_,by simp only [F30,Au,Bz,Dn,zg]<;>exact rfl,?_⟩
 simp [leave,LP,S9,Sw,snap,D.Sz,D.Sy,D.free,D.Td,h2]

theorem clip30_run {d : Nat} (hd : 1 ≤ d) {H : List Sk} {gs : Nat} {x : D} {rows : List (List D)} (h : FL H gs x rows) (lo : Nat) : Bf LP NN d 30 [x] ⟨H,lo⟩ = some (Ck x,⟨H,lo⟩,false):=by
 rcases h with ⟨rfl,rfl⟩ | ⟨vs,rfl,h2⟩
 ·
  exact clip30_nil hd H lo
 ·
  exact clip30_msl hd h2 lo

theorem clip31_run {d : Nat} (hd : 1 ≤ d) {H : List Sk} {go v : Nat} {rows : List (List D)} (h2 : H[go]? = some ⟨36,4,rows,v,0,true⟩) (lo : Nat) : Bf LP NN d 31 [.msl go v 0 2 none] ⟨H,lo⟩ = some (.msl go v 0 2 (some 2),⟨H,lo⟩,false):=by
 refine Dl (F:=F31) rfl (by simp only [LP,Ar,zs,zm,h2,show ((0 : Nat) = 1) = False from by decide,show ((0 : Nat) = 2) = False from by decide,and_false,or_self]<;>exact rfl) rfl (by simp only [LP,zf,zm,Bool.and_false]; try rfl) (by simp only [F31,zv]<;>exact rfl) (by omega) ?_
 rintro d rfl
 refine Ad (Bj ?_)
 refine Aa (Af ?_)
 refine Ad (Ae rfl ?_)
 refine Ae rfl (Lc ?_)
 refine Ae rfl (Lc ?_)
 refine Ab (by simp only [zl,zm,Ci,D8,Fz,Cz,Fe,Eb,h2]<;>exact rfl) ?_
 refine Ag rfl (Aa ?_)
 refine Af ?_
 refine Br ?_
 refine ⟨_,by simp only [F31,Au,Bz,Dn,zg]<;>exact rfl,?_⟩
 simp [leave,LP,S9,Sw,snap,D.Sz,D.Sy,D.free,D.Td,h2]

structure PF (a b : List FM) (B H : List Sk) (go ga gs : Nat) (xa xb : D) (lb : Nat) (ra rb : List (List D)) : Prop where
 len : B.length ≤ H.length
 fr : ∀ k,k < B.length→H[k]? = B[k]?
 ho : H[go]? = some ⟨36,4,[[.str nmA,Ck xa,.int .i64 ((1 : Nat) : Int),.int .i64 ((12 : Nat) : Int)],[.str nmB,Ck xb,.int .i64 ((lb : Nat) : Int),.int .i64 ((12 : Nat) : Int)]],1,0,true⟩
 fa : FL H ga xa ra
 fb : FL H gs xb rb
 wa : RW a ra
 wb : RW b rb
 hgo : B.length ≤ go
 hga : B.length ≤ ga
 hgs : B.length ≤ gs
 ne : ga ≠ go∧gs ≠ go∧ga ≠ gs

theorem parse_all {d : Nat} (hd : 22 ≤ d) (B : List Sk) (lo : Nat) (a b : List FM) (hla : a.length ≤ 20) (hlb : b.length ≤ 20) : ∃ r,(fun r=>∃ H' go ga gs xa xb lb ra rb,r = (.tup [.msl go 1 0 2 (some 2),.agg [.int .i64 0,.int .i64 0,.int .i64 0]],⟨H',min lo B.length⟩,true)∧PF a b B H' go ga gs xa xb lb ra rb) r∧Bf LP NN d 10 [.sl 5 (El 1 (Hm a b)) none] ⟨B,lo⟩ = some r:=by
 have hsl : (Hm a b).length ≤ 700:=by
  have h1:=J7 a
  have h2:=J7 b
  simp only [Hm,Hg,Ll_,List.length_cons,List.length_nil]; omega
 refine run_atD_ex (F:=F10) (P:=fun r=>∃ H' go ga gs xa xb lb ra rb,r = (.tup [.msl go 1 0 2 (some 2),.agg [.int .i64 0,.int .i64 0,.int .i64 0]],⟨H',min lo B.length⟩,true)∧PF a b B H' go ga gs xa xb lb ra rb) rfl (by simp only [LP,Ar,zs]<;>exact rfl) rfl (by simp only [LP,zf,zm]; try rfl) (by simp only [F10,zv]<;>exact rfl) (by omega) ?_
 rintro d rfl
 refine Ad (xo6 ?_)
 refine xo6 ?_
 refine Aa (Af ?_)
 refine Aj (Ad ?_)
 refine xo1 ?_
 refine Aa (Af ?_)
 refine cw_dfr (by simp only [opd,zv]<;>exact rfl) (by simp only [List.cons_append,List.nil_append]<;>exact rfl) ?_
 refine Bt rfl (Ad ?_)
 refine Ab (by simp only [zo,Hd,Nat.reduceAdd,zm]<;>exact rfl) ?_
 refine Ab (by simp only [zl,zm,zc]<;>exact rfl) ?_
 refine Ag rfl (Aa ?_)
 refine Af ?_
 refine Aj (Av ?_)
 refine D5 (fun n env S'=>∃ (L : List (Nat × ByteArray)) (H : List Sk) (m : Nat) (x0 u4 u5 u7 u8 u9 u10 u11 : D),S' = ⟨H,B.length⟩∧env = [x0,.ptr B.length 0 0 0,.ptr (B.length + 1) 0 0 0,.ptr (B.length + 2) 0 0 0,u4,u5,.fn 26 [.ptr B.length 0 0 0,.ptr (B.length + 1) 0 0 0],u7,u8,u9,u10,u11,.fn 26 [.ptr B.length 0 0 0,.ptr (B.length + 1) 0 0 0]]∧PI B a b L H∧SlD 5 (El m L) x0∧(L = Hm a b→m = 1)∧L.length ≤ (Hm a b).length∧n = L.length) ((Hm a b).length) (by omega) (⟨Hm a b,_,1,_,_,_,_,_,_,_,_,rfl,rfl,.start ⟨Bu B _ 0,Bu B _ 1,fun k hk=>Cg hk⟩ (Bu B _ 2),.of _ _ _,fun _=>rfl,by omega,rfl⟩) ?_
 rintro n env S' ⟨L,H,m,x0,u4,u5,u7,u8,u9,u10,u11,rfl,rfl,hPI,hx,hm1,hle,rfl⟩
 have hxl:=hx.len
 rw [Ej] at hxl
 refine Aj (Ad ?_)
 refine Ae rfl (Ab (by simp only [zo,hxl]<;>exact rfl) ?_)
 refine xo2 ?_
 refine Aa (Af ?_)
 refine Cm (by simp only [opd,zv]<;>exact rfl) (fun hcA=>?_) (fun hcA=>?_)
 ·
  have hL0 : L ≠ []:=by
   intro e
   have:=of_decide_eq_true hcA
   rw [e] at this; simp at this
  obtain ⟨e,L',H',eL,he,hr,hPI',hne⟩:=PI_step (d:=d) (by omega) hla hlb hPI hL0 hm1 hx
  have hel : L.length = e.length + (L'.length + 1):=by rw [eL]; simp
  have hlt' : L'.length < L.length:=by omega
  have hi : Bf LP NN d 27 [x0,.fn 28 []] ⟨H,B.length⟩ = some (.int .i64 (e.length : Nat),⟨H,B.length⟩,false):=by
   rw [index27_run (d:=d) (by omega) _ hx (by omega),eL,idxI_app (t:=Sb) he rfl]
  have hneg : decide (((e.length : Nat) : Int) < 0) = false:=decide_eq_false (by omega)
  have hsl:=fun S=>hx.slice_hi S .i64 (n:=e.length) (by rw [Ej]; omega)
  have h00 : 0 < L.length:=by omega
  have hia:=fun S=>hx.Ti S .i64 (i:=0) (by omega) (posR_at (m:=m) h00)
  have hw:=Du e.length (by omega)
  have hsd:=fun S=>hx.slice_lo S .i64 (n:=e.length + 1) (by rw [Ej]; omega)
  have hx' : SlD 5 (El (m + (e.length + 1)) L') (Dr (e.length + 1) x0):=by
   have h:=hx.drop (e.length + 1)
   rw [posR_drop,eL,show (e ++ Sb :: L').drop (e.length + 1) = L' from by rw [List.drop_append]; simp] at h
   exact h
  simp only [Nat.add_zero] at hia
  have zz2:=And.intro hneg (And.intro hsl (And.intro hia (And.intro hw (hsd))))
  refine Ap (Bt rfl (Av (Ad ?_)))
  refine Ae rfl (Ab (by simp only [zo]; exact hi) ?_)
  refine Ag rfl (Aa ?_)
  refine Af ?_
  refine Aj (Ad ?_)
  refine Ae rfl (Ns ?_)
  refine Aa (Af ?_)
  skip
  refine Cq ?_
  refine Ap (Bt rfl (Aj ?_))
  refine Ez ?_
  refine Cc rfl rfl (Cc rfl rfl ?_)
  refine Cc rfl rfl (Ca (by simp only [opd,zv,Aw,aop,LOp.loud,lop,if_true,Ci,Option.map_some,zz2]<;>exact rfl) (by simp only [Bd,zo,hx.fps]<;>exact rfl) rfl ?_)
  refine Cc rfl rfl (Ca (by simp only [zl,zm,tkR,zz2]<;>exact rfl) (by simp only [Bd,zo,hx.fpi]<;>exact rfl) rfl ?_)
  refine Ce (by simp only [zo,Ey,zm]<;>exact rfl) rfl rfl ?_
  refine xo8 rfl ?_
  refine Ca (by simp only [zo]; exact hr) (by simp only [Bd,zo,zq]<;>exact rfl) (by first | rfl | (generalize Sv (Ck xa) = t; cases t<;>rfl) | (generalize Sv (Ck xf) = t; cases t<;>rfl) | (simp [show ob 255 8 = [true,true,true,true,true,true,true,true] from rfl,Sv,Ao,Am,Bp,Al,Ba,dj,Ak,Ai,Az,Bg,ieq1,ieq2]; done)) ?_
  refine De ?_
  refine Af ?_
  refine Bc (Ae rfl ?_)
  refine Ae rfl (Ns ?_)
  refine Ab (by simp only [opd,zv,Aw,aop,LOp.loud,lop,if_true,Ci,Option.map_some,zz2]<;>exact rfl) ?_
  refine Ag rfl ?_
  refine Aa (Eh ?_)
  refine Gr (by simp only [ze]<;>exact rfl) ?_
  exact ⟨_,hlt',L',H',_,_,_,_,_,_,_,_,_,rfl,rfl,hPI',hx',fun e=>absurd (congrArg List.length e) (by omega),by omega,rfl⟩
 ·
  have hL0 : L = []:=by
   have:=of_decide_eq_false hcA
   exact List.length_eq_zero_iff.1 (by omega)
  obtain ⟨h0,hB⟩ : P0 B H∧PB B H a b:=by
   cases hPI with
   | start=>simp [Hm,Hg] at hL0
   | first=>simp [Hg] at hL0
   | @second _ i h0 hi hB =>
    have hbi : b.length ≤ i:=by
     refine Nat.le_of_not_lt fun h=>?_
     rw [Qq h,Qp] at hL0
     simp at hL0
    rw [List.take_of_length_le hbi] at hB
    exact ⟨h0,hB⟩
  obtain ⟨lx,a0,c0,go,ga,gs,xa,xf,lb,ra,rows,h2,ho,hFa,hF,hRa,hR,hgo,hga,hgs,hneo,hnea,hng⟩:=hB
  have h2l:=Bh h2
  have hol:=Bh ho
  obtain ⟨o0,o1,ofr⟩:=h0
  have hc1:=clip30_run (d:=d) (by omega) hFa B.length
  have hF1 : ∀ x,FL (H.set go x) gs xf rows:=fun x=>hF.keep fun h=>by rw [Ln_ (by omega)]
  have hc2:=fun x=>clip30_run (d:=d) (by omega) (hF1 x) B.length
  obtain ⟨v1,v2⟩:=hFa.clip_val
  obtain ⟨v3,v4⟩:=hF.clip_val
  have ieq1 : ¬ go = B.length + 2:=by omega
  have ieq2 : ¬ B.length + 2 = go:=by omega
  have n2 : (go = B.length + 2) = False:=eq_false (by omega)
  have n0 : (go = B.length) = False:=eq_false (by omega)
  have n1 : (go = B.length + 1) = False:=eq_false (by omega)
  have n3 : (B.length = B.length + 1) = False:=eq_false (by omega)
  have l0 : (go < H.length) = True:=eq_true hol
  have l1 : (B.length < H.length) = True:=eq_true (by omega)
  have l2 : (B.length + 1 < H.length) = True:=eq_true (by omega)
  have m1 : min B.length go = B.length:=by omega
  simp only [PO,GO,List.cons_append,List.nil_append] at h2 ho
  have zz3:=And.intro h2 (And.intro ho (And.intro @List.length_set.{0} (@List.set_set.{0})))
  refine Dq (H6 (Iz (Ig (Bt rfl (Aj (Ad ?_))))))
  refine Ae rfl (xo1 ?_)
  refine xo0 ?_
  refine Nn ?_
  refine Lc ?_
  refine Bj (Aa ?_)
  refine Af ?_
  refine Av (cw_unroll ?_)
  refine Ps ?_
  refine Ad (xo2 ?_)
  refine Aa (Af ?_)
  refine Aj ?_
  skip
  refine E9 ?_
  refine Ap (Bt rfl (Aj (Av (Ad ?_))))
  refine Ae rfl (Ag rfl ?_)
  refine Aa (Af ?_)
  refine Ez ?_
  refine Cc rfl rfl (xo7 rfl rfl ?_)
  refine xo3 rfl rfl ?_
  refine Cr (by simp only [zl,zm,zd,Ay,List.take,List.drop,zz3]<;>exact rfl) rfl ?_
  refine Cc rfl rfl (Cc rfl rfl ?_)
  refine xo7 rfl rfl ?_
  refine xo3 rfl rfl ?_
  refine Cr (by simp only [zl,zm,zd,Ay,List.take,List.drop,zz3]<;>exact rfl) rfl ?_
  refine Cc rfl rfl (Cr (by simp only [zl,zm,Cj,Int.toNat_zero,Int.le_refl,Int.toNat_zero,zz3]<;>exact rfl) rfl ?_)
  refine xo3 rfl rfl ?_
  refine Cr (by simp only [zl,zm,zd,Ay,List.take,List.drop,zz3]<;>exact rfl) rfl ?_
  first
   | refine Ca (by simp only [zo]; exact hc1) (by simp only [Bd,zo,zq]<;>exact rfl) (by first | rfl | (generalize Sv (Ck xa) = t; cases t<;>rfl) | (generalize Sv (Ck xf) = t; cases t<;>rfl) | (simp [show ob 8160 13 = [true,true,true,true,true,true,true,true,false,false,false,false,false] from rfl,Sv,Ao,Am,Bp,Al,Ba,dj,Ak,Ai,Az,Bg,ieq1,ieq2]; done)) ?_
   | refine Ca (by simp only [zo,hxl,n0,n1,n2,n3,l0,l1,l2,m1,v1,v2,v3,v4,List.getElem?_set,o0,o1,Int.toNat_zero,show IntKind.i64.wrap (0 + 1) = 1 from rfl,List.set_cons_succ,List.set_cons_zero,show ((0:Int) ≤ 1) = True from by decide,show ((1 : Int).toNat) = 1 from rfl,zz3]; exact hc2 _) (by simp only [Bd,zo,zq,hx.fps,hx.fpi]<;>exact rfl) (by first | rfl | (generalize Sv (Ck xa) = t; cases t<;>rfl) | (generalize Sv (Ck xf) = t; cases t<;>rfl) | (simp [show ob 8160 13 = [true,true,true,true,true,true,true,true,false,false,false,false,false] from rfl,Sv,Ao,Am,Bp,Al,Ba,dj,Ak,Ai,Az,Bg,ieq1,ieq2]; done)) ?_
  refine Cr (by simp only [zl,zm,Cj,Int.toNat_zero,Int.le_refl,Int.toNat_zero,zz3]<;>exact rfl) rfl ?_
  refine xo3 rfl rfl ?_
  refine Ca (by simp only [zl,zm,Bq,overlay,List.take,List.drop,m1,v1,v2,zz3]<;>exact rfl) (by simp only [Bd,zo,zq]<;>exact rfl) (by first | rfl | (generalize Sv (Ck xa) = t; cases t<;>rfl) | (generalize Sv (Ck xf) = t; cases t<;>rfl) | (simp [show ob 65535 16 = [true,true,true,true,true,true,true,true,true,true,true,true,true,true,true,true] from rfl,Sv,Ao,Am,Bp,Al,Ba,dj,Ak,Ai,Az,Bg,ieq1,ieq2]; done)) ?_
  refine De (Eh ?_)
  refine Af ?_
  refine Bc (Ab (by simp only [zo,Bo,show IntKind.i64.wrap (0 + 1) = 1 from rfl]<;>exact rfl) ?_)
  refine Ag rfl (Aa ?_)
  refine lu_n (by simp only [ze]<;>exact rfl) ?_
  refine Ps ?_
  refine Ad (xo2 ?_)
  refine Aa (Af ?_)
  refine Aj ?_
  skip
  refine E9 ?_
  refine Ap (Bt rfl (Aj (Av (Ad ?_))))
  refine Ae rfl (Ag rfl ?_)
  refine Aa (Af ?_)
  refine Ez ?_
  refine Cc rfl rfl (xo7 rfl rfl ?_)
  refine xo3 rfl rfl ?_
  refine Cr (by simp only [zl,zm,zd,Ay,List.take,List.drop,n2,l0,List.getElem?_set,zz3]<;>exact rfl) rfl ?_
  refine Cc rfl rfl (Cc rfl rfl ?_)
  refine xo7 rfl rfl ?_
  refine xo3 rfl rfl ?_
  refine Cr (by simp only [zl,zm,zd,Ay,List.take,List.drop,n2,l0,List.getElem?_set,zz3]<;>exact rfl) rfl ?_
  refine Cc rfl rfl (Cr (by simp only [zl,zm,Cj,l0,List.getElem?_set,show ((0:Int) ≤ 1) = True from by decide,show ((1 : Int).toNat) = 1 from rfl,zz3]<;>exact rfl) rfl ?_)
  refine xo3 rfl rfl ?_
  refine Cr (by simp only [zl,zm,zd,Ay,List.take,List.drop,l0,List.getElem?_set,zz3]<;>exact rfl) rfl ?_
  first
   | refine Ca (by simp only [zo]; exact hc1) (by simp only [Bd,zo,zq,hx.fps,hx.fpi]<;>exact rfl) (by first | rfl | (generalize Sv (Ck xa) = t; cases t<;>rfl) | (generalize Sv (Ck xf) = t; cases t<;>rfl) | (simp [show ob 8160 13 = [true,true,true,true,true,true,true,true,false,false,false,false,false] from rfl,Sv,Ao,Am,Bp,Al,Ba,dj,Ak,Ai,Az,Bg,ieq1,ieq2]; done)) ?_
   | refine Ca (by simp only [zo]; exact hc2 _) (by simp only [Bd,zo,zq]<;>exact rfl) (by first | rfl | (generalize Sv (Ck xa) = t; cases t<;>rfl) | (generalize Sv (Ck xf) = t; cases t<;>rfl) | (simp [show ob 8160 13 = [true,true,true,true,true,true,true,true,false,false,false,false,false] from rfl,Sv,Ao,Am,Bp,Al,Ba,dj,Ak,Ai,Az,Bg,ieq1,ieq2]; done)) ?_
  refine Cr (by simp only [zl,zm,Cj,l0,List.getElem?_set,show ((0:Int) ≤ 1) = True from by decide,show ((1 : Int).toNat) = 1 from rfl,zz3]<;>exact rfl) rfl ?_
  refine xo3 rfl rfl ?_
  refine Ca (by simp only [zl,zm,Bq,overlay,List.take,List.drop,l0,m1,v3,v4,List.getElem?_set,zz3]<;>exact rfl) (by simp only [Bd,zo,zq]<;>exact rfl) (by first | rfl | (generalize Sv (Ck xa) = t; cases t<;>rfl) | (generalize Sv (Ck xf) = t; cases t<;>rfl) | (simp [show ob 65535 16 = [true,true,true,true,true,true,true,true,true,true,true,true,true,true,true,true] from rfl,Sv,Ao,Am,Bp,Al,Ba,dj,Ak,Ai,Az,Bg,ieq1,ieq2]; done)) ?_
  refine De (Eh ?_)
  refine Af ?_
  refine Bc (xo2 ?_)
  refine Ag rfl (Aa ?_)
  refine lu_n (by simp only [ze]<;>exact rfl) ?_
  refine Ps ?_
  refine Ad (xo2 ?_)
  refine Aa (Af ?_)
  refine Aj ?_
  skip
  refine Cq ?_
  refine Dq (H6 (lu_e (Ig (Bt rfl (Ad ?_)))))
  refine Ae rfl (xo1 ?_)
  refine xo0 ?_
  refine Ab (by simp only [zl,zm,zd,Ay,List.take,List.drop,n2,l0,List.getElem?_set,zz3]<;>exact rfl) ?_
  refine Ab (by simp only [zo]; exact clip31_run (by omega) (Ei hol _) _) ?_
  refine Ab (by simp only [zo,Hd,zm]<;>exact rfl) ?_
  refine Ab (by simp only [zl,zm,Bq,overlay,zs,zc,zf,List.take,List.drop,n0,l0,List.getElem?_set,o0,zz3]<;>exact rfl) ?_
  refine Ab (by simp only [zl,zm,Bq,overlay,Bw,zs,zc,zf,List.take,List.drop,n1,n3,l0,l1,List.getElem?_set,o1,zz3]<;>exact rfl) ?_
  refine Aa (Af ?_)
  refine Br ?_
  have hz2 : ∀ k,k ≠ go→k ≠ B.length→k ≠ B.length + 1→∀ x y z,(((H.set go x).set B.length y).set (B.length + 1) z)[k]? = H[k]?:=fun k h1 h2 h3 x y z=>by
   rw [Ln_ (Ne.symm h3),Ln_ (Ne.symm h2),Ln_ (Ne.symm h1)]
  have hB2 : B.length + 2 < H.length:=h2l
  refine ⟨(.tup [.msl go 1 0 2 (some 2),.agg [.int .i64 0,.int .i64 0,.int .i64 0]],⟨((H.set go ⟨36,4,[[.str nmA,Ck xa,.int .i64 ((1 : Nat) : Int),.int .i64 ((12 : Nat) : Int)],[.str nmB,Ck xf,.int .i64 ((lb : Nat) : Int),.int .i64 ((12 : Nat) : Int)]],1,0,true⟩).set B.length ⟨26,1,[[.msl go 1 0 2 (some 2)]],0,0,false⟩).set (B.length + 1) ⟨31,3,[[.int .i64 0,.int .i64 0,.int .i64 0]],0,0,false⟩,min lo B.length⟩,true),⟨((H.set go ⟨36,4,[[.str nmA,Ck xa,.int .i64 ((1 : Nat) : Int),.int .i64 ((12 : Nat) : Int)],[.str nmB,Ck xf,.int .i64 ((lb : Nat) : Int),.int .i64 ((12 : Nat) : Int)]],1,0,true⟩).set B.length ⟨26,1,[[.msl go 1 0 2 (some 2)]],0,0,false⟩).set (B.length + 1) ⟨31,3,[[.int .i64 0,.int .i64 0,.int .i64 0]],0,0,false⟩,go,ga,gs,xa,xf,lb,ra,rows,rfl,⟨?_,?_,?_,?_,?_,hRa,hR,by omega,by omega,by omega,hnea,hneo,hng⟩⟩,⟨⟨((H.set go ⟨36,4,[[.str nmA,Ck xa,.int .i64 ((1 : Nat) : Int),.int .i64 ((12 : Nat) : Int)],[.str nmB,Ck xf,.int .i64 ((lb : Nat) : Int),.int .i64 ((12 : Nat) : Int)]],1,0,true⟩).set B.length ⟨26,1,[[.msl go 1 0 2 (some 2)]],0,0,false⟩).set (B.length + 1) ⟨31,3,[[.int .i64 0,.int .i64 0,.int .i64 0]],0,0,false⟩,B.length⟩,exDefs_one (F:=FD26) rfl rfl rfl rfl (by simp only [FD26,zv]<;>exact rfl) (by refine ⟨_,_,_,rfl,?_⟩; exact rfl),.tup [.msl go 1 0 2 (some 2),.agg [.int .i64 0,.int .i64 0,.int .i64 0]],?_,?_⟩⟩
  ·
   rw [List.length_set,List.length_set,List.length_set]; omega
  ·
   intro k hk
   rw [hz2 k (by omega) (by omega) (by omega)]; exact ofr k hk
  ·
   rw [Ln_ (by omega),Ln_ (by omega),Ei hol]
  ·
   exact hFa.keep fun h=>hz2 ga hnea (by omega) (by omega) _ _ _
  ·
   exact hF.keep fun h=>hz2 gs hneo (by omega) (by omega) _ _ _
  ·
   simp only [F10,Au,Bz,Dn,List.getD_cons_zero,List.getD_cons_succ,Qf,rowsOf,Ay,List.getElem?_set,List.length_set,n3,show (B.length + 1 = B.length) = False from eq_false (by omega),l1,l2,if_true,if_false,Lz,List.take,List.drop,Bool.false_eq_true]
   rfl
  ·
   have hlow : B.length ≤ B.length:=Nat.le_refl _
   have hlen : ¬ H.length = B.length:=by omega
   have hgo2 : ¬ B.length + 1 = go:=by omega
   have hgo3 : ¬ B.length = go:=by omega
   simp [leave,LP,S9,Ar,Sw,snap,Bw,D.Sz,D.Sy,D.free,D.Td,hgo2,hgo3,hol,hlen]

structure SrcF (H : List Sk) (x : D) (rows : List (List D)) (gs v : Nat) : Prop where
 len : Iw false x = some (.int .i64 (rows.length : Nat))
 cell : x.Tc = true
 snap : ∀ m l,snap m (H ++ l) x = some x
 fpi : ∀ n i r wr,Ec (.Ti n) [x,i] r wr = Ak (Bv x)
 ia : ∀ l lo i,i < rows.length→Fg ⟨H ++ l,lo⟩ 16 x (.int .i64 (i : Nat)) = some (.ptr gs v i 0)
 ld : ∀ l lo i r,rows[i]? = some r→16 ≤ r.length→Gq 16 true ⟨H ++ l,lo⟩ (.ptr gs v i 0) = some (.agg (r.take 16))
theorem FL.src {H : List Sk} {gs : Nat} {x : D} {rows : List (List D)} (h : FL H gs x rows) : ∃ v,SrcF H (Ck x) rows gs v:=by
 rcases h with ⟨rfl,rfl⟩ | ⟨vs,rfl,ho⟩
 ·
  exact ⟨0,rfl,rfl,fun _ _=>rfl,fun _ _ _ _=>rfl,fun _ _ i h=>absurd h (by simp),fun _ _ i r h=>by simp at h⟩
 ·
  refine ⟨vs,rfl,rfl,fun m l=>?_,fun _ _ _ _=>rfl,fun l lo i h=>?_,fun l lo i r h h16=>?_⟩
  ·
   simp only [Ck]
   rw [H5,Cg (Bh ho),ho]; simp
  ·
   simp [Ck,Fg,rowsOf,Cg (Bh ho),ho,h]
  ·
   simp [Gq,rowsOf,Cg (Bh ho),ho,h,Ay,h16]
theorem SrcF.zero {H : List Sk} {x : D} {rows : List (List D)} {gs v : Nat} (h : SrcF H x rows gs v) : ∀ m,Go.Proofs.YtkaedpmmopigkaaGreatDoor.snap m H x = some x:=fun m=>by have:=h.snap m []; rwa [List.append_nil] at this
theorem Ho (f : FM) (p : Nat) : ∃ tx op nu r1 r2,Gm f p = [.int .i64 (f.line : Nat),.int .i64 (f.column : Nat),.int .u8 (f.kind : Nat),tx,.int .u8 (if nu then (if f.size = 1 then 4 else 5) else 2),.int .u8 0,.str (Dz nu f.size),.int .i64 (if nu then (f.size : Nat) else 0),.int .i64 0,.bool false,.bool false,.bool false,.bool false,.bool false,.int .i64 (f.size : Nat),op]∧SlD 1 r1 tx∧SlD 5 r2 op ∧
  (f.kind = 1→nu = false∧tx = .sl 1 (Be f.text) none∧op = .Tk∧r1 = Be f.text)∧(f.kind ≠ 1→nu = f.nu∧tx = .Tk∧op = .sl 5 [tkR 1 ⟨#[78]⟩ p 12] (some 1)):=by
 by_cases h : f.kind = 1
 ·
  refine ⟨.sl 1 (Be f.text) none,.Tk,false,Be f.text,[],?_,.of _ _ _,.nil 5,fun _=>⟨rfl,rfl,rfl,rfl⟩,fun h'=>absurd h h'⟩
  unfold Gm row2
  rw [if_pos h,if_pos h,h]
  rfl
 ·
  refine ⟨.Tk,.sl 5 [tkR 1 ⟨#[78]⟩ p 12] (some 1),f.nu,[],_,?_,.nil 1,.of _ _ _,fun h'=>absurd h' h,fun _=>⟨rfl,rfl,rfl⟩⟩
  unfold Gm
  rw [if_neg h]
  rfl
theorem Jo (f : FM) (p : Nat) : (Gm f p).length = 16:=by
 unfold Gm row2 Dt
 split<;>rfl
theorem Jn (f : FM) (p : Nat) : (Gm f p).take 16 = Gm f p:=List.take_of_length_le (by rw [Jo]; exact Nat.le_refl _)
theorem Eu {d : Nat} (hd : 16 ≤ d) (S : St) (nu : Bool) (f : FM) : Bf LP NN d 38 [.agg [.int .u8 (if nu then (if f.size = 1 then 4 else 5) else 2),.int .u8 0,.str (Dz nu f.size),.int .i64 (if nu then (f.size : Nat) else 0),.int .i64 0,.bool false,.bool false,.bool false,.bool false,.bool false,.int .i64 (f.size : Nat)]] S = some (.int .i64 0,S,false):=pcheck_run (by omega) S hd nu f.size f.size_le.1 f.size_le.2

theorem Nj {d : Nat} (hd : 18 ≤ d) {H : List Sk} {x : D} {rows : List (List D)} {gs v : Nat} {l0 : List FM} (hS : SrcF H x rows gs v) (hR : RW l0 rows) (hlen : l0.length ≤ 256) (nm : ByteArray) (p0 c0 : Nat) (lo : Nat) :
  Bf LP NN d 13 [.agg [.str nm,x,.int .i64 (p0 : Nat),.int .i64 (c0 : Nat)]] ⟨H,lo⟩ = some (.int .i64 0,⟨H,lo⟩,false):=by
 have hrl:=hR.len
 have hx256 : decide (((rows.length : Nat) : Int) > 256) = false:=decide_eq_false (by omega)
 refine Dl (F:=F13) rfl (by simp only [LP,Ar,Bw,zs,zm,hS.zero]<;>exact rfl) rfl (by simp only [LP,zf,zm]; try rfl) (by simp only [F13,zv]<;>exact rfl) (by omega) ?_
 rintro d rfl
 have zz3:=And.intro hS.len (And.intro hS.cell (And.intro hx256 (And.intro @Bu (@Di))))
 refine Ad (Ab (by simp only [zl,zm,zc,zz3]<;>exact rfl) ?_)
 refine Bj (Aa ?_)
 refine Af ?_
 refine Aj (Ad ?_)
 refine xo0 ?_
 refine Nn ?_
 refine Ab (by simp only [zo,zz3]<;>exact rfl) ?_
 refine Ab (by simp only [zo,Bo,zz3]<;>exact rfl) ?_
 refine Aa (Af ?_)
 skip
 refine Cq ?_
 refine Ap (Bt rfl (Aj (Ad ?_)))
 refine xo0 ?_
 refine Nn ?_
 refine Ab (by simp only [zo,zz3]<;>exact rfl) ?_
 refine Bj (Aa ?_)
 refine Af ?_
 refine Av ?_
 refine D5 (fun n env S'=>∃ (i : Nat) (l : List Sk) (u3 u9 u10 u11 u8 : D),i ≤ rows.length∧n = rows.length - i∧S' = ⟨H ++ ⟨36,4,[[.str nm,x,.int .i64 (p0 : Nat),.int .i64 (c0 : Nat)]],0,0,false⟩ :: l,H.length⟩∧env = [.agg [.str nm,x,.int .i64 (p0 : Nat),.int .i64 (c0 : Nat)],.ptr H.length 0 0 0,.int .i64 0,u3,.bool false,x,.int .i64 rows.length,.int .i64 i,u8,u9,u10,u11]) (rows.length) (by omega) (⟨0,[],_,_,_,_,_,by omega,by omega,rfl,rfl⟩) ?_
 rintro n env S' ⟨i,l,u3,u9,u10,u11,u8,hi,rfl,rfl,rfl⟩
 refine Ad (xo2 ?_)
 refine Aa (Af ?_)
 refine Aj ?_
 refine Cm (by simp only [opd,zv]<;>exact rfl) (fun hcA=>?_) (fun hcA=>?_)
 ·
  have hlt : i < rows.length:=by have:=of_decide_eq_true hcA; omega
  have hltl : i < l0.length:=by omega
  have hw:=Du i (by omega)
  have hia:=fun l lo=>hS.ia l lo i hlt
  obtain ⟨p,hrow⟩:=hR.at_ hltl
  have hld:=fun (l : List Sk) lo=>hS.ld l lo i _ hrow (by rw [Jo]; exact Nat.le_refl _)
  rw [Jn] at hld
  have hfit:=fun (S : St)=>J5 l0[i] p (d:=d) (by omega) S
  obtain ⟨tx,op,nu,r1,r2,hrf,htx,hop,hk1,hk2⟩:=Ho l0[i] p
  have hpc:=fun (S : St)=>Eu (d:=d) (by omega) S nu l0[i]
  rw [hrf] at hld hfit
  have hsz:=l0[i].size_le
  have hkd:=l0[i].kind_le
  have hcl : ∀ k : Nat,(H ++ ⟨36,4,[[.str nm,x,.int .i64 (p0 : Nat),.int .i64 (c0 : Nat)]],0,0,false⟩ :: l).length = H.length + l.length + 1:=fun k=>by simp; omega
  have hat : ∀ (o : Sk) (m : List Sk),(H ++ ⟨36,4,[[.str nm,x,.int .i64 (p0 : Nat),.int .i64 (c0 : Nat)]],0,0,false⟩ :: (l ++ o :: m))[H.length + (l.length + 1)]? = some o:=fun o m=>by rw [Bu,Ls_,Di]; rfl
  have hst : ∀ (o y : Sk) (m : List Sk),(H ++ ⟨36,4,[[.str nm,x,.int .i64 (p0 : Nat),.int .i64 (c0 : Nat)]],0,0,false⟩ :: (l ++ o :: m)).set (H.length + (l.length + 1)) y = H ++ ⟨36,4,[[.str nm,x,.int .i64 (p0 : Nat),.int .i64 (c0 : Nat)]],0,0,false⟩ :: (l ++ y :: m):=fun o y m=>by rw [Et,List.set_cons_succ,Fb]; rfl
  have k1 : decide (((l0[i].kind : Nat) : Int) < 1) = false:=decide_eq_false (by omega)
  have k2 : decide (((l0[i].kind : Nat) : Int) > 4) = false:=decide_eq_false (by omega)
  have zz4:=And.intro hw (And.intro hia (And.intro hld (And.intro hat (And.intro hst (And.intro htx.Tc (And.intro hop.Tc (And.intro htx.cells (And.intro hop.cells (And.intro htx.val (And.intro hop.val (htx.len)))))))))))
  by_cases hk : l0[i].kind = 1
  ·
   obtain ⟨rfl,rfl,rfl,rfl⟩:=hk1 hk
   have e1 : (((l0[i].kind : Nat) : Int) == 1) = true:=by rw [beq_iff_eq]; omega
   have e2 : (((Be l0[i].text).length : Int) != ((l0[i].size : Nat) : Int)) = false:=by rw [Fw,Gv,bne_self_eq_false]
   refine Ap (Bt rfl (Aj (Av (Ad ?_))))
   refine Ab (by simp only [zl,zm,zz4]<;>exact rfl) ?_
   refine Ab (by simp only [zl,zm,zz4]<;>exact rfl) ?_
   refine xo6 ?_
   refine Ab (by simp only [zl,zm,Bq,overlay,Bw,zs,zc,zf,List.take,List.drop,zz3,zz4]<;>exact rfl) ?_
   refine Aa (Af ?_)
   refine Av (Ad ?_)
   refine xo0 ?_
   refine Nn ?_
   refine Ab (by simp only [zo,Bo,k1]<;>exact rfl) ?_
   refine Ag rfl (Ch 0 (b:=false) ?_)
   refine Ah rfl (xo0 ?_)
   refine Ah rfl (Nn ?_)
   refine Ah rfl (Ab (by simp only [zo,Bo,k2]<;>exact rfl) ?_)
   refine xo1 ?_
   refine Ag rfl (Ch 0 (b:=false) ?_)
   refine Ah rfl (xo0 ?_)
   refine Ah rfl (Nn ?_)
   refine Ah rfl (Ab (by simp only [zo]; exact hpc _) ?_)
   refine Ah rfl (Ab (by simp only [zo,Bo,bne_self_eq_false]<;>exact rfl) ?_)
   refine xo1 ?_
   refine Ag rfl (Aa ?_)
   refine Af ?_
   skip
   refine Cq ?_
   refine Ad (xo0 ?_)
   refine Nn ?_
   refine Ab (by simp only [zo,Bo,e1]<;>exact rfl) ?_
   refine Ag rfl (Ch 0 (b:=true) ?_)
   refine Ah rfl (xo0 ?_)
   refine Ah rfl (xo0 ?_)
   refine Ah rfl (Nn ?_)
   refine Ah rfl (Ab (by simp only [zo,Bo,bne_self_eq_false]<;>exact rfl) ?_)
   refine Ah rfl (Ag rfl ?_)
   refine Ch 0 (b:=false) ?_
   refine Ah rfl (xo0 ?_)
   refine Ah rfl (Nn ?_)
   refine Ah rfl (Ab (by simp only [zo,zz4]<;>exact rfl) ?_)
   refine Ah rfl (xo0 ?_)
   refine Ah rfl (xo0 ?_)
   refine Ah rfl (Nn ?_)
   refine Ah rfl (Ab (by simp only [zo,Bo,e2]<;>exact rfl) ?_)
   refine Ah rfl (xo1 ?_)
   refine xo1 ?_
   refine Ag rfl (Aa ?_)
   refine Af ?_
   skip
   refine Cq ?_
   refine Ad (Nn ?_)
   refine Ab (by simp only [zo]; exact hfit _) ?_
   refine xo9 ?_
   refine Ag rfl (Aa ?_)
   refine Af ?_
   skip
   refine Cq ?_
   refine Ap (Eh (Eh (Bt rfl (Bc ?_))))
   refine xo16 ?_
   refine Ag rfl (Aa ?_)
   refine Gr (by simp only [ze]<;>exact rfl) ?_
   exact ⟨rows.length - (i + 1),by omega,i + 1,_,_,_,_,_,_,by omega,rfl,rfl,rfl⟩
  ·
   have e1 : (((l0[i].kind : Nat) : Int) == 1) = false:=by rw [beq_eq_false_iff_ne]; omega
   refine Ap (Bt rfl (Aj (Av (Ad ?_))))
   refine Ab (by simp only [zl,zm,zz4]<;>exact rfl) ?_
   refine Ab (by simp only [zl,zm,zz4]<;>exact rfl) ?_
   refine xo6 ?_
   refine Ab (by simp only [zl,zm,Bq,overlay,Bw,zs,zc,zf,List.take,List.drop,zz3,zz4]<;>exact rfl) ?_
   refine Aa (Af ?_)
   refine Av (Ad ?_)
   refine xo0 ?_
   refine Nn ?_
   refine Ab (by simp only [zo,Bo,k1]<;>exact rfl) ?_
   refine Ag rfl (Ch 0 (b:=false) ?_)
   refine Ah rfl (xo0 ?_)
   refine Ah rfl (Nn ?_)
   refine Ah rfl (Ab (by simp only [zo,Bo,k2]<;>exact rfl) ?_)
   refine xo1 ?_
   refine Ag rfl (Ch 0 (b:=false) ?_)
   refine Ah rfl (xo0 ?_)
   refine Ah rfl (Nn ?_)
   refine Ah rfl (Ab (by simp only [zo]; exact hpc _) ?_)
   refine Ah rfl (xo2 ?_)
   refine xo1 ?_
   refine Ag rfl (Aa ?_)
   refine Af ?_
   skip
   refine Cq ?_
   refine Ad (xo0 ?_)
   refine Nn ?_
   refine Ab (by simp only [zo,Bo,e1]<;>exact rfl) ?_
   refine Ag rfl (Ch 0 (b:=false) ?_)
   refine Bb rfl rfl ?_
   refine Bb rfl rfl ?_
   refine Bb rfl rfl ?_
   refine Bb rfl rfl ?_
   refine Bb rfl rfl ?_
   refine Df rfl ?_
   refine Df rfl ?_
   refine Df rfl ?_
   refine Df rfl ?_
   refine Df rfl ?_
   refine Df rfl ?_
   refine Df rfl ?_
   refine Bb rfl rfl ?_
   refine xo1 ?_
   refine Ag rfl (Aa ?_)
   refine Af ?_
   refine Ie (by simp only [opd,zv]) ?_
   refine Ad (Nn ?_)
   refine Ab (by simp only [zo]; exact hfit _) ?_
   refine xo9 ?_
   refine Ag rfl (Aa ?_)
   refine Af ?_
   skip
   refine Cq ?_
   refine Ap (Eh (Eh (Bt rfl (Bc ?_))))
   refine xo16 ?_
   refine Ag rfl (Aa ?_)
   refine Gr (by simp only [ze]<;>exact rfl) ?_
   exact ⟨rows.length - (i + 1),by omega,i + 1,_,_,_,_,_,_,by omega,rfl,rfl,rfl⟩
 ·
  refine Dq (H6 (Iz (Ig (Bt rfl (Ad ?_)))))
  refine Bj (Aa ?_)
  refine Af ?_
  refine Br ?_
  refine ⟨_,by simp only [F13,Au,Bz,Dn,zg]<;>exact rfl,?_⟩
  simp [leave,LP,S9,Sw,snap,D.Sz,D.Sy,D.free,D.Td]

theorem fmRows_nil : SlD 6 (Ik []) .Tk:=.nil 6

theorem of_walk {d : Nat} (hd : 24 ≤ d) {B H' : List Sk} {lx xa xb : D} {l : List FM} {go lb : Nat} (hl0 : SlD 6 (Ik l) lx) (hll : l.length ≤ 20)
  (hrun : Bf LP NN (d - 1) 10 [.sl 5 (El 1 (Hm l [])) none] ⟨B ++ [⟨36,4,[[.str ⟨#[]⟩,.Tk,.int .i64 0,.int .i64 0]],0,0,false⟩],B.length⟩ = some (.tup [.msl go 1 0 2 (some 2),.agg [.int .i64 0,.int .i64 0,.int .i64 0]],⟨H',min B.length (B ++ [(⟨36,4,[[.str ⟨#[]⟩,.Tk,.int .i64 0,.int .i64 0]],0,0,false⟩ : Sk)]).length⟩,true))
  (hz : H'[B.length]? = some ⟨36,4,[[.str ⟨#[]⟩,.Tk,.int .i64 0,.int .i64 0]],0,0,false⟩) (ho : H'[go]? = some ⟨36,4,[[.str nmA,Ck xa,.int .i64 ((1 : Nat) : Int),.int .i64 ((12 : Nat) : Int)],[.str nmB,Ck xb,.int .i64 ((lb : Nat) : Int),.int .i64 ((12 : Nat) : Int)]],1,0,true⟩) (hc : (Ck xa).Tc = true) (hX : ∀ x m l,snap m (H'.set B.length x ++ l) (Ck xa) = some (Ck xa)) (lo : Nat) :
  Bf LP NN d 18 [lx] ⟨B,lo⟩ = some (.tup [.agg [.str nmA,Ck xa,.int .i64 ((1 : Nat) : Int),.int .i64 ((12 : Nat) : Int)],.bool true],if (Ck xa).free then ⟨B,lo⟩ else ⟨H'.set B.length ⟨36,4,[[.str nmA,Ck xa,.int .i64 ((1 : Nat) : Int),.int .i64 ((12 : Nat) : Int)]],0,0,false⟩ ++ [⟨31,3,[[.int .i64 0,.int .i64 0,.int .i64 0]],0,0,false⟩],min lo B.length⟩,!(Ck xa).free):=by
 have hzl:=Bh hz
 have hol:=Bh ho
 have hnil0:=fmRows_nil
 have hsz : ∀ l x,(H'.set B.length x ++ l)[B.length]? = some x:=fun l x=>by rw [Cg (by simpa using hzl)]; exact Ei hzl x
 have hsz:=hsz
 have hge : ¬ H'.length + 1 = B.length:=by omega
 have hm1 : min B.length (B.length + 1) = B.length:=by omega
 have hng : ¬ H'.length = B.length:=by omega
 rw [Ll_,List.length_cons,List.length_nil,hm1] at hrun
 refine Dl (F:=F18) rfl (by simp only [LP,Ar,hl0.Sw]<;>exact rfl) rfl (by simp only [LP,zm,hl0.Sy]; try rfl) (by simp only [F18,zv]<;>exact rfl) (by omega) ?_
 rintro d rfl
 have zz2:=And.intro hz (And.intro ho (And.intro hsz (And.intro hc (And.intro @Bu (And.intro @Di (hm1))))))
 refine Ad (xo6 ?_)
 refine Bj (Aa ?_)
 refine Af ?_
 refine Ad (Ae rfl ?_)
 refine Ab (by simp only [zo]; exact section_run (by omega) _ hl0 hnil0 hll (by simp)) ?_
 refine Ab (by simp only [zo]; exact hrun) ?_
 refine Ag rfl (xo17 ?_)
 refine Pz ?_
 refine xo6 ?_
 refine Ag rfl (xo30 ?_)
 refine Aa (Af ?_)
 refine Aj (Ad ?_)
 refine xo0 ?_
 refine xo4 ?_
 refine xo2 ?_
 refine Ag rfl (Ch 0 (b:=false) ?_)
 refine Ah rfl (Ae rfl ?_)
 refine Ah rfl (Lc ?_)
 refine Ah rfl (xo2 ?_)
 refine xo1 ?_
 refine Aa (Af ?_)
 skip
 refine Cq ?_
 refine Ap (Bt rfl (Ad ?_))
 refine Ae rfl (Ab (by simp only [zl,zm,Cj,Int.toNat_zero,Int.le_refl,Cg hol,zz2]<;>exact rfl) ?_)
 refine Ab (by simp only [zl,zm,zd,Ay,List.take,List.drop,Cg hol,zz2]<;>exact rfl) ?_
 refine Ab (by simp only [zl,zm,Bq,overlay,Bw,zs,zc,zf,List.take,List.drop,Cg hzl,G7 hzl,zz2]<;>exact rfl) ?_
 refine Bj (Aa ?_)
 refine Af ?_
 refine Br ?_
 refine ⟨_,by simp only [F18,Au,Bz,Dn,zg,zd,rowsOf,Ay,List.take,List.drop,zm,hsz]<;>exact rfl,?_⟩
 have hmm : min (min B.length H'.length) B.length = B.length:=by omega
 have hle : (B.length ≤ B.length) = True:=eq_true (Nat.le_refl _)
 cases hf : (Ck xa).free
 ·
  simp [leave,LP,M0,Ar,Mx,Bw,Ou,Ov,Kh,hX,Nh,Ng,Md,Me,Kw,hf,hmm,hge]
 ·
  simp [leave,LP,M0,Ar,Mx,Bw,Ou,Ov,Kh,hX,Nh,Ng,Md,Me,Kw,hf,hmm]

theorem FL.clip_free {H : List Sk} {gs : Nat} {x : D} {rows : List (List D)} (h : FL H gs x rows) (hf : (Ck x).free = true) : x = .Tk∧rows = []:=by
 rcases h with h | ⟨vs,rfl,_⟩
 ·
  exact h
 ·
  cases hf
theorem of_run {d : Nat} (hd : 24 ≤ d) (B : List Sk) (lo : Nat) (hlo : lo ≤ B.length) {lx : D} {l : List FM} (hl0 : SlD 6 (Ik l) lx) (hll : l.length ≤ 20) :
  ∃ H' x0 gs rows wr,Bf LP NN d 18 [lx] ⟨B,lo⟩ = some (.tup [.agg [.str nmA,Ck x0,.int .i64 ((1 : Nat) : Int),.int .i64 ((12 : Nat) : Int)],.bool true],⟨H',lo⟩,wr)∧B.length ≤ H'.length∧(∀ k,k < B.length→H'[k]? = B[k]?)∧FL H' gs x0 rows∧RW l rows∧B.length ≤ gs:=by
 obtain ⟨_,⟨H',go,ga,gs,xa,xb,lb,ra,rb,rfl,hP⟩,hrun⟩:=parse_all (d:=d - 1) (by omega) (B ++ [⟨36,4,[[.str ⟨#[]⟩,.Tk,.int .i64 0,.int .i64 0]],0,0,false⟩]) B.length l [] hll (by simp)
 have hz:=(hP.fr B.length (by simp)).trans (Bu B [⟨36,4,[[.str ⟨#[]⟩,.Tk,.int .i64 0,.int .i64 0]],0,0,false⟩] 0)
 have hlen:=hP.len
 rw [Ll_,List.length_cons,List.length_nil] at hlen
 have hga:=hP.hga
 rw [Ll_,List.length_cons,List.length_nil] at hga
 have hX : ∀ x m l,snap m (H'.set B.length x ++ l) (Ck xa) = some (Ck xa):=by
  intro x m l
  obtain ⟨v,hS⟩:=(hP.fa.keep (H':=H'.set B.length x) fun h=>by rw [Ln_ (by omega)]).src
  exact hS.snap m l
 obtain ⟨v0,hS0⟩:=hP.fa.src
 have r:=of_walk hd hl0 hll hrun hz hP.ho hS0.cell hX lo
 have hm : min lo B.length = lo:=by omega
 rw [hm] at r
 cases hf : (Ck xa).free with
 | true =>
  obtain ⟨e1,e2⟩:=hP.fa.clip_free hf
  rw [hf,if_pos rfl] at r
  exact ⟨B,xa,B.length,ra,_,r,Nat.le_refl _,fun _ _=>rfl,.inl ⟨e1,e2⟩,hP.wa,Nat.le_refl _⟩
 | false =>
  rw [hf,if_neg (by simp)] at r
  refine ⟨_,xa,ga,ra,_,r,by rw [Ll_,List.length_set]; omega,fun k hk=>?_,?_,hP.wa,by omega⟩
  ·
   rw [Pv (by omega) (by omega),hP.fr k (by rw [Ll_]; omega),Cg hk]
  ·
   exact hP.fa.keep fun h=>Pv h (by omega)

def spR (j : Nat) : List (List D):=List.replicate j [.int .u8 32] ++ List.replicate (80 - j) [.junk]
theorem spR_len {j : Nat} (h : j ≤ 80) : (spR j).length = 80:=by simp [spR]; omega
theorem spR_step {j : Nat} (h1 : 1 ≤ j) (h : j < 80) : List.take j (spR j) ++ (List.take (min (min j 80) (80 - j)) (List.take j (spR j)) ++ List.drop (j + min (min j 80) (80 - j)) (spR j)) = spR (j + min j (80 - j)):=by
 have e : min (min j 80) (80 - j) = min j (80 - j):=by omega
 rw [e]
 have t : List.take j (spR j) = List.replicate j [.int .u8 32]:=by
  unfold spR
  rw [List.take_left' (by simp)]
 rw [t,List.take_replicate]
 have d : List.drop (j + min j (80 - j)) (spR j) = List.replicate (80 - (j + min j (80 - j))) [.junk]:=by
  unfold spR
  rw [List.drop_append,List.drop_eq_nil_of_le (by simp),List.nil_append,List.length_replicate,List.drop_replicate]
  congr 1
  omega
 rw [d,← Lo_,List.replicate_append_replicate]
 unfold spR
 congr 2
 omega
section
variable (d : Nat) (S : St)
theorem mul_cl : Da LP NN (d + 4) 78 [.int .u64 1,.int .u64 80] S = some (.tup [.int .u64 0,.int .u64 80],S,false):=by kernel_rfl
end
theorem mul_run {d : Nat} (hd : 4 ≤ d) (S : St) : Bf LP NN d 78 [.int .u64 1,.int .u64 80] S = some (.tup [.int .u64 0,.int .u64 80],S,false):=by
 obtain ⟨d,rfl⟩ : ∃ d',d = d' + 4:=⟨d - 4,by omega⟩
 exact fast_ok (mul_cl d S)

theorem repeat_run {d : Nat} (hd : 6 ≤ d) {H : List Sk} {gb : Nat} (hg : H[gb]? = some ⟨5,1,[[.int .u8 32]],0,2,false⟩) (lo : Nat) :
  Bf LP NN d 45 [.msl gb 0 0 1 none,.int .i64 80] ⟨H,lo⟩ = some (.msl H.length 0 0 80 (some 80),⟨H ++ [⟨5,1,spR 80,0,2,true⟩],min lo H.length⟩,true):=by
 have hgl:=Bh hg
 have hw80 : IntKind.i64.wrap 80 = 80:=by decide
 have h80n : (80 : Int).toNat = 80:=rfl
 refine Dl (F:=F45) rfl (by simp only [LP,Ar,zs,zm]<;>exact rfl) rfl (by simp only [LP,zf,zm]; try rfl) (by simp only [F45,zv]<;>exact rfl) (by omega) ?_
 rintro d rfl
 have zz2:=And.intro hw80 (And.intro h80n (And.intro hg (And.intro @Bu (@Di))))
 refine Ad (Bj ?_)
 refine Aa (Af ?_)
 refine Aj (Ad ?_)
 refine Ae rfl (xo2 ?_)
 refine Aa (Af ?_)
 skip
 refine Cq ?_
 refine Ap (Bt rfl (Aj (Ad ?_)))
 refine Ae rfl (Ab (by simp only [zo,Bo,Int.reduceLT]<;>exact rfl) ?_)
 refine Aa (Af ?_)
 skip
 refine Cq ?_
 refine Ap (Bt rfl (Ad ?_))
 refine Ae rfl (Lc ?_)
 refine xo1 ?_
 refine Ae rfl (xo1 ?_)
 refine Ab (by simp only [zo]; exact mul_run (by omega) _) ?_
 refine Ag rfl (xo17 ?_)
 refine Pz ?_
 refine Ag rfl (Ag rfl ?_)
 refine Aa (Af ?_)
 refine Aj (Ad ?_)
 refine Ae rfl (xo2 ?_)
 refine Ag rfl (Ch 0 (b:=false) ?_)
 refine Ah rfl (Ae rfl ?_)
 refine Ah rfl (xo2 ?_)
 refine xo1 ?_
 refine Aa (Af ?_)
 skip
 refine Cq ?_
 refine Ap (Bt rfl (Ad ?_))
 refine Ae rfl (Ab (by simp only [zo,zz2]<;>exact rfl) ?_)
 refine Ag rfl (Aa ?_)
 refine Af ?_
 refine Aj (Ad ?_)
 refine Ae rfl (Lc ?_)
 refine xo2 ?_
 refine Aa (Af ?_)
 skip
 refine Cq ?_
 refine Ap (Bt rfl (Ad ?_))
 refine Ae rfl (Ag rfl ?_)
 refine Aa (Af ?_)
 refine Aj (Ad ?_)
 refine Ae rfl (xo2 ?_)
 refine Aa (Af ?_)
 skip
 refine Cq ?_
 refine Ap (Bt rfl (Ad ?_))
 refine Ae rfl (Ab (by simp only [zl,zz2]<;>exact rfl) ?_)
 refine Ae rfl (Ae rfl ?_)
 refine Ab (by simp only [zl,zm,Ci,D8,Fz,Cz,Fe,Eb,zz2]<;>exact rfl) ?_
 refine Ag rfl (Aa ?_)
 refine Af ?_
 refine Ad (Ae rfl ?_)
 refine Ae rfl (Ab (by simp only [opd,zv,Aw,aop,LOp.loud,lop,rowsOf,Lp,Dh,Fy,kW,setAt,if_true,zm,Cg hgl,Fb,zz2]<;>exact rfl) ?_)
 refine Ag rfl (Aa ?_)
 refine Af ?_
 refine Aj (Av ?_)
 refine D5 (fun n env S'=>∃ (j : Nat) (u9 u15 u16 : D),1 ≤ j∧j ≤ 80∧n = 80 - j∧S' = ⟨H ++ [⟨5,1,spR j,0,2,true⟩],H.length⟩∧env = [.msl gb 0 0 1 none,.int .i64 80,.Tk,.int .u64 0,.int .u64 80,.int .i64 80,.int .i64 80,.msl H.length 0 0 80 (some 80),.int .i64 j,u9,.bool false,.bool false,.bool false,.bool false,.bool false,u15,u16]) (79) (by omega) (⟨1,_,_,_,by omega,by omega,by omega,by simp [spR],rfl⟩) ?_
 rintro n env S' ⟨j,u9,u15,u16,hj1,hj,rfl,rfl,rfl⟩
 refine Aj (Ad ?_)
 refine Ae rfl (Ae rfl ?_)
 refine xo2 ?_
 refine Aa (Af ?_)
 refine Cm (by simp only [opd,zv]<;>exact rfl) (fun hcA=>?_) (fun hcA=>?_)
 ·
  have hlt : j < 80:=by have:=of_decide_eq_true hcA; omega
  have hstep:=spR_step hj1 hlt
  have hmn : ((80 : Int) < (j : Int)) = False:=eq_false (by omega)
  have hw : IntKind.i64.wrap ((j : Int) + ((min (min j 80) (80 - j) : Nat) : Int)) = ((j + min j (80 - j) : Nat) : Int):=by rw [IntKind.wrap_i64]; omega
  have h0 : (0 : Int) ≤ (j : Int):=by omega
  have hb1 : j ≤ 80:=hj
  have hl:=spR_len hj
  have zz3:=And.intro hmn (And.intro hw (And.intro h0 (And.intro hb1 (And.intro hl (@Int.toNat_natCast)))))
  refine Ap (Bt rfl (Av (Ad ?_)))
  refine Ae rfl (Ae rfl ?_)
  refine Ab (by simp only [zo,Pk,minD,zz3]<;>exact rfl) ?_
  refine Ag rfl (Aa ?_)
  refine Af ?_
  refine Ez ?_
  refine Cc rfl rfl (Cc rfl rfl ?_)
  refine Cc rfl rfl (Cr (by simp only [zl,zm,Ci,D8,Fz,Cz,Fe,Eb,zz2,Eb,zz3]<;>exact rfl) rfl ?_)
  refine Cc rfl rfl (Cc rfl rfl ?_)
  refine Cr (by simp only [zl,zm,Ci,D8,Fz,Cz,Fe,Eb,zz2,Eb,zz3]<;>exact rfl) rfl ?_
  refine Ca (by simp only [opd,zv,Aw,aop,LOp.loud,lop,rowsOf,Lp,Dh,Fy,kW,setAt,if_true,zm,Fb,zz2,Lp,Fy,kW,Nat.sub_zero]<;>exact rfl) (by simp only [Bd,zo]<;>exact rfl) rfl ?_
  refine Ce (by simp only [zo,Bo,List.length_take,Nat.sub_zero,zz3]<;>exact rfl) rfl rfl ?_
  refine Ee rfl rfl ?_
  refine De (Eh ?_)
  refine Gr (by simp only [ze]<;>exact rfl) ?_
  exact ⟨80 - (j + min j (80 - j)),by omega,j + min j (80 - j),_,_,_,by omega,by omega,rfl,by rw [← hstep]; simp only [List.set_cons_zero,Lo_,Nat.min_self],rfl⟩
 ·
  have hj' : j = 80:=by have:=of_decide_eq_false hcA; omega
  subst hj'
  refine Dq (H6 (Iz (Ig (Bt rfl (Ad ?_)))))
  refine Ae rfl (Ag rfl ?_)
  refine Aa (Af ?_)
  refine Br ?_
  refine ⟨_,by simp only [F45,Au,Bz,Dn,zg]<;>exact rfl,?_⟩
  simp [leave,LP]

theorem clone8_0 {d : Nat} (hd : 1 ≤ d) {H : List Sk} {g v n : Nat} {L : List UInt8} {gr : Bool} {cap : Option Nat} (hg : H[g]? = some ⟨5,1,bR L,v,2,gr⟩) (hn : n ≤ L.length) (hL : L.length ≤ 1000) (h0 : n = 0) (lo : Nat) :
  Bf LP NN d 83 [.msl g v 0 n cap] ⟨H,lo⟩ = some (.sl 1 [] (some 0),⟨H,lo⟩,false):=by
 have hgl:=Bh hg
 have hge : ¬ H.length ≤ g:=by omega
 subst h0
 have hem : ((bR L).take 0).isEmpty = true:=rfl
 refine Dl (F:=F83) rfl (by simp only [LP,Ar,zs,zm,hg,hge,show ((2 : Nat) = 1) = False from by decide,and_false,or_self]<;>exact rfl) rfl (by simp only [LP,zf,zm,Bool.and_false]; try rfl) (by simp only [F83,zv]<;>exact rfl) (by omega) ?_
 rintro d rfl
 refine Ad (Bj ?_)
 refine Aa (Af ?_)
 refine Aj (Ad ?_)
 refine Ae rfl (Ab (by simp only [zo,Oh]<;>exact rfl) ?_)
 refine Aa (Af ?_)
 skip
 refine Cq ?_
 refine Ap (Bt rfl (Ad ?_))
 refine Ab (by simp only [zl,Cw,List.replicate,Ar]<;>exact rfl) ?_
 refine Ae rfl (Ab (by simp only [zl,zm,Cf,Bl,Iu,hg]<;>exact rfl) ?_)
 refine Ag rfl (Aa ?_)
 refine Af ?_
 refine Br ?_
 refine ⟨_,by simp only [F83,Au,Bz,Dn,zg]<;>exact rfl,?_⟩
 simp [leave,LP,S9,Sw,snap,D.Sz,D.Sy,D.free,D.Td]

theorem clone8_1 {d : Nat} (hd : 1 ≤ d) {H : List Sk} {g v n : Nat} {L : List UInt8} {gr : Bool} {cap : Option Nat} (hg : H[g]? = some ⟨5,1,bR L,v,2,gr⟩) (hn : n ≤ L.length) (hL : L.length ≤ 1000) (h0 : 0 < n) (lo : Nat) :
  Bf LP NN d 83 [.msl g v 0 n cap] ⟨H,lo⟩ = some (.sl 1 (bR (L.take n)) none,⟨H,lo⟩,false):=by
 have hgl:=Bh hg
 have hge : ¬ H.length ≤ g:=by omega
 have htk : (bR L).take n = bR (L.take n):=by simp [bR,List.map_take]
 have hem : (bR (L.take n)).isEmpty = false:=by
  rw [List.isEmpty_eq_false_iff]; intro e
  have:=congrArg List.length e
  rw [bR_len,List.length_take,List.length_nil] at this; omega
 have hbb : ((bR (L.take n)).length * 1 ≤ 140737488355328) = True:=eq_true (by rw [bR_len,List.length_take]; omega)
 refine Dl (F:=F83) rfl (by simp only [LP,Ar,zs,zm,hg,hge,show ((2 : Nat) = 1) = False from by decide,and_false,or_self]<;>exact rfl) rfl (by simp only [LP,zf,zm,Bool.and_false]; try rfl) (by simp only [F83,zv]<;>exact rfl) (by omega) ?_
 rintro d rfl
 have zz2:=And.intro hg (And.intro hge (And.intro hem (And.intro hbb (And.intro htk (@Int.toNat_natCast)))))
 refine Ad (Bj ?_)
 refine Aa (Af ?_)
 refine Aj (Ad ?_)
 refine Ae rfl (Ab (by simp only [zo,Oh]<;>exact rfl) ?_)
 refine Aa (Af ?_)
 skip
 refine Cq ?_
 refine Ap (Bt rfl (Ad ?_))
 refine Ab (by simp only [zl,zm,Cw,List.replicate,Ar,show ((1 : Nat) = 0) = False from by decide]<;>exact rfl) ?_
 refine Ae rfl (Ab (by simp only [zl,zm,Cf,Bl,Iu,or_true,show ((1 : Nat) = 0) = False from by decide,zz2]<;>exact rfl) ?_)
 refine Ag rfl (Aa ?_)
 refine Af ?_
 refine Br ?_
 refine ⟨_,by simp only [F83,Au,Bz,Dn,zg]<;>exact rfl,?_⟩
 simp [leave,LP,S9,Sw,snap,D.Sz,D.Sy,D.free,D.Td]

theorem clip8_run {d : Nat} (hd : 1 ≤ d) (S : St) {x : D} {rows : List (List D)} (hS : SlD 1 rows x) : Bf LP NN d 82 [x] S = some (clipD x,S,false):=by
 have hsl:=hS.slice_clip
 refine run_pure (F:=F82) rfl (by simp only [LP,Ar,hS.Sw]<;>exact rfl) rfl (by simp only [LP,zm,hS.Sy]; try rfl) (by simp only [F82,zv]<;>exact rfl) (by omega) ?_
 rintro d rfl
 refine Ad (Bj ?_)
 refine Aa (Af ?_)
 refine Ad (Ae rfl ?_)
 refine Ae rfl (Ab (by simp only [zo,hS.len]<;>exact rfl) ?_)
 refine Ae rfl (Ab (by simp only [zo,hS.len]<;>exact rfl) ?_)
 refine Ab (by simp only [opd,zv,Aw,aop,LOp.loud,lop,if_true,Ci,Option.map_some,hsl]<;>exact rfl) ?_
 refine Ag rfl (Aa ?_)
 refine Af ?_
 refine Br ?_
 refine ⟨_,by simp only [F82,Au,Bz,Dn,zg]<;>exact rfl,?_⟩
 simp only [Dx,leave,hS.clip.S9,hS.clip.Sz,List.length_nil,Nat.le_refl,if_true,Bool.false_eq_true,if_false]

def Qs (L : List UInt8) (n : Nat) : D:=if n = 0 then .sl 1 [] (some 0) else .sl 1 (bR (L.take n)) none
theorem cloneY_S (L : List UInt8) (n : Nat) : SlD 1 (bR (L.take n)) (Qs L n):=by
 unfold Qs
 split
 ·
  subst_vars; exact .of _ _ _
 ·
  exact .of _ _ _
theorem R4 (L : List UInt8) {n : Nat} (h : n ≤ L.length) : clipD (Qs L n) = .sl 1 (bR (L.take n)) (some n):=by
 unfold Qs
 split
 ·
  subst_vars; rfl
 ·
  simp [clipD,bR_len,Nat.min_eq_left h]
theorem clone8_at {d : Nat} (hd : 1 ≤ d) {H : List Sk} {g v n : Nat} {L : List UInt8} {gr : Bool} {cap : Option Nat} (hg : H[g]? = some ⟨5,1,bR L,v,2,gr⟩) (hn : n ≤ L.length) (hL : L.length ≤ 1000) (lo : Nat) : Bf LP NN d 83 [.msl g v 0 n cap] ⟨H,lo⟩ = some (Qs L n,⟨H,lo⟩,false):=by
 unfold Qs
 split
 ·
  exact clone8_0 hd hg hn hL (by assumption) lo
 ·
  exact clone8_1 hd hg hn hL (by omega) lo
def tn : List UInt8→Nat
 | []=>0
 | a :: l=>if tn l = 0 then (if a = 32 then 0 else 1) else tn l + 1
theorem tn_snoc : ∀ (l : List UInt8) (c : UInt8),tn (l ++ [c]) = if c = 32 then tn l else l.length + 1
 | [],c=>by simp [tn]
 | a :: l, c => by
  simp only [List.cons_append,tn,tn_snoc l c]
  by_cases h : c = 32
  ·
   simp [h]
  ·
   simp [h]
theorem tn_take : ∀ (l : List UInt8) (n : Nat),n ≤ l.length→(∀ i c,n ≤ i→l[i]? = some c→c = 32)→tn l = tn (l.take n):=by
 intro l n hn h
 induction hk : l.length - n generalizing n with
 | zero =>
  have : n = l.length:=by omega
  rw [this,List.take_length]
 | succ k ih =>
  have h1:=ih (n + 1) (by omega) (fun i c hi hc=>h i c (by omega) hc) (by omega)
  rw [h1]
  have hlt : n < l.length:=by omega
  rw [List.take_succ_eq_append_getElem hlt,tn_snoc,if_pos (h n _ (Nat.le_refl _) (Lg hlt))]
theorem tn_at {l : List UInt8} {n : Nat} (hn : n ≤ l.length) (h : ∀ i c,n ≤ i→l[i]? = some c→c = 32) (h2 : n = 0 ∨ ∃ c,l[n - 1]? = some c∧c ≠ 32) : tn l = n:=by
 rw [tn_take l n hn h]
 rcases h2 with rfl | ⟨c,hc,hne⟩
 ·
  simp [tn]
 ·
  have hlt:=(List.getElem?_eq_some_iff.1 hc).1
  obtain ⟨m,rfl⟩ : ∃ m,n = m + 1:=⟨n - 1,by
   rcases Nat.eq_zero_or_pos n with h0 | h0
   ·
    subst h0
    exact absurd (h 0 c (Nat.le_refl _) hc) hne
   ·
    omega⟩
  rw [List.take_succ_eq_append_getElem (by omega),tn_snoc,if_neg]
  ·
   simp; omega
  ·
   rw [Nat.add_sub_cancel,Lg (by omega)] at hc
   cases hc; exact hne
theorem u8_32 (b : UInt8) : (((b.toNat : Nat) : Int) == 32) = decide (b = 32):=by
 by_cases h : b = 32
 ·
  subst h; rfl
 ·
  rw [decide_eq_false h,beq_eq_false_iff_ne]
  intro e
  apply h
  have e1 : b.toNat = 32:=by omega
  exact UInt8.toNat_inj.1 e1

theorem trim_run {d : Nat} (hd : 3 ≤ d) {H : List Sk} {g v : Nat} {L : List UInt8} {gr : Bool} {cap : Option Nat} (hg : H[g]? = some ⟨5,1,bR L,v,2,gr⟩) (hL : L.length ≤ 1000) (lo : Nat) :
  Bf LP NN d 47 [.msl g v 0 L.length cap] ⟨H,lo⟩ = some (.sl 1 (bR (L.take (tn L))) (some (tn L)),⟨H,lo⟩,false):=by
 have hgl:=Bh hg
 have hge : ¬ H.length ≤ g:=by omega
 have hbo:=bR_len L
 refine Dl (F:=F47) rfl (by simp only [LP,Ar,zs,zm,hg,hge,show ((2 : Nat) = 1) = False from by decide,and_false,or_self]<;>exact rfl) rfl (by simp only [LP,zf,zm,Bool.and_false]; try rfl) (by simp only [F47,zv]<;>exact rfl) (by omega) ?_
 rintro d rfl
 refine Ad (Bj ?_)
 refine Aa (Af ?_)
 refine Ad (Ae rfl ?_)
 refine Lc ?_
 refine Ag rfl (Aa ?_)
 refine Af ?_
 refine Aj (Av ?_)
 refine D5 (fun n env S'=>∃ (k : Nat) (u3 : D),k ≤ L.length∧n = k + 0∧S' = ⟨H,H.length⟩∧env = [.msl g v 0 L.length cap,.Tk,.int .i64 k,u3]∧(∀ i c,k ≤ i→L[i]? = some c→c = 32)) (L.length) (by omega) (⟨L.length,_,by omega,rfl,rfl,rfl,fun i c h1 h2=>absurd (List.getElem?_eq_some_iff.1 h2).1 (by omega)⟩) ?_
 rintro n env S' ⟨k,u3,hk,hnk,rfl,rfl,hall⟩
 refine Aj (Ad ?_)
 refine Ae rfl (xo2 ?_)
 refine Ag rfl ?_
 refine Lu 0 (by simp only [zv]<;>exact rfl) (by simp only [zn]<;>exact rfl) (by simp only [zn]<;>exact rfl) (fun hgA=>?_) (fun hgA=>?_)
 ·
  have hlt : 0 < k:=by have:=of_decide_eq_true hgA; omega
  have hw : IntKind.i64.wrap ((k : Int) - 1) = ((k - 1 : Nat) : Int):=by rw [IntKind.wrap_i64]; omega
  have hkl : k - 1 < L.length:=by omega
  have hbk:=Lg hkl
  have hbr:=bR_at hbk
  have h0 : (0 : Int) ≤ ((k - 1 : Nat) : Int):=by omega
  have h1 : ((k - 1 : Nat) : Int) < ((L.length : Nat) : Int):=by omega
  have zz2:=And.intro hw (And.intro hbr (And.intro h0 (h1)))
  refine Ah rfl (Ae rfl ?_)
  refine Ah rfl (Ae rfl ?_)
  refine Ah rfl (Ns ?_)
  refine Ah rfl (Ab (by simp only [zl,zm,Cj,Int.toNat_natCast,hg,zz2]<;>exact rfl) ?_)
  refine Ah rfl (Ab (by simp only [zl,zm,zd,Ay,List.take,List.drop,hg,zz2]<;>exact rfl) ?_)
  refine Ah rfl (xo2 ?_)
  refine xo1 ?_
  refine Aa (Af ?_)
  refine Cm (by simp only [opd,zv]<;>exact rfl) (fun hcAT=>?_) (fun hcAT=>?_)
  ·
   refine Ap (Bt rfl (Av (Bc ?_)))
   refine Ae rfl (Ns ?_)
   refine Ag rfl ?_
   refine Aa (Eh ?_)
   refine Gr (by simp only [ze]<;>exact rfl) ?_
   refine ⟨k - 1,by omega,k - 1,_,by omega,rfl,rfl,rfl,fun i c h1 h2=>?_⟩
   rcases Nat.eq_or_lt_of_le h1 with e | e
   ·
    rw [← e,hbk] at h2
    cases h2
    have h:=hcAT; rw [u8_32] at h; exact of_decide_eq_true h
   ·
    exact hall i c (by omega) h2
  ·
   have htn : tn L = k:=tn_at hk hall (.inr ⟨_,hbk,by intro e; rw [e] at hcAT; simp at hcAT⟩)
   have hcl:=fun lo cap=>clone8_at (d:=d) (by omega) (cap:=cap) hg hk hL lo
   have hcy:=clip8_run (d:=d) (by omega) ⟨H,H.length⟩ (cloneY_S L k)
   rw [R4 L hk] at hcy
   have hkk : (k ≤ L.length) = True:=eq_true hk
   have hk0 : ((0 : Int) ≤ (k : Int)) = True:=eq_true (by omega)
   refine Dq (H6 (Iz (Ig (Bt rfl (Ad ?_)))))
   refine Ae rfl (Ae rfl ?_)
   refine Ab (by simp only [zl,zm,Ci,D8,Fz,Cz,Fe,Eb,hg,hkk,hk0,Nat.sub_zero,Int.toNat_natCast,Nat.zero_le]<;>exact rfl) ?_
   refine Ab (by simp only [zo]; exact hcl _ _) ?_
   refine Ab (by simp only [zo]; exact hcy) ?_
   refine Ag rfl (Aa ?_)
   refine Af ?_
   refine Br ?_
   refine ⟨_,by simp only [F47,Au,Bz,Dn,zg]<;>exact rfl,?_⟩
   simp [leave,LP,S9,Sw,snap,D.Sz,D.Sy,D.free,D.Td,htn]
 ·
  have htn : tn L = k:=tn_at hk hall (.inl (by have:=of_decide_eq_false hgA; omega))
  have hcl:=fun lo cap=>clone8_at (d:=d) (by omega) (cap:=cap) hg hk hL lo
  have hcy:=clip8_run (d:=d) (by omega) ⟨H,H.length⟩ (cloneY_S L k)
  rw [R4 L hk] at hcy
  have hkk : (k ≤ L.length) = True:=eq_true hk
  have hk0 : ((0 : Int) ≤ (k : Int)) = True:=eq_true (by omega)
  refine Bb rfl rfl ?_
  refine Bb rfl rfl ?_
  refine Bb rfl rfl ?_
  refine Bb rfl rfl ?_
  refine Bb rfl rfl ?_
  refine Bb rfl rfl ?_
  refine xo1 ?_
  refine Aa (Af ?_)
  refine Ie (by simp only [opd,zv]) ?_
  refine Dq (H6 (Iz (Ig (Bt rfl (Ad ?_)))))
  refine Ae rfl (Ae rfl ?_)
  refine Ab (by simp only [zl,zm,Ci,D8,Fz,Cz,Fe,Eb,hg,hkk,hk0,Nat.sub_zero,Int.toNat_natCast,Nat.zero_le]<;>exact rfl) ?_
  refine Ab (by simp only [zo]; exact hcl _ _) ?_
  refine Ab (by simp only [zo]; exact hcy) ?_
  refine Ag rfl (Aa ?_)
  refine Af ?_
  refine Br ?_
  refine ⟨_,by simp only [F47,Au,Bz,Dn,zg]<;>exact rfl,?_⟩
  simp [leave,LP,S9,Sw,snap,D.Sz,D.Sy,D.free,D.Td,htn]

theorem prn_tab (d : Nat) (S : St) : (List.range 256).map (fun k=>Da LP NN (d + 5) 46 [.str ⟨#[UInt8.ofNat k]⟩] S) = (List.range 256).map (fun k=>some (.bool (decide (32 ≤ k) && decide (k ≤ 126)),S,false)):=by kernel_rfl
theorem prn_run {d : Nat} (hd : 5 ≤ d) (S : St) (b : UInt8) : Bf LP NN d 46 [.str ⟨#[b]⟩] S = some (.bool (decide (32 ≤ b.toNat) && decide (b.toNat ≤ 126)),S,false):=by
 obtain ⟨d,rfl⟩ : ∃ d',d = d' + 5:=⟨d - 5,by omega⟩
 have:=fast_ok (Ii (prn_tab d S) b.toNat b.toNat_lt)
 rwa [UInt8.ofNat_toNat] at this

def prn (b : UInt8) : UInt8:=if decide (32 ≤ b.toNat) && decide (b.toNat ≤ 126) then b else 46
abbrev Il:=Nat→Nat→UInt8
def Eo (G : Il) (r : Nat) : List UInt8:=(List.range 80).map (G r)
theorem M9 (G : Il) (r : Nat) : (Eo G r).length = 80:=by simp [Eo]
def Ep (G : Il) (f : FM) (bs : List UInt8) (k : Nat) : Il:=fun r c=>if r + 1 = f.line∧f.column ≤ c + 1∧c + 1 < f.column + k then prn (bs.getD (c + 1 - f.column) 0) else G r c
def G0 : Il:=fun _ _=>32
def Ea (P : List (FM × List UInt8)) : Il:=P.foldl (fun G p=>Ep G p.1 p.2 p.1.size) G0
theorem paintK_0 (G : Il) (f : FM) (bs : List UInt8) : Ep G f bs 0 = G:=by
 funext r c
 unfold Ep
 rw [if_neg]
 intro h; omega
theorem Ro {P : List (FM × List UInt8)} {i : Nat} (h : i < P.length) : Ea (P.take (i + 1)) = Ep (Ea (P.take i)) P[i].1 P[i].2 P[i].1.size:=by
 unfold Ea
 rw [List.take_succ_eq_append_getElem h,List.foldl_append]
 rfl
theorem Q8 (G : Il) (f : FM) (bs : List UInt8) {k : Nat} (hk : k < f.size) : ∀ r,Eo (Ep G f bs (k + 1)) r = if r = f.line - 1 then (Eo (Ep G f bs k) r).set (f.column - 1 + k) (prn (bs.getD k 0)) else Eo (Ep G f bs k) r:=by
 intro r
 have hl:=f.line_le
 have hc:=f.column_le
 split
 ·
  rename_i hr
  refine List.ext_getElem? fun c=>?_
  rw [List.getElem?_set]
  simp only [Eo,List.length_map,List.length_range,Lp_]
  by_cases hc80 : c < 80
  ·
   rw [List.getElem?_range hc80]
   simp only [Option.map_some]
   by_cases he : f.column - 1 + k = c
   ·
    rw [if_pos he,if_pos (by omega)]
    unfold Ep
    rw [if_pos (by omega),show c + 1 - f.column = k from by omega]
   ·
    rw [if_neg he]
    unfold Ep
    congr 1
    by_cases hx : r + 1 = f.line∧f.column ≤ c + 1∧c + 1 < f.column + k
    ·
     rw [if_pos hx,if_pos (by omega)]
    ·
     rw [if_neg hx,if_neg (by omega)]
  ·
   have hn : (List.range 80)[c]? = none:=by simp; omega
   rw [hn]
   have : ¬ f.column - 1 + k = c:=by omega
   rw [if_neg this]; rfl
 ·
  rename_i hr
  unfold Eo
  refine List.map_congr_left fun c hc=>?_
  unfold Ep
  rw [if_neg (by omega),if_neg (by omega)]
def lnO (L : List UInt8) : Sk:=⟨5,1,bR L,0,2,true⟩
def b32O : Sk:=⟨5,1,[[.int .u8 32]],0,2,false⟩
def LNi (G : Il) (i : Nat) : List Sk:=(List.range i).flatMap fun r=>[b32O,lnO (Eo G r)]
theorem Je (G : Il) (i : Nat) : (LNi G i).length = 2 * i:=by
 induction i with
 | zero=>rfl
 | succ i ih=>unfold LNi at ih ⊢; rw [List.range_succ,List.flatMap_append,Ll_,ih]; simp; omega
theorem Py (G : Il) (i : Nat) : LNi G (i + 1) = LNi G i ++ [b32O,lnO (Eo G i)]:=by
 unfold LNi
 rw [List.range_succ,List.flatMap_append]; simp
theorem LNi_at (G : Il) : ∀ {i r : Nat},r < i→(LNi G i)[2 * r + 1]? = some (lnO (Eo G r))
 | i + 1, r, h => by
  rw [Py]
  by_cases hr : r < i
  ·
   rw [La_ (by rw [Je]; omega)]; exact LNi_at G hr
  ·
   have : r = i:=by omega
   subst this
   rw [Lr_ (by rw [Je]; omega),Je]
   simp [show 2 * r + 1 - 2 * r = 1 from by omega]
theorem LNi_set (G G' : Il) : ∀ {i r : Nat} {L : List UInt8},r < i→(∀ j,Eo G' j = if j = r then L else Eo G j)→(LNi G i).set (2 * r + 1) (lnO L) = LNi G' i
 | i + 1, r, L, h, hG => by
  rw [Py,Py]
  by_cases hr : r < i
  ·
   rw [List.set_append_left _ _ (by rw [Je]; omega),LNi_set G G' hr hG,hG i,if_neg (by omega)]
  ·
   have : r = i:=by omega
   subst this
   rw [List.set_append_right _ _ (by rw [Je]; omega),Je,show 2 * r + 1 - 2 * r = 1 from by omega,hG r,if_pos rfl]
   have hsame : LNi G r = LNi G' r:=by
    unfold LNi
    rw [List.flatMap_def,List.flatMap_def]
    congr 1
    refine List.map_congr_left fun j hj=>?_
    have:=List.mem_range.1 hj
    rw [hG j,if_neg (by omega)]
   rw [hsame]; rfl

def Ob (n0 i : Nat) : List (List D):=(List.range 24).map fun r=>if r < i then [.msl (n0 + (3 + 2 * r)) 0 0 80 (some 80)] else [.Tk]
def GLi (n0 i : Nat) : Sk:=⟨42,1,Ob n0 i,0,0,false⟩
theorem Hq {n0 i r : Nat} (h : r < 24) : (Ob n0 i)[r]? = some (if r < i then [.msl (n0 + (3 + 2 * r)) 0 0 80 (some 80)] else [.Tk]):=by simp [Ob,h]
theorem Kv (n0 i : Nat) : (Ob n0 i).length = 24:=by simp [Ob]
theorem glRows_set {n0 i : Nat} (h : i < 24) : (Ob n0 i).set i [.msl (n0 + (3 + 2 * i)) 0 0 80 (some 80)] = Ob n0 (i + 1):=by
 refine List.ext_getElem? fun j=>?_
 rw [List.getElem?_set]
 by_cases hj : i = j
 ·
  subst hj
  rw [if_pos rfl,if_pos (by rw [Kv]; exact h),Hq h,if_pos (by omega)]
 ·
  rw [if_neg hj]
  by_cases h24 : j < 24
  ·
   rw [Hq h24,Hq h24]
   by_cases hi : j < i
   ·
    rw [if_pos hi,if_pos (by omega)]
   ·
    rw [if_neg hi,if_neg (by omega)]
  ·
   rw [List.getElem?_eq_none (by rw [Kv]; omega),List.getElem?_eq_none (by rw [Kv]; omega)]
def HB (sb : Sk) (n0 : Nat) (G : Il) : List Sk:=sb :: GLi n0 24 :: LNi G 24
theorem Ms (sb : Sk) (n0 : Nat) (G : Il) : (HB sb n0 G).length = 50:=by simp [HB,Je]
section
variable (H : List Sk) (sb : Sk) (G : Il) (t : List Sk)
theorem HB_sb : (H ++ (HB sb H.length G ++ t))[H.length]? = some sb:=by rw [Di]; rfl
theorem HB_gl : (H ++ (HB sb H.length G ++ t))[H.length + 1]? = some (GLi H.length 24):=by rw [Bu]; rfl
theorem HB_ln {r : Nat} (h : r < 24) : (H ++ (HB sb H.length G ++ t))[H.length + (3 + 2 * r)]? = some (lnO (Eo G r)):=by
 rw [Bu,La_ (by rw [Ms]; omega),show 3 + 2 * r = (2 * r + 1) + 1 + 1 from by omega]
 exact LNi_at G h
theorem HB_set {G' : Il} {r : Nat} {L : List UInt8} (h : r < 24) (hG : ∀ j,Eo G' j = if j = r then L else Eo G j) : (H ++ (HB sb H.length G ++ t)).set (H.length + (3 + 2 * r)) (lnO L) = H ++ (HB sb H.length G' ++ t):=by
 rw [Et,List.set_append_left _ _ (by rw [Ms]; omega),show 3 + 2 * r = (2 * r + 1) + 1 + 1 from by omega]
 unfold HB
 rw [List.set_cons_succ,List.set_cons_succ,LNi_set G G' h hG]
theorem HB_new (o : Sk) (m : List Sk) : (H ++ (HB sb H.length G ++ (t ++ o :: m)))[H.length + (50 + t.length)]? = some o:=by
 rw [Bu,← Lo_,Lr_ (by simp [Ms]),Ll_,Ms]; simp
theorem HB_newS (o y : Sk) (m : List Sk) : (H ++ (HB sb H.length G ++ (t ++ o :: m))).set (H.length + (50 + t.length)) y = H ++ (HB sb H.length G ++ (t ++ y :: m)):=by
 rw [Et,← Lo_,List.set_append_right _ _ (by simp [Ms]),Ll_,Ms]; simp
end
theorem bR_set (L : List UInt8) (c : Nat) (b : UInt8) : (bR L).set c [.int .u8 b.toNat] = bR (L.set c b):=by simp [bR,List.map_set]
theorem spR_blank (r : Nat) : spR 80 = bR (Eo G0 r):=by
 have : Eo G0 r = List.replicate 80 32:=by
  show (List.range 80).map (fun _=>(32 : UInt8)) = _
  rw [List.map_const',List.length_range]
 rw [this]
 simp [spR,bR]
structure SrcV (H : List Sk) (x : D) (vals : List D) (gv vv : Nat) : Prop where
 len : Iw false x = some (.int .i64 (vals.length : Nat))
 cell : x.Tc = true
 Sw : ∀ m l,Sw m (H ++ l) x = some x
 ia : ∀ l lo i,i < vals.length→Fg ⟨H ++ l,lo⟩ 1 x (.int .i64 (i : Nat)) = some (.ptr gv vv i 0)
 ld : ∀ l lo i v,vals[i]? = some v→Gq 1 false ⟨H ++ l,lo⟩ (.ptr gv vv i 0) = some v
structure RdB (H : List Sk) (w : D) (bs : List UInt8) : Prop where
 len : Iw false w = some (.int .i64 (bs.length : Nat))
 cell : w.Tc = true
 rd : ∀ (k : Nat) (b : UInt8),bs[k]? = some b→∃ A,∀ l lo,Fg ⟨H ++ l,lo⟩ 1 w (.int .i64 (k : Nat)) = some A∧Gq 1 false ⟨H ++ l,lo⟩ A = some (.int .u8 (b.toNat : Nat))
theorem SlD.rdb {w : D} {bs : List UInt8} (h : SlD 1 (bR bs) w) (H : List Sk) : RdB H w bs:=by
 refine ⟨by rw [h.len,bR_len],h.Tc,fun k b hb=>⟨.Tn [.int .u8 (b.toNat : Nat)] 0,fun l lo=>⟨h.iaddrN _ .i64 (bR_at hb),rfl⟩⟩⟩
def Fits (H : List Sk) (f : FM) (bs : List UInt8) (v : D) : Prop:=bs.length = f.size∧if f.kind = 1 then bs = f.text.data.toList else RdB H v bs
def trS (G : Il) (r : Nat) : ByteArray:=⟨((Eo G r).take (tn (Eo G r))).toArray⟩
def G8 (G : Il) (i : Nat) : List (List D):=(List.range 24).map fun r=>if r < i then [.str (trS G r)] else [.str ⟨#[]⟩]
theorem Km {G : Il} {i r : Nat} (h : r < 24) : (G8 G i)[r]? = some (if r < i then [.str (trS G r)] else [.str ⟨#[]⟩]):=by simp [G8,h]
theorem H8 (G : Il) (i : Nat) : (G8 G i).length = 24:=by simp [G8]
theorem outRows_set {G : Il} {i : Nat} (h : i < 24) : (G8 G i).set i [.str (trS G i)] = G8 G (i + 1):=by
 refine List.ext_getElem? fun j=>?_
 rw [List.getElem?_set]
 by_cases hj : i = j
 ·
  subst hj
  rw [if_pos rfl,if_pos (by rw [H8]; exact h),Km h,if_pos (by omega)]
 ·
  rw [if_neg hj]
  by_cases h24 : j < 24
  ·
   rw [Km h24,Km h24]
   by_cases hi : j < i
   ·
    rw [if_pos hi,if_pos (by omega)]
   ·
    rw [if_neg hi,if_neg (by omega)]
  ·
   rw [List.getElem?_eq_none (by rw [H8]; omega),List.getElem?_eq_none (by rw [H8]; omega)]

end Go.Proofs.YtkaedpmmopigkaaGreatDoor

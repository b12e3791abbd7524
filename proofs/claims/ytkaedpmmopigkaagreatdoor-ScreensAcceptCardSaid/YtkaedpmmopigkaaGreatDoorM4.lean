/- Proved here: parts of the proof, joined (Shelf, LowK, Low1, Low2, Low, LoRp, S0, K1, K2, K3, K4, K5, K6, K7): an abstract machine, its soundness, what functions of the program compute in it; no condition. -/
import Derived.Shelf.Strings.Repeat
import Derived.Test.YtkaedpmmopigkaaGreatDoorProg
import Derived.Test.YtkaedpmmopigkaaGreatDoorM3
namespace Go.Proofs
open Go.Shelf
def Tryz.laysRepeat_ren:Go.Shelf.Ren:=⟨fun | 105=>58 | 212=>78 | 99=>97 | 165=>101 | 166=>57 | 170=>102 | 169=>59 | 263=>124 | 264=>125 | 206=>149 | 240=>100 | 241=>152 | 276=>151 | 277=>79 | n=>n,fun | 9=>9 | 3=>3 | 4=>4 | 20=>20 | 0=>0 | 46=>139 | 109=>140 | 5=>5 | 72=>113 | 76=>120 | 51=>181 | 146=>182 | 53=>184 | 148=>185 | 70=>111 | 37=>42 | 75=>119 | 127=>166 | 164=>206 | 80=>93 | n=>n,fun | n=>n⟩
theorem Tryz.laysRepeat:Go.Proofs.Lays.n105 Tryz.prog Tryz.laysRepeat_ren:={
  mixed:=by kernel_rfl
  f99:=Tryz.func97.trans (congrArg some (by kernel_rfl))
  f105:=Tryz.func58.trans (congrArg some (by kernel_rfl))
  f165:=Tryz.func101.trans (congrArg some (by kernel_rfl))
  f166:=Tryz.func57.trans (congrArg some (by kernel_rfl))
  f169:=Tryz.func59.trans (congrArg some (by kernel_rfl))
  f170:=Tryz.func102.trans (congrArg some (by kernel_rfl))
  f206:=Tryz.func149.trans (congrArg some (by kernel_rfl))
  f212:=Tryz.func78.trans (congrArg some (by kernel_rfl))
  f240:=Tryz.func100.trans (congrArg some (by kernel_rfl))
  f241:=Tryz.func152.trans (congrArg some (by kernel_rfl))
  f263:=Tryz.func124.trans (congrArg some (by kernel_rfl))
  f264:=Tryz.func125.trans (congrArg some (by kernel_rfl))
  f276:=Tryz.func151.trans (congrArg some (by kernel_rfl))
  f277:=Tryz.func79.trans (congrArg some (by kernel_rfl))
  t0:=Tryz.underlying0
  a0:=Tryz.isAgg0
  z0:=Tryz.sizeOf0
  v0:=Tryz.zeroValue0
  t3:=Tryz.underlying3
  a3:=Tryz.isAgg3
  z3:=Tryz.sizeOf3
  v3:=Tryz.zeroValue3
  t4:=Tryz.underlying4
  a4:=Tryz.isAgg4
  z4:=Tryz.sizeOf4
  v4:=Tryz.zeroValue4
  t5:=Tryz.underlying5
  a5:=Tryz.isAgg5
  z5:=Tryz.sizeOf5
  v5:=Tryz.zeroValue5
  t9:=Tryz.underlying9
  a9:=Tryz.isAgg9
  z9:=Tryz.sizeOf9
  v9:=Tryz.zeroValue9
  t20:=Tryz.underlying20
  a20:=Tryz.isAgg20
  z20:=Tryz.sizeOf20
  v20:=Tryz.zeroValue20
  t37:=Tryz.underlying42
  a37:=Tryz.isAgg42
  z37:=Tryz.sizeOf42
  v37:=Tryz.zeroValue42
  t46:=Tryz.underlying139
  a46:=Tryz.isAgg139
  z46:=Tryz.sizeOf139
  v46:=Tryz.zeroValue139
  t51:=Tryz.underlying181
  a51:=Tryz.isAgg181
  z51:=Tryz.sizeOf181
  v51:=Tryz.zeroValue181
  t53:=Tryz.underlying184
  a53:=Tryz.isAgg184
  z53:=Tryz.sizeOf184
  v53:=Tryz.zeroValue184
  t70:=Tryz.underlying111
  a70:=Tryz.isAgg111
  z70:=Tryz.sizeOf111
  v70:=Tryz.zeroValue111
  t72:=Tryz.underlying113
  a72:=Tryz.isAgg113
  z72:=Tryz.sizeOf113
  v72:=Tryz.zeroValue113
  t75:=Tryz.underlying119
  a75:=Tryz.isAgg119
  z75:=Tryz.sizeOf119
  v75:=Tryz.zeroValue119
  t76:=Tryz.underlying120
  a76:=Tryz.isAgg120
  z76:=Tryz.sizeOf120
  v76:=Tryz.zeroValue120
  t109:=Tryz.underlying140
  a109:=Tryz.isAgg140
  z109:=Tryz.sizeOf140
  v109:=Tryz.zeroValue140
  t127:=Tryz.underlying166
  a127:=Tryz.isAgg166
  z127:=Tryz.sizeOf166
  v127:=Tryz.zeroValue166
  t146:=Tryz.underlying182
  a146:=Tryz.isAgg182
  z146:=Tryz.sizeOf182
  v146:=Tryz.zeroValue182
  t148:=Tryz.underlying185
  a148:=Tryz.isAgg185
  z148:=Tryz.sizeOf185
  v148:=Tryz.zeroValue185
  t164:=Tryz.underlying206
  a164:=Tryz.isAgg206
  z164:=Tryz.sizeOf206
  v164:=Tryz.zeroValue206 }
end Go.Proofs
namespace Go.Proofs.YtkaedpmmopigkaaGreatDoor
set_option linter.unusedVariables false
abbrev tb0:List D:=(List.replicate 256 (.bool false))
abbrev tb1:List D:=[.int .u8 0,.int .u8 0,.int .u8 0,.int .u8 0,.int .u8 0,.int .u8 0,.int .u8 0,.int .u8 0,.int .u8 0,.int .u8 1,.int .u8 1,.int .u8 1,.int .u8 1,.int .u8 1,.int .u8 0,.int .u8 0,.int .u8 0,.int .u8 0,.int .u8 0,.int .u8 0,.int .u8 0,.int .u8 0,.int .u8 0,.int .u8 0,.int .u8 0,.int .u8 0,.int .u8 0,.int .u8 0,.int .u8 0,.int .u8 0,.int .u8 0,.int .u8 0,.int .u8 1,.int .u8 0,.int .u8 0,.int .u8 0,.int .u8 0,.int .u8 0,.int .u8 0,.int .u8 0,.int .u8 0,.int .u8 0,.int .u8 0,.int .u8 0,.int .u8 0,.int .u8 0,.int .u8 0,.int .u8 0,.int .u8 0,.int .u8 0,.int .u8 0,.int .u8 0,.int .u8 0,.int .u8 0,.int .u8 0,.int .u8 0,.int .u8 0,.int .u8 0,.int .u8 0,.int .u8 0,.int .u8 0,.int .u8 0,.int .u8 0,.int .u8 0,.int .u8 0,.int .u8 0,.int .u8 0,.int .u8 0,.int .u8 0,.int .u8 0,.int .u8 0,.int .u8 0,.int .u8 0,.int .u8 0,.int .u8 0,.int .u8 0,.int .u8 0,.int .u8 0,.int .u8 0,.int .u8 0,.int .u8 0,.int .u8 0,.int .u8 0,.int .u8 0,.int .u8 0,.int .u8 0,.int .u8 0,.int .u8 0,.int .u8 0,.int .u8 0,.int .u8 0,.int .u8 0,.int .u8 0,.int .u8 0,.int .u8 0,.int .u8 0,.int .u8 0,.int .u8 0,.int .u8 0,.int .u8 0,.int .u8 0,.int .u8 0,.int .u8 0,.int .u8 0,.int .u8 0,.int .u8 0,.int .u8 0,.int .u8 0,.int .u8 0,.int .u8 0,.int .u8 0,.int .u8 0,.int .u8 0,.int .u8 0,.int .u8 0,.int .u8 0,.int .u8 0,.int .u8 0,.int .u8 0,.int .u8 0,.int .u8 0,.int .u8 0,.int .u8 0,.int .u8 0,.int .u8 0,.int .u8 0,.int .u8 0,.int .u8 0,.int .u8 0,.int .u8 0,.int .u8 0,.int .u8 0,.int .u8 0,.int .u8 0,.int .u8 0,.int .u8 0,.int .u8 0,.int .u8 0,.int .u8 0,.int .u8 0,.int .u8 0,.int .u8 0,.int .u8 0,.int .u8 0,.int .u8 0,.int .u8 0,.int .u8 0,.int .u8 0,.int .u8 0,.int .u8 0,.int .u8 0,.int .u8 0,.int .u8 0,.int .u8 0,.int .u8 0,.int .u8 0,.int .u8 0,.int .u8 0,.int .u8 0,.int .u8 0,.int .u8 0,.int .u8 0,.int .u8 0,.int .u8 0,.int .u8 0,.int .u8 0,.int .u8 0,.int .u8 0,.int .u8 0,.int .u8 0,.int .u8 0,.int .u8 0,.int .u8 0,.int .u8 0,.int .u8 0,.int .u8 0,.int .u8 0,.int .u8 0,.int .u8 0,.int .u8 0,.int .u8 0,.int .u8 0,.int .u8 0,.int .u8 0,.int .u8 0,.int .u8 0,.int .u8 0,.int .u8 0,.int .u8 0,.int .u8 0,.int .u8 0,.int .u8 0,.int .u8 0,.int .u8 0,.int .u8 0,.int .u8 0,.int .u8 0,.int .u8 0,.int .u8 0,.int .u8 0,.int .u8 0,.int .u8 0,.int .u8 0,.int .u8 0,.int .u8 0,.int .u8 0,.int .u8 0,.int .u8 0,.int .u8 0,.int .u8 0,.int .u8 0,.int .u8 0,.int .u8 0,.int .u8 0,.int .u8 0,.int .u8 0,.int .u8 0,.int .u8 0,.int .u8 0,.int .u8 0,.int .u8 0,.int .u8 0,.int .u8 0,.int .u8 0,.int .u8 0,.int .u8 0,.int .u8 0,.int .u8 0,.int .u8 0,.int .u8 0,.int .u8 0,.int .u8 0,.int .u8 0,.int .u8 0,.int .u8 0,.int .u8 0,.int .u8 0,.int .u8 0,.int .u8 0,.int .u8 0,.int .u8 0,.int .u8 0,.int .u8 0,.int .u8 0,.int .u8 0,.int .u8 0,.int .u8 0,.int .u8 0,.int .u8 0,.int .u8 0,.int .u8 0,.int .u8 0,.int .u8 0,.int .u8 0,.int .u8 0,.int .u8 0]
def GT:Nat→Option (List D)
  | 0=>some [.int .u8 36,.int .u8 43,.int .u8 45]
  | 2=>some [.int .u8 63,.int .u8 15,.int .u8 63,.int .u8 15,.int .u8 61,.int .u8 61]
  | 5=>some [.int .u8 66,.int .u8 32,.int .u8 48,.int .u8 48,.int .u8 47,.int .u8 47,.int .u8 44,.int .u8 44,.int .u8 46,.int .u8 46,.int .u8 36,.int .u8 36]
  | 8=>some tb1
  | 10=>some [.int .u64 1,.int .u64 10,.int .u64 100,.int .u64 1000,.int .u64 10000,.int .u64 100000,.int .u64 1000000,.int .u64 10000000,.int .u64 100000000,.int .u64 1000000000,.int .u64 10000000000,.int .u64 100000000000,.int .u64 1000000000000,.int .u64 10000000000000,.int .u64 100000000000000,.int .u64 1000000000000000,.int .u64 10000000000000000,.int .u64 100000000000000000,.int .u64 1000000000000000000,.int .u64 10000000000000000000]
  | _=>none
def KD (mt:List Nat) (bx:List Nat):Kd:=⟨fun e=>if List.contains [36,48,42,74,99] e then 0 else if mt.contains e then 2 else 1,GT,bxL bx⟩
def repB (s:ByteArray):Nat→List UInt8
  | 0=>[]
  | n+1=>s.data.toList++repB s n
def LE:FuncId→List D→Option D
  | 58,[.str s,.int .i64 n]=>if 0≤n∧n≤9223372036854775807∧s.size*n.toNat≤140737488355328 then some (.str ⟨(repB s n.toNat).toArray⟩) else none
  | _,_=>none
abbrev qe (n:Nat):Vb:=⟨.mv,[.env n],none,[],none⟩
abbrev ql (n:Nat):Vb:=⟨.mv,[.loc n],none,[],none⟩
abbrev qi (n:Int):Vb:=⟨.mv,[.const (.int .i64 n)],none,[],none⟩
abbrev qbb (b:Bool):Vb:=⟨.mv,[.const (.bool b)],none,[],none⟩
abbrev qd (s n:Nat):Vb:=⟨.load s false,[.loc n],none,[],none⟩
abbrev qfe (o n:Nat):Vb:=⟨.Vt o,[.env n],none,[],none⟩
abbrev qx (i n:Nat):Vb:=⟨.extract i,[.loc n],none,[],none⟩
abbrev qpt (a b:Nat):Vb:=⟨.pick,[.loc a,.const (.bool true),.loc b],none,[],none⟩
abbrev qpf (a b:Nat):Vb:=⟨.pick,[.loc a,.loc b,.const (.bool false)],none,[],none⟩
abbrev qk (f n:Nat):Vb:=⟨.call f,[.loc n],none,[],none⟩
abbrev qkk (f n m:Nat):Vb:=⟨.call f,[.loc n,.loc m],none,[],none⟩
abbrev qln (b:Bool) (n:Nat):Vb:=⟨.len b,[.loc n],none,[],none⟩
abbrev qfl (o n:Nat):Vb:=⟨.Vt o,[.loc n],none,[],none⟩
abbrev qad (n:Nat) (i:Int):Vb:=⟨.bin .add,[.loc n,.const (.int .i64 i)],none,[],none⟩
abbrev qae (n:Nat) (i:Int):Vb:=⟨.bin .add,[.env n,.const (.int .i64 i)],none,[],none⟩
abbrev qlt (n m:Nat):Vb:=⟨.bin .lss,[.env n,.env m],none,[],none⟩
abbrev qnl (n:Nat):Vb:=⟨.nilck,[.loc n],none,[],none⟩
abbrev qso (s a b:Nat):Vb:=⟨.store s,[.loc a,.loc b],none,[],none⟩
abbrev qia (s a b:Nat):Vb:=⟨.Vs s,[.loc a,.loc b],none,[],none⟩
abbrev qun (n:Nat):Vb:=⟨.un .not,[.loc n],none,[],none⟩
abbrev qle (b:Bool) (n:Nat):Vb:=⟨.len b,[.env n],none,[],none⟩
abbrev qde (s n:Nat):Vb:=⟨.load s true,[.env n],none,[],none⟩
abbrev qdt (s n:Nat):Vb:=⟨.load s true,[.loc n],none,[],none⟩
abbrev qno:Vb:=⟨.mv,[.const .Vu],none,[],none⟩
abbrev qge (n d:Nat) (b:Bool):Vb:=⟨.mv,[.env n],some (d,b),[],none⟩
abbrev qgl (n d:Nat) (b:Bool):Vb:=⟨.mv,[.loc n],some (d,b),[],none⟩
abbrev qgd (s n d:Nat) (b:Bool):Vb:=⟨.load s false,[.loc n],some (d,b),[],none⟩
abbrev qs2 (s a b:Nat):Vb:=⟨.store s,[.env a,.loc b],none,[],none⟩
abbrev qa2 (a b:Nat):Vb:=⟨.bin .add,[.loc a,.loc b],none,[],none⟩
abbrev ql2 (a b:Nat):Vb:=⟨.bin .lss,[.loc a,.loc b],none,[],none⟩
abbrev qby (n:Int):Vb:=⟨.mv,[.const (.int .u8 n)],none,[],none⟩
abbrev qki (n:Int):Vd:=.const (.int .i64 n)
abbrev qkb (n:Int):Vd:=.const (.int .u8 n)
abbrev rg (l:List Vb) (d:List (Nat × Nat)):Ve:=.region l d
abbrev cn (n:Nat) (a b:Ve):Ve:=.cond (.env n) a b
abbrev qwf (o n a b:Nat):Vb:=qw (.Vt o) [.loc n] a b
abbrev qwd (s n a b:Nat):Vb:=qw (.load s false) [.loc n] a b
abbrev qwe (n a b:Nat):Vb:=qw .mv [.env n] a b
abbrev qwl (n a b:Nat):Vb:=qw .mv [.loc n] a b
abbrev qwi (i:Int) (a b:Nat):Vb:=qw .mv [.const (.int .i64 i)] a b
abbrev qwk (n a b:Nat):Vb:=qw .nilck [.loc n] a b
abbrev sr (l:List Vb) (d:List (Nat × Nat)) (b:Ve):Ve:=.seq (.region l d) b
noncomputable abbrev LK:=Dw Tryz.prog (KD [] [])
set_option maxRecDepth 100000
set_option maxHeartbeats 4000000
def F6:Va:=⟨[0,1,4,5,6,7,8,9,10,11,12,13,14,15,16,17,18,19,20,21,29,37,41,49,57,83,91,99,107,122,138,173,177,205],2,
sr [qbb false] [(2,0)]
(.seq (sr [qe 0,
qln false 0,
qo (.bin .gtr) [.loc 0,qki 12],
ql 0,
qge 1 0 false,
qg (.len false) [.loc 0] 1 false,
qg (.bin .gtr) [.loc 0,qki 30] 2 false,
qpt 3 0] [(20,0)]
(cn 20 (sr [qo (.call 8) [],
ql 0] [(2,0)]
(.ret)) (.skip)))
(sr [qe 0,
qk 18 0,
ql 0,
qx 0 0,
qx 1 1,
qo (.alloc 36 [.str ⟨#[]⟩,.Vu,.int .i64 0,.int .i64 0]) [],
qso 4 0 2,
ql 2] [(3,2),(4,0)]
(.seq (sr [qe 4,
qun 0] [(21,0)]
(cn 21 (sr [qbb false] [(2,0)]
(.ret)) (.skip)))
(.seq (sr [qi 0] [(5,0)]
(.block 0 (.loop (.seq (sr [qe 5,
qe 1,
qln false 0,
ql2 2 0] [(22,0)]
(cn 22 (.skip) (.exit 0)))
(.seq (.block 1 (.seq (sr [qe 1,
qe 5,
qia 1 1 0,
qd 1 0,
qln true 0,
qo (.bin .gtr) [.loc 0,qki 100]] [(23,0)]
(cn 23 (sr [qo (.call 8) [],
ql 0] [(2,0)]
(.ret)) (.skip)))
(sr [qi 0] [(6,0)]
(.block 2 (.loop (.seq (sr [qe 6,
qe 1,
qe 5,
qia 1 1 0,
qd 1 0,
qln true 0,
ql2 5 0] [(24,0)]
(cn 24 (.skip) (.exit 2)))
(.seq (.block 3 (sr [qe 1,
qe 5,
qia 1 1 0,
qd 1 0,
qe 6,
qo .index [.loc 1,.loc 0],
ql 0] [(7,0)]
(sr [qe 7,
qo (.bin .neq) [.loc 0,qkb 32],
ql 0,
qge 7 0 true,
qg (.bin .lss) [.loc 0,qkb 48] 1 true,
qgl 0 2 true,
qge 7 0 false,
qg (.bin .gtr) [.loc 0,qkb 57] 1 false,
qg .pick [.loc 2,.const (.bool true),.loc 0] 5 true,
qpf 6 0,
ql 0,
qge 7 0 true,
qg (.bin .lss) [.loc 0,qkb 97] 1 true,
qgl 0 2 true,
qge 7 0 false,
qg (.bin .gtr) [.loc 0,qkb 122] 1 false,
qg .pick [.loc 2,.const (.bool true),.loc 0] 5 true,
qpf 6 0] [(25,0)]
(cn 25 (sr [qo (.call 8) [],
ql 0] [(2,0)]
(.ret)) (.skip)))))
(rg [qe 6,
qad 0 1,
ql 0] [(6,0)]))))))))
(rg [qe 5,
qad 0 1,
ql 0] [(5,0)]))))))
(sr [qno] [(8,0)]
(sr [qi 0] [(9,0)]
(sr [qbb true] [(10,0)]
(.seq (sr [qi 0] [(11,0)]
(.block 4 (.loop (.seq (sr [qe 11,
qe 0,
qln false 0,
ql2 2 0,
ql 0,
qge 10 0 true,
qpf 1 0] [(26,0)]
(cn 26 (.skip) (.exit 4)))
(.seq (.block 5 (.seq (sr [qe 0,
qe 11,
qia 6 1 0,
qdt 6 0,
qk 19 0,
qo (.bin .lss) [.loc 0,qkb 3]] [(27,0)]
(cn 27 (.exit 5) (.skip)))
(sr [qbb false] [(10,0)]
(.block 6 (.loop (.seq (sr [qe 9,
qe 1,
qln false 0,
ql2 2 0,
ql 0,
qge 10 0 true,
qg (.un .not) [.loc 0] 1 true,
qpf 2 0] [(28,0)]
(cn 28 (.skip) (.exit 6)))
(.block 7 (sr [qo .mv [.const (.str ⟨#[]⟩)]] [(12,0)]
(.seq (.drawn [qe 0,
qwe 11 0 1,
qw (.Vs 6) [.loc 1,.loc 0] 3 2,
qw (.load 6 true) [.loc 0] 7 3,
qwe 1 0 4,
qwe 9 0 5,
qw (.Vs 1) [.loc 1,.loc 0] 48 6,
qwd 1 0 112 7,
qw (.call 22) [.loc 4,.loc 0] 255 8,
qwl 0 511 9,
qw (.extract 0) [.loc 0] 1023 10,
qw (.extract 1) [.loc 1] 1023 11,
qwl 1 2047 12,
qwl 1 8191 13] [(10,0),(12,1)] [])
(sr [qe 9,
qad 0 1,
ql 0] [(9,0)]
(sr [qe 10] [(29,0)]
(cn 29 (rg [qe 8,
qe 11,
qe 12,
qo .strb [.loc 0],
qo (.build [.int .i64 0,.Vu] [(0,1),(1,1)]) [.loc 2,.loc 0],
qo (.Vr 74 2 1 [.int .i64 0,.Vu] [0] 0) [.loc 0],
qo (.append 74 2 32 0) [.loc 5,.loc 0],
ql 0] [(8,0)]) (.skip)))))))))))))
(rg [qe 11,
qad 0 1,
ql 0] [(11,0)]))))))
(sr [qde 4 3,
qe 1,
qkk 23 1 0,
ql 0,
qx 0 0,
qx 1 1,
qx 2 2,
ql 2,
ql 2,
ql 2] [(13,2),(14,1),(15,0)]
(.seq (sr [qe 10,
qun 0] [(30,0)]
(cn 30 (sr [qe 15,
qo (.bin .eql) [.loc 0,qki 7],
ql 0,
qge 14 0 true,
qg (.bin .eql) [.loc 0,qki 0] 1 true,
qpf 2 0,
ql 0,
qge 13 0 true,
qg (.len false) [.loc 0] 1 true,
qg (.bin .eql) [.loc 0,qki 0] 2 true,
qpf 3 0,
ql 0,
qg (.call 8) [] 0 true,
qpf 1 0,
ql 0] [(2,0)]
(.ret)) (.skip)))
(.seq (sr [qe 15,
qo (.bin .neq) [.loc 0,qki 0],
ql 0,
qge 14 0 false,
qge 9 1 false,
qg (.bin .neq) [.loc 1,.loc 0] 2 false,
qpt 3 0,
ql 0,
qge 13 0 false,
qg (.len false) [.loc 0] 1 false,
qge 8 2 false,
qg (.len false) [.loc 0] 3 false,
qg (.bin .neq) [.loc 2,.loc 0] 4 false,
qpt 5 0,
ql 0,
qge 13 0 false,
qg .cap [.loc 0] 1 false,
qge 13 2 false,
qg (.len false) [.loc 0] 3 false,
qg (.bin .neq) [.loc 2,.loc 0] 4 false,
qpt 5 0] [(31,0)]
(cn 31 (sr [qbb false] [(2,0)]
(.ret)) (.skip)))
(.seq (sr [qi 0] [(16,0)]
(.block 8 (.loop (.seq (sr [qe 16,
qe 13,
qln false 0,
ql2 2 0] [(32,0)]
(cn 32 (.skip) (.exit 8)))
(.seq (.block 9 (.seq (.drawn [qe 13,
qwe 16 0 1,
qw (.Vs 2) [.loc 1,.loc 0] 3 2,
qwf 0 0 7 3,
qwd 1 0 15 4,
qwe 8 0 5,
qwe 16 0 6,
qw (.Vs 2) [.loc 1,.loc 0] 96 7,
qwf 0 0 224 8,
qwd 1 0 480 9,
qw (.bin .neq) [.loc 5,.loc 0] 1023 10,
qwl 0 2047 11,
qh .mv [.env 13] 0 false 4095 12,
qh .mv [.env 16] 1 false 4095 13,
qh (.Vs 2) [.loc 1,.loc 0] 2 false 16383 14,
qh (.Vt 1) [.loc 0] 3 false 32767 15,
qh (.load 1 false) [.loc 0] 4 false 65535 16,
qh .bstr [.loc 0] 5 false 131071 17,
qh .mv [.env 8] 6 false 4095 18,
qh .mv [.env 16] 7 false 4095 19,
qh (.Vs 2) [.loc 1,.loc 0] 8 false 790527 20,
qh (.Vt 1) [.loc 0] 9 false 1839103 21,
qh (.load 1 false) [.loc 0] 10 false 3936255 22,
qh .bstr [.loc 0] 11 false 8130559 23,
qh (.bin .neq) [.loc 6,.loc 0] 12 false 16777215 24,
qw .pick [.loc 13,.const (.bool true),.loc 0] 33554431 25] [(33,0)] [])
(cn 33 (sr [qbb false] [(2,0)]
(.ret)) (.skip))))
(rg [qe 16,
qad 0 1,
ql 0] [(16,0)]))))))
(.seq (.drawn [qde 4 3,
qw (.Vr 9 1 0 [.str ⟨#[]⟩] [] 1) [] 0 1,
qwe 1 0 2,
qw (.append 9 1 16 1) [.loc 1,.loc 0] 6 3,
qw (.Vr 9 1 2 [.str ⟨#[]⟩] [0,1] 1) [.const (.str ⟨#[48]⟩),.const (.str ⟨#[120]⟩)] 0 4,
qw (.append 9 1 16 1) [.loc 1,.loc 0] 30 5,
qw (.call 23) [.loc 5,.loc 0] 63 6,
qwl 0 127 7,
qw (.extract 0) [.loc 0] 255 8,
qw (.extract 1) [.loc 1] 255 9,
qw (.extract 2) [.loc 2] 255 10,
qwl 2 511 11,
qwl 2 3071 12,
qwl 2 8191 13] [(17,2),(18,1),(19,0)] [])
(sr [qe 19,
qo (.bin .eql) [.loc 0,qki 0],
ql 0,
qge 18 0 true,
qge 9 1 true,
qg (.bin .eql) [.loc 1,.loc 0] 2 true,
qpf 3 0,
ql 0,
qge 17 0 true,
qg (.len false) [.loc 0] 1 true,
qge 13 2 true,
qg (.len false) [.loc 0] 3 true,
qg (.bin .eql) [.loc 2,.loc 0] 4 true,
qpf 5 0,
ql 0,
qg (.call 8) [] 0 true,
qpf 1 0,
ql 0] [(2,0)]
(.ret))))))))))))))),
[.tmp 2]⟩
theorem F6_low:Dw Tryz.prog (KD [] [211]) [0,1,4,5,6,7,8,9,10,11,12,13,14,15,16,17,18,19,20,21,29,37,41,49,57,83,91,99,107,122,138,173,177,205] Tryz.f6=some F6:=by as_aux_lemma=>kernel_rfl
def F8:Va:=⟨[0,1,2,3,4,5,6,7,8,9,25,56,58,65],0,
sr [qbb false] [(0,0)]
(sr [qo (.build [.int .u8 0,.int .u8 0,.int .u8 0,.int .u8 0,.bool false,.bool false] [(0,1),(1,1),(3,1)]) [qkb 1,qkb 2,qkb 1],
qo (.build [.int .u8 0,.int .u8 0,.int .u8 0,.int .u8 0,.bool false,.bool false] [(0,1),(1,1),(3,1),(2,1),(4,1)]) [qkb 1,qkb 3,qkb 2,qkb 3,.const (.bool true)],
qo (.Vr 50 6 2 [.int .u8 0,.int .u8 0,.int .u8 0,.int .u8 0,.bool false,.bool false] [0,1] 1) [.loc 1,.loc 0],
ql 0] [(1,0)]
(sr [qe 1,
qk 18 0,
ql 0,
qx 0 0,
qx 1 1,
qo (.alloc 36 [.str ⟨#[]⟩,.Vu,.int .i64 0,.int .i64 0]) [],
qso 4 0 2,
ql 2] [(2,2),(3,0)]
(.seq (sr [qe 3,
qun 0,
ql 0,
qg (.Vt 1) [.env 2] 0 false,
qgd 1 0 1 false,
qg (.len false) [.loc 0] 2 false,
qg (.bin .neq) [.loc 0,qki 2] 3 false,
qpt 4 0] [(10,0)]
(cn 10 (sr [qbb false] [(0,0)]
(.ret)) (.skip)))
(sr [qde 4 2,
qo (.Vr 5 1 3 [.int .u8 0] [0,1,2] 2) [qkb 32,qkb 49,qkb 50],
qo .strsh [.loc 0],
qo (.Vr 42 1 2 [.Vu] [0,1] 0) [.const (.Vu),.loc 0],
qkk 20 3 0,
ql 0,
qx 0 0,
qx 1 1,
ql 1,
ql 1] [(4,1),(5,0)]
(sr [qde 4 2,
qo (.Vr 9 1 2 [.str ⟨#[]⟩] [0,1] 1) [.const (.str ⟨#[120]⟩),.const (.str ⟨#[55]⟩)],
qkk 23 1 0,
ql 0,
qx 0 0,
qx 1 1,
qx 2 2,
ql 2,
ql 2,
ql 2] [(6,2),(7,1),(8,0)]
(.seq (sr [qe 5,
qo (.bin .neq) [.loc 0,qki 0],
ql 0,
qge 8 0 false,
qg (.bin .neq) [.loc 0,qki 0] 1 false,
qpt 2 0,
ql 0,
qge 4 0 false,
qg (.len false) [.loc 0] 1 false,
qg (.bin .neq) [.loc 0,qki 24] 2 false,
qpt 3 0,
ql 0,
qge 6 0 false,
qg (.len false) [.loc 0] 1 false,
qg (.bin .neq) [.loc 0,qki 1] 2 false,
qpt 3 0] [(11,0)]
(cn 11 (sr [qbb false] [(0,0)]
(.ret)) (.skip)))
(.seq (sr [qi 2] [(9,0)]
(.block 0 (.loop (.seq (sr [qe 9,
qo (.bin .lss) [.loc 0,qki 24]] [(12,0)]
(cn 12 (.skip) (.exit 0)))
(.seq (.block 1 (sr [qe 4,
qe 9,
qia 1 1 0,
qd 1 0,
qo (.bin .neq) [.loc 0,.const (.str ⟨#[]⟩)]] [(13,0)]
(cn 13 (sr [qbb false] [(0,0)]
(.ret)) (.skip))))
(rg [qe 9,
qad 0 1,
ql 0] [(9,0)]))))))
(sr [qe 4,
qo (.Vs 1) [.loc 0,qki 0],
qd 1 0,
qo (.bin .eql) [.loc 0,.const (.str ⟨#[]⟩)],
ql 0,
qge 4 0 true,
qg (.Vs 1) [.loc 0,qki 1] 1 true,
qgd 1 0 2 true,
qg (.bin .eql) [.loc 0,.const (.str ⟨#[32,32,65,32,49,50]⟩)] 3 true,
qpf 4 0,
ql 0,
qge 6 0 true,
qg (.Vs 2) [.loc 0,qki 0] 1 true,
qg (.Vt 0) [.loc 0] 2 true,
qgd 1 0 3 true,
qg (.bin .eql) [.loc 0,qki 1] 4 true,
qpf 5 0,
ql 0,
qge 6 0 true,
qg (.Vs 2) [.loc 0,qki 0] 1 true,
qg (.Vt 1) [.loc 0] 2 true,
qgd 1 0 3 true,
qg .bstr [.loc 0] 4 true,
qg (.bin .eql) [.loc 0,.const (.str ⟨#[32,32,55]⟩)] 5 true,
qpf 6 0,
ql 0,
qge 7 0 true,
qg (.bin .eql) [.loc 0,qki 2] 1 true,
qpf 2 0,
ql 0] [(0,0)]
(.ret))))))))),
[.tmp 0]⟩
theorem F8_low:LK [0,1,2,3,4,5,6,7,8,9,25,56,58,65] Tryz.f8=some F8:=by as_aux_lemma=>kernel_rfl
def F9:Va:=⟨[0,1,4,5,6,7,8,9,18,40,56],2,
sr [qno] [(2,0)]
(sr [qo (.build [.int .u8 0,.str ⟨#[]⟩,.int .i64 0,.int .i64 0,.bool false] [(0,1),(1,1)]) [qkb 6,.const (.str ⟨#[46]⟩)],
qo (.alloc 39 [.int .u8 0,.str ⟨#[]⟩,.int .i64 0,.int .i64 0,.bool false]) [],
qso 5 0 1] [(3,1)]
(.seq (.drawn [qo (.call 24) [qki 1],
qw (.call 14) [.const (.str ⟨#[65]⟩)] 1 1,
qw (.load 5 true) [.env 3] 0 2,
qw (.Vr 39 5 3 [.int .u8 0,.str ⟨#[]⟩,.int .i64 0,.int .i64 0,.bool false] [0,1,2] 2) [.loc 2,.loc 1,.loc 0] 7 3,
qwl 0 15 4] [(4,0)] [])
(.seq (sr [qi 0] [(5,0)]
(.block 0 (.loop (.seq (sr [qe 5,
qe 0,
qln false 0,
ql2 2 0] [(8,0)]
(cn 8 (.skip) (.exit 0)))
(.seq (.block 1 (.drawn [qe 4,
qwe 0 0 1,
qwe 5 0 2,
qw (.Vs 6) [.loc 1,.loc 0] 6 3,
qw (.load 6 true) [.loc 0] 14 4,
qw (.call 25) [.loc 0] 30 5,
qw (.append 39 5 48 2) [.loc 5,.loc 0] 63 6,
qw (.load 5 true) [.env 3] 0 7,
qw (.Vr 39 5 1 [.int .u8 0,.str ⟨#[]⟩,.int .i64 0,.int .i64 0,.bool false] [0] 1) [.loc 0] 128 8,
qw (.append 39 5 48 2) [.loc 2,.loc 0] 511 9,
qwl 0 1023 10] [(4,0)] []))
(rg [qe 5,
qad 0 1,
ql 0] [(5,0)]))))))
(.seq (.drawn [qe 4,
qw (.call 24) [qki 1] 0 1,
qw (.call 14) [.const (.str ⟨#[66]⟩)] 2 2,
qw (.load 5 true) [.env 3] 0 3,
qw (.Vr 39 5 3 [.int .u8 0,.str ⟨#[]⟩,.int .i64 0,.int .i64 0,.bool false] [0,1,2] 1) [.loc 2,.loc 1,.loc 0] 14 4,
qw (.append 39 5 48 2) [.loc 4,.loc 0] 31 5,
qwl 0 63 6] [(4,0)] [])
(.seq (sr [qi 0] [(6,0)]
(.block 2 (.loop (.seq (sr [qe 6,
qe 1,
qln false 0,
ql2 2 0] [(9,0)]
(cn 9 (.skip) (.exit 2)))
(.seq (.block 3 (.drawn [qe 4,
qwe 1 0 1,
qwe 6 0 2,
qw (.Vs 6) [.loc 1,.loc 0] 6 3,
qw (.load 6 true) [.loc 0] 14 4,
qw (.call 25) [.loc 0] 30 5,
qw (.append 39 5 48 2) [.loc 5,.loc 0] 63 6,
qw (.load 5 true) [.env 3] 0 7,
qw (.Vr 39 5 1 [.int .u8 0,.str ⟨#[]⟩,.int .i64 0,.int .i64 0,.bool false] [0] 1) [.loc 0] 128 8,
qw (.append 39 5 48 2) [.loc 2,.loc 0] 511 9,
qwl 0 1023 10] [(4,0)] []))
(rg [qe 6,
qad 0 1,
ql 0] [(6,0)]))))))
(.seq (sr [qi 0] [(7,0)]
(.block 4 (.loop (.seq (sr [qe 7,
qe 4,
qln false 0,
ql2 2 0] [(10,0)]
(cn 10 (.skip) (.exit 4)))
(.seq (.block 5 (rg [qe 4,
qe 7,
qe 7,
qad 0 1,
qo (.build [.int .i64 0,.int .i64 0] [(0,1),(1,1)]) [.loc 0,qki 12],
qia 5 4 3,
qfl 2 0,
qso 2 0 2] []))
(rg [qe 7,
qad 0 1,
ql 0] [(7,0)]))))))
(sr [qe 4,
ql 0] [(2,0)]
(.ret)))))))),
[.tmp 2]⟩
theorem F9_low:Dw Tryz.prog (KD [39] [29,35,51]) [0,1,4,5,6,7,8,9,18,40,56] Tryz.f9=some F9:=by as_aux_lemma=>kernel_rfl
def F10:Va:=⟨[0,2,3,4,5,6,7,12,16,42,43,44],1,
sr [qo (.alloc 26 [.Vu]) [],
qo (.alloc 31 [.int .i64 0,.int .i64 0,.int .i64 0]) []] [(1,1),(2,0)]
(.seq (sr [qo (.mkfn 26) [.env 1,.env 2]] [(6,0)]
(.dfr (.env 6)))
(sr [qo (.build [.Vu,.int .i64 0,.int .i64 0,.Vu] []) [],
qo (.box 87 4) [.loc 0],
ql 0] [(3,0)]
(.seq (.block 0 (.loop (.seq (sr [qe 0,
qln false 0,
qo (.bin .gtr) [.loc 0,qki 0]] [(7,0)]
(cn 7 (.skip) (.exit 0)))
(.block 1 (sr [qe 0,
qo (.call 27) [.loc 0,.const (.fn 28 [])],
ql 0] [(4,0)]
(.seq (sr [qe 4,
qo (.bin .lss) [.loc 0,qki 0]] [(8,0)]
(cn 8 (.seq (.drawn [qe 0,
qwe 0 0 1,
qw (.len false) [.loc 0] 2 2,
qw (.bin .sub) [.loc 0,qki 1] 6 3,
qw (.Vs 5) [.loc 3,.loc 0] 15 4,
qwf 2 0 31 5,
qw (.load 2 true) [.loc 0] 63 6,
qw (.build [.int .i64 0,.int .i64 0,.int .i64 0] [(0,1),(1,2)]) [qki 4,.loc 0] 127 7,
qw (.store 1) [.env 1,.const (.Vu)] 0 8,
qw (.store 3) [.env 2,.loc 1] 511 9] [] [])
(.ret)) (.skip)))
(.seq (.drawn [qe 3,
qwe 0 0 1,
qwe 4 0 2,
qw (.slice false 5 false true false) [.loc 1,.loc 0] 6 3,
qwe 0 0 4,
qw (.Vs 5) [.loc 0,qki 0] 16 5,
qwf 2 0 48 6,
qw (.load 2 true) [.loc 0] 112 7,
qw (.call 29) [.loc 7,.loc 4,.loc 0] 255 8] [] [])
(rg [qe 0,
qe 4,
qad 0 1,
qo (.slice false 5 true false false) [.loc 2,.loc 0],
ql 0] [(0,0)]))))))))
(.seq (sr [qe 3,
qnl 0,
qfl 3 0,
qd 1 0,
qln false 0,
qi 0] [(9,1),(10,0)]
(.block 2 (.loop (sr [qlt 10 9] [(11,0)]
(.seq (cn 11 (.skip) (.exit 2))
(.seq (.block 3 (sr [qe 10,
ql 0] [(5,0)]
(.drawn [qe 3,
qwk 0 1 1,
qwf 3 0 3 2,
qwd 1 0 7 3,
qwe 5 0 4,
qwe 3 0 5,
qwk 0 32 6,
qwf 3 0 96 7,
qwd 1 0 224 8,
qwe 5 0 9,
qw (.Vs 4) [.loc 1,.loc 0] 992 10,
qwf 1 0 2016 11,
qwd 1 0 4064 12,
qw (.call 30) [.loc 0] 8160 13,
qw (.Vs 4) [.loc 10,.loc 9] 16383 14,
qwf 1 0 32767 15,
qw (.store 1) [.loc 0,.loc 2] 65535 16] [] [])))
(rg [qae 10 1,
ql 0] [(10,0)])))))))
(sr [qe 3,
qnl 0,
qfl 3 0,
qd 1 0,
qk 31 0,
qo (.build [.int .i64 0,.int .i64 0,.int .i64 0] []) [],
qs2 1 1 1,
qs2 3 2 1] []
(.ret)))))),
[.cell 1 1 false,.cell 2 3 true]⟩
theorem F10_low:Dw Tryz.prog (KD [36] []) [0,2,3,4,5,6,7,12,16,42,43,44] Tryz.f10=some F10:=by as_aux_lemma=>kernel_rfl
def F12:Va:=⟨[0,1,3,4,5,6,11],2,
sr [qo (.box 9 1) [.env 1],
qi 0,
qi 0] [(2,2),(3,1),(4,0)]
(sr [qe 0,
qo (.mkfn 37) [.env 2],
qkk 36 1 0,
ql 0] [(5,0)]
(.seq (sr [qe 5,
qo (.bin .lss) [.loc 0,qki 0]] [(6,0)]
(cn 6 (sr [qi 0,
qi 7] [(3,1),(4,0)]
(.ret)) (.skip)))
(sr [qe 5,
ql 0,
qi 0] [(3,1),(4,0)]
(.ret)))),
[.tmp 3,.tmp 4]⟩
theorem F12_low:LK [0,1,3,4,5,6,11] Tryz.f12=some F12:=by as_aux_lemma=>kernel_rfl
def F13:Va:=⟨[0,1,2,4,8,10,11,12,13,16,31,50],1,
sr [qo (.box 36 4) [.env 0],
qi 0] [(1,1),(2,0)]
(.seq (sr [qfe 1 1,
qd 1 0,
qln false 0,
qo (.bin .gtr) [.loc 0,qki 256]] [(4,0)]
(cn 4 (sr [qi 3] [(2,0)]
(.ret)) (.skip)))
(.seq (sr [qfe 1 1,
qd 1 0,
qln false 0,
qi 0] [(5,2),(6,1),(7,0)]
(.block 0 (.loop (sr [qlt 7 6] [(8,0)]
(.seq (cn 8 (.skip) (.exit 0))
(.seq (.block 1 (sr [qo (.Vs 16) [.env 5,.env 7],
qdt 16 0,
qo (.alloc 48 [.int .i64 0,.int .i64 0,.int .u8 0,.Vu,.int .u8 0,.int .u8 0,.str ⟨#[]⟩,.int .i64 0,.int .i64 0,.bool false,.bool false,.bool false,.bool false,.bool false,.int .i64 0,.Vu]) [],
qso 16 0 1] [(3,1)]
(.block 2 (sr [qfe 2 3,
qd 1 0,
qo (.bin .lss) [.loc 0,qkb 1],
ql 0,
qg (.Vt 2) [.env 3] 0 false,
qgd 1 0 1 false,
qg (.bin .gtr) [.loc 0,qkb 4] 2 false,
qpt 3 0,
ql 0,
qg (.Vt 4) [.env 3] 0 false,
qg (.load 11 true) [.loc 0] 1 false,
qg (.call 38) [.loc 0] 2 false,
qg (.bin .neq) [.loc 0,qki 0] 3 false,
qpt 4 0,
ql 0] [(9,0)]
(cn 9 (sr [qi 1] [(2,0)]
(.ret)) (sr [qfe 2 3,
qd 1 0,
qo (.bin .eql) [.loc 0,qkb 1],
ql 0,
qg (.Vt 4) [.env 3] 0 true,
qg (.Vt 0) [.loc 0] 1 true,
qgd 1 0 2 true,
qg (.bin .neq) [.loc 0,qkb 2] 3 true,
qgl 0 4 true,
qg (.Vt 3) [.env 3] 0 false,
qgd 1 0 1 false,
qg (.len false) [.loc 0] 2 false,
qg (.Vt 4) [.env 3] 3 false,
qg (.Vt 10) [.loc 0] 4 false,
qgd 1 0 5 false,
qg (.bin .neq) [.loc 3,.loc 0] 6 false,
qg .pick [.loc 7,.const (.bool true),.loc 0] 12 true,
qpf 13 0,
ql 0] [(10,0)]
(cn 10 (sr [qi 1] [(2,0)]
(.ret)) (sr [qde 16 3,
qk 39 0,
qun 0,
ql 0] [(11,0)]
(cn 11 (sr [qi 13] [(2,0)]
(.ret)) (.skip))))))))))
(rg [qae 7 1,
ql 0] [(7,0)])))))))
(sr [qi 0] [(2,0)]
(.ret)))),
[.tmp 2]⟩
theorem F13_low:LK [0,1,2,4,8,10,11,12,13,16,31,50] Tryz.f13=some F13:=by as_aux_lemma=>kernel_rfl
def F14:Va:=⟨[0,2],1,
sr [qo (.alloc 39 [.int .u8 0,.str ⟨#[]⟩,.int .i64 0,.int .i64 0,.bool false]) []] [(1,0)]
(sr [qe 0,
qo (.build [.int .u8 0,.str ⟨#[]⟩,.int .i64 0,.int .i64 0,.bool false] [(0,1),(1,1)]) [qkb 1,.loc 0],
qs2 5 1 0] []
(.ret)),
[.cell 1 5 true]⟩
theorem F14_low:LK [0,2] Tryz.f14=some F14:=by as_aux_lemma=>kernel_rfl
def F15:Va:=⟨[0,2,4],1,
sr [qo .mv [.const (.str ⟨#[]⟩)]] [(1,0)]
(.seq (sr [qe 0,
qo (.bin .lss) [.loc 0,qki 10]] [(2,0)]
(cn 2 (sr [qe 0,
qe 0,
qad 0 1,
qo (.slice true 0 true true false) [.const (.str ⟨#[48,49,50,51,52,53,54,55,56,57]⟩),.loc 2,.loc 0],
ql 0] [(1,0)]
(.ret)) (.skip)))
(sr [qe 0,
qo (.bin .quo) [.loc 0,qki 10],
qk 15 0,
qe 0,
qo (.bin .rem) [.loc 0,qki 10],
qk 15 0,
qa2 3 0,
ql 0] [(1,0)]
(.ret))),
[.tmp 1]⟩
theorem F15_low:LK [0,2,4] Tryz.f15=some F15:=by as_aux_lemma=>kernel_rfl
def F16:Va:=⟨[0,1,2],1,
sr [qo (.boxc 6) [.env 0],
qi 0] [(1,1),(2,0)]
(sr [qfe 3 1,
qd 1 0,
qo (.bin .rem) [.loc 0,qkb 6],
qo (.conv .i64) [.loc 0],
qo (.bin .add) [qki 1,.loc 0],
ql 0] [(2,0)]
(.ret)),
[.tmp 2]⟩
theorem F16_low:Dw Tryz.prog (KD [] [1]) [0,1,2] Tryz.f16=some F16:=by as_aux_lemma=>kernel_rfl
def F17:Va:=⟨[0,2,3,4,5,7,8,9,16,19,20,21,22,31,37],1,
sr [qo (.alloc 46 [.int .u8 0,.int .u8 0,.str ⟨#[]⟩,.int .i64 0,.int .i64 0,.bool false,.bool false,.bool false,.bool false,.bool false,.int .i64 0]) [],
qi 0] [(1,1),(2,0)]
(sr [qe 0,
qk 40 0,
ql 0,
qx 0 0,
qx 1 1,
ql 1,
ql 1] [(3,1),(4,0)]
(.seq (sr [qe 4,
qo (.bin .neq) [.loc 0,qki 0]] [(8,0)]
(cn 8 (sr [qo (.build [.int .u8 0,.int .u8 0,.str ⟨#[]⟩,.int .i64 0,.int .i64 0,.bool false,.bool false,.bool false,.bool false,.bool false,.int .i64 0] []) [],
qe 4,
qs2 11 1 1,
ql 1] [(2,0)]
(.ret)) (.skip)))
(.seq (sr [qo (.Vr 99 1 3 [.nilfn] [0,1,2] 0) [.const (.fn 41 []),.const (.fn 42 []),.const (.fn 43 [])],
qln false 0,
qi 0] [(9,2),(10,1),(11,0)]
(.block 0 (.loop (sr [qlt 11 10] [(12,0)]
(.seq (cn 12 (.skip) (.exit 0))
(.seq (.block 1 (sr [qo (.Vs 1) [.env 9,.env 11],
qd 1 0,
ql 0] [(5,0)]
(sr [qe 5,
qe 3,
qo .callv [.loc 1,.loc 0],
ql 0,
qx 0 0,
qx 1 1,
qo (.alloc 46 [.int .u8 0,.int .u8 0,.str ⟨#[]⟩,.int .i64 0,.int .i64 0,.bool false,.bool false,.bool false,.bool false,.bool false,.int .i64 0]) [],
qso 11 0 2,
ql 2] [(6,2),(7,0)]
(sr [qe 7] [(13,0)]
(cn 13 (.seq (.seq (.drawn [qfe 3 6,
qwd 1 0 1 1,
qwe 3 0 2,
qw (.call 44) [.loc 0,.const (.str ⟨#[80]⟩)] 4 3,
qw (.bin .add) [.loc 2,.loc 0] 15 4,
qw (.bin .gtr) [.loc 0,qki 18] 31 5] [(14,0)] [])
(cn 14 (sr [qo (.build [.int .u8 0,.int .u8 0,.str ⟨#[]⟩,.int .i64 0,.int .i64 0,.bool false,.bool false,.bool false,.bool false,.bool false,.int .i64 0] []) [],
qs2 11 1 0,
qi 3] [(2,0)]
(.ret)) (.skip)))
(sr [qde 11 6,
qs2 11 1 0,
qi 0] [(2,0)]
(.ret))) (.skip))))))
(rg [qae 11 1,
ql 0] [(11,0)])))))))
(sr [qo (.build [.int .u8 0,.int .u8 0,.str ⟨#[]⟩,.int .i64 0,.int .i64 0,.bool false,.bool false,.bool false,.bool false,.bool false,.int .i64 0] []) [],
qs2 11 1 0,
qi 4] [(2,0)]
(.ret))))),
[.cell 1 11 true,.tmp 2]⟩
theorem F17_low:LK [0,2,3,4,5,7,8,9,16,19,20,21,22,31,37] Tryz.f17=some F17:=by as_aux_lemma=>kernel_rfl
def F18:Va:=⟨[0,2,3,4,5,19],1,
sr [qo (.alloc 36 [.str ⟨#[]⟩,.Vu,.int .i64 0,.int .i64 0]) [],
qbb false] [(1,1),(2,0)]
(sr [qe 0,
qo (.call 9) [.loc 0,.const (.Vu)],
qk 10 0,
ql 0,
qx 0 0,
qx 1 1,
qo (.alloc 31 [.int .i64 0,.int .i64 0,.int .i64 0]) [],
ql 2,
qso 3 1 2] [(3,1),(4,2)]
(.seq (sr [qfe 0 4,
qd 1 0,
qo (.bin .neq) [.loc 0,qki 0],
ql 0,
qge 3 0 false,
qg (.len false) [.loc 0] 1 false,
qg (.bin .neq) [.loc 0,qki 2] 2 false,
qpt 3 0] [(5,0)]
(cn 5 (sr [qo (.build [.str ⟨#[]⟩,.Vu,.int .i64 0,.int .i64 0] []) [],
qs2 4 1 0,
qbb false] [(2,0)]
(.ret)) (.skip)))
(sr [qe 3,
qo (.Vs 4) [.loc 0,qki 0],
qdt 4 0,
qs2 4 1 0,
qbb true] [(2,0)]
(.ret)))),
[.cell 1 4 true,.tmp 2]⟩
theorem F18_low:LK [0,2,3,4,5,19] Tryz.f18=some F18:=by as_aux_lemma=>kernel_rfl
def F19:Va:=⟨[0,1,2],1,
sr [qo (.boxc 6) [.env 0],
qby 0] [(1,1),(2,0)]
(sr [qfe 2 1,
qd 1 0,
qo (.bin .rem) [.loc 0,qkb 4],
qo (.bin .add) [qkb 1,.loc 0],
ql 0] [(2,0)]
(.ret)),
[.tmp 2]⟩
theorem F19_low:Dw Tryz.prog (KD [] [1]) [0,1,2] Tryz.f19=some F19:=by as_aux_lemma=>kernel_rfl
def F20:Va:=⟨[0,1,2,4,5,6,7,8,9,10,11,12,13,14,15,16,20,27,30,31,32,41,42,43,44,54,62,63,64,65,66,74,91,92,93,94],2,
sr [qo (.box 36 4) [.env 0],
qno,
qi 0] [(2,2),(3,1),(4,0)]
(.seq (sr [qde 4 2,
qk 13 0,
ql 0] [(5,0)]
(sr [qe 5,
qo (.bin .neq) [.loc 0,qki 0]] [(16,0)]
(cn 16 (sr [qe 5,
qno,
ql 1] [(3,1),(4,0)]
(.ret)) (.skip))))
(.seq (sr [qe 1,
qln false 0,
qfe 1 2,
qd 1 0,
qln false 0,
qo (.bin .neq) [.loc 3,.loc 0]] [(17,0)]
(cn 17 (sr [qno,
qi 5] [(3,1),(4,0)]
(.ret)) (.skip)))
(sr [qo (.mkslice 42 1 24 [.Vu] 0) [qki 24,qki 24],
ql 0] [(6,0)]
(.seq (sr [qe 6,
qln false 0,
qi 0] [(18,1),(19,0)]
(.block 0 (.loop (sr [qlt 19 18] [(20,0)]
(.seq (cn 20 (.skip) (.exit 0))
(.seq (.block 1 (sr [qe 19,
ql 0] [(7,0)]
(rg [qe 6,
qe 7,
qo (.Vr 5 1 1 [.int .u8 0] [0] 2) [qkb 32],
qo (.call 45) [.loc 0,qki 80],
qia 1 3 2,
qso 1 0 1] [])))
(rg [qae 19 1,
ql 0] [(19,0)])))))))
(.seq (sr [qfe 1 2,
qd 1 0,
qln false 0,
qi 0] [(21,2),(22,1),(23,0)]
(.block 2 (.loop (sr [qlt 23 22] [(24,0)]
(.seq (cn 24 (.skip) (.exit 2))
(.seq (.block 3 (sr [qe 23,
qo (.Vs 16) [.env 21,.env 23],
qdt 16 0,
qo (.alloc 48 [.int .i64 0,.int .i64 0,.int .u8 0,.Vu,.int .u8 0,.int .u8 0,.str ⟨#[]⟩,.int .i64 0,.int .i64 0,.bool false,.bool false,.bool false,.bool false,.bool false,.int .i64 0,.Vu]) [],
ql 3,
qso 16 1 2] [(8,1),(9,2)]
(sr [qe 1,
qe 8,
qia 1 1 0,
qd 1 0,
ql 0] [(10,0)]
(.seq (sr [qfe 2 9,
qd 1 0,
qo (.bin .eql) [.loc 0,qkb 1]] [(25,0)]
(cn 25 (rg [qfe 3 9,
qd 1 0,
ql 0] [(10,0)]) (.skip)))
(.seq (sr [qe 10,
qln false 0,
qfe 4 9,
qfl 10 0,
qd 1 0,
qo (.bin .neq) [.loc 3,.loc 0]] [(26,0)]
(cn 26 (sr [qno,
qi 5] [(3,1),(4,0)]
(.ret)) (.skip)))
(sr [qe 10,
qln false 0,
qi 0] [(27,2),(28,1),(29,0)]
(.block 4 (.loop (sr [qlt 29 28] [(30,0)]
(.seq (cn 30 (.skip) (.exit 4))
(.seq (.block 5 (sr [qe 29,
qo (.Vs 1) [.env 27,.env 29],
qd 1 0,
ql 2,
ql 1] [(11,1),(12,0)]
(.seq (sr [qe 12,
qo (.Vr 5 1 1 [.int .u8 0] [0] 2) [.loc 0],
qo .bstr [.loc 0],
qk 46 0,
qun 0] [(31,0)]
(cn 31 (rg [qby 46] [(12,0)]) (.skip)))
(.drawn [qe 6,
qw (.Vt 0) [.env 9] 0 1,
qwd 1 0 2 2,
qw (.bin .sub) [.loc 0,qki 1] 6 3,
qw (.Vs 1) [.loc 3,.loc 0] 15 4,
qwd 1 0 31 5,
qw (.Vt 1) [.env 9] 0 6,
qwd 1 0 64 7,
qw (.bin .sub) [.loc 0,qki 1] 192 8,
qwe 11 0 9,
qw (.bin .add) [.loc 1,.loc 0] 960 10,
qwe 12 0 11,
qw (.Vs 1) [.loc 6,.loc 1] 4095 12,
qw (.store 1) [.loc 0,.loc 1] 8191 13] [] []))))
(rg [qae 29 1,
ql 0] [(29,0)]))))))))))))
(rg [qae 23 1,
ql 0] [(23,0)])))))))
(sr [qo (.mkslice 9 1 16 [.str ⟨#[]⟩] 2) [qki 24,qki 24],
ql 0] [(13,0)]
(.seq (sr [qe 6,
qln false 0,
qi 0] [(32,2),(33,1),(34,0)]
(.block 6 (.loop (sr [qlt 34 33] [(35,0)]
(.seq (cn 35 (.skip) (.exit 6))
(.seq (.block 7 (sr [qe 34,
qo (.Vs 1) [.env 32,.env 34],
qd 1 0,
ql 2,
ql 1] [(14,1),(15,0)]
(rg [qe 13,
qe 14,
qe 15,
qk 47 0,
qo .bstr [.loc 0],
qia 1 4 3,
qso 1 0 1] [])))
(rg [qae 34 1,
ql 0] [(34,0)])))))))
(sr [qe 13,
ql 0,
qi 0] [(3,1),(4,0)]
(.ret))))))))),
[.tmp 3,.tmp 4]⟩
theorem F20_low:Dw Tryz.prog (KD [42,5,9] []) [0,1,2,4,5,6,7,8,9,10,11,12,13,14,15,16,20,27,30,31,32,41,42,43,44,54,62,63,64,65,66,74,91,92,93,94] Tryz.f20=some F20:=by as_aux_lemma=>kernel_rfl
def F22:Va:=⟨[0,1,2,4,5,6,9,14,28,41,48,52,64,72,79,84],2,
sr [qo (.boxc 6) [.env 0],
qo .mv [.const (.str ⟨#[]⟩)],
qbb false] [(2,2),(3,1),(4,0)]
(.seq (sr [qfe 4 2,
qd 1 0,
qun 0] [(6,0)]
(cn 6 (.seq (.block 0 (.loop (.seq (sr [qe 1,
qln true 0,
qde 6 2,
qk 16 0,
ql2 2 0] [(7,0)]
(cn 7 (.skip) (.exit 0)))
(.block 1 (rg [qe 1,
qo (.bin .add) [.loc 0,.const (.str ⟨#[32]⟩)],
ql 0] [(1,0)])))))
(sr [qe 1,
qde 6 2,
qk 16 0,
qo (.slice true 0 false true false) [.loc 2,.loc 0],
ql 0,
qbb true] [(3,1),(4,0)]
(.ret))) (.skip)))
(.seq (.block 2 (.loop (.seq (sr [qe 1,
qln true 0,
qo (.bin .gtr) [.loc 0,qki 0],
ql 0,
qge 1 0 true,
qg .index [.loc 0,qki 0] 1 true,
qg (.bin .eql) [.loc 0,qkb 32] 2 true,
qpf 3 0] [(8,0)]
(cn 8 (.skip) (.exit 2)))
(.block 3 (rg [qe 1,
qo (.slice true 0 true false false) [.loc 0,qki 1],
ql 0] [(1,0)])))))
(.seq (.block 4 (.loop (.seq (sr [qe 1,
qln true 0,
qo (.bin .gtr) [.loc 0,qki 0],
ql 0,
qge 1 0 true,
qge 1 1 true,
qg (.len true) [.loc 0] 2 true,
qg (.bin .sub) [.loc 0,qki 1] 3 true,
qg .index [.loc 3,.loc 0] 4 true,
qg (.bin .eql) [.loc 0,qkb 32] 5 true,
qpf 6 0] [(9,0)]
(cn 9 (.skip) (.exit 4)))
(.block 5 (rg [qe 1,
qe 1,
qln true 0,
qo (.bin .sub) [.loc 0,qki 1],
qo (.slice true 0 false true false) [.loc 3,.loc 0],
ql 0] [(1,0)])))))
(.seq (sr [qe 1,
qo (.bin .eql) [.loc 0,.const (.str ⟨#[]⟩)]] [(10,0)]
(cn 10 (sr [qo .mv [.const (.str ⟨#[]⟩)],
qbb false] [(3,1),(4,0)]
(.ret)) (.skip)))
(.seq (sr [qi 0] [(5,0)]
(.block 6 (.loop (.seq (sr [qe 5,
qe 1,
qln true 0,
ql2 2 0] [(11,0)]
(cn 11 (.skip) (.exit 6)))
(.seq (.block 7 (sr [qe 1,
qe 5,
qo .index [.loc 1,.loc 0],
qo (.bin .lss) [.loc 0,qkb 48],
ql 0,
qge 1 0 false,
qge 5 1 false,
qg .index [.loc 1,.loc 0] 2 false,
qg (.bin .gtr) [.loc 0,qkb 57] 3 false,
qpt 4 0] [(12,0)]
(cn 12 (sr [qo .mv [.const (.str ⟨#[]⟩)],
qbb false] [(3,1),(4,0)]
(.ret)) (.skip))))
(rg [qe 5,
qad 0 1,
ql 0] [(5,0)]))))))
(.seq (.block 8 (.loop (.seq (sr [qe 1,
qln true 0,
qo (.bin .gtr) [.loc 0,qki 1],
ql 0,
qge 1 0 true,
qg .index [.loc 0,qki 0] 1 true,
qg (.bin .eql) [.loc 0,qkb 48] 2 true,
qpf 3 0] [(13,0)]
(cn 13 (.skip) (.exit 8)))
(.block 9 (rg [qe 1,
qo (.slice true 0 true false false) [.loc 0,qki 1],
ql 0] [(1,0)])))))
(.seq (sr [qe 1,
qln true 0,
qde 6 2,
qk 16 0,
qo (.bin .gtr) [.loc 2,.loc 0]] [(14,0)]
(cn 14 (sr [qo .mv [.const (.str ⟨#[]⟩)],
qbb false] [(3,1),(4,0)]
(.ret)) (.skip)))
(.seq (.block 10 (.loop (.seq (sr [qe 1,
qln true 0,
qde 6 2,
qk 16 0,
ql2 2 0] [(15,0)]
(cn 15 (.skip) (.exit 10)))
(.block 11 (rg [qe 1,
qo (.bin .add) [.const (.str ⟨#[32]⟩),.loc 0],
ql 0] [(1,0)])))))
(sr [qe 1,
ql 0,
qbb true] [(3,1),(4,0)]
(.ret)))))))))),
[.tmp 3,.tmp 4]⟩
theorem F22_low:Dw Tryz.prog (KD [] [2]) [0,1,2,4,5,6,9,14,28,41,48,52,64,72,79,84] Tryz.f22=some F22:=by as_aux_lemma=>kernel_rfl
def F23:Va:=⟨[0,1,2,4,5,6,7,8,9,10,11,12,13,14,18,21,22,23,24,35,37,41,53],2,
sr [qo (.box 36 4) [.env 0],
qno,
qi 0,
qi 0] [(2,3),(3,2),(4,1),(5,0)]
(.seq (sr [qde 4 2,
qk 13 0,
ql 0] [(6,0)]
(sr [qe 6,
qo (.bin .neq) [.loc 0,qki 0]] [(14,0)]
(cn 14 (sr [qe 6,
qno,
qi 0,
ql 2] [(3,2),(4,1),(5,0)]
(.ret)) (.skip))))
(sr [qno] [(7,0)]
(sr [qi 0] [(8,0)]
(.seq (sr [qfe 1 2,
qd 1 0,
qln false 0,
qi 0] [(15,2),(16,1),(17,0)]
(.block 0 (.loop (sr [qlt 17 16] [(18,0)]
(.seq (cn 18 (.skip) (.exit 0))
(.seq (.block 1 (sr [qe 17,
qo (.Vs 16) [.env 15,.env 17],
qdt 16 0,
qo (.alloc 48 [.int .i64 0,.int .i64 0,.int .u8 0,.Vu,.int .u8 0,.int .u8 0,.str ⟨#[]⟩,.int .i64 0,.int .i64 0,.bool false,.bool false,.bool false,.bool false,.bool false,.int .i64 0,.Vu]) [],
ql 3,
qso 16 1 2] [(9,1),(10,2)]
(.seq (sr [qfe 2 10,
qd 1 0,
qo (.bin .neq) [.loc 0,qkb 3],
ql 0,
qg (.Vt 2) [.env 10] 0 true,
qgd 1 0 1 true,
qg (.bin .neq) [.loc 0,qkb 4] 2 true,
qpf 3 0] [(19,0)]
(cn 19 (.exit 1) (.skip)))
(sr [qbb false] [(11,0)]
(.block 2 (.loop (.seq (sr [qe 11,
qun 0] [(20,0)]
(cn 20 (.skip) (.exit 2)))
(.block 3 (.seq (sr [qe 8,
qe 1,
qln false 0,
qo (.bin .geq) [.loc 2,.loc 0]] [(21,0)]
(cn 21 (sr [qno,
qi 0,
qi 7] [(3,2),(4,1),(5,0)]
(.ret)) (.skip)))
(.seq (.drawn [qde 16 10,
qwe 1 0 1,
qwe 8 0 2,
qw (.Vs 1) [.loc 1,.loc 0] 6 3,
qwd 1 0 14 4,
qw (.call 48) [.loc 4,.loc 0] 31 5,
qwl 0 63 6,
qw (.extract 0) [.loc 0] 127 7,
qw (.extract 1) [.loc 1] 127 8,
qwl 1 255 9,
qwl 1 1023 10] [(12,1),(13,0)] [])
(sr [qe 8,
qad 0 1,
ql 0] [(8,0)]
(sr [qe 13] [(22,0)]
(cn 22 (sr [qe 7,
qe 9,
qe 12,
qo (.build [.int .i64 0,.Vu] [(0,1),(1,1)]) [.loc 1,.loc 0],
qo (.Vr 74 2 1 [.int .i64 0,.Vu] [0] 0) [.loc 0],
qo (.append 74 2 32 0) [.loc 4,.loc 0],
ql 0] [(7,0)]
(rg [qbb true] [(11,0)])) (.skip))))))))))))))
(rg [qae 17 1,
ql 0] [(17,0)])))))))
(sr [qe 7,
qk 49 0,
qe 8,
ql 1,
ql 1,
qi 0] [(3,2),(4,1),(5,0)]
(.ret)))))),
[.tmp 3,.tmp 4,.tmp 5]⟩
theorem F23_low:LK [0,1,2,4,5,6,7,8,9,10,11,12,13,14,18,21,22,23,24,35,37,41,53] Tryz.f23=some F23:=by as_aux_lemma=>kernel_rfl
def F24:Va:=⟨[0,2],1,
sr [qo (.alloc 39 [.int .u8 0,.str ⟨#[]⟩,.int .i64 0,.int .i64 0,.bool false]) []] [(1,0)]
(sr [qe 0,
qk 15 0,
qo (.build [.int .u8 0,.str ⟨#[]⟩,.int .i64 0,.int .i64 0,.bool false] [(0,1),(1,1)]) [qkb 2,.loc 0],
qs2 5 1 0] []
(.ret)),
[.cell 1 5 true]⟩
theorem F24_low:LK [0,2] Tryz.f24=some F24:=by as_aux_lemma=>kernel_rfl
def F25:Va:=⟨[0,1,2,3,7,36,38],1,
sr [qo (.boxc 6) [.env 0],
qno] [(1,1),(2,0)]
(sr [qo (.call 24) [qki 5],
qo (.Vr 39 5 1 [.int .u8 0,.str ⟨#[]⟩,.int .i64 0,.int .i64 0,.bool false] [0] 1) [.loc 0],
ql 0] [(3,0)]
(.seq (sr [qfe 5 1,
qd 1 0] [(4,0)]
(cn 4 (.drawn [qe 3,
qw (.call 14) [.const (.str ⟨#[70,73,76,76,69,82]⟩)] 0 1,
qw (.call 14) [.const (.str ⟨#[76,73,78,69]⟩)] 2 2,
qw (.call 14) [.const (.str ⟨#[78,85,77,66,69,82]⟩)] 6 3,
qw (.call 14) [.const (.str ⟨#[73,83]⟩)] 14 4,
qw (.load 6 true) [.env 1] 0 5,
qw (.call 32) [.loc 0] 62 6,
qw (.call 24) [.loc 0] 126 7,
qw (.call 14) [.const (.str ⟨#[67,79,76]⟩)] 254 8,
qw (.call 14) [.const (.str ⟨#[73,83]⟩)] 510 9,
qw (.load 6 true) [.env 1] 0 10,
qw (.call 33) [.loc 0] 2046 11,
qw (.call 24) [.loc 0] 4094 12,
qw (.Vr 39 5 8 [.int .u8 0,.str ⟨#[]⟩,.int .i64 0,.int .i64 0,.bool false] [0,1,2,3,4,5,6,7] 1) [.loc 11,.loc 10,.loc 9,.loc 8,.loc 5,.loc 4,.loc 3,.loc 0] 8190 13,
qw (.append 39 5 48 1) [.loc 13,.loc 0] 16383 14,
qwl 0 32767 15] [(3,0)] []) (.drawn [qe 3,
qw (.call 14) [.const (.str ⟨#[76,73,78,69]⟩)] 0 1,
qw (.load 6 true) [.env 1] 0 2,
qw (.call 32) [.loc 0] 6 3,
qw (.call 24) [.loc 0] 14 4,
qw (.call 14) [.const (.str ⟨#[67,79,76,85,77,78]⟩)] 30 5,
qw (.load 6 true) [.env 1] 0 6,
qw (.call 33) [.loc 0] 126 7,
qw (.call 24) [.loc 0] 254 8,
qw (.Vr 39 5 4 [.int .u8 0,.str ⟨#[]⟩,.int .i64 0,.int .i64 0,.bool false] [0,1,2,3] 1) [.loc 7,.loc 4,.loc 3,.loc 0] 510 9,
qw (.append 39 5 48 1) [.loc 9,.loc 0] 1023 10,
qwl 0 2047 11] [(3,0)] [])))
(.seq (sr [qde 6 1,
qk 19 0,
qo (.bin .eql) [.loc 0,qkb 1]] [(5,0)]
(cn 5 (.seq (sr [qfe 5 1,
qd 1 0] [(6,0)]
(cn 6 (.seq (.drawn [qe 3,
qw (.call 14) [.const (.str ⟨#[86,65,76,85,69]⟩)] 0 1,
qw (.call 14) [.const (.str ⟨#[73,83]⟩)] 2 2,
qw (.load 6 true) [.env 1] 0 3,
qw (.call 34) [.loc 0] 14 4,
qw (.build [.int .u8 0,.str ⟨#[]⟩,.int .i64 0,.int .i64 0,.bool false] [(0,1),(1,1)]) [qkb 3,.loc 0] 30 5,
qw (.Vr 39 5 3 [.int .u8 0,.str ⟨#[]⟩,.int .i64 0,.int .i64 0,.bool false] [0,1,2] 1) [.loc 4,.loc 3,.loc 0] 62 6,
qw (.append 39 5 48 1) [.loc 6,.loc 0] 127 7,
qwl 0 255 8] [(2,0)] [])
(.ret)) (.skip)))
(.seq (.drawn [qe 3,
qw (.call 14) [.const (.str ⟨#[86,65,76,85,69]⟩)] 0 1,
qw (.load 6 true) [.env 1] 0 2,
qw (.call 34) [.loc 0] 6 3,
qw (.build [.int .u8 0,.str ⟨#[]⟩,.int .i64 0,.int .i64 0,.bool false] [(0,1),(1,1)]) [qkb 3,.loc 0] 14 4,
qw (.Vr 39 5 2 [.int .u8 0,.str ⟨#[]⟩,.int .i64 0,.int .i64 0,.bool false] [0,1] 1) [.loc 3,.loc 0] 30 5,
qw (.append 39 5 48 1) [.loc 5,.loc 0] 63 6,
qwl 0 127 7] [(2,0)] [])
(.ret))) (.skip)))
(.seq (.drawn [qe 3,
qw (.call 14) [.const (.str ⟨#[80,73,67]⟩)] 0 1,
qw (.load 6 true) [.env 1] 0 2,
qw (.call 35) [.loc 0] 6 3,
qw (.build [.int .u8 0,.str ⟨#[]⟩,.int .i64 0,.int .i64 0,.bool false] [(0,1),(1,1)]) [qkb 4,.loc 0] 14 4,
qw (.Vr 39 5 2 [.int .u8 0,.str ⟨#[]⟩,.int .i64 0,.int .i64 0,.bool false] [0,1] 1) [.loc 3,.loc 0] 30 5,
qw (.append 39 5 48 1) [.loc 5,.loc 0] 63 6,
qwl 0 127 7] [(3,0)] [])
(sr [qe 3,
qo (.Vr 9 1 5 [.str ⟨#[]⟩] [0,1,2,3,4] 1) [.const (.str ⟨#[]⟩),.const (.str ⟨#[]⟩),.const (.str ⟨#[70,82,79,77]⟩),.const (.str ⟨#[84,79]⟩),.const (.str ⟨#[85,83,73,78,71]⟩)],
qde 6 1,
qk 19 0,
qia 1 2 0,
qd 1 0,
qk 14 0,
qo (.call 14) [.const (.str ⟨#[78]⟩)],
qo (.Vr 39 5 2 [.int .u8 0,.str ⟨#[]⟩,.int .i64 0,.int .i64 0,.bool false] [0,1] 1) [.loc 1,.loc 0],
qo (.append 39 5 48 1) [.loc 8,.loc 0],
ql 0] [(2,0)]
(.ret)))))),
[.tmp 2]⟩
theorem F25_low:Dw Tryz.prog (KD [] [1,21,32,45,52,59,69]) [0,1,2,3,7,36,38] Tryz.f25=some F25:=by as_aux_lemma=>kernel_rfl
def F26:Va:=⟨[0,1,2,3,4,7,14],2,
sr [qo .fail [],
ql 0] [(2,0)]
(sr [qe 2,
qo (.eqnil true 4) [.loc 0,.const (.nili)]] [(5,0)]
(cn 5 (sr [qe 2,
qo (.tass 31 (.agg [.int .i64 0,.int .i64 0,.int .i64 0]) true) [.loc 0],
ql 0,
qx 0 0,
qx 1 1,
qo (.alloc 31 [.int .i64 0,.int .i64 0,.int .i64 0]) [],
qso 3 0 2,
ql 2] [(3,2),(4,0)]
(.seq (sr [qe 4,
qun 0] [(6,0)]
(cn 6 (rg [qe 2,
qo .fail []] []) (.skip)))
(.drawn [qde 3 3,
qw (.store 1) [.env 0,.const (.Vu)] 0 1,
qw (.store 3) [.env 1,.loc 1] 3 2] [] []))) (.skip))),
[]⟩
theorem F26_low:LK [0,1,2,3,4,7,14] Tryz.f26=some F26:=by as_aux_lemma=>kernel_rfl
def F27:Va:=⟨[0,1,4,5,7,8,9,16],2,
sr [qi 0] [(2,0)]
(.seq (sr [qe 0,
qln false 0,
qi 0] [(4,1),(5,0)]
(.block 0 (.loop (sr [qlt 5 4] [(6,0)]
(.seq (cn 6 (.skip) (.exit 0))
(.seq (.block 1 (sr [qe 5,
ql 0] [(3,0)]
(sr [qe 1,
qe 0,
qe 3,
qia 5 1 0,
qdt 5 0,
qo .callv [.loc 4,.loc 0]] [(7,0)]
(cn 7 (sr [qe 3,
ql 0] [(2,0)]
(.ret)) (.skip)))))
(rg [qae 5 1,
ql 0] [(5,0)])))))))
(sr [qi (-1)] [(2,0)]
(.ret))),
[.tmp 2]⟩
theorem F27_low:LK [0,1,4,5,7,8,9,16] Tryz.f27=some F27:=by as_aux_lemma=>kernel_rfl
def F28:Va:=⟨[0,1,2],1,
sr [qo (.box 39 5) [.env 0],
qbb false] [(1,1),(2,0)]
(sr [qfe 0 1,
qd 1 0,
qo (.bin .eql) [.loc 0,qkb 6],
ql 0] [(2,0)]
(.ret)),
[.tmp 2]⟩
theorem F28_low:LK [0,1,2] Tryz.f28=some F28:=by as_aux_lemma=>kernel_rfl
def F29:Va:=⟨[0,1,2,5,6,26,31],3,
sr [qo (.box 29 2) [.env 2]] [(3,0)]
(.seq (.drawn [qe 0,
qwe 0 0 1,
qwe 1 0 2,
qw (.load 2 true) [.env 3] 0 3,
qwk 3 5 4,
qwf 0 0 21 5,
qwf 0 0 53 6,
qw (.store 1) [.loc 0,.loc 4] 117 7,
qwk 6 255 8,
qwf 0 0 511 9,
qwf 1 0 1023 10,
qw (.store 2) [.loc 0,.loc 7] 2047 11] [] [])
(sr [qe 0,
qnl 0,
qfl 0 0,
qk 50 0,
ql 0] [(4,0)]
(.block 0 (sr [qe 4,
qo (.bin .eql) [.loc 0,qki 1],
ql 0] [(5,0)]
(cn 5 (rg [qe 0,
qk 51 0] []) (sr [qe 4,
qo (.bin .geq) [.loc 0,qki 2],
ql 0,
qge 4 0 true,
qg (.bin .leq) [.loc 0,qki 49] 1 true,
qpf 2 0,
ql 0] [(6,0)]
(cn 6 (rg [qe 0,
qk 52 0] []) (.drawn [qe 0,
qwk 0 1 1,
qwf 0 0 3 2,
qw (.load 2 true) [.env 3] 0 3,
qw (.call 53) [.loc 1,qki 4,.loc 0] 15 4] [] [])))))))),
[]⟩
theorem F29_low:LK [0,1,2,5,6,26,31] Tryz.f29=some F29:=by as_aux_lemma=>kernel_rfl
def F30:Va:=⟨[0,2],1,
sr [qno] [(1,0)]
(sr [qe 0,
qe 0,
qln false 0,
qe 0,
qln false 0,
qo (.slice false 16 false true true) [.loc 4,.loc 2,.loc 0],
ql 0] [(1,0)]
(.ret)),
[.tmp 1]⟩
theorem F30_low:LK [0,2] Tryz.f30=some F30:=by as_aux_lemma=>kernel_rfl
def F31:Va:=⟨[0,2],1,
sr [qno] [(1,0)]
(sr [qe 0,
qe 0,
qln false 0,
qe 0,
qln false 0,
qo (.slice false 4 false true true) [.loc 4,.loc 2,.loc 0],
ql 0] [(1,0)]
(.ret)),
[.tmp 1]⟩
theorem F31_low:LK [0,2] Tryz.f31=some F31:=by as_aux_lemma=>kernel_rfl
def F32:Va:=⟨[0,1,2],1,
sr [qo (.boxc 6) [.env 0],
qi 0] [(1,1),(2,0)]
(sr [qfe 0 1,
qd 1 0,
qo (.bin .rem) [.loc 0,qkb 24],
qo (.conv .i64) [.loc 0],
qo (.bin .add) [qki 1,.loc 0],
ql 0] [(2,0)]
(.ret)),
[.tmp 2]⟩
theorem F32_low:Dw Tryz.prog (KD [] [1]) [0,1,2] Tryz.f32=some F32:=by as_aux_lemma=>kernel_rfl
def F33:Va:=⟨[0,1,2],1,
sr [qo (.boxc 6) [.env 0],
qi 0] [(1,1),(2,0)]
(.seq (.drawn [qfe 1 1,
qwd 1 0 1 1,
qw (.conv .i64) [.loc 0] 3 2,
qw (.load 6 true) [.env 1] 0 3,
qw (.call 16) [.loc 0] 8 4,
qw (.bin .sub) [qki 81,.loc 0] 24 5,
qw (.bin .rem) [.loc 3,.loc 0] 63 6,
qw (.bin .add) [qki 1,.loc 0] 127 7,
qwl 0 255 8] [(2,0)] [])
(.ret)),
[.tmp 2]⟩
theorem F33_low:Dw Tryz.prog (KD [] [1]) [0,1,2] Tryz.f33=some F33:=by as_aux_lemma=>kernel_rfl
def F34:Va:=⟨[0,1,2],1,
sr [qo (.boxc 6) [.env 0],
qo .mv [.const (.str ⟨#[]⟩)]] [(1,1),(2,0)]
(sr [qde 6 1,
qk 16 0,
qo (.slice true 0 false true false) [.const (.str ⟨#[65,66,67,68,69,70]⟩),.loc 0],
ql 0] [(2,0)]
(.ret)),
[.tmp 2]⟩
theorem F34_low:Dw Tryz.prog (KD [] [1]) [0,1,2] Tryz.f34=some F34:=by as_aux_lemma=>kernel_rfl
def F35:Va:=⟨[0,1,2,4],1,
sr [qo (.boxc 6) [.env 0],
qo .mv [.const (.str ⟨#[]⟩)]] [(1,1),(2,0)]
(.seq (sr [qfe 4 1,
qd 1 0] [(3,0)]
(cn 3 (sr [qde 6 1,
qk 16 0,
qo (.bin .sub) [qki 6,.loc 0],
qo (.slice true 0 true false false) [.const (.str ⟨#[90,90,90,90,90,57]⟩),.loc 0],
ql 0] [(2,0)]
(.ret)) (.skip)))
(sr [qde 6 1,
qk 16 0,
qo (.slice true 0 false true false) [.const (.str ⟨#[88,88,88,88,88,88]⟩),.loc 0],
ql 0] [(2,0)]
(.ret))),
[.tmp 2]⟩
theorem F35_low:Dw Tryz.prog (KD [] [1]) [0,1,2,4] Tryz.f35=some F35:=by as_aux_lemma=>kernel_rfl
def F36:Va:=⟨[0,1,4,5,7,8,9,16],2,
sr [qi 0] [(2,0)]
(.seq (sr [qe 0,
qln false 0,
qi 0] [(4,1),(5,0)]
(.block 0 (.loop (sr [qlt 5 4] [(6,0)]
(.seq (cn 6 (.skip) (.exit 0))
(.seq (.block 1 (sr [qe 5,
ql 0] [(3,0)]
(sr [qe 1,
qe 0,
qe 3,
qia 4 1 0,
qdt 4 0,
qo .callv [.loc 4,.loc 0]] [(7,0)]
(cn 7 (sr [qe 3,
ql 0] [(2,0)]
(.ret)) (.skip)))))
(rg [qae 5 1,
ql 0] [(5,0)])))))))
(sr [qi (-1)] [(2,0)]
(.ret))),
[.tmp 2]⟩
theorem F36_low:LK [0,1,4,5,7,8,9,16] Tryz.f36=some F36:=by as_aux_lemma=>kernel_rfl
def F37:Va:=⟨[0,1,2,3],2,
sr [qo (.box 36 4) [.env 0],
qbb false] [(2,1),(3,0)]
(sr [qfe 0 2,
qd 1 0,
qo (.load 1 false) [.env 1],
qo (.bin .eql) [.loc 1,.loc 0],
ql 0] [(3,0)]
(.ret)),
[.tmp 3]⟩
theorem F37_low:LK [0,1,2,3] Tryz.f37=some F37:=by as_aux_lemma=>kernel_rfl
def F38:Va:=⟨[0,1,2,3,4,5,6,7,14,18,23,46,50,56,83,119],1,
sr [qo (.boxc 11) [.env 0],
qi 0] [(1,1),(2,0)]
(sr [qde 11 1,
qk 54 0,
ql 0,
qx 0 0,
qx 1 1,
ql 1,
ql 1] [(3,1),(4,0)]
(.seq (sr [qe 4,
qo (.bin .neq) [.loc 0,qki 0]] [(8,0)]
(cn 8 (sr [qe 4,
ql 0] [(2,0)]
(.ret)) (.skip)))
(.seq (sr [qfe 0 1,
qd 1 0,
qo (.bin .eql) [.loc 0,qkb 0]] [(9,0)]
(cn 9 (.seq (sr [qde 11 1,
qfe 10 1,
qd 1 0,
qo (.build [.int .u8 0,.int .u8 0,.str ⟨#[]⟩,.int .i64 0,.int .i64 0,.bool false,.bool false,.bool false,.bool false,.bool false,.int .i64 0] [(10,1)]) [.loc 0],
qo (.eqs true [0,0,1,0,0,2,2,2,2,2,0]) [.loc 3,.loc 0]] [(10,0)]
(cn 10 (sr [qi 1] [(2,0)]
(.ret)) (.skip)))
(sr [qi 0] [(2,0)]
(.ret))) (.skip)))
(sr [qfe 2 1,
qd 1 0,
qk 17 0,
ql 0,
qx 0 0,
qx 1 1,
qo (.alloc 46 [.int .u8 0,.int .u8 0,.str ⟨#[]⟩,.int .i64 0,.int .i64 0,.bool false,.bool false,.bool false,.bool false,.bool false,.int .i64 0]) [],
qso 11 0 2,
ql 2] [(4,0),(5,2)]
(sr [qfe 0 1,
qd 1 0,
qo (.bin .eql) [.loc 0,qkb 4],
ql 0,
qg (.Vt 1) [.env 1] 0 true,
qgd 1 0 1 true,
qg (.bin .eql) [.loc 0,qkb 0] 2 true,
qpf 3 0,
ql 0] [(6,0)]
(sr [qfe 0 1,
qd 1 0,
qo (.bin .eql) [.loc 0,qkb 1],
ql 0,
qg (.Vt 0) [.env 1] 0 false,
qgd 1 0 1 false,
qg (.bin .eql) [.loc 0,qkb 2] 2 false,
qpt 3 0,
ql 0] [(7,0)]
(.seq (.block 0 (sr [qe 4,
qo (.bin .neq) [.loc 0,qki 0],
ql 0] [(11,0)]
(cn 11 (sr [qe 4,
ql 0] [(2,0)]
(.ret)) (sr [qfe 2 5,
qd 1 0,
qfe 2 1,
qd 1 0,
qo (.bin .neq) [.loc 2,.loc 0],
ql 0] [(12,0)]
(cn 12 (sr [qi 4] [(2,0)]
(.ret)) (sr [qfe 0 5,
qd 1 0,
qfe 0 1,
qd 1 0,
qo (.bin .neq) [.loc 2,.loc 0],
ql 0,
qg (.Vt 3) [.env 5] 0 false,
qgd 1 0 1 false,
qg (.Vt 3) [.env 1] 2 false,
qgd 1 0 3 false,
qg (.bin .neq) [.loc 2,.loc 0] 4 false,
qpt 5 0,
ql 0,
qg (.Vt 4) [.env 5] 0 false,
qgd 1 0 1 false,
qg (.Vt 4) [.env 1] 2 false,
qgd 1 0 3 false,
qg (.bin .neq) [.loc 2,.loc 0] 4 false,
qpt 5 0,
ql 0,
qg (.Vt 5) [.env 5] 0 false,
qgd 1 0 1 false,
qg (.Vt 5) [.env 1] 2 false,
qgd 1 0 3 false,
qg (.eqb true) [.loc 2,.loc 0] 4 false,
qpt 5 0,
ql 0] [(13,0)]
(cn 13 (sr [qi 1] [(2,0)]
(.ret)) (.seq (sr [qfe 1 1,
qd 1 0,
qo (.bin .neq) [.loc 0,qkb 0],
ql 0,
qg (.Vt 0) [.env 1] 0 true,
qgd 1 0 1 true,
qg (.bin .neq) [.loc 0,qkb 4] 2 true,
qpf 3 0,
ql 0] [(14,0)]
(cn 14 (.skip) (sr [qfe 6 1,
qd 1 0,
ql 0,
qg (.Vt 7) [.env 1] 0 false,
qgd 1 0 1 false,
qpt 2 0,
ql 0,
qge 6 0 true,
qgl 0 1 true,
qg (.Vt 5) [.env 1] 0 true,
qgd 1 0 1 true,
qg .pick [.loc 2,.loc 0,.const (.bool false)] 4 true,
qg (.un .not) [.loc 0] 5 true,
qpf 6 0,
ql 0] [(14,0)]
(cn 14 (.skip) (sr [qfe 8 1,
qd 1 0,
ql 0,
qge 7 0 true,
qg (.un .not) [.loc 0] 1 true,
qpf 2 0,
ql 0] [(14,0)]
(cn 14 (.skip) (rg [qfe 9 1,
qd 1 0,
ql 0,
qg (.Vt 0) [.env 1] 0 true,
qgd 1 0 1 true,
qg (.bin .neq) [.loc 0,qkb 5] 2 true,
qpf 3 0,
ql 0] [(14,0)])))))))
(cn 14 (sr [qi 12] [(2,0)]
(.ret)) (sr [qfe 10 1,
qd 1 0,
qe 3,
qo (.bin .neq) [.loc 1,.loc 0],
ql 0] [(15,0)]
(cn 15 (sr [qi 5] [(2,0)]
(.ret)) (.skip))))))))))))
(sr [qi 0] [(2,0)]
(.ret))))))))),
[.tmp 2]⟩
theorem F38_low:Dw Tryz.prog (KD [] [1]) [0,1,2,3,4,5,6,7,14,18,23,46,50,56,83,119] Tryz.f38=some F38:=by as_aux_lemma=>kernel_rfl
def F39:Va:=⟨[0,1,2],1,
sr [qo (.box 48 16) [.env 0],
qbb false] [(1,1),(2,0)]
(sr [qfe 0 1,
qd 1 0,
qo (.bin .geq) [.loc 0,qki 1],
ql 0,
qg (.Vt 0) [.env 1] 0 true,
qgd 1 0 1 true,
qg (.bin .leq) [.loc 0,qki 24] 2 true,
qpf 3 0,
ql 0,
qg (.Vt 1) [.env 1] 0 true,
qgd 1 0 1 true,
qg (.bin .geq) [.loc 0,qki 1] 2 true,
qpf 3 0,
ql 0,
qg (.Vt 4) [.env 1] 0 true,
qg (.Vt 10) [.loc 0] 1 true,
qgd 1 0 2 true,
qg (.bin .leq) [.loc 0,qki 80] 3 true,
qpf 4 0,
ql 0,
qg (.Vt 1) [.env 1] 0 true,
qgd 1 0 1 true,
qg (.Vt 4) [.env 1] 2 true,
qg (.Vt 10) [.loc 0] 3 true,
qgd 1 0 4 true,
qg (.bin .sub) [qki 80,.loc 0] 5 true,
qg (.bin .add) [.loc 0,qki 1] 6 true,
qg (.bin .leq) [.loc 5,.loc 0] 7 true,
qpf 8 0,
ql 0] [(2,0)]
(.ret)),
[.tmp 2]⟩
theorem F39_low:LK [0,1,2] Tryz.f39=some F39:=by as_aux_lemma=>kernel_rfl
def F40:Va:=⟨[0,2,3,4,5,6,7,8,9,10,14,34,39,50,53],1,
sr [qo .mv [.const (.str ⟨#[]⟩)],
qi 0] [(1,1),(2,0)]
(sr [qo (.alloc 113 [.nilp,.Vu]) []] [(3,0)]
(sr [qi 0] [(4,0)]
(.seq (sr [qi 0] [(5,0)]
(.block 0 (.loop (.seq (sr [qe 5,
qe 0,
qln true 0,
ql2 2 0] [(10,0)]
(cn 10 (.skip) (.exit 0)))
(.block 1 (sr [qe 0,
qe 5,
qo .index [.loc 1,.loc 0],
ql 0] [(6,0)]
(sr [qe 0,
qe 5,
qad 0 1,
qo (.slice true 0 true false false) [.loc 2,.loc 0],
qk 55 0,
ql 0,
qx 0 0,
qx 1 1,
qx 2 2,
ql 2,
ql 2,
ql 2] [(7,2),(8,1),(9,0)]
(.seq (sr [qe 9,
qun 0,
ql 0,
qg (.call 56) [.const (.str ⟨#[65,88,57,83,86,80,90,42,43,45,46,44,36,66,48,47,67,82,68]⟩)] 0 false,
qge 6 1 false,
qg .callv [.loc 1,.loc 0] 2 false,
qg (.un .not) [.loc 0] 3 false,
qpt 4 0] [(11,0)]
(cn 11 (sr [qo .mv [.const (.str ⟨#[]⟩)],
qi 4] [(1,1),(2,0)]
(.ret)) (.skip)))
(.seq (sr [qe 4,
qe 7,
qa2 1 0,
ql 0] [(4,0)]
(sr [qe 4,
qo (.bin .leq) [.loc 0,qki 256]] [(12,0)]
(cn 12 (rg [qe 6,
qo (.Vr 5 1 1 [.int .u8 0] [0] 1) [.loc 0],
qo .bstr [.loc 0],
qe 7,
qkk 58 1 0,
qo (.call 57) [.env 3,.loc 0]] []) (.skip))))
(rg [qe 5,
qe 8,
qo (.bin .add) [qki 1,.loc 0],
qa2 2 0,
ql 0] [(5,0)]))))))))))
(.seq (.block 2 (sr [qe 4,
qo (.bin .eql) [.loc 0,qki 0],
ql 0] [(13,0)]
(cn 13 (sr [qo .mv [.const (.str ⟨#[]⟩)],
qi 4] [(1,1),(2,0)]
(.ret)) (sr [qe 4,
qo (.bin .gtr) [.loc 0,qki 256],
ql 0] [(14,0)]
(cn 14 (sr [qo .mv [.const (.str ⟨#[]⟩)],
qi 3] [(1,1),(2,0)]
(.ret)) (.skip))))))
(sr [qo (.call 59) [.env 3],
ql 0,
qi 0] [(1,1),(2,0)]
(.ret)))))),
[.tmp 1,.tmp 2]⟩
theorem F40_low:LK [0,2,3,4,5,6,7,8,9,10,14,34,39,50,53] Tryz.f40=some F40:=by as_aux_lemma=>kernel_rfl
def F41:Va:=⟨[0,2,3,4,10,18,23,31],1,
sr [qo (.alloc 46 [.int .u8 0,.int .u8 0,.str ⟨#[]⟩,.int .i64 0,.int .i64 0,.bool false,.bool false,.bool false,.bool false,.bool false,.int .i64 0]) [],
qbb false] [(1,1),(2,0)]
(sr [qe 0,
qe 0,
qln true 0,
qo (.build [.int .u8 0,.int .u8 0,.str ⟨#[]⟩,.int .i64 0,.int .i64 0,.bool false,.bool false,.bool false,.bool false,.bool false,.int .i64 0] [(2,1),(10,1)]) [.loc 2,.loc 0],
qo (.alloc 46 [.int .u8 0,.int .u8 0,.str ⟨#[]⟩,.int .i64 0,.int .i64 0,.bool false,.bool false,.bool false,.bool false,.bool false,.int .i64 0]) [],
qso 11 0 1] [(3,1)]
(.seq (.block 0 (sr [qe 0,
qo (.call 56) [.const (.str ⟨#[65]⟩)],
qo (.call 60) [.loc 1,qki 0,.loc 0],
qe 0,
qln true 0,
qo (.bin .eql) [.loc 2,.loc 0],
ql 0] [(4,0)]
(cn 4 (rg [qfe 0 3,
qo (.store 1) [.loc 0,qkb 1]] []) (sr [qe 0,
qo (.call 61) [.loc 0,.const (.str ⟨#[65,88]⟩)],
qun 0,
ql 0] [(5,0)]
(cn 5 (sr [qde 11 3,
qs2 11 1 0,
qbb false] [(2,0)]
(.ret)) (sr [qe 0,
qo (.call 56) [.const (.str ⟨#[65,88,57]⟩)],
qo (.call 60) [.loc 1,qki 0,.loc 0],
qe 0,
qln true 0,
qo (.bin .eql) [.loc 2,.loc 0],
ql 0] [(6,0)]
(cn 6 (rg [qfe 0 3,
qo (.store 1) [.loc 0,qkb 2]] []) (sr [qe 0,
qo (.call 56) [.const (.str ⟨#[65,88,57,66,48,47]⟩)],
qo (.call 60) [.loc 1,qki 0,.loc 0],
qe 0,
qln true 0,
qo (.bin .eql) [.loc 2,.loc 0],
ql 0] [(7,0)]
(cn 7 (rg [qfe 0 3,
qo (.store 1) [.loc 0,qkb 3]] []) (sr [qde 11 3,
qs2 11 1 0,
qbb false] [(2,0)]
(.ret)))))))))))
(sr [qde 11 3,
qs2 11 1 0,
qbb true] [(2,0)]
(.ret)))),
[.cell 1 11 true,.tmp 2]⟩
theorem F41_low:LK [0,2,3,4,10,18,23,31] Tryz.f41=some F41:=by as_aux_lemma=>kernel_rfl
def F42:Va:=⟨[0,2,3,4,5,6,7,8,9,10,11,12,13,38,48,63],1,
sr [qo (.alloc 46 [.int .u8 0,.int .u8 0,.str ⟨#[]⟩,.int .i64 0,.int .i64 0,.bool false,.bool false,.bool false,.bool false,.bool false,.int .i64 0]) [],
qbb false] [(1,1),(2,0)]
(sr [qe 0,
qo (.call 62) [.loc 0,.const (.str ⟨#[83]⟩)],
ql 0,
qx 0 0,
qx 1 1,
ql 1,
ql 1] [(3,1),(4,0)]
(sr [qe 0,
qe 4,
qo (.build [.int .u8 0,.int .u8 0,.str ⟨#[]⟩,.int .i64 0,.int .i64 0,.bool false,.bool false,.bool false,.bool false,.bool false,.int .i64 0] [(0,1),(2,1),(5,1)]) [qkb 4,.loc 1,.loc 0],
qo (.alloc 46 [.int .u8 0,.int .u8 0,.str ⟨#[]⟩,.int .i64 0,.int .i64 0,.bool false,.bool false,.bool false,.bool false,.bool false,.int .i64 0]) [],
qso 11 0 1] [(5,1)]
(sr [qe 3,
qo (.call 63) [.loc 0,.const (.str ⟨#[86]⟩)],
ql 0,
qx 0 0,
qx 1 1,
qx 2 2,
ql 2,
ql 2,
ql 2] [(6,2),(7,1),(8,0)]
(sr [qe 3,
qo (.call 44) [.loc 0,.const (.str ⟨#[80]⟩)],
ql 0] [(9,0)]
(sr [qo .mv [.const (.fn 64 [])]] [(10,0)]
(sr [qe 3,
qo (.call 44) [.loc 0,.const (.str ⟨#[57]⟩)],
qfe 3 5,
qso 1 0 1] []
(sr [qfe 3 5,
qd 1 0,
qfe 10 5,
qso 1 0 1] []
(sr [qe 3,
qo (.call 65) [.loc 0,.const (.str ⟨#[86,80]⟩)],
ql 0] [(11,0)]
(.seq (.block 0 (sr [qfe 3 5,
qd 1 0,
qo (.bin .eql) [.loc 0,qki 0],
ql 0,
qge 3 0 false,
qg (.call 44) [.loc 0,.const (.str ⟨#[86]⟩)] 1 false,
qg (.bin .gtr) [.loc 0,qki 1] 2 false,
qpt 3 0,
ql 0] [(13,0)]
(cn 13 (sr [qde 11 5,
qs2 11 1 0,
qbb false] [(2,0)]
(.ret)) (sr [qe 9,
qo (.bin .eql) [.loc 0,qki 0],
ql 0] [(14,0)]
(cn 14 (sr [qe 7,
qln true 0,
qfe 4 5,
qso 1 0 1] []
(.seq (.drawn [qde 11 5,
qwe 10 0 1,
qwe 6 0 2,
qw .callv [.loc 1,.loc 0] 6 3,
qwl 0 14 4,
qh .mv [.env 10] 0 true 30 5,
qh .mv [.env 7] 1 true 30 6,
qh .callv [.loc 1,.loc 0] 2 true 126 7,
qw .pick [.loc 3,.loc 0,.const (.bool false)] 254 8,
qw (.store 11) [.env 1,.loc 8] 255 9,
qwl 1 1023 10] [(2,0)] [])
(.ret))) (sr [qe 10,
qe 11,
qo .callv [.loc 1,.loc 0],
ql 0,
qge 8 0 true,
qg (.un .not) [.loc 0] 1 true,
qgl 0 2 true,
qge 3 0 false,
qg .index [.loc 0,qki 0] 1 false,
qg (.bin .eql) [.loc 0,qkb 86] 2 false,
qg .pick [.loc 3,.const (.bool true),.loc 0] 6 true,
qpf 7 0,
ql 0] [(15,0)]
(cn 15 (sr [qfe 3 5,
qd 1 0,
qe 9,
qa2 1 0,
qfe 4 5,
qso 1 0 1] []
(sr [qde 11 5,
qs2 11 1 0,
qbb true] [(2,0)]
(.ret))) (.skip))))))))
(sr [qe 9,
qo (.un .neg) [.loc 0],
qfe 4 5,
qso 1 0 1] []
(sr [qe 3,
qo (.call 66) [.loc 0,.const (.str ⟨#[86]⟩)],
ql 0] [(12,0)]
(.seq (.drawn [qde 11 5,
qwe 10 0 1,
qwe 12 0 2,
qw (.call 67) [.loc 0,.const (.str ⟨#[80]⟩)] 4 3,
qw .callv [.loc 2,.loc 0] 14 4,
qw (.store 11) [.env 1,.loc 4] 31 5,
qwl 1 63 6] [(2,0)] [])
(.ret))))))))))))),
[.cell 1 11 true,.tmp 2]⟩
theorem F42_low:LK [0,2,3,4,5,6,7,8,9,10,11,12,13,38,48,63] Tryz.f42=some F42:=by as_aux_lemma=>kernel_rfl
def F43:Va:=⟨[0,2,3,4,5,7,8,9,10,11,12,13,24,25,26,27,36,52,85],1,
sr [qo (.alloc 46 [.int .u8 0,.int .u8 0,.str ⟨#[]⟩,.int .i64 0,.int .i64 0,.bool false,.bool false,.bool false,.bool false,.bool false,.int .i64 0]) [],
qbb false] [(1,1),(2,0)]
(sr [qe 0,
qe 0,
qln true 0,
qe 0,
qo (.call 44) [.loc 0,.const (.str ⟨#[86]⟩)],
qo (.bin .sub) [.loc 2,.loc 0],
qo (.build [.int .u8 0,.int .u8 0,.str ⟨#[]⟩,.int .i64 0,.int .i64 0,.bool false,.bool false,.bool false,.bool false,.bool false,.int .i64 0] [(0,1),(2,1),(10,1)]) [qkb 5,.loc 5,.loc 0],
qo (.build [.str ⟨#[]⟩,.int .i64 0,.int .i64 0,.int .u8 0,.int .u8 0,.str ⟨#[]⟩,.int .i64 0,.int .i64 0,.bool false,.bool false,.bool false,.bool false,.bool false,.int .i64 0] [(3,11)]) [.loc 0],
qo (.box 131 14) [.loc 0],
ql 0] [(3,0)]
(sr [qe 0,
ql 0] [(4,0)]
(.seq (sr [qo (.Vr 9 1 2 [.str ⟨#[]⟩] [0,1] 1) [.const (.str ⟨#[67,82]⟩),.const (.str ⟨#[68,66]⟩)],
qln false 0,
qi 0] [(12,2),(13,1),(14,0)]
(.block 0 (.loop (sr [qlt 14 13] [(15,0)]
(.seq (cn 15 (.skip) (.exit 0))
(.seq (.block 1 (sr [qo (.Vs 1) [.env 12,.env 14],
qd 1 0,
ql 0] [(5,0)]
(sr [qe 0,
qe 5,
qkk 68 1 0,
ql 0,
qx 0 0,
qx 1 1,
ql 1,
ql 1] [(6,1),(7,0)]
(sr [qe 7] [(16,0)]
(cn 16 (sr [qe 6,
ql 0] [(4,0)]
(rg [qe 3,
qnl 0,
qfl 2 0,
qd 1 0,
qad 0 1,
qnl 4,
qfl 2 0,
qso 1 0 2] [])) (.skip))))))
(rg [qae 14 1,
ql 0] [(14,0)])))))))
(sr [qe 3,
qe 4,
qo (.call 69) [.const (.fn 70 []),.loc 0],
qnl 2,
qfl 0 0,
qso 1 0 2] []
(.seq (sr [qe 3,
qo (.call 72) [.loc 0,.const (.str ⟨#[43,45]⟩)]] [(17,0)]
(cn 17 (rg [qe 3,
qnl 0,
qfl 2 0,
qd 1 0,
qad 0 1,
qnl 4,
qfl 2 0,
qso 1 0 2] []) (.skip)))
(sr [qe 3,
qo (.call 72) [.loc 0,.const (.str ⟨#[36]⟩)]] []
(sr [qe 3,
qk 73 0,
ql 0,
qx 0 0,
qx 1 1,
ql 1,
ql 1] [(8,1),(9,0)]
(sr [qe 3,
qe 8,
qe 9,
qo (.call 74) [.loc 2,.loc 1,.loc 0],
ql 0] [(10,0)]
(.seq (.seq (.drawn [qe 3,
qwk 0 1 1,
qwf 0 0 3 2,
qwd 1 0 7 3,
qwe 3 0 4,
qwk 0 16 5,
qwf 1 0 48 6,
qwd 1 0 112 7,
qw (.slice true 0 true false false) [.loc 4,.loc 0] 255 8,
qwl 0 511 9] [(11,0)] [])
(sr [qe 11,
qo (.bin .eql) [.loc 0,.const (.str ⟨#[43]⟩)],
ql 0,
qge 11 0 false,
qg (.bin .eql) [.loc 0,.const (.str ⟨#[45]⟩)] 1 false,
qpt 2 0] [(18,0)]
(cn 18 (sr [qe 3,
qnl 0,
qfl 2 0,
qd 1 0,
qad 0 1,
qnl 4,
qfl 2 0,
qso 1 0 2] []
(rg [qe 3,
qnl 0,
qfl 1 0,
qd 1 0,
qad 0 1,
qnl 4,
qfl 1 0,
qso 1 0 2] [])) (.skip))))
(sr [qe 3,
qe 3,
qnl 0,
qfl 2 0,
qd 1 0,
qo (.bin .gtr) [.loc 0,qki 0],
qnl 5,
qfl 3 0,
qfl 5 0,
qso 1 0 3] []
(.seq (.drawn [qe 3,
qwk 0 1 1,
qwf 3 0 3 2,
qw (.load 11 true) [.loc 0] 7 3,
qwe 10 0 4,
qwl 0 16 5,
qh .mv [.env 3] 0 true 48 6,
qh .nilck [.loc 0] 1 true 112 7,
qh (.Vt 1) [.loc 0] 2 true 240 8,
qh (.load 1 false) [.loc 0] 3 true 496 9,
qh .mv [.env 3] 4 true 48 10,
qh .nilck [.loc 0] 5 true 1072 11,
qh (.Vt 0) [.loc 0] 6 true 3120 12,
qh (.load 1 false) [.loc 0] 7 true 7216 13,
qh (.len true) [.loc 0] 8 true 15408 14,
qh (.bin .eql) [.loc 5,.loc 0] 9 true 32752 15,
qw .pick [.loc 10,.loc 0,.const (.bool false)] 65520 16,
qwl 0 131056 17,
qh .mv [.env 3] 0 true 262128 18,
qh .nilck [.loc 0] 1 true 524272 19,
qh (.Vt 2) [.loc 0] 2 true 1048560 20,
qh (.load 1 false) [.loc 0] 3 true 2097136 21,
qh (.bin .lss) [.loc 0,qki 2] 4 true 4194288 22,
qw .pick [.loc 5,.loc 0,.const (.bool false)] 8388592 23,
qwl 0 16777200 24,
qh .mv [.env 3] 0 true 33554416 25,
qh .nilck [.loc 0] 1 true 67108848 26,
qh (.Vt 3) [.loc 0] 2 true 134217712 27,
qh (.Vt 3) [.loc 0] 3 true 268435440 28,
qh (.load 1 false) [.loc 0] 4 true 536870896 29,
qh (.bin .gtr) [.loc 0,qki 0] 5 true 1073741808 30,
qw .pick [.loc 6,.loc 0,.const (.bool false)] 2147483632 31,
qwl 0 4294967280 32,
qh .mv [.env 0] 0 true 8589934576 33,
qh .index [.loc 0,qki 0] 1 true 17179869168 34,
qh (.bin .neq) [.loc 0,qkb 44] 2 true 34359738352 35,
qw .pick [.loc 3,.loc 0,.const (.bool false)] 68719476720 36,
qwl 0 137438953456 37,
qh .mv [.env 0] 0 true 274877906928 38,
qh .mv [.env 0] 1 true 274877906928 39,
qh (.len true) [.loc 0] 2 true 824633720816 40,
qh (.bin .sub) [.loc 0,qki 1] 3 true 1924145348592 41,
qh .index [.loc 3,.loc 0] 4 true 4398046511088 42,
qh (.bin .neq) [.loc 0,qkb 44] 5 true 8796093022192 43,
qw .pick [.loc 6,.loc 0,.const (.bool false)] 17592186044400 44,
qw (.store 11) [.env 1,.loc 41] 274877906943 45,
qwl 1 70368744177663 46] [(2,0)] [])
(.ret)))))))))))),
[.cell 1 11 true,.tmp 2]⟩
theorem F43_low:LK [0,2,3,4,5,7,8,9,10,11,12,13,24,25,26,27,36,52,85] Tryz.f43=some F43:=by as_aux_lemma=>kernel_rfl
def F44:Va:=⟨[0,1,4,5,6,9,15,24],2,
sr [qi 0] [(2,0)]
(.seq (sr [qe 1,
qln true 0,
qo (.bin .eql) [.loc 0,qki 0]] [(5,0)]
(cn 5 (sr [qe 0,
qk 75 0,
qad 0 1,
ql 0] [(2,0)]
(.ret)) (.skip)))
(.seq (sr [qe 1,
qln true 0,
qo (.bin .eql) [.loc 0,qki 1]] [(6,0)]
(cn 6 (sr [qe 0,
qe 1,
qo .index [.loc 0,qki 0],
qo .cntb [.loc 2,.loc 0],
ql 0] [(2,0)]
(.ret)) (.skip)))
(sr [qi 0] [(3,0)]
(.block 0 (.loop (.block 1 (sr [qe 0,
qe 1,
qkk 77 1 0,
ql 0] [(4,0)]
(.seq (sr [qe 4,
qo (.bin .eql) [.loc 0,.const (.int .i64 (-1))]] [(7,0)]
(cn 7 (sr [qe 3,
ql 0] [(2,0)]
(.ret)) (.skip)))
(sr [qe 3,
qad 0 1,
ql 0] [(3,0)]
(rg [qe 0,
qe 4,
qe 1,
qln true 0,
qa2 2 0,
qo (.slice true 0 true false false) [.loc 4,.loc 0],
ql 0] [(0,0)])))))))))),
[.tmp 2]⟩
theorem F44_low:LK [0,1,4,5,6,9,15,24] Tryz.f44=some F44:=by as_aux_lemma=>kernel_rfl
def F45:Va:=⟨[0,1,4,5,6,7,8,9,10,11,13,16,32,38,42,50,63],2,
sr [qno] [(2,0)]
(.seq (sr [qe 1,
qo (.bin .eql) [.loc 0,qki 0]] [(10,0)]
(cn 10 (sr [qo (.Vr 5 1 0 [.int .u8 0] [] 1) [],
ql 0] [(2,0)]
(.ret)) (.skip)))
(.seq (sr [qe 1,
qo (.bin .lss) [.loc 0,qki 0]] [(11,0)]
(cn 11 (rg [qo (.mkif 9) [.const (.str ⟨#[98,121,116,101,115,58,32,110,101,103,97,116,105,118,101,32,82,101,112,101,97,116,32,99,111,117,110,116]⟩)],
qo .fail []] []) (.skip)))
(sr [qe 0,
qln false 0,
qo (.conv .u64) [.loc 0],
qe 1,
qo (.conv .u64) [.loc 0],
qkk 78 2 0,
ql 0,
qx 0 0,
qx 1 1,
ql 1,
ql 1] [(3,1),(4,0)]
(.seq (sr [qe 3,
qo (.bin .gtr) [.loc 0,.const (.int .u64 0)],
ql 0,
qge 4 0 false,
qg (.bin .gtr) [.loc 0,.const (.int .u64 9223372036854775807)] 1 false,
qpt 2 0] [(12,0)]
(cn 12 (rg [qo (.mkif 9) [.const (.str ⟨#[98,121,116,101,115,58,32,82,101,112,101,97,116,32,111,117,116,112,117,116,32,108,101,110,103,116,104,32,111,118,101,114,102,108,111,119]⟩)],
qo .fail []] []) (.skip)))
(sr [qe 4,
qo (.conv .i64) [.loc 0],
ql 0] [(5,0)]
(.seq (sr [qe 0,
qln false 0,
qo (.bin .eql) [.loc 0,qki 0]] [(13,0)]
(cn 13 (sr [qo (.Vr 5 1 0 [.int .u8 0] [] 1) [],
ql 0] [(2,0)]
(.ret)) (.skip)))
(sr [qe 5,
ql 0] [(6,0)]
(.seq (sr [qe 6,
qo (.bin .gtr) [.loc 0,qki 8192]] [(14,0)]
(cn 14 (sr [qe 0,
qln false 0,
qo (.bin .quo) [qki 8192,.loc 0],
qe 0,
qln false 0,
qo (.bin .mul) [.loc 2,.loc 0],
ql 0] [(6,0)]
(sr [qe 6,
qo (.bin .eql) [.loc 0,qki 0]] [(15,0)]
(cn 15 (rg [qe 0,
qln false 0,
ql 0] [(6,0)]) (.skip)))) (.skip)))
(sr [qe 5,
qo (.mknz 5) [.loc 0],
qe 5,
qe 5,
qo (.slice false 1 false true true) [.loc 2,.loc 1,.loc 0],
ql 0] [(7,0)]
(sr [qe 7,
qe 0,
qo (.copy 1 1) [.loc 1,.loc 0],
ql 0] [(8,0)]
(.seq (.block 0 (.loop (.seq (sr [qe 8,
qe 5,
ql2 1 0] [(16,0)]
(cn 16 (.skip) (.exit 0)))
(.block 1 (sr [qe 8,
qe 6,
qo .min [.loc 1,.loc 0],
ql 0] [(9,0)]
(.drawn [qe 8,
qwe 7 0 1,
qwe 8 0 2,
qw (.slice false 1 true false false) [.loc 1,.loc 0] 6 3,
qwe 7 0 4,
qwe 9 0 5,
qw (.slice false 1 false true false) [.loc 1,.loc 0] 48 6,
qw (.copy 1 1) [.loc 3,.loc 0] 126 7,
qw (.bin .add) [.loc 7,.loc 0] 255 8,
qwl 0 511 9] [(8,0)] []))))))
(sr [qe 7,
ql 0] [(2,0)]
(.ret))))))))))))),
[.tmp 2]⟩
theorem F45_low:LK [0,1,4,5,6,7,8,9,10,11,13,16,32,38,42,50,63] Tryz.f45=some F45:=by as_aux_lemma=>kernel_rfl
def F46:Va:=⟨[0,2],1,
sr [qbb false] [(1,0)]
(sr [qe 0,
qo (.call 80) [.loc 0,.const (.fn 81 [])],
ql 0] [(1,0)]
(.ret)),
[.tmp 1]⟩
theorem F46_low:LK [0,2] Tryz.f46=some F46:=by as_aux_lemma=>kernel_rfl
def F47:Va:=⟨[0,2,3,15],1,
sr [qno] [(1,0)]
(sr [qe 0,
qln false 0,
ql 0] [(2,0)]
(.seq (.block 0 (.loop (.seq (sr [qe 2,
qo (.bin .gtr) [.loc 0,qki 0],
ql 0,
qge 0 0 true,
qge 2 1 true,
qg (.bin .sub) [.loc 0,qki 1] 2 true,
qg (.Vs 1) [.loc 2,.loc 0] 3 true,
qgd 1 0 4 true,
qg (.bin .eql) [.loc 0,qkb 32] 5 true,
qpf 6 0] [(3,0)]
(cn 3 (.skip) (.exit 0)))
(.block 1 (rg [qe 2,
qo (.bin .sub) [.loc 0,qki 1],
ql 0] [(2,0)])))))
(sr [qe 0,
qe 2,
qo (.slice false 1 false true false) [.loc 1,.loc 0],
qk 83 0,
qk 82 0,
ql 0] [(1,0)]
(.ret)))),
[.tmp 1]⟩
theorem F47_low:LK [0,2,3,15] Tryz.f47=some F47:=by as_aux_lemma=>kernel_rfl
def F48:Va:=⟨[0,1,2,4,5,6,7,8,9,10,11,21,29,46,49],2,
sr [qo (.box 48 16) [.env 0],
qno,
qbb false] [(2,2),(3,1),(4,0)]
(.seq (sr [qfe 4 2,
qfl 0 0,
qd 1 0,
qo (.bin .eql) [.loc 0,qkb 4],
ql 0,
qg (.Vt 4) [.env 2] 0 false,
qg (.Vt 0) [.loc 0] 1 false,
qgd 1 0 2 false,
qg (.bin .eql) [.loc 0,qkb 5] 3 false,
qpt 4 0] [(11,0)]
(cn 11 (sr [qe 1,
qo (.call 85) [.loc 0,.const (.str ⟨#[32]⟩)],
qk 84 0,
ql 0,
qx 0 0,
qx 1 1,
qo (.alloc 145 [.bool false,.str ⟨#[]⟩,.int .i64 0]) [],
qso 3 0 2,
ql 2] [(5,2),(6,0)]
(.seq (sr [qe 6,
qo (.bin .neq) [.loc 0,qki 0]] [(12,0)]
(cn 12 (sr [qno,
qbb false] [(3,1),(4,0)]
(.ret)) (.skip)))
(sr [qde 3 5,
qfe 4 2,
qdt 11 0,
qo (.call 86) [.loc 2,.loc 0,qkb 0],
ql 0,
qx 0 0,
qx 1 1,
qx 2 2,
ql 2,
ql 2,
ql 2] [(6,0),(7,2),(8,1)]
(sr [qe 7,
qe 6,
qo (.bin .eql) [.loc 0,qki 0],
ql 0,
qge 8 0 true,
qg (.un .not) [.loc 0] 1 true,
qpf 2 0,
ql 6,
ql 1] [(3,1),(4,0)]
(.ret))))) (.skip)))
(.seq (sr [qe 1,
qo (.bin .eql) [.loc 0,.const (.str ⟨#[]⟩)]] [(13,0)]
(cn 13 (rg [qo .mv [.const (.str ⟨#[32]⟩)]] [(1,0)]) (.skip)))
(.seq (sr [qe 1,
qln true 0,
qo (.bin .gtr) [.loc 0,qki 256]] [(14,0)]
(cn 14 (sr [qno,
qbb false] [(3,1),(4,0)]
(.ret)) (.skip)))
(.seq (.drawn [qe 1,
qw (.len true) [.loc 0] 1 1,
qw (.call 88) [.loc 0] 3 2,
qwe 1 0 3,
qw .strb [.loc 0] 8 4,
qw (.build [.int .u8 0,.int .u8 0,.str ⟨#[]⟩,.int .i64 0,.int .i64 0,.bool false,.bool false,.bool false,.bool false,.bool false,.int .i64 0,.Vu] [(0,11),(11,1)]) [.loc 2,.loc 0] 31 5,
qw (.Vt 4) [.env 2] 0 6,
qw (.load 11 true) [.loc 0] 64 7,
qw (.call 87) [.loc 2,.loc 0] 255 8,
qwl 0 511 9,
qw (.extract 0) [.loc 0] 1023 10,
qw (.extract 1) [.loc 1] 1023 11,
qwl 1 2047 12,
qwl 1 8191 13] [(9,1),(10,0)] [])
(sr [qe 9,
qe 10,
qo (.bin .eql) [.loc 0,qki 0],
ql 2,
ql 1] [(3,1),(4,0)]
(.ret)))))),
[.tmp 3,.tmp 4]⟩
theorem F48_low:LK [0,1,2,4,5,6,7,8,9,10,11,21,29,46,49] Tryz.f48=some F48:=by as_aux_lemma=>kernel_rfl
def F49:Va:=⟨[0,2],1,
sr [qno] [(1,0)]
(sr [qe 0,
qe 0,
qln false 0,
qe 0,
qln false 0,
qo (.slice false 2 false true true) [.loc 4,.loc 2,.loc 0],
ql 0] [(1,0)]
(.ret)),
[.tmp 1]⟩
theorem F49_low:LK [0,2] Tryz.f49=some F49:=by as_aux_lemma=>kernel_rfl
def F50:Va:=⟨[0,2,3,4,5,11,25],1,
sr [qi 0] [(1,0)]
(sr [qe 0,
qo (.call 89) [.loc 0,qkb 2,.const (.Vu)],
qo (.alloc 39 [.int .u8 0,.str ⟨#[]⟩,.int .i64 0,.int .i64 0,.bool false]) [],
qso 5 0 1] [(2,1)]
(.seq (sr [qfe 1 2,
qd 1 0,
qk 90 0,
qun 0] [(5,0)]
(cn 5 (rg [qe 0,
qe 0,
qnl 0,
qfl 1 0,
qdt 2 0,
qo (.call 53) [.loc 4,qki 4,.loc 0]] []) (.skip)))
(sr [qfe 1 2,
qd 1 0,
qk 91 0,
ql 0,
qx 0 0,
qx 1 1,
ql 1,
ql 1] [(3,1),(4,0)]
(.seq (sr [qe 4,
qo (.eqnil true 4) [.loc 0,.const (.nili)]] [(6,0)]
(cn 6 (rg [qi 1073741824] [(3,0)]) (.skip)))
(sr [qe 3,
ql 0] [(1,0)]
(.ret)))))),
[.tmp 1]⟩
theorem F50_low:LK [0,2,3,4,5,11,25] Tryz.f50=some F50:=by as_aux_lemma=>kernel_rfl
def F51:Va:=⟨[0,2,4,15,28,46,58],1,
sr [qe 0,
qnl 0,
qfl 0 0,
qo (.call 89) [.loc 0,qkb 1,.const (.Vu)],
qo (.alloc 39 [.int .u8 0,.str ⟨#[]⟩,.int .i64 0,.int .i64 0,.bool false]) [],
qso 5 0 1] [(1,1)]
(.seq (sr [qe 0,
qnl 0,
qfl 0 0,
qfl 0 0,
qd 1 0,
qln false 0,
qo (.bin .gtr) [.loc 0,qki 0]] [(3,0)]
(cn 3 (.drawn [qe 0,
qwk 0 1 1,
qwf 0 0 3 2,
qwe 0 0 3,
qwk 0 8 4,
qwf 0 0 24 5,
qwf 1 0 56 6,
qw (.load 2 true) [.loc 0] 120 7,
qw (.call 53) [.loc 5,qki 4,.loc 0] 255 8] [] []) (.skip)))
(.seq (sr [qfe 1 1,
qd 1 0,
qk 92 0,
qo (.bin .neq) [.loc 0,qkb 0]] [(4,0)]
(cn 4 (.drawn [qe 0,
qwk 0 1 1,
qwf 0 0 3 2,
qw (.Vt 2) [.env 1] 0 3,
qw (.load 2 true) [.loc 0] 8 4,
qw (.call 53) [.loc 2,qki 11,.loc 0] 31 5] [] []) (.skip)))
(.seq (.seq (.drawn [qe 0,
qwk 0 1 1,
qwf 3 0 3 2,
qwd 1 0 7 3,
qw (.Vt 1) [.env 1] 0 4,
qwd 1 0 16 5,
qw (.call 12) [.loc 2,.loc 0] 63 6,
qwl 0 127 7,
qw (.extract 0) [.loc 0] 255 8,
qw (.extract 1) [.loc 1] 255 9,
qwl 1 511 10,
qwl 1 2047 11] [(2,0)] [])
(sr [qe 2,
qo (.bin .eql) [.loc 0,qki 0]] [(5,0)]
(cn 5 (.drawn [qe 0,
qwk 0 1 1,
qwf 0 0 3 2,
qw (.Vt 2) [.env 1] 0 3,
qw (.load 2 true) [.loc 0] 8 4,
qw (.call 53) [.loc 2,qki 8,.loc 0] 31 5] [] []) (.skip))))
(.seq (sr [qe 0,
qnl 0,
qfl 3 0,
qd 1 0,
qln false 0,
qo (.bin .geq) [.loc 0,qki 64]] [(6,0)]
(cn 6 (.drawn [qe 0,
qwk 0 1 1,
qwf 0 0 3 2,
qwe 0 0 3,
qwk 0 8 4,
qwf 0 0 24 5,
qwf 1 0 56 6,
qw (.load 2 true) [.loc 0] 120 7,
qw (.call 53) [.loc 5,qki 3,.loc 0] 255 8] [] []) (.skip)))
(.drawn [qe 0,
qwe 0 0 1,
qwk 0 2 2,
qwf 3 0 6 3,
qwd 1 0 14 4,
qw (.Vt 1) [.env 1] 0 5,
qwd 1 0 32 6,
qwe 0 0 7,
qwk 0 128 8,
qwf 0 0 384 9,
qwf 1 0 896 10,
qw (.load 2 true) [.loc 0] 1920 11,
qw (.build [.str ⟨#[]⟩,.Vu,.int .i64 0,.int .i64 0] [(0,1),(2,2)]) [.loc 5,.loc 0] 4064 12,
qw (.Vr 36 4 1 [.str ⟨#[]⟩,.Vu,.int .i64 0,.int .i64 0] [0] 0) [.loc 0] 8160 13,
qw (.append 36 4 56 0) [.loc 9,.loc 0] 16382 14,
qwk 14 32767 15,
qwf 3 0 65535 16,
qw (.store 1) [.loc 0,.loc 2] 131071 17] [] []))))),
[]⟩
theorem F51_low:LK [0,2,4,15,28,46,58] Tryz.f51=some F51:=by as_aux_lemma=>kernel_rfl
def F52:Va:=⟨[0,2,3,4,5,6,42,57,69,77,100,115],1,
sr [qe 0,
qnl 0,
qfl 0 0,
qo (.Vr 9 1 1 [.str ⟨#[]⟩] [0] 1) [.const (.str ⟨#[70,73,76,76,69,82]⟩)],
qkk 93 1 0] []
(.seq (.drawn [qe 0,
qwk 0 1 1,
qwf 0 0 3 2,
qw (.Vr 9 1 1 [.str ⟨#[]⟩] [0] 1) [.const (.str ⟨#[76,73,78,69]⟩)] 0 3,
qw (.call 94) [.loc 1,.loc 0] 15 4,
qwe 0 0 5,
qwk 0 32 6,
qwf 0 0 96 7,
qw (.Vr 9 1 2 [.str ⟨#[]⟩] [0,1] 1) [.const (.str ⟨#[67,79,76,85,77,78]⟩),.const (.str ⟨#[67,79,76]⟩)] 0 8,
qw (.call 94) [.loc 1,.loc 0] 511 9,
qw (.build [.int .i64 0,.int .i64 0,.int .u8 0,.Vu,.int .u8 0,.int .u8 0,.str ⟨#[]⟩,.int .i64 0,.int .i64 0,.bool false,.bool false,.bool false,.bool false,.bool false,.int .i64 0,.Vu] [(0,1),(1,1)]) [.loc 5,.loc 0] 1023 10,
⟨.mv,[.loc 11],none,ob 0 11,some 0⟩,
qw (.store 16) [.loc 0,.loc 1] 4095 12] [(1,1)] [(48,[.int .i64 0,.int .i64 0,.int .u8 0,.Vu,.int .u8 0,.int .u8 0,.str ⟨#[]⟩,.int .i64 0,.int .i64 0,.bool false,.bool false,.bool false,.bool false,.bool false,.int .i64 0,.Vu])])
(sr [qe 0,
qo (.call 95) [.loc 0,.env 1],
qo (.alloc 39 [.int .u8 0,.str ⟨#[]⟩,.int .i64 0,.int .i64 0,.bool false]) [],
qso 5 0 1] [(2,1)]
(.seq (sr [qe 0,
qnl 0,
qfl 0 0,
qfl 0 0,
qd 1 0,
qln false 0,
qo (.bin .gtr) [.loc 0,qki 0],
ql 0,
qg (.Vt 2) [.env 1] 0 false,
qgd 1 0 1 false,
qg (.bin .neq) [.loc 0,qkb 1] 2 false,
qgl 0 3 false,
qg (.Vt 15) [.env 1] 0 true,
qgd 1 0 1 true,
qg (.len false) [.loc 0] 2 true,
qg (.bin .eql) [.loc 0,qki 0] 3 true,
qg .pick [.loc 4,.loc 0,.const (.bool false)] 8 false,
qpt 9 0] [(6,0)]
(cn 6 (.drawn [qe 0,
qwk 0 1 1,
qwf 0 0 3 2,
qwe 0 0 3,
qwk 0 8 4,
qwf 0 0 24 5,
qwf 1 0 56 6,
qw (.load 2 true) [.loc 0] 120 7,
qw (.call 53) [.loc 5,qki 4,.loc 0] 255 8] [] []) (.skip)))
(.seq (sr [qe 0,
qnl 0,
qfl 3 0,
qd 1 0,
qln false 0,
qo (.bin .eql) [.loc 0,qki 0]] [(7,0)]
(cn 7 (.drawn [qe 0,
qwk 0 1 1,
qwf 0 0 3 2,
qwe 0 0 3,
qwk 0 8 4,
qwf 0 0 24 5,
qwf 1 0 56 6,
qw (.load 2 true) [.loc 0] 120 7,
qw (.call 53) [.loc 5,qki 4,.loc 0] 255 8] [] []) (.skip)))
(.seq (sr [qfe 2 1,
qd 1 0,
qo (.bin .neq) [.loc 0,qkb 1]] [(8,0)]
(cn 8 (sr [qfe 1 2,
qd 1 0,
qk 17 0,
ql 0,
qx 0 0,
qx 1 1,
qo (.alloc 46 [.int .u8 0,.int .u8 0,.str ⟨#[]⟩,.int .i64 0,.int .i64 0,.bool false,.bool false,.bool false,.bool false,.bool false,.int .i64 0]) [],
qso 11 0 2,
ql 2] [(3,2),(4,0)]
(.seq (sr [qe 4,
qo (.bin .neq) [.loc 0,qki 0]] [(9,0)]
(cn 9 (.drawn [qe 0,
qwk 0 1 1,
qwf 0 0 3 2,
qwe 4 0 3,
qw (.Vt 2) [.env 2] 0 4,
qw (.load 2 true) [.loc 0] 16 5,
qw (.call 53) [.loc 3,.loc 2,.loc 0] 63 6] [] []) (.skip)))
(rg [qde 11 3,
qfe 4 1,
qso 11 0 1] []))) (.skip)))
(.seq (.drawn [qe 0,
qwk 0 1 1,
qwf 3 0 3 2,
qwd 1 0 7 3,
qwe 0 0 4,
qwk 0 16 5,
qwf 3 0 48 6,
qwd 1 0 112 7,
qw (.len false) [.loc 0] 240 8,
qw (.bin .sub) [.loc 0,qki 1] 496 9,
qw (.Vs 4) [.loc 6,.loc 0] 1023 10,
qwl 0 2047 11] [(5,0)] [])
(.seq (sr [qde 16 1,
qk 39 0,
qun 0] [(10,0)]
(cn 10 (.drawn [qe 0,
qwk 0 1 1,
qwf 0 0 3 2,
qwe 0 0 3,
qwk 0 8 4,
qwf 0 0 24 5,
qwf 1 0 56 6,
qw (.load 2 true) [.loc 0] 120 7,
qw (.call 53) [.loc 5,qki 13,.loc 0] 255 8] [] []) (.skip)))
(.seq (sr [qe 5,
qnl 0,
qfl 1 0,
qd 1 0,
qln false 0,
qo (.bin .geq) [.loc 0,qki 256]] [(11,0)]
(cn 11 (.drawn [qe 0,
qwk 0 1 1,
qwf 0 0 3 2,
qwe 0 0 3,
qwk 0 8 4,
qwf 0 0 24 5,
qwf 1 0 56 6,
qw (.load 2 true) [.loc 0] 120 7,
qw (.call 53) [.loc 5,qki 3,.loc 0] 255 8] [] []) (.skip)))
(.drawn [qe 5,
qwe 5 0 1,
qwk 0 2 2,
qwf 1 0 6 3,
qwd 1 0 14 4,
qw (.load 16 true) [.env 1] 0 5,
qw (.Vr 48 16 1 [.int .i64 0,.int .i64 0,.int .u8 0,.Vu,.int .u8 0,.int .u8 0,.str ⟨#[]⟩,.int .i64 0,.int .i64 0,.bool false,.bool false,.bool false,.bool false,.bool false,.int .i64 0,.Vu] [0] 0) [.loc 0] 32 6,
qw (.append 48 16 128 0) [.loc 2,.loc 0] 126 7,
qwk 7 255 8,
qwf 1 0 511 9,
qw (.store 1) [.loc 0,.loc 2] 1023 10] [] []))))))))),
[]⟩
theorem F52_low:LK [0,2,3,4,5,6,42,57,69,77,100,115] Tryz.f52=some F52:=by as_aux_lemma=>kernel_rfl
def F54:Va:=⟨[0,1,2,3,4,13,27,33,44],1,
sr [qo (.boxc 11) [.env 0],
qi 0,
qi 0] [(1,2),(2,1),(3,0)]
(.seq (.block 0 (sr [qfe 0 1,
qd 1 0,
qo (.bin .gtr) [.loc 0,qkb 5],
ql 0,
qg (.Vt 1) [.env 1] 0 false,
qgd 1 0 1 false,
qg (.bin .gtr) [.loc 0,qkb 2] 2 false,
qpt 3 0,
ql 0] [(4,0)]
(cn 4 (sr [qi 0,
qi 12] [(2,1),(3,0)]
(.ret)) (sr [qfe 0 1,
qd 1 0,
qo (.bin .eql) [.loc 0,qkb 0],
ql 0,
qg (.Vt 10) [.env 1] 0 true,
qgd 1 0 1 true,
qg (.bin .lss) [.loc 0,qki 0] 2 true,
qgl 0 3 true,
qg (.Vt 10) [.env 1] 0 false,
qgd 1 0 1 false,
qg (.bin .gtr) [.loc 0,qki 1048576] 2 false,
qg .pick [.loc 3,.const (.bool true),.loc 0] 7 true,
qpf 8 0,
ql 0] [(5,0)]
(cn 5 (sr [qi 0,
qi 1] [(2,1),(3,0)]
(.ret)) (sr [qfe 0 1,
qd 1 0,
qo (.bin .eql) [.loc 0,qkb 0],
ql 0] [(6,0)]
(cn 6 (sr [qfe 10 1,
qd 1 0,
ql 0,
qi 0] [(2,1),(3,0)]
(.ret)) (sr [qfe 0 1,
qd 1 0,
qo (.bin .neq) [.loc 0,qkb 4],
ql 0] [(7,0)]
(cn 7 (.seq (.drawn [qfe 2 1,
qwd 1 0 1 1,
qw (.len true) [.loc 0] 3 2,
qw (.Vt 2) [.env 1] 0 3,
qwd 1 0 8 4,
qw (.call 44) [.loc 0,.const (.str ⟨#[86]⟩)] 24 5,
qw (.bin .sub) [.loc 3,.loc 0] 63 6,
qwl 0 127 7,
qwi 0 255 8] [(2,1),(3,0)] [])
(.ret)) (sr [qfe 3 1,
qd 1 0,
qo (.bin .lss) [.loc 0,qki 1],
ql 0,
qg (.Vt 3) [.env 1] 0 false,
qgd 1 0 1 false,
qg (.bin .gtr) [.loc 0,qki 18] 2 false,
qpt 3 0,
ql 0] [(8,0)]
(cn 8 (sr [qi 0,
qi 1] [(2,1),(3,0)]
(.ret)) (.skip))))))))))))
(sr [qde 11 1,
qk 96 0,
ql 0,
qi 0] [(2,1),(3,0)]
(.ret))),
[.tmp 2,.tmp 3]⟩
theorem F54_low:Dw Tryz.prog (KD [] [1]) [0,1,2,3,4,13,27,33,44] Tryz.f54=some F54:=by as_aux_lemma=>kernel_rfl
def F55:Va:=⟨[0,2,3,4,5,8,31],1,
sr [qi 0,
qi 0,
qbb false] [(1,2),(2,1),(3,0)]
(.seq (sr [qe 0,
qo (.call 97) [.loc 0,.const (.str ⟨#[40]⟩)],
qun 0] [(5,0)]
(cn 5 (sr [qi 1,
qi 0,
qbb true] [(1,2),(2,1),(3,0)]
(.ret)) (.skip)))
(sr [qe 0,
qo (.call 56) [.const (.str ⟨#[48,49,50,51,52,53,54,55,56,57]⟩)],
qo (.call 60) [.loc 1,qki 1,.loc 0],
ql 0] [(4,0)]
(.seq (sr [qe 4,
qo (.bin .lss) [.loc 0,qki 1],
ql 0,
qge 4 0 false,
qg (.bin .gtr) [.loc 0,qki 5] 1 false,
qpt 2 0,
ql 0,
qge 4 0 false,
qg (.bin .add) [.loc 0,qki 1] 1 false,
qge 0 2 false,
qg (.len true) [.loc 0] 3 false,
qg (.bin .geq) [.loc 2,.loc 0] 4 false,
qpt 5 0,
ql 0,
qge 0 0 false,
qge 4 1 false,
qg (.bin .add) [.loc 0,qki 1] 2 false,
qg .index [.loc 2,.loc 0] 3 false,
qg (.bin .neq) [.loc 0,qkb 41] 4 false,
qpt 5 0] [(6,0)]
(cn 6 (sr [qi 0,
qi 0,
qbb false] [(1,2),(2,1),(3,0)]
(.ret)) (.skip)))
(sr [qe 0,
qe 4,
qad 0 1,
qo (.slice true 0 true true false) [.loc 2,qki 1,.loc 0],
qk 91 0,
ql 0,
qx 0 0,
qx 1 1,
ql 1] [(1,0)]
(sr [qe 1,
qe 4,
qad 0 2,
qe 1,
qo (.bin .gtr) [.loc 0,qki 0],
ql 4,
ql 3,
ql 2] [(1,2),(2,1),(3,0)]
(.ret)))))),
[.tmp 1,.tmp 2,.tmp 3]⟩
theorem F55_low:LK [0,2,3,4,5,8,31] Tryz.f55=some F55:=by as_aux_lemma=>kernel_rfl
def F56:Va:=⟨[0,1,2],1,
sr [qo (.boxc 1) [.env 0],
qo .mv [.const (.nilfn)]] [(1,1),(2,0)]
(sr [qo (.mkfn 98) [.env 1],
ql 0] [(2,0)]
(.ret)),
[.tmp 2]⟩
theorem F56_low:Dw Tryz.prog (KD [] [1]) [0,1,2] Tryz.f56=some F56:=by as_aux_lemma=>kernel_rfl
def F57:Va:=⟨[0,1,4,5],2,
sr [qi 0,
qo .mv [.const (.nili)]] [(2,1),(3,0)]
(sr [qe 0,
qk 100 0] []
(sr [qe 0,
qe 0,
qnl 0,
qfl 1 0,
qd 1 0,
qe 1,
qo (.appstr 5 1 1) [.loc 1,.loc 0],
qnl 6,
qfl 1 0,
qso 1 0 2] []
(sr [qe 1,
qln true 0,
ql 0,
qo .mv [.const (.nili)]] [(2,1),(3,0)]
(.ret)))),
[.tmp 2,.tmp 3]⟩
theorem F57_low:LK [0,1,4,5] Tryz.f57=some F57:=by as_aux_lemma=>kernel_rfl
def F59:Va:=⟨[0,2],1,
sr [qo .mv [.const (.str ⟨#[]⟩)]] [(1,0)]
(.seq (.drawn [qe 0,
qwk 0 1 1,
qwf 1 0 3 2,
qwd 1 0 7 3,
qw .sdata [.loc 0] 15 4,
qwe 0 0 5,
qwk 0 32 6,
qwf 1 0 96 7,
qwd 1 0 224 8,
qw (.len false) [.loc 0] 480 9,
qw (.ustr 5) [.loc 5,.loc 0] 1023 10,
qwl 0 2047 11] [(1,0)] [])
(.ret)),
[.tmp 1]⟩
theorem F59_low:LK [0,2] Tryz.f59=some F59:=by as_aux_lemma=>kernel_rfl
def F60:Va:=⟨[0,1,2,6,7,22],3,
sr [qi 0] [(3,0)]
(sr [qi 0] [(4,0)]
(.seq (.block 0 (.loop (.seq (sr [qe 1,
qe 4,
qa2 1 0,
qe 0,
qln true 0,
ql2 2 0,
ql 0,
qge 2 0 true,
qge 0 1 true,
qge 1 2 true,
qge 4 3 true,
qg (.bin .add) [.loc 1,.loc 0] 4 true,
qg .index [.loc 3,.loc 0] 5 true,
qg .callv [.loc 5,.loc 0] 6 true,
qpf 7 0] [(5,0)]
(cn 5 (.skip) (.exit 0)))
(.block 1 (rg [qe 4,
qad 0 1,
ql 0] [(4,0)])))))
(sr [qe 4,
ql 0] [(3,0)]
(.ret)))),
[.tmp 3]⟩
theorem F60_low:LK [0,1,2,6,7,22] Tryz.f60=some F60:=by as_aux_lemma=>kernel_rfl
def F61:Va:=⟨[0,1,4],2,
sr [qbb false] [(2,0)]
(sr [qe 0,
qe 1,
qkk 103 1 0,
qo (.bin .geq) [.loc 0,qki 0],
ql 0] [(2,0)]
(.ret)),
[.tmp 2]⟩
theorem F61_low:LK [0,1,4] Tryz.f61=some F61:=by as_aux_lemma=>kernel_rfl
def F62:Va:=⟨[0,1,4,5],2,
sr [qo .mv [.const (.str ⟨#[]⟩)],
qbb false] [(2,1),(3,0)]
(sr [qe 0,
qe 1,
qkk 104 1 0,
qx 0 0,
qx 1 1,
ql 1,
ql 1] [(2,1),(3,0)]
(.ret)),
[.tmp 2,.tmp 3]⟩
theorem F62_low:LK [0,1,4,5] Tryz.f62=some F62:=by as_aux_lemma=>kernel_rfl
def F63:Va:=⟨[0,1,4,5,6],2,
sr [qo .mv [.const (.str ⟨#[]⟩)],
qo .mv [.const (.str ⟨#[]⟩)],
qbb false] [(2,2),(3,1),(4,0)]
(sr [qe 0,
qe 1,
qkk 105 1 0,
qx 0 0,
qx 1 1,
qx 2 2,
ql 2,
ql 2,
ql 2] [(2,2),(3,1),(4,0)]
(.ret)),
[.tmp 2,.tmp 3,.tmp 4]⟩
theorem F63_low:LK [0,1,4,5,6] Tryz.f63=some F63:=by as_aux_lemma=>kernel_rfl
def F64:Va:=⟨[0,2],1,
sr [qbb false] [(1,0)]
(sr [qe 0,
qo (.call 56) [.const (.str ⟨#[57]⟩)],
qo (.call 60) [.loc 1,qki 0,.loc 0],
qe 0,
qln true 0,
qo (.bin .eql) [.loc 2,.loc 0],
ql 0] [(1,0)]
(.ret)),
[.tmp 1]⟩
theorem F64_low:LK [0,2] Tryz.f64=some F64:=by as_aux_lemma=>kernel_rfl
def F65:Va:=⟨[0,1,4,5,6,12,21,31],2,
sr [qo .mv [.const (.str ⟨#[]⟩)]] [(2,0)]
(.seq (sr [qe 0,
qo (.bin .eql) [.loc 0,.const (.str ⟨#[]⟩)],
ql 0,
qge 1 0 false,
qg (.bin .eql) [.loc 0,.const (.str ⟨#[]⟩)] 1 false,
qpt 2 0] [(5,0)]
(cn 5 (sr [qe 0,
ql 0] [(2,0)]
(.ret)) (.skip)))
(.seq (sr [qe 1,
qln true 0,
qo (.bin .eql) [.loc 0,qki 1],
ql 0,
qge 1 0 true,
qg .index [.loc 0,qki 0] 1 true,
qg (.bin .lss) [.loc 0,qkb 128] 2 true,
qpf 3 0] [(6,0)]
(cn 6 (sr [qe 0,
qe 1,
qo .index [.loc 0,qki 0],
qkk 106 2 0,
ql 0] [(2,0)]
(.ret)) (.skip)))
(.seq (sr [qe 1,
qk 107 0,
ql 0,
qx 0 0,
qx 1 1,
qo (.alloc 169 tb0) [],
qso 256 0 2,
ql 2] [(3,2),(4,0)]
(sr [qe 4] [(7,0)]
(cn 7 (sr [qe 0,
qo (.call 108) [.loc 0,.env 3],
ql 0] [(2,0)]
(.ret)) (.skip))))
(sr [qe 0,
qe 1,
qkk 109 1 0,
ql 0] [(2,0)]
(.ret))))),
[.tmp 2]⟩
theorem F65_low:LK [0,1,4,5,6,12,21,31] Tryz.f65=some F65:=by as_aux_lemma=>kernel_rfl
def F68:Va:=⟨[0,1,4,5],2,
sr [qo .mv [.const (.str ⟨#[]⟩)],
qbb false] [(2,1),(3,0)]
(sr [qe 0,
qe 1,
qkk 114 1 0,
qx 0 0,
qx 1 1,
ql 1,
ql 1] [(2,1),(3,0)]
(.ret)),
[.tmp 2,.tmp 3]⟩
theorem F68_low:LK [0,1,4,5] Tryz.f68=some F68:=by as_aux_lemma=>kernel_rfl
def F69:Va:=⟨[0,1,4,5,6,7,8,9,11,12,14,15,16,28,30,44,56,65,68,69,70,76,78],2,
sr [qo .mv [.const (.str ⟨#[]⟩)]] [(2,0)]
(sr [qo (.alloc 113 [.nilp,.Vu]) []] [(3,0)]
(.seq (sr [qe 1,
qo .rngs [.loc 0]] [(10,0)]
(.block 0 (.loop (sr [qo .nexts [.env 10],
qx 0 0] [(11,1),(12,0)]
(.seq (cn 12 (.skip) (.exit 0))
(.block 1 (sr [qo (.extract 1) [.env 11],
qo (.extract 2) [.env 11],
ql 1,
ql 1] [(4,1),(5,0)]
(sr [qe 0,
qe 5,
qo .callv [.loc 1,.loc 0],
ql 0] [(6,0)]
(.seq (sr [qe 6,
qe 5,
qo (.bin .eql) [.loc 1,.loc 0],
ql 0,
qge 5 0 true,
qg (.bin .neq) [.loc 0,.const (.int .i32 65533)] 1 true,
qpf 2 0] [(13,0)]
(cn 13 (.exit 1) (.skip)))
(sr [qi 0] [(7,0)]
(.seq (sr [qe 5,
qo (.bin .eql) [.loc 0,.const (.int .i32 65533)]] [(14,0)]
(cn 14 (sr [qe 1,
qe 4,
qo (.slice true 0 true false false) [.loc 1,.loc 0],
qk 115 0,
ql 0,
qx 0 0,
qx 1 1,
ql 1,
ql 1] [(5,1),(7,0)]
(sr [qe 7,
qo (.bin .neq) [.loc 0,qki 1],
ql 0,
qge 6 0 true,
qge 5 1 true,
qg (.bin .eql) [.loc 1,.loc 0] 2 true,
qpf 3 0] [(15,0)]
(cn 15 (.exit 1) (.skip)))) (rg [qe 5,
qk 116 0,
ql 0] [(7,0)])))
(sr [qe 1,
qln true 0,
qad 0 4,
qo (.call 101) [.env 3,.loc 0]] []
(sr [qe 1,
qe 4,
qo (.slice true 0 false true false) [.loc 1,.loc 0],
qo (.call 57) [.env 3,.loc 0]] []
(.seq (sr [qe 6,
qo (.bin .geq) [.loc 0,.const (.int .i32 0)]] [(16,0)]
(cn 16 (rg [qe 6,
qo (.call 117) [.env 3,.loc 0]] []) (.skip)))
(sr [qe 1,
qe 4,
qe 7,
qa2 1 0,
qo (.slice true 0 true false false) [.loc 3,.loc 0],
ql 0] [(1,0)]
(.exit 0))))))))))))))))
(.seq (sr [qo (.call 118) [.env 3],
qo (.bin .eql) [.loc 0,qki 0]] [(17,0)]
(cn 17 (sr [qe 1,
ql 0] [(2,0)]
(.ret)) (.skip)))
(.seq (sr [qe 1,
qo .rngs [.loc 0]] [(18,0)]
(.block 2 (.loop (sr [qo .nexts [.env 18],
qx 0 0] [(19,1),(20,0)]
(.seq (cn 20 (.skip) (.exit 2))
(.block 3 (sr [qo (.extract 2) [.env 19],
ql 0] [(8,0)]
(sr [qe 0,
qe 8,
qo .callv [.loc 1,.loc 0],
ql 0] [(9,0)]
(sr [qe 9,
qo (.bin .geq) [.loc 0,.const (.int .i32 0)]] [(21,0)]
(cn 21 (sr [qe 9,
qo (.bin .lss) [.loc 0,.const (.int .i32 128)]] [(22,0)]
(cn 22 (rg [qe 9,
qo (.conv .u8) [.loc 0],
qo (.call 119) [.env 3,.loc 0]] []) (rg [qe 9,
qo (.call 117) [.env 3,.loc 0]] []))) (.skip)))))))))))
(sr [qo (.call 59) [.env 3],
ql 0] [(2,0)]
(.ret)))))),
[.tmp 2]⟩
theorem F69_low:LK [0,1,4,5,6,7,8,9,11,12,14,15,16,28,30,44,56,65,68,69,70,76,78] Tryz.f69=some F69:=by as_aux_lemma=>kernel_rfl
def F70:Va:=⟨[0,2,4],1,
sr [qo .mv [.const (.int .i32 0)]] [(1,0)]
(.seq (sr [qe 0,
qo (.call 71) [.const (.str ⟨#[66,48,47,44]⟩),.loc 0]] [(2,0)]
(cn 2 (sr [qo .mv [.const (.int .i32 (-1))]] [(1,0)]
(.ret)) (.skip)))
(sr [qe 0,
ql 0] [(1,0)]
(.ret))),
[.tmp 1]⟩
theorem F70_low:LK [0,2,4] Tryz.f70=some F70:=by as_aux_lemma=>kernel_rfl
def F71:Va:=⟨[0,1,4],2,
sr [qbb false] [(2,0)]
(sr [qe 0,
qe 1,
qkk 120 1 0,
qo (.bin .geq) [.loc 0,qki 0],
ql 0] [(2,0)]
(.ret)),
[.tmp 2]⟩
theorem F71_low:LK [0,1,4] Tryz.f71=some F71:=by as_aux_lemma=>kernel_rfl
def F72:Va:=⟨[0,1,4,6,8,9,10,11,24],2,
sr [qbb false] [(2,0)]
(.seq (sr [qe 1,
qo .strb [.loc 0],
qln false 0,
qi 0] [(4,2),(5,1),(6,0)]
(.block 0 (.loop (sr [qlt 6 5] [(7,0)]
(.seq (cn 7 (.skip) (.exit 0))
(.seq (.block 1 (sr [qo (.Vs 1) [.env 4,.env 6],
qd 1 0,
qo (.alloc 5 [.int .u8 0]) [],
qso 1 0 1] [(3,1)]
(.seq (.drawn [qe 0,
qwk 0 1 1,
qwf 0 0 3 2,
qwd 1 0 7 3,
qwe 0 0 4,
qwk 0 16 5,
qwf 1 0 48 6,
qwd 1 0 112 7,
qw (.mkfn 121) [.env 3] 0 8,
qw (.call 60) [.loc 5,.loc 1,.loc 0] 511 9,
qw (.bin .eql) [.loc 0,qki 1] 1023 10] [(8,0)] [])
(cn 8 (sr [qe 0,
qnl 0,
qfl 1 0,
qd 1 0,
qad 0 1,
qnl 4,
qfl 1 0,
qso 1 0 2] []
(sr [qbb true] [(2,0)]
(.ret))) (.skip)))))
(rg [qae 6 1,
ql 0] [(6,0)])))))))
(sr [qbb false] [(2,0)]
(.ret))),
[.tmp 2]⟩
theorem F72_low:LK [0,1,4,6,8,9,10,11,24] Tryz.f72=some F72:=by as_aux_lemma=>kernel_rfl
def F73:Va:=⟨[0,2,3,4,5,6,8,9,10,11,15,24,30,31,32,53,70],1,
sr [qo .mv [.const (.str ⟨#[]⟩)],
qbb false] [(1,1),(2,0)]
(sr [qo .mv [.const (.str ⟨#[]⟩)]] [(3,0)]
(.seq (sr [qe 0,
qo (.call 122) [.loc 0,.const (.str ⟨#[90]⟩)],
ql 0] [(4,0)]
(sr [qe 4,
qo (.bin .gtr) [.loc 0,qki 0]] [(10,0)]
(cn 10 (rg [qe 0,
qe 4,
qo .mv [.const (.str ⟨#[90]⟩)],
qnl 2,
qfl 3 0,
qfl 3 0,
qso 1 0 4] [(3,4)]) (sr [qe 0,
qo (.call 122) [.loc 0,.const (.str ⟨#[42]⟩)],
ql 0] [(5,0)]
(sr [qe 5,
qo (.bin .gtr) [.loc 0,qki 0]] [(11,0)]
(cn 11 (rg [qe 0,
qe 5,
qo .mv [.const (.str ⟨#[42]⟩)],
qnl 2,
qfl 3 0,
qfl 3 0,
qso 1 0 4] [(3,4)]) (.skip)))))))
(.seq (sr [qo (.load 3 true) [.const (.Vw [.int .u8 36,.int .u8 43,.int .u8 45] 0)],
qi 0] [(12,1),(13,0)]
(.block 0 (.loop (sr [qo (.bin .lss) [.env 13,qki 3]] [(14,0)]
(.seq (cn 14 (.skip) (.exit 0))
(.seq (.block 1 (sr [qo (.aindex 1 3 false) [.env 12,.env 13],
ql 0] [(6,0)]
(sr [qe 6,
qo (.Vr 5 1 1 [.int .u8 0] [0] 1) [.loc 0],
qo .bstr [.loc 0],
ql 0] [(7,0)]
(.seq (.drawn [qe 0,
qwk 0 1 1,
qwf 0 0 3 2,
qwd 1 0 7 3,
qwe 0 0 4,
qwk 0 16 5,
qwf 1 0 48 6,
qwd 1 0 112 7,
qwe 7 0 8,
qw (.call 56) [.loc 0] 256 9,
qw (.call 60) [.loc 6,.loc 2,.loc 0] 1023 10,
qwl 0 2047 11] [(8,0)] [])
(sr [qe 3,
qo (.bin .eql) [.loc 0,.const (.str ⟨#[]⟩)],
ql 0,
qge 8 0 true,
qg (.bin .gtr) [.loc 0,qki 1] 1 true,
qpf 2 0] [(15,0)]
(cn 15 (sr [qe 0,
qe 7,
qe 8,
qo (.bin .sub) [.loc 0,qki 1],
ql 2,
qnl 4,
qfl 3 0,
qfl 3 0,
qso 1 0 4] [(3,4)]
(sr [qe 0,
qnl 0,
qfl 1 0,
qd 1 0,
qe 8,
qa2 1 0,
qnl 5,
qfl 1 0,
qso 1 0 2] []
(sr [qe 6,
qo (.bin .neq) [.loc 0,qkb 36]] [(16,0)]
(cn 16 (rg [qe 0,
qnl 0,
qfl 2 0,
qd 1 0,
qad 0 1,
qnl 4,
qfl 2 0,
qso 1 0 2] []) (.skip))))) (.skip)))))))
(rg [qae 13 1,
ql 0] [(13,0)])))))))
(sr [qe 0,
qo (.call 122) [.loc 0,.const (.str ⟨#[57]⟩)],
ql 0] [(9,0)]
(sr [qe 0,
qnl 0,
qfl 3 0,
qfl 3 0,
qd 1 0,
qe 9,
qa2 1 0,
qnl 6,
qfl 3 0,
qfl 3 0,
qso 1 0 3] []
(sr [qe 3,
qe 9,
qo (.bin .gtr) [.loc 0,qki 0],
ql 2,
ql 1] [(1,1),(2,0)]
(.ret))))))),
[.tmp 1,.tmp 2]⟩
theorem F73_low:LK [0,2,3,4,5,6,8,9,10,11,15,24,30,31,32,53,70] Tryz.f73=some F73:=by as_aux_lemma=>kernel_rfl
def F74:Va:=⟨[0,1,2,6,7,8,42,62,68,74],3,
sr [qbb false] [(3,0)]
(.seq (.seq (.drawn [qe 0,
qwk 0 1 1,
qwf 1 0 3 2,
qwd 1 0 7 3,
qwe 0 0 4,
qwk 0 16 5,
qwf 0 0 48 6,
qwd 1 0 112 7,
qw (.len true) [.loc 0] 240 8,
qw (.bin .geq) [.loc 5,.loc 0] 511 9,
qwl 0 1023 10,
qh .mv [.env 0] 0 false 2047 11,
qh .nilck [.loc 0] 1 false 4095 12,
qh (.Vt 0) [.loc 0] 2 false 8191 13,
qh (.load 1 false) [.loc 0] 3 false 16383 14,
qh .mv [.env 0] 4 false 2047 15,
qh .nilck [.loc 0] 5 false 34815 16,
qh (.Vt 1) [.loc 0] 6 false 100351 17,
qh (.load 1 false) [.loc 0] 7 false 231423 18,
qh .index [.loc 4,.loc 0] 8 false 524287 19,
qh (.bin .neq) [.loc 0,qkb 46] 9 false 1048575 20,
qh .mv [.loc 0] 10 false 2097151 21,
qh .mv [.env 0] 0 true 4194303 22,
qh .nilck [.loc 0] 1 true 8388607 23,
qh (.Vt 0) [.loc 0] 2 true 16777215 24,
qh (.load 1 false) [.loc 0] 3 true 33554431 25,
qh .mv [.env 0] 4 true 4194303 26,
qh .nilck [.loc 0] 5 true 71303167 27,
qh (.Vt 1) [.loc 0] 6 true 205520895 28,
qh (.load 1 false) [.loc 0] 7 true 473956351 29,
qh .index [.loc 4,.loc 0] 8 true 1073741823 30,
qh (.bin .neq) [.loc 0,qkb 86] 9 true 2147483647 31,
qh .pick [.loc 10,.loc 0,.const (.bool false)] 21 false 4294967295 32,
qw .pick [.loc 22,.const (.bool true),.loc 0] 8589934591 33] [(6,0)] [])
(cn 6 (sr [qbb true] [(3,0)]
(.ret)) (.skip)))
(.seq (.drawn [qe 0,
qwk 0 1 1,
qwf 0 0 3 2,
qwd 1 0 7 3,
qwe 0 0 4,
qwk 0 16 5,
qwf 1 0 48 6,
qwd 1 0 112 7,
qw .index [.loc 4,.loc 0] 255 8,
qw (.bin .eql) [.loc 0,qkb 46] 511 9,
qwl 0 1023 10] [(4,0)] [])
(sr [qe 0,
qnl 0,
qfl 1 0,
qd 1 0,
qad 0 1,
qnl 4,
qfl 1 0,
qso 1 0 2] []
(sr [qe 0,
qo (.call 122) [.loc 0,.const (.str ⟨#[57]⟩)],
ql 0] [(5,0)]
(.seq (.block 0 (sr [qe 5,
qo (.bin .gtr) [.loc 0,qki 0],
ql 0,
qge 2 0 false,
qpt 1 0,
ql 0] [(7,0)]
(cn 7 (.skip) (sr [qe 1,
qo (.bin .neq) [.loc 0,.const (.str ⟨#[]⟩)],
ql 0] [(8,0)]
(cn 8 (rg [qe 0,
qe 1,
qkk 122 1 0,
ql 0] [(5,0)]) (.seq (.drawn [qe 0,
qwk 0 1 1,
qwf 1 0 3 2,
qwd 1 0 7 3,
qwe 0 0 4,
qwk 0 16 5,
qwf 0 0 48 6,
qwd 1 0 112 7,
qw (.len true) [.loc 0] 240 8,
qw (.bin .lss) [.loc 5,.loc 0] 511 9,
qwl 0 1023 10,
qh (.call 56) [.const (.str ⟨#[90,42]⟩)] 0 true 2047 11,
qh .mv [.env 0] 1 true 2047 12,
qh .nilck [.loc 0] 2 true 6143 13,
qh (.Vt 0) [.loc 0] 3 true 14335 14,
qh (.load 1 false) [.loc 0] 4 true 30719 15,
qh .mv [.env 0] 5 true 2047 16,
qh .nilck [.loc 0] 6 true 67583 17,
qh (.Vt 1) [.loc 0] 7 true 198655 18,
qh (.load 1 false) [.loc 0] 8 true 460799 19,
qh .index [.loc 4,.loc 0] 9 true 1046527 20,
qh .callv [.loc 9,.loc 0] 10 true 2097151 21,
qw .pick [.loc 11,.loc 0,.const (.bool false)] 4194303 22,
qwl 0 8388607 23] [(9,0)] [])
(cn 9 (.drawn [qe 0,
qwe 0 0 1,
qwk 0 2 2,
qwf 0 0 6 3,
qwd 1 0 14 4,
qwe 0 0 5,
qwk 0 32 6,
qwf 1 0 96 7,
qwd 1 0 224 8,
qwe 0 0 9,
qwk 0 512 10,
qwf 1 0 1536 11,
qwd 1 0 3584 12,
qw (.bin .add) [.loc 0,qki 1] 7680 13,
qw (.slice true 0 true true false) [.loc 9,.loc 5,.loc 0] 16382 14,
qw (.call 122) [.loc 14,.loc 0] 32767 15,
qwl 0 65535 16] [(5,0)] []) (.skip))))))))
(sr [qe 0,
qe 5,
qnl 1,
qfl 3 0,
qfl 4 0,
qso 1 0 3] []
(sr [qe 0,
qnl 0,
qfl 3 0,
qfl 3 0,
qd 1 0,
qe 5,
qa2 1 0,
qnl 6,
qfl 3 0,
qfl 3 0,
qso 1 0 3] []
(sr [qe 5,
qo (.bin .gtr) [.loc 0,qki 0],
ql 0,
qge 4 0 false,
qg (.un .not) [.loc 0] 1 false,
qpt 2 0,
ql 0] [(3,0)]
(.ret))))))))),
[.tmp 3]⟩
theorem F74_low:LK [0,1,2,6,7,8,42,62,68,74] Tryz.f74=some F74:=by as_aux_lemma=>kernel_rfl
def F77:Va:=⟨[0,1,4],2,
sr [qi 0] [(2,0)]
(sr [qe 0,
qe 1,
qkk 123 1 0,
ql 0] [(2,0)]
(.ret)),
[.tmp 2]⟩
theorem F77_low:LK [0,1,4] Tryz.f77=some F77:=by as_aux_lemma=>kernel_rfl
def F78:Va:=⟨[0,1,4,5,6,7,8,9],2,
sr [qo .mv [.const (.int .u64 0)],
qo .mv [.const (.int .u64 0)]] [(2,1),(3,0)]
(.seq (.cond (.const (.bool false)) (sr [qe 0,
qo (.conv .u32) [.loc 0],
qe 1,
qo (.conv .u32) [.loc 0],
qkk 124 2 0,
ql 0,
qx 0 0,
qx 1 1,
ql 1,
ql 1] [(4,1),(5,0)]
(sr [qe 4,
qo (.conv .u64) [.loc 0],
qe 5,
qo (.conv .u64) [.loc 0],
ql 2,
ql 1] [(2,1),(3,0)]
(.ret))) (.skip))
(sr [qe 0,
qe 1,
qkk 125 1 0,
ql 0,
qx 0 0,
qx 1 1,
ql 1,
ql 1] [(6,1),(7,0)]
(sr [qe 6,
qe 7,
ql 1,
ql 1] [(2,1),(3,0)]
(.ret)))),
[.tmp 2,.tmp 3]⟩
theorem F78_low:LK [0,1,4,5,6,7,8,9] Tryz.f78=some F78:=by as_aux_lemma=>kernel_rfl
def F80:Va:=⟨[0,1,4,5,7,8,9,16],2,
sr [qbb false] [(2,0)]
(.seq (sr [qe 0,
qln true 0,
qi 0] [(4,1),(5,0)]
(.block 0 (.loop (sr [qlt 5 4] [(6,0)]
(.seq (cn 6 (.skip) (.exit 0))
(.seq (.block 1 (sr [qe 5,
ql 0] [(3,0)]
(sr [qe 1,
qe 0,
qe 3,
qo .index [.loc 1,.loc 0],
qo .callv [.loc 3,.loc 0],
qun 0] [(7,0)]
(cn 7 (sr [qbb false] [(2,0)]
(.ret)) (.skip)))))
(rg [qae 5 1,
ql 0] [(5,0)])))))))
(sr [qbb true] [(2,0)]
(.ret))),
[.tmp 2]⟩
theorem F80_low:LK [0,1,4,5,7,8,9,16] Tryz.f80=some F80:=by as_aux_lemma=>kernel_rfl
def F81:Va:=⟨[0,2],1,
sr [qbb false] [(1,0)]
(sr [qe 0,
qo (.bin .geq) [.loc 0,qkb 32],
ql 0,
qge 0 0 true,
qg (.bin .leq) [.loc 0,qkb 126] 1 true,
qpf 2 0,
ql 0] [(1,0)]
(.ret)),
[.tmp 1]⟩
theorem F81_low:LK [0,2] Tryz.f81=some F81:=by as_aux_lemma=>kernel_rfl
def F82:Va:=⟨[0,2],1,
sr [qno] [(1,0)]
(sr [qe 0,
qe 0,
qln false 0,
qe 0,
qln false 0,
qo (.slice false 1 false true true) [.loc 4,.loc 2,.loc 0],
ql 0] [(1,0)]
(.ret)),
[.tmp 1]⟩
theorem F82_low:LK [0,2] Tryz.f82=some F82:=by as_aux_lemma=>kernel_rfl
def F83:Va:=⟨[0,2,4],1,
sr [qno] [(1,0)]
(.seq (sr [qe 0,
qo (.eqnil false 0) [.loc 0,.const (.Vu)]] [(2,0)]
(cn 2 (sr [qno] [(1,0)]
(.ret)) (.skip)))
(sr [qo (.Vr 5 1 0 [.int .u8 0] [] 1) [],
qe 0,
qo (.append 5 1 1 1) [.loc 1,.loc 0],
ql 0] [(1,0)]
(.ret))),
[.tmp 1]⟩
theorem F83_low:LK [0,2,4] Tryz.f83=some F83:=by as_aux_lemma=>kernel_rfl
def F84:Va:=⟨[0,2,3,4,5,6,7,8,11,19,39],1,
sr [qo (.alloc 145 [.bool false,.str ⟨#[]⟩,.int .i64 0]) [],
qi 0] [(1,1),(2,0)]
(.seq (sr [qe 0,
qln true 0,
qo (.bin .gtr) [.loc 0,qki 1000]] [(8,0)]
(cn 8 (sr [qo (.build [.bool false,.str ⟨#[]⟩,.int .i64 0] []) [],
qs2 3 1 0,
qi 4] [(2,0)]
(.ret)) (.skip)))
(sr [qe 0,
qo (.call 62) [.loc 0,.const (.str ⟨#[45]⟩)],
ql 0,
qx 0 0,
qx 1 1,
ql 1,
ql 1] [(3,1),(4,0)]
(.seq (sr [qe 4,
qun 0] [(9,0)]
(cn 9 (rg [qe 0,
qo (.call 126) [.loc 0,.const (.str ⟨#[43]⟩)],
ql 0] [(3,0)]) (.skip)))
(sr [qe 3,
qo (.call 63) [.loc 0,.const (.str ⟨#[46]⟩)],
ql 0,
qx 0 0,
qx 1 1,
qx 2 2,
ql 2,
ql 2,
ql 2] [(5,2),(6,1),(7,0)]
(.seq (sr [qe 7,
ql 0,
qge 6 0 true,
qg (.bin .eql) [.loc 0,.const (.str ⟨#[]⟩)] 1 true,
qpf 2 0,
ql 0,
qge 5 0 false,
qge 6 1 false,
qg (.bin .add) [.loc 1,.loc 0] 2 false,
qg (.call 127) [.loc 0] 3 false,
qg (.un .not) [.loc 0] 4 false,
qpt 5 0] [(10,0)]
(cn 10 (sr [qo (.build [.bool false,.str ⟨#[]⟩,.int .i64 0] []) [],
qs2 3 1 0,
qi 4] [(2,0)]
(.ret)) (.skip)))
(sr [qe 4,
qe 5,
qe 6,
qa2 1 0,
qe 6,
qln true 0,
qo (.call 128) [.loc 5,.loc 2,.loc 0],
qx 0 0,
qx 1 1,
qs2 3 1 1,
ql 1] [(2,0)]
(.ret))))))),
[.cell 1 3 true,.tmp 2]⟩
theorem F84_low:LK [0,2,3,4,5,6,7,8,11,19,39] Tryz.f84=some F84:=by as_aux_lemma=>kernel_rfl
def F85:Va:=⟨[0,1,4,5,6,12,21,34],2,
sr [qo .mv [.const (.str ⟨#[]⟩)]] [(2,0)]
(.seq (sr [qe 0,
qo (.bin .eql) [.loc 0,.const (.str ⟨#[]⟩)],
ql 0,
qge 1 0 false,
qg (.bin .eql) [.loc 0,.const (.str ⟨#[]⟩)] 1 false,
qpt 2 0] [(5,0)]
(cn 5 (sr [qe 0,
ql 0] [(2,0)]
(.ret)) (.skip)))
(.seq (sr [qe 1,
qln true 0,
qo (.bin .eql) [.loc 0,qki 1],
ql 0,
qge 1 0 true,
qg .index [.loc 0,qki 0] 1 true,
qg (.bin .lss) [.loc 0,qkb 128] 2 true,
qpf 3 0] [(6,0)]
(cn 6 (.seq (.drawn [qe 0,
qwe 1 0 1,
qw .index [.loc 0,qki 0] 2 2,
qw (.call 111) [.loc 2,.loc 0] 7 3,
qwe 1 0 4,
qw .index [.loc 0,qki 0] 16 5,
qw (.call 106) [.loc 2,.loc 0] 63 6,
qwl 0 127 7] [(2,0)] [])
(.ret)) (.skip)))
(.seq (sr [qe 1,
qk 107 0,
ql 0,
qx 0 0,
qx 1 1,
qo (.alloc 169 tb0) [],
qso 256 0 2,
ql 2] [(3,2),(4,0)]
(sr [qe 4] [(7,0)]
(cn 7 (sr [qe 0,
qo (.call 112) [.loc 0,.env 3],
qo (.call 108) [.loc 0,.env 3],
ql 0] [(2,0)]
(.ret)) (.skip))))
(sr [qe 0,
qe 1,
qkk 113 1 0,
qe 1,
qkk 109 1 0,
ql 0] [(2,0)]
(.ret))))),
[.tmp 2]⟩
theorem F85_low:LK [0,1,4,5,6,12,21,34] Tryz.f85=some F85:=by as_aux_lemma=>kernel_rfl
def F86:Va:=⟨[0,1,2,3,4,6,7,8,9,10,11,12,14,16,17,18,31,50,79],3,
sr [qo (.boxc 3) [.env 0],
qo (.boxc 11) [.env 1],
qno,
qbb false,
qi 0] [(3,4),(4,3),(5,2),(6,1),(7,0)]
(.seq (.block 0 (sr [qde 3 3,
qk 129 0,
qo (.bin .neq) [.loc 0,qki 0],
ql 0,
qg (.load 11 true) [.env 4] 0 false,
qg (.call 38) [.loc 0] 1 false,
qg (.bin .neq) [.loc 0,qki 0] 2 false,
qpt 3 0,
ql 0,
qge 2 0 false,
qg (.bin .gtr) [.loc 0,qkb 7] 1 false,
qpt 2 0,
ql 0] [(15,0)]
(cn 15 (sr [qno,
qbb false,
qi 1] [(5,2),(6,1),(7,0)]
(.ret)) (sr [qfe 0 4,
qd 1 0,
qo (.bin .neq) [.loc 0,qkb 4],
ql 0,
qg (.Vt 0) [.env 4] 0 true,
qgd 1 0 1 true,
qg (.bin .neq) [.loc 0,qkb 5] 2 true,
qpf 3 0,
ql 0] [(16,0)]
(cn 16 (sr [qno,
qbb false,
qi 12] [(5,2),(6,1),(7,0)]
(.ret)) (.skip))))))
(sr [qde 3 3,
qfe 4 4,
qd 1 0,
qe 2,
qo (.call 130) [.loc 3,.loc 1,.loc 0],
ql 0,
qx 0 0,
qx 1 1,
qo (.alloc 145 [.bool false,.str ⟨#[]⟩,.int .i64 0]) [],
qso 3 0 2,
ql 2] [(8,2),(9,0)]
(sr [qe 9,
qo (.bin .neq) [.loc 0,qki 0],
ql 0] [(10,0)]
(.seq (sr [qe 10] [(17,0)]
(cn 17 (rg [qde 3 3,
qfe 4 4,
qd 1 0,
qkk 131 2 0,
ql 0,
qx 0 0,
qx 1 1,
qx 2 2,
qs2 3 8 2] []) (.skip)))
(sr [qde 3 8,
qfe 3 4,
qd 1 0,
qfe 4 4,
qd 1 0,
qo (.call 132) [.loc 4,.loc 2,.loc 0],
ql 0,
qx 0 0,
qx 1 1,
ql 1,
ql 1] [(11,1)]
(sr [qde 3 8,
qfe 3 4,
qd 1 0,
qfe 4 4,
qd 1 0,
qo (.call 133) [.loc 4,.loc 2,.loc 0],
ql 0,
qx 0 0,
qx 1 1,
qo (.alloc 145 [.bool false,.str ⟨#[]⟩,.int .i64 0]) [],
qso 3 0 2,
ql 2] [(12,2)]
(sr [qo .mv [.const (.fn 134 [])]] [(13,0)]
(.seq (sr [qfe 0 4,
qd 1 0,
qo (.bin .eql) [.loc 0,qkb 5]] [(18,0)]
(cn 18 (rg [qo .mv [.const (.fn 135 [])]] [(13,0)]) (.skip)))
(sr [qe 13,
qde 3 12,
qde 11 4,
qo .callv [.loc 2,.loc 1,.loc 0],
ql 0,
qx 0 0,
qx 1 1,
ql 1,
ql 1] [(9,0),(14,1)]
(sr [qe 14,
qe 10,
ql 0,
qge 11 0 false,
qg (.un .not) [.loc 0] 1 false,
qpt 2 0,
qe 9,
ql 6,
ql 2,
ql 2] [(5,2),(6,1),(7,0)]
(.ret))))))))))),
[.tmp 5,.tmp 6,.tmp 7]⟩
theorem F86_low:Dw Tryz.prog (KD [] [3,4]) [0,1,2,3,4,6,7,8,9,10,11,12,14,16,17,18,31,50,79] Tryz.f86=some F86:=by as_aux_lemma=>kernel_rfl
def F87:Va:=⟨[0,1,2,3,4,5,6,7,8,9,10,20,28,34,46,61,65,82,86],2,
sr [qo (.boxc 12) [.env 0],
qo (.boxc 11) [.env 1],
qno,
qi 0] [(2,3),(3,2),(4,1),(5,0)]
(.seq (.block 0 (sr [qfe 0 2,
qdt 11 0,
qk 38 0,
qo (.bin .neq) [.loc 0,qki 0],
ql 0,
qg (.load 11 true) [.env 3] 0 false,
qg (.call 38) [.loc 0] 1 false,
qg (.bin .neq) [.loc 0,qki 0] 2 false,
qpt 3 0,
ql 0] [(10,0)]
(cn 10 (sr [qno,
qi 1] [(4,1),(5,0)]
(.ret)) (sr [qfe 11 2,
qd 1 0,
qln false 0,
qfe 0 2,
qfl 10 0,
qd 1 0,
qo (.bin .neq) [.loc 3,.loc 0],
ql 0] [(11,0)]
(cn 11 (sr [qno,
qi 5] [(4,1),(5,0)]
(.ret)) (sr [qfe 0 2,
qdt 11 0,
qde 11 3,
qkk 136 1 0,
qun 0,
ql 0] [(12,0)]
(cn 12 (sr [qno,
qi 12] [(4,1),(5,0)]
(.ret)) (sr [qfe 0 2,
qfl 0 0,
qd 1 0,
qo (.bin .eql) [.loc 0,qkb 0],
ql 0] [(13,0)]
(cn 13 (sr [qfe 11 2,
qd 1 0,
qfe 10 3,
qd 1 0,
qo (.call 137) [.loc 2,.loc 0,.const (.bool false)],
qx 0 0,
qx 1 1,
ql 1,
ql 1] [(4,1),(5,0)]
(.ret)) (sr [qfe 0 3,
qd 1 0,
qo (.bin .eql) [.loc 0,qkb 4],
ql 0,
qg (.Vt 0) [.env 3] 0 false,
qgd 1 0 1 false,
qg (.bin .eql) [.loc 0,qkb 5] 2 false,
qpt 3 0,
ql 0] [(14,0)]
(cn 14 (sr [qde 12 2,
qk 138 0,
ql 0,
qx 0 0,
qx 1 1,
qo (.alloc 145 [.bool false,.str ⟨#[]⟩,.int .i64 0]) [],
qso 3 0 2,
ql 2] [(6,2),(7,0)]
(.seq (sr [qe 7,
qo (.bin .neq) [.loc 0,qki 0]] [(15,0)]
(cn 15 (sr [qe 7,
qno,
ql 1] [(4,1),(5,0)]
(.ret)) (.skip)))
(.seq (sr [qfe 0 3,
qd 1 0,
qo (.bin .eql) [.loc 0,qkb 5]] [(16,0)]
(cn 16 (sr [qde 3 6,
qde 11 3,
qkk 135 1 0,
qx 0 0,
qx 1 1,
ql 1,
ql 1] [(4,1),(5,0)]
(.ret)) (.skip)))
(sr [qde 3 6,
qde 11 3,
qkk 139 1 0,
qx 0 0,
qx 1 1,
ql 1,
ql 1] [(4,1),(5,0)]
(.ret))))) (.skip))))))))))))
(sr [qde 12 2,
qde 11 3,
qkk 140 1 0,
ql 0,
qx 0 0,
qx 1 1,
ql 1,
ql 1] [(8,1),(9,0)]
(.seq (.block 1 (sr [qe 9,
qo (.bin .neq) [.loc 0,qki 0],
ql 0] [(17,0)]
(cn 17 (sr [qe 9,
qno,
ql 1] [(4,1),(5,0)]
(.ret)) (sr [qfe 0 3,
qd 1 0,
qo (.bin .eql) [.loc 0,qkb 3],
ql 0] [(18,0)]
(cn 18 (sr [qe 8,
qde 11 3,
qkk 141 1 0,
qx 0 0,
qx 1 1,
ql 1,
ql 1] [(4,1),(5,0)]
(.ret)) (.skip))))))
(sr [qe 8,
qfe 10 3,
qd 1 0,
qfe 8 3,
qd 1 0,
qo (.call 137) [.loc 4,.loc 2,.loc 0],
qx 0 0,
qx 1 1,
ql 1,
ql 1] [(4,1),(5,0)]
(.ret))))),
[.tmp 4,.tmp 5]⟩
theorem F87_low:Dw Tryz.prog (KD [] [2,3]) [0,1,2,3,4,5,6,7,8,9,10,20,28,34,46,61,65,82,86] Tryz.f87=some F87:=by as_aux_lemma=>kernel_rfl
def F88:Va:=⟨[0,2],1,
sr [qo (.alloc 46 [.int .u8 0,.int .u8 0,.str ⟨#[]⟩,.int .i64 0,.int .i64 0,.bool false,.bool false,.bool false,.bool false,.bool false,.int .i64 0]) []] [(1,0)]
(sr [qe 0,
qo (.call 58) [.const (.str ⟨#[88]⟩),.loc 0],
qe 0,
qo (.build [.int .u8 0,.int .u8 0,.str ⟨#[]⟩,.int .i64 0,.int .i64 0,.bool false,.bool false,.bool false,.bool false,.bool false,.int .i64 0] [(0,1),(2,1),(10,1)]) [qkb 2,.loc 1,.loc 0],
qs2 11 1 0] []
(.ret)),
[.cell 1 11 true]⟩
theorem F88_low:LK [0,2] Tryz.f88=some F88:=by as_aux_lemma=>kernel_rfl
def F89:Va:=⟨[0,1,2,6,7,12],3,
sr [qo (.alloc 39 [.int .u8 0,.str ⟨#[]⟩,.int .i64 0,.int .i64 0,.bool false]) []] [(3,0)]
(.seq (sr [qe 0,
qe 1,
qe 2,
qo (.call 142) [.loc 2,.loc 1,.loc 0],
qun 0] [(5,0)]
(cn 5 (rg [qe 0,
qe 0,
qnl 0,
qfl 1 0,
qdt 2 0,
qo (.call 53) [.loc 4,qki 4,.loc 0]] []) (.skip)))
(sr [qe 0,
qnl 0,
qfl 0 0,
qd 1 0,
qo (.Vs 5) [.loc 0,qki 0],
qdt 5 0,
qo (.alloc 39 [.int .u8 0,.str ⟨#[]⟩,.int .i64 0,.int .i64 0,.bool false]) [],
qso 5 0 1] [(4,1)]
(sr [qe 0,
qe 0,
qnl 0,
qfl 0 0,
qd 1 0,
qo (.slice false 5 true false false) [.loc 0,qki 1],
qnl 5,
qfl 0 0,
qso 1 0 2] []
(sr [qde 5 4,
qs2 5 3 0] []
(.ret))))),
[.cell 3 5 true]⟩
theorem F89_low:LK [0,1,2,6,7,12] Tryz.f89=some F89:=by as_aux_lemma=>kernel_rfl
def F90:Va:=⟨[0,2],1,
sr [qbb false] [(1,0)]
(sr [qe 0,
qo (.bin .neq) [.loc 0,.const (.str ⟨#[]⟩)],
ql 0,
qge 0 0 true,
qg (.call 80) [.loc 0,.const (.fn 143 [])] 1 true,
qpf 2 0,
ql 0] [(1,0)]
(.ret)),
[.tmp 1]⟩
theorem F90_low:LK [0,2] Tryz.f90=some F90:=by as_aux_lemma=>kernel_rfl
def F91:Va:=⟨[0,2,3,4,5,12],1,
sr [qi 0,
qo .mv [.const (.nili)]] [(1,1),(2,0)]
(sr [qe 0,
qk 144 0,
ql 0,
qx 0 0,
qx 1 1,
ql 1,
ql 1] [(3,1),(4,0)]
(.seq (sr [qe 4,
qo (.eqnil true 4) [.loc 0,.const (.nili)]] [(5,0)]
(cn 5 (sr [qe 3,
qe 0,
qe 4,
qo (.call 145) [.const (.str ⟨#[65,116,111,105]⟩),.loc 1,qki 0,qki 0,.loc 0],
ql 3,
ql 1] [(1,1),(2,0)]
(.ret)) (.skip)))
(sr [qe 3,
ql 0,
qo .mv [.const (.nili)]] [(1,1),(2,0)]
(.ret)))),
[.tmp 1,.tmp 2]⟩
theorem F91_low:LK [0,2,3,4,5,12] Tryz.f91=some F91:=by as_aux_lemma=>kernel_rfl
def F92:Va:=⟨[0,2],1,
sr [qby 0] [(1,0)]
(sr [qo (.call 146) [],
qe 0,
qo (.mapget 1 (.int .u8 0) false) [.loc 1,.loc 0],
ql 0] [(1,0)]
(.ret)),
[.tmp 1]⟩
theorem F92_low:LK [0,2] Tryz.f92=some F92:=by as_aux_lemma=>kernel_rfl
def F93:Va:=⟨[0,1,4,5,9],2,
sr [qbb false] [(2,0)]
(sr [qe 0,
qe 1,
qo (.call 142) [.loc 1,qkb 1,.loc 0],
ql 0] [(3,0)]
(.seq (sr [qe 3] [(4,0)]
(cn 4 (rg [qe 0,
qe 0,
qnl 0,
qfl 0 0,
qd 1 0,
qo (.slice false 5 true false false) [.loc 0,qki 1],
qnl 5,
qfl 0 0,
qso 1 0 2] []) (.skip)))
(sr [qe 3,
ql 0] [(2,0)]
(.ret)))),
[.tmp 2]⟩
theorem F93_low:LK [0,1,4,5,9] Tryz.f93=some F93:=by as_aux_lemma=>kernel_rfl
def F94:Va:=⟨[0,1,4],2,
sr [qi 0] [(2,0)]
(sr [qe 0,
qe 1,
qo (.call 89) [.loc 1,qkb 1,.loc 0]] []
(sr [qe 0,
qo (.Vr 9 1 1 [.str ⟨#[]⟩] [0] 1) [.const (.str ⟨#[78,85,77,66,69,82]⟩)],
qkk 93 1 0] []
(sr [qe 0,
qo (.Vr 9 1 1 [.str ⟨#[]⟩] [0] 1) [.const (.str ⟨#[73,83]⟩)],
qkk 93 1 0] []
(sr [qe 0,
qk 50 0,
ql 0] [(2,0)]
(.ret))))),
[.tmp 2]⟩
theorem F94_low:LK [0,1,4] Tryz.f94=some F94:=by as_aux_lemma=>kernel_rfl
def F95:Va:=⟨[0,1,4,5,6,7,12,24],2,
sr [qo (.alloc 39 [.int .u8 0,.str ⟨#[]⟩,.int .i64 0,.int .i64 0,.bool false]) []] [(2,0)]
(.seq (sr [qe 0,
qnl 0,
qfl 0 0,
qo (.Vr 9 1 1 [.str ⟨#[]⟩] [0] 1) [.const (.str ⟨#[86,65,76,85,69]⟩)],
qkk 93 1 0] [(6,0)]
(cn 6 (sr [qe 0,
qnl 0,
qfl 0 0,
qo (.Vr 9 1 1 [.str ⟨#[]⟩] [0] 1) [.const (.str ⟨#[73,83]⟩)],
qkk 93 1 0] []
(sr [qe 0,
qnl 0,
qfl 0 0,
qo (.call 89) [.loc 0,qkb 3,.const (.Vu)],
qo (.alloc 39 [.int .u8 0,.str ⟨#[]⟩,.int .i64 0,.int .i64 0,.bool false]) [],
qso 5 0 1] [(3,1)]
(.seq (sr [qfe 1 3,
qd 1 0,
qo (.bin .eql) [.loc 0,.const (.str ⟨#[]⟩)]] [(7,0)]
(cn 7 (.drawn [qe 0,
qwk 0 1 1,
qwf 0 0 3 2,
qwe 0 0 3,
qwk 0 8 4,
qwf 0 0 24 5,
qwf 1 0 56 6,
qw (.load 2 true) [.loc 0] 120 7,
qw (.call 53) [.loc 5,qki 4,.loc 0] 255 8] [] []) (.skip)))
(.seq (.drawn [qe 1,
qwe 1 0 1,
qw (.Vt 1) [.env 3] 0 2,
qwd 1 0 4 3,
qw .strb [.loc 0] 12 4,
qwk 4 1 5,
qwf 2 0 33 6,
qw (.store 1) [.loc 0,qkb 1] 97 7,
qwk 6 255 8,
qwf 3 0 511 9,
qw (.store 1) [.loc 0,.loc 5] 1023 10] [] [])
(sr [qe 1,
qe 1,
qnl 0,
qfl 3 0,
qd 1 0,
qln false 0,
qk 88 0,
qnl 6,
qfl 4 0,
qso 11 0 2] []
(sr [qo (.build [.int .u8 0,.str ⟨#[]⟩,.int .i64 0,.int .i64 0,.bool false] []) [],
qs2 5 2 0] []
(.ret))))))) (.skip)))
(sr [qe 0,
qnl 0,
qfl 0 0,
qo (.Vr 9 1 2 [.str ⟨#[]⟩] [0,1] 1) [.const (.str ⟨#[80,73,67]⟩),.const (.str ⟨#[80,73,67,84,85,82,69]⟩)],
qo (.call 89) [.loc 1,qkb 1,.loc 0]] []
(sr [qe 0,
qnl 0,
qfl 0 0,
qo (.Vr 9 1 1 [.str ⟨#[]⟩] [0] 1) [.const (.str ⟨#[73,83]⟩)],
qkk 93 1 0] []
(sr [qe 0,
qnl 0,
qfl 0 0,
qo (.call 89) [.loc 0,qkb 4,.const (.Vu)],
qo (.alloc 39 [.int .u8 0,.str ⟨#[]⟩,.int .i64 0,.int .i64 0,.bool false]) [],
qso 5 0 1] [(4,1)]
(sr [qo .mkmap [],
qo (.mapset 1) [.loc 0,.const (.str ⟨#[70,82,79,77]⟩),qkb 2],
qo (.mapset 1) [.loc 1,.const (.str ⟨#[84,79]⟩),qkb 3],
qo (.mapset 1) [.loc 2,.const (.str ⟨#[85,83,73,78,71]⟩),qkb 4],
ql 3,
ql 0] [(5,0)]
(sr [qe 1,
qe 5,
qe 0,
qnl 0,
qfl 0 0,
qo (.Vr 9 1 3 [.str ⟨#[]⟩] [0,1,2] 1) [.const (.str ⟨#[70,82,79,77]⟩),.const (.str ⟨#[84,79]⟩),.const (.str ⟨#[85,83,73,78,71]⟩)],
qo (.call 89) [.loc 1,qkb 1,.loc 0],
qo (.field 1 1 false) [.loc 0],
qo (.mapget 1 (.int .u8 0) false) [.loc 6,.loc 0],
qnl 8,
qfl 2 0,
qso 1 0 2] []
(sr [qe 1,
qe 0,
qnl 0,
qfl 0 0,
qfl 0 0,
qd 1 0,
qk 148 0,
qk 147 0,
qnl 7,
qfl 15 0,
qso 1 0 2] []
(sr [qe 0,
qnl 0,
qfl 0 0,
qfl 0 0,
qo (.store 1) [.loc 0,.const (.Vu)]] []
(sr [qde 5 4,
qs2 5 2 0] []
(.ret)))))))))),
[.cell 2 5 true]⟩
theorem F95_low:LK [0,1,4,5,6,7,12,24] Tryz.f95=some F95:=by as_aux_lemma=>kernel_rfl
def F96:Va:=⟨[0,1,2,3,11,20,29,33],1,
sr [qo (.boxc 11) [.env 0],
qi 0] [(1,1),(2,0)]
(.seq (.block 0 (sr [qfe 1 1,
qd 1 0,
qo (.bin .eql) [.loc 0,qkb 1],
ql 0] [(3,0)]
(cn 3 (sr [qfe 3 1,
qd 1 0,
qo (.bin .quo) [.loc 0,qki 2],
qad 0 1,
ql 0] [(2,0)]
(.ret)) (sr [qfe 1 1,
qd 1 0,
qo (.bin .eql) [.loc 0,qkb 2],
ql 0,
qg (.Vt 3) [.env 1] 0 true,
qgd 1 0 1 true,
qg (.bin .leq) [.loc 0,qki 4] 2 true,
qpf 3 0,
ql 0] [(4,0)]
(cn 4 (sr [qi 2] [(2,0)]
(.ret)) (sr [qfe 1 1,
qd 1 0,
qo (.bin .eql) [.loc 0,qkb 2],
ql 0,
qg (.Vt 3) [.env 1] 0 true,
qgd 1 0 1 true,
qg (.bin .leq) [.loc 0,qki 9] 2 true,
qpf 3 0,
ql 0] [(5,0)]
(cn 5 (sr [qi 4] [(2,0)]
(.ret)) (sr [qfe 1 1,
qd 1 0,
qo (.bin .eql) [.loc 0,qkb 2],
ql 0] [(6,0)]
(cn 6 (sr [qi 8] [(2,0)]
(.ret)) (sr [qfe 7 1,
qd 1 0,
ql 0] [(7,0)]
(cn 7 (sr [qfe 3 1,
qd 1 0,
qad 0 1,
ql 0] [(2,0)]
(.ret)) (.skip))))))))))))
(sr [qfe 3 1,
qd 1 0,
ql 0] [(2,0)]
(.ret))),
[.tmp 2]⟩
theorem F96_low:Dw Tryz.prog (KD [] [1]) [0,1,2,3,11,20,29,33] Tryz.f96=some F96:=by as_aux_lemma=>kernel_rfl
def F97:Va:=⟨[0,1,4],2,
sr [qbb false] [(2,0)]
(sr [qe 0,
qe 1,
qkk 149 1 0,
ql 0] [(2,0)]
(.ret)),
[.tmp 2]⟩
theorem F97_low:LK [0,1,4] Tryz.f97=some F97:=by as_aux_lemma=>kernel_rfl
def F98:Va:=⟨[0,1,3],2,
sr [qbb false] [(2,0)]
(sr [qo (.load 1 false) [.env 1],
qe 0,
qkk 99 1 0,
qo (.bin .geq) [.loc 0,qki 0],
ql 0] [(2,0)]
(.ret)),
[.tmp 2]⟩
theorem F98_low:LK [0,1,3] Tryz.f98=some F98:=by as_aux_lemma=>kernel_rfl
def F99:Va:=⟨[0,1,4],2,
sr [qi 0] [(2,0)]
(sr [qe 0,
qe 1,
qkk 150 1 0,
ql 0] [(2,0)]
(.ret)),
[.tmp 2]⟩
theorem F99_low:LK [0,1,4] Tryz.f99=some F99:=by as_aux_lemma=>kernel_rfl
def F100:Va:=⟨[0,6,19],1,
sr [qe 0,
qnl 0,
qfl 0 0,
qd 1 0,
qo (.eqp false) [.loc 0,.const (.nilp)]] [(1,0)]
(cn 1 (rg [qe 0,
qe 0,
qo (.toU 113 2) [.loc 0],
ql 0,
qo (.ofU 113 2) [.loc 0],
qnl 4,
qfl 0 0,
qso 1 0 2] []) (sr [qe 0,
qnl 0,
qfl 0 0,
qd 1 0,
qe 0,
qo (.eqp true) [.loc 1,.loc 0]] [(2,0)]
(cn 2 (.fail) (.skip)))),
[]⟩
theorem F100_low:LK [0,6,19] Tryz.f100=some F100:=by as_aux_lemma=>kernel_rfl
def F103:Va:=⟨[0,1,4,5,6,7,8,9,10,12,15,20,26,32,36,42,45,46,47,53],2,
sr [qi 0] [(2,0)]
(.seq (sr [qe 1,
qo (.bin .eql) [.loc 0,.const (.str ⟨#[]⟩)]] [(9,0)]
(cn 9 (sr [qi (-1)] [(2,0)]
(.ret)) (.skip)))
(.seq (sr [qe 1,
qln true 0,
qo (.bin .eql) [.loc 0,qki 1]] [(10,0)]
(cn 10 (sr [qe 1,
qo .index [.loc 0,qki 0],
qo (.conv .i32) [.loc 0],
ql 0] [(3,0)]
(.seq (sr [qe 3,
qo (.bin .geq) [.loc 0,.const (.int .i32 128)]] [(11,0)]
(cn 11 (rg [qo .mv [.const (.int .i32 65533)]] [(3,0)]) (.skip)))
(sr [qe 0,
qe 3,
qkk 120 1 0,
ql 0] [(2,0)]
(.ret)))) (.skip)))
(.seq (sr [qe 0,
qln true 0,
qk 153 0] [(12,0)]
(cn 12 (sr [qe 1,
qk 107 0,
ql 0,
qx 0 0,
qx 1 1,
qo (.alloc 169 tb0) [],
qso 256 0 2,
ql 2] [(4,2),(5,0)]
(sr [qe 5] [(13,0)]
(cn 13 (.seq (sr [qi 0] [(6,0)]
(.block 0 (.loop (.seq (sr [qe 6,
qe 0,
qln true 0,
ql2 2 0] [(14,0)]
(cn 14 (.skip) (.exit 0)))
(.seq (.block 1 (sr [qe 0,
qe 6,
qo .index [.loc 1,.loc 0],
qo (.call 154) [.env 4,.loc 0]] [(15,0)]
(cn 15 (sr [qe 6,
ql 0] [(2,0)]
(.ret)) (.skip))))
(rg [qe 6,
qad 0 1,
ql 0] [(6,0)]))))))
(sr [qi (-1)] [(2,0)]
(.ret))) (.skip)))) (.skip)))
(.seq (sr [qe 0,
qo .rngs [.loc 0]] [(16,0)]
(.block 2 (.loop (sr [qo .nexts [.env 16],
qx 0 0] [(17,1),(18,0)]
(.seq (cn 18 (.skip) (.exit 2))
(.block 3 (sr [qo (.extract 1) [.env 17],
qo (.extract 2) [.env 17],
ql 1,
ql 1] [(7,1),(8,0)]
(sr [qe 1,
qe 8,
qkk 120 1 0,
qo (.bin .geq) [.loc 0,qki 0]] [(19,0)]
(cn 19 (sr [qe 7,
ql 0] [(2,0)]
(.ret)) (.skip))))))))))
(sr [qi (-1)] [(2,0)]
(.ret)))))),
[.tmp 2]⟩
theorem F103_low:LK [0,1,4,5,6,7,8,9,10,12,15,20,26,32,36,42,45,46,47,53] Tryz.f103=some F103:=by as_aux_lemma=>kernel_rfl
def F104:Va:=⟨[0,1,4,5,9],2,
sr [qo .mv [.const (.str ⟨#[]⟩)],
qbb false] [(2,1),(3,0)]
(.seq (sr [qe 0,
qe 1,
qkk 149 1 0,
qun 0] [(4,0)]
(cn 4 (sr [qe 0,
ql 0,
qbb false] [(2,1),(3,0)]
(.ret)) (.skip)))
(sr [qe 0,
qe 1,
qln true 0,
qo (.slice true 0 true false false) [.loc 2,.loc 0],
ql 0,
qbb true] [(2,1),(3,0)]
(.ret))),
[.tmp 2,.tmp 3]⟩
theorem F104_low:LK [0,1,4,5,9] Tryz.f104=some F104:=by as_aux_lemma=>kernel_rfl
def F105:Va:=⟨[0,1,4,5,6,7,12],2,
sr [qo .mv [.const (.str ⟨#[]⟩)],
qo .mv [.const (.str ⟨#[]⟩)],
qbb false] [(2,2),(3,1),(4,0)]
(.seq (sr [qe 0,
qe 1,
qkk 123 1 0,
ql 0] [(5,0)]
(sr [qe 5,
qo (.bin .geq) [.loc 0,qki 0]] [(6,0)]
(cn 6 (.seq (.drawn [qe 0,
qwe 5 0 1,
qw (.slice true 0 false true false) [.loc 1,.loc 0] 3 2,
qwe 0 0 3,
qwe 5 0 4,
qwe 1 0 5,
qw (.len true) [.loc 0] 32 6,
qw (.bin .add) [.loc 2,.loc 0] 112 7,
qw (.slice true 0 true false false) [.loc 4,.loc 0] 248 8,
qwl 6 7 9,
qwl 1 1023 10,
qw .mv [.const (.bool true)] 2047 11] [(2,2),(3,1),(4,0)] [])
(.ret)) (.skip))))
(sr [qe 0,
ql 0,
qo .mv [.const (.str ⟨#[]⟩)],
qbb false] [(2,2),(3,1),(4,0)]
(.ret))),
[.tmp 2,.tmp 3,.tmp 4]⟩
theorem F105_low:LK [0,1,4,5,6,7,12] Tryz.f105=some F105:=by as_aux_lemma=>kernel_rfl
def F106:Va:=⟨[0,1,4,13],2,
sr [qo .mv [.const (.str ⟨#[]⟩)]] [(2,0)]
(.seq (.block 0 (.loop (.seq (sr [qe 0,
qln true 0,
qo (.bin .gtr) [.loc 0,qki 0],
ql 0,
qge 0 0 true,
qg .index [.loc 0,qki 0] 1 true,
qge 1 2 true,
qg (.bin .eql) [.loc 1,.loc 0] 3 true,
qpf 4 0] [(3,0)]
(cn 3 (.skip) (.exit 0)))
(.block 1 (rg [qe 0,
qo (.slice true 0 true false false) [.loc 0,qki 1],
ql 0] [(0,0)])))))
(sr [qe 0,
ql 0] [(2,0)]
(.ret))),
[.tmp 2]⟩
theorem F106_low:LK [0,1,4,13] Tryz.f106=some F106:=by as_aux_lemma=>kernel_rfl
def F107:Va:=⟨[0,2,3,4,5,9,16],1,
sr [qo (.alloc 169 tb0) [],
qbb false] [(1,1),(2,0)]
(.seq (sr [qi 0] [(3,0)]
(.block 0 (.loop (.seq (sr [qe 3,
qe 0,
qln true 0,
ql2 2 0] [(5,0)]
(cn 5 (.skip) (.exit 0)))
(.seq (.block 1 (sr [qe 0,
qe 3,
qo .index [.loc 1,.loc 0],
ql 0] [(4,0)]
(.seq (sr [qe 4,
qo (.bin .geq) [.loc 0,qkb 128]] [(6,0)]
(cn 6 (sr [qde 256 1,
qs2 256 1 0,
qbb false] [(2,0)]
(.ret)) (.skip)))
(rg [qe 4,
qo (.aaddr 1 256) [.env 1,.loc 0],
qo (.store 1) [.loc 0,.const (.bool true)]] []))))
(rg [qe 3,
qad 0 1,
ql 0] [(3,0)]))))))
(sr [qde 256 1,
qs2 256 1 0,
qbb true] [(2,0)]
(.ret))),
[.cell 1 256 true,.tmp 2]⟩
theorem F107_low:LK [0,2,3,4,5,9,16] Tryz.f107=some F107:=by as_aux_lemma=>kernel_rfl
def F108:Va:=⟨[0,1,4,7,12],2,
sr [qo .mv [.const (.str ⟨#[]⟩)]] [(2,0)]
(.seq (.block 0 (.loop (.seq (sr [qe 0,
qln true 0,
qo (.bin .gtr) [.loc 0,qki 0]] [(3,0)]
(cn 3 (.skip) (.exit 0)))
(.block 1 (.seq (sr [qe 1,
qe 0,
qo .index [.loc 0,qki 0],
qkk 154 2 0,
qun 0] [(4,0)]
(cn 4 (.exit 0) (.skip)))
(rg [qe 0,
qo (.slice true 0 true false false) [.loc 0,qki 1],
ql 0] [(0,0)]))))))
(sr [qe 0,
ql 0] [(2,0)]
(.ret))),
[.tmp 2]⟩
theorem F108_low:LK [0,1,4,7,12] Tryz.f108=some F108:=by as_aux_lemma=>kernel_rfl
def F111:Va:=⟨[0,1,4,16],2,
sr [qo .mv [.const (.str ⟨#[]⟩)]] [(2,0)]
(.seq (.block 0 (.loop (.seq (sr [qe 0,
qln true 0,
qo (.bin .gtr) [.loc 0,qki 0],
ql 0,
qge 0 0 true,
qge 0 1 true,
qg (.len true) [.loc 0] 2 true,
qg (.bin .sub) [.loc 0,qki 1] 3 true,
qg .index [.loc 3,.loc 0] 4 true,
qge 1 5 true,
qg (.bin .eql) [.loc 1,.loc 0] 6 true,
qpf 7 0] [(3,0)]
(cn 3 (.skip) (.exit 0)))
(.block 1 (rg [qe 0,
qe 0,
qln true 0,
qo (.bin .sub) [.loc 0,qki 1],
qo (.slice true 0 false true false) [.loc 3,.loc 0],
ql 0] [(0,0)])))))
(sr [qe 0,
ql 0] [(2,0)]
(.ret))),
[.tmp 2]⟩
theorem F111_low:LK [0,1,4,16] Tryz.f111=some F111:=by as_aux_lemma=>kernel_rfl
def F112:Va:=⟨[0,1,4,7,15],2,
sr [qo .mv [.const (.str ⟨#[]⟩)]] [(2,0)]
(.seq (.block 0 (.loop (.seq (sr [qe 0,
qln true 0,
qo (.bin .gtr) [.loc 0,qki 0]] [(3,0)]
(cn 3 (.skip) (.exit 0)))
(.block 1 (.seq (sr [qe 1,
qe 0,
qe 0,
qln true 0,
qo (.bin .sub) [.loc 0,qki 1],
qo .index [.loc 3,.loc 0],
qkk 154 5 0,
qun 0] [(4,0)]
(cn 4 (.exit 0) (.skip)))
(rg [qe 0,
qe 0,
qln true 0,
qo (.bin .sub) [.loc 0,qki 1],
qo (.slice true 0 false true false) [.loc 3,.loc 0],
ql 0] [(0,0)]))))))
(sr [qe 0,
ql 0] [(2,0)]
(.ret))),
[.tmp 2]⟩
theorem F112_low:LK [0,1,4,7,15] Tryz.f112=some F112:=by as_aux_lemma=>kernel_rfl
def F114:Va:=⟨[0,1,4,5,9],2,
sr [qo .mv [.const (.str ⟨#[]⟩)],
qbb false] [(2,1),(3,0)]
(.seq (sr [qe 0,
qe 1,
qkk 155 1 0,
qun 0] [(4,0)]
(cn 4 (sr [qe 0,
ql 0,
qbb false] [(2,1),(3,0)]
(.ret)) (.skip)))
(sr [qe 0,
qe 0,
qln true 0,
qe 1,
qln true 0,
qo (.bin .sub) [.loc 2,.loc 0],
qo (.slice true 0 false true false) [.loc 5,.loc 0],
ql 0,
qbb true] [(2,1),(3,0)]
(.ret))),
[.tmp 2,.tmp 3]⟩
theorem F114_low:LK [0,1,4,5,9] Tryz.f114=some F114:=by as_aux_lemma=>kernel_rfl
def F118:Va:=⟨[0,2],1,
sr [qi 0] [(1,0)]
(sr [qe 0,
qnl 0,
qfl 1 0,
qd 1 0,
qo .cap [.loc 0],
ql 0] [(1,0)]
(.ret)),
[.tmp 1]⟩
theorem F118_low:LK [0,2] Tryz.f118=some F118:=by as_aux_lemma=>kernel_rfl
def F120:Va:=⟨[0,1,4,5,6,7,8,9,10,11,12,13,14,15,16,26,33,43,51,64,98,108,124,139,143,156,160,171,175,176,177,181,183],2,
sr [qi 0] [(2,0)]
(.block 0 (sr [qe 1,
qo (.bin .leq) [.const (.int .i32 0),.loc 0],
ql 0,
qge 1 0 true,
qg (.bin .lss) [.loc 0,.const (.int .i32 128)] 1 true,
qpf 2 0,
ql 0] [(26,0)]
(cn 26 (sr [qe 0,
qe 1,
qo (.conv .u8) [.loc 0],
qkk 99 2 0,
ql 0] [(2,0)]
(.ret)) (sr [qe 1,
qo (.bin .eql) [.loc 0,.const (.int .i32 65533)],
ql 0] [(27,0)]
(cn 27 (.seq (sr [qe 0,
qo .rngs [.loc 0]] [(28,0)]
(.block 9 (.loop (sr [qo .nexts [.env 28],
qx 0 0] [(29,1),(30,0)]
(.seq (cn 30 (.skip) (.exit 9))
(.block 10 (sr [qo (.extract 1) [.env 29],
qo (.extract 2) [.env 29],
ql 1,
ql 1] [(3,1),(4,0)]
(sr [qe 4,
qo (.bin .eql) [.loc 0,.const (.int .i32 65533)]] [(31,0)]
(cn 31 (sr [qe 3,
ql 0] [(2,0)]
(.ret)) (.skip))))))))))
(sr [qi (-1)] [(2,0)]
(.ret))) (sr [qe 1,
qk 159 0,
qun 0,
ql 0] [(32,0)]
(cn 32 (sr [qi (-1)] [(2,0)]
(.ret)) (sr [qe 1,
qo .fail [],
ql 0] [(5,0)]
(sr [qe 5,
qln true 0,
qo (.bin .sub) [.loc 0,qki 1],
ql 0] [(6,0)]
(sr [qe 6,
ql 0] [(7,0)]
(sr [qi 0] [(8,0)]
(.seq (.block 1 (.loop (.seq (sr [qe 7,
qe 0,
qln true 0,
ql2 2 0] [(15,0)]
(cn 15 (.skip) (.exit 1)))
(.block 2 (.seq (.seq (.drawn [qe 0,
qwe 7 0 1,
qw .index [.loc 1,.loc 0] 3 2,
qwe 5 0 3,
qwe 6 0 4,
qw .index [.loc 1,.loc 0] 24 5,
qw (.bin .neq) [.loc 3,.loc 0] 63 6] [(16,0)] [])
(cn 16 (.seq (.drawn [qe 0,
qwe 7 0 1,
qw (.bin .add) [.loc 0,qki 1] 2 2,
qw (.slice true 0 true false false) [.loc 2,.loc 0] 7 3,
qwe 5 0 4,
qwe 6 0 5,
qw .index [.loc 1,.loc 0] 48 6,
qw (.call 99) [.loc 3,.loc 0] 127 7,
qwl 0 255 8] [(9,0)] [])
(.seq (sr [qe 9,
qo (.bin .lss) [.loc 0,qki 0]] [(17,0)]
(cn 17 (sr [qi (-1)] [(2,0)]
(.ret)) (.skip)))
(rg [qe 7,
qe 9,
qad 0 1,
qa2 2 0,
ql 0] [(7,0)]))) (.skip)))
(.seq (sr [qi 1] [(10,0)]
(.block 3 (.loop (.seq (sr [qe 10,
qe 5,
qln true 0,
ql2 2 0] [(18,0)]
(cn 18 (.skip) (.exit 3)))
(.seq (.block 4 (.seq (.drawn [qe 0,
qwe 7 0 1,
qwe 10 0 2,
qw (.bin .sub) [.loc 1,.loc 0] 6 3,
qw .index [.loc 3,.loc 0] 15 4,
qwe 5 0 5,
qwe 6 0 6,
qwe 10 0 7,
qw (.bin .sub) [.loc 1,.loc 0] 192 8,
qw .index [.loc 3,.loc 0] 480 9,
qw (.bin .neq) [.loc 5,.loc 0] 1023 10] [(19,0)] [])
(cn 19 (.fail) (.skip))))
(rg [qe 10,
qad 0 1,
ql 0] [(10,0)]))))))
(.seq (sr [qe 7,
qe 6,
qo (.bin .sub) [.loc 1,.loc 0],
ql 0] [(2,0)]
(.ret))
(.seq (.skip)
(sr [qe 8,
qad 0 1,
ql 0] [(8,0)]
(sr [qe 7,
qad 0 1,
ql 0] [(7,0)]
(sr [qbb true,
qge 8 0 true,
qge 7 1 true,
qg (.call 160) [.loc 0] 2 true,
qg (.bin .gtr) [.loc 2,.loc 0] 3 true,
qpf 4 0,
ql 0,
qge 7 0 true,
qge 0 1 true,
qg (.len true) [.loc 0] 2 true,
qg (.bin .lss) [.loc 2,.loc 0] 3 true,
qpf 4 0,
ql 0,
qg .mv [.const (.bool false)] 0 false,
qge 8 0 true,
qge 7 1 true,
qg (.bin .shr) [.loc 0,.const (.int .u64 4)] 2 true,
qg (.bin .add) [qki 4,.loc 0] 3 true,
qg (.bin .geq) [.loc 3,.loc 0] 4 true,
qg .pick [.loc 5,.loc 0,.const (.bool false)] 6 false,
qgl 0 7 false,
qge 7 0 true,
qge 0 1 true,
qg (.len true) [.loc 0] 2 true,
qg (.bin .lss) [.loc 2,.loc 0] 3 true,
qg .pick [.loc 4,.loc 0,.const (.bool false)] 12 false,
qpt 13 0] [(20,0)]
(cn 20 (.fail) (.skip)))))))))))))
(.seq (sr [qi (-1)] [(2,0)]
(.ret))
(.seq (.skip)
(.seq (.cond (.const (.bool true)) (sr [qe 0,
qe 7,
qe 6,
qo (.bin .sub) [.loc 1,.loc 0],
qo (.slice true 0 true false false) [.loc 3,.loc 0],
qe 1,
qo .fail [],
qo .fail [],
ql 0] [(11,0)]
(sr [qe 11,
qo (.bin .geq) [.loc 0,qki 0]] [(21,0)]
(cn 21 (sr [qe 7,
qe 11,
qa2 1 0,
qe 6,
qo (.bin .sub) [.loc 1,.loc 0],
ql 0] [(2,0)]
(.ret)) (.skip)))) (sr [qe 5,
qe 6,
qo .index [.loc 1,.loc 0],
ql 0] [(12,0)]
(sr [qe 5,
qe 6,
qo (.bin .sub) [.loc 0,qki 1],
qo .index [.loc 2,.loc 0],
ql 0] [(13,0)]
(.seq (.skip)
(.block 5 (.loop (.seq (sr [qe 7,
qe 0,
qln true 0,
ql2 2 0] [(22,0)]
(cn 22 (.skip) (.exit 5)))
(.seq (.block 6 (sr [qe 0,
qe 7,
qo .index [.loc 1,.loc 0],
qe 12,
qo (.bin .eql) [.loc 1,.loc 0],
ql 0,
qge 0 0 true,
qge 7 1 true,
qg (.bin .sub) [.loc 0,qki 1] 2 true,
qg .index [.loc 2,.loc 0] 3 true,
qge 13 4 true,
qg (.bin .eql) [.loc 1,.loc 0] 5 true,
qpf 6 0] [(23,0)]
(cn 23 (.seq (sr [qi 2] [(14,0)]
(.block 7 (.loop (.seq (sr [qe 14,
qe 5,
qln true 0,
ql2 2 0] [(24,0)]
(cn 24 (.skip) (.exit 7)))
(.seq (.block 8 (.seq (.drawn [qe 0,
qwe 7 0 1,
qwe 14 0 2,
qw (.bin .sub) [.loc 1,.loc 0] 6 3,
qw .index [.loc 3,.loc 0] 15 4,
qwe 5 0 5,
qwe 6 0 6,
qwe 14 0 7,
qw (.bin .sub) [.loc 1,.loc 0] 192 8,
qw .index [.loc 3,.loc 0] 480 9,
qw (.bin .neq) [.loc 5,.loc 0] 1023 10] [(25,0)] [])
(cn 25 (.exit 6) (.skip))))
(rg [qe 14,
qad 0 1,
ql 0] [(14,0)]))))))
(sr [qe 7,
qe 6,
qo (.bin .sub) [.loc 1,.loc 0],
ql 0] [(2,0)]
(.ret))) (.skip))))
(rg [qe 7,
qad 0 1,
ql 0] [(7,0)])))))))))
(sr [qi (-1)] [(2,0)]
(.ret))))))))))))))))),
[.tmp 2]⟩
theorem F120_low:LK [0,1,4,5,6,7,8,9,10,11,12,13,14,15,16,26,33,43,51,64,98,108,124,139,143,156,160,171,175,176,177,181,183] Tryz.f120=some F120:=by as_aux_lemma=>kernel_rfl
def F121:Va:=⟨[0,1,3],2,
sr [qbb false] [(2,0)]
(sr [qe 0,
qo (.load 1 false) [.env 1],
qo (.bin .eql) [.loc 1,.loc 0],
ql 0] [(2,0)]
(.ret)),
[.tmp 2]⟩
theorem F121_low:LK [0,1,3] Tryz.f121=some F121:=by as_aux_lemma=>kernel_rfl
def F122:Va:=⟨[0,1,4,5],2,
sr [qi 0] [(2,0)]
(.seq (.drawn [qe 0,
qwk 0 1 1,
qwf 0 0 3 2,
qwd 1 0 7 3,
qwe 0 0 4,
qwk 0 16 5,
qwf 1 0 48 6,
qwd 1 0 112 7,
qwe 1 0 8,
qw (.call 56) [.loc 0] 256 9,
qw (.call 60) [.loc 6,.loc 2,.loc 0] 1023 10,
qwl 0 2047 11] [(3,0)] [])
(sr [qe 0,
qnl 0,
qfl 1 0,
qd 1 0,
qe 3,
qa2 1 0,
qnl 5,
qfl 1 0,
qso 1 0 2] []
(sr [qe 3,
ql 0] [(2,0)]
(.ret)))),
[.tmp 2]⟩
theorem F122_low:LK [0,1,4,5] Tryz.f122=some F122:=by as_aux_lemma=>kernel_rfl
def F123:Va:=⟨[0,1,4,5,6,7,8,9,10,11,12,13,16,24,31,36,59,64,73,93,107,114,132,139],2,
sr [qi 0] [(2,0)]
(sr [qe 1,
qln true 0,
ql 0] [(3,0)]
(.seq (.block 0 (sr [qe 3,
qo (.bin .eql) [.loc 0,qki 0],
ql 0,
qge 1 0 false,
qge 0 1 false,
qg (.bin .eql) [.loc 1,.loc 0] 2 false,
qpt 3 0,
ql 0] [(12,0)]
(cn 12 (sr [qi 0] [(2,0)]
(.ret)) (sr [qe 3,
qo (.bin .eql) [.loc 0,qki 1],
ql 0] [(13,0)]
(cn 13 (sr [qe 0,
qe 1,
qo .index [.loc 0,qki 0],
qkk 150 2 0,
ql 0] [(2,0)]
(.ret)) (sr [qe 3,
qe 0,
qln true 0,
qo (.bin .geq) [.loc 2,.loc 0],
ql 0] [(14,0)]
(cn 14 (sr [qi (-1)] [(2,0)]
(.ret)) (sr [qe 3,
qo (.load 1 false) [.const (.undef)],
qo (.bin .leq) [.loc 1,.loc 0],
ql 0,
qge 0 0 true,
qg (.len true) [.loc 0] 1 true,
qg (.bin .leq) [.loc 0,qki 64] 2 true,
qpf 3 0,
ql 0] [(15,0)]
(cn 15 (sr [qe 0,
qe 1,
qo .fail [],
ql 0] [(2,0)]
(.ret)) (.skip))))))))))
(sr [qe 1,
qo .index [.loc 0,qki 0],
ql 0] [(4,0)]
(sr [qe 1,
qo .index [.loc 0,qki 1],
ql 0] [(5,0)]
(sr [qi 0] [(6,0)]
(sr [qe 0,
qln true 0,
qe 3,
qo (.bin .sub) [.loc 1,.loc 0],
qad 0 1,
ql 0] [(7,0)]
(sr [qi 0] [(8,0)]
(.seq (.block 1 (.loop (.seq (sr [qe 6,
qe 7,
ql2 1 0] [(16,0)]
(cn 16 (.skip) (.exit 1)))
(.block 2 (.seq (sr [qe 0,
qe 6,
qo .index [.loc 1,.loc 0],
qe 4,
qo (.bin .neq) [.loc 1,.loc 0]] [(17,0)]
(cn 17 (sr [qe 0,
qe 6,
qad 0 1,
qe 7,
qo (.slice true 0 true true false) [.loc 3,.loc 1,.loc 0],
qe 4,
qkk 150 1 0,
ql 0] [(9,0)]
(.seq (sr [qe 9,
qo (.bin .lss) [.loc 0,qki 0]] [(18,0)]
(cn 18 (sr [qi (-1)] [(2,0)]
(.ret)) (.skip)))
(rg [qe 6,
qe 9,
qad 0 1,
qa2 2 0,
ql 0] [(6,0)]))) (.skip)))
(.seq (sr [qe 0,
qe 6,
qad 0 1,
qo .index [.loc 2,.loc 0],
qe 5,
qo (.bin .eql) [.loc 1,.loc 0],
ql 0,
qge 0 0 true,
qge 6 1 true,
qge 6 2 true,
qge 3 3 true,
qg (.bin .add) [.loc 1,.loc 0] 4 true,
qg (.slice true 0 true true false) [.loc 4,.loc 3,.loc 0] 5 true,
qge 1 6 true,
qg (.bin .eql) [.loc 1,.loc 0] 7 true,
qpf 8 0] [(19,0)]
(cn 19 (sr [qe 6,
ql 0] [(2,0)]
(.ret)) (.skip)))
(sr [qe 6,
qad 0 1,
ql 0] [(6,0)]
(sr [qe 8,
qad 0 1,
ql 0] [(8,0)]
(sr [qe 3,
qo (.load 1 false) [.const (.undef)],
qo (.bin .leq) [.loc 1,.loc 0],
ql 0,
qge 8 0 true,
qge 6 1 true,
qg (.call 160) [.loc 0] 2 true,
qg (.bin .gtr) [.loc 2,.loc 0] 3 true,
qpf 4 0] [(20,0)]
(cn 20 (sr [qe 0,
qe 6,
qo (.slice true 0 true false false) [.loc 1,.loc 0],
qe 1,
qo .fail [],
ql 0] [(10,0)]
(.seq (sr [qe 10,
qo (.bin .geq) [.loc 0,qki 0]] [(21,0)]
(cn 21 (sr [qe 10,
qe 6,
qa2 1 0,
ql 0] [(2,0)]
(.ret)) (.skip)))
(sr [qi (-1)] [(2,0)]
(.ret)))) (sr [qe 3,
qo (.load 1 false) [.const (.undef)],
qo (.bin .gtr) [.loc 1,.loc 0],
ql 0,
qge 8 0 true,
qge 6 1 true,
qg (.bin .shr) [.loc 0,.const (.int .u64 4)] 2 true,
qg (.bin .add) [qki 4,.loc 0] 3 true,
qg (.bin .geq) [.loc 3,.loc 0] 4 true,
qpf 5 0,
ql 0,
qge 6 0 true,
qge 7 1 true,
qg (.bin .lss) [.loc 1,.loc 0] 2 true,
qpf 3 0] [(22,0)]
(cn 22 (sr [qe 0,
qe 6,
qo (.slice true 0 true false false) [.loc 1,.loc 0],
qe 1,
qkk 162 1 0,
ql 0] [(11,0)]
(.seq (sr [qe 11,
qo (.bin .lss) [.loc 0,qki 0]] [(23,0)]
(cn 23 (sr [qi (-1)] [(2,0)]
(.ret)) (.skip)))
(sr [qe 6,
qe 11,
qa2 1 0,
ql 0] [(2,0)]
(.ret)))) (.skip)))))))))))))
(sr [qi (-1)] [(2,0)]
(.ret)))))))))),
[.tmp 2]⟩
theorem F123_low:LK [0,1,4,5,6,7,8,9,10,11,12,13,16,24,31,36,59,64,73,93,107,114,132,139] Tryz.f123=some F123:=by as_aux_lemma=>kernel_rfl
def F125:Va:=⟨[0,1,4,5,6,7,8,9,10,11,12,13],2,
sr [qo .mv [.const (.int .u64 0)],
qo .mv [.const (.int .u64 0)]] [(2,1),(3,0)]
(sr [qe 0,
qo (.bin .and) [.loc 0,.const (.int .u64 4294967295)],
ql 0] [(4,0)]
(sr [qe 0,
qo (.bin .shr) [.loc 0,.const (.int .u64 32)],
ql 0] [(5,0)]
(sr [qe 1,
qo (.bin .and) [.loc 0,.const (.int .u64 4294967295)],
ql 0] [(6,0)]
(sr [qe 1,
qo (.bin .shr) [.loc 0,.const (.int .u64 32)],
ql 0] [(7,0)]
(sr [qe 4,
qe 6,
qo (.bin .mul) [.loc 1,.loc 0],
ql 0] [(8,0)]
(sr [qe 5,
qe 6,
qo (.bin .mul) [.loc 1,.loc 0],
qe 8,
qo (.bin .shr) [.loc 0,.const (.int .u64 32)],
qa2 2 0,
ql 0] [(9,0)]
(sr [qe 9,
qo (.bin .and) [.loc 0,.const (.int .u64 4294967295)],
ql 0] [(10,0)]
(sr [qe 9,
qo (.bin .shr) [.loc 0,.const (.int .u64 32)],
ql 0] [(11,0)]
(sr [qe 10,
qe 4,
qe 7,
qo (.bin .mul) [.loc 1,.loc 0],
qa2 3 0,
ql 0] [(10,0)]
(sr [qe 5,
qe 7,
qo (.bin .mul) [.loc 1,.loc 0],
qe 11,
qa2 1 0,
qe 10,
qo (.bin .shr) [.loc 0,.const (.int .u64 32)],
qa2 2 0,
ql 0] [(2,0)]
(sr [qe 0,
qe 1,
qo (.bin .mul) [.loc 1,.loc 0],
ql 0] [(3,0)]
(.ret)))))))))))),
[.tmp 2,.tmp 3]⟩
theorem F125_low:LK [0,1,4,5,6,7,8,9,10,11,12,13] Tryz.f125=some F125:=by as_aux_lemma=>kernel_rfl
def F126:Va:=⟨[0,1,4],2,
sr [qo .mv [.const (.str ⟨#[]⟩)]] [(2,0)]
(sr [qe 0,
qe 1,
qkk 163 1 0,
ql 0] [(2,0)]
(.ret)),
[.tmp 2]⟩
theorem F126_low:LK [0,1,4] Tryz.f126=some F126:=by as_aux_lemma=>kernel_rfl
def F127:Va:=⟨[0,2],1,
sr [qbb false] [(1,0)]
(sr [qe 0,
qo (.bin .neq) [.loc 0,.const (.str ⟨#[]⟩)],
ql 0,
qge 0 0 true,
qg (.call 85) [.loc 0,.const (.str ⟨#[48,49,50,51,52,53,54,55,56,57]⟩)] 1 true,
qg (.bin .eql) [.loc 0,.const (.str ⟨#[]⟩)] 2 true,
qpf 3 0,
ql 0] [(1,0)]
(.ret)),
[.tmp 1]⟩
theorem F127_low:LK [0,2] Tryz.f127=some F127:=by as_aux_lemma=>kernel_rfl
def F128:Va:=⟨[0,1,2,6,7,11,18,27,37],3,
sr [qo (.alloc 145 [.bool false,.str ⟨#[]⟩,.int .i64 0]) [],
qi 0] [(3,1),(4,0)]
(sr [qe 1,
qo (.call 65) [.loc 0,.const (.str ⟨#[48]⟩)],
ql 0] [(1,0)]
(.seq (sr [qe 1,
qo (.bin .eql) [.loc 0,.const (.str ⟨#[]⟩)]] [(5,0)]
(cn 5 (sr [qo (.build [.bool false,.str ⟨#[]⟩,.int .i64 0] [(1,1)]) [.const (.str ⟨#[48]⟩)],
qs2 3 3 0,
qi 0] [(4,0)]
(.ret)) (.skip)))
(.seq (.block 0 (.loop (.seq (sr [qe 2,
qo (.bin .gtr) [.loc 0,qki 0],
ql 0,
qge 1 0 true,
qg (.call 164) [.loc 0,.const (.str ⟨#[48]⟩)] 1 true,
qpf 2 0] [(6,0)]
(cn 6 (.skip) (.exit 0)))
(.block 1 (rg [qe 1,
qe 1,
qln true 0,
qo (.bin .sub) [.loc 0,qki 1],
qo (.slice true 0 false true false) [.loc 3,.loc 0],
qe 2,
qo (.bin .sub) [.loc 0,qki 1],
ql 2,
ql 1] [(1,1),(2,0)])))))
(.seq (sr [qe 2,
qo (.bin .lss) [.loc 0,qki 0]] [(7,0)]
(cn 7 (rg [qe 1,
qe 2,
qo (.un .neg) [.loc 0],
qo (.call 58) [.const (.str ⟨#[48]⟩),.loc 0],
qa2 3 0,
ql 0,
qi 0] [(1,1),(2,0)]) (.skip)))
(.seq (sr [qe 1,
qln true 0,
qe 2,
qo .max [.loc 1,.loc 0],
qo (.bin .gtr) [.loc 0,qki 62]] [(8,0)]
(cn 8 (sr [qo (.build [.bool false,.str ⟨#[]⟩,.int .i64 0] []) [],
qs2 3 3 0,
qi 14] [(4,0)]
(.ret)) (.skip)))
(sr [qe 0,
qe 1,
qe 2,
qo (.build [.bool false,.str ⟨#[]⟩,.int .i64 0] [(0,1),(1,1),(2,1)]) [.loc 2,.loc 1,.loc 0],
qs2 3 3 0,
qi 0] [(4,0)]
(.ret))))))),
[.cell 3 3 true,.tmp 4]⟩
theorem F128_low:LK [0,1,2,6,7,11,18,27,37] Tryz.f128=some F128:=by as_aux_lemma=>kernel_rfl
def F129:Va:=⟨[0,1,2,3,4,24,41],1,
sr [qo (.boxc 3) [.env 0],
qi 0] [(1,1),(2,0)]
(.seq (sr [qfe 1 1,
qd 1 0,
qk 127 0,
qun 0,
ql 0,
qg (.Vt 1) [.env 1] 0 false,
qgd 1 0 1 false,
qg (.len true) [.loc 0] 2 false,
qg (.bin .gtr) [.loc 0,qki 62] 3 false,
qpt 4 0,
ql 0,
qg (.Vt 2) [.env 1] 0 false,
qgd 1 0 1 false,
qg (.bin .lss) [.loc 0,qki 0] 2 false,
qpt 3 0,
ql 0,
qg (.Vt 2) [.env 1] 0 false,
qgd 1 0 1 false,
qg (.bin .gtr) [.loc 0,qki 62] 2 false,
qpt 3 0] [(5,0)]
(cn 5 (sr [qi 1] [(2,0)]
(.ret)) (.skip)))
(.seq (sr [qfe 0 1,
qd 1 0,
qfe 1 1,
qd 1 0,
qfe 2 1,
qd 1 0,
qo (.call 128) [.loc 4,.loc 2,.loc 0],
ql 0,
qx 0 0,
qx 1 1,
qo (.alloc 145 [.bool false,.str ⟨#[]⟩,.int .i64 0]) [],
qso 3 0 2,
ql 2] [(3,2),(4,0)]
(sr [qe 4,
qo (.bin .neq) [.loc 0,qki 0],
ql 0,
qg (.load 3 true) [.env 3] 0 false,
qg (.load 3 true) [.env 1] 1 false,
qg (.eqs true [2,1,0]) [.loc 1,.loc 0] 2 false,
qpt 3 0] [(6,0)]
(cn 6 (sr [qi 1] [(2,0)]
(.ret)) (.skip))))
(sr [qi 0] [(2,0)]
(.ret)))),
[.tmp 2]⟩
theorem F129_low:Dw Tryz.prog (KD [] [1]) [0,1,2,3,4,24,41] Tryz.f129=some F129:=by as_aux_lemma=>kernel_rfl
def F130:Va:=⟨[0,1,2,3,6,7,8,9,10,11,19,28,36,40,56],3,
sr [qo (.boxc 3) [.env 0],
qo (.alloc 145 [.bool false,.str ⟨#[]⟩,.int .i64 0]) [],
qi 0] [(3,2),(4,1),(5,0)]
(.seq (sr [qde 3 3,
qe 1,
qo (.call 165) [.loc 1,qki 1,.loc 0],
qo (.bin .neq) [.loc 0,qki 0],
ql 0,
qge 2 0 false,
qg (.bin .gtr) [.loc 0,qkb 7] 1 false,
qpt 2 0] [(10,0)]
(cn 10 (sr [qo (.build [.bool false,.str ⟨#[]⟩,.int .i64 0] []) [],
qs2 3 4 0,
qi 1] [(5,0)]
(.ret)) (.skip)))
(sr [qde 3 3,
qe 1,
qkk 131 1 0,
ql 0,
qx 0 0,
qx 1 1,
qx 2 2,
qo (.alloc 145 [.bool false,.str ⟨#[]⟩,.int .i64 0]) [],
qso 3 0 3,
ql 3,
ql 3] [(6,3),(7,1),(8,0)]
(.seq (.block 0 (sr [qe 8,
qo (.bin .neq) [.loc 0,qki 0],
ql 0,
qge 7 0 false,
qpt 1 0,
ql 0] [(11,0)]
(cn 11 (sr [qde 3 6,
qe 8,
qs2 3 4 1,
ql 1] [(5,0)]
(.ret)) (sr [qe 2,
qo (.bin .eql) [.loc 0,qkb 7],
ql 0] [(12,0)]
(cn 12 (sr [qo (.build [.bool false,.str ⟨#[]⟩,.int .i64 0] []) [],
qs2 3 4 0,
qi 14] [(5,0)]
(.ret)) (sr [qde 3 3,
qde 3 6,
qe 1,
qe 2,
qo (.call 166) [.loc 3,.loc 2,.loc 1,.loc 0],
qun 0,
ql 0] [(13,0)]
(cn 13 (sr [qde 3 6,
qs2 3 4 0,
qi 0] [(5,0)]
(.ret)) (.skip))))))))
(sr [qfe 0 3,
qd 1 0,
qe 1,
qo (.call 167) [.loc 1,.const (.str ⟨#[49]⟩),.loc 0],
ql 0,
qx 0 0,
qx 1 1,
qo (.alloc 145 [.bool false,.str ⟨#[]⟩,.int .i64 0]) [],
qso 3 0 2,
ql 2] [(8,0),(9,2)]
(.seq (sr [qe 8,
qo (.bin .neq) [.loc 0,qki 0]] [(14,0)]
(cn 14 (sr [qo (.build [.bool false,.str ⟨#[]⟩,.int .i64 0] []) [],
qe 8,
qs2 3 4 1,
ql 1] [(5,0)]
(.ret)) (.skip)))
(sr [qde 3 6,
qde 3 9,
qkk 168 1 0,
qx 0 0,
qx 1 1,
qs2 3 4 1,
ql 1] [(5,0)]
(.ret))))))),
[.cell 4 3 true,.tmp 5]⟩
theorem F130_low:Dw Tryz.prog (KD [] [3]) [0,1,2,3,6,7,8,9,10,11,19,28,36,40,56] Tryz.f130=some F130:=by as_aux_lemma=>kernel_rfl
def F131:Va:=⟨[0,1,2,4,5,6,7,8,9,10,11,15,21,27],2,
sr [qo (.boxc 3) [.env 0],
qo (.alloc 145 [.bool false,.str ⟨#[]⟩,.int .i64 0]) [],
qbb false,
qi 0] [(2,3),(3,2),(4,1),(5,0)]
(.seq (sr [qde 3 2,
qk 129 0,
ql 0] [(6,0)]
(sr [qe 6,
qo (.bin .neq) [.loc 0,qki 0]] [(11,0)]
(cn 11 (sr [qo (.build [.bool false,.str ⟨#[]⟩,.int .i64 0] []) [],
qe 6,
qs2 3 3 1,
qbb false,
ql 2] [(4,1),(5,0)]
(.ret)) (.skip))))
(.seq (sr [qe 1,
qfe 2 2,
qd 1 0,
qo (.bin .geq) [.loc 2,.loc 0]] [(12,0)]
(cn 12 (sr [qde 3 2,
qs2 3 3 0,
qbb true,
qi 0] [(4,1),(5,0)]
(.ret)) (.skip)))
(sr [qfe 1 2,
qd 1 0,
qln true 0,
ql 0] [(7,0)]
(.seq (sr [qe 1,
qo (.bin .gtr) [.loc 0,.const (.int .i64 (-9223372036854775746))]] [(13,0)]
(cn 13 (rg [qe 7,
qfe 2 2,
qd 1 0,
qe 1,
qo (.bin .sub) [.loc 1,.loc 0],
qo .min [.loc 4,.loc 0],
ql 0] [(7,0)]) (.skip)))
(sr [qfe 1 2,
qd 1 0,
qfe 1 2,
qd 1 0,
qln true 0,
qe 7,
qo (.bin .sub) [.loc 1,.loc 0],
qo (.slice true 0 true false false) [.loc 5,.loc 0],
ql 0] [(8,0)]
(.seq (.drawn [qfe 0 2,
qwd 1 0 1 1,
qw (.Vt 1) [.env 2] 0 2,
qwd 1 0 4 3,
qw (.Vt 1) [.env 2] 0 4,
qwd 1 0 16 5,
qw (.len true) [.loc 0] 48 6,
qwe 7 0 7,
qw (.bin .sub) [.loc 1,.loc 0] 240 8,
qw (.slice true 0 false true false) [.loc 5,.loc 0] 508 9,
qwe 7 0 10,
qw (.call 58) [.const (.str ⟨#[48]⟩),.loc 0] 1024 11,
qw (.bin .add) [.loc 2,.loc 0] 4092 12,
qw (.Vt 2) [.env 2] 0 13,
qwd 1 0 8192 14,
qw (.call 128) [.loc 13,.loc 2,.loc 0] 32767 15,
qwl 0 65535 16,
qw (.extract 0) [.loc 0] 131071 17,
qw (.extract 1) [.loc 1] 131071 18,
⟨.mv,[.loc 19],none,ob 0 19,some 0⟩,
qw (.store 3) [.loc 0,.loc 2] 786431 20,
qwl 2 2097151 21] [(9,2),(10,0)] [(145,[.bool false,.str ⟨#[]⟩,.int .i64 0])])
(.seq (.drawn [qde 3 9,
qwe 8 0 1,
qw (.call 85) [.loc 0,.const (.str ⟨#[48]⟩)] 2 2,
qw (.bin .eql) [.loc 0,.const (.str ⟨#[]⟩)] 6 3,
qwe 10 0 4,
qw (.store 3) [.env 3,.loc 4] 7 5,
qwl 2 47 6,
qwl 2 127 7] [(4,1),(5,0)] [])
(.ret)))))))),
[.cell 3 3 true,.tmp 4,.tmp 5]⟩
theorem F131_low:Dw Tryz.prog (KD [] [2]) [0,1,2,4,5,6,7,8,9,10,11,15,21,27] Tryz.f131=some F131:=by as_aux_lemma=>kernel_rfl
def F132:Va:=⟨[0,1,2,3,6,7,8,9,10,16],3,
sr [qo (.boxc 3) [.env 0],
qbb false,
qi 0] [(3,2),(4,1),(5,0)]
(.seq (sr [qde 3 3,
qe 1,
qe 2,
qo (.call 165) [.loc 2,.loc 1,.loc 0],
ql 0] [(6,0)]
(sr [qe 6,
qo (.bin .neq) [.loc 0,qki 0]] [(9,0)]
(cn 9 (sr [qe 6,
qbb false,
ql 1] [(4,1),(5,0)]
(.ret)) (.skip))))
(sr [qde 3 3,
qe 1,
qe 2,
qo (.call 169) [.loc 2,.loc 1,.loc 0],
ql 0,
qx 0 0,
qx 1 1,
ql 1,
ql 1] [(7,1),(8,0)]
(sr [qe 8,
ql 0,
qge 7 0 true,
qge 7 1 true,
qg (.len true) [.loc 0] 2 true,
qge 1 3 true,
qg (.bin .sub) [.loc 1,.loc 0] 4 true,
qg (.slice true 0 false true false) [.loc 4,.loc 0] 5 true,
qg (.call 85) [.loc 0,.const (.str ⟨#[48]⟩)] 6 true,
qg (.bin .eql) [.loc 0,.const (.str ⟨#[]⟩)] 7 true,
qpf 8 0,
ql 0,
qi 0] [(4,1),(5,0)]
(.ret)))),
[.tmp 4,.tmp 5]⟩
theorem F132_low:Dw Tryz.prog (KD [] [3]) [0,1,2,3,6,7,8,9,10,16] Tryz.f132=some F132:=by as_aux_lemma=>kernel_rfl
def F133:Va:=⟨[0,1,2,3,6,7,8,9,10,16,27],3,
sr [qo (.boxc 3) [.env 0],
qo (.alloc 145 [.bool false,.str ⟨#[]⟩,.int .i64 0]) [],
qi 0] [(3,2),(4,1),(5,0)]
(.seq (sr [qde 3 3,
qe 1,
qe 2,
qo (.call 165) [.loc 2,.loc 1,.loc 0],
ql 0] [(6,0)]
(sr [qe 6,
qo (.bin .neq) [.loc 0,qki 0]] [(9,0)]
(cn 9 (sr [qo (.build [.bool false,.str ⟨#[]⟩,.int .i64 0] []) [],
qe 6,
qs2 3 4 1,
ql 1] [(5,0)]
(.ret)) (.skip))))
(sr [qde 3 3,
qe 1,
qe 2,
qo (.call 169) [.loc 2,.loc 1,.loc 0],
ql 0,
qx 0 0,
qx 1 1,
ql 1,
ql 1] [(7,1),(8,0)]
(.seq (sr [qe 8,
qun 0] [(10,0)]
(cn 10 (sr [qo (.build [.bool false,.str ⟨#[]⟩,.int .i64 0] []) [],
qs2 3 4 0,
qi 14] [(5,0)]
(.ret)) (.skip)))
(.seq (.drawn [qfe 0 3,
qwd 1 0 1 1,
qwe 7 0 2,
qwe 7 0 3,
qw (.len true) [.loc 0] 8 4,
qwe 1 0 5,
qw (.bin .sub) [.loc 1,.loc 0] 56 6,
qw (.slice true 0 true false false) [.loc 4,.loc 0] 124 7,
qwe 2 0 8,
qw (.call 167) [.loc 7,.loc 1,.loc 0] 511 9,
qw (.extract 0) [.loc 0] 1023 10,
qw (.extract 1) [.loc 1] 1023 11,
qw (.store 3) [.env 4,.loc 1] 4095 12,
qwl 1 8191 13] [(5,0)] [])
(.ret))))),
[.cell 4 3 true,.tmp 5]⟩
theorem F133_low:Dw Tryz.prog (KD [] [3]) [0,1,2,3,6,7,8,9,10,16,27] Tryz.f133=some F133:=by as_aux_lemma=>kernel_rfl
def F134:Va:=⟨[0,1,2,3,4,5,6,7,16,18,30],2,
sr [qo (.boxc 3) [.env 0],
qo (.boxc 11) [.env 1],
qno,
qi 0] [(2,3),(3,2),(4,1),(5,0)]
(sr [qde 11 3,
qk 170 0,
ql 0] [(6,0)]
(.seq (sr [qe 6,
qo (.bin .eql) [.loc 0,qki 1],
ql 0,
qg (.load 3 true) [.env 2] 0 false,
qg (.call 129) [.loc 0] 1 false,
qg (.bin .neq) [.loc 0,qki 0] 2 false,
qpt 3 0] [(8,0)]
(cn 8 (sr [qno,
qi 1] [(4,1),(5,0)]
(.ret)) (.skip)))
(.seq (sr [qe 6,
qo (.bin .neq) [.loc 0,qki 0]] [(9,0)]
(cn 9 (sr [qe 6,
qno,
ql 1] [(4,1),(5,0)]
(.ret)) (.skip)))
(sr [qde 3 2,
qfe 3 3,
qd 1 0,
qfe 4 3,
qd 1 0,
qo (.call 171) [.loc 4,.loc 2,.loc 0],
ql 0,
qx 0 0,
qx 1 1,
ql 1,
ql 1] [(6,0),(7,1)]
(.seq (sr [qe 6,
qo (.bin .neq) [.loc 0,qki 0]] [(10,0)]
(cn 10 (sr [qe 6,
qno,
ql 1] [(4,1),(5,0)]
(.ret)) (.skip)))
(.seq (.drawn [qde 11 3,
qw (.call 172) [.loc 0] 1 1,
qw (.field 1 1 false) [.loc 0] 3 2,
qw (.load 11 true) [.env 3] 0 3,
qw (.Vt 0) [.env 2] 0 4,
qwd 1 0 16 5,
qwl 0 51 6,
qh (.Vt 5) [.env 3] 0 true 115 7,
qh (.load 1 false) [.loc 0] 1 true 243 8,
qw .pick [.loc 2,.loc 0,.const (.bool false)] 499 9,
qwe 7 0 10,
qw (.build [.bool false,.str ⟨#[]⟩] [(0,1),(1,1)]) [.loc 1,.loc 0] 2035 11,
qw .callv [.loc 9,.loc 8,.loc 0] 4095 12,
qw (.call 82) [.loc 0] 8191 13,
qwl 0 16383 14,
qwi 0 32767 15] [(4,1),(5,0)] [])
(.ret))))))),
[.tmp 4,.tmp 5]⟩
theorem F134_low:Dw Tryz.prog (KD [] [2,3]) [0,1,2,3,4,5,6,7,16,18,30] Tryz.f134=some F134:=by as_aux_lemma=>kernel_rfl
def F135:Va:=⟨[0,1,2,3,4,5,6,7,9,10,14,25,37],2,
sr [qo (.boxc 3) [.env 0],
qo (.boxc 11) [.env 1],
qno,
qi 0] [(2,3),(3,2),(4,1),(5,0)]
(.seq (sr [qde 11 3,
qo (.call 173) [.loc 0,qkb 5],
ql 0] [(6,0)]
(sr [qe 6,
qo (.bin .neq) [.loc 0,qki 0]] [(10,0)]
(cn 10 (sr [qe 6,
qno,
ql 1] [(4,1),(5,0)]
(.ret)) (.skip))))
(sr [qde 3 2,
qfe 4 3,
qd 1 0,
qkk 131 2 0,
ql 0,
qx 0 0,
qx 1 1,
qx 2 2,
qo (.alloc 145 [.bool false,.str ⟨#[]⟩,.int .i64 0]) [],
qso 3 0 3,
ql 3,
ql 3] [(7,3),(8,0)]
(.seq (sr [qe 8,
qo (.bin .neq) [.loc 0,qki 0]] [(11,0)]
(cn 11 (sr [qe 8,
qno,
ql 1] [(4,1),(5,0)]
(.ret)) (.skip)))
(sr [qde 3 7,
qfe 3 3,
qd 1 0,
qfe 4 3,
qd 1 0,
qo (.call 133) [.loc 4,.loc 2,.loc 0],
ql 0,
qx 0 0,
qx 1 1,
qo (.alloc 145 [.bool false,.str ⟨#[]⟩,.int .i64 0]) [],
qso 3 0 2,
ql 2] [(8,0),(9,2)]
(.seq (sr [qe 8,
qo (.bin .neq) [.loc 0,qki 0]] [(12,0)]
(cn 12 (sr [qe 8,
qno,
ql 1] [(4,1),(5,0)]
(.ret)) (.skip)))
(sr [qde 3 9,
qde 11 3,
qkk 174 1 0,
qk 82 0,
ql 0,
qi 0] [(4,1),(5,0)]
(.ret))))))),
[.tmp 4,.tmp 5]⟩
theorem F135_low:Dw Tryz.prog (KD [] [2,3]) [0,1,2,3,4,5,6,7,9,10,14,25,37] Tryz.f135=some F135:=by as_aux_lemma=>kernel_rfl
def F136:Va:=⟨[0,1,2,3,4,5,24],2,
sr [qo (.boxc 11) [.env 0],
qo (.boxc 11) [.env 1],
qbb false] [(2,2),(3,1),(4,0)]
(sr [qfe 0 3,
qd 1 0,
qo (.bin .eql) [.loc 0,qkb 2],
ql 0,
qg (.Vt 0) [.env 3] 0 false,
qgd 1 0 1 false,
qg (.bin .eql) [.loc 0,qkb 3] 2 false,
qpt 3 0,
ql 0] [(5,0)]
(.seq (sr [qfe 0 2,
qd 1 0,
qo (.bin .eql) [.loc 0,qkb 4],
ql 0,
qg (.Vt 4) [.env 2] 0 true,
qgd 1 0 1 true,
qg (.bin .gtr) [.loc 0,qki 0] 2 true,
qpf 3 0,
ql 0,
qge 5 0 true,
qpf 1 0] [(6,0)]
(cn 6 (sr [qbb false] [(4,0)]
(.ret)) (.skip)))
(.seq (.drawn [qfe 0 2,
qwd 1 0 1 1,
qw (.aaddr 1 6) [.const (.Vw [.int .u8 63,.int .u8 15,.int .u8 63,.int .u8 15,.int .u8 61,.int .u8 61] 0),.loc 0] 3 2,
qwd 1 0 7 3,
qw (.Vt 0) [.env 3] 0 4,
qwd 1 0 16 5,
qw (.bin .shr) [.loc 2,.loc 0] 63 6,
qw (.bin .and) [.loc 0,qkb 1] 127 7,
qw (.bin .eql) [.loc 0,qkb 1] 255 8,
qwl 0 511 9] [(4,0)] [])
(.ret)))),
[.tmp 4]⟩
theorem F136_low:Dw Tryz.prog (KD [] [2,3]) [0,1,2,3,4,5,24] Tryz.f136=some F136:=by as_aux_lemma=>kernel_rfl
def F137:Va:=⟨[0,1,2,6,7,8,9,13,21],3,
sr [qno,
qi 0] [(3,1),(4,0)]
(.seq (sr [qe 1,
qk 175 0,
ql 0] [(5,0)]
(sr [qe 5,
qo (.bin .neq) [.loc 0,qki 0]] [(7,0)]
(cn 7 (sr [qe 5,
qno,
ql 1] [(3,1),(4,0)]
(.ret)) (.skip))))
(sr [qe 1,
qo (.mkslice 5 1 1 [.int .u8 0] 2) [.loc 0,.loc 0],
ql 0] [(6,0)]
(sr [qe 6,
qe 1,
qo (.call 58) [.const (.str ⟨#[32]⟩),.loc 0],
qo (.copys 2) [.loc 2,.loc 0]] []
(.seq (sr [qe 2] [(8,0)]
(cn 8 (.drawn [qe 6,
qwe 1 0 1,
qwe 0 0 2,
qw (.len false) [.loc 0] 4 3,
qw (.bin .sub) [.loc 2,.loc 0] 14 4,
qw .max [qki 0,.loc 0] 30 5,
qw (.slice false 1 true false false) [.loc 5,.loc 0] 63 6,
qwe 0 0 7,
qwe 0 0 8,
qw (.len false) [.loc 0] 256 9,
qwe 1 0 10,
qw (.bin .sub) [.loc 1,.loc 0] 1792 11,
qw .max [qki 0,.loc 0] 3840 12,
qw (.slice false 1 true false false) [.loc 5,.loc 0] 8064 13,
qw (.copy 1 2) [.loc 7,.loc 0] 16383 14] [] []) (rg [qe 6,
qe 0,
qo (.copy 1 2) [.loc 1,.loc 0]] [])))
(sr [qe 6,
ql 0,
qi 0] [(3,1),(4,0)]
(.ret)))))),
[.tmp 3,.tmp 4]⟩
theorem F137_low:Dw Tryz.prog (KD [5] []) [0,1,2,6,7,8,9,13,21] Tryz.f137=some F137:=by as_aux_lemma=>kernel_rfl
def F140:Va:=⟨[0,1,2,3,4,5,6,7,8,17,26],2,
sr [qo (.boxc 12) [.env 0],
qo (.boxc 11) [.env 1],
qno,
qi 0] [(2,3),(3,2),(4,1),(5,0)]
(.seq (sr [qfe 0 2,
qfl 0 0,
qd 1 0,
qo (.bin .neq) [.loc 0,qkb 4],
ql 0,
qg (.Vt 0) [.env 3] 0 false,
qgd 1 0 1 false,
qg (.bin .eql) [.loc 0,qkb 0] 2 false,
qpt 3 0] [(9,0)]
(cn 9 (sr [qfe 11 2,
qd 1 0,
ql 0,
qi 0] [(4,1),(5,0)]
(.ret)) (.skip)))
(sr [qde 12 2,
qk 176 0,
ql 0,
qx 0 0,
qx 1 1,
qo (.alloc 145 [.bool false,.str ⟨#[]⟩,.int .i64 0]) [],
qso 3 0 2,
ql 2] [(6,2),(7,0)]
(.seq (sr [qe 7,
qo (.bin .neq) [.loc 0,qki 0]] [(10,0)]
(cn 10 (sr [qe 7,
qno,
ql 1] [(4,1),(5,0)]
(.ret)) (.skip)))
(sr [qde 3 6,
qfe 0 2,
qfl 3 0,
qd 1 0,
qfe 0 2,
qfl 4 0,
qd 1 0,
qo (.bin .sub) [.loc 3,.loc 0],
qfe 0 2,
qfl 4 0,
qd 1 0,
qo .max [.loc 0,qki 0],
qa2 4 0,
qo (.call 171) [.loc 12,.loc 0,qki 0],
ql 0,
qx 0 0,
qx 1 1,
ql 1,
ql 1] [(7,0),(8,1)]
(sr [qe 8,
qo .strb [.loc 0],
qe 7,
ql 1,
ql 1] [(4,1),(5,0)]
(.ret)))))),
[.tmp 4,.tmp 5]⟩
theorem F140_low:Dw Tryz.prog (KD [] [2,3]) [0,1,2,3,4,5,6,7,8,17,26] Tryz.f140=some F140:=by as_aux_lemma=>kernel_rfl
def F142:Va:=⟨[0,1,2,6],3,
sr [qbb false] [(3,0)]
(sr [qe 0,
qnl 0,
qfl 0 0,
qd 1 0,
qln false 0,
qo (.bin .gtr) [.loc 0,qki 0],
ql 0,
qge 0 0 true,
qg .nilck [.loc 0] 1 true,
qg (.Vt 0) [.loc 0] 2 true,
qgd 1 0 3 true,
qg (.Vs 5) [.loc 0,qki 0] 4 true,
qg (.Vt 0) [.loc 0] 5 true,
qgd 1 0 6 true,
qge 1 7 true,
qg (.bin .eql) [.loc 1,.loc 0] 8 true,
qpf 9 0,
ql 0,
qge 2 0 true,
qg (.len false) [.loc 0] 1 true,
qg (.bin .eql) [.loc 0,qki 0] 2 true,
qgl 0 3 true,
qge 2 0 false,
qge 0 1 false,
qg .nilck [.loc 0] 2 false,
qg (.Vt 0) [.loc 0] 3 false,
qgd 1 0 4 false,
qg (.Vs 5) [.loc 0,qki 0] 5 false,
qg (.Vt 1) [.loc 0] 6 false,
qgd 1 0 7 false,
qg (.call 180) [.loc 7,.loc 0] 8 false,
qg .pick [.loc 9,.const (.bool true),.loc 0] 13 true,
qpf 14 0,
ql 0] [(3,0)]
(.ret)),
[.tmp 3]⟩
theorem F142_low:LK [0,1,2,6] Tryz.f142=some F142:=by as_aux_lemma=>kernel_rfl
def F143:Va:=⟨[0,2],1,
sr [qbb false] [(1,0)]
(sr [qe 0,
qo (.bin .geq) [.loc 0,qkb 48],
ql 0,
qge 0 0 true,
qg (.bin .leq) [.loc 0,qkb 57] 1 true,
qpf 2 0,
ql 0] [(1,0)]
(.ret)),
[.tmp 1]⟩
theorem F143_low:LK [0,2] Tryz.f143=some F143:=by as_aux_lemma=>kernel_rfl
def F144:Va:=⟨[0,2,3,4,5,6,8,9,10,30,39,44,47,48,49,50,56,66],1,
sr [qi 0,
qo .mv [.const (.nili)]] [(1,1),(2,0)]
(sr [qe 0,
qln true 0,
ql 0] [(3,0)]
(.seq (sr [qbb false,
qge 3 0 true,
qg (.bin .lss) [qki 0,.loc 0] 1 true,
qgl 0 2 true,
qge 3 0 true,
qg (.bin .lss) [.loc 0,qki 10] 1 true,
qg .pick [.loc 2,.loc 0,.const (.bool false)] 5 true,
qpf 6 0,
ql 0,
qg .mv [.const (.bool true)] 0 false,
qge 3 0 true,
qg (.bin .lss) [qki 0,.loc 0] 1 true,
qgl 0 2 true,
qge 3 0 true,
qg (.bin .lss) [.loc 0,qki 19] 1 true,
qg .pick [.loc 2,.loc 0,.const (.bool false)] 5 true,
qg .pick [.loc 6,.loc 0,.const (.bool false)] 7 false,
qpt 8 0] [(9,0)]
(cn 9 (sr [qe 0,
ql 0] [(4,0)]
(.seq (sr [qe 0,
qo .index [.loc 0,qki 0],
qo (.bin .eql) [.loc 0,qkb 45],
ql 0,
qge 0 0 false,
qg .index [.loc 0,qki 0] 1 false,
qg (.bin .eql) [.loc 0,qkb 43] 2 false,
qpt 3 0] [(10,0)]
(cn 10 (sr [qe 0,
qo (.slice true 0 true false false) [.loc 0,qki 1],
ql 0] [(0,0)]
(sr [qe 0,
qln true 0,
qo (.bin .lss) [.loc 0,qki 1]] [(11,0)]
(cn 11 (sr [qo (.mkif 232) [qki 2],
qi 0,
ql 1] [(1,1),(2,0)]
(.ret)) (.skip)))) (.skip)))
(sr [qi 0] [(5,0)]
(.seq (sr [qe 0,
qo .strb [.loc 0],
qln false 0,
qi 0] [(12,2),(13,1),(14,0)]
(.block 0 (.loop (sr [qlt 14 13] [(15,0)]
(.seq (cn 15 (.skip) (.exit 0))
(.seq (.block 1 (sr [qo (.Vs 1) [.env 12,.env 14],
qd 1 0,
ql 0] [(6,0)]
(sr [qe 6,
qo (.bin .sub) [.loc 0,qkb 48],
ql 0] [(6,0)]
(.seq (sr [qe 6,
qo (.bin .gtr) [.loc 0,qkb 9]] [(16,0)]
(cn 16 (sr [qo (.mkif 232) [qki 2],
qi 0,
ql 1] [(1,1),(2,0)]
(.ret)) (.skip)))
(rg [qe 5,
qo (.bin .mul) [.loc 0,qki 10],
qe 6,
qo (.conv .i64) [.loc 0],
qa2 2 0,
ql 0] [(5,0)])))))
(rg [qae 14 1,
ql 0] [(14,0)])))))))
(.seq (sr [qe 4,
qo .index [.loc 0,qki 0],
qo (.bin .eql) [.loc 0,qkb 45]] [(17,0)]
(cn 17 (rg [qe 5,
qo (.un .neg) [.loc 0],
ql 0] [(5,0)]) (.skip)))
(sr [qe 5,
ql 0,
qo .mv [.const (.nili)]] [(1,1),(2,0)]
(.ret))))))) (.skip)))
(sr [qe 0,
qo (.call 181) [.loc 0,qki 10,qki 0],
ql 0,
qx 0 0,
qx 1 1,
ql 1,
ql 1] [(7,1),(8,0)]
(sr [qe 7,
qe 8,
ql 1,
ql 1] [(1,1),(2,0)]
(.ret))))),
[.tmp 1,.tmp 2]⟩
theorem F144_low:LK [0,2,3,4,5,6,8,9,10,30,39,44,47,48,49,50,56,66] Tryz.f144=some F144:=by as_aux_lemma=>kernel_rfl
def F146:Va:=⟨[0,1,2,3,5,7,8,9,10,15,16,17,18],0,
sr [qo .mv [.const (.nilm)]] [(0,0)]
(sr [qo .mkmap [],
ql 0] [(1,0)]
(.seq (sr [qo (.Vr 9 1 3 [.str ⟨#[]⟩] [0,1,2] 1) [.const (.str ⟨#[65,67,67,69,83,83,32,65,68,86,65,78,67,73,78,71,32,65,70,84,69,82,32,65,76,76,32,65,76,80,72,65,66,69,84,73,67,32,65,76,83,79,32,65,76,84,69,82,78,65,84,69,32,65,78,68,32,65,78,89,32,65,82,69,32,65,82,69,65,32,65,82,69,65,83,32,65,83,67,69,78,68,73,78,71,32,65,83,83,73,71,78,32,65,84,32,65,87,65,89,45,70,82,79,77,45,90,69,82,79,32,66,69,70,79,82,69,32,66,73,78,65,82,89,32,66,76,65,78,75,32,66,76,79,67,75,32,66,89,32,67,70,32,67,72,32,67,72,65,82,65,67,84,69,82,32,67,72,65,82,65,67,84,69,82,83,32,67,76,65,83,83,32,67,79,76,85,77,78,32,67,79,77,80,32,67,79,77,80,45,51,32,67,79,77,80,85,84,65,84,73,79,78,65,76,32,67,79,77,80,85,84,65,84,73,79,78,65,76,45,51,32,67,79,78,70,73,71,85,82,65,84,73,79,78,32,67,79,78,84,65,73,78,83,32,67,79,78,84,69,78,84,32,67,79,78,84,82,79,76,32,67,79,78,84,82,79,76,83,32,67,79,78,86,69,82,84,73,78,71,32,67,79,80,89,32,67,79,82,82,32,67,79,82,82,69,83,80,79,78,68,73,78,71,32,67,79,85,78,84,32,68,65,84,65,32,68,69,32,68,69,67,76,65,82,65,84,73,86,69,83,32,68,69,76,73,77,73,84,69,68,32,68,69,76,73,77,73,84,69,82,32,68,69,80,69,78,68,73,78,71,32,68,69,83,67,69,78,68,73,78,71,32,68,69,84,65,73,76,32,68,73,86,73,83,73,79,78,32,68,79,87,78,32,68,85,80,76,73,67,65,84,69,83,32,68,89,78,65,77,73,67,32,69,76,83,69,32,69,78,68,32,69,78,68,45,65,68,68,32,69,78,68,45,67,65,76,76,32,69,78,68,45,67,79,77,80,85,84,69,32,69,78,68,45,68,69,76,69,84,69,32,69,78,68,45,68,73,86,73,68,69,32,69,78,68,45,69,86,65,76,85,65,84,69,32,69,78,68,45,73,70,32,69,78,68,45,77,85,76,84,73,80,76,89,32,69,78,68,45,80,69,82,70,79,82,77,32,69,78,68,45,82,69,65,68,32,69,78,68,45,82,69,84,85,82,78,32,69,78,68,45,82,69,87,82,73,84,69,32,69,78,68,45,83,69,65,82,67,72,32,69,78,68,45,83,84,65,82,84,32,69,78,68,45,83,84,82,73,78,71,32,69,78,68,45,83,85,66,84,82,65,67,84,32,69,78,68,45,85,78,83,84,82,73,78,71,32,69,78,68,45,87,82,73,84,69,32,69,78,86,73,82,79,78,77,69,78,84,32,69,81,85,65,76,32,69,82,82,79,82,32,69,88,67,69,80,84,73,79,78,32,69,88,84,69,78,68,32,70,65,76,83,69,32,70,68,32,70,73,76,69,32,70,73,76,69,45,67,79,78,84,82,79,76,32,70,73,76,76,69,82,32,70,73,78,65,76,32,70,73,82,83,84,32,70,79,79,84,73,78,71,32,70,79,82,32,70,82,79,77,32,71,73,86,73,78,71,32,71,82,69,65,84,69,82,32,71,82,79,85,80,32,72,69,65,68,73,78,71,32,73,45,79,32,73,45,79,45,67,79,78,84,82,79,76,32,73,68,69,78,84,73,70,73,67,65,84,73,79,78,32,73,78,32,73,78,68,69,88,69,68,32,73,78,68,73,67,65,84,69,32,73,78,73,84,73,65,76,32,73,78,80,85,84,32,73,78,80,85,84,45,79,85,84,80,85,84,32,73,78,84,79,32,73,78,86,65,76,73,68,32,73,83,32,74,85,83,84,32,74,85,83,84,73,70,73,69,68,32,75,69,89,32,76,65,66,69,76,32,76,65,83,84,32,76,69,65,68,73,78,71,32,76,69,70,84,32,76,69,83,83,32,76,73,77,73,84,32,76,73,77,73,84,83,32,76,73,78,69,32,76,73,78,69,83,32,76,73,78,75,65,71,69,32,77,79,68,69,32,78,69,65,82,69,83,84,45,65,87,65,89,45,70,82,79,77,45,90,69,82,79,32,78,69,65,82,69,83,84,45,69,86,69,78,32,78,69,65,82,69,83,84,45,84,79,87,65,82,68,45,90,69,82,79,32,78,69,71,65,84,73,86,69,32,78,69,88,84,32,78,79,32,78,79,84,32,78,85,77,66,69,82,32,78,85,77,69,82,73,67,32,79,67,67,85,82,83,32,79,70,32,79,70,70,32,79,77,73,84,84,69,68,32,79,78,32,79,80,84,73,79,78,65,76,32,79,82,32,79,82,68,69,82,32,79,82,71,65,78,73,90,65,84,73,79,78,32,79,84,72,69,82,32,79,85,84,80,85,84,32,79,86,69,82,70,76,79,87,32,80,65,67,75,69,68,45,68,69,67,73,77,65,76,32,80,65,71,69,32,80,70,32,80,72,32,80,73,67,32,80,73,67,84,85,82,69,32,80,76,85,83,32,80,79,73,78,84,69,82,32,80,79,83,73,84,73,86,69,32,80,82,79,67,69,68,85,82,69,32,80,82,79,67,69,69,68,32,80,82,79,71,82,65,77,32,80,82,79,71,82,65,77,45,73,68,32,80,82,79,72,73,66,73,84,69,68,32,82,65,78,68,79,77,32,82,68,32,82,69,67,79,82,68,32,82,69,67,79,82,68,83,32,82,69,68,69,70,73,78,69,83,32,82,69,70,69,82,69,78,67,69,32,82,69,76,65,84,73,86,69,32,82,69,77,65,73,78,68,69,82,32,82,69,78,65,77,69,83,32,82,69,80,76,65,67,73,78,71,32,82,69,80,79,82,84,32,82,69,80,79,82,84,73,78,71,32,82,69,80,79,82,84,83,32,82,69,83,69,84,32,82,70,32,82,72,32,82,73,71,72,84,32,82,79,85,78,68,69,68,32,82,85,78,32,83,67,82,69,69,78,32,83,68,32,83,69,67,84,73,79,78,32,83,69,76,69,67,84,32,83,69,78,84,69,78,67,69,32,83,69,80,65,82,65,84,69,32,83,69,81,85,69,78,67,69,32,83,69,81,85,69,78,84,73,65,76,32,83,73,71,78,32,83,73,90,69,32,83,79,85,82,67,69,32,83,84,65,78,68,65,82,68,32,83,84,65,84,85,83,32,83,85,77,32,84,65,76,76,89,73,78,71,32,84,69,83,84,32,84,72,65,78,32,84,72,69,78,32,84,72,82,79,85,71,72,32,84,72,82,85,32,84,73,77,69,83,32,84,79,32,84,79,87,65,82,68,45,71,82,69,65,84,69,82,32,84,79,87,65,82,68,45,76,69,83,83,69,82,32,84,82,65,73,76,73,78,71,32,84,82,85,69,32,84,82,85,78,67,65,84,73,79,78,32,84,89,80,69,32,85,78,84,73,76,32,85,80,32,85,80,79,78,32,85,83,65,71,69,32,85,83,73,78,71,32,86,65,76,85,69,32,86,65,76,85,69,83,32,86,65,82,89,73,78,71,32,87,72,69,78,32,87,73,84,72,32,87,79,82,75,73,78,71,45,83,84,79,82,65,71,69]⟩),.const (.str ⟨#[65,67,67,69,80,84,32,65,68,68,32,65,76,84,69,82,32,67,65,76,76,32,67,65,78,67,69,76,32,67,76,79,83,69,32,67,79,77,80,85,84,69,32,67,79,78,84,73,78,85,69,32,68,69,76,69,84,69,32,68,73,83,80,76,65,89,32,68,73,86,73,68,69,32,69,86,65,76,85,65,84,69,32,69,88,73,84,32,71,69,78,69,82,65,84,69,32,71,79,32,73,70,32,73,78,73,84,73,65,76,73,90,69,32,73,78,73,84,73,65,84,69,32,73,78,83,80,69,67,84,32,77,69,82,71,69,32,77,79,86,69,32,77,85,76,84,73,80,76,89,32,79,80,69,78,32,80,69,82,70,79,82,77,32,82,69,65,68,32,82,69,76,69,65,83,69,32,82,69,84,85,82,78,32,82,69,87,82,73,84,69,32,83,69,65,82,67,72,32,83,69,84,32,83,79,82,84,32,83,84,65,82,84,32,83,84,79,80,32,83,84,82,73,78,71,32,83,85,66,84,82,65,67,84,32,83,85,80,80,82,69,83,83,32,84,69,82,77,73,78,65,84,69,32,85,78,83,84,82,73,78,71,32,85,83,69,32,87,82,73,84,69]⟩),.const (.str ⟨#[90,69,82,79,32,90,69,82,79,83,32,90,69,82,79,69,83,32,83,80,65,67,69,32,83,80,65,67,69,83,32,72,73,71,72,45,86,65,76,85,69,32,72,73,71,72,45,86,65,76,85,69,83,32,76,79,87,45,86,65,76,85,69,32,76,79,87,45,86,65,76,85,69,83,32,81,85,79,84,69,32,81,85,79,84,69,83]⟩)],
qln false 0,
qi 0] [(5,2),(6,1),(7,0)]
(.block 0 (.loop (sr [qlt 7 6] [(8,0)]
(.seq (cn 8 (.skip) (.exit 0))
(.seq (.block 1 (sr [qe 7,
qo (.Vs 1) [.env 5,.env 7],
qd 1 0,
ql 2,
ql 1] [(2,1),(3,0)]
(sr [qe 3,
qk 186 0,
qln false 0,
qi 0] [(9,2),(10,1),(11,0)]
(.block 2 (.loop (sr [qlt 11 10] [(12,0)]
(.seq (cn 12 (.skip) (.exit 2))
(.seq (.block 3 (sr [qo (.Vs 1) [.env 9,.env 11],
qd 1 0,
ql 0] [(4,0)]
(rg [qe 1,
qe 4,
qe 2,
qo (.conv .u8) [.loc 0],
qo (.bin .add) [qkb 1,.loc 0],
qo (.mapset 1) [.loc 4,.loc 3,.loc 0]] [])))
(rg [qae 11 1,
ql 0] [(11,0)])))))))))
(rg [qae 7 1,
ql 0] [(7,0)])))))))
(sr [qe 1,
ql 0] [(0,0)]
(.ret)))),
[.tmp 0]⟩
theorem F146_low:LK [0,1,2,3,5,7,8,9,10,15,16,17,18] Tryz.f146=some F146:=by as_aux_lemma=>kernel_rfl
def F147:Va:=⟨[0,2],1,
sr [qno] [(1,0)]
(sr [qe 0,
qe 0,
qln false 0,
qe 0,
qln false 0,
qo (.slice false 5 false true true) [.loc 4,.loc 2,.loc 0],
ql 0] [(1,0)]
(.ret)),
[.tmp 1]⟩
theorem F147_low:LK [0,2] Tryz.f147=some F147:=by as_aux_lemma=>kernel_rfl
def F148:Va:=⟨[0,2,4],1,
sr [qno] [(1,0)]
(.seq (sr [qe 0,
qo (.eqnil false 0) [.loc 0,.const (.Vu)]] [(2,0)]
(cn 2 (sr [qno] [(1,0)]
(.ret)) (.skip)))
(sr [qo (.Vr 39 5 0 [.int .u8 0,.str ⟨#[]⟩,.int .i64 0,.int .i64 0,.bool false] [] 1) [],
qe 0,
qo (.append 39 5 48 1) [.loc 1,.loc 0],
ql 0] [(1,0)]
(.ret))),
[.tmp 1]⟩
theorem F148_low:LK [0,2,4] Tryz.f148=some F148:=by as_aux_lemma=>kernel_rfl
def F149:Va:=⟨[0,1,4],2,
sr [qbb false] [(2,0)]
(sr [qe 0,
qln true 0,
qe 1,
qln true 0,
qo (.bin .geq) [.loc 2,.loc 0],
ql 0,
qge 0 0 true,
qge 1 1 true,
qg (.len true) [.loc 0] 2 true,
qg (.slice true 0 false true false) [.loc 2,.loc 0] 3 true,
qge 1 4 true,
qg (.bin .eql) [.loc 1,.loc 0] 5 true,
qpf 6 0,
ql 0] [(2,0)]
(.ret)),
[.tmp 2]⟩
theorem F149_low:LK [0,1,4] Tryz.f149=some F149:=by as_aux_lemma=>kernel_rfl
def F150:Va:=⟨[0,1,4],2,
sr [qi 0] [(2,0)]
(sr [qe 0,
qe 1,
qo .idxb [.loc 1,.loc 0],
ql 0] [(2,0)]
(.ret)),
[.tmp 2]⟩
theorem F150_low:LK [0,1,4] Tryz.f150=some F150:=by as_aux_lemma=>kernel_rfl
def F153:Va:=⟨[0,2],1,
sr [qbb false] [(1,0)]
(sr [qe 0,
qo (.bin .gtr) [.loc 0,qki 8],
ql 0] [(1,0)]
(.ret)),
[.tmp 1]⟩
theorem F153_low:LK [0,2] Tryz.f153=some F153:=by as_aux_lemma=>kernel_rfl
def F154:Va:=⟨[0,1,4],2,
sr [qbb false] [(2,0)]
(sr [qe 0,
qe 1,
qnl 1,
qo (.aaddr 1 256) [.loc 0,.loc 1],
qd 1 0,
ql 0] [(2,0)]
(.ret)),
[.tmp 2]⟩
theorem F154_low:LK [0,1,4] Tryz.f154=some F154:=by as_aux_lemma=>kernel_rfl
def F155:Va:=⟨[0,1,4],2,
sr [qbb false] [(2,0)]
(sr [qe 0,
qln true 0,
qe 1,
qln true 0,
qo (.bin .geq) [.loc 2,.loc 0],
ql 0,
qge 0 0 true,
qge 0 1 true,
qg (.len true) [.loc 0] 2 true,
qge 1 3 true,
qg (.len true) [.loc 0] 4 true,
qg (.bin .sub) [.loc 2,.loc 0] 5 true,
qg (.slice true 0 true false false) [.loc 5,.loc 0] 6 true,
qge 1 7 true,
qg (.bin .eql) [.loc 1,.loc 0] 8 true,
qpf 9 0,
ql 0] [(2,0)]
(.ret)),
[.tmp 2]⟩
theorem F155_low:LK [0,1,4] Tryz.f155=some F155:=by as_aux_lemma=>kernel_rfl
def F163:Va:=⟨[0,1,4,7],2,
sr [qo .mv [.const (.str ⟨#[]⟩)]] [(2,0)]
(.seq (sr [qe 0,
qe 1,
qkk 149 1 0] [(3,0)]
(cn 3 (sr [qe 0,
qe 1,
qln true 0,
qo (.slice true 0 true false false) [.loc 2,.loc 0],
ql 0] [(2,0)]
(.ret)) (.skip)))
(sr [qe 0,
ql 0] [(2,0)]
(.ret))),
[.tmp 2]⟩
theorem F163_low:LK [0,1,4,7] Tryz.f163=some F163:=by as_aux_lemma=>kernel_rfl
def F165:Va:=⟨[0,1,2,3,6,25],3,
sr [qo (.boxc 3) [.env 0],
qi 0] [(3,1),(4,0)]
(.seq (sr [qde 3 3,
qk 129 0,
qo (.bin .neq) [.loc 0,qki 0],
ql 0,
qge 1 0 false,
qg (.bin .lss) [.loc 0,qki 1] 1 false,
qpt 2 0,
ql 0,
qge 1 0 false,
qg (.bin .gtr) [.loc 0,qki 62] 1 false,
qpt 2 0,
ql 0,
qge 2 0 false,
qg (.bin .lss) [.loc 0,.const (.int .i64 (-62))] 1 false,
qpt 2 0,
ql 0,
qge 2 0 false,
qg (.bin .gtr) [.loc 0,qki 62] 1 false,
qpt 2 0] [(5,0)]
(cn 5 (sr [qi 1] [(4,0)]
(.ret)) (.skip)))
(sr [qi 0] [(4,0)]
(.ret))),
[.tmp 4]⟩
theorem F165_low:Dw Tryz.prog (KD [] [3]) [0,1,2,3,6,25] Tryz.f165=some F165:=by as_aux_lemma=>kernel_rfl
def F167:Va:=⟨[0,1,2,6,7,23],3,
sr [qo (.alloc 145 [.bool false,.str ⟨#[]⟩,.int .i64 0]) [],
qi 0] [(3,1),(4,0)]
(.seq (sr [qe 1,
qk 127 0,
qun 0,
ql 0,
qge 1 0 false,
qg (.len true) [.loc 0] 1 false,
qg (.bin .gtr) [.loc 0,qki 1000] 2 false,
qpt 3 0,
ql 0,
qge 2 0 false,
qg (.bin .lss) [.loc 0,.const (.int .i64 (-1000))] 1 false,
qpt 2 0,
ql 0,
qge 2 0 false,
qg (.bin .gtr) [.loc 0,qki 1000] 1 false,
qpt 2 0] [(5,0)]
(cn 5 (sr [qo (.build [.bool false,.str ⟨#[]⟩,.int .i64 0] []) [],
qs2 3 3 0,
qi 1] [(4,0)]
(.ret)) (.skip)))
(sr [qe 0,
qe 1,
qe 2,
qo (.call 128) [.loc 2,.loc 1,.loc 0],
qx 0 0,
qx 1 1,
qs2 3 3 1,
ql 1] [(4,0)]
(.ret))),
[.cell 3 3 true,.tmp 4]⟩
theorem F167_low:LK [0,1,2,6,7,23] Tryz.f167=some F167:=by as_aux_lemma=>kernel_rfl
def F169:Va:=⟨[0,1,2,3,6,7,9,11,12,21,29],3,
sr [qo (.boxc 3) [.env 0],
qo .mv [.const (.str ⟨#[]⟩)],
qbb false] [(3,2),(4,1),(5,0)]
(.seq (sr [qde 3 3,
qe 2,
qkk 131 1 0,
ql 0,
qx 0 0,
qx 1 1,
qx 2 2,
qo (.alloc 145 [.bool false,.str ⟨#[]⟩,.int .i64 0]) [],
qso 3 0 3,
ql 3,
ql 3] [(6,1)]
(sr [qe 6,
qun 0] [(9,0)]
(cn 9 (sr [qo .mv [.const (.str ⟨#[]⟩)],
qbb false] [(4,1),(5,0)]
(.ret)) (.skip))))
(sr [qfe 1 3,
qd 1 0,
ql 0] [(7,0)]
(.seq (sr [qe 2,
qfe 2 3,
qd 1 0,
qo (.bin .sub) [.loc 2,.loc 0],
ql 0] [(8,0)]
(sr [qe 8,
qo (.bin .geq) [.loc 0,qki 0]] [(10,0)]
(cn 10 (rg [qe 7,
qe 8,
qo (.call 58) [.const (.str ⟨#[48]⟩),.loc 0],
qa2 2 0,
ql 0] [(7,0)]) (rg [qe 7,
qe 7,
qln true 0,
qe 8,
qa2 1 0,
qo .max [.loc 0,qki 0],
qo (.slice true 0 false true false) [.loc 5,.loc 0],
ql 0] [(7,0)]))))
(sr [qe 1,
qe 7,
qln true 0,
qo (.bin .sub) [.loc 2,.loc 0],
qo .max [.loc 0,qki 0],
qo (.call 58) [.const (.str ⟨#[48]⟩),.loc 0],
qe 7,
qa2 1 0,
ql 0,
qbb true] [(4,1),(5,0)]
(.ret))))),
[.tmp 4,.tmp 5]⟩
theorem F169_low:Dw Tryz.prog (KD [] [3]) [0,1,2,3,6,7,9,11,12,21,29] Tryz.f169=some F169:=by as_aux_lemma=>kernel_rfl
def F170:Va:=⟨[0,1,2,3,7],1,
sr [qo (.boxc 11) [.env 0],
qi 0] [(1,1),(2,0)]
(.seq (.block 0 (sr [qde 11 1,
qk 38 0,
qo (.bin .neq) [.loc 0,qki 0],
ql 0] [(3,0)]
(cn 3 (sr [qi 1] [(2,0)]
(.ret)) (sr [qfe 0 1,
qd 1 0,
qo (.bin .neq) [.loc 0,qkb 4],
ql 0] [(4,0)]
(cn 4 (sr [qi 12] [(2,0)]
(.ret)) (.skip))))))
(sr [qi 0] [(2,0)]
(.ret))),
[.tmp 2]⟩
theorem F170_low:Dw Tryz.prog (KD [] [1]) [0,1,2,3,7] Tryz.f170=some F170:=by as_aux_lemma=>kernel_rfl
def F171:Va:=⟨[0,1,2,3,6,7,8,9,10,19,23],3,
sr [qo (.boxc 3) [.env 0],
qo .mv [.const (.str ⟨#[]⟩)],
qi 0] [(3,2),(4,1),(5,0)]
(sr [qde 3 3,
qe 1,
qe 2,
qo (.call 132) [.loc 2,.loc 1,.loc 0],
ql 0,
qx 0 0,
qx 1 1,
ql 1,
ql 1] [(6,1),(7,0)]
(.seq (.block 0 (sr [qe 7,
qo (.bin .neq) [.loc 0,qki 0],
ql 0] [(9,0)]
(cn 9 (sr [qe 7,
qo .mv [.const (.str ⟨#[]⟩)],
ql 1] [(4,1),(5,0)]
(.ret)) (sr [qe 6,
qun 0,
ql 0] [(10,0)]
(cn 10 (sr [qo .mv [.const (.str ⟨#[]⟩)],
qi 14] [(4,1),(5,0)]
(.ret)) (.skip))))))
(sr [qde 3 3,
qe 1,
qe 2,
qo (.call 169) [.loc 2,.loc 1,.loc 0],
ql 0,
qx 0 0,
qx 1 1,
ql 1,
ql 1] [(8,1)]
(sr [qe 8,
qe 8,
qln true 0,
qe 1,
qo (.bin .sub) [.loc 1,.loc 0],
qo (.slice true 0 true false false) [.loc 4,.loc 0],
ql 0,
qi 0] [(4,1),(5,0)]
(.ret))))),
[.tmp 4,.tmp 5]⟩
theorem F171_low:Dw Tryz.prog (KD [] [3]) [0,1,2,3,6,7,8,9,10,19,23] Tryz.f171=some F171:=by as_aux_lemma=>kernel_rfl
def F172:Va:=⟨[0,1,2,4],1,
sr [qo (.boxc 11) [.env 0],
qo (.alloc 220 [.nilfn,.nilfn]) []] [(1,1),(2,0)]
(.seq (sr [qfe 7 1,
qd 1 0] [(3,0)]
(cn 3 (sr [qo (.call 197) [],
qo (.mapget 0 (.agg [.nilfn,.nilfn]) false) [.loc 0,qki 3],
qs2 2 2 0] []
(.ret)) (.skip)))
(.seq (.drawn [qo (.call 197) [],
qw (.Vt 1) [.env 1] 0 1,
qwd 1 0 2 2,
qw (.conv .i64) [.loc 0] 6 3,
qw (.mapget 0 (.agg [.nilfn,.nilfn]) false) [.loc 3,.loc 0] 15 4,
qw (.store 2) [.env 2,.loc 0] 31 5] [] [])
(.ret))),
[.cell 2 2 true]⟩
theorem F172_low:Dw Tryz.prog (KD [] [1]) [0,1,2,4] Tryz.f172=some F172:=by as_aux_lemma=>kernel_rfl
def F173:Va:=⟨[0,1,2,4,5,9],2,
sr [qo (.boxc 11) [.env 0],
qi 0] [(2,1),(3,0)]
(.seq (.block 0 (sr [qde 11 2,
qk 38 0,
qo (.bin .neq) [.loc 0,qki 0],
ql 0] [(4,0)]
(cn 4 (sr [qi 1] [(3,0)]
(.ret)) (sr [qfe 0 2,
qd 1 0,
qe 1,
qo (.bin .neq) [.loc 1,.loc 0],
ql 0] [(5,0)]
(cn 5 (sr [qi 12] [(3,0)]
(.ret)) (.skip))))))
(sr [qi 0] [(3,0)]
(.ret))),
[.tmp 3]⟩
theorem F173_low:Dw Tryz.prog (KD [] [2]) [0,1,2,4,5,9] Tryz.f173=some F173:=by as_aux_lemma=>kernel_rfl
def F174:Va:=⟨[0,1,2,3,4,5,6,7,8,10,16,36],2,
sr [qo (.boxc 3) [.env 0],
qo (.boxc 11) [.env 1],
qno] [(2,2),(3,1),(4,0)]
(sr [qde 11 3,
qk 198 0,
qo (.alloc 252 [.str ⟨#[]⟩,.str ⟨#[]⟩,.int .u8 0]) [],
qso 3 0 1] [(5,1)]
(sr [qfe 1 2,
qd 1 0,
qo (.bin .eql) [.loc 0,.const (.str ⟨#[48]⟩)],
ql 0] [(6,0)]
(.seq (.block 0 (.seq (.drawn [qe 6,
qwl 0 1 1,
qh (.Vt 9) [.env 3] 0 true 3 2,
qh (.load 1 false) [.loc 0] 1 true 7 3,
qh .mv [.loc 0] 2 true 15 4,
qh (.load 3 true) [.env 5] 0 false 31 5,
qh (.Vt 2) [.env 5] 1 false 31 6,
qh (.load 1 false) [.loc 0] 2 false 95 7,
qh (.Vr 5 1 1 [.int .u8 0] [0] 1) [.loc 0] 3 false 223 8,
qh .bstr [.loc 0] 4 false 479 9,
qh (.call 85) [.loc 0,.const (.str ⟨#[0]⟩)] 5 false 991 10,
qh (.bin .add) [.const (.str ⟨#[90]⟩),.loc 0] 6 false 2015 11,
qh (.call 199) [.loc 6,.loc 0] 7 false 4095 12,
qh .pick [.loc 8,.const (.bool true),.loc 0] 11 true 8191 13,
qw .pick [.loc 12,.loc 0,.const (.bool false)] 16383 14,
qwl 0 32767 15] [(10,0)] [])
(cn 10 (sr [qo (.Vr 5 1 1 [.int .u8 0] [0] 1) [qkb 32],
qfe 10 3,
qd 1 0,
qkk 45 2 0,
ql 0] [(4,0)]
(.ret)) (sr [qe 6,
ql 0,
qg (.load 3 true) [.env 5] 0 true,
qg (.call 199) [.loc 0,.const (.str ⟨#[42]⟩)] 1 true,
qpf 2 0,
ql 0] [(11,0)]
(cn 11 (sr [qo .mv [.const (.fn 200 [])]] [(7,0)]
(sr [qe 7,
qfe 2 3,
qd 1 0,
qkk 69 2 0,
qo .strb [.loc 0],
ql 0] [(4,0)]
(.ret))) (.skip))))))
(sr [qde 3 2,
qfe 3 3,
qd 1 0,
qfe 4 3,
qd 1 0,
qo (.call 171) [.loc 4,.loc 2,.loc 0],
ql 0,
qx 0 0,
qx 1 1,
ql 1,
ql 1] [(8,1)]
(sr [qde 3 5,
qe 8,
qfe 0 2,
qd 1 0,
qo (.build [.str ⟨#[]⟩,.str ⟨#[]⟩,.int .u8 0,.str ⟨#[]⟩,.bool false,.Vu,.bool false,.int .i64 0,.int .i64 0] [(0,3),(3,1),(4,1)]) [.loc 3,.loc 2,.loc 0],
qo (.box 256 9) [.loc 0],
ql 0] [(9,0)]
(sr [qe 9,
qk 201 0,
ql 0] [(4,0)]
(.ret))))))),
[.tmp 4]⟩
theorem F174_low:Dw Tryz.prog (KD [] [2,3]) [0,1,2,3,4,5,6,7,8,10,16,36] Tryz.f174=some F174:=by as_aux_lemma=>kernel_rfl
def F175:Va:=⟨[0,2,3,6],1,
sr [qi 0] [(1,0)]
(.seq (.block 0 (sr [qe 0,
qo (.bin .lss) [.loc 0,qki 0],
ql 0] [(2,0)]
(cn 2 (sr [qi 1] [(1,0)]
(.ret)) (sr [qe 0,
qo (.bin .gtr) [.loc 0,qki 1048576],
ql 0] [(3,0)]
(cn 3 (sr [qi 3] [(1,0)]
(.ret)) (.skip))))))
(sr [qi 0] [(1,0)]
(.ret))),
[.tmp 1]⟩
theorem F175_low:LK [0,2,3,6] Tryz.f175=some F175:=by as_aux_lemma=>kernel_rfl
def F180:Va:=⟨[0,1,4],2,
sr [qbb false] [(2,0)]
(sr [qe 0,
qe 1,
qkk 206 1 0,
qo (.bin .geq) [.loc 0,qki 0],
ql 0] [(2,0)]
(.ret)),
[.tmp 2]⟩
theorem F180_low:LK [0,1,4] Tryz.f180=some F180:=by as_aux_lemma=>kernel_rfl
def F186:Va:=⟨[0,2,3,4,5,6,7,8,9,10,11,12,16,37,53,60,66,91,98],1,
sr [qno] [(1,0)]
(sr [qi 0] [(2,0)]
(sr [qi 1] [(3,0)]
(sr [qby 0] [(4,0)]
(.seq (sr [qi 0] [(5,0)]
(.block 0 (.loop (.seq (sr [qe 5,
qe 0,
qln true 0,
ql2 2 0] [(12,0)]
(cn 12 (.skip) (.exit 0)))
(.seq (.block 1 (sr [qe 0,
qe 5,
qo .index [.loc 1,.loc 0],
ql 0] [(6,0)]
(sr [qe 4,
qe 6,
qo (.bin .or) [.loc 1,.loc 0],
ql 0] [(4,0)]
(sr [qe 6,
qo (.aaddr 1 256) [.const (.Vw tb1 0),.loc 0],
qd 1 0,
qo (.conv .i64) [.loc 0],
ql 0] [(7,0)]
(sr [qe 2,
qe 3,
qe 7,
qo (.un .xor) [.loc 0],
qo (.bin .and) [.loc 2,.loc 0],
qa2 4 0,
ql 0] [(2,0)]
(rg [qe 7,
ql 0] [(3,0)]))))))
(rg [qe 5,
qad 0 1,
ql 0] [(5,0)]))))))
(.seq (sr [qe 4,
qo (.bin .geq) [.loc 0,qkb 128]] [(13,0)]
(cn 13 (sr [qe 0,
qo (.call 211) [.loc 0,.const (.fn 212 [])],
ql 0] [(1,0)]
(.ret)) (.skip)))
(sr [qe 2,
qo (.mkslice 9 1 16 [.str ⟨#[]⟩] 2) [.loc 0,.loc 0],
ql 0] [(8,0)]
(sr [qi 0] [(9,0)]
(sr [qi 0] [(10,0)]
(sr [qi 0] [(11,0)]
(.seq (.block 2 (.loop (.seq (sr [qe 11,
qe 0,
qln true 0,
ql2 2 0,
ql 0,
qge 0 0 true,
qge 11 1 true,
qg .index [.loc 1,.loc 0] 2 true,
qg (.aaddr 1 256) [.const (.Vw tb1 0),.loc 0] 3 true,
qgd 1 0 4 true,
qg (.bin .neq) [.loc 0,qkb 0] 5 true,
qpf 6 0] [(14,0)]
(cn 14 (.skip) (.exit 2)))
(.block 3 (rg [qe 11,
qad 0 1,
ql 0] [(11,0)])))))
(sr [qe 11,
ql 0] [(10,0)]
(.seq (.block 4 (.loop (.seq (sr [qe 11,
qe 0,
qln true 0,
ql2 2 0] [(15,0)]
(cn 15 (.skip) (.exit 4)))
(.block 5 (.seq (sr [qe 0,
qe 11,
qo .index [.loc 1,.loc 0],
qo (.aaddr 1 256) [.const (.Vw tb1 0),.loc 0],
qd 1 0,
qo (.bin .eql) [.loc 0,qkb 0]] [(16,0)]
(cn 16 (sr [qe 11,
qad 0 1,
ql 0] [(11,0)]
(.exit 5)) (.skip)))
(sr [qe 8,
qe 9,
qe 0,
qe 10,
qe 11,
qo (.slice true 0 true true false) [.loc 2,.loc 1,.loc 0],
qia 1 5 4,
qso 1 0 1] []
(sr [qe 9,
qad 0 1,
ql 0] [(9,0)]
(sr [qe 11,
qad 0 1,
ql 0] [(11,0)]
(.seq (.block 6 (.loop (.seq (sr [qe 11,
qe 0,
qln true 0,
ql2 2 0,
ql 0,
qge 0 0 true,
qge 11 1 true,
qg .index [.loc 1,.loc 0] 2 true,
qg (.aaddr 1 256) [.const (.Vw tb1 0),.loc 0] 3 true,
qgd 1 0 4 true,
qg (.bin .neq) [.loc 0,qkb 0] 5 true,
qpf 6 0] [(17,0)]
(cn 17 (.skip) (.exit 6)))
(.block 7 (rg [qe 11,
qad 0 1,
ql 0] [(11,0)])))))
(rg [qe 11,
ql 0] [(10,0)]))))))))))
(.seq (sr [qe 10,
qe 0,
qln true 0,
ql2 2 0] [(18,0)]
(cn 18 (rg [qe 8,
qe 9,
qe 0,
qe 10,
qo (.slice true 0 true false false) [.loc 1,.loc 0],
qia 1 4 3,
qso 1 0 1] []) (.skip)))
(sr [qe 8,
ql 0] [(1,0)]
(.ret))))))))))))))),
[.tmp 1]⟩
theorem F186_low:Dw Tryz.prog (KD [9] []) [0,2,3,4,5,6,7,8,9,10,11,12,16,37,53,60,66,91,98] Tryz.f186=some F186:=by as_aux_lemma=>kernel_rfl
def F197:Va:=⟨[0],0,
sr [qo .mv [.const (.nilm)]] [(0,0)]
(sr [qo .mkmap [],
qo (.build [.nilfn,.nilfn] [(0,1),(1,1)]) [.const (.fn 217 []),.const (.fn 218 [])],
qo (.mapset 0) [.loc 1,qki 0,.loc 0],
qo (.build [.nilfn,.nilfn] [(0,1),(1,1)]) [.const (.fn 219 []),.const (.fn 220 [])],
qo (.mapset 0) [.loc 3,qki 1,.loc 0],
qo (.build [.nilfn,.nilfn] [(0,1),(1,1)]) [.const (.fn 221 []),.const (.fn 222 [])],
qo (.mapset 0) [.loc 5,qki 2,.loc 0],
qo (.build [.nilfn,.nilfn] [(0,1),(1,1)]) [.const (.fn 223 []),.const (.fn 224 [])],
qo (.mapset 0) [.loc 7,qki 3,.loc 0],
ql 8,
ql 0] [(0,0)]
(.ret)),
[.tmp 0]⟩
theorem F197_low:LK [0] Tryz.f197=some F197:=by as_aux_lemma=>kernel_rfl
def F198:Va:=⟨[0,1,2,3,5,6,7,9,13,14,15,16,26,33,34,35,36,45],1,
sr [qo (.boxc 11) [.env 0],
qo (.alloc 252 [.str ⟨#[]⟩,.str ⟨#[]⟩,.int .u8 0]) []] [(1,1),(2,0)]
(sr [qfe 2 1,
qd 1 0,
qo (.build [.str ⟨#[]⟩,.str ⟨#[]⟩,.int .u8 0] [(0,1)]) [.loc 0],
qo (.alloc 252 [.str ⟨#[]⟩,.str ⟨#[]⟩,.int .u8 0]) [],
qso 3 0 1] [(3,1)]
(.seq (sr [qo (.Vr 9 1 2 [.str ⟨#[]⟩] [0,1] 1) [.const (.str ⟨#[67,82]⟩),.const (.str ⟨#[68,66]⟩)],
qln false 0,
qi 0] [(8,2),(9,1),(10,0)]
(.block 0 (.loop (sr [qlt 10 9] [(11,0)]
(.seq (cn 11 (.skip) (.exit 0))
(.seq (.block 1 (sr [qo (.Vs 1) [.env 8,.env 10],
qd 1 0,
ql 0] [(4,0)]
(sr [qfe 2 1,
qd 1 0,
qe 4,
qkk 68 1 0,
ql 0,
qx 0 0,
qx 1 1,
ql 1,
ql 1] [(5,1),(6,0)]
(sr [qe 6] [(12,0)]
(cn 12 (rg [qe 5,
qe 4,
qfe 0 3,
qso 1 0 2,
qfe 1 3,
qso 1 0 3] []) (.skip))))))
(rg [qae 10 1,
ql 0] [(10,0)])))))))
(.seq (sr [qo (.Vr 5 1 3 [.int .u8 0] [0,1,2] 2) [qkb 36,qkb 43,qkb 45],
qo .strsh [.loc 0],
qln false 0,
qi 0] [(13,2),(14,1),(15,0)]
(.block 2 (.loop (sr [qlt 15 14] [(16,0)]
(.seq (cn 16 (.skip) (.exit 2))
(.seq (.block 3 (sr [qo (.Vs 1) [.env 13,.env 15],
qd 1 0,
ql 0] [(7,0)]
(sr [qfe 0 3,
qd 1 0,
qe 7,
qo (.Vr 5 1 1 [.int .u8 0] [0] 1) [.loc 0],
qo .bstr [.loc 0],
qkk 44 3 0,
qo (.bin .gtr) [.loc 0,qki 1]] [(17,0)]
(cn 17 (rg [qe 7,
qfe 2 3,
qso 1 0 1] []) (.skip)))))
(rg [qae 15 1,
ql 0] [(15,0)])))))))
(sr [qde 3 3,
qs2 3 2 0] []
(.ret))))),
[.cell 2 3 true]⟩
theorem F198_low:Dw Tryz.prog (KD [] [1]) [0,1,2,3,5,6,7,9,13,14,15,16,26,33,34,35,36,45] Tryz.f198=some F198:=by as_aux_lemma=>kernel_rfl
def F199:Va:=⟨[0,1,2,4,5,6,9,10,11,25],2,
sr [qo (.boxc 3) [.env 0],
qbb false] [(2,1),(3,0)]
(.seq (sr [qfe 0 2,
qd 1 0,
qln true 0,
qi 0] [(6,1),(7,0)]
(.block 0 (.loop (sr [qlt 7 6] [(8,0)]
(.seq (cn 8 (.skip) (.exit 0))
(.seq (.block 1 (sr [qe 7,
ql 0] [(4,0)]
(sr [qfe 0 2,
qd 1 0,
qe 4,
qo .index [.loc 1,.loc 0],
ql 0] [(5,0)]
(sr [qde 3 2,
qe 5,
qkk 225 1 0,
ql 0,
qge 1 0 true,
qge 5 1 true,
qg (.call 99) [.loc 1,.loc 0] 2 true,
qg (.bin .lss) [.loc 0,qki 0] 3 true,
qpf 4 0] [(9,0)]
(cn 9 (sr [qbb false] [(3,0)]
(.ret)) (.skip))))))
(rg [qae 7 1,
ql 0] [(7,0)])))))))
(sr [qbb true] [(3,0)]
(.ret))),
[.tmp 3]⟩
theorem F199_low:Dw Tryz.prog (KD [] [2]) [0,1,2,4,5,6,9,10,11,25] Tryz.f199=some F199:=by as_aux_lemma=>kernel_rfl
def F201:Va:=⟨[0,2,3,4,5,14,15,16,38,48,54,76,105],1,
sr [qno] [(1,0)]
(sr [qe 0,
qnl 0,
qfl 8 0,
qo (.store 1) [.loc 0,.const (.int .i64 (-1))]] []
(.seq (sr [qe 0,
qnl 0,
qfl 0 0,
qfl 0 0,
qd 1 0,
qln true 0,
qi 0] [(5,1),(6,0)]
(.block 0 (.loop (sr [qlt 6 5] [(7,0)]
(.seq (cn 7 (.skip) (.exit 0))
(.seq (.block 1 (sr [qe 6,
ql 0] [(2,0)]
(sr [qe 0,
qnl 0,
qfl 0 0,
qfl 0 0,
qd 1 0,
qe 2,
qo .index [.loc 1,.loc 0],
ql 0] [(3,0)]
(.block 2 (sr [qe 0,
qnl 0,
qfl 0 0,
qdt 3 0,
qe 3,
qkk 225 1 0,
ql 0] [(8,0)]
(cn 8 (rg [qe 0,
qe 3,
qkk 226 1 0] []) (sr [qe 3,
qo (.bin .eql) [.loc 0,qkb 86],
ql 0] [(9,0)]
(cn 9 (rg [qe 0,
qnl 0,
qfl 7 0,
qo (.store 1) [.loc 0,qki 2]] []) (sr [qe 3,
qo (.bin .eql) [.loc 0,qkb 46],
ql 0] [(10,0)]
(cn 10 (sr [qe 0,
qnl 0,
qfl 7 0,
qo (.store 1) [.loc 0,qki 2]] []
(rg [qe 0,
qe 3,
qo (.call 227) [.loc 1,.loc 0,.const (.bool false)]] [])) (.drawn [qe 0,
qwe 3 0 1,
qwe 0 0 2,
qwk 0 4 3,
qwf 4 0 12 4,
qwd 1 0 28 5,
qw (.call 179) [.loc 4,.loc 0] 62 6,
qwe 0 0 7,
qwk 0 128 8,
qwf 7 0 384 9,
qwd 1 0 896 10,
qw (.bin .eql) [.loc 0,qki 1] 1920 11,
qw (.call 227) [.loc 11,.loc 5,.loc 0] 4095 12] [] [])))))))))))
(rg [qae 6 1,
ql 0] [(6,0)])))))))
(.seq (sr [qe 0,
qnl 0,
qfl 0 0,
qfl 2 0,
qd 1 0,
qo (.bin .neq) [.loc 0,qkb 0],
ql 0,
qge 0 0 true,
qg .nilck [.loc 0] 1 true,
qg (.Vt 8) [.loc 0] 2 true,
qgd 1 0 3 true,
qg (.bin .geq) [.loc 0,qki 0] 4 true,
qpf 5 0] [(11,0)]
(cn 11 (.drawn [qe 0,
qwk 0 1 1,
qwf 5 0 3 2,
qwd 1 0 7 3,
qwe 0 0 4,
qwk 0 16 5,
qwf 8 0 48 6,
qwd 1 0 112 7,
qwe 0 0 8,
qwk 0 256 9,
qwf 0 0 768 10,
qwf 2 0 1792 11,
qwd 1 0 3840 12,
qwe 0 0 13,
qwk 0 8192 14,
qwf 4 0 24576 15,
qwd 1 0 57344 16,
qw (.call 179) [.loc 4,.loc 0] 130816 17,
qw (.Vs 1) [.loc 14,.loc 10] 262143 18,
qw (.store 1) [.loc 0,.loc 1] 524287 19] [] []) (.skip)))
(sr [qe 0,
qnl 0,
qfl 0 0,
qfl 1 0,
qd 1 0,
ql 0] [(4,0)]
(.seq (sr [qe 0,
qnl 0,
qfl 4 0,
qd 1 0,
qun 0] [(12,0)]
(cn 12 (rg [qe 4,
qln true 0,
qo (.call 58) [.const (.str ⟨#[32]⟩),.loc 0],
ql 0] [(4,0)]) (.skip)))
(sr [qe 0,
qnl 0,
qfl 5 0,
qd 1 0,
qe 4,
qo (.appstr 5 1 2) [.loc 1,.loc 0],
ql 0] [(1,0)]
(.ret))))))),
[.tmp 1]⟩
theorem F201_low:Dw Tryz.prog (KD [5] []) [0,2,3,4,5,14,15,16,38,48,54,76,105] Tryz.f201=some F201:=by as_aux_lemma=>kernel_rfl
def F206:Va:=⟨[0,1,4,5,7,8,9,16],2,
sr [qi 0] [(2,0)]
(.seq (sr [qe 0,
qln false 0,
qi 0] [(4,1),(5,0)]
(.block 0 (.loop (sr [qlt 5 4] [(6,0)]
(.seq (cn 6 (.skip) (.exit 0))
(.seq (.block 1 (sr [qe 5,
ql 0] [(3,0)]
(sr [qe 1,
qe 0,
qe 3,
qia 1 1 0,
qd 1 0,
qo (.bin .eql) [.loc 4,.loc 0]] [(7,0)]
(cn 7 (sr [qe 3,
ql 0] [(2,0)]
(.ret)) (.skip)))))
(rg [qae 5 1,
ql 0] [(5,0)])))))))
(sr [qi (-1)] [(2,0)]
(.ret))),
[.tmp 2]⟩
theorem F206_low:LK [0,1,4,5,7,8,9,16] Tryz.f206=some F206:=by as_aux_lemma=>kernel_rfl
def F218:Va:=⟨[0,1,2,3,4,5,6,7,14,16],2,
sr [qo (.boxc 11) [.env 0],
qo (.boxc 2) [.env 1],
qno] [(2,2),(3,1),(4,0)]
(sr [qfe 1 3,
qd 1 0,
qo .strb [.loc 0],
ql 0] [(5,0)]
(.seq (sr [qde 11 2,
qk 232 0,
ql 0] [(6,0)]
(sr [qfe 5 2,
qd 1 0] [(8,0)]
(cn 8 (sr [qo .mv [.const (.str ⟨#[123,65,66,67,68,69,70,71,72,73]⟩)]] [(7,0)]
(.seq (sr [qfe 0 3,
qd 1 0] [(9,0)]
(cn 9 (rg [qo .mv [.const (.str ⟨#[125,74,75,76,77,78,79,80,81,82]⟩)]] [(7,0)]) (.skip)))
(rg [qe 5,
qe 6,
qe 7,
qe 5,
qe 6,
qia 1 1 0,
qd 1 0,
qo (.bin .sub) [.loc 0,qkb 48],
qo .index [.loc 5,.loc 0],
qia 1 8 7,
qso 1 0 1] []))) (.skip))))
(sr [qe 5,
ql 0] [(4,0)]
(.ret)))),
[.tmp 4]⟩
theorem F218_low:Dw Tryz.prog (KD [5] [2,3]) [0,1,2,3,4,5,6,7,14,16] Tryz.f218=some F218:=by as_aux_lemma=>kernel_rfl
def F225:Va:=⟨[0,1,2,4],2,
sr [qo (.boxc 3) [.env 0],
qbb false] [(2,1),(3,0)]
(sr [qe 1,
qo (.bin .eql) [.loc 0,qkb 57],
ql 0,
qge 1 0 false,
qg (.bin .eql) [.loc 0,qkb 90] 1 false,
qpt 2 0,
ql 0,
qge 1 0 false,
qg (.bin .eql) [.loc 0,qkb 42] 1 false,
qpt 2 0,
ql 0,
qge 1 0 false,
qg (.Vt 2) [.env 2] 1 false,
qgd 1 0 2 false,
qg (.bin .eql) [.loc 2,.loc 0] 3 false,
qpt 4 0,
ql 0] [(3,0)]
(.ret)),
[.tmp 3]⟩
theorem F225_low:Dw Tryz.prog (KD [] [2]) [0,1,2,4] Tryz.f225=some F225:=by as_aux_lemma=>kernel_rfl
def U3:Va:=⟨[0,1,4,13,30,55],2,
.seq (sr [qe 0,
qnl 0,
qfl 7 0,
qd 1 0,
qo (.bin .eql) [.loc 0,qki 0],
ql 0,
qge 1 0 true,
qg (.bin .neq) [.loc 0,qkb 57] 1 true,
qpf 2 0] [(3,0)]
(cn 3 (rg [qe 0,
qnl 0,
qfl 7 0,
qo (.store 1) [.loc 0,qki 1]] []) (.skip)))
(.seq (sr [qe 1,
qe 0,
qnl 0,
qfl 0 0,
qfl 2 0,
qd 1 0,
qo (.bin .eql) [.loc 5,.loc 0],
ql 0,
qge 0 0 true,
qg .nilck [.loc 0] 1 true,
qg (.Vt 6) [.loc 0] 2 true,
qgd 1 0 3 true,
qg (.un .not) [.loc 0] 4 true,
qpf 5 0] [(4,0)]
(cn 4 (sr [qe 0,
qnl 0,
qfl 6 0,
qo (.store 1) [.loc 0,.const (.bool true)]] []
(sr [qe 0,
qe 1,
qo (.call 227) [.loc 1,.loc 0,.const (.bool true)]] []
(.ret))) (.skip)))
(sr [qe 0,
qnl 0,
qfl 3 0,
qd 1 0,
qo .index [.loc 0,qki 0],
ql 0] [(2,0)]
(sr [qe 0,
qe 0,
qnl 0,
qfl 3 0,
qd 1 0,
qo (.slice true 0 true false false) [.loc 0,qki 1],
qnl 5,
qfl 3 0,
qso 1 0 2] []
(.seq (sr [qe 1,
qo (.bin .eql) [.loc 0,qkb 57],
ql 0,
qge 2 0 false,
qg (.bin .neq) [.loc 0,qkb 48] 1 false,
qpt 2 0] [(5,0)]
(cn 5 (rg [qe 0,
qnl 0,
qfl 7 0,
qo (.store 1) [.loc 0,qki 2]] []) (.skip)))
(rg [qe 0,
qe 2,
qe 0,
qnl 0,
qfl 7 0,
qd 1 0,
qo (.bin .eql) [.loc 0,qki 1],
qo (.call 227) [.loc 6,.loc 5,.loc 0]] []))))),
[]⟩
theorem F226_low:LK [0,1,4,13,30,55] Tryz.f226=some U3:=by as_aux_lemma=>kernel_rfl
def F227:Va:=⟨[0,1,2,6],3,
.seq (sr [qe 2] [(3,0)]
(cn 3 (.drawn [qe 0,
qwe 0 0 1,
qw (.call 233) [.loc 0] 2 2,
qwe 0 0 3,
qwk 0 8 4,
qwf 5 0 24 5,
qwd 1 0 56 6,
qw (.len false) [.loc 0] 120 7,
qwl 5 6 8,
qwk 8 511 9,
qwf 8 0 1023 10,
qw (.store 1) [.loc 0,.loc 3] 2047 11] [(1,3)] []) (.skip)))
(rg [qe 0,
qe 0,
qnl 0,
qfl 5 0,
qd 1 0,
qe 1,
qo (.Vr 5 1 1 [.int .u8 0] [0] 1) [.loc 0],
qo (.append 5 1 1 1) [.loc 2,.loc 0],
qnl 7,
qfl 5 0,
qso 1 0 2] []),
[]⟩
theorem F227_low:Dw Tryz.prog (KD [] [23]) [0,1,2,6] Tryz.f227=some F227:=by as_aux_lemma=>kernel_rfl
def F232:Va:=⟨[0,1,2,4],1,
sr [qo (.boxc 11) [.env 0],
qi 0] [(1,1),(2,0)]
(.seq (sr [qfe 6 1,
qd 1 0] [(3,0)]
(cn 3 (sr [qi 0] [(2,0)]
(.ret)) (.skip)))
(sr [qfe 3 1,
qd 1 0,
qo (.bin .sub) [.loc 0,qki 1],
ql 0] [(2,0)]
(.ret))),
[.tmp 2]⟩
theorem F232_low:Dw Tryz.prog (KD [] [1]) [0,1,2,4] Tryz.f232=some F232:=by as_aux_lemma=>kernel_rfl
def F233:Va:=⟨[0,2,8],1,
sr [qby 0] [(1,0)]
(.seq (sr [qe 0,
qnl 0,
qfl 0 0,
qfl 0 0,
qd 1 0,
qo (.call 237) [.loc 0,.const (.str ⟨#[42]⟩)]] [(2,0)]
(cn 2 (sr [qby 42] [(1,0)]
(.ret)) (.skip)))
(sr [qby 32] [(1,0)]
(.ret))),
[.tmp 1]⟩
theorem F233_low:LK [0,2,8] Tryz.f233=some F233:=by as_aux_lemma=>kernel_rfl
def F237:Va:=⟨[0,1,4],2,
sr [qbb false] [(2,0)]
(sr [qe 0,
qe 1,
qkk 77 1 0,
qo (.bin .geq) [.loc 0,qki 0],
ql 0] [(2,0)]
(.ret)),
[.tmp 2]⟩
theorem F237_low:LK [0,1,4] Tryz.f237=some F237:=by as_aux_lemma=>kernel_rfl
def FD26:Va:=⟨[0,1,2,3,4,7,14],2,
sr [qo .mv [.const (.nili)]] [(2,0)]
(sr [qe 2,
qo (.eqnil true 4) [.loc 0,.const (.nili)]] [(5,0)]
(cn 5 (sr [qe 2,
qo (.tass 31 (.agg [.int .i64 0,.int .i64 0,.int .i64 0]) true) [.loc 0],
ql 0,
qx 0 0,
qx 1 1,
qo (.alloc 31 [.int .i64 0,.int .i64 0,.int .i64 0]) [],
qso 3 0 2,
ql 2] [(3,2),(4,0)]
(.seq (sr [qe 4,
qun 0] [(6,0)]
(cn 6 (rg [qe 2,
qo .fail []] []) (.skip)))
(.drawn [qde 3 3,
qw (.store 1) [.env 0,.const (.Vu)] 0 1,
qw (.store 3) [.env 1,.loc 1] 3 2] [] []))) (.skip))),
[]⟩
theorem FD26_low:lowFnD Tryz.prog (KD [] []) [0,1,2,3,4,7,14] Tryz.f26=some FD26:=by as_aux_lemma=>kernel_rfl
def fnOf:FuncId→Option Va
  | 6=>some F6
  | 8=>some F8
  | 9=>some F9
  | 10=>some F10
  | 12=>some F12
  | 13=>some F13
  | 14=>some F14
  | 15=>some F15
  | 16=>some F16
  | 17=>some F17
  | 18=>some F18
  | 19=>some F19
  | 20=>some F20
  | 22=>some F22
  | 23=>some F23
  | 24=>some F24
  | 25=>some F25
  | 26=>some F26
  | 27=>some F27
  | 28=>some F28
  | 29=>some F29
  | 30=>some F30
  | 31=>some F31
  | 32=>some F32
  | 33=>some F33
  | 34=>some F34
  | 35=>some F35
  | 36=>some F36
  | 37=>some F37
  | 38=>some F38
  | 39=>some F39
  | 40=>some F40
  | 41=>some F41
  | 42=>some F42
  | 43=>some F43
  | 44=>some F44
  | 45=>some F45
  | 46=>some F46
  | 47=>some F47
  | 48=>some F48
  | 49=>some F49
  | 50=>some F50
  | 51=>some F51
  | 52=>some F52
  | 54=>some F54
  | 55=>some F55
  | 56=>some F56
  | 57=>some F57
  | 59=>some F59
  | 60=>some F60
  | 61=>some F61
  | 62=>some F62
  | 63=>some F63
  | 64=>some F64
  | 65=>some F65
  | 68=>some F68
  | 69=>some F69
  | 70=>some F70
  | 71=>some F71
  | 72=>some F72
  | 73=>some F73
  | 74=>some F74
  | 77=>some F77
  | 78=>some F78
  | 80=>some F80
  | 81=>some F81
  | 82=>some F82
  | 83=>some F83
  | 84=>some F84
  | 85=>some F85
  | 86=>some F86
  | 87=>some F87
  | 88=>some F88
  | 89=>some F89
  | 90=>some F90
  | 91=>some F91
  | 92=>some F92
  | 93=>some F93
  | 94=>some F94
  | 95=>some F95
  | 96=>some F96
  | 97=>some F97
  | 98=>some F98
  | 99=>some F99
  | 100=>some F100
  | 103=>some F103
  | 104=>some F104
  | 105=>some F105
  | 106=>some F106
  | 107=>some F107
  | 108=>some F108
  | 111=>some F111
  | 112=>some F112
  | 114=>some F114
  | 118=>some F118
  | 120=>some F120
  | 121=>some F121
  | 122=>some F122
  | 123=>some F123
  | 125=>some F125
  | 126=>some F126
  | 127=>some F127
  | 128=>some F128
  | 129=>some F129
  | 130=>some F130
  | 131=>some F131
  | 132=>some F132
  | 133=>some F133
  | 134=>some F134
  | 135=>some F135
  | 136=>some F136
  | 137=>some F137
  | 140=>some F140
  | 142=>some F142
  | 143=>some F143
  | 144=>some F144
  | 146=>some F146
  | 147=>some F147
  | 148=>some F148
  | 149=>some F149
  | 150=>some F150
  | 153=>some F153
  | 154=>some F154
  | 155=>some F155
  | 163=>some F163
  | 165=>some F165
  | 167=>some F167
  | 169=>some F169
  | 170=>some F170
  | 171=>some F171
  | 172=>some F172
  | 173=>some F173
  | 174=>some F174
  | 175=>some F175
  | 180=>some F180
  | 186=>some F186
  | 197=>some F197
  | 198=>some F198
  | 199=>some F199
  | 201=>some F201
  | 206=>some F206
  | 218=>some F218
  | 225=>some F225
  | 226=>some U3
  | 227=>some F227
  | 232=>some F232
  | 233=>some F233
  | 237=>some F237
  | _=>none
def dfnOf:FuncId→Option Va
  | 26=>some FD26
  | _=>none
def LP:Prg:={ fns:=fnOf,raw:=fun f=>f==45,pure:=fun f=>!(f==10||f==13||f==18||f==20||f==23||f==30||f==31||f==49||f==56||f==57),deep:=fun f=>false,ext:=LE,dfs:=fun f=>f==10,dfn:=dfnOf }
theorem fk{f:FuncId}{F G:Va}{fn:Func}{sl:List Nat}(h:some G=some F)(hf:Tryz.prog.funcs[f]?=some fn)(hl:LK sl fn=some G)(hn:H5 G.body=true):∃fn kd slots,Tryz.prog.funcs[f]?=some fn∧Dw Tryz.prog kd slots fn=some F∧(∀g row,kd.glob g=some row→GT g=some row)∧(LP.dfs f=true∨H5 F.body=true):=by
  injection h with h;subst h;exact⟨fn,_,_,hf,hl,fun _ _ h=>h,.inr hn⟩
theorem fk1{f:FuncId}{F G:Va}{fn:Func}{sl:List Nat}{a b:List Nat}(h:some G=some F)(hf:Tryz.prog.funcs[f]?=some fn)(hl:Dw Tryz.prog (KD a b) sl fn=some G)(hn:H5 G.body=true):∃fn kd slots,Tryz.prog.funcs[f]?=some fn∧Dw Tryz.prog kd slots fn=some F∧(∀g row,kd.glob g=some row→GT g=some row)∧(LP.dfs f=true∨H5 F.body=true):=by
  injection h with h;subst h;exact⟨fn,_,_,hf,hl,fun _ _ h=>h,.inr hn⟩
theorem LP_fns:FnsOK Tryz.prog GT LP:=by
  intro f F h
  have h':fnOf f=some F:=h
  unfold fnOf at h'
  split at h'
  · exact fk1 h' Tryz.func6 F6_low rfl
  · exact fk h' Tryz.func8 F8_low rfl
  · exact fk1 h' Tryz.func9 F9_low rfl
  · injection h' with h';subst h';exact⟨Tryz.f10,_,_,Tryz.func10,F10_low,fun _ _ h=>h,.inl rfl⟩
  · exact fk h' Tryz.func12 F12_low rfl
  · exact fk h' Tryz.func13 F13_low rfl
  · exact fk h' Tryz.func14 F14_low rfl
  · exact fk h' Tryz.func15 F15_low rfl
  · exact fk1 h' Tryz.func16 F16_low rfl
  · exact fk h' Tryz.func17 F17_low rfl
  · exact fk h' Tryz.func18 F18_low rfl
  · exact fk1 h' Tryz.func19 F19_low rfl
  · exact fk1 h' Tryz.func20 F20_low rfl
  · exact fk1 h' Tryz.func22 F22_low rfl
  · exact fk h' Tryz.func23 F23_low rfl
  · exact fk h' Tryz.func24 F24_low rfl
  · exact fk1 h' Tryz.func25 F25_low rfl
  · exact fk h' Tryz.func26 F26_low rfl
  · exact fk h' Tryz.func27 F27_low rfl
  · exact fk h' Tryz.func28 F28_low rfl
  · exact fk h' Tryz.func29 F29_low rfl
  · exact fk h' Tryz.func30 F30_low rfl
  · exact fk h' Tryz.func31 F31_low rfl
  · exact fk1 h' Tryz.func32 F32_low rfl
  · exact fk1 h' Tryz.func33 F33_low rfl
  · exact fk1 h' Tryz.func34 F34_low rfl
  · exact fk1 h' Tryz.func35 F35_low rfl
  · exact fk h' Tryz.func36 F36_low rfl
  · exact fk h' Tryz.func37 F37_low rfl
  · exact fk1 h' Tryz.func38 F38_low rfl
  · exact fk h' Tryz.func39 F39_low rfl
  · exact fk h' Tryz.func40 F40_low rfl
  · exact fk h' Tryz.func41 F41_low rfl
  · exact fk h' Tryz.func42 F42_low rfl
  · exact fk h' Tryz.func43 F43_low rfl
  · exact fk h' Tryz.func44 F44_low rfl
  · exact fk h' Tryz.func45 F45_low rfl
  · exact fk h' Tryz.func46 F46_low rfl
  · exact fk h' Tryz.func47 F47_low rfl
  · exact fk h' Tryz.func48 F48_low rfl
  · exact fk h' Tryz.func49 F49_low rfl
  · exact fk h' Tryz.func50 F50_low rfl
  · exact fk h' Tryz.func51 F51_low rfl
  · exact fk h' Tryz.func52 F52_low rfl
  · exact fk1 h' Tryz.func54 F54_low rfl
  · exact fk h' Tryz.func55 F55_low rfl
  · exact fk1 h' Tryz.func56 F56_low rfl
  · exact fk h' Tryz.func57 F57_low rfl
  · exact fk h' Tryz.func59 F59_low rfl
  · exact fk h' Tryz.func60 F60_low rfl
  · exact fk h' Tryz.func61 F61_low rfl
  · exact fk h' Tryz.func62 F62_low rfl
  · exact fk h' Tryz.func63 F63_low rfl
  · exact fk h' Tryz.func64 F64_low rfl
  · exact fk h' Tryz.func65 F65_low rfl
  · exact fk h' Tryz.func68 F68_low rfl
  · exact fk h' Tryz.func69 F69_low rfl
  · exact fk h' Tryz.func70 F70_low rfl
  · exact fk h' Tryz.func71 F71_low rfl
  · exact fk h' Tryz.func72 F72_low rfl
  · exact fk h' Tryz.func73 F73_low rfl
  · exact fk h' Tryz.func74 F74_low rfl
  · exact fk h' Tryz.func77 F77_low rfl
  · exact fk h' Tryz.func78 F78_low rfl
  · exact fk h' Tryz.func80 F80_low rfl
  · exact fk h' Tryz.func81 F81_low rfl
  · exact fk h' Tryz.func82 F82_low rfl
  · exact fk h' Tryz.func83 F83_low rfl
  · exact fk h' Tryz.func84 F84_low rfl
  · exact fk h' Tryz.func85 F85_low rfl
  · exact fk1 h' Tryz.func86 F86_low rfl
  · exact fk1 h' Tryz.func87 F87_low rfl
  · exact fk h' Tryz.func88 F88_low rfl
  · exact fk h' Tryz.func89 F89_low rfl
  · exact fk h' Tryz.func90 F90_low rfl
  · exact fk h' Tryz.func91 F91_low rfl
  · exact fk h' Tryz.func92 F92_low rfl
  · exact fk h' Tryz.func93 F93_low rfl
  · exact fk h' Tryz.func94 F94_low rfl
  · exact fk h' Tryz.func95 F95_low rfl
  · exact fk1 h' Tryz.func96 F96_low rfl
  · exact fk h' Tryz.func97 F97_low rfl
  · exact fk h' Tryz.func98 F98_low rfl
  · exact fk h' Tryz.func99 F99_low rfl
  · exact fk h' Tryz.func100 F100_low rfl
  · exact fk h' Tryz.func103 F103_low rfl
  · exact fk h' Tryz.func104 F104_low rfl
  · exact fk h' Tryz.func105 F105_low rfl
  · exact fk h' Tryz.func106 F106_low rfl
  · exact fk h' Tryz.func107 F107_low rfl
  · exact fk h' Tryz.func108 F108_low rfl
  · exact fk h' Tryz.func111 F111_low rfl
  · exact fk h' Tryz.func112 F112_low rfl
  · exact fk h' Tryz.func114 F114_low rfl
  · exact fk h' Tryz.func118 F118_low rfl
  · exact fk h' Tryz.func120 F120_low rfl
  · exact fk h' Tryz.func121 F121_low rfl
  · exact fk h' Tryz.func122 F122_low rfl
  · exact fk h' Tryz.func123 F123_low rfl
  · exact fk h' Tryz.func125 F125_low rfl
  · exact fk h' Tryz.func126 F126_low rfl
  · exact fk h' Tryz.func127 F127_low rfl
  · exact fk h' Tryz.func128 F128_low rfl
  · exact fk1 h' Tryz.func129 F129_low rfl
  · exact fk1 h' Tryz.func130 F130_low rfl
  · exact fk1 h' Tryz.func131 F131_low rfl
  · exact fk1 h' Tryz.func132 F132_low rfl
  · exact fk1 h' Tryz.func133 F133_low rfl
  · exact fk1 h' Tryz.func134 F134_low rfl
  · exact fk1 h' Tryz.func135 F135_low rfl
  · exact fk1 h' Tryz.func136 F136_low rfl
  · exact fk1 h' Tryz.func137 F137_low rfl
  · exact fk1 h' Tryz.func140 F140_low rfl
  · exact fk h' Tryz.func142 F142_low rfl
  · exact fk h' Tryz.func143 F143_low rfl
  · exact fk h' Tryz.func144 F144_low rfl
  · exact fk h' Tryz.func146 F146_low rfl
  · exact fk h' Tryz.func147 F147_low rfl
  · exact fk h' Tryz.func148 F148_low rfl
  · exact fk h' Tryz.func149 F149_low rfl
  · exact fk h' Tryz.func150 F150_low rfl
  · exact fk h' Tryz.func153 F153_low rfl
  · exact fk h' Tryz.func154 F154_low rfl
  · exact fk h' Tryz.func155 F155_low rfl
  · exact fk h' Tryz.func163 F163_low rfl
  · exact fk1 h' Tryz.func165 F165_low rfl
  · exact fk h' Tryz.func167 F167_low rfl
  · exact fk1 h' Tryz.func169 F169_low rfl
  · exact fk1 h' Tryz.func170 F170_low rfl
  · exact fk1 h' Tryz.func171 F171_low rfl
  · exact fk1 h' Tryz.func172 F172_low rfl
  · exact fk1 h' Tryz.func173 F173_low rfl
  · exact fk1 h' Tryz.func174 F174_low rfl
  · exact fk h' Tryz.func175 F175_low rfl
  · exact fk h' Tryz.func180 F180_low rfl
  · exact fk1 h' Tryz.func186 F186_low rfl
  · exact fk h' Tryz.func197 F197_low rfl
  · exact fk1 h' Tryz.func198 F198_low rfl
  · exact fk1 h' Tryz.func199 F199_low rfl
  · exact fk1 h' Tryz.func201 F201_low rfl
  · exact fk h' Tryz.func206 F206_low rfl
  · exact fk1 h' Tryz.func218 F218_low rfl
  · exact fk1 h' Tryz.func225 F225_low rfl
  · exact fk h' Tryz.func226 F226_low rfl
  · exact fk1 h' Tryz.func227 F227_low rfl
  · exact fk1 h' Tryz.func232 F232_low rfl
  · exact fk h' Tryz.func233 F233_low rfl
  · exact fk h' Tryz.func237 F237_low rfl
  simp at h'
theorem LP_dfn:DfnOK Tryz.prog GT LP:=by
  intro f F h
  have h':dfnOf f=some F:=h
  unfold dfnOf at h'
  split at h'
  · injection h' with h';subst h';exact⟨Tryz.f26,_,_,Tryz.func26,FD26_low,fun _ _ h=>h⟩
  simp at h'
theorem mixed:Tryz.prog.follows .mixedOrders=true:=by kernel_rfl
open Go.Shelf Go.RowKit
theorem repB_eq(s:ByteArray):∀c,Lib.repeatL s.data.toList c=repB s c
 | 0=>rfl
 | c+1=>by rw[Lib.repeatL,repB,repB_eq s c]
theorem extra:Builder.Extra Tryz.prog Tryz.laysRepeat_ren where
 sizeBuilder:=by kernel_rfl
 liesBuilder:=by kernel_rfl
 t5:=Tryz.laysRepeat.t5
 a5:=Tryz.laysRepeat.a5
 z5:=Tryz.laysRepeat.z5
 v5:=Tryz.laysRepeat.v5
 infoByte:=by kernel_rfl
 cellsByte:=by kernel_rfl
 sizeByte:=by kernel_rfl
 neB5:=by decide
theorem fRepeat:Tryz.laysRepeat_ren.f 105=58:=by kernel_rfl
theorem ext_ok:ExtOK Tryz.prog GT LE:=by
 intro f ds r h S w ρ vs hG hr hv
 unfold LE at h
 split at h
 ·
  rename_i s n
  split at h
  ·
   rename_i hc
   injection h with h
   subst h
   cases hv with
   | cons h1 hv =>
    cases h1
    cases hv with
    | cons h1 hv =>
     cases h1
     cases hv
     obtain⟨c,rfl⟩:∃c:Nat,n=c:=⟨n.toNat,by omega⟩
     simp only[Int.toNat_natCast]at hc ⊢
     have y7:=Any.strings_Repeat Tryz.laysRepeat extra s c w (by omega) hc.2.2
     rw[fRepeat]at y7
     refine⟨enters_of Tryz.func58 (by kernel_rfl) rfl _ w,y7.mono fun e w' ⟨he,hb⟩=>⟨_,he,below_post hr hb fun _ _=>?_⟩⟩
     rw[repB_eq]
     exact .str _
  cases h
 cases h
theorem LP_ok:PrgOK Tryz.prog GT LP:=⟨LP_fns,ext_ok,LP_dfn⟩
set_option linter.unusedSimpArgs false
def mkS (l:List UInt8):ByteArray:=⟨l.toArray⟩
theorem Cs(l:List UInt8):(mkS l).size=l.length:=by simp[mkS,ByteArray.size]
theorem size_data(b:ByteArray):b.size=b.data.toList.length:=rfl
theorem toList_go(b:ByteArray):∀(k i:Nat) (r:List UInt8),b.size-i=k→ByteArray.toList.loop b i r=r.reverse++b.data.toList.drop i
 | 0,i,r,h=>by
  rw[ByteArray.toList.loop,if_neg (by omega),List.drop_eq_nil_of_le (by rw[size_data]at h;omega)]
  simp
 | k+1,i,r,h=>by
  rw[ByteArray.toList.loop,if_pos (by omega),toList_go b k (i+1) _ (by omega)]
  have hi:i<b.data.toList.length:=by rw[size_data]at h;omega
  rw[List.drop_eq_getElem_cons hi]
  have yY:i<b.data.size:=hi
  simp[ByteArray.get!,getElem!_pos b.data i yY]
theorem Dy(l:List UInt8):(mkS l).toList=l:=by
 have:=toList_go (mkS l) _ 0 [] rfl
 simpa [ByteArray.toList,mkS] using this
theorem Jt(a b:List UInt8):mkS a++mkS b=mkS (a++b):=by
 apply ByteArray.ext
 simp[mkS,ByteArray.data_append]
theorem Tz(l:List UInt8)(a b:Nat):(mkS l).extract a b=mkS ((l.drop a).take (b-a)):=by
 apply ByteArray.ext
 apply Array.ext'
 simp only[mkS,ByteArray.data_extract,List.extract_toArray,List.extract_eq_take_drop]
theorem Dp(l:List UInt8)(i:Nat):(mkS l)[i]?=l[i]?:=by
 by_cases h:i<l.length
 ·
  rw[getElem?_pos (mkS l) i (by rw[Cs];exact h),getElem?_pos l i h]
  simp[mkS,ByteArray.getElem_eq_getElem_data]
 rw[getElem?_neg (mkS l) i (by rw[Cs];exact h),getElem?_neg l i h]
theorem Qy:(⟨#[]⟩:ByteArray)=mkS []:=rfl
theorem Er:(⟨#[]⟩:ByteArray).toList=[]:=Dy []
theorem zx:(type_of% @Dy)∧(type_of% @Er)∧(type_of% @Cs):=⟨@Dy,@Er,@Cs⟩
def bR (l:List UInt8):List (List D):=l.map fun b=>[.int .u8 b.toNat]
theorem Iz(l:List UInt8):(bR l).length=l.length:=by simp[bR]
theorem bR_at{l:List UInt8}{i:Nat}{b:UInt8}(h:l[i]?=some b):(bR l)[i]?=some [.int .u8 b.toNat]:=by simp[bR,h]
theorem Ms:∀l:List UInt8,bytesOf (bR l)=some l
 | []=>rfl
 | b::l=>by
  have:=Ms l
  simp only[bR,List.map_cons]at this ⊢
  simp only[bytesOf,this,Option.map_some,Int.toNat_natCast,UInt8.ofNat_toNat]
def Gi (c:UInt8):Bool:=decide (48≤c.toNat)&&decide (c.toNat≤57)
def digTab:List D:=(List.range 256).map fun i=>.bool (decide (48≤i)&&decide (i≤57))
theorem digTab_at(c:UInt8):digTab[c.toNat]?=some (.bool (Gi c)):=by
 have:c.toNat<256:=c.toNat_lt
 simp[digTab,Gi,this]
def M0 (l:List UInt8):List UInt8:=(l.reverse.dropWhile Gi).reverse
def trimD (l:List UInt8):List UInt8:=(M0 l).dropWhile Gi
theorem rtrim_snoc(l:List UInt8)(c:UInt8):M0 (l++[c])=if Gi c then M0 l else l++[c]:=by
 simp only[M0,List.reverse_append,List.reverse_cons,List.reverse_nil,List.nil_append,List.singleton_append,List.dropWhile_cons]
 split<;>simp
theorem I8{α:Type}{p:α→Bool}:∀{l:List α},l.dropWhile p=[]↔l.all p=true
 | []=>by simp
 | a :: l => by
  rw[List.dropWhile_cons]
  by_cases h:p a=true
  ·
   simp[h,I8 (l:=l)]
  simp[h]
theorem trimD_nil(l:List UInt8):(trimD l==[])=l.all Gi:=by
 rw[Bool.eq_iff_iff]
 simp only[beq_iff_eq,trimD]
 rw[I8]
 constructor
 ·
  intro h
  have h2:∀c∈l.reverse.dropWhile Gi,Gi c=true:=by
   intro c hc
   exact List.all_eq_true.1 h c (by simpa [M0] using hc)
  have h3:l.reverse.dropWhile Gi=[]:=by
   cases e:l.reverse.dropWhile Gi with
   | nil=>rfl
   | cons a r =>
    have h4:=List.head?_dropWhile_not Gi l.reverse
    rw[e]at h4 h2
    simp only[List.head?_cons]at h4
    rw[h2 a List.mem_cons_self]at h4
    simp at h4
  rw[I8]at h3
  simpa using h3
 intro h
 have:l.reverse.dropWhile Gi=[]:=by rw[I8];simpa using h
 simp[M0,this]
def Cv (l:List UInt8):List UInt8:=l.dropWhile (·==48)
def strip (l:List UInt8):List UInt8:=if Cv l=[] then [48] else Cv l
def nz (l:List UInt8):Bool:=Cv l != []
theorem Pm(l:List UInt8):Cv (Cv l)=Cv l:=by
 unfold Cv
 cases e:l.dropWhile (·==48) with
 | nil=>rfl
 | cons a r =>
  have h4:=List.head?_dropWhile_not (fun x:UInt8=>x==48) l
  rw[e]at h4
  simp only[List.head?_cons]at h4
  rw[List.dropWhile_cons,if_neg (by simpa using h4)]
theorem Ls(l:List UInt8):strip (strip l)=strip l:=by
 unfold strip
 by_cases h:Cv l=[]
 ·
  rw[if_pos h];rfl
 rw[if_neg h,Pm,if_neg h]
theorem Kl(l:List UInt8):∃k,l=List.replicate k 48++Cv l:=by
 induction l with
 | nil=>exact⟨0,rfl⟩
 | cons a l ih =>
  unfold Cv at ih ⊢
  rw[List.dropWhile_cons]
  by_cases h:(a==48)=true
  ·
   obtain⟨k,hk⟩:=ih
   rw[if_pos h]
   have:a=48:=by simpa using h
   refine⟨k+1,?_⟩
   rw[List.replicate_succ,List.cons_append,←hk,this]
  rw[if_neg h];exact⟨0,rfl⟩
theorem Ow(l:List UInt8)(h:l≠[]):(strip l).length≤l.length∧0<(strip l).length:=by
 unfold strip
 obtain⟨k,hk⟩:=Kl l
 have hl:=congrArg List.length hk
 simp at hl
 have:0<l.length:=List.length_pos_iff.2 h
 split
 ·
  simp;omega
 rename_i h0
 have:=List.length_pos_iff.2 h0
 omega
theorem strip_dig(l:List UInt8)(h:l.all Gi=true):(strip l).all Gi=true:=by
 unfold strip
 split
 ·
  rfl
 obtain⟨k,hk⟩:=Kl l
 rw[hk,List.all_append,Bool.and_eq_true]at h
 exact h.2
def pad (n:Nat) (l:List UInt8):List UInt8:=List.replicate (n-l.length) 48++l
def cmpL (a b:List UInt8):Int:=if Op.bytesLess a b then -1 else if Op.bytesLess a b||a==b then 0 else 1
section
variable {call:Bl} {vals env:List D} {S S':St} {K:List D→St→Prop} {os:List Vb} {l:LOp} {args:List Vd} {od:List Bool} {ho:Option Nat} {r:D} {wr:Bool} {n:Nat} {news:List (TypeId × List D)} {fps:List FP} {fp:FP} {Q:Vf→List D→St→Prop} {env':List D}
theorem xo0(h:OW call os (r::vals) env S' K)(hx:Ba call l (args.map (opd vals env)) S=some (r,S',wr):=by simp only[zo]<;>exact rfl):OW call (⟨l,args,none,od,ho⟩::os) vals env S K:=Ab hx h
theorem xo1(h:OW call os (r::vals) env S' K)(hx:Ba call l (args.map (opd vals env)) S=some (r,S',wr):=by simp only[zo,Bh]<;>exact rfl):OW call (⟨l,args,none,od,ho⟩::os) vals env S K:=Ab hx h
theorem xo2(h:OW call os (r::vals) env S' K)(hx:Ba call l (args.map (opd vals env)) S=some (r,S',wr):=by simp only[zo,E9,zm]<;>exact rfl):OW call (⟨l,args,none,od,ho⟩::os) vals env S K:=Ab hx h
theorem xo3(h:OW call os (r::vals) env S' K)(hx:Ba call l (args.map (opd vals env)) S=some (r,S',wr):=by simp only[zl,zm,zd,Be,List.take,List.drop]<;>exact rfl):OW call (⟨l,args,none,od,ho⟩::os) vals env S K:=Ab hx h
theorem xo4(h:OW call os (r::vals) env S' K)(hx:Ba call l (args.map (opd vals env)) S=some (r,S',wr):=by simp only[zo,Lz,Ls_]<;>exact rfl):OW call (⟨l,args,none,od,ho⟩::os) vals env S K:=Ab hx h
theorem xo5(h:OW call os (r::vals) env S' K)(hx:Ba call l (args.map (opd vals env)) S=some (r,S',wr):=by simp only[zo,F5,zm]<;>exact rfl):OW call (⟨l,args,none,od,ho⟩::os) vals env S K:=Ab hx h
theorem xo6(hl:l.loud=false)(hn:od.length=fps.length)(h:DW call n news os (Am::fps) (r::vals) env S' K)(hx:Ba call l (args.map (opd vals env)) S=some (r,S',wr):=by simp only[zo,E9,zm]<;>exact rfl):DW call n news (⟨l,args,none,od,none⟩::os) fps vals env S K:=Bp hx hl hn h
theorem xo7(h:OW call os (r::vals) env S' K)(hx:Ba call l (args.map (opd vals env)) S=some (r,S',wr):=by simp only[zo,Lz]<;>exact rfl):OW call (⟨l,args,none,od,ho⟩::os) vals env S K:=Ab hx h
theorem xo8(h:OW call os (r::vals) env S' K)(hx:Ba call l (args.map (opd vals env)) S=some (r,S',wr):=by simp only[zl,zm]<;>exact rfl):OW call (⟨l,args,none,od,ho⟩::os) vals env S K:=Ab hx h
theorem xo9(h:OW call os (r::vals) env S' K)(hx:Ba call l (args.map (opd vals env)) S=some (r,S',wr):=by simp only[zo,unD]<;>exact rfl):OW call (⟨l,args,none,od,ho⟩::os) vals env S K:=Ab hx h
theorem Iq(y9:Aw n news ⟨l,args,none,od,ho⟩ fps fp S'=true)(h:DW call n news os (fp::fps) (r::vals) env S' K)(hx:Ba call l (args.map (opd vals env)) S=some (r,S',wr):=by simp only[zl,zm,zd,Be,List.take,List.drop]<;>exact rfl)(hf:Bg n ⟨l,args,none,od,ho⟩ (args.map (opd vals env)) r wr=fp:=by simp only[Bg,zo,zq]<;>exact rfl):DW call n news (⟨l,args,none,od,ho⟩::os) fps vals env S K:=Ch hx hf y9 h
theorem Jj(h:OW call os (r::vals) env S' K)(hx:Ba call l (args.map (opd vals env)) S=some (r,S',wr):=by simp only[opd,zv,Ba,LOp.loud,aop,lop,if_true,zm,zc,zf,Bool.and_self,Nat.reduceAdd]<;>exact rfl):OW call (⟨l,args,none,od,ho⟩::os) vals env S K:=Ab hx h
theorem Ji(hl:l.loud=false)(hn:od.length=fps.length)(h:DW call n news os (Am::fps) (r::vals) env S' K)(hx:Ba call l (args.map (opd vals env)) S=some (r,S',wr):=by simp only[zo]<;>exact rfl):DW call n news (⟨l,args,none,od,none⟩::os) fps vals env S K:=Bp hx hl hn h
theorem Kn(h:OW call os (r::vals) env S' K)(hx:Ba call l (args.map (opd vals env)) S=some (r,S',wr):=by simp only[zl,zm,Cc,overlay,Bw,zs,zc,zf,List.take,List.drop]<;>exact rfl):OW call (⟨l,args,none,od,ho⟩::os) vals env S K:=Ab hx h
theorem Km(h:OW call os (r::vals) env S' K)(hx:Ba call l (args.map (opd vals env)) S=some (r,S',wr):=by simp only[zo,Eh,Cs]<;>exact rfl):OW call (⟨l,args,none,od,ho⟩::os) vals env S K:=Ab hx h
theorem Nb(h:OW call os (r::vals) env S' K)(hx:Ba call l (args.map (opd vals env)) S=some (r,S',wr):=by simp only[zo,J3]<;>exact rfl):OW call (⟨l,args,none,od,ho⟩::os) vals env S K:=Ab hx h
theorem Na(h:OW call os (r::vals) env S' K)(hx:Ba call l (args.map (opd vals env)) S=some (r,S',wr):=by simp only[zl,zm,zd,Be,List.take,List.drop,xQ]<;>exact rfl):OW call (⟨l,args,none,od,ho⟩::os) vals env S K:=Ab hx h
theorem Pp(h:OW call os (r::vals) env S' K)(hx:Ba call l (args.map (opd vals env)) S=some (r,S',wr):=by simp only[zl,zm,Ct,List.replicate,Al,zs,zc,zf]<;>exact rfl):OW call (⟨l,args,none,od,ho⟩::os) vals env S K:=Ab hx h
theorem Qj(h:OW call os (r::vals) env S' K)(hx:Ba call l (args.map (opd vals env)) S=some (r,S',wr):=by simp only[zo,Bh,yw]<;>exact rfl):OW call (⟨l,args,none,od,ho⟩::os) vals env S K:=Ab hx h
theorem Rq(h:OW call os (r::vals) env S' K)(hx:Ba call l (args.map (opd vals env)) S=some (r,S',wr):=by simp only[zl,zm,zc]<;>exact rfl):OW call (⟨l,args,none,od,ho⟩::os) vals env S K:=Ab hx h
theorem U0(y9:Aw n news ⟨l,args,none,od,ho⟩ fps fp S'=true)(h:DW call n news os (fp::fps) (r::vals) env S' K)(hx:Ba call l (args.map (opd vals env)) S=some (r,S',wr):=by simp only[zl,zm,Ct,List.replicate,Al,Bw,zs,zc,zf]<;>exact rfl)(hf:Bg n ⟨l,args,none,od,ho⟩ (args.map (opd vals env)) r wr=fp:=by simp only[Bg,zo,zq]<;>exact rfl):DW call n news (⟨l,args,none,od,ho⟩::os) fps vals env S K:=Ch hx hf y9 h
theorem Uz(h:OW call os (r::vals) env S' K)(hx:Ba call l (args.map (opd vals env)) S=some (r,S',wr):=by simp only[zo,Bh,FM.row]<;>exact rfl):OW call (⟨l,args,none,od,ho⟩::os) vals env S K:=Ab hx h
theorem xo22(hl:l.loud=false)(hn:od.length=fps.length)(h:DW call n news os (Am::fps) (r::vals) env S' K)(hx:Ba call l (args.map (opd vals env)) S=some (r,S',wr):=by simp only[zo,Lz,Ls_]<;>exact rfl):DW call n news (⟨l,args,none,od,none⟩::os) fps vals env S K:=Bp hx hl hn h
theorem xo23(h:OW call os (r::vals) env S' K)(hx:Ba call l (args.map (opd vals env)) S=some (r,S',wr):=by simp only[zl,zm,zd,Be,List.take,List.drop,zz5]<;>exact rfl):OW call (⟨l,args,none,od,ho⟩::os) vals env S K:=Ab hx h
theorem xo24(h:OW call os (r::vals) env S' K)(hx:Ba call l (args.map (opd vals env)) S=some (r,S',wr):=by simp only[zo,Hf,overlay,zc,List.take,List.drop,Nat.reduceAdd,Nat.reduceLeDiff,zm]<;>exact rfl):OW call (⟨l,args,none,od,ho⟩::os) vals env S K:=Ab hx h
theorem xo25(hl:l.loud=false)(hn:od.length=fps.length)(h:DW call n news os (Am::fps) (r::vals) env S' K)(hx:Ba call l (args.map (opd vals env)) S=some (r,S',wr):=by simp only[zo,Lz]<;>exact rfl):DW call n news (⟨l,args,none,od,none⟩::os) fps vals env S K:=Bp hx hl hn h
theorem xo26(h:OW call os (r::vals) env S' K)(hx:Ba call l (args.map (opd vals env)) S=some (r,S',wr):=by simp only[zl,zm,zd,Be,List.take,List.drop,zz6]<;>exact rfl):OW call (⟨l,args,none,od,ho⟩::os) vals env S K:=Ab hx h
theorem xo27(h:OW call os (r::vals) env S' K)(hx:Ba call l (args.map (opd vals env)) S=some (r,S',wr):=by simp only[zo,Eh,Cs,FM.row]<;>exact rfl):OW call (⟨l,args,none,od,ho⟩::os) vals env S K:=Ab hx h
theorem xo28(y9:Aw n news ⟨l,args,none,od,ho⟩ fps fp S'=true)(h:DW call n news os (fp::fps) (r::vals) env S' K)(hx:Ba call l (args.map (opd vals env)) S=some (r,S',wr):=by simp only[zl,zm,Ci,Bi,Gn]<;>exact rfl)(hf:Bg n ⟨l,args,none,od,ho⟩ (args.map (opd vals env)) r wr=fp:=by simp only[Bg,zo,zq]<;>exact rfl):DW call n news (⟨l,args,none,od,ho⟩::os) fps vals env S K:=Ch hx hf y9 h
theorem xo29(h:OW call os (r::vals) env S' K)(hx:Ba call l (args.map (opd vals env)) S=some (r,S',wr):=by simp only[zo,Bh,xP]<;>exact rfl):OW call (⟨l,args,none,od,ho⟩::os) vals env S K:=Ab hx h
theorem xo30(h:OW call os (r::vals) env S' K)(hx:Ba call l (args.map (opd vals env)) S=some (r,S',wr):=by simp only[zo,FM.row]<;>exact rfl):OW call (⟨l,args,none,od,ho⟩::os) vals env S K:=Ab hx h
theorem xo31(hl:l.loud=false)(hn:od.length=fps.length)(h:DW call n news os (Am::fps) (r::vals) env S' K)(hx:Ba call l (args.map (opd vals env)) S=some (r,S',wr):=by simp only[zo,Hf,overlay,zc,List.take,List.drop,Nat.reduceAdd,Nat.reduceLeDiff,zm]<;>exact rfl):DW call n news (⟨l,args,none,od,none⟩::os) fps vals env S K:=Bp hx hl hn h
theorem xo32(h:OW call os (r::vals) env S' K)(hx:Ba call l (args.map (opd vals env)) S=some (r,S',wr):=by simp only[zl,zm,zd,Be,List.take,List.drop,Nat.reduceAdd,xP]<;>exact rfl):OW call (⟨l,args,none,od,ho⟩::os) vals env S K:=Ab hx h
theorem xo33(h:OW call os (r::vals) env S' K)(hx:Ba call l (args.map (opd vals env)) S=some (r,S',wr):=by simp only[zl,zm,zd,Be,List.take,List.drop,zz9]<;>exact rfl):OW call (⟨l,args,none,od,ho⟩::os) vals env S K:=Ab hx h
theorem xo34(y9:Aw n news ⟨l,args,none,od,ho⟩ fps fp S'=true)(h:DW call n news os (fp::fps) (r::vals) env S' K)(hx:Ba call l (args.map (opd vals env)) S=some (r,S',wr):=by simp only[zl,zm,zd,Be,List.take,List.drop,xP]<;>exact rfl)(hf:Bg n ⟨l,args,none,od,ho⟩ (args.map (opd vals env)) r wr=fp:=by simp only[Bg,zo,zq]<;>exact rfl):DW call n news (⟨l,args,none,od,ho⟩::os) fps vals env S K:=Ch hx hf y9 h
theorem xo35(h:OW call os (r::vals) env S' K)(hx:Ba call l (args.map (opd vals env)) S=some (r,S',wr):=by simp only[zl,zm,zd,Be,List.take,List.drop,yw]<;>exact rfl):OW call (⟨l,args,none,od,ho⟩::os) vals env S K:=Ab hx h
theorem xo36(h:OW call os (r::vals) env S' K)(hx:Ba call l (args.map (opd vals env)) S=some (r,S',wr):=by simp only[zo,Bh,beq_self_eq_true]<;>exact rfl):OW call (⟨l,args,none,od,ho⟩::os) vals env S K:=Ab hx h
theorem xo37(h:OW call os (r::vals) env S' K)(hx:Ba call l (args.map (opd vals env)) S=some (r,S',wr):=by simp only[zo,Bh,Dy,Er]<;>exact rfl):OW call (⟨l,args,none,od,ho⟩::os) vals env S K:=Ab hx h
theorem xo38(h:OW call os (r::vals) env S' K)(hx:Ba call l (args.map (opd vals env)) S=some (r,S',wr):=by simp only[zl,zm,Cc,overlay,zs,zc,zf,List.take,List.drop,zn,zz5]<;>exact rfl):OW call (⟨l,args,none,od,ho⟩::os) vals env S K:=Ab hx h
theorem xo39(h:OW call os (r::vals) env S' K)(hx:Ba call l (args.map (opd vals env)) S=some (r,S',wr):=by simp only[zl,zm,Ct,List.replicate,Al,Bw,zs,zc,zf]<;>exact rfl):OW call (⟨l,args,none,od,ho⟩::os) vals env S K:=Ab hx h
theorem xo40(h:OW call os (r::vals) env S' K)(hx:Ba call l (args.map (opd vals env)) S=some (r,S',wr):=by simp only[zl,zm,Cc,overlay,Bw,zs,zc,zf,List.take,List.drop,List.append_nil]<;>exact rfl):OW call (⟨l,args,none,od,ho⟩::os) vals env S K:=Ab hx h
theorem xo41(h:OW call os (r::vals) env S' K)(hx:Ba call l (args.map (opd vals env)) S=some (r,S',wr):=by simp only[zl,zm,Cc,overlay,zs,zc,zf,List.take,List.drop,zn,zz6]<;>exact rfl):OW call (⟨l,args,none,od,ho⟩::os) vals env S K:=Ab hx h
theorem xo42(h:OW call os (r::vals) env S' K)(hx:Ba call l (args.map (opd vals env)) S=some (r,S',wr):=by simp only[zl,zm,zd,Be,List.take,List.drop,FM.row]<;>exact rfl):OW call (⟨l,args,none,od,ho⟩::os) vals env S K:=Ab hx h
theorem xo43(h:OW call os (r::vals) env S' K)(hx:Ba call l (args.map (opd vals env)) S=some (r,S',wr):=by simp only[zl,zm,Cc,overlay,Bw,zs,zc,zf,List.take,List.drop,yw]<;>exact rfl):OW call (⟨l,args,none,od,ho⟩::os) vals env S K:=Ab hx h
theorem xo44(h:OW call os (r::vals) env S' K)(hx:Ba call l (args.map (opd vals env)) S=some (r,S',wr):=by simp only[zl,zm,Cc,overlay,Bw,zs,zc,zf,List.take,List.drop,zz9,uJ]<;>exact rfl):OW call (⟨l,args,none,od,ho⟩::os) vals env S K:=Ab hx h
theorem xo45(h:OW call os (r::vals) env S' K)(hx:Ba call l (args.map (opd vals env)) S=some (r,S',wr):=by simp only[zo,Lz,Ls_,Bool.false_and]<;>exact rfl):OW call (⟨l,args,none,od,ho⟩::os) vals env S K:=Ab hx h
theorem xo46(h:OW call os (r::vals) env S' K)(hx:Ba call l (args.map (opd vals env)) S=some (r,S',wr):=by simp only[zl,zm,Cc,overlay,Bw,zs,zc,zf,List.take,List.drop,Bool.false_and]<;>exact rfl):OW call (⟨l,args,none,od,ho⟩::os) vals env S K:=Ab hx h
theorem Af{b:Ve}(h:CW call b Q env S)(he:env'=env:=by simp only[ze]<;>exact rfl):SeqK call b Q .normal env' S:=Bd he h
theorem Ca{c:Vd}{a b:Ve}(h:CW call b Q env S)(hc:opd [] env c=.bool false:=by simp only[opd,zv]<;>rfl):CW call (.cond c a b) Q env S:=Bz hc h
theorem Eo{c:Vd}{a b:Ve}(h:CW call a Q env S)(hc:opd [] env c=.bool true:=by simp only[opd,zv]<;>rfl):CW call (.cond c a b) Q env S:=Em hc h
theorem Ey{ops:List Vb}{exps:List (Nat × Nat)}{news:List (TypeId × List D)}{tl:List D}{S0:St}(h:DW call S.heap.length news ops [] tl env S0 (fun vals S'=>Q .normal (exports exps vals env) S'))(ht:Dl S.heap.length news.length=tl:=by simp only[Dl,zw]<;>exact rfl)(hS:(⟨S.heap++news.map Fz,S.low⟩:St)=S0:=by simp only[zw]<;>exact rfl):CW call (.drawn ops exps news) Q env S:=Gy ht hS h
theorem Ad{b:Ve}{ops:List Vb}{exps:List (Nat × Nat)}(h:OW call ops [] env S (fun vals S'=>SeqK call b Q .normal (exports exps vals env) S')):CW call (.seq (.region ops exps) b) Q env S:=Ag (Ar h)
theorem Ck(hx:Ba call l (args.map (opd vals env)) S=some (r,S',wr))(y9:Aw n news ⟨l,args,none,od,ho⟩ fps fp S'=true)(h:DW call n news os (fp::fps) (r::vals) env S' K)(hf:Bg n ⟨l,args,none,od,ho⟩ (args.map (opd vals env)) r wr=fp:=by simp only[Bg,zo,zq]<;>exact rfl):DW call n news (⟨l,args,none,od,ho⟩::os) fps vals env S K:=Ch hx hf y9 h
theorem Ce{vt:List D}(d:Nat){b:Bool}(h:OW call os vt env S K)(hg:vals.getD d .undef=.bool b:=by simp only[zv]<;>rfl)(ht:vals.set d (.bool b)=vt:=by simp only[zn]<;>exact rfl):OW call os vals env S K:=Ig d hg ht h
theorem dw_kq{vt:List D}(d:Nat){b:Bool}(h:DW call n news os fps vt env S K)(hg:vals.getD d .undef=.bool b:=by simp only[zv]<;>rfl)(ht:vals.set d (.bool b)=vt:=by simp only[zn]<;>exact rfl):DW call n news os fps vals env S K:=dw_know d hg ht h
end
set_option maxRecDepth 100000
set_option maxHeartbeats 4000000
structure FM where
 li:Nat
 co:Nat
 ki:Nat
 si:Nat
 nu:Bool
 lo:Bool
 h:li<256∧co<256∧ki<256∧si<256
def FM.row (f:FM):List D:=[.int .u8 (f.li:Nat),.int .u8 (f.co:Nat),.int .u8 (f.ki:Nat),.int .u8 (f.si:Nat),.bool f.nu,.bool f.lo]
def FM.kind (f:FM):Nat:=1+f.ki % 4
def FM.size (f:FM):Nat:=1+f.si % 6
def FM.line (f:FM):Nat:=1+f.li % 24
def FM.column (f:FM):Nat:=1+f.co % (81-f.size)
def FM.text (f:FM):ByteArray:=⟨(([65,66,67,68,69,70]:List UInt8).take f.size).toArray⟩
def FM.pic (f:FM):ByteArray:=if f.nu then ⟨(([90,90,90,90,90,57]:List UInt8).drop (6-f.size)).toArray⟩ else ⟨(List.replicate f.size 88).toArray⟩
section
variable (d:Nat) (S:St) (a b c:Int) (x y:Bool)
theorem size_tab:(List.range 256).map (fun k=>Cj LP NN (d+2) 16 [.agg [.int .u8 a,.int .u8 b,.int .u8 c,.int .u8 ((k:Nat):Int),.bool x,.bool y]] S)=(List.range 256).map (fun k=>some (.int .i64 ((1+k % 6:Nat):Int),S,false)):=by kernel_rfl
theorem kind_tab:(List.range 256).map (fun k=>Cj LP NN (d+2) 19 [.agg [.int .u8 a,.int .u8 b,.int .u8 ((k:Nat):Int),.int .u8 c,.bool x,.bool y]] S)=(List.range 256).map (fun k=>some (.int .u8 ((1+k % 4:Nat):Int),S,false)):=by kernel_rfl
theorem line_tab:(List.range 256).map (fun k=>Cj LP NN (d+2) 32 [.agg [.int .u8 ((k:Nat):Int),.int .u8 a,.int .u8 b,.int .u8 c,.bool x,.bool y]] S)=(List.range 256).map (fun k=>some (.int .i64 ((1+k % 24:Nat):Int),S,false)):=by kernel_rfl
theorem text_tab:(List.range 256).map (fun k=>Cj LP NN (d+3) 34 [.agg [.int .u8 a,.int .u8 b,.int .u8 c,.int .u8 ((k:Nat):Int),.bool x,.bool y]] S)=(List.range 256).map (fun k=>some (.str ⟨(([65,66,67,68,69,70]:List UInt8).take (1+k % 6)).toArray⟩,S,false)):=by kernel_rfl
theorem picT_tab:(List.range 256).map (fun k=>Cj LP NN (d+3) 35 [.agg [.int .u8 a,.int .u8 b,.int .u8 c,.int .u8 ((k:Nat):Int),.bool true,.bool y]] S)=(List.range 256).map (fun k=>some (.str ⟨(([90,90,90,90,90,57]:List UInt8).drop (6-(1+k % 6))).toArray⟩,S,false)):=by kernel_rfl
theorem picF_tab:(List.range 256).map (fun k=>Cj LP NN (d+3) 35 [.agg [.int .u8 a,.int .u8 b,.int .u8 c,.int .u8 ((k:Nat):Int),.bool false,.bool y]] S)=(List.range 256).map (fun k=>some (.str ⟨(List.replicate (1+k % 6) 88).toArray⟩,S,false)):=by kernel_rfl
end
def Gt (n:Nat):ByteArray:=⟨(if n<10 then [UInt8.ofNat (48+n)] else [UInt8.ofNat (48+n / 10),UInt8.ofNat (48+n % 10)]:List UInt8).toArray⟩
section
variable {d:Nat} (hd:6≤d) (S:St) (f:FM)
include hd
theorem Gg:Az LP NN d 16 [.agg f.row] S=some (.int .i64 (f.size:Nat),S,false):=by
 obtain⟨d,rfl⟩:∃d',d=d'+2:=⟨d-2,by omega⟩
 exact fast_ok (Ga (size_tab d S _ _ _ f.nu f.lo) f.si f.h.2.2.2)
theorem Nz:Az LP NN d 19 [.agg f.row] S=some (.int .u8 (f.kind:Nat),S,false):=by
 obtain⟨d,rfl⟩:∃d',d=d'+2:=⟨d-2,by omega⟩
 exact fast_ok (Ga (kind_tab d S _ _ _ f.nu f.lo) f.ki f.h.2.2.1)
theorem line_run:Az LP NN d 32 [.agg f.row] S=some (.int .i64 (f.line:Nat),S,false):=by
 obtain⟨d,rfl⟩:∃d',d=d'+2:=⟨d-2,by omega⟩
 exact fast_ok (Ga (line_tab d S _ _ _ f.nu f.lo) f.li f.h.1)
theorem Ql:Az LP NN d 34 [.agg f.row] S=some (.str f.text,S,false):=by
 obtain⟨d,rfl⟩:∃d',d=d'+3:=⟨d-3,by omega⟩
 exact fast_ok (Ga (text_tab d S _ _ _ f.nu f.lo) f.si f.h.2.2.2)
theorem pic_run:Az LP NN d 35 [.agg f.row] S=some (.str f.pic,S,false):=by
 obtain⟨d,rfl⟩:∃d',d=d'+3:=⟨d-3,by omega⟩
 obtain⟨li,co,ki,si,nu,lo,h⟩:=f
 cases nu with
 | true=>exact fast_ok (Ga (picT_tab d S _ _ _ lo) si h.2.2.2)
 | false=>exact fast_ok (Ga (picF_tab d S _ _ _ lo) si h.2.2.2)
end
theorem FM.size_le(f:FM):1≤f.size∧f.size≤6:=by unfold FM.size;omega
theorem FM.line_le(f:FM):1≤f.line∧f.line≤24:=by unfold FM.line;omega
theorem FM.column_le(f:FM):1≤f.column∧f.column+f.size≤81:=by
 have:=f.size_le
 unfold FM.column
 have:=Nat.mod_lt f.co (show 0<81-f.size by omega)
 omega
theorem FM.kind_le(f:FM):1≤f.kind∧f.kind≤4:=by unfold FM.kind;omega
theorem column_run{d:Nat}(hd:8≤d)(S:St)(f:FM):Az LP NN d 33 [.agg f.row] S=some (.int .i64 (f.column:Nat),S,false):=by
 have hl:=f.size_le
 have hc:=f.column_le
 have xG:(0:Nat)=0:=rfl
 have hsub:IntKind.i64.wrap (81-((f.size:Nat):Int))=((81-f.size:Nat):Int):=by rw[IntKind.wrap_i64];omega
 have hwc:IntKind.i64.wrap ((f.co:Nat):Int)=((f.co:Nat):Int):=by have:=f.h.2.1;rw[IntKind.wrap_i64];omega
 have xA:((((81-f.size:Nat):Int))=0)=False:=eq_false (by omega)
 have hmod:((f.co:Nat):Int).tmod ((81-f.size:Nat):Int)=((f.co % (81-f.size):Nat):Int):=tmod_nat _ _
 have xC:IntKind.i64.wrap (1+((f.co % (81-f.size):Nat):Int))=((f.column:Nat):Int):=by unfold FM.column at hc ⊢;rw[IntKind.wrap_i64];omega
 refine run_pure (F:=F33) rfl (by simp only[LP,Al,Bw,zs,zm,FM.row]<;>exact rfl) rfl (by simp only[LP,zf,zm];try rfl) (by simp only[F33,zv]<;>exact rfl) (by omega) ?_
 rintro d rfl
 have yX:=aI xG (aI hsub (aI hwc (aI xA (aI hmod (xC)))))
 refine Ad (Jj ?_)
 refine Ap (Aa (Af ?_))
 refine Ag (Ey ?_)
 refine Bp (by simp only[zo,F5,zm]<;>exact rfl) rfl rfl ?_
 refine Iq rfl ?_
 refine Bp (by simp only[zo,yX]<;>exact rfl) rfl rfl ?_
 refine Iq rfl ?_
 refine Ck (by simp only[zo];exact Gg (by omega) _ f) rfl ?_
 refine Bp (by simp only[zo,Bh,yX]<;>exact rfl) rfl rfl ?_
 refine Bp (by simp only[zo,Bh,zb,yX]<;>exact rfl) rfl rfl ?_
 refine Bp (by simp only[zo,Bh,yX]<;>exact rfl) rfl rfl ?_
 refine Dq rfl rfl (Cw (Af ?_))
 refine Av ?_
 refine⟨_,by simp only[F33,Ak,Bb,Cb,zg]<;>exact rfl,?_⟩
 simp only[Dv,leave,zs,zf,zk]
def tkR (k:Nat) (s:ByteArray) (l c:Nat):List D:=[.int .u8 (k:Nat),.str s,.int .i64 (l:Nat),.int .i64 (c:Nat),.bool false]
theorem word_tab(d:Nat)(S:St)(s:ByteArray):Cj LP NN (d+1) 14 [.str s] S=some (.agg [.int .u8 1,.str s,.int .i64 0,.int .i64 0,.bool false],S,false):=by kernel_rfl
theorem number_tab(d:Nat)(S:St):(List.range 100).map (fun k=>Cj LP NN (d+5) 24 [.int .i64 ((k:Nat):Int)] S)=(List.range 100).map (fun k=>some (.agg [.int .u8 2,.str (Gt k),.int .i64 0,.int .i64 0,.bool false],S,false)):=by kernel_rfl
def kwB (k:Nat):ByteArray:=if k=2 then ⟨#[70,82,79,77]⟩ else if k=3 then ⟨#[84,79]⟩ else ⟨#[85,83,73,78,71]⟩
def Kr (f:FM):List (Nat × ByteArray):=(2,Gt 5) ::
 ((if f.lo then [(1,⟨#[70,73,76,76,69,82]⟩),(1,⟨#[76,73,78,69]⟩),(1,⟨#[78,85,77,66,69,82]⟩),(1,⟨#[73,83]⟩),(2,Gt f.line),(1,⟨#[67,79,76]⟩),(1,⟨#[73,83]⟩),(2,Gt f.column)]
  else [(1,⟨#[76,73,78,69]⟩),(2,Gt f.line),(1,⟨#[67,79,76,85,77,78]⟩),(2,Gt f.column)]) ++
 (if f.kind=1 then (if f.lo then [(1,⟨#[86,65,76,85,69]⟩),(1,⟨#[73,83]⟩),(3,f.text)] else [(1,⟨#[86,65,76,85,69]⟩),(3,f.text)])
  else [(1,⟨#[80,73,67]⟩),(4,f.pic),(1,kwB f.kind),(1,⟨#[78]⟩)]))
def M7 (l:List (Nat × ByteArray)):List (List D):=l.map fun p=>tkR p.1 p.2 0 0
section
variable {d:Nat} (hd:6≤d) (S:St)
include hd
theorem D6(s:ByteArray):Az LP NN d 14 [.str s] S=some (.agg [.int .u8 1,.str s,.int .i64 0,.int .i64 0,.bool false],S,false):=by
 obtain⟨d,rfl⟩:∃d',d=d'+1:=⟨d-1,by omega⟩
 exact fast_ok (word_tab d S s)
theorem Gr(n:Nat)(hn:n<100):Az LP NN d 24 [.int .i64 (n:Nat)] S=some (.agg [.int .u8 2,.str (Gt n),.int .i64 0,.int .i64 0,.bool false],S,false):=by
 obtain⟨d,rfl⟩:∃d',d=d'+5:=⟨d-5,by omega⟩
 exact fast_ok (Ga (number_tab d S) n hn)
theorem Je:Az LP NN d 24 [.int .i64 5] S=some (.agg [.int .u8 2,.str (Gt 5),.int .i64 0,.int .i64 0,.bool false],S,false):=Gr hd S 5 (by omega)
end
theorem kw_at(k:Nat)(h1:2≤k)(h2:k≤4):([[.str ⟨#[]⟩],[.str ⟨#[]⟩],[.str ⟨#[70,82,79,77]⟩],[.str ⟨#[84,79]⟩],[.str ⟨#[85,83,73,78,71]⟩]]:List (List D))[k]?=some [.str (kwB k)]:=by
 match k,h1,h2 with
 | 2,_,_=>rfl
 | 3,_,_=>rfl
 | 4,_,_=>rfl
 | n+5,_,h=>omega
theorem tokens_run{d:Nat}(hd:10≤d)(S:St)(f:FM):Az LP NN d 25 [.agg f.row] S=some (.sl 5 (M7 (Kr f)) none,S,false):=by
 have hl:=f.size_le
 have hc:=f.column_le
 have hln:=f.line_le
 have z8:=f.kind_le
 have hkn:(0:Int)≤((f.kind:Nat):Int):=by omega
 have hkw:=fun (h:2≤f.kind)=>kw_at f.kind h z8.2
 refine run_pure (F:=F25) rfl (by simp only[LP,Al,Bw,zs,zm,FM.row]<;>exact rfl) rfl (by simp only[LP,zf,zm];try rfl) (by simp only[F25,zv]<;>exact rfl) (by omega) ?_
 rintro d rfl
 refine Ad (Jj ?_)
 refine Ap (Aa (Af ?_))
 refine Ad ?_
 first
  | refine Ab (by simp only[zo];exact Je (by omega) _) ?_
  | refine Ab (by simp only[zo,hkw,hkn];exact Gr (by omega) _ _ (by omega)) ?_
 refine xo39 ?_
 refine Ae rfl (Aa (Af ?_))
 refine Ag (Ad (xo5 ?_))
 refine xo3 ?_
 refine Aa (Af ?_)
 refine Bv (by simp only[opd,zv]<;>exact rfl) (fun hc=>?_) (fun hc=>?_)
 ·
  refine Ey ?_
  refine Bq rfl rfl (Ck (by simp only[zo];exact D6 (by omega) _ _) rfl ?_)
  refine Ck (by simp only[zo];exact D6 (by omega) _ _) rfl ?_
  refine Ck (by simp only[zo];exact D6 (by omega) _ _) rfl ?_
  refine Ck (by simp only[zo];exact D6 (by omega) _ _) rfl ?_
  refine Iq rfl ?_
  refine Ck (by simp only[zo];exact line_run (by omega) _ f) rfl ?_
  first
   | refine Ck (by simp only[zo];exact Je (by omega) _) rfl ?_
   | refine Ck (by simp only[zo];exact Gr (by omega) _ _ (by omega)) rfl ?_
  refine Ck (by simp only[zo];exact D6 (by omega) _ _) rfl ?_
  refine Ck (by simp only[zo];exact D6 (by omega) _ _) rfl ?_
  refine Iq rfl ?_
  refine Ck (by simp only[zo];exact column_run (by omega) _ f) rfl ?_
  first
   | refine Ck (by simp only[zo];exact Je (by omega) _) rfl ?_
   | refine Ck (by simp only[zo];exact Gr (by omega) _ _ (by omega)) rfl ?_
  refine U0 rfl ?_
  refine xo28 rfl ?_
  refine Dq rfl rfl (Cw (Af ?_))
  refine Ag (Ad (xo3 ?_))
  refine Ab (by simp only[zo];exact Nz (by omega) _ f) ?_
  refine xo1 ?_
  refine Aa (Af ?_)
  refine Bv (by simp only[opd,zv]<;>exact rfl) (fun hcT=>?_) (fun hcT=>?_)
  ·
   have yE:f.kind=1:=by
    have h:=hcT;simp at h;omega
   refine Ag (Ad (xo5 ?_))
   refine xo3 ?_
   refine Aa (Af ?_)
   refine Bv (by simp only[opd,zv]<;>exact rfl) (fun hcTT=>?_) (fun hcTT=>?_)
   ·
    refine Ag (Ey ?_)
    refine Bq rfl rfl (Ck (by simp only[zo];exact D6 (by omega) _ _) rfl ?_)
    refine Ck (by simp only[zo];exact D6 (by omega) _ _) rfl ?_
    refine Iq rfl ?_
    refine Ck (by simp only[zo];exact Ql (by omega) _ f) rfl ?_
    refine xo31 rfl rfl ?_
    refine U0 rfl ?_
    refine xo28 rfl ?_
    refine Dq rfl rfl (Cw (Af ?_))
    refine Av (D5 (D5 ?_))
    refine⟨_,by simp only[F25,Ak,Bb,Cb,zg,zm]<;>exact rfl,?_⟩
    simp[Dv,leave,Vl,Vi,snap,D.Vk,D.Vj,D.free,D.Vo,M7,Kr,tkR,hc,yE]
   refine Aj (Bd rfl (Ag (Ey ?_)))
   refine Bq rfl rfl (Ck (by simp only[zo];exact D6 (by omega) _ _) rfl ?_)
   refine Iq rfl ?_
   refine Ck (by simp only[zo];exact Ql (by omega) _ f) rfl ?_
   refine xo31 rfl rfl ?_
   refine U0 rfl ?_
   refine xo28 rfl ?_
   refine Dq rfl rfl (Cw (Af ?_))
   refine Av (D5 ?_)
   exact absurd hc (by rw[hcTT];simp)
  have yE:¬f.kind=1:=by
   have h:=hcT;simp at h;omega
  have vG:=hkw (by omega)
  refine Aj (Bd rfl (Ag (Ey ?_)))
  refine Bq rfl rfl (Ck (by simp only[zo];exact D6 (by omega) _ _) rfl ?_)
  refine Iq rfl ?_
  refine Ck (by simp only[zo];exact pic_run (by omega) _ f) rfl ?_
  refine xo31 rfl rfl ?_
  refine U0 rfl ?_
  refine xo28 rfl ?_
  refine Dq rfl rfl (Cw (Af ?_))
  refine Ad (Ac rfl (Pp ?_))
  refine xo3 ?_
  refine Ab (by simp only[zo];exact Nz (by omega) _ f) ?_
  refine Ab (by simp only[zl,zm,La,Int.toNat_natCast,hkn,vG]<;>exact rfl) ?_
  refine xo3 ?_
  refine Ab (by simp only[zo];exact D6 (by omega) _ _) ?_
  refine Ab (by simp only[zo];exact D6 (by omega) _ _) ?_
  refine xo39 ?_
  refine Ab (by simp only[zl,zm,Ci,Bi,Gn]<;>exact rfl) ?_
  refine Ae rfl (Aa (Af ?_))
  refine Av ?_
  refine⟨_,by simp only[F25,Ak,Bb,Cb,zg,zm]<;>exact rfl,?_⟩
  simp[Dv,leave,Vl,Vi,snap,D.Vk,D.Vj,D.free,D.Vo,M7,Kr,tkR,hc,yE]
 refine Ey ?_
 refine Bq rfl rfl (Ck (by simp only[zo];exact D6 (by omega) _ _) rfl ?_)
 refine Iq rfl ?_
 refine Ck (by simp only[zo];exact line_run (by omega) _ f) rfl ?_
 first
  | refine Ck (by simp only[zo];exact Je (by omega) _) rfl ?_
  | refine Ck (by simp only[zo];exact Gr (by omega) _ _ (by omega)) rfl ?_
 refine Ck (by simp only[zo];exact D6 (by omega) _ _) rfl ?_
 refine Iq rfl ?_
 refine Ck (by simp only[zo];exact column_run (by omega) _ f) rfl ?_
 first
  | refine Ck (by simp only[zo];exact Je (by omega) _) rfl ?_
  | refine Ck (by simp only[zo];exact Gr (by omega) _ _ (by omega)) rfl ?_
 refine U0 rfl ?_
 refine xo28 rfl ?_
 refine Dq rfl rfl (Cw (Af ?_))
 refine Ag (Ad (xo3 ?_))
 refine Ab (by simp only[zo];exact Nz (by omega) _ f) ?_
 refine xo1 ?_
 refine Aa (Af ?_)
 refine Bv (by simp only[opd,zv]<;>exact rfl) (fun hcF=>?_) (fun hcF=>?_)
 ·
  have yE:f.kind=1:=by
   have h:=hcF;simp at h;omega
  refine Ag (Ad (xo5 ?_))
  refine xo3 ?_
  refine Aa (Af ?_)
  refine Bv (by simp only[opd,zv]<;>exact rfl) (fun hcFT=>?_) (fun hcFT=>?_)
  ·
   refine Ag (Ey ?_)
   refine Bq rfl rfl (Ck (by simp only[zo];exact D6 (by omega) _ _) rfl ?_)
   refine Ck (by simp only[zo];exact D6 (by omega) _ _) rfl ?_
   refine Iq rfl ?_
   refine Ck (by simp only[zo];exact Ql (by omega) _ f) rfl ?_
   refine xo31 rfl rfl ?_
   refine U0 rfl ?_
   refine xo28 rfl ?_
   refine Dq rfl rfl (Cw (Af ?_))
   refine Av (D5 (D5 ?_))
   exact absurd hcFT (by rw[hc];simp)
  refine Aj (Bd rfl (Ag (Ey ?_)))
  refine Bq rfl rfl (Ck (by simp only[zo];exact D6 (by omega) _ _) rfl ?_)
  refine Iq rfl ?_
  refine Ck (by simp only[zo];exact Ql (by omega) _ f) rfl ?_
  refine xo31 rfl rfl ?_
  refine U0 rfl ?_
  refine xo28 rfl ?_
  refine Dq rfl rfl (Cw (Af ?_))
  refine Av (D5 ?_)
  refine⟨_,by simp only[F25,Ak,Bb,Cb,zg,zm]<;>exact rfl,?_⟩
  simp[Dv,leave,Vl,Vi,snap,D.Vk,D.Vj,D.free,D.Vo,M7,Kr,tkR,hc,yE]
 have yE:¬f.kind=1:=by
  have h:=hcF;simp at h;omega
 have vG:=hkw (by omega)
 refine Aj (Bd rfl (Ag (Ey ?_)))
 refine Bq rfl rfl (Ck (by simp only[zo];exact D6 (by omega) _ _) rfl ?_)
 refine Iq rfl ?_
 refine Ck (by simp only[zo];exact pic_run (by omega) _ f) rfl ?_
 refine xo31 rfl rfl ?_
 refine U0 rfl ?_
 refine xo28 rfl ?_
 refine Dq rfl rfl (Cw (Af ?_))
 refine Ad (Ac rfl (Pp ?_))
 refine xo3 ?_
 refine Ab (by simp only[zo];exact Nz (by omega) _ f) ?_
 refine Ab (by simp only[zl,zm,La,Int.toNat_natCast,hkn,vG]<;>exact rfl) ?_
 refine xo3 ?_
 refine Ab (by simp only[zo];exact D6 (by omega) _ _) ?_
 refine Ab (by simp only[zo];exact D6 (by omega) _ _) ?_
 refine xo39 ?_
 refine Ab (by simp only[zl,zm,Ci,Bi,Gn]<;>exact rfl) ?_
 refine Ae rfl (Aa (Af ?_))
 refine Av ?_
 refine⟨_,by simp only[F25,Ak,Bb,Cb,zg,zm]<;>exact rfl,?_⟩
 simp[Dv,leave,Vl,Vi,snap,D.Vk,D.Vj,D.free,D.Vo,M7,Kr,tkR,hc,yE]
theorem Ro{call:Bl}{H:List U9}{g e sz v kind bytes n lo:Nat}{rows new:List (List D)}{gr:Bool}{x:D}(hg:H[g]?=some ⟨e,sz,rows,v,kind,gr⟩)(hk:kind=1∨kind=2)(hx:SlD sz new x)(hn:n=rows.length)(hb:(n+new.length)*bytes≤140737488355328) :
  Ba call (.append e sz bytes kind) [.msl g v 0 n none,x] ⟨H,lo⟩=some (.msl g (v+1) 0 (n+new.length) none,⟨H.set g ⟨e,sz,rows++new,v+1,kind,true⟩,min lo g⟩,true):=by
 have rP:kind≠0:=by omega
 have hr:De ⟨H,lo⟩ sz x=some new:=hx.read _
 simp only[Ba,aop,LOp.loud,lop,if_true,Ci,rP,if_false,hr,Bi,rowsOf,hg]
 rw[if_pos (by refine⟨?_,?_,?_,?_,?_,?_,?_⟩<;>first | trivial | assumption | rfl)]
 rfl
def U2:Nat × ByteArray:=(6,⟨#[46]⟩)
def Ib (l:List FM):List (Nat × ByteArray):=l.flatMap fun f=>Kr f++[U2]
def Ip (s:ByteArray):List (Nat × ByteArray):=[(2,Gt 1),(1,s),U2]
theorem headL_len(s:ByteArray):(Ip s).length=3:=rfl
theorem Ty{d:Nat}(hd:6≤d)(S:St):Az LP NN d 24 [.int .i64 1] S=some (.agg [.int .u8 2,.str (Gt 1),.int .i64 0,.int .i64 0,.bool false],S,false):=Gr hd S 1 (by omega)
def Iu (a b:List FM):List (Nat × ByteArray):=Ip ⟨#[65]⟩++Ib a++Ip ⟨#[66]⟩++Ib b
def Fj (n:Nat) (l:List (Nat × ByteArray)):List (List D):=l.mapIdx fun i p=>tkR p.1 p.2 (n+i) 12
def Jl (l:List FM):List (List D):=l.map FM.row
theorem Sk{l:List FM}{i:Nat}(h:i<l.length):(Jl l)[i]?=some l[i].row:=by simp[Jl,h]
theorem Iy(l:List FM):(Jl l).length=l.length:=by simp[Jl]
theorem Gf(l:List (Nat × ByteArray)):(M7 l).length=l.length:=by simp[M7]
theorem Hr(l m:List (Nat × ByteArray)):M7 (l++m)=M7 l++M7 m:=by simp[M7]
theorem tokL_len(f:FM):(Kr f).length≤14:=by
 unfold Kr
 split<;>split<;>(try split)<;>simp
theorem Lf:∀(l:List FM),(Ib l).length≤15*l.length
 | []=>by simp[Ib]
 | f::l=>by
  have h1:=Lf l
  have h2:=tokL_len f
  simp only[Ib,List.flatMap_cons,Ll_,List.length_cons,List.length_nil]at h1 ⊢
  omega
theorem entL_take{l:List FM}{i:Nat}(h:i<l.length):Ib (l.take (i+1))=Ib (l.take i)++(Kr l[i]++[U2]):=by
 unfold Ib
 rw[List.take_succ_eq_append_getElem h,List.flatMap_append]
 simp
def Ir (p:List (Nat × ByteArray)) (l:List FM) (i:Nat):List (Nat × ByteArray):=p++Ib (l.take i)
theorem O1{p:List (Nat × ByteArray)}{l:List FM}{i:Nat}(h:i<l.length):Ir p l (i+1)=Ir p l i++(Kr l[i]++[U2]):=by
 unfold Ir
 rw[entL_take h,Lo_]
theorem Kv(p:List (Nat × ByteArray))(l:List FM)(i:Nat):(Ir p l i).length≤p.length+15*l.length:=by
 have h1:=Lf (l.take i)
 simp only[Ir,Ll_,List.length_take]at h1 ⊢
 omega
theorem secP_end(p:List (Nat × ByteArray))(l:List FM):Ir p l l.length=p++Ib l:=by unfold Ir;rw[List.take_length]
def preA:List (Nat × ByteArray):=Ip ⟨#[65]⟩
def preB (a:List FM):List (Nat × ByteArray):=Ir preA a a.length++Ip ⟨#[66]⟩
theorem secL_eq(a b:List FM):Iu a b=Ir (preB a) b b.length:=by
 unfold Iu preB preA
 rw[secP_end,secP_end]
theorem Qw:preA.length=3:=rfl
theorem preB_len(a:List FM):(preB a).length≤6+15*a.length:=by
 have h:=Kv preA a a.length
 rw[Qw]at h
 simp only[preB,Ll_,headL_len];omega
def posT (l:List (Nat × ByteArray)) (i:Nat):List (List D):=(Fj 1 l).take i++(M7 l).drop i
theorem Fh(n:Nat)(l:List (Nat × ByteArray)):(Fj n l).length=l.length:=by simp[Fj]
theorem posT_at{l:List (Nat × ByteArray)}{i:Nat}(h:i<l.length):(posT l i)[i]?=some (tkR l[i].1 l[i].2 0 0):=by
 unfold posT
 rw[Lr_ (by simp[Fh];omega)]
 simp[Fh,M7,Nat.min_eq_left (Nat.le_of_lt h),h]
theorem posT_set{l:List (Nat × ByteArray)}{i:Nat}(h:i<l.length):(posT l i).set i (tkR l[i].1 l[i].2 (i+1) 12)=posT l (i+1):=by
 refine List.ext_getElem? fun j=>?_
 rw[List.getElem?_set]
 unfold posT
 by_cases hj:i=j
 ·
  subst hj
  rw[if_pos rfl,if_pos (by simp[Fh,Gf];omega),La_ (by simp[Fh];omega)]
  rw[List.getElem?_take_of_lt (by omega)]
  simp[Fj,h,Nat.add_comm]
 rw[if_neg hj]
 by_cases xu:j<i
 ·
  rw[La_ (by simp[Fh];omega),La_ (by simp[Fh];omega),List.getElem?_take_of_lt xu,List.getElem?_take_of_lt (by omega)]
 rw[Lr_ (by simp[Fh];omega),Lr_ (by simp[Fh];omega),List.getElem?_drop,List.getElem?_drop]
 congr 1
 simp[Fh];omega
theorem posT_0(l:List (Nat × ByteArray)):posT l 0=M7 l:=by simp[posT]
theorem posT_end(l:List (Nat × ByteArray)):posT l l.length=Fj 1 l:=by
 unfold posT
 rw[List.take_of_length_le (by simp[Fh]),List.drop_eq_nil_of_le (by simp[Gf])];simp
theorem take_posR(l:List (Nat × ByteArray)):List.take l.length (Fj 1 l)=Fj 1 l:=List.take_of_length_le (by simp[Fh])
def oPer:U9:=⟨39,5,[tkR 6 ⟨#[46]⟩ 0 0],0,0,false⟩
theorem section_run{d:Nat}(hd:12≤d)(S:St){a b:List FM}{ax bx:D}(ha:SlD 6 (Jl a) ax)(hb:SlD 6 (Jl b) bx)(hla:a.length≤20)(hlb:b.length≤20):Az LP NN d 9 [ax,bx] S=some (.sl 5 (Fj 1 (Iu a b)) none,S,false):=by
 have wL:(Iu a b).length≤700:=by
  have h1:=Lf a
  have h2:=Lf b
  simp only[Iu,Ip,Ll_,List.length_cons,List.length_nil];omega
 refine run_pure (F:=F9) rfl (by simp only[LP,Al,ha.Vi,hb.Vi]<;>exact rfl) rfl (by simp only[LP,zm,ha.Vj,hb.Vj];try rfl) (by simp only[F9,zv]<;>exact rfl) (by omega) ?_
 rintro d rfl
 refine Ad (Ap (Aa (Af ?_)))
 refine Ad (xo24 ?_)
 refine xo8 ?_
 refine Kn ?_
 refine Aa (Af ?_)
 refine Ag (Gy (by simp only[Dl,zw,Nat.reduceAdd]<;>exact rfl) (by simp only[zw]<;>exact rfl) ?_)
 first
  | refine Ck (by simp only[zo];exact Gr (by omega) _ 1 (by omega)) rfl ?_
  | refine Ch (by simp only[zo,ha.len,hb.len,Iy,oPer,tkR];exact Ty (by omega) _) (by simp only[Bg,zo,zq,ha.fpi,hb.fpi]<;>exact rfl) rfl ?_
 refine Ck (by simp only[zo];exact D6 (by omega) _ _) rfl ?_
 refine Iq rfl ?_
 refine U0 rfl ?_
 refine Dq rfl rfl (Cw (Af ?_))
 refine Ag (Ad (Ap (Aa (Af ?_))))
 refine Aq (Cz (fun n env S'=>∃(i v:Nat) (gr:Bool) (A6 A7 A8 A9 A10:D),S'=⟨[oPer,⟨39,5,M7 (Ir preA a i),v,2,gr⟩],0⟩∧env=[ax,bx,.Vu,.ptr 0 0 0 0,.msl 1 v 0 (M7 (Ir preA a i)).length none,.int .i64 (i:Nat),A6,A7,A8,A9,A10]∧i≤a.length∧n=a.length-i) (a.length) (by omega) (⟨0,_,_,_,_,_,_,_,rfl,rfl,by omega,by omega⟩) ?_)
 rintro n env S' ⟨i,v,gr,A6,A7,A8,A9,A10,rfl,rfl,hi,rfl⟩
 refine Ag (Ad (Ac rfl (Ac rfl (Ab (by simp only[zo,ha.len,Iy,oPer,tkR]<;>exact rfl) ?_))))
 refine xo1 ?_
 refine Aa (Af ?_)
 refine Bv (by simp only[opd,zv]<;>exact rfl) (fun yG=>?_) (fun yG=>?_)
 ·
  have xu:i<a.length:=by have:=of_decide_eq_true yG;omega
  have yN:=fun (S:St)=>ha.iaddrN S .i64 (Sk xu)
  have hw:=Dx i (by omega)
  have uD:=tokL_len a[i]
  have hsp:=Kv preA a i
  have hsq:=Kv (preB a) b i
  have hpa:=Qw
  have hpb:=preB_len a
  refine Aj (Bd rfl (Ag (Aq (Gy (by simp only[Dl,zw,Nat.reduceAdd]<;>exact rfl) (by simp only[zw]<;>exact rfl) ?_))))
  refine Bq rfl rfl (Bq rfl rfl (Bq rfl rfl (Ch (by simp only[zl,zm,yN,FM.row]<;>exact rfl) (by simp only[Bg,zo,ha.fpi]<;>exact rfl) rfl ?_)))
  refine Iq rfl ?_
  refine Ck (by simp only[zo];exact tokens_run (by omega) _ a[i]) rfl ?_
  refine Ck (by simp only[opd,zv];exact (Ro (by first | rfl | exact hg0) (.inr rfl) (.of _ _ _) (by simp only[Gf]) (by simp only[Gf];omega)).trans (by simp only[List.set_cons_succ,List.set_cons_zero,Nat.zero_min]<;>exact rfl)) rfl ?_
  refine Iq rfl ?_
  refine U0 rfl ?_
  refine Ck (by simp only[opd,zv];exact (Ro (by first | rfl | exact hg0) (.inr rfl) (.of _ _ _) (by simp only[Ll_,Gf]) (by simp only[List.length_cons,List.length_nil,Gf];omega)).trans (by simp only[List.set_cons_succ,List.set_cons_zero,Nat.zero_min]<;>exact rfl)) rfl ?_
  refine Dq rfl rfl (Cw (Eb (Af ?_)))
  refine Ar (Ac rfl (Ab (by simp only[zo,Bh,hw]<;>exact rfl) ?_))
  refine Ae rfl (Aa (Fb (by simp only[ze]<;>exact rfl) ?_))
  exact⟨a.length-(i+1),by omega,i+1,_,_,_,_,_,_,_,by rw[O1 xu,Hr (Ir _ _ _),Hr (Kr _)];simp only[Lo_];exact rfl,by rw[O1 xu,Hr (Ir _ _ _),Hr (Kr _)];simp only[Ll_,Nat.add_assoc];exact rfl,by omega,rfl⟩
 have hi':i=a.length:=by have:=of_decide_eq_false yG;omega
 subst hi'
 have hsp:=Kv preA a a.length
 have hpa:=Qw
 refine Cf (E5 (Fp (Fa (Bd rfl (Ag (Gy (by simp only[Dl,zw,Nat.reduceAdd]<;>exact rfl) (by simp only[zw]<;>exact rfl) ?_))))))
 refine Bq rfl rfl ?_
 first
  | refine Ck (by simp only[zo];exact Gr (by omega) _ 1 (by omega)) rfl ?_
  | refine Ch (by simp only[zo,ha.len,hb.len,Iy,oPer,tkR];exact Ty (by omega) _) (by simp only[Bg,zo,zq,ha.fpi,hb.fpi]<;>exact rfl) rfl ?_
 refine Ck (by simp only[zo];exact D6 (by omega) _ _) rfl ?_
 refine Iq rfl ?_
 refine U0 rfl ?_
 refine Ck (by simp only[opd,zv];exact (Ro (by first | rfl | exact hg0) (.inr rfl) (.of _ _ _) (by simp only[Gf]) (by simp only[List.length_cons,List.length_nil,Gf];omega)).trans (by simp only[List.set_cons_succ,List.set_cons_zero,Nat.zero_min]<;>exact rfl)) rfl ?_
 refine Dq rfl rfl (Cw (Af ?_))
 refine Ag (Ad (Ap (Aa (Af ?_))))
 refine Aq (Cz (fun n env S'=>∃(i v:Nat) (B5 B7 B8 B9 B10:D),S'=⟨[oPer,⟨39,5,M7 (Ir (preB a) b i),v,2,true⟩],0⟩∧env=[ax,bx,.Vu,.ptr 0 0 0 0,.msl 1 v 0 (M7 (Ir (preB a) b i)).length none,B5,.int .i64 (i:Nat),B7,B8,B9,B10]∧i≤b.length∧n=b.length-i) (b.length) (by omega) (⟨0,_,_,_,_,_,_,by rw[show Ir (preB a) b 0=Ir preA a a.length++Ip ⟨#[66]⟩ from by unfold Ir preB;simp[Ib,Ir],Hr (Ir _ _ _)];exact rfl,by rw[show Ir (preB a) b 0=Ir preA a a.length++Ip ⟨#[66]⟩ from by unfold Ir preB;simp[Ib,Ir],Hr (Ir _ _ _),Ll_];exact rfl,by omega,by omega⟩) ?_)
 rintro n env S' ⟨i,v,B5,B7,B8,B9,B10,rfl,rfl,hi,rfl⟩
 refine Ag (Ad (Ac rfl (Ac rfl (Ab (by simp only[zo,hb.len,Iy,oPer,tkR]<;>exact rfl) ?_))))
 refine xo1 ?_
 refine Aa (Af ?_)
 refine Bv (by simp only[opd,zv]<;>exact rfl) (fun uw=>?_) (fun uw=>?_)
 ·
  have xu:i<b.length:=by have:=of_decide_eq_true uw;omega
  have yN:=fun (S:St)=>hb.iaddrN S .i64 (Sk xu)
  have hw:=Dx i (by omega)
  have uD:=tokL_len b[i]
  have hsp:=Kv preA a i
  have hsq:=Kv (preB a) b i
  have hpa:=Qw
  have hpb:=preB_len a
  refine Aj (Bd rfl (Ag (Aq (Gy (by simp only[Dl,zw,Nat.reduceAdd]<;>exact rfl) (by simp only[zw]<;>exact rfl) ?_))))
  refine Bq rfl rfl (Bq rfl rfl (Bq rfl rfl (Ch (by simp only[zl,zm,yN,FM.row]<;>exact rfl) (by simp only[Bg,zo,hb.fpi]<;>exact rfl) rfl ?_)))
  refine Iq rfl ?_
  refine Ck (by simp only[zo];exact tokens_run (by omega) _ b[i]) rfl ?_
  refine Ck (by simp only[opd,zv];exact (Ro (by first | rfl | exact hg0) (.inr rfl) (.of _ _ _) (by simp only[Gf]) (by simp only[Gf];omega)).trans (by simp only[List.set_cons_succ,List.set_cons_zero,Nat.zero_min]<;>exact rfl)) rfl ?_
  refine Iq rfl ?_
  refine U0 rfl ?_
  refine Ck (by simp only[opd,zv];exact (Ro (by first | rfl | exact hg0) (.inr rfl) (.of _ _ _) (by simp only[Ll_,Gf]) (by simp only[List.length_cons,List.length_nil,Gf];omega)).trans (by simp only[List.set_cons_succ,List.set_cons_zero,Nat.zero_min]<;>exact rfl)) rfl ?_
  refine Dq rfl rfl (Cw (Eb (Af ?_)))
  refine Ar (Ac rfl (Ab (by simp only[zo,Bh,hw]<;>exact rfl) ?_))
  refine Ae rfl (Aa (Fb (by simp only[ze]<;>exact rfl) ?_))
  exact⟨b.length-(i+1),by omega,i+1,_,_,_,_,_,_,by rw[O1 xu,Hr (Ir _ _ _),Hr (Kr _)];simp only[Lo_];exact rfl,by rw[O1 xu,Hr (Ir _ _ _),Hr (Kr _)];simp only[Ll_,Nat.add_assoc];exact rfl,by omega,rfl⟩
 have hi':i=b.length:=by have:=of_decide_eq_false uw;omega
 subst hi'
 refine Cf (E5 (Fp (Fa (Bd rfl (Ag (Ad (Ap (Aa (Af ?_)))))))))
 refine Aq (Cz (fun n env S'=>∃(i v:Nat) (C5 C6 C8 C9 C10:D),S'=⟨[oPer,⟨39,5,posT (Iu a b) i,v,2,true⟩],0⟩∧env=[ax,bx,.Vu,.ptr 0 0 0 0,.msl 1 v 0 (Iu a b).length none,C5,C6,.int .i64 (i:Nat),C8,C9,C10]∧i≤(Iu a b).length∧n=(Iu a b).length-i) ((Iu a b).length) (by omega) (⟨0,_,_,_,_,_,_,by rw[posT_0,secL_eq];exact rfl,by rw[secL_eq,←Gf];exact rfl,by omega,by omega⟩) ?_)
 rintro n env S' ⟨i,v,C5,C6,C8,C9,C10,rfl,rfl,hi,rfl⟩
 refine Ag (Ad (Ac rfl (Ac rfl (Ab (by simp only[zo,J3,oPer,tkR]<;>exact rfl) ?_))))
 refine xo1 ?_
 refine Aa (Af ?_)
 refine Bv (by simp only[opd,zv]<;>exact rfl) (fun vP=>?_) (fun vP=>?_)
 ·
  have xu:i<(Iu a b).length:=by have:=of_decide_eq_true vP;omega
  have hw:=Dx i (by omega)
  have uI:=posT_at xu
  have hi0:(0:Int)≤(i:Int):=by omega
  have wV:(i:Int)<((Iu a b).length:Int):=by omega
  have yX:=aI hw (aI uI (aI hi0 (aI wV (@Int.toNat_natCast))))
  refine Aj (Bd rfl (Ag (Aq (Ar (Ac rfl (Ac rfl (Ac rfl (Ab (by simp only[zo,Bh,yX]<;>exact rfl) ?_))))))))
  refine Ab (by simp only[zo,Hf,overlay,zc,List.take,List.drop,Nat.reduceAdd,Nat.reduceLeDiff,zm,yX]<;>exact rfl) ?_
  refine Ab (by simp only[zl,zm,Cq,yX]<;>exact rfl) ?_
  refine Ab (by simp only[zo,E9,zm,yX]<;>exact rfl) ?_
  refine Ab (by simp only[zl,zm,Cc,overlay,Bw,zs,List.take,tkR,yX]<;>exact rfl) ?_
  refine Aa (Eb (Af ?_))
  refine Ar (Ac rfl (Ab (by simp only[zo,Bh,yX]<;>exact rfl) ?_))
  refine Ae rfl (Aa (Fb (by simp only[ze]<;>exact rfl) ?_))
  exact⟨(Iu a b).length-(i+1),by omega,i+1,_,_,_,_,_,_,by rw[←posT_set xu];exact rfl,rfl,by omega,rfl⟩
 have hi':i=(Iu a b).length:=by have:=of_decide_eq_false vP;omega
 subst hi'
 refine Cf (E5 (Fp (Fa (Bd rfl (Ad (Ac rfl (Ae rfl (Aa (Af ?_)))))))))
 refine Av ?_
 refine⟨_,by simp only[F9,Ak,Bb,Cb,zg]<;>exact rfl,?_⟩
 simp[Dv,leave,Vl,Vi,snap,D.Vk,D.Vj,D.free,D.Vo,posT_end,take_posR]
theorem index_run{d:Nat}(hd:1≤d)(S:St){x:D}{l:List ByteArray}(hS:SlD 1 (Co l) x)(s:ByteArray)(hl:l.length≤1000000) :
  Az LP NN d 206 [x,.str s] S=some (.int .i64 (idxI (fun x=>s.toList==x.toList) l),S,false):=by
 refine run_pure (F:=F206) rfl (by simp only[LP,Al,zs,hS.Vi]<;>exact rfl) rfl (by simp only[LP,zf,zm,hS.Vj];try rfl) (by simp only[F206,zv]<;>exact rfl) (by omega) ?_
 rintro d rfl
 refine Ad (Ap (Aa (Af ?_)))
 refine Ag (Ad (Ac rfl (Ab (by simp only[zo,hS.len,Ej]<;>exact rfl) ?_)))
 refine Ap (Aa (Af ?_))
 refine Aq (Cz (fun n env S'=>∃(i:Nat) (u3 u6 u7:D),i≤l.length∧n=l.length-i∧((l.take i).any fun x=>s.toList==x.toList)=false∧S'=⟨[],0⟩∧env=[x,.str s,.int .i64 0,u3,.int .i64 l.length,.int .i64 i,u6,u7]) (l.length) (by omega) (⟨0,_,_,_,by omega,by omega,by simp,rfl,rfl⟩) ?_)
 rintro n env S' ⟨i,u3,u6,u7,hi,rfl,vR,rfl,rfl⟩
 have h0:(0:Int)≤(i:Int):=by omega
 refine Ad (xo1 ?_)
 refine Aa (Af ?_)
 refine Ag ?_
 refine Bv (by simp only[opd,zv]<;>exact rfl) (fun yG=>?_) (fun yG=>?_)
 ·
  have xu:i<l.length:=by have:=of_decide_eq_true yG;omega
  have hw:=Dx i (by omega)
  have hx:=Lg xu
  have yN:=fun (S:St)=>hS.iaddrN S .i64 (Jz xu)
  refine Aj (Bd rfl (Ag (Aq (Ad (Ac rfl (Ae rfl (Aa (Af ?_))))))))
  refine Ad (Ac rfl (Ac rfl (Ac rfl (Ab (by simp only[zl,zm,yN]<;>exact rfl) ?_))))
  refine xo3 ?_
  refine xo1 ?_
  refine Aa (Af ?_)
  refine Bv (by simp only[opd,zv]<;>exact rfl) (fun yA=>?_) (fun yA=>?_)
  ·
   refine Ad (Ac rfl (Ae rfl (Aa (Af ?_))))
   refine Av (G9 (D5 (Nw (G9 (D5 ?_)))))
   refine⟨_,by simp only[F206,Ak,Bb,Cb,zg]<;>exact rfl,?_⟩
   rw[idxI_at (p:=fun x=>s.toList==x.toList) xu yA vR];rfl
  refine Aj (Eb (Bd rfl (Ar (Ab (by simp only[zo,Bh,hw]<;>exact rfl) ?_))))
  refine Ae rfl (Aa (Fb (by simp only[ze]<;>exact rfl) ?_))
  exact⟨l.length-(i+1),by omega,i+1,_,_,_,by omega,rfl,any_take_succ xu vR yA,rfl,rfl⟩
 have zF:l.length≤i:=by have:=of_decide_eq_false yG;omega
 refine Cf (E5 (Fp (Fa (Bd rfl (Ad (Ap (Aa (Af ?_))))))))
 refine Av ?_
 refine⟨_,by simp only[F206,Ak,Bb,Cb,zg]<;>exact rfl,?_⟩
 rw[List.take_of_length_le zF]at vR
 rw[Sg vR];rfl
theorem contains_run{d:Nat}(hd:2≤d)(S:St){x:D}{l:List ByteArray}(hS:SlD 1 (Co l) x)(s:ByteArray)(hl:l.length≤1000000) :
  Az LP NN d 180 [x,.str s] S=some (.bool (l.any fun x=>s.toList==x.toList),S,false):=by
 refine run_pure (F:=F180) rfl (by simp only[LP,Al,zs,hS.Vi]<;>exact rfl) rfl (by simp only[LP,zf,zm,hS.Vj];try rfl) (by simp only[F180,zv]<;>exact rfl) (by omega) ?_
 rintro d rfl
 refine Ad (Ap (Aa (Af ?_)))
 refine Ad (Ac rfl (Ac rfl (Ab (by simp only[zo];exact index_run (by omega) _ hS s hl) ?_)))
 refine xo1 ?_
 refine Ae rfl (Aa (Af ?_))
 refine Av ?_
 refine⟨_,by simp only[F180,Ak,Bb,Cb,zg]<;>exact rfl,?_⟩
 rw[idxI_nonneg];rfl
def PO (lx:D) (a c:Nat) (ox:D):U9:=⟨87,4,[[lx,.int .i64 (a:Nat),.int .i64 (c:Nat),ox]],0,0,false⟩
theorem is_run{d:Nat}(hd:4≤d){H:List U9}{g a c:Nat}{lx ox tx:D}{rest:List (List D)}{k l0 c0 kd:Nat}{s:ByteArray}{texts:List ByteArray}(hH:H[g]?=some (PO lx a c ox))(hL:SlD 5 (tkR k s l0 c0::rest) lx)(hX:SlD 1 (Co texts) tx)(yT:texts.length≤1000000)(lo:Nat) :
  Az LP NN d 142 [.ptr g 0 0 0,.int .u8 (kd:Nat),tx] ⟨H,lo⟩=some (.bool (((k:Int)==(kd:Int))&&(texts.isEmpty||texts.any fun x=>s.toList==x.toList)),⟨H,lo⟩,false):=by
 have xg:Im false lx=some (.int .i64 ((rest.length+1:Nat):Int)):=hL.len
 have yS:decide (((rest.length+1:Nat):Int)>0)=true:=decide_eq_true (by omega)
 have yN:=fun (S:St)=>hL.Vs S .i64 (i:=0) (r:=tkR k s l0 c0) (by omega) rfl
 refine Du (F:=F142) rfl (by simp only[LP,Al,zs,hX.Vi]<;>exact rfl) rfl (by simp only[LP,zf,zm,hX.Vj];try rfl) (by simp only[F142,zv]<;>exact rfl) (by omega) ?_
 rintro d rfl
 have yX:=aI hH (aI xg (aI hX.len (aI yS (yN))))
 refine Ad (Ap (Aa (Af ?_)))
 refine Ad (Ac rfl (xo0 ?_))
 refine xo2 ?_
 refine Ab (by simp only[zl,zm,zd,Be,List.take,List.drop,PO,yX]<;>exact rfl) ?_
 refine Ab (by simp only[zo,yX]<;>exact rfl) ?_
 refine Ab (by simp only[zo,Bh,yX]<;>exact rfl) ?_
 refine Ae rfl (Ce 0 (b:=true) ?_)
 refine Ai rfl (Ac rfl (Ai rfl (xo0 ?_)))
 refine Ai rfl (xo2 ?_)
 refine Ai rfl (Ab (by simp only[zl,zm,zd,Be,List.take,List.drop,PO,yX]<;>exact rfl) ?_)
 refine Ai rfl (Ab (by simp only[zl,zm,tkR,yX]<;>exact rfl) ?_)
 refine Ai rfl (xo5 ?_)
 refine Ai rfl (xo3 ?_)
 refine Ai rfl (Ac rfl (Ai rfl (xo1 ?_)))
 refine xo0 ?_
 refine Ae rfl ?_
 refine Dr 0 (by simp only[zv]<;>exact rfl) (by simp only[zn]<;>exact rfl) (by simp only[zn]<;>exact rfl) (fun hg=>?_) (fun hg=>?_)
 ·
  refine Ai rfl (Ac rfl (Ai rfl (Ab (by simp only[zo,Ej,yX]<;>exact rfl) ?_)))
  refine Ai rfl (xo1 ?_)
  refine Ai rfl (Ae rfl ?_)
  refine Dr 0 (by simp only[zv]<;>exact rfl) (by simp only[zn]<;>exact rfl) (by simp only[zn]<;>exact rfl) (fun hgT=>?_) (fun hgT=>?_)
  ·
   have htT:texts=[]:=by
    have h:=hgT;simp at h;exact h
   refine Ao rfl rfl (Ao rfl rfl (Ao rfl rfl (Ao rfl rfl (Ao rfl rfl (Ao rfl rfl (Ao rfl rfl (Ao rfl rfl (Ao rfl rfl (Ai rfl (xo0 ?_))))))))))
   refine xo0 ?_
   refine Ae rfl (Aa (Af ?_))
   refine Av ?_
   refine⟨_,by simp only[F142,Ak,Bb,Cb,zg]<;>exact rfl,?_⟩
   simp[leave,LP,Vl,Vi,snap,D.Vk,D.Vj,D.free,D.Vo,hg,htT]
  have htF:texts≠[]:=by
   have h:=hgT;intro e;rw[e]at h;simp at h
  refine Ai rfl (Ac rfl (Ai rfl (Ac rfl (Ai rfl (xo0 ?_)))))
  refine Ai rfl (xo2 ?_)
  refine Ai rfl (Ab (by simp only[zl,zm,zd,Be,List.take,List.drop,PO,yX]<;>exact rfl) ?_)
  refine Ai rfl (Ab (by simp only[zl,zm,tkR,yX]<;>exact rfl) ?_)
  refine Ai rfl (xo5 ?_)
  refine Ai rfl (xo3 ?_)
  refine Ai rfl (Ab (by simp only[zo];exact contains_run (by omega) _ hX s yT) ?_)
  refine Ai rfl (xo0 ?_)
  refine xo0 ?_
  refine Ae rfl (Aa (Af ?_))
  refine Av ?_
  refine⟨_,by simp only[F142,Ak,Bb,Cb,zg]<;>exact rfl,?_⟩
  simp[leave,LP,Vl,Vi,snap,D.Vk,D.Vj,D.free,D.Vo,hg,htF]
 refine Ao rfl rfl (Ao rfl rfl (Ao rfl rfl (Ao rfl rfl (El rfl (El rfl (El rfl (El rfl (El rfl (El rfl (El rfl (El rfl (El rfl (Ao rfl rfl (xo0 ?_))))))))))))))
 refine Ae rfl (Aa (Af ?_))
 refine Av ?_
 refine⟨_,by simp only[F142,Ak,Bb,Cb,zg]<;>exact rfl,?_⟩
 simp[leave,LP,Vl,Vi,snap,D.Vk,D.Vj,D.free,D.Vo,hg]
theorem Cy{H l:List U9}{g:Nat}(h:g<H.length):(H++l)[g]?=H[g]?:=La_ h
theorem Jc{H l:List U9}{g:Nat}(h:g<H.length)(x:U9):(H++l).set g x=H.set g x++l:=List.set_append_left g x h
theorem Br{H:List U9}{g:Nat}{o:U9}(h:H[g]?=some o):g<H.length:=(List.getElem?_eq_some_iff.1 h).1
theorem at_S0(H l:List U9)(g:Nat)(x:U9):(H.set g x++l)[H.length]?=l[0]?:=by
 rw[Lr_ (by simp)];simp
theorem at_S(H l:List U9)(g k:Nat)(x:U9):(H.set g x++l)[H.length+k]?=l[k]?:=by
 rw[Lr_ (by simp)];simp
theorem set_S0(H l:List U9)(g:Nat)(x y:U9):(H.set g x++l).set H.length y=H.set g x++l.set 0 y:=by
 rw[List.set_append_right _ _ (by simp)];simp
theorem set_S(H l:List U9)(g k:Nat)(x y:U9):(H.set g x++l).set (H.length+k) y=H.set g x++l.set k y:=by
 rw[List.set_append_right _ _ (by simp)];simp
theorem Gb{H:List U9}{g:Nat}(h:g<H.length)(x:U9):(H.set g x)[g]?=some x:=List.getElem?_set_self h
structure Upd (H H':List U9) (g:Nat) (o:U9):Prop where
 at_:H'[g]?=some o
 len:H.length≤H'.length
 ne:∀k,k<H.length→k≠g→H'[k]?=H[k]?
theorem Upd.of{H:List U9}{g:Nat}(h:g<H.length)(o:U9)(l:List U9):Upd H (H.set g o++l) g o :=
 ⟨by rw[Cy (by simpa using h)];exact Gb h o,by simp,fun k hk hn=>by rw[Cy (by simpa using hk),Ln_ (Ne.symm hn)]⟩
theorem Upd.trans{H1 H2 H3:List U9}{g:Nat}{o p:U9}(h:Upd H1 H2 g o)(k:Upd H2 H3 g p):Upd H1 H3 g p :=
 ⟨k.at_,Nat.le_trans h.len k.len,fun q hq hn=>(k.ne q (Nat.lt_of_lt_of_le hq h.len) hn).trans (h.ne q hq hn)⟩
theorem Upd.refl{H:List U9}{g:Nat}{o:U9}(h:H[g]?=some o):Upd H H g o:=⟨h,Nat.le_refl _,fun _ _ _=>rfl⟩
theorem Upd.app{H H':List U9}{g:Nat}{o:U9}(h:Upd H H' g o)(l:List U9):Upd H (H'++l) g o :=
 ⟨by rw[Cy (Br h.at_)];exact h.at_,by rw[Ll_];have:=h.len;omega,fun k hk hn=>by rw[Cy (Nat.lt_of_lt_of_le hk h.len)];exact h.ne k hk hn⟩
def tkO (k:Nat) (s:ByteArray) (l c:Nat):U9:=⟨39,5,[tkR k s l c],0,0,false⟩
def isB (k kd:Nat) (s:ByteArray) (texts:List ByteArray):Bool:=((k:Int)==(kd:Int))&&(texts.isEmpty||texts.any fun x=>s.toList==x.toList)
section
variable (d:Nat) (S:St)
theorem dig_tab:(List.range 100).map (fun k=>Cj LP NN (d+4) 90 [.str (Gt k)] S)=(List.range 100).map (fun _=>some (.bool true,S,false)):=by kernel_rfl
theorem atoi_tab:(List.range 100).map (fun k=>Cj LP NN (d+4) 91 [.str (Gt k)] S)=(List.range 100).map (fun k=>some (.tup [.int .i64 ((k:Nat):Int),.nili],S,false)):=by kernel_rfl
end
theorem dig_run{d:Nat}(hd:4≤d)(S:St)(n:Nat)(hn:n<100):Az LP NN d 90 [.str (Gt n)] S=some (.bool true,S,false):=by
 obtain⟨d,rfl⟩:∃d',d=d'+4:=⟨d-4,by omega⟩
 exact fast_ok (Ga (dig_tab d S) n hn)
theorem atoi_run{d:Nat}(hd:4≤d)(S:St)(n:Nat)(hn:n<100):Az LP NN d 91 [.str (Gt n)] S=some (.tup [.int .i64 (n:Nat),.nili],S,false):=by
 obtain⟨d,rfl⟩:∃d',d=d'+4:=⟨d-4,by omega⟩
 exact fast_ok (Ga (atoi_tab d S) n hn)
theorem skip_hit{d:Nat}(hd:5≤d){H:List U9}{g a c:Nat}{lx ox tx:D}{rest:List (List D)}{k l0 c0:Nat}{s:ByteArray}{texts:List ByteArray}(hH:H[g]?=some (PO lx a c ox))(hL:SlD 5 (tkR k s l0 c0::rest) lx)(hX:SlD 1 (Co texts) tx)(yT:texts.length≤1000000)(hb:isB k 1 s texts=true)(lo:Nat):Az LP NN d 93 [.ptr g 0 0 0,tx] ⟨H,lo⟩=some (.bool true,⟨H.set g (PO (Ea 1 lx) a c ox),min lo g⟩,true):=by
 have hl:=Br hH
 have uI:=fun (x:U9)=>Gb hl x
 have hla:∀(l:List U9),H.length≤(H++l).length:=fun l=>by simp
 have wL:=fun (S:St)=>hL.slice_1 S (by simp)
 have yN:=fun (S:St)=>hL.Vs S .i64 (i:=0) (r:=tkR k s l0 c0) (by omega) rfl
 have hD:=hL.drop 1
 have xS:min H.length g=g:=by omega
 have wm:¬H.length≤g:=by omega
 have qc:min g H.length=g:=by omega
 have hmk:∀k:Nat,min g (H.length+k)=g:=fun k=>by omega
 refine Du (F:=F93) rfl (by simp only[LP,Al,zs,hX.Vi]<;>exact rfl) rfl (by simp only[LP,zf,zm,hX.Vj];try rfl) (by simp only[F93,zv]<;>exact rfl) (by omega) ?_
 rintro d rfl
 have yX:=aI @at_S0 (aI @at_S (aI @set_S0 (aI @set_S (aI @List.getElem?_cons_zero.{0} (aI @List.getElem?_cons_succ.{0} (aI @List.length_set.{0} (aI @List.set_set.{0} (aI hH (aI uI (aI wL (aI hD.Vn (aI hD.val (hD.cells)))))))))))))
 refine Ad (Ap (Aa (Af ?_)))
 refine Ad (Ac rfl (Ac rfl (Ab (by simp only[zo];exact (is_run (by omega) hH hL hX yT _).trans (congrArg (fun b=>some (D.bool b,_,false)) hb)) ?_)))
 refine Ae rfl (Aa (Af ?_))
 refine Ag (Ad (Ac rfl (Aa (Af ?_))))
 refine Eo ?_
 refine Ar (Ac rfl (Ac rfl (xo0 ?_)))
 refine xo2 ?_
 refine Ab (by simp only[zl,zm,zd,Be,List.take,List.drop,Nat.reduceAdd,PO,yX]<;>exact rfl) ?_
 refine Ab (by simp only[opd,zv,Ba,aop,LOp.loud,lop,if_true,Cm,Option.map_some,yX]<;>exact rfl) ?_
 refine xo0 ?_
 refine xo2 ?_
 refine Ab (by simp only[zl,zm,Cc,overlay,List.take,List.drop,Nat.reduceAdd,PO,yX]<;>exact rfl) ?_
 refine Aa (Af ?_)
 refine Ad (Ac rfl (Ae rfl (Aa (Af ?_))))
 refine Av ?_
 refine⟨_,by simp only[F93,Ak,Bb,Cb,zg]<;>exact rfl,?_⟩
 simp[leave,LP,Vl,Vi,snap,xS,wm,PO]
theorem Ry{d:Nat}(hd:5≤d){H:List U9}{g a c:Nat}{lx ox tx:D}{rest:List (List D)}{k l0 c0:Nat}{s:ByteArray}{texts:List ByteArray}(hH:H[g]?=some (PO lx a c ox))(hL:SlD 5 (tkR k s l0 c0::rest) lx)(hX:SlD 1 (Co texts) tx)(yT:texts.length≤1000000)(hb:isB k 1 s texts=false)(lo:Nat):Az LP NN d 93 [.ptr g 0 0 0,tx] ⟨H,lo⟩=some (.bool false,⟨H,lo⟩,false):=by
 have hl:=Br hH
 have uI:=fun (x:U9)=>Gb hl x
 have hla:∀(l:List U9),H.length≤(H++l).length:=fun l=>by simp
 have wL:=fun (S:St)=>hL.slice_1 S (by simp)
 have yN:=fun (S:St)=>hL.Vs S .i64 (i:=0) (r:=tkR k s l0 c0) (by omega) rfl
 have hD:=hL.drop 1
 have xS:min H.length g=g:=by omega
 have wm:¬H.length≤g:=by omega
 have qc:min g H.length=g:=by omega
 have hmk:∀k:Nat,min g (H.length+k)=g:=fun k=>by omega
 refine Du (F:=F93) rfl (by simp only[LP,Al,zs,hX.Vi]<;>exact rfl) rfl (by simp only[LP,zf,zm,hX.Vj];try rfl) (by simp only[F93,zv]<;>exact rfl) (by omega) ?_
 rintro d rfl
 have yw:=aI @at_S0 (aI @at_S (aI @set_S0 (aI @set_S (aI @List.getElem?_cons_zero.{0} (aI @List.getElem?_cons_succ.{0} (aI @List.length_set.{0} (aI @List.set_set.{0} (aI hH (uI)))))))))
 refine Ad (Ap (Aa (Af ?_)))
 refine Ad (Ac rfl (Ac rfl (Ab (by simp only[zo];exact (is_run (by omega) hH hL hX yT _).trans (congrArg (fun b=>some (D.bool b,_,false)) hb)) ?_)))
 refine Ae rfl (Aa (Af ?_))
 refine Ag (Ad (Ac rfl (Aa (Af ?_))))
 refine Ca ?_
 refine Aj (Bd rfl (Ad (Ac rfl (Ae rfl (Aa (Af ?_))))))
 refine Av ?_
 refine⟨_,by simp only[F93,Ak,Bb,Cb,zg]<;>exact rfl,?_⟩
 simp[leave,LP,Vl,Vi,snap,D.Vk,D.Vj,D.free,D.Vo]
theorem I9{d:Nat}(hd:5≤d){H:List U9}{g a c:Nat}{lx ox tx:D}{rest:List (List D)}{k l0 c0 kd:Nat}{s:ByteArray}{texts:List ByteArray}(hH:H[g]?=some (PO lx a c ox))(hL:SlD 5 (tkR k s l0 c0::rest) lx)(hX:SlD 1 (Co texts) tx)(yT:texts.length≤1000000)(hb:isB k kd s texts=true)(lo:Nat):Az LP NN d 89 [.ptr g 0 0 0,.int .u8 (kd:Nat),tx] ⟨H,lo⟩=some (.agg (tkR k s l0 c0),⟨H.set g (PO (Ea 1 lx) a c ox)++[tkO k s l0 c0,tkO k s l0 c0],min lo g⟩,true):=by
 have hl:=Br hH
 have uI:=fun (x:U9)=>Gb hl x
 have hla:∀(l:List U9),H.length≤(H++l).length:=fun l=>by simp
 have wL:=fun (S:St)=>hL.slice_1 S (by simp)
 have yN:=fun (S:St)=>hL.Vs S .i64 (i:=0) (r:=tkR k s l0 c0) (by omega) rfl
 have hD:=hL.drop 1
 have xS:min H.length g=g:=by omega
 have wm:¬H.length≤g:=by omega
 have qc:min g H.length=g:=by omega
 have hmk:∀k:Nat,min g (H.length+k)=g:=fun k=>by omega
 refine Du (F:=F89) rfl (by simp only[LP,Al,zs,hX.Vi]<;>exact rfl) rfl (by simp only[LP,zf,zm,hX.Vj];try rfl) (by simp only[F89,zv]<;>exact rfl) (by omega) ?_
 rintro d rfl
 have xQ:=aI @at_S0 (aI @at_S (aI @set_S0 (aI @set_S (aI @List.getElem?_cons_zero.{0} (aI @List.getElem?_cons_succ.{0} (aI @List.length_set.{0} (aI @List.set_set.{0} (aI hH (aI uI (aI wL (aI yN (aI hD.Vn (aI hD.val (aI hD.cells (aI @Dn (@Ec))))))))))))))))
 refine Ad (Ab (by simp only[zl,zm,Nat.reduceAdd]<;>exact rfl) ?_)
 refine Aa (Af ?_)
 refine Ag (Ad (Ac rfl (Ac rfl (Ac rfl (Ab (by simp only[zo];exact (is_run (by omega) (by rw[Cy hl];exact hH) hL hX yT _).trans (congrArg (fun b=>some (D.bool b,_,false)) hb)) ?_)))))
 refine xo9 ?_
 refine Aa (Af ?_)
 refine Ca ?_
 refine Aj (Bd rfl (Ad (Ac rfl (xo0 ?_))))
 refine xo2 ?_
 refine Ab (by simp only[zl,zm,zd,Be,List.take,List.drop,Cy hl,Nat.reduceAdd,PO,xQ]<;>exact rfl) ?_
 refine Ab (by simp only[zl,zm,tkR,xQ]<;>exact rfl) ?_
 refine Ab (by simp only[zl,zm,zd,Be,List.take,List.drop,Nat.reduceAdd,xQ]<;>exact rfl) ?_
 refine Ab (by simp only[zl,zm,Nat.reduceAdd]<;>exact rfl) ?_
 refine Ab (by simp only[zl,zm,Cc,overlay,Bw,zs,zc,zf,List.take,List.drop,Nat.reduceAdd,xQ]<;>exact rfl) ?_
 refine Aa (Af ?_)
 refine Ad (Ac rfl (Ac rfl (xo0 ?_)))
 refine xo2 ?_
 refine Ab (by simp only[zl,zm,zd,Be,List.take,List.drop,Cy hl,Nat.reduceAdd,PO,xQ]<;>exact rfl) ?_
 refine Ab (by simp only[opd,zv,Ba,aop,LOp.loud,lop,if_true,Cm,Option.map_some,xQ]<;>exact rfl) ?_
 refine xo0 ?_
 refine xo2 ?_
 refine Ab (by simp only[zl,zm,Cc,overlay,List.take,List.drop,Cy hl,Jc hl,Nat.reduceAdd,PO,xQ]<;>exact rfl) ?_
 refine Aa (Af ?_)
 refine Ad (Ab (by simp only[zl,zm,zd,Be,List.take,List.drop,Nat.reduceAdd,xQ]<;>exact rfl) ?_)
 refine Ab (by simp only[zl,zm,Cc,overlay,Bw,zs,zc,zf,List.take,List.drop,Nat.reduceAdd,xQ]<;>exact rfl) ?_
 refine Aa (Af ?_)
 refine Av ?_
 refine⟨_,by simp only[F89,Ak,Bb,Cb,zg,zd,rowsOf,Be,List.take,List.drop,zm,at_S0,Nat.reduceAdd]<;>exact rfl,?_⟩
 simp[leave,LP,Vl,Vi,snap,xS,wm,qc,tkR,tkO,Bw,PO]
theorem Q7(k:Nat)(s:ByteArray):isB k k s []=true:=by simp[isB]
theorem number_at{d:Nat}(hd:7≤d){H:List U9}{g a c:Nat}{lx ox:D}{rest:List (List D)}{l0 c0 n:Nat}(hn:n<100)(hH:H[g]?=some (PO lx a c ox))(hL:SlD 5 (tkR 2 (Gt n) l0 c0::rest) lx)(lo:Nat) :
  Az LP NN d 50 [.ptr g 0 0 0] ⟨H,lo⟩=some (.int .i64 (n:Nat),⟨H.set g (PO (Ea 1 lx) a c ox)++[tkO 2 (Gt n) l0 c0,tkO 2 (Gt n) l0 c0,tkO 2 (Gt n) l0 c0],min lo g⟩,true):=by
 have hl:=Br hH
 have uI:=fun (x:U9)=>Gb hl x
 have hla:∀(l:List U9),H.length≤(H++l).length:=fun l=>by simp
 have wL:=fun (S:St)=>hL.slice_1 S (by simp)
 have yN:=fun (S:St)=>hL.Vs S .i64 (i:=0) (r:=tkR 2 (Gt n) l0 c0) (by omega) rfl
 have hD:=hL.drop 1
 have xS:min H.length g=g:=by omega
 have wm:¬H.length≤g:=by omega
 have qc:min g H.length=g:=by omega
 have hmk:∀k:Nat,min g (H.length+k)=g:=fun k=>by omega
 have hnm:¬H.length≤min H.length g:=by omega
 refine Du (F:=F50) rfl (by simp only[LP,Al,zs]<;>exact rfl) rfl (by simp only[LP,zf,zm];try rfl) (by simp only[F50,zv]<;>exact rfl) (by omega) ?_
 rintro d rfl
 have xP:=aI @at_S0 (aI @at_S (aI @set_S0 (aI @set_S (aI @List.getElem?_cons_zero.{0} (aI @List.getElem?_cons_succ.{0} (aI @List.length_set.{0} (aI @List.set_set.{0} (aI hH (aI uI (aI @Dn (@Ec)))))))))))
 refine Ad (Ap (Aa (Af ?_)))
 refine Ad (Ac rfl (Ab (by simp only[zo];exact I9 (by omega) hH hL (texts:=[]) (.nil 1) (by simp) (Q7 2 _) _) ?_))
 refine Ab (by simp only[zl,zm,Nat.reduceAdd,PO,tkR,tkO,xP]<;>exact rfl) ?_
 refine Ab (by simp only[zl,zm,Cc,overlay,Bw,zs,zc,zf,List.take,List.drop,Nat.reduceAdd,tkR,xP]<;>exact rfl) ?_
 refine Aa (Af ?_)
 refine Ag (Ad (xo2 ?_))
 refine xo32 ?_
 refine Ab (by simp only[zo];exact dig_run (by omega) _ n hn) ?_
 refine xo9 ?_
 refine Aa (Af ?_)
 refine Ca ?_
 refine Aj (Bd rfl (Ad (xo2 ?_)))
 refine xo32 ?_
 refine Ab (by simp only[zo];exact atoi_run (by omega) _ n hn) ?_
 refine Ae rfl (Ab (by simp only[zo,xP]<;>exact rfl) ?_)
 refine Ab (by simp only[zo,xP]<;>exact rfl) ?_
 refine Ae rfl (Ae rfl (Aa (Af ?_)))
 refine Ag (Ad (Ac rfl (Ab (by simp only[zo,Qe]<;>exact rfl) ?_)))
 refine Aa (Af ?_)
 refine Ca ?_
 refine Aj (Bd rfl (Ad (Ac rfl (Ae rfl (Aa (Af ?_))))))
 refine Av ?_
 refine⟨_,by simp only[F50,Ak,Bb,Cb,zg]<;>exact rfl,?_⟩
 simp[leave,LP,Vl,Vi,snap,xS,wm,hmk,tkR,tkO,PO]
theorem posR_cons(n:Nat)(p:Nat × ByteArray)(l:List (Nat × ByteArray)):Fj n (p::l)=tkR p.1 p.2 n 12::Fj (n+1) l:=by
 simp[Fj,List.mapIdx_cons,Nat.add_comm,Nat.add_left_comm]
theorem Gx{n:Nat}{p:Nat × ByteArray}{l:List (Nat × ByteArray)}{x:D}(h:SlD 5 (Fj n (p::l)) x):SlD 5 (Fj (n+1) l) (Ea 1 x):=by
 have:=h.drop 1
 rw[posR_cons]at this
 exact this
theorem Fq{n:Nat}{p:Nat × ByteArray}{l:List (Nat × ByteArray)}{x:D}(h:SlD 5 (Fj n (p::l)) x):SlD 5 (tkR p.1 p.2 n 12::Fj (n+1) l) x:=by rw[←posR_cons];exact h
theorem Nj{d:Nat}(hd:5≤d){H:List U9}{g a c m:Nat}{lx ox:D}(w:ByteArray)(b:Bool){t:Nat × ByteArray}{L:List (Nat × ByteArray)}(hH:H[g]?=some (PO lx a c ox))(hL:SlD 5 (Fj m ((if b then [(1,w)] else [])++t::L)) lx)(ht:isB t.1 1 t.2 [w]=false) :
  ∃H' lx' wr m',Az LP NN d 93 [.ptr g 0 0 0,.sl 1 [[.str w]] (some 1)] ⟨H,g⟩=some (.bool b,⟨H',g⟩,wr)∧Upd H H' g (PO lx' a c ox)∧SlD 5 (Fj m' (t::L)) lx':=by
 cases b with
 | true =>
  have h1:=skip_hit (texts:=[w]) (tx:=.sl 1 [[.str w]] (some 1)) hd hH (Fq hL) (.of _ _ _) (by simp) (by simp[isB]) g
  rw[Nat.min_self]at h1
  exact⟨_,_,_,_,h1,by have:=Upd.of (Br hH) (PO (Ea 1 lx) a c ox) [];rwa [List.append_nil]at this,Gx hL⟩
 | false =>
  have h1:=Ry (texts:=[w]) (tx:=.sl 1 [[.str w]] (some 1)) hd hH (Fq hL) (.of _ _ _) (by simp) ht g
  exact⟨_,_,_,_,h1,Upd.refl hH,hL⟩
def kNUM:ByteArray:=⟨#[78,85,77,66,69,82]⟩
def kIS:ByteArray:=⟨#[73,83]⟩
theorem place_at{d:Nat}(hd:9≤d){H H2 H3 H4:List U9}{g:Nat}{tx:D}{texts:List ByteArray}{x1:D}{b1 b2 w2 w3:Bool}{n:Nat}{H1:List U9}(hX:SlD 1 (Co texts) tx)(yB:g<H.length)(hn4:¬H.length≤g)
  (h1:∀d',d=d'+1→∀lo,Az LP NN d' 89 [.ptr g 0 0 0,.int .u8 1,tx] ⟨H,lo⟩=some (x1,⟨H1,min lo g⟩,true)) (h2:∀d',d=d'+1→Az LP NN d' 93 [.ptr g 0 0 0,.sl 1 [[.str kNUM]] (some 1)] ⟨H1,g⟩=some (.bool b1,⟨H2,g⟩,w2))
  (h3:∀d',d=d'+1→Az LP NN d' 93 [.ptr g 0 0 0,.sl 1 [[.str kIS]] (some 1)] ⟨H2,g⟩=some (.bool b2,⟨H3,g⟩,w3)) (h4:∀d',d=d'+1→Az LP NN d' 50 [.ptr g 0 0 0] ⟨H3,g⟩=some (.int .i64 (n:Nat),⟨H4,g⟩,true)) (lo:Nat) :
  Az LP NN d 94 [.ptr g 0 0 0,tx] ⟨H,lo⟩=some (.int .i64 (n:Nat),⟨H4,min lo g⟩,true):=by
 have xS:min H.length g=g:=by omega
 have wm:¬H.length≤g:=by omega
 have qc:min g H.length=g:=by omega
 have hmk:∀k:Nat,min g (H.length+k)=g:=fun k=>by omega
 have hh1:∀d',d=d'+1→Az LP NN d' 89 [.ptr g 0 0 0,.int .u8 1,tx] ⟨H,H.length⟩=some (x1,⟨H1,g⟩,true):=fun d' e=>by rw[h1 d' e,xS]
 simp only[kNUM,kIS]at h2 h3
 refine Du (F:=F94) rfl (by simp only[LP,Al,zs,hX.Vi]<;>exact rfl) rfl (by simp only[LP,zf,zm,hX.Vj];try rfl) (by simp only[F94,zv]<;>exact rfl) (by omega) ?_
 rintro d rfl
 refine Ad (Ap (Aa (Af ?_)))
 refine Ad (Ac rfl (Ac rfl (Ab (by simp only[zo];exact hh1 d rfl) ?_)))
 refine Aa (Af ?_)
 refine Ad (Ac rfl (Pp ?_))
 first
  | refine Ab (by simp only[zo];exact h2 d rfl) ?_
  | refine Ab (by simp only[zo,xS,kNUM,kIS];exact h3 d rfl) ?_
 refine Aa (Af ?_)
 refine Ad (Ac rfl (Pp ?_))
 first
  | refine Ab (by simp only[zo];exact h2 d rfl) ?_
  | refine Ab (by simp only[zo];exact h3 d rfl) ?_
 refine Aa (Af ?_)
 refine Ad (Ac rfl (Ab (by simp only[zo];exact h4 d rfl) ?_))
 refine Ae rfl (Aa (Af ?_))
 refine Av ?_
 refine⟨_,by simp only[F94,Ak,Bb,Cb,zg]<;>exact rfl,?_⟩
 simp[leave,LP,Vl,Vi,snap,wm]
theorem place_run{d:Nat}(hd:9≤d){H:List U9}{g a c m n:Nat}{lx ox tx:D}{texts:List ByteArray}(b1 b2:Bool){w:ByteArray}{L:List (Nat × ByteArray)}(hn:n<100)(hH:H[g]?=some (PO lx a c ox))(hX:SlD 1 (Co texts) tx)(yT:texts.length≤1000000)(hb:isB 1 1 w texts=true)
  (hL:SlD 5 (Fj m ((1,w)::((if b1 then [(1,kNUM)] else [])++((if b2 then [(1,kIS)] else [])++(2,Gt n)::L)))) lx) :
  ∃H' lx' m',(∀lo,Az LP NN d 94 [.ptr g 0 0 0,tx] ⟨H,lo⟩=some (.int .i64 (n:Nat),⟨H',min lo g⟩,true))∧Upd H H' g (PO lx' a c ox)∧SlD 5 (Fj m' L) lx':=by
 have yB:=Br hH
 have h1:=I9 (d:=d-1) (by omega) hH (Fq hL) hX yT hb
 have u1:=Upd.of yB (PO (Ea 1 lx) a c ox) [tkO 1 w m 12,tkO 1 w m 12]
 have s1:=Gx hL
 have q2:∃H' lx' wr m',Az LP NN (d-1) 93 [.ptr g 0 0 0,.sl 1 [[.str kNUM]] (some 1)] ⟨H.set g (PO (Ea 1 lx) a c ox)++[tkO 1 w m 12,tkO 1 w m 12],g⟩=some (.bool b1,⟨H',g⟩,wr)∧Upd (H.set g (PO (Ea 1 lx) a c ox)++[tkO 1 w m 12,tkO 1 w m 12]) H' g (PO lx' a c ox)∧SlD 5 (Fj m' ((if b2 then [(1,kIS)] else [])++(2,Gt n)::L)) lx':=by
  cases b2 with
  | true=>exact Nj (d:=d-1) (by omega) kNUM b1 (t:=(1,kIS)) u1.at_ s1 (by decide +kernel)
  | false=>exact Nj (d:=d-1) (by omega) kNUM b1 (t:=(2,Gt n)) u1.at_ s1 (by simp[isB])
 obtain⟨H2,lx2,w2,m2,h2,u2,s2⟩:=q2
 obtain⟨H3,lx3,w3,m3,h3,u3,s3⟩:=Nj (d:=d-1) (by omega) kIS b2 (t:=(2,Gt n)) u2.at_ s2 (by simp[isB])
 have h4:=number_at (d:=d-1) (by omega) hn u3.at_ (Fq s3) g
 rw[Nat.min_self]at h4
 have u4:=Upd.of (Br u3.at_) (PO (Ea 1 lx3) a c ox) [tkO 2 (Gt n) m3 12,tkO 2 (Gt n) m3 12,tkO 2 (Gt n) m3 12]
 exact⟨_,_,_,fun lo=>place_at hd hX yB (by omega) (fun d' e=>by subst e;exact h1) (fun d' e=>by subst e;exact h2) (fun d' e=>by subst e;exact h3) (fun d' e=>by subst e;exact h4) lo,u1.trans (u2.trans (u3.trans u4)),Gx s3⟩
def Gm (nu:Bool) (n:Nat):ByteArray:=if nu then ⟨(([90,90,90,90,90,57]:List UInt8).drop (6-n)).toArray⟩ else ⟨(List.replicate n 88).toArray⟩
theorem FM.pic_eq(f:FM):f.pic=Gm f.nu f.size:=rfl
def Dh (nu:Bool) (n:Nat):List D:=[.int .u8 (if nu then (if n=1 then 4 else 5) else 2),.int .u8 0,.str (Gm nu n),.int .i64 (if nu then (n:Nat) else 0),.int .i64 0,.bool false,.bool false,.bool false,.bool false,.bool false,.int .i64 (n:Nat)]
section
variable (d:Nat) (S:St)
theorem parse_T0:Cj LP NN (d+14) 17 [.str (Gm true 1)] S=some (.tup [.agg (Dh true 1),.int .i64 0],S,false):=by kernel_rfl
theorem parse_F0:Cj LP NN (d+14) 17 [.str (Gm false 1)] S=some (.tup [.agg (Dh false 1),.int .i64 0],S,false):=by kernel_rfl
theorem check_T0:Cj LP NN (d+16) 38 [.agg (Dh true 1)] S=some (.int .i64 0,S,false):=by kernel_rfl
theorem check_F0:Cj LP NN (d+16) 38 [.agg (Dh false 1)] S=some (.int .i64 0,S,false):=by kernel_rfl
theorem text_0:Cj LP NN (d+14) 88 [.int .i64 ((1:Nat):Int)] S=some (.agg (Dh false 1),S,false):=by kernel_rfl
theorem parse_T1:Cj LP NN (d+14) 17 [.str (Gm true 2)] S=some (.tup [.agg (Dh true 2),.int .i64 0],S,false):=by kernel_rfl
theorem parse_F1:Cj LP NN (d+14) 17 [.str (Gm false 2)] S=some (.tup [.agg (Dh false 2),.int .i64 0],S,false):=by kernel_rfl
theorem check_T1:Cj LP NN (d+16) 38 [.agg (Dh true 2)] S=some (.int .i64 0,S,false):=by kernel_rfl
theorem check_F1:Cj LP NN (d+16) 38 [.agg (Dh false 2)] S=some (.int .i64 0,S,false):=by kernel_rfl
theorem text_1:Cj LP NN (d+14) 88 [.int .i64 ((2:Nat):Int)] S=some (.agg (Dh false 2),S,false):=by kernel_rfl
theorem parse_T2:Cj LP NN (d+14) 17 [.str (Gm true 3)] S=some (.tup [.agg (Dh true 3),.int .i64 0],S,false):=by kernel_rfl
theorem parse_F2:Cj LP NN (d+14) 17 [.str (Gm false 3)] S=some (.tup [.agg (Dh false 3),.int .i64 0],S,false):=by kernel_rfl
theorem check_T2:Cj LP NN (d+16) 38 [.agg (Dh true 3)] S=some (.int .i64 0,S,false):=by kernel_rfl
theorem check_F2:Cj LP NN (d+16) 38 [.agg (Dh false 3)] S=some (.int .i64 0,S,false):=by kernel_rfl
theorem text_2:Cj LP NN (d+14) 88 [.int .i64 ((3:Nat):Int)] S=some (.agg (Dh false 3),S,false):=by kernel_rfl
theorem parse_T3:Cj LP NN (d+14) 17 [.str (Gm true 4)] S=some (.tup [.agg (Dh true 4),.int .i64 0],S,false):=by kernel_rfl
theorem parse_F3:Cj LP NN (d+14) 17 [.str (Gm false 4)] S=some (.tup [.agg (Dh false 4),.int .i64 0],S,false):=by kernel_rfl
theorem check_T3:Cj LP NN (d+16) 38 [.agg (Dh true 4)] S=some (.int .i64 0,S,false):=by kernel_rfl
theorem check_F3:Cj LP NN (d+16) 38 [.agg (Dh false 4)] S=some (.int .i64 0,S,false):=by kernel_rfl
theorem text_3:Cj LP NN (d+14) 88 [.int .i64 ((4:Nat):Int)] S=some (.agg (Dh false 4),S,false):=by kernel_rfl
theorem parse_T4:Cj LP NN (d+14) 17 [.str (Gm true 5)] S=some (.tup [.agg (Dh true 5),.int .i64 0],S,false):=by kernel_rfl
theorem parse_F4:Cj LP NN (d+14) 17 [.str (Gm false 5)] S=some (.tup [.agg (Dh false 5),.int .i64 0],S,false):=by kernel_rfl
theorem check_T4:Cj LP NN (d+16) 38 [.agg (Dh true 5)] S=some (.int .i64 0,S,false):=by kernel_rfl
theorem check_F4:Cj LP NN (d+16) 38 [.agg (Dh false 5)] S=some (.int .i64 0,S,false):=by kernel_rfl
theorem text_4:Cj LP NN (d+14) 88 [.int .i64 ((5:Nat):Int)] S=some (.agg (Dh false 5),S,false):=by kernel_rfl
theorem parse_T5:Cj LP NN (d+14) 17 [.str (Gm true 6)] S=some (.tup [.agg (Dh true 6),.int .i64 0],S,false):=by kernel_rfl
theorem parse_F5:Cj LP NN (d+14) 17 [.str (Gm false 6)] S=some (.tup [.agg (Dh false 6),.int .i64 0],S,false):=by kernel_rfl
theorem check_T5:Cj LP NN (d+16) 38 [.agg (Dh true 6)] S=some (.int .i64 0,S,false):=by kernel_rfl
theorem check_F5:Cj LP NN (d+16) 38 [.agg (Dh false 6)] S=some (.int .i64 0,S,false):=by kernel_rfl
theorem text_5:Cj LP NN (d+14) 88 [.int .i64 ((6:Nat):Int)] S=some (.agg (Dh false 6),S,false):=by kernel_rfl
theorem word_A:Cj LP NN (d+6) 92 [.str ⟨#[65]⟩] S=some (.int .u8 0,S,false):=by kernel_rfl
theorem word_B:Cj LP NN (d+6) 92 [.str ⟨#[66]⟩] S=some (.int .u8 0,S,false):=by kernel_rfl
end
section
variable {d:Nat} (hd:14≤d) (S:St)
include hd
theorem parse_run(f:FM):Az LP NN d 17 [.str f.pic] S=some (.tup [.agg (Dh f.nu f.size),.int .i64 0],S,false):=by
 obtain⟨d,rfl⟩:∃d',d=d'+14:=⟨d-14,by omega⟩
 have h:=f.size_le
 rw[f.pic_eq]
 obtain⟨k,hk⟩:∃k,f.size=k+1:=⟨f.size-1,by omega⟩
 rw[hk]
 cases f.nu with
 | true => match k, (show k < 6 by omega) with
   | 0,_=>exact fast_ok (parse_T0 d S)
   | 1,_=>exact fast_ok (parse_T1 d S)
   | 2,_=>exact fast_ok (parse_T2 d S)
   | 3,_=>exact fast_ok (parse_T3 d S)
   | 4,_=>exact fast_ok (parse_T4 d S)
   | 5,_=>exact fast_ok (parse_T5 d S)
 | false => match k, (show k < 6 by omega) with
   | 0,_=>exact fast_ok (parse_F0 d S)
   | 1,_=>exact fast_ok (parse_F1 d S)
   | 2,_=>exact fast_ok (parse_F2 d S)
   | 3,_=>exact fast_ok (parse_F3 d S)
   | 4,_=>exact fast_ok (parse_F4 d S)
   | 5,_=>exact fast_ok (parse_F5 d S)
theorem Pv(hd:16≤d)(nu:Bool)(n:Nat)(h1:1≤n)(h6:n≤6):Az LP NN d 38 [.agg (Dh nu n)] S=some (.int .i64 0,S,false):=by
 obtain⟨d,rfl⟩:∃d',d=d'+16:=⟨d-16,by omega⟩
 obtain⟨k,rfl⟩:∃k,n=k+1:=⟨n-1,by omega⟩
 cases nu with
 | true => match k, (show k < 6 by omega) with
   | 0,_=>exact fast_ok (check_T0 d S)
   | 1,_=>exact fast_ok (check_T1 d S)
   | 2,_=>exact fast_ok (check_T2 d S)
   | 3,_=>exact fast_ok (check_T3 d S)
   | 4,_=>exact fast_ok (check_T4 d S)
   | 5,_=>exact fast_ok (check_T5 d S)
 | false => match k, (show k < 6 by omega) with
   | 0,_=>exact fast_ok (check_F0 d S)
   | 1,_=>exact fast_ok (check_F1 d S)
   | 2,_=>exact fast_ok (check_F2 d S)
   | 3,_=>exact fast_ok (check_F3 d S)
   | 4,_=>exact fast_ok (check_F4 d S)
   | 5,_=>exact fast_ok (check_F5 d S)
theorem stext_run(n:Nat)(h1:1≤n)(h6:n≤6):Az LP NN d 88 [.int .i64 (n:Nat)] S=some (.agg (Dh false n),S,false):=by
 obtain⟨d,rfl⟩:∃d',d=d'+14:=⟨d-14,by omega⟩
 obtain⟨k,rfl⟩:∃k,n=k+1:=⟨n-1,by omega⟩
 match k,(show k<6 by omega) with
  | 0,_=>exact fast_ok (text_0 d S)
  | 1,_=>exact fast_ok (text_1 d S)
  | 2,_=>exact fast_ok (text_2 d S)
  | 3,_=>exact fast_ok (text_3 d S)
  | 4,_=>exact fast_ok (text_4 d S)
  | 5,_=>exact fast_ok (text_5 d S)
theorem wordA_run:Az LP NN d 92 [.str ⟨#[65]⟩] S=some (.int .u8 0,S,false):=by
 obtain⟨d,rfl⟩:∃d',d=d'+6:=⟨d-6,by omega⟩
 exact fast_ok (word_A d S)
theorem wordB_run:Az LP NN d 92 [.str ⟨#[66]⟩] S=some (.int .u8 0,S,false):=by
 obtain⟨d,rfl⟩:∃d',d=d'+6:=⟨d-6,by omega⟩
 exact fast_ok (word_B d S)
end
end Go.Proofs.YtkaedpmmopigkaaGreatDoor
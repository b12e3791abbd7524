/- Proved here: parts of the proof, joined (LowK, Low1, Low2, Low, LoRp, S0, K0, K42, K43, K44, K45, K50, K51, K52, K53, K54, K55, K56, K57, K58, K59, K60, K61, K62, K63, K64, K65, K66, K67, K68, K69, K70, K71, K72, K73, K74, K75, K76, K77, K78, K79, K80, K81, K82, K83): an abstract machine, its soundness, what functions of the program compute in it; no condition. -/
import Derived.Lib.AppendIntMem
import Derived.Test.YtbhnlppboegmjaaGreatDoorM3
namespace Go.Proofs.YtbhnlppboegmjaaGreatDoor
set_option linter.unusedVariables false
abbrev tb0:List D:=(List.replicate 256 (.bool false))
def GT:Nat→Option (List D)
  | 1=>some [.int .u64 1,.int .u64 10,.int .u64 100,.int .u64 1000,.int .u64 10000,.int .u64 100000,.int .u64 1000000,.int .u64 10000000,.int .u64 100000000,.int .u64 1000000000,.int .u64 10000000000,.int .u64 100000000000,.int .u64 1000000000000,.int .u64 10000000000000,.int .u64 100000000000000,.int .u64 1000000000000000,.int .u64 10000000000000000,.int .u64 100000000000000000,.int .u64 1000000000000000000,.int .u64 10000000000000000000]
  | 2=>some [.int .u8 36,.int .u8 43,.int .u8 45]
  | 3=>some [.int .u8 63,.int .u8 15,.int .u8 63,.int .u8 15,.int .u8 61,.int .u8 61]
  | 4=>some [.int .u8 66,.int .u8 32,.int .u8 48,.int .u8 48,.int .u8 47,.int .u8 47,.int .u8 44,.int .u8 44,.int .u8 46,.int .u8 46,.int .u8 36,.int .u8 36]
  | _=>none
def KD (mt:List Nat) (bx:List Nat):Kd:=⟨fun e=>if List.contains [71,74,82] e&&!(mt.contains 999999) then 0 else if mt.contains e then 2 else 1,GT,bxL bx⟩
def repB (s:ByteArray):Nat→List UInt8
  | 0=>[]
  | n+1=>s.data.toList++repB s n
def K9:Nat→Nat→List UInt8
  | 0,_=>[]
  | d+1,u=>if u<10 then [UInt8.ofNat (48+u)] else K9 d (u / 10)++[UInt8.ofNat (48+u % 10)]
def LE:FuncId→List D→Option D
  | 62,[.str s,.int .i64 n]=>if 0≤n∧n≤9223372036854775807∧s.size*n.toNat≤140737488355328 then some (.str ⟨(repB s n.toNat).toArray⟩) else none
  | 89,[.int .i64 n,.int .i64 10]=>if 0≤n∧n≤1000000000000000000 then some (.str ⟨(K9 20 n.toNat).toArray⟩) else none
  | _,_=>none
abbrev qe (n:Nat):Ri:=⟨.mv,[.env n],none,[],none⟩
abbrev ql (n:Nat):Ri:=⟨.mv,[.loc n],none,[],none⟩
abbrev qi (n:Int):Ri:=⟨.mv,[.const (.int .i64 n)],none,[],none⟩
abbrev qbb (b:Bool):Ri:=⟨.mv,[.const (.bool b)],none,[],none⟩
abbrev qd (s n:Nat):Ri:=⟨.load s false,[.loc n],none,[],none⟩
abbrev qfe (o n:Nat):Ri:=⟨.R3 o,[.env n],none,[],none⟩
abbrev qx (i n:Nat):Ri:=⟨.extract i,[.loc n],none,[],none⟩
abbrev qpt (a b:Nat):Ri:=⟨.pick,[.loc a,.const (.bool true),.loc b],none,[],none⟩
abbrev qpf (a b:Nat):Ri:=⟨.pick,[.loc a,.loc b,.const (.bool false)],none,[],none⟩
abbrev qk (f n:Nat):Ri:=⟨.call f,[.loc n],none,[],none⟩
abbrev qkk (f n m:Nat):Ri:=⟨.call f,[.loc n,.loc m],none,[],none⟩
abbrev qln (b:Bool) (n:Nat):Ri:=⟨.len b,[.loc n],none,[],none⟩
abbrev qfl (o n:Nat):Ri:=⟨.R3 o,[.loc n],none,[],none⟩
abbrev qad (n:Nat) (i:Int):Ri:=⟨.bin .add,[.loc n,.const (.int .i64 i)],none,[],none⟩
abbrev qae (n:Nat) (i:Int):Ri:=⟨.bin .add,[.env n,.const (.int .i64 i)],none,[],none⟩
abbrev qlt (n m:Nat):Ri:=⟨.bin .lss,[.env n,.env m],none,[],none⟩
abbrev qnl (n:Nat):Ri:=⟨.nilck,[.loc n],none,[],none⟩
abbrev qso (s a b:Nat):Ri:=⟨.store s,[.loc a,.loc b],none,[],none⟩
abbrev qia (s a b:Nat):Ri:=⟨.Rz s,[.loc a,.loc b],none,[],none⟩
abbrev qun (n:Nat):Ri:=⟨.un .not,[.loc n],none,[],none⟩
abbrev qle (b:Bool) (n:Nat):Ri:=⟨.len b,[.env n],none,[],none⟩
abbrev qde (s n:Nat):Ri:=⟨.load s true,[.env n],none,[],none⟩
abbrev qdt (s n:Nat):Ri:=⟨.load s true,[.loc n],none,[],none⟩
abbrev qno:Ri:=⟨.mv,[.const .R4],none,[],none⟩
abbrev qge (n d:Nat) (b:Bool):Ri:=⟨.mv,[.env n],some (d,b),[],none⟩
abbrev qgl (n d:Nat) (b:Bool):Ri:=⟨.mv,[.loc n],some (d,b),[],none⟩
abbrev qgd (s n d:Nat) (b:Bool):Ri:=⟨.load s false,[.loc n],some (d,b),[],none⟩
abbrev qs2 (s a b:Nat):Ri:=⟨.store s,[.env a,.loc b],none,[],none⟩
abbrev qa2 (a b:Nat):Ri:=⟨.bin .add,[.loc a,.loc b],none,[],none⟩
abbrev ql2 (a b:Nat):Ri:=⟨.bin .lss,[.loc a,.loc b],none,[],none⟩
abbrev qby (n:Int):Ri:=⟨.mv,[.const (.int .u8 n)],none,[],none⟩
abbrev qki (n:Int):Rj:=.const (.int .i64 n)
abbrev qkb (n:Int):Rj:=.const (.int .u8 n)
abbrev rg (l:List Ri) (d:List (Nat × Nat)):Rk:=.region l d
abbrev cn (n:Nat) (a b:Rk):Rk:=.cond (.env n) a b
abbrev qwf (o n a b:Nat):Ri:=qw (.R3 o) [.loc n] a b
abbrev qwd (s n a b:Nat):Ri:=qw (.load s false) [.loc n] a b
abbrev qwe (n a b:Nat):Ri:=qw .mv [.env n] a b
abbrev qwl (n a b:Nat):Ri:=qw .mv [.loc n] a b
abbrev qwi (i:Int) (a b:Nat):Ri:=qw .mv [.const (.int .i64 i)] a b
abbrev qwk (n a b:Nat):Ri:=qw .nilck [.loc n] a b
abbrev sr (l:List Ri) (d:List (Nat × Nat)) (b:Rk):Rk:=.seq (.region l d) b
noncomputable abbrev LK:=P9 Tryz.prog (KD [] [])
set_option maxRecDepth 100000
set_option maxHeartbeats 4000000
def F7:Rh:=⟨[0,2,3,4,5,6,7,8,9,10,11,12,13,26,44,53,59],1,
sr [qbb false] [(1,0)]
(sr [qe 0,
qo (.bin .rem) [.loc 0,.const (.int .u16 300)],
qo (.conv .i64) [.loc 0],
qo (.bin .add) [qki 700,.loc 0],
ql 0] [(2,0)]
(sr [qo (.call 27) [qki 1],
qo (.Ry 64 11 1 [.int .u8 0,.int .u8 0,.str ⟨#[]⟩,.int .i64 0,.int .i64 0,.bool false,.bool false,.bool false,.bool false,.bool false,.int .i64 0] [0] 1) [.loc 0],
qo (.build [.int .i64 0,.int .i64 0] []) [],
qo (.Ry 67 2 1 [.int .i64 0,.int .i64 0] [0] 1) [.loc 0],
qo (.build [.R4,.R4,.int .i64 0,.int .i64 0,.int .i64 0,.R4,.R4] [(0,1),(6,1)]) [.loc 2,.loc 0],
qo (.alloc 37 [.R4,.R4,.int .i64 0,.int .i64 0,.int .i64 0,.R4,.R4]) [],
qso 7 0 1] [(3,1)]
(sr [qo (.build [.int .u8 0,.int .i64 0,.bool false,.R4] [(0,1)]) [qkb 4],
qo (.alloc 71 [.int .u8 0,.int .i64 0,.bool false,.R4]) [],
qso 4 0 1] [(4,1)]
(.seq (sr [qi 0] [(5,0)]
(.block 0 (.loop (.seq (sr [qe 5,
qe 2,
ql2 1 0] [(13,0)]
(cn 13 (.skip) (.exit 0)))
(.seq (.block 1 (rg [qfe 3 4,
qd 1 0,
qo (.build [.int .i64 0,.R4] [(0,1)]) [qki 1],
qo (.Ry 74 2 1 [.int .i64 0,.R4] [0] 1) [.loc 0],
qo (.append 74 2 32 1) [.loc 2,.loc 0],
qfe 3 4,
qso 1 0 1] []))
(rg [qe 5,
qad 0 1,
ql 0] [(5,0)]))))))
(sr [qde 4 4,
qo (.Ry 71 4 1 [.int .u8 0,.int .i64 0,.bool false,.R4] [0] 1) [.loc 0],
qfe 5 3,
qso 1 0 1] []
(sr [qde 7 3,
qk 9 0,
ql 0,
qx 0 0,
qx 1 1,
ql 1,
ql 1] [(6,1),(7,0)]
(.seq (sr [qe 7,
qo (.bin .neq) [.loc 0,qki 0]] [(14,0)]
(cn 14 (sr [qbb false] [(1,0)]
(.ret)) (.skip)))
(sr [qo (.call 27) [qki 1],
qo (.Ry 5 1 1 [.int .u8 0] [0] 2) [qkb 49],
qo .strsh [.loc 0],
qo (.build [.int .u8 0,.int .u8 0,.str ⟨#[]⟩,.int .i64 0,.int .i64 0,.bool false,.bool false,.bool false,.bool false,.bool false,.int .i64 0,.R4] [(0,11),(11,1)]) [.loc 2,.loc 0],
qo (.Ry 77 12 1 [.int .u8 0,.int .u8 0,.str ⟨#[]⟩,.int .i64 0,.int .i64 0,.bool false,.bool false,.bool false,.bool false,.bool false,.int .i64 0,.R4] [0] 1) [.loc 0],
ql 0] [(8,0)]
(.seq (sr [qi 1] [(9,0)]
(.block 2 (.loop (.seq (sr [qe 9,
qe 2,
qo (.bin .quo) [qki 65536,.loc 0],
qo (.bin .leq) [.loc 2,.loc 0]] [(15,0)]
(cn 15 (.skip) (.exit 2)))
(.seq (.block 3 (sr [qe 6,
qe 8,
qo (.call 12) [.loc 1,qki 0,.loc 0],
qo (.bin .neq) [.loc 0,qki 0]] [(16,0)]
(cn 16 (sr [qbb false] [(1,0)]
(.ret)) (.skip))))
(rg [qe 9,
qad 0 1,
ql 0] [(9,0)]))))))
(sr [qe 6,
qe 8,
qo (.call 12) [.loc 1,qki 0,.loc 0],
ql 0] [(10,0)]
(sr [qe 6,
qo (.call 25) [.loc 0,qki 0],
ql 0,
qx 0 0,
qx 1 1,
qo (.alloc 57 [.bool false,.str ⟨#[]⟩,.int .i64 0]) [],
qso 3 0 2,
ql 2] [(11,2),(12,0)]
(.seq (.drawn [qe 10,
qw (.bin .eql) [.loc 0,qki 9] 1 1,
qwl 0 3 2,
qh .mv [.env 12] 0 true 7 3,
qh (.bin .eql) [.loc 0,qki 0] 1 true 15 4,
qw .pick [.loc 2,.loc 0,.const (.bool false)] 31 5,
qwl 0 63 6,
qh (.load 3 true) [.env 11] 0 true 127 7,
qh .mv [.env 2] 1 true 127 8,
qh (.bin .quo) [qki 65536,.loc 0] 2 true 383 9,
qh (.call 26) [.loc 0] 3 true 895 10,
qh (.eqs false [2,1,0]) [.loc 3,.loc 0] 4 true 2047 11,
qw .pick [.loc 5,.loc 0,.const (.bool false)] 4095 12,
qwl 0 8191 13,
qh .mv [.env 6] 0 true 16383 14,
qh (.call 11) [.loc 0] 1 true 32767 15,
qh (.len false) [.loc 0] 2 true 65535 16,
qh .mv [.env 2] 3 true 16383 17,
qh (.bin .quo) [qki 65536,.loc 0] 4 true 147455 18,
qh .mv [.env 2] 5 true 16383 19,
qh (.bin .mul) [.loc 1,.loc 0] 6 true 933887 20,
qh (.bin .eql) [.loc 4,.loc 0] 7 true 2097151 21,
qw .pick [.loc 8,.loc 0,.const (.bool false)] 4194303 22,
qwl 0 8388607 23,
qh .mv [.env 6] 0 true 16777215 24,
qh .mv [.env 8] 1 true 16777215 25,
qh (.call 12) [.loc 1,.const (.int .i64 (-1)),.loc 0] 2 true 67108863 26,
qh (.bin .eql) [.loc 0,qki 0] 3 true 134217727 27,
qw .pick [.loc 4,.loc 0,.const (.bool false)] 268435455 28,
qwl 0 536870911 29,
qh .mv [.env 6] 0 true 1073741823 30,
qh (.call 17) [.loc 0] 1 true 2147483647 31,
qh (.bin .eql) [.loc 0,qki 0] 2 true 4294967295 32,
qw .pick [.loc 3,.loc 0,.const (.bool false)] 8589934591 33,
qwl 0 17179869183 34,
qh (.call 8) [] 0 true 34359738367 35,
qw .pick [.loc 1,.loc 0,.const (.bool false)] 68719476735 36,
qwl 0 137438953471 37] [(1,0)] [])
(.ret))))))))))))),
[.tmp 1]⟩
def F8:Rh:=⟨[0,1,2,3,4,5,6,7,8,9,50,72],0,
sr [qbb false] [(0,0)]
(sr [qo (.call 28) [.const (.str ⟨#[90,90,57]⟩)],
qo (.alloc 64 [.int .u8 0,.int .u8 0,.str ⟨#[]⟩,.int .i64 0,.int .i64 0,.bool false,.bool false,.bool false,.bool false,.bool false,.int .i64 0]) [],
qso 11 0 1] [(1,1)]
(sr [qo (.call 28) [.const (.str ⟨#[90,57]⟩)],
qo (.alloc 64 [.int .u8 0,.int .u8 0,.str ⟨#[]⟩,.int .i64 0,.int .i64 0,.bool false,.bool false,.bool false,.bool false,.bool false,.int .i64 0]) [],
qso 11 0 1] [(2,1)]
(sr [qo (.call 29) [qki 1],
qo (.call 27) [qki 2],
qo (.Ry 64 11 2 [.int .u8 0,.int .u8 0,.str ⟨#[]⟩,.int .i64 0,.int .i64 0,.bool false,.bool false,.bool false,.bool false,.bool false,.int .i64 0] [0,1] 1) [.loc 1,.loc 0],
qo (.Ry 3 1 1 [.int .i64 0] [0] 1) [qki 0],
qo (.build [.int .i64 0,.int .i64 0] [(0,1),(1,1)]) [qki 1,qki 1],
qo (.build [.int .i64 0,.int .i64 0] [(0,1)]) [qki 1],
qo (.Ry 67 2 2 [.int .i64 0,.int .i64 0] [0,1] 1) [.loc 1,.loc 0],
qo (.build [.R4,.R4,.int .i64 0,.int .i64 0,.int .i64 0,.R4,.R4] [(0,1),(1,1),(6,1)]) [.loc 4,.loc 3,.loc 0],
qo (.alloc 37 [.R4,.R4,.int .i64 0,.int .i64 0,.int .i64 0,.R4,.R4]) [],
qso 7 0 1] [(3,1)]
(sr [qo (.call 29) [qki 1],
qo (.build [.int .i64 0,.int .u8 0,.int .u8 0,.str ⟨#[]⟩,.int .i64 0,.int .i64 0,.bool false,.bool false,.bool false,.bool false,.bool false,.int .i64 0,.int .u8 0,.R4,.int .i64 0] [(0,1),(1,11),(12,1)]) [qki 1,.loc 0,qkb 2],
qo (.alloc 82 [.int .i64 0,.int .u8 0,.int .u8 0,.str ⟨#[]⟩,.int .i64 0,.int .i64 0,.bool false,.bool false,.bool false,.bool false,.bool false,.int .i64 0,.int .u8 0,.R4,.int .i64 0]) [],
qso 15 0 1] [(4,1)]
(sr [qde 11 2,
qo (.build [.int .i64 0,.int .u8 0,.int .u8 0,.str ⟨#[]⟩,.int .i64 0,.int .i64 0,.bool false,.bool false,.bool false,.bool false,.bool false,.int .i64 0,.int .u8 0,.R4,.int .i64 0] [(0,1),(1,11),(12,1),(14,1)]) [qki 3,.loc 0,qkb 2,qki 1],
qo (.Ry 82 15 1 [.int .i64 0,.int .u8 0,.int .u8 0,.str ⟨#[]⟩,.int .i64 0,.int .i64 0,.bool false,.bool false,.bool false,.bool false,.bool false,.int .i64 0,.int .u8 0,.R4,.int .i64 0] [0] 1) [.loc 0],
qo (.build [.int .i64 0,.R4] [(0,1),(1,1)]) [qki 1,.loc 0],
qo (.Ry 74 2 1 [.int .i64 0,.R4] [0] 1) [.loc 0],
qo (.build [.int .u8 0,.int .i64 0,.bool false,.R4] [(0,1),(3,1)]) [qkb 4,.loc 0],
qde 15 4,
qde 11 1,
qo (.build [.int .i64 0,.int .u8 0,.int .u8 0,.str ⟨#[]⟩,.int .i64 0,.int .i64 0,.bool false,.bool false,.bool false,.bool false,.bool false,.int .i64 0,.int .u8 0,.R4,.int .i64 0] [(0,1),(1,11),(12,1)]) [qki 3,.loc 0,qkb 3],
qo (.Ry 82 15 2 [.int .i64 0,.int .u8 0,.int .u8 0,.str ⟨#[]⟩,.int .i64 0,.int .i64 0,.bool false,.bool false,.bool false,.bool false,.bool false,.int .i64 0,.int .u8 0,.R4,.int .i64 0] [0,1] 1) [.loc 2,.loc 0],
qo (.build [.int .i64 0,.R4] [(0,1),(1,1)]) [qki 1,.loc 0],
qo (.Ry 74 2 1 [.int .i64 0,.R4] [0] 1) [.loc 0],
qo (.build [.int .u8 0,.int .i64 0,.bool false,.R4] [(0,1),(1,1),(3,1)]) [qkb 5,qki 1,.loc 0],
qde 11 1,
qo (.build [.int .i64 0,.int .u8 0,.int .u8 0,.str ⟨#[]⟩,.int .i64 0,.int .i64 0,.bool false,.bool false,.bool false,.bool false,.bool false,.int .i64 0,.int .u8 0,.R4,.int .i64 0] [(0,1),(1,11),(12,1),(14,1)]) [qki 3,.loc 0,qkb 3,qki 1],
qo (.Ry 82 15 1 [.int .i64 0,.int .u8 0,.int .u8 0,.str ⟨#[]⟩,.int .i64 0,.int .i64 0,.bool false,.bool false,.bool false,.bool false,.bool false,.int .i64 0,.int .u8 0,.R4,.int .i64 0] [0] 1) [.loc 0],
qo (.build [.int .i64 0,.R4] [(0,1),(1,1)]) [qki 1,.loc 0],
qo (.Ry 74 2 1 [.int .i64 0,.R4] [0] 1) [.loc 0],
qo (.build [.int .u8 0,.int .i64 0,.bool false,.R4] [(0,1),(3,1)]) [qkb 5,.loc 0],
qo (.Ry 71 4 3 [.int .u8 0,.int .i64 0,.bool false,.R4] [0,1,2] 1) [.loc 13,.loc 6,.loc 0],
qfe 5 3,
qso 1 0 1] []
(sr [qde 7 3,
qk 9 0,
ql 0,
qx 0 0,
qx 1 1,
ql 1,
ql 1] [(5,1),(6,0)]
(sr [qo (.Ry 9 1 3 [.str ⟨#[]⟩] [0,1,2] 1) [.const (.str ⟨#[65,48,53]⟩),.const (.str ⟨#[65,49,48]⟩),.const (.str ⟨#[66,48,55]⟩)],
ql 0] [(7,0)]
(.seq (sr [qi 0] [(8,0)]
(.block 0 (.loop (.seq (sr [qe 8,
qo (.bin .lss) [.loc 0,qki 3]] [(10,0)]
(cn 10 (.skip) (.exit 0)))
(.seq (.block 1 (.seq (.drawn [qe 5,
qw (.call 29) [qki 1] 0 1,
qwe 7 0 2,
qwe 8 0 3,
qw (.Rz 1) [.loc 1,.loc 0] 12 4,
qwd 1 0 28 5,
qw (.slice true 0 false true false) [.loc 0,qki 1] 60 6,
qw .strb [.loc 0] 124 7,
qw (.build [.int .u8 0,.int .u8 0,.str ⟨#[]⟩,.int .i64 0,.int .i64 0,.bool false,.bool false,.bool false,.bool false,.bool false,.int .i64 0,.R4] [(0,11),(11,1)]) [.loc 6,.loc 0] 254 8,
qw (.call 27) [qki 2] 2 9,
qwe 7 0 10,
qwe 8 0 11,
qw (.Rz 1) [.loc 1,.loc 0] 3072 12,
qwd 1 0 7168 13,
qw (.slice true 0 true false false) [.loc 0,qki 1] 15360 14,
qw .strb [.loc 0] 31744 15,
qw (.build [.int .u8 0,.int .u8 0,.str ⟨#[]⟩,.int .i64 0,.int .i64 0,.bool false,.bool false,.bool false,.bool false,.bool false,.int .i64 0,.R4] [(0,11),(11,1)]) [.loc 6,.loc 0] 65026 16,
qw (.Ry 77 12 2 [.int .u8 0,.int .u8 0,.str ⟨#[]⟩,.int .i64 0,.int .i64 0,.bool false,.bool false,.bool false,.bool false,.bool false,.int .i64 0,.R4] [0,1] 1) [.loc 8,.loc 0] 131070 17,
qw (.call 12) [.loc 17,qki 0,.loc 0] 262143 18,
qw (.bin .neq) [.loc 0,qki 0] 524287 19] [(11,0)] [])
(cn 11 (sr [qbb false] [(0,0)]
(.ret)) (.skip))))
(rg [qe 8,
qad 0 1,
ql 0] [(8,0)]))))))
(sr [qe 5,
qk 17 0,
ql 0] [(9,0)]
(sr [qe 6,
qo (.bin .eql) [.loc 0,qki 0],
ql 0,
qge 9 0 true,
qg (.bin .eql) [.loc 0,qki 0] 1 true,
qpf 2 0,
ql 0,
qge 5 0 true,
qg (.call 11) [.loc 0] 1 true,
qg (.call 21) [.loc 0] 2 true,
qg (.bin .eql) [.loc 0,.const (.str ⟨#[32,32,32,53,10,32,32,49,48,10,65,32,32,49,53,10,32,32,32,55,10,66,32,32,32,55,10,32,32,32,50,50,10]⟩)] 3 true,
qpf 4 0,
ql 0] [(0,0)]
(.ret))))))))))),
[.tmp 0]⟩
def F9:Rh:=⟨[0,1,2,3,4,5,7,11,22,23,24,25,30,47,48,49],1,
sr [qo (.box 37 7) [.env 0],
qo .mv [.const (.nilp)],
qi 0] [(1,2),(2,1),(3,0)]
(.seq (sr [qde 7 1,
qk 30 0,
ql 0] [(4,0)]
(sr [qe 4,
qo (.bin .neq) [.loc 0,qki 0]] [(7,0)]
(cn 7 (sr [qe 4,
qo .mv [.const (.nilp)],
ql 1] [(2,1),(3,0)]
(.ret)) (.skip))))
(sr [qde 7 1,
qk 31 0,
qo .mkmap [],
qo (.build [.R4,.R4,.int .i64 0,.int .i64 0,.int .i64 0,.R4,.R4,.int .i64 0,.int .i64 0,.bool false,.R4,.R4,.R4,.bool false,.nilm,.bool false] [(0,7),(14,1)]) [.loc 1,.loc 0],
qo (.box 91 16) [.loc 0],
ql 0] [(5,0)]
(.seq (sr [qe 5,
qnl 0,
qfl 0 0,
qfl 5 0,
qd 1 0,
qln false 0,
qi 0] [(8,2),(9,1),(10,0)]
(.block 0 (.loop (sr [qlt 10 9] [(11,0)]
(.seq (cn 11 (.skip) (.exit 0))
(.seq (.block 1 (sr [qo (.Rz 4) [.env 8,.env 10],
qdt 4 0,
qo (.alloc 71 [.int .u8 0,.int .i64 0,.bool false,.R4]) [],
qso 4 0 1] [(6,1)]
(sr [qfe 0 6,
qd 1 0,
qo (.bin .neq) [.loc 0,qkb 4]] [(12,0)]
(cn 12 (.drawn [qe 5,
qwk 0 1 1,
qwf 14 0 3 2,
qwd 1 0 7 3,
qw (.R3 0) [.env 6] 0 4,
qwd 1 0 16 5,
qw (.R3 1) [.env 6] 0 6,
qwd 1 0 64 7,
qw (.build [.int .u8 0,.int .i64 0] [(0,1),(1,1)]) [.loc 2,.loc 0] 240 8,
qw (.load 4 true) [.env 6] 0 9,
qw (.mapsetS [0,0]) [.loc 6,.loc 1,.loc 0] 1023 10] [] []) (.skip)))))
(rg [qae 10 1,
ql 0] [(10,0)])))))))
(.seq (sr [qe 5,
qnl 0,
qfl 0 0,
qfl 6 0,
qd 1 0,
qln false 0,
qi 0] [(13,1),(14,0)]
(.block 2 (.loop (sr [qlt 14 13] [(15,0)]
(.seq (cn 15 (.skip) (.exit 2))
(.seq (.block 3 (.drawn [qe 5,
qwe 5 0 1,
qwk 0 2 2,
qwf 7 0 6 3,
qwf 4 0 14 4,
qwd 1 0 30 5,
qw (.call 26) [qki 0] 0 6,
qw (.Ry 57 3 1 [.bool false,.str ⟨#[]⟩,.int .i64 0] [0] 1) [.loc 0] 64 7,
qw (.append 57 3 32 2) [.loc 2,.loc 0] 254 8,
qwk 8 511 9,
qwf 7 0 1023 10,
qwf 4 0 2047 11,
qw (.store 1) [.loc 0,.loc 3] 4095 12] [] []))
(rg [qae 14 1,
ql 0] [(14,0)])))))))
(sr [qe 5,
ql 0,
qi 0] [(2,1),(3,0)]
(.ret)))))),
[.tmp 2,.tmp 3]⟩
def F11:Rh:=⟨[0,2,4],1,
sr [qno] [(1,0)]
(.seq (sr [qe 0,
qk 36 0] [(2,0)]
(cn 2 (sr [qno] [(1,0)]
(.ret)) (.skip)))
(sr [qe 0,
qnl 0,
qfl 7 0,
qfl 5 0,
qd 1 0,
qk 38 0,
qk 37 0,
ql 0] [(1,0)]
(.ret))),
[.tmp 1]⟩
def F12:Rh:=⟨[0,1,2,3,4,5,6,7,8,11,16,49],3,
sr [qo (.box 28 1) [.env 0],
qo (.box 3 1) [.env 1],
qo (.box 45 1) [.env 2],
qi 0] [(3,3),(4,2),(5,1),(6,0)]
(.seq (.block 0 (sr [qo (.load 1 false) [.env 3],
qk 36 0,
ql 0] [(8,0)]
(cn 8 (sr [qi 2] [(6,0)]
(.ret)) (sr [qo (.load 1 false) [.env 3],
qnl 0,
qfl 15 0,
qd 1 0,
ql 0] [(9,0)]
(cn 9 (sr [qi 6] [(6,0)]
(.ret)) (.seq (.drawn [qo (.load 1 false) [.env 4],
qw (.bin .lss) [.loc 0,.const (.int .i64 (-1))] 1 1,
qwl 0 3 2,
qh (.load 1 false) [.env 4] 0 false 7 3,
qh (.load 1 false) [.env 3] 1 false 7 4,
qh .nilck [.loc 0] 2 false 23 5,
qh (.R3 0) [.loc 0] 3 false 55 6,
qh (.R3 5) [.loc 0] 4 false 119 7,
qh (.load 1 false) [.loc 0] 5 false 247 8,
qh (.len false) [.loc 0] 6 false 503 9,
qh (.bin .geq) [.loc 6,.loc 0] 7 false 1023 10,
qw .pick [.loc 8,.const (.bool true),.loc 0] 2047 11,
qwl 0 4095 12,
qh (.load 1 false) [.env 4] 0 false 8191 13,
qh (.bin .geq) [.loc 0,qki 0] 1 false 16383 14,
qh .mv [.loc 0] 2 false 32767 15,
qh (.load 1 false) [.env 3] 0 true 65535 16,
qh .nilck [.loc 0] 1 true 131071 17,
qh (.R3 0) [.loc 0] 2 true 262143 18,
qh (.R3 5) [.loc 0] 3 true 524287 19,
qh (.load 1 false) [.loc 0] 4 true 1048575 20,
qh (.load 1 false) [.env 4] 5 true 65535 21,
qh (.Rz 4) [.loc 1,.loc 0] 6 true 4194303 22,
qh (.R3 0) [.loc 0] 7 true 8388607 23,
qh (.load 1 false) [.loc 0] 8 true 16777215 24,
qh (.bin .neq) [.loc 0,qkb 4] 9 true 33554431 25,
qh .pick [.loc 10,.loc 0,.const (.bool false)] 13 false 67108863 26,
qw .pick [.loc 14,.const (.bool true),.loc 0] 134217727 27,
qwl 0 268435455 28] [(10,0)] [])
(cn 10 (sr [qi 1] [(6,0)]
(.ret)) (.skip))))))))
(.seq (sr [qo (.load 1 false) [.env 3],
qo (.load 1 false) [.env 5],
qkk 39 1 0,
ql 0] [(7,0)]
(sr [qe 7,
qo (.bin .neq) [.loc 0,qki 0]] [(11,0)]
(cn 11 (sr [qe 7,
ql 0] [(6,0)]
(.ret)) (.skip))))
(sr [qo (.load 1 false) [.env 3],
qo (.mkfn 41) [.env 3,.env 5,.env 4],
qkk 40 1 0,
ql 0] [(6,0)]
(.ret)))),
[.tmp 6]⟩
def F17:Rh:=⟨[0,1,2,3,4,7],1,
sr [qo (.box 28 1) [.env 0],
qi 0] [(1,1),(2,0)]
(.seq (.block 0 (sr [qo (.load 1 false) [.env 1],
qk 36 0,
ql 0] [(4,0)]
(cn 4 (sr [qi 2] [(2,0)]
(.ret)) (sr [qo (.load 1 false) [.env 1],
qnl 0,
qfl 15 0,
qd 1 0,
ql 0] [(5,0)]
(cn 5 (sr [qi 6] [(2,0)]
(.ret)) (.skip))))))
(sr [qo (.load 1 false) [.env 1],
qo (.mkfn 58) [.env 1],
qkk 40 1 0,
ql 0] [(3,0)]
(sr [qo (.load 1 false) [.env 1],
qe 3,
qo (.bin .eql) [.loc 0,qki 0],
qnl 2,
qfl 15 0,
qso 1 0 2] []
(sr [qe 3,
ql 0] [(2,0)]
(.ret))))),
[.tmp 2]⟩
def F25:Rh:=⟨[0,1,4,5,6,10],2,
sr [qo (.alloc 57 [.bool false,.str ⟨#[]⟩,.int .i64 0]) [],
qi 0] [(2,1),(3,0)]
(.seq (.block 0 (sr [qe 0,
qk 36 0,
ql 0] [(4,0)]
(cn 4 (sr [qo (.build [.bool false,.str ⟨#[]⟩,.int .i64 0] []) [],
qs2 3 2 0,
qi 2] [(3,0)]
(.ret)) (sr [qe 1,
qo (.bin .lss) [.loc 0,qki 0],
ql 0,
qge 1 0 false,
qge 0 1 false,
qg .nilck [.loc 0] 2 false,
qg (.R3 7) [.loc 0] 3 false,
qg (.R3 4) [.loc 0] 4 false,
qgd 1 0 5 false,
qg (.len false) [.loc 0] 6 false,
qg (.bin .geq) [.loc 6,.loc 0] 7 false,
qpt 8 0,
ql 0] [(5,0)]
(cn 5 (sr [qo (.build [.bool false,.str ⟨#[]⟩,.int .i64 0] []) [],
qs2 3 2 0,
qi 1] [(3,0)]
(.ret)) (.skip))))))
(sr [qe 0,
qnl 0,
qfl 7 0,
qfl 4 0,
qd 1 0,
qe 1,
qia 3 1 0,
qdt 3 0,
qs2 3 2 0,
qi 0] [(3,0)]
(.ret))),
[.cell 2 3 true,.tmp 3]⟩
def F26:Rh:=⟨[0,2,3,4],1,
sr [qo (.alloc 57 [.bool false,.str ⟨#[]⟩,.int .i64 0]) []] [(1,0)]
(sr [qe 0,
qo (.call 65) [.loc 0,qki 10],
qo (.call 64) [.loc 0,.const (.str ⟨#[45]⟩)],
ql 0,
qx 0 0,
qx 1 1,
ql 1,
ql 1] [(2,1),(3,0)]
(sr [qe 3,
qe 2,
qo (.build [.bool false,.str ⟨#[]⟩,.int .i64 0] [(0,1),(1,1)]) [.loc 1,.loc 0],
qs2 3 1 0] []
(.ret))),
[.cell 1 3 true]⟩
def F30:Rh:=⟨[0,1,2,3,26],1,
sr [qo (.box 37 7) [.env 0],
qi 0] [(1,1),(2,0)]
(.seq (.block 0 (sr [qfe 0 1,
qd 1 0,
qln false 0,
qo (.bin .gtr) [.loc 0,qki 64],
ql 0,
qg (.R3 1) [.env 1] 0 false,
qgd 1 0 1 false,
qg (.len false) [.loc 0] 2 false,
qg (.bin .gtr) [.loc 0,qki 8] 3 false,
qpt 4 0,
ql 0,
qg (.R3 5) [.env 1] 0 false,
qgd 1 0 1 false,
qg (.len false) [.loc 0] 2 false,
qg (.bin .gtr) [.loc 0,qki 64] 3 false,
qpt 4 0,
ql 0,
qg (.R3 6) [.env 1] 0 false,
qgd 1 0 1 false,
qg (.len false) [.loc 0] 2 false,
qg (.bin .gtr) [.loc 0,qki 64] 3 false,
qpt 4 0,
ql 0] [(3,0)]
(cn 3 (sr [qi 3] [(2,0)]
(.ret)) (sr [qde 7 1,
qk 67 0,
qun 0,
ql 0] [(4,0)]
(cn 4 (sr [qi 1] [(2,0)]
(.ret)) (.skip))))))
(sr [qi 0] [(2,0)]
(.ret))),
[.tmp 2]⟩
def F31:Rh:=⟨[0,1,2,3,4,5,6,25,26,27,37,38,39,56,57,58],1,
sr [qo (.box 37 7) [.env 0],
qo (.alloc 37 [.R4,.R4,.int .i64 0,.int .i64 0,.int .i64 0,.R4,.R4]) []] [(1,1),(2,0)]
(.seq (.drawn [qfe 0 1,
qwd 1 0 1 1,
qw (.call 68) [.loc 0] 3 2,
qw (.R3 1) [.env 1] 0 3,
qwd 1 0 8 4,
qw (.call 69) [.loc 0] 31 5,
qw (.R3 6) [.env 1] 0 6,
qwd 1 0 64 7,
qw (.call 70) [.loc 0] 255 8,
qw (.R3 0) [.env 1] 223 9,
qw (.store 1) [.loc 0,.loc 7] 1023 10,
qw (.R3 1) [.env 1] 2047 11,
qw (.store 1) [.loc 0,.loc 6] 4095 12,
qw (.R3 6) [.env 1] 8191 13,
qw (.store 1) [.loc 0,.loc 5] 16383 14] [] [])
(sr [qfe 5 1,
qd 1 0,
qk 71 0,
qfe 5 1,
qso 1 0 1] []
(.seq (sr [qfe 5 1,
qd 1 0,
qln false 0,
qi 0] [(7,1),(8,0)]
(.block 0 (.loop (sr [qlt 8 7] [(9,0)]
(.seq (cn 9 (.skip) (.exit 0))
(.seq (.block 1 (sr [qe 8,
ql 0] [(3,0)]
(sr [qfe 5 1,
qd 1 0,
qe 3,
qia 4 1 0,
qfl 3 0,
qd 1 0,
qk 72 0,
ql 0] [(4,0)]
(.seq (sr [qe 4,
qln false 0,
qi 0] [(10,1),(11,0)]
(.block 2 (.loop (sr [qlt 11 10] [(12,0)]
(.seq (cn 12 (.skip) (.exit 2))
(.seq (.block 3 (sr [qe 11,
ql 0] [(5,0)]
(sr [qe 4,
qe 5,
qe 4,
qe 5,
qia 2 1 0,
qfl 1 0,
qd 1 0,
qk 73 0,
qia 2 7 6,
qfl 1 0,
qso 1 0 2] []
(sr [qe 4,
qe 5,
qia 2 1 0,
qfl 1 0,
qd 1 0,
qln false 0,
qi 0] [(13,1),(14,0)]
(.block 4 (.loop (sr [qlt 14 13] [(15,0)]
(.seq (cn 15 (.skip) (.exit 4))
(.seq (.block 5 (sr [qe 14,
ql 0] [(6,0)]
(.drawn [qe 4,
qwe 5 0 1,
qw (.Rz 2) [.loc 1,.loc 0] 3 2,
qwf 1 0 7 3,
qwd 1 0 15 4,
qwe 6 0 5,
qwe 4 0 6,
qwe 5 0 7,
qw (.Rz 2) [.loc 1,.loc 0] 192 8,
qwf 1 0 448 9,
qwd 1 0 960 10,
qwe 6 0 11,
qw (.Rz 15) [.loc 1,.loc 0] 4032 12,
qwf 13 0 8128 13,
qwd 1 0 16320 14,
qw (.call 74) [.loc 0] 32704 15,
qw (.Rz 15) [.loc 11,.loc 10] 65535 16,
qwf 13 0 131071 17,
qw (.store 1) [.loc 0,.loc 2] 262143 18] [] [])))
(rg [qae 14 1,
ql 0] [(14,0)]))))))))))
(rg [qae 11 1,
ql 0] [(11,0)])))))))
(rg [qfe 5 1,
qd 1 0,
qe 3,
qe 4,
qia 4 2 1,
qfl 3 0,
qso 1 0 2] [])))))
(rg [qae 8 1,
ql 0] [(8,0)])))))))
(sr [qde 7 1,
qs2 7 2 0] []
(.ret))))),
[.cell 2 7 true]⟩
def F36:Rh:=⟨[0,2],1,
sr [qbb false] [(1,0)]
(sr [qe 0,
qo (.eqp false) [.loc 0,.const (.nilp)],
ql 0,
qge 0 0 false,
qg .nilck [.loc 0] 1 false,
qg (.R3 14) [.loc 0] 2 false,
qgd 1 0 3 false,
qg (.eqnil false 3) [.loc 0,.const (.nilm)] 4 false,
qpt 5 0,
ql 0] [(1,0)]
(.ret)),
[.tmp 1]⟩
def F37:Rh:=⟨[0,2],1,
sr [qno] [(1,0)]
(sr [qe 0,
qe 0,
qln false 0,
qe 0,
qln false 0,
qo (.slice false 3 false true true) [.loc 4,.loc 2,.loc 0],
ql 0] [(1,0)]
(.ret)),
[.tmp 1]⟩
def F38:Rh:=⟨[0,2,4],1,
sr [qno] [(1,0)]
(.seq (sr [qe 0,
qo (.eqnil false 0) [.loc 0,.const (.R4)]] [(2,0)]
(cn 2 (sr [qno] [(1,0)]
(.ret)) (.skip)))
(sr [qo (.Ry 52 3 0 [.int .i64 0,.int .i64 0,.str ⟨#[]⟩] [] 1) [],
qe 0,
qo (.append 52 3 32 1) [.loc 1,.loc 0],
ql 0] [(1,0)]
(.ret))),
[.tmp 1]⟩
def F39:Rh:=⟨[0,1,4,5,6,15,16,17,18,19,33,51],2,
sr [qi 0] [(2,0)]
(.seq (sr [qe 1,
qln false 0,
qe 0,
qnl 0,
qfl 0 0,
qfl 0 0,
qd 1 0,
qln false 0,
qo (.bin .neq) [.loc 6,.loc 0]] [(5,0)]
(cn 5 (sr [qi 5] [(2,0)]
(.ret)) (.skip)))
(.seq (sr [qe 1,
qln false 0,
qi 0] [(6,2),(7,1),(8,0)]
(.block 0 (.loop (sr [qlt 8 7] [(9,0)]
(.seq (cn 9 (.skip) (.exit 0))
(.seq (.block 1 (sr [qe 8,
qo (.Rz 12) [.env 6,.env 8],
qdt 12 0,
qo (.alloc 77 [.int .u8 0,.int .u8 0,.str ⟨#[]⟩,.int .i64 0,.int .i64 0,.bool false,.bool false,.bool false,.bool false,.bool false,.int .i64 0,.R4]) [],
ql 3,
qso 12 1 2] [(3,1),(4,2)]
(.seq (.seq (.drawn [qfe 0 4,
qw (.load 11 true) [.loc 0] 1 1,
qwe 0 0 2,
qwk 0 4 3,
qwf 0 0 12 4,
qwf 0 0 28 5,
qwd 1 0 60 6,
qwe 3 0 7,
qw (.Rz 11) [.loc 1,.loc 0] 252 8,
qw (.load 11 true) [.loc 0] 508 9,
qw (.eqs true [0,0,1,0,0,2,2,2,2,2,0]) [.loc 8,.loc 0] 1023 10] [(10,0)] [])
(cn 10 (sr [qi 12] [(2,0)]
(.ret)) (.skip)))
(sr [qfe 11 4,
qd 1 0,
qln false 0,
qfe 0 4,
qfl 10 0,
qd 1 0,
qo (.bin .neq) [.loc 3,.loc 0],
ql 0,
qg (.R3 0) [.env 4] 0 false,
qg (.R3 0) [.loc 0] 1 false,
qgd 1 0 2 false,
qg (.bin .eql) [.loc 0,qkb 4] 3 false,
qgl 0 4 false,
qg (.load 12 true) [.env 4] 0 true,
qg (.call 75) [.loc 0] 1 true,
qg (.bin .neq) [.loc 0,qki 0] 2 true,
qg .pick [.loc 3,.loc 0,.const (.bool false)] 8 false,
qpt 9 0] [(11,0)]
(cn 11 (sr [qi 15] [(2,0)]
(.ret)) (.skip))))))
(rg [qae 8 1,
ql 0] [(8,0)])))))))
(sr [qi 0] [(2,0)]
(.ret)))),
[.tmp 2]⟩
def F40:Rh:=⟨[0,1,4,5,40],2,
sr [qi 0] [(2,0)]
(sr [qe 0,
qnl 0,
qfl 7 0,
qdt 7 0,
qo (.alloc 89 [.int .i64 0,.int .i64 0,.bool false,.R4,.R4,.R4,.bool false]) [],
qso 7 0 1] [(3,1)]
(.seq (.drawn [qe 0,
qwk 0 1 1,
qwf 7 0 3 2,
qwf 4 0 7 3,
qwd 1 0 15 4,
qw (.call 76) [.loc 0] 31 5,
qwe 0 0 6,
qwk 0 64 7,
qwf 7 0 192 8,
qwf 5 0 448 9,
qwd 1 0 960 10,
qw (.call 37) [.loc 0] 2047 11,
qw (.R3 4) [.env 3] 63 12,
qw (.store 1) [.loc 0,.loc 7] 8191 13,
qw (.R3 5) [.env 3] 16383 14,
qw (.store 1) [.loc 0,.loc 3] 32767 15] [] [])
(sr [qe 0,
qe 0,
qnl 0,
qfl 7 0,
qfl 5 0,
qd 1 0,
qk 37 0,
qnl 6,
qfl 7 0,
qfl 5 0,
qso 1 0 3] []
(sr [qe 1,
qo .callv [.loc 0]] []
(.seq (sr [qe 0,
qnl 0,
qfl 7 0,
qfl 6 0,
qd 1 0] [(4,0)]
(cn 4 (sr [qe 0,
qde 7 3,
qnl 1,
qfl 7 0,
qso 7 0 2] []
(sr [qi 9] [(2,0)]
(.ret))) (.skip)))
(sr [qi 0] [(2,0)]
(.ret))))))),
[.tmp 2]⟩
def F41:Rh:=⟨[0,1,2,3,9,42,64],3,
.seq (sr [qo (.load 1 false) [.env 0],
qnl 0,
qfl 7 0,
qfl 0 0,
qd 1 0,
qo (.bin .eql) [.loc 0,qki 0]] [(4,0)]
(cn 4 (sr [qo (.load 1 false) [.env 0],
qnl 0,
qfl 7 0,
qfl 0 0,
qo (.store 1) [.loc 0,qki 1]] []
(.seq (.drawn [qo (.load 1 false) [.env 0],
qw (.load 1 false) [.env 1] 0 1,
qw (.call 42) [.loc 0] 2 2,
qwk 2 7 3,
qwf 7 0 15 4,
qwf 3 0 31 5,
qw (.store 1) [.loc 0,.loc 3] 63 6] [] [])
(.seq (.drawn [qo (.load 1 false) [.env 0],
qw (.load 1 false) [.env 0] 0 1,
qwk 0 2 2,
qwf 14 0 6 3,
qwd 1 0 14 4,
qw (.build [.int .u8 0,.int .i64 0] [(0,1),(1,1)]) [qkb 1,qki 0] 0 5,
qw (.mapgetS [0,0] (.agg [.int .u8 0,.int .i64 0,.bool false,.R4]) false) [.loc 1,.loc 0] 62 6,
qw (.call 43) [.loc 6,.loc 0] 127 7] [] [])
(.seq (.drawn [qo (.load 1 false) [.env 0],
qw (.load 1 false) [.env 0] 0 1,
qwk 0 2 2,
qwf 14 0 6 3,
qwd 1 0 14 4,
qw (.build [.int .u8 0,.int .i64 0] [(0,1),(1,1)]) [qkb 2,qki 0] 0 5,
qw (.mapgetS [0,0] (.agg [.int .u8 0,.int .i64 0,.bool false,.R4]) false) [.loc 1,.loc 0] 62 6,
qw (.call 43) [.loc 6,.loc 0] 127 7] [] [])
(rg [qo (.load 1 false) [.env 0],
qo (.call 44) [.loc 0,qki 0]] []))))) (sr [qo (.load 1 false) [.env 0],
qo (.load 1 false) [.env 1],
qkk 45 1 0,
ql 0] [(3,0)]
(sr [qe 3,
qo (.bin .gtr) [.loc 0,qki 0]] [(5,0)]
(cn 5 (sr [qo (.load 1 false) [.env 0],
qe 3,
qkk 46 1 0] []
(.seq (.drawn [qo (.load 1 false) [.env 0],
qw (.load 1 false) [.env 1] 0 1,
qw (.call 42) [.loc 0] 2 2,
qwk 2 7 3,
qwf 7 0 15 4,
qwf 3 0 31 5,
qw (.store 1) [.loc 0,.loc 3] 63 6] [] [])
(rg [qo (.load 1 false) [.env 0],
qe 3,
qkk 44 1 0] []))) (.skip))))))
(.seq (.drawn [qo (.load 1 false) [.env 0],
qw (.load 1 false) [.env 1] 0 1,
qw (.call 42) [.loc 0] 2 2,
qwk 2 7 3,
qwf 7 0 15 4,
qwf 3 0 31 5,
qw (.store 1) [.loc 0,.loc 3] 63 6] [] [])
(sr [qo (.load 1 false) [.env 0],
qk 47 0] []
(sr [qo (.load 1 false) [.env 2],
qo (.bin .geq) [.loc 0,qki 0]] [(6,0)]
(cn 6 (.drawn [qo (.load 1 false) [.env 0],
qw (.load 1 false) [.env 0] 0 1,
qwk 0 2 2,
qwf 0 0 6 3,
qwf 5 0 14 4,
qwd 1 0 30 5,
qw (.load 1 false) [.env 2] 0 6,
qw (.Rz 4) [.loc 1,.loc 0] 126 7,
qw (.load 4 true) [.loc 0] 254 8,
qw (.call 48) [.loc 8,.loc 0] 511 9] [] []) (.skip))))),
[]⟩
def F43:Rh:=⟨[0,1,3,5,6,8,10,11,12,13,17,18,19,20,56],2,
sr [qo (.box 71 4) [.env 1]] [(2,0)]
(sr [qfe 3 2,
qd 1 0,
qln false 0,
qi 0] [(6,2),(7,1),(8,0)]
(.block 0 (.loop (sr [qlt 8 7] [(9,0)]
(.seq (cn 9 (.skip) (.exit 0))
(.seq (.block 1 (sr [qo (.Rz 2) [.env 6,.env 8],
qdt 2 0,
qo (.alloc 74 [.int .i64 0,.R4]) [],
qso 2 0 1] [(3,1)]
(sr [qno] [(4,0)]
(.seq (sr [qfe 1 3,
qd 1 0,
qln false 0,
qi 0] [(10,2),(11,1),(12,0)]
(.block 2 (.loop (sr [qlt 12 11] [(13,0)]
(.seq (cn 13 (.skip) (.exit 2))
(.seq (.block 3 (sr [qo (.Rz 15) [.env 10,.env 12],
qdt 15 0,
qo (.alloc 82 [.int .i64 0,.int .u8 0,.int .u8 0,.str ⟨#[]⟩,.int .i64 0,.int .i64 0,.bool false,.bool false,.bool false,.bool false,.bool false,.int .i64 0,.int .u8 0,.R4,.int .i64 0]) [],
qso 15 0 1] [(5,1)]
(sr [qe 4,
qo (.Ry 5 1 1 [.int .u8 0] [0] 1) [qkb 32],
qfe 0 5,
qd 1 0,
qo (.bin .sub) [.loc 0,qki 1],
qe 4,
qln false 0,
qo (.bin .sub) [.loc 2,.loc 0],
qkk 77 6 0,
qo (.append 5 1 1 1) [.loc 8,.loc 0],
ql 0] [(4,0)]
(rg [qe 4,
qe 0,
qde 15 5,
qkk 78 1 0,
qo (.append 5 1 1 1) [.loc 3,.loc 0],
ql 0] [(4,0)]))))
(rg [qae 12 1,
ql 0] [(12,0)])))))))
(.seq (.drawn [qe 0,
qwk 0 1 1,
qwf 7 0 3 2,
qwf 1 0 7 3,
qwd 1 0 15 4,
qw (.R3 0) [.env 3] 0 5,
qwd 1 0 32 6,
qw (.bin .add) [.loc 2,.loc 0] 127 7,
qwk 7 255 8,
qwf 7 0 511 9,
qwf 1 0 1023 10,
qw (.store 1) [.loc 0,.loc 3] 2047 11] [] [])
(.seq (sr [qe 0,
qnl 0,
qfl 7 0,
qfl 5 0,
qd 1 0,
qln false 0,
qo (.bin .geq) [.loc 0,qki 65536]] [(14,0)]
(cn 14 (sr [qe 0,
qnl 0,
qfl 7 0,
qfl 6 0,
qo (.store 1) [.loc 0,.const (.bool true)]] []
(.exit 1)) (.skip)))
(.drawn [qe 0,
qwe 0 0 1,
qwk 0 2 2,
qwf 7 0 6 3,
qwf 5 0 14 4,
qwd 1 0 30 5,
qwe 0 0 6,
qwk 0 64 7,
qwf 7 0 192 8,
qwf 0 0 448 9,
qwd 1 0 960 10,
qwe 0 0 11,
qwk 0 2048 12,
qwf 7 0 6144 13,
qwf 1 0 14336 14,
qwd 1 0 30720 15,
qwe 4 0 16,
qw .bstr [.loc 0] 65536 17,
qw (.build [.int .i64 0,.int .i64 0,.str ⟨#[]⟩] [(0,1),(1,1),(2,1)]) [.loc 7,.loc 2,.loc 0] 262080 18,
qw (.Ry 52 3 1 [.int .i64 0,.int .i64 0,.str ⟨#[]⟩] [0] 1) [.loc 0] 524224 19,
qw (.append 52 3 32 1) [.loc 14,.loc 0] 1048574 20,
qwk 20 2097151 21,
qwf 7 0 4194303 22,
qwf 5 0 8388607 23,
qw (.store 1) [.loc 0,.loc 3] 16777215 24] [] [])))))))
(rg [qae 8 1,
ql 0] [(8,0)]))))))),
[]⟩
def F44:Rh:=⟨[0,1,11],2,
.block 0 (.loop (.seq (sr [qe 1,
qe 0,
qnl 0,
qfl 0 0,
qfl 1 0,
qd 1 0,
qln false 0,
qo (.bin .leq) [.loc 6,.loc 0]] [(2,0)]
(cn 2 (.skip) (.exit 0)))
(.seq (.block 1 (rg [qe 0,
qe 0,
qnl 0,
qfl 14 0,
qd 1 0,
qe 1,
qo (.build [.int .u8 0,.int .i64 0] [(0,1),(1,1)]) [qkb 3,.loc 0],
qo (.mapgetS [0,0] (.agg [.int .u8 0,.int .i64 0,.bool false,.R4]) false) [.loc 2,.loc 0],
qkk 48 7 0] []))
(rg [qe 1,
qad 0 1,
ql 0] [(1,0)])))),
[]⟩
def F45:Rh:=⟨[0,1,4,5,6,11,12,13,14,33],2,
sr [qi 0] [(2,0)]
(.seq (sr [qe 0,
qnl 0,
qfl 0 0,
qfl 1 0,
qd 1 0,
qln false 0,
qi 0] [(5,2),(6,1),(7,0)]
(.block 0 (.loop (sr [qlt 7 6] [(8,0)]
(.seq (cn 8 (.skip) (.exit 0))
(.seq (.block 1 (sr [qe 7,
qo (.Rz 1) [.env 5,.env 7],
qd 1 0,
ql 2,
ql 1] [(3,1),(4,0)]
(.seq (.drawn [qe 1,
qwe 4 0 1,
qw (.Rz 12) [.loc 1,.loc 0] 3 2,
qwf 11 0 7 3,
qwd 1 0 15 4,
qwe 0 0 5,
qwk 0 32 6,
qwf 7 0 96 7,
qwf 3 0 224 8,
qwd 1 0 480 9,
qwe 4 0 10,
qw (.Rz 12) [.loc 1,.loc 0] 2016 11,
qwf 11 0 4064 12,
qwd 1 0 8160 13,
qw (.call 79) [.loc 9,.loc 0] 16383 14,
qw (.un .not) [.loc 0] 32767 15] [(9,0)] [])
(cn 9 (sr [qe 3,
qad 0 1,
ql 0] [(2,0)]
(.ret)) (.skip)))))
(rg [qae 7 1,
ql 0] [(7,0)])))))))
(sr [qi (-1)] [(2,0)]
(.ret))),
[.tmp 2]⟩
def F46:Rh:=⟨[0,1,4,5,6,15,31,32,33,34,41],2,
sr [qe 0,
qnl 0,
qfl 0 0,
qfl 1 0,
qd 1 0,
qln false 0,
ql 0] [(2,0)]
(.block 0 (.loop (.seq (sr [qe 2,
qe 1,
qo (.bin .geq) [.loc 1,.loc 0]] [(5,0)]
(cn 5 (.skip) (.exit 0)))
(.seq (.block 1 (sr [qe 0,
qe 0,
qnl 0,
qfl 14 0,
qd 1 0,
qe 2,
qo (.build [.int .u8 0,.int .i64 0] [(0,1),(1,1)]) [qkb 5,.loc 0],
qo (.mapgetS [0,0] (.agg [.int .u8 0,.int .i64 0,.bool false,.R4]) false) [.loc 2,.loc 0],
qkk 48 7 0] []
(sr [qe 0,
qnl 0,
qfl 0 0,
qfl 6 0,
qd 1 0,
qln false 0,
qi 0] [(6,2),(7,1),(8,0)]
(.block 2 (.loop (sr [qlt 8 7] [(9,0)]
(.seq (cn 9 (.skip) (.exit 2))
(.seq (.block 3 (sr [qe 8,
qo (.Rz 2) [.env 6,.env 8],
qdt 2 0,
qo (.alloc 67 [.int .i64 0,.int .i64 0]) [],
ql 3,
qso 2 1 2] [(3,1),(4,2)]
(sr [qfe 1 4,
qd 1 0,
qe 2,
qo (.bin .eql) [.loc 1,.loc 0]] [(10,0)]
(cn 10 (.drawn [qe 0,
qwk 0 1 1,
qwf 7 0 3 2,
qwf 4 0 7 3,
qwd 1 0 15 4,
qwe 3 0 5,
qw (.call 26) [qki 0] 0 6,
qw (.Rz 3) [.loc 2,.loc 1] 127 7,
qw (.store 3) [.loc 0,.loc 1] 255 8] [] []) (.skip)))))
(rg [qae 8 1,
ql 0] [(8,0)])))))))))
(rg [qe 2,
qo (.bin .sub) [.loc 0,qki 1],
ql 0] [(2,0)]))))),
[]⟩
def F47:Rh:=⟨[0,2,3,4,10,11,12,13],1,
sr [qe 0,
qnl 0,
qfl 0 0,
qfl 6 0,
qd 1 0,
qln false 0,
qi 0] [(4,2),(5,1),(6,0)]
(.block 0 (.loop (sr [qlt 6 5] [(7,0)]
(.seq (cn 7 (.skip) (.exit 0))
(.seq (.block 1 (sr [qe 6,
qo (.Rz 2) [.env 4,.env 6],
qdt 2 0,
qo (.alloc 67 [.int .i64 0,.int .i64 0]) [],
ql 3,
qso 2 1 2] [(1,1),(2,2)]
(.seq (.drawn [qe 0,
qwk 0 1 1,
qwf 7 0 3 2,
qwf 3 0 7 3,
qwd 1 0 15 4,
qw (.R3 0) [.env 2] 0 5,
qwd 1 0 32 6,
qw (.Rz 12) [.loc 2,.loc 0] 127 7,
qw (.load 12 true) [.loc 0] 255 8,
qw (.call 80) [.loc 0] 511 9,
qwl 0 1023 10,
qw (.extract 0) [.loc 0] 2047 11,
qw (.extract 1) [.loc 1] 2047 12,
⟨.mv,[.loc 13],none,ob 0 13,some 0⟩,
qw (.store 3) [.loc 0,.loc 2] 12287 14,
qwl 2 32767 15] [(3,2)] [(57,[.bool false,.str ⟨#[]⟩,.int .i64 0])])
(.drawn [qe 0,
qwk 0 1 1,
qwf 7 0 3 2,
qwf 4 0 7 3,
qwd 1 0 15 4,
qwe 1 0 5,
qwe 0 0 6,
qwk 0 64 7,
qwf 7 0 192 8,
qwf 4 0 448 9,
qwd 1 0 960 10,
qwe 1 0 11,
qw (.Rz 3) [.loc 1,.loc 0] 4032 12,
qw (.load 3 true) [.loc 0] 8128 13,
qw (.load 3 true) [.env 3] 0 14,
qw (.call 81) [.loc 1,.loc 0] 32704 15,
qwl 0 65472 16,
qw (.extract 0) [.loc 0] 131008 17,
qw (.extract 1) [.loc 1] 131008 18,
qw (.Rz 3) [.loc 14,.loc 13] 262143 19,
qw (.store 3) [.loc 0,.loc 2] 786431 20] [] []))))
(rg [qae 6 1,
ql 0] [(6,0)])))))),
[]⟩
def F48:Rh:=⟨[0,1,3,9,41,72],2,
sr [qo (.box 71 4) [.env 1]] [(2,0)]
(.seq (sr [qe 0,
qnl 0,
qfl 0 0,
qfl 2 0,
qd 1 0,
qo (.bin .gtr) [.loc 0,qki 0]] [(3,0)]
(cn 3 (.seq (.seq (.drawn [qe 0,
qwk 0 1 1,
qwf 7 0 3 2,
qwf 2 0 7 3,
qwd 1 0 15 4,
qwl 0 31 5,
qh (.R3 2) [.env 2] 0 true 63 6,
qh (.load 1 false) [.loc 0] 1 true 127 7,
qh .mv [.loc 0] 2 true 255 8,
qh (.load 4 true) [.env 2] 0 false 511 9,
qh (.call 82) [.loc 0] 1 false 1023 10,
qh .mv [.env 0] 2 false 511 11,
qh .nilck [.loc 0] 3 false 2559 12,
qh (.R3 0) [.loc 0] 4 false 6655 13,
qh (.R3 4) [.loc 0] 5 false 14847 14,
qh (.load 1 false) [.loc 0] 6 false 31231 15,
qh .mv [.env 0] 7 false 511 16,
qh .nilck [.loc 0] 8 false 66047 17,
qh (.R3 7) [.loc 0] 9 false 197119 18,
qh (.R3 1) [.loc 0] 10 false 459263 19,
qh (.load 1 false) [.loc 0] 11 false 983551 20,
qh .mv [.env 0] 12 false 511 21,
qh .nilck [.loc 0] 13 false 2097663 22,
qh (.R3 0) [.loc 0] 14 false 6291967 23,
qh (.R3 3) [.loc 0] 15 false 14680575 24,
qh (.load 1 false) [.loc 0] 16 false 31457791 25,
qh (.bin .sub) [.loc 0,qki 1] 17 false 65012223 26,
qh .max [.loc 6,.loc 0] 18 false 134152703 27,
qh (.bin .sub) [.loc 12,.loc 0] 19 false 268433919 28,
qh (.bin .gtr) [.loc 18,.loc 0] 20 false 536870911 29,
qh .pick [.loc 21,.const (.bool true),.loc 0] 24 true 1073741823 30,
qw .pick [.loc 25,.loc 0,.const (.bool false)] 2147483647 31] [(4,0)] [])
(cn 4 (sr [qe 0,
qk 59 0] []
(sr [qe 0,
qnl 0,
qfl 7 0,
qfl 0 0,
qd 1 0,
qad 0 1,
qnl 5,
qfl 7 0,
qfl 0 0,
qso 1 0 3] []
(sr [qe 0,
qe 0,
qnl 1,
qfl 7 0,
qfl 1 0,
qo (.store 1) [.loc 0,qki 0],
qnl 4,
qfl 7 0,
qfl 2 0,
qo (.store 1) [.loc 0,.const (.bool false)]] []
(rg [qe 0,
qe 0,
qnl 0,
qfl 14 0,
qd 1 0,
qo (.build [.int .u8 0,.int .i64 0] [(0,1),(1,1)]) [qkb 2,qki 0],
qo (.mapgetS [0,0] (.agg [.int .u8 0,.int .i64 0,.bool false,.R4]) false) [.loc 1,.loc 0],
qkk 43 6 0] [])))) (.skip)))
(sr [qfe 3 2,
qd 1 0,
qln false 0,
qo (.bin .gtr) [.loc 0,qki 0]] [(5,0)]
(cn 5 (.seq (.drawn [qe 0,
qwe 0 0 1,
qwk 0 2 2,
qwf 7 0 6 3,
qwf 1 0 14 4,
qwd 1 0 30 5,
qwe 0 0 6,
qwk 0 64 7,
qwf 0 0 192 8,
qwf 3 0 448 9,
qwd 1 0 960 10,
qw (.bin .sub) [.loc 0,qki 1] 1984 11,
qw .max [.loc 6,.loc 0] 4094 12,
qwk 12 8191 13,
qwf 7 0 16383 14,
qwf 1 0 32767 15,
qw (.store 1) [.loc 0,.loc 3] 65535 16] [] [])
(rg [qe 0,
qnl 0,
qfl 7 0,
qfl 2 0,
qo (.store 1) [.loc 0,.const (.bool true)]] [])) (.skip)))) (.skip)))
(rg [qe 0,
qde 4 2,
qkk 43 1 0] [])),
[]⟩
def F58:Rh:=⟨[0,6,22],1,
.seq (sr [qo (.load 1 false) [.env 0],
qnl 0,
qfl 7 0,
qfl 0 0,
qd 1 0,
qo (.bin .eql) [.loc 0,qki 0]] [(1,0)]
(cn 1 (.ret) (.skip)))
(sr [qo (.load 1 false) [.env 0],
qo (.call 46) [.loc 0,qki 0]] []
(.seq (.drawn [qo (.load 1 false) [.env 0],
qw (.load 1 false) [.env 0] 0 1,
qwk 0 2 2,
qwf 14 0 6 3,
qwd 1 0 14 4,
qw (.build [.int .u8 0,.int .i64 0] [(0,1),(1,1)]) [qkb 7,qki 0] 0 5,
qw (.mapgetS [0,0] (.agg [.int .u8 0,.int .i64 0,.bool false,.R4]) false) [.loc 1,.loc 0] 62 6,
qw (.call 48) [.loc 6,.loc 0] 127 7] [] [])
(sr [qo (.load 1 false) [.env 0],
qnl 0,
qfl 0 0,
qfl 2 0,
qd 1 0,
qo (.bin .gtr) [.loc 0,qki 0]] [(2,0)]
(cn 2 (rg [qo (.load 1 false) [.env 0],
qk 59 0] []) (.skip))))),
[]⟩
def F59:Rh:=⟨[0],1,
sr [qe 0,
qe 0,
qnl 0,
qfl 0 0,
qfl 4 0,
qd 1 0,
qnl 5,
qfl 7 0,
qfl 1 0,
qso 1 0 3] []
(rg [qe 0,
qe 0,
qnl 0,
qfl 14 0,
qd 1 0,
qo (.build [.int .u8 0,.int .i64 0] [(0,1),(1,1)]) [qkb 6,qki 0],
qo (.mapgetS [0,0] (.agg [.int .u8 0,.int .i64 0,.bool false,.R4]) false) [.loc 1,.loc 0],
qkk 43 6 0] []),
[]⟩
def F64:Rh:=⟨[0,1,4,5],2,
sr [qo .mv [.const (.str ⟨#[]⟩)],
qbb false] [(2,1),(3,0)]
(sr [qe 0,
qe 1,
qkk 88 1 0,
qx 0 0,
qx 1 1,
ql 1,
ql 1] [(2,1),(3,0)]
(.ret)),
[.tmp 2,.tmp 3]⟩
def F65:Rh:=⟨[0,1,4],2,
sr [qo .mv [.const (.str ⟨#[]⟩)]] [(2,0)]
(sr [qe 0,
qe 1,
qkk 89 1 0,
ql 0] [(2,0)]
(.ret)),
[.tmp 2]⟩
def F67:Rh:=⟨[0,1,2,3,4,6,7,9,10,12,13,14,15,35,38,39,40,41,77,81,82,83,84,105],1,
sr [qo (.box 37 7) [.env 0],
qbb false] [(1,1),(2,0)]
(.seq (sr [qfe 1 1,
qd 1 0,
qln false 0,
qi 0] [(9,2),(10,1),(11,0)]
(.block 0 (.loop (sr [qlt 11 10] [(12,0)]
(.seq (cn 12 (.skip) (.exit 0))
(.seq (.block 1 (sr [qe 11,
qo (.Rz 1) [.env 9,.env 11],
qd 1 0,
ql 2,
ql 1] [(3,1),(4,0)]
(sr [qe 4,
qo (.bin .lss) [.loc 0,qki 0],
ql 0,
qge 4 0 false,
qg (.R3 0) [.env 1] 1 false,
qgd 1 0 2 false,
qg (.len false) [.loc 0] 3 false,
qg (.bin .geq) [.loc 3,.loc 0] 4 false,
qpt 5 0,
ql 0,
qg (.R3 1) [.env 1] 0 false,
qgd 1 0 1 false,
qge 3 2 false,
qg (.slice false 1 false true false) [.loc 1,.loc 0] 3 false,
qge 4 4 false,
qg (.call 95) [.loc 1,.loc 0] 5 false,
qpt 6 0] [(13,0)]
(cn 13 (sr [qbb false] [(2,0)]
(.ret)) (.skip)))))
(rg [qae 11 1,
ql 0] [(11,0)])))))))
(.seq (sr [qfe 6 1,
qd 1 0,
qln false 0,
qi 0] [(14,2),(15,1),(16,0)]
(.block 2 (.loop (sr [qlt 16 15] [(17,0)]
(.seq (cn 17 (.skip) (.exit 2))
(.seq (.block 3 (sr [qo (.Rz 2) [.env 14,.env 16],
qdt 2 0,
qo (.alloc 67 [.int .i64 0,.int .i64 0]) [],
qso 2 0 1] [(5,1)]
(sr [qfe 0 5,
qd 1 0,
qo (.bin .lss) [.loc 0,qki 0],
ql 0,
qg (.R3 0) [.env 5] 0 false,
qgd 1 0 1 false,
qg (.R3 0) [.env 1] 2 false,
qgd 1 0 3 false,
qg (.len false) [.loc 0] 4 false,
qg (.bin .geq) [.loc 3,.loc 0] 5 false,
qpt 6 0,
ql 0,
qg (.R3 0) [.env 1] 0 false,
qgd 1 0 1 false,
qg (.R3 0) [.env 5] 2 false,
qgd 1 0 3 false,
qg (.Rz 11) [.loc 2,.loc 0] 4 false,
qg (.R3 0) [.loc 0] 5 false,
qgd 1 0 6 false,
qg (.bin .neq) [.loc 0,qkb 4] 7 false,
qpt 8 0,
ql 0,
qg (.R3 1) [.env 5] 0 false,
qgd 1 0 1 false,
qg (.bin .lss) [.loc 0,qki 0] 2 false,
qpt 3 0,
ql 0,
qg (.R3 1) [.env 5] 0 false,
qgd 1 0 1 false,
qg (.R3 1) [.env 1] 2 false,
qgd 1 0 3 false,
qg (.len false) [.loc 0] 4 false,
qg (.bin .gtr) [.loc 3,.loc 0] 5 false,
qpt 6 0] [(18,0)]
(cn 18 (sr [qbb false] [(2,0)]
(.ret)) (.skip)))))
(rg [qae 16 1,
ql 0] [(16,0)])))))))
(sr [qo .mkmap [],
ql 0] [(6,0)]
(.seq (sr [qfe 5 1,
qd 1 0,
qln false 0,
qi 0] [(19,2),(20,1),(21,0)]
(.block 4 (.loop (sr [qlt 21 20] [(22,0)]
(.seq (cn 22 (.skip) (.exit 4))
(.seq (.block 5 (sr [qo (.Rz 4) [.env 19,.env 21],
qdt 4 0,
qo (.alloc 71 [.int .u8 0,.int .i64 0,.bool false,.R4]) [],
qso 4 0 1] [(7,1)]
(sr [qfe 0 7,
qd 1 0,
qfe 1 7,
qd 1 0,
qo (.build [.int .u8 0,.int .i64 0] [(0,1),(1,1)]) [.loc 2,.loc 0],
qo (.alloc 93 [.int .u8 0,.int .i64 0]) [],
qso 2 0 1] [(8,1)]
(.seq (sr [qde 7 1,
qde 4 7,
qkk 96 1 0,
qun 0,
ql 0,
qge 6 0 false,
qg (.load 2 true) [.env 8] 1 false,
qg (.mapgetS [0,0] (.bool false) false) [.loc 1,.loc 0] 2 false,
qgl 0 3 false,
qg (.R3 0) [.env 7] 0 true,
qgd 1 0 1 true,
qg (.bin .neq) [.loc 0,qkb 4] 2 true,
qg .pick [.loc 3,.loc 0,.const (.bool false)] 7 false,
qpt 8 0] [(23,0)]
(cn 23 (sr [qbb false] [(2,0)]
(.ret)) (.skip)))
(rg [qe 6,
qde 2 8,
qo (.mapsetS [0,0]) [.loc 1,.loc 0,.const (.bool true)]] [])))))
(rg [qae 21 1,
ql 0] [(21,0)])))))))
(sr [qde 7 1,
qk 97 0,
ql 0] [(2,0)]
(.ret)))))),
[.tmp 2]⟩
def F68:Rh:=⟨[0,2,4],1,
sr [qno] [(1,0)]
(.seq (sr [qe 0,
qo (.eqnil false 0) [.loc 0,.const (.R4)]] [(2,0)]
(cn 2 (sr [qno] [(1,0)]
(.ret)) (.skip)))
(sr [qo (.Ry 64 11 0 [.int .u8 0,.int .u8 0,.str ⟨#[]⟩,.int .i64 0,.int .i64 0,.bool false,.bool false,.bool false,.bool false,.bool false,.int .i64 0] [] 1) [],
qe 0,
qo (.append 64 11 56 1) [.loc 1,.loc 0],
ql 0] [(1,0)]
(.ret))),
[.tmp 1]⟩
def F69:Rh:=⟨[0,2,4],1,
sr [qno] [(1,0)]
(.seq (sr [qe 0,
qo (.eqnil false 0) [.loc 0,.const (.R4)]] [(2,0)]
(cn 2 (sr [qno] [(1,0)]
(.ret)) (.skip)))
(sr [qo (.Ry 3 1 0 [.int .i64 0] [] 1) [],
qe 0,
qo (.append 3 1 8 1) [.loc 1,.loc 0],
ql 0] [(1,0)]
(.ret))),
[.tmp 1]⟩
def F70:Rh:=⟨[0,2,4],1,
sr [qno] [(1,0)]
(.seq (sr [qe 0,
qo (.eqnil false 0) [.loc 0,.const (.R4)]] [(2,0)]
(cn 2 (sr [qno] [(1,0)]
(.ret)) (.skip)))
(sr [qo (.Ry 67 2 0 [.int .i64 0,.int .i64 0] [] 1) [],
qe 0,
qo (.append 67 2 16 1) [.loc 1,.loc 0],
ql 0] [(1,0)]
(.ret))),
[.tmp 1]⟩
def F71:Rh:=⟨[0,2,4],1,
sr [qno] [(1,0)]
(.seq (sr [qe 0,
qo (.eqnil false 0) [.loc 0,.const (.R4)]] [(2,0)]
(cn 2 (sr [qno] [(1,0)]
(.ret)) (.skip)))
(sr [qo (.Ry 71 4 0 [.int .u8 0,.int .i64 0,.bool false,.R4] [] 0) [],
qe 0,
qo (.append 71 4 48 0) [.loc 1,.loc 0],
ql 0] [(1,0)]
(.ret))),
[.tmp 1]⟩
def F72:Rh:=⟨[0,2,4],1,
sr [qno] [(1,0)]
(.seq (sr [qe 0,
qo (.eqnil false 0) [.loc 0,.const (.R4)]] [(2,0)]
(cn 2 (sr [qno] [(1,0)]
(.ret)) (.skip)))
(sr [qo (.Ry 74 2 0 [.int .i64 0,.R4] [] 0) [],
qe 0,
qo (.append 74 2 32 0) [.loc 1,.loc 0],
ql 0] [(1,0)]
(.ret))),
[.tmp 1]⟩
def F73:Rh:=⟨[0,2,4],1,
sr [qno] [(1,0)]
(.seq (sr [qe 0,
qo (.eqnil false 0) [.loc 0,.const (.R4)]] [(2,0)]
(cn 2 (sr [qno] [(1,0)]
(.ret)) (.skip)))
(sr [qo (.Ry 82 15 0 [.int .i64 0,.int .u8 0,.int .u8 0,.str ⟨#[]⟩,.int .i64 0,.int .i64 0,.bool false,.bool false,.bool false,.bool false,.bool false,.int .i64 0,.int .u8 0,.R4,.int .i64 0] [] 0) [],
qe 0,
qo (.append 82 15 104 0) [.loc 1,.loc 0],
ql 0] [(1,0)]
(.ret))),
[.tmp 1]⟩
def F74:Rh:=⟨[0,2,4],1,
sr [qno] [(1,0)]
(.seq (sr [qe 0,
qo (.eqnil false 0) [.loc 0,.const (.R4)]] [(2,0)]
(cn 2 (sr [qno] [(1,0)]
(.ret)) (.skip)))
(sr [qo (.Ry 5 1 0 [.int .u8 0] [] 1) [],
qe 0,
qo (.append 5 1 1 1) [.loc 1,.loc 0],
ql 0] [(1,0)]
(.ret))),
[.tmp 1]⟩
def F75:Rh:=⟨[0,1,2,4,8],1,
sr [qo (.boxc 12) [.env 0],
qi 0] [(1,1),(2,0)]
(.seq (sr [qfe 0 1,
qdt 11 0,
qk 98 0,
qo (.bin .neq) [.loc 0,qki 0]] [(4,0)]
(cn 4 (sr [qi 1] [(2,0)]
(.ret)) (.skip)))
(sr [qde 12 1,
qk 99 0,
ql 0,
qx 0 0,
qx 1 1,
qo (.alloc 157 [.bool false,.str ⟨#[]⟩]) [],
qso 2 0 2,
ql 2] [(3,0)]
(sr [qe 3,
ql 0] [(2,0)]
(.ret)))),
[.tmp 2]⟩
def F76:Rh:=⟨[0,2,4],1,
sr [qno] [(1,0)]
(.seq (sr [qe 0,
qo (.eqnil false 0) [.loc 0,.const (.R4)]] [(2,0)]
(cn 2 (sr [qno] [(1,0)]
(.ret)) (.skip)))
(sr [qo (.Ry 57 3 0 [.bool false,.str ⟨#[]⟩,.int .i64 0] [] 2) [],
qe 0,
qo (.append 57 3 32 2) [.loc 1,.loc 0],
ql 0] [(1,0)]
(.ret))),
[.tmp 1]⟩
def F78:Rh:=⟨[0,1,3,4,5,7,8,19,29,45,63],2,
sr [qo (.box 82 15) [.env 1],
qno] [(2,1),(3,0)]
(sr [qno] [(4,0)]
(.seq (sr [qfe 12 2,
qd 1 0] [(5,0)]
(.block 0 (sr [qo (.bin .eql) [.env 5,qkb 1],
ql 0] [(6,0)]
(cn 6 (rg [qfe 13 2,
qd 1 0,
qfe 1 2,
qfl 10 0,
qd 1 0,
qo (.call 101) [.loc 3,.loc 0,.const (.bool false)],
ql 0,
qx 0 0,
qx 1 1,
ql 1] [(4,0)]) (sr [qo (.bin .eql) [.env 5,qkb 2],
ql 0] [(7,0)]
(cn 7 (.seq (.drawn [qfe 14 2,
qwd 1 0 1 1,
qwe 0 0 2,
qwk 0 4 3,
qwf 7 0 12 4,
qwf 3 0 28 5,
qwd 1 0 60 6,
qw (.len false) [.loc 0] 124 7,
qw (.bin .lss) [.loc 6,.loc 0] 255 8] [(8,0)] [])
(cn 8 (.drawn [qe 0,
qwk 0 1 1,
qwf 7 0 3 2,
qwf 3 0 7 3,
qwd 1 0 15 4,
qw (.R3 14) [.env 2] 0 5,
qwd 1 0 32 6,
qw (.Rz 12) [.loc 2,.loc 0] 127 7,
qw (.load 12 true) [.loc 0] 255 8,
qw (.R3 1) [.env 2] 0 9,
qw (.load 11 true) [.loc 0] 512 10,
qw (.call 102) [.loc 2,.loc 0] 2047 11,
qwl 0 4095 12,
qw (.extract 0) [.loc 0] 8191 13,
qw (.extract 1) [.loc 1] 8191 14,
qwl 1 16383 15] [(4,0)] []) (.skip))) (sr [qo (.bin .eql) [.env 5,qkb 3],
ql 0] [(9,0)]
(cn 9 (.drawn [qe 0,
qwk 0 1 1,
qwf 7 0 3 2,
qwf 4 0 7 3,
qwd 1 0 15 4,
qw (.R3 14) [.env 2] 0 5,
qwd 1 0 32 6,
qw (.Rz 3) [.loc 2,.loc 0] 127 7,
qw (.load 3 true) [.loc 0] 255 8,
qw (.R3 1) [.env 2] 0 9,
qw (.load 11 true) [.loc 0] 512 10,
qw (.call 103) [.loc 2,.loc 0,qkb 0] 2047 11,
qwl 0 4095 12,
qw (.extract 0) [.loc 0] 8191 13,
qw (.extract 1) [.loc 1] 8191 14,
qw (.extract 2) [.loc 2] 8191 15,
qwl 2 16383 16] [(4,0)] []) (sr [qo (.bin .eql) [.env 5,qkb 4],
ql 0] [(10,0)]
(cn 10 (.drawn [qe 0,
qwk 0 1 1,
qwf 7 0 3 2,
qwf 0 0 7 3,
qwd 1 0 15 4,
qw (.call 26) [.loc 0] 31 5,
qw (.R3 1) [.env 2] 0 6,
qw (.load 11 true) [.loc 0] 64 7,
qw (.call 103) [.loc 2,.loc 0,qkb 0] 255 8,
qwl 0 511 9,
qw (.extract 0) [.loc 0] 1023 10,
qw (.extract 1) [.loc 1] 1023 11,
qw (.extract 2) [.loc 2] 1023 12,
qwl 2 2047 13] [(4,0)] []) (.skip)))))))))))
(sr [qe 4,
ql 0] [(3,0)]
(.ret)))),
[.tmp 3]⟩
def F79:Rh:=⟨[0,1,4],2,
sr [qbb false] [(2,0)]
(sr [qe 0,
qo .bstr [.loc 0],
qe 1,
qo .bstr [.loc 0],
qo (.bin .eql) [.loc 2,.loc 0],
ql 0] [(2,0)]
(.ret)),
[.tmp 2]⟩
def F80:Rh:=⟨[0,1,2,3,4,5,6,11,20],1,
sr [qo (.boxc 12) [.env 0],
qo (.alloc 57 [.bool false,.str ⟨#[]⟩,.int .i64 0]) [],
qi 0] [(1,2),(2,1),(3,0)]
(.seq (sr [qfe 0 1,
qdt 11 0,
qk 104 0,
ql 0] [(4,0)]
(sr [qe 4,
qo (.bin .neq) [.loc 0,qki 0]] [(7,0)]
(cn 7 (sr [qo (.build [.bool false,.str ⟨#[]⟩,.int .i64 0] []) [],
qe 4,
qs2 3 2 1,
ql 1] [(3,0)]
(.ret)) (.skip))))
(sr [qde 12 1,
qk 99 0,
ql 0,
qx 0 0,
qx 1 1,
qo (.alloc 157 [.bool false,.str ⟨#[]⟩]) [],
qso 2 0 2,
ql 2] [(5,2),(6,0)]
(.seq (sr [qe 6,
qo (.bin .neq) [.loc 0,qki 0]] [(8,0)]
(cn 8 (sr [qo (.build [.bool false,.str ⟨#[]⟩,.int .i64 0] []) [],
qe 6,
qs2 3 2 1,
ql 1] [(3,0)]
(.ret)) (.skip)))
(sr [qfe 0 5,
qd 1 0,
qfe 1 5,
qd 1 0,
qfe 0 1,
qfl 4 0,
qd 1 0,
qo (.call 105) [.loc 5,.loc 3,.loc 0],
qx 0 0,
qx 1 1,
qs2 3 2 1,
ql 1] [(3,0)]
(.ret))))),
[.cell 2 3 true,.tmp 3]⟩
def F81:Rh:=⟨[0,1,2,3,4,5,6,7,8,9,14,24,39],2,
sr [qo (.boxc 3) [.env 0],
qo (.boxc 3) [.env 1],
qo (.alloc 57 [.bool false,.str ⟨#[]⟩,.int .i64 0]) [],
qi 0] [(2,3),(3,2),(4,1),(5,0)]
(.seq (sr [qde 3 2,
qde 3 3,
qkk 106 1 0,
ql 0] [(6,0)]
(sr [qe 6,
qo (.bin .neq) [.loc 0,qki 0]] [(10,0)]
(cn 10 (sr [qo (.build [.bool false,.str ⟨#[]⟩,.int .i64 0] []) [],
qe 6,
qs2 3 4 1,
ql 1] [(5,0)]
(.ret)) (.skip))))
(sr [qde 3 2,
qde 3 3,
qkk 107 1 0,
ql 0,
qx 0 0,
qx 1 1,
qx 2 2,
ql 2,
ql 2,
ql 2] [(7,2),(8,1),(9,0)]
(.seq (.block 0 (sr [qfe 0 2,
qd 1 0,
qfe 0 3,
qd 1 0,
qo (.eqb false) [.loc 2,.loc 0],
ql 0] [(11,0)]
(cn 11 (.seq (.drawn [qfe 0 2,
qwd 1 0 1 1,
qwe 7 0 2,
qwe 8 0 3,
qw (.call 109) [.loc 1,.loc 0] 12 4,
qwe 9 0 5,
qw (.call 108) [.loc 4,.loc 1,.loc 0] 63 6,
qw (.extract 0) [.loc 0] 127 7,
qw (.extract 1) [.loc 1] 127 8,
qw (.store 3) [.env 4,.loc 1] 511 9,
qwl 1 1023 10] [(5,0)] [])
(.ret)) (sr [qe 7,
qe 8,
qo (.bin .geq) [.loc 1,.loc 0],
ql 0] [(12,0)]
(cn 12 (.seq (.drawn [qfe 0 2,
qwd 1 0 1 1,
qwe 7 0 2,
qwe 8 0 3,
qw (.call 110) [.loc 1,.loc 0] 12 4,
qwe 9 0 5,
qw (.call 108) [.loc 4,.loc 1,.loc 0] 63 6,
qw (.extract 0) [.loc 0] 127 7,
qw (.extract 1) [.loc 1] 127 8,
qw (.store 3) [.env 4,.loc 1] 511 9,
qwl 1 1023 10] [(5,0)] [])
(.ret)) (.skip))))))
(.seq (.drawn [qfe 0 3,
qwd 1 0 1 1,
qwe 8 0 2,
qwe 7 0 3,
qw (.call 110) [.loc 1,.loc 0] 12 4,
qwe 9 0 5,
qw (.call 108) [.loc 4,.loc 1,.loc 0] 63 6,
qw (.extract 0) [.loc 0] 127 7,
qw (.extract 1) [.loc 1] 127 8,
qw (.store 3) [.env 4,.loc 1] 511 9,
qwl 1 1023 10] [(5,0)] [])
(.ret))))),
[.cell 4 3 true,.tmp 5]⟩
def F88:Rh:=⟨[0,1,4,5,9],2,
sr [qo .mv [.const (.str ⟨#[]⟩)],
qbb false] [(2,1),(3,0)]
(.seq (sr [qe 0,
qe 1,
qkk 114 1 0,
qun 0] [(4,0)]
(cn 4 (sr [qe 0,
ql 0,
qbb false] [(2,1),(3,0)]
(.ret)) (.skip)))
(sr [qe 0,
qe 1,
qln true 0,
qo (.slice true 0 true false false) [.loc 2,.loc 0],
ql 0,
qbb true] [(2,1),(3,0)]
(.ret))),
[.tmp 2,.tmp 3]⟩
def F96:Rh:=⟨[0,1,2,3,4,5,14,45,62],2,
sr [qo (.box 37 7) [.env 0],
qo (.box 71 4) [.env 1],
qbb false] [(2,2),(3,1),(4,0)]
(sr [qfe 0 3,
qd 1 0,
qo (.bin .eql) [.loc 0,qkb 3],
ql 0,
qg (.R3 0) [.env 3] 0 false,
qgd 1 0 1 false,
qg (.bin .eql) [.loc 0,qkb 5] 2 false,
qpt 3 0,
ql 0] [(5,0)]
(.seq (.block 0 (sr [qfe 0 3,
qd 1 0,
qo (.bin .lss) [.loc 0,qkb 1],
ql 0,
qg (.R3 0) [.env 3] 0 false,
qgd 1 0 1 false,
qg (.bin .gtr) [.loc 0,qkb 7] 2 false,
qpt 3 0,
ql 0,
qg (.R3 1) [.env 3] 0 false,
qgd 1 0 1 false,
qg (.bin .lss) [.loc 0,qki 0] 2 false,
qpt 3 0,
ql 0,
qg (.R3 1) [.env 3] 0 false,
qgd 1 0 1 false,
qg (.R3 1) [.env 2] 2 false,
qgd 1 0 3 false,
qg (.len false) [.loc 0] 4 false,
qg (.bin .gtr) [.loc 3,.loc 0] 5 false,
qpt 6 0,
ql 0,
qge 5 0 false,
qg (.un .not) [.loc 0] 1 false,
qgl 0 2 false,
qg (.R3 1) [.env 3] 0 true,
qgd 1 0 1 true,
qg (.bin .neq) [.loc 0,qki 0] 2 true,
qg .pick [.loc 3,.loc 0,.const (.bool false)] 6 false,
qpt 7 0,
ql 0] [(6,0)]
(cn 6 (sr [qbb false] [(4,0)]
(.ret)) (sr [qfe 2 3,
qd 1 0,
ql 0,
qg (.R3 2) [.env 2] 0 true,
qgd 1 0 1 true,
qg (.bin .eql) [.loc 0,qki 0] 2 true,
qgl 0 3 true,
qge 5 0 false,
qg (.un .not) [.loc 0] 1 false,
qgl 0 2 false,
qg (.R3 0) [.env 3] 0 true,
qgd 1 0 1 true,
qg (.bin .neq) [.loc 0,qkb 4] 2 true,
qg .pick [.loc 3,.loc 0,.const (.bool false)] 6 false,
qg .pick [.loc 7,.const (.bool true),.loc 0] 11 true,
qpf 12 0,
ql 0] [(7,0)]
(cn 7 (sr [qbb false] [(4,0)]
(.ret)) (sr [qfe 2 2,
qd 1 0,
qo (.bin .eql) [.loc 0,qki 0],
ql 0,
qg (.R3 0) [.env 3] 0 true,
qgd 1 0 1 true,
qg (.bin .eql) [.loc 0,qkb 2] 2 true,
qgl 0 3 true,
qg (.R3 0) [.env 3] 0 false,
qgd 1 0 1 false,
qg (.bin .eql) [.loc 0,qkb 6] 2 false,
qg .pick [.loc 3,.const (.bool true),.loc 0] 7 true,
qpf 8 0,
ql 0] [(8,0)]
(cn 8 (sr [qbb false] [(4,0)]
(.ret)) (.skip))))))))
(sr [qfe 3 3,
qd 1 0,
qo (.mkfn 141) [.env 2],
qkk 140 1 0,
qun 0,
ql 0] [(4,0)]
(.ret)))),
[.tmp 4]⟩
def F97:Rh:=⟨[0,1,2,3,5,6,9,39,41,42,43,44,50,58,59,65,73],1,
sr [qo (.box 37 7) [.env 0],
qbb false] [(1,1),(2,0)]
(.seq (sr [qfe 2 1,
qd 1 0,
qo (.bin .eql) [.loc 0,qki 0]] [(6,0)]
(cn 6 (sr [qfe 3 1,
qd 1 0,
qo (.bin .eql) [.loc 0,qki 0],
ql 0,
qg (.R3 4) [.env 1] 0 true,
qgd 1 0 1 true,
qg (.bin .eql) [.loc 0,qki 0] 2 true,
qpf 3 0,
ql 0] [(2,0)]
(.ret)) (.skip)))
(.seq (sr [qfe 3 1,
qd 1 0,
qo (.bin .lss) [.loc 0,qki 1],
ql 0,
qg (.R3 3) [.env 1] 0 false,
qgd 1 0 1 false,
qg (.R3 4) [.env 1] 2 false,
qgd 1 0 3 false,
qg (.bin .gtr) [.loc 2,.loc 0] 4 false,
qpt 5 0,
ql 0,
qg (.R3 4) [.env 1] 0 false,
qgd 1 0 1 false,
qg (.R3 2) [.env 1] 2 false,
qgd 1 0 3 false,
qg (.bin .gtr) [.loc 2,.loc 0] 4 false,
qpt 5 0,
ql 0,
qg (.R3 2) [.env 1] 0 false,
qgd 1 0 1 false,
qg (.bin .gtr) [.loc 0,qki 1000] 2 false,
qpt 3 0] [(7,0)]
(cn 7 (sr [qbb false] [(2,0)]
(.ret)) (.skip)))
(sr [qi 0] [(3,0)]
(.seq (sr [qfe 5 1,
qd 1 0,
qln false 0,
qi 0] [(8,2),(9,1),(10,0)]
(.block 0 (.loop (sr [qlt 10 9] [(11,0)]
(.seq (cn 11 (.skip) (.exit 0))
(.seq (.block 1 (sr [qo (.Rz 4) [.env 8,.env 10],
qdt 4 0,
qo (.alloc 71 [.int .u8 0,.int .i64 0,.bool false,.R4]) [],
qso 4 0 1] [(4,1)]
(sr [qde 4 4,
qk 82 0,
ql 0] [(5,0)]
(sr [qfe 0 4,
qd 1 0] [(12,0)]
(.block 2 (.seq (sr [qo (.bin .eql) [.env 12,qkb 1],
ql 0] [(14,0)]
(cn 14 (.skip) (rg [qo (.bin .eql) [.env 12,qkb 2],
ql 0] [(14,0)])))
(cn 14 (rg [qe 3,
qe 5,
qa2 1 0,
ql 0] [(3,0)]) (sr [qo (.bin .eql) [.env 12,qkb 6],
ql 0] [(15,0)]
(cn 15 (sr [qe 5,
qfe 2 1,
qd 1 0,
qfe 4 1,
qd 1 0,
qo (.bin .sub) [.loc 2,.loc 0],
qo (.bin .gtr) [.loc 5,.loc 0]] [(16,0)]
(cn 16 (sr [qbb false] [(2,0)]
(.ret)) (.skip))) (sr [qe 5,
qfe 4 1,
qd 1 0,
qfe 3 1,
qd 1 0,
qo (.bin .sub) [.loc 2,.loc 0],
qad 0 1,
qo (.bin .gtr) [.loc 6,.loc 0]] [(13,0)]
(cn 13 (sr [qbb false] [(2,0)]
(.ret)) (.skip))))))))))))
(rg [qae 10 1,
ql 0] [(10,0)])))))))
(sr [qe 3,
qfe 3 1,
qd 1 0,
ql2 2 0,
ql 0] [(2,0)]
(.ret)))))),
[.tmp 2]⟩
def F99:Rh:=⟨[0,1,2,3,4,5,12,17,32],1,
sr [qo (.boxc 12) [.env 0],
qo (.alloc 157 [.bool false,.str ⟨#[]⟩]) [],
qi 0] [(1,2),(2,1),(3,0)]
(.seq (sr [qfe 11 1,
qd 1 0,
qln false 0,
qfe 0 1,
qfl 10 0,
qd 1 0,
qo (.bin .neq) [.loc 3,.loc 0]] [(6,0)]
(cn 6 (sr [qo (.build [.bool false,.str ⟨#[]⟩] []) [],
qs2 2 2 0,
qi 5] [(3,0)]
(.ret)) (.skip)))
(.seq (sr [qfe 0 1,
qfl 0 0,
qd 1 0,
qo (.bin .neq) [.loc 0,qkb 4]] [(7,0)]
(cn 7 (sr [qo (.build [.bool false,.str ⟨#[]⟩] []) [],
qs2 2 2 0,
qi 0] [(3,0)]
(.ret)) (.skip)))
(.seq (.drawn [qfe 0 1,
qw (.load 11 true) [.loc 0] 1 1,
qw (.call 144) [.loc 0] 3 2,
qw (.field 0 1 false) [.loc 0] 7 3,
qw (.R3 0) [.env 1] 0 4,
qw (.load 11 true) [.loc 0] 16 5,
qw (.R3 11) [.env 1] 0 6,
qwd 1 0 64 7,
qw .callv [.loc 4,.loc 2,.loc 0] 255 8,
qwl 0 511 9,
qw (.extract 0) [.loc 0] 1023 10,
qw (.extract 1) [.loc 1] 1023 11,
⟨.mv,[.loc 12],none,ob 0 12,some 0⟩,
qw (.store 2) [.loc 0,.loc 2] 6143 13,
qwl 2 16383 14] [(4,2),(5,0)] [(157,[.bool false,.str ⟨#[]⟩])])
(.seq (sr [qe 5,
qun 0] [(8,0)]
(cn 8 (sr [qo (.build [.bool false,.str ⟨#[]⟩] []) [],
qs2 2 2 0,
qi 15] [(3,0)]
(.ret)) (.skip)))
(sr [qde 2 4,
qs2 2 2 0,
qi 0] [(3,0)]
(.ret)))))),
[.cell 2 2 true,.tmp 3]⟩
def F101:Rh:=⟨[0,1,2,6,7,8,9,13,21],3,
sr [qno,
qi 0] [(3,1),(4,0)]
(.seq (sr [qe 1,
qk 145 0,
ql 0] [(5,0)]
(sr [qe 5,
qo (.bin .neq) [.loc 0,qki 0]] [(7,0)]
(cn 7 (sr [qe 5,
qno,
ql 1] [(3,1),(4,0)]
(.ret)) (.skip))))
(sr [qe 1,
qo (.mkslice 5 1 1 [.int .u8 0] 2) [.loc 0,.loc 0],
ql 0] [(6,0)]
(sr [qe 6,
qe 1,
qo (.call 62) [.const (.str ⟨#[32]⟩),.loc 0],
qo (.copys 2) [.loc 2,.loc 0]] []
(.seq (sr [qe 2] [(8,0)]
(cn 8 (.drawn [qe 6,
qwe 1 0 1,
qwe 0 0 2,
qw (.len false) [.loc 0] 4 3,
qw (.bin .sub) [.loc 2,.loc 0] 14 4,
qw .max [qki 0,.loc 0] 30 5,
qw (.slice false 1 true false false) [.loc 5,.loc 0] 63 6,
qwe 0 0 7,
qwe 0 0 8,
qw (.len false) [.loc 0] 256 9,
qwe 1 0 10,
qw (.bin .sub) [.loc 1,.loc 0] 1792 11,
qw .max [qki 0,.loc 0] 3840 12,
qw (.slice false 1 true false false) [.loc 5,.loc 0] 8064 13,
qw (.copy 1 2) [.loc 7,.loc 0] 16383 14] [] []) (rg [qe 6,
qe 0,
qo (.copy 1 2) [.loc 1,.loc 0]] [])))
(sr [qe 6,
ql 0,
qi 0] [(3,1),(4,0)]
(.ret)))))),
[.tmp 3,.tmp 4]⟩
def F102:Rh:=⟨[0,1,2,3,4,5,6,7,8,9,10,20,28,34,46,61,65,82,86],2,
sr [qo (.boxc 12) [.env 0],
qo (.boxc 11) [.env 1],
qno,
qi 0] [(2,3),(3,2),(4,1),(5,0)]
(.seq (.block 0 (sr [qfe 0 2,
qdt 11 0,
qk 98 0,
qo (.bin .neq) [.loc 0,qki 0],
ql 0,
qg (.load 11 true) [.env 3] 0 false,
qg (.call 98) [.loc 0] 1 false,
qg (.bin .neq) [.loc 0,qki 0] 2 false,
qpt 3 0,
ql 0] [(10,0)]
(cn 10 (sr [qno,
qi 1] [(4,1),(5,0)]
(.ret)) (sr [qfe 11 2,
qd 1 0,
qln false 0,
qfe 0 2,
qfl 10 0,
qd 1 0,
qo (.bin .neq) [.loc 3,.loc 0],
ql 0] [(11,0)]
(cn 11 (sr [qno,
qi 5] [(4,1),(5,0)]
(.ret)) (sr [qfe 0 2,
qdt 11 0,
qde 11 3,
qkk 146 1 0,
qun 0,
ql 0] [(12,0)]
(cn 12 (sr [qno,
qi 12] [(4,1),(5,0)]
(.ret)) (sr [qfe 0 2,
qfl 0 0,
qd 1 0,
qo (.bin .eql) [.loc 0,qkb 0],
ql 0] [(13,0)]
(cn 13 (sr [qfe 11 2,
qd 1 0,
qfe 10 3,
qd 1 0,
qo (.call 101) [.loc 2,.loc 0,.const (.bool false)],
qx 0 0,
qx 1 1,
ql 1,
ql 1] [(4,1),(5,0)]
(.ret)) (sr [qfe 0 3,
qd 1 0,
qo (.bin .eql) [.loc 0,qkb 4],
ql 0,
qg (.R3 0) [.env 3] 0 false,
qgd 1 0 1 false,
qg (.bin .eql) [.loc 0,qkb 5] 2 false,
qpt 3 0,
ql 0] [(14,0)]
(cn 14 (sr [qde 12 2,
qk 147 0,
ql 0,
qx 0 0,
qx 1 1,
qo (.alloc 57 [.bool false,.str ⟨#[]⟩,.int .i64 0]) [],
qso 3 0 2,
ql 2] [(6,2),(7,0)]
(.seq (sr [qe 7,
qo (.bin .neq) [.loc 0,qki 0]] [(15,0)]
(cn 15 (sr [qe 7,
qno,
ql 1] [(4,1),(5,0)]
(.ret)) (.skip)))
(.seq (sr [qfe 0 3,
qd 1 0,
qo (.bin .eql) [.loc 0,qkb 5]] [(16,0)]
(cn 16 (sr [qde 3 6,
qde 11 3,
qkk 148 1 0,
qx 0 0,
qx 1 1,
ql 1,
ql 1] [(4,1),(5,0)]
(.ret)) (.skip)))
(sr [qde 3 6,
qde 11 3,
qkk 149 1 0,
qx 0 0,
qx 1 1,
ql 1,
ql 1] [(4,1),(5,0)]
(.ret))))) (.skip))))))))))))
(sr [qde 12 2,
qde 11 3,
qkk 150 1 0,
ql 0,
qx 0 0,
qx 1 1,
ql 1,
ql 1] [(8,1),(9,0)]
(.seq (.block 1 (sr [qe 9,
qo (.bin .neq) [.loc 0,qki 0],
ql 0] [(17,0)]
(cn 17 (sr [qe 9,
qno,
ql 1] [(4,1),(5,0)]
(.ret)) (sr [qfe 0 3,
qd 1 0,
qo (.bin .eql) [.loc 0,qkb 3],
ql 0] [(18,0)]
(cn 18 (sr [qe 8,
qde 11 3,
qkk 151 1 0,
qx 0 0,
qx 1 1,
ql 1,
ql 1] [(4,1),(5,0)]
(.ret)) (.skip))))))
(sr [qe 8,
qfe 10 3,
qd 1 0,
qfe 8 3,
qd 1 0,
qo (.call 101) [.loc 4,.loc 2,.loc 0],
qx 0 0,
qx 1 1,
ql 1,
ql 1] [(4,1),(5,0)]
(.ret))))),
[.tmp 4,.tmp 5]⟩
def F103:Rh:=⟨[0,1,2,3,4,6,7,8,9,10,11,12,14,16,17,18,31,50,79],3,
sr [qo (.boxc 3) [.env 0],
qo (.boxc 11) [.env 1],
qno,
qbb false,
qi 0] [(3,4),(4,3),(5,2),(6,1),(7,0)]
(.seq (.block 0 (sr [qde 3 3,
qk 152 0,
qo (.bin .neq) [.loc 0,qki 0],
ql 0,
qg (.load 11 true) [.env 4] 0 false,
qg (.call 98) [.loc 0] 1 false,
qg (.bin .neq) [.loc 0,qki 0] 2 false,
qpt 3 0,
ql 0,
qge 2 0 false,
qg (.bin .gtr) [.loc 0,qkb 7] 1 false,
qpt 2 0,
ql 0] [(15,0)]
(cn 15 (sr [qno,
qbb false,
qi 1] [(5,2),(6,1),(7,0)]
(.ret)) (sr [qfe 0 4,
qd 1 0,
qo (.bin .neq) [.loc 0,qkb 4],
ql 0,
qg (.R3 0) [.env 4] 0 true,
qgd 1 0 1 true,
qg (.bin .neq) [.loc 0,qkb 5] 2 true,
qpf 3 0,
ql 0] [(16,0)]
(cn 16 (sr [qno,
qbb false,
qi 12] [(5,2),(6,1),(7,0)]
(.ret)) (.skip))))))
(sr [qde 3 3,
qfe 4 4,
qd 1 0,
qe 2,
qo (.call 153) [.loc 3,.loc 1,.loc 0],
ql 0,
qx 0 0,
qx 1 1,
qo (.alloc 57 [.bool false,.str ⟨#[]⟩,.int .i64 0]) [],
qso 3 0 2,
ql 2] [(8,2),(9,0)]
(sr [qe 9,
qo (.bin .neq) [.loc 0,qki 0],
ql 0] [(10,0)]
(.seq (sr [qe 10] [(17,0)]
(cn 17 (rg [qde 3 3,
qfe 4 4,
qd 1 0,
qkk 154 2 0,
ql 0,
qx 0 0,
qx 1 1,
qx 2 2,
qs2 3 8 2] []) (.skip)))
(sr [qde 3 8,
qfe 3 4,
qd 1 0,
qfe 4 4,
qd 1 0,
qo (.call 155) [.loc 4,.loc 2,.loc 0],
ql 0,
qx 0 0,
qx 1 1,
ql 1,
ql 1] [(11,1)]
(sr [qde 3 8,
qfe 3 4,
qd 1 0,
qfe 4 4,
qd 1 0,
qo (.call 156) [.loc 4,.loc 2,.loc 0],
ql 0,
qx 0 0,
qx 1 1,
qo (.alloc 57 [.bool false,.str ⟨#[]⟩,.int .i64 0]) [],
qso 3 0 2,
ql 2] [(12,2)]
(sr [qo .mv [.const (.fn 157 [])]] [(13,0)]
(.seq (sr [qfe 0 4,
qd 1 0,
qo (.bin .eql) [.loc 0,qkb 5]] [(18,0)]
(cn 18 (rg [qo .mv [.const (.fn 148 [])]] [(13,0)]) (.skip)))
(sr [qe 13,
qde 3 12,
qde 11 4,
qo .callv [.loc 2,.loc 1,.loc 0],
ql 0,
qx 0 0,
qx 1 1,
ql 1,
ql 1] [(9,0),(14,1)]
(sr [qe 14,
qe 10,
ql 0,
qge 11 0 false,
qg (.un .not) [.loc 0] 1 false,
qpt 2 0,
qe 9,
ql 6,
ql 2,
ql 2] [(5,2),(6,1),(7,0)]
(.ret))))))))))),
[.tmp 5,.tmp 6,.tmp 7]⟩
def F105:Rh:=⟨[0,1,2,6,7,23],3,
sr [qo (.alloc 57 [.bool false,.str ⟨#[]⟩,.int .i64 0]) [],
qi 0] [(3,1),(4,0)]
(.seq (sr [qe 1,
qk 158 0,
qun 0,
ql 0,
qge 1 0 false,
qg (.len true) [.loc 0] 1 false,
qg (.bin .gtr) [.loc 0,qki 1000] 2 false,
qpt 3 0,
ql 0,
qge 2 0 false,
qg (.bin .lss) [.loc 0,.const (.int .i64 (-1000))] 1 false,
qpt 2 0,
ql 0,
qge 2 0 false,
qg (.bin .gtr) [.loc 0,qki 1000] 1 false,
qpt 2 0] [(5,0)]
(cn 5 (sr [qo (.build [.bool false,.str ⟨#[]⟩,.int .i64 0] []) [],
qs2 3 3 0,
qi 1] [(4,0)]
(.ret)) (.skip)))
(sr [qe 0,
qe 1,
qe 2,
qo (.call 108) [.loc 2,.loc 1,.loc 0],
qx 0 0,
qx 1 1,
qs2 3 3 1,
ql 1] [(4,0)]
(.ret))),
[.cell 3 3 true,.tmp 4]⟩
def F106:Rh:=⟨[0,1,2,3,4],2,
sr [qo (.boxc 3) [.env 0],
qo (.boxc 3) [.env 1],
qi 0] [(2,2),(3,1),(4,0)]
(.seq (.drawn [qde 3 2,
qw (.call 152) [.loc 0] 1 1,
qw (.load 3 true) [.env 3] 0 2,
qw (.call 152) [.loc 0] 7 3,
qw .max [.loc 2,.loc 0] 15 4,
qwl 0 31 5] [(4,0)] [])
(.ret)),
[.tmp 4]⟩
def F107:Rh:=⟨[0,1,2,3,4,5,6,7],2,
sr [qo (.boxc 3) [.env 0],
qo (.boxc 3) [.env 1],
qo .mv [.const (.str ⟨#[]⟩)],
qo .mv [.const (.str ⟨#[]⟩)],
qi 0] [(2,4),(3,3),(4,2),(5,1),(6,0)]
(sr [qfe 2 2,
qd 1 0,
qfe 2 3,
qd 1 0,
qo .max [.loc 2,.loc 0],
ql 0] [(6,0)]
(.seq (.drawn [qfe 1 2,
qwd 1 0 1 1,
qwe 6 0 2,
qw (.R3 2) [.env 2] 0 3,
qwd 1 0 8 4,
qw (.bin .sub) [.loc 2,.loc 0] 28 5,
qw (.call 62) [.const (.str ⟨#[48]⟩),.loc 0] 60 6,
qw (.bin .add) [.loc 5,.loc 0] 127 7,
qwl 0 255 8] [(4,0)] [])
(.seq (.drawn [qfe 1 3,
qwd 1 0 1 1,
qwe 6 0 2,
qw (.R3 2) [.env 3] 0 3,
qwd 1 0 8 4,
qw (.bin .sub) [.loc 2,.loc 0] 28 5,
qw (.call 62) [.const (.str ⟨#[48]⟩),.loc 0] 60 6,
qw (.bin .add) [.loc 5,.loc 0] 127 7,
qwl 0 255 8] [(5,0)] [])
(sr [qe 4,
qln true 0,
qe 5,
qln true 0,
qo .max [.loc 2,.loc 0],
ql 0] [(7,0)]
(sr [qe 4,
qe 7,
qkk 159 1 0,
qe 5,
qe 7,
qkk 159 1 0,
qe 6,
ql 4,
ql 2,
ql 2] [(4,2),(5,1),(6,0)]
(.ret)))))),
[.tmp 4,.tmp 5,.tmp 6]⟩
def F108:Rh:=⟨[0,1,2,6,7,11,18,27,37],3,
sr [qo (.alloc 57 [.bool false,.str ⟨#[]⟩,.int .i64 0]) [],
qi 0] [(3,1),(4,0)]
(sr [qe 1,
qo (.call 126) [.loc 0,.const (.str ⟨#[48]⟩)],
ql 0] [(1,0)]
(.seq (sr [qe 1,
qo (.bin .eql) [.loc 0,.const (.str ⟨#[]⟩)]] [(5,0)]
(cn 5 (sr [qo (.build [.bool false,.str ⟨#[]⟩,.int .i64 0] [(1,1)]) [.const (.str ⟨#[48]⟩)],
qs2 3 3 0,
qi 0] [(4,0)]
(.ret)) (.skip)))
(.seq (.block 0 (.loop (.seq (sr [qe 2,
qo (.bin .gtr) [.loc 0,qki 0],
ql 0,
qge 1 0 true,
qg (.call 160) [.loc 0,.const (.str ⟨#[48]⟩)] 1 true,
qpf 2 0] [(6,0)]
(cn 6 (.skip) (.exit 0)))
(.block 1 (rg [qe 1,
qe 1,
qln true 0,
qo (.bin .sub) [.loc 0,qki 1],
qo (.slice true 0 false true false) [.loc 3,.loc 0],
qe 2,
qo (.bin .sub) [.loc 0,qki 1],
ql 2,
ql 1] [(1,1),(2,0)])))))
(.seq (sr [qe 2,
qo (.bin .lss) [.loc 0,qki 0]] [(7,0)]
(cn 7 (rg [qe 1,
qe 2,
qo (.un .neg) [.loc 0],
qo (.call 62) [.const (.str ⟨#[48]⟩),.loc 0],
qa2 3 0,
ql 0,
qi 0] [(1,1),(2,0)]) (.skip)))
(.seq (sr [qe 1,
qln true 0,
qe 2,
qo .max [.loc 1,.loc 0],
qo (.bin .gtr) [.loc 0,qki 62]] [(8,0)]
(cn 8 (sr [qo (.build [.bool false,.str ⟨#[]⟩,.int .i64 0] []) [],
qs2 3 3 0,
qi 14] [(4,0)]
(.ret)) (.skip)))
(sr [qe 0,
qe 1,
qe 2,
qo (.build [.bool false,.str ⟨#[]⟩,.int .i64 0] [(0,1),(1,1),(2,1)]) [.loc 2,.loc 1,.loc 0],
qs2 3 3 0,
qi 0] [(4,0)]
(.ret))))))),
[.cell 3 3 true,.tmp 4]⟩
def F109:Rh:=⟨[0,1,4,5,6],2,
sr [qo .mv [.const (.str ⟨#[]⟩)]] [(2,0)]
(sr [qe 0,
qe 1,
qo (.call 161) [.loc 1,.loc 0,.const (.fn 162 [])],
ql 0,
qx 0 0,
qx 1 1,
ql 1,
ql 1] [(3,1),(4,0)]
(sr [qe 4,
qk 163 0,
qe 3,
qa2 1 0,
ql 0] [(2,0)]
(.ret))),
[.tmp 2]⟩
def F114:Rh:=⟨[0,1,4],2,
sr [qbb false] [(2,0)]
(sr [qe 0,
qln true 0,
qe 1,
qln true 0,
qo (.bin .geq) [.loc 2,.loc 0],
ql 0,
qge 0 0 true,
qge 1 1 true,
qg (.len true) [.loc 0] 2 true,
qg (.slice true 0 false true false) [.loc 2,.loc 0] 3 true,
qge 1 4 true,
qg (.bin .eql) [.loc 1,.loc 0] 5 true,
qpf 6 0,
ql 0] [(2,0)]
(.ret)),
[.tmp 2]⟩
def F126:Rh:=⟨[0,1,4,5,6,12,21,31],2,
sr [qo .mv [.const (.str ⟨#[]⟩)]] [(2,0)]
(.seq (sr [qe 0,
qo (.bin .eql) [.loc 0,.const (.str ⟨#[]⟩)],
ql 0,
qge 1 0 false,
qg (.bin .eql) [.loc 0,.const (.str ⟨#[]⟩)] 1 false,
qpt 2 0] [(5,0)]
(cn 5 (sr [qe 0,
ql 0] [(2,0)]
(.ret)) (.skip)))
(.seq (sr [qe 1,
qln true 0,
qo (.bin .eql) [.loc 0,qki 1],
ql 0,
qge 1 0 true,
qg .index [.loc 0,qki 0] 1 true,
qg (.bin .lss) [.loc 0,qkb 128] 2 true,
qpf 3 0] [(6,0)]
(cn 6 (sr [qe 0,
qe 1,
qo .index [.loc 0,qki 0],
qkk 175 2 0,
ql 0] [(2,0)]
(.ret)) (.skip)))
(.seq (sr [qe 1,
qk 176 0,
ql 0,
qx 0 0,
qx 1 1,
qo (.alloc 237 tb0) [],
qso 256 0 2,
ql 2] [(3,2),(4,0)]
(sr [qe 4] [(7,0)]
(cn 7 (sr [qe 0,
qo (.call 177) [.loc 0,.env 3],
ql 0] [(2,0)]
(.ret)) (.skip))))
(sr [qe 0,
qe 1,
qkk 178 1 0,
ql 0] [(2,0)]
(.ret))))),
[.tmp 2]⟩
def F140:Rh:=⟨[0,1,4],2,
sr [qbb false] [(2,0)]
(sr [qe 0,
qe 1,
qkk 192 1 0,
qo (.bin .geq) [.loc 0,qki 0],
ql 0] [(2,0)]
(.ret)),
[.tmp 2]⟩
def F141:Rh:=⟨[0,1,2,3],2,
sr [qo (.box 74 2) [.env 0],
qbb false] [(2,1),(3,0)]
(sr [qde 7 1,
qde 2 2,
qkk 142 1 0,
qun 0,
ql 0] [(3,0)]
(.ret)),
[.tmp 3]⟩
def F145:Rh:=⟨[0,2,3,6],1,
sr [qi 0] [(1,0)]
(.seq (.block 0 (sr [qe 0,
qo (.bin .lss) [.loc 0,qki 0],
ql 0] [(2,0)]
(cn 2 (sr [qi 1] [(1,0)]
(.ret)) (sr [qe 0,
qo (.bin .gtr) [.loc 0,qki 1048576],
ql 0] [(3,0)]
(cn 3 (sr [qi 3] [(1,0)]
(.ret)) (.skip))))))
(sr [qi 0] [(1,0)]
(.ret))),
[.tmp 1]⟩
def F147:Rh:=⟨[0,1,2,3,4,7,8,14,31],1,
sr [qo (.boxc 12) [.env 0],
qo (.alloc 57 [.bool false,.str ⟨#[]⟩,.int .i64 0]) [],
qi 0] [(1,2),(2,1),(3,0)]
(.seq (sr [qfe 0 1,
qfl 0 0,
qd 1 0] [(5,0)]
(.block 0 (sr [qo (.bin .eql) [.env 5,qkb 4],
ql 0] [(6,0)]
(cn 6 (sr [qde 12 1,
qk 80 0,
qx 0 0,
qx 1 1,
qs2 3 2 1,
ql 1] [(3,0)]
(.ret)) (sr [qo (.bin .eql) [.env 5,qkb 5],
ql 0] [(7,0)]
(cn 7 (sr [qde 12 1,
qk 196 0,
qx 0 0,
qx 1 1,
qs2 3 2 1,
ql 1] [(3,0)]
(.ret)) (.skip)))))))
(sr [qfe 11 1,
qd 1 0,
qo .bstr [.loc 0],
qo (.call 197) [.loc 0,.const (.str ⟨#[32]⟩)],
ql 0] [(4,0)]
(.seq (sr [qe 4,
qk 198 0,
qun 0,
ql 0,
qge 4 0 false,
qg (.len true) [.loc 0] 1 false,
qg (.bin .gtr) [.loc 0,qki 62] 2 false,
qpt 3 0] [(8,0)]
(cn 8 (sr [qo (.build [.bool false,.str ⟨#[]⟩,.int .i64 0] []) [],
qs2 3 2 0,
qi 15] [(3,0)]
(.ret)) (.skip)))
(sr [qe 4,
qo (.call 105) [.const (.bool false),.loc 0,qki 0],
qx 0 0,
qx 1 1,
qs2 3 2 1,
ql 1] [(3,0)]
(.ret))))),
[.cell 2 3 true,.tmp 3]⟩
def F149:Rh:=⟨[0,1,2,3,4,5,6,8,9,19,31],2,
sr [qo (.boxc 3) [.env 0],
qo (.boxc 11) [.env 1],
qno,
qi 0] [(2,3),(3,2),(4,1),(5,0)]
(sr [qde 3 2,
qfe 4 3,
qd 1 0,
qkk 154 2 0,
ql 0,
qx 0 0,
qx 1 1,
qx 2 2,
qo (.alloc 57 [.bool false,.str ⟨#[]⟩,.int .i64 0]) [],
qso 3 0 3,
ql 3,
ql 3] [(6,3),(7,0)]
(.seq (sr [qe 7,
qo (.bin .neq) [.loc 0,qki 0]] [(9,0)]
(cn 9 (sr [qe 7,
qno,
ql 1] [(4,1),(5,0)]
(.ret)) (.skip)))
(sr [qde 3 6,
qfe 3 3,
qd 1 0,
qfe 4 3,
qd 1 0,
qo (.call 156) [.loc 4,.loc 2,.loc 0],
ql 0,
qx 0 0,
qx 1 1,
qo (.alloc 57 [.bool false,.str ⟨#[]⟩,.int .i64 0]) [],
qso 3 0 2,
ql 2] [(7,0),(8,2)]
(.seq (sr [qe 7,
qo (.bin .neq) [.loc 0,qki 0]] [(10,0)]
(cn 10 (sr [qe 7,
qno,
ql 1] [(4,1),(5,0)]
(.ret)) (.skip)))
(sr [qde 3 8,
qde 11 3,
qkk 157 1 0,
qx 0 0,
qx 1 1,
ql 1,
ql 1] [(4,1),(5,0)]
(.ret)))))),
[.tmp 4,.tmp 5]⟩
def F150:Rh:=⟨[0,1,2,3,4,5,6,7,8,17,26],2,
sr [qo (.boxc 12) [.env 0],
qo (.boxc 11) [.env 1],
qno,
qi 0] [(2,3),(3,2),(4,1),(5,0)]
(.seq (sr [qfe 0 2,
qfl 0 0,
qd 1 0,
qo (.bin .neq) [.loc 0,qkb 4],
ql 0,
qg (.R3 0) [.env 3] 0 false,
qgd 1 0 1 false,
qg (.bin .eql) [.loc 0,qkb 0] 2 false,
qpt 3 0] [(9,0)]
(cn 9 (sr [qfe 11 2,
qd 1 0,
ql 0,
qi 0] [(4,1),(5,0)]
(.ret)) (.skip)))
(sr [qde 12 2,
qk 80 0,
ql 0,
qx 0 0,
qx 1 1,
qo (.alloc 57 [.bool false,.str ⟨#[]⟩,.int .i64 0]) [],
qso 3 0 2,
ql 2] [(6,2),(7,0)]
(.seq (sr [qe 7,
qo (.bin .neq) [.loc 0,qki 0]] [(10,0)]
(cn 10 (sr [qe 7,
qno,
ql 1] [(4,1),(5,0)]
(.ret)) (.skip)))
(sr [qde 3 6,
qfe 0 2,
qfl 3 0,
qd 1 0,
qfe 0 2,
qfl 4 0,
qd 1 0,
qo (.bin .sub) [.loc 3,.loc 0],
qfe 0 2,
qfl 4 0,
qd 1 0,
qo .max [.loc 0,qki 0],
qa2 4 0,
qo (.call 202) [.loc 12,.loc 0,qki 0],
ql 0,
qx 0 0,
qx 1 1,
ql 1,
ql 1] [(7,0),(8,1)]
(sr [qe 8,
qo .strb [.loc 0],
qe 7,
ql 1,
ql 1] [(4,1),(5,0)]
(.ret)))))),
[.tmp 4,.tmp 5]⟩
def F152:Rh:=⟨[0,1,2,3,4,24,41],1,
sr [qo (.boxc 3) [.env 0],
qi 0] [(1,1),(2,0)]
(.seq (sr [qfe 1 1,
qd 1 0,
qk 158 0,
qun 0,
ql 0,
qg (.R3 1) [.env 1] 0 false,
qgd 1 0 1 false,
qg (.len true) [.loc 0] 2 false,
qg (.bin .gtr) [.loc 0,qki 62] 3 false,
qpt 4 0,
ql 0,
qg (.R3 2) [.env 1] 0 false,
qgd 1 0 1 false,
qg (.bin .lss) [.loc 0,qki 0] 2 false,
qpt 3 0,
ql 0,
qg (.R3 2) [.env 1] 0 false,
qgd 1 0 1 false,
qg (.bin .gtr) [.loc 0,qki 62] 2 false,
qpt 3 0] [(5,0)]
(cn 5 (sr [qi 1] [(2,0)]
(.ret)) (.skip)))
(.seq (sr [qfe 0 1,
qd 1 0,
qfe 1 1,
qd 1 0,
qfe 2 1,
qd 1 0,
qo (.call 108) [.loc 4,.loc 2,.loc 0],
ql 0,
qx 0 0,
qx 1 1,
qo (.alloc 57 [.bool false,.str ⟨#[]⟩,.int .i64 0]) [],
qso 3 0 2,
ql 2] [(3,2),(4,0)]
(sr [qe 4,
qo (.bin .neq) [.loc 0,qki 0],
ql 0,
qg (.load 3 true) [.env 3] 0 false,
qg (.load 3 true) [.env 1] 1 false,
qg (.eqs true [2,1,0]) [.loc 1,.loc 0] 2 false,
qpt 3 0] [(6,0)]
(cn 6 (sr [qi 1] [(2,0)]
(.ret)) (.skip))))
(sr [qi 0] [(2,0)]
(.ret)))),
[.tmp 2]⟩
def F153:Rh:=⟨[0,1,2,3,6,7,8,9,10,11,19,28,36,40,56],3,
sr [qo (.boxc 3) [.env 0],
qo (.alloc 57 [.bool false,.str ⟨#[]⟩,.int .i64 0]) [],
qi 0] [(3,2),(4,1),(5,0)]
(.seq (sr [qde 3 3,
qe 1,
qo (.call 205) [.loc 1,qki 1,.loc 0],
qo (.bin .neq) [.loc 0,qki 0],
ql 0,
qge 2 0 false,
qg (.bin .gtr) [.loc 0,qkb 7] 1 false,
qpt 2 0] [(10,0)]
(cn 10 (sr [qo (.build [.bool false,.str ⟨#[]⟩,.int .i64 0] []) [],
qs2 3 4 0,
qi 1] [(5,0)]
(.ret)) (.skip)))
(sr [qde 3 3,
qe 1,
qkk 154 1 0,
ql 0,
qx 0 0,
qx 1 1,
qx 2 2,
qo (.alloc 57 [.bool false,.str ⟨#[]⟩,.int .i64 0]) [],
qso 3 0 3,
ql 3,
ql 3] [(6,3),(7,1),(8,0)]
(.seq (.block 0 (sr [qe 8,
qo (.bin .neq) [.loc 0,qki 0],
ql 0,
qge 7 0 false,
qpt 1 0,
ql 0] [(11,0)]
(cn 11 (sr [qde 3 6,
qe 8,
qs2 3 4 1,
ql 1] [(5,0)]
(.ret)) (sr [qe 2,
qo (.bin .eql) [.loc 0,qkb 7],
ql 0] [(12,0)]
(cn 12 (sr [qo (.build [.bool false,.str ⟨#[]⟩,.int .i64 0] []) [],
qs2 3 4 0,
qi 14] [(5,0)]
(.ret)) (sr [qde 3 3,
qde 3 6,
qe 1,
qe 2,
qo (.call 206) [.loc 3,.loc 2,.loc 1,.loc 0],
qun 0,
ql 0] [(13,0)]
(cn 13 (sr [qde 3 6,
qs2 3 4 0,
qi 0] [(5,0)]
(.ret)) (.skip))))))))
(sr [qfe 0 3,
qd 1 0,
qe 1,
qo (.call 105) [.loc 1,.const (.str ⟨#[49]⟩),.loc 0],
ql 0,
qx 0 0,
qx 1 1,
qo (.alloc 57 [.bool false,.str ⟨#[]⟩,.int .i64 0]) [],
qso 3 0 2,
ql 2] [(8,0),(9,2)]
(.seq (sr [qe 8,
qo (.bin .neq) [.loc 0,qki 0]] [(14,0)]
(cn 14 (sr [qo (.build [.bool false,.str ⟨#[]⟩,.int .i64 0] []) [],
qe 8,
qs2 3 4 1,
ql 1] [(5,0)]
(.ret)) (.skip)))
(sr [qde 3 6,
qde 3 9,
qkk 81 1 0,
qx 0 0,
qx 1 1,
qs2 3 4 1,
ql 1] [(5,0)]
(.ret))))))),
[.cell 4 3 true,.tmp 5]⟩
def F154:Rh:=⟨[0,1,2,4,5,6,7,8,9,10,11,15,21,27],2,
sr [qo (.boxc 3) [.env 0],
qo (.alloc 57 [.bool false,.str ⟨#[]⟩,.int .i64 0]) [],
qbb false,
qi 0] [(2,3),(3,2),(4,1),(5,0)]
(.seq (sr [qde 3 2,
qk 152 0,
ql 0] [(6,0)]
(sr [qe 6,
qo (.bin .neq) [.loc 0,qki 0]] [(11,0)]
(cn 11 (sr [qo (.build [.bool false,.str ⟨#[]⟩,.int .i64 0] []) [],
qe 6,
qs2 3 3 1,
qbb false,
ql 2] [(4,1),(5,0)]
(.ret)) (.skip))))
(.seq (sr [qe 1,
qfe 2 2,
qd 1 0,
qo (.bin .geq) [.loc 2,.loc 0]] [(12,0)]
(cn 12 (sr [qde 3 2,
qs2 3 3 0,
qbb true,
qi 0] [(4,1),(5,0)]
(.ret)) (.skip)))
(sr [qfe 1 2,
qd 1 0,
qln true 0,
ql 0] [(7,0)]
(.seq (sr [qe 1,
qo (.bin .gtr) [.loc 0,.const (.int .i64 (-9223372036854775746))]] [(13,0)]
(cn 13 (rg [qe 7,
qfe 2 2,
qd 1 0,
qe 1,
qo (.bin .sub) [.loc 1,.loc 0],
qo .min [.loc 4,.loc 0],
ql 0] [(7,0)]) (.skip)))
(sr [qfe 1 2,
qd 1 0,
qfe 1 2,
qd 1 0,
qln true 0,
qe 7,
qo (.bin .sub) [.loc 1,.loc 0],
qo (.slice true 0 true false false) [.loc 5,.loc 0],
ql 0] [(8,0)]
(.seq (.drawn [qfe 0 2,
qwd 1 0 1 1,
qw (.R3 1) [.env 2] 0 2,
qwd 1 0 4 3,
qw (.R3 1) [.env 2] 0 4,
qwd 1 0 16 5,
qw (.len true) [.loc 0] 48 6,
qwe 7 0 7,
qw (.bin .sub) [.loc 1,.loc 0] 240 8,
qw (.slice true 0 false true false) [.loc 5,.loc 0] 508 9,
qwe 7 0 10,
qw (.call 62) [.const (.str ⟨#[48]⟩),.loc 0] 1024 11,
qw (.bin .add) [.loc 2,.loc 0] 4092 12,
qw (.R3 2) [.env 2] 0 13,
qwd 1 0 8192 14,
qw (.call 108) [.loc 13,.loc 2,.loc 0] 32767 15,
qwl 0 65535 16,
qw (.extract 0) [.loc 0] 131071 17,
qw (.extract 1) [.loc 1] 131071 18,
⟨.mv,[.loc 19],none,ob 0 19,some 0⟩,
qw (.store 3) [.loc 0,.loc 2] 786431 20,
qwl 2 2097151 21] [(9,2),(10,0)] [(57,[.bool false,.str ⟨#[]⟩,.int .i64 0])])
(.seq (.drawn [qde 3 9,
qwe 8 0 1,
qw (.call 197) [.loc 0,.const (.str ⟨#[48]⟩)] 2 2,
qw (.bin .eql) [.loc 0,.const (.str ⟨#[]⟩)] 6 3,
qwe 10 0 4,
qw (.store 3) [.env 3,.loc 4] 7 5,
qwl 2 47 6,
qwl 2 127 7] [(4,1),(5,0)] [])
(.ret)))))))),
[.cell 3 3 true,.tmp 4,.tmp 5]⟩
def F155:Rh:=⟨[0,1,2,3,6,7,8,9,10,16],3,
sr [qo (.boxc 3) [.env 0],
qbb false,
qi 0] [(3,2),(4,1),(5,0)]
(.seq (sr [qde 3 3,
qe 1,
qe 2,
qo (.call 205) [.loc 2,.loc 1,.loc 0],
ql 0] [(6,0)]
(sr [qe 6,
qo (.bin .neq) [.loc 0,qki 0]] [(9,0)]
(cn 9 (sr [qe 6,
qbb false,
ql 1] [(4,1),(5,0)]
(.ret)) (.skip))))
(sr [qde 3 3,
qe 1,
qe 2,
qo (.call 207) [.loc 2,.loc 1,.loc 0],
ql 0,
qx 0 0,
qx 1 1,
ql 1,
ql 1] [(7,1),(8,0)]
(sr [qe 8,
ql 0,
qge 7 0 true,
qge 7 1 true,
qg (.len true) [.loc 0] 2 true,
qge 1 3 true,
qg (.bin .sub) [.loc 1,.loc 0] 4 true,
qg (.slice true 0 false true false) [.loc 4,.loc 0] 5 true,
qg (.call 197) [.loc 0,.const (.str ⟨#[48]⟩)] 6 true,
qg (.bin .eql) [.loc 0,.const (.str ⟨#[]⟩)] 7 true,
qpf 8 0,
ql 0,
qi 0] [(4,1),(5,0)]
(.ret)))),
[.tmp 4,.tmp 5]⟩
def F156:Rh:=⟨[0,1,2,3,6,7,8,9,10,16,27],3,
sr [qo (.boxc 3) [.env 0],
qo (.alloc 57 [.bool false,.str ⟨#[]⟩,.int .i64 0]) [],
qi 0] [(3,2),(4,1),(5,0)]
(.seq (sr [qde 3 3,
qe 1,
qe 2,
qo (.call 205) [.loc 2,.loc 1,.loc 0],
ql 0] [(6,0)]
(sr [qe 6,
qo (.bin .neq) [.loc 0,qki 0]] [(9,0)]
(cn 9 (sr [qo (.build [.bool false,.str ⟨#[]⟩,.int .i64 0] []) [],
qe 6,
qs2 3 4 1,
ql 1] [(5,0)]
(.ret)) (.skip))))
(sr [qde 3 3,
qe 1,
qe 2,
qo (.call 207) [.loc 2,.loc 1,.loc 0],
ql 0,
qx 0 0,
qx 1 1,
ql 1,
ql 1] [(7,1),(8,0)]
(.seq (sr [qe 8,
qun 0] [(10,0)]
(cn 10 (sr [qo (.build [.bool false,.str ⟨#[]⟩,.int .i64 0] []) [],
qs2 3 4 0,
qi 14] [(5,0)]
(.ret)) (.skip)))
(.seq (.drawn [qfe 0 3,
qwd 1 0 1 1,
qwe 7 0 2,
qwe 7 0 3,
qw (.len true) [.loc 0] 8 4,
qwe 1 0 5,
qw (.bin .sub) [.loc 1,.loc 0] 56 6,
qw (.slice true 0 true false false) [.loc 4,.loc 0] 124 7,
qwe 2 0 8,
qw (.call 105) [.loc 7,.loc 1,.loc 0] 511 9,
qw (.extract 0) [.loc 0] 1023 10,
qw (.extract 1) [.loc 1] 1023 11,
qw (.store 3) [.env 4,.loc 1] 4095 12,
qwl 1 8191 13] [(5,0)] [])
(.ret))))),
[.cell 4 3 true,.tmp 5]⟩
def F157:Rh:=⟨[0,1,2,3,4,5,6,7,16,18,30],2,
sr [qo (.boxc 3) [.env 0],
qo (.boxc 11) [.env 1],
qno,
qi 0] [(2,3),(3,2),(4,1),(5,0)]
(sr [qde 11 3,
qk 104 0,
ql 0] [(6,0)]
(.seq (sr [qe 6,
qo (.bin .eql) [.loc 0,qki 1],
ql 0,
qg (.load 3 true) [.env 2] 0 false,
qg (.call 152) [.loc 0] 1 false,
qg (.bin .neq) [.loc 0,qki 0] 2 false,
qpt 3 0] [(8,0)]
(cn 8 (sr [qno,
qi 1] [(4,1),(5,0)]
(.ret)) (.skip)))
(.seq (sr [qe 6,
qo (.bin .neq) [.loc 0,qki 0]] [(9,0)]
(cn 9 (sr [qe 6,
qno,
ql 1] [(4,1),(5,0)]
(.ret)) (.skip)))
(sr [qde 3 2,
qfe 3 3,
qd 1 0,
qfe 4 3,
qd 1 0,
qo (.call 202) [.loc 4,.loc 2,.loc 0],
ql 0,
qx 0 0,
qx 1 1,
ql 1,
ql 1] [(6,0),(7,1)]
(.seq (sr [qe 6,
qo (.bin .neq) [.loc 0,qki 0]] [(10,0)]
(cn 10 (sr [qe 6,
qno,
ql 1] [(4,1),(5,0)]
(.ret)) (.skip)))
(.seq (.drawn [qde 11 3,
qw (.call 144) [.loc 0] 1 1,
qw (.field 1 1 false) [.loc 0] 3 2,
qw (.load 11 true) [.env 3] 0 3,
qw (.R3 0) [.env 2] 0 4,
qwd 1 0 16 5,
qwl 0 51 6,
qh (.R3 5) [.env 3] 0 true 115 7,
qh (.load 1 false) [.loc 0] 1 true 243 8,
qw .pick [.loc 2,.loc 0,.const (.bool false)] 499 9,
qwe 7 0 10,
qw (.build [.bool false,.str ⟨#[]⟩] [(0,1),(1,1)]) [.loc 1,.loc 0] 2035 11,
qw .callv [.loc 9,.loc 8,.loc 0] 4095 12,
qw (.call 200) [.loc 0] 8191 13,
qwl 0 16383 14,
qwi 0 32767 15] [(4,1),(5,0)] [])
(.ret))))))),
[.tmp 4,.tmp 5]⟩
def F158:Rh:=⟨[0,2],1,
sr [qbb false] [(1,0)]
(sr [qe 0,
qo (.bin .neq) [.loc 0,.const (.str ⟨#[]⟩)],
ql 0,
qge 0 0 true,
qg (.call 197) [.loc 0,.const (.str ⟨#[48,49,50,51,52,53,54,55,56,57]⟩)] 1 true,
qg (.bin .eql) [.loc 0,.const (.str ⟨#[]⟩)] 2 true,
qpf 3 0,
ql 0] [(1,0)]
(.ret)),
[.tmp 1]⟩
def F159:Rh:=⟨[0,1,4],2,
sr [qo .mv [.const (.str ⟨#[]⟩)]] [(2,0)]
(sr [qe 1,
qe 0,
qln true 0,
qo (.bin .sub) [.loc 2,.loc 0],
qo .max [.loc 0,qki 0],
qo (.call 62) [.const (.str ⟨#[48]⟩),.loc 0],
qe 0,
qa2 1 0,
ql 0] [(2,0)]
(.ret)),
[.tmp 2]⟩
def F161:Rh:=⟨[0,1,2,6,7,8,9,10,11,12,17,18,19],3,
sr [qo .mv [.const (.str ⟨#[]⟩)],
qi 0] [(3,1),(4,0)]
(sr [qe 0,
qln true 0,
qo (.mkslice 5 1 1 [.int .u8 0] 2) [.loc 0,.loc 0],
ql 0] [(5,0)]
(sr [qi 0] [(6,0)]
(.seq (sr [qe 0,
qln true 0,
qi 0] [(10,1),(11,0)]
(.block 0 (.loop (sr [qlt 11 10] [(12,0)]
(.seq (cn 12 (.skip) (.exit 0))
(.seq (.block 1 (sr [qe 11,
ql 0] [(7,0)]
(sr [qe 0,
qln true 0,
qo (.bin .sub) [.loc 0,qki 1],
qe 7,
qo (.bin .sub) [.loc 1,.loc 0],
ql 0] [(8,0)]
(sr [qi 0] [(9,0)]
(.seq (.drawn [qe 2,
qwe 0 0 1,
qwe 8 0 2,
qw .index [.loc 1,.loc 0] 6 3,
qw (.bin .sub) [.loc 0,qkb 48] 14 4,
qw (.conv .i64) [.loc 0] 30 5,
qwe 1 0 6,
qwe 8 0 7,
qw .index [.loc 1,.loc 0] 192 8,
qw (.bin .sub) [.loc 0,qkb 48] 448 9,
qw (.conv .i64) [.loc 0] 960 10,
qwe 6 0 11,
qw .callv [.loc 11,.loc 6,.loc 1,.loc 0] 4095 12,
qwl 0 8191 13,
qw (.extract 0) [.loc 0] 16383 14,
qw (.extract 1) [.loc 1] 16383 15,
qwl 1 32767 16,
qwl 1 131071 17] [(6,0),(9,1)] [])
(rg [qe 5,
qe 8,
qe 9,
qo (.bin .add) [qki 48,.loc 0],
qo (.conv .u8) [.loc 0],
qia 1 4 3,
qso 1 0 1] []))))))
(rg [qae 11 1,
ql 0] [(11,0)])))))))
(sr [qe 5,
qo .bstr [.loc 0],
qe 6,
ql 1,
ql 1] [(3,1),(4,0)]
(.ret))))),
[.tmp 3,.tmp 4]⟩
def F162:Rh:=⟨[0,1,2,6,7],3,
sr [qi 0,
qi 0] [(3,1),(4,0)]
(sr [qe 0,
qe 1,
qa2 1 0,
qe 2,
qa2 1 0,
qo (.bin .rem) [.loc 0,qki 10],
qe 0,
qe 1,
qa2 1 0,
qe 2,
qa2 1 0,
qo (.bin .quo) [.loc 0,qki 10],
ql 6,
ql 1] [(3,1),(4,0)]
(.ret)),
[.tmp 3,.tmp 4]⟩
def F163:Rh:=⟨[0,2],1,
sr [qo .mv [.const (.str ⟨#[]⟩)]] [(1,0)]
(sr [qe 0,
qk 209 0,
ql 0] [(1,0)]
(.ret)),
[.tmp 1]⟩
def F175:Rh:=⟨[0,1,4,13],2,
sr [qo .mv [.const (.str ⟨#[]⟩)]] [(2,0)]
(.seq (.block 0 (.loop (.seq (sr [qe 0,
qln true 0,
qo (.bin .gtr) [.loc 0,qki 0],
ql 0,
qge 0 0 true,
qg .index [.loc 0,qki 0] 1 true,
qge 1 2 true,
qg (.bin .eql) [.loc 1,.loc 0] 3 true,
qpf 4 0] [(3,0)]
(cn 3 (.skip) (.exit 0)))
(.block 1 (rg [qe 0,
qo (.slice true 0 true false false) [.loc 0,qki 1],
ql 0] [(0,0)])))))
(sr [qe 0,
ql 0] [(2,0)]
(.ret))),
[.tmp 2]⟩
def F177:Rh:=⟨[0,1,4,7,12],2,
sr [qo .mv [.const (.str ⟨#[]⟩)]] [(2,0)]
(.seq (.block 0 (.loop (.seq (sr [qe 0,
qln true 0,
qo (.bin .gtr) [.loc 0,qki 0]] [(3,0)]
(cn 3 (.skip) (.exit 0)))
(.block 1 (.seq (sr [qe 1,
qe 0,
qo .index [.loc 0,qki 0],
qkk 216 2 0,
qun 0] [(4,0)]
(cn 4 (.exit 0) (.skip)))
(rg [qe 0,
qo (.slice true 0 true false false) [.loc 0,qki 1],
ql 0] [(0,0)]))))))
(sr [qe 0,
ql 0] [(2,0)]
(.ret))),
[.tmp 2]⟩
def F180:Rh:=⟨[0,1,4,16],2,
sr [qo .mv [.const (.str ⟨#[]⟩)]] [(2,0)]
(.seq (.block 0 (.loop (.seq (sr [qe 0,
qln true 0,
qo (.bin .gtr) [.loc 0,qki 0],
ql 0,
qge 0 0 true,
qge 0 1 true,
qg (.len true) [.loc 0] 2 true,
qg (.bin .sub) [.loc 0,qki 1] 3 true,
qg .index [.loc 3,.loc 0] 4 true,
qge 1 5 true,
qg (.bin .eql) [.loc 1,.loc 0] 6 true,
qpf 7 0] [(3,0)]
(cn 3 (.skip) (.exit 0)))
(.block 1 (rg [qe 0,
qe 0,
qln true 0,
qo (.bin .sub) [.loc 0,qki 1],
qo (.slice true 0 false true false) [.loc 3,.loc 0],
ql 0] [(0,0)])))))
(sr [qe 0,
ql 0] [(2,0)]
(.ret))),
[.tmp 2]⟩
def F181:Rh:=⟨[0,1,4,7,15],2,
sr [qo .mv [.const (.str ⟨#[]⟩)]] [(2,0)]
(.seq (.block 0 (.loop (.seq (sr [qe 0,
qln true 0,
qo (.bin .gtr) [.loc 0,qki 0]] [(3,0)]
(cn 3 (.skip) (.exit 0)))
(.block 1 (.seq (sr [qe 1,
qe 0,
qe 0,
qln true 0,
qo (.bin .sub) [.loc 0,qki 1],
qo .index [.loc 3,.loc 0],
qkk 216 5 0,
qun 0] [(4,0)]
(cn 4 (.exit 0) (.skip)))
(rg [qe 0,
qe 0,
qln true 0,
qo (.bin .sub) [.loc 0,qki 1],
qo (.slice true 0 false true false) [.loc 3,.loc 0],
ql 0] [(0,0)]))))))
(sr [qe 0,
ql 0] [(2,0)]
(.ret))),
[.tmp 2]⟩
def F192:Rh:=⟨[0,1,4,5,7,8,9,16],2,
sr [qi 0] [(2,0)]
(.seq (sr [qe 0,
qln false 0,
qi 0] [(4,1),(5,0)]
(.block 0 (.loop (sr [qlt 5 4] [(6,0)]
(.seq (cn 6 (.skip) (.exit 0))
(.seq (.block 1 (sr [qe 5,
ql 0] [(3,0)]
(sr [qe 1,
qe 0,
qe 3,
qia 2 1 0,
qdt 2 0,
qo .callv [.loc 4,.loc 0]] [(7,0)]
(cn 7 (sr [qe 3,
ql 0] [(2,0)]
(.ret)) (.skip)))))
(rg [qae 5 1,
ql 0] [(5,0)])))))))
(sr [qi (-1)] [(2,0)]
(.ret))),
[.tmp 2]⟩
def F197:Rh:=⟨[0,1,4,5,6,12,21,34],2,
sr [qo .mv [.const (.str ⟨#[]⟩)]] [(2,0)]
(.seq (sr [qe 0,
qo (.bin .eql) [.loc 0,.const (.str ⟨#[]⟩)],
ql 0,
qge 1 0 false,
qg (.bin .eql) [.loc 0,.const (.str ⟨#[]⟩)] 1 false,
qpt 2 0] [(5,0)]
(cn 5 (sr [qe 0,
ql 0] [(2,0)]
(.ret)) (.skip)))
(.seq (sr [qe 1,
qln true 0,
qo (.bin .eql) [.loc 0,qki 1],
ql 0,
qge 1 0 true,
qg .index [.loc 0,qki 0] 1 true,
qg (.bin .lss) [.loc 0,qkb 128] 2 true,
qpf 3 0] [(6,0)]
(cn 6 (.seq (.drawn [qe 0,
qwe 1 0 1,
qw .index [.loc 0,qki 0] 2 2,
qw (.call 180) [.loc 2,.loc 0] 7 3,
qwe 1 0 4,
qw .index [.loc 0,qki 0] 16 5,
qw (.call 175) [.loc 2,.loc 0] 63 6,
qwl 0 127 7] [(2,0)] [])
(.ret)) (.skip)))
(.seq (sr [qe 1,
qk 176 0,
ql 0,
qx 0 0,
qx 1 1,
qo (.alloc 237 tb0) [],
qso 256 0 2,
ql 2] [(3,2),(4,0)]
(sr [qe 4] [(7,0)]
(cn 7 (sr [qe 0,
qo (.call 181) [.loc 0,.env 3],
qo (.call 177) [.loc 0,.env 3],
ql 0] [(2,0)]
(.ret)) (.skip))))
(sr [qe 0,
qe 1,
qkk 182 1 0,
qe 1,
qkk 178 1 0,
ql 0] [(2,0)]
(.ret))))),
[.tmp 2]⟩
def F200:Rh:=⟨[0,2],1,
sr [qno] [(1,0)]
(sr [qe 0,
qe 0,
qln false 0,
qe 0,
qln false 0,
qo (.slice false 1 false true true) [.loc 4,.loc 2,.loc 0],
ql 0] [(1,0)]
(.ret)),
[.tmp 1]⟩
def F202:Rh:=⟨[0,1,2,3,6,7,8,9,10,19,23],3,
sr [qo (.boxc 3) [.env 0],
qo .mv [.const (.str ⟨#[]⟩)],
qi 0] [(3,2),(4,1),(5,0)]
(sr [qde 3 3,
qe 1,
qe 2,
qo (.call 155) [.loc 2,.loc 1,.loc 0],
ql 0,
qx 0 0,
qx 1 1,
ql 1,
ql 1] [(6,1),(7,0)]
(.seq (.block 0 (sr [qe 7,
qo (.bin .neq) [.loc 0,qki 0],
ql 0] [(9,0)]
(cn 9 (sr [qe 7,
qo .mv [.const (.str ⟨#[]⟩)],
ql 1] [(4,1),(5,0)]
(.ret)) (sr [qe 6,
qun 0,
ql 0] [(10,0)]
(cn 10 (sr [qo .mv [.const (.str ⟨#[]⟩)],
qi 14] [(4,1),(5,0)]
(.ret)) (.skip))))))
(sr [qde 3 3,
qe 1,
qe 2,
qo (.call 207) [.loc 2,.loc 1,.loc 0],
ql 0,
qx 0 0,
qx 1 1,
ql 1,
ql 1] [(8,1)]
(sr [qe 8,
qe 8,
qln true 0,
qe 1,
qo (.bin .sub) [.loc 1,.loc 0],
qo (.slice true 0 true false false) [.loc 4,.loc 0],
ql 0,
qi 0] [(4,1),(5,0)]
(.ret))))),
[.tmp 4,.tmp 5]⟩
def F205:Rh:=⟨[0,1,2,3,6,25],3,
sr [qo (.boxc 3) [.env 0],
qi 0] [(3,1),(4,0)]
(.seq (sr [qde 3 3,
qk 152 0,
qo (.bin .neq) [.loc 0,qki 0],
ql 0,
qge 1 0 false,
qg (.bin .lss) [.loc 0,qki 1] 1 false,
qpt 2 0,
ql 0,
qge 1 0 false,
qg (.bin .gtr) [.loc 0,qki 62] 1 false,
qpt 2 0,
ql 0,
qge 2 0 false,
qg (.bin .lss) [.loc 0,.const (.int .i64 (-62))] 1 false,
qpt 2 0,
ql 0,
qge 2 0 false,
qg (.bin .gtr) [.loc 0,qki 62] 1 false,
qpt 2 0] [(5,0)]
(cn 5 (sr [qi 1] [(4,0)]
(.ret)) (.skip)))
(sr [qi 0] [(4,0)]
(.ret))),
[.tmp 4]⟩
def F207:Rh:=⟨[0,1,2,3,6,7,9,11,12,21,29],3,
sr [qo (.boxc 3) [.env 0],
qo .mv [.const (.str ⟨#[]⟩)],
qbb false] [(3,2),(4,1),(5,0)]
(.seq (sr [qde 3 3,
qe 2,
qkk 154 1 0,
ql 0,
qx 0 0,
qx 1 1,
qx 2 2,
qo (.alloc 57 [.bool false,.str ⟨#[]⟩,.int .i64 0]) [],
qso 3 0 3,
ql 3,
ql 3] [(6,1)]
(sr [qe 6,
qun 0] [(9,0)]
(cn 9 (sr [qo .mv [.const (.str ⟨#[]⟩)],
qbb false] [(4,1),(5,0)]
(.ret)) (.skip))))
(sr [qfe 1 3,
qd 1 0,
ql 0] [(7,0)]
(.seq (sr [qe 2,
qfe 2 3,
qd 1 0,
qo (.bin .sub) [.loc 2,.loc 0],
ql 0] [(8,0)]
(sr [qe 8,
qo (.bin .geq) [.loc 0,qki 0]] [(10,0)]
(cn 10 (rg [qe 7,
qe 8,
qo (.call 62) [.const (.str ⟨#[48]⟩),.loc 0],
qa2 2 0,
ql 0] [(7,0)]) (rg [qe 7,
qe 7,
qln true 0,
qe 8,
qa2 1 0,
qo .max [.loc 0,qki 0],
qo (.slice true 0 false true false) [.loc 5,.loc 0],
ql 0] [(7,0)]))))
(sr [qe 1,
qe 7,
qln true 0,
qo (.bin .sub) [.loc 2,.loc 0],
qo .max [.loc 0,qki 0],
qo (.call 62) [.const (.str ⟨#[48]⟩),.loc 0],
qe 7,
qa2 1 0,
ql 0,
qbb true] [(4,1),(5,0)]
(.ret))))),
[.tmp 4,.tmp 5]⟩
def F209:Rh:=⟨[0,2],1,
sr [qo .mv [.const (.str ⟨#[]⟩)]] [(1,0)]
(sr [qe 0,
qo (.call 89) [.loc 0,qki 10],
ql 0] [(1,0)]
(.ret)),
[.tmp 1]⟩
def F216:Rh:=⟨[0,1,4],2,
sr [qbb false] [(2,0)]
(sr [qe 0,
qe 1,
qnl 1,
qo (.aaddr 1 256) [.loc 0,.loc 1],
qd 1 0,
ql 0] [(2,0)]
(.ret)),
[.tmp 2]⟩
def F226:Rh:=⟨[0,1,2,4,5,6,7,8,9,10,11,18,31],2,
sr [qo (.boxc 11) [.env 0],
qo (.alloc 157 [.bool false,.str ⟨#[]⟩]) [],
qbb false] [(2,2),(3,1),(4,0)]
(sr [qe 1,
qo .bstr [.loc 0],
qo (.build [.bool false,.str ⟨#[]⟩] [(1,1)]) [.loc 0],
qo (.alloc 157 [.bool false,.str ⟨#[]⟩]) [],
qso 2 0 1] [(5,1)]
(.seq (sr [qde 11 2,
qk 253 0,
ql 0] [(6,0)]
(sr [qfe 5 2,
qd 1 0] [(11,0)]
(cn 11 (sr [qe 1,
qe 6,
qia 1 1 0,
qd 1 0,
ql 0] [(7,0)]
(sr [qe 7,
qo (.call 172) [.const (.str ⟨#[123,65,66,67,68,69,70,71,72,73]⟩),.loc 0],
qe 7,
qo (.call 172) [.const (.str ⟨#[125,74,75,76,77,78,79,80,81,82]⟩),.loc 0],
ql 2,
ql 1] [(8,1),(9,0)]
(sr [qe 8,
qe 9,
qo .max [.loc 1,.loc 0],
ql 0] [(10,0)]
(sr [qe 10,
qo (.bin .geq) [.loc 0,qki 0]] [(12,0)]
(cn 12 (.drawn [qe 9,
qw (.bin .geq) [.loc 0,qki 0] 1 1,
qw (.R3 1) [.env 5] 0 2,
qwd 1 0 4 3,
qwe 6 0 4,
qw (.slice true 0 false true false) [.loc 1,.loc 0] 28 5,
qwe 10 0 6,
qwe 10 0 7,
qw (.bin .add) [.loc 0,qki 1] 128 8,
qw (.slice true 0 true true false) [.const (.str ⟨#[48,49,50,51,52,53,54,55,56,57]⟩),.loc 2,.loc 0] 448 9,
qw (.bin .add) [.loc 4,.loc 0] 1020 10,
qw (.R3 1) [.env 5] 0 11,
qwd 1 0 2048 12,
qwe 6 0 13,
qw (.bin .add) [.loc 0,qki 1] 8192 14,
qw (.slice true 0 true false false) [.loc 2,.loc 0] 30720 15,
qw (.bin .add) [.loc 5,.loc 0] 65532 16,
qw (.build [.bool false,.str ⟨#[]⟩] [(0,1),(1,1)]) [.loc 15,.loc 0] 131071 17,
qw (.store 2) [.env 5,.loc 0] 262143 18] [] []) (.skip)))))) (.skip))))
(.seq (.drawn [qde 2 5,
qw (.R3 1) [.env 5] 0 1,
qwd 1 0 2 2,
qw (.call 197) [.loc 0,.const (.str ⟨#[48,49,50,51,52,53,54,55,56,57]⟩)] 6 3,
qw (.bin .eql) [.loc 0,.const (.str ⟨#[]⟩)] 14 4,
qw (.store 2) [.env 3,.loc 4] 15 5,
qwl 1 63 6] [(4,0)] [])
(.ret)))),
[.cell 3 2 true,.tmp 4]⟩
def F227:Rh:=⟨[0,1,2,3,4,5,6,7,14,16],2,
sr [qo (.boxc 11) [.env 0],
qo (.boxc 2) [.env 1],
qno] [(2,2),(3,1),(4,0)]
(sr [qfe 1 3,
qd 1 0,
qo .strb [.loc 0],
ql 0] [(5,0)]
(.seq (sr [qde 11 2,
qk 253 0,
ql 0] [(6,0)]
(sr [qfe 5 2,
qd 1 0] [(8,0)]
(cn 8 (sr [qo .mv [.const (.str ⟨#[123,65,66,67,68,69,70,71,72,73]⟩)]] [(7,0)]
(.seq (sr [qfe 0 3,
qd 1 0] [(9,0)]
(cn 9 (rg [qo .mv [.const (.str ⟨#[125,74,75,76,77,78,79,80,81,82]⟩)]] [(7,0)]) (.skip)))
(rg [qe 5,
qe 6,
qe 7,
qe 5,
qe 6,
qia 1 1 0,
qd 1 0,
qo (.bin .sub) [.loc 0,qkb 48],
qo .index [.loc 5,.loc 0],
qia 1 8 7,
qso 1 0 1] []))) (.skip))))
(sr [qe 5,
ql 0] [(4,0)]
(.ret)))),
[.tmp 4]⟩
noncomputable def cO (f:FuncId) (m b s:List Nat):Option Rh:=match Tryz.prog.funcs[f]? with
  | some fn => match P9 Tryz.prog (KD m b) s fn with
    | some F=>if Fp F.body then some F else none
    | none=>none
  | none=>none
noncomputable abbrev cQ (f:FuncId) (b s:List Nat):Option Rh:=cO f [999999] b s
noncomputable abbrev cP (f:FuncId) (s:List Nat):Option Rh:=cO f [999999] [] s
noncomputable abbrev Gf21:Option Rh:=cP 21 [0,2,3,4,5,6,7,8,9,10,11,22]
noncomputable abbrev Gf27:Option Rh:=cP 27 [0,2]
noncomputable abbrev Gf28:Option Rh:=cP 28 [0,2,3]
noncomputable abbrev Gf29:Option Rh:=cP 29 [0,2]
noncomputable abbrev Gf42:Option Rh:=cO 42 [77,999999] [] [0,2,3,4,5,9,10,11,12]
noncomputable abbrev Gf60:Option Rh:=cQ 60 [13] [0,1,4]
noncomputable abbrev Gf61:Option Rh:=cP 61 [0,1,4,5]
noncomputable abbrev Gf63:Option Rh:=cP 63 [0,2]
noncomputable abbrev Gf66:Option Rh:=cP 66 [0,2,3,4,5,7,8,9,16,19,20,21,22,31,37]
noncomputable abbrev Gf77:Option Rh:=cP 77 [0,1,4,5,6,7,8,9,10,11,13,16,32,38,42,50,63]
noncomputable abbrev Gf82:Option Rh:=cP 82 [0,1,2,3,5,7,8,9,10]
noncomputable abbrev Gf83:Option Rh:=cP 83 [0,6,19]
noncomputable abbrev Gf84:Option Rh:=cP 84 [0,1,4,5,6,7,8,9]
noncomputable abbrev Gf85:Option Rh:=cP 85 [0,1,4]
noncomputable abbrev Gf90:Option Rh:=cP 90 [0,2,3,4,5,6,7,8,9,10,14,34,39,50,53]
noncomputable abbrev Gf91:Option Rh:=cP 91 [0,2,3,4,10,18,23,31]
noncomputable abbrev Gf92:Option Rh:=cP 92 [0,2,3,4,5,6,7,8,9,10,11,12,13,38,48,63]
noncomputable abbrev Gf93:Option Rh:=cP 93 [0,2,3,4,5,7,8,9,10,11,12,13,24,25,26,27,36,52,85]
noncomputable abbrev Gf94:Option Rh:=cP 94 [0,1,4,5,6,9,15,24]
noncomputable abbrev Gf95:Option Rh:=cP 95 [0,1,4]
noncomputable abbrev Gf98:Option Rh:=cQ 98 [1] [0,1,2,3,4,5,6,7,14,18,23,46,50,56,83,119]
noncomputable abbrev Gf104:Option Rh:=cQ 104 [1] [0,1,2,3,7]
noncomputable abbrev Gf113:Option Rh:=cP 113 [0,1,4,5,6,7,8,9,10,11,12,13]
noncomputable abbrev Gf120:Option Rh:=cP 120 [0,2,3,4,5,8,31]
noncomputable abbrev Gf121:Option Rh:=cQ 121 [1] [0,1,2]
noncomputable abbrev Gf122:Option Rh:=cP 122 [0,1,2,6,7,22]
noncomputable abbrev Gf123:Option Rh:=cP 123 [0,1,4]
noncomputable abbrev Gf124:Option Rh:=cP 124 [0,1,4,5,6]
noncomputable abbrev Gf125:Option Rh:=cP 125 [0,2]
noncomputable abbrev Gf129:Option Rh:=cP 129 [0,1,4,5]
noncomputable abbrev Gf130:Option Rh:=cP 130 [0,1,4,5,6,7,8,9,11,12,14,15,16,28,30,44,56,65,68,69,70,76,78]
noncomputable abbrev Gf131:Option Rh:=cP 131 [0,2,4]
noncomputable abbrev Gf132:Option Rh:=cP 132 [0,1,4]
noncomputable abbrev Gf133:Option Rh:=cP 133 [0,1,4,6,8,9,10,11,24]
noncomputable abbrev Gf134:Option Rh:=cP 134 [0,2,3,4,5,6,8,9,10,11,15,24,30,31,32,53,70]
noncomputable abbrev Gf135:Option Rh:=cP 135 [0,1,2,6,7,8,42,62,68,74]
noncomputable abbrev Gf138:Option Rh:=cP 138 [0,1,4]
noncomputable abbrev Gf139:Option Rh:=cP 139 [0,1,4,5,7,8,9,16]
noncomputable abbrev Gf142:Option Rh:=cP 142 [0,1,2,3,4,5,7,9,10,11,12,52]
noncomputable abbrev Gf143:Option Rh:=cQ 143 [1] [0,1,2,3,4,13,27,33,44]
noncomputable abbrev Gf144:Option Rh:=cQ 144 [1] [0,1,2,4]
noncomputable abbrev Gf146:Option Rh:=cQ 146 [2,3] [0,1,2,3,4,5,24]
noncomputable abbrev Gf148:Option Rh:=cQ 148 [2,3] [0,1,2,3,4,5,6,7,9,10,14,25,37]
noncomputable abbrev Gf171:Option Rh:=cP 171 [0,1,3]
noncomputable abbrev Gf172:Option Rh:=cP 172 [0,1,4]
noncomputable abbrev Gf173:Option Rh:=cP 173 [0,1,4,5,6,7,8,9,10,12,15,20,26,32,36,42,45,46,47,53]
noncomputable abbrev Gf174:Option Rh:=cP 174 [0,1,4,5,6,7,12]
noncomputable abbrev Gf176:Option Rh:=cP 176 [0,2,3,4,5,9,16]
noncomputable abbrev Gf183:Option Rh:=cP 183 [0,1,4,5,9]
noncomputable abbrev Gf187:Option Rh:=cP 187 [0,2]
noncomputable abbrev Gf188:Option Rh:=cP 188 [0,1,4,5,6,7,8,9,10,11,12,13,14,15,16,26,33,43,51,64,98,108,124,139,143,156,160,171,175,176,177,181,183]
noncomputable abbrev Gf189:Option Rh:=cP 189 [0,1,3]
noncomputable abbrev Gf190:Option Rh:=cP 190 [0,1,4,5]
noncomputable abbrev Gf191:Option Rh:=cP 191 [0,1,4,5,6,7,8,9,10,11,12,13,16,24,31,36,59,64,73,93,107,114,132,139]
noncomputable abbrev Gf193:Option Rh:=cP 193 [0,1,2,3,4,6,7,22,46,64]
noncomputable abbrev Gf194:Option Rh:=cQ 194 [1] [0,1,2,3,11,20,29,33]
noncomputable abbrev Gf195:Option Rh:=cP 195 [0]
noncomputable abbrev Gf199:Option Rh:=cQ 199 [2] [0,1,2,4,5,9]
noncomputable abbrev Gf201:Option Rh:=cQ 201 [2,3] [0,1,2,3,4,5,6,7,8,10,16,36]
noncomputable abbrev Gf208:Option Rh:=cP 208 [0,1,4]
noncomputable abbrev Gf214:Option Rh:=cP 214 [0,1,4]
noncomputable abbrev Gf215:Option Rh:=cP 215 [0,2]
noncomputable abbrev Gf224:Option Rh:=cQ 224 [2,3] [0,1,2,3,4]
noncomputable abbrev Gf225:Option Rh:=cP 225 [0,1,2]
noncomputable abbrev Gf235:Option Rh:=cQ 235 [1] [0,1,2,3,5,6,7,9,13,14,15,16,26,33,34,35,36,45]
noncomputable abbrev Gf240:Option Rh:=cO 240 [5,999999] [] [0,2,3,4,5,14,15,16,38,48,54,76,105]
noncomputable abbrev Gf253:Option Rh:=cQ 253 [1] [0,1,2,4]
noncomputable abbrev Gf254:Option Rh:=cQ 254 [2] [0,1,2,4]
noncomputable abbrev Gf255:Option Rh:=cP 255 [0,1,4,13,30,55]
noncomputable abbrev Gf256:Option Rh:=cQ 256 [23] [0,1,2,6]
noncomputable abbrev Gf260:Option Rh:=cP 260 [0,2,8]
noncomputable abbrev Gf263:Option Rh:=cP 263 [0,1,4]
theorem eg7:cQ 7 [32] [0,2,3,4,5,6,7,8,9,10,11,12,13,26,44,53,59]=some F7:=by kernel_rfl
theorem eg8:cP 8 [0,1,2,3,4,5,6,7,8,9,50,72]=some F8:=by kernel_rfl
theorem eg9:cO 9 [57,999999] [57] [0,1,2,3,4,5,7,11,22,23,24,25,30,47,48,49]=some F9:=by kernel_rfl
theorem eg11:cP 11 [0,2,4]=some F11:=by kernel_rfl
theorem eg12:cP 12 [0,1,2,3,4,5,6,7,8,11,16,49]=some F12:=by kernel_rfl
theorem eg17:cP 17 [0,1,2,3,4,7]=some F17:=by kernel_rfl
theorem eg25:cP 25 [0,1,4,5,6,10]=some F25:=by kernel_rfl
theorem eg26:cP 26 [0,2,3,4]=some F26:=by kernel_rfl
theorem eg30:cP 30 [0,1,2,3,26]=some F30:=by kernel_rfl
theorem eg31:cO 31 [74,82,71] [] [0,1,2,3,4,5,6,25,26,27,37,38,39,56,57,58]=some F31:=by kernel_rfl
theorem eg36:cP 36 [0,2]=some F36:=by kernel_rfl
theorem eg37:cP 37 [0,2]=some F37:=by kernel_rfl
theorem eg38:cO 38 [] [] [0,2,4]=some F38:=by kernel_rfl
theorem eg39:cP 39 [0,1,4,5,6,15,16,17,18,19,33,51]=some F39:=by kernel_rfl
theorem eg40:cP 40 [0,1,4,5,40]=some F40:=by kernel_rfl
theorem eg41:cP 41 [0,1,2,3,9,42,64]=some F41:=by kernel_rfl
theorem eg43:cQ 43 [80] [0,1,3,5,6,8,10,11,12,13,17,18,19,20,56]=some F43:=by kernel_rfl
theorem eg44:cP 44 [0,1,11]=some F44:=by kernel_rfl
theorem eg45:cP 45 [0,1,4,5,6,11,12,13,14,33]=some F45:=by kernel_rfl
theorem eg46:cO 46 [57,999999] [] [0,1,4,5,6,15,31,32,33,34,41]=some F46:=by kernel_rfl
theorem eg47:cO 47 [57,999999] [] [0,2,3,4,10,11,12,13]=some F47:=by kernel_rfl
theorem eg48:cP 48 [0,1,3,9,41,72]=some F48:=by kernel_rfl
theorem eg58:cP 58 [0,6,22]=some F58:=by kernel_rfl
theorem eg59:cP 59 [0]=some F59:=by kernel_rfl
theorem eg64:cP 64 [0,1,4,5]=some F64:=by kernel_rfl
theorem eg65:cP 65 [0,1,4]=some F65:=by kernel_rfl
theorem eg67:cP 67 [0,1,2,3,4,6,7,9,10,12,13,14,15,35,38,39,40,41,77,81,82,83,84,105]=some F67:=by kernel_rfl
theorem eg68:cP 68 [0,2,4]=some F68:=by kernel_rfl
theorem eg69:cP 69 [0,2,4]=some F69:=by kernel_rfl
theorem eg70:cO 70 [] [] [0,2,4]=some F70:=by kernel_rfl
theorem eg71:cO 71 [] [] [0,2,4]=some F71:=by kernel_rfl
theorem eg72:cO 72 [] [] [0,2,4]=some F72:=by kernel_rfl
theorem eg73:cO 73 [] [] [0,2,4]=some F73:=by kernel_rfl
theorem eg74:cP 74 [0,2,4]=some F74:=by kernel_rfl
theorem eg75:cQ 75 [1] [0,1,2,4,8]=some F75:=by kernel_rfl
theorem eg76:cO 76 [57,999999] [] [0,2,4]=some F76:=by kernel_rfl
theorem eg78:cP 78 [0,1,3,4,5,7,8,19,29,45,63]=some F78:=by kernel_rfl
theorem eg79:cP 79 [0,1,4]=some F79:=by kernel_rfl
theorem eg80:cQ 80 [1] [0,1,2,3,4,5,6,11,20]=some F80:=by kernel_rfl
theorem eg81:cQ 81 [2,3] [0,1,2,3,4,5,6,7,8,9,14,24,39]=some F81:=by kernel_rfl
theorem eg88:cP 88 [0,1,4,5,9]=some F88:=by kernel_rfl
theorem eg96:cP 96 [0,1,2,3,4,5,14,45,62]=some F96:=by kernel_rfl
theorem eg97:cP 97 [0,1,2,3,5,6,9,39,41,42,43,44,50,58,59,65,73]=some F97:=by kernel_rfl
theorem eg99:cQ 99 [1] [0,1,2,3,4,5,12,17,32]=some F99:=by kernel_rfl
theorem eg101:cO 101 [5,999999] [] [0,1,2,6,7,8,9,13,21]=some F101:=by kernel_rfl
theorem eg102:cQ 102 [2,3] [0,1,2,3,4,5,6,7,8,9,10,20,28,34,46,61,65,82,86]=some F102:=by kernel_rfl
theorem eg103:cQ 103 [3,4] [0,1,2,3,4,6,7,8,9,10,11,12,14,16,17,18,31,50,79]=some F103:=by kernel_rfl
theorem eg105:cP 105 [0,1,2,6,7,23]=some F105:=by kernel_rfl
theorem eg106:cQ 106 [2,3] [0,1,2,3,4]=some F106:=by kernel_rfl
theorem eg107:cQ 107 [2,3] [0,1,2,3,4,5,6,7]=some F107:=by kernel_rfl
theorem eg108:cP 108 [0,1,2,6,7,11,18,27,37]=some F108:=by kernel_rfl
theorem eg109:cP 109 [0,1,4,5,6]=some F109:=by kernel_rfl
theorem eg114:cP 114 [0,1,4]=some F114:=by kernel_rfl
theorem eg126:cP 126 [0,1,4,5,6,12,21,31]=some F126:=by kernel_rfl
theorem eg140:cP 140 [0,1,4]=some F140:=by kernel_rfl
theorem eg141:cP 141 [0,1,2,3]=some F141:=by kernel_rfl
theorem eg145:cP 145 [0,2,3,6]=some F145:=by kernel_rfl
theorem eg147:cQ 147 [1] [0,1,2,3,4,7,8,14,31]=some F147:=by kernel_rfl
theorem eg149:cQ 149 [2,3] [0,1,2,3,4,5,6,8,9,19,31]=some F149:=by kernel_rfl
theorem eg150:cQ 150 [2,3] [0,1,2,3,4,5,6,7,8,17,26]=some F150:=by kernel_rfl
theorem eg152:cQ 152 [1] [0,1,2,3,4,24,41]=some F152:=by kernel_rfl
theorem eg153:cQ 153 [3] [0,1,2,3,6,7,8,9,10,11,19,28,36,40,56]=some F153:=by kernel_rfl
theorem eg154:cQ 154 [2] [0,1,2,4,5,6,7,8,9,10,11,15,21,27]=some F154:=by kernel_rfl
theorem eg155:cQ 155 [3] [0,1,2,3,6,7,8,9,10,16]=some F155:=by kernel_rfl
theorem eg156:cQ 156 [3] [0,1,2,3,6,7,8,9,10,16,27]=some F156:=by kernel_rfl
theorem eg157:cQ 157 [2,3] [0,1,2,3,4,5,6,7,16,18,30]=some F157:=by kernel_rfl
theorem eg158:cP 158 [0,2]=some F158:=by kernel_rfl
theorem eg159:cP 159 [0,1,4]=some F159:=by kernel_rfl
theorem eg161:cO 161 [5,999999] [] [0,1,2,6,7,8,9,10,11,12,17,18,19]=some F161:=by kernel_rfl
theorem eg162:cP 162 [0,1,2,6,7]=some F162:=by kernel_rfl
theorem eg163:cP 163 [0,2]=some F163:=by kernel_rfl
theorem eg175:cP 175 [0,1,4,13]=some F175:=by kernel_rfl
theorem eg177:cP 177 [0,1,4,7,12]=some F177:=by kernel_rfl
theorem eg180:cP 180 [0,1,4,16]=some F180:=by kernel_rfl
theorem eg181:cP 181 [0,1,4,7,15]=some F181:=by kernel_rfl
theorem eg192:cP 192 [0,1,4,5,7,8,9,16]=some F192:=by kernel_rfl
theorem eg197:cP 197 [0,1,4,5,6,12,21,34]=some F197:=by kernel_rfl
theorem eg200:cP 200 [0,2]=some F200:=by kernel_rfl
theorem eg202:cQ 202 [3] [0,1,2,3,6,7,8,9,10,19,23]=some F202:=by kernel_rfl
theorem eg205:cQ 205 [3] [0,1,2,3,6,25]=some F205:=by kernel_rfl
theorem eg207:cQ 207 [3] [0,1,2,3,6,7,9,11,12,21,29]=some F207:=by kernel_rfl
theorem eg209:cP 209 [0,2]=some F209:=by kernel_rfl
theorem eg216:cP 216 [0,1,4]=some F216:=by kernel_rfl
theorem eg226:cQ 226 [2] [0,1,2,4,5,6,7,8,9,10,11,18,31]=some F226:=by kernel_rfl
theorem eg227:cO 227 [5,999999] [2,3] [0,1,2,3,4,5,6,7,14,16]=some F227:=by kernel_rfl
noncomputable def fnOf:FuncId→Option Rh
  | 7=>some F7
  | 8=>some F8
  | 9=>some F9
  | 11=>some F11
  | 12=>some F12
  | 17=>some F17
  | 21=>Gf21
  | 25=>some F25
  | 26=>some F26
  | 27=>Gf27
  | 28=>Gf28
  | 29=>Gf29
  | 30=>some F30
  | 31=>some F31
  | 36=>some F36
  | 37=>some F37
  | 38=>some F38
  | 39=>some F39
  | 40=>some F40
  | 41=>some F41
  | 42=>Gf42
  | 43=>some F43
  | 44=>some F44
  | 45=>some F45
  | 46=>some F46
  | 47=>some F47
  | 48=>some F48
  | 58=>some F58
  | 59=>some F59
  | 60=>Gf60
  | 61=>Gf61
  | 63=>Gf63
  | 64=>some F64
  | 65=>some F65
  | 66=>Gf66
  | 67=>some F67
  | 68=>some F68
  | 69=>some F69
  | 70=>some F70
  | 71=>some F71
  | 72=>some F72
  | 73=>some F73
  | 74=>some F74
  | 75=>some F75
  | 76=>some F76
  | 77=>Gf77
  | 78=>some F78
  | 79=>some F79
  | 80=>some F80
  | 81=>some F81
  | 82=>Gf82
  | 83=>Gf83
  | 84=>Gf84
  | 85=>Gf85
  | 88=>some F88
  | 90=>Gf90
  | 91=>Gf91
  | 92=>Gf92
  | 93=>Gf93
  | 94=>Gf94
  | 95=>Gf95
  | 96=>some F96
  | 97=>some F97
  | 98=>Gf98
  | 99=>some F99
  | 101=>some F101
  | 102=>some F102
  | 103=>some F103
  | 104=>Gf104
  | 105=>some F105
  | 106=>some F106
  | 107=>some F107
  | 108=>some F108
  | 109=>some F109
  | 113=>Gf113
  | 114=>some F114
  | 120=>Gf120
  | 121=>Gf121
  | 122=>Gf122
  | 123=>Gf123
  | 124=>Gf124
  | 125=>Gf125
  | 126=>some F126
  | 129=>Gf129
  | 130=>Gf130
  | 131=>Gf131
  | 132=>Gf132
  | 133=>Gf133
  | 134=>Gf134
  | 135=>Gf135
  | 138=>Gf138
  | 139=>Gf139
  | 140=>some F140
  | 141=>some F141
  | 142=>Gf142
  | 143=>Gf143
  | 144=>Gf144
  | 145=>some F145
  | 146=>Gf146
  | 147=>some F147
  | 148=>Gf148
  | 149=>some F149
  | 150=>some F150
  | 152=>some F152
  | 153=>some F153
  | 154=>some F154
  | 155=>some F155
  | 156=>some F156
  | 157=>some F157
  | 158=>some F158
  | 159=>some F159
  | 161=>some F161
  | 162=>some F162
  | 163=>some F163
  | 171=>Gf171
  | 172=>Gf172
  | 173=>Gf173
  | 174=>Gf174
  | 175=>some F175
  | 176=>Gf176
  | 177=>some F177
  | 180=>some F180
  | 181=>some F181
  | 183=>Gf183
  | 187=>Gf187
  | 188=>Gf188
  | 189=>Gf189
  | 190=>Gf190
  | 191=>Gf191
  | 192=>some F192
  | 193=>Gf193
  | 194=>Gf194
  | 195=>Gf195
  | 197=>some F197
  | 199=>Gf199
  | 200=>some F200
  | 201=>Gf201
  | 202=>some F202
  | 205=>some F205
  | 207=>some F207
  | 208=>Gf208
  | 209=>some F209
  | 214=>Gf214
  | 215=>Gf215
  | 216=>some F216
  | 224=>Gf224
  | 225=>Gf225
  | 226=>some F226
  | 227=>some F227
  | 235=>Gf235
  | 240=>Gf240
  | 253=>Gf253
  | 254=>Gf254
  | 255=>Gf255
  | 256=>Gf256
  | 260=>Gf260
  | 263=>Gf263
  | _=>none
def dfnOf:FuncId→Option Rh
  | _=>none
noncomputable def LP:Prg:={ fns:=fnOf,raw:=fun f=>f==76,pure:=fun f=>!(f==9||f==60||f==61||f==71||f==72||f==73||f==121),deep:=fun f=>f==31,ext:=LE,dfs:=fun f=>false,dfn:=dfnOf }
theorem Bq {f : FuncId} {m b s : List Nat} {F : Rh} (h : cO f m b s = some F) : ∃ fn kd slots, Tryz.prog.funcs[f]? = some fn ∧ P9 Tryz.prog kd slots fn = some F ∧ (∀ g row, kd.glob g = some row → GT g = some row) ∧ (LP.dfs f = true ∨ Fp F.body = true) := by
  unfold cO at h
  split at h
  · rename_i fn hf
    split at h
    · rename_i F' hF
      split at h
      · rename_i hn
        cases h
        exact⟨fn,_,s,hf,hF,fun _ _ h=>h,.inr hn⟩
      cases h
    cases h
  cases h
theorem fk{f:FuncId}{F G:Rh}{fn:Func}{sl:List Nat}(h:some G=some F)(hf:Tryz.prog.funcs[f]?=some fn)(hl:LK sl fn=some G)(hn:Fp G.body=true):∃fn kd slots,Tryz.prog.funcs[f]?=some fn∧P9 Tryz.prog kd slots fn=some F∧(∀g row,kd.glob g=some row→GT g=some row)∧(LP.dfs f=true∨Fp F.body=true):=by
  injection h with h;subst h;exact⟨fn,_,_,hf,hl,fun _ _ h=>h,.inr hn⟩
theorem fk1{f:FuncId}{F G:Rh}{fn:Func}{sl:List Nat}{a b:List Nat}(h:some G=some F)(hf:Tryz.prog.funcs[f]?=some fn)(hl:P9 Tryz.prog (KD a b) sl fn=some G)(hn:Fp G.body=true):∃fn kd slots,Tryz.prog.funcs[f]?=some fn∧P9 Tryz.prog kd slots fn=some F∧(∀g row,kd.glob g=some row→GT g=some row)∧(LP.dfs f=true∨Fp F.body=true):=by
  injection h with h;subst h;exact⟨fn,_,_,hf,hl,fun _ _ h=>h,.inr hn⟩
theorem LP_fns:FnsOK Tryz.prog GT LP:=by
  intro f F h
  have h':fnOf f=some F:=h
  unfold fnOf at h'
  split at h'
  rotate_right
  · cases h'
  all_goals first | exact Bq h' | skip
  exact Bq (eg7.trans h')
  exact Bq (eg8.trans h')
  exact Bq (eg9.trans h')
  exact Bq (eg11.trans h')
  exact Bq (eg12.trans h')
  exact Bq (eg17.trans h')
  exact Bq (eg25.trans h')
  exact Bq (eg26.trans h')
  exact Bq (eg30.trans h')
  exact Bq (eg31.trans h')
  exact Bq (eg36.trans h')
  exact Bq (eg37.trans h')
  exact Bq (eg38.trans h')
  exact Bq (eg39.trans h')
  exact Bq (eg40.trans h')
  exact Bq (eg41.trans h')
  exact Bq (eg43.trans h')
  exact Bq (eg44.trans h')
  exact Bq (eg45.trans h')
  exact Bq (eg46.trans h')
  exact Bq (eg47.trans h')
  exact Bq (eg48.trans h')
  exact Bq (eg58.trans h')
  exact Bq (eg59.trans h')
  exact Bq (eg64.trans h')
  exact Bq (eg65.trans h')
  exact Bq (eg67.trans h')
  exact Bq (eg68.trans h')
  exact Bq (eg69.trans h')
  exact Bq (eg70.trans h')
  exact Bq (eg71.trans h')
  exact Bq (eg72.trans h')
  exact Bq (eg73.trans h')
  exact Bq (eg74.trans h')
  exact Bq (eg75.trans h')
  exact Bq (eg76.trans h')
  exact Bq (eg78.trans h')
  exact Bq (eg79.trans h')
  exact Bq (eg80.trans h')
  exact Bq (eg81.trans h')
  exact Bq (eg88.trans h')
  exact Bq (eg96.trans h')
  exact Bq (eg97.trans h')
  exact Bq (eg99.trans h')
  exact Bq (eg101.trans h')
  exact Bq (eg102.trans h')
  exact Bq (eg103.trans h')
  exact Bq (eg105.trans h')
  exact Bq (eg106.trans h')
  exact Bq (eg107.trans h')
  exact Bq (eg108.trans h')
  exact Bq (eg109.trans h')
  exact Bq (eg114.trans h')
  exact Bq (eg126.trans h')
  exact Bq (eg140.trans h')
  exact Bq (eg141.trans h')
  exact Bq (eg145.trans h')
  exact Bq (eg147.trans h')
  exact Bq (eg149.trans h')
  exact Bq (eg150.trans h')
  exact Bq (eg152.trans h')
  exact Bq (eg153.trans h')
  exact Bq (eg154.trans h')
  exact Bq (eg155.trans h')
  exact Bq (eg156.trans h')
  exact Bq (eg157.trans h')
  exact Bq (eg158.trans h')
  exact Bq (eg159.trans h')
  exact Bq (eg161.trans h')
  exact Bq (eg162.trans h')
  exact Bq (eg163.trans h')
  exact Bq (eg175.trans h')
  exact Bq (eg177.trans h')
  exact Bq (eg180.trans h')
  exact Bq (eg181.trans h')
  exact Bq (eg192.trans h')
  exact Bq (eg197.trans h')
  exact Bq (eg200.trans h')
  exact Bq (eg202.trans h')
  exact Bq (eg205.trans h')
  exact Bq (eg207.trans h')
  exact Bq (eg209.trans h')
  exact Bq (eg216.trans h')
  exact Bq (eg226.trans h')
  exact Bq (eg227.trans h')
theorem LP_dfn:DfnOK Tryz.prog GT LP:=by
  intro f F h
  have h':dfnOf f=some F:=h
  unfold dfnOf at h'
  split at h'
  simp at h'
theorem mixed:Tryz.prog.follows .mixedOrders=true:=by kernel_rfl
theorem rq{d:Nat}{f:FuncId}{F:Rh}{args args' env0:List D}{S:St}{r:D}(hF:LP.fns f=some F)(ha:(if LP.raw f then some args else Ay S.heap.length S.heap args)=some args')(he:(F.slots.map fun s=>args'.getD s .undef)=env0)(hb:∀d',d=d'+1→CW (Bl LP NN d') F.body (FinP F r) env0 ⟨[],0⟩)(hp:(LP.pure f&&args'.all D.Rp)=true:=by simp only[LP,zf,zm];try rfl)(hd:0<d:=by omega)(hl:args'.length=F.nargs:=by rfl)(hdp:LP.deep f=false:=by rfl)(hE:LP.ext f args=none:=by rfl)(wK:LP.dfs f=false:=by rfl):Bl LP NN d f args S=some (r,S,false):=run_pure hF ha hl hp he hd hb hdp hE wK
open Go.Shelf Go.RowKit
set_option maxRecDepth 100000
theorem repB_eq(s:ByteArray):∀c,Lib.repeatL s.data.toList c=repB s c
 | 0=>rfl
 | c+1=>by rw[Lib.repeatL,repB,repB_eq s c]
theorem decF_eq:∀(d u:Nat),u<10 ^ (d+1)→Lib.decDigits u=K9 (d+1) u
 | 0,u,h=>by
  have h:u<10:=h;rw[Lib.decDigits,K9,dif_pos h,if_pos h]
 | d + 1, u, h => by
  rw[Lib.decDigits,K9];split
  ·
   rfl
  rw[decF_eq d (u / 10) (by rw[Nat.pow_succ]at h;omega)]
theorem extra:Builder.Extra Tryz.prog Tryz.laysRepeat_ren where
 sizeBuilder:=by kernel_rfl
 liesBuilder:=by kernel_rfl
 t5:=Tryz.laysRepeat.t5
 a5:=Tryz.laysRepeat.a5
 z5:=Tryz.laysRepeat.z5
 v5:=Tryz.laysRepeat.v5
 infoByte:=by kernel_rfl
 cellsByte:=by kernel_rfl
 sizeByte:=by kernel_rfl
 neB5:=by decide
theorem fRepeat:Tryz.laysRepeat_ren.f 105=62:=by kernel_rfl
theorem fFormat:Tryz.laysInt_ren.f 246=89:=by kernel_rfl
def powR:List D:=Lib.pow10Tab.map fun z=>.int .u64 z
theorem powG:GT (Tryz.laysInt_ren.g 17)=some powR:=by kernel_rfl
theorem tab_ok {w : World} {ρ : Rm} {H : List Rf} (hG : ρ.X.G = GT) (hr : Rel w ρ H) : Lib.TabIs Tryz.prog w "internal/strconv.uint64pow10" .u64 Lib.pow10Tab := by
 obtain⟨hv,_,cs,t,z,hc,hn⟩:=hr.glob (Tryz.laysInt_ren.g 17) powR (by rw[hG];exact powG);unfold Lib.TabIs World.var?;rw[Tryz.laysInt.m17];simp only[Option.bind_some,hc]
 cases hv with
 | R6 _ _ _ _ f h1 h2 =>
  refine congrArg some (Array.ext' ?_);refine List.ext_getElem? fun j=>?_;by_cases hj:j<powR.length
  ·
   obtain⟨d,hd⟩:∃d,powR[j]?=some d:=⟨_,Lg hj⟩;have e1:=(h1 j d hd (Nat.zero_le _)).1;have e2:=h2 j d hd (Nat.zero_le _);simp only[Nat.zero_add,Nat.sub_zero]at e1;generalize f j=u at e1 e2
   have e3:cs.toList[j]?=some u:=by
    rw[Array.getElem?_toList];simpa [World.cell?,hc] using e1
   rw[e3];simp only[powR,Lp_,Om]at hd;obtain⟨n,uG,rfl⟩:=hd;cases e2;simp[uG]
  rw[List.getElem?_eq_none (by simp;omega),List.getElem?_eq_none (by simpa [powR] using hj)]
theorem ext_ok:ExtOK Tryz.prog GT LE:=by
 intro f ds r h S w ρ vs hG hr hv;unfold LE at h;split at h
 ·
  rename_i s n;split at h
  ·
   rename_i hc;injection h with h;subst h
   cases hv with
   | cons h1 hv =>
    cases h1
    cases hv with
    | cons h1 hv =>
     cases h1;cases hv;obtain⟨c,rfl⟩:∃c:Nat,n=c:=⟨n.toNat,by omega⟩;simp only[Int.toNat_natCast]at hc ⊢;have xP:=Any.strings_Repeat Tryz.laysRepeat extra s c w (by omega) hc.2.2;rw[fRepeat]at xP;refine⟨enters_of Tryz.func62 (by kernel_rfl) rfl _ w,xP.mono fun e w' ⟨he,hb⟩=>⟨_,he,below_post hr hb fun _ _=>?_⟩⟩;rw[repB_eq];exact .str _
  cases h
 ·
  rename_i n;split at h
  ·
   rename_i hc;injection h with h;subst h
   cases hv with
   | cons h1 hv =>
    cases h1
    cases hv with
    | cons h1 hv =>
     cases h1;cases hv;have xP:=Any.internal_strconv_FormatInt_10 Tryz.laysInt n (by omega) (by omega) w (tab_ok hG hr);rw[fFormat]at xP;refine⟨enters_of Tryz.func89 (by kernel_rfl) rfl _ w,xP.mono fun e w' ⟨he,k,os,hw⟩=>⟨_,he,below_post hr (hw▸Lib.below_grow _ w (Nat.le_refl _) k os) fun _ _=>?_⟩⟩
     have:Lib.itoa n=K9 20 n.toNat:=by
      rw[Lib.itoa,if_neg (by omega)];exact decF_eq 19 _ (by omega)
     rw[this];exact .str _
  cases h
 cases h
theorem LP_ok:PrgOK Tryz.prog GT LP:=⟨LP_fns,ext_ok,LP_dfn⟩
set_option linter.unusedSimpArgs false
def mkS (l:List UInt8):ByteArray:=⟨l.toArray⟩
theorem Db(l:List UInt8):(mkS l).size=l.length:=by simp[mkS,ByteArray.size]
theorem size_data(b:ByteArray):b.size=b.data.toList.length:=rfl
theorem toList_go(b:ByteArray):∀(k i:Nat) (r:List UInt8),b.size-i=k→ByteArray.toList.loop b i r=r.reverse++b.data.toList.drop i
 | 0,i,r,h=>by
  rw[ByteArray.toList.loop,if_neg (by omega),List.drop_eq_nil_of_le (by rw[size_data]at h;omega)];simp
 | k+1,i,r,h=>by
  rw[ByteArray.toList.loop,if_pos (by omega),toList_go b k (i+1) _ (by omega)];have hi:i<b.data.toList.length:=by rw[size_data]at h;omega
  rw[List.drop_eq_getElem_cons hi];have yG:i<b.data.size:=hi;simp[ByteArray.get!,getElem!_pos b.data i yG]
theorem Dy(l:List UInt8):(mkS l).toList=l:=by
 have:=toList_go (mkS l) _ 0 [] rfl;simpa [ByteArray.toList,mkS] using this
theorem Q5(a b:List UInt8):mkS a++mkS b=mkS (a++b):=by
 apply ByteArray.ext;simp[mkS,ByteArray.data_append]
theorem P8(l:List UInt8)(a b:Nat):(mkS l).extract a b=mkS ((l.drop a).take (b-a)):=by
 apply ByteArray.ext;apply Array.ext';simp only[mkS,ByteArray.data_extract,List.extract_toArray,List.extract_eq_take_drop]
theorem Jo(l:List UInt8)(i:Nat):(mkS l)[i]?=l[i]?:=by
 by_cases h:i<l.length
 ·
  rw[getElem?_pos (mkS l) i (by rw[Db];exact h),getElem?_pos l i h];simp[mkS,ByteArray.getElem_eq_getElem_data]
 rw[getElem?_neg (mkS l) i (by rw[Db];exact h),getElem?_neg l i h]
theorem En:(⟨#[]⟩:ByteArray).toList=[]:=Dy []
theorem zx:(type_of% @Dy)∧(type_of% @En)∧(type_of% @Db):=⟨@Dy,@En,@Db⟩
def bR (l:List UInt8):List (List D):=l.map fun b=>[.int .u8 b.toNat]
theorem bR_len(l:List UInt8):(bR l).length=l.length:=by simp[bR]
theorem bytesOf_bR:∀l:List UInt8,bytesOf (bR l)=some l
 | []=>rfl
 | b::l=>by
  have:=bytesOf_bR l;simp only[bR,List.map_cons]at this ⊢;simp only[bytesOf,this,Option.map_some,Int.toNat_natCast,UInt8.ofNat_toNat]
def Ew (c:UInt8):Bool:=decide (48≤c.toNat)&&decide (c.toNat≤57)
def digTab:List D:=(List.range 256).map fun i=>.bool (decide (48≤i)&&decide (i≤57))
theorem digTab_at(c:UInt8):digTab[c.toNat]?=some (.bool (Ew c)):=by
 have:c.toNat<256:=c.toNat_lt;simp[digTab,Ew,this]
def Jz (l:List UInt8):List UInt8:=(l.reverse.dropWhile Ew).reverse
def trimD (l:List UInt8):List UInt8:=(Jz l).dropWhile Ew
theorem rtrim_snoc(l:List UInt8)(c:UInt8):Jz (l++[c])=if Ew c then Jz l else l++[c]:=by
 simp only[Jz,List.reverse_append,List.reverse_cons,List.reverse_nil,List.nil_append,List.singleton_append,List.dropWhile_cons];split<;>simp
theorem Gy{α:Type}{p:α→Bool}:∀{l:List α},l.dropWhile p=[]↔l.all p=true
 | []=>by simp
 | a :: l => by
  rw[List.dropWhile_cons];by_cases h:p a=true
  ·
   simp[h,Gy (l:=l)]
  simp[h]
theorem trimD_nil(l:List UInt8):(trimD l==[])=l.all Ew:=by
 rw[Bool.eq_iff_iff];simp only[beq_iff_eq,trimD];rw[Gy];constructor
 ·
  intro h
  have h2:∀c∈l.reverse.dropWhile Ew,Ew c=true:=by
   intro c hc;exact List.all_eq_true.1 h c (by simpa [Jz] using hc)
  have h3:l.reverse.dropWhile Ew=[]:=by
   cases e:l.reverse.dropWhile Ew with
   | nil=>rfl
   | cons a r =>
    have h4:=List.head?_dropWhile_not Ew l.reverse;rw[e]at h4 h2;simp only[List.head?_cons]at h4;rw[h2 a List.mem_cons_self]at h4;simp at h4
  rw[Gy]at h3;simpa using h3
 intro h;have:l.reverse.dropWhile Ew=[]:=by rw[Gy];simpa using h
 simp[Jz,this]
def Cm (l:List UInt8):List UInt8:=l.dropWhile (·==48)
def strip (l:List UInt8):List UInt8:=if Cm l=[] then [48] else Cm l
def nz (l:List UInt8):Bool:=Cm l != []
theorem Md(l:List UInt8):Cm (Cm l)=Cm l:=by
 unfold Cm
 cases e:l.dropWhile (·==48) with
 | nil=>rfl
 | cons a r =>
  have h4:=List.head?_dropWhile_not (fun x:UInt8=>x==48) l;rw[e]at h4;simp only[List.head?_cons]at h4;rw[List.dropWhile_cons,if_neg (by simpa using h4)]
theorem strip_idem(l:List UInt8):strip (strip l)=strip l:=by
 unfold strip;by_cases h:Cm l=[]
 ·
  rw[if_pos h];rfl
 rw[if_neg h,Md,if_neg h]
theorem Gx(l:List UInt8):∃k,l=List.replicate k 48++Cm l:=by
 induction l with
 | nil=>exact⟨0,rfl⟩
 | cons a l ih =>
  unfold Cm at ih ⊢;rw[List.dropWhile_cons];by_cases h:(a==48)=true
  ·
   obtain⟨k,hk⟩:=ih;rw[if_pos h];have:a=48:=by simpa using h
   refine⟨k+1,?_⟩;rw[List.replicate_succ,List.cons_append,←hk,this]
  rw[if_neg h];exact⟨0,rfl⟩
theorem strip_len(l:List UInt8)(h:l≠[]):(strip l).length≤l.length∧0<(strip l).length:=by
 unfold strip;obtain⟨k,hk⟩:=Gx l;have hl:=congrArg List.length hk;simp at hl;have:0<l.length:=List.length_pos_iff.2 h;split
 ·
  simp;omega
 rename_i h0;have:=List.length_pos_iff.2 h0;omega
theorem strip_dig(l:List UInt8)(h:l.all Ew=true):(strip l).all Ew=true:=by
 unfold strip;split
 ·
  rfl
 obtain⟨k,hk⟩:=Gx l;rw[hk,List.all_append,Bool.and_eq_true]at h;exact h.2
def pad (n:Nat) (l:List UInt8):List UInt8:=List.replicate (n-l.length) 48++l
theorem pad_strip(l:List UInt8)(n:Nat)(h:l≠[])(h1:(strip l).length≤n)(h2:n≤l.length):l=List.replicate (l.length-n) 48++pad n (strip l):=by
 obtain⟨k,hk⟩:=Gx l;have hl:=congrArg List.length hk;simp at hl;unfold strip at h1 ⊢;unfold pad;by_cases h0:Cm l=[]
 ·
  rw[if_pos h0]at h1 ⊢;rw[h0,List.append_nil]at hk;rw[h0]at hl;simp at hl h1;rw[←Lo_,List.replicate_append_replicate,show ([48]:List UInt8)=List.replicate 1 48 from rfl,List.replicate_append_replicate];simp only[List.length_replicate];rw[show l.length-n+(n-1)+1=k by omega];exact hk
 rw[if_neg h0]at h1 ⊢;rw[←Lo_,List.replicate_append_replicate];rw[show l.length-n+(n-(Cm l).length)=k by omega];exact hk
section
variable {call:Bf} {vals env:List D} {S S':St} {K:List D→St→Prop} {os:List Ri} {l:LOp} {args:List Rj} {od:List Bool} {ho:Option Nat} {r:D} {wr:Bool} {n:Nat} {news:List (TypeId × List D)} {fps:List FP} {fp:FP} {Q:Rl→List D→St→Prop} {env':List D}
theorem xo0(h:OW call os (r::vals) env S' K)(hx:Az call l (args.map (opd vals env)) S=some (r,S',wr):=by simp only[zo,Cb,zm]<;>exact rfl):OW call (⟨l,args,none,od,ho⟩::os) vals env S K:=Ac hx h
theorem xo1(h:OW call os (r::vals) env S' K)(hx:Az call l (args.map (opd vals env)) S=some (r,S',wr):=by simp only[zl,zm,zd,Au,List.take,List.drop]<;>exact rfl):OW call (⟨l,args,none,od,ho⟩::os) vals env S K:=Ac hx h
theorem xo2(h:OW call os (r::vals) env S' K)(hx:Az call l (args.map (opd vals env)) S=some (r,S',wr):=by simp only[zo,Cg]<;>exact rfl):OW call (⟨l,args,none,od,ho⟩::os) vals env S K:=Ac hx h
theorem xo3(h:OW call os (r::vals) env S' K)(hx:Az call l (args.map (opd vals env)) S=some (r,S',wr):=by simp only[zo]<;>exact rfl):OW call (⟨l,args,none,od,ho⟩::os) vals env S K:=Ac hx h
theorem xo4(hl:l.loud=false)(hn:od.length=fps.length)(h:DW call n news os (Ab::fps) (r::vals) env S' K)(hx:Az call l (args.map (opd vals env)) S=some (r,S',wr):=by simp only[zo,Cb,zm]<;>exact rfl):DW call n news (⟨l,args,none,od,none⟩::os) fps vals env S K:=A8 hx hl hn h
theorem xo5(hl:l.loud=false)(hn:od.length=fps.length)(h:DW call n news os (Ab::fps) (r::vals) env S' K)(hx:Az call l (args.map (opd vals env)) S=some (r,S',wr):=by simp only[zo]<;>exact rfl):DW call n news (⟨l,args,none,od,none⟩::os) fps vals env S K:=A8 hx hl hn h
theorem xo6(h:OW call os (r::vals) env S' K)(hx:Az call l (args.map (opd vals env)) S=some (r,S',wr):=by simp only[zl,zm,zc]<;>exact rfl):OW call (⟨l,args,none,od,ho⟩::os) vals env S K:=Ac hx h
theorem xo7(h:OW call os (r::vals) env S' K)(hx:Az call l (args.map (opd vals env)) S=some (r,S',wr):=by simp only[zo,Gn,overlay,zc,List.take,List.drop,Nat.reduceAdd,Nat.reduceLeDiff,zm]<;>exact rfl):OW call (⟨l,args,none,od,ho⟩::os) vals env S K:=Ac hx h
theorem xo8(h:OW call os (r::vals) env S' K)(hx:Az call l (args.map (opd vals env)) S=some (r,S',wr):=by simp only[zl,zm]<;>exact rfl):OW call (⟨l,args,none,od,ho⟩::os) vals env S K:=Ac hx h
theorem xo9(hl:l.loud=false)(hn:od.length=fps.length)(h:DW call n news os (Ab::fps) (r::vals) env S' K)(hx:Az call l (args.map (opd vals env)) S=some (r,S',wr):=by simp only[zo,Cg]<;>exact rfl):DW call n news (⟨l,args,none,od,none⟩::os) fps vals env S K:=A8 hx hl hn h
theorem Ot(h:OW call os (r::vals) env S' K)(hx:Az call l (args.map (opd vals env)) S=some (r,S',wr):=by simp only[zl,zm,Ca,overlay,Cn,zs,zc,zf,List.take,List.drop]<;>exact rfl):OW call (⟨l,args,none,od,ho⟩::os) vals env S K:=Ac hx h
theorem Oq(h:OW call os (r::vals) env S' K)(hx:Az call l (args.map (opd vals env)) S=some (r,S',wr):=by simp only[zo,Cg,Int.reduceLT]<;>exact rfl):OW call (⟨l,args,none,od,ho⟩::os) vals env S K:=Ac hx h
theorem Oo(hl:l.loud=false)(hn:od.length=fps.length)(h:DW call n news os (Ab::fps) (r::vals) env S' K)(hx:Az call l (args.map (opd vals env)) S=some (r,S',wr):=by simp only[zo,Cb,zm,flG,xQ]<;>exact rfl):DW call n news (⟨l,args,none,od,none⟩::os) fps vals env S K:=A8 hx hl hn h
theorem Qy(h:OW call os (r::vals) env S' K)(hx:Az call l (args.map (opd vals env)) S=some (r,S',wr):=by simp only[zo,eqnilD]<;>exact rfl):OW call (⟨l,args,none,od,ho⟩::os) vals env S K:=Ac hx h
theorem xo14(yu:Ag n news ⟨l,args,none,od,ho⟩ fps fp S'=true)(h:DW call n news os (fp::fps) (r::vals) env S' K)(hx:Az call l (args.map (opd vals env)) S=some (r,S',wr):=by simp only[zl,zm,zd,Au,List.take,List.drop]<;>exact rfl)(hf:Ai n ⟨l,args,none,od,ho⟩ (args.map (opd vals env)) r wr=fp:=by simp only[Ai,zo,zq]<;>exact rfl):DW call n news (⟨l,args,none,od,ho⟩::os) fps vals env S K:=Aw hx hf yu h
theorem xo15(h:OW call os (r::vals) env S' K)(hx:Az call l (args.map (opd vals env)) S=some (r,S',wr):=by simp only[zo,Hl]<;>exact rfl):OW call (⟨l,args,none,od,ho⟩::os) vals env S K:=Ac hx h
theorem xo16(h:OW call os (r::vals) env S' K)(hx:Az call l (args.map (opd vals env)) S=some (r,S',wr):=by simp only[zo,Gj,Db]<;>exact rfl):OW call (⟨l,args,none,od,ho⟩::os) vals env S K:=Ac hx h
theorem xo17(h:OW call os (r::vals) env S' K)(hx:Az call l (args.map (opd vals env)) S=some (r,S',wr):=by simp only[zl,zm,Cr,List.replicate,Ay,Cn,zs,zc,zf]<;>exact rfl):OW call (⟨l,args,none,od,ho⟩::os) vals env S K:=Ac hx h
theorem xo18(h:OW call os (r::vals) env S' K)(hx:Az call l (args.map (opd vals env)) S=some (r,S',wr):=by simp only[zo,E8,zm]<;>exact rfl):OW call (⟨l,args,none,od,ho⟩::os) vals env S K:=Ac hx h
theorem xo19(h:OW call os (r::vals) env S' K)(hx:Az call l (args.map (opd vals env)) S=some (r,S',wr):=by simp only[zo,lenD_nils]<;>exact rfl):OW call (⟨l,args,none,od,ho⟩::os) vals env S K:=Ac hx h
theorem xo20(h:OW call os (r::vals) env S' K)(hx:Az call l (args.map (opd vals env)) S=some (r,S',wr):=by simp only[zo,Lz,Ls_]<;>exact rfl):OW call (⟨l,args,none,od,ho⟩::os) vals env S K:=Ac hx h
theorem xo21(hl:l.loud=false)(hn:od.length=fps.length)(h:DW call n news os (Ab::fps) (r::vals) env S' K)(hx:Az call l (args.map (opd vals env)) S=some (r,S',wr):=by simp only[zo,E8,zm]<;>exact rfl):DW call n news (⟨l,args,none,od,none⟩::os) fps vals env S K:=A8 hx hl hn h
theorem xo22(h:OW call os (r::vals) env S' K)(hx:Az call l (args.map (opd vals env)) S=some (r,S',wr):=by simp only[opd,zv,Az,LOp.loud,aop,lop,if_true,zm,zc,zf,Bool.and_self,Nat.reduceAdd]<;>exact rfl):OW call (⟨l,args,none,od,ho⟩::os) vals env S K:=Ac hx h
theorem xo23(h:OW call os (r::vals) env S' K)(hx:Az call l (args.map (opd vals env)) S=some (r,S',wr):=by simp only[zo,Lz]<;>exact rfl):OW call (⟨l,args,none,od,ho⟩::os) vals env S K:=Ac hx h
theorem xo24(h:OW call os (r::vals) env S' K)(hx:Az call l (args.map (opd vals env)) S=some (r,S',wr):=by simp only[zo,Cg,xQ]<;>exact rfl):OW call (⟨l,args,none,od,ho⟩::os) vals env S K:=Ac hx h
theorem xo25(h:OW call os (r::vals) env S' K)(hx:Az call l (args.map (opd vals env)) S=some (r,S',wr):=by simp only[zo,Cb,zm,shN]<;>exact rfl):OW call (⟨l,args,none,od,ho⟩::os) vals env S K:=Ac hx h
theorem xo26(h:OW call os (r::vals) env S' K)(hx:Az call l (args.map (opd vals env)) S=some (r,S',wr):=by simp only[zo,Cg,shN,List.cons_append,List.nil_append]<;>exact rfl):OW call (⟨l,args,none,od,ho⟩::os) vals env S K:=Ac hx h
theorem xo27(h:OW call os (r::vals) env S' K)(hx:Az call l (args.map (opd vals env)) S=some (r,S',wr):=by simp only[zl,zm,C9,Int.toNat_zero,Int.le_refl]<;>exact rfl):OW call (⟨l,args,none,od,ho⟩::os) vals env S K:=Ac hx h
theorem xo28(h:OW call os (r::vals) env S' K)(hx:Az call l (args.map (opd vals env)) S=some (r,S',wr):=by simp only[zl,zm,Cr,List.replicate,Ay]<;>exact rfl):OW call (⟨l,args,none,od,ho⟩::os) vals env S K:=Ac hx h
theorem xo29(h:OW call os (r::vals) env S' K)(hx:Az call l (args.map (opd vals env)) S=some (r,S',wr):=by simp only[zl,zm,Ca,overlay,zs,zc,zf,List.take,List.drop]<;>exact rfl):OW call (⟨l,args,none,od,ho⟩::os) vals env S K:=Ac hx h
theorem xo30(h:OW call os (r::vals) env S' K)(hx:Az call l (args.map (opd vals env)) S=some (r,S',wr):=by simp only[zo,Cb,zm,flG,xQ]<;>exact rfl):OW call (⟨l,args,none,od,ho⟩::os) vals env S K:=Ac hx h
theorem xo31(h:OW call os (r::vals) env S' K)(hx:Az call l (args.map (opd vals env)) S=some (r,S',wr):=by simp only[zl,zm,zd,Au,List.take,List.drop,shN]<;>exact rfl):OW call (⟨l,args,none,od,ho⟩::os) vals env S K:=Ac hx h
theorem xo32(h:OW call os (r::vals) env S' K)(hx:Az call l (args.map (opd vals env)) S=some (r,S',wr):=by simp only[zo,Hl,shN,List.cons_append,List.nil_append]<;>exact rfl):OW call (⟨l,args,none,od,ho⟩::os) vals env S K:=Ac hx h
theorem xo33(h:OW call os (r::vals) env S' K)(hx:Az call l (args.map (opd vals env)) S=some (r,S',wr):=by simp only[zl,zm,zd,Au,List.take,List.drop,yM]<;>exact rfl):OW call (⟨l,args,none,od,ho⟩::os) vals env S K:=Ac hx h
theorem xo34(h:OW call os (r::vals) env S' K)(hx:Az call l (args.map (opd vals env)) S=some (r,S',wr):=by simp only[zl,zm,zd,Au,List.take,List.drop,yV]<;>exact rfl):OW call (⟨l,args,none,od,ho⟩::os) vals env S K:=Ac hx h
theorem xo35(h:OW call os (r::vals) env S' K)(hx:Az call l (args.map (opd vals env)) S=some (r,S',wr):=by simp only[zl,zm,zd,Au,List.take,List.drop,zz6]<;>exact rfl):OW call (⟨l,args,none,od,ho⟩::os) vals env S K:=Ac hx h
theorem xo36(yu:Ag n news ⟨l,args,none,od,ho⟩ fps fp S'=true)(h:DW call n news os (fp::fps) (r::vals) env S' K)(hx:Az call l (args.map (opd vals env)) S=some (r,S',wr):=by simp only[zl,zm,zd,Au,List.take,List.drop,yM]<;>exact rfl)(hf:Ai n ⟨l,args,none,od,ho⟩ (args.map (opd vals env)) r wr=fp:=by simp only[Ai,zo,zq]<;>exact rfl):DW call n news (⟨l,args,none,od,ho⟩::os) fps vals env S K:=Aw hx hf yu h
theorem xo37(h:OW call os (r::vals) env S' K)(hx:Az call l (args.map (opd vals env)) S=some (r,S',wr):=by simp only[zl,zm,Cr,List.replicate,Ay,D7,List.replicate,newAt]<;>exact rfl):OW call (⟨l,args,none,od,ho⟩::os) vals env S K:=Ac hx h
theorem xo38(h:OW call os (r::vals) env S' K)(hx:Az call l (args.map (opd vals env)) S=some (r,S',wr):=by simp only[zo,Gn,overlay,zc,List.take,List.drop,Nat.reduceAdd,Nat.reduceLeDiff,zm,shT,shN]<;>exact rfl):OW call (⟨l,args,none,od,ho⟩::os) vals env S K:=Ac hx h
theorem xo39(hl:l.loud=false)(hn:od.length=fps.length)(h:DW call n news os (Ab::fps) (r::vals) env S' K)(hx:Az call l (args.map (opd vals env)) S=some (r,S',wr):=by simp only[zo,Gn,overlay,zc,List.take,List.drop,Nat.reduceAdd,Nat.reduceLeDiff,zm,shT]<;>exact rfl):DW call n news (⟨l,args,none,od,none⟩::os) fps vals env S K:=A8 hx hl hn h
theorem xo40(hl:l.loud=false)(hn:od.length=fps.length)(h:DW call n news os (Ab::fps) (r::vals) env S' K)(hx:Az call l (args.map (opd vals env)) S=some (r,S',wr):=by simp only[zo,Gn,overlay,zc,List.take,List.drop,Nat.reduceAdd,Nat.reduceLeDiff,zm,shT,shN]<;>exact rfl):DW call n news (⟨l,args,none,od,none⟩::os) fps vals env S K:=A8 hx hl hn h
theorem xo41(hl:l.loud=false)(hn:od.length=fps.length)(h:DW call n news os (Ab::fps) (r::vals) env S' K)(hx:Az call l (args.map (opd vals env)) S=some (r,S',wr):=by simp only[zo,Gn,overlay,zc,List.take,List.drop,Nat.reduceAdd,Nat.reduceLeDiff,zm]<;>exact rfl):DW call n news (⟨l,args,none,od,none⟩::os) fps vals env S K:=A8 hx hl hn h
theorem Ak{b:Rk}(h:CW call b Q env S)(he:env'=env:=by simp only[ze]<;>exact rfl):SeqK call b Q .normal env' S:=Bz he h
theorem Cc{c:Rj}{a b:Rk}(h:CW call b Q env S)(hc:opd [] env c=.bool false:=by simp only[opd,zv]<;>rfl):CW call (.cond c a b) Q env S:=Di hc h
theorem Ga{c:Rj}{a b:Rk}(h:CW call a Q env S)(hc:opd [] env c=.bool true:=by simp only[opd,zv]<;>rfl):CW call (.cond c a b) Q env S:=Ik hc h
theorem Gu{ops:List Ri}{exps:List (Nat × Nat)}{news:List (TypeId × List D)}{tl:List D}{S0:St}(h:DW call S.heap.length news ops [] tl env S0 (fun vals S'=>Q .normal (exports exps vals env) S'))(ht:Ce S.heap.length news.length=tl:=by simp only[Ce,zw]<;>exact rfl)(hS:(⟨S.heap++news.map Ed,S.low⟩:St)=S0:=by simp only[zw]<;>exact rfl):CW call (.drawn ops exps news) Q env S:=Du ht hS h
theorem Ae{b:Rk}{ops:List Ri}{exps:List (Nat × Nat)}(h:OW call ops [] env S (fun vals S'=>SeqK call b Q .normal (exports exps vals env) S')):CW call (.seq (.region ops exps) b) Q env S:=Ao (Br h)
theorem M7(hx:Az call l (args.map (opd vals env)) S=some (r,S',wr))(yu:Ag n news ⟨l,args,none,od,ho⟩ fps fp S'=true)(h:DW call n news os (fp::fps) (r::vals) env S' K)(hf:Ai n ⟨l,args,none,od,ho⟩ (args.map (opd vals env)) r wr=fp:=by simp only[Ai,zo,zq]<;>exact rfl):DW call n news (⟨l,args,none,od,ho⟩::os) fps vals env S K:=Aw hx hf yu h
theorem dw_g(hx:Az call l (args.map (opd vals env)) S=some (r,S',wr))(hf:Ai n ⟨l,args,none,od,ho⟩ (args.map (opd vals env)) r wr=fp:=by simp only[Ai,zo,zq]<;>exact rfl)(yu:Ag n news ⟨l,args,none,od,ho⟩ fps fp S'=true)(h:DW call n news os (fp::fps) (r::vals) env S' K):DW call n news (⟨l,args,none,od,ho⟩::os) fps vals env S K:=Aw hx hf yu h
theorem Ej{vt:List D}(d:Nat){b:Bool}(h:OW call os vt env S K)(hg:vals.getD d .undef=.bool b:=by simp only[zv]<;>rfl)(ht:vals.set d (.bool b)=vt:=by simp only[zn]<;>exact rfl):OW call os vals env S K:=Lj d hg ht h
theorem Ij{vt:List D}(d:Nat){b:Bool}(h:DW call n news os fps vt env S K)(hg:vals.getD d .undef=.bool b:=by simp only[zv]<;>rfl)(ht:vals.set d (.bool b)=vt:=by simp only[zn]<;>exact rfl):DW call n news os fps vals env S K:=Oc d hg ht h
end
set_option maxRecDepth 10000
theorem loopN_mono{f:List D→St→Option (Rl × List D × St)}:∀{k:Nat} {env:List D} {S:St} {r:Rl × List D × St},Fq f k env S=some r→Fq f (k+1) env S=some r
 | 0,env,S,r,h=>by simp[Fq]at h
 | k + 1, env, S, r, h => by
  rw[Fq]at h ⊢
  cases e:f env S with
  | none=>rw[e]at h;simp at h
  | some x =>
   obtain⟨ex,env1,S1⟩:=x;rw[e]at h
   cases ex with
   | normal=>exact loopN_mono h
   | ret=>exact h
   | exit i=>exact h
def CL (call:Bf) (k:Nat) (c:Rk) (Q:Rl→List D→St→Prop) (env:List D) (S:St):Prop:=∃e env' S',Fq (Bh call NN c) k env S=some (e,env',S')∧Q e env' S'
theorem loopN_le{f:List D→St→Option (Rl × List D × St)}{k:Nat}{env:List D}{S:St}{r:Rl × List D × St}(h:Fq f k env S=some r)(j:Nat):Fq f (k+j) env S=some r:=by
 induction j with
 | zero=>exact h
 | succ j ih=>exact loopN_mono ih
section
variable {call:Bf} {Q:Rl→List D→St→Prop} {env env':List D} {S:St} {c:Rk} {k:Nat}
def LuK (call:Bf) (k:Nat) (c:Rk) (Q:Rl→List D→St→Prop):Rl→List D→St→Prop
 | .normal,env,S=>CL call k c Q env S
 | e,env,S=>Q e env S
theorem Qz(h:env=env')(h2:CL call k c Q env' S):LuK call k c Q .normal env S:=by subst h;exact h2
theorem Nu{i:Nat}(h:Q (.exit i) env S):LuK call k c Q (.exit i) env S:=h
theorem Cy(h:CW call c (LuK call k c Q) env S):CL call (k+1) c Q env S:=by
 obtain⟨e,env',S',h1,h2⟩:=h;unfold CL;simp only[Fq,h1]
 cases e with
 | normal=>exact h2
 | ret=>exact⟨_,_,_,rfl,h2⟩
 | exit i=>exact⟨_,_,_,rfl,h2⟩
theorem Dp(h:CL call 1000 c Q env S):CW call (.loop c) Q env S:=by
 obtain⟨e,env',S',h1,h2⟩:=h;refine⟨e,env',S',?_,h2⟩;simp only[Bh];have:=loopN_le h1 (18446744073709551616-1000);exact this
end
def CutK (I:List D→St→Prop):Rl→List D→St→Prop
 | .normal,env,S=>I env S
 | _,_,_=>False
theorem ck_n{I:List D→St→Prop}{env env':List D}{S:St}(h:env=env')(h2:I env' S):CutK I .normal env S:=by subst h;exact h2
theorem cw_cut{call:Bf}{Q:Rl→List D→St→Prop}{env:List D}{S:St}{a b:Rk}(I:List D→St→Prop)(h1:CW call a (CutK I) env S)(h2:∀env S,I env S→CW call b Q env S):CW call (.seq a b) Q env S:=by
 refine Ao (cw_mono h1 ?_);intro e env' S' h
 cases e with
 | normal=>exact h2 env' S' h
 | ret=>exact h.elim
 | exit i=>exact h.elim
theorem De{L:Prg}{d:Nat}{f:FuncId}{F:Rh}{args args' env0:List D}{S:St}{P:D × St × Bool→Prop}(hF:L.fns f=some F)(ha:(if L.raw f then some args else Ay S.heap.length S.heap args)=some args')(hl:args'.length=F.nargs)(hp:(L.pure f&&args'.all D.Rp)=false)(he:(F.slots.map fun s=>args'.getD s .undef)=env0)(hd:0<d)
  (hb:∀d',d=d'+1→CW (Bl L NN d') F.body (fun e env' S1=>∃x,P x∧FinK L f F S x e env' S1) env0 ⟨S.heap,S.heap.length⟩) (hdp:L.deep f=false:=by rfl) (hE:L.ext f args=none:=by rfl) (wK:L.dfs f=false:=by rfl):∃x,P x∧Bl L NN d f args S=some x:=by
 obtain⟨d',rfl⟩:∃d',d=d'+1:=⟨d-1,by omega⟩;obtain⟨e,env',S1,h1,x,hP,h2⟩:=hb d' rfl;refine⟨x,hP,Ee hF ha hl hp he (by omega) (fun d'' e'=>?_) hdp hE wK⟩;obtain rfl:d'=d'':=by omega
 subst he;exact⟨e,env',S1,h1,h2⟩
set_option maxHeartbeats 4000000
theorem str_from(z:Nat)(l:List UInt8)(k:Nat)(i:Int)(hi:i=k)(h:k≤l.length):pop (.slice true z true false false) [.str (mkS l),.int .i64 i]=some (.str (mkS (l.drop k))):=by
 subst hi;simp only[pop,C8,D5,Ie,Gh,Db];rw[if_pos (by omega)];simp only[Int.toNat_natCast];rw[if_pos ⟨h,Nat.le_refl _⟩];simp only[Option.map_some,P8];rw[List.take_of_length_le (by simp)]
theorem str_to(z:Nat)(l:List UInt8)(k:Nat)(i:Int)(hi:i=k)(h:k≤l.length):pop (.slice true z false true false) [.str (mkS l),.int .i64 i]=some (.str (mkS (l.take k))):=by
 subst hi;simp only[pop,C8,D5,Ie,Gh,Db];rw[if_pos (by omega)];simp only[Int.toNat_natCast];rw[if_pos ⟨Nat.zero_le _,h⟩];simp only[Option.map_some,P8,List.drop_zero,Nat.sub_zero]
theorem eqNil(l:List UInt8):(l==[])=true↔l=[]:=by simp
def lskip (b:UInt8) (l:List UInt8):List UInt8:=l.dropWhile (·==b)
theorem u8beq{c b:UInt8}(h:((c.toNat:Int)==(b.toNat:Int))=true):(c==b)=true:=by
 rw[beq_iff_eq]at h ⊢;exact UInt8.toNat_inj.1 (by omega)
theorem u8bne{c b:UInt8}(h:((c.toNat:Int)==(b.toNat:Int))=false):¬(c==b)=true:=by
 rw[beq_eq_false_iff_ne]at h;intro e;rw[beq_iff_eq]at e;subst e;exact h rfl
theorem trimLx_run{d:Nat}(hd:1≤d)(S:St)(b:UInt8)(l:List UInt8)(hl:l.length≤1000000):Bl LP NN d 175 [.str (mkS l),.int .u8 (b.toNat:Nat)] S=some (.str (mkS (lskip b l)),S,false):=by
 refine rq (F:=F175) rfl (by simp only[LP,Ay,zs]<;>exact rfl) (by simp only[F175,zv]<;>exact rfl) ?_;rintro d rfl;refine Ae (Bj (Aa (Ak ?_)));refine Ao (Be (Fv (fun n env S'=>∃(l':List UInt8) (u3:D),lskip b l'=lskip b l∧l'.length=n∧S'=⟨[],0⟩∧env=[.str (mkS l'),.int .u8 (b.toNat:Nat),.str ⟨#[]⟩,u3]) (l.length) (by omega) (⟨l,_,rfl,rfl,rfl,rfl⟩) ?_));rintro n env S' ⟨l',u3,hl',rfl,rfl,rfl⟩;refine Ao (Ae (Al rfl (xo16 ?_)));refine xo2 ?_;apply Ar rfl;refine Km 0 (by simp only[zv]<;>exact rfl) (by simp only[zn]<;>exact rfl) (by simp only[zn]<;>exact rfl) (fun hgA=>?_) (fun hgA=>?_)
 ·
  obtain⟨c,l'',rfl⟩:∃c l'',l'=c::l'':=by
   cases l' with
   | nil=>simp at hgA
   | cons c l=>exact⟨c,l,rfl⟩
  rename List UInt8=>l'
  refine Bb rfl (Al rfl (Bb rfl (Ac (by simp only[zo,Ha,zm,Jo]<;>exact rfl) ?_)));refine Bb rfl (Al rfl (Bb rfl (xo2 ?_)));refine xo3 ?_;refine Aa (Ak ?_);refine Ep (by simp only[opd,zv]<;>exact rfl) (fun wo=>?_) (fun wo=>?_)
  ·
   have h48:(c==b)=true:=u8beq wo;refine Bc (Bz rfl (Be (Br (Al rfl (Ac (by simp only[opd,zv,Az,aop,LOp.loud,Bool.false_eq_true,if_false];rw[str_from _ _ 1 1 rfl (by simp)];exact rfl) ?_)))));refine Ar rfl (Aa (Fu (Pb (by simp only[ze]<;>exact rfl) ?_)));exact⟨l'.length,by simp,l',_,by rw[←hl',lskip,lskip,List.dropWhile_cons,if_pos h48],rfl,rfl,rfl⟩
  refine Cs (Gc (Mq (Gd (Bz rfl (Ae (Al rfl (Ar rfl (Aa (Ak ?_)))))))));apply Bp;refine⟨_,by simp only[F175,A7,Bo,Cv,zg]<;>exact rfl,?_⟩;rw[←hl',show lskip b (c::l')=c::l' by rw[lskip,List.dropWhile_cons,if_neg (u8bne wo)]];rfl
 obtain rfl:l'=[]:=by
  cases l' with
  | nil=>rfl
  | cons c l=>have:=of_decide_eq_false hgA;simp at this
 refine Da rfl rfl (Da rfl rfl (Da rfl rfl (Da rfl rfl (xo3 ?_))));refine Aa (Ak ?_);apply Di (by simp only[opd,zv]);refine Cs (Gc (Mq (Gd (Bz rfl (Ae (Al rfl (Ar rfl (Aa (Ak ?_)))))))));apply Bp;refine⟨_,by simp only[F175,A7,Bo,Cv,zg]<;>exact rfl,?_⟩;rw[←hl'];rfl
theorem trimLB_run{d:Nat}(hd:1≤d)(S:St)(l:List UInt8)(hl:l.length≤1000000):Bl LP NN d 175 [.str (mkS l),.int .u8 48] S=some (.str (mkS (Cm l)),S,false):=trimLx_run hd S 48 l hl
theorem m48:(⟨#[48]⟩:ByteArray)=mkS [48]:=rfl
theorem trimL0_run{d:Nat}(hd:2≤d)(S:St)(l:List UInt8)(hl:l.length≤1000000):Bl LP NN d 126 [.str (mkS l),.str ⟨#[48]⟩] S=some (.str (mkS (Cm l)),S,false):=by
 refine rq (F:=F126) rfl (by simp only[LP,Ay,zs]<;>exact rfl) (by simp only[F126,zv]<;>exact rfl) ?_;rintro d rfl;refine Ae (Bj (Aa (Ak ?_)));refine Ao (Ae (Al rfl (Ac (by simp only[zo,Cg,Dy,En,m48]<;>exact rfl) ?_)));apply Ar rfl;refine Km 0 (by simp only[zv]<;>exact rfl) (by simp only[zn]<;>exact rfl) (by simp only[zn]<;>exact rfl) (fun hg=>?_) (fun hg=>?_)
 ·
  refine Da rfl rfl (Da rfl rfl (Ac (by simp only[zo,m48]<;>exact rfl) ?_));refine Aa (Ak ?_);apply Ik (by simp only[opd,zv,m48]);refine Ae (Al rfl (Ar rfl (Aa (Ak ?_))));refine Bp (sk_r ?_);refine⟨_,by simp only[F126,A7,Bo,Cv,zg]<;>exact rfl,?_⟩;obtain rfl:=(eqNil l).1 hg;rfl
 refine Bb rfl (Al rfl (Bb rfl (Ac (by simp only[zo,Cg,Dy,En,m48]<;>exact rfl) ?_)));apply Ac (by simp only[zo,m48]<;>exact rfl);refine Aa (Ak ?_);apply Di (by simp only[opd,zv,m48]<;>rfl);refine Bc (Bz rfl (Ao (Ae (Al rfl (Ac (by simp only[zo,Gj,Db,List.length_cons,List.length_nil,m48]<;>exact rfl) ?_)))));apply Ac (by simp only[zo,Cg,m48]<;>exact rfl);refine Ar rfl (Lj 0 (b:=true) (by simp only[zv,m48]<;>rfl) (by simp only[zn]<;>exact rfl) ?_);refine Bb rfl (Al rfl (Bb rfl (Ac (by simp only[zo,Ha,zm,Jo,m48]<;>exact rfl) ?_)));refine Bb rfl (Ac (by simp only[zo,Cg,m48]<;>exact rfl) ?_);apply Ac (by simp only[zo,m48]<;>exact rfl);refine Aa (Ak ?_);apply Ik (by simp only[opd,zv,m48]<;>rfl);refine Ae (Al rfl (Al rfl (Ac (by simp only[zo,Ha,Jo,m48]<;>exact rfl) ?_)));apply Ac (by simp only[zo,m48];exact trimLB_run (by omega) _ l hl);refine Ar rfl (Aa (Ak ?_));refine Bp (sk_r ?_);refine⟨_,by simp only[F126,A7,Bo,Cv,zg]<;>exact rfl,?_⟩;rfl
def digOb:Rf:=⟨237,256,[digTab],0,0,false⟩
theorem c256(c:UInt8):(0:Int)≤(c.toNat:Int)∧(c.toNat:Int)<((256:Nat):Int):=by have:=c.toNat_lt;omega
theorem cont_run{d:Nat}(hd:1≤d)(S:St)(g:Nat)(xC:S.heap[g]?=some digOb)(c:UInt8):Bl LP NN d 216 [.ptr g 0 0 0,.int .u8 c.toNat] S=some (.bool (Ew c),S,false):=by
 refine Ee (F:=F216) rfl (by simp only[LP,Ay,zs]<;>exact rfl) rfl (by simp only[LP,zf,zm];try rfl) (by simp only[F216,zv]<;>exact rfl) (by omega) ?_;rintro d rfl;refine Ae (Bj (Aa (Ak ?_)));refine Ae (Al rfl (Al rfl (xo3 ?_)));apply Ac (by simp only[zo,Nc,zm,Int.toNat_natCast,Nat.mul_one,c256 c]<;>exact rfl);apply Ac (by simp only[zl,zm,zd,Au,xC,digOb,digTab_at]<;>exact rfl);refine Ar rfl (Aa (Ak ?_));apply Bp;refine⟨_,by simp only[F216,A7,Bo,Cv,zg]<;>exact rfl,?_⟩;simp[leave,LP,Rs,Ro,snap,D.Rq,D.Rp,D.free,D.Rv]
theorem trimLA_run{d:Nat}(hd:2≤d)(S:St)(g:Nat)(xC:S.heap[g]?=some digOb)(l:List UInt8)(hl:l.length≤1000000):Bl LP NN d 177 [.str (mkS l),.ptr g 0 0 0] S=some (.str (mkS (l.dropWhile Ew)),S,false):=by
 refine Ee (F:=F177) rfl (by simp only[LP,Ay,zs]<;>exact rfl) rfl (by simp only[LP,zf,zm];try rfl) (by simp only[F177,zv]<;>exact rfl) (by omega) ?_;rintro d rfl;refine Ae (Bj (Aa (Ak ?_)));refine Ao (Be (Fv (fun n env S'=>∃(l':List UInt8) (u3 u4:D),l'.dropWhile Ew=l.dropWhile Ew∧l'.length=n∧S'=⟨S.heap,S.heap.length⟩∧env=[.str (mkS l'),.ptr g 0 0 0,.str ⟨#[]⟩,u3,u4]) (l.length) (by omega) (⟨l,_,_,rfl,rfl,rfl,rfl⟩) ?_));rintro n env S' ⟨l',u3,u4,hl',rfl,rfl,rfl⟩;refine Ao (Ae (Al rfl (xo16 ?_)));refine xo2 ?_;refine Aa (Ak ?_);refine Ep (by simp only[opd,zv]<;>exact rfl) (fun zK=>?_) (fun zK=>?_)
 ·
  obtain⟨c,l'',rfl⟩:∃c l'',l'=c::l'':=by
   cases l' with
   | nil=>simp at zK
   | cons c l=>exact⟨c,l,rfl⟩
  rename List UInt8=>l'
  refine Bc (Bz rfl (Be (Ao (Ae (Al rfl (Al rfl (Ac (by simp only[zo,Ha,zm,Jo]<;>exact rfl) ?_)))))));apply Ac (by simp only[zo];exact cont_run (by omega) ⟨S.heap,S.heap.length⟩ g xC c);apply Ac (by simp only[zo,unD]<;>exact rfl);refine Aa (Ak ?_);refine Ep (by simp only[opd,zv]<;>exact rfl) (fun wo=>?_) (fun wo=>?_)
  ·
   refine Cs (Gc (bk_o rfl (Mq (Gd (Bz rfl (Ae (Al rfl (Ar rfl (Aa (Ak ?_))))))))));apply Bp;refine⟨_,by simp only[F177,A7,Bo,Cv,zg,zm]<;>exact rfl,?_⟩;rw[←hl',List.dropWhile_cons,if_neg (by simpa using wo)];simp[leave,LP,Rs,Ro,snap,D.Rq,D.Rp,D.free,D.Rv]
  refine Bc (Bz rfl (Br (Al rfl (Ac (by simp only[opd,zv,Az,aop,LOp.loud,Bool.false_eq_true,if_false];rw[str_from _ _ 1 1 rfl (by simp)];exact rfl) ?_))));refine Ar rfl (Aa (Fu (Pb (by simp only[ze]<;>exact rfl) ?_)));exact⟨l'.length,by simp,l',_,_,by rw[←hl',List.dropWhile_cons,if_pos (by simpa using wo)],rfl,rfl,rfl⟩
 obtain rfl:l'=[]:=by
  cases l' with
  | nil=>rfl
  | cons c l=>have:=of_decide_eq_false zK;simp at this
 refine Cs (Gc (Mq (Gd (Bz rfl (Ae (Al rfl (Ar rfl (Aa (Ak ?_)))))))));apply Bp;refine⟨_,by simp only[F177,A7,Bo,Cv,zg,zm]<;>exact rfl,?_⟩;rw[←hl'];simp[leave,LP,Rs,Ro,snap,D.Rq,D.Rp,D.free,D.Rv]
theorem trimRA_run{d:Nat}(hd:2≤d)(S:St)(g:Nat)(xC:S.heap[g]?=some digOb)(l:List UInt8)(hl:l.length≤1000000):Bl LP NN d 181 [.str (mkS l),.ptr g 0 0 0] S=some (.str (mkS (Jz l)),S,false):=by
 refine Ee (F:=F181) rfl (by simp only[LP,Ay,zs]<;>exact rfl) rfl (by simp only[LP,zf,zm];try rfl) (by simp only[F181,zv]<;>exact rfl) (by omega) ?_;rintro d rfl;refine Ae (Bj (Aa (Ak ?_)));refine Ao (Be (Fv (fun n env S'=>∃(l':List UInt8) (u3 u4:D),Jz l'=Jz l∧l'.length=n∧n≤l.length∧S'=⟨S.heap,S.heap.length⟩∧env=[.str (mkS l'),.ptr g 0 0 0,.str ⟨#[]⟩,u3,u4]) (l.length) (by omega) (⟨l,_,_,rfl,rfl,by omega,rfl,rfl⟩) ?_));rintro n env S' ⟨l',u3,u4,hl',rfl,yB,rfl,rfl⟩;refine Ao (Ae (Al rfl (xo16 ?_)));refine xo2 ?_;refine Aa (Ak ?_);refine Ep (by simp only[opd,zv]<;>exact rfl) (fun zK=>?_) (fun zK=>?_)
 ·
  obtain⟨l'',c,rfl⟩:∃l'' c,l'=l''++[c]:=by
   rcases List.eq_nil_or_concat l' with h | ⟨a,b,h⟩
   ·
    subst h;simp at zK
   exact⟨a,b,by simpa using h⟩
  rename List UInt8=>l'
  have hw:IntKind.i64.wrap (((l'++[c]).length:Nat)-1:Int)=(l'.length:Int):=by rw[IntKind.wrap_i64];simp at yB ⊢;omega
  have hix:(l'++[c])[l'.length]?=some c:=by simp
  have h0:(0:Int)≤(l'.length:Int):=by omega
  have zz2:=aI hw (aI hix (aI h0 (@Int.toNat_natCast)));refine Bc (Bz rfl (Be (Ao (Ae (Al rfl (Al rfl (Al rfl (xo16 ?_))))))));apply Ac (by simp only[zo,Cg,zz2]<;>exact rfl);apply Ac (by simp only[zo,Ha,zm,Jo,zz2]<;>exact rfl);apply Ac (by simp only[zo];exact cont_run (by omega) ⟨S.heap,S.heap.length⟩ g xC c);apply Ac (by simp only[zo,unD]<;>exact rfl);refine Aa (Ak ?_);refine Ep (by simp only[opd,zv]<;>exact rfl) (fun wo=>?_) (fun wo=>?_)
  ·
   refine Cs (Gc (bk_o rfl (Mq (Gd (Bz rfl (Ae (Al rfl (Ar rfl (Aa (Ak ?_))))))))));apply Bp;refine⟨_,by simp only[F181,A7,Bo,Cv,zg]<;>exact rfl,?_⟩;rw[←hl',rtrim_snoc,if_neg (by simpa using wo)];simp[leave,LP,Rs,Ro,snap,D.Rq,D.Rp,D.free,D.Rv]
  refine Bc (Bz rfl (Br (Al rfl (Al rfl (xo16 ?_)))));apply Ac (by simp only[zo,Cg,zz2]<;>exact rfl);apply Ac (by simp only[opd,zv,Az,aop,LOp.loud,Bool.false_eq_true,if_false];rw[str_to _ (l'++[c]) l'.length _ rfl (by simp),List.take_left];exact rfl);refine Ar rfl (Aa (Fu (Pb (by simp only[ze]<;>exact rfl) ?_)));exact⟨l'.length,by simp,l',_,_,by rw[←hl',rtrim_snoc,if_pos (by simpa using wo)],rfl,by simp at yB;omega,rfl,rfl⟩
 obtain rfl:l'=[]:=by
  cases l' with
  | nil=>rfl
  | cons c l=>have:=of_decide_eq_false zK;simp at this
 refine Cs (Gc (Mq (Gd (Bz rfl (Ae (Al rfl (Ar rfl (Aa (Ak ?_)))))))));apply Bp;refine⟨_,by simp only[F181,A7,Bo,Cv,zg,zm]<;>exact rfl,?_⟩;rw[←hl',show Jz []=[] from rfl];simp[leave,LP,Rs,Ro,snap,D.Rq,D.Rp,D.free,D.Rv]
theorem aset_run{d:Nat}(hd:1≤d)(S:St):Bl LP NN d 176 [.str ⟨#[48,49,50,51,52,53,54,55,56,57]⟩] S=some (.tup [.agg digTab,.bool true],S,false):=by
 obtain⟨d,rfl⟩:∃d',d=d'+1:=⟨d-1,by omega⟩
 kernel_rfl
theorem D8:(⟨#[48,49,50,51,52,53,54,55,56,57]⟩:ByteArray)=mkS [48,49,50,51,52,53,54,55,56,57]:=rfl
theorem trimDg_run{d:Nat}(hd:4≤d)(S:St)(l:List UInt8)(hl:l.length≤1000000):Bl LP NN d 197 [.str (mkS l),.str ⟨#[48,49,50,51,52,53,54,55,56,57]⟩] S=some (.str (mkS (trimD l)),S,false):=by
 refine rq (F:=F197) rfl (by simp only[LP,Ay,zs]<;>exact rfl) (by simp only[F197,zv]<;>exact rfl) ?_;rintro d rfl;refine Ae (Bj (Aa (Ak ?_)));refine Ao (Ae (Al rfl (Ac (by simp only[zo,Cg,Dy,En,D8]<;>exact rfl) ?_)));apply Ar rfl;refine Km 0 (by simp only[zv]<;>exact rfl) (by simp only[zn]<;>exact rfl) (by simp only[zn]<;>exact rfl) (fun hg=>?_) (fun hg=>?_)
 ·
  refine Da rfl rfl (Da rfl rfl (Ac (by simp only[zo,D8]<;>exact rfl) ?_));refine Aa (Ak ?_);apply Ik (by simp only[opd,zv,D8]);refine Ae (Al rfl (Ar rfl (Aa (Ak ?_))));refine Bp (sk_r ?_);refine⟨_,by simp only[F197,A7,Bo,Cv,zg]<;>exact rfl,?_⟩;obtain rfl:=(eqNil l).1 hg;rfl
 refine Bb rfl (Al rfl (Bb rfl (Ac (by simp only[zo,Cg,Dy,En,D8]<;>exact rfl) ?_)));apply Ac (by simp only[zo,D8]<;>exact rfl);refine Aa (Ak ?_);apply Di (by simp only[opd,zv,D8]<;>rfl);refine Bc (Bz rfl (Ao (Ae (Al rfl (Ac (by simp only[zo,Gj,D8]<;>exact rfl) ?_)))));apply Ac (by simp only[zo,Cg,D8]<;>exact rfl);refine Ar rfl (Lj 0 (b:=false) (by simp only[zv,D8]<;>rfl) (by simp only[zn]<;>exact rfl) ?_);refine Da rfl rfl (Da rfl rfl (Da rfl rfl (Ac (by simp only[zo,D8]<;>exact rfl) ?_)));refine Aa (Ak ?_);apply Di (by simp only[opd,zv,D8]);refine Bc (Bz rfl (Ao (Ae (Al rfl (Ac (by simp only[zo,D8];exact aset_run (by omega) _) ?_)))));refine Ar rfl (Ac (by simp only[zo,Lz,D8]<;>exact rfl) ?_);apply Ac (by simp only[zo,Lz,Ls_,D8]<;>exact rfl);apply Ac (show _=some (D.ptr 0 0 0 0,(⟨[⟨237,256,[List.replicate 256 (.bool false)],0,0,false⟩],0⟩:St),true) by kernel_rfl);apply Ac (show _=some (D.undef,(⟨[digOb],0⟩:St),true) by kernel_rfl);refine Ar rfl (Aa (Ak ?_));refine Ae (Al rfl (Aa (Ak ?_)));apply Ik (by simp only[opd,zv,D8]<;>rfl);refine Ae (Al rfl (Ac (by simp only[zo,D8];exact trimRA_run (by omega) ⟨[digOb],0⟩ 0 rfl l hl) ?_));apply Ac (by simp only[zo,D8];exact trimLA_run (by omega) ⟨[digOb],0⟩ 0 rfl (Jz l) (by rw[Jz,List.length_reverse];have:=(List.dropWhile_suffix Ew (l:=l.reverse)).length_le;rw[List.length_reverse]at this;omega));refine Ar rfl (Aa (Ak ?_));refine Bp (sk_r ?_);refine⟨_,by simp only[F197,A7,Bo,Cv,zg]<;>exact rfl,?_⟩;rfl
def Mh (l:List UInt8):Bool:=!(l==[])&&l.all Ew
theorem numb_run{d:Nat}(hd:5≤d)(S:St)(l:List UInt8)(hl:l.length≤1000000):Bl LP NN d 158 [.str (mkS l)] S=some (.bool (Mh l),S,false):=by
 refine rq (F:=F158) rfl (by simp only[LP,Ay,zs]<;>exact rfl) (by simp only[F158,zv]<;>exact rfl) ?_;rintro d rfl;refine Ae (Bj (Aa (Ak ?_)));refine Ae (Al rfl (Ac (by simp only[zo,Cg,Dy,En]<;>exact rfl) ?_));apply Ar rfl;refine Km 0 (by simp only[zv]<;>exact rfl) (by simp only[zn]<;>exact rfl) (by simp only[zn]<;>exact rfl) (fun hg=>?_) (fun hg=>?_)
 ·
  refine Bb rfl (Al rfl (Bb rfl (Ac (by simp only[zo];exact trimDg_run (by omega) _ l hl) ?_)));refine Bb rfl (Ac (by simp only[zo,Cg,Dy,En]<;>exact rfl) ?_);refine xo3 ?_;refine Ar rfl (Aa (Ak ?_));apply Bp;refine⟨_,by simp only[F158,A7,Bo,Cv,zg]<;>exact rfl,?_⟩;rw[Mh,show (!(l==[]))=true from hg,Bool.true_and,trimD_nil];rfl
 refine Da rfl rfl (Da rfl rfl (Da rfl rfl (xo3 ?_)));refine Ar rfl (Aa (Ak ?_));apply Bp;refine⟨_,by simp only[F158,A7,Bo,Cv,zg]<;>exact rfl,?_⟩;rw[Mh,show (!(l==[]))=false from hg];rfl
theorem normal_run{d:Nat}(hd:3≤d)(S:St)(neg:Bool)(l:List UInt8)(hl:l.length≤1000)(xk:(Cm l).length≤62):Bl LP NN d 108 [.bool neg,.str (mkS l),.int .i64 0] S=some (.tup [.agg [.bool (neg&&nz l),.str (mkS (strip l)),.int .i64 0],.int .i64 0],S,false):=by
 refine rq (F:=F108) rfl (by simp only[LP,Ay,zs]<;>exact rfl) (by simp only[F108,zv]<;>exact rfl) ?_;rintro d rfl;refine Ae (xo8 ?_);refine Bj (Aa (Ak ?_));refine Ae (Al rfl (Ac (by simp only[zo];exact trimL0_run (by omega) _ l (by omega)) ?_));refine Ar rfl (Aa (Ak ?_));refine Ao (Ae (Al rfl (Ac (by simp only[zo,Cg,Dy,En]<;>exact rfl) ?_)));refine Aa (Ak ?_);refine Ep (by simp only[opd,zv]<;>exact rfl) (fun hc=>?_) (fun hc=>?_)
 ·
  refine Ae (xo7 ?_);refine Ot ?_;refine Bj (Aa (Ak ?_));refine Bp (sk_r ?_);refine⟨_,by simp only[F108,A7,Bo,Cv,zg,zd,rowsOf,Au,List.take,List.drop,zm]<;>exact rfl,?_⟩;have h0:Cm l=[]:=(eqNil _).1 hc;rw[nz,strip,if_pos h0,h0,bne_self_eq_false,Bool.and_false];rfl
 refine Bc (Bz rfl (Ao (Be (Fv (fun n env S'=>∃u5 u6 u7 u8:D,S'=⟨[⟨57,3,[[.bool false,.str ⟨#[]⟩,.int .i64 0]],0,0,false⟩],0⟩∧env=[.bool neg,.str (mkS (Cm l)),.int .i64 0,.ptr 0 0 0 0,.int .i64 0,u5,u6,u7,u8]) (1) (by omega) (⟨_,_,_,_,rfl,rfl⟩) ?_))));rintro n env S' ⟨u5,u6,u7,u8,rfl,rfl⟩;refine Ao (Ae (Al rfl (xo2 ?_)));refine Ar rfl (Ej 0 (b:=false) ?_);refine Da rfl rfl (Da rfl rfl (xo3 ?_));refine Aa (Ak ?_);apply Di (by simp only[opd,zv]);refine Cs (Gc (Mq (Gd (Bz rfl (Ao (Ae (Al rfl (Oq ?_))))))));refine Aa (Ak ?_);refine Cc ?_;refine Bc (Bz rfl (Ao (Ae (Al rfl (xo16 ?_)))));refine Al rfl (Ac (by simp only[zo,Ja,maxD]<;>exact rfl) ?_);refine xo2 ?_;refine Aa (Ak ?_);apply Di (by simp only[opd,zv]<;>(rw[decide_eq_false_iff_not.2];split<;>omega));refine Bc (Bz rfl (Ae (Al rfl (Al rfl (Al rfl (xo7 ?_))))));refine Ot ?_;refine Bj (Aa (Ak ?_));apply Bp;refine⟨_,by simp only[F108,A7,Bo,Cv,zg,zd,rowsOf,Au,List.take,List.drop,zm]<;>exact rfl,?_⟩;have h0:¬Cm l=[]:=fun h=>by rw[h]at hc;simp at hc
 rw[nz,strip,if_neg h0,show (Cm l != [])=true by simpa using h0,Bool.and_true];rfl
theorem Oz(l:List UInt8):(Cm l).length≤l.length:=by
 obtain⟨k,hk⟩:=Gx l;have:=congrArg List.length hk;simp at this;omega
structure Nrm (neg:Bool) (l:List UInt8):Prop where
 num:Mh l=true
 len:l.length≤62
 st:strip l=l
 sg:(neg&&nz l)=neg
theorem strip0_strip(l:List UInt8):Cm (strip l)=Cm l:=by
 unfold strip;split
 ·
  rename_i h;rw[h];rfl
 exact Md l
theorem Nrm.of(neg:Bool)(l:List UInt8)(h1:Mh l=true)(h2:(Cm l).length≤62):Nrm (neg&&nz l) (strip l):=by
 simp only[Mh,Bool.and_eq_true,Bool.not_eq_true',beq_eq_false_iff_ne,ne_eq]at h1;obtain⟨a,b⟩:=strip_len l h1.1;refine⟨?_,(by unfold strip;split;exact (by decide:1≤62);exact h2),strip_idem l,?_⟩
 ·
  simp only[Mh,Bool.and_eq_true,Bool.not_eq_true',beq_eq_false_iff_ne,ne_eq];exact⟨fun e=>by rw[e]at b;simp at b,strip_dig l h1.2⟩
 unfold nz;rw[strip0_strip];cases neg<;>simp
theorem ba_self2(s:ByteArray):(s==s)=true:=by
 first
  | exact beq_self_eq_true s
  | (cases s with | mk a=>show (a==a)=true;simp)
  | (cases s with | mk a=>show decide _=true;simp)
theorem big62{l:List UInt8}(h:l.length≤62):decide ((l.length:Int)>62)=false:=decide_eq_false (by omega)
theorem Hm{d:Nat}(hd:6≤d)(S:St)(neg:Bool)(l:List UInt8)(h:Nrm neg l):Bl LP NN d 152 [.agg [.bool neg,.str (mkS l),.int .i64 0]] S=some (.int .i64 0,S,false):=by
 refine rq (F:=F152) rfl (by simp only[LP,Ay,Cn,zs,zm]<;>exact rfl) (by simp only[F152,zv]<;>exact rfl) ?_;rintro d rfl;refine Ae (xo22 ?_);refine Bj (Aa (Ak ?_));refine Ao (Ae (xo18 ?_));refine xo1 ?_;apply Ac (by simp only[zo];exact numb_run (by omega) _ l (by have:=h.len;omega));apply Ac (by simp only[zo,unD,h.num,Bool.not_true]<;>exact rfl);refine Ar rfl (Lj 0 (b:=false) (by simp only[zv,h.num]<;>rfl) (by simp only[zn]<;>exact rfl) ?_);refine Bb rfl (Ac (by simp only[zo,E8,zm,h.num]<;>exact rfl) ?_);refine Bb rfl (Ac (by simp only[zl,zm,zd,Au,List.take,List.drop,h.num]<;>exact rfl) ?_);refine Bb rfl (Ac (by simp only[zo,Gj,Db,h.num]<;>exact rfl) ?_);refine Bb rfl (Ac (by simp only[zo,Cg,h.num,big62 h.len]<;>exact rfl) ?_);apply Ac (by simp only[zo,h.num]<;>exact rfl);refine Ar rfl (Lj 0 (b:=false) (by simp only[zv,h.num]<;>rfl) (by simp only[zn]<;>exact rfl) ?_);refine Bb rfl (Ac (by simp only[zo,E8,zm,h.num]<;>exact rfl) ?_);refine Bb rfl (Ac (by simp only[zl,zm,zd,Au,List.take,List.drop,h.num]<;>exact rfl) ?_);refine Bb rfl (Ac (by simp only[zo,Cg,Int.reduceLT,h.num]<;>exact rfl) ?_);apply Ac (by simp only[zo,h.num]<;>exact rfl);refine Ar rfl (Lj 0 (b:=false) (by simp only[zv,h.num]<;>rfl) (by simp only[zn]<;>exact rfl) ?_);refine Bb rfl (Ac (by simp only[zo,E8,zm,h.num]<;>exact rfl) ?_);refine Bb rfl (Ac (by simp only[zl,zm,zd,Au,List.take,List.drop,h.num]<;>exact rfl) ?_);refine Bb rfl (Ac (by simp only[zo,Cg,h.num]<;>exact rfl) ?_);apply Ac (by simp only[zo,h.num]<;>exact rfl);refine Aa (Ak ?_);refine Cc ?_;refine Bc (Bz rfl (Ao (Ae (xo18 ?_))));refine xo1 ?_;refine xo18 ?_;refine xo1 ?_;refine xo18 ?_;refine xo1 ?_;apply Ac (by simp only[zo];exact normal_run (by omega) _ neg l (by have:=h.len;omega) (Nat.le_trans (Oz l) h.len));refine Ar rfl (xo23 ?_);refine xo20 ?_;refine xo8 ?_;refine Ot ?_;refine Ar rfl (Aa (Ak ?_));refine Ae (Al rfl (xo2 ?_));refine Ar rfl (Ej 0 (b:=false) ?_);refine Bb rfl (xo1 ?_);refine Bb rfl (xo1 ?_);refine Bb rfl (Ac (by simp only[zo,Bv,Eh,isKey,h.sg,h.st,beq_self_eq_true,Bool.and_self,bne_self_eq_false,ba_self2]<;>exact rfl) ?_);refine xo3 ?_;refine Aa (Ak ?_);refine Cc ?_;refine Bc (Bz rfl (Ae (Bj (Aa (Ak ?_)))));apply Bp;refine⟨_,by simp only[F152,A7,Bo,Cv,zg]<;>exact rfl,?_⟩;rfl
theorem n1:((1:Nat):Int)=1:=rfl
theorem m45:(⟨#[45]⟩:ByteArray)=mkS [45]:=rfl
theorem take1{l:List UInt8}{b:UInt8}(h:b∉l):(l.take 1==[b])=false:=by
 cases l with
 | nil=>rfl
 | cons c l =>
  rw[beq_eq_false_iff_ne];intro e;simp only[List.take_succ_cons,List.take_zero,List.cons.injEq,and_true]at e;exact h (by rw[e];exact List.mem_cons_self)
theorem repB_one(b:UInt8):∀k,repB (mkS [b]) k=List.replicate k b
 | 0=>rfl
 | k+1=>by rw[repB,repB_one b k];rfl
theorem rep_run{d:Nat}(hd:1≤d)(S:St)(b:UInt8)(k:Nat)(hk:k≤1000):Bl LP NN d 62 [.str (mkS [b]),.int .i64 (k:Nat)] S=some (.str (mkS (List.replicate k b)),S,false):=by
 obtain⟨d,rfl⟩:∃d',d=d'+1:=⟨d-1,by omega⟩
 have h:LP.ext 62 [.str (mkS [b]),.int .i64 (k:Nat)]=some (.str (mkS (List.replicate k b))):=by
  show (if 0≤((k:Nat):Int)∧((k:Nat):Int)≤9223372036854775807∧(mkS [b]).size*((k:Nat):Int).toNat≤140737488355328 then some (D.str ⟨(repB (mkS [b]) ((k:Nat):Int).toNat).toArray⟩) else none)=_;rw[if_pos ⟨by omega,by omega,by rw[Db,Int.toNat_natCast];simp;omega⟩,Int.toNat_natCast,repB_one];rfl
 simp only[Bl,h]
theorem rep0_run{d:Nat}(hd:1≤d)(S:St):Bl LP NN d 62 [.str ⟨#[48]⟩,.int .i64 0] S=some (.str (mkS []),S,false):=rep_run hd S 48 0 (by omega)
theorem repz_run{d:Nat}(hd:1≤d)(S:St)(k:Nat)(hk:k≤1000):Bl LP NN d 62 [.str ⟨#[48]⟩,.int .i64 (k:Nat)] S=some (.str (mkS (List.replicate k 48)),S,false):=rep_run hd S 48 k hk
structure RM where
 a:Nat
 b:Nat
 n:Nat
 e:Nat
 h:a<256∧b<256∧n<65536∧e<256
def RM.row (y:RM):List D:=[.int .u8 (y.a:Nat),.int .u8 (y.b:Nat),.int .u16 (y.n:Nat),.int .u8 (y.e:Nat)]
def RM.A (y:RM):UInt8:=UInt8.ofNat (97+y.a % 3)
def RM.B (y:RM):UInt8:=UInt8.ofNat (120+y.b % 3)
def RM.N (y:RM):Nat:=y.n % 1000
def RM.det (y:RM):Int:=if y.e % 3=2 then -1 else ((y.e % 3:Nat):Int)
structure CM where
 co:Nat
 gr:Nat
 bl:Nat
 np:Nat
 p0:Nat
 p1:Nat
 p2:Nat
 h:co<256∧gr<65536∧bl<256∧np<256∧p0<256∧p1<256∧p2<256
def CM.row (x:CM):List D:=[.int .u8 (x.co:Nat),.int .u16 (x.gr:Nat),.int .u8 (x.bl:Nat),.int .u8 (x.np:Nat),.int .u8 (x.p0:Nat),.int .u8 (x.p1:Nat),.int .u8 (x.p2:Nat)]
def CM.ctl (x:CM):Nat:=x.co % 3
def CM.paged (x:CM):Bool:=(x.p0 % 2:Nat)==1
def CM.first (x:CM):Nat:=3+x.p1 % 3
def CM.last (x:CM):Nat:=x.first+3+x.p2 % 4
def CM.has (x:CM) (k:Nat):Bool:=(x.gr / 2 ^ k) % 2==1
section
variable (d:Nat) (S:St) (a b n e p q r:Int)
end
section
variable {d:Nat} (hd:2≤d) (S:St)
include hd
end
def Bw (n:Nat):Nat→List UInt8
 | 0=>[]
 | k+1=>UInt8.ofNat (48+n / 10 ^ k % 10)::Bw n k
theorem Cz(n:Nat):∀k,(Bw n k).length=k
 | 0=>rfl
 | k+1=>by rw[Bw,List.length_cons,Cz n k]
def shT (n:Nat):List D:=[.int .u8 2,.int .u8 0,.str (mkS (List.replicate n 88)),.int .i64 0,.int .i64 0,.bool false,.bool false,.bool false,.bool false,.bool false,.int .i64 (n:Nat)]
def shN (n:Nat):List D:=[.int .u8 4,.int .u8 0,.str (mkS (List.replicate n 57)),.int .i64 (n:Nat),.int .i64 0,.bool false,.bool false,.bool false,.bool false,.bool false,.int .i64 (n:Nat)]
section
variable (d:Nat) (S:St)
theorem shT_tab:(List.range 6).map (fun k=>F6 LP NN (d+16) 29 [.int .i64 ((k+1:Nat):Int)] S)=(List.range 6).map (fun k=>some (.agg (shT (k+1)),S,false)):=by kernel_rfl
theorem shN_tab:(List.range 6).map (fun k=>F6 LP NN (d+16) 27 [.int .i64 ((k+1:Nat):Int)] S)=(List.range 6).map (fun k=>some (.agg (shN (k+1)),S,false)):=by kernel_rfl
end
theorem Nk{d:Nat}(hd:16≤d)(S:St){n:Nat}(h1:1≤n)(h6:n≤6):Bl LP NN d 29 [.int .i64 (n:Nat)] S=some (.agg (shT n),S,false):=by
 obtain⟨d,rfl⟩:∃d',d=d'+16:=⟨d-16,by omega⟩;obtain⟨k,rfl⟩:∃k,n=k+1:=⟨n-1,by omega⟩;exact fast_ok (tab_at (shT_tab d S) k (by omega))
theorem Q0{d:Nat}(hd:16≤d)(S:St){n:Nat}(h1:1≤n)(h6:n≤6):Bl LP NN d 27 [.int .i64 (n:Nat)] S=some (.agg (shN n),S,false):=by
 obtain⟨d,rfl⟩:∃d',d=d'+16:=⟨d-16,by omega⟩;obtain⟨k,rfl⟩:∃k,n=k+1:=⟨n-1,by omega⟩;exact fast_ok (tab_at (shN_tab d S) k (by omega))
def RM.fld (y:RM):List (List D):=[shT 1++[.sl 1 (bR [y.A]) none],shT 1++[.sl 1 (bR [y.B]) none],shN 3++[.sl 1 (bR (Bw y.N 3)) none]]
theorem Gv(l:List UInt8):Ck (mkS l)=bR l:=by simp[Ck,mkS,bR]
section
variable (d:Nat) (S:St)
end
theorem fill_snoc(n:Nat):∀k,Bw n (k+1)=Bw (n / 10) k++[UInt8.ofNat (48+n % 10)]
 | 0=>by rw[Bw,Bw,Bw,Nat.pow_zero,Nat.div_one];rfl
 | k+1=>by rw[Bw,fill_snoc n k,Bw,Nat.pow_succ',←Nat.div_div_eq_div_mul];rfl
theorem Ph:∀k,Bw 0 k=List.replicate k 48
 | 0=>rfl
 | k+1=>by rw[Bw,Ph k,Nat.zero_div];rfl
theorem fill_dig(n:Nat):∀k,(Bw n k).all Ew=true
 | 0=>rfl
 | k+1=>by
  rw[Bw,List.all_cons,fill_dig n k,Bool.and_true];have h:n / 10 ^ k % 10<10:=Nat.mod_lt _ (by decide);generalize n / 10 ^ k % 10=m at h;have:∀m,m<10→Ew (UInt8.ofNat (48+m))=true:=by decide
  exact this m h
theorem fill_num(n:Nat){k:Nat}(h:1≤k):Mh (Bw n k)=true:=by
 rw[Mh,fill_dig,Bool.and_true,Bool.not_eq_true',beq_eq_false_iff_ne];intro e;have:=Cz n k;rw[e]at this;simp at this;omega
theorem strip0_app0{x:List UInt8}(y:List UInt8)(h:Cm x=[]):Cm (x++y)=Cm y:=by
 rw[Cm,List.dropWhile_append];rw[Cm]at h;rw[h];rfl
theorem strip0_app1{x:List UInt8}(y:List UInt8)(h:Cm x≠[]):Cm (x++y)=Cm x++y:=by
 rw[Cm,List.dropWhile_append];rw[Cm]at h;rw[if_neg (by simpa using h)];rfl
theorem decF_ne(d n:Nat):K9 (d+1) n≠[]:=by
 rw[K9];split<;>simp
theorem J8:∀k,Cm (List.replicate k 48++[])=[]
 | 0=>rfl
 | k+1=>by
  rw[List.replicate_succ,List.cons_append,Cm,List.dropWhile_cons,if_pos (by decide)];exact J8 k
theorem ih0(m:Nat)(a:1≤m)(b:m<10):Cm [UInt8.ofNat (48+m)]=[UInt8.ofNat (48+m)]:=by
 match m,a,b with
 | 1,_,_ | 2,_,_ | 3,_,_ | 4,_,_ | 5,_,_ | 6,_,_ | 7,_,_ | 8,_,_ | 9,_,_=>rfl
theorem strip0_fill:∀(k n d:Nat),1≤n→n<10 ^ (k+1)→k+1≤d→Cm (Bw n (k+1))=K9 d n:=by
 intro k
 induction k with
 | zero =>
  intro n d h1 h2 hd;obtain⟨d,rfl⟩:∃d',d=d'+1:=⟨d-1,by omega⟩;have qc:n<10:=by simpa using h2
  rw[Bw,Bw,K9,if_pos qc,Nat.pow_zero,Nat.div_one,Nat.mod_eq_of_lt qc]
  have:∀m,1≤m→m<10→Cm [UInt8.ofNat (48+m)]=[UInt8.ofNat (48+m)]:=by
   intro m a b
   match m,a,b with
   | 1,_,_ | 2,_,_ | 3,_,_ | 4,_,_ | 5,_,_ | 6,_,_ | 7,_,_ | 8,_,_ | 9,_,_=>rfl
  exact this n h1 qc
 | succ k ih =>
  intro n d h1 h2 hd;obtain⟨d,rfl⟩:∃d',d=d'+1:=⟨d-1,by omega⟩;rw[fill_snoc,K9];by_cases qc:n<10
  ·
   rw[if_pos qc,Nat.div_eq_of_lt qc,Ph,strip0_app0 _ (by rw[←List.append_nil (List.replicate (k+1) 48)];exact J8 (k+1)),Nat.mod_eq_of_lt qc];have:=ih0 n h1 qc;exact this
  rw[if_neg qc];have h3:=ih (n / 10) d (by omega) (by rw[Nat.pow_succ]at h2;omega) (by omega);obtain⟨d',rfl⟩:∃d',d=d'+1:=⟨d-1,by omega⟩;rw[strip0_app1 _ (by rw[h3];exact decF_ne _ _),h3]
def dgs (n:Nat):List UInt8:=K9 20 n
theorem Ht{n k:Nat}(hk:1≤k)(uh:k≤20)(h:n<10 ^ k):strip (Bw n k)=dgs n:=by
 obtain⟨k,rfl⟩:∃k',k=k'+1:=⟨k-1,by omega⟩;by_cases h0:n=0
 ·
  subst h0;rw[Ph,strip,show Cm (List.replicate (k+1) 48)=[] by have:=J8 (k+1);rwa [List.append_nil]at this,if_pos rfl];rfl
 have h3:=strip0_fill k n 20 (by omega) h uh;rw[strip,h3,if_neg (decF_ne 19 n)];rfl
theorem Lx{n k:Nat}(hk:1≤k)(uh:k≤20)(h:n<10 ^ k):(dgs n).length≤k:=by
 rw[←Ht hk uh h];have:=strip_len (Bw n k) (by intro e;have:=Cz n k;rw[e]at this;simp at this;omega);have h2:=Cz n k;omega
theorem dgs_nrm{n:Nat}(h:n<10 ^ 19):Nrm false (dgs n):=by
 rw[←Ht (k:=19) (by omega) (by omega) h];have h2:=Cz n 19;have:=Nrm.of false (Bw n 19) (fill_num n (by omega)) (by have:=Oz (Bw n 19);omega);exact this
theorem pad_dgs{n k:Nat}(hk:1≤k)(uh:k≤20)(h:n<10 ^ k):pad k (dgs n)=Bw n k:=by
 have h2:=Cz n k;have h3:=pad_strip (Bw n k) k (by intro e;rw[e]at h2;simp at h2;omega) (by rw[Ht hk uh h];exact Lx hk uh h) (by omega);rw[h2,Nat.sub_self,Ht hk uh h]at h3;exact h3.symm
theorem fmt_run{d:Nat}(hd:1≤d)(S:St)(n:Nat)(hn:n≤1000000000000000000):Bl LP NN d 89 [.int .i64 (n:Nat),.int .i64 10] S=some (.str (mkS (dgs n)),S,false):=by
 obtain⟨d,rfl⟩:∃d',d=d'+1:=⟨d-1,by omega⟩
 have h:LP.ext 89 [.int .i64 (n:Nat),.int .i64 10]=some (.str (mkS (dgs n))):=by
  show (if 0≤((n:Nat):Int)∧((n:Nat):Int)≤1000000000000000000 then some (D.str ⟨(K9 20 ((n:Nat):Int).toNat).toArray⟩) else none)=_;rw[if_pos ⟨by omega,by omega⟩,Int.toNat_natCast];rfl
 simp only[Bl,h]
theorem dig_no{l:List UInt8}(h:l.all Ew=true):(45:UInt8)∉l:=fun hm=>by
 have:=List.all_eq_true.1 h 45 hm;exact absurd this (by decide)
theorem dgs_dig{n:Nat}(h:n<10 ^ 19):(dgs n).all Ew=true:=by
 have:=(dgs_nrm h).num;simp only[Mh,Bool.and_eq_true]at this;exact this.2
theorem fmt65_run{d:Nat}(hd:2≤d)(S:St)(n:Nat)(hn:n≤1000000000000000000):Bl LP NN d 65 [.int .i64 (n:Nat),.int .i64 10] S=some (.str (mkS (dgs n)),S,false):=by
 refine rq (F:=F65) rfl (by simp only[LP,Ay,zs]<;>exact rfl) (by simp only[F65,zv]<;>exact rfl) ?_;rintro d rfl;refine Ae (Bj (Aa (Ak ?_)));refine Ae (Al rfl (Al rfl (Ac (by simp only[zo];exact fmt_run (by omega) _ n hn) ?_)));refine Ar rfl (Aa (Ak ?_));apply Bp;refine⟨_,by simp only[F65,A7,Bo,Cv,zg]<;>exact rfl,?_⟩;rfl
theorem itoa9_run{d:Nat}(hd:2≤d)(S:St)(n:Nat)(hn:n≤1000000000000000000):Bl LP NN d 209 [.int .i64 (n:Nat)] S=some (.str (mkS (dgs n)),S,false):=by
 refine rq (F:=F209) rfl (by simp only[LP,Ay,zs]<;>exact rfl) (by simp only[F209,zv]<;>exact rfl) ?_;rintro d rfl;refine Ae (Bj (Aa (Ak ?_)));refine Ae (Al rfl (Ac (by simp only[zo];exact fmt_run (by omega) _ n hn) ?_));refine Ar rfl (Aa (Ak ?_));apply Bp;refine⟨_,by simp only[F209,A7,Bo,Cv,zg]<;>exact rfl,?_⟩;rfl
theorem itoa_run{d:Nat}(hd:3≤d)(S:St)(n:Nat)(hn:n≤1000000000000000000):Bl LP NN d 163 [.int .i64 (n:Nat)] S=some (.str (mkS (dgs n)),S,false):=by
 refine rq (F:=F163) rfl (by simp only[LP,Ay,zs]<;>exact rfl) (by simp only[F163,zv]<;>exact rfl) ?_;rintro d rfl;refine Ae (Bj (Aa (Ak ?_)));refine Ae (Al rfl (Ac (by simp only[zo];exact itoa9_run (by omega) _ n hn) ?_));refine Ar rfl (Aa (Ak ?_));apply Bp;refine⟨_,by simp only[F163,A7,Bo,Cv,zg]<;>exact rfl,?_⟩;rfl
theorem hasP_run{d:Nat}(hd:1≤d)(S:St){l:List UInt8}{b:UInt8}(hb:b∉l)(hl:l.length≤1000000):Bl LP NN d 114 [.str (mkS l),.str (mkS [b])] S=some (.bool false,S,false):=by
 refine rq (F:=F114) rfl (by simp only[LP,Ay,zs]<;>exact rfl) (by simp only[F114,zv]<;>exact rfl) ?_;rintro d rfl;refine Ae (Bj (Aa (Ak ?_)));refine Ae (Al rfl (xo16 ?_));refine Al rfl (Ac (by simp only[zo,Gj,Db,List.length_singleton]<;>exact rfl) ?_);refine xo2 ?_;apply Ar rfl;refine Km 0 (by simp only[zv]<;>exact rfl) (by simp only[zn]<;>exact rfl) (by simp only[zn]<;>exact rfl) (fun hg=>?_) (fun hg=>?_)
 ·
  refine Bb rfl (Al rfl (Bb rfl (Al rfl (Bb rfl (Ac (by simp only[zo,Gj,Db,List.length_singleton]<;>exact rfl) ?_)))));refine Bb rfl (Ac (by simp only[opd,zv,Az,aop,LOp.loud,Bool.false_eq_true,if_false];rw[str_to _ l 1 _ rfl (by have:=of_decide_eq_true hg;omega)];exact rfl) ?_);refine Bb rfl (Al rfl (Bb rfl (Ac (by simp only[zo,Cg,Dy]<;>exact rfl) ?_)));refine xo3 ?_;refine Ar rfl (Aa (Ak ?_));apply Bp;refine⟨_,by simp only[F114,A7,Bo,Cv,zg]<;>exact rfl,?_⟩;rw[take1 hb];rfl
 refine Da rfl rfl (Da rfl rfl (Da rfl rfl (Da rfl rfl (Da rfl rfl (Da rfl rfl (xo3 ?_))))));refine Ar rfl (Aa (Ak ?_));apply Bp;refine⟨_,by simp only[F114,A7,Bo,Cv,zg]<;>exact rfl,?_⟩;rfl
theorem cutP8_run{d:Nat}(hd:2≤d)(S:St){l:List UInt8}{b:UInt8}(hb:b∉l)(hl:l.length≤1000000):Bl LP NN d 88 [.str (mkS l),.str (mkS [b])] S=some (.tup [.str (mkS l),.bool false],S,false):=by
 refine rq (F:=F88) rfl (by simp only[LP,Ay,zs]<;>exact rfl) (by simp only[F88,zv]<;>exact rfl) ?_;rintro d rfl;refine Ae (Bj (Bj (Aa (Ak ?_))));refine Ao (Ae (Al rfl (Al rfl (Ac (by simp only[zo];exact hasP_run (by omega) _ hb hl) ?_))));apply Ac (by simp only[zo,unD]<;>exact rfl);refine Aa (Ak ?_);refine Ga ?_;refine Ae (Al rfl (Ar rfl (Bj (Aa (Ak ?_)))));refine Bp (sk_r ?_);refine⟨_,by simp only[F88,A7,Bo,Cv,zg]<;>exact rfl,?_⟩;rfl
theorem cutP_run{d:Nat}(hd:3≤d)(S:St){l:List UInt8}{b:UInt8}(hb:b∉l)(hl:l.length≤1000000):Bl LP NN d 64 [.str (mkS l),.str (mkS [b])] S=some (.tup [.str (mkS l),.bool false],S,false):=by
 refine rq (F:=F64) rfl (by simp only[LP,Ay,zs]<;>exact rfl) (by simp only[F64,zv]<;>exact rfl) ?_;rintro d rfl;refine Ae (Bj (Bj (Aa (Ak ?_))));refine Ae (Al rfl (Al rfl (Ac (by simp only[zo];exact cutP8_run (by omega) _ hb hl) ?_)));refine xo23 ?_;refine xo20 ?_;refine Ar rfl (Ar rfl (Aa (Ak ?_)));apply Bp;refine⟨_,by simp only[F64,A7,Bo,Cv,zg]<;>exact rfl,?_⟩;rfl
def dcD (n:Nat):D:=.agg [.bool false,.str (mkS (dgs n)),.int .i64 0]
theorem int_run{d:Nat}(hd:4≤d)(S:St)(n:Nat)(hn:n≤1000000000000000000):Bl LP NN d 26 [.int .i64 (n:Nat)] S=some (dcD n,S,false):=by
 refine rq (F:=F26) rfl (by simp only[LP,Ay,zs]<;>exact rfl) (by simp only[F26,zv]<;>exact rfl) ?_;rintro d rfl;refine Ae (xo8 ?_);refine Aa (Ak ?_);refine Ae (Al rfl (Ac (by simp only[zo];exact fmt65_run (by omega) _ n hn) ?_));apply Ac (by simp only[zo,m45];exact cutP_run (by omega) _ (dig_no (dgs_dig (by omega))) (by have:=Lx (n:=n) (k:=19) (by omega) (by omega) (by omega);omega));refine Ar rfl (xo23 ?_);refine xo20 ?_;refine Ar rfl (Ar rfl (Aa (Ak ?_)));refine Ae (Al rfl (Al rfl (xo7 ?_)));refine Ot ?_;refine Aa (Ak ?_);apply Bp;refine⟨_,by simp only[F26,A7,Bo,Cv,zg,zd,rowsOf,Au,List.take,List.drop,zm]<;>exact rfl,?_⟩;rfl
theorem both_run{d:Nat}(hd:7≤d)(S:St){a b:List UInt8}(ha:Nrm false a)(hb:Nrm false b):Bl LP NN d 106 [.agg [.bool false,.str (mkS a),.int .i64 0],.agg [.bool false,.str (mkS b),.int .i64 0]] S=some (.int .i64 0,S,false):=by
 refine rq (F:=F106) rfl (by simp only[LP,Ay,Cn,zs,zm]<;>exact rfl) (by simp only[F106,zv]<;>exact rfl) ?_;rintro d rfl;refine Ae (xo22 ?_);refine xo22 ?_;refine Bj (Aa (Ak ?_));refine Ao (Gu ?_);refine xo14 rfl ?_
 first
  | refine M7 (by simp only[zo];exact Hm (by omega) _ false a ha) rfl ?_
  | refine M7 (by simp only[zo,zx];exact Hm (by omega) _ false b hb) rfl ?_
 refine xo14 rfl ?_
 first
  | refine M7 (by simp only[zo];exact Hm (by omega) _ false a ha) rfl ?_
  | refine M7 (by simp only[zo];exact Hm (by omega) _ false b hb) rfl ?_
 apply A8 (by simp only[zo,Ja,maxD]<;>exact rfl) rfl rfl;refine Dt rfl rfl (Cw (Ak ?_));apply Bp;refine⟨_,by simp only[F106,A7,Bo,Cv,zg]<;>exact rfl,?_⟩;rfl
theorem Jk{d:Nat}(hd:2≤d)(S:St)(l:List UInt8)(n:Nat)(hn:n≤100)(hl:l.length≤100):Bl LP NN d 159 [.str (mkS l),.int .i64 (n:Nat)] S=some (.str (mkS (pad n l)),S,false):=by
 have hw:IntKind.i64.wrap ((n:Int)-(l.length:Int))=(n:Int)-(l.length:Int):=by rw[IntKind.wrap_i64];omega
 have hm:(if (0:Int)>(n:Int)-(l.length:Int) then (0:Int) else (n:Int)-(l.length:Int))=((n-l.length:Nat):Int):=by split<;>omega
 refine rq (F:=F159) rfl (by simp only[LP,Ay,zs]<;>exact rfl) (by simp only[F159,zv]<;>exact rfl) ?_;rintro d rfl;refine Ae (Bj (Aa (Ak ?_)));refine Ae (Al rfl (Al rfl (xo16 ?_)));apply Ac (by simp only[zo,Cg,hw]<;>exact rfl);apply Ac (by simp only[zo,Ja,maxD,hm]<;>exact rfl);apply Ac (by simp only[zo];exact repz_run (by omega) _ (n-l.length) (by omega));refine Al rfl (Ac (by simp only[zo,Cg,Q5,Db];rw[if_neg (by rw[show IntKind.i64.max=9223372036854775807 from rfl];simp only[List.length_replicate];omega)];exact rfl) ?_);refine Ar rfl (Aa (Ak ?_));apply Bp;refine⟨_,by simp only[F159,A7,Bo,Cv,zg]<;>exact rfl,?_⟩;rfl
theorem fill_at(n:Nat):∀(m k:Nat),k<m→(Bw n m)[m-1-k]?=some (UInt8.ofNat (48+n / 10 ^ k % 10))
 | 0,k,h=>by omega
 | m + 1, k, h => by
  rw[Bw];by_cases e:k=m
  ·
   subst e;rw[show k+1-1-k=0 by omega];rfl
  rw[show m+1-1-k=(m-1-k)+1 by omega,Ls_];exact fill_at n m k (by omega)
def cry (a b k:Nat):Nat:=(a % 10 ^ k+b % 10 ^ k) / 10 ^ k
theorem cry_zero(a b:Nat):cry a b 0=0:=by simp[cry,Nat.mod_one]
theorem dig_sum(a b k:Nat):(a+b) / 10 ^ k=a / 10 ^ k+b / 10 ^ k+cry a b k:=by
 have hp:0<10 ^ k:=Nat.pow_pos (by decide);have h1:=Nat.div_add_mod a (10 ^ k);have h2:=Nat.div_add_mod b (10 ^ k);unfold cry;generalize 10 ^ k=p at *;have e:a+b=p*(a / p+b / p)+(a % p+b % p):=by rw[Nat.mul_add];omega
 calc (a+b) / p=(p*(a / p+b / p)+(a % p+b % p)) / p:=by rw[←e]
  _=a / p+b / p+(a % p+b % p) / p:=Nat.mul_add_div hp _ _
theorem cry_lt(a b k:Nat):cry a b k≤1:=by
 have hp:0<10 ^ k:=Nat.pow_pos (by decide);have h1:=Nat.mod_lt a hp;have h2:=Nat.mod_lt b hp;unfold cry;rw[Nat.le_iff_lt_add_one,Nat.div_lt_iff_lt_mul hp];omega
theorem dig_step(a b k:Nat):(a / 10 ^ k % 10+b / 10 ^ k % 10+cry a b k) % 10=(a+b) / 10 ^ k % 10:=by
 rw[dig_sum];omega
theorem cry_step(a b k:Nat):(a / 10 ^ k % 10+b / 10 ^ k % 10+cry a b k) / 10=cry a b (k+1):=by
 have h0:=dig_sum a b k;have h1:=dig_sum a b (k+1);rw[Nat.pow_succ,←Nat.div_div_eq_div_mul,←Nat.div_div_eq_div_mul,←Nat.div_div_eq_div_mul,h0]at h1;omega
theorem cry_end{a b m:Nat}(ha:a<10 ^ m)(hb:b<10 ^ m):cry a b m=(a+b) / 10 ^ m:=by
 rw[cry,Nat.mod_eq_of_lt ha,Nat.mod_eq_of_lt hb]
theorem u8o{d:Nat}(h:d<10):(UInt8.ofNat (48+d)).toNat=48+d:=by
 have:∀d,d<10→(UInt8.ofNat (48+d)).toNat=48+d:=by decide
 exact this d h
theorem plus1_run{d:Nat}(hd:1≤d)(S:St)(x y c:Nat)(hx:x<10)(hy:y<10)(hc:c≤1):Bl LP NN d 162 [.int .i64 (x:Nat),.int .i64 (y:Nat),.int .i64 (c:Nat)] S=some (.tup [.int .i64 ((x+y+c) % 10:Nat),.int .i64 ((x+y+c) / 10:Nat)],S,false):=by
 have qc:((10:Int)=0)=False:=by simp
 have wP:IntKind.i64.wrap (((x:Nat):Int)+(y:Nat))=((x+y:Nat):Int):=by rw[IntKind.wrap_i64];omega
 have uP:IntKind.i64.wrap (((x+y:Nat):Int)+(c:Nat))=((x+y+c:Nat):Int):=by rw[IntKind.wrap_i64];omega
 have hm:((x+y+c:Nat):Int).tmod 10=(((x+y+c) % 10:Nat):Int):=tmod_nat _ 10;have hq:((x+y+c:Nat):Int).tdiv 10=(((x+y+c) / 10:Nat):Int):=(Int.ofNat_tdiv (x+y+c) 10).symm;have hw3:IntKind.i64.wrap (((x+y+c) / 10:Nat):Int)=(((x+y+c) / 10:Nat):Int):=by rw[IntKind.wrap_i64];omega
 refine rq (F:=F162) rfl (by simp only[LP,Ay,zs]<;>exact rfl) (by simp only[F162,zv]<;>exact rfl) ?_;rintro d rfl;have xQ:=aI wP (aI uP (aI hm (aI hq (aI hw3 (qc)))));refine Ae (Bj (Bj (Aa (Ak ?_))));refine Ae (Al rfl (Al rfl (xo24 ?_)));refine Al rfl (xo24 ?_);apply Ac (by simp only[zo,Cg,zb,xQ]<;>exact rfl);refine Al rfl (Al rfl (xo24 ?_));refine Al rfl (xo24 ?_);apply Ac (by simp only[zo,Cg,zb,xQ]<;>exact rfl);refine Ar rfl (Ar rfl (Aa (Ak ?_)));apply Bp;refine⟨_,by simp only[F162,A7,Bo,Cv,zg]<;>exact rfl,?_⟩;rfl
theorem column_run{d:Nat}(hd:2≤d)(S:St)(a b m:Nat)(hm:m≤60):Bl LP NN d 161 [.str (mkS (Bw a m)),.str (mkS (Bw b m)),.fn 162 []] S=some (.tup [.str (mkS (Bw (a+b) m)),.int .i64 (cry a b m:Nat)],S,false):=by
 have hmk:(0≤((m:Nat):Int)∧((m:Nat):Int)≤((m:Nat):Int)∧m*1≤140737488355328)=True:=eq_true (by omega);have hla:=Cz a m;have hlb:=Cz b m;refine rq (F:=F161) rfl (by simp only[LP,Ay,zs]<;>exact rfl) (by simp only[F161,zv]<;>exact rfl) ?_;rintro d rfl;have yM:=aI @Int.toNat_natCast (aI hmk (aI hla (hlb)));refine Ae (Bj (Bj (Aa (Ak ?_))));refine Ae (Al rfl (Ac (by simp only[zo,Gj,Db,yM]<;>exact rfl) ?_));apply Ac (by simp only[zl,zm,decide_false,yM]<;>exact rfl);refine Ar rfl (Aa (Ak ?_));refine Ae (Bj (Aa (Ak ?_)));refine Ao (Ae (Al rfl (Ac (by simp only[zo,Gj,Db,yM]<;>exact rfl) ?_)));refine Bj (Aa (Ak ?_));refine Be (Fv (fun n env S'=>∃(i:Nat) (u7 u8 u9 u12:D),i≤m∧n=m-i∧S'=⟨[⟨5,1,(List.replicate (m-i) [.int .u8 0]++bR (Bw (a+b) i)),0,2,false⟩],0⟩∧env=[.str (mkS (Bw a m)),.str (mkS (Bw b m)),.fn 162 [],.str ⟨#[]⟩,.int .i64 0,.msl 0 0 0 m none,.int .i64 (cry a b i:Nat),u7,u8,u9,.int .i64 (m:Nat),.int .i64 (i:Nat),u12]) (m) (by omega) (⟨0,_,_,_,_,by omega,by omega,by rw[Bw];exact congrArg (fun r=>(⟨[⟨5,1,r,0,2,false⟩],0⟩:St)) (List.append_nil _).symm,by rw[cry_zero];exact rfl⟩) ?_);rintro n env S' ⟨i,u7,u8,u9,u12,hi,hnk,rfl,rfl⟩;refine Ae (xo2 ?_);refine Aa (Ak ?_);apply Ao;refine Ep (by simp only[opd,zv]<;>exact rfl) (fun zK=>?_) (fun zK=>?_)
 ·
  have xJ:i<m:=by have:=of_decide_eq_true zK;omega
  have qE:=Gf i (by omega);have wP:IntKind.i64.wrap (((m:Nat):Int)-1)=((m-1:Nat):Int):=by rw[IntKind.wrap_i64];omega
  have uP:IntKind.i64.wrap (((m-1:Nat):Int)-(i:Nat))=((m-1-i:Nat):Int):=by rw[IntKind.wrap_i64];omega
  have h0:(0:Int)≤((m-1-i:Nat):Int):=by omega
  have hlm:((m-1-i:Nat):Int)<((m:Nat):Int):=by omega
  have hda:a / 10 ^ i % 10<10:=Nat.mod_lt _ (by decide);have hdb:b / 10 ^ i % 10<10:=Nat.mod_lt _ (by decide);have yH:=fill_at a m i xJ;have zZ:=fill_at b m i xJ;have hua:=u8o hda;have hub:=u8o hdb;have hsa:IntKind.u8.wrap (((48+a / 10 ^ i % 10:Nat):Int)-48)=((a / 10 ^ i % 10:Nat):Int):=by rw[show (((48+a / 10 ^ i % 10:Nat):Int)-48)=((a / 10 ^ i % 10:Nat):Int) by omega];exact wrap_u8 _ (by omega)
  have hsb:IntKind.u8.wrap (((48+b / 10 ^ i % 10:Nat):Int)-48)=((b / 10 ^ i % 10:Nat):Int):=by rw[show (((48+b / 10 ^ i % 10:Nat):Int)-48)=((b / 10 ^ i % 10:Nat):Int) by omega];exact wrap_u8 _ (by omega)
  have hca:IntKind.i64.wrap ((a / 10 ^ i % 10:Nat):Int)=((a / 10 ^ i % 10:Nat):Int):=by rw[IntKind.wrap_i64];omega
  have hcb:IntKind.i64.wrap ((b / 10 ^ i % 10:Nat):Int)=((b / 10 ^ i % 10:Nat):Int):=by rw[IntKind.wrap_i64];omega
  have yS:=cry_lt a b i;have wK:(a+b) / 10 ^ i % 10<10:=Nat.mod_lt _ (by decide);have h48:IntKind.i64.wrap (48+(((a+b) / 10 ^ i % 10:Nat):Int))=((48+(a+b) / 10 ^ i % 10:Nat):Int):=by rw[IntKind.wrap_i64];omega
  have hc8:IntKind.u8.wrap ((48+(a+b) / 10 ^ i % 10:Nat):Int)=((48+(a+b) / 10 ^ i % 10:Nat):Int):=wrap_u8 _ (by omega);have yN:(List.replicate (m-i) [D.int .u8 0]++bR (Bw (a+b) i)).length=m:=by rw[Ll_,List.length_replicate,bR_len,Cz];omega
  have xH:(List.replicate (m-i) [D.int .u8 0]++bR (Bw (a+b) i)).set (m-1-i) [.int .u8 ((48+(a+b) / 10 ^ i % 10:Nat):Int)]=List.replicate (m-(i+1)) [D.int .u8 0]++bR (Bw (a+b) (i+1)):=by
   rw[show m-i=(m-1-i)+1 by omega,List.replicate_succ',Lo_,List.set_append_right _ _ (by simp),List.length_replicate,Nat.sub_self,show m-(i+1)=m-1-i by omega,Bw];simp only[bR,List.map_cons,u8o wK,List.singleton_append,List.set_cons_zero]
  have xY:(List.replicate (m-i) [D.int .u8 0]++bR (Bw (a+b) i))[m-1-i]?=some [D.int .u8 0]:=by rw[La_ (by simp;omega),List.getElem?_replicate,if_pos (by omega)]
  have yV:=aI qE (aI wP (aI uP (aI h0 (aI hlm (aI yH (aI zZ (aI hua (aI hub (aI hsa (aI hsb (aI hca (aI hcb (aI h48 (aI hc8 (aI yN (aI xY (@Int.toNat_natCast)))))))))))))))));refine Bc (Bz rfl (Ao (Be (Ae (Al rfl (Ar rfl (Aa (Ak ?_))))))));refine Ae (Al rfl (Ac (by simp only[zo,Gj,Db,yM]<;>exact rfl) ?_));apply Ac (by simp only[zo,Cg,yV]<;>exact rfl);refine Al rfl (Ac (by simp only[zo,Cg,yV]<;>exact rfl) ?_);refine Ar rfl (Aa (Ak ?_));refine Ae (Bj (Aa (Ak ?_)));refine Ao (Gu ?_);refine Cf rfl rfl (Cf rfl rfl (Cf rfl rfl (A8 (by simp only[zo,Ha,zm,Jo,yM,yV]<;>exact rfl) rfl rfl ?_)));apply A8 (by simp only[zo,Cg,yV]<;>exact rfl) rfl rfl;apply A8 (by simp only[zo,yV]<;>exact rfl) rfl rfl;refine Cf rfl rfl (Cf rfl rfl (A8 (by simp only[zo,Ha,zm,Jo,yM,yV]<;>exact rfl) rfl rfl ?_));apply A8 (by simp only[zo,Cg,yV]<;>exact rfl) rfl rfl;apply A8 (by simp only[zo,yV]<;>exact rfl) rfl rfl;refine Cf rfl rfl (M7 (by simp only[zo];exact plus1_run (by omega) _ _ _ _ hda hdb yS) rfl ?_);refine Dt rfl rfl (A8 (by simp only[zo,Lz,dig_step,cry_step]<;>exact rfl) rfl rfl ?_);apply A8 (by simp only[zo,Lz,Ls_,dig_step,cry_step]<;>exact rfl) rfl rfl;refine Dt rfl rfl (Dt rfl rfl (Cw (Ak ?_)));refine Br (Al rfl (Al rfl (Al rfl (Ac (by simp only[zo,Cg,yV]<;>exact rfl) ?_))));apply Ac (by simp only[zo,yV]<;>exact rfl);apply Ac (by simp only[zl,zm,Dc,yM,yV]<;>exact rfl);apply Ac (by simp only[zl,zm,Ca,overlay,zs,List.take,yV]<;>exact rfl);refine Aa (Fu (Ak ?_));refine Br (Ac (by simp only[zo,Cg,yV]<;>exact rfl) ?_);refine Ar rfl (Aa (Pb (by simp only[ze]<;>exact rfl) ?_));exact⟨m-(i+1),by omega,i+1,_,_,_,_,by omega,rfl,congrArg (fun r=>(⟨[⟨5,1,r,0,2,false⟩],0⟩:St)) xH,rfl⟩
 have hi':m=i:=by have:=of_decide_eq_false zK;omega
 subst hi';have hbs:(List.replicate (m-m) [D.int .u8 0]++bR (Bw (a+b) m)).take m=bR (Bw (a+b) m):=by rw[Nat.sub_self,List.replicate_zero,List.nil_append,List.take_of_length_le (by rw[bR_len,Cz];exact Nat.le_refl m)]
 refine Cs (Gc (Mq (Gd (Bz rfl (Ae (Al rfl (Ac (by simp only[zl,zm,readRows_msl,hbs,bytesOf_bR,or_true]<;>exact rfl) ?_)))))));refine Al rfl (Ar rfl (Ar rfl (Aa (Ak ?_))));apply Bp;refine⟨_,by simp only[F161,A7,Bo,Cv,zg]<;>exact rfl,?_⟩;rfl
theorem dgs_one{c:Nat}(h:c<10):dgs c=[UInt8.ofNat (48+c)]:=by
 rw[dgs,K9,if_pos h]
theorem fill_cry{a b m:Nat}(ha:a<10 ^ m)(hb:b<10 ^ m):dgs (cry a b m)++Bw (a+b) m=Bw (a+b) (m+1):=by
 have h1:=cry_lt a b m;rw[dgs_one (by omega),cry_end ha hb,Bw];rw[cry_end ha hb]at h1;rw[Nat.mod_eq_of_lt (by omega)];rfl
theorem dgs_lt:∀(d n:Nat),n<10 ^ d→n<10 ^ (K9 d n).length
 | 0,n,h=>by simpa [K9] using h
 | d + 1, n, h => by
  rw[K9];split
  ·
   rename_i qc;simpa using qc
  have:=dgs_lt d (n / 10) (by rw[Nat.pow_succ]at h;omega);rw[Ll_,List.length_singleton,Nat.pow_succ];omega
theorem dgs_pos(n:Nat):0<(dgs n).length:=List.length_pos_iff.2 (decF_ne 19 n)
theorem aDCPl{a b:Nat}(ha:a<10 ^ 15)(hb:b<10 ^ 15):∃m,m=max (dgs a).length (dgs b).length∧1≤m∧m≤15∧a<10 ^ m∧b<10 ^ m∧pad m (dgs a)=Bw a m∧pad m (dgs b)=Bw b m:=by
 have h1:=Lx (n:=a) (k:=15) (by omega) (by omega) ha;have h2:=Lx (n:=b) (k:=15) (by omega) (by omega) hb;have h3:=dgs_pos a;have ka:a<10 ^ (dgs a).length:=dgs_lt 20 a (by omega);have kb:b<10 ^ (dgs b).length:=dgs_lt 20 b (by omega);have ma:a<10 ^ max (dgs a).length (dgs b).length:=Nat.lt_of_lt_of_le ka (Nat.pow_le_pow_right (by decide) (Nat.le_max_left _ _));have mb:b<10 ^ max (dgs a).length (dgs b).length:=Nat.lt_of_lt_of_le kb (Nat.pow_le_pow_right (by decide) (Nat.le_max_right _ _));exact⟨_,rfl,by omega,by omega,ma,mb,pad_dgs (by omega) (by omega) ma,pad_dgs (by omega) (by omega) mb⟩
theorem plus_run{d:Nat}(hd:4≤d)(S:St){a b m:Nat}(hm:m≤60)(ha:a<10 ^ m)(hb:b<10 ^ m):Bl LP NN d 109 [.str (mkS (Bw a m)),.str (mkS (Bw b m))] S=some (.str (mkS (Bw (a+b) (m+1))),S,false):=by
 refine rq (F:=F109) rfl (by simp only[LP,Ay,zs]<;>exact rfl) (by simp only[F109,zv]<;>exact rfl) ?_;rintro d rfl;refine Ae (Bj (Aa (Ak ?_)));refine Ae (Al rfl (Al rfl (Ac (by simp only[zo];exact column_run (by omega) _ a b m (by omega)) ?_)));refine Ar rfl (xo23 ?_);refine xo20 ?_;refine Ar rfl (Ar rfl (Aa (Ak ?_)));refine Ae (Al rfl (Ac (by simp only[zo];exact itoa_run (by omega) _ (cry a b m) (by have:=cry_lt a b m;omega)) ?_));refine Al rfl (Ac (by have h9:=cry_lt a b m;have h8:=Cz (a+b) m;have h7:=congrArg List.length (dgs_one (c:=cry a b m) (by omega));simp only[zo,Cg,Q5,Db];rw[if_neg (by rw[show IntKind.i64.max=9223372036854775807 from rfl];simp only[List.length_singleton]at h7 ⊢;omega)];exact rfl) ?_);refine Ar rfl (Aa (Ak ?_));apply Bp;refine⟨_,by simp only[F109,A7,Bo,Cv,zg]<;>exact rfl,?_⟩;rw[fill_cry ha hb];rfl
theorem aligned_run{d:Nat}(hd:3≤d)(S:St){a b m:Nat}(ha:a<10 ^ 15)(hb:b<10 ^ 15)(hm:m=max (dgs a).length (dgs b).length)(hm1:1≤m)(hm2:m≤15)(hpa:pad m (dgs a)=Bw a m)(hpb:pad m (dgs b)=Bw b m):Bl LP NN d 107 [.agg [.bool false,.str (mkS (dgs a)),.int .i64 0],.agg [.bool false,.str (mkS (dgs b)),.int .i64 0]] S=some (.tup [.str (mkS (Bw a m)),.str (mkS (Bw b m)),.int .i64 0],S,false):=by
 have hla:=Lx (n:=a) (k:=15) (by omega) (by omega) ha;have hlb:=Lx (n:=b) (k:=15) (by omega) (by omega) hb;have hmx:(if ((dgs b).length:Int)>((dgs a).length:Int) then ((dgs b).length:Int) else ((dgs a).length:Int))=((m:Nat):Int):=by rw[hm];split<;>omega
 refine rq (F:=F107) rfl (by simp only[LP,Ay,Cn,zs,zm]<;>exact rfl) (by simp only[F107,zv]<;>exact rfl) ?_;rintro d rfl;refine Ae (xo22 ?_);refine xo22 ?_;refine Bj (Bj (Bj (Aa (Ak ?_))));refine Ae (xo18 ?_);refine xo1 ?_;refine xo18 ?_;refine xo1 ?_;apply Ac (by simp only[zo,Ja,maxD]<;>exact rfl);refine Ar rfl (Aa (Ak ?_));refine Ao (Gu ?_);refine xo21 rfl rfl ?_;refine xo14 rfl ?_;refine Cf rfl rfl (xo21 rfl rfl ?_);refine xo14 rfl ?_;refine xo9 rfl rfl ?_;refine M7 (by simp only[zo];exact rep0_run (by omega) _) rfl ?_;apply A8 (by simp only[zo,Cg,Q5,Db,List.append_nil];rw[if_neg (by rw[show IntKind.i64.max=9223372036854775807 from rfl];simp only[List.length_nil];omega)];exact rfl) rfl rfl;refine Dt rfl rfl (Cw (Ak ?_));refine Ao (Gu ?_);refine xo21 rfl rfl ?_;refine xo14 rfl ?_;refine Cf rfl rfl (xo21 rfl rfl ?_);refine xo14 rfl ?_;refine xo9 rfl rfl ?_;refine M7 (by simp only[zo];exact rep0_run (by omega) _) rfl ?_;apply A8 (by simp only[zo,Cg,Q5,Db,List.append_nil];rw[if_neg (by rw[show IntKind.i64.max=9223372036854775807 from rfl];simp only[List.length_nil];omega)];exact rfl) rfl rfl;refine Dt rfl rfl (Cw (Ak ?_));refine Ae (Al rfl (xo16 ?_));refine Al rfl (xo16 ?_);apply Ac (by simp only[zo,Ja,maxD,hmx]<;>exact rfl);refine Ar rfl (Aa (Ak ?_));refine Ae (Al rfl (Al rfl ?_))
 first
  | refine Ac (by simp only[zo];exact Jk (by omega) _ (dgs a) m (by omega) (by omega)) ?_
  | refine Ac (by simp only[zo,zx,hmx,hpa,hpb];exact Jk (by omega) _ (dgs b) m (by omega) (by omega)) ?_
 refine Al rfl (Al rfl ?_)
 first
  | refine Ac (by simp only[zo,hpa];exact Jk (by omega) _ (dgs a) m (by omega) (by omega)) ?_
  | refine Ac (by simp only[zo,hpa];exact Jk (by omega) _ (dgs b) m (by omega) (by omega)) ?_
 refine Al rfl (Ar rfl (Ar rfl (Ar rfl (Aa (Ak ?_)))));apply Bp;refine⟨_,by simp only[F107,A7,Bo,Cv,zg]<;>exact rfl,?_⟩;rw[hpa,hpb,ite_self];rfl
theorem add_run{d:Nat}(hd:8≤d)(S:St){a b:Nat}(ha:a<10 ^ 15)(hb:b<10 ^ 15):Bl LP NN d 81 [dcD a,dcD b] S=some (.tup [dcD (a+b),.int .i64 0],S,false):=by
 obtain⟨m,hm,hm1,hm2,hka,hkb,hpa,hpb⟩:=aDCPl ha hb;refine rq (F:=F81) rfl (by simp only[LP,Ay,Cn,zs,zm,dcD]<;>exact rfl) (by simp only[F81,zv]<;>exact rfl) ?_;rintro d rfl;refine Ae (xo22 ?_);refine xo22 ?_;refine xo8 ?_;refine Bj (Aa (Ak ?_));refine Ao (Ae (xo1 ?_));refine xo1 ?_;apply Ac (by simp only[zo];exact both_run (by omega) _ (dgs_nrm (by omega)) (dgs_nrm (by omega)));refine Ar rfl (Aa (Ak ?_));refine Ae (Al rfl (xo2 ?_));refine Aa (Ak ?_);apply Di (by simp only[opd,zv]<;>(first | rfl | simp));refine Bc (Bz rfl (Ae (xo1 ?_)));refine xo1 ?_;apply Ac (by simp only[zo];exact aligned_run (by omega) _ ha hb hm hm1 hm2 hpa hpb);refine Ar rfl (xo23 ?_);refine xo20 ?_;refine xo20 ?_;refine Ar rfl (Ar rfl (Ar rfl (Aa (Ak ?_))));refine Ao (Be (Ae (xo18 ?_)));refine xo1 ?_;refine xo18 ?_;refine xo1 ?_;apply Ac (by simp only[zo,beq_self_eq_true]<;>exact rfl);refine Ar rfl (Aa (Ak ?_));apply Ik (by simp only[opd,zv]<;>(first | rfl | simp));refine Ao (Du (by simp only[Ce,zw,Nat.reduceAdd]<;>exact rfl) (by simp only[zw]<;>exact rfl) ?_);refine xo21 rfl rfl ?_;refine xo14 rfl ?_;refine Cf rfl rfl (Cf rfl rfl (M7 (by simp only[zo];exact plus_run (by omega) _ (by omega) hka hkb) rfl ?_));refine Cf rfl rfl (M7 (by simp only[zo];exact normal_run (by omega) _ false (Bw (a+b) (m+1)) (by rw[Cz];omega) (by have:=Oz (Bw (a+b) (m+1));rw[Cz]at this;omega)) rfl ?_);apply A8 (by simp only[zo,Lz,Bool.false_and]<;>exact rfl) rfl rfl;apply A8 (by simp only[zo,Lz,Ls_,Bool.false_and]<;>exact rfl) rfl rfl;refine M7 (by simp only[zl,zm,Ca,overlay,Cn,zs,zc,zf,List.take,List.drop,Bool.false_and]<;>exact rfl) rfl ?_;refine Dt rfl rfl (Cw (Ak ?_));refine Bp (bk_r (sk_r ?_));refine⟨_,by simp only[F81,A7,Bo,Cv,zg,zd,rowsOf,Au,List.take,List.drop,zm]<;>exact rfl,?_⟩;rw[Ht (by omega) (by omega) (by rw[Nat.pow_succ];omega)];rfl
section
variable (d:Nat) (S:St)
end
def itD (col:Nat) (sh:List D) (src:Nat) (tx:D) (ix:Nat):List D:=.int .i64 (col:Nat)::sh++[.int .u8 (src:Nat),tx,.int .i64 (ix:Nat)]
def litI (col:Nat) (l:List UInt8):List D:=itD col (shT l.length) 1 (.sl 1 (bR l) none) 0
def keyI (col ix:Nat):List D:=itD col (shT 1) 2 .R4 ix
def keysI (col:Nat):List (List D):=[keyI col 0,keyI (col+1) 1]
def numI (col:Nat):List D:=itD col (shN 3) 2 .R4 2
def pagI:List D:=itD 3 (shN 2) 4 .R4 0
def totI (i:Nat):List D:=itD 7 (shN 6) 3 .R4 i
structure LnM where
 plus:Nat
 items:List (List D)
 cap:Option Nat
structure GrM where
 kind:Nat
 level:Nat
 np:Bool
 lines:List LnM
 cap:Option Nat
def slB (b:Bool) (sz:Nat) (rows:List (List D)) (cap:Option Nat):D:=if rows.isEmpty then .R4 else .sl sz rows (if b then none else cap)
def LnM.row (b:Bool) (l:LnM):List D:=[.int .i64 (l.plus:Nat),slB b 15 l.items l.cap]
def GrM.row (b:Bool) (g:GrM):List D:=[.int .u8 (g.kind:Nat),.int .i64 (g.level:Nat),.bool g.np,slB b 2 (g.lines.map (LnM.row b)) g.cap]
def CM.nps (x:CM) (k:Nat):Bool:=x.paged&&(x.np / 2 ^ k % 2==1)
def CM.blk (x:CM) (k:Nat):Bool:=x.bl / 2 ^ k % 2==1
def gD1 (x:CM):GrM:=⟨4,0,x.nps 0,[⟨1,keysI 1++[numI 4],none⟩],some 1⟩
def gD2:GrM:=⟨4,0,false,[⟨2,[numI 10],some 1⟩],some 1⟩
def gRH:GrM:=⟨1,0,false,[⟨1,[litI 1 [82,72]],some 1⟩],some 1⟩
def gPH:GrM:=⟨2,0,false,[⟨1,[litI 1 [80],pagI],some 2⟩],some 1⟩
def dgt (i:Nat):UInt8:=UInt8.ofNat (48+i)
def gH (x:CM) (i:Nat):GrM:=⟨3,i,x.nps (1+i),[⟨1,[litI 1 [72,dgt i]]++keysI 4,none⟩],some 1⟩
def gF (x:CM) (i:Nat):GrM:=⟨5,i,false,[⟨1,[litI 1 [70,dgt i]]++keysI 4++[totI i],none⟩]++(if x.blk i then [⟨1,[],none⟩] else []),if x.blk i then none else some 1⟩
def gPF:GrM:=⟨6,0,false,[⟨2,[litI 1 [66],pagI],some 2⟩],some 1⟩
def gRF:GrM:=⟨7,0,false,[⟨1,[litI 1 [82,70]],some 1⟩],some 1⟩
def CM.g1 (x:CM):List GrM:=if x.has 0 then [gRH] else []
def CM.g2 (x:CM):List GrM:=if x.has 1&&x.paged then [gPH] else []
def CM.gh (x:CM) (i:Nat):List GrM:=if x.has (2+i) then [gH x i] else []
def CM.gf (x:CM) (i:Nat):List GrM:=if x.has (5+i) then [gF x i] else []
def CM.gl (x:CM):Nat→List GrM
 | 0=>[]
 | i+1=>x.gl i++(x.gh i++x.gf i)
def CM.g8 (x:CM):List GrM:=if x.has 8&&x.paged then [gPF] else []
def CM.g9 (x:CM):List GrM:=if x.has 9 then [gRF] else []
def CM.grps (x:CM):List GrM:=[gD1 x,gD2]++x.g1++x.g2++x.gl (x.ctl+1)++x.g8++x.g9
def fldS (b:Bool):D:=.sl 11 [shT 1,shT 1,shN 3] (if b then none else some 3)
def CM.ctlR (x:CM) (n:Nat):List (List D):=(List.range n).map fun i=>[.int .i64 (i:Nat)]
def CM.totR (x:CM) (n:Nat):List (List D):=(List.range n).map fun i=>[.int .i64 2,.int .i64 (i:Nat)]
def CM.P (x:CM):Nat:=if x.paged then x.last+2 else 0
def CM.F (x:CM):Nat:=if x.paged then x.first else 0
def CM.L (x:CM):Nat:=if x.paged then x.last else 0
def CM.rep (b:Bool) (x:CM):List D:=[fldS b,slB true 1 (x.ctlR x.ctl) none,.int .i64 (x.P:Nat),.int .i64 (x.F:Nat),.int .i64 (x.L:Nat),slB true 4 (x.grps.map (GrM.row b)) none,slB true 2 (x.totR (x.ctl+1)) none]
structure OfB (x:CM) (B:List Rf) (C T:D):Prop where
 h0:B[0]?=some ⟨37,7,[[.R4,.R4,.int .i64 0,.int .i64 0,.int .i64 0,.R4,.R4]],0,0,false⟩
 h1:B[1]?=some ⟨37,7,[[fldS false,C,.int .i64 0,.int .i64 0,.int .i64 0,.R4,T]],0,0,false⟩
 lt:1<B.length
 hC:∀m K,(∀i,i<B.length→2≤i→K[i]?=B[i]?)→snap m K C=some (slB true 1 (x.ctlR x.ctl) none)
 hT:∀m K,(∀i,i<B.length→2≤i→K[i]?=B[i]?)→snap m K T=some (slB true 2 (x.totR (x.ctl+1)) none)
 vC:C.Ru=true∧C.val=true∧C.cells=[C]
 vT:T.Ru=true∧T.val=true∧T.cells=[T]
theorem Ff{H:List Rf}{g:Nat}{o:Rf}(h:H[g]?=some o):g<H.length:=(List.getElem?_eq_some_iff.1 h).1
theorem at_S(H l:List Rf)(g k:Nat)(x:Rf):(H.set g x++l)[H.length+k]?=l[k]?:=by
 rw[Lr_ (by simp)];simp
def roD (x:CM) (C T G:D):Rf:=⟨37,7,[[fldS false,C,.int .i64 (x.P:Nat),.int .i64 (x.F:Nat),.int .i64 (x.L:Nat),G,T]],0,0,false⟩
def gslD (b:Nat) (gs:List GrM):D:=.msl (b+3) (gs.length-1) 0 gs.length none
def goD (gs:List GrM):Rf:=⟨71,4,gs.map (GrM.row false),gs.length-1,1,true⟩
structure OfK (x:CM) (b:Nat) (K:List Rf) (C T:D) (gs:List GrM):Prop where
 h0:K[0]?=some ⟨37,7,[[.R4,.R4,.int .i64 0,.int .i64 0,.int .i64 0,.R4,.R4]],0,0,false⟩
 h1:K[1]?=some (roD x C T (gslD b gs))
 hg:K[b+3]?=some (goD gs)
 hb:2≤b
 hl:b+4≤K.length
 hC:∀m K',(∀i,i<b→2≤i→K'[i]?=K[i]?)→snap m K' C=some (slB true 1 (x.ctlR x.ctl) none)
 hT:∀m K',(∀i,i<b→2≤i→K'[i]?=K[i]?)→snap m K' T=some (slB true 2 (x.totR (x.ctl+1)) none)
 vC:C.Ru=true∧C.val=true∧C.cells=[C]
 vT:T.Ru=true∧T.val=true∧T.cells=[T]
 ne:gs.length≠0
 le:gs.length≤100
theorem OfK.step{x:CM}{b:Nat}{K:List Rf}{C T:D}{gs:List GrM}(h:OfK x b K C T gs)(g:GrM)(l:List Rf)(yB:gs.length≤99):OfK x b ((K.set (b+3) (goD (gs++[g]))).set 1 (roD x C T (gslD b (gs++[g])))++l) C T (gs++[g]):=by
 have hb:=h.hb;have hl:=h.hl
 have e:∀i,i<b→i≠1→((K.set (b+3) (goD (gs++[g]))).set 1 (roD x C T (gslD b (gs++[g])))++l)[i]?=K[i]?:=fun i hi hn=>by
  rw[La_ (by simp;omega),Ln_ (Ne.symm hn),Ln_ (by omega)]
 exact {
  h0:=by rw[e 0 (by omega) (by omega)];exact h.h0
  h1:=by rw[La_ (by simp;omega),List.getElem?_set_self (by simp;omega)]
  hg:=by rw[La_ (by simp;omega),Ln_ (by omega),List.getElem?_set_self (by omega)]
  hb:=hb
  hl:=by simp;omega
  hC:=fun m K' hk=>h.hC m K' (fun i hi hn=>(hk i hi hn).trans (e i hi (by omega)))
  hT:=fun m K' hk=>h.hT m K' (fun i hi hn=>(hk i hi hn).trans (e i hi (by omega)))
  vC:=h.vC
  vT:=h.vT
  ne:=by simp
  le:=by simp;omega }
theorem OfK.app{x:CM}{b:Nat}{K:List Rf}{C T:D}{gs:List GrM}(h:OfK x b K C T gs)(l:List Rf):OfK x b (K++l) C T gs:=by
 have hb:=h.hb;have hl:=h.hl;have e:∀i,i<b+4→(K++l)[i]?=K[i]?:=fun i hi=>La_ (by omega)
 exact {
  h0:=by rw[e 0 (by omega)];exact h.h0
  h1:=by rw[e 1 (by omega)];exact h.h1
  hg:=by rw[e _ (by omega)];exact h.hg
  hb:=hb
  hl:=by simp;omega
  hC:=fun m K' hk=>h.hC m K' (fun i hi hn=>(hk i hi hn).trans (e i (by omega)))
  hT:=fun m K' hk=>h.hT m K' (fun i hi hn=>(hk i hi hn).trans (e i (by omega)))
  vC:=h.vC
  vT:=h.vT
  ne:=h.ne
  le:=h.le }
theorem Jg{b:Bool}{sz:Nat}{rows:List (List D)}{c:Option Nat}(h:rows.length≠0):slB b sz rows c=.sl sz rows (if b then none else c):=by
 cases rows with
 | nil=>simp at h
 | cons r l=>rfl
theorem OfK.fin{x:CM}{b:Nat}{K:List Rf}{C T:D}(h:OfK x b K C T x.grps)(o:Rf)(m:Nat):Cn m (K.set 0 o) [fldS false,C,.int .i64 (x.P:Nat),.int .i64 (x.F:Nat),.int .i64 (x.L:Nat),gslD b x.grps,T]=some (x.rep false):=by
 have e:∀i,i<b→2≤i→(K.set 0 o)[i]?=K[i]?:=fun i hi hn=>Ln_ (by omega)
 have hg:snap m (K.set 0 o) (gslD b x.grps)=some (slB true 4 (x.grps.map (GrM.row false)) none):=by
  rw[gslD,Hu,Ln_ (by omega),h.hg];simp only[goD,true_and,true_or,if_true,List.drop_zero];rw[List.take_of_length_le (by simp),Jg (by have:=h.ne;simpa using this)];rfl
 simp only[Cn,h.hC m _ e,h.hT m _ e,hg,snap_int,fldS,snap_sl];rfl
theorem slB_free(b:Bool)(sz:Nat)(rows:List (List D))(c:Option Nat):(slB b sz rows c).free=true:=by
 unfold slB;split<;>rfl
theorem set_id{H:List Rf}{k:Nat}{o:Rf}(h:H[k]?=some o):H.set k o=H:=by
 refine List.ext_getElem? fun j=>?_;rw[List.getElem?_set];by_cases hj:k=j
 ·
  subst hj;rw[if_pos rfl,if_pos (List.getElem?_eq_some_iff.1 h).1];exact h.symm
 rw[if_neg hj]
theorem OfK.first{x:CM}{B:List Rf}{C T:D}(h:OfB x B C T)(o1 o2 o3:Rf){gs:List GrM}(xu:gs.length≠0)(yB:gs.length≤100):OfK x B.length (B.set 1 (roD x C T (gslD B.length gs))++[o1,o2,o3,goD gs]) C T gs:=by
 have hl:=h.lt
 have e:∀i,i<B.length→i≠1→(B.set 1 (roD x C T (gslD B.length gs))++[o1,o2,o3,goD gs])[i]?=B[i]?:=fun i hi hn=>by
  rw[La_ (by simp;omega),Ln_ (Ne.symm hn)]
 exact {
  h0:=by rw[e 0 (by omega) (by omega)];exact h.h0
  h1:=by rw[La_ (by simp;omega),List.getElem?_set_self (by omega)]
  hg:=by rw[at_S];rfl
  hb:=by omega
  hl:=by simp
  hC:=fun m K' hk=>h.hC m K' (fun i hi hn=>(hk i hi hn).trans (e i hi (by omega)))
  hT:=fun m K' hk=>h.hT m K' (fun i hi hn=>(hk i hi hn).trans (e i hi (by omega)))
  vC:=h.vC
  vT:=h.vT
  ne:=xu
  le:=yB }
theorem Re(e sz bytes kind:Nat)(hk:kind≠0){rows:List (List D)}(hr:rows.length≠0)(hb:rows.length*bytes≤140737488355328)(c:Option Nat)(S:St) :
  Ct e sz bytes kind (.sl sz [] (some 0)) (.sl sz rows c) S=some (.msl S.heap.length 0 0 rows.length none,newAt S ⟨e,sz,rows,0,kind,true⟩,true):=by
 have h1:rows.isEmpty=false:=by cases rows with | nil=>simp at hr | cons a l=>rfl
 simp[Ct,hk,Co,Bt,h1,hb]
theorem app_new0(e sz bytes:Nat){rows:List (List D)}(hb:rows.length*bytes≤140737488355328)(c:Option Nat)(K:List Rf) :
  Ct e sz bytes 0 (.msl K.length 0 0 0 none) (.sl sz rows c) ⟨K++[⟨e,sz,[],0,0,false⟩],K.length⟩=some (.msl K.length 1 0 rows.length none,⟨K++[⟨e,sz,rows,1,0,true⟩],K.length⟩,true):=by
 simp[Ct,Fa,Bt,rowsOf,setAt,hb]
theorem clone68_run{d:Nat}(hd:1≤d)(S:St)(rows:List (List D))(hr:rows.length≠0)(yw:rows.length≤1000)(c:Option Nat):Bl LP NN d 68 [.sl 11 rows c] S=some (.sl 11 rows none,S,false):=by
 refine rq (F:=F68) rfl (by simp only[LP,Ay,zs]<;>exact rfl) (by simp only[F68,zv]<;>exact rfl) ?_;rintro d rfl;refine Ae (Bj (Aa (Ak ?_)));refine Ao (Ae (Al rfl (Qy ?_)));refine Aa (Ak ?_);refine Cc ?_;refine Bc (Bz rfl (Ae (xo28 ?_)));refine Al rfl (Ac (by simp only[Az,aop,LOp.loud,lop,if_true,opd,zv];exact Re 64 11 56 1 (by decide) hr (by omega) c _) ?_);refine Ar rfl (Aa (Ak ?_));apply Bp;refine⟨_,by simp only[F68,A7,Bo,Cv,zg,zm]<;>exact rfl,?_⟩;simp[leaveP,leave,Rs,Ro,snap,newAt,D.Rq,D.Rp,D.free];rfl
theorem clone69_nil{d:Nat}(hd:1≤d)(S:St):Bl LP NN d 69 [.R4] S=some (.R4,S,false):=by
 refine rq (F:=F69) rfl (by simp only[LP,Ay,zs]<;>exact rfl) (by simp only[F69,zv]<;>exact rfl) ?_;rintro d rfl;refine Ae (Bj (Aa (Ak ?_)));refine Ao (Ae (Al rfl (Qy ?_)));refine Aa (Ak ?_);refine Ga ?_;refine Ae (Bj (Aa (Ak ?_)));refine Bp (sk_r ?_);refine⟨_,by simp only[F69,A7,Bo,Cv,zg]<;>exact rfl,?_⟩;simp only[leaveP,leave,zs,zf,zk]
theorem clone70_run{d:Nat}(hd:1≤d)(S:St)(rows:List (List D))(hr:rows.length≠0)(yw:rows.length≤1000)(c:Option Nat):Bl LP NN d 70 [.sl 2 rows c] S=some (.sl 2 rows none,S,false):=by
 refine rq (F:=F70) rfl (by simp only[LP,Ay,zs]<;>exact rfl) (by simp only[F70,zv]<;>exact rfl) ?_;rintro d rfl;refine Ae (Bj (Aa (Ak ?_)));refine Ao (Ae (Al rfl (Qy ?_)));refine Aa (Ak ?_);refine Cc ?_;refine Bc (Bz rfl (Ae (xo28 ?_)));refine Al rfl (Ac (by simp only[Az,aop,LOp.loud,lop,if_true,opd,zv];exact Re 67 2 16 1 (by decide) hr (by omega) c _) ?_);refine Ar rfl (Aa (Ak ?_));apply Bp;refine⟨_,by simp only[F70,A7,Bo,Cv,zg,zm]<;>exact rfl,?_⟩;simp[leaveP,leave,Rs,Ro,snap,newAt,D.Rq,D.Rp,D.free];rfl
theorem clone74_run{d:Nat}(hd:1≤d)(S:St)(rows:List (List D))(hr:rows.length≠0)(yw:rows.length≤1000)(c:Option Nat):Bl LP NN d 74 [.sl 1 rows c] S=some (.sl 1 rows none,S,false):=by
 refine rq (F:=F74) rfl (by simp only[LP,Ay,zs]<;>exact rfl) (by simp only[F74,zv]<;>exact rfl) ?_;rintro d rfl;refine Ae (Bj (Aa (Ak ?_)));refine Ao (Ae (Al rfl (Qy ?_)));refine Aa (Ak ?_);refine Cc ?_;refine Bc (Bz rfl (Ae (xo28 ?_)));refine Al rfl (Ac (by simp only[Az,aop,LOp.loud,lop,if_true,opd,zv];exact Re 5 1 1 1 (by decide) hr (by omega) c _) ?_);refine Ar rfl (Aa (Ak ?_));apply Bp;refine⟨_,by simp only[F74,A7,Bo,Cv,zg,zm]<;>exact rfl,?_⟩;simp[leaveP,leave,Rs,Ro,snap,newAt,D.Rq,D.Rp,D.free];rfl
theorem clone74_nil{d:Nat}(hd:1≤d)(S:St):Bl LP NN d 74 [.R4] S=some (.R4,S,false):=by
 refine rq (F:=F74) rfl (by simp only[LP,Ay,zs]<;>exact rfl) (by simp only[F74,zv]<;>exact rfl) ?_;rintro d rfl;refine Ae (Bj (Aa (Ak ?_)));refine Ao (Ae (Al rfl (Qy ?_)));refine Aa (Ak ?_);refine Ga ?_;refine Ae (Bj (Aa (Ak ?_)));refine Bp (sk_r ?_);refine⟨_,by simp only[F74,A7,Bo,Cv,zg]<;>exact rfl,?_⟩;simp only[leaveP,leave,zs,zf,zk]
theorem clone71_run{d:Nat}(hd:1≤d)(K:List Rf)(rows:List (List D))(yw:rows.length≤1000)(c:Option Nat):Bl LP NN d 71 [.sl 4 rows c] ⟨K,0⟩=some (.msl K.length 1 0 rows.length none,⟨K++[⟨71,4,rows,1,0,true⟩],0⟩,true):=by
 refine Ee (F:=F71) rfl (by simp only[LP,Ay,zs]<;>exact rfl) rfl (by simp only[LP,zf,zm];try rfl) (by simp only[F71,zv]<;>exact rfl) (by omega) ?_;rintro d rfl;refine Ae (Bj (Aa (Ak ?_)));refine Ao (Ae (Al rfl (Qy ?_)));refine Aa (Ak ?_);refine Cc ?_;refine Bc (Bz rfl (Ae (xo37 ?_)));refine Al rfl (Ac (by simp only[Az,aop,LOp.loud,lop,if_true,opd,zv];exact app_new0 71 4 48 (by omega) c _) ?_);refine Ar rfl (Aa (Ak ?_));apply Bp;refine⟨_,by simp only[F71,A7,Bo,Cv,zg]<;>exact rfl,?_⟩;simp[leave,Rs,Ro,snap,D.Rq,D.Rp,D.free]
 first | rfl | (intro _;rfl) | simp[LP,D.Rv,newR,newAt]
theorem clone72_run{d:Nat}(hd:1≤d)(K:List Rf)(rows:List (List D))(yw:rows.length≤1000)(c:Option Nat):Bl LP NN d 72 [.sl 2 rows c] ⟨K,0⟩=some (.msl K.length 1 0 rows.length none,⟨K++[⟨74,2,rows,1,0,true⟩],0⟩,true):=by
 refine Ee (F:=F72) rfl (by simp only[LP,Ay,zs]<;>exact rfl) rfl (by simp only[LP,zf,zm];try rfl) (by simp only[F72,zv]<;>exact rfl) (by omega) ?_;rintro d rfl;refine Ae (Bj (Aa (Ak ?_)));refine Ao (Ae (Al rfl (Qy ?_)));refine Aa (Ak ?_);refine Cc ?_;refine Bc (Bz rfl (Ae (xo37 ?_)));refine Al rfl (Ac (by simp only[Az,aop,LOp.loud,lop,if_true,opd,zv];exact app_new0 74 2 32 (by omega) c _) ?_);refine Ar rfl (Aa (Ak ?_));apply Bp;refine⟨_,by simp only[F72,A7,Bo,Cv,zg]<;>exact rfl,?_⟩;simp[leave,Rs,Ro,snap,D.Rq,D.Rp,D.free]
 first | rfl | (intro _;rfl) | simp[LP,D.Rv,newR,newAt]
theorem clone73_run{d:Nat}(hd:1≤d)(K:List Rf)(rows:List (List D))(yw:rows.length≤1000)(c:Option Nat):Bl LP NN d 73 [.sl 15 rows c] ⟨K,0⟩=some (.msl K.length 1 0 rows.length none,⟨K++[⟨82,15,rows,1,0,true⟩],0⟩,true):=by
 refine Ee (F:=F73) rfl (by simp only[LP,Ay,zs]<;>exact rfl) rfl (by simp only[LP,zf,zm];try rfl) (by simp only[F73,zv]<;>exact rfl) (by omega) ?_;rintro d rfl;refine Ae (Bj (Aa (Ak ?_)));refine Ao (Ae (Al rfl (Qy ?_)));refine Aa (Ak ?_);refine Cc ?_;refine Bc (Bz rfl (Ae (xo37 ?_)));refine Al rfl (Ac (by simp only[Az,aop,LOp.loud,lop,if_true,opd,zv];exact app_new0 82 15 104 (by omega) c _) ?_);refine Ar rfl (Aa (Ak ?_));apply Bp;refine⟨_,by simp only[F73,A7,Bo,Cv,zg]<;>exact rfl,?_⟩;simp[leave,Rs,Ro,snap,D.Rq,D.Rp,D.free]
 first | rfl | (intro _;rfl) | simp[LP,D.Rv,newR,newAt]
theorem clone73_nil{d:Nat}(hd:1≤d)(K:List Rf):Bl LP NN d 73 [.R4] ⟨K,0⟩=some (.R4,⟨K,0⟩,false):=by
 refine Ee (F:=F73) rfl (by simp only[LP,Ay,zs]<;>exact rfl) rfl (by simp only[LP,zf,zm];try rfl) (by simp only[F73,zv]<;>exact rfl) (by omega) ?_;rintro d rfl;refine Ae (Bj (Aa (Ak ?_)));refine Ao (Ae (Al rfl (Qy ?_)));refine Aa (Ak ?_);refine Ga ?_;refine Ae (Bj (Aa (Ak ?_)));refine Bp (sk_r ?_);refine⟨_,by simp only[F73,A7,Bo,Cv,zg]<;>exact rfl,?_⟩;simp[leave,Rs,Ro,snap,D.Rq,D.Rp,D.free];rfl
def ItT (r:List D):Prop:=r.length=15∧r.all D.free=true∧(r[13]?=some .R4∨∃l:List (List D),r[13]?=some (.sl 1 l none)∧l.length≠0∧l.length≤1000)
def itO (items:List (List D)):Rf:=⟨82,15,items,1,0,true⟩
def lnO (M:List (List D)):Rf:=⟨74,2,M,1,0,true⟩
def grO (R:List (List D)):Rf:=⟨71,4,R,1,0,true⟩
def ItF (H:List Rf) (d:D) (items:List (List D)):Prop:=(items.length=0∧d=.R4)∨(items.length≠0∧∃g,d=.msl g 1 0 items.length none∧H[g]?=some (itO items))
def LnF (H:List Rf) (r:List D) (l:LnM):Prop:=∃d,r=[.int .i64 (l.plus:Nat),d]∧ItF H d l.items
def LsF (H:List Rf) (d:D) (ls:List LnM):Prop:=∃(g:Nat) (M:List (List D)),d=.msl g 1 0 ls.length none∧H[g]?=some (lnO M)∧M.length=ls.length∧∀(j:Nat) (l:LnM),ls[j]?=some l→∃r,M[j]?=some r∧LnF H r l
def GrF (H:List Rf) (r:List D) (g:GrM):Prop:=∃d,r=[.int .u8 (g.kind:Nat),.int .i64 (g.level:Nat),.bool g.np,d]∧LsF H d g.lines
def LnOK (l:LnM):Prop:=l.items.length≤100∧∀r∈l.items,ItT r
def GrOK (g:GrM):Prop:=g.lines.length≠0∧g.lines.length≤1000∧∀l∈g.lines,LnOK l
theorem ItF.mono{H H':List Rf}{d:D}{items:List (List D)}(h:ItF H d items)(hm:∀(j:Nat) (o:Rf),H[j]?=some o→o.elem=82→H'[j]?=some o):ItF H' d items:=by
 rcases h with h | ⟨h,g,h1,h2⟩
 ·
  exact .inl h
 exact .inr ⟨h,g,h1,hm g _ h2 rfl⟩
theorem LnF.mono{H H':List Rf}{r:List D}{l:LnM}(h:LnF H r l)(hm:∀(j:Nat) (o:Rf),H[j]?=some o→o.elem=82→H'[j]?=some o):LnF H' r l:=by
 obtain⟨d,h1,h2⟩:=h;exact⟨d,h1,h2.mono hm⟩
theorem GrF.mono{H H':List Rf}{r:List D}{g:GrM}(h:GrF H r g)(hm:∀(j:Nat) (o:Rf),H[j]?=some o→o.elem=82∨o.elem=74→H'[j]?=some o):GrF H' r g:=by
 obtain⟨d,h1,k,M,h2,h3,h4,h5⟩:=h;refine⟨d,h1,k,M,h2,hm k _ h3 (.inr rfl),h4,fun j l hl=>?_⟩;obtain⟨r',h6,h7⟩:=h5 j l hl;exact⟨r',h6,h7.mono fun j o hj he=>hm j o hj (.inl he)⟩
theorem store_same{H:List Rf}{g v i o:Nat}{t:D}{ob:Rf}{row:List D}(h:H[g]?=some ob)(hv:ob.ver=v)(hk:ob.kind=0)(hr:ob.rows[i]?=some row)(ht:row[o]?=some t)(hc:t.Ru=true)(wH:t.cells=[t])(qm:t.val=true):Ca 1 ⟨H,0⟩ (.ptr g v i o) t=some ⟨H,0⟩:=by
 have ho:o<row.length:=(List.getElem?_eq_some_iff.1 ht).1
 have e1:overlay row o [t]=row:=by
  rw[overlay];have:row[o]?=some t:=ht;refine List.ext_getElem? fun j=>?_;rw[List.getElem?_append,List.length_take,Nat.min_eq_left (by omega)];by_cases hj:j<o
  ·
   rw[if_pos hj,List.getElem?_take_of_lt hj]
  rw[if_neg hj];by_cases hj2:j=o
  ·
   subst hj2;simp[ht]
  obtain⟨k,rfl⟩:∃k,j=o+1+k:=⟨j-o-1,by omega⟩;rw[show o+1+k-o=k+1 by omega];simp
 have e2:ob.rows.set i row=ob.rows:=by
  refine List.ext_getElem? fun j=>?_;rw[List.getElem?_set];by_cases hj:i=j
  ·
   subst hj;rw[if_pos rfl,if_pos (List.getElem?_eq_some_iff.1 hr).1,hr]
  rw[if_neg hj]
 simp only[Ca,rowsOf,h,hv,if_true,hr,hk,qm,wH,List.length_cons,List.length_nil,e1,e2,setAt];simp[Nat.succ_le_of_lt ho];rw[show (⟨ob.elem,ob.sz,ob.rows,v,0,ob.grow⟩:Rf)=ob by rw[←hv,←hk]];exact set_id h
theorem ItT.clone{d:Nat}(hd:1≤d){r:List D}(h:ItT r):∃t,r[13]?=some t∧t.Ru=true∧t.cells=[t]∧t.val=true∧Rn t=true∧∀S,Bl LP NN d 74 [t] S=some (t,S,false):=by
 obtain⟨h1,h2,h3 | ⟨l,h3,h4,h5⟩⟩:=h
 ·
  exact⟨.R4,h3,rfl,rfl,rfl,rfl,fun S=>clone74_nil hd S⟩
 exact⟨_,h3,rfl,rfl,rfl,rfl,fun S=>clone74_run hd S l h4 h5 none⟩
theorem clone73_ex{d:Nat}(hd:1≤d)(K:List Rf)(items:List (List D))(hl:items.length≤100)(c:Option Nat):∃e l wr,Bl LP NN d 73 [slB false 15 items c] ⟨K,0⟩=some (e,⟨K++l,0⟩,wr)∧ItF (K++l) e items∧e.Ru=true∧e.cells=[e]∧e.val=true∧Jr false e=some (.int .i64 (items.length:Nat)):=by
 by_cases h:items.length=0
 ·
  rw[List.length_eq_zero_iff.1 h];exact⟨.R4,[],false,by rw[List.append_nil];exact clone73_nil hd K,.inl ⟨rfl,rfl⟩,rfl,rfl,rfl,rfl⟩
 rw[Jg h];exact⟨_,_,_,clone73_run hd K items (by omega) _,.inr ⟨h,K.length,rfl,by simp[itO]⟩,rfl,rfl,rfl,rfl⟩
theorem mapM_some{α β:Type}{f:α→Option β}:∀{l:List α} {l':List β},l.length=l'.length→(∀(j:Nat) (a:α),l[j]?=some a→∃b,l'[j]?=some b∧f a=some b)→l.mapM f=some l'
 | [],[],_,_=>rfl
 | a::l,b::l',h1,h2=>by
  obtain⟨b',hb,hf⟩:=h2 0 a rfl;obtain rfl:b'=b:=by simpa using hb.symm
  have:=mapM_some (l:=l) (l':=l') (by simpa using h1) (fun j a' ha=>h2 (j+1) a' (by simpa using ha));simp[List.mapM_cons,hf,this]
theorem ItF.snap{H:List Rf}{d:D}{items:List (List D)}(h:ItF H d items)(hi:∀r∈items,ItT r)(k:Nat)(c:Option Nat):Fj 0 H (k+1) d=some (slB true 15 items c):=by
 rcases h with⟨h,rfl⟩ | ⟨h,g,rfl,h2⟩
 ·
  rw[List.length_eq_zero_iff.1 h];rfl
 rw[Iq,h2,Jg h]
 have e:items.mapM (fun r=>r.mapM (Fj 0 H k))=some items:=mapM_some rfl (fun j r hr=>⟨r,hr,mapM_some rfl (fun i x hx=>⟨x,hx,by
  have hfx:x.free=true:=List.all_eq_true.1 (hi r (Lm hr)).2.1 x (Lm hx);rw[Ib]
  ·
   cases x<;>first | rfl | (simp[D.free,D.Rv]at hfx)
  rintro g v lo n cap rfl
  simp[D.free,D.Rv]at hfx⟩)⟩)
 have e2:items.all (fun r=>r.all D.free)=true:=List.all_eq_true.2 fun r hr=>(hi r hr).2.1;simp only[itO,Nat.zero_le,and_self,if_true,List.drop_zero,List.take_length,e,e2]
theorem LnF.snap{H:List Rf}{r:List D}{l:LnM}(h:LnF H r l)(hi:LnOK l)(k:Nat):r.mapM (Fj 0 H (k+1))=some (l.row true):=by
 obtain⟨d,rfl,h2⟩:=h;have e:=h2.snap hi.2 k l.cap;simp[List.mapM_cons,e,LnM.row];rfl
theorem LsF.snap{H:List Rf}{d:D}{ls:List LnM}(h:LsF H d ls)(xu:ls.length≠0)(hi:∀l∈ls,LnOK l)(k:Nat)(c:Option Nat):Fj 0 H (k+2) d=some (slB true 2 (ls.map (LnM.row true)) c):=by
 obtain⟨g,M,rfl,h2,h3,h4⟩:=h;rw[Iq,h2,Jg (by simpa using xu)]
 have e:M.mapM (fun r=>r.mapM (Fj 0 H (k+1)))=some (ls.map (LnM.row true)):=mapM_some (by simp[h3]) (fun j r hr=>by
  have hj:j<ls.length:=by rw[←h3];exact (List.getElem?_eq_some_iff.1 hr).1
  obtain⟨r',h5,h6⟩:=h4 j ls[j] (Lg hj);obtain rfl:r=r':=by simpa using hr.symm.trans h5
  exact⟨ls[j].row true,by simp[hj],h6.snap (hi _ (List.getElem_mem hj)) k⟩)
 have e2:(ls.map (LnM.row true)).all (fun r=>r.all D.free)=true:=List.all_eq_true.2 fun r hr=>by
  obtain⟨l,_,rfl⟩:=List.mem_map.1 hr;simp only[LnM.row,List.all_cons,List.all_nil,slB_free,Kv,Bool.and_true]
 simp only[lnO,Nat.zero_le,and_self,if_true,List.drop_zero,←h3,List.take_length,e,e2]
theorem GrF.snap{H:List Rf}{r:List D}{g:GrM}(h:GrF H r g)(hi:GrOK g)(k:Nat):r.mapM (Fj 0 H (k+2))=some (g.row true):=by
 obtain⟨d,rfl,h2⟩:=h;have e:=h2.snap hi.1 hi.2.2 k g.cap;simp[List.mapM_cons,e,GrM.row];rfl
theorem grps_snap{H:List Rf}{R:List (List D)}{gs:List GrM}{b:Nat}(h:H[b]?=some (grO R))(xu:gs.length≠0)(hR:R.length=gs.length)(hg:∀(j:Nat) (g:GrM),gs[j]?=some g→∃r,R[j]?=some r∧GrF H r g)(hi:∀g∈gs,GrOK g)(k:Nat):Fj 0 H (k+3) (.msl b 1 0 gs.length none)=some (slB true 4 (gs.map (GrM.row true)) none):=by
 rw[Iq,h,Jg (by simpa using xu)]
 have e:R.mapM (fun r=>r.mapM (Fj 0 H (k+2)))=some (gs.map (GrM.row true)):=mapM_some (by simp[hR]) (fun j r hr=>by
  have hj:j<gs.length:=by rw[←hR];exact (List.getElem?_eq_some_iff.1 hr).1
  obtain⟨r',h5,h6⟩:=hg j gs[j] (Lg hj);obtain rfl:r=r':=by simpa using hr.symm.trans h5
  exact⟨gs[j].row true,by simp[hj],h6.snap (hi _ (List.getElem_mem hj)) k⟩)
 have e2:(gs.map (GrM.row true)).all (fun r=>r.all D.free)=true:=List.all_eq_true.2 fun r hr=>by
  obtain⟨g,_,rfl⟩:=List.mem_map.1 hr;simp only[GrM.row,List.all_cons,List.all_nil,slB_free,Kv,Lv,Bool.and_true]
 simp only[grO,Nat.zero_le,and_self,if_true,List.drop_zero,←hR,List.take_length,e,e2]
theorem Fz{d:D}(h:d.free=true)(m:Nat)(H:List Rf):snap m H d=some d:=by
 cases d<;>first | rfl | (simp[D.free,D.Rv]at h)
theorem snapD_free{d:D}(h:d.free=true)(m:Nat)(H:List Rf)(k:Nat):Fj m H k d=some d:=by
 cases k with
 | zero=>exact Fz h m H
 | succ k =>
  rw[Ib]
  ·
   exact Fz h m H
  rintro g v lo n cap rfl;simp[D.free,D.Rv]at h
def Cl (d:D):Prop:=d.Ru=true∧d.cells=[d]∧d.val=true∧d.free=true
theorem Cl.pv{d:D}(h:Cl d):Rn d=true:=by
 obtain⟨h1,_,_,h2⟩:=h
 cases d<;>first | rfl | (simp[D.free,D.Rv,D.Ru]at h1 h2;done)
def ZR7:List D:=[.R4,.R4,.int .i64 0,.int .i64 0,.int .i64 0,.R4,.R4]
def GrX (K:List Rf) (r?:Option (List D)) (g:GrM) (b:Bool):Prop:=if b then ∃r,r?=some r∧GrF K r g else r?=some (g.row false)
def LnX (K:List Rf) (r?:Option (List D)) (l:LnM) (b:Bool):Prop:=if b then ∃r,r?=some r∧LnF K r l else r?=some (l.row false)
structure OwK (gs:List GrM) (A C P F L T:D) (K:List Rf) (R:List (List D)) (i:Nat):Prop where
 h0:K[0]?=some ⟨37,7,[[A,C,P,F,L,.msl 2 1 0 gs.length none,T]],0,0,false⟩
 h1:K[1]?=some ⟨37,7,[ZR7],0,0,false⟩
 h2:K[2]?=some (grO R)
 hl:3≤K.length
 hR:R.length=gs.length
 hg:∀(j:Nat) (g:GrM),gs[j]?=some g→GrX K R[j]? g (decide (j<i))
structure OwL (K:List Rf) (ls:List LnM) (K2:List Rf) (M:List (List D)) (k:Nat):Prop where
 ag:∀j,j<K.length→K2[j]?=K[j]?
 hm:K2[K.length]?=some (lnO M)
 hl:K.length<K2.length
 hM:M.length=ls.length
 hg:∀(j:Nat) (l:LnM),ls[j]?=some l→LnX K2 M[j]? l (decide (j<k))
theorem GrX.mono{H H':List Rf}{r:Option (List D)}{g:GrM}{b:Bool}(h:GrX H r g b)(hm:∀(j:Nat) (o:Rf),H[j]?=some o→o.elem=82∨o.elem=74→H'[j]?=some o):GrX H' r g b:=by
 cases b with
 | true =>
  obtain⟨r',h1,h2⟩:=h;exact⟨r',h1,h2.mono hm⟩
 | false=>exact h
theorem LnX.mono{H H':List Rf}{r:Option (List D)}{l:LnM}{b:Bool}(h:LnX H r l b)(hm:∀(j:Nat) (o:Rf),H[j]?=some o→o.elem=82→H'[j]?=some o):LnX H' r l b:=by
 cases b with
 | true =>
  obtain⟨r',h1,h2⟩:=h;exact⟨r',h1,h2.mono hm⟩
 | false=>exact h
theorem OwL.first(K:List Rf)(ls:List LnM):OwL K ls (K++[lnO (ls.map (LnM.row false))]) (ls.map (LnM.row false)) 0 where
 ag j hj:=La_ hj
 hm:=by simp
 hl:=by simp
 hM:=by simp
 hg j l hj:=by simp[LnX,hj]
theorem OwL.step{K:List Rf}{ls:List LnM}{K2:List Rf}{M:List (List D)}{k:Nat}(h:OwL K ls K2 M k){l:LnM}(hk:ls[k]?=some l){d:D}{e:List Rf}(hd:ItF (K2++e) d l.items) :
  OwL K ls ((K2++e).set K.length (lnO (M.set k [.int .i64 (l.plus:Nat),d]))) (M.set k [.int .i64 (l.plus:Nat),d]) (k+1)∧ItF ((K2++e).set K.length (lnO (M.set k [.int .i64 (l.plus:Nat),d]))) d l.items:=by
 have hl:=h.hl
 have e1:∀(j:Nat) (o:Rf),(K2++e)[j]?=some o→o.elem=82→((K2++e).set K.length (lnO (M.set k [.int .i64 (l.plus:Nat),d])))[j]?=some o:=fun j o hj he=>by
  rw[Ln_,hj];rintro rfl;rw[La_ hl,h.hm]at hj;obtain rfl:=Option.some.inj hj;simp[lnO]at he
 have hd2:=hd.mono e1;refine⟨{ ag:=fun j hj=>?_,hm:=?_,hl:=by simp;omega,hM:=by simp[h.hM],hg:=fun j l' hj=>?_ },hd2⟩
 ·
  rw[Ln_ (by omega),La_ (by omega),h.ag j hj]
 ·
  rw[List.getElem?_set_self (by simp;omega)]
 have hkl:k<M.length:=by rw[h.hM];exact (List.getElem?_eq_some_iff.1 hk).1
 by_cases hjk:j=k
 ·
  subst hjk;obtain rfl:l=l':=by simpa using hk.symm.trans hj
  simp only[LnX,Nat.lt_succ_self,decide_true,if_true];exact⟨_,List.getElem?_set_self hkl,d,rfl,hd2⟩
 rw[Ln_ (Ne.symm hjk),show decide (j<k+1)=decide (j<k) from decide_eq_decide.2 (by omega)];exact ((h.hg j l' hj).mono fun j o hj' he=>by rw[La_ ((List.getElem?_eq_some_iff.1 hj').1)];exact hj').mono e1
theorem OwK.step{gs:List GrM}{A C P F L T:D}{K:List Rf}{R:List (List D)}{i:Nat}(h:OwK gs A C P F L T K R i){g:GrM}(hi:gs[i]?=some g){K2:List Rf}{M:List (List D)}(h2:OwL K g.lines K2 M g.lines.length) :
  OwK gs A C P F L T (K2.set 2 (grO (R.set i [.int .u8 (g.kind:Nat),.int .i64 (g.level:Nat),.bool g.np,.msl K.length 1 0 g.lines.length none]))) (R.set i [.int .u8 (g.kind:Nat),.int .i64 (g.level:Nat),.bool g.np,.msl K.length 1 0 g.lines.length none]) (i+1):=by
 have hl:=h.hl;have zI:=h2.hl
 have e1:∀(j:Nat) (o:Rf),K2[j]?=some o→o.elem=82∨o.elem=74→(K2.set 2 (grO (R.set i [.int .u8 (g.kind:Nat),.int .i64 (g.level:Nat),.bool g.np,.msl K.length 1 0 g.lines.length none])))[j]?=some o:=fun j o hj he=>by
  rw[Ln_,hj];rintro rfl;rw[h2.ag 2 (by omega),h.h2]at hj;obtain rfl:=Option.some.inj hj;simp[grO]at he
 have e0:∀(j:Nat) (o:Rf),K[j]?=some o→o.elem=82∨o.elem=74→K2[j]?=some o:=fun j o hj _=>by rw[h2.ag j (List.getElem?_eq_some_iff.1 hj).1];exact hj
 have hiR:i<R.length:=by rw[h.hR];exact (List.getElem?_eq_some_iff.1 hi).1
 exact {
  h0:=by rw[Ln_ (by omega),h2.ag 0 (by omega)];exact h.h0
  h1:=by rw[Ln_ (by omega),h2.ag 1 (by omega)];exact h.h1
  h2:=by rw[List.getElem?_set_self (by omega)]
  hl:=by simp;omega
  hR:=by simp[h.hR]
  hg := fun j g' hj => by
   by_cases hji:j=i
   ·
    subst hji;obtain rfl:g=g':=by simpa using hi.symm.trans hj
    simp only[GrX,Nat.lt_succ_self,decide_true,if_true];refine⟨_,List.getElem?_set_self hiR,_,rfl,K.length,M,rfl,?_,h2.hM,fun k l hk=>?_⟩
    ·
     exact e1 _ _ h2.hm (.inr rfl)
    have:=h2.hg k l hk;simp only[LnX,decide_eq_true (List.getElem?_eq_some_iff.1 hk).1,if_true]at this;obtain⟨r,h5,h6⟩:=this;exact⟨r,h5,h6.mono fun j o hj he=>e1 j o hj (.inl he)⟩
   rw[Ln_ (Ne.symm hji),show decide (j<i+1)=decide (j<i) from decide_eq_decide.2 (by omega)]
   exact ((h.hg j g' hj).mono e0).mono e1 }
theorem own_leave{gs:List GrM}{A C P F L T:D}{K:List Rf}{R:List (List D)}(hO:OwK gs A C P F L T K R gs.length)(ob:Rf)(xu:gs.length≠0)(hgs:∀g∈gs,GrOK g)(qA:Cl A)(qC:Cl C)(qT:Cl T)(qP:Cl P)(qF:Cl F)(qL:Cl L) :
  leaveD ⟨[],0⟩ ⟨[],0⟩ (.agg [A,C,P,F,L,.msl 2 1 0 gs.length none,T]) ⟨K.set 1 ob,0⟩=some (.agg [A,C,P,F,L,.sl 4 (gs.map (GrM.row true)) none,T],⟨[],0⟩,false):=by
 have e1:∀(j:Nat) (o:Rf),K[j]?=some o→o.elem=82∨o.elem=74→(K.set 1 ob)[j]?=some o:=fun j o hj he=>by
  rw[Ln_,hj];rintro rfl;rw[hO.h1]at hj;obtain rfl:=Option.some.inj hj;simp at he
 have e:=grps_snap (H:=K.set 1 ob) (b:=2) (by rw[Ln_ (by decide)];exact hO.h2) xu hO.hR (fun j g hj=>by
  have:=hO.hg j g hj;simp only[GrX,decide_eq_true (List.getElem?_eq_some_iff.1 hj).1,if_true]at this;obtain⟨r,h5,h6⟩:=this
  exact⟨r,h5,h6.mono e1⟩) hgs 3
 rw[Jg (by simpa using xu)]at e;have qs:=fun {d:D} (h:Cl d)=>snapD_free h.2.2.2 0 (K.set 1 ob) 6;simp only[leaveD,List.length_nil,Nat.le_refl,if_true,snapDR,O3,List.mapM_cons,List.mapM_nil,qs qA,qs qC,qs qT,qs qP,qs qF,qs qL,e,Option.bind_eq_bind,Option.bind_some,Option.pure_def,Option.map_some,D.Rq,D.Rp,List.all_cons,List.all_nil,qA.2.2.2,qC.2.2.2,qT.2.2.2,qP.2.2.2,qF.2.2.2,qL.2.2.2,Q9,Bool.and_self]
theorem own_gen{d:Nat}(hd:3≤d)(S:St)(A A' C P F L T U:D)(gs:List GrM)(cg:Option Nat)(qA:Cl A)(qB:Cl A')(qC:Cl C)(qT:Cl T)(qU:Cl U)(qP:Cl P)(qF:Cl F)(qL:Cl L)(hn:gs.length≠0)(hn2:gs.length≤100)(hgs:∀g∈gs,GrOK g)
  (hA:∀d S,1≤d→Bl LP NN d 68 [A] S=some (A',S,false)) (hC:∀d S,1≤d→Bl LP NN d 69 [C] S=some (C,S,false)) (hT:∀d S,1≤d→Bl LP NN d 70 [U] S=some (T,S,false)) :
  Bl LP NN d 31 [.agg [A,C,P,F,L,.sl 4 (gs.map (GrM.row false)) cg,U]] S=some (.agg [A',C,P,F,L,.sl 4 (gs.map (GrM.row true)) none,T],S,false):=by
 have pvA:=qA.pv;have pvA2:=qB.pv;have pvC:=qC.pv;have pvT:=qT.pv;have pvU:=qU.pv;have ⟨qA0,qA1,qA2,qA3⟩:=qA;have ⟨qB0,qB1,qB2,qB3⟩:=qB;have ⟨qC0,qC1,qC2,qC3⟩:=qC;have ⟨qT0,qT1,qT2,qT3⟩:=qT;have ⟨qU0,qU1,qU2,qU3⟩:=qU;have ⟨qP0,qP1,qP2,qP3⟩:=qP;have ⟨qF0,qF1,qF2,qF3⟩:=qF;have ⟨qL0,qL1,qL2,qL3⟩:=qL;refine run_deep (F:=F31) rfl (by simp only[LP,Ay,Cn,zs,zm,Fz qA3,Fz qC3,Fz qU3,Fz qP3,Fz qF3,Fz qL3]<;>exact rfl) rfl (by simp only[LP,zf,zm,qA3,qC3,qU3,qP3,qF3,qL3];try rfl) (by simp only[F31,zv]<;>exact rfl) (by omega) ?_;rintro d rfl
 have hc71:∀K:List Rf,K.length=2→Bl LP NN d 71 [.sl 4 (gs.map (GrM.row false)) cg] ⟨K,0⟩=some (.msl 2 1 0 gs.length none,⟨K++[grO (gs.map (GrM.row false))],0⟩,true):=fun K hK=>by
  have:=clone71_run (d:=d) (by omega) K (gs.map (GrM.row false)) (by simp;omega) cg;rw[hK,List.length_map]at this;exact this
 have hO0:OwK gs A' C P F L T [⟨37,7,[[A',C,P,F,L,.msl 2 1 0 gs.length none,T]],0,0,false⟩,⟨37,7,[ZR7],0,0,false⟩,grO (gs.map (GrM.row false))] (gs.map (GrM.row false)) 0 :=
  { h0:=rfl,h1:=rfl,h2:=rfl,hl:=Nat.le_refl _,hR:=by simp,hg:=fun j g hj=>by simp[GrX,hj] }
 refine Ae (Ac (by simp only[zl,zm,zc,qA0,qC0,qU0,qP0,qF0,qL0]<;>exact rfl) ?_);refine xo8 ?_;refine Aa (Ak ?_);refine Ao (Du (by simp only[Ce,zw,Nat.reduceAdd]<;>exact rfl) (by simp only[zw]<;>exact rfl) ?_);refine xo4 rfl rfl ?_;apply Aw (by simp only[zl,zm,zd,Au,List.take,List.drop]<;>exact rfl) (by simp only[Ai,zo,zq]<;>exact rfl) (by first | rfl | (simp[show ob 1 1=[true] from rfl,pvA,pvA2,pvC,pvT,pvU,Ag,Ba,Ah,Aq,dj,Af,Ab,Aj,Am,Bd,A9];done) | (simp[show ob 1 1=[true] from rfl,pvA,pvA2,pvC,pvT,pvU,Ag,Ba,Ah,Aq,dj,Af,Ab,Aj,Am,Bd,A9];omega));apply Aw (by simp only[zo];exact hA _ _ (by omega)) (by simp only[Ai,zo,zq]<;>exact rfl) (by first | rfl | (simp[show ob 3 2=[true,true] from rfl,pvA,pvA2,pvC,pvT,pvU,Ag,Ba,Ah,Aq,dj,Af,Ab,Aj,Am,Bd,A9];done) | (simp[show ob 3 2=[true,true] from rfl,pvA,pvA2,pvC,pvT,pvU,Ag,Ba,Ah,Aq,dj,Af,Ab,Aj,Am,Bd,A9];omega));refine xo4 rfl rfl ?_;apply Aw (by simp only[zl,zm,zd,Au,List.take,List.drop]<;>exact rfl) (by simp only[Ai,zo,zq]<;>exact rfl) (by first | rfl | (simp[show ob 8 4=[true,false,false,false] from rfl,pvA,pvA2,pvC,pvT,pvU,Ag,Ba,Ah,Aq,dj,Af,Ab,Aj,Am,Bd,A9];done) | (simp[show ob 8 4=[true,false,false,false] from rfl,pvA,pvA2,pvC,pvT,pvU,Ag,Ba,Ah,Aq,dj,Af,Ab,Aj,Am,Bd,A9];omega));apply Aw (by simp only[zo];exact hC _ _ (by omega)) (by simp only[Ai,zo,zq]<;>exact rfl) (by first | rfl | (simp[show ob 31 5=[true,true,true,true,true] from rfl,pvA,pvA2,pvC,pvT,pvU,Ag,Ba,Ah,Aq,dj,Af,Ab,Aj,Am,Bd,A9];done) | (simp[show ob 31 5=[true,true,true,true,true] from rfl,pvA,pvA2,pvC,pvT,pvU,Ag,Ba,Ah,Aq,dj,Af,Ab,Aj,Am,Bd,A9];omega));refine xo4 rfl rfl ?_;apply Aw (by simp only[zl,zm,zd,Au,List.take,List.drop]<;>exact rfl) (by simp only[Ai,zo,zq]<;>exact rfl) (by first | rfl | (simp[show ob 64 7=[true,false,false,false,false,false,false] from rfl,pvA,pvA2,pvC,pvT,pvU,Ag,Ba,Ah,Aq,dj,Af,Ab,Aj,Am,Bd,A9];done) | (simp[show ob 64 7=[true,false,false,false,false,false,false] from rfl,pvA,pvA2,pvC,pvT,pvU,Ag,Ba,Ah,Aq,dj,Af,Ab,Aj,Am,Bd,A9];omega));apply Aw (by simp only[zo];exact hT _ _ (by omega)) (by simp only[Ai,zo,zq]<;>exact rfl) (by first | rfl | (simp[show ob 255 8=[true,true,true,true,true,true,true,true] from rfl,pvA,pvA2,pvC,pvT,pvU,Ag,Ba,Ah,Aq,dj,Af,Ab,Aj,Am,Bd,A9];done) | (simp[show ob 255 8=[true,true,true,true,true,true,true,true] from rfl,pvA,pvA2,pvC,pvT,pvU,Ag,Ba,Ah,Aq,dj,Af,Ab,Aj,Am,Bd,A9];omega));refine xo4 rfl rfl ?_;apply Aw (by simp only[zl,zm,Ca,overlay,List.take,List.drop,qB1,qB2]<;>exact rfl) (by simp only[Ai,zo,zq]<;>exact rfl) (by first | rfl | (simp[show ob 1023 10=[true,true,true,true,true,true,true,true,true,true] from rfl,pvA2,Ag,Ba,Ah,Aq,dj,Af,Ab];done) | (simp[show ob 1023 10=[true,true,true,true,true,true,true,true,true,true] from rfl,pvA,pvA2,pvC,pvT,pvU,Ag,Ba,Ah,Aq,dj,Af,Ab,Aj,Am,Bd,A9];omega));refine xo4 rfl rfl ?_;apply Aw (by simp only[zl,zm,Ca,overlay,List.take,List.drop,qC1,qC2]<;>exact rfl) (by simp only[Ai,zo,zq]<;>exact rfl) (by first | rfl | (simp[show ob 4095 12=[true,true,true,true,true,true,true,true,true,true,true,true] from rfl,pvA2,pvC,Ag,Ba,Ah,Aq,dj,Af,Ab];done) | (simp[show ob 4095 12=[true,true,true,true,true,true,true,true,true,true,true,true] from rfl,pvA,pvA2,pvC,pvT,pvU,Ag,Ba,Ah,Aq,dj,Af,Ab,Aj,Am,Bd,A9];omega));refine xo4 rfl rfl ?_;apply Aw (by simp only[zl,zm,Ca,overlay,List.take,List.drop,qT1,qT2]<;>exact rfl) (by simp only[Ai,zo,zq]<;>exact rfl) (by first | rfl | (simp[show ob 16383 14=[true,true,true,true,true,true,true,true,true,true,true,true,true,true] from rfl,pvA2,pvC,pvT,Ag,Ba,Ah,Aq,dj,Af,Ab];done) | (simp[show ob 16383 14=[true,true,true,true,true,true,true,true,true,true,true,true,true,true] from rfl,pvA,pvA2,pvC,pvT,pvU,Ag,Ba,Ah,Aq,dj,Af,Ab,Aj,Am,Bd,A9];omega));refine Cw (Ak ?_);refine Ae (xo0 ?_);refine xo1 ?_;apply Ac (by simp only[zo];exact hc71 _ rfl);refine xo0 ?_;refine xo29 ?_;refine Aa (Ak ?_);refine Ao (Ae (xo0 ?_));refine xo1 ?_;apply Ac (by simp only[zo,lenD_msl]<;>exact rfl);refine Bj (Aa (Ak ?_));refine Be (Fv (fun n env S'=>∃(i:Nat) (K:List Rf) (R:List (List D)) (u3 u4 u5 u6 u9 u10 u11 u12 u13 u14 u15:D),i≤gs.length∧n=gs.length-i∧S'=⟨K,0⟩∧OwK gs A' C P F L T K R i∧env=[.agg [A,C,P,F,L,.sl 4 (gs.map (GrM.row false)) cg,U],.ptr 0 0 0 0,.ptr 1 0 0 0,u3,u4,u5,u6,.int .i64 (gs.length:Nat),.int .i64 (i:Nat),u9,u10,u11,u12,u13,u14,u15]) (gs.length) (by omega) (⟨0,_,gs.map (GrM.row false),_,_,_,_,_,_,_,_,_,_,_,by omega,by omega,rfl,hO0,rfl⟩) ?_);rintro n env S' ⟨i,K,R,u3,u4,u5,u6,u9,u10,u11,u12,u13,u14,u15,hi,hnk,rfl,hO,rfl⟩;have h0:=hO.h0;have h1:=hO.h1;have h2:=hO.h2;have hKl:=hO.hl;refine Ae (xo2 ?_);refine Aa (Ak ?_);apply Ao;refine Ep (by simp only[opd,zv]<;>exact rfl) (fun zK=>?_) (fun zK=>?_)
 ·
  have yt:i<gs.length:=by have:=of_decide_eq_true zK;omega
  obtain⟨g,hg⟩:∃g,gs[i]?=some g:=⟨_,Lg yt⟩;have hG:=hgs g (Lm hg);obtain⟨hG1,hG2,hG3⟩:=hG;have hRi:R[i]?=some (g.row false):=by have:=hO.hg i g hg;simpa only [GrX,Nat.lt_irrefl,decide_false,Bool.false_eq_true,if_false] using this
  have hgl:slB false 2 (g.lines.map (LnM.row false)) g.cap=.sl 2 (g.lines.map (LnM.row false)) g.cap:=Jg (by simpa using hG1)
  have hc72:Bl LP NN d 72 [.sl 2 (g.lines.map (LnM.row false)) g.cap] ⟨K,0⟩=some (.msl K.length 1 0 g.lines.length none,⟨K++[lnO (g.lines.map (LnM.row false))],0⟩,true):=by
   have:=clone72_run (d:=d) (by omega) K (g.lines.map (LnM.row false)) (by simp;omega) g.cap;rw[List.length_map]at this;exact this
  have hinT:(((i:Nat):Int)<((gs.length:Nat):Int))=True:=eq_true (by omega);have hi0:((0:Int)≤((i:Nat):Int))=True:=eq_true (by omega);have qE:=Gf i (by omega);have xQ:=aI hRi (aI hgl (aI hinT (aI hi0 (qE))));refine Bc (Bz rfl (Ao (Be (Ae (Al rfl (Ar rfl (Aa (Ak ?_))))))));refine Ae (Ac (by simp only[zo,Cb,zm,xQ]<;>exact rfl) ?_);apply Ac (by simp only[zl,zm,zd,Au,List.take,List.drop,h0,xQ]<;>exact rfl);refine Al rfl (Ac (by simp only[zl,zm,Dc,Int.toNat_natCast,h2,grO,xQ]<;>exact rfl) ?_);apply Ac (by simp only[zo,Cb,zm,xQ]<;>exact rfl);apply Ac (by simp only[zl,zm,zd,Au,List.take,List.drop,h2,grO,GrM.row,xQ]<;>exact rfl);apply Ac (by simp only[zo,xQ];exact hc72);refine Ar rfl (Aa (Ak ?_));refine Ao (Ae (Al rfl (Ac (by simp only[zo,lenD_msl,xQ]<;>exact rfl) ?_)));refine Bj (Aa (Ak ?_));refine Be (Fv (fun n env S'=>∃(k:Nat) (K2:List Rf) (M:List (List D)) (u5 u6 u9 u12 u13 u14 u15:D),k≤g.lines.length∧n=g.lines.length-k∧S'=⟨K2,0⟩∧OwL K g.lines K2 M k∧env=[.agg [A,C,P,F,L,.sl 4 (gs.map (GrM.row false)) cg,U],.ptr 0 0 0 0,.ptr 1 0 0 0,.int .i64 (i:Nat),.msl K.length 1 0 g.lines.length none,u5,u6,.int .i64 (gs.length:Nat),.int .i64 (i:Nat),u9,.int .i64 (g.lines.length:Nat),.int .i64 (k:Nat),u12,u13,u14,u15]) (g.lines.length) (by omega) (⟨0,_,g.lines.map (LnM.row false),_,_,_,_,_,_,_,by omega,by omega,rfl,OwL.first K g.lines,rfl⟩) ?_);rintro n env S' ⟨k,K2,M,u5,u6,u9,u12,u13,u14,u15,hk,hnk2,rfl,hL,rfl⟩;have g0:=(hL.ag 0 (by omega)).trans h0;have g1:=(hL.ag 1 (by omega)).trans h1;have g2:=(hL.ag 2 (by omega)).trans h2;have gm:=hL.hm;refine Ae (xo2 ?_);refine Aa (Ak ?_);apply Ao;refine Ep (by simp only[opd,zv]<;>exact rfl) (fun rz=>?_) (fun rz=>?_)
  ·
   have hkn:k<g.lines.length:=by have:=of_decide_eq_true rz;omega
   obtain⟨l,hl⟩:∃l,g.lines[k]?=some l:=⟨_,Lg hkn⟩;have hLO:=hG3 l (Lm hl);obtain⟨hli,hit⟩:=hLO;have hMk:M[k]?=some (l.row false):=by have:=hL.hg k l hl;simpa only [LnX,Nat.lt_irrefl,decide_false,Bool.false_eq_true,if_false] using this
   have hkT:(((k:Nat):Int)<((g.lines.length:Nat):Int))=True:=eq_true (by omega);have hk0:((0:Int)≤((k:Nat):Int))=True:=eq_true (by omega);have hwk:=Gf k (by omega);have yM:=aI hMk (aI hkT (aI hk0 (hwk)));refine Bc (Bz rfl (Ao (Be (Ae (Al rfl (Ar rfl (Aa (Ak ?_))))))));refine cw_cut (fun env S'=>∃(K3:List Rf) (M3:List (List D)) (e:D) (u6 u9 u12 u13 u14 u15:D),S'=⟨K3,0⟩∧OwL K g.lines K3 M3 (k+1)∧M3[k]?=some [.int .i64 (l.plus:Nat),e]∧ItF K3 e l.items∧Jr false e=some (.int .i64 (l.items.length:Nat))∧env=[.agg [A,C,P,F,L,.sl 4 (gs.map (GrM.row false)) cg,U],.ptr 0 0 0 0,.ptr 1 0 0 0,.int .i64 (i:Nat),.msl K.length 1 0 g.lines.length none,.int .i64 (k:Nat),u6,.int .i64 (gs.length:Nat),.int .i64 (i:Nat),u9,.int .i64 (g.lines.length:Nat),.int .i64 (k:Nat),u12,u13,u14,u15]) ?_ ?_
   ·
    refine Br (Al rfl (Al rfl (Al rfl (Al rfl (Ac (by simp only[zl,zm,Dc,Int.toNat_natCast,gm,lnO,yM]<;>exact rfl) ?_)))));apply Ac (by simp only[zo,Cb,zm,yM]<;>exact rfl);apply Ac (by simp only[zl,zm,zd,Au,List.take,List.drop,gm,lnO,LnM.row,yM]<;>exact rfl);obtain⟨e,ee,wr,h73,hd,he1,he2,he3,xk⟩:=clone73_ex (d:=d) (by omega) K2 l.items hli l.cap;have gme:(K2++ee)[K.length]?=some (lnO M):=by rw[La_ hL.hl];exact gm
    have gm':=gme;apply Ac (by simp only[zo,yM];exact h73);apply Ac (by simp only[zl,zm,Dc,Int.toNat_natCast,lnO,yM,gme]<;>exact rfl);apply Ac (by simp only[zo,Cb,zm,yM]<;>exact rfl);apply Ac (by simp only[zl,zm,Ca,overlay,List.take,List.drop,lnO,LnM.row,yM,gme,he2,he3]<;>exact rfl);refine Aa (ck_n (by simp only[ze]<;>exact rfl) ?_);exact⟨_,_,_,_,_,_,_,_,_,rfl,(hL.step hl hd).1,List.getElem?_set_self (by rw[hL.hM];omega),(hL.step hl hd).2,xk,rfl⟩
   rintro env S' ⟨K3,M3,e,u6,u9,u12,u13,u14,u15,rfl,hL3,hMk3,hd3,xk,rfl⟩;have gm3:=hL3.hm;refine Ae (Al rfl (Al rfl (Ac (by simp only[zl,zm,Dc,Int.toNat_natCast,lnO,yM,gm3,lnO]<;>exact rfl) ?_)));refine xo0 ?_;apply Ac (by simp only[zl,zm,zd,Au,List.take,List.drop,lnO,gm3,hMk3,lnO]<;>exact rfl);apply Ac (by simp only[zo,xk]<;>exact rfl);refine Bj (Aa (Ak ?_));refine Be (Fv (fun n env S'=>∃(j:Nat) (u6 u9 u12 u15:D),j≤l.items.length∧n=l.items.length-j∧S'=⟨K3,0⟩∧env=[.agg [A,C,P,F,L,.sl 4 (gs.map (GrM.row false)) cg,U],.ptr 0 0 0 0,.ptr 1 0 0 0,.int .i64 (i:Nat),.msl K.length 1 0 g.lines.length none,.int .i64 (k:Nat),u6,.int .i64 (gs.length:Nat),.int .i64 (i:Nat),u9,.int .i64 (g.lines.length:Nat),.int .i64 (k:Nat),u12,.int .i64 (l.items.length:Nat),.int .i64 (j:Nat),u15]) (l.items.length) (by omega) (⟨0,_,_,_,_,by omega,by omega,rfl,rfl⟩) ?_);rintro n env S' ⟨j,u6,u9,u12,u15,hj,hnk3,rfl,rfl⟩;refine Ae (xo2 ?_);refine Aa (Ak ?_);apply Ao;refine Ep (by simp only[opd,zv]<;>exact rfl) (fun uL=>?_) (fun uL=>?_)
   ·
    have hjn:j<l.items.length:=by have:=of_decide_eq_true uL;omega
    obtain⟨gI,rfl,hgI⟩:∃gI,e=.msl gI 1 0 l.items.length none∧K3[gI]?=some (itO l.items):=by
     rcases hd3 with⟨h,_⟩ | ⟨_,h⟩
     ·
      omega
     exact h
    obtain⟨r,hr⟩:∃r,l.items[j]?=some r:=⟨_,Lg hjn⟩;obtain⟨t,ht,ht1,ht2,ht3,pvt,yg⟩:=(hit r (Lm hr)).clone (d:=d) (by omega);have xM:Ca 1 ⟨K3,0⟩ (.ptr gI 1 j 13) t=some ⟨K3,0⟩:=store_same hgI rfl rfl hr ht ht1 ht2 ht3;have hjT:(((j:Nat):Int)<((l.items.length:Nat):Int))=True:=eq_true (by omega);have hj0:((0:Int)≤((j:Nat):Int))=True:=eq_true (by omega);have hwj:=Gf j (by omega);have yV:=aI hgI (aI hr (aI ht (aI xM (aI hjT (aI hj0 (hwj))))));refine Bc (Bz rfl (Ao (Be (Ae (Al rfl (Ar rfl (Aa (Ak ?_))))))));refine Gu ?_;refine Cf rfl rfl (Cf rfl rfl (Aw (by simp only[zl,zm,Dc,Int.toNat_natCast,lnO,yM,gm3,lnO,yV]<;>exact rfl) (by simp only[Ai,zo,zq]<;>exact rfl) (by first | rfl | (simp[show ob 3 2=[true,true] from rfl,pvt,Ag,Ba,Ah,Aq,dj,Af,Ab,Aj,Am,Bd,A9];done) | (simp[show ob 3 2=[true,true] from rfl,pvt,Ag,Ba,Ah,Aq,dj,Af,Ab,Aj,Am,Bd,A9];omega)) ?_));apply A8 (by simp only[zo,Cb,zm,yV]<;>exact rfl) rfl rfl;apply Aw (by simp only[zl,zm,zd,Au,List.take,List.drop,lnO,gm3,hMk3,lnO,yV]<;>exact rfl) (by simp only[Ai,zo,zq]<;>exact rfl) (by first | rfl | (simp[show ob 15 4=[true,true,true,true] from rfl,pvt,Ag,Ba,Ah,Aq,dj,Af,Ab,Aj,Am,Bd,A9];done) | (simp[show ob 15 4=[true,true,true,true] from rfl,pvt,Ag,Ba,Ah,Aq,dj,Af,Ab,Aj,Am,Bd,A9];omega));refine Cf rfl rfl (Cf rfl rfl (Cf rfl rfl (Aw (by simp only[zl,zm,Dc,Int.toNat_natCast,lnO,yM,gm3,lnO,yV]<;>exact rfl) (by simp only[Ai,zo,zq]<;>exact rfl) (by first | rfl | (simp[show ob 192 8=[true,true,false,false,false,false,false,false] from rfl,pvt,Ag,Ba,Ah,Aq,dj,Af,Ab,Aj,Am,Bd,A9];done) | (simp[show ob 192 8=[true,true,false,false,false,false,false,false] from rfl,pvt,Ag,Ba,Ah,Aq,dj,Af,Ab,Aj,Am,Bd,A9];omega)) ?_)));apply A8 (by simp only[zo,Cb,zm,yV]<;>exact rfl) rfl rfl;apply Aw (by simp only[zl,zm,zd,Au,List.take,List.drop,lnO,gm3,hMk3,lnO,yV]<;>exact rfl) (by simp only[Ai,zo,zq]<;>exact rfl) (by first | rfl | (simp[show ob 960 10=[true,true,true,true,false,false,false,false,false,false] from rfl,pvt,Ag,Ba,Ah,Aq,dj,Af,Ab,Aj,Am,Bd,A9];done) | (simp[show ob 960 10=[true,true,true,true,false,false,false,false,false,false] from rfl,pvt,Ag,Ba,Ah,Aq,dj,Af,Ab,Aj,Am,Bd,A9];omega));refine Cf rfl rfl (Aw (by simp only[zl,zm,Dc,Int.toNat_natCast,itO,yV]<;>exact rfl) (by simp only[Ai,zo,zq]<;>exact rfl) (by first | rfl | (simp[show ob 4032 12=[true,true,true,true,true,true,false,false,false,false,false,false] from rfl,pvt,Ag,Ba,Ah,Aq,dj,Af,Ab,Aj,Am,Bd,A9];done) | (simp[show ob 4032 12=[true,true,true,true,true,true,false,false,false,false,false,false] from rfl,pvt,Ag,Ba,Ah,Aq,dj,Af,Ab,Aj,Am,Bd,A9];omega)) ?_);apply A8 (by simp only[zo,Cb,zm,yV]<;>exact rfl) rfl rfl;apply Aw (by simp only[zl,zm,zd,Au,itO,yV]<;>exact rfl) (by simp only[Ai,zo,zq]<;>exact rfl) (by first | rfl | (simp[show ob 16320 14=[true,true,true,true,true,true,true,true,false,false,false,false,false,false] from rfl,pvt,Ag,Ba,Ah,Aq,dj,Af,Ab,Aj,Am,Bd,A9];done) | (simp[show ob 16320 14=[true,true,true,true,true,true,true,true,false,false,false,false,false,false] from rfl,pvt,Ag,Ba,Ah,Aq,dj,Af,Ab,Aj,Am,Bd,A9];omega));apply Aw (by simp only[zo,yV];exact yg _) (by simp only[Ai,zo,zq]<;>exact rfl) (by first | rfl | (simp[show ob 32704 15=[true,true,true,true,true,true,true,true,true,false,false,false,false,false,false] from rfl,pvt,Ag,Ba,Ah,Aq,dj,Af,Ab,Aj,Am,Bd,A9];done) | (simp[show ob 32704 15=[true,true,true,true,true,true,true,true,true,false,false,false,false,false,false] from rfl,pvt,Ag,Ba,Ah,Aq,dj,Af,Ab,Aj,Am,Bd,A9];omega));apply Aw (by simp only[zl,zm,Dc,Int.toNat_natCast,itO,yV]<;>exact rfl) (by simp only[Ai,zo,zq]<;>exact rfl) (by first | rfl | (simp[show ob 65535 16=[true,true,true,true,true,true,true,true,true,true,true,true,true,true,true,true] from rfl,pvt,Ag,Ba,Ah,Aq,dj,Af,Ab,Aj,Am,Bd,A9];done) | (simp[show ob 65535 16=[true,true,true,true,true,true,true,true,true,true,true,true,true,true,true,true] from rfl,pvt,Ag,Ba,Ah,Aq,dj,Af,Ab,Aj,Am,Bd,A9];omega));apply A8 (by simp only[zo,Cb,zm,yV]<;>exact rfl) rfl rfl;apply Aw (by simp only[Az,aop,LOp.loud,lop,if_true,opd,zv];rw[xM];exact rfl) (by simp only[Ai,zo,zq]<;>exact rfl) (by first | rfl | (simp[show ob 262143 18=[true,true,true,true,true,true,true,true,true,true,true,true,true,true,true,true,true,true] from rfl,pvt,Ag,Ba,Ah,Aq,dj,Af,Ab];done) | (simp[show ob 262143 18=[true,true,true,true,true,true,true,true,true,true,true,true,true,true,true,true,true,true] from rfl,pvt,Ag,Ba,Ah,Aq,dj,Af,Ab,Aj,Am,Bd,A9];omega));refine Cw (Fu (Ak ?_));refine Br (Ac (by simp only[zo,Cg,yV]<;>exact rfl) ?_);refine Ar rfl (Aa (Pb (by simp only[ze]<;>exact rfl) ?_));exact⟨l.items.length-(j+1),by omega,j+1,_,_,_,_,by omega,rfl,rfl,rfl⟩
   refine Cs (Gc (Mq (Gd (Fu (Bz rfl (Br (Ac (by simp only[zo,Cg,yM]<;>exact rfl) ?_)))))));refine Ar rfl (Aa (Pb (by simp only[ze]<;>exact rfl) ?_));exact⟨g.lines.length-(k+1),by omega,k+1,K3,M3,_,_,_,_,_,_,_,by omega,rfl,rfl,hL3,rfl⟩
  have hke:k=g.lines.length:=by have:=of_decide_eq_false rz;omega
  subst hke;refine Cs (Gc (Mq (Gd (Bz rfl (Br (xo0 ?_))))));apply Ac (by simp only[zl,zm,zd,Au,List.take,List.drop,g0]<;>exact rfl);refine Al rfl (Al rfl (Ac (by simp only[zl,zm,Dc,Int.toNat_natCast,grO,xQ,g2]<;>exact rfl) ?_));refine xo0 ?_;apply Ac (by simp only[zl,zm,Ca,overlay,zs,zc,zf,List.take,List.drop,grO,GrM.row,xQ,g2,gm,lnO]<;>exact rfl);refine Aa (Fu (Ak ?_));refine Br (xo24 ?_);refine Ar rfl (Aa (Pb (by simp only[ze]<;>exact rfl) ?_));exact⟨gs.length-(i+1),by omega,i+1,_,_,_,_,_,_,_,_,_,_,_,_,_,by omega,rfl,rfl,hO.step hg hL,rfl⟩
 have vY:i=gs.length:=by have:=of_decide_eq_false zK;omega
 subst vY;refine Cs (Gc (Mq (Gd (Bz rfl (Ae (Ac (by simp only[zl,zm,zd,Au,List.take,List.drop,h0]<;>exact rfl) ?_))))));apply Ac (by simp only[zl,zm,Ca,overlay,Cn,zs,zc,zf,List.take,List.drop,qB0,qC0,qT0,qP0,qF0,qL0,ZR7,h1,h2,grO]<;>exact rfl);refine Aa (Ak ?_);apply Bp;have hs1:(K.set 1 ⟨37,7,[[A',C,P,F,L,.msl 2 1 0 gs.length none,T]],0,0,false⟩)[1]?=some ⟨37,7,[[A',C,P,F,L,.msl 2 1 0 gs.length none,T]],0,0,false⟩:=List.getElem?_set_self (by have:=hO.hl;omega);refine⟨_,by simp only[F31,A7,Bo,Cv,zg,zd,rowsOf,Au,List.take,List.drop,zm,hs1]<;>exact rfl,?_⟩;exact own_leave hO _ hn hgs qB qC qT qP qF qL
def totN (n:Nat):List (List D):=(List.range n).map fun i=>[.int .i64 2,.int .i64 (i:Nat)]
section
variable (d:Nat) (S:St) (p:Nat) (F L:Int) (rows:List (List D))
end
def GrM.h (g:GrM):Nat:=(g.lines.map LnM.plus).sum
theorem CM.ctl_lt(x:CM):x.ctl<3:=Nat.mod_lt _ (by decide)
set_option maxRecDepth 100000
set_option maxHeartbeats 4000000
def kyD (k:Nat × Nat):D:=.agg [.int .u8 (k.1:Nat),.int .i64 (k.2:Nat)]
def kyR (p:(Nat × Nat) × D):List D:=[kyD p.1,p.2]
theorem eq_ky(a b:Nat × Nat):Bv [0,0] [.int .u8 (a.1:Nat),.int .i64 (a.2:Nat)] [.int .u8 (b.1:Nat),.int .i64 (b.2:Nat)]=some (decide (a=b)):=by
 have e:∀x y:Nat,(((x:Nat):Int)==((y:Nat):Int))=decide (x=y):=fun x y=>by
  rw[Bool.eq_iff_iff,beq_iff_eq,decide_eq_true_eq];omega
 have e2:decide (a=b)=(decide (a.1=b.1)&&(decide (a.2=b.2)&&true)):=by
  rw[Bool.eq_iff_iff];simp[Prod.ext_iff]
 simp only[Bv,isKey,Eh,Bool.and_self,if_true,e,e2]
theorem find_some{k:Nat × Nat}{v:D}:∀{l:List ((Nat × Nat) × D)} {i j:Nat},l[j]?=some (k,v)→(∀j' p,j'<j→l[j']?=some p→p.1≠k)→Gm [0,0] (kyD k) (l.map kyR) i=some (some (i+j,v))
 | [],_,j,h,_=>by simp at h
 | p::l,i,0,h,_=>by
  obtain rfl:p=(k,v):=by simpa using h
  simp only[List.map_cons,kyR,Gm];simp only[kyD];rw[eq_ky,decide_eq_true rfl];rfl
 | p::l,i,j+1,h,h2=>by
  have h1:decide (k=p.1)=false:=decide_eq_false (fun e=>h2 0 p (by omega) rfl e.symm);have ih:=find_some (l:=l) (i:=i+1) (j:=j) (by simpa using h) (fun j' q hj hq=>h2 (j'+1) q (by omega) (by simpa using hq));simp only[List.map_cons,kyR,Gm];simp only[kyD]at ih ⊢;rw[eq_ky,h1,show i+(j+1)=i+1+j by omega];exact ih
def mpO (l:List ((Nat × Nat) × D)):Rf:=⟨0,2,l.map kyR,0,3,false⟩
theorem isKeyS_ky(k:Nat × Nat):Kr [0,0] (kyD k)=true:=rfl
def lookM (l:List ((Nat × Nat) × D)) (k:Nat × Nat):Option D:=(l.find? (fun p=>decide (p.1=k))).map (·.2)
theorem find_look{k:Nat × Nat}:∀{l:List ((Nat × Nat) × D)} {i:Nat},∃j,Gm [0,0] (kyD k) (l.map kyR) i=some ((lookM l k).map fun v=>(j,v))
 | [],_=>⟨0,rfl⟩
 | p :: l, i => by
  by_cases h:p.1=k
  ·
   refine⟨i,?_⟩;obtain⟨k',v⟩:=p;subst h;rw[find_some (l:=(k',v)::l) (i:=i) (j:=0) rfl (by intro j' p h;omega)];simp[lookM]
  have h1:decide (k=p.1)=false:=decide_eq_false (fun e=>h e.symm);obtain⟨j,ih⟩:=find_look (l:=l) (i:=i+1) (k:=k);refine⟨j,?_⟩;simp only[List.map_cons,kyR,Gm];simp only[kyD]at ih ⊢;rw[eq_ky,h1];simp only[ih,lookM,List.find?_cons,decide_eq_false h]
theorem map_get{H:List Rf}{g:Nat}{l:List ((Nat × Nat) × D)}(h:H[g]?=some (mpO l))(k:Nat × Nat)(z:D):Hz ⟨H,0⟩ [0,0] z false (.mref g 0) (kyD k)=some ((lookM l k).getD z):=by
 obtain⟨j,e⟩:=find_look (l:=l) (k:=k) (i:=0);simp only[Hz,Lr,rowsOf,h,mpO,if_true,and_self,isKeyS_ky,e];cases lookM l k<;>rfl
open Classical in
def GrM.ky (g:GrM):Nat × Nat:=(g.kind,g.level)
def GrM.rk (g:GrM):Nat:=if g.kind=4 then 0 else if g.kind=3 then 3+2*g.level else if g.kind=5 then 4+2*g.level else if g.kind<3 then g.kind else 30+g.kind
structure WM where
 page:Nat
 line:Nat
 body:Bool
 row:Option RM
 tot:List Nat
 lines:List (Nat × Nat × List UInt8)
 ended:Bool
def rowO:Option RM→D
 | none=>.R4
 | some y=>.sl 12 y.fld (some 3)
def dcR (n:Nat):List D:=[.bool false,.str (mkS (dgs n)),.int .i64 0]
def lnR (p:Nat × Nat × List UInt8):List D:=[.int .i64 (p.1:Nat),.int .i64 (p.2.1:Nat),.str (mkS p.2.2)]
def wRow (x:CM) (gm:Nat) (pg ln:D) (bo:Bool) (row td lin:D) (en:Bool):List D:=[fldS true,slB true 1 (x.ctlR x.ctl) none,.int .i64 (x.P:Nat),.int .i64 (x.F:Nat),.int .i64 (x.L:Nat),.sl 4 (x.grps.map (GrM.row true)) none,.sl 2 (totN (x.ctl+1)) none,pg,ln,.bool bo,row,td,lin,.bool false,.mref gm 0,.bool en]
def wO (x:CM) (gm:Nat) (pg ln:D) (bo:Bool) (row td lin:D) (en:Bool):Rf:=⟨91,16,[wRow x gm pg ln bo row td lin en],0,0,false⟩
def LinAt (H:List Rf) (d:D) (rows:List (List D)):Prop:=(rows=[]∧d=.R4)∨(rows≠[]∧(d=.sl 3 rows (some rows.length)∨∃g v,d=.msl g v 0 rows.length none∧H[g]?=some ⟨52,3,rows,v,1,true⟩))
def TotB (b:Nat) (H:List Rf) (d:D) (n:Nat):Prop:=(n=0∧d=.R4)∨(n≠0∧∃g,b≤g∧d=.msl g (n-1) 0 n none∧H[g]?=some ⟨57,3,List.replicate n (dcR 0),n-1,2,true⟩)
def ents (gs:List GrM):List ((Nat × Nat) × D):=(gs.filter (fun g=>decide (g.kind≠4))).map fun g=>(g.ky,.agg (g.row true))
structure WS (H:List Rf) (g gm gt:Nat) (x:CM) (w:WM):Prop where
 hw:∃lin,H[g]?=some (wO x gm (.int .i64 (w.page:Nat)) (.int .i64 (w.line:Nat)) w.body (rowO w.row) (.msl gt x.ctl 0 (x.ctl+1) none) lin w.ended)∧LinAt H lin (w.lines.map lnR)
 hm:H[gm]?=some (mpO (ents x.grps))
 ht:H[gt]?=some ⟨57,3,w.tot.map dcR,x.ctl,2,true⟩
 hn:w.tot.length=x.ctl+1
def Keep (H H':List Rf):Prop:=H.length≤H'.length∧∀(j:Nat) (o:Rf),H[j]?=some o→(o.kind=0∧o.elem≠91)∨o.elem=0→H'[j]?=some o
theorem Keep.refl(H:List Rf):Keep H H:=⟨Nat.le_refl _,fun _ _ h _=>h⟩
theorem Keep.trans{H H' H'':List Rf}(h:Keep H H')(h':Keep H' H''):Keep H H'':=⟨Nat.le_trans h.1 h'.1,fun j o h1 h2=>h'.2 j o (h.2 j o h1 h2) h2⟩
theorem Keep.app(H l:List Rf):Keep H (H++l):=⟨by simp,fun j o h _=>Bu h l⟩
theorem LinAt.keep{H H':List Rf}{d:D}{rows:List (List D)}(h:LinAt H d rows)(hk:∀(g:Nat) (o:Rf),H[g]?=some o→o.elem=52→H'[g]?=some o):LinAt H' d rows:=by
 rcases h with h | ⟨h1,h | ⟨g,v,h2,h3⟩⟩
 ·
  exact .inl h
 ·
  exact .inr ⟨h1,.inl h⟩
 exact .inr ⟨h1,.inr ⟨g,v,h2,hk g _ h3 rfl⟩⟩
theorem LinAt.Ru{H:List Rf}{d:D}{rows:List (List D)}(h:LinAt H d rows):d.Ru=true:=by
 rcases h with⟨_,rfl⟩ | ⟨h1,rfl | ⟨g,v,rfl,h3⟩⟩<;>rfl
theorem LinAt.cells{H:List Rf}{d:D}{rows:List (List D)}(h:LinAt H d rows):d.cells=[d]:=by
 rcases h with⟨_,rfl⟩ | ⟨h1,rfl | ⟨g,v,rfl,h3⟩⟩<;>rfl
theorem LinAt.val{H:List Rf}{d:D}{rows:List (List D)}(h:LinAt H d rows):d.val=true:=by
 rcases h with⟨_,rfl⟩ | ⟨h1,rfl | ⟨g,v,rfl,h3⟩⟩<;>rfl
theorem LinAt.len{H:List Rf}{d:D}{rows:List (List D)}(h:LinAt H d rows):Jr false d=some (.int .i64 (rows.length:Nat)):=by
 rcases h with⟨rfl,rfl⟩ | ⟨h1,rfl | ⟨g,v,rfl,h3⟩⟩<;>rfl
theorem TotB.Ru{b:Nat}{H:List Rf}{d:D}{n:Nat}(h:TotB b H d n):d.Ru=true:=by
 rcases h with⟨_,rfl⟩ | ⟨h1,g,_,rfl,h3⟩<;>rfl
theorem TotB.cells{b:Nat}{H:List Rf}{d:D}{n:Nat}(h:TotB b H d n):d.cells=[d]:=by
 rcases h with⟨_,rfl⟩ | ⟨h1,g,_,rfl,h3⟩<;>rfl
theorem TotB.val{b:Nat}{H:List Rf}{d:D}{n:Nat}(h:TotB b H d n):d.val=true:=by
 rcases h with⟨_,rfl⟩ | ⟨h1,g,_,rfl,h3⟩<;>rfl
theorem tot_new{H:List Rf}{lo:Nat}(row:List D)(c:Option Nat):Ct 57 3 32 2 .R4 (.sl 3 [row] c) ⟨H,lo⟩=some (.msl H.length 0 0 1 none,⟨H++[⟨57,3,[row],0,2,true⟩],lo⟩,true):=by
 simp[Ct,Co,newAt,Bt]
theorem leave_grow(S S':St)(r:D)(hl:S.heap.length<S'.heap.length)(hf:r.Rq=false)(hs:∀m H,Rs m H r=some r)(hm:isMsl r=false:=by rfl):leave false S r S'=some (r,⟨S'.heap,min S.low S'.low⟩,true):=by
 have h1:¬(S.heap.length≤S'.low∧S'.heap.length=S.heap.length):=by omega
 simp only[leave,hs,hf,hm,Bool.false_eq_true,if_false,h1,ite_self]
inductive It where
 | lit (c:Nat) (l:List UInt8)
 | key (c i:Nat)
 | num (c:Nat)
 | pag
 | tot (i:Nat)
def It.row:It→List D
 | .lit c l=>litI c l
 | .key c i=>keyI c i
 | .num c=>numI c
 | .pag=>pagI
 | .tot i=>totI i
def It.col:It→Nat
 | .lit c _=>c
 | .key c _=>c
 | .num c=>c
 | .pag=>3
 | .tot _=>7
def It.txt (w:WM):It→List UInt8
 | .lit _ l=>l
 | .key _ i=>match w.row with
  | some y=>[if i=0 then y.A else y.B]
  | none=>[]
 | .num _=>match w.row with
  | some y=>Bw y.N 3
  | none=>[]
 | .pag=>Bw w.page 2
 | .tot i=>Bw (w.tot.getD i 0) 6
def It.ok (w:WM):It→Prop
 | .lit _ l=>l.length≠0∧l.length≤100
 | .key _ i=>w.row≠none∧i<2
 | .num _=>w.row≠none
 | .pag=>w.page<100000
 | .tot i=>i<w.tot.length∧w.tot.getD i 0<10 ^ 15
theorem E5(H:List Rf)(low:Nat)(S':St)(r:D)(hl:H.length≤S'.low)(hf:r.Rq=true)(hs:∀m H,Rs m H r=some r):leave false ⟨H,low⟩ r S'=some (r,⟨H,low⟩,false):=by
 simp only[leave,hs,hf,hl,Bool.false_eq_true,if_false,if_true]
theorem lin_app{H:List Rf}{ld:D}{rows:List (List D)}(h:LinAt H ld rows)(hl:rows.length≤70000)(row:List D)(c:Option Nat)(lo:Nat):∃g' v' H' lo',Ct 52 3 32 1 ld (.sl 3 [row] c) ⟨H,lo⟩=some (.msl g' v' 0 (rows.length+1) none,⟨H',lo'⟩,true)∧H'[g']?=some ⟨52,3,rows++[row],v',1,true⟩∧H.length≤H'.length∧lo'≤lo∧∀(j:Nat) (o:Rf),H[j]?=some o→(o.kind=0∨o.elem≠52)→H'[j]?=some o:=by
 have hb:(rows.length+1)*32≤140737488355328:=by omega
 rcases h with⟨rfl,rfl⟩ | ⟨h1,rfl | ⟨g,v,rfl,h2⟩⟩
 ·
  refine⟨H.length,0,H++[⟨52,3,[row],0,1,true⟩],lo,?_,by simp,by simp,Nat.le_refl _,fun j o hj _=>Bu hj _⟩;simp[Ct,Co,Bt,newAt]
 ·
  refine⟨H.length,0,H++[⟨52,3,rows++[row],0,1,true⟩],lo,?_,by simp,by simp,Nat.le_refl _,fun j o hj _=>Bu hj _⟩;simp[Ct,Co,Bt,newAt,hb]
 refine⟨g,v+1,H.set g ⟨52,3,rows++[row],v+1,1,true⟩,min lo g,?_,Bn h2 _,by simp,Nat.min_le_left _ _,fun j o hj hk=>?_⟩
 ·
  simp[Ct,Bt,Co,rowsOf,h2,setAt,hb]
 refine Bg hj (fun e=>?_) _;subst e;rw[h2]at hj;obtain rfl:=Option.some.inj hj;simp at hk
structure Ef (S T:St) (g gm gt:Nat) (x:CM) (w w':WM):Prop where
 ws:WS T.heap g gm gt x w'
 kp:Keep S.heap T.heap
 lo:T.low≤max g gt∨w'=w
 lm:T.low≤S.low
theorem WS.lt{H:List Rf}{g gm gt:Nat}{x:CM}{w:WM}(h:WS H g gm gt x w):g<H.length:=by
 obtain⟨lin,hw,_⟩:=h.hw;exact Ff hw
theorem WS.keep{H H':List Rf}{g gm gt:Nat}{x:CM}{w:WM}(h:WS H g gm gt x w)(hk:∀(j:Nat) (o:Rf),H[j]?=some o→(o.elem=91∨o.elem=0∨o.elem=57∨o.elem=52)→H'[j]?=some o):WS H' g gm gt x w:=by
 obtain⟨lin,hw,hl⟩:=h.hw;exact⟨⟨lin,hk _ _ hw (.inl rfl),hl.keep fun j o hj he=>hk j o hj (.inr (.inr (.inr he)))⟩,hk _ _ h.hm (.inr (.inl rfl)),hk _ _ h.ht (.inr (.inr (.inl rfl))),h.hn⟩
theorem WS.app{H:List Rf}{g gm gt:Nat}{x:CM}{w:WM}(h:WS H g gm gt x w)(l:List Rf):WS (H++l) g gm gt x w:=h.keep fun _ _ hj _=>Bu hj l
theorem WS.ne{H:List Rf}{g gm gt:Nat}{x:CM}{w:WM}(h:WS H g gm gt x w):g≠gm∧g≠gt:=by
 obtain⟨lin,hw,hl⟩:=h.hw;refine⟨fun e=>?_,fun e=>?_⟩
 ·
  subst e;have:=hw.symm.trans h.hm;simp[wO,mpO]at this
 subst e;have:=hw.symm.trans h.ht;simp[wO]at this
theorem WS.set{H:List Rf}{g gm gt:Nat}{x:CM}{w:WM}(h:WS H g gm gt x w)(pg ln:Nat)(bo:Bool)(row:Option RM)(lin:D)(lines:List (Nat × Nat × List UInt8))(en:Bool)(hl:LinAt H lin (lines.map lnR)):WS (H.set g (wO x gm (.int .i64 (pg:Nat)) (.int .i64 (ln:Nat)) bo (rowO row) (.msl gt x.ctl 0 (x.ctl+1) none) lin en)) g gm gt x ⟨pg,ln,bo,row,w.tot,lines,en⟩:=by
 obtain⟨h1,h2⟩:=h.ne;obtain⟨lin0,hw,_⟩:=h.hw;refine⟨⟨lin,Bn hw _,hl.keep fun j o hj he=>Bg hj (fun e=>?_) _⟩,Bg h.hm h1 _,Bg h.ht h2 _,h.hn⟩;subst e;rw[hw]at hj;obtain rfl:=Option.some.inj hj;simp[wO]at he
theorem Keep.set{H:List Rf}{g gm gt:Nat}{x:CM}{w:WM}(h:WS H g gm gt x w)(o':Rf):Keep H (H.set g o'):=by
 obtain⟨lin0,hw,_⟩:=h.hw;refine⟨by simp,fun j o hj hk=>Bg hj (fun e=>?_) _⟩;subst e;rw[hw]at hj;obtain rfl:=Option.some.inj hj;simp[wO]at hk
theorem fpApp_eta(s x r:D)(wr:Bool):Av s x r wr=⟨true,(Av s x r wr).reads,(Av s x r wr).writes,(Av s x r wr).creates,none⟩:=by
 unfold Av;split
 ·
  split
  ·
   split<;>rfl
  unfold Am;split<;>rfl
 rfl
def J2 (b:List UInt8) (c:Nat):List UInt8:=b++List.replicate (c-1-b.length) 32
def Dj (w:WM) (its:List It):List UInt8:=its.foldl (fun b it=>J2 b it.col++it.txt w) []
def LsOK (w:WM) (its:List It):Prop:=∀(k:Nat) (it:It),its[k]?=some it→it.ok w∧(Dj w (its.take k)).length+1≤it.col∧it.col≤(Dj w (its.take k)).length+10∧(it.txt w).length≤100∧it.col≤100
def WM.put (w:WM) (p:Nat) (s:List UInt8):WM:={ w with line:=w.line+p,lines:=w.lines++[(w.page,w.line+p,s)] }
def WM.write (w:WM) (tl:List (Nat × List It)):WM:=tl.foldl (fun w q=>w.put q.1 (Dj w q.2)) w
theorem txt_put(w:WM)(p:Nat)(s:List UInt8)(it:It):it.txt (w.put p s)=it.txt w:=by cases it<;>rfl
theorem ok_put(w:WM)(p:Nat)(s:List UInt8)(it:It):it.ok (w.put p s)=it.ok w:=by cases it<;>rfl
theorem rend_put(w:WM)(p:Nat)(s:List UInt8)(its:List It):Dj (w.put p s) its=Dj w its:=by
 unfold Dj;congr 1
theorem write_f(w:WM)(tl:List (Nat × List It)):(∀it:It,it.txt (w.write tl)=it.txt w)∧(∀it:It,it.ok (w.write tl)=it.ok w)∧(∀its,Dj (w.write tl) its=Dj w its)∧(w.write tl).lines.length=w.lines.length+tl.length:=by
 induction tl generalizing w with
 | nil=>exact⟨fun _=>rfl,fun _=>rfl,fun _=>rfl,rfl⟩
 | cons q l ih =>
  have e:w.write (q::l)=(w.put q.1 (Dj w q.2)).write l:=rfl;obtain⟨h1,h2,h3,h4⟩:=ih (w.put q.1 (Dj w q.2));refine⟨fun it=>?_,fun it=>?_,fun its=>?_,?_⟩
  ·
   rw[e,h1,txt_put]
  ·
   rw[e,h2,ok_put]
  ·
   rw[e,h3,rend_put]
  rw[e,h4];simp[WM.put];omega
theorem write_line(w:WM)(tl:List (Nat × List It))(n:Nat)(h:∀q∈tl,q.1≤n):(w.write tl).line≤w.line+n*tl.length:=by
 induction tl generalizing w with
 | nil=>simp[WM.write]
 | cons q l ih =>
  have e:w.write (q::l)=(w.put q.1 (Dj w q.2)).write l:=rfl;have:=ih (w.put q.1 (Dj w q.2)) (fun q' hq=>h q' (by simp[hq]));have h1:=h q (by simp);rw[e];simp only[WM.put,List.length_cons,Nat.mul_succ]at this ⊢;omega
def tlRow (q:Nat × List It):List D:=[.int .i64 (q.1:Nat),slB true 15 (q.2.map It.row) none]
theorem It.len(it:It):it.row.length=15:=by cases it<;>rfl
theorem It.cell(it:It):it.row.all D.Ru=true:=by cases it<;>rfl
theorem WS.put{K H':List Rf}{g gm gt:Nat}{x:CM}{w:WM}(h:WS K g gm gt x w){o:Rf}(ho:o.kind=0∧o.elem=91)(xJ:(K.set g o).length≤H'.length)(hf:∀(j:Nat) (o':Rf),(K.set g o)[j]?=some o'→(o'.kind=0∨o'.elem≠52)→H'[j]?=some o'){g' v':Nat}(p:Nat)(s:List UInt8)(hg':H'[g']?=some ⟨52,3,w.lines.map lnR++[lnR (w.page,w.line+p,s)],v',1,true⟩) :
  WS (H'.set g (wO x gm (.int .i64 (w.page:Nat)) (.int .i64 (w.line+p:Nat)) w.body (rowO w.row) (.msl gt x.ctl 0 (x.ctl+1) none) (.msl g' v' 0 (w.lines.length+1) none) w.ended)) g gm gt x (w.put p s)∧Keep K (H'.set g (wO x gm (.int .i64 (w.page:Nat)) (.int .i64 (w.line+p:Nat)) w.body (rowO w.row) (.msl gt x.ctl 0 (x.ctl+1) none) (.msl g' v' 0 (w.lines.length+1) none) w.ended)):=by
 obtain⟨h1,h2⟩:=h.ne;obtain⟨lin0,hw,_⟩:=h.hw;have hg:H'[g]?=some o:=hf g o (Bn hw _) (.inl ho.1)
 have uj:g≠g':=fun e=>by
  subst e;have:=hg.symm.trans hg';obtain rfl:=Option.some.inj this;simp at ho
 refine⟨⟨⟨_,Bn hg _,.inr ⟨by simp[WM.put],.inr ⟨g',v',by simp[WM.put],?_⟩⟩⟩,?_,?_,h.hn⟩,?_,fun j o' hj hk=>?_⟩
 ·
  rw[Ln_ uj,hg'];simp[WM.put]
 ·
  rw[Ln_ h1];exact hf gm _ (by rw[Ln_ h1];exact h.hm) (.inr (by simp[mpO]))
 ·
  rw[Ln_ h2];exact hf gt _ (by rw[Ln_ h2];exact h.ht) (.inr (by simp))
 ·
  simpa using xJ
 have hj2:j≠g:=fun e=>by
  subst e;rw[hw]at hj;obtain rfl:=Option.some.inj hj;simp[wO]at hk
 rw[Ln_ (Ne.symm hj2)];apply hf j o' (by rw[Ln_ (Ne.symm hj2)];exact hj);rcases hk with hk | hk
 ·
  exact .inl hk.1
 exact .inr (by rw[hk];decide)
theorem okHere_nil{n:Nat}{o:Ri}{fps:List FP}{fp:FP}{S:St}(h:Ba o.ord fps fp=true):Ag n [] o fps fp S=true:=by simp[Ag,h,Gz]
structure TG where
 kind:Nat
 level:Nat
 np:Bool
 tl:List (Nat × List It)
def TG.arg (t:TG):D:=.agg [.int .u8 (t.kind:Nat),.int .i64 (t.level:Nat),.bool t.np,slB true 2 (t.tl.map tlRow) none]
def TG.h (t:TG):Nat:=(t.tl.map (·.1)).sum
def tD1 (b:Bool):TG:=⟨4,0,b,[(1,[.key 1 0,.key 2 1,.num 4])]⟩
def tD2:TG:=⟨4,0,false,[(2,[.num 10])]⟩
def tRH:TG:=⟨1,0,false,[(1,[.lit 1 [82,72]])]⟩
def tPH:TG:=⟨2,0,false,[(1,[.lit 1 [80],.pag])]⟩
def tH (i:Nat) (b:Bool):TG:=⟨3,i,b,[(1,[.lit 1 [72,dgt i],.key 4 0,.key 5 1])]⟩
def tF (i:Nat) (b:Bool):TG:=⟨5,i,false,(1,[.lit 1 [70,dgt i],.key 4 0,.key 5 1,.tot i])::(if b then [(1,[])] else [])⟩
def tPF:TG:=⟨6,0,false,[(2,[.lit 1 [66],.pag])]⟩
def tRF:TG:=⟨7,0,false,[(1,[.lit 1 [82,70]])]⟩
def tZ:TG:=⟨0,0,false,[]⟩
def CM.tg (x:CM) (k lv:Nat):TG :=
 if k=1 then (if x.has 0 then tRH else tZ)
 else if k=2 then (if x.has 1&&x.paged then tPH else tZ)
 else if k=3 then (if x.has (2+lv) then tH lv (x.nps (1+lv)) else tZ)
 else if k=5 then (if x.has (5+lv) then tF lv (x.blk lv) else tZ)
 else if k=6 then (if x.has 8&&x.paged then tPF else tZ)
 else if x.has 9 then tRF else tZ
structure WB (w:WM) (n:Nat):Prop where
 row:w.row≠none
 page:w.page≤n
 line:w.line≤n
 lines:w.lines.length≤n
 tot:∀m∈w.tot,m≤1000*n
theorem WB.totM{w:WM}{n n':Nat}(h:WB w n)(hn:n≤n'):∀m∈w.tot,m≤1000*n':=fun m hm=>by have:=h.tot m hm;omega
def TOK (w:WM) (t:TG):Prop:=t.tl.length≤2∧∀q∈t.tl,q.2.length≤1000∧LsOK w q.2∧q.1≤2
def chkL (w:WM):Nat→List It→Prop
 | _,[]=>True
 | n,it::l=>it.ok w∧n+1≤it.col∧it.col≤n+10∧(it.txt w).length≤100∧it.col≤100∧chkL w (it.col-1+(it.txt w).length) l
theorem chk_go(w:WM):∀(l p:List It),chkL w (Dj w p).length l→∀(k:Nat) (it:It),l[k]?=some it→it.ok w∧(Dj w (p++l.take k)).length+1≤it.col∧it.col≤(Dj w (p++l.take k)).length+10∧(it.txt w).length≤100∧it.col≤100
 | [],_,_,k,it,h=>by simp at h
 | i::l,p,hc,0,it,h=>by
  obtain rfl:i=it:=by simpa using h
  obtain⟨h1,h2,h3,h4,h5,_⟩:=hc;simpa using ⟨h1,h2,h3,h4,h5⟩
 | i :: l, p, hc, k + 1, it, h => by
  obtain⟨h1,h2,h3,h4,h5,h6⟩:=hc;have e:Dj w (p++[i])=J2 (Dj w p) i.col++i.txt w:=by simp[Dj,List.foldl_append]
  have e2:(Dj w (p++[i])).length=i.col-1+(i.txt w).length:=by
   rw[e];simp[J2];omega
  have:=chk_go w l (p++[i]) (by rw[e2];exact h6) k it (by simpa using h);simpa using this
theorem M9{w:WM}{its:List It}(h:chkL w 0 its):LsOK w its:=fun k it hk=>by
 have:=chk_go w its [] h k it hk;simpa using this
theorem Ow{w:WM}{n:Nat}{x:CM}(hB:WB w n)(hn:n<100000)(ht:w.tot.length=x.ctl+1){k lv:Nat}(hl:lv<x.ctl+1):TOK w (x.tg k lv):=by
 obtain⟨y,hy⟩:=Option.ne_none_iff_exists'.1 hB.row;have hp:w.page<100000:=by have:=hB.page;omega
 have xJ:lv<w.tot.length:=by omega
 have htm:w.tot.getD lv 0<10 ^ 15:=by
  rw[show w.tot.getD lv 0=w.tot[lv] by simp[xJ]];have:=hB.tot _ (List.getElem_mem xJ);omega
 have htm2:w.tot[lv]<1000000000000000:=by have:=hB.tot _ (List.getElem_mem xJ);omega
 have c1:∀a b,LsOK w [.lit 1 [a,b]]:=fun a b=>M9 (by simp[chkL,It.ok,It.col,It.txt]);have c2:∀a,LsOK w [.lit 1 [a],.pag]:=fun a=>M9 (by simp[chkL,It.ok,It.col,It.txt,hp,Cz]);have c3:∀a b,LsOK w [.lit 1 [a,b],.key 4 0,.key 5 1]:=fun a b=>M9 (by simp[chkL,It.ok,It.col,It.txt,hy]);have c4:∀a b,LsOK w [.lit 1 [a,b],.key 4 0,.key 5 1,.tot lv]:=fun a b=>M9 (by simp[chkL,It.ok,It.col,It.txt,hy,Cz,xJ];exact htm2);have c5:LsOK w []:=M9 trivial;have z:TOK w tZ:=⟨by simp[tZ],by simp[tZ]⟩;unfold CM.tg
 repeat' split
 ·
  exact⟨by simp[tRH],by simp[tRH,c1]⟩
 ·
  exact z
 ·
  exact⟨by simp[tPH],by simp[tPH,c2]⟩
 ·
  exact z
 ·
  exact⟨by simp[tH],by simp[tH,c3]⟩
 ·
  exact z
 ·
  cases x.blk lv
  ·
   exact⟨by simp[tF],by simp[tF,c4]⟩
  exact⟨by simp[tF],by simp[tF,c4,c5]⟩
 ·
  exact z
 ·
  exact⟨by simp[tPF],by simp[tPF,c2]⟩
 ·
  exact z
 ·
  exact⟨by simp[tRF],by simp[tRF,c1]⟩
 exact z
theorem tok_D1{w:WM}{n:Nat}(hB:WB w n)(b:Bool):TOK w (tD1 b):=by
 obtain⟨y,hy⟩:=Option.ne_none_iff_exists'.1 hB.row;have c:LsOK w [.key 1 0,.key 2 1,.num 4]:=M9 (by simp[chkL,It.ok,It.col,It.txt,hy,Cz]);exact⟨by simp[tD1],by simp[tD1,c]⟩
theorem tok_D2{w:WM}{n:Nat}(hB:WB w n):TOK w tD2:=by
 obtain⟨y,hy⟩:=Option.ne_none_iff_exists'.1 hB.row;have c:LsOK w [.num 10]:=M9 (by simp[chkL,It.ok,It.col,It.txt,hy,Cz]);exact⟨by simp[tD2],by simp[tD2,c]⟩
def WF (d f:Nat) (args:List D) (g gm gt:Nat) (x:CM) (w w':WM):Prop:=∀(H:List Rf) (low:Nat),WS H g gm gt x w→∃r,(∃T wr,r=(.tup [],T,wr)∧Ef ⟨H,low⟩ T g gm gt x w w')∧Bl LP NN d f (.ptr g 0 0 0::args) ⟨H,low⟩=some r
theorem WF.go{d f:Nat}{args:List D}{g gm gt:Nat}{x:CM}{w w':WM}(h:WF d f args g gm gt x w w'){H:List Rf}(low:Nat)(hW:WS H g gm gt x w):∃H' lo' wr,Bl LP NN d f (.ptr g 0 0 0::args) ⟨H,low⟩=some (.tup [],⟨H',lo'⟩,wr)∧WS H' g gm gt x w'∧Keep H H'∧(lo'≤max g gt∨w'=w)∧lo'≤low:=by
 obtain⟨r,⟨T,wr,rfl,h1⟩,h2⟩:=h H low hW;exact⟨T.heap,T.low,wr,h2,h1.ws,h1.kp,h1.lo,h1.lm⟩
theorem WB.write{w:WM}{n:Nat}(h:WB w n){t:TG}(ht:TOK w t):WB (w.write t.tl) (n+4):=by
 have key:∀(tl:List (Nat × List It)) (w:WM),(w.write tl).row=w.row∧(w.write tl).page=w.page∧(w.write tl).tot=w.tot:=by
  intro tl
  induction tl with
  | nil=>intro w;exact⟨rfl,rfl,rfl⟩
  | cons q l ih=>intro w;exact ih (w.put q.1 (Dj w q.2))
 obtain⟨h1,h2,h3⟩:=key t.tl w;have h4:=(write_f w t.tl).2.2.2;have h5:=write_line w t.tl 2 (fun q hq=>(ht.2 q hq).2.2);have h6:=ht.1;have:=h.page;have:=h.line;have:=h.lines
 exact⟨by rw[h1];exact h.row,by omega,by omega,by omega,by rw[h3];exact h.totM (by omega)⟩
theorem Ea(w:WM)(tl:List (Nat × List It)):(w.write tl).row=w.row∧(w.write tl).page=w.page∧(w.write tl).tot=w.tot∧(w.write tl).body=w.body∧(w.write tl).ended=w.ended:=by
 induction tl generalizing w with
 | nil=>exact⟨rfl,rfl,rfl,rfl,rfl⟩
 | cons q l ih=>exact ih (w.put q.1 (Dj w q.2))
def Dm (x:CM) (w:WM):WM:=({ w with line:=x.L }:WM).write (x.tg 6 0).tl
theorem CM.L_le(x:CM):x.L≤12:=by
 have h1:x.p1 % 3<3:=Nat.mod_lt _ (by decide);have h2:x.p2 % 4<4:=Nat.mod_lt _ (by decide)
 unfold CM.L CM.last CM.first
 split<;>omega
def Es (x:CM) (w:WM):WM:=({ Dm x w with page:=(Dm x w).page+1,line:=0,body:=false }:WM).write (x.tg 2 0).tl
def Mc (x:CM) (w:WM) (t:TG):Bool:=w.body&&(t.np||decide (x.L<t.h+max w.line (x.F-1)))
def Hy (x:CM) (w:WM) (t:TG):WM :=
 if x.P=0 then w else
 if t.tl=[] then (if Mc x w t then Es x w else w) else { (if Mc x w t then Es x w else w) with line:=max (if Mc x w t then Es x w else w).line (x.F-1),body:=true }
def Dr (x:CM) (w:WM) (t:TG):WM:=(Hy x w t).write t.tl
theorem CM.pg(x:CM)(h:x.P≠0):3≤x.F∧x.F≤5∧x.F+3≤x.L∧x.L+2=x.P∧x.L≤12:=by
 have h0:=x.L_le;have h1:x.p1 % 3<3:=Nat.mod_lt _ (by decide)
 cases hp:x.paged with
 | false=>simp[CM.P,hp]at h
 | true =>
  simp[CM.F,CM.L,CM.P,hp,CM.last,CM.first]at h0 ⊢;omega
theorem WB.bottom{w:WM}{n:Nat}(h:WB w n){x:CM}(hn:n≤50000)(ht:w.tot.length=x.ctl+1):WB ({ w with line:=x.L }:WM) (n+12)∧WB (Dm x w) (n+16):=by
 have h0:=x.L_le;have h1:WB ({ w with line:=x.L }:WM) (n+12):=⟨h.row,by have:=h.page;show w.page≤_;omega,by show x.L≤_;omega,by have:=h.lines;show w.lines.length≤_;omega,h.totM (by omega)⟩;exact⟨h1,h1.write (Ow h1 (by omega) ht (by omega))⟩
theorem bottom_f(x:CM)(w:WM):(Dm x w).row=w.row∧(Dm x w).page=w.page∧(Dm x w).tot=w.tot∧(Dm x w).body=w.body∧(Dm x w).ended=w.ended:=Ea _ _
theorem WB.page'{w:WM}{n:Nat}(h:WB w n){x:CM}(hn:n≤50000)(ht:w.tot.length=x.ctl+1):WB ({ Dm x w with page:=(Dm x w).page+1,line:=0,body:=false }:WM) (n+17)∧WB (Es x w) (n+21):=by
 have h1:=(h.bottom hn ht).2;have h2:=bottom_f x w;have h3:WB ({ Dm x w with page:=(Dm x w).page+1,line:=0,body:=false }:WM) (n+17):=⟨h1.row,by have:=h1.page;show (Dm x w).page+1≤_;omega,Nat.zero_le _,by have:=h1.lines;show (Dm x w).lines.length≤_;omega,h1.totM (by omega)⟩;exact⟨h3,h3.write (Ow h3 (by omega) (by show (Dm x w).tot.length=_;rw[h2.2.2.1];exact ht) (by omega))⟩
theorem page_f(x:CM)(w:WM):(Es x w).row=w.row∧(Es x w).tot=w.tot∧(Es x w).ended=w.ended:=by
 have h1:=Ea ({ Dm x w with page:=(Dm x w).page+1,line:=0,body:=false }:WM) (x.tg 2 0).tl;have h2:=bottom_f x w;exact⟨h1.1.trans h2.1,h1.2.2.1.trans h2.2.2.1,h1.2.2.2.2.trans h2.2.2.2.2⟩
theorem tok_of{w w':WM}(h1:w'.row=w.row)(h2:w'.tot=w.tot)(h3:w'.page<100000){t:TG}(h:TOK w t):TOK w' t:=by
 have e1:∀it:It,(it.txt w').length=(it.txt w).length:=fun it=>by cases it<;>simp[It.txt,h1,h2,Cz]
 have e2:∀it:It,it.ok w→it.ok w':=fun it=>by
  cases it with
  | tot i=>intro h;show i<w'.tot.length∧w'.tot.getD i 0<10 ^ 15;rw[h2];exact h
  | _=>simp_all [It.ok]
 have e3:∀(l:List It) (b b':List UInt8),b.length=b'.length→(l.foldl (fun b it=>J2 b it.col++it.txt w') b).length=(l.foldl (fun b it=>J2 b it.col++it.txt w) b').length:=by
  intro l
  induction l with
  | nil=>intro b b' h;exact h
  | cons it l ih=>intro b b' h;exact ih _ _ (by simp[J2,h,e1])
 refine⟨h.1,fun q hq=>⟨(h.2 q hq).1,fun k it hk=>?_,(h.2 q hq).2.2⟩⟩;obtain⟨c1,c2,c3,c4,c5⟩:=(h.2 q hq).2.1 k it hk;have:=e3 (q.2.take k) [] [] rfl;unfold Dj at c2 c3 ⊢;exact⟨e2 it c1,by omega,by omega,by rw[e1];exact c4,c5⟩
end Go.Proofs.YtbhnlppboegmjaaGreatDoor
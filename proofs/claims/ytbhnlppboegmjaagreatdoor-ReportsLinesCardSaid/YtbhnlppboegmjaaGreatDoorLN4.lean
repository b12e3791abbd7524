/- Proved here: parts of the proof, joined (Low1, Low2, Low, LoRp, S0, K0, K42, K43, K44, K45, K50, K51, K52, K53, K54, K55, K56, K57, K58, K59): an abstract machine, its soundness, what functions of the program compute in it; no condition. -/
import Derived.Lib.AppendIntMem
import Derived.Test.YtbhnlppboegmjaaGreatDoorLN3
namespace Go.Proofs.YtbhnlppboegmjaaGreatDoor
set_option maxRecDepth 100000
set_option maxHeartbeats 4000000
set_option linter.unusedVariables false
def F3:LFunc:=⟨[0,1,2,4,5,6,7,8,9,12,27,31,58],2,
sr [qo (.boxc 7) [.env 0],
qbb false] [(2,1),(3,0)]
(.seq (sr [qe 1,
qln false 0,
qo (.bin .gtr) [.loc 0,qki 40]] [(9,0)]
(cn 9 (sr [qo (.call 8) [],
ql 0] [(3,0)]
(.ret)) (.skip)))
(sr [qde 7 2,
qk 10 0,
qk 9 0,
ql 0,
qx 0 0,
qx 1 1,
ql 1,
ql 1] [(4,1),(5,0)]
(.seq (sr [qe 5,
qo (.bin .neq) [.loc 0,qki 0],
ql 0,
qge 4 0 false,
qg (.call 11) [.loc 0] 1 false,
qg (.len false) [.loc 0] 2 false,
qg (.bin .neq) [.loc 0,qki 0] 3 false,
qpt 4 0] [(10,0)]
(cn 10 (sr [qbb false] [(3,0)]
(.ret)) (.skip)))
(.seq (sr [qi 0] [(6,0)]
(.block 0 (.loop (.seq (sr [qe 6,
qe 1,
qln false 0,
ql2 2 0] [(11,0)]
(cn 11 (.skip) (.exit 0)))
(.seq (.block 1 (.seq (.drawn [qe 4,
qwe 1 0 1,
qwe 6 0 2,
qw (.iaddr 4) [.loc 1,.loc 0] 6 3,
qw (.load 4 true) [.loc 0] 14 4,
qw (.call 13) [.loc 0] 30 5,
qwe 1 0 6,
qwe 6 0 7,
qw (.iaddr 4) [.loc 1,.loc 0] 192 8,
qw (.load 4 true) [.loc 0] 448 9,
qw (.call 14) [.loc 0] 1022 10,
qw (.call 12) [.loc 10,.loc 5,.loc 0] 2047 11,
qw (.bin .neq) [.loc 0,qki 0] 4095 12,
qwl 0 8191 13,
qh .mv [.env 4] 0 false 16383 14,
qh (.call 11) [.loc 0] 1 false 32767 15,
qh (.load 7 true) [.env 2] 2 false 16383 16,
qh .mv [.env 1] 3 false 16383 17,
qh .mv [.env 6] 4 false 16383 18,
qh (.bin .add) [.loc 0,qki 1] 5 false 278527 19,
qh (.slice false 4 false true false) [.loc 2,.loc 0] 6 false 933887 20,
qh (.call 16) [.loc 4,.loc 0,.const (.bool false)] 7 false 2097151 21,
qh (.call 15) [.loc 6,.loc 0] 8 false 4194303 22,
qh (.un .not) [.loc 0] 9 false 8388607 23,
qw .pick [.loc 10,.const (.bool true),.loc 0] 16777215 24] [(12,0)] [])
(cn 12 (sr [qbb false] [(3,0)]
(.ret)) (.skip))))
(rg [qe 6,
qad 0 1,
ql 0] [(6,0)]))))))
(sr [qe 4,
qk 17 0,
ql 0] [(7,0)]
(sr [qe 4,
qk 11 0,
ql 0] [(8,0)]
(sr [qe 7,
qo (.bin .eql) [.loc 0,qki 0],
ql 0,
qge 8 0 true,
qg (.load 7 true) [.env 2] 1 true,
qge 1 2 true,
qg (.call 16) [.loc 1,.loc 0,.const (.bool true)] 3 true,
qg (.call 15) [.loc 3,.loc 0] 4 true,
qpf 5 0,
ql 0,
qge 8 0 true,
qg .cap [.loc 0] 1 true,
qge 8 2 true,
qg (.len false) [.loc 0] 3 true,
qg (.bin .eql) [.loc 2,.loc 0] 4 true,
qpf 5 0,
ql 0,
qge 4 0 true,
qg (.call 17) [.loc 0] 1 true,
qg (.bin .eql) [.loc 0,qki 6] 2 true,
qpf 3 0,
ql 0,
qge 4 0 true,
qg (.call 11) [.loc 0] 1 true,
qge 8 2 true,
qg (.call 15) [.loc 1,.loc 0] 3 true,
qpf 4 0,
ql 0,
qg (.call 8) [] 0 true,
qpf 1 0,
ql 0] [(3,0)]
(.ret)))))))),
[.tmp 3]⟩
def F8:LFunc:=⟨[0,1,2,3,4,5,6,7,8,9,50,72],0,
sr [qbb false] [(0,0)]
(sr [qo (.call 28) [.const (.str ⟨#[90,90,57]⟩)],
qo (.alloc 64 zwd) [],
qso 11 0 1] [(1,1)]
(sr [qo (.call 28) [.const (.str ⟨#[90,57]⟩)],
qo (.alloc 64 zwd) [],
qso 11 0 1] [(2,1)]
(sr [qo (.call 29) [qki 1],
qo (.call 27) [qki 2],
qo (.bslice 64 11 2 zwd [0,1] 1) [.loc 1,.loc 0],
qo (.bslice 3 1 1 [.int .i64 0] [0] 1) [qki 0],
qo (.build [.int .i64 0,.int .i64 0] [(0,1),(1,1)]) [qki 1,qki 1],
qo (.build [.int .i64 0,.int .i64 0] [(0,1)]) [qki 1],
qo (.bslice 67 2 2 [.int .i64 0,.int .i64 0] [0,1] 1) [.loc 1,.loc 0],
qo (.build zwc [(0,1),(1,1),(6,1)]) [.loc 4,.loc 3,.loc 0],
qo (.alloc 37 zwc) [],
qso 7 0 1] [(3,1)]
(sr [qo (.call 29) [qki 1],
qo (.build zwa [(0,1),(1,11),(12,1)]) [qki 1,.loc 0,qkb 2],
qo (.alloc 82 zwa) [],
qso 15 0 1] [(4,1)]
(sr [qde 11 2,
qo (.build zwa [(0,1),(1,11),(12,1),(14,1)]) [qki 3,.loc 0,qkb 2,qki 1],
qo (.bslice 82 15 1 zwa [0] 1) [.loc 0],
qo (.build [.int .i64 0,.nils] [(0,1),(1,1)]) [qki 1,.loc 0],
qo (.bslice 74 2 1 [.int .i64 0,.nils] [0] 1) [.loc 0],
qo (.build [.int .u8 0,.int .i64 0,.bool false,.nils] [(0,1),(3,1)]) [qkb 4,.loc 0],
qde 15 4,
qde 11 1,
qo (.build zwa [(0,1),(1,11),(12,1)]) [qki 3,.loc 0,qkb 3],
qo (.bslice 82 15 2 zwa [0,1] 1) [.loc 2,.loc 0],
qo (.build [.int .i64 0,.nils] [(0,1),(1,1)]) [qki 1,.loc 0],
qo (.bslice 74 2 1 [.int .i64 0,.nils] [0] 1) [.loc 0],
qo (.build [.int .u8 0,.int .i64 0,.bool false,.nils] [(0,1),(1,1),(3,1)]) [qkb 5,qki 1,.loc 0],
qde 11 1,
qo (.build zwa [(0,1),(1,11),(12,1),(14,1)]) [qki 3,.loc 0,qkb 3,qki 1],
qo (.bslice 82 15 1 zwa [0] 1) [.loc 0],
qo (.build [.int .i64 0,.nils] [(0,1),(1,1)]) [qki 1,.loc 0],
qo (.bslice 74 2 1 [.int .i64 0,.nils] [0] 1) [.loc 0],
qo (.build [.int .u8 0,.int .i64 0,.bool false,.nils] [(0,1),(3,1)]) [qkb 5,.loc 0],
qo (.bslice 71 4 3 [.int .u8 0,.int .i64 0,.bool false,.nils] [0,1,2] 1) [.loc 13,.loc 6,.loc 0],
qfe 5 3,
qso 1 0 1] []
(sr [qde 7 3,
qk 9 0,
ql 0,
qx 0 0,
qx 1 1,
ql 1,
ql 1] [(5,1),(6,0)]
(sr [qo (.bslice 9 1 3 [.str ⟨#[]⟩] [0,1,2] 1) [.const (.str ⟨#[65,48,53]⟩),.const (.str ⟨#[65,49,48]⟩),.const (.str ⟨#[66,48,55]⟩)],
ql 0] [(7,0)]
(.seq (sr [qi 0] [(8,0)]
(.block 0 (.loop (.seq (sr [qe 8,
qo (.bin .lss) [.loc 0,qki 3]] [(10,0)]
(cn 10 (.skip) (.exit 0)))
(.seq (.block 1 (.seq (.drawn [qe 5,
qw (.call 29) [qki 1] 0 1,
qwe 7 0 2,
qwe 8 0 3,
qw (.iaddr 1) [.loc 1,.loc 0] 12 4,
qwd 1 0 28 5,
qw (.slice true 0 false true false) [.loc 0,qki 1] 60 6,
qw .strb [.loc 0] 124 7,
qw (.build zwb [(0,11),(11,1)]) [.loc 6,.loc 0] 254 8,
qw (.call 27) [qki 2] 2 9,
qwe 7 0 10,
qwe 8 0 11,
qw (.iaddr 1) [.loc 1,.loc 0] 3072 12,
qwd 1 0 7168 13,
qw (.slice true 0 true false false) [.loc 0,qki 1] 15360 14,
qw .strb [.loc 0] 31744 15,
qw (.build zwb [(0,11),(11,1)]) [.loc 6,.loc 0] 65026 16,
qw (.bslice 77 12 2 zwb [0,1] 1) [.loc 8,.loc 0] 131070 17,
qw (.call 12) [.loc 17,qki 0,.loc 0] 262143 18,
qw (.bin .neq) [.loc 0,qki 0] 524287 19] [(11,0)] [])
(cn 11 (sr [qbb false] [(0,0)]
(.ret)) (.skip))))
(rg [qe 8,
qad 0 1,
ql 0] [(8,0)]))))))
(sr [qe 5,
qk 17 0,
ql 0] [(9,0)]
(sr [qe 6,
qo (.bin .eql) [.loc 0,qki 0],
ql 0,
qge 9 0 true,
qg (.bin .eql) [.loc 0,qki 0] 1 true,
qpf 2 0,
ql 0,
qge 5 0 true,
qg (.call 11) [.loc 0] 1 true,
qg (.call 21) [.loc 0] 2 true,
qg (.bin .eql) [.loc 0,.const (.str ⟨#[32,32,32,53,10,32,32,49,48,10,65,32,32,49,53,10,32,32,32,55,10,66,32,32,32,55,10,32,32,32,50,50,10]⟩)] 3 true,
qpf 4 0,
ql 0] [(0,0)]
(.ret))))))))))),
[.tmp 0]⟩
def F9:LFunc:=⟨[0,1,2,3,4,5,7,11,22,23,24,25,30,47,48,49],1,
sr [qo (.box 37 7) [.env 0],
qo .mv [.const (.nilp)],
qi 0] [(1,2),(2,1),(3,0)]
(.seq (sr [qde 7 1,
qk 30 0,
ql 0] [(4,0)]
(sr [qe 4,
qo (.bin .neq) [.loc 0,qki 0]] [(7,0)]
(cn 7 (sr [qe 4,
qo .mv [.const (.nilp)],
ql 1] [(2,1),(3,0)]
(.ret)) (.skip))))
(sr [qde 7 1,
qk 31 0,
qo .mkmap [],
qo (.build [.nils,.nils,.int .i64 0,.int .i64 0,.int .i64 0,.nils,.nils,.int .i64 0,.int .i64 0,.bool false,.nils,.nils,.nils,.bool false,.nilm,.bool false] [(0,7),(14,1)]) [.loc 1,.loc 0],
qo (.box 91 16) [.loc 0],
ql 0] [(5,0)]
(.seq (sr [qe 5,
qnl 0,
qfl 0 0,
qfl 5 0,
qd 1 0,
qln false 0,
qi 0] [(8,2),(9,1),(10,0)]
(.block 0 (.loop (sr [qlt 10 9] [(11,0)]
(.seq (cn 11 (.skip) (.exit 0))
(.seq (.block 1 (sr [qo (.iaddr 4) [.env 8,.env 10],
qdt 4 0,
qo (.alloc 71 [.int .u8 0,.int .i64 0,.bool false,.nils]) [],
qso 4 0 1] [(6,1)]
(sr [qfe 0 6,
qd 1 0,
qo (.bin .neq) [.loc 0,qkb 4]] [(12,0)]
(cn 12 (.drawn [qe 5,
qwk 0 1 1,
qwf 14 0 3 2,
qwd 1 0 7 3,
qw (.faddr 0) [.env 6] 0 4,
qwd 1 0 16 5,
qw (.faddr 1) [.env 6] 0 6,
qwd 1 0 64 7,
qw (.build [.int .u8 0,.int .i64 0] [(0,1),(1,1)]) [.loc 2,.loc 0] 240 8,
qw (.load 4 true) [.env 6] 0 9,
qw (.mapsetS [0,0]) [.loc 6,.loc 1,.loc 0] 1023 10] [] []) (.skip)))))
(rg [qae 10 1,
ql 0] [(10,0)])))))))
(.seq (sr [qe 5,
qnl 0,
qfl 0 0,
qfl 6 0,
qd 1 0,
qln false 0,
qi 0] [(13,1),(14,0)]
(.block 2 (.loop (sr [qlt 14 13] [(15,0)]
(.seq (cn 15 (.skip) (.exit 2))
(.seq (.block 3 (.drawn [qe 5,
qwe 5 0 1,
qwk 0 2 2,
qwf 7 0 6 3,
qwf 4 0 14 4,
qwd 1 0 30 5,
qw (.call 26) [qki 0] 0 6,
qw (.bslice 57 3 1 [.bool false,.str ⟨#[]⟩,.int .i64 0] [0] 1) [.loc 0] 64 7,
qw (.append 57 3 32 2) [.loc 2,.loc 0] 254 8,
qwk 8 511 9,
qwf 7 0 1023 10,
qwf 4 0 2047 11,
qw (.store 1) [.loc 0,.loc 3] 4095 12] [] []))
(rg [qae 14 1,
ql 0] [(14,0)])))))))
(sr [qe 5,
ql 0,
qi 0] [(2,1),(3,0)]
(.ret)))))),
[.tmp 2,.tmp 3]⟩
def F10:LFunc:=⟨[0,1,2,3,4,5,6,7,8,9,10,11,20,32,43,89,107,122,128,161,186,204,217],1,
sr [qo (.boxc 7) [.env 0],
qo (.alloc 37 zwc) []] [(1,1),(2,0)]
(sr [qo (.call 29) [qki 1],
qo (.call 29) [qki 1],
qo (.call 27) [qki 3],
qo (.bslice 64 11 3 zwd [0,1,2] 1) [.loc 2,.loc 1,.loc 0],
qo (.build zwc [(0,1)]) [.loc 0],
qo (.alloc 37 zwc) [],
qso 7 0 1] [(3,1)]
(.seq (sr [qi 0] [(4,0)]
(.block 0 (.loop (.seq (sr [qe 4,
qde 7 1,
qk 22 0,
ql2 2 0] [(12,0)]
(cn 12 (.skip) (.exit 0)))
(.seq (.block 1 (rg [qfe 1 3,
qd 1 0,
qe 4,
qo (.bslice 3 1 1 [.int .i64 0] [0] 1) [.loc 0],
qo (.append 3 1 8 1) [.loc 2,.loc 0],
qfe 1 3,
qso 1 0 1] []))
(rg [qe 4,
qad 0 1,
ql 0] [(4,0)]))))))
(.seq (sr [qi 0] [(5,0)]
(.block 2 (.loop (.seq (sr [qe 5,
qde 7 1,
qk 22 0,
qo (.bin .leq) [.loc 2,.loc 0]] [(13,0)]
(cn 13 (.skip) (.exit 2)))
(.seq (.block 3 (rg [qfe 6 3,
qd 1 0,
qe 5,
qo (.build [.int .i64 0,.int .i64 0] [(0,1),(1,1)]) [qki 2,.loc 0],
qo (.bslice 67 2 1 [.int .i64 0,.int .i64 0] [0] 1) [.loc 0],
qo (.append 67 2 16 1) [.loc 3,.loc 0],
qfe 6 3,
qso 1 0 1] []))
(rg [qe 5,
qad 0 1,
ql 0] [(5,0)]))))))
(.seq (sr [qde 7 1,
qk 32 0] [(14,0)]
(cn 14 (sr [qde 7 1,
qk 20 0,
qfe 3 3,
qso 1 0 1] []
(sr [qde 7 1,
qk 19 0,
qfe 4 3,
qso 1 0 1] []
(rg [qde 7 1,
qk 19 0,
qad 0 2,
qfe 2 3,
qso 1 0 1] []))) (.skip)))
(sr [qo (.call 27) [qki 3],
qo (.build zwa [(0,1),(1,11),(12,1),(14,1)]) [qki 4,.loc 0,qkb 2,qki 2],
qo (.alloc 82 zwa) [],
qso 15 0 1] [(6,1)]
(sr [qde 15 6,
qo (.alloc 82 zwa) [],
qso 15 0 1] [(7,1)]
(sr [qfe 0 7,
qo (.store 1) [.loc 0,qki 10]] []
(.seq (.drawn [qfe 5 3,
qwd 1 0 1 1,
qw (.load 7 true) [.env 1] 0 2,
qw (.call 32) [.loc 0] 4 3,
qwl 0 12 4,
qh (.faddr 3) [.env 1] 0 true 28 5,
qh (.load 1 false) [.loc 0] 1 true 60 6,
qh (.bin .and) [.loc 0,qkb 1] 2 true 124 7,
qh (.bin .eql) [.loc 0,qkb 1] 3 true 252 8,
qw .pick [.loc 4,.loc 0,.const (.bool false)] 508 9,
qw (.call 33) [qki 1] 28 10,
qw (.load 15 true) [.env 6] 0 11,
qw (.bslice 82 15 1 zwa [0] 1) [.loc 0] 2048 12,
qw (.append 82 15 104 1) [.loc 2,.loc 0] 7196 13,
qw (.build [.int .i64 0,.nils] [(0,1),(1,1)]) [qki 1,.loc 0] 15388 14,
qw (.bslice 74 2 1 [.int .i64 0,.nils] [0] 1) [.loc 0] 31772 15,
qw (.build [.int .u8 0,.int .i64 0,.bool false,.nils] [(0,1),(2,1),(3,1)]) [qkb 4,.loc 6,.loc 0] 65532 16,
qw (.bslice 71 4 1 [.int .u8 0,.int .i64 0,.bool false,.nils] [0] 1) [.loc 0] 131068 17,
qw (.append 71 4 48 1) [.loc 16,.loc 0] 262143 18,
qw (.faddr 5) [.env 3] 524287 19,
qw (.store 1) [.loc 0,.loc 1] 1048575 20] [] [])
(sr [qfe 5 3,
qd 1 0,
qde 15 7,
qo (.bslice 82 15 1 zwa [0] 1) [.loc 0],
qo (.build [.int .i64 0,.nils] [(0,1),(1,1)]) [qki 2,.loc 0],
qo (.bslice 74 2 1 [.int .i64 0,.nils] [0] 1) [.loc 0],
qo (.build [.int .u8 0,.int .i64 0,.bool false,.nils] [(0,1),(3,1)]) [qkb 4,.loc 0],
qo (.bslice 71 4 1 [.int .u8 0,.int .i64 0,.bool false,.nils] [0] 1) [.loc 0],
qo (.append 71 4 48 1) [.loc 6,.loc 0],
qfe 5 3,
qso 1 0 1] []
(.seq (sr [qde 7 1,
qo (.call 34) [.loc 0,qki 0]] [(15,0)]
(cn 15 (.drawn [qfe 5 3,
qwd 1 0 1 1,
qw (.call 35) [qki 1,.const (.str ⟨#[82,72]⟩)] 0 2,
qw (.bslice 82 15 1 zwa [0] 1) [.loc 0] 4 3,
qw (.build [.int .i64 0,.nils] [(0,1),(1,1)]) [qki 1,.loc 0] 12 4,
qw (.bslice 74 2 1 [.int .i64 0,.nils] [0] 1) [.loc 0] 28 5,
qw (.build [.int .u8 0,.int .i64 0,.bool false,.nils] [(0,1),(3,1)]) [qkb 1,.loc 0] 60 6,
qw (.bslice 71 4 1 [.int .u8 0,.int .i64 0,.bool false,.nils] [0] 1) [.loc 0] 124 7,
qw (.append 71 4 48 1) [.loc 6,.loc 0] 255 8,
qw (.faddr 5) [.env 3] 511 9,
qw (.store 1) [.loc 0,.loc 1] 1023 10] [] []) (.skip)))
(sr [qo (.call 27) [qki 2],
qo (.build zwa [(0,1),(1,11),(12,1)]) [qki 3,.loc 0,qkb 4],
qo (.alloc 82 zwa) [],
qso 15 0 1] [(8,1)]
(.seq (sr [qde 7 1,
qo (.call 34) [.loc 0,qki 1],
ql 0,
qg (.load 7 true) [.env 1] 0 true,
qg (.call 32) [.loc 0] 1 true,
qpf 2 0] [(16,0)]
(cn 16 (.drawn [qfe 5 3,
qwd 1 0 1 1,
qw (.call 35) [qki 1,.const (.str ⟨#[80]⟩)] 0 2,
qw (.load 15 true) [.env 8] 0 3,
qw (.bslice 82 15 2 zwa [0,1] 1) [.loc 1,.loc 0] 12 4,
qw (.build [.int .i64 0,.nils] [(0,1),(1,1)]) [qki 1,.loc 0] 28 5,
qw (.bslice 74 2 1 [.int .i64 0,.nils] [0] 1) [.loc 0] 60 6,
qw (.build [.int .u8 0,.int .i64 0,.bool false,.nils] [(0,1),(3,1)]) [qkb 2,.loc 0] 124 7,
qw (.bslice 71 4 1 [.int .u8 0,.int .i64 0,.bool false,.nils] [0] 1) [.loc 0] 252 8,
qw (.append 71 4 48 1) [.loc 7,.loc 0] 511 9,
qw (.faddr 5) [.env 3] 1023 10,
qw (.store 1) [.loc 0,.loc 1] 2047 11] [] []) (.skip)))
(.seq (sr [qi 0] [(9,0)]
(.block 4 (.loop (.seq (sr [qe 9,
qde 7 1,
qk 22 0,
qo (.bin .leq) [.loc 2,.loc 0]] [(17,0)]
(cn 17 (.skip) (.exit 4)))
(.seq (.block 5 (.seq (sr [qde 7 1,
qe 9,
qo (.bin .add) [qki 2,.loc 0],
qkk 34 2 0] [(18,0)]
(cn 18 (.drawn [qfe 5 3,
qwd 1 0 1 1,
qwe 9 0 2,
qw (.load 7 true) [.env 1] 0 3,
qw (.call 32) [.loc 0] 8 4,
qwl 0 24 5,
qh (.faddr 3) [.env 1] 0 true 56 6,
qh (.load 1 false) [.loc 0] 1 true 120 7,
qh .mv [.env 9] 2 true 56 8,
qh (.bin .add) [qki 1,.loc 0] 3 true 312 9,
qh (.bin .shr) [.loc 2,.loc 0] 4 true 1016 10,
qh (.bin .and) [.loc 0,qkb 1] 5 true 2040 11,
qh (.bin .eql) [.loc 0,qkb 1] 6 true 4088 12,
qw .pick [.loc 7,.loc 0,.const (.bool false)] 8184 13,
qwe 9 0 14,
qwe 9 0 15,
qw (.bin .add) [.loc 0,qki 1] 32768 16,
qw (.slice true 0 true true false) [.const (.str ⟨#[48,49,50]⟩),.loc 2,.loc 0] 114688 17,
qw (.bin .add) [.const (.str ⟨#[72]⟩),.loc 0] 245760 18,
qw (.call 35) [qki 1,.loc 0] 507960 19,
qw (.bslice 82 15 1 zwa [0] 1) [.loc 0] 1032248 20,
qw (.call 33) [qki 4] 1032248 21,
qw (.append 82 15 104 1) [.loc 1,.loc 0] 4177976 22,
qw (.build [.int .i64 0,.nils] [(0,1),(1,1)]) [qki 1,.loc 0] 8372280 23,
qw (.bslice 74 2 1 [.int .i64 0,.nils] [0] 1) [.loc 0] 16760888 24,
qw (.build [.int .u8 0,.int .i64 0,.bool false,.nils] [(0,1),(1,1),(2,1),(3,1)]) [qkb 3,.loc 22,.loc 11,.loc 0] 33554428 25,
qw (.bslice 71 4 1 [.int .u8 0,.int .i64 0,.bool false,.nils] [0] 1) [.loc 0] 67108860 26,
qw (.append 71 4 48 1) [.loc 25,.loc 0] 134217727 27,
qw (.faddr 5) [.env 3] 268435455 28,
qw (.store 1) [.loc 0,.loc 1] 536870911 29] [] []) (.skip)))
(sr [qde 7 1,
qe 9,
qo (.bin .add) [qki 5,.loc 0],
qkk 34 2 0] [(19,0)]
(cn 19 (sr [qo (.call 27) [qki 6],
qe 9,
qo (.build zwa [(0,1),(1,11),(12,1),(14,1)]) [qki 7,.loc 1,qkb 3,.loc 0],
qo (.alloc 82 zwa) [],
qso 15 0 1] [(10,1)]
(.seq (.drawn [qe 9,
qwe 9 0 1,
qwe 9 0 2,
qw (.bin .add) [.loc 0,qki 1] 4 3,
qw (.slice true 0 true true false) [.const (.str ⟨#[48,49,50]⟩),.loc 2,.loc 0] 14 4,
qw (.bin .add) [.const (.str ⟨#[70]⟩),.loc 0] 30 5,
qw (.call 35) [qki 1,.loc 0] 62 6,
qw (.bslice 82 15 1 zwa [0] 1) [.loc 0] 126 7,
qw (.call 33) [qki 4] 126 8,
qw (.append 82 15 104 1) [.loc 1,.loc 0] 510 9,
qw (.load 15 true) [.env 10] 0 10,
qw (.bslice 82 15 1 zwa [0] 1) [.loc 0] 1024 11,
qw (.append 82 15 104 1) [.loc 2,.loc 0] 4094 12,
qw (.build [.int .i64 0,.nils] [(0,1),(1,1)]) [qki 1,.loc 0] 8190 13,
qw (.bslice 74 2 1 [.int .i64 0,.nils] [0] 1) [.loc 0] 16382 14,
qw (.build [.int .u8 0,.int .i64 0,.bool false,.nils] [(0,1),(1,1),(3,1)]) [qkb 5,.loc 14,.loc 0] 32767 15,
⟨.mv,[.loc 16],none,ob 0 16,some 0⟩,
qw (.store 4) [.loc 0,.loc 1] 131071 17] [(11,1)] [(71,[.int .u8 0,.int .i64 0,.bool false,.nils])])
(.seq (sr [qfe 2 1,
qd 1 0,
qe 9,
qo (.bin .shr) [.loc 1,.loc 0],
qo (.bin .and) [.loc 0,qkb 1],
qo (.bin .eql) [.loc 0,qkb 1]] [(20,0)]
(cn 20 (rg [qfe 3 11,
qd 1 0,
qo (.build [.int .i64 0,.nils] [(0,1)]) [qki 1],
qo (.bslice 74 2 1 [.int .i64 0,.nils] [0] 1) [.loc 0],
qo (.append 74 2 32 1) [.loc 2,.loc 0],
qfe 3 11,
qso 1 0 1] []) (.skip)))
(rg [qfe 5 3,
qd 1 0,
qde 4 11,
qo (.bslice 71 4 1 [.int .u8 0,.int .i64 0,.bool false,.nils] [0] 1) [.loc 0],
qo (.append 71 4 48 1) [.loc 2,.loc 0],
qfe 5 3,
qso 1 0 1] [])))) (.skip)))))
(rg [qe 9,
qad 0 1,
ql 0] [(9,0)]))))))
(.seq (sr [qde 7 1,
qo (.call 34) [.loc 0,qki 8],
ql 0,
qg (.load 7 true) [.env 1] 0 true,
qg (.call 32) [.loc 0] 1 true,
qpf 2 0] [(21,0)]
(cn 21 (.drawn [qfe 5 3,
qwd 1 0 1 1,
qw (.call 35) [qki 1,.const (.str ⟨#[66]⟩)] 0 2,
qw (.load 15 true) [.env 8] 0 3,
qw (.bslice 82 15 2 zwa [0,1] 1) [.loc 1,.loc 0] 12 4,
qw (.build [.int .i64 0,.nils] [(0,1),(1,1)]) [qki 2,.loc 0] 28 5,
qw (.bslice 74 2 1 [.int .i64 0,.nils] [0] 1) [.loc 0] 60 6,
qw (.build [.int .u8 0,.int .i64 0,.bool false,.nils] [(0,1),(3,1)]) [qkb 6,.loc 0] 124 7,
qw (.bslice 71 4 1 [.int .u8 0,.int .i64 0,.bool false,.nils] [0] 1) [.loc 0] 252 8,
qw (.append 71 4 48 1) [.loc 7,.loc 0] 511 9,
qw (.faddr 5) [.env 3] 1023 10,
qw (.store 1) [.loc 0,.loc 1] 2047 11] [] []) (.skip)))
(.seq (sr [qde 7 1,
qo (.call 34) [.loc 0,qki 9]] [(22,0)]
(cn 22 (.drawn [qfe 5 3,
qwd 1 0 1 1,
qw (.call 35) [qki 1,.const (.str ⟨#[82,70]⟩)] 0 2,
qw (.bslice 82 15 1 zwa [0] 1) [.loc 0] 4 3,
qw (.build [.int .i64 0,.nils] [(0,1),(1,1)]) [qki 1,.loc 0] 12 4,
qw (.bslice 74 2 1 [.int .i64 0,.nils] [0] 1) [.loc 0] 28 5,
qw (.build [.int .u8 0,.int .i64 0,.bool false,.nils] [(0,1),(3,1)]) [qkb 7,.loc 0] 60 6,
qw (.bslice 71 4 1 [.int .u8 0,.int .i64 0,.bool false,.nils] [0] 1) [.loc 0] 124 7,
qw (.append 71 4 48 1) [.loc 6,.loc 0] 255 8,
qw (.faddr 5) [.env 3] 511 9,
qw (.store 1) [.loc 0,.loc 1] 1023 10] [] []) (.skip)))
(sr [qde 7 3,
qs2 7 2 0] []
(.ret))))))))))))))))),
[.cell 2 7 true]⟩
def F11:LFunc:=⟨[0,2,4],1,
sr [qno] [(1,0)]
(.seq (sr [qe 0,
qk 36 0] [(2,0)]
(cn 2 (sr [qno] [(1,0)]
(.ret)) (.skip)))
(sr [qe 0,
qnl 0,
qfl 7 0,
qfl 5 0,
qd 1 0,
qk 38 0,
qk 37 0,
ql 0] [(1,0)]
(.ret))),
[.tmp 1]⟩
def F12:LFunc:=⟨[0,1,2,3,4,5,6,7,8,11,16,49],3,
sr [qo (.box 28 1) [.env 0],
qo (.box 3 1) [.env 1],
qo (.box 45 1) [.env 2],
qi 0] [(3,3),(4,2),(5,1),(6,0)]
(.seq (.block 0 (sr [qo (.load 1 false) [.env 3],
qk 36 0,
ql 0] [(8,0)]
(cn 8 (sr [qi 2] [(6,0)]
(.ret)) (sr [qo (.load 1 false) [.env 3],
qnl 0,
qfl 15 0,
qd 1 0,
ql 0] [(9,0)]
(cn 9 (sr [qi 6] [(6,0)]
(.ret)) (.seq (.drawn [qo (.load 1 false) [.env 4],
qw (.bin .lss) [.loc 0,.const (.int .i64 (-1))] 1 1,
qwl 0 3 2,
qh (.load 1 false) [.env 4] 0 false 7 3,
qh (.load 1 false) [.env 3] 1 false 7 4,
qh .nilck [.loc 0] 2 false 23 5,
qh (.faddr 0) [.loc 0] 3 false 55 6,
qh (.faddr 5) [.loc 0] 4 false 119 7,
qh (.load 1 false) [.loc 0] 5 false 247 8,
qh (.len false) [.loc 0] 6 false 503 9,
qh (.bin .geq) [.loc 6,.loc 0] 7 false 1023 10,
qw .pick [.loc 8,.const (.bool true),.loc 0] 2047 11,
qwl 0 4095 12,
qh (.load 1 false) [.env 4] 0 false 8191 13,
qh (.bin .geq) [.loc 0,qki 0] 1 false 16383 14,
qh .mv [.loc 0] 2 false 32767 15,
qh (.load 1 false) [.env 3] 0 true 65535 16,
qh .nilck [.loc 0] 1 true 131071 17,
qh (.faddr 0) [.loc 0] 2 true 262143 18,
qh (.faddr 5) [.loc 0] 3 true 524287 19,
qh (.load 1 false) [.loc 0] 4 true 1048575 20,
qh (.load 1 false) [.env 4] 5 true 65535 21,
qh (.iaddr 4) [.loc 1,.loc 0] 6 true 4194303 22,
qh (.faddr 0) [.loc 0] 7 true 8388607 23,
qh (.load 1 false) [.loc 0] 8 true 16777215 24,
qh (.bin .neq) [.loc 0,qkb 4] 9 true 33554431 25,
qh .pick [.loc 10,.loc 0,.const (.bool false)] 13 false 67108863 26,
qw .pick [.loc 14,.const (.bool true),.loc 0] 134217727 27,
qwl 0 268435455 28] [(10,0)] [])
(cn 10 (sr [qi 1] [(6,0)]
(.ret)) (.skip))))))))
(.seq (sr [qo (.load 1 false) [.env 3],
qo (.load 1 false) [.env 5],
qkk 39 1 0,
ql 0] [(7,0)]
(sr [qe 7,
qo (.bin .neq) [.loc 0,qki 0]] [(11,0)]
(cn 11 (sr [qe 7,
ql 0] [(6,0)]
(.ret)) (.skip))))
(sr [qo (.load 1 false) [.env 3],
qo (.mkfn 41) [.env 3,.env 5,.env 4],
qkk 40 1 0,
ql 0] [(6,0)]
(.ret)))),
[.tmp 6]⟩
def F14:LFunc:=⟨[0,1,2],1,
sr [qo (.boxc 4) [.env 0],
qno] [(1,1),(2,0)]
(.seq (.drawn [qo (.call 29) [qki 1],
qw (.load 4 true) [.env 1] 0 1,
qw (.call 49) [.loc 0] 3 2,
qw .strb [.loc 0] 7 3,
qw (.build zwb [(0,11),(11,1)]) [.loc 3,.loc 0] 15 4,
qw (.call 29) [qki 1] 7 5,
qw (.load 4 true) [.env 1] 0 6,
qw (.call 50) [.loc 0] 103 7,
qw .strb [.loc 0] 231 8,
qw (.build zwb [(0,11),(11,1)]) [.loc 3,.loc 0] 487 9,
qw (.call 27) [qki 3] 231 10,
qw (.load 4 true) [.env 1] 0 11,
qw (.call 24) [.loc 0] 3303 12,
qw (.call 18) [.loc 0,qki 3] 7399 13,
qw .strb [.loc 0] 15591 14,
qw (.build zwb [(0,11),(11,1)]) [.loc 4,.loc 0] 31975 15,
qw (.bslice 77 12 3 zwb [0,1,2] 1) [.loc 11,.loc 6,.loc 0] 65535 16,
qwl 0 131071 17] [(2,0)] [])
(.ret)),
[.tmp 2]⟩
def F15:LFunc:=⟨[0,1,4,5,10,14,25],2,
sr [qbb false] [(2,0)]
(.seq (sr [qe 0,
qln false 0,
qe 1,
qln false 0,
qo (.bin .neq) [.loc 2,.loc 0]] [(4,0)]
(cn 4 (sr [qbb false] [(2,0)]
(.ret)) (.skip)))
(.seq (sr [qi 0] [(3,0)]
(.block 0 (.loop (.seq (sr [qe 3,
qe 0,
qln false 0,
ql2 2 0] [(5,0)]
(cn 5 (.skip) (.exit 0)))
(.seq (.block 1 (.seq (.drawn [qe 0,
qwe 3 0 1,
qw (.iaddr 3) [.loc 1,.loc 0] 3 2,
qw (.load 3 true) [.loc 0] 7 3,
qwe 1 0 4,
qwe 3 0 5,
qw (.iaddr 3) [.loc 1,.loc 0] 48 6,
qw (.load 3 true) [.loc 0] 112 7,
qw (.eqs true [0,0,1]) [.loc 4,.loc 0] 255 8] [(6,0)] [])
(cn 6 (sr [qbb false] [(2,0)]
(.ret)) (.skip))))
(rg [qe 3,
qad 0 1,
ql 0] [(3,0)]))))))
(sr [qbb true] [(2,0)]
(.ret)))),
[.tmp 2]⟩
def F16:LFunc:=⟨[0,1,2,3,6,7,8,9,10,11,17,21,29,31,42,53,56,68,69,89,99,107,113],3,
sr [qo (.boxc 7) [.env 0],
qno] [(3,1),(4,0)]
(sr [qde 7 3,
qo (.build [.int .u8 0,.int .u16 0,.int .u8 0,.int .u8 0,.int .u8 0,.int .u8 0,.int .u8 0,.int .i64 0,.int .i64 0,.bool false,.nils] [(0,7),(7,1)]) [.loc 0,qki 1],
qo (.box 107 11) [.loc 0],
ql 0] [(5,0)]
(.seq (sr [qe 1,
qln false 0,
qo (.bin .eql) [.loc 0,qki 0]] [(10,0)]
(cn 10 (sr [qno] [(4,0)]
(.ret)) (.skip)))
(.seq (sr [qi 0] [(6,0)]
(.block 0 (.loop (.seq (sr [qe 6,
qe 1,
qln false 0,
ql2 2 0] [(11,0)]
(cn 11 (.skip) (.exit 0)))
(.seq (.block 1 (sr [qe 1,
qe 6,
qia 4 1 0,
qdt 4 0,
qo (.alloc 43 [.int .u8 0,.int .u8 0,.int .u16 0,.int .u8 0]) [],
qso 4 0 1] [(7,1)]
(.seq (sr [qe 6,
qo (.bin .eql) [.loc 0,qki 0]] [(12,0)]
(cn 12 (.seq (sr [qde 7 3,
qo (.call 34) [.loc 0,qki 0]] [(13,0)]
(cn 13 (rg [qe 5,
qo (.call 51) [.loc 0,qki 1,.const (.str ⟨#[82,72]⟩)]] []) (.skip)))
(sr [qe 5,
qk 52 0] []
(rg [qe 5,
qde 4 7,
qo (.call 53) [.loc 1,qki 0,.loc 0]] []))) (sr [qi 0] [(8,0)]
(.seq (sr [qde 7 3,
qk 22 0,
ql 0] [(9,0)]
(.block 2 (.loop (.seq (sr [qe 9,
qo (.bin .geq) [.loc 0,qki 1]] [(14,0)]
(cn 14 (.skip) (.exit 2)))
(.seq (.block 3 (.seq (.drawn [qde 7 3,
qwe 1 0 1,
qwe 6 0 2,
qw (.bin .sub) [.loc 0,qki 1] 4 3,
qw (.iaddr 4) [.loc 2,.loc 0] 14 4,
qw (.load 4 true) [.loc 0] 30 5,
qw (.load 4 true) [.env 7] 0 6,
qwe 9 0 7,
qw (.call 54) [.loc 7,.loc 2,.loc 1,.loc 0] 255 8] [(15,0)] [])
(cn 15 (rg [qe 9,
ql 0] [(8,0)]) (.skip))))
(rg [qe 9,
qo (.bin .sub) [.loc 0,qki 1],
ql 0] [(9,0)]))))))
(sr [qe 8,
qo (.bin .gtr) [.loc 0,qki 0]] [(16,0)]
(cn 16 (sr [qe 5,
qe 8,
qe 1,
qe 6,
qo (.bin .sub) [.loc 0,qki 1],
qo (.call 55) [.loc 4,.loc 3,.loc 2,.loc 0]] []
(rg [qe 5,
qe 8,
qde 4 7,
qo (.call 53) [.loc 2,.loc 1,.loc 0]] [])) (.skip)))))))
(sr [qde 4 7,
qk 13 0] [(17,0)]
(.block 4 (sr [qo (.bin .eql) [.env 17,qki 0],
ql 0] [(18,0)]
(cn 18 (sr [qe 5,
qfe 3 3,
qd 1 0,
qo (.bin .and) [.loc 0,qkb 1],
qo (.bin .eql) [.loc 0,qkb 1],
qo (.call 56) [.loc 4,qki 1,.loc 0]] []
(.drawn [qe 5,
qw (.load 4 true) [.env 7] 0 1,
qw (.call 49) [.loc 0] 2 2,
qw (.load 4 true) [.env 7] 0 3,
qw (.call 50) [.loc 0] 14 4,
qw (.bin .add) [.loc 2,.loc 0] 30 5,
qw (.bin .add) [.loc 0,.const (.str ⟨#[32]⟩)] 62 6,
qw (.load 4 true) [.env 7] 0 7,
qw (.call 24) [.loc 0] 158 8,
qw (.call 18) [.loc 0,qki 3] 414 9,
qw (.bin .add) [.loc 3,.loc 0] 1022 10,
qw (.call 51) [.loc 10,qki 1,.loc 0] 2047 11] [] [])) (sr [qo (.bin .eql) [.env 17,qki 1],
ql 0] [(19,0)]
(cn 19 (sr [qe 5,
qo (.call 56) [.loc 0,qki 2,.const (.bool false)]] []
(rg [qe 5,
qde 4 7,
qk 24 0,
qo (.call 18) [.loc 0,qki 3],
qo (.bin .add) [.const (.str ⟨#[32,32,32,32,32,32,32,32,32]⟩),.loc 0],
qo (.call 51) [.loc 4,qki 2,.loc 0]] [])) (.skip))))))))))
(rg [qe 6,
qad 0 1,
ql 0] [(6,0)]))))))
(.seq (sr [qe 2] [(20,0)]
(cn 20 (sr [qe 5,
qe 1,
qe 1,
qln false 0,
qo (.bin .sub) [.loc 0,qki 1],
qo (.call 55) [.loc 4,qki 0,.loc 3,.loc 0]] []
(.seq (sr [qde 7 3,
qo (.call 34) [.loc 0,qki 9]] [(21,0)]
(cn 21 (sr [qe 5,
qo (.call 56) [.loc 0,qki 1,.const (.bool false)]] []
(rg [qe 5,
qo (.call 51) [.loc 0,qki 1,.const (.str ⟨#[82,70]⟩)]] [])) (.skip)))
(sr [qde 7 3,
qk 32 0] [(22,0)]
(cn 22 (rg [qe 5,
qk 57 0] []) (.skip))))) (.skip)))
(sr [qe 5,
qnl 0,
qfl 10 0,
qd 1 0,
ql 0] [(4,0)]
(.ret)))))),
[.tmp 4]⟩
def F17:LFunc:=⟨[0,1,2,3,4,7],1,
sr [qo (.box 28 1) [.env 0],
qi 0] [(1,1),(2,0)]
(.seq (.block 0 (sr [qo (.load 1 false) [.env 1],
qk 36 0,
ql 0] [(4,0)]
(cn 4 (sr [qi 2] [(2,0)]
(.ret)) (sr [qo (.load 1 false) [.env 1],
qnl 0,
qfl 15 0,
qd 1 0,
ql 0] [(5,0)]
(cn 5 (sr [qi 6] [(2,0)]
(.ret)) (.skip))))))
(sr [qo (.load 1 false) [.env 1],
qo (.mkfn 58) [.env 1],
qkk 40 1 0,
ql 0] [(3,0)]
(sr [qo (.load 1 false) [.env 1],
qe 3,
qo (.bin .eql) [.loc 0,qki 0],
qnl 2,
qfl 15 0,
qso 1 0 2] []
(sr [qe 3,
ql 0] [(2,0)]
(.ret))))),
[.tmp 2]⟩
def F18:LFunc:=⟨[0,1,4,5,6,9],2,
sr [qo .mv [.const (.str ⟨#[]⟩)]] [(2,0)]
(sr [qo .mv [.const (.str ⟨#[]⟩)]] [(3,0)]
(.seq (sr [qi 0] [(4,0)]
(.block 0 (.loop (.seq (sr [qe 4,
qe 1,
ql2 1 0] [(5,0)]
(cn 5 (.skip) (.exit 0)))
(.seq (.block 1 (sr [qe 0,
qo (.bin .rem) [.loc 0,qki 10],
qe 0,
qo (.bin .rem) [.loc 0,qki 10],
qad 0 1,
qo (.slice true 0 true true false) [.const (.str ⟨#[48,49,50,51,52,53,54,55,56,57]⟩),.loc 3,.loc 0],
qe 3,
qa2 1 0,
ql 0] [(3,0)]
(rg [qe 0,
qo (.bin .quo) [.loc 0,qki 10],
ql 0] [(0,0)])))
(rg [qe 4,
qad 0 1,
ql 0] [(4,0)]))))))
(sr [qe 3,
ql 0] [(2,0)]
(.ret)))),
[.tmp 2]⟩
def F19:LFunc:=⟨[0,1,2],1,
sr [qo (.boxc 7) [.env 0],
qi 0] [(1,1),(2,0)]
(.seq (.drawn [qde 7 1,
qw (.call 20) [.loc 0] 1 1,
qw (.bin .add) [.loc 0,qki 3] 3 2,
qw (.faddr 4) [.env 1] 0 3,
qw (.aaddr 1 3) [.loc 0,qki 2] 8 4,
qwd 1 0 24 5,
qw (.bin .rem) [.loc 0,qkb 4] 56 6,
qw (.conv .i64) [.loc 0] 120 7,
qw (.bin .add) [.loc 5,.loc 0] 255 8,
qwl 0 511 9] [(2,0)] [])
(.ret)),
[.tmp 2]⟩
def F23:LFunc:=⟨[0,1,2,3,4,8,28],4,
sr [qo (.boxc 7) [.env 0],
qi 0] [(4,1),(5,0)]
(.seq (.block 0 (.loop (.seq (.seq (.drawn [qe 2,
qw (.bin .gtr) [.loc 0,qki 0] 1 1,
qwl 0 3 2,
qh (.load 7 true) [.env 4] 0 true 7 3,
qh .mv [.env 1] 1 true 7 4,
qh .mv [.env 2] 2 true 7 5,
qh (.bin .sub) [.loc 0,qki 1] 3 true 39 6,
qh (.iaddr 4) [.loc 2,.loc 0] 4 true 119 7,
qh (.load 4 true) [.loc 0] 5 true 247 8,
qh .mv [.env 1] 6 true 7 9,
qh .mv [.env 2] 7 true 7 10,
qh (.iaddr 4) [.loc 1,.loc 0] 8 true 1543 11,
qh (.load 4 true) [.loc 0] 9 true 3591 12,
qh .mv [.env 3] 10 true 7 13,
qh (.load 7 true) [.env 4] 11 true 7 14,
qh (.call 22) [.loc 0] 12 true 16391 15,
qh .min [.loc 2,.loc 0] 13 true 57351 16,
qh (.call 54) [.loc 13,.loc 8,.loc 4,.loc 0] 14 true 131071 17,
qh (.un .not) [.loc 0] 15 true 262143 18,
qw .pick [.loc 16,.loc 0,.const (.bool false)] 524287 19] [(6,0)] [])
(cn 6 (.skip) (.exit 0)))
(.block 1 (rg [qe 2,
qo (.bin .sub) [.loc 0,qki 1],
ql 0] [(2,0)])))))
(sr [qe 2,
ql 0] [(5,0)]
(.ret))),
[.tmp 5]⟩
def F24:LFunc:=⟨[0,1,2],1,
sr [qo (.boxc 4) [.env 0],
qi 0] [(1,1),(2,0)]
(sr [qfe 2 1,
qd 1 0,
qo (.bin .rem) [.loc 0,.const (.int .u16 1000)],
qo (.conv .i64) [.loc 0],
ql 0] [(2,0)]
(.ret)),
[.tmp 2]⟩
def F26:LFunc:=⟨[0,2,3,4],1,
sr [qo (.alloc 57 [.bool false,.str ⟨#[]⟩,.int .i64 0]) []] [(1,0)]
(sr [qe 0,
qo (.call 65) [.loc 0,qki 10],
qo (.call 64) [.loc 0,.const (.str ⟨#[45]⟩)],
ql 0,
qx 0 0,
qx 1 1,
ql 1,
ql 1] [(2,1),(3,0)]
(sr [qe 3,
qe 2,
qo (.build [.bool false,.str ⟨#[]⟩,.int .i64 0] [(0,1),(1,1)]) [.loc 1,.loc 0],
qs2 3 1 0] []
(.ret))),
[.cell 1 3 true]⟩
def F30:LFunc:=⟨[0,1,2,3,26],1,
sr [qo (.box 37 7) [.env 0],
qi 0] [(1,1),(2,0)]
(.seq (.block 0 (sr [qfe 0 1,
qd 1 0,
qln false 0,
qo (.bin .gtr) [.loc 0,qki 64],
ql 0,
qg (.faddr 1) [.env 1] 0 false,
qgd 1 0 1 false,
qg (.len false) [.loc 0] 2 false,
qg (.bin .gtr) [.loc 0,qki 8] 3 false,
qpt 4 0,
ql 0,
qg (.faddr 5) [.env 1] 0 false,
qgd 1 0 1 false,
qg (.len false) [.loc 0] 2 false,
qg (.bin .gtr) [.loc 0,qki 64] 3 false,
qpt 4 0,
ql 0,
qg (.faddr 6) [.env 1] 0 false,
qgd 1 0 1 false,
qg (.len false) [.loc 0] 2 false,
qg (.bin .gtr) [.loc 0,qki 64] 3 false,
qpt 4 0,
ql 0] [(3,0)]
(cn 3 (sr [qi 3] [(2,0)]
(.ret)) (sr [qde 7 1,
qk 67 0,
qun 0,
ql 0] [(4,0)]
(cn 4 (sr [qi 1] [(2,0)]
(.ret)) (.skip))))))
(sr [qi 0] [(2,0)]
(.ret))),
[.tmp 2]⟩
def F31:LFunc:=⟨[0,1,2,3,4,5,6,25,26,27,37,38,39,56,57,58],1,
sr [qo (.box 37 7) [.env 0],
qo (.alloc 37 zwc) []] [(1,1),(2,0)]
(.seq (.drawn [qfe 0 1,
qwd 1 0 1 1,
qw (.call 68) [.loc 0] 3 2,
qw (.faddr 1) [.env 1] 0 3,
qwd 1 0 8 4,
qw (.call 69) [.loc 0] 31 5,
qw (.faddr 6) [.env 1] 0 6,
qwd 1 0 64 7,
qw (.call 70) [.loc 0] 255 8,
qw (.faddr 0) [.env 1] 223 9,
qw (.store 1) [.loc 0,.loc 7] 1023 10,
qw (.faddr 1) [.env 1] 2047 11,
qw (.store 1) [.loc 0,.loc 6] 4095 12,
qw (.faddr 6) [.env 1] 8191 13,
qw (.store 1) [.loc 0,.loc 5] 16383 14] [] [])
(sr [qfe 5 1,
qd 1 0,
qk 71 0,
qfe 5 1,
qso 1 0 1] []
(.seq (sr [qfe 5 1,
qd 1 0,
qln false 0,
qi 0] [(7,1),(8,0)]
(.block 0 (.loop (sr [qlt 8 7] [(9,0)]
(.seq (cn 9 (.skip) (.exit 0))
(.seq (.block 1 (sr [qe 8,
ql 0] [(3,0)]
(sr [qfe 5 1,
qd 1 0,
qe 3,
qia 4 1 0,
qfl 3 0,
qd 1 0,
qk 72 0,
ql 0] [(4,0)]
(.seq (sr [qe 4,
qln false 0,
qi 0] [(10,1),(11,0)]
(.block 2 (.loop (sr [qlt 11 10] [(12,0)]
(.seq (cn 12 (.skip) (.exit 2))
(.seq (.block 3 (sr [qe 11,
ql 0] [(5,0)]
(sr [qe 4,
qe 5,
qe 4,
qe 5,
qia 2 1 0,
qfl 1 0,
qd 1 0,
qk 73 0,
qia 2 7 6,
qfl 1 0,
qso 1 0 2] []
(sr [qe 4,
qe 5,
qia 2 1 0,
qfl 1 0,
qd 1 0,
qln false 0,
qi 0] [(13,1),(14,0)]
(.block 4 (.loop (sr [qlt 14 13] [(15,0)]
(.seq (cn 15 (.skip) (.exit 4))
(.seq (.block 5 (sr [qe 14,
ql 0] [(6,0)]
(.drawn [qe 4,
qwe 5 0 1,
qw (.iaddr 2) [.loc 1,.loc 0] 3 2,
qwf 1 0 7 3,
qwd 1 0 15 4,
qwe 6 0 5,
qwe 4 0 6,
qwe 5 0 7,
qw (.iaddr 2) [.loc 1,.loc 0] 192 8,
qwf 1 0 448 9,
qwd 1 0 960 10,
qwe 6 0 11,
qw (.iaddr 15) [.loc 1,.loc 0] 4032 12,
qwf 13 0 8128 13,
qwd 1 0 16320 14,
qw (.call 74) [.loc 0] 32704 15,
qw (.iaddr 15) [.loc 11,.loc 10] 65535 16,
qwf 13 0 131071 17,
qw (.store 1) [.loc 0,.loc 2] 262143 18] [] [])))
(rg [qae 14 1,
ql 0] [(14,0)]))))))))))
(rg [qae 11 1,
ql 0] [(11,0)])))))))
(rg [qfe 5 1,
qd 1 0,
qe 3,
qe 4,
qia 4 2 1,
qfl 3 0,
qso 1 0 2] [])))))
(rg [qae 8 1,
ql 0] [(8,0)])))))))
(sr [qde 7 1,
qs2 7 2 0] []
(.ret))))),
[.cell 2 7 true]⟩
def F33:LFunc:=⟨[0,2],1,
sr [qno] [(1,0)]
(sr [qe 0,
qo (.call 29) [qki 1],
qo (.build zwa [(0,1),(1,11),(12,1)]) [.loc 1,.loc 0,qkb 2],
qe 0,
qad 0 1,
qo (.call 29) [qki 1],
qo (.build zwa [(0,1),(1,11),(12,1),(14,1)]) [.loc 1,.loc 0,qkb 2,qki 1],
qo (.bslice 82 15 2 zwa [0,1] 1) [.loc 4,.loc 0],
ql 0] [(1,0)]
(.ret)),
[.tmp 1]⟩
def F34:LFunc:=⟨[0,1,2,4],2,
sr [qo (.boxc 7) [.env 0],
qbb false] [(2,1),(3,0)]
(sr [qfe 1 2,
qd 1 0,
qe 1,
qo (.bin .shr) [.loc 1,.loc 0],
qo (.bin .and) [.loc 0,.const (.int .u16 1)],
qo (.bin .eql) [.loc 0,.const (.int .u16 1)],
ql 0] [(3,0)]
(.ret)),
[.tmp 3]⟩
def F35:LFunc:=⟨[0,1,4],2,
sr [qo (.alloc 82 zwa) []] [(2,0)]
(sr [qe 0,
qe 1,
qln true 0,
qk 29 0,
qe 1,
qo .strb [.loc 0],
qo (.build zwa [(0,1),(1,11),(12,1),(13,1)]) [.loc 5,.loc 2,qkb 1,.loc 0],
qs2 15 2 0] []
(.ret)),
[.cell 2 15 true]⟩
def F36:LFunc:=⟨[0,2],1,
sr [qbb false] [(1,0)]
(sr [qe 0,
qo (.eqp false) [.loc 0,.const (.nilp)],
ql 0,
qge 0 0 false,
qg .nilck [.loc 0] 1 false,
qg (.faddr 14) [.loc 0] 2 false,
qgd 1 0 3 false,
qg (.eqnil false 3) [.loc 0,.const (.nilm)] 4 false,
qpt 5 0,
ql 0] [(1,0)]
(.ret)),
[.tmp 1]⟩
def F37:LFunc:=⟨[0,2],1,
sr [qno] [(1,0)]
(sr [qe 0,
qe 0,
qln false 0,
qe 0,
qln false 0,
qo (.slice false 3 false true true) [.loc 4,.loc 2,.loc 0],
ql 0] [(1,0)]
(.ret)),
[.tmp 1]⟩
def F38:LFunc:=⟨[0,2,4],1,
sr [qno] [(1,0)]
(.seq (sr [qe 0,
qo (.eqnil false 0) [.loc 0,.const (.nils)]] [(2,0)]
(cn 2 (sr [qno] [(1,0)]
(.ret)) (.skip)))
(sr [qo (.bslice 52 3 0 [.int .i64 0,.int .i64 0,.str ⟨#[]⟩] [] 1) [],
qe 0,
qo (.append 52 3 32 1) [.loc 1,.loc 0],
ql 0] [(1,0)]
(.ret))),
[.tmp 1]⟩
def F39:LFunc:=⟨[0,1,4,5,6,15,16,17,18,19,33,51],2,
sr [qi 0] [(2,0)]
(.seq (sr [qe 1,
qln false 0,
qe 0,
qnl 0,
qfl 0 0,
qfl 0 0,
qd 1 0,
qln false 0,
qo (.bin .neq) [.loc 6,.loc 0]] [(5,0)]
(cn 5 (sr [qi 5] [(2,0)]
(.ret)) (.skip)))
(.seq (sr [qe 1,
qln false 0,
qi 0] [(6,2),(7,1),(8,0)]
(.block 0 (.loop (sr [qlt 8 7] [(9,0)]
(.seq (cn 9 (.skip) (.exit 0))
(.seq (.block 1 (sr [qe 8,
qo (.iaddr 12) [.env 6,.env 8],
qdt 12 0,
qo (.alloc 77 zwb) [],
ql 3,
qso 12 1 2] [(3,1),(4,2)]
(.seq (.seq (.drawn [qfe 0 4,
qw (.load 11 true) [.loc 0] 1 1,
qwe 0 0 2,
qwk 0 4 3,
qwf 0 0 12 4,
qwf 0 0 28 5,
qwd 1 0 60 6,
qwe 3 0 7,
qw (.iaddr 11) [.loc 1,.loc 0] 252 8,
qw (.load 11 true) [.loc 0] 508 9,
qw (.eqs true [0,0,1,0,0,2,2,2,2,2,0]) [.loc 8,.loc 0] 1023 10] [(10,0)] [])
(cn 10 (sr [qi 12] [(2,0)]
(.ret)) (.skip)))
(sr [qfe 11 4,
qd 1 0,
qln false 0,
qfe 0 4,
qfl 10 0,
qd 1 0,
qo (.bin .neq) [.loc 3,.loc 0],
ql 0,
qg (.faddr 0) [.env 4] 0 false,
qg (.faddr 0) [.loc 0] 1 false,
qgd 1 0 2 false,
qg (.bin .eql) [.loc 0,qkb 4] 3 false,
qgl 0 4 false,
qg (.load 12 true) [.env 4] 0 true,
qg (.call 75) [.loc 0] 1 true,
qg (.bin .neq) [.loc 0,qki 0] 2 true,
qg .pick [.loc 3,.loc 0,.const (.bool false)] 8 false,
qpt 9 0] [(11,0)]
(cn 11 (sr [qi 15] [(2,0)]
(.ret)) (.skip))))))
(rg [qae 8 1,
ql 0] [(8,0)])))))))
(sr [qi 0] [(2,0)]
(.ret)))),
[.tmp 2]⟩
def F40:LFunc:=⟨[0,1,4,5,40],2,
sr [qi 0] [(2,0)]
(sr [qe 0,
qnl 0,
qfl 7 0,
qdt 7 0,
qo (.alloc 89 [.int .i64 0,.int .i64 0,.bool false,.nils,.nils,.nils,.bool false]) [],
qso 7 0 1] [(3,1)]
(.seq (.drawn [qe 0,
qwk 0 1 1,
qwf 7 0 3 2,
qwf 4 0 7 3,
qwd 1 0 15 4,
qw (.call 76) [.loc 0] 31 5,
qwe 0 0 6,
qwk 0 64 7,
qwf 7 0 192 8,
qwf 5 0 448 9,
qwd 1 0 960 10,
qw (.call 37) [.loc 0] 2047 11,
qw (.faddr 4) [.env 3] 63 12,
qw (.store 1) [.loc 0,.loc 7] 8191 13,
qw (.faddr 5) [.env 3] 16383 14,
qw (.store 1) [.loc 0,.loc 3] 32767 15] [] [])
(sr [qe 0,
qe 0,
qnl 0,
qfl 7 0,
qfl 5 0,
qd 1 0,
qk 37 0,
qnl 6,
qfl 7 0,
qfl 5 0,
qso 1 0 3] []
(sr [qe 1,
qo .callv [.loc 0]] []
(.seq (sr [qe 0,
qnl 0,
qfl 7 0,
qfl 6 0,
qd 1 0] [(4,0)]
(cn 4 (sr [qe 0,
qde 7 3,
qnl 1,
qfl 7 0,
qso 7 0 2] []
(sr [qi 9] [(2,0)]
(.ret))) (.skip)))
(sr [qi 0] [(2,0)]
(.ret))))))),
[.tmp 2]⟩
def F41:LFunc:=⟨[0,1,2,3,9,42,64],3,
.seq (sr [qo (.load 1 false) [.env 0],
qnl 0,
qfl 7 0,
qfl 0 0,
qd 1 0,
qo (.bin .eql) [.loc 0,qki 0]] [(4,0)]
(cn 4 (sr [qo (.load 1 false) [.env 0],
qnl 0,
qfl 7 0,
qfl 0 0,
qo (.store 1) [.loc 0,qki 1]] []
(.seq (.drawn [qo (.load 1 false) [.env 0],
qw (.load 1 false) [.env 1] 0 1,
qw (.call 42) [.loc 0] 2 2,
qwk 2 7 3,
qwf 7 0 15 4,
qwf 3 0 31 5,
qw (.store 1) [.loc 0,.loc 3] 63 6] [] [])
(.seq (.drawn [qo (.load 1 false) [.env 0],
qw (.load 1 false) [.env 0] 0 1,
qwk 0 2 2,
qwf 14 0 6 3,
qwd 1 0 14 4,
qw (.build [.int .u8 0,.int .i64 0] [(0,1),(1,1)]) [qkb 1,qki 0] 0 5,
qw (.mapgetS [0,0] (.agg [.int .u8 0,.int .i64 0,.bool false,.nils]) false) [.loc 1,.loc 0] 62 6,
qw (.call 43) [.loc 6,.loc 0] 127 7] [] [])
(.seq (.drawn [qo (.load 1 false) [.env 0],
qw (.load 1 false) [.env 0] 0 1,
qwk 0 2 2,
qwf 14 0 6 3,
qwd 1 0 14 4,
qw (.build [.int .u8 0,.int .i64 0] [(0,1),(1,1)]) [qkb 2,qki 0] 0 5,
qw (.mapgetS [0,0] (.agg [.int .u8 0,.int .i64 0,.bool false,.nils]) false) [.loc 1,.loc 0] 62 6,
qw (.call 43) [.loc 6,.loc 0] 127 7] [] [])
(rg [qo (.load 1 false) [.env 0],
qo (.call 44) [.loc 0,qki 0]] []))))) (sr [qo (.load 1 false) [.env 0],
qo (.load 1 false) [.env 1],
qkk 45 1 0,
ql 0] [(3,0)]
(sr [qe 3,
qo (.bin .gtr) [.loc 0,qki 0]] [(5,0)]
(cn 5 (sr [qo (.load 1 false) [.env 0],
qe 3,
qkk 46 1 0] []
(.seq (.drawn [qo (.load 1 false) [.env 0],
qw (.load 1 false) [.env 1] 0 1,
qw (.call 42) [.loc 0] 2 2,
qwk 2 7 3,
qwf 7 0 15 4,
qwf 3 0 31 5,
qw (.store 1) [.loc 0,.loc 3] 63 6] [] [])
(rg [qo (.load 1 false) [.env 0],
qe 3,
qkk 44 1 0] []))) (.skip))))))
(.seq (.drawn [qo (.load 1 false) [.env 0],
qw (.load 1 false) [.env 1] 0 1,
qw (.call 42) [.loc 0] 2 2,
qwk 2 7 3,
qwf 7 0 15 4,
qwf 3 0 31 5,
qw (.store 1) [.loc 0,.loc 3] 63 6] [] [])
(sr [qo (.load 1 false) [.env 0],
qk 47 0] []
(sr [qo (.load 1 false) [.env 2],
qo (.bin .geq) [.loc 0,qki 0]] [(6,0)]
(cn 6 (.drawn [qo (.load 1 false) [.env 0],
qw (.load 1 false) [.env 0] 0 1,
qwk 0 2 2,
qwf 0 0 6 3,
qwf 5 0 14 4,
qwd 1 0 30 5,
qw (.load 1 false) [.env 2] 0 6,
qw (.iaddr 4) [.loc 1,.loc 0] 126 7,
qw (.load 4 true) [.loc 0] 254 8,
qw (.call 48) [.loc 8,.loc 0] 511 9] [] []) (.skip))))),
[]⟩
def F43:LFunc:=⟨[0,1,3,5,6,8,10,11,12,13,17,18,19,20,56],2,
sr [qo (.box 71 4) [.env 1]] [(2,0)]
(sr [qfe 3 2,
qd 1 0,
qln false 0,
qi 0] [(6,2),(7,1),(8,0)]
(.block 0 (.loop (sr [qlt 8 7] [(9,0)]
(.seq (cn 9 (.skip) (.exit 0))
(.seq (.block 1 (sr [qo (.iaddr 2) [.env 6,.env 8],
qdt 2 0,
qo (.alloc 74 [.int .i64 0,.nils]) [],
qso 2 0 1] [(3,1)]
(sr [qno] [(4,0)]
(.seq (sr [qfe 1 3,
qd 1 0,
qln false 0,
qi 0] [(10,2),(11,1),(12,0)]
(.block 2 (.loop (sr [qlt 12 11] [(13,0)]
(.seq (cn 13 (.skip) (.exit 2))
(.seq (.block 3 (sr [qo (.iaddr 15) [.env 10,.env 12],
qdt 15 0,
qo (.alloc 82 zwa) [],
qso 15 0 1] [(5,1)]
(sr [qe 4,
qo (.bslice 5 1 1 [.int .u8 0] [0] 1) [qkb 32],
qfe 0 5,
qd 1 0,
qo (.bin .sub) [.loc 0,qki 1],
qe 4,
qln false 0,
qo (.bin .sub) [.loc 2,.loc 0],
qkk 77 6 0,
qo (.append 5 1 1 1) [.loc 8,.loc 0],
ql 0] [(4,0)]
(rg [qe 4,
qe 0,
qde 15 5,
qkk 78 1 0,
qo (.append 5 1 1 1) [.loc 3,.loc 0],
ql 0] [(4,0)]))))
(rg [qae 12 1,
ql 0] [(12,0)])))))))
(.seq (.drawn [qe 0,
qwk 0 1 1,
qwf 7 0 3 2,
qwf 1 0 7 3,
qwd 1 0 15 4,
qw (.faddr 0) [.env 3] 0 5,
qwd 1 0 32 6,
qw (.bin .add) [.loc 2,.loc 0] 127 7,
qwk 7 255 8,
qwf 7 0 511 9,
qwf 1 0 1023 10,
qw (.store 1) [.loc 0,.loc 3] 2047 11] [] [])
(.seq (sr [qe 0,
qnl 0,
qfl 7 0,
qfl 5 0,
qd 1 0,
qln false 0,
qo (.bin .geq) [.loc 0,qki 65536]] [(14,0)]
(cn 14 (sr [qe 0,
qnl 0,
qfl 7 0,
qfl 6 0,
qo (.store 1) [.loc 0,.const (.bool true)]] []
(.exit 1)) (.skip)))
(.drawn [qe 0,
qwe 0 0 1,
qwk 0 2 2,
qwf 7 0 6 3,
qwf 5 0 14 4,
qwd 1 0 30 5,
qwe 0 0 6,
qwk 0 64 7,
qwf 7 0 192 8,
qwf 0 0 448 9,
qwd 1 0 960 10,
qwe 0 0 11,
qwk 0 2048 12,
qwf 7 0 6144 13,
qwf 1 0 14336 14,
qwd 1 0 30720 15,
qwe 4 0 16,
qw .bstr [.loc 0] 65536 17,
qw (.build [.int .i64 0,.int .i64 0,.str ⟨#[]⟩] [(0,1),(1,1),(2,1)]) [.loc 7,.loc 2,.loc 0] 262080 18,
qw (.bslice 52 3 1 [.int .i64 0,.int .i64 0,.str ⟨#[]⟩] [0] 1) [.loc 0] 524224 19,
qw (.append 52 3 32 1) [.loc 14,.loc 0] 1048574 20,
qwk 20 2097151 21,
qwf 7 0 4194303 22,
qwf 5 0 8388607 23,
qw (.store 1) [.loc 0,.loc 3] 16777215 24] [] [])))))))
(rg [qae 8 1,
ql 0] [(8,0)]))))))),
[]⟩
def F44:LFunc:=⟨[0,1,11],2,
.block 0 (.loop (.seq (sr [qe 1,
qe 0,
qnl 0,
qfl 0 0,
qfl 1 0,
qd 1 0,
qln false 0,
qo (.bin .leq) [.loc 6,.loc 0]] [(2,0)]
(cn 2 (.skip) (.exit 0)))
(.seq (.block 1 (rg [qe 0,
qe 0,
qnl 0,
qfl 14 0,
qd 1 0,
qe 1,
qo (.build [.int .u8 0,.int .i64 0] [(0,1),(1,1)]) [qkb 3,.loc 0],
qo (.mapgetS [0,0] (.agg [.int .u8 0,.int .i64 0,.bool false,.nils]) false) [.loc 2,.loc 0],
qkk 48 7 0] []))
(rg [qe 1,
qad 0 1,
ql 0] [(1,0)])))),
[]⟩
def F45:LFunc:=⟨[0,1,4,5,6,11,12,13,14,33],2,
sr [qi 0] [(2,0)]
(.seq (sr [qe 0,
qnl 0,
qfl 0 0,
qfl 1 0,
qd 1 0,
qln false 0,
qi 0] [(5,2),(6,1),(7,0)]
(.block 0 (.loop (sr [qlt 7 6] [(8,0)]
(.seq (cn 8 (.skip) (.exit 0))
(.seq (.block 1 (sr [qe 7,
qo (.iaddr 1) [.env 5,.env 7],
qd 1 0,
ql 2,
ql 1] [(3,1),(4,0)]
(.seq (.drawn [qe 1,
qwe 4 0 1,
qw (.iaddr 12) [.loc 1,.loc 0] 3 2,
qwf 11 0 7 3,
qwd 1 0 15 4,
qwe 0 0 5,
qwk 0 32 6,
qwf 7 0 96 7,
qwf 3 0 224 8,
qwd 1 0 480 9,
qwe 4 0 10,
qw (.iaddr 12) [.loc 1,.loc 0] 2016 11,
qwf 11 0 4064 12,
qwd 1 0 8160 13,
qw (.call 79) [.loc 9,.loc 0] 16383 14,
qw (.un .not) [.loc 0] 32767 15] [(9,0)] [])
(cn 9 (sr [qe 3,
qad 0 1,
ql 0] [(2,0)]
(.ret)) (.skip)))))
(rg [qae 7 1,
ql 0] [(7,0)])))))))
(sr [qi (-1)] [(2,0)]
(.ret))),
[.tmp 2]⟩
def F46:LFunc:=⟨[0,1,4,5,6,15,31,32,33,34,41],2,
sr [qe 0,
qnl 0,
qfl 0 0,
qfl 1 0,
qd 1 0,
qln false 0,
ql 0] [(2,0)]
(.block 0 (.loop (.seq (sr [qe 2,
qe 1,
qo (.bin .geq) [.loc 1,.loc 0]] [(5,0)]
(cn 5 (.skip) (.exit 0)))
(.seq (.block 1 (sr [qe 0,
qe 0,
qnl 0,
qfl 14 0,
qd 1 0,
qe 2,
qo (.build [.int .u8 0,.int .i64 0] [(0,1),(1,1)]) [qkb 5,.loc 0],
qo (.mapgetS [0,0] (.agg [.int .u8 0,.int .i64 0,.bool false,.nils]) false) [.loc 2,.loc 0],
qkk 48 7 0] []
(sr [qe 0,
qnl 0,
qfl 0 0,
qfl 6 0,
qd 1 0,
qln false 0,
qi 0] [(6,2),(7,1),(8,0)]
(.block 2 (.loop (sr [qlt 8 7] [(9,0)]
(.seq (cn 9 (.skip) (.exit 2))
(.seq (.block 3 (sr [qe 8,
qo (.iaddr 2) [.env 6,.env 8],
qdt 2 0,
qo (.alloc 67 [.int .i64 0,.int .i64 0]) [],
ql 3,
qso 2 1 2] [(3,1),(4,2)]
(sr [qfe 1 4,
qd 1 0,
qe 2,
qo (.bin .eql) [.loc 1,.loc 0]] [(10,0)]
(cn 10 (.drawn [qe 0,
qwk 0 1 1,
qwf 7 0 3 2,
qwf 4 0 7 3,
qwd 1 0 15 4,
qwe 3 0 5,
qw (.call 26) [qki 0] 0 6,
qw (.iaddr 3) [.loc 2,.loc 1] 127 7,
qw (.store 3) [.loc 0,.loc 1] 255 8] [] []) (.skip)))))
(rg [qae 8 1,
ql 0] [(8,0)])))))))))
(rg [qe 2,
qo (.bin .sub) [.loc 0,qki 1],
ql 0] [(2,0)]))))),
[]⟩
def F47:LFunc:=⟨[0,2,3,4,10,11,12,13],1,
sr [qe 0,
qnl 0,
qfl 0 0,
qfl 6 0,
qd 1 0,
qln false 0,
qi 0] [(4,2),(5,1),(6,0)]
(.block 0 (.loop (sr [qlt 6 5] [(7,0)]
(.seq (cn 7 (.skip) (.exit 0))
(.seq (.block 1 (sr [qe 6,
qo (.iaddr 2) [.env 4,.env 6],
qdt 2 0,
qo (.alloc 67 [.int .i64 0,.int .i64 0]) [],
ql 3,
qso 2 1 2] [(1,1),(2,2)]
(.seq (.drawn [qe 0,
qwk 0 1 1,
qwf 7 0 3 2,
qwf 3 0 7 3,
qwd 1 0 15 4,
qw (.faddr 0) [.env 2] 0 5,
qwd 1 0 32 6,
qw (.iaddr 12) [.loc 2,.loc 0] 127 7,
qw (.load 12 true) [.loc 0] 255 8,
qw (.call 80) [.loc 0] 511 9,
qwl 0 1023 10,
qw (.extract 0) [.loc 0] 2047 11,
qw (.extract 1) [.loc 1] 2047 12,
⟨.mv,[.loc 13],none,ob 0 13,some 0⟩,
qw (.store 3) [.loc 0,.loc 2] 12287 14,
qwl 2 32767 15] [(3,2)] [(57,[.bool false,.str ⟨#[]⟩,.int .i64 0])])
(.drawn [qe 0,
qwk 0 1 1,
qwf 7 0 3 2,
qwf 4 0 7 3,
qwd 1 0 15 4,
qwe 1 0 5,
qwe 0 0 6,
qwk 0 64 7,
qwf 7 0 192 8,
qwf 4 0 448 9,
qwd 1 0 960 10,
qwe 1 0 11,
qw (.iaddr 3) [.loc 1,.loc 0] 4032 12,
qw (.load 3 true) [.loc 0] 8128 13,
qw (.load 3 true) [.env 3] 0 14,
qw (.call 81) [.loc 1,.loc 0] 32704 15,
qwl 0 65472 16,
qw (.extract 0) [.loc 0] 131008 17,
qw (.extract 1) [.loc 1] 131008 18,
qw (.iaddr 3) [.loc 14,.loc 13] 262143 19,
qw (.store 3) [.loc 0,.loc 2] 786431 20] [] []))))
(rg [qae 6 1,
ql 0] [(6,0)])))))),
[]⟩
def F48:LFunc:=⟨[0,1,3,9,41,72],2,
sr [qo (.box 71 4) [.env 1]] [(2,0)]
(.seq (sr [qe 0,
qnl 0,
qfl 0 0,
qfl 2 0,
qd 1 0,
qo (.bin .gtr) [.loc 0,qki 0]] [(3,0)]
(cn 3 (.seq (.seq (.drawn [qe 0,
qwk 0 1 1,
qwf 7 0 3 2,
qwf 2 0 7 3,
qwd 1 0 15 4,
qwl 0 31 5,
qh (.faddr 2) [.env 2] 0 true 63 6,
qh (.load 1 false) [.loc 0] 1 true 127 7,
qh .mv [.loc 0] 2 true 255 8,
qh (.load 4 true) [.env 2] 0 false 511 9,
qh (.call 82) [.loc 0] 1 false 1023 10,
qh .mv [.env 0] 2 false 511 11,
qh .nilck [.loc 0] 3 false 2559 12,
qh (.faddr 0) [.loc 0] 4 false 6655 13,
qh (.faddr 4) [.loc 0] 5 false 14847 14,
qh (.load 1 false) [.loc 0] 6 false 31231 15,
qh .mv [.env 0] 7 false 511 16,
qh .nilck [.loc 0] 8 false 66047 17,
qh (.faddr 7) [.loc 0] 9 false 197119 18,
qh (.faddr 1) [.loc 0] 10 false 459263 19,
qh (.load 1 false) [.loc 0] 11 false 983551 20,
qh .mv [.env 0] 12 false 511 21,
qh .nilck [.loc 0] 13 false 2097663 22,
qh (.faddr 0) [.loc 0] 14 false 6291967 23,
qh (.faddr 3) [.loc 0] 15 false 14680575 24,
qh (.load 1 false) [.loc 0] 16 false 31457791 25,
qh (.bin .sub) [.loc 0,qki 1] 17 false 65012223 26,
qh .max [.loc 6,.loc 0] 18 false 134152703 27,
qh (.bin .sub) [.loc 12,.loc 0] 19 false 268433919 28,
qh (.bin .gtr) [.loc 18,.loc 0] 20 false 536870911 29,
qh .pick [.loc 21,.const (.bool true),.loc 0] 24 true 1073741823 30,
qw .pick [.loc 25,.loc 0,.const (.bool false)] 2147483647 31] [(4,0)] [])
(cn 4 (sr [qe 0,
qk 59 0] []
(sr [qe 0,
qnl 0,
qfl 7 0,
qfl 0 0,
qd 1 0,
qad 0 1,
qnl 5,
qfl 7 0,
qfl 0 0,
qso 1 0 3] []
(sr [qe 0,
qe 0,
qnl 1,
qfl 7 0,
qfl 1 0,
qo (.store 1) [.loc 0,qki 0],
qnl 4,
qfl 7 0,
qfl 2 0,
qo (.store 1) [.loc 0,.const (.bool false)]] []
(rg [qe 0,
qe 0,
qnl 0,
qfl 14 0,
qd 1 0,
qo (.build [.int .u8 0,.int .i64 0] [(0,1),(1,1)]) [qkb 2,qki 0],
qo (.mapgetS [0,0] (.agg [.int .u8 0,.int .i64 0,.bool false,.nils]) false) [.loc 1,.loc 0],
qkk 43 6 0] [])))) (.skip)))
(sr [qfe 3 2,
qd 1 0,
qln false 0,
qo (.bin .gtr) [.loc 0,qki 0]] [(5,0)]
(cn 5 (.seq (.drawn [qe 0,
qwe 0 0 1,
qwk 0 2 2,
qwf 7 0 6 3,
qwf 1 0 14 4,
qwd 1 0 30 5,
qwe 0 0 6,
qwk 0 64 7,
qwf 0 0 192 8,
qwf 3 0 448 9,
qwd 1 0 960 10,
qw (.bin .sub) [.loc 0,qki 1] 1984 11,
qw .max [.loc 6,.loc 0] 4094 12,
qwk 12 8191 13,
qwf 7 0 16383 14,
qwf 1 0 32767 15,
qw (.store 1) [.loc 0,.loc 3] 65535 16] [] [])
(rg [qe 0,
qnl 0,
qfl 7 0,
qfl 2 0,
qo (.store 1) [.loc 0,.const (.bool true)]] [])) (.skip)))) (.skip)))
(rg [qe 0,
qde 4 2,
qkk 43 1 0] [])),
[]⟩
def F51:LFunc:=⟨[0,1,2],3,
sr [qe 0,
qnl 0,
qfl 8 0,
qd 1 0,
qe 1,
qa2 1 0,
qnl 5,
qfl 8 0,
qso 1 0 2] []
(.drawn [qe 0,
qwe 0 0 1,
qwk 0 2 2,
qwf 10 0 6 3,
qwd 1 0 14 4,
qwe 0 0 5,
qwk 0 32 6,
qwf 7 0 96 7,
qwd 1 0 224 8,
qwe 0 0 9,
qwk 0 512 10,
qwf 8 0 1536 11,
qwd 1 0 3584 12,
qwe 2 0 13,
qw (.build [.int .i64 0,.int .i64 0,.str ⟨#[]⟩] [(0,1),(1,1),(2,1)]) [.loc 5,.loc 1,.loc 0] 16352 14,
qw (.bslice 52 3 1 [.int .i64 0,.int .i64 0,.str ⟨#[]⟩] [0] 1) [.loc 0] 32736 15,
qw (.append 52 3 32 1) [.loc 11,.loc 0] 65534 16,
qwk 16 131071 17,
qwf 10 0 262143 18,
qw (.store 1) [.loc 0,.loc 2] 524287 19] [] []),
[]⟩
def F52:LFunc:=⟨[0,13],1,
sr [qe 0,
qnl 0,
qfl 0 0,
qdt 7 0,
qk 32 0,
ql 0,
qge 0 0 true,
qg .nilck [.loc 0] 1 true,
qg (.faddr 0) [.loc 0] 2 true,
qg (.load 7 true) [.loc 0] 3 true,
qg (.call 34) [.loc 0,qki 1] 4 true,
qpf 5 0] [(1,0)]
(cn 1 (rg [qe 0,
qe 0,
qnl 0,
qfl 7 0,
qd 1 0,
qo (.call 18) [.loc 0,qki 2],
qo (.bin .add) [.const (.str ⟨#[80,32]⟩),.loc 0],
qo (.call 51) [.loc 6,qki 1,.loc 0]] []) (.skip)),
[]⟩
def F53:LFunc:=⟨[0,1,2,5,6,14,23],3,
sr [qo (.boxc 4) [.env 2]] [(3,0)]
(sr [qe 1,
ql 0] [(4,0)]
(.block 0 (.loop (.seq (sr [qe 4,
qe 0,
qnl 0,
qfl 0 0,
qdt 7 0,
qk 22 0,
qo (.bin .leq) [.loc 5,.loc 0]] [(5,0)]
(cn 5 (.skip) (.exit 0)))
(.seq (.block 1 (sr [qe 0,
qnl 0,
qfl 0 0,
qdt 7 0,
qe 4,
qo (.bin .add) [qki 2,.loc 0],
qkk 34 2 0] [(6,0)]
(cn 6 (sr [qe 0,
qe 0,
qnl 0,
qfl 0 0,
qfl 3 0,
qd 1 0,
qe 4,
qo (.bin .add) [qki 1,.loc 0],
qo (.bin .shr) [.loc 2,.loc 0],
qo (.bin .and) [.loc 0,qkb 1],
qo (.bin .eql) [.loc 0,qkb 1],
qo (.call 56) [.loc 10,qki 1,.loc 0]] []
(.drawn [qe 0,
qwe 4 0 1,
qw (.call 18) [.loc 0,qki 1] 2 2,
qw (.bin .add) [.const (.str ⟨#[72]⟩),.loc 0] 6 3,
qw (.bin .add) [.loc 0,.const (.str ⟨#[32]⟩)] 14 4,
qw (.load 4 true) [.env 3] 0 5,
qw (.call 49) [.loc 0] 38 6,
qw (.bin .add) [.loc 2,.loc 0] 126 7,
qw (.load 4 true) [.env 3] 0 8,
qw (.call 50) [.loc 0] 358 9,
qw (.bin .add) [.loc 2,.loc 0] 1022 10,
qw (.call 51) [.loc 10,qki 1,.loc 0] 2047 11] [] [])) (.skip))))
(rg [qe 4,
qad 0 1,
ql 0] [(4,0)])))))),
[]⟩
def F54:LFunc:=⟨[0,1,2,3,5,6,8],4,
sr [qo (.boxc 7) [.env 0],
qo (.boxc 4) [.env 1],
qo (.boxc 4) [.env 2],
qbb false] [(4,2),(5,1),(6,0)]
(.seq (.drawn [qe 3,
qw (.bin .geq) [.loc 0,qki 1] 1 1,
qwl 0 3 2,
qh (.load 4 true) [.env 4] 0 true 7 3,
qh (.call 49) [.loc 0] 1 true 15 4,
qh (.load 4 true) [.env 5] 2 true 7 5,
qh (.call 49) [.loc 0] 3 true 63 6,
qh (.bin .neq) [.loc 2,.loc 0] 4 true 127 7,
qw .pick [.loc 5,.loc 0,.const (.bool false)] 255 8,
qwl 0 511 9,
qh .mv [.env 3] 0 false 1023 10,
qh (.bin .geq) [.loc 0,qki 2] 1 false 2047 11,
qh .mv [.loc 0] 2 false 4095 12,
qh (.load 4 true) [.env 4] 0 true 8191 13,
qh (.call 50) [.loc 0] 1 true 16383 14,
qh (.load 4 true) [.env 5] 2 true 8191 15,
qh (.call 50) [.loc 0] 3 true 65535 16,
qh (.bin .neq) [.loc 2,.loc 0] 4 true 131071 17,
qh .pick [.loc 5,.loc 0,.const (.bool false)] 8 false 262143 18,
qw .pick [.loc 9,.const (.bool true),.loc 0] 524287 19,
qwl 0 1048575 20] [(6,0)] [])
(.ret)),
[.tmp 6]⟩
def F55:LFunc:=⟨[0,1,2,3,8,9,10,11,12,20,30,41,60,86],4,
sr [qe 0,
qnl 0,
qfl 0 0,
qdt 7 0,
qk 22 0,
ql 0] [(4,0)]
(.block 0 (.loop (.seq (sr [qe 4,
qe 1,
qo (.bin .geq) [.loc 1,.loc 0]] [(9,0)]
(cn 9 (.skip) (.exit 0)))
(.seq (.block 1 (.seq (sr [qe 0,
qnl 0,
qfl 0 0,
qdt 7 0,
qe 4,
qo (.bin .add) [qki 5,.loc 0],
qkk 34 2 0,
qun 0] [(10,0)]
(cn 10 (.exit 1) (.skip)))
(sr [qi 0] [(5,0)]
(.seq (sr [qe 0,
qnl 0,
qfl 0 0,
qdt 7 0,
qe 2,
qe 3,
qe 4,
qo (.call 23) [.loc 3,.loc 2,.loc 1,.loc 0],
ql 0] [(6,0)]
(.block 2 (.loop (.seq (sr [qe 6,
qe 3,
qo (.bin .leq) [.loc 1,.loc 0]] [(11,0)]
(cn 11 (.skip) (.exit 2)))
(.seq (.block 3 (rg [qe 5,
qe 2,
qe 6,
qia 4 1 0,
qdt 4 0,
qk 24 0,
qa2 5 0,
ql 0] [(5,0)]))
(rg [qe 6,
qad 0 1,
ql 0] [(6,0)]))))))
(sr [qe 0,
qnl 0,
qfl 0 0,
qfl 2 0,
qd 1 0,
qe 4,
qo (.bin .shr) [.loc 1,.loc 0],
qo (.bin .and) [.loc 0,qkb 1],
qo (.bin .eql) [.loc 0,qkb 1],
ql 0] [(7,0)]
(sr [qi 1] [(8,0)]
(.seq (sr [qe 7] [(12,0)]
(cn 12 (rg [qi 2] [(8,0)]) (.skip)))
(sr [qe 0,
qe 8,
qo (.call 56) [.loc 1,.loc 0,.const (.bool false)]] []
(.seq (.drawn [qe 0,
qwe 4 0 1,
qw (.call 18) [.loc 0,qki 1] 2 2,
qw (.bin .add) [.const (.str ⟨#[70]⟩),.loc 0] 6 3,
qw (.bin .add) [.loc 0,.const (.str ⟨#[32]⟩)] 14 4,
qwe 2 0 5,
qwe 3 0 6,
qw (.iaddr 4) [.loc 1,.loc 0] 96 7,
qw (.load 4 true) [.loc 0] 224 8,
qw (.call 49) [.loc 0] 486 9,
qw (.bin .add) [.loc 5,.loc 0] 1022 10,
qwe 2 0 11,
qwe 3 0 12,
qw (.iaddr 4) [.loc 1,.loc 0] 6144 13,
qw (.load 4 true) [.loc 0] 14336 14,
qw (.call 50) [.loc 0] 31718 15,
qw (.bin .add) [.loc 5,.loc 0] 65534 16,
qw (.bin .add) [.loc 0,.const (.str ⟨#[32]⟩)] 131070 17,
qwe 5 0 18,
qw (.call 18) [.loc 0,qki 6] 326630 19,
qw (.bin .add) [.loc 2,.loc 0] 1048574 20,
qw (.call 51) [.loc 20,qki 1,.loc 0] 2097151 21] [] [])
(sr [qe 7] [(13,0)]
(cn 13 (rg [qe 0,
qo (.call 51) [.loc 0,qki 1,.const (.str ⟨#[]⟩)]] []) (.skip))))))))))))
(rg [qe 4,
qo (.bin .sub) [.loc 0,qki 1],
ql 0] [(4,0)]))))),
[]⟩
def F56:LFunc:=⟨[0,1,2,6,12,41],3,
.seq (sr [qe 0,
qnl 0,
qfl 0 0,
qdt 7 0,
qk 32 0,
qun 0] [(4,0)]
(cn 4 (.ret) (.skip)))
(.seq (.drawn [qe 0,
qwk 0 1 1,
qwf 8 0 3 2,
qwd 1 0 7 3,
qwe 0 0 4,
qwk 0 16 5,
qwf 0 0 48 6,
qw (.load 7 true) [.loc 0] 112 7,
qw (.call 20) [.loc 0] 240 8,
qw (.bin .sub) [.loc 0,qki 1] 496 9,
qw .max [.loc 6,.loc 0] 1023 10,
qwl 0 2047 11] [(3,0)] [])
(.seq (sr [qe 0,
qnl 0,
qfl 9 0,
qd 1 0,
ql 0,
qge 2 0 true,
qgl 0 1 true,
qge 3 0 false,
qge 1 1 false,
qg (.bin .add) [.loc 1,.loc 0] 2 false,
qge 0 3 false,
qg .nilck [.loc 0] 4 false,
qg (.faddr 0) [.loc 0] 5 false,
qg (.load 7 true) [.loc 0] 6 false,
qg (.call 19) [.loc 0] 7 false,
qg (.bin .gtr) [.loc 5,.loc 0] 8 false,
qg .pick [.loc 9,.const (.bool true),.loc 0] 11 true,
qpf 12 0] [(5,0)]
(cn 5 (sr [qe 0,
qk 57 0] []
(sr [qe 0,
qnl 0,
qfl 7 0,
qd 1 0,
qad 0 1,
qnl 4,
qfl 7 0,
qso 1 0 2] []
(sr [qe 0,
qnl 0,
qfl 8 0,
qo (.store 1) [.loc 0,qki 0]] []
(sr [qe 0,
qk 52 0] []
(.drawn [qe 0,
qwk 0 1 1,
qwf 8 0 3 2,
qwd 1 0 7 3,
qwe 0 0 4,
qwk 0 16 5,
qwf 0 0 48 6,
qw (.load 7 true) [.loc 0] 112 7,
qw (.call 20) [.loc 0] 240 8,
qw (.bin .sub) [.loc 0,qki 1] 496 9,
qw .max [.loc 6,.loc 0] 1023 10,
qwl 0 2047 11] [(3,0)] []))))) (.skip)))
(sr [qe 0,
qe 3,
qnl 1,
qfl 8 0,
qso 1 0 2] []
(rg [qe 0,
qnl 0,
qfl 9 0,
qo (.store 1) [.loc 0,.const (.bool true)]] [])))),
[]⟩
def F57:LFunc:=⟨[0,14],1,
sr [qe 0,
qe 0,
qnl 0,
qfl 0 0,
qdt 7 0,
qk 19 0,
qnl 5,
qfl 8 0,
qso 1 0 2] []
(sr [qe 0,
qnl 0,
qfl 0 0,
qdt 7 0,
qo (.call 34) [.loc 0,qki 8]] [(1,0)]
(cn 1 (rg [qe 0,
qe 0,
qnl 0,
qfl 7 0,
qd 1 0,
qo (.call 18) [.loc 0,qki 2],
qo (.bin .add) [.const (.str ⟨#[66,32]⟩),.loc 0],
qo (.call 51) [.loc 6,qki 2,.loc 0]] []) (.skip))),
[]⟩
def F58:LFunc:=⟨[0,6,22],1,
.seq (sr [qo (.load 1 false) [.env 0],
qnl 0,
qfl 7 0,
qfl 0 0,
qd 1 0,
qo (.bin .eql) [.loc 0,qki 0]] [(1,0)]
(cn 1 (.ret) (.skip)))
(sr [qo (.load 1 false) [.env 0],
qo (.call 46) [.loc 0,qki 0]] []
(.seq (.drawn [qo (.load 1 false) [.env 0],
qw (.load 1 false) [.env 0] 0 1,
qwk 0 2 2,
qwf 14 0 6 3,
qwd 1 0 14 4,
qw (.build [.int .u8 0,.int .i64 0] [(0,1),(1,1)]) [qkb 7,qki 0] 0 5,
qw (.mapgetS [0,0] (.agg [.int .u8 0,.int .i64 0,.bool false,.nils]) false) [.loc 1,.loc 0] 62 6,
qw (.call 48) [.loc 6,.loc 0] 127 7] [] [])
(sr [qo (.load 1 false) [.env 0],
qnl 0,
qfl 0 0,
qfl 2 0,
qd 1 0,
qo (.bin .gtr) [.loc 0,qki 0]] [(2,0)]
(cn 2 (rg [qo (.load 1 false) [.env 0],
qk 59 0] []) (.skip))))),
[]⟩
def F59:LFunc:=⟨[0],1,
sr [qe 0,
qe 0,
qnl 0,
qfl 0 0,
qfl 4 0,
qd 1 0,
qnl 5,
qfl 7 0,
qfl 1 0,
qso 1 0 3] []
(rg [qe 0,
qe 0,
qnl 0,
qfl 14 0,
qd 1 0,
qo (.build [.int .u8 0,.int .i64 0] [(0,1),(1,1)]) [qkb 6,qki 0],
qo (.mapgetS [0,0] (.agg [.int .u8 0,.int .i64 0,.bool false,.nils]) false) [.loc 1,.loc 0],
qkk 43 6 0] []),
[]⟩
def F64:LFunc:=⟨[0,1,4,5],2,
sr [qo .mv [.const (.str ⟨#[]⟩)],
qbb false] [(2,1),(3,0)]
(sr [qe 0,
qe 1,
qkk 88 1 0,
qx 0 0,
qx 1 1,
ql 1,
ql 1] [(2,1),(3,0)]
(.ret)),
[.tmp 2,.tmp 3]⟩
def F65:LFunc:=⟨[0,1,4],2,
sr [qo .mv [.const (.str ⟨#[]⟩)]] [(2,0)]
(sr [qe 0,
qe 1,
qkk 89 1 0,
ql 0] [(2,0)]
(.ret)),
[.tmp 2]⟩
def F67:LFunc:=⟨[0,1,2,3,4,6,7,9,10,12,13,14,15,35,38,39,40,41,77,81,82,83,84,105],1,
sr [qo (.box 37 7) [.env 0],
qbb false] [(1,1),(2,0)]
(.seq (sr [qfe 1 1,
qd 1 0,
qln false 0,
qi 0] [(9,2),(10,1),(11,0)]
(.block 0 (.loop (sr [qlt 11 10] [(12,0)]
(.seq (cn 12 (.skip) (.exit 0))
(.seq (.block 1 (sr [qe 11,
qo (.iaddr 1) [.env 9,.env 11],
qd 1 0,
ql 2,
ql 1] [(3,1),(4,0)]
(sr [qe 4,
qo (.bin .lss) [.loc 0,qki 0],
ql 0,
qge 4 0 false,
qg (.faddr 0) [.env 1] 1 false,
qgd 1 0 2 false,
qg (.len false) [.loc 0] 3 false,
qg (.bin .geq) [.loc 3,.loc 0] 4 false,
qpt 5 0,
ql 0,
qg (.faddr 1) [.env 1] 0 false,
qgd 1 0 1 false,
qge 3 2 false,
qg (.slice false 1 false true false) [.loc 1,.loc 0] 3 false,
qge 4 4 false,
qg (.call 95) [.loc 1,.loc 0] 5 false,
qpt 6 0] [(13,0)]
(cn 13 (sr [qbb false] [(2,0)]
(.ret)) (.skip)))))
(rg [qae 11 1,
ql 0] [(11,0)])))))))
(.seq (sr [qfe 6 1,
qd 1 0,
qln false 0,
qi 0] [(14,2),(15,1),(16,0)]
(.block 2 (.loop (sr [qlt 16 15] [(17,0)]
(.seq (cn 17 (.skip) (.exit 2))
(.seq (.block 3 (sr [qo (.iaddr 2) [.env 14,.env 16],
qdt 2 0,
qo (.alloc 67 [.int .i64 0,.int .i64 0]) [],
qso 2 0 1] [(5,1)]
(sr [qfe 0 5,
qd 1 0,
qo (.bin .lss) [.loc 0,qki 0],
ql 0,
qg (.faddr 0) [.env 5] 0 false,
qgd 1 0 1 false,
qg (.faddr 0) [.env 1] 2 false,
qgd 1 0 3 false,
qg (.len false) [.loc 0] 4 false,
qg (.bin .geq) [.loc 3,.loc 0] 5 false,
qpt 6 0,
ql 0,
qg (.faddr 0) [.env 1] 0 false,
qgd 1 0 1 false,
qg (.faddr 0) [.env 5] 2 false,
qgd 1 0 3 false,
qg (.iaddr 11) [.loc 2,.loc 0] 4 false,
qg (.faddr 0) [.loc 0] 5 false,
qgd 1 0 6 false,
qg (.bin .neq) [.loc 0,qkb 4] 7 false,
qpt 8 0,
ql 0,
qg (.faddr 1) [.env 5] 0 false,
qgd 1 0 1 false,
qg (.bin .lss) [.loc 0,qki 0] 2 false,
qpt 3 0,
ql 0,
qg (.faddr 1) [.env 5] 0 false,
qgd 1 0 1 false,
qg (.faddr 1) [.env 1] 2 false,
qgd 1 0 3 false,
qg (.len false) [.loc 0] 4 false,
qg (.bin .gtr) [.loc 3,.loc 0] 5 false,
qpt 6 0] [(18,0)]
(cn 18 (sr [qbb false] [(2,0)]
(.ret)) (.skip)))))
(rg [qae 16 1,
ql 0] [(16,0)])))))))
(sr [qo .mkmap [],
ql 0] [(6,0)]
(.seq (sr [qfe 5 1,
qd 1 0,
qln false 0,
qi 0] [(19,2),(20,1),(21,0)]
(.block 4 (.loop (sr [qlt 21 20] [(22,0)]
(.seq (cn 22 (.skip) (.exit 4))
(.seq (.block 5 (sr [qo (.iaddr 4) [.env 19,.env 21],
qdt 4 0,
qo (.alloc 71 [.int .u8 0,.int .i64 0,.bool false,.nils]) [],
qso 4 0 1] [(7,1)]
(sr [qfe 0 7,
qd 1 0,
qfe 1 7,
qd 1 0,
qo (.build [.int .u8 0,.int .i64 0] [(0,1),(1,1)]) [.loc 2,.loc 0],
qo (.alloc 93 [.int .u8 0,.int .i64 0]) [],
qso 2 0 1] [(8,1)]
(.seq (sr [qde 7 1,
qde 4 7,
qkk 96 1 0,
qun 0,
ql 0,
qge 6 0 false,
qg (.load 2 true) [.env 8] 1 false,
qg (.mapgetS [0,0] (.bool false) false) [.loc 1,.loc 0] 2 false,
qgl 0 3 false,
qg (.faddr 0) [.env 7] 0 true,
qgd 1 0 1 true,
qg (.bin .neq) [.loc 0,qkb 4] 2 true,
qg .pick [.loc 3,.loc 0,.const (.bool false)] 7 false,
qpt 8 0] [(23,0)]
(cn 23 (sr [qbb false] [(2,0)]
(.ret)) (.skip)))
(rg [qe 6,
qde 2 8,
qo (.mapsetS [0,0]) [.loc 1,.loc 0,.const (.bool true)]] [])))))
(rg [qae 21 1,
ql 0] [(21,0)])))))))
(sr [qde 7 1,
qk 97 0,
ql 0] [(2,0)]
(.ret)))))),
[.tmp 2]⟩
def F68:LFunc:=⟨[0,2,4],1,
sr [qno] [(1,0)]
(.seq (sr [qe 0,
qo (.eqnil false 0) [.loc 0,.const (.nils)]] [(2,0)]
(cn 2 (sr [qno] [(1,0)]
(.ret)) (.skip)))
(sr [qo (.bslice 64 11 0 zwd [] 1) [],
qe 0,
qo (.append 64 11 56 1) [.loc 1,.loc 0],
ql 0] [(1,0)]
(.ret))),
[.tmp 1]⟩
def F69:LFunc:=⟨[0,2,4],1,
sr [qno] [(1,0)]
(.seq (sr [qe 0,
qo (.eqnil false 0) [.loc 0,.const (.nils)]] [(2,0)]
(cn 2 (sr [qno] [(1,0)]
(.ret)) (.skip)))
(sr [qo (.bslice 3 1 0 [.int .i64 0] [] 1) [],
qe 0,
qo (.append 3 1 8 1) [.loc 1,.loc 0],
ql 0] [(1,0)]
(.ret))),
[.tmp 1]⟩
def F70:LFunc:=⟨[0,2,4],1,
sr [qno] [(1,0)]
(.seq (sr [qe 0,
qo (.eqnil false 0) [.loc 0,.const (.nils)]] [(2,0)]
(cn 2 (sr [qno] [(1,0)]
(.ret)) (.skip)))
(sr [qo (.bslice 67 2 0 [.int .i64 0,.int .i64 0] [] 1) [],
qe 0,
qo (.append 67 2 16 1) [.loc 1,.loc 0],
ql 0] [(1,0)]
(.ret))),
[.tmp 1]⟩
def F71:LFunc:=⟨[0,2,4],1,
sr [qno] [(1,0)]
(.seq (sr [qe 0,
qo (.eqnil false 0) [.loc 0,.const (.nils)]] [(2,0)]
(cn 2 (sr [qno] [(1,0)]
(.ret)) (.skip)))
(sr [qo (.bslice 71 4 0 [.int .u8 0,.int .i64 0,.bool false,.nils] [] 0) [],
qe 0,
qo (.append 71 4 48 0) [.loc 1,.loc 0],
ql 0] [(1,0)]
(.ret))),
[.tmp 1]⟩
def F72:LFunc:=⟨[0,2,4],1,
sr [qno] [(1,0)]
(.seq (sr [qe 0,
qo (.eqnil false 0) [.loc 0,.const (.nils)]] [(2,0)]
(cn 2 (sr [qno] [(1,0)]
(.ret)) (.skip)))
(sr [qo (.bslice 74 2 0 [.int .i64 0,.nils] [] 0) [],
qe 0,
qo (.append 74 2 32 0) [.loc 1,.loc 0],
ql 0] [(1,0)]
(.ret))),
[.tmp 1]⟩
def F73:LFunc:=⟨[0,2,4],1,
sr [qno] [(1,0)]
(.seq (sr [qe 0,
qo (.eqnil false 0) [.loc 0,.const (.nils)]] [(2,0)]
(cn 2 (sr [qno] [(1,0)]
(.ret)) (.skip)))
(sr [qo (.bslice 82 15 0 zwa [] 0) [],
qe 0,
qo (.append 82 15 104 0) [.loc 1,.loc 0],
ql 0] [(1,0)]
(.ret))),
[.tmp 1]⟩
def F74:LFunc:=⟨[0,2,4],1,
sr [qno] [(1,0)]
(.seq (sr [qe 0,
qo (.eqnil false 0) [.loc 0,.const (.nils)]] [(2,0)]
(cn 2 (sr [qno] [(1,0)]
(.ret)) (.skip)))
(sr [qo (.bslice 5 1 0 [.int .u8 0] [] 1) [],
qe 0,
qo (.append 5 1 1 1) [.loc 1,.loc 0],
ql 0] [(1,0)]
(.ret))),
[.tmp 1]⟩
def F75:LFunc:=⟨[0,1,2,4,8],1,
sr [qo (.boxc 12) [.env 0],
qi 0] [(1,1),(2,0)]
(.seq (sr [qfe 0 1,
qdt 11 0,
qk 98 0,
qo (.bin .neq) [.loc 0,qki 0]] [(4,0)]
(cn 4 (sr [qi 1] [(2,0)]
(.ret)) (.skip)))
(sr [qde 12 1,
qk 99 0,
ql 0,
qx 0 0,
qx 1 1,
qo (.alloc 157 [.bool false,.str ⟨#[]⟩]) [],
qso 2 0 2,
ql 2] [(3,0)]
(sr [qe 3,
ql 0] [(2,0)]
(.ret)))),
[.tmp 2]⟩
def F76:LFunc:=⟨[0,2,4],1,
sr [qno] [(1,0)]
(.seq (sr [qe 0,
qo (.eqnil false 0) [.loc 0,.const (.nils)]] [(2,0)]
(cn 2 (sr [qno] [(1,0)]
(.ret)) (.skip)))
(sr [qo (.bslice 57 3 0 [.bool false,.str ⟨#[]⟩,.int .i64 0] [] 2) [],
qe 0,
qo (.append 57 3 32 2) [.loc 1,.loc 0],
ql 0] [(1,0)]
(.ret))),
[.tmp 1]⟩
def F78:LFunc:=⟨[0,1,3,4,5,7,8,19,29,45,63],2,
sr [qo (.box 82 15) [.env 1],
qno] [(2,1),(3,0)]
(sr [qno] [(4,0)]
(.seq (sr [qfe 12 2,
qd 1 0] [(5,0)]
(.block 0 (sr [qo (.bin .eql) [.env 5,qkb 1],
ql 0] [(6,0)]
(cn 6 (rg [qfe 13 2,
qd 1 0,
qfe 1 2,
qfl 10 0,
qd 1 0,
qo (.call 101) [.loc 3,.loc 0,.const (.bool false)],
ql 0,
qx 0 0,
qx 1 1,
ql 1] [(4,0)]) (sr [qo (.bin .eql) [.env 5,qkb 2],
ql 0] [(7,0)]
(cn 7 (.seq (.drawn [qfe 14 2,
qwd 1 0 1 1,
qwe 0 0 2,
qwk 0 4 3,
qwf 7 0 12 4,
qwf 3 0 28 5,
qwd 1 0 60 6,
qw (.len false) [.loc 0] 124 7,
qw (.bin .lss) [.loc 6,.loc 0] 255 8] [(8,0)] [])
(cn 8 (.drawn [qe 0,
qwk 0 1 1,
qwf 7 0 3 2,
qwf 3 0 7 3,
qwd 1 0 15 4,
qw (.faddr 14) [.env 2] 0 5,
qwd 1 0 32 6,
qw (.iaddr 12) [.loc 2,.loc 0] 127 7,
qw (.load 12 true) [.loc 0] 255 8,
qw (.faddr 1) [.env 2] 0 9,
qw (.load 11 true) [.loc 0] 512 10,
qw (.call 102) [.loc 2,.loc 0] 2047 11,
qwl 0 4095 12,
qw (.extract 0) [.loc 0] 8191 13,
qw (.extract 1) [.loc 1] 8191 14,
qwl 1 16383 15] [(4,0)] []) (.skip))) (sr [qo (.bin .eql) [.env 5,qkb 3],
ql 0] [(9,0)]
(cn 9 (.drawn [qe 0,
qwk 0 1 1,
qwf 7 0 3 2,
qwf 4 0 7 3,
qwd 1 0 15 4,
qw (.faddr 14) [.env 2] 0 5,
qwd 1 0 32 6,
qw (.iaddr 3) [.loc 2,.loc 0] 127 7,
qw (.load 3 true) [.loc 0] 255 8,
qw (.faddr 1) [.env 2] 0 9,
qw (.load 11 true) [.loc 0] 512 10,
qw (.call 103) [.loc 2,.loc 0,qkb 0] 2047 11,
qwl 0 4095 12,
qw (.extract 0) [.loc 0] 8191 13,
qw (.extract 1) [.loc 1] 8191 14,
qw (.extract 2) [.loc 2] 8191 15,
qwl 2 16383 16] [(4,0)] []) (sr [qo (.bin .eql) [.env 5,qkb 4],
ql 0] [(10,0)]
(cn 10 (.drawn [qe 0,
qwk 0 1 1,
qwf 7 0 3 2,
qwf 0 0 7 3,
qwd 1 0 15 4,
qw (.call 26) [.loc 0] 31 5,
qw (.faddr 1) [.env 2] 0 6,
qw (.load 11 true) [.loc 0] 64 7,
qw (.call 103) [.loc 2,.loc 0,qkb 0] 255 8,
qwl 0 511 9,
qw (.extract 0) [.loc 0] 1023 10,
qw (.extract 1) [.loc 1] 1023 11,
qw (.extract 2) [.loc 2] 1023 12,
qwl 2 2047 13] [(4,0)] []) (.skip)))))))))))
(sr [qe 4,
ql 0] [(3,0)]
(.ret)))),
[.tmp 3]⟩
def F79:LFunc:=⟨[0,1,4],2,
sr [qbb false] [(2,0)]
(sr [qe 0,
qo .bstr [.loc 0],
qe 1,
qo .bstr [.loc 0],
qo (.bin .eql) [.loc 2,.loc 0],
ql 0] [(2,0)]
(.ret)),
[.tmp 2]⟩
def F80:LFunc:=⟨[0,1,2,3,4,5,6,11,20],1,
sr [qo (.boxc 12) [.env 0],
qo (.alloc 57 [.bool false,.str ⟨#[]⟩,.int .i64 0]) [],
qi 0] [(1,2),(2,1),(3,0)]
(.seq (sr [qfe 0 1,
qdt 11 0,
qk 104 0,
ql 0] [(4,0)]
(sr [qe 4,
qo (.bin .neq) [.loc 0,qki 0]] [(7,0)]
(cn 7 (sr [qo (.build [.bool false,.str ⟨#[]⟩,.int .i64 0] []) [],
qe 4,
qs2 3 2 1,
ql 1] [(3,0)]
(.ret)) (.skip))))
(sr [qde 12 1,
qk 99 0,
ql 0,
qx 0 0,
qx 1 1,
qo (.alloc 157 [.bool false,.str ⟨#[]⟩]) [],
qso 2 0 2,
ql 2] [(5,2),(6,0)]
(.seq (sr [qe 6,
qo (.bin .neq) [.loc 0,qki 0]] [(8,0)]
(cn 8 (sr [qo (.build [.bool false,.str ⟨#[]⟩,.int .i64 0] []) [],
qe 6,
qs2 3 2 1,
ql 1] [(3,0)]
(.ret)) (.skip)))
(sr [qfe 0 5,
qd 1 0,
qfe 1 5,
qd 1 0,
qfe 0 1,
qfl 4 0,
qd 1 0,
qo (.call 105) [.loc 5,.loc 3,.loc 0],
qx 0 0,
qx 1 1,
qs2 3 2 1,
ql 1] [(3,0)]
(.ret))))),
[.cell 2 3 true,.tmp 3]⟩
def F81:LFunc:=⟨[0,1,2,3,4,5,6,7,8,9,14,24,39],2,
sr [qo (.boxc 3) [.env 0],
qo (.boxc 3) [.env 1],
qo (.alloc 57 [.bool false,.str ⟨#[]⟩,.int .i64 0]) [],
qi 0] [(2,3),(3,2),(4,1),(5,0)]
(.seq (sr [qde 3 2,
qde 3 3,
qkk 106 1 0,
ql 0] [(6,0)]
(sr [qe 6,
qo (.bin .neq) [.loc 0,qki 0]] [(10,0)]
(cn 10 (sr [qo (.build [.bool false,.str ⟨#[]⟩,.int .i64 0] []) [],
qe 6,
qs2 3 4 1,
ql 1] [(5,0)]
(.ret)) (.skip))))
(sr [qde 3 2,
qde 3 3,
qkk 107 1 0,
ql 0,
qx 0 0,
qx 1 1,
qx 2 2,
ql 2,
ql 2,
ql 2] [(7,2),(8,1),(9,0)]
(.seq (.block 0 (sr [qfe 0 2,
qd 1 0,
qfe 0 3,
qd 1 0,
qo (.eqb false) [.loc 2,.loc 0],
ql 0] [(11,0)]
(cn 11 (.seq (.drawn [qfe 0 2,
qwd 1 0 1 1,
qwe 7 0 2,
qwe 8 0 3,
qw (.call 109) [.loc 1,.loc 0] 12 4,
qwe 9 0 5,
qw (.call 108) [.loc 4,.loc 1,.loc 0] 63 6,
qw (.extract 0) [.loc 0] 127 7,
qw (.extract 1) [.loc 1] 127 8,
qw (.store 3) [.env 4,.loc 1] 511 9,
qwl 1 1023 10] [(5,0)] [])
(.ret)) (sr [qe 7,
qe 8,
qo (.bin .geq) [.loc 1,.loc 0],
ql 0] [(12,0)]
(cn 12 (.seq (.drawn [qfe 0 2,
qwd 1 0 1 1,
qwe 7 0 2,
qwe 8 0 3,
qw (.call 110) [.loc 1,.loc 0] 12 4,
qwe 9 0 5,
qw (.call 108) [.loc 4,.loc 1,.loc 0] 63 6,
qw (.extract 0) [.loc 0] 127 7,
qw (.extract 1) [.loc 1] 127 8,
qw (.store 3) [.env 4,.loc 1] 511 9,
qwl 1 1023 10] [(5,0)] [])
(.ret)) (.skip))))))
(.seq (.drawn [qfe 0 3,
qwd 1 0 1 1,
qwe 8 0 2,
qwe 7 0 3,
qw (.call 110) [.loc 1,.loc 0] 12 4,
qwe 9 0 5,
qw (.call 108) [.loc 4,.loc 1,.loc 0] 63 6,
qw (.extract 0) [.loc 0] 127 7,
qw (.extract 1) [.loc 1] 127 8,
qw (.store 3) [.env 4,.loc 1] 511 9,
qwl 1 1023 10] [(5,0)] [])
(.ret))))),
[.cell 4 3 true,.tmp 5]⟩
def F88:LFunc:=⟨[0,1,4,5,9],2,
sr [qo .mv [.const (.str ⟨#[]⟩)],
qbb false] [(2,1),(3,0)]
(.seq (sr [qe 0,
qe 1,
qkk 114 1 0,
qun 0] [(4,0)]
(cn 4 (sr [qe 0,
ql 0,
qbb false] [(2,1),(3,0)]
(.ret)) (.skip)))
(sr [qe 0,
qe 1,
qln true 0,
qo (.slice true 0 true false false) [.loc 2,.loc 0],
ql 0,
qbb true] [(2,1),(3,0)]
(.ret))),
[.tmp 2,.tmp 3]⟩
def F97:LFunc:=⟨[0,1,2,3,5,6,9,39,41,42,43,44,50,58,59,65,73],1,
sr [qo (.box 37 7) [.env 0],
qbb false] [(1,1),(2,0)]
(.seq (sr [qfe 2 1,
qd 1 0,
qo (.bin .eql) [.loc 0,qki 0]] [(6,0)]
(cn 6 (sr [qfe 3 1,
qd 1 0,
qo (.bin .eql) [.loc 0,qki 0],
ql 0,
qg (.faddr 4) [.env 1] 0 true,
qgd 1 0 1 true,
qg (.bin .eql) [.loc 0,qki 0] 2 true,
qpf 3 0,
ql 0] [(2,0)]
(.ret)) (.skip)))
(.seq (sr [qfe 3 1,
qd 1 0,
qo (.bin .lss) [.loc 0,qki 1],
ql 0,
qg (.faddr 3) [.env 1] 0 false,
qgd 1 0 1 false,
qg (.faddr 4) [.env 1] 2 false,
qgd 1 0 3 false,
qg (.bin .gtr) [.loc 2,.loc 0] 4 false,
qpt 5 0,
ql 0,
qg (.faddr 4) [.env 1] 0 false,
qgd 1 0 1 false,
qg (.faddr 2) [.env 1] 2 false,
qgd 1 0 3 false,
qg (.bin .gtr) [.loc 2,.loc 0] 4 false,
qpt 5 0,
ql 0,
qg (.faddr 2) [.env 1] 0 false,
qgd 1 0 1 false,
qg (.bin .gtr) [.loc 0,qki 1000] 2 false,
qpt 3 0] [(7,0)]
(cn 7 (sr [qbb false] [(2,0)]
(.ret)) (.skip)))
(sr [qi 0] [(3,0)]
(.seq (sr [qfe 5 1,
qd 1 0,
qln false 0,
qi 0] [(8,2),(9,1),(10,0)]
(.block 0 (.loop (sr [qlt 10 9] [(11,0)]
(.seq (cn 11 (.skip) (.exit 0))
(.seq (.block 1 (sr [qo (.iaddr 4) [.env 8,.env 10],
qdt 4 0,
qo (.alloc 71 [.int .u8 0,.int .i64 0,.bool false,.nils]) [],
qso 4 0 1] [(4,1)]
(sr [qde 4 4,
qk 82 0,
ql 0] [(5,0)]
(sr [qfe 0 4,
qd 1 0] [(12,0)]
(.block 2 (.seq (sr [qo (.bin .eql) [.env 12,qkb 1],
ql 0] [(14,0)]
(cn 14 (.skip) (rg [qo (.bin .eql) [.env 12,qkb 2],
ql 0] [(14,0)])))
(cn 14 (rg [qe 3,
qe 5,
qa2 1 0,
ql 0] [(3,0)]) (sr [qo (.bin .eql) [.env 12,qkb 6],
ql 0] [(15,0)]
(cn 15 (sr [qe 5,
qfe 2 1,
qd 1 0,
qfe 4 1,
qd 1 0,
qo (.bin .sub) [.loc 2,.loc 0],
qo (.bin .gtr) [.loc 5,.loc 0]] [(16,0)]
(cn 16 (sr [qbb false] [(2,0)]
(.ret)) (.skip))) (sr [qe 5,
qfe 4 1,
qd 1 0,
qfe 3 1,
qd 1 0,
qo (.bin .sub) [.loc 2,.loc 0],
qad 0 1,
qo (.bin .gtr) [.loc 6,.loc 0]] [(13,0)]
(cn 13 (sr [qbb false] [(2,0)]
(.ret)) (.skip))))))))))))
(rg [qae 10 1,
ql 0] [(10,0)])))))))
(sr [qe 3,
qfe 3 1,
qd 1 0,
ql2 2 0,
ql 0] [(2,0)]
(.ret)))))),
[.tmp 2]⟩
def F99:LFunc:=⟨[0,1,2,3,4,5,12,17,32],1,
sr [qo (.boxc 12) [.env 0],
qo (.alloc 157 [.bool false,.str ⟨#[]⟩]) [],
qi 0] [(1,2),(2,1),(3,0)]
(.seq (sr [qfe 11 1,
qd 1 0,
qln false 0,
qfe 0 1,
qfl 10 0,
qd 1 0,
qo (.bin .neq) [.loc 3,.loc 0]] [(6,0)]
(cn 6 (sr [qo (.build [.bool false,.str ⟨#[]⟩] []) [],
qs2 2 2 0,
qi 5] [(3,0)]
(.ret)) (.skip)))
(.seq (sr [qfe 0 1,
qfl 0 0,
qd 1 0,
qo (.bin .neq) [.loc 0,qkb 4]] [(7,0)]
(cn 7 (sr [qo (.build [.bool false,.str ⟨#[]⟩] []) [],
qs2 2 2 0,
qi 0] [(3,0)]
(.ret)) (.skip)))
(.seq (.drawn [qfe 0 1,
qw (.load 11 true) [.loc 0] 1 1,
qw (.call 144) [.loc 0] 3 2,
qw (.field 0 1 false) [.loc 0] 7 3,
qw (.faddr 0) [.env 1] 0 4,
qw (.load 11 true) [.loc 0] 16 5,
qw (.faddr 11) [.env 1] 0 6,
qwd 1 0 64 7,
qw .callv [.loc 4,.loc 2,.loc 0] 255 8,
qwl 0 511 9,
qw (.extract 0) [.loc 0] 1023 10,
qw (.extract 1) [.loc 1] 1023 11,
⟨.mv,[.loc 12],none,ob 0 12,some 0⟩,
qw (.store 2) [.loc 0,.loc 2] 6143 13,
qwl 2 16383 14] [(4,2),(5,0)] [(157,[.bool false,.str ⟨#[]⟩])])
(.seq (sr [qe 5,
qun 0] [(8,0)]
(cn 8 (sr [qo (.build [.bool false,.str ⟨#[]⟩] []) [],
qs2 2 2 0,
qi 15] [(3,0)]
(.ret)) (.skip)))
(sr [qde 2 4,
qs2 2 2 0,
qi 0] [(3,0)]
(.ret)))))),
[.cell 2 2 true,.tmp 3]⟩
def F101:LFunc:=⟨[0,1,2,6,7,8,9,13,21],3,
sr [qno,
qi 0] [(3,1),(4,0)]
(.seq (sr [qe 1,
qk 145 0,
ql 0] [(5,0)]
(sr [qe 5,
qo (.bin .neq) [.loc 0,qki 0]] [(7,0)]
(cn 7 (sr [qe 5,
qno,
ql 1] [(3,1),(4,0)]
(.ret)) (.skip))))
(sr [qe 1,
qo (.mkslice 5 1 1 [.int .u8 0] 2) [.loc 0,.loc 0],
ql 0] [(6,0)]
(sr [qe 6,
qe 1,
qo (.call 62) [.const (.str ⟨#[32]⟩),.loc 0],
qo (.copys 2) [.loc 2,.loc 0]] []
(.seq (sr [qe 2] [(8,0)]
(cn 8 (.drawn [qe 6,
qwe 1 0 1,
qwe 0 0 2,
qw (.len false) [.loc 0] 4 3,
qw (.bin .sub) [.loc 2,.loc 0] 14 4,
qw .max [qki 0,.loc 0] 30 5,
qw (.slice false 1 true false false) [.loc 5,.loc 0] 63 6,
qwe 0 0 7,
qwe 0 0 8,
qw (.len false) [.loc 0] 256 9,
qwe 1 0 10,
qw (.bin .sub) [.loc 1,.loc 0] 1792 11,
qw .max [qki 0,.loc 0] 3840 12,
qw (.slice false 1 true false false) [.loc 5,.loc 0] 8064 13,
qw (.copy 1 2) [.loc 7,.loc 0] 16383 14] [] []) (rg [qe 6,
qe 0,
qo (.copy 1 2) [.loc 1,.loc 0]] [])))
(sr [qe 6,
ql 0,
qi 0] [(3,1),(4,0)]
(.ret)))))),
[.tmp 3,.tmp 4]⟩
def F102:LFunc:=⟨[0,1,2,3,4,5,6,7,8,9,10,20,28,34,46,61,65,82,86],2,
sr [qo (.boxc 12) [.env 0],
qo (.boxc 11) [.env 1],
qno,
qi 0] [(2,3),(3,2),(4,1),(5,0)]
(.seq (.block 0 (sr [qfe 0 2,
qdt 11 0,
qk 98 0,
qo (.bin .neq) [.loc 0,qki 0],
ql 0,
qg (.load 11 true) [.env 3] 0 false,
qg (.call 98) [.loc 0] 1 false,
qg (.bin .neq) [.loc 0,qki 0] 2 false,
qpt 3 0,
ql 0] [(10,0)]
(cn 10 (sr [qno,
qi 1] [(4,1),(5,0)]
(.ret)) (sr [qfe 11 2,
qd 1 0,
qln false 0,
qfe 0 2,
qfl 10 0,
qd 1 0,
qo (.bin .neq) [.loc 3,.loc 0],
ql 0] [(11,0)]
(cn 11 (sr [qno,
qi 5] [(4,1),(5,0)]
(.ret)) (sr [qfe 0 2,
qdt 11 0,
qde 11 3,
qkk 146 1 0,
qun 0,
ql 0] [(12,0)]
(cn 12 (sr [qno,
qi 12] [(4,1),(5,0)]
(.ret)) (sr [qfe 0 2,
qfl 0 0,
qd 1 0,
qo (.bin .eql) [.loc 0,qkb 0],
ql 0] [(13,0)]
(cn 13 (sr [qfe 11 2,
qd 1 0,
qfe 10 3,
qd 1 0,
qo (.call 101) [.loc 2,.loc 0,.const (.bool false)],
qx 0 0,
qx 1 1,
ql 1,
ql 1] [(4,1),(5,0)]
(.ret)) (sr [qfe 0 3,
qd 1 0,
qo (.bin .eql) [.loc 0,qkb 4],
ql 0,
qg (.faddr 0) [.env 3] 0 false,
qgd 1 0 1 false,
qg (.bin .eql) [.loc 0,qkb 5] 2 false,
qpt 3 0,
ql 0] [(14,0)]
(cn 14 (sr [qde 12 2,
qk 147 0,
ql 0,
qx 0 0,
qx 1 1,
qo (.alloc 57 [.bool false,.str ⟨#[]⟩,.int .i64 0]) [],
qso 3 0 2,
ql 2] [(6,2),(7,0)]
(.seq (sr [qe 7,
qo (.bin .neq) [.loc 0,qki 0]] [(15,0)]
(cn 15 (sr [qe 7,
qno,
ql 1] [(4,1),(5,0)]
(.ret)) (.skip)))
(.seq (sr [qfe 0 3,
qd 1 0,
qo (.bin .eql) [.loc 0,qkb 5]] [(16,0)]
(cn 16 (sr [qde 3 6,
qde 11 3,
qkk 148 1 0,
qx 0 0,
qx 1 1,
ql 1,
ql 1] [(4,1),(5,0)]
(.ret)) (.skip)))
(sr [qde 3 6,
qde 11 3,
qkk 149 1 0,
qx 0 0,
qx 1 1,
ql 1,
ql 1] [(4,1),(5,0)]
(.ret))))) (.skip))))))))))))
(sr [qde 12 2,
qde 11 3,
qkk 150 1 0,
ql 0,
qx 0 0,
qx 1 1,
ql 1,
ql 1] [(8,1),(9,0)]
(.seq (.block 1 (sr [qe 9,
qo (.bin .neq) [.loc 0,qki 0],
ql 0] [(17,0)]
(cn 17 (sr [qe 9,
qno,
ql 1] [(4,1),(5,0)]
(.ret)) (sr [qfe 0 3,
qd 1 0,
qo (.bin .eql) [.loc 0,qkb 3],
ql 0] [(18,0)]
(cn 18 (sr [qe 8,
qde 11 3,
qkk 151 1 0,
qx 0 0,
qx 1 1,
ql 1,
ql 1] [(4,1),(5,0)]
(.ret)) (.skip))))))
(sr [qe 8,
qfe 10 3,
qd 1 0,
qfe 8 3,
qd 1 0,
qo (.call 101) [.loc 4,.loc 2,.loc 0],
qx 0 0,
qx 1 1,
ql 1,
ql 1] [(4,1),(5,0)]
(.ret))))),
[.tmp 4,.tmp 5]⟩
def F103:LFunc:=⟨[0,1,2,3,4,6,7,8,9,10,11,12,14,16,17,18,31,50,79],3,
sr [qo (.boxc 3) [.env 0],
qo (.boxc 11) [.env 1],
qno,
qbb false,
qi 0] [(3,4),(4,3),(5,2),(6,1),(7,0)]
(.seq (.block 0 (sr [qde 3 3,
qk 152 0,
qo (.bin .neq) [.loc 0,qki 0],
ql 0,
qg (.load 11 true) [.env 4] 0 false,
qg (.call 98) [.loc 0] 1 false,
qg (.bin .neq) [.loc 0,qki 0] 2 false,
qpt 3 0,
ql 0,
qge 2 0 false,
qg (.bin .gtr) [.loc 0,qkb 7] 1 false,
qpt 2 0,
ql 0] [(15,0)]
(cn 15 (sr [qno,
qbb false,
qi 1] [(5,2),(6,1),(7,0)]
(.ret)) (sr [qfe 0 4,
qd 1 0,
qo (.bin .neq) [.loc 0,qkb 4],
ql 0,
qg (.faddr 0) [.env 4] 0 true,
qgd 1 0 1 true,
qg (.bin .neq) [.loc 0,qkb 5] 2 true,
qpf 3 0,
ql 0] [(16,0)]
(cn 16 (sr [qno,
qbb false,
qi 12] [(5,2),(6,1),(7,0)]
(.ret)) (.skip))))))
(sr [qde 3 3,
qfe 4 4,
qd 1 0,
qe 2,
qo (.call 153) [.loc 3,.loc 1,.loc 0],
ql 0,
qx 0 0,
qx 1 1,
qo (.alloc 57 [.bool false,.str ⟨#[]⟩,.int .i64 0]) [],
qso 3 0 2,
ql 2] [(8,2),(9,0)]
(sr [qe 9,
qo (.bin .neq) [.loc 0,qki 0],
ql 0] [(10,0)]
(.seq (sr [qe 10] [(17,0)]
(cn 17 (rg [qde 3 3,
qfe 4 4,
qd 1 0,
qkk 154 2 0,
ql 0,
qx 0 0,
qx 1 1,
qx 2 2,
qs2 3 8 2] []) (.skip)))
(sr [qde 3 8,
qfe 3 4,
qd 1 0,
qfe 4 4,
qd 1 0,
qo (.call 155) [.loc 4,.loc 2,.loc 0],
ql 0,
qx 0 0,
qx 1 1,
ql 1,
ql 1] [(11,1)]
(sr [qde 3 8,
qfe 3 4,
qd 1 0,
qfe 4 4,
qd 1 0,
qo (.call 156) [.loc 4,.loc 2,.loc 0],
ql 0,
qx 0 0,
qx 1 1,
qo (.alloc 57 [.bool false,.str ⟨#[]⟩,.int .i64 0]) [],
qso 3 0 2,
ql 2] [(12,2)]
(sr [qo .mv [.const (.fn 157 [])]] [(13,0)]
(.seq (sr [qfe 0 4,
qd 1 0,
qo (.bin .eql) [.loc 0,qkb 5]] [(18,0)]
(cn 18 (rg [qo .mv [.const (.fn 148 [])]] [(13,0)]) (.skip)))
(sr [qe 13,
qde 3 12,
qde 11 4,
qo .callv [.loc 2,.loc 1,.loc 0],
ql 0,
qx 0 0,
qx 1 1,
ql 1,
ql 1] [(9,0),(14,1)]
(sr [qe 14,
qe 10,
ql 0,
qge 11 0 false,
qg (.un .not) [.loc 0] 1 false,
qpt 2 0,
qe 9,
ql 6,
ql 2,
ql 2] [(5,2),(6,1),(7,0)]
(.ret))))))))))),
[.tmp 5,.tmp 6,.tmp 7]⟩
def F105:LFunc:=⟨[0,1,2,6,7,23],3,
sr [qo (.alloc 57 [.bool false,.str ⟨#[]⟩,.int .i64 0]) [],
qi 0] [(3,1),(4,0)]
(.seq (sr [qe 1,
qk 158 0,
qun 0,
ql 0,
qge 1 0 false,
qg (.len true) [.loc 0] 1 false,
qg (.bin .gtr) [.loc 0,qki 1000] 2 false,
qpt 3 0,
ql 0,
qge 2 0 false,
qg (.bin .lss) [.loc 0,.const (.int .i64 (-1000))] 1 false,
qpt 2 0,
ql 0,
qge 2 0 false,
qg (.bin .gtr) [.loc 0,qki 1000] 1 false,
qpt 2 0] [(5,0)]
(cn 5 (sr [qo (.build [.bool false,.str ⟨#[]⟩,.int .i64 0] []) [],
qs2 3 3 0,
qi 1] [(4,0)]
(.ret)) (.skip)))
(sr [qe 0,
qe 1,
qe 2,
qo (.call 108) [.loc 2,.loc 1,.loc 0],
qx 0 0,
qx 1 1,
qs2 3 3 1,
ql 1] [(4,0)]
(.ret))),
[.cell 3 3 true,.tmp 4]⟩
def F106:LFunc:=⟨[0,1,2,3,4],2,
sr [qo (.boxc 3) [.env 0],
qo (.boxc 3) [.env 1],
qi 0] [(2,2),(3,1),(4,0)]
(.seq (.drawn [qde 3 2,
qw (.call 152) [.loc 0] 1 1,
qw (.load 3 true) [.env 3] 0 2,
qw (.call 152) [.loc 0] 7 3,
qw .max [.loc 2,.loc 0] 15 4,
qwl 0 31 5] [(4,0)] [])
(.ret)),
[.tmp 4]⟩
def F107:LFunc:=⟨[0,1,2,3,4,5,6,7],2,
sr [qo (.boxc 3) [.env 0],
qo (.boxc 3) [.env 1],
qo .mv [.const (.str ⟨#[]⟩)],
qo .mv [.const (.str ⟨#[]⟩)],
qi 0] [(2,4),(3,3),(4,2),(5,1),(6,0)]
(sr [qfe 2 2,
qd 1 0,
qfe 2 3,
qd 1 0,
qo .max [.loc 2,.loc 0],
ql 0] [(6,0)]
(.seq (.drawn [qfe 1 2,
qwd 1 0 1 1,
qwe 6 0 2,
qw (.faddr 2) [.env 2] 0 3,
qwd 1 0 8 4,
qw (.bin .sub) [.loc 2,.loc 0] 28 5,
qw (.call 62) [.const (.str ⟨#[48]⟩),.loc 0] 60 6,
qw (.bin .add) [.loc 5,.loc 0] 127 7,
qwl 0 255 8] [(4,0)] [])
(.seq (.drawn [qfe 1 3,
qwd 1 0 1 1,
qwe 6 0 2,
qw (.faddr 2) [.env 3] 0 3,
qwd 1 0 8 4,
qw (.bin .sub) [.loc 2,.loc 0] 28 5,
qw (.call 62) [.const (.str ⟨#[48]⟩),.loc 0] 60 6,
qw (.bin .add) [.loc 5,.loc 0] 127 7,
qwl 0 255 8] [(5,0)] [])
(sr [qe 4,
qln true 0,
qe 5,
qln true 0,
qo .max [.loc 2,.loc 0],
ql 0] [(7,0)]
(sr [qe 4,
qe 7,
qkk 159 1 0,
qe 5,
qe 7,
qkk 159 1 0,
qe 6,
ql 4,
ql 2,
ql 2] [(4,2),(5,1),(6,0)]
(.ret)))))),
[.tmp 4,.tmp 5,.tmp 6]⟩
def F108:LFunc:=⟨[0,1,2,6,7,11,18,27,37],3,
sr [qo (.alloc 57 [.bool false,.str ⟨#[]⟩,.int .i64 0]) [],
qi 0] [(3,1),(4,0)]
(sr [qe 1,
qo (.call 126) [.loc 0,.const (.str ⟨#[48]⟩)],
ql 0] [(1,0)]
(.seq (sr [qe 1,
qo (.bin .eql) [.loc 0,.const (.str ⟨#[]⟩)]] [(5,0)]
(cn 5 (sr [qo (.build [.bool false,.str ⟨#[]⟩,.int .i64 0] [(1,1)]) [.const (.str ⟨#[48]⟩)],
qs2 3 3 0,
qi 0] [(4,0)]
(.ret)) (.skip)))
(.seq (.block 0 (.loop (.seq (sr [qe 2,
qo (.bin .gtr) [.loc 0,qki 0],
ql 0,
qge 1 0 true,
qg (.call 160) [.loc 0,.const (.str ⟨#[48]⟩)] 1 true,
qpf 2 0] [(6,0)]
(cn 6 (.skip) (.exit 0)))
(.block 1 (rg [qe 1,
qe 1,
qln true 0,
qo (.bin .sub) [.loc 0,qki 1],
qo (.slice true 0 false true false) [.loc 3,.loc 0],
qe 2,
qo (.bin .sub) [.loc 0,qki 1],
ql 2,
ql 1] [(1,1),(2,0)])))))
(.seq (sr [qe 2,
qo (.bin .lss) [.loc 0,qki 0]] [(7,0)]
(cn 7 (rg [qe 1,
qe 2,
qo (.un .neg) [.loc 0],
qo (.call 62) [.const (.str ⟨#[48]⟩),.loc 0],
qa2 3 0,
ql 0,
qi 0] [(1,1),(2,0)]) (.skip)))
(.seq (sr [qe 1,
qln true 0,
qe 2,
qo .max [.loc 1,.loc 0],
qo (.bin .gtr) [.loc 0,qki 62]] [(8,0)]
(cn 8 (sr [qo (.build [.bool false,.str ⟨#[]⟩,.int .i64 0] []) [],
qs2 3 3 0,
qi 14] [(4,0)]
(.ret)) (.skip)))
(sr [qe 0,
qe 1,
qe 2,
qo (.build [.bool false,.str ⟨#[]⟩,.int .i64 0] [(0,1),(1,1),(2,1)]) [.loc 2,.loc 1,.loc 0],
qs2 3 3 0,
qi 0] [(4,0)]
(.ret))))))),
[.cell 3 3 true,.tmp 4]⟩
def F109:LFunc:=⟨[0,1,4,5,6],2,
sr [qo .mv [.const (.str ⟨#[]⟩)]] [(2,0)]
(sr [qe 0,
qe 1,
qo (.call 161) [.loc 1,.loc 0,.const (.fn 162 [])],
ql 0,
qx 0 0,
qx 1 1,
ql 1,
ql 1] [(3,1),(4,0)]
(sr [qe 4,
qk 163 0,
qe 3,
qa2 1 0,
ql 0] [(2,0)]
(.ret))),
[.tmp 2]⟩
def F114:LFunc:=⟨[0,1,4],2,
sr [qbb false] [(2,0)]
(sr [qe 0,
qln true 0,
qe 1,
qln true 0,
qo (.bin .geq) [.loc 2,.loc 0],
ql 0,
qge 0 0 true,
qge 1 1 true,
qg (.len true) [.loc 0] 2 true,
qg (.slice true 0 false true false) [.loc 2,.loc 0] 3 true,
qge 1 4 true,
qg (.bin .eql) [.loc 1,.loc 0] 5 true,
qpf 6 0,
ql 0] [(2,0)]
(.ret)),
[.tmp 2]⟩
def F126:LFunc:=⟨[0,1,4,5,6,12,21,31],2,
sr [qo .mv [.const (.str ⟨#[]⟩)]] [(2,0)]
(.seq (sr [qe 0,
qo (.bin .eql) [.loc 0,.const (.str ⟨#[]⟩)],
ql 0,
qge 1 0 false,
qg (.bin .eql) [.loc 0,.const (.str ⟨#[]⟩)] 1 false,
qpt 2 0] [(5,0)]
(cn 5 (sr [qe 0,
ql 0] [(2,0)]
(.ret)) (.skip)))
(.seq (sr [qe 1,
qln true 0,
qo (.bin .eql) [.loc 0,qki 1],
ql 0,
qge 1 0 true,
qg .index [.loc 0,qki 0] 1 true,
qg (.bin .lss) [.loc 0,qkb 128] 2 true,
qpf 3 0] [(6,0)]
(cn 6 (sr [qe 0,
qe 1,
qo .index [.loc 0,qki 0],
qkk 175 2 0,
ql 0] [(2,0)]
(.ret)) (.skip)))
(.seq (sr [qe 1,
qk 176 0,
ql 0,
qx 0 0,
qx 1 1,
qo (.alloc 237 tb0) [],
qso 256 0 2,
ql 2] [(3,2),(4,0)]
(sr [qe 4] [(7,0)]
(cn 7 (sr [qe 0,
qo (.call 177) [.loc 0,.env 3],
ql 0] [(2,0)]
(.ret)) (.skip))))
(sr [qe 0,
qe 1,
qkk 178 1 0,
ql 0] [(2,0)]
(.ret))))),
[.tmp 2]⟩
def F145:LFunc:=⟨[0,2,3,6],1,
sr [qi 0] [(1,0)]
(.seq (.block 0 (sr [qe 0,
qo (.bin .lss) [.loc 0,qki 0],
ql 0] [(2,0)]
(cn 2 (sr [qi 1] [(1,0)]
(.ret)) (sr [qe 0,
qo (.bin .gtr) [.loc 0,qki 1048576],
ql 0] [(3,0)]
(cn 3 (sr [qi 3] [(1,0)]
(.ret)) (.skip))))))
(sr [qi 0] [(1,0)]
(.ret))),
[.tmp 1]⟩
def F147:LFunc:=⟨[0,1,2,3,4,7,8,14,31],1,
sr [qo (.boxc 12) [.env 0],
qo (.alloc 57 [.bool false,.str ⟨#[]⟩,.int .i64 0]) [],
qi 0] [(1,2),(2,1),(3,0)]
(.seq (sr [qfe 0 1,
qfl 0 0,
qd 1 0] [(5,0)]
(.block 0 (sr [qo (.bin .eql) [.env 5,qkb 4],
ql 0] [(6,0)]
(cn 6 (sr [qde 12 1,
qk 80 0,
qx 0 0,
qx 1 1,
qs2 3 2 1,
ql 1] [(3,0)]
(.ret)) (sr [qo (.bin .eql) [.env 5,qkb 5],
ql 0] [(7,0)]
(cn 7 (sr [qde 12 1,
qk 196 0,
qx 0 0,
qx 1 1,
qs2 3 2 1,
ql 1] [(3,0)]
(.ret)) (.skip)))))))
(sr [qfe 11 1,
qd 1 0,
qo .bstr [.loc 0],
qo (.call 197) [.loc 0,.const (.str ⟨#[32]⟩)],
ql 0] [(4,0)]
(.seq (sr [qe 4,
qk 198 0,
qun 0,
ql 0,
qge 4 0 false,
qg (.len true) [.loc 0] 1 false,
qg (.bin .gtr) [.loc 0,qki 62] 2 false,
qpt 3 0] [(8,0)]
(cn 8 (sr [qo (.build [.bool false,.str ⟨#[]⟩,.int .i64 0] []) [],
qs2 3 2 0,
qi 15] [(3,0)]
(.ret)) (.skip)))
(sr [qe 4,
qo (.call 105) [.const (.bool false),.loc 0,qki 0],
qx 0 0,
qx 1 1,
qs2 3 2 1,
ql 1] [(3,0)]
(.ret))))),
[.cell 2 3 true,.tmp 3]⟩
def F149:LFunc:=⟨[0,1,2,3,4,5,6,8,9,19,31],2,
sr [qo (.boxc 3) [.env 0],
qo (.boxc 11) [.env 1],
qno,
qi 0] [(2,3),(3,2),(4,1),(5,0)]
(sr [qde 3 2,
qfe 4 3,
qd 1 0,
qkk 154 2 0,
ql 0,
qx 0 0,
qx 1 1,
qx 2 2,
qo (.alloc 57 [.bool false,.str ⟨#[]⟩,.int .i64 0]) [],
qso 3 0 3,
ql 3,
ql 3] [(6,3),(7,0)]
(.seq (sr [qe 7,
qo (.bin .neq) [.loc 0,qki 0]] [(9,0)]
(cn 9 (sr [qe 7,
qno,
ql 1] [(4,1),(5,0)]
(.ret)) (.skip)))
(sr [qde 3 6,
qfe 3 3,
qd 1 0,
qfe 4 3,
qd 1 0,
qo (.call 156) [.loc 4,.loc 2,.loc 0],
ql 0,
qx 0 0,
qx 1 1,
qo (.alloc 57 [.bool false,.str ⟨#[]⟩,.int .i64 0]) [],
qso 3 0 2,
ql 2] [(7,0),(8,2)]
(.seq (sr [qe 7,
qo (.bin .neq) [.loc 0,qki 0]] [(10,0)]
(cn 10 (sr [qe 7,
qno,
ql 1] [(4,1),(5,0)]
(.ret)) (.skip)))
(sr [qde 3 8,
qde 11 3,
qkk 157 1 0,
qx 0 0,
qx 1 1,
ql 1,
ql 1] [(4,1),(5,0)]
(.ret)))))),
[.tmp 4,.tmp 5]⟩
def F150:LFunc:=⟨[0,1,2,3,4,5,6,7,8,17,26],2,
sr [qo (.boxc 12) [.env 0],
qo (.boxc 11) [.env 1],
qno,
qi 0] [(2,3),(3,2),(4,1),(5,0)]
(.seq (sr [qfe 0 2,
qfl 0 0,
qd 1 0,
qo (.bin .neq) [.loc 0,qkb 4],
ql 0,
qg (.faddr 0) [.env 3] 0 false,
qgd 1 0 1 false,
qg (.bin .eql) [.loc 0,qkb 0] 2 false,
qpt 3 0] [(9,0)]
(cn 9 (sr [qfe 11 2,
qd 1 0,
ql 0,
qi 0] [(4,1),(5,0)]
(.ret)) (.skip)))
(sr [qde 12 2,
qk 80 0,
ql 0,
qx 0 0,
qx 1 1,
qo (.alloc 57 [.bool false,.str ⟨#[]⟩,.int .i64 0]) [],
qso 3 0 2,
ql 2] [(6,2),(7,0)]
(.seq (sr [qe 7,
qo (.bin .neq) [.loc 0,qki 0]] [(10,0)]
(cn 10 (sr [qe 7,
qno,
ql 1] [(4,1),(5,0)]
(.ret)) (.skip)))
(sr [qde 3 6,
qfe 0 2,
qfl 3 0,
qd 1 0,
qfe 0 2,
qfl 4 0,
qd 1 0,
qo (.bin .sub) [.loc 3,.loc 0],
qfe 0 2,
qfl 4 0,
qd 1 0,
qo .max [.loc 0,qki 0],
qa2 4 0,
qo (.call 202) [.loc 12,.loc 0,qki 0],
ql 0,
qx 0 0,
qx 1 1,
ql 1,
ql 1] [(7,0),(8,1)]
(sr [qe 8,
qo .strb [.loc 0],
qe 7,
ql 1,
ql 1] [(4,1),(5,0)]
(.ret)))))),
[.tmp 4,.tmp 5]⟩
def F152:LFunc:=⟨[0,1,2,3,4,24,41],1,
sr [qo (.boxc 3) [.env 0],
qi 0] [(1,1),(2,0)]
(.seq (sr [qfe 1 1,
qd 1 0,
qk 158 0,
qun 0,
ql 0,
qg (.faddr 1) [.env 1] 0 false,
qgd 1 0 1 false,
qg (.len true) [.loc 0] 2 false,
qg (.bin .gtr) [.loc 0,qki 62] 3 false,
qpt 4 0,
ql 0,
qg (.faddr 2) [.env 1] 0 false,
qgd 1 0 1 false,
qg (.bin .lss) [.loc 0,qki 0] 2 false,
qpt 3 0,
ql 0,
qg (.faddr 2) [.env 1] 0 false,
qgd 1 0 1 false,
qg (.bin .gtr) [.loc 0,qki 62] 2 false,
qpt 3 0] [(5,0)]
(cn 5 (sr [qi 1] [(2,0)]
(.ret)) (.skip)))
(.seq (sr [qfe 0 1,
qd 1 0,
qfe 1 1,
qd 1 0,
qfe 2 1,
qd 1 0,
qo (.call 108) [.loc 4,.loc 2,.loc 0],
ql 0,
qx 0 0,
qx 1 1,
qo (.alloc 57 [.bool false,.str ⟨#[]⟩,.int .i64 0]) [],
qso 3 0 2,
ql 2] [(3,2),(4,0)]
(sr [qe 4,
qo (.bin .neq) [.loc 0,qki 0],
ql 0,
qg (.load 3 true) [.env 3] 0 false,
qg (.load 3 true) [.env 1] 1 false,
qg (.eqs true [2,1,0]) [.loc 1,.loc 0] 2 false,
qpt 3 0] [(6,0)]
(cn 6 (sr [qi 1] [(2,0)]
(.ret)) (.skip))))
(sr [qi 0] [(2,0)]
(.ret)))),
[.tmp 2]⟩
def F153:LFunc:=⟨[0,1,2,3,6,7,8,9,10,11,19,28,36,40,56],3,
sr [qo (.boxc 3) [.env 0],
qo (.alloc 57 [.bool false,.str ⟨#[]⟩,.int .i64 0]) [],
qi 0] [(3,2),(4,1),(5,0)]
(.seq (sr [qde 3 3,
qe 1,
qo (.call 205) [.loc 1,qki 1,.loc 0],
qo (.bin .neq) [.loc 0,qki 0],
ql 0,
qge 2 0 false,
qg (.bin .gtr) [.loc 0,qkb 7] 1 false,
qpt 2 0] [(10,0)]
(cn 10 (sr [qo (.build [.bool false,.str ⟨#[]⟩,.int .i64 0] []) [],
qs2 3 4 0,
qi 1] [(5,0)]
(.ret)) (.skip)))
(sr [qde 3 3,
qe 1,
qkk 154 1 0,
ql 0,
qx 0 0,
qx 1 1,
qx 2 2,
qo (.alloc 57 [.bool false,.str ⟨#[]⟩,.int .i64 0]) [],
qso 3 0 3,
ql 3,
ql 3] [(6,3),(7,1),(8,0)]
(.seq (.block 0 (sr [qe 8,
qo (.bin .neq) [.loc 0,qki 0],
ql 0,
qge 7 0 false,
qpt 1 0,
ql 0] [(11,0)]
(cn 11 (sr [qde 3 6,
qe 8,
qs2 3 4 1,
ql 1] [(5,0)]
(.ret)) (sr [qe 2,
qo (.bin .eql) [.loc 0,qkb 7],
ql 0] [(12,0)]
(cn 12 (sr [qo (.build [.bool false,.str ⟨#[]⟩,.int .i64 0] []) [],
qs2 3 4 0,
qi 14] [(5,0)]
(.ret)) (sr [qde 3 3,
qde 3 6,
qe 1,
qe 2,
qo (.call 206) [.loc 3,.loc 2,.loc 1,.loc 0],
qun 0,
ql 0] [(13,0)]
(cn 13 (sr [qde 3 6,
qs2 3 4 0,
qi 0] [(5,0)]
(.ret)) (.skip))))))))
(sr [qfe 0 3,
qd 1 0,
qe 1,
qo (.call 105) [.loc 1,.const (.str ⟨#[49]⟩),.loc 0],
ql 0,
qx 0 0,
qx 1 1,
qo (.alloc 57 [.bool false,.str ⟨#[]⟩,.int .i64 0]) [],
qso 3 0 2,
ql 2] [(8,0),(9,2)]
(.seq (sr [qe 8,
qo (.bin .neq) [.loc 0,qki 0]] [(14,0)]
(cn 14 (sr [qo (.build [.bool false,.str ⟨#[]⟩,.int .i64 0] []) [],
qe 8,
qs2 3 4 1,
ql 1] [(5,0)]
(.ret)) (.skip)))
(sr [qde 3 6,
qde 3 9,
qkk 81 1 0,
qx 0 0,
qx 1 1,
qs2 3 4 1,
ql 1] [(5,0)]
(.ret))))))),
[.cell 4 3 true,.tmp 5]⟩
def F154:LFunc:=⟨[0,1,2,4,5,6,7,8,9,10,11,15,21,27],2,
sr [qo (.boxc 3) [.env 0],
qo (.alloc 57 [.bool false,.str ⟨#[]⟩,.int .i64 0]) [],
qbb false,
qi 0] [(2,3),(3,2),(4,1),(5,0)]
(.seq (sr [qde 3 2,
qk 152 0,
ql 0] [(6,0)]
(sr [qe 6,
qo (.bin .neq) [.loc 0,qki 0]] [(11,0)]
(cn 11 (sr [qo (.build [.bool false,.str ⟨#[]⟩,.int .i64 0] []) [],
qe 6,
qs2 3 3 1,
qbb false,
ql 2] [(4,1),(5,0)]
(.ret)) (.skip))))
(.seq (sr [qe 1,
qfe 2 2,
qd 1 0,
qo (.bin .geq) [.loc 2,.loc 0]] [(12,0)]
(cn 12 (sr [qde 3 2,
qs2 3 3 0,
qbb true,
qi 0] [(4,1),(5,0)]
(.ret)) (.skip)))
(sr [qfe 1 2,
qd 1 0,
qln true 0,
ql 0] [(7,0)]
(.seq (sr [qe 1,
qo (.bin .gtr) [.loc 0,.const (.int .i64 (-9223372036854775746))]] [(13,0)]
(cn 13 (rg [qe 7,
qfe 2 2,
qd 1 0,
qe 1,
qo (.bin .sub) [.loc 1,.loc 0],
qo .min [.loc 4,.loc 0],
ql 0] [(7,0)]) (.skip)))
(sr [qfe 1 2,
qd 1 0,
qfe 1 2,
qd 1 0,
qln true 0,
qe 7,
qo (.bin .sub) [.loc 1,.loc 0],
qo (.slice true 0 true false false) [.loc 5,.loc 0],
ql 0] [(8,0)]
(.seq (.drawn [qfe 0 2,
qwd 1 0 1 1,
qw (.faddr 1) [.env 2] 0 2,
qwd 1 0 4 3,
qw (.faddr 1) [.env 2] 0 4,
qwd 1 0 16 5,
qw (.len true) [.loc 0] 48 6,
qwe 7 0 7,
qw (.bin .sub) [.loc 1,.loc 0] 240 8,
qw (.slice true 0 false true false) [.loc 5,.loc 0] 508 9,
qwe 7 0 10,
qw (.call 62) [.const (.str ⟨#[48]⟩),.loc 0] 1024 11,
qw (.bin .add) [.loc 2,.loc 0] 4092 12,
qw (.faddr 2) [.env 2] 0 13,
qwd 1 0 8192 14,
qw (.call 108) [.loc 13,.loc 2,.loc 0] 32767 15,
qwl 0 65535 16,
qw (.extract 0) [.loc 0] 131071 17,
qw (.extract 1) [.loc 1] 131071 18,
⟨.mv,[.loc 19],none,ob 0 19,some 0⟩,
qw (.store 3) [.loc 0,.loc 2] 786431 20,
qwl 2 2097151 21] [(9,2),(10,0)] [(57,[.bool false,.str ⟨#[]⟩,.int .i64 0])])
(.seq (.drawn [qde 3 9,
qwe 8 0 1,
qw (.call 197) [.loc 0,.const (.str ⟨#[48]⟩)] 2 2,
qw (.bin .eql) [.loc 0,.const (.str ⟨#[]⟩)] 6 3,
qwe 10 0 4,
qw (.store 3) [.env 3,.loc 4] 7 5,
qwl 2 47 6,
qwl 2 127 7] [(4,1),(5,0)] [])
(.ret)))))))),
[.cell 3 3 true,.tmp 4,.tmp 5]⟩
def F155:LFunc:=⟨[0,1,2,3,6,7,8,9,10,16],3,
sr [qo (.boxc 3) [.env 0],
qbb false,
qi 0] [(3,2),(4,1),(5,0)]
(.seq (sr [qde 3 3,
qe 1,
qe 2,
qo (.call 205) [.loc 2,.loc 1,.loc 0],
ql 0] [(6,0)]
(sr [qe 6,
qo (.bin .neq) [.loc 0,qki 0]] [(9,0)]
(cn 9 (sr [qe 6,
qbb false,
ql 1] [(4,1),(5,0)]
(.ret)) (.skip))))
(sr [qde 3 3,
qe 1,
qe 2,
qo (.call 207) [.loc 2,.loc 1,.loc 0],
ql 0,
qx 0 0,
qx 1 1,
ql 1,
ql 1] [(7,1),(8,0)]
(sr [qe 8,
ql 0,
qge 7 0 true,
qge 7 1 true,
qg (.len true) [.loc 0] 2 true,
qge 1 3 true,
qg (.bin .sub) [.loc 1,.loc 0] 4 true,
qg (.slice true 0 false true false) [.loc 4,.loc 0] 5 true,
qg (.call 197) [.loc 0,.const (.str ⟨#[48]⟩)] 6 true,
qg (.bin .eql) [.loc 0,.const (.str ⟨#[]⟩)] 7 true,
qpf 8 0,
ql 0,
qi 0] [(4,1),(5,0)]
(.ret)))),
[.tmp 4,.tmp 5]⟩
def F156:LFunc:=⟨[0,1,2,3,6,7,8,9,10,16,27],3,
sr [qo (.boxc 3) [.env 0],
qo (.alloc 57 [.bool false,.str ⟨#[]⟩,.int .i64 0]) [],
qi 0] [(3,2),(4,1),(5,0)]
(.seq (sr [qde 3 3,
qe 1,
qe 2,
qo (.call 205) [.loc 2,.loc 1,.loc 0],
ql 0] [(6,0)]
(sr [qe 6,
qo (.bin .neq) [.loc 0,qki 0]] [(9,0)]
(cn 9 (sr [qo (.build [.bool false,.str ⟨#[]⟩,.int .i64 0] []) [],
qe 6,
qs2 3 4 1,
ql 1] [(5,0)]
(.ret)) (.skip))))
(sr [qde 3 3,
qe 1,
qe 2,
qo (.call 207) [.loc 2,.loc 1,.loc 0],
ql 0,
qx 0 0,
qx 1 1,
ql 1,
ql 1] [(7,1),(8,0)]
(.seq (sr [qe 8,
qun 0] [(10,0)]
(cn 10 (sr [qo (.build [.bool false,.str ⟨#[]⟩,.int .i64 0] []) [],
qs2 3 4 0,
qi 14] [(5,0)]
(.ret)) (.skip)))
(.seq (.drawn [qfe 0 3,
qwd 1 0 1 1,
qwe 7 0 2,
qwe 7 0 3,
qw (.len true) [.loc 0] 8 4,
qwe 1 0 5,
qw (.bin .sub) [.loc 1,.loc 0] 56 6,
qw (.slice true 0 true false false) [.loc 4,.loc 0] 124 7,
qwe 2 0 8,
qw (.call 105) [.loc 7,.loc 1,.loc 0] 511 9,
qw (.extract 0) [.loc 0] 1023 10,
qw (.extract 1) [.loc 1] 1023 11,
qw (.store 3) [.env 4,.loc 1] 4095 12,
qwl 1 8191 13] [(5,0)] [])
(.ret))))),
[.cell 4 3 true,.tmp 5]⟩
def F157:LFunc:=⟨[0,1,2,3,4,5,6,7,16,18,30],2,
sr [qo (.boxc 3) [.env 0],
qo (.boxc 11) [.env 1],
qno,
qi 0] [(2,3),(3,2),(4,1),(5,0)]
(sr [qde 11 3,
qk 104 0,
ql 0] [(6,0)]
(.seq (sr [qe 6,
qo (.bin .eql) [.loc 0,qki 1],
ql 0,
qg (.load 3 true) [.env 2] 0 false,
qg (.call 152) [.loc 0] 1 false,
qg (.bin .neq) [.loc 0,qki 0] 2 false,
qpt 3 0] [(8,0)]
(cn 8 (sr [qno,
qi 1] [(4,1),(5,0)]
(.ret)) (.skip)))
(.seq (sr [qe 6,
qo (.bin .neq) [.loc 0,qki 0]] [(9,0)]
(cn 9 (sr [qe 6,
qno,
ql 1] [(4,1),(5,0)]
(.ret)) (.skip)))
(sr [qde 3 2,
qfe 3 3,
qd 1 0,
qfe 4 3,
qd 1 0,
qo (.call 202) [.loc 4,.loc 2,.loc 0],
ql 0,
qx 0 0,
qx 1 1,
ql 1,
ql 1] [(6,0),(7,1)]
(.seq (sr [qe 6,
qo (.bin .neq) [.loc 0,qki 0]] [(10,0)]
(cn 10 (sr [qe 6,
qno,
ql 1] [(4,1),(5,0)]
(.ret)) (.skip)))
(.seq (.drawn [qde 11 3,
qw (.call 144) [.loc 0] 1 1,
qw (.field 1 1 false) [.loc 0] 3 2,
qw (.load 11 true) [.env 3] 0 3,
qw (.faddr 0) [.env 2] 0 4,
qwd 1 0 16 5,
qwl 0 51 6,
qh (.faddr 5) [.env 3] 0 true 115 7,
qh (.load 1 false) [.loc 0] 1 true 243 8,
qw .pick [.loc 2,.loc 0,.const (.bool false)] 499 9,
qwe 7 0 10,
qw (.build [.bool false,.str ⟨#[]⟩] [(0,1),(1,1)]) [.loc 1,.loc 0] 2035 11,
qw .callv [.loc 9,.loc 8,.loc 0] 4095 12,
qw (.call 200) [.loc 0] 8191 13,
qwl 0 16383 14,
qwi 0 32767 15] [(4,1),(5,0)] [])
(.ret))))))),
[.tmp 4,.tmp 5]⟩
def F158:LFunc:=⟨[0,2],1,
sr [qbb false] [(1,0)]
(sr [qe 0,
qo (.bin .neq) [.loc 0,.const (.str ⟨#[]⟩)],
ql 0,
qge 0 0 true,
qg (.call 197) [.loc 0,.const (.str ⟨#[48,49,50,51,52,53,54,55,56,57]⟩)] 1 true,
qg (.bin .eql) [.loc 0,.const (.str ⟨#[]⟩)] 2 true,
qpf 3 0,
ql 0] [(1,0)]
(.ret)),
[.tmp 1]⟩
def F159:LFunc:=⟨[0,1,4],2,
sr [qo .mv [.const (.str ⟨#[]⟩)]] [(2,0)]
(sr [qe 1,
qe 0,
qln true 0,
qo (.bin .sub) [.loc 2,.loc 0],
qo .max [.loc 0,qki 0],
qo (.call 62) [.const (.str ⟨#[48]⟩),.loc 0],
qe 0,
qa2 1 0,
ql 0] [(2,0)]
(.ret)),
[.tmp 2]⟩
def F161:LFunc:=⟨[0,1,2,6,7,8,9,10,11,12,17,18,19],3,
sr [qo .mv [.const (.str ⟨#[]⟩)],
qi 0] [(3,1),(4,0)]
(sr [qe 0,
qln true 0,
qo (.mkslice 5 1 1 [.int .u8 0] 2) [.loc 0,.loc 0],
ql 0] [(5,0)]
(sr [qi 0] [(6,0)]
(.seq (sr [qe 0,
qln true 0,
qi 0] [(10,1),(11,0)]
(.block 0 (.loop (sr [qlt 11 10] [(12,0)]
(.seq (cn 12 (.skip) (.exit 0))
(.seq (.block 1 (sr [qe 11,
ql 0] [(7,0)]
(sr [qe 0,
qln true 0,
qo (.bin .sub) [.loc 0,qki 1],
qe 7,
qo (.bin .sub) [.loc 1,.loc 0],
ql 0] [(8,0)]
(sr [qi 0] [(9,0)]
(.seq (.drawn [qe 2,
qwe 0 0 1,
qwe 8 0 2,
qw .index [.loc 1,.loc 0] 6 3,
qw (.bin .sub) [.loc 0,qkb 48] 14 4,
qw (.conv .i64) [.loc 0] 30 5,
qwe 1 0 6,
qwe 8 0 7,
qw .index [.loc 1,.loc 0] 192 8,
qw (.bin .sub) [.loc 0,qkb 48] 448 9,
qw (.conv .i64) [.loc 0] 960 10,
qwe 6 0 11,
qw .callv [.loc 11,.loc 6,.loc 1,.loc 0] 4095 12,
qwl 0 8191 13,
qw (.extract 0) [.loc 0] 16383 14,
qw (.extract 1) [.loc 1] 16383 15,
qwl 1 32767 16,
qwl 1 131071 17] [(6,0),(9,1)] [])
(rg [qe 5,
qe 8,
qe 9,
qo (.bin .add) [qki 48,.loc 0],
qo (.conv .u8) [.loc 0],
qia 1 4 3,
qso 1 0 1] []))))))
(rg [qae 11 1,
ql 0] [(11,0)])))))))
(sr [qe 5,
qo .bstr [.loc 0],
qe 6,
ql 1,
ql 1] [(3,1),(4,0)]
(.ret))))),
[.tmp 3,.tmp 4]⟩
def F162:LFunc:=⟨[0,1,2,6,7],3,
sr [qi 0,
qi 0] [(3,1),(4,0)]
(sr [qe 0,
qe 1,
qa2 1 0,
qe 2,
qa2 1 0,
qo (.bin .rem) [.loc 0,qki 10],
qe 0,
qe 1,
qa2 1 0,
qe 2,
qa2 1 0,
qo (.bin .quo) [.loc 0,qki 10],
ql 6,
ql 1] [(3,1),(4,0)]
(.ret)),
[.tmp 3,.tmp 4]⟩
def F163:LFunc:=⟨[0,2],1,
sr [qo .mv [.const (.str ⟨#[]⟩)]] [(1,0)]
(sr [qe 0,
qk 209 0,
ql 0] [(1,0)]
(.ret)),
[.tmp 1]⟩
def F175:LFunc:=⟨[0,1,4,13],2,
sr [qo .mv [.const (.str ⟨#[]⟩)]] [(2,0)]
(.seq (.block 0 (.loop (.seq (sr [qe 0,
qln true 0,
qo (.bin .gtr) [.loc 0,qki 0],
ql 0,
qge 0 0 true,
qg .index [.loc 0,qki 0] 1 true,
qge 1 2 true,
qg (.bin .eql) [.loc 1,.loc 0] 3 true,
qpf 4 0] [(3,0)]
(cn 3 (.skip) (.exit 0)))
(.block 1 (rg [qe 0,
qo (.slice true 0 true false false) [.loc 0,qki 1],
ql 0] [(0,0)])))))
(sr [qe 0,
ql 0] [(2,0)]
(.ret))),
[.tmp 2]⟩
def F177:LFunc:=⟨[0,1,4,7,12],2,
sr [qo .mv [.const (.str ⟨#[]⟩)]] [(2,0)]
(.seq (.block 0 (.loop (.seq (sr [qe 0,
qln true 0,
qo (.bin .gtr) [.loc 0,qki 0]] [(3,0)]
(cn 3 (.skip) (.exit 0)))
(.block 1 (.seq (sr [qe 1,
qe 0,
qo .index [.loc 0,qki 0],
qkk 216 2 0,
qun 0] [(4,0)]
(cn 4 (.exit 0) (.skip)))
(rg [qe 0,
qo (.slice true 0 true false false) [.loc 0,qki 1],
ql 0] [(0,0)]))))))
(sr [qe 0,
ql 0] [(2,0)]
(.ret))),
[.tmp 2]⟩
def F180:LFunc:=⟨[0,1,4,16],2,
sr [qo .mv [.const (.str ⟨#[]⟩)]] [(2,0)]
(.seq (.block 0 (.loop (.seq (sr [qe 0,
qln true 0,
qo (.bin .gtr) [.loc 0,qki 0],
ql 0,
qge 0 0 true,
qge 0 1 true,
qg (.len true) [.loc 0] 2 true,
qg (.bin .sub) [.loc 0,qki 1] 3 true,
qg .index [.loc 3,.loc 0] 4 true,
qge 1 5 true,
qg (.bin .eql) [.loc 1,.loc 0] 6 true,
qpf 7 0] [(3,0)]
(cn 3 (.skip) (.exit 0)))
(.block 1 (rg [qe 0,
qe 0,
qln true 0,
qo (.bin .sub) [.loc 0,qki 1],
qo (.slice true 0 false true false) [.loc 3,.loc 0],
ql 0] [(0,0)])))))
(sr [qe 0,
ql 0] [(2,0)]
(.ret))),
[.tmp 2]⟩
def F181:LFunc:=⟨[0,1,4,7,15],2,
sr [qo .mv [.const (.str ⟨#[]⟩)]] [(2,0)]
(.seq (.block 0 (.loop (.seq (sr [qe 0,
qln true 0,
qo (.bin .gtr) [.loc 0,qki 0]] [(3,0)]
(cn 3 (.skip) (.exit 0)))
(.block 1 (.seq (sr [qe 1,
qe 0,
qe 0,
qln true 0,
qo (.bin .sub) [.loc 0,qki 1],
qo .index [.loc 3,.loc 0],
qkk 216 5 0,
qun 0] [(4,0)]
(cn 4 (.exit 0) (.skip)))
(rg [qe 0,
qe 0,
qln true 0,
qo (.bin .sub) [.loc 0,qki 1],
qo (.slice true 0 false true false) [.loc 3,.loc 0],
ql 0] [(0,0)]))))))
(sr [qe 0,
ql 0] [(2,0)]
(.ret))),
[.tmp 2]⟩
def F197:LFunc:=⟨[0,1,4,5,6,12,21,34],2,
sr [qo .mv [.const (.str ⟨#[]⟩)]] [(2,0)]
(.seq (sr [qe 0,
qo (.bin .eql) [.loc 0,.const (.str ⟨#[]⟩)],
ql 0,
qge 1 0 false,
qg (.bin .eql) [.loc 0,.const (.str ⟨#[]⟩)] 1 false,
qpt 2 0] [(5,0)]
(cn 5 (sr [qe 0,
ql 0] [(2,0)]
(.ret)) (.skip)))
(.seq (sr [qe 1,
qln true 0,
qo (.bin .eql) [.loc 0,qki 1],
ql 0,
qge 1 0 true,
qg .index [.loc 0,qki 0] 1 true,
qg (.bin .lss) [.loc 0,qkb 128] 2 true,
qpf 3 0] [(6,0)]
(cn 6 (.seq (.drawn [qe 0,
qwe 1 0 1,
qw .index [.loc 0,qki 0] 2 2,
qw (.call 180) [.loc 2,.loc 0] 7 3,
qwe 1 0 4,
qw .index [.loc 0,qki 0] 16 5,
qw (.call 175) [.loc 2,.loc 0] 63 6,
qwl 0 127 7] [(2,0)] [])
(.ret)) (.skip)))
(.seq (sr [qe 1,
qk 176 0,
ql 0,
qx 0 0,
qx 1 1,
qo (.alloc 237 tb0) [],
qso 256 0 2,
ql 2] [(3,2),(4,0)]
(sr [qe 4] [(7,0)]
(cn 7 (sr [qe 0,
qo (.call 181) [.loc 0,.env 3],
qo (.call 177) [.loc 0,.env 3],
ql 0] [(2,0)]
(.ret)) (.skip))))
(sr [qe 0,
qe 1,
qkk 182 1 0,
qe 1,
qkk 178 1 0,
ql 0] [(2,0)]
(.ret))))),
[.tmp 2]⟩
def F200:LFunc:=⟨[0,2],1,
sr [qno] [(1,0)]
(sr [qe 0,
qe 0,
qln false 0,
qe 0,
qln false 0,
qo (.slice false 1 false true true) [.loc 4,.loc 2,.loc 0],
ql 0] [(1,0)]
(.ret)),
[.tmp 1]⟩
def F202:LFunc:=⟨[0,1,2,3,6,7,8,9,10,19,23],3,
sr [qo (.boxc 3) [.env 0],
qo .mv [.const (.str ⟨#[]⟩)],
qi 0] [(3,2),(4,1),(5,0)]
(sr [qde 3 3,
qe 1,
qe 2,
qo (.call 155) [.loc 2,.loc 1,.loc 0],
ql 0,
qx 0 0,
qx 1 1,
ql 1,
ql 1] [(6,1),(7,0)]
(.seq (.block 0 (sr [qe 7,
qo (.bin .neq) [.loc 0,qki 0],
ql 0] [(9,0)]
(cn 9 (sr [qe 7,
qo .mv [.const (.str ⟨#[]⟩)],
ql 1] [(4,1),(5,0)]
(.ret)) (sr [qe 6,
qun 0,
ql 0] [(10,0)]
(cn 10 (sr [qo .mv [.const (.str ⟨#[]⟩)],
qi 14] [(4,1),(5,0)]
(.ret)) (.skip))))))
(sr [qde 3 3,
qe 1,
qe 2,
qo (.call 207) [.loc 2,.loc 1,.loc 0],
ql 0,
qx 0 0,
qx 1 1,
ql 1,
ql 1] [(8,1)]
(sr [qe 8,
qe 8,
qln true 0,
qe 1,
qo (.bin .sub) [.loc 1,.loc 0],
qo (.slice true 0 true false false) [.loc 4,.loc 0],
ql 0,
qi 0] [(4,1),(5,0)]
(.ret))))),
[.tmp 4,.tmp 5]⟩
def F205:LFunc:=⟨[0,1,2,3,6,25],3,
sr [qo (.boxc 3) [.env 0],
qi 0] [(3,1),(4,0)]
(.seq (sr [qde 3 3,
qk 152 0,
qo (.bin .neq) [.loc 0,qki 0],
ql 0,
qge 1 0 false,
qg (.bin .lss) [.loc 0,qki 1] 1 false,
qpt 2 0,
ql 0,
qge 1 0 false,
qg (.bin .gtr) [.loc 0,qki 62] 1 false,
qpt 2 0,
ql 0,
qge 2 0 false,
qg (.bin .lss) [.loc 0,.const (.int .i64 (-62))] 1 false,
qpt 2 0,
ql 0,
qge 2 0 false,
qg (.bin .gtr) [.loc 0,qki 62] 1 false,
qpt 2 0] [(5,0)]
(cn 5 (sr [qi 1] [(4,0)]
(.ret)) (.skip)))
(sr [qi 0] [(4,0)]
(.ret))),
[.tmp 4]⟩
def F207:LFunc:=⟨[0,1,2,3,6,7,9,11,12,21,29],3,
sr [qo (.boxc 3) [.env 0],
qo .mv [.const (.str ⟨#[]⟩)],
qbb false] [(3,2),(4,1),(5,0)]
(.seq (sr [qde 3 3,
qe 2,
qkk 154 1 0,
ql 0,
qx 0 0,
qx 1 1,
qx 2 2,
qo (.alloc 57 [.bool false,.str ⟨#[]⟩,.int .i64 0]) [],
qso 3 0 3,
ql 3,
ql 3] [(6,1)]
(sr [qe 6,
qun 0] [(9,0)]
(cn 9 (sr [qo .mv [.const (.str ⟨#[]⟩)],
qbb false] [(4,1),(5,0)]
(.ret)) (.skip))))
(sr [qfe 1 3,
qd 1 0,
ql 0] [(7,0)]
(.seq (sr [qe 2,
qfe 2 3,
qd 1 0,
qo (.bin .sub) [.loc 2,.loc 0],
ql 0] [(8,0)]
(sr [qe 8,
qo (.bin .geq) [.loc 0,qki 0]] [(10,0)]
(cn 10 (rg [qe 7,
qe 8,
qo (.call 62) [.const (.str ⟨#[48]⟩),.loc 0],
qa2 2 0,
ql 0] [(7,0)]) (rg [qe 7,
qe 7,
qln true 0,
qe 8,
qa2 1 0,
qo .max [.loc 0,qki 0],
qo (.slice true 0 false true false) [.loc 5,.loc 0],
ql 0] [(7,0)]))))
(sr [qe 1,
qe 7,
qln true 0,
qo (.bin .sub) [.loc 2,.loc 0],
qo .max [.loc 0,qki 0],
qo (.call 62) [.const (.str ⟨#[48]⟩),.loc 0],
qe 7,
qa2 1 0,
ql 0,
qbb true] [(4,1),(5,0)]
(.ret))))),
[.tmp 4,.tmp 5]⟩
def F209:LFunc:=⟨[0,2],1,
sr [qo .mv [.const (.str ⟨#[]⟩)]] [(1,0)]
(sr [qe 0,
qo (.call 89) [.loc 0,qki 10],
ql 0] [(1,0)]
(.ret)),
[.tmp 1]⟩
def F216:LFunc:=⟨[0,1,4],2,
sr [qbb false] [(2,0)]
(sr [qe 0,
qe 1,
qnl 1,
qo (.aaddr 1 256) [.loc 0,.loc 1],
qd 1 0,
ql 0] [(2,0)]
(.ret)),
[.tmp 2]⟩
def F226:LFunc:=⟨[0,1,2,4,5,6,7,8,9,10,11,18,31],2,
sr [qo (.boxc 11) [.env 0],
qo (.alloc 157 [.bool false,.str ⟨#[]⟩]) [],
qbb false] [(2,2),(3,1),(4,0)]
(sr [qe 1,
qo .bstr [.loc 0],
qo (.build [.bool false,.str ⟨#[]⟩] [(1,1)]) [.loc 0],
qo (.alloc 157 [.bool false,.str ⟨#[]⟩]) [],
qso 2 0 1] [(5,1)]
(.seq (sr [qde 11 2,
qk 253 0,
ql 0] [(6,0)]
(sr [qfe 5 2,
qd 1 0] [(11,0)]
(cn 11 (sr [qe 1,
qe 6,
qia 1 1 0,
qd 1 0,
ql 0] [(7,0)]
(sr [qe 7,
qo (.call 172) [.const (.str ⟨#[123,65,66,67,68,69,70,71,72,73]⟩),.loc 0],
qe 7,
qo (.call 172) [.const (.str ⟨#[125,74,75,76,77,78,79,80,81,82]⟩),.loc 0],
ql 2,
ql 1] [(8,1),(9,0)]
(sr [qe 8,
qe 9,
qo .max [.loc 1,.loc 0],
ql 0] [(10,0)]
(sr [qe 10,
qo (.bin .geq) [.loc 0,qki 0]] [(12,0)]
(cn 12 (.drawn [qe 9,
qw (.bin .geq) [.loc 0,qki 0] 1 1,
qw (.faddr 1) [.env 5] 0 2,
qwd 1 0 4 3,
qwe 6 0 4,
qw (.slice true 0 false true false) [.loc 1,.loc 0] 28 5,
qwe 10 0 6,
qwe 10 0 7,
qw (.bin .add) [.loc 0,qki 1] 128 8,
qw (.slice true 0 true true false) [.const (.str ⟨#[48,49,50,51,52,53,54,55,56,57]⟩),.loc 2,.loc 0] 448 9,
qw (.bin .add) [.loc 4,.loc 0] 1020 10,
qw (.faddr 1) [.env 5] 0 11,
qwd 1 0 2048 12,
qwe 6 0 13,
qw (.bin .add) [.loc 0,qki 1] 8192 14,
qw (.slice true 0 true false false) [.loc 2,.loc 0] 30720 15,
qw (.bin .add) [.loc 5,.loc 0] 65532 16,
qw (.build [.bool false,.str ⟨#[]⟩] [(0,1),(1,1)]) [.loc 15,.loc 0] 131071 17,
qw (.store 2) [.env 5,.loc 0] 262143 18] [] []) (.skip)))))) (.skip))))
(.seq (.drawn [qde 2 5,
qw (.faddr 1) [.env 5] 0 1,
qwd 1 0 2 2,
qw (.call 197) [.loc 0,.const (.str ⟨#[48,49,50,51,52,53,54,55,56,57]⟩)] 6 3,
qw (.bin .eql) [.loc 0,.const (.str ⟨#[]⟩)] 14 4,
qw (.store 2) [.env 3,.loc 4] 15 5,
qwl 1 63 6] [(4,0)] [])
(.ret)))),
[.cell 3 2 true,.tmp 4]⟩
def F227:LFunc:=⟨[0,1,2,3,4,5,6,7,14,16],2,
sr [qo (.boxc 11) [.env 0],
qo (.boxc 2) [.env 1],
qno] [(2,2),(3,1),(4,0)]
(sr [qfe 1 3,
qd 1 0,
qo .strb [.loc 0],
ql 0] [(5,0)]
(.seq (sr [qde 11 2,
qk 253 0,
ql 0] [(6,0)]
(sr [qfe 5 2,
qd 1 0] [(8,0)]
(cn 8 (sr [qo .mv [.const (.str ⟨#[123,65,66,67,68,69,70,71,72,73]⟩)]] [(7,0)]
(.seq (sr [qfe 0 3,
qd 1 0] [(9,0)]
(cn 9 (rg [qo .mv [.const (.str ⟨#[125,74,75,76,77,78,79,80,81,82]⟩)]] [(7,0)]) (.skip)))
(rg [qe 5,
qe 6,
qe 7,
qe 5,
qe 6,
qia 1 1 0,
qd 1 0,
qo (.bin .sub) [.loc 0,qkb 48],
qo .index [.loc 5,.loc 0],
qia 1 8 7,
qso 1 0 1] []))) (.skip))))
(sr [qe 5,
ql 0] [(4,0)]
(.ret)))),
[.tmp 4]⟩
noncomputable def cO (f:FuncId) (m b s:List Nat):Option LFunc:=match Tryz.prog.funcs[f]? with
  | some fn => match lowFn Tryz.prog (KD m b) s fn with
    | some F=>if noDfr F.body then some F else none
    | none=>none
  | none=>none
noncomputable abbrev cQ (f:FuncId) (b s:List Nat):Option LFunc:=cO f [999999] b s
noncomputable abbrev cP (f:FuncId) (s:List Nat):Option LFunc:=cO f [999999] [] s
noncomputable abbrev Gf13:Option LFunc:=cQ 13 [1] [0,1,2,6]
noncomputable abbrev Gf20:Option LFunc:=cQ 20 [1] [0,1,2]
noncomputable abbrev Gf21:Option LFunc:=cP 21 [0,2,3,4,5,6,7,8,9,10,11,22]
noncomputable abbrev Gf22:Option LFunc:=cQ 22 [1] [0,1,2]
noncomputable abbrev Gf27:Option LFunc:=cP 27 [0,2]
noncomputable abbrev Gf28:Option LFunc:=cP 28 [0,2,3]
noncomputable abbrev Gf29:Option LFunc:=cP 29 [0,2]
noncomputable abbrev Gf32:Option LFunc:=cQ 32 [1] [0,1,2]
noncomputable abbrev Gf42:Option LFunc:=cO 42 [77,999999] [] [0,2,3,4,5,9,10,11,12]
noncomputable abbrev Gf49:Option LFunc:=cQ 49 [1] [0,1,2]
noncomputable abbrev Gf50:Option LFunc:=cQ 50 [1] [0,1,2]
noncomputable abbrev Gf60:Option LFunc:=cQ 60 [13] [0,1,4]
noncomputable abbrev Gf61:Option LFunc:=cP 61 [0,1,4,5]
noncomputable abbrev Gf63:Option LFunc:=cP 63 [0,2]
noncomputable abbrev Gf66:Option LFunc:=cP 66 [0,2,3,4,5,7,8,9,16,19,20,21,22,31,37]
noncomputable abbrev Gf77:Option LFunc:=cP 77 [0,1,4,5,6,7,8,9,10,11,13,16,32,38,42,50,63]
noncomputable abbrev Gf82:Option LFunc:=cP 82 [0,1,2,3,5,7,8,9,10]
noncomputable abbrev Gf83:Option LFunc:=cP 83 [0,6,19]
noncomputable abbrev Gf84:Option LFunc:=cP 84 [0,1,4,5,6,7,8,9]
noncomputable abbrev Gf85:Option LFunc:=cP 85 [0,1,4]
noncomputable abbrev Gf90:Option LFunc:=cP 90 [0,2,3,4,5,6,7,8,9,10,14,34,39,50,53]
noncomputable abbrev Gf91:Option LFunc:=cP 91 [0,2,3,4,10,18,23,31]
noncomputable abbrev Gf92:Option LFunc:=cP 92 [0,2,3,4,5,6,7,8,9,10,11,12,13,38,48,63]
noncomputable abbrev Gf93:Option LFunc:=cP 93 [0,2,3,4,5,7,8,9,10,11,12,13,24,25,26,27,36,52,85]
noncomputable abbrev Gf94:Option LFunc:=cP 94 [0,1,4,5,6,9,15,24]
noncomputable abbrev Gf95:Option LFunc:=cP 95 [0,1,4]
noncomputable abbrev Gf96:Option LFunc:=cP 96 [0,1,2,3,4,5,14,45,62]
noncomputable abbrev Gf98:Option LFunc:=cQ 98 [1] [0,1,2,3,4,5,6,7,14,18,23,46,50,56,83,119]
noncomputable abbrev Gf104:Option LFunc:=cQ 104 [1] [0,1,2,3,7]
noncomputable abbrev Gf113:Option LFunc:=cP 113 [0,1,4,5,6,7,8,9,10,11,12,13]
noncomputable abbrev Gf120:Option LFunc:=cP 120 [0,2,3,4,5,8,31]
noncomputable abbrev Gf121:Option LFunc:=cQ 121 [1] [0,1,2]
noncomputable abbrev Gf122:Option LFunc:=cP 122 [0,1,2,6,7,22]
noncomputable abbrev Gf123:Option LFunc:=cP 123 [0,1,4]
noncomputable abbrev Gf124:Option LFunc:=cP 124 [0,1,4,5,6]
noncomputable abbrev Gf125:Option LFunc:=cP 125 [0,2]
noncomputable abbrev Gf129:Option LFunc:=cP 129 [0,1,4,5]
noncomputable abbrev Gf130:Option LFunc:=cP 130 [0,1,4,5,6,7,8,9,11,12,14,15,16,28,30,44,56,65,68,69,70,76,78]
noncomputable abbrev Gf131:Option LFunc:=cP 131 [0,2,4]
noncomputable abbrev Gf132:Option LFunc:=cP 132 [0,1,4]
noncomputable abbrev Gf133:Option LFunc:=cP 133 [0,1,4,6,8,9,10,11,24]
noncomputable abbrev Gf134:Option LFunc:=cP 134 [0,2,3,4,5,6,8,9,10,11,15,24,30,31,32,53,70]
noncomputable abbrev Gf135:Option LFunc:=cP 135 [0,1,2,6,7,8,42,62,68,74]
noncomputable abbrev Gf138:Option LFunc:=cP 138 [0,1,4]
noncomputable abbrev Gf139:Option LFunc:=cP 139 [0,1,4,5,7,8,9,16]
noncomputable abbrev Gf140:Option LFunc:=cP 140 [0,1,4]
noncomputable abbrev Gf141:Option LFunc:=cP 141 [0,1,2,3]
noncomputable abbrev Gf142:Option LFunc:=cP 142 [0,1,2,3,4,5,7,9,10,11,12,52]
noncomputable abbrev Gf143:Option LFunc:=cQ 143 [1] [0,1,2,3,4,13,27,33,44]
noncomputable abbrev Gf144:Option LFunc:=cQ 144 [1] [0,1,2,4]
noncomputable abbrev Gf146:Option LFunc:=cQ 146 [2,3] [0,1,2,3,4,5,24]
noncomputable abbrev Gf148:Option LFunc:=cQ 148 [2,3] [0,1,2,3,4,5,6,7,9,10,14,25,37]
noncomputable abbrev Gf171:Option LFunc:=cP 171 [0,1,3]
noncomputable abbrev Gf172:Option LFunc:=cP 172 [0,1,4]
noncomputable abbrev Gf173:Option LFunc:=cP 173 [0,1,4,5,6,7,8,9,10,12,15,20,26,32,36,42,45,46,47,53]
noncomputable abbrev Gf174:Option LFunc:=cP 174 [0,1,4,5,6,7,12]
noncomputable abbrev Gf176:Option LFunc:=cP 176 [0,2,3,4,5,9,16]
noncomputable abbrev Gf183:Option LFunc:=cP 183 [0,1,4,5,9]
noncomputable abbrev Gf187:Option LFunc:=cP 187 [0,2]
noncomputable abbrev Gf188:Option LFunc:=cP 188 [0,1,4,5,6,7,8,9,10,11,12,13,14,15,16,26,33,43,51,64,98,108,124,139,143,156,160,171,175,176,177,181,183]
noncomputable abbrev Gf189:Option LFunc:=cP 189 [0,1,3]
noncomputable abbrev Gf190:Option LFunc:=cP 190 [0,1,4,5]
noncomputable abbrev Gf191:Option LFunc:=cP 191 [0,1,4,5,6,7,8,9,10,11,12,13,16,24,31,36,59,64,73,93,107,114,132,139]
noncomputable abbrev Gf192:Option LFunc:=cP 192 [0,1,4,5,7,8,9,16]
noncomputable abbrev Gf193:Option LFunc:=cP 193 [0,1,2,3,4,6,7,22,46,64]
noncomputable abbrev Gf194:Option LFunc:=cQ 194 [1] [0,1,2,3,11,20,29,33]
noncomputable abbrev Gf195:Option LFunc:=cP 195 [0]
noncomputable abbrev Gf199:Option LFunc:=cQ 199 [2] [0,1,2,4,5,9]
noncomputable abbrev Gf201:Option LFunc:=cQ 201 [2,3] [0,1,2,3,4,5,6,7,8,10,16,36]
noncomputable abbrev Gf208:Option LFunc:=cP 208 [0,1,4]
noncomputable abbrev Gf214:Option LFunc:=cP 214 [0,1,4]
noncomputable abbrev Gf215:Option LFunc:=cP 215 [0,2]
noncomputable abbrev Gf224:Option LFunc:=cQ 224 [2,3] [0,1,2,3,4]
noncomputable abbrev Gf225:Option LFunc:=cP 225 [0,1,2]
noncomputable abbrev Gf235:Option LFunc:=cQ 235 [1] [0,1,2,3,5,6,7,9,13,14,15,16,26,33,34,35,36,45]
noncomputable abbrev Gf240:Option LFunc:=cO 240 [5,999999] [] [0,2,3,4,5,14,15,16,38,48,54,76,105]
noncomputable abbrev Gf253:Option LFunc:=cQ 253 [1] [0,1,2,4]
noncomputable abbrev Gf254:Option LFunc:=cQ 254 [2] [0,1,2,4]
noncomputable abbrev Gf255:Option LFunc:=cP 255 [0,1,4,13,30,55]
noncomputable abbrev Gf256:Option LFunc:=cQ 256 [23] [0,1,2,6]
noncomputable abbrev Gf260:Option LFunc:=cP 260 [0,2,8]
noncomputable abbrev Gf263:Option LFunc:=cP 263 [0,1,4]
theorem eg3:cQ 3 [2] [0,1,2,4,5,6,7,8,9,12,27,31,58]=some F3:=by kernel_rfl
theorem eg8:cP 8 [0,1,2,3,4,5,6,7,8,9,50,72]=some F8:=by kernel_rfl
theorem eg9:cO 9 [57,999999] [57] [0,1,2,3,4,5,7,11,22,23,24,25,30,47,48,49]=some F9:=by kernel_rfl
theorem eg10:cQ 10 [1,26,39,70,75,85,97,116,155,176,190,196,213,225] [0,1,2,3,4,5,6,7,8,9,10,11,20,32,43,89,107,122,128,161,186,204,217]=some F10:=by kernel_rfl
theorem eg11:cP 11 [0,2,4]=some F11:=by kernel_rfl
theorem eg12:cP 12 [0,1,2,3,4,5,6,7,8,11,16,49]=some F12:=by kernel_rfl
theorem eg14:cQ 14 [1] [0,1,2]=some F14:=by kernel_rfl
theorem eg15:cP 15 [0,1,4,5,10,14,25]=some F15:=by kernel_rfl
theorem eg16:cQ 16 [3] [0,1,2,3,6,7,8,9,10,11,17,21,29,31,42,53,56,68,69,89,99,107,113]=some F16:=by kernel_rfl
theorem eg17:cP 17 [0,1,2,3,4,7]=some F17:=by kernel_rfl
theorem eg18:cP 18 [0,1,4,5,6,9]=some F18:=by kernel_rfl
theorem eg19:cQ 19 [1] [0,1,2]=some F19:=by kernel_rfl
theorem eg23:cQ 23 [4] [0,1,2,3,4,8,28]=some F23:=by kernel_rfl
theorem eg24:cQ 24 [1] [0,1,2]=some F24:=by kernel_rfl
theorem eg26:cP 26 [0,2,3,4]=some F26:=by kernel_rfl
theorem eg30:cP 30 [0,1,2,3,26]=some F30:=by kernel_rfl
theorem eg31:cO 31 [74,82,71] [] [0,1,2,3,4,5,6,25,26,27,37,38,39,56,57,58]=some F31:=by kernel_rfl
theorem eg33:cP 33 [0,2]=some F33:=by kernel_rfl
theorem eg34:cQ 34 [2] [0,1,2,4]=some F34:=by kernel_rfl
theorem eg35:cP 35 [0,1,4]=some F35:=by kernel_rfl
theorem eg36:cP 36 [0,2]=some F36:=by kernel_rfl
theorem eg37:cP 37 [0,2]=some F37:=by kernel_rfl
theorem eg38:cO 38 [] [] [0,2,4]=some F38:=by kernel_rfl
theorem eg39:cP 39 [0,1,4,5,6,15,16,17,18,19,33,51]=some F39:=by kernel_rfl
theorem eg40:cP 40 [0,1,4,5,40]=some F40:=by kernel_rfl
theorem eg41:cP 41 [0,1,2,3,9,42,64]=some F41:=by kernel_rfl
theorem eg43:cQ 43 [80] [0,1,3,5,6,8,10,11,12,13,17,18,19,20,56]=some F43:=by kernel_rfl
theorem eg44:cP 44 [0,1,11]=some F44:=by kernel_rfl
theorem eg45:cP 45 [0,1,4,5,6,11,12,13,14,33]=some F45:=by kernel_rfl
theorem eg46:cO 46 [57,999999] [] [0,1,4,5,6,15,31,32,33,34,41]=some F46:=by kernel_rfl
theorem eg47:cO 47 [57,999999] [] [0,2,3,4,10,11,12,13]=some F47:=by kernel_rfl
theorem eg48:cP 48 [0,1,3,9,41,72]=some F48:=by kernel_rfl
theorem eg51:cQ 51 [29] [0,1,2]=some F51:=by kernel_rfl
theorem eg52:cP 52 [0,13]=some F52:=by kernel_rfl
theorem eg53:cQ 53 [5] [0,1,2,5,6,14,23]=some F53:=by kernel_rfl
theorem eg54:cQ 54 [4,5,6] [0,1,2,3,5,6,8]=some F54:=by kernel_rfl
theorem eg55:cP 55 [0,1,2,3,8,9,10,11,12,20,30,41,60,86]=some F55:=by kernel_rfl
theorem eg56:cP 56 [0,1,2,6,12,41]=some F56:=by kernel_rfl
theorem eg57:cP 57 [0,14]=some F57:=by kernel_rfl
theorem eg58:cP 58 [0,6,22]=some F58:=by kernel_rfl
theorem eg59:cP 59 [0]=some F59:=by kernel_rfl
theorem eg64:cP 64 [0,1,4,5]=some F64:=by kernel_rfl
theorem eg65:cP 65 [0,1,4]=some F65:=by kernel_rfl
theorem eg67:cP 67 [0,1,2,3,4,6,7,9,10,12,13,14,15,35,38,39,40,41,77,81,82,83,84,105]=some F67:=by kernel_rfl
theorem eg68:cP 68 [0,2,4]=some F68:=by kernel_rfl
theorem eg69:cP 69 [0,2,4]=some F69:=by kernel_rfl
theorem eg70:cO 70 [] [] [0,2,4]=some F70:=by kernel_rfl
theorem eg71:cO 71 [] [] [0,2,4]=some F71:=by kernel_rfl
theorem eg72:cO 72 [] [] [0,2,4]=some F72:=by kernel_rfl
theorem eg73:cO 73 [] [] [0,2,4]=some F73:=by kernel_rfl
theorem eg74:cP 74 [0,2,4]=some F74:=by kernel_rfl
theorem eg75:cQ 75 [1] [0,1,2,4,8]=some F75:=by kernel_rfl
theorem eg76:cO 76 [57,999999] [] [0,2,4]=some F76:=by kernel_rfl
theorem eg78:cP 78 [0,1,3,4,5,7,8,19,29,45,63]=some F78:=by kernel_rfl
theorem eg79:cP 79 [0,1,4]=some F79:=by kernel_rfl
theorem eg80:cQ 80 [1] [0,1,2,3,4,5,6,11,20]=some F80:=by kernel_rfl
theorem eg81:cQ 81 [2,3] [0,1,2,3,4,5,6,7,8,9,14,24,39]=some F81:=by kernel_rfl
theorem eg88:cP 88 [0,1,4,5,9]=some F88:=by kernel_rfl
theorem eg97:cP 97 [0,1,2,3,5,6,9,39,41,42,43,44,50,58,59,65,73]=some F97:=by kernel_rfl
theorem eg99:cQ 99 [1] [0,1,2,3,4,5,12,17,32]=some F99:=by kernel_rfl
theorem eg101:cO 101 [5,999999] [] [0,1,2,6,7,8,9,13,21]=some F101:=by kernel_rfl
theorem eg102:cQ 102 [2,3] [0,1,2,3,4,5,6,7,8,9,10,20,28,34,46,61,65,82,86]=some F102:=by kernel_rfl
theorem eg103:cQ 103 [3,4] [0,1,2,3,4,6,7,8,9,10,11,12,14,16,17,18,31,50,79]=some F103:=by kernel_rfl
theorem eg105:cP 105 [0,1,2,6,7,23]=some F105:=by kernel_rfl
theorem eg106:cQ 106 [2,3] [0,1,2,3,4]=some F106:=by kernel_rfl
theorem eg107:cQ 107 [2,3] [0,1,2,3,4,5,6,7]=some F107:=by kernel_rfl
theorem eg108:cP 108 [0,1,2,6,7,11,18,27,37]=some F108:=by kernel_rfl
theorem eg109:cP 109 [0,1,4,5,6]=some F109:=by kernel_rfl
theorem eg114:cP 114 [0,1,4]=some F114:=by kernel_rfl
theorem eg126:cP 126 [0,1,4,5,6,12,21,31]=some F126:=by kernel_rfl
theorem eg145:cP 145 [0,2,3,6]=some F145:=by kernel_rfl
theorem eg147:cQ 147 [1] [0,1,2,3,4,7,8,14,31]=some F147:=by kernel_rfl
theorem eg149:cQ 149 [2,3] [0,1,2,3,4,5,6,8,9,19,31]=some F149:=by kernel_rfl
theorem eg150:cQ 150 [2,3] [0,1,2,3,4,5,6,7,8,17,26]=some F150:=by kernel_rfl
theorem eg152:cQ 152 [1] [0,1,2,3,4,24,41]=some F152:=by kernel_rfl
theorem eg153:cQ 153 [3] [0,1,2,3,6,7,8,9,10,11,19,28,36,40,56]=some F153:=by kernel_rfl
theorem eg154:cQ 154 [2] [0,1,2,4,5,6,7,8,9,10,11,15,21,27]=some F154:=by kernel_rfl
theorem eg155:cQ 155 [3] [0,1,2,3,6,7,8,9,10,16]=some F155:=by kernel_rfl
theorem eg156:cQ 156 [3] [0,1,2,3,6,7,8,9,10,16,27]=some F156:=by kernel_rfl
theorem eg157:cQ 157 [2,3] [0,1,2,3,4,5,6,7,16,18,30]=some F157:=by kernel_rfl
theorem eg158:cP 158 [0,2]=some F158:=by kernel_rfl
theorem eg159:cP 159 [0,1,4]=some F159:=by kernel_rfl
theorem eg161:cO 161 [5,999999] [] [0,1,2,6,7,8,9,10,11,12,17,18,19]=some F161:=by kernel_rfl
theorem eg162:cP 162 [0,1,2,6,7]=some F162:=by kernel_rfl
theorem eg163:cP 163 [0,2]=some F163:=by kernel_rfl
theorem eg175:cP 175 [0,1,4,13]=some F175:=by kernel_rfl
theorem eg177:cP 177 [0,1,4,7,12]=some F177:=by kernel_rfl
theorem eg180:cP 180 [0,1,4,16]=some F180:=by kernel_rfl
theorem eg181:cP 181 [0,1,4,7,15]=some F181:=by kernel_rfl
theorem eg197:cP 197 [0,1,4,5,6,12,21,34]=some F197:=by kernel_rfl
theorem eg200:cP 200 [0,2]=some F200:=by kernel_rfl
theorem eg202:cQ 202 [3] [0,1,2,3,6,7,8,9,10,19,23]=some F202:=by kernel_rfl
theorem eg205:cQ 205 [3] [0,1,2,3,6,25]=some F205:=by kernel_rfl
theorem eg207:cQ 207 [3] [0,1,2,3,6,7,9,11,12,21,29]=some F207:=by kernel_rfl
theorem eg209:cP 209 [0,2]=some F209:=by kernel_rfl
theorem eg216:cP 216 [0,1,4]=some F216:=by kernel_rfl
theorem eg226:cQ 226 [2] [0,1,2,4,5,6,7,8,9,10,11,18,31]=some F226:=by kernel_rfl
theorem eg227:cO 227 [5,999999] [2,3] [0,1,2,3,4,5,6,7,14,16]=some F227:=by kernel_rfl
noncomputable def Dp:FuncId→Option LFunc
  | 3=>some F3
  | 8=>some F8
  | 9=>some F9
  | 10=>some F10
  | 11=>some F11
  | 12=>some F12
  | 13=>Gf13
  | 14=>some F14
  | 15=>some F15
  | 16=>some F16
  | 17=>some F17
  | 18=>some F18
  | 19=>some F19
  | 20=>Gf20
  | 21=>Gf21
  | 22=>Gf22
  | 23=>some F23
  | 24=>some F24
  | 26=>some F26
  | 27=>Gf27
  | 28=>Gf28
  | 29=>Gf29
  | 30=>some F30
  | 31=>some F31
  | 32=>Gf32
  | 33=>some F33
  | 34=>some F34
  | 35=>some F35
  | 36=>some F36
  | 37=>some F37
  | 38=>some F38
  | 39=>some F39
  | 40=>some F40
  | 41=>some F41
  | 42=>Gf42
  | 43=>some F43
  | 44=>some F44
  | 45=>some F45
  | 46=>some F46
  | 47=>some F47
  | 48=>some F48
  | 49=>Gf49
  | 50=>Gf50
  | 51=>some F51
  | 52=>some F52
  | 53=>some F53
  | 54=>some F54
  | 55=>some F55
  | 56=>some F56
  | 57=>some F57
  | 58=>some F58
  | 59=>some F59
  | 60=>Gf60
  | 61=>Gf61
  | 63=>Gf63
  | 64=>some F64
  | 65=>some F65
  | 66=>Gf66
  | 67=>some F67
  | 68=>some F68
  | 69=>some F69
  | 70=>some F70
  | 71=>some F71
  | 72=>some F72
  | 73=>some F73
  | 74=>some F74
  | 75=>some F75
  | 76=>some F76
  | 77=>Gf77
  | 78=>some F78
  | 79=>some F79
  | 80=>some F80
  | 81=>some F81
  | 82=>Gf82
  | 83=>Gf83
  | 84=>Gf84
  | 85=>Gf85
  | 88=>some F88
  | 90=>Gf90
  | 91=>Gf91
  | 92=>Gf92
  | 93=>Gf93
  | 94=>Gf94
  | 95=>Gf95
  | 96=>Gf96
  | 97=>some F97
  | 98=>Gf98
  | 99=>some F99
  | 101=>some F101
  | 102=>some F102
  | 103=>some F103
  | 104=>Gf104
  | 105=>some F105
  | 106=>some F106
  | 107=>some F107
  | 108=>some F108
  | 109=>some F109
  | 113=>Gf113
  | 114=>some F114
  | 120=>Gf120
  | 121=>Gf121
  | 122=>Gf122
  | 123=>Gf123
  | 124=>Gf124
  | 125=>Gf125
  | 126=>some F126
  | 129=>Gf129
  | 130=>Gf130
  | 131=>Gf131
  | 132=>Gf132
  | 133=>Gf133
  | 134=>Gf134
  | 135=>Gf135
  | 138=>Gf138
  | 139=>Gf139
  | 140=>Gf140
  | 141=>Gf141
  | 142=>Gf142
  | 143=>Gf143
  | 144=>Gf144
  | 145=>some F145
  | 146=>Gf146
  | 147=>some F147
  | 148=>Gf148
  | 149=>some F149
  | 150=>some F150
  | 152=>some F152
  | 153=>some F153
  | 154=>some F154
  | 155=>some F155
  | 156=>some F156
  | 157=>some F157
  | 158=>some F158
  | 159=>some F159
  | 161=>some F161
  | 162=>some F162
  | 163=>some F163
  | 171=>Gf171
  | 172=>Gf172
  | 173=>Gf173
  | 174=>Gf174
  | 175=>some F175
  | 176=>Gf176
  | 177=>some F177
  | 180=>some F180
  | 181=>some F181
  | 183=>Gf183
  | 187=>Gf187
  | 188=>Gf188
  | 189=>Gf189
  | 190=>Gf190
  | 191=>Gf191
  | 192=>Gf192
  | 193=>Gf193
  | 194=>Gf194
  | 195=>Gf195
  | 197=>some F197
  | 199=>Gf199
  | 200=>some F200
  | 201=>Gf201
  | 202=>some F202
  | 205=>some F205
  | 207=>some F207
  | 208=>Gf208
  | 209=>some F209
  | 214=>Gf214
  | 215=>Gf215
  | 216=>some F216
  | 224=>Gf224
  | 225=>Gf225
  | 226=>some F226
  | 227=>some F227
  | 235=>Gf235
  | 240=>Gf240
  | 253=>Gf253
  | 254=>Gf254
  | 255=>Gf255
  | 256=>Gf256
  | 260=>Gf260
  | 263=>Gf263
  | _=>none
def dfnOf:FuncId→Option LFunc
  | _=>none
noncomputable def LP:Prg:={ fns:=Dp,raw:=fun f=>false,pure:=fun f=>!(f==9||f==60||f==61||f==71||f==72||f==73||f==121),deep:=fun f=>f==31,ext:=LE,dfs:=fun f=>false,dfn:=dfnOf }
theorem Aal {f : FuncId} {m b s : List Nat} {F : LFunc} (h : cO f m b s = some F) : ∃ fn kd slots, Tryz.prog.funcs[f]? = some fn ∧ lowFn Tryz.prog kd slots fn = some F ∧ (∀ g row, kd.glob g = some row → GT g = some row) ∧ (LP.dfs f = true ∨ noDfr F.body = true) := by
  unfold cO at h
  split at h
  · rename_i fn hf
    split at h
    · rename_i F' hF
      split at h
      · rename_i hn
        cases h
        exact⟨fn,_,s,hf,hF,fun _ _ h=>h,.inr hn⟩
      cases h
    cases h
  cases h
theorem fk{f:FuncId}{F G:LFunc}{fn:Func}{sl:List Nat}(h:some G=some F)(hf:Tryz.prog.funcs[f]?=some fn)(hl:LK sl fn=some G)(hn:noDfr G.body=true):∃fn kd slots,Tryz.prog.funcs[f]?=some fn∧lowFn Tryz.prog kd slots fn=some F∧(∀g row,kd.glob g=some row→GT g=some row)∧(LP.dfs f=true∨noDfr F.body=true):=by
  injection h with h;subst h;exact⟨fn,_,_,hf,hl,fun _ _ h=>h,.inr hn⟩
theorem fk1{f:FuncId}{F G:LFunc}{fn:Func}{sl:List Nat}{a b:List Nat}(h:some G=some F)(hf:Tryz.prog.funcs[f]?=some fn)(hl:lowFn Tryz.prog (KD a b) sl fn=some G)(hn:noDfr G.body=true):∃fn kd slots,Tryz.prog.funcs[f]?=some fn∧lowFn Tryz.prog kd slots fn=some F∧(∀g row,kd.glob g=some row→GT g=some row)∧(LP.dfs f=true∨noDfr F.body=true):=by
  injection h with h;subst h;exact⟨fn,_,_,hf,hl,fun _ _ h=>h,.inr hn⟩
theorem LP_fns:FnsOK Tryz.prog GT LP:=by
  intro f F h
  have h':Dp f=some F:=h
  unfold Dp at h'
  split at h'
  rotate_right
  · cases h'
  all_goals first | exact Aal h' | skip
  exact Aal (eg3.trans h')
  exact Aal (eg8.trans h')
  exact Aal (eg9.trans h')
  exact Aal (eg10.trans h')
  exact Aal (eg11.trans h')
  exact Aal (eg12.trans h')
  exact Aal (eg14.trans h')
  exact Aal (eg15.trans h')
  exact Aal (eg16.trans h')
  exact Aal (eg17.trans h')
  exact Aal (eg18.trans h')
  exact Aal (eg19.trans h')
  exact Aal (eg23.trans h')
  exact Aal (eg24.trans h')
  exact Aal (eg26.trans h')
  exact Aal (eg30.trans h')
  exact Aal (eg31.trans h')
  exact Aal (eg33.trans h')
  exact Aal (eg34.trans h')
  exact Aal (eg35.trans h')
  exact Aal (eg36.trans h')
  exact Aal (eg37.trans h')
  exact Aal (eg38.trans h')
  exact Aal (eg39.trans h')
  exact Aal (eg40.trans h')
  exact Aal (eg41.trans h')
  exact Aal (eg43.trans h')
  exact Aal (eg44.trans h')
  exact Aal (eg45.trans h')
  exact Aal (eg46.trans h')
  exact Aal (eg47.trans h')
  exact Aal (eg48.trans h')
  exact Aal (eg51.trans h')
  exact Aal (eg52.trans h')
  exact Aal (eg53.trans h')
  exact Aal (eg54.trans h')
  exact Aal (eg55.trans h')
  exact Aal (eg56.trans h')
  exact Aal (eg57.trans h')
  exact Aal (eg58.trans h')
  exact Aal (eg59.trans h')
  exact Aal (eg64.trans h')
  exact Aal (eg65.trans h')
  exact Aal (eg67.trans h')
  exact Aal (eg68.trans h')
  exact Aal (eg69.trans h')
  exact Aal (eg70.trans h')
  exact Aal (eg71.trans h')
  exact Aal (eg72.trans h')
  exact Aal (eg73.trans h')
  exact Aal (eg74.trans h')
  exact Aal (eg75.trans h')
  exact Aal (eg76.trans h')
  exact Aal (eg78.trans h')
  exact Aal (eg79.trans h')
  exact Aal (eg80.trans h')
  exact Aal (eg81.trans h')
  exact Aal (eg88.trans h')
  exact Aal (eg97.trans h')
  exact Aal (eg99.trans h')
  exact Aal (eg101.trans h')
  exact Aal (eg102.trans h')
  exact Aal (eg103.trans h')
  exact Aal (eg105.trans h')
  exact Aal (eg106.trans h')
  exact Aal (eg107.trans h')
  exact Aal (eg108.trans h')
  exact Aal (eg109.trans h')
  exact Aal (eg114.trans h')
  exact Aal (eg126.trans h')
  exact Aal (eg145.trans h')
  exact Aal (eg147.trans h')
  exact Aal (eg149.trans h')
  exact Aal (eg150.trans h')
  exact Aal (eg152.trans h')
  exact Aal (eg153.trans h')
  exact Aal (eg154.trans h')
  exact Aal (eg155.trans h')
  exact Aal (eg156.trans h')
  exact Aal (eg157.trans h')
  exact Aal (eg158.trans h')
  exact Aal (eg159.trans h')
  exact Aal (eg161.trans h')
  exact Aal (eg162.trans h')
  exact Aal (eg163.trans h')
  exact Aal (eg175.trans h')
  exact Aal (eg177.trans h')
  exact Aal (eg180.trans h')
  exact Aal (eg181.trans h')
  exact Aal (eg197.trans h')
  exact Aal (eg200.trans h')
  exact Aal (eg202.trans h')
  exact Aal (eg205.trans h')
  exact Aal (eg207.trans h')
  exact Aal (eg209.trans h')
  exact Aal (eg216.trans h')
  exact Aal (eg226.trans h')
  exact Aal (eg227.trans h')
theorem LP_dfn:DfnOK Tryz.prog GT LP:=by
  intro f F h
  have h':dfnOf f=some F:=h
  unfold dfnOf at h'
  split at h'
  simp at h'
theorem mixed:Tryz.prog.follows .mixedOrders=true:=by kernel_rfl
theorem rq{d:Nat}{f:FuncId}{F:LFunc}{args args' env0:List D}{S:St}{r:D}(hF:LP.fns f=some F)(ha:(if LP.raw f then some args else snapVs S.heap.length S.heap args)=some args')(he:(F.slots.map fun s=>args'.getD s .undef)=env0)(hb:∀d',d=d'+1→CW (Bd LP NN d') F.body (FinP F r) env0 ⟨[],0⟩)(hp:(LP.pure f&&args'.all D.freeV)=true:=by simp only[LP,zf,zm];try rfl)(hd:0<d:=by omega)(hl:args'.length=F.nargs:=by rfl)(hdp:LP.deep f=false:=by rfl)(hE:LP.ext f args=none:=by rfl)(uZ:LP.dfs f=false:=by rfl):Bd LP NN d f args S=some (r,S,false):=run_pure hF ha hl hp he hd hb hdp hE uZ
open Go.Shelf Go.RowKit
set_option maxRecDepth 100000
theorem repB_eq(s:ByteArray):∀c,Lib.repeatL s.data.toList c=repB s c
 | 0=>rfl
 | c+1=>by rw[Lib.repeatL,repB,repB_eq s c]
theorem decF_eq:∀(d u:Nat),u<10 ^ (d+1)→Lib.decDigits u=Td (d+1) u
 | 0,u,h=>by
  have h:u<10:=h;rw[Lib.decDigits,Td,dif_pos h,if_pos h]
 | d + 1, u, h => by
  rw[Lib.decDigits,Td];split
  ·
   rfl
  rw[decF_eq d (u / 10) (by rw[Nat.pow_succ]at h;omega)]
theorem extra:Builder.Extra Tryz.prog Tryz.laysRepeat_ren where
 sizeBuilder:=by kernel_rfl
 liesBuilder:=by kernel_rfl
 t5:=Tryz.laysRepeat.t5
 a5:=Tryz.laysRepeat.a5
 z5:=Tryz.laysRepeat.z5
 v5:=Tryz.laysRepeat.v5
 infoByte:=by kernel_rfl
 cellsByte:=by kernel_rfl
 sizeByte:=by kernel_rfl
 neB5:=by decide
theorem fRepeat:Tryz.laysRepeat_ren.f 105=62:=by kernel_rfl
theorem fFormat:Tryz.laysInt_ren.f 246=89:=by kernel_rfl
def powR:List D:=Lib.pow10Tab.map fun z=>.int .u64 z
theorem powG:GT (Tryz.laysInt_ren.g 17)=some powR:=by kernel_rfl
theorem tab_ok {w : World} {ρ : Aaa} {H : List Z9} (hG : ρ.X.G = GT) (hr : Rel w ρ H) : Lib.TabIs Tryz.prog w "internal/strconv.uint64pow10" .u64 Lib.pow10Tab := by
 obtain⟨hv,_,cs,t,z,hc,hn⟩:=hr.glob (Tryz.laysInt_ren.g 17) powR (by rw[hG];exact powG);unfold Lib.TabIs World.var?;rw[Tryz.laysInt.m17];simp only[Option.bind_some,hc]
 cases hv with
 | cptr _ _ _ _ f h1 h2 =>
  refine congrArg some (Array.ext' ?_);refine List.ext_getElem? fun j=>?_;by_cases hj:j<powR.length
  ·
   obtain⟨d,hd⟩:∃d,powR[j]?=some d:=⟨_,Lg hj⟩;have e1:=(h1 j d hd (Nat.zero_le _)).1;have e2:=h2 j d hd (Nat.zero_le _);simp only[Nat.zero_add,Nat.sub_zero]at e1;generalize f j=u at e1 e2
   have e3:cs.toList[j]?=some u:=by
    rw[Array.getElem?_toList];simpa [World.cell?,hc] using e1
   rw[e3];simp only[powR,Lp_,Om]at hd;obtain⟨n,vF,rfl⟩:=hd;cases e2;simp[vF]
  rw[List.getElem?_eq_none (by simp;omega),List.getElem?_eq_none (by simpa [powR] using hj)]
theorem ext_ok:ExtOK Tryz.prog GT LE:=by
 intro f ds r h S w ρ vs hG hr hv;unfold LE at h;split at h
 ·
  rename_i s n;split at h
  ·
   rename_i hc;injection h with h;subst h
   cases hv with
   | cons h1 hv =>
    cases h1
    cases hv with
    | cons h1 hv =>
     cases h1;cases hv;obtain⟨c,rfl⟩:∃c:Nat,n=c:=⟨n.toNat,by omega⟩;simp only[Int.toNat_natCast]at hc ⊢;have y8:=Any.strings_Repeat Tryz.laysRepeat extra s c w (by omega) hc.2.2;rw[fRepeat]at y8;refine⟨enters_of Tryz.func62 (by kernel_rfl) rfl _ w,y8.mono fun e w' ⟨he,hb⟩=>⟨_,he,below_post hr hb fun _ _=>?_⟩⟩;rw[repB_eq];exact .str _
  cases h
 ·
  rename_i n;split at h
  ·
   rename_i hc;injection h with h;subst h
   cases hv with
   | cons h1 hv =>
    cases h1
    cases hv with
    | cons h1 hv =>
     cases h1;cases hv;have y8:=Any.internal_strconv_FormatInt_10 Tryz.laysInt n (by omega) (by omega) w (tab_ok hG hr);rw[fFormat]at y8;refine⟨enters_of Tryz.func89 (by kernel_rfl) rfl _ w,y8.mono fun e w' ⟨he,k,os,hw⟩=>⟨_,he,below_post hr (hw▸Lib.below_grow _ w (Nat.le_refl _) k os) fun _ _=>?_⟩⟩
     have:Lib.itoa n=Td 20 n.toNat:=by
      rw[Lib.itoa,if_neg (by omega)];exact decF_eq 19 _ (by omega)
     rw[this];exact .str _
  cases h
 cases h
theorem LP_ok:PrgOK Tryz.prog GT LP:=⟨LP_fns,ext_ok,LP_dfn⟩
set_option linter.unusedSimpArgs false
def mkS (l:List UInt8):ByteArray:=⟨l.toArray⟩
theorem D7(l:List UInt8):(mkS l).size=l.length:=by simp[mkS,ByteArray.size]
theorem size_data(b:ByteArray):b.size=b.data.toList.length:=rfl
theorem toList_go(b:ByteArray):∀(k i:Nat) (r:List UInt8),b.size-i=k→ByteArray.toList.loop b i r=r.reverse++b.data.toList.drop i
 | 0,i,r,h=>by
  rw[ByteArray.toList.loop,if_neg (by omega),List.drop_eq_nil_of_le (by rw[size_data]at h;omega)];simp
 | k+1,i,r,h=>by
  rw[ByteArray.toList.loop,if_pos (by omega),toList_go b k (i+1) _ (by omega)];have hi:i<b.data.toList.length:=by rw[size_data]at h;omega
  rw[List.drop_eq_getElem_cons hi];have yP:i<b.data.size:=hi;simp[ByteArray.get!,getElem!_pos b.data i yP]
theorem Eb(l:List UInt8):(mkS l).toList=l:=by
 have:=toList_go (mkS l) _ 0 [] rfl;simpa [ByteArray.toList,mkS] using this
theorem Og(a b:List UInt8):mkS a++mkS b=mkS (a++b):=by
 apply ByteArray.ext;simp[mkS,ByteArray.data_append]
theorem Ro(l:List UInt8)(a b:Nat):(mkS l).extract a b=mkS ((l.drop a).take (b-a)):=by
 apply ByteArray.ext;apply Array.ext';simp only[mkS,ByteArray.data_extract,List.extract_toArray,List.extract_eq_take_drop]
theorem Jw(l:List UInt8)(i:Nat):(mkS l)[i]?=l[i]?:=by
 by_cases h:i<l.length
 ·
  rw[getElem?_pos (mkS l) i (by rw[D7];exact h),getElem?_pos l i h];simp[mkS,ByteArray.getElem_eq_getElem_data]
 rw[getElem?_neg (mkS l) i (by rw[D7];exact h),getElem?_neg l i h]
theorem Fg:(⟨#[]⟩:ByteArray).toList=[]:=Eb []
theorem zx:(type_of% @Eb)∧(type_of% @Fg)∧(type_of% @D7):=⟨@Eb,@Fg,@D7⟩
def bR (l:List UInt8):List (List D):=l.map fun b=>[.int .u8 b.toNat]
theorem Mc(l:List UInt8):(bR l).length=l.length:=by simp[bR]
theorem Hr:∀l:List UInt8,bytesOf (bR l)=some l
 | []=>rfl
 | b::l=>by
  have:=Hr l;simp only[bR,List.map_cons]at this ⊢;simp only[bytesOf,this,Option.map_some,Int.toNat_natCast,UInt8.ofNat_toNat]
def H6 (c:UInt8):Bool:=decide (48≤c.toNat)&&decide (c.toNat≤57)
def digTab:List D:=(List.range 256).map fun i=>.bool (decide (48≤i)&&decide (i≤57))
theorem digTab_at(c:UInt8):digTab[c.toNat]?=some (.bool (H6 c)):=by
 have:c.toNat<256:=c.toNat_lt;simp[digTab,H6,this]
def Qn (l:List UInt8):List UInt8:=(l.reverse.dropWhile H6).reverse
def trimD (l:List UInt8):List UInt8:=(Qn l).dropWhile H6
theorem rtrim_snoc(l:List UInt8)(c:UInt8):Qn (l++[c])=if H6 c then Qn l else l++[c]:=by
 simp only[Qn,List.reverse_append,List.reverse_cons,List.reverse_nil,List.nil_append,List.singleton_append,List.dropWhile_cons];split<;>simp
theorem Ld{α:Type}{p:α→Bool}:∀{l:List α},l.dropWhile p=[]↔l.all p=true
 | []=>by simp
 | a :: l => by
  rw[List.dropWhile_cons];by_cases h:p a=true
  ·
   simp[h,Ld (l:=l)]
  simp[h]
theorem trimD_nil(l:List UInt8):(trimD l==[])=l.all H6:=by
 rw[Bool.eq_iff_iff];simp only[beq_iff_eq,trimD];rw[Ld];constructor
 ·
  intro h
  have h2:∀c∈l.reverse.dropWhile H6,H6 c=true:=by
   intro c hc;exact List.all_eq_true.1 h c (by simpa [Qn] using hc)
  have h3:l.reverse.dropWhile H6=[]:=by
   cases e:l.reverse.dropWhile H6 with
   | nil=>rfl
   | cons a r =>
    have h4:=List.head?_dropWhile_not H6 l.reverse;rw[e]at h4 h2;simp only[List.head?_cons]at h4;rw[h2 a List.mem_cons_self]at h4;simp at h4
  rw[Ld]at h3;simpa using h3
 intro h;have:l.reverse.dropWhile H6=[]:=by rw[Ld];simpa using h
 simp[Qn,this]
def Du (l:List UInt8):List UInt8:=l.dropWhile (·==48)
def strip (l:List UInt8):List UInt8:=if Du l=[] then [48] else Du l
def nz (l:List UInt8):Bool:=Du l != []
theorem Ux(l:List UInt8):Du (Du l)=Du l:=by
 unfold Du
 cases e:l.dropWhile (·==48) with
 | nil=>rfl
 | cons a r =>
  have h4:=List.head?_dropWhile_not (fun x:UInt8=>x==48) l;rw[e]at h4;simp only[List.head?_cons]at h4;rw[List.dropWhile_cons,if_neg (by simpa using h4)]
theorem strip_idem(l:List UInt8):strip (strip l)=strip l:=by
 unfold strip;by_cases h:Du l=[]
 ·
  rw[if_pos h];rfl
 rw[if_neg h,Ux,if_neg h]
theorem Ky(l:List UInt8):∃k,l=List.replicate k 48++Du l:=by
 induction l with
 | nil=>exact⟨0,rfl⟩
 | cons a l ih =>
  unfold Du at ih ⊢;rw[List.dropWhile_cons];by_cases h:(a==48)=true
  ·
   obtain⟨k,hk⟩:=ih;rw[if_pos h];have:a=48:=by simpa using h
   refine⟨k+1,?_⟩;rw[List.replicate_succ,List.cons_append,←hk,this]
  rw[if_neg h];exact⟨0,rfl⟩
theorem strip_len(l:List UInt8)(h:l≠[]):(strip l).length≤l.length∧0<(strip l).length:=by
 unfold strip;obtain⟨k,hk⟩:=Ky l;have hl:=congrArg List.length hk;simp at hl;have:0<l.length:=List.length_pos_iff.2 h;split
 ·
  simp;omega
 rename_i h0;have:=List.length_pos_iff.2 h0;omega
theorem strip_dig(l:List UInt8)(h:l.all H6=true):(strip l).all H6=true:=by
 unfold strip;split
 ·
  rfl
 obtain⟨k,hk⟩:=Ky l;rw[hk,List.all_append,Bool.and_eq_true]at h;exact h.2
def pad (n:Nat) (l:List UInt8):List UInt8:=List.replicate (n-l.length) 48++l
theorem pad_strip(l:List UInt8)(n:Nat)(h:l≠[])(h1:(strip l).length≤n)(h2:n≤l.length):l=List.replicate (l.length-n) 48++pad n (strip l):=by
 obtain⟨k,hk⟩:=Ky l;have hl:=congrArg List.length hk;simp at hl;unfold strip at h1 ⊢;unfold pad;by_cases h0:Du l=[]
 ·
  rw[if_pos h0]at h1 ⊢;rw[h0,List.append_nil]at hk;rw[h0]at hl;simp at hl h1;rw[←Lo_,List.replicate_append_replicate,show ([48]:List UInt8)=List.replicate 1 48 from rfl,List.replicate_append_replicate];simp only[List.length_replicate];rw[show l.length-n+(n-1)+1=k by omega];exact hk
 rw[if_neg h0]at h1 ⊢;rw[←Lo_,List.replicate_append_replicate];rw[show l.length-n+(n-(Du l).length)=k by omega];exact hk
section
variable {call:Bq} {vals env:List D} {S S':St} {K:List D→St→Prop} {os:List LOper} {l:LOp} {args:List LOpd} {od:List Bool} {ho:Option Nat} {r:D} {wr:Bool} {n:Nat} {news:List (TypeId × List D)} {fps:List FP} {fp:FP} {Q:LExit→List D→St→Prop} {env':List D}
theorem xo0(hx:Ar call l (args.map (opd vals env)) S=some (r,S',wr):=by simp only[zl,zm,zd,Au,List.take,List.drop]<;>exact rfl)(h:OW call os (r::vals) env S' K):OW call (⟨l,args,none,od,ho⟩::os) vals env S K:=Ac hx h
theorem xo1(hx:Ar call l (args.map (opd vals env)) S=some (r,S',wr):=by simp only[zo,Cj,zm]<;>exact rfl)(h:OW call os (r::vals) env S' K):OW call (⟨l,args,none,od,ho⟩::os) vals env S K:=Ac hx h
theorem xo2(hx:Ar call l (args.map (opd vals env)) S=some (r,S',wr):=by simp only[zo,Bf]<;>exact rfl)(h:OW call os (r::vals) env S' K):OW call (⟨l,args,none,od,ho⟩::os) vals env S K:=Ac hx h
theorem xo3(hx:Ar call l (args.map (opd vals env)) S=some (r,S',wr):=by simp only[zo]<;>exact rfl)(h:OW call os (r::vals) env S' K):OW call (⟨l,args,none,od,ho⟩::os) vals env S K:=Ac hx h
theorem xo4(hx:Ar call l (args.map (opd vals env)) S=some (r,S',wr):=by simp only[zo,Cj,zm]<;>exact rfl)(hl:l.loud=false:=by exact rfl)(hn:od.length=fps.length:=by exact rfl)(h:DW call n news os (fpQuiet::fps) (r::vals) env S' K):DW call n news (⟨l,args,none,od,none⟩::os) fps vals env S K:=Aj hx hl hn h
theorem xo5(hx:Ar call l (args.map (opd vals env)) S=some (r,S',wr):=by simp only[zo,Ei,zm]<;>exact rfl)(h:OW call os (r::vals) env S' K):OW call (⟨l,args,none,od,ho⟩::os) vals env S K:=Ac hx h
theorem xo6(hx:Ar call l (args.map (opd vals env)) S=some (r,S',wr):=by simp only[zo]<;>exact rfl)(hl:l.loud=false:=by exact rfl)(hn:od.length=fps.length:=by exact rfl)(h:DW call n news os (fpQuiet::fps) (r::vals) env S' K):DW call n news (⟨l,args,none,od,none⟩::os) fps vals env S K:=Aj hx hl hn h
theorem xo7(hx:Ar call l (args.map (opd vals env)) S=some (r,S',wr):=by simp only[zl,zm,zd,Au,List.take,List.drop]<;>exact rfl)(hf:fpHere n ⟨l,args,none,od,ho⟩ (args.map (opd vals env)) r wr=fp:=by simp only[fpHere,zo,zq]<;>exact rfl)(hok:okHere n news ⟨l,args,none,od,ho⟩ fps fp S'=true:=by exact rfl)(h:DW call n news os (fp::fps) (r::vals) env S' K):DW call n news (⟨l,args,none,od,ho⟩::os) fps vals env S K:=Dc hx hf hok h
theorem xo8(hx:Ar call l (args.map (opd vals env)) S=some (r,S',wr):=by simp only[opd,zv,Ar,LOp.loud,aop,lop,if_true,zm,zc,zf,Bool.and_self,Nat.reduceAdd]<;>exact rfl)(h:OW call os (r::vals) env S' K):OW call (⟨l,args,none,od,ho⟩::os) vals env S K:=Ac hx h
theorem xo9(hx:Ar call l (args.map (opd vals env)) S=some (r,S',wr):=by simp only[zl,zm,zd,Au,List.take,List.drop,CM.row]<;>exact rfl)(h:OW call os (r::vals) env S' K):OW call (⟨l,args,none,od,ho⟩::os) vals env S K:=Ac hx h
theorem Jo(hx:Ar call l (args.map (opd vals env)) S=some (r,S',wr):=by simp only[zo,Lz,Ls_]<;>exact rfl)(h:OW call os (r::vals) env S' K):OW call (⟨l,args,none,od,ho⟩::os) vals env S K:=Ac hx h
theorem Ko(hx:Ar call l (args.map (opd vals env)) S=some (r,S',wr):=by simp only[zl,zm]<;>exact rfl)(h:OW call os (r::vals) env S' K):OW call (⟨l,args,none,od,ho⟩::os) vals env S K:=Ac hx h
theorem Lh(hx:Ar call l (args.map (opd vals env)) S=some (r,S',wr):=by simp only[zo,Lz]<;>exact rfl)(h:OW call os (r::vals) env S' K):OW call (⟨l,args,none,od,ho⟩::os) vals env S K:=Ac hx h
theorem Le(hx:Ar call l (args.map (opd vals env)) S=some (r,S',wr):=by simp only[zo,Cj,zm,CM.row]<;>exact rfl)(h:OW call os (r::vals) env S' K):OW call (⟨l,args,none,od,ho⟩::os) vals env S K:=Ac hx h
theorem L9(hx:Ar call l (args.map (opd vals env)) S=some (r,S',wr):=by simp only[zo,Bf,CM.row]<;>exact rfl)(h:OW call os (r::vals) env S' K):OW call (⟨l,args,none,od,ho⟩::os) vals env S K:=Ac hx h
theorem Px(hx:Ar call l (args.map (opd vals env)) S=some (r,S',wr):=by simp only[zo,Ie,overlay,zc,List.take,List.drop,Nat.reduceAdd,Nat.reduceLeDiff,zm]<;>exact rfl)(h:OW call os (r::vals) env S' K):OW call (⟨l,args,none,od,ho⟩::os) vals env S K:=Ac hx h
theorem Qr(hx:Ar call l (args.map (opd vals env)) S=some (r,S',wr):=by simp only[zo,Ie,overlay,zc,List.take,List.drop,Nat.reduceAdd,Nat.reduceLeDiff,zm,CM.row]<;>exact rfl)(hl:l.loud=false:=by exact rfl)(hn:od.length=fps.length:=by exact rfl)(h:DW call n news os (fpQuiet::fps) (r::vals) env S' K):DW call n news (⟨l,args,none,od,none⟩::os) fps vals env S K:=Aj hx hl hn h
theorem Qy(hx:Ar call l (args.map (opd vals env)) S=some (r,S',wr):=by simp only[zo,Hw,D7]<;>exact rfl)(h:OW call os (r::vals) env S' K):OW call (⟨l,args,none,od,ho⟩::os) vals env S K:=Ac hx h
theorem Qx(hx:Ar call l (args.map (opd vals env)) S=some (r,S',wr):=by simp only[zl,zm,Bg,overlay,Bh,zs,zc,zf,List.take,List.drop]<;>exact rfl)(h:OW call os (r::vals) env S' K):OW call (⟨l,args,none,od,ho⟩::os) vals env S K:=Ac hx h
theorem Qw(hx:Ar call l (args.map (opd vals env)) S=some (r,S',wr):=by simp only[zl,zm,zd,Au,List.take,List.drop,xq]<;>exact rfl)(h:OW call os (r::vals) env S' K):OW call (⟨l,args,none,od,ho⟩::os) vals env S K:=Ac hx h
theorem U2(hx:Ar call l (args.map (opd vals env)) S=some (r,S',wr):=by simp only[zo,Cj,zm,xq]<;>exact rfl)(hl:l.loud=false:=by exact rfl)(hn:od.length=fps.length:=by exact rfl)(h:DW call n news os (fpQuiet::fps) (r::vals) env S' K):DW call n news (⟨l,args,none,od,none⟩::os) fps vals env S K:=Aj hx hl hn h
theorem Vy(hx:Ar call l (args.map (opd vals env)) S=some (r,S',wr):=by simp only[zl,zm,zd,Au,List.take,List.drop,xI]<;>exact rfl)(h:OW call os (r::vals) env S' K):OW call (⟨l,args,none,od,ho⟩::os) vals env S K:=Ac hx h
theorem Xr(hx:Ar call l (args.map (opd vals env)) S=some (r,S',wr):=by simp only[zo,Bf,xq]<;>exact rfl)(h:OW call os (r::vals) env S' K):OW call (⟨l,args,none,od,ho⟩::os) vals env S K:=Ac hx h
theorem Xq(hx:Ar call l (args.map (opd vals env)) S=some (r,S',wr):=by simp only[zo,eqnilD]<;>exact rfl)(h:OW call os (r::vals) env S' K):OW call (⟨l,args,none,od,ho⟩::os) vals env S K:=Ac hx h
theorem Xp(hx:Ar call l (args.map (opd vals env)) S=some (r,S',wr):=by simp only[zo,Cj,zm,xq]<;>exact rfl)(h:OW call os (r::vals) env S' K):OW call (⟨l,args,none,od,ho⟩::os) vals env S K:=Ac hx h
theorem Zo(hx:Ar call l (args.map (opd vals env)) S=some (r,S',wr):=by simp only[zo,unD]<;>exact rfl)(h:OW call os (r::vals) env S' K):OW call (⟨l,args,none,od,ho⟩::os) vals env S K:=Ac hx h
theorem Zn(hx:Ar call l (args.map (opd vals env)) S=some (r,S',wr):=by simp only[zl,zm,zc]<;>exact rfl)(h:OW call os (r::vals) env S' K):OW call (⟨l,args,none,od,ho⟩::os) vals env S K:=Ac hx h
theorem xo27(hx:Ar call l (args.map (opd vals env)) S=some (r,S',wr):=by simp only[zo,Ei,zm]<;>exact rfl)(hl:l.loud=false:=by exact rfl)(hn:od.length=fps.length:=by exact rfl)(h:DW call n news os (fpQuiet::fps) (r::vals) env S' K):DW call n news (⟨l,args,none,od,none⟩::os) fps vals env S K:=Aj hx hl hn h
theorem xo28(hx:Ar call l (args.map (opd vals env)) S=some (r,S',wr):=by simp only[zo,Bf]<;>exact rfl)(hl:l.loud=false:=by exact rfl)(hn:od.length=fps.length:=by exact rfl)(h:DW call n news os (fpQuiet::fps) (r::vals) env S' K):DW call n news (⟨l,args,none,od,none⟩::os) fps vals env S K:=Aj hx hl hn h
theorem xo29(hx:Ar call l (args.map (opd vals env)) S=some (r,S',wr):=by simp only[zo,Cj,zm,CM.row]<;>exact rfl)(hl:l.loud=false:=by exact rfl)(hn:od.length=fps.length:=by exact rfl)(h:DW call n news os (fpQuiet::fps) (r::vals) env S' K):DW call n news (⟨l,args,none,od,none⟩::os) fps vals env S K:=Aj hx hl hn h
theorem xo30(hx:Ar call l (args.map (opd vals env)) S=some (r,S',wr):=by simp only[zo,Cj,zm,y5]<;>exact rfl)(hl:l.loud=false:=by exact rfl)(hn:od.length=fps.length:=by exact rfl)(h:DW call n news os (fpQuiet::fps) (r::vals) env S' K):DW call n news (⟨l,args,none,od,none⟩::os) fps vals env S K:=Aj hx hl hn h
theorem xo31(hx:Ar call l (args.map (opd vals env)) S=some (r,S',wr):=by simp only[zo,Bf,decide_true,wR]<;>exact rfl)(h:OW call os (r::vals) env S' K):OW call (⟨l,args,none,od,ho⟩::os) vals env S K:=Ac hx h
theorem xo32(hx:Ar call l (args.map (opd vals env)) S=some (r,S',wr):=by simp only[zl,zm,Dj,Bo,E8,CM.row]<;>exact rfl)(h:OW call os (r::vals) env S' K):OW call (⟨l,args,none,od,ho⟩::os) vals env S K:=Ac hx h
theorem xo33(hx:Ar call l (args.map (opd vals env)) S=some (r,S',wr):=by simp only[zl,zm,Bg,overlay,zs,zc,zf,List.take,List.drop,CM.row]<;>exact rfl)(h:OW call os (r::vals) env S' K):OW call (⟨l,args,none,od,ho⟩::os) vals env S K:=Ac hx h
theorem xo34(hx:Ar call l (args.map (opd vals env)) S=some (r,S',wr):=by simp only[zo,Fq,List.length_map]<;>exact rfl)(h:OW call os (r::vals) env S' K):OW call (⟨l,args,none,od,ho⟩::os) vals env S K:=Ac hx h
theorem xo35(hx:Ar call l (args.map (opd vals env)) S=some (r,S',wr):=by simp only[zl,zm,zd,Au,List.take,List.drop,wR]<;>exact rfl)(h:OW call os (r::vals) env S' K):OW call (⟨l,args,none,od,ho⟩::os) vals env S K:=Ac hx h
theorem xo36(hx:Ar call l (args.map (opd vals env)) S=some (r,S',wr):=by simp only[zl,zm,zd,Au,List.take,List.drop,xq]<;>exact rfl)(hf:fpHere n ⟨l,args,none,od,ho⟩ (args.map (opd vals env)) r wr=fp:=by simp only[fpHere,zo,zq]<;>exact rfl)(hok:okHere n news ⟨l,args,none,od,ho⟩ fps fp S'=true:=by exact rfl)(h:DW call n news os (fp::fps) (r::vals) env S' K):DW call n news (⟨l,args,none,od,ho⟩::os) fps vals env S K:=Dc hx hf hok h
theorem xo37(hx:Ar call l (args.map (opd vals env)) S=some (r,S',wr):=by simp only[zo,Lz,Ls_]<;>exact rfl)(hl:l.loud=false:=by exact rfl)(hn:od.length=fps.length:=by exact rfl)(h:DW call n news os (fpQuiet::fps) (r::vals) env S' K):DW call n news (⟨l,args,none,od,none⟩::os) fps vals env S K:=Aj hx hl hn h
theorem xo38(hx:Ar call l (args.map (opd vals env)) S=some (r,S',wr):=by simp only[zo,Ie,overlay,zc,List.take,List.drop,Nat.reduceAdd,Nat.reduceLeDiff,zm,CM.row]<;>exact rfl)(h:OW call os (r::vals) env S' K):OW call (⟨l,args,none,od,ho⟩::os) vals env S K:=Ac hx h
theorem xo39(hx:Ar call l (args.map (opd vals env)) S=some (r,S',wr):=by simp only[zo,Bf,xI]<;>exact rfl)(h:OW call os (r::vals) env S' K):OW call (⟨l,args,none,od,ho⟩::os) vals env S K:=Ac hx h
theorem xo40(hx:Ar call l (args.map (opd vals env)) S=some (r,S',wr):=by simp only[zl,zm,C9,List.replicate,snapVs,Bh,zs,zc,zf,CM.row]<;>exact rfl)(h:OW call os (r::vals) env S' K):OW call (⟨l,args,none,od,ho⟩::os) vals env S K:=Ac hx h
theorem xo41(hx:Ar call l (args.map (opd vals env)) S=some (r,S',wr):=by simp only[zo,Bf,decide_false,qc]<;>exact rfl)(h:OW call os (r::vals) env S' K):OW call (⟨l,args,none,od,ho⟩::os) vals env S K:=Ac hx h
theorem xo42(hx:Ar call l (args.map (opd vals env)) S=some (r,S',wr):=by simp only[zo,Lz]<;>exact rfl)(hl:l.loud=false:=by exact rfl)(hn:od.length=fps.length:=by exact rfl)(h:DW call n news os (fpQuiet::fps) (r::vals) env S' K):DW call n news (⟨l,args,none,od,none⟩::os) fps vals env S K:=Aj hx hl hn h
theorem xo43(hx:Ar call l (args.map (opd vals env)) S=some (r,S',wr):=by simp only[zo,Cj,zm,xI]<;>exact rfl)(h:OW call os (r::vals) env S' K):OW call (⟨l,args,none,od,ho⟩::os) vals env S K:=Ac hx h
theorem xo44(hx:Ar call l (args.map (opd vals env)) S=some (r,S',wr):=by simp only[zo,Cj,zm,wR]<;>exact rfl)(h:OW call os (r::vals) env S' K):OW call (⟨l,args,none,od,ho⟩::os) vals env S K:=Ac hx h
theorem xo45(hx:Ar call l (args.map (opd vals env)) S=some (r,S',wr):=by simp only[zl,zm,C9,List.replicate,snapVs,Bh,zs,zc,zf]<;>exact rfl)(h:OW call os (r::vals) env S' K):OW call (⟨l,args,none,od,ho⟩::os) vals env S K:=Ac hx h
theorem xo46(hx:Ar call l (args.map (opd vals env)) S=some (r,S',wr):=by simp only[zo,Bf,Int.reduceLT]<;>exact rfl)(h:OW call os (r::vals) env S' K):OW call (⟨l,args,none,od,ho⟩::os) vals env S K:=Ac hx h
theorem xo47(hx:Ar call l (args.map (opd vals env)) S=some (r,S',wr):=by simp only[zl,zm,zd,Au,List.drop]<;>exact rfl)(h:OW call os (r::vals) env S' K):OW call (⟨l,args,none,od,ho⟩::os) vals env S K:=Ac hx h
theorem xo48(hx:Ar call l (args.map (opd vals env)) S=some (r,S',wr):=by simp only[zl,zm,C9,List.replicate,snapVs]<;>exact rfl)(h:OW call os (r::vals) env S' K):OW call (⟨l,args,none,od,ho⟩::os) vals env S K:=Ac hx h
theorem xo49(hx:Ar call l (args.map (opd vals env)) S=some (r,S',wr):=by simp only[zo,Ie,overlay,zc,List.take,List.drop,Nat.reduceAdd,Nat.reduceLeDiff,zm,shT]<;>exact rfl)(hl:l.loud=false:=by exact rfl)(hn:od.length=fps.length:=by exact rfl)(h:DW call n news os (fpQuiet::fps) (r::vals) env S' K):DW call n news (⟨l,args,none,od,none⟩::os) fps vals env S K:=Aj hx hl hn h
theorem xo50(hx:Ar call l (args.map (opd vals env)) S=some (r,S',wr):=by simp only[zl,zm,zd,Au,List.take,List.drop,shT]<;>exact rfl)(hf:fpHere n ⟨l,args,none,od,ho⟩ (args.map (opd vals env)) r wr=fp:=by simp only[fpHere,zo,zq]<;>exact rfl)(hok:okHere n news ⟨l,args,none,od,ho⟩ fps fp S'=true:=by exact rfl)(h:DW call n news os (fp::fps) (r::vals) env S' K):DW call n news (⟨l,args,none,od,ho⟩::os) fps vals env S K:=Dc hx hf hok h
theorem xo51(hx:Ar call l (args.map (opd vals env)) S=some (r,S',wr):=by simp only[zo,Ie,overlay,zc,List.take,List.drop,Nat.reduceAdd,Nat.reduceLeDiff,zm]<;>exact rfl)(hl:l.loud=false:=by exact rfl)(hn:od.length=fps.length:=by exact rfl)(h:DW call n news os (fpQuiet::fps) (r::vals) env S' K):DW call n news (⟨l,args,none,od,none⟩::os) fps vals env S K:=Aj hx hl hn h
theorem xo52(hx:Ar call l (args.map (opd vals env)) S=some (r,S',wr):=by simp only[zl,zm,zd,Au,List.take,List.drop,wO,wRow,xq]<;>exact rfl)(h:OW call os (r::vals) env S' K):OW call (⟨l,args,none,od,ho⟩::os) vals env S K:=Ac hx h
theorem xo53(hx:Ar call l (args.map (opd vals env)) S=some (r,S',wr):=by simp only[zl,zm,zd,Au,List.take,List.drop,xI]<;>exact rfl)(hf:fpHere n ⟨l,args,none,od,ho⟩ (args.map (opd vals env)) r wr=fp:=by simp only[fpHere,zo,zq]<;>exact rfl)(hok:okHere n news ⟨l,args,none,od,ho⟩ fps fp S'=true:=by exact rfl)(h:DW call n news os (fp::fps) (r::vals) env S' K):DW call n news (⟨l,args,none,od,ho⟩::os) fps vals env S K:=Dc hx hf hok h
theorem xo54(hx:Ar call l (args.map (opd vals env)) S=some (r,S',wr):=by simp only[zo,Ie,overlay,zc,List.take,List.drop,Nat.reduceAdd,Nat.reduceLeDiff,zm,shT,shN]<;>exact rfl)(hl:l.loud=false:=by exact rfl)(hn:od.length=fps.length:=by exact rfl)(h:DW call n news os (fpQuiet::fps) (r::vals) env S' K):DW call n news (⟨l,args,none,od,none⟩::os) fps vals env S K:=Aj hx hl hn h
theorem xo55(hx:Ar call l (args.map (opd vals env)) S=some (r,S',wr):=by simp only[zl,zm,zd,Au,List.take,List.drop,shT,shN]<;>exact rfl)(hf:fpHere n ⟨l,args,none,od,ho⟩ (args.map (opd vals env)) r wr=fp:=by simp only[fpHere,zo,zq]<;>exact rfl)(hok:okHere n news ⟨l,args,none,od,ho⟩ fps fp S'=true:=by exact rfl)(h:DW call n news os (fp::fps) (r::vals) env S' K):DW call n news (⟨l,args,none,od,ho⟩::os) fps vals env S K:=Dc hx hf hok h
theorem xo56(hx:Ar call l (args.map (opd vals env)) S=some (r,S',wr):=by simp only[zl,zm,C9,List.replicate,snapVs,Bh,zs,zc,zf,shT,shN]<;>exact rfl)(hf:fpHere n ⟨l,args,none,od,ho⟩ (args.map (opd vals env)) r wr=fp:=by simp only[fpHere,zo,zq]<;>exact rfl)(hok:okHere n news ⟨l,args,none,od,ho⟩ fps fp S'=true:=by exact rfl)(h:DW call n news os (fp::fps) (r::vals) env S' K):DW call n news (⟨l,args,none,od,ho⟩::os) fps vals env S K:=Dc hx hf hok h
theorem xo57(hx:Ar call l (args.map (opd vals env)) S=some (r,S',wr):=by simp only[zo,Ie,overlay,zc,List.take,List.drop,Nat.reduceAdd,Nat.reduceLeDiff,zm,shT]<;>exact rfl)(h:OW call os (r::vals) env S' K):OW call (⟨l,args,none,od,ho⟩::os) vals env S K:=Ac hx h
theorem xo58(hx:Ar call l (args.map (opd vals env)) S=some (r,S',wr):=by simp only[zl,zm,Bg,overlay,zs,zc,zf,List.take,List.drop,CM.row,xq]<;>exact rfl)(h:OW call os (r::vals) env S' K):OW call (⟨l,args,none,od,ho⟩::os) vals env S K:=Ac hx h
theorem xo59(hx:Ar call l (args.map (opd vals env)) S=some (r,S',wr):=by simp only[zl,zm,zd,Au,List.take,List.drop,CM.row]<;>exact rfl)(hf:fpHere n ⟨l,args,none,od,ho⟩ (args.map (opd vals env)) r wr=fp:=by simp only[fpHere,zo,zq]<;>exact rfl)(hok:okHere n news ⟨l,args,none,od,ho⟩ fps fp S'=true:=by exact rfl)(h:DW call n news os (fp::fps) (r::vals) env S' K):DW call n news (⟨l,args,none,od,ho⟩::os) fps vals env S K:=Dc hx hf hok h
theorem xo60(hx:Ar call l (args.map (opd vals env)) S=some (r,S',wr):=by simp only[zl,zm,C9,List.replicate,snapVs,Bh,zs,zc,zf,CM.row,xq]<;>exact rfl)(hf:fpHere n ⟨l,args,none,od,ho⟩ (args.map (opd vals env)) r wr=fp:=by simp only[fpHere,zo,zq]<;>exact rfl)(hok:okHere n news ⟨l,args,none,od,ho⟩ fps fp S'=true:=by exact rfl)(h:DW call n news os (fp::fps) (r::vals) env S' K):DW call n news (⟨l,args,none,od,ho⟩::os) fps vals env S K:=Dc hx hf hok h
theorem xo61(hx:Ar call l (args.map (opd vals env)) S=some (r,S',wr):=by simp only[zo,Bf,decide_true,decide_false,wR]<;>exact rfl)(h:OW call os (r::vals) env S' K):OW call (⟨l,args,none,od,ho⟩::os) vals env S K:=Ac hx h
theorem xo62(hx:Ar call l (args.map (opd vals env)) S=some (r,S',wr):=by simp only[zl,zm,Df,Int.toNat_natCast,xq]<;>exact rfl)(h:OW call os (r::vals) env S' K):OW call (⟨l,args,none,od,ho⟩::os) vals env S K:=Ac hx h
theorem xo63(hx:Ar call l (args.map (opd vals env)) S=some (r,S',wr):=by simp only[zl,zm,zd,Au,List.take,List.drop,wO,wRow,y5]<;>exact rfl)(hf:fpHere n ⟨l,args,none,od,ho⟩ (args.map (opd vals env)) r wr=fp:=by simp only[fpHere,zo,zq]<;>exact rfl)(hok:okHere n news ⟨l,args,none,od,ho⟩ fps fp S'=true:=by exact rfl)(h:DW call n news os (fp::fps) (r::vals) env S' K):DW call n news (⟨l,args,none,od,ho⟩::os) fps vals env S K:=Dc hx hf hok h
theorem xo64(hx:Ar call l (args.map (opd vals env)) S=some (r,S',wr):=by simp only[zl,zm,zd,Au,List.take,List.drop,wO,wRow,xq]<;>exact rfl)(hf:fpHere n ⟨l,args,none,od,ho⟩ (args.map (opd vals env)) r wr=fp:=by simp only[fpHere,zo,zq]<;>exact rfl)(hok:okHere n news ⟨l,args,none,od,ho⟩ fps fp S'=true:=by exact rfl)(h:DW call n news os (fp::fps) (r::vals) env S' K):DW call n news (⟨l,args,none,od,ho⟩::os) fps vals env S K:=Dc hx hf hok h
theorem xo65(hx:Ar call l (args.map (opd vals env)) S=some (r,S',wr):=by simp only[zl,zm,zd,Au,List.take,List.drop,xq,y5]<;>exact rfl)(hf:fpHere n ⟨l,args,none,od,ho⟩ (args.map (opd vals env)) r wr=fp:=by simp only[fpHere,zo,zq]<;>exact rfl)(hok:okHere n news ⟨l,args,none,od,ho⟩ fps fp S'=true:=by exact rfl)(h:DW call n news os (fp::fps) (r::vals) env S' K):DW call n news (⟨l,args,none,od,ho⟩::os) fps vals env S K:=Dc hx hf hok h
theorem xo66(hx:Ar call l (args.map (opd vals env)) S=some (r,S',wr):=by simp only[zl,zm,Bg,overlay,Bh,zs,zc,zf,List.take,List.drop]<;>exact rfl)(hf:fpHere n ⟨l,args,none,od,ho⟩ (args.map (opd vals env)) r wr=fp:=by simp only[fpHere,zo,zq]<;>exact rfl)(hok:okHere n news ⟨l,args,none,od,ho⟩ fps fp S'=true:=by exact rfl)(h:DW call n news os (fp::fps) (r::vals) env S' K):DW call n news (⟨l,args,none,od,ho⟩::os) fps vals env S K:=Dc hx hf hok h
theorem xo67(hx:Ar call l (args.map (opd vals env)) S=some (r,S',wr):=by simp only[opd,zv,Ar,LOp.loud,aop,lop,if_true,zm,zc,zf,Bool.and_self,Nat.reduceAdd,CM.row]<;>exact rfl)(h:OW call os (r::vals) env S' K):OW call (⟨l,args,none,od,ho⟩::os) vals env S K:=Ac hx h
theorem xo68(hx:Ar call l (args.map (opd vals env)) S=some (r,S',wr):=by simp only[zl,zm,C9,List.replicate,snapVs,Bh,zs,zc,zf,CM.row,shT,shN]<;>exact rfl)(h:OW call os (r::vals) env S' K):OW call (⟨l,args,none,od,ho⟩::os) vals env S K:=Ac hx h
theorem xo69(hx:Ar call l (args.map (opd vals env)) S=some (r,S',wr):=by simp only[zo,Ie,overlay,zc,List.take,List.drop,Nat.reduceAdd,Nat.reduceLeDiff,zm,CM.row,shT,shN]<;>exact rfl)(h:OW call os (r::vals) env S' K):OW call (⟨l,args,none,od,ho⟩::os) vals env S K:=Ac hx h
theorem xo70(hx:Ar call l (args.map (opd vals env)) S=some (r,S',wr):=by simp only[zl,zm,Bg,overlay,Bh,zs,zc,zf,List.take,List.drop,CM.row,shT,shN]<;>exact rfl)(h:OW call os (r::vals) env S' K):OW call (⟨l,args,none,od,ho⟩::os) vals env S K:=Ac hx h
theorem xo71(hx:Ar call l (args.map (opd vals env)) S=some (r,S',wr):=by simp only[zo,Ie,overlay,zc,List.take,List.drop,Nat.reduceAdd,Nat.reduceLeDiff,zm,CM.row,shN]<;>exact rfl)(h:OW call os (r::vals) env S' K):OW call (⟨l,args,none,od,ho⟩::os) vals env S K:=Ac hx h
theorem xo72(hx:Ar call l (args.map (opd vals env)) S=some (r,S',wr):=by simp only[zl,zm,C9,List.replicate,snapVs,Gn,List.replicate,newAt]<;>exact rfl)(h:OW call os (r::vals) env S' K):OW call (⟨l,args,none,od,ho⟩::os) vals env S K:=Ac hx h
theorem xo73(hx:Ar call l (args.map (opd vals env)) S=some (r,S',wr):=by simp only[zo,Ie,overlay,zc,List.take,List.drop,Nat.reduceAdd,Nat.reduceLeDiff,zm,shT,shN]<;>exact rfl)(h:OW call os (r::vals) env S' K):OW call (⟨l,args,none,od,ho⟩::os) vals env S K:=Ac hx h
theorem Af{b:LCode}(h:CW call b Q env S)(he:env'=env:=by simp only[ze]<;>exact rfl):SeqK call b Q .normal env' S:=Bi he h
theorem Dw{c:LOpd}{a b:LCode}(h:CW call b Q env S)(hc:opd [] env c=.bool false:=by simp only[opd,zv]<;>rfl):CW call (.cond c a b) Q env S:=Be hc h
theorem Ja{c:LOpd}{a b:LCode}(h:CW call a Q env S)(hc:opd [] env c=.bool true:=by simp only[opd,zv]<;>rfl):CW call (.cond c a b) Q env S:=Ez hc h
theorem Eh{ops:List LOper}{exps:List (Nat × Nat)}{news:List (TypeId × List D)}{tl:List D}{S0:St}(h:DW call S.heap.length news ops [] tl env S0 (fun vals S'=>Q .normal (exports exps vals env) S'))(ht:newsVals S.heap.length news.length=tl:=by simp only[newsVals,zw]<;>exact rfl)(hS:(⟨S.heap++news.map newsObj,S.low⟩:St)=S0:=by simp only[zw]<;>exact rfl):CW call (.drawn ops exps news) Q env S:=Fb ht hS h
theorem Ad{b:LCode}{ops:List LOper}{exps:List (Nat × Nat)}(h:OW call ops [] env S (fun vals S'=>SeqK call b Q .normal (exports exps vals env) S')):CW call (.seq (.region ops exps) b) Q env S:=Ai (Am h)
theorem Az(hx:Ar call l (args.map (opd vals env)) S=some (r,S',wr))(hok:okHere n news ⟨l,args,none,od,ho⟩ fps fp S'=true)(h:DW call n news os (fp::fps) (r::vals) env S' K)(hf:fpHere n ⟨l,args,none,od,ho⟩ (args.map (opd vals env)) r wr=fp:=by simp only[fpHere,zo,zq]<;>exact rfl):DW call n news (⟨l,args,none,od,ho⟩::os) fps vals env S K:=Dc hx hf hok h
theorem dw_g(hx:Ar call l (args.map (opd vals env)) S=some (r,S',wr))(hf:fpHere n ⟨l,args,none,od,ho⟩ (args.map (opd vals env)) r wr=fp:=by simp only[fpHere,zo,zq]<;>exact rfl)(hok:okHere n news ⟨l,args,none,od,ho⟩ fps fp S'=true)(h:DW call n news os (fp::fps) (r::vals) env S' K):DW call n news (⟨l,args,none,od,ho⟩::os) fps vals env S K:=Dc hx hf hok h
theorem En{vt:List D}(d:Nat){b:Bool}(h:OW call os vt env S K)(hg:vals.getD d .undef=.bool b:=by simp only[zv]<;>rfl)(ht:vals.set d (.bool b)=vt:=by simp only[zn]<;>exact rfl):OW call os vals env S K:=Kz d hg ht h
theorem dw_kq{vt:List D}(d:Nat){b:Bool}(h:DW call n news os fps vt env S K)(hg:vals.getD d .undef=.bool b:=by simp only[zv]<;>rfl)(ht:vals.set d (.bool b)=vt:=by simp only[zn]<;>exact rfl):DW call n news os fps vals env S K:=dw_know d hg ht h
end
set_option maxRecDepth 10000
theorem loopN_mono{f:List D→St→Option (LExit × List D × St)}:∀{k:Nat} {env:List D} {S:St} {r:LExit × List D × St},I7 f k env S=some r→I7 f (k+1) env S=some r
 | 0,env,S,r,h=>by simp[I7]at h
 | k + 1, env, S, r, h => by
  rw[I7]at h ⊢
  cases e:f env S with
  | none=>rw[e]at h;simp at h
  | some x =>
   obtain⟨ex,env1,S1⟩:=x;rw[e]at h
   cases ex with
   | normal=>exact loopN_mono h
   | ret=>exact h
   | exit i=>exact h
def CL (call:Bq) (k:Nat) (c:LCode) (Q:LExit→List D→St→Prop) (env:List D) (S:St):Prop:=∃e env' S',I7 (Ci call NN c) k env S=some (e,env',S')∧Q e env' S'
theorem loopN_le{f:List D→St→Option (LExit × List D × St)}{k:Nat}{env:List D}{S:St}{r:LExit × List D × St}(h:I7 f k env S=some r)(j:Nat):I7 f (k+j) env S=some r:=by
 induction j with
 | zero=>exact h
 | succ j ih=>exact loopN_mono ih
section
variable {call:Bq} {Q:LExit→List D→St→Prop} {env env':List D} {S:St} {c:LCode} {k:Nat}
def LuK (call:Bq) (k:Nat) (c:LCode) (Q:LExit→List D→St→Prop):LExit→List D→St→Prop
 | .normal,env,S=>CL call k c Q env S
 | e,env,S=>Q e env S
theorem Zp(h:env=env')(h2:CL call k c Q env' S):LuK call k c Q .normal env S:=by subst h;exact h2
theorem lu_e{i:Nat}(h:Q (.exit i) env S):LuK call k c Q (.exit i) env S:=h
theorem F7(h:CW call c (LuK call k c Q) env S):CL call (k+1) c Q env S:=by
 obtain⟨e,env',S',h1,h2⟩:=h;unfold CL;simp only[I7,h1]
 cases e with
 | normal=>exact h2
 | ret=>exact⟨_,_,_,rfl,h2⟩
 | exit i=>exact⟨_,_,_,rfl,h2⟩
theorem Ku(h:CL call 1000 c Q env S):CW call (.loop c) Q env S:=by
 obtain⟨e,env',S',h1,h2⟩:=h;refine⟨e,env',S',?_,h2⟩;simp only[Ci];have:=loopN_le h1 (18446744073709551616-1000);exact this
end
def CutK (I:List D→St→Prop):LExit→List D→St→Prop
 | .normal,env,S=>I env S
 | _,_,_=>False
theorem Gy{I:List D→St→Prop}{env env':List D}{S:St}(h:env=env')(h2:I env' S):CutK I .normal env S:=by subst h;exact h2
theorem Ig{call:Bq}{Q:LExit→List D→St→Prop}{env:List D}{S:St}{a b:LCode}(I:List D→St→Prop)(h1:CW call a (CutK I) env S)(h2:∀env S,I env S→CW call b Q env S):CW call (.seq a b) Q env S:=by
 refine Ai (cw_mono h1 ?_);intro e env' S' h
 cases e with
 | normal=>exact h2 env' S' h
 | ret=>exact h.elim
 | exit i=>exact h.elim
theorem Eu{L:Prg}{d:Nat}{f:FuncId}{F:LFunc}{args args' env0:List D}{S:St}{P:D × St × Bool→Prop}(hF:L.fns f=some F)(ha:(if L.raw f then some args else snapVs S.heap.length S.heap args)=some args')(hl:args'.length=F.nargs)(hp:(L.pure f&&args'.all D.freeV)=false)(he:(F.slots.map fun s=>args'.getD s .undef)=env0)(hd:0<d)
  (hb:∀d',d=d'+1→CW (Bd L NN d') F.body (fun e env' S1=>∃x,P x∧FinK L f F S x e env' S1) env0 ⟨S.heap,S.heap.length⟩) (hdp:L.deep f=false:=by rfl) (hE:L.ext f args=none:=by rfl) (uZ:L.dfs f=false:=by rfl):∃x,P x∧Bd L NN d f args S=some x:=by
 obtain⟨d',rfl⟩:∃d',d=d'+1:=⟨d-1,by omega⟩;obtain⟨e,env',S1,h1,x,hP,h2⟩:=hb d' rfl;refine⟨x,hP,G8 hF ha hl hp he (by omega) (fun d'' e'=>?_) hdp hE uZ⟩;obtain rfl:d'=d'':=by omega
 subst he;exact⟨e,env',S1,h1,h2⟩
set_option maxHeartbeats 4000000
theorem V4(z:Nat)(l:List UInt8)(k:Nat)(i:Int)(hi:i=k)(h:k≤l.length):pop (.slice true z true false false) [.str (mkS l),.int .i64 i]=some (.str (mkS (l.drop k))):=by
 subst hi;simp only[pop,Ee,Fe,Jv,H5,D7];rw[if_pos (by omega)];simp only[Int.toNat_natCast];rw[if_pos ⟨h,Nat.le_refl _⟩];simp only[Option.map_some,Ro];rw[List.take_of_length_le (by simp)]
theorem str_to(z:Nat)(l:List UInt8)(k:Nat)(i:Int)(hi:i=k)(h:k≤l.length):pop (.slice true z false true false) [.str (mkS l),.int .i64 i]=some (.str (mkS (l.take k))):=by
 subst hi;simp only[pop,Ee,Fe,Jv,H5,D7];rw[if_pos (by omega)];simp only[Int.toNat_natCast];rw[if_pos ⟨Nat.zero_le _,h⟩];simp only[Option.map_some,Ro,List.drop_zero,Nat.sub_zero]
theorem str_mid(z:Nat)(l:List UInt8)(a b:Nat)(i j:Int)(hi:i=a)(hj:j=b)(h:a≤b)(h':b≤l.length):pop (.slice true z true true false) [.str (mkS l),.int .i64 i,.int .i64 j]=some (.str (mkS ((l.drop a).take (b-a)))):=by
 subst hi hj;simp only[pop,Ee,Fe,Jv,H5,D7];rw[if_pos (by omega),if_pos (by omega)];simp only[Int.toNat_natCast];rw[if_pos ⟨h,h'⟩];simp only[Option.map_some,Ro]
theorem eqNil(l:List UInt8):(l==[])=true↔l=[]:=by simp
def U0 (b:UInt8) (l:List UInt8):List UInt8:=l.dropWhile (·==b)
def O0 (b:UInt8) (l:List UInt8):List UInt8:=(l.reverse.dropWhile (·==b)).reverse
theorem rskip_snoc(b:UInt8)(l:List UInt8)(c:UInt8):O0 b (l++[c])=if c==b then O0 b l else l++[c]:=by
 unfold O0;rw[List.reverse_append,List.reverse_singleton,List.singleton_append,List.dropWhile_cons];split
 ·
  rfl
 simp
theorem u8beq{c b:UInt8}(h:((c.toNat:Int)==(b.toNat:Int))=true):(c==b)=true:=by
 rw[beq_iff_eq]at h ⊢;exact UInt8.toNat_inj.1 (by omega)
theorem u8bne{c b:UInt8}(h:((c.toNat:Int)==(b.toNat:Int))=false):¬(c==b)=true:=by
 rw[beq_eq_false_iff_ne]at h;intro e;rw[beq_iff_eq]at e;subst e;exact h rfl
theorem trimLx_run{d:Nat}(hd:1≤d)(S:St)(b:UInt8)(l:List UInt8)(hl:l.length≤1000000):Bd LP NN d 175 [.str (mkS l),.int .u8 (b.toNat:Nat)] S=some (.str (mkS (U0 b l)),S,false):=by
 refine rq (F:=F175) rfl (by simp only[LP,snapVs,zs,zm]<;>exact rfl) (by simp only[F175,zv]<;>exact rfl) ?_;rintro d rfl;refine Ad (Aw (Aa (Af ?_)));refine Ai (Aq (D5 (fun n env S'=>∃(l':List UInt8) (u3:D),U0 b l'=U0 b l∧l'.length=n∧S'=⟨[],0⟩∧env=[.str (mkS l'),.int .u8 (b.toNat:Nat),.str ⟨#[]⟩,u3]) (l.length) (by omega) (⟨l,_,rfl,rfl,rfl,rfl⟩) ?_));rintro n env S' ⟨l',u3,hl',rfl,rfl,rfl⟩;refine Ai (Ad (Ae rfl (Qy (h:=xo2 (h:=Ag rfl ?_)))));refine G9 0 (by simp only[zv]<;>exact rfl) (by simp only[zn]<;>exact rfl) (by simp only[zn]<;>exact rfl) (fun hgA=>?_) (fun hgA=>?_)
 ·
  obtain⟨c,l'',rfl⟩:∃c l'',l'=c::l'':=by
   cases l' with
   | nil=>simp at hgA
   | cons c l=>exact⟨c,l,rfl⟩
  rename List UInt8=>l'
  refine Ap rfl (Ae rfl (Ap rfl (Ac (by simp only[zo,Iz,zm,Jw]<;>exact rfl) ?_)));refine Ap rfl (Ae rfl (Ap rfl (xo2 (h:=xo3 (h:=?_)))));refine Aa (Af ?_);refine Bj (by simp only[opd,zv]<;>exact rfl) (fun xK=>?_) (fun xK=>?_)
  ·
   have h48:(c==b)=true:=u8beq xK;refine Ak (Bi rfl (Aq (Am (Ae rfl (Ac (by simp only[opd,zv,Ar,aop,LOp.loud,Bool.false_eq_true,if_false];rw[V4 _ _ 1 1 rfl (by simp)];exact rfl) ?_)))));refine Ag rfl (Aa (D8 (Gh (by simp only[ze]<;>exact rfl) ?_)));exact⟨l'.length,by simp,l',_,by rw[←hl',U0,U0,List.dropWhile_cons,if_pos h48],rfl,rfl,rfl⟩
  refine Dh (Gj (Hu (Gl (Bi rfl (Ad (Ae rfl (Ag rfl (Aa (Af ?_)))))))));apply A7;refine⟨_,by simp only[F175,resultD,Ba,resD,zg]<;>exact rfl,?_⟩;rw[←hl',show U0 b (c::l')=c::l' by rw[U0,List.dropWhile_cons,if_neg (u8bne xK)]];rfl
 obtain rfl:l'=[]:=by
  cases l' with
  | nil=>rfl
  | cons c l=>have:=of_decide_eq_false hgA;simp at this
 refine Cm rfl rfl (Cm rfl rfl (Cm rfl rfl (Cm rfl rfl (xo3 (h:=?_)))));refine Aa (Af ?_);apply Be (by simp only[opd,zv]);refine Dh (Gj (Hu (Gl (Bi rfl (Ad (Ae rfl (Ag rfl (Aa (Af ?_)))))))));apply A7;refine⟨_,by simp only[F175,resultD,Ba,resD,zg]<;>exact rfl,?_⟩;rw[←hl'];rfl
theorem trimLB_run{d:Nat}(hd:1≤d)(S:St)(l:List UInt8)(hl:l.length≤1000000):Bd LP NN d 175 [.str (mkS l),.int .u8 48] S=some (.str (mkS (Du l)),S,false):=trimLx_run hd S 48 l hl
theorem trimRx_run{d:Nat}(hd:1≤d)(S:St)(b:UInt8)(l:List UInt8)(hl:l.length≤1000000):Bd LP NN d 180 [.str (mkS l),.int .u8 (b.toNat:Nat)] S=some (.str (mkS (O0 b l)),S,false):=by
 refine rq (F:=F180) rfl (by simp only[LP,snapVs,zs,zm]<;>exact rfl) (by simp only[F180,zv]<;>exact rfl) ?_;rintro d rfl;refine Ad (Aw (Aa (Af ?_)));refine Ai (Aq (D5 (fun n env S'=>∃(l':List UInt8) (u3:D),O0 b l'=O0 b l∧l'.length=n∧n≤l.length∧S'=⟨[],0⟩∧env=[.str (mkS l'),.int .u8 (b.toNat:Nat),.str ⟨#[]⟩,u3]) (l.length) (by omega) (⟨l,_,rfl,rfl,by omega,rfl,rfl⟩) ?_));rintro n env S' ⟨l',u3,hl',rfl,yD,rfl,rfl⟩;refine Ai (Ad (Ae rfl (Qy (h:=xo2 (h:=Ag rfl ?_)))));refine G9 0 (by simp only[zv]<;>exact rfl) (by simp only[zn]<;>exact rfl) (by simp only[zn]<;>exact rfl) (fun hgA=>?_) (fun hgA=>?_)
 ·
  obtain⟨l'',c,rfl⟩:∃l'' c,l'=l''++[c]:=by
   rcases List.eq_nil_or_concat l' with h | ⟨a,b,h⟩
   ·
    subst h;simp at hgA
   exact⟨a,b,by simpa using h⟩
  rename List UInt8=>l'
  have hw:IntKind.i64.wrap (((l'++[c]).length:Nat)-1:Int)=(l'.length:Int):=by rw[IntKind.wrap_i64];simp at yD ⊢;omega
  have hix:(l'++[c])[l'.length]?=some c:=by simp
  have h0:(0:Int)≤(l'.length:Int):=by omega
  have qc:=aI hw (aI hix (aI h0 (@Int.toNat_natCast)));refine Ap rfl (Ae rfl (Ap rfl (Ae rfl (Ap rfl (Qy (h:=?_))))));refine Ap rfl (Ac (by simp only[zo,Bf,qc]<;>exact rfl) ?_);refine Ap rfl (Ac (by simp only[zo,Iz,zm,Jw,qc]<;>exact rfl) ?_);refine Ap rfl (Ae rfl (Ap rfl (xo2 (h:=xo3 (h:=?_)))));refine Aa (Af ?_);refine Bj (by simp only[opd,zv]<;>exact rfl) (fun xK=>?_) (fun xK=>?_)
  ·
   have h48:(c==b)=true:=u8beq xK;refine Ak (Bi rfl (Aq (Am (Ae rfl (Ae rfl (Qy (h:=Ac (by simp only[zo,Bf,qc]<;>exact rfl) ?_)))))));apply Ac (by simp only[opd,zv,Ar,aop,LOp.loud,Bool.false_eq_true,if_false];rw[str_to _ (l'++[c]) l'.length _ rfl (by simp),List.take_left];exact rfl);refine Ag rfl (Aa (D8 (Gh (by simp only[ze]<;>exact rfl) ?_)));exact⟨l'.length,by simp,l',_,by rw[←hl',rskip_snoc,if_pos h48],rfl,by simp at yD;omega,rfl,rfl⟩
  refine Dh (Gj (Hu (Gl (Bi rfl (Ad (Ae rfl (Ag rfl (Aa (Af ?_)))))))));apply A7;refine⟨_,by simp only[F180,resultD,Ba,resD,zg]<;>exact rfl,?_⟩;rw[←hl',rskip_snoc,if_neg (u8bne xK)];rfl
 obtain rfl:l'=[]:=by
  cases l' with
  | nil=>rfl
  | cons c l=>have:=of_decide_eq_false hgA;simp at this
 refine Cm rfl rfl (Cm rfl rfl (Cm rfl rfl (Cm rfl rfl (Cm rfl rfl (Cm rfl rfl (Cm rfl rfl (xo3 (h:=?_))))))));refine Aa (Af ?_);apply Be (by simp only[opd,zv]);refine Dh (Gj (Hu (Gl (Bi rfl (Ad (Ae rfl (Ag rfl (Aa (Af ?_)))))))));apply A7;refine⟨_,by simp only[F180,resultD,Ba,resD,zg]<;>exact rfl,?_⟩;rw[←hl'];rfl
theorem m48:(⟨#[48]⟩:ByteArray)=mkS [48]:=rfl
theorem trimL0_run{d:Nat}(hd:2≤d)(S:St)(l:List UInt8)(hl:l.length≤1000000):Bd LP NN d 126 [.str (mkS l),.str ⟨#[48]⟩] S=some (.str (mkS (Du l)),S,false):=by
 refine rq (F:=F126) rfl (by simp only[LP,snapVs,zs,zm]<;>exact rfl) (by simp only[F126,zv]<;>exact rfl) ?_;rintro d rfl;refine Ad (Aw (Aa (Af ?_)));refine Ai (Ad (Ae rfl (Ac (by simp only[zo,Bf,Eb,Fg,m48]<;>exact rfl) ?_)));apply Ag rfl;refine G9 0 (by simp only[zv]<;>exact rfl) (by simp only[zn]<;>exact rfl) (by simp only[zn]<;>exact rfl) (fun hg=>?_) (fun hg=>?_)
 ·
  refine Cm rfl rfl (Cm rfl rfl (Ac (by simp only[zo,m48]<;>exact rfl) ?_));refine Aa (Af ?_);apply Ez (by simp only[opd,zv,m48]);refine Ad (Ae rfl (Ag rfl (Aa (Af ?_))));refine A7 (Nu ?_);refine⟨_,by simp only[F126,resultD,Ba,resD,zg]<;>exact rfl,?_⟩;obtain rfl:=(eqNil l).1 hg;rfl
 refine Ap rfl (Ae rfl (Ap rfl (Ac (by simp only[zo,Bf,Eb,Fg,m48]<;>exact rfl) ?_)));apply Ac (by simp only[zo,m48]<;>exact rfl);refine Aa (Af ?_);apply Be (by simp only[opd,zv,m48]<;>rfl);refine Ak (Bi rfl (Ai (Ad (Ae rfl (Ac (by simp only[zo,Hw,D7,List.length_cons,List.length_nil,m48]<;>exact rfl) ?_)))));apply Ac (by simp only[zo,Bf,m48]<;>exact rfl);refine Ag rfl (Kz 0 (b:=true) (by simp only[zv,m48]<;>rfl) (by simp only[zn]<;>exact rfl) ?_);refine Ap rfl (Ae rfl (Ap rfl (Ac (by simp only[zo,Iz,zm,Jw,m48]<;>exact rfl) ?_)));refine Ap rfl (Ac (by simp only[zo,Bf,m48]<;>exact rfl) ?_);apply Ac (by simp only[zo,m48]<;>exact rfl);refine Aa (Af ?_);apply Ez (by simp only[opd,zv,m48]<;>rfl);refine Ad (Ae rfl (Ae rfl (Ac (by simp only[zo,Iz,Jw,m48]<;>exact rfl) ?_)));apply Ac (by simp only[zo,m48];exact trimLB_run (by omega) _ l hl);refine Ag rfl (Aa (Af ?_));refine A7 (Nu ?_);refine⟨_,by simp only[F126,resultD,Ba,resD,zg]<;>exact rfl,?_⟩;rfl
def digOb:Z9:=⟨237,256,[digTab],0,0,false⟩
theorem c256(c:UInt8):(0:Int)≤(c.toNat:Int)∧(c.toNat:Int)<((256:Nat):Int):=by have:=c.toNat_lt;omega
theorem cont_run{d:Nat}(hd:1≤d)(S:St)(g:Nat)(xE:S.heap[g]?=some digOb)(c:UInt8):Bd LP NN d 216 [.ptr g 0 0 0,.int .u8 c.toNat] S=some (.bool (H6 c),S,false):=by
 refine G8 (F:=F216) rfl (by simp only[LP,snapVs,zs,zm]<;>exact rfl) rfl (by simp only[LP,zf,zm];try rfl) (by simp only[F216,zv]<;>exact rfl) (by omega) ?_;rintro d rfl;refine Ad (Aw (Aa (Af ?_)));refine Ad (Ae rfl (Ae rfl (xo3 (h:=Ac (by simp only[zo,Tt,zm,Int.toNat_natCast,Nat.mul_one,c256 c]<;>exact rfl) ?_))));apply Ac (by simp only[zl,zm,zd,Au,xE,digOb,digTab_at]<;>exact rfl);refine Ag rfl (Aa (Af ?_));apply A7;refine⟨_,by simp only[F216,resultD,Ba,resD,zg]<;>exact rfl,?_⟩;simp[leave,LP,Aae,Aac,snap,D.Aad,D.freeV,D.free,D.Aah]
theorem trimLA_run{d:Nat}(hd:2≤d)(S:St)(g:Nat)(xE:S.heap[g]?=some digOb)(l:List UInt8)(hl:l.length≤1000000):Bd LP NN d 177 [.str (mkS l),.ptr g 0 0 0] S=some (.str (mkS (l.dropWhile H6)),S,false):=by
 refine G8 (F:=F177) rfl (by simp only[LP,snapVs,zs,zm]<;>exact rfl) rfl (by simp only[LP,zf,zm];try rfl) (by simp only[F177,zv]<;>exact rfl) (by omega) ?_;rintro d rfl;refine Ad (Aw (Aa (Af ?_)));refine Ai (Aq (D5 (fun n env S'=>∃(l':List UInt8) (u3 u4:D),l'.dropWhile H6=l.dropWhile H6∧l'.length=n∧S'=⟨S.heap,S.heap.length⟩∧env=[.str (mkS l'),.ptr g 0 0 0,.str ⟨#[]⟩,u3,u4]) (l.length) (by omega) (⟨l,_,_,rfl,rfl,rfl,rfl⟩) ?_));rintro n env S' ⟨l',u3,u4,hl',rfl,rfl,rfl⟩;refine Ai (Ad (Ae rfl (Qy (h:=xo2 (h:=?_)))));refine Aa (Af ?_);refine Bj (by simp only[opd,zv]<;>exact rfl) (fun xZ=>?_) (fun xZ=>?_)
 ·
  obtain⟨c,l'',rfl⟩:∃c l'',l'=c::l'':=by
   cases l' with
   | nil=>simp at xZ
   | cons c l=>exact⟨c,l,rfl⟩
  rename List UInt8=>l'
  refine Ak (Bi rfl (Aq (Ai (Ad (Ae rfl (Ae rfl (Ac (by simp only[zo,Iz,zm,Jw]<;>exact rfl) ?_)))))));apply Ac (by simp only[zo];exact cont_run (by omega) ⟨S.heap,S.heap.length⟩ g xE c);refine Zo (h:=?_);refine Aa (Af ?_);refine Bj (by simp only[opd,zv]<;>exact rfl) (fun xK=>?_) (fun xK=>?_)
  ·
   refine Dh (Gj (bk_o rfl (Hu (Gl (Bi rfl (Ad (Ae rfl (Ag rfl (Aa (Af ?_))))))))));apply A7;refine⟨_,by simp only[F177,resultD,Ba,resD,zg,zm]<;>exact rfl,?_⟩;rw[←hl',List.dropWhile_cons,if_neg (by simpa using xK)];simp[leave,LP,Aae,Aac,snap,D.Aad,D.freeV,D.free,D.Aah]
  refine Ak (Bi rfl (Am (Ae rfl (Ac (by simp only[opd,zv,Ar,aop,LOp.loud,Bool.false_eq_true,if_false];rw[V4 _ _ 1 1 rfl (by simp)];exact rfl) ?_))));refine Ag rfl (Aa (D8 (Gh (by simp only[ze]<;>exact rfl) ?_)));exact⟨l'.length,by simp,l',_,_,by rw[←hl',List.dropWhile_cons,if_pos (by simpa using xK)],rfl,rfl,rfl⟩
 obtain rfl:l'=[]:=by
  cases l' with
  | nil=>rfl
  | cons c l=>have:=of_decide_eq_false xZ;simp at this
 refine Dh (Gj (Hu (Gl (Bi rfl (Ad (Ae rfl (Ag rfl (Aa (Af ?_)))))))));apply A7;refine⟨_,by simp only[F177,resultD,Ba,resD,zg,zm]<;>exact rfl,?_⟩;rw[←hl'];simp[leave,LP,Aae,Aac,snap,D.Aad,D.freeV,D.free,D.Aah]
theorem trimRA_run{d:Nat}(hd:2≤d)(S:St)(g:Nat)(xE:S.heap[g]?=some digOb)(l:List UInt8)(hl:l.length≤1000000):Bd LP NN d 181 [.str (mkS l),.ptr g 0 0 0] S=some (.str (mkS (Qn l)),S,false):=by
 refine G8 (F:=F181) rfl (by simp only[LP,snapVs,zs,zm]<;>exact rfl) rfl (by simp only[LP,zf,zm];try rfl) (by simp only[F181,zv]<;>exact rfl) (by omega) ?_;rintro d rfl;refine Ad (Aw (Aa (Af ?_)));refine Ai (Aq (D5 (fun n env S'=>∃(l':List UInt8) (u3 u4:D),Qn l'=Qn l∧l'.length=n∧n≤l.length∧S'=⟨S.heap,S.heap.length⟩∧env=[.str (mkS l'),.ptr g 0 0 0,.str ⟨#[]⟩,u3,u4]) (l.length) (by omega) (⟨l,_,_,rfl,rfl,by omega,rfl,rfl⟩) ?_));rintro n env S' ⟨l',u3,u4,hl',rfl,yD,rfl,rfl⟩;refine Ai (Ad (Ae rfl (Qy (h:=xo2 (h:=?_)))));refine Aa (Af ?_);refine Bj (by simp only[opd,zv]<;>exact rfl) (fun xZ=>?_) (fun xZ=>?_)
 ·
  obtain⟨l'',c,rfl⟩:∃l'' c,l'=l''++[c]:=by
   rcases List.eq_nil_or_concat l' with h | ⟨a,b,h⟩
   ·
    subst h;simp at xZ
   exact⟨a,b,by simpa using h⟩
  rename List UInt8=>l'
  have hw:IntKind.i64.wrap (((l'++[c]).length:Nat)-1:Int)=(l'.length:Int):=by rw[IntKind.wrap_i64];simp at yD ⊢;omega
  have hix:(l'++[c])[l'.length]?=some c:=by simp
  have h0:(0:Int)≤(l'.length:Int):=by omega
  have wR:=aI hw (aI hix (aI h0 (@Int.toNat_natCast)));refine Ak (Bi rfl (Aq (Ai (Ad (Ae rfl (Ae rfl (Ae rfl (Qy (h:=Ac (by simp only[zo,Bf,wR]<;>exact rfl) ?_)))))))));apply Ac (by simp only[zo,Iz,zm,Jw,wR]<;>exact rfl);apply Ac (by simp only[zo];exact cont_run (by omega) ⟨S.heap,S.heap.length⟩ g xE c);refine Zo (h:=?_);refine Aa (Af ?_);refine Bj (by simp only[opd,zv]<;>exact rfl) (fun xK=>?_) (fun xK=>?_)
  ·
   refine Dh (Gj (bk_o rfl (Hu (Gl (Bi rfl (Ad (Ae rfl (Ag rfl (Aa (Af ?_))))))))));apply A7;refine⟨_,by simp only[F181,resultD,Ba,resD,zg]<;>exact rfl,?_⟩;rw[←hl',rtrim_snoc,if_neg (by simpa using xK)];simp[leave,LP,Aae,Aac,snap,D.Aad,D.freeV,D.free,D.Aah]
  refine Ak (Bi rfl (Am (Ae rfl (Ae rfl (Qy (h:=Ac (by simp only[zo,Bf,wR]<;>exact rfl) ?_))))));apply Ac (by simp only[opd,zv,Ar,aop,LOp.loud,Bool.false_eq_true,if_false];rw[str_to _ (l'++[c]) l'.length _ rfl (by simp),List.take_left];exact rfl);refine Ag rfl (Aa (D8 (Gh (by simp only[ze]<;>exact rfl) ?_)));exact⟨l'.length,by simp,l',_,_,by rw[←hl',rtrim_snoc,if_pos (by simpa using xK)],rfl,by simp at yD;omega,rfl,rfl⟩
 obtain rfl:l'=[]:=by
  cases l' with
  | nil=>rfl
  | cons c l=>have:=of_decide_eq_false xZ;simp at this
 refine Dh (Gj (Hu (Gl (Bi rfl (Ad (Ae rfl (Ag rfl (Aa (Af ?_)))))))));apply A7;refine⟨_,by simp only[F181,resultD,Ba,resD,zg,zm]<;>exact rfl,?_⟩;rw[←hl',show Qn []=[] from rfl];simp[leave,LP,Aae,Aac,snap,D.Aad,D.freeV,D.free,D.Aah]
theorem aset_run{d:Nat}(hd:1≤d)(S:St):Bd LP NN d 176 [.str ⟨#[48,49,50,51,52,53,54,55,56,57]⟩] S=some (.tup [.agg digTab,.bool true],S,false):=by
 obtain⟨d,rfl⟩:∃d',d=d'+1:=⟨d-1,by omega⟩
 kernel_rfl
theorem Gs:(⟨#[48,49,50,51,52,53,54,55,56,57]⟩:ByteArray)=mkS [48,49,50,51,52,53,54,55,56,57]:=rfl
theorem trimDg_run{d:Nat}(hd:4≤d)(S:St)(l:List UInt8)(hl:l.length≤1000000):Bd LP NN d 197 [.str (mkS l),.str ⟨#[48,49,50,51,52,53,54,55,56,57]⟩] S=some (.str (mkS (trimD l)),S,false):=by
 refine rq (F:=F197) rfl (by simp only[LP,snapVs,zs,zm]<;>exact rfl) (by simp only[F197,zv]<;>exact rfl) ?_;rintro d rfl;refine Ad (Aw (Aa (Af ?_)));refine Ai (Ad (Ae rfl (Ac (by simp only[zo,Bf,Eb,Fg,Gs]<;>exact rfl) ?_)));apply Ag rfl;refine G9 0 (by simp only[zv]<;>exact rfl) (by simp only[zn]<;>exact rfl) (by simp only[zn]<;>exact rfl) (fun hg=>?_) (fun hg=>?_)
 ·
  refine Cm rfl rfl (Cm rfl rfl (Ac (by simp only[zo,Gs]<;>exact rfl) ?_));refine Aa (Af ?_);apply Ez (by simp only[opd,zv,Gs]);refine Ad (Ae rfl (Ag rfl (Aa (Af ?_))));refine A7 (Nu ?_);refine⟨_,by simp only[F197,resultD,Ba,resD,zg]<;>exact rfl,?_⟩;obtain rfl:=(eqNil l).1 hg;rfl
 refine Ap rfl (Ae rfl (Ap rfl (Ac (by simp only[zo,Bf,Eb,Fg,Gs]<;>exact rfl) ?_)));apply Ac (by simp only[zo,Gs]<;>exact rfl);refine Aa (Af ?_);apply Be (by simp only[opd,zv,Gs]<;>rfl);refine Ak (Bi rfl (Ai (Ad (Ae rfl (Ac (by simp only[zo,Hw,Gs]<;>exact rfl) ?_)))));apply Ac (by simp only[zo,Bf,Gs]<;>exact rfl);refine Ag rfl (Kz 0 (b:=false) (by simp only[zv,Gs]<;>rfl) (by simp only[zn]<;>exact rfl) ?_);refine Cm rfl rfl (Cm rfl rfl (Cm rfl rfl (Ac (by simp only[zo,Gs]<;>exact rfl) ?_)));refine Aa (Af ?_);apply Be (by simp only[opd,zv,Gs]);refine Ak (Bi rfl (Ai (Ad (Ae rfl (Ac (by simp only[zo,Gs];exact aset_run (by omega) _) ?_)))));refine Ag rfl (Ac (by simp only[zo,Lz,Gs]<;>exact rfl) ?_);apply Ac (by simp only[zo,Lz,Ls_,Gs]<;>exact rfl);apply Ac (show _=some (D.ptr 0 0 0 0,(⟨[⟨237,256,[List.replicate 256 (.bool false)],0,0,false⟩],0⟩:St),true) by kernel_rfl);apply Ac (show _=some (D.undef,(⟨[digOb],0⟩:St),true) by kernel_rfl);refine Ag rfl (Aa (Af ?_));refine Ad (Ae rfl (Aa (Af ?_)));apply Ez (by simp only[opd,zv,Gs]<;>rfl);refine Ad (Ae rfl (Ac (by simp only[zo,Gs];exact trimRA_run (by omega) ⟨[digOb],0⟩ 0 rfl l hl) ?_));apply Ac (by simp only[zo,Gs];exact trimLA_run (by omega) ⟨[digOb],0⟩ 0 rfl (Qn l) (by rw[Qn,List.length_reverse];have:=(List.dropWhile_suffix H6 (l:=l.reverse)).length_le;rw[List.length_reverse]at this;omega));refine Ag rfl (Aa (Af ?_));refine A7 (Nu ?_);refine⟨_,by simp only[F197,resultD,Ba,resD,zg]<;>exact rfl,?_⟩;rfl
def J8 (l:List UInt8):Bool:=!(l==[])&&l.all H6
theorem numb_run{d:Nat}(hd:5≤d)(S:St)(l:List UInt8)(hl:l.length≤1000000):Bd LP NN d 158 [.str (mkS l)] S=some (.bool (J8 l),S,false):=by
 refine rq (F:=F158) rfl (by simp only[LP,snapVs,zs,zm]<;>exact rfl) (by simp only[F158,zv]<;>exact rfl) ?_;rintro d rfl;refine Ad (Aw (Aa (Af ?_)));refine Ad (Ae rfl (Ac (by simp only[zo,Bf,Eb,Fg]<;>exact rfl) ?_));apply Ag rfl;refine G9 0 (by simp only[zv]<;>exact rfl) (by simp only[zn]<;>exact rfl) (by simp only[zn]<;>exact rfl) (fun hg=>?_) (fun hg=>?_)
 ·
  refine Ap rfl (Ae rfl (Ap rfl (Ac (by simp only[zo];exact trimDg_run (by omega) _ l hl) ?_)));refine Ap rfl (Ac (by simp only[zo,Bf,Eb,Fg]<;>exact rfl) ?_);refine xo3 (h:=Ag rfl (Aa ?_));refine Af ?_;apply A7;refine⟨_,by simp only[F158,resultD,Ba,resD,zg]<;>exact rfl,?_⟩;rw[J8,show (!(l==[]))=true from hg,Bool.true_and,trimD_nil];rfl
 refine Cm rfl rfl (Cm rfl rfl (Cm rfl rfl (xo3 (h:=Ag rfl (Aa ?_)))));refine Af ?_;apply A7;refine⟨_,by simp only[F158,resultD,Ba,resD,zg]<;>exact rfl,?_⟩;rw[J8,show (!(l==[]))=false from hg];rfl
theorem U7{d:Nat}(hd:3≤d)(S:St)(neg:Bool)(l:List UInt8)(hl:l.length≤1000)(xg:(Du l).length≤62):Bd LP NN d 108 [.bool neg,.str (mkS l),.int .i64 0] S=some (.tup [.agg [.bool (neg&&nz l),.str (mkS (strip l)),.int .i64 0],.int .i64 0],S,false):=by
 refine rq (F:=F108) rfl (by simp only[LP,snapVs,zs,zm]<;>exact rfl) (by simp only[F108,zv]<;>exact rfl) ?_;rintro d rfl;refine Ad (Ko (h:=?_));refine Aw (Aa (Af ?_));refine Ad (Ae rfl (Ac (by simp only[zo];exact trimL0_run (by omega) _ l (by omega)) ?_));refine Ag rfl (Aa (Af ?_));refine Ai (Ad (Ae rfl (Ac (by simp only[zo,Bf,Eb,Fg]<;>exact rfl) ?_)));refine Aa (Af ?_);refine Bj (by simp only[opd,zv]<;>exact rfl) (fun hc=>?_) (fun hc=>?_)
 ·
  refine Ad (Px (h:=Qx (h:=?_)));refine Aw (Aa (Af ?_));refine A7 (Nu ?_);refine⟨_,by simp only[F108,resultD,Ba,resD,zg,zd,rowsOf,Au,List.take,List.drop,zm]<;>exact rfl,?_⟩;have h0:Du l=[]:=(eqNil _).1 hc;rw[nz,strip,if_pos h0,h0,bne_self_eq_false,Bool.and_false];rfl
 refine Ak (Bi rfl (Ai (Aq (D5 (fun n env S'=>∃u5 u6 u7 u8:D,S'=⟨[⟨57,3,[[.bool false,.str ⟨#[]⟩,.int .i64 0]],0,0,false⟩],0⟩∧env=[.bool neg,.str (mkS (Du l)),.int .i64 0,.ptr 0 0 0 0,.int .i64 0,u5,u6,u7,u8]) (1) (by omega) (⟨_,_,_,_,rfl,rfl⟩) ?_))));rintro n env S' ⟨u5,u6,u7,u8,rfl,rfl⟩;refine Ai (Ad (Ae rfl (xo2 (h:=Ag rfl (En 0 (b:=false) ?_)))));refine Cm rfl rfl (Cm rfl rfl (xo3 (h:=?_)));refine Aa (Af ?_);apply Be (by simp only[opd,zv]);refine Dh (Gj (Hu (Gl (Bi rfl (Ai (Ad (Ae rfl (xo46 (h:=?_)))))))));refine Aa (Af ?_);refine Dw ?_;refine Ak (Bi rfl (Ai (Ad (Ae rfl (Qy (h:=Ae rfl (Ac (by simp only[zo,Jm,U9]<;>exact rfl) ?_)))))));refine xo2 (h:=?_);refine Aa (Af ?_);apply Be (by simp only[opd,zv]<;>(rw[decide_eq_false_iff_not.2];split<;>omega));refine Ak (Bi rfl (Ad (Ae rfl (Ae rfl (Ae rfl (Px (h:=Qx (h:=?_))))))));refine Aw (Aa (Af ?_));apply A7;refine⟨_,by simp only[F108,resultD,Ba,resD,zg,zd,rowsOf,Au,List.take,List.drop,zm]<;>exact rfl,?_⟩;have h0:¬Du l=[]:=fun h=>by rw[h]at hc;simp at hc
 rw[nz,strip,if_neg h0,show (Du l != [])=true by simpa using h0,Bool.and_true];rfl
theorem Ou(l:List UInt8):(Du l).length≤l.length:=by
 obtain⟨k,hk⟩:=Ky l;have:=congrArg List.length hk;simp at this;omega
theorem big_len{l:List UInt8}(h:l.length≤62):decide ((l.length:Int)>1000)=false:=decide_eq_false (by omega)
theorem decNew_run{d:Nat}(hd:6≤d)(S:St)(neg:Bool)(l:List UInt8)(hl:l.length≤62)(uN:J8 l=true):Bd LP NN d 105 [.bool neg,.str (mkS l),.int .i64 0] S=some (.tup [.agg [.bool (neg&&nz l),.str (mkS (strip l)),.int .i64 0],.int .i64 0],S,false):=by
 refine rq (F:=F105) rfl (by simp only[LP,snapVs,zs,zm]<;>exact rfl) (by simp only[F105,zv]<;>exact rfl) ?_;rintro d rfl;refine Ad (Ko (h:=?_));refine Aw (Aa (Af ?_));refine Ai (Ad (Ae rfl (Ac (by simp only[zo];exact numb_run (by omega) _ l (by omega)) ?_)));apply Ac (by simp only[zo,unD,uN,Bool.not_true]<;>exact rfl);refine Ag rfl (Kz 0 (b:=false) (by simp only[zv,uN]<;>rfl) (by simp only[zn]<;>exact rfl) ?_);refine Ap rfl (Ae rfl (Ap rfl (Ac (by simp only[zo,Hw,D7,uN]<;>exact rfl) ?_)));refine Ap rfl (Ac (by simp only[zo,Bf,uN,big_len hl]<;>exact rfl) ?_);apply Ac (by simp only[zo,uN]<;>exact rfl);refine Ag rfl (Kz 0 (b:=false) (by simp only[zv,uN]<;>rfl) (by simp only[zn]<;>exact rfl) ?_);refine Ap rfl (Ae rfl (Ap rfl (Ac (by simp only[zo,Bf,Int.reduceLT,uN]<;>exact rfl) ?_)));apply Ac (by simp only[zo,uN]<;>exact rfl);refine Ag rfl (Kz 0 (b:=false) (by simp only[zv,uN]<;>rfl) (by simp only[zn]<;>exact rfl) ?_);refine Ap rfl (Ae rfl (Ap rfl (Ac (by simp only[zo,Bf,uN]<;>exact rfl) ?_)));apply Ac (by simp only[zo,uN]<;>exact rfl);refine Aa (Af ?_);refine Dw ?_;refine Ak (Bi rfl (Ad (Ae rfl (Ae rfl (Ae rfl (Ac (by simp only[zo];exact U7 (by omega) _ neg l (by omega) (Nat.le_trans (Ou l) hl)) ?_))))));refine Lh (h:=Jo (h:=Qx (h:=Ag rfl (Aa ?_))));refine Af ?_;apply A7;refine⟨_,by simp only[F105,resultD,Ba,resD,zg,zd,rowsOf,Au,List.take,List.drop,zm]<;>exact rfl,?_⟩;simp only[leaveP,leave,snapVs,Bh,zs,zf,zk]
structure Nrm (neg:Bool) (l:List UInt8):Prop where
 num:J8 l=true
 len:l.length≤62
 st:strip l=l
 sg:(neg&&nz l)=neg
theorem strip0_strip(l:List UInt8):Du (strip l)=Du l:=by
 unfold strip;split
 ·
  rename_i h;rw[h];rfl
 exact Ux l
theorem Nrm.of(neg:Bool)(l:List UInt8)(h1:J8 l=true)(h2:(Du l).length≤62):Nrm (neg&&nz l) (strip l):=by
 simp only[J8,Bool.and_eq_true,Bool.not_eq_true',beq_eq_false_iff_ne,ne_eq]at h1;obtain⟨a,b⟩:=strip_len l h1.1;refine⟨?_,(by unfold strip;split;exact (by decide:1≤62);exact h2),strip_idem l,?_⟩
 ·
  simp only[J8,Bool.and_eq_true,Bool.not_eq_true',beq_eq_false_iff_ne,ne_eq];exact⟨fun e=>by rw[e]at b;simp at b,strip_dig l h1.2⟩
 unfold nz;rw[strip0_strip];cases neg<;>simp
theorem ba_self2(s:ByteArray):(s==s)=true:=by
 first
  | exact beq_self_eq_true s
  | (cases s with | mk a=>show (a==a)=true;simp)
  | (cases s with | mk a=>show decide _=true;simp)
theorem big62{l:List UInt8}(h:l.length≤62):decide ((l.length:Int)>62)=false:=decide_eq_false (by omega)
theorem Ip{d:Nat}(hd:6≤d)(S:St)(neg:Bool)(l:List UInt8)(h:Nrm neg l):Bd LP NN d 152 [.agg [.bool neg,.str (mkS l),.int .i64 0]] S=some (.int .i64 0,S,false):=by
 refine rq (F:=F152) rfl (by simp only[LP,snapVs,Bh,zs,zm]<;>exact rfl) (by simp only[F152,zv]<;>exact rfl) ?_;rintro d rfl;refine Ad (xo8 (h:=?_));refine Aw (Aa (Af ?_));refine Ai (Ad (xo5 (h:=xo0 (h:=Ac (by simp only[zo];exact numb_run (by omega) _ l (by have:=h.len;omega)) ?_))));apply Ac (by simp only[zo,unD,h.num,Bool.not_true]<;>exact rfl);refine Ag rfl (Kz 0 (b:=false) (by simp only[zv,h.num]<;>rfl) (by simp only[zn]<;>exact rfl) ?_);refine Ap rfl (Ac (by simp only[zo,Ei,zm,h.num]<;>exact rfl) ?_);refine Ap rfl (Ac (by simp only[zl,zm,zd,Au,List.take,List.drop,h.num]<;>exact rfl) ?_);refine Ap rfl (Ac (by simp only[zo,Hw,D7,h.num]<;>exact rfl) ?_);refine Ap rfl (Ac (by simp only[zo,Bf,h.num,big62 h.len]<;>exact rfl) ?_);apply Ac (by simp only[zo,h.num]<;>exact rfl);refine Ag rfl (Kz 0 (b:=false) (by simp only[zv,h.num]<;>rfl) (by simp only[zn]<;>exact rfl) ?_);refine Ap rfl (Ac (by simp only[zo,Ei,zm,h.num]<;>exact rfl) ?_);refine Ap rfl (Ac (by simp only[zl,zm,zd,Au,List.take,List.drop,h.num]<;>exact rfl) ?_);refine Ap rfl (Ac (by simp only[zo,Bf,Int.reduceLT,h.num]<;>exact rfl) ?_);apply Ac (by simp only[zo,h.num]<;>exact rfl);refine Ag rfl (Kz 0 (b:=false) (by simp only[zv,h.num]<;>rfl) (by simp only[zn]<;>exact rfl) ?_);refine Ap rfl (Ac (by simp only[zo,Ei,zm,h.num]<;>exact rfl) ?_);refine Ap rfl (Ac (by simp only[zl,zm,zd,Au,List.take,List.drop,h.num]<;>exact rfl) ?_);refine Ap rfl (Ac (by simp only[zo,Bf,h.num]<;>exact rfl) ?_);apply Ac (by simp only[zo,h.num]<;>exact rfl);refine Aa (Af ?_);refine Dw ?_;refine Ak (Bi rfl (Ai (Ad (xo5 (h:=xo0 (h:=xo5 (h:=xo0 (h:=xo5 (h:=xo0 (h:=Ac (by simp only[zo];exact U7 (by omega) _ neg l (by have:=h.len;omega) (Nat.le_trans (Ou l) h.len)) ?_))))))))));refine Ag rfl (Lh (h:=Jo (h:=Ko (h:=Qx (h:=Ag rfl (Aa ?_))))));refine Af ?_;refine Ad (Ae rfl (xo2 (h:=Ag rfl (En 0 (b:=false) ?_))));refine Ap rfl (xo0 (h:=?_));refine Ap rfl (xo0 (h:=?_));refine Ap rfl (Ac (by simp only[zo,Dl,Hf,isKey,h.sg,h.st,beq_self_eq_true,Bool.and_self,bne_self_eq_false,ba_self2]<;>exact rfl) ?_);refine xo3 (h:=?_);refine Aa (Af ?_);refine Dw ?_;refine Ak (Bi rfl (Ad (Aw (Aa (Af ?_)))));apply A7;refine⟨_,by simp only[F152,resultD,Ba,resD,zg]<;>exact rfl,?_⟩;rfl
theorem n1:((1:Nat):Int)=1:=rfl
theorem m45:(⟨#[45]⟩:ByteArray)=mkS [45]:=rfl
theorem take1{l:List UInt8}{b:UInt8}(h:b∉l):(l.take 1==[b])=false:=by
 cases l with
 | nil=>rfl
 | cons c l =>
  rw[beq_eq_false_iff_ne];intro e;simp only[List.take_succ_cons,List.take_zero,List.cons.injEq,and_true]at e;exact h (by rw[e];exact List.mem_cons_self)
theorem rskip_le(b:UInt8)(l:List UInt8):(O0 b l).length≤l.length:=by
 unfold O0;rw[List.length_reverse];have:=(List.dropWhile_suffix (·==b) (l:=l.reverse)).length_le;rw[List.length_reverse]at this;exact this
theorem repB_one(b:UInt8):∀k,repB (mkS [b]) k=List.replicate k b
 | 0=>rfl
 | k+1=>by rw[repB,repB_one b k];rfl
theorem rep_run{d:Nat}(hd:1≤d)(S:St)(b:UInt8)(k:Nat)(hk:k≤1000):Bd LP NN d 62 [.str (mkS [b]),.int .i64 (k:Nat)] S=some (.str (mkS (List.replicate k b)),S,false):=by
 obtain⟨d,rfl⟩:∃d',d=d'+1:=⟨d-1,by omega⟩
 have h:LP.ext 62 [.str (mkS [b]),.int .i64 (k:Nat)]=some (.str (mkS (List.replicate k b))):=by
  show (if 0≤((k:Nat):Int)∧((k:Nat):Int)≤9223372036854775807∧(mkS [b]).size*((k:Nat):Int).toNat≤140737488355328 then some (D.str ⟨(repB (mkS [b]) ((k:Nat):Int).toNat).toArray⟩) else none)=_;rw[if_pos ⟨by omega,by omega,by rw[D7,Int.toNat_natCast];simp;omega⟩,Int.toNat_natCast,repB_one];rfl
 simp only[Bd,h]
theorem trimZ_run{d:Nat}(hd:2≤d)(S:St){l:List UInt8}(hl:l.length≤1000000):Bd LP NN d 197 [.str (mkS l),.str ⟨#[48]⟩] S=some (.str (mkS (U0 48 (O0 48 l))),S,false):=by
 refine rq (F:=F197) rfl (by simp only[LP,snapVs,zs,zm]<;>exact rfl) (by simp only[F197,zv]<;>exact rfl) ?_;rintro d rfl;refine Ad (Aw (Aa (Af ?_)));refine Ai (Ad (Ae rfl (Ac (by simp only[zo,Bf,Eb,Fg,m48]<;>exact rfl) ?_)));apply Ag rfl;refine G9 0 (by simp only[zv]<;>exact rfl) (by simp only[zn]<;>exact rfl) (by simp only[zn]<;>exact rfl) (fun hg=>?_) (fun hg=>?_)
 ·
  refine Cm rfl rfl (Cm rfl rfl (Ac (by simp only[zo,m48]<;>exact rfl) ?_));refine Aa (Af ?_);apply Ez (by simp only[opd,zv,m48]);refine Ad (Ae rfl (Ag rfl (Aa (Af ?_))));refine A7 (Nu ?_);refine⟨_,by simp only[F197,resultD,Ba,resD,zg]<;>exact rfl,?_⟩;obtain rfl:=(eqNil l).1 hg;rfl
 refine Ap rfl (Ae rfl (Ap rfl (Ac (by simp only[zo,Bf,Eb,Fg,m48]<;>exact rfl) ?_)));apply Ac (by simp only[zo,m48]<;>exact rfl);refine Aa (Af ?_);apply Be (by simp only[opd,zv,m48]<;>rfl);refine Ak (Bi rfl (Ai (Ad (Ae rfl (Ac (by simp only[zo,Hw,D7,m48,List.length_cons,List.length_nil]<;>exact rfl) ?_)))));apply Ac (by simp only[zo,Bf,m48]<;>exact rfl);refine Ag rfl (Kz 0 (b:=true) (by simp only[zv,m48]<;>rfl) (by simp only[zn]<;>exact rfl) ?_);refine Ap rfl (Ae rfl (Ap rfl (Ac (by simp only[zo,Iz,zm,m48,Jw]<;>exact rfl) ?_)));refine Ap rfl (Ac (by simp only[zo,Bf,m48]<;>exact rfl) ?_);apply Ac (by simp only[zo,m48]<;>exact rfl);refine Aa (Af ?_);apply Ez (by simp only[opd,zv,m48]<;>rfl);refine Ai (Eh ?_);refine Bc rfl rfl (Bc rfl rfl (Aj (by simp only[zo,Iz,m48,Jw]<;>exact rfl) rfl rfl ?_));refine Az (by simp only[zo,m48];exact trimRx_run (by omega) _ 48 l hl) rfl ?_;refine Bc rfl rfl (Aj (by simp only[zo,Iz,m48,Jw]<;>exact rfl) rfl rfl ?_);refine Az (by simp only[zo,m48];exact trimLx_run (by omega) _ 48 (O0 48 l) (Nat.le_trans (rskip_le 48 l) hl)) rfl ?_;refine D9 rfl rfl (Ce (Af ?_));refine A7 (Nu ?_);refine⟨_,by simp only[F197,resultD,Ba,resD,zg]<;>exact rfl,?_⟩;rfl
theorem dcut_run{d:Nat}(hd:7≤d)(S:St){neg:Bool}{l:List UInt8}(h:Nrm neg l):Bd LP NN d 154 [.agg [.bool neg,.str (mkS l),.int .i64 0],.int .i64 0] S=some (.tup [.agg [.bool neg,.str (mkS l),.int .i64 0],.bool true,.int .i64 0],S,false):=by
 refine rq (F:=F154) rfl (by simp only[LP,snapVs,Bh,zs,zm]<;>exact rfl) (by simp only[F154,zv]<;>exact rfl) ?_;rintro d rfl;refine Ad (xo8 (h:=Ko (h:=?_)));refine Aw (Aw (Aa (Af ?_)));refine Ai (Ad (xo0 (h:=Ac (by simp only[zo];exact Ip (by omega) _ neg l h) ?_)));refine Ag rfl (Aa (Af ?_));refine Ad (Ae rfl (xo2 (h:=?_)));refine Aa (Af ?_);refine Dw ?_;refine Ak (Bi rfl (Ai (Ad (Ae rfl (xo5 (h:=xo0 (h:=xo2 (h:=?_))))))));refine Aa (Af ?_);refine Ja ?_;refine Ad (xo0 (h:=Qx (h:=?_)));refine Aw (Aw (Aa (Af ?_)));refine A7 (Nu ?_);refine⟨_,by simp only[F154,resultD,Ba,resD,zg,zd,rowsOf,Au,List.take,List.drop,zm]<;>exact rfl,?_⟩;simp only[leaveP,leave,snapVs,Bh,zs,zf,zk]
theorem rchk_run{d:Nat}(hd:7≤d)(S:St){neg:Bool}{l:List UInt8}(h:Nrm neg l)(n:Nat)(h1:1≤n)(h2:n≤62):Bd LP NN d 205 [.agg [.bool neg,.str (mkS l),.int .i64 0],.int .i64 (n:Nat),.int .i64 0] S=some (.int .i64 0,S,false):=by
 have vF:decide (((n:Nat):Int)<1)=false:=decide_eq_false (by omega);have hn2:decide (((n:Nat):Int)>62)=false:=decide_eq_false (by omega);refine rq (F:=F205) rfl (by simp only[LP,snapVs,Bh,zs,zm]<;>exact rfl) (by simp only[F205,zv]<;>exact rfl) ?_;rintro d rfl;refine Ad (xo8 (h:=?_));refine Aw (Aa (Af ?_));refine Ai (Ad (xo0 (h:=Ac (by simp only[zo];exact Ip (by omega) _ neg l h) ?_)));refine xo2 (h:=Ag rfl (En 0 (b:=false) ?_));refine Ap rfl (Ae rfl (Ap rfl (Ac (by simp only[zo,Bf,vF]<;>exact rfl) ?_)));refine xo3 (h:=Ag rfl (En 0 (b:=false) ?_));refine Ap rfl (Ae rfl (Ap rfl (Ac (by simp only[zo,Bf,hn2]<;>exact rfl) ?_)));refine xo3 (h:=Ag rfl (En 0 (b:=false) ?_));refine Ap rfl (Ae rfl (Ap rfl (xo46 (h:=xo3 (h:=Ag rfl (En 0 (b:=false) ?_))))));refine Ap rfl (Ae rfl (Ap rfl (xo2 (h:=xo3 (h:=?_)))));refine Aa (Af ?_);refine Dw ?_;refine Ak (Bi rfl (Ad (Aw (Aa (Af ?_)))));apply A7;refine⟨_,by simp only[F205,resultD,Ba,resD,zg]<;>exact rfl,?_⟩;rfl
theorem round_run{d:Nat}(hd:8≤d)(S:St){neg:Bool}{l:List UInt8}(h:Nrm neg l):Bd LP NN d 153 [.agg [.bool neg,.str (mkS l),.int .i64 0],.int .i64 0,.int .u8 0] S=some (.tup [.agg [.bool neg,.str (mkS l),.int .i64 0],.int .i64 0],S,false):=by
 refine rq (F:=F153) rfl (by simp only[LP,snapVs,Bh,zs,zm]<;>exact rfl) (by simp only[F153,zv]<;>exact rfl) ?_;rintro d rfl;refine Ad (xo8 (h:=Ko (h:=?_)));refine Aw (Aa (Af ?_));refine Ai (Ad (xo0 (h:=Ae rfl (Ac (by simp only[zo];exact rchk_run (by omega) _ h 1 (by omega) (by omega)) ?_))));refine xo2 (h:=Ag rfl (En 0 (b:=false) ?_));refine Ap rfl (Ae rfl (Ap rfl (xo2 (h:=xo3 (h:=?_)))));refine Aa (Af ?_);refine Dw ?_;refine Ak (Bi rfl (Ad (xo0 (h:=Ae rfl (Ac (by simp only[zo];exact dcut_run (by omega) _ h) ?_)))));refine Ag rfl (Lh (h:=Jo (h:=Jo (h:=Ko (h:=Qx (h:=Ag rfl (Ag rfl ?_)))))));refine Aa (Af ?_);refine Ai (Aq (Ad (Ae rfl (xo2 (h:=Ag rfl (En 0 (b:=false) ?_))))));refine Ap rfl (Ae rfl (xo3 (h:=Ag rfl (Aa ?_))));refine Af ?_;refine Ja ?_;refine Ad (xo0 (h:=Ae rfl ?_));refine Qx (h:=Ag rfl (Aa ?_));refine Af ?_;refine A7 (bk_r (Nu ?_));refine⟨_,by simp only[F153,resultD,Ba,resD,zg,zd,rowsOf,Au,List.take,List.drop,zm]<;>exact rfl,?_⟩;simp only[leaveP,leave,snapVs,Bh,zs,zf,zk]
theorem rep0_run{d:Nat}(hd:1≤d)(S:St):Bd LP NN d 62 [.str ⟨#[48]⟩,.int .i64 0] S=some (.str (mkS []),S,false):=rep_run hd S 48 0 (by omega)
theorem repz_run{d:Nat}(hd:1≤d)(S:St)(k:Nat)(hk:k≤1000):Bd LP NN d 62 [.str ⟨#[48]⟩,.int .i64 (k:Nat)] S=some (.str (mkS (List.replicate k 48)),S,false):=rep_run hd S 48 k hk
theorem U5{d:Nat}(hd:8≤d)(S:St){neg:Bool}{l:List UInt8}(h:Nrm neg l)(n:Nat)(h1:1≤n)(h2:n≤62):Bd LP NN d 207 [.agg [.bool neg,.str (mkS l),.int .i64 0],.int .i64 (n:Nat),.int .i64 0] S=some (.tup [.str (mkS (pad n l)),.bool true],S,false):=by
 have zF:=h.len;have hw:IntKind.i64.wrap ((n:Int)-(l.length:Int))=(n:Int)-(l.length:Int):=by rw[IntKind.wrap_i64];omega
 have hm:(if (0:Int)>(n:Int)-(l.length:Int) then (0:Int) else (n:Int)-(l.length:Int))=((n-l.length:Nat):Int):=by split<;>omega
 refine rq (F:=F207) rfl (by simp only[LP,snapVs,Bh,zs,zm]<;>exact rfl) (by simp only[F207,zv]<;>exact rfl) ?_;rintro d rfl;refine Ad (xo8 (h:=?_));refine Aw (Aw (Aa (Af ?_)));refine Ai (Ad (xo0 (h:=Ae rfl (Ac (by simp only[zo];exact dcut_run (by omega) _ h) ?_))));refine Ag rfl (Lh (h:=Jo (h:=Jo (h:=Ko (h:=Ac (by simp only[zl,zm,Bg,overlay,Bh,zs,zc,zf,List.take,List.drop,List.append_nil]<;>exact rfl) ?_)))));refine Ag rfl (Ag rfl (Aa (Af ?_)));refine Ad (Ae rfl (Zo (h:=?_)));refine Aa (Af ?_);refine Dw ?_;refine Ak (Bi rfl (Ad (xo5 (h:=xo0 (h:=Ag rfl (Aa ?_))))));refine Af ?_;refine Ai (Ad (Ae rfl (xo5 (h:=xo0 (h:=xo2 (h:=Ag rfl (Aa ?_)))))));refine Af ?_;refine Ad (Ae rfl (xo2 (h:=?_)));refine Aa (Af ?_);refine Ja ?_;refine Am (Ae rfl (Ae rfl (Ac (by simp only[zo];exact rep0_run (by omega) _) ?_)));apply Ac (by simp only[zo,Bf,Og,D7,List.append_nil];rw[if_neg (by rw[show IntKind.i64.max=9223372036854775807 from rfl];simp only[List.length_nil];have:=h.len;omega)];exact rfl);refine Ag rfl (Aa (Af ?_));refine Ad (Ae rfl (Ae rfl (Qy (h:=Ac (by simp only[zo,Bf,hw]<;>exact rfl) ?_))));apply Ac (by simp only[zo,Jm,U9,hm]<;>exact rfl);apply Ac (by simp only[zo];exact repz_run (by omega) _ (n-l.length) (by omega));refine Ae rfl (Ac (by simp only[zo,Bf,Og,D7];rw[if_neg (by rw[show IntKind.i64.max=9223372036854775807 from rfl];simp only[List.length_replicate];have:=h.len;omega)];exact rfl) ?_);refine Ag rfl (Aw (Aa (Af ?_)));apply A7;refine⟨_,by simp only[F207,resultD,Ba,resD,zg]<;>exact rfl,?_⟩;rfl
theorem Wl(n:Nat)(l:List UInt8):(pad n l).length=n-l.length+l.length:=by simp[pad]
theorem fits_pl{neg:Bool}{l:List UInt8}(h:Nrm neg l){n:Nat}(h1:1≤n):(U0 48 (O0 48 ((pad n l).take ((pad n l).length-n)))==[])=decide (l.length≤n):=by
 by_cases hl:l.length≤n
 ·
  rw[show (pad n l).length-n=0 by rw[Wl];omega,List.take_zero,decide_eq_true hl];rfl
 rw[decide_eq_false hl,beq_eq_false_iff_ne];intro e;have h2:pad n l=l:=by rw[pad,show n-l.length=0 by omega];rfl
 rw[h2]at e;have hs:=h.st
 have h0:Du l=l:=by
  unfold strip at hs;split at hs
  ·
   rw[←hs]at hl;simp at hl;omega
  exact hs
 match l,hl with
 | [],hl=>exact hl (Nat.zero_le _)
 | c :: l, hl =>
  have hc:¬(c==48)=true:=by
   intro hc;have h3:=Ou l;have h4:Du (c::l)=Du l:=by rw[Du,Du,List.dropWhile_cons,if_pos hc]
   rw[h4]at h0;have:=congrArg List.length h0;simp at this;omega
  obtain⟨k,hk⟩:∃k,(c::l).length-n=k+1:=⟨(c::l).length-n-1,by omega⟩;rw[hk,List.take_succ_cons]at e
  have hr:∃m,O0 48 (c::l.take k)=c::m:=by
   generalize l.take k=t;unfold O0;rw[List.reverse_cons]
   have:∀(r:List UInt8),∃m,((r++[c]).dropWhile (·==(48:UInt8))).reverse=c::m:=by
    intro r
    induction r with
    | nil=>exact⟨[],by rw[List.nil_append,List.dropWhile_cons,if_neg hc];rfl⟩
    | cons a r ih =>
     rw[List.cons_append,List.dropWhile_cons];split
     ·
      exact ih
     exact⟨r.reverse++[a],by simp⟩
   exact this _
  obtain⟨m,hm⟩:=hr;rw[hm,U0,List.dropWhile_cons,if_neg hc]at e;cases e
theorem rfits_run{d:Nat}(hd:9≤d)(S:St){neg:Bool}{l:List UInt8}(h:Nrm neg l)(n:Nat)(h1:1≤n)(h2:n≤62):Bd LP NN d 155 [.agg [.bool neg,.str (mkS l),.int .i64 0],.int .i64 (n:Nat),.int .i64 0] S=some (.tup [.bool (decide (l.length≤n)),.int .i64 0],S,false):=by
 have vF:decide (((n:Nat):Int)<1)=false:=decide_eq_false (by omega);have hn2:decide (((n:Nat):Int)>62)=false:=decide_eq_false (by omega);have zF:=h.len;have rE:=Wl n l;have hw:IntKind.i64.wrap (((pad n l).length:Nat)-((n:Nat):Int))=(((pad n l).length-n:Nat):Int):=by rw[IntKind.wrap_i64];omega
 refine rq (F:=F155) rfl (by simp only[LP,snapVs,Bh,zs,zm]<;>exact rfl) (by simp only[F155,zv]<;>exact rfl) ?_;rintro d rfl;refine Ad (xo8 (h:=?_));refine Aw (Aw (Aa (Af ?_)));refine Ai (Ad (xo0 (h:=Ae rfl (Ae rfl ?_))));apply Ac (by simp only[zo];exact rchk_run (by omega) _ h n h1 h2);refine Ag rfl (Aa (Af ?_));refine Ad (Ae rfl (xo2 (h:=?_)));refine Aa (Af ?_);refine Dw ?_;refine Ak (Bi rfl (Ad (xo0 (h:=Ae rfl (Ae rfl ?_)))));apply Ac (by simp only[zo];exact U5 (by omega) _ h n h1 h2);refine Ag rfl (Lh (h:=Jo (h:=Ag rfl (Ag rfl ?_))));refine Aa (Af ?_);refine Ad (Ae rfl (Ag rfl (En 0 (b:=true) ?_)));refine Ap rfl (Ae rfl (Ap rfl (Ae rfl (Ap rfl (Qy (h:=?_))))));refine Ap rfl (Ae rfl (Ap rfl (Ac (by simp only[zo,Bf,hw]<;>exact rfl) ?_)));refine Ap rfl (Ac (by simp only[opd,zv,Ar,aop,LOp.loud,Bool.false_eq_true,if_false];rw[str_to _ (pad n l) ((pad n l).length-n) _ rfl (by omega)];exact rfl) ?_);refine Ap rfl (Ac (by simp only[zo];exact trimZ_run (by omega) _ (by rw[List.length_take];omega)) ?_);refine Ap rfl (Ac (by simp only[zo,Bf,Eb,Fg,fits_pl h h1]<;>exact rfl) ?_);refine xo3 (h:=Ag rfl (Aw ?_));refine Aa (Af ?_);apply A7;refine⟨_,by simp only[F155,resultD,Ba,resD,zg]<;>exact rfl,?_⟩;rfl
def Wu (n:Nat) (l:List UInt8):List UInt8:=(pad n l).drop ((pad n l).length-n)
theorem lastN_len(n:Nat)(l:List UInt8):(Wu n l).length=n:=by
 have:=Wl n l;rw[Wu,List.length_drop];omega
theorem lastN_num{neg:Bool}{l:List UInt8}(h:Nrm neg l){n:Nat}(h1:1≤n):J8 (Wu n l)=true:=by
 have h2:=h.num;simp only[J8,Bool.and_eq_true,Bool.not_eq_true',beq_eq_false_iff_ne,ne_eq]at h2 ⊢;refine⟨fun e=>?_,?_⟩
 ·
  have:=lastN_len n l;rw[e]at this;simp at this;omega
 rw[List.all_eq_true]at h2 ⊢;intro c hc;rcases List.mem_append.1 (List.mem_of_mem_drop hc) with hc | hc
 ·
  rw[(List.mem_replicate.1 hc).2];rfl
 exact h2.2 c hc
theorem low_run{d:Nat}(hd:9≤d)(S:St){neg:Bool}{l:List UInt8}(h:Nrm neg l)(n:Nat)(h1:1≤n)(h2:n≤62):Bd LP NN d 156 [.agg [.bool neg,.str (mkS l),.int .i64 0],.int .i64 (n:Nat),.int .i64 0] S=some (.tup [.agg [.bool (neg&&nz (Wu n l)),.str (mkS (strip (Wu n l))),.int .i64 0],.int .i64 0],S,false):=by
 have vF:decide (((n:Nat):Int)<1)=false:=decide_eq_false (by omega);have hn2:decide (((n:Nat):Int)>62)=false:=decide_eq_false (by omega);have zF:=h.len;have rE:=Wl n l;have hw:IntKind.i64.wrap (((pad n l).length:Nat)-((n:Nat):Int))=(((pad n l).length-n:Nat):Int):=by rw[IntKind.wrap_i64];omega
 refine rq (F:=F156) rfl (by simp only[LP,snapVs,Bh,zs,zm]<;>exact rfl) (by simp only[F156,zv]<;>exact rfl) ?_;rintro d rfl;refine Ad (xo8 (h:=Ko (h:=?_)));refine Aw (Aa (Af ?_));refine Ai (Ad (xo0 (h:=Ae rfl (Ae rfl ?_))));apply Ac (by simp only[zo];exact rchk_run (by omega) _ h n h1 h2);refine Ag rfl (Aa (Af ?_));refine Ad (Ae rfl (xo2 (h:=?_)));refine Aa (Af ?_);refine Dw ?_;refine Ak (Bi rfl (Ad (xo0 (h:=Ae rfl (Ae rfl ?_)))));apply Ac (by simp only[zo];exact U5 (by omega) _ h n h1 h2);refine Ag rfl (Lh (h:=Jo (h:=Ag rfl (Ag rfl ?_))));refine Aa (Af ?_);refine Ai (Ad (Ae rfl (Zo (h:=?_))));refine Aa (Af ?_);refine Dw ?_;refine Ak (Bi rfl (Ai (Fb (by simp only[newsVals,zw,Nat.reduceAdd]<;>exact rfl) (by simp only[zw]<;>exact rfl) ?_)));refine xo27 (h:=xo7 (h:=Bc rfl rfl (Bc rfl rfl ?_)));apply Aj (by simp only[zo,Hw,D7]<;>exact rfl) rfl rfl;refine Bc rfl rfl (Aj (by simp only[zo,Bf,hw]<;>exact rfl) rfl rfl ?_);apply Aj (by simp only[opd,zv,Ar,aop,LOp.loud,Bool.false_eq_true,if_false];rw[V4 _ (pad n l) ((pad n l).length-n) _ rfl (by omega)];exact rfl) rfl rfl;refine Bc rfl rfl (Az (by simp only[zo];exact decNew_run (by omega) _ neg (Wu n l) (by rw[lastN_len];exact h2) (lastN_num h h1)) rfl ?_);refine xo42 (h:=xo37 (h:=xo66 (h:=D9 rfl rfl (Ce ?_))));refine Af ?_;apply A7;refine⟨_,by simp only[F156,resultD,Ba,resD,zg,zd,rowsOf,Au,List.take,List.drop,zm]<;>exact rfl,?_⟩;simp only[leaveP,leave,snapVs,Bh,zs,zf,zk]
theorem rdig_run{d:Nat}(hd:10≤d)(S:St){neg:Bool}{l:List UInt8}(h:Nrm neg l)(n:Nat)(h1:1≤n)(h2:n≤62)(hf:l.length≤n):Bd LP NN d 202 [.agg [.bool neg,.str (mkS l),.int .i64 0],.int .i64 (n:Nat),.int .i64 0] S=some (.tup [.str (mkS (pad n l)),.int .i64 0],S,false):=by
 have vF:decide (((n:Nat):Int)<1)=false:=decide_eq_false (by omega);have hn2:decide (((n:Nat):Int)>62)=false:=decide_eq_false (by omega);have zF:=h.len;have rE:=Wl n l;have hw:IntKind.i64.wrap (((pad n l).length:Nat)-((n:Nat):Int))=(((pad n l).length-n:Nat):Int):=by rw[IntKind.wrap_i64];omega
 refine rq (F:=F202) rfl (by simp only[LP,snapVs,Bh,zs,zm]<;>exact rfl) (by simp only[F202,zv]<;>exact rfl) ?_;rintro d rfl;refine Ad (xo8 (h:=?_));refine Aw (Aw (Aa (Af ?_)));refine Ad (xo0 (h:=Ae rfl (Ae rfl ?_)));apply Ac (by simp only[zo];exact rfits_run (by omega) _ h n h1 h2);refine Ag rfl (Ac (by simp only[zo,Lz,decide_eq_true hf]<;>exact rfl) ?_);apply Ac (by simp only[zo,Lz,Ls_,decide_eq_true hf]<;>exact rfl);refine Ag rfl (Ag rfl (Aa (Af ?_)));refine Ai (Aq (Ad (Ae rfl (xo2 (h:=Ag rfl (Aa ?_))))));refine Af ?_;refine Dw ?_;refine Ad (Ae rfl (Zo (h:=Ag rfl (Aa ?_))));refine Af ?_;refine Dw ?_;refine Ak (D8 (Bi rfl (Ad (xo0 (h:=Ae rfl (Ae rfl ?_))))));apply Ac (by simp only[zo];exact U5 (by omega) _ h n h1 h2);refine Ag rfl (Lh (h:=Jo (h:=Ag rfl (Ag rfl ?_))));refine Aa (Af ?_);refine Ad (Ae rfl (Ae rfl (Qy (h:=Ae rfl (Ac (by simp only[zo,Bf,hw]<;>exact rfl) ?_)))));apply Ac (by simp only[opd,zv,Ar,aop,LOp.loud,Bool.false_eq_true,if_false];rw[V4 _ (pad n l) ((pad n l).length-n) _ rfl (by omega)];exact rfl);refine Ag rfl (Aw (Aa (Af ?_)));apply A7;refine⟨_,by simp only[F202,resultD,Ba,resD,zg]<;>exact rfl,?_⟩;rw[show (pad n l).length-n=0 by omega];rfl
structure RM where
 a:Nat
 b:Nat
 n:Nat
 e:Nat
 h:a<256∧b<256∧n<65536∧e<256
def RM.row (y:RM):List D:=[.int .u8 (y.a:Nat),.int .u8 (y.b:Nat),.int .u16 (y.n:Nat),.int .u8 (y.e:Nat)]
def RM.A (y:RM):UInt8:=UInt8.ofNat (97+y.a % 3)
def RM.B (y:RM):UInt8:=UInt8.ofNat (120+y.b % 3)
def RM.N (y:RM):Nat:=y.n % 1000
def RM.det (y:RM):Int:=if y.e % 3=2 then -1 else ((y.e % 3:Nat):Int)
structure CM where
 co:Nat
 gr:Nat
 bl:Nat
 np:Nat
 p0:Nat
 p1:Nat
 p2:Nat
 h:co<256∧gr<65536∧bl<256∧np<256∧p0<256∧p1<256∧p2<256
def CM.row (x:CM):List D:=[.int .u8 (x.co:Nat),.int .u16 (x.gr:Nat),.int .u8 (x.bl:Nat),.int .u8 (x.np:Nat),.int .u8 (x.p0:Nat),.int .u8 (x.p1:Nat),.int .u8 (x.p2:Nat)]
def CM.ctl (x:CM):Nat:=x.co % 3
def CM.paged (x:CM):Bool:=(x.p0 % 2:Nat)==1
def CM.first (x:CM):Nat:=3+x.p1 % 3
def CM.last (x:CM):Nat:=x.first+3+x.p2 % 4
def CM.has (x:CM) (k:Nat):Bool:=(x.gr / 2 ^ k) % 2==1
section
variable (d:Nat) (S:St) (a b n e p q r:Int)
theorem ra_tab:(List.range 256).map (fun k=>E5 LP NN (d+2) 49 [.agg [.int .u8 ((k:Nat):Int),.int .u8 b,.int .u16 n,.int .u8 e]] S)=(List.range 256).map (fun k=>some (.str (mkS [UInt8.ofNat (97+k % 3)]),S,false)):=by kernel_rfl
theorem rb_tab:(List.range 256).map (fun k=>E5 LP NN (d+2) 50 [.agg [.int .u8 a,.int .u8 ((k:Nat):Int),.int .u16 n,.int .u8 e]] S)=(List.range 256).map (fun k=>some (.str (mkS [UInt8.ofNat (120+k % 3)]),S,false)):=by kernel_rfl
theorem rdet_tab:(List.range 256).map (fun k=>E5 LP NN (d+2) 13 [.agg [.int .u8 a,.int .u8 b,.int .u16 n,.int .u8 ((k:Nat):Int)]] S)=(List.range 256).map (fun k=>some (.int .i64 (if k % 3=2 then -1 else ((k % 3:Nat):Int)),S,false)):=by kernel_rfl
theorem cctl_tab:(List.range 256).map (fun k=>E5 LP NN (d+2) 22 [.agg [.int .u8 ((k:Nat):Int),.int .u16 n,.int .u8 b,.int .u8 e,.int .u8 p,.int .u8 q,.int .u8 r]] S)=(List.range 256).map (fun k=>some (.int .i64 ((k % 3:Nat):Int),S,false)):=by kernel_rfl
theorem cpag_tab:(List.range 256).map (fun k=>E5 LP NN (d+2) 32 [.agg [.int .u8 a,.int .u16 n,.int .u8 b,.int .u8 e,.int .u8 ((k:Nat):Int),.int .u8 q,.int .u8 r]] S)=(List.range 256).map (fun k=>some (.bool ((k % 2:Nat)==1),S,false)):=by kernel_rfl
theorem cfst_tab:(List.range 256).map (fun k=>E5 LP NN (d+2) 20 [.agg [.int .u8 a,.int .u16 n,.int .u8 b,.int .u8 e,.int .u8 p,.int .u8 ((k:Nat):Int),.int .u8 r]] S)=(List.range 256).map (fun k=>some (.int .i64 ((3+k % 3:Nat):Int),S,false)):=by kernel_rfl
end
section
variable {d:Nat} (hd:2≤d) (S:St)
include hd
theorem U4(y:RM):Bd LP NN d 49 [.agg y.row] S=some (.str (mkS [y.A]),S,false):=by
 obtain⟨d,rfl⟩:∃d',d=d'+2:=⟨d-2,by omega⟩;exact fast_ok (Kr (ra_tab d S _ _ _) y.a y.h.1)
theorem Qa(y:RM):Bd LP NN d 50 [.agg y.row] S=some (.str (mkS [y.B]),S,false):=by
 obtain⟨d,rfl⟩:∃d',d=d'+2:=⟨d-2,by omega⟩;exact fast_ok (Kr (rb_tab d S _ _ _) y.b y.h.2.1)
theorem rdet_run(y:RM):Bd LP NN d 13 [.agg y.row] S=some (.int .i64 y.det,S,false):=by
 obtain⟨d,rfl⟩:∃d',d=d'+2:=⟨d-2,by omega⟩;exact fast_ok (Kr (rdet_tab d S _ _ _) y.e y.h.2.2.2)
theorem L8(x:CM):Bd LP NN d 22 [.agg x.row] S=some (.int .i64 (x.ctl:Nat),S,false):=by
 obtain⟨d,rfl⟩:∃d',d=d'+2:=⟨d-2,by omega⟩;exact fast_ok (Kr (cctl_tab d S _ _ _ _ _ _) x.co x.h.1)
theorem L6(x:CM):Bd LP NN d 32 [.agg x.row] S=some (.bool x.paged,S,false):=by
 obtain⟨d,rfl⟩:∃d',d=d'+2:=⟨d-2,by omega⟩;exact fast_ok (Kr (cpag_tab d S _ _ _ _ _ _) x.p0 x.h.2.2.2.2.1)
theorem Tf(x:CM):Bd LP NN d 20 [.agg x.row] S=some (.int .i64 (x.first:Nat),S,false):=by
 obtain⟨d,rfl⟩:∃d',d=d'+2:=⟨d-2,by omega⟩;exact fast_ok (Kr (cfst_tab d S _ _ _ _ _ _) x.p1 x.h.2.2.2.2.2.1)
end
theorem rn_run{d:Nat}(hd:1≤d)(S:St)(y:RM):Bd LP NN d 24 [.agg y.row] S=some (.int .i64 (y.N:Nat),S,false):=by
 have hm:((y.n:Nat):Int).tmod 1000=((y.N:Nat):Int):=Vz y.n 1000;have h1000:((1000:Int)=0)=False:=by simp
 have hw:IntKind.i64.wrap ((y.N:Nat):Int)=((y.N:Nat):Int):=by rw[IntKind.wrap_i64];have:y.N<1000:=Nat.mod_lt _ (by decide);omega
 refine rq (F:=F24) rfl (by simp only[LP,snapVs,Bh,zs,zm,RM.row]<;>exact rfl) (by simp only[F24,zv]<;>exact rfl) ?_;rintro d rfl;refine Ad (xo8 (h:=?_));refine Aw (Aa (Af ?_));refine Ad (xo5 (h:=xo0 (h:=Ac (by simp only[zo,Bf,zb,hm,h1000]<;>exact rfl) ?_)));apply Ac (by simp only[zo,hw]<;>exact rfl);refine Ag rfl (Aa (Af ?_));apply A7;refine⟨_,by simp only[F24,resultD,Ba,resD,zg]<;>exact rfl,?_⟩;rfl
theorem binD_shr(g k:Nat)(hk:k≤15):Bf .shr (.int .u16 (g:Nat)) (.int .i64 (k:Nat))=some (.int .u16 ((g / 2 ^ k:Nat):Int)):=by
 simp only[Bf];rw[if_neg (by omega),Int.toNat_natCast,show min k IntKind.u16.bits=k from Nat.min_eq_left (by show k≤16;omega)]
 have h:((g:Nat):Int).fdiv (2 ^ k)=((g / 2 ^ k:Nat):Int):=by
  rw[show ((2:Int) ^ k)=((2 ^ k:Nat):Int) by simp];exact Int.ofNat_fdiv g (2 ^ k) |>.symm
 rw[h]
theorem binD_and1(m:Nat)(hm:m<65536):Bf .and (.int .u16 (m:Nat)) (.int .u16 1)=some (.int .u16 ((m % 2:Nat):Int)):=by
 have h:(BitVec.ofInt 16 (m:Int) &&& BitVec.ofInt 16 1).toNat=m % 2:=by
  rw[BitVec.toNat_and,show (BitVec.ofInt 16 (m:Int)).toNat=m by simp[];omega,show (BitVec.ofInt 16 1).toNat=1 from rfl,Nat.and_one_is_mod]
 simp only[Bf,if_true];rw[show IntKind.u16.bits=16 from rfl,h,show IntKind.u16.wrap ((m % 2:Nat):Int)=((m % 2:Nat):Int) from ?_];have:m % 2<2:=Nat.mod_lt _ (by decide);rcases (by omega:m % 2=0∨m % 2=1) with h | h<;>rw[h]<;>rfl
theorem gr_lt(x:CM)(k:Nat):x.gr / 2 ^ k<65536:=Nat.lt_of_le_of_lt (Nat.div_le_self _ _) x.h.2.1
theorem has_eq(x:CM)(k:Nat):((((x.gr / 2 ^ k % 2:Nat):Int))==1)=x.has k:=by
 unfold CM.has;rw[Bool.eq_iff_iff,beq_iff_eq,beq_iff_eq];omega
theorem Jb{d:Nat}(hd:1≤d)(S:St)(x:CM)(k:Nat)(hk:k≤15):Bd LP NN d 34 [.agg x.row,.int .i64 (k:Nat)] S=some (.bool (x.has k),S,false):=by
 refine rq (F:=F34) rfl (by simp only[LP,snapVs,Bh,zs,zm,CM.row]<;>exact rfl) (by simp only[F34,zv]<;>exact rfl) ?_;rintro d rfl;refine Ad (xo8 (h:=?_));refine Aw (Aa (Af ?_));refine Ad (xo5 (h:=xo0 (h:=Ae rfl (Ac (by simp only[opd,zv,Ar,aop,LOp.loud,pop,Bool.false_eq_true,if_false];rw[binD_shr _ _ hk];exact rfl) ?_))));apply Ac (by simp only[opd,zv,Ar,aop,LOp.loud,pop,Bool.false_eq_true,if_false];rw[binD_and1 _ (gr_lt x k)];exact rfl);apply Ac (by simp only[zo,Bf,has_eq]<;>exact rfl);refine Ag rfl (Aa (Af ?_));apply A7;refine⟨_,by simp only[F34,resultD,Ba,resD,zg]<;>exact rfl,?_⟩;rfl
theorem Um{d:Nat}(hd:3≤d)(S:St)(x:CM):Bd LP NN d 19 [.agg x.row] S=some (.int .i64 (x.last:Nat),S,false):=by
 have hm:((x.p2:Nat):Int).tmod 4=((x.p2 % 4:Nat):Int):=Vz x.p2 4;have hw3:IntKind.i64.wrap ((x.p2 % 4:Nat):Int)=((x.p2 % 4:Nat):Int):=by rw[IntKind.wrap_i64];omega
 have h4:((4:Int)=0)=False:=by simp
 have hf:x.first≤5:=by unfold CM.first;omega
 have zT:IntKind.i64.wrap (((x.first:Nat):Int)+3)=((x.first+3:Nat):Int):=by rw[IntKind.wrap_i64];omega
 have uG:IntKind.i64.wrap (((x.first+3:Nat):Int)+((x.p2 % 4:Nat):Int))=((x.last:Nat):Int):=by rw[IntKind.wrap_i64];unfold CM.last;omega
 refine rq (F:=F19) rfl (by simp only[LP,snapVs,Bh,zs,zm,CM.row]<;>exact rfl) (by simp only[F19,zv]<;>exact rfl) ?_;rintro d rfl;have xq:=aI hm (aI zT (aI uG (aI hw3 (h4))));refine Ad (xo8 (h:=?_));refine Aw (Aa (Af ?_));refine Ai (Eh ?_);refine xo7 (h:=Az (by simp only[zo];exact Tf (by omega) _ x) rfl ?_);apply Aj (by simp only[zo,Bf,xq]<;>exact rfl) rfl rfl;refine xo27 (h:=Aj (by simp only[zo,Tt]<;>exact rfl) rfl rfl ?_);refine Az (by simp only[zl,zm,zd,Au]<;>exact rfl) rfl ?_;apply Aj (by simp only[zo,Bf,zb,Int.reduceToNat,xq]<;>exact rfl) rfl rfl;apply Aj (by simp only[zo,xq]<;>exact rfl) rfl rfl;apply Aj (by simp only[zo,Bf,Int.reduceToNat,xq]<;>exact rfl) rfl rfl;refine D9 rfl rfl (Ce (Af ?_));apply A7;refine⟨_,by simp only[F19,resultD,Ba,resD,zg]<;>exact rfl,?_⟩;rfl
def Bl (n:Nat):Nat→List UInt8
 | 0=>[]
 | k+1=>UInt8.ofNat (48+n / 10 ^ k % 10)::Bl n k
theorem Bz(n:Nat):∀k,(Bl n k).length=k
 | 0=>rfl
 | k+1=>by rw[Bl,List.length_cons,Bz n k]
def DG:List UInt8:=[48,49,50,51,52,53,54,55,56,57]
theorem dg_at:∀k,k<10→(DG.drop k).take (k+1-k)=[UInt8.ofNat (48+k)]:=by decide
theorem mDG:(⟨#[48,49,50,51,52,53,54,55,56,57]⟩:ByteArray)=mkS DG:=rfl
theorem I8{d:Nat}(hd:1≤d)(S:St)(m k:Nat)(hm:m≤1000000000000)(hk:k≤100):Bd LP NN d 18 [.int .i64 (m:Nat),.int .i64 (k:Nat)] S=some (.str (mkS (Bl m k)),S,false):=by
 refine rq (F:=F18) rfl (by simp only[LP,snapVs,zs,zm]<;>exact rfl) (by simp only[F18,zv]<;>exact rfl) ?_;rintro d rfl;refine Ad (Aw (Aa (Af ?_)));refine Ad (Aw (Aa (Af ?_)));refine Ai (Ad (Aw (Aa (Af ?_))));refine Aq (D5 (fun n env S'=>∃(i:Nat) (u5:D),i≤k∧n=k-i∧S'=⟨[],0⟩∧env=[.int .i64 (m / 10 ^ i:Nat),.int .i64 (k:Nat),.str ⟨#[]⟩,.str (mkS (Bl m i)),.int .i64 (i:Nat),u5]) (k) (by omega) (⟨0,_,by omega,by omega,rfl,by rw[Nat.pow_zero,Nat.div_one];exact rfl⟩) ?_);rintro n env S' ⟨i,u5,hi,hnk,rfl,rfl⟩;refine Ai (Ad (Ae rfl (Ae rfl (xo2 (h:=?_)))));refine Aa (Af ?_);refine Bj (by simp only[opd,zv]<;>exact rfl) (fun xZ=>?_) (fun xZ=>?_)
 ·
  have xO:i<k:=by have:=of_decide_eq_true xZ;omega
  have yH:=Dt i (by omega);have hq:m / 10 ^ i≤m:=Nat.div_le_self _ _;have hm:((m / 10 ^ i:Nat):Int).tmod 10=((m / 10 ^ i % 10:Nat):Int):=Vz _ 10;have h10:m / 10 ^ i % 10<10:=Nat.mod_lt _ (by decide)
  have hd10:IntKind.i64.wrap (((m / 10 ^ i:Nat):Int).tdiv 10)=((m / 10 ^ i / 10:Nat):Int):=by
   rw[show ((m / 10 ^ i:Nat):Int).tdiv 10=((m / 10 ^ i / 10:Nat):Int) from (Int.ofNat_tdiv (m / 10 ^ i) 10).symm,IntKind.wrap_i64];have:=Nat.div_le_self (m / 10 ^ i) 10;omega
  have zT:IntKind.i64.wrap (((m / 10 ^ i % 10:Nat):Int)+1)=((m / 10 ^ i % 10+1:Nat):Int):=Dt _ (by omega);have hfl:=Bz m i;have xI:=aI yH (aI hm (aI hd10 (zT)));refine Ak (Bi rfl (Ai (Aq (Ad (Ae rfl (Ac (by simp only[zo,Bf,zb,Int.reduceEq,xI]<;>exact rfl) ?_))))));refine Ae rfl (Ac (by simp only[zo,Bf,zb,Int.reduceEq,xI]<;>exact rfl) ?_);apply Ac (by simp only[zo,Bf];first | (rw[if_neg (by rw[show IntKind.i64.max=9223372036854775807 from rfl];simp only[Ll_,List.length_singleton];omega)];exact rfl) | (simp only[zT]<;>exact rfl));apply Ac (by simp only[opd,zv,Ar,aop,LOp.loud,Bool.false_eq_true,if_false,mDG];rw[str_mid _ DG (m / 10 ^ i % 10) (m / 10 ^ i % 10+1) _ _ rfl rfl (by omega) (show m / 10 ^ i % 10+1≤10 by omega),dg_at _ h10];exact rfl);refine Ae rfl (Ac (by simp only[zo,Bf,Og,D7];first | (rw[if_neg (by rw[show IntKind.i64.max=9223372036854775807 from rfl];simp only[List.length_singleton];omega)];exact rfl) | (simp only[zT,yH]<;>exact rfl)) ?_);refine Ag rfl (Aa (Af ?_));refine Am (Ae rfl (Ac (by simp only[zo,Bf,zb,Int.reduceEq,xI]<;>exact rfl) ?_));refine Ag rfl (Aa (D8 (Af ?_)));refine Am (Ae rfl (Ac (by simp only[zo,Bf];first | (rw[if_neg (by rw[show IntKind.i64.max=9223372036854775807 from rfl];simp only[Ll_,List.length_singleton];omega)];exact rfl) | (simp only[yH]<;>exact rfl)) ?_));refine Ag rfl (Aa (Gh (by simp only[ze]<;>exact rfl) ?_));exact⟨k-(i+1),by omega,i+1,_,by omega,rfl,rfl,by rw[Nat.pow_succ,←Nat.div_div_eq_div_mul]<;>exact rfl⟩
 have hi':k=i:=by have:=of_decide_eq_false xZ;omega
 subst hi';refine Dh (Gj (Hu (Gl (Bi rfl (Ad (Ae rfl (Ag rfl (Aa (Af ?_)))))))));apply A7;refine⟨_,by simp only[F18,resultD,Ba,resD,zg]<;>exact rfl,?_⟩;rfl
def shT (n:Nat):List D:=[.int .u8 2,.int .u8 0,.str (mkS (List.replicate n 88)),.int .i64 0,.int .i64 0,.bool false,.bool false,.bool false,.bool false,.bool false,.int .i64 (n:Nat)]
def shN (n:Nat):List D:=[.int .u8 4,.int .u8 0,.str (mkS (List.replicate n 57)),.int .i64 (n:Nat),.int .i64 0,.bool false,.bool false,.bool false,.bool false,.bool false,.int .i64 (n:Nat)]
section
variable (d:Nat) (S:St)
theorem shT_tab:(List.range 6).map (fun k=>E5 LP NN (d+16) 29 [.int .i64 ((k+1:Nat):Int)] S)=(List.range 6).map (fun k=>some (.agg (shT (k+1)),S,false)):=by kernel_rfl
theorem shN_tab:(List.range 6).map (fun k=>E5 LP NN (d+16) 27 [.int .i64 ((k+1:Nat):Int)] S)=(List.range 6).map (fun k=>some (.agg (shN (k+1)),S,false)):=by kernel_rfl
theorem ckT_tab:(List.range 6).map (fun k=>E5 LP NN (d+16) 98 [.agg (shT (k+1))] S)=(List.range 6).map (fun _=>some (.int .i64 0,S,false)):=by kernel_rfl
theorem ckN_tab:(List.range 6).map (fun k=>E5 LP NN (d+16) 98 [.agg (shN (k+1))] S)=(List.range 6).map (fun _=>some (.int .i64 0,S,false)):=by kernel_rfl
end
theorem G5{d:Nat}(hd:16≤d)(S:St){n:Nat}(h1:1≤n)(h6:n≤6):Bd LP NN d 29 [.int .i64 (n:Nat)] S=some (.agg (shT n),S,false):=by
 obtain⟨d,rfl⟩:∃d',d=d'+16:=⟨d-16,by omega⟩;obtain⟨k,rfl⟩:∃k,n=k+1:=⟨n-1,by omega⟩;exact fast_ok (Kr (shT_tab d S) k (by omega))
theorem Ju{d:Nat}(hd:16≤d)(S:St){n:Nat}(h1:1≤n)(h6:n≤6):Bd LP NN d 27 [.int .i64 (n:Nat)] S=some (.agg (shN n),S,false):=by
 obtain⟨d,rfl⟩:∃d',d=d'+16:=⟨d-16,by omega⟩;obtain⟨k,rfl⟩:∃k,n=k+1:=⟨n-1,by omega⟩;exact fast_ok (Kr (shN_tab d S) k (by omega))
theorem ckT_run{d:Nat}(hd:16≤d)(S:St){n:Nat}(h1:1≤n)(h6:n≤6):Bd LP NN d 98 [.agg (shT n)] S=some (.int .i64 0,S,false):=by
 obtain⟨d,rfl⟩:∃d',d=d'+16:=⟨d-16,by omega⟩;obtain⟨k,rfl⟩:∃k,n=k+1:=⟨n-1,by omega⟩;exact fast_ok (Kr (ckT_tab d S) k (by omega))
theorem Z7{d:Nat}(hd:16≤d)(S:St){n:Nat}(h1:1≤n)(h6:n≤6):Bd LP NN d 98 [.agg (shN n)] S=some (.int .i64 0,S,false):=by
 obtain⟨d,rfl⟩:∃d',d=d'+16:=⟨d-16,by omega⟩;obtain⟨k,rfl⟩:∃k,n=k+1:=⟨n-1,by omega⟩;exact fast_ok (Kr (ckN_tab d S) k (by omega))
def RM.fld (y:RM):List (List D):=[shT 1++[.sl 1 (bR [y.A]) none],shT 1++[.sl 1 (bR [y.B]) none],shN 3++[.sl 1 (bR (Bl y.N 3)) none]]
theorem Fz(l:List UInt8):Ea (mkS l)=bR l:=by simp[Ea,mkS,bR]
theorem RM.N_lt(y:RM):y.N<1000:=Nat.mod_lt _ (by decide)
theorem rof_run{d:Nat}(hd:17≤d)(S:St)(y:RM):Bd LP NN d 14 [.agg y.row] S=some (.sl 12 y.fld (some 3),S,false):=by
 refine rq (F:=F14) rfl (by simp only[LP,snapVs,Bh,zs,zm,RM.row]<;>exact rfl) (by simp only[F14,zv]<;>exact rfl) ?_;rintro d rfl;refine Ad (xo8 (h:=?_));refine Aw (Aa (Af ?_));refine Ai (Eh ?_);refine Az (by simp only[zo];exact G5 (by omega) _ (n:=1) (by omega) (by omega)) rfl ?_;refine xo50 (h:=Az (by simp only[zo,shT];exact U4 (by omega) _ y) rfl ?_);refine Az (by simp only[zl,Fz,shT]<;>exact rfl) rfl ?_;refine xo49 (h:=Az (by simp only[zo,shT];exact G5 (by omega) _ (n:=1) (by omega) (by omega)) rfl ?_);refine xo50 (h:=Az (by simp only[zo,shT];exact Qa (by omega) _ y) rfl ?_);refine Az (by simp only[zl,Fz,shT]<;>exact rfl) rfl ?_;refine xo49 (h:=Az (by simp only[zo,shT];exact Ju (by omega) _ (n:=3) (by omega) (by omega)) rfl ?_);refine xo55 (h:=Az (by simp only[zo,shT,shN];exact rn_run (by omega) _ y) rfl ?_);refine Az (by simp only[zo,shT,shN];exact I8 (by omega) _ y.N 3 (by have:=y.N_lt;omega) (by omega)) rfl ?_;refine Az (by simp only[zl,Fz,shT,shN]<;>exact rfl) rfl ?_;refine xo54 (h:=xo56 (h:=D9 rfl rfl (Ce ?_)));refine Af ?_;apply A7;refine⟨_,by simp only[F14,resultD,Ba,resD,zg]<;>exact rfl,?_⟩;rfl
section
variable (d:Nat) (S:St)
theorem uof_tab:(List.range 6).map (fun k=>E5 LP NN (d+16) 144 [.agg (shN (k+1))] S)=(List.range 6).map (fun _=>some (.agg [.fn 226 [],.fn 227 []],S,false)):=by kernel_rfl
theorem usg_tab:(List.range 6).map (fun k=>E5 LP NN (d+16) 253 [.agg (shN (k+1))] S)=(List.range 6).map (fun k=>some (.int .i64 ((k:Nat):Int),S,false)):=by kernel_rfl
theorem ukd_tab:(List.range 6).map (fun k=>E5 LP NN (d+17) 104 [.agg (shN (k+1))] S)=(List.range 6).map (fun _=>some (.int .i64 0,S,false)):=by kernel_rfl
end
theorem uof_run{d:Nat}(hd:16≤d)(S:St){n:Nat}(h1:1≤n)(h6:n≤6):Bd LP NN d 144 [.agg (shN n)] S=some (.agg [.fn 226 [],.fn 227 []],S,false):=by
 obtain⟨d,rfl⟩:∃d',d=d'+16:=⟨d-16,by omega⟩;obtain⟨k,rfl⟩:∃k,n=k+1:=⟨n-1,by omega⟩;exact fast_ok (Kr (uof_tab d S) k (by omega))
theorem usg_run{d:Nat}(hd:16≤d)(S:St){n:Nat}(h1:1≤n)(h6:n≤6):Bd LP NN d 253 [.agg (shN n)] S=some (.int .i64 ((n-1:Nat):Int),S,false):=by
 obtain⟨d,rfl⟩:∃d',d=d'+16:=⟨d-16,by omega⟩;obtain⟨k,rfl⟩:∃k,n=k+1:=⟨n-1,by omega⟩;exact fast_ok (Kr (usg_tab d S) k (by omega))
theorem ukd_run{d:Nat}(hd:17≤d)(S:St){n:Nat}(h1:1≤n)(h6:n≤6):Bd LP NN d 104 [.agg (shN n)] S=some (.int .i64 0,S,false):=by
 obtain⟨d,rfl⟩:∃d',d=d'+17:=⟨d-17,by omega⟩;obtain⟨k,rfl⟩:∃k,n=k+1:=⟨n-1,by omega⟩;exact fast_ok (Kr (ukd_tab d S) k (by omega))
theorem zoned_run{d:Nat}(hd:17≤d)(S:St){n:Nat}(h1:1≤n)(h6:n≤6){l:List UInt8}(hn:J8 l=true)(hl:l.length=n)(c:Option Nat):Bd LP NN d 226 [.agg (shN n),.sl 1 (bR l) c] S=some (.tup [.agg [.bool false,.str (mkS l)],.bool true],S,false):=by
 have hz:=hn;simp only[J8,Bool.and_eq_true]at hz;have ht:(trimD l==[])=true:=by rw[trimD_nil];exact hz.2
 refine rq (F:=F226) rfl (by simp only[LP,snapVs,Bh,zs,zm,shN]<;>exact rfl) (by simp only[F226,zv]<;>exact rfl) ?_;rintro d rfl;refine Ad (xo8 (h:=Ko (h:=?_)));refine Aw (Aa (Af ?_));refine Ad (Ae rfl (Ac (by simp only[zl,zm,E8,Hr,zm,Hr]<;>exact rfl) ?_));refine Px (h:=Ko (h:=Qx (h:=?_)));refine Aa (Af ?_);refine Ai (Ad (xo0 (h:=Ac (by simp only[zo];exact usg_run (by omega) _ h1 h6) ?_)));refine Ag rfl (Aa (Af ?_));refine Ad (xo5 (h:=xo0 (h:=?_)));refine Aa (Af ?_);apply Be (by simp only[opd,zv]<;>(first | rfl | simp));refine Ak (Bi rfl (Ai (Fb (by simp only[newsVals,zw,Nat.reduceAdd]<;>exact rfl) (by simp only[zw]<;>exact rfl) ?_)));refine xo7 (h:=xo4 (h:=xo7 (h:=Az (by simp only[zo];exact trimDg_run (by omega) _ l (by omega)) rfl ?_)));apply Aj (by simp only[zo,Bf,Eb,Fg,ht]<;>exact rfl) rfl rfl;refine xo66 (h:=D9 rfl rfl (Ce ?_));refine Af ?_;apply A7;refine⟨_,by simp only[F226,resultD,Ba,resD,zg,zd,rowsOf,Au,List.take,List.drop,zm]<;>exact rfl,?_⟩;rfl
theorem uread_run{d:Nat}(hd:18≤d)(S:St){n:Nat}(h1:1≤n)(h6:n≤6){l:List UInt8}(hn:J8 l=true)(hl:l.length=n)(c:Option Nat):Bd LP NN d 99 [.agg [.int .u8 4,.int .u8 0,.str (mkS (List.replicate n 57)),.int .i64 (n:Nat),.int .i64 0,.bool false,.bool false,.bool false,.bool false,.bool false,.int .i64 (n:Nat),.sl 1 (bR l) c]] S=some (.tup [.agg [.bool false,.str (mkS l)],.int .i64 0],S,false):=by
 have hbl:(bR l).length=n:=by rw[Mc,hl]
 refine rq (F:=F99) rfl (by simp only[LP,snapVs,Bh,zs,zm]<;>exact rfl) (by simp only[F99,zv]<;>exact rfl) ?_;rintro d rfl;refine Ad (xo8 (h:=Ko (h:=?_)));refine Aw (Aa (Af ?_));refine Ai (Ad (xo5 (h:=xo0 (h:=Ac (by simp only[zo,Fq,hbl]<;>exact rfl) ?_))));refine xo5 (h:=xo5 (h:=xo0 (h:=xo2 (h:=?_))));refine Aa (Af ?_);apply Be (by simp only[opd,zv]<;>(first | rfl | simp));refine Ak (Bi rfl (Ai (Ad (xo5 (h:=xo5 (h:=xo0 (h:=xo2 (h:=?_))))))));refine Aa (Af ?_);apply Be (by simp only[opd,zv]<;>(first | rfl | simp));refine Ak (Bi rfl (Ai (Fb (by simp only[newsVals,zw,Nat.reduceAdd]<;>exact rfl) (by simp only[zw,newsObj]<;>exact rfl) ?_)));refine xo27 (h:=xo7 (h:=Az (by simp only[zo];exact uof_run (by omega) _ h1 h6) rfl ?_));apply Aj (by simp only[zo,Au,List.take,List.drop,zm]<;>exact rfl) rfl rfl;refine xo27 (h:=xo7 (h:=xo27 (h:=xo7 (h:=Az (by simp only[zo];exact zoned_run (by omega) _ h1 h6 hn hl c) rfl ?_))));refine D9 rfl rfl (xo42 (h:=xo37 (h:=Dc (by simp only[zo]<;>exact rfl) rfl rfl ?_)));refine xo66 (h:=D9 rfl rfl (Ce ?_));refine Af ?_;refine Ai (Ad (Ae rfl (Zo (h:=?_))));refine Aa (Af ?_);apply Be (by simp only[opd,zv]<;>(first | rfl | simp));refine Ak (Bi rfl (Ad (xo0 (h:=Qx (h:=?_)))));refine Aw (Aa (Af ?_));apply A7;refine⟨_,by simp only[F99,resultD,Ba,resD,zg,zd,rowsOf,Au,List.take,List.drop,zm]<;>exact rfl,?_⟩;rfl
theorem uget_run{d:Nat}(hd:19≤d)(S:St){n:Nat}(h1:1≤n)(h6:n≤6){l:List UInt8}(hn:J8 l=true)(hl:l.length=n)(c:Option Nat):Bd LP NN d 80 [.agg [.int .u8 4,.int .u8 0,.str (mkS (List.replicate n 57)),.int .i64 (n:Nat),.int .i64 0,.bool false,.bool false,.bool false,.bool false,.bool false,.int .i64 (n:Nat),.sl 1 (bR l) c]] S=some (.tup [.agg [.bool false,.str (mkS (strip l)),.int .i64 0],.int .i64 0],S,false):=by
 refine rq (F:=F80) rfl (by simp only[LP,snapVs,Bh,zs,zm]<;>exact rfl) (by simp only[F80,zv]<;>exact rfl) ?_;rintro d rfl;refine Ad (xo8 (h:=Ko (h:=?_)));refine Aw (Aa (Af ?_));refine Ai (Ad (xo5 (h:=xo0 (h:=Ac (by simp only[zo];exact ukd_run (by omega) _ h1 h6) ?_))));refine Ag rfl (Aa (Af ?_));refine Ad (Ae rfl (xo2 (h:=?_)));refine Aa (Af ?_);apply Be (by simp only[opd,zv]<;>(first | rfl | simp));refine Ak (Bi rfl (Ad (xo0 (h:=Ac (by simp only[zo];exact uread_run (by omega) _ h1 h6 hn hl c) ?_))));refine Ag rfl (Lh (h:=Jo (h:=Ko (h:=Qx (h:=Ag rfl (Aa ?_))))));refine Af ?_;refine Ai (Ad (Ae rfl (xo2 (h:=?_))));refine Aa (Af ?_);apply Be (by simp only[opd,zv]<;>(first | rfl | simp));refine Ak (Bi rfl (Ad (xo1 (h:=xo0 (h:=xo1 (h:=xo0 (h:=xo5 (h:=xo5 (h:=xo0 (h:=Ac (by simp only[zo];exact decNew_run (by omega) _ false l (by omega) hn) ?_))))))))));apply Ac (by simp only[zo,Lz,Bool.false_and]<;>exact rfl);apply Ac (by simp only[zo,Lz,Ls_,Bool.false_and]<;>exact rfl);apply Ac (by simp only[zl,zm,Bg,overlay,Bh,zs,zc,zf,List.take,List.drop,Bool.false_and]<;>exact rfl);refine Ag rfl (Aa (Af ?_));apply A7;refine⟨_,by simp only[F80,resultD,Ba,resD,zg,zd,rowsOf,Au,List.take,List.drop,zm]<;>exact rfl,?_⟩;rfl
theorem ucheck_run{d:Nat}(hd:19≤d)(S:St){n:Nat}(h1:1≤n)(h6:n≤6){l:List UInt8}(hn:J8 l=true)(hl:l.length=n)(c:Option Nat):Bd LP NN d 75 [.agg [.int .u8 4,.int .u8 0,.str (mkS (List.replicate n 57)),.int .i64 (n:Nat),.int .i64 0,.bool false,.bool false,.bool false,.bool false,.bool false,.int .i64 (n:Nat),.sl 1 (bR l) c]] S=some (.int .i64 0,S,false):=by
 refine rq (F:=F75) rfl (by simp only[LP,snapVs,Bh,zs,zm]<;>exact rfl) (by simp only[F75,zv]<;>exact rfl) ?_;rintro d rfl;refine Ad (xo8 (h:=?_));refine Aw (Aa (Af ?_));refine Ai (Ad (xo5 (h:=xo0 (h:=Ac (by simp only[zo];exact Z7 (by omega) _ h1 h6) ?_))));refine xo2 (h:=?_);refine Aa (Af ?_);apply Be (by simp only[opd,zv]<;>(first | rfl | simp));refine Ak (Bi rfl (Ad (xo0 (h:=Ac (by simp only[zo];exact uread_run (by omega) _ h1 h6 hn hl c) ?_))));refine Ag rfl (Lh (h:=Jo (h:=Ko (h:=Qx (h:=Ag rfl (Aa ?_))))));refine Af ?_;refine Ad (Ae rfl (Ag rfl (Aa (Af ?_))));apply A7;refine⟨_,by simp only[F75,resultD,Ba,resD,zg]<;>exact rfl,?_⟩;rfl
theorem fill_snoc(n:Nat):∀k,Bl n (k+1)=Bl (n / 10) k++[UInt8.ofNat (48+n % 10)]
 | 0=>by rw[Bl,Bl,Bl,Nat.pow_zero,Nat.div_one];rfl
 | k+1=>by rw[Bl,fill_snoc n k,Bl,Nat.pow_succ',←Nat.div_div_eq_div_mul];rfl
theorem Ye:∀k,Bl 0 k=List.replicate k 48
 | 0=>rfl
 | k+1=>by rw[Bl,Ye k,Nat.zero_div];rfl
theorem fill_dig(n:Nat):∀k,(Bl n k).all H6=true
 | 0=>rfl
 | k+1=>by
  rw[Bl,List.all_cons,fill_dig n k,Bool.and_true];have h:n / 10 ^ k % 10<10:=Nat.mod_lt _ (by decide);generalize n / 10 ^ k % 10=m at h;have:∀m,m<10→H6 (UInt8.ofNat (48+m))=true:=by decide
  exact this m h
theorem Xf(n:Nat){k:Nat}(h:1≤k):J8 (Bl n k)=true:=by
 rw[J8,fill_dig,Bool.and_true,Bool.not_eq_true',beq_eq_false_iff_ne];intro e;have:=Bz n k;rw[e]at this;simp at this;omega
theorem strip0_app0{x:List UInt8}(y:List UInt8)(h:Du x=[]):Du (x++y)=Du y:=by
 rw[Du,List.dropWhile_append];rw[Du]at h;rw[h];rfl
theorem strip0_app1{x:List UInt8}(y:List UInt8)(h:Du x≠[]):Du (x++y)=Du x++y:=by
 rw[Du,List.dropWhile_append];rw[Du]at h;rw[if_neg (by simpa using h)];rfl
theorem decF_ne(d n:Nat):Td (d+1) n≠[]:=by
 rw[Td];split<;>simp
theorem Q3:∀k,Du (List.replicate k 48++[])=[]
 | 0=>rfl
 | k+1=>by
  rw[List.replicate_succ,List.cons_append,Du,List.dropWhile_cons,if_pos (by decide)];exact Q3 k
theorem ih0(m:Nat)(a:1≤m)(b:m<10):Du [UInt8.ofNat (48+m)]=[UInt8.ofNat (48+m)]:=by
 match m,a,b with
 | 1,_,_ | 2,_,_ | 3,_,_ | 4,_,_ | 5,_,_ | 6,_,_ | 7,_,_ | 8,_,_ | 9,_,_=>rfl
theorem strip0_fill:∀(k n d:Nat),1≤n→n<10 ^ (k+1)→k+1≤d→Du (Bl n (k+1))=Td d n:=by
 intro k
 induction k with
 | zero =>
  intro n d h1 h2 hd;obtain⟨d,rfl⟩:∃d',d=d'+1:=⟨d-1,by omega⟩;have h10:n<10:=by simpa using h2
  rw[Bl,Bl,Td,if_pos h10,Nat.pow_zero,Nat.div_one,Nat.mod_eq_of_lt h10]
  have:∀m,1≤m→m<10→Du [UInt8.ofNat (48+m)]=[UInt8.ofNat (48+m)]:=by
   intro m a b
   match m,a,b with
   | 1,_,_ | 2,_,_ | 3,_,_ | 4,_,_ | 5,_,_ | 6,_,_ | 7,_,_ | 8,_,_ | 9,_,_=>rfl
  exact this n h1 h10
 | succ k ih =>
  intro n d h1 h2 hd;obtain⟨d,rfl⟩:∃d',d=d'+1:=⟨d-1,by omega⟩;rw[fill_snoc,Td];by_cases h10:n<10
  ·
   rw[if_pos h10,Nat.div_eq_of_lt h10,Ye,strip0_app0 _ (by rw[←List.append_nil (List.replicate (k+1) 48)];exact Q3 (k+1)),Nat.mod_eq_of_lt h10];have:=ih0 n h1 h10;exact this
  rw[if_neg h10];have h3:=ih (n / 10) d (by omega) (by rw[Nat.pow_succ]at h2;omega) (by omega);obtain⟨d',rfl⟩:∃d',d=d'+1:=⟨d-1,by omega⟩;rw[strip0_app1 _ (by rw[h3];exact decF_ne _ _),h3]
def dgs (n:Nat):List UInt8:=Td 20 n
theorem H9{n k:Nat}(hk:1≤k)(vH:k≤20)(h:n<10 ^ k):strip (Bl n k)=dgs n:=by
 obtain⟨k,rfl⟩:∃k',k=k'+1:=⟨k-1,by omega⟩;by_cases h0:n=0
 ·
  subst h0;rw[Ye,strip,show Du (List.replicate (k+1) 48)=[] by have:=Q3 (k+1);rwa [List.append_nil]at this,if_pos rfl];rfl
 have h3:=strip0_fill k n 20 (by omega) h vH;rw[strip,h3,if_neg (decF_ne 19 n)];rfl
theorem Nj{n k:Nat}(hk:1≤k)(vH:k≤20)(h:n<10 ^ k):(dgs n).length≤k:=by
 rw[←H9 hk vH h];have:=strip_len (Bl n k) (by intro e;have:=Bz n k;rw[e]at this;simp at this;omega);have h2:=Bz n k;omega
theorem Ul{n:Nat}(h:n<10 ^ 19):Nrm false (dgs n):=by
 rw[←H9 (k:=19) (by omega) (by omega) h];have h2:=Bz n 19;have:=Nrm.of false (Bl n 19) (Xf n (by omega)) (by have:=Ou (Bl n 19);omega);exact this
theorem Wn{n k:Nat}(hk:1≤k)(vH:k≤20)(h:n<10 ^ k):pad k (dgs n)=Bl n k:=by
 have h2:=Bz n k;have h3:=pad_strip (Bl n k) k (by intro e;rw[e]at h2;simp at h2;omega) (by rw[H9 hk vH h];exact Nj hk vH h) (by omega);rw[h2,Nat.sub_self,H9 hk vH h]at h3;exact h3.symm
theorem fmt_run{d:Nat}(hd:1≤d)(S:St)(n:Nat)(hn:n≤1000000000000000000):Bd LP NN d 89 [.int .i64 (n:Nat),.int .i64 10] S=some (.str (mkS (dgs n)),S,false):=by
 obtain⟨d,rfl⟩:∃d',d=d'+1:=⟨d-1,by omega⟩
 have h:LP.ext 89 [.int .i64 (n:Nat),.int .i64 10]=some (.str (mkS (dgs n))):=by
  show (if 0≤((n:Nat):Int)∧((n:Nat):Int)≤1000000000000000000 then some (D.str ⟨(Td 20 ((n:Nat):Int).toNat).toArray⟩) else none)=_;rw[if_pos ⟨by omega,by omega⟩,Int.toNat_natCast];rfl
 simp only[Bd,h]
theorem dig_no{l:List UInt8}(h:l.all H6=true):(45:UInt8)∉l:=fun hm=>by
 have:=List.all_eq_true.1 h 45 hm;exact absurd this (by decide)
theorem dgs_dig{n:Nat}(h:n<10 ^ 19):(dgs n).all H6=true:=by
 have:=(Ul h).num;simp only[J8,Bool.and_eq_true]at this;exact this.2
theorem fmt65_run{d:Nat}(hd:2≤d)(S:St)(n:Nat)(hn:n≤1000000000000000000):Bd LP NN d 65 [.int .i64 (n:Nat),.int .i64 10] S=some (.str (mkS (dgs n)),S,false):=by
 refine rq (F:=F65) rfl (by simp only[LP,snapVs,zs,zm]<;>exact rfl) (by simp only[F65,zv]<;>exact rfl) ?_;rintro d rfl;refine Ad (Aw (Aa (Af ?_)));refine Ad (Ae rfl (Ae rfl (Ac (by simp only[zo];exact fmt_run (by omega) _ n hn) ?_)));refine Ag rfl (Aa (Af ?_));apply A7;refine⟨_,by simp only[F65,resultD,Ba,resD,zg]<;>exact rfl,?_⟩;rfl
theorem itoa9_run{d:Nat}(hd:2≤d)(S:St)(n:Nat)(hn:n≤1000000000000000000):Bd LP NN d 209 [.int .i64 (n:Nat)] S=some (.str (mkS (dgs n)),S,false):=by
 refine rq (F:=F209) rfl (by simp only[LP,snapVs,zs,zm]<;>exact rfl) (by simp only[F209,zv]<;>exact rfl) ?_;rintro d rfl;refine Ad (Aw (Aa (Af ?_)));refine Ad (Ae rfl (Ac (by simp only[zo];exact fmt_run (by omega) _ n hn) ?_));refine Ag rfl (Aa (Af ?_));apply A7;refine⟨_,by simp only[F209,resultD,Ba,resD,zg]<;>exact rfl,?_⟩;rfl
theorem itoa_run{d:Nat}(hd:3≤d)(S:St)(n:Nat)(hn:n≤1000000000000000000):Bd LP NN d 163 [.int .i64 (n:Nat)] S=some (.str (mkS (dgs n)),S,false):=by
 refine rq (F:=F163) rfl (by simp only[LP,snapVs,zs,zm]<;>exact rfl) (by simp only[F163,zv]<;>exact rfl) ?_;rintro d rfl;refine Ad (Aw (Aa (Af ?_)));refine Ad (Ae rfl (Ac (by simp only[zo];exact itoa9_run (by omega) _ n hn) ?_));refine Ag rfl (Aa (Af ?_));apply A7;refine⟨_,by simp only[F163,resultD,Ba,resD,zg]<;>exact rfl,?_⟩;rfl
theorem hasP_run{d:Nat}(hd:1≤d)(S:St){l:List UInt8}{b:UInt8}(hb:b∉l)(hl:l.length≤1000000):Bd LP NN d 114 [.str (mkS l),.str (mkS [b])] S=some (.bool false,S,false):=by
 refine rq (F:=F114) rfl (by simp only[LP,snapVs,zs,zm]<;>exact rfl) (by simp only[F114,zv]<;>exact rfl) ?_;rintro d rfl;refine Ad (Aw (Aa (Af ?_)));refine Ad (Ae rfl (Qy (h:=Ae rfl (Ac (by simp only[zo,Hw,D7,List.length_singleton]<;>exact rfl) ?_))));refine xo2 (h:=Ag rfl ?_);refine G9 0 (by simp only[zv]<;>exact rfl) (by simp only[zn]<;>exact rfl) (by simp only[zn]<;>exact rfl) (fun hg=>?_) (fun hg=>?_)
 ·
  refine Ap rfl (Ae rfl (Ap rfl (Ae rfl (Ap rfl (Ac (by simp only[zo,Hw,D7,List.length_singleton]<;>exact rfl) ?_)))));refine Ap rfl (Ac (by simp only[opd,zv,Ar,aop,LOp.loud,Bool.false_eq_true,if_false];rw[str_to _ l 1 _ rfl (by have:=of_decide_eq_true hg;omega)];exact rfl) ?_);refine Ap rfl (Ae rfl (Ap rfl (Ac (by simp only[zo,Bf,Eb]<;>exact rfl) ?_)));refine xo3 (h:=Ag rfl (Aa ?_));refine Af ?_;apply A7;refine⟨_,by simp only[F114,resultD,Ba,resD,zg]<;>exact rfl,?_⟩;rw[take1 hb];rfl
 refine Cm rfl rfl (Cm rfl rfl (Cm rfl rfl (Cm rfl rfl (Cm rfl rfl (Cm rfl rfl (xo3 (h:=Ag rfl (Aa ?_))))))));refine Af ?_;apply A7;refine⟨_,by simp only[F114,resultD,Ba,resD,zg]<;>exact rfl,?_⟩;rfl
theorem cutP8_run{d:Nat}(hd:2≤d)(S:St){l:List UInt8}{b:UInt8}(hb:b∉l)(hl:l.length≤1000000):Bd LP NN d 88 [.str (mkS l),.str (mkS [b])] S=some (.tup [.str (mkS l),.bool false],S,false):=by
 refine rq (F:=F88) rfl (by simp only[LP,snapVs,zs,zm]<;>exact rfl) (by simp only[F88,zv]<;>exact rfl) ?_;rintro d rfl;refine Ad (Aw (Aw (Aa (Af ?_))));refine Ai (Ad (Ae rfl (Ae rfl (Ac (by simp only[zo];exact hasP_run (by omega) _ hb hl) ?_))));refine Zo (h:=?_);refine Aa (Af ?_);refine Ja ?_;refine Ad (Ae rfl (Ag rfl (Aw (Aa (Af ?_)))));refine A7 (Nu ?_);refine⟨_,by simp only[F88,resultD,Ba,resD,zg]<;>exact rfl,?_⟩;rfl
theorem cutP_run{d:Nat}(hd:3≤d)(S:St){l:List UInt8}{b:UInt8}(hb:b∉l)(hl:l.length≤1000000):Bd LP NN d 64 [.str (mkS l),.str (mkS [b])] S=some (.tup [.str (mkS l),.bool false],S,false):=by
 refine rq (F:=F64) rfl (by simp only[LP,snapVs,zs,zm]<;>exact rfl) (by simp only[F64,zv]<;>exact rfl) ?_;rintro d rfl;refine Ad (Aw (Aw (Aa (Af ?_))));refine Ad (Ae rfl (Ae rfl (Ac (by simp only[zo];exact cutP8_run (by omega) _ hb hl) ?_)));refine Lh (h:=Jo (h:=Ag rfl (Ag rfl ?_)));refine Aa (Af ?_);apply A7;refine⟨_,by simp only[F64,resultD,Ba,resD,zg]<;>exact rfl,?_⟩;rfl
def dcD (n:Nat):D:=.agg [.bool false,.str (mkS (dgs n)),.int .i64 0]
theorem Zx{d:Nat}(hd:4≤d)(S:St)(n:Nat)(hn:n≤1000000000000000000):Bd LP NN d 26 [.int .i64 (n:Nat)] S=some (dcD n,S,false):=by
 refine rq (F:=F26) rfl (by simp only[LP,snapVs,zs,zm]<;>exact rfl) (by simp only[F26,zv]<;>exact rfl) ?_;rintro d rfl;refine Ad (Ko (h:=?_));refine Aa (Af ?_);refine Ad (Ae rfl (Ac (by simp only[zo];exact fmt65_run (by omega) _ n hn) ?_));apply Ac (by simp only[zo,m45];exact cutP_run (by omega) _ (dig_no (dgs_dig (by omega))) (by have:=Nj (n:=n) (k:=19) (by omega) (by omega) (by omega);omega));refine Ag rfl (Lh (h:=Jo (h:=Ag rfl (Ag rfl ?_))));refine Aa (Af ?_);refine Ad (Ae rfl (Ae rfl (Px (h:=Qx (h:=?_)))));refine Aa (Af ?_);apply A7;refine⟨_,by simp only[F26,resultD,Ba,resD,zg,zd,rowsOf,Au,List.take,List.drop,zm]<;>exact rfl,?_⟩;rfl
theorem both_run{d:Nat}(hd:7≤d)(S:St){a b:List UInt8}(ha:Nrm false a)(hb:Nrm false b):Bd LP NN d 106 [.agg [.bool false,.str (mkS a),.int .i64 0],.agg [.bool false,.str (mkS b),.int .i64 0]] S=some (.int .i64 0,S,false):=by
 refine rq (F:=F106) rfl (by simp only[LP,snapVs,Bh,zs,zm]<;>exact rfl) (by simp only[F106,zv]<;>exact rfl) ?_;rintro d rfl;refine Ad (xo8 (h:=xo8 (h:=?_)));refine Aw (Aa (Af ?_));refine Ai (Eh ?_);refine xo7 (h:=Az (by simp only[zo];exact Ip (by omega) _ false a ha) rfl ?_);refine xo7 (h:=Az (by simp only[zo];exact Ip (by omega) _ false b hb) rfl ?_);apply Aj (by simp only[zo,Jm,U9]<;>exact rfl) rfl rfl;refine D9 rfl rfl (Ce (Af ?_));apply A7;refine⟨_,by simp only[F106,resultD,Ba,resD,zg]<;>exact rfl,?_⟩;rfl
theorem padded_run{d:Nat}(hd:2≤d)(S:St)(l:List UInt8)(n:Nat)(hn:n≤100)(hl:l.length≤100):Bd LP NN d 159 [.str (mkS l),.int .i64 (n:Nat)] S=some (.str (mkS (pad n l)),S,false):=by
 have hw:IntKind.i64.wrap ((n:Int)-(l.length:Int))=(n:Int)-(l.length:Int):=by rw[IntKind.wrap_i64];omega
 have hm:(if (0:Int)>(n:Int)-(l.length:Int) then (0:Int) else (n:Int)-(l.length:Int))=((n-l.length:Nat):Int):=by split<;>omega
 refine rq (F:=F159) rfl (by simp only[LP,snapVs,zs,zm]<;>exact rfl) (by simp only[F159,zv]<;>exact rfl) ?_;rintro d rfl;refine Ad (Aw (Aa (Af ?_)));refine Ad (Ae rfl (Ae rfl (Qy (h:=Ac (by simp only[zo,Bf,hw]<;>exact rfl) ?_))));apply Ac (by simp only[zo,Jm,U9,hm]<;>exact rfl);apply Ac (by simp only[zo];exact repz_run (by omega) _ (n-l.length) (by omega));refine Ae rfl (Ac (by simp only[zo,Bf,Og,D7];rw[if_neg (by rw[show IntKind.i64.max=9223372036854775807 from rfl];simp only[List.length_replicate];omega)];exact rfl) ?_);refine Ag rfl (Aa (Af ?_));apply A7;refine⟨_,by simp only[F159,resultD,Ba,resD,zg]<;>exact rfl,?_⟩;rfl
theorem fill_at(n:Nat):∀(m k:Nat),k<m→(Bl n m)[m-1-k]?=some (UInt8.ofNat (48+n / 10 ^ k % 10))
 | 0,k,h=>by omega
 | m + 1, k, h => by
  rw[Bl];by_cases e:k=m
  ·
   subst e;rw[show k+1-1-k=0 by omega];rfl
  rw[show m+1-1-k=(m-1-k)+1 by omega,Ls_];exact fill_at n m k (by omega)
def cry (a b k:Nat):Nat:=(a % 10 ^ k+b % 10 ^ k) / 10 ^ k
theorem cry_zero(a b:Nat):cry a b 0=0:=by simp[cry,Nat.mod_one]
theorem dig_sum(a b k:Nat):(a+b) / 10 ^ k=a / 10 ^ k+b / 10 ^ k+cry a b k:=by
 have hp:0<10 ^ k:=Nat.pow_pos (by decide);have h1:=Nat.div_add_mod a (10 ^ k);have h2:=Nat.div_add_mod b (10 ^ k);unfold cry;generalize 10 ^ k=p at *;have e:a+b=p*(a / p+b / p)+(a % p+b % p):=by rw[Nat.mul_add];omega
 calc (a+b) / p=(p*(a / p+b / p)+(a % p+b % p)) / p:=by rw[←e]
  _=a / p+b / p+(a % p+b % p) / p:=Nat.mul_add_div hp _ _
theorem cry_lt(a b k:Nat):cry a b k≤1:=by
 have hp:0<10 ^ k:=Nat.pow_pos (by decide);have h1:=Nat.mod_lt a hp;have h2:=Nat.mod_lt b hp;unfold cry;rw[Nat.le_iff_lt_add_one,Nat.div_lt_iff_lt_mul hp];omega
theorem dig_step(a b k:Nat):(a / 10 ^ k % 10+b / 10 ^ k % 10+cry a b k) % 10=(a+b) / 10 ^ k % 10:=by
 rw[dig_sum];omega
theorem cry_step(a b k:Nat):(a / 10 ^ k % 10+b / 10 ^ k % 10+cry a b k) / 10=cry a b (k+1):=by
 have h0:=dig_sum a b k;have h1:=dig_sum a b (k+1);rw[Nat.pow_succ,←Nat.div_div_eq_div_mul,←Nat.div_div_eq_div_mul,←Nat.div_div_eq_div_mul,h0]at h1;omega
theorem cry_end{a b m:Nat}(ha:a<10 ^ m)(hb:b<10 ^ m):cry a b m=(a+b) / 10 ^ m:=by
 rw[cry,Nat.mod_eq_of_lt ha,Nat.mod_eq_of_lt hb]
theorem u8o{d:Nat}(h:d<10):(UInt8.ofNat (48+d)).toNat=48+d:=by
 have:∀d,d<10→(UInt8.ofNat (48+d)).toNat=48+d:=by decide
 exact this d h
theorem plus1_run{d:Nat}(hd:1≤d)(S:St)(x y c:Nat)(hx:x<10)(hy:y<10)(hc:c≤1):Bd LP NN d 162 [.int .i64 (x:Nat),.int .i64 (y:Nat),.int .i64 (c:Nat)] S=some (.tup [.int .i64 ((x+y+c) % 10:Nat),.int .i64 ((x+y+c) / 10:Nat)],S,false):=by
 have h10:((10:Int)=0)=False:=by simp
 have zT:IntKind.i64.wrap (((x:Nat):Int)+(y:Nat))=((x+y:Nat):Int):=by rw[IntKind.wrap_i64];omega
 have uG:IntKind.i64.wrap (((x+y:Nat):Int)+(c:Nat))=((x+y+c:Nat):Int):=by rw[IntKind.wrap_i64];omega
 have hm:((x+y+c:Nat):Int).tmod 10=(((x+y+c) % 10:Nat):Int):=Vz _ 10;have hq:((x+y+c:Nat):Int).tdiv 10=(((x+y+c) / 10:Nat):Int):=(Int.ofNat_tdiv (x+y+c) 10).symm;have hw3:IntKind.i64.wrap (((x+y+c) / 10:Nat):Int)=(((x+y+c) / 10:Nat):Int):=by rw[IntKind.wrap_i64];omega
 refine rq (F:=F162) rfl (by simp only[LP,snapVs,zs,zm]<;>exact rfl) (by simp only[F162,zv]<;>exact rfl) ?_;rintro d rfl;have xq:=aI zT (aI uG (aI hm (aI hq (aI hw3 (h10)))));refine Ad (Aw (Aw (Aa (Af ?_))));refine Ad (Ae rfl (Ae rfl (Xr (h:=Ae rfl ?_))));refine Xr (h:=Ac (by simp only[zo,Bf,zb,xq]<;>exact rfl) ?_);refine Ae rfl (Ae rfl (Xr (h:=Ae rfl ?_)));refine Xr (h:=Ac (by simp only[zo,Bf,zb,xq]<;>exact rfl) ?_);refine Ag rfl (Ag rfl (Aa (Af ?_)));apply A7;refine⟨_,by simp only[F162,resultD,Ba,resD,zg]<;>exact rfl,?_⟩;rfl
theorem column_run{d:Nat}(hd:2≤d)(S:St)(a b m:Nat)(hm:m≤60):Bd LP NN d 161 [.str (mkS (Bl a m)),.str (mkS (Bl b m)),.fn 162 []] S=some (.tup [.str (mkS (Bl (a+b) m)),.int .i64 (cry a b m:Nat)],S,false):=by
 have hmk:(0≤((m:Nat):Int)∧((m:Nat):Int)≤((m:Nat):Int)∧m*1≤140737488355328)=True:=eq_true (by omega);have hla:=Bz a m;have hlb:=Bz b m;refine rq (F:=F161) rfl (by simp only[LP,snapVs,zs,zm]<;>exact rfl) (by simp only[F161,zv]<;>exact rfl) ?_;rintro d rfl;have xI:=aI @Int.toNat_natCast (aI hmk (aI hla (hlb)));refine Ad (Aw (Aw (Aa (Af ?_))));refine Ad (Ae rfl (Ac (by simp only[zo,Hw,D7,xI]<;>exact rfl) ?_));apply Ac (by simp only[zl,zm,decide_false,xI]<;>exact rfl);refine Ag rfl (Aa (Af ?_));refine Ad (Aw (Aa (Af ?_)));refine Ai (Ad (Ae rfl (Ac (by simp only[zo,Hw,D7,xI]<;>exact rfl) ?_)));refine Aw (Aa (Af ?_));refine Aq (D5 (fun n env S'=>∃(i:Nat) (u7 u8 u9 u12:D),i≤m∧n=m-i∧S'=⟨[⟨5,1,(List.replicate (m-i) [.int .u8 0]++bR (Bl (a+b) i)),0,2,false⟩],0⟩∧env=[.str (mkS (Bl a m)),.str (mkS (Bl b m)),.fn 162 [],.str ⟨#[]⟩,.int .i64 0,.msl 0 0 0 m none,.int .i64 (cry a b i:Nat),u7,u8,u9,.int .i64 (m:Nat),.int .i64 (i:Nat),u12]) (m) (by omega) (⟨0,_,_,_,_,by omega,by omega,by rw[Bl];exact congrArg (fun r=>(⟨[⟨5,1,r,0,2,false⟩],0⟩:St)) (List.append_nil _).symm,by rw[cry_zero];exact rfl⟩) ?_);rintro n env S' ⟨i,u7,u8,u9,u12,hi,hnk,rfl,rfl⟩;refine Ad (xo2 (h:=?_));refine Aa (Af ?_);apply Ai;refine Bj (by simp only[opd,zv]<;>exact rfl) (fun xZ=>?_) (fun xZ=>?_)
 ·
  have xO:i<m:=by have:=of_decide_eq_true xZ;omega
  have yH:=Dt i (by omega);have zT:IntKind.i64.wrap (((m:Nat):Int)-1)=((m-1:Nat):Int):=by rw[IntKind.wrap_i64];omega
  have uG:IntKind.i64.wrap (((m-1:Nat):Int)-(i:Nat))=((m-1-i:Nat):Int):=by rw[IntKind.wrap_i64];omega
  have h0:(0:Int)≤((m-1-i:Nat):Int):=by omega
  have hlm:((m-1-i:Nat):Int)<((m:Nat):Int):=by omega
  have hda:a / 10 ^ i % 10<10:=Nat.mod_lt _ (by decide);have hdb:b / 10 ^ i % 10<10:=Nat.mod_lt _ (by decide);have zW:=fill_at a m i xO;have hfb:=fill_at b m i xO;have hua:=u8o hda;have hub:=u8o hdb;have hsa:IntKind.u8.wrap (((48+a / 10 ^ i % 10:Nat):Int)-48)=((a / 10 ^ i % 10:Nat):Int):=by rw[show (((48+a / 10 ^ i % 10:Nat):Int)-48)=((a / 10 ^ i % 10:Nat):Int) by omega];exact wrap_u8 _ (by omega)
  have hsb:IntKind.u8.wrap (((48+b / 10 ^ i % 10:Nat):Int)-48)=((b / 10 ^ i % 10:Nat):Int):=by rw[show (((48+b / 10 ^ i % 10:Nat):Int)-48)=((b / 10 ^ i % 10:Nat):Int) by omega];exact wrap_u8 _ (by omega)
  have hca:IntKind.i64.wrap ((a / 10 ^ i % 10:Nat):Int)=((a / 10 ^ i % 10:Nat):Int):=by rw[IntKind.wrap_i64];omega
  have hcb:IntKind.i64.wrap ((b / 10 ^ i % 10:Nat):Int)=((b / 10 ^ i % 10:Nat):Int):=by rw[IntKind.wrap_i64];omega
  have zA:=cry_lt a b i;have uZ:(a+b) / 10 ^ i % 10<10:=Nat.mod_lt _ (by decide);have h48:IntKind.i64.wrap (48+(((a+b) / 10 ^ i % 10:Nat):Int))=((48+(a+b) / 10 ^ i % 10:Nat):Int):=by rw[IntKind.wrap_i64];omega
  have hc8:IntKind.u8.wrap ((48+(a+b) / 10 ^ i % 10:Nat):Int)=((48+(a+b) / 10 ^ i % 10:Nat):Int):=wrap_u8 _ (by omega);have yY:(List.replicate (m-i) [D.int .u8 0]++bR (Bl (a+b) i)).length=m:=by rw[Ll_,List.length_replicate,Mc,Bz];omega
  have xM:(List.replicate (m-i) [D.int .u8 0]++bR (Bl (a+b) i)).set (m-1-i) [.int .u8 ((48+(a+b) / 10 ^ i % 10:Nat):Int)]=List.replicate (m-(i+1)) [D.int .u8 0]++bR (Bl (a+b) (i+1)):=by
   rw[show m-i=(m-1-i)+1 by omega,List.replicate_succ',Lo_,List.set_append_right _ _ (by simp),List.length_replicate,Nat.sub_self,show m-(i+1)=m-1-i by omega,Bl];simp only[bR,List.map_cons,u8o uZ,List.singleton_append,List.set_cons_zero]
  have xX:(List.replicate (m-i) [D.int .u8 0]++bR (Bl (a+b) i))[m-1-i]?=some [D.int .u8 0]:=by rw[La_ (by simp;omega),List.getElem?_replicate,if_pos (by omega)]
  have y5:=aI yH (aI zT (aI uG (aI h0 (aI hlm (aI zW (aI hfb (aI hua (aI hub (aI hsa (aI hsb (aI hca (aI hcb (aI h48 (aI hc8 (aI yY (aI xX (@Int.toNat_natCast)))))))))))))))));refine Ak (Bi rfl (Ai (Aq (Ad (Ae rfl (Ag rfl (Aa (Af ?_))))))));refine Ad (Ae rfl (Ac (by simp only[zo,Hw,D7,xI]<;>exact rfl) ?_));apply Ac (by simp only[zo,Bf,y5]<;>exact rfl);refine Ae rfl (Ac (by simp only[zo,Bf,y5]<;>exact rfl) ?_);refine Ag rfl (Aa (Af ?_));refine Ad (Aw (Aa (Af ?_)));refine Ai (Eh ?_);refine Bc rfl rfl (Bc rfl rfl (Bc rfl rfl (Aj (by simp only[zo,Iz,zm,Jw,xI,y5]<;>exact rfl) rfl rfl ?_)));apply Aj (by simp only[zo,Bf,y5]<;>exact rfl) rfl rfl;apply Aj (by simp only[zo,y5]<;>exact rfl) rfl rfl;refine Bc rfl rfl (Bc rfl rfl (Aj (by simp only[zo,Iz,zm,Jw,xI,y5]<;>exact rfl) rfl rfl ?_));apply Aj (by simp only[zo,Bf,y5]<;>exact rfl) rfl rfl;apply Aj (by simp only[zo,y5]<;>exact rfl) rfl rfl;refine Bc rfl rfl (Az (by simp only[zo];exact plus1_run (by omega) _ _ _ _ hda hdb zA) rfl ?_);refine D9 rfl rfl (Aj (by simp only[zo,Lz,dig_step,cry_step]<;>exact rfl) rfl rfl ?_);apply Aj (by simp only[zo,Lz,Ls_,dig_step,cry_step]<;>exact rfl) rfl rfl;refine D9 rfl rfl (D9 rfl rfl (Ce (Af ?_)));refine Am (Ae rfl (Ae rfl (Ae rfl (Ac (by simp only[zo,Bf,y5]<;>exact rfl) ?_))));apply Ac (by simp only[zo,y5]<;>exact rfl);apply Ac (by simp only[zl,zm,Fa,xI,y5]<;>exact rfl);apply Ac (by simp only[zl,zm,Bg,overlay,zs,List.take,y5]<;>exact rfl);refine Aa (D8 (Af ?_));refine Am (Ac (by simp only[zo,Bf,y5]<;>exact rfl) ?_);refine Ag rfl (Aa (Gh (by simp only[ze]<;>exact rfl) ?_));exact⟨m-(i+1),by omega,i+1,_,_,_,_,by omega,rfl,congrArg (fun r=>(⟨[⟨5,1,r,0,2,false⟩],0⟩:St)) xM,rfl⟩
 have hi':m=i:=by have:=of_decide_eq_false xZ;omega
 subst hi';have hbs:(List.replicate (m-m) [D.int .u8 0]++bR (Bl (a+b) m)).take m=bR (Bl (a+b) m):=by rw[Nat.sub_self,List.replicate_zero,List.nil_append,List.take_of_length_le (by rw[Mc,Bz];exact Nat.le_refl m)]
 refine Dh (Gj (Hu (Gl (Bi rfl (Ad (Ae rfl (Ac (by simp only[zl,zm,readRows_msl,hbs,Hr,or_true]<;>exact rfl) ?_)))))));refine Ae rfl (Ag rfl (Ag rfl (Aa (Af ?_))));apply A7;refine⟨_,by simp only[F161,resultD,Ba,resD,zg]<;>exact rfl,?_⟩;rfl
theorem dgs_one{c:Nat}(h:c<10):dgs c=[UInt8.ofNat (48+c)]:=by
 rw[dgs,Td,if_pos h]
theorem fill_cry{a b m:Nat}(ha:a<10 ^ m)(hb:b<10 ^ m):dgs (cry a b m)++Bl (a+b) m=Bl (a+b) (m+1):=by
 have h1:=cry_lt a b m;rw[dgs_one (by omega),cry_end ha hb,Bl];rw[cry_end ha hb]at h1;rw[Nat.mod_eq_of_lt (by omega)];rfl
theorem dgs_lt:∀(d n:Nat),n<10 ^ d→n<10 ^ (Td d n).length
 | 0,n,h=>by simpa [Td] using h
 | d + 1, n, h => by
  rw[Td];split
  ·
   rename_i h10;simpa using h10
  have:=dgs_lt d (n / 10) (by rw[Nat.pow_succ]at h;omega);rw[Ll_,List.length_singleton,Nat.pow_succ];omega
theorem dgs_pos(n:Nat):0<(dgs n).length:=List.length_pos_iff.2 (decF_ne 19 n)
theorem aDCPl{a b:Nat}(ha:a<10 ^ 15)(hb:b<10 ^ 15):∃m,m=max (dgs a).length (dgs b).length∧1≤m∧m≤15∧a<10 ^ m∧b<10 ^ m∧pad m (dgs a)=Bl a m∧pad m (dgs b)=Bl b m:=by
 have h1:=Nj (n:=a) (k:=15) (by omega) (by omega) ha;have h2:=Nj (n:=b) (k:=15) (by omega) (by omega) hb;have h3:=dgs_pos a;have ka:a<10 ^ (dgs a).length:=dgs_lt 20 a (by omega);have kb:b<10 ^ (dgs b).length:=dgs_lt 20 b (by omega);have ma:a<10 ^ max (dgs a).length (dgs b).length:=Nat.lt_of_lt_of_le ka (Nat.pow_le_pow_right (by decide) (Nat.le_max_left _ _));have mb:b<10 ^ max (dgs a).length (dgs b).length:=Nat.lt_of_lt_of_le kb (Nat.pow_le_pow_right (by decide) (Nat.le_max_right _ _));exact⟨_,rfl,by omega,by omega,ma,mb,Wn (by omega) (by omega) ma,Wn (by omega) (by omega) mb⟩
theorem plus_run{d:Nat}(hd:4≤d)(S:St){a b m:Nat}(hm:m≤60)(ha:a<10 ^ m)(hb:b<10 ^ m):Bd LP NN d 109 [.str (mkS (Bl a m)),.str (mkS (Bl b m))] S=some (.str (mkS (Bl (a+b) (m+1))),S,false):=by
 refine rq (F:=F109) rfl (by simp only[LP,snapVs,zs,zm]<;>exact rfl) (by simp only[F109,zv]<;>exact rfl) ?_;rintro d rfl;refine Ad (Aw (Aa (Af ?_)));refine Ad (Ae rfl (Ae rfl (Ac (by simp only[zo];exact column_run (by omega) _ a b m (by omega)) ?_)));refine Ag rfl (Lh (h:=Jo (h:=Ag rfl (Ag rfl ?_))));refine Aa (Af ?_);refine Ad (Ae rfl (Ac (by simp only[zo];exact itoa_run (by omega) _ (cry a b m) (by have:=cry_lt a b m;omega)) ?_));refine Ae rfl (Ac (by have h9:=cry_lt a b m;have h8:=Bz (a+b) m;have h7:=congrArg List.length (dgs_one (c:=cry a b m) (by omega));simp only[zo,Bf,Og,D7];rw[if_neg (by rw[show IntKind.i64.max=9223372036854775807 from rfl];simp only[List.length_singleton]at h7 ⊢;omega)];exact rfl) ?_);refine Ag rfl (Aa (Af ?_));apply A7;refine⟨_,by simp only[F109,resultD,Ba,resD,zg]<;>exact rfl,?_⟩;rw[fill_cry ha hb];rfl
theorem aligned_run{d:Nat}(hd:3≤d)(S:St){a b m:Nat}(ha:a<10 ^ 15)(hb:b<10 ^ 15)(hm:m=max (dgs a).length (dgs b).length)(hm1:1≤m)(hm2:m≤15)(hpa:pad m (dgs a)=Bl a m)(hpb:pad m (dgs b)=Bl b m):Bd LP NN d 107 [.agg [.bool false,.str (mkS (dgs a)),.int .i64 0],.agg [.bool false,.str (mkS (dgs b)),.int .i64 0]] S=some (.tup [.str (mkS (Bl a m)),.str (mkS (Bl b m)),.int .i64 0],S,false):=by
 have hla:=Nj (n:=a) (k:=15) (by omega) (by omega) ha;have hlb:=Nj (n:=b) (k:=15) (by omega) (by omega) hb;have hmx:(if ((dgs b).length:Int)>((dgs a).length:Int) then ((dgs b).length:Int) else ((dgs a).length:Int))=((m:Nat):Int):=by rw[hm];split<;>omega
 refine rq (F:=F107) rfl (by simp only[LP,snapVs,Bh,zs,zm]<;>exact rfl) (by simp only[F107,zv]<;>exact rfl) ?_;rintro d rfl;refine Ad (xo8 (h:=xo8 (h:=?_)));refine Aw (Aw (Aw (Aa (Af ?_))));refine Ad (xo5 (h:=xo0 (h:=xo5 (h:=xo0 (h:=Ac (by simp only[zo,Jm,U9]<;>exact rfl) ?_)))));refine Ag rfl (Aa (Af ?_));refine Ai (Eh ?_);refine xo27 (h:=xo7 (h:=Bc rfl rfl ?_));refine xo27 (h:=xo7 (h:=xo28 (h:=Az (by simp only[zo];exact rep0_run (by omega) _) rfl ?_)));apply Aj (by simp only[zo,Bf,Og,D7,List.append_nil];rw[if_neg (by rw[show IntKind.i64.max=9223372036854775807 from rfl];simp only[List.length_nil];omega)];exact rfl) rfl rfl;refine D9 rfl rfl (Ce (Af ?_));refine Ai (Eh ?_);refine xo27 (h:=xo7 (h:=Bc rfl rfl ?_));refine xo27 (h:=xo7 (h:=xo28 (h:=Az (by simp only[zo];exact rep0_run (by omega) _) rfl ?_)));apply Aj (by simp only[zo,Bf,Og,D7,List.append_nil];rw[if_neg (by rw[show IntKind.i64.max=9223372036854775807 from rfl];simp only[List.length_nil];omega)];exact rfl) rfl rfl;refine D9 rfl rfl (Ce (Af ?_));refine Ad (Ae rfl (Qy (h:=Ae rfl ?_)));refine Qy (h:=Ac (by simp only[zo,Jm,U9,hmx]<;>exact rfl) ?_);refine Ag rfl (Aa (Af ?_));refine Ad (Ae rfl (Ae rfl (Ac (by simp only[zo];exact padded_run (by omega) _ (dgs a) m (by omega) (by omega)) ?_)));refine Ae rfl (Ae rfl (Ac (by simp only[zo,hpa];exact padded_run (by omega) _ (dgs b) m (by omega) (by omega)) ?_));refine Ae rfl (Ag rfl (Ag rfl (Ag rfl (Aa (Af ?_)))));apply A7;refine⟨_,by simp only[F107,resultD,Ba,resD,zg]<;>exact rfl,?_⟩;rw[hpa,hpb,ite_self];rfl
theorem add_run{d:Nat}(hd:8≤d)(S:St){a b:Nat}(ha:a<10 ^ 15)(hb:b<10 ^ 15):Bd LP NN d 81 [dcD a,dcD b] S=some (.tup [dcD (a+b),.int .i64 0],S,false):=by
 obtain⟨m,hm,hm1,hm2,hka,hkb,hpa,hpb⟩:=aDCPl ha hb;refine rq (F:=F81) rfl (by simp only[LP,snapVs,Bh,zs,zm,dcD]<;>exact rfl) (by simp only[F81,zv]<;>exact rfl) ?_;rintro d rfl;refine Ad (xo8 (h:=xo8 (h:=Ko (h:=?_))));refine Aw (Aa (Af ?_));refine Ai (Ad (xo0 (h:=xo0 (h:=Ac (by simp only[zo];exact both_run (by omega) _ (Ul (by omega)) (Ul (by omega))) ?_))));refine Ag rfl (Aa (Af ?_));refine Ad (Ae rfl (xo2 (h:=?_)));refine Aa (Af ?_);apply Be (by simp only[opd,zv]<;>(first | rfl | simp));refine Ak (Bi rfl (Ad (xo0 (h:=xo0 (h:=Ac (by simp only[zo];exact aligned_run (by omega) _ ha hb hm hm1 hm2 hpa hpb) ?_)))));refine Ag rfl (Lh (h:=Jo (h:=Jo (h:=Ag rfl (Ag rfl ?_)))));refine Ag rfl (Aa (Af ?_));refine Ai (Aq (Ad (xo5 (h:=xo0 (h:=xo5 (h:=xo0 (h:=Ac (by simp only[zo,beq_self_eq_true]<;>exact rfl) ?_)))))));refine Ag rfl (Aa (Af ?_));apply Ez (by simp only[opd,zv]<;>(first | rfl | simp));refine Ai (Fb (by simp only[newsVals,zw,Nat.reduceAdd]<;>exact rfl) (by simp only[zw]<;>exact rfl) ?_);refine xo27 (h:=xo7 (h:=Bc rfl rfl (Bc rfl rfl ?_)));refine Az (by simp only[zo];exact plus_run (by omega) _ (by omega) hka hkb) rfl ?_;refine Bc rfl rfl (Az (by simp only[zo];exact U7 (by omega) _ false (Bl (a+b) (m+1)) (by rw[Bz];omega) (by have:=Ou (Bl (a+b) (m+1));rw[Bz]at this;omega)) rfl ?_);apply Aj (by simp only[zo,Lz,Bool.false_and]<;>exact rfl) rfl rfl;apply Aj (by simp only[zo,Lz,Ls_,Bool.false_and]<;>exact rfl) rfl rfl;refine Az (by simp only[zl,zm,Bg,overlay,Bh,zs,zc,zf,List.take,List.drop,Bool.false_and]<;>exact rfl) rfl ?_;refine D9 rfl rfl (Ce (Af ?_));refine A7 (bk_r (Nu ?_));refine⟨_,by simp only[F81,resultD,Ba,resD,zg,zd,rowsOf,Au,List.take,List.drop,zm]<;>exact rfl,?_⟩;rw[H9 (by omega) (by omega) (by rw[Nat.pow_succ];omega)];rfl
theorem fill_drop(n k:Nat):∀j,(Bl n (j+k)).drop j=Bl n k
 | 0=>by rw[Nat.zero_add];rfl
 | j+1=>by
  rw[show j+1+k=(j+k)+1 by omega,Bl,List.drop_succ_cons];exact fill_drop n k j
theorem dgs_self{n:Nat}(h:n<10 ^ 19):Bl n (dgs n).length=dgs n:=by
 have h1:=dgs_pos n;have h2:=Nj (n:=n) (k:=19) (by omega) (by omega) h;rw[←Wn (n:=n) (k:=(dgs n).length) h1 (by omega) (dgs_lt 20 n (by omega)),pad,Nat.sub_self];rfl
theorem last_dgs{n:Nat}(h:n<10 ^ 19){k:Nat}(h1:1≤k)(h2:k≤20):Wu k (dgs n)=Bl n k:=by
 have h3:=Nj (n:=n) (k:=19) (by omega) (by omega) h;rw[Wu];by_cases hk:(dgs n).length≤k
 ·
  have xO:n<10 ^ k:=Nat.lt_of_lt_of_le (dgs_lt 20 n (by omega)) (Nat.pow_le_pow_right (by decide) hk);rw[Wn h1 h2 xO,Bz,Nat.sub_self];rfl
 rw[show pad k (dgs n)=dgs n by rw[pad,show k-(dgs n).length=0 by omega];rfl];have e:=fill_drop n k ((dgs n).length-k);rw[show (dgs n).length-k+k=(dgs n).length by omega,dgs_self h]at e;exact e
theorem fill_mod(n:Nat):∀k j,k≤j→Bl (n % 10 ^ j) k=Bl n k
 | 0,_,_=>rfl
 | k+1,j,h=>by
  rw[Bl,Bl,fill_mod n k j (by omega)];congr 3;obtain⟨i,rfl⟩:∃i,j=(k+1)+i:=⟨j-(k+1),by omega⟩;rw[Nat.pow_add,Nat.mod_mul,Nat.pow_succ];have hp:0<10 ^ k:=Nat.pow_pos (by decide);rw[Nat.mod_mul];generalize n / (10 ^ k*10) % 10 ^ i=z;rw[show n % 10 ^ k+10 ^ k*(n / 10 ^ k % 10)+10 ^ k*10*z=n % 10 ^ k+10 ^ k*(n / 10 ^ k % 10+10*z) by rw[Nat.mul_add];rw[Nat.mul_assoc];omega];rw[Nat.add_mul_div_left _ _ hp,Nat.div_eq_of_lt (Nat.mod_lt _ hp)];omega
theorem Jj{n:Nat}(h:n<10 ^ 19){k:Nat}(h1:1≤k)(h2:k≤20):strip (Wu k (dgs n))=dgs (n % 10 ^ k):=by
 rw[last_dgs h h1 h2,←fill_mod n k k (Nat.le_refl k)];exact H9 h1 h2 (Nat.mod_lt _ (Nat.pow_pos (by decide)))
theorem toz_run{d:Nat}(hd:17≤d)(S:St){n:Nat}(h1:1≤n)(h6:n≤6)(l:List UInt8):Bd LP NN d 227 [.agg (shN n),.agg [.bool false,.str (mkS l)]] S=some (.sl 1 (bR l) none,S,false):=by
 refine rq (F:=F227) rfl (by simp only[LP,snapVs,Bh,zs,zm,shN]<;>exact rfl) (by simp only[F227,zv]<;>exact rfl) ?_;rintro d rfl;refine Ad (xo8 (h:=xo8 (h:=?_)));refine Aw (Aa (Af ?_));refine Ad (xo5 (h:=xo0 (h:=Ac (by simp only[zl,Fz]<;>exact rfl) ?_)));refine Ag rfl (Aa (Af ?_));refine Ai (Ad (xo0 (h:=Ac (by simp only[zo];exact usg_run (by omega) _ h1 h6) ?_)));refine Ag rfl (Aa (Af ?_));refine Ad (xo5 (h:=xo0 (h:=?_)));refine Aa (Af ?_);apply Be (by simp only[opd,zv]<;>(first | rfl | simp));refine Ak (Bi rfl (Ad (Ae rfl (Ag rfl (Aa (Af ?_))))));apply A7;refine⟨_,by simp only[F227,resultD,Ba,resD,zg]<;>exact rfl,?_⟩;rfl
theorem bclip_run{d:Nat}(hd:1≤d)(S:St)(l:List (List D))(c:Option Nat):Bd LP NN d 200 [.sl 1 l c] S=some (.sl 1 l (some l.length),S,false):=by
 have hb0:((0:Int)≤((l.length:Nat):Int))=True:=eq_true (by omega);refine rq (F:=F200) rfl (by simp only[LP,snapVs,zs,zm]<;>exact rfl) (by simp only[F200,zv]<;>exact rfl) ?_;rintro d rfl;refine Ad (Aw (Aa (Af ?_)));refine Ad (Ae rfl (Ae rfl (Ac (by simp only[zo,Fq]<;>exact rfl) ?_)));refine Ae rfl (Ac (by simp only[zo,Fq]<;>exact rfl) ?_);apply Ac (by simp only[zl,zm,Ee,Kt,Fe,Jv,H5,H5,Jv,hb0,Int.toNat_natCast,Nat.zero_le,Nat.le_refl,Nat.sub_zero,List.take_length]<;>exact rfl);refine Ag rfl (Aa (Af ?_));apply A7;refine⟨_,by simp only[F200,resultD,Ba,resD,zg]<;>exact rfl,?_⟩;rfl
theorem put_run{d:Nat}(hd:18≤d)(S:St){m n:Nat}(hm:m<10 ^ n)(h1:1≤n)(h6:n≤6):Bd LP NN d 157 [dcD m,.agg (shN n)] S=some (.tup [.sl 1 (bR (Bl m n)) (some n),.int .i64 0],S,false):=by
 have hm6:m<10 ^ 6:=Nat.lt_of_lt_of_le hm (Nat.pow_le_pow_right (by decide) h6);have uw:=Ul (n:=m) (by omega);have hln:=Nj h1 (by omega) hm;have hpd:=Wn h1 (by omega) hm;refine rq (F:=F157) rfl (by simp only[LP,snapVs,Bh,zs,zm,dcD,shN]<;>exact rfl) (by simp only[F157,zv]<;>exact rfl) ?_;rintro d rfl;refine Ad (xo8 (h:=xo8 (h:=?_)));refine Aw (Aw (Aa (Af ?_)));refine Ad (xo0 (h:=Ac (by simp only[zo];exact ukd_run (by omega) _ h1 h6) ?_));refine Ag rfl (Aa (Af ?_));refine Ai (Ad (Ae rfl (xo2 (h:=Ag rfl (En 0 (b:=false) ?_)))));refine Ap rfl (xo0 (h:=?_));refine Ap rfl (Ac (by simp only[zo];exact Ip (by omega) _ false (dgs m) uw) ?_);refine Ap rfl (xo2 (h:=xo3 (h:=?_)));refine Aa (Af ?_);apply Be (by simp only[opd,zv]<;>(first | rfl | simp));refine Ak (Bi rfl (Ai (Ad (Ae rfl (xo2 (h:=?_))))));refine Aa (Af ?_);apply Be (by simp only[opd,zv]<;>(first | rfl | simp));refine Ak (Bi rfl (Ad (xo0 (h:=xo5 (h:=xo0 (h:=xo5 (h:=xo0 (h:=Ac (by simp only[zo];exact rdig_run (by omega) _ uw n h1 (by omega) hln) ?_))))))));refine Ag rfl (Lh (h:=Jo (h:=Ag rfl (Ag rfl ?_))));refine Aa (Af ?_);refine Ai (Ad (Ae rfl (xo2 (h:=?_))));refine Aa (Af ?_);apply Be (by simp only[opd,zv]<;>(first | rfl | simp));refine Ak (Bi rfl (Ai (Eh ?_)));refine xo7 (h:=Az (by simp only[zo];exact uof_run (by omega) _ h1 h6) rfl ?_);apply Aj (by simp only[zo,Au,List.take,List.drop,zm]<;>exact rfl) rfl rfl;refine xo7 (h:=xo27 (h:=xo7 (h:=D9 rfl rfl (dw_kq 0 (b:=false) ?_))));refine Cc rfl rfl (Cc rfl rfl (xo6 (h:=Bc rfl rfl ?_)));refine xo51 (h:=Az (by simp only[zo];exact toz_run (by omega) _ h1 h6 _) rfl ?_);refine Az (by simp only[zo];exact bclip_run (by omega) _ _ _) rfl ?_;refine D9 rfl rfl (dw_mc rfl (Ce (Af ?_)));apply A7;refine⟨_,by simp only[F157,resultD,Ba,resD,zg]<;>exact rfl,?_⟩;rw[hpd,Mc,Bz];simp only[leaveP,leave,snapVs,zs,zf,zk]
theorem store_run{d:Nat}(hd:19≤d)(S:St){a n:Nat}(ha:a<10 ^ 15)(h1:1≤n)(h6:n≤6):Bd LP NN d 103 [dcD a,.agg (shN n),.int .u8 0] S=some (.tup [.sl 1 (bR (Bl a n)) (some n),.bool (!decide ((dgs a).length≤n)),.int .i64 0],S,false):=by
 have uw:=Ul (n:=a) (by omega);have hmd:a % 10 ^ n<10 ^ n:=Nat.mod_lt _ (Nat.pow_pos (by decide));refine rq (F:=F103) rfl (by simp only[LP,snapVs,Bh,zs,zm,dcD,shN]<;>exact rfl) (by simp only[F103,zv]<;>exact rfl) ?_;rintro d rfl;refine Ad (xo8 (h:=xo8 (h:=?_)));refine Aw (Aw (Aw (Aa (Af ?_))));refine Ai (Aq (Ad (xo0 (h:=Ac (by simp only[zo];exact Ip (by omega) _ false (dgs a) uw) ?_))));refine xo2 (h:=Ag rfl (En 0 (b:=false) ?_));refine Ap rfl (xo0 (h:=?_));refine Ap rfl (Ac (by simp only[zo];exact Z7 (by omega) _ h1 h6) ?_);refine Ap rfl (xo2 (h:=xo3 (h:=Ag rfl (En 0 (b:=false) ?_))));refine Ap rfl (Ae rfl (Ap rfl (xo2 (h:=xo3 (h:=Ag rfl (Aa ?_))))));refine Af ?_;apply Be (by simp only[opd,zv]<;>(first | rfl | simp));refine Ad (xo5 (h:=xo0 (h:=xo2 (h:=Ag rfl (En 0 (b:=false) ?_)))));refine Cm rfl rfl (Cm rfl rfl (Cm rfl rfl (xo3 (h:=Ag rfl (Aa ?_)))));refine Af ?_;apply Be (by simp only[opd,zv]);refine Ak (D8 (Bi rfl (Ad (xo0 (h:=xo5 (h:=xo0 (h:=Ae rfl (Ac (by simp only[zo];exact round_run (by omega) _ uw) ?_))))))));refine Ag rfl (Lh (h:=Jo (h:=Ko (h:=Qx (h:=Ag rfl (Aa ?_))))));refine Af ?_;refine Ad (Ae rfl (xo2 (h:=Ag rfl (Aa ?_))));refine Af ?_;refine Ai (Ad (Ae rfl (Aa (Af ?_))));apply Be (by simp only[opd,zv]<;>(first | rfl | simp));refine Ak (Bi rfl (Ad (xo0 (h:=xo5 (h:=xo0 (h:=xo5 (h:=xo0 (h:=Ac (by simp only[zo];exact rfits_run (by omega) _ uw n h1 (by omega)) ?_))))))));refine Ag rfl (Lh (h:=Jo (h:=Ag rfl (Ag rfl ?_))));refine Aa (Af ?_);refine Ad (xo0 (h:=xo5 (h:=xo0 (h:=xo5 (h:=xo0 (h:=Ac (by simp only[zo];exact low_run (by omega) _ uw n h1 (by omega)) ?_))))));refine Ag rfl (Ac (by simp only[zo,Lz,Bool.false_and,Jj (show a<10 ^ 19 by omega) h1 (show n≤20 by omega)]<;>exact rfl) ?_);apply Ac (by simp only[zo,Lz,Ls_,Bool.false_and,Jj (show a<10 ^ 19 by omega) h1 (show n≤20 by omega)]<;>exact rfl);apply Ac (by simp only[zl,zm,Bool.false_and,Jj (show a<10 ^ 19 by omega) h1 (show n≤20 by omega)]<;>exact rfl);apply Ac (by simp only[zl,zm,Bg,overlay,Bh,zs,zc,zf,List.take,List.drop,Bool.false_and,Jj (show a<10 ^ 19 by omega) h1 (show n≤20 by omega)]<;>exact rfl);refine Ag rfl (Aa (Af ?_));refine Ad (Aw (Aa (Af ?_)));refine Ai (Ad (xo5 (h:=xo0 (h:=xo2 (h:=?_)))));refine Aa (Af ?_);apply Be (by simp only[opd,zv]<;>(first | rfl | simp));refine Ak (Bi rfl (Ad (Ae rfl (xo0 (h:=xo0 (h:=Ac (by simp only[zo];exact put_run (by omega) _ hmd h1 h6) ?_))))));refine Ag rfl (Lh (h:=Jo (h:=Ag rfl (Ag rfl ?_))));refine Aa (Af ?_);refine Ad (Ae rfl (Ae rfl (Ag rfl (En 0 (b:=false) ?_))));refine Ap rfl (Ae rfl (Ap rfl (Zo (h:=xo3 (h:=Ae rfl (Ag rfl ?_))))));refine Ag rfl (Ag rfl (Aa (Af ?_)));apply A7;refine⟨_,by simp only[F103,resultD,Ba,resD,zg]<;>exact rfl,?_⟩;rw[fill_mod a n n (Nat.le_refl n)];simp only[leaveP,leave,snapVs,zs,zf,zk]
end Go.Proofs.YtbhnlppboegmjaaGreatDoor
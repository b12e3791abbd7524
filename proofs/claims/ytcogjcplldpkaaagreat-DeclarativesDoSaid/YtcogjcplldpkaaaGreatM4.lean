/- Proved here: parts of the proof, joined (Low1, Low, E1, E2, E3, E4, E5, E6, E7): an abstract machine, its soundness, what functions of the program compute in it; no condition. -/
import Derived.Test.YtcogjcplldpkaaaGreatM3
namespace Go.Proofs.YtcogjcplldpkaaaGreat
set_option maxRecDepth 100000
set_option maxHeartbeats 4000000
set_option linter.unusedVariables false

def F2 : LFunc := ⟨[], 0,
.region [qo .fail []] [],
[]⟩
theorem F2_low : lowFn Tryz.prog (KD [] []) [] Tryz.f2 = some F2 := by as_aux_lemma => kernel_rfl
def F3 : LFunc := ⟨[0, 1, 4, 5, 6, 7, 8, 9, 10, 11, 12, 13, 14, 15, 16, 17, 18, 19, 20, 21, 22, 23, 24, 32, 58, 60, 65, 88, 95, 115, 146, 158, 162, 174, 189, 203, 217, 221, 232], 2,
.seq (.region [qbb false] [(2, 0)])
(.seq (.seq (.region [qe 0,
qln false 0,
qo (.bin .gtr) [.loc 0, .const (.int .i64 6)],
ql 0,
qg .mv [.env 1] 0 false,
qg (.len false) [.loc 0] 1 false,
qg (.bin .gtr) [.loc 0, .const (.int .i64 40)] 2 false,
qpt 3 0] [(23, 0)])
(.cond (.env 23) (.seq (.region [qo (.call 4) [],
ql 0] [(2, 0)])
(.ret)) (.skip)))
(.seq (.region [qe 0,
qk 5 0,
qo (.alloc 32 [.str ⟨#[]⟩, .nils, .nils, .nils, .nils, .nils, .nils, .nils, .nils]) [],
qo (.store 9) [.loc 0, .loc 1]] [(3, 1)])
(.seq (.region [qo (.build [.str ⟨#[]⟩, .int .u8 0, .bool false, .nils, .str ⟨#[]⟩, .bool false, .int .i64 0, .int .i64 0] []) [],
qo (.box 40 8) [.loc 0],
ql 0] [(4, 0)])
(.seq (.region [qo (.load 9 true) [.env 3],
qe 4,
qo (.mkif 34) [.loc 0],
qo (.build [] []) [],
qo (.mkif 49) [.loc 0],
qo (.call 6) [.loc 4, .loc 2, .loc 0],
ql 0,
qx 0 0,
qx 1 1,
qo (.alloc 45 [.int .i64 0, .int .i64 0, .int .i64 0]) [],
ql 2,
qo (.store 3) [.loc 1, .loc 2]] [(5, 1), (6, 2)])
(.seq (.seq (.drawn [qo (.load 3 true) [.env 6],
qw .mv [.env 0] 0 1,
qw (.call 7) [.loc 0] 2 2,
qw (.eqs true [0, 0, 0]) [.loc 2, .loc 0] 7 3,
qw .mv [.loc 0] 15 4,
qh .mv [.env 5] 0 false 31 5,
qh (.eqp false) [.loc 0, .const (.nilp)] 1 false 63 6,
qh (.faddr 0) [.env 6] 2 false 31 7,
qh (.load 1 false) [.loc 0] 3 false 159 8,
qh (.bin .neq) [.loc 0, .const (.int .i64 0)] 4 false 415 9,
qh (.eqb true) [.loc 3, .loc 0] 5 false 1023 10,
qw .pick [.loc 6, .const (.bool true), .loc 0] 2047 11] [(24, 0)] [])
(.cond (.env 24) (.seq (.region [qbb false] [(2, 0)])
(.ret)) (.skip)))
(.seq (.seq (.region [qe 5,
qo (.eqp false) [.loc 0, .const (.nilp)]] [(25, 0)])
(.cond (.env 25) (.seq (.region [qo (.call 4) [],
ql 0] [(2, 0)])
(.ret)) (.skip)))
(.seq (.region [qo .mv [.const (.nils)]] [(7, 0)])
(.seq (.region [qbb false] [(8, 0)])
(.seq (.seq (.region [qi 0] [(9, 0)])
(.block 0 (.loop (.seq (.seq (.region [qe 9,
qe 1,
qln false 0,
qo (.bin .lss) [.loc 2, .loc 0]] [(26, 0)])
(.cond (.env 26) (.skip) (.exit 0)))
(.seq (.block 1 (.seq (.region [qe 1,
qe 9,
qo (.iaddr 4) [.loc 1, .loc 0],
qo (.load 4 true) [.loc 0],
qo (.alloc 52 [.int .u8 0, .int .u8 0, .int .u8 0, .int .u8 0]) [],
qo (.store 4) [.loc 0, .loc 1]] [(10, 1)])
(.seq (.region [qfe 1 10,
qd 1 0,
qo (.bin .rem) [.loc 0, .const (.int .u8 4)],
qfe 1 10,
qd 1 0,
qo (.bin .rem) [.loc 0, .const (.int .u8 4)],
qo (.bin .add) [.loc 0, .const (.int .u8 1)],
qo (.slice true 0 true true false) [.const (.str ⟨#[48, 49, 50, 51]⟩), .loc 4, .loc 0],
qo (.bin .add) [.const (.str ⟨#[70]⟩), .loc 0],
ql 0] [(11, 0)])
(.seq (.seq (.region [qe 8,
ql 0,
qg (.faddr 3) [.env 10] 0 true,
qg (.load 1 false) [.loc 0] 1 true,
qg (.bin .quo) [.loc 0, .const (.int .u8 4)] 2 true,
qg (.bin .rem) [.loc 0, .const (.int .u8 2)] 3 true,
qg (.bin .eql) [.loc 0, .const (.int .u8 0)] 4 true,
qpf 5 0] [(27, 0)])
(.cond (.env 27) (.seq (.region [qe 5,
qo (.build [.str ⟨#[]⟩, .int .i64 0, .int .i64 0, .nils, .nils] [(0, 1)]) [.const (.str ⟨#[82, 69, 65, 68]⟩)],
qo (.call 8) [.loc 1, .const (.nilp), .loc 0, .const (.int .i64 1)],
qo (.alloc 38 [.bool false, .nils, .str ⟨#[]⟩, .bool false, .int .i64 0]) [],
qo (.store 5) [.loc 0, .loc 1]] [(12, 1)])
(.seq (.seq (.region [qo (.load 5 true) [.env 12],
qo (.build [.bool false, .nils, .str ⟨#[]⟩, .bool false, .int .i64 0] [(0, 1)]) [.const (.bool true)],
qkk 9 1 0,
qo (.un .not) [.loc 0]] [(28, 0)])
(.cond (.env 28) (.seq (.region [qbb false] [(2, 0)])
(.ret)) (.skip)))
(.region [qbb false] [(8, 0)]))) (.skip)))
(.seq (.region [qe 4,
qe 11,
qo .nilck [.loc 1],
qo (.faddr 0) [.loc 0],
qo (.store 1) [.loc 0, .loc 2]] [])
(.seq (.region [qe 4,
qfe 2 10,
qd 1 0,
qo (.bin .rem) [.loc 0, .const (.int .u8 5)],
qo .nilck [.loc 3],
qo (.faddr 1) [.loc 0],
qo (.store 1) [.loc 0, .loc 2]] [])
(.seq (.region [qe 4,
qo .nilck [.loc 0],
qo (.faddr 1) [.loc 0],
qd 1 0,
ql 0] [(13, 0)])
(.seq (.region [qo (.load 4 true) [.env 10],
qe 11,
qkk 10 1 0,
qo (.alloc 57 [.str ⟨#[]⟩, .int .i64 0, .int .i64 0, .nils, .nils]) [],
qo (.store 5) [.loc 0, .loc 1]] [(14, 1)])
(.seq (.seq (.region [qfe 0 14,
qd 1 0,
qo (.bin .eql) [.loc 0, .const (.str ⟨#[79, 80, 69, 78]⟩)]] [(29, 0)])
(.cond (.env 29) (.region [qfe 2 10,
qd 1 0,
qo (.bin .rem) [.loc 0, .const (.int .u8 4)],
qo (.bin .add) [.const (.int .u8 1), .loc 0],
ql 0] [(13, 0)]) (.skip)))
(.seq (.region [qe 4,
qo (.build [.bool false, .nils, .str ⟨#[]⟩, .bool false, .int .i64 0] [(0, 1)]) [.const (.bool true)],
qo (.build [.bool false, .nils, .str ⟨#[]⟩, .bool false, .int .i64 0] []) [],
qo (.build [.bool false, .nils, .str ⟨#[]⟩, .bool false, .int .i64 0] [(0, 1), (2, 1)]) [.const (.bool true), .const (.str ⟨#[65, 84, 32, 69, 78, 68]⟩)],
qo (.build [.bool false, .nils, .str ⟨#[]⟩, .bool false, .int .i64 0] [(0, 1), (4, 1)]) [.const (.bool true), .const (.int .i64 6)],
qo (.bslice 38 5 4 [.bool false, .nils, .str ⟨#[]⟩, .bool false, .int .i64 0] [0, 1, 2, 3] 1) [.loc 3, .loc 2, .loc 1, .loc 0],
qfe 3 10,
qd 1 0,
qo (.bin .rem) [.loc 0, .const (.int .u8 4)],
qo (.iaddr 5) [.loc 3, .loc 0],
qo (.load 5 true) [.loc 0],
qo .nilck [.loc 10],
qo (.faddr 2) [.loc 0],
qo (.store 5) [.loc 0, .loc 2]] [])
(.seq (.region [qe 4,
qo .nilck [.loc 0],
qo (.faddr 7) [.loc 0],
qd 1 0,
ql 0] [(15, 0)])
(.seq (.region [qe 5,
qo (.load 5 true) [.env 14],
qo (.call 8) [.loc 1, .const (.nilp), .loc 0, .const (.int .i64 0)],
qo (.alloc 38 [.bool false, .nils, .str ⟨#[]⟩, .bool false, .int .i64 0]) [],
qo (.store 5) [.loc 0, .loc 1]] [(16, 1)])
(.seq (.region [qe 4,
qo .nilck [.loc 0],
qo (.faddr 2) [.loc 0],
qo (.load 5 true) [.loc 0],
qo (.alloc 38 [.bool false, .nils, .str ⟨#[]⟩, .bool false, .int .i64 0]) [],
qo (.store 5) [.loc 0, .loc 1]] [(17, 1)])
(.seq (.seq (.region [qfe 0 14,
qd 1 0,
qo (.bin .eql) [.loc 0, .const (.str ⟨#[68, 73, 83, 80, 76, 65, 89]⟩)]] [(30, 0)])
(.cond (.env 30) (.seq (.seq (.region [qo (.load 5 true) [.env 16],
qo (.build [.bool false, .nils, .str ⟨#[]⟩, .bool false, .int .i64 0] [(0, 1), (4, 1)]) [.const (.bool true), .const (.int .i64 9)],
qkk 9 1 0,
qo (.un .not) [.loc 0],
ql 0,
qg .mv [.env 4] 0 false,
qg .nilck [.loc 0] 1 false,
qg (.faddr 7) [.loc 0] 2 false,
qg (.load 1 false) [.loc 0] 3 false,
qg .mv [.env 15] 4 false,
qg (.bin .neq) [.loc 1, .loc 0] 5 false,
qpt 6 0] [(31, 0)])
(.cond (.env 31) (.seq (.region [qbb false] [(2, 0)])
(.ret)) (.skip)))
(.exit 1)) (.skip)))
(.seq (.seq (.region [qfe 3 10,
qd 1 0,
qo (.bin .rem) [.loc 0, .const (.int .u8 4)],
qo (.bin .eql) [.loc 0, .const (.int .u8 3)]] [(32, 0)])
(.cond (.env 32) (.seq (.region [qe 0,
qe 11,
qe 13,
qo (.call 11) [.loc 2, .loc 1, .loc 0],
ql 0,
qx 0 0,
qx 1 1,
ql 1,
ql 1] [(18, 1), (19, 0)])
(.seq (.region [qe 19,
ql 0,
qg .mv [.env 8] 0 true,
qg (.un .not) [.loc 0] 1 true,
qpf 2 0] [(33, 0)])
(.cond (.env 33) (.seq (.region [qe 18,
qk 12 0,
qe 18,
qk 12 0,
qo (.bslice 9 1 2 [.str ⟨#[]⟩] [0, 1] 1) [.loc 2, .loc 0],
qo (.build [.bool false, .nils, .str ⟨#[]⟩, .bool false, .int .i64 0] [(0, 1), (1, 1)]) [.const (.bool true), .loc 0],
qo (.store 5) [.env 17, .loc 0]] [])
(.seq (.region [qe 7,
qe 18,
qk 12 0,
qo (.bslice 9 1 1 [.str ⟨#[]⟩] [0] 1) [.loc 0],
qo (.append 9 1 16 1) [.loc 3, .loc 0],
ql 0] [(7, 0)])
(.region [qbb true] [(8, 0)]))) (.seq (.region [qfe 1 10,
qd 1 0,
qo (.bin .rem) [.loc 0, .const (.int .u8 2)],
qo (.bin .eql) [.loc 0, .const (.int .u8 0)]] [(34, 0)])
(.cond (.env 34) (.region [qo (.build [.bool false, .nils, .str ⟨#[]⟩, .bool false, .int .i64 0] [(0, 1)]) [.const (.bool true)],
qo (.store 5) [.env 17, .loc 0]] []) (.skip)))))) (.skip)))
(.seq (.region [qo (.load 5 true) [.env 16],
qo (.load 5 true) [.env 17],
qkk 9 1 0,
qo (.un .not) [.loc 0],
ql 0,
qg .mv [.env 4] 0 false,
qg .nilck [.loc 0] 1 false,
qg (.faddr 7) [.loc 0] 2 false,
qg (.load 1 false) [.loc 0] 3 false,
qg .mv [.env 15] 4 false,
qg (.bin .add) [.loc 0, .const (.int .i64 1)] 5 false,
qg (.bin .neq) [.loc 2, .loc 0] 6 false,
qpt 7 0] [(35, 0)])
(.cond (.env 35) (.seq (.region [qbb false] [(2, 0)])
(.ret)) (.skip))))))))))))))))))
(.region [qe 9,
qo (.bin .add) [.loc 0, .const (.int .i64 1)],
ql 0] [(9, 0)]))))))
(.seq (.region [qe 5,
qk 13 0,
ql 0] [(20, 0)])
(.seq (.seq (.region [qe 20,
qln false 0,
qe 7,
qln false 0,
qo (.bin .neq) [.loc 2, .loc 0],
ql 0,
qg .mv [.env 20] 0 false,
qg .cap [.loc 0] 1 false,
qg .mv [.env 20] 2 false,
qg (.len false) [.loc 0] 3 false,
qg (.bin .neq) [.loc 2, .loc 0] 4 false,
qpt 5 0] [(36, 0)])
(.cond (.env 36) (.seq (.region [qbb false] [(2, 0)])
(.ret)) (.skip)))
(.seq (.seq (.region [qi 0] [(21, 0)])
(.block 2 (.loop (.seq (.seq (.region [qe 21,
qe 20,
qln false 0,
qo (.bin .lss) [.loc 2, .loc 0]] [(37, 0)])
(.cond (.env 37) (.skip) (.exit 2)))
(.seq (.block 3 (.seq (.drawn [qe 20,
qw .mv [.env 21] 0 1,
qw (.iaddr 1) [.loc 1, .loc 0] 3 2,
qw (.load 1 false) [.loc 0] 7 3,
qw .mv [.env 7] 0 4,
qw .mv [.env 21] 0 5,
qw (.iaddr 1) [.loc 1, .loc 0] 48 6,
qw (.load 1 false) [.loc 0] 112 7,
qw (.bin .neq) [.loc 4, .loc 0] 255 8] [(38, 0)] [])
(.cond (.env 38) (.seq (.region [qbb false] [(2, 0)])
(.ret)) (.skip))))
(.region [qe 21,
qo (.bin .add) [.loc 0, .const (.int .i64 1)],
ql 0] [(21, 0)]))))))
(.seq (.region [qo .mv [.const (.nilp)]] [(22, 0)])
(.seq (.region [qe 22,
qo (.build [.str ⟨#[]⟩, .int .i64 0, .int .i64 0, .nils, .nils] [(0, 1)]) [.const (.str ⟨#[82, 69, 65, 68]⟩)],
qo (.call 8) [.loc 1, .const (.nilp), .loc 0, .const (.int .i64 0)],
qo (.field 0 1 false) [.loc 0],
qo (.un .not) [.loc 0],
ql 0,
qg .mv [.env 22] 0 true,
qg (.call 13) [.loc 0] 1 true,
qg (.len false) [.loc 0] 2 true,
qg (.bin .eql) [.loc 0, .const (.int .i64 0)] 3 true,
qpf 4 0,
ql 0,
qg (.call 4) [] 0 true,
qpf 1 0,
ql 0] [(2, 0)])
(.ret))))))))))))))),
[.tmp 2]⟩
theorem F3_low : lowFn Tryz.prog (KD [] []) [0, 1, 4, 5, 6, 7, 8, 9, 10, 11, 12, 13, 14, 15, 16, 17, 18, 19, 20, 21, 22, 23, 24, 32, 58, 60, 65, 88, 95, 115, 146, 158, 162, 174, 189, 203, 217, 221, 232] Tryz.f3 = some F3 := by as_aux_lemma => kernel_rfl
def F4 : LFunc := ⟨[0, 1, 2, 3, 4, 5, 6, 7, 8, 9, 10, 11, 13, 23, 38, 118], 0,
.seq (.region [qbb false] [(0, 0)])
(.seq (.region [qo (.build [.str ⟨#[]⟩, .str ⟨#[]⟩, .int .u8 0, .int .u8 0, .nils, .nils, .nils, .bool false, .nils, .nils, .int .i64 0, .int .i64 0] [(0, 1)]) [.const (.str ⟨#[70]⟩)],
qo (.build [.str ⟨#[]⟩, .str ⟨#[]⟩, .int .u8 0, .int .u8 0, .nils, .nils, .nils, .bool false, .nils, .nils, .int .i64 0, .int .i64 0] [(0, 1)]) [.const (.str ⟨#[71]⟩)],
qo (.build [.str ⟨#[]⟩, .str ⟨#[]⟩, .int .u8 0, .int .u8 0, .nils, .nils, .nils, .bool false, .nils, .nils, .int .i64 0, .int .i64 0] [(0, 1)]) [.const (.str ⟨#[72]⟩)],
qo (.bslice 68 12 3 [.str ⟨#[]⟩, .str ⟨#[]⟩, .int .u8 0, .int .u8 0, .nils, .nils, .nils, .bool false, .nils, .nils, .int .i64 0, .int .i64 0] [0, 1, 2] 1) [.loc 2, .loc 1, .loc 0],
qo (.build [.str ⟨#[]⟩, .nils, .nils, .nils, .nils, .nils, .nils, .nils, .nils] [(1, 1)]) [.loc 0],
qo (.alloc 32 [.str ⟨#[]⟩, .nils, .nils, .nils, .nils, .nils, .nils, .nils, .nils]) [],
qo (.store 9) [.loc 0, .loc 1]] [(1, 1)])
(.seq (.region [qo (.bslice 9 1 6 [.str ⟨#[]⟩] [0, 1, 2, 3, 4, 5] 1) [.const (.str ⟨#[65, 70, 84, 69, 82]⟩), .const (.str ⟨#[69, 82, 82, 79, 82]⟩), .const (.str ⟨#[80, 82, 79, 67, 69, 68, 85, 82, 69]⟩), .const (.str ⟨#[79, 78]⟩), .const (.str ⟨#[70]⟩), .const (.str ⟨#[71]⟩)],
qo (.bslice 9 1 5 [.str ⟨#[]⟩] [0, 1, 2, 3, 4] 1) [.const (.str ⟨#[65, 70, 84, 69, 82]⟩), .const (.str ⟨#[83, 84, 65, 78, 68, 65, 82, 68]⟩), .const (.str ⟨#[69, 88, 67, 69, 80, 84, 73, 79, 78]⟩), .const (.str ⟨#[80, 82, 79, 67, 69, 68, 85, 82, 69]⟩), .const (.str ⟨#[73, 78, 80, 85, 84]⟩)],
qo (.bslice 28 1 2 [.nils] [0, 1] 1) [.loc 1, .loc 0],
ql 0] [(2, 0)])
(.seq (.seq (.region [qi 0] [(3, 0)])
(.block 0 (.loop (.seq (.seq (.region [qe 3,
qo (.bin .lss) [.loc 0, .const (.int .i64 2)]] [(13, 0)])
(.cond (.env 13) (.skip) (.exit 0)))
(.seq (.block 1 (.seq (.region [qe 3,
qe 3,
qo (.bin .add) [.loc 0, .const (.int .i64 1)],
qo (.slice true 0 true true false) [.const (.str ⟨#[49, 50]⟩), .loc 2, .loc 0],
qo (.bin .add) [.const (.str ⟨#[85]⟩), .loc 0],
qo (.build [.str ⟨#[]⟩, .nils, .nils] [(0, 1)]) [.loc 0],
qo (.alloc 71 [.str ⟨#[]⟩, .nils, .nils]) [],
qo (.store 3) [.loc 0, .loc 1]] [(4, 1)])
(.seq (.seq (.region [qi 0] [(5, 0)])
(.block 2 (.loop (.seq (.seq (.region [qe 5,
qe 2,
qe 3,
qo (.iaddr 1) [.loc 1, .loc 0],
qd 1 0,
qln false 0,
qo (.bin .lss) [.loc 5, .loc 0]] [(14, 0)])
(.cond (.env 14) (.skip) (.exit 2)))
(.seq (.block 3 (.drawn [qfe 1 4,
qw (.load 1 false) [.loc 0] 1 1,
qw .mv [.env 2] 0 2,
qw .mv [.env 3] 0 3,
qw (.iaddr 1) [.loc 1, .loc 0] 12 4,
qw (.load 1 false) [.loc 0] 28 5,
qw .mv [.env 5] 0 6,
qw (.iaddr 1) [.loc 1, .loc 0] 124 7,
qw (.load 1 false) [.loc 0] 252 8,
qw (.build [.int .u8 0, .str ⟨#[]⟩, .int .i64 0, .int .i64 0, .bool false] [(0, 1), (1, 1)]) [.const (.int .u8 1), .loc 0] 508 9,
qw (.bslice 74 5 1 [.int .u8 0, .str ⟨#[]⟩, .int .i64 0, .int .i64 0, .bool false] [0] 1) [.loc 0] 1020 10,
qw (.append 74 5 48 1) [.loc 9, .loc 0] 2047 11,
qw (.faddr 1) [.env 4] 4095 12,
qw (.store 1) [.loc 0, .loc 1] 8191 13] [] []))
(.region [qe 5,
qo (.bin .add) [.loc 0, .const (.int .i64 1)],
ql 0] [(5, 0)]))))))
(.region [qfe 7 1,
qd 1 0,
qo (.load 3 true) [.env 4],
qo (.bslice 71 3 1 [.str ⟨#[]⟩, .nils, .nils] [0] 1) [.loc 0],
qo (.append 71 3 64 1) [.loc 2, .loc 0],
qfe 7 1,
qo (.store 1) [.loc 0, .loc 1]] []))))
(.region [qe 3,
qo (.bin .add) [.loc 0, .const (.int .i64 1)],
ql 0] [(3, 0)]))))))
(.seq (.region [qo (.load 9 true) [.env 1],
qk 14 0,
ql 0,
qx 0 0,
qx 1 1,
qo (.alloc 45 [.int .i64 0, .int .i64 0, .int .i64 0]) [],
ql 2,
qo (.store 3) [.loc 1, .loc 2]] [(6, 1), (7, 2)])
(.seq (.seq (.region [qfe 0 7,
qd 1 0,
qo (.bin .neq) [.loc 0, .const (.int .i64 0)],
ql 0,
qg .mv [.env 6] 0 false,
qg (.len false) [.loc 0] 1 false,
qg (.bin .neq) [.loc 0, .const (.int .i64 2)] 2 false,
qpt 3 0,
ql 0,
qg .mv [.env 6] 0 false,
qg (.iaddr 3) [.loc 0, .const (.int .i64 0)] 1 false,
qg (.faddr 0) [.loc 0] 2 false,
qg (.load 1 false) [.loc 0] 3 false,
qg (.bin .neq) [.loc 0, .const (.str ⟨#[85, 49]⟩)] 4 false,
qpt 5 0,
ql 0,
qg .mv [.env 6] 0 false,
qg (.iaddr 3) [.loc 0, .const (.int .i64 0)] 1 false,
qg (.faddr 1) [.loc 0] 2 false,
qg (.load 1 false) [.loc 0] 3 false,
qg (.len false) [.loc 0] 4 false,
qg (.bin .neq) [.loc 0, .const (.int .i64 2)] 5 false,
qpt 6 0,
ql 0,
qg .mv [.env 6] 0 false,
qg (.iaddr 3) [.loc 0, .const (.int .i64 0)] 1 false,
qg (.faddr 1) [.loc 0] 2 false,
qg (.load 1 false) [.loc 0] 3 false,
qg (.iaddr 1) [.loc 0, .const (.int .i64 0)] 4 false,
qg (.load 1 false) [.loc 0] 5 false,
qg (.bin .neq) [.loc 0, .const (.str ⟨#[70]⟩)] 6 false,
qpt 7 0,
ql 0,
qg .mv [.env 6] 0 false,
qg (.iaddr 3) [.loc 0, .const (.int .i64 1)] 1 false,
qg (.faddr 0) [.loc 0] 2 false,
qg (.load 1 false) [.loc 0] 3 false,
qg (.bin .neq) [.loc 0, .const (.str ⟨#[85, 50]⟩)] 4 false,
qpt 5 0,
ql 0,
qg .mv [.env 6] 0 false,
qg (.iaddr 3) [.loc 0, .const (.int .i64 1)] 1 false,
qg (.faddr 2) [.loc 0] 2 false,
qg (.load 1 false) [.loc 0] 3 false,
qg (.bin .neq) [.loc 0, .const (.int .u8 1)] 4 false,
qpt 5 0,
ql 0,
qg .mv [.env 6] 0 false,
qg (.iaddr 3) [.loc 0, .const (.int .i64 1)] 1 false,
qg (.faddr 1) [.loc 0] 2 false,
qg (.load 1 false) [.loc 0] 3 false,
qg (.len false) [.loc 0] 4 false,
qg (.bin .neq) [.loc 0, .const (.int .i64 0)] 5 false,
qpt 6 0] [(15, 0)])
(.cond (.env 15) (.seq (.region [qbb false] [(0, 0)])
(.ret)) (.skip)))
(.seq (.region [qe 6,
qo (.call 15) [.loc 0, .const (.str ⟨#[70]⟩), .const (.int .u8 1)],
ql 0,
qx 0 0,
qx 1 1,
ql 1,
ql 1] [(8, 1), (9, 0)])
(.seq (.region [qe 6,
qo (.call 15) [.loc 0, .const (.str ⟨#[72]⟩), .const (.int .u8 1)],
ql 0,
qx 0 0,
qx 1 1,
ql 1,
ql 1] [(10, 1), (11, 0)])
(.seq (.region [qe 6,
qo (.call 15) [.loc 0, .const (.str ⟨#[72]⟩), .const (.int .u8 2)],
ql 0,
qx 0 0,
qx 1 1,
ql 1,
ql 1] [(12, 0)])
(.seq (.region [qe 8,
qo (.bin .eql) [.loc 0, .const (.int .i64 0)],
ql 0,
qg .mv [.env 9] 0 true,
qpf 1 0,
ql 0,
qg .mv [.env 10] 0 true,
qg (.bin .eql) [.loc 0, .const (.int .i64 1)] 1 true,
qpf 2 0,
ql 0,
qg .mv [.env 11] 0 true,
qpf 1 0,
ql 0,
qg .mv [.env 12] 0 true,
qg (.un .not) [.loc 0] 1 true,
qpf 2 0,
ql 0] [(0, 0)])
(.ret)))))))))),
[.tmp 0]⟩
theorem F4_low : lowFn Tryz.prog (KD [] []) [0, 1, 2, 3, 4, 5, 6, 7, 8, 9, 10, 11, 13, 23, 38, 118] Tryz.f4 = some F4 := by as_aux_lemma => kernel_rfl
def F5 : LFunc := ⟨[0, 2, 3, 4, 5, 6, 7, 8, 9, 11, 22, 34, 48], 1,
.seq (.region [qo (.alloc 32 [.str ⟨#[]⟩, .nils, .nils, .nils, .nils, .nils, .nils, .nils, .nils]) []] [(1, 0)])
(.seq (.region [qo (.alloc 32 [.str ⟨#[]⟩, .nils, .nils, .nils, .nils, .nils, .nils, .nils, .nils]) []] [(2, 0)])
(.seq (.seq (.region [qi 0] [(3, 0)])
(.block 0 (.loop (.seq (.seq (.region [qe 3,
qo (.bin .lss) [.loc 0, .const (.int .i64 4)]] [(9, 0)])
(.cond (.env 9) (.skip) (.exit 0)))
(.seq (.block 1 (.seq (.region [qe 3,
qe 3,
qo (.bin .add) [.loc 0, .const (.int .i64 1)],
qo (.slice true 0 true true false) [.const (.str ⟨#[48, 49, 50, 51]⟩), .loc 2, .loc 0],
qo (.bin .add) [.const (.str ⟨#[70]⟩), .loc 0],
qo (.build [.str ⟨#[]⟩, .str ⟨#[]⟩, .int .u8 0, .int .u8 0, .nils, .nils, .nils, .bool false, .nils, .nils, .int .i64 0, .int .i64 0] [(0, 1)]) [.loc 0],
qo (.alloc 68 [.str ⟨#[]⟩, .str ⟨#[]⟩, .int .u8 0, .int .u8 0, .nils, .nils, .nils, .bool false, .nils, .nils, .int .i64 0, .int .i64 0]) [],
qo (.store 12) [.loc 0, .loc 1]] [(4, 1)])
(.seq (.seq (.region [qe 3,
qo (.bin .rem) [.loc 0, .const (.int .i64 2)],
qo (.bin .eql) [.loc 0, .const (.int .i64 0)]] [(10, 0)])
(.cond (.env 10) (.region [qo (.bslice 9 1 1 [.str ⟨#[]⟩] [0] 1) [.const (.str ⟨#[83]⟩)],
qfe 6 4,
qo (.store 1) [.loc 0, .loc 1]] []) (.skip)))
(.region [qfe 1 2,
qd 1 0,
qo (.load 12 true) [.env 4],
qo (.bslice 68 12 1 [.str ⟨#[]⟩, .str ⟨#[]⟩, .int .u8 0, .int .u8 0, .nils, .nils, .nils, .bool false, .nils, .nils, .int .i64 0, .int .i64 0] [0] 1) [.loc 0],
qo (.append 68 12 184 1) [.loc 2, .loc 0],
qfe 1 2,
qo (.store 1) [.loc 0, .loc 1]] []))))
(.region [qe 3,
qo (.bin .add) [.loc 0, .const (.int .i64 1)],
ql 0] [(3, 0)]))))))
(.seq (.seq (.region [qi 0] [(5, 0)])
(.block 2 (.loop (.seq (.seq (.region [qe 5,
qe 0,
qln false 0,
qo (.bin .lss) [.loc 2, .loc 0]] [(11, 0)])
(.cond (.env 11) (.skip) (.exit 2)))
(.seq (.block 3 (.seq (.region [qe 5,
qk 12 0,
qo (.build [.str ⟨#[]⟩, .nils, .nils] [(0, 1)]) [.loc 0],
qo (.alloc 71 [.str ⟨#[]⟩, .nils, .nils]) [],
qo (.store 3) [.loc 0, .loc 1]] [(6, 1)])
(.seq (.region [qe 0,
qe 5,
qo (.iaddr 3) [.loc 1, .loc 0],
qo (.load 3 true) [.loc 0],
qk 16 0,
ql 0] [(7, 0)])
(.seq (.seq (.region [qi 0] [(8, 0)])
(.block 4 (.loop (.seq (.seq (.region [qe 8,
qe 7,
qln false 0,
qo (.bin .lss) [.loc 2, .loc 0]] [(12, 0)])
(.cond (.env 12) (.skip) (.exit 4)))
(.seq (.block 5 (.drawn [qfe 1 6,
qw (.load 1 false) [.loc 0] 1 1,
qw .mv [.env 7] 0 2,
qw .mv [.env 8] 0 3,
qw (.iaddr 1) [.loc 1, .loc 0] 12 4,
qw (.load 1 false) [.loc 0] 28 5,
qw .mv [.env 5] 0 6,
qw (.bin .add) [.loc 0, .const (.int .i64 1)] 64 7,
qw .mv [.env 8] 0 8,
qw (.bin .add) [.loc 0, .const (.int .i64 1)] 256 9,
qw (.build [.int .i64 0, .int .i64 0] [(0, 1), (1, 1)]) [.loc 2, .loc 0] 960 10,
qw (.build [.int .u8 0, .str ⟨#[]⟩, .int .i64 0, .int .i64 0, .bool false] [(0, 1), (1, 1), (2, 2)]) [.const (.int .u8 1), .loc 5, .loc 0] 2044 11,
qw (.bslice 74 5 1 [.int .u8 0, .str ⟨#[]⟩, .int .i64 0, .int .i64 0, .bool false] [0] 1) [.loc 0] 4092 12,
qw (.append 74 5 48 1) [.loc 11, .loc 0] 8191 13,
qw (.faddr 1) [.env 6] 16383 14,
qw (.store 1) [.loc 0, .loc 1] 32767 15] [] []))
(.region [qe 8,
qo (.bin .add) [.loc 0, .const (.int .i64 1)],
ql 0] [(8, 0)]))))))
(.region [qfe 7 2,
qd 1 0,
qo (.load 3 true) [.env 6],
qo (.bslice 71 3 1 [.str ⟨#[]⟩, .nils, .nils] [0] 1) [.loc 0],
qo (.append 71 3 64 1) [.loc 2, .loc 0],
qfe 7 2,
qo (.store 1) [.loc 0, .loc 1]] [])))))
(.region [qe 5,
qo (.bin .add) [.loc 0, .const (.int .i64 1)],
ql 0] [(5, 0)]))))))
(.seq (.region [qo (.load 9 true) [.env 2],
qo (.store 9) [.env 1, .loc 0]] [])
(.ret))))),
[.cell 1 9 true]⟩
theorem F5_low : lowFn Tryz.prog (KD [] []) [0, 2, 3, 4, 5, 6, 7, 8, 9, 11, 22, 34, 48] Tryz.f5 = some F5 := by as_aux_lemma => kernel_rfl
def F6 : LFunc := ⟨[0, 1, 2, 3, 6, 7, 8, 9, 17], 3,
.seq (.region [qo (.box 32 9) [.env 0],
qo .mv [.const (.nilp)],
qo (.alloc 45 [.int .i64 0, .int .i64 0, .int .i64 0]) []] [(3, 2), (4, 1), (5, 0)])
(.seq (.region [qo (.load 9 true) [.env 3],
qk 14 0,
ql 0,
qx 0 0,
qx 1 1,
qo (.alloc 45 [.int .i64 0, .int .i64 0, .int .i64 0]) [],
ql 2,
qo (.store 3) [.loc 1, .loc 2]] [(6, 1), (7, 2)])
(.seq (.seq (.region [qfe 0 7,
qd 1 0,
qo (.bin .neq) [.loc 0, .const (.int .i64 0)]] [(8, 0)])
(.cond (.env 8) (.seq (.drawn [qo (.load 3 true) [.env 7],
qw .mv [.const (.nilp)] 0 1,
qw (.store 3) [.env 5, .loc 1] 3 2] [(4, 1)] [])
(.ret)) (.skip)))
(.seq (.region [qe 1,
qo (.load 9 true) [.env 3],
qe 6,
qe 2,
qo (.build [.nili, .str ⟨#[]⟩, .nils, .nils, .nils, .nils, .nils, .nils, .nils, .nils, .nils, .nili, .bool false, .nils] [(0, 1), (1, 9), (10, 1), (11, 1)]) [.loc 3, .loc 2, .loc 1, .loc 0],
qo (.box 88 14) [.loc 0],
qo (.build [.int .i64 0, .int .i64 0, .int .i64 0] []) [],
ql 1,
qo (.store 3) [.env 5, .loc 1]] [(4, 1)])
(.ret)))),
[.tmp 4, .cell 5 3 true]⟩
theorem F6_low : lowFn Tryz.prog (KD [] []) [0, 1, 2, 3, 6, 7, 8, 9, 17] Tryz.f6 = some F6 := by as_aux_lemma => kernel_rfl
def F7 : LFunc := ⟨[0, 2, 3, 4, 5, 6, 7, 8, 12, 28, 49, 58, 63, 79], 1,
.seq (.region [qo (.alloc 45 [.int .i64 0, .int .i64 0, .int .i64 0]) []] [(1, 0)])
(.seq (.seq (.region [qi 0] [(2, 0)])
(.block 0 (.loop (.seq (.seq (.region [qe 2,
qe 0,
qln false 0,
qo (.bin .lss) [.loc 2, .loc 0]] [(8, 0)])
(.cond (.env 8) (.skip) (.exit 0)))
(.seq (.block 1 (.seq (.region [qe 0,
qe 2,
qo (.iaddr 3) [.loc 1, .loc 0],
qo (.load 3 true) [.loc 0],
qk 16 0,
ql 0] [(3, 0)])
(.seq (.region [qe 0,
qe 2,
qo (.iaddr 3) [.loc 1, .loc 0],
qo (.load 3 true) [.loc 0],
qk 17 0,
qln false 0,
ql 0] [(4, 0)])
(.seq (.seq (.region [qi 0] [(5, 0)])
(.block 2 (.loop (.seq (.seq (.region [qe 5,
qe 2,
qo (.bin .lss) [.loc 1, .loc 0]] [(9, 0)])
(.cond (.env 9) (.skip) (.exit 2)))
(.seq (.block 3 (.seq (.drawn [qe 0,
qw .mv [.env 2] 0 1,
qw (.iaddr 3) [.loc 1, .loc 0] 3 2,
qw (.load 3 true) [.loc 0] 7 3,
qw (.call 18) [.loc 0] 15 4,
qw (.bin .gtr) [.loc 0, .const (.int .u8 0)] 31 5,
qw .mv [.loc 0] 63 6,
qh .mv [.env 0] 0 true 127 7,
qh .mv [.env 5] 1 true 127 8,
qh (.iaddr 3) [.loc 1, .loc 0] 2 true 511 9,
qh (.load 3 true) [.loc 0] 3 true 1023 10,
qh (.call 18) [.loc 0] 4 true 2047 11,
qh .mv [.env 0] 5 true 127 12,
qh .mv [.env 2] 6 true 127 13,
qh (.iaddr 3) [.loc 1, .loc 0] 7 true 12415 14,
qh (.load 3 true) [.loc 0] 8 true 28799 15,
qh (.call 18) [.loc 0] 9 true 65535 16,
qh (.bin .eql) [.loc 5, .loc 0] 10 true 131071 17,
qw .pick [.loc 11, .loc 0, .const (.bool false)] 262143 18] [(10, 0)] [])
(.cond (.env 10) (.seq (.region [qe 2,
qo (.bin .add) [.loc 0, .const (.int .i64 1)],
qe 3,
qln false 0,
qo (.build [.int .i64 0, .int .i64 0] [(0, 1), (1, 1)]) [.loc 2, .loc 0],
qo (.build [.int .i64 0, .int .i64 0, .int .i64 0] [(0, 1), (1, 2)]) [.const (.int .i64 8), .loc 0],
qo (.store 3) [.env 1, .loc 0]] [])
(.ret)) (.skip))))
(.region [qe 5,
qo (.bin .add) [.loc 0, .const (.int .i64 1)],
ql 0] [(5, 0)]))))))
(.seq (.region [qi 0] [(6, 0)])
(.block 4 (.loop (.seq (.seq (.region [qe 6,
qe 4,
qo (.bin .lss) [.loc 1, .loc 0]] [(11, 0)])
(.cond (.env 11) (.skip) (.exit 4)))
(.seq (.block 5 (.seq (.region [qi 0] [(7, 0)])
(.block 6 (.loop (.seq (.seq (.region [qe 7,
qe 2,
qo (.bin .lss) [.loc 1, .loc 0]] [(12, 0)])
(.cond (.env 12) (.skip) (.exit 6)))
(.seq (.block 7 (.seq (.drawn [qe 0,
qw .mv [.env 7] 0 1,
qw (.iaddr 3) [.loc 1, .loc 0] 3 2,
qw (.load 3 true) [.loc 0] 7 3,
qw (.call 17) [.loc 0] 15 4,
qw .mv [.env 0] 0 5,
qw .mv [.env 2] 0 6,
qw (.iaddr 3) [.loc 1, .loc 0] 96 7,
qw (.load 3 true) [.loc 0] 224 8,
qw (.call 17) [.loc 0] 511 9,
qw .mv [.env 6] 0 10,
qw (.iaddr 1) [.loc 1, .loc 0] 2047 11,
qw (.load 1 false) [.loc 0] 4095 12,
qw (.call 19) [.loc 8, .loc 0] 8191 13] [(13, 0)] [])
(.cond (.env 13) (.seq (.region [qe 2,
qo (.bin .add) [.loc 0, .const (.int .i64 1)],
qe 3,
qln false 0,
qe 4,
qo (.bin .sub) [.loc 1, .loc 0],
qe 6,
qo (.bin .add) [.loc 1, .loc 0],
qo (.bin .add) [.loc 0, .const (.int .i64 1)],
qo (.build [.int .i64 0, .int .i64 0] [(0, 1), (1, 1)]) [.loc 7, .loc 0],
qo (.build [.int .i64 0, .int .i64 0, .int .i64 0] [(0, 1), (1, 2)]) [.const (.int .i64 8), .loc 0],
qo (.store 3) [.env 1, .loc 0]] [])
(.ret)) (.skip))))
(.region [qe 7,
qo (.bin .add) [.loc 0, .const (.int .i64 1)],
ql 0] [(7, 0)])))))))
(.region [qe 6,
qo (.bin .add) [.loc 0, .const (.int .i64 1)],
ql 0] [(6, 0)]))))))))))
(.region [qe 2,
qo (.bin .add) [.loc 0, .const (.int .i64 1)],
ql 0] [(2, 0)]))))))
(.seq (.region [qo (.build [.int .i64 0, .int .i64 0, .int .i64 0] []) [],
qo (.store 3) [.env 1, .loc 0]] [])
(.ret))),
[.cell 1 3 true]⟩
theorem F7_low : lowFn Tryz.prog (KD [] []) [0, 2, 3, 4, 5, 6, 7, 8, 12, 28, 49, 58, 63, 79] Tryz.f7 = some F7 := by as_aux_lemma => kernel_rfl
def F8 : LFunc := ⟨[0, 1, 2, 3, 6, 8, 9, 11, 14, 19, 29, 38, 47, 62], 4,
.seq (.region [qo (.box 57 5) [.env 2],
qo (.alloc 38 [.bool false, .nils, .str ⟨#[]⟩, .bool false, .int .i64 0]) []] [(4, 1), (5, 0)])
(.seq (.seq (.region [qe 0,
qo (.eqp false) [.loc 0, .const (.nilp)]] [(7, 0)])
(.cond (.env 7) (.seq (.region [qo (.build [.bool false, .nils, .str ⟨#[]⟩, .bool false, .int .i64 0] []) [],
qo (.store 5) [.env 5, .loc 0]] [])
(.ret)) (.skip)))
(.seq (.seq (.region [qfe 0 4,
qd 1 0] [(8, 0)])
(.block 0 (.seq (.seq (.region [qo (.bin .eql) [.env 8, .const (.str ⟨#[79, 80, 69, 78]⟩)],
ql 0] [(10, 0)])
(.cond (.env 10) (.skip) (.seq (.region [qo (.bin .eql) [.env 8, .const (.str ⟨#[67, 76, 79, 83, 69]⟩)],
ql 0] [(10, 0)])
(.cond (.env 10) (.skip) (.seq (.region [qo (.bin .eql) [.env 8, .const (.str ⟨#[82, 69, 65, 68]⟩)],
ql 0] [(10, 0)])
(.cond (.env 10) (.skip) (.seq (.region [qo (.bin .eql) [.env 8, .const (.str ⟨#[87, 82, 73, 84, 69]⟩)],
ql 0] [(10, 0)])
(.cond (.env 10) (.skip) (.seq (.region [qo (.bin .eql) [.env 8, .const (.str ⟨#[82, 69, 87, 82, 73, 84, 69]⟩)],
ql 0] [(10, 0)])
(.cond (.env 10) (.skip) (.seq (.region [qo (.bin .eql) [.env 8, .const (.str ⟨#[68, 69, 76, 69, 84, 69]⟩)],
ql 0] [(10, 0)])
(.cond (.env 10) (.skip) (.region [qo (.bin .eql) [.env 8, .const (.str ⟨#[83, 84, 65, 82, 84]⟩)],
ql 0] [(10, 0)])))))))))))))
(.cond (.env 10) (.skip) (.seq (.seq (.region [qe 0,
qo .nilck [.loc 0],
qo (.faddr 11) [.loc 0],
qd 1 0,
qo (.eqnil true 4) [.loc 0, .const (.nili)]] [(9, 0)])
(.cond (.env 9) (.seq (.drawn [qe 0,
qw .nilck [.loc 0] 1 1,
qw (.faddr 11) [.loc 0] 3 2,
qw (.load 1 false) [.loc 0] 7 3,
qw .mv [.env 1] 0 4,
qw (.load 5 true) [.env 4] 0 5,
qw .mv [.env 3] 0 6,
qw (.invoke [(34, 61), (41, 8), (49, 64), (91, 65)]) [.loc 3, .loc 2, .loc 1, .loc 0] 127 7,
qw (.store 5) [.env 5, .loc 0] 255 8] [] [])
(.ret)) (.skip)))
(.seq (.region [qo (.build [.bool false, .nils, .str ⟨#[]⟩, .bool false, .int .i64 0] []) [],
qo (.store 5) [.env 5, .loc 0]] [])
(.ret)))))))
(.seq (.seq (.region [qe 3,
qo (.bin .gtr) [.loc 0, .const (.int .i64 0)]] [(11, 0)])
(.cond (.env 11) (.seq (.region [qe 0,
qo .nilck [.loc 0],
qo (.faddr 12) [.loc 0],
qo (.store 1) [.loc 0, .const (.bool false)]] [])
(.seq (.region [qo (.build [.bool false, .nils, .str ⟨#[]⟩, .bool false, .int .i64 0] [(0, 1)]) [.const (.bool true)],
qo (.store 5) [.env 5, .loc 0]] [])
(.ret))) (.skip)))
(.seq (.seq (.region [qe 0,
qo .nilck [.loc 0],
qo (.faddr 0) [.loc 0],
qd 1 0,
qo (.eqnil false 4) [.loc 0, .const (.nili)]] [(12, 0)])
(.cond (.env 12) (.seq (.region [qo (.build [.bool false, .nils, .str ⟨#[]⟩, .bool false, .int .i64 0] []) [],
qo (.store 5) [.env 5, .loc 0]] [])
(.ret)) (.skip)))
(.seq (.drawn [qe 0,
qw .nilck [.loc 0] 1 1,
qw (.faddr 0) [.loc 0] 3 2,
qw (.load 1 false) [.loc 0] 7 3,
qw .mv [.env 1] 0 4,
qw (.load 5 true) [.env 4] 0 5,
qw (.invoke [(34, 61), (41, 8), (49, 64), (91, 65)]) [.loc 2, .loc 1, .loc 0, .const (.int .i64 0)] 63 6,
⟨.mv, [.loc 7], none, ob 0 7, some 0⟩,
qw (.store 5) [.loc 0, .loc 1] 255 8] [(6, 1)] [(38, [.bool false, .nils, .str ⟨#[]⟩, .bool false, .int .i64 0])])
(.seq (.seq (.region [qfe 0 6,
qd 1 0,
ql 0,
qg (.faddr 4) [.env 6] 0 true,
qg (.load 1 false) [.loc 0] 1 true,
qg (.bin .eql) [.loc 0, .const (.int .i64 6)] 2 true,
qpf 3 0] [(13, 0)])
(.cond (.env 13) (.seq (.region [qe 0,
qo (.load 5 true) [.env 4],
qo (.load 5 true) [.env 6],
qo (.call 20) [.loc 2, .loc 1, .loc 0],
qo (.store 5) [.env 5, .loc 0]] [])
(.ret)) (.skip)))
(.seq (.region [qo (.load 5 true) [.env 6],
qo (.store 5) [.env 5, .loc 0]] [])
(.ret)))))))),
[.cell 5 5 true]⟩
theorem F8_low : lowFn Tryz.prog (KD [] []) [0, 1, 2, 3, 6, 8, 9, 11, 14, 19, 29, 38, 47, 62] Tryz.f8 = some F8 := by as_aux_lemma => kernel_rfl
def F9 : LFunc := ⟨[0, 1, 2, 3, 4], 2,
.seq (.region [qo (.boxc 5) [.env 0],
qo (.boxc 5) [.env 1],
qbb false] [(2, 2), (3, 1), (4, 0)])
(.seq (.drawn [qfe 0 2,
qw (.load 1 false) [.loc 0] 1 1,
qw (.faddr 0) [.env 3] 0 2,
qw (.load 1 false) [.loc 0] 4 3,
qw (.eqb false) [.loc 2, .loc 0] 15 4,
qw .mv [.loc 0] 31 5,
qh (.faddr 2) [.env 2] 0 true 63 6,
qh (.load 1 false) [.loc 0] 1 true 127 7,
qh (.faddr 2) [.env 3] 2 true 63 8,
qh (.load 1 false) [.loc 0] 3 true 319 9,
qh (.bin .eql) [.loc 2, .loc 0] 4 true 1023 10,
qw .pick [.loc 5, .loc 0, .const (.bool false)] 2047 11,
qw .mv [.loc 0] 4095 12,
qh (.faddr 3) [.env 2] 0 true 8191 13,
qh (.load 1 false) [.loc 0] 1 true 16383 14,
qh (.faddr 3) [.env 3] 2 true 8191 15,
qh (.load 1 false) [.loc 0] 3 true 40959 16,
qh (.eqb false) [.loc 2, .loc 0] 4 true 131071 17,
qw .pick [.loc 5, .loc 0, .const (.bool false)] 262143 18,
qw .mv [.loc 0] 524287 19,
qh (.faddr 4) [.env 2] 0 true 1048575 20,
qh (.load 1 false) [.loc 0] 1 true 2097151 21,
qh (.faddr 4) [.env 3] 2 true 1048575 22,
qh (.load 1 false) [.loc 0] 3 true 5242879 23,
qh (.bin .eql) [.loc 2, .loc 0] 4 true 16777215 24,
qw .pick [.loc 5, .loc 0, .const (.bool false)] 33554431 25,
qw .mv [.loc 0] 67108863 26,
qh (.faddr 1) [.env 2] 0 true 134217727 27,
qh (.load 1 false) [.loc 0] 1 true 268435455 28,
qh (.len false) [.loc 0] 2 true 536870911 29,
qh (.faddr 1) [.env 3] 3 true 134217727 30,
qh (.load 1 false) [.loc 0] 4 true 1207959551 31,
qh (.len false) [.loc 0] 5 true 3355443199 32,
qh (.bin .eql) [.loc 3, .loc 0] 6 true 8589934591 33,
qw .pick [.loc 7, .loc 0, .const (.bool false)] 17179869183 34,
qw .mv [.loc 0] 34359738367 35,
qh (.faddr 1) [.env 2] 0 true 68719476735 36,
qh (.load 1 false) [.loc 0] 1 true 137438953471 37,
qh (.len false) [.loc 0] 2 true 274877906943 38,
qh (.bin .eql) [.loc 0, .const (.int .i64 0)] 3 true 549755813887 39,
qh .mv [.loc 0] 4 true 1099511627775 40,
qh (.faddr 1) [.env 2] 0 false 2199023255551 41,
qh (.load 1 false) [.loc 0] 1 false 4398046511103 42,
qh (.len false) [.loc 0] 2 false 8796093022207 43,
qh (.bin .eql) [.loc 0, .const (.int .i64 2)] 3 false 17592186044415 44,
qh .mv [.loc 0] 4 false 35184372088831 45,
qh (.faddr 1) [.env 2] 0 true 70368744177663 46,
qh (.load 1 false) [.loc 0] 1 true 140737488355327 47,
qh (.iaddr 1) [.loc 0, .const (.int .i64 0)] 2 true 281474976710655 48,
qh (.load 1 false) [.loc 0] 3 true 562949953421311 49,
qh (.faddr 1) [.env 3] 4 true 70368744177663 50,
qh (.load 1 false) [.loc 0] 5 true 1196268651020287 51,
qh (.iaddr 1) [.loc 0, .const (.int .i64 0)] 6 true 3448068464705535 52,
qh (.load 1 false) [.loc 0] 7 true 7951668092076031 53,
qh (.bin .eql) [.loc 4, .loc 0] 8 true 18014398509481983 54,
qh .pick [.loc 9, .loc 0, .const (.bool false)] 14 false 36028797018963967 55,
qh .mv [.loc 0] 15 false 72057594037927935 56,
qh (.faddr 1) [.env 2] 0 true 144115188075855871 57,
qh (.load 1 false) [.loc 0] 1 true 288230376151711743 58,
qh (.iaddr 1) [.loc 0, .const (.int .i64 1)] 2 true 576460752303423487 59,
qh (.load 1 false) [.loc 0] 3 true 1152921504606846975 60,
qh (.faddr 1) [.env 3] 4 true 144115188075855871 61,
qh (.load 1 false) [.loc 0] 5 true 2449958197289549823 62,
qh (.iaddr 1) [.loc 0, .const (.int .i64 1)] 6 true 7061644215716937727 63,
qh (.load 1 false) [.loc 0] 7 true 16285016252571713535 64,
qh (.bin .eql) [.loc 4, .loc 0] 8 true 36893488147419103231 65,
qh .pick [.loc 9, .loc 0, .const (.bool false)] 25 false 73786976294838206463 66,
qh .pick [.loc 26, .const (.bool true), .loc 0] 31 true 147573952589676412927 67,
qw .pick [.loc 32, .loc 0, .const (.bool false)] 295147905179352825855 68,
qw .mv [.loc 0] 590295810358705651711 69] [(4, 0)] [])
(.ret)),
[.tmp 4]⟩
theorem F9_low : lowFn Tryz.prog (KD [] [2, 3]) [0, 1, 2, 3, 4] Tryz.f9 = some F9 := by as_aux_lemma => kernel_rfl
def F10 : LFunc := ⟨[0, 1, 2, 4, 5, 6, 18], 2,
.seq (.region [qo (.boxc 4) [.env 0],
qo (.alloc 57 [.str ⟨#[]⟩, .int .i64 0, .int .i64 0, .nils, .nils]) []] [(2, 1), (3, 0)])
(.seq (.region [qo (.bslice 9 1 8 [.str ⟨#[]⟩] [0, 1, 2, 3, 4, 5, 6, 7] 1) [.const (.str ⟨#[79, 80, 69, 78]⟩), .const (.str ⟨#[67, 76, 79, 83, 69]⟩), .const (.str ⟨#[82, 69, 65, 68]⟩), .const (.str ⟨#[87, 82, 73, 84, 69]⟩), .const (.str ⟨#[82, 69, 87, 82, 73, 84, 69]⟩), .const (.str ⟨#[68, 69, 76, 69, 84, 69]⟩), .const (.str ⟨#[83, 84, 65, 82, 84]⟩), .const (.str ⟨#[68, 73, 83, 80, 76, 65, 89]⟩)],
qfe 0 2,
qd 1 0,
qo (.bin .rem) [.loc 0, .const (.int .u8 8)],
qo (.iaddr 1) [.loc 3, .loc 0],
qd 1 0,
ql 0] [(4, 0)])
(.seq (.region [qe 4,
qo (.build [.str ⟨#[]⟩, .nils] []) [],
qo (.bslice 94 2 1 [.str ⟨#[]⟩, .nils] [0] 1) [.loc 0],
qo (.build [.str ⟨#[]⟩, .int .i64 0, .int .i64 0, .nils, .nils] [(0, 1), (3, 1)]) [.loc 2, .loc 0],
qo (.alloc 57 [.str ⟨#[]⟩, .int .i64 0, .int .i64 0, .nils, .nils]) [],
qo (.store 5) [.loc 0, .loc 1]] [(5, 1)])
(.seq (.seq (.region [qe 4,
qo (.bin .eql) [.loc 0, .const (.str ⟨#[79, 80, 69, 78]⟩)]] [(6, 0)])
(.cond (.env 6) (.drawn [qfe 3 5,
qw (.load 1 false) [.loc 0] 1 1,
qw (.bslice 9 1 4 [.str ⟨#[]⟩] [0, 1, 2, 3] 1) [.const (.str ⟨#[73, 78, 80, 85, 84]⟩), .const (.str ⟨#[79, 85, 84, 80, 85, 84]⟩), .const (.str ⟨#[73, 45, 79]⟩), .const (.str ⟨#[69, 88, 84, 69, 78, 68]⟩)] 0 2,
qw (.faddr 2) [.env 2] 0 3,
qw (.load 1 false) [.loc 0] 8 4,
qw (.bin .rem) [.loc 0, .const (.int .u8 4)] 24 5,
qw (.iaddr 1) [.loc 3, .loc 0] 60 6,
qw (.load 1 false) [.loc 0] 124 7,
qw (.build [.int .u8 0, .str ⟨#[]⟩, .int .i64 0, .int .i64 0, .bool false] [(0, 1), (1, 1)]) [.const (.int .u8 1), .const (.str ⟨#[70, 88]⟩)] 0 8,
qw .mv [.env 1] 0 9,
qw (.build [.int .u8 0, .str ⟨#[]⟩, .int .i64 0, .int .i64 0, .bool false] [(0, 1), (1, 1)]) [.const (.int .u8 1), .loc 0] 512 10,
qw (.bslice 74 5 2 [.int .u8 0, .str ⟨#[]⟩, .int .i64 0, .int .i64 0, .bool false] [0, 1] 1) [.loc 2, .loc 0] 1792 11,
qw (.build [.str ⟨#[]⟩, .nils] [(0, 1), (1, 1)]) [.loc 4, .loc 0] 4092 12,
qw (.bslice 94 2 1 [.str ⟨#[]⟩, .nils] [0] 1) [.loc 0] 8188 13,
qw (.append 94 2 40 1) [.loc 12, .loc 0] 16383 14,
qw (.faddr 3) [.env 5] 32767 15,
qw (.store 1) [.loc 0, .loc 1] 65535 16] [] []) (.skip)))
(.seq (.region [qo (.load 5 true) [.env 5],
qo (.store 5) [.env 3, .loc 0]] [])
(.ret))))),
[.cell 3 5 true]⟩
theorem F10_low : lowFn Tryz.prog (KD [] [2]) [0, 1, 2, 4, 5, 6, 18] Tryz.f10 = some F10 := by as_aux_lemma => kernel_rfl
def F11 : LFunc := ⟨[0, 1, 2, 6, 7, 8, 9, 13, 22, 27, 40], 3,
.seq (.region [qi 0,
qbb false] [(3, 1), (4, 0)])
(.seq (.seq (.region [qi 0] [(5, 0)])
(.block 0 (.loop (.seq (.seq (.region [qe 5,
qe 0,
qln false 0,
qo (.bin .lss) [.loc 2, .loc 0]] [(7, 0)])
(.cond (.env 7) (.skip) (.exit 0)))
(.seq (.block 1 (.seq (.region [qe 0,
qe 5,
qo (.iaddr 3) [.loc 1, .loc 0],
qo (.load 3 true) [.loc 0],
qk 17 0,
qe 1,
qkk 19 1 0] [(8, 0)])
(.cond (.env 8) (.seq (.region [qe 5,
ql 0,
qbb true] [(3, 1), (4, 0)])
(.ret)) (.skip))))
(.region [qe 5,
qo (.bin .add) [.loc 0, .const (.int .i64 1)],
ql 0] [(5, 0)]))))))
(.seq (.seq (.region [qi 0] [(6, 0)])
(.block 2 (.loop (.seq (.seq (.region [qe 6,
qe 0,
qln false 0,
qo (.bin .lss) [.loc 2, .loc 0]] [(9, 0)])
(.cond (.env 9) (.skip) (.exit 2)))
(.seq (.block 3 (.seq (.region [qe 2,
qo (.bin .gtr) [.loc 0, .const (.int .u8 0)],
ql 0,
qg .mv [.env 0] 0 true,
qg .mv [.env 6] 1 true,
qg (.iaddr 3) [.loc 1, .loc 0] 2 true,
qg (.load 3 true) [.loc 0] 3 true,
qg (.call 18) [.loc 0] 4 true,
qg .mv [.env 2] 5 true,
qg (.bin .eql) [.loc 1, .loc 0] 6 true,
qpf 7 0] [(10, 0)])
(.cond (.env 10) (.seq (.region [qe 6,
ql 0,
qbb true] [(3, 1), (4, 0)])
(.ret)) (.skip))))
(.region [qe 6,
qo (.bin .add) [.loc 0, .const (.int .i64 1)],
ql 0] [(6, 0)]))))))
(.seq (.region [qi 0,
qbb false] [(3, 1), (4, 0)])
(.ret)))),
[.tmp 3, .tmp 4]⟩
theorem F11_low : lowFn Tryz.prog (KD [] []) [0, 1, 2, 6, 7, 8, 9, 13, 22, 27, 40] Tryz.f11 = some F11 := by as_aux_lemma => kernel_rfl
def F12 : LFunc := ⟨[0, 2], 1,
.seq (.region [qo .mv [.const (.str ⟨#[]⟩)]] [(1, 0)])
(.seq (.region [qe 0,
qe 0,
qo (.bin .add) [.loc 0, .const (.int .i64 1)],
qo (.slice true 0 true true false) [.const (.str ⟨#[48, 49, 50, 51, 52, 53]⟩), .loc 2, .loc 0],
qo (.bin .add) [.const (.str ⟨#[85]⟩), .loc 0],
ql 0] [(1, 0)])
(.ret)),
[.tmp 1]⟩
theorem F12_low : lowFn Tryz.prog (KD [] []) [0, 2] Tryz.f12 = some F12 := by as_aux_lemma => kernel_rfl
def F13 : LFunc := ⟨[0, 2, 4], 1,
.seq (.region [qo .mv [.const (.nils)]] [(1, 0)])
(.seq (.seq (.region [qe 0,
qo (.eqp false) [.loc 0, .const (.nilp)]] [(2, 0)])
(.cond (.env 2) (.seq (.region [qo .mv [.const (.nils)]] [(1, 0)])
(.ret)) (.skip)))
(.seq (.region [qe 0,
qo .nilck [.loc 0],
qo (.faddr 13) [.loc 0],
qd 1 0,
qk 22 0,
qk 21 0,
ql 0] [(1, 0)])
(.ret))),
[.tmp 1]⟩
theorem F13_low : lowFn Tryz.prog (KD [] []) [0, 2, 4] Tryz.f13 = some F13 := by as_aux_lemma => kernel_rfl
def F14 : LFunc := ⟨[0, 1, 2, 3, 4, 6, 7, 8, 10, 11, 12, 13, 25], 1,
.seq (.region [qo (.box 32 9) [.env 0],
qo .mv [.const (.nils)],
qo (.alloc 45 [.int .i64 0, .int .i64 0, .int .i64 0]) []] [(1, 2), (2, 1), (3, 0)])
(.seq (.region [qo .mv [.const (.nils)]] [(4, 0)])
(.seq (.seq (.region [qfe 7 1,
qd 1 0,
qln false 0,
qi 0] [(8, 2), (9, 1), (10, 0)])
(.block 0 (.loop (.seq (.region [qo (.bin .lss) [.env 10, .env 9]] [(11, 0)])
(.seq (.cond (.env 11) (.skip) (.exit 0))
(.seq (.block 1 (.seq (.region [qo (.iaddr 3) [.env 8, .env 10],
qo (.load 3 true) [.loc 0],
qo (.alloc 71 [.str ⟨#[]⟩, .nils, .nils]) [],
qo (.store 3) [.loc 0, .loc 1]] [(5, 1)])
(.seq (.region [qo (.load 9 true) [.env 1],
qe 4,
qo (.load 3 true) [.env 5],
qo (.call 23) [.loc 2, .loc 1, .loc 0],
ql 0,
qx 0 0,
qx 1 1,
qo (.alloc 79 [.str ⟨#[]⟩, .nils, .int .u8 0]) [],
qo (.alloc 45 [.int .i64 0, .int .i64 0, .int .i64 0]) [],
qo (.store 3) [.loc 1, .loc 3],
qo (.store 3) [.loc 1, .loc 3]] [(6, 3), (7, 2)])
(.seq (.seq (.region [qfe 0 7,
qd 1 0,
qo (.bin .neq) [.loc 0, .const (.int .i64 0)]] [(12, 0)])
(.cond (.env 12) (.seq (.drawn [qo (.load 3 true) [.env 7],
qw .mv [.const (.nils)] 0 1,
qw (.store 3) [.env 3, .loc 1] 3 2] [(2, 1)] [])
(.ret)) (.skip)))
(.region [qe 4,
qo (.load 3 true) [.env 6],
qo (.bslice 79 3 1 [.str ⟨#[]⟩, .nils, .int .u8 0] [0] 1) [.loc 0],
qo (.append 79 3 48 1) [.loc 2, .loc 0],
ql 0] [(4, 0)])))))
(.region [qo (.bin .add) [.env 10, .const (.int .i64 1)],
ql 0] [(10, 0)])))))))
(.seq (.region [qe 4,
qk 24 0,
qo (.build [.int .i64 0, .int .i64 0, .int .i64 0] []) [],
ql 1,
qo (.store 3) [.env 3, .loc 1]] [(2, 1)])
(.ret)))),
[.tmp 2, .cell 3 3 true]⟩
theorem F14_low : lowFn Tryz.prog (KD [] []) [0, 1, 2, 3, 4, 6, 7, 8, 10, 11, 12, 13, 25] Tryz.f14 = some F14 := by as_aux_lemma => kernel_rfl
def F15 : LFunc := ⟨[0, 1, 2, 4, 5, 6, 7, 8, 17], 3,
.seq (.region [qo (.box 9 1) [.env 1],
qo (.box 35 1) [.env 2],
qi 0,
qbb false] [(3, 3), (4, 2), (5, 1), (6, 0)])
(.seq (.region [qe 0,
qo (.mkfn 26) [.env 3],
qkk 25 1 0,
ql 0] [(7, 0)])
(.seq (.seq (.region [qe 7,
qo (.bin .lss) [.loc 0, .const (.int .i64 0)],
ql 0,
qg (.load 1 false) [.env 4] 0 true,
qg (.bin .neq) [.loc 0, .const (.int .u8 0)] 1 true,
qpf 2 0] [(8, 0)])
(.cond (.env 8) (.region [qe 0,
qo (.mkfn 28) [.env 4],
qkk 25 1 0,
ql 0] [(7, 0)]) (.skip)))
(.seq (.region [qe 7,
qo .max [.loc 0, .const (.int .i64 0)],
qe 7,
qo (.bin .geq) [.loc 0, .const (.int .i64 0)],
ql 2,
ql 1] [(5, 1), (6, 0)])
(.ret)))),
[.tmp 5, .tmp 6]⟩
theorem F15_low : lowFn Tryz.prog (KD [] []) [0, 1, 2, 4, 5, 6, 7, 8, 17] Tryz.f15 = some F15 := by as_aux_lemma => kernel_rfl
def F16 : LFunc := ⟨[0, 1, 2, 3, 8, 26, 32], 1,
.seq (.region [qo (.box 82 3) [.env 0],
qo .mv [.const (.nils)]] [(1, 1), (2, 0)])
(.seq (.region [qo (.bslice 9 1 1 [.str ⟨#[]⟩] [0] 1) [.const (.str ⟨#[65, 70, 84, 69, 82]⟩)],
ql 0] [(3, 0)])
(.seq (.seq (.region [qfe 2 1,
qd 1 0,
qo (.bin .and) [.loc 0, .const (.int .u8 1)],
qo (.bin .eql) [.loc 0, .const (.int .u8 1)]] [(4, 0)])
(.cond (.env 4) (.region [qe 3,
qo (.bslice 9 1 1 [.str ⟨#[]⟩] [0] 1) [.const (.str ⟨#[83, 84, 65, 78, 68, 65, 82, 68]⟩)],
qo (.append 9 1 16 1) [.loc 1, .loc 0],
ql 0] [(3, 0)]) (.skip)))
(.seq (.region [qe 3,
qo (.bslice 9 1 2 [.str ⟨#[]⟩] [0, 1] 1) [.const (.str ⟨#[69, 88, 67, 69, 80, 84, 73, 79, 78]⟩), .const (.str ⟨#[69, 82, 82, 79, 82]⟩)],
qfe 2 1,
qd 1 0,
qo (.bin .quo) [.loc 0, .const (.int .u8 2)],
qo (.bin .rem) [.loc 0, .const (.int .u8 2)],
qo (.iaddr 1) [.loc 4, .loc 0],
qd 1 0,
qo (.bslice 9 1 2 [.str ⟨#[]⟩] [0, 1] 1) [.loc 0, .const (.str ⟨#[80, 82, 79, 67, 69, 68, 85, 82, 69]⟩)],
qo (.append 9 1 16 1) [.loc 8, .loc 0],
ql 0] [(3, 0)])
(.seq (.seq (.region [qfe 2 1,
qd 1 0,
qo (.bin .quo) [.loc 0, .const (.int .u8 4)],
qo (.bin .rem) [.loc 0, .const (.int .u8 2)],
qo (.bin .eql) [.loc 0, .const (.int .u8 1)]] [(5, 0)])
(.cond (.env 5) (.region [qe 3,
qo (.bslice 9 1 1 [.str ⟨#[]⟩] [0] 1) [.const (.str ⟨#[79, 78]⟩)],
qo (.append 9 1 16 1) [.loc 1, .loc 0],
ql 0] [(3, 0)]) (.skip)))
(.seq (.seq (.region [qo (.load 3 true) [.env 1],
qk 18 0,
qo (.bin .gtr) [.loc 0, .const (.int .u8 0)]] [(6, 0)])
(.cond (.env 6) (.seq (.region [qe 3,
qo (.bslice 9 1 5 [.str ⟨#[]⟩] [0, 1, 2, 3, 4] 1) [.const (.str ⟨#[]⟩), .const (.str ⟨#[73, 78, 80, 85, 84]⟩), .const (.str ⟨#[79, 85, 84, 80, 85, 84]⟩), .const (.str ⟨#[73, 45, 79]⟩), .const (.str ⟨#[69, 88, 84, 69, 78, 68]⟩)],
qo (.load 3 true) [.env 1],
qk 18 0,
qo (.iaddr 1) [.loc 2, .loc 0],
qd 1 0,
qo (.bslice 9 1 1 [.str ⟨#[]⟩] [0] 1) [.loc 0],
qo (.append 9 1 16 1) [.loc 6, .loc 0],
ql 0] [(2, 0)])
(.ret)) (.skip)))
(.seq (.region [qe 3,
qo (.load 3 true) [.env 1],
qk 17 0,
qo (.append 9 1 16 1) [.loc 2, .loc 0],
ql 0] [(2, 0)])
(.ret))))))),
[.tmp 2]⟩
theorem F16_low : lowFn Tryz.prog (KD [] []) [0, 1, 2, 3, 8, 26, 32] Tryz.f16 = some F16 := by as_aux_lemma => kernel_rfl
def F17 : LFunc := ⟨[0, 1, 2, 3, 4, 6, 14], 1,
.seq (.region [qo (.box 82 3) [.env 0],
qo .mv [.const (.nils)]] [(1, 1), (2, 0)])
(.seq (.region [qo .mv [.const (.nils)]] [(3, 0)])
(.seq (.seq (.region [qi 0] [(4, 0)])
(.block 0 (.loop (.seq (.seq (.region [qe 4,
qo (.bin .lss) [.loc 0, .const (.int .i64 4)]] [(5, 0)])
(.cond (.env 5) (.skip) (.exit 0)))
(.seq (.block 1 (.seq (.region [qfe 0 1,
qd 1 0,
qe 4,
qo (.bin .shr) [.loc 1, .loc 0],
qo (.bin .and) [.loc 0, .const (.int .u8 1)],
qo (.bin .eql) [.loc 0, .const (.int .u8 1)]] [(6, 0)])
(.cond (.env 6) (.region [qe 3,
qe 4,
qe 4,
qo (.bin .add) [.loc 0, .const (.int .i64 1)],
qo (.slice true 0 true true false) [.const (.str ⟨#[48, 49, 50, 51]⟩), .loc 2, .loc 0],
qo (.bin .add) [.const (.str ⟨#[70]⟩), .loc 0],
qo (.bslice 9 1 1 [.str ⟨#[]⟩] [0] 1) [.loc 0],
qo (.append 9 1 16 1) [.loc 6, .loc 0],
ql 0] [(3, 0)]) (.skip))))
(.region [qe 4,
qo (.bin .add) [.loc 0, .const (.int .i64 1)],
ql 0] [(4, 0)]))))))
(.seq (.region [qe 3,
ql 0] [(2, 0)])
(.ret)))),
[.tmp 2]⟩
theorem F17_low : lowFn Tryz.prog (KD [] []) [0, 1, 2, 3, 4, 6, 14] Tryz.f17 = some F17 := by as_aux_lemma => kernel_rfl
def F18 : LFunc := ⟨[0, 1, 2, 6], 1,
.seq (.region [qo (.box 82 3) [.env 0],
qo .mv [.const (.int .u8 0)]] [(1, 1), (2, 0)])
(.seq (.seq (.region [qo (.load 3 true) [.env 1],
qk 17 0,
qln false 0,
qo (.bin .gtr) [.loc 0, .const (.int .i64 0)]] [(3, 0)])
(.cond (.env 3) (.seq (.region [qo .mv [.const (.int .u8 0)]] [(2, 0)])
(.ret)) (.skip)))
(.seq (.region [qfe 1 1,
qd 1 0,
qo (.bin .rem) [.loc 0, .const (.int .u8 4)],
qo (.bin .add) [.const (.int .u8 1), .loc 0],
ql 0] [(2, 0)])
(.ret))),
[.tmp 2]⟩
theorem F18_low : lowFn Tryz.prog (KD [] []) [0, 1, 2, 6] Tryz.f18 = some F18 := by as_aux_lemma => kernel_rfl
def F19 : LFunc := ⟨[0, 1, 4, 5, 9, 17], 2,
.seq (.region [qbb false] [(2, 0)])
(.seq (.seq (.region [qi 0] [(3, 0)])
(.block 0 (.loop (.seq (.seq (.region [qe 3,
qe 0,
qln false 0,
qo (.bin .lss) [.loc 2, .loc 0]] [(4, 0)])
(.cond (.env 4) (.skip) (.exit 0)))
(.seq (.block 1 (.seq (.region [qe 0,
qe 3,
qo (.iaddr 1) [.loc 1, .loc 0],
qd 1 0,
qe 1,
qo (.bin .eql) [.loc 1, .loc 0]] [(5, 0)])
(.cond (.env 5) (.seq (.region [qbb true] [(2, 0)])
(.ret)) (.skip))))
(.region [qe 3,
qo (.bin .add) [.loc 0, .const (.int .i64 1)],
ql 0] [(3, 0)]))))))
(.seq (.region [qbb false] [(2, 0)])
(.ret))),
[.tmp 2]⟩
theorem F19_low : lowFn Tryz.prog (KD [] []) [0, 1, 4, 5, 9, 17] Tryz.f19 = some F19 := by as_aux_lemma => kernel_rfl
def F20 : LFunc := ⟨[0, 1, 2, 4, 5, 6, 7, 8, 9, 35, 80], 3,
.seq (.region [qo (.box 57 5) [.env 1],
qo (.box 38 5) [.env 2],
qo (.alloc 38 [.bool false, .nils, .str ⟨#[]⟩, .bool false, .int .i64 0]) []] [(3, 2), (4, 1), (5, 0)])
(.seq (.region [qe 0,
qo .nilck [.loc 0],
qo (.faddr 0) [.loc 0],
qd 1 0,
qo (.invoke [(34, 62)]) [.loc 0],
qo (.alloc 9 [.str ⟨#[]⟩]) [],
qo (.store 1) [.loc 0, .loc 1]] [(6, 1)])
(.seq (.seq (.drawn [qe 0,
qw .nilck [.loc 0] 1 1,
qw (.faddr 10) [.loc 0] 3 2,
qw (.load 1 false) [.loc 0] 7 3,
qw (.load 1 false) [.env 6] 0 4,
qw .mv [.env 0] 0 5,
qw (.load 5 true) [.env 3] 0 6,
qw (.load 1 false) [.env 6] 0 7,
qw (.call 29) [.loc 2, .loc 1, .loc 0] 224 8,
qw (.call 15) [.loc 5, .loc 4, .loc 0] 511 9,
qw .mv [.loc 0] 1023 10,
qw (.extract 0) [.loc 0] 2047 11,
qw (.extract 1) [.loc 1] 2047 12,
qw .mv [.loc 1] 4095 13,
qw .mv [.loc 1] 16383 14] [(7, 1), (8, 0)] [])
(.seq (.region [qe 8,
ql 0,
qg .mv [.env 0] 0 true,
qg .nilck [.loc 0] 1 true,
qg (.faddr 12) [.loc 0] 2 true,
qg (.load 1 false) [.loc 0] 3 true,
qg (.un .not) [.loc 0] 4 true,
qpf 5 0] [(9, 0)])
(.cond (.env 9) (.seq (.region [qe 0,
qo .nilck [.loc 0],
qo (.faddr 12) [.loc 0],
qo (.store 1) [.loc 0, .const (.bool true)]] [])
(.seq (.drawn [qe 0,
qw .mv [.env 0] 0 1,
qw .nilck [.loc 0] 2 2,
qw (.faddr 13) [.loc 0] 6 3,
qw (.load 1 false) [.loc 0] 14 4,
qw .mv [.env 0] 0 5,
qw .nilck [.loc 0] 32 6,
qw (.faddr 10) [.loc 0] 96 7,
qw (.load 1 false) [.loc 0] 224 8,
qw .mv [.env 7] 0 9,
qw (.iaddr 3) [.loc 1, .loc 0] 992 10,
qw (.faddr 0) [.loc 0] 2016 11,
qw (.load 1 false) [.loc 0] 4064 12,
qw (.bslice 9 1 1 [.str ⟨#[]⟩] [0] 1) [.loc 0] 8160 13,
qw (.append 9 1 16 1) [.loc 9, .loc 0] 16382 14,
qw .nilck [.loc 14] 32767 15,
qw (.faddr 13) [.loc 0] 65535 16,
qw (.store 1) [.loc 0, .loc 2] 131071 17] [] [])
(.seq (.drawn [qe 0,
qw .nilck [.loc 0] 1 1,
qw (.faddr 10) [.loc 0] 3 2,
qw (.load 1 false) [.loc 0] 7 3,
qw .mv [.env 7] 0 4,
qw (.iaddr 3) [.loc 1, .loc 0] 31 5,
qw (.faddr 0) [.loc 0] 63 6,
qw (.load 1 false) [.loc 0] 127 7,
qw .mv [.env 0] 0 8,
qw .nilck [.loc 0] 256 9,
qw (.faddr 10) [.loc 0] 768 10,
qw (.load 1 false) [.loc 0] 1792 11,
qw .mv [.env 7] 0 12,
qw (.iaddr 3) [.loc 1, .loc 0] 7936 13,
qw (.faddr 0) [.loc 0] 16128 14,
qw (.load 1 false) [.loc 0] 32512 15,
qw (.bslice 9 1 2 [.str ⟨#[]⟩] [0, 1] 1) [.loc 8, .loc 0] 65535 16,
qw (.build [.bool false, .nils, .str ⟨#[]⟩, .bool false, .int .i64 0] [(0, 1), (1, 1)]) [.const (.bool true), .loc 0] 131071 17,
qw (.store 5) [.env 5, .loc 0] 262143 18] [] [])
(.ret)))) (.skip))))
(.seq (.seq (.region [qe 0,
qo .nilck [.loc 0],
qo (.faddr 1) [.loc 0],
qo (.faddr 1) [.loc 0],
qd 1 0,
qo (.mkfn 31) [.env 6],
qkk 30 1 0] [(10, 0)])
(.cond (.env 10) (.seq (.region [qo (.build [.bool false, .nils, .str ⟨#[]⟩, .bool false, .int .i64 0] [(0, 1)]) [.const (.bool true)],
qo (.store 5) [.env 5, .loc 0]] [])
(.ret)) (.skip)))
(.seq (.region [qo (.load 5 true) [.env 4],
qo (.store 5) [.env 5, .loc 0]] [])
(.ret))))),
[.cell 5 5 true]⟩
theorem F20_low : lowFn Tryz.prog (KD [] []) [0, 1, 2, 4, 5, 6, 7, 8, 9, 35, 80] Tryz.f20 = some F20 := by as_aux_lemma => kernel_rfl
def F21 : LFunc := ⟨[0, 2], 1,
.seq (.region [qo .mv [.const (.nils)]] [(1, 0)])
(.seq (.region [qe 0,
qe 0,
qln false 0,
qe 0,
qln false 0,
qo (.slice false 1 false true true) [.loc 4, .loc 2, .loc 0],
ql 0] [(1, 0)])
(.ret)),
[.tmp 1]⟩
theorem F21_low : lowFn Tryz.prog (KD [] []) [0, 2] Tryz.f21 = some F21 := by as_aux_lemma => kernel_rfl
def F22 : LFunc := ⟨[0, 2, 4], 1,
.seq (.region [qo .mv [.const (.nils)]] [(1, 0)])
(.seq (.seq (.region [qe 0,
qo (.eqnil false 0) [.loc 0, .const (.nils)]] [(2, 0)])
(.cond (.env 2) (.seq (.region [qo .mv [.const (.nils)]] [(1, 0)])
(.ret)) (.skip)))
(.seq (.region [qo (.bslice 9 1 0 [.str ⟨#[]⟩] [] 1) [],
qe 0,
qo (.append 9 1 16 1) [.loc 1, .loc 0],
ql 0] [(1, 0)])
(.ret))),
[.tmp 1]⟩
theorem F22_low : lowFn Tryz.prog (KD [] []) [0, 2, 4] Tryz.f22 = some F22 := by as_aux_lemma => kernel_rfl
def F23 : LFunc := ⟨[0, 1, 2, 3, 5, 6, 7, 8, 9, 10, 11, 12, 20, 40, 43, 51, 74], 3,
.seq (.region [qo (.box 32 9) [.env 0],
qo (.box 71 3) [.env 2],
qo (.alloc 79 [.str ⟨#[]⟩, .nils, .int .u8 0]) [],
qo (.alloc 45 [.int .i64 0, .int .i64 0, .int .i64 0]) []] [(3, 3), (4, 2), (5, 1), (6, 0)])
(.seq (.region [qfe 1 4,
qd 1 0,
qk 32 0,
ql 0,
qx 0 0,
qx 1 1,
ql 1,
ql 1] [(7, 1), (8, 0)])
(.seq (.seq (.region [qe 8,
qo (.un .not) [.loc 0]] [(12, 0)])
(.cond (.env 12) (.seq (.region [qo (.build [.str ⟨#[]⟩, .nils, .int .u8 0] []) [],
qe 7,
qfe 1 4,
qd 1 0,
qo (.call 33) [.const (.int .i64 4), .loc 2, .loc 0],
qo (.store 3) [.env 5, .loc 4],
qo (.store 3) [.env 6, .loc 1]] [])
(.ret)) (.skip)))
(.seq (.seq (.drawn [qo (.call 34) [],
qw .mv [.env 7] 0 1,
qw (.iaddr 5) [.loc 0, .const (.int .i64 0)] 2 2,
qw (.faddr 1) [.loc 0] 6 3,
qw (.load 1 false) [.loc 0] 14 4,
qw (.mapget 1 (.int .u8 0) false) [.loc 4, .loc 0] 31 5,
⟨.mv, [.loc 6], none, ob 0 6, some 0⟩,
qw (.store 1) [.loc 0, .loc 1] 127 7] [(9, 1)] [(35, [.int .u8 0])])
(.seq (.region [qe 7,
qo (.iaddr 5) [.loc 0, .const (.int .i64 0)],
qo (.faddr 0) [.loc 0],
qd 1 0,
qo (.bin .eql) [.loc 0, .const (.int .u8 1)],
ql 0,
qg (.load 1 false) [.env 9] 0 true,
qg (.bin .neq) [.loc 0, .const (.int .u8 0)] 1 true,
qpf 2 0] [(13, 0)])
(.cond (.env 13) (.seq (.seq (.region [qe 1,
qo (.mkfn 36) [.env 9],
qkk 35 1 0] [(14, 0)])
(.cond (.env 14) (.seq (.region [qo (.build [.str ⟨#[]⟩, .nils, .int .u8 0] []) [],
qe 7,
qfe 1 4,
qd 1 0,
qo (.call 33) [.const (.int .i64 8), .loc 2, .loc 0],
qo (.store 3) [.env 5, .loc 4],
qo (.store 3) [.env 6, .loc 1]] [])
(.ret)) (.skip)))
(.seq (.seq (.region [qe 7,
qln false 0,
qo (.bin .gtr) [.loc 0, .const (.int .i64 1)]] [(15, 0)])
(.cond (.env 15) (.seq (.drawn [qo (.build [.str ⟨#[]⟩, .nils, .int .u8 0] []) [],
qw .mv [.env 7] 0 1,
qw (.slice false 5 true false false) [.loc 0, .const (.int .i64 1)] 2 2,
qw (.faddr 1) [.env 4] 0 3,
qw (.load 1 false) [.loc 0] 8 4,
qw (.call 33) [.const (.int .i64 4), .loc 2, .loc 0] 30 5,
qw (.store 3) [.env 5, .loc 5] 63 6,
qw (.store 3) [.env 6, .loc 1] 127 7] [] [])
(.ret)) (.skip)))
(.seq (.region [qfe 0 4,
qd 1 0,
qo (.load 1 false) [.env 9],
qo (.build [.str ⟨#[]⟩, .nils, .int .u8 0] [(0, 1), (2, 1)]) [.loc 1, .loc 0],
qo (.build [.int .i64 0, .int .i64 0, .int .i64 0] []) [],
qo (.store 3) [.env 5, .loc 1],
qo (.store 3) [.env 6, .loc 1]] [])
(.ret)))) (.skip))))
(.seq (.region [qo (.load 9 true) [.env 3],
qe 1,
qfe 1 4,
qd 1 0,
qe 7,
qo (.call 37) [.loc 4, .loc 3, .loc 1, .loc 0],
ql 0,
qx 0 0,
qx 1 1,
qo (.alloc 45 [.int .i64 0, .int .i64 0, .int .i64 0]) [],
ql 2,
qo (.store 3) [.loc 1, .loc 2]] [(10, 1), (11, 2)])
(.seq (.seq (.region [qfe 0 11,
qd 1 0,
qo (.bin .neq) [.loc 0, .const (.int .i64 0)]] [(16, 0)])
(.cond (.env 16) (.seq (.drawn [qo (.build [.str ⟨#[]⟩, .nils, .int .u8 0] []) [],
qw (.load 3 true) [.env 11] 0 1,
qw (.store 3) [.env 5, .loc 1] 1 2,
qw (.store 3) [.env 6, .loc 1] 7 3] [] [])
(.ret)) (.skip)))
(.seq (.region [qfe 0 4,
qd 1 0,
qe 10,
qo (.build [.str ⟨#[]⟩, .nils, .int .u8 0] [(0, 1), (1, 1)]) [.loc 1, .loc 0],
qo (.build [.int .i64 0, .int .i64 0, .int .i64 0] []) [],
qo (.store 3) [.env 5, .loc 1],
qo (.store 3) [.env 6, .loc 1]] [])
(.ret))))))),
[.cell 5 3 true, .cell 6 3 true]⟩
theorem F23_low : lowFn Tryz.prog (KD [] []) [0, 1, 2, 3, 5, 6, 7, 8, 9, 10, 11, 12, 20, 40, 43, 51, 74] Tryz.f23 = some F23 := by as_aux_lemma => kernel_rfl
def F24 : LFunc := ⟨[0, 2], 1,
.seq (.region [qo .mv [.const (.nils)]] [(1, 0)])
(.seq (.region [qe 0,
qe 0,
qln false 0,
qe 0,
qln false 0,
qo (.slice false 3 false true true) [.loc 4, .loc 2, .loc 0],
ql 0] [(1, 0)])
(.ret)),
[.tmp 1]⟩
theorem F24_low : lowFn Tryz.prog (KD [] []) [0, 2] Tryz.f24 = some F24 := by as_aux_lemma => kernel_rfl
def F25 : LFunc := ⟨[0, 1, 4, 5, 7, 8, 9, 16], 2,
.seq (.region [qi 0] [(2, 0)])
(.seq (.seq (.region [qe 0,
qln false 0,
qi 0] [(4, 1), (5, 0)])
(.block 0 (.loop (.seq (.region [qo (.bin .lss) [.env 5, .env 4]] [(6, 0)])
(.seq (.cond (.env 6) (.skip) (.exit 0))
(.seq (.block 1 (.seq (.region [qe 5,
ql 0] [(3, 0)])
(.seq (.region [qe 1,
qe 0,
qe 3,
qo (.iaddr 3) [.loc 1, .loc 0],
qo (.load 3 true) [.loc 0],
qo .callv [.loc 4, .loc 0]] [(7, 0)])
(.cond (.env 7) (.seq (.region [qe 3,
ql 0] [(2, 0)])
(.ret)) (.skip)))))
(.region [qo (.bin .add) [.env 5, .const (.int .i64 1)],
ql 0] [(5, 0)])))))))
(.seq (.region [qi (-1)] [(2, 0)])
(.ret))),
[.tmp 2]⟩
theorem F25_low : lowFn Tryz.prog (KD [] []) [0, 1, 4, 5, 7, 8, 9, 16] Tryz.f25 = some F25 := by as_aux_lemma => kernel_rfl
def F26 : LFunc := ⟨[0, 1, 2, 3], 2,
.seq (.region [qo (.box 79 3) [.env 0],
qbb false] [(2, 1), (3, 0)])
(.seq (.region [qfe 1 2,
qd 1 0,
qo (.load 1 false) [.env 1],
qkk 27 1 0,
ql 0] [(3, 0)])
(.ret)),
[.tmp 3]⟩
theorem F26_low : lowFn Tryz.prog (KD [] []) [0, 1, 2, 3] Tryz.f26 = some F26 := by as_aux_lemma => kernel_rfl
def F27 : LFunc := ⟨[0, 1, 4], 2,
.seq (.region [qbb false] [(2, 0)])
(.seq (.region [qe 0,
qe 1,
qkk 38 1 0,
qo (.bin .geq) [.loc 0, .const (.int .i64 0)],
ql 0] [(2, 0)])
(.ret)),
[.tmp 2]⟩
theorem F27_low : lowFn Tryz.prog (KD [] []) [0, 1, 4] Tryz.f27 = some F27 := by as_aux_lemma => kernel_rfl
def F28 : LFunc := ⟨[0, 1, 2, 3], 2,
.seq (.region [qo (.box 79 3) [.env 0],
qbb false] [(2, 1), (3, 0)])
(.seq (.region [qfe 1 2,
qd 1 0,
qln false 0,
qo (.bin .eql) [.loc 0, .const (.int .i64 0)],
ql 0,
qg (.faddr 2) [.env 2] 0 true,
qg (.load 1 false) [.loc 0] 1 true,
qg (.load 1 false) [.env 1] 2 true,
qg (.bin .eql) [.loc 1, .loc 0] 3 true,
qpf 4 0,
ql 0] [(3, 0)])
(.ret)),
[.tmp 3]⟩
theorem F28_low : lowFn Tryz.prog (KD [] []) [0, 1, 2, 3] Tryz.f28 = some F28 := by as_aux_lemma => kernel_rfl
def F29 : LFunc := ⟨[0, 1, 2, 4, 5, 6, 8, 11, 19, 20, 21, 22, 28], 3,
.seq (.region [qo (.box 57 5) [.env 1],
qo (.box 9 1) [.env 2],
qo .mv [.const (.int .u8 0)]] [(3, 2), (4, 1), (5, 0)])
(.seq (.seq (.region [qfe 0 3,
qd 1 0,
qo (.bin .neq) [.loc 0, .const (.str ⟨#[79, 80, 69, 78]⟩)]] [(7, 0)])
(.cond (.env 7) (.seq (.drawn [qe 0,
qw .nilck [.loc 0] 1 1,
qw (.faddr 0) [.loc 0] 3 2,
qw (.load 1 false) [.loc 0] 7 3,
qw (.load 1 false) [.env 4] 0 4,
qw (.invoke [(34, 63)]) [.loc 1, .loc 0] 31 5,
qw .mv [.loc 0] 63 6] [(5, 0)] [])
(.ret)) (.skip)))
(.seq (.seq (.region [qfe 3 3,
qd 1 0,
qln false 0,
qi 0] [(8, 2), (9, 1), (10, 0)])
(.block 0 (.loop (.seq (.region [qo (.bin .lss) [.env 10, .env 9]] [(11, 0)])
(.seq (.cond (.env 11) (.skip) (.exit 0))
(.seq (.block 1 (.seq (.region [qo (.iaddr 2) [.env 8, .env 10],
qo (.load 2 true) [.loc 0],
qo (.alloc 94 [.str ⟨#[]⟩, .nils]) [],
qo (.store 2) [.loc 0, .loc 1]] [(6, 1)])
(.seq (.region [qfe 1 6,
qd 1 0,
qo (.mkfn 40) [.env 4],
qkk 39 1 0] [(12, 0)])
(.cond (.env 12) (.seq (.drawn [qo (.call 34) [],
qw (.faddr 0) [.env 6] 0 1,
qw (.load 1 false) [.loc 0] 2 2,
qw (.mapget 1 (.int .u8 0) false) [.loc 2, .loc 0] 7 3,
qw .mv [.loc 0] 15 4] [(5, 0)] [])
(.ret)) (.skip)))))
(.region [qo (.bin .add) [.env 10, .const (.int .i64 1)],
ql 0] [(10, 0)])))))))
(.seq (.region [qo .mv [.const (.int .u8 0)]] [(5, 0)])
(.ret)))),
[.tmp 5]⟩
theorem F29_low : lowFn Tryz.prog (KD [] []) [0, 1, 2, 4, 5, 6, 8, 11, 19, 20, 21, 22, 28] Tryz.f29 = some F29 := by as_aux_lemma => kernel_rfl
def F30 : LFunc := ⟨[0, 1, 4], 2,
.seq (.region [qbb false] [(2, 0)])
(.seq (.region [qe 0,
qe 1,
qkk 41 1 0,
qo (.bin .geq) [.loc 0, .const (.int .i64 0)],
ql 0] [(2, 0)])
(.ret)),
[.tmp 2]⟩
theorem F30_low : lowFn Tryz.prog (KD [] []) [0, 1, 4] Tryz.f30 = some F30 := by as_aux_lemma => kernel_rfl
def F31 : LFunc := ⟨[0, 1, 2, 3], 2,
.seq (.region [qo (.box 68 12) [.env 0],
qbb false] [(2, 1), (3, 0)])
(.seq (.region [qfe 0 2,
qd 1 0,
qo (.load 1 false) [.env 1],
qo (.bin .eql) [.loc 1, .loc 0],
ql 0,
qg (.faddr 6) [.env 2] 0 true,
qg (.load 1 false) [.loc 0] 1 true,
qg (.len false) [.loc 0] 2 true,
qg (.bin .gtr) [.loc 0, .const (.int .i64 0)] 3 true,
qpf 4 0,
ql 0] [(3, 0)])
(.ret)),
[.tmp 3]⟩
theorem F31_low : lowFn Tryz.prog (KD [] []) [0, 1, 2, 3] Tryz.f31 = some F31 := by as_aux_lemma => kernel_rfl
def F32 : LFunc := ⟨[0, 2, 3, 4, 5, 6, 14, 29, 38], 1,
.seq (.region [qo .mv [.const (.nils)],
qbb false] [(1, 1), (2, 0)])
(.seq (.region [qe 0,
qo (.bslice 9 1 1 [.str ⟨#[]⟩] [0] 1) [.const (.str ⟨#[65, 70, 84, 69, 82]⟩)],
qkk 42 1 0,
ql 0,
qx 0 0,
qx 1 1,
ql 1,
ql 1] [(0, 1), (3, 0)])
(.seq (.seq (.region [qe 3,
qo (.un .not) [.loc 0]] [(6, 0)])
(.cond (.env 6) (.seq (.region [qe 0,
ql 0,
qbb false] [(1, 1), (2, 0)])
(.ret)) (.skip)))
(.seq (.region [qe 0,
qo (.bslice 9 1 1 [.str ⟨#[]⟩] [0] 1) [.const (.str ⟨#[83, 84, 65, 78, 68, 65, 82, 68]⟩)],
qkk 42 1 0,
ql 0,
qx 0 0,
qx 1 1,
ql 1] [(0, 0)])
(.seq (.region [qe 0,
qo (.bslice 9 1 2 [.str ⟨#[]⟩] [0, 1] 1) [.const (.str ⟨#[69, 88, 67, 69, 80, 84, 73, 79, 78]⟩), .const (.str ⟨#[69, 82, 82, 79, 82]⟩)],
qkk 42 1 0,
ql 0,
qx 0 0,
qx 1 1,
ql 1,
ql 1] [(0, 1), (4, 0)])
(.seq (.seq (.region [qe 4,
qo (.un .not) [.loc 0]] [(7, 0)])
(.cond (.env 7) (.seq (.region [qe 0,
ql 0,
qbb false] [(1, 1), (2, 0)])
(.ret)) (.skip)))
(.seq (.region [qe 0,
qo (.bslice 9 1 1 [.str ⟨#[]⟩] [0] 1) [.const (.str ⟨#[80, 82, 79, 67, 69, 68, 85, 82, 69]⟩)],
qkk 42 1 0,
ql 0,
qx 0 0,
qx 1 1,
ql 1,
ql 1] [(0, 1), (5, 0)])
(.seq (.seq (.region [qe 5,
qo (.un .not) [.loc 0]] [(8, 0)])
(.cond (.env 8) (.seq (.region [qe 0,
ql 0,
qbb false] [(1, 1), (2, 0)])
(.ret)) (.skip)))
(.seq (.region [qe 0,
qo (.bslice 9 1 1 [.str ⟨#[]⟩] [0] 1) [.const (.str ⟨#[79, 78]⟩)],
qkk 42 1 0,
ql 0,
qx 0 0,
qx 1 1,
ql 1] [(0, 0)])
(.seq (.region [qe 0,
qe 0,
qln false 0,
qo (.bin .gtr) [.loc 0, .const (.int .i64 0)],
ql 3,
ql 1] [(1, 1), (2, 0)])
(.ret)))))))))),
[.tmp 1, .tmp 2]⟩
theorem F32_low : lowFn Tryz.prog (KD [] []) [0, 2, 3, 4, 5, 6, 14, 29, 38] Tryz.f32 = some F32 := by as_aux_lemma => kernel_rfl
def F33 : LFunc := ⟨[0, 1, 2, 6, 7, 17], 3,
.seq (.region [qo (.alloc 45 [.int .i64 0, .int .i64 0, .int .i64 0]) []] [(3, 0)])
(.seq (.block 0 (.seq (.region [qe 1,
qln false 0,
qo (.bin .gtr) [.loc 0, .const (.int .i64 0)],
ql 0] [(4, 0)])
(.cond (.env 4) (.seq (.region [qe 0,
qe 1,
qo (.iaddr 5) [.loc 0, .const (.int .i64 0)],
qo (.faddr 2) [.loc 0],
qo (.load 2 true) [.loc 0],
qo (.build [.int .i64 0, .int .i64 0, .int .i64 0] [(0, 1), (1, 2)]) [.loc 4, .loc 0],
qo (.store 3) [.env 3, .loc 0]] [])
(.ret)) (.seq (.region [qe 2,
qln false 0,
qo (.bin .gtr) [.loc 0, .const (.int .i64 0)],
ql 0] [(5, 0)])
(.cond (.env 5) (.seq (.region [qe 0,
qe 2,
qe 2,
qln false 0,
qo (.bin .sub) [.loc 0, .const (.int .i64 1)],
qo (.iaddr 5) [.loc 3, .loc 0],
qo (.faddr 2) [.loc 0],
qo (.load 2 true) [.loc 0],
qo (.build [.int .i64 0, .int .i64 0, .int .i64 0] [(0, 1), (1, 2)]) [.loc 7, .loc 0],
qo (.store 3) [.env 3, .loc 0]] [])
(.ret)) (.skip))))))
(.seq (.region [qe 0,
qo (.build [.int .i64 0, .int .i64 0, .int .i64 0] [(0, 1)]) [.loc 0],
qo (.store 3) [.env 3, .loc 0]] [])
(.ret))),
[.cell 3 3 true]⟩
theorem F33_low : lowFn Tryz.prog (KD [] []) [0, 1, 2, 6, 7, 17] Tryz.f33 = some F33 := by as_aux_lemma => kernel_rfl
def F34 : LFunc := ⟨[0], 0,
.seq (.region [qo .mv [.const (.nilm)]] [(0, 0)])
(.seq (.region [qo .mkmap [],
qo (.mapset 1) [.loc 0, .const (.str ⟨#[73, 78, 80, 85, 84]⟩), .const (.int .u8 1)],
qo (.mapset 1) [.loc 1, .const (.str ⟨#[79, 85, 84, 80, 85, 84]⟩), .const (.int .u8 2)],
qo (.mapset 1) [.loc 2, .const (.str ⟨#[73, 45, 79]⟩), .const (.int .u8 3)],
qo (.mapset 1) [.loc 3, .const (.str ⟨#[69, 88, 84, 69, 78, 68]⟩), .const (.int .u8 4)],
ql 4,
ql 0] [(0, 0)])
(.ret)),
[.tmp 0]⟩
theorem F34_low : lowFn Tryz.prog (KD [] []) [0] Tryz.f34 = some F34 := by as_aux_lemma => kernel_rfl
def F35 : LFunc := ⟨[0, 1, 4], 2,
.seq (.region [qbb false] [(2, 0)])
(.seq (.region [qe 0,
qe 1,
qkk 25 1 0,
qo (.bin .geq) [.loc 0, .const (.int .i64 0)],
ql 0] [(2, 0)])
(.ret)),
[.tmp 2]⟩
theorem F35_low : lowFn Tryz.prog (KD [] []) [0, 1, 4] Tryz.f35 = some F35 := by as_aux_lemma => kernel_rfl
def F36 : LFunc := ⟨[0, 1, 2, 3], 2,
.seq (.region [qo (.box 79 3) [.env 0],
qbb false] [(2, 1), (3, 0)])
(.seq (.region [qfe 2 2,
qd 1 0,
qo (.load 1 false) [.env 1],
qo (.bin .eql) [.loc 1, .loc 0],
ql 0] [(3, 0)])
(.ret)),
[.tmp 3]⟩
theorem F36_low : lowFn Tryz.prog (KD [] []) [0, 1, 2, 3] Tryz.f36 = some F36 := by as_aux_lemma => kernel_rfl
def F37 : LFunc := ⟨[0, 1, 2, 3, 4, 8, 9, 10, 11, 14, 21, 30, 39], 4,
.seq (.region [qo (.box 32 9) [.env 0],
qo .mv [.const (.nils)],
qo (.alloc 45 [.int .i64 0, .int .i64 0, .int .i64 0]) []] [(4, 2), (5, 1), (6, 0)])
(.seq (.region [qo .mv [.const (.nils)]] [(7, 0)])
(.seq (.block 0 (.loop (.seq (.seq (.region [qe 3,
qln false 0,
qo (.bin .gtr) [.loc 0, .const (.int .i64 0)]] [(9, 0)])
(.cond (.env 9) (.skip) (.exit 0)))
(.seq (.block 1 (.seq (.region [qe 3,
qo (.iaddr 5) [.loc 0, .const (.int .i64 0)],
qo (.faddr 1) [.loc 0],
qd 1 0,
qo (.alloc 9 [.str ⟨#[]⟩]) [],
qo (.store 1) [.loc 0, .loc 1]] [(8, 1)])
(.seq (.block 2 (.seq (.region [qe 3,
qo (.iaddr 5) [.loc 0, .const (.int .i64 0)],
qo (.faddr 0) [.loc 0],
qd 1 0,
qo (.bin .neq) [.loc 0, .const (.int .u8 1)],
ql 0] [(10, 0)])
(.cond (.env 10) (.seq (.region [qe 3,
qe 2,
qo (.call 33) [.const (.int .i64 4), .loc 1, .loc 0],
qo .mv [.const (.nils)],
qo (.store 3) [.env 6, .loc 1]] [(5, 1)])
(.ret)) (.seq (.region [qfe 1 4,
qd 1 0,
qo (.mkfn 43) [.env 8],
qkk 30 1 0,
qo (.un .not) [.loc 0],
ql 0] [(11, 0)])
(.cond (.env 11) (.seq (.region [qe 3,
qe 2,
qo (.call 33) [.const (.int .i64 7), .loc 1, .loc 0],
qo .mv [.const (.nils)],
qo (.store 3) [.env 6, .loc 1]] [(5, 1)])
(.ret)) (.seq (.region [qe 7,
qo (.load 1 false) [.env 8],
qkk 27 1 0,
ql 0,
qg .mv [.env 1] 0 false,
qg (.mkfn 44) [.env 8] 1 false,
qg (.call 35) [.loc 1, .loc 0] 2 false,
qpt 3 0,
ql 0] [(12, 0)])
(.cond (.env 12) (.seq (.region [qe 3,
qe 2,
qo (.call 33) [.const (.int .i64 8), .loc 1, .loc 0],
qo .mv [.const (.nils)],
qo (.store 3) [.env 6, .loc 1]] [(5, 1)])
(.ret)) (.skip))))))))
(.region [qe 7,
qo (.load 1 false) [.env 8],
qo (.bslice 9 1 1 [.str ⟨#[]⟩] [0] 1) [.loc 0],
qo (.append 9 1 16 1) [.loc 2, .loc 0],
ql 0] [(7, 0)]))))
(.region [qe 3,
qo (.slice false 5 true false false) [.loc 0, .const (.int .i64 1)],
ql 0] [(3, 0)])))))
(.seq (.region [qe 7,
qk 21 0,
qo (.build [.int .i64 0, .int .i64 0, .int .i64 0] []) [],
ql 1,
qo (.store 3) [.env 6, .loc 1]] [(5, 1)])
(.ret)))),
[.tmp 5, .cell 6 3 true]⟩
theorem F37_low : lowFn Tryz.prog (KD [] []) [0, 1, 2, 3, 4, 8, 9, 10, 11, 14, 21, 30, 39] Tryz.f37 = some F37 := by as_aux_lemma => kernel_rfl
def F38 : LFunc := ⟨[0, 1, 4, 5, 7, 8, 9, 16], 2,
.seq (.region [qi 0] [(2, 0)])
(.seq (.seq (.region [qe 0,
qln false 0,
qi 0] [(4, 1), (5, 0)])
(.block 0 (.loop (.seq (.region [qo (.bin .lss) [.env 5, .env 4]] [(6, 0)])
(.seq (.cond (.env 6) (.skip) (.exit 0))
(.seq (.block 1 (.seq (.region [qe 5,
ql 0] [(3, 0)])
(.seq (.region [qe 1,
qe 0,
qe 3,
qo (.iaddr 1) [.loc 1, .loc 0],
qd 1 0,
qo (.bin .eql) [.loc 4, .loc 0]] [(7, 0)])
(.cond (.env 7) (.seq (.region [qe 3,
ql 0] [(2, 0)])
(.ret)) (.skip)))))
(.region [qo (.bin .add) [.env 5, .const (.int .i64 1)],
ql 0] [(5, 0)])))))))
(.seq (.region [qi (-1)] [(2, 0)])
(.ret))),
[.tmp 2]⟩
theorem F38_low : lowFn Tryz.prog (KD [] []) [0, 1, 4, 5, 7, 8, 9, 16] Tryz.f38 = some F38 := by as_aux_lemma => kernel_rfl
def F39 : LFunc := ⟨[0, 1, 4], 2,
.seq (.region [qbb false] [(2, 0)])
(.seq (.region [qe 0,
qe 1,
qkk 45 1 0,
qo (.bin .geq) [.loc 0, .const (.int .i64 0)],
ql 0] [(2, 0)])
(.ret)),
[.tmp 2]⟩
theorem F39_low : lowFn Tryz.prog (KD [] []) [0, 1, 4] Tryz.f39 = some F39 := by as_aux_lemma => kernel_rfl
def F40 : LFunc := ⟨[0, 1, 2, 3], 2,
.seq (.region [qo (.box 74 5) [.env 0],
qbb false] [(2, 1), (3, 0)])
(.seq (.region [qfe 1 2,
qd 1 0,
qo (.load 1 false) [.env 1],
qo (.bin .eql) [.loc 1, .loc 0],
ql 0] [(3, 0)])
(.ret)),
[.tmp 3]⟩
theorem F40_low : lowFn Tryz.prog (KD [] []) [0, 1, 2, 3] Tryz.f40 = some F40 := by as_aux_lemma => kernel_rfl
def F41 : LFunc := ⟨[0, 1, 4, 5, 7, 8, 9, 16], 2,
.seq (.region [qi 0] [(2, 0)])
(.seq (.seq (.region [qe 0,
qln false 0,
qi 0] [(4, 1), (5, 0)])
(.block 0 (.loop (.seq (.region [qo (.bin .lss) [.env 5, .env 4]] [(6, 0)])
(.seq (.cond (.env 6) (.skip) (.exit 0))
(.seq (.block 1 (.seq (.region [qe 5,
ql 0] [(3, 0)])
(.seq (.region [qe 1,
qe 0,
qe 3,
qo (.iaddr 12) [.loc 1, .loc 0],
qo (.load 12 true) [.loc 0],
qo .callv [.loc 4, .loc 0]] [(7, 0)])
(.cond (.env 7) (.seq (.region [qe 3,
ql 0] [(2, 0)])
(.ret)) (.skip)))))
(.region [qo (.bin .add) [.env 5, .const (.int .i64 1)],
ql 0] [(5, 0)])))))))
(.seq (.region [qi (-1)] [(2, 0)])
(.ret))),
[.tmp 2]⟩
theorem F41_low : lowFn Tryz.prog (KD [] []) [0, 1, 4, 5, 7, 8, 9, 16] Tryz.f41 = some F41 := by as_aux_lemma => kernel_rfl
def F42 : LFunc := ⟨[0, 1, 4, 5, 23], 2,
.seq (.region [qo .mv [.const (.nils)],
qbb false] [(2, 1), (3, 0)])
(.seq (.seq (.region [qe 0,
qln false 0,
qo (.bin .gtr) [.loc 0, .const (.int .i64 0)],
ql 0,
qg .mv [.env 0] 0 true,
qg (.iaddr 5) [.loc 0, .const (.int .i64 0)] 1 true,
qg (.faddr 0) [.loc 0] 2 true,
qg (.load 1 false) [.loc 0] 3 true,
qg (.bin .eql) [.loc 0, .const (.int .u8 1)] 4 true,
qpf 5 0,
ql 0,
qg .mv [.env 1] 0 true,
qg .mv [.env 0] 1 true,
qg (.iaddr 5) [.loc 0, .const (.int .i64 0)] 2 true,
qg (.faddr 1) [.loc 0] 3 true,
qg (.load 1 false) [.loc 0] 4 true,
qg (.call 27) [.loc 4, .loc 0] 5 true,
qpf 6 0] [(4, 0)])
(.cond (.env 4) (.seq (.region [qe 0,
qo (.slice false 5 true false false) [.loc 0, .const (.int .i64 1)],
ql 0,
qbb true] [(2, 1), (3, 0)])
(.ret)) (.skip)))
(.seq (.region [qe 0,
ql 0,
qbb false] [(2, 1), (3, 0)])
(.ret))),
[.tmp 2, .tmp 3]⟩
theorem F42_low : lowFn Tryz.prog (KD [] []) [0, 1, 4, 5, 23] Tryz.f42 = some F42 := by as_aux_lemma => kernel_rfl
def F43 : LFunc := ⟨[0, 1, 2, 3], 2,
.seq (.region [qo (.box 68 12) [.env 0],
qbb false] [(2, 1), (3, 0)])
(.seq (.region [qfe 0 2,
qd 1 0,
qo (.load 1 false) [.env 1],
qo (.bin .eql) [.loc 1, .loc 0],
ql 0] [(3, 0)])
(.ret)),
[.tmp 3]⟩
theorem F43_low : lowFn Tryz.prog (KD [] []) [0, 1, 2, 3] Tryz.f43 = some F43 := by as_aux_lemma => kernel_rfl
def F44 : LFunc := ⟨[0, 1, 2, 3], 2,
.seq (.region [qo (.box 79 3) [.env 0],
qbb false] [(2, 1), (3, 0)])
(.seq (.region [qfe 1 2,
qd 1 0,
qo (.load 1 false) [.env 1],
qkk 27 1 0,
ql 0] [(3, 0)])
(.ret)),
[.tmp 3]⟩
theorem F44_low : lowFn Tryz.prog (KD [] []) [0, 1, 2, 3] Tryz.f44 = some F44 := by as_aux_lemma => kernel_rfl
def F45 : LFunc := ⟨[0, 1, 4, 5, 7, 8, 9, 16], 2,
.seq (.region [qi 0] [(2, 0)])
(.seq (.seq (.region [qe 0,
qln false 0,
qi 0] [(4, 1), (5, 0)])
(.block 0 (.loop (.seq (.region [qo (.bin .lss) [.env 5, .env 4]] [(6, 0)])
(.seq (.cond (.env 6) (.skip) (.exit 0))
(.seq (.block 1 (.seq (.region [qe 5,
ql 0] [(3, 0)])
(.seq (.region [qe 1,
qe 0,
qe 3,
qo (.iaddr 5) [.loc 1, .loc 0],
qo (.load 5 true) [.loc 0],
qo .callv [.loc 4, .loc 0]] [(7, 0)])
(.cond (.env 7) (.seq (.region [qe 3,
ql 0] [(2, 0)])
(.ret)) (.skip)))))
(.region [qo (.bin .add) [.env 5, .const (.int .i64 1)],
ql 0] [(5, 0)])))))))
(.seq (.region [qi (-1)] [(2, 0)])
(.ret))),
[.tmp 2]⟩
theorem F45_low : lowFn Tryz.prog (KD [] []) [0, 1, 4, 5, 7, 8, 9, 16] Tryz.f45 = some F45 := by as_aux_lemma => kernel_rfl
def F61 : LFunc := ⟨[0, 2, 8], 4,
.seq (.region [qo (.boxc 5) [.env 1],
qo (.alloc 38 [.bool false, .nils, .str ⟨#[]⟩, .bool false, .int .i64 0]) []] [(2, 0)])
(.seq (.region [qe 0,
qo .nilck [.loc 0],
qo (.faddr 7) [.loc 0],
qd 1 0,
qo (.bin .add) [.loc 0, .const (.int .i64 1)],
qo .nilck [.loc 4],
qo (.faddr 7) [.loc 0],
qo (.store 1) [.loc 0, .loc 2]] [])
(.seq (.region [qe 0,
qo .nilck [.loc 0],
qo (.faddr 2) [.loc 0],
qo (.load 5 true) [.loc 0],
qo (.store 5) [.env 2, .loc 0]] [])
(.ret))),
[.cell 2 5 true]⟩
theorem F61_low : lowFn Tryz.prog (KD [] [6]) [0, 2, 8] Tryz.f61 = some F61 := by as_aux_lemma => kernel_rfl
def F62 : LFunc := ⟨[0, 2], 1,
.seq (.region [qo .mv [.const (.str ⟨#[]⟩)]] [(1, 0)])
(.seq (.region [qe 0,
qo .nilck [.loc 0],
qo (.faddr 0) [.loc 0],
qd 1 0,
ql 0] [(1, 0)])
(.ret)),
[.tmp 1]⟩
theorem F62_low : lowFn Tryz.prog (KD [] []) [0, 2] Tryz.f62 = some F62 := by as_aux_lemma => kernel_rfl
def F63 : LFunc := ⟨[0, 4], 2,
.seq (.region [qo .mv [.const (.int .u8 0)]] [(1, 0)])
(.seq (.region [qe 0,
qo .nilck [.loc 0],
qo (.faddr 1) [.loc 0],
qd 1 0,
ql 0] [(1, 0)])
(.ret)),
[.tmp 1]⟩
theorem F63_low : lowFn Tryz.prog (KD [] []) [0, 4] Tryz.f63 = some F63 := by as_aux_lemma => kernel_rfl
def F64 : LFunc := ⟨[0, 2, 8], 4,
.seq (.region [qo (.boxc 0) [.env 0],
qo (.boxc 5) [.env 1],
qo (.alloc 38 [.bool false, .nils, .str ⟨#[]⟩, .bool false, .int .i64 0]) []] [(2, 0)])
(.seq (.region [qo (.build [.bool false, .nils, .str ⟨#[]⟩, .bool false, .int .i64 0] [(0, 1), (4, 1)]) [.const (.bool true), .const (.int .i64 9)],
qo (.store 5) [.env 2, .loc 0]] [])
(.ret)),
[.cell 2 5 true]⟩
theorem F64_low : lowFn Tryz.prog (KD [] [4, 6]) [0, 2, 8] Tryz.f64 = some F64 := by as_aux_lemma => kernel_rfl
end Go.Proofs.YtcogjcplldpkaaaGreat

namespace Go.Proofs.YtcogjcplldpkaaaGreat
set_option maxRecDepth 100000
set_option maxHeartbeats 4000000
set_option linter.unusedVariables false

def fnOf : FuncId → Option LFunc
  | 2 => some F2
  | 3 => some F3
  | 4 => some F4
  | 5 => some F5
  | 6 => some F6
  | 7 => some F7
  | 8 => some F8
  | 9 => some F9
  | 10 => some F10
  | 11 => some F11
  | 12 => some F12
  | 13 => some F13
  | 14 => some F14
  | 15 => some F15
  | 16 => some F16
  | 17 => some F17
  | 18 => some F18
  | 19 => some F19
  | 20 => some F20
  | 21 => some F21
  | 22 => some F22
  | 23 => some F23
  | 24 => some F24
  | 25 => some F25
  | 26 => some F26
  | 27 => some F27
  | 28 => some F28
  | 29 => some F29
  | 30 => some F30
  | 31 => some F31
  | 32 => some F32
  | 33 => some F33
  | 34 => some F34
  | 35 => some F35
  | 36 => some F36
  | 37 => some F37
  | 38 => some F38
  | 39 => some F39
  | 40 => some F40
  | 41 => some F41
  | 42 => some F42
  | 43 => some F43
  | 44 => some F44
  | 45 => some F45
  | 61 => some F61
  | 62 => some F62
  | 63 => some F63
  | 64 => some F64
  | _ => none
def LP : Prg := ⟨fnOf, fun f => false, fun f => !(f == 6), fun f => false, fun _ _ => none⟩
theorem LP_fns : FnsOK Tryz.prog GT LP := by
  intro f F h
  have h' : fnOf f = some F := h
  unfold fnOf at h'
  split at h'
  · injection h' with h'; subst h'; exact ⟨Tryz.f2, _, _, Tryz.func2, F2_low, fun _ _ h => h⟩
  · injection h' with h'; subst h'; exact ⟨Tryz.f3, _, _, Tryz.func3, F3_low, fun _ _ h => h⟩
  · injection h' with h'; subst h'; exact ⟨Tryz.f4, _, _, Tryz.func4, F4_low, fun _ _ h => h⟩
  · injection h' with h'; subst h'; exact ⟨Tryz.f5, _, _, Tryz.func5, F5_low, fun _ _ h => h⟩
  · injection h' with h'; subst h'; exact ⟨Tryz.f6, _, _, Tryz.func6, F6_low, fun _ _ h => h⟩
  · injection h' with h'; subst h'; exact ⟨Tryz.f7, _, _, Tryz.func7, F7_low, fun _ _ h => h⟩
  · injection h' with h'; subst h'; exact ⟨Tryz.f8, _, _, Tryz.func8, F8_low, fun _ _ h => h⟩
  · injection h' with h'; subst h'; exact ⟨Tryz.f9, _, _, Tryz.func9, F9_low, fun _ _ h => h⟩
  · injection h' with h'; subst h'; exact ⟨Tryz.f10, _, _, Tryz.func10, F10_low, fun _ _ h => h⟩
  · injection h' with h'; subst h'; exact ⟨Tryz.f11, _, _, Tryz.func11, F11_low, fun _ _ h => h⟩
  · injection h' with h'; subst h'; exact ⟨Tryz.f12, _, _, Tryz.func12, F12_low, fun _ _ h => h⟩
  · injection h' with h'; subst h'; exact ⟨Tryz.f13, _, _, Tryz.func13, F13_low, fun _ _ h => h⟩
  · injection h' with h'; subst h'; exact ⟨Tryz.f14, _, _, Tryz.func14, F14_low, fun _ _ h => h⟩
  · injection h' with h'; subst h'; exact ⟨Tryz.f15, _, _, Tryz.func15, F15_low, fun _ _ h => h⟩
  · injection h' with h'; subst h'; exact ⟨Tryz.f16, _, _, Tryz.func16, F16_low, fun _ _ h => h⟩
  · injection h' with h'; subst h'; exact ⟨Tryz.f17, _, _, Tryz.func17, F17_low, fun _ _ h => h⟩
  · injection h' with h'; subst h'; exact ⟨Tryz.f18, _, _, Tryz.func18, F18_low, fun _ _ h => h⟩
  · injection h' with h'; subst h'; exact ⟨Tryz.f19, _, _, Tryz.func19, F19_low, fun _ _ h => h⟩
  · injection h' with h'; subst h'; exact ⟨Tryz.f20, _, _, Tryz.func20, F20_low, fun _ _ h => h⟩
  · injection h' with h'; subst h'; exact ⟨Tryz.f21, _, _, Tryz.func21, F21_low, fun _ _ h => h⟩
  · injection h' with h'; subst h'; exact ⟨Tryz.f22, _, _, Tryz.func22, F22_low, fun _ _ h => h⟩
  · injection h' with h'; subst h'; exact ⟨Tryz.f23, _, _, Tryz.func23, F23_low, fun _ _ h => h⟩
  · injection h' with h'; subst h'; exact ⟨Tryz.f24, _, _, Tryz.func24, F24_low, fun _ _ h => h⟩
  · injection h' with h'; subst h'; exact ⟨Tryz.f25, _, _, Tryz.func25, F25_low, fun _ _ h => h⟩
  · injection h' with h'; subst h'; exact ⟨Tryz.f26, _, _, Tryz.func26, F26_low, fun _ _ h => h⟩
  · injection h' with h'; subst h'; exact ⟨Tryz.f27, _, _, Tryz.func27, F27_low, fun _ _ h => h⟩
  · injection h' with h'; subst h'; exact ⟨Tryz.f28, _, _, Tryz.func28, F28_low, fun _ _ h => h⟩
  · injection h' with h'; subst h'; exact ⟨Tryz.f29, _, _, Tryz.func29, F29_low, fun _ _ h => h⟩
  · injection h' with h'; subst h'; exact ⟨Tryz.f30, _, _, Tryz.func30, F30_low, fun _ _ h => h⟩
  · injection h' with h'; subst h'; exact ⟨Tryz.f31, _, _, Tryz.func31, F31_low, fun _ _ h => h⟩
  · injection h' with h'; subst h'; exact ⟨Tryz.f32, _, _, Tryz.func32, F32_low, fun _ _ h => h⟩
  · injection h' with h'; subst h'; exact ⟨Tryz.f33, _, _, Tryz.func33, F33_low, fun _ _ h => h⟩
  · injection h' with h'; subst h'; exact ⟨Tryz.f34, _, _, Tryz.func34, F34_low, fun _ _ h => h⟩
  · injection h' with h'; subst h'; exact ⟨Tryz.f35, _, _, Tryz.func35, F35_low, fun _ _ h => h⟩
  · injection h' with h'; subst h'; exact ⟨Tryz.f36, _, _, Tryz.func36, F36_low, fun _ _ h => h⟩
  · injection h' with h'; subst h'; exact ⟨Tryz.f37, _, _, Tryz.func37, F37_low, fun _ _ h => h⟩
  · injection h' with h'; subst h'; exact ⟨Tryz.f38, _, _, Tryz.func38, F38_low, fun _ _ h => h⟩
  · injection h' with h'; subst h'; exact ⟨Tryz.f39, _, _, Tryz.func39, F39_low, fun _ _ h => h⟩
  · injection h' with h'; subst h'; exact ⟨Tryz.f40, _, _, Tryz.func40, F40_low, fun _ _ h => h⟩
  · injection h' with h'; subst h'; exact ⟨Tryz.f41, _, _, Tryz.func41, F41_low, fun _ _ h => h⟩
  · injection h' with h'; subst h'; exact ⟨Tryz.f42, _, _, Tryz.func42, F42_low, fun _ _ h => h⟩
  · injection h' with h'; subst h'; exact ⟨Tryz.f43, _, _, Tryz.func43, F43_low, fun _ _ h => h⟩
  · injection h' with h'; subst h'; exact ⟨Tryz.f44, _, _, Tryz.func44, F44_low, fun _ _ h => h⟩
  · injection h' with h'; subst h'; exact ⟨Tryz.f45, _, _, Tryz.func45, F45_low, fun _ _ h => h⟩
  · injection h' with h'; subst h'; exact ⟨Tryz.f61, _, _, Tryz.func61, F61_low, fun _ _ h => h⟩
  · injection h' with h'; subst h'; exact ⟨Tryz.f62, _, _, Tryz.func62, F62_low, fun _ _ h => h⟩
  · injection h' with h'; subst h'; exact ⟨Tryz.f63, _, _, Tryz.func63, F63_low, fun _ _ h => h⟩
  · injection h' with h'; subst h'; exact ⟨Tryz.f64, _, _, Tryz.func64, F64_low, fun _ _ h => h⟩
  · simp at h'
theorem LP_ok : PrgOK Tryz.prog GT LP := ⟨LP_fns, ext_nil⟩
theorem mixed : Tryz.prog.follows .mixedOrders = true := by kernel_rfl
end Go.Proofs.YtcogjcplldpkaaaGreat

namespace Go.Proofs.YtcogjcplldpkaaaGreat
set_option linter.unusedSimpArgs false
set_option linter.unusedVariables false
set_option maxRecDepth 10000

theorem index_run {d : Nat} (hd : 1 ≤ d) (S : St) {x : D} {l : List ByteArray} (hS : SlD 1 (strRows l) x) (s : ByteArray) (hl : l.length ≤ 1000000) :
  runF LP NN d 38 [x, .str s] S = some (.int .i64 (idxI (fun x => s.toList == x.toList) l), S, false) := by
 refine run_pure (F := F38) rfl (by simp only [LP, fnOf, snapVs, snaps, zs, zm, zv, hS.snapV, hS.freeV] <;> exact rfl) rfl (by simp only [LP, zf, zm, hS.snapV, hS.freeV]; try rfl) (by simp only [F38, zv] <;> exact rfl) (by omega) ?_
 rintro d rfl
 refine cw_seq (cw_region ?_)
 refine ow_mc ?_
 refine ow_nil ?_
 refine sk_n (by simp only [ze] <;> exact rfl) ?_
 refine cw_seq (cw_seq (cw_region ?_))
 refine ow_me rfl ?_
 refine ow_op (by simp only [zo, lenD_str, lenD_nils, lenD_sl, lenD_msl, hS.len, strRows_len] <;> exact rfl) ?_
 refine ow_mc ?_
 refine ow_nil ?_
 refine sk_n (by simp only [ze] <;> exact rfl) ?_
 refine cw_block ?_
 refine cw_loop (fun n env S' => ∃ (i : Nat) (u3 u6 u7 : D), i ≤ l.length ∧ n = l.length - i ∧ ((l.take i).any fun x => s.toList == x.toList) = false ∧ S' = ⟨[], 0⟩ ∧ env = [x, .str s, .int .i64 0, u3, .int .i64 l.length, .int .i64 i, u6, u7]) (l.length) (by omega) (⟨0, _, _, _, by omega, by omega, by simp, rfl, rfl⟩) ?_
 rintro n env S' ⟨i, u3, u6, u7, hi, rfl, hany, rfl, rfl⟩
 have h0 : (0 : Int) ≤ (i : Int) := by omega
 refine cw_seq (cw_region ?_)
 refine ow_op (by simp only [zo, binD, zb, Int.reduceEq, Int.reduceToNat, Int.reduceLT, hS.len, strRows_len, h0] <;> exact rfl) ?_
 refine ow_nil ?_
 refine sk_n (by simp only [ze] <;> exact rfl) ?_
 refine cw_seq ?_
 refine cw_cond (by simp only [opd, zv, hS.len, strRows_len, h0] <;> exact rfl) (fun hcA => ?_) (fun hcA => ?_)
 ·
  have hlt : i < l.length := by have := of_decide_eq_true hcA; omega
  have hw := wrap_nat i (by omega)
  have hx := List.getElem?_eq_getElem hlt
  have hia := fun (S : St) => hS.iaddrN S .i64 (strRows_at hlt)
  refine cw_skip (sk_n rfl (cw_seq (cw_block (cw_seq (cw_region ?_)))))
  refine ow_me rfl ?_
  refine ow_ml rfl ?_
  refine ow_nil ?_
  refine sk_n (by simp only [ze] <;> exact rfl) ?_
  refine cw_seq (cw_region ?_)
  refine ow_me rfl ?_
  refine ow_me rfl ?_
  refine ow_me rfl ?_
  refine ow_op (by simp only [zl, zm, iaddrD_sl, iaddrD_msl, Int.toNat_natCast, Int.toNat_zero, List.getElem?_map, Option.map_some, Int.le_refl, hS.len, strRows_len, h0, hw, hx, hia] <;> exact rfl) ?_
  refine ow_op (by simp only [zl, zm, zd, partD, List.take, List.drop, hS.len, strRows_len, h0, hw, hx, hia] <;> exact rfl) ?_
  refine ow_op (by simp only [zo, binD, zb, Int.reduceEq, Int.reduceToNat, Int.reduceLT, hS.len, strRows_len, h0, hw, hx, hia] <;> exact rfl) ?_
  refine ow_nil ?_
  refine sk_n (by simp only [ze] <;> exact rfl) ?_
  refine cw_cond (by simp only [opd, zv, hS.len, strRows_len, h0, hw, hx, hia] <;> exact rfl) (fun hcAT => ?_) (fun hcAT => ?_)
  ·
   refine cw_seq (cw_region ?_)
   refine ow_me rfl ?_
   refine ow_ml rfl ?_
   refine ow_nil ?_
   refine sk_n (by simp only [ze] <;> exact rfl) ?_
   refine cw_ret (bk_r (sk_r (lk_r (bk_r (sk_r ?_)))))
   refine ⟨_, by simp only [F38, resultD, resDs, resD, zg, zd, rowsOf, partD, List.take, List.drop, zm] <;> exact rfl, ?_⟩
   rw [idxI_at (p := fun x => s.toList == x.toList) hlt hcAT hany]; rfl
  ·
   refine cw_skip (bk_n (sk_n rfl (cw_region ?_)))
   refine ow_op (by simp only [zo, binD, zb, Int.reduceEq, Int.reduceToNat, Int.reduceLT, hS.len, strRows_len, h0, hw, hx, hia] <;> exact rfl) ?_
   refine ow_ml rfl ?_
   refine ow_nil ?_
   refine lk_n (by simp only [ze] <;> exact rfl) ?_
   exact ⟨l.length - (i + 1), by omega, i + 1, _, _, _, by omega, rfl, any_take_succ hlt hany hcAT, rfl, rfl⟩
 ·
  have hge : l.length ≤ i := by have := of_decide_eq_false hcA; omega
  refine cw_exit (sk_e (lk_e (bk_e (sk_n rfl (cw_seq (cw_region ?_))))))
  refine ow_mc ?_
  refine ow_nil ?_
  refine sk_n (by simp only [ze] <;> exact rfl) ?_
  refine cw_ret ?_
  refine ⟨_, by simp only [F38, resultD, resDs, resD, zg, zd, rowsOf, partD, List.take, List.drop, zm] <;> exact rfl, ?_⟩
  rw [List.take_of_length_le hge] at hany
  rw [idxI_none hany]; rfl

theorem contains_run {d : Nat} (hd : 2 ≤ d) (S : St) {x : D} {l : List ByteArray} (hS : SlD 1 (strRows l) x) (s : ByteArray) (hl : l.length ≤ 1000000) :
  runF LP NN d 27 [x, .str s] S = some (.bool (l.any fun x => s.toList == x.toList), S, false) := by
 refine run_pure (F := F27) rfl (by simp only [LP, fnOf, snapVs, snaps, zs, zm, zv, hS.snapV, hS.freeV] <;> exact rfl) rfl (by simp only [LP, zf, zm, hS.snapV, hS.freeV]; try rfl) (by simp only [F27, zv] <;> exact rfl) (by omega) ?_
 rintro d rfl
 refine cw_seq (cw_region ?_)
 refine ow_mc ?_
 refine ow_nil ?_
 refine sk_n (by simp only [ze] <;> exact rfl) ?_
 refine cw_seq (cw_region ?_)
 refine ow_me rfl ?_
 refine ow_me rfl ?_
 refine ow_op (by simp only [zo]; exact index_run (by omega) _ hS s hl) ?_
 refine ow_op (by simp only [zo, binD, zb, Int.reduceEq, Int.reduceToNat, Int.reduceLT] <;> exact rfl) ?_
 refine ow_ml rfl ?_
 refine ow_nil ?_
 refine sk_n (by simp only [ze] <;> exact rfl) ?_
 refine cw_ret ?_
 refine ⟨_, by simp only [F27, resultD, resDs, resD, zg, zd, rowsOf, partD, List.take, List.drop, zm] <;> exact rfl, ?_⟩
 rw [idxI_nonneg]; rfl

theorem has_run {d : Nat} (hd : 1 ≤ d) (S : St) {x : D} {l : List ByteArray} (hS : SlD 1 (strRows l) x) (s : ByteArray) (hl : l.length ≤ 1000000) :
  runF LP NN d 19 [x, .str s] S = some (.bool (l.any fun x => x.toList == s.toList), S, false) := by
 refine run_pure (F := F19) rfl (by simp only [LP, fnOf, snapVs, snaps, zs, zm, zv, hS.snapV, hS.freeV] <;> exact rfl) rfl (by simp only [LP, zf, zm, hS.snapV, hS.freeV]; try rfl) (by simp only [F19, zv] <;> exact rfl) (by omega) ?_
 rintro d rfl
 refine cw_seq (cw_region ?_)
 refine ow_mc ?_
 refine ow_nil ?_
 refine sk_n (by simp only [ze] <;> exact rfl) ?_
 refine cw_seq (cw_seq (cw_region ?_))
 refine ow_mc ?_
 refine ow_nil ?_
 refine sk_n (by simp only [ze] <;> exact rfl) ?_
 refine cw_block ?_
 refine cw_loop (fun n env S' => ∃ (i : Nat) (u4 u5 : D), i ≤ l.length ∧ n = l.length - i ∧ ((l.take i).any fun x => x.toList == s.toList) = false ∧ S' = ⟨[], 0⟩ ∧ env = [x, .str s, .bool false, .int .i64 i, u4, u5]) (l.length) (by omega) (⟨0, _, _, by omega, by omega, by simp, rfl, rfl⟩) ?_
 rintro n env S' ⟨i, u4, u5, hi, rfl, hany, rfl, rfl⟩
 have h0 : (0 : Int) ≤ (i : Int) := by omega
 refine cw_seq (cw_seq (cw_region ?_))
 refine ow_me rfl ?_
 refine ow_me rfl ?_
 refine ow_op (by simp only [zo, lenD_str, lenD_nils, lenD_sl, lenD_msl, hS.len, strRows_len, h0] <;> exact rfl) ?_
 refine ow_op (by simp only [zo, binD, zb, Int.reduceEq, Int.reduceToNat, Int.reduceLT, hS.len, strRows_len, h0] <;> exact rfl) ?_
 refine ow_nil ?_
 refine sk_n (by simp only [ze] <;> exact rfl) ?_
 refine cw_cond (by simp only [opd, zv, hS.len, strRows_len, h0] <;> exact rfl) (fun hcA => ?_) (fun hcA => ?_)
 ·
  have hlt : i < l.length := by have := of_decide_eq_true hcA; omega
  have hw := wrap_nat i (by omega)
  have hx := List.getElem?_eq_getElem hlt
  have hia := fun (S : St) => hS.iaddrN S .i64 (strRows_at hlt)
  refine cw_skip (sk_n rfl (cw_seq (cw_block (cw_seq (cw_region ?_)))))
  refine ow_me rfl ?_
  refine ow_me rfl ?_
  refine ow_op (by simp only [zl, zm, iaddrD_sl, iaddrD_msl, Int.toNat_natCast, Int.toNat_zero, List.getElem?_map, Option.map_some, Int.le_refl, hS.len, strRows_len, h0, hw, hx, hia] <;> exact rfl) ?_
  refine ow_op (by simp only [zl, zm, zd, partD, List.take, List.drop, hS.len, strRows_len, h0, hw, hx, hia] <;> exact rfl) ?_
  refine ow_me rfl ?_
  refine ow_op (by simp only [zo, binD, zb, Int.reduceEq, Int.reduceToNat, Int.reduceLT, hS.len, strRows_len, h0, hw, hx, hia] <;> exact rfl) ?_
  refine ow_nil ?_
  refine sk_n (by simp only [ze] <;> exact rfl) ?_
  refine cw_cond (by simp only [opd, zv, hS.len, strRows_len, h0, hw, hx, hia] <;> exact rfl) (fun hcAT => ?_) (fun hcAT => ?_)
  ·
   refine cw_seq (cw_region ?_)
   refine ow_mc ?_
   refine ow_nil ?_
   refine sk_n (by simp only [ze] <;> exact rfl) ?_
   refine cw_ret (bk_r (sk_r (lk_r (bk_r (sk_r ?_)))))
   refine ⟨_, by simp only [F19, resultD, resDs, resD, zg, zd, rowsOf, partD, List.take, List.drop, zm] <;> exact rfl, ?_⟩
   rw [show (l.any fun x => x.toList == s.toList) = true from List.any_eq_true.2 ⟨_, List.getElem_mem hlt, hcAT⟩]; rfl
  ·
   refine cw_skip (bk_n (sk_n rfl (cw_region ?_)))
   refine ow_me rfl ?_
   refine ow_op (by simp only [zo, binD, zb, Int.reduceEq, Int.reduceToNat, Int.reduceLT, hS.len, strRows_len, h0, hw, hx, hia] <;> exact rfl) ?_
   refine ow_ml rfl ?_
   refine ow_nil ?_
   refine lk_n (by simp only [ze] <;> exact rfl) ?_
   exact ⟨l.length - (i + 1), by omega, i + 1, _, _, by omega, rfl, any_take_succ hlt hany hcAT, rfl, rfl⟩
 ·
  have hge : l.length ≤ i := by have := of_decide_eq_false hcA; omega
  refine cw_exit (sk_e (lk_e (bk_e (sk_n rfl (cw_seq (cw_region ?_))))))
  refine ow_mc ?_
  refine ow_nil ?_
  refine sk_n (by simp only [ze] <;> exact rfl) ?_
  refine cw_ret ?_
  refine ⟨_, by simp only [F19, resultD, resDs, resD, zg, zd, rowsOf, partD, List.take, List.drop, zm] <;> exact rfl, ?_⟩
  rw [List.take_of_length_le hge] at hany
  rw [hany]; rfl

def namesF (f : Nat) : List ByteArray := (List.range 4).filterMap fun i => if f / 2 ^ i % 2 = 1 then some ⟨#[70, (48 + i).toUInt8]⟩ else none
theorem names_tab (d : Nat) (S : St) (m w : Int) : (List.range 256).map (fun f => runF LP NN (d + 1) 17 [.agg [.int .u8 ((f : Nat) : Int), .int .u8 m, .int .u8 w]] S) = (List.range 256).map (fun f => some (strsD (namesF f), S, false)) := by kernel_rfl
theorem names_run {d : Nat} (hd : 1 ≤ d) (S : St) (f : Nat) (m w : Int) (hf : f < 256) : runF LP NN d 17 [.agg [.int .u8 f, .int .u8 m, .int .u8 w]] S = some (strsD (namesF f), S, false) := by
 obtain ⟨d, rfl⟩ : ∃ d', d = d' + 1 := ⟨d - 1, by omega⟩
 exact tab_at (names_tab d S m w) f hf
theorem names_few (f : Nat) : (namesF f).length ≤ 4 := by
 refine Nat.le_trans (List.length_filterMap_le _ _) (by simp)
def secF (i : Nat) : ByteArray := ⟨#[85, (48 + i).toUInt8]⟩
theorem section_tab (d : Nat) (S : St) : (List.range 6).map (fun i => runF LP NN (d + 1) 12 [.int .i64 ((i : Nat) : Int)] S) = (List.range 6).map (fun i => some (.str (secF i), S, false)) := by kernel_rfl
theorem section_run {d : Nat} (hd : 1 ≤ d) (S : St) (i : Nat) (hi : i < 6) : runF LP NN d 12 [.int .i64 i] S = some (.str (secF i), S, false) := by
 obtain ⟨d, rfl⟩ : ∃ d', d = d' + 1 := ⟨d - 1, by omega⟩
 exact tab_at (section_tab d S) i hi
/-- the mode of a section -/
def modeF (f m : Nat) : Nat := if (namesF f).length > 0 then 0 else 1 + m % 4
theorem u8_mode (m : Nat) : IntKind.u8.wrap (1 + ((m : Nat) : Int).tmod 4) = ((1 + m % 4 : Nat) : Int) := by
 rw [Int.tmod_eq_emod_of_nonneg (by omega)]
 simp only [IntKind.wrap, IntKind.signed, IntKind.bits]
 simp only [Bool.false_and, Bool.false_eq_true, if_false]
 omega

theorem mode_run {d : Nat} (hd : 2 ≤ d) (S : St) (f m : Nat) (w : Int) (hf : f < 256) :
  runF LP NN d 18 [.agg [.int .u8 f, .int .u8 m, .int .u8 w]] S = some (.int .u8 (modeF f m), S, false) := by
 refine run_pure (F := F18) rfl (by simp only [LP, fnOf, snapVs, snaps, zs, zm, zv] <;> exact rfl) rfl (by simp only [LP, zf, zm]; try rfl) (by simp only [F18, zv] <;> exact rfl) (by omega) ?_
 rintro d rfl
 refine cw_seq (cw_region ?_)
 refine ow_op (by simp only [zl, zm, zc, (strsD_S (namesF f)).len, strRows_len, u8_mode] <;> exact rfl) ?_
 refine ow_mc ?_
 refine ow_nil ?_
 refine sk_n (by simp only [ze] <;> exact rfl) ?_
 refine cw_seq (cw_seq (cw_region ?_))
 refine ow_op (by simp only [zl, zm, zd, partD, List.take, List.drop, (strsD_S (namesF f)).len, strRows_len, u8_mode] <;> exact rfl) ?_
 refine ow_op (by simp only [zo, (strsD_S (namesF f)).len, strRows_len, u8_mode]; exact names_run (by omega) _ f m w hf) ?_
 refine ow_op (by simp only [zo, lenD_str, lenD_nils, lenD_sl, lenD_msl, (strsD_S (namesF f)).len, strRows_len, u8_mode] <;> exact rfl) ?_
 refine ow_op (by simp only [zo, binD, zb, Int.reduceEq, Int.reduceToNat, Int.reduceLT, (strsD_S (namesF f)).len, strRows_len, u8_mode] <;> exact rfl) ?_
 refine ow_nil ?_
 refine sk_n (by simp only [ze] <;> exact rfl) ?_
 refine cw_cond (by simp only [opd, zv, (strsD_S (namesF f)).len, strRows_len, u8_mode] <;> exact rfl) (fun hc => ?_) (fun hc => ?_)
 ·
  refine cw_seq (cw_region ?_)
  refine ow_mc ?_
  refine ow_nil ?_
  refine sk_n (by simp only [ze] <;> exact rfl) ?_
  refine cw_ret (sk_r ?_)
  refine ⟨_, by simp only [F18, resultD, resDs, resD, zg, zd, rowsOf, partD, List.take, List.drop, zm] <;> exact rfl, ?_⟩
  have h : (namesF f).length > 0 := by have := of_decide_eq_true hc; omega
  rw [modeF, if_pos h]; rfl
 ·
  refine cw_skip (sk_n rfl (cw_seq (cw_region ?_)))
  refine ow_op (by simp only [zo, faddrD_ptr, faddrD_cptr, zm, (strsD_S (namesF f)).len, strRows_len, u8_mode] <;> exact rfl) ?_
  refine ow_op (by simp only [zl, zm, zd, partD, List.take, List.drop, (strsD_S (namesF f)).len, strRows_len, u8_mode] <;> exact rfl) ?_
  refine ow_op (by simp only [zo, binD, zb, Int.reduceEq, Int.reduceToNat, Int.reduceLT, (strsD_S (namesF f)).len, strRows_len, u8_mode] <;> exact rfl) ?_
  refine ow_op (by simp only [zo, binD, zb, Int.reduceEq, Int.reduceToNat, Int.reduceLT, (strsD_S (namesF f)).len, strRows_len, u8_mode] <;> exact rfl) ?_
  refine ow_ml rfl ?_
  refine ow_nil ?_
  refine sk_n (by simp only [ze] <;> exact rfl) ?_
  refine cw_ret ?_
  refine ⟨_, by simp only [F18, resultD, resDs, resD, zg, zd, rowsOf, partD, List.take, List.drop, zm] <;> exact rfl, ?_⟩
  have h : ¬ (namesF f).length > 0 := by have := of_decide_eq_false hc; omega
  rw [modeF, if_neg h]; rfl

/-- a rule in the machine -/
structure Ru where
 sec : ByteArray
 names : List ByteArray
 fd : D
 mode : Nat
 hfd : SlD 1 (strRows names) fd
 few : names.length ≤ 1000000
def Ru.row (r : Ru) : List D := [.str r.sec, r.fd, .int .u8 r.mode]
def ruRows (l : List Ru) : List (List D) := l.map Ru.row
theorem ruRows_at {l : List Ru} {i : Nat} (h : i < l.length) : (ruRows l)[i]? = some [.str l[i].sec, l[i].fd, .int .u8 l[i].mode] := by simp [ruRows, h, Ru.row]
theorem ruRows_len (l : List Ru) : (ruRows l).length = l.length := by simp [ruRows]

theorem sel1_run {d : Nat} (hd : 3 ≤ d) (S : St) (r : Ru) (s : ByteArray) (g : Nat) (e : TypeId) (hcap : S.heap[g]? = some ⟨e, 1, [[.str s]], 0, 0, false⟩) (hlt : g < S.heap.length) :
  runF LP NN d 26 [.agg [.str r.sec, r.fd, .int .u8 r.mode], .ptr g 0 0 0] S = some (.bool (r.names.any fun x => s.toList == x.toList), S, false) := by
 refine run_at (F := F26) rfl (by simp only [LP, fnOf, snapVs, snaps, zs, zm, zv, r.hfd.snap, r.hfd.freeV, r.hfd.free] <;> exact rfl) rfl (by simp only [LP, zf, zm, r.hfd.snap, r.hfd.freeV, r.hfd.free]; try rfl) (by simp only [F26, zv] <;> exact rfl) (by omega) ?_
 rintro d rfl
 refine cw_seq (cw_region ?_)
 refine ow_op (by simp only [zl, zm, zc, r.hfd.isCell, r.hfd.val, r.hfd.cells, hcap, List.getElem?_append_left hlt] <;> exact rfl) ?_
 refine ow_mc ?_
 refine ow_nil ?_
 refine sk_n (by simp only [ze] <;> exact rfl) ?_
 refine cw_seq (cw_region ?_)
 refine ow_op (by simp only [zo, faddrD_ptr, faddrD_cptr, zm, r.hfd.isCell, r.hfd.val, r.hfd.cells, hcap, List.getElem?_append_left hlt] <;> exact rfl) ?_
 refine ow_op (by simp only [zl, zm, zd, partD, List.take, List.drop, r.hfd.isCell, r.hfd.val, r.hfd.cells, hcap, List.getElem?_append_left hlt] <;> exact rfl) ?_
 refine ow_op (by simp only [zl, zm, zd, partD, List.take, List.drop, r.hfd.isCell, r.hfd.val, r.hfd.cells, hcap, List.getElem?_append_left hlt] <;> exact rfl) ?_
 refine ow_op (by simp only [zo, r.hfd.isCell, r.hfd.val, r.hfd.cells, hcap, List.getElem?_append_left hlt]; exact contains_run (by omega) _ r.hfd s r.few) ?_
 refine ow_ml rfl ?_
 refine ow_nil ?_
 refine sk_n (by simp only [ze] <;> exact rfl) ?_
 refine cw_ret ?_
 refine ⟨_, by simp only [F26, resultD, resDs, resD, zg, zd, rowsOf, partD, List.take, List.drop, zm] <;> exact rfl, ?_⟩
 simp [leave, LP, snapR, snapV, snap, D.freeR, D.freeV, D.free, D.free0, D.free0]

theorem fil2_run {d : Nat} (hd : 3 ≤ d) (S : St) (r : Ru) (s : ByteArray) (g : Nat) (e : TypeId) (hcap : S.heap[g]? = some ⟨e, 1, [[.str s]], 0, 0, false⟩) (hlt : g < S.heap.length) :
  runF LP NN d 44 [.agg [.str r.sec, r.fd, .int .u8 r.mode], .ptr g 0 0 0] S = some (.bool (r.names.any fun x => s.toList == x.toList), S, false) := by
 refine run_at (F := F44) rfl (by simp only [LP, fnOf, snapVs, snaps, zs, zm, zv, r.hfd.snap, r.hfd.freeV, r.hfd.free] <;> exact rfl) rfl (by simp only [LP, zf, zm, r.hfd.snap, r.hfd.freeV, r.hfd.free]; try rfl) (by simp only [F44, zv] <;> exact rfl) (by omega) ?_
 rintro d rfl
 refine cw_seq (cw_region ?_)
 refine ow_op (by simp only [zl, zm, zc, r.hfd.isCell, r.hfd.val, r.hfd.cells, hcap, List.getElem?_append_left hlt] <;> exact rfl) ?_
 refine ow_mc ?_
 refine ow_nil ?_
 refine sk_n (by simp only [ze] <;> exact rfl) ?_
 refine cw_seq (cw_region ?_)
 refine ow_op (by simp only [zo, faddrD_ptr, faddrD_cptr, zm, r.hfd.isCell, r.hfd.val, r.hfd.cells, hcap, List.getElem?_append_left hlt] <;> exact rfl) ?_
 refine ow_op (by simp only [zl, zm, zd, partD, List.take, List.drop, r.hfd.isCell, r.hfd.val, r.hfd.cells, hcap, List.getElem?_append_left hlt] <;> exact rfl) ?_
 refine ow_op (by simp only [zl, zm, zd, partD, List.take, List.drop, r.hfd.isCell, r.hfd.val, r.hfd.cells, hcap, List.getElem?_append_left hlt] <;> exact rfl) ?_
 refine ow_op (by simp only [zo, r.hfd.isCell, r.hfd.val, r.hfd.cells, hcap, List.getElem?_append_left hlt]; exact contains_run (by omega) _ r.hfd s r.few) ?_
 refine ow_ml rfl ?_
 refine ow_nil ?_
 refine sk_n (by simp only [ze] <;> exact rfl) ?_
 refine cw_ret ?_
 refine ⟨_, by simp only [F44, resultD, resDs, resD, zg, zd, rowsOf, partD, List.take, List.drop, zm] <;> exact rfl, ?_⟩
 simp [leave, LP, snapR, snapV, snap, D.freeR, D.freeV, D.free, D.free0, D.free0]

theorem rul1_run {d : Nat} (hd : 1 ≤ d) (S : St) (r : Ru) (m : Nat) (g : Nat) (e : TypeId) (hcap : S.heap[g]? = some ⟨e, 1, [[.int .u8 m]], 0, 0, false⟩) (hlt : g < S.heap.length) :
  runF LP NN d 36 [.agg [.str r.sec, r.fd, .int .u8 r.mode], .ptr g 0 0 0] S = some (.bool ((r.mode : Int) == (m : Int)), S, false) := by
 refine run_at (F := F36) rfl (by simp only [LP, fnOf, snapVs, snaps, zs, zm, zv, r.hfd.snap, r.hfd.freeV, r.hfd.free] <;> exact rfl) rfl (by simp only [LP, zf, zm, r.hfd.snap, r.hfd.freeV, r.hfd.free]; try rfl) (by simp only [F36, zv] <;> exact rfl) (by omega) ?_
 rintro d rfl
 refine cw_seq (cw_region ?_)
 refine ow_op (by simp only [zl, zm, zc, r.hfd.isCell, r.hfd.val, r.hfd.cells, hcap, List.getElem?_append_left hlt] <;> exact rfl) ?_
 refine ow_mc ?_
 refine ow_nil ?_
 refine sk_n (by simp only [ze] <;> exact rfl) ?_
 refine cw_seq (cw_region ?_)
 refine ow_op (by simp only [zo, faddrD_ptr, faddrD_cptr, zm, r.hfd.isCell, r.hfd.val, r.hfd.cells, hcap, List.getElem?_append_left hlt] <;> exact rfl) ?_
 refine ow_op (by simp only [zl, zm, zd, partD, List.take, List.drop, r.hfd.isCell, r.hfd.val, r.hfd.cells, hcap, List.getElem?_append_left hlt] <;> exact rfl) ?_
 refine ow_op (by simp only [zl, zm, zd, partD, List.take, List.drop, r.hfd.isCell, r.hfd.val, r.hfd.cells, hcap, List.getElem?_append_left hlt] <;> exact rfl) ?_
 refine ow_op (by simp only [zo, binD, zb, Int.reduceEq, Int.reduceToNat, Int.reduceLT, r.hfd.isCell, r.hfd.val, r.hfd.cells, hcap, List.getElem?_append_left hlt] <;> exact rfl) ?_
 refine ow_ml rfl ?_
 refine ow_nil ?_
 refine sk_n (by simp only [ze] <;> exact rfl) ?_
 refine cw_ret ?_
 refine ⟨_, by simp only [F36, resultD, resDs, resD, zg, zd, rowsOf, partD, List.take, List.drop, zm] <;> exact rfl, ?_⟩
 simp [leave, LP, snapR, snapV, snap, D.freeR, D.freeV, D.free, D.free0, D.free0]

theorem sel2_run {d : Nat} (hd : 1 ≤ d) (S : St) (r : Ru) (m : Nat) (g : Nat) (e : TypeId) (hcap : S.heap[g]? = some ⟨e, 1, [[.int .u8 m]], 0, 0, false⟩) (hlt : g < S.heap.length) :
  runF LP NN d 28 [.agg [.str r.sec, r.fd, .int .u8 r.mode], .ptr g 0 0 0] S = some (.bool (((r.names.length : Int) == 0) && ((r.mode : Int) == (m : Int))), S, false) := by
 refine run_at (F := F28) rfl (by simp only [LP, fnOf, snapVs, snaps, zs, zm, zv, r.hfd.snap, r.hfd.freeV, r.hfd.free] <;> exact rfl) rfl (by simp only [LP, zf, zm, r.hfd.snap, r.hfd.freeV, r.hfd.free]; try rfl) (by simp only [F28, zv] <;> exact rfl) (by omega) ?_
 rintro d rfl
 refine cw_seq (cw_region ?_)
 refine ow_op (by simp only [zl, zm, zc, r.hfd.isCell, r.hfd.val, r.hfd.cells, r.hfd.len, strRows_len, hcap, List.getElem?_append_left hlt] <;> exact rfl) ?_
 refine ow_mc ?_
 refine ow_nil ?_
 refine sk_n (by simp only [ze] <;> exact rfl) ?_
 refine cw_seq (cw_region ?_)
 refine ow_op (by simp only [zo, faddrD_ptr, faddrD_cptr, zm, r.hfd.isCell, r.hfd.val, r.hfd.cells, r.hfd.len, strRows_len, hcap, List.getElem?_append_left hlt] <;> exact rfl) ?_
 refine ow_op (by simp only [zl, zm, zd, partD, List.take, List.drop, r.hfd.isCell, r.hfd.val, r.hfd.cells, r.hfd.len, strRows_len, hcap, List.getElem?_append_left hlt] <;> exact rfl) ?_
 refine ow_op (by simp only [zo, lenD_str, lenD_nils, lenD_sl, lenD_msl, r.hfd.isCell, r.hfd.val, r.hfd.cells, r.hfd.len, strRows_len, hcap, List.getElem?_append_left hlt] <;> exact rfl) ?_
 refine ow_op (by simp only [zo, binD, zb, Int.reduceEq, Int.reduceToNat, Int.reduceLT, r.hfd.isCell, r.hfd.val, r.hfd.cells, r.hfd.len, strRows_len, hcap, List.getElem?_append_left hlt] <;> exact rfl) ?_
 refine ow_ml rfl ?_
 refine ow_split 0 (by simp only [opd, zv] <;> exact rfl) (by simp only [zn] <;> exact rfl) (by simp only [zn] <;> exact rfl) (fun hg => ?_) (fun hg => ?_)
 ·
  refine ow_on rfl ?_
  refine ow_op (by simp only [zo, faddrD_ptr, faddrD_cptr, zm, r.hfd.isCell, r.hfd.val, r.hfd.cells, r.hfd.len, strRows_len, hcap, List.getElem?_append_left hlt] <;> exact rfl) ?_
  refine ow_on rfl ?_
  refine ow_op (by simp only [zl, zm, zd, partD, List.take, List.drop, r.hfd.isCell, r.hfd.val, r.hfd.cells, r.hfd.len, strRows_len, hcap, List.getElem?_append_left hlt] <;> exact rfl) ?_
  refine ow_on rfl ?_
  refine ow_op (by simp only [zl, zm, zd, partD, List.take, List.drop, r.hfd.isCell, r.hfd.val, r.hfd.cells, r.hfd.len, strRows_len, hcap, List.getElem?_append_left hlt] <;> exact rfl) ?_
  refine ow_on rfl ?_
  refine ow_op (by simp only [zo, binD, zb, Int.reduceEq, Int.reduceToNat, Int.reduceLT, r.hfd.isCell, r.hfd.val, r.hfd.cells, r.hfd.len, strRows_len, hcap, List.getElem?_append_left hlt] <;> exact rfl) ?_
  refine ow_op (by simp only [zo, r.hfd.isCell, r.hfd.val, r.hfd.cells, r.hfd.len, strRows_len, hcap, List.getElem?_append_left hlt] <;> exact rfl) ?_
  refine ow_ml rfl ?_
  refine ow_nil ?_
  refine sk_n (by simp only [ze] <;> exact rfl) ?_
  refine cw_ret ?_
  refine ⟨_, by simp only [F28, resultD, resDs, resD, zg, zd, rowsOf, partD, List.take, List.drop, zm] <;> exact rfl, ?_⟩
  rw [hg]
  simp [leave, LP, snapR, snapV, snap, D.freeR, D.freeV, D.free, D.free0, D.free0]
 ·
  refine ow_off rfl rfl ?_
  refine ow_off rfl rfl ?_
  refine ow_off rfl rfl ?_
  refine ow_off rfl rfl ?_
  refine ow_op (by simp only [zo, r.hfd.isCell, r.hfd.val, r.hfd.cells, r.hfd.len, strRows_len, hcap, List.getElem?_append_left hlt] <;> exact rfl) ?_
  refine ow_ml rfl ?_
  refine ow_nil ?_
  refine sk_n (by simp only [ze] <;> exact rfl) ?_
  refine cw_ret ?_
  refine ⟨_, by simp only [F28, resultD, resDs, resD, zg, zd, rowsOf, partD, List.take, List.drop, zm] <;> exact rfl, ?_⟩
  rw [hg]
  simp [leave, LP, snapR, snapV, snap, D.freeR, D.freeV, D.free, D.free0, D.free0]

theorem indexFunc_run {d : Nat} (hd : 1 ≤ d) (S : St) {x : D} {l : List Ru} (hS : SlD 3 (ruRows l) x) (hl : l.length ≤ 1000000) (f : FuncId) (caps : List D) (hne : caps.all D.free0 = false) (p : Ru → Bool)
  (hcall : ∀ {d'}, d = d' + 1 → ∀ r ∈ l, runF LP NN d' f (.agg [.str r.sec, r.fd, .int .u8 r.mode] :: caps) ⟨S.heap, S.heap.length⟩ = some (.bool (p r), ⟨S.heap, S.heap.length⟩, false)) :
  runF LP NN d 25 [x, .fn f caps] S = some (.int .i64 (idxI p l), S, false) := by
 refine run_at (F := F25) rfl (by simp only [LP, fnOf, snapVs, snaps, zs, zm, zv, hS.snapV, hS.freeV, hne, Bool.and_false] <;> exact rfl) rfl (by simp only [LP, zf, zm, hS.snapV, hS.freeV, hne, Bool.and_false]; try rfl) (by simp only [F25, zv] <;> exact rfl) (by omega) ?_
 rintro d rfl
 refine cw_seq (cw_region ?_)
 refine ow_mc ?_
 refine ow_nil ?_
 refine sk_n (by simp only [ze] <;> exact rfl) ?_
 refine cw_seq (cw_seq (cw_region ?_))
 refine ow_me rfl ?_
 refine ow_op (by simp only [zo, lenD_str, lenD_nils, lenD_sl, lenD_msl, hS.len, ruRows_len] <;> exact rfl) ?_
 refine ow_mc ?_
 refine ow_nil ?_
 refine sk_n (by simp only [ze] <;> exact rfl) ?_
 refine cw_block ?_
 refine cw_loop (fun n env S' => ∃ (i : Nat) (u3 u6 u7 : D), i ≤ l.length ∧ n = l.length - i ∧ ((l.take i).any fun x => p x) = false ∧ S' = ⟨S.heap, S.heap.length⟩ ∧ env = [x, .fn f caps, .int .i64 0, u3, .int .i64 l.length, .int .i64 i, u6, u7]) (l.length) (by omega) (⟨0, _, _, _, by omega, by omega, by simp, rfl, rfl⟩) ?_
 rintro n env S' ⟨i, u3, u6, u7, hi, rfl, hany, rfl, rfl⟩
 have h0 : (0 : Int) ≤ (i : Int) := by omega
 refine cw_seq (cw_region ?_)
 refine ow_op (by simp only [zo, binD, zb, Int.reduceEq, Int.reduceToNat, Int.reduceLT, hS.len, ruRows_len, h0] <;> exact rfl) ?_
 refine ow_nil ?_
 refine sk_n (by simp only [ze] <;> exact rfl) ?_
 refine cw_seq ?_
 refine cw_cond (by simp only [opd, zv, hS.len, ruRows_len, h0] <;> exact rfl) (fun hcA => ?_) (fun hcA => ?_)
 ·
  have hlt : i < l.length := by have := of_decide_eq_true hcA; omega
  have hw := wrap_nat i (by omega)
  have hx := List.getElem?_eq_getElem hlt
  have hia := fun (S : St) => hS.iaddrN S .i64 (ruRows_at hlt)
  refine cw_skip (sk_n rfl (cw_seq (cw_block (cw_seq (cw_region ?_)))))
  refine ow_me rfl ?_
  refine ow_ml rfl ?_
  refine ow_nil ?_
  refine sk_n (by simp only [ze] <;> exact rfl) ?_
  refine cw_seq (cw_region ?_)
  refine ow_me rfl ?_
  refine ow_me rfl ?_
  refine ow_me rfl ?_
  refine ow_op (by simp only [zl, zm, iaddrD_sl, iaddrD_msl, Int.toNat_natCast, Int.toNat_zero, List.getElem?_map, Option.map_some, Int.le_refl, hS.len, ruRows_len, h0, hw, hx, hia] <;> exact rfl) ?_
  refine ow_op (by simp only [zl, zm, zd, partD, List.take, List.drop, hS.len, ruRows_len, h0, hw, hx, hia] <;> exact rfl) ?_
  refine ow_op (by simp only [zo, hS.len, ruRows_len, h0, hw, hx, hia]; exact hcall rfl _ (List.getElem_mem hlt)) ?_
  refine ow_nil ?_
  refine sk_n (by simp only [ze] <;> exact rfl) ?_
  refine cw_cond (by simp only [opd, zv, hS.len, ruRows_len, h0, hw, hx, hia] <;> exact rfl) (fun hcAT => ?_) (fun hcAT => ?_)
  ·
   refine cw_seq (cw_region ?_)
   refine ow_me rfl ?_
   refine ow_ml rfl ?_
   refine ow_nil ?_
   refine sk_n (by simp only [ze] <;> exact rfl) ?_
   refine cw_ret (bk_r (sk_r (lk_r (bk_r (sk_r ?_)))))
   refine ⟨_, by simp only [F25, resultD, resDs, resD, zg, zd, rowsOf, partD, List.take, List.drop, zm] <;> exact rfl, ?_⟩
   rw [idxI_at hlt hcAT hany]
   simp [leave, LP, snapR, snapV, snap, D.freeR, D.freeV, D.free, D.free0, D.free0]
  ·
   refine cw_skip (bk_n (sk_n rfl (cw_region ?_)))
   refine ow_op (by simp only [zo, binD, zb, Int.reduceEq, Int.reduceToNat, Int.reduceLT, hS.len, ruRows_len, h0, hw, hx, hia] <;> exact rfl) ?_
   refine ow_ml rfl ?_
   refine ow_nil ?_
   refine lk_n (by simp only [ze] <;> exact rfl) ?_
   exact ⟨l.length - (i + 1), by omega, i + 1, _, _, _, by omega, rfl, any_take_succ hlt hany hcAT, rfl, rfl⟩
 ·
  have hge : l.length ≤ i := by have := of_decide_eq_false hcA; omega
  refine cw_exit (sk_e (lk_e (bk_e (sk_n rfl (cw_seq (cw_region ?_))))))
  refine ow_mc ?_
  refine ow_nil ?_
  refine sk_n (by simp only [ze] <;> exact rfl) ?_
  refine cw_ret ?_
  refine ⟨_, by simp only [F25, resultD, resDs, resD, zg, zd, rowsOf, partD, List.take, List.drop, zm] <;> exact rfl, ?_⟩
  rw [List.take_of_length_le hge] at hany
  rw [idxI_none hany]
  simp [leave, LP, snapR, snapV, snap, D.freeR, D.freeV, D.free, D.free0, D.free0]

end Go.Proofs.YtcogjcplldpkaaaGreat

namespace Go.Proofs.YtcogjcplldpkaaaGreat
set_option linter.unusedSimpArgs false
set_option linter.unusedVariables false
set_option maxRecDepth 10000

def selP1 (s : ByteArray) (r : Ru) : Bool := r.names.any fun x => s.toList == x.toList
def selP2 (m : Nat) (r : Ru) : Bool := ((r.names.length : Int) == 0) && ((r.mode : Int) == (m : Int))
/-- what Select finds -/
def selI (l : List Ru) (s : ByteArray) (m : Nat) : Int := if idxI (selP1 s) l < 0 ∧ m ≠ 0 then idxI (selP2 m) l else idxI (selP1 s) l
theorem max_wr (i : Int) : (if (0 : Int) > i then (0 : Int) else i) = max i 0 := by split <;> omega

theorem select_run {d : Nat} (hd : 5 ≤ d) (S : St) {x : D} {l : List Ru} (hS : SlD 3 (ruRows l) x) (hl : l.length ≤ 1000000) (s : ByteArray) (m : Nat) :
  runF LP NN d 15 [x, .str s, .int .u8 m] S = some (.tup [.int .i64 (max (selI l s m) 0), .bool (decide (selI l s m ≥ 0))], S, false) := by
 refine run_pure (F := F15) rfl (by simp only [LP, fnOf, snapVs, snaps, zs, zm, zv, hS.snapV, hS.freeV] <;> exact rfl) rfl (by simp only [LP, zf, zm, hS.snapV, hS.freeV]; try rfl) (by simp only [F15, zv] <;> exact rfl) (by omega) ?_
 rintro d rfl
 refine cw_seq (cw_region ?_)
 refine ow_op (by simp only [zl, zm, zc, max_wr] <;> exact rfl) ?_
 refine ow_op (by simp only [zl, zm, zc, max_wr] <;> exact rfl) ?_
 refine ow_mc ?_
 refine ow_mc ?_
 refine ow_nil ?_
 refine sk_n (by simp only [ze] <;> exact rfl) ?_
 refine cw_seq (cw_region ?_)
 refine ow_me rfl ?_
 refine ow_op (by simp only [zo, max_wr] <;> exact rfl) ?_
 refine ow_op (by simp only [zo, max_wr]; exact indexFunc_run (by omega) _ hS hl 26 [.ptr 0 0 0 0] rfl (selP1 s) (fun he r hr => by cases he; exact sel1_run (by omega) _ r _ 0 9 rfl (by simp))) ?_
 refine ow_ml rfl ?_
 refine ow_nil ?_
 refine sk_n (by simp only [ze] <;> exact rfl) ?_
 refine cw_seq (cw_seq (cw_region ?_))
 refine ow_me rfl ?_
 refine ow_op (by simp only [zo, binD, zb, Int.reduceEq, Int.reduceToNat, Int.reduceLT, max_wr] <;> exact rfl) ?_
 refine ow_ml rfl ?_
 refine ow_split 0 (by simp only [opd, zv] <;> exact rfl) (by simp only [zn] <;> exact rfl) (by simp only [zn] <;> exact rfl) (fun hg => ?_) (fun hg => ?_)
 ·
  refine ow_on rfl ?_
  refine ow_op (by simp only [zl, zm, zd, partD, List.take, List.drop, max_wr] <;> exact rfl) ?_
  refine ow_on rfl ?_
  refine ow_op (by simp only [zo, binD, zb, Int.reduceEq, Int.reduceToNat, Int.reduceLT, max_wr] <;> exact rfl) ?_
  refine ow_op (by simp only [zo, max_wr] <;> exact rfl) ?_
  refine ow_nil ?_
  refine sk_n (by simp only [ze] <;> exact rfl) ?_
  refine cw_cond (by simp only [opd, zv, max_wr] <;> exact rfl) (fun hcT => ?_) (fun hcT => ?_)
  ·
   refine cw_region ?_
   refine ow_me rfl ?_
   refine ow_op (by simp only [zo, max_wr] <;> exact rfl) ?_
   refine ow_op (by simp only [zo, max_wr]; exact indexFunc_run (by omega) _ hS hl 28 [.ptr 1 0 0 0] rfl (selP2 m) (fun he r hr => by cases he; exact sel2_run (by omega) _ r _ 1 35 rfl (by simp))) ?_
   refine ow_ml rfl ?_
   refine ow_nil ?_
   refine sk_n (by simp only [ze] <;> exact rfl) ?_
   refine cw_seq (cw_region ?_)
   refine ow_me rfl ?_
   refine ow_op (by simp only [zo, foldD, maxD, max_wr] <;> exact rfl) ?_
   refine ow_me rfl ?_
   refine ow_op (by simp only [zo, binD, zb, Int.reduceEq, Int.reduceToNat, Int.reduceLT, max_wr] <;> exact rfl) ?_
   refine ow_ml rfl ?_
   refine ow_ml rfl ?_
   refine ow_nil ?_
   refine sk_n (by simp only [ze] <;> exact rfl) ?_
   refine cw_ret ?_
   refine ⟨_, by simp only [F15, resultD, resDs, resD, zg, zd, rowsOf, partD, List.take, List.drop, zm] <;> exact rfl, ?_⟩
   have h1 := of_decide_eq_true hg
   have h2 : m ≠ 0 := by intro h; subst h; simp at hcT
   rw [show selI l s m = _ from if_pos ⟨h1, h2⟩]; rfl
  ·
   refine cw_skip (sk_n rfl (cw_seq (cw_region ?_)))
   refine ow_me rfl ?_
   refine ow_op (by simp only [zo, foldD, maxD, max_wr] <;> exact rfl) ?_
   refine ow_me rfl ?_
   refine ow_op (by simp only [zo, binD, zb, Int.reduceEq, Int.reduceToNat, Int.reduceLT, max_wr] <;> exact rfl) ?_
   refine ow_ml rfl ?_
   refine ow_ml rfl ?_
   refine ow_nil ?_
   refine sk_n (by simp only [ze] <;> exact rfl) ?_
   refine cw_ret ?_
   refine ⟨_, by simp only [F15, resultD, resDs, resD, zg, zd, rowsOf, partD, List.take, List.drop, zm] <;> exact rfl, ?_⟩
   have h2 : ¬ m ≠ 0 := by simpa using hcT
   rw [show selI l s m = _ from if_neg (fun h => h2 h.2)]; rfl
 ·
  refine ow_off rfl rfl ?_
  refine ow_off rfl rfl ?_
  refine ow_op (by simp only [zo, max_wr] <;> exact rfl) ?_
  refine ow_nil ?_
  refine sk_n (by simp only [ze] <;> exact rfl) ?_
  refine cw_false (by simp only [opd, zv, max_wr]) ?_
  refine cw_skip (sk_n rfl (cw_seq (cw_region ?_)))
  refine ow_me rfl ?_
  refine ow_op (by simp only [zo, foldD, maxD, max_wr] <;> exact rfl) ?_
  refine ow_me rfl ?_
  refine ow_op (by simp only [zo, binD, zb, Int.reduceEq, Int.reduceToNat, Int.reduceLT, max_wr] <;> exact rfl) ?_
  refine ow_ml rfl ?_
  refine ow_ml rfl ?_
  refine ow_nil ?_
  refine sk_n (by simp only [ze] <;> exact rfl) ?_
  refine cw_ret ?_
  refine ⟨_, by simp only [F15, resultD, resDs, resD, zg, zd, rowsOf, partD, List.take, List.drop, zm] <;> exact rfl, ?_⟩
  have h1 := of_decide_eq_false hg
  rw [show selI l s m = _ from if_neg (fun h => h1 h.1)]; rfl

theorem lives_run {d : Nat} (hd : 8 ≤ d) (S : St) : runF LP NN d 4 [] S = some (.bool true, S, false) := by
 obtain ⟨d, rfl⟩ : ∃ d', d = d' + 8 := ⟨d - 8, by omega⟩
 kernel_rfl

end Go.Proofs.YtcogjcplldpkaaaGreat

namespace Go.Proofs.YtcogjcplldpkaaaGreat
set_option linter.unusedSimpArgs false
set_option linter.unusedVariables false
set_option maxRecDepth 10000

/-- a section of the law's argument -/
structure Uu where
 f : Nat
 m : Nat
 w : Nat
 hf : f < 256
 hm : m < 256
 hw : w < 256
def Uu.row (u : Uu) : List D := [.int .u8 u.f, .int .u8 u.m, .int .u8 u.w]
def uRows (l : List Uu) : List (List D) := l.map Uu.row
theorem uRows_at {l : List Uu} {i : Nat} (h : i < l.length) : (uRows l)[i]? = some [.int .u8 l[i].f, .int .u8 l[i].m, .int .u8 l[i].w] := by simp [uRows, h, Uu.row]
theorem uRows_len (l : List Uu) : (uRows l).length = l.length := by simp [uRows]
def ruOf (u : Uu) : Ru := ⟨⟨#[]⟩, namesF u.f, strsD (namesF u.f), modeF u.f u.m, strsD_S _, by have := names_few u.f; omega⟩
/-- the tests of the law -/
def lawP2 (m : Nat) (u : Uu) : Bool := ((modeF u.f u.m : Int) == (m : Int)) && decide ((m : Int) > 0)
def lawP1 (s : ByteArray) (u : Uu) : Bool := (namesF u.f).any fun x => x.toList == s.toList
def dW (b : Bool) (j : Nat) (p : Int × Bool) : Int × Bool := if b then ((j : Int), true) else p
def nameF (file : Nat) : ByteArray := ⟨#[70]⟩ ++ (⟨#[48, 49, 50, 51, 52]⟩ : ByteArray).extract (file % 5) (file % 5 + 1)
theorem any_beq_comm (s : ByteArray) (l : List ByteArray) : (l.any fun x => s.toList == x.toList) = (l.any fun x => x.toList == s.toList) := by
 congr 1; funext x; exact Bool.beq_comm
theorem mode_pos {f m : Nat} (h : modeF f m ≠ 0) : (namesF f).length = 0 := by
 unfold modeF at h
 split at h
 ·
  exact absurd rfl h
 ·
  omega
end Go.Proofs.YtcogjcplldpkaaaGreat

namespace Go.Proofs.YtcogjcplldpkaaaGreat
set_option linter.unusedSimpArgs false
set_option linter.unusedVariables false
set_option maxRecDepth 10000

/-- a token -/
structure Tok where
 kind : Int
 text : ByteArray
 line : Int
 col : Int
 rep : Bool
def Tok.row (t : Tok) : List D := [.int .u8 t.kind, .str t.text, .int .i64 t.line, .int .i64 t.col, .bool t.rep]
def tokRows (l : List Tok) : List (List D) := l.map Tok.row
theorem tokRows_len (l : List Tok) : (tokRows l).length = l.length := by simp [tokRows]
theorem tokRows_0 (t : Tok) (l : List Tok) : (tokRows (t :: l))[0]? = some [.int .u8 t.kind, .str t.text, .int .i64 t.line, .int .i64 t.col, .bool t.rep] := rfl
def isWord (t : Tok) (ws : List ByteArray) : Bool := (t.kind == 1) && ws.any fun x => t.text.toList == x.toList

theorem skip_run {d : Nat} (hd : 3 ≤ d) (S : St) {x y : D} {t : Tok} {l : List Tok} {ws : List ByteArray} (hS : SlD 5 (tokRows (t :: l)) x) (hW : SlD 1 (strRows ws) y) (hw : ws.length ≤ 1000000) :
  runF LP NN d 42 [x, y] S = some (.tup (if isWord t ws then [dropD 1 x, .bool true] else [x, .bool false]), S, false) := by
 have hl1 : 1 ≤ (tokRows (t :: l)).length := by rw [tokRows_len]; simp
 have hia := fun (S : St) => hS.iaddr S .i64 (i := 0) (by omega) (tokRows_0 t l)
 refine run_pure (F := F42) rfl (by simp only [LP, fnOf, snapVs, snaps, zs, zm, zv, hS.snapV, hS.freeV, hW.snapV, hW.freeV] <;> exact rfl) rfl (by simp only [LP, zf, zm, hS.snapV, hS.freeV, hW.snapV, hW.freeV]; try rfl) (by simp only [F42, zv] <;> exact rfl) (by omega) ?_
 rintro d rfl
 refine cw_seq (cw_region ?_)
 refine ow_mc ?_
 refine ow_mc ?_
 refine ow_nil ?_
 refine sk_n (by simp only [ze] <;> exact rfl) ?_
 refine cw_seq (cw_seq (cw_region ?_))
 refine ow_me rfl ?_
 refine ow_op (by simp only [zo, lenD_str, lenD_nils, lenD_sl, lenD_msl, hS.len, tokRows_len, hia, List.length_cons] <;> exact rfl) ?_
 refine ow_op (by simp only [zo, binD, zb, Int.reduceEq, Int.reduceToNat, Int.reduceLT, hS.len, tokRows_len, hia, List.length_cons] <;> exact rfl) ?_
 refine ow_ml rfl ?_
 refine ow_split 0 (by simp only [opd, zv] <;> exact rfl) (by simp only [zn] <;> exact rfl) (by simp only [zn] <;> exact rfl) (fun hg => ?_) (fun hg => ?_)
 ·
  refine ow_on rfl ?_
  refine ow_me rfl ?_
  refine ow_on rfl ?_
  refine ow_op (by simp only [zl, zm, iaddrD_sl, iaddrD_msl, Int.toNat_natCast, Int.toNat_zero, List.getElem?_map, Option.map_some, Int.le_refl, hS.len, tokRows_len, hia, List.length_cons] <;> exact rfl) ?_
  refine ow_on rfl ?_
  refine ow_op (by simp only [zo, faddrD_ptr, faddrD_cptr, zm, hS.len, tokRows_len, hia, List.length_cons] <;> exact rfl) ?_
  refine ow_on rfl ?_
  refine ow_op (by simp only [zl, zm, zd, partD, List.take, List.drop, hS.len, tokRows_len, hia, List.length_cons] <;> exact rfl) ?_
  refine ow_on rfl ?_
  refine ow_op (by simp only [zo, binD, zb, Int.reduceEq, Int.reduceToNat, Int.reduceLT, hS.len, tokRows_len, hia, List.length_cons] <;> exact rfl) ?_
  refine ow_op (by simp only [zo, hS.len, tokRows_len, hia, List.length_cons] <;> exact rfl) ?_
  refine ow_ml rfl ?_
  refine ow_split 0 (by simp only [opd, zv] <;> exact rfl) (by simp only [zn] <;> exact rfl) (by simp only [zn] <;> exact rfl) (fun hgT => ?_) (fun hgT => ?_)
  ·
   refine ow_on rfl ?_
   refine ow_me rfl ?_
   refine ow_on rfl ?_
   refine ow_me rfl ?_
   refine ow_on rfl ?_
   refine ow_op (by simp only [zl, zm, iaddrD_sl, iaddrD_msl, Int.toNat_natCast, Int.toNat_zero, List.getElem?_map, Option.map_some, Int.le_refl, hS.len, tokRows_len, hia, List.length_cons] <;> exact rfl) ?_
   refine ow_on rfl ?_
   refine ow_op (by simp only [zo, faddrD_ptr, faddrD_cptr, zm, hS.len, tokRows_len, hia, List.length_cons] <;> exact rfl) ?_
   refine ow_on rfl ?_
   refine ow_op (by simp only [zl, zm, zd, partD, List.take, List.drop, hS.len, tokRows_len, hia, List.length_cons] <;> exact rfl) ?_
   refine ow_on rfl ?_
   refine ow_op (by simp only [zo, hS.len, tokRows_len, hia, List.length_cons]; exact contains_run (by omega) _ hW t.text hw) ?_
   refine ow_op (by simp only [zo, hS.len, tokRows_len, hia, List.length_cons] <;> exact rfl) ?_
   refine ow_nil ?_
   refine sk_n (by simp only [ze] <;> exact rfl) ?_
   refine cw_cond (by simp only [opd, zv, hS.len, tokRows_len, hia, List.length_cons] <;> exact rfl) (fun hcTT => ?_) (fun hcTT => ?_)
   ·
    refine cw_seq (cw_region ?_)
    refine ow_me rfl ?_
    refine ow_op (by simp only [opd, zv, exOp, aop, LOp.loud, lop, sliceArgs, if_true, Option.map_some, hS.len, tokRows_len, hia, List.length_cons, hS.slice_1 _ hl1] <;> exact rfl) ?_
    refine ow_ml rfl ?_
    refine ow_mc ?_
    refine ow_nil ?_
    refine sk_n (by simp only [ze] <;> exact rfl) ?_
    refine cw_ret (sk_r ?_)
    refine ⟨_, by simp only [F42, resultD, resDs, resD, zg, zd, rowsOf, partD, List.take, List.drop, zm] <;> exact rfl, ?_⟩
    simp only [isWord, hgT, hcTT, Bool.and_self, if_true]; simp only [leaveP, leave, snapR_tup, snapVs, snapV_bool, (hS.drop 1).snapV, Option.map_some, freeR_tup, List.all_cons, List.all_nil, (hS.drop 1).freeV, freeV_bool, Bool.and_self, if_true, if_false, Bool.false_eq_true, List.length_nil, Nat.le_refl]
   ·
    refine cw_skip (sk_n rfl (cw_seq (cw_region ?_)))
    refine ow_me rfl ?_
    refine ow_ml rfl ?_
    refine ow_mc ?_
    refine ow_nil ?_
    refine sk_n (by simp only [ze] <;> exact rfl) ?_
    refine cw_ret ?_
    refine ⟨_, by simp only [F42, resultD, resDs, resD, zg, zd, rowsOf, partD, List.take, List.drop, zm] <;> exact rfl, ?_⟩
    simp only [isWord, hgT, hcTT, Bool.true_and, Bool.false_eq_true, if_false]; simp only [leaveP, leave, snapR_tup, snapVs, snapV_bool, hS.snapV, Option.map_some, freeR_tup, List.all_cons, List.all_nil, hS.freeV, freeV_bool, Bool.and_self, if_true, if_false, Bool.false_eq_true, List.length_nil, Nat.le_refl]
  ·
   refine ow_off rfl rfl ?_
   refine ow_off rfl rfl ?_
   refine ow_off rfl rfl ?_
   refine ow_off rfl rfl ?_
   refine ow_off rfl rfl ?_
   refine ow_off rfl rfl ?_
   refine ow_op (by simp only [zo, hS.len, tokRows_len, hia, List.length_cons] <;> exact rfl) ?_
   refine ow_nil ?_
   refine sk_n (by simp only [ze] <;> exact rfl) ?_
   refine cw_false (by simp only [opd, zv, hS.len, tokRows_len, hia, List.length_cons]) ?_
   refine cw_skip (sk_n rfl (cw_seq (cw_region ?_)))
   refine ow_me rfl ?_
   refine ow_ml rfl ?_
   refine ow_mc ?_
   refine ow_nil ?_
   refine sk_n (by simp only [ze] <;> exact rfl) ?_
   refine cw_ret ?_
   refine ⟨_, by simp only [F42, resultD, resDs, resD, zg, zd, rowsOf, partD, List.take, List.drop, zm] <;> exact rfl, ?_⟩
   simp only [isWord, hgT, Bool.false_and, Bool.false_eq_true, if_false]; simp only [leaveP, leave, snapR_tup, snapVs, snapV_bool, hS.snapV, Option.map_some, freeR_tup, List.all_cons, List.all_nil, hS.freeV, freeV_bool, Bool.and_self, if_true, if_false, Bool.false_eq_true, List.length_nil, Nat.le_refl]
 ·
  refine ow_off rfl rfl ?_
  refine ow_off rfl rfl ?_
  refine ow_off rfl rfl ?_
  refine ow_off rfl rfl ?_
  refine ow_off rfl rfl ?_
  refine ow_op (by simp only [zo, hS.len, tokRows_len, hia, List.length_cons] <;> exact rfl) ?_
  refine ow_ml rfl ?_
  refine ow_off rfl rfl ?_
  refine ow_off rfl rfl ?_
  refine ow_off rfl rfl ?_
  refine ow_off rfl rfl ?_
  refine ow_off rfl rfl ?_
  refine ow_off rfl rfl ?_
  refine ow_op (by simp only [zo, hS.len, tokRows_len, hia, List.length_cons] <;> exact rfl) ?_
  refine ow_nil ?_
  refine sk_n (by simp only [ze] <;> exact rfl) ?_
  refine cw_false (by simp only [opd, zv, hS.len, tokRows_len, hia, List.length_cons]) ?_
  refine cw_skip (sk_n rfl (cw_seq (cw_region ?_)))
  refine ow_me rfl ?_
  refine ow_ml rfl ?_
  refine ow_mc ?_
  refine ow_nil ?_
  refine sk_n (by simp only [ze] <;> exact rfl) ?_
  refine cw_ret ?_
  exfalso; have := of_decide_eq_false hg; omega

theorem skip_yes {d : Nat} (hd : 3 ≤ d) (S : St) {x y : D} {t : Tok} {l : List Tok} {ws : List ByteArray} (hS : SlD 5 (tokRows (t :: l)) x) (hW : SlD 1 (strRows ws) y) (hw : ws.length ≤ 1000000) (h : isWord t ws = true) :
  runF LP NN d 42 [x, y] S = some (.tup [dropD 1 x, .bool true], S, false) := by rw [skip_run hd S hS hW hw, if_pos h]
theorem skip_no {d : Nat} (hd : 3 ≤ d) (S : St) {x y : D} {t : Tok} {l : List Tok} {ws : List ByteArray} (hS : SlD 5 (tokRows (t :: l)) x) (hW : SlD 1 (strRows ws) y) (hw : ws.length ≤ 1000000) (h : isWord t ws = false) :
  runF LP NN d 42 [x, y] S = some (.tup [x, .bool false], S, false) := by rw [skip_run hd S hS hW hw, if_neg (by simp [h])]
theorem tokD {x : D} {t : Tok} {l : List Tok} (h : SlD 5 (tokRows (t :: l)) x) : SlD 5 (tokRows l) (dropD 1 x) := h.drop 1
def wAFTER : ByteArray := ⟨#[65, 70, 84, 69, 82]⟩
def wSTANDARD : ByteArray := ⟨#[83, 84, 65, 78, 68, 65, 82, 68]⟩
def wEXCEPTION : ByteArray := ⟨#[69, 88, 67, 69, 80, 84, 73, 79, 78]⟩
def wERROR : ByteArray := ⟨#[69, 82, 82, 79, 82]⟩
def wPROCEDURE : ByteArray := ⟨#[80, 82, 79, 67, 69, 68, 85, 82, 69]⟩
def wON : ByteArray := ⟨#[79, 78]⟩

theorem head_run00 {x : D} {ta tk tp r : Tok} {rs : List Tok} (hS : SlD 5 (tokRows (ta :: tk :: tp :: r :: rs)) x) (ha : isWord ta [wAFTER] = true) (hn : isWord tk [wSTANDARD] = false) (hk : isWord tk [wEXCEPTION, wERROR] = true) (hp : isWord tp [wPROCEDURE] = true) (hr : isWord r [wON] = false) :
  ∃ y, SlD 5 (tokRows (r :: rs)) y ∧ ∀ (d : Nat) (S : St), 4 ≤ d → runF LP NN d 32 [x] S = some (.tup [y, .bool true], S, false) := by
 have hy := (tokD (tokD (tokD hS)))
 refine ⟨_, hy, fun d S hd => ?_⟩
 refine run_pure (F := F32) rfl (by simp only [LP, fnOf, snapVs, snaps, zs, zm, zv, hS.snapV, hS.freeV] <;> exact rfl) rfl (by simp only [LP, zf, zm, hS.snapV, hS.freeV]; try rfl) (by simp only [F32, zv] <;> exact rfl) (by omega) ?_
 rintro d rfl
 refine cw_seq (cw_region ?_)
 refine ow_mc ?_
 refine ow_mc ?_
 refine ow_nil ?_
 refine sk_n (by simp only [ze] <;> exact rfl) ?_
 refine cw_seq (cw_region ?_)
 refine ow_me rfl ?_
 refine ow_op (by simp only [zl, zm, fillRows, List.replicate, snapVs, snaps, zs, zc, zf, hy.len, tokRows_len] <;> exact rfl) ?_
 refine ow_op (by simp only [zo, hy.len, tokRows_len]; exact skip_yes (by omega) _ hS (ws := [wAFTER]) (SlD.of 1 _ (some 1)) (by decide) ha) ?_
 refine ow_ml rfl ?_
 refine ow_op (by simp only [zo, List.getElem?_cons_zero, List.getElem?_cons_succ, hy.len, tokRows_len] <;> exact rfl) ?_
 refine ow_op (by simp only [zo, List.getElem?_cons_zero, List.getElem?_cons_succ, hy.len, tokRows_len] <;> exact rfl) ?_
 refine ow_ml rfl ?_
 refine ow_ml rfl ?_
 refine ow_nil ?_
 refine sk_n (by simp only [ze] <;> exact rfl) ?_
 refine cw_seq (cw_seq (cw_region ?_))
 refine ow_me rfl ?_
 refine ow_op (by simp only [zo, unD, hy.len, tokRows_len] <;> exact rfl) ?_
 refine ow_nil ?_
 refine sk_n (by simp only [ze] <;> exact rfl) ?_
 skip
 refine cw_false (by simp only [opd, zv, hy.len, tokRows_len] <;> rfl) ?_
 refine cw_skip (sk_n rfl (cw_seq (cw_region ?_)))
 refine ow_me rfl ?_
 refine ow_op (by simp only [zl, zm, fillRows, List.replicate, snapVs, snaps, zs, zc, zf, hy.len, tokRows_len] <;> exact rfl) ?_
 refine ow_op (by simp only [zo, hy.len, tokRows_len]; exact skip_no (by omega) _ (tokD hS) (ws := [wSTANDARD]) (SlD.of 1 _ (some 1)) (by decide) hn) ?_
 refine ow_ml rfl ?_
 refine ow_op (by simp only [zo, List.getElem?_cons_zero, List.getElem?_cons_succ, hy.len, tokRows_len] <;> exact rfl) ?_
 refine ow_op (by simp only [zo, List.getElem?_cons_zero, List.getElem?_cons_succ, hy.len, tokRows_len] <;> exact rfl) ?_
 refine ow_ml rfl ?_
 refine ow_nil ?_
 refine sk_n (by simp only [ze] <;> exact rfl) ?_
 refine cw_seq (cw_region ?_)
 refine ow_me rfl ?_
 refine ow_op (by simp only [zl, zm, fillRows, List.replicate, snapVs, snaps, zs, zc, zf, hy.len, tokRows_len] <;> exact rfl) ?_
 refine ow_op (by simp only [zo, hy.len, tokRows_len]; exact skip_yes (by omega) _ (tokD hS) (ws := [wEXCEPTION, wERROR]) (SlD.of 1 _ (some 2)) (by decide) hk) ?_
 refine ow_ml rfl ?_
 refine ow_op (by simp only [zo, List.getElem?_cons_zero, List.getElem?_cons_succ, hy.len, tokRows_len] <;> exact rfl) ?_
 refine ow_op (by simp only [zo, List.getElem?_cons_zero, List.getElem?_cons_succ, hy.len, tokRows_len] <;> exact rfl) ?_
 refine ow_ml rfl ?_
 refine ow_ml rfl ?_
 refine ow_nil ?_
 refine sk_n (by simp only [ze] <;> exact rfl) ?_
 refine cw_seq (cw_seq (cw_region ?_))
 refine ow_me rfl ?_
 refine ow_op (by simp only [zo, unD, hy.len, tokRows_len] <;> exact rfl) ?_
 refine ow_nil ?_
 refine sk_n (by simp only [ze] <;> exact rfl) ?_
 skip
 refine cw_false (by simp only [opd, zv, hy.len, tokRows_len] <;> rfl) ?_
 refine cw_skip (sk_n rfl (cw_seq (cw_region ?_)))
 refine ow_me rfl ?_
 refine ow_op (by simp only [zl, zm, fillRows, List.replicate, snapVs, snaps, zs, zc, zf, hy.len, tokRows_len] <;> exact rfl) ?_
 refine ow_op (by simp only [zo, hy.len, tokRows_len]; exact skip_yes (by omega) _ (tokD (tokD hS)) (ws := [wPROCEDURE]) (SlD.of 1 _ (some 1)) (by decide) hp) ?_
 refine ow_ml rfl ?_
 refine ow_op (by simp only [zo, List.getElem?_cons_zero, List.getElem?_cons_succ, hy.len, tokRows_len] <;> exact rfl) ?_
 refine ow_op (by simp only [zo, List.getElem?_cons_zero, List.getElem?_cons_succ, hy.len, tokRows_len] <;> exact rfl) ?_
 refine ow_ml rfl ?_
 refine ow_ml rfl ?_
 refine ow_nil ?_
 refine sk_n (by simp only [ze] <;> exact rfl) ?_
 refine cw_seq (cw_seq (cw_region ?_))
 refine ow_me rfl ?_
 refine ow_op (by simp only [zo, unD, hy.len, tokRows_len] <;> exact rfl) ?_
 refine ow_nil ?_
 refine sk_n (by simp only [ze] <;> exact rfl) ?_
 skip
 refine cw_false (by simp only [opd, zv, hy.len, tokRows_len] <;> rfl) ?_
 refine cw_skip (sk_n rfl (cw_seq (cw_region ?_)))
 refine ow_me rfl ?_
 refine ow_op (by simp only [zl, zm, fillRows, List.replicate, snapVs, snaps, zs, zc, zf, hy.len, tokRows_len] <;> exact rfl) ?_
 refine ow_op (by simp only [zo, hy.len, tokRows_len]; exact skip_no (by omega) _ (tokD (tokD (tokD hS))) (ws := [wON]) (SlD.of 1 _ (some 1)) (by decide) hr) ?_
 refine ow_ml rfl ?_
 refine ow_op (by simp only [zo, List.getElem?_cons_zero, List.getElem?_cons_succ, hy.len, tokRows_len] <;> exact rfl) ?_
 refine ow_op (by simp only [zo, List.getElem?_cons_zero, List.getElem?_cons_succ, hy.len, tokRows_len] <;> exact rfl) ?_
 refine ow_ml rfl ?_
 refine ow_nil ?_
 refine sk_n (by simp only [ze] <;> exact rfl) ?_
 refine cw_seq (cw_region ?_)
 refine ow_me rfl ?_
 refine ow_me rfl ?_
 refine ow_op (by simp only [zo, lenD_str, lenD_nils, lenD_sl, lenD_msl, hy.len, tokRows_len] <;> exact rfl) ?_
 refine ow_op (by simp only [zo, binD, zb, Int.reduceEq, Int.reduceToNat, Int.reduceLT, hy.len, tokRows_len] <;> exact rfl) ?_
 refine ow_ml rfl ?_
 refine ow_ml rfl ?_
 refine ow_nil ?_
 refine sk_n (by simp only [ze] <;> exact rfl) ?_
 refine cw_ret ?_
 refine ⟨_, by simp only [F32, resultD, resDs, resD, zg, zd, rowsOf, partD, List.take, List.drop, zm] <;> exact rfl, ?_⟩
 have hz : decide (((rs.length + 1 : Nat) : Int) > 0) = true := decide_eq_true (by omega)
 simp only [List.length_cons, hz]
 simp only [leaveP, leave, snapVs, snaps, zs, zf, zk, hy.snapV, hy.freeV, hy.snap, hy.free, hy.snapR, hy.freeR]

theorem head_run01 {x : D} {ta tk tp tn r : Tok} {rs : List Tok} (hS : SlD 5 (tokRows (ta :: tk :: tp :: tn :: r :: rs)) x) (ha : isWord ta [wAFTER] = true) (hn : isWord tk [wSTANDARD] = false) (hk : isWord tk [wEXCEPTION, wERROR] = true) (hp : isWord tp [wPROCEDURE] = true) (ho : isWord tn [wON] = true) :
  ∃ y, SlD 5 (tokRows (r :: rs)) y ∧ ∀ (d : Nat) (S : St), 4 ≤ d → runF LP NN d 32 [x] S = some (.tup [y, .bool true], S, false) := by
 have hy := (tokD (tokD (tokD (tokD hS))))
 refine ⟨_, hy, fun d S hd => ?_⟩
 refine run_pure (F := F32) rfl (by simp only [LP, fnOf, snapVs, snaps, zs, zm, zv, hS.snapV, hS.freeV] <;> exact rfl) rfl (by simp only [LP, zf, zm, hS.snapV, hS.freeV]; try rfl) (by simp only [F32, zv] <;> exact rfl) (by omega) ?_
 rintro d rfl
 refine cw_seq (cw_region ?_)
 refine ow_mc ?_
 refine ow_mc ?_
 refine ow_nil ?_
 refine sk_n (by simp only [ze] <;> exact rfl) ?_
 refine cw_seq (cw_region ?_)
 refine ow_me rfl ?_
 refine ow_op (by simp only [zl, zm, fillRows, List.replicate, snapVs, snaps, zs, zc, zf, hy.len, tokRows_len] <;> exact rfl) ?_
 refine ow_op (by simp only [zo, hy.len, tokRows_len]; exact skip_yes (by omega) _ hS (ws := [wAFTER]) (SlD.of 1 _ (some 1)) (by decide) ha) ?_
 refine ow_ml rfl ?_
 refine ow_op (by simp only [zo, List.getElem?_cons_zero, List.getElem?_cons_succ, hy.len, tokRows_len] <;> exact rfl) ?_
 refine ow_op (by simp only [zo, List.getElem?_cons_zero, List.getElem?_cons_succ, hy.len, tokRows_len] <;> exact rfl) ?_
 refine ow_ml rfl ?_
 refine ow_ml rfl ?_
 refine ow_nil ?_
 refine sk_n (by simp only [ze] <;> exact rfl) ?_
 refine cw_seq (cw_seq (cw_region ?_))
 refine ow_me rfl ?_
 refine ow_op (by simp only [zo, unD, hy.len, tokRows_len] <;> exact rfl) ?_
 refine ow_nil ?_
 refine sk_n (by simp only [ze] <;> exact rfl) ?_
 skip
 refine cw_false (by simp only [opd, zv, hy.len, tokRows_len] <;> rfl) ?_
 refine cw_skip (sk_n rfl (cw_seq (cw_region ?_)))
 refine ow_me rfl ?_
 refine ow_op (by simp only [zl, zm, fillRows, List.replicate, snapVs, snaps, zs, zc, zf, hy.len, tokRows_len] <;> exact rfl) ?_
 refine ow_op (by simp only [zo, hy.len, tokRows_len]; exact skip_no (by omega) _ (tokD hS) (ws := [wSTANDARD]) (SlD.of 1 _ (some 1)) (by decide) hn) ?_
 refine ow_ml rfl ?_
 refine ow_op (by simp only [zo, List.getElem?_cons_zero, List.getElem?_cons_succ, hy.len, tokRows_len] <;> exact rfl) ?_
 refine ow_op (by simp only [zo, List.getElem?_cons_zero, List.getElem?_cons_succ, hy.len, tokRows_len] <;> exact rfl) ?_
 refine ow_ml rfl ?_
 refine ow_nil ?_
 refine sk_n (by simp only [ze] <;> exact rfl) ?_
 refine cw_seq (cw_region ?_)
 refine ow_me rfl ?_
 refine ow_op (by simp only [zl, zm, fillRows, List.replicate, snapVs, snaps, zs, zc, zf, hy.len, tokRows_len] <;> exact rfl) ?_
 refine ow_op (by simp only [zo, hy.len, tokRows_len]; exact skip_yes (by omega) _ (tokD hS) (ws := [wEXCEPTION, wERROR]) (SlD.of 1 _ (some 2)) (by decide) hk) ?_
 refine ow_ml rfl ?_
 refine ow_op (by simp only [zo, List.getElem?_cons_zero, List.getElem?_cons_succ, hy.len, tokRows_len] <;> exact rfl) ?_
 refine ow_op (by simp only [zo, List.getElem?_cons_zero, List.getElem?_cons_succ, hy.len, tokRows_len] <;> exact rfl) ?_
 refine ow_ml rfl ?_
 refine ow_ml rfl ?_
 refine ow_nil ?_
 refine sk_n (by simp only [ze] <;> exact rfl) ?_
 refine cw_seq (cw_seq (cw_region ?_))
 refine ow_me rfl ?_
 refine ow_op (by simp only [zo, unD, hy.len, tokRows_len] <;> exact rfl) ?_
 refine ow_nil ?_
 refine sk_n (by simp only [ze] <;> exact rfl) ?_
 skip
 refine cw_false (by simp only [opd, zv, hy.len, tokRows_len] <;> rfl) ?_
 refine cw_skip (sk_n rfl (cw_seq (cw_region ?_)))
 refine ow_me rfl ?_
 refine ow_op (by simp only [zl, zm, fillRows, List.replicate, snapVs, snaps, zs, zc, zf, hy.len, tokRows_len] <;> exact rfl) ?_
 refine ow_op (by simp only [zo, hy.len, tokRows_len]; exact skip_yes (by omega) _ (tokD (tokD hS)) (ws := [wPROCEDURE]) (SlD.of 1 _ (some 1)) (by decide) hp) ?_
 refine ow_ml rfl ?_
 refine ow_op (by simp only [zo, List.getElem?_cons_zero, List.getElem?_cons_succ, hy.len, tokRows_len] <;> exact rfl) ?_
 refine ow_op (by simp only [zo, List.getElem?_cons_zero, List.getElem?_cons_succ, hy.len, tokRows_len] <;> exact rfl) ?_
 refine ow_ml rfl ?_
 refine ow_ml rfl ?_
 refine ow_nil ?_
 refine sk_n (by simp only [ze] <;> exact rfl) ?_
 refine cw_seq (cw_seq (cw_region ?_))
 refine ow_me rfl ?_
 refine ow_op (by simp only [zo, unD, hy.len, tokRows_len] <;> exact rfl) ?_
 refine ow_nil ?_
 refine sk_n (by simp only [ze] <;> exact rfl) ?_
 skip
 refine cw_false (by simp only [opd, zv, hy.len, tokRows_len] <;> rfl) ?_
 refine cw_skip (sk_n rfl (cw_seq (cw_region ?_)))
 refine ow_me rfl ?_
 refine ow_op (by simp only [zl, zm, fillRows, List.replicate, snapVs, snaps, zs, zc, zf, hy.len, tokRows_len] <;> exact rfl) ?_
 refine ow_op (by simp only [zo, hy.len, tokRows_len]; exact skip_yes (by omega) _ (tokD (tokD (tokD hS))) (ws := [wON]) (SlD.of 1 _ (some 1)) (by decide) ho) ?_
 refine ow_ml rfl ?_
 refine ow_op (by simp only [zo, List.getElem?_cons_zero, List.getElem?_cons_succ, hy.len, tokRows_len] <;> exact rfl) ?_
 refine ow_op (by simp only [zo, List.getElem?_cons_zero, List.getElem?_cons_succ, hy.len, tokRows_len] <;> exact rfl) ?_
 refine ow_ml rfl ?_
 refine ow_nil ?_
 refine sk_n (by simp only [ze] <;> exact rfl) ?_
 refine cw_seq (cw_region ?_)
 refine ow_me rfl ?_
 refine ow_me rfl ?_
 refine ow_op (by simp only [zo, lenD_str, lenD_nils, lenD_sl, lenD_msl, hy.len, tokRows_len] <;> exact rfl) ?_
 refine ow_op (by simp only [zo, binD, zb, Int.reduceEq, Int.reduceToNat, Int.reduceLT, hy.len, tokRows_len] <;> exact rfl) ?_
 refine ow_ml rfl ?_
 refine ow_ml rfl ?_
 refine ow_nil ?_
 refine sk_n (by simp only [ze] <;> exact rfl) ?_
 refine cw_ret ?_
 refine ⟨_, by simp only [F32, resultD, resDs, resD, zg, zd, rowsOf, partD, List.take, List.drop, zm] <;> exact rfl, ?_⟩
 have hz : decide (((rs.length + 1 : Nat) : Int) > 0) = true := decide_eq_true (by omega)
 simp only [List.length_cons, hz]
 simp only [leaveP, leave, snapVs, snaps, zs, zf, zk, hy.snapV, hy.freeV, hy.snap, hy.free, hy.snapR, hy.freeR]

theorem head_run10 {x : D} {ta ts tk tp r : Tok} {rs : List Tok} (hS : SlD 5 (tokRows (ta :: ts :: tk :: tp :: r :: rs)) x) (ha : isWord ta [wAFTER] = true) (hs : isWord ts [wSTANDARD] = true) (hk : isWord tk [wEXCEPTION, wERROR] = true) (hp : isWord tp [wPROCEDURE] = true) (hr : isWord r [wON] = false) :
  ∃ y, SlD 5 (tokRows (r :: rs)) y ∧ ∀ (d : Nat) (S : St), 4 ≤ d → runF LP NN d 32 [x] S = some (.tup [y, .bool true], S, false) := by
 have hy := (tokD (tokD (tokD (tokD hS))))
 refine ⟨_, hy, fun d S hd => ?_⟩
 refine run_pure (F := F32) rfl (by simp only [LP, fnOf, snapVs, snaps, zs, zm, zv, hS.snapV, hS.freeV] <;> exact rfl) rfl (by simp only [LP, zf, zm, hS.snapV, hS.freeV]; try rfl) (by simp only [F32, zv] <;> exact rfl) (by omega) ?_
 rintro d rfl
 refine cw_seq (cw_region ?_)
 refine ow_mc ?_
 refine ow_mc ?_
 refine ow_nil ?_
 refine sk_n (by simp only [ze] <;> exact rfl) ?_
 refine cw_seq (cw_region ?_)
 refine ow_me rfl ?_
 refine ow_op (by simp only [zl, zm, fillRows, List.replicate, snapVs, snaps, zs, zc, zf, hy.len, tokRows_len] <;> exact rfl) ?_
 refine ow_op (by simp only [zo, hy.len, tokRows_len]; exact skip_yes (by omega) _ hS (ws := [wAFTER]) (SlD.of 1 _ (some 1)) (by decide) ha) ?_
 refine ow_ml rfl ?_
 refine ow_op (by simp only [zo, List.getElem?_cons_zero, List.getElem?_cons_succ, hy.len, tokRows_len] <;> exact rfl) ?_
 refine ow_op (by simp only [zo, List.getElem?_cons_zero, List.getElem?_cons_succ, hy.len, tokRows_len] <;> exact rfl) ?_
 refine ow_ml rfl ?_
 refine ow_ml rfl ?_
 refine ow_nil ?_
 refine sk_n (by simp only [ze] <;> exact rfl) ?_
 refine cw_seq (cw_seq (cw_region ?_))
 refine ow_me rfl ?_
 refine ow_op (by simp only [zo, unD, hy.len, tokRows_len] <;> exact rfl) ?_
 refine ow_nil ?_
 refine sk_n (by simp only [ze] <;> exact rfl) ?_
 skip
 refine cw_false (by simp only [opd, zv, hy.len, tokRows_len] <;> rfl) ?_
 refine cw_skip (sk_n rfl (cw_seq (cw_region ?_)))
 refine ow_me rfl ?_
 refine ow_op (by simp only [zl, zm, fillRows, List.replicate, snapVs, snaps, zs, zc, zf, hy.len, tokRows_len] <;> exact rfl) ?_
 refine ow_op (by simp only [zo, hy.len, tokRows_len]; exact skip_yes (by omega) _ (tokD hS) (ws := [wSTANDARD]) (SlD.of 1 _ (some 1)) (by decide) hs) ?_
 refine ow_ml rfl ?_
 refine ow_op (by simp only [zo, List.getElem?_cons_zero, List.getElem?_cons_succ, hy.len, tokRows_len] <;> exact rfl) ?_
 refine ow_op (by simp only [zo, List.getElem?_cons_zero, List.getElem?_cons_succ, hy.len, tokRows_len] <;> exact rfl) ?_
 refine ow_ml rfl ?_
 refine ow_nil ?_
 refine sk_n (by simp only [ze] <;> exact rfl) ?_
 refine cw_seq (cw_region ?_)
 refine ow_me rfl ?_
 refine ow_op (by simp only [zl, zm, fillRows, List.replicate, snapVs, snaps, zs, zc, zf, hy.len, tokRows_len] <;> exact rfl) ?_
 refine ow_op (by simp only [zo, hy.len, tokRows_len]; exact skip_yes (by omega) _ (tokD (tokD hS)) (ws := [wEXCEPTION, wERROR]) (SlD.of 1 _ (some 2)) (by decide) hk) ?_
 refine ow_ml rfl ?_
 refine ow_op (by simp only [zo, List.getElem?_cons_zero, List.getElem?_cons_succ, hy.len, tokRows_len] <;> exact rfl) ?_
 refine ow_op (by simp only [zo, List.getElem?_cons_zero, List.getElem?_cons_succ, hy.len, tokRows_len] <;> exact rfl) ?_
 refine ow_ml rfl ?_
 refine ow_ml rfl ?_
 refine ow_nil ?_
 refine sk_n (by simp only [ze] <;> exact rfl) ?_
 refine cw_seq (cw_seq (cw_region ?_))
 refine ow_me rfl ?_
 refine ow_op (by simp only [zo, unD, hy.len, tokRows_len] <;> exact rfl) ?_
 refine ow_nil ?_
 refine sk_n (by simp only [ze] <;> exact rfl) ?_
 skip
 refine cw_false (by simp only [opd, zv, hy.len, tokRows_len] <;> rfl) ?_
 refine cw_skip (sk_n rfl (cw_seq (cw_region ?_)))
 refine ow_me rfl ?_
 refine ow_op (by simp only [zl, zm, fillRows, List.replicate, snapVs, snaps, zs, zc, zf, hy.len, tokRows_len] <;> exact rfl) ?_
 refine ow_op (by simp only [zo, hy.len, tokRows_len]; exact skip_yes (by omega) _ (tokD (tokD (tokD hS))) (ws := [wPROCEDURE]) (SlD.of 1 _ (some 1)) (by decide) hp) ?_
 refine ow_ml rfl ?_
 refine ow_op (by simp only [zo, List.getElem?_cons_zero, List.getElem?_cons_succ, hy.len, tokRows_len] <;> exact rfl) ?_
 refine ow_op (by simp only [zo, List.getElem?_cons_zero, List.getElem?_cons_succ, hy.len, tokRows_len] <;> exact rfl) ?_
 refine ow_ml rfl ?_
 refine ow_ml rfl ?_
 refine ow_nil ?_
 refine sk_n (by simp only [ze] <;> exact rfl) ?_
 refine cw_seq (cw_seq (cw_region ?_))
 refine ow_me rfl ?_
 refine ow_op (by simp only [zo, unD, hy.len, tokRows_len] <;> exact rfl) ?_
 refine ow_nil ?_
 refine sk_n (by simp only [ze] <;> exact rfl) ?_
 skip
 refine cw_false (by simp only [opd, zv, hy.len, tokRows_len] <;> rfl) ?_
 refine cw_skip (sk_n rfl (cw_seq (cw_region ?_)))
 refine ow_me rfl ?_
 refine ow_op (by simp only [zl, zm, fillRows, List.replicate, snapVs, snaps, zs, zc, zf, hy.len, tokRows_len] <;> exact rfl) ?_
 refine ow_op (by simp only [zo, hy.len, tokRows_len]; exact skip_no (by omega) _ (tokD (tokD (tokD (tokD hS)))) (ws := [wON]) (SlD.of 1 _ (some 1)) (by decide) hr) ?_
 refine ow_ml rfl ?_
 refine ow_op (by simp only [zo, List.getElem?_cons_zero, List.getElem?_cons_succ, hy.len, tokRows_len] <;> exact rfl) ?_
 refine ow_op (by simp only [zo, List.getElem?_cons_zero, List.getElem?_cons_succ, hy.len, tokRows_len] <;> exact rfl) ?_
 refine ow_ml rfl ?_
 refine ow_nil ?_
 refine sk_n (by simp only [ze] <;> exact rfl) ?_
 refine cw_seq (cw_region ?_)
 refine ow_me rfl ?_
 refine ow_me rfl ?_
 refine ow_op (by simp only [zo, lenD_str, lenD_nils, lenD_sl, lenD_msl, hy.len, tokRows_len] <;> exact rfl) ?_
 refine ow_op (by simp only [zo, binD, zb, Int.reduceEq, Int.reduceToNat, Int.reduceLT, hy.len, tokRows_len] <;> exact rfl) ?_
 refine ow_ml rfl ?_
 refine ow_ml rfl ?_
 refine ow_nil ?_
 refine sk_n (by simp only [ze] <;> exact rfl) ?_
 refine cw_ret ?_
 refine ⟨_, by simp only [F32, resultD, resDs, resD, zg, zd, rowsOf, partD, List.take, List.drop, zm] <;> exact rfl, ?_⟩
 have hz : decide (((rs.length + 1 : Nat) : Int) > 0) = true := decide_eq_true (by omega)
 simp only [List.length_cons, hz]
 simp only [leaveP, leave, snapVs, snaps, zs, zf, zk, hy.snapV, hy.freeV, hy.snap, hy.free, hy.snapR, hy.freeR]

theorem head_run11 {x : D} {ta ts tk tp tn r : Tok} {rs : List Tok} (hS : SlD 5 (tokRows (ta :: ts :: tk :: tp :: tn :: r :: rs)) x) (ha : isWord ta [wAFTER] = true) (hs : isWord ts [wSTANDARD] = true) (hk : isWord tk [wEXCEPTION, wERROR] = true) (hp : isWord tp [wPROCEDURE] = true) (ho : isWord tn [wON] = true) :
  ∃ y, SlD 5 (tokRows (r :: rs)) y ∧ ∀ (d : Nat) (S : St), 4 ≤ d → runF LP NN d 32 [x] S = some (.tup [y, .bool true], S, false) := by
 have hy := (tokD (tokD (tokD (tokD (tokD hS)))))
 refine ⟨_, hy, fun d S hd => ?_⟩
 refine run_pure (F := F32) rfl (by simp only [LP, fnOf, snapVs, snaps, zs, zm, zv, hS.snapV, hS.freeV] <;> exact rfl) rfl (by simp only [LP, zf, zm, hS.snapV, hS.freeV]; try rfl) (by simp only [F32, zv] <;> exact rfl) (by omega) ?_
 rintro d rfl
 refine cw_seq (cw_region ?_)
 refine ow_mc ?_
 refine ow_mc ?_
 refine ow_nil ?_
 refine sk_n (by simp only [ze] <;> exact rfl) ?_
 refine cw_seq (cw_region ?_)
 refine ow_me rfl ?_
 refine ow_op (by simp only [zl, zm, fillRows, List.replicate, snapVs, snaps, zs, zc, zf, hy.len, tokRows_len] <;> exact rfl) ?_
 refine ow_op (by simp only [zo, hy.len, tokRows_len]; exact skip_yes (by omega) _ hS (ws := [wAFTER]) (SlD.of 1 _ (some 1)) (by decide) ha) ?_
 refine ow_ml rfl ?_
 refine ow_op (by simp only [zo, List.getElem?_cons_zero, List.getElem?_cons_succ, hy.len, tokRows_len] <;> exact rfl) ?_
 refine ow_op (by simp only [zo, List.getElem?_cons_zero, List.getElem?_cons_succ, hy.len, tokRows_len] <;> exact rfl) ?_
 refine ow_ml rfl ?_
 refine ow_ml rfl ?_
 refine ow_nil ?_
 refine sk_n (by simp only [ze] <;> exact rfl) ?_
 refine cw_seq (cw_seq (cw_region ?_))
 refine ow_me rfl ?_
 refine ow_op (by simp only [zo, unD, hy.len, tokRows_len] <;> exact rfl) ?_
 refine ow_nil ?_
 refine sk_n (by simp only [ze] <;> exact rfl) ?_
 skip
 refine cw_false (by simp only [opd, zv, hy.len, tokRows_len] <;> rfl) ?_
 refine cw_skip (sk_n rfl (cw_seq (cw_region ?_)))
 refine ow_me rfl ?_
 refine ow_op (by simp only [zl, zm, fillRows, List.replicate, snapVs, snaps, zs, zc, zf, hy.len, tokRows_len] <;> exact rfl) ?_
 refine ow_op (by simp only [zo, hy.len, tokRows_len]; exact skip_yes (by omega) _ (tokD hS) (ws := [wSTANDARD]) (SlD.of 1 _ (some 1)) (by decide) hs) ?_
 refine ow_ml rfl ?_
 refine ow_op (by simp only [zo, List.getElem?_cons_zero, List.getElem?_cons_succ, hy.len, tokRows_len] <;> exact rfl) ?_
 refine ow_op (by simp only [zo, List.getElem?_cons_zero, List.getElem?_cons_succ, hy.len, tokRows_len] <;> exact rfl) ?_
 refine ow_ml rfl ?_
 refine ow_nil ?_
 refine sk_n (by simp only [ze] <;> exact rfl) ?_
 refine cw_seq (cw_region ?_)
 refine ow_me rfl ?_
 refine ow_op (by simp only [zl, zm, fillRows, List.replicate, snapVs, snaps, zs, zc, zf, hy.len, tokRows_len] <;> exact rfl) ?_
 refine ow_op (by simp only [zo, hy.len, tokRows_len]; exact skip_yes (by omega) _ (tokD (tokD hS)) (ws := [wEXCEPTION, wERROR]) (SlD.of 1 _ (some 2)) (by decide) hk) ?_
 refine ow_ml rfl ?_
 refine ow_op (by simp only [zo, List.getElem?_cons_zero, List.getElem?_cons_succ, hy.len, tokRows_len] <;> exact rfl) ?_
 refine ow_op (by simp only [zo, List.getElem?_cons_zero, List.getElem?_cons_succ, hy.len, tokRows_len] <;> exact rfl) ?_
 refine ow_ml rfl ?_
 refine ow_ml rfl ?_
 refine ow_nil ?_
 refine sk_n (by simp only [ze] <;> exact rfl) ?_
 refine cw_seq (cw_seq (cw_region ?_))
 refine ow_me rfl ?_
 refine ow_op (by simp only [zo, unD, hy.len, tokRows_len] <;> exact rfl) ?_
 refine ow_nil ?_
 refine sk_n (by simp only [ze] <;> exact rfl) ?_
 skip
 refine cw_false (by simp only [opd, zv, hy.len, tokRows_len] <;> rfl) ?_
 refine cw_skip (sk_n rfl (cw_seq (cw_region ?_)))
 refine ow_me rfl ?_
 refine ow_op (by simp only [zl, zm, fillRows, List.replicate, snapVs, snaps, zs, zc, zf, hy.len, tokRows_len] <;> exact rfl) ?_
 refine ow_op (by simp only [zo, hy.len, tokRows_len]; exact skip_yes (by omega) _ (tokD (tokD (tokD hS))) (ws := [wPROCEDURE]) (SlD.of 1 _ (some 1)) (by decide) hp) ?_
 refine ow_ml rfl ?_
 refine ow_op (by simp only [zo, List.getElem?_cons_zero, List.getElem?_cons_succ, hy.len, tokRows_len] <;> exact rfl) ?_
 refine ow_op (by simp only [zo, List.getElem?_cons_zero, List.getElem?_cons_succ, hy.len, tokRows_len] <;> exact rfl) ?_
 refine ow_ml rfl ?_
 refine ow_ml rfl ?_
 refine ow_nil ?_
 refine sk_n (by simp only [ze] <;> exact rfl) ?_
 refine cw_seq (cw_seq (cw_region ?_))
 refine ow_me rfl ?_
 refine ow_op (by simp only [zo, unD, hy.len, tokRows_len] <;> exact rfl) ?_
 refine ow_nil ?_
 refine sk_n (by simp only [ze] <;> exact rfl) ?_
 skip
 refine cw_false (by simp only [opd, zv, hy.len, tokRows_len] <;> rfl) ?_
 refine cw_skip (sk_n rfl (cw_seq (cw_region ?_)))
 refine ow_me rfl ?_
 refine ow_op (by simp only [zl, zm, fillRows, List.replicate, snapVs, snaps, zs, zc, zf, hy.len, tokRows_len] <;> exact rfl) ?_
 refine ow_op (by simp only [zo, hy.len, tokRows_len]; exact skip_yes (by omega) _ (tokD (tokD (tokD (tokD hS)))) (ws := [wON]) (SlD.of 1 _ (some 1)) (by decide) ho) ?_
 refine ow_ml rfl ?_
 refine ow_op (by simp only [zo, List.getElem?_cons_zero, List.getElem?_cons_succ, hy.len, tokRows_len] <;> exact rfl) ?_
 refine ow_op (by simp only [zo, List.getElem?_cons_zero, List.getElem?_cons_succ, hy.len, tokRows_len] <;> exact rfl) ?_
 refine ow_ml rfl ?_
 refine ow_nil ?_
 refine sk_n (by simp only [ze] <;> exact rfl) ?_
 refine cw_seq (cw_region ?_)
 refine ow_me rfl ?_
 refine ow_me rfl ?_
 refine ow_op (by simp only [zo, lenD_str, lenD_nils, lenD_sl, lenD_msl, hy.len, tokRows_len] <;> exact rfl) ?_
 refine ow_op (by simp only [zo, binD, zb, Int.reduceEq, Int.reduceToNat, Int.reduceLT, hy.len, tokRows_len] <;> exact rfl) ?_
 refine ow_ml rfl ?_
 refine ow_ml rfl ?_
 refine ow_nil ?_
 refine sk_n (by simp only [ze] <;> exact rfl) ?_
 refine cw_ret ?_
 refine ⟨_, by simp only [F32, resultD, resDs, resD, zg, zd, rowsOf, partD, List.take, List.drop, zm] <;> exact rfl, ?_⟩
 have hz : decide (((rs.length + 1 : Nat) : Int) > 0) = true := decide_eq_true (by omega)
 simp only [List.length_cons, hz]
 simp only [leaveP, leave, snapVs, snaps, zs, zf, zk, hy.snapV, hy.freeV, hy.snap, hy.free, hy.snapR, hy.freeR]

theorem fault_run {d : Nat} (hd : 1 ≤ d) (S : St) {x y : D} {t : Tok} {l : List Tok} {rows : List (List D)} (e : Int) (hS : SlD 5 (tokRows (t :: l)) x) (hY : SlD 5 rows y) :
  runF LP NN d 33 [.int .i64 e, x, y] S = some (.agg [.int .i64 e, .int .i64 t.line, .int .i64 t.col], S, false) := by
 have hia := fun (S : St) => hS.iaddr S .i64 (i := 0) (by omega) (tokRows_0 t l)
 refine run_pure (F := F33) rfl (by simp only [LP, fnOf, snapVs, snaps, zs, zm, zv, hS.snapV, hS.freeV, hY.snapV, hY.freeV] <;> exact rfl) rfl (by simp only [LP, zf, zm, hS.snapV, hS.freeV, hY.snapV, hY.freeV]; try rfl) (by simp only [F33, zv] <;> exact rfl) (by omega) ?_
 rintro d rfl
 refine cw_seq (cw_region ?_)
 refine ow_op (by simp only [zl, zm, hS.len, tokRows_len, hia, List.length_cons] <;> exact rfl) ?_
 refine ow_nil ?_
 refine sk_n (by simp only [ze] <;> exact rfl) ?_
 refine cw_seq (cw_block (cw_seq (cw_region ?_)))
 refine ow_me rfl ?_
 refine ow_op (by simp only [zo, lenD_str, lenD_nils, lenD_sl, lenD_msl, hS.len, tokRows_len, hia, List.length_cons] <;> exact rfl) ?_
 refine ow_op (by simp only [zo, binD, zb, Int.reduceEq, Int.reduceToNat, Int.reduceLT, hS.len, tokRows_len, hia, List.length_cons] <;> exact rfl) ?_
 refine ow_ml rfl ?_
 refine ow_nil ?_
 refine sk_n (by simp only [ze] <;> exact rfl) ?_
 skip
 refine cw_true (by simp only [opd, zv, hS.len, tokRows_len, hia, List.length_cons] <;> exact congrArg D.bool (decide_eq_true (by omega))) ?_
 refine cw_seq (cw_region ?_)
 refine ow_me rfl ?_
 refine ow_me rfl ?_
 refine ow_op (by simp only [zl, zm, iaddrD_sl, iaddrD_msl, Int.toNat_natCast, Int.toNat_zero, List.getElem?_map, Option.map_some, Int.le_refl, hS.len, tokRows_len, hia, List.length_cons] <;> exact rfl) ?_
 refine ow_op (by simp only [zo, faddrD_ptr, faddrD_cptr, zm, hS.len, tokRows_len, hia, List.length_cons] <;> exact rfl) ?_
 refine ow_op (by simp only [zl, zm, zd, partD, List.take, List.drop, hS.len, tokRows_len, hia, List.length_cons] <;> exact rfl) ?_
 refine ow_op (by simp only [zo, fillD, overlay, zc, List.take, List.drop, Nat.reduceAdd, Nat.reduceLeDiff, Nat.reduceBEq, zm, hS.len, tokRows_len, hia, List.length_cons] <;> exact rfl) ?_
 refine ow_op (by simp only [zl, zm, storeD, overlay, snapVs, snaps, zs, zc, zf, List.take, List.drop, hS.len, tokRows_len, hia, List.length_cons] <;> exact rfl) ?_
 refine ow_nil ?_
 refine sk_n (by simp only [ze] <;> exact rfl) ?_
 refine cw_ret (bk_r (sk_r ?_))
 refine ⟨_, by simp only [F33, resultD, resDs, resD, zg, zd, rowsOf, partD, List.take, List.drop, zm] <;> exact rfl, ?_⟩
 simp only [leaveP, leave, snapVs, snaps, zs, zf, zk]

def modeRows : List (List D) := [[.str ⟨#[73, 78, 80, 85, 84]⟩, .int .u8 1], [.str ⟨#[79, 85, 84, 80, 85, 84]⟩, .int .u8 2], [.str ⟨#[73, 45, 79]⟩, .int .u8 3], [.str ⟨#[69, 88, 84, 69, 78, 68]⟩, .int .u8 4]]
theorem modes_run {d : Nat} (hd : 1 ≤ d) (S : St) : runF LP NN d 34 [] S = some (.mp modeRows, S, false) := by
 obtain ⟨d, rfl⟩ : ∃ d', d = d' + 1 := ⟨d - 1, by omega⟩
 kernel_rfl
/-- the mode of a word, or 0 -/
def modeW (s : ByteArray) : Nat := if s == ⟨#[73, 78, 80, 85, 84]⟩ then 1 else if s == ⟨#[79, 85, 84, 80, 85, 84]⟩ then 2 else if s == ⟨#[73, 45, 79]⟩ then 3 else if s == ⟨#[69, 88, 84, 69, 78, 68]⟩ then 4 else 0
theorem mapget_modes (S : St) (s : ByteArray) : mapgetD S 1 (.int .u8 0) false (.mp modeRows) (.str s) = some (.int .u8 (modeW s)) := by
 unfold modeW
 simp only [mapgetD, mapRows, isKey, modeRows, findD, eqCell]
 by_cases h1 : s == ⟨#[73, 78, 80, 85, 84]⟩ <;> simp only [h1, if_true, if_false, Bool.false_eq_true]
 ·
  rfl
 by_cases h2 : s == ⟨#[79, 85, 84, 80, 85, 84]⟩ <;> simp only [h2, if_true, if_false, Bool.false_eq_true]
 ·
  rfl
 by_cases h3 : s == ⟨#[73, 45, 79]⟩ <;> simp only [h3, if_true, if_false, Bool.false_eq_true]
 ·
  rfl
 by_cases h4 : s == ⟨#[69, 88, 84, 69, 78, 68]⟩ <;> simp only [h4, if_true, if_false, Bool.false_eq_true]
 ·
  rfl
 ·
  rfl

theorem clip1_run {d : Nat} (hd : 1 ≤ d) (S : St) {x : D} {rows : List (List D)} (hS : SlD 1 rows x) :
  runF LP NN d 21 [x] S = some (clipD x, S, false) := by
 refine run_pure (F := F21) rfl (by simp only [LP, fnOf, snapVs, snaps, zs, zm, zv, hS.snapV, hS.freeV] <;> exact rfl) rfl (by simp only [LP, zf, zm, hS.snapV, hS.freeV]; try rfl) (by simp only [F21, zv] <;> exact rfl) (by omega) ?_
 rintro d rfl
 refine cw_seq (cw_region ?_)
 refine ow_mc ?_
 refine ow_nil ?_
 refine sk_n (by simp only [ze] <;> exact rfl) ?_
 refine cw_seq (cw_region ?_)
 refine ow_me rfl ?_
 refine ow_me rfl ?_
 refine ow_op (by simp only [zo, lenD_str, lenD_nils, lenD_sl, lenD_msl, hS.len] <;> exact rfl) ?_
 refine ow_me rfl ?_
 refine ow_op (by simp only [zo, lenD_str, lenD_nils, lenD_sl, lenD_msl, hS.len] <;> exact rfl) ?_
 refine ow_op (by simp only [opd, zv, exOp, aop, LOp.loud, lop, sliceArgs, if_true, Option.map_some, hS.len, hS.slice_clip _] <;> exact rfl) ?_
 refine ow_ml rfl ?_
 refine ow_nil ?_
 refine sk_n (by simp only [ze] <;> exact rfl) ?_
 refine cw_ret ?_
 refine ⟨_, by simp only [F21, resultD, resDs, resD, zg, zd, rowsOf, partD, List.take, List.drop, zm] <;> exact rfl, ?_⟩
 simp only [leaveP, leave, snapVs, snaps, zs, zf, zk, hS.clip.snapV, hS.clip.freeV, hS.clip.snap, hS.clip.free, hS.clip.snapR, hS.clip.freeR]

theorem clip3_run {d : Nat} (hd : 1 ≤ d) (S : St) {x : D} {rows : List (List D)} (hS : SlD 3 rows x) :
  runF LP NN d 24 [x] S = some (clipD x, S, false) := by
 refine run_pure (F := F24) rfl (by simp only [LP, fnOf, snapVs, snaps, zs, zm, zv, hS.snapV, hS.freeV] <;> exact rfl) rfl (by simp only [LP, zf, zm, hS.snapV, hS.freeV]; try rfl) (by simp only [F24, zv] <;> exact rfl) (by omega) ?_
 rintro d rfl
 refine cw_seq (cw_region ?_)
 refine ow_mc ?_
 refine ow_nil ?_
 refine sk_n (by simp only [ze] <;> exact rfl) ?_
 refine cw_seq (cw_region ?_)
 refine ow_me rfl ?_
 refine ow_me rfl ?_
 refine ow_op (by simp only [zo, lenD_str, lenD_nils, lenD_sl, lenD_msl, hS.len] <;> exact rfl) ?_
 refine ow_me rfl ?_
 refine ow_op (by simp only [zo, lenD_str, lenD_nils, lenD_sl, lenD_msl, hS.len] <;> exact rfl) ?_
 refine ow_op (by simp only [opd, zv, exOp, aop, LOp.loud, lop, sliceArgs, if_true, Option.map_some, hS.len, hS.slice_clip _] <;> exact rfl) ?_
 refine ow_ml rfl ?_
 refine ow_nil ?_
 refine sk_n (by simp only [ze] <;> exact rfl) ?_
 refine cw_ret ?_
 refine ⟨_, by simp only [F24, resultD, resDs, resD, zg, zd, rowsOf, partD, List.take, List.drop, zm] <;> exact rfl, ?_⟩
 simp only [leaveP, leave, snapVs, snaps, zs, zf, zk, hS.clip.snapV, hS.clip.freeV, hS.clip.snap, hS.clip.free, hS.clip.snapR, hS.clip.freeR]

theorem containsFunc_run {d : Nat} (hd : 2 ≤ d) (S : St) {x : D} {l : List Ru} (hS : SlD 3 (ruRows l) x) (hl : l.length ≤ 1000000) (f : FuncId) (caps : List D) (hne : caps.all D.free0 = false) (p : Ru → Bool)
  (hcall : ∀ {d'}, d = d' + 2 → ∀ r ∈ l, runF LP NN d' f (.agg [.str r.sec, r.fd, .int .u8 r.mode] :: caps) ⟨S.heap, S.heap.length⟩ = some (.bool (p r), ⟨S.heap, S.heap.length⟩, false)) :
  runF LP NN d 35 [x, .fn f caps] S = some (.bool (l.any p), S, false) := by
 refine run_at (F := F35) rfl (by simp only [LP, fnOf, snapVs, snaps, zs, zm, zv, hS.snapV, hS.freeV, hne, Bool.and_false] <;> exact rfl) rfl (by simp only [LP, zf, zm, hS.snapV, hS.freeV, hne, Bool.and_false]; try rfl) (by simp only [F35, zv] <;> exact rfl) (by omega) ?_
 rintro d rfl
 refine cw_seq (cw_region ?_)
 refine ow_mc ?_
 refine ow_nil ?_
 refine sk_n (by simp only [ze] <;> exact rfl) ?_
 refine cw_seq (cw_region ?_)
 refine ow_me rfl ?_
 refine ow_me rfl ?_
 refine ow_op (by simp only [zo]; exact indexFunc_run (by omega) _ hS hl f caps hne p (fun he r hr => by cases he; exact hcall rfl r hr)) ?_
 refine ow_op (by simp only [zo, binD, zb, Int.reduceEq, Int.reduceToNat, Int.reduceLT] <;> exact rfl) ?_
 refine ow_ml rfl ?_
 refine ow_nil ?_
 refine sk_n (by simp only [ze] <;> exact rfl) ?_
 refine cw_ret ?_
 refine ⟨_, by simp only [F35, resultD, resDs, resD, zg, zd, rowsOf, partD, List.take, List.drop, zm] <;> exact rfl, ?_⟩
 rw [idxI_nonneg]
 simp [leave, LP, snapR, snapV, snap, D.freeR, D.freeV, D.free, D.free0, D.free0]

/-- a file of a program in the machine -/
structure Fi where
 nm : ByteArray
 st : D
 hst : ∃ rows, SlD 1 rows st
def Fi.row (f : Fi) : List D := [.str f.nm, .str ⟨#[]⟩, .int .u8 0, .int .u8 0, .nils, .nils, f.st, .bool false, .nils, .nils, .int .i64 0, .int .i64 0]
def fiRows (l : List Fi) : List (List D) := l.map Fi.row
theorem fiRows_at {l : List Fi} {i : Nat} (h : i < l.length) : (fiRows l)[i]? = some [.str l[i].nm, .str ⟨#[]⟩, .int .u8 0, .int .u8 0, .nils, .nils, l[i].st, .bool false, .nils, .nils, .int .i64 0, .int .i64 0] := by simp [fiRows, h, Fi.row]
theorem fiRows_len (l : List Fi) : (fiRows l).length = l.length := by simp [fiRows]

theorem fil1_run {d : Nat} (hd : 1 ≤ d) (S : St) (r : Fi) (s : ByteArray) (g : Nat) (e : TypeId) (hcap : S.heap[g]? = some ⟨e, 1, [[.str s]], 0, 0, false⟩) (hlt : g < S.heap.length) :
  runF LP NN d 43 [.agg [.str r.nm, .str ⟨#[]⟩, .int .u8 0, .int .u8 0, .nils, .nils, r.st, .bool false, .nils, .nils, .int .i64 0, .int .i64 0], .ptr g 0 0 0] S = some (.bool (r.nm.toList == s.toList), S, false) := by
 obtain ⟨rows, hst⟩ := r.hst
 refine run_at (F := F43) rfl (by simp only [LP, fnOf, snapVs, snaps, zs, zm, zv, hst.snap, hst.freeV, hst.free] <;> exact rfl) rfl (by simp only [LP, zf, zm, hst.snap, hst.freeV, hst.free]; try rfl) (by simp only [F43, zv] <;> exact rfl) (by omega) ?_
 rintro d rfl
 have zz1 := And.intro hst.isCell (And.intro hst.val (And.intro hst.cells (hcap)))
 refine cw_seq (cw_region ?_)
 refine ow_op (by simp only [zl, zm, zc, List.getElem?_append_left hlt, zz1] <;> exact rfl) ?_
 refine ow_mc ?_
 refine ow_nil ?_
 refine sk_n (by simp only [ze] <;> exact rfl) ?_
 refine cw_seq (cw_region ?_)
 refine ow_op (by simp only [zo, faddrD_ptr, faddrD_cptr, zm, List.getElem?_append_left hlt, zz1] <;> exact rfl) ?_
 refine ow_op (by simp only [zl, zm, zd, partD, List.take, List.drop, List.getElem?_append_left hlt, zz1] <;> exact rfl) ?_
 refine ow_op (by simp only [zl, zm, zd, partD, List.take, List.drop, List.getElem?_append_left hlt, zz1] <;> exact rfl) ?_
 refine ow_op (by simp only [zo, binD, zb, Int.reduceEq, Int.reduceToNat, Int.reduceLT, List.getElem?_append_left hlt, zz1] <;> exact rfl) ?_
 refine ow_ml rfl ?_
 refine ow_nil ?_
 refine sk_n (by simp only [ze] <;> exact rfl) ?_
 refine cw_ret ?_
 refine ⟨_, by simp only [F43, resultD, resDs, resD, zg, zd, rowsOf, partD, List.take, List.drop, zm] <;> exact rfl, ?_⟩
 simp [leave, LP, snapR, snapV, snap, D.freeR, D.freeV, D.free, D.free0, D.free0]

theorem indexFile_run {d : Nat} (hd : 1 ≤ d) (S : St) {x : D} {l : List Fi} (hS : SlD 12 (fiRows l) x) (hl : l.length ≤ 1000000) (f : FuncId) (caps : List D) (hne : caps.all D.free0 = false) (p : Fi → Bool)
  (hcall : ∀ {d'}, d = d' + 1 → ∀ r ∈ l, runF LP NN d' f (.agg [.str r.nm, .str ⟨#[]⟩, .int .u8 0, .int .u8 0, .nils, .nils, r.st, .bool false, .nils, .nils, .int .i64 0, .int .i64 0] :: caps) ⟨S.heap, S.heap.length⟩ = some (.bool (p r), ⟨S.heap, S.heap.length⟩, false)) :
  runF LP NN d 41 [x, .fn f caps] S = some (.int .i64 (idxI p l), S, false) := by
 refine run_at (F := F41) rfl (by simp only [LP, fnOf, snapVs, snaps, zs, zm, zv, hS.snapV, hS.freeV, hne, Bool.and_false] <;> exact rfl) rfl (by simp only [LP, zf, zm, hS.snapV, hS.freeV, hne, Bool.and_false]; try rfl) (by simp only [F41, zv] <;> exact rfl) (by omega) ?_
 rintro d rfl
 refine cw_seq (cw_region ?_)
 refine ow_mc ?_
 refine ow_nil ?_
 refine sk_n (by simp only [ze] <;> exact rfl) ?_
 refine cw_seq (cw_seq (cw_region ?_))
 refine ow_me rfl ?_
 refine ow_op (by simp only [zo, lenD_str, lenD_nils, lenD_sl, lenD_msl, hS.len, fiRows_len] <;> exact rfl) ?_
 refine ow_mc ?_
 refine ow_nil ?_
 refine sk_n (by simp only [ze] <;> exact rfl) ?_
 refine cw_block ?_
 refine cw_loop (fun n env S' => ∃ (i : Nat) (u3 u6 u7 : D), i ≤ l.length ∧ n = l.length - i ∧ ((l.take i).any fun x => p x) = false ∧ S' = ⟨S.heap, S.heap.length⟩ ∧ env = [x, .fn f caps, .int .i64 0, u3, .int .i64 l.length, .int .i64 i, u6, u7]) (l.length) (by omega) (⟨0, _, _, _, by omega, by omega, by simp, rfl, rfl⟩) ?_
 rintro n env S' ⟨i, u3, u6, u7, hi, rfl, hany, rfl, rfl⟩
 have h0 : (0 : Int) ≤ (i : Int) := by omega
 refine cw_seq (cw_region ?_)
 refine ow_op (by simp only [zo, binD, zb, Int.reduceEq, Int.reduceToNat, Int.reduceLT, hS.len, fiRows_len, h0] <;> exact rfl) ?_
 refine ow_nil ?_
 refine sk_n (by simp only [ze] <;> exact rfl) ?_
 refine cw_seq ?_
 refine cw_cond (by simp only [opd, zv, hS.len, fiRows_len, h0] <;> exact rfl) (fun hcA => ?_) (fun hcA => ?_)
 ·
  have hlt : i < l.length := by have := of_decide_eq_true hcA; omega
  have hw := wrap_nat i (by omega)
  have hx := List.getElem?_eq_getElem hlt
  have hia := fun (S : St) => hS.iaddrN S .i64 (fiRows_at hlt)
  refine cw_skip (sk_n rfl (cw_seq (cw_block (cw_seq (cw_region ?_)))))
  refine ow_me rfl ?_
  refine ow_ml rfl ?_
  refine ow_nil ?_
  refine sk_n (by simp only [ze] <;> exact rfl) ?_
  refine cw_seq (cw_region ?_)
  refine ow_me rfl ?_
  refine ow_me rfl ?_
  refine ow_me rfl ?_
  refine ow_op (by simp only [zl, zm, iaddrD_sl, iaddrD_msl, Int.toNat_natCast, Int.toNat_zero, List.getElem?_map, Option.map_some, Int.le_refl, hS.len, fiRows_len, h0, hw, hx, hia] <;> exact rfl) ?_
  refine ow_op (by simp only [zl, zm, zd, partD, List.take, List.drop, hS.len, fiRows_len, h0, hw, hx, hia] <;> exact rfl) ?_
  refine ow_op (by simp only [zo, hS.len, fiRows_len, h0, hw, hx, hia]; exact hcall rfl _ (List.getElem_mem hlt)) ?_
  refine ow_nil ?_
  refine sk_n (by simp only [ze] <;> exact rfl) ?_
  refine cw_cond (by simp only [opd, zv, hS.len, fiRows_len, h0, hw, hx, hia] <;> exact rfl) (fun hcAT => ?_) (fun hcAT => ?_)
  ·
   refine cw_seq (cw_region ?_)
   refine ow_me rfl ?_
   refine ow_ml rfl ?_
   refine ow_nil ?_
   refine sk_n (by simp only [ze] <;> exact rfl) ?_
   refine cw_ret (bk_r (sk_r (lk_r (bk_r (sk_r ?_)))))
   refine ⟨_, by simp only [F41, resultD, resDs, resD, zg, zd, rowsOf, partD, List.take, List.drop, zm] <;> exact rfl, ?_⟩
   rw [idxI_at hlt hcAT hany]
   simp [leave, LP, snapR, snapV, snap, D.freeR, D.freeV, D.free, D.free0, D.free0]
  ·
   refine cw_skip (bk_n (sk_n rfl (cw_region ?_)))
   refine ow_op (by simp only [zo, binD, zb, Int.reduceEq, Int.reduceToNat, Int.reduceLT, hS.len, fiRows_len, h0, hw, hx, hia] <;> exact rfl) ?_
   refine ow_ml rfl ?_
   refine ow_nil ?_
   refine lk_n (by simp only [ze] <;> exact rfl) ?_
   exact ⟨l.length - (i + 1), by omega, i + 1, _, _, _, by omega, rfl, any_take_succ hlt hany hcAT, rfl, rfl⟩
 ·
  have hge : l.length ≤ i := by have := of_decide_eq_false hcA; omega
  refine cw_exit (sk_e (lk_e (bk_e (sk_n rfl (cw_seq (cw_region ?_))))))
  refine ow_mc ?_
  refine ow_nil ?_
  refine sk_n (by simp only [ze] <;> exact rfl) ?_
  refine cw_ret ?_
  refine ⟨_, by simp only [F41, resultD, resDs, resD, zg, zd, rowsOf, partD, List.take, List.drop, zm] <;> exact rfl, ?_⟩
  rw [List.take_of_length_le hge] at hany
  rw [idxI_none hany]
  simp [leave, LP, snapR, snapV, snap, D.freeR, D.freeV, D.free, D.free0, D.free0]

theorem containsFile_run {d : Nat} (hd : 2 ≤ d) (S : St) {x : D} {l : List Fi} (hS : SlD 12 (fiRows l) x) (hl : l.length ≤ 1000000) (f : FuncId) (caps : List D) (hne : caps.all D.free0 = false) (p : Fi → Bool)
  (hcall : ∀ {d'}, d = d' + 2 → ∀ r ∈ l, runF LP NN d' f (.agg [.str r.nm, .str ⟨#[]⟩, .int .u8 0, .int .u8 0, .nils, .nils, r.st, .bool false, .nils, .nils, .int .i64 0, .int .i64 0] :: caps) ⟨S.heap, S.heap.length⟩ = some (.bool (p r), ⟨S.heap, S.heap.length⟩, false)) :
  runF LP NN d 30 [x, .fn f caps] S = some (.bool (l.any p), S, false) := by
 refine run_at (F := F30) rfl (by simp only [LP, fnOf, snapVs, snaps, zs, zm, zv, hS.snapV, hS.freeV, hne, Bool.and_false] <;> exact rfl) rfl (by simp only [LP, zf, zm, hS.snapV, hS.freeV, hne, Bool.and_false]; try rfl) (by simp only [F30, zv] <;> exact rfl) (by omega) ?_
 rintro d rfl
 refine cw_seq (cw_region ?_)
 refine ow_mc ?_
 refine ow_nil ?_
 refine sk_n (by simp only [ze] <;> exact rfl) ?_
 refine cw_seq (cw_region ?_)
 refine ow_me rfl ?_
 refine ow_me rfl ?_
 refine ow_op (by simp only [zo]; exact indexFile_run (by omega) _ hS hl f caps hne p (fun he r hr => by cases he; exact hcall rfl r hr)) ?_
 refine ow_op (by simp only [zo, binD, zb, Int.reduceEq, Int.reduceToNat, Int.reduceLT] <;> exact rfl) ?_
 refine ow_ml rfl ?_
 refine ow_nil ?_
 refine sk_n (by simp only [ze] <;> exact rfl) ?_
 refine cw_ret ?_
 refine ⟨_, by simp only [F30, resultD, resDs, resD, zg, zd, rowsOf, partD, List.take, List.drop, zm] <;> exact rfl, ?_⟩
 rw [idxI_nonneg]
 simp [leave, LP, snapR, snapV, snap, D.freeR, D.freeV, D.free, D.free0, D.free0]

end Go.Proofs.YtcogjcplldpkaaaGreat

namespace Go.Proofs.YtcogjcplldpkaaaGreat
set_option linter.unusedSimpArgs false
set_option linter.unusedVariables false
set_option maxRecDepth 10000

/-- what files reads: the names, or the token of a name that is there already -/
def filesF (rl : List Ru) : List Tok → List ByteArray → List ByteArray ⊕ Tok
 | [], o => .inl o
 | t :: ts, o => if (o.any fun x => t.text.toList == x.toList) || (rl.any fun r => r.names.any fun x => t.text.toList == x.toList) then .inr t else filesF rl ts (o ++ [t.text])
def filesD : List ByteArray ⊕ Tok → D
 | .inl o => .tup [clipD (appY 1 (strRows o)), .agg [.int .i64 0, .int .i64 0, .int .i64 0]]
 | .inr t => .tup [.nils, .agg [.int .i64 8, .int .i64 t.line, .int .i64 t.col]]
def progD (fx ux : D) : D := .agg [.str ⟨#[]⟩, fx, .nils, .nils, .nils, .nils, .nils, ux, .nils]
def okTok (fl : List Fi) (t : Tok) : Prop := t.kind = 1 ∧ (fl.any fun f => f.nm.toList == t.text.toList) = true
theorem strRows_app (o : List ByteArray) (s : ByteArray) : strRows (o ++ [s]) = strRows o ++ [[.str s]] := by simp [strRows]

theorem files_run {d : Nat} (hd : 6 ≤ d) (S : St) {fx ux rx ay lx : D} {fl : List Fi} {rl : List Ru} {tl : List Tok} {ur ar : List (List D)} (hX : SlD 12 (fiRows fl) fx) (hU : SlD 3 ur ux) (hR : SlD 3 (ruRows rl) rx) (hY : SlD 5 ar ay) (hL : SlD 5 (tokRows tl) lx) (hfl6 : fl.length ≤ 1000000) (hrl : rl.length ≤ 1000000) (htl : tl.length ≤ 1000) (hok : ∀ t ∈ tl, okTok fl t) :
  runF LP NN d 37 [progD fx ux, rx, ay, lx] S = some (filesD (filesF rl tl []), S, false) := by
 unfold progD
 refine run_pure (F := F37) rfl (by simp only [LP, fnOf, snapVs, snaps, zs, zm, zv, hX.snap, hX.free, hU.snap, hU.free, hR.snapV, hR.freeV, hY.snapV, hY.freeV, hL.snapV, hL.freeV] <;> exact rfl) rfl (by simp only [LP, zf, zm, hX.snap, hX.free, hU.snap, hU.free, hR.snapV, hR.freeV, hY.snapV, hY.freeV, hL.snapV, hL.freeV]; try rfl) (by simp only [F37, zv] <;> exact rfl) (by omega) ?_
 rintro d rfl
 have zz2 := And.intro hX.isCell (And.intro hX.val (And.intro hU.isCell (hU.val)))
 refine cw_seq (cw_region ?_)
 refine ow_op (by simp only [zl, zm, zc, tokRows_len, Nat.zero_min, zz2] <;> exact rfl) ?_
 refine ow_mc ?_
 refine ow_op (by simp only [zl, zm, tokRows_len, Nat.zero_min, zz2] <;> exact rfl) ?_
 refine ow_nil ?_
 refine sk_n (by simp only [ze] <;> exact rfl) ?_
 refine cw_seq (cw_region ?_)
 refine ow_mc ?_
 refine ow_nil ?_
 refine sk_n (by simp only [ze] <;> exact rfl) ?_
 refine cw_seq (cw_block ?_)
 refine cw_loop (fun n env S' => ∃ (H : List AObj) (o : List ByteArray) (ts : List Tok) (lx ox u8 u9 u10 u11 u12 : D), H[0]? = some ⟨32, 9, [[.str ⟨#[]⟩, fx, .nils, .nils, .nils, .nils, .nils, ux, .nils]], 0, 0, false⟩ ∧ H[1]? = some ⟨45, 3, [[.int .i64 0, .int .i64 0, .int .i64 0]], 0, 0, false⟩ ∧ AppAt 9 1 (strRows o) H ox ∧ SlD 5 (tokRows ts) lx ∧ filesF rl ts o = filesF rl tl [] ∧ (∀ t ∈ ts, okTok fl t) ∧ ts.length = n ∧ o.length + ts.length = tl.length ∧ S' = ⟨H, 0⟩ ∧ env = [.agg [.str ⟨#[]⟩, fx, .nils, .nils, .nils, .nils, .nils, ux, .nils], rx, ay, lx, .ptr 0 0 0 0, .nils, .ptr 1 0 0 0, ox, u8, u9, u10, u11, u12]) (tl.length) (by omega) (⟨_, [], tl, lx, _, _, _, _, _, _, rfl, rfl, AppAt.nil _ _ _, hL, rfl, hok, rfl, by simp, rfl, rfl⟩) ?_
 rintro n env S' ⟨H, o, ts, lx, ox, u8, u9, u10, u11, u12, h0, h1, hA, hL, hF, hT, rfl, hn, rfl, rfl⟩
 refine cw_seq (cw_seq (cw_region ?_))
 refine ow_me rfl ?_
 refine ow_op (by simp only [zo, lenD_str, lenD_nils, lenD_sl, lenD_msl, tokRows_len, Nat.zero_min, zz2, h0, h1, hL.len] <;> exact rfl) ?_
 refine ow_op (by simp only [zo, binD, zb, Int.reduceEq, Int.reduceToNat, Int.reduceLT, tokRows_len, Nat.zero_min, zz2, h0, h1, hL.len] <;> exact rfl) ?_
 refine ow_nil ?_
 refine sk_n (by simp only [ze] <;> exact rfl) ?_
 refine cw_cond (by simp only [opd, zv, tokRows_len, Nat.zero_min, zz2, h0, h1, hL.len] <;> exact rfl) (fun hcA => ?_) (fun hcA => ?_)
 ·
  obtain ⟨t, ts', rfl⟩ : ∃ t ts', ts = t :: ts' := by
   cases ts with
   | nil => simp at hcA
   | cons t l => exact ⟨t, l, rfl⟩
  rename List Tok => ts
  have hT1 := hT t List.mem_cons_self
  obtain ⟨hk1', hfl⟩ := hT1
  have hia := fun (S : St) => hL.iaddr S .i64 (i := 0) (by omega) (tokRows_0 t ts)
  have hsl := fun (S : St) => hL.slice_1 S (by rw [tokRows_len]; simp)
  have hA2 := hA.push [⟨9, 1, [[.str t.text]], 0, 0, false⟩]
  obtain ⟨ox', H', hap, hA', hlen', hkeep⟩ := hA2.app 16 (new := [[.str t.text]]) (c := some 1) rfl (by rw [strRows_len]; simp at hn ⊢; omega)
  have hk0 := hkeep 0 _ (get_app h0 _) (.inl rfl)
  have hk1 := hkeep 1 _ (get_app h1 _) (.inl rfl)
  have hst := fun (o : AObj) => get_set_self (get_app h1 [(⟨9, 1, [[.str t.text]], 0, 0, false⟩ : AObj)]) o
  have zz3 := And.intro hia (And.intro hk1' (And.intro @bne_self_eq_false.{0} (And.intro hfl (@Bool.not_true))))
  refine cw_skip (sk_n rfl (cw_seq (cw_block (cw_seq (cw_region ?_)))))
  refine ow_me rfl ?_
  refine ow_op (by simp only [zl, zm, iaddrD_sl, iaddrD_msl, Int.toNat_natCast, Int.toNat_zero, List.getElem?_map, Option.map_some, Int.le_refl, tokRows_len, Nat.zero_min, zz2, h0, h1, hL.len, get_app h0, get_app h1, zz3] <;> exact rfl) ?_
  refine ow_op (by simp only [zo, faddrD_ptr, faddrD_cptr, zm, tokRows_len, Nat.zero_min, zz2, h0, h1, hL.len, get_app h0, get_app h1, zz3] <;> exact rfl) ?_
  refine ow_op (by simp only [zl, zm, zd, partD, List.take, List.drop, tokRows_len, Nat.zero_min, zz2, h0, h1, hL.len, get_app h0, get_app h1, zz3] <;> exact rfl) ?_
  refine ow_op (by simp only [zl, zm, tokRows_len, Nat.zero_min, zz2, h0, h1, hL.len, get_app h0, get_app h1, zz3] <;> exact rfl) ?_
  refine ow_op (by simp only [zl, zm, storeD, overlay, snapVs, snaps, zs, zc, zf, List.take, List.drop, tokRows_len, Nat.zero_min, zz2, h0, h1, hL.len, get_app h0, get_app h1, zz3] <;> exact rfl) ?_
  refine ow_nil ?_
  refine sk_n (by simp only [ze] <;> exact rfl) ?_
  refine cw_seq (cw_block (cw_seq (cw_region ?_)))
  refine ow_me rfl ?_
  refine ow_op (by simp only [zl, zm, iaddrD_sl, iaddrD_msl, Int.toNat_natCast, Int.toNat_zero, List.getElem?_map, Option.map_some, Int.le_refl, tokRows_len, Nat.zero_min, zz2, h0, h1, hL.len, get_app h0, get_app h1, zz3] <;> exact rfl) ?_
  refine ow_op (by simp only [zo, faddrD_ptr, faddrD_cptr, zm, tokRows_len, Nat.zero_min, zz2, h0, h1, hL.len, get_app h0, get_app h1, zz3] <;> exact rfl) ?_
  refine ow_op (by simp only [zl, zm, zd, partD, List.take, List.drop, tokRows_len, Nat.zero_min, zz2, h0, h1, hL.len, get_app h0, get_app h1, zz3] <;> exact rfl) ?_
  refine ow_op (by simp only [zo, binD, zb, Int.reduceEq, Int.reduceToNat, Int.reduceLT, tokRows_len, Nat.zero_min, zz2, h0, h1, hL.len, get_app h0, get_app h1, zz3] <;> exact rfl) ?_
  refine ow_ml rfl ?_
  refine ow_nil ?_
  refine sk_n (by simp only [ze] <;> exact rfl) ?_
  skip
  refine cw_false (by simp only [opd, zv, tokRows_len, Nat.zero_min, zz2, h0, h1, hL.len, get_app h0, get_app h1, zz3] <;> rfl) ?_
  refine cw_seq (cw_region ?_)
  refine ow_op (by simp only [zo, faddrD_ptr, faddrD_cptr, zm, tokRows_len, Nat.zero_min, zz2, h0, h1, hL.len, get_app h0, get_app h1, zz3] <;> exact rfl) ?_
  refine ow_op (by simp only [zl, zm, zd, partD, List.take, List.drop, tokRows_len, Nat.zero_min, zz2, h0, h1, hL.len, get_app h0, get_app h1, zz3] <;> exact rfl) ?_
  refine ow_op (by simp only [zo, tokRows_len, Nat.zero_min, zz2, h0, h1, hL.len, get_app h0, get_app h1, zz3] <;> exact rfl) ?_
  refine ow_op (by simp only [zo, tokRows_len, Nat.zero_min, zz2, h0, h1, hL.len, get_app h0, get_app h1, zz3]; exact containsFile_run (by omega) _ hX hfl6 43 [_] rfl (fun f => f.nm.toList == t.text.toList) (fun he r hr => by cases he; exact fil1_run (by omega) _ r _ _ 9 (by simp) (by simp))) ?_
  refine ow_op (by simp only [zo, unD, tokRows_len, Nat.zero_min, zz2, h0, h1, hL.len, get_app h0, get_app h1, zz3] <;> exact rfl) ?_
  refine ow_ml rfl ?_
  refine ow_nil ?_
  refine sk_n (by simp only [ze] <;> exact rfl) ?_
  skip
  refine cw_false (by simp only [opd, zv, tokRows_len, Nat.zero_min, zz2, h0, h1, hL.len, get_app h0, get_app h1, zz3] <;> rfl) ?_
  refine cw_seq (cw_region ?_)
  refine ow_me rfl ?_
  refine ow_op (by simp only [zl, zm, zd, partD, List.take, List.drop, tokRows_len, Nat.zero_min, zz2, h0, h1, hL.len, get_app h0, get_app h1, zz3] <;> exact rfl) ?_
  refine ow_op (by simp only [zo, tokRows_len, Nat.zero_min, zz2, h0, h1, hL.len, get_app h0, get_app h1, zz3]; exact (run_snap rfl (by simp only [snapVs, hA2.snapV, snapV_str] <;> exact rfl) (by simp only [snapVs, (appY_S 1 (strRows o)).snapV, snapV_str] <;> exact rfl)).trans (contains_run (by omega) _ (appY_S 1 (strRows o)) t.text (by omega))) ?_
  refine ow_ml rfl ?_
  refine ow_split 0 (by simp only [opd, zv] <;> exact rfl) (by simp only [zn] <;> exact rfl) (by simp only [zn] <;> exact rfl) (fun hgAT => ?_) (fun hgAT => ?_)
  ·
   refine ow_off rfl rfl ?_
   refine ow_off rfl rfl ?_
   refine ow_off rfl rfl ?_
   refine ow_op (by simp only [zo, tokRows_len, Nat.zero_min, zz2, h0, h1, hL.len, get_app h0, get_app h1, zz3] <;> exact rfl) ?_
   refine ow_ml rfl ?_
   refine ow_nil ?_
   refine sk_n (by simp only [ze] <;> exact rfl) ?_
   refine cw_true (by simp only [opd, zv, tokRows_len, Nat.zero_min, zz2, h0, h1, hL.len, get_app h0, get_app h1, zz3]) ?_
   refine cw_seq (cw_region ?_)
   refine ow_me rfl ?_
   refine ow_me rfl ?_
   refine ow_op (by simp only [zo, tokRows_len, Nat.zero_min, zz2, h0, h1, hL.len, get_app h0, get_app h1, zz3]; exact fault_run (by omega) _ 8 hL hY) ?_
   refine ow_mc ?_
   refine ow_op (by simp only [zl, zm, storeD, overlay, snapVs, snaps, zs, zc, zf, List.take, List.drop, tokRows_len, Nat.zero_min, zz2, h0, h1, hL.len, get_app h0, get_app h1, zz3] <;> exact rfl) ?_
   refine ow_nil ?_
   refine sk_n (by simp only [ze] <;> exact rfl) ?_
   refine cw_ret (bk_r (sk_r (bk_r (sk_r (lk_r (bk_r (sk_r ?_)))))))
   refine ⟨_, by simp only [F37, resultD, resDs, resD, zg, zd, rowsOf, partD, List.take, List.drop, zm, hst] <;> exact rfl, ?_⟩
   rw [← hF, filesF, hgAT, Bool.true_or, if_pos rfl]
   simp only [leaveP, leave, snapVs, snaps, zs, zf, zk]
   rfl
  ·
   refine ow_on rfl ?_
   refine ow_me rfl ?_
   refine ow_on rfl ?_
   refine ow_op (by simp only [zo, tokRows_len, Nat.zero_min, zz2, h0, h1, hL.len, get_app h0, get_app h1, zz3] <;> exact rfl) ?_
   refine ow_on rfl ?_
   refine ow_op (by simp only [zo, tokRows_len, Nat.zero_min, zz2, h0, h1, hL.len, get_app h0, get_app h1, zz3]; exact containsFunc_run (by omega) _ hR hrl 44 [_] rfl (fun r => r.names.any fun x => t.text.toList == x.toList) (fun he r hr => by cases he; exact fil2_run (by omega) _ r _ _ 9 (by simp) (by simp))) ?_
   refine ow_op (by simp only [zo, tokRows_len, Nat.zero_min, zz2, h0, h1, hL.len, get_app h0, get_app h1, zz3] <;> exact rfl) ?_
   refine ow_ml rfl ?_
   refine ow_nil ?_
   refine sk_n (by simp only [ze] <;> exact rfl) ?_
   refine cw_cond (by simp only [opd, zv, tokRows_len, Nat.zero_min, zz2, h0, h1, hL.len, get_app h0, get_app h1, zz3] <;> exact rfl) (fun hcATF => ?_) (fun hcATF => ?_)
   ·
    refine cw_seq (cw_region ?_)
    refine ow_me rfl ?_
    refine ow_me rfl ?_
    refine ow_op (by simp only [zo, tokRows_len, Nat.zero_min, zz2, h0, h1, hL.len, get_app h0, get_app h1, zz3]; exact fault_run (by omega) _ 8 hL hY) ?_
    refine ow_mc ?_
    refine ow_op (by simp only [zl, zm, storeD, overlay, snapVs, snaps, zs, zc, zf, List.take, List.drop, tokRows_len, Nat.zero_min, zz2, h0, h1, hL.len, get_app h0, get_app h1, zz3] <;> exact rfl) ?_
    refine ow_nil ?_
    refine sk_n (by simp only [ze] <;> exact rfl) ?_
    refine cw_ret (bk_r (sk_r (bk_r (sk_r (lk_r (bk_r (sk_r ?_)))))))
    refine ⟨_, by simp only [F37, resultD, resDs, resD, zg, zd, rowsOf, partD, List.take, List.drop, zm, hst] <;> exact rfl, ?_⟩
    rw [← hF, filesF, hgAT, Bool.false_or, show (rl.any fun r => r.names.any fun x => t.text.toList == x.toList) = true from hcATF, if_pos rfl]
    simp only [leaveP, leave, snapVs, snaps, zs, zf, zk]
    rfl
   ·
    refine cw_skip (bk_n (sk_n rfl (cw_region ?_)))
    refine ow_me rfl ?_
    refine ow_op (by simp only [zl, zm, zd, partD, List.take, List.drop, tokRows_len, Nat.zero_min, zz2, h0, h1, hL.len, get_app h0, get_app h1, zz3] <;> exact rfl) ?_
    refine ow_op (by simp only [zl, zm, fillRows, List.replicate, snapVs, snaps, zs, zc, zf, tokRows_len, Nat.zero_min, zz2, h0, h1, hL.len, get_app h0, get_app h1, zz3] <;> exact rfl) ?_
    refine ow_op (by simp only [opd, zv, exOp, aop, LOp.loud, lop, if_true]; exact hap) ?_
    refine ow_ml rfl ?_
    refine ow_nil (bk_n ?_)
    refine sk_n (by simp only [ze] <;> exact rfl) ?_
    refine cw_region ?_
    refine ow_me rfl ?_
    refine ow_op (by simp only [opd, zv, exOp, aop, LOp.loud, lop, sliceArgs, if_true, Option.map_some, tokRows_len, Nat.zero_min, zz2, h0, h1, hL.len, get_app h0, get_app h1, zz3, hsl] <;> exact rfl) ?_
    refine ow_ml rfl ?_
    refine ow_nil ?_
    refine lk_n (by simp only [ze] <;> exact rfl) ?_
    exact ⟨ts.length, by simp, H', o ++ [t.text], ts, _, ox', _, _, _, _, _, hk0, hk1, by rw [strRows_app]; exact hA', hL.drop 1, by rw [← hF, filesF, hgAT, Bool.false_or]; rw [show (rl.any fun r => r.names.any fun x => t.text.toList == x.toList) = false from hcATF]; rfl, fun t' h' => hT t' (List.mem_cons_of_mem _ h'), rfl, by simp at hn ⊢; omega, rfl, rfl⟩
 ·
  obtain rfl : ts = [] := by
   cases ts with
   | nil => rfl
   | cons t l => simp only [tokRows_len, List.length_cons] at hcA; have := of_decide_eq_false hcA; omega
  refine cw_exit (sk_e (lk_e (bk_e (sk_n rfl (cw_seq (cw_region ?_))))))
  refine ow_me rfl ?_
  refine ow_op (by simp only [zo, tokRows_len, Nat.zero_min, zz2, h0, h1, hL.len, get_set_self h1]; exact (run_snap rfl (by simp only [snapVs, hA.snapV] <;> exact rfl) (by simp only [snapVs, (appY_S 1 (strRows o)).snapV] <;> exact rfl)).trans (clip1_run (by omega) _ (appY_S 1 (strRows o)))) ?_
  refine ow_op (by simp only [zo, fillD, overlay, zc, List.take, List.drop, Nat.reduceAdd, Nat.reduceLeDiff, Nat.reduceBEq, zm, tokRows_len, Nat.zero_min, zz2, h0, h1, hL.len, get_set_self h1] <;> exact rfl) ?_
  refine ow_ml rfl ?_
  refine ow_op (by simp only [zl, zm, storeD, overlay, snapVs, snaps, zs, zc, zf, List.take, List.drop, tokRows_len, Nat.zero_min, zz2, h0, h1, hL.len, get_set_self h1] <;> exact rfl) ?_
  refine ow_nil ?_
  refine sk_n (by simp only [ze] <;> exact rfl) ?_
  refine cw_ret ?_
  refine ⟨_, by simp only [F37, resultD, resDs, resD, zg, zd, rowsOf, partD, List.take, List.drop, zm, get_set_self h1] <;> exact rfl, ?_⟩
  rw [← hF]
  simp only [leaveP, leave, snapVs, snaps, zs, zf, zk, (appY_S 1 (strRows o)).clip.snapV, (appY_S 1 (strRows o)).clip.freeV, (appY_S 1 (strRows o)).clip.snap, (appY_S 1 (strRows o)).clip.free, (appY_S 1 (strRows o)).clip.snapR, (appY_S 1 (strRows o)).clip.freeR]
  rfl

theorem rule_ok {d : Nat} (hd : 7 ≤ d) (S : St) {fx ux rx tx y : D} {fl : List Fi} {rl : List Ru} {r : Tok} {rs : List Tok} {sec : ByteArray} {ur tr : List (List D)} (hX : SlD 12 (fiRows fl) fx) (hU : SlD 3 ur ux) (hR : SlD 3 (ruRows rl) rx) (hT : SlD 5 tr tx) (hY : SlD 5 (tokRows (r :: rs)) y) (hfl6 : fl.length ≤ 1000000) (hrl : rl.length ≤ 1000000) (hk : r.kind = 1) (hh : ∀ (d : Nat) (S : St), 4 ≤ d → runF LP NN d 32 [tx] S = some (.tup [y, .bool true], S, false)) (hm0 : modeW r.text ≠ 0) (hrs : rs = []) (hz : (rl.any fun q => (q.mode : Int) == (modeW r.text : Int)) = false) :
  runF LP NN d 23 [progD fx ux, rx, .agg [.str sec, tx, .nils]] S = some (.tup [.agg [.str sec, .nils, .int .u8 (modeW r.text)], .agg [.int .i64 0, .int .i64 0, .int .i64 0]], S, false) := by
 unfold progD
 have hia := fun (S : St) => hY.iaddr S .i64 (i := 0) (by omega) (tokRows_0 r rs)
 have hm : ((modeW r.text : Int) != 0) = true := by simp; omega
 have hl1 : decide ((((r :: rs).length : Nat) : Int) > 1) = false := by subst hrs; rfl
 refine run_pure (F := F23) rfl (by simp only [LP, fnOf, snapVs, snaps, zs, zm, zv, hX.snap, hX.free, hU.snap, hU.free, hR.snapV, hR.freeV, hT.snap, hT.free] <;> exact rfl) rfl (by simp only [LP, zf, zm, hX.snap, hX.free, hU.snap, hU.free, hR.snapV, hR.freeV, hT.snap, hT.free]; try rfl) (by simp only [F23, zv] <;> exact rfl) (by omega) ?_
 rintro d rfl
 have zz4 := And.intro hX.isCell (And.intro hX.val (And.intro hU.isCell (And.intro hU.val (And.intro hT.isCell (And.intro hT.val (And.intro hY.len (And.intro hia (And.intro hk (And.intro @beq_self_eq_true.{0} (And.intro @Bool.not_true (And.intro hm (And.intro hz (hl1)))))))))))))
 refine cw_seq (cw_region ?_)
 refine ow_op (by simp only [zl, zm, zc, tokRows_len, mapget_modes, plainV_int, Nat.zero_min, zz4] <;> exact rfl) ?_
 refine ow_op (by simp only [zl, zm, zc, tokRows_len, mapget_modes, plainV_int, Nat.zero_min, zz4] <;> exact rfl) ?_
 refine ow_op (by simp only [zl, zm, tokRows_len, mapget_modes, plainV_int, Nat.zero_min, zz4] <;> exact rfl) ?_
 refine ow_op (by simp only [zl, zm, tokRows_len, mapget_modes, plainV_int, Nat.zero_min, zz4] <;> exact rfl) ?_
 refine ow_nil ?_
 refine sk_n (by simp only [ze] <;> exact rfl) ?_
 refine cw_seq (cw_region ?_)
 refine ow_op (by simp only [zo, faddrD_ptr, faddrD_cptr, zm, tokRows_len, mapget_modes, plainV_int, Nat.zero_min, zz4] <;> exact rfl) ?_
 refine ow_op (by simp only [zl, zm, zd, partD, List.take, List.drop, tokRows_len, mapget_modes, plainV_int, Nat.zero_min, zz4] <;> exact rfl) ?_
 refine ow_op (by simp only [zo, tokRows_len, mapget_modes, plainV_int, Nat.zero_min, zz4]; exact hh _ _ (by omega)) ?_
 refine ow_ml rfl ?_
 refine ow_op (by simp only [zo, List.getElem?_cons_zero, List.getElem?_cons_succ, tokRows_len, mapget_modes, plainV_int, Nat.zero_min, zz4] <;> exact rfl) ?_
 refine ow_op (by simp only [zo, List.getElem?_cons_zero, List.getElem?_cons_succ, tokRows_len, mapget_modes, plainV_int, Nat.zero_min, zz4] <;> exact rfl) ?_
 refine ow_ml rfl ?_
 refine ow_ml rfl ?_
 refine ow_nil ?_
 refine sk_n (by simp only [ze] <;> exact rfl) ?_
 refine cw_seq (cw_seq (cw_region ?_))
 refine ow_me rfl ?_
 refine ow_op (by simp only [zo, unD, tokRows_len, mapget_modes, plainV_int, Nat.zero_min, zz4] <;> exact rfl) ?_
 refine ow_nil ?_
 refine sk_n (by simp only [ze] <;> exact rfl) ?_
 skip
 refine cw_false (by simp only [opd, zv, tokRows_len, mapget_modes, plainV_int, Nat.zero_min, zz4] <;> rfl) ?_
 refine cw_skip (sk_n rfl (cw_seq (cw_seq ?_)))
 refine cw_drawn (by simp only [newsVals, zw, Nat.reduceAdd] <;> exact rfl) (by simp only [zw, newsObj, St.eta] <;> exact rfl) ?_
 refine dw_op (by simp only [zo, tokRows_len, mapget_modes, plainV_int, Nat.zero_min, zz4]; exact modes_run (by omega) _) (by simp only [fpHere, zo, zq, plainV_int, hY.fpi] <;> exact rfl) rfl ?_
 refine dw_me rfl rfl ?_
 refine dw_op (by simp only [zl, zm, iaddrD_sl, iaddrD_msl, Int.toNat_natCast, Int.toNat_zero, List.getElem?_map, Option.map_some, Int.le_refl, tokRows_len, mapget_modes, plainV_int, Nat.zero_min, zz4] <;> exact rfl) (by simp only [fpHere, zo, zq, plainV_int, hY.fpi] <;> exact rfl) rfl ?_
 refine dw_quiet (by simp only [zo, faddrD_ptr, faddrD_cptr, zm, tokRows_len, mapget_modes, plainV_int, Nat.zero_min, zz4] <;> exact rfl) rfl rfl ?_
 refine dw_op (by simp only [zl, zm, zd, partD, List.take, List.drop, tokRows_len, mapget_modes, plainV_int, Nat.zero_min, zz4] <;> exact rfl) (by simp only [fpHere, zo, zq, plainV_int, hY.fpi] <;> exact rfl) rfl ?_
 refine dw_op (by simp only [opd, zv, exOp, aop, LOp.loud, lop, if_true, Option.map_some, tokRows_len, mapget_modes, plainV_int, Nat.zero_min, zz4] <;> exact rfl) (by simp only [fpHere, zo, zq, plainV_int, hY.fpi] <;> exact rfl) rfl ?_
 refine dw_op (by simp only [zo] <;> exact rfl) rfl rfl ?_
 refine dw_op (by simp only [zl, zm, storeD, overlay, snapVs, snaps, zs, zc, zf, List.take, List.drop, tokRows_len, mapget_modes, plainV_int, Nat.zero_min, zz4] <;> exact rfl) (by simp only [fpHere, zo, zq, plainV_int, hY.fpi] <;> exact rfl) rfl ?_
 refine dw_nil ?_
 refine sk_n (by simp only [ze] <;> exact rfl) ?_
 refine cw_seq (cw_region ?_)
 refine ow_me rfl ?_
 refine ow_op (by simp only [zl, zm, iaddrD_sl, iaddrD_msl, Int.toNat_natCast, Int.toNat_zero, List.getElem?_map, Option.map_some, Int.le_refl, tokRows_len, mapget_modes, plainV_int, Nat.zero_min, zz4] <;> exact rfl) ?_
 refine ow_op (by simp only [zo, faddrD_ptr, faddrD_cptr, zm, tokRows_len, mapget_modes, plainV_int, Nat.zero_min, zz4] <;> exact rfl) ?_
 refine ow_op (by simp only [zl, zm, zd, partD, List.take, List.drop, tokRows_len, mapget_modes, plainV_int, Nat.zero_min, zz4] <;> exact rfl) ?_
 refine ow_op (by simp only [zo, binD, zb, Int.reduceEq, Int.reduceToNat, Int.reduceLT, tokRows_len, mapget_modes, plainV_int, Nat.zero_min, zz4] <;> exact rfl) ?_
 refine ow_ml rfl ?_
 refine ow_know 0 (b := true) (by simp only [opd, zv, tokRows_len, mapget_modes, plainV_int, Nat.zero_min, zz4] <;> rfl) (by simp only [zn] <;> exact rfl) ?_
 refine ow_on rfl ?_
 refine ow_op (by simp only [zl, zm, zd, partD, List.take, List.drop, tokRows_len, mapget_modes, plainV_int, Nat.zero_min, zz4] <;> exact rfl) ?_
 refine ow_on rfl ?_
 refine ow_op (by simp only [zo, binD, zb, Int.reduceEq, Int.reduceToNat, Int.reduceLT, tokRows_len, mapget_modes, plainV_int, Nat.zero_min, zz4] <;> exact rfl) ?_
 refine ow_op (by simp only [zo, tokRows_len, mapget_modes, plainV_int, Nat.zero_min, zz4] <;> exact rfl) ?_
 refine ow_nil ?_
 refine sk_n (by simp only [ze] <;> exact rfl) ?_
 skip
 refine cw_true (by simp only [opd, zv, tokRows_len, mapget_modes, plainV_int, Nat.zero_min, zz4] <;> rfl) ?_
 refine cw_seq (cw_seq (cw_region ?_))
 refine ow_me rfl ?_
 refine ow_op (by simp only [zo, tokRows_len, mapget_modes, plainV_int, Nat.zero_min, zz4] <;> exact rfl) ?_
 refine ow_op (by simp only [zo, tokRows_len, mapget_modes, plainV_int, Nat.zero_min, zz4]; exact containsFunc_run (by omega) _ hR hrl 36 [_] rfl (fun q => (q.mode : Int) == (modeW r.text : Int)) (fun he q hq => by cases he; exact rul1_run (by omega) _ q _ _ 35 (by simp) (by simp))) ?_
 refine ow_nil ?_
 refine sk_n (by simp only [ze] <;> exact rfl) ?_
 skip
 refine cw_false (by simp only [opd, zv, tokRows_len, mapget_modes, plainV_int, Nat.zero_min, zz4] <;> rfl) ?_
 refine cw_skip (sk_n rfl (cw_seq (cw_seq (cw_region ?_))))
 refine ow_me rfl ?_
 refine ow_op (by simp only [zo, lenD_str, lenD_nils, lenD_sl, lenD_msl, tokRows_len, mapget_modes, plainV_int, Nat.zero_min, zz4] <;> exact rfl) ?_
 refine ow_op (by simp only [zo, binD, zb, Int.reduceEq, Int.reduceToNat, Int.reduceLT, tokRows_len, mapget_modes, plainV_int, Nat.zero_min, zz4] <;> exact rfl) ?_
 refine ow_nil ?_
 refine sk_n (by simp only [ze] <;> exact rfl) ?_
 skip
 refine cw_false (by simp only [opd, zv, tokRows_len, mapget_modes, plainV_int, Nat.zero_min, zz4] <;> rfl) ?_
 refine cw_skip (sk_n rfl (cw_seq (cw_region ?_)))
 refine ow_op (by simp only [zo, faddrD_ptr, faddrD_cptr, zm, tokRows_len, mapget_modes, plainV_int, Nat.zero_min, zz4] <;> exact rfl) ?_
 refine ow_op (by simp only [zl, zm, zd, partD, List.take, List.drop, tokRows_len, mapget_modes, plainV_int, Nat.zero_min, zz4] <;> exact rfl) ?_
 refine ow_op (by simp only [zl, zm, zd, partD, List.take, List.drop, tokRows_len, mapget_modes, plainV_int, Nat.zero_min, zz4] <;> exact rfl) ?_
 refine ow_op (by simp only [zo, fillD, overlay, zc, List.take, List.drop, Nat.reduceAdd, Nat.reduceLeDiff, Nat.reduceBEq, zm, tokRows_len, mapget_modes, plainV_int, Nat.zero_min, zz4] <;> exact rfl) ?_
 refine ow_op (by simp only [zo, fillD, overlay, zc, List.take, List.drop, Nat.reduceAdd, Nat.reduceLeDiff, Nat.reduceBEq, zm, tokRows_len, mapget_modes, plainV_int, Nat.zero_min, zz4] <;> exact rfl) ?_
 refine ow_op (by simp only [zl, zm, storeD, overlay, snapVs, snaps, zs, zc, zf, List.take, List.drop, tokRows_len, mapget_modes, plainV_int, Nat.zero_min, zz4] <;> exact rfl) ?_
 refine ow_op (by simp only [zl, zm, storeD, overlay, snapVs, snaps, zs, zc, zf, List.take, List.drop, tokRows_len, mapget_modes, plainV_int, Nat.zero_min, zz4] <;> exact rfl) ?_
 refine ow_nil ?_
 refine sk_n (by simp only [ze] <;> exact rfl) ?_
 refine cw_ret (sk_r ?_)
 refine ⟨_, by simp only [F23, resultD, resDs, resD, zg, zd, rowsOf, partD, List.take, List.drop, zm] <;> exact rfl, ?_⟩
 simp only [leaveP, leave, snapVs, snaps, zs, zf, zk]

theorem rule_dup {d : Nat} (hd : 7 ≤ d) (S : St) {fx ux rx tx y : D} {fl : List Fi} {rl : List Ru} {r : Tok} {rs : List Tok} {sec : ByteArray} {ur tr : List (List D)} (hX : SlD 12 (fiRows fl) fx) (hU : SlD 3 ur ux) (hR : SlD 3 (ruRows rl) rx) (hT : SlD 5 tr tx) (hY : SlD 5 (tokRows (r :: rs)) y) (hfl6 : fl.length ≤ 1000000) (hrl : rl.length ≤ 1000000) (hk : r.kind = 1) (hh : ∀ (d : Nat) (S : St), 4 ≤ d → runF LP NN d 32 [tx] S = some (.tup [y, .bool true], S, false)) (hm0 : modeW r.text ≠ 0) (hz : (rl.any fun q => (q.mode : Int) == (modeW r.text : Int)) = true) :
  runF LP NN d 23 [progD fx ux, rx, .agg [.str sec, tx, .nils]] S = some (.tup [.agg [.str ⟨#[]⟩, .nils, .int .u8 0], .agg [.int .i64 8, .int .i64 r.line, .int .i64 r.col]], S, false) := by
 unfold progD
 have hia := fun (S : St) => hY.iaddr S .i64 (i := 0) (by omega) (tokRows_0 r rs)
 have hm : ((modeW r.text : Int) != 0) = true := by simp; omega
 refine run_pure (F := F23) rfl (by simp only [LP, fnOf, snapVs, snaps, zs, zm, zv, hX.snap, hX.free, hU.snap, hU.free, hR.snapV, hR.freeV, hT.snap, hT.free] <;> exact rfl) rfl (by simp only [LP, zf, zm, hX.snap, hX.free, hU.snap, hU.free, hR.snapV, hR.freeV, hT.snap, hT.free]; try rfl) (by simp only [F23, zv] <;> exact rfl) (by omega) ?_
 rintro d rfl
 have zz5 := And.intro hX.isCell (And.intro hX.val (And.intro hU.isCell (And.intro hU.val (And.intro hT.isCell (And.intro hT.val (And.intro hY.len (And.intro hia (And.intro hk (And.intro @beq_self_eq_true.{0} (And.intro @Bool.not_true (And.intro hm (hz))))))))))))
 refine cw_seq (cw_region ?_)
 refine ow_op (by simp only [zl, zm, zc, tokRows_len, mapget_modes, plainV_int, Nat.zero_min, zz5] <;> exact rfl) ?_
 refine ow_op (by simp only [zl, zm, zc, tokRows_len, mapget_modes, plainV_int, Nat.zero_min, zz5] <;> exact rfl) ?_
 refine ow_op (by simp only [zl, zm, tokRows_len, mapget_modes, plainV_int, Nat.zero_min, zz5] <;> exact rfl) ?_
 refine ow_op (by simp only [zl, zm, tokRows_len, mapget_modes, plainV_int, Nat.zero_min, zz5] <;> exact rfl) ?_
 refine ow_nil ?_
 refine sk_n (by simp only [ze] <;> exact rfl) ?_
 refine cw_seq (cw_region ?_)
 refine ow_op (by simp only [zo, faddrD_ptr, faddrD_cptr, zm, tokRows_len, mapget_modes, plainV_int, Nat.zero_min, zz5] <;> exact rfl) ?_
 refine ow_op (by simp only [zl, zm, zd, partD, List.take, List.drop, tokRows_len, mapget_modes, plainV_int, Nat.zero_min, zz5] <;> exact rfl) ?_
 refine ow_op (by simp only [zo, tokRows_len, mapget_modes, plainV_int, Nat.zero_min, zz5]; exact hh _ _ (by omega)) ?_
 refine ow_ml rfl ?_
 refine ow_op (by simp only [zo, List.getElem?_cons_zero, List.getElem?_cons_succ, tokRows_len, mapget_modes, plainV_int, Nat.zero_min, zz5] <;> exact rfl) ?_
 refine ow_op (by simp only [zo, List.getElem?_cons_zero, List.getElem?_cons_succ, tokRows_len, mapget_modes, plainV_int, Nat.zero_min, zz5] <;> exact rfl) ?_
 refine ow_ml rfl ?_
 refine ow_ml rfl ?_
 refine ow_nil ?_
 refine sk_n (by simp only [ze] <;> exact rfl) ?_
 refine cw_seq (cw_seq (cw_region ?_))
 refine ow_me rfl ?_
 refine ow_op (by simp only [zo, unD, tokRows_len, mapget_modes, plainV_int, Nat.zero_min, zz5] <;> exact rfl) ?_
 refine ow_nil ?_
 refine sk_n (by simp only [ze] <;> exact rfl) ?_
 skip
 refine cw_false (by simp only [opd, zv, tokRows_len, mapget_modes, plainV_int, Nat.zero_min, zz5] <;> rfl) ?_
 refine cw_skip (sk_n rfl (cw_seq (cw_seq ?_)))
 refine cw_drawn (by simp only [newsVals, zw, Nat.reduceAdd] <;> exact rfl) (by simp only [zw, newsObj, St.eta] <;> exact rfl) ?_
 refine dw_op (by simp only [zo, tokRows_len, mapget_modes, plainV_int, Nat.zero_min, zz5]; exact modes_run (by omega) _) (by simp only [fpHere, zo, zq, plainV_int, hY.fpi] <;> exact rfl) rfl ?_
 refine dw_me rfl rfl ?_
 refine dw_op (by simp only [zl, zm, iaddrD_sl, iaddrD_msl, Int.toNat_natCast, Int.toNat_zero, List.getElem?_map, Option.map_some, Int.le_refl, tokRows_len, mapget_modes, plainV_int, Nat.zero_min, zz5] <;> exact rfl) (by simp only [fpHere, zo, zq, plainV_int, hY.fpi] <;> exact rfl) rfl ?_
 refine dw_quiet (by simp only [zo, faddrD_ptr, faddrD_cptr, zm, tokRows_len, mapget_modes, plainV_int, Nat.zero_min, zz5] <;> exact rfl) rfl rfl ?_
 refine dw_op (by simp only [zl, zm, zd, partD, List.take, List.drop, tokRows_len, mapget_modes, plainV_int, Nat.zero_min, zz5] <;> exact rfl) (by simp only [fpHere, zo, zq, plainV_int, hY.fpi] <;> exact rfl) rfl ?_
 refine dw_op (by simp only [opd, zv, exOp, aop, LOp.loud, lop, if_true, Option.map_some, tokRows_len, mapget_modes, plainV_int, Nat.zero_min, zz5] <;> exact rfl) (by simp only [fpHere, zo, zq, plainV_int, hY.fpi] <;> exact rfl) rfl ?_
 refine dw_op (by simp only [zo] <;> exact rfl) rfl rfl ?_
 refine dw_op (by simp only [zl, zm, storeD, overlay, snapVs, snaps, zs, zc, zf, List.take, List.drop, tokRows_len, mapget_modes, plainV_int, Nat.zero_min, zz5] <;> exact rfl) (by simp only [fpHere, zo, zq, plainV_int, hY.fpi] <;> exact rfl) rfl ?_
 refine dw_nil ?_
 refine sk_n (by simp only [ze] <;> exact rfl) ?_
 refine cw_seq (cw_region ?_)
 refine ow_me rfl ?_
 refine ow_op (by simp only [zl, zm, iaddrD_sl, iaddrD_msl, Int.toNat_natCast, Int.toNat_zero, List.getElem?_map, Option.map_some, Int.le_refl, tokRows_len, mapget_modes, plainV_int, Nat.zero_min, zz5] <;> exact rfl) ?_
 refine ow_op (by simp only [zo, faddrD_ptr, faddrD_cptr, zm, tokRows_len, mapget_modes, plainV_int, Nat.zero_min, zz5] <;> exact rfl) ?_
 refine ow_op (by simp only [zl, zm, zd, partD, List.take, List.drop, tokRows_len, mapget_modes, plainV_int, Nat.zero_min, zz5] <;> exact rfl) ?_
 refine ow_op (by simp only [zo, binD, zb, Int.reduceEq, Int.reduceToNat, Int.reduceLT, tokRows_len, mapget_modes, plainV_int, Nat.zero_min, zz5] <;> exact rfl) ?_
 refine ow_ml rfl ?_
 refine ow_know 0 (b := true) (by simp only [opd, zv, tokRows_len, mapget_modes, plainV_int, Nat.zero_min, zz5] <;> rfl) (by simp only [zn] <;> exact rfl) ?_
 refine ow_on rfl ?_
 refine ow_op (by simp only [zl, zm, zd, partD, List.take, List.drop, tokRows_len, mapget_modes, plainV_int, Nat.zero_min, zz5] <;> exact rfl) ?_
 refine ow_on rfl ?_
 refine ow_op (by simp only [zo, binD, zb, Int.reduceEq, Int.reduceToNat, Int.reduceLT, tokRows_len, mapget_modes, plainV_int, Nat.zero_min, zz5] <;> exact rfl) ?_
 refine ow_op (by simp only [zo, tokRows_len, mapget_modes, plainV_int, Nat.zero_min, zz5] <;> exact rfl) ?_
 refine ow_nil ?_
 refine sk_n (by simp only [ze] <;> exact rfl) ?_
 skip
 refine cw_true (by simp only [opd, zv, tokRows_len, mapget_modes, plainV_int, Nat.zero_min, zz5] <;> rfl) ?_
 refine cw_seq (cw_seq (cw_region ?_))
 refine ow_me rfl ?_
 refine ow_op (by simp only [zo, tokRows_len, mapget_modes, plainV_int, Nat.zero_min, zz5] <;> exact rfl) ?_
 refine ow_op (by simp only [zo, tokRows_len, mapget_modes, plainV_int, Nat.zero_min, zz5]; exact containsFunc_run (by omega) _ hR hrl 36 [_] rfl (fun q => (q.mode : Int) == (modeW r.text : Int)) (fun he q hq => by cases he; exact rul1_run (by omega) _ q _ _ 35 (by simp) (by simp))) ?_
 refine ow_nil ?_
 refine sk_n (by simp only [ze] <;> exact rfl) ?_
 skip
 refine cw_true (by simp only [opd, zv, tokRows_len, mapget_modes, plainV_int, Nat.zero_min, zz5] <;> rfl) ?_
 refine cw_seq (cw_region ?_)
 refine ow_op (by simp only [zo, fillD, overlay, zc, List.take, List.drop, Nat.reduceAdd, Nat.reduceLeDiff, Nat.reduceBEq, zm, tokRows_len, mapget_modes, plainV_int, Nat.zero_min, zz5] <;> exact rfl) ?_
 refine ow_me rfl ?_
 refine ow_op (by simp only [zo, faddrD_ptr, faddrD_cptr, zm, tokRows_len, mapget_modes, plainV_int, Nat.zero_min, zz5] <;> exact rfl) ?_
 refine ow_op (by simp only [zl, zm, zd, partD, List.take, List.drop, tokRows_len, mapget_modes, plainV_int, Nat.zero_min, zz5] <;> exact rfl) ?_
 refine ow_op (by simp only [zo, tokRows_len, mapget_modes, plainV_int, Nat.zero_min, zz5]; exact fault_run (by omega) _ 8 hY hT) ?_
 refine ow_op (by simp only [zl, zm, storeD, overlay, snapVs, snaps, zs, zc, zf, List.take, List.drop, tokRows_len, mapget_modes, plainV_int, Nat.zero_min, zz5] <;> exact rfl) ?_
 refine ow_op (by simp only [zl, zm, storeD, overlay, snapVs, snaps, zs, zc, zf, List.take, List.drop, tokRows_len, mapget_modes, plainV_int, Nat.zero_min, zz5] <;> exact rfl) ?_
 refine ow_nil ?_
 refine sk_n (by simp only [ze] <;> exact rfl) ?_
 refine cw_ret (sk_r (sk_r ?_))
 refine ⟨_, by simp only [F23, resultD, resDs, resD, zg, zd, rowsOf, partD, List.take, List.drop, zm] <;> exact rfl, ?_⟩
 simp only [leaveP, leave, snapVs, snaps, zs, zf, zk]

theorem rule_fok {d : Nat} (hd : 7 ≤ d) (S : St) {fx ux rx tx y : D} {fl : List Fi} {rl : List Ru} {r : Tok} {rs : List Tok} {sec : ByteArray} {ur tr : List (List D)} (hX : SlD 12 (fiRows fl) fx) (hU : SlD 3 ur ux) (hR : SlD 3 (ruRows rl) rx) (hT : SlD 5 tr tx) (hY : SlD 5 (tokRows (r :: rs)) y) (hfl6 : fl.length ≤ 1000000) (hrl : rl.length ≤ 1000000) (hk : r.kind = 1) (hh : ∀ (d : Nat) (S : St), 4 ≤ d → runF LP NN d 32 [tx] S = some (.tup [y, .bool true], S, false)) (hm : modeW r.text = 0) (o : List ByteArray) (hlen : rs.length ≤ 900) (hok : ∀ t ∈ r :: rs, okTok fl t) (hf : filesF rl (r :: rs) [] = .inl o) :
  runF LP NN d 23 [progD fx ux, rx, .agg [.str sec, tx, .nils]] S = some (.tup [.agg [.str sec, clipD (appY 1 (strRows o)), .int .u8 0], .agg [.int .i64 0, .int .i64 0, .int .i64 0]], S, false) := by
 unfold progD
 have hia := fun (S : St) => hY.iaddr S .i64 (i := 0) (by omega) (tokRows_0 r rs)
 have hq := (appY_S 1 (strRows o)).clip
 have hlen' : (r :: rs).length ≤ 1000 := by simp; omega
 refine run_pure (F := F23) rfl (by simp only [LP, fnOf, snapVs, snaps, zs, zm, zv, hX.snap, hX.free, hU.snap, hU.free, hR.snapV, hR.freeV, hT.snap, hT.free] <;> exact rfl) rfl (by simp only [LP, zf, zm, hX.snap, hX.free, hU.snap, hU.free, hR.snapV, hR.freeV, hT.snap, hT.free]; try rfl) (by simp only [F23, zv] <;> exact rfl) (by omega) ?_
 rintro d rfl
 have zz6 := And.intro hX.isCell (And.intro hX.val (And.intro hU.isCell (And.intro hU.val (And.intro hT.isCell (And.intro hT.val (And.intro hY.len (And.intro hia (And.intro hk (And.intro @beq_self_eq_true.{0} (And.intro @Bool.not_true (And.intro hm (And.intro @bne_self_eq_false.{0} (And.intro hf (And.intro hq.isCell (And.intro hq.val (hq.cells))))))))))))))))
 refine cw_seq (cw_region ?_)
 refine ow_op (by simp only [zl, zm, zc, tokRows_len, mapget_modes, plainV_int, Nat.zero_min, filesD, zz6] <;> exact rfl) ?_
 refine ow_op (by simp only [zl, zm, zc, tokRows_len, mapget_modes, plainV_int, Nat.zero_min, filesD, zz6] <;> exact rfl) ?_
 refine ow_op (by simp only [zl, zm, tokRows_len, mapget_modes, plainV_int, Nat.zero_min, filesD, zz6] <;> exact rfl) ?_
 refine ow_op (by simp only [zl, zm, tokRows_len, mapget_modes, plainV_int, Nat.zero_min, filesD, zz6] <;> exact rfl) ?_
 refine ow_nil ?_
 refine sk_n (by simp only [ze] <;> exact rfl) ?_
 refine cw_seq (cw_region ?_)
 refine ow_op (by simp only [zo, faddrD_ptr, faddrD_cptr, zm, tokRows_len, mapget_modes, plainV_int, Nat.zero_min, filesD, zz6] <;> exact rfl) ?_
 refine ow_op (by simp only [zl, zm, zd, partD, List.take, List.drop, tokRows_len, mapget_modes, plainV_int, Nat.zero_min, filesD, zz6] <;> exact rfl) ?_
 refine ow_op (by simp only [zo, tokRows_len, mapget_modes, plainV_int, Nat.zero_min, filesD, zz6]; exact hh _ _ (by omega)) ?_
 refine ow_ml rfl ?_
 refine ow_op (by simp only [zo, List.getElem?_cons_zero, List.getElem?_cons_succ, tokRows_len, mapget_modes, plainV_int, Nat.zero_min, filesD, zz6] <;> exact rfl) ?_
 refine ow_op (by simp only [zo, List.getElem?_cons_zero, List.getElem?_cons_succ, tokRows_len, mapget_modes, plainV_int, Nat.zero_min, filesD, zz6] <;> exact rfl) ?_
 refine ow_ml rfl ?_
 refine ow_ml rfl ?_
 refine ow_nil ?_
 refine sk_n (by simp only [ze] <;> exact rfl) ?_
 refine cw_seq (cw_seq (cw_region ?_))
 refine ow_me rfl ?_
 refine ow_op (by simp only [zo, unD, tokRows_len, mapget_modes, plainV_int, Nat.zero_min, filesD, zz6] <;> exact rfl) ?_
 refine ow_nil ?_
 refine sk_n (by simp only [ze] <;> exact rfl) ?_
 skip
 refine cw_false (by simp only [opd, zv, tokRows_len, mapget_modes, plainV_int, Nat.zero_min, filesD, zz6] <;> rfl) ?_
 refine cw_skip (sk_n rfl (cw_seq (cw_seq ?_)))
 refine cw_drawn (by simp only [newsVals, zw, Nat.reduceAdd] <;> exact rfl) (by simp only [zw, newsObj, St.eta] <;> exact rfl) ?_
 refine dw_op (by simp only [zo, tokRows_len, mapget_modes, plainV_int, Nat.zero_min, filesD, zz6]; exact modes_run (by omega) _) (by simp only [fpHere, zo, zq, plainV_int, hY.fpi] <;> exact rfl) rfl ?_
 refine dw_me rfl rfl ?_
 refine dw_op (by simp only [zl, zm, iaddrD_sl, iaddrD_msl, Int.toNat_natCast, Int.toNat_zero, List.getElem?_map, Option.map_some, Int.le_refl, tokRows_len, mapget_modes, plainV_int, Nat.zero_min, filesD, zz6] <;> exact rfl) (by simp only [fpHere, zo, zq, plainV_int, hY.fpi] <;> exact rfl) rfl ?_
 refine dw_quiet (by simp only [zo, faddrD_ptr, faddrD_cptr, zm, tokRows_len, mapget_modes, plainV_int, Nat.zero_min, filesD, zz6] <;> exact rfl) rfl rfl ?_
 refine dw_op (by simp only [zl, zm, zd, partD, List.take, List.drop, tokRows_len, mapget_modes, plainV_int, Nat.zero_min, filesD, zz6] <;> exact rfl) (by simp only [fpHere, zo, zq, plainV_int, hY.fpi] <;> exact rfl) rfl ?_
 refine dw_op (by simp only [opd, zv, exOp, aop, LOp.loud, lop, if_true, Option.map_some, tokRows_len, mapget_modes, plainV_int, Nat.zero_min, filesD, zz6] <;> exact rfl) (by simp only [fpHere, zo, zq, plainV_int, hY.fpi] <;> exact rfl) rfl ?_
 refine dw_op (by simp only [zo] <;> exact rfl) rfl rfl ?_
 refine dw_op (by simp only [zl, zm, storeD, overlay, snapVs, snaps, zs, zc, zf, List.take, List.drop, tokRows_len, mapget_modes, plainV_int, Nat.zero_min, filesD, zz6] <;> exact rfl) (by simp only [fpHere, zo, zq, plainV_int, hY.fpi] <;> exact rfl) rfl ?_
 refine dw_nil ?_
 refine sk_n (by simp only [ze] <;> exact rfl) ?_
 refine cw_seq (cw_region ?_)
 refine ow_me rfl ?_
 refine ow_op (by simp only [zl, zm, iaddrD_sl, iaddrD_msl, Int.toNat_natCast, Int.toNat_zero, List.getElem?_map, Option.map_some, Int.le_refl, tokRows_len, mapget_modes, plainV_int, Nat.zero_min, filesD, zz6] <;> exact rfl) ?_
 refine ow_op (by simp only [zo, faddrD_ptr, faddrD_cptr, zm, tokRows_len, mapget_modes, plainV_int, Nat.zero_min, filesD, zz6] <;> exact rfl) ?_
 refine ow_op (by simp only [zl, zm, zd, partD, List.take, List.drop, tokRows_len, mapget_modes, plainV_int, Nat.zero_min, filesD, zz6] <;> exact rfl) ?_
 refine ow_op (by simp only [zo, binD, zb, Int.reduceEq, Int.reduceToNat, Int.reduceLT, tokRows_len, mapget_modes, plainV_int, Nat.zero_min, filesD, zz6] <;> exact rfl) ?_
 refine ow_ml rfl ?_
 refine ow_know 0 (b := true) (by simp only [opd, zv, tokRows_len, mapget_modes, plainV_int, Nat.zero_min, filesD, zz6] <;> rfl) (by simp only [zn] <;> exact rfl) ?_
 refine ow_on rfl ?_
 refine ow_op (by simp only [zl, zm, zd, partD, List.take, List.drop, tokRows_len, mapget_modes, plainV_int, Nat.zero_min, filesD, zz6] <;> exact rfl) ?_
 refine ow_on rfl ?_
 refine ow_op (by simp only [zo, binD, zb, Int.reduceEq, Int.reduceToNat, Int.reduceLT, tokRows_len, mapget_modes, plainV_int, Nat.zero_min, filesD, zz6] <;> exact rfl) ?_
 refine ow_op (by simp only [zo, tokRows_len, mapget_modes, plainV_int, Nat.zero_min, filesD, zz6] <;> exact rfl) ?_
 refine ow_nil ?_
 refine sk_n (by simp only [ze] <;> exact rfl) ?_
 skip
 refine cw_false (by simp only [opd, zv, tokRows_len, mapget_modes, plainV_int, Nat.zero_min, filesD, zz6] <;> rfl) ?_
 refine cw_skip (sk_n rfl (cw_seq (cw_region ?_)))
 refine ow_op (by simp only [zl, zm, zd, partD, List.take, List.drop, tokRows_len, mapget_modes, plainV_int, Nat.zero_min, filesD, zz6] <;> exact rfl) ?_
 refine ow_me rfl ?_
 refine ow_op (by simp only [zo, faddrD_ptr, faddrD_cptr, zm, tokRows_len, mapget_modes, plainV_int, Nat.zero_min, filesD, zz6] <;> exact rfl) ?_
 refine ow_op (by simp only [zl, zm, zd, partD, List.take, List.drop, tokRows_len, mapget_modes, plainV_int, Nat.zero_min, filesD, zz6] <;> exact rfl) ?_
 refine ow_me rfl ?_
 refine ow_op (by simp only [zo, tokRows_len, mapget_modes, plainV_int, Nat.zero_min, filesD, zz6]; exact files_run (by omega) _ hX hU hR hT hY hfl6 hrl (by omega) hok) ?_
 refine ow_ml rfl ?_
 refine ow_op (by simp only [zo, List.getElem?_cons_zero, List.getElem?_cons_succ, tokRows_len, mapget_modes, plainV_int, Nat.zero_min, filesD, zz6] <;> exact rfl) ?_
 refine ow_op (by simp only [zo, List.getElem?_cons_zero, List.getElem?_cons_succ, tokRows_len, mapget_modes, plainV_int, Nat.zero_min, filesD, zz6] <;> exact rfl) ?_
 refine ow_op (by simp only [zl, zm, tokRows_len, mapget_modes, plainV_int, Nat.zero_min, filesD, zz6] <;> exact rfl) ?_
 refine ow_ml rfl ?_
 refine ow_op (by simp only [zl, zm, storeD, overlay, snapVs, snaps, zs, zc, zf, List.take, List.drop, tokRows_len, mapget_modes, plainV_int, Nat.zero_min, filesD, zz6] <;> exact rfl) ?_
 refine ow_nil ?_
 refine sk_n (by simp only [ze] <;> exact rfl) ?_
 refine cw_seq (cw_seq (cw_region ?_))
 refine ow_op (by simp only [zo, faddrD_ptr, faddrD_cptr, zm, tokRows_len, mapget_modes, plainV_int, Nat.zero_min, filesD, zz6] <;> exact rfl) ?_
 refine ow_op (by simp only [zl, zm, zd, partD, List.take, List.drop, tokRows_len, mapget_modes, plainV_int, Nat.zero_min, filesD, zz6] <;> exact rfl) ?_
 refine ow_op (by simp only [zo, binD, zb, Int.reduceEq, Int.reduceToNat, Int.reduceLT, tokRows_len, mapget_modes, plainV_int, Nat.zero_min, filesD, zz6] <;> exact rfl) ?_
 refine ow_nil ?_
 refine sk_n (by simp only [ze] <;> exact rfl) ?_
 skip
 refine cw_false (by simp only [opd, zv, tokRows_len, mapget_modes, plainV_int, Nat.zero_min, filesD, zz6] <;> rfl) ?_
 refine cw_skip (sk_n rfl (cw_seq (cw_region ?_)))
 refine ow_op (by simp only [zo, faddrD_ptr, faddrD_cptr, zm, tokRows_len, mapget_modes, plainV_int, Nat.zero_min, filesD, zz6] <;> exact rfl) ?_
 refine ow_op (by simp only [zl, zm, zd, partD, List.take, List.drop, tokRows_len, mapget_modes, plainV_int, Nat.zero_min, filesD, zz6] <;> exact rfl) ?_
 refine ow_me rfl ?_
 refine ow_op (by simp only [zo, fillD, overlay, zc, List.take, List.drop, Nat.reduceAdd, Nat.reduceLeDiff, Nat.reduceBEq, zm, tokRows_len, mapget_modes, plainV_int, Nat.zero_min, filesD, zz6] <;> exact rfl) ?_
 refine ow_op (by simp only [zo, fillD, overlay, zc, List.take, List.drop, Nat.reduceAdd, Nat.reduceLeDiff, Nat.reduceBEq, zm, tokRows_len, mapget_modes, plainV_int, Nat.zero_min, filesD, zz6] <;> exact rfl) ?_
 refine ow_op (by simp only [zl, zm, storeD, overlay, snapVs, snaps, zs, zc, zf, List.take, List.drop, tokRows_len, mapget_modes, plainV_int, Nat.zero_min, filesD, zz6] <;> exact rfl) ?_
 refine ow_op (by simp only [zl, zm, storeD, overlay, snapVs, snaps, zs, zc, zf, List.take, List.drop, tokRows_len, mapget_modes, plainV_int, Nat.zero_min, filesD, zz6] <;> exact rfl) ?_
 refine ow_nil ?_
 refine sk_n (by simp only [ze] <;> exact rfl) ?_
 refine cw_ret ?_
 refine ⟨_, by simp only [F23, resultD, resDs, resD, zg, zd, rowsOf, partD, List.take, List.drop, zm] <;> exact rfl, ?_⟩
 simp only [leaveP, leave, snapVs, snaps, zs, zf, zk, hq.snapV, hq.freeV, hq.snap, hq.free, hq.snapR, hq.freeR]

theorem rule_fdup {d : Nat} (hd : 7 ≤ d) (S : St) {fx ux rx tx y : D} {fl : List Fi} {rl : List Ru} {r : Tok} {rs : List Tok} {sec : ByteArray} {ur tr : List (List D)} (hX : SlD 12 (fiRows fl) fx) (hU : SlD 3 ur ux) (hR : SlD 3 (ruRows rl) rx) (hT : SlD 5 tr tx) (hY : SlD 5 (tokRows (r :: rs)) y) (hfl6 : fl.length ≤ 1000000) (hrl : rl.length ≤ 1000000) (hk : r.kind = 1) (hh : ∀ (d : Nat) (S : St), 4 ≤ d → runF LP NN d 32 [tx] S = some (.tup [y, .bool true], S, false)) (hm : modeW r.text = 0) (t : Tok) (hlen : rs.length ≤ 900) (hok : ∀ t ∈ r :: rs, okTok fl t) (hf : filesF rl (r :: rs) [] = .inr t) :
  runF LP NN d 23 [progD fx ux, rx, .agg [.str sec, tx, .nils]] S = some (.tup [.agg [.str ⟨#[]⟩, .nils, .int .u8 0], .agg [.int .i64 8, .int .i64 t.line, .int .i64 t.col]], S, false) := by
 unfold progD
 have hia := fun (S : St) => hY.iaddr S .i64 (i := 0) (by omega) (tokRows_0 r rs)
 have hlen' : (r :: rs).length ≤ 1000 := by simp; omega
 refine run_pure (F := F23) rfl (by simp only [LP, fnOf, snapVs, snaps, zs, zm, zv, hX.snap, hX.free, hU.snap, hU.free, hR.snapV, hR.freeV, hT.snap, hT.free] <;> exact rfl) rfl (by simp only [LP, zf, zm, hX.snap, hX.free, hU.snap, hU.free, hR.snapV, hR.freeV, hT.snap, hT.free]; try rfl) (by simp only [F23, zv] <;> exact rfl) (by omega) ?_
 rintro d rfl
 have zz7 := And.intro hX.isCell (And.intro hX.val (And.intro hU.isCell (And.intro hU.val (And.intro hT.isCell (And.intro hT.val (And.intro hY.len (And.intro hia (And.intro hk (And.intro @beq_self_eq_true.{0} (And.intro @Bool.not_true (And.intro hm (And.intro hf (@bne_self_eq_false.{0})))))))))))))
 refine cw_seq (cw_region ?_)
 refine ow_op (by simp only [zl, zm, zc, tokRows_len, mapget_modes, plainV_int, Nat.zero_min, filesD, zz7] <;> exact rfl) ?_
 refine ow_op (by simp only [zl, zm, zc, tokRows_len, mapget_modes, plainV_int, Nat.zero_min, filesD, zz7] <;> exact rfl) ?_
 refine ow_op (by simp only [zl, zm, tokRows_len, mapget_modes, plainV_int, Nat.zero_min, filesD, zz7] <;> exact rfl) ?_
 refine ow_op (by simp only [zl, zm, tokRows_len, mapget_modes, plainV_int, Nat.zero_min, filesD, zz7] <;> exact rfl) ?_
 refine ow_nil ?_
 refine sk_n (by simp only [ze] <;> exact rfl) ?_
 refine cw_seq (cw_region ?_)
 refine ow_op (by simp only [zo, faddrD_ptr, faddrD_cptr, zm, tokRows_len, mapget_modes, plainV_int, Nat.zero_min, filesD, zz7] <;> exact rfl) ?_
 refine ow_op (by simp only [zl, zm, zd, partD, List.take, List.drop, tokRows_len, mapget_modes, plainV_int, Nat.zero_min, filesD, zz7] <;> exact rfl) ?_
 refine ow_op (by simp only [zo, tokRows_len, mapget_modes, plainV_int, Nat.zero_min, filesD, zz7]; exact hh _ _ (by omega)) ?_
 refine ow_ml rfl ?_
 refine ow_op (by simp only [zo, List.getElem?_cons_zero, List.getElem?_cons_succ, tokRows_len, mapget_modes, plainV_int, Nat.zero_min, filesD, zz7] <;> exact rfl) ?_
 refine ow_op (by simp only [zo, List.getElem?_cons_zero, List.getElem?_cons_succ, tokRows_len, mapget_modes, plainV_int, Nat.zero_min, filesD, zz7] <;> exact rfl) ?_
 refine ow_ml rfl ?_
 refine ow_ml rfl ?_
 refine ow_nil ?_
 refine sk_n (by simp only [ze] <;> exact rfl) ?_
 refine cw_seq (cw_seq (cw_region ?_))
 refine ow_me rfl ?_
 refine ow_op (by simp only [zo, unD, tokRows_len, mapget_modes, plainV_int, Nat.zero_min, filesD, zz7] <;> exact rfl) ?_
 refine ow_nil ?_
 refine sk_n (by simp only [ze] <;> exact rfl) ?_
 skip
 refine cw_false (by simp only [opd, zv, tokRows_len, mapget_modes, plainV_int, Nat.zero_min, filesD, zz7] <;> rfl) ?_
 refine cw_skip (sk_n rfl (cw_seq (cw_seq ?_)))
 refine cw_drawn (by simp only [newsVals, zw, Nat.reduceAdd] <;> exact rfl) (by simp only [zw, newsObj, St.eta] <;> exact rfl) ?_
 refine dw_op (by simp only [zo, tokRows_len, mapget_modes, plainV_int, Nat.zero_min, filesD, zz7]; exact modes_run (by omega) _) (by simp only [fpHere, zo, zq, plainV_int, hY.fpi] <;> exact rfl) rfl ?_
 refine dw_me rfl rfl ?_
 refine dw_op (by simp only [zl, zm, iaddrD_sl, iaddrD_msl, Int.toNat_natCast, Int.toNat_zero, List.getElem?_map, Option.map_some, Int.le_refl, tokRows_len, mapget_modes, plainV_int, Nat.zero_min, filesD, zz7] <;> exact rfl) (by simp only [fpHere, zo, zq, plainV_int, hY.fpi] <;> exact rfl) rfl ?_
 refine dw_quiet (by simp only [zo, faddrD_ptr, faddrD_cptr, zm, tokRows_len, mapget_modes, plainV_int, Nat.zero_min, filesD, zz7] <;> exact rfl) rfl rfl ?_
 refine dw_op (by simp only [zl, zm, zd, partD, List.take, List.drop, tokRows_len, mapget_modes, plainV_int, Nat.zero_min, filesD, zz7] <;> exact rfl) (by simp only [fpHere, zo, zq, plainV_int, hY.fpi] <;> exact rfl) rfl ?_
 refine dw_op (by simp only [opd, zv, exOp, aop, LOp.loud, lop, if_true, Option.map_some, tokRows_len, mapget_modes, plainV_int, Nat.zero_min, filesD, zz7] <;> exact rfl) (by simp only [fpHere, zo, zq, plainV_int, hY.fpi] <;> exact rfl) rfl ?_
 refine dw_op (by simp only [zo] <;> exact rfl) rfl rfl ?_
 refine dw_op (by simp only [zl, zm, storeD, overlay, snapVs, snaps, zs, zc, zf, List.take, List.drop, tokRows_len, mapget_modes, plainV_int, Nat.zero_min, filesD, zz7] <;> exact rfl) (by simp only [fpHere, zo, zq, plainV_int, hY.fpi] <;> exact rfl) rfl ?_
 refine dw_nil ?_
 refine sk_n (by simp only [ze] <;> exact rfl) ?_
 refine cw_seq (cw_region ?_)
 refine ow_me rfl ?_
 refine ow_op (by simp only [zl, zm, iaddrD_sl, iaddrD_msl, Int.toNat_natCast, Int.toNat_zero, List.getElem?_map, Option.map_some, Int.le_refl, tokRows_len, mapget_modes, plainV_int, Nat.zero_min, filesD, zz7] <;> exact rfl) ?_
 refine ow_op (by simp only [zo, faddrD_ptr, faddrD_cptr, zm, tokRows_len, mapget_modes, plainV_int, Nat.zero_min, filesD, zz7] <;> exact rfl) ?_
 refine ow_op (by simp only [zl, zm, zd, partD, List.take, List.drop, tokRows_len, mapget_modes, plainV_int, Nat.zero_min, filesD, zz7] <;> exact rfl) ?_
 refine ow_op (by simp only [zo, binD, zb, Int.reduceEq, Int.reduceToNat, Int.reduceLT, tokRows_len, mapget_modes, plainV_int, Nat.zero_min, filesD, zz7] <;> exact rfl) ?_
 refine ow_ml rfl ?_
 refine ow_know 0 (b := true) (by simp only [opd, zv, tokRows_len, mapget_modes, plainV_int, Nat.zero_min, filesD, zz7] <;> rfl) (by simp only [zn] <;> exact rfl) ?_
 refine ow_on rfl ?_
 refine ow_op (by simp only [zl, zm, zd, partD, List.take, List.drop, tokRows_len, mapget_modes, plainV_int, Nat.zero_min, filesD, zz7] <;> exact rfl) ?_
 refine ow_on rfl ?_
 refine ow_op (by simp only [zo, binD, zb, Int.reduceEq, Int.reduceToNat, Int.reduceLT, tokRows_len, mapget_modes, plainV_int, Nat.zero_min, filesD, zz7] <;> exact rfl) ?_
 refine ow_op (by simp only [zo, tokRows_len, mapget_modes, plainV_int, Nat.zero_min, filesD, zz7] <;> exact rfl) ?_
 refine ow_nil ?_
 refine sk_n (by simp only [ze] <;> exact rfl) ?_
 skip
 refine cw_false (by simp only [opd, zv, tokRows_len, mapget_modes, plainV_int, Nat.zero_min, filesD, zz7] <;> rfl) ?_
 refine cw_skip (sk_n rfl (cw_seq (cw_region ?_)))
 refine ow_op (by simp only [zl, zm, zd, partD, List.take, List.drop, tokRows_len, mapget_modes, plainV_int, Nat.zero_min, filesD, zz7] <;> exact rfl) ?_
 refine ow_me rfl ?_
 refine ow_op (by simp only [zo, faddrD_ptr, faddrD_cptr, zm, tokRows_len, mapget_modes, plainV_int, Nat.zero_min, filesD, zz7] <;> exact rfl) ?_
 refine ow_op (by simp only [zl, zm, zd, partD, List.take, List.drop, tokRows_len, mapget_modes, plainV_int, Nat.zero_min, filesD, zz7] <;> exact rfl) ?_
 refine ow_me rfl ?_
 refine ow_op (by simp only [zo, tokRows_len, mapget_modes, plainV_int, Nat.zero_min, filesD, zz7]; exact files_run (by omega) _ hX hU hR hT hY hfl6 hrl (by omega) hok) ?_
 refine ow_ml rfl ?_
 refine ow_op (by simp only [zo, List.getElem?_cons_zero, List.getElem?_cons_succ, tokRows_len, mapget_modes, plainV_int, Nat.zero_min, filesD, zz7] <;> exact rfl) ?_
 refine ow_op (by simp only [zo, List.getElem?_cons_zero, List.getElem?_cons_succ, tokRows_len, mapget_modes, plainV_int, Nat.zero_min, filesD, zz7] <;> exact rfl) ?_
 refine ow_op (by simp only [zl, zm, tokRows_len, mapget_modes, plainV_int, Nat.zero_min, filesD, zz7] <;> exact rfl) ?_
 refine ow_ml rfl ?_
 refine ow_op (by simp only [zl, zm, storeD, overlay, snapVs, snaps, zs, zc, zf, List.take, List.drop, tokRows_len, mapget_modes, plainV_int, Nat.zero_min, filesD, zz7] <;> exact rfl) ?_
 refine ow_nil ?_
 refine sk_n (by simp only [ze] <;> exact rfl) ?_
 refine cw_seq (cw_seq (cw_region ?_))
 refine ow_op (by simp only [zo, faddrD_ptr, faddrD_cptr, zm, tokRows_len, mapget_modes, plainV_int, Nat.zero_min, filesD, zz7] <;> exact rfl) ?_
 refine ow_op (by simp only [zl, zm, zd, partD, List.take, List.drop, tokRows_len, mapget_modes, plainV_int, Nat.zero_min, filesD, zz7] <;> exact rfl) ?_
 refine ow_op (by simp only [zo, binD, zb, Int.reduceEq, Int.reduceToNat, Int.reduceLT, tokRows_len, mapget_modes, plainV_int, Nat.zero_min, filesD, zz7] <;> exact rfl) ?_
 refine ow_nil ?_
 refine sk_n (by simp only [ze] <;> exact rfl) ?_
 skip
 refine cw_true (by simp only [opd, zv, tokRows_len, mapget_modes, plainV_int, Nat.zero_min, filesD, zz7] <;> rfl) ?_
 refine cw_seq ?_
 refine cw_drawn (by simp only [newsVals, zw, Nat.reduceAdd] <;> exact rfl) (by simp only [zw, newsObj, St.eta] <;> exact rfl) ?_
 refine dw_quiet (by simp only [zo, fillD, overlay, zc, List.take, List.drop, Nat.reduceAdd, Nat.reduceLeDiff, Nat.reduceBEq, zm, tokRows_len, mapget_modes, plainV_int, Nat.zero_min, filesD, zz7] <;> exact rfl) rfl rfl ?_
 refine dw_op (by simp only [zl, zm, zd, partD, List.take, List.drop, tokRows_len, mapget_modes, plainV_int, Nat.zero_min, filesD, zz7] <;> exact rfl) (by simp only [fpHere, zo, zq, plainV_int, hY.fpi] <;> exact rfl) rfl ?_
 refine dw_op (by simp only [zl, zm, storeD, overlay, snapVs, snaps, zs, zc, zf, List.take, List.drop, tokRows_len, mapget_modes, plainV_int, Nat.zero_min, filesD, zz7] <;> exact rfl) (by simp only [fpHere, zo, zq, plainV_int, hY.fpi] <;> exact rfl) rfl ?_
 refine dw_op (by simp only [zl, zm, storeD, overlay, snapVs, snaps, zs, zc, zf, List.take, List.drop, tokRows_len, mapget_modes, plainV_int, Nat.zero_min, filesD, zz7] <;> exact rfl) (by simp only [fpHere, zo, zq, plainV_int, hY.fpi] <;> exact rfl) rfl ?_
 refine dw_nil ?_
 refine sk_n (by simp only [ze] <;> exact rfl) ?_
 refine cw_ret (sk_r ?_)
 refine ⟨_, by simp only [F23, resultD, resDs, resD, zg, zd, rowsOf, partD, List.take, List.drop, zm] <;> exact rfl, ?_⟩
 simp only [leaveP, leave, snapVs, snaps, zs, zf, zk]

end Go.Proofs.YtcogjcplldpkaaaGreat

namespace Go.Proofs.YtcogjcplldpkaaaGreat
set_option linter.unusedSimpArgs false
set_option linter.unusedVariables false
set_option maxRecDepth 10000

/-- a section of a program in the machine: the tokens behind USE, and what head leaves of them -/
structure Us (fl : List Fi) where
 sec : ByteArray
 tx : D
 tr : List (List D)
 hT : SlD 5 tr tx
 y : D
 r : Tok
 rs : List Tok
 hY : SlD 5 (tokRows (r :: rs)) y
 hk : r.kind = 1
 hh : ∀ (d : Nat) (S : St), 4 ≤ d → runF LP NN d 32 [tx] S = some (.tup [y, .bool true], S, false)
 hlen : rs.length ≤ 900
 hm : modeW r.text ≠ 0 → rs = []
 hok : modeW r.text = 0 → ∀ t ∈ r :: rs, okTok fl t
def Us.row {fl : List Fi} (u : Us fl) : List D := [.str u.sec, u.tx, .nils]
def usRows {fl : List Fi} (l : List (Us fl)) : List (List D) := l.map Us.row
theorem usRows_len {fl : List Fi} (l : List (Us fl)) : (usRows l).length = l.length := by simp [usRows]
theorem usRows_at {fl : List Fi} {l : List (Us fl)} {i : Nat} (h : i < l.length) : (usRows l)[i]? = some [.str l[i].sec, l[i].tx, .nils] := by simp [usRows, h, Us.row]
theorem filesF_len {rl : List Ru} : ∀ {ts : List Tok} {o o' : List ByteArray}, filesF rl ts o = .inl o' → o'.length = o.length + ts.length
 | [], o, o', h => by simp only [filesF, Sum.inl.injEq] at h; subst h; simp
 | t :: ts, o, o', h => by
  simp only [filesF] at h
  split at h
  ·
   simp at h
  ·
   have := filesF_len h
   simp at this ⊢
   omega
/-- a rule, or a fault -/
structure RR where
 ru : Ru
 e : Int
 l : Int
 k : Int
def noRu : Ru := ⟨⟨#[]⟩, [], .nils, 0, .nil 1, by simp⟩
def ruleR {fl : List Fi} (rl : List Ru) (u : Us fl) : RR :=
 if modeW u.r.text ≠ 0 then
  (if (rl.any fun q => (q.mode : Int) == (modeW u.r.text : Int)) then ⟨noRu, 8, u.r.line, u.r.col⟩ else ⟨⟨u.sec, [], .nils, modeW u.r.text, .nil 1, by simp⟩, 0, 0, 0⟩)
 else match hf : filesF rl (u.r :: u.rs) [] with
  | .inl o => ⟨⟨u.sec, o, clipD (appY 1 (strRows o)), 0, (appY_S 1 (strRows o)).clip, by have := filesF_len hf; have := u.hlen; simp at this ⊢; simp_all; omega⟩, 0, 0, 0⟩
  | .inr t => ⟨noRu, 8, t.line, t.col⟩
def RR.d (x : RR) : D := .tup [.agg [.str x.ru.sec, x.ru.fd, .int .u8 x.ru.mode], .agg [.int .i64 x.e, .int .i64 x.l, .int .i64 x.k]]
theorem rule_run {d : Nat} (hd : 7 ≤ d) (S : St) {fx ux rx : D} {fl : List Fi} {rl : List Ru} {ur : List (List D)} (hX : SlD 12 (fiRows fl) fx) (hU : SlD 3 ur ux) (hR : SlD 3 (ruRows rl) rx) (hfl6 : fl.length ≤ 1000000) (hrl : rl.length ≤ 1000000) (u : Us fl) :
  runF LP NN d 23 [progD fx ux, rx, .agg [.str u.sec, u.tx, .nils]] S = some ((ruleR rl u).d, S, false) := by
 unfold ruleR
 by_cases hm : modeW u.r.text ≠ 0
 ·
  rw [if_pos hm]
  cases hz : rl.any fun q => (q.mode : Int) == (modeW u.r.text : Int) with
  | true => rw [if_pos rfl, rule_dup hd S hX hU hR u.hT u.hY hfl6 hrl u.hk u.hh hm hz]; rfl
  | false => rw [if_neg (by simp), rule_ok hd S hX hU hR u.hT u.hY hfl6 hrl u.hk u.hh hm (u.hm hm) hz]; rfl
 ·
  rw [if_neg hm]
  have hm0 : modeW u.r.text = 0 := Decidable.not_not.1 hm
  split
  ·
   rename_i o hf
   rw [rule_fok hd S hX hU hR u.hT u.hY hfl6 hrl u.hk u.hh hm0 o u.hlen (u.hok hm0) hf]; rfl
  ·
   rename_i t hf
   rw [rule_fdup hd S hX hU hR u.hT u.hY hfl6 hrl u.hk u.hh hm0 t u.hlen (u.hok hm0) hf]; rfl
/-- the rules of sections, or the first fault -/
def rulesF {fl : List Fi} : List (Us fl) → List Ru → List Ru ⊕ (Int × Int × Int)
 | [], o => .inl o
 | u :: us, o => if ((ruleR o u).e != 0) then .inr ((ruleR o u).e, (ruleR o u).l, (ruleR o u).k) else rulesF us (o ++ [(ruleR o u).ru])
def rulesD : List Ru ⊕ (Int × Int × Int) → D
 | .inl o => .tup [clipD (appY 3 (ruRows o)), .agg [.int .i64 0, .int .i64 0, .int .i64 0]]
 | .inr (e, l, k) => .tup [.nils, .agg [.int .i64 e, .int .i64 l, .int .i64 k]]
theorem ruRows_app (o : List Ru) (r : Ru) : ruRows (o ++ [r]) = ruRows o ++ [r.row] := by simp [ruRows]

theorem rules_run {d : Nat} (hd : 8 ≤ d) (S : St) {fx ux : D} {fl : List Fi} {ul : List (Us fl)} (hX : SlD 12 (fiRows fl) fx) (hU : SlD 3 (usRows ul) ux) (hfl6 : fl.length ≤ 1000000) (hul : ul.length ≤ 1000) :
  runF LP NN d 14 [progD fx ux] S = some (rulesD (rulesF ul []), S, false) := by
 unfold progD
 refine run_pure (F := F14) rfl (by simp only [LP, fnOf, snapVs, snaps, zs, zm, zv, hX.snap, hX.free, hU.snap, hU.free] <;> exact rfl) rfl (by simp only [LP, zf, zm, hX.snap, hX.free, hU.snap, hU.free]; try rfl) (by simp only [F14, zv] <;> exact rfl) (by omega) ?_
 rintro d rfl
 have zz8 := And.intro hX.isCell (And.intro hX.val (And.intro hU.isCell (And.intro hU.val (hU.len))))
 refine cw_seq (cw_region ?_)
 refine ow_op (by simp only [zl, zm, zc, usRows_len, Nat.zero_min, zz8] <;> exact rfl) ?_
 refine ow_mc ?_
 refine ow_op (by simp only [zl, zm, usRows_len, Nat.zero_min, zz8] <;> exact rfl) ?_
 refine ow_nil ?_
 refine sk_n (by simp only [ze] <;> exact rfl) ?_
 refine cw_seq (cw_region ?_)
 refine ow_mc ?_
 refine ow_nil ?_
 refine sk_n (by simp only [ze] <;> exact rfl) ?_
 refine cw_seq (cw_seq (cw_region ?_))
 refine ow_op (by simp only [zo, faddrD_ptr, faddrD_cptr, zm, usRows_len, Nat.zero_min, zz8] <;> exact rfl) ?_
 refine ow_op (by simp only [zl, zm, zd, partD, List.take, List.drop, usRows_len, Nat.zero_min, zz8] <;> exact rfl) ?_
 refine ow_op (by simp only [zo, lenD_str, lenD_nils, lenD_sl, lenD_msl, usRows_len, Nat.zero_min, zz8] <;> exact rfl) ?_
 refine ow_mc ?_
 refine ow_nil ?_
 refine sk_n (by simp only [ze] <;> exact rfl) ?_
 refine cw_block ?_
 refine cw_loop (fun n env S' => ∃ (H : List AObj) (o : List Ru) (i : Nat) (ox u5 u6 u7 u11 u12 : D), H[0]? = some ⟨32, 9, [[.str ⟨#[]⟩, fx, .nils, .nils, .nils, .nils, .nils, ux, .nils]], 0, 0, false⟩ ∧ H[1]? = some ⟨45, 3, [[.int .i64 0, .int .i64 0, .int .i64 0]], 0, 0, false⟩ ∧ AppAt 79 3 (ruRows o) H ox ∧ i ≤ ul.length ∧ o.length = i ∧ rulesF (ul.drop i) o = rulesF ul [] ∧ n = ul.length - i ∧ S' = ⟨H, 0⟩ ∧ env = [.agg [.str ⟨#[]⟩, fx, .nils, .nils, .nils, .nils, .nils, ux, .nils], .ptr 0 0 0 0, .nils, .ptr 1 0 0 0, ox, u5, u6, u7, ux, .int .i64 ul.length, .int .i64 i, u11, u12]) (ul.length) (by omega) (⟨_, [], 0, _, _, _, _, _, _, rfl, rfl, AppAt.nil _ _ _, by omega, rfl, rfl, by omega, rfl, rfl⟩) ?_
 rintro n env S' ⟨H, o, i, ox, u5, u6, u7, u11, u12, h0, h1, hA, hi, ho, hF, rfl, rfl, rfl⟩
 refine cw_seq (cw_region ?_)
 refine ow_op (by simp only [zo, binD, zb, Int.reduceEq, Int.reduceToNat, Int.reduceLT, usRows_len, Nat.zero_min, zz8, h0, h1] <;> exact rfl) ?_
 refine ow_nil ?_
 refine sk_n (by simp only [ze] <;> exact rfl) ?_
 refine cw_seq ?_
 refine cw_cond (by simp only [opd, zv, usRows_len, Nat.zero_min, zz8, h0, h1] <;> exact rfl) (fun hcA => ?_) (fun hcA => ?_)
 ·
  have hlt : i < ul.length := by have := of_decide_eq_true hcA; omega
  have hw := wrap_nat i (by omega)
  have hia := fun (S : St) => hU.iaddrN S .i64 (usRows_at hlt)
  have hTT := ul[i].hT
  have hfd := (ruleR o ul[i]).ru.hfd
  have hA1 := hA.push [⟨71, 3, [[.str ul[i].sec, ul[i].tx, .nils]], 0, 0, false⟩]
  have hA2 := hA.push [⟨71, 3, [[.str ul[i].sec, ul[i].tx, .nils]], 0, 0, false⟩, ⟨79, 3, [[.str (ruleR o ul[i]).ru.sec, (ruleR o ul[i]).ru.fd, .int .u8 (ruleR o ul[i]).ru.mode]], 0, 0, false⟩, ⟨45, 3, [[.int .i64 (ruleR o ul[i]).e, .int .i64 (ruleR o ul[i]).l, .int .i64 (ruleR o ul[i]).k]], 0, 0, false⟩]
  obtain ⟨ox', H', hap, hA', hlen', hkeep⟩ := hA2.app 48 (new := [(ruleR o ul[i]).ru.row]) (c := some 1) rfl (by rw [ruRows_len]; simp; omega)
  simp only [Ru.row] at hap
  have hk0 := hkeep 0 _ (get_app h0 _) (.inl rfl)
  have hk1 := hkeep 1 _ (get_app h1 _) (.inl rfl)
  have hst := fun (x : AObj) => get_set_self (get_app h1 [(⟨71, 3, [[.str ul[i].sec, ul[i].tx, .nils]], 0, 0, false⟩ : AObj), ⟨79, 3, [[.str (ruleR o ul[i]).ru.sec, (ruleR o ul[i]).ru.fd, .int .u8 (ruleR o ul[i]).ru.mode]], 0, 0, false⟩, ⟨45, 3, [[.int .i64 (ruleR o ul[i]).e, .int .i64 (ruleR o ul[i]).l, .int .i64 (ruleR o ul[i]).k]], 0, 0, false⟩]) x
  have zz9 := And.intro hw (And.intro hia (And.intro hTT.isCell (And.intro hTT.val (And.intro hTT.cells (And.intro hfd.isCell (And.intro hfd.val (And.intro hfd.cells (And.intro hfd.snap (hfd.free)))))))))
  refine cw_skip (sk_n rfl (cw_seq (cw_block (cw_seq (cw_region ?_)))))
  refine ow_op (by simp only [zl, zm, iaddrD_sl, iaddrD_msl, Int.toNat_natCast, Int.toNat_zero, List.getElem?_map, Option.map_some, Int.le_refl, usRows_len, Nat.zero_min, zz8, h0, h1, RR.d, get_app h0, get_app h1, Nat.add_assoc, Nat.reduceAdd, zz9] <;> exact rfl) ?_
  refine ow_op (by simp only [zl, zm, zd, partD, List.take, List.drop, usRows_len, Nat.zero_min, zz8, h0, h1, RR.d, get_app h0, get_app h1, Nat.add_assoc, Nat.reduceAdd, zz9] <;> exact rfl) ?_
  refine ow_op (by simp only [zl, zm, usRows_len, Nat.zero_min, zz8, h0, h1, RR.d, get_app h0, get_app h1, Nat.add_assoc, Nat.reduceAdd, zz9] <;> exact rfl) ?_
  refine ow_op (by simp only [zl, zm, storeD, overlay, snapVs, snaps, zs, zc, zf, List.take, List.drop, usRows_len, Nat.zero_min, zz8, h0, h1, RR.d, get_app h0, get_app h1, Nat.add_assoc, Nat.reduceAdd, zz9] <;> exact rfl) ?_
  refine ow_nil ?_
  refine sk_n (by simp only [ze] <;> exact rfl) ?_
  refine cw_seq (cw_region ?_)
  refine ow_op (by simp only [zl, zm, zd, partD, List.take, List.drop, usRows_len, Nat.zero_min, zz8, h0, h1, RR.d, get_app h0, get_app h1, Nat.add_assoc, Nat.reduceAdd, zz9] <;> exact rfl) ?_
  refine ow_me rfl ?_
  refine ow_op (by simp only [zl, zm, zd, partD, List.take, List.drop, usRows_len, Nat.zero_min, zz8, h0, h1, RR.d, get_app h0, get_app h1, Nat.add_assoc, Nat.reduceAdd, zz9] <;> exact rfl) ?_
  refine ow_op (by simp only [zo, usRows_len, Nat.zero_min, zz8, h0, h1, RR.d, get_app h0, get_app h1, Nat.add_assoc, Nat.reduceAdd, zz9]; exact (run_snap rfl (by simp only [snapVs, snapV_agg, snaps, snap_str, hX.snap, snap_nils, hU.snap, hA1.snapV, hTT.snap, Option.map_some] <;> exact rfl) (by simp only [snapVs, progD, snapV_agg, snaps, snap_str, hX.snap, snap_nils, hU.snap, (appY_S 3 (ruRows o)).snapV, hTT.snap, Option.map_some] <;> exact rfl)).trans (rule_run (by omega) _ hX hU (appY_S 3 (ruRows o)) hfl6 (by omega) ul[i])) ?_
  refine ow_ml rfl ?_
  refine ow_op (by simp only [zo, List.getElem?_cons_zero, List.getElem?_cons_succ, usRows_len, Nat.zero_min, zz8, h0, h1, RR.d, get_app h0, get_app h1, Nat.add_assoc, Nat.reduceAdd, zz9] <;> exact rfl) ?_
  refine ow_op (by simp only [zo, List.getElem?_cons_zero, List.getElem?_cons_succ, usRows_len, Nat.zero_min, zz8, h0, h1, RR.d, get_app h0, get_app h1, Nat.add_assoc, Nat.reduceAdd, zz9] <;> exact rfl) ?_
  refine ow_op (by simp only [zl, zm, usRows_len, Nat.zero_min, zz8, h0, h1, RR.d, get_app h0, get_app h1, Nat.add_assoc, Nat.reduceAdd, zz9] <;> exact rfl) ?_
  refine ow_op (by simp only [zl, zm, usRows_len, Nat.zero_min, zz8, h0, h1, RR.d, get_app h0, get_app h1, Nat.add_assoc, Nat.reduceAdd, zz9] <;> exact rfl) ?_
  refine ow_op (by simp only [zl, zm, storeD, overlay, snapVs, snaps, zs, zc, zf, List.take, List.drop, usRows_len, Nat.zero_min, zz8, h0, h1, RR.d, get_app h0, get_app h1, Nat.add_assoc, Nat.reduceAdd, zz9] <;> exact rfl) ?_
  refine ow_op (by simp only [zl, zm, storeD, overlay, snapVs, snaps, zs, zc, zf, List.take, List.drop, usRows_len, Nat.zero_min, zz8, h0, h1, RR.d, get_app h0, get_app h1, Nat.add_assoc, Nat.reduceAdd, zz9] <;> exact rfl) ?_
  refine ow_nil ?_
  refine sk_n (by simp only [ze] <;> exact rfl) ?_
  refine cw_seq (cw_seq (cw_region ?_))
  refine ow_op (by simp only [zo, faddrD_ptr, faddrD_cptr, zm, usRows_len, Nat.zero_min, zz8, h0, h1, RR.d, get_app h0, get_app h1, Nat.add_assoc, Nat.reduceAdd, zz9] <;> exact rfl) ?_
  refine ow_op (by simp only [zl, zm, zd, partD, List.take, List.drop, usRows_len, Nat.zero_min, zz8, h0, h1, RR.d, get_app h0, get_app h1, Nat.add_assoc, Nat.reduceAdd, zz9] <;> exact rfl) ?_
  refine ow_op (by simp only [zo, binD, zb, Int.reduceEq, Int.reduceToNat, Int.reduceLT, usRows_len, Nat.zero_min, zz8, h0, h1, RR.d, get_app h0, get_app h1, Nat.add_assoc, Nat.reduceAdd, zz9] <;> exact rfl) ?_
  refine ow_nil ?_
  refine sk_n (by simp only [ze] <;> exact rfl) ?_
  refine cw_cond (by simp only [opd, zv, usRows_len, Nat.zero_min, zz8, h0, h1, RR.d, get_app h0, get_app h1, Nat.add_assoc, Nat.reduceAdd, zz9] <;> exact rfl) (fun hcAT => ?_) (fun hcAT => ?_)
  ·
   refine cw_seq ?_
   refine cw_drawn (by simp only [newsVals, zw, Nat.reduceAdd] <;> exact rfl) (by simp only [zw, newsObj, St.eta] <;> exact rfl) ?_
   refine dw_op (by simp only [zl, zm, zd, partD, List.take, List.drop, usRows_len, Nat.zero_min, zz8, h0, h1, RR.d, get_app h0, get_app h1, Nat.add_assoc, Nat.reduceAdd, zz9] <;> exact rfl) (by simp only [fpHere, zo, zq] <;> exact rfl) rfl ?_
   refine dw_mc rfl ?_
   refine dw_op (by simp only [zl, zm, storeD, overlay, snapVs, snaps, zs, zc, zf, List.take, List.drop, usRows_len, Nat.zero_min, zz8, h0, h1, RR.d, get_app h0, get_app h1, Nat.add_assoc, Nat.reduceAdd, zz9] <;> exact rfl) (by simp only [fpHere, zo, zq] <;> exact rfl) rfl ?_
   refine dw_nil ?_
   refine sk_n (by simp only [ze] <;> exact rfl) ?_
   refine cw_ret (sk_r (bk_r (sk_r (lk_r (bk_r (sk_r ?_))))))
   refine ⟨_, by simp only [F14, resultD, resDs, resD, zg, zd, rowsOf, partD, List.take, List.drop, zm, hst] <;> exact rfl, ?_⟩
   rw [← hF, List.drop_eq_getElem_cons hlt, rulesF, if_pos hcAT]
   simp only [leaveP, leave, snapVs, snaps, zs, zf, zk]
   rfl
  ·
   refine cw_skip (sk_n rfl (cw_region ?_))
   refine ow_me rfl ?_
   refine ow_op (by simp only [zl, zm, zd, partD, List.take, List.drop, usRows_len, Nat.zero_min, zz8, h0, h1, RR.d, get_app h0, get_app h1, Nat.add_assoc, Nat.reduceAdd, zz9] <;> exact rfl) ?_
   refine ow_op (by simp only [zl, zm, fillRows, List.replicate, snapVs, snaps, zs, zc, zf, usRows_len, Nat.zero_min, zz8, h0, h1, RR.d, get_app h0, get_app h1, Nat.add_assoc, Nat.reduceAdd, zz9] <;> exact rfl) ?_
   refine ow_op (by simp only [opd, zv, exOp, aop, LOp.loud, lop, if_true]; exact hap) ?_
   refine ow_ml rfl ?_
   refine ow_nil (bk_n ?_)
   refine sk_n (by simp only [ze] <;> exact rfl) ?_
   refine cw_region ?_
   refine ow_op (by simp only [zo, binD, zb, Int.reduceEq, Int.reduceToNat, Int.reduceLT, usRows_len, Nat.zero_min, zz8, h0, h1, RR.d, get_app h0, get_app h1, Nat.add_assoc, Nat.reduceAdd, zz9] <;> exact rfl) ?_
   refine ow_ml rfl ?_
   refine ow_nil ?_
   refine lk_n (by simp only [ze] <;> exact rfl) ?_
   exact ⟨ul.length - (i + 1), by omega, H', o ++ [(ruleR o ul[i]).ru], i + 1, ox', _, _, _, _, _, hk0, hk1, by rw [ruRows_app]; exact hA', by omega, by simp; omega, by rw [← hF, List.drop_eq_getElem_cons hlt, rulesF, if_neg (by simp [hcAT])], rfl, rfl, rfl⟩
 ·
  obtain rfl : i = ul.length := by have := of_decide_eq_false hcA; omega
  refine cw_exit (sk_e (lk_e (bk_e (sk_n rfl (cw_seq (cw_region ?_))))))
  refine ow_me rfl ?_
  refine ow_op (by simp only [zo, usRows_len, Nat.zero_min, zz8, h0, h1, get_set_self h1]; exact (run_snap rfl (by simp only [snapVs, hA.snapV] <;> exact rfl) (by simp only [snapVs, (appY_S 3 (ruRows o)).snapV] <;> exact rfl)).trans (clip3_run (by omega) _ (appY_S 3 (ruRows o)))) ?_
  refine ow_op (by simp only [zo, fillD, overlay, zc, List.take, List.drop, Nat.reduceAdd, Nat.reduceLeDiff, Nat.reduceBEq, zm, usRows_len, Nat.zero_min, zz8, h0, h1, get_set_self h1] <;> exact rfl) ?_
  refine ow_ml rfl ?_
  refine ow_op (by simp only [zl, zm, storeD, overlay, snapVs, snaps, zs, zc, zf, List.take, List.drop, usRows_len, Nat.zero_min, zz8, h0, h1, get_set_self h1] <;> exact rfl) ?_
  refine ow_nil ?_
  refine sk_n (by simp only [ze] <;> exact rfl) ?_
  refine cw_ret ?_
  refine ⟨_, by simp only [F14, resultD, resDs, resD, zg, zd, rowsOf, partD, List.take, List.drop, zm, get_set_self h1] <;> exact rfl, ?_⟩
  rw [← hF, List.drop_length, rulesF]
  simp only [leaveP, leave, snapVs, snaps, zs, zf, zk, (appY_S 3 (ruRows o)).clip.snapV, (appY_S 3 (ruRows o)).clip.freeV, (appY_S 3 (ruRows o)).clip.snap, (appY_S 3 (ruRows o)).clip.free, (appY_S 3 (ruRows o)).clip.snapR, (appY_S 3 (ruRows o)).clip.freeR]
  rfl

end Go.Proofs.YtcogjcplldpkaaaGreat

namespace Go.Proofs.YtcogjcplldpkaaaGreat
set_option linter.unusedSimpArgs false
set_option linter.unusedVariables false
set_option maxRecDepth 10000

def modeN (k : Nat) : ByteArray := ([⟨#[]⟩, ⟨#[73, 78, 80, 85, 84]⟩, ⟨#[79, 85, 84, 80, 85, 84]⟩, ⟨#[73, 45, 79]⟩, ⟨#[69, 88, 84, 69, 78, 68]⟩] : List ByteArray).getD k ⟨#[]⟩
/-- the words behind USE -/
def textF (u : Uu) : List ByteArray := [wAFTER] ++ (if u.w % 2 = 1 then [wSTANDARD] else []) ++ [if u.w / 2 % 2 = 1 then wERROR else wEXCEPTION, wPROCEDURE] ++ (if u.w / 4 % 2 = 1 then [wON] else []) ++ (if modeF u.f u.m > 0 then [modeN (modeF u.f u.m)] else namesF u.f)
theorem mode_le (f m : Nat) : modeF f m ≤ 4 := by unfold modeF; split <;> omega
theorem and_tab : (List.range 256).map (fun w => IntKind.u8.wrap (((BitVec.ofInt IntKind.u8.bits ((w : Nat) : Int)) &&& (BitVec.ofInt IntKind.u8.bits 1)).toNat : Int)) = (List.range 256).map fun w => ((w % 2 : Nat) : Int) := by kernel_rfl
theorem u8_and (w : Nat) (h : w < 256) : IntKind.u8.wrap (((BitVec.ofInt IntKind.u8.bits ((w : Nat) : Int)) &&& (BitVec.ofInt IntKind.u8.bits 1)).toNat : Int) = ((w % 2 : Nat) : Int) := tab_at and_tab w h
theorem u8_div (w k : Nat) (h : w < 256) : IntKind.u8.wrap ((w : Int).tdiv (k : Int)) = ((w / k : Nat) : Int) := by
 rw [Int.tdiv_eq_ediv_of_nonneg (by omega), ← Int.natCast_ediv]
 exact wrap_u8 _ (Nat.lt_of_le_of_lt (Nat.div_le_self _ _) h)

theorem text_run {d : Nat} (hd : 3 ≤ d) (S : St) (u : Uu) :
  runF LP NN d 16 [.agg [.int .u8 u.f, .int .u8 u.m, .int .u8 u.w]] S = some (.sl 1 (strRows (textF u)) none, S, false) := by
 have hd2 : IntKind.u8.wrap ((u.w : Int).tdiv 2) = ((u.w / 2 : Nat) : Int) := u8_div u.w 2 u.hw
 have hd4 : IntKind.u8.wrap ((u.w : Int).tdiv 4) = ((u.w / 4 : Nat) : Int) := u8_div u.w 4 u.hw
 have hm2 : ((u.w / 2 : Nat) : Int).tmod 2 = ((u.w / 2 % 2 : Nat) : Int) := tmod_nat _ 2
 have hm4 : ((u.w / 4 : Nat) : Int).tmod 2 = ((u.w / 4 % 2 : Nat) : Int) := tmod_nat _ 2
 have hix : ([[D.str ⟨#[69, 88, 67, 69, 80, 84, 73, 79, 78]⟩], [D.str ⟨#[69, 82, 82, 79, 82]⟩]] : List (List D))[u.w / 2 % 2]? = some [.str (if u.w / 2 % 2 = 1 then wERROR else wEXCEPTION)] := by
  rcases Nat.mod_two_eq_zero_or_one (u.w / 2) with h | h <;> rw [h] <;> rfl
 have hmx : ([[D.str ⟨#[]⟩], [D.str ⟨#[73, 78, 80, 85, 84]⟩], [D.str ⟨#[79, 85, 84, 80, 85, 84]⟩], [D.str ⟨#[73, 45, 79]⟩], [D.str ⟨#[69, 88, 84, 69, 78, 68]⟩]] : List (List D))[modeF u.f u.m]? = some [.str (modeN (modeF u.f u.m))] := by
  have := mode_le u.f u.m
  match modeF u.f u.m, this with
  | 0, _ => rfl
  | 1, _ => rfl
  | 2, _ => rfl
  | 3, _ => rfl
  | 4, _ => rfl
 have hN := strsD_S (namesF u.f)
 have hfew := names_few u.f
 have hb3 : (3 + (namesF u.f).length) * 16 ≤ 140737488355328 := by omega
 have hb4 : (4 + (namesF u.f).length) * 16 ≤ 140737488355328 := by omega
 have hb5 : (5 + (namesF u.f).length) * 16 ≤ 140737488355328 := by omega
 refine run_pure (F := F16) rfl (by simp only [LP, fnOf, snapVs, snaps, zs, zm, zv] <;> exact rfl) rfl (by simp only [LP, zf, zm]; try rfl) (by simp only [F16, zv] <;> exact rfl) (by omega) ?_
 rintro d rfl
 have zz10 := And.intro hd2 (And.intro hd4 (And.intro hm2 (And.intro hm4 (And.intro hix (And.intro hmx (And.intro hN.read (And.intro @strRows_len (And.intro hb3 (And.intro hb4 (hb5))))))))))
 refine cw_seq (cw_region ?_)
 refine ow_op (by simp only [zl, zm, zc, Nat.one_ne_zero, true_or, true_and, u8_and _ u.hw, Int.natCast_nonneg, and_self, Nat.reduceAdd, zz10] <;> exact rfl) ?_
 refine ow_mc ?_
 refine ow_nil ?_
 refine sk_n (by simp only [ze] <;> exact rfl) ?_
 refine cw_seq (cw_region ?_)
 refine ow_op (by simp only [zl, zm, fillRows, List.replicate, snapVs, snaps, zs, zc, zf, Nat.one_ne_zero, true_or, true_and, u8_and _ u.hw, Int.natCast_nonneg, and_self, Nat.reduceAdd, zz10] <;> exact rfl) ?_
 refine ow_ml rfl ?_
 refine ow_nil ?_
 refine sk_n (by simp only [ze] <;> exact rfl) ?_
 refine cw_seq (cw_seq (cw_region ?_))
 refine ow_op (by simp only [zo, faddrD_ptr, faddrD_cptr, zm, Nat.one_ne_zero, true_or, true_and, u8_and _ u.hw, Int.natCast_nonneg, and_self, Nat.reduceAdd, zz10] <;> exact rfl) ?_
 refine ow_op (by simp only [zl, zm, zd, partD, List.take, List.drop, Nat.one_ne_zero, true_or, true_and, u8_and _ u.hw, Int.natCast_nonneg, and_self, Nat.reduceAdd, zz10] <;> exact rfl) ?_
 refine ow_op (by simp only [zo, binD, zb, Int.reduceEq, Int.reduceToNat, Int.reduceLT, Nat.one_ne_zero, true_or, true_and, u8_and _ u.hw, Int.natCast_nonneg, and_self, Nat.reduceAdd, zz10] <;> exact rfl) ?_
 refine ow_op (by simp only [zo, binD, zb, Int.reduceEq, Int.reduceToNat, Int.reduceLT, Nat.one_ne_zero, true_or, true_and, u8_and _ u.hw, Int.natCast_nonneg, and_self, Nat.reduceAdd, zz10] <;> exact rfl) ?_
 refine ow_nil ?_
 refine sk_n (by simp only [ze] <;> exact rfl) ?_
 refine cw_cond (by simp only [opd, zv, Nat.one_ne_zero, true_or, true_and, u8_and _ u.hw, Int.natCast_nonneg, and_self, Nat.reduceAdd, zz10] <;> exact rfl) (fun hc => ?_) (fun hc => ?_)
 ·
  refine cw_region ?_
  refine ow_me rfl ?_
  refine ow_op (by simp only [zl, zm, fillRows, List.replicate, snapVs, snaps, zs, zc, zf, Nat.one_ne_zero, true_or, true_and, u8_and _ u.hw, Int.natCast_nonneg, and_self, Nat.reduceAdd, zz10] <;> exact rfl) ?_
  refine ow_op (by simp only [zl, zm, appendD, appendRows, readRows_nils, readRows_sl, readRows_msl, List.isEmpty_cons, List.isEmpty_nil, reduceIte, Nat.one_ne_zero, true_or, true_and, u8_and _ u.hw, Int.natCast_nonneg, and_self, Nat.reduceAdd, zz10] <;> exact rfl) ?_
  refine ow_ml rfl ?_
  refine ow_nil ?_
  refine sk_n (by simp only [ze] <;> exact rfl) ?_
  refine cw_seq (cw_region ?_)
  refine ow_me rfl ?_
  refine ow_op (by simp only [zl, zm, fillRows, List.replicate, snapVs, snaps, zs, zc, zf, Nat.one_ne_zero, true_or, true_and, u8_and _ u.hw, Int.natCast_nonneg, and_self, Nat.reduceAdd, zz10] <;> exact rfl) ?_
  refine ow_op (by simp only [zo, faddrD_ptr, faddrD_cptr, zm, Nat.one_ne_zero, true_or, true_and, u8_and _ u.hw, Int.natCast_nonneg, and_self, Nat.reduceAdd, zz10] <;> exact rfl) ?_
  refine ow_op (by simp only [zl, zm, zd, partD, List.take, List.drop, Nat.one_ne_zero, true_or, true_and, u8_and _ u.hw, Int.natCast_nonneg, and_self, Nat.reduceAdd, zz10] <;> exact rfl) ?_
  refine ow_op (by simp only [zo, binD, zb, Int.reduceEq, Int.reduceToNat, Int.reduceLT, Nat.one_ne_zero, true_or, true_and, u8_and _ u.hw, Int.natCast_nonneg, and_self, Nat.reduceAdd, zz10] <;> exact rfl) ?_
  refine ow_op (by simp only [zo, binD, zb, Int.reduceEq, Int.reduceToNat, Int.reduceLT, Nat.one_ne_zero, true_or, true_and, u8_and _ u.hw, Int.natCast_nonneg, and_self, Nat.reduceAdd, zz10] <;> exact rfl) ?_
  refine ow_op (by simp only [zl, zm, iaddrD_sl, iaddrD_msl, Int.toNat_natCast, Int.toNat_zero, List.getElem?_map, Option.map_some, Int.le_refl, Nat.one_ne_zero, true_or, true_and, u8_and _ u.hw, Int.natCast_nonneg, and_self, Nat.reduceAdd, zz10] <;> exact rfl) ?_
  refine ow_op (by simp only [zl, zm, zd, partD, List.take, List.drop, Nat.one_ne_zero, true_or, true_and, u8_and _ u.hw, Int.natCast_nonneg, and_self, Nat.reduceAdd, zz10] <;> exact rfl) ?_
  refine ow_op (by simp only [zl, zm, fillRows, List.replicate, snapVs, snaps, zs, zc, zf, Nat.one_ne_zero, true_or, true_and, u8_and _ u.hw, Int.natCast_nonneg, and_self, Nat.reduceAdd, zz10] <;> exact rfl) ?_
  refine ow_op (by simp only [zl, zm, appendD, appendRows, readRows_nils, readRows_sl, readRows_msl, List.isEmpty_cons, List.isEmpty_nil, reduceIte, Nat.one_ne_zero, true_or, true_and, u8_and _ u.hw, Int.natCast_nonneg, and_self, Nat.reduceAdd, zz10] <;> exact rfl) ?_
  refine ow_ml rfl ?_
  refine ow_nil ?_
  refine sk_n (by simp only [ze] <;> exact rfl) ?_
  refine cw_seq (cw_seq (cw_region ?_))
  refine ow_op (by simp only [zo, faddrD_ptr, faddrD_cptr, zm, Nat.one_ne_zero, true_or, true_and, u8_and _ u.hw, Int.natCast_nonneg, and_self, Nat.reduceAdd, zz10] <;> exact rfl) ?_
  refine ow_op (by simp only [zl, zm, zd, partD, List.take, List.drop, Nat.one_ne_zero, true_or, true_and, u8_and _ u.hw, Int.natCast_nonneg, and_self, Nat.reduceAdd, zz10] <;> exact rfl) ?_
  refine ow_op (by simp only [zo, binD, zb, Int.reduceEq, Int.reduceToNat, Int.reduceLT, Nat.one_ne_zero, true_or, true_and, u8_and _ u.hw, Int.natCast_nonneg, and_self, Nat.reduceAdd, zz10] <;> exact rfl) ?_
  refine ow_op (by simp only [zo, binD, zb, Int.reduceEq, Int.reduceToNat, Int.reduceLT, Nat.one_ne_zero, true_or, true_and, u8_and _ u.hw, Int.natCast_nonneg, and_self, Nat.reduceAdd, zz10] <;> exact rfl) ?_
  refine ow_op (by simp only [zo, binD, zb, Int.reduceEq, Int.reduceToNat, Int.reduceLT, Nat.one_ne_zero, true_or, true_and, u8_and _ u.hw, Int.natCast_nonneg, and_self, Nat.reduceAdd, zz10] <;> exact rfl) ?_
  refine ow_nil ?_
  refine sk_n (by simp only [ze] <;> exact rfl) ?_
  refine cw_cond (by simp only [opd, zv, Nat.one_ne_zero, true_or, true_and, u8_and _ u.hw, Int.natCast_nonneg, and_self, Nat.reduceAdd, zz10] <;> exact rfl) (fun hcT => ?_) (fun hcT => ?_)
  ·
   refine cw_region ?_
   refine ow_me rfl ?_
   refine ow_op (by simp only [zl, zm, fillRows, List.replicate, snapVs, snaps, zs, zc, zf, Nat.one_ne_zero, true_or, true_and, u8_and _ u.hw, Int.natCast_nonneg, and_self, Nat.reduceAdd, zz10] <;> exact rfl) ?_
   refine ow_op (by simp only [zl, zm, appendD, appendRows, readRows_nils, readRows_sl, readRows_msl, List.isEmpty_cons, List.isEmpty_nil, reduceIte, Nat.one_ne_zero, true_or, true_and, u8_and _ u.hw, Int.natCast_nonneg, and_self, Nat.reduceAdd, zz10] <;> exact rfl) ?_
   refine ow_ml rfl ?_
   refine ow_nil ?_
   refine sk_n (by simp only [ze] <;> exact rfl) ?_
   refine cw_seq (cw_seq (cw_region ?_))
   refine ow_op (by simp only [zl, zm, zd, partD, List.take, List.drop, Nat.one_ne_zero, true_or, true_and, u8_and _ u.hw, Int.natCast_nonneg, and_self, Nat.reduceAdd, zz10] <;> exact rfl) ?_
   refine ow_op (by simp only [zo, Nat.one_ne_zero, true_or, true_and, u8_and _ u.hw, Int.natCast_nonneg, and_self, Nat.reduceAdd, zz10]; exact mode_run (by omega) _ _ _ _ u.hf) ?_
   refine ow_op (by simp only [zo, binD, zb, Int.reduceEq, Int.reduceToNat, Int.reduceLT, Nat.one_ne_zero, true_or, true_and, u8_and _ u.hw, Int.natCast_nonneg, and_self, Nat.reduceAdd, zz10] <;> exact rfl) ?_
   refine ow_nil ?_
   refine sk_n (by simp only [ze] <;> exact rfl) ?_
   refine cw_cond (by simp only [opd, zv, Nat.one_ne_zero, true_or, true_and, u8_and _ u.hw, Int.natCast_nonneg, and_self, Nat.reduceAdd, zz10] <;> exact rfl) (fun hcTT => ?_) (fun hcTT => ?_)
   ·
    refine cw_seq (cw_region ?_)
    refine ow_me rfl ?_
    refine ow_op (by simp only [zl, zm, fillRows, List.replicate, snapVs, snaps, zs, zc, zf, Nat.one_ne_zero, true_or, true_and, u8_and _ u.hw, Int.natCast_nonneg, and_self, Nat.reduceAdd, zz10] <;> exact rfl) ?_
    refine ow_op (by simp only [zl, zm, zd, partD, List.take, List.drop, Nat.one_ne_zero, true_or, true_and, u8_and _ u.hw, Int.natCast_nonneg, and_self, Nat.reduceAdd, zz10] <;> exact rfl) ?_
    refine ow_op (by simp only [zo, Nat.one_ne_zero, true_or, true_and, u8_and _ u.hw, Int.natCast_nonneg, and_self, Nat.reduceAdd, zz10]; exact mode_run (by omega) _ _ _ _ u.hf) ?_
    refine ow_op (by simp only [zl, zm, iaddrD_sl, iaddrD_msl, Int.toNat_natCast, Int.toNat_zero, List.getElem?_map, Option.map_some, Int.le_refl, Nat.one_ne_zero, true_or, true_and, u8_and _ u.hw, Int.natCast_nonneg, and_self, Nat.reduceAdd, zz10] <;> exact rfl) ?_
    refine ow_op (by simp only [zl, zm, zd, partD, List.take, List.drop, Nat.one_ne_zero, true_or, true_and, u8_and _ u.hw, Int.natCast_nonneg, and_self, Nat.reduceAdd, zz10] <;> exact rfl) ?_
    refine ow_op (by simp only [zl, zm, fillRows, List.replicate, snapVs, snaps, zs, zc, zf, Nat.one_ne_zero, true_or, true_and, u8_and _ u.hw, Int.natCast_nonneg, and_self, Nat.reduceAdd, zz10] <;> exact rfl) ?_
    refine ow_op (by simp only [zl, zm, appendD, appendRows, readRows_nils, readRows_sl, readRows_msl, List.isEmpty_cons, List.isEmpty_nil, reduceIte, Nat.one_ne_zero, true_or, true_and, u8_and _ u.hw, Int.natCast_nonneg, and_self, Nat.reduceAdd, zz10] <;> exact rfl) ?_
    refine ow_ml rfl ?_
    refine ow_nil ?_
    refine sk_n (by simp only [ze] <;> exact rfl) ?_
    refine cw_ret (sk_r ?_)
    have q0 : u.w % 2 = 1 := by have := beq_iff_eq.1 hc; omega
    have q1 : u.w / 4 % 2 = 1 := by have := beq_iff_eq.1 hcT; omega
    have q2 : modeF u.f u.m > 0 := by have := of_decide_eq_true hcTT; omega
    refine ⟨_, by simp only [F16, resultD, resDs, resD, zg, zd, rowsOf, partD, List.take, List.drop, zm] <;> exact rfl, ?_⟩
    unfold textF
    rw [if_pos q0, if_pos q1, if_pos q2]
    refine (leaveP_app rfl (by simp [strRows_len]; try omega)).trans ?_
    simp [strRows, wAFTER, wSTANDARD, wPROCEDURE, wON, wERROR, wEXCEPTION]
   ·
    have hne : (strRows (namesF u.f)).isEmpty = false := by
     have h0 := of_decide_eq_false hcTT
     cases hn : namesF u.f with
     | nil => exfalso; simp [modeF, hn] at h0; omega
     | cons a l => rfl
    refine cw_skip (sk_n rfl (cw_seq (cw_region ?_)))
    refine ow_me rfl ?_
    refine ow_op (by simp only [zl, zm, zd, partD, List.take, List.drop, Nat.one_ne_zero, true_or, true_and, u8_and _ u.hw, Int.natCast_nonneg, and_self, Nat.reduceAdd, zz10, hne] <;> exact rfl) ?_
    refine ow_op (by simp only [zo, Nat.one_ne_zero, true_or, true_and, u8_and _ u.hw, Int.natCast_nonneg, and_self, Nat.reduceAdd, zz10, hne]; exact names_run (by omega) _ _ _ _ u.hf) ?_
    refine ow_op (by simp only [zl, zm, appendD, appendRows, readRows_nils, readRows_sl, readRows_msl, List.isEmpty_cons, List.isEmpty_nil, reduceIte, Nat.one_ne_zero, true_or, true_and, u8_and _ u.hw, Int.natCast_nonneg, and_self, Nat.reduceAdd, zz10, hne] <;> exact rfl) ?_
    refine ow_ml rfl ?_
    refine ow_nil ?_
    refine sk_n (by simp only [ze] <;> exact rfl) ?_
    refine cw_ret ?_
    have q0 : u.w % 2 = 1 := by have := beq_iff_eq.1 hc; omega
    have q1 : u.w / 4 % 2 = 1 := by have := beq_iff_eq.1 hcT; omega
    have q2 : ¬ modeF u.f u.m > 0 := by have := of_decide_eq_false hcTT; omega
    refine ⟨_, by simp only [F16, resultD, resDs, resD, zg, zd, rowsOf, partD, List.take, List.drop, zm] <;> exact rfl, ?_⟩
    unfold textF
    rw [if_pos q0, if_pos q1, if_neg q2]
    refine (leaveP_app rfl (by simp [strRows_len]; try omega)).trans ?_
    simp [strRows, wAFTER, wSTANDARD, wPROCEDURE, wON, wERROR, wEXCEPTION]
  ·
   refine cw_skip (sk_n rfl (cw_seq (cw_seq (cw_region ?_))))
   refine ow_op (by simp only [zl, zm, zd, partD, List.take, List.drop, Nat.one_ne_zero, true_or, true_and, u8_and _ u.hw, Int.natCast_nonneg, and_self, Nat.reduceAdd, zz10] <;> exact rfl) ?_
   refine ow_op (by simp only [zo, Nat.one_ne_zero, true_or, true_and, u8_and _ u.hw, Int.natCast_nonneg, and_self, Nat.reduceAdd, zz10]; exact mode_run (by omega) _ _ _ _ u.hf) ?_
   refine ow_op (by simp only [zo, binD, zb, Int.reduceEq, Int.reduceToNat, Int.reduceLT, Nat.one_ne_zero, true_or, true_and, u8_and _ u.hw, Int.natCast_nonneg, and_self, Nat.reduceAdd, zz10] <;> exact rfl) ?_
   refine ow_nil ?_
   refine sk_n (by simp only [ze] <;> exact rfl) ?_
   refine cw_cond (by simp only [opd, zv, Nat.one_ne_zero, true_or, true_and, u8_and _ u.hw, Int.natCast_nonneg, and_self, Nat.reduceAdd, zz10] <;> exact rfl) (fun hcTF => ?_) (fun hcTF => ?_)
   ·
    refine cw_seq (cw_region ?_)
    refine ow_me rfl ?_
    refine ow_op (by simp only [zl, zm, fillRows, List.replicate, snapVs, snaps, zs, zc, zf, Nat.one_ne_zero, true_or, true_and, u8_and _ u.hw, Int.natCast_nonneg, and_self, Nat.reduceAdd, zz10] <;> exact rfl) ?_
    refine ow_op (by simp only [zl, zm, zd, partD, List.take, List.drop, Nat.one_ne_zero, true_or, true_and, u8_and _ u.hw, Int.natCast_nonneg, and_self, Nat.reduceAdd, zz10] <;> exact rfl) ?_
    refine ow_op (by simp only [zo, Nat.one_ne_zero, true_or, true_and, u8_and _ u.hw, Int.natCast_nonneg, and_self, Nat.reduceAdd, zz10]; exact mode_run (by omega) _ _ _ _ u.hf) ?_
    refine ow_op (by simp only [zl, zm, iaddrD_sl, iaddrD_msl, Int.toNat_natCast, Int.toNat_zero, List.getElem?_map, Option.map_some, Int.le_refl, Nat.one_ne_zero, true_or, true_and, u8_and _ u.hw, Int.natCast_nonneg, and_self, Nat.reduceAdd, zz10] <;> exact rfl) ?_
    refine ow_op (by simp only [zl, zm, zd, partD, List.take, List.drop, Nat.one_ne_zero, true_or, true_and, u8_and _ u.hw, Int.natCast_nonneg, and_self, Nat.reduceAdd, zz10] <;> exact rfl) ?_
    refine ow_op (by simp only [zl, zm, fillRows, List.replicate, snapVs, snaps, zs, zc, zf, Nat.one_ne_zero, true_or, true_and, u8_and _ u.hw, Int.natCast_nonneg, and_self, Nat.reduceAdd, zz10] <;> exact rfl) ?_
    refine ow_op (by simp only [zl, zm, appendD, appendRows, readRows_nils, readRows_sl, readRows_msl, List.isEmpty_cons, List.isEmpty_nil, reduceIte, Nat.one_ne_zero, true_or, true_and, u8_and _ u.hw, Int.natCast_nonneg, and_self, Nat.reduceAdd, zz10] <;> exact rfl) ?_
    refine ow_ml rfl ?_
    refine ow_nil ?_
    refine sk_n (by simp only [ze] <;> exact rfl) ?_
    refine cw_ret (sk_r ?_)
    have q0 : u.w % 2 = 1 := by have := beq_iff_eq.1 hc; omega
    have q1 : u.w / 4 % 2 ≠ 1 := by intro h; rw [h] at hcT; simp at hcT
    have q2 : modeF u.f u.m > 0 := by have := of_decide_eq_true hcTF; omega
    refine ⟨_, by simp only [F16, resultD, resDs, resD, zg, zd, rowsOf, partD, List.take, List.drop, zm] <;> exact rfl, ?_⟩
    unfold textF
    rw [if_pos q0, if_neg q1, if_pos q2]
    refine (leaveP_app rfl (by simp [strRows_len]; try omega)).trans ?_
    simp [strRows, wAFTER, wSTANDARD, wPROCEDURE, wON, wERROR, wEXCEPTION]
   ·
    have hne : (strRows (namesF u.f)).isEmpty = false := by
     have h0 := of_decide_eq_false hcTF
     cases hn : namesF u.f with
     | nil => exfalso; simp [modeF, hn] at h0; omega
     | cons a l => rfl
    refine cw_skip (sk_n rfl (cw_seq (cw_region ?_)))
    refine ow_me rfl ?_
    refine ow_op (by simp only [zl, zm, zd, partD, List.take, List.drop, Nat.one_ne_zero, true_or, true_and, u8_and _ u.hw, Int.natCast_nonneg, and_self, Nat.reduceAdd, zz10, hne] <;> exact rfl) ?_
    refine ow_op (by simp only [zo, Nat.one_ne_zero, true_or, true_and, u8_and _ u.hw, Int.natCast_nonneg, and_self, Nat.reduceAdd, zz10, hne]; exact names_run (by omega) _ _ _ _ u.hf) ?_
    refine ow_op (by simp only [zl, zm, appendD, appendRows, readRows_nils, readRows_sl, readRows_msl, List.isEmpty_cons, List.isEmpty_nil, reduceIte, Nat.one_ne_zero, true_or, true_and, u8_and _ u.hw, Int.natCast_nonneg, and_self, Nat.reduceAdd, zz10, hne] <;> exact rfl) ?_
    refine ow_ml rfl ?_
    refine ow_nil ?_
    refine sk_n (by simp only [ze] <;> exact rfl) ?_
    refine cw_ret ?_
    have q0 : u.w % 2 = 1 := by have := beq_iff_eq.1 hc; omega
    have q1 : u.w / 4 % 2 ≠ 1 := by intro h; rw [h] at hcT; simp at hcT
    have q2 : ¬ modeF u.f u.m > 0 := by have := of_decide_eq_false hcTF; omega
    refine ⟨_, by simp only [F16, resultD, resDs, resD, zg, zd, rowsOf, partD, List.take, List.drop, zm] <;> exact rfl, ?_⟩
    unfold textF
    rw [if_pos q0, if_neg q1, if_neg q2]
    refine (leaveP_app rfl (by simp [strRows_len]; try omega)).trans ?_
    simp [strRows, wAFTER, wSTANDARD, wPROCEDURE, wON, wERROR, wEXCEPTION]
 ·
  refine cw_skip (sk_n rfl (cw_seq (cw_region ?_)))
  refine ow_me rfl ?_
  refine ow_op (by simp only [zl, zm, fillRows, List.replicate, snapVs, snaps, zs, zc, zf, Nat.one_ne_zero, true_or, true_and, u8_and _ u.hw, Int.natCast_nonneg, and_self, Nat.reduceAdd, zz10] <;> exact rfl) ?_
  refine ow_op (by simp only [zo, faddrD_ptr, faddrD_cptr, zm, Nat.one_ne_zero, true_or, true_and, u8_and _ u.hw, Int.natCast_nonneg, and_self, Nat.reduceAdd, zz10] <;> exact rfl) ?_
  refine ow_op (by simp only [zl, zm, zd, partD, List.take, List.drop, Nat.one_ne_zero, true_or, true_and, u8_and _ u.hw, Int.natCast_nonneg, and_self, Nat.reduceAdd, zz10] <;> exact rfl) ?_
  refine ow_op (by simp only [zo, binD, zb, Int.reduceEq, Int.reduceToNat, Int.reduceLT, Nat.one_ne_zero, true_or, true_and, u8_and _ u.hw, Int.natCast_nonneg, and_self, Nat.reduceAdd, zz10] <;> exact rfl) ?_
  refine ow_op (by simp only [zo, binD, zb, Int.reduceEq, Int.reduceToNat, Int.reduceLT, Nat.one_ne_zero, true_or, true_and, u8_and _ u.hw, Int.natCast_nonneg, and_self, Nat.reduceAdd, zz10] <;> exact rfl) ?_
  refine ow_op (by simp only [zl, zm, iaddrD_sl, iaddrD_msl, Int.toNat_natCast, Int.toNat_zero, List.getElem?_map, Option.map_some, Int.le_refl, Nat.one_ne_zero, true_or, true_and, u8_and _ u.hw, Int.natCast_nonneg, and_self, Nat.reduceAdd, zz10] <;> exact rfl) ?_
  refine ow_op (by simp only [zl, zm, zd, partD, List.take, List.drop, Nat.one_ne_zero, true_or, true_and, u8_and _ u.hw, Int.natCast_nonneg, and_self, Nat.reduceAdd, zz10] <;> exact rfl) ?_
  refine ow_op (by simp only [zl, zm, fillRows, List.replicate, snapVs, snaps, zs, zc, zf, Nat.one_ne_zero, true_or, true_and, u8_and _ u.hw, Int.natCast_nonneg, and_self, Nat.reduceAdd, zz10] <;> exact rfl) ?_
  refine ow_op (by simp only [zl, zm, appendD, appendRows, readRows_nils, readRows_sl, readRows_msl, List.isEmpty_cons, List.isEmpty_nil, reduceIte, Nat.one_ne_zero, true_or, true_and, u8_and _ u.hw, Int.natCast_nonneg, and_self, Nat.reduceAdd, zz10] <;> exact rfl) ?_
  refine ow_ml rfl ?_
  refine ow_nil ?_
  refine sk_n (by simp only [ze] <;> exact rfl) ?_
  refine cw_seq (cw_seq (cw_region ?_))
  refine ow_op (by simp only [zo, faddrD_ptr, faddrD_cptr, zm, Nat.one_ne_zero, true_or, true_and, u8_and _ u.hw, Int.natCast_nonneg, and_self, Nat.reduceAdd, zz10] <;> exact rfl) ?_
  refine ow_op (by simp only [zl, zm, zd, partD, List.take, List.drop, Nat.one_ne_zero, true_or, true_and, u8_and _ u.hw, Int.natCast_nonneg, and_self, Nat.reduceAdd, zz10] <;> exact rfl) ?_
  refine ow_op (by simp only [zo, binD, zb, Int.reduceEq, Int.reduceToNat, Int.reduceLT, Nat.one_ne_zero, true_or, true_and, u8_and _ u.hw, Int.natCast_nonneg, and_self, Nat.reduceAdd, zz10] <;> exact rfl) ?_
  refine ow_op (by simp only [zo, binD, zb, Int.reduceEq, Int.reduceToNat, Int.reduceLT, Nat.one_ne_zero, true_or, true_and, u8_and _ u.hw, Int.natCast_nonneg, and_self, Nat.reduceAdd, zz10] <;> exact rfl) ?_
  refine ow_op (by simp only [zo, binD, zb, Int.reduceEq, Int.reduceToNat, Int.reduceLT, Nat.one_ne_zero, true_or, true_and, u8_and _ u.hw, Int.natCast_nonneg, and_self, Nat.reduceAdd, zz10] <;> exact rfl) ?_
  refine ow_nil ?_
  refine sk_n (by simp only [ze] <;> exact rfl) ?_
  refine cw_cond (by simp only [opd, zv, Nat.one_ne_zero, true_or, true_and, u8_and _ u.hw, Int.natCast_nonneg, and_self, Nat.reduceAdd, zz10] <;> exact rfl) (fun hcF => ?_) (fun hcF => ?_)
  ·
   refine cw_region ?_
   refine ow_me rfl ?_
   refine ow_op (by simp only [zl, zm, fillRows, List.replicate, snapVs, snaps, zs, zc, zf, Nat.one_ne_zero, true_or, true_and, u8_and _ u.hw, Int.natCast_nonneg, and_self, Nat.reduceAdd, zz10] <;> exact rfl) ?_
   refine ow_op (by simp only [zl, zm, appendD, appendRows, readRows_nils, readRows_sl, readRows_msl, List.isEmpty_cons, List.isEmpty_nil, reduceIte, Nat.one_ne_zero, true_or, true_and, u8_and _ u.hw, Int.natCast_nonneg, and_self, Nat.reduceAdd, zz10] <;> exact rfl) ?_
   refine ow_ml rfl ?_
   refine ow_nil ?_
   refine sk_n (by simp only [ze] <;> exact rfl) ?_
   refine cw_seq (cw_seq (cw_region ?_))
   refine ow_op (by simp only [zl, zm, zd, partD, List.take, List.drop, Nat.one_ne_zero, true_or, true_and, u8_and _ u.hw, Int.natCast_nonneg, and_self, Nat.reduceAdd, zz10] <;> exact rfl) ?_
   refine ow_op (by simp only [zo, Nat.one_ne_zero, true_or, true_and, u8_and _ u.hw, Int.natCast_nonneg, and_self, Nat.reduceAdd, zz10]; exact mode_run (by omega) _ _ _ _ u.hf) ?_
   refine ow_op (by simp only [zo, binD, zb, Int.reduceEq, Int.reduceToNat, Int.reduceLT, Nat.one_ne_zero, true_or, true_and, u8_and _ u.hw, Int.natCast_nonneg, and_self, Nat.reduceAdd, zz10] <;> exact rfl) ?_
   refine ow_nil ?_
   refine sk_n (by simp only [ze] <;> exact rfl) ?_
   refine cw_cond (by simp only [opd, zv, Nat.one_ne_zero, true_or, true_and, u8_and _ u.hw, Int.natCast_nonneg, and_self, Nat.reduceAdd, zz10] <;> exact rfl) (fun hcFT => ?_) (fun hcFT => ?_)
   ·
    refine cw_seq (cw_region ?_)
    refine ow_me rfl ?_
    refine ow_op (by simp only [zl, zm, fillRows, List.replicate, snapVs, snaps, zs, zc, zf, Nat.one_ne_zero, true_or, true_and, u8_and _ u.hw, Int.natCast_nonneg, and_self, Nat.reduceAdd, zz10] <;> exact rfl) ?_
    refine ow_op (by simp only [zl, zm, zd, partD, List.take, List.drop, Nat.one_ne_zero, true_or, true_and, u8_and _ u.hw, Int.natCast_nonneg, and_self, Nat.reduceAdd, zz10] <;> exact rfl) ?_
    refine ow_op (by simp only [zo, Nat.one_ne_zero, true_or, true_and, u8_and _ u.hw, Int.natCast_nonneg, and_self, Nat.reduceAdd, zz10]; exact mode_run (by omega) _ _ _ _ u.hf) ?_
    refine ow_op (by simp only [zl, zm, iaddrD_sl, iaddrD_msl, Int.toNat_natCast, Int.toNat_zero, List.getElem?_map, Option.map_some, Int.le_refl, Nat.one_ne_zero, true_or, true_and, u8_and _ u.hw, Int.natCast_nonneg, and_self, Nat.reduceAdd, zz10] <;> exact rfl) ?_
    refine ow_op (by simp only [zl, zm, zd, partD, List.take, List.drop, Nat.one_ne_zero, true_or, true_and, u8_and _ u.hw, Int.natCast_nonneg, and_self, Nat.reduceAdd, zz10] <;> exact rfl) ?_
    refine ow_op (by simp only [zl, zm, fillRows, List.replicate, snapVs, snaps, zs, zc, zf, Nat.one_ne_zero, true_or, true_and, u8_and _ u.hw, Int.natCast_nonneg, and_self, Nat.reduceAdd, zz10] <;> exact rfl) ?_
    refine ow_op (by simp only [zl, zm, appendD, appendRows, readRows_nils, readRows_sl, readRows_msl, List.isEmpty_cons, List.isEmpty_nil, reduceIte, Nat.one_ne_zero, true_or, true_and, u8_and _ u.hw, Int.natCast_nonneg, and_self, Nat.reduceAdd, zz10] <;> exact rfl) ?_
    refine ow_ml rfl ?_
    refine ow_nil ?_
    refine sk_n (by simp only [ze] <;> exact rfl) ?_
    refine cw_ret (sk_r ?_)
    have q0 : u.w % 2 ≠ 1 := by intro h; rw [h] at hc; simp at hc
    have q1 : u.w / 4 % 2 = 1 := by have := beq_iff_eq.1 hcF; omega
    have q2 : modeF u.f u.m > 0 := by have := of_decide_eq_true hcFT; omega
    refine ⟨_, by simp only [F16, resultD, resDs, resD, zg, zd, rowsOf, partD, List.take, List.drop, zm] <;> exact rfl, ?_⟩
    unfold textF
    rw [if_neg q0, if_pos q1, if_pos q2]
    refine (leaveP_app rfl (by simp [strRows_len]; try omega)).trans ?_
    simp [strRows, wAFTER, wSTANDARD, wPROCEDURE, wON, wERROR, wEXCEPTION]
   ·
    have hne : (strRows (namesF u.f)).isEmpty = false := by
     have h0 := of_decide_eq_false hcFT
     cases hn : namesF u.f with
     | nil => exfalso; simp [modeF, hn] at h0; omega
     | cons a l => rfl
    refine cw_skip (sk_n rfl (cw_seq (cw_region ?_)))
    refine ow_me rfl ?_
    refine ow_op (by simp only [zl, zm, zd, partD, List.take, List.drop, Nat.one_ne_zero, true_or, true_and, u8_and _ u.hw, Int.natCast_nonneg, and_self, Nat.reduceAdd, zz10, hne] <;> exact rfl) ?_
    refine ow_op (by simp only [zo, Nat.one_ne_zero, true_or, true_and, u8_and _ u.hw, Int.natCast_nonneg, and_self, Nat.reduceAdd, zz10, hne]; exact names_run (by omega) _ _ _ _ u.hf) ?_
    refine ow_op (by simp only [zl, zm, appendD, appendRows, readRows_nils, readRows_sl, readRows_msl, List.isEmpty_cons, List.isEmpty_nil, reduceIte, Nat.one_ne_zero, true_or, true_and, u8_and _ u.hw, Int.natCast_nonneg, and_self, Nat.reduceAdd, zz10, hne] <;> exact rfl) ?_
    refine ow_ml rfl ?_
    refine ow_nil ?_
    refine sk_n (by simp only [ze] <;> exact rfl) ?_
    refine cw_ret ?_
    have q0 : u.w % 2 ≠ 1 := by intro h; rw [h] at hc; simp at hc
    have q1 : u.w / 4 % 2 = 1 := by have := beq_iff_eq.1 hcF; omega
    have q2 : ¬ modeF u.f u.m > 0 := by have := of_decide_eq_false hcFT; omega
    refine ⟨_, by simp only [F16, resultD, resDs, resD, zg, zd, rowsOf, partD, List.take, List.drop, zm] <;> exact rfl, ?_⟩
    unfold textF
    rw [if_neg q0, if_pos q1, if_neg q2]
    refine (leaveP_app rfl (by simp [strRows_len]; try omega)).trans ?_
    simp [strRows, wAFTER, wSTANDARD, wPROCEDURE, wON, wERROR, wEXCEPTION]
  ·
   refine cw_skip (sk_n rfl (cw_seq (cw_seq (cw_region ?_))))
   refine ow_op (by simp only [zl, zm, zd, partD, List.take, List.drop, Nat.one_ne_zero, true_or, true_and, u8_and _ u.hw, Int.natCast_nonneg, and_self, Nat.reduceAdd, zz10] <;> exact rfl) ?_
   refine ow_op (by simp only [zo, Nat.one_ne_zero, true_or, true_and, u8_and _ u.hw, Int.natCast_nonneg, and_self, Nat.reduceAdd, zz10]; exact mode_run (by omega) _ _ _ _ u.hf) ?_
   refine ow_op (by simp only [zo, binD, zb, Int.reduceEq, Int.reduceToNat, Int.reduceLT, Nat.one_ne_zero, true_or, true_and, u8_and _ u.hw, Int.natCast_nonneg, and_self, Nat.reduceAdd, zz10] <;> exact rfl) ?_
   refine ow_nil ?_
   refine sk_n (by simp only [ze] <;> exact rfl) ?_
   refine cw_cond (by simp only [opd, zv, Nat.one_ne_zero, true_or, true_and, u8_and _ u.hw, Int.natCast_nonneg, and_self, Nat.reduceAdd, zz10] <;> exact rfl) (fun hcFF => ?_) (fun hcFF => ?_)
   ·
    refine cw_seq (cw_region ?_)
    refine ow_me rfl ?_
    refine ow_op (by simp only [zl, zm, fillRows, List.replicate, snapVs, snaps, zs, zc, zf, Nat.one_ne_zero, true_or, true_and, u8_and _ u.hw, Int.natCast_nonneg, and_self, Nat.reduceAdd, zz10] <;> exact rfl) ?_
    refine ow_op (by simp only [zl, zm, zd, partD, List.take, List.drop, Nat.one_ne_zero, true_or, true_and, u8_and _ u.hw, Int.natCast_nonneg, and_self, Nat.reduceAdd, zz10] <;> exact rfl) ?_
    refine ow_op (by simp only [zo, Nat.one_ne_zero, true_or, true_and, u8_and _ u.hw, Int.natCast_nonneg, and_self, Nat.reduceAdd, zz10]; exact mode_run (by omega) _ _ _ _ u.hf) ?_
    refine ow_op (by simp only [zl, zm, iaddrD_sl, iaddrD_msl, Int.toNat_natCast, Int.toNat_zero, List.getElem?_map, Option.map_some, Int.le_refl, Nat.one_ne_zero, true_or, true_and, u8_and _ u.hw, Int.natCast_nonneg, and_self, Nat.reduceAdd, zz10] <;> exact rfl) ?_
    refine ow_op (by simp only [zl, zm, zd, partD, List.take, List.drop, Nat.one_ne_zero, true_or, true_and, u8_and _ u.hw, Int.natCast_nonneg, and_self, Nat.reduceAdd, zz10] <;> exact rfl) ?_
    refine ow_op (by simp only [zl, zm, fillRows, List.replicate, snapVs, snaps, zs, zc, zf, Nat.one_ne_zero, true_or, true_and, u8_and _ u.hw, Int.natCast_nonneg, and_self, Nat.reduceAdd, zz10] <;> exact rfl) ?_
    refine ow_op (by simp only [zl, zm, appendD, appendRows, readRows_nils, readRows_sl, readRows_msl, List.isEmpty_cons, List.isEmpty_nil, reduceIte, Nat.one_ne_zero, true_or, true_and, u8_and _ u.hw, Int.natCast_nonneg, and_self, Nat.reduceAdd, zz10] <;> exact rfl) ?_
    refine ow_ml rfl ?_
    refine ow_nil ?_
    refine sk_n (by simp only [ze] <;> exact rfl) ?_
    refine cw_ret (sk_r ?_)
    have q0 : u.w % 2 ≠ 1 := by intro h; rw [h] at hc; simp at hc
    have q1 : u.w / 4 % 2 ≠ 1 := by intro h; rw [h] at hcF; simp at hcF
    have q2 : modeF u.f u.m > 0 := by have := of_decide_eq_true hcFF; omega
    refine ⟨_, by simp only [F16, resultD, resDs, resD, zg, zd, rowsOf, partD, List.take, List.drop, zm] <;> exact rfl, ?_⟩
    unfold textF
    rw [if_neg q0, if_neg q1, if_pos q2]
    refine (leaveP_app rfl (by simp [strRows_len]; try omega)).trans ?_
    simp [strRows, wAFTER, wSTANDARD, wPROCEDURE, wON, wERROR, wEXCEPTION]
   ·
    have hne : (strRows (namesF u.f)).isEmpty = false := by
     have h0 := of_decide_eq_false hcFF
     cases hn : namesF u.f with
     | nil => exfalso; simp [modeF, hn] at h0; omega
     | cons a l => rfl
    refine cw_skip (sk_n rfl (cw_seq (cw_region ?_)))
    refine ow_me rfl ?_
    refine ow_op (by simp only [zl, zm, zd, partD, List.take, List.drop, Nat.one_ne_zero, true_or, true_and, u8_and _ u.hw, Int.natCast_nonneg, and_self, Nat.reduceAdd, zz10, hne] <;> exact rfl) ?_
    refine ow_op (by simp only [zo, Nat.one_ne_zero, true_or, true_and, u8_and _ u.hw, Int.natCast_nonneg, and_self, Nat.reduceAdd, zz10, hne]; exact names_run (by omega) _ _ _ _ u.hf) ?_
    refine ow_op (by simp only [zl, zm, appendD, appendRows, readRows_nils, readRows_sl, readRows_msl, List.isEmpty_cons, List.isEmpty_nil, reduceIte, Nat.one_ne_zero, true_or, true_and, u8_and _ u.hw, Int.natCast_nonneg, and_self, Nat.reduceAdd, zz10, hne] <;> exact rfl) ?_
    refine ow_ml rfl ?_
    refine ow_nil ?_
    refine sk_n (by simp only [ze] <;> exact rfl) ?_
    refine cw_ret ?_
    have q0 : u.w % 2 ≠ 1 := by intro h; rw [h] at hc; simp at hc
    have q1 : u.w / 4 % 2 ≠ 1 := by intro h; rw [h] at hcF; simp at hcF
    have q2 : ¬ modeF u.f u.m > 0 := by have := of_decide_eq_false hcFF; omega
    refine ⟨_, by simp only [F16, resultD, resDs, resD, zg, zd, rowsOf, partD, List.take, List.drop, zm] <;> exact rfl, ?_⟩
    unfold textF
    rw [if_neg q0, if_neg q1, if_neg q2]
    refine (leaveP_app rfl (by simp [strRows_len]; try omega)).trans ?_
    simp [strRows, wAFTER, wSTANDARD, wPROCEDURE, wON, wERROR, wEXCEPTION]

end Go.Proofs.YtcogjcplldpkaaaGreat

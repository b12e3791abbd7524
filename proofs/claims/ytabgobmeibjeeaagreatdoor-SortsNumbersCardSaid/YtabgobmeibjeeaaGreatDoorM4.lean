/- Proved here: parts of the proof, joined (Low1, Low2, Low, S0, S1): an abstract machine, its soundness, what functions of the program compute in it; no condition. -/
import Derived.Test.YtabgobmeibjeeaaGreatDoorM3
namespace Go.Proofs.YtabgobmeibjeeaaGreatDoor
set_option maxRecDepth 100000
set_option maxHeartbeats 4000000
set_option linter.unusedVariables false

def F3 : LFunc := ⟨[0, 1, 4, 5, 6, 7, 8, 9, 10, 13, 43], 2,
.seq (.region [qo .mv [.const (.bool false)]] [(2, 0)])
(.seq (.seq (.region [qo .mv [.env 1],
qo (.len false) [.loc 0],
qo (.bin .gtr) [.loc 0, .const (.int .i64 60)]] [(9, 0)])
(.cond (.env 9) (.seq (.region [qo (.call 9) [],
qo .mv [.loc 0]] [(2, 0)])
(.ret)) (.skip)))
(.seq (.region [qo .mv [.env 0],
qo (.call 10) [.loc 0],
qo .mv [.loc 0]] [(3, 0)])
(.seq (.region [qo .mv [.env 1],
qo (.call 11) [.loc 0],
qo .mv [.loc 0]] [(4, 0)])
(.seq (.region [qo .mv [.env 3],
qo .mv [.env 4],
qo (.call 12) [.loc 1, .const (.int .i64 6), .loc 0],
qo .mv [.loc 0],
qo (.extract 0) [.loc 0],
qo (.extract 1) [.loc 1],
qo .mv [.loc 1],
qo .mv [.loc 1]] [(5, 1), (6, 0)])
(.seq (.region [qo .mv [.env 3],
qo .mv [.env 5],
qo (.call 12) [.loc 1, .const (.int .i64 6), .loc 0],
qo .mv [.loc 0],
qo (.extract 0) [.loc 0],
qo (.extract 1) [.loc 1],
qo .mv [.loc 1],
qo .mv [.loc 1]] [(7, 1), (8, 0)])
(.seq (.seq (.region [qo .mv [.env 6],
qo (.bin .neq) [.loc 0, .const (.int .i64 0)],
qo .mv [.loc 0],
qg .mv [.env 8] 0 false,
qg (.bin .neq) [.loc 0, .const (.int .i64 0)] 1 false,
qo .pick [.loc 2, .const (.bool true), .loc 0],
qo .mv [.loc 0],
qg .mv [.env 5] 0 false,
qg .cap [.loc 0] 1 false,
qg .mv [.env 5] 2 false,
qg (.len false) [.loc 0] 3 false,
qg (.bin .neq) [.loc 2, .loc 0] 4 false,
qo .pick [.loc 5, .const (.bool true), .loc 0]] [(10, 0)])
(.cond (.env 10) (.seq (.region [qo .mv [.const (.bool false)]] [(2, 0)])
(.ret)) (.skip)))
(.seq (.region [qo .mv [.env 5],
qo .mv [.env 3],
qo .mv [.env 4],
qo (.call 14) [.loc 1, .loc 0],
qo (.call 13) [.loc 3, .loc 0],
qo .mv [.loc 0],
qg .mv [.env 7] 0 true,
qg .mv [.env 5] 1 true,
qg (.call 13) [.loc 1, .loc 0] 2 true,
qo .pick [.loc 3, .loc 0, .const (.bool false)],
qo .mv [.loc 0],
qg .mv [.env 4] 0 true,
qg .mv [.env 1] 1 true,
qg (.call 11) [.loc 0] 2 true,
qg (.call 13) [.loc 2, .loc 0] 3 true,
qo .pick [.loc 4, .loc 0, .const (.bool false)],
qo .mv [.loc 0],
qg (.call 9) [] 0 true,
qo .pick [.loc 1, .loc 0, .const (.bool false)],
qo .mv [.loc 0]] [(2, 0)])
(.ret)))))))),
[.tmp 2]⟩
theorem F3_low : lowFn Tryz.prog false [0, 1, 4, 5, 6, 7, 8, 9, 10, 13, 43] Tryz.f3 = some F3 := by as_aux_lemma => kernel_rfl
def F4 : LFunc := ⟨[0, 1, 3, 4, 5, 6, 7, 8, 9, 10, 14, 18, 49, 86], 2,
.seq (.region [qo (.box 38 3) [.env 1],
qo .mv [.const (.bool false)]] [(2, 1), (3, 0)])
(.seq (.region [qo .mv [.env 0],
qo (.call 10) [.loc 0],
qo .mv [.loc 0]] [(4, 0)])
(.seq (.region [qo (.alloc 40 [.int .i64 0, .int .i64 0, .int .i64 0, .int .i64 0, .int .i64 0, .int .i64 0, .int .i64 0, .int .i64 0, .int .i64 0]) []] [(5, 0)])
(.seq (.seq (.region [qo .mv [.const (.int .i64 0)]] [(6, 0)])
(.block 0 (.loop (.seq (.seq (.region [qo .mv [.env 6],
qo (.bin .lss) [.loc 0, .const (.int .i64 3)]] [(10, 0)])
(.cond (.env 10) (.skip) (.exit 0)))
(.seq (.block 1 (.seq (.region [qo .mv [.const (.int .i64 0)]] [(7, 0)])
(.block 2 (.loop (.seq (.seq (.region [qo .mv [.env 7],
qo (.bin .lss) [.loc 0, .const (.int .i64 3)]] [(11, 0)])
(.cond (.env 11) (.skip) (.exit 2)))
(.seq (.block 3 (.seq (.drawn [qo .mv [.env 4],
qw .mv [.env 6] 0 1,
qw (.aaddr 1 3) [.env 2, .loc 0] 2 2,
qw (.load 1 false) [.loc 0] 6 3,
qw (.call 16) [.loc 0] 14 4,
qw .mv [.env 7] 0 5,
qw (.aaddr 1 3) [.env 2, .loc 0] 32 6,
qw (.load 1 false) [.loc 0] 96 7,
qw (.call 16) [.loc 0] 254 8,
qw (.call 15) [.loc 8, .const (.int .i64 6), .loc 4, .loc 0] 511 9,
qw .mv [.loc 0] 1023 10,
qw (.extract 0) [.loc 0] 2047 11,
qw (.extract 1) [.loc 1] 2047 12,
qw .mv [.loc 1] 4095 13,
qw .mv [.loc 1] 16383 14] [(8, 1), (9, 0)] [])
(.seq (.seq (.drawn [qo .mv [.env 9],
qw (.bin .neq) [.loc 0, .const (.int .i64 0)] 1 1,
qw .mv [.loc 0] 3 2,
qh .mv [.env 8] 0 false 7 3,
qh .mv [.env 4] 1 false 7 4,
qh .mv [.env 6] 2 false 7 5,
qh (.aaddr 1 3) [.env 2, .loc 0] 3 false 39 6,
qh (.load 1 false) [.loc 0] 4 false 103 7,
qh (.call 16) [.loc 0] 5 false 231 8,
qh .mv [.env 7] 6 false 7 9,
qh (.aaddr 1 3) [.env 2, .loc 0] 7 false 519 10,
qh (.load 1 false) [.loc 0] 8 false 1543 11,
qh (.call 16) [.loc 0] 9 false 4071 12,
qh (.call 17) [.loc 8, .loc 4, .loc 0] 10 false 8183 13,
qh (.bin .neq) [.loc 10, .loc 0] 11 false 16383 14,
qw .pick [.loc 12, .const (.bool true), .loc 0] 32767 15] [(12, 0)] [])
(.cond (.env 12) (.seq (.region [qo .mv [.const (.bool false)]] [(3, 0)])
(.ret)) (.skip)))
(.region [qo .mv [.env 6],
qo .mv [.env 7],
qo .mv [.env 8],
qo (.aaddr 3 3) [.env 5, .loc 2],
qo (.aaddr 1 3) [.loc 0, .loc 2],
qo (.store 1) [.loc 0, .loc 2]] []))))
(.region [qo .mv [.env 7],
qo (.bin .add) [.loc 0, .const (.int .i64 1)],
qo .mv [.loc 0]] [(7, 0)])))))))
(.region [qo .mv [.env 6],
qo (.bin .add) [.loc 0, .const (.int .i64 1)],
qo .mv [.loc 0]] [(6, 0)]))))))
(.seq (.seq (.region [qo (.aaddr 3 3) [.env 5, .const (.int .i64 0)],
qo (.aaddr 1 3) [.loc 0, .const (.int .i64 1)],
qo (.load 1 false) [.loc 0],
qo (.aaddr 3 3) [.env 5, .const (.int .i64 1)],
qo (.aaddr 1 3) [.loc 0, .const (.int .i64 0)],
qo (.load 1 false) [.loc 0],
qo (.un .neg) [.loc 0],
qo (.bin .neq) [.loc 4, .loc 0],
qo .mv [.loc 0],
qg (.aaddr 3 3) [.env 5, .const (.int .i64 0)] 0 false,
qg (.aaddr 1 3) [.loc 0, .const (.int .i64 0)] 1 false,
qg (.load 1 false) [.loc 0] 2 false,
qg (.bin .neq) [.loc 0, .const (.int .i64 0)] 3 false,
qo .pick [.loc 4, .const (.bool true), .loc 0],
qo .mv [.loc 0],
qg (.aaddr 3 3) [.env 5, .const (.int .i64 0)] 0 false,
qg (.aaddr 1 3) [.loc 0, .const (.int .i64 1)] 1 false,
qg (.load 1 false) [.loc 0] 2 false,
qg (.bin .leq) [.loc 0, .const (.int .i64 0)] 3 false,
qg .mv [.loc 0] 4 false,
qg (.aaddr 3 3) [.env 5, .const (.int .i64 1)] 0 true,
qg (.aaddr 1 3) [.loc 0, .const (.int .i64 2)] 1 true,
qg (.load 1 false) [.loc 0] 2 true,
qg (.bin .leq) [.loc 0, .const (.int .i64 0)] 3 true,
qg .pick [.loc 4, .loc 0, .const (.bool false)] 9 false,
qg .mv [.loc 0] 10 false,
qg (.aaddr 3 3) [.env 5, .const (.int .i64 0)] 0 true,
qg (.aaddr 1 3) [.loc 0, .const (.int .i64 2)] 1 true,
qg (.load 1 false) [.loc 0] 2 true,
qg (.bin .gtr) [.loc 0, .const (.int .i64 0)] 3 true,
qg .pick [.loc 4, .loc 0, .const (.bool false)] 15 false,
qo .pick [.loc 16, .const (.bool true), .loc 0]] [(13, 0)])
(.cond (.env 13) (.seq (.region [qo .mv [.const (.bool false)]] [(3, 0)])
(.ret)) (.skip)))
(.seq (.region [qo (.call 9) [],
qo .mv [.loc 0]] [(3, 0)])
(.ret)))))),
[.tmp 3]⟩
theorem F4_low : lowFn Tryz.prog true [0, 1, 3, 4, 5, 6, 7, 8, 9, 10, 14, 18, 49, 86] Tryz.f4 = some F4 := by as_aux_lemma => kernel_rfl
def F5 : LFunc := ⟨[0, 1, 2, 6, 7, 8, 9, 11, 12, 13, 14, 15, 16, 17, 33, 34, 42, 80, 83, 84], 3,
.seq (.region [qo .mv [.const (.bool false)]] [(3, 0)])
(.seq (.region [qo .mv [.env 0],
qo (.conv .i64) [.loc 0],
qo (.bin .rem) [.loc 0, .const (.int .i64 1000)],
qo .mv [.env 1],
qo (.conv .i64) [.loc 0],
qo (.bin .rem) [.loc 0, .const (.int .i64 1000)],
qo .mv [.loc 3],
qo .mv [.loc 1]] [(4, 1), (5, 0)])
(.seq (.region [qo (.call 18) [.const (.str ⟨#[83, 57, 57, 57]⟩)],
qo .mv [.loc 0],
qo (.extract 0) [.loc 0],
qo (.extract 1) [.loc 1],
qo (.alloc 51 [.int .u8 0, .int .u8 0, .str ⟨#[]⟩, .int .i64 0, .int .i64 0, .bool false, .bool false, .bool false, .bool false, .bool false, .int .i64 0]) [],
qo (.store 11) [.loc 0, .loc 2],
qo .mv [.loc 2]] [(6, 2)])
(.seq (.region [qo .mv [.env 4],
qo (.call 19) [.loc 0],
qo .mv [.env 5],
qo (.call 19) [.loc 0],
qo .mv [.loc 2],
qo .mv [.loc 1]] [(7, 1), (8, 0)])
(.seq (.seq (.region [qo .mv [.env 2],
qo (.bin .rem) [.loc 0, .const (.int .u8 3)]] [(14, 0)])
(.block 0 (.seq (.region [qo (.bin .eql) [.env 14, .const (.int .u8 1)],
qo .mv [.loc 0]] [(15, 0)])
(.cond (.env 15) (.seq (.region [qo (.faddr 1) [.env 6],
qo (.store 1) [.loc 0, .const (.int .u8 1)]] [])
(.seq (.region [qo (.faddr 10) [.env 6],
qo (.store 1) [.loc 0, .const (.int .i64 2)]] [])
(.region [qo .mv [.env 4],
qo (.call 20) [.loc 0],
qo .mv [.env 5],
qo (.call 20) [.loc 0],
qo .mv [.loc 2],
qo .mv [.loc 1]] [(7, 1), (8, 0)]))) (.seq (.region [⟨.bin .eql, [.env 14, .const (.int .u8 2)], none, [], none⟩,
qo .mv [.loc 0]] [(16, 0)])
(.cond (.env 16) (.seq (.region [qo (.faddr 1) [.env 6],
qo (.store 1) [.loc 0, .const (.int .u8 2)]] [])
(.seq (.region [qo (.faddr 10) [.env 6],
qo (.store 1) [.loc 0, .const (.int .i64 2)]] [])
(.region [qo .mv [.env 4],
qo (.bin .shr) [.loc 0, .const (.int .u64 8)],
qo (.conv .u8) [.loc 0],
qo .mv [.env 4],
qo (.conv .u8) [.loc 0],
qo (.bslice 5 1 2 [.int .u8 0] [0, 1] 1) [.loc 2, .loc 0],
qo .mv [.env 5],
qo (.bin .shr) [.loc 0, .const (.int .u64 8)],
qo (.conv .u8) [.loc 0],
qo .mv [.env 5],
qo (.conv .u8) [.loc 0],
qo (.bslice 5 1 2 [.int .u8 0] [0, 1] 1) [.loc 2, .loc 0],
qo .mv [.loc 6],
qo .mv [.loc 1]] [(7, 1), (8, 0)]))) (.skip)))))))
(.seq (.region [qo .mv [.env 2],
qo (.bin .quo) [.loc 0, .const (.int .u8 3)],
qo (.bin .rem) [.loc 0, .const (.int .u8 2)],
qo (.bin .eql) [.loc 0, .const (.int .u8 1)],
qo .mv [.loc 0]] [(9, 0)])
(.seq (.region [qo (.faddr 10) [.env 6],
qo (.load 1 false) [.loc 0],
qo (.build [.int .i64 0, .int .i64 0] [(1, 1)]) [.loc 0],
qo (.load 11 true) [.env 6],
qo .mv [.env 9],
qo (.build [.int .i64 0, .int .i64 0, .int .u8 0, .int .u8 0, .str ⟨#[]⟩, .int .i64 0, .int .i64 0, .bool false, .bool false, .bool false, .bool false, .bool false, .int .i64 0, .bool false] [(0, 2), (2, 11), (13, 1)]) [.loc 2, .loc 1, .loc 0],
qo (.bslice 59 14 1 [.int .i64 0, .int .i64 0, .int .u8 0, .int .u8 0, .str ⟨#[]⟩, .int .i64 0, .int .i64 0, .bool false, .bool false, .bool false, .bool false, .bool false, .int .i64 0, .bool false] [0] 1) [.loc 0],
qo .mv [.loc 0]] [(10, 0)])
(.seq (.region [qo .mv [.env 10],
qo (.faddr 10) [.env 6],
qo (.load 1 false) [.loc 0],
qo .mv [.env 7],
qo .mv [.env 8],
qo (.call 15) [.loc 4, .loc 2, .loc 1, .loc 0],
qo .mv [.loc 0],
qo (.extract 0) [.loc 0],
qo (.extract 1) [.loc 1],
qo .mv [.loc 1],
qo .mv [.loc 1]] [(11, 1), (12, 0)])
(.seq (.region [qo .mv [.const (.int .i64 0)]] [(13, 0)])
(.seq (.seq (.region [qo .mv [.env 4],
qo .mv [.env 5],
qo (.bin .lss) [.loc 1, .loc 0]] [(17, 0)])
(.cond (.env 17) (.region [qo .mv [.const (.int .i64 (-1))]] [(13, 0)]) (.seq (.region [⟨.mv, [.env 4], none, [], none⟩,
qo .mv [.env 5],
qo (.bin .gtr) [.loc 1, .loc 0]] [(18, 0)])
(.cond (.env 18) (.region [qo .mv [.const (.int .i64 1)]] [(13, 0)]) (.skip)))))
(.seq (.seq (.region [qo .mv [.env 9]] [(19, 0)])
(.cond (.env 19) (.region [qo .mv [.env 13],
qo (.un .neg) [.loc 0],
qo .mv [.loc 0]] [(13, 0)]) (.skip)))
(.seq (.region [qo .mv [.env 12],
qo (.bin .eql) [.loc 0, .const (.int .i64 0)],
qo .mv [.loc 0],
qg .mv [.env 11] 0 true,
qg .mv [.env 13] 1 true,
qg (.bin .eql) [.loc 1, .loc 0] 2 true,
qo .pick [.loc 3, .loc 0, .const (.bool false)],
qo .mv [.loc 0],
qg (.call 9) [] 0 true,
qo .pick [.loc 1, .loc 0, .const (.bool false)],
qo .mv [.loc 0]] [(3, 0)])
(.ret)))))))))))),
[.tmp 3]⟩
theorem F5_low : lowFn Tryz.prog false [0, 1, 2, 6, 7, 8, 9, 11, 12, 13, 14, 15, 16, 17, 33, 34, 42, 80, 83, 84] Tryz.f5 = some F5 := by as_aux_lemma => kernel_rfl
def F6 : LFunc := ⟨[0, 1, 2, 6, 7, 8, 9, 10, 11, 12, 13, 14, 17, 24, 32, 40, 66], 3,
.seq (.region [qo .mv [.const (.bool false)]] [(3, 0)])
(.seq (.seq (.region [qo .mv [.env 1],
qo (.len false) [.loc 0],
qo (.bin .gtr) [.loc 0, .const (.int .i64 4)]] [(12, 0)])
(.cond (.env 12) (.seq (.region [qo (.call 9) [],
qo .mv [.loc 0]] [(3, 0)])
(.ret)) (.skip)))
(.seq (.region [qo .mv [.env 0],
qo (.call 10) [.loc 0],
qo .mv [.loc 0]] [(4, 0)])
(.seq (.region [qo .mv [.const (.nils)]] [(5, 0)])
(.seq (.region [qo .mv [.const (.nils)]] [(6, 0)])
(.seq (.region [qo .mv [.const (.bool true)]] [(7, 0)])
(.seq (.seq (.region [qo .mv [.const (.int .i64 0)]] [(8, 0)])
(.block 0 (.loop (.seq (.seq (.region [qo .mv [.env 8],
qo .mv [.env 1],
qo (.len false) [.loc 0],
qo (.bin .lss) [.loc 2, .loc 0]] [(13, 0)])
(.cond (.env 13) (.skip) (.exit 0)))
(.seq (.block 1 (.seq (.seq (.region [qo .mv [.env 1],
qo .mv [.env 8],
qo (.iaddr 1) [.loc 1, .loc 0],
qo (.load 1 false) [.loc 0],
qo (.len false) [.loc 0],
qo (.bin .gtr) [.loc 0, .const (.int .i64 20)]] [(14, 0)])
(.cond (.env 14) (.seq (.region [qo (.call 9) [],
qo .mv [.loc 0]] [(3, 0)])
(.ret)) (.skip)))
(.seq (.region [qo .mv [.env 1],
qo .mv [.env 8],
qo (.iaddr 1) [.loc 1, .loc 0],
qo (.load 1 false) [.loc 0],
qo (.call 11) [.loc 0],
qo .mv [.loc 0]] [(9, 0)])
(.seq (.seq (.region [qo .mv [.env 2],
qo (.un .not) [.loc 0]] [(15, 0)])
(.cond (.env 15) (.region [qo .mv [.env 4],
qo .mv [.env 9],
qo (.call 14) [.loc 1, .loc 0],
qo .mv [.loc 0]] [(9, 0)]) (.skip)))
(.seq (.region [qo .mv [.env 7],
qo .mv [.loc 0],
qg .mv [.env 9] 0 true,
qg .mv [.env 4] 1 true,
qg .mv [.env 9] 2 true,
qg (.call 14) [.loc 1, .loc 0] 3 true,
qg (.call 13) [.loc 3, .loc 0] 4 true,
qo .pick [.loc 5, .loc 0, .const (.bool false)],
qo .mv [.loc 0]] [(7, 0)])
(.seq (.region [qo .mv [.env 5],
qo .mv [.env 9],
qo (.bslice 28 1 1 [.nils] [0] 1) [.loc 0],
qo (.append 28 1 24 1) [.loc 2, .loc 0],
qo .mv [.loc 0]] [(5, 0)])
(.region [qo .mv [.env 6],
qo .mv [.env 9],
qo (.append 43 1 24 1) [.loc 1, .loc 0],
qo .mv [.loc 0]] [(6, 0)])))))))
(.region [qo .mv [.env 8],
qo (.bin .add) [.loc 0, .const (.int .i64 1)],
qo .mv [.loc 0]] [(8, 0)]))))))
(.seq (.region [qo .mv [.env 4],
qo .mv [.env 5],
qo (.call 21) [.loc 1, .const (.int .i64 6), .loc 0],
qo .mv [.loc 0],
qo (.extract 0) [.loc 0],
qo (.extract 1) [.loc 1],
qo .mv [.loc 1],
qo .mv [.loc 1]] [(10, 1), (11, 0)])
(.seq (.seq (.region [qo .mv [.env 7],
qo (.un .not) [.loc 0]] [(16, 0)])
(.cond (.env 16) (.seq (.region [qo .mv [.env 11],
qo (.bin .eql) [.loc 0, .const (.int .i64 6)],
qo .mv [.loc 0],
qg .mv [.env 10] 0 true,
qg (.len false) [.loc 0] 1 true,
qg (.bin .eql) [.loc 0, .const (.int .i64 0)] 2 true,
qo .pick [.loc 3, .loc 0, .const (.bool false)],
qo .mv [.loc 0],
qg (.call 9) [] 0 true,
qo .pick [.loc 1, .loc 0, .const (.bool false)],
qo .mv [.loc 0]] [(3, 0)])
(.ret)) (.skip)))
(.seq (.region [qo .mv [.env 11],
qo (.bin .eql) [.loc 0, .const (.int .i64 0)],
qo .mv [.loc 0],
qg .mv [.env 10] 0 true,
qg .mv [.env 4] 1 true,
qg .mv [.env 6] 2 true,
qg (.call 14) [.loc 1, .loc 0] 3 true,
qg (.call 13) [.loc 3, .loc 0] 4 true,
qo .pick [.loc 5, .loc 0, .const (.bool false)],
qo .mv [.loc 0],
qg .mv [.env 10] 0 true,
qg .cap [.loc 0] 1 true,
qg .mv [.env 10] 2 true,
qg (.len false) [.loc 0] 3 true,
qg (.bin .eql) [.loc 2, .loc 0] 4 true,
qo .pick [.loc 5, .loc 0, .const (.bool false)],
qo .mv [.loc 0],
qg (.call 9) [] 0 true,
qo .pick [.loc 1, .loc 0, .const (.bool false)],
qo .mv [.loc 0]] [(3, 0)])
(.ret)))))))))),
[.tmp 3]⟩
theorem F6_low : lowFn Tryz.prog false [0, 1, 2, 6, 7, 8, 9, 10, 11, 12, 13, 14, 17, 24, 32, 40, 66] Tryz.f6 = some F6 := by as_aux_lemma => kernel_rfl
def F7 : LFunc := ⟨[0, 1, 2, 6, 7, 8, 9, 10, 11, 12, 13, 14, 15, 16, 17, 18, 19, 27, 37, 41, 48, 56, 61, 91, 92, 95, 105, 127, 129, 135, 150, 152, 156, 166, 171], 3,
.seq (.region [qo .mv [.const (.bool false)]] [(3, 0)])
(.seq (.seq (.region [qo .mv [.env 1],
qo (.len false) [.loc 0],
qo (.bin .gtr) [.loc 0, .const (.int .i64 60)],
qo .mv [.loc 0],
qg .mv [.env 2] 0 false,
qg (.len false) [.loc 0] 1 false,
qg (.bin .gtr) [.loc 0, .const (.int .i64 60)] 2 false,
qo .pick [.loc 3, .const (.bool true), .loc 0]] [(17, 0)])
(.cond (.env 17) (.seq (.region [qo (.call 9) [],
qo .mv [.loc 0]] [(3, 0)])
(.ret)) (.skip)))
(.seq (.region [qo .mv [.env 0],
qo (.call 10) [.loc 0],
qo .mv [.loc 0]] [(4, 0)])
(.seq (.region [qo .mv [.env 4],
qo (.call 22) [.loc 0, .const (.int .i64 6)],
qo .mv [.loc 0],
qo (.extract 0) [.loc 0],
qo (.extract 1) [.loc 1],
qo .mv [.loc 1],
qo .mv [.loc 1]] [(5, 1), (6, 0)])
(.seq (.region [qo .mv [.const (.nils)]] [(7, 0)])
(.seq (.region [qo .mv [.const (.bool false)]] [(8, 0)])
(.seq (.seq (.region [qo .mv [.env 6],
qo (.bin .neq) [.loc 0, .const (.int .i64 0)]] [(18, 0)])
(.cond (.env 18) (.seq (.region [qo .mv [.const (.bool false)]] [(3, 0)])
(.ret)) (.skip)))
(.seq (.region [qo .mv [.const (.int .i64 0)]] [(9, 0)])
(.seq (.seq (.region [qo .mv [.const (.int .i64 0)]] [(10, 0)])
(.block 0 (.loop (.seq (.seq (.region [qo .mv [.env 10],
qo .mv [.env 2],
qo (.len false) [.loc 0],
qo (.bin .lss) [.loc 2, .loc 0]] [(19, 0)])
(.cond (.env 19) (.skip) (.exit 0)))
(.seq (.block 1 (.seq (.seq (.region [qo .mv [.env 2],
qo .mv [.env 10],
qo (.iaddr 1) [.loc 1, .loc 0],
qo (.load 1 false) [.loc 0],
qo (.bin .rem) [.loc 0, .const (.int .u8 8)]] [(20, 0)])
(.block 2 (.seq (.seq (.region [qo (.bin .eql) [.env 20, .const (.int .u8 0)],
qo .mv [.loc 0]] [(25, 0)])
(.cond (.env 25) (.skip) (.seq (.region [qo (.bin .eql) [.env 20, .const (.int .u8 1)],
qo .mv [.loc 0]] [(25, 0)])
(.cond (.env 25) (.skip) (.seq (.region [qo (.bin .eql) [.env 20, .const (.int .u8 2)],
qo .mv [.loc 0]] [(25, 0)])
(.cond (.env 25) (.skip) (.region [qo (.bin .eql) [.env 20, .const (.int .u8 3)],
qo .mv [.loc 0]] [(25, 0)])))))))
(.cond (.env 25) (.seq (.region [qo .mv [.env 10],
qo (.conv .u32) [.loc 0],
qo .mv [.loc 0]] [(11, 0)])
(.seq (.seq (.region [qo .mv [.env 9],
qo .mv [.env 1],
qo (.len false) [.loc 0],
qo (.bin .lss) [.loc 2, .loc 0]] [(26, 0)])
(.cond (.env 26) (.seq (.region [qo .mv [.env 1],
qo .mv [.env 9],
qo (.iaddr 1) [.loc 1, .loc 0],
qo (.load 1 false) [.loc 0],
qo .mv [.loc 0]] [(11, 0)])
(.region [qo .mv [.env 9],
qo (.bin .add) [.loc 0, .const (.int .i64 1)],
qo .mv [.loc 0]] [(9, 0)])) (.skip)))
(.seq (.region [qo .mv [.env 5],
qo .mv [.env 11],
qo (.call 16) [.loc 0],
qo (.call 23) [.loc 2, .loc 0],
qo .mv [.loc 0]] [(12, 0)])
(.seq (.seq (.region [qo .mv [.env 8],
qo .mv [.env 12],
qo (.bin .eql) [.loc 0, .const (.int .i64 6)],
qo (.eqb true) [.loc 2, .loc 0],
qo .mv [.loc 0],
qg .mv [.env 8] 0 false,
qg (.un .not) [.loc 0] 1 false,
qg .mv [.loc 0] 2 false,
qg .mv [.env 12] 0 true,
qg (.bin .neq) [.loc 0, .const (.int .i64 0)] 1 true,
qg .pick [.loc 2, .loc 0, .const (.bool false)] 5 false,
qo .pick [.loc 6, .const (.bool true), .loc 0]] [(27, 0)])
(.cond (.env 27) (.seq (.region [qo .mv [.const (.bool false)]] [(3, 0)])
(.ret)) (.skip)))
(.seq (.region [qo .mv [.env 8],
qo (.un .not) [.loc 0]] [(28, 0)])
(.cond (.env 28) (.region [qo .mv [.env 7],
qo .mv [.env 11],
qo (.call 16) [.loc 0],
qo (.bslice 43 1 1 [.nils] [0] 1) [.loc 0],
qo (.append 43 1 24 1) [.loc 3, .loc 0],
qo .mv [.loc 0]] [(7, 0)]) (.skip))))))) (.seq (.region [⟨.bin .eql, [.env 20, .const (.int .u8 4)], none, [], none⟩,
qo .mv [.loc 0]] [(29, 0)])
(.cond (.env 29) (.seq (.region [qo .mv [.env 5],
qo (.call 24) [.loc 0],
qo .mv [.loc 0]] [(13, 0)])
(.seq (.seq (.region [qo .mv [.env 8],
qo .mv [.env 13],
qo (.bin .eql) [.loc 0, .const (.int .i64 6)],
qo (.eqb true) [.loc 2, .loc 0],
qo .mv [.loc 0],
qg .mv [.env 8] 0 false,
qg (.un .not) [.loc 0] 1 false,
qg .mv [.loc 0] 2 false,
qg .mv [.env 13] 0 true,
qg (.bin .neq) [.loc 0, .const (.int .i64 0)] 1 true,
qg .pick [.loc 2, .loc 0, .const (.bool false)] 5 false,
qo .pick [.loc 6, .const (.bool true), .loc 0]] [(30, 0)])
(.cond (.env 30) (.seq (.region [qo .mv [.const (.bool false)]] [(3, 0)])
(.ret)) (.skip)))
(.seq (.seq (.region [qo .mv [.env 8],
qo (.un .not) [.loc 0]] [(31, 0)])
(.cond (.env 31) (.region [qo .mv [.env 4],
qo .mv [.env 7],
qo (.call 14) [.loc 1, .loc 0],
qo .mv [.loc 0]] [(7, 0)]) (.skip)))
(.region [qo .mv [.const (.bool true)]] [(8, 0)])))) (.seq (.region [⟨.bin .eql, [.env 20, .const (.int .u8 5)], none, [], none⟩,
qo .mv [.loc 0]] [(32, 0)])
(.cond (.env 32) (.seq (.region [qo .mv [.env 5],
qo (.bslice 5 1 5 [.int .u8 0] [0, 1, 2, 3, 4] 2) [.const (.int .u8 49), .const (.int .u8 50), .const (.int .u8 51), .const (.int .u8 52), .const (.int .u8 53)],
qo .strsh [.loc 0],
qo (.call 23) [.loc 2, .loc 0],
qo (.bin .neq) [.loc 0, .const (.int .i64 5)],
qo .mv [.loc 0],
qg .mv [.env 8] 0 true,
qg (.un .not) [.loc 0] 1 true,
qo .pick [.loc 2, .loc 0, .const (.bool false)]] [(33, 0)])
(.cond (.env 33) (.seq (.region [qo .mv [.const (.bool false)]] [(3, 0)])
(.ret)) (.skip))) (.seq (.region [qo .mv [.env 5],
qo (.call 25) [.loc 0],
qo .mv [.loc 0],
qo (.extract 0) [.loc 0],
qo (.extract 1) [.loc 1],
qo (.extract 2) [.loc 2],
qo .mv [.loc 2],
qo .mv [.loc 2],
qo .mv [.loc 2]] [(14, 2), (15, 1), (16, 0)])
(.seq (.seq (.region [qo .mv [.env 8],
qo (.un .not) [.loc 0]] [(21, 0)])
(.cond (.env 21) (.seq (.seq (.region [qo .mv [.env 16],
qo (.bin .neq) [.loc 0, .const (.int .i64 6)],
qo .mv [.loc 0],
qg .mv [.env 15] 0 false,
qo .pick [.loc 1, .const (.bool true), .loc 0]] [(22, 0)])
(.cond (.env 22) (.seq (.region [qo .mv [.const (.bool false)]] [(3, 0)])
(.ret)) (.skip)))
(.exit 1)) (.skip)))
(.seq (.seq (.drawn [qo .mv [.env 16],
qw (.bin .neq) [.loc 0, .const (.int .i64 0)] 1 1,
qw .mv [.loc 0] 3 2,
qh .mv [.env 15] 0 false 7 3,
qh .mv [.env 7] 1 false 7 4,
qh (.len false) [.loc 0] 2 false 23 5,
qh (.bin .gtr) [.loc 0, .const (.int .i64 0)] 3 false 55 6,
qh (.eqb true) [.loc 3, .loc 0] 4 false 127 7,
qw .pick [.loc 5, .const (.bool true), .loc 0] 255 8,
qw .mv [.loc 0] 511 9,
qh .mv [.env 15] 0 false 1023 10,
qh .mv [.loc 0] 1 false 2047 11,
qh .mv [.env 14] 0 true 4095 12,
qh .bstr [.loc 0] 1 true 8191 13,
qh .mv [.env 7] 2 true 4095 14,
qh (.iaddr 1) [.loc 0, .const (.int .i64 0)] 3 true 20479 15,
qh (.load 1 false) [.loc 0] 4 true 53247 16,
qh .bstr [.loc 0] 5 true 118783 17,
qh (.bin .neq) [.loc 4, .loc 0] 6 true 262143 18,
qh .pick [.loc 7, .loc 0, .const (.bool false)] 9 false 524287 19,
qw .pick [.loc 10, .const (.bool true), .loc 0] 1048575 20,
qw .mv [.loc 0] 2097151 21,
qh .mv [.env 15] 0 false 4194303 22,
qh (.un .not) [.loc 0] 1 false 8388607 23,
qh .mv [.loc 0] 2 false 16777215 24,
qh .mv [.env 14] 0 true 33554431 25,
qh (.len false) [.loc 0] 1 true 67108863 26,
qh (.bin .neq) [.loc 0, .const (.int .i64 0)] 2 true 134217727 27,
qh .pick [.loc 3, .loc 0, .const (.bool false)] 6 false 268435455 28,
qw .pick [.loc 7, .const (.bool true), .loc 0] 536870911 29] [(23, 0)] [])
(.cond (.env 23) (.seq (.region [qo .mv [.const (.bool false)]] [(3, 0)])
(.ret)) (.skip)))
(.seq (.region [qo .mv [.env 15]] [(24, 0)])
(.cond (.env 24) (.region [qo .mv [.env 7],
qo (.slice false 1 true false false) [.loc 0, .const (.int .i64 1)],
qo .mv [.loc 0]] [(7, 0)]) (.skip))))))))))))))
(.seq (.region [qo .mv [.env 5],
qo (.call 26) [.loc 0],
qo .mv [.env 7],
qo (.len false) [.loc 0],
qo (.bin .neq) [.loc 2, .loc 0]] [(34, 0)])
(.cond (.env 34) (.seq (.region [qo .mv [.const (.bool false)]] [(3, 0)])
(.ret)) (.skip)))))
(.region [qo .mv [.env 10],
qo (.bin .add) [.loc 0, .const (.int .i64 1)],
qo .mv [.loc 0]] [(10, 0)]))))))
(.seq (.region [qo (.call 9) [],
qo .mv [.loc 0]] [(3, 0)])
(.ret)))))))))),
[.tmp 3]⟩
theorem F7_low : lowFn Tryz.prog false [0, 1, 2, 6, 7, 8, 9, 10, 11, 12, 13, 14, 15, 16, 17, 18, 19, 27, 37, 41, 48, 56, 61, 91, 92, 95, 105, 127, 129, 135, 150, 152, 156, 166, 171] Tryz.f7 = some F7 := by as_aux_lemma => kernel_rfl
def F8 : LFunc := ⟨[0, 1, 2, 4, 5, 6, 7, 8, 9, 10, 11, 12, 13, 15, 17, 19, 20, 21, 22, 23, 25, 26, 35, 43, 51, 57, 72, 115, 138, 140, 145, 147, 156, 172, 223, 226, 260], 3,
.seq (.region [qo (.box 57 2) [.env 1],
qo (.box 75 5) [.env 2],
qo .mv [.const (.bool false)]] [(3, 2), (4, 1), (5, 0)])
(.seq (.seq (.region [qo (.faddr 4) [.env 4],
qo (.load 1 false) [.loc 0],
qo (.len false) [.loc 0],
qo (.bin .gtr) [.loc 0, .const (.int .i64 40)],
qo .mv [.loc 0],
qg (.faddr 3) [.env 4] 0 false,
qg (.load 1 false) [.loc 0] 1 false,
qg (.bin .gtr) [.loc 0, .const (.int .u8 20)] 2 false,
qo .pick [.loc 3, .const (.bool true), .loc 0]] [(22, 0)])
(.cond (.env 22) (.seq (.region [qo (.call 9) [],
qo .mv [.loc 0]] [(5, 0)])
(.ret)) (.skip)))
(.seq (.region [qo (.faddr 0) [.env 4],
qo (.load 1 false) [.loc 0],
qo (.bin .rem) [.loc 0, .const (.int .u8 40)],
qo (.conv .i64) [.loc 0],
qo (.call 27) [.loc 0],
qo (.alloc 51 [.int .u8 0, .int .u8 0, .str ⟨#[]⟩, .int .i64 0, .int .i64 0, .bool false, .bool false, .bool false, .bool false, .bool false, .int .i64 0]) [],
qo (.store 11) [.loc 0, .loc 1]] [(6, 1)])
(.seq (.seq (.region [qo (.faddr 1) [.env 4],
qo (.load 1 false) [.loc 0]] [(23, 0)])
(.cond (.env 23) (.region [qo (.faddr 0) [.env 4],
qo (.load 1 false) [.loc 0],
qo (.bin .rem) [.loc 0, .const (.int .u8 18)],
qo (.conv .i64) [.loc 0],
qo (.bin .add) [.const (.int .i64 1), .loc 0],
qo (.call 28) [.loc 0],
qo (.store 11) [.env 6, .loc 0]] []) (.skip)))
(.seq (.seq (.region [qo (.faddr 2) [.env 4],
qo (.load 1 false) [.loc 0]] [(24, 0)])
(.cond (.env 24) (.region [qo (.faddr 0) [.env 6],
qo (.store 1) [.loc 0, .const (.int .u8 5)]] []) (.skip)))
(.seq (.region [qo .mv [.const (.nils)]] [(7, 0)])
(.seq (.seq (.region [qo .mv [.const (.int .i64 0)]] [(8, 0)])
(.block 0 (.loop (.seq (.seq (.region [qo .mv [.env 8],
qo (.faddr 3) [.env 4],
qo (.load 1 false) [.loc 0],
qo (.conv .i64) [.loc 0],
qo (.bin .lss) [.loc 3, .loc 0]] [(25, 0)])
(.cond (.env 25) (.skip) (.exit 0)))
(.seq (.block 1 (.region [qo .mv [.env 7],
qo (.load 2 true) [.env 3],
qo (.load 11 true) [.env 6],
qo (.build [.int .i64 0, .int .i64 0, .int .u8 0, .int .u8 0, .str ⟨#[]⟩, .int .i64 0, .int .i64 0, .bool false, .bool false, .bool false, .bool false, .bool false, .int .i64 0, .bool false] [(0, 2), (2, 11)]) [.loc 1, .loc 0],
qo (.bslice 59 14 1 [.int .i64 0, .int .i64 0, .int .u8 0, .int .u8 0, .str ⟨#[]⟩, .int .i64 0, .int .i64 0, .bool false, .bool false, .bool false, .bool false, .bool false, .int .i64 0, .bool false] [0] 1) [.loc 0],
qo (.append 59 14 80 1) [.loc 4, .loc 0],
qo .mv [.loc 0]] [(7, 0)]))
(.region [qo .mv [.env 8],
qo (.bin .add) [.loc 0, .const (.int .i64 1)],
qo .mv [.loc 0]] [(8, 0)]))))))
(.seq (.region [qo .mv [.const (.int .i64 0)]] [(9, 0)])
(.seq (.seq (.region [qo (.faddr 3) [.env 4],
qo (.load 1 false) [.loc 0],
qo (.bin .gtr) [.loc 0, .const (.int .u8 8)],
qo .mv [.loc 0],
qg .mv [.env 0] 0 false,
qg (.bin .gtr) [.loc 0, .const (.int .i64 4096)] 1 false,
qo .pick [.loc 2, .const (.bool true), .loc 0]] [(26, 0)])
(.cond (.env 26) (.region [qo .mv [.const (.int .i64 3)]] [(9, 0)]) (.seq (.region [⟨.faddr 3, [.env 4], none, [], none⟩,
qo (.load 1 false) [.loc 0],
qo (.bin .eql) [.loc 0, .const (.int .u8 0)],
qo .mv [.loc 0],
qg .mv [.env 0] 0 false,
qg (.bin .lss) [.loc 0, .const (.int .i64 1)] 1 false,
qo .pick [.loc 2, .const (.bool true), .loc 0],
qo .mv [.loc 0],
qg (.faddr 0) [.env 3] 0 false,
qg (.load 1 false) [.loc 0] 1 false,
qg (.bin .lss) [.loc 0, .const (.int .i64 0)] 2 false,
qo .pick [.loc 3, .const (.bool true), .loc 0],
qo .mv [.loc 0],
qg (.faddr 1) [.env 3] 0 false,
qg (.load 1 false) [.loc 0] 1 false,
qg (.bin .lss) [.loc 0, .const (.int .i64 1)] 2 false,
qo .pick [.loc 3, .const (.bool true), .loc 0],
qo .mv [.loc 0],
qg (.faddr 1) [.env 3] 0 false,
qg (.load 1 false) [.loc 0] 1 false,
qg .mv [.env 0] 2 false,
qg (.bin .gtr) [.loc 1, .loc 0] 3 false,
qo .pick [.loc 4, .const (.bool true), .loc 0],
qo .mv [.loc 0],
qg (.faddr 0) [.env 3] 0 false,
qg (.load 1 false) [.loc 0] 1 false,
qg .mv [.env 0] 2 false,
qg (.faddr 1) [.env 3] 3 false,
qg (.load 1 false) [.loc 0] 4 false,
qg (.bin .sub) [.loc 2, .loc 0] 5 false,
qg (.bin .gtr) [.loc 4, .loc 0] 6 false,
qo .pick [.loc 7, .const (.bool true), .loc 0],
qo .mv [.loc 0],
qg (.faddr 10) [.env 6] 0 false,
qg (.load 1 false) [.loc 0] 1 false,
qg (.faddr 1) [.env 3] 2 false,
qg (.load 1 false) [.loc 0] 3 false,
qg (.bin .neq) [.loc 2, .loc 0] 4 false,
qo .pick [.loc 5, .const (.bool true), .loc 0],
qo .mv [.loc 0],
qg (.faddr 2) [.env 4] 0 false,
qg (.load 1 false) [.loc 0] 1 false,
qo .pick [.loc 2, .const (.bool true), .loc 0]] [(27, 0)])
(.cond (.env 27) (.region [qo .mv [.const (.int .i64 1)]] [(9, 0)]) (.skip)))))
(.seq (.region [qo .mv [.env 7],
qo .mv [.env 0],
qo (.call 22) [.loc 1, .loc 0],
qo .mv [.loc 0],
qo (.extract 0) [.loc 0],
qo (.extract 1) [.loc 1],
qo .mv [.loc 1],
qo .mv [.loc 1]] [(10, 1), (11, 0)])
(.seq (.seq (.region [qo .mv [.env 7],
qo .mv [.env 0],
qo (.call 29) [.loc 1, .loc 0],
qo .mv [.env 9],
qo (.bin .neq) [.loc 1, .loc 0],
qo .mv [.loc 0],
qg .mv [.env 11] 0 false,
qg .mv [.env 9] 1 false,
qg (.bin .neq) [.loc 1, .loc 0] 2 false,
qo .pick [.loc 3, .const (.bool true), .loc 0],
qo .mv [.loc 0],
qg .mv [.env 10] 0 false,
qg (.eqp false) [.loc 0, .const (.nilp)] 1 false,
qg .mv [.env 11] 2 false,
qg (.bin .neq) [.loc 0, .const (.int .i64 0)] 3 false,
qg (.eqb true) [.loc 2, .loc 0] 4 false,
qo .pick [.loc 5, .const (.bool true), .loc 0]] [(28, 0)])
(.cond (.env 28) (.seq (.region [qo .mv [.const (.bool false)]] [(5, 0)])
(.ret)) (.skip)))
(.seq (.seq (.region [qo .mv [.env 9],
qo (.bin .eql) [.loc 0, .const (.int .i64 0)]] [(29, 0)])
(.cond (.env 29) (.seq (.region [qo (.faddr 4) [.env 4],
qo (.load 1 false) [.loc 0],
qo (.len false) [.loc 0],
qo .mv [.env 0],
qo (.bin .neq) [.loc 1, .loc 0]] [(30, 0)])
(.cond (.env 30) (.region [qo .mv [.const (.int .i64 5)]] [(9, 0)]) (.seq (.region [⟨.faddr 1, [.env 4], none, [], none⟩,
qo (.load 1 false) [.loc 0]] [(31, 0)])
(.cond (.env 31) (.seq (.region [qo (.faddr 0) [.env 3],
qo (.load 1 false) [.loc 0],
qo .mv [.loc 0]] [(12, 0)])
(.block 2 (.loop (.seq (.seq (.region [qo .mv [.env 12],
qo (.faddr 0) [.env 3],
qo (.load 1 false) [.loc 0],
qo (.faddr 1) [.env 3],
qo (.load 1 false) [.loc 0],
qo (.bin .add) [.loc 2, .loc 0],
qo (.bin .lss) [.loc 5, .loc 0]] [(32, 0)])
(.cond (.env 32) (.skip) (.exit 2)))
(.seq (.block 3 (.seq (.region [qo (.faddr 4) [.env 4],
qo (.load 1 false) [.loc 0],
qo .mv [.env 12],
qo (.iaddr 1) [.loc 1, .loc 0],
qo (.load 1 false) [.loc 0],
qo (.bin .lss) [.loc 0, .const (.int .u8 48)],
qo .mv [.loc 0],
qg (.faddr 4) [.env 4] 0 false,
qg (.load 1 false) [.loc 0] 1 false,
qg .mv [.env 12] 2 false,
qg (.iaddr 1) [.loc 1, .loc 0] 3 false,
qg (.load 1 false) [.loc 0] 4 false,
qg (.bin .gtr) [.loc 0, .const (.int .u8 57)] 5 false,
qo .pick [.loc 6, .const (.bool true), .loc 0]] [(33, 0)])
(.cond (.env 33) (.region [qo .mv [.const (.int .i64 15)]] [(9, 0)]) (.skip))))
(.region [qo .mv [.env 12],
qo (.bin .add) [.loc 0, .const (.int .i64 1)],
qo .mv [.loc 0]] [(12, 0)])))))) (.skip))))) (.skip)))
(.seq (.region [qo .mv [.env 7],
qo .mv [.env 0],
qo (.faddr 4) [.env 4],
qo (.load 1 false) [.loc 0],
qo (.faddr 4) [.env 4],
qo (.load 1 false) [.loc 0],
qo (.call 15) [.loc 5, .loc 4, .loc 2, .loc 0],
qo .mv [.loc 0],
qo (.extract 0) [.loc 0],
qo (.extract 1) [.loc 1],
qo .mv [.loc 1],
qo .mv [.loc 1]] [(13, 0)])
(.seq (.region [qo .mv [.env 7],
qo .mv [.env 0],
qo (.faddr 4) [.env 4],
qo (.load 1 false) [.loc 0],
qo (.bslice 43 1 1 [.nils] [0] 1) [.loc 0],
qo (.call 12) [.loc 4, .loc 3, .loc 0],
qo .mv [.loc 0],
qo (.extract 0) [.loc 0],
qo (.extract 1) [.loc 1],
qo .mv [.loc 1],
qo .mv [.loc 1]] [(14, 0)])
(.seq (.region [qo .mv [.env 7],
qo .mv [.env 0],
qo (.faddr 4) [.env 4],
qo (.load 1 false) [.loc 0],
qo (.bslice 43 1 1 [.nils] [0] 1) [.loc 0],
qo (.bslice 28 1 1 [.nils] [0] 1) [.loc 0],
qo (.call 21) [.loc 5, .loc 4, .loc 0],
qo .mv [.loc 0],
qo (.extract 0) [.loc 0],
qo (.extract 1) [.loc 1],
qo .mv [.loc 1],
qo .mv [.loc 1]] [(15, 0)])
(.seq (.seq (.region [qo .mv [.env 7],
qo .mv [.env 0],
qo (.faddr 4) [.env 4],
qo (.load 1 false) [.loc 0],
qo (.call 30) [.loc 3, .loc 2, .loc 0],
qo .mv [.env 9],
qo (.bin .neq) [.loc 1, .loc 0],
qo .mv [.loc 0],
qg .mv [.env 13] 0 false,
qg .mv [.env 9] 1 false,
qg (.bin .neq) [.loc 1, .loc 0] 2 false,
qo .pick [.loc 3, .const (.bool true), .loc 0],
qo .mv [.loc 0],
qg .mv [.env 14] 0 false,
qg .mv [.env 9] 1 false,
qg (.bin .neq) [.loc 1, .loc 0] 2 false,
qo .pick [.loc 3, .const (.bool true), .loc 0],
qo .mv [.loc 0],
qg .mv [.env 15] 0 false,
qg .mv [.env 9] 1 false,
qg (.bin .neq) [.loc 1, .loc 0] 2 false,
qo .pick [.loc 3, .const (.bool true), .loc 0]] [(34, 0)])
(.cond (.env 34) (.seq (.region [qo .mv [.const (.bool false)]] [(5, 0)])
(.ret)) (.skip)))
(.seq (.region [qo (.alloc 80 [.nils, .int .i64 0, .nils, .bool false]) []] [(16, 0)])
(.seq (.region [qo (.bslice 65 1 2 [.nilp] [0, 1] 1) [.const (.nilp), .env 16],
qo .mv [.loc 0]] [(17, 0)])
(.seq (.seq (.region [qo .mv [.const (.int .i64 0)]] [(18, 0)])
(.block 4 (.loop (.seq (.seq (.region [qo .mv [.env 18],
qo (.bin .lss) [.loc 0, .const (.int .i64 2)]] [(35, 0)])
(.cond (.env 35) (.skip) (.exit 4)))
(.seq (.block 5 (.seq (.region [qo .mv [.env 17],
qo .mv [.env 18],
qo (.iaddr 1) [.loc 1, .loc 0],
qo (.load 1 false) [.loc 0],
qo .mv [.loc 0]] [(19, 0)])
(.seq (.region [qo .mv [.env 19],
qo (.call 25) [.loc 0],
qo .mv [.loc 0],
qo (.extract 0) [.loc 0],
qo (.extract 1) [.loc 1],
qo (.extract 2) [.loc 2],
qo .mv [.loc 2],
qo .mv [.loc 2],
qo .mv [.loc 2]] [(20, 1), (21, 0)])
(.seq (.region [qo .mv [.env 19],
qo (.faddr 4) [.env 4],
qo (.load 1 false) [.loc 0],
qo (.call 23) [.loc 2, .loc 0],
qo (.bin .neq) [.loc 0, .const (.int .i64 2)],
qo .mv [.loc 0],
qg .mv [.env 19] 0 false,
qg (.call 24) [.loc 0] 1 false,
qg (.bin .neq) [.loc 0, .const (.int .i64 2)] 2 false,
qo .pick [.loc 3, .const (.bool true), .loc 0],
qo .mv [.loc 0],
qg .mv [.env 21] 0 false,
qg (.bin .neq) [.loc 0, .const (.int .i64 2)] 1 false,
qo .pick [.loc 2, .const (.bool true), .loc 0],
qo .mv [.loc 0],
qg .mv [.env 20] 0 false,
qo .pick [.loc 1, .const (.bool true), .loc 0],
qo .mv [.loc 0],
qg .mv [.env 19] 0 false,
qg (.call 26) [.loc 0] 1 false,
qg (.bin .neq) [.loc 0, .const (.int .i64 0)] 2 false,
qo .pick [.loc 3, .const (.bool true), .loc 0]] [(36, 0)])
(.cond (.env 36) (.seq (.region [qo .mv [.const (.bool false)]] [(5, 0)])
(.ret)) (.skip))))))
(.region [qo .mv [.env 18],
qo (.bin .add) [.loc 0, .const (.int .i64 1)],
qo .mv [.loc 0]] [(18, 0)]))))))
(.seq (.region [qo (.call 9) [],
qo .mv [.loc 0]] [(5, 0)])
(.ret)))))))))))))))))))),
[.tmp 5]⟩
theorem F8_low : lowFn Tryz.prog false [0, 1, 2, 4, 5, 6, 7, 8, 9, 10, 11, 12, 13, 15, 17, 19, 20, 21, 22, 23, 25, 26, 35, 43, 51, 57, 72, 115, 138, 140, 145, 147, 156, 172, 223, 226, 260] Tryz.f8 = some F8 := by as_aux_lemma => kernel_rfl
def F9 : LFunc := ⟨[0, 1, 2, 3], 0,
.seq (.region [qo .mv [.const (.bool false)]] [(0, 0)])
(.seq (.region [qo (.build [.int .i64 0, .int .i64 0] [(1, 1)]) [.const (.int .i64 1)],
qo (.call 27) [.const (.int .i64 1)],
qo (.build [.int .i64 0, .int .i64 0, .int .u8 0, .int .u8 0, .str ⟨#[]⟩, .int .i64 0, .int .i64 0, .bool false, .bool false, .bool false, .bool false, .bool false, .int .i64 0, .bool false] [(0, 2), (2, 11), (13, 1)]) [.loc 1, .loc 0, .const (.bool true)],
qo (.build [.int .i64 0, .int .i64 0] [(0, 1), (1, 1)]) [.const (.int .i64 1), .const (.int .i64 2)],
qo (.call 28) [.const (.int .i64 2)],
qo (.build [.int .i64 0, .int .i64 0, .int .u8 0, .int .u8 0, .str ⟨#[]⟩, .int .i64 0, .int .i64 0, .bool false, .bool false, .bool false, .bool false, .bool false, .int .i64 0, .bool false] [(0, 2), (2, 11)]) [.loc 1, .loc 0],
qo (.bslice 59 14 2 [.int .i64 0, .int .i64 0, .int .u8 0, .int .u8 0, .str ⟨#[]⟩, .int .i64 0, .int .i64 0, .bool false, .bool false, .bool false, .bool false, .bool false, .int .i64 0, .bool false] [0, 1] 1) [.loc 3, .loc 0],
qo .mv [.loc 0]] [(1, 0)])
(.seq (.region [qo .mv [.env 1],
qo (.bslice 5 1 3 [.int .u8 0] [0, 1, 2] 2) [.const (.int .u8 65), .const (.int .u8 50), .const (.int .u8 48)],
qo .strsh [.loc 0],
qo (.bslice 5 1 3 [.int .u8 0] [0, 1, 2] 2) [.const (.int .u8 66), .const (.int .u8 48), .const (.int .u8 51)],
qo .strsh [.loc 0],
qo (.bslice 5 1 3 [.int .u8 0] [0, 1, 2] 2) [.const (.int .u8 65), .const (.int .u8 48), .const (.int .u8 55)],
qo .strsh [.loc 0],
qo (.bslice 5 1 3 [.int .u8 0] [0, 1, 2] 2) [.const (.int .u8 66), .const (.int .u8 48), .const (.int .u8 51)],
qo .strsh [.loc 0],
qo (.bslice 43 1 4 [.nils] [0, 1, 2, 3] 1) [.loc 6, .loc 4, .loc 2, .loc 0],
qo (.call 12) [.loc 9, .const (.int .i64 3), .loc 0],
qo .mv [.loc 0],
qo (.extract 0) [.loc 0],
qo (.extract 1) [.loc 1],
qo .mv [.loc 1],
qo .mv [.loc 1]] [(2, 1), (3, 0)])
(.seq (.region [qo .mv [.env 3],
qo (.bin .eql) [.loc 0, .const (.int .i64 0)],
qo .mv [.loc 0],
qg .mv [.env 2] 0 true,
qg (.bslice 5 1 3 [.int .u8 0] [0, 1, 2] 2) [.const (.int .u8 66), .const (.int .u8 48), .const (.int .u8 51)] 1 true,
qg .strsh [.loc 0] 2 true,
qg (.bslice 5 1 3 [.int .u8 0] [0, 1, 2] 2) [.const (.int .u8 66), .const (.int .u8 48), .const (.int .u8 51)] 3 true,
qg .strsh [.loc 0] 4 true,
qg (.bslice 5 1 3 [.int .u8 0] [0, 1, 2] 2) [.const (.int .u8 65), .const (.int .u8 48), .const (.int .u8 55)] 5 true,
qg .strsh [.loc 0] 6 true,
qg (.bslice 5 1 3 [.int .u8 0] [0, 1, 2] 2) [.const (.int .u8 65), .const (.int .u8 50), .const (.int .u8 48)] 7 true,
qg .strsh [.loc 0] 8 true,
qg (.bslice 43 1 4 [.nils] [0, 1, 2, 3] 1) [.loc 6, .loc 4, .loc 2, .loc 0] 9 true,
qg (.call 13) [.loc 9, .loc 0] 10 true,
qo .pick [.loc 11, .loc 0, .const (.bool false)],
qo .mv [.loc 0]] [(0, 0)])
(.ret)))),
[.tmp 0]⟩
theorem F9_low : lowFn Tryz.prog false [0, 1, 2, 3] Tryz.f9 = some F9 := by as_aux_lemma => kernel_rfl
def F10 : LFunc := ⟨[0, 2, 3, 4, 5, 6, 7, 15, 55, 65], 1,
.seq (.region [qo .mv [.const (.nils)]] [(1, 0)])
(.seq (.region [qo .mv [.const (.nils)]] [(2, 0)])
(.seq (.seq (.region [qo .mv [.const (.int .i64 0)]] [(3, 0)])
(.block 0 (.loop (.seq (.seq (.region [qo .mv [.env 3],
qo .mv [.env 0],
qo (.len false) [.loc 0],
qo (.bin .lss) [.loc 2, .loc 0],
qo .mv [.loc 0],
qg .mv [.env 3] 0 true,
qg (.bin .lss) [.loc 0, .const (.int .i64 4)] 1 true,
qo .pick [.loc 2, .loc 0, .const (.bool false)]] [(7, 0)])
(.cond (.env 7) (.skip) (.exit 0)))
(.seq (.block 1 (.seq (.region [qo .mv [.env 0],
qo .mv [.env 3],
qo (.iaddr 3) [.loc 1, .loc 0],
qo (.aaddr 1 3) [.loc 0, .const (.int .i64 0)],
qo (.load 1 false) [.loc 0],
qo (.bin .rem) [.loc 0, .const (.int .u8 6)],
qo (.conv .i64) [.loc 0],
qo .mv [.loc 0]] [(4, 0)])
(.seq (.region [qo .mv [.env 0],
qo .mv [.env 3],
qo (.iaddr 3) [.loc 1, .loc 0],
qo (.aaddr 1 3) [.loc 0, .const (.int .i64 1)],
qo (.load 1 false) [.loc 0],
qo (.conv .i64) [.loc 0],
qo .mv [.env 4],
qo (.bin .sub) [.const (.int .i64 6), .loc 0],
qo (.bin .rem) [.loc 2, .loc 0],
qo (.bin .add) [.const (.int .i64 1), .loc 0],
qo .mv [.loc 0]] [(5, 0)])
(.seq (.drawn [qo .mv [.env 4],
qw .mv [.env 5] 0 1,
qw (.build [.int .i64 0, .int .i64 0] [(0, 1), (1, 1)]) [.loc 1, .loc 0] 3 2,
qw .mv [.env 5] 0 3,
qw (.call 27) [.loc 0] 8 4,
qw .mv [.env 0] 0 5,
qw .mv [.env 3] 0 6,
qw (.iaddr 3) [.loc 1, .loc 0] 96 7,
qw (.aaddr 1 3) [.loc 0, .const (.int .i64 2)] 224 8,
qw (.load 1 false) [.loc 0] 480 9,
qw (.bin .rem) [.loc 0, .const (.int .u8 2)] 992 10,
qw (.bin .eql) [.loc 0, .const (.int .u8 1)] 2016 11,
qw (.build [.int .i64 0, .int .i64 0, .int .u8 0, .int .u8 0, .str ⟨#[]⟩, .int .i64 0, .int .i64 0, .bool false, .bool false, .bool false, .bool false, .bool false, .int .i64 0, .bool false] [(0, 2), (2, 11), (13, 1)]) [.loc 9, .loc 7, .loc 0] 4095 12,
⟨.mv, [.loc 13], none, ob 0 13, some 0⟩,
qw (.store 14) [.loc 0, .loc 1] 16383 14] [(6, 1)] [(59, [.int .i64 0, .int .i64 0, .int .u8 0, .int .u8 0, .str ⟨#[]⟩, .int .i64 0, .int .i64 0, .bool false, .bool false, .bool false, .bool false, .bool false, .int .i64 0, .bool false])])
(.seq (.seq (.region [qo .mv [.env 0],
qo .mv [.env 3],
qo (.iaddr 3) [.loc 1, .loc 0],
qo (.aaddr 1 3) [.loc 0, .const (.int .i64 2)],
qo (.load 1 false) [.loc 0],
qo (.bin .quo) [.loc 0, .const (.int .u8 2)],
qo (.bin .rem) [.loc 0, .const (.int .u8 2)],
qo (.bin .eql) [.loc 0, .const (.int .u8 1)]] [(8, 0)])
(.cond (.env 8) (.region [qo .mv [.env 5],
qo (.call 28) [.loc 0],
qo (.faddr 2) [.env 6],
qo (.store 11) [.loc 0, .loc 1]] []) (.skip)))
(.region [qo .mv [.env 2],
qo (.load 14 true) [.env 6],
qo (.bslice 59 14 1 [.int .i64 0, .int .i64 0, .int .u8 0, .int .u8 0, .str ⟨#[]⟩, .int .i64 0, .int .i64 0, .bool false, .bool false, .bool false, .bool false, .bool false, .int .i64 0, .bool false] [0] 1) [.loc 0],
qo (.append 59 14 80 1) [.loc 2, .loc 0],
qo .mv [.loc 0]] [(2, 0)]))))))
(.region [qo .mv [.env 3],
qo (.bin .add) [.loc 0, .const (.int .i64 1)],
qo .mv [.loc 0]] [(3, 0)]))))))
(.seq (.seq (.region [qo .mv [.env 2],
qo (.len false) [.loc 0],
qo (.bin .eql) [.loc 0, .const (.int .i64 0)]] [(9, 0)])
(.cond (.env 9) (.region [qo .mv [.env 2],
qo (.build [.int .i64 0, .int .i64 0] [(1, 1)]) [.const (.int .i64 6)],
qo (.call 27) [.const (.int .i64 6)],
qo (.build [.int .i64 0, .int .i64 0, .int .u8 0, .int .u8 0, .str ⟨#[]⟩, .int .i64 0, .int .i64 0, .bool false, .bool false, .bool false, .bool false, .bool false, .int .i64 0, .bool false] [(0, 2), (2, 11)]) [.loc 1, .loc 0],
qo (.bslice 59 14 1 [.int .i64 0, .int .i64 0, .int .u8 0, .int .u8 0, .str ⟨#[]⟩, .int .i64 0, .int .i64 0, .bool false, .bool false, .bool false, .bool false, .bool false, .int .i64 0, .bool false] [0] 1) [.loc 0],
qo (.append 59 14 80 1) [.loc 4, .loc 0],
qo .mv [.loc 0]] [(2, 0)]) (.skip)))
(.seq (.region [qo .mv [.env 2],
qo .mv [.loc 0]] [(1, 0)])
(.ret))))),
[.tmp 1]⟩
theorem F10_low : lowFn Tryz.prog false [0, 2, 3, 4, 5, 6, 7, 15, 55, 65] Tryz.f10 = some F10 := by as_aux_lemma => kernel_rfl
def F11 : LFunc := ⟨[0, 2, 3, 4, 8], 1,
.seq (.region [qo .mv [.const (.nils)]] [(1, 0)])
(.seq (.region [qo .mv [.const (.nils)]] [(2, 0)])
(.seq (.seq (.region [qo .mv [.const (.int .i64 0)]] [(3, 0)])
(.block 0 (.loop (.seq (.seq (.region [qo .mv [.env 3],
qo .mv [.env 0],
qo (.len false) [.loc 0],
qo (.bin .lss) [.loc 2, .loc 0]] [(4, 0)])
(.cond (.env 4) (.skip) (.exit 0)))
(.seq (.block 1 (.region [qo .mv [.env 2],
qo .mv [.env 0],
qo .mv [.env 3],
qo (.iaddr 1) [.loc 1, .loc 0],
qo (.load 1 false) [.loc 0],
qo (.call 16) [.loc 0],
qo (.bslice 43 1 1 [.nils] [0] 1) [.loc 0],
qo (.append 43 1 24 1) [.loc 6, .loc 0],
qo .mv [.loc 0]] [(2, 0)]))
(.region [qo .mv [.env 3],
qo (.bin .add) [.loc 0, .const (.int .i64 1)],
qo .mv [.loc 0]] [(3, 0)]))))))
(.seq (.region [qo .mv [.env 2],
qo .mv [.loc 0]] [(1, 0)])
(.ret)))),
[.tmp 1]⟩
theorem F11_low : lowFn Tryz.prog false [0, 2, 3, 4, 8] Tryz.f11 = some F11 := by as_aux_lemma => kernel_rfl
def F12 : LFunc := ⟨[0, 1, 2, 6, 7, 8, 15], 3,
.seq (.region [qo .mv [.const (.nils)],
qo .mv [.const (.int .i64 0)]] [(3, 1), (4, 0)])
(.seq (.seq (.region [qo .mv [.env 0],
qo .mv [.env 1],
qo .mv [.env 2],
qo (.bslice 28 1 1 [.nils] [0] 1) [.loc 0],
qo (.call 31) [.loc 3, .loc 2, .loc 0],
qo .mv [.loc 0]] [(5, 0)])
(.seq (.region [qo .mv [.env 5],
qo (.bin .neq) [.loc 0, .const (.int .i64 0)]] [(6, 0)])
(.cond (.env 6) (.seq (.region [qo .mv [.env 5],
qo .mv [.const (.nils)],
qo .mv [.loc 1]] [(3, 1), (4, 0)])
(.ret)) (.skip))))
(.seq (.region [qo .mv [.env 0],
qo .mv [.env 2],
qo (.call 32) [.loc 1, .loc 0],
qo .mv [.loc 0],
qo .mv [.const (.int .i64 0)]] [(3, 1), (4, 0)])
(.ret))),
[.tmp 3, .tmp 4]⟩
theorem F12_low : lowFn Tryz.prog false [0, 1, 2, 6, 7, 8, 15] Tryz.f12 = some F12 := by as_aux_lemma => kernel_rfl
def F13 : LFunc := ⟨[0, 1, 4, 5, 10, 14, 27], 2,
.seq (.region [qo .mv [.const (.bool false)]] [(2, 0)])
(.seq (.seq (.region [qo .mv [.env 0],
qo (.len false) [.loc 0],
qo .mv [.env 1],
qo (.len false) [.loc 0],
qo (.bin .neq) [.loc 2, .loc 0]] [(4, 0)])
(.cond (.env 4) (.seq (.region [qo .mv [.const (.bool false)]] [(2, 0)])
(.ret)) (.skip)))
(.seq (.seq (.region [qo .mv [.const (.int .i64 0)]] [(3, 0)])
(.block 0 (.loop (.seq (.seq (.region [qo .mv [.env 3],
qo .mv [.env 0],
qo (.len false) [.loc 0],
qo (.bin .lss) [.loc 2, .loc 0]] [(5, 0)])
(.cond (.env 5) (.skip) (.exit 0)))
(.seq (.block 1 (.seq (.drawn [qo .mv [.env 0],
qw .mv [.env 3] 0 1,
qw (.iaddr 1) [.loc 1, .loc 0] 3 2,
qw (.load 1 false) [.loc 0] 7 3,
qw .bstr [.loc 0] 15 4,
qw .mv [.env 1] 0 5,
qw .mv [.env 3] 0 6,
qw (.iaddr 1) [.loc 1, .loc 0] 96 7,
qw (.load 1 false) [.loc 0] 224 8,
qw .bstr [.loc 0] 480 9,
qw (.bin .neq) [.loc 5, .loc 0] 1023 10] [(6, 0)] [])
(.cond (.env 6) (.seq (.region [qo .mv [.const (.bool false)]] [(2, 0)])
(.ret)) (.skip))))
(.region [qo .mv [.env 3],
qo (.bin .add) [.loc 0, .const (.int .i64 1)],
qo .mv [.loc 0]] [(3, 0)]))))))
(.seq (.region [qo .mv [.const (.bool true)]] [(2, 0)])
(.ret)))),
[.tmp 2]⟩
theorem F13_low : lowFn Tryz.prog false [0, 1, 4, 5, 10, 14, 27] Tryz.f13 = some F13 := by as_aux_lemma => kernel_rfl
def F14 : LFunc := ⟨[0, 1, 4, 5, 6, 7, 8, 12, 32, 43], 2,
.seq (.region [qo .mv [.const (.nils)]] [(2, 0)])
(.seq (.region [qo .mv [.const (.nils)]] [(3, 0)])
(.seq (.seq (.region [qo .mv [.const (.int .i64 0)]] [(4, 0)])
(.block 0 (.loop (.seq (.seq (.region [qo .mv [.env 4],
qo .mv [.env 1],
qo (.len false) [.loc 0],
qo (.bin .lss) [.loc 2, .loc 0]] [(7, 0)])
(.cond (.env 7) (.skip) (.exit 0)))
(.seq (.block 1 (.seq (.region [qo .mv [.env 3],
qo (.len false) [.loc 0],
qo .mv [.loc 0]] [(5, 0)])
(.seq (.block 2 (.loop (.seq (.seq (.drawn [qo .mv [.env 5],
qw (.bin .gtr) [.loc 0, .const (.int .i64 0)] 1 1,
qw .mv [.loc 0] 3 2,
qh .mv [.env 0] 0 true 7 3,
qh .mv [.env 3] 1 true 7 4,
qh .mv [.env 5] 2 true 7 5,
qh (.bin .sub) [.loc 0, .const (.int .i64 1)] 3 true 39 6,
qh (.iaddr 1) [.loc 2, .loc 0] 4 true 119 7,
qh (.load 1 false) [.loc 0] 5 true 247 8,
qh .mv [.env 1] 6 true 7 9,
qh .mv [.env 4] 7 true 7 10,
qh (.iaddr 1) [.loc 1, .loc 0] 8 true 1543 11,
qh (.load 1 false) [.loc 0] 9 true 3591 12,
qh (.call 17) [.loc 9, .loc 4, .loc 0] 10 true 8191 13,
qh (.bin .gtr) [.loc 0, .const (.int .i64 0)] 11 true 16383 14,
qw .pick [.loc 12, .loc 0, .const (.bool false)] 32767 15] [(8, 0)] [])
(.cond (.env 8) (.skip) (.exit 2)))
(.block 3 (.region [qo .mv [.env 5],
qo (.bin .sub) [.loc 0, .const (.int .i64 1)],
qo .mv [.loc 0]] [(5, 0)])))))
(.seq (.region [qo .mv [.env 3],
qo (.bslice 43 1 1 [.nils] [0] 2) [.const (.nils)],
qo (.append 43 1 24 2) [.loc 1, .loc 0],
qo .mv [.loc 0]] [(3, 0)])
(.seq (.seq (.region [qo .mv [.env 3],
qo (.len false) [.loc 0],
qo (.bin .sub) [.loc 0, .const (.int .i64 1)],
qo .mv [.loc 0]] [(6, 0)])
(.block 4 (.loop (.seq (.seq (.region [qo .mv [.env 6],
qo .mv [.env 5],
qo (.bin .gtr) [.loc 1, .loc 0]] [(9, 0)])
(.cond (.env 9) (.skip) (.exit 4)))
(.seq (.block 5 (.region [qo .mv [.env 3],
qo .mv [.env 6],
qo .mv [.env 3],
qo .mv [.env 6],
qo (.bin .sub) [.loc 0, .const (.int .i64 1)],
qo (.iaddr 1) [.loc 2, .loc 0],
qo (.load 1 false) [.loc 0],
qo (.iaddr 1) [.loc 6, .loc 5],
qo (.store 1) [.loc 0, .loc 1]] []))
(.region [qo .mv [.env 6],
qo (.bin .sub) [.loc 0, .const (.int .i64 1)],
qo .mv [.loc 0]] [(6, 0)]))))))
(.region [qo .mv [.env 3],
qo .mv [.env 5],
qo .mv [.env 1],
qo .mv [.env 4],
qo (.iaddr 1) [.loc 1, .loc 0],
qo (.load 1 false) [.loc 0],
qo (.iaddr 1) [.loc 5, .loc 4],
qo (.store 1) [.loc 0, .loc 1]] []))))))
(.region [qo .mv [.env 4],
qo (.bin .add) [.loc 0, .const (.int .i64 1)],
qo .mv [.loc 0]] [(4, 0)]))))))
(.seq (.region [qo .mv [.env 3],
qo .mv [.loc 0]] [(2, 0)])
(.ret)))),
[.tmp 2]⟩
theorem F14_low : lowFn Tryz.prog true [0, 1, 4, 5, 6, 7, 8, 12, 32, 43] Tryz.f14 = some F14 := by as_aux_lemma => kernel_rfl
def F15 : LFunc := ⟨[0, 1, 2, 3, 8, 9, 11, 12, 15, 16, 17, 18, 26], 4,
.seq (.region [qo .mv [.const (.int .i64 0)],
qo .mv [.const (.int .i64 0)]] [(4, 1), (5, 0)])
(.seq (.seq (.region [qo .mv [.env 2],
qo .mv [.env 3],
qo (.bslice 43 1 2 [.nils] [0, 1] 1) [.loc 1, .loc 0],
qo (.len false) [.loc 0],
qo .mv [.const (.int .i64 0)]] [(8, 2), (9, 1), (10, 0)])
(.block 0 (.loop (.seq (.region [qo (.bin .lss) [.env 10, .env 9]] [(11, 0)])
(.seq (.cond (.env 11) (.skip) (.exit 0))
(.seq (.block 1 (.seq (.region [qo (.iaddr 1) [.env 8, .env 10],
qo (.load 1 false) [.loc 0],
qo .mv [.loc 0]] [(6, 0)])
(.seq (.region [qo .mv [.env 0],
qo .mv [.env 1],
qo .mv [.env 6],
qo (.call 30) [.loc 2, .loc 1, .loc 0],
qo .mv [.loc 0]] [(7, 0)])
(.seq (.region [qo .mv [.env 7],
qo (.bin .neq) [.loc 0, .const (.int .i64 0)]] [(12, 0)])
(.cond (.env 12) (.seq (.region [qo .mv [.env 7],
qo .mv [.const (.int .i64 0)],
qo .mv [.loc 1]] [(4, 1), (5, 0)])
(.ret)) (.skip))))))
(.region [qo (.bin .add) [.env 10, .const (.int .i64 1)],
qo .mv [.loc 0]] [(10, 0)])))))))
(.seq (.region [qo .mv [.env 0],
qo .mv [.env 2],
qo .mv [.env 3],
qo (.call 33) [.loc 2, .loc 1, .loc 0],
qo .mv [.loc 0],
qo .mv [.const (.int .i64 0)]] [(4, 1), (5, 0)])
(.ret))),
[.tmp 4, .tmp 5]⟩
theorem F15_low : lowFn Tryz.prog false [0, 1, 2, 3, 8, 9, 11, 12, 15, 16, 17, 18, 26] Tryz.f15 = some F15 := by as_aux_lemma => kernel_rfl
def F16 : LFunc := ⟨[0, 2, 3, 4, 5, 9], 1,
.seq (.region [qo .mv [.const (.nils)]] [(1, 0)])
(.seq (.region [qo (.mkslice 5 1 1 [.int .u8 0] 2) [.const (.int .i64 6), .const (.int .i64 6)],
qo .mv [.loc 0]] [(2, 0)])
(.seq (.region [qo .mv [.env 0],
qo .mv [.loc 0]] [(3, 0)])
(.seq (.seq (.region [qo .mv [.const (.int .i64 5)]] [(4, 0)])
(.block 0 (.loop (.seq (.seq (.region [qo .mv [.env 4],
qo (.bin .geq) [.loc 0, .const (.int .i64 0)]] [(5, 0)])
(.cond (.env 5) (.skip) (.exit 0)))
(.seq (.block 1 (.seq (.region [qo .mv [.env 2],
qo .mv [.env 4],
qo .mv [.env 3],
qo (.bin .rem) [.loc 0, .const (.int .u32 10)],
qo (.conv .u8) [.loc 0],
qo (.bin .add) [.const (.int .u8 48), .loc 0],
qo (.iaddr 1) [.loc 5, .loc 4],
qo (.store 1) [.loc 0, .loc 1]] [])
(.region [qo .mv [.env 3],
qo (.bin .quo) [.loc 0, .const (.int .u32 10)],
qo .mv [.loc 0]] [(3, 0)])))
(.region [qo .mv [.env 4],
qo (.bin .sub) [.loc 0, .const (.int .i64 1)],
qo .mv [.loc 0]] [(4, 0)]))))))
(.seq (.region [qo .mv [.env 2],
qo .mv [.loc 0]] [(1, 0)])
(.ret))))),
[.tmp 1]⟩
theorem F16_low : lowFn Tryz.prog true [0, 2, 3, 4, 5, 9] Tryz.f16 = some F16 := by as_aux_lemma => kernel_rfl
def F17 : LFunc := ⟨[0, 1, 2, 6, 7, 8, 9, 13, 31, 42, 54], 3,
.seq (.region [qo .mv [.const (.int .i64 0)]] [(3, 0)])
(.seq (.seq (.region [qo .mv [.const (.int .i64 0)]] [(4, 0)])
(.block 0 (.loop (.seq (.seq (.region [qo .mv [.env 4],
qo .mv [.env 0],
qo (.len false) [.loc 0],
qo (.bin .lss) [.loc 2, .loc 0]] [(7, 0)])
(.cond (.env 7) (.skip) (.exit 0)))
(.seq (.block 1 (.seq (.region [qo .mv [.env 0],
qo .mv [.env 4],
qo (.iaddr 14) [.loc 1, .loc 0],
qo (.load 14 true) [.loc 0],
qo (.alloc 59 [.int .i64 0, .int .i64 0, .int .u8 0, .int .u8 0, .str ⟨#[]⟩, .int .i64 0, .int .i64 0, .bool false, .bool false, .bool false, .bool false, .bool false, .int .i64 0, .bool false]) [],
qo (.store 14) [.loc 0, .loc 1]] [(5, 1)])
(.seq (.region [qo (.faddr 0) [.env 5],
qo (.faddr 0) [.loc 0],
qo (.load 1 false) [.loc 0],
qo .mv [.loc 0]] [(6, 0)])
(.block 2 (.loop (.seq (.seq (.region [qo .mv [.env 6],
qo (.faddr 0) [.env 5],
qo (.faddr 0) [.loc 0],
qo (.load 1 false) [.loc 0],
qo (.faddr 0) [.env 5],
qo (.faddr 1) [.loc 0],
qo (.load 1 false) [.loc 0],
qo (.bin .add) [.loc 3, .loc 0],
qo (.bin .lss) [.loc 7, .loc 0]] [(8, 0)])
(.cond (.env 8) (.skip) (.exit 2)))
(.seq (.block 3 (.seq (.drawn [qo .mv [.env 1],
qw .mv [.env 6] 0 1,
qw (.iaddr 1) [.loc 1, .loc 0] 3 2,
qw (.load 1 false) [.loc 0] 7 3,
qw .mv [.env 2] 0 4,
qw .mv [.env 6] 0 5,
qw (.iaddr 1) [.loc 1, .loc 0] 48 6,
qw (.load 1 false) [.loc 0] 112 7,
qw (.bin .neq) [.loc 4, .loc 0] 255 8] [(9, 0)] [])
(.cond (.env 9) (.seq (.seq (.drawn [qo .mv [.env 1],
qw .mv [.env 6] 0 1,
qw (.iaddr 1) [.loc 1, .loc 0] 3 2,
qw (.load 1 false) [.loc 0] 7 3,
qw .mv [.env 2] 0 4,
qw .mv [.env 6] 0 5,
qw (.iaddr 1) [.loc 1, .loc 0] 48 6,
qw (.load 1 false) [.loc 0] 112 7,
qw (.bin .lss) [.loc 4, .loc 0] 255 8,
qw (.faddr 13) [.env 5] 0 9,
qw (.load 1 false) [.loc 0] 512 10,
qw (.eqb true) [.loc 2, .loc 0] 2047 11] [(10, 0)] [])
(.cond (.env 10) (.seq (.region [qo .mv [.const (.int .i64 (-1))]] [(3, 0)])
(.ret)) (.skip)))
(.seq (.region [qo .mv [.const (.int .i64 1)]] [(3, 0)])
(.ret))) (.skip))))
(.region [qo .mv [.env 6],
qo (.bin .add) [.loc 0, .const (.int .i64 1)],
qo .mv [.loc 0]] [(6, 0)]))))))))
(.region [qo .mv [.env 4],
qo (.bin .add) [.loc 0, .const (.int .i64 1)],
qo .mv [.loc 0]] [(4, 0)]))))))
(.seq (.region [qo .mv [.const (.int .i64 0)]] [(3, 0)])
(.ret))),
[.tmp 3]⟩
theorem F17_low : lowFn Tryz.prog false [0, 1, 2, 6, 7, 8, 9, 13, 31, 42, 54] Tryz.f17 = some F17 := by as_aux_lemma => kernel_rfl
def F18 : LFunc := ⟨[0, 2, 3, 4, 5, 7, 8, 9, 16, 19, 20, 21, 22, 31, 37], 1,
.seq (.region [qo (.alloc 51 [.int .u8 0, .int .u8 0, .str ⟨#[]⟩, .int .i64 0, .int .i64 0, .bool false, .bool false, .bool false, .bool false, .bool false, .int .i64 0]) [],
qo .mv [.const (.int .i64 0)]] [(1, 1), (2, 0)])
(.seq (.region [qo .mv [.env 0],
qo (.call 34) [.loc 0],
qo .mv [.loc 0],
qo (.extract 0) [.loc 0],
qo (.extract 1) [.loc 1],
qo .mv [.loc 1],
qo .mv [.loc 1]] [(3, 1), (4, 0)])
(.seq (.seq (.region [qo .mv [.env 4],
qo (.bin .neq) [.loc 0, .const (.int .i64 0)]] [(8, 0)])
(.cond (.env 8) (.seq (.region [qo (.build [.int .u8 0, .int .u8 0, .str ⟨#[]⟩, .int .i64 0, .int .i64 0, .bool false, .bool false, .bool false, .bool false, .bool false, .int .i64 0] []) [],
qo .mv [.env 4],
qo (.store 11) [.env 1, .loc 1],
qo .mv [.loc 1]] [(2, 0)])
(.ret)) (.skip)))
(.seq (.seq (.region [qo (.bslice 87 1 3 [.nilfn] [0, 1, 2] 1) [.const (.fn 35 []), .const (.fn 36 []), .const (.fn 37 [])],
qo (.len false) [.loc 0],
qo .mv [.const (.int .i64 0)]] [(9, 2), (10, 1), (11, 0)])
(.block 0 (.loop (.seq (.region [qo (.bin .lss) [.env 11, .env 10]] [(12, 0)])
(.seq (.cond (.env 12) (.skip) (.exit 0))
(.seq (.block 1 (.seq (.region [qo (.iaddr 1) [.env 9, .env 11],
qo (.load 1 false) [.loc 0],
qo .mv [.loc 0]] [(5, 0)])
(.seq (.region [qo .mv [.env 5],
qo .mv [.env 3],
qo .callv [.loc 1, .loc 0],
qo .mv [.loc 0],
qo (.extract 0) [.loc 0],
qo (.extract 1) [.loc 1],
qo (.alloc 51 [.int .u8 0, .int .u8 0, .str ⟨#[]⟩, .int .i64 0, .int .i64 0, .bool false, .bool false, .bool false, .bool false, .bool false, .int .i64 0]) [],
qo (.store 11) [.loc 0, .loc 2],
qo .mv [.loc 2]] [(6, 2), (7, 0)])
(.seq (.region [qo .mv [.env 7]] [(13, 0)])
(.cond (.env 13) (.seq (.seq (.drawn [qo (.faddr 3) [.env 6],
qw (.load 1 false) [.loc 0] 1 1,
qw .mv [.env 3] 0 2,
qw (.call 38) [.loc 0, .const (.str ⟨#[80]⟩)] 4 3,
qw (.bin .add) [.loc 2, .loc 0] 15 4,
qw (.bin .gtr) [.loc 0, .const (.int .i64 18)] 31 5] [(14, 0)] [])
(.cond (.env 14) (.seq (.region [qo (.build [.int .u8 0, .int .u8 0, .str ⟨#[]⟩, .int .i64 0, .int .i64 0, .bool false, .bool false, .bool false, .bool false, .bool false, .int .i64 0] []) [],
qo (.store 11) [.env 1, .loc 0],
qo .mv [.const (.int .i64 3)]] [(2, 0)])
(.ret)) (.skip)))
(.seq (.region [qo (.load 11 true) [.env 6],
qo (.store 11) [.env 1, .loc 0],
qo .mv [.const (.int .i64 0)]] [(2, 0)])
(.ret))) (.skip))))))
(.region [qo (.bin .add) [.env 11, .const (.int .i64 1)],
qo .mv [.loc 0]] [(11, 0)])))))))
(.seq (.region [qo (.build [.int .u8 0, .int .u8 0, .str ⟨#[]⟩, .int .i64 0, .int .i64 0, .bool false, .bool false, .bool false, .bool false, .bool false, .int .i64 0] []) [],
qo (.store 11) [.env 1, .loc 0],
qo .mv [.const (.int .i64 4)]] [(2, 0)])
(.ret))))),
[.cell 1 11 true, .tmp 2]⟩
theorem F18_low : lowFn Tryz.prog false [0, 2, 3, 4, 5, 7, 8, 9, 16, 19, 20, 21, 22, 31, 37] Tryz.f18 = some F18 := by as_aux_lemma => kernel_rfl
def F19 : LFunc := ⟨[0, 2, 3, 4, 20], 1,
.seq (.region [qo .mv [.const (.nils)]] [(1, 0)])
(.seq (.region [qo .mv [.env 0],
qo .mv [.env 0],
qo (.un .neg) [.loc 0],
qo .max [.loc 2, .loc 0],
qo .mv [.loc 0]] [(2, 0)])
(.seq (.region [qo .mv [.env 2],
qo (.bin .quo) [.loc 0, .const (.int .i64 100)],
qo (.conv .u8) [.loc 0],
qo (.bin .add) [.const (.int .u8 48), .loc 0],
qo .mv [.env 2],
qo (.bin .quo) [.loc 0, .const (.int .i64 10)],
qo (.bin .rem) [.loc 0, .const (.int .i64 10)],
qo (.conv .u8) [.loc 0],
qo (.bin .add) [.const (.int .u8 48), .loc 0],
qo (.bslice 5 1 3 [.int .u8 0] [0, 1, 2] 2) [.loc 5, .loc 0, .const (.int .u8 0)],
qo .mv [.loc 0]] [(3, 0)])
(.seq (.seq (.region [qo .mv [.env 0],
qo (.bin .lss) [.loc 0, .const (.int .i64 0)]] [(4, 0)])
(.cond (.env 4) (.region [qo .mv [.env 3],
qo .mv [.env 2],
qo (.bin .rem) [.loc 0, .const (.int .i64 10)],
qo .index [.const (.str ⟨#[125, 74, 75, 76, 77, 78, 79, 80, 81, 82]⟩), .loc 0],
qo (.iaddr 1) [.loc 3, .const (.int .i64 2)],
qo (.store 1) [.loc 0, .loc 1]] []) (.region [⟨.mv, [.env 3], none, [], none⟩,
qo .mv [.env 2],
qo (.bin .rem) [.loc 0, .const (.int .i64 10)],
qo .index [.const (.str ⟨#[123, 65, 66, 67, 68, 69, 70, 71, 72, 73]⟩), .loc 0],
qo (.iaddr 1) [.loc 3, .const (.int .i64 2)],
qo (.store 1) [.loc 0, .loc 1]] [])))
(.seq (.region [qo .mv [.env 3],
qo .mv [.loc 0]] [(1, 0)])
(.ret))))),
[.tmp 1]⟩
theorem F19_low : lowFn Tryz.prog true [0, 2, 3, 4, 20] Tryz.f19 = some F19 := by as_aux_lemma => kernel_rfl
def F20 : LFunc := ⟨[0, 2, 3, 4, 10], 1,
.seq (.region [qo .mv [.const (.nils)]] [(1, 0)])
(.seq (.region [qo .mv [.env 0],
qo .mv [.env 0],
qo (.un .neg) [.loc 0],
qo .max [.loc 2, .loc 0],
qo .mv [.loc 0]] [(2, 0)])
(.seq (.region [qo .mv [.const (.int .u8 12)]] [(3, 0)])
(.seq (.seq (.region [qo .mv [.env 0],
qo (.bin .lss) [.loc 0, .const (.int .i64 0)]] [(4, 0)])
(.cond (.env 4) (.region [qo .mv [.const (.int .u8 13)]] [(3, 0)]) (.skip)))
(.seq (.region [qo .mv [.env 2],
qo (.bin .quo) [.loc 0, .const (.int .i64 100)],
qo (.conv .u8) [.loc 0],
qo (.bin .shl) [.loc 0, .const (.int .u64 4)],
qo .mv [.env 2],
qo (.bin .quo) [.loc 0, .const (.int .i64 10)],
qo (.bin .rem) [.loc 0, .const (.int .i64 10)],
qo (.conv .u8) [.loc 0],
qo (.bin .or) [.loc 4, .loc 0],
qo .mv [.env 2],
qo (.bin .rem) [.loc 0, .const (.int .i64 10)],
qo (.conv .u8) [.loc 0],
qo (.bin .shl) [.loc 0, .const (.int .u64 4)],
qo .mv [.env 3],
qo (.bin .or) [.loc 1, .loc 0],
qo (.bslice 5 1 2 [.int .u8 0] [0, 1] 1) [.loc 6, .loc 0],
qo .mv [.loc 0]] [(1, 0)])
(.ret))))),
[.tmp 1]⟩
theorem F20_low : lowFn Tryz.prog false [0, 2, 3, 4, 10] Tryz.f20 = some F20 := by as_aux_lemma => kernel_rfl
def F21 : LFunc := ⟨[0, 1, 2, 3, 6, 7, 8, 10, 16, 18, 19, 20, 21, 27], 3,
.seq (.region [qo (.box 26 1) [.env 0],
qo .mv [.const (.nils)],
qo .mv [.const (.int .i64 0)]] [(3, 2), (4, 1), (5, 0)])
(.seq (.seq (.region [qo (.load 1 false) [.env 3],
qo .mv [.env 1],
qo .mv [.env 2],
qo (.call 31) [.loc 2, .loc 1, .loc 0],
qo .mv [.loc 0]] [(6, 0)])
(.seq (.region [qo .mv [.env 6],
qo (.bin .neq) [.loc 0, .const (.int .i64 0)]] [(8, 0)])
(.cond (.env 8) (.seq (.region [qo .mv [.env 6],
qo .mv [.const (.nils)],
qo .mv [.loc 1]] [(4, 1), (5, 0)])
(.ret)) (.skip))))
(.seq (.seq (.region [qo .mv [.env 2],
qo (.len false) [.loc 0],
qo .mv [.const (.int .i64 0)]] [(9, 2), (10, 1), (11, 0)])
(.block 0 (.loop (.seq (.region [qo (.bin .lss) [.env 11, .env 10]] [(12, 0)])
(.seq (.cond (.env 12) (.skip) (.exit 0))
(.seq (.block 1 (.seq (.region [qo (.iaddr 1) [.env 9, .env 11],
qo (.load 1 false) [.loc 0],
qo .mv [.loc 0]] [(7, 0)])
(.seq (.region [qo .mv [.env 7],
qo (.mkfn 40) [.env 3],
qo (.call 39) [.loc 1, .loc 0],
qo (.un .not) [.loc 0]] [(13, 0)])
(.cond (.env 13) (.seq (.region [qo .mv [.const (.nils)],
qo .mv [.const (.int .i64 6)]] [(4, 1), (5, 0)])
(.ret)) (.skip)))))
(.region [qo (.bin .add) [.env 11, .const (.int .i64 1)],
qo .mv [.loc 0]] [(11, 0)])))))))
(.seq (.drawn [qo (.load 1 false) [.env 3],
qw .mv [.env 2] 0 1,
qw (.call 41) [.loc 0] 2 2,
qw (.call 32) [.loc 2, .loc 0] 7 3,
qw .mv [.loc 0] 15 4,
qw .mv [.const (.int .i64 0)] 31 5] [(4, 1), (5, 0)] [])
(.ret)))),
[.tmp 4, .tmp 5]⟩
theorem F21_low : lowFn Tryz.prog false [0, 1, 2, 3, 6, 7, 8, 10, 16, 18, 19, 20, 21, 27] Tryz.f21 = some F21 := by as_aux_lemma => kernel_rfl
def F22 : LFunc := ⟨[0, 1, 4, 5, 6, 11], 2,
.seq (.region [qo .mv [.const (.nilp)],
qo .mv [.const (.int .i64 0)]] [(2, 1), (3, 0)])
(.seq (.seq (.region [qo .mv [.env 0],
qo .mv [.env 1],
qo (.call 29) [.loc 1, .loc 0],
qo .mv [.loc 0]] [(4, 0)])
(.seq (.region [qo .mv [.env 4],
qo (.bin .neq) [.loc 0, .const (.int .i64 0)]] [(5, 0)])
(.cond (.env 5) (.seq (.region [qo .mv [.env 4],
qo .mv [.const (.nilp)],
qo .mv [.loc 1]] [(2, 1), (3, 0)])
(.ret)) (.skip))))
(.seq (.region [qo .mv [.env 0],
qo (.call 42) [.loc 0],
qo .mv [.env 1],
qo (.build [.nils, .int .i64 0, .nils, .bool false] [(0, 1), (1, 1)]) [.loc 1, .loc 0],
qo (.box 80 4) [.loc 0],
qo .mv [.loc 0],
qo .mv [.const (.int .i64 0)]] [(2, 1), (3, 0)])
(.ret))),
[.tmp 2, .tmp 3]⟩
theorem F22_low : lowFn Tryz.prog false [0, 1, 4, 5, 6, 11] Tryz.f22 = some F22 := by as_aux_lemma => kernel_rfl
def F23 : LFunc := ⟨[0, 1, 4, 5, 6, 9, 25, 32], 2,
.seq (.region [qo .mv [.const (.int .i64 0)]] [(2, 0)])
(.seq (.block 0 (.seq (.region [qo .mv [.env 0],
qo (.call 43) [.loc 0],
qo .mv [.loc 0]] [(4, 0)])
(.cond (.env 4) (.seq (.region [qo .mv [.const (.int .i64 2)]] [(2, 0)])
(.ret)) (.seq (.region [qo .mv [.env 0],
qo .nilck [.loc 0],
qo (.faddr 3) [.loc 0],
qo (.load 1 false) [.loc 0],
qo .mv [.loc 0]] [(5, 0)])
(.cond (.env 5) (.seq (.region [qo .mv [.const (.int .i64 6)]] [(2, 0)])
(.ret)) (.skip))))))
(.seq (.seq (.drawn [qo .mv [.env 0],
qw .nilck [.loc 0] 1 1,
qw (.faddr 0) [.loc 0] 3 2,
qw (.load 1 false) [.loc 0] 7 3,
qw .mv [.env 0] 0 4,
qw .nilck [.loc 0] 16 5,
qw (.faddr 1) [.loc 0] 48 6,
qw (.load 1 false) [.loc 0] 112 7,
qw .mv [.env 1] 0 8,
qw (.call 44) [.loc 5, .loc 1, .loc 0] 511 9,
qw .mv [.loc 0] 1023 10] [(3, 0)] [])
(.seq (.region [qo .mv [.env 3],
qo (.bin .neq) [.loc 0, .const (.int .i64 0)]] [(6, 0)])
(.cond (.env 6) (.seq (.region [qo .mv [.env 3],
qo .mv [.loc 0]] [(2, 0)])
(.ret)) (.skip))))
(.seq (.seq (.region [qo .mv [.env 0],
qo .nilck [.loc 0],
qo (.faddr 2) [.loc 0],
qo (.load 1 false) [.loc 0],
qo (.len false) [.loc 0],
qo (.bin .geq) [.loc 0, .const (.int .i64 65536)]] [(7, 0)])
(.cond (.env 7) (.seq (.region [qo .mv [.const (.int .i64 9)]] [(2, 0)])
(.ret)) (.skip)))
(.seq (.drawn [qo .mv [.env 0],
qw .mv [.env 0] 0 1,
qw .nilck [.loc 0] 2 2,
qw (.faddr 2) [.loc 0] 6 3,
qw (.load 1 false) [.loc 0] 14 4,
qw .mv [.env 1] 0 5,
qw (.call 45) [.loc 0] 32 6,
qw (.bslice 43 1 1 [.nils] [0] 1) [.loc 0] 96 7,
qw (.append 43 1 24 1) [.loc 3, .loc 0] 254 8,
qw .nilck [.loc 8] 511 9,
qw (.faddr 2) [.loc 0] 1023 10,
qw (.store 1) [.loc 0, .loc 2] 2047 11] [] [])
(.seq (.region [qo .mv [.const (.int .i64 0)]] [(2, 0)])
(.ret)))))),
[.tmp 2]⟩
theorem F23_low : lowFn Tryz.prog false [0, 1, 4, 5, 6, 9, 25, 32] Tryz.f23 = some F23 := by as_aux_lemma => kernel_rfl
def F24 : LFunc := ⟨[0, 2, 3, 6], 1,
.seq (.region [qo .mv [.const (.int .i64 0)]] [(1, 0)])
(.seq (.block 0 (.seq (.region [qo .mv [.env 0],
qo (.call 43) [.loc 0],
qo .mv [.loc 0]] [(2, 0)])
(.cond (.env 2) (.seq (.region [qo .mv [.const (.int .i64 2)]] [(1, 0)])
(.ret)) (.seq (.region [qo .mv [.env 0],
qo .nilck [.loc 0],
qo (.faddr 3) [.loc 0],
qo (.load 1 false) [.loc 0],
qo .mv [.loc 0]] [(3, 0)])
(.cond (.env 3) (.seq (.region [qo .mv [.const (.int .i64 6)]] [(1, 0)])
(.ret)) (.skip))))))
(.seq (.region [qo .mv [.env 0],
qo .nilck [.loc 0],
qo (.faddr 3) [.loc 0],
qo (.store 1) [.loc 0, .const (.bool true)]] [])
(.seq (.drawn [qo .mv [.env 0],
qw .mv [.env 0] 0 1,
qw .nilck [.loc 0] 2 2,
qw (.faddr 0) [.loc 0] 6 3,
qw (.load 1 false) [.loc 0] 14 4,
qw .mv [.env 0] 0 5,
qw .nilck [.loc 0] 32 6,
qw (.faddr 2) [.loc 0] 96 7,
qw (.load 1 false) [.loc 0] 224 8,
qw (.call 32) [.loc 4, .loc 0] 510 9,
qw .nilck [.loc 9] 1023 10,
qw (.faddr 2) [.loc 0] 2047 11,
qw (.store 1) [.loc 0, .loc 2] 4095 12] [] [])
(.seq (.region [qo .mv [.const (.int .i64 0)]] [(1, 0)])
(.ret))))),
[.tmp 1]⟩
theorem F24_low : lowFn Tryz.prog false [0, 2, 3, 6] Tryz.f24 = some F24 := by as_aux_lemma => kernel_rfl
def F25 : LFunc := ⟨[0, 2, 3, 4, 5, 6, 9, 15], 1,
.seq (.region [qo .mv [.const (.nils)],
qo .mv [.const (.bool false)],
qo .mv [.const (.int .i64 0)]] [(1, 2), (2, 1), (3, 0)])
(.seq (.block 0 (.seq (.region [qo .mv [.env 0],
qo (.call 43) [.loc 0],
qo .mv [.loc 0]] [(5, 0)])
(.cond (.env 5) (.seq (.region [qo .mv [.const (.nils)],
qo .mv [.const (.bool false)],
qo .mv [.const (.int .i64 2)]] [(1, 2), (2, 1), (3, 0)])
(.ret)) (.seq (.region [qo .mv [.env 0],
qo .nilck [.loc 0],
qo (.faddr 3) [.loc 0],
qo (.load 1 false) [.loc 0],
qo (.un .not) [.loc 0],
qo .mv [.loc 0]] [(6, 0)])
(.cond (.env 6) (.seq (.region [qo .mv [.const (.nils)],
qo .mv [.const (.bool false)],
qo .mv [.const (.int .i64 6)]] [(1, 2), (2, 1), (3, 0)])
(.ret)) (.seq (.region [qo .mv [.env 0],
qo .nilck [.loc 0],
qo (.faddr 2) [.loc 0],
qo (.load 1 false) [.loc 0],
qo (.len false) [.loc 0],
qo (.bin .eql) [.loc 0, .const (.int .i64 0)],
qo .mv [.loc 0]] [(7, 0)])
(.cond (.env 7) (.seq (.region [qo .mv [.const (.nils)],
qo .mv [.const (.bool false)],
qo .mv [.const (.int .i64 0)]] [(1, 2), (2, 1), (3, 0)])
(.ret)) (.skip))))))))
(.seq (.region [qo .mv [.env 0],
qo .nilck [.loc 0],
qo (.faddr 2) [.loc 0],
qo (.load 1 false) [.loc 0],
qo (.iaddr 1) [.loc 0, .const (.int .i64 0)],
qo (.load 1 false) [.loc 0],
qo .mv [.loc 0]] [(4, 0)])
(.seq (.region [qo .mv [.env 0],
qo .mv [.env 0],
qo .nilck [.loc 0],
qo (.faddr 2) [.loc 0],
qo (.load 1 false) [.loc 0],
qo (.slice false 1 true false false) [.loc 0, .const (.int .i64 1)],
qo .nilck [.loc 5],
qo (.faddr 2) [.loc 0],
qo (.store 1) [.loc 0, .loc 2]] [])
(.seq (.region [qo .mv [.env 4],
qo .mv [.loc 0],
qo .mv [.const (.bool true)],
qo .mv [.const (.int .i64 0)]] [(1, 2), (2, 1), (3, 0)])
(.ret))))),
[.tmp 1, .tmp 2, .tmp 3]⟩
theorem F25_low : lowFn Tryz.prog false [0, 2, 3, 4, 5, 6, 9, 15] Tryz.f25 = some F25 := by as_aux_lemma => kernel_rfl
def F26 : LFunc := ⟨[0, 2, 4], 1,
.seq (.region [qo .mv [.const (.int .i64 0)]] [(1, 0)])
(.seq (.seq (.region [qo .mv [.env 0],
qo (.call 43) [.loc 0]] [(2, 0)])
(.cond (.env 2) (.seq (.region [qo .mv [.const (.int .i64 0)]] [(1, 0)])
(.ret)) (.skip)))
(.seq (.region [qo .mv [.env 0],
qo .nilck [.loc 0],
qo (.faddr 2) [.loc 0],
qo (.load 1 false) [.loc 0],
qo (.len false) [.loc 0],
qo .mv [.loc 0]] [(1, 0)])
(.ret))),
[.tmp 1]⟩
theorem F26_low : lowFn Tryz.prog false [0, 2, 4] Tryz.f26 = some F26 := by as_aux_lemma => kernel_rfl
def F27 : LFunc := ⟨[0, 2, 3, 4, 5, 9], 1,
.seq (.region [qo (.alloc 51 [.int .u8 0, .int .u8 0, .str ⟨#[]⟩, .int .i64 0, .int .i64 0, .bool false, .bool false, .bool false, .bool false, .bool false, .int .i64 0]) []] [(1, 0)])
(.seq (.region [qo .mv [.const (.str ⟨#[]⟩)]] [(2, 0)])
(.seq (.seq (.region [qo .mv [.const (.int .i64 0)]] [(3, 0)])
(.block 0 (.loop (.seq (.seq (.region [qo .mv [.env 3],
qo .mv [.env 0],
qo (.bin .lss) [.loc 1, .loc 0]] [(5, 0)])
(.cond (.env 5) (.skip) (.exit 0)))
(.seq (.block 1 (.region [qo .mv [.env 2],
qo (.bin .add) [.loc 0, .const (.str ⟨#[88]⟩)],
qo .mv [.loc 0]] [(2, 0)]))
(.region [qo .mv [.env 3],
qo (.bin .add) [.loc 0, .const (.int .i64 1)],
qo .mv [.loc 0]] [(3, 0)]))))))
(.seq (.region [qo .mv [.env 2],
qo (.call 18) [.loc 0],
qo .mv [.loc 0],
qo (.extract 0) [.loc 0],
qo (.extract 1) [.loc 1],
qo (.alloc 51 [.int .u8 0, .int .u8 0, .str ⟨#[]⟩, .int .i64 0, .int .i64 0, .bool false, .bool false, .bool false, .bool false, .bool false, .int .i64 0]) [],
qo (.store 11) [.loc 0, .loc 2],
qo .mv [.loc 2]] [(4, 2)])
(.seq (.region [qo (.load 11 true) [.env 4],
qo (.store 11) [.env 1, .loc 0]] [])
(.ret))))),
[.cell 1 11 true]⟩
theorem F27_low : lowFn Tryz.prog false [0, 2, 3, 4, 5, 9] Tryz.f27 = some F27 := by as_aux_lemma => kernel_rfl
def F28 : LFunc := ⟨[0, 2, 3, 4, 5, 9], 1,
.seq (.region [qo (.alloc 51 [.int .u8 0, .int .u8 0, .str ⟨#[]⟩, .int .i64 0, .int .i64 0, .bool false, .bool false, .bool false, .bool false, .bool false, .int .i64 0]) []] [(1, 0)])
(.seq (.region [qo .mv [.const (.str ⟨#[]⟩)]] [(2, 0)])
(.seq (.seq (.region [qo .mv [.const (.int .i64 0)]] [(3, 0)])
(.block 0 (.loop (.seq (.seq (.region [qo .mv [.env 3],
qo .mv [.env 0],
qo (.bin .lss) [.loc 1, .loc 0]] [(5, 0)])
(.cond (.env 5) (.skip) (.exit 0)))
(.seq (.block 1 (.region [qo .mv [.env 2],
qo (.bin .add) [.loc 0, .const (.str ⟨#[57]⟩)],
qo .mv [.loc 0]] [(2, 0)]))
(.region [qo .mv [.env 3],
qo (.bin .add) [.loc 0, .const (.int .i64 1)],
qo .mv [.loc 0]] [(3, 0)]))))))
(.seq (.region [qo .mv [.env 2],
qo (.call 18) [.loc 0],
qo .mv [.loc 0],
qo (.extract 0) [.loc 0],
qo (.extract 1) [.loc 1],
qo (.alloc 51 [.int .u8 0, .int .u8 0, .str ⟨#[]⟩, .int .i64 0, .int .i64 0, .bool false, .bool false, .bool false, .bool false, .bool false, .int .i64 0]) [],
qo (.store 11) [.loc 0, .loc 2],
qo .mv [.loc 2]] [(4, 2)])
(.seq (.region [qo (.load 11 true) [.env 4],
qo (.store 11) [.env 1, .loc 0]] [])
(.ret))))),
[.cell 1 11 true]⟩
theorem F28_low : lowFn Tryz.prog false [0, 2, 3, 4, 5, 9] Tryz.f28 = some F28 := by as_aux_lemma => kernel_rfl
def F29 : LFunc := ⟨[0, 1, 4, 6, 7, 15, 23, 24, 25, 26, 32], 2,
.seq (.region [qo .mv [.const (.int .i64 0)]] [(2, 0)])
(.seq (.block 0 (.seq (.region [qo .mv [.env 0],
qo (.len false) [.loc 0],
qo (.bin .gtr) [.loc 0, .const (.int .i64 8)],
qo .mv [.loc 0],
qg .mv [.env 1] 0 false,
qg (.bin .gtr) [.loc 0, .const (.int .i64 4096)] 1 false,
qo .pick [.loc 2, .const (.bool true), .loc 0],
qo .mv [.loc 0]] [(4, 0)])
(.cond (.env 4) (.seq (.region [qo .mv [.const (.int .i64 3)]] [(2, 0)])
(.ret)) (.seq (.region [qo .mv [.env 0],
qo (.len false) [.loc 0],
qo (.bin .eql) [.loc 0, .const (.int .i64 0)],
qo .mv [.loc 0],
qg .mv [.env 1] 0 false,
qg (.bin .lss) [.loc 0, .const (.int .i64 1)] 1 false,
qo .pick [.loc 2, .const (.bool true), .loc 0],
qo .mv [.loc 0]] [(5, 0)])
(.cond (.env 5) (.seq (.region [qo .mv [.const (.int .i64 1)]] [(2, 0)])
(.ret)) (.skip))))))
(.seq (.seq (.region [qo .mv [.env 0],
qo (.len false) [.loc 0],
qo .mv [.const (.int .i64 0)]] [(6, 2), (7, 1), (8, 0)])
(.block 1 (.loop (.seq (.region [qo (.bin .lss) [.env 8, .env 7]] [(9, 0)])
(.seq (.cond (.env 9) (.skip) (.exit 1))
(.seq (.block 2 (.seq (.region [qo (.iaddr 14) [.env 6, .env 8],
qo (.load 14 true) [.loc 0],
qo (.alloc 59 [.int .i64 0, .int .i64 0, .int .u8 0, .int .u8 0, .str ⟨#[]⟩, .int .i64 0, .int .i64 0, .bool false, .bool false, .bool false, .bool false, .bool false, .int .i64 0, .bool false]) [],
qo (.store 14) [.loc 0, .loc 1]] [(3, 1)])
(.seq (.region [qo (.load 14 true) [.env 3],
qo .mv [.env 1],
qo (.call 46) [.loc 1, .loc 0],
qo (.un .not) [.loc 0]] [(10, 0)])
(.cond (.env 10) (.seq (.region [qo .mv [.const (.int .i64 1)]] [(2, 0)])
(.ret)) (.skip)))))
(.region [qo (.bin .add) [.env 8, .const (.int .i64 1)],
qo .mv [.loc 0]] [(8, 0)])))))))
(.seq (.region [qo .mv [.const (.int .i64 0)]] [(2, 0)])
(.ret)))),
[.tmp 2]⟩
theorem F29_low : lowFn Tryz.prog false [0, 1, 4, 6, 7, 15, 23, 24, 25, 26, 32] Tryz.f29 = some F29 := by as_aux_lemma => kernel_rfl
def F30 : LFunc := ⟨[0, 1, 2, 6, 7, 12], 3,
.seq (.region [qo .mv [.const (.int .i64 0)]] [(3, 0)])
(.seq (.seq (.region [qo .mv [.env 0],
qo .mv [.env 1],
qo (.call 29) [.loc 1, .loc 0],
qo .mv [.loc 0]] [(4, 0)])
(.seq (.region [qo .mv [.env 4],
qo (.bin .neq) [.loc 0, .const (.int .i64 0)]] [(5, 0)])
(.cond (.env 5) (.seq (.region [qo .mv [.env 4],
qo .mv [.loc 0]] [(3, 0)])
(.ret)) (.skip))))
(.seq (.region [qo .mv [.env 0],
qo .mv [.env 1],
qo .mv [.env 2],
qo (.call 44) [.loc 2, .loc 1, .loc 0],
qo .mv [.loc 0]] [(3, 0)])
(.ret))),
[.tmp 3]⟩
theorem F30_low : lowFn Tryz.prog false [0, 1, 2, 6, 7, 12] Tryz.f30 = some F30 := by as_aux_lemma => kernel_rfl
def F31 : LFunc := ⟨[0, 1, 2, 6, 7, 8, 10, 12, 14, 15, 20, 22, 23, 24, 25, 34, 35, 36, 37, 38, 41, 42, 43, 44, 52], 3,
.seq (.region [qo .mv [.const (.int .i64 0)]] [(3, 0)])
(.seq (.seq (.region [qo .mv [.env 0],
qo .mv [.env 1],
qo (.call 29) [.loc 1, .loc 0],
qo .mv [.loc 0]] [(4, 0)])
(.seq (.region [qo .mv [.env 4],
qo (.bin .neq) [.loc 0, .const (.int .i64 0)]] [(10, 0)])
(.cond (.env 10) (.seq (.region [qo .mv [.env 4],
qo .mv [.loc 0]] [(3, 0)])
(.ret)) (.skip))))
(.seq (.region [qo .mv [.const (.int .i64 0)]] [(5, 0)])
(.seq (.seq (.region [qo .mv [.env 2],
qo (.len false) [.loc 0],
qo .mv [.const (.int .i64 0)]] [(11, 2), (12, 1), (13, 0)])
(.block 0 (.loop (.seq (.region [qo (.bin .lss) [.env 13, .env 12]] [(14, 0)])
(.seq (.cond (.env 14) (.skip) (.exit 0))
(.seq (.block 1 (.seq (.region [qo (.iaddr 1) [.env 11, .env 13],
qo (.load 1 false) [.loc 0],
qo .mv [.loc 0]] [(6, 0)])
(.region [qo .mv [.env 5],
qo .mv [.env 6],
qo (.len false) [.loc 0],
qo (.bin .add) [.loc 2, .loc 0],
qo .mv [.loc 0]] [(5, 0)])))
(.region [qo (.bin .add) [.env 13, .const (.int .i64 1)],
qo .mv [.loc 0]] [(13, 0)])))))))
(.seq (.seq (.region [qo .mv [.env 5],
qo (.bin .gtr) [.loc 0, .const (.int .i64 65536)]] [(15, 0)])
(.cond (.env 15) (.seq (.region [qo .mv [.const (.int .i64 3)]] [(3, 0)])
(.ret)) (.skip)))
(.seq (.seq (.region [qo .mv [.env 2],
qo (.len false) [.loc 0],
qo .mv [.const (.int .i64 0)]] [(16, 2), (17, 1), (18, 0)])
(.block 2 (.loop (.seq (.region [qo (.bin .lss) [.env 18, .env 17]] [(19, 0)])
(.seq (.cond (.env 19) (.skip) (.exit 2))
(.seq (.block 3 (.seq (.region [qo (.iaddr 1) [.env 16, .env 18],
qo (.load 1 false) [.loc 0],
qo .mv [.loc 0]] [(7, 0)])
(.seq (.region [qo .mv [.env 7],
qo (.len false) [.loc 0],
qo .mv [.const (.int .i64 0)]] [(20, 2), (21, 1), (22, 0)])
(.block 4 (.loop (.seq (.region [qo (.bin .lss) [.env 22, .env 21]] [(23, 0)])
(.seq (.cond (.env 23) (.skip) (.exit 4))
(.seq (.block 5 (.seq (.region [qo (.iaddr 1) [.env 20, .env 22],
qo (.load 1 false) [.loc 0],
qo .mv [.loc 0]] [(8, 0)])
(.seq (.region [qo .mv [.env 0],
qo .mv [.env 1],
qo .mv [.env 8],
qo (.call 44) [.loc 2, .loc 1, .loc 0],
qo .mv [.loc 0]] [(9, 0)])
(.seq (.region [qo .mv [.env 9],
qo (.bin .neq) [.loc 0, .const (.int .i64 0)]] [(24, 0)])
(.cond (.env 24) (.seq (.region [qo .mv [.env 9],
qo .mv [.loc 0]] [(3, 0)])
(.ret)) (.skip))))))
(.region [qo (.bin .add) [.env 22, .const (.int .i64 1)],
qo .mv [.loc 0]] [(22, 0)])))))))))
(.region [qo (.bin .add) [.env 18, .const (.int .i64 1)],
qo .mv [.loc 0]] [(18, 0)])))))))
(.seq (.region [qo .mv [.const (.int .i64 0)]] [(3, 0)])
(.ret))))))),
[.tmp 3]⟩
theorem F31_low : lowFn Tryz.prog false [0, 1, 2, 6, 7, 8, 10, 12, 14, 15, 20, 22, 23, 24, 25, 34, 35, 36, 37, 38, 41, 42, 43, 44, 52] Tryz.f31 = some F31 := by as_aux_lemma => kernel_rfl
def F32 : LFunc := ⟨[0, 1, 2, 4, 5, 6, 7, 11, 12, 13, 14], 2,
.seq (.region [qo (.box 26 1) [.env 0],
qo .mv [.const (.nils)]] [(2, 1), (3, 0)])
(.seq (.region [qo .mv [.env 1],
qo (.len false) [.loc 0],
qo (.mkslice 43 1 24 [.nils] 2) [.loc 0, .loc 0],
qo .mv [.loc 0]] [(4, 0)])
(.seq (.seq (.region [qo .mv [.env 1],
qo (.len false) [.loc 0],
qo .mv [.const (.int .i64 0)]] [(7, 2), (8, 1), (9, 0)])
(.block 0 (.loop (.seq (.region [qo (.bin .lss) [.env 9, .env 8]] [(10, 0)])
(.seq (.cond (.env 10) (.skip) (.exit 0))
(.seq (.block 1 (.seq (.region [qo .mv [.env 9],
qo (.iaddr 1) [.env 7, .env 9],
qo (.load 1 false) [.loc 0],
qo .mv [.loc 2],
qo .mv [.loc 1]] [(5, 1), (6, 0)])
(.region [qo .mv [.env 4],
qo .mv [.env 5],
qo .mv [.env 6],
qo (.call 45) [.loc 0],
qo (.call 47) [.loc 0],
qo (.iaddr 1) [.loc 4, .loc 3],
qo (.store 1) [.loc 0, .loc 1]] [])))
(.region [qo (.bin .add) [.env 9, .const (.int .i64 1)],
qo .mv [.loc 0]] [(9, 0)])))))))
(.seq (.region [qo .mv [.env 4],
qo (.mkfn 49) [.env 2],
qo (.call 48) [.loc 1, .loc 0]] [])
(.seq (.region [qo .mv [.env 4],
qo .mv [.loc 0]] [(3, 0)])
(.ret))))),
[.tmp 3]⟩
theorem F32_low : lowFn Tryz.prog true [0, 1, 2, 4, 5, 6, 7, 11, 12, 13, 14] Tryz.f32 = some F32 := by as_aux_lemma => kernel_rfl
def F33 : LFunc := ⟨[0, 1, 2, 6, 8, 9, 10, 11, 12, 14, 16, 17, 18, 19, 31, 53, 56], 3,
.seq (.region [qo .mv [.const (.int .i64 0)]] [(3, 0)])
(.seq (.skip)
(.seq (.seq (.region [qo .mv [.env 0],
qo (.len false) [.loc 0],
qo .mv [.const (.int .i64 0)]] [(10, 2), (11, 1), (12, 0)])
(.block 0 (.loop (.seq (.region [qo (.bin .lss) [.env 12, .env 11]] [(13, 0)])
(.seq (.cond (.env 13) (.skip) (.exit 0))
(.seq (.block 1 (.seq (.region [qo (.iaddr 14) [.env 10, .env 12],
qo (.load 14 true) [.loc 0],
qo (.alloc 59 [.int .i64 0, .int .i64 0, .int .u8 0, .int .u8 0, .str ⟨#[]⟩, .int .i64 0, .int .i64 0, .bool false, .bool false, .bool false, .bool false, .bool false, .int .i64 0, .bool false]) [],
qo (.store 14) [.loc 0, .loc 1]] [(4, 1)])
(.seq (.drawn [qo (.load 14 true) [.env 4],
qw .mv [.env 1] 0 1,
qw (.call 50) [.loc 1, .loc 0] 3 2,
qw (.load 14 true) [.env 4] 0 3,
qw .mv [.env 2] 0 4,
qw (.call 50) [.loc 1, .loc 0] 31 5,
⟨.mv, [.loc 7], none, ob 0 6, some 0⟩,
⟨.mv, [.loc 7], none, ob 0 7, some 1⟩,
qw (.store 12) [.loc 1, .loc 5] 255 8,
qw (.store 12) [.loc 1, .loc 3] 511 9] [(5, 3), (6, 2)] [(99, [.int .u8 0, .int .u8 0, .str ⟨#[]⟩, .int .i64 0, .int .i64 0, .bool false, .bool false, .bool false, .bool false, .bool false, .int .i64 0, .nils]), (99, [.int .u8 0, .int .u8 0, .str ⟨#[]⟩, .int .i64 0, .int .i64 0, .bool false, .bool false, .bool false, .bool false, .bool false, .int .i64 0, .nils])])
(.seq (.region [qo .mv [.const (.int .i64 0)]] [(7, 0)])
(.seq (.seq (.region [qo (.faddr 2) [.env 4],
qo (.faddr 0) [.loc 0],
qo (.load 1 false) [.loc 0],
qo (.bin .eql) [.loc 0, .const (.int .u8 4)]] [(14, 0)])
(.cond (.env 14) (.seq (.region [qo (.load 12 true) [.env 5],
qo (.call 51) [.loc 0],
qo .mv [.loc 0],
qo (.extract 0) [.loc 0],
qo (.extract 1) [.loc 1],
qo (.alloc 102 [.bool false, .str ⟨#[]⟩, .int .i64 0]) [],
qo (.store 3) [.loc 0, .loc 2],
qo .mv [.loc 2]] [(8, 2)])
(.seq (.region [qo (.load 12 true) [.env 6],
qo (.call 51) [.loc 0],
qo .mv [.loc 0],
qo (.extract 0) [.loc 0],
qo (.extract 1) [.loc 1],
qo (.alloc 102 [.bool false, .str ⟨#[]⟩, .int .i64 0]) [],
qo (.store 3) [.loc 0, .loc 2],
qo .mv [.loc 2]] [(9, 2)])
(.region [qo (.load 3 true) [.env 8],
qo (.load 3 true) [.env 9],
qo (.call 52) [.loc 1, .loc 0],
qo .mv [.loc 0],
qo (.extract 0) [.loc 0],
qo (.extract 1) [.loc 1],
qo .mv [.loc 1]] [(7, 0)]))) (.region [⟨.faddr 11, [.env 5], none, [], none⟩,
qo (.load 1 false) [.loc 0],
qo (.faddr 11) [.env 6],
qo (.load 1 false) [.loc 0],
qo (.call 53) [.loc 2, .loc 0],
qo .mv [.loc 0]] [(7, 0)])))
(.seq (.block 2 (.seq (.region [qo .mv [.env 7],
qo (.bin .eql) [.loc 0, .const (.int .i64 0)],
qo .mv [.loc 0]] [(15, 0)])
(.cond (.env 15) (.exit 1) (.seq (.region [qo (.faddr 13) [.env 4],
qo (.load 1 false) [.loc 0],
qo .mv [.loc 0]] [(16, 0)])
(.cond (.env 16) (.seq (.region [qo .mv [.env 7],
qo (.un .neg) [.loc 0],
qo .mv [.loc 0]] [(3, 0)])
(.ret)) (.skip))))))
(.seq (.region [qo .mv [.env 7],
qo .mv [.loc 0]] [(3, 0)])
(.ret))))))))
(.region [qo (.bin .add) [.env 12, .const (.int .i64 1)],
qo .mv [.loc 0]] [(12, 0)])))))))
(.seq (.region [qo .mv [.const (.int .i64 0)]] [(3, 0)])
(.ret)))),
[.tmp 3]⟩
theorem F33_low : lowFn Tryz.prog false [0, 1, 2, 6, 8, 9, 10, 11, 12, 14, 16, 17, 18, 19, 31, 53, 56] Tryz.f33 = some F33 := by as_aux_lemma => kernel_rfl
def F34 : LFunc := ⟨[0, 2, 3, 4, 5, 6, 7, 8, 9, 10, 14, 34, 39, 50, 53], 1,
.seq (.region [qo .mv [.const (.str ⟨#[]⟩)],
qo .mv [.const (.int .i64 0)]] [(1, 1), (2, 0)])
(.seq (.region [qo (.alloc 108 [.nilp, .nils]) []] [(3, 0)])
(.seq (.region [qo .mv [.const (.int .i64 0)]] [(4, 0)])
(.seq (.seq (.region [qo .mv [.const (.int .i64 0)]] [(5, 0)])
(.block 0 (.loop (.seq (.seq (.region [qo .mv [.env 5],
qo .mv [.env 0],
qo (.len true) [.loc 0],
qo (.bin .lss) [.loc 2, .loc 0]] [(10, 0)])
(.cond (.env 10) (.skip) (.exit 0)))
(.block 1 (.seq (.region [qo .mv [.env 0],
qo .mv [.env 5],
qo .index [.loc 1, .loc 0],
qo .mv [.loc 0]] [(6, 0)])
(.seq (.region [qo .mv [.env 0],
qo .mv [.env 5],
qo (.bin .add) [.loc 0, .const (.int .i64 1)],
qo (.slice true 0 true false false) [.loc 2, .loc 0],
qo (.call 54) [.loc 0],
qo .mv [.loc 0],
qo (.extract 0) [.loc 0],
qo (.extract 1) [.loc 1],
qo (.extract 2) [.loc 2],
qo .mv [.loc 2],
qo .mv [.loc 2],
qo .mv [.loc 2]] [(7, 2), (8, 1), (9, 0)])
(.seq (.seq (.region [qo .mv [.env 9],
qo (.un .not) [.loc 0],
qo .mv [.loc 0],
qg (.call 55) [.const (.str ⟨#[65, 88, 57, 83, 86, 80, 90, 42, 43, 45, 46, 44, 36, 66, 48, 47, 67, 82, 68]⟩)] 0 false,
qg .mv [.env 6] 1 false,
qg .callv [.loc 1, .loc 0] 2 false,
qg (.un .not) [.loc 0] 3 false,
qo .pick [.loc 4, .const (.bool true), .loc 0]] [(11, 0)])
(.cond (.env 11) (.seq (.region [qo .mv [.const (.str ⟨#[]⟩)],
qo .mv [.const (.int .i64 4)]] [(1, 1), (2, 0)])
(.ret)) (.skip)))
(.seq (.seq (.region [qo .mv [.env 4],
qo .mv [.env 7],
qo (.bin .add) [.loc 1, .loc 0],
qo .mv [.loc 0]] [(4, 0)])
(.seq (.region [qo .mv [.env 4],
qo (.bin .leq) [.loc 0, .const (.int .i64 256)]] [(12, 0)])
(.cond (.env 12) (.region [qo .mv [.env 6],
qo (.bslice 5 1 1 [.int .u8 0] [0] 1) [.loc 0],
qo .bstr [.loc 0],
qo .mv [.env 7],
qo (.call 57) [.loc 1, .loc 0],
qo (.call 56) [.env 3, .loc 0]] []) (.skip))))
(.region [qo .mv [.env 5],
qo .mv [.env 8],
qo (.bin .add) [.const (.int .i64 1), .loc 0],
qo (.bin .add) [.loc 2, .loc 0],
qo .mv [.loc 0]] [(5, 0)]))))))))))
(.seq (.block 2 (.seq (.region [qo .mv [.env 4],
qo (.bin .eql) [.loc 0, .const (.int .i64 0)],
qo .mv [.loc 0]] [(13, 0)])
(.cond (.env 13) (.seq (.region [qo .mv [.const (.str ⟨#[]⟩)],
qo .mv [.const (.int .i64 4)]] [(1, 1), (2, 0)])
(.ret)) (.seq (.region [qo .mv [.env 4],
qo (.bin .gtr) [.loc 0, .const (.int .i64 256)],
qo .mv [.loc 0]] [(14, 0)])
(.cond (.env 14) (.seq (.region [qo .mv [.const (.str ⟨#[]⟩)],
qo .mv [.const (.int .i64 3)]] [(1, 1), (2, 0)])
(.ret)) (.skip))))))
(.seq (.region [qo (.call 58) [.env 3],
qo .mv [.loc 0],
qo .mv [.const (.int .i64 0)]] [(1, 1), (2, 0)])
(.ret)))))),
[.tmp 1, .tmp 2]⟩
theorem F34_low : lowFn Tryz.prog false [0, 2, 3, 4, 5, 6, 7, 8, 9, 10, 14, 34, 39, 50, 53] Tryz.f34 = some F34 := by as_aux_lemma => kernel_rfl
def F35 : LFunc := ⟨[0, 2, 3, 4, 10, 18, 23, 31], 1,
.seq (.region [qo (.alloc 51 [.int .u8 0, .int .u8 0, .str ⟨#[]⟩, .int .i64 0, .int .i64 0, .bool false, .bool false, .bool false, .bool false, .bool false, .int .i64 0]) [],
qo .mv [.const (.bool false)]] [(1, 1), (2, 0)])
(.seq (.region [qo .mv [.env 0],
qo .mv [.env 0],
qo (.len true) [.loc 0],
qo (.build [.int .u8 0, .int .u8 0, .str ⟨#[]⟩, .int .i64 0, .int .i64 0, .bool false, .bool false, .bool false, .bool false, .bool false, .int .i64 0] [(2, 1), (10, 1)]) [.loc 2, .loc 0],
qo (.alloc 51 [.int .u8 0, .int .u8 0, .str ⟨#[]⟩, .int .i64 0, .int .i64 0, .bool false, .bool false, .bool false, .bool false, .bool false, .int .i64 0]) [],
qo (.store 11) [.loc 0, .loc 1]] [(3, 1)])
(.seq (.block 0 (.seq (.region [qo .mv [.env 0],
qo (.call 55) [.const (.str ⟨#[65]⟩)],
qo (.call 59) [.loc 1, .const (.int .i64 0), .loc 0],
qo .mv [.env 0],
qo (.len true) [.loc 0],
qo (.bin .eql) [.loc 2, .loc 0],
qo .mv [.loc 0]] [(4, 0)])
(.cond (.env 4) (.region [qo (.faddr 0) [.env 3],
qo (.store 1) [.loc 0, .const (.int .u8 1)]] []) (.seq (.region [⟨.mv, [.env 0], none, [], none⟩,
qo (.call 60) [.loc 0, .const (.str ⟨#[65, 88]⟩)],
qo (.un .not) [.loc 0],
qo .mv [.loc 0]] [(5, 0)])
(.cond (.env 5) (.seq (.region [qo (.load 11 true) [.env 3],
qo (.store 11) [.env 1, .loc 0],
qo .mv [.const (.bool false)]] [(2, 0)])
(.ret)) (.seq (.region [qo .mv [.env 0],
qo (.call 55) [.const (.str ⟨#[65, 88, 57]⟩)],
qo (.call 59) [.loc 1, .const (.int .i64 0), .loc 0],
qo .mv [.env 0],
qo (.len true) [.loc 0],
qo (.bin .eql) [.loc 2, .loc 0],
qo .mv [.loc 0]] [(6, 0)])
(.cond (.env 6) (.region [qo (.faddr 0) [.env 3],
qo (.store 1) [.loc 0, .const (.int .u8 2)]] []) (.seq (.region [⟨.mv, [.env 0], none, [], none⟩,
qo (.call 55) [.const (.str ⟨#[65, 88, 57, 66, 48, 47]⟩)],
qo (.call 59) [.loc 1, .const (.int .i64 0), .loc 0],
qo .mv [.env 0],
qo (.len true) [.loc 0],
qo (.bin .eql) [.loc 2, .loc 0],
qo .mv [.loc 0]] [(7, 0)])
(.cond (.env 7) (.region [qo (.faddr 0) [.env 3],
qo (.store 1) [.loc 0, .const (.int .u8 3)]] []) (.seq (.region [⟨.load 11 true, [.env 3], none, [], none⟩,
qo (.store 11) [.env 1, .loc 0],
qo .mv [.const (.bool false)]] [(2, 0)])
(.ret)))))))))))
(.seq (.region [qo (.load 11 true) [.env 3],
qo (.store 11) [.env 1, .loc 0],
qo .mv [.const (.bool true)]] [(2, 0)])
(.ret)))),
[.cell 1 11 true, .tmp 2]⟩
theorem F35_low : lowFn Tryz.prog false [0, 2, 3, 4, 10, 18, 23, 31] Tryz.f35 = some F35 := by as_aux_lemma => kernel_rfl
def F36 : LFunc := ⟨[0, 2, 3, 4, 5, 6, 7, 8, 9, 10, 11, 12, 13, 38, 48, 63], 1,
.seq (.region [qo (.alloc 51 [.int .u8 0, .int .u8 0, .str ⟨#[]⟩, .int .i64 0, .int .i64 0, .bool false, .bool false, .bool false, .bool false, .bool false, .int .i64 0]) [],
qo .mv [.const (.bool false)]] [(1, 1), (2, 0)])
(.seq (.region [qo .mv [.env 0],
qo (.call 61) [.loc 0, .const (.str ⟨#[83]⟩)],
qo .mv [.loc 0],
qo (.extract 0) [.loc 0],
qo (.extract 1) [.loc 1],
qo .mv [.loc 1],
qo .mv [.loc 1]] [(3, 1), (4, 0)])
(.seq (.region [qo .mv [.env 0],
qo .mv [.env 4],
qo (.build [.int .u8 0, .int .u8 0, .str ⟨#[]⟩, .int .i64 0, .int .i64 0, .bool false, .bool false, .bool false, .bool false, .bool false, .int .i64 0] [(0, 1), (2, 1), (5, 1)]) [.const (.int .u8 4), .loc 1, .loc 0],
qo (.alloc 51 [.int .u8 0, .int .u8 0, .str ⟨#[]⟩, .int .i64 0, .int .i64 0, .bool false, .bool false, .bool false, .bool false, .bool false, .int .i64 0]) [],
qo (.store 11) [.loc 0, .loc 1]] [(5, 1)])
(.seq (.region [qo .mv [.env 3],
qo (.call 62) [.loc 0, .const (.str ⟨#[86]⟩)],
qo .mv [.loc 0],
qo (.extract 0) [.loc 0],
qo (.extract 1) [.loc 1],
qo (.extract 2) [.loc 2],
qo .mv [.loc 2],
qo .mv [.loc 2],
qo .mv [.loc 2]] [(6, 2), (7, 1), (8, 0)])
(.seq (.region [qo .mv [.env 3],
qo (.call 38) [.loc 0, .const (.str ⟨#[80]⟩)],
qo .mv [.loc 0]] [(9, 0)])
(.seq (.region [qo .mv [.const (.fn 63 [])]] [(10, 0)])
(.seq (.region [qo .mv [.env 3],
qo (.call 38) [.loc 0, .const (.str ⟨#[57]⟩)],
qo (.faddr 3) [.env 5],
qo (.store 1) [.loc 0, .loc 1]] [])
(.seq (.region [qo (.faddr 3) [.env 5],
qo (.load 1 false) [.loc 0],
qo (.faddr 10) [.env 5],
qo (.store 1) [.loc 0, .loc 1]] [])
(.seq (.region [qo .mv [.env 3],
qo (.call 64) [.loc 0, .const (.str ⟨#[86, 80]⟩)],
qo .mv [.loc 0]] [(11, 0)])
(.seq (.block 0 (.seq (.region [qo (.faddr 3) [.env 5],
qo (.load 1 false) [.loc 0],
qo (.bin .eql) [.loc 0, .const (.int .i64 0)],
qo .mv [.loc 0],
qg .mv [.env 3] 0 false,
qg (.call 38) [.loc 0, .const (.str ⟨#[86]⟩)] 1 false,
qg (.bin .gtr) [.loc 0, .const (.int .i64 1)] 2 false,
qo .pick [.loc 3, .const (.bool true), .loc 0],
qo .mv [.loc 0]] [(13, 0)])
(.cond (.env 13) (.seq (.region [qo (.load 11 true) [.env 5],
qo (.store 11) [.env 1, .loc 0],
qo .mv [.const (.bool false)]] [(2, 0)])
(.ret)) (.seq (.region [qo .mv [.env 9],
qo (.bin .eql) [.loc 0, .const (.int .i64 0)],
qo .mv [.loc 0]] [(14, 0)])
(.cond (.env 14) (.seq (.region [qo .mv [.env 7],
qo (.len true) [.loc 0],
qo (.faddr 4) [.env 5],
qo (.store 1) [.loc 0, .loc 1]] [])
(.seq (.drawn [qo (.load 11 true) [.env 5],
qw .mv [.env 10] 0 1,
qw .mv [.env 6] 0 2,
qw .callv [.loc 1, .loc 0] 6 3,
qw .mv [.loc 0] 14 4,
qh .mv [.env 10] 0 true 30 5,
qh .mv [.env 7] 1 true 30 6,
qh .callv [.loc 1, .loc 0] 2 true 126 7,
qw .pick [.loc 3, .loc 0, .const (.bool false)] 254 8,
qw (.store 11) [.env 1, .loc 8] 255 9,
qw .mv [.loc 1] 1023 10] [(2, 0)] [])
(.ret))) (.seq (.region [qo .mv [.env 10],
qo .mv [.env 11],
qo .callv [.loc 1, .loc 0],
qo .mv [.loc 0],
qg .mv [.env 8] 0 true,
qg (.un .not) [.loc 0] 1 true,
qg .mv [.loc 0] 2 true,
qg .mv [.env 3] 0 false,
qg .index [.loc 0, .const (.int .i64 0)] 1 false,
qg (.bin .eql) [.loc 0, .const (.int .u8 86)] 2 false,
qg .pick [.loc 3, .const (.bool true), .loc 0] 6 true,
qo .pick [.loc 7, .loc 0, .const (.bool false)],
qo .mv [.loc 0]] [(15, 0)])
(.cond (.env 15) (.seq (.region [qo (.faddr 3) [.env 5],
qo (.load 1 false) [.loc 0],
qo .mv [.env 9],
qo (.bin .add) [.loc 1, .loc 0],
qo (.faddr 4) [.env 5],
qo (.store 1) [.loc 0, .loc 1]] [])
(.seq (.region [qo (.load 11 true) [.env 5],
qo (.store 11) [.env 1, .loc 0],
qo .mv [.const (.bool true)]] [(2, 0)])
(.ret))) (.skip))))))))
(.seq (.region [qo .mv [.env 9],
qo (.un .neg) [.loc 0],
qo (.faddr 4) [.env 5],
qo (.store 1) [.loc 0, .loc 1]] [])
(.seq (.region [qo .mv [.env 3],
qo (.call 65) [.loc 0, .const (.str ⟨#[86]⟩)],
qo .mv [.loc 0]] [(12, 0)])
(.seq (.drawn [qo (.load 11 true) [.env 5],
qw .mv [.env 10] 0 1,
qw .mv [.env 12] 0 2,
qw (.call 66) [.loc 0, .const (.str ⟨#[80]⟩)] 4 3,
qw .callv [.loc 2, .loc 0] 14 4,
qw (.store 11) [.env 1, .loc 4] 31 5,
qw .mv [.loc 1] 63 6] [(2, 0)] [])
(.ret))))))))))))),
[.cell 1 11 true, .tmp 2]⟩
theorem F36_low : lowFn Tryz.prog false [0, 2, 3, 4, 5, 6, 7, 8, 9, 10, 11, 12, 13, 38, 48, 63] Tryz.f36 = some F36 := by as_aux_lemma => kernel_rfl
def F38 : LFunc := ⟨[0, 1, 4, 5, 6, 9, 15, 24], 2,
.seq (.region [qo .mv [.const (.int .i64 0)]] [(2, 0)])
(.seq (.seq (.region [qo .mv [.env 1],
qo (.len true) [.loc 0],
qo (.bin .eql) [.loc 0, .const (.int .i64 0)]] [(5, 0)])
(.cond (.env 5) (.seq (.region [qo .mv [.env 0],
qo (.call 74) [.loc 0],
qo (.bin .add) [.loc 0, .const (.int .i64 1)],
qo .mv [.loc 0]] [(2, 0)])
(.ret)) (.skip)))
(.seq (.seq (.region [qo .mv [.env 1],
qo (.len true) [.loc 0],
qo (.bin .eql) [.loc 0, .const (.int .i64 1)]] [(6, 0)])
(.cond (.env 6) (.seq (.region [qo .mv [.env 0],
qo .mv [.env 1],
qo .index [.loc 0, .const (.int .i64 0)],
qo .cntb [.loc 2, .loc 0],
qo .mv [.loc 0]] [(2, 0)])
(.ret)) (.skip)))
(.seq (.region [qo .mv [.const (.int .i64 0)]] [(3, 0)])
(.block 0 (.loop (.block 1 (.seq (.region [qo .mv [.env 0],
qo .mv [.env 1],
qo (.call 76) [.loc 1, .loc 0],
qo .mv [.loc 0]] [(4, 0)])
(.seq (.seq (.region [qo .mv [.env 4],
qo (.bin .eql) [.loc 0, .const (.int .i64 (-1))]] [(7, 0)])
(.cond (.env 7) (.seq (.region [qo .mv [.env 3],
qo .mv [.loc 0]] [(2, 0)])
(.ret)) (.skip)))
(.seq (.region [qo .mv [.env 3],
qo (.bin .add) [.loc 0, .const (.int .i64 1)],
qo .mv [.loc 0]] [(3, 0)])
(.region [qo .mv [.env 0],
qo .mv [.env 4],
qo .mv [.env 1],
qo (.len true) [.loc 0],
qo (.bin .add) [.loc 2, .loc 0],
qo (.slice true 0 true false false) [.loc 4, .loc 0],
qo .mv [.loc 0]] [(0, 0)])))))))))),
[.tmp 2]⟩
theorem F38_low : lowFn Tryz.prog false [0, 1, 4, 5, 6, 9, 15, 24] Tryz.f38 = some F38 := by as_aux_lemma => kernel_rfl
def F39 : LFunc := ⟨[0, 1, 4, 5, 10, 24], 2,
.seq (.region [qo .mv [.const (.bool false)]] [(2, 0)])
(.seq (.seq (.region [qo .mv [.env 0],
qo (.len false) [.loc 0],
qo (.bin .sub) [.loc 0, .const (.int .i64 1)],
qo .mv [.loc 0]] [(3, 0)])
(.block 0 (.loop (.seq (.seq (.region [qo .mv [.env 3],
qo (.bin .gtr) [.loc 0, .const (.int .i64 0)]] [(4, 0)])
(.cond (.env 4) (.skip) (.exit 0)))
(.seq (.block 1 (.seq (.drawn [qo .mv [.env 1],
qw .mv [.env 0] 0 1,
qw .mv [.env 3] 0 2,
qw (.iaddr 1) [.loc 1, .loc 0] 6 3,
qw (.load 1 false) [.loc 0] 14 4,
qw .mv [.env 0] 0 5,
qw .mv [.env 3] 0 6,
qw (.bin .sub) [.loc 0, .const (.int .i64 1)] 64 7,
qw (.iaddr 1) [.loc 2, .loc 0] 224 8,
qw (.load 1 false) [.loc 0] 480 9,
qw .callv [.loc 9, .loc 5, .loc 0] 1023 10,
qw (.bin .lss) [.loc 0, .const (.int .i64 0)] 2047 11] [(5, 0)] [])
(.cond (.env 5) (.seq (.region [qo .mv [.const (.bool false)]] [(2, 0)])
(.ret)) (.skip))))
(.region [qo .mv [.env 3],
qo (.bin .sub) [.loc 0, .const (.int .i64 1)],
qo .mv [.loc 0]] [(3, 0)]))))))
(.seq (.region [qo .mv [.const (.bool true)]] [(2, 0)])
(.ret))),
[.tmp 2]⟩
theorem F39_low : lowFn Tryz.prog false [0, 1, 4, 5, 10, 24] Tryz.f39 = some F39 := by as_aux_lemma => kernel_rfl
def F40 : LFunc := ⟨[0, 1, 2, 5], 3,
.seq (.region [qo .mv [.const (.int .i64 0)]] [(3, 0)])
(.seq (.region [qo (.load 1 false) [.env 2],
qo .mv [.env 0],
qo .mv [.env 1],
qo (.call 33) [.loc 2, .loc 1, .loc 0],
qo .mv [.loc 0]] [(3, 0)])
(.ret)),
[.tmp 3]⟩
theorem F40_low : lowFn Tryz.prog false [0, 1, 2, 5] Tryz.f40 = some F40 := by as_aux_lemma => kernel_rfl
def F41 : LFunc := ⟨[0, 2, 3, 5, 6, 8, 9, 10, 11, 12, 20, 25, 26, 27, 28], 1,
.seq (.region [qo .mv [.const (.nils)]] [(1, 0)])
(.seq (.region [qo .mv [.const (.int .i64 0)]] [(2, 0)])
(.seq (.seq (.region [qo .mv [.env 0],
qo (.len false) [.loc 0],
qo .mv [.const (.int .i64 0)]] [(6, 2), (7, 1), (8, 0)])
(.block 0 (.loop (.seq (.region [qo (.bin .lss) [.env 8, .env 7]] [(9, 0)])
(.seq (.cond (.env 9) (.skip) (.exit 0))
(.seq (.block 1 (.seq (.region [qo (.iaddr 1) [.env 6, .env 8],
qo (.load 1 false) [.loc 0],
qo .mv [.loc 0]] [(3, 0)])
(.seq (.region [qo .mv [.env 2],
qo .mv [.env 3],
qo (.len false) [.loc 0],
qo (.bin .add) [.loc 2, .loc 0],
qo .mv [.loc 0]] [(2, 0)])
(.seq (.region [qo .mv [.env 2],
qo (.bin .lss) [.loc 0, .const (.int .i64 0)]] [(10, 0)])
(.cond (.env 10) (.region [qo .fail [],
qo .fail []] []) (.skip))))))
(.region [qo (.bin .add) [.env 8, .const (.int .i64 1)],
qo .mv [.loc 0]] [(8, 0)])))))))
(.seq (.region [qo .mv [.env 2],
qo (.call 77) [.const (.nils), .loc 0],
qo .mv [.loc 0]] [(4, 0)])
(.seq (.seq (.region [qo .mv [.env 0],
qo (.len false) [.loc 0],
qo .mv [.const (.int .i64 0)]] [(11, 2), (12, 1), (13, 0)])
(.block 2 (.loop (.seq (.region [qo (.bin .lss) [.env 13, .env 12]] [(14, 0)])
(.seq (.cond (.env 14) (.skip) (.exit 2))
(.seq (.block 3 (.seq (.region [qo (.iaddr 1) [.env 11, .env 13],
qo (.load 1 false) [.loc 0],
qo .mv [.loc 0]] [(5, 0)])
(.region [qo .mv [.env 4],
qo .mv [.env 5],
qo (.append 43 1 24 1) [.loc 1, .loc 0],
qo .mv [.loc 0]] [(4, 0)])))
(.region [qo (.bin .add) [.env 13, .const (.int .i64 1)],
qo .mv [.loc 0]] [(13, 0)])))))))
(.seq (.region [qo .mv [.env 4],
qo .mv [.loc 0]] [(1, 0)])
(.ret)))))),
[.tmp 1]⟩
theorem F41_low : lowFn Tryz.prog false [0, 2, 3, 5, 6, 8, 9, 10, 11, 12, 20, 25, 26, 27, 28] Tryz.f41 = some F41 := by as_aux_lemma => kernel_rfl
def F42 : LFunc := ⟨[0, 2, 4], 1,
.seq (.region [qo .mv [.const (.nils)]] [(1, 0)])
(.seq (.seq (.region [qo .mv [.env 0],
qo (.eqnil false 0) [.loc 0, .const (.nils)]] [(2, 0)])
(.cond (.env 2) (.seq (.region [qo .mv [.const (.nils)]] [(1, 0)])
(.ret)) (.skip)))
(.seq (.region [qo (.bslice 59 14 0 [.int .i64 0, .int .i64 0, .int .u8 0, .int .u8 0, .str ⟨#[]⟩, .int .i64 0, .int .i64 0, .bool false, .bool false, .bool false, .bool false, .bool false, .int .i64 0, .bool false] [] 1) [],
qo .mv [.env 0],
qo (.append 59 14 80 1) [.loc 1, .loc 0],
qo .mv [.loc 0]] [(1, 0)])
(.ret))),
[.tmp 1]⟩
theorem F42_low : lowFn Tryz.prog false [0, 2, 4] Tryz.f42 = some F42 := by as_aux_lemma => kernel_rfl
def F43 : LFunc := ⟨[0, 2], 1,
.seq (.region [qo .mv [.const (.bool false)]] [(1, 0)])
(.seq (.region [qo .mv [.env 0],
qo (.eqp false) [.loc 0, .const (.nilp)],
qo .mv [.loc 0],
qg .mv [.env 0] 0 false,
qg .nilck [.loc 0] 1 false,
qg (.faddr 1) [.loc 0] 2 false,
qg (.load 1 false) [.loc 0] 3 false,
qg (.bin .eql) [.loc 0, .const (.int .i64 0)] 4 false,
qo .pick [.loc 5, .const (.bool true), .loc 0],
qo .mv [.loc 0]] [(1, 0)])
(.ret)),
[.tmp 1]⟩
theorem F43_low : lowFn Tryz.prog false [0, 2] Tryz.f43 = some F43 := by as_aux_lemma => kernel_rfl
def F44 : LFunc := ⟨[0, 1, 2, 6, 8, 12, 13, 14, 15, 16, 29], 3,
.seq (.region [qo .mv [.const (.int .i64 0)]] [(3, 0)])
(.seq (.seq (.region [qo .mv [.env 2],
qo (.len false) [.loc 0],
qo .mv [.env 1],
qo (.bin .neq) [.loc 1, .loc 0]] [(5, 0)])
(.cond (.env 5) (.seq (.region [qo .mv [.const (.int .i64 5)]] [(3, 0)])
(.ret)) (.skip)))
(.seq (.seq (.region [qo .mv [.env 0],
qo (.len false) [.loc 0],
qo .mv [.const (.int .i64 0)]] [(6, 2), (7, 1), (8, 0)])
(.block 0 (.loop (.seq (.region [qo (.bin .lss) [.env 8, .env 7]] [(9, 0)])
(.seq (.cond (.env 9) (.skip) (.exit 0))
(.seq (.block 1 (.seq (.region [qo (.iaddr 14) [.env 6, .env 8],
qo (.load 14 true) [.loc 0],
qo (.alloc 59 [.int .i64 0, .int .i64 0, .int .u8 0, .int .u8 0, .str ⟨#[]⟩, .int .i64 0, .int .i64 0, .bool false, .bool false, .bool false, .bool false, .bool false, .int .i64 0, .bool false]) [],
qo (.store 14) [.loc 0, .loc 1]] [(4, 1)])
(.seq (.region [qo (.faddr 2) [.env 4],
qo (.faddr 0) [.loc 0],
qo (.load 1 false) [.loc 0],
qo (.bin .eql) [.loc 0, .const (.int .u8 4)],
qo .mv [.loc 0],
qg (.load 14 true) [.env 4] 0 true,
qg .mv [.env 2] 1 true,
qg (.call 50) [.loc 1, .loc 0] 2 true,
qg (.call 78) [.loc 0] 3 true,
qg (.bin .neq) [.loc 0, .const (.int .i64 0)] 4 true,
qo .pick [.loc 5, .loc 0, .const (.bool false)]] [(10, 0)])
(.cond (.env 10) (.seq (.region [qo .mv [.const (.int .i64 15)]] [(3, 0)])
(.ret)) (.skip)))))
(.region [qo (.bin .add) [.env 8, .const (.int .i64 1)],
qo .mv [.loc 0]] [(8, 0)])))))))
(.seq (.region [qo .mv [.const (.int .i64 0)]] [(3, 0)])
(.ret)))),
[.tmp 3]⟩
theorem F44_low : lowFn Tryz.prog false [0, 1, 2, 6, 8, 12, 13, 14, 15, 16, 29] Tryz.f44 = some F44 := by as_aux_lemma => kernel_rfl
def F45 : LFunc := ⟨[0, 2, 4], 1,
.seq (.region [qo .mv [.const (.nils)]] [(1, 0)])
(.seq (.seq (.region [qo .mv [.env 0],
qo (.eqnil false 0) [.loc 0, .const (.nils)]] [(2, 0)])
(.cond (.env 2) (.seq (.region [qo .mv [.const (.nils)]] [(1, 0)])
(.ret)) (.skip)))
(.seq (.region [qo (.bslice 5 1 0 [.int .u8 0] [] 1) [],
qo .mv [.env 0],
qo (.append 5 1 1 1) [.loc 1, .loc 0],
qo .mv [.loc 0]] [(1, 0)])
(.ret))),
[.tmp 1]⟩
theorem F45_low : lowFn Tryz.prog false [0, 2, 4] Tryz.f45 = some F45 := by as_aux_lemma => kernel_rfl
def F46 : LFunc := ⟨[0, 1, 2, 4, 5, 6, 39, 42, 43, 47], 2,
.seq (.region [qo (.box 59 14) [.env 0],
qo .mv [.const (.bool false)]] [(2, 1), (3, 0)])
(.seq (.region [qo (.faddr 0) [.env 2],
qo (.load 2 true) [.loc 0],
qo (.alloc 57 [.int .i64 0, .int .i64 0]) [],
qo (.store 2) [.loc 0, .loc 1]] [(4, 1)])
(.seq (.seq (.region [qo (.faddr 0) [.env 4],
qo (.load 1 false) [.loc 0],
qo (.bin .lss) [.loc 0, .const (.int .i64 0)],
qo .mv [.loc 0],
qg (.faddr 1) [.env 4] 0 false,
qg (.load 1 false) [.loc 0] 1 false,
qg (.bin .lss) [.loc 0, .const (.int .i64 1)] 2 false,
qo .pick [.loc 3, .const (.bool true), .loc 0],
qo .mv [.loc 0],
qg (.faddr 1) [.env 4] 0 false,
qg (.load 1 false) [.loc 0] 1 false,
qg .mv [.env 1] 2 false,
qg (.bin .gtr) [.loc 1, .loc 0] 3 false,
qo .pick [.loc 4, .const (.bool true), .loc 0],
qo .mv [.loc 0],
qg (.faddr 0) [.env 4] 0 false,
qg (.load 1 false) [.loc 0] 1 false,
qg .mv [.env 1] 2 false,
qg (.faddr 1) [.env 4] 3 false,
qg (.load 1 false) [.loc 0] 4 false,
qg (.bin .sub) [.loc 2, .loc 0] 5 false,
qg (.bin .gtr) [.loc 4, .loc 0] 6 false,
qo .pick [.loc 7, .const (.bool true), .loc 0],
qo .mv [.loc 0],
qg (.faddr 2) [.env 2] 0 false,
qg (.faddr 10) [.loc 0] 1 false,
qg (.load 1 false) [.loc 0] 2 false,
qg (.faddr 1) [.env 4] 3 false,
qg (.load 1 false) [.loc 0] 4 false,
qg (.bin .neq) [.loc 2, .loc 0] 5 false,
qo .pick [.loc 6, .const (.bool true), .loc 0]] [(6, 0)])
(.cond (.env 6) (.seq (.region [qo .mv [.const (.bool false)]] [(3, 0)])
(.ret)) (.skip)))
(.seq (.seq (.region [qo (.faddr 2) [.env 2],
qo (.faddr 0) [.loc 0],
qo (.load 1 false) [.loc 0]] [(7, 0)])
(.block 0 (.seq (.seq (.region [qo (.bin .eql) [.env 7, .const (.int .u8 0)],
qo .mv [.loc 0]] [(8, 0)])
(.cond (.env 8) (.skip) (.seq (.region [qo (.bin .eql) [.env 7, .const (.int .u8 1)],
qo .mv [.loc 0]] [(8, 0)])
(.cond (.env 8) (.skip) (.region [qo (.bin .eql) [.env 7, .const (.int .u8 2)],
qo .mv [.loc 0]] [(8, 0)])))))
(.cond (.env 8) (.seq (.region [qo .mv [.const (.bool true)]] [(3, 0)])
(.ret)) (.seq (.region [qo (.bin .eql) [.env 7, .const (.int .u8 4)],
qo .mv [.loc 0]] [(9, 0)])
(.cond (.env 9) (.seq (.drawn [qo (.faddr 2) [.env 2],
qw (.load 11 true) [.loc 0] 1 1,
qw (.faddr 1) [.env 4] 0 2,
qw (.load 1 false) [.loc 0] 4 3,
qw (.mkslice 5 1 1 [.int .u8 0] 1) [.loc 0, .loc 0] 12 4,
qw (.build [.int .u8 0, .int .u8 0, .str ⟨#[]⟩, .int .i64 0, .int .i64 0, .bool false, .bool false, .bool false, .bool false, .bool false, .int .i64 0, .nils] [(0, 11), (11, 1)]) [.loc 3, .loc 0] 31 5,
qw (.call 78) [.loc 0] 63 6,
qw .mv [.loc 0] 127 7] [(5, 0)] [])
(.seq (.region [qo .mv [.env 5],
qo (.bin .eql) [.loc 0, .const (.int .i64 0)],
qo .mv [.loc 0],
qg .mv [.env 5] 0 false,
qg (.bin .eql) [.loc 0, .const (.int .i64 15)] 1 false,
qo .pick [.loc 2, .const (.bool true), .loc 0],
qo .mv [.loc 0]] [(3, 0)])
(.ret))) (.skip)))))))
(.seq (.region [qo .mv [.const (.bool false)]] [(3, 0)])
(.ret))))),
[.tmp 3]⟩
theorem F46_low : lowFn Tryz.prog false [0, 1, 2, 4, 5, 6, 39, 42, 43, 47] Tryz.f46 = some F46 := by as_aux_lemma => kernel_rfl
def F47 : LFunc := ⟨[0, 2], 1,
.seq (.region [qo .mv [.const (.nils)]] [(1, 0)])
(.seq (.region [qo .mv [.env 0],
qo .mv [.env 0],
qo (.len false) [.loc 0],
qo .mv [.env 0],
qo (.len false) [.loc 0],
qo (.slice false 1 false true true) [.loc 4, .loc 2, .loc 0],
qo .mv [.loc 0]] [(1, 0)])
(.ret)),
[.tmp 1]⟩
theorem F47_low : lowFn Tryz.prog false [0, 2] Tryz.f47 = some F47 := by as_aux_lemma => kernel_rfl
def F48 : LFunc := ⟨[0, 1], 2,
.region [qo .mv [.env 0],
qo .mv [.env 0],
qo (.len false) [.loc 0],
qo .mv [.env 1],
qo (.call 79) [.loc 3, .loc 1, .loc 0]] [],
[]⟩
theorem F48_low : lowFn Tryz.prog false [0, 1] Tryz.f48 = some F48 := by as_aux_lemma => kernel_rfl
def F49 : LFunc := ⟨[0, 1, 2, 5], 3,
.seq (.region [qo .mv [.const (.int .i64 0)]] [(3, 0)])
(.seq (.region [qo (.load 1 false) [.env 2],
qo .mv [.env 0],
qo .mv [.env 1],
qo (.call 33) [.loc 2, .loc 1, .loc 0],
qo .mv [.loc 0]] [(3, 0)])
(.ret)),
[.tmp 3]⟩
theorem F49_low : lowFn Tryz.prog false [0, 1, 2, 5] Tryz.f49 = some F49 := by as_aux_lemma => kernel_rfl
def F50 : LFunc := ⟨[0, 1, 2, 4], 2,
.seq (.region [qo (.box 59 14) [.env 0],
qo (.alloc 99 [.int .u8 0, .int .u8 0, .str ⟨#[]⟩, .int .i64 0, .int .i64 0, .bool false, .bool false, .bool false, .bool false, .bool false, .int .i64 0, .nils]) []] [(2, 1), (3, 0)])
(.seq (.drawn [qo (.faddr 2) [.env 2],
qw (.load 11 true) [.loc 0] 1 1,
qw .mv [.env 1] 0 2,
qw (.faddr 0) [.env 2] 0 3,
qw (.faddr 0) [.loc 0] 8 4,
qw (.load 1 false) [.loc 0] 24 5,
qw (.faddr 0) [.env 2] 0 6,
qw (.faddr 0) [.loc 0] 64 7,
qw (.load 1 false) [.loc 0] 192 8,
qw (.faddr 0) [.env 2] 0 9,
qw (.faddr 1) [.loc 0] 512 10,
qw (.load 1 false) [.loc 0] 1536 11,
qw (.bin .add) [.loc 3, .loc 0] 4032 12,
qw (.slice false 1 true true false) [.loc 10, .loc 7, .loc 0] 8188 13,
qw (.build [.int .u8 0, .int .u8 0, .str ⟨#[]⟩, .int .i64 0, .int .i64 0, .bool false, .bool false, .bool false, .bool false, .bool false, .int .i64 0, .nils] [(0, 11), (11, 1)]) [.loc 12, .loc 0] 16383 14,
qw (.store 12) [.env 3, .loc 0] 32767 15] [] [])
(.ret)),
[.cell 3 12 true]⟩
theorem F50_low : lowFn Tryz.prog false [0, 1, 2, 4] Tryz.f50 = some F50 := by as_aux_lemma => kernel_rfl
def F51 : LFunc := ⟨[0, 1, 2, 3, 4, 5, 6, 11, 20], 1,
.seq (.region [qo (.box 99 12) [.env 0],
qo (.alloc 102 [.bool false, .str ⟨#[]⟩, .int .i64 0]) [],
qo .mv [.const (.int .i64 0)]] [(1, 2), (2, 1), (3, 0)])
(.seq (.seq (.region [qo (.faddr 0) [.env 1],
qo (.load 11 true) [.loc 0],
qo (.call 80) [.loc 0],
qo .mv [.loc 0]] [(4, 0)])
(.seq (.region [qo .mv [.env 4],
qo (.bin .neq) [.loc 0, .const (.int .i64 0)]] [(7, 0)])
(.cond (.env 7) (.seq (.region [qo (.build [.bool false, .str ⟨#[]⟩, .int .i64 0] []) [],
qo .mv [.env 4],
qo (.store 3) [.env 2, .loc 1],
qo .mv [.loc 1]] [(3, 0)])
(.ret)) (.skip))))
(.seq (.region [qo (.load 12 true) [.env 1],
qo (.call 81) [.loc 0],
qo .mv [.loc 0],
qo (.extract 0) [.loc 0],
qo (.extract 1) [.loc 1],
qo (.alloc 143 [.bool false, .str ⟨#[]⟩]) [],
qo (.store 2) [.loc 0, .loc 2],
qo .mv [.loc 2]] [(5, 2), (6, 0)])
(.seq (.seq (.region [qo .mv [.env 6],
qo (.bin .neq) [.loc 0, .const (.int .i64 0)]] [(8, 0)])
(.cond (.env 8) (.seq (.region [qo (.build [.bool false, .str ⟨#[]⟩, .int .i64 0] []) [],
qo .mv [.env 6],
qo (.store 3) [.env 2, .loc 1],
qo .mv [.loc 1]] [(3, 0)])
(.ret)) (.skip)))
(.seq (.region [qo (.faddr 0) [.env 5],
qo (.load 1 false) [.loc 0],
qo (.faddr 1) [.env 5],
qo (.load 1 false) [.loc 0],
qo (.faddr 0) [.env 1],
qo (.faddr 4) [.loc 0],
qo (.load 1 false) [.loc 0],
qo (.call 82) [.loc 5, .loc 3, .loc 0],
qo (.extract 0) [.loc 0],
qo (.extract 1) [.loc 1],
qo (.store 3) [.env 2, .loc 1],
qo .mv [.loc 1]] [(3, 0)])
(.ret))))),
[.cell 2 3 true, .tmp 3]⟩
theorem F51_low : lowFn Tryz.prog false [0, 1, 2, 3, 4, 5, 6, 11, 20] Tryz.f51 = some F51 := by as_aux_lemma => kernel_rfl
def F52 : LFunc := ⟨[0, 1, 2, 3, 4, 5, 6, 7, 8, 14, 23, 33, 39], 2,
.seq (.region [qo (.box 102 3) [.env 0],
qo (.box 102 3) [.env 1],
qo .mv [.const (.int .i64 0)],
qo .mv [.const (.int .i64 0)]] [(2, 3), (3, 2), (4, 1), (5, 0)])
(.seq (.seq (.region [qo (.load 3 true) [.env 2],
qo (.load 3 true) [.env 3],
qo (.call 83) [.loc 1, .loc 0],
qo .mv [.loc 0]] [(6, 0)])
(.seq (.region [qo .mv [.env 6],
qo (.bin .neq) [.loc 0, .const (.int .i64 0)]] [(9, 0)])
(.cond (.env 9) (.seq (.region [qo .mv [.env 6],
qo .mv [.const (.int .i64 0)],
qo .mv [.loc 1]] [(4, 1), (5, 0)])
(.ret)) (.skip))))
(.seq (.region [qo (.load 3 true) [.env 2],
qo (.load 3 true) [.env 3],
qo (.call 84) [.loc 1, .loc 0],
qo .mv [.loc 0],
qo (.extract 0) [.loc 0],
qo (.extract 1) [.loc 1],
qo (.extract 2) [.loc 2],
qo .mv [.loc 2],
qo .mv [.loc 2],
qo .mv [.loc 2]] [(7, 2), (8, 1)])
(.seq (.block 0 (.seq (.region [qo (.faddr 0) [.env 2],
qo (.load 1 false) [.loc 0],
qo (.faddr 0) [.env 3],
qo (.load 1 false) [.loc 0],
qo (.eqb true) [.loc 2, .loc 0],
qo .mv [.loc 0],
qg (.faddr 0) [.env 2] 0 true,
qg (.load 1 false) [.loc 0] 1 true,
qo .pick [.loc 2, .loc 0, .const (.bool false)],
qo .mv [.loc 0]] [(10, 0)])
(.cond (.env 10) (.seq (.region [qo .mv [.const (.int .i64 (-1))],
qo .mv [.const (.int .i64 0)]] [(4, 1), (5, 0)])
(.ret)) (.seq (.region [qo (.faddr 0) [.env 2],
qo (.load 1 false) [.loc 0],
qo (.faddr 0) [.env 3],
qo (.load 1 false) [.loc 0],
qo (.eqb true) [.loc 2, .loc 0],
qo .mv [.loc 0]] [(11, 0)])
(.cond (.env 11) (.seq (.region [qo .mv [.const (.int .i64 1)],
qo .mv [.const (.int .i64 0)]] [(4, 1), (5, 0)])
(.ret)) (.seq (.region [qo (.faddr 0) [.env 2],
qo (.load 1 false) [.loc 0],
qo .mv [.loc 0]] [(12, 0)])
(.cond (.env 12) (.seq (.region [qo .mv [.env 8],
qo .mv [.env 7],
qo (.call 85) [.loc 1, .loc 0],
qo .mv [.loc 0],
qo .mv [.const (.int .i64 0)]] [(4, 1), (5, 0)])
(.ret)) (.skip))))))))
(.seq (.region [qo .mv [.env 7],
qo .mv [.env 8],
qo (.call 85) [.loc 1, .loc 0],
qo .mv [.loc 0],
qo .mv [.const (.int .i64 0)]] [(4, 1), (5, 0)])
(.ret))))),
[.tmp 4, .tmp 5]⟩
theorem F52_low : lowFn Tryz.prog false [0, 1, 2, 3, 4, 5, 6, 7, 8, 14, 23, 33, 39] Tryz.f52 = some F52 := by as_aux_lemma => kernel_rfl
def F53 : LFunc := ⟨[0, 1, 4, 5, 6, 11, 12, 13, 23], 2,
.seq (.region [qo .mv [.const (.int .i64 0)]] [(2, 0)])
(.seq (.seq (.region [qo .mv [.env 0],
qo (.len false) [.loc 0],
qo .mv [.env 1],
qo (.len false) [.loc 0],
qo .max [.loc 2, .loc 0],
qo .mv [.const (.int .i64 0)]] [(5, 1), (6, 0)])
(.block 0 (.loop (.seq (.region [qo (.bin .lss) [.env 6, .env 5]] [(7, 0)])
(.seq (.cond (.env 7) (.skip) (.exit 0))
(.seq (.block 1 (.seq (.region [qo .mv [.env 6],
qo .mv [.loc 0]] [(3, 0)])
(.seq (.region [qo .mv [.env 0],
qo .mv [.env 3],
qo (.call 87) [.loc 1, .loc 0],
qo .mv [.env 1],
qo .mv [.env 3],
qo (.call 87) [.loc 1, .loc 0],
qo (.call 86) [.loc 3, .loc 0],
qo .mv [.loc 0]] [(4, 0)])
(.seq (.region [qo .mv [.env 4],
qo (.bin .neq) [.loc 0, .const (.int .i64 0)]] [(8, 0)])
(.cond (.env 8) (.seq (.region [qo .mv [.env 4],
qo .mv [.loc 0]] [(2, 0)])
(.ret)) (.skip))))))
(.region [qo (.bin .add) [.env 6, .const (.int .i64 1)],
qo .mv [.loc 0]] [(6, 0)])))))))
(.seq (.region [qo .mv [.const (.int .i64 0)]] [(2, 0)])
(.ret))),
[.tmp 2]⟩
theorem F53_low : lowFn Tryz.prog false [0, 1, 4, 5, 6, 11, 12, 13, 23] Tryz.f53 = some F53 := by as_aux_lemma => kernel_rfl
def F54 : LFunc := ⟨[0, 2, 3, 4, 5, 8, 31], 1,
.seq (.region [qo .mv [.const (.int .i64 0)],
qo .mv [.const (.int .i64 0)],
qo .mv [.const (.bool false)]] [(1, 2), (2, 1), (3, 0)])
(.seq (.seq (.region [qo .mv [.env 0],
qo (.call 88) [.loc 0, .const (.str ⟨#[40]⟩)],
qo (.un .not) [.loc 0]] [(5, 0)])
(.cond (.env 5) (.seq (.region [qo .mv [.const (.int .i64 1)],
qo .mv [.const (.int .i64 0)],
qo .mv [.const (.bool true)]] [(1, 2), (2, 1), (3, 0)])
(.ret)) (.skip)))
(.seq (.region [qo .mv [.env 0],
qo (.call 55) [.const (.str ⟨#[48, 49, 50, 51, 52, 53, 54, 55, 56, 57]⟩)],
qo (.call 59) [.loc 1, .const (.int .i64 1), .loc 0],
qo .mv [.loc 0]] [(4, 0)])
(.seq (.seq (.region [qo .mv [.env 4],
qo (.bin .lss) [.loc 0, .const (.int .i64 1)],
qo .mv [.loc 0],
qg .mv [.env 4] 0 false,
qg (.bin .gtr) [.loc 0, .const (.int .i64 5)] 1 false,
qo .pick [.loc 2, .const (.bool true), .loc 0],
qo .mv [.loc 0],
qg .mv [.env 4] 0 false,
qg (.bin .add) [.loc 0, .const (.int .i64 1)] 1 false,
qg .mv [.env 0] 2 false,
qg (.len true) [.loc 0] 3 false,
qg (.bin .geq) [.loc 2, .loc 0] 4 false,
qo .pick [.loc 5, .const (.bool true), .loc 0],
qo .mv [.loc 0],
qg .mv [.env 0] 0 false,
qg .mv [.env 4] 1 false,
qg (.bin .add) [.loc 0, .const (.int .i64 1)] 2 false,
qg .index [.loc 2, .loc 0] 3 false,
qg (.bin .neq) [.loc 0, .const (.int .u8 41)] 4 false,
qo .pick [.loc 5, .const (.bool true), .loc 0]] [(6, 0)])
(.cond (.env 6) (.seq (.region [qo .mv [.const (.int .i64 0)],
qo .mv [.const (.int .i64 0)],
qo .mv [.const (.bool false)]] [(1, 2), (2, 1), (3, 0)])
(.ret)) (.skip)))
(.seq (.region [qo .mv [.env 0],
qo .mv [.env 4],
qo (.bin .add) [.loc 0, .const (.int .i64 1)],
qo (.slice true 0 true true false) [.loc 2, .const (.int .i64 1), .loc 0],
qo (.call 89) [.loc 0],
qo .mv [.loc 0],
qo (.extract 0) [.loc 0],
qo (.extract 1) [.loc 1],
qo .mv [.loc 1]] [(1, 0)])
(.seq (.region [qo .mv [.env 1],
qo .mv [.env 4],
qo (.bin .add) [.loc 0, .const (.int .i64 2)],
qo .mv [.env 1],
qo (.bin .gtr) [.loc 0, .const (.int .i64 0)],
qo .mv [.loc 4],
qo .mv [.loc 3],
qo .mv [.loc 2]] [(1, 2), (2, 1), (3, 0)])
(.ret)))))),
[.tmp 1, .tmp 2, .tmp 3]⟩
theorem F54_low : lowFn Tryz.prog false [0, 2, 3, 4, 5, 8, 31] Tryz.f54 = some F54 := by as_aux_lemma => kernel_rfl
def F55 : LFunc := ⟨[0, 1, 2], 1,
.seq (.region [qo (.box 9 1) [.env 0],
qo .mv [.const (.nilfn)]] [(1, 1), (2, 0)])
(.seq (.region [qo (.mkfn 90) [.env 1],
qo .mv [.loc 0]] [(2, 0)])
(.ret)),
[.tmp 2]⟩
theorem F55_low : lowFn Tryz.prog false [0, 1, 2] Tryz.f55 = some F55 := by as_aux_lemma => kernel_rfl
def F56 : LFunc := ⟨[0, 1, 4, 5], 2,
.seq (.region [qo .mv [.const (.int .i64 0)],
qo .mv [.const (.nili)]] [(2, 1), (3, 0)])
(.seq (.region [qo .mv [.env 0],
qo (.call 92) [.loc 0]] [])
(.seq (.region [qo .mv [.env 0],
qo .mv [.env 0],
qo .nilck [.loc 0],
qo (.faddr 1) [.loc 0],
qo (.load 1 false) [.loc 0],
qo .mv [.env 1],
qo (.appstr 5 1 1) [.loc 1, .loc 0],
qo .nilck [.loc 6],
qo (.faddr 1) [.loc 0],
qo (.store 1) [.loc 0, .loc 2]] [])
(.seq (.region [qo .mv [.env 1],
qo (.len true) [.loc 0],
qo .mv [.loc 0],
qo .mv [.const (.nili)]] [(2, 1), (3, 0)])
(.ret)))),
[.tmp 2, .tmp 3]⟩
theorem F56_low : lowFn Tryz.prog false [0, 1, 4, 5] Tryz.f56 = some F56 := by as_aux_lemma => kernel_rfl
def F57 : LFunc := ⟨[0, 1, 4, 5, 6, 7, 8, 9, 10, 11, 12, 14, 18, 34, 40, 42, 43, 49, 58, 67, 76, 85, 96, 104, 113], 2,
.seq (.region [qo .mv [.const (.str ⟨#[]⟩)]] [(2, 0)])
(.seq (.seq (.region [qo .mv [.env 1]] [(9, 0)])
(.block 0 (.seq (.region [qo (.bin .eql) [.env 9, .const (.int .i64 0)],
qo .mv [.loc 0]] [(10, 0)])
(.cond (.env 10) (.seq (.region [qo .mv [.const (.str ⟨#[]⟩)]] [(2, 0)])
(.ret)) (.seq (.region [qo (.bin .eql) [.env 9, .const (.int .i64 1)],
qo .mv [.loc 0]] [(11, 0)])
(.cond (.env 11) (.seq (.region [qo .mv [.env 0],
qo .mv [.loc 0]] [(2, 0)])
(.ret)) (.skip)))))))
(.seq (.seq (.region [qo .mv [.env 1],
qo (.bin .lss) [.loc 0, .const (.int .i64 0)]] [(12, 0)])
(.cond (.env 12) (.region [qo .fail [],
qo .fail []] []) (.skip)))
(.seq (.region [qo .mv [.env 0],
qo (.len true) [.loc 0],
qo (.conv .u64) [.loc 0],
qo .mv [.env 1],
qo (.conv .u64) [.loc 0],
qo (.call 93) [.loc 2, .loc 0],
qo .mv [.loc 0],
qo (.extract 0) [.loc 0],
qo (.extract 1) [.loc 1],
qo .mv [.loc 1],
qo .mv [.loc 1]] [(3, 1), (4, 0)])
(.seq (.seq (.region [qo .mv [.env 3],
qo (.bin .gtr) [.loc 0, .const (.int .u64 0)],
qo .mv [.loc 0],
qg .mv [.env 4] 0 false,
qg (.bin .gtr) [.loc 0, .const (.int .u64 9223372036854775807)] 1 false,
qo .pick [.loc 2, .const (.bool true), .loc 0]] [(13, 0)])
(.cond (.env 13) (.region [qo .fail [],
qo .fail []] []) (.skip)))
(.seq (.region [qo .mv [.env 4],
qo (.conv .i64) [.loc 0],
qo .mv [.loc 0]] [(5, 0)])
(.seq (.seq (.region [qo .mv [.env 0],
qo (.len true) [.loc 0],
qo (.bin .eql) [.loc 0, .const (.int .i64 0)]] [(14, 0)])
(.cond (.env 14) (.seq (.region [qo .mv [.const (.str ⟨#[]⟩)]] [(2, 0)])
(.ret)) (.skip)))
(.seq (.seq (.region [qo .mv [.env 0],
qo .index [.loc 0, .const (.int .i64 0)]] [(15, 0)])
(.block 1 (.seq (.seq (.region [qo (.bin .eql) [.env 15, .const (.int .u8 32)],
qo .mv [.loc 0]] [(16, 0)])
(.cond (.env 16) (.skip) (.seq (.region [qo (.bin .eql) [.env 15, .const (.int .u8 45)],
qo .mv [.loc 0]] [(16, 0)])
(.cond (.env 16) (.skip) (.seq (.region [qo (.bin .eql) [.env 15, .const (.int .u8 48)],
qo .mv [.loc 0]] [(16, 0)])
(.cond (.env 16) (.skip) (.seq (.region [qo (.bin .eql) [.env 15, .const (.int .u8 61)],
qo .mv [.loc 0]] [(16, 0)])
(.cond (.env 16) (.skip) (.region [qo (.bin .eql) [.env 15, .const (.int .u8 9)],
qo .mv [.loc 0]] [(16, 0)])))))))))
(.cond (.env 16) (.block 2 (.seq (.region [qo .mv [.env 5],
qo (.bin .leq) [.loc 0, .const (.int .i64 128)],
qo .mv [.loc 0],
qg .mv [.env 0] 0 true,
qg (.call 88) [.const (.str ⟨#[32, 32, 32, 32, 32, 32, 32, 32, 32, 32, 32, 32, 32, 32, 32, 32, 32, 32, 32, 32, 32, 32, 32, 32, 32, 32, 32, 32, 32, 32, 32, 32, 32, 32, 32, 32, 32, 32, 32, 32, 32, 32, 32, 32, 32, 32, 32, 32, 32, 32, 32, 32, 32, 32, 32, 32, 32, 32, 32, 32, 32, 32, 32, 32, 32, 32, 32, 32, 32, 32, 32, 32, 32, 32, 32, 32, 32, 32, 32, 32, 32, 32, 32, 32, 32, 32, 32, 32, 32, 32, 32, 32, 32, 32, 32, 32, 32, 32, 32, 32, 32, 32, 32, 32, 32, 32, 32, 32, 32, 32, 32, 32, 32, 32, 32, 32, 32, 32, 32, 32, 32, 32, 32, 32, 32, 32, 32, 32]⟩), .loc 0] 1 true,
qo .pick [.loc 2, .loc 0, .const (.bool false)],
qo .mv [.loc 0]] [(17, 0)])
(.cond (.env 17) (.seq (.region [qo .mv [.env 5],
qo (.slice true 0 false true false) [.const (.str ⟨#[32, 32, 32, 32, 32, 32, 32, 32, 32, 32, 32, 32, 32, 32, 32, 32, 32, 32, 32, 32, 32, 32, 32, 32, 32, 32, 32, 32, 32, 32, 32, 32, 32, 32, 32, 32, 32, 32, 32, 32, 32, 32, 32, 32, 32, 32, 32, 32, 32, 32, 32, 32, 32, 32, 32, 32, 32, 32, 32, 32, 32, 32, 32, 32, 32, 32, 32, 32, 32, 32, 32, 32, 32, 32, 32, 32, 32, 32, 32, 32, 32, 32, 32, 32, 32, 32, 32, 32, 32, 32, 32, 32, 32, 32, 32, 32, 32, 32, 32, 32, 32, 32, 32, 32, 32, 32, 32, 32, 32, 32, 32, 32, 32, 32, 32, 32, 32, 32, 32, 32, 32, 32, 32, 32, 32, 32, 32, 32]⟩), .loc 0],
qo .mv [.loc 0]] [(2, 0)])
(.ret)) (.seq (.region [qo .mv [.env 5],
qo (.bin .leq) [.loc 0, .const (.int .i64 128)],
qo .mv [.loc 0],
qg .mv [.env 0] 0 true,
qg (.call 88) [.const (.str ⟨#[45, 45, 45, 45, 45, 45, 45, 45, 45, 45, 45, 45, 45, 45, 45, 45, 45, 45, 45, 45, 45, 45, 45, 45, 45, 45, 45, 45, 45, 45, 45, 45, 45, 45, 45, 45, 45, 45, 45, 45, 45, 45, 45, 45, 45, 45, 45, 45, 45, 45, 45, 45, 45, 45, 45, 45, 45, 45, 45, 45, 45, 45, 45, 45, 45, 45, 45, 45, 45, 45, 45, 45, 45, 45, 45, 45, 45, 45, 45, 45, 45, 45, 45, 45, 45, 45, 45, 45, 45, 45, 45, 45, 45, 45, 45, 45, 45, 45, 45, 45, 45, 45, 45, 45, 45, 45, 45, 45, 45, 45, 45, 45, 45, 45, 45, 45, 45, 45, 45, 45, 45, 45, 45, 45, 45, 45, 45, 45]⟩), .loc 0] 1 true,
qo .pick [.loc 2, .loc 0, .const (.bool false)],
qo .mv [.loc 0]] [(18, 0)])
(.cond (.env 18) (.seq (.region [qo .mv [.env 5],
qo (.slice true 0 false true false) [.const (.str ⟨#[45, 45, 45, 45, 45, 45, 45, 45, 45, 45, 45, 45, 45, 45, 45, 45, 45, 45, 45, 45, 45, 45, 45, 45, 45, 45, 45, 45, 45, 45, 45, 45, 45, 45, 45, 45, 45, 45, 45, 45, 45, 45, 45, 45, 45, 45, 45, 45, 45, 45, 45, 45, 45, 45, 45, 45, 45, 45, 45, 45, 45, 45, 45, 45, 45, 45, 45, 45, 45, 45, 45, 45, 45, 45, 45, 45, 45, 45, 45, 45, 45, 45, 45, 45, 45, 45, 45, 45, 45, 45, 45, 45, 45, 45, 45, 45, 45, 45, 45, 45, 45, 45, 45, 45, 45, 45, 45, 45, 45, 45, 45, 45, 45, 45, 45, 45, 45, 45, 45, 45, 45, 45, 45, 45, 45, 45, 45, 45]⟩), .loc 0],
qo .mv [.loc 0]] [(2, 0)])
(.ret)) (.seq (.region [qo .mv [.env 5],
qo (.bin .leq) [.loc 0, .const (.int .i64 64)],
qo .mv [.loc 0],
qg .mv [.env 0] 0 true,
qg (.call 88) [.const (.str ⟨#[48, 48, 48, 48, 48, 48, 48, 48, 48, 48, 48, 48, 48, 48, 48, 48, 48, 48, 48, 48, 48, 48, 48, 48, 48, 48, 48, 48, 48, 48, 48, 48, 48, 48, 48, 48, 48, 48, 48, 48, 48, 48, 48, 48, 48, 48, 48, 48, 48, 48, 48, 48, 48, 48, 48, 48, 48, 48, 48, 48, 48, 48, 48, 48]⟩), .loc 0] 1 true,
qo .pick [.loc 2, .loc 0, .const (.bool false)],
qo .mv [.loc 0]] [(19, 0)])
(.cond (.env 19) (.seq (.region [qo .mv [.env 5],
qo (.slice true 0 false true false) [.const (.str ⟨#[48, 48, 48, 48, 48, 48, 48, 48, 48, 48, 48, 48, 48, 48, 48, 48, 48, 48, 48, 48, 48, 48, 48, 48, 48, 48, 48, 48, 48, 48, 48, 48, 48, 48, 48, 48, 48, 48, 48, 48, 48, 48, 48, 48, 48, 48, 48, 48, 48, 48, 48, 48, 48, 48, 48, 48, 48, 48, 48, 48, 48, 48, 48, 48]⟩), .loc 0],
qo .mv [.loc 0]] [(2, 0)])
(.ret)) (.seq (.region [qo .mv [.env 5],
qo (.bin .leq) [.loc 0, .const (.int .i64 128)],
qo .mv [.loc 0],
qg .mv [.env 0] 0 true,
qg (.call 88) [.const (.str ⟨#[61, 61, 61, 61, 61, 61, 61, 61, 61, 61, 61, 61, 61, 61, 61, 61, 61, 61, 61, 61, 61, 61, 61, 61, 61, 61, 61, 61, 61, 61, 61, 61, 61, 61, 61, 61, 61, 61, 61, 61, 61, 61, 61, 61, 61, 61, 61, 61, 61, 61, 61, 61, 61, 61, 61, 61, 61, 61, 61, 61, 61, 61, 61, 61, 61, 61, 61, 61, 61, 61, 61, 61, 61, 61, 61, 61, 61, 61, 61, 61, 61, 61, 61, 61, 61, 61, 61, 61, 61, 61, 61, 61, 61, 61, 61, 61, 61, 61, 61, 61, 61, 61, 61, 61, 61, 61, 61, 61, 61, 61, 61, 61, 61, 61, 61, 61, 61, 61, 61, 61, 61, 61, 61, 61, 61, 61, 61, 61]⟩), .loc 0] 1 true,
qo .pick [.loc 2, .loc 0, .const (.bool false)],
qo .mv [.loc 0]] [(20, 0)])
(.cond (.env 20) (.seq (.region [qo .mv [.env 5],
qo (.slice true 0 false true false) [.const (.str ⟨#[61, 61, 61, 61, 61, 61, 61, 61, 61, 61, 61, 61, 61, 61, 61, 61, 61, 61, 61, 61, 61, 61, 61, 61, 61, 61, 61, 61, 61, 61, 61, 61, 61, 61, 61, 61, 61, 61, 61, 61, 61, 61, 61, 61, 61, 61, 61, 61, 61, 61, 61, 61, 61, 61, 61, 61, 61, 61, 61, 61, 61, 61, 61, 61, 61, 61, 61, 61, 61, 61, 61, 61, 61, 61, 61, 61, 61, 61, 61, 61, 61, 61, 61, 61, 61, 61, 61, 61, 61, 61, 61, 61, 61, 61, 61, 61, 61, 61, 61, 61, 61, 61, 61, 61, 61, 61, 61, 61, 61, 61, 61, 61, 61, 61, 61, 61, 61, 61, 61, 61, 61, 61, 61, 61, 61, 61, 61, 61]⟩), .loc 0],
qo .mv [.loc 0]] [(2, 0)])
(.ret)) (.seq (.region [qo .mv [.env 5],
qo (.bin .leq) [.loc 0, .const (.int .i64 64)],
qo .mv [.loc 0],
qg .mv [.env 0] 0 true,
qg (.call 88) [.const (.str ⟨#[9, 9, 9, 9, 9, 9, 9, 9, 9, 9, 9, 9, 9, 9, 9, 9, 9, 9, 9, 9, 9, 9, 9, 9, 9, 9, 9, 9, 9, 9, 9, 9, 9, 9, 9, 9, 9, 9, 9, 9, 9, 9, 9, 9, 9, 9, 9, 9, 9, 9, 9, 9, 9, 9, 9, 9, 9, 9, 9, 9, 9, 9, 9, 9]⟩), .loc 0] 1 true,
qo .pick [.loc 2, .loc 0, .const (.bool false)],
qo .mv [.loc 0]] [(21, 0)])
(.cond (.env 21) (.seq (.region [qo .mv [.env 5],
qo (.slice true 0 false true false) [.const (.str ⟨#[9, 9, 9, 9, 9, 9, 9, 9, 9, 9, 9, 9, 9, 9, 9, 9, 9, 9, 9, 9, 9, 9, 9, 9, 9, 9, 9, 9, 9, 9, 9, 9, 9, 9, 9, 9, 9, 9, 9, 9, 9, 9, 9, 9, 9, 9, 9, 9, 9, 9, 9, 9, 9, 9, 9, 9, 9, 9, 9, 9, 9, 9, 9, 9]⟩), .loc 0],
qo .mv [.loc 0]] [(2, 0)])
(.ret)) (.skip)))))))))))) (.skip)))))
(.seq (.region [qo .mv [.env 5],
qo .mv [.loc 0]] [(6, 0)])
(.seq (.seq (.region [qo .mv [.env 5],
qo (.bin .gtr) [.loc 0, .const (.int .i64 8192)]] [(22, 0)])
(.cond (.env 22) (.seq (.region [qo .mv [.env 0],
qo (.len true) [.loc 0],
qo (.bin .quo) [.const (.int .i64 8192), .loc 0],
qo .mv [.env 0],
qo (.len true) [.loc 0],
qo (.bin .mul) [.loc 2, .loc 0],
qo .mv [.loc 0]] [(6, 0)])
(.seq (.region [qo .mv [.env 6],
qo (.bin .eql) [.loc 0, .const (.int .i64 0)]] [(23, 0)])
(.cond (.env 23) (.region [qo .mv [.env 0],
qo (.len true) [.loc 0],
qo .mv [.loc 0]] [(6, 0)]) (.skip)))) (.skip)))
(.seq (.region [qo (.alloc 108 [.nilp, .nils]) []] [(7, 0)])
(.seq (.region [qo .mv [.env 5],
qo (.call 94) [.env 7, .loc 0]] [])
(.seq (.region [qo .mv [.env 0],
qo (.call 56) [.env 7, .loc 0]] [])
(.seq (.block 3 (.loop (.seq (.seq (.region [qo (.call 95) [.env 7],
qo .mv [.env 5],
qo (.bin .lss) [.loc 1, .loc 0]] [(24, 0)])
(.cond (.env 24) (.skip) (.exit 3)))
(.block 4 (.seq (.region [qo .mv [.env 5],
qo (.call 95) [.env 7],
qo (.bin .sub) [.loc 1, .loc 0],
qo (.call 95) [.env 7],
qo .mv [.env 6],
qo .min [.loc 2, .loc 1, .loc 0],
qo .mv [.loc 0]] [(8, 0)])
(.region [qo (.call 58) [.env 7],
qo .mv [.env 8],
qo (.slice true 0 false true false) [.loc 1, .loc 0],
qo (.call 56) [.env 7, .loc 0]] []))))))
(.seq (.region [qo (.call 58) [.env 7],
qo .mv [.loc 0]] [(2, 0)])
(.ret))))))))))))))),
[.tmp 2]⟩
theorem F57_low : lowFn Tryz.prog false [0, 1, 4, 5, 6, 7, 8, 9, 10, 11, 12, 14, 18, 34, 40, 42, 43, 49, 58, 67, 76, 85, 96, 104, 113] Tryz.f57 = some F57 := by as_aux_lemma => kernel_rfl
def F58 : LFunc := ⟨[0, 2], 1,
.seq (.region [qo .mv [.const (.str ⟨#[]⟩)]] [(1, 0)])
(.seq (.drawn [qo .mv [.env 0],
qw .nilck [.loc 0] 1 1,
qw (.faddr 1) [.loc 0] 3 2,
qw (.load 1 false) [.loc 0] 7 3,
qw .sdata [.loc 0] 15 4,
qw .mv [.env 0] 0 5,
qw .nilck [.loc 0] 32 6,
qw (.faddr 1) [.loc 0] 96 7,
qw (.load 1 false) [.loc 0] 224 8,
qw (.len false) [.loc 0] 480 9,
qw (.ustr 5) [.loc 5, .loc 0] 1023 10,
qw .mv [.loc 0] 2047 11] [(1, 0)] [])
(.ret)),
[.tmp 1]⟩
theorem F58_low : lowFn Tryz.prog false [0, 2] Tryz.f58 = some F58 := by as_aux_lemma => kernel_rfl
def F59 : LFunc := ⟨[0, 1, 2, 6, 7, 22], 3,
.seq (.region [qo .mv [.const (.int .i64 0)]] [(3, 0)])
(.seq (.region [qo .mv [.const (.int .i64 0)]] [(4, 0)])
(.seq (.block 0 (.loop (.seq (.seq (.region [qo .mv [.env 1],
qo .mv [.env 4],
qo (.bin .add) [.loc 1, .loc 0],
qo .mv [.env 0],
qo (.len true) [.loc 0],
qo (.bin .lss) [.loc 2, .loc 0],
qo .mv [.loc 0],
qg .mv [.env 2] 0 true,
qg .mv [.env 0] 1 true,
qg .mv [.env 1] 2 true,
qg .mv [.env 4] 3 true,
qg (.bin .add) [.loc 1, .loc 0] 4 true,
qg .index [.loc 3, .loc 0] 5 true,
qg .callv [.loc 5, .loc 0] 6 true,
qo .pick [.loc 7, .loc 0, .const (.bool false)]] [(5, 0)])
(.cond (.env 5) (.skip) (.exit 0)))
(.block 1 (.region [qo .mv [.env 4],
qo (.bin .add) [.loc 0, .const (.int .i64 1)],
qo .mv [.loc 0]] [(4, 0)])))))
(.seq (.region [qo .mv [.env 4],
qo .mv [.loc 0]] [(3, 0)])
(.ret)))),
[.tmp 3]⟩
theorem F59_low : lowFn Tryz.prog false [0, 1, 2, 6, 7, 22] Tryz.f59 = some F59 := by as_aux_lemma => kernel_rfl
def F60 : LFunc := ⟨[0, 1, 4], 2,
.seq (.region [qo .mv [.const (.bool false)]] [(2, 0)])
(.seq (.region [qo .mv [.env 0],
qo .mv [.env 1],
qo (.call 96) [.loc 1, .loc 0],
qo (.bin .geq) [.loc 0, .const (.int .i64 0)],
qo .mv [.loc 0]] [(2, 0)])
(.ret)),
[.tmp 2]⟩
theorem F60_low : lowFn Tryz.prog false [0, 1, 4] Tryz.f60 = some F60 := by as_aux_lemma => kernel_rfl
def F61 : LFunc := ⟨[0, 1, 4, 5], 2,
.seq (.region [qo .mv [.const (.str ⟨#[]⟩)],
qo .mv [.const (.bool false)]] [(2, 1), (3, 0)])
(.seq (.region [qo .mv [.env 0],
qo .mv [.env 1],
qo (.call 97) [.loc 1, .loc 0],
qo (.extract 0) [.loc 0],
qo (.extract 1) [.loc 1],
qo .mv [.loc 1],
qo .mv [.loc 1]] [(2, 1), (3, 0)])
(.ret)),
[.tmp 2, .tmp 3]⟩
theorem F61_low : lowFn Tryz.prog false [0, 1, 4, 5] Tryz.f61 = some F61 := by as_aux_lemma => kernel_rfl
def F62 : LFunc := ⟨[0, 1, 4, 5, 6], 2,
.seq (.region [qo .mv [.const (.str ⟨#[]⟩)],
qo .mv [.const (.str ⟨#[]⟩)],
qo .mv [.const (.bool false)]] [(2, 2), (3, 1), (4, 0)])
(.seq (.region [qo .mv [.env 0],
qo .mv [.env 1],
qo (.call 98) [.loc 1, .loc 0],
qo (.extract 0) [.loc 0],
qo (.extract 1) [.loc 1],
qo (.extract 2) [.loc 2],
qo .mv [.loc 2],
qo .mv [.loc 2],
qo .mv [.loc 2]] [(2, 2), (3, 1), (4, 0)])
(.ret)),
[.tmp 2, .tmp 3, .tmp 4]⟩
theorem F62_low : lowFn Tryz.prog false [0, 1, 4, 5, 6] Tryz.f62 = some F62 := by as_aux_lemma => kernel_rfl
def F63 : LFunc := ⟨[0, 2], 1,
.seq (.region [qo .mv [.const (.bool false)]] [(1, 0)])
(.seq (.region [qo .mv [.env 0],
qo (.call 55) [.const (.str ⟨#[57]⟩)],
qo (.call 59) [.loc 1, .const (.int .i64 0), .loc 0],
qo .mv [.env 0],
qo (.len true) [.loc 0],
qo (.bin .eql) [.loc 2, .loc 0],
qo .mv [.loc 0]] [(1, 0)])
(.ret)),
[.tmp 1]⟩
theorem F63_low : lowFn Tryz.prog false [0, 2] Tryz.f63 = some F63 := by as_aux_lemma => kernel_rfl
def F64 : LFunc := ⟨[0, 1, 4, 5, 6, 12, 21, 31], 2,
.seq (.region [qo .mv [.const (.str ⟨#[]⟩)]] [(2, 0)])
(.seq (.seq (.region [qo .mv [.env 0],
qo (.bin .eql) [.loc 0, .const (.str ⟨#[]⟩)],
qo .mv [.loc 0],
qg .mv [.env 1] 0 false,
qg (.bin .eql) [.loc 0, .const (.str ⟨#[]⟩)] 1 false,
qo .pick [.loc 2, .const (.bool true), .loc 0]] [(5, 0)])
(.cond (.env 5) (.seq (.region [qo .mv [.env 0],
qo .mv [.loc 0]] [(2, 0)])
(.ret)) (.skip)))
(.seq (.seq (.region [qo .mv [.env 1],
qo (.len true) [.loc 0],
qo (.bin .eql) [.loc 0, .const (.int .i64 1)],
qo .mv [.loc 0],
qg .mv [.env 1] 0 true,
qg .index [.loc 0, .const (.int .i64 0)] 1 true,
qg (.bin .lss) [.loc 0, .const (.int .u8 128)] 2 true,
qo .pick [.loc 3, .loc 0, .const (.bool false)]] [(6, 0)])
(.cond (.env 6) (.seq (.region [qo .mv [.env 0],
qo .mv [.env 1],
qo .index [.loc 0, .const (.int .i64 0)],
qo (.call 99) [.loc 2, .loc 0],
qo .mv [.loc 0]] [(2, 0)])
(.ret)) (.skip)))
(.seq (.seq (.region [qo .mv [.env 1],
qo (.call 100) [.loc 0],
qo .mv [.loc 0],
qo (.extract 0) [.loc 0],
qo (.extract 1) [.loc 1],
qo (.alloc 158 [.bool false, .bool false, .bool false, .bool false, .bool false, .bool false, .bool false, .bool false, .bool false, .bool false, .bool false, .bool false, .bool false, .bool false, .bool false, .bool false, .bool false, .bool false, .bool false, .bool false, .bool false, .bool false, .bool false, .bool false, .bool false, .bool false, .bool false, .bool false, .bool false, .bool false, .bool false, .bool false, .bool false, .bool false, .bool false, .bool false, .bool false, .bool false, .bool false, .bool false, .bool false, .bool false, .bool false, .bool false, .bool false, .bool false, .bool false, .bool false, .bool false, .bool false, .bool false, .bool false, .bool false, .bool false, .bool false, .bool false, .bool false, .bool false, .bool false, .bool false, .bool false, .bool false, .bool false, .bool false, .bool false, .bool false, .bool false, .bool false, .bool false, .bool false, .bool false, .bool false, .bool false, .bool false, .bool false, .bool false, .bool false, .bool false, .bool false, .bool false, .bool false, .bool false, .bool false, .bool false, .bool false, .bool false, .bool false, .bool false, .bool false, .bool false, .bool false, .bool false, .bool false, .bool false, .bool false, .bool false, .bool false, .bool false, .bool false, .bool false, .bool false, .bool false, .bool false, .bool false, .bool false, .bool false, .bool false, .bool false, .bool false, .bool false, .bool false, .bool false, .bool false, .bool false, .bool false, .bool false, .bool false, .bool false, .bool false, .bool false, .bool false, .bool false, .bool false, .bool false, .bool false, .bool false, .bool false, .bool false, .bool false, .bool false, .bool false, .bool false, .bool false, .bool false, .bool false, .bool false, .bool false, .bool false, .bool false, .bool false, .bool false, .bool false, .bool false, .bool false, .bool false, .bool false, .bool false, .bool false, .bool false, .bool false, .bool false, .bool false, .bool false, .bool false, .bool false, .bool false, .bool false, .bool false, .bool false, .bool false, .bool false, .bool false, .bool false, .bool false, .bool false, .bool false, .bool false, .bool false, .bool false, .bool false, .bool false, .bool false, .bool false, .bool false, .bool false, .bool false, .bool false, .bool false, .bool false, .bool false, .bool false, .bool false, .bool false, .bool false, .bool false, .bool false, .bool false, .bool false, .bool false, .bool false, .bool false, .bool false, .bool false, .bool false, .bool false, .bool false, .bool false, .bool false, .bool false, .bool false, .bool false, .bool false, .bool false, .bool false, .bool false, .bool false, .bool false, .bool false, .bool false, .bool false, .bool false, .bool false, .bool false, .bool false, .bool false, .bool false, .bool false, .bool false, .bool false, .bool false, .bool false, .bool false, .bool false, .bool false, .bool false, .bool false, .bool false, .bool false, .bool false, .bool false, .bool false, .bool false, .bool false, .bool false, .bool false, .bool false, .bool false, .bool false, .bool false, .bool false, .bool false, .bool false, .bool false, .bool false, .bool false, .bool false, .bool false, .bool false, .bool false, .bool false, .bool false, .bool false, .bool false, .bool false, .bool false, .bool false]) [],
qo (.store 256) [.loc 0, .loc 2],
qo .mv [.loc 2]] [(3, 2), (4, 0)])
(.seq (.region [qo .mv [.env 4]] [(7, 0)])
(.cond (.env 7) (.seq (.region [qo .mv [.env 0],
qo (.call 101) [.loc 0, .env 3],
qo .mv [.loc 0]] [(2, 0)])
(.ret)) (.skip))))
(.seq (.region [qo .mv [.env 0],
qo .mv [.env 1],
qo (.call 102) [.loc 1, .loc 0],
qo .mv [.loc 0]] [(2, 0)])
(.ret))))),
[.tmp 2]⟩
theorem F64_low : lowFn Tryz.prog false [0, 1, 4, 5, 6, 12, 21, 31] Tryz.f64 = some F64 := by as_aux_lemma => kernel_rfl
def F78 : LFunc := ⟨[0, 1, 2, 4, 8], 1,
.seq (.region [qo (.box 99 12) [.env 0],
qo .mv [.const (.int .i64 0)]] [(1, 1), (2, 0)])
(.seq (.seq (.region [qo (.faddr 0) [.env 1],
qo (.load 11 true) [.loc 0],
qo (.call 117) [.loc 0],
qo (.bin .neq) [.loc 0, .const (.int .i64 0)]] [(4, 0)])
(.cond (.env 4) (.seq (.region [qo .mv [.const (.int .i64 1)]] [(2, 0)])
(.ret)) (.skip)))
(.seq (.region [qo (.load 12 true) [.env 1],
qo (.call 81) [.loc 0],
qo .mv [.loc 0],
qo (.extract 0) [.loc 0],
qo (.extract 1) [.loc 1],
qo (.alloc 143 [.bool false, .str ⟨#[]⟩]) [],
qo (.store 2) [.loc 0, .loc 2],
qo .mv [.loc 2]] [(3, 0)])
(.seq (.region [qo .mv [.env 3],
qo .mv [.loc 0]] [(2, 0)])
(.ret)))),
[.tmp 2]⟩
theorem F78_low : lowFn Tryz.prog false [0, 1, 2, 4, 8] Tryz.f78 = some F78 := by as_aux_lemma => kernel_rfl
def F79 : LFunc := ⟨[0, 1, 2, 6, 7, 8, 9, 13, 30, 35, 54], 3,
.seq (.region [qo .mv [.const (.int .i64 20)]] [(3, 0)])
(.seq (.region [qo .mv [.env 3],
qo .mv [.const (.int .i64 0)],
qo .mv [.loc 1]] [(4, 1), (5, 0)])
(.seq (.block 0 (.loop (.seq (.seq (.region [qo .mv [.env 5],
qo .mv [.env 1],
qo (.bin .leq) [.loc 1, .loc 0]] [(7, 0)])
(.cond (.env 7) (.skip) (.exit 0)))
(.block 1 (.seq (.region [qo .mv [.env 0],
qo .mv [.env 4],
qo .mv [.env 5],
qo .mv [.env 2],
qo (.call 118) [.loc 3, .loc 2, .loc 1, .loc 0]] [])
(.seq (.region [qo .mv [.env 5],
qo .mv [.loc 0]] [(4, 0)])
(.region [qo .mv [.env 5],
qo .mv [.env 3],
qo (.bin .add) [.loc 1, .loc 0],
qo .mv [.loc 0]] [(5, 0)])))))))
(.seq (.region [qo .mv [.env 0],
qo .mv [.env 4],
qo .mv [.env 1],
qo .mv [.env 2],
qo (.call 118) [.loc 3, .loc 2, .loc 1, .loc 0]] [])
(.block 2 (.loop (.seq (.seq (.region [qo .mv [.env 3],
qo .mv [.env 1],
qo (.bin .lss) [.loc 1, .loc 0]] [(8, 0)])
(.cond (.env 8) (.skip) (.exit 2)))
(.block 3 (.seq (.region [qo .mv [.env 3],
qo (.bin .mul) [.const (.int .i64 2), .loc 0],
qo .mv [.const (.int .i64 0)],
qo .mv [.loc 1]] [(4, 1), (5, 0)])
(.seq (.block 4 (.loop (.seq (.seq (.region [qo .mv [.env 5],
qo .mv [.env 1],
qo (.bin .leq) [.loc 1, .loc 0]] [(9, 0)])
(.cond (.env 9) (.skip) (.exit 4)))
(.block 5 (.seq (.region [qo .mv [.env 0],
qo .mv [.env 4],
qo .mv [.env 4],
qo .mv [.env 3],
qo (.bin .add) [.loc 1, .loc 0],
qo .mv [.env 5],
qo .mv [.env 2],
qo (.call 119) [.loc 6, .loc 5, .loc 2, .loc 1, .loc 0]] [])
(.seq (.region [qo .mv [.env 5],
qo .mv [.loc 0]] [(4, 0)])
(.region [qo .mv [.env 5],
qo .mv [.env 3],
qo (.bin .mul) [.const (.int .i64 2), .loc 0],
qo (.bin .add) [.loc 2, .loc 0],
qo .mv [.loc 0]] [(5, 0)])))))))
(.seq (.seq (.region [qo .mv [.env 4],
qo .mv [.env 3],
qo (.bin .add) [.loc 1, .loc 0],
qo .mv [.loc 0]] [(6, 0)])
(.seq (.region [qo .mv [.env 6],
qo .mv [.env 1],
qo (.bin .lss) [.loc 1, .loc 0]] [(10, 0)])
(.cond (.env 10) (.region [qo .mv [.env 0],
qo .mv [.env 4],
qo .mv [.env 6],
qo .mv [.env 1],
qo .mv [.env 2],
qo (.call 119) [.loc 4, .loc 3, .loc 2, .loc 1, .loc 0]] []) (.skip))))
(.region [qo .mv [.env 3],
qo (.bin .mul) [.loc 0, .const (.int .i64 2)],
qo .mv [.loc 0]] [(3, 0)]))))))))))),
[]⟩
theorem F79_low : lowFn Tryz.prog false [0, 1, 2, 6, 7, 8, 9, 13, 30, 35, 54] Tryz.f79 = some F79 := by as_aux_lemma => kernel_rfl
def F80 : LFunc := ⟨[0, 1, 2, 3, 7], 1,
.seq (.region [qo (.box 51 11) [.env 0],
qo .mv [.const (.int .i64 0)]] [(1, 1), (2, 0)])
(.seq (.block 0 (.seq (.region [qo (.load 11 true) [.env 1],
qo (.call 117) [.loc 0],
qo (.bin .neq) [.loc 0, .const (.int .i64 0)],
qo .mv [.loc 0]] [(3, 0)])
(.cond (.env 3) (.seq (.region [qo .mv [.const (.int .i64 1)]] [(2, 0)])
(.ret)) (.seq (.region [qo (.faddr 0) [.env 1],
qo (.load 1 false) [.loc 0],
qo (.bin .neq) [.loc 0, .const (.int .u8 4)],
qo .mv [.loc 0]] [(4, 0)])
(.cond (.env 4) (.seq (.region [qo .mv [.const (.int .i64 12)]] [(2, 0)])
(.ret)) (.skip))))))
(.seq (.region [qo .mv [.const (.int .i64 0)]] [(2, 0)])
(.ret))),
[.tmp 2]⟩
theorem F80_low : lowFn Tryz.prog false [0, 1, 2, 3, 7] Tryz.f80 = some F80 := by as_aux_lemma => kernel_rfl
def F81 : LFunc := ⟨[0, 1, 2, 3, 4, 5, 12, 17, 32], 1,
.seq (.region [qo (.box 99 12) [.env 0],
qo (.alloc 143 [.bool false, .str ⟨#[]⟩]) [],
qo .mv [.const (.int .i64 0)]] [(1, 2), (2, 1), (3, 0)])
(.seq (.seq (.region [qo (.faddr 11) [.env 1],
qo (.load 1 false) [.loc 0],
qo (.len false) [.loc 0],
qo (.faddr 0) [.env 1],
qo (.faddr 10) [.loc 0],
qo (.load 1 false) [.loc 0],
qo (.bin .neq) [.loc 3, .loc 0]] [(6, 0)])
(.cond (.env 6) (.seq (.region [qo (.build [.bool false, .str ⟨#[]⟩] []) [],
qo (.store 2) [.env 2, .loc 0],
qo .mv [.const (.int .i64 5)]] [(3, 0)])
(.ret)) (.skip)))
(.seq (.seq (.region [qo (.faddr 0) [.env 1],
qo (.faddr 0) [.loc 0],
qo (.load 1 false) [.loc 0],
qo (.bin .neq) [.loc 0, .const (.int .u8 4)]] [(7, 0)])
(.cond (.env 7) (.seq (.region [qo (.build [.bool false, .str ⟨#[]⟩] []) [],
qo (.store 2) [.env 2, .loc 0],
qo .mv [.const (.int .i64 0)]] [(3, 0)])
(.ret)) (.skip)))
(.seq (.drawn [qo (.faddr 0) [.env 1],
qw (.load 11 true) [.loc 0] 1 1,
qw (.call 120) [.loc 0] 3 2,
qw (.field 0 1 false) [.loc 0] 7 3,
qw (.faddr 0) [.env 1] 0 4,
qw (.load 11 true) [.loc 0] 16 5,
qw (.faddr 11) [.env 1] 0 6,
qw (.load 1 false) [.loc 0] 64 7,
qw .callv [.loc 4, .loc 2, .loc 0] 255 8,
qw .mv [.loc 0] 511 9,
qw (.extract 0) [.loc 0] 1023 10,
qw (.extract 1) [.loc 1] 1023 11,
⟨.mv, [.loc 12], none, ob 0 12, some 0⟩,
qw (.store 2) [.loc 0, .loc 2] 6143 13,
qw .mv [.loc 2] 16383 14] [(4, 2), (5, 0)] [(143, [.bool false, .str ⟨#[]⟩])])
(.seq (.seq (.region [qo .mv [.env 5],
qo (.un .not) [.loc 0]] [(8, 0)])
(.cond (.env 8) (.seq (.region [qo (.build [.bool false, .str ⟨#[]⟩] []) [],
qo (.store 2) [.env 2, .loc 0],
qo .mv [.const (.int .i64 15)]] [(3, 0)])
(.ret)) (.skip)))
(.seq (.region [qo (.load 2 true) [.env 4],
qo (.store 2) [.env 2, .loc 0],
qo .mv [.const (.int .i64 0)]] [(3, 0)])
(.ret)))))),
[.cell 2 2 true, .tmp 3]⟩
theorem F81_low : lowFn Tryz.prog false [0, 1, 2, 3, 4, 5, 12, 17, 32] Tryz.f81 = some F81 := by as_aux_lemma => kernel_rfl
def F82 : LFunc := ⟨[0, 1, 2, 6, 7, 23], 3,
.seq (.region [qo (.alloc 102 [.bool false, .str ⟨#[]⟩, .int .i64 0]) [],
qo .mv [.const (.int .i64 0)]] [(3, 1), (4, 0)])
(.seq (.seq (.region [qo .mv [.env 1],
qo (.call 121) [.loc 0],
qo (.un .not) [.loc 0],
qo .mv [.loc 0],
qg .mv [.env 1] 0 false,
qg (.len true) [.loc 0] 1 false,
qg (.bin .gtr) [.loc 0, .const (.int .i64 1000)] 2 false,
qo .pick [.loc 3, .const (.bool true), .loc 0],
qo .mv [.loc 0],
qg .mv [.env 2] 0 false,
qg (.bin .lss) [.loc 0, .const (.int .i64 (-1000))] 1 false,
qo .pick [.loc 2, .const (.bool true), .loc 0],
qo .mv [.loc 0],
qg .mv [.env 2] 0 false,
qg (.bin .gtr) [.loc 0, .const (.int .i64 1000)] 1 false,
qo .pick [.loc 2, .const (.bool true), .loc 0]] [(5, 0)])
(.cond (.env 5) (.seq (.region [qo (.build [.bool false, .str ⟨#[]⟩, .int .i64 0] []) [],
qo (.store 3) [.env 3, .loc 0],
qo .mv [.const (.int .i64 1)]] [(4, 0)])
(.ret)) (.skip)))
(.seq (.region [qo .mv [.env 0],
qo .mv [.env 1],
qo .mv [.env 2],
qo (.call 122) [.loc 2, .loc 1, .loc 0],
qo (.extract 0) [.loc 0],
qo (.extract 1) [.loc 1],
qo (.store 3) [.env 3, .loc 1],
qo .mv [.loc 1]] [(4, 0)])
(.ret))),
[.cell 3 3 true, .tmp 4]⟩
theorem F82_low : lowFn Tryz.prog false [0, 1, 2, 6, 7, 23] Tryz.f82 = some F82 := by as_aux_lemma => kernel_rfl
def F83 : LFunc := ⟨[0, 1, 2, 3, 4], 2,
.seq (.region [qo (.box 102 3) [.env 0],
qo (.box 102 3) [.env 1],
qo .mv [.const (.int .i64 0)]] [(2, 2), (3, 1), (4, 0)])
(.seq (.drawn [qo (.load 3 true) [.env 2],
qw (.call 123) [.loc 0] 1 1,
qw (.load 3 true) [.env 3] 0 2,
qw (.call 123) [.loc 0] 7 3,
qw .max [.loc 2, .loc 0] 15 4,
qw .mv [.loc 0] 31 5] [(4, 0)] [])
(.ret)),
[.tmp 4]⟩
theorem F83_low : lowFn Tryz.prog false [0, 1, 2, 3, 4] Tryz.f83 = some F83 := by as_aux_lemma => kernel_rfl
def F84 : LFunc := ⟨[0, 1, 2, 3, 4, 5, 6, 7], 2,
.seq (.region [qo (.box 102 3) [.env 0],
qo (.box 102 3) [.env 1],
qo .mv [.const (.str ⟨#[]⟩)],
qo .mv [.const (.str ⟨#[]⟩)],
qo .mv [.const (.int .i64 0)]] [(2, 4), (3, 3), (4, 2), (5, 1), (6, 0)])
(.seq (.region [qo (.faddr 2) [.env 2],
qo (.load 1 false) [.loc 0],
qo (.faddr 2) [.env 3],
qo (.load 1 false) [.loc 0],
qo .max [.loc 2, .loc 0],
qo .mv [.loc 0]] [(6, 0)])
(.seq (.drawn [qo (.faddr 1) [.env 2],
qw (.load 1 false) [.loc 0] 1 1,
qw .mv [.env 6] 0 2,
qw (.faddr 2) [.env 2] 0 3,
qw (.load 1 false) [.loc 0] 8 4,
qw (.bin .sub) [.loc 2, .loc 0] 28 5,
qw (.call 57) [.const (.str ⟨#[48]⟩), .loc 0] 60 6,
qw (.bin .add) [.loc 5, .loc 0] 127 7,
qw .mv [.loc 0] 255 8] [(4, 0)] [])
(.seq (.drawn [qo (.faddr 1) [.env 3],
qw (.load 1 false) [.loc 0] 1 1,
qw .mv [.env 6] 0 2,
qw (.faddr 2) [.env 3] 0 3,
qw (.load 1 false) [.loc 0] 8 4,
qw (.bin .sub) [.loc 2, .loc 0] 28 5,
qw (.call 57) [.const (.str ⟨#[48]⟩), .loc 0] 60 6,
qw (.bin .add) [.loc 5, .loc 0] 127 7,
qw .mv [.loc 0] 255 8] [(5, 0)] [])
(.seq (.region [qo .mv [.env 4],
qo (.len true) [.loc 0],
qo .mv [.env 5],
qo (.len true) [.loc 0],
qo .max [.loc 2, .loc 0],
qo .mv [.loc 0]] [(7, 0)])
(.seq (.region [qo .mv [.env 4],
qo .mv [.env 7],
qo (.call 124) [.loc 1, .loc 0],
qo .mv [.env 5],
qo .mv [.env 7],
qo (.call 124) [.loc 1, .loc 0],
qo .mv [.env 6],
qo .mv [.loc 4],
qo .mv [.loc 2],
qo .mv [.loc 2]] [(4, 2), (5, 1), (6, 0)])
(.ret)))))),
[.tmp 4, .tmp 5, .tmp 6]⟩
theorem F84_low : lowFn Tryz.prog false [0, 1, 2, 3, 4, 5, 6, 7] Tryz.f84 = some F84 := by as_aux_lemma => kernel_rfl
def F85 : LFunc := ⟨[0, 1, 4, 5, 6, 11, 12, 13, 16, 19], 2,
.seq (.region [qo .mv [.const (.int .i64 0)]] [(2, 0)])
(.seq (.region [qo .mv [.env 0],
qo (.call 125) [.loc 0],
qo .mv [.loc 0]] [(3, 0)])
(.seq (.region [qo .mv [.env 1],
qo (.call 125) [.loc 0],
qo .mv [.loc 0]] [(4, 0)])
(.seq (.seq (.region [qo .mv [.env 3]] [(5, 0)])
(.cond (.env 5) (.seq (.seq (.region [qo .mv [.env 4]] [(6, 0)])
(.cond (.env 6) (.seq (.region [qo .mv [.const (.int .i64 0)]] [(2, 0)])
(.ret)) (.skip)))
(.seq (.region [qo .mv [.const (.int .i64 (-1))]] [(2, 0)])
(.ret))) (.skip)))
(.seq (.seq (.region [qo .mv [.env 4]] [(7, 0)])
(.cond (.env 7) (.seq (.region [qo .mv [.const (.int .i64 1)]] [(2, 0)])
(.ret)) (.skip)))
(.seq (.seq (.region [qo .mv [.env 0],
qo .mv [.env 1],
qo (.bin .lss) [.loc 1, .loc 0]] [(8, 0)])
(.cond (.env 8) (.seq (.region [qo .mv [.const (.int .i64 (-1))]] [(2, 0)])
(.ret)) (.skip)))
(.seq (.seq (.region [qo .mv [.env 0],
qo .mv [.env 1],
qo (.bin .gtr) [.loc 1, .loc 0]] [(9, 0)])
(.cond (.env 9) (.seq (.region [qo .mv [.const (.int .i64 1)]] [(2, 0)])
(.ret)) (.skip)))
(.seq (.region [qo .mv [.const (.int .i64 0)]] [(2, 0)])
(.ret)))))))),
[.tmp 2]⟩
theorem F85_low : lowFn Tryz.prog false [0, 1, 4, 5, 6, 11, 12, 13, 16, 19] Tryz.f85 = some F85 := by as_aux_lemma => kernel_rfl
def F86 : LFunc := ⟨[0, 1, 4, 5, 6, 11, 12, 13, 16, 19], 2,
.seq (.region [qo .mv [.const (.int .i64 0)]] [(2, 0)])
(.seq (.region [qo .mv [.env 0],
qo (.call 126) [.loc 0],
qo .mv [.loc 0]] [(3, 0)])
(.seq (.region [qo .mv [.env 1],
qo (.call 126) [.loc 0],
qo .mv [.loc 0]] [(4, 0)])
(.seq (.seq (.region [qo .mv [.env 3]] [(5, 0)])
(.cond (.env 5) (.seq (.seq (.region [qo .mv [.env 4]] [(6, 0)])
(.cond (.env 6) (.seq (.region [qo .mv [.const (.int .i64 0)]] [(2, 0)])
(.ret)) (.skip)))
(.seq (.region [qo .mv [.const (.int .i64 (-1))]] [(2, 0)])
(.ret))) (.skip)))
(.seq (.seq (.region [qo .mv [.env 4]] [(7, 0)])
(.cond (.env 7) (.seq (.region [qo .mv [.const (.int .i64 1)]] [(2, 0)])
(.ret)) (.skip)))
(.seq (.seq (.region [qo .mv [.env 0],
qo .mv [.env 1],
qo (.bin .lss) [.loc 1, .loc 0]] [(8, 0)])
(.cond (.env 8) (.seq (.region [qo .mv [.const (.int .i64 (-1))]] [(2, 0)])
(.ret)) (.skip)))
(.seq (.seq (.region [qo .mv [.env 0],
qo .mv [.env 1],
qo (.bin .gtr) [.loc 1, .loc 0]] [(9, 0)])
(.cond (.env 9) (.seq (.region [qo .mv [.const (.int .i64 1)]] [(2, 0)])
(.ret)) (.skip)))
(.seq (.region [qo .mv [.const (.int .i64 0)]] [(2, 0)])
(.ret)))))))),
[.tmp 2]⟩
theorem F86_low : lowFn Tryz.prog false [0, 1, 4, 5, 6, 11, 12, 13, 16, 19] Tryz.f86 = some F86 := by as_aux_lemma => kernel_rfl
def F87 : LFunc := ⟨[0, 1, 4, 8], 2,
.seq (.region [qo .mv [.const (.int .u8 0)]] [(2, 0)])
(.seq (.seq (.region [qo .mv [.env 1],
qo .mv [.env 0],
qo (.len false) [.loc 0],
qo (.bin .geq) [.loc 2, .loc 0]] [(3, 0)])
(.cond (.env 3) (.seq (.region [qo .mv [.const (.int .u8 32)]] [(2, 0)])
(.ret)) (.skip)))
(.seq (.region [qo .mv [.env 0],
qo .mv [.env 1],
qo (.iaddr 1) [.loc 1, .loc 0],
qo (.load 1 false) [.loc 0],
qo .mv [.loc 0]] [(2, 0)])
(.ret))),
[.tmp 2]⟩
theorem F87_low : lowFn Tryz.prog false [0, 1, 4, 8] Tryz.f87 = some F87 := by as_aux_lemma => kernel_rfl
def F88 : LFunc := ⟨[0, 1, 4], 2,
.seq (.region [qo .mv [.const (.bool false)]] [(2, 0)])
(.seq (.region [qo .mv [.env 0],
qo .mv [.env 1],
qo (.call 127) [.loc 1, .loc 0],
qo .mv [.loc 0]] [(2, 0)])
(.ret)),
[.tmp 2]⟩
theorem F88_low : lowFn Tryz.prog false [0, 1, 4] Tryz.f88 = some F88 := by as_aux_lemma => kernel_rfl
def F90 : LFunc := ⟨[0, 1, 3], 2,
.seq (.region [qo .mv [.const (.bool false)]] [(2, 0)])
(.seq (.region [qo (.load 1 false) [.env 1],
qo .mv [.env 0],
qo (.call 91) [.loc 1, .loc 0],
qo (.bin .geq) [.loc 0, .const (.int .i64 0)],
qo .mv [.loc 0]] [(2, 0)])
(.ret)),
[.tmp 2]⟩
theorem F90_low : lowFn Tryz.prog false [0, 1, 3] Tryz.f90 = some F90 := by as_aux_lemma => kernel_rfl
def F91 : LFunc := ⟨[0, 1, 4], 2,
.seq (.region [qo .mv [.const (.int .i64 0)]] [(2, 0)])
(.seq (.region [qo .mv [.env 0],
qo .mv [.env 1],
qo (.call 130) [.loc 1, .loc 0],
qo .mv [.loc 0]] [(2, 0)])
(.ret)),
[.tmp 2]⟩
theorem F91_low : lowFn Tryz.prog false [0, 1, 4] Tryz.f91 = some F91 := by as_aux_lemma => kernel_rfl
def F92 : LFunc := ⟨[0, 6, 19], 1,
.seq (.region [qo .mv [.env 0],
qo .nilck [.loc 0],
qo (.faddr 0) [.loc 0],
qo (.load 1 false) [.loc 0],
qo (.eqp false) [.loc 0, .const (.nilp)]] [(1, 0)])
(.cond (.env 1) (.region [qo .mv [.env 0],
qo .mv [.env 0],
qo (.toU 108 2) [.loc 0],
qo .mv [.loc 0],
qo (.ofU 108 2) [.loc 0],
qo .nilck [.loc 4],
qo (.faddr 0) [.loc 0],
qo (.store 1) [.loc 0, .loc 2]] []) (.seq (.region [⟨.mv, [.env 0], none, [], none⟩,
qo .nilck [.loc 0],
qo (.faddr 0) [.loc 0],
qo (.load 1 false) [.loc 0],
qo .mv [.env 0],
qo (.eqp true) [.loc 1, .loc 0]] [(2, 0)])
(.cond (.env 2) (.fail) (.skip)))),
[]⟩
theorem F92_low : lowFn Tryz.prog false [0, 6, 19] Tryz.f92 = some F92 := by as_aux_lemma => kernel_rfl
def F93 : LFunc := ⟨[0, 1, 4, 5, 6, 7, 8, 9], 2,
.seq (.region [qo .mv [.const (.int .u64 0)],
qo .mv [.const (.int .u64 0)]] [(2, 1), (3, 0)])
(.seq (.cond (.const (.bool false)) (.seq (.region [qo .mv [.env 0],
qo (.conv .u32) [.loc 0],
qo .mv [.env 1],
qo (.conv .u32) [.loc 0],
qo (.call 132) [.loc 2, .loc 0],
qo .mv [.loc 0],
qo (.extract 0) [.loc 0],
qo (.extract 1) [.loc 1],
qo .mv [.loc 1],
qo .mv [.loc 1]] [(4, 1), (5, 0)])
(.seq (.region [qo .mv [.env 4],
qo (.conv .u64) [.loc 0],
qo .mv [.env 5],
qo (.conv .u64) [.loc 0],
qo .mv [.loc 2],
qo .mv [.loc 1]] [(2, 1), (3, 0)])
(.ret))) (.skip))
(.seq (.region [qo .mv [.env 0],
qo .mv [.env 1],
qo (.call 133) [.loc 1, .loc 0],
qo .mv [.loc 0],
qo (.extract 0) [.loc 0],
qo (.extract 1) [.loc 1],
qo .mv [.loc 1],
qo .mv [.loc 1]] [(6, 1), (7, 0)])
(.seq (.region [qo .mv [.env 6],
qo .mv [.env 7],
qo .mv [.loc 1],
qo .mv [.loc 1]] [(2, 1), (3, 0)])
(.ret)))),
[.tmp 2, .tmp 3]⟩
theorem F93_low : lowFn Tryz.prog false [0, 1, 4, 5, 6, 7, 8, 9] Tryz.f93 = some F93 := by as_aux_lemma => kernel_rfl
def F96 : LFunc := ⟨[0, 1, 4, 5, 6, 7, 8, 9, 10, 12, 15, 20, 26, 32, 36, 42, 45, 46, 47, 53], 2,
.seq (.region [qo .mv [.const (.int .i64 0)]] [(2, 0)])
(.seq (.seq (.region [qo .mv [.env 1],
qo (.bin .eql) [.loc 0, .const (.str ⟨#[]⟩)]] [(9, 0)])
(.cond (.env 9) (.seq (.region [qo .mv [.const (.int .i64 (-1))]] [(2, 0)])
(.ret)) (.skip)))
(.seq (.seq (.region [qo .mv [.env 1],
qo (.len true) [.loc 0],
qo (.bin .eql) [.loc 0, .const (.int .i64 1)]] [(10, 0)])
(.cond (.env 10) (.seq (.region [qo .mv [.env 1],
qo .index [.loc 0, .const (.int .i64 0)],
qo (.conv .i32) [.loc 0],
qo .mv [.loc 0]] [(3, 0)])
(.seq (.seq (.region [qo .mv [.env 3],
qo (.bin .geq) [.loc 0, .const (.int .i32 128)]] [(11, 0)])
(.cond (.env 11) (.region [qo .mv [.const (.int .i32 65533)]] [(3, 0)]) (.skip)))
(.seq (.region [qo .mv [.env 0],
qo .mv [.env 3],
qo (.call 113) [.loc 1, .loc 0],
qo .mv [.loc 0]] [(2, 0)])
(.ret)))) (.skip)))
(.seq (.seq (.region [qo .mv [.env 0],
qo (.len true) [.loc 0],
qo (.call 135) [.loc 0]] [(12, 0)])
(.cond (.env 12) (.seq (.region [qo .mv [.env 1],
qo (.call 100) [.loc 0],
qo .mv [.loc 0],
qo (.extract 0) [.loc 0],
qo (.extract 1) [.loc 1],
qo (.alloc 158 [.bool false, .bool false, .bool false, .bool false, .bool false, .bool false, .bool false, .bool false, .bool false, .bool false, .bool false, .bool false, .bool false, .bool false, .bool false, .bool false, .bool false, .bool false, .bool false, .bool false, .bool false, .bool false, .bool false, .bool false, .bool false, .bool false, .bool false, .bool false, .bool false, .bool false, .bool false, .bool false, .bool false, .bool false, .bool false, .bool false, .bool false, .bool false, .bool false, .bool false, .bool false, .bool false, .bool false, .bool false, .bool false, .bool false, .bool false, .bool false, .bool false, .bool false, .bool false, .bool false, .bool false, .bool false, .bool false, .bool false, .bool false, .bool false, .bool false, .bool false, .bool false, .bool false, .bool false, .bool false, .bool false, .bool false, .bool false, .bool false, .bool false, .bool false, .bool false, .bool false, .bool false, .bool false, .bool false, .bool false, .bool false, .bool false, .bool false, .bool false, .bool false, .bool false, .bool false, .bool false, .bool false, .bool false, .bool false, .bool false, .bool false, .bool false, .bool false, .bool false, .bool false, .bool false, .bool false, .bool false, .bool false, .bool false, .bool false, .bool false, .bool false, .bool false, .bool false, .bool false, .bool false, .bool false, .bool false, .bool false, .bool false, .bool false, .bool false, .bool false, .bool false, .bool false, .bool false, .bool false, .bool false, .bool false, .bool false, .bool false, .bool false, .bool false, .bool false, .bool false, .bool false, .bool false, .bool false, .bool false, .bool false, .bool false, .bool false, .bool false, .bool false, .bool false, .bool false, .bool false, .bool false, .bool false, .bool false, .bool false, .bool false, .bool false, .bool false, .bool false, .bool false, .bool false, .bool false, .bool false, .bool false, .bool false, .bool false, .bool false, .bool false, .bool false, .bool false, .bool false, .bool false, .bool false, .bool false, .bool false, .bool false, .bool false, .bool false, .bool false, .bool false, .bool false, .bool false, .bool false, .bool false, .bool false, .bool false, .bool false, .bool false, .bool false, .bool false, .bool false, .bool false, .bool false, .bool false, .bool false, .bool false, .bool false, .bool false, .bool false, .bool false, .bool false, .bool false, .bool false, .bool false, .bool false, .bool false, .bool false, .bool false, .bool false, .bool false, .bool false, .bool false, .bool false, .bool false, .bool false, .bool false, .bool false, .bool false, .bool false, .bool false, .bool false, .bool false, .bool false, .bool false, .bool false, .bool false, .bool false, .bool false, .bool false, .bool false, .bool false, .bool false, .bool false, .bool false, .bool false, .bool false, .bool false, .bool false, .bool false, .bool false, .bool false, .bool false, .bool false, .bool false, .bool false, .bool false, .bool false, .bool false, .bool false, .bool false, .bool false, .bool false, .bool false, .bool false, .bool false, .bool false, .bool false, .bool false, .bool false, .bool false, .bool false, .bool false, .bool false, .bool false, .bool false, .bool false, .bool false, .bool false, .bool false, .bool false, .bool false]) [],
qo (.store 256) [.loc 0, .loc 2],
qo .mv [.loc 2]] [(4, 2), (5, 0)])
(.seq (.region [qo .mv [.env 5]] [(13, 0)])
(.cond (.env 13) (.seq (.seq (.region [qo .mv [.const (.int .i64 0)]] [(6, 0)])
(.block 0 (.loop (.seq (.seq (.region [qo .mv [.env 6],
qo .mv [.env 0],
qo (.len true) [.loc 0],
qo (.bin .lss) [.loc 2, .loc 0]] [(14, 0)])
(.cond (.env 14) (.skip) (.exit 0)))
(.seq (.block 1 (.seq (.region [qo .mv [.env 0],
qo .mv [.env 6],
qo .index [.loc 1, .loc 0],
qo (.call 136) [.env 4, .loc 0]] [(15, 0)])
(.cond (.env 15) (.seq (.region [qo .mv [.env 6],
qo .mv [.loc 0]] [(2, 0)])
(.ret)) (.skip))))
(.region [qo .mv [.env 6],
qo (.bin .add) [.loc 0, .const (.int .i64 1)],
qo .mv [.loc 0]] [(6, 0)]))))))
(.seq (.region [qo .mv [.const (.int .i64 (-1))]] [(2, 0)])
(.ret))) (.skip)))) (.skip)))
(.seq (.seq (.region [qo .mv [.env 0],
qo .rngs [.loc 0]] [(16, 0)])
(.block 2 (.loop (.seq (.region [qo .nexts [.env 16],
qo (.extract 0) [.loc 0]] [(17, 1), (18, 0)])
(.seq (.cond (.env 18) (.skip) (.exit 2))
(.block 3 (.seq (.region [qo (.extract 1) [.env 17],
qo (.extract 2) [.env 17],
qo .mv [.loc 1],
qo .mv [.loc 1]] [(7, 1), (8, 0)])
(.seq (.region [qo .mv [.env 1],
qo .mv [.env 8],
qo (.call 113) [.loc 1, .loc 0],
qo (.bin .geq) [.loc 0, .const (.int .i64 0)]] [(19, 0)])
(.cond (.env 19) (.seq (.region [qo .mv [.env 7],
qo .mv [.loc 0]] [(2, 0)])
(.ret)) (.skip))))))))))
(.seq (.region [qo .mv [.const (.int .i64 (-1))]] [(2, 0)])
(.ret)))))),
[.tmp 2]⟩
theorem F96_low : lowFn Tryz.prog false [0, 1, 4, 5, 6, 7, 8, 9, 10, 12, 15, 20, 26, 32, 36, 42, 45, 46, 47, 53] Tryz.f96 = some F96 := by as_aux_lemma => kernel_rfl
def F97 : LFunc := ⟨[0, 1, 4, 5, 9], 2,
.seq (.region [qo .mv [.const (.str ⟨#[]⟩)],
qo .mv [.const (.bool false)]] [(2, 1), (3, 0)])
(.seq (.seq (.region [qo .mv [.env 0],
qo .mv [.env 1],
qo (.call 127) [.loc 1, .loc 0],
qo (.un .not) [.loc 0]] [(4, 0)])
(.cond (.env 4) (.seq (.region [qo .mv [.env 0],
qo .mv [.loc 0],
qo .mv [.const (.bool false)]] [(2, 1), (3, 0)])
(.ret)) (.skip)))
(.seq (.region [qo .mv [.env 0],
qo .mv [.env 1],
qo (.len true) [.loc 0],
qo (.slice true 0 true false false) [.loc 2, .loc 0],
qo .mv [.loc 0],
qo .mv [.const (.bool true)]] [(2, 1), (3, 0)])
(.ret))),
[.tmp 2, .tmp 3]⟩
theorem F97_low : lowFn Tryz.prog false [0, 1, 4, 5, 9] Tryz.f97 = some F97 := by as_aux_lemma => kernel_rfl
def F98 : LFunc := ⟨[0, 1, 4, 5, 6, 7, 12], 2,
.seq (.region [qo .mv [.const (.str ⟨#[]⟩)],
qo .mv [.const (.str ⟨#[]⟩)],
qo .mv [.const (.bool false)]] [(2, 2), (3, 1), (4, 0)])
(.seq (.seq (.region [qo .mv [.env 0],
qo .mv [.env 1],
qo (.call 116) [.loc 1, .loc 0],
qo .mv [.loc 0]] [(5, 0)])
(.seq (.region [qo .mv [.env 5],
qo (.bin .geq) [.loc 0, .const (.int .i64 0)]] [(6, 0)])
(.cond (.env 6) (.seq (.drawn [qo .mv [.env 0],
qw .mv [.env 5] 0 1,
qw (.slice true 0 false true false) [.loc 1, .loc 0] 3 2,
qw .mv [.env 0] 0 3,
qw .mv [.env 5] 0 4,
qw .mv [.env 1] 0 5,
qw (.len true) [.loc 0] 32 6,
qw (.bin .add) [.loc 2, .loc 0] 112 7,
qw (.slice true 0 true false false) [.loc 4, .loc 0] 248 8,
qw .mv [.loc 6] 7 9,
qw .mv [.loc 1] 1023 10,
qw .mv [.const (.bool true)] 2047 11] [(2, 2), (3, 1), (4, 0)] [])
(.ret)) (.skip))))
(.seq (.region [qo .mv [.env 0],
qo .mv [.loc 0],
qo .mv [.const (.str ⟨#[]⟩)],
qo .mv [.const (.bool false)]] [(2, 2), (3, 1), (4, 0)])
(.ret))),
[.tmp 2, .tmp 3, .tmp 4]⟩
theorem F98_low : lowFn Tryz.prog false [0, 1, 4, 5, 6, 7, 12] Tryz.f98 = some F98 := by as_aux_lemma => kernel_rfl
def F99 : LFunc := ⟨[0, 1, 4, 13], 2,
.seq (.region [qo .mv [.const (.str ⟨#[]⟩)]] [(2, 0)])
(.seq (.block 0 (.loop (.seq (.seq (.region [qo .mv [.env 0],
qo (.len true) [.loc 0],
qo (.bin .gtr) [.loc 0, .const (.int .i64 0)],
qo .mv [.loc 0],
qg .mv [.env 0] 0 true,
qg .index [.loc 0, .const (.int .i64 0)] 1 true,
qg .mv [.env 1] 2 true,
qg (.bin .eql) [.loc 1, .loc 0] 3 true,
qo .pick [.loc 4, .loc 0, .const (.bool false)]] [(3, 0)])
(.cond (.env 3) (.skip) (.exit 0)))
(.block 1 (.region [qo .mv [.env 0],
qo (.slice true 0 true false false) [.loc 0, .const (.int .i64 1)],
qo .mv [.loc 0]] [(0, 0)])))))
(.seq (.region [qo .mv [.env 0],
qo .mv [.loc 0]] [(2, 0)])
(.ret))),
[.tmp 2]⟩
theorem F99_low : lowFn Tryz.prog false [0, 1, 4, 13] Tryz.f99 = some F99 := by as_aux_lemma => kernel_rfl
def F100 : LFunc := ⟨[0, 2, 3, 4, 5, 9, 16], 1,
.seq (.region [qo (.alloc 158 [.bool false, .bool false, .bool false, .bool false, .bool false, .bool false, .bool false, .bool false, .bool false, .bool false, .bool false, .bool false, .bool false, .bool false, .bool false, .bool false, .bool false, .bool false, .bool false, .bool false, .bool false, .bool false, .bool false, .bool false, .bool false, .bool false, .bool false, .bool false, .bool false, .bool false, .bool false, .bool false, .bool false, .bool false, .bool false, .bool false, .bool false, .bool false, .bool false, .bool false, .bool false, .bool false, .bool false, .bool false, .bool false, .bool false, .bool false, .bool false, .bool false, .bool false, .bool false, .bool false, .bool false, .bool false, .bool false, .bool false, .bool false, .bool false, .bool false, .bool false, .bool false, .bool false, .bool false, .bool false, .bool false, .bool false, .bool false, .bool false, .bool false, .bool false, .bool false, .bool false, .bool false, .bool false, .bool false, .bool false, .bool false, .bool false, .bool false, .bool false, .bool false, .bool false, .bool false, .bool false, .bool false, .bool false, .bool false, .bool false, .bool false, .bool false, .bool false, .bool false, .bool false, .bool false, .bool false, .bool false, .bool false, .bool false, .bool false, .bool false, .bool false, .bool false, .bool false, .bool false, .bool false, .bool false, .bool false, .bool false, .bool false, .bool false, .bool false, .bool false, .bool false, .bool false, .bool false, .bool false, .bool false, .bool false, .bool false, .bool false, .bool false, .bool false, .bool false, .bool false, .bool false, .bool false, .bool false, .bool false, .bool false, .bool false, .bool false, .bool false, .bool false, .bool false, .bool false, .bool false, .bool false, .bool false, .bool false, .bool false, .bool false, .bool false, .bool false, .bool false, .bool false, .bool false, .bool false, .bool false, .bool false, .bool false, .bool false, .bool false, .bool false, .bool false, .bool false, .bool false, .bool false, .bool false, .bool false, .bool false, .bool false, .bool false, .bool false, .bool false, .bool false, .bool false, .bool false, .bool false, .bool false, .bool false, .bool false, .bool false, .bool false, .bool false, .bool false, .bool false, .bool false, .bool false, .bool false, .bool false, .bool false, .bool false, .bool false, .bool false, .bool false, .bool false, .bool false, .bool false, .bool false, .bool false, .bool false, .bool false, .bool false, .bool false, .bool false, .bool false, .bool false, .bool false, .bool false, .bool false, .bool false, .bool false, .bool false, .bool false, .bool false, .bool false, .bool false, .bool false, .bool false, .bool false, .bool false, .bool false, .bool false, .bool false, .bool false, .bool false, .bool false, .bool false, .bool false, .bool false, .bool false, .bool false, .bool false, .bool false, .bool false, .bool false, .bool false, .bool false, .bool false, .bool false, .bool false, .bool false, .bool false, .bool false, .bool false, .bool false, .bool false, .bool false, .bool false, .bool false, .bool false, .bool false, .bool false, .bool false, .bool false, .bool false, .bool false, .bool false, .bool false, .bool false, .bool false, .bool false, .bool false, .bool false, .bool false, .bool false]) [],
qo .mv [.const (.bool false)]] [(1, 1), (2, 0)])
(.seq (.seq (.region [qo .mv [.const (.int .i64 0)]] [(3, 0)])
(.block 0 (.loop (.seq (.seq (.region [qo .mv [.env 3],
qo .mv [.env 0],
qo (.len true) [.loc 0],
qo (.bin .lss) [.loc 2, .loc 0]] [(5, 0)])
(.cond (.env 5) (.skip) (.exit 0)))
(.seq (.block 1 (.seq (.region [qo .mv [.env 0],
qo .mv [.env 3],
qo .index [.loc 1, .loc 0],
qo .mv [.loc 0]] [(4, 0)])
(.seq (.seq (.region [qo .mv [.env 4],
qo (.bin .geq) [.loc 0, .const (.int .u8 128)]] [(6, 0)])
(.cond (.env 6) (.seq (.region [qo (.load 256 true) [.env 1],
qo (.store 256) [.env 1, .loc 0],
qo .mv [.const (.bool false)]] [(2, 0)])
(.ret)) (.skip)))
(.region [qo .mv [.env 4],
qo (.aaddr 1 256) [.env 1, .loc 0],
qo (.store 1) [.loc 0, .const (.bool true)]] []))))
(.region [qo .mv [.env 3],
qo (.bin .add) [.loc 0, .const (.int .i64 1)],
qo .mv [.loc 0]] [(3, 0)]))))))
(.seq (.region [qo (.load 256 true) [.env 1],
qo (.store 256) [.env 1, .loc 0],
qo .mv [.const (.bool true)]] [(2, 0)])
(.ret))),
[.cell 1 256 true, .tmp 2]⟩
theorem F100_low : lowFn Tryz.prog true [0, 2, 3, 4, 5, 9, 16] Tryz.f100 = some F100 := by as_aux_lemma => kernel_rfl
def F101 : LFunc := ⟨[0, 1, 4, 7, 12], 2,
.seq (.region [qo .mv [.const (.str ⟨#[]⟩)]] [(2, 0)])
(.seq (.block 0 (.loop (.seq (.seq (.region [qo .mv [.env 0],
qo (.len true) [.loc 0],
qo (.bin .gtr) [.loc 0, .const (.int .i64 0)]] [(3, 0)])
(.cond (.env 3) (.skip) (.exit 0)))
(.block 1 (.seq (.seq (.region [qo .mv [.env 1],
qo .mv [.env 0],
qo .index [.loc 0, .const (.int .i64 0)],
qo (.call 136) [.loc 2, .loc 0],
qo (.un .not) [.loc 0]] [(4, 0)])
(.cond (.env 4) (.exit 0) (.skip)))
(.region [qo .mv [.env 0],
qo (.slice true 0 true false false) [.loc 0, .const (.int .i64 1)],
qo .mv [.loc 0]] [(0, 0)]))))))
(.seq (.region [qo .mv [.env 0],
qo .mv [.loc 0]] [(2, 0)])
(.ret))),
[.tmp 2]⟩
theorem F101_low : lowFn Tryz.prog false [0, 1, 4, 7, 12] Tryz.f101 = some F101 := by as_aux_lemma => kernel_rfl
def F105 : LFunc := ⟨[0, 1, 4, 7, 15], 2,
.seq (.region [qo .mv [.const (.str ⟨#[]⟩)]] [(2, 0)])
(.seq (.block 0 (.loop (.seq (.seq (.region [qo .mv [.env 0],
qo (.len true) [.loc 0],
qo (.bin .gtr) [.loc 0, .const (.int .i64 0)]] [(3, 0)])
(.cond (.env 3) (.skip) (.exit 0)))
(.block 1 (.seq (.seq (.region [qo .mv [.env 1],
qo .mv [.env 0],
qo .mv [.env 0],
qo (.len true) [.loc 0],
qo (.bin .sub) [.loc 0, .const (.int .i64 1)],
qo .index [.loc 3, .loc 0],
qo (.call 136) [.loc 5, .loc 0],
qo (.un .not) [.loc 0]] [(4, 0)])
(.cond (.env 4) (.exit 0) (.skip)))
(.region [qo .mv [.env 0],
qo .mv [.env 0],
qo (.len true) [.loc 0],
qo (.bin .sub) [.loc 0, .const (.int .i64 1)],
qo (.slice true 0 false true false) [.loc 3, .loc 0],
qo .mv [.loc 0]] [(0, 0)]))))))
(.seq (.region [qo .mv [.env 0],
qo .mv [.loc 0]] [(2, 0)])
(.ret))),
[.tmp 2]⟩
theorem F105_low : lowFn Tryz.prog false [0, 1, 4, 7, 15] Tryz.f105 = some F105 := by as_aux_lemma => kernel_rfl
def F113 : LFunc := ⟨[0, 1, 4, 5, 6, 7, 8, 9, 10, 11, 12, 13, 14, 15, 16, 26, 33, 43, 51, 64, 98, 108, 124, 139, 143, 156, 160, 171, 175, 176, 177, 181, 183], 2,
.seq (.region [qo .mv [.const (.int .i64 0)]] [(2, 0)])
(.block 0 (.seq (.region [qo .mv [.env 1],
qo (.bin .leq) [.const (.int .i32 0), .loc 0],
qo .mv [.loc 0],
qg .mv [.env 1] 0 true,
qg (.bin .lss) [.loc 0, .const (.int .i32 128)] 1 true,
qo .pick [.loc 2, .loc 0, .const (.bool false)],
qo .mv [.loc 0]] [(26, 0)])
(.cond (.env 26) (.seq (.region [qo .mv [.env 0],
qo .mv [.env 1],
qo (.conv .u8) [.loc 0],
qo (.call 91) [.loc 2, .loc 0],
qo .mv [.loc 0]] [(2, 0)])
(.ret)) (.seq (.region [qo .mv [.env 1],
qo (.bin .eql) [.loc 0, .const (.int .i32 65533)],
qo .mv [.loc 0]] [(27, 0)])
(.cond (.env 27) (.seq (.seq (.region [qo .mv [.env 0],
qo .rngs [.loc 0]] [(28, 0)])
(.block 9 (.loop (.seq (.region [qo .nexts [.env 28],
qo (.extract 0) [.loc 0]] [(29, 1), (30, 0)])
(.seq (.cond (.env 30) (.skip) (.exit 9))
(.block 10 (.seq (.region [qo (.extract 1) [.env 29],
qo (.extract 2) [.env 29],
qo .mv [.loc 1],
qo .mv [.loc 1]] [(3, 1), (4, 0)])
(.seq (.region [qo .mv [.env 4],
qo (.bin .eql) [.loc 0, .const (.int .i32 65533)]] [(31, 0)])
(.cond (.env 31) (.seq (.region [qo .mv [.env 3],
qo .mv [.loc 0]] [(2, 0)])
(.ret)) (.skip))))))))))
(.seq (.region [qo .mv [.const (.int .i64 (-1))]] [(2, 0)])
(.ret))) (.seq (.region [qo .mv [.env 1],
qo (.call 141) [.loc 0],
qo (.un .not) [.loc 0],
qo .mv [.loc 0]] [(32, 0)])
(.cond (.env 32) (.seq (.region [qo .mv [.const (.int .i64 (-1))]] [(2, 0)])
(.ret)) (.seq (.region [qo .mv [.env 1],
qo .fail [],
qo .mv [.loc 0]] [(5, 0)])
(.seq (.region [qo .mv [.env 5],
qo (.len true) [.loc 0],
qo (.bin .sub) [.loc 0, .const (.int .i64 1)],
qo .mv [.loc 0]] [(6, 0)])
(.seq (.region [qo .mv [.env 6],
qo .mv [.loc 0]] [(7, 0)])
(.seq (.region [qo .mv [.const (.int .i64 0)]] [(8, 0)])
(.seq (.block 1 (.loop (.seq (.seq (.region [qo .mv [.env 7],
qo .mv [.env 0],
qo (.len true) [.loc 0],
qo (.bin .lss) [.loc 2, .loc 0]] [(15, 0)])
(.cond (.env 15) (.skip) (.exit 1)))
(.block 2 (.seq (.seq (.drawn [qo .mv [.env 0],
qw .mv [.env 7] 0 1,
qw .index [.loc 1, .loc 0] 3 2,
qw .mv [.env 5] 0 3,
qw .mv [.env 6] 0 4,
qw .index [.loc 1, .loc 0] 24 5,
qw (.bin .neq) [.loc 3, .loc 0] 63 6] [(16, 0)] [])
(.cond (.env 16) (.seq (.drawn [qo .mv [.env 0],
qw .mv [.env 7] 0 1,
qw (.bin .add) [.loc 0, .const (.int .i64 1)] 2 2,
qw (.slice true 0 true false false) [.loc 2, .loc 0] 7 3,
qw .mv [.env 5] 0 4,
qw .mv [.env 6] 0 5,
qw .index [.loc 1, .loc 0] 48 6,
qw (.call 91) [.loc 3, .loc 0] 127 7,
qw .mv [.loc 0] 255 8] [(9, 0)] [])
(.seq (.seq (.region [qo .mv [.env 9],
qo (.bin .lss) [.loc 0, .const (.int .i64 0)]] [(17, 0)])
(.cond (.env 17) (.seq (.region [qo .mv [.const (.int .i64 (-1))]] [(2, 0)])
(.ret)) (.skip)))
(.region [qo .mv [.env 7],
qo .mv [.env 9],
qo (.bin .add) [.loc 0, .const (.int .i64 1)],
qo (.bin .add) [.loc 2, .loc 0],
qo .mv [.loc 0]] [(7, 0)]))) (.skip)))
(.seq (.seq (.region [qo .mv [.const (.int .i64 1)]] [(10, 0)])
(.block 3 (.loop (.seq (.seq (.region [qo .mv [.env 10],
qo .mv [.env 5],
qo (.len true) [.loc 0],
qo (.bin .lss) [.loc 2, .loc 0]] [(18, 0)])
(.cond (.env 18) (.skip) (.exit 3)))
(.seq (.block 4 (.seq (.drawn [qo .mv [.env 0],
qw .mv [.env 7] 0 1,
qw .mv [.env 10] 0 2,
qw (.bin .sub) [.loc 1, .loc 0] 6 3,
qw .index [.loc 3, .loc 0] 15 4,
qw .mv [.env 5] 0 5,
qw .mv [.env 6] 0 6,
qw .mv [.env 10] 0 7,
qw (.bin .sub) [.loc 1, .loc 0] 192 8,
qw .index [.loc 3, .loc 0] 480 9,
qw (.bin .neq) [.loc 5, .loc 0] 1023 10] [(19, 0)] [])
(.cond (.env 19) (.fail) (.skip))))
(.region [qo .mv [.env 10],
qo (.bin .add) [.loc 0, .const (.int .i64 1)],
qo .mv [.loc 0]] [(10, 0)]))))))
(.seq (.seq (.region [qo .mv [.env 7],
qo .mv [.env 6],
qo (.bin .sub) [.loc 1, .loc 0],
qo .mv [.loc 0]] [(2, 0)])
(.ret))
(.seq (.skip)
(.seq (.region [qo .mv [.env 8],
qo (.bin .add) [.loc 0, .const (.int .i64 1)],
qo .mv [.loc 0]] [(8, 0)])
(.seq (.region [qo .mv [.env 7],
qo (.bin .add) [.loc 0, .const (.int .i64 1)],
qo .mv [.loc 0]] [(7, 0)])
(.seq (.region [qo .mv [.const (.bool true)],
qg .mv [.env 8] 0 true,
qg .mv [.env 7] 1 true,
qg (.call 142) [.loc 0] 2 true,
qg (.bin .gtr) [.loc 2, .loc 0] 3 true,
qo .pick [.loc 4, .loc 0, .const (.bool false)],
qo .mv [.loc 0],
qg .mv [.env 7] 0 true,
qg .mv [.env 0] 1 true,
qg (.len true) [.loc 0] 2 true,
qg (.bin .lss) [.loc 2, .loc 0] 3 true,
qo .pick [.loc 4, .loc 0, .const (.bool false)],
qo .mv [.loc 0],
qg .mv [.const (.bool false)] 0 false,
qg .mv [.env 8] 0 true,
qg .mv [.env 7] 1 true,
qg (.bin .shr) [.loc 0, .const (.int .u64 4)] 2 true,
qg (.bin .add) [.const (.int .i64 4), .loc 0] 3 true,
qg (.bin .geq) [.loc 3, .loc 0] 4 true,
qg .pick [.loc 5, .loc 0, .const (.bool false)] 6 false,
qg .mv [.loc 0] 7 false,
qg .mv [.env 7] 0 true,
qg .mv [.env 0] 1 true,
qg (.len true) [.loc 0] 2 true,
qg (.bin .lss) [.loc 2, .loc 0] 3 true,
qg .pick [.loc 4, .loc 0, .const (.bool false)] 12 false,
qo .pick [.loc 13, .const (.bool true), .loc 0]] [(20, 0)])
(.cond (.env 20) (.fail) (.skip)))))))))))))
(.seq (.seq (.region [qo .mv [.const (.int .i64 (-1))]] [(2, 0)])
(.ret))
(.seq (.skip)
(.seq (.cond (.const (.bool true)) (.seq (.region [qo .mv [.env 0],
qo .mv [.env 7],
qo .mv [.env 6],
qo (.bin .sub) [.loc 1, .loc 0],
qo (.slice true 0 true false false) [.loc 3, .loc 0],
qo .mv [.env 1],
qo .fail [],
qo .fail [],
qo .mv [.loc 0]] [(11, 0)])
(.seq (.region [qo .mv [.env 11],
qo (.bin .geq) [.loc 0, .const (.int .i64 0)]] [(21, 0)])
(.cond (.env 21) (.seq (.region [qo .mv [.env 7],
qo .mv [.env 11],
qo (.bin .add) [.loc 1, .loc 0],
qo .mv [.env 6],
qo (.bin .sub) [.loc 1, .loc 0],
qo .mv [.loc 0]] [(2, 0)])
(.ret)) (.skip)))) (.seq (.region [qo .mv [.env 5],
qo .mv [.env 6],
qo .index [.loc 1, .loc 0],
qo .mv [.loc 0]] [(12, 0)])
(.seq (.region [qo .mv [.env 5],
qo .mv [.env 6],
qo (.bin .sub) [.loc 0, .const (.int .i64 1)],
qo .index [.loc 2, .loc 0],
qo .mv [.loc 0]] [(13, 0)])
(.seq (.skip)
(.block 5 (.loop (.seq (.seq (.region [qo .mv [.env 7],
qo .mv [.env 0],
qo (.len true) [.loc 0],
qo (.bin .lss) [.loc 2, .loc 0]] [(22, 0)])
(.cond (.env 22) (.skip) (.exit 5)))
(.seq (.block 6 (.seq (.region [qo .mv [.env 0],
qo .mv [.env 7],
qo .index [.loc 1, .loc 0],
qo .mv [.env 12],
qo (.bin .eql) [.loc 1, .loc 0],
qo .mv [.loc 0],
qg .mv [.env 0] 0 true,
qg .mv [.env 7] 1 true,
qg (.bin .sub) [.loc 0, .const (.int .i64 1)] 2 true,
qg .index [.loc 2, .loc 0] 3 true,
qg .mv [.env 13] 4 true,
qg (.bin .eql) [.loc 1, .loc 0] 5 true,
qo .pick [.loc 6, .loc 0, .const (.bool false)]] [(23, 0)])
(.cond (.env 23) (.seq (.seq (.region [qo .mv [.const (.int .i64 2)]] [(14, 0)])
(.block 7 (.loop (.seq (.seq (.region [qo .mv [.env 14],
qo .mv [.env 5],
qo (.len true) [.loc 0],
qo (.bin .lss) [.loc 2, .loc 0]] [(24, 0)])
(.cond (.env 24) (.skip) (.exit 7)))
(.seq (.block 8 (.seq (.drawn [qo .mv [.env 0],
qw .mv [.env 7] 0 1,
qw .mv [.env 14] 0 2,
qw (.bin .sub) [.loc 1, .loc 0] 6 3,
qw .index [.loc 3, .loc 0] 15 4,
qw .mv [.env 5] 0 5,
qw .mv [.env 6] 0 6,
qw .mv [.env 14] 0 7,
qw (.bin .sub) [.loc 1, .loc 0] 192 8,
qw .index [.loc 3, .loc 0] 480 9,
qw (.bin .neq) [.loc 5, .loc 0] 1023 10] [(25, 0)] [])
(.cond (.env 25) (.exit 6) (.skip))))
(.region [qo .mv [.env 14],
qo (.bin .add) [.loc 0, .const (.int .i64 1)],
qo .mv [.loc 0]] [(14, 0)]))))))
(.seq (.region [qo .mv [.env 7],
qo .mv [.env 6],
qo (.bin .sub) [.loc 1, .loc 0],
qo .mv [.loc 0]] [(2, 0)])
(.ret))) (.skip))))
(.region [qo .mv [.env 7],
qo (.bin .add) [.loc 0, .const (.int .i64 1)],
qo .mv [.loc 0]] [(7, 0)])))))))))
(.seq (.region [qo .mv [.const (.int .i64 (-1))]] [(2, 0)])
(.ret))))))))))))))))),
[.tmp 2]⟩
theorem F113_low : lowFn Tryz.prog false [0, 1, 4, 5, 6, 7, 8, 9, 10, 11, 12, 13, 14, 15, 16, 26, 33, 43, 51, 64, 98, 108, 124, 139, 143, 156, 160, 171, 175, 176, 177, 181, 183] Tryz.f113 = some F113 := by as_aux_lemma => kernel_rfl
def F116 : LFunc := ⟨[0, 1, 4, 5, 6, 7, 8, 9, 10, 11, 12, 13, 16, 24, 31, 36, 59, 64, 73, 93, 107, 114, 132, 139], 2,
.seq (.region [qo .mv [.const (.int .i64 0)]] [(2, 0)])
(.seq (.region [qo .mv [.env 1],
qo (.len true) [.loc 0],
qo .mv [.loc 0]] [(3, 0)])
(.seq (.block 0 (.seq (.region [qo .mv [.env 3],
qo (.bin .eql) [.loc 0, .const (.int .i64 0)],
qo .mv [.loc 0],
qg .mv [.env 1] 0 false,
qg .mv [.env 0] 1 false,
qg (.bin .eql) [.loc 1, .loc 0] 2 false,
qo .pick [.loc 3, .const (.bool true), .loc 0],
qo .mv [.loc 0]] [(12, 0)])
(.cond (.env 12) (.seq (.region [qo .mv [.const (.int .i64 0)]] [(2, 0)])
(.ret)) (.seq (.region [qo .mv [.env 3],
qo (.bin .eql) [.loc 0, .const (.int .i64 1)],
qo .mv [.loc 0]] [(13, 0)])
(.cond (.env 13) (.seq (.region [qo .mv [.env 0],
qo .mv [.env 1],
qo .index [.loc 0, .const (.int .i64 0)],
qo (.call 130) [.loc 2, .loc 0],
qo .mv [.loc 0]] [(2, 0)])
(.ret)) (.seq (.region [qo .mv [.env 3],
qo .mv [.env 0],
qo (.len true) [.loc 0],
qo (.bin .geq) [.loc 2, .loc 0],
qo .mv [.loc 0]] [(14, 0)])
(.cond (.env 14) (.seq (.region [qo .mv [.const (.int .i64 (-1))]] [(2, 0)])
(.ret)) (.seq (.region [qo .mv [.env 3],
qo (.load 1 false) [.const (.undef)],
qo (.bin .leq) [.loc 1, .loc 0],
qo .mv [.loc 0],
qg .mv [.env 0] 0 true,
qg (.len true) [.loc 0] 1 true,
qg (.bin .leq) [.loc 0, .const (.int .i64 64)] 2 true,
qo .pick [.loc 3, .loc 0, .const (.bool false)],
qo .mv [.loc 0]] [(15, 0)])
(.cond (.env 15) (.seq (.region [qo .mv [.env 0],
qo .mv [.env 1],
qo .fail [],
qo .mv [.loc 0]] [(2, 0)])
(.ret)) (.skip))))))))))
(.seq (.region [qo .mv [.env 1],
qo .index [.loc 0, .const (.int .i64 0)],
qo .mv [.loc 0]] [(4, 0)])
(.seq (.region [qo .mv [.env 1],
qo .index [.loc 0, .const (.int .i64 1)],
qo .mv [.loc 0]] [(5, 0)])
(.seq (.region [qo .mv [.const (.int .i64 0)]] [(6, 0)])
(.seq (.region [qo .mv [.env 0],
qo (.len true) [.loc 0],
qo .mv [.env 3],
qo (.bin .sub) [.loc 1, .loc 0],
qo (.bin .add) [.loc 0, .const (.int .i64 1)],
qo .mv [.loc 0]] [(7, 0)])
(.seq (.region [qo .mv [.const (.int .i64 0)]] [(8, 0)])
(.seq (.block 1 (.loop (.seq (.seq (.region [qo .mv [.env 6],
qo .mv [.env 7],
qo (.bin .lss) [.loc 1, .loc 0]] [(16, 0)])
(.cond (.env 16) (.skip) (.exit 1)))
(.block 2 (.seq (.seq (.region [qo .mv [.env 0],
qo .mv [.env 6],
qo .index [.loc 1, .loc 0],
qo .mv [.env 4],
qo (.bin .neq) [.loc 1, .loc 0]] [(17, 0)])
(.cond (.env 17) (.seq (.region [qo .mv [.env 0],
qo .mv [.env 6],
qo (.bin .add) [.loc 0, .const (.int .i64 1)],
qo .mv [.env 7],
qo (.slice true 0 true true false) [.loc 3, .loc 1, .loc 0],
qo .mv [.env 4],
qo (.call 130) [.loc 1, .loc 0],
qo .mv [.loc 0]] [(9, 0)])
(.seq (.seq (.region [qo .mv [.env 9],
qo (.bin .lss) [.loc 0, .const (.int .i64 0)]] [(18, 0)])
(.cond (.env 18) (.seq (.region [qo .mv [.const (.int .i64 (-1))]] [(2, 0)])
(.ret)) (.skip)))
(.region [qo .mv [.env 6],
qo .mv [.env 9],
qo (.bin .add) [.loc 0, .const (.int .i64 1)],
qo (.bin .add) [.loc 2, .loc 0],
qo .mv [.loc 0]] [(6, 0)]))) (.skip)))
(.seq (.seq (.region [qo .mv [.env 0],
qo .mv [.env 6],
qo (.bin .add) [.loc 0, .const (.int .i64 1)],
qo .index [.loc 2, .loc 0],
qo .mv [.env 5],
qo (.bin .eql) [.loc 1, .loc 0],
qo .mv [.loc 0],
qg .mv [.env 0] 0 true,
qg .mv [.env 6] 1 true,
qg .mv [.env 6] 2 true,
qg .mv [.env 3] 3 true,
qg (.bin .add) [.loc 1, .loc 0] 4 true,
qg (.slice true 0 true true false) [.loc 4, .loc 3, .loc 0] 5 true,
qg .mv [.env 1] 6 true,
qg (.bin .eql) [.loc 1, .loc 0] 7 true,
qo .pick [.loc 8, .loc 0, .const (.bool false)]] [(19, 0)])
(.cond (.env 19) (.seq (.region [qo .mv [.env 6],
qo .mv [.loc 0]] [(2, 0)])
(.ret)) (.skip)))
(.seq (.region [qo .mv [.env 6],
qo (.bin .add) [.loc 0, .const (.int .i64 1)],
qo .mv [.loc 0]] [(6, 0)])
(.seq (.region [qo .mv [.env 8],
qo (.bin .add) [.loc 0, .const (.int .i64 1)],
qo .mv [.loc 0]] [(8, 0)])
(.seq (.region [qo .mv [.env 3],
qo (.load 1 false) [.const (.undef)],
qo (.bin .leq) [.loc 1, .loc 0],
qo .mv [.loc 0],
qg .mv [.env 8] 0 true,
qg .mv [.env 6] 1 true,
qg (.call 142) [.loc 0] 2 true,
qg (.bin .gtr) [.loc 2, .loc 0] 3 true,
qo .pick [.loc 4, .loc 0, .const (.bool false)]] [(20, 0)])
(.cond (.env 20) (.seq (.region [qo .mv [.env 0],
qo .mv [.env 6],
qo (.slice true 0 true false false) [.loc 1, .loc 0],
qo .mv [.env 1],
qo .fail [],
qo .mv [.loc 0]] [(10, 0)])
(.seq (.seq (.region [qo .mv [.env 10],
qo (.bin .geq) [.loc 0, .const (.int .i64 0)]] [(21, 0)])
(.cond (.env 21) (.seq (.region [qo .mv [.env 10],
qo .mv [.env 6],
qo (.bin .add) [.loc 1, .loc 0],
qo .mv [.loc 0]] [(2, 0)])
(.ret)) (.skip)))
(.seq (.region [qo .mv [.const (.int .i64 (-1))]] [(2, 0)])
(.ret)))) (.seq (.region [qo .mv [.env 3],
qo (.load 1 false) [.const (.undef)],
qo (.bin .gtr) [.loc 1, .loc 0],
qo .mv [.loc 0],
qg .mv [.env 8] 0 true,
qg .mv [.env 6] 1 true,
qg (.bin .shr) [.loc 0, .const (.int .u64 4)] 2 true,
qg (.bin .add) [.const (.int .i64 4), .loc 0] 3 true,
qg (.bin .geq) [.loc 3, .loc 0] 4 true,
qo .pick [.loc 5, .loc 0, .const (.bool false)],
qo .mv [.loc 0],
qg .mv [.env 6] 0 true,
qg .mv [.env 7] 1 true,
qg (.bin .lss) [.loc 1, .loc 0] 2 true,
qo .pick [.loc 3, .loc 0, .const (.bool false)]] [(22, 0)])
(.cond (.env 22) (.seq (.region [qo .mv [.env 0],
qo .mv [.env 6],
qo (.slice true 0 true false false) [.loc 1, .loc 0],
qo .mv [.env 1],
qo (.call 144) [.loc 1, .loc 0],
qo .mv [.loc 0]] [(11, 0)])
(.seq (.seq (.region [qo .mv [.env 11],
qo (.bin .lss) [.loc 0, .const (.int .i64 0)]] [(23, 0)])
(.cond (.env 23) (.seq (.region [qo .mv [.const (.int .i64 (-1))]] [(2, 0)])
(.ret)) (.skip)))
(.seq (.region [qo .mv [.env 6],
qo .mv [.env 11],
qo (.bin .add) [.loc 1, .loc 0],
qo .mv [.loc 0]] [(2, 0)])
(.ret)))) (.skip)))))))))))))
(.seq (.region [qo .mv [.const (.int .i64 (-1))]] [(2, 0)])
(.ret)))))))))),
[.tmp 2]⟩
theorem F116_low : lowFn Tryz.prog false [0, 1, 4, 5, 6, 7, 8, 9, 10, 11, 12, 13, 16, 24, 31, 36, 59, 64, 73, 93, 107, 114, 132, 139] Tryz.f116 = some F116 := by as_aux_lemma => kernel_rfl
def F117 : LFunc := ⟨[0, 1, 2, 3, 4, 5, 6, 7, 14, 18, 23, 46, 50, 56, 83, 119], 1,
.seq (.region [qo (.box 51 11) [.env 0],
qo .mv [.const (.int .i64 0)]] [(1, 1), (2, 0)])
(.seq (.region [qo (.load 11 true) [.env 1],
qo (.call 145) [.loc 0],
qo .mv [.loc 0],
qo (.extract 0) [.loc 0],
qo (.extract 1) [.loc 1],
qo .mv [.loc 1],
qo .mv [.loc 1]] [(3, 1), (4, 0)])
(.seq (.seq (.region [qo .mv [.env 4],
qo (.bin .neq) [.loc 0, .const (.int .i64 0)]] [(8, 0)])
(.cond (.env 8) (.seq (.region [qo .mv [.env 4],
qo .mv [.loc 0]] [(2, 0)])
(.ret)) (.skip)))
(.seq (.seq (.region [qo (.faddr 0) [.env 1],
qo (.load 1 false) [.loc 0],
qo (.bin .eql) [.loc 0, .const (.int .u8 0)]] [(9, 0)])
(.cond (.env 9) (.seq (.seq (.region [qo (.load 11 true) [.env 1],
qo (.faddr 10) [.env 1],
qo (.load 1 false) [.loc 0],
qo (.build [.int .u8 0, .int .u8 0, .str ⟨#[]⟩, .int .i64 0, .int .i64 0, .bool false, .bool false, .bool false, .bool false, .bool false, .int .i64 0] [(10, 1)]) [.loc 0],
qo (.eqs true [0, 0, 1, 0, 0, 2, 2, 2, 2, 2, 0]) [.loc 3, .loc 0]] [(10, 0)])
(.cond (.env 10) (.seq (.region [qo .mv [.const (.int .i64 1)]] [(2, 0)])
(.ret)) (.skip)))
(.seq (.region [qo .mv [.const (.int .i64 0)]] [(2, 0)])
(.ret))) (.skip)))
(.seq (.region [qo (.faddr 2) [.env 1],
qo (.load 1 false) [.loc 0],
qo (.call 18) [.loc 0],
qo .mv [.loc 0],
qo (.extract 0) [.loc 0],
qo (.extract 1) [.loc 1],
qo (.alloc 51 [.int .u8 0, .int .u8 0, .str ⟨#[]⟩, .int .i64 0, .int .i64 0, .bool false, .bool false, .bool false, .bool false, .bool false, .int .i64 0]) [],
qo (.store 11) [.loc 0, .loc 2],
qo .mv [.loc 2]] [(4, 0), (5, 2)])
(.seq (.region [qo (.faddr 0) [.env 1],
qo (.load 1 false) [.loc 0],
qo (.bin .eql) [.loc 0, .const (.int .u8 4)],
qo .mv [.loc 0],
qg (.faddr 1) [.env 1] 0 true,
qg (.load 1 false) [.loc 0] 1 true,
qg (.bin .eql) [.loc 0, .const (.int .u8 0)] 2 true,
qo .pick [.loc 3, .loc 0, .const (.bool false)],
qo .mv [.loc 0]] [(6, 0)])
(.seq (.region [qo (.faddr 0) [.env 1],
qo (.load 1 false) [.loc 0],
qo (.bin .eql) [.loc 0, .const (.int .u8 1)],
qo .mv [.loc 0],
qg (.faddr 0) [.env 1] 0 false,
qg (.load 1 false) [.loc 0] 1 false,
qg (.bin .eql) [.loc 0, .const (.int .u8 2)] 2 false,
qo .pick [.loc 3, .const (.bool true), .loc 0],
qo .mv [.loc 0]] [(7, 0)])
(.seq (.block 0 (.seq (.region [qo .mv [.env 4],
qo (.bin .neq) [.loc 0, .const (.int .i64 0)],
qo .mv [.loc 0]] [(11, 0)])
(.cond (.env 11) (.seq (.region [qo .mv [.env 4],
qo .mv [.loc 0]] [(2, 0)])
(.ret)) (.seq (.region [qo (.faddr 2) [.env 5],
qo (.load 1 false) [.loc 0],
qo (.faddr 2) [.env 1],
qo (.load 1 false) [.loc 0],
qo (.bin .neq) [.loc 2, .loc 0],
qo .mv [.loc 0]] [(12, 0)])
(.cond (.env 12) (.seq (.region [qo .mv [.const (.int .i64 4)]] [(2, 0)])
(.ret)) (.seq (.region [qo (.faddr 0) [.env 5],
qo (.load 1 false) [.loc 0],
qo (.faddr 0) [.env 1],
qo (.load 1 false) [.loc 0],
qo (.bin .neq) [.loc 2, .loc 0],
qo .mv [.loc 0],
qg (.faddr 3) [.env 5] 0 false,
qg (.load 1 false) [.loc 0] 1 false,
qg (.faddr 3) [.env 1] 2 false,
qg (.load 1 false) [.loc 0] 3 false,
qg (.bin .neq) [.loc 2, .loc 0] 4 false,
qo .pick [.loc 5, .const (.bool true), .loc 0],
qo .mv [.loc 0],
qg (.faddr 4) [.env 5] 0 false,
qg (.load 1 false) [.loc 0] 1 false,
qg (.faddr 4) [.env 1] 2 false,
qg (.load 1 false) [.loc 0] 3 false,
qg (.bin .neq) [.loc 2, .loc 0] 4 false,
qo .pick [.loc 5, .const (.bool true), .loc 0],
qo .mv [.loc 0],
qg (.faddr 5) [.env 5] 0 false,
qg (.load 1 false) [.loc 0] 1 false,
qg (.faddr 5) [.env 1] 2 false,
qg (.load 1 false) [.loc 0] 3 false,
qg (.eqb true) [.loc 2, .loc 0] 4 false,
qo .pick [.loc 5, .const (.bool true), .loc 0],
qo .mv [.loc 0]] [(13, 0)])
(.cond (.env 13) (.seq (.region [qo .mv [.const (.int .i64 1)]] [(2, 0)])
(.ret)) (.seq (.seq (.region [qo (.faddr 1) [.env 1],
qo (.load 1 false) [.loc 0],
qo (.bin .neq) [.loc 0, .const (.int .u8 0)],
qo .mv [.loc 0],
qg (.faddr 0) [.env 1] 0 true,
qg (.load 1 false) [.loc 0] 1 true,
qg (.bin .neq) [.loc 0, .const (.int .u8 4)] 2 true,
qo .pick [.loc 3, .loc 0, .const (.bool false)],
qo .mv [.loc 0]] [(14, 0)])
(.cond (.env 14) (.skip) (.seq (.region [qo (.faddr 6) [.env 1],
qo (.load 1 false) [.loc 0],
qo .mv [.loc 0],
qg (.faddr 7) [.env 1] 0 false,
qg (.load 1 false) [.loc 0] 1 false,
qo .pick [.loc 2, .const (.bool true), .loc 0],
qo .mv [.loc 0],
qg .mv [.env 6] 0 true,
qg .mv [.loc 0] 1 true,
qg (.faddr 5) [.env 1] 0 true,
qg (.load 1 false) [.loc 0] 1 true,
qg .pick [.loc 2, .loc 0, .const (.bool false)] 4 true,
qg (.un .not) [.loc 0] 5 true,
qo .pick [.loc 6, .loc 0, .const (.bool false)],
qo .mv [.loc 0]] [(14, 0)])
(.cond (.env 14) (.skip) (.seq (.region [qo (.faddr 8) [.env 1],
qo (.load 1 false) [.loc 0],
qo .mv [.loc 0],
qg .mv [.env 7] 0 true,
qg (.un .not) [.loc 0] 1 true,
qo .pick [.loc 2, .loc 0, .const (.bool false)],
qo .mv [.loc 0]] [(14, 0)])
(.cond (.env 14) (.skip) (.region [qo (.faddr 9) [.env 1],
qo (.load 1 false) [.loc 0],
qo .mv [.loc 0],
qg (.faddr 0) [.env 1] 0 true,
qg (.load 1 false) [.loc 0] 1 true,
qg (.bin .neq) [.loc 0, .const (.int .u8 5)] 2 true,
qo .pick [.loc 3, .loc 0, .const (.bool false)],
qo .mv [.loc 0]] [(14, 0)])))))))
(.cond (.env 14) (.seq (.region [qo .mv [.const (.int .i64 12)]] [(2, 0)])
(.ret)) (.seq (.region [qo (.faddr 10) [.env 1],
qo (.load 1 false) [.loc 0],
qo .mv [.env 3],
qo (.bin .neq) [.loc 1, .loc 0],
qo .mv [.loc 0]] [(15, 0)])
(.cond (.env 15) (.seq (.region [qo .mv [.const (.int .i64 5)]] [(2, 0)])
(.ret)) (.skip))))))))))))
(.seq (.region [qo .mv [.const (.int .i64 0)]] [(2, 0)])
(.ret))))))))),
[.tmp 2]⟩
theorem F117_low : lowFn Tryz.prog false [0, 1, 2, 3, 4, 5, 6, 7, 14, 18, 23, 46, 50, 56, 83, 119] Tryz.f117 = some F117 := by as_aux_lemma => kernel_rfl
def F118 : LFunc := ⟨[0, 1, 2, 3, 8, 9, 14, 34], 4,
.seq (.region [qo .mv [.env 1],
qo (.bin .add) [.loc 0, .const (.int .i64 1)],
qo .mv [.loc 0]] [(4, 0)])
(.block 0 (.loop (.seq (.seq (.region [qo .mv [.env 4],
qo .mv [.env 2],
qo (.bin .lss) [.loc 1, .loc 0]] [(6, 0)])
(.cond (.env 6) (.skip) (.exit 0)))
(.seq (.block 1 (.seq (.region [qo .mv [.env 4],
qo .mv [.loc 0]] [(5, 0)])
(.block 2 (.loop (.seq (.seq (.drawn [qo .mv [.env 5],
qw .mv [.env 1] 0 1,
qw (.bin .gtr) [.loc 1, .loc 0] 3 2,
qw .mv [.loc 0] 7 3,
qh .mv [.env 3] 0 true 15 4,
qh .mv [.env 0] 1 true 15 5,
qh .mv [.env 5] 2 true 15 6,
qh (.iaddr 1) [.loc 1, .loc 0] 3 true 111 7,
qh (.load 1 false) [.loc 0] 4 true 239 8,
qh .mv [.env 0] 5 true 15 9,
qh .mv [.env 5] 6 true 15 10,
qh (.bin .sub) [.loc 0, .const (.int .i64 1)] 7 true 1039 11,
qh (.iaddr 1) [.loc 2, .loc 0] 8 true 3599 12,
qh (.load 1 false) [.loc 0] 9 true 7695 13,
qh .callv [.loc 9, .loc 5, .loc 0] 10 true 16383 14,
qh (.bin .lss) [.loc 0, .const (.int .i64 0)] 11 true 32767 15,
qw .pick [.loc 12, .loc 0, .const (.bool false)] 65535 16] [(7, 0)] [])
(.cond (.env 7) (.skip) (.exit 2)))
(.seq (.block 3 (.drawn [qo .mv [.env 0],
qw .mv [.env 5] 0 1,
qw .mv [.env 0] 0 2,
qw .mv [.env 5] 0 3,
qw (.bin .sub) [.loc 0, .const (.int .i64 1)] 8 4,
qw .mv [.env 0] 0 5,
qw .mv [.env 5] 0 6,
qw (.bin .sub) [.loc 0, .const (.int .i64 1)] 64 7,
qw (.iaddr 1) [.loc 2, .loc 0] 224 8,
qw (.load 1 false) [.loc 0] 480 9,
qw .mv [.env 0] 0 10,
qw .mv [.env 5] 0 11,
qw (.iaddr 1) [.loc 1, .loc 0] 3072 12,
qw (.load 1 false) [.loc 0] 7168 13,
qw (.iaddr 1) [.loc 13, .loc 12] 16355 14,
qw (.store 1) [.loc 0, .loc 5] 32739 15,
qw (.iaddr 1) [.loc 13, .loc 11] 65535 16,
qw (.store 1) [.loc 0, .loc 3] 131071 17] [] []))
(.region [qo .mv [.env 5],
qo (.bin .sub) [.loc 0, .const (.int .i64 1)],
qo .mv [.loc 0]] [(5, 0)])))))))
(.region [qo .mv [.env 4],
qo (.bin .add) [.loc 0, .const (.int .i64 1)],
qo .mv [.loc 0]] [(4, 0)]))))),
[]⟩
theorem F118_low : lowFn Tryz.prog true [0, 1, 2, 3, 8, 9, 14, 34] Tryz.f118 = some F118 := by as_aux_lemma => kernel_rfl
def F119 : LFunc := ⟨[0, 1, 2, 3, 4, 10, 11, 12, 13, 14, 15, 16, 17, 18, 19, 20, 21, 22, 23, 24, 28, 33, 50, 58, 80, 85, 103, 110, 140, 151, 171, 185, 199, 213], 5,
.seq (.seq (.region [qo .mv [.env 2],
qo .mv [.env 1],
qo (.bin .sub) [.loc 1, .loc 0],
qo (.bin .eql) [.loc 0, .const (.int .i64 1)]] [(20, 0)])
(.cond (.env 20) (.seq (.region [qo .mv [.env 2],
qo .mv [.loc 0]] [(5, 0)])
(.seq (.region [qo .mv [.env 3],
qo .mv [.loc 0]] [(6, 0)])
(.seq (.block 0 (.loop (.seq (.seq (.region [qo .mv [.env 5],
qo .mv [.env 6],
qo (.bin .lss) [.loc 1, .loc 0]] [(21, 0)])
(.cond (.env 21) (.skip) (.exit 0)))
(.block 1 (.seq (.region [qo .mv [.env 5],
qo .mv [.env 6],
qo (.bin .add) [.loc 1, .loc 0],
qo (.conv .u64) [.loc 0],
qo (.bin .shr) [.loc 0, .const (.int .u64 1)],
qo (.conv .i64) [.loc 0],
qo .mv [.loc 0]] [(7, 0)])
(.seq (.drawn [qo .mv [.env 4],
qw .mv [.env 0] 0 1,
qw .mv [.env 7] 0 2,
qw (.iaddr 1) [.loc 1, .loc 0] 6 3,
qw (.load 1 false) [.loc 0] 14 4,
qw .mv [.env 0] 0 5,
qw .mv [.env 1] 0 6,
qw (.iaddr 1) [.loc 1, .loc 0] 96 7,
qw (.load 1 false) [.loc 0] 224 8,
qw .callv [.loc 8, .loc 4, .loc 0] 511 9,
qw (.bin .lss) [.loc 0, .const (.int .i64 0)] 1023 10] [(22, 0)] [])
(.cond (.env 22) (.region [qo .mv [.env 7],
qo (.bin .add) [.loc 0, .const (.int .i64 1)],
qo .mv [.loc 0]] [(5, 0)]) (.region [⟨.mv, [.env 7], none, [], none⟩,
qo .mv [.loc 0]] [(6, 0)]))))))))
(.seq (.seq (.region [qo .mv [.env 1],
qo .mv [.loc 0]] [(8, 0)])
(.block 2 (.loop (.seq (.seq (.region [qo .mv [.env 8],
qo .mv [.env 5],
qo (.bin .sub) [.loc 0, .const (.int .i64 1)],
qo (.bin .lss) [.loc 2, .loc 0]] [(23, 0)])
(.cond (.env 23) (.skip) (.exit 2)))
(.seq (.block 3 (.drawn [qo .mv [.env 0],
qw .mv [.env 8] 0 1,
qw .mv [.env 0] 0 2,
qw .mv [.env 8] 0 3,
qw (.bin .add) [.loc 0, .const (.int .i64 1)] 8 4,
qw .mv [.env 0] 0 5,
qw .mv [.env 8] 0 6,
qw (.bin .add) [.loc 0, .const (.int .i64 1)] 64 7,
qw (.iaddr 1) [.loc 2, .loc 0] 224 8,
qw (.load 1 false) [.loc 0] 480 9,
qw .mv [.env 0] 0 10,
qw .mv [.env 8] 0 11,
qw (.iaddr 1) [.loc 1, .loc 0] 3072 12,
qw (.load 1 false) [.loc 0] 7168 13,
qw (.iaddr 1) [.loc 13, .loc 12] 16355 14,
qw (.store 1) [.loc 0, .loc 5] 32739 15,
qw (.iaddr 1) [.loc 13, .loc 11] 65535 16,
qw (.store 1) [.loc 0, .loc 3] 131071 17] [] []))
(.region [qo .mv [.env 8],
qo (.bin .add) [.loc 0, .const (.int .i64 1)],
qo .mv [.loc 0]] [(8, 0)]))))))
(.ret))))) (.skip)))
(.seq (.seq (.region [qo .mv [.env 3],
qo .mv [.env 2],
qo (.bin .sub) [.loc 1, .loc 0],
qo (.bin .eql) [.loc 0, .const (.int .i64 1)]] [(24, 0)])
(.cond (.env 24) (.seq (.region [qo .mv [.env 1],
qo .mv [.loc 0]] [(9, 0)])
(.seq (.region [qo .mv [.env 2],
qo .mv [.loc 0]] [(10, 0)])
(.seq (.block 4 (.loop (.seq (.seq (.region [qo .mv [.env 9],
qo .mv [.env 10],
qo (.bin .lss) [.loc 1, .loc 0]] [(25, 0)])
(.cond (.env 25) (.skip) (.exit 4)))
(.block 5 (.seq (.region [qo .mv [.env 9],
qo .mv [.env 10],
qo (.bin .add) [.loc 1, .loc 0],
qo (.conv .u64) [.loc 0],
qo (.bin .shr) [.loc 0, .const (.int .u64 1)],
qo (.conv .i64) [.loc 0],
qo .mv [.loc 0]] [(11, 0)])
(.seq (.drawn [qo .mv [.env 4],
qw .mv [.env 0] 0 1,
qw .mv [.env 2] 0 2,
qw (.iaddr 1) [.loc 1, .loc 0] 6 3,
qw (.load 1 false) [.loc 0] 14 4,
qw .mv [.env 0] 0 5,
qw .mv [.env 11] 0 6,
qw (.iaddr 1) [.loc 1, .loc 0] 96 7,
qw (.load 1 false) [.loc 0] 224 8,
qw .callv [.loc 8, .loc 4, .loc 0] 511 9,
qw (.bin .lss) [.loc 0, .const (.int .i64 0)] 1023 10,
qw (.un .not) [.loc 0] 2047 11] [(26, 0)] [])
(.cond (.env 26) (.region [qo .mv [.env 11],
qo (.bin .add) [.loc 0, .const (.int .i64 1)],
qo .mv [.loc 0]] [(9, 0)]) (.region [⟨.mv, [.env 11], none, [], none⟩,
qo .mv [.loc 0]] [(10, 0)]))))))))
(.seq (.seq (.region [qo .mv [.env 2],
qo .mv [.loc 0]] [(12, 0)])
(.block 6 (.loop (.seq (.seq (.region [qo .mv [.env 12],
qo .mv [.env 9],
qo (.bin .gtr) [.loc 1, .loc 0]] [(27, 0)])
(.cond (.env 27) (.skip) (.exit 6)))
(.seq (.block 7 (.drawn [qo .mv [.env 0],
qw .mv [.env 12] 0 1,
qw .mv [.env 0] 0 2,
qw .mv [.env 12] 0 3,
qw (.bin .sub) [.loc 0, .const (.int .i64 1)] 8 4,
qw .mv [.env 0] 0 5,
qw .mv [.env 12] 0 6,
qw (.bin .sub) [.loc 0, .const (.int .i64 1)] 64 7,
qw (.iaddr 1) [.loc 2, .loc 0] 224 8,
qw (.load 1 false) [.loc 0] 480 9,
qw .mv [.env 0] 0 10,
qw .mv [.env 12] 0 11,
qw (.iaddr 1) [.loc 1, .loc 0] 3072 12,
qw (.load 1 false) [.loc 0] 7168 13,
qw (.iaddr 1) [.loc 13, .loc 12] 16355 14,
qw (.store 1) [.loc 0, .loc 5] 32739 15,
qw (.iaddr 1) [.loc 13, .loc 11] 65535 16,
qw (.store 1) [.loc 0, .loc 3] 131071 17] [] []))
(.region [qo .mv [.env 12],
qo (.bin .sub) [.loc 0, .const (.int .i64 1)],
qo .mv [.loc 0]] [(12, 0)]))))))
(.ret))))) (.skip)))
(.seq (.region [qo .mv [.env 1],
qo .mv [.env 3],
qo (.bin .add) [.loc 1, .loc 0],
qo (.conv .u64) [.loc 0],
qo (.bin .shr) [.loc 0, .const (.int .u64 1)],
qo (.conv .i64) [.loc 0],
qo .mv [.loc 0]] [(13, 0)])
(.seq (.region [qo .mv [.env 13],
qo .mv [.env 2],
qo (.bin .add) [.loc 1, .loc 0],
qo .mv [.loc 0]] [(14, 0)])
(.seq (.region [qo .mv [.const (.int .i64 0)],
qo .mv [.const (.int .i64 0)]] [(15, 1), (16, 0)])
(.seq (.seq (.region [qo .mv [.env 2],
qo .mv [.env 13],
qo (.bin .gtr) [.loc 1, .loc 0]] [(28, 0)])
(.cond (.env 28) (.seq (.region [qo .mv [.env 14],
qo .mv [.env 3],
qo (.bin .sub) [.loc 1, .loc 0],
qo .mv [.loc 0]] [(15, 0)])
(.region [qo .mv [.env 13],
qo .mv [.loc 0]] [(16, 0)])) (.seq (.region [⟨.mv, [.env 1], none, [], none⟩,
qo .mv [.loc 0]] [(15, 0)])
(.region [qo .mv [.env 2],
qo .mv [.loc 0]] [(16, 0)]))))
(.seq (.region [qo .mv [.env 14],
qo (.bin .sub) [.loc 0, .const (.int .i64 1)],
qo .mv [.loc 0]] [(17, 0)])
(.seq (.block 8 (.loop (.seq (.seq (.region [qo .mv [.env 15],
qo .mv [.env 16],
qo (.bin .lss) [.loc 1, .loc 0]] [(29, 0)])
(.cond (.env 29) (.skip) (.exit 8)))
(.block 9 (.seq (.region [qo .mv [.env 15],
qo .mv [.env 16],
qo (.bin .add) [.loc 1, .loc 0],
qo (.conv .u64) [.loc 0],
qo (.bin .shr) [.loc 0, .const (.int .u64 1)],
qo (.conv .i64) [.loc 0],
qo .mv [.loc 0]] [(18, 0)])
(.seq (.drawn [qo .mv [.env 4],
qw .mv [.env 0] 0 1,
qw .mv [.env 17] 0 2,
qw .mv [.env 18] 0 3,
qw (.bin .sub) [.loc 1, .loc 0] 12 4,
qw (.iaddr 1) [.loc 3, .loc 0] 30 5,
qw (.load 1 false) [.loc 0] 62 6,
qw .mv [.env 0] 0 7,
qw .mv [.env 18] 0 8,
qw (.iaddr 1) [.loc 1, .loc 0] 384 9,
qw (.load 1 false) [.loc 0] 896 10,
qw .callv [.loc 10, .loc 4, .loc 0] 2047 11,
qw (.bin .lss) [.loc 0, .const (.int .i64 0)] 4095 12,
qw (.un .not) [.loc 0] 8191 13] [(30, 0)] [])
(.cond (.env 30) (.region [qo .mv [.env 18],
qo (.bin .add) [.loc 0, .const (.int .i64 1)],
qo .mv [.loc 0]] [(15, 0)]) (.region [⟨.mv, [.env 18], none, [], none⟩,
qo .mv [.loc 0]] [(16, 0)]))))))))
(.seq (.region [qo .mv [.env 14],
qo .mv [.env 15],
qo (.bin .sub) [.loc 1, .loc 0],
qo .mv [.loc 0]] [(19, 0)])
(.seq (.seq (.region [qo .mv [.env 15],
qo .mv [.env 2],
qo (.bin .lss) [.loc 1, .loc 0],
qo .mv [.loc 0],
qg .mv [.env 2] 0 true,
qg .mv [.env 19] 1 true,
qg (.bin .lss) [.loc 1, .loc 0] 2 true,
qo .pick [.loc 3, .loc 0, .const (.bool false)]] [(31, 0)])
(.cond (.env 31) (.region [qo .mv [.env 0],
qo .mv [.env 15],
qo .mv [.env 2],
qo .mv [.env 19],
qo .mv [.env 4],
qo (.call 146) [.loc 4, .loc 3, .loc 2, .loc 1, .loc 0]] []) (.skip)))
(.seq (.seq (.region [qo .mv [.env 1],
qo .mv [.env 15],
qo (.bin .lss) [.loc 1, .loc 0],
qo .mv [.loc 0],
qg .mv [.env 15] 0 true,
qg .mv [.env 13] 1 true,
qg (.bin .lss) [.loc 1, .loc 0] 2 true,
qo .pick [.loc 3, .loc 0, .const (.bool false)]] [(32, 0)])
(.cond (.env 32) (.region [qo .mv [.env 0],
qo .mv [.env 1],
qo .mv [.env 15],
qo .mv [.env 13],
qo .mv [.env 4],
qo (.call 119) [.loc 4, .loc 3, .loc 2, .loc 1, .loc 0]] []) (.skip)))
(.seq (.region [qo .mv [.env 13],
qo .mv [.env 19],
qo (.bin .lss) [.loc 1, .loc 0],
qo .mv [.loc 0],
qg .mv [.env 19] 0 true,
qg .mv [.env 3] 1 true,
qg (.bin .lss) [.loc 1, .loc 0] 2 true,
qo .pick [.loc 3, .loc 0, .const (.bool false)]] [(33, 0)])
(.cond (.env 33) (.region [qo .mv [.env 0],
qo .mv [.env 13],
qo .mv [.env 19],
qo .mv [.env 3],
qo .mv [.env 4],
qo (.call 119) [.loc 4, .loc 3, .loc 2, .loc 1, .loc 0]] []) (.skip))))))))))))),
[]⟩
theorem F119_low : lowFn Tryz.prog true [0, 1, 2, 3, 4, 10, 11, 12, 13, 14, 15, 16, 17, 18, 19, 20, 21, 22, 23, 24, 28, 33, 50, 58, 80, 85, 103, 110, 140, 151, 171, 185, 199, 213] Tryz.f119 = some F119 := by as_aux_lemma => kernel_rfl
def F120 : LFunc := ⟨[0, 1, 2, 4], 1,
.seq (.region [qo (.box 51 11) [.env 0],
qo (.alloc 175 [.nilfn, .nilfn]) []] [(1, 1), (2, 0)])
(.seq (.seq (.region [qo (.faddr 7) [.env 1],
qo (.load 1 false) [.loc 0]] [(3, 0)])
(.cond (.env 3) (.seq (.region [qo (.call 147) [],
qo (.mapget 0 (.agg [.nilfn, .nilfn]) false) [.loc 0, .const (.int .i64 3)],
qo (.store 2) [.env 2, .loc 0]] [])
(.ret)) (.skip)))
(.seq (.drawn [qo (.call 147) [],
qw (.faddr 1) [.env 1] 0 1,
qw (.load 1 false) [.loc 0] 2 2,
qw (.conv .i64) [.loc 0] 6 3,
qw (.mapget 0 (.agg [.nilfn, .nilfn]) false) [.loc 3, .loc 0] 15 4,
qw (.store 2) [.env 2, .loc 0] 31 5] [] [])
(.ret))),
[.cell 2 2 true]⟩
theorem F120_low : lowFn Tryz.prog false [0, 1, 2, 4] Tryz.f120 = some F120 := by as_aux_lemma => kernel_rfl
def F121 : LFunc := ⟨[0, 2], 1,
.seq (.region [qo .mv [.const (.bool false)]] [(1, 0)])
(.seq (.region [qo .mv [.env 0],
qo (.bin .neq) [.loc 0, .const (.str ⟨#[]⟩)],
qo .mv [.loc 0],
qg .mv [.env 0] 0 true,
qg (.call 148) [.loc 0, .const (.str ⟨#[48, 49, 50, 51, 52, 53, 54, 55, 56, 57]⟩)] 1 true,
qg (.bin .eql) [.loc 0, .const (.str ⟨#[]⟩)] 2 true,
qo .pick [.loc 3, .loc 0, .const (.bool false)],
qo .mv [.loc 0]] [(1, 0)])
(.ret)),
[.tmp 1]⟩
theorem F121_low : lowFn Tryz.prog false [0, 2] Tryz.f121 = some F121 := by as_aux_lemma => kernel_rfl
def F122 : LFunc := ⟨[0, 1, 2, 6, 7, 11, 18, 27, 37], 3,
.seq (.region [qo (.alloc 102 [.bool false, .str ⟨#[]⟩, .int .i64 0]) [],
qo .mv [.const (.int .i64 0)]] [(3, 1), (4, 0)])
(.seq (.region [qo .mv [.env 1],
qo (.call 64) [.loc 0, .const (.str ⟨#[48]⟩)],
qo .mv [.loc 0]] [(1, 0)])
(.seq (.seq (.region [qo .mv [.env 1],
qo (.bin .eql) [.loc 0, .const (.str ⟨#[]⟩)]] [(5, 0)])
(.cond (.env 5) (.seq (.region [qo (.build [.bool false, .str ⟨#[]⟩, .int .i64 0] [(1, 1)]) [.const (.str ⟨#[48]⟩)],
qo (.store 3) [.env 3, .loc 0],
qo .mv [.const (.int .i64 0)]] [(4, 0)])
(.ret)) (.skip)))
(.seq (.block 0 (.loop (.seq (.seq (.region [qo .mv [.env 2],
qo (.bin .gtr) [.loc 0, .const (.int .i64 0)],
qo .mv [.loc 0],
qg .mv [.env 1] 0 true,
qg (.call 149) [.loc 0, .const (.str ⟨#[48]⟩)] 1 true,
qo .pick [.loc 2, .loc 0, .const (.bool false)]] [(6, 0)])
(.cond (.env 6) (.skip) (.exit 0)))
(.block 1 (.region [qo .mv [.env 1],
qo .mv [.env 1],
qo (.len true) [.loc 0],
qo (.bin .sub) [.loc 0, .const (.int .i64 1)],
qo (.slice true 0 false true false) [.loc 3, .loc 0],
qo .mv [.env 2],
qo (.bin .sub) [.loc 0, .const (.int .i64 1)],
qo .mv [.loc 2],
qo .mv [.loc 1]] [(1, 1), (2, 0)])))))
(.seq (.seq (.region [qo .mv [.env 2],
qo (.bin .lss) [.loc 0, .const (.int .i64 0)]] [(7, 0)])
(.cond (.env 7) (.region [qo .mv [.env 1],
qo .mv [.env 2],
qo (.un .neg) [.loc 0],
qo (.call 57) [.const (.str ⟨#[48]⟩), .loc 0],
qo (.bin .add) [.loc 3, .loc 0],
qo .mv [.loc 0],
qo .mv [.const (.int .i64 0)]] [(1, 1), (2, 0)]) (.skip)))
(.seq (.seq (.region [qo .mv [.env 1],
qo (.len true) [.loc 0],
qo .mv [.env 2],
qo .max [.loc 1, .loc 0],
qo (.bin .gtr) [.loc 0, .const (.int .i64 62)]] [(8, 0)])
(.cond (.env 8) (.seq (.region [qo (.build [.bool false, .str ⟨#[]⟩, .int .i64 0] []) [],
qo (.store 3) [.env 3, .loc 0],
qo .mv [.const (.int .i64 14)]] [(4, 0)])
(.ret)) (.skip)))
(.seq (.region [qo .mv [.env 0],
qo .mv [.env 1],
qo .mv [.env 2],
qo (.build [.bool false, .str ⟨#[]⟩, .int .i64 0] [(0, 1), (1, 1), (2, 1)]) [.loc 2, .loc 1, .loc 0],
qo (.store 3) [.env 3, .loc 0],
qo .mv [.const (.int .i64 0)]] [(4, 0)])
(.ret))))))),
[.cell 3 3 true, .tmp 4]⟩
theorem F122_low : lowFn Tryz.prog false [0, 1, 2, 6, 7, 11, 18, 27, 37] Tryz.f122 = some F122 := by as_aux_lemma => kernel_rfl
def F123 : LFunc := ⟨[0, 1, 2, 3, 4, 24, 41], 1,
.seq (.region [qo (.box 102 3) [.env 0],
qo .mv [.const (.int .i64 0)]] [(1, 1), (2, 0)])
(.seq (.seq (.region [qo (.faddr 1) [.env 1],
qo (.load 1 false) [.loc 0],
qo (.call 121) [.loc 0],
qo (.un .not) [.loc 0],
qo .mv [.loc 0],
qg (.faddr 1) [.env 1] 0 false,
qg (.load 1 false) [.loc 0] 1 false,
qg (.len true) [.loc 0] 2 false,
qg (.bin .gtr) [.loc 0, .const (.int .i64 62)] 3 false,
qo .pick [.loc 4, .const (.bool true), .loc 0],
qo .mv [.loc 0],
qg (.faddr 2) [.env 1] 0 false,
qg (.load 1 false) [.loc 0] 1 false,
qg (.bin .lss) [.loc 0, .const (.int .i64 0)] 2 false,
qo .pick [.loc 3, .const (.bool true), .loc 0],
qo .mv [.loc 0],
qg (.faddr 2) [.env 1] 0 false,
qg (.load 1 false) [.loc 0] 1 false,
qg (.bin .gtr) [.loc 0, .const (.int .i64 62)] 2 false,
qo .pick [.loc 3, .const (.bool true), .loc 0]] [(5, 0)])
(.cond (.env 5) (.seq (.region [qo .mv [.const (.int .i64 1)]] [(2, 0)])
(.ret)) (.skip)))
(.seq (.seq (.region [qo (.faddr 0) [.env 1],
qo (.load 1 false) [.loc 0],
qo (.faddr 1) [.env 1],
qo (.load 1 false) [.loc 0],
qo (.faddr 2) [.env 1],
qo (.load 1 false) [.loc 0],
qo (.call 122) [.loc 4, .loc 2, .loc 0],
qo .mv [.loc 0],
qo (.extract 0) [.loc 0],
qo (.extract 1) [.loc 1],
qo (.alloc 102 [.bool false, .str ⟨#[]⟩, .int .i64 0]) [],
qo (.store 3) [.loc 0, .loc 2],
qo .mv [.loc 2]] [(3, 2), (4, 0)])
(.seq (.region [qo .mv [.env 4],
qo (.bin .neq) [.loc 0, .const (.int .i64 0)],
qo .mv [.loc 0],
qg (.load 3 true) [.env 3] 0 false,
qg (.load 3 true) [.env 1] 1 false,
qg (.eqs true [2, 1, 0]) [.loc 1, .loc 0] 2 false,
qo .pick [.loc 3, .const (.bool true), .loc 0]] [(6, 0)])
(.cond (.env 6) (.seq (.region [qo .mv [.const (.int .i64 1)]] [(2, 0)])
(.ret)) (.skip))))
(.seq (.region [qo .mv [.const (.int .i64 0)]] [(2, 0)])
(.ret)))),
[.tmp 2]⟩
theorem F123_low : lowFn Tryz.prog false [0, 1, 2, 3, 4, 24, 41] Tryz.f123 = some F123 := by as_aux_lemma => kernel_rfl
def F124 : LFunc := ⟨[0, 1, 4], 2,
.seq (.region [qo .mv [.const (.str ⟨#[]⟩)]] [(2, 0)])
(.seq (.region [qo .mv [.env 1],
qo .mv [.env 0],
qo (.len true) [.loc 0],
qo (.bin .sub) [.loc 2, .loc 0],
qo .max [.loc 0, .const (.int .i64 0)],
qo (.call 57) [.const (.str ⟨#[48]⟩), .loc 0],
qo .mv [.env 0],
qo (.bin .add) [.loc 1, .loc 0],
qo .mv [.loc 0]] [(2, 0)])
(.ret)),
[.tmp 2]⟩
theorem F124_low : lowFn Tryz.prog false [0, 1, 4] Tryz.f124 = some F124 := by as_aux_lemma => kernel_rfl
def F125 : LFunc := ⟨[0, 2], 1,
.seq (.region [qo .mv [.const (.bool false)]] [(1, 0)])
(.seq (.region [qo .mv [.env 0],
qo .mv [.env 0],
qo (.bin .neq) [.loc 1, .loc 0],
qo .mv [.loc 0]] [(1, 0)])
(.ret)),
[.tmp 1]⟩
theorem F125_low : lowFn Tryz.prog false [0, 2] Tryz.f125 = some F125 := by as_aux_lemma => kernel_rfl
def F126 : LFunc := ⟨[0, 2], 1,
.seq (.region [qo .mv [.const (.bool false)]] [(1, 0)])
(.seq (.region [qo .mv [.env 0],
qo .mv [.env 0],
qo (.bin .neq) [.loc 1, .loc 0],
qo .mv [.loc 0]] [(1, 0)])
(.ret)),
[.tmp 1]⟩
theorem F126_low : lowFn Tryz.prog false [0, 2] Tryz.f126 = some F126 := by as_aux_lemma => kernel_rfl
def F127 : LFunc := ⟨[0, 1, 4], 2,
.seq (.region [qo .mv [.const (.bool false)]] [(2, 0)])
(.seq (.region [qo .mv [.env 0],
qo (.len true) [.loc 0],
qo .mv [.env 1],
qo (.len true) [.loc 0],
qo (.bin .geq) [.loc 2, .loc 0],
qo .mv [.loc 0],
qg .mv [.env 0] 0 true,
qg .mv [.env 1] 1 true,
qg (.len true) [.loc 0] 2 true,
qg (.slice true 0 false true false) [.loc 2, .loc 0] 3 true,
qg .mv [.env 1] 4 true,
qg (.bin .eql) [.loc 1, .loc 0] 5 true,
qo .pick [.loc 6, .loc 0, .const (.bool false)],
qo .mv [.loc 0]] [(2, 0)])
(.ret)),
[.tmp 2]⟩
theorem F127_low : lowFn Tryz.prog false [0, 1, 4] Tryz.f127 = some F127 := by as_aux_lemma => kernel_rfl
def F130 : LFunc := ⟨[0, 1, 4], 2,
.seq (.region [qo .mv [.const (.int .i64 0)]] [(2, 0)])
(.seq (.region [qo .mv [.env 0],
qo .mv [.env 1],
qo .idxb [.loc 1, .loc 0],
qo .mv [.loc 0]] [(2, 0)])
(.ret)),
[.tmp 2]⟩
theorem F130_low : lowFn Tryz.prog false [0, 1, 4] Tryz.f130 = some F130 := by as_aux_lemma => kernel_rfl
def F132 : LFunc := ⟨[0, 1, 4, 5, 6], 2,
.seq (.region [qo .mv [.const (.int .u32 0)],
qo .mv [.const (.int .u32 0)]] [(2, 1), (3, 0)])
(.seq (.region [qo .mv [.env 0],
qo (.conv .u64) [.loc 0],
qo .mv [.env 1],
qo (.conv .u64) [.loc 0],
qo (.bin .mul) [.loc 2, .loc 0],
qo .mv [.loc 0]] [(4, 0)])
(.seq (.region [qo .mv [.env 4],
qo (.bin .shr) [.loc 0, .const (.int .u64 32)],
qo (.conv .u32) [.loc 0],
qo .mv [.env 4],
qo (.conv .u32) [.loc 0],
qo .mv [.loc 2],
qo .mv [.loc 1]] [(2, 1), (3, 0)])
(.ret))),
[.tmp 2, .tmp 3]⟩
theorem F132_low : lowFn Tryz.prog false [0, 1, 4, 5, 6] Tryz.f132 = some F132 := by as_aux_lemma => kernel_rfl
def F133 : LFunc := ⟨[0, 1, 4, 5, 6, 7, 8, 9, 10, 11, 12, 13], 2,
.seq (.region [qo .mv [.const (.int .u64 0)],
qo .mv [.const (.int .u64 0)]] [(2, 1), (3, 0)])
(.seq (.region [qo .mv [.env 0],
qo (.bin .and) [.loc 0, .const (.int .u64 4294967295)],
qo .mv [.loc 0]] [(4, 0)])
(.seq (.region [qo .mv [.env 0],
qo (.bin .shr) [.loc 0, .const (.int .u64 32)],
qo .mv [.loc 0]] [(5, 0)])
(.seq (.region [qo .mv [.env 1],
qo (.bin .and) [.loc 0, .const (.int .u64 4294967295)],
qo .mv [.loc 0]] [(6, 0)])
(.seq (.region [qo .mv [.env 1],
qo (.bin .shr) [.loc 0, .const (.int .u64 32)],
qo .mv [.loc 0]] [(7, 0)])
(.seq (.region [qo .mv [.env 4],
qo .mv [.env 6],
qo (.bin .mul) [.loc 1, .loc 0],
qo .mv [.loc 0]] [(8, 0)])
(.seq (.region [qo .mv [.env 5],
qo .mv [.env 6],
qo (.bin .mul) [.loc 1, .loc 0],
qo .mv [.env 8],
qo (.bin .shr) [.loc 0, .const (.int .u64 32)],
qo (.bin .add) [.loc 2, .loc 0],
qo .mv [.loc 0]] [(9, 0)])
(.seq (.region [qo .mv [.env 9],
qo (.bin .and) [.loc 0, .const (.int .u64 4294967295)],
qo .mv [.loc 0]] [(10, 0)])
(.seq (.region [qo .mv [.env 9],
qo (.bin .shr) [.loc 0, .const (.int .u64 32)],
qo .mv [.loc 0]] [(11, 0)])
(.seq (.region [qo .mv [.env 10],
qo .mv [.env 4],
qo .mv [.env 7],
qo (.bin .mul) [.loc 1, .loc 0],
qo (.bin .add) [.loc 3, .loc 0],
qo .mv [.loc 0]] [(10, 0)])
(.seq (.region [qo .mv [.env 5],
qo .mv [.env 7],
qo (.bin .mul) [.loc 1, .loc 0],
qo .mv [.env 11],
qo (.bin .add) [.loc 1, .loc 0],
qo .mv [.env 10],
qo (.bin .shr) [.loc 0, .const (.int .u64 32)],
qo (.bin .add) [.loc 2, .loc 0],
qo .mv [.loc 0]] [(2, 0)])
(.seq (.region [qo .mv [.env 0],
qo .mv [.env 1],
qo (.bin .mul) [.loc 1, .loc 0],
qo .mv [.loc 0]] [(3, 0)])
(.ret)))))))))))),
[.tmp 2, .tmp 3]⟩
theorem F133_low : lowFn Tryz.prog false [0, 1, 4, 5, 6, 7, 8, 9, 10, 11, 12, 13] Tryz.f133 = some F133 := by as_aux_lemma => kernel_rfl
def F135 : LFunc := ⟨[0, 2], 1,
.seq (.region [qo .mv [.const (.bool false)]] [(1, 0)])
(.seq (.region [qo .mv [.env 0],
qo (.bin .gtr) [.loc 0, .const (.int .i64 8)],
qo .mv [.loc 0]] [(1, 0)])
(.ret)),
[.tmp 1]⟩
theorem F135_low : lowFn Tryz.prog false [0, 2] Tryz.f135 = some F135 := by as_aux_lemma => kernel_rfl
end Go.Proofs.YtabgobmeibjeeaaGreatDoor

namespace Go.Proofs.YtabgobmeibjeeaaGreatDoor
set_option maxRecDepth 100000
set_option maxHeartbeats 4000000
set_option linter.unusedVariables false

def F136 : LFunc := ⟨[0, 1, 4], 2,
.seq (.region [qo .mv [.const (.bool false)]] [(2, 0)])
(.seq (.region [qo .mv [.env 0],
qo .mv [.env 1],
qo .nilck [.loc 1],
qo (.aaddr 1 256) [.loc 0, .loc 1],
qo (.load 1 false) [.loc 0],
qo .mv [.loc 0]] [(2, 0)])
(.ret)),
[.tmp 2]⟩
theorem F136_low : lowFn Tryz.prog false [0, 1, 4] Tryz.f136 = some F136 := by as_aux_lemma => kernel_rfl
def F145 : LFunc := ⟨[0, 1, 2, 3, 4, 13, 27, 33, 44], 1,
.seq (.region [qo (.box 51 11) [.env 0],
qo .mv [.const (.int .i64 0)],
qo .mv [.const (.int .i64 0)]] [(1, 2), (2, 1), (3, 0)])
(.seq (.block 0 (.seq (.region [qo (.faddr 0) [.env 1],
qo (.load 1 false) [.loc 0],
qo (.bin .gtr) [.loc 0, .const (.int .u8 5)],
qo .mv [.loc 0],
qg (.faddr 1) [.env 1] 0 false,
qg (.load 1 false) [.loc 0] 1 false,
qg (.bin .gtr) [.loc 0, .const (.int .u8 2)] 2 false,
qo .pick [.loc 3, .const (.bool true), .loc 0],
qo .mv [.loc 0]] [(4, 0)])
(.cond (.env 4) (.seq (.region [qo .mv [.const (.int .i64 0)],
qo .mv [.const (.int .i64 12)]] [(2, 1), (3, 0)])
(.ret)) (.seq (.region [qo (.faddr 0) [.env 1],
qo (.load 1 false) [.loc 0],
qo (.bin .eql) [.loc 0, .const (.int .u8 0)],
qo .mv [.loc 0],
qg (.faddr 10) [.env 1] 0 true,
qg (.load 1 false) [.loc 0] 1 true,
qg (.bin .lss) [.loc 0, .const (.int .i64 0)] 2 true,
qg .mv [.loc 0] 3 true,
qg (.faddr 10) [.env 1] 0 false,
qg (.load 1 false) [.loc 0] 1 false,
qg (.bin .gtr) [.loc 0, .const (.int .i64 1048576)] 2 false,
qg .pick [.loc 3, .const (.bool true), .loc 0] 7 true,
qo .pick [.loc 8, .loc 0, .const (.bool false)],
qo .mv [.loc 0]] [(5, 0)])
(.cond (.env 5) (.seq (.region [qo .mv [.const (.int .i64 0)],
qo .mv [.const (.int .i64 1)]] [(2, 1), (3, 0)])
(.ret)) (.seq (.region [qo (.faddr 0) [.env 1],
qo (.load 1 false) [.loc 0],
qo (.bin .eql) [.loc 0, .const (.int .u8 0)],
qo .mv [.loc 0]] [(6, 0)])
(.cond (.env 6) (.seq (.region [qo (.faddr 10) [.env 1],
qo (.load 1 false) [.loc 0],
qo .mv [.loc 0],
qo .mv [.const (.int .i64 0)]] [(2, 1), (3, 0)])
(.ret)) (.seq (.region [qo (.faddr 0) [.env 1],
qo (.load 1 false) [.loc 0],
qo (.bin .neq) [.loc 0, .const (.int .u8 4)],
qo .mv [.loc 0]] [(7, 0)])
(.cond (.env 7) (.seq (.drawn [qo (.faddr 2) [.env 1],
qw (.load 1 false) [.loc 0] 1 1,
qw (.len true) [.loc 0] 3 2,
qw (.faddr 2) [.env 1] 0 3,
qw (.load 1 false) [.loc 0] 8 4,
qw (.call 38) [.loc 0, .const (.str ⟨#[86]⟩)] 24 5,
qw (.bin .sub) [.loc 3, .loc 0] 63 6,
qw .mv [.loc 0] 127 7,
qw .mv [.const (.int .i64 0)] 255 8] [(2, 1), (3, 0)] [])
(.ret)) (.seq (.region [qo (.faddr 3) [.env 1],
qo (.load 1 false) [.loc 0],
qo (.bin .lss) [.loc 0, .const (.int .i64 1)],
qo .mv [.loc 0],
qg (.faddr 3) [.env 1] 0 false,
qg (.load 1 false) [.loc 0] 1 false,
qg (.bin .gtr) [.loc 0, .const (.int .i64 18)] 2 false,
qo .pick [.loc 3, .const (.bool true), .loc 0],
qo .mv [.loc 0]] [(8, 0)])
(.cond (.env 8) (.seq (.region [qo .mv [.const (.int .i64 0)],
qo .mv [.const (.int .i64 1)]] [(2, 1), (3, 0)])
(.ret)) (.skip))))))))))))
(.seq (.region [qo (.load 11 true) [.env 1],
qo (.call 160) [.loc 0],
qo .mv [.loc 0],
qo .mv [.const (.int .i64 0)]] [(2, 1), (3, 0)])
(.ret))),
[.tmp 2, .tmp 3]⟩
theorem F145_low : lowFn Tryz.prog false [0, 1, 2, 3, 4, 13, 27, 33, 44] Tryz.f145 = some F145 := by as_aux_lemma => kernel_rfl
def F146 : LFunc := ⟨[0, 1, 2, 3, 4, 10, 11, 20, 23], 5,
.seq (.region [qo .mv [.env 2],
qo .mv [.env 1],
qo (.bin .sub) [.loc 1, .loc 0],
qo .mv [.loc 0]] [(5, 0)])
(.seq (.region [qo .mv [.env 3],
qo .mv [.env 2],
qo (.bin .sub) [.loc 1, .loc 0],
qo .mv [.loc 0]] [(6, 0)])
(.seq (.block 0 (.loop (.seq (.seq (.region [qo .mv [.env 5],
qo .mv [.env 6],
qo (.bin .neq) [.loc 1, .loc 0]] [(7, 0)])
(.cond (.env 7) (.skip) (.exit 0)))
(.block 1 (.seq (.region [qo .mv [.env 5],
qo .mv [.env 6],
qo (.bin .gtr) [.loc 1, .loc 0]] [(8, 0)])
(.cond (.env 8) (.seq (.region [qo .mv [.env 0],
qo .mv [.env 2],
qo .mv [.env 5],
qo (.bin .sub) [.loc 1, .loc 0],
qo .mv [.env 2],
qo .mv [.env 6],
qo .mv [.env 4],
qo (.call 161) [.loc 6, .loc 3, .loc 2, .loc 1, .loc 0]] [])
(.region [qo .mv [.env 5],
qo .mv [.env 6],
qo (.bin .sub) [.loc 1, .loc 0],
qo .mv [.loc 0]] [(5, 0)])) (.seq (.region [⟨.mv, [.env 0], none, [], none⟩,
qo .mv [.env 2],
qo .mv [.env 5],
qo (.bin .sub) [.loc 1, .loc 0],
qo .mv [.env 2],
qo .mv [.env 6],
qo (.bin .add) [.loc 1, .loc 0],
qo .mv [.env 5],
qo (.bin .sub) [.loc 1, .loc 0],
qo .mv [.env 5],
qo .mv [.env 4],
qo (.call 161) [.loc 10, .loc 7, .loc 2, .loc 1, .loc 0]] [])
(.region [qo .mv [.env 6],
qo .mv [.env 5],
qo (.bin .sub) [.loc 1, .loc 0],
qo .mv [.loc 0]] [(6, 0)]))))))))
(.region [qo .mv [.env 0],
qo .mv [.env 2],
qo .mv [.env 5],
qo (.bin .sub) [.loc 1, .loc 0],
qo .mv [.env 2],
qo .mv [.env 5],
qo .mv [.env 4],
qo (.call 161) [.loc 6, .loc 3, .loc 2, .loc 1, .loc 0]] []))),
[]⟩
theorem F146_low : lowFn Tryz.prog false [0, 1, 2, 3, 4, 10, 11, 20, 23] Tryz.f146 = some F146 := by as_aux_lemma => kernel_rfl
def F147 : LFunc := ⟨[0], 0,
.seq (.region [qo .mv [.const (.nilm)]] [(0, 0)])
(.seq (.region [qo .mkmap [],
qo (.build [.nilfn, .nilfn] [(0, 1), (1, 1)]) [.const (.fn 162 []), .const (.fn 163 [])],
qo (.mapset 0) [.loc 1, .const (.int .i64 0), .loc 0],
qo (.build [.nilfn, .nilfn] [(0, 1), (1, 1)]) [.const (.fn 164 []), .const (.fn 165 [])],
qo (.mapset 0) [.loc 3, .const (.int .i64 1), .loc 0],
qo (.build [.nilfn, .nilfn] [(0, 1), (1, 1)]) [.const (.fn 166 []), .const (.fn 167 [])],
qo (.mapset 0) [.loc 5, .const (.int .i64 2), .loc 0],
qo (.build [.nilfn, .nilfn] [(0, 1), (1, 1)]) [.const (.fn 168 []), .const (.fn 169 [])],
qo (.mapset 0) [.loc 7, .const (.int .i64 3), .loc 0],
qo .mv [.loc 8],
qo .mv [.loc 0]] [(0, 0)])
(.ret)),
[.tmp 0]⟩
theorem F147_low : lowFn Tryz.prog false [0] Tryz.f147 = some F147 := by as_aux_lemma => kernel_rfl
def F148 : LFunc := ⟨[0, 1, 4, 5, 6, 12, 21, 34], 2,
.seq (.region [qo .mv [.const (.str ⟨#[]⟩)]] [(2, 0)])
(.seq (.seq (.region [qo .mv [.env 0],
qo (.bin .eql) [.loc 0, .const (.str ⟨#[]⟩)],
qo .mv [.loc 0],
qg .mv [.env 1] 0 false,
qg (.bin .eql) [.loc 0, .const (.str ⟨#[]⟩)] 1 false,
qo .pick [.loc 2, .const (.bool true), .loc 0]] [(5, 0)])
(.cond (.env 5) (.seq (.region [qo .mv [.env 0],
qo .mv [.loc 0]] [(2, 0)])
(.ret)) (.skip)))
(.seq (.seq (.region [qo .mv [.env 1],
qo (.len true) [.loc 0],
qo (.bin .eql) [.loc 0, .const (.int .i64 1)],
qo .mv [.loc 0],
qg .mv [.env 1] 0 true,
qg .index [.loc 0, .const (.int .i64 0)] 1 true,
qg (.bin .lss) [.loc 0, .const (.int .u8 128)] 2 true,
qo .pick [.loc 3, .loc 0, .const (.bool false)]] [(6, 0)])
(.cond (.env 6) (.seq (.drawn [qo .mv [.env 0],
qw .mv [.env 1] 0 1,
qw .index [.loc 0, .const (.int .i64 0)] 2 2,
qw (.call 104) [.loc 2, .loc 0] 7 3,
qw .mv [.env 1] 0 4,
qw .index [.loc 0, .const (.int .i64 0)] 16 5,
qw (.call 99) [.loc 2, .loc 0] 63 6,
qw .mv [.loc 0] 127 7] [(2, 0)] [])
(.ret)) (.skip)))
(.seq (.seq (.region [qo .mv [.env 1],
qo (.call 100) [.loc 0],
qo .mv [.loc 0],
qo (.extract 0) [.loc 0],
qo (.extract 1) [.loc 1],
qo (.alloc 158 [.bool false, .bool false, .bool false, .bool false, .bool false, .bool false, .bool false, .bool false, .bool false, .bool false, .bool false, .bool false, .bool false, .bool false, .bool false, .bool false, .bool false, .bool false, .bool false, .bool false, .bool false, .bool false, .bool false, .bool false, .bool false, .bool false, .bool false, .bool false, .bool false, .bool false, .bool false, .bool false, .bool false, .bool false, .bool false, .bool false, .bool false, .bool false, .bool false, .bool false, .bool false, .bool false, .bool false, .bool false, .bool false, .bool false, .bool false, .bool false, .bool false, .bool false, .bool false, .bool false, .bool false, .bool false, .bool false, .bool false, .bool false, .bool false, .bool false, .bool false, .bool false, .bool false, .bool false, .bool false, .bool false, .bool false, .bool false, .bool false, .bool false, .bool false, .bool false, .bool false, .bool false, .bool false, .bool false, .bool false, .bool false, .bool false, .bool false, .bool false, .bool false, .bool false, .bool false, .bool false, .bool false, .bool false, .bool false, .bool false, .bool false, .bool false, .bool false, .bool false, .bool false, .bool false, .bool false, .bool false, .bool false, .bool false, .bool false, .bool false, .bool false, .bool false, .bool false, .bool false, .bool false, .bool false, .bool false, .bool false, .bool false, .bool false, .bool false, .bool false, .bool false, .bool false, .bool false, .bool false, .bool false, .bool false, .bool false, .bool false, .bool false, .bool false, .bool false, .bool false, .bool false, .bool false, .bool false, .bool false, .bool false, .bool false, .bool false, .bool false, .bool false, .bool false, .bool false, .bool false, .bool false, .bool false, .bool false, .bool false, .bool false, .bool false, .bool false, .bool false, .bool false, .bool false, .bool false, .bool false, .bool false, .bool false, .bool false, .bool false, .bool false, .bool false, .bool false, .bool false, .bool false, .bool false, .bool false, .bool false, .bool false, .bool false, .bool false, .bool false, .bool false, .bool false, .bool false, .bool false, .bool false, .bool false, .bool false, .bool false, .bool false, .bool false, .bool false, .bool false, .bool false, .bool false, .bool false, .bool false, .bool false, .bool false, .bool false, .bool false, .bool false, .bool false, .bool false, .bool false, .bool false, .bool false, .bool false, .bool false, .bool false, .bool false, .bool false, .bool false, .bool false, .bool false, .bool false, .bool false, .bool false, .bool false, .bool false, .bool false, .bool false, .bool false, .bool false, .bool false, .bool false, .bool false, .bool false, .bool false, .bool false, .bool false, .bool false, .bool false, .bool false, .bool false, .bool false, .bool false, .bool false, .bool false, .bool false, .bool false, .bool false, .bool false, .bool false, .bool false, .bool false, .bool false, .bool false, .bool false, .bool false, .bool false, .bool false, .bool false, .bool false, .bool false, .bool false, .bool false, .bool false, .bool false, .bool false, .bool false, .bool false, .bool false, .bool false, .bool false, .bool false, .bool false, .bool false, .bool false, .bool false, .bool false, .bool false, .bool false]) [],
qo (.store 256) [.loc 0, .loc 2],
qo .mv [.loc 2]] [(3, 2), (4, 0)])
(.seq (.region [qo .mv [.env 4]] [(7, 0)])
(.cond (.env 7) (.seq (.region [qo .mv [.env 0],
qo (.call 105) [.loc 0, .env 3],
qo (.call 101) [.loc 0, .env 3],
qo .mv [.loc 0]] [(2, 0)])
(.ret)) (.skip))))
(.seq (.region [qo .mv [.env 0],
qo .mv [.env 1],
qo (.call 106) [.loc 1, .loc 0],
qo .mv [.env 1],
qo (.call 102) [.loc 1, .loc 0],
qo .mv [.loc 0]] [(2, 0)])
(.ret))))),
[.tmp 2]⟩
theorem F148_low : lowFn Tryz.prog false [0, 1, 4, 5, 6, 12, 21, 34] Tryz.f148 = some F148 := by as_aux_lemma => kernel_rfl
def F160 : LFunc := ⟨[0, 1, 2, 3, 11, 20, 29, 33], 1,
.seq (.region [qo (.box 51 11) [.env 0],
qo .mv [.const (.int .i64 0)]] [(1, 1), (2, 0)])
(.seq (.block 0 (.seq (.region [qo (.faddr 1) [.env 1],
qo (.load 1 false) [.loc 0],
qo (.bin .eql) [.loc 0, .const (.int .u8 1)],
qo .mv [.loc 0]] [(3, 0)])
(.cond (.env 3) (.seq (.region [qo (.faddr 3) [.env 1],
qo (.load 1 false) [.loc 0],
qo (.bin .quo) [.loc 0, .const (.int .i64 2)],
qo (.bin .add) [.loc 0, .const (.int .i64 1)],
qo .mv [.loc 0]] [(2, 0)])
(.ret)) (.seq (.region [qo (.faddr 1) [.env 1],
qo (.load 1 false) [.loc 0],
qo (.bin .eql) [.loc 0, .const (.int .u8 2)],
qo .mv [.loc 0],
qg (.faddr 3) [.env 1] 0 true,
qg (.load 1 false) [.loc 0] 1 true,
qg (.bin .leq) [.loc 0, .const (.int .i64 4)] 2 true,
qo .pick [.loc 3, .loc 0, .const (.bool false)],
qo .mv [.loc 0]] [(4, 0)])
(.cond (.env 4) (.seq (.region [qo .mv [.const (.int .i64 2)]] [(2, 0)])
(.ret)) (.seq (.region [qo (.faddr 1) [.env 1],
qo (.load 1 false) [.loc 0],
qo (.bin .eql) [.loc 0, .const (.int .u8 2)],
qo .mv [.loc 0],
qg (.faddr 3) [.env 1] 0 true,
qg (.load 1 false) [.loc 0] 1 true,
qg (.bin .leq) [.loc 0, .const (.int .i64 9)] 2 true,
qo .pick [.loc 3, .loc 0, .const (.bool false)],
qo .mv [.loc 0]] [(5, 0)])
(.cond (.env 5) (.seq (.region [qo .mv [.const (.int .i64 4)]] [(2, 0)])
(.ret)) (.seq (.region [qo (.faddr 1) [.env 1],
qo (.load 1 false) [.loc 0],
qo (.bin .eql) [.loc 0, .const (.int .u8 2)],
qo .mv [.loc 0]] [(6, 0)])
(.cond (.env 6) (.seq (.region [qo .mv [.const (.int .i64 8)]] [(2, 0)])
(.ret)) (.seq (.region [qo (.faddr 7) [.env 1],
qo (.load 1 false) [.loc 0],
qo .mv [.loc 0]] [(7, 0)])
(.cond (.env 7) (.seq (.region [qo (.faddr 3) [.env 1],
qo (.load 1 false) [.loc 0],
qo (.bin .add) [.loc 0, .const (.int .i64 1)],
qo .mv [.loc 0]] [(2, 0)])
(.ret)) (.skip))))))))))))
(.seq (.region [qo (.faddr 3) [.env 1],
qo (.load 1 false) [.loc 0],
qo .mv [.loc 0]] [(2, 0)])
(.ret))),
[.tmp 2]⟩
theorem F160_low : lowFn Tryz.prog false [0, 1, 2, 3, 11, 20, 29, 33] Tryz.f160 = some F160 := by as_aux_lemma => kernel_rfl
def F161 : LFunc := ⟨[0, 1, 2, 3, 10, 13], 5,
.seq (.region [qo .mv [.const (.int .i64 0)]] [(4, 0)])
(.block 0 (.loop (.seq (.seq (.region [qo .mv [.env 4],
qo .mv [.env 3],
qo (.bin .lss) [.loc 1, .loc 0]] [(5, 0)])
(.cond (.env 5) (.skip) (.exit 0)))
(.seq (.block 1 (.drawn [qo .mv [.env 0],
qw .mv [.env 1] 0 1,
qw .mv [.env 4] 0 2,
qw (.bin .add) [.loc 1, .loc 0] 6 3,
qw .mv [.env 0] 0 4,
qw .mv [.env 2] 0 5,
qw .mv [.env 4] 0 6,
qw (.bin .add) [.loc 1, .loc 0] 96 7,
qw .mv [.env 0] 0 8,
qw .mv [.env 2] 0 9,
qw .mv [.env 4] 0 10,
qw (.bin .add) [.loc 1, .loc 0] 1536 11,
qw (.iaddr 1) [.loc 3, .loc 0] 3840 12,
qw (.load 1 false) [.loc 0] 7936 13,
qw .mv [.env 0] 0 14,
qw .mv [.env 1] 0 15,
qw .mv [.env 4] 0 16,
qw (.bin .add) [.loc 1, .loc 0] 98304 17,
qw (.iaddr 1) [.loc 3, .loc 0] 245760 18,
qw (.load 1 false) [.loc 0] 507904 19,
qw (.iaddr 1) [.loc 19, .loc 16] 1048335 20,
qw (.store 1) [.loc 0, .loc 7] 2096911 21,
qw (.iaddr 1) [.loc 17, .loc 14] 4194303 22,
qw (.store 1) [.loc 0, .loc 3] 8388607 23] [] []))
(.region [qo .mv [.env 4],
qo (.bin .add) [.loc 0, .const (.int .i64 1)],
qo .mv [.loc 0]] [(4, 0)]))))),
[]⟩
theorem F161_low : lowFn Tryz.prog true [0, 1, 2, 3, 10, 13] Tryz.f161 = some F161 := by as_aux_lemma => kernel_rfl
def F162 : LFunc := ⟨[0, 1, 2, 4, 5, 6, 7, 8, 9, 10, 11, 18, 31], 2,
.seq (.region [qo (.box 177 11) [.env 0],
qo (.alloc 143 [.bool false, .str ⟨#[]⟩]) [],
qo .mv [.const (.bool false)]] [(2, 2), (3, 1), (4, 0)])
(.seq (.region [qo .mv [.env 1],
qo .bstr [.loc 0],
qo (.build [.bool false, .str ⟨#[]⟩] [(1, 1)]) [.loc 0],
qo (.alloc 143 [.bool false, .str ⟨#[]⟩]) [],
qo (.store 2) [.loc 0, .loc 1]] [(5, 1)])
(.seq (.seq (.region [qo (.load 11 true) [.env 2],
qo (.call 174) [.loc 0],
qo .mv [.loc 0]] [(6, 0)])
(.seq (.region [qo (.faddr 5) [.env 2],
qo (.load 1 false) [.loc 0]] [(11, 0)])
(.cond (.env 11) (.seq (.region [qo .mv [.env 1],
qo .mv [.env 6],
qo (.iaddr 1) [.loc 1, .loc 0],
qo (.load 1 false) [.loc 0],
qo .mv [.loc 0]] [(7, 0)])
(.seq (.region [qo .mv [.env 7],
qo (.call 91) [.const (.str ⟨#[123, 65, 66, 67, 68, 69, 70, 71, 72, 73]⟩), .loc 0],
qo .mv [.env 7],
qo (.call 91) [.const (.str ⟨#[125, 74, 75, 76, 77, 78, 79, 80, 81, 82]⟩), .loc 0],
qo .mv [.loc 2],
qo .mv [.loc 1]] [(8, 1), (9, 0)])
(.seq (.region [qo .mv [.env 8],
qo .mv [.env 9],
qo .max [.loc 1, .loc 0],
qo .mv [.loc 0]] [(10, 0)])
(.seq (.region [qo .mv [.env 10],
qo (.bin .geq) [.loc 0, .const (.int .i64 0)]] [(12, 0)])
(.cond (.env 12) (.drawn [qo .mv [.env 9],
qw (.bin .geq) [.loc 0, .const (.int .i64 0)] 1 1,
qw (.faddr 1) [.env 5] 0 2,
qw (.load 1 false) [.loc 0] 4 3,
qw .mv [.env 6] 0 4,
qw (.slice true 0 false true false) [.loc 1, .loc 0] 28 5,
qw .mv [.env 10] 0 6,
qw .mv [.env 10] 0 7,
qw (.bin .add) [.loc 0, .const (.int .i64 1)] 128 8,
qw (.slice true 0 true true false) [.const (.str ⟨#[48, 49, 50, 51, 52, 53, 54, 55, 56, 57]⟩), .loc 2, .loc 0] 448 9,
qw (.bin .add) [.loc 4, .loc 0] 1020 10,
qw (.faddr 1) [.env 5] 0 11,
qw (.load 1 false) [.loc 0] 2048 12,
qw .mv [.env 6] 0 13,
qw (.bin .add) [.loc 0, .const (.int .i64 1)] 8192 14,
qw (.slice true 0 true false false) [.loc 2, .loc 0] 30720 15,
qw (.bin .add) [.loc 5, .loc 0] 65532 16,
qw (.build [.bool false, .str ⟨#[]⟩] [(0, 1), (1, 1)]) [.loc 15, .loc 0] 131071 17,
qw (.store 2) [.env 5, .loc 0] 262143 18] [] []) (.skip)))))) (.skip))))
(.seq (.drawn [qo (.load 2 true) [.env 5],
qw (.faddr 1) [.env 5] 0 1,
qw (.load 1 false) [.loc 0] 2 2,
qw (.call 148) [.loc 0, .const (.str ⟨#[48, 49, 50, 51, 52, 53, 54, 55, 56, 57]⟩)] 6 3,
qw (.bin .eql) [.loc 0, .const (.str ⟨#[]⟩)] 14 4,
qw (.store 2) [.env 3, .loc 4] 15 5,
qw .mv [.loc 1] 63 6] [(4, 0)] [])
(.ret)))),
[.cell 3 2 true, .tmp 4]⟩
theorem F162_low : lowFn Tryz.prog false [0, 1, 2, 4, 5, 6, 7, 8, 9, 10, 11, 18, 31] Tryz.f162 = some F162 := by as_aux_lemma => kernel_rfl
def F164 : LFunc := ⟨[0, 1, 2, 4, 5, 6, 8, 9, 10, 11, 12, 13, 14, 15, 16, 39, 40, 41, 47, 59], 2,
.seq (.region [qo (.box 177 11) [.env 0],
qo (.alloc 143 [.bool false, .str ⟨#[]⟩]) [],
qo .mv [.const (.bool false)]] [(2, 2), (3, 1), (4, 0)])
(.seq (.region [qo .mv [.const (.nils)]] [(5, 0)])
(.seq (.seq (.region [qo .mv [.env 1],
qo (.len false) [.loc 0],
qo .mv [.const (.int .i64 0)]] [(11, 2), (12, 1), (13, 0)])
(.block 0 (.loop (.seq (.region [qo (.bin .lss) [.env 13, .env 12]] [(14, 0)])
(.seq (.cond (.env 14) (.skip) (.exit 0))
(.seq (.block 1 (.seq (.region [qo (.iaddr 1) [.env 11, .env 13],
qo (.load 1 false) [.loc 0],
qo .mv [.loc 0]] [(6, 0)])
(.region [qo .mv [.env 5],
qo .mv [.env 6],
qo (.bin .shr) [.loc 0, .const (.int .u64 4)],
qo .mv [.env 6],
qo (.bin .and) [.loc 0, .const (.int .u8 15)],
qo (.bslice 5 1 2 [.int .u8 0] [0, 1] 2) [.loc 2, .loc 0],
qo (.append 5 1 1 2) [.loc 5, .loc 0],
qo .mv [.loc 0]] [(5, 0)])))
(.region [qo (.bin .add) [.env 13, .const (.int .i64 1)],
qo .mv [.loc 0]] [(13, 0)])))))))
(.seq (.region [qo .mv [.env 5],
qo .mv [.env 5],
qo (.len false) [.loc 0],
qo (.bin .sub) [.loc 0, .const (.int .i64 1)],
qo (.iaddr 1) [.loc 3, .loc 0],
qo (.load 1 false) [.loc 0],
qo .mv [.loc 0]] [(7, 0)])
(.seq (.region [qo .mv [.env 5],
qo .mv [.env 5],
qo (.len false) [.loc 0],
qo (.bin .sub) [.loc 0, .const (.int .i64 1)],
qo (.slice false 1 false true false) [.loc 3, .loc 0],
qo .mv [.loc 0]] [(5, 0)])
(.seq (.seq (.region [qo .mv [.env 5],
qo (.len false) [.loc 0],
qo .mv [.const (.int .i64 0)]] [(15, 1), (16, 0)])
(.block 2 (.loop (.seq (.region [qo (.bin .lss) [.env 16, .env 15]] [(17, 0)])
(.seq (.cond (.env 17) (.skip) (.exit 2))
(.seq (.block 3 (.seq (.region [qo .mv [.env 16],
qo .mv [.loc 0]] [(8, 0)])
(.seq (.seq (.region [qo .mv [.env 5],
qo .mv [.env 8],
qo (.iaddr 1) [.loc 1, .loc 0],
qo (.load 1 false) [.loc 0],
qo (.bin .gtr) [.loc 0, .const (.int .u8 9)]] [(18, 0)])
(.cond (.env 18) (.seq (.region [qo (.build [.bool false, .str ⟨#[]⟩] []) [],
qo (.store 2) [.env 3, .loc 0],
qo .mv [.const (.bool false)]] [(4, 0)])
(.ret)) (.skip)))
(.region [qo .mv [.env 5],
qo .mv [.env 8],
qo (.iaddr 1) [.loc 1, .loc 0],
qo (.load 1 false) [.loc 0],
qo (.bin .add) [.loc 0, .const (.int .u8 48)],
qo (.iaddr 1) [.loc 4, .loc 3],
qo (.store 1) [.loc 0, .loc 1]] []))))
(.region [qo (.bin .add) [.env 16, .const (.int .i64 1)],
qo .mv [.loc 0]] [(16, 0)])))))))
(.seq (.region [qo .mv [.env 7],
qo (.bin .eql) [.loc 0, .const (.int .u8 15)],
qo .mv [.loc 0]] [(9, 0)])
(.seq (.seq (.region [qo (.faddr 5) [.env 2],
qo (.load 1 false) [.loc 0]] [(19, 0)])
(.cond (.env 19) (.region [qo .mv [.env 7],
qo (.bin .eql) [.loc 0, .const (.int .u8 12)],
qo .mv [.loc 0],
qg .mv [.env 7] 0 false,
qg (.bin .eql) [.loc 0, .const (.int .u8 13)] 1 false,
qo .pick [.loc 2, .const (.bool true), .loc 0],
qo .mv [.loc 0]] [(9, 0)]) (.skip)))
(.seq (.region [qo .mv [.env 5],
qo (.len false) [.loc 0],
qo (.faddr 3) [.env 2],
qo (.load 1 false) [.loc 0],
qo (.bin .sub) [.loc 2, .loc 0],
qo .mv [.loc 0]] [(10, 0)])
(.seq (.drawn [qo .mv [.env 7],
qw (.bin .eql) [.loc 0, .const (.int .u8 13)] 1 1,
qw .mv [.env 5] 0 2,
qw .mv [.env 10] 0 3,
qw (.slice false 1 true false false) [.loc 1, .loc 0] 12 4,
qw .bstr [.loc 0] 28 5,
qw (.build [.bool false, .str ⟨#[]⟩] [(0, 1), (1, 1)]) [.loc 4, .loc 0] 63 6,
qw .mv [.env 9] 0 7,
qw .mv [.loc 0] 128 8,
qh .mv [.env 5] 0 true 384 9,
qh .mv [.env 10] 1 true 384 10,
qh (.slice false 1 false true false) [.loc 1, .loc 0] 2 true 1920 11,
qh .bstr [.loc 0] 3 true 3968 12,
qh (.call 148) [.loc 0, .const (.str ⟨#[48]⟩)] 4 true 8064 13,
qh (.bin .eql) [.loc 0, .const (.str ⟨#[]⟩)] 5 true 16256 14,
qw .pick [.loc 6, .loc 0, .const (.bool false)] 32640 15,
qw (.store 2) [.env 3, .loc 9] 16383 16,
qw .mv [.loc 1] 131071 17] [(4, 0)] [])
(.ret)))))))))),
[.cell 3 2 true, .tmp 4]⟩
theorem F164_low : lowFn Tryz.prog true [0, 1, 2, 4, 5, 6, 8, 9, 10, 11, 12, 13, 14, 15, 16, 39, 40, 41, 47, 59] Tryz.f164 = some F164 := by as_aux_lemma => kernel_rfl
def F166 : LFunc := ⟨[0, 1, 2, 4, 5, 6, 8, 9, 10, 11, 12, 13, 14, 31, 36, 45, 46, 47], 2,
.seq (.region [qo (.box 177 11) [.env 0],
qo (.alloc 143 [.bool false, .str ⟨#[]⟩]) [],
qo .mv [.const (.bool false)]] [(2, 2), (3, 1), (4, 0)])
(.seq (.region [qo .mv [.const (.int .u64 0)]] [(5, 0)])
(.seq (.seq (.region [qo .mv [.env 1],
qo (.len false) [.loc 0],
qo .mv [.const (.int .i64 0)]] [(9, 2), (10, 1), (11, 0)])
(.block 0 (.loop (.seq (.region [qo (.bin .lss) [.env 11, .env 10]] [(12, 0)])
(.seq (.cond (.env 12) (.skip) (.exit 0))
(.seq (.block 1 (.seq (.region [qo (.iaddr 1) [.env 9, .env 11],
qo (.load 1 false) [.loc 0],
qo .mv [.loc 0]] [(6, 0)])
(.region [qo .mv [.env 5],
qo (.bin .shl) [.loc 0, .const (.int .u64 8)],
qo .mv [.env 6],
qo (.conv .u64) [.loc 0],
qo (.bin .or) [.loc 2, .loc 0],
qo .mv [.loc 0]] [(5, 0)])))
(.region [qo (.bin .add) [.env 11, .const (.int .i64 1)],
qo .mv [.loc 0]] [(11, 0)])))))))
(.seq (.region [qo (.faddr 5) [.env 2],
qo (.load 1 false) [.loc 0],
qo .mv [.loc 0],
qg .mv [.env 1] 0 true,
qg (.iaddr 1) [.loc 0, .const (.int .i64 0)] 1 true,
qg (.load 1 false) [.loc 0] 2 true,
qg (.bin .geq) [.loc 0, .const (.int .u8 128)] 3 true,
qo .pick [.loc 4, .loc 0, .const (.bool false)],
qo .mv [.loc 0]] [(7, 0)])
(.seq (.seq (.region [qo .mv [.env 7]] [(13, 0)])
(.cond (.env 13) (.seq (.region [qo .mv [.env 5],
qo (.un .neg) [.loc 0],
qo .mv [.loc 0]] [(5, 0)])
(.seq (.region [qo .mv [.env 1],
qo (.len false) [.loc 0],
qo (.bin .lss) [.loc 0, .const (.int .i64 8)]] [(14, 0)])
(.cond (.env 14) (.region [qo .mv [.env 5],
qo .mv [.env 1],
qo (.len false) [.loc 0],
qo (.bin .mul) [.const (.int .i64 8), .loc 0],
qo (.bin .shl) [.const (.int .u64 1), .loc 0],
qo (.bin .sub) [.loc 0, .const (.int .u64 1)],
qo (.bin .and) [.loc 5, .loc 0],
qo .mv [.loc 0]] [(5, 0)]) (.skip)))) (.skip)))
(.seq (.region [qo .mv [.const (.str ⟨#[]⟩)]] [(8, 0)])
(.seq (.seq (.region [qo (.faddr 3) [.env 2],
qo (.load 1 false) [.loc 0],
qo .mv [.const (.int .i64 0)]] [(15, 1), (16, 0)])
(.block 2 (.loop (.seq (.region [qo (.bin .lss) [.env 16, .env 15]] [(17, 0)])
(.seq (.cond (.env 17) (.skip) (.exit 2))
(.seq (.block 3 (.seq (.region [qo .mv [.env 5],
qo (.bin .rem) [.loc 0, .const (.int .u64 10)],
qo .mv [.env 5],
qo (.bin .rem) [.loc 0, .const (.int .u64 10)],
qo (.bin .add) [.loc 0, .const (.int .u64 1)],
qo (.slice true 0 true true false) [.const (.str ⟨#[48, 49, 50, 51, 52, 53, 54, 55, 56, 57]⟩), .loc 3, .loc 0],
qo .mv [.env 8],
qo (.bin .add) [.loc 1, .loc 0],
qo .mv [.loc 0]] [(8, 0)])
(.region [qo .mv [.env 5],
qo (.bin .quo) [.loc 0, .const (.int .u64 10)],
qo .mv [.loc 0]] [(5, 0)])))
(.region [qo (.bin .add) [.env 16, .const (.int .i64 1)],
qo .mv [.loc 0]] [(16, 0)])))))))
(.seq (.region [qo .mv [.env 7],
qo .mv [.env 8],
qo (.build [.bool false, .str ⟨#[]⟩] [(0, 1), (1, 1)]) [.loc 1, .loc 0],
qo .mv [.env 5],
qo (.bin .eql) [.loc 0, .const (.int .u64 0)],
qo (.store 2) [.env 3, .loc 2],
qo .mv [.loc 1]] [(4, 0)])
(.ret)))))))),
[.cell 3 2 true, .tmp 4]⟩
theorem F166_low : lowFn Tryz.prog false [0, 1, 2, 4, 5, 6, 8, 9, 10, 11, 12, 13, 14, 31, 36, 45, 46, 47] Tryz.f166 = some F166 := by as_aux_lemma => kernel_rfl
def F174 : LFunc := ⟨[0, 1, 2, 4], 1,
.seq (.region [qo (.box 177 11) [.env 0],
qo .mv [.const (.int .i64 0)]] [(1, 1), (2, 0)])
(.seq (.seq (.region [qo (.faddr 6) [.env 1],
qo (.load 1 false) [.loc 0]] [(3, 0)])
(.cond (.env 3) (.seq (.region [qo .mv [.const (.int .i64 0)]] [(2, 0)])
(.ret)) (.skip)))
(.seq (.region [qo (.faddr 3) [.env 1],
qo (.load 1 false) [.loc 0],
qo (.bin .sub) [.loc 0, .const (.int .i64 1)],
qo .mv [.loc 0]] [(2, 0)])
(.ret))),
[.tmp 2]⟩
theorem F174_low : lowFn Tryz.prog false [0, 1, 2, 4] Tryz.f174 = some F174 := by as_aux_lemma => kernel_rfl
end Go.Proofs.YtabgobmeibjeeaaGreatDoor

namespace Go.Proofs.YtabgobmeibjeeaaGreatDoor
set_option maxRecDepth 100000
set_option maxHeartbeats 4000000
set_option linter.unusedVariables false

def fnOf : FuncId → Option LFunc
  | 3 => some F3
  | 4 => some F4
  | 5 => some F5
  | 6 => some F6
  | 7 => some F7
  | 8 => some F8
  | 9 => some F9
  | 10 => some F10
  | 11 => some F11
  | 12 => some F12
  | 13 => some F13
  | 14 => some F14
  | 15 => some F15
  | 16 => some F16
  | 17 => some F17
  | 18 => some F18
  | 19 => some F19
  | 20 => some F20
  | 21 => some F21
  | 22 => some F22
  | 23 => some F23
  | 24 => some F24
  | 25 => some F25
  | 26 => some F26
  | 27 => some F27
  | 28 => some F28
  | 29 => some F29
  | 30 => some F30
  | 31 => some F31
  | 32 => some F32
  | 33 => some F33
  | 34 => some F34
  | 35 => some F35
  | 36 => some F36
  | 38 => some F38
  | 39 => some F39
  | 40 => some F40
  | 41 => some F41
  | 42 => some F42
  | 43 => some F43
  | 44 => some F44
  | 45 => some F45
  | 46 => some F46
  | 47 => some F47
  | 48 => some F48
  | 49 => some F49
  | 50 => some F50
  | 51 => some F51
  | 52 => some F52
  | 53 => some F53
  | 54 => some F54
  | 55 => some F55
  | 56 => some F56
  | 57 => some F57
  | 58 => some F58
  | 59 => some F59
  | 60 => some F60
  | 61 => some F61
  | 62 => some F62
  | 63 => some F63
  | 64 => some F64
  | 78 => some F78
  | 79 => some F79
  | 80 => some F80
  | 81 => some F81
  | 82 => some F82
  | 83 => some F83
  | 84 => some F84
  | 85 => some F85
  | 86 => some F86
  | 87 => some F87
  | 88 => some F88
  | 90 => some F90
  | 91 => some F91
  | 92 => some F92
  | 93 => some F93
  | 96 => some F96
  | 97 => some F97
  | 98 => some F98
  | 99 => some F99
  | 100 => some F100
  | 101 => some F101
  | 105 => some F105
  | 113 => some F113
  | 116 => some F116
  | 117 => some F117
  | 118 => some F118
  | 119 => some F119
  | 120 => some F120
  | 121 => some F121
  | 122 => some F122
  | 123 => some F123
  | 124 => some F124
  | 125 => some F125
  | 126 => some F126
  | 127 => some F127
  | 130 => some F130
  | 132 => some F132
  | 133 => some F133
  | 135 => some F135
  | 136 => some F136
  | 145 => some F145
  | 146 => some F146
  | 147 => some F147
  | 148 => some F148
  | 160 => some F160
  | 161 => some F161
  | 162 => some F162
  | 164 => some F164
  | 166 => some F166
  | 174 => some F174
  | _ => none
def LP : Prg := ⟨fnOf, fun f => f == 48 || f == 79 || f == 118 || f == 119 || f == 146 || f == 161, fun f => !(f == 22 || f == 55 || f == 56)⟩
theorem LP_ok : PrgOK Tryz.prog LP := by
  intro f F h
  have h' : fnOf f = some F := h
  unfold fnOf at h'
  split at h'
  · injection h' with h'; subst h'; exact ⟨Tryz.f3, _, _, Tryz.func3, F3_low⟩
  · injection h' with h'; subst h'; exact ⟨Tryz.f4, _, _, Tryz.func4, F4_low⟩
  · injection h' with h'; subst h'; exact ⟨Tryz.f5, _, _, Tryz.func5, F5_low⟩
  · injection h' with h'; subst h'; exact ⟨Tryz.f6, _, _, Tryz.func6, F6_low⟩
  · injection h' with h'; subst h'; exact ⟨Tryz.f7, _, _, Tryz.func7, F7_low⟩
  · injection h' with h'; subst h'; exact ⟨Tryz.f8, _, _, Tryz.func8, F8_low⟩
  · injection h' with h'; subst h'; exact ⟨Tryz.f9, _, _, Tryz.func9, F9_low⟩
  · injection h' with h'; subst h'; exact ⟨Tryz.f10, _, _, Tryz.func10, F10_low⟩
  · injection h' with h'; subst h'; exact ⟨Tryz.f11, _, _, Tryz.func11, F11_low⟩
  · injection h' with h'; subst h'; exact ⟨Tryz.f12, _, _, Tryz.func12, F12_low⟩
  · injection h' with h'; subst h'; exact ⟨Tryz.f13, _, _, Tryz.func13, F13_low⟩
  · injection h' with h'; subst h'; exact ⟨Tryz.f14, _, _, Tryz.func14, F14_low⟩
  · injection h' with h'; subst h'; exact ⟨Tryz.f15, _, _, Tryz.func15, F15_low⟩
  · injection h' with h'; subst h'; exact ⟨Tryz.f16, _, _, Tryz.func16, F16_low⟩
  · injection h' with h'; subst h'; exact ⟨Tryz.f17, _, _, Tryz.func17, F17_low⟩
  · injection h' with h'; subst h'; exact ⟨Tryz.f18, _, _, Tryz.func18, F18_low⟩
  · injection h' with h'; subst h'; exact ⟨Tryz.f19, _, _, Tryz.func19, F19_low⟩
  · injection h' with h'; subst h'; exact ⟨Tryz.f20, _, _, Tryz.func20, F20_low⟩
  · injection h' with h'; subst h'; exact ⟨Tryz.f21, _, _, Tryz.func21, F21_low⟩
  · injection h' with h'; subst h'; exact ⟨Tryz.f22, _, _, Tryz.func22, F22_low⟩
  · injection h' with h'; subst h'; exact ⟨Tryz.f23, _, _, Tryz.func23, F23_low⟩
  · injection h' with h'; subst h'; exact ⟨Tryz.f24, _, _, Tryz.func24, F24_low⟩
  · injection h' with h'; subst h'; exact ⟨Tryz.f25, _, _, Tryz.func25, F25_low⟩
  · injection h' with h'; subst h'; exact ⟨Tryz.f26, _, _, Tryz.func26, F26_low⟩
  · injection h' with h'; subst h'; exact ⟨Tryz.f27, _, _, Tryz.func27, F27_low⟩
  · injection h' with h'; subst h'; exact ⟨Tryz.f28, _, _, Tryz.func28, F28_low⟩
  · injection h' with h'; subst h'; exact ⟨Tryz.f29, _, _, Tryz.func29, F29_low⟩
  · injection h' with h'; subst h'; exact ⟨Tryz.f30, _, _, Tryz.func30, F30_low⟩
  · injection h' with h'; subst h'; exact ⟨Tryz.f31, _, _, Tryz.func31, F31_low⟩
  · injection h' with h'; subst h'; exact ⟨Tryz.f32, _, _, Tryz.func32, F32_low⟩
  · injection h' with h'; subst h'; exact ⟨Tryz.f33, _, _, Tryz.func33, F33_low⟩
  · injection h' with h'; subst h'; exact ⟨Tryz.f34, _, _, Tryz.func34, F34_low⟩
  · injection h' with h'; subst h'; exact ⟨Tryz.f35, _, _, Tryz.func35, F35_low⟩
  · injection h' with h'; subst h'; exact ⟨Tryz.f36, _, _, Tryz.func36, F36_low⟩
  · injection h' with h'; subst h'; exact ⟨Tryz.f38, _, _, Tryz.func38, F38_low⟩
  · injection h' with h'; subst h'; exact ⟨Tryz.f39, _, _, Tryz.func39, F39_low⟩
  · injection h' with h'; subst h'; exact ⟨Tryz.f40, _, _, Tryz.func40, F40_low⟩
  · injection h' with h'; subst h'; exact ⟨Tryz.f41, _, _, Tryz.func41, F41_low⟩
  · injection h' with h'; subst h'; exact ⟨Tryz.f42, _, _, Tryz.func42, F42_low⟩
  · injection h' with h'; subst h'; exact ⟨Tryz.f43, _, _, Tryz.func43, F43_low⟩
  · injection h' with h'; subst h'; exact ⟨Tryz.f44, _, _, Tryz.func44, F44_low⟩
  · injection h' with h'; subst h'; exact ⟨Tryz.f45, _, _, Tryz.func45, F45_low⟩
  · injection h' with h'; subst h'; exact ⟨Tryz.f46, _, _, Tryz.func46, F46_low⟩
  · injection h' with h'; subst h'; exact ⟨Tryz.f47, _, _, Tryz.func47, F47_low⟩
  · injection h' with h'; subst h'; exact ⟨Tryz.f48, _, _, Tryz.func48, F48_low⟩
  · injection h' with h'; subst h'; exact ⟨Tryz.f49, _, _, Tryz.func49, F49_low⟩
  · injection h' with h'; subst h'; exact ⟨Tryz.f50, _, _, Tryz.func50, F50_low⟩
  · injection h' with h'; subst h'; exact ⟨Tryz.f51, _, _, Tryz.func51, F51_low⟩
  · injection h' with h'; subst h'; exact ⟨Tryz.f52, _, _, Tryz.func52, F52_low⟩
  · injection h' with h'; subst h'; exact ⟨Tryz.f53, _, _, Tryz.func53, F53_low⟩
  · injection h' with h'; subst h'; exact ⟨Tryz.f54, _, _, Tryz.func54, F54_low⟩
  · injection h' with h'; subst h'; exact ⟨Tryz.f55, _, _, Tryz.func55, F55_low⟩
  · injection h' with h'; subst h'; exact ⟨Tryz.f56, _, _, Tryz.func56, F56_low⟩
  · injection h' with h'; subst h'; exact ⟨Tryz.f57, _, _, Tryz.func57, F57_low⟩
  · injection h' with h'; subst h'; exact ⟨Tryz.f58, _, _, Tryz.func58, F58_low⟩
  · injection h' with h'; subst h'; exact ⟨Tryz.f59, _, _, Tryz.func59, F59_low⟩
  · injection h' with h'; subst h'; exact ⟨Tryz.f60, _, _, Tryz.func60, F60_low⟩
  · injection h' with h'; subst h'; exact ⟨Tryz.f61, _, _, Tryz.func61, F61_low⟩
  · injection h' with h'; subst h'; exact ⟨Tryz.f62, _, _, Tryz.func62, F62_low⟩
  · injection h' with h'; subst h'; exact ⟨Tryz.f63, _, _, Tryz.func63, F63_low⟩
  · injection h' with h'; subst h'; exact ⟨Tryz.f64, _, _, Tryz.func64, F64_low⟩
  · injection h' with h'; subst h'; exact ⟨Tryz.f78, _, _, Tryz.func78, F78_low⟩
  · injection h' with h'; subst h'; exact ⟨Tryz.f79, _, _, Tryz.func79, F79_low⟩
  · injection h' with h'; subst h'; exact ⟨Tryz.f80, _, _, Tryz.func80, F80_low⟩
  · injection h' with h'; subst h'; exact ⟨Tryz.f81, _, _, Tryz.func81, F81_low⟩
  · injection h' with h'; subst h'; exact ⟨Tryz.f82, _, _, Tryz.func82, F82_low⟩
  · injection h' with h'; subst h'; exact ⟨Tryz.f83, _, _, Tryz.func83, F83_low⟩
  · injection h' with h'; subst h'; exact ⟨Tryz.f84, _, _, Tryz.func84, F84_low⟩
  · injection h' with h'; subst h'; exact ⟨Tryz.f85, _, _, Tryz.func85, F85_low⟩
  · injection h' with h'; subst h'; exact ⟨Tryz.f86, _, _, Tryz.func86, F86_low⟩
  · injection h' with h'; subst h'; exact ⟨Tryz.f87, _, _, Tryz.func87, F87_low⟩
  · injection h' with h'; subst h'; exact ⟨Tryz.f88, _, _, Tryz.func88, F88_low⟩
  · injection h' with h'; subst h'; exact ⟨Tryz.f90, _, _, Tryz.func90, F90_low⟩
  · injection h' with h'; subst h'; exact ⟨Tryz.f91, _, _, Tryz.func91, F91_low⟩
  · injection h' with h'; subst h'; exact ⟨Tryz.f92, _, _, Tryz.func92, F92_low⟩
  · injection h' with h'; subst h'; exact ⟨Tryz.f93, _, _, Tryz.func93, F93_low⟩
  · injection h' with h'; subst h'; exact ⟨Tryz.f96, _, _, Tryz.func96, F96_low⟩
  · injection h' with h'; subst h'; exact ⟨Tryz.f97, _, _, Tryz.func97, F97_low⟩
  · injection h' with h'; subst h'; exact ⟨Tryz.f98, _, _, Tryz.func98, F98_low⟩
  · injection h' with h'; subst h'; exact ⟨Tryz.f99, _, _, Tryz.func99, F99_low⟩
  · injection h' with h'; subst h'; exact ⟨Tryz.f100, _, _, Tryz.func100, F100_low⟩
  · injection h' with h'; subst h'; exact ⟨Tryz.f101, _, _, Tryz.func101, F101_low⟩
  · injection h' with h'; subst h'; exact ⟨Tryz.f105, _, _, Tryz.func105, F105_low⟩
  · injection h' with h'; subst h'; exact ⟨Tryz.f113, _, _, Tryz.func113, F113_low⟩
  · injection h' with h'; subst h'; exact ⟨Tryz.f116, _, _, Tryz.func116, F116_low⟩
  · injection h' with h'; subst h'; exact ⟨Tryz.f117, _, _, Tryz.func117, F117_low⟩
  · injection h' with h'; subst h'; exact ⟨Tryz.f118, _, _, Tryz.func118, F118_low⟩
  · injection h' with h'; subst h'; exact ⟨Tryz.f119, _, _, Tryz.func119, F119_low⟩
  · injection h' with h'; subst h'; exact ⟨Tryz.f120, _, _, Tryz.func120, F120_low⟩
  · injection h' with h'; subst h'; exact ⟨Tryz.f121, _, _, Tryz.func121, F121_low⟩
  · injection h' with h'; subst h'; exact ⟨Tryz.f122, _, _, Tryz.func122, F122_low⟩
  · injection h' with h'; subst h'; exact ⟨Tryz.f123, _, _, Tryz.func123, F123_low⟩
  · injection h' with h'; subst h'; exact ⟨Tryz.f124, _, _, Tryz.func124, F124_low⟩
  · injection h' with h'; subst h'; exact ⟨Tryz.f125, _, _, Tryz.func125, F125_low⟩
  · injection h' with h'; subst h'; exact ⟨Tryz.f126, _, _, Tryz.func126, F126_low⟩
  · injection h' with h'; subst h'; exact ⟨Tryz.f127, _, _, Tryz.func127, F127_low⟩
  · injection h' with h'; subst h'; exact ⟨Tryz.f130, _, _, Tryz.func130, F130_low⟩
  · injection h' with h'; subst h'; exact ⟨Tryz.f132, _, _, Tryz.func132, F132_low⟩
  · injection h' with h'; subst h'; exact ⟨Tryz.f133, _, _, Tryz.func133, F133_low⟩
  · injection h' with h'; subst h'; exact ⟨Tryz.f135, _, _, Tryz.func135, F135_low⟩
  · injection h' with h'; subst h'; exact ⟨Tryz.f136, _, _, Tryz.func136, F136_low⟩
  · injection h' with h'; subst h'; exact ⟨Tryz.f145, _, _, Tryz.func145, F145_low⟩
  · injection h' with h'; subst h'; exact ⟨Tryz.f146, _, _, Tryz.func146, F146_low⟩
  · injection h' with h'; subst h'; exact ⟨Tryz.f147, _, _, Tryz.func147, F147_low⟩
  · injection h' with h'; subst h'; exact ⟨Tryz.f148, _, _, Tryz.func148, F148_low⟩
  · injection h' with h'; subst h'; exact ⟨Tryz.f160, _, _, Tryz.func160, F160_low⟩
  · injection h' with h'; subst h'; exact ⟨Tryz.f161, _, _, Tryz.func161, F161_low⟩
  · injection h' with h'; subst h'; exact ⟨Tryz.f162, _, _, Tryz.func162, F162_low⟩
  · injection h' with h'; subst h'; exact ⟨Tryz.f164, _, _, Tryz.func164, F164_low⟩
  · injection h' with h'; subst h'; exact ⟨Tryz.f166, _, _, Tryz.func166, F166_low⟩
  · injection h' with h'; subst h'; exact ⟨Tryz.f174, _, _, Tryz.func174, F174_low⟩
  · simp at h'
theorem mixed : Tryz.prog.follows .mixedOrders = true := by kernel_rfl
end Go.Proofs.YtabgobmeibjeeaaGreatDoor

namespace Go.Proofs.YtabgobmeibjeeaaGreatDoor
set_option linter.unusedVariables false
set_option linter.unusedSimpArgs false

/-- a string of these bytes -/
def mkS (l : List UInt8) : ByteArray := ⟨l.toArray⟩
theorem mkS_size (l : List UInt8) : (mkS l).size = l.length := by simp [mkS, ByteArray.size]
theorem size_data (b : ByteArray) : b.size = b.data.toList.length := rfl
theorem toList_go (b : ByteArray) : ∀ (k i : Nat) (r : List UInt8), b.size - i = k → ByteArray.toList.loop b i r = r.reverse ++ b.data.toList.drop i
  | 0, i, r, h => by
    rw [ByteArray.toList.loop, if_neg (by omega), List.drop_eq_nil_of_le (by rw [size_data] at h; omega)]
    simp
  | k + 1, i, r, h => by
    rw [ByteArray.toList.loop, if_pos (by omega), toList_go b k (i + 1) _ (by omega)]
    have hi : i < b.data.toList.length := by rw [size_data] at h; omega
    rw [List.drop_eq_getElem_cons hi]
    have hi2 : i < b.data.size := hi
    simp [ByteArray.get!, getElem!_pos b.data i hi2]
theorem mkS_toList (l : List UInt8) : (mkS l).toList = l := by
  have := toList_go (mkS l) _ 0 [] rfl
  simpa [ByteArray.toList, mkS] using this
theorem mkS_app (a b : List UInt8) : mkS a ++ mkS b = mkS (a ++ b) := by
  apply ByteArray.ext
  simp [mkS, ByteArray.data_append]
theorem mkS_extract (l : List UInt8) (a b : Nat) : (mkS l).extract a b = mkS ((l.drop a).take (b - a)) := by
  apply ByteArray.ext
  apply Array.ext'
  simp only [mkS, ByteArray.data_extract, List.extract_toArray, List.extract_eq_take_drop]
theorem mkS_get (l : List UInt8) (i : Nat) : (mkS l)[i]? = l[i]? := by
  by_cases h : i < l.length
  · rw [getElem?_pos (mkS l) i (by rw [mkS_size]; exact h), getElem?_pos l i h]
    simp [mkS, ByteArray.getElem_eq_getElem_data]
  · rw [getElem?_neg (mkS l) i (by rw [mkS_size]; exact h), getElem?_neg l i h]
theorem mkS_nil : (⟨#[]⟩ : ByteArray) = mkS [] := rfl
theorem nil_toList : (⟨#[]⟩ : ByteArray).toList = [] := mkS_toList []
theorem mkS_all (s : ByteArray) : ∃ l, s = mkS l ∧ l.length = s.size := ⟨s.data.toList, by simp [mkS], rfl⟩

/-- rows of these bytes -/
def bR (l : List UInt8) : List (List D) := l.map fun b => [.int .u8 b.toNat]
theorem bR_len (l : List UInt8) : (bR l).length = l.length := by simp [bR]
theorem bR_at {l : List UInt8} {i : Nat} {b : UInt8} (h : l[i]? = some b) : (bR l)[i]? = some [.int .u8 b.toNat] := by simp [bR, h]
theorem bR_sub (l : List UInt8) (a n : Nat) : ((bR l).drop a).take n = bR ((l.drop a).take n) := by simp [bR, List.map_drop, List.map_take]
theorem bytesOf_bR : ∀ l : List UInt8, bytesOf (bR l) = some l
  | [] => rfl
  | b :: l => by
    have := bytesOf_bR l
    simp only [bR, List.map_cons] at this ⊢
    simp only [bytesOf, this, Option.map_some, Int.toNat_natCast, UInt8.ofNat_toNat]

/-! digits -/
def isDig (c : UInt8) : Bool := decide (48 ≤ c.toNat) && decide (c.toNat ≤ 57)
def digTab : List D := (List.range 256).map fun i => .bool (decide (48 ≤ i) && decide (i ≤ 57))
theorem digTab_at (c : UInt8) : digTab[c.toNat]? = some (.bool (isDig c)) := by
  have : c.toNat < 256 := c.toNat_lt
  simp [digTab, isDig, this]
/-- without the digits at the end -/
def rtrim (l : List UInt8) : List UInt8 := (l.reverse.dropWhile isDig).reverse
def trimD (l : List UInt8) : List UInt8 := (rtrim l).dropWhile isDig
theorem rtrim_snoc (l : List UInt8) (c : UInt8) : rtrim (l ++ [c]) = if isDig c then rtrim l else l ++ [c] := by
  simp only [rtrim, List.reverse_append, List.reverse_cons, List.reverse_nil, List.nil_append, List.singleton_append, List.dropWhile_cons]
  split <;> simp
theorem dropWhile_all {α : Type} {p : α → Bool} : ∀ {l : List α}, l.dropWhile p = [] ↔ l.all p = true
  | [] => by simp
  | a :: l => by
    rw [List.dropWhile_cons]
    by_cases h : p a = true
    · simp [h, dropWhile_all (l := l)]
    · simp [h]
theorem trimD_nil (l : List UInt8) : (trimD l == []) = l.all isDig := by
  rw [Bool.eq_iff_iff]
  simp only [beq_iff_eq, trimD]
  rw [dropWhile_all]
  constructor
  · intro h
    have h2 : ∀ c ∈ l.reverse.dropWhile isDig, isDig c = true := by
      intro c hc
      exact List.all_eq_true.1 h c (by simpa [rtrim] using hc)
    have h3 : l.reverse.dropWhile isDig = [] := by
      cases e : l.reverse.dropWhile isDig with
      | nil => rfl
      | cons a r =>
        have h4 := List.head?_dropWhile_not isDig l.reverse
        rw [e] at h4 h2
        simp only [List.head?_cons] at h4
        rw [h2 a List.mem_cons_self] at h4
        simp at h4
    rw [dropWhile_all] at h3
    simpa using h3
  · intro h
    have : l.reverse.dropWhile isDig = [] := by rw [dropWhile_all]; simpa using h
    simp [rtrim, this]
/-- without the zeros in front; 0 if nothing is left -/
def strip0 (l : List UInt8) : List UInt8 := l.dropWhile (· == 48)
def strip (l : List UInt8) : List UInt8 := if strip0 l = [] then [48] else strip0 l
def nz (l : List UInt8) : Bool := strip0 l != []
theorem strip0_strip0 (l : List UInt8) : strip0 (strip0 l) = strip0 l := by
  unfold strip0
  cases e : l.dropWhile (· == 48) with
  | nil => rfl
  | cons a r =>
    have h4 := List.head?_dropWhile_not (fun x : UInt8 => x == 48) l
    rw [e] at h4
    simp only [List.head?_cons] at h4
    rw [List.dropWhile_cons, if_neg (by simpa using h4)]
theorem strip_idem (l : List UInt8) : strip (strip l) = strip l := by
  unfold strip
  by_cases h : strip0 l = []
  · rw [if_pos h]; rfl
  · rw [if_neg h, strip0_strip0, if_neg h]
theorem strip0_suffix (l : List UInt8) : ∃ k, l = List.replicate k 48 ++ strip0 l := by
  induction l with
  | nil => exact ⟨0, rfl⟩
  | cons a l ih =>
    unfold strip0 at ih ⊢
    rw [List.dropWhile_cons]
    by_cases h : (a == 48) = true
    · obtain ⟨k, hk⟩ := ih
      rw [if_pos h]
      have : a = 48 := by simpa using h
      refine ⟨k + 1, ?_⟩
      rw [List.replicate_succ, List.cons_append, ← hk, this]
    · rw [if_neg h]; exact ⟨0, rfl⟩
theorem strip_len (l : List UInt8) (h : l ≠ []) : (strip l).length ≤ l.length ∧ 0 < (strip l).length := by
  unfold strip
  obtain ⟨k, hk⟩ := strip0_suffix l
  have hl := congrArg List.length hk
  simp at hl
  have : 0 < l.length := List.length_pos_iff.2 h
  split
  · simp; omega
  · rename_i h0
    have := List.length_pos_iff.2 h0
    omega
theorem strip_dig (l : List UInt8) (h : l.all isDig = true) : (strip l).all isDig = true := by
  unfold strip
  split
  · rfl
  · obtain ⟨k, hk⟩ := strip0_suffix l
    rw [hk, List.all_append, Bool.and_eq_true] at h
    exact h.2
/-- zeros in front, to n -/
def pad (n : Nat) (l : List UInt8) : List UInt8 := List.replicate (n - l.length) 48 ++ l
theorem pad_strip (l : List UInt8) (n : Nat) (h : l ≠ []) (h1 : (strip l).length ≤ n) (h2 : n ≤ l.length) : l = List.replicate (l.length - n) 48 ++ pad n (strip l) := by
  obtain ⟨k, hk⟩ := strip0_suffix l
  have hl := congrArg List.length hk
  simp at hl
  unfold strip at h1 ⊢
  unfold pad
  by_cases h0 : strip0 l = []
  · rw [if_pos h0] at h1 ⊢
    rw [h0, List.append_nil] at hk
    rw [h0] at hl
    simp at hl h1
    rw [← List.append_assoc, List.replicate_append_replicate, show ([48] : List UInt8) = List.replicate 1 48 from rfl, List.replicate_append_replicate]
    simp only [List.length_replicate]
    rw [show l.length - n + (n - 1) + 1 = k by omega]
    exact hk
  · rw [if_neg h0] at h1 ⊢
    rw [← List.append_assoc, List.replicate_append_replicate]
    rw [show l.length - n + (n - (strip0 l).length) = k by omega]
    exact hk
/-- the order of byte strings -/
def cmpL (a b : List UInt8) : Int := if Op.bytesLess a b then -1 else if Op.bytesLess a b || a == b then 0 else 1
theorem cmpL_cons (c : UInt8) (a b : List UInt8) : cmpL (c :: a) (c :: b) = cmpL a b := by
  have : Op.bytesLess (c :: a) (c :: b) = Op.bytesLess a b := by simp [Op.bytesLess]
  simp [cmpL, this]
theorem cmpL_app (p a b : List UInt8) : cmpL (p ++ a) (p ++ b) = cmpL a b := by
  induction p with
  | nil => rfl
  | cons c p ih => rw [List.cons_append, List.cons_append, cmpL_cons, ih]
theorem cmpL_pad (a b : List UInt8) (h : a.length = b.length) (ha : a ≠ []) : cmpL (pad (max (strip a).length (strip b).length) (strip a)) (pad (max (strip a).length (strip b).length) (strip b)) = cmpL a b := by
  have hb : b ≠ [] := by intro e; subst e; simp at h; exact ha h
  obtain ⟨a1, a2⟩ := strip_len a ha
  obtain ⟨b1, b2⟩ := strip_len b hb
  have e1 := pad_strip a (max (strip a).length (strip b).length) ha (by omega) (by omega)
  have e2 := pad_strip b (max (strip a).length (strip b).length) hb (by omega) (by omega)
  generalize max (strip a).length (strip b).length = m at e1 e2 ⊢
  generalize pad m (strip a) = x at e1 ⊢
  generalize pad m (strip b) = y at e2 ⊢
  rw [h] at e1
  generalize List.replicate (b.length - m) (48 : UInt8) = p at e1 e2
  rw [e1, e2, cmpL_app]
end Go.Proofs.YtabgobmeibjeeaaGreatDoor

namespace Go.Proofs.YtabgobmeibjeeaaGreatDoor
set_option linter.unusedSimpArgs false
set_option linter.unusedVariables false
set_option maxRecDepth 10000

theorem str_from (z : Nat) (l : List UInt8) (k : Nat) (i : Int) (hi : i = k) (h : k ≤ l.length) : pop (.slice true z true false false) [.str (mkS l), .int .i64 i] = some (.str (mkS (l.drop k))) := by
 subst hi
 simp only [pop, sliceArgs, boundsD, natOr, natOf, mkS_size]
 rw [if_pos (by omega)]
 simp only [Int.toNat_natCast]
 rw [if_pos ⟨h, Nat.le_refl _⟩]
 simp only [Option.map_some, mkS_extract]
 rw [List.take_of_length_le (by simp)]
theorem str_to (z : Nat) (l : List UInt8) (k : Nat) (i : Int) (hi : i = k) (h : k ≤ l.length) : pop (.slice true z false true false) [.str (mkS l), .int .i64 i] = some (.str (mkS (l.take k))) := by
 subst hi
 simp only [pop, sliceArgs, boundsD, natOr, natOf, mkS_size]
 rw [if_pos (by omega)]
 simp only [Int.toNat_natCast]
 rw [if_pos ⟨Nat.zero_le _, h⟩]
 simp only [Option.map_some, mkS_extract, List.drop_zero, Nat.sub_zero]
theorem str_mid (z : Nat) (l : List UInt8) (a b : Nat) (i j : Int) (hi : i = a) (hj : j = b) (h : a ≤ b) (h' : b ≤ l.length) : pop (.slice true z true true false) [.str (mkS l), .int .i64 i, .int .i64 j] = some (.str (mkS ((l.drop a).take (b - a)))) := by
 subst hi hj
 simp only [pop, sliceArgs, boundsD, natOr, natOf, mkS_size]
 rw [if_pos (by omega), if_pos (by omega)]
 simp only [Int.toNat_natCast]
 rw [if_pos ⟨h, h'⟩]
 simp only [Option.map_some, mkS_extract]
theorem eqNil (l : List UInt8) : (l == []) = true ↔ l = [] := by simp

theorem nan126_run {d : Nat} (hd : 1 ≤ d) (S : St) (x : Int) : runF LP NN d 126 [.int .u8 x] S = some (.bool false, S, false) := by
 refine run_pure (F := F126) rfl (by simp only [LP, fnOf, snapVs, snaps, zs, Bool.false_eq_true, if_false, Option.map_some, List.map_cons, List.map_nil] <;> exact rfl) rfl (by simp only [LP, zf, List.all_cons, List.all_nil, Bool.and_true, Bool.true_and]; try rfl) (by simp only [F126, zv] <;> exact rfl) (by omega) ?_
 rintro d rfl
 refine cw_seq (cw_region ?_)
 refine ow_mc ?_
 refine ow_nil ?_
 refine sk_n (by simp only [ze] <;> exact rfl) ?_
 refine cw_seq (cw_region ?_)
 refine ow_me rfl ?_
 refine ow_me rfl ?_
 refine ow_op (by simp only [zo, binD, zb, Int.reduceEq, Int.reduceToNat, Int.reduceLT, bne_self_eq_false, beq_self_eq_true, Bool.not_true] <;> exact rfl) ?_
 refine ow_ml rfl ?_
 refine ow_nil ?_
 refine sk_n (by simp only [ze] <;> exact rfl) ?_
 refine cw_ret ?_
 refine ⟨_, by simp only [F126, resultD, resDs, resD, List.getD_cons_zero, List.getD_cons_succ, zd, rowsOf, partD, List.getElem?_cons_zero, List.getElem?_cons_succ, if_true, if_false, Bool.false_eq_true, List.take, List.drop, zm] <;> exact rfl, ?_⟩
 rfl

theorem nan125_run {d : Nat} (hd : 1 ≤ d) (S : St) (x : ByteArray) : runF LP NN d 125 [.str x] S = some (.bool false, S, false) := by
 refine run_pure (F := F125) rfl (by simp only [LP, fnOf, snapVs, snaps, zs, Bool.false_eq_true, if_false, Option.map_some, List.map_cons, List.map_nil] <;> exact rfl) rfl (by simp only [LP, zf, List.all_cons, List.all_nil, Bool.and_true, Bool.true_and]; try rfl) (by simp only [F125, zv] <;> exact rfl) (by omega) ?_
 rintro d rfl
 refine cw_seq (cw_region ?_)
 refine ow_mc ?_
 refine ow_nil ?_
 refine sk_n (by simp only [ze] <;> exact rfl) ?_
 refine cw_seq (cw_region ?_)
 refine ow_me rfl ?_
 refine ow_me rfl ?_
 refine ow_op (by simp only [zo, binD, zb, Int.reduceEq, Int.reduceToNat, Int.reduceLT, bne_self_eq_false, beq_self_eq_true, Bool.not_true] <;> exact rfl) ?_
 refine ow_ml rfl ?_
 refine ow_nil ?_
 refine sk_n (by simp only [ze] <;> exact rfl) ?_
 refine cw_ret ?_
 refine ⟨_, by simp only [F125, resultD, resDs, resD, List.getD_cons_zero, List.getD_cons_succ, zd, rowsOf, partD, List.getElem?_cons_zero, List.getElem?_cons_succ, if_true, if_false, Bool.false_eq_true, List.take, List.drop, zm] <;> exact rfl, ?_⟩
 rfl

def cmpI (a b : Int) : Int := if a < b then -1 else if a > b then 1 else 0
theorem cmpB_run {d : Nat} (hd : 2 ≤ d) (S : St) (a b : Int) : runF LP NN d 86 [.int .u8 a, .int .u8 b] S = some (.int .i64 (cmpI a b), S, false) := by
 refine run_pure (F := F86) rfl (by simp only [LP, fnOf, snapVs, snaps, zs, Bool.false_eq_true, if_false, Option.map_some, List.map_cons, List.map_nil] <;> exact rfl) rfl (by simp only [LP, zf, List.all_cons, List.all_nil, Bool.and_true, Bool.true_and]; try rfl) (by simp only [F86, zv] <;> exact rfl) (by omega) ?_
 rintro d rfl
 refine cw_seq (cw_region ?_)
 refine ow_mc ?_
 refine ow_nil ?_
 refine sk_n (by simp only [ze] <;> exact rfl) ?_
 refine cw_seq (cw_region ?_)
 refine ow_me rfl ?_
 refine ow_op (by simp only [zo]; exact nan126_run (by omega) _ _) ?_
 refine ow_ml rfl ?_
 refine ow_nil ?_
 refine sk_n (by simp only [ze] <;> exact rfl) ?_
 refine cw_seq (cw_region ?_)
 refine ow_me rfl ?_
 refine ow_op (by simp only [zo]; exact nan126_run (by omega) _ _) ?_
 refine ow_ml rfl ?_
 refine ow_nil ?_
 refine sk_n (by simp only [ze] <;> exact rfl) ?_
 refine cw_seq (cw_seq (cw_region ?_))
 refine ow_me rfl ?_
 refine ow_nil ?_
 refine sk_n (by simp only [ze] <;> exact rfl) ?_
 skip
 refine cw_false (by simp only [opd, zv] <;> rfl) ?_
 refine cw_skip (sk_n rfl (cw_seq (cw_seq (cw_region ?_))))
 refine ow_me rfl ?_
 refine ow_nil ?_
 refine sk_n (by simp only [ze] <;> exact rfl) ?_
 skip
 refine cw_false (by simp only [opd, zv] <;> rfl) ?_
 refine cw_skip (sk_n rfl (cw_seq (cw_seq (cw_region ?_))))
 refine ow_me rfl ?_
 refine ow_me rfl ?_
 refine ow_op (by simp only [zo, binD, zb, Int.reduceEq, Int.reduceToNat, Int.reduceLT] <;> exact rfl) ?_
 refine ow_nil ?_
 refine sk_n (by simp only [ze] <;> exact rfl) ?_
 refine cw_cond (by simp only [opd, zv] <;> exact rfl) (fun hc => ?_) (fun hc => ?_)
 ·
  refine cw_seq (cw_region ?_)
  refine ow_mc ?_
  refine ow_nil ?_
  refine sk_n (by simp only [ze] <;> exact rfl) ?_
  refine cw_ret (sk_r ?_)
  refine ⟨_, by simp only [F86, resultD, resDs, resD, List.getD_cons_zero, List.getD_cons_succ, zd, rowsOf, partD, List.getElem?_cons_zero, List.getElem?_cons_succ, if_true, if_false, Bool.false_eq_true, List.take, List.drop, zm] <;> exact rfl, ?_⟩
  rw [cmpI, if_pos (of_decide_eq_true hc)]; rfl
 ·
  refine cw_skip (sk_n rfl (cw_seq (cw_seq (cw_region ?_))))
  refine ow_me rfl ?_
  refine ow_me rfl ?_
  refine ow_op (by simp only [zo, binD, zb, Int.reduceEq, Int.reduceToNat, Int.reduceLT] <;> exact rfl) ?_
  refine ow_nil ?_
  refine sk_n (by simp only [ze] <;> exact rfl) ?_
  refine cw_cond (by simp only [opd, zv] <;> exact rfl) (fun hcF => ?_) (fun hcF => ?_)
  ·
   refine cw_seq (cw_region ?_)
   refine ow_mc ?_
   refine ow_nil ?_
   refine sk_n (by simp only [ze] <;> exact rfl) ?_
   refine cw_ret (sk_r ?_)
   refine ⟨_, by simp only [F86, resultD, resDs, resD, List.getD_cons_zero, List.getD_cons_succ, zd, rowsOf, partD, List.getElem?_cons_zero, List.getElem?_cons_succ, if_true, if_false, Bool.false_eq_true, List.take, List.drop, zm] <;> exact rfl, ?_⟩
   rw [cmpI, if_neg (of_decide_eq_false hc), if_pos (of_decide_eq_true hcF)]; rfl
  ·
   refine cw_skip (sk_n rfl (cw_seq (cw_region ?_)))
   refine ow_mc ?_
   refine ow_nil ?_
   refine sk_n (by simp only [ze] <;> exact rfl) ?_
   refine cw_ret ?_
   refine ⟨_, by simp only [F86, resultD, resDs, resD, List.getD_cons_zero, List.getD_cons_succ, zd, rowsOf, partD, List.getElem?_cons_zero, List.getElem?_cons_succ, if_true, if_false, Bool.false_eq_true, List.take, List.drop, zm] <;> exact rfl, ?_⟩
   rw [cmpI, if_neg (of_decide_eq_false hc), if_neg (of_decide_eq_false hcF)]; rfl

theorem cmpS_run {d : Nat} (hd : 2 ≤ d) (S : St) (a b : List UInt8) : runF LP NN d 85 [.str (mkS a), .str (mkS b)] S = some (.int .i64 (cmpL a b), S, false) := by
 refine run_pure (F := F85) rfl (by simp only [LP, fnOf, snapVs, snaps, zs, Bool.false_eq_true, if_false, Option.map_some, List.map_cons, List.map_nil] <;> exact rfl) rfl (by simp only [LP, zf, List.all_cons, List.all_nil, Bool.and_true, Bool.true_and]; try rfl) (by simp only [F85, zv] <;> exact rfl) (by omega) ?_
 rintro d rfl
 refine cw_seq (cw_region ?_)
 refine ow_mc ?_
 refine ow_nil ?_
 refine sk_n (by simp only [ze] <;> exact rfl) ?_
 refine cw_seq (cw_region ?_)
 refine ow_me rfl ?_
 refine ow_op (by simp only [zo, mkS_toList]; exact nan125_run (by omega) _ _) ?_
 refine ow_ml rfl ?_
 refine ow_nil ?_
 refine sk_n (by simp only [ze] <;> exact rfl) ?_
 refine cw_seq (cw_region ?_)
 refine ow_me rfl ?_
 refine ow_op (by simp only [zo, mkS_toList]; exact nan125_run (by omega) _ _) ?_
 refine ow_ml rfl ?_
 refine ow_nil ?_
 refine sk_n (by simp only [ze] <;> exact rfl) ?_
 refine cw_seq (cw_seq (cw_region ?_))
 refine ow_me rfl ?_
 refine ow_nil ?_
 refine sk_n (by simp only [ze] <;> exact rfl) ?_
 skip
 refine cw_false (by simp only [opd, zv, mkS_toList] <;> rfl) ?_
 refine cw_skip (sk_n rfl (cw_seq (cw_seq (cw_region ?_))))
 refine ow_me rfl ?_
 refine ow_nil ?_
 refine sk_n (by simp only [ze] <;> exact rfl) ?_
 skip
 refine cw_false (by simp only [opd, zv, mkS_toList] <;> rfl) ?_
 refine cw_skip (sk_n rfl (cw_seq (cw_seq (cw_region ?_))))
 refine ow_me rfl ?_
 refine ow_me rfl ?_
 refine ow_op (by simp only [zo, binD, zb, Int.reduceEq, Int.reduceToNat, Int.reduceLT, mkS_toList] <;> exact rfl) ?_
 refine ow_nil ?_
 refine sk_n (by simp only [ze] <;> exact rfl) ?_
 refine cw_cond (by simp only [opd, zv, mkS_toList] <;> exact rfl) (fun hc => ?_) (fun hc => ?_)
 ·
  refine cw_seq (cw_region ?_)
  refine ow_mc ?_
  refine ow_nil ?_
  refine sk_n (by simp only [ze] <;> exact rfl) ?_
  refine cw_ret (sk_r ?_)
  refine ⟨_, by simp only [F85, resultD, resDs, resD, List.getD_cons_zero, List.getD_cons_succ, zd, rowsOf, partD, List.getElem?_cons_zero, List.getElem?_cons_succ, if_true, if_false, Bool.false_eq_true, List.take, List.drop, zm] <;> exact rfl, ?_⟩
  rw [cmpL, if_pos hc]; rfl
 ·
  refine cw_skip (sk_n rfl (cw_seq (cw_seq (cw_region ?_))))
  refine ow_me rfl ?_
  refine ow_me rfl ?_
  refine ow_op (by simp only [zo, binD, zb, Int.reduceEq, Int.reduceToNat, Int.reduceLT, mkS_toList] <;> exact rfl) ?_
  refine ow_nil ?_
  refine sk_n (by simp only [ze] <;> exact rfl) ?_
  refine cw_cond (by simp only [opd, zv, mkS_toList] <;> exact rfl) (fun hcF => ?_) (fun hcF => ?_)
  ·
   refine cw_seq (cw_region ?_)
   refine ow_mc ?_
   refine ow_nil ?_
   refine sk_n (by simp only [ze] <;> exact rfl) ?_
   refine cw_ret (sk_r ?_)
   refine ⟨_, by simp only [F85, resultD, resDs, resD, List.getD_cons_zero, List.getD_cons_succ, zd, rowsOf, partD, List.getElem?_cons_zero, List.getElem?_cons_succ, if_true, if_false, Bool.false_eq_true, List.take, List.drop, zm] <;> exact rfl, ?_⟩
   rw [cmpL, if_neg (by simp [hc]), if_neg (by simpa using hcF)]; rfl
  ·
   refine cw_skip (sk_n rfl (cw_seq (cw_region ?_)))
   refine ow_mc ?_
   refine ow_nil ?_
   refine sk_n (by simp only [ze] <;> exact rfl) ?_
   refine cw_ret ?_
   refine ⟨_, by simp only [F85, resultD, resDs, resD, List.getD_cons_zero, List.getD_cons_succ, zd, rowsOf, partD, List.getElem?_cons_zero, List.getElem?_cons_succ, if_true, if_false, Bool.false_eq_true, List.take, List.drop, zm] <;> exact rfl, ?_⟩
   rw [cmpL, if_neg (by simp [hc]), if_pos (by simpa only [Bool.not_eq_false'] using hcF)]; rfl

theorem trimLB_run {d : Nat} (hd : 1 ≤ d) (S : St) (l : List UInt8) (hl : l.length ≤ 1000000) : runF LP NN d 99 [.str (mkS l), .int .u8 48] S = some (.str (mkS (strip0 l)), S, false) := by
 refine run_pure (F := F99) rfl (by simp only [LP, fnOf, snapVs, snaps, zs, Bool.false_eq_true, if_false, Option.map_some, List.map_cons, List.map_nil] <;> exact rfl) rfl (by simp only [LP, zf, List.all_cons, List.all_nil, Bool.and_true, Bool.true_and]; try rfl) (by simp only [F99, zv] <;> exact rfl) (by omega) ?_
 rintro d rfl
 refine cw_seq (cw_region ?_)
 refine ow_mc ?_
 refine ow_nil ?_
 refine sk_n (by simp only [ze] <;> exact rfl) ?_
 refine cw_seq (cw_block ?_)
 refine cw_loop (fun n env S' => ∃ (l' : List UInt8) (u3 : D), strip0 l' = strip0 l ∧ l'.length = n ∧ S' = ⟨[], 0⟩ ∧ env = [.str (mkS l'), .int .u8 48, .str ⟨#[]⟩, u3]) (l.length) (by omega) (⟨l, _, rfl, rfl, rfl, rfl⟩) ?_
 rintro n env S' ⟨l', u3, hl', rfl, rfl, rfl⟩
 refine cw_seq (cw_seq (cw_region ?_))
 refine ow_me rfl ?_
 refine ow_op (by simp only [zo, lenD_str, lenD_nils, lenD_sl, lenD_msl, mkS_size, mkS_get] <;> exact rfl) ?_
 refine ow_op (by simp only [zo, binD, zb, Int.reduceEq, Int.reduceToNat, Int.reduceLT, mkS_size, mkS_get] <;> exact rfl) ?_
 refine ow_ml rfl ?_
 refine ow_split 0 (by simp only [opd, zv] <;> exact rfl) (by simp only [zn] <;> exact rfl) (by simp only [zn] <;> exact rfl) (fun hgA => ?_) (fun hgA => ?_)
 ·
  obtain ⟨c, l'', rfl⟩ : ∃ c l'', l' = c :: l'' := by
   cases l' with
   | nil => simp at hgA
   | cons c l => exact ⟨c, l, rfl⟩
  rename List UInt8 => l'
  refine ow_on (by simp only [opd, zv]) ?_
  refine ow_me rfl ?_
  refine ow_on (by simp only [opd, zv]) ?_
  refine ow_op (by simp only [zo, indexD, zm, mkS_size, mkS_get, List.getElem?_cons_zero] <;> exact rfl) ?_
  refine ow_on (by simp only [opd, zv]) ?_
  refine ow_me rfl ?_
  refine ow_on (by simp only [opd, zv]) ?_
  refine ow_op (by simp only [zo, binD, zb, Int.reduceEq, Int.reduceToNat, Int.reduceLT, mkS_size, mkS_get, List.getElem?_cons_zero] <;> exact rfl) ?_
  refine ow_op (by simp only [zo, mkS_size, mkS_get, List.getElem?_cons_zero] <;> exact rfl) ?_
  refine ow_nil ?_
  refine sk_n (by simp only [ze] <;> exact rfl) ?_
  refine cw_cond (by simp only [opd, zv, mkS_size, mkS_get, List.getElem?_cons_zero] <;> exact rfl) (fun hcAT => ?_) (fun hcAT => ?_)
  ·
   have h48 : (c == 48) = true := by
    have := hcAT
    simp only [beq_iff_eq] at this ⊢
    exact UInt8.toNat_inj.1 (by show c.toNat = 48; omega)
   refine cw_skip (sk_n rfl (cw_block (cw_region ?_)))
   refine ow_me rfl ?_
   refine ow_op (by simp only [opd, zv, exOp, aop, LOp.loud, Bool.false_eq_true, if_false, mkS_size]; rw [str_from _ _ 1 1 rfl (by simp)]; exact rfl) ?_
   refine ow_ml rfl ?_
   refine ow_nil (bk_n ?_)
   refine lk_n (by simp only [ze] <;> exact rfl) ?_
   exact ⟨l'.length, by simp, l', _, by rw [← hl', strip0, strip0, List.dropWhile_cons, if_pos h48], rfl, rfl, rfl⟩
  ·
   refine cw_exit (sk_e (lk_e (bk_e (sk_n rfl (cw_seq (cw_region ?_))))))
   refine ow_me rfl ?_
   refine ow_ml rfl ?_
   refine ow_nil ?_
   refine sk_n (by simp only [ze] <;> exact rfl) ?_
   refine cw_ret ?_
   refine ⟨_, by simp only [F99, resultD, resDs, resD, List.getD_cons_zero, List.getD_cons_succ, zd, rowsOf, partD, List.getElem?_cons_zero, List.getElem?_cons_succ, if_true, if_false, Bool.false_eq_true, List.take, List.drop, zm] <;> exact rfl, ?_⟩
   rw [← hl', show strip0 (c :: l') = c :: l' by rw [strip0, List.dropWhile_cons, if_neg (fun h => by have := hcAT; simp at h; subst h; simp at this)]]; rfl
 ·
  obtain rfl : l' = [] := by
   cases l' with
   | nil => rfl
   | cons c l => have := of_decide_eq_false hgA; simp at this
  refine ow_off (b' := false) (by simp only [opd, zv]) rfl ?_
  refine ow_off (b' := false) (by simp only [opd, zv]) rfl ?_
  refine ow_off (b' := false) (by simp only [opd, zv]) rfl ?_
  refine ow_off (b' := false) (by simp only [opd, zv]) rfl ?_
  refine ow_op (by simp only [zo, mkS_size, mkS_get] <;> exact rfl) ?_
  refine ow_nil ?_
  refine sk_n (by simp only [ze] <;> exact rfl) ?_
  refine cw_false (by simp only [opd, zv, mkS_size, mkS_get]) ?_
  refine cw_exit (sk_e (lk_e (bk_e (sk_n rfl (cw_seq (cw_region ?_))))))
  refine ow_me rfl ?_
  refine ow_ml rfl ?_
  refine ow_nil ?_
  refine sk_n (by simp only [ze] <;> exact rfl) ?_
  refine cw_ret ?_
  refine ⟨_, by simp only [F99, resultD, resDs, resD, List.getD_cons_zero, List.getD_cons_succ, zd, rowsOf, partD, List.getElem?_cons_zero, List.getElem?_cons_succ, if_true, if_false, Bool.false_eq_true, List.take, List.drop, zm] <;> exact rfl, ?_⟩
  rw [← hl']; rfl

end Go.Proofs.YtabgobmeibjeeaaGreatDoor

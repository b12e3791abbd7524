/- Proved here: functions of the program in the abstract machine's form are the given ones; no condition. -/
import Derived.Test.YtabgobmeibjeeaaGreatDoorLo17
namespace Go.Proofs.YtabgobmeibjeeaaGreatDoor
set_option maxRecDepth 100000
set_option maxHeartbeats 4000000
set_option linter.unusedVariables false

def F136 : LFunc := ⟨[0, 1, 4], 2,
.seq (.region [qo .mv [.const (.bool false)]] [(2, 0)])
(.seq (.region [qo .mv [.env 0],
qo .mv [.env 1],
qo .nilck [.loc 1],
qo (.aaddr 1 256) [.loc 0, .loc 1],
qo (.load 1 false) [.loc 0],
qo .mv [.loc 0]] [(2, 0)])
(.ret)),
[.tmp 2]⟩
theorem F136_low : lowFn Tryz.prog false [0, 1, 4] Tryz.f136 = some F136 := by as_aux_lemma => kernel_rfl
def F145 : LFunc := ⟨[0, 1, 2, 3, 4, 13, 27, 33, 44], 1,
.seq (.region [qo (.box 51 11) [.env 0],
qo .mv [.const (.int .i64 0)],
qo .mv [.const (.int .i64 0)]] [(1, 2), (2, 1), (3, 0)])
(.seq (.block 0 (.seq (.region [qo (.faddr 0) [.env 1],
qo (.load 1 false) [.loc 0],
qo (.bin .gtr) [.loc 0, .const (.int .u8 5)],
qo .mv [.loc 0],
qg (.faddr 1) [.env 1] 0 false,
qg (.load 1 false) [.loc 0] 1 false,
qg (.bin .gtr) [.loc 0, .const (.int .u8 2)] 2 false,
qo .pick [.loc 3, .const (.bool true), .loc 0],
qo .mv [.loc 0]] [(4, 0)])
(.cond (.env 4) (.seq (.region [qo .mv [.const (.int .i64 0)],
qo .mv [.const (.int .i64 12)]] [(2, 1), (3, 0)])
(.ret)) (.seq (.region [qo (.faddr 0) [.env 1],
qo (.load 1 false) [.loc 0],
qo (.bin .eql) [.loc 0, .const (.int .u8 0)],
qo .mv [.loc 0],
qg (.faddr 10) [.env 1] 0 true,
qg (.load 1 false) [.loc 0] 1 true,
qg (.bin .lss) [.loc 0, .const (.int .i64 0)] 2 true,
qg .mv [.loc 0] 3 true,
qg (.faddr 10) [.env 1] 0 false,
qg (.load 1 false) [.loc 0] 1 false,
qg (.bin .gtr) [.loc 0, .const (.int .i64 1048576)] 2 false,
qg .pick [.loc 3, .const (.bool true), .loc 0] 7 true,
qo .pick [.loc 8, .loc 0, .const (.bool false)],
qo .mv [.loc 0]] [(5, 0)])
(.cond (.env 5) (.seq (.region [qo .mv [.const (.int .i64 0)],
qo .mv [.const (.int .i64 1)]] [(2, 1), (3, 0)])
(.ret)) (.seq (.region [qo (.faddr 0) [.env 1],
qo (.load 1 false) [.loc 0],
qo (.bin .eql) [.loc 0, .const (.int .u8 0)],
qo .mv [.loc 0]] [(6, 0)])
(.cond (.env 6) (.seq (.region [qo (.faddr 10) [.env 1],
qo (.load 1 false) [.loc 0],
qo .mv [.loc 0],
qo .mv [.const (.int .i64 0)]] [(2, 1), (3, 0)])
(.ret)) (.seq (.region [qo (.faddr 0) [.env 1],
qo (.load 1 false) [.loc 0],
qo (.bin .neq) [.loc 0, .const (.int .u8 4)],
qo .mv [.loc 0]] [(7, 0)])
(.cond (.env 7) (.seq (.drawn [qo (.faddr 2) [.env 1],
qw (.load 1 false) [.loc 0] 1 1,
qw (.len true) [.loc 0] 3 2,
qw (.faddr 2) [.env 1] 0 3,
qw (.load 1 false) [.loc 0] 8 4,
qw (.call 38) [.loc 0, .const (.str ⟨#[86]⟩)] 24 5,
qw (.bin .sub) [.loc 3, .loc 0] 63 6,
qw .mv [.loc 0] 127 7,
qw .mv [.const (.int .i64 0)] 255 8] [(2, 1), (3, 0)] [])
(.ret)) (.seq (.region [qo (.faddr 3) [.env 1],
qo (.load 1 false) [.loc 0],
qo (.bin .lss) [.loc 0, .const (.int .i64 1)],
qo .mv [.loc 0],
qg (.faddr 3) [.env 1] 0 false,
qg (.load 1 false) [.loc 0] 1 false,
qg (.bin .gtr) [.loc 0, .const (.int .i64 18)] 2 false,
qo .pick [.loc 3, .const (.bool true), .loc 0],
qo .mv [.loc 0]] [(8, 0)])
(.cond (.env 8) (.seq (.region [qo .mv [.const (.int .i64 0)],
qo .mv [.const (.int .i64 1)]] [(2, 1), (3, 0)])
(.ret)) (.skip))))))))))))
(.seq (.region [qo (.load 11 true) [.env 1],
qo (.call 160) [.loc 0],
qo .mv [.loc 0],
qo .mv [.const (.int .i64 0)]] [(2, 1), (3, 0)])
(.ret))),
[.tmp 2, .tmp 3]⟩
theorem F145_low : lowFn Tryz.prog false [0, 1, 2, 3, 4, 13, 27, 33, 44] Tryz.f145 = some F145 := by as_aux_lemma => kernel_rfl
def F146 : LFunc := ⟨[0, 1, 2, 3, 4, 10, 11, 20, 23], 5,
.seq (.region [qo .mv [.env 2],
qo .mv [.env 1],
qo (.bin .sub) [.loc 1, .loc 0],
qo .mv [.loc 0]] [(5, 0)])
(.seq (.region [qo .mv [.env 3],
qo .mv [.env 2],
qo (.bin .sub) [.loc 1, .loc 0],
qo .mv [.loc 0]] [(6, 0)])
(.seq (.block 0 (.loop (.seq (.seq (.region [qo .mv [.env 5],
qo .mv [.env 6],
qo (.bin .neq) [.loc 1, .loc 0]] [(7, 0)])
(.cond (.env 7) (.skip) (.exit 0)))
(.block 1 (.seq (.region [qo .mv [.env 5],
qo .mv [.env 6],
qo (.bin .gtr) [.loc 1, .loc 0]] [(8, 0)])
(.cond (.env 8) (.seq (.region [qo .mv [.env 0],
qo .mv [.env 2],
qo .mv [.env 5],
qo (.bin .sub) [.loc 1, .loc 0],
qo .mv [.env 2],
qo .mv [.env 6],
qo .mv [.env 4],
qo (.call 161) [.loc 6, .loc 3, .loc 2, .loc 1, .loc 0]] [])
(.region [qo .mv [.env 5],
qo .mv [.env 6],
qo (.bin .sub) [.loc 1, .loc 0],
qo .mv [.loc 0]] [(5, 0)])) (.seq (.region [⟨.mv, [.env 0], none, [], none⟩,
qo .mv [.env 2],
qo .mv [.env 5],
qo (.bin .sub) [.loc 1, .loc 0],
qo .mv [.env 2],
qo .mv [.env 6],
qo (.bin .add) [.loc 1, .loc 0],
qo .mv [.env 5],
qo (.bin .sub) [.loc 1, .loc 0],
qo .mv [.env 5],
qo .mv [.env 4],
qo (.call 161) [.loc 10, .loc 7, .loc 2, .loc 1, .loc 0]] [])
(.region [qo .mv [.env 6],
qo .mv [.env 5],
qo (.bin .sub) [.loc 1, .loc 0],
qo .mv [.loc 0]] [(6, 0)]))))))))
(.region [qo .mv [.env 0],
qo .mv [.env 2],
qo .mv [.env 5],
qo (.bin .sub) [.loc 1, .loc 0],
qo .mv [.env 2],
qo .mv [.env 5],
qo .mv [.env 4],
qo (.call 161) [.loc 6, .loc 3, .loc 2, .loc 1, .loc 0]] []))),
[]⟩
theorem F146_low : lowFn Tryz.prog false [0, 1, 2, 3, 4, 10, 11, 20, 23] Tryz.f146 = some F146 := by as_aux_lemma => kernel_rfl
def F147 : LFunc := ⟨[0], 0,
.seq (.region [qo .mv [.const (.nilm)]] [(0, 0)])
(.seq (.region [qo .mkmap [],
qo (.build [.nilfn, .nilfn] [(0, 1), (1, 1)]) [.const (.fn 162 []), .const (.fn 163 [])],
qo (.mapset 0) [.loc 1, .const (.int .i64 0), .loc 0],
qo (.build [.nilfn, .nilfn] [(0, 1), (1, 1)]) [.const (.fn 164 []), .const (.fn 165 [])],
qo (.mapset 0) [.loc 3, .const (.int .i64 1), .loc 0],
qo (.build [.nilfn, .nilfn] [(0, 1), (1, 1)]) [.const (.fn 166 []), .const (.fn 167 [])],
qo (.mapset 0) [.loc 5, .const (.int .i64 2), .loc 0],
qo (.build [.nilfn, .nilfn] [(0, 1), (1, 1)]) [.const (.fn 168 []), .const (.fn 169 [])],
qo (.mapset 0) [.loc 7, .const (.int .i64 3), .loc 0],
qo .mv [.loc 8],
qo .mv [.loc 0]] [(0, 0)])
(.ret)),
[.tmp 0]⟩
theorem F147_low : lowFn Tryz.prog false [0] Tryz.f147 = some F147 := by as_aux_lemma => kernel_rfl
def F148 : LFunc := ⟨[0, 1, 4, 5, 6, 12, 21, 34], 2,
.seq (.region [qo .mv [.const (.str ⟨#[]⟩)]] [(2, 0)])
(.seq (.seq (.region [qo .mv [.env 0],
qo (.bin .eql) [.loc 0, .const (.str ⟨#[]⟩)],
qo .mv [.loc 0],
qg .mv [.env 1] 0 false,
qg (.bin .eql) [.loc 0, .const (.str ⟨#[]⟩)] 1 false,
qo .pick [.loc 2, .const (.bool true), .loc 0]] [(5, 0)])
(.cond (.env 5) (.seq (.region [qo .mv [.env 0],
qo .mv [.loc 0]] [(2, 0)])
(.ret)) (.skip)))
(.seq (.seq (.region [qo .mv [.env 1],
qo (.len true) [.loc 0],
qo (.bin .eql) [.loc 0, .const (.int .i64 1)],
qo .mv [.loc 0],
qg .mv [.env 1] 0 true,
qg .index [.loc 0, .const (.int .i64 0)] 1 true,
qg (.bin .lss) [.loc 0, .const (.int .u8 128)] 2 true,
qo .pick [.loc 3, .loc 0, .const (.bool false)]] [(6, 0)])
(.cond (.env 6) (.seq (.drawn [qo .mv [.env 0],
qw .mv [.env 1] 0 1,
qw .index [.loc 0, .const (.int .i64 0)] 2 2,
qw (.call 104) [.loc 2, .loc 0] 7 3,
qw .mv [.env 1] 0 4,
qw .index [.loc 0, .const (.int .i64 0)] 16 5,
qw (.call 99) [.loc 2, .loc 0] 63 6,
qw .mv [.loc 0] 127 7] [(2, 0)] [])
(.ret)) (.skip)))
(.seq (.seq (.region [qo .mv [.env 1],
qo (.call 100) [.loc 0],
qo .mv [.loc 0],
qo (.extract 0) [.loc 0],
qo (.extract 1) [.loc 1],
qo (.alloc 158 [.bool false, .bool false, .bool false, .bool false, .bool false, .bool false, .bool false, .bool false, .bool false, .bool false, .bool false, .bool false, .bool false, .bool false, .bool false, .bool false, .bool false, .bool false, .bool false, .bool false, .bool false, .bool false, .bool false, .bool false, .bool false, .bool false, .bool false, .bool false, .bool false, .bool false, .bool false, .bool false, .bool false, .bool false, .bool false, .bool false, .bool false, .bool false, .bool false, .bool false, .bool false, .bool false, .bool false, .bool false, .bool false, .bool false, .bool false, .bool false, .bool false, .bool false, .bool false, .bool false, .bool false, .bool false, .bool false, .bool false, .bool false, .bool false, .bool false, .bool false, .bool false, .bool false, .bool false, .bool false, .bool false, .bool false, .bool false, .bool false, .bool false, .bool false, .bool false, .bool false, .bool false, .bool false, .bool false, .bool false, .bool false, .bool false, .bool false, .bool false, .bool false, .bool false, .bool false, .bool false, .bool false, .bool false, .bool false, .bool false, .bool false, .bool false, .bool false, .bool false, .bool false, .bool false, .bool false, .bool false, .bool false, .bool false, .bool false, .bool false, .bool false, .bool false, .bool false, .bool false, .bool false, .bool false, .bool false, .bool false, .bool false, .bool false, .bool false, .bool false, .bool false, .bool false, .bool false, .bool false, .bool false, .bool false, .bool false, .bool false, .bool false, .bool false, .bool false, .bool false, .bool false, .bool false, .bool false, .bool false, .bool false, .bool false, .bool false, .bool false, .bool false, .bool false, .bool false, .bool false, .bool false, .bool false, .bool false, .bool false, .bool false, .bool false, .bool false, .bool false, .bool false, .bool false, .bool false, .bool false, .bool false, .bool false, .bool false, .bool false, .bool false, .bool false, .bool false, .bool false, .bool false, .bool false, .bool false, .bool false, .bool false, .bool false, .bool false, .bool false, .bool false, .bool false, .bool false, .bool false, .bool false, .bool false, .bool false, .bool false, .bool false, .bool false, .bool false, .bool false, .bool false, .bool false, .bool false, .bool false, .bool false, .bool false, .bool false, .bool false, .bool false, .bool false, .bool false, .bool false, .bool false, .bool false, .bool false, .bool false, .bool false, .bool false, .bool false, .bool false, .bool false, .bool false, .bool false, .bool false, .bool false, .bool false, .bool false, .bool false, .bool false, .bool false, .bool false, .bool false, .bool false, .bool false, .bool false, .bool false, .bool false, .bool false, .bool false, .bool false, .bool false, .bool false, .bool false, .bool false, .bool false, .bool false, .bool false, .bool false, .bool false, .bool false, .bool false, .bool false, .bool false, .bool false, .bool false, .bool false, .bool false, .bool false, .bool false, .bool false, .bool false, .bool false, .bool false, .bool false, .bool false, .bool false, .bool false, .bool false, .bool false, .bool false, .bool false, .bool false, .bool false, .bool false, .bool false, .bool false, .bool false, .bool false, .bool false, .bool false]) [],
qo (.store 256) [.loc 0, .loc 2],
qo .mv [.loc 2]] [(3, 2), (4, 0)])
(.seq (.region [qo .mv [.env 4]] [(7, 0)])
(.cond (.env 7) (.seq (.region [qo .mv [.env 0],
qo (.call 105) [.loc 0, .env 3],
qo (.call 101) [.loc 0, .env 3],
qo .mv [.loc 0]] [(2, 0)])
(.ret)) (.skip))))
(.seq (.region [qo .mv [.env 0],
qo .mv [.env 1],
qo (.call 106) [.loc 1, .loc 0],
qo .mv [.env 1],
qo (.call 102) [.loc 1, .loc 0],
qo .mv [.loc 0]] [(2, 0)])
(.ret))))),
[.tmp 2]⟩
theorem F148_low : lowFn Tryz.prog false [0, 1, 4, 5, 6, 12, 21, 34] Tryz.f148 = some F148 := by as_aux_lemma => kernel_rfl
def F160 : LFunc := ⟨[0, 1, 2, 3, 11, 20, 29, 33], 1,
.seq (.region [qo (.box 51 11) [.env 0],
qo .mv [.const (.int .i64 0)]] [(1, 1), (2, 0)])
(.seq (.block 0 (.seq (.region [qo (.faddr 1) [.env 1],
qo (.load 1 false) [.loc 0],
qo (.bin .eql) [.loc 0, .const (.int .u8 1)],
qo .mv [.loc 0]] [(3, 0)])
(.cond (.env 3) (.seq (.region [qo (.faddr 3) [.env 1],
qo (.load 1 false) [.loc 0],
qo (.bin .quo) [.loc 0, .const (.int .i64 2)],
qo (.bin .add) [.loc 0, .const (.int .i64 1)],
qo .mv [.loc 0]] [(2, 0)])
(.ret)) (.seq (.region [qo (.faddr 1) [.env 1],
qo (.load 1 false) [.loc 0],
qo (.bin .eql) [.loc 0, .const (.int .u8 2)],
qo .mv [.loc 0],
qg (.faddr 3) [.env 1] 0 true,
qg (.load 1 false) [.loc 0] 1 true,
qg (.bin .leq) [.loc 0, .const (.int .i64 4)] 2 true,
qo .pick [.loc 3, .loc 0, .const (.bool false)],
qo .mv [.loc 0]] [(4, 0)])
(.cond (.env 4) (.seq (.region [qo .mv [.const (.int .i64 2)]] [(2, 0)])
(.ret)) (.seq (.region [qo (.faddr 1) [.env 1],
qo (.load 1 false) [.loc 0],
qo (.bin .eql) [.loc 0, .const (.int .u8 2)],
qo .mv [.loc 0],
qg (.faddr 3) [.env 1] 0 true,
qg (.load 1 false) [.loc 0] 1 true,
qg (.bin .leq) [.loc 0, .const (.int .i64 9)] 2 true,
qo .pick [.loc 3, .loc 0, .const (.bool false)],
qo .mv [.loc 0]] [(5, 0)])
(.cond (.env 5) (.seq (.region [qo .mv [.const (.int .i64 4)]] [(2, 0)])
(.ret)) (.seq (.region [qo (.faddr 1) [.env 1],
qo (.load 1 false) [.loc 0],
qo (.bin .eql) [.loc 0, .const (.int .u8 2)],
qo .mv [.loc 0]] [(6, 0)])
(.cond (.env 6) (.seq (.region [qo .mv [.const (.int .i64 8)]] [(2, 0)])
(.ret)) (.seq (.region [qo (.faddr 7) [.env 1],
qo (.load 1 false) [.loc 0],
qo .mv [.loc 0]] [(7, 0)])
(.cond (.env 7) (.seq (.region [qo (.faddr 3) [.env 1],
qo (.load 1 false) [.loc 0],
qo (.bin .add) [.loc 0, .const (.int .i64 1)],
qo .mv [.loc 0]] [(2, 0)])
(.ret)) (.skip))))))))))))
(.seq (.region [qo (.faddr 3) [.env 1],
qo (.load 1 false) [.loc 0],
qo .mv [.loc 0]] [(2, 0)])
(.ret))),
[.tmp 2]⟩
theorem F160_low : lowFn Tryz.prog false [0, 1, 2, 3, 11, 20, 29, 33] Tryz.f160 = some F160 := by as_aux_lemma => kernel_rfl
def F161 : LFunc := ⟨[0, 1, 2, 3, 10, 13], 5,
.seq (.region [qo .mv [.const (.int .i64 0)]] [(4, 0)])
(.block 0 (.loop (.seq (.seq (.region [qo .mv [.env 4],
qo .mv [.env 3],
qo (.bin .lss) [.loc 1, .loc 0]] [(5, 0)])
(.cond (.env 5) (.skip) (.exit 0)))
(.seq (.block 1 (.drawn [qo .mv [.env 0],
qw .mv [.env 1] 0 1,
qw .mv [.env 4] 0 2,
qw (.bin .add) [.loc 1, .loc 0] 6 3,
qw .mv [.env 0] 0 4,
qw .mv [.env 2] 0 5,
qw .mv [.env 4] 0 6,
qw (.bin .add) [.loc 1, .loc 0] 96 7,
qw .mv [.env 0] 0 8,
qw .mv [.env 2] 0 9,
qw .mv [.env 4] 0 10,
qw (.bin .add) [.loc 1, .loc 0] 1536 11,
qw (.iaddr 1) [.loc 3, .loc 0] 3840 12,
qw (.load 1 false) [.loc 0] 7936 13,
qw .mv [.env 0] 0 14,
qw .mv [.env 1] 0 15,
qw .mv [.env 4] 0 16,
qw (.bin .add) [.loc 1, .loc 0] 98304 17,
qw (.iaddr 1) [.loc 3, .loc 0] 245760 18,
qw (.load 1 false) [.loc 0] 507904 19,
qw (.iaddr 1) [.loc 19, .loc 16] 1048335 20,
qw (.store 1) [.loc 0, .loc 7] 2096911 21,
qw (.iaddr 1) [.loc 17, .loc 14] 4194303 22,
qw (.store 1) [.loc 0, .loc 3] 8388607 23] [] []))
(.region [qo .mv [.env 4],
qo (.bin .add) [.loc 0, .const (.int .i64 1)],
qo .mv [.loc 0]] [(4, 0)]))))),
[]⟩
theorem F161_low : lowFn Tryz.prog true [0, 1, 2, 3, 10, 13] Tryz.f161 = some F161 := by as_aux_lemma => kernel_rfl
def F162 : LFunc := ⟨[0, 1, 2, 4, 5, 6, 7, 8, 9, 10, 11, 18, 31], 2,
.seq (.region [qo (.box 177 11) [.env 0],
qo (.alloc 143 [.bool false, .str ⟨#[]⟩]) [],
qo .mv [.const (.bool false)]] [(2, 2), (3, 1), (4, 0)])
(.seq (.region [qo .mv [.env 1],
qo .bstr [.loc 0],
qo (.build [.bool false, .str ⟨#[]⟩] [(1, 1)]) [.loc 0],
qo (.alloc 143 [.bool false, .str ⟨#[]⟩]) [],
qo (.store 2) [.loc 0, .loc 1]] [(5, 1)])
(.seq (.seq (.region [qo (.load 11 true) [.env 2],
qo (.call 174) [.loc 0],
qo .mv [.loc 0]] [(6, 0)])
(.seq (.region [qo (.faddr 5) [.env 2],
qo (.load 1 false) [.loc 0]] [(11, 0)])
(.cond (.env 11) (.seq (.region [qo .mv [.env 1],
qo .mv [.env 6],
qo (.iaddr 1) [.loc 1, .loc 0],
qo (.load 1 false) [.loc 0],
qo .mv [.loc 0]] [(7, 0)])
(.seq (.region [qo .mv [.env 7],
qo (.call 91) [.const (.str ⟨#[123, 65, 66, 67, 68, 69, 70, 71, 72, 73]⟩), .loc 0],
qo .mv [.env 7],
qo (.call 91) [.const (.str ⟨#[125, 74, 75, 76, 77, 78, 79, 80, 81, 82]⟩), .loc 0],
qo .mv [.loc 2],
qo .mv [.loc 1]] [(8, 1), (9, 0)])
(.seq (.region [qo .mv [.env 8],
qo .mv [.env 9],
qo .max [.loc 1, .loc 0],
qo .mv [.loc 0]] [(10, 0)])
(.seq (.region [qo .mv [.env 10],
qo (.bin .geq) [.loc 0, .const (.int .i64 0)]] [(12, 0)])
(.cond (.env 12) (.drawn [qo .mv [.env 9],
qw (.bin .geq) [.loc 0, .const (.int .i64 0)] 1 1,
qw (.faddr 1) [.env 5] 0 2,
qw (.load 1 false) [.loc 0] 4 3,
qw .mv [.env 6] 0 4,
qw (.slice true 0 false true false) [.loc 1, .loc 0] 28 5,
qw .mv [.env 10] 0 6,
qw .mv [.env 10] 0 7,
qw (.bin .add) [.loc 0, .const (.int .i64 1)] 128 8,
qw (.slice true 0 true true false) [.const (.str ⟨#[48, 49, 50, 51, 52, 53, 54, 55, 56, 57]⟩), .loc 2, .loc 0] 448 9,
qw (.bin .add) [.loc 4, .loc 0] 1020 10,
qw (.faddr 1) [.env 5] 0 11,
qw (.load 1 false) [.loc 0] 2048 12,
qw .mv [.env 6] 0 13,
qw (.bin .add) [.loc 0, .const (.int .i64 1)] 8192 14,
qw (.slice true 0 true false false) [.loc 2, .loc 0] 30720 15,
qw (.bin .add) [.loc 5, .loc 0] 65532 16,
qw (.build [.bool false, .str ⟨#[]⟩] [(0, 1), (1, 1)]) [.loc 15, .loc 0] 131071 17,
qw (.store 2) [.env 5, .loc 0] 262143 18] [] []) (.skip)))))) (.skip))))
(.seq (.drawn [qo (.load 2 true) [.env 5],
qw (.faddr 1) [.env 5] 0 1,
qw (.load 1 false) [.loc 0] 2 2,
qw (.call 148) [.loc 0, .const (.str ⟨#[48, 49, 50, 51, 52, 53, 54, 55, 56, 57]⟩)] 6 3,
qw (.bin .eql) [.loc 0, .const (.str ⟨#[]⟩)] 14 4,
qw (.store 2) [.env 3, .loc 4] 15 5,
qw .mv [.loc 1] 63 6] [(4, 0)] [])
(.ret)))),
[.cell 3 2 true, .tmp 4]⟩
theorem F162_low : lowFn Tryz.prog false [0, 1, 2, 4, 5, 6, 7, 8, 9, 10, 11, 18, 31] Tryz.f162 = some F162 := by as_aux_lemma => kernel_rfl
def F164 : LFunc := ⟨[0, 1, 2, 4, 5, 6, 8, 9, 10, 11, 12, 13, 14, 15, 16, 39, 40, 41, 47, 59], 2,
.seq (.region [qo (.box 177 11) [.env 0],
qo (.alloc 143 [.bool false, .str ⟨#[]⟩]) [],
qo .mv [.const (.bool false)]] [(2, 2), (3, 1), (4, 0)])
(.seq (.region [qo .mv [.const (.nils)]] [(5, 0)])
(.seq (.seq (.region [qo .mv [.env 1],
qo (.len false) [.loc 0],
qo .mv [.const (.int .i64 0)]] [(11, 2), (12, 1), (13, 0)])
(.block 0 (.loop (.seq (.region [qo (.bin .lss) [.env 13, .env 12]] [(14, 0)])
(.seq (.cond (.env 14) (.skip) (.exit 0))
(.seq (.block 1 (.seq (.region [qo (.iaddr 1) [.env 11, .env 13],
qo (.load 1 false) [.loc 0],
qo .mv [.loc 0]] [(6, 0)])
(.region [qo .mv [.env 5],
qo .mv [.env 6],
qo (.bin .shr) [.loc 0, .const (.int .u64 4)],
qo .mv [.env 6],
qo (.bin .and) [.loc 0, .const (.int .u8 15)],
qo (.bslice 5 1 2 [.int .u8 0] [0, 1] 2) [.loc 2, .loc 0],
qo (.append 5 1 1 2) [.loc 5, .loc 0],
qo .mv [.loc 0]] [(5, 0)])))
(.region [qo (.bin .add) [.env 13, .const (.int .i64 1)],
qo .mv [.loc 0]] [(13, 0)])))))))
(.seq (.region [qo .mv [.env 5],
qo .mv [.env 5],
qo (.len false) [.loc 0],
qo (.bin .sub) [.loc 0, .const (.int .i64 1)],
qo (.iaddr 1) [.loc 3, .loc 0],
qo (.load 1 false) [.loc 0],
qo .mv [.loc 0]] [(7, 0)])
(.seq (.region [qo .mv [.env 5],
qo .mv [.env 5],
qo (.len false) [.loc 0],
qo (.bin .sub) [.loc 0, .const (.int .i64 1)],
qo (.slice false 1 false true false) [.loc 3, .loc 0],
qo .mv [.loc 0]] [(5, 0)])
(.seq (.seq (.region [qo .mv [.env 5],
qo (.len false) [.loc 0],
qo .mv [.const (.int .i64 0)]] [(15, 1), (16, 0)])
(.block 2 (.loop (.seq (.region [qo (.bin .lss) [.env 16, .env 15]] [(17, 0)])
(.seq (.cond (.env 17) (.skip) (.exit 2))
(.seq (.block 3 (.seq (.region [qo .mv [.env 16],
qo .mv [.loc 0]] [(8, 0)])
(.seq (.seq (.region [qo .mv [.env 5],
qo .mv [.env 8],
qo (.iaddr 1) [.loc 1, .loc 0],
qo (.load 1 false) [.loc 0],
qo (.bin .gtr) [.loc 0, .const (.int .u8 9)]] [(18, 0)])
(.cond (.env 18) (.seq (.region [qo (.build [.bool false, .str ⟨#[]⟩] []) [],
qo (.store 2) [.env 3, .loc 0],
qo .mv [.const (.bool false)]] [(4, 0)])
(.ret)) (.skip)))
(.region [qo .mv [.env 5],
qo .mv [.env 8],
qo (.iaddr 1) [.loc 1, .loc 0],
qo (.load 1 false) [.loc 0],
qo (.bin .add) [.loc 0, .const (.int .u8 48)],
qo (.iaddr 1) [.loc 4, .loc 3],
qo (.store 1) [.loc 0, .loc 1]] []))))
(.region [qo (.bin .add) [.env 16, .const (.int .i64 1)],
qo .mv [.loc 0]] [(16, 0)])))))))
(.seq (.region [qo .mv [.env 7],
qo (.bin .eql) [.loc 0, .const (.int .u8 15)],
qo .mv [.loc 0]] [(9, 0)])
(.seq (.seq (.region [qo (.faddr 5) [.env 2],
qo (.load 1 false) [.loc 0]] [(19, 0)])
(.cond (.env 19) (.region [qo .mv [.env 7],
qo (.bin .eql) [.loc 0, .const (.int .u8 12)],
qo .mv [.loc 0],
qg .mv [.env 7] 0 false,
qg (.bin .eql) [.loc 0, .const (.int .u8 13)] 1 false,
qo .pick [.loc 2, .const (.bool true), .loc 0],
qo .mv [.loc 0]] [(9, 0)]) (.skip)))
(.seq (.region [qo .mv [.env 5],
qo (.len false) [.loc 0],
qo (.faddr 3) [.env 2],
qo (.load 1 false) [.loc 0],
qo (.bin .sub) [.loc 2, .loc 0],
qo .mv [.loc 0]] [(10, 0)])
(.seq (.drawn [qo .mv [.env 7],
qw (.bin .eql) [.loc 0, .const (.int .u8 13)] 1 1,
qw .mv [.env 5] 0 2,
qw .mv [.env 10] 0 3,
qw (.slice false 1 true false false) [.loc 1, .loc 0] 12 4,
qw .bstr [.loc 0] 28 5,
qw (.build [.bool false, .str ⟨#[]⟩] [(0, 1), (1, 1)]) [.loc 4, .loc 0] 63 6,
qw .mv [.env 9] 0 7,
qw .mv [.loc 0] 128 8,
qh .mv [.env 5] 0 true 384 9,
qh .mv [.env 10] 1 true 384 10,
qh (.slice false 1 false true false) [.loc 1, .loc 0] 2 true 1920 11,
qh .bstr [.loc 0] 3 true 3968 12,
qh (.call 148) [.loc 0, .const (.str ⟨#[48]⟩)] 4 true 8064 13,
qh (.bin .eql) [.loc 0, .const (.str ⟨#[]⟩)] 5 true 16256 14,
qw .pick [.loc 6, .loc 0, .const (.bool false)] 32640 15,
qw (.store 2) [.env 3, .loc 9] 16383 16,
qw .mv [.loc 1] 131071 17] [(4, 0)] [])
(.ret)))))))))),
[.cell 3 2 true, .tmp 4]⟩
theorem F164_low : lowFn Tryz.prog true [0, 1, 2, 4, 5, 6, 8, 9, 10, 11, 12, 13, 14, 15, 16, 39, 40, 41, 47, 59] Tryz.f164 = some F164 := by as_aux_lemma => kernel_rfl
def F166 : LFunc := ⟨[0, 1, 2, 4, 5, 6, 8, 9, 10, 11, 12, 13, 14, 31, 36, 45, 46, 47], 2,
.seq (.region [qo (.box 177 11) [.env 0],
qo (.alloc 143 [.bool false, .str ⟨#[]⟩]) [],
qo .mv [.const (.bool false)]] [(2, 2), (3, 1), (4, 0)])
(.seq (.region [qo .mv [.const (.int .u64 0)]] [(5, 0)])
(.seq (.seq (.region [qo .mv [.env 1],
qo (.len false) [.loc 0],
qo .mv [.const (.int .i64 0)]] [(9, 2), (10, 1), (11, 0)])
(.block 0 (.loop (.seq (.region [qo (.bin .lss) [.env 11, .env 10]] [(12, 0)])
(.seq (.cond (.env 12) (.skip) (.exit 0))
(.seq (.block 1 (.seq (.region [qo (.iaddr 1) [.env 9, .env 11],
qo (.load 1 false) [.loc 0],
qo .mv [.loc 0]] [(6, 0)])
(.region [qo .mv [.env 5],
qo (.bin .shl) [.loc 0, .const (.int .u64 8)],
qo .mv [.env 6],
qo (.conv .u64) [.loc 0],
qo (.bin .or) [.loc 2, .loc 0],
qo .mv [.loc 0]] [(5, 0)])))
(.region [qo (.bin .add) [.env 11, .const (.int .i64 1)],
qo .mv [.loc 0]] [(11, 0)])))))))
(.seq (.region [qo (.faddr 5) [.env 2],
qo (.load 1 false) [.loc 0],
qo .mv [.loc 0],
qg .mv [.env 1] 0 true,
qg (.iaddr 1) [.loc 0, .const (.int .i64 0)] 1 true,
qg (.load 1 false) [.loc 0] 2 true,
qg (.bin .geq) [.loc 0, .const (.int .u8 128)] 3 true,
qo .pick [.loc 4, .loc 0, .const (.bool false)],
qo .mv [.loc 0]] [(7, 0)])
(.seq (.seq (.region [qo .mv [.env 7]] [(13, 0)])
(.cond (.env 13) (.seq (.region [qo .mv [.env 5],
qo (.un .neg) [.loc 0],
qo .mv [.loc 0]] [(5, 0)])
(.seq (.region [qo .mv [.env 1],
qo (.len false) [.loc 0],
qo (.bin .lss) [.loc 0, .const (.int .i64 8)]] [(14, 0)])
(.cond (.env 14) (.region [qo .mv [.env 5],
qo .mv [.env 1],
qo (.len false) [.loc 0],
qo (.bin .mul) [.const (.int .i64 8), .loc 0],
qo (.bin .shl) [.const (.int .u64 1), .loc 0],
qo (.bin .sub) [.loc 0, .const (.int .u64 1)],
qo (.bin .and) [.loc 5, .loc 0],
qo .mv [.loc 0]] [(5, 0)]) (.skip)))) (.skip)))
(.seq (.region [qo .mv [.const (.str ⟨#[]⟩)]] [(8, 0)])
(.seq (.seq (.region [qo (.faddr 3) [.env 2],
qo (.load 1 false) [.loc 0],
qo .mv [.const (.int .i64 0)]] [(15, 1), (16, 0)])
(.block 2 (.loop (.seq (.region [qo (.bin .lss) [.env 16, .env 15]] [(17, 0)])
(.seq (.cond (.env 17) (.skip) (.exit 2))
(.seq (.block 3 (.seq (.region [qo .mv [.env 5],
qo (.bin .rem) [.loc 0, .const (.int .u64 10)],
qo .mv [.env 5],
qo (.bin .rem) [.loc 0, .const (.int .u64 10)],
qo (.bin .add) [.loc 0, .const (.int .u64 1)],
qo (.slice true 0 true true false) [.const (.str ⟨#[48, 49, 50, 51, 52, 53, 54, 55, 56, 57]⟩), .loc 3, .loc 0],
qo .mv [.env 8],
qo (.bin .add) [.loc 1, .loc 0],
qo .mv [.loc 0]] [(8, 0)])
(.region [qo .mv [.env 5],
qo (.bin .quo) [.loc 0, .const (.int .u64 10)],
qo .mv [.loc 0]] [(5, 0)])))
(.region [qo (.bin .add) [.env 16, .const (.int .i64 1)],
qo .mv [.loc 0]] [(16, 0)])))))))
(.seq (.region [qo .mv [.env 7],
qo .mv [.env 8],
qo (.build [.bool false, .str ⟨#[]⟩] [(0, 1), (1, 1)]) [.loc 1, .loc 0],
qo .mv [.env 5],
qo (.bin .eql) [.loc 0, .const (.int .u64 0)],
qo (.store 2) [.env 3, .loc 2],
qo .mv [.loc 1]] [(4, 0)])
(.ret)))))))),
[.cell 3 2 true, .tmp 4]⟩
theorem F166_low : lowFn Tryz.prog false [0, 1, 2, 4, 5, 6, 8, 9, 10, 11, 12, 13, 14, 31, 36, 45, 46, 47] Tryz.f166 = some F166 := by as_aux_lemma => kernel_rfl
def F174 : LFunc := ⟨[0, 1, 2, 4], 1,
.seq (.region [qo (.box 177 11) [.env 0],
qo .mv [.const (.int .i64 0)]] [(1, 1), (2, 0)])
(.seq (.seq (.region [qo (.faddr 6) [.env 1],
qo (.load 1 false) [.loc 0]] [(3, 0)])
(.cond (.env 3) (.seq (.region [qo .mv [.const (.int .i64 0)]] [(2, 0)])
(.ret)) (.skip)))
(.seq (.region [qo (.faddr 3) [.env 1],
qo (.load 1 false) [.loc 0],
qo (.bin .sub) [.loc 0, .const (.int .i64 1)],
qo .mv [.loc 0]] [(2, 0)])
(.ret))),
[.tmp 2]⟩
theorem F174_low : lowFn Tryz.prog false [0, 1, 2, 4] Tryz.f174 = some F174 := by as_aux_lemma => kernel_rfl
end Go.Proofs.YtabgobmeibjeeaaGreatDoor

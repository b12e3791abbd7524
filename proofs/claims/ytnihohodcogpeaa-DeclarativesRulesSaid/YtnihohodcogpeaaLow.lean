/- Proved here: the functions of the program in the abstract machine's form are the given ones; no condition. -/
import Derived.Test.YtnihohodcogpeaaLo17
namespace Go.Proofs.Ytnihohodcogpeaa
set_option maxRecDepth 100000
set_option maxHeartbeats 4000000
set_option linter.unusedVariables false

/-- gosem.cut.init [] -/
def F2 : LFunc := ⟨[], 0,
   .region [⟨.call 1, [], none, [], none⟩] [],
   []⟩
theorem F2_low : lowFn Try.prog false [] Try.f2 = some F2 := by as_aux_lemma => kernel_rfl
/-- columnseven/columnsevenlaw38.DeclarativesRules [] -/
def F3 : LFunc := ⟨[0, 2, 3, 4, 5, 6, 7, 8, 11, 23, 26, 44, 48, 87, 91, 106], 1,
   .seq (.region [⟨.mv, [.const (.bool false)], none, [], none⟩] [(1, 0)])
   (.seq (.seq (.region [⟨.mv, [.env 0], none, [], none⟩,
      ⟨.len false, [.loc 0], none, [], none⟩,
      ⟨.bin .gtr, [.loc 0, .const (.int .i64 6)], none, [], none⟩] [(8, 0)])
   (.cond (.env 8) (.seq (.region [⟨.call 5, [], none, [], none⟩,
      ⟨.mv, [.loc 0], none, [], none⟩] [(1, 0)])
   (.ret)) (.skip)))
   (.seq (.region [⟨.mv, [.env 0], none, [], none⟩,
      ⟨.call 7, [.loc 0], none, [], none⟩,
      ⟨.call 6, [.loc 0], none, [], none⟩,
      ⟨.mv, [.loc 0], none, [], none⟩,
      ⟨.extract 0, [.loc 0], none, [], none⟩,
      ⟨.extract 1, [.loc 1], none, [], none⟩,
      ⟨.alloc 29 [.int .i64 0, .int .i64 0, .int .i64 0], [], none, [], none⟩,
      ⟨.mv, [.loc 2], none, [], none⟩,
      ⟨.store 3, [.loc 1, .loc 2], none, [], none⟩] [(2, 1), (3, 2)])
   (.seq (.region [⟨.mv, [.env 0], none, [], none⟩,
      ⟨.call 8, [.loc 0], none, [], none⟩,
      ⟨.alloc 29 [.int .i64 0, .int .i64 0, .int .i64 0], [], none, [], none⟩,
      ⟨.store 3, [.loc 0, .loc 1], none, [], none⟩] [(4, 1)])
   (.seq (.seq (.region [⟨.load 3 true, [.env 3], none, [], none⟩,
      ⟨.load 3 true, [.env 4], none, [], none⟩,
      ⟨.eqs true [0, 0, 0], [.loc 1, .loc 0], none, [], none⟩] [(9, 0)])
   (.cond (.env 9) (.seq (.region [⟨.mv, [.const (.bool false)], none, [], none⟩] [(1, 0)])
   (.ret)) (.skip)))
   (.seq (.seq (.region [⟨.faddr 0, [.env 4], none, [], none⟩,
      ⟨.load 1 false, [.loc 0], none, [], none⟩,
      ⟨.bin .neq, [.loc 0, .const (.int .i64 0)], none, [], none⟩] [(10, 0)])
   (.cond (.env 10) (.seq (.region [⟨.mv, [.env 2], none, [], none⟩,
      ⟨.len false, [.loc 0], none, [], none⟩,
      ⟨.bin .eql, [.loc 0, .const (.int .i64 0)], none, [], none⟩,
      ⟨.mv, [.loc 0], none, [], none⟩,
      ⟨.call 5, [], some (0, true), [], none⟩,
      ⟨.pick, [.loc 1, .loc 0, .const (.bool false)], none, [], none⟩,
      ⟨.mv, [.loc 0], none, [], none⟩] [(1, 0)])
   (.ret)) (.skip)))
   (.seq (.seq (.region [⟨.mv, [.env 2], none, [], none⟩,
      ⟨.len false, [.loc 0], none, [], none⟩,
      ⟨.mv, [.env 0], none, [], none⟩,
      ⟨.len false, [.loc 0], none, [], none⟩,
      ⟨.bin .neq, [.loc 2, .loc 0], none, [], none⟩,
      ⟨.mv, [.loc 0], none, [], none⟩,
      ⟨.mv, [.env 2], some (0, false), [], none⟩,
      ⟨.cap, [.loc 0], some (1, false), [], none⟩,
      ⟨.mv, [.env 2], some (2, false), [], none⟩,
      ⟨.len false, [.loc 0], some (3, false), [], none⟩,
      ⟨.bin .neq, [.loc 2, .loc 0], some (4, false), [], none⟩,
      ⟨.pick, [.loc 5, .const (.bool true), .loc 0], none, [], none⟩] [(11, 0)])
   (.cond (.env 11) (.seq (.region [⟨.mv, [.const (.bool false)], none, [], none⟩] [(1, 0)])
   (.ret)) (.skip)))
   (.seq (.seq (.region [⟨.mv, [.const (.int .i64 0)], none, [], none⟩] [(5, 0)])
   (.block 0 (.loop (.seq (.seq (.region [⟨.mv, [.env 5], none, [], none⟩,
      ⟨.mv, [.env 0], none, [], none⟩,
      ⟨.len false, [.loc 0], none, [], none⟩,
      ⟨.bin .lss, [.loc 2, .loc 0], none, [], none⟩] [(12, 0)])
   (.cond (.env 12) (.skip) (.exit 0)))
   (.seq (.block 1 (.seq (.region [⟨.mv, [.env 0], none, [], none⟩,
      ⟨.mv, [.env 5], none, [], none⟩,
      ⟨.iaddr 3, [.loc 1, .loc 0], none, [], none⟩,
      ⟨.load 3 true, [.loc 0], none, [], none⟩,
      ⟨.call 9, [.loc 0], none, [], none⟩,
      ⟨.mv, [.loc 0], none, [], none⟩] [(6, 0)])
   (.seq (.seq (.drawn [⟨.mv, [.env 2], none, [], none⟩,
      ⟨.mv, [.env 5], none, [false], none⟩,
      ⟨.iaddr 3, [.loc 1, .loc 0], none, [true, true], none⟩,
      ⟨.faddr 0, [.loc 0], none, [true, true, true], none⟩,
      ⟨.load 1 false, [.loc 0], none, [true, true, true, true], none⟩,
      ⟨.mv, [.env 5], none, [false, false, false, false, false], none⟩,
      ⟨.call 10, [.loc 0], none, [true, false, false, false, false, false], none⟩,
      ⟨.bin .neq, [.loc 2, .loc 0], none, [true, true, true, true, true, true, true], none⟩,
      ⟨.mv, [.loc 0], none, [true, true, true, true, true, true, true, true], none⟩,
      ⟨.mv, [.env 2], some (0, false), [true, true, true, true, true, true, true, true, true], none⟩,
      ⟨.mv, [.env 5], some (1, false), [false, true, true, true, true, true, true, true, true, true], none⟩,
      ⟨.iaddr 3, [.loc 1, .loc 0], some (2, false), [true, true, true, true, true, true, true, true, true, true, true], none⟩,
      ⟨.faddr 2, [.loc 0], some (3, false), [true, true, true, true, true, true, true, true, true, true, true, true], none⟩,
      ⟨.load 1 false, [.loc 0], some (4, false), [true, true, true, true, true, true, true, true, true, true, true, true, true], none⟩,
      ⟨.mv, [.env 0], some (5, false), [false, false, false, false, false, true, true, true, true, true, true, true, true, true], none⟩,
      ⟨.mv, [.env 5], some (6, false), [false, false, false, false, false, false, true, true, true, true, true, true, true, true, true], none⟩,
      ⟨.iaddr 3, [.loc 1, .loc 0], some (7, false), [true, true, false, false, false, false, false, true, true, true, true, true, true, true, true, true], none⟩,
      ⟨.load 3 true, [.loc 0], some (8, false), [true, true, true, false, false, false, false, false, true, true, true, true, true, true, true, true, true], none⟩,
      ⟨.call 11, [.loc 0], some (9, false), [true, true, true, true, false, false, false, false, false, true, true, true, true, true, true, true, true, true], none⟩,
      ⟨.bin .neq, [.loc 5, .loc 0], some (10, false), [true, true, true, true, true, true, true, true, true, true, true, true, true, true, true, true, true, true, true], none⟩,
      ⟨.pick, [.loc 11, .const (.bool true), .loc 0], none, [true, true, true, true, true, true, true, true, true, true, true, true, true, true, true, true, true, true, true, true], none⟩,
      ⟨.mv, [.loc 0], none, [true, true, true, true, true, true, true, true, true, true, true, true, true, true, true, true, true, true, true, true, true], none⟩,
      ⟨.mv, [.env 2], some (0, false), [true, true, true, true, true, true, true, true, true, true, true, true, true, true, true, true, true, true, true, true, true, true], none⟩,
      ⟨.mv, [.env 5], some (1, false), [false, true, true, true, true, true, true, true, true, true, true, true, true, true, true, true, true, true, true, true, true, true, true], none⟩,
      ⟨.iaddr 3, [.loc 1, .loc 0], some (2, false), [true, true, true, true, true, true, true, true, true, true, true, true, true, true, true, true, true, true, true, true, true, true, true, true], none⟩,
      ⟨.faddr 1, [.loc 0], some (3, false), [true, true, true, true, true, true, true, true, true, true, true, true, true, true, true, true, true, true, true, true, true, true, true, true, true], none⟩,
      ⟨.load 1 false, [.loc 0], some (4, false), [true, true, true, true, true, true, true, true, true, true, true, true, true, true, true, true, true, true, true, true, true, true, true, true, true, true], none⟩,
      ⟨.len false, [.loc 0], some (5, false), [true, true, true, true, true, true, true, true, true, true, true, true, true, true, true, true, true, true, true, true, true, true, true, true, true, true, true], none⟩,
      ⟨.mv, [.env 6], some (6, false), [false, false, false, false, false, false, true, true, true, true, true, true, true, true, true, true, true, true, true, true, true, true, true, true, true, true, true, true], none⟩,
      ⟨.len false, [.loc 0], some (7, false), [true, false, false, false, false, false, false, true, true, true, true, true, true, true, true, true, true, true, true, true, true, true, true, true, true, true, true, true, true], none⟩,
      ⟨.bin .neq, [.loc 2, .loc 0], some (8, false), [true, true, true, true, true, true, true, true, true, true, true, true, true, true, true, true, true, true, true, true, true, true, true, true, true, true, true, true, true, true], none⟩,
      ⟨.pick, [.loc 9, .const (.bool true), .loc 0], none, [true, true, true, true, true, true, true, true, true, true, true, true, true, true, true, true, true, true, true, true, true, true, true, true, true, true, true, true, true, true, true], none⟩] [(13, 0)] [])
   (.cond (.env 13) (.seq (.region [⟨.mv, [.const (.bool false)], none, [], none⟩] [(1, 0)])
   (.ret)) (.skip)))
   (.seq (.region [⟨.mv, [.const (.int .i64 0)], none, [], none⟩] [(7, 0)])
   (.block 2 (.loop (.seq (.seq (.region [⟨.mv, [.env 7], none, [], none⟩,
      ⟨.mv, [.env 6], none, [], none⟩,
      ⟨.len false, [.loc 0], none, [], none⟩,
      ⟨.bin .lss, [.loc 2, .loc 0], none, [], none⟩] [(14, 0)])
   (.cond (.env 14) (.skip) (.exit 2)))
   (.seq (.block 3 (.seq (.drawn [⟨.mv, [.env 2], none, [], none⟩,
      ⟨.mv, [.env 5], none, [false], none⟩,
      ⟨.iaddr 3, [.loc 1, .loc 0], none, [true, true], none⟩,
      ⟨.faddr 1, [.loc 0], none, [true, true, true], none⟩,
      ⟨.load 1 false, [.loc 0], none, [true, true, true, true], none⟩,
      ⟨.mv, [.env 7], none, [false, false, false, false, false], none⟩,
      ⟨.iaddr 1, [.loc 1, .loc 0], none, [true, true, true, true, true, true], none⟩,
      ⟨.load 1 false, [.loc 0], none, [true, true, true, true, true, true, true], none⟩,
      ⟨.mv, [.env 6], none, [false, false, false, false, false, false, false, false], none⟩,
      ⟨.mv, [.env 7], none, [false, false, false, false, false, false, false, false, false], none⟩,
      ⟨.iaddr 1, [.loc 1, .loc 0], none, [true, true, false, false, false, false, false, false, false, false], none⟩,
      ⟨.load 1 false, [.loc 0], none, [true, true, true, false, false, false, false, false, false, false, false], none⟩,
      ⟨.bin .neq, [.loc 4, .loc 0], none, [true, true, true, true, true, true, true, true, true, true, true, true], none⟩] [(15, 0)] [])
   (.cond (.env 15) (.seq (.region [⟨.mv, [.const (.bool false)], none, [], none⟩] [(1, 0)])
   (.ret)) (.skip))))
   (.region [⟨.mv, [.env 7], none, [], none⟩,
      ⟨.bin .add, [.loc 0, .const (.int .i64 1)], none, [], none⟩,
      ⟨.mv, [.loc 0], none, [], none⟩] [(7, 0)])))))))))
   (.region [⟨.mv, [.env 5], none, [], none⟩,
      ⟨.bin .add, [.loc 0, .const (.int .i64 1)], none, [], none⟩,
      ⟨.mv, [.loc 0], none, [], none⟩] [(5, 0)]))))))
   (.seq (.region [⟨.call 5, [], none, [], none⟩,
      ⟨.mv, [.loc 0], none, [], none⟩] [(1, 0)])
   (.ret))))))))),
   [.tmp 1]⟩
theorem F3_low : lowFn Try.prog false [0, 2, 3, 4, 5, 6, 7, 8, 11, 23, 26, 44, 48, 87, 91, 106] Try.f3 = some F3 := by as_aux_lemma => kernel_rfl
/-- columnseven/columnsevenlaw38.DeclarativesSelect [] -/
def F4 : LFunc := ⟨[0, 1, 2, 6, 7, 8, 9, 10, 11, 12, 13, 14, 15, 16, 17, 20, 25, 55, 68, 74, 82, 91], 3,
   .seq (.region [⟨.mv, [.const (.bool false)], none, [], none⟩] [(3, 0)])
   (.seq (.seq (.region [⟨.mv, [.env 0], none, [], none⟩,
      ⟨.len false, [.loc 0], none, [], none⟩,
      ⟨.bin .gtr, [.loc 0, .const (.int .i64 8)], none, [], none⟩] [(15, 0)])
   (.cond (.env 15) (.seq (.region [⟨.call 5, [], none, [], none⟩,
      ⟨.mv, [.loc 0], none, [], none⟩] [(3, 0)])
   (.ret)) (.skip)))
   (.seq (.region [⟨.mv, [.const (.nils)], none, [], none⟩] [(4, 0)])
   (.seq (.seq (.region [⟨.mv, [.const (.int .i64 0)], none, [], none⟩] [(5, 0)])
   (.block 0 (.loop (.seq (.seq (.region [⟨.mv, [.env 5], none, [], none⟩,
      ⟨.mv, [.env 0], none, [], none⟩,
      ⟨.len false, [.loc 0], none, [], none⟩,
      ⟨.bin .lss, [.loc 2, .loc 0], none, [], none⟩] [(16, 0)])
   (.cond (.env 16) (.skip) (.exit 0)))
   (.seq (.block 1 (.drawn [⟨.mv, [.env 4], none, [], none⟩,
      ⟨.mv, [.env 0], none, [false], none⟩,
      ⟨.mv, [.env 5], none, [false, false], none⟩,
      ⟨.iaddr 3, [.loc 1, .loc 0], none, [true, true, false], none⟩,
      ⟨.load 3 true, [.loc 0], none, [true, true, true, false], none⟩,
      ⟨.call 9, [.loc 0], none, [true, true, true, true, false], none⟩,
      ⟨.mv, [.env 0], none, [false, false, false, false, false, false], none⟩,
      ⟨.mv, [.env 5], none, [false, false, false, false, false, false, false], none⟩,
      ⟨.iaddr 3, [.loc 1, .loc 0], none, [true, true, false, false, false, false, false, false], none⟩,
      ⟨.load 3 true, [.loc 0], none, [true, true, true, false, false, false, false, false, false], none⟩,
      ⟨.call 11, [.loc 0], none, [true, true, true, true, true, true, true, true, true, false], none⟩,
      ⟨.build [.str ⟨#[]⟩, .nils, .int .u8 0] [(1, 1), (2, 1)], [.loc 5, .loc 0], none, [true, true, true, true, true, true, true, true, true, true, false], none⟩,
      ⟨.bslice 47 3 1 [.str ⟨#[]⟩, .nils, .int .u8 0] [0] 1, [.loc 0], none, [true, true, true, true, true, true, true, true, true, true, true, false], none⟩,
      ⟨.append 47 3 48 1, [.loc 12, .loc 0], none, [true, true, true, true, true, true, true, true, true, true, true, true, true], none⟩,
      ⟨.mv, [.loc 0], none, [true, true, true, true, true, true, true, true, true, true, true, true, true, true], none⟩] [(4, 0)] []))
   (.region [⟨.mv, [.env 5], none, [], none⟩,
      ⟨.bin .add, [.loc 0, .const (.int .i64 1)], none, [], none⟩,
      ⟨.mv, [.loc 0], none, [], none⟩] [(5, 0)]))))))
   (.seq (.region [⟨.mv, [.env 1], none, [], none⟩,
      ⟨.bin .rem, [.loc 0, .const (.int .u8 5)], none, [], none⟩,
      ⟨.mv, [.env 1], none, [], none⟩,
      ⟨.bin .rem, [.loc 0, .const (.int .u8 5)], none, [], none⟩,
      ⟨.bin .add, [.loc 0, .const (.int .u8 1)], none, [], none⟩,
      ⟨.slice true 0 true true false, [.const (.str ⟨#[48, 49, 50, 51, 52]⟩), .loc 3, .loc 0], none, [], none⟩,
      ⟨.bin .add, [.const (.str ⟨#[70]⟩), .loc 0], none, [], none⟩,
      ⟨.mv, [.loc 0], none, [], none⟩] [(6, 0)])
   (.seq (.region [⟨.mv, [.env 2], none, [], none⟩,
      ⟨.bin .rem, [.loc 0, .const (.int .u8 7)], none, [], none⟩,
      ⟨.mv, [.loc 0], none, [], none⟩] [(7, 0)])
   (.seq (.region [⟨.mv, [.const (.int .i64 0)], none, [], none⟩,
      ⟨.mv, [.const (.bool false)], none, [], none⟩] [(8, 1), (9, 0)])
   (.seq (.seq (.region [⟨.mv, [.env 0], none, [], none⟩,
      ⟨.len false, [.loc 0], none, [], none⟩,
      ⟨.bin .sub, [.loc 0, .const (.int .i64 1)], none, [], none⟩,
      ⟨.mv, [.loc 0], none, [], none⟩] [(10, 0)])
   (.block 2 (.loop (.seq (.seq (.region [⟨.mv, [.env 10], none, [], none⟩,
      ⟨.bin .geq, [.loc 0, .const (.int .i64 0)], none, [], none⟩] [(17, 0)])
   (.cond (.env 17) (.skip) (.exit 2)))
   (.seq (.block 3 (.seq (.region [⟨.mv, [.env 0], none, [], none⟩,
      ⟨.mv, [.env 10], none, [], none⟩,
      ⟨.iaddr 3, [.loc 1, .loc 0], none, [], none⟩,
      ⟨.load 3 true, [.loc 0], none, [], none⟩,
      ⟨.call 11, [.loc 0], none, [], none⟩,
      ⟨.mv, [.env 7], none, [], none⟩,
      ⟨.bin .eql, [.loc 1, .loc 0], none, [], none⟩,
      ⟨.mv, [.loc 0], none, [], none⟩,
      ⟨.mv, [.env 7], some (0, true), [], none⟩,
      ⟨.bin .gtr, [.loc 0, .const (.int .u8 0)], some (1, true), [], none⟩,
      ⟨.pick, [.loc 2, .loc 0, .const (.bool false)], none, [], none⟩] [(18, 0)])
   (.cond (.env 18) (.region [⟨.mv, [.env 10], none, [], none⟩,
      ⟨.mv, [.loc 0], none, [], none⟩,
      ⟨.mv, [.const (.bool true)], none, [], none⟩] [(8, 1), (9, 0)]) (.skip))))
   (.region [⟨.mv, [.env 10], none, [], none⟩,
      ⟨.bin .sub, [.loc 0, .const (.int .i64 1)], none, [], none⟩,
      ⟨.mv, [.loc 0], none, [], none⟩] [(10, 0)]))))))
   (.seq (.seq (.region [⟨.mv, [.env 0], none, [], none⟩,
      ⟨.len false, [.loc 0], none, [], none⟩,
      ⟨.bin .sub, [.loc 0, .const (.int .i64 1)], none, [], none⟩,
      ⟨.mv, [.loc 0], none, [], none⟩] [(11, 0)])
   (.block 4 (.loop (.seq (.seq (.region [⟨.mv, [.env 11], none, [], none⟩,
      ⟨.bin .geq, [.loc 0, .const (.int .i64 0)], none, [], none⟩] [(19, 0)])
   (.cond (.env 19) (.skip) (.exit 4)))
   (.seq (.block 5 (.seq (.region [⟨.mv, [.env 0], none, [], none⟩,
      ⟨.len false, [.loc 0], none, [], none⟩,
      ⟨.bin .sub, [.loc 0, .const (.int .i64 1)], none, [], none⟩,
      ⟨.mv, [.loc 0], none, [], none⟩] [(12, 0)])
   (.block 6 (.loop (.seq (.seq (.region [⟨.mv, [.env 12], none, [], none⟩,
      ⟨.mv, [.env 11], none, [], none⟩,
      ⟨.bin .geq, [.loc 1, .loc 0], none, [], none⟩] [(20, 0)])
   (.cond (.env 20) (.skip) (.exit 6)))
   (.seq (.block 7 (.seq (.region [⟨.mv, [.env 0], none, [], none⟩,
      ⟨.mv, [.env 11], none, [], none⟩,
      ⟨.iaddr 3, [.loc 1, .loc 0], none, [], none⟩,
      ⟨.load 3 true, [.loc 0], none, [], none⟩,
      ⟨.call 9, [.loc 0], none, [], none⟩,
      ⟨.mv, [.env 6], none, [], none⟩,
      ⟨.call 12, [.loc 1, .loc 0], none, [], none⟩] [(21, 0)])
   (.cond (.env 21) (.region [⟨.mv, [.env 11], none, [], none⟩,
      ⟨.mv, [.loc 0], none, [], none⟩,
      ⟨.mv, [.const (.bool true)], none, [], none⟩] [(8, 1), (9, 0)]) (.skip))))
   (.region [⟨.mv, [.env 12], none, [], none⟩,
      ⟨.bin .sub, [.loc 0, .const (.int .i64 1)], none, [], none⟩,
      ⟨.mv, [.loc 0], none, [], none⟩] [(12, 0)])))))))
   (.region [⟨.mv, [.env 11], none, [], none⟩,
      ⟨.bin .sub, [.loc 0, .const (.int .i64 1)], none, [], none⟩,
      ⟨.mv, [.loc 0], none, [], none⟩] [(11, 0)]))))))
   (.seq (.region [⟨.mv, [.env 4], none, [], none⟩,
      ⟨.mv, [.env 6], none, [], none⟩,
      ⟨.mv, [.env 7], none, [], none⟩,
      ⟨.call 13, [.loc 2, .loc 1, .loc 0], none, [], none⟩,
      ⟨.mv, [.loc 0], none, [], none⟩,
      ⟨.extract 0, [.loc 0], none, [], none⟩,
      ⟨.extract 1, [.loc 1], none, [], none⟩,
      ⟨.mv, [.loc 1], none, [], none⟩,
      ⟨.mv, [.loc 1], none, [], none⟩] [(13, 1), (14, 0)])
   (.seq (.region [⟨.mv, [.env 13], none, [], none⟩,
      ⟨.mv, [.env 8], none, [], none⟩,
      ⟨.bin .eql, [.loc 1, .loc 0], none, [], none⟩,
      ⟨.mv, [.loc 0], none, [], none⟩,
      ⟨.mv, [.env 14], some (0, true), [], none⟩,
      ⟨.mv, [.env 9], some (1, true), [], none⟩,
      ⟨.eqb false, [.loc 1, .loc 0], some (2, true), [], none⟩,
      ⟨.pick, [.loc 3, .loc 0, .const (.bool false)], none, [], none⟩,
      ⟨.mv, [.loc 0], none, [], none⟩,
      ⟨.call 5, [], some (0, true), [], none⟩,
      ⟨.pick, [.loc 1, .loc 0, .const (.bool false)], none, [], none⟩,
      ⟨.mv, [.loc 0], none, [], none⟩] [(3, 0)])
   (.ret))))))))))),
   [.tmp 3]⟩
theorem F4_low : lowFn Try.prog false [0, 1, 2, 6, 7, 8, 9, 10, 11, 12, 13, 14, 15, 16, 17, 20, 25, 55, 68, 74, 82, 91] Try.f4 = some F4 := by as_aux_lemma => kernel_rfl
/-- columnseven/columnsevenlaw38.lives [] -/
def F5 : LFunc := ⟨[0, 1, 2, 3, 4, 5, 6, 7, 8, 9, 10, 11, 13, 23, 38, 118], 0,
   .seq (.region [⟨.mv, [.const (.bool false)], none, [], none⟩] [(0, 0)])
   (.seq (.region [⟨.build [.str ⟨#[]⟩, .str ⟨#[]⟩, .int .u8 0, .int .u8 0, .nils, .nils, .nils, .bool false, .nils, .nils, .int .i64 0, .int .i64 0] [(0, 1)], [.const (.str ⟨#[70]⟩)], none, [], none⟩,
      ⟨.build [.str ⟨#[]⟩, .str ⟨#[]⟩, .int .u8 0, .int .u8 0, .nils, .nils, .nils, .bool false, .nils, .nils, .int .i64 0, .int .i64 0] [(0, 1)], [.const (.str ⟨#[71]⟩)], none, [], none⟩,
      ⟨.build [.str ⟨#[]⟩, .str ⟨#[]⟩, .int .u8 0, .int .u8 0, .nils, .nils, .nils, .bool false, .nils, .nils, .int .i64 0, .int .i64 0] [(0, 1)], [.const (.str ⟨#[72]⟩)], none, [], none⟩,
      ⟨.bslice 57 12 3 [.str ⟨#[]⟩, .str ⟨#[]⟩, .int .u8 0, .int .u8 0, .nils, .nils, .nils, .bool false, .nils, .nils, .int .i64 0, .int .i64 0] [0, 1, 2] 1, [.loc 2, .loc 1, .loc 0], none, [], none⟩,
      ⟨.build [.str ⟨#[]⟩, .nils, .nils, .nils, .nils, .nils, .nils, .nils, .nils] [(1, 1)], [.loc 0], none, [], none⟩,
      ⟨.alloc 39 [.str ⟨#[]⟩, .nils, .nils, .nils, .nils, .nils, .nils, .nils, .nils], [], none, [], none⟩,
      ⟨.store 9, [.loc 0, .loc 1], none, [], none⟩] [(1, 1)])
   (.seq (.region [⟨.bslice 9 1 6 [.str ⟨#[]⟩] [0, 1, 2, 3, 4, 5] 1, [.const (.str ⟨#[65, 70, 84, 69, 82]⟩), .const (.str ⟨#[69, 82, 82, 79, 82]⟩), .const (.str ⟨#[80, 82, 79, 67, 69, 68, 85, 82, 69]⟩), .const (.str ⟨#[79, 78]⟩), .const (.str ⟨#[70]⟩), .const (.str ⟨#[71]⟩)], none, [], none⟩,
      ⟨.bslice 9 1 5 [.str ⟨#[]⟩] [0, 1, 2, 3, 4] 1, [.const (.str ⟨#[65, 70, 84, 69, 82]⟩), .const (.str ⟨#[83, 84, 65, 78, 68, 65, 82, 68]⟩), .const (.str ⟨#[69, 88, 67, 69, 80, 84, 73, 79, 78]⟩), .const (.str ⟨#[80, 82, 79, 67, 69, 68, 85, 82, 69]⟩), .const (.str ⟨#[73, 78, 80, 85, 84]⟩)], none, [], none⟩,
      ⟨.bslice 35 1 2 [.nils] [0, 1] 1, [.loc 1, .loc 0], none, [], none⟩,
      ⟨.mv, [.loc 0], none, [], none⟩] [(2, 0)])
   (.seq (.seq (.region [⟨.mv, [.const (.int .i64 0)], none, [], none⟩] [(3, 0)])
   (.block 0 (.loop (.seq (.seq (.region [⟨.mv, [.env 3], none, [], none⟩,
      ⟨.bin .lss, [.loc 0, .const (.int .i64 2)], none, [], none⟩] [(13, 0)])
   (.cond (.env 13) (.skip) (.exit 0)))
   (.seq (.block 1 (.seq (.region [⟨.mv, [.env 3], none, [], none⟩,
      ⟨.mv, [.env 3], none, [], none⟩,
      ⟨.bin .add, [.loc 0, .const (.int .i64 1)], none, [], none⟩,
      ⟨.slice true 0 true true false, [.const (.str ⟨#[49, 50]⟩), .loc 2, .loc 0], none, [], none⟩,
      ⟨.bin .add, [.const (.str ⟨#[85]⟩), .loc 0], none, [], none⟩,
      ⟨.build [.str ⟨#[]⟩, .nils, .nils] [(0, 1)], [.loc 0], none, [], none⟩,
      ⟨.alloc 60 [.str ⟨#[]⟩, .nils, .nils], [], none, [], none⟩,
      ⟨.store 3, [.loc 0, .loc 1], none, [], none⟩] [(4, 1)])
   (.seq (.seq (.region [⟨.mv, [.const (.int .i64 0)], none, [], none⟩] [(5, 0)])
   (.block 2 (.loop (.seq (.seq (.region [⟨.mv, [.env 5], none, [], none⟩,
      ⟨.mv, [.env 2], none, [], none⟩,
      ⟨.mv, [.env 3], none, [], none⟩,
      ⟨.iaddr 1, [.loc 1, .loc 0], none, [], none⟩,
      ⟨.load 1 false, [.loc 0], none, [], none⟩,
      ⟨.len false, [.loc 0], none, [], none⟩,
      ⟨.bin .lss, [.loc 5, .loc 0], none, [], none⟩] [(14, 0)])
   (.cond (.env 14) (.skip) (.exit 2)))
   (.seq (.block 3 (.drawn [⟨.faddr 1, [.env 4], none, [], none⟩,
      ⟨.load 1 false, [.loc 0], none, [true], none⟩,
      ⟨.mv, [.env 2], none, [false, false], none⟩,
      ⟨.mv, [.env 3], none, [false, false, false], none⟩,
      ⟨.iaddr 1, [.loc 1, .loc 0], none, [true, true, false, false], none⟩,
      ⟨.load 1 false, [.loc 0], none, [true, true, true, false, false], none⟩,
      ⟨.mv, [.env 5], none, [false, false, false, false, false, false], none⟩,
      ⟨.iaddr 1, [.loc 1, .loc 0], none, [true, true, true, true, true, false, false], none⟩,
      ⟨.load 1 false, [.loc 0], none, [true, true, true, true, true, true, false, false], none⟩,
      ⟨.build [.int .u8 0, .str ⟨#[]⟩, .int .i64 0, .int .i64 0, .bool false] [(0, 1), (1, 1)], [.const (.int .u8 1), .loc 0], none, [true, true, true, true, true, true, true, false, false], none⟩,
      ⟨.bslice 63 5 1 [.int .u8 0, .str ⟨#[]⟩, .int .i64 0, .int .i64 0, .bool false] [0] 1, [.loc 0], none, [true, true, true, true, true, true, true, true, false, false], none⟩,
      ⟨.append 63 5 48 1, [.loc 9, .loc 0], none, [true, true, true, true, true, true, true, true, true, true, true], none⟩,
      ⟨.faddr 1, [.env 4], none, [true, true, true, true, true, true, true, true, true, true, true, true], none⟩,
      ⟨.store 1, [.loc 0, .loc 1], none, [true, true, true, true, true, true, true, true, true, true, true, true, true], none⟩] [] []))
   (.region [⟨.mv, [.env 5], none, [], none⟩,
      ⟨.bin .add, [.loc 0, .const (.int .i64 1)], none, [], none⟩,
      ⟨.mv, [.loc 0], none, [], none⟩] [(5, 0)]))))))
   (.region [⟨.faddr 7, [.env 1], none, [], none⟩,
      ⟨.load 1 false, [.loc 0], none, [], none⟩,
      ⟨.load 3 true, [.env 4], none, [], none⟩,
      ⟨.bslice 60 3 1 [.str ⟨#[]⟩, .nils, .nils] [0] 1, [.loc 0], none, [], none⟩,
      ⟨.append 60 3 64 1, [.loc 2, .loc 0], none, [], none⟩,
      ⟨.faddr 7, [.env 1], none, [], none⟩,
      ⟨.store 1, [.loc 0, .loc 1], none, [], none⟩] []))))
   (.region [⟨.mv, [.env 3], none, [], none⟩,
      ⟨.bin .add, [.loc 0, .const (.int .i64 1)], none, [], none⟩,
      ⟨.mv, [.loc 0], none, [], none⟩] [(3, 0)]))))))
   (.seq (.region [⟨.load 9 true, [.env 1], none, [], none⟩,
      ⟨.call 6, [.loc 0], none, [], none⟩,
      ⟨.mv, [.loc 0], none, [], none⟩,
      ⟨.extract 0, [.loc 0], none, [], none⟩,
      ⟨.extract 1, [.loc 1], none, [], none⟩,
      ⟨.alloc 29 [.int .i64 0, .int .i64 0, .int .i64 0], [], none, [], none⟩,
      ⟨.mv, [.loc 2], none, [], none⟩,
      ⟨.store 3, [.loc 1, .loc 2], none, [], none⟩] [(6, 1), (7, 2)])
   (.seq (.seq (.region [⟨.faddr 0, [.env 7], none, [], none⟩,
      ⟨.load 1 false, [.loc 0], none, [], none⟩,
      ⟨.bin .neq, [.loc 0, .const (.int .i64 0)], none, [], none⟩,
      ⟨.mv, [.loc 0], none, [], none⟩,
      ⟨.mv, [.env 6], some (0, false), [], none⟩,
      ⟨.len false, [.loc 0], some (1, false), [], none⟩,
      ⟨.bin .neq, [.loc 0, .const (.int .i64 2)], some (2, false), [], none⟩,
      ⟨.pick, [.loc 3, .const (.bool true), .loc 0], none, [], none⟩,
      ⟨.mv, [.loc 0], none, [], none⟩,
      ⟨.mv, [.env 6], some (0, false), [], none⟩,
      ⟨.iaddr 3, [.loc 0, .const (.int .i64 0)], some (1, false), [], none⟩,
      ⟨.faddr 0, [.loc 0], some (2, false), [], none⟩,
      ⟨.load 1 false, [.loc 0], some (3, false), [], none⟩,
      ⟨.bin .neq, [.loc 0, .const (.str ⟨#[85, 49]⟩)], some (4, false), [], none⟩,
      ⟨.pick, [.loc 5, .const (.bool true), .loc 0], none, [], none⟩,
      ⟨.mv, [.loc 0], none, [], none⟩,
      ⟨.mv, [.env 6], some (0, false), [], none⟩,
      ⟨.iaddr 3, [.loc 0, .const (.int .i64 0)], some (1, false), [], none⟩,
      ⟨.faddr 1, [.loc 0], some (2, false), [], none⟩,
      ⟨.load 1 false, [.loc 0], some (3, false), [], none⟩,
      ⟨.len false, [.loc 0], some (4, false), [], none⟩,
      ⟨.bin .neq, [.loc 0, .const (.int .i64 2)], some (5, false), [], none⟩,
      ⟨.pick, [.loc 6, .const (.bool true), .loc 0], none, [], none⟩,
      ⟨.mv, [.loc 0], none, [], none⟩,
      ⟨.mv, [.env 6], some (0, false), [], none⟩,
      ⟨.iaddr 3, [.loc 0, .const (.int .i64 0)], some (1, false), [], none⟩,
      ⟨.faddr 1, [.loc 0], some (2, false), [], none⟩,
      ⟨.load 1 false, [.loc 0], some (3, false), [], none⟩,
      ⟨.iaddr 1, [.loc 0, .const (.int .i64 0)], some (4, false), [], none⟩,
      ⟨.load 1 false, [.loc 0], some (5, false), [], none⟩,
      ⟨.bin .neq, [.loc 0, .const (.str ⟨#[70]⟩)], some (6, false), [], none⟩,
      ⟨.pick, [.loc 7, .const (.bool true), .loc 0], none, [], none⟩,
      ⟨.mv, [.loc 0], none, [], none⟩,
      ⟨.mv, [.env 6], some (0, false), [], none⟩,
      ⟨.iaddr 3, [.loc 0, .const (.int .i64 1)], some (1, false), [], none⟩,
      ⟨.faddr 0, [.loc 0], some (2, false), [], none⟩,
      ⟨.load 1 false, [.loc 0], some (3, false), [], none⟩,
      ⟨.bin .neq, [.loc 0, .const (.str ⟨#[85, 50]⟩)], some (4, false), [], none⟩,
      ⟨.pick, [.loc 5, .const (.bool true), .loc 0], none, [], none⟩,
      ⟨.mv, [.loc 0], none, [], none⟩,
      ⟨.mv, [.env 6], some (0, false), [], none⟩,
      ⟨.iaddr 3, [.loc 0, .const (.int .i64 1)], some (1, false), [], none⟩,
      ⟨.faddr 2, [.loc 0], some (2, false), [], none⟩,
      ⟨.load 1 false, [.loc 0], some (3, false), [], none⟩,
      ⟨.bin .neq, [.loc 0, .const (.int .u8 1)], some (4, false), [], none⟩,
      ⟨.pick, [.loc 5, .const (.bool true), .loc 0], none, [], none⟩,
      ⟨.mv, [.loc 0], none, [], none⟩,
      ⟨.mv, [.env 6], some (0, false), [], none⟩,
      ⟨.iaddr 3, [.loc 0, .const (.int .i64 1)], some (1, false), [], none⟩,
      ⟨.faddr 1, [.loc 0], some (2, false), [], none⟩,
      ⟨.load 1 false, [.loc 0], some (3, false), [], none⟩,
      ⟨.len false, [.loc 0], some (4, false), [], none⟩,
      ⟨.bin .neq, [.loc 0, .const (.int .i64 0)], some (5, false), [], none⟩,
      ⟨.pick, [.loc 6, .const (.bool true), .loc 0], none, [], none⟩] [(15, 0)])
   (.cond (.env 15) (.seq (.region [⟨.mv, [.const (.bool false)], none, [], none⟩] [(0, 0)])
   (.ret)) (.skip)))
   (.seq (.region [⟨.mv, [.env 6], none, [], none⟩,
      ⟨.call 13, [.loc 0, .const (.str ⟨#[70]⟩), .const (.int .u8 1)], none, [], none⟩,
      ⟨.mv, [.loc 0], none, [], none⟩,
      ⟨.extract 0, [.loc 0], none, [], none⟩,
      ⟨.extract 1, [.loc 1], none, [], none⟩,
      ⟨.mv, [.loc 1], none, [], none⟩,
      ⟨.mv, [.loc 1], none, [], none⟩] [(8, 1), (9, 0)])
   (.seq (.region [⟨.mv, [.env 6], none, [], none⟩,
      ⟨.call 13, [.loc 0, .const (.str ⟨#[72]⟩), .const (.int .u8 1)], none, [], none⟩,
      ⟨.mv, [.loc 0], none, [], none⟩,
      ⟨.extract 0, [.loc 0], none, [], none⟩,
      ⟨.extract 1, [.loc 1], none, [], none⟩,
      ⟨.mv, [.loc 1], none, [], none⟩,
      ⟨.mv, [.loc 1], none, [], none⟩] [(10, 1), (11, 0)])
   (.seq (.region [⟨.mv, [.env 6], none, [], none⟩,
      ⟨.call 13, [.loc 0, .const (.str ⟨#[72]⟩), .const (.int .u8 2)], none, [], none⟩,
      ⟨.mv, [.loc 0], none, [], none⟩,
      ⟨.extract 0, [.loc 0], none, [], none⟩,
      ⟨.extract 1, [.loc 1], none, [], none⟩,
      ⟨.mv, [.loc 1], none, [], none⟩,
      ⟨.mv, [.loc 1], none, [], none⟩] [(12, 0)])
   (.seq (.region [⟨.mv, [.env 8], none, [], none⟩,
      ⟨.bin .eql, [.loc 0, .const (.int .i64 0)], none, [], none⟩,
      ⟨.mv, [.loc 0], none, [], none⟩,
      ⟨.mv, [.env 9], some (0, true), [], none⟩,
      ⟨.pick, [.loc 1, .loc 0, .const (.bool false)], none, [], none⟩,
      ⟨.mv, [.loc 0], none, [], none⟩,
      ⟨.mv, [.env 10], some (0, true), [], none⟩,
      ⟨.bin .eql, [.loc 0, .const (.int .i64 1)], some (1, true), [], none⟩,
      ⟨.pick, [.loc 2, .loc 0, .const (.bool false)], none, [], none⟩,
      ⟨.mv, [.loc 0], none, [], none⟩,
      ⟨.mv, [.env 11], some (0, true), [], none⟩,
      ⟨.pick, [.loc 1, .loc 0, .const (.bool false)], none, [], none⟩,
      ⟨.mv, [.loc 0], none, [], none⟩,
      ⟨.mv, [.env 12], some (0, true), [], none⟩,
      ⟨.un .not, [.loc 0], some (1, true), [], none⟩,
      ⟨.pick, [.loc 2, .loc 0, .const (.bool false)], none, [], none⟩,
      ⟨.mv, [.loc 0], none, [], none⟩] [(0, 0)])
   (.ret)))))))))),
   [.tmp 0]⟩
theorem F5_low : lowFn Try.prog false [0, 1, 2, 3, 4, 5, 6, 7, 8, 9, 10, 11, 13, 23, 38, 118] Try.f5 = some F5 := by as_aux_lemma => kernel_rfl
/-- columnseven/declaratives.Rules [] -/
def F6 : LFunc := ⟨[0, 1, 2, 3, 4, 6, 7, 8, 10, 11, 12, 13, 25], 1,
   .seq (.region [⟨.box 39 9, [.env 0], none, [], none⟩,
      ⟨.mv, [.const (.nils)], none, [], none⟩,
      ⟨.alloc 29 [.int .i64 0, .int .i64 0, .int .i64 0], [], none, [], none⟩] [(1, 2), (2, 1), (3, 0)])
   (.seq (.region [⟨.mv, [.const (.nils)], none, [], none⟩] [(4, 0)])
   (.seq (.seq (.region [⟨.faddr 7, [.env 1], none, [], none⟩,
      ⟨.load 1 false, [.loc 0], none, [], none⟩,
      ⟨.len false, [.loc 0], none, [], none⟩,
      ⟨.mv, [.const (.int .i64 0)], none, [], none⟩] [(8, 2), (9, 1), (10, 0)])
   (.block 0 (.loop (.seq (.region [⟨.bin .lss, [.env 10, .env 9], none, [], none⟩] [(11, 0)])
   (.seq (.cond (.env 11) (.skip) (.exit 0))
   (.seq (.block 1 (.seq (.region [⟨.iaddr 3, [.env 8, .env 10], none, [], none⟩,
      ⟨.load 3 true, [.loc 0], none, [], none⟩,
      ⟨.alloc 60 [.str ⟨#[]⟩, .nils, .nils], [], none, [], none⟩,
      ⟨.store 3, [.loc 0, .loc 1], none, [], none⟩] [(5, 1)])
   (.seq (.region [⟨.load 9 true, [.env 1], none, [], none⟩,
      ⟨.mv, [.env 4], none, [], none⟩,
      ⟨.load 3 true, [.env 5], none, [], none⟩,
      ⟨.call 14, [.loc 2, .loc 1, .loc 0], none, [], none⟩,
      ⟨.mv, [.loc 0], none, [], none⟩,
      ⟨.extract 0, [.loc 0], none, [], none⟩,
      ⟨.extract 1, [.loc 1], none, [], none⟩,
      ⟨.alloc 47 [.str ⟨#[]⟩, .nils, .int .u8 0], [], none, [], none⟩,
      ⟨.alloc 29 [.int .i64 0, .int .i64 0, .int .i64 0], [], none, [], none⟩,
      ⟨.store 3, [.loc 1, .loc 3], none, [], none⟩,
      ⟨.store 3, [.loc 1, .loc 3], none, [], none⟩] [(6, 3), (7, 2)])
   (.seq (.seq (.region [⟨.faddr 0, [.env 7], none, [], none⟩,
      ⟨.load 1 false, [.loc 0], none, [], none⟩,
      ⟨.bin .neq, [.loc 0, .const (.int .i64 0)], none, [], none⟩] [(12, 0)])
   (.cond (.env 12) (.seq (.drawn [⟨.load 3 true, [.env 7], none, [], none⟩,
      ⟨.mv, [.const (.nils)], none, [false], none⟩,
      ⟨.store 3, [.env 3, .loc 1], none, [true, true], none⟩] [(2, 1)] [])
   (.ret)) (.skip)))
   (.region [⟨.mv, [.env 4], none, [], none⟩,
      ⟨.load 3 true, [.env 6], none, [], none⟩,
      ⟨.bslice 47 3 1 [.str ⟨#[]⟩, .nils, .int .u8 0] [0] 1, [.loc 0], none, [], none⟩,
      ⟨.append 47 3 48 1, [.loc 2, .loc 0], none, [], none⟩,
      ⟨.mv, [.loc 0], none, [], none⟩] [(4, 0)])))))
   (.region [⟨.bin .add, [.env 10, .const (.int .i64 1)], none, [], none⟩,
      ⟨.mv, [.loc 0], none, [], none⟩] [(10, 0)])))))))
   (.seq (.region [⟨.mv, [.env 4], none, [], none⟩,
      ⟨.call 15, [.loc 0], none, [], none⟩,
      ⟨.build [.int .i64 0, .int .i64 0, .int .i64 0] [], [], none, [], none⟩,
      ⟨.mv, [.loc 1], none, [], none⟩,
      ⟨.store 3, [.env 3, .loc 1], none, [], none⟩] [(2, 1)])
   (.ret)))),
   [.tmp 2, .cell 3 3 true]⟩
theorem F6_low : lowFn Try.prog false [0, 1, 2, 3, 4, 6, 7, 8, 10, 11, 12, 13, 25] Try.f6 = some F6 := by as_aux_lemma => kernel_rfl
/-- columnseven/columnsevenlaw38.program [] -/
def F7 : LFunc := ⟨[0, 2, 3, 4, 5, 6, 7, 8, 9, 11, 22, 34, 48], 1,
   .seq (.region [⟨.alloc 39 [.str ⟨#[]⟩, .nils, .nils, .nils, .nils, .nils, .nils, .nils, .nils], [], none, [], none⟩] [(1, 0)])
   (.seq (.region [⟨.alloc 39 [.str ⟨#[]⟩, .nils, .nils, .nils, .nils, .nils, .nils, .nils, .nils], [], none, [], none⟩] [(2, 0)])
   (.seq (.seq (.region [⟨.mv, [.const (.int .i64 0)], none, [], none⟩] [(3, 0)])
   (.block 0 (.loop (.seq (.seq (.region [⟨.mv, [.env 3], none, [], none⟩,
      ⟨.bin .lss, [.loc 0, .const (.int .i64 4)], none, [], none⟩] [(9, 0)])
   (.cond (.env 9) (.skip) (.exit 0)))
   (.seq (.block 1 (.seq (.region [⟨.mv, [.env 3], none, [], none⟩,
      ⟨.mv, [.env 3], none, [], none⟩,
      ⟨.bin .add, [.loc 0, .const (.int .i64 1)], none, [], none⟩,
      ⟨.slice true 0 true true false, [.const (.str ⟨#[48, 49, 50, 51]⟩), .loc 2, .loc 0], none, [], none⟩,
      ⟨.bin .add, [.const (.str ⟨#[70]⟩), .loc 0], none, [], none⟩,
      ⟨.build [.str ⟨#[]⟩, .str ⟨#[]⟩, .int .u8 0, .int .u8 0, .nils, .nils, .nils, .bool false, .nils, .nils, .int .i64 0, .int .i64 0] [(0, 1)], [.loc 0], none, [], none⟩,
      ⟨.alloc 57 [.str ⟨#[]⟩, .str ⟨#[]⟩, .int .u8 0, .int .u8 0, .nils, .nils, .nils, .bool false, .nils, .nils, .int .i64 0, .int .i64 0], [], none, [], none⟩,
      ⟨.store 12, [.loc 0, .loc 1], none, [], none⟩] [(4, 1)])
   (.seq (.seq (.region [⟨.mv, [.env 3], none, [], none⟩,
      ⟨.bin .rem, [.loc 0, .const (.int .i64 2)], none, [], none⟩,
      ⟨.bin .eql, [.loc 0, .const (.int .i64 0)], none, [], none⟩] [(10, 0)])
   (.cond (.env 10) (.region [⟨.bslice 9 1 1 [.str ⟨#[]⟩] [0] 1, [.const (.str ⟨#[83]⟩)], none, [], none⟩,
      ⟨.faddr 6, [.env 4], none, [], none⟩,
      ⟨.store 1, [.loc 0, .loc 1], none, [], none⟩] []) (.skip)))
   (.region [⟨.faddr 1, [.env 2], none, [], none⟩,
      ⟨.load 1 false, [.loc 0], none, [], none⟩,
      ⟨.load 12 true, [.env 4], none, [], none⟩,
      ⟨.bslice 57 12 1 [.str ⟨#[]⟩, .str ⟨#[]⟩, .int .u8 0, .int .u8 0, .nils, .nils, .nils, .bool false, .nils, .nils, .int .i64 0, .int .i64 0] [0] 1, [.loc 0], none, [], none⟩,
      ⟨.append 57 12 184 1, [.loc 2, .loc 0], none, [], none⟩,
      ⟨.faddr 1, [.env 2], none, [], none⟩,
      ⟨.store 1, [.loc 0, .loc 1], none, [], none⟩] []))))
   (.region [⟨.mv, [.env 3], none, [], none⟩,
      ⟨.bin .add, [.loc 0, .const (.int .i64 1)], none, [], none⟩,
      ⟨.mv, [.loc 0], none, [], none⟩] [(3, 0)]))))))
   (.seq (.seq (.region [⟨.mv, [.const (.int .i64 0)], none, [], none⟩] [(5, 0)])
   (.block 2 (.loop (.seq (.seq (.region [⟨.mv, [.env 5], none, [], none⟩,
      ⟨.mv, [.env 0], none, [], none⟩,
      ⟨.len false, [.loc 0], none, [], none⟩,
      ⟨.bin .lss, [.loc 2, .loc 0], none, [], none⟩] [(11, 0)])
   (.cond (.env 11) (.skip) (.exit 2)))
   (.seq (.block 3 (.seq (.region [⟨.mv, [.env 5], none, [], none⟩,
      ⟨.call 10, [.loc 0], none, [], none⟩,
      ⟨.build [.str ⟨#[]⟩, .nils, .nils] [(0, 1)], [.loc 0], none, [], none⟩,
      ⟨.alloc 60 [.str ⟨#[]⟩, .nils, .nils], [], none, [], none⟩,
      ⟨.store 3, [.loc 0, .loc 1], none, [], none⟩] [(6, 1)])
   (.seq (.region [⟨.mv, [.env 0], none, [], none⟩,
      ⟨.mv, [.env 5], none, [], none⟩,
      ⟨.iaddr 3, [.loc 1, .loc 0], none, [], none⟩,
      ⟨.load 3 true, [.loc 0], none, [], none⟩,
      ⟨.call 16, [.loc 0], none, [], none⟩,
      ⟨.mv, [.loc 0], none, [], none⟩] [(7, 0)])
   (.seq (.seq (.region [⟨.mv, [.const (.int .i64 0)], none, [], none⟩] [(8, 0)])
   (.block 4 (.loop (.seq (.seq (.region [⟨.mv, [.env 8], none, [], none⟩,
      ⟨.mv, [.env 7], none, [], none⟩,
      ⟨.len false, [.loc 0], none, [], none⟩,
      ⟨.bin .lss, [.loc 2, .loc 0], none, [], none⟩] [(12, 0)])
   (.cond (.env 12) (.skip) (.exit 4)))
   (.seq (.block 5 (.drawn [⟨.faddr 1, [.env 6], none, [], none⟩,
      ⟨.load 1 false, [.loc 0], none, [true], none⟩,
      ⟨.mv, [.env 7], none, [false, false], none⟩,
      ⟨.mv, [.env 8], none, [false, false, false], none⟩,
      ⟨.iaddr 1, [.loc 1, .loc 0], none, [true, true, false, false], none⟩,
      ⟨.load 1 false, [.loc 0], none, [true, true, true, false, false], none⟩,
      ⟨.mv, [.env 5], none, [false, false, false, false, false, false], none⟩,
      ⟨.bin .add, [.loc 0, .const (.int .i64 1)], none, [true, false, false, false, false, false, false], none⟩,
      ⟨.mv, [.env 8], none, [false, false, false, false, false, false, false, false], none⟩,
      ⟨.bin .add, [.loc 0, .const (.int .i64 1)], none, [true, false, false, false, false, false, false, false, false], none⟩,
      ⟨.build [.int .i64 0, .int .i64 0] [(0, 1), (1, 1)], [.loc 2, .loc 0], none, [true, true, true, true, false, false, false, false, false, false], none⟩,
      ⟨.build [.int .u8 0, .str ⟨#[]⟩, .int .i64 0, .int .i64 0, .bool false] [(0, 1), (1, 1), (2, 2)], [.const (.int .u8 1), .loc 5, .loc 0], none, [true, true, true, true, true, true, true, true, true, false, false], none⟩,
      ⟨.bslice 63 5 1 [.int .u8 0, .str ⟨#[]⟩, .int .i64 0, .int .i64 0, .bool false] [0] 1, [.loc 0], none, [true, true, true, true, true, true, true, true, true, true, false, false], none⟩,
      ⟨.append 63 5 48 1, [.loc 11, .loc 0], none, [true, true, true, true, true, true, true, true, true, true, true, true, true], none⟩,
      ⟨.faddr 1, [.env 6], none, [true, true, true, true, true, true, true, true, true, true, true, true, true, true], none⟩,
      ⟨.store 1, [.loc 0, .loc 1], none, [true, true, true, true, true, true, true, true, true, true, true, true, true, true, true], none⟩] [] []))
   (.region [⟨.mv, [.env 8], none, [], none⟩,
      ⟨.bin .add, [.loc 0, .const (.int .i64 1)], none, [], none⟩,
      ⟨.mv, [.loc 0], none, [], none⟩] [(8, 0)]))))))
   (.region [⟨.faddr 7, [.env 2], none, [], none⟩,
      ⟨.load 1 false, [.loc 0], none, [], none⟩,
      ⟨.load 3 true, [.env 6], none, [], none⟩,
      ⟨.bslice 60 3 1 [.str ⟨#[]⟩, .nils, .nils] [0] 1, [.loc 0], none, [], none⟩,
      ⟨.append 60 3 64 1, [.loc 2, .loc 0], none, [], none⟩,
      ⟨.faddr 7, [.env 2], none, [], none⟩,
      ⟨.store 1, [.loc 0, .loc 1], none, [], none⟩] [])))))
   (.region [⟨.mv, [.env 5], none, [], none⟩,
      ⟨.bin .add, [.loc 0, .const (.int .i64 1)], none, [], none⟩,
      ⟨.mv, [.loc 0], none, [], none⟩] [(5, 0)]))))))
   (.seq (.region [⟨.load 9 true, [.env 2], none, [], none⟩,
      ⟨.store 9, [.env 1, .loc 0], none, [], none⟩] [])
   (.ret))))),
   [.cell 1 9 true]⟩
theorem F7_low : lowFn Try.prog false [0, 2, 3, 4, 5, 6, 7, 8, 9, 11, 22, 34, 48] Try.f7 = some F7 := by as_aux_lemma => kernel_rfl
/-- columnseven/columnsevenlaw38.twice [] -/
def F8 : LFunc := ⟨[0, 2, 3, 4, 5, 6, 7, 8, 12, 28, 49, 58, 63, 79], 1,
   .seq (.region [⟨.alloc 29 [.int .i64 0, .int .i64 0, .int .i64 0], [], none, [], none⟩] [(1, 0)])
   (.seq (.seq (.region [⟨.mv, [.const (.int .i64 0)], none, [], none⟩] [(2, 0)])
   (.block 0 (.loop (.seq (.seq (.region [⟨.mv, [.env 2], none, [], none⟩,
      ⟨.mv, [.env 0], none, [], none⟩,
      ⟨.len false, [.loc 0], none, [], none⟩,
      ⟨.bin .lss, [.loc 2, .loc 0], none, [], none⟩] [(8, 0)])
   (.cond (.env 8) (.skip) (.exit 0)))
   (.seq (.block 1 (.seq (.region [⟨.mv, [.env 0], none, [], none⟩,
      ⟨.mv, [.env 2], none, [], none⟩,
      ⟨.iaddr 3, [.loc 1, .loc 0], none, [], none⟩,
      ⟨.load 3 true, [.loc 0], none, [], none⟩,
      ⟨.call 16, [.loc 0], none, [], none⟩,
      ⟨.mv, [.loc 0], none, [], none⟩] [(3, 0)])
   (.seq (.region [⟨.mv, [.env 0], none, [], none⟩,
      ⟨.mv, [.env 2], none, [], none⟩,
      ⟨.iaddr 3, [.loc 1, .loc 0], none, [], none⟩,
      ⟨.load 3 true, [.loc 0], none, [], none⟩,
      ⟨.call 9, [.loc 0], none, [], none⟩,
      ⟨.len false, [.loc 0], none, [], none⟩,
      ⟨.mv, [.loc 0], none, [], none⟩] [(4, 0)])
   (.seq (.seq (.region [⟨.mv, [.const (.int .i64 0)], none, [], none⟩] [(5, 0)])
   (.block 2 (.loop (.seq (.seq (.region [⟨.mv, [.env 5], none, [], none⟩,
      ⟨.mv, [.env 2], none, [], none⟩,
      ⟨.bin .lss, [.loc 1, .loc 0], none, [], none⟩] [(9, 0)])
   (.cond (.env 9) (.skip) (.exit 2)))
   (.seq (.block 3 (.seq (.drawn [⟨.mv, [.env 0], none, [], none⟩,
      ⟨.mv, [.env 2], none, [false], none⟩,
      ⟨.iaddr 3, [.loc 1, .loc 0], none, [true, true], none⟩,
      ⟨.load 3 true, [.loc 0], none, [true, true, true], none⟩,
      ⟨.call 11, [.loc 0], none, [true, true, true, true], none⟩,
      ⟨.bin .gtr, [.loc 0, .const (.int .u8 0)], none, [true, true, true, true, true], none⟩,
      ⟨.mv, [.loc 0], none, [true, true, true, true, true, true], none⟩,
      ⟨.mv, [.env 0], some (0, true), [true, true, true, true, true, true, true], none⟩,
      ⟨.mv, [.env 5], some (1, true), [false, true, true, true, true, true, true, true], none⟩,
      ⟨.iaddr 3, [.loc 1, .loc 0], some (2, true), [true, true, true, true, true, true, true, true, true], none⟩,
      ⟨.load 3 true, [.loc 0], some (3, true), [true, true, true, true, true, true, true, true, true, true], none⟩,
      ⟨.call 11, [.loc 0], some (4, true), [true, true, true, true, true, true, true, true, true, true, true], none⟩,
      ⟨.mv, [.env 0], some (5, true), [false, false, false, false, false, true, true, true, true, true, true, true], none⟩,
      ⟨.mv, [.env 2], some (6, true), [false, false, false, false, false, false, true, true, true, true, true, true, true], none⟩,
      ⟨.iaddr 3, [.loc 1, .loc 0], some (7, true), [true, true, false, false, false, false, false, true, true, true, true, true, true, true], none⟩,
      ⟨.load 3 true, [.loc 0], some (8, true), [true, true, true, false, false, false, false, false, true, true, true, true, true, true, true], none⟩,
      ⟨.call 11, [.loc 0], some (9, true), [true, true, true, true, true, true, true, true, true, true, true, true, true, true, true, true], none⟩,
      ⟨.bin .eql, [.loc 5, .loc 0], some (10, true), [true, true, true, true, true, true, true, true, true, true, true, true, true, true, true, true, true], none⟩,
      ⟨.pick, [.loc 11, .loc 0, .const (.bool false)], none, [true, true, true, true, true, true, true, true, true, true, true, true, true, true, true, true, true, true], none⟩] [(10, 0)] [])
   (.cond (.env 10) (.seq (.region [⟨.mv, [.env 2], none, [], none⟩,
      ⟨.bin .add, [.loc 0, .const (.int .i64 1)], none, [], none⟩,
      ⟨.mv, [.env 3], none, [], none⟩,
      ⟨.len false, [.loc 0], none, [], none⟩,
      ⟨.build [.int .i64 0, .int .i64 0] [(0, 1), (1, 1)], [.loc 2, .loc 0], none, [], none⟩,
      ⟨.build [.int .i64 0, .int .i64 0, .int .i64 0] [(0, 1), (1, 2)], [.const (.int .i64 8), .loc 0], none, [], none⟩,
      ⟨.store 3, [.env 1, .loc 0], none, [], none⟩] [])
   (.ret)) (.skip))))
   (.region [⟨.mv, [.env 5], none, [], none⟩,
      ⟨.bin .add, [.loc 0, .const (.int .i64 1)], none, [], none⟩,
      ⟨.mv, [.loc 0], none, [], none⟩] [(5, 0)]))))))
   (.seq (.region [⟨.mv, [.const (.int .i64 0)], none, [], none⟩] [(6, 0)])
   (.block 4 (.loop (.seq (.seq (.region [⟨.mv, [.env 6], none, [], none⟩,
      ⟨.mv, [.env 4], none, [], none⟩,
      ⟨.bin .lss, [.loc 1, .loc 0], none, [], none⟩] [(11, 0)])
   (.cond (.env 11) (.skip) (.exit 4)))
   (.seq (.block 5 (.seq (.region [⟨.mv, [.const (.int .i64 0)], none, [], none⟩] [(7, 0)])
   (.block 6 (.loop (.seq (.seq (.region [⟨.mv, [.env 7], none, [], none⟩,
      ⟨.mv, [.env 2], none, [], none⟩,
      ⟨.bin .lss, [.loc 1, .loc 0], none, [], none⟩] [(12, 0)])
   (.cond (.env 12) (.skip) (.exit 6)))
   (.seq (.block 7 (.seq (.drawn [⟨.mv, [.env 0], none, [], none⟩,
      ⟨.mv, [.env 7], none, [false], none⟩,
      ⟨.iaddr 3, [.loc 1, .loc 0], none, [true, true], none⟩,
      ⟨.load 3 true, [.loc 0], none, [true, true, true], none⟩,
      ⟨.call 9, [.loc 0], none, [true, true, true, true], none⟩,
      ⟨.mv, [.env 0], none, [false, false, false, false, false], none⟩,
      ⟨.mv, [.env 2], none, [false, false, false, false, false, false], none⟩,
      ⟨.iaddr 3, [.loc 1, .loc 0], none, [true, true, false, false, false, false, false], none⟩,
      ⟨.load 3 true, [.loc 0], none, [true, true, true, false, false, false, false, false], none⟩,
      ⟨.call 9, [.loc 0], none, [true, true, true, true, true, true, true, true, true], none⟩,
      ⟨.mv, [.env 6], none, [false, false, false, false, false, false, false, false, false, false], none⟩,
      ⟨.iaddr 1, [.loc 1, .loc 0], none, [true, true, true, true, true, true, true, true, true, true, true], none⟩,
      ⟨.load 1 false, [.loc 0], none, [true, true, true, true, true, true, true, true, true, true, true, true], none⟩,
      ⟨.call 12, [.loc 8, .loc 0], none, [true, true, true, true, true, true, true, true, true, true, true, true, true], none⟩] [(13, 0)] [])
   (.cond (.env 13) (.seq (.region [⟨.mv, [.env 2], none, [], none⟩,
      ⟨.bin .add, [.loc 0, .const (.int .i64 1)], none, [], none⟩,
      ⟨.mv, [.env 3], none, [], none⟩,
      ⟨.len false, [.loc 0], none, [], none⟩,
      ⟨.mv, [.env 4], none, [], none⟩,
      ⟨.bin .sub, [.loc 1, .loc 0], none, [], none⟩,
      ⟨.mv, [.env 6], none, [], none⟩,
      ⟨.bin .add, [.loc 1, .loc 0], none, [], none⟩,
      ⟨.bin .add, [.loc 0, .const (.int .i64 1)], none, [], none⟩,
      ⟨.build [.int .i64 0, .int .i64 0] [(0, 1), (1, 1)], [.loc 7, .loc 0], none, [], none⟩,
      ⟨.build [.int .i64 0, .int .i64 0, .int .i64 0] [(0, 1), (1, 2)], [.const (.int .i64 8), .loc 0], none, [], none⟩,
      ⟨.store 3, [.env 1, .loc 0], none, [], none⟩] [])
   (.ret)) (.skip))))
   (.region [⟨.mv, [.env 7], none, [], none⟩,
      ⟨.bin .add, [.loc 0, .const (.int .i64 1)], none, [], none⟩,
      ⟨.mv, [.loc 0], none, [], none⟩] [(7, 0)])))))))
   (.region [⟨.mv, [.env 6], none, [], none⟩,
      ⟨.bin .add, [.loc 0, .const (.int .i64 1)], none, [], none⟩,
      ⟨.mv, [.loc 0], none, [], none⟩] [(6, 0)]))))))))))
   (.region [⟨.mv, [.env 2], none, [], none⟩,
      ⟨.bin .add, [.loc 0, .const (.int .i64 1)], none, [], none⟩,
      ⟨.mv, [.loc 0], none, [], none⟩] [(2, 0)]))))))
   (.seq (.region [⟨.build [.int .i64 0, .int .i64 0, .int .i64 0] [], [], none, [], none⟩,
      ⟨.store 3, [.env 1, .loc 0], none, [], none⟩] [])
   (.ret))),
   [.cell 1 3 true]⟩
theorem F8_low : lowFn Try.prog false [0, 2, 3, 4, 5, 6, 7, 8, 12, 28, 49, 58, 63, 79] Try.f8 = some F8 := by as_aux_lemma => kernel_rfl
/-- (columnseven/columnsevenlaw38.U).names [] -/
def F9 : LFunc := ⟨[0, 1, 2, 3, 4, 6, 14], 1,
   .seq (.region [⟨.box 43 3, [.env 0], none, [], none⟩,
      ⟨.mv, [.const (.nils)], none, [], none⟩] [(1, 1), (2, 0)])
   (.seq (.region [⟨.mv, [.const (.nils)], none, [], none⟩] [(3, 0)])
   (.seq (.seq (.region [⟨.mv, [.const (.int .i64 0)], none, [], none⟩] [(4, 0)])
   (.block 0 (.loop (.seq (.seq (.region [⟨.mv, [.env 4], none, [], none⟩,
      ⟨.bin .lss, [.loc 0, .const (.int .i64 4)], none, [], none⟩] [(5, 0)])
   (.cond (.env 5) (.skip) (.exit 0)))
   (.seq (.block 1 (.seq (.region [⟨.faddr 0, [.env 1], none, [], none⟩,
      ⟨.load 1 false, [.loc 0], none, [], none⟩,
      ⟨.mv, [.env 4], none, [], none⟩,
      ⟨.bin .shr, [.loc 1, .loc 0], none, [], none⟩,
      ⟨.bin .and, [.loc 0, .const (.int .u8 1)], none, [], none⟩,
      ⟨.bin .eql, [.loc 0, .const (.int .u8 1)], none, [], none⟩] [(6, 0)])
   (.cond (.env 6) (.region [⟨.mv, [.env 3], none, [], none⟩,
      ⟨.mv, [.env 4], none, [], none⟩,
      ⟨.mv, [.env 4], none, [], none⟩,
      ⟨.bin .add, [.loc 0, .const (.int .i64 1)], none, [], none⟩,
      ⟨.slice true 0 true true false, [.const (.str ⟨#[48, 49, 50, 51]⟩), .loc 2, .loc 0], none, [], none⟩,
      ⟨.bin .add, [.const (.str ⟨#[70]⟩), .loc 0], none, [], none⟩,
      ⟨.bslice 9 1 1 [.str ⟨#[]⟩] [0] 1, [.loc 0], none, [], none⟩,
      ⟨.append 9 1 16 1, [.loc 6, .loc 0], none, [], none⟩,
      ⟨.mv, [.loc 0], none, [], none⟩] [(3, 0)]) (.skip))))
   (.region [⟨.mv, [.env 4], none, [], none⟩,
      ⟨.bin .add, [.loc 0, .const (.int .i64 1)], none, [], none⟩,
      ⟨.mv, [.loc 0], none, [], none⟩] [(4, 0)]))))))
   (.seq (.region [⟨.mv, [.env 3], none, [], none⟩,
      ⟨.mv, [.loc 0], none, [], none⟩] [(2, 0)])
   (.ret)))),
   [.tmp 2]⟩
theorem F9_low : lowFn Try.prog false [0, 1, 2, 3, 4, 6, 14] Try.f9 = some F9 := by as_aux_lemma => kernel_rfl
/-- columnseven/columnsevenlaw38.section [] -/
def F10 : LFunc := ⟨[0, 2], 1,
   .seq (.region [⟨.mv, [.const (.str ⟨#[]⟩)], none, [], none⟩] [(1, 0)])
   (.seq (.region [⟨.mv, [.env 0], none, [], none⟩,
      ⟨.mv, [.env 0], none, [], none⟩,
      ⟨.bin .add, [.loc 0, .const (.int .i64 1)], none, [], none⟩,
      ⟨.slice true 0 true true false, [.const (.str ⟨#[48, 49, 50, 51, 52, 53]⟩), .loc 2, .loc 0], none, [], none⟩,
      ⟨.bin .add, [.const (.str ⟨#[85]⟩), .loc 0], none, [], none⟩,
      ⟨.mv, [.loc 0], none, [], none⟩] [(1, 0)])
   (.ret)),
   [.tmp 1]⟩
theorem F10_low : lowFn Try.prog false [0, 2] Try.f10 = some F10 := by as_aux_lemma => kernel_rfl
/-- (columnseven/columnsevenlaw38.U).mode [] -/
def F11 : LFunc := ⟨[0, 1, 2, 6], 1,
   .seq (.region [⟨.box 43 3, [.env 0], none, [], none⟩,
      ⟨.mv, [.const (.int .u8 0)], none, [], none⟩] [(1, 1), (2, 0)])
   (.seq (.seq (.region [⟨.load 3 true, [.env 1], none, [], none⟩,
      ⟨.call 9, [.loc 0], none, [], none⟩,
      ⟨.len false, [.loc 0], none, [], none⟩,
      ⟨.bin .gtr, [.loc 0, .const (.int .i64 0)], none, [], none⟩] [(3, 0)])
   (.cond (.env 3) (.seq (.region [⟨.mv, [.const (.int .u8 0)], none, [], none⟩] [(2, 0)])
   (.ret)) (.skip)))
   (.seq (.region [⟨.faddr 1, [.env 1], none, [], none⟩,
      ⟨.load 1 false, [.loc 0], none, [], none⟩,
      ⟨.bin .rem, [.loc 0, .const (.int .u8 4)], none, [], none⟩,
      ⟨.bin .add, [.const (.int .u8 1), .loc 0], none, [], none⟩,
      ⟨.mv, [.loc 0], none, [], none⟩] [(2, 0)])
   (.ret))),
   [.tmp 2]⟩
theorem F11_low : lowFn Try.prog false [0, 1, 2, 6] Try.f11 = some F11 := by as_aux_lemma => kernel_rfl
/-- columnseven/columnsevenlaw38.has [] -/
def F12 : LFunc := ⟨[0, 1, 4, 5, 9, 17], 2,
   .seq (.region [⟨.mv, [.const (.bool false)], none, [], none⟩] [(2, 0)])
   (.seq (.seq (.region [⟨.mv, [.const (.int .i64 0)], none, [], none⟩] [(3, 0)])
   (.block 0 (.loop (.seq (.seq (.region [⟨.mv, [.env 3], none, [], none⟩,
      ⟨.mv, [.env 0], none, [], none⟩,
      ⟨.len false, [.loc 0], none, [], none⟩,
      ⟨.bin .lss, [.loc 2, .loc 0], none, [], none⟩] [(4, 0)])
   (.cond (.env 4) (.skip) (.exit 0)))
   (.seq (.block 1 (.seq (.region [⟨.mv, [.env 0], none, [], none⟩,
      ⟨.mv, [.env 3], none, [], none⟩,
      ⟨.iaddr 1, [.loc 1, .loc 0], none, [], none⟩,
      ⟨.load 1 false, [.loc 0], none, [], none⟩,
      ⟨.mv, [.env 1], none, [], none⟩,
      ⟨.bin .eql, [.loc 1, .loc 0], none, [], none⟩] [(5, 0)])
   (.cond (.env 5) (.seq (.region [⟨.mv, [.const (.bool true)], none, [], none⟩] [(2, 0)])
   (.ret)) (.skip))))
   (.region [⟨.mv, [.env 3], none, [], none⟩,
      ⟨.bin .add, [.loc 0, .const (.int .i64 1)], none, [], none⟩,
      ⟨.mv, [.loc 0], none, [], none⟩] [(3, 0)]))))))
   (.seq (.region [⟨.mv, [.const (.bool false)], none, [], none⟩] [(2, 0)])
   (.ret))),
   [.tmp 2]⟩
theorem F12_low : lowFn Try.prog false [0, 1, 4, 5, 9, 17] Try.f12 = some F12 := by as_aux_lemma => kernel_rfl
/-- columnseven/declaratives.Select [] -/
def F13 : LFunc := ⟨[0, 1, 2, 4, 5, 6, 7, 8, 17], 3,
   .seq (.region [⟨.box 9 1, [.env 1], none, [], none⟩,
      ⟨.box 45 1, [.env 2], none, [], none⟩,
      ⟨.mv, [.const (.int .i64 0)], none, [], none⟩,
      ⟨.mv, [.const (.bool false)], none, [], none⟩] [(3, 3), (4, 2), (5, 1), (6, 0)])
   (.seq (.region [⟨.mv, [.env 0], none, [], none⟩,
      ⟨.mkfn 18, [.env 3], none, [], none⟩,
      ⟨.call 17, [.loc 1, .loc 0], none, [], none⟩,
      ⟨.mv, [.loc 0], none, [], none⟩] [(7, 0)])
   (.seq (.seq (.region [⟨.mv, [.env 7], none, [], none⟩,
      ⟨.bin .lss, [.loc 0, .const (.int .i64 0)], none, [], none⟩,
      ⟨.mv, [.loc 0], none, [], none⟩,
      ⟨.load 1 false, [.env 4], some (0, true), [], none⟩,
      ⟨.bin .neq, [.loc 0, .const (.int .u8 0)], some (1, true), [], none⟩,
      ⟨.pick, [.loc 2, .loc 0, .const (.bool false)], none, [], none⟩] [(8, 0)])
   (.cond (.env 8) (.region [⟨.mv, [.env 0], none, [], none⟩,
      ⟨.mkfn 20, [.env 4], none, [], none⟩,
      ⟨.call 17, [.loc 1, .loc 0], none, [], none⟩,
      ⟨.mv, [.loc 0], none, [], none⟩] [(7, 0)]) (.skip)))
   (.seq (.region [⟨.mv, [.env 7], none, [], none⟩,
      ⟨.max, [.loc 0, .const (.int .i64 0)], none, [], none⟩,
      ⟨.mv, [.env 7], none, [], none⟩,
      ⟨.bin .geq, [.loc 0, .const (.int .i64 0)], none, [], none⟩,
      ⟨.mv, [.loc 2], none, [], none⟩,
      ⟨.mv, [.loc 1], none, [], none⟩] [(5, 1), (6, 0)])
   (.ret)))),
   [.tmp 5, .tmp 6]⟩
theorem F13_low : lowFn Try.prog false [0, 1, 2, 4, 5, 6, 7, 8, 17] Try.f13 = some F13 := by as_aux_lemma => kernel_rfl
/-- columnseven/declaratives.rule [] -/
def F14 : LFunc := ⟨[0, 1, 2, 3, 5, 6, 7, 8, 9, 10, 11, 12, 20, 40, 43, 51, 74], 3,
   .seq (.region [⟨.box 39 9, [.env 0], none, [], none⟩,
      ⟨.box 60 3, [.env 2], none, [], none⟩,
      ⟨.alloc 47 [.str ⟨#[]⟩, .nils, .int .u8 0], [], none, [], none⟩,
      ⟨.alloc 29 [.int .i64 0, .int .i64 0, .int .i64 0], [], none, [], none⟩] [(3, 3), (4, 2), (5, 1), (6, 0)])
   (.seq (.region [⟨.faddr 1, [.env 4], none, [], none⟩,
      ⟨.load 1 false, [.loc 0], none, [], none⟩,
      ⟨.call 21, [.loc 0], none, [], none⟩,
      ⟨.mv, [.loc 0], none, [], none⟩,
      ⟨.extract 0, [.loc 0], none, [], none⟩,
      ⟨.extract 1, [.loc 1], none, [], none⟩,
      ⟨.mv, [.loc 1], none, [], none⟩,
      ⟨.mv, [.loc 1], none, [], none⟩] [(7, 1), (8, 0)])
   (.seq (.seq (.region [⟨.mv, [.env 8], none, [], none⟩,
      ⟨.un .not, [.loc 0], none, [], none⟩] [(12, 0)])
   (.cond (.env 12) (.seq (.region [⟨.build [.str ⟨#[]⟩, .nils, .int .u8 0] [], [], none, [], none⟩,
      ⟨.mv, [.env 7], none, [], none⟩,
      ⟨.faddr 1, [.env 4], none, [], none⟩,
      ⟨.load 1 false, [.loc 0], none, [], none⟩,
      ⟨.call 22, [.const (.int .i64 4), .loc 2, .loc 0], none, [], none⟩,
      ⟨.store 3, [.env 5, .loc 4], none, [], none⟩,
      ⟨.store 3, [.env 6, .loc 1], none, [], none⟩] [])
   (.ret)) (.skip)))
   (.seq (.seq (.drawn [⟨.call 23, [], none, [], none⟩,
      ⟨.mv, [.env 7], none, [false], none⟩,
      ⟨.iaddr 5, [.loc 0, .const (.int .i64 0)], none, [true, false], none⟩,
      ⟨.faddr 1, [.loc 0], none, [true, true, false], none⟩,
      ⟨.load 1 false, [.loc 0], none, [true, true, true, false], none⟩,
      ⟨.mapget 1 (.int .u8 0) false, [.loc 4, .loc 0], none, [true, true, true, true, true], none⟩,
      ⟨.mv, [.loc 6], none, [false, false, false, false, false, false], some 0⟩,
      ⟨.store 1, [.loc 0, .loc 1], none, [true, true, true, true, true, true, true], none⟩] [(9, 1)] [(45, [.int .u8 0])])
   (.seq (.region [⟨.mv, [.env 7], none, [], none⟩,
      ⟨.iaddr 5, [.loc 0, .const (.int .i64 0)], none, [], none⟩,
      ⟨.faddr 0, [.loc 0], none, [], none⟩,
      ⟨.load 1 false, [.loc 0], none, [], none⟩,
      ⟨.bin .eql, [.loc 0, .const (.int .u8 1)], none, [], none⟩,
      ⟨.mv, [.loc 0], none, [], none⟩,
      ⟨.load 1 false, [.env 9], some (0, true), [], none⟩,
      ⟨.bin .neq, [.loc 0, .const (.int .u8 0)], some (1, true), [], none⟩,
      ⟨.pick, [.loc 2, .loc 0, .const (.bool false)], none, [], none⟩] [(13, 0)])
   (.cond (.env 13) (.seq (.seq (.region [⟨.mv, [.env 1], none, [], none⟩,
      ⟨.mkfn 25, [.env 9], none, [], none⟩,
      ⟨.call 24, [.loc 1, .loc 0], none, [], none⟩] [(14, 0)])
   (.cond (.env 14) (.seq (.region [⟨.build [.str ⟨#[]⟩, .nils, .int .u8 0] [], [], none, [], none⟩,
      ⟨.mv, [.env 7], none, [], none⟩,
      ⟨.faddr 1, [.env 4], none, [], none⟩,
      ⟨.load 1 false, [.loc 0], none, [], none⟩,
      ⟨.call 22, [.const (.int .i64 8), .loc 2, .loc 0], none, [], none⟩,
      ⟨.store 3, [.env 5, .loc 4], none, [], none⟩,
      ⟨.store 3, [.env 6, .loc 1], none, [], none⟩] [])
   (.ret)) (.skip)))
   (.seq (.seq (.region [⟨.mv, [.env 7], none, [], none⟩,
      ⟨.len false, [.loc 0], none, [], none⟩,
      ⟨.bin .gtr, [.loc 0, .const (.int .i64 1)], none, [], none⟩] [(15, 0)])
   (.cond (.env 15) (.seq (.drawn [⟨.build [.str ⟨#[]⟩, .nils, .int .u8 0] [], [], none, [], none⟩,
      ⟨.mv, [.env 7], none, [false], none⟩,
      ⟨.slice false 5 true false false, [.loc 0, .const (.int .i64 1)], none, [true, false], none⟩,
      ⟨.faddr 1, [.env 4], none, [false, false, false], none⟩,
      ⟨.load 1 false, [.loc 0], none, [true, false, false, false], none⟩,
      ⟨.call 22, [.const (.int .i64 4), .loc 2, .loc 0], none, [true, true, true, true, false], none⟩,
      ⟨.store 3, [.env 5, .loc 5], none, [true, true, true, true, true, true], none⟩,
      ⟨.store 3, [.env 6, .loc 1], none, [true, true, true, true, true, true, true], none⟩] [] [])
   (.ret)) (.skip)))
   (.seq (.region [⟨.faddr 0, [.env 4], none, [], none⟩,
      ⟨.load 1 false, [.loc 0], none, [], none⟩,
      ⟨.load 1 false, [.env 9], none, [], none⟩,
      ⟨.build [.str ⟨#[]⟩, .nils, .int .u8 0] [(0, 1), (2, 1)], [.loc 1, .loc 0], none, [], none⟩,
      ⟨.build [.int .i64 0, .int .i64 0, .int .i64 0] [], [], none, [], none⟩,
      ⟨.store 3, [.env 5, .loc 1], none, [], none⟩,
      ⟨.store 3, [.env 6, .loc 1], none, [], none⟩] [])
   (.ret)))) (.skip))))
   (.seq (.region [⟨.load 9 true, [.env 3], none, [], none⟩,
      ⟨.mv, [.env 1], none, [], none⟩,
      ⟨.faddr 1, [.env 4], none, [], none⟩,
      ⟨.load 1 false, [.loc 0], none, [], none⟩,
      ⟨.mv, [.env 7], none, [], none⟩,
      ⟨.call 26, [.loc 4, .loc 3, .loc 1, .loc 0], none, [], none⟩,
      ⟨.mv, [.loc 0], none, [], none⟩,
      ⟨.extract 0, [.loc 0], none, [], none⟩,
      ⟨.extract 1, [.loc 1], none, [], none⟩,
      ⟨.alloc 29 [.int .i64 0, .int .i64 0, .int .i64 0], [], none, [], none⟩,
      ⟨.mv, [.loc 2], none, [], none⟩,
      ⟨.store 3, [.loc 1, .loc 2], none, [], none⟩] [(10, 1), (11, 2)])
   (.seq (.seq (.region [⟨.faddr 0, [.env 11], none, [], none⟩,
      ⟨.load 1 false, [.loc 0], none, [], none⟩,
      ⟨.bin .neq, [.loc 0, .const (.int .i64 0)], none, [], none⟩] [(16, 0)])
   (.cond (.env 16) (.seq (.drawn [⟨.build [.str ⟨#[]⟩, .nils, .int .u8 0] [], [], none, [], none⟩,
      ⟨.load 3 true, [.env 11], none, [false], none⟩,
      ⟨.store 3, [.env 5, .loc 1], none, [false, true], none⟩,
      ⟨.store 3, [.env 6, .loc 1], none, [true, true, true], none⟩] [] [])
   (.ret)) (.skip)))
   (.seq (.region [⟨.faddr 0, [.env 4], none, [], none⟩,
      ⟨.load 1 false, [.loc 0], none, [], none⟩,
      ⟨.mv, [.env 10], none, [], none⟩,
      ⟨.build [.str ⟨#[]⟩, .nils, .int .u8 0] [(0, 1), (1, 1)], [.loc 1, .loc 0], none, [], none⟩,
      ⟨.build [.int .i64 0, .int .i64 0, .int .i64 0] [], [], none, [], none⟩,
      ⟨.store 3, [.env 5, .loc 1], none, [], none⟩,
      ⟨.store 3, [.env 6, .loc 1], none, [], none⟩] [])
   (.ret))))))),
   [.cell 5 3 true, .cell 6 3 true]⟩
theorem F14_low : lowFn Try.prog false [0, 1, 2, 3, 5, 6, 7, 8, 9, 10, 11, 12, 20, 40, 43, 51, 74] Try.f14 = some F14 := by as_aux_lemma => kernel_rfl
/-- slices.Clip[[]columnseven/declaratives.Rule,columnseven/declaratives.Rule] [] -/
def F15 : LFunc := ⟨[0, 2], 1,
   .seq (.region [⟨.mv, [.const (.nils)], none, [], none⟩] [(1, 0)])
   (.seq (.region [⟨.mv, [.env 0], none, [], none⟩,
      ⟨.mv, [.env 0], none, [], none⟩,
      ⟨.len false, [.loc 0], none, [], none⟩,
      ⟨.mv, [.env 0], none, [], none⟩,
      ⟨.len false, [.loc 0], none, [], none⟩,
      ⟨.slice false 3 false true true, [.loc 4, .loc 2, .loc 0], none, [], none⟩,
      ⟨.mv, [.loc 0], none, [], none⟩] [(1, 0)])
   (.ret)),
   [.tmp 1]⟩
theorem F15_low : lowFn Try.prog false [0, 2] Try.f15 = some F15 := by as_aux_lemma => kernel_rfl
/-- (columnseven/columnsevenlaw38.U).text [] -/
def F16 : LFunc := ⟨[0, 1, 2, 3, 8, 26, 32], 1,
   .seq (.region [⟨.box 43 3, [.env 0], none, [], none⟩,
      ⟨.mv, [.const (.nils)], none, [], none⟩] [(1, 1), (2, 0)])
   (.seq (.region [⟨.bslice 9 1 1 [.str ⟨#[]⟩] [0] 1, [.const (.str ⟨#[65, 70, 84, 69, 82]⟩)], none, [], none⟩,
      ⟨.mv, [.loc 0], none, [], none⟩] [(3, 0)])
   (.seq (.seq (.region [⟨.faddr 2, [.env 1], none, [], none⟩,
      ⟨.load 1 false, [.loc 0], none, [], none⟩,
      ⟨.bin .and, [.loc 0, .const (.int .u8 1)], none, [], none⟩,
      ⟨.bin .eql, [.loc 0, .const (.int .u8 1)], none, [], none⟩] [(4, 0)])
   (.cond (.env 4) (.region [⟨.mv, [.env 3], none, [], none⟩,
      ⟨.bslice 9 1 1 [.str ⟨#[]⟩] [0] 1, [.const (.str ⟨#[83, 84, 65, 78, 68, 65, 82, 68]⟩)], none, [], none⟩,
      ⟨.append 9 1 16 1, [.loc 1, .loc 0], none, [], none⟩,
      ⟨.mv, [.loc 0], none, [], none⟩] [(3, 0)]) (.skip)))
   (.seq (.region [⟨.mv, [.env 3], none, [], none⟩,
      ⟨.bslice 9 1 2 [.str ⟨#[]⟩] [0, 1] 1, [.const (.str ⟨#[69, 88, 67, 69, 80, 84, 73, 79, 78]⟩), .const (.str ⟨#[69, 82, 82, 79, 82]⟩)], none, [], none⟩,
      ⟨.faddr 2, [.env 1], none, [], none⟩,
      ⟨.load 1 false, [.loc 0], none, [], none⟩,
      ⟨.bin .quo, [.loc 0, .const (.int .u8 2)], none, [], none⟩,
      ⟨.bin .rem, [.loc 0, .const (.int .u8 2)], none, [], none⟩,
      ⟨.iaddr 1, [.loc 4, .loc 0], none, [], none⟩,
      ⟨.load 1 false, [.loc 0], none, [], none⟩,
      ⟨.bslice 9 1 2 [.str ⟨#[]⟩] [0, 1] 1, [.loc 0, .const (.str ⟨#[80, 82, 79, 67, 69, 68, 85, 82, 69]⟩)], none, [], none⟩,
      ⟨.append 9 1 16 1, [.loc 8, .loc 0], none, [], none⟩,
      ⟨.mv, [.loc 0], none, [], none⟩] [(3, 0)])
   (.seq (.seq (.region [⟨.faddr 2, [.env 1], none, [], none⟩,
      ⟨.load 1 false, [.loc 0], none, [], none⟩,
      ⟨.bin .quo, [.loc 0, .const (.int .u8 4)], none, [], none⟩,
      ⟨.bin .rem, [.loc 0, .const (.int .u8 2)], none, [], none⟩,
      ⟨.bin .eql, [.loc 0, .const (.int .u8 1)], none, [], none⟩] [(5, 0)])
   (.cond (.env 5) (.region [⟨.mv, [.env 3], none, [], none⟩,
      ⟨.bslice 9 1 1 [.str ⟨#[]⟩] [0] 1, [.const (.str ⟨#[79, 78]⟩)], none, [], none⟩,
      ⟨.append 9 1 16 1, [.loc 1, .loc 0], none, [], none⟩,
      ⟨.mv, [.loc 0], none, [], none⟩] [(3, 0)]) (.skip)))
   (.seq (.seq (.region [⟨.load 3 true, [.env 1], none, [], none⟩,
      ⟨.call 11, [.loc 0], none, [], none⟩,
      ⟨.bin .gtr, [.loc 0, .const (.int .u8 0)], none, [], none⟩] [(6, 0)])
   (.cond (.env 6) (.seq (.region [⟨.mv, [.env 3], none, [], none⟩,
      ⟨.bslice 9 1 5 [.str ⟨#[]⟩] [0, 1, 2, 3, 4] 1, [.const (.str ⟨#[]⟩), .const (.str ⟨#[73, 78, 80, 85, 84]⟩), .const (.str ⟨#[79, 85, 84, 80, 85, 84]⟩), .const (.str ⟨#[73, 45, 79]⟩), .const (.str ⟨#[69, 88, 84, 69, 78, 68]⟩)], none, [], none⟩,
      ⟨.load 3 true, [.env 1], none, [], none⟩,
      ⟨.call 11, [.loc 0], none, [], none⟩,
      ⟨.iaddr 1, [.loc 2, .loc 0], none, [], none⟩,
      ⟨.load 1 false, [.loc 0], none, [], none⟩,
      ⟨.bslice 9 1 1 [.str ⟨#[]⟩] [0] 1, [.loc 0], none, [], none⟩,
      ⟨.append 9 1 16 1, [.loc 6, .loc 0], none, [], none⟩,
      ⟨.mv, [.loc 0], none, [], none⟩] [(2, 0)])
   (.ret)) (.skip)))
   (.seq (.region [⟨.mv, [.env 3], none, [], none⟩,
      ⟨.load 3 true, [.env 1], none, [], none⟩,
      ⟨.call 9, [.loc 0], none, [], none⟩,
      ⟨.append 9 1 16 1, [.loc 2, .loc 0], none, [], none⟩,
      ⟨.mv, [.loc 0], none, [], none⟩] [(2, 0)])
   (.ret))))))),
   [.tmp 2]⟩
theorem F16_low : lowFn Try.prog false [0, 1, 2, 3, 8, 26, 32] Try.f16 = some F16 := by as_aux_lemma => kernel_rfl
/-- slices.IndexFunc[[]columnseven/declaratives.Rule,columnseven/declaratives.Rule] [] -/
def F17 : LFunc := ⟨[0, 1, 4, 5, 7, 8, 9, 16], 2,
   .seq (.region [⟨.mv, [.const (.int .i64 0)], none, [], none⟩] [(2, 0)])
   (.seq (.seq (.region [⟨.mv, [.env 0], none, [], none⟩,
      ⟨.len false, [.loc 0], none, [], none⟩,
      ⟨.mv, [.const (.int .i64 0)], none, [], none⟩] [(4, 1), (5, 0)])
   (.block 0 (.loop (.seq (.region [⟨.bin .lss, [.env 5, .env 4], none, [], none⟩] [(6, 0)])
   (.seq (.cond (.env 6) (.skip) (.exit 0))
   (.seq (.block 1 (.seq (.region [⟨.mv, [.env 5], none, [], none⟩,
      ⟨.mv, [.loc 0], none, [], none⟩] [(3, 0)])
   (.seq (.region [⟨.mv, [.env 1], none, [], none⟩,
      ⟨.mv, [.env 0], none, [], none⟩,
      ⟨.mv, [.env 3], none, [], none⟩,
      ⟨.iaddr 3, [.loc 1, .loc 0], none, [], none⟩,
      ⟨.load 3 true, [.loc 0], none, [], none⟩,
      ⟨.callv, [.loc 4, .loc 0], none, [], none⟩] [(7, 0)])
   (.cond (.env 7) (.seq (.region [⟨.mv, [.env 3], none, [], none⟩,
      ⟨.mv, [.loc 0], none, [], none⟩] [(2, 0)])
   (.ret)) (.skip)))))
   (.region [⟨.bin .add, [.env 5, .const (.int .i64 1)], none, [], none⟩,
      ⟨.mv, [.loc 0], none, [], none⟩] [(5, 0)])))))))
   (.seq (.region [⟨.mv, [.const (.int .i64 (-1))], none, [], none⟩] [(2, 0)])
   (.ret))),
   [.tmp 2]⟩
theorem F17_low : lowFn Try.prog false [0, 1, 4, 5, 7, 8, 9, 16] Try.f17 = some F17 := by as_aux_lemma => kernel_rfl
/-- columnseven/declaratives.Select$1 [] -/
def F18 : LFunc := ⟨[0, 1, 2, 3], 2,
   .seq (.region [⟨.box 47 3, [.env 0], none, [], none⟩,
      ⟨.mv, [.const (.bool false)], none, [], none⟩] [(2, 1), (3, 0)])
   (.seq (.region [⟨.faddr 1, [.env 2], none, [], none⟩,
      ⟨.load 1 false, [.loc 0], none, [], none⟩,
      ⟨.load 1 false, [.env 1], none, [], none⟩,
      ⟨.call 19, [.loc 1, .loc 0], none, [], none⟩,
      ⟨.mv, [.loc 0], none, [], none⟩] [(3, 0)])
   (.ret)),
   [.tmp 3]⟩
theorem F18_low : lowFn Try.prog false [0, 1, 2, 3] Try.f18 = some F18 := by as_aux_lemma => kernel_rfl
/-- slices.Contains[[]string,string] [] -/
def F19 : LFunc := ⟨[0, 1, 4], 2,
   .seq (.region [⟨.mv, [.const (.bool false)], none, [], none⟩] [(2, 0)])
   (.seq (.region [⟨.mv, [.env 0], none, [], none⟩,
      ⟨.mv, [.env 1], none, [], none⟩,
      ⟨.call 27, [.loc 1, .loc 0], none, [], none⟩,
      ⟨.bin .geq, [.loc 0, .const (.int .i64 0)], none, [], none⟩,
      ⟨.mv, [.loc 0], none, [], none⟩] [(2, 0)])
   (.ret)),
   [.tmp 2]⟩
theorem F19_low : lowFn Try.prog false [0, 1, 4] Try.f19 = some F19 := by as_aux_lemma => kernel_rfl
/-- columnseven/declaratives.Select$2 [] -/
def F20 : LFunc := ⟨[0, 1, 2, 3], 2,
   .seq (.region [⟨.box 47 3, [.env 0], none, [], none⟩,
      ⟨.mv, [.const (.bool false)], none, [], none⟩] [(2, 1), (3, 0)])
   (.seq (.region [⟨.faddr 1, [.env 2], none, [], none⟩,
      ⟨.load 1 false, [.loc 0], none, [], none⟩,
      ⟨.len false, [.loc 0], none, [], none⟩,
      ⟨.bin .eql, [.loc 0, .const (.int .i64 0)], none, [], none⟩,
      ⟨.mv, [.loc 0], none, [], none⟩,
      ⟨.faddr 2, [.env 2], some (0, true), [], none⟩,
      ⟨.load 1 false, [.loc 0], some (1, true), [], none⟩,
      ⟨.load 1 false, [.env 1], some (2, true), [], none⟩,
      ⟨.bin .eql, [.loc 1, .loc 0], some (3, true), [], none⟩,
      ⟨.pick, [.loc 4, .loc 0, .const (.bool false)], none, [], none⟩,
      ⟨.mv, [.loc 0], none, [], none⟩] [(3, 0)])
   (.ret)),
   [.tmp 3]⟩
theorem F20_low : lowFn Try.prog false [0, 1, 2, 3] Try.f20 = some F20 := by as_aux_lemma => kernel_rfl
/-- columnseven/declaratives.head [] -/
def F21 : LFunc := ⟨[0, 2, 3, 4, 5, 6, 14, 29, 38], 1,
   .seq (.region [⟨.mv, [.const (.nils)], none, [], none⟩,
      ⟨.mv, [.const (.bool false)], none, [], none⟩] [(1, 1), (2, 0)])
   (.seq (.region [⟨.mv, [.env 0], none, [], none⟩,
      ⟨.bslice 9 1 1 [.str ⟨#[]⟩] [0] 1, [.const (.str ⟨#[65, 70, 84, 69, 82]⟩)], none, [], none⟩,
      ⟨.call 28, [.loc 1, .loc 0], none, [], none⟩,
      ⟨.mv, [.loc 0], none, [], none⟩,
      ⟨.extract 0, [.loc 0], none, [], none⟩,
      ⟨.extract 1, [.loc 1], none, [], none⟩,
      ⟨.mv, [.loc 1], none, [], none⟩,
      ⟨.mv, [.loc 1], none, [], none⟩] [(0, 1), (3, 0)])
   (.seq (.seq (.region [⟨.mv, [.env 3], none, [], none⟩,
      ⟨.un .not, [.loc 0], none, [], none⟩] [(6, 0)])
   (.cond (.env 6) (.seq (.region [⟨.mv, [.env 0], none, [], none⟩,
      ⟨.mv, [.loc 0], none, [], none⟩,
      ⟨.mv, [.const (.bool false)], none, [], none⟩] [(1, 1), (2, 0)])
   (.ret)) (.skip)))
   (.seq (.region [⟨.mv, [.env 0], none, [], none⟩,
      ⟨.bslice 9 1 1 [.str ⟨#[]⟩] [0] 1, [.const (.str ⟨#[83, 84, 65, 78, 68, 65, 82, 68]⟩)], none, [], none⟩,
      ⟨.call 28, [.loc 1, .loc 0], none, [], none⟩,
      ⟨.mv, [.loc 0], none, [], none⟩,
      ⟨.extract 0, [.loc 0], none, [], none⟩,
      ⟨.extract 1, [.loc 1], none, [], none⟩,
      ⟨.mv, [.loc 1], none, [], none⟩] [(0, 0)])
   (.seq (.region [⟨.mv, [.env 0], none, [], none⟩,
      ⟨.bslice 9 1 2 [.str ⟨#[]⟩] [0, 1] 1, [.const (.str ⟨#[69, 88, 67, 69, 80, 84, 73, 79, 78]⟩), .const (.str ⟨#[69, 82, 82, 79, 82]⟩)], none, [], none⟩,
      ⟨.call 28, [.loc 1, .loc 0], none, [], none⟩,
      ⟨.mv, [.loc 0], none, [], none⟩,
      ⟨.extract 0, [.loc 0], none, [], none⟩,
      ⟨.extract 1, [.loc 1], none, [], none⟩,
      ⟨.mv, [.loc 1], none, [], none⟩,
      ⟨.mv, [.loc 1], none, [], none⟩] [(0, 1), (4, 0)])
   (.seq (.seq (.region [⟨.mv, [.env 4], none, [], none⟩,
      ⟨.un .not, [.loc 0], none, [], none⟩] [(7, 0)])
   (.cond (.env 7) (.seq (.region [⟨.mv, [.env 0], none, [], none⟩,
      ⟨.mv, [.loc 0], none, [], none⟩,
      ⟨.mv, [.const (.bool false)], none, [], none⟩] [(1, 1), (2, 0)])
   (.ret)) (.skip)))
   (.seq (.region [⟨.mv, [.env 0], none, [], none⟩,
      ⟨.bslice 9 1 1 [.str ⟨#[]⟩] [0] 1, [.const (.str ⟨#[80, 82, 79, 67, 69, 68, 85, 82, 69]⟩)], none, [], none⟩,
      ⟨.call 28, [.loc 1, .loc 0], none, [], none⟩,
      ⟨.mv, [.loc 0], none, [], none⟩,
      ⟨.extract 0, [.loc 0], none, [], none⟩,
      ⟨.extract 1, [.loc 1], none, [], none⟩,
      ⟨.mv, [.loc 1], none, [], none⟩,
      ⟨.mv, [.loc 1], none, [], none⟩] [(0, 1), (5, 0)])
   (.seq (.seq (.region [⟨.mv, [.env 5], none, [], none⟩,
      ⟨.un .not, [.loc 0], none, [], none⟩] [(8, 0)])
   (.cond (.env 8) (.seq (.region [⟨.mv, [.env 0], none, [], none⟩,
      ⟨.mv, [.loc 0], none, [], none⟩,
      ⟨.mv, [.const (.bool false)], none, [], none⟩] [(1, 1), (2, 0)])
   (.ret)) (.skip)))
   (.seq (.region [⟨.mv, [.env 0], none, [], none⟩,
      ⟨.bslice 9 1 1 [.str ⟨#[]⟩] [0] 1, [.const (.str ⟨#[79, 78]⟩)], none, [], none⟩,
      ⟨.call 28, [.loc 1, .loc 0], none, [], none⟩,
      ⟨.mv, [.loc 0], none, [], none⟩,
      ⟨.extract 0, [.loc 0], none, [], none⟩,
      ⟨.extract 1, [.loc 1], none, [], none⟩,
      ⟨.mv, [.loc 1], none, [], none⟩] [(0, 0)])
   (.seq (.region [⟨.mv, [.env 0], none, [], none⟩,
      ⟨.mv, [.env 0], none, [], none⟩,
      ⟨.len false, [.loc 0], none, [], none⟩,
      ⟨.bin .gtr, [.loc 0, .const (.int .i64 0)], none, [], none⟩,
      ⟨.mv, [.loc 3], none, [], none⟩,
      ⟨.mv, [.loc 1], none, [], none⟩] [(1, 1), (2, 0)])
   (.ret)))))))))),
   [.tmp 1, .tmp 2]⟩
theorem F21_low : lowFn Try.prog false [0, 2, 3, 4, 5, 6, 14, 29, 38] Try.f21 = some F21 := by as_aux_lemma => kernel_rfl
/-- columnseven/declaratives.fault [] -/
def F22 : LFunc := ⟨[0, 1, 2, 6, 7, 17], 3,
   .seq (.region [⟨.alloc 29 [.int .i64 0, .int .i64 0, .int .i64 0], [], none, [], none⟩] [(3, 0)])
   (.seq (.block 0 (.seq (.region [⟨.mv, [.env 1], none, [], none⟩,
      ⟨.len false, [.loc 0], none, [], none⟩,
      ⟨.bin .gtr, [.loc 0, .const (.int .i64 0)], none, [], none⟩,
      ⟨.mv, [.loc 0], none, [], none⟩] [(4, 0)])
   (.cond (.env 4) (.seq (.region [⟨.mv, [.env 0], none, [], none⟩,
      ⟨.mv, [.env 1], none, [], none⟩,
      ⟨.iaddr 5, [.loc 0, .const (.int .i64 0)], none, [], none⟩,
      ⟨.faddr 2, [.loc 0], none, [], none⟩,
      ⟨.load 2 true, [.loc 0], none, [], none⟩,
      ⟨.build [.int .i64 0, .int .i64 0, .int .i64 0] [(0, 1), (1, 2)], [.loc 4, .loc 0], none, [], none⟩,
      ⟨.store 3, [.env 3, .loc 0], none, [], none⟩] [])
   (.ret)) (.seq (.region [⟨.mv, [.env 2], none, [], none⟩,
      ⟨.len false, [.loc 0], none, [], none⟩,
      ⟨.bin .gtr, [.loc 0, .const (.int .i64 0)], none, [], none⟩,
      ⟨.mv, [.loc 0], none, [], none⟩] [(5, 0)])
   (.cond (.env 5) (.seq (.region [⟨.mv, [.env 0], none, [], none⟩,
      ⟨.mv, [.env 2], none, [], none⟩,
      ⟨.mv, [.env 2], none, [], none⟩,
      ⟨.len false, [.loc 0], none, [], none⟩,
      ⟨.bin .sub, [.loc 0, .const (.int .i64 1)], none, [], none⟩,
      ⟨.iaddr 5, [.loc 3, .loc 0], none, [], none⟩,
      ⟨.faddr 2, [.loc 0], none, [], none⟩,
      ⟨.load 2 true, [.loc 0], none, [], none⟩,
      ⟨.build [.int .i64 0, .int .i64 0, .int .i64 0] [(0, 1), (1, 2)], [.loc 7, .loc 0], none, [], none⟩,
      ⟨.store 3, [.env 3, .loc 0], none, [], none⟩] [])
   (.ret)) (.skip))))))
   (.seq (.region [⟨.mv, [.env 0], none, [], none⟩,
      ⟨.build [.int .i64 0, .int .i64 0, .int .i64 0] [(0, 1)], [.loc 0], none, [], none⟩,
      ⟨.store 3, [.env 3, .loc 0], none, [], none⟩] [])
   (.ret))),
   [.cell 3 3 true]⟩
theorem F22_low : lowFn Try.prog false [0, 1, 2, 6, 7, 17] Try.f22 = some F22 := by as_aux_lemma => kernel_rfl
/-- columnseven/declaratives.modes [] -/
def F23 : LFunc := ⟨[0], 0,
   .seq (.region [⟨.mv, [.const (.nilm)], none, [], none⟩] [(0, 0)])
   (.seq (.region [⟨.mkmap, [], none, [], none⟩,
      ⟨.mapset 1, [.loc 0, .const (.str ⟨#[73, 78, 80, 85, 84]⟩), .const (.int .u8 1)], none, [], none⟩,
      ⟨.mapset 1, [.loc 1, .const (.str ⟨#[79, 85, 84, 80, 85, 84]⟩), .const (.int .u8 2)], none, [], none⟩,
      ⟨.mapset 1, [.loc 2, .const (.str ⟨#[73, 45, 79]⟩), .const (.int .u8 3)], none, [], none⟩,
      ⟨.mapset 1, [.loc 3, .const (.str ⟨#[69, 88, 84, 69, 78, 68]⟩), .const (.int .u8 4)], none, [], none⟩,
      ⟨.mv, [.loc 4], none, [], none⟩,
      ⟨.mv, [.loc 0], none, [], none⟩] [(0, 0)])
   (.ret)),
   [.tmp 0]⟩
theorem F23_low : lowFn Try.prog false [0] Try.f23 = some F23 := by as_aux_lemma => kernel_rfl
/-- slices.ContainsFunc[[]columnseven/declaratives.Rule,columnseven/declaratives.Rule] [] -/
def F24 : LFunc := ⟨[0, 1, 4], 2,
   .seq (.region [⟨.mv, [.const (.bool false)], none, [], none⟩] [(2, 0)])
   (.seq (.region [⟨.mv, [.env 0], none, [], none⟩,
      ⟨.mv, [.env 1], none, [], none⟩,
      ⟨.call 17, [.loc 1, .loc 0], none, [], none⟩,
      ⟨.bin .geq, [.loc 0, .const (.int .i64 0)], none, [], none⟩,
      ⟨.mv, [.loc 0], none, [], none⟩] [(2, 0)])
   (.ret)),
   [.tmp 2]⟩
theorem F24_low : lowFn Try.prog false [0, 1, 4] Try.f24 = some F24 := by as_aux_lemma => kernel_rfl
/-- columnseven/declaratives.rule$1 [] -/
def F25 : LFunc := ⟨[0, 1, 2, 3], 2,
   .seq (.region [⟨.box 47 3, [.env 0], none, [], none⟩,
      ⟨.mv, [.const (.bool false)], none, [], none⟩] [(2, 1), (3, 0)])
   (.seq (.region [⟨.faddr 2, [.env 2], none, [], none⟩,
      ⟨.load 1 false, [.loc 0], none, [], none⟩,
      ⟨.load 1 false, [.env 1], none, [], none⟩,
      ⟨.bin .eql, [.loc 1, .loc 0], none, [], none⟩,
      ⟨.mv, [.loc 0], none, [], none⟩] [(3, 0)])
   (.ret)),
   [.tmp 3]⟩
theorem F25_low : lowFn Try.prog false [0, 1, 2, 3] Try.f25 = some F25 := by as_aux_lemma => kernel_rfl
/-- columnseven/declaratives.files [] -/
def F26 : LFunc := ⟨[0, 1, 2, 3, 4, 8, 9, 10, 11, 14, 21, 30, 39], 4,
   .seq (.region [⟨.box 39 9, [.env 0], none, [], none⟩,
      ⟨.mv, [.const (.nils)], none, [], none⟩,
      ⟨.alloc 29 [.int .i64 0, .int .i64 0, .int .i64 0], [], none, [], none⟩] [(4, 2), (5, 1), (6, 0)])
   (.seq (.region [⟨.mv, [.const (.nils)], none, [], none⟩] [(7, 0)])
   (.seq (.block 0 (.loop (.seq (.seq (.region [⟨.mv, [.env 3], none, [], none⟩,
      ⟨.len false, [.loc 0], none, [], none⟩,
      ⟨.bin .gtr, [.loc 0, .const (.int .i64 0)], none, [], none⟩] [(9, 0)])
   (.cond (.env 9) (.skip) (.exit 0)))
   (.seq (.block 1 (.seq (.region [⟨.mv, [.env 3], none, [], none⟩,
      ⟨.iaddr 5, [.loc 0, .const (.int .i64 0)], none, [], none⟩,
      ⟨.faddr 1, [.loc 0], none, [], none⟩,
      ⟨.load 1 false, [.loc 0], none, [], none⟩,
      ⟨.alloc 9 [.str ⟨#[]⟩], [], none, [], none⟩,
      ⟨.store 1, [.loc 0, .loc 1], none, [], none⟩] [(8, 1)])
   (.seq (.block 2 (.seq (.region [⟨.mv, [.env 3], none, [], none⟩,
      ⟨.iaddr 5, [.loc 0, .const (.int .i64 0)], none, [], none⟩,
      ⟨.faddr 0, [.loc 0], none, [], none⟩,
      ⟨.load 1 false, [.loc 0], none, [], none⟩,
      ⟨.bin .neq, [.loc 0, .const (.int .u8 1)], none, [], none⟩,
      ⟨.mv, [.loc 0], none, [], none⟩] [(10, 0)])
   (.cond (.env 10) (.seq (.region [⟨.mv, [.env 3], none, [], none⟩,
      ⟨.mv, [.env 2], none, [], none⟩,
      ⟨.call 22, [.const (.int .i64 4), .loc 1, .loc 0], none, [], none⟩,
      ⟨.mv, [.const (.nils)], none, [], none⟩,
      ⟨.store 3, [.env 6, .loc 1], none, [], none⟩] [(5, 1)])
   (.ret)) (.seq (.region [⟨.faddr 1, [.env 4], none, [], none⟩,
      ⟨.load 1 false, [.loc 0], none, [], none⟩,
      ⟨.mkfn 30, [.env 8], none, [], none⟩,
      ⟨.call 29, [.loc 1, .loc 0], none, [], none⟩,
      ⟨.un .not, [.loc 0], none, [], none⟩,
      ⟨.mv, [.loc 0], none, [], none⟩] [(11, 0)])
   (.cond (.env 11) (.seq (.region [⟨.mv, [.env 3], none, [], none⟩,
      ⟨.mv, [.env 2], none, [], none⟩,
      ⟨.call 22, [.const (.int .i64 7), .loc 1, .loc 0], none, [], none⟩,
      ⟨.mv, [.const (.nils)], none, [], none⟩,
      ⟨.store 3, [.env 6, .loc 1], none, [], none⟩] [(5, 1)])
   (.ret)) (.seq (.region [⟨.mv, [.env 7], none, [], none⟩,
      ⟨.load 1 false, [.env 8], none, [], none⟩,
      ⟨.call 19, [.loc 1, .loc 0], none, [], none⟩,
      ⟨.mv, [.loc 0], none, [], none⟩,
      ⟨.mv, [.env 1], some (0, false), [], none⟩,
      ⟨.mkfn 31, [.env 8], some (1, false), [], none⟩,
      ⟨.call 24, [.loc 1, .loc 0], some (2, false), [], none⟩,
      ⟨.pick, [.loc 3, .const (.bool true), .loc 0], none, [], none⟩,
      ⟨.mv, [.loc 0], none, [], none⟩] [(12, 0)])
   (.cond (.env 12) (.seq (.region [⟨.mv, [.env 3], none, [], none⟩,
      ⟨.mv, [.env 2], none, [], none⟩,
      ⟨.call 22, [.const (.int .i64 8), .loc 1, .loc 0], none, [], none⟩,
      ⟨.mv, [.const (.nils)], none, [], none⟩,
      ⟨.store 3, [.env 6, .loc 1], none, [], none⟩] [(5, 1)])
   (.ret)) (.skip))))))))
   (.region [⟨.mv, [.env 7], none, [], none⟩,
      ⟨.load 1 false, [.env 8], none, [], none⟩,
      ⟨.bslice 9 1 1 [.str ⟨#[]⟩] [0] 1, [.loc 0], none, [], none⟩,
      ⟨.append 9 1 16 1, [.loc 2, .loc 0], none, [], none⟩,
      ⟨.mv, [.loc 0], none, [], none⟩] [(7, 0)]))))
   (.region [⟨.mv, [.env 3], none, [], none⟩,
      ⟨.slice false 5 true false false, [.loc 0, .const (.int .i64 1)], none, [], none⟩,
      ⟨.mv, [.loc 0], none, [], none⟩] [(3, 0)])))))
   (.seq (.region [⟨.mv, [.env 7], none, [], none⟩,
      ⟨.call 32, [.loc 0], none, [], none⟩,
      ⟨.build [.int .i64 0, .int .i64 0, .int .i64 0] [], [], none, [], none⟩,
      ⟨.mv, [.loc 1], none, [], none⟩,
      ⟨.store 3, [.env 6, .loc 1], none, [], none⟩] [(5, 1)])
   (.ret)))),
   [.tmp 5, .cell 6 3 true]⟩
theorem F26_low : lowFn Try.prog false [0, 1, 2, 3, 4, 8, 9, 10, 11, 14, 21, 30, 39] Try.f26 = some F26 := by as_aux_lemma => kernel_rfl
/-- slices.Index[[]string,string] [] -/
def F27 : LFunc := ⟨[0, 1, 4, 5, 7, 8, 9, 16], 2,
   .seq (.region [⟨.mv, [.const (.int .i64 0)], none, [], none⟩] [(2, 0)])
   (.seq (.seq (.region [⟨.mv, [.env 0], none, [], none⟩,
      ⟨.len false, [.loc 0], none, [], none⟩,
      ⟨.mv, [.const (.int .i64 0)], none, [], none⟩] [(4, 1), (5, 0)])
   (.block 0 (.loop (.seq (.region [⟨.bin .lss, [.env 5, .env 4], none, [], none⟩] [(6, 0)])
   (.seq (.cond (.env 6) (.skip) (.exit 0))
   (.seq (.block 1 (.seq (.region [⟨.mv, [.env 5], none, [], none⟩,
      ⟨.mv, [.loc 0], none, [], none⟩] [(3, 0)])
   (.seq (.region [⟨.mv, [.env 1], none, [], none⟩,
      ⟨.mv, [.env 0], none, [], none⟩,
      ⟨.mv, [.env 3], none, [], none⟩,
      ⟨.iaddr 1, [.loc 1, .loc 0], none, [], none⟩,
      ⟨.load 1 false, [.loc 0], none, [], none⟩,
      ⟨.bin .eql, [.loc 4, .loc 0], none, [], none⟩] [(7, 0)])
   (.cond (.env 7) (.seq (.region [⟨.mv, [.env 3], none, [], none⟩,
      ⟨.mv, [.loc 0], none, [], none⟩] [(2, 0)])
   (.ret)) (.skip)))))
   (.region [⟨.bin .add, [.env 5, .const (.int .i64 1)], none, [], none⟩,
      ⟨.mv, [.loc 0], none, [], none⟩] [(5, 0)])))))))
   (.seq (.region [⟨.mv, [.const (.int .i64 (-1))], none, [], none⟩] [(2, 0)])
   (.ret))),
   [.tmp 2]⟩
theorem F27_low : lowFn Try.prog false [0, 1, 4, 5, 7, 8, 9, 16] Try.f27 = some F27 := by as_aux_lemma => kernel_rfl
/-- columnseven/declaratives.skip [] -/
def F28 : LFunc := ⟨[0, 1, 4, 5, 23], 2,
   .seq (.region [⟨.mv, [.const (.nils)], none, [], none⟩,
      ⟨.mv, [.const (.bool false)], none, [], none⟩] [(2, 1), (3, 0)])
   (.seq (.seq (.region [⟨.mv, [.env 0], none, [], none⟩,
      ⟨.len false, [.loc 0], none, [], none⟩,
      ⟨.bin .gtr, [.loc 0, .const (.int .i64 0)], none, [], none⟩,
      ⟨.mv, [.loc 0], none, [], none⟩,
      ⟨.mv, [.env 0], some (0, true), [], none⟩,
      ⟨.iaddr 5, [.loc 0, .const (.int .i64 0)], some (1, true), [], none⟩,
      ⟨.faddr 0, [.loc 0], some (2, true), [], none⟩,
      ⟨.load 1 false, [.loc 0], some (3, true), [], none⟩,
      ⟨.bin .eql, [.loc 0, .const (.int .u8 1)], some (4, true), [], none⟩,
      ⟨.pick, [.loc 5, .loc 0, .const (.bool false)], none, [], none⟩,
      ⟨.mv, [.loc 0], none, [], none⟩,
      ⟨.mv, [.env 1], some (0, true), [], none⟩,
      ⟨.mv, [.env 0], some (1, true), [], none⟩,
      ⟨.iaddr 5, [.loc 0, .const (.int .i64 0)], some (2, true), [], none⟩,
      ⟨.faddr 1, [.loc 0], some (3, true), [], none⟩,
      ⟨.load 1 false, [.loc 0], some (4, true), [], none⟩,
      ⟨.call 19, [.loc 4, .loc 0], some (5, true), [], none⟩,
      ⟨.pick, [.loc 6, .loc 0, .const (.bool false)], none, [], none⟩] [(4, 0)])
   (.cond (.env 4) (.seq (.region [⟨.mv, [.env 0], none, [], none⟩,
      ⟨.slice false 5 true false false, [.loc 0, .const (.int .i64 1)], none, [], none⟩,
      ⟨.mv, [.loc 0], none, [], none⟩,
      ⟨.mv, [.const (.bool true)], none, [], none⟩] [(2, 1), (3, 0)])
   (.ret)) (.skip)))
   (.seq (.region [⟨.mv, [.env 0], none, [], none⟩,
      ⟨.mv, [.loc 0], none, [], none⟩,
      ⟨.mv, [.const (.bool false)], none, [], none⟩] [(2, 1), (3, 0)])
   (.ret))),
   [.tmp 2, .tmp 3]⟩
theorem F28_low : lowFn Try.prog false [0, 1, 4, 5, 23] Try.f28 = some F28 := by as_aux_lemma => kernel_rfl
/-- slices.ContainsFunc[[]columnseven/divisions.File,columnseven/divisions.File] [] -/
def F29 : LFunc := ⟨[0, 1, 4], 2,
   .seq (.region [⟨.mv, [.const (.bool false)], none, [], none⟩] [(2, 0)])
   (.seq (.region [⟨.mv, [.env 0], none, [], none⟩,
      ⟨.mv, [.env 1], none, [], none⟩,
      ⟨.call 33, [.loc 1, .loc 0], none, [], none⟩,
      ⟨.bin .geq, [.loc 0, .const (.int .i64 0)], none, [], none⟩,
      ⟨.mv, [.loc 0], none, [], none⟩] [(2, 0)])
   (.ret)),
   [.tmp 2]⟩
theorem F29_low : lowFn Try.prog false [0, 1, 4] Try.f29 = some F29 := by as_aux_lemma => kernel_rfl
/-- columnseven/declaratives.files$1 [] -/
def F30 : LFunc := ⟨[0, 1, 2, 3], 2,
   .seq (.region [⟨.box 57 12, [.env 0], none, [], none⟩,
      ⟨.mv, [.const (.bool false)], none, [], none⟩] [(2, 1), (3, 0)])
   (.seq (.region [⟨.faddr 0, [.env 2], none, [], none⟩,
      ⟨.load 1 false, [.loc 0], none, [], none⟩,
      ⟨.load 1 false, [.env 1], none, [], none⟩,
      ⟨.bin .eql, [.loc 1, .loc 0], none, [], none⟩,
      ⟨.mv, [.loc 0], none, [], none⟩] [(3, 0)])
   (.ret)),
   [.tmp 3]⟩
theorem F30_low : lowFn Try.prog false [0, 1, 2, 3] Try.f30 = some F30 := by as_aux_lemma => kernel_rfl
/-- columnseven/declaratives.files$2 [] -/
def F31 : LFunc := ⟨[0, 1, 2, 3], 2,
   .seq (.region [⟨.box 47 3, [.env 0], none, [], none⟩,
      ⟨.mv, [.const (.bool false)], none, [], none⟩] [(2, 1), (3, 0)])
   (.seq (.region [⟨.faddr 1, [.env 2], none, [], none⟩,
      ⟨.load 1 false, [.loc 0], none, [], none⟩,
      ⟨.load 1 false, [.env 1], none, [], none⟩,
      ⟨.call 19, [.loc 1, .loc 0], none, [], none⟩,
      ⟨.mv, [.loc 0], none, [], none⟩] [(3, 0)])
   (.ret)),
   [.tmp 3]⟩
theorem F31_low : lowFn Try.prog false [0, 1, 2, 3] Try.f31 = some F31 := by as_aux_lemma => kernel_rfl
/-- slices.Clip[[]string,string] [] -/
def F32 : LFunc := ⟨[0, 2], 1,
   .seq (.region [⟨.mv, [.const (.nils)], none, [], none⟩] [(1, 0)])
   (.seq (.region [⟨.mv, [.env 0], none, [], none⟩,
      ⟨.mv, [.env 0], none, [], none⟩,
      ⟨.len false, [.loc 0], none, [], none⟩,
      ⟨.mv, [.env 0], none, [], none⟩,
      ⟨.len false, [.loc 0], none, [], none⟩,
      ⟨.slice false 1 false true true, [.loc 4, .loc 2, .loc 0], none, [], none⟩,
      ⟨.mv, [.loc 0], none, [], none⟩] [(1, 0)])
   (.ret)),
   [.tmp 1]⟩
theorem F32_low : lowFn Try.prog false [0, 2] Try.f32 = some F32 := by as_aux_lemma => kernel_rfl
/-- slices.IndexFunc[[]columnseven/divisions.File,columnseven/divisions.File] [] -/
def F33 : LFunc := ⟨[0, 1, 4, 5, 7, 8, 9, 16], 2,
   .seq (.region [⟨.mv, [.const (.int .i64 0)], none, [], none⟩] [(2, 0)])
   (.seq (.seq (.region [⟨.mv, [.env 0], none, [], none⟩,
      ⟨.len false, [.loc 0], none, [], none⟩,
      ⟨.mv, [.const (.int .i64 0)], none, [], none⟩] [(4, 1), (5, 0)])
   (.block 0 (.loop (.seq (.region [⟨.bin .lss, [.env 5, .env 4], none, [], none⟩] [(6, 0)])
   (.seq (.cond (.env 6) (.skip) (.exit 0))
   (.seq (.block 1 (.seq (.region [⟨.mv, [.env 5], none, [], none⟩,
      ⟨.mv, [.loc 0], none, [], none⟩] [(3, 0)])
   (.seq (.region [⟨.mv, [.env 1], none, [], none⟩,
      ⟨.mv, [.env 0], none, [], none⟩,
      ⟨.mv, [.env 3], none, [], none⟩,
      ⟨.iaddr 12, [.loc 1, .loc 0], none, [], none⟩,
      ⟨.load 12 true, [.loc 0], none, [], none⟩,
      ⟨.callv, [.loc 4, .loc 0], none, [], none⟩] [(7, 0)])
   (.cond (.env 7) (.seq (.region [⟨.mv, [.env 3], none, [], none⟩,
      ⟨.mv, [.loc 0], none, [], none⟩] [(2, 0)])
   (.ret)) (.skip)))))
   (.region [⟨.bin .add, [.env 5, .const (.int .i64 1)], none, [], none⟩,
      ⟨.mv, [.loc 0], none, [], none⟩] [(5, 0)])))))))
   (.seq (.region [⟨.mv, [.const (.int .i64 (-1))], none, [], none⟩] [(2, 0)])
   (.ret))),
   [.tmp 2]⟩
theorem F33_low : lowFn Try.prog false [0, 1, 4, 5, 7, 8, 9, 16] Try.f33 = some F33 := by as_aux_lemma => kernel_rfl
def fnOf : FuncId → Option LFunc
  | 2 => some F2
  | 3 => some F3
  | 4 => some F4
  | 5 => some F5
  | 6 => some F6
  | 7 => some F7
  | 8 => some F8
  | 9 => some F9
  | 10 => some F10
  | 11 => some F11
  | 12 => some F12
  | 13 => some F13
  | 14 => some F14
  | 15 => some F15
  | 16 => some F16
  | 17 => some F17
  | 18 => some F18
  | 19 => some F19
  | 20 => some F20
  | 21 => some F21
  | 22 => some F22
  | 23 => some F23
  | 24 => some F24
  | 25 => some F25
  | 26 => some F26
  | 27 => some F27
  | 28 => some F28
  | 29 => some F29
  | 30 => some F30
  | 31 => some F31
  | 32 => some F32
  | 33 => some F33
  | _ => none
def LP : Prg := ⟨fnOf, fun f => false, fun f => true⟩
theorem LP_ok : PrgOK Try.prog LP := by
  intro f F h
  have h' : fnOf f = some F := h
  unfold fnOf at h'
  split at h'
  · injection h' with h'; subst h'; exact ⟨Try.f2, _, _, Try.func2, F2_low⟩
  · injection h' with h'; subst h'; exact ⟨Try.f3, _, _, Try.func3, F3_low⟩
  · injection h' with h'; subst h'; exact ⟨Try.f4, _, _, Try.func4, F4_low⟩
  · injection h' with h'; subst h'; exact ⟨Try.f5, _, _, Try.func5, F5_low⟩
  · injection h' with h'; subst h'; exact ⟨Try.f6, _, _, Try.func6, F6_low⟩
  · injection h' with h'; subst h'; exact ⟨Try.f7, _, _, Try.func7, F7_low⟩
  · injection h' with h'; subst h'; exact ⟨Try.f8, _, _, Try.func8, F8_low⟩
  · injection h' with h'; subst h'; exact ⟨Try.f9, _, _, Try.func9, F9_low⟩
  · injection h' with h'; subst h'; exact ⟨Try.f10, _, _, Try.func10, F10_low⟩
  · injection h' with h'; subst h'; exact ⟨Try.f11, _, _, Try.func11, F11_low⟩
  · injection h' with h'; subst h'; exact ⟨Try.f12, _, _, Try.func12, F12_low⟩
  · injection h' with h'; subst h'; exact ⟨Try.f13, _, _, Try.func13, F13_low⟩
  · injection h' with h'; subst h'; exact ⟨Try.f14, _, _, Try.func14, F14_low⟩
  · injection h' with h'; subst h'; exact ⟨Try.f15, _, _, Try.func15, F15_low⟩
  · injection h' with h'; subst h'; exact ⟨Try.f16, _, _, Try.func16, F16_low⟩
  · injection h' with h'; subst h'; exact ⟨Try.f17, _, _, Try.func17, F17_low⟩
  · injection h' with h'; subst h'; exact ⟨Try.f18, _, _, Try.func18, F18_low⟩
  · injection h' with h'; subst h'; exact ⟨Try.f19, _, _, Try.func19, F19_low⟩
  · injection h' with h'; subst h'; exact ⟨Try.f20, _, _, Try.func20, F20_low⟩
  · injection h' with h'; subst h'; exact ⟨Try.f21, _, _, Try.func21, F21_low⟩
  · injection h' with h'; subst h'; exact ⟨Try.f22, _, _, Try.func22, F22_low⟩
  · injection h' with h'; subst h'; exact ⟨Try.f23, _, _, Try.func23, F23_low⟩
  · injection h' with h'; subst h'; exact ⟨Try.f24, _, _, Try.func24, F24_low⟩
  · injection h' with h'; subst h'; exact ⟨Try.f25, _, _, Try.func25, F25_low⟩
  · injection h' with h'; subst h'; exact ⟨Try.f26, _, _, Try.func26, F26_low⟩
  · injection h' with h'; subst h'; exact ⟨Try.f27, _, _, Try.func27, F27_low⟩
  · injection h' with h'; subst h'; exact ⟨Try.f28, _, _, Try.func28, F28_low⟩
  · injection h' with h'; subst h'; exact ⟨Try.f29, _, _, Try.func29, F29_low⟩
  · injection h' with h'; subst h'; exact ⟨Try.f30, _, _, Try.func30, F30_low⟩
  · injection h' with h'; subst h'; exact ⟨Try.f31, _, _, Try.func31, F31_low⟩
  · injection h' with h'; subst h'; exact ⟨Try.f32, _, _, Try.func32, F32_low⟩
  · injection h' with h'; subst h'; exact ⟨Try.f33, _, _, Try.func33, F33_low⟩
  · simp at h'
theorem mixed : Try.prog.follows .mixedOrders = true := by kernel_rfl
end Go.Proofs.Ytnihohodcogpeaa

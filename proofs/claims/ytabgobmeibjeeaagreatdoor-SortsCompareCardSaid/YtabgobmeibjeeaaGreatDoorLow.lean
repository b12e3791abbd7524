/- Proved here: functions of the program in the abstract machine's form are the given ones; no condition. -/
import Derived.Test.YtabgobmeibjeeaaGreatDoorLow1
import Derived.Test.YtabgobmeibjeeaaGreatDoorLow2
namespace Go.Proofs.YtabgobmeibjeeaaGreatDoor
set_option maxRecDepth 100000
set_option maxHeartbeats 4000000
set_option linter.unusedVariables false

def fnOf : FuncId → Option LFunc
  | 3 => some F3
  | 4 => some F4
  | 5 => some F5
  | 6 => some F6
  | 7 => some F7
  | 8 => some F8
  | 9 => some F9
  | 10 => some F10
  | 11 => some F11
  | 12 => some F12
  | 13 => some F13
  | 14 => some F14
  | 15 => some F15
  | 16 => some F16
  | 17 => some F17
  | 18 => some F18
  | 19 => some F19
  | 20 => some F20
  | 21 => some F21
  | 22 => some F22
  | 23 => some F23
  | 24 => some F24
  | 25 => some F25
  | 26 => some F26
  | 27 => some F27
  | 28 => some F28
  | 29 => some F29
  | 30 => some F30
  | 31 => some F31
  | 32 => some F32
  | 33 => some F33
  | 34 => some F34
  | 35 => some F35
  | 36 => some F36
  | 38 => some F38
  | 39 => some F39
  | 40 => some F40
  | 41 => some F41
  | 42 => some F42
  | 43 => some F43
  | 44 => some F44
  | 45 => some F45
  | 46 => some F46
  | 47 => some F47
  | 48 => some F48
  | 49 => some F49
  | 50 => some F50
  | 51 => some F51
  | 52 => some F52
  | 53 => some F53
  | 54 => some F54
  | 55 => some F55
  | 56 => some F56
  | 57 => some F57
  | 58 => some F58
  | 59 => some F59
  | 60 => some F60
  | 61 => some F61
  | 62 => some F62
  | 63 => some F63
  | 64 => some F64
  | 78 => some F78
  | 79 => some F79
  | 80 => some F80
  | 81 => some F81
  | 82 => some F82
  | 83 => some F83
  | 84 => some F84
  | 85 => some F85
  | 86 => some F86
  | 87 => some F87
  | 88 => some F88
  | 90 => some F90
  | 91 => some F91
  | 92 => some F92
  | 93 => some F93
  | 96 => some F96
  | 97 => some F97
  | 98 => some F98
  | 99 => some F99
  | 100 => some F100
  | 101 => some F101
  | 105 => some F105
  | 113 => some F113
  | 116 => some F116
  | 117 => some F117
  | 118 => some F118
  | 119 => some F119
  | 120 => some F120
  | 121 => some F121
  | 122 => some F122
  | 123 => some F123
  | 124 => some F124
  | 125 => some F125
  | 126 => some F126
  | 127 => some F127
  | 130 => some F130
  | 132 => some F132
  | 133 => some F133
  | 135 => some F135
  | 136 => some F136
  | 145 => some F145
  | 146 => some F146
  | 147 => some F147
  | 148 => some F148
  | 160 => some F160
  | 161 => some F161
  | 162 => some F162
  | 164 => some F164
  | 166 => some F166
  | 174 => some F174
  | _ => none
def LP : Prg := ⟨fnOf, fun f => f == 48 || f == 79 || f == 118 || f == 119 || f == 146 || f == 161, fun f => !(f == 22 || f == 55 || f == 56)⟩
theorem LP_ok : PrgOK Tryz.prog LP := by
  intro f F h
  have h' : fnOf f = some F := h
  unfold fnOf at h'
  split at h'
  · injection h' with h'; subst h'; exact ⟨Tryz.f3, _, _, Tryz.func3, F3_low⟩
  · injection h' with h'; subst h'; exact ⟨Tryz.f4, _, _, Tryz.func4, F4_low⟩
  · injection h' with h'; subst h'; exact ⟨Tryz.f5, _, _, Tryz.func5, F5_low⟩
  · injection h' with h'; subst h'; exact ⟨Tryz.f6, _, _, Tryz.func6, F6_low⟩
  · injection h' with h'; subst h'; exact ⟨Tryz.f7, _, _, Tryz.func7, F7_low⟩
  · injection h' with h'; subst h'; exact ⟨Tryz.f8, _, _, Tryz.func8, F8_low⟩
  · injection h' with h'; subst h'; exact ⟨Tryz.f9, _, _, Tryz.func9, F9_low⟩
  · injection h' with h'; subst h'; exact ⟨Tryz.f10, _, _, Tryz.func10, F10_low⟩
  · injection h' with h'; subst h'; exact ⟨Tryz.f11, _, _, Tryz.func11, F11_low⟩
  · injection h' with h'; subst h'; exact ⟨Tryz.f12, _, _, Tryz.func12, F12_low⟩
  · injection h' with h'; subst h'; exact ⟨Tryz.f13, _, _, Tryz.func13, F13_low⟩
  · injection h' with h'; subst h'; exact ⟨Tryz.f14, _, _, Tryz.func14, F14_low⟩
  · injection h' with h'; subst h'; exact ⟨Tryz.f15, _, _, Tryz.func15, F15_low⟩
  · injection h' with h'; subst h'; exact ⟨Tryz.f16, _, _, Tryz.func16, F16_low⟩
  · injection h' with h'; subst h'; exact ⟨Tryz.f17, _, _, Tryz.func17, F17_low⟩
  · injection h' with h'; subst h'; exact ⟨Tryz.f18, _, _, Tryz.func18, F18_low⟩
  · injection h' with h'; subst h'; exact ⟨Tryz.f19, _, _, Tryz.func19, F19_low⟩
  · injection h' with h'; subst h'; exact ⟨Tryz.f20, _, _, Tryz.func20, F20_low⟩
  · injection h' with h'; subst h'; exact ⟨Tryz.f21, _, _, Tryz.func21, F21_low⟩
  · injection h' with h'; subst h'; exact ⟨Tryz.f22, _, _, Tryz.func22, F22_low⟩
  · injection h' with h'; subst h'; exact ⟨Tryz.f23, _, _, Tryz.func23, F23_low⟩
  · injection h' with h'; subst h'; exact ⟨Tryz.f24, _, _, Tryz.func24, F24_low⟩
  · injection h' with h'; subst h'; exact ⟨Tryz.f25, _, _, Tryz.func25, F25_low⟩
  · injection h' with h'; subst h'; exact ⟨Tryz.f26, _, _, Tryz.func26, F26_low⟩
  · injection h' with h'; subst h'; exact ⟨Tryz.f27, _, _, Tryz.func27, F27_low⟩
  · injection h' with h'; subst h'; exact ⟨Tryz.f28, _, _, Tryz.func28, F28_low⟩
  · injection h' with h'; subst h'; exact ⟨Tryz.f29, _, _, Tryz.func29, F29_low⟩
  · injection h' with h'; subst h'; exact ⟨Tryz.f30, _, _, Tryz.func30, F30_low⟩
  · injection h' with h'; subst h'; exact ⟨Tryz.f31, _, _, Tryz.func31, F31_low⟩
  · injection h' with h'; subst h'; exact ⟨Tryz.f32, _, _, Tryz.func32, F32_low⟩
  · injection h' with h'; subst h'; exact ⟨Tryz.f33, _, _, Tryz.func33, F33_low⟩
  · injection h' with h'; subst h'; exact ⟨Tryz.f34, _, _, Tryz.func34, F34_low⟩
  · injection h' with h'; subst h'; exact ⟨Tryz.f35, _, _, Tryz.func35, F35_low⟩
  · injection h' with h'; subst h'; exact ⟨Tryz.f36, _, _, Tryz.func36, F36_low⟩
  · injection h' with h'; subst h'; exact ⟨Tryz.f38, _, _, Tryz.func38, F38_low⟩
  · injection h' with h'; subst h'; exact ⟨Tryz.f39, _, _, Tryz.func39, F39_low⟩
  · injection h' with h'; subst h'; exact ⟨Tryz.f40, _, _, Tryz.func40, F40_low⟩
  · injection h' with h'; subst h'; exact ⟨Tryz.f41, _, _, Tryz.func41, F41_low⟩
  · injection h' with h'; subst h'; exact ⟨Tryz.f42, _, _, Tryz.func42, F42_low⟩
  · injection h' with h'; subst h'; exact ⟨Tryz.f43, _, _, Tryz.func43, F43_low⟩
  · injection h' with h'; subst h'; exact ⟨Tryz.f44, _, _, Tryz.func44, F44_low⟩
  · injection h' with h'; subst h'; exact ⟨Tryz.f45, _, _, Tryz.func45, F45_low⟩
  · injection h' with h'; subst h'; exact ⟨Tryz.f46, _, _, Tryz.func46, F46_low⟩
  · injection h' with h'; subst h'; exact ⟨Tryz.f47, _, _, Tryz.func47, F47_low⟩
  · injection h' with h'; subst h'; exact ⟨Tryz.f48, _, _, Tryz.func48, F48_low⟩
  · injection h' with h'; subst h'; exact ⟨Tryz.f49, _, _, Tryz.func49, F49_low⟩
  · injection h' with h'; subst h'; exact ⟨Tryz.f50, _, _, Tryz.func50, F50_low⟩
  · injection h' with h'; subst h'; exact ⟨Tryz.f51, _, _, Tryz.func51, F51_low⟩
  · injection h' with h'; subst h'; exact ⟨Tryz.f52, _, _, Tryz.func52, F52_low⟩
  · injection h' with h'; subst h'; exact ⟨Tryz.f53, _, _, Tryz.func53, F53_low⟩
  · injection h' with h'; subst h'; exact ⟨Tryz.f54, _, _, Tryz.func54, F54_low⟩
  · injection h' with h'; subst h'; exact ⟨Tryz.f55, _, _, Tryz.func55, F55_low⟩
  · injection h' with h'; subst h'; exact ⟨Tryz.f56, _, _, Tryz.func56, F56_low⟩
  · injection h' with h'; subst h'; exact ⟨Tryz.f57, _, _, Tryz.func57, F57_low⟩
  · injection h' with h'; subst h'; exact ⟨Tryz.f58, _, _, Tryz.func58, F58_low⟩
  · injection h' with h'; subst h'; exact ⟨Tryz.f59, _, _, Tryz.func59, F59_low⟩
  · injection h' with h'; subst h'; exact ⟨Tryz.f60, _, _, Tryz.func60, F60_low⟩
  · injection h' with h'; subst h'; exact ⟨Tryz.f61, _, _, Tryz.func61, F61_low⟩
  · injection h' with h'; subst h'; exact ⟨Tryz.f62, _, _, Tryz.func62, F62_low⟩
  · injection h' with h'; subst h'; exact ⟨Tryz.f63, _, _, Tryz.func63, F63_low⟩
  · injection h' with h'; subst h'; exact ⟨Tryz.f64, _, _, Tryz.func64, F64_low⟩
  · injection h' with h'; subst h'; exact ⟨Tryz.f78, _, _, Tryz.func78, F78_low⟩
  · injection h' with h'; subst h'; exact ⟨Tryz.f79, _, _, Tryz.func79, F79_low⟩
  · injection h' with h'; subst h'; exact ⟨Tryz.f80, _, _, Tryz.func80, F80_low⟩
  · injection h' with h'; subst h'; exact ⟨Tryz.f81, _, _, Tryz.func81, F81_low⟩
  · injection h' with h'; subst h'; exact ⟨Tryz.f82, _, _, Tryz.func82, F82_low⟩
  · injection h' with h'; subst h'; exact ⟨Tryz.f83, _, _, Tryz.func83, F83_low⟩
  · injection h' with h'; subst h'; exact ⟨Tryz.f84, _, _, Tryz.func84, F84_low⟩
  · injection h' with h'; subst h'; exact ⟨Tryz.f85, _, _, Tryz.func85, F85_low⟩
  · injection h' with h'; subst h'; exact ⟨Tryz.f86, _, _, Tryz.func86, F86_low⟩
  · injection h' with h'; subst h'; exact ⟨Tryz.f87, _, _, Tryz.func87, F87_low⟩
  · injection h' with h'; subst h'; exact ⟨Tryz.f88, _, _, Tryz.func88, F88_low⟩
  · injection h' with h'; subst h'; exact ⟨Tryz.f90, _, _, Tryz.func90, F90_low⟩
  · injection h' with h'; subst h'; exact ⟨Tryz.f91, _, _, Tryz.func91, F91_low⟩
  · injection h' with h'; subst h'; exact ⟨Tryz.f92, _, _, Tryz.func92, F92_low⟩
  · injection h' with h'; subst h'; exact ⟨Tryz.f93, _, _, Tryz.func93, F93_low⟩
  · injection h' with h'; subst h'; exact ⟨Tryz.f96, _, _, Tryz.func96, F96_low⟩
  · injection h' with h'; subst h'; exact ⟨Tryz.f97, _, _, Tryz.func97, F97_low⟩
  · injection h' with h'; subst h'; exact ⟨Tryz.f98, _, _, Tryz.func98, F98_low⟩
  · injection h' with h'; subst h'; exact ⟨Tryz.f99, _, _, Tryz.func99, F99_low⟩
  · injection h' with h'; subst h'; exact ⟨Tryz.f100, _, _, Tryz.func100, F100_low⟩
  · injection h' with h'; subst h'; exact ⟨Tryz.f101, _, _, Tryz.func101, F101_low⟩
  · injection h' with h'; subst h'; exact ⟨Tryz.f105, _, _, Tryz.func105, F105_low⟩
  · injection h' with h'; subst h'; exact ⟨Tryz.f113, _, _, Tryz.func113, F113_low⟩
  · injection h' with h'; subst h'; exact ⟨Tryz.f116, _, _, Tryz.func116, F116_low⟩
  · injection h' with h'; subst h'; exact ⟨Tryz.f117, _, _, Tryz.func117, F117_low⟩
  · injection h' with h'; subst h'; exact ⟨Tryz.f118, _, _, Tryz.func118, F118_low⟩
  · injection h' with h'; subst h'; exact ⟨Tryz.f119, _, _, Tryz.func119, F119_low⟩
  · injection h' with h'; subst h'; exact ⟨Tryz.f120, _, _, Tryz.func120, F120_low⟩
  · injection h' with h'; subst h'; exact ⟨Tryz.f121, _, _, Tryz.func121, F121_low⟩
  · injection h' with h'; subst h'; exact ⟨Tryz.f122, _, _, Tryz.func122, F122_low⟩
  · injection h' with h'; subst h'; exact ⟨Tryz.f123, _, _, Tryz.func123, F123_low⟩
  · injection h' with h'; subst h'; exact ⟨Tryz.f124, _, _, Tryz.func124, F124_low⟩
  · injection h' with h'; subst h'; exact ⟨Tryz.f125, _, _, Tryz.func125, F125_low⟩
  · injection h' with h'; subst h'; exact ⟨Tryz.f126, _, _, Tryz.func126, F126_low⟩
  · injection h' with h'; subst h'; exact ⟨Tryz.f127, _, _, Tryz.func127, F127_low⟩
  · injection h' with h'; subst h'; exact ⟨Tryz.f130, _, _, Tryz.func130, F130_low⟩
  · injection h' with h'; subst h'; exact ⟨Tryz.f132, _, _, Tryz.func132, F132_low⟩
  · injection h' with h'; subst h'; exact ⟨Tryz.f133, _, _, Tryz.func133, F133_low⟩
  · injection h' with h'; subst h'; exact ⟨Tryz.f135, _, _, Tryz.func135, F135_low⟩
  · injection h' with h'; subst h'; exact ⟨Tryz.f136, _, _, Tryz.func136, F136_low⟩
  · injection h' with h'; subst h'; exact ⟨Tryz.f145, _, _, Tryz.func145, F145_low⟩
  · injection h' with h'; subst h'; exact ⟨Tryz.f146, _, _, Tryz.func146, F146_low⟩
  · injection h' with h'; subst h'; exact ⟨Tryz.f147, _, _, Tryz.func147, F147_low⟩
  · injection h' with h'; subst h'; exact ⟨Tryz.f148, _, _, Tryz.func148, F148_low⟩
  · injection h' with h'; subst h'; exact ⟨Tryz.f160, _, _, Tryz.func160, F160_low⟩
  · injection h' with h'; subst h'; exact ⟨Tryz.f161, _, _, Tryz.func161, F161_low⟩
  · injection h' with h'; subst h'; exact ⟨Tryz.f162, _, _, Tryz.func162, F162_low⟩
  · injection h' with h'; subst h'; exact ⟨Tryz.f164, _, _, Tryz.func164, F164_low⟩
  · injection h' with h'; subst h'; exact ⟨Tryz.f166, _, _, Tryz.func166, F166_low⟩
  · injection h' with h'; subst h'; exact ⟨Tryz.f174, _, _, Tryz.func174, F174_low⟩
  · simp at h'
theorem mixed : Tryz.prog.follows .mixedOrders = true := by kernel_rfl
end Go.Proofs.YtabgobmeibjeeaaGreatDoor

/- Proved here: parts of the proof, joined (Low1): an abstract machine, its soundness, what functions of the program compute in it; no condition. -/
import Derived.Test.YtlhdliikahebhaaGreatDoorM4
namespace Go.Proofs.YtlhdliikahebhaaGreatDoor
set_option maxRecDepth 100000
set_option maxHeartbeats 4000000
set_option linter.unusedVariables false
set_option maxRecDepth 100000
set_option maxHeartbeats 0
noncomputable def P3:=mkP (Be Tryz.prog (KD [27] [162,88]) [0,1,2,6,7,8,9,10,11,12,13,14,15,16,17,18,19,21,22,23,24,25,26,27,28,29,30,31,32,33,34,35,36,37,38,39,40,41,49,54,62,67,98,113,136,150,159,176,199,202,216,248,255,266,274] Tryz.f3)
noncomputable def F3:Xi:=P3.1
noncomputable def P4:=mkP (Be Tryz.prog (KD [] []) [0,1,2,3,4,5,6,7,8,9,25,56,58,65] Tryz.f4)
noncomputable def F4:Xi:=P4.1
noncomputable def P5:=mkP (Be Tryz.prog (KD [] []) [0,2,3,4,5,19] Tryz.f5)
noncomputable def F5:Xi:=P5.1
noncomputable def P7:=mkP (Be Tryz.prog (KD [] []) [0,1,4] Tryz.f7)
noncomputable def F7:Xi:=P7.1
noncomputable def P8:=mkP (Be Tryz.prog (KD [] []) [0,1,2,3,6,7,8,9,16] Tryz.f8)
noncomputable def F8:Xi:=P8.1
noncomputable def P9:=mkP (Be Tryz.prog (KD [] []) [0,2,4] Tryz.f9)
noncomputable def F9:Xi:=P9.1
noncomputable def P11:=mkP (Be Tryz.prog (KD [] [2]) [0,1,2,4,5,6,9,14,28,41,48,52,64,72,79,84] Tryz.f11)
noncomputable def F11:Xi:=P11.1
noncomputable def P13:=mkP (Be Tryz.prog (KD [] [88]) [0,1,4,5,6,7,8,9,10,11,12,13,14,16,20,26,51,58,77,82] Tryz.f13)
noncomputable def F13:Xi:=P13.1
def F14:Xi:=⟨[0,1,2,3,6,8,9,11,12,13,15,45,59,62,78],4,
sr [qo (.box 77 5) [.env 2],
qo (.alloc 72 [.bool false,.X4,.str ⟨#[]⟩,.bool false,.int .i64 0]) []] [(4,1),(5,0)]
(.seq (sr [qe 0,
qo (.eqp false) [.loc 0,.const (.nilp)]] [(10,0)]
(cn 10 (sr [qo (.build [.bool false,.X4,.str ⟨#[]⟩,.bool false,.int .i64 0] []) [],
qs2 5 5 0] []
(.ret)) (.skip)))
(sr [qde 5 4,
qo (.call 39) [.loc 0,.const (.str ⟨#[]⟩)],
ql 0,
qx 0 0,
qx 1 1,
ql 1,
ql 1] [(6,1)]
(.seq (sr [qe 3,
qo (.bin .eql) [.loc 0,qki 0],
ql 0,
qge 6 0 true,
qg (.len false) [.loc 0] 1 true,
qg (.bin .eql) [.loc 0,qki 1] 2 true,
qpf 3 0,
ql 0,
qge 6 0 true,
qg (.X0 5) [.loc 0,qki 0] 1 true,
qg (.X3 0) [.loc 0] 2 true,
qgd 1 0 3 true,
qg (.bin .eql) [.loc 0,qkb 1] 4 true,
qpf 5 0,
ql 0,
qg (.X3 0) [.env 4] 0 true,
qgd 1 0 1 true,
qg (.bin .eql) [.loc 0,.const (.str ⟨#[68,73,83,80,76,65,89]⟩)] 2 true,
qgl 0 3 true,
qg (.X3 0) [.env 4] 0 false,
qgd 1 0 1 false,
qg (.bin .eql) [.loc 0,.const (.str ⟨#[65,67,67,69,80,84]⟩)] 2 false,
qg .pick [.loc 3,.const (.bool true),.loc 0] 7 true,
qpf 8 0] [(11,0)]
(cn 11 (.seq (.drawn [qe 0,
qwk 0 1 1,
qwf 0 0 3 2,
qwd 1 0 7 3,
qwe 6 0 4,
qw (.X0 5) [.loc 0,qki 0] 16 5,
qwf 1 0 48 6,
qwd 1 0 112 7,
qw (.call 40) [.loc 4,.loc 0] 255 8,
qwl 0 511 9,
qw (.extract 0) [.loc 0] 1023 10,
qw (.extract 1) [.loc 1] 1023 11,
qwl 1 2047 12,
qwl 1 8191 13] [(7,1),(8,0)] [])
(sr [qe 8,
qo (.bin .eql) [.loc 0,qki 0]] [(12,0)]
(cn 12 (sr [qo .mv [.const (.fn 41 [])]] [(9,0)]
(.seq (sr [qfe 0 4,
qd 1 0,
qo (.bin .eql) [.loc 0,.const (.str ⟨#[65,67,67,69,80,84]⟩)]] [(13,0)]
(cn 13 (rg [qo .mv [.const (.fn 42 [])]] [(9,0)]) (.skip)))
(sr [qe 9,
qe 1,
qe 0,
qnl 0,
qfl 0 0,
qd 1 0,
qe 7,
qia 4 1 0,
qdt 4 0,
qo .callv [.loc 8,.loc 7,.loc 0],
qo (.build [.bool false,.X4,.str ⟨#[]⟩,.bool false,.int .i64 0] [(0,1),(4,1)]) [.const (.bool true),.loc 0],
qs2 5 5 0] []
(.ret)))) (.skip)))) (.skip)))
(.seq (sr [qe 0,
qnl 0,
qfl 1 0,
qd 1 0,
qo (.eqnil true 4) [.loc 0,.const (.nili)]] [(14,0)]
(cn 14 (.seq (.drawn [qe 0,
qwk 0 1 1,
qwf 1 0 3 2,
qwd 1 0 7 3,
qwe 1 0 4,
qw (.load 5 true) [.env 4] 0 5,
qwe 3 0 6,
qw (.invoke [(48,14),(52,400),(53,401)]) [.loc 3,.loc 2,.loc 1,.loc 0] 127 7,
qw (.store 5) [.env 5,.loc 0] 255 8] [] [])
(.ret)) (.skip)))
(sr [qo (.build [.bool false,.X4,.str ⟨#[]⟩,.bool false,.int .i64 0] []) [],
qs2 5 5 0] []
(.ret)))))),
[.cell 5 5 true]⟩
noncomputable def P16:=mkP (Be Tryz.prog (KD [] []) [0,1,2,4,5,6,7,8,9,10,11,12,13,14,18,21,22,23,24,35,37,41,53] Tryz.f16)
noncomputable def F16:Xi:=P16.1
noncomputable def P18:=mkP (Be Tryz.prog (KD [57,5,9] []) [0,1,2,4,5,6,7,8,9,10,11,12,13,14,15,16,20,27,30,31,32,41,42,43,44,54,62,63,64,65,66,74,91,92,93,94] Tryz.f18)
noncomputable def F18:Xi:=P18.1
noncomputable def P19:=mkP (Be Tryz.prog (KD [32] []) [0,2,3,4,5,6,7,12,16,42,43,44] Tryz.f19)
noncomputable def F19:Xi:=P19.1
noncomputable def P20:=mkP (Be Tryz.prog (KD [116] [29,35,51]) [0,1,4,5,6,7,8,9,18,40,56] Tryz.f20)
noncomputable def F20:Xi:=P20.1
noncomputable def P30:=mkP (Be Tryz.prog (KD [] []) [0,2,4] Tryz.f30)
noncomputable def F30:Xi:=P30.1
noncomputable def P32:=mkP (Be Tryz.prog (KD [] []) [0,2] Tryz.f32)
noncomputable def F32:Xi:=P32.1
noncomputable def P33:=mkP (Be Tryz.prog (KD [] []) [0,2,4] Tryz.f33)
noncomputable def F33:Xi:=P33.1
noncomputable def P37:=mkP (Be Tryz.prog (KD [] [1]) [0,1,2] Tryz.f37)
noncomputable def F37:Xi:=P37.1
noncomputable def P40:=mkP (Be Tryz.prog (KD [] []) [0,1,3,4,5,6,11] Tryz.f40)
noncomputable def F40:Xi:=P40.1
noncomputable def P41:=mkP (Be Tryz.prog (KD [] []) [0,1,3,4,5,7,8,9,10,11,12,13,15,17,18,19,20,37,46,56,70,83,97,104,105,106,107,116] Tryz.f41)
noncomputable def F41:Xi:=P41.1
noncomputable def P42:=mkP (Be Tryz.prog (KD [] []) [0,1,3,4,5,6,7,9,10,11,23,25,26,27,28,47] Tryz.f42)
noncomputable def F42:Xi:=P42.1
noncomputable def P44:=mkP (Be Tryz.prog (KD [] []) [0,1,2,4,8,10,11,12,13,16,31,50] Tryz.f44)
noncomputable def F44:Xi:=P44.1
noncomputable def P45:=mkP (Be Tryz.prog (KD [] []) [0,1,2,4,5,6,7,8,9,10,11,21,29,46,49] Tryz.f45)
noncomputable def F45:Xi:=P45.1
noncomputable def P46:=mkP (Be Tryz.prog (KD [] []) [0,2] Tryz.f46)
noncomputable def F46:Xi:=P46.1
noncomputable def P47:=mkP (Be Tryz.prog (KD [] []) [0,2] Tryz.f47)
noncomputable def F47:Xi:=P47.1
noncomputable def P48:=mkP (Be Tryz.prog (KD [] []) [0,2,4] Tryz.f48)
noncomputable def F48:Xi:=P48.1
noncomputable def P49:=mkP (Be Tryz.prog (KD [] []) [0,1,4,5,6,7,8,9,10,11,13,16,32,38,42,50,63] Tryz.f49)
noncomputable def F49:Xi:=P49.1
noncomputable def P51:=mkP (Be Tryz.prog (KD [] []) [0,2,3,15] Tryz.f51)
noncomputable def F51:Xi:=P51.1
noncomputable def P53:=mkP (Be Tryz.prog (KD [] []) [0,1,4,5,7,8,9,16] Tryz.f53)
noncomputable def F53:Xi:=P53.1
noncomputable def P54:=mkP (Be Tryz.prog (KD [] []) [0,1,2] Tryz.f54)
noncomputable def F54:Xi:=P54.1
noncomputable def P55:=mkP (Be Tryz.prog (KD [] []) [0,1,2,5,6,26,31] Tryz.f55)
noncomputable def F55:Xi:=P55.1
noncomputable def P56:=mkP (Be Tryz.prog (KD [] []) [0,2] Tryz.f56)
noncomputable def F56:Xi:=P56.1
noncomputable def P57:=mkP (Be Tryz.prog (KD [] []) [0,2] Tryz.f57)
noncomputable def F57:Xi:=P57.1
noncomputable def P59:=mkP (Be Tryz.prog (KD [] [1,21,32,45,52,59,69]) [0,1,2,3,7,36,38] Tryz.f59)
noncomputable def F59:Xi:=P59.1
noncomputable def P94:=mkP (Be Tryz.prog (KD [] []) [0,1,4,5,7,8,9,16] Tryz.f94)
noncomputable def F94:Xi:=P94.1
noncomputable def P95:=mkP (Be Tryz.prog (KD [] []) [0,1,2,3] Tryz.f95)
noncomputable def F95:Xi:=P95.1
noncomputable def P96:=mkP (Be Tryz.prog (KD [] []) [0,1,4,5,6,8,9,13] Tryz.f96)
noncomputable def F96:Xi:=P96.1
noncomputable def P97:=mkP (Be Tryz.prog (KD [] [2,3]) [0,1,2,3,4,5,6,7,8,9,10,20,28,34,46,61,65,82,86] Tryz.f97)
noncomputable def F97:Xi:=P97.1
noncomputable def P98:=mkP (Be Tryz.prog (KD [9] []) [0,2,3,5,6,8,9,10,11,12,20,25,26,27,28] Tryz.f98)
noncomputable def F98:Xi:=P98.1
noncomputable def P99:=mkP (Be Tryz.prog (KD [] []) [0,1,2,4,6,7,8,9,10,12,21,31] Tryz.f99)
noncomputable def F99:Xi:=P99.1
noncomputable def P101:=mkP (Be Tryz.prog (KD [] []) [0,1,2] Tryz.f101)
noncomputable def F101:Xi:=P101.1
noncomputable def P102:=mkP (Be Tryz.prog (KD [] []) [0,2,3,4,5,6,7,8,11,19,39] Tryz.f102)
noncomputable def F102:Xi:=P102.1
noncomputable def P103:=mkP (Be Tryz.prog (KD [] []) [0,1,4,5,6,12,21,34] Tryz.f103)
noncomputable def F103:Xi:=P103.1
noncomputable def P104:=mkP (Be Tryz.prog (KD [] [3,4]) [0,1,2,3,4,6,7,8,9,10,11,12,14,16,17,18,31,50,79] Tryz.f104)
noncomputable def F104:Xi:=P104.1
noncomputable def P110:=mkP (Be Tryz.prog (KD [] []) [0,2,3,4,5,11,25] Tryz.f110)
noncomputable def F110:Xi:=P110.1
noncomputable def P111:=mkP (Be Tryz.prog (KD [] []) [0,2,4,15,28,46,58] Tryz.f111)
noncomputable def F111:Xi:=P111.1
noncomputable def P112:=mkP (Be Tryz.prog (KD [] []) [0,2,3,4,5,6,42,57,69,77,100,115] Tryz.f112)
noncomputable def F112:Xi:=P112.1
end Go.Proofs.YtlhdliikahebhaaGreatDoor
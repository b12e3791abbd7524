/- Proved here: parts of the proof, joined (Low2): an abstract machine, its soundness, what functions of the program compute in it; no condition. -/
import Derived.Test.YtlhdliikahebhaaGreatDoorM4
namespace Go.Proofs.YtlhdliikahebhaaGreatDoor
set_option maxRecDepth 100000
set_option maxHeartbeats 4000000
set_option linter.unusedVariables false
set_option maxRecDepth 100000
set_option maxHeartbeats 0
noncomputable def P147:=mkP (Be Tryz.prog (KD [] []) [0,1,4,5,6,7,8,15] Tryz.f147)
noncomputable def F147:Xi:=P147.1
noncomputable def P150:=mkP (Be Tryz.prog (KD [] [1]) [0,1,2,3,4,7,8,14,31] Tryz.f150)
noncomputable def F150:Xi:=P150.1
noncomputable def P151:=mkP (Be Tryz.prog (KD [] [2,3]) [0,1,2,3,4,5,6,7,9,10,14,25,37] Tryz.f151)
noncomputable def F151:Xi:=P151.1
noncomputable def P152:=mkP (Be Tryz.prog (KD [] [2,3]) [0,1,2,3,4,5,6,8,9,19,31] Tryz.f152)
noncomputable def F152:Xi:=P152.1
noncomputable def P155:=mkP (Be Tryz.prog (KD [9] []) [0,1,4,6,16] Tryz.f155)
noncomputable def F155:Xi:=P155.1
noncomputable def P156:=mkP (Be Tryz.prog (KD [] []) [0,1,2,4,6,7,8,20] Tryz.f156)
noncomputable def F156:Xi:=P156.1
noncomputable def P157:=mkP (Be Tryz.prog (KD [] []) [0,1,4,5] Tryz.f157)
noncomputable def F157:Xi:=P157.1
noncomputable def P158:=mkP (Be Tryz.prog (KD [] []) [0,1,4] Tryz.f158)
noncomputable def F158:Xi:=P158.1
noncomputable def P159:=mkP (Be Tryz.prog (KD [] []) [0,1,4,5,6] Tryz.f159)
noncomputable def F159:Xi:=P159.1
noncomputable def P160:=mkP (Be Tryz.prog (KD [] []) [0,2] Tryz.f160)
noncomputable def F160:Xi:=P160.1
noncomputable def P161:=mkP (Be Tryz.prog (KD [] []) [0,1,2,6,7,11,18,27,37] Tryz.f161)
noncomputable def F161:Xi:=P161.1
noncomputable def P162:=mkP (Be Tryz.prog (KD [] []) [0,1,4,13] Tryz.f162)
noncomputable def F162:Xi:=P162.1
noncomputable def P163:=mkP (Be Tryz.prog (KD [] []) [0,1,4,16] Tryz.f163)
noncomputable def F163:Xi:=P163.1
noncomputable def P165:=mkP (Be Tryz.prog (KD [] []) [0,1,4,7,12] Tryz.f165)
noncomputable def F165:Xi:=P165.1
noncomputable def P166:=mkP (Be Tryz.prog (KD [] []) [0,1,4,7,15] Tryz.f166)
noncomputable def F166:Xi:=P166.1
def F169:Xi:=⟨[0,1,2,3,4,24,41],1,
sr [qo (.boxc 3) [.env 0],
qi 0] [(1,1),(2,0)]
(.seq (sr [qfe 1 1,
qd 1 0,
qk 160 0,
qun 0,
ql 0,
qg (.X3 1) [.env 1] 0 false,
qgd 1 0 1 false,
qg (.len true) [.loc 0] 2 false,
qg (.bin .gtr) [.loc 0,qki 62] 3 false,
qpt 4 0,
ql 0,
qg (.X3 2) [.env 1] 0 false,
qgd 1 0 1 false,
qg (.bin .lss) [.loc 0,qki 0] 2 false,
qpt 3 0,
ql 0,
qg (.X3 2) [.env 1] 0 false,
qgd 1 0 1 false,
qg (.bin .gtr) [.loc 0,qki 62] 2 false,
qpt 3 0] [(5,0)]
(cn 5 (sr [qi 1] [(2,0)]
(.ret)) (.skip)))
(.seq (sr [qfe 0 1,
qd 1 0,
qfe 1 1,
qd 1 0,
qfe 2 1,
qd 1 0,
qo (.call 161) [.loc 4,.loc 2,.loc 0],
ql 0,
qx 0 0,
qx 1 1,
qo (.alloc 176 [.bool false,.str ⟨#[]⟩,.int .i64 0]) [],
qso 3 0 2,
ql 2] [(3,2),(4,0)]
(sr [qe 4,
qo (.bin .neq) [.loc 0,qki 0],
ql 0,
qg (.load 3 true) [.env 3] 0 false,
qg (.load 3 true) [.env 1] 1 false,
qg (.eqs true [2,1,0]) [.loc 1,.loc 0] 2 false,
qpt 3 0] [(6,0)]
(cn 6 (sr [qi 1] [(2,0)]
(.ret)) (.skip))))
(sr [qi 0] [(2,0)]
(.ret)))),
[.tmp 2]⟩
noncomputable def P170:=mkP (Be Tryz.prog (KD [] [3]) [0,1,2,3,6,7,8,9,10,11,19,28,36,40,56] Tryz.f170)
noncomputable def F170:Xi:=P170.1
noncomputable def P171:=mkP (Be Tryz.prog (KD [] [2]) [0,1,2,4,5,6,7,8,9,10,11,15,21,27] Tryz.f171)
noncomputable def F171:Xi:=P171.1
noncomputable def P172:=mkP (Be Tryz.prog (KD [] [3]) [0,1,2,3,6,7,8,9,10,16] Tryz.f172)
noncomputable def F172:Xi:=P172.1
noncomputable def P173:=mkP (Be Tryz.prog (KD [] [3]) [0,1,2,3,6,7,8,9,10,16,27] Tryz.f173)
noncomputable def F173:Xi:=P173.1
noncomputable def P174:=mkP (Be Tryz.prog (KD [] [2,3]) [0,1,2,3,4,5,6,7,16,18,30] Tryz.f174)
noncomputable def F174:Xi:=P174.1
noncomputable def P178:=mkP (Be Tryz.prog (KD [] []) [0,1,2,6,7,12] Tryz.f178)
noncomputable def F178:Xi:=P178.1
noncomputable def P182:=mkP (Be Tryz.prog (KD [] []) [0,1,4,5,9] Tryz.f182)
noncomputable def F182:Xi:=P182.1
noncomputable def P183:=mkP (Be Tryz.prog (KD [] []) [0,1,4] Tryz.f183)
noncomputable def F183:Xi:=P183.1
noncomputable def P184:=mkP (Be Tryz.prog (KD [] []) [0,1,4,5,6,7,12,24] Tryz.f184)
noncomputable def F184:Xi:=P184.1
noncomputable def P196:=mkP (Be Tryz.prog (KD [] []) [0,1,4,5,6,12,21,31] Tryz.f196)
noncomputable def F196:Xi:=P196.1
noncomputable def P219:=mkP (Be Tryz.prog (KD [] []) [0,2,3,4,5,6,7,18,28,36,41,54,56] Tryz.f219)
noncomputable def F219:Xi:=P219.1
noncomputable def P222:=mkP (Be Tryz.prog (KD [] [1]) [0,1,2,3,4,5,6,11,20] Tryz.f222)
noncomputable def F222:Xi:=P222.1
noncomputable def P223:=mkP (Be Tryz.prog (KD [] [1]) [0,1,2,3,4,5,7,8,9,14,23,31,32,33,34,56] Tryz.f223)
noncomputable def F223:Xi:=P223.1
noncomputable def P224:=mkP (Be Tryz.prog (KD [] []) [0,1,2,6,7,23] Tryz.f224)
noncomputable def F224:Xi:=P224.1
noncomputable def P225:=mkP (Be Tryz.prog (KD [] [2]) [0,1,2,4,5,9] Tryz.f225)
noncomputable def F225:Xi:=P225.1
noncomputable def P226:=mkP (Be Tryz.prog (KD [] [2,3]) [0,1,2,3,4,5,6,7,8,10,16,36] Tryz.f226)
noncomputable def F226:Xi:=P226.1
noncomputable def P227:=mkP (Be Tryz.prog (KD [] [3]) [0,1,2,3,6,7,8,9,10,19,23] Tryz.f227)
noncomputable def F227:Xi:=P227.1
noncomputable def P230:=mkP (Be Tryz.prog (KD [] []) [0,1,4,5,9] Tryz.f230)
noncomputable def F230:Xi:=P230.1
noncomputable def P231:=mkP (Be Tryz.prog (KD [] []) [0,1,4,7] Tryz.f231)
noncomputable def F231:Xi:=P231.1
noncomputable def P232:=mkP (Be Tryz.prog (KD [] []) [0,1,4,5,6,7,12] Tryz.f232)
noncomputable def F232:Xi:=P232.1
noncomputable def P233:=mkP (Be Tryz.prog (KD [] []) [0,1,4] Tryz.f233)
noncomputable def F233:Xi:=P233.1
noncomputable def P234:=mkP (Be Tryz.prog (KD [] []) [0,1,4] Tryz.f234)
noncomputable def F234:Xi:=P234.1
noncomputable def P237:=mkP (Be Tryz.prog (KD [] [3]) [0,1,2,3,6,25] Tryz.f237)
noncomputable def F237:Xi:=P237.1
noncomputable def P238:=mkP (Be Tryz.prog (KD [] [4,5]) [0,1,2,3,4,5,8,9,13,14,16,18,20,22,24,27] Tryz.f238)
noncomputable def F238:Xi:=P238.1
noncomputable def P240:=mkP (Be Tryz.prog (KD [] [3]) [0,1,2,3,6,7,9,11,12,21,29] Tryz.f240)
noncomputable def F240:Xi:=P240.1
noncomputable def P245:=mkP (Be Tryz.prog (KD [] []) [0,1,2,6] Tryz.f245)
noncomputable def F245:Xi:=P245.1
noncomputable def P266:=mkP (Be Tryz.prog (KD [] []) [0,1,4,5,6,7,8,9,10,11,12,13,16,24,31,36,59,64,73,93,107,114,132,139] Tryz.f266)
noncomputable def F266:Xi:=P266.1
noncomputable def P269:=mkP (Be Tryz.prog (KD [] []) [0,1,4] Tryz.f269)
noncomputable def F269:Xi:=P269.1
def F270:Xi:=⟨[0,2,3,4,5,30,116],1,
sr [qno,
qi 0] [(1,1),(2,0)]
(sr [qno] [(3,0)]
(.block 0 (.loop (.block 1 (.seq (.block 2 (.seq (.drawn [qe 0,
qwk 0 1 1,
qwf 1 0 3 2,
qwd 1 0 7 3,
qwe 0 0 4,
qwk 0 16 5,
qwf 0 0 48 6,
qwd 1 0 112 7,
qw (.len false) [.loc 0] 240 8,
qw (.bin .geq) [.loc 5,.loc 0] 511 9,
qwl 0 1023 10,
qh .mv [.env 0] 0 false 2047 11,
qh .nilck [.loc 0] 1 false 4095 12,
qh (.X3 0) [.loc 0] 2 false 8191 13,
qh (.load 1 false) [.loc 0] 3 false 16383 14,
qh .mv [.env 0] 4 false 2047 15,
qh .nilck [.loc 0] 5 false 34815 16,
qh (.X3 1) [.loc 0] 6 false 100351 17,
qh (.load 1 false) [.loc 0] 7 false 231423 18,
qh (.X0 5) [.loc 4,.loc 0] 8 false 524287 19,
qh (.X3 0) [.loc 0] 9 false 1048575 20,
qh (.load 1 false) [.loc 0] 10 false 2097151 21,
qh (.bin .neq) [.loc 0,qkb 1] 11 false 4194303 22,
qw .pick [.loc 12,.const (.bool true),.loc 0] 8388607 23,
qwl 0 16777215 24] [(4,0)] [])
(cn 4 (sr [qno,
qi 4] [(1,1),(2,0)]
(.ret)) (.seq (.drawn [qe 0,
qwk 0 1 1,
qwf 0 0 3 2,
qwd 1 0 7 3,
qwe 0 0 4,
qwk 0 16 5,
qwf 1 0 48 6,
qwd 1 0 112 7,
qw (.X0 5) [.loc 4,.loc 0] 255 8,
qwf 1 0 511 9,
qwd 1 0 1023 10,
qw (.call 181) [.loc 0] 2047 11,
qw (.bin .neq) [.loc 0,qkb 0] 4095 12,
qwl 0 8191 13] [(5,0)] [])
(cn 5 (sr [qno,
qi 11] [(1,1),(2,0)]
(.ret)) (.skip))))))
(.seq (.drawn [qe 3,
qwe 0 0 1,
qwk 0 2 2,
qwf 0 0 6 3,
qwd 1 0 14 4,
qwe 0 0 5,
qwk 0 32 6,
qwf 1 0 96 7,
qwd 1 0 224 8,
qw (.X0 5) [.loc 4,.loc 0] 510 9,
qwf 1 0 1022 10,
qwd 1 0 2046 11,
qw (.Xz 9 1 1 [.str ⟨#[]⟩] [0] 1) [.loc 0] 4094 12,
qw (.append 9 1 16 1) [.loc 12,.loc 0] 8191 13,
qwl 0 16383 14] [(3,0)] [])
(sr [qe 0,
qnl 0,
qfl 1 0,
qd 1 0,
qad 0 1,
qnl 4,
qfl 1 0,
qso 1 0 2] []
(.seq (.seq (.drawn [qe 0,
qwk 0 1 1,
qwf 1 0 3 2,
qwd 1 0 7 3,
qwe 0 0 4,
qwk 0 16 5,
qwf 0 0 48 6,
qwd 1 0 112 7,
qw (.len false) [.loc 0] 240 8,
qw (.bin .geq) [.loc 5,.loc 0] 511 9,
qwl 0 1023 10,
qh .mv [.env 0] 0 false 2047 11,
qh .nilck [.loc 0] 1 false 4095 12,
qh (.X3 0) [.loc 0] 2 false 8191 13,
qh (.load 1 false) [.loc 0] 3 false 16383 14,
qh .mv [.env 0] 4 false 2047 15,
qh .nilck [.loc 0] 5 false 34815 16,
qh (.X3 1) [.loc 0] 6 false 100351 17,
qh (.load 1 false) [.loc 0] 7 false 231423 18,
qh (.X0 5) [.loc 4,.loc 0] 8 false 524287 19,
qh (.X3 0) [.loc 0] 9 false 1048575 20,
qh (.load 1 false) [.loc 0] 10 false 2097151 21,
qh (.bin .neq) [.loc 0,qkb 1] 11 false 4194303 22,
qw .pick [.loc 12,.const (.bool true),.loc 0] 8388607 23,
qwl 0 16777215 24,
qh .mv [.env 0] 0 false 33554431 25,
qh .nilck [.loc 0] 1 false 67108863 26,
qh (.X3 0) [.loc 0] 2 false 134217727 27,
qh (.load 1 false) [.loc 0] 3 false 268435455 28,
qh .mv [.env 0] 4 false 33554431 29,
qh .nilck [.loc 0] 5 false 570425343 30,
qh (.X3 1) [.loc 0] 6 false 1644167167 31,
qh (.load 1 false) [.loc 0] 7 false 3791650815 32,
qh (.X0 5) [.loc 4,.loc 0] 8 false 8589934591 33,
qh (.X3 1) [.loc 0] 9 false 17179869183 34,
qh (.load 1 false) [.loc 0] 10 false 34359738367 35,
qh (.bin .neq) [.loc 0,.const (.str ⟨#[79,70]⟩)] 11 false 68719476735 36,
qh .mv [.loc 0] 12 false 137438953471 37,
qh .mv [.env 0] 0 true 274877906943 38,
qh .nilck [.loc 0] 1 true 549755813887 39,
qh (.X3 0) [.loc 0] 2 true 1099511627775 40,
qh (.load 1 false) [.loc 0] 3 true 2199023255551 41,
qh .mv [.env 0] 4 true 274877906943 42,
qh .nilck [.loc 0] 5 true 4672924418047 43,
qh (.X3 1) [.loc 0] 6 true 13469017440255 44,
qh (.load 1 false) [.loc 0] 7 true 31061203484671 45,
qh (.X0 5) [.loc 4,.loc 0] 8 true 70368744177663 46,
qh (.X3 1) [.loc 0] 9 true 140737488355327 47,
qh (.load 1 false) [.loc 0] 10 true 281474976710655 48,
qh (.bin .neq) [.loc 0,.const (.str ⟨#[73,78]⟩)] 11 true 562949953421311 49,
qh .pick [.loc 12,.loc 0,.const (.bool false)] 25 false 1125899906842623 50,
qw .pick [.loc 26,.const (.bool true),.loc 0] 2251799813685247 51] [(6,0)] [])
(cn 6 (sr [qe 3,
qk 32 0,
ql 0,
qi 0] [(1,1),(2,0)]
(.ret)) (.skip)))
(rg [qe 0,
qnl 0,
qfl 1 0,
qd 1 0,
qad 0 1,
qnl 4,
qfl 1 0,
qso 1 0 2] []))))))))),
[.tmp 1,.tmp 2]⟩
noncomputable def P277:=mkP (Be Tryz.prog (KD [] [1]) [0,1,2,3,4,5,12,17,32] Tryz.f277)
noncomputable def F277:Xi:=P277.1
noncomputable def P278:=mkP (Be Tryz.prog (KD [] [2,51]) [0,1,2,4,5,6,7,8,9,10,13,14,15,22,29,34,42] Tryz.f278)
noncomputable def F278:Xi:=P278.1
noncomputable def P280:=mkP (Be Tryz.prog (KD [] []) [0,1,4] Tryz.f280)
noncomputable def F280:Xi:=P280.1
noncomputable def P283:=mkP (Be Tryz.prog (KD [5] []) [0,2,3,4,5,14,15,16,38,48,54,76,105] Tryz.f283)
noncomputable def F283:Xi:=P283.1
noncomputable def P285:=mkP (Be Tryz.prog (KD [] []) [0,1,4] Tryz.f285)
noncomputable def F285:Xi:=P285.1
noncomputable def P288:=mkP (Be Tryz.prog (KD [] [2]) [0,1,2,4,5,6,15,24,28] Tryz.f288)
noncomputable def F288:Xi:=P288.1
noncomputable def P296:=mkP (Be Tryz.prog (KD [] []) [0,1,4] Tryz.f296)
noncomputable def F296:Xi:=P296.1
end Go.Proofs.YtlhdliikahebhaaGreatDoor
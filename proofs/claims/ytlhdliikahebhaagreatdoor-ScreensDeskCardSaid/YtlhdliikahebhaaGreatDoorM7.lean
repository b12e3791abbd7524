/- Proved here: parts of the proof, joined (Low3): an abstract machine, its soundness, what functions of the program compute in it; no condition. -/
import Derived.Test.YtlhdliikahebhaaGreatDoorM4
namespace Go.Proofs.YtlhdliikahebhaaGreatDoor
set_option maxRecDepth 100000
set_option maxHeartbeats 4000000
set_option linter.unusedVariables false
set_option maxRecDepth 100000
set_option maxHeartbeats 0
noncomputable def P303:=mkP (Be Tryz.prog (KD [] []) [0,1,4] Tryz.f303)
noncomputable def F303:Xi:=P303.1
noncomputable def P321:=mkP (Be Tryz.prog (KD [] []) [0,1,4,13,30,55] Tryz.f321)
noncomputable def F321:Xi:=P321.1
noncomputable def P322:=mkP (Be Tryz.prog (KD [] [23]) [0,1,2,6] Tryz.f322)
noncomputable def F322:Xi:=P322.1
noncomputable def P328:=mkP (Be Tryz.prog (KD [] [2]) [0,1,2,4,5,6,7,8,9,10,11,18,31] Tryz.f328)
noncomputable def F328:Xi:=P328.1
noncomputable def P329:=mkP (Be Tryz.prog (KD [5] [2,3]) [0,1,2,3,4,5,6,7,14,16] Tryz.f329)
noncomputable def F329:Xi:=P329.1
noncomputable def P336:=mkP (Be Tryz.prog (KD [] []) [0,1,4,5,7,8,9,16] Tryz.f336)
noncomputable def F336:Xi:=P336.1
noncomputable def P352:=mkP (Be Tryz.prog (KD [] []) [0,2,8] Tryz.f352)
noncomputable def F352:Xi:=P352.1
def FD52:Xi:=⟨[0,1,2,3,4,7,14],2,
sr [qo .mv [.const (.nili)]] [(2,0)]
(sr [qe 2,
qo (.eqnil true 4) [.loc 0,.const (.nili)]] [(5,0)]
(cn 5 (sr [qe 2,
qo (.tass 40 (.agg [.int .i64 0,.int .i64 0,.int .i64 0]) true) [.loc 0],
ql 0,
qx 0 0,
qx 1 1,
qo (.alloc 40 [.int .i64 0,.int .i64 0,.int .i64 0]) [],
qso 3 0 2,
ql 2] [(3,2),(4,0)]
(.seq (sr [qe 4,
qun 0] [(6,0)]
(cn 6 (rg [qe 2,
qo .fail []] []) (.skip)))
(.drawn [qde 3 3,
qw (.store 1) [.env 0,.const (.X4)] 0 1,
qw (.store 3) [.env 1,.loc 1] 3 2] [] []))) (.skip))),
[]⟩
theorem FD52_low:lowFnD Tryz.prog (KD [] []) [0,1,2,3,4,7,14] Tryz.f52=some FD52:=by as_aux_lemma=>kernel_rfl
end Go.Proofs.YtlhdliikahebhaaGreatDoor
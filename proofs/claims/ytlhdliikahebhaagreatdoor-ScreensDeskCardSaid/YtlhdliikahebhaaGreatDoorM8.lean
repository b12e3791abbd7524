/- Proved here: what functions of the program compute in an abstract machine; no condition. -/
import Derived.Test.YtlhdliikahebhaaGreatDoorM5
import Derived.Test.YtlhdliikahebhaaGreatDoorM6
import Derived.Test.YtlhdliikahebhaaGreatDoorM7
namespace Go.Proofs.YtlhdliikahebhaaGreatDoor
set_option maxRecDepth 100000
set_option maxHeartbeats 4000000
set_option linter.unusedVariables false
noncomputable def cO (f:FuncId) (m b s:List Nat):Option Xi:=match Tryz.prog.funcs[f]? with
  | some fn => match Be Tryz.prog (KD m b) s fn with
    | some F=>if Ee F.body then some F else none
    | none=>none
  | none=>none
noncomputable abbrev Gf6:=cO 6 [3] [] [0,2,3,4,6,7,10,32,33,34,35,41]
noncomputable abbrev Gf10:=cO 10 [5] [] [0,1,2,4,6,7,8,9,14,20]
noncomputable abbrev Gf12:=cO 12 [] [1] [0,1,2]
noncomputable abbrev Gf15:=cO 15 [] [10] [0,1,4]
noncomputable abbrev Gf17:=cO 17 [5] [] [0,1,3,4,5,6,11]
noncomputable abbrev Gf29:=cO 29 [] [] [0,2]
noncomputable abbrev Gf31:=cO 31 [5] [] [0,1,2,3,4,5,6,7,8,9,10,13,18,19,20,21,30,44,45,46,47,60,67]
noncomputable abbrev Gf34:=cO 34 [5] [] [0,1,3,4,5,14]
noncomputable abbrev Gf35:=cO 35 [] [1] [0,1,2]
noncomputable abbrev Gf36:=cO 36 [] [1] [0,1,2]
noncomputable abbrev Gf38:=cO 38 [] [1] [0,1,2]
noncomputable abbrev Gf39:=cO 39 [] [] [0,1,2,4,5,7,9,10,11,12,18]
noncomputable abbrev Gf43:=cO 43 [] [] [0,2]
noncomputable abbrev Gf50:=cO 50 [] [] [0,2]
noncomputable abbrev Gf52:=cO 52 [] [] [0,1,2,3,4,7,14]
noncomputable abbrev Gf58:=cO 58 [] [] [0,2]
noncomputable abbrev Gf63:=cO 63 [] [] [0,2]
noncomputable abbrev Gf64:=cO 64 [] [] [0,2,4]
noncomputable abbrev Gf68:=cO 68 [] [] [0,2,3,4,5,7,8,9,16,19,20,21,22,31,37]
noncomputable abbrev Gf69:=cO 69 [] [1] [0,1,2,3,4,13,27,33,44]
noncomputable abbrev Gf71:=cO 71 [3] [] [0,1,2,3,6,11,17]
noncomputable abbrev Gf82:=cO 82 [3] [] [0,1,2,4,5]
noncomputable abbrev Gf86:=cO 86 [3] [] [0,1,2,3,6,7,8,9,12,15,16,17,29,31,35]
noncomputable abbrev Gf88:=cO 88 [5] [] [0,1,2,3,4,5,6,7,8,16,18,19,20,21,32,35,42,50,93]
noncomputable abbrev Gf89:=cO 89 [4,5] [] [0,1,2,3,4,5,12,13,14,35]
noncomputable abbrev Gf90:=cO 90 [5] [] [0,1,2,4,11,13,23]
noncomputable abbrev Gf91:=cO 91 [5] [] [0,1,2,3,5,9,12,13,14,15]
noncomputable abbrev Gf92:=cO 92 [5] [] [0,1,2,3,7]
noncomputable abbrev Gf100:=cO 100 [] [1] [0,1,2,3,4,5,6,7,14,18,23,46,50,56,83,119]
noncomputable abbrev Gf105:=cO 105 [] [] [0,2]
noncomputable abbrev Gf106:=cO 106 [] [] [0,1,4,5,6,7,8,9]
noncomputable abbrev Gf108:=cO 108 [] [] [0,1,4,5,7,8,9,16]
noncomputable abbrev Gf109:=cO 109 [] [] [0,2]
noncomputable abbrev Gf114:=cO 114 [] [1] [0,1,2,4]
noncomputable abbrev Gf127:=cO 127 [] [] [0,2,3,4,5,6,7,8,9,10,14,34,39,50,53]
noncomputable abbrev Gf128:=cO 128 [] [] [0,2,3,4,10,18,23,31]
noncomputable abbrev Gf129:=cO 129 [] [] [0,2,3,4,5,6,7,8,9,10,11,12,13,38,48,63]
noncomputable abbrev Gf130:=cO 130 [] [] [0,2,3,4,5,7,8,9,10,11,12,13,24,25,26,27,36,52,85]
noncomputable abbrev Gf131:=cO 131 [] [] [0,1,4,5,6,9,15,24]
noncomputable abbrev Gf132:=cO 132 [] [1] [0,1,2,3,11,20,29,33]
noncomputable abbrev Gf133:=cO 133 [3] [] [0,1,2,4,5,18]
noncomputable abbrev Gf134:=cO 134 [3] [] [2]
noncomputable abbrev Gf135:=cO 135 [3] [] [0,1,2,3,6,7,23]
noncomputable abbrev Gf137:=cO 137 [5] [] [0,1,2]
noncomputable abbrev Gf138:=cO 138 [5] [] [0,1,2,4,5,18]
noncomputable abbrev Gf139:=Be Tryz.prog (KD [5] [23,76]) [0,1,2,4,5,6,7,9,10,11,13,14,17,34,35,36,44,51,52,53,54,58,59,60] Tryz.f139
noncomputable abbrev Gf140:=cO 140 [5] [] [0,1,2,3,4,5,6,7,8,16]
noncomputable abbrev Gf142:=cO 142 [] [] [0,2,3,4,5,7,10,13,16,19]
noncomputable abbrev Gf146:=cO 146 [] [] [0,2,4,7]
noncomputable abbrev Gf148:=cO 148 [] [2,3] [0,1,2,3,4,5,24]
noncomputable abbrev Gf149:=cO 149 [5] [] [0,1,2,6,7,8,9,13,21]
noncomputable abbrev Gf153:=cO 153 [] [2,3] [0,1,2,3,4,5,6,7,8,17,26]
noncomputable abbrev Gf164:=cO 164 [] [] [0,2,3,4,5,9,16]
noncomputable abbrev Gf177:=cO 177 [] [] [0,1,4,5,6,7,8,9,10,11,12,13]
noncomputable abbrev Gf179:=cO 179 [] [] [0,2]
noncomputable abbrev Gf180:=cO 180 [] [] [0,2,3,4,5,12]
noncomputable abbrev Gf181:=cO 181 [] [] [0,2]
noncomputable abbrev Gf189:=cO 189 [] [] [0,2,3,4,5,8,31]
noncomputable abbrev Gf190:=cO 190 [] [1] [0,1,2]
noncomputable abbrev Gf191:=cO 191 [] [] [0,1,4,5]
noncomputable abbrev Gf192:=cO 192 [] [] [0,2]
noncomputable abbrev Gf193:=cO 193 [] [] [0,1,2,6,7,22]
noncomputable abbrev Gf194:=cO 194 [] [] [0,1,4]
noncomputable abbrev Gf195:=cO 195 [] [] [0,2]
noncomputable abbrev Gf199:=cO 199 [] [] [0,1,4,5]
noncomputable abbrev Gf200:=cO 200 [] [] [0,1,4,5,6,7,8,9,11,12,14,15,16,28,30,44,56,65,68,69,70,76,78]
noncomputable abbrev Gf201:=cO 201 [] [] [0,2,4]
noncomputable abbrev Gf202:=cO 202 [] [] [0,1,4]
noncomputable abbrev Gf203:=cO 203 [] [] [0,1,4,6,8,9,10,11,24]
noncomputable abbrev Gf204:=cO 204 [] [] [0,2,3,4,5,6,8,9,10,11,15,24,30,31,32,53,70]
noncomputable abbrev Gf205:=cO 205 [] [] [0,1,2,6,7,8,42,62,68,74]
noncomputable abbrev Gf208:=cO 208 [] [] [0,1,4]
noncomputable abbrev Gf210:=cO 210 [] [1] [0,1,2]
noncomputable abbrev Gf212:=cO 212 [5] [] [0,1,2,3,4,5,6,7,12,20,31,50,75]
noncomputable abbrev Gf213:=cO 213 [5] [22] [0,1,2,3,4,6,7,8,9,10,14,19,24,28,42]
noncomputable abbrev Gf218:=cO 218 [] [] [0,1,4]
noncomputable abbrev Gf220:=cO 220 [] [] [0,1,2,3,5,6,7,8,9,10,11,12,22,41]
noncomputable abbrev Gf221:=cO 221 [] [] [0,2,3,6]
noncomputable abbrev Gf229:=cO 229 [] [] [0,1,4,6,7,8,9,14]
noncomputable abbrev Gf241:=cO 241 [] [1] [0,1,2,3,7]
noncomputable abbrev Gf242:=cO 242 [] [1] [0,1,2,4]
noncomputable abbrev Gf246:=cO 246 [] [] [0,2]
noncomputable abbrev Gf247:=cO 247 [] [] [0,2,3,4,5,6,8,9,10,30,39,44,47,48,49,50,56,66]
noncomputable abbrev Gf249:=cO 249 [] [] [0,1,2,3,5,7,8,9,10,15,16,17,18]
noncomputable abbrev Gf253:=cO 253 [] [] [0,1,3]
noncomputable abbrev Gf254:=cO 254 [] [] [0,1,4]
noncomputable abbrev Gf255:=cO 255 [] [] [0,6,19]
noncomputable abbrev Gf256:=cO 256 [] [] [0,1,4,5,6,7,8,9,10,12,15,20,26,32,36,42,45,46,47,53]
noncomputable abbrev Gf258:=cO 258 [] [] [0,1,4,5,9]
noncomputable abbrev Gf261:=cO 261 [] [] [0,2]
noncomputable abbrev Gf263:=cO 263 [] [] [0,1,4,5,6,7,8,9,10,11,12,13,14,15,16,26,33,43,51,64,98,108,124,139,143,156,160,171,175,176,177,181,183]
noncomputable abbrev Gf264:=cO 264 [] [] [0,1,3]
noncomputable abbrev Gf265:=cO 265 [] [] [0,1,4,5]
noncomputable abbrev Gf267:=cO 267 [] [] [0,1,3,8,18]
noncomputable abbrev Gf271:=cO 271 [] [] [0,1,4,43]
noncomputable abbrev Gf275:=cO 275 [] [] [0,1,2,3,5,6,7,8,9,10,11,12,21,31,42,59,69]
noncomputable abbrev Gf276:=cO 276 [] [] [0,1,2,4,17]
noncomputable abbrev Gf279:=cO 279 [] [1] [0,1,2,3,5,6,7,9,13,14,15,16,26,33,34,35,36,45]
noncomputable abbrev Gf281:=cO 281 [] [2] [0,1,2,4,5,6,9,10,11,25]
noncomputable abbrev Gf282:=cO 282 [] [] [0,2,3,4,6]
noncomputable abbrev Gf284:=cO 284 [] [] [0,1,4,5,7]
noncomputable abbrev Gf294:=cO 294 [] [] [0]
noncomputable abbrev Gf302:=cO 302 [9] [] [0,2,3,4,5,6,7,8,9,10,11,12,16,37,53,60,66,91,98]
noncomputable abbrev Gf305:=cO 305 [] [] [0,2]
noncomputable abbrev Gf315:=cO 315 [] [] [0,1,2,4,5]
noncomputable abbrev Gf316:=cO 316 [] [34] [0,1,2,3,4,8,9,10,12,13,14,15,16,17,18,30]
noncomputable abbrev Gf317:=cO 317 [] [] [0,1,2,3,4,8,9,10,11,12,16,27,40,52]
noncomputable abbrev Gf319:=cO 319 [] [] [0,1,2,4,5,18]
noncomputable abbrev Gf320:=cO 320 [] [2] [0,1,2,4]
noncomputable abbrev Gf349:=cO 349 [] [] [0,1,2,4,6,8,9,10,11,68]
noncomputable abbrev Gf350:=cO 350 [] [] [0,1,2,3,4,8,9,10,11,12,13,14,15,23,32,33,34,35,47,61]
noncomputable abbrev Gf351:=cO 351 [] [] [0,1,2,3,6,7,8,9,10,11,12,26,34,51,60]
noncomputable abbrev Gf354:=cO 354 [] [1] [0,1,2,4]
noncomputable abbrev Gf360:=cO 360 [] [40] [0,1,2,4,5,6,15,25,28,37]
noncomputable abbrev Gf363:=cO 363 [] [] [0,1,4]
noncomputable abbrev Gf370:=cO 370 [] [] [0,1,2]
noncomputable abbrev Gf371:=cO 371 [3] [] [0,2,3,9]
noncomputable abbrev Gf372:=cO 372 [] [] [0,2]
noncomputable abbrev Gf21:=cO 21 [3] [] [0,1,2]
noncomputable abbrev Gf22:=cO 22 [3] [45] [0,2,4,8,9,10,11]
noncomputable abbrev Gf23:=cO 23 [4,3] [] [0,1,2,3,5,16,17,18,19,29]
noncomputable abbrev Gf24:=cO 24 [3] [] [0,1,2]
noncomputable abbrev Gf25:=cO 25 [3] [] [0,1,2]
noncomputable abbrev Gf26:=cO 26 [3] [] [0,1,2,3,4]
noncomputable abbrev Gf27:=cO 27 [3] [] [0,1,2]
noncomputable abbrev Gf28:=cO 28 [3] [] [0,1,2]
noncomputable abbrev Gf60:=cO 60 [3] [] [0,1,4,5,6,11,12,13,19]
noncomputable abbrev Gf61:=cO 61 [3] [] [0,1,3]
noncomputable abbrev Gf62:=cO 62 [] [1] [0,1,2,3,4,5,6,10,42,46,49,50,52,59,72]
noncomputable abbrev Gf65:=cO 65 [3] [] [0,1,4,5,6,7,18,19,22,48,49,75,86,94,116,123]
noncomputable abbrev Gf66:=cO 66 [3] [] [0,2]
noncomputable abbrev Gf67:=cO 67 [103,3] [] [0,1,2,4,5,6,27,30]
noncomputable abbrev Gf70:=cO 70 [3] [] [0,1,3,4,5,6,35,44,48,74]
noncomputable abbrev Gf75:=cO 75 [103,3] [] [0,2,3,11,40]
noncomputable abbrev Gf76:=cO 76 [103,3] [] [0,1,3,4,5,6,15,20,29,74,103]
noncomputable abbrev Gf79:=cO 79 [3] [] [0,1,4]
noncomputable abbrev Gf80:=cO 80 [3] [] [0,1,2,3,5,6,36,42,78,99,120,139]
noncomputable abbrev Gf81:=cO 81 [103,3] [] [0,1,3,4,5,6,16,34,91]
noncomputable abbrev Gf84:=cO 84 [3] [] [0,1,3,4,5,6,7,8,9,10,11,20,47,59,78,89,135,163]
noncomputable abbrev Gf115:=cO 115 [] [] [0,2]
noncomputable abbrev Gf117:=cO 117 [] [] [0,2]
noncomputable abbrev Gf118:=cO 118 [] [] [0,1,4]
noncomputable abbrev Gf119:=cO 119 [] [1] [0,1,2,3,4,16,18,35,54,63]
noncomputable abbrev Gf121:=cO 121 [] [1] [0,1,2,15,19]
noncomputable abbrev Gf122:=cO 122 [] [1] [0,1,2,3,4,5,6,7,10,37,45,58,85]
noncomputable abbrev Gf185:=cO 185 [] [] [0,2,22]
noncomputable abbrev Gf186:=cO 186 [] [] [0,1,4,5,7,8,9,16]
noncomputable abbrev Gf250:=cO 250 [] [] [0,2]
noncomputable abbrev Gf251:=cO 251 [] [] [0,2]
noncomputable abbrev Gf252:=cO 252 [] [] [0,2]
theorem Bi{f:FuncId}{m b s:List Nat}{fn:Func}{F:Xi}(hf:Tryz.prog.funcs[f]?=some fn)(h:Be Tryz.prog (KD m b) s fn=some F)(hn:Ee F.body=true):cO f m b s=some F:=by
  unfold cO
  rw[hf]
  simp only[h]
  rw[if_pos hn]
theorem eg14:cO 14 [] [] [0,1,2,3,6,8,9,11,12,13,15,45,59,62,78]=some F14:=by kernel_rfl
theorem eg169:cO 169 [] [1] [0,1,2,3,4,24,41]=some F169:=by kernel_rfl
theorem eg270:cO 270 [] [56] [0,2,3,4,5,30,116]=some F270:=by kernel_rfl
noncomputable def P400:=mkP (Be Tryz.prog (KD [] [4,6]) [0,2,8] Tryz.f400)
noncomputable def F400:Xi:=P400.1
noncomputable def fnOf:FuncId→Option Xi
  | 3=>some F3
  | 4=>some F4
  | 5=>some F5
  | 6=>Gf6
  | 7=>some F7
  | 8=>some F8
  | 9=>some F9
  | 10=>Gf10
  | 11=>some F11
  | 12=>Gf12
  | 13=>some F13
  | 14=>some F14
  | 15=>Gf15
  | 16=>some F16
  | 17=>Gf17
  | 18=>some F18
  | 19=>some F19
  | 20=>some F20
  | 21=>Gf21
  | 22=>Gf22
  | 23=>Gf23
  | 24=>Gf24
  | 25=>Gf25
  | 26=>Gf26
  | 27=>Gf27
  | 28=>Gf28
  | 29=>Gf29
  | 30=>some F30
  | 31=>Gf31
  | 32=>some F32
  | 33=>some F33
  | 34=>Gf34
  | 35=>Gf35
  | 36=>Gf36
  | 37=>some F37
  | 38=>Gf38
  | 39=>Gf39
  | 40=>some F40
  | 41=>some F41
  | 42=>some F42
  | 43=>Gf43
  | 44=>some F44
  | 45=>some F45
  | 46=>some F46
  | 47=>some F47
  | 48=>some F48
  | 49=>some F49
  | 50=>Gf50
  | 51=>some F51
  | 52=>Gf52
  | 53=>some F53
  | 54=>some F54
  | 55=>some F55
  | 56=>some F56
  | 57=>some F57
  | 58=>Gf58
  | 59=>some F59
  | 60=>Gf60
  | 61=>Gf61
  | 62=>Gf62
  | 63=>Gf63
  | 64=>Gf64
  | 65=>Gf65
  | 66=>Gf66
  | 67=>Gf67
  | 68=>Gf68
  | 69=>Gf69
  | 70=>Gf70
  | 71=>Gf71
  | 75=>Gf75
  | 76=>Gf76
  | 79=>Gf79
  | 80=>Gf80
  | 81=>Gf81
  | 82=>Gf82
  | 84=>Gf84
  | 86=>Gf86
  | 88=>Gf88
  | 89=>Gf89
  | 90=>Gf90
  | 91=>Gf91
  | 92=>Gf92
  | 94=>some F94
  | 95=>some F95
  | 96=>some F96
  | 97=>some F97
  | 98=>some F98
  | 99=>some F99
  | 100=>Gf100
  | 101=>some F101
  | 102=>some F102
  | 103=>some F103
  | 104=>some F104
  | 105=>Gf105
  | 106=>Gf106
  | 108=>Gf108
  | 109=>Gf109
  | 110=>some F110
  | 111=>some F111
  | 112=>some F112
  | 114=>Gf114
  | 115=>Gf115
  | 117=>Gf117
  | 118=>Gf118
  | 119=>Gf119
  | 121=>Gf121
  | 122=>Gf122
  | 127=>Gf127
  | 128=>Gf128
  | 129=>Gf129
  | 130=>Gf130
  | 131=>Gf131
  | 132=>Gf132
  | 133=>Gf133
  | 134=>Gf134
  | 135=>Gf135
  | 137=>Gf137
  | 138=>Gf138
  | 139=>Gf139
  | 140=>Gf140
  | 142=>Gf142
  | 146=>Gf146
  | 147=>some F147
  | 148=>Gf148
  | 149=>Gf149
  | 150=>some F150
  | 151=>some F151
  | 152=>some F152
  | 153=>Gf153
  | 155=>some F155
  | 156=>some F156
  | 157=>some F157
  | 158=>some F158
  | 159=>some F159
  | 160=>some F160
  | 161=>some F161
  | 162=>some F162
  | 163=>some F163
  | 164=>Gf164
  | 165=>some F165
  | 166=>some F166
  | 169=>some F169
  | 170=>some F170
  | 171=>some F171
  | 172=>some F172
  | 173=>some F173
  | 174=>some F174
  | 177=>Gf177
  | 178=>some F178
  | 179=>Gf179
  | 180=>Gf180
  | 181=>Gf181
  | 182=>some F182
  | 183=>some F183
  | 184=>some F184
  | 185=>Gf185
  | 186=>Gf186
  | 189=>Gf189
  | 190=>Gf190
  | 191=>Gf191
  | 192=>Gf192
  | 193=>Gf193
  | 194=>Gf194
  | 195=>Gf195
  | 196=>some F196
  | 199=>Gf199
  | 200=>Gf200
  | 201=>Gf201
  | 202=>Gf202
  | 203=>Gf203
  | 204=>Gf204
  | 205=>Gf205
  | 208=>Gf208
  | 210=>Gf210
  | 212=>Gf212
  | 213=>Gf213
  | 218=>Gf218
  | 219=>some F219
  | 220=>Gf220
  | 221=>Gf221
  | 222=>some F222
  | 223=>some F223
  | 224=>some F224
  | 225=>some F225
  | 226=>some F226
  | 227=>some F227
  | 229=>Gf229
  | 230=>some F230
  | 231=>some F231
  | 232=>some F232
  | 233=>some F233
  | 234=>some F234
  | 237=>some F237
  | 238=>some F238
  | 240=>some F240
  | 241=>Gf241
  | 242=>Gf242
  | 245=>some F245
  | 246=>Gf246
  | 247=>Gf247
  | 249=>Gf249
  | 250=>Gf250
  | 251=>Gf251
  | 252=>Gf252
  | 253=>Gf253
  | 254=>Gf254
  | 255=>Gf255
  | 256=>Gf256
  | 258=>Gf258
  | 261=>Gf261
  | 263=>Gf263
  | 264=>Gf264
  | 265=>Gf265
  | 266=>some F266
  | 267=>Gf267
  | 269=>some F269
  | 270=>some F270
  | 271=>Gf271
  | 275=>Gf275
  | 276=>Gf276
  | 277=>some F277
  | 278=>some F278
  | 279=>Gf279
  | 280=>some F280
  | 281=>Gf281
  | 282=>Gf282
  | 283=>some F283
  | 284=>Gf284
  | 285=>some F285
  | 288=>some F288
  | 294=>Gf294
  | 296=>some F296
  | 302=>Gf302
  | 303=>some F303
  | 305=>Gf305
  | 315=>Gf315
  | 316=>Gf316
  | 317=>Gf317
  | 319=>Gf319
  | 320=>Gf320
  | 321=>some F321
  | 322=>some F322
  | 328=>some F328
  | 329=>some F329
  | 336=>some F336
  | 349=>Gf349
  | 350=>Gf350
  | 351=>Gf351
  | 352=>some F352
  | 354=>Gf354
  | 360=>Gf360
  | 363=>Gf363
  | 370=>Gf370
  | 371=>Gf371
  | 372=>Gf372
  | 400=>some F400
  | _=>none
theorem F19_low:Be Tryz.prog (KD [32] []) [0,2,3,4,5,6,7,12,16,42,43,44] Tryz.f19=some F19:=P19.2
def dfnOf:FuncId→Option Xi
  | 52=>some FD52
  | _=>none
noncomputable def LP:Prg:={ fns:=fnOf,raw:=fun f=>f==49||f==155,pure:=fun f=>!(f==5||f==7||f==8||f==16||f==18||f==19||f==29||f==30||f==44||f==46||f==56||f==57||f==139||f==155||f==190||f==191||f==210),deep:=fun f=>f==6||f==15||f==219,ext:=LE,dfs:=fun f=>f==19||f==139,dfn:=dfnOf }
theorem Bg {f : FuncId} {m b s : List Nat} {F : Xi} (h : cO f m b s = some F) : ∃ fn kd slots, Tryz.prog.funcs[f]? = some fn ∧ Be Tryz.prog kd slots fn = some F ∧ (∀ g row, kd.glob g = some row → GT g = some row) ∧ (LP.dfs f = true ∨ Ee F.body = true) := by
  unfold cO at h
  split at h
  · rename_i fn hf
    split at h
    · rename_i F' hF
      split at h
      · rename_i hn
        cases h
        exact⟨fn,_,s,hf,hF,fun _ _ h=>h,.inr hn⟩
      cases h
    cases h
  cases h
theorem fk{f:FuncId}{F G:Xi}{fn:Func}{sl:List Nat}(h:some G=some F)(hf:Tryz.prog.funcs[f]?=some fn)(hl:LK sl fn=some G)(hn:Ee G.body=true):∃fn kd slots,Tryz.prog.funcs[f]?=some fn∧Be Tryz.prog kd slots fn=some F∧(∀g row,kd.glob g=some row→GT g=some row)∧(LP.dfs f=true∨Ee F.body=true):=by
  injection h with h;subst h;exact⟨fn,_,_,hf,hl,fun _ _ h=>h,.inr hn⟩
theorem fk1{f:FuncId}{F G:Xi}{fn:Func}{sl:List Nat}{a b:List Nat}(h:some G=some F)(hf:Tryz.prog.funcs[f]?=some fn)(hl:Be Tryz.prog (KD a b) sl fn=some G)(hn:Ee G.body=true):∃fn kd slots,Tryz.prog.funcs[f]?=some fn∧Be Tryz.prog kd slots fn=some F∧(∀g row,kd.glob g=some row→GT g=some row)∧(LP.dfs f=true∨Ee F.body=true):=by
  injection h with h;subst h;exact⟨fn,_,_,hf,hl,fun _ _ h=>h,.inr hn⟩
theorem LP_fns:FnsOK Tryz.prog GT LP:=by
  intro f F h
  have h':fnOf f=some F:=h
  unfold fnOf at h'
  split at h'
  rotate_right
  · cases h'
  all_goals first | exact Bg h' | skip
  exact fk1 h' Tryz.func3 P3.2 rfl
  exact fk1 h' Tryz.func4 P4.2 rfl
  exact fk1 h' Tryz.func5 P5.2 rfl
  exact fk1 h' Tryz.func7 P7.2 rfl
  exact fk1 h' Tryz.func8 P8.2 rfl
  exact fk1 h' Tryz.func9 P9.2 rfl
  exact fk1 h' Tryz.func11 P11.2 rfl
  exact fk1 h' Tryz.func13 P13.2 rfl
  exact Bg (eg14.trans h')
  exact fk1 h' Tryz.func16 P16.2 rfl
  exact fk1 h' Tryz.func18 P18.2 rfl
  injection h' with h';subst h';exact⟨Tryz.f19,_,_,Tryz.func19,F19_low,fun _ _ h=>h,.inl rfl⟩
  exact fk1 h' Tryz.func20 P20.2 rfl
  exact fk1 h' Tryz.func30 P30.2 rfl
  exact fk1 h' Tryz.func32 P32.2 rfl
  exact fk1 h' Tryz.func33 P33.2 rfl
  exact fk1 h' Tryz.func37 P37.2 rfl
  exact fk1 h' Tryz.func40 P40.2 rfl
  exact fk1 h' Tryz.func41 P41.2 rfl
  exact fk1 h' Tryz.func42 P42.2 rfl
  exact fk1 h' Tryz.func44 P44.2 rfl
  exact fk1 h' Tryz.func45 P45.2 rfl
  exact fk1 h' Tryz.func46 P46.2 rfl
  exact fk1 h' Tryz.func47 P47.2 rfl
  exact fk1 h' Tryz.func48 P48.2 rfl
  exact fk1 h' Tryz.func49 P49.2 rfl
  exact fk1 h' Tryz.func51 P51.2 rfl
  exact fk1 h' Tryz.func53 P53.2 rfl
  exact fk1 h' Tryz.func54 P54.2 rfl
  exact fk1 h' Tryz.func55 P55.2 rfl
  exact fk1 h' Tryz.func56 P56.2 rfl
  exact fk1 h' Tryz.func57 P57.2 rfl
  exact fk1 h' Tryz.func59 P59.2 rfl
  exact fk1 h' Tryz.func94 P94.2 rfl
  exact fk1 h' Tryz.func95 P95.2 rfl
  exact fk1 h' Tryz.func96 P96.2 rfl
  exact fk1 h' Tryz.func97 P97.2 rfl
  exact fk1 h' Tryz.func98 P98.2 rfl
  exact fk1 h' Tryz.func99 P99.2 rfl
  exact fk1 h' Tryz.func101 P101.2 rfl
  exact fk1 h' Tryz.func102 P102.2 rfl
  exact fk1 h' Tryz.func103 P103.2 rfl
  exact fk1 h' Tryz.func104 P104.2 rfl
  exact fk1 h' Tryz.func110 P110.2 rfl
  exact fk1 h' Tryz.func111 P111.2 rfl
  exact fk1 h' Tryz.func112 P112.2 rfl
  exact⟨_,_,_,Tryz.func139,h',fun _ _ h=>h,.inl rfl⟩
  exact fk1 h' Tryz.func147 P147.2 rfl
  exact fk1 h' Tryz.func150 P150.2 rfl
  exact fk1 h' Tryz.func151 P151.2 rfl
  exact fk1 h' Tryz.func152 P152.2 rfl
  exact fk1 h' Tryz.func155 P155.2 rfl
  exact fk1 h' Tryz.func156 P156.2 rfl
  exact fk1 h' Tryz.func157 P157.2 rfl
  exact fk1 h' Tryz.func158 P158.2 rfl
  exact fk1 h' Tryz.func159 P159.2 rfl
  exact fk1 h' Tryz.func160 P160.2 rfl
  exact fk1 h' Tryz.func161 P161.2 rfl
  exact fk1 h' Tryz.func162 P162.2 rfl
  exact fk1 h' Tryz.func163 P163.2 rfl
  exact fk1 h' Tryz.func165 P165.2 rfl
  exact fk1 h' Tryz.func166 P166.2 rfl
  exact Bg (eg169.trans h')
  exact fk1 h' Tryz.func170 P170.2 rfl
  exact fk1 h' Tryz.func171 P171.2 rfl
  exact fk1 h' Tryz.func172 P172.2 rfl
  exact fk1 h' Tryz.func173 P173.2 rfl
  exact fk1 h' Tryz.func174 P174.2 rfl
  exact fk1 h' Tryz.func178 P178.2 rfl
  exact fk1 h' Tryz.func182 P182.2 rfl
  exact fk1 h' Tryz.func183 P183.2 rfl
  exact fk1 h' Tryz.func184 P184.2 rfl
  exact fk1 h' Tryz.func196 P196.2 rfl
  exact fk1 h' Tryz.func219 P219.2 rfl
  exact fk1 h' Tryz.func222 P222.2 rfl
  exact fk1 h' Tryz.func223 P223.2 rfl
  exact fk1 h' Tryz.func224 P224.2 rfl
  exact fk1 h' Tryz.func225 P225.2 rfl
  exact fk1 h' Tryz.func226 P226.2 rfl
  exact fk1 h' Tryz.func227 P227.2 rfl
  exact fk1 h' Tryz.func230 P230.2 rfl
  exact fk1 h' Tryz.func231 P231.2 rfl
  exact fk1 h' Tryz.func232 P232.2 rfl
  exact fk1 h' Tryz.func233 P233.2 rfl
  exact fk1 h' Tryz.func234 P234.2 rfl
  exact fk1 h' Tryz.func237 P237.2 rfl
  exact fk1 h' Tryz.func238 P238.2 rfl
  exact fk1 h' Tryz.func240 P240.2 rfl
  exact fk1 h' Tryz.func245 P245.2 rfl
  exact fk1 h' Tryz.func266 P266.2 rfl
  exact fk1 h' Tryz.func269 P269.2 rfl
  exact Bg (eg270.trans h')
  exact fk1 h' Tryz.func277 P277.2 rfl
  exact fk1 h' Tryz.func278 P278.2 rfl
  exact fk1 h' Tryz.func280 P280.2 rfl
  exact fk1 h' Tryz.func283 P283.2 rfl
  exact fk1 h' Tryz.func285 P285.2 rfl
  exact fk1 h' Tryz.func288 P288.2 rfl
  exact fk1 h' Tryz.func296 P296.2 rfl
  exact fk1 h' Tryz.func303 P303.2 rfl
  exact fk1 h' Tryz.func321 P321.2 rfl
  exact fk1 h' Tryz.func322 P322.2 rfl
  exact fk1 h' Tryz.func328 P328.2 rfl
  exact fk1 h' Tryz.func329 P329.2 rfl
  exact fk1 h' Tryz.func336 P336.2 rfl
  exact fk1 h' Tryz.func352 P352.2 rfl
  exact fk1 h' Tryz.func400 P400.2 rfl
theorem LP_dfn:DfnOK Tryz.prog GT LP:=by
  intro f F h
  have h':dfnOf f=some F:=h
  unfold dfnOf at h'
  split at h'
  · injection h' with h';subst h';exact⟨Tryz.f52,_,_,Tryz.func52,FD52_low,fun _ _ h=>h⟩
  simp at h'
theorem mixed:Tryz.prog.follows .mixedOrders=true:=by kernel_rfl
theorem rpz{d:Nat}{f:FuncId}{F:Xi}{args args' env0:List D}{S:St}{r:D}{sl:List Nat}(hF:LP.fns f=some F:=by exact rfl)(ha:(if LP.raw f then some args else Ah S.heap.length S.heap args)=some args':=by simp only[LP,Ah,Bl,zs,zm,zv,if_false,Bool.and_false,zz]<;>exact rfl)(hl:args'.length=F.nargs:=by exact rfl)(hp:(LP.pure f&&args'.all D.Xq)=true:=by simp only[LP,zf,zm,if_false,Bool.and_false,zz]<;>exact rfl)(zu:F.slots=sl:=by (conv=>lhs;whnf)<;>exact rfl)(he:(sl.map fun s=>args'.getD s .undef)=env0:=by simp only[zv]<;>exact rfl)(hd:0<d:=by omega)(rO:LP.deep f=false:=by exact rfl)(hE:LP.ext f args=none:=by exact rfl)(zH:LP.dfs f=false:=by exact rfl)(yU:f<YB:=by decide)(hM:LP.mem f args S=none:=by exact rfl)(hb:∀d',d=d'+1→CW (Ae LP NN d') F.body (FinP F r) env0 ⟨[],0⟩):Ae LP NN d f args S=some (r,S,false):=run_pure hF ha hl hp (by rw[zu];exact he) hd hb rO hE zH yU hM
theorem rpq{d:Nat}{f:FuncId}{F:Xi}{args args' env0:List D}{S:St}{r:D}{sl:List Nat}(hF:LP.fns f=some F:=by exact rfl)(ha:(if LP.raw f then some args else Ah S.heap.length S.heap args)=some args':=by simp only[LP,Ah,Bl,zs,zm,zv]<;>exact rfl)(hl:args'.length=F.nargs:=by exact rfl)(hp:(LP.pure f&&args'.all D.Xq)=true:=by simp only[LP,zf,zm]<;>exact rfl)(zu:F.slots=sl:=by (conv=>lhs;whnf)<;>exact rfl)(he:(sl.map fun s=>args'.getD s .undef)=env0:=by simp only[zv]<;>exact rfl)(hd:0<d:=by omega)(rO:LP.deep f=false:=by exact rfl)(hE:LP.ext f args=none:=by exact rfl)(zH:LP.dfs f=false:=by exact rfl)(yU:f<YB:=by decide)(hM:LP.mem f args S=none:=by exact rfl)(hb:∀d',d=d'+1→CW (Ae LP NN d') F.body (FinP F r) env0 ⟨[],0⟩):Ae LP NN d f args S=some (r,S,false):=run_pure hF ha hl hp (by rw[zu];exact he) hd hb rO hE zH yU hM
theorem raz{d:Nat}{f:FuncId}{F:Xi}{args args' env0:List D}{S:St}{x:D × St × Bool}{sl:List Nat}(hF:LP.fns f=some F:=by exact rfl)(ha:(if LP.raw f then some args else Ah S.heap.length S.heap args)=some args':=by simp only[LP,Ah,Bl,zs,zm,zv,if_false,Bool.and_false,zz]<;>exact rfl)(hl:args'.length=F.nargs:=by exact rfl)(hp:(LP.pure f&&args'.all D.Xq)=false:=by simp only[LP,zf,zm,if_false,Bool.and_false,zz]<;>exact rfl)(zu:F.slots=sl:=by (conv=>lhs;whnf)<;>exact rfl)(he:(sl.map fun s=>args'.getD s .undef)=env0:=by simp only[zv]<;>exact rfl)(hd:0<d:=by omega)(rO:LP.deep f=false:=by exact rfl)(hE:LP.ext f args=none:=by exact rfl)(zH:LP.dfs f=false:=by exact rfl)(yU:f<YB:=by decide)(hM:LP.mem f args S=none:=by exact rfl)(hb:∀d',d=d'+1→CW (Ae LP NN d') F.body (FinK LP f F S x) env0 ⟨S.heap,S.heap.length⟩):Ae LP NN d f args S=some x:=Ho hF ha hl hp (by rw[zu];exact he) hd hb rO hE zH yU hM
theorem raq{d:Nat}{f:FuncId}{F:Xi}{args args' env0:List D}{S:St}{x:D × St × Bool}{sl:List Nat}(hF:LP.fns f=some F:=by exact rfl)(ha:(if LP.raw f then some args else Ah S.heap.length S.heap args)=some args':=by simp only[LP,Ah,Bl,zs,zm,zv]<;>exact rfl)(hl:args'.length=F.nargs:=by exact rfl)(hp:(LP.pure f&&args'.all D.Xq)=false:=by simp only[LP,zf,zm]<;>exact rfl)(zu:F.slots=sl:=by (conv=>lhs;whnf)<;>exact rfl)(he:(sl.map fun s=>args'.getD s .undef)=env0:=by simp only[zv]<;>exact rfl)(hd:0<d:=by omega)(rO:LP.deep f=false:=by exact rfl)(hE:LP.ext f args=none:=by exact rfl)(zH:LP.dfs f=false:=by exact rfl)(yU:f<YB:=by decide)(hM:LP.mem f args S=none:=by exact rfl)(hb:∀d',d=d'+1→CW (Ae LP NN d') F.body (FinK LP f F S x) env0 ⟨S.heap,S.heap.length⟩):Ae LP NN d f args S=some x:=Ho hF ha hl hp (by rw[zu];exact he) hd hb rO hE zH yU hM
open Go.Shelf Go.RowKit
theorem repB_eq(s:ByteArray):∀c,Lib.repeatL s.data.toList c=repB s c
 | 0=>rfl
 | c+1=>by rw[Lib.repeatL,repB,repB_eq s c]
theorem extra:Builder.Extra Tryz.prog Tryz.laysRepeat_ren where
 sizeBuilder:=by kernel_rfl
 liesBuilder:=by kernel_rfl
 t5:=Tryz.laysRepeat.t5
 a5:=Tryz.laysRepeat.a5
 z5:=Tryz.laysRepeat.z5
 v5:=Tryz.laysRepeat.v5
 infoByte:=by kernel_rfl
 cellsByte:=by kernel_rfl
 sizeByte:=by kernel_rfl
 neB5:=by decide
theorem fRepeat:Tryz.laysRepeat_ren.f 105=175:=by kernel_rfl
theorem ext_ok:ExtOK Tryz.prog GT LE:=by
 intro f ds r h S w ρ vs hG hr hv;unfold LE at h;split at h
 ·
  rename_i s n;split at h
  ·
   rename_i hc;injection h with h;subst h
   cases hv with
   | cons h1 hv =>
    cases h1
    cases hv with
    | cons h1 hv =>
     cases h1;cases hv;obtain⟨c,rfl⟩:∃c:Nat,n=c:=⟨n.toNat,by omega⟩;simp only[Int.toNat_natCast]at hc ⊢;have y9:=Any.strings_Repeat Tryz.laysRepeat extra s c w (by omega) hc.2.2;rw[fRepeat]at y9;refine⟨enters_of Tryz.func175 (by kernel_rfl) rfl _ w,y9.mono fun e w' ⟨he,hb⟩=>⟨_,he,below_post hr hb fun _ _=>?_⟩⟩;rw[repB_eq];exact .str _
  cases h
 cases h
theorem LP_ok:PrgOK Tryz.prog GT LP:=⟨LP_fns,ext_ok,LP_dfn,fun _ _ _ r S' wr h=>absurd (show (none:Option (D × St × Bool))=some (r,S',wr) from h) (by simp)⟩
end Go.Proofs.YtlhdliikahebhaaGreatDoor
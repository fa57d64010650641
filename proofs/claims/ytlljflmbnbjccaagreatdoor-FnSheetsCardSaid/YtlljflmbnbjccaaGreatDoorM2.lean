/- Texts of this seat, one behind the other: Sh, Enc, Ty2, B1, Bk, EqF, B2, Val, B5, B6, Val2, Bk2, Res, B3, B7, B8, CutB, Sched; no condition. -/
import Derived.Shelf.Bits.Mul64
import Derived.Shelf.Strings.BuilderK
import Derived.Shelf.Strings.OnBuilder
import Derived.Shelf.Strconv.Itoa4
import Derived.Shelf.Strconv.ParseIntPublic10
import Derived.Shelf.Strings.Split
import Derived.Shelf.Strings.Cut
import Derived.Test.YtlljflmbnbjccaaGreatDoorProg
import Derived.Test.YtlljflmbnbjccaaGreatDoorM1
import Derived.Laws.MakeOwn
import Derived.LoopTactic
import Derived.Deep.LoopGhost
import Derived.Deep.QuietTactic
import Derived.BigQuiet
import Derived.Outline
import Derived.Laws.StructEq
import Derived.Lib.SliceRun
/- The library's bodies as they lie in this program, for the shelf's contracts; no condition. -/
namespace Go.Proofs.YtlljflmbnbjccaaGreatDoor
open Go.Shelf
def shR : Go.Shelf.Ren := ⟨fun | 129 => 117 | 138 => 84 | 143 => 85 | 145 => 31 | 146 => 53 | 156 => 35 | 165 => 59 | 166 => 60 | 169 => 61 | 171 => 115 | 173 => 58 | 174 => 55 | 195 => 106 | 197 => 107 | 205 => 114 | 212 => 77 | 217 => 86 | 218 => 108 | 219 => 70 | 220 => 54 | 221 => 69 | 224 => 88 | 225 => 87 | 240 => 75 | 241 => 76 | 243 => 123 | 245 => 72 | 246 => 74 | 247 => 71 | 260 => 122 | 263 => 101 | 264 => 102 | 266 => 109 | 267 => 89 | 268 => 83 | 276 => 99 | 277 => 100 | 279 => 91 | 280 => 92 | 281 => 93 | 282 => 94 | 283 => 95 | 284 => 96 | 285 => 97 | 286 => 98 | 287 => 90 | 314 => 110 | 316 => 113 | 317 => 116 | 318 => 118 | 319 => 119 | 320 => 120 | 321 => 111 | 322 => 112 | 337 => 124 | 338 => 125 | n => n, fun | 0 => 0 | 2 => 2 | 3 => 3 | 4 => 4 | 5 => 5 | 9 => 9 | 20 => 20 | 21 => 21 | 31 => 57 | 37 => 22 | 46 => 110 | 51 => 140 | 53 => 81 | 59 => 59 | 70 => 93 | 72 => 95 | 75 => 87 | 76 => 97 | 80 => 99 | 85 => 88 | 105 => 150 | 119 => 169 | 127 => 115 | 138 => 171 | 139 => 172 | 143 => 165 | 145 => 167 | 146 => 141 | 148 => 143 | 164 => 137 | 167 => 125 | 168 => 128 | 171 => 132 | 173 => 135 | 175 => 126 | 210 => 157 | 212 => 160 | 213 => 161 | 232 => 173 | 233 => 174 | n => n, fun | 1 => 0 | 3 => 4 | 4 => 5 | 15 => 1 | 16 => 2 | 17 => 3 | 18 => 6 | 19 => 7 | n => n⟩
theorem sh169 : Go.Proofs.Lays.n169 Tryz.prog shR := {
  mixed := by kernel_rfl
  f169 := Tryz.func61.trans (congrArg some (by kernel_rfl))
  t0 := Tryz.underlying0
  a0 := Tryz.isAgg0
  z0 := Tryz.sizeOf0
  v0 := Tryz.zeroValue0
  t3 := Tryz.underlying3
  a3 := Tryz.isAgg3
  z3 := Tryz.sizeOf3
  v3 := Tryz.zeroValue3
  t9 := Tryz.underlying9
  a9 := Tryz.isAgg9
  z9 := Tryz.sizeOf9
  v9 := Tryz.zeroValue9
  t37 := Tryz.underlying22
  a37 := Tryz.isAgg22
  z37 := Tryz.sizeOf22
  v37 := Tryz.zeroValue22
  t70 := Tryz.underlying93
  a70 := Tryz.isAgg93
  z70 := Tryz.sizeOf93
  v70 := Tryz.zeroValue93
  t72 := Tryz.underlying95
  a72 := Tryz.isAgg95
  z72 := Tryz.sizeOf95
  v72 := Tryz.zeroValue95
  t127 := Tryz.underlying115
  a127 := Tryz.isAgg115
  z127 := Tryz.sizeOf115
  v127 := Tryz.zeroValue115 }
theorem sh156 : Go.Proofs.Lays.n156 Tryz.prog shR := {
  mixed := by kernel_rfl
  f156 := Tryz.func35.trans (congrArg some (by kernel_rfl))
  f165 := Tryz.func59.trans (congrArg some (by kernel_rfl))
  f166 := Tryz.func60.trans (congrArg some (by kernel_rfl))
  f169 := Tryz.func61.trans (congrArg some (by kernel_rfl))
  f240 := Tryz.func75.trans (congrArg some (by kernel_rfl))
  f241 := Tryz.func76.trans (congrArg some (by kernel_rfl))
  f276 := Tryz.func99.trans (congrArg some (by kernel_rfl))
  f277 := Tryz.func100.trans (congrArg some (by kernel_rfl))
  t0 := Tryz.underlying0
  a0 := Tryz.isAgg0
  z0 := Tryz.sizeOf0
  v0 := Tryz.zeroValue0
  t3 := Tryz.underlying3
  a3 := Tryz.isAgg3
  z3 := Tryz.sizeOf3
  v3 := Tryz.zeroValue3
  t4 := Tryz.underlying4
  a4 := Tryz.isAgg4
  z4 := Tryz.sizeOf4
  v4 := Tryz.zeroValue4
  t9 := Tryz.underlying9
  a9 := Tryz.isAgg9
  z9 := Tryz.sizeOf9
  v9 := Tryz.zeroValue9
  t20 := Tryz.underlying20
  a20 := Tryz.isAgg20
  z20 := Tryz.sizeOf20
  v20 := Tryz.zeroValue20
  t31 := Tryz.underlying57
  a31 := Tryz.isAgg57
  z31 := Tryz.sizeOf57
  v31 := Tryz.zeroValue57
  t37 := Tryz.underlying22
  a37 := Tryz.isAgg22
  z37 := Tryz.sizeOf22
  v37 := Tryz.zeroValue22
  t70 := Tryz.underlying93
  a70 := Tryz.isAgg93
  z70 := Tryz.sizeOf93
  v70 := Tryz.zeroValue93
  t72 := Tryz.underlying95
  a72 := Tryz.isAgg95
  z72 := Tryz.sizeOf95
  v72 := Tryz.zeroValue95
  t75 := Tryz.underlying87
  a75 := Tryz.isAgg87
  z75 := Tryz.sizeOf87
  v75 := Tryz.zeroValue87
  t76 := Tryz.underlying97
  a76 := Tryz.isAgg97
  z76 := Tryz.sizeOf97
  v76 := Tryz.zeroValue97
  t127 := Tryz.underlying115
  a127 := Tryz.isAgg115
  z127 := Tryz.sizeOf115
  v127 := Tryz.zeroValue115
  t164 := Tryz.underlying137
  a164 := Tryz.isAgg137
  z164 := Tryz.sizeOf137
  v164 := Tryz.zeroValue137 }
theorem sh173 : Go.Proofs.Lays.n173 Tryz.prog shR := {
  mixed := by kernel_rfl
  f129 := Tryz.func117.trans (congrArg some (by kernel_rfl))
  f173 := Tryz.func58.trans (congrArg some (by kernel_rfl))
  f246 := Tryz.func74.trans (congrArg some (by kernel_rfl))
  f283 := Tryz.func95.trans (congrArg some (by kernel_rfl))
  f284 := Tryz.func96.trans (congrArg some (by kernel_rfl))
  f285 := Tryz.func97.trans (congrArg some (by kernel_rfl))
  f286 := Tryz.func98.trans (congrArg some (by kernel_rfl))
  f317 := Tryz.func116.trans (congrArg some (by kernel_rfl))
  f318 := Tryz.func118.trans (congrArg some (by kernel_rfl))
  f319 := Tryz.func119.trans (congrArg some (by kernel_rfl))
  f320 := Tryz.func120.trans (congrArg some (by kernel_rfl))
  f337 := Tryz.func124.trans (congrArg some (by kernel_rfl))
  f338 := Tryz.func125.trans (congrArg some (by kernel_rfl))
  t0 := Tryz.underlying0
  a0 := Tryz.isAgg0
  z0 := Tryz.sizeOf0
  v0 := Tryz.zeroValue0
  t2 := Tryz.underlying2
  a2 := Tryz.isAgg2
  z2 := Tryz.sizeOf2
  v2 := Tryz.zeroValue2
  t3 := Tryz.underlying3
  a3 := Tryz.isAgg3
  z3 := Tryz.sizeOf3
  v3 := Tryz.zeroValue3
  t4 := Tryz.underlying4
  a4 := Tryz.isAgg4
  z4 := Tryz.sizeOf4
  v4 := Tryz.zeroValue4
  t5 := Tryz.underlying5
  a5 := Tryz.isAgg5
  z5 := Tryz.sizeOf5
  v5 := Tryz.zeroValue5
  t9 := Tryz.underlying9
  a9 := Tryz.isAgg9
  z9 := Tryz.sizeOf9
  v9 := Tryz.zeroValue9
  t20 := Tryz.underlying20
  a20 := Tryz.isAgg20
  z20 := Tryz.sizeOf20
  v20 := Tryz.zeroValue20
  t37 := Tryz.underlying22
  a37 := Tryz.isAgg22
  z37 := Tryz.sizeOf22
  v37 := Tryz.zeroValue22
  t46 := Tryz.underlying110
  a46 := Tryz.isAgg110
  z46 := Tryz.sizeOf110
  v46 := Tryz.zeroValue110
  t51 := Tryz.underlying140
  a51 := Tryz.isAgg140
  z51 := Tryz.sizeOf140
  v51 := Tryz.zeroValue140
  t53 := Tryz.underlying81
  a53 := Tryz.isAgg81
  z53 := Tryz.sizeOf81
  v53 := Tryz.zeroValue81
  t171 := Tryz.underlying132
  a171 := Tryz.isAgg132
  z171 := Tryz.sizeOf132
  v171 := Tryz.zeroValue132
  t173 := Tryz.underlying135
  a173 := Tryz.isAgg135
  z173 := Tryz.sizeOf135
  v173 := Tryz.zeroValue135
  t212 := Tryz.underlying160
  a212 := Tryz.isAgg160
  z212 := Tryz.sizeOf160
  v212 := Tryz.zeroValue160
  t213 := Tryz.underlying161
  a213 := Tryz.isAgg161
  z213 := Tryz.sizeOf161
  t232 := Tryz.underlying173
  a232 := Tryz.isAgg173
  z232 := Tryz.sizeOf173
  v232 := Tryz.zeroValue173
  t233 := Tryz.underlying174
  a233 := Tryz.isAgg174
  z233 := Tryz.sizeOf174
  v233 := Tryz.zeroValue174
  g17 := by kernel_rfl
  g18 := by kernel_rfl
  g19 := by kernel_rfl }
theorem sh145 : Go.Proofs.Lays.n145 Tryz.prog shR := {
  mixed := by kernel_rfl
  f145 := Tryz.func31.trans (congrArg some (by kernel_rfl))
  f217 := Tryz.func86.trans (congrArg some (by kernel_rfl))
  f219 := Tryz.func70.trans (congrArg some (by kernel_rfl))
  f220 := Tryz.func54.trans (congrArg some (by kernel_rfl))
  f224 := Tryz.func88.trans (congrArg some (by kernel_rfl))
  f225 := Tryz.func87.trans (congrArg some (by kernel_rfl))
  f266 := Tryz.func109.trans (congrArg some (by kernel_rfl))
  f267 := Tryz.func89.trans (congrArg some (by kernel_rfl))
  f314 := Tryz.func110.trans (congrArg some (by kernel_rfl))
  t3 := Tryz.underlying3
  a3 := Tryz.isAgg3
  z3 := Tryz.sizeOf3
  v3 := Tryz.zeroValue3
  t4 := Tryz.underlying4
  a4 := Tryz.isAgg4
  z4 := Tryz.sizeOf4
  v4 := Tryz.zeroValue4
  t5 := Tryz.underlying5
  a5 := Tryz.isAgg5
  z5 := Tryz.sizeOf5
  v5 := Tryz.zeroValue5
  t9 := Tryz.underlying9
  a9 := Tryz.isAgg9
  z9 := Tryz.sizeOf9
  v9 := Tryz.zeroValue9
  t46 := Tryz.underlying110
  a46 := Tryz.isAgg110
  z46 := Tryz.sizeOf110
  v46 := Tryz.zeroValue110
  t51 := Tryz.underlying140
  a51 := Tryz.isAgg140
  z51 := Tryz.sizeOf140
  v51 := Tryz.zeroValue140
  t59 := Tryz.underlying59
  a59 := Tryz.isAgg59
  z59 := Tryz.sizeOf59
  v59 := Tryz.zeroValue59
  t146 := Tryz.underlying141
  a146 := Tryz.isAgg141
  z146 := Tryz.sizeOf141
  v146 := Tryz.zeroValue141
  g1 := by kernel_rfl }
theorem sh146 : Go.Proofs.Lays.n146 Tryz.prog shR := {
  mixed := by kernel_rfl
  f138 := Tryz.func84.trans (congrArg some (by kernel_rfl))
  f143 := Tryz.func85.trans (congrArg some (by kernel_rfl))
  f146 := Tryz.func53.trans (congrArg some (by kernel_rfl))
  f195 := Tryz.func106.trans (congrArg some (by kernel_rfl))
  f197 := Tryz.func107.trans (congrArg some (by kernel_rfl))
  f217 := Tryz.func86.trans (congrArg some (by kernel_rfl))
  f218 := Tryz.func108.trans (congrArg some (by kernel_rfl))
  f219 := Tryz.func70.trans (congrArg some (by kernel_rfl))
  f221 := Tryz.func69.trans (congrArg some (by kernel_rfl))
  f224 := Tryz.func88.trans (congrArg some (by kernel_rfl))
  f225 := Tryz.func87.trans (congrArg some (by kernel_rfl))
  f260 := Tryz.func122.trans (congrArg some (by kernel_rfl))
  f266 := Tryz.func109.trans (congrArg some (by kernel_rfl))
  f267 := Tryz.func89.trans (congrArg some (by kernel_rfl))
  f268 := Tryz.func83.trans (congrArg some (by kernel_rfl))
  f314 := Tryz.func110.trans (congrArg some (by kernel_rfl))
  t0 := Tryz.underlying0
  a0 := Tryz.isAgg0
  z0 := Tryz.sizeOf0
  v0 := Tryz.zeroValue0
  t3 := Tryz.underlying3
  a3 := Tryz.isAgg3
  z3 := Tryz.sizeOf3
  v3 := Tryz.zeroValue3
  t4 := Tryz.underlying4
  a4 := Tryz.isAgg4
  z4 := Tryz.sizeOf4
  v4 := Tryz.zeroValue4
  t5 := Tryz.underlying5
  a5 := Tryz.isAgg5
  z5 := Tryz.sizeOf5
  v5 := Tryz.zeroValue5
  t9 := Tryz.underlying9
  a9 := Tryz.isAgg9
  z9 := Tryz.sizeOf9
  v9 := Tryz.zeroValue9
  t21 := Tryz.underlying21
  a21 := Tryz.isAgg21
  z21 := Tryz.sizeOf21
  v21 := Tryz.zeroValue21
  t31 := Tryz.underlying57
  a31 := Tryz.isAgg57
  z31 := Tryz.sizeOf57
  v31 := Tryz.zeroValue57
  t46 := Tryz.underlying110
  a46 := Tryz.isAgg110
  z46 := Tryz.sizeOf110
  v46 := Tryz.zeroValue110
  t51 := Tryz.underlying140
  a51 := Tryz.isAgg140
  z51 := Tryz.sizeOf140
  v51 := Tryz.zeroValue140
  t105 := Tryz.underlying150
  a105 := Tryz.isAgg150
  z105 := Tryz.sizeOf150
  v105 := Tryz.zeroValue150
  t119 := Tryz.underlying169
  a119 := Tryz.isAgg169
  z119 := Tryz.sizeOf169
  t138 := Tryz.underlying171
  a138 := Tryz.isAgg171
  z138 := Tryz.sizeOf171
  v138 := Tryz.zeroValue171
  t139 := Tryz.underlying172
  a139 := Tryz.isAgg172
  z139 := Tryz.sizeOf172
  v139 := Tryz.zeroValue172
  t146 := Tryz.underlying141
  a146 := Tryz.isAgg141
  z146 := Tryz.sizeOf141
  v146 := Tryz.zeroValue141
  g1 := by kernel_rfl
  g3 := by kernel_rfl
  g4 := by kernel_rfl }
theorem sh174 : Go.Proofs.LaysC.n174 Tryz.prog shR := {
  mixed := by kernel_rfl
  f129 := Tryz.func117.trans (congrArg some (by kernel_rfl))
  f171 := Tryz.func115.trans (congrArg some (by kernel_rfl))
  f174 := Tryz.func55.trans (congrArg some (by kernel_rfl))
  f205 := Tryz.func114.trans (congrArg some (by kernel_rfl))
  f243 := Tryz.func123.trans (congrArg some (by kernel_rfl))
  f245 := Tryz.func72.trans (congrArg some (by kernel_rfl))
  f246 := Tryz.func74.trans (congrArg some (by kernel_rfl))
  f247 := Tryz.func71.trans (congrArg some (by kernel_rfl))
  f279 := Tryz.func91.trans (congrArg some (by kernel_rfl))
  f280 := Tryz.func92.trans (congrArg some (by kernel_rfl))
  f281 := Tryz.func93.trans (congrArg some (by kernel_rfl))
  f282 := Tryz.func94.trans (congrArg some (by kernel_rfl))
  f283 := Tryz.func95.trans (congrArg some (by kernel_rfl))
  f284 := Tryz.func96.trans (congrArg some (by kernel_rfl))
  f285 := Tryz.func97.trans (congrArg some (by kernel_rfl))
  f286 := Tryz.func98.trans (congrArg some (by kernel_rfl))
  f287 := Tryz.func90.trans (congrArg some (by kernel_rfl))
  f316 := Tryz.func113.trans (congrArg some (by kernel_rfl))
  f317 := Tryz.func116.trans (congrArg some (by kernel_rfl))
  f318 := Tryz.func118.trans (congrArg some (by kernel_rfl))
  f319 := Tryz.func119.trans (congrArg some (by kernel_rfl))
  f320 := Tryz.func120.trans (congrArg some (by kernel_rfl))
  f321 := Tryz.func111.trans (congrArg some (by kernel_rfl))
  f322 := Tryz.func112.trans (congrArg some (by kernel_rfl))
  f337 := Tryz.func124.trans (congrArg some (by kernel_rfl))
  f338 := Tryz.func125.trans (congrArg some (by kernel_rfl))
  t0 := Tryz.underlying0
  a0 := Tryz.isAgg0
  z0 := Tryz.sizeOf0
  v0 := Tryz.zeroValue0
  t2 := Tryz.underlying2
  a2 := Tryz.isAgg2
  z2 := Tryz.sizeOf2
  v2 := Tryz.zeroValue2
  t3 := Tryz.underlying3
  a3 := Tryz.isAgg3
  z3 := Tryz.sizeOf3
  v3 := Tryz.zeroValue3
  t4 := Tryz.underlying4
  a4 := Tryz.isAgg4
  z4 := Tryz.sizeOf4
  v4 := Tryz.zeroValue4
  t5 := Tryz.underlying5
  a5 := Tryz.isAgg5
  z5 := Tryz.sizeOf5
  v5 := Tryz.zeroValue5
  t9 := Tryz.underlying9
  a9 := Tryz.isAgg9
  z9 := Tryz.sizeOf9
  v9 := Tryz.zeroValue9
  t20 := Tryz.underlying20
  a20 := Tryz.isAgg20
  z20 := Tryz.sizeOf20
  v20 := Tryz.zeroValue20
  t21 := Tryz.underlying21
  a21 := Tryz.isAgg21
  z21 := Tryz.sizeOf21
  v21 := Tryz.zeroValue21
  t37 := Tryz.underlying22
  a37 := Tryz.isAgg22
  z37 := Tryz.sizeOf22
  v37 := Tryz.zeroValue22
  t46 := Tryz.underlying110
  a46 := Tryz.isAgg110
  z46 := Tryz.sizeOf110
  v46 := Tryz.zeroValue110
  t51 := Tryz.underlying140
  a51 := Tryz.isAgg140
  z51 := Tryz.sizeOf140
  v51 := Tryz.zeroValue140
  t53 := Tryz.underlying81
  a53 := Tryz.isAgg81
  z53 := Tryz.sizeOf81
  v53 := Tryz.zeroValue81
  t75 := Tryz.underlying87
  a75 := Tryz.isAgg87
  z75 := Tryz.sizeOf87
  v75 := Tryz.zeroValue87
  t85 := Tryz.underlying88
  a85 := Tryz.isAgg88
  z85 := Tryz.sizeOf88
  v85 := Tryz.zeroValue88
  t127 := Tryz.underlying115
  a127 := Tryz.isAgg115
  z127 := Tryz.sizeOf115
  v127 := Tryz.zeroValue115
  t143 := Tryz.underlying165
  a143 := Tryz.isAgg165
  z143 := Tryz.sizeOf165
  v143 := Tryz.zeroValue165
  t145 := Tryz.underlying167
  a145 := Tryz.isAgg167
  z145 := Tryz.sizeOf167
  v145 := Tryz.zeroValue167
  t167 := Tryz.underlying125
  a167 := Tryz.isAgg125
  z167 := Tryz.sizeOf125
  v167 := Tryz.zeroValue125
  t168 := Tryz.underlying128
  a168 := Tryz.isAgg128
  z168 := Tryz.sizeOf128
  v168 := Tryz.zeroValue128
  t171 := Tryz.underlying132
  a171 := Tryz.isAgg132
  z171 := Tryz.sizeOf132
  v171 := Tryz.zeroValue132
  t173 := Tryz.underlying135
  a173 := Tryz.isAgg135
  z173 := Tryz.sizeOf135
  v173 := Tryz.zeroValue135
  t175 := Tryz.underlying126
  a175 := Tryz.isAgg126
  z175 := Tryz.sizeOf126
  v175 := Tryz.zeroValue126
  t210 := Tryz.underlying157
  a210 := Tryz.isAgg157
  z210 := Tryz.sizeOf157
  v210 := Tryz.zeroValue157
  t212 := Tryz.underlying160
  a212 := Tryz.isAgg160
  z212 := Tryz.sizeOf160
  v212 := Tryz.zeroValue160
  t213 := Tryz.underlying161
  a213 := Tryz.isAgg161
  z213 := Tryz.sizeOf161
  t232 := Tryz.underlying173
  a232 := Tryz.isAgg173
  z232 := Tryz.sizeOf173
  v232 := Tryz.zeroValue173
  t233 := Tryz.underlying174
  a233 := Tryz.isAgg174
  z233 := Tryz.sizeOf174
  v233 := Tryz.zeroValue174
  g15 := by kernel_rfl
  g16 := by kernel_rfl
  g17 := by kernel_rfl
  g18 := by kernel_rfl
  g19 := by kernel_rfl
  t80 := Tryz.underlying99
  a80 := Tryz.isAgg99
  z80 := Tryz.sizeOf99
  v80 := Tryz.zeroValue99
  i0 := by kernel_rfl
  i2 := by kernel_rfl
  i3 := by kernel_rfl
  i4 := by kernel_rfl
  i5 := by kernel_rfl
  i9 := by kernel_rfl
  i20 := by kernel_rfl
  i21 := by kernel_rfl
  i37 := by kernel_rfl
  i46 := by kernel_rfl
  i51 := by kernel_rfl
  i53 := by kernel_rfl
  i75 := by kernel_rfl
  i80 := by kernel_rfl
  i85 := by kernel_rfl
  i127 := by kernel_rfl
  i143 := by kernel_rfl
  i145 := by kernel_rfl
  i167 := by kernel_rfl
  i168 := by kernel_rfl
  i171 := by kernel_rfl
  i173 := by kernel_rfl
  i175 := by kernel_rfl
  i210 := by kernel_rfl
  i212 := by kernel_rfl
  i232 := by kernel_rfl
  i233 := by kernel_rfl
  m15 := by kernel_rfl
  m16 := by kernel_rfl
  m17 := by kernel_rfl
  m18 := by kernel_rfl
  m19 := by kernel_rfl
  c0 := by kernel_rfl
  c2 := by kernel_rfl
  c3 := by kernel_rfl
  c4 := by kernel_rfl
  c5 := by kernel_rfl
  c9 := by kernel_rfl
  c20 := by kernel_rfl
  c21 := by kernel_rfl
  c37 := by kernel_rfl
  c46 := by kernel_rfl
  c51 := by kernel_rfl
  c53 := by kernel_rfl
  c75 := by kernel_rfl
  c80 := by kernel_rfl
  c85 := by kernel_rfl
  c127 := by kernel_rfl
  c143 := by kernel_rfl
  c145 := by kernel_rfl
  c167 := by kernel_rfl
  c168 := by kernel_rfl
  c171 := by kernel_rfl
  c173 := by kernel_rfl
  c175 := by kernel_rfl
  c210 := by kernel_rfl
  c212 := by kernel_rfl
  c213 := by kernel_rfl
  c232 := by kernel_rfl
  c233 := by kernel_rfl }
theorem sh212 : Go.Proofs.Lays.n212 Tryz.prog shR := {
  mixed := by kernel_rfl
  f212 := Tryz.func77.trans (congrArg some (by kernel_rfl))
  f263 := Tryz.func101.trans (congrArg some (by kernel_rfl))
  f264 := Tryz.func102.trans (congrArg some (by kernel_rfl))
  t46 := Tryz.underlying110
  a46 := Tryz.isAgg110
  z46 := Tryz.sizeOf110
  v46 := Tryz.zeroValue110
  t51 := Tryz.underlying140
  a51 := Tryz.isAgg140
  z51 := Tryz.sizeOf140
  v51 := Tryz.zeroValue140
  t53 := Tryz.underlying81
  a53 := Tryz.isAgg81
  z53 := Tryz.sizeOf81
  v53 := Tryz.zeroValue81
  t146 := Tryz.underlying141
  a146 := Tryz.isAgg141
  z146 := Tryz.sizeOf141
  v146 := Tryz.zeroValue141
  t148 := Tryz.underlying143
  a148 := Tryz.isAgg143
  z148 := Tryz.sizeOf143
  v148 := Tryz.zeroValue143 }
end Go.Proofs.YtlljflmbnbjccaaGreatDoor
/- Slices of elements of several cells: how they lie, made, cut, read at a place; no condition. -/
namespace Go.Proofs.YtlljflmbnbjccaaGreatDoor
open Go.RowKit
set_option linter.unusedSimpArgs false
set_option linter.unusedVariables false

section
variable {w w1 : World} {b o f : Nat} {cs xs ys : List Value} {T : TypeId} {M : List Nat}
theorem Cl.fore (h : Cl w b o (xs ++ ys)) : Cl w b o xs := ⟨h.1, fun j v hj => h.2 j v (by
  have hjl : j < xs.length := (List.getElem?_eq_some_iff.1 hj).1
  rw [List.getElem?_append_left hjl]; exact hj)⟩
theorem Cl.seg {α : Type} {e : α → List Value} {s : Nat} (hs : ∀ a, (e a).length = s) {l : List α} (h : Cl w b o (encs e l)) {k : Nat} (hk : k < l.length) : Cl w b (o + k * s) (e l[k]) := ⟨h.1, fun j v hj => by
  have hjl : j < s := by rw [← hs l[k]]; exact (List.getElem?_eq_some_iff.1 hj).1
  rw [Nat.add_assoc]
  exact h.2 _ v (by rw [encs_get hs l k hk j hjl, hj])⟩
theorem Cl.zero {v : Value} (h : Cl w b o cs) (hv : cs[0]? = some v) : w.cell? ⟨b, o, none⟩ = some v := h.2 0 v hv
theorem Blk.seg {α : Type} {e : α → List Value} {s : Nat} (hs : ∀ a, (e a).length = s) {l : List α} {sp : List Value} (h : Blk w b (encs e l ++ sp) T) {k : Nat} (hk : k < l.length) : Cl w b (k * s) (e l[k]) := by
  have := (Cl.of h).fore.seg hs hk
  rwa [Nat.zero_add] at this
end
/-- What a slice of n elements shows: cs, from its head on. -/
def Rd (w : World) (p : Option Addr) (n : Nat) (cs : List Value) : Prop := 0 < n → ∃ b f, p = some ⟨b, f, none⟩ ∧ Cl w b f cs
theorem Rd.keep {w w1 : World} {p : Option Addr} {n : Nat} {cs : List Value} (h : Rd w p n cs) (hk : Keep [] w w1) : Rd w1 p n cs := fun hn => by
  obtain ⟨b, f, hp, hc⟩ := h hn
  exact ⟨b, f, hp, hc.keep hk (by simp)⟩
theorem Rd.of {w : World} {b n : Nat} {xs ys : List Value} {T : TypeId} (h : Blk w b (xs ++ ys) T) : Rd w (some ⟨b, 0, none⟩) n xs := fun _ => ⟨b, 0, rfl, (Cl.of h).fore⟩
theorem Rd.of0 {w : World} {b n : Nat} {xs : List Value} {T : TypeId} (h : Blk w b xs T) : Rd w (some ⟨b, 0, none⟩) n xs := fun _ => ⟨b, 0, rfl, Cl.of h⟩
theorem Rd.nil {w : World} {p : Option Addr} {cs : List Value} : Rd w p 0 cs := fun h => absurd h (by omega)

theorem made_flat (z : List Value) (n s : Nat) (hs : z.length = s) : madeCells z.toArray (n * s) = (List.replicate n z).flatten.toArray := by
  by_cases h0 : s = 0
  · subst h0
    have : z = [] := List.eq_nil_of_length_eq_zero hs
    subst this
    have e : (List.replicate n ([] : List Value)).flatten = [] := by simp
    rw [e, Nat.mul_zero]; simp [madeCells, Array.range_zero']
  · apply Array.ext
    · simp [madeCells, hs]
    · intro i h1 h2
      have hi : i < n * s := by simpa [madeCells] using h1
      have hi1 : i % s < s := Nat.mod_lt _ (by omega)
      have key : ∀ (n i : Nat), i < n * s → (List.replicate n z).flatten[i]? = z[i % s]? := by
        intro n
        induction n with
        | zero => intro i hi; omega
        | succ n ih =>
          intro i hi
          rw [List.replicate_succ, List.flatten_cons]
          by_cases hlt : i < s
          · rw [List.getElem?_append_left (by omega), Nat.mod_eq_of_lt hlt]
          · rw [List.getElem?_append_right (by omega), hs, ih (i - s) (by rw [Nat.succ_mul] at hi; omega), Nat.mod_eq_sub_mod (a := i) (by omega)]
      have := key n i hi
      simp only [madeCells, Array.getElem_map, Array.getElem_range, List.getElem_toArray, List.size_toArray, hs]
      rw [List.getElem?_eq_getElem (by simpa using h2), List.getElem?_eq_getElem (by omega)] at this
      injection this with this
      rw [this]
      simp [hs, hi1]

section
variable {P : Program} {ops : Array Oper} {rest : List Oper} {o : Oper} {a : Act} {w w0 : World} {Q : Exit → Act → World → Prop} {M : List Nat} {L L' : List (Nat × List Value × TypeId)}
theorem gate_make {T : TypeId} {x y : Operand} (_ho : o.op = .makeSlice T x y) (h : wpList P ops Q (o :: rest) a w) : wpList P ops Q (o :: rest) a w := h
theorem la_makeSlice {E : TypeId} {s y : Nat} {z : List Value} {T : TypeId} {x x' : Operand} {k k' : IntKind} {i i' : Int} {n : Nat} (hT : SlcT P T E s y z) (hn : i = n) (hn' : i' = n) (hy : n * y ≤ 140737488355328) (h63 : n ≤ 9223372036854775807) (st : St M w0 w L)
    (hgd : o.guard = none) (ho : o.op = .makeSlice T x x') (hx : a.eval x = .int k i) (hx' : a.eval x' = .int k' i')
    (h : ∀ B w1, St M w0 w1 ((B, (List.replicate n z).flatten, E) :: L) → wpList P ops Q rest (a.put o.dst (.slice (some ⟨B, 0, none⟩) n n)) w1) : wpList P ops Q (o :: rest) a w := by
  subst hn
  subst hn'
  obtain ⟨u, v, hi, hs, hy', hz, hc⟩ := hT.i
  have hb : (y : Int) * (n : Int) ≤ 281474976710656 := by
    have h1 : ((n * y : Nat) : Int) ≤ 140737488355328 := by omega
    rw [Int.natCast_mul, Int.mul_comm] at h1
    omega
  have hr := run_make (P := P) w T E u v hT.u hi hz k k' n n (by omega) (by omega) (by rw [hy']; exact hb) (by omega)
  rw [hc, Int.toNat_natCast, hs, made_flat z n s hT.l] at hr
  refine wpList_plain hgd fun K hK => ?_
  unfold Oper.wp execOp
  simp only [ho, hx, hx', Sem.run_bind, Sem.run_pure, Result.andThen_ok, hr]
  exact hK _ _ (h _ _ (st.alloc _ E))
theorem la_slcAddrP {p : Option Addr} {E : TypeId} {s y : Nat} {z : List Value} {T : TypeId} {x ix : Operand} {b f m c : Nat} {k : IntKind} {i : Int} {j : Nat} (hp : p = some ⟨b, f, none⟩) (hT : SlcT P T E s y z) (hj : i = j) (h1 : j < m) (hgd : o.guard = none) (ho : o.op = .indexAddr T x ix) (hx : a.eval x = .slice p m c) (hi : a.eval ix = .int k i)
    (h : wpList P ops Q rest (a.put o.dst (.pointer (some ⟨b, f + j * s, none⟩))) w) : wpList P ops Q (o :: rest) a w := by
  subst hp
  exact wpl_slcAddr hgd T x ix ho b f m c hx k i hi hT j hj h1 h
theorem sliced_zero (P : Program) (a : Option Addr) (h c s : Nat) : sliced a 0 h c s = .slice a h c := by
  cases a with
  | none => simp [sliced]
  | some a => obtain ⟨b, f, m⟩ := a; cases m <;> simp [sliced, Addr.add]
end
section
variable {P : Program} {ops : Array Oper} {rest : List Oper} {o : Oper} {a : Act} {w w0 : World} {Q : Act → Prop} {C : World → Prop} {M : List Nat} {L L' : List (Nat × List Value × TypeId)}
theorem qa_slcAddrP {p : Option Addr} {E : TypeId} {s y : Nat} {z : List Value} {T : TypeId} {x ix : Operand} {b f m c : Nat} {k : IntKind} {i : Int} {j : Nat} (hp : p = some ⟨b, f, none⟩) (hT : SlcT P T E s y z) (hj : i = j) (h1 : j < m) (hgd : o.guard = none) (ho : o.op = .indexAddr T x ix) (hx : a.eval x = .slice p m c) (hi : a.eval ix = .int k i)
    (h : wpQuiet P ops C Q rest (a.put o.dst (.pointer (some ⟨b, f + j * s, none⟩)))) : wpQuiet P ops C Q (o :: rest) a := by
  subst hp
  exact wpq_slcAddr hgd T x ix ho b f m c hx k i hi hT j hj h1 h
theorem qg_slice {T : TypeId} {x : Operand} {l h m : Option Operand} (_ho : o.op = .slice T x l h m) (h : wpQuiet P ops C Q (o :: rest) a) : wpQuiet P ops C Q (o :: rest) a := h
theorem qa_sliceH {E : TypeId} {s y : Nat} {z : List Value} {T : TypeId} {x ih : Operand} {p : Option Addr} {m c : Nat} {k : IntKind} {i : Int} {n : Nat} (hT : SlcT P T E s y z) (hn : i = n) (hc : n ≤ c) (hgd : o.guard = none) (ho : o.op = .slice T x none (some ih) none) (hx : a.eval x = .slice p m c) (hi : a.eval ih = .int k i)
    (h : wpQuiet P ops C Q rest (a.put o.dst (.slice p n c))) : wpQuiet P ops C Q (o :: rest) a := by
  subst hn
  exact wpq_val hgd _ (fun w' _ => by
    have he : P.elem T = E := by unfold Program.elem; rw [hT.u]
    have hr := run_slice_h (P := P) w' T p m c (by rw [he]; exact hT.u) k n (by omega) (by omega)
    rw [he, hT.sizeOf w'] at hr
    simp only [Result.andThen_ok, Int.toNat_natCast, sliced_zero P] at hr
    have hu : P.underlying T = some (.slice (P.elem T)) := by rw [he]; exact hT.u
    unfold execOp
    simp only [ho, hx, hi, Sem.run_bind, Sem.run_pure, Result.andThen_ok, Option.map_some, Option.map_none, run_sliceAt_slice w' T _ _ _ _ hu, hr]) h
end
end Go.Proofs.YtlljflmbnbjccaaGreatDoor
/- More types of this program; no condition. -/
namespace Go.Proofs.YtlljflmbnbjccaaGreatDoor
open Go.RowKit
theorem frv_len12 (f : List Nat) (h : f.length = 12) : (frv f).length = 12 := by rw [frv_length, h]
theorem tU8 : OneT Tryz.prog 5 (.int .u8 0) := oneT_of Tryz.underlying5 rfl (by kernel_rfl) rfl
theorem tShot : AggT Tryz.prog 55 2 [.int .i8 0, .int .i8 0] := aggT_of Tryz.underlying55 rfl (by kernel_rfl)
theorem tBook : SlcT Tryz.prog 25 72 12 24 (frv zf) := slcT_of Tryz.underlying25 (.agg (frv zf).toArray) (by kernel_rfl) rfl (by decide) rfl
theorem tI64S : SlcT Tryz.prog 35 2 1 8 [.int .i64 0] := slcT_of Tryz.underlying35 (.int .i64 0) (by kernel_rfl) rfl (by decide) rfl
theorem tShotS : SlcT Tryz.prog 27 55 2 2 [.int .i8 0, .int .i8 0] := slcT_of Tryz.underlying27 (.agg #[.int .i8 0, .int .i8 0]) (by kernel_rfl) rfl (by decide) rfl
instance : AggC Tryz.prog 55 2 [.int .i8 0, .int .i8 0] := ⟨tShot⟩
instance : SlcC Tryz.prog 25 72 12 24 (frv zf) := ⟨tBook⟩
instance : SlcC Tryz.prog 35 2 1 8 [.int .i64 0] := ⟨tI64S⟩
instance : SlcC Tryz.prog 27 55 2 2 [.int .i8 0, .int .i8 0] := ⟨tShotS⟩
end Go.Proofs.YtlljflmbnbjccaaGreatDoor
/- The small functions on places and frames: what each answers; no condition. -/
namespace Go.Proofs.YtlljflmbnbjccaaGreatDoor
open Go.RowKit
set_option linter.unusedSimpArgs false
set_option linter.unusedVariables false

def inB (n lo hi : Int) : Bool := decide (lo ≤ n ∧ n ≤ hi)
theorem inB_yes {n lo hi : Int} (h1 : lo ≤ n) (h2 : n ≤ hi) : inB n lo hi = true := by simp [inB, h1, h2]
theorem inB_no1 {n lo hi : Int} (h1 : ¬ lo ≤ n) : inB n lo hi = false := by simp [inB, h1]
theorem inB_no2 {n lo hi : Int} (h1 : ¬ n ≤ hi) : inB n lo hi = false := by simp [inB, h1]
theorem l00In_c (n lo hi : Int) (w : World) : Calls Tryz.prog 45 #[.int .i64 n, .int .i64 lo, .int .i64 hi] w fun e w' => e = .returned (.bool (inB n lo hi)) ∧ Keep [] w w' := by
  by_cases h1 : lo ≤ n
  · by_cases h2 : n ≤ hi
    · rw [inB_yes h1 h2]
      go_enter Tryz.func45, Tryz.ntmps45
      go_wp2
      go_ret
      exact ⟨by simp [h2], Keep.refl _ _⟩
    · rw [inB_no2 h2]
      go_enter Tryz.func45, Tryz.ntmps45
      go_wp2
      go_ret
      exact ⟨by simp [h2], Keep.refl _ _⟩
  · rw [inB_no1 h1]
    go_enter Tryz.func45, Tryz.ntmps45
    go_wp2
    go_ret
    exact ⟨by simp, Keep.refl _ _⟩
theorem inRange_c (n lo hi : Int) (w : World) : Calls Tryz.prog 42 #[.int .i64 n, .int .i64 lo, .int .i64 hi] w fun e w' => e = .returned (.bool (inB n lo hi)) ∧ Keep [] w w' := by
  by_cases h1 : lo ≤ n
  · by_cases h2 : n ≤ hi
    · rw [inB_yes h1 h2]
      go_enter Tryz.func42, Tryz.ntmps42
      go_wp2
      go_ret
      exact ⟨by simp [h2], Keep.refl _ _⟩
    · rw [inB_no2 h2]
      go_enter Tryz.func42, Tryz.ntmps42
      go_wp2
      go_ret
      exact ⟨by simp [h2], Keep.refl _ _⟩
  · rw [inB_no1 h1]
    go_enter Tryz.func42, Tryz.ntmps42
    go_wp2
    go_ret
    exact ⟨by simp, Keep.refl _ _⟩

/-- x, y is a place. -/
def placeB (x y : Int) : Bool := inB x 0 11 && inB y 0 11
theorem l01Place_c (x y : Int) (w : World) : Calls Tryz.prog 81 #[.int .i64 x, .int .i64 y] w fun e w' => e = .returned (.bool (placeB x y)) ∧ Keep [] w w' := by
  have st := St.start w
  unfold placeB
  by_cases h : inB x 0 11 = true
  · rw [h, Bool.true_and]
    go_enter Tryz.func81, Tryz.ntmps81
    go_wp2_with (first | (go_at_call 45; refine (l00In_c _ _ _ _).mono ?_; rintro _ _ ⟨rfl, hk⟩; replace st := st.call hk; clear hk))
    go_ret
    exact ⟨rfl, st.keep⟩
  · have h' : inB x 0 11 = false := by simpa using h
    rw [h', Bool.false_and]
    clear h
    go_enter Tryz.func81, Tryz.ntmps81
    go_wp2_with (first | (go_at_call 45; refine (l00In_c _ _ _ _).mono ?_; rintro _ _ ⟨rfl, hk⟩; replace st := st.call hk; clear hk))
    go_ret
    exact ⟨rfl, st.keep⟩
/-! ### The frame's own tests and copies -/
theorem l01Ok_c (f : List Nat) (hf : f.length = 12) (b o : Nat) (w : World) (hb : Cl w b o (frv f)) :
    Calls Tryz.prog 65 #[.pointer (some ⟨b, o, none⟩)] w fun e w' => e = .returned (.bool (okB f)) ∧ Keep [] w w' := by
  have st := St.start w
  go_enter Tryz.func65, Tryz.ntmps65
  go_wp2_with fail
  go_loopw [3] (fun i wr => ∃ k : Nat, k ≤ 12 ∧ i = .int .i64 k ∧ (∀ y, y < k → ro f y ≤ 4095) ∧ St [] w wr []) (fun i _ => 12 - (intOf i).toNat)
  case atStart => exact ⟨0, by omega, rfl, by omega, st⟩
  case round =>
    clear st
    obtain ⟨k, hk, rfl, hle, st⟩ := hrel
    have HL := hid hle
    clear hle
    by_cases hlt : k < 12
    · by_cases hbig : 4095 < ro f k
      · go_wp2_with (first | ((with_reducible refine gate_addr rfl ?_); refine wpl_indexAddr rfl _ _ rfl _ _ rfl _ _ rfl tFr k rfl hlt ?_) | ((with_reducible refine gate_load rfl ?_); refine wpl_load1 rfl _ _ rfl _ rfl tU16 _ ((hb.keep st.keep (by simp)).cellv (frv_get _ _ (by omega))) ?_))
        go_ret
        exact ⟨by rw [okB_not hbig]; rfl, st.keep⟩
      · go_wp2_with (first | ((with_reducible refine gate_addr rfl ?_); refine wpl_indexAddr rfl _ _ rfl _ _ rfl _ _ rfl tFr k rfl hlt ?_) | ((with_reducible refine gate_load rfl ?_); refine wpl_load1 rfl _ _ rfl _ rfl tU16 _ ((hb.keep st.keep (by simp)).cellv (frv_get _ _ (by omega))) ?_))
        go_roundw
        case rel =>
          refine ⟨k + 1, by omega, by go_num, fun y hy => ?_, st⟩
          by_cases e : y = k
          · subst e; omega
          · exact HL.out y (by omega)
        case measure => simp [intOf]; omega
    · obtain rfl : k = 12 := by omega
      go_wp2_with fail
      go_ret
      exact ⟨by rw [okB_of (fun y hy => HL.out y (by omega))]; rfl, st.keep⟩

theorem fill_step (f : List Nat) (hf : f.length = 12) (k : Nat) (hk : k < 12) : (f.take k ++ List.replicate (12 - k) 0).set k (ro f k) = f.take (k + 1) ++ List.replicate (12 - (k + 1)) 0 := by
  have hl : (f.take k).length = k := by rw [List.length_take]; omega
  rw [List.set_append_right _ _ (by omega), hl, Nat.sub_self, show 12 - k = (12 - (k + 1)) + 1 by omega, List.replicate_succ, List.set_cons_zero, List.take_succ_eq_append_getElem (by omega), ro_get _ _ (by omega), List.append_assoc]
  rfl
theorem bigRow_c (r : Nat) (w : World) : Calls Tryz.prog 105 #[.int .u16 r] w fun e w' => e = .returned (.bool (decide (4095 < r))) ∧ Keep [] w w' := by
  go_enter Tryz.func105, Tryz.ntmps105
  go_wp2_with fail
  go_ret
  exact ⟨by simp; omega, Keep.refl _ _⟩
def IdxPost (f : List Nat) (w : World) (e : Ending) (w' : World) : Prop := ∃ i : Int, e = .returned (.int .i64 i) ∧ (okB f = true → i = -1) ∧ (okB f = false → 0 ≤ i) ∧ Keep [] w w'
theorem indexFuncRow_c (f : List Nat) (hf : f.length = 12) (b : Nat) (w : World) (hb : Cl w b 0 (frv f)) :
    Calls Tryz.prog 121 #[.slice (some ⟨b, 0, none⟩) 12 12, .func (.func 105) #[] #[]] w (IdxPost f w) := by
  have st := St.start w
  go_enter Tryz.func121, Tryz.ntmps121
  go_wp2_with fail
  go_loopw [8] (fun i wr => ∃ k : Nat, k ≤ 12 ∧ i = .int .i64 k ∧ (∀ y, y < k → ro f y ≤ 4095) ∧ St [] w wr []) (fun i _ => 12 - (intOf i).toNat)
  case atStart => exact ⟨0, by omega, rfl, by omega, st⟩
  case round =>
    clear st
    obtain ⟨k, hk, rfl, hle, st⟩ := hrel
    have HL := hid hle
    clear hle
    by_cases hlt : k < 12
    · by_cases hbig : 4095 < ro f k
      · have hd : decide (4095 < ro f k) = true := by simpa using hbig
        go_wp2_with (first | ((with_reducible refine gate_addr rfl ?_); refine wpl_slcAddr0 rfl _ _ rfl _ _ _ rfl _ _ rfl tU16S k rfl hlt ?_) | ((with_reducible refine gate_load rfl ?_); refine wpl_load1 rfl _ _ rfl _ rfl tU16 _ ((hb.keep st.keep (by simp)).cellv0 (frv_get _ _ (by omega))) ?_) | (go_at_call 105; refine (bigRow_c _ _).mono ?_; rintro _ _ ⟨rfl, hk⟩; replace st := st.call hk; clear hk))
        go_ret
        exact ⟨k, rfl, fun h => (by rw [okB_not hbig] at h; cases h), fun _ => (by omega), st.keep⟩
      · have hd : decide (4095 < ro f k) = false := by simpa using hbig
        go_wp2_with (first | ((with_reducible refine gate_addr rfl ?_); refine wpl_slcAddr0 rfl _ _ rfl _ _ _ rfl _ _ rfl tU16S k rfl hlt ?_) | ((with_reducible refine gate_load rfl ?_); refine wpl_load1 rfl _ _ rfl _ rfl tU16 _ ((hb.keep st.keep (by simp)).cellv0 (frv_get _ _ (by omega))) ?_) | (go_at_call 105; refine (bigRow_c _ _).mono ?_; rintro _ _ ⟨rfl, hk⟩; replace st := st.call hk; clear hk))
        go_roundw
        case rel =>
          refine ⟨k + 1, by omega, by go_num, fun y hy => ?_, st⟩
          by_cases e : y = k
          · subst e; omega
          · exact HL.out y (by omega)
        case measure => simp [intOf]; omega
    · obtain rfl : k = 12 := by omega
      go_wp2_with fail
      go_ret
      exact ⟨-1, rfl, fun _ => rfl, fun h => (by rw [okB_of (fun y hy => HL.out y (by omega))] at h; cases h), st.keep⟩
theorem containsRow_c (f : List Nat) (hf : f.length = 12) (b : Nat) (w : World) (hb : Cl w b 0 (frv f)) :
    Calls Tryz.prog 104 #[.slice (some ⟨b, 0, none⟩) 12 12, .func (.func 105) #[] #[]] w fun e w' => e = .returned (.bool (!okB f)) ∧ Keep [] w w' := by
  have st := St.start w
  by_cases h : okB f = true
  · rw [h]
    go_enter Tryz.func104, Tryz.ntmps104
    go_wp2_with (go_at_call 121; refine (indexFuncRow_c f hf b _ hb).mono ?_; rintro _ _ ⟨i, rfl, h1, h2, hk⟩; replace st := st.call hk; obtain rfl := h1 h; clear h1 h2 hk)
    go_ret
    exact ⟨rfl, st.keep⟩
  · have h' : okB f = false := by simpa using h
    clear h
    rw [h']
    go_enter Tryz.func104, Tryz.ntmps104
    go_wp2_with (go_at_call 121; refine (indexFuncRow_c f hf b _ hb).mono ?_; rintro _ _ ⟨i, rfl, h1, h2, hk⟩; replace st := st.call hk; have h3 := h2 h'; clear h1 h2 hk)
    go_ret
    exact ⟨by simp [*], st.keep⟩
theorem ValidFrame_c (f : List Nat) (hf : f.length = 12) (w : World) :
    Calls Tryz.prog 80 #[.agg (frv f).toArray] w fun e w' => e = .returned (.bool (okB f)) ∧ Keep [] w w' := by
  have st := St.start w
  go_enter Tryz.func80, Tryz.ntmps80
  go_wp2_with (first | ((with_reducible refine gate_box rfl ?_); refine wpl_box rfl _ _ rfl _ rfl _ rfl st ?_; clear st; intro B1 _ st) | (go_at_call 104; refine (containsRow_c f hf _ _ (.of (st.get .here))).mono ?_; rintro _ _ ⟨rfl, hk⟩; replace st := st.call hk; clear hk))
  go_ret
  exact ⟨by simp, st.keep⟩
end Go.Proofs.YtlljflmbnbjccaaGreatDoor
/- The laws' own helpers on books: copied, compared, marked and looked at again; no condition. -/
namespace Go.Proofs.YtlljflmbnbjccaaGreatDoor
open Go.RowKit
set_option linter.unusedSimpArgs false
set_option linter.unusedVariables false

def fil : Fm := ⟨60201 :: List.replicate 11 0, rfl, by simp⟩
theorem built_fil : Tryz.prog.built 72 [(0, .int .u16 60201)] = some (fv fil).toArray := by kernel_rfl
/-- A copied book and the room behind it. -/
def bkC (B : List Fm) : List Fm := B ++ List.replicate (roomN B.length) fil
theorem bkC_length (B : List Fm) : (bkC B).length = B.length + roomN B.length := by simp [bkC]
/-- What a maker of books hands back: a block of its own. -/
def BkOut (B : List Fm) (n cap : Nat) (w : World) (e : Ending) (w' : World) : Prop := ∃ g, e = .returned (.slice (some ⟨g, 0, none⟩) n cap) ∧ w.heap.size ≤ g ∧ Blk w' g (encs fv B) 72 ∧ Keep [] w w'
theorem out_of {w w1 : World} {L : List (Nat × List Value × TypeId)} {g : Nat} {cs : List Value} {E : TypeId} (st : St [] w w1 L) (h : At g cs E L) : w.heap.size ≤ g := by
  rcases st.ge _ h.mem with h | h
  · exact h
  · cases h
theorem Rd.bk {w : World} {g n : Nat} {B : List Fm} {T : TypeId} (h : Blk w g (encs fv (bkC B)) T) : Rd w (some ⟨g, 0, none⟩) n (encs fv B) := by
  unfold bkC at h
  rw [encs_append] at h
  exact .of h
end Go.Proofs.YtlljflmbnbjccaaGreatDoor
/- Frames compared by ==; no condition. -/
namespace Go.Proofs.YtlljflmbnbjccaaGreatDoor
open Go.RowKit
set_option linter.unusedSimpArgs false
set_option linter.unusedVariables false

def eqCells (d : Nat) (E : TypeId) (n : Nat) (xs ys : Array Value) : List Nat → Sem Bool
  | [] => pure true
  | i :: l => do
    let a ← Go.part E xs (i * n)
    let b ← Go.part E ys (i * n)
    let r ← Op.equalIn d E a b
    if (!r) = true then pure false else eqCells d E n xs ys l
section
variable {P : Program} (w : World)
theorem run_equalIn_arr (d : Nat) {T E : TypeId} {n m : Nat} (xs ys : Array Value) (ht : P.underlying T = some (.array m E)) (hs : ∀ w, (sizeOf E).run P w = .ok n w) :
    (Op.equalIn (d + 1) T (.agg xs) (.agg ys)).run P w = (eqCells d E n xs ys (List.range' 0 m)).run P w := by
  simp only [Op.equalIn, Sem.run_bind, run_underlying ht, Result.andThen_ok, hs]
  rw [Std.Legacy.Range.forIn_eq_forIn_range']
  simp only [Std.Legacy.Range.size, Nat.sub_zero, Nat.add_sub_cancel, Nat.div_one]
  generalize List.range' 0 m = l
  induction l generalizing w with
  | nil => simp [eqCells]
  | cons f fs ih =>
    simp only [List.forIn_cons, eqCells, Sem.run_bind, Sem.run_ite]
    generalize (Go.part E xs (f * n)).run P w = r1
    cases r1 with
    | ok a w1 =>
      simp only [Result.andThen_ok]
      generalize (Go.part E ys (f * n)).run P w1 = r2
      cases r2 with
      | ok b w2 =>
        simp only [Result.andThen_ok]
        generalize (Op.equalIn d E a b).run P w2 = r3
        cases r3 with
        | ok r w3 =>
          cases r
          · simp only [Result.andThen_ok, Bool.not_false, if_true, Sem.run_pure]
          · simp only [Result.andThen_ok, Bool.not_true, Bool.false_eq_true, if_false, Sem.run_pure]
            exact ih w3
        | halt x w3 => simp [Result.andThen]
      | halt x w2 => simp [Result.andThen]
    | halt x w1 => simp [Result.andThen]
theorem run_eqCells_u16 (d : Nat) {E : TypeId} (hE : OneT P E (.int .u16 0)) (hu : P.underlying E = some (.int .u16)) (f g : List Nat) (hl : f.length = g.length) : ∀ (m k : Nat), k + m = f.length →
    (eqCells (d + 1) E 1 (frv f).toArray (frv g).toArray (List.range' k m)).run P w = .ok (decide (f.drop k = g.drop k)) w
  | 0, k, hk => by
    rw [List.drop_of_length_le (by omega), List.drop_of_length_le (by omega)]
    simp [eqCells]
  | m + 1, k, hk => by
    have h1 : k < f.length := by omega
    have h2 : k < g.length := by omega
    have e1 : (frv f).toArray[k * 1]? = some (.int .u16 (f[k] : Nat)) := by rw [Nat.mul_one]; simp [frv, h1]
    have e2 : (frv g).toArray[k * 1]? = some (.int .u16 (g[k] : Nat)) := by rw [Nat.mul_one]; simp [frv, h2]
    rw [List.range'_succ]
    simp only [eqCells, Sem.run_bind, Go.part, hE.isAgg w, Result.andThen_ok, Bool.false_eq_true, if_false, e1, e2, Sem.run_pure, run_equalIn_int w d E .u16 .u16 _ _ hu, Sem.run_ite]
    have hd : decide (f.drop k = g.drop k) = (decide (f[k] = g[k]) && decide (f.drop (k + 1) = g.drop (k + 1))) := by
      rw [List.drop_eq_getElem_cons h1, List.drop_eq_getElem_cons h2, Bool.eq_iff_iff]
      simp only [decide_eq_true_eq, Bool.and_eq_true, List.cons.injEq]
    rw [hd]
    by_cases e : f[k] = g[k]
    · rw [run_eqCells_u16 d hE hu f g hl m (k + 1) (by omega)]
      simp [e]
    · have e' : ((f[k] : Int) == (g[k] : Int)) = false := by rw [beq_eq_false_iff_ne]; omega
      simp [e, e']
end
theorem run_eqF {w : World} (x y : Fm) : (binOp .eql 72 (.agg (fv x).toArray) (.agg (fv y).toArray)).run Tryz.prog w = .ok (.bool (decide (x = y))) w := by
  rw [run_eql_struct, run_equalIn_arr w 9999 _ _ tFr.a tFr.e.sizeOf, fv, fv, run_eqCells_u16 w 9998 tU16 Tryz.underlying70 x.1 y.1 (by rw [x.2.len, y.2.len]) 12 0 (by rw [x.2.len])]
  simp [Subtype.ext_iff]
theorem run_neF {w : World} (x y : Fm) : (binOp .neq 72 (.agg (fv x).toArray) (.agg (fv y).toArray)).run Tryz.prog w = .ok (.bool (!decide (x = y))) w := by
  rw [run_neq_struct, run_equalIn_arr w 9999 _ _ tFr.a tFr.e.sizeOf, fv, fv, run_eqCells_u16 w 9998 tU16 Tryz.underlying70 x.1 y.1 (by rw [x.2.len, y.2.len]) 12 0 (by rw [x.2.len])]
  simp [Subtype.ext_iff]
theorem noGuardF : Tryz.prog.eqGuardType Tryz.prog.depth 72 = false := by kernel_rfl
section
variable {ops : Array Oper} {rest : List Oper} {o : Oper} {a : Act} {w : World}
theorem exec_eqF {b : BinOp} (hb : b = .eql ∨ b = .neq) {x y : Operand} {U : TypeId} {X Y : Fm} (ho : o.op = .binOp b 72 x y U) (hx : a.eval x = .agg (fv X).toArray) (hy : a.eval y = .agg (fv Y).toArray) :
    (execOp a.eval o).run Tryz.prog w = .ok (.value (.bool (if b = .eql then decide (X = Y) else !decide (X = Y)))) w := by
  unfold execOp
  rcases hb with rfl | rfl
  · simp only [ho, hx, hy, Sem.run_bind, run_eqGuard_agg _ _ _ _ _ _ _ noGuardF, run_eqF, Result.andThen_ok, Sem.run_pure, if_true]
  · simp only [ho, hx, hy, Sem.run_bind, run_eqGuard_agg _ _ _ _ _ _ _ noGuardF, run_neF, Result.andThen_ok, Sem.run_pure, reduceCtorEq, if_false]
end
section
variable {ops : Array Oper} {rest : List Oper} {o : Oper} {a : Act} {w : World} {Q : Exit → Act → World → Prop}
theorem gate_eq {P : Program} {T U : TypeId} {x y : Operand} (_ho : o.op = .binOp .eql T x y U) (h : wpList P ops Q (o :: rest) a w) : wpList P ops Q (o :: rest) a w := h
theorem gate_ne {P : Program} {T U : TypeId} {x y : Operand} (_ho : o.op = .binOp .neq T x y U) (h : wpList P ops Q (o :: rest) a w) : wpList P ops Q (o :: rest) a w := h
theorem la_eqF {x y : Operand} {U : TypeId} {X Y : Fm} (hgd : o.guard = none) (ho : o.op = .binOp .eql 72 x y U) (hx : a.eval x = .agg (fv X).toArray) (hy : a.eval y = .agg (fv Y).toArray)
    (h1 : X = Y → wpList Tryz.prog ops Q rest (a.put o.dst (.bool true)) w) (h0 : X ≠ Y → wpList Tryz.prog ops Q rest (a.put o.dst (.bool false)) w) : wpList Tryz.prog ops Q (o :: rest) a w := by
  have hr := exec_eqF (w := w) (Or.inl rfl) ho hx hy
  by_cases e : X = Y
  · exact wpl_val hgd (.bool true) (by rw [hr]; simp [e]) (h1 e)
  · exact wpl_val hgd (.bool false) (by rw [hr]; simp [e]) (h0 e)
theorem la_neF {x y : Operand} {U : TypeId} {X Y : Fm} (hgd : o.guard = none) (ho : o.op = .binOp .neq 72 x y U) (hx : a.eval x = .agg (fv X).toArray) (hy : a.eval y = .agg (fv Y).toArray)
    (h1 : X = Y → wpList Tryz.prog ops Q rest (a.put o.dst (.bool false)) w) (h0 : X ≠ Y → wpList Tryz.prog ops Q rest (a.put o.dst (.bool true)) w) : wpList Tryz.prog ops Q (o :: rest) a w := by
  have hr := exec_eqF (w := w) (Or.inr rfl) ho hx hy
  by_cases e : X = Y
  · exact wpl_val hgd (.bool false) (by rw [hr]; simp [e]) (h1 e)
  · exact wpl_val hgd (.bool true) (by rw [hr]; simp [e]) (h0 e)
end
section
variable {ops : Array Oper} {rest : List Oper} {o : Oper} {a : Act} {Q : Act → Prop} {C : World → Prop}
theorem qgate_eq {P : Program} {T U : TypeId} {x y : Operand} (_ho : o.op = .binOp .eql T x y U) (h : wpQuiet P ops C Q (o :: rest) a) : wpQuiet P ops C Q (o :: rest) a := h
theorem qgate_ne {P : Program} {T U : TypeId} {x y : Operand} (_ho : o.op = .binOp .neq T x y U) (h : wpQuiet P ops C Q (o :: rest) a) : wpQuiet P ops C Q (o :: rest) a := h
theorem qa_eqF {x y : Operand} {U : TypeId} {X Y : Fm} (hgd : o.guard = none) (ho : o.op = .binOp .eql 72 x y U) (hx : a.eval x = .agg (fv X).toArray) (hy : a.eval y = .agg (fv Y).toArray)
    (h1 : X = Y → wpQuiet Tryz.prog ops C Q rest (a.put o.dst (.bool true))) (h0 : X ≠ Y → wpQuiet Tryz.prog ops C Q rest (a.put o.dst (.bool false))) : wpQuiet Tryz.prog ops C Q (o :: rest) a := by
  by_cases e : X = Y
  · exact wpq_val hgd (.bool true) (fun w' _ => by rw [exec_eqF (w := w') (Or.inl rfl) ho hx hy]; simp [e]) (h1 e)
  · exact wpq_val hgd (.bool false) (fun w' _ => by rw [exec_eqF (w := w') (Or.inl rfl) ho hx hy]; simp [e]) (h0 e)
theorem qa_neF {x y : Operand} {U : TypeId} {X Y : Fm} (hgd : o.guard = none) (ho : o.op = .binOp .neq 72 x y U) (hx : a.eval x = .agg (fv X).toArray) (hy : a.eval y = .agg (fv Y).toArray)
    (h1 : X = Y → wpQuiet Tryz.prog ops C Q rest (a.put o.dst (.bool false))) (h0 : X ≠ Y → wpQuiet Tryz.prog ops C Q rest (a.put o.dst (.bool true))) : wpQuiet Tryz.prog ops C Q (o :: rest) a := by
  by_cases e : X = Y
  · exact wpq_val hgd (.bool false) (fun w' _ => by rw [exec_eqF (w := w') (Or.inr rfl) ho hx hy]; simp [e]) (h1 e)
  · exact wpq_val hgd (.bool true) (fun w' _ => by rw [exec_eqF (w := w') (Or.inr rfl) ho hx hy]; simp [e]) (h0 e)
end
end Go.Proofs.YtlljflmbnbjccaaGreatDoor
/- Dots put, joined and told: the small functions on frames that write; no condition. -/
namespace Go.Proofs.YtlljflmbnbjccaaGreatDoor
open Go.RowKit
set_option linter.unusedSimpArgs false
set_option linter.unusedVariables false

theorem u16_wrap {n : Int} (h0 : 0 ≤ n) (h1 : n < 65536) : IntKind.u16.wrap n = n := by
  simp [IntKind.wrap, IntKind.bits, IntKind.signed]; omega
theorem bits_u16 (op : BinOp) (a b : Nat) (ha : a < 65536) (hb : b < 65536) (r : Nat) (hr : r < 65536)
    (h : (match op with | .and => BitVec.ofNat 16 a &&& BitVec.ofNat 16 b | .or => BitVec.ofNat 16 a ||| BitVec.ofNat 16 b | .xor => BitVec.ofNat 16 a ^^^ BitVec.ofNat 16 b | _ => BitVec.ofNat 16 a &&& ~~~BitVec.ofNat 16 b).toNat = r) : bits op .u16 a b = r := by
  have e1 : BitVec.ofInt IntKind.u16.bits (a : Int) = BitVec.ofNat 16 a := by simp [IntKind.bits]
  have e2 : BitVec.ofInt IntKind.u16.bits (b : Int) = BitVec.ofNat 16 b := by simp [IntKind.bits]
  unfold bits
  simp only [e1, e2]
  exact (congrArg (fun n : Nat => IntKind.u16.wrap (n : Int)) h).trans (u16_wrap (by omega) (by omega))
theorem or_u16 (a b : Nat) (ha : a < 65536) (hb : b < 65536) : bits .or .u16 a b = ((a ||| b : Nat) : Int) :=
  bits_u16 .or a b ha hb _ (Nat.or_lt_two_pow (n := 16) ha hb) (by simp [Nat.mod_eq_of_lt ha, Nat.mod_eq_of_lt hb])
theorem and_u16 (a b : Nat) (ha : a < 65536) (hb : b < 65536) : bits .and .u16 a b = ((a &&& b : Nat) : Int) :=
  bits_u16 .and a b ha hb _ (Nat.and_lt_two_pow (n := 16) a hb) (by simp [Nat.mod_eq_of_lt ha, Nat.mod_eq_of_lt hb])
theorem xor_u16 (a b : Nat) (ha : a < 65536) (hb : b < 65536) : bits .xor .u16 a b = ((a ^^^ b : Nat) : Int) :=
  bits_u16 .xor a b ha hb _ (Nat.xor_lt_two_pow (n := 16) ha hb) (by simp [Nat.mod_eq_of_lt ha, Nat.mod_eq_of_lt hb])
/-- a without the bits of b. -/
def andNot (a b : Nat) : Nat := a &&& (65535 - b)
theorem andNot_lt (a b : Nat) : andNot a b < 65536 := Nat.and_lt_two_pow (n := 16) a (by omega)
theorem andNot_u16 (a b : Nat) (ha : a < 65536) (hb : b < 65536) : bits .andNot .u16 a b = ((andNot a b : Nat) : Int) :=
  bits_u16 .andNot a b ha hb _ (andNot_lt a b) (by simp [andNot, Nat.mod_eq_of_lt ha, Nat.mod_eq_of_lt hb, BitVec.toNat_not])
theorem testBit_andNot (a b i : Nat) (hb : b < 65536) (hi : i < 16) : (andNot a b).testBit i = (a.testBit i && !b.testBit i) := by
  unfold andNot
  rw [Nat.testBit_and]
  congr 1
  have := Nat.testBit_two_pow_sub_succ (n := 16) hb i
  rw [show (2 : Nat) ^ 16 - (b + 1) = 65535 - b by omega] at this
  rw [this]; simp [hi]

theorem shl_one {x : Nat} (hx : x < 12) : IntKind.u16.wrap (1 * 2 ^ x) = ((2 ^ x : Nat) : Int) := by
  rw [Int.one_mul]
  have h : (2 : Nat) ^ x ≤ 2 ^ 11 := Nat.pow_le_pow_right (by omega) (by omega)
  have e : ((2 : Int) ^ x) = ((2 ^ x : Nat) : Int) := by simp
  rw [e]
  generalize 2 ^ x = n at h ⊢
  exact u16_wrap (by omega) (by omega)
theorem two_pow_lt {x : Nat} (hx : x < 12) : 2 ^ x < 65536 := by
  have h : (2 : Nat) ^ x ≤ 2 ^ 11 := Nat.pow_le_pow_right (by omega) (by omega)
  omega
theorem conv_u64 {x : Nat} (hx : x < 12) : IntKind.u64.wrap (x : Int) = (x : Int) := by
  simp [IntKind.wrap, IntKind.bits, IntKind.signed]; omega

section
variable {P : Program} {T : TypeId}
theorem run_shl1 {k : IntKind} {x : Nat} (hx : x < 12) (w : World) : (binOp .shl T (.int .u16 1) (.int k (x : Int))).run P w = .ok (.int .u16 ((2 ^ x : Nat) : Int)) w := by
  rw [binOp_shl, shift_shl_u16 k 1 (x : Int) (by omega) (by omega), Int.toNat_natCast, shl_one hx]; rfl
theorem run_or {a b : Nat} (ha : a < 65536) (hb : b < 65536) (w : World) : (binOp .or T (.int .u16 a) (.int .u16 b)).run P w = .ok (.int .u16 ((a ||| b : Nat) : Int)) w := by
  rw [binOp_or, intBits_or, or_u16 a b ha hb]; rfl
theorem run_and {a b : Nat} (ha : a < 65536) (hb : b < 65536) (w : World) : (binOp .and T (.int .u16 a) (.int .u16 b)).run P w = .ok (.int .u16 ((a &&& b : Nat) : Int)) w := by
  rw [binOp_and, intBits_and, and_u16 a b ha hb]; rfl
theorem run_xor {a b : Nat} (ha : a < 65536) (hb : b < 65536) (w : World) : (binOp .xor T (.int .u16 a) (.int .u16 b)).run P w = .ok (.int .u16 ((a ^^^ b : Nat) : Int)) w := by
  rw [binOp_xor, intBits_xor, xor_u16 a b ha hb]; rfl
theorem run_andNot {a b : Nat} (ha : a < 65536) (hb : b < 65536) (w : World) : (binOp .andNot T (.int .u16 a) (.int .u16 b)).run P w = .ok (.int .u16 ((andNot a b : Nat) : Int)) w := by
  rw [binOp_andNot, intBits_andNot, andNot_u16 a b ha hb]; rfl
end

theorem placeB_nat {x y : Nat} (hx : x < 12) (hy : y < 12) : placeB x y = true := by
  simp [placeB, inB]; omega
theorem placeB_iff {x y : Int} : placeB x y = true ↔ 0 ≤ x ∧ x < 12 ∧ 0 ≤ y ∧ y < 12 := by
  simp [placeB, inB]; omega
/-- A dot is put, if there is such a place. -/
def putI (f : List Nat) (x y : Int) : List Nat := if placeB x y = true then withD f x.toNat y.toNat else f
set_option maxRecDepth 100000 in
theorem l01Put_in (f : List Nat) (ok : FrOk f) (b : Nat) (T : TypeId) (x y : Nat) (hx : x < 12) (hy : y < 12) (w : World) (hb : Blk w b (frv f) T) :
    Calls Tryz.prog 67 #[.pointer (some ⟨b, 0, none⟩), .int .i64 x, .int .i64 y] w fun e w' => e = .returned (.tuple #[]) ∧ Keep [b] w w' ∧ Blk w' b (frv (withD f x y)) T := by
  have hf := ok.len
  have st := St.start1 hb
  have hp := placeB_nat hx hy
  have hb1 := ok.ro_lt y
  have hcv := hid (conv_u64 hx)
  go_enter Tryz.func67, Tryz.ntmps67
  go_wp2_with (first | (go_at_call 81; refine (l01Place_c _ _ _).mono ?_; rintro _ _ ⟨rfl, hk⟩; replace st := st.call hk; clear hk))
  (refine wp_region_tail_st st 13 (by kernel_rfl) (by kernel_rfl) ?_; clear st; simp only [List.take_succ_cons, List.take_zero, List.drop_succ_cons, List.drop_zero]; (repeat ((first | (refine wpq_move rfl _ rfl _ rfl ?_) | (refine wpq_nil rfl _ rfl _ rfl ?_) | ((with_reducible refine qgate_addr rfl ?_); refine wpq_indexAddr0 rfl _ _ _ rfl _ rfl _ _ rfl tFr y rfl hy ?_) | ((with_reducible refine qgate_load rfl ?_); refine wpq_load1 rfl _ _ rfl _ rfl tU16 _ (fun _ hw => (hw.get (by repeat (first | exact At.here | apply At.there))).cellv (frv_get _ _ (by omega))) ?_) | ((with_reducible refine qgate_conv rfl ?_); refine wpq_conv rfl _ _ _ rfl _ _ _ _ rfl rfl (by kernel_rfl) hcv.out ?_) | ((with_reducible refine qgate_dst (N := 18) rfl ?_); ((with_reducible refine qgate_bin rfl ?_); refine wpq_bin rfl _ _ _ _ _ rfl _ _ _ _ rfl rfl (.int .u16 ((2 ^ x : Nat) : Int)) (fun w' => run_shl1 hx w') ?_)) | ((with_reducible refine qgate_dst (N := 19) rfl ?_); ((with_reducible refine qgate_bin rfl ?_); refine wpq_bin rfl _ _ _ _ _ rfl _ _ _ _ rfl rfl (.int .u16 ((ro f y ||| 2 ^ x : Nat) : Int)) (fun w' => run_or hb1 (two_pow_lt hx) w') ?_))); (simp only [Act.put, Act.eval, Array.getD_eq_getD_getElem?, List.getElem?_toArray, List.getElem?_cons_succ, List.getElem?_cons_zero, Option.getD_some, List.setIfInBounds_toArray, List.set_cons_succ, List.set_cons_zero, List.getElem_toArray, List.getElem_cons_succ, List.getElem_cons_zero]))); refine wpQuiet_nil ?_; intro _ st)
  go_wp2_with (first | ((with_reducible refine gate_store rfl ?_); refine wpl_store1 rfl _ _ _ rfl _ _ rfl (.int .u16 _) rfl tU16 rfl rfl st _ _ (by repeat (first | exact Upd.here | apply Upd.there)) (by rw [frv_length]; omega) ?_; rw [frv_set];clear st; intro _ st))
  go_end0
  exact ⟨rfl, st.keep1⟩
theorem l01Put_c (f : List Nat) (ok : FrOk f) (b : Nat) (T : TypeId) (x y : Int) (w : World) (hb : Blk w b (frv f) T) :
    Calls Tryz.prog 67 #[.pointer (some ⟨b, 0, none⟩), .int .i64 x, .int .i64 y] w fun e w' => e = .returned (.tuple #[]) ∧ Keep [b] w w' ∧ Blk w' b (frv (putI f x y)) T := by
  by_cases hp : placeB x y = true
  · obtain ⟨h1, h2, h3, h4⟩ := placeB_iff.1 hp
    have := l01Put_in f ok b T x.toNat y.toNat (by omega) (by omega) w hb
    rw [Int.toNat_of_nonneg h1, Int.toNat_of_nonneg h3] at this
    unfold putI
    rw [if_pos hp]
    exact this
  · have hp' : placeB x y = false := by simpa using hp
    have st := St.start1 hb
    unfold putI
    rw [if_neg hp]
    clear hp
    go_enter Tryz.func67, Tryz.ntmps67
    go_wp2_with (first | (go_at_call 81; refine (l01Place_c _ _ _).mono ?_; rintro _ _ ⟨rfl, hk⟩; replace st := st.call hk; clear hk))
    go_end0
    exact ⟨rfl, st.keep1⟩

theorem ret_bool {a b : Bool} (h : a = b) : Ending.returned (.bool a) = .returned (.bool b) := by rw [h]
theorem ret_int {k : IntKind} {a b : Int} (h : a = b) : Ending.returned (.int k a) = .returned (.int k b) := by rw [h]
theorem hasI_yes (f : List Nat) {x y : Nat} (hx : x < 12) (hy : y < 12) : hasI f x y = (ro f y).testBit x := by
  rw [hasI_nat, hasD_in f hx hy]
theorem hasI_no (f : List Nat) {x y : Int} (h : placeB x y = false) : hasI f x y = false := by
  have : ¬ (0 ≤ x ∧ x < 12 ∧ 0 ≤ y ∧ y < 12) := fun h' => by rw [placeB_iff.2 h'] at h; cases h
  simp [hasI, this]
theorem has_rem (r x : Nat) : (((r : Int) / 2 ^ x).tmod 2 == 1) = r.testBit x := by
  have e : ((r : Int) / 2 ^ x) = ((r / 2 ^ x : Nat) : Int) := by simp
  rw [e, Int.tmod_eq_emod_of_nonneg (Int.natCast_nonneg _), Nat.testBit_eq_decide_div_mod_eq]
  rw [Bool.eq_iff_iff]; simp; omega
theorem has_and (r x : Nat) (hr : r < 65536) : (bits .and .u16 ((r : Int) / 2 ^ x) 1 == 1) = r.testBit x := by
  have e : ((r : Int) / 2 ^ x) = ((r / 2 ^ x : Nat) : Int) := by simp
  have h1 : r / 2 ^ x < 65536 := Nat.lt_of_le_of_lt (Nat.div_le_self _ _) hr
  have h2 := and_u16 (r / 2 ^ x) 1 h1 (by omega)
  rw [e, show ((1 : Int)) = ((1 : Nat) : Int) from rfl, h2, Nat.and_one_is_mod, Nat.testBit_eq_decide_div_mod_eq]
  rw [Bool.eq_iff_iff]; simp; omega
theorem l01Has_c (f : List Nat) (ok : FrOk f) (b o : Nat) (x y : Int) (w : World) (hb : Cl w b o (frv f)) :
    Calls Tryz.prog 82 #[.pointer (some ⟨b, o, none⟩), .int .i64 x, .int .i64 y] w fun e w' => e = .returned (.bool (hasI f x y)) ∧ Keep [] w w' := by
  have hf := ok.len
  have st := St.start w
  by_cases hp : placeB x y = true
  · obtain ⟨h1, h2, h3, h4⟩ := placeB_iff.1 hp
    obtain ⟨x, rfl⟩ : ∃ n : Nat, x = n := ⟨x.toNat, by omega⟩
    obtain ⟨y, rfl⟩ : ∃ n : Nat, y = n := ⟨y.toNat, by omega⟩
    have hx : x < 12 := by omega
    have hy : y < 12 := by omega
    clear h1 h2 h3 h4
    have hb1 := ok.ro_lt y
    have hcv := conv_u64 hx
    go_enter Tryz.func82, Tryz.ntmps82
    go_wp2_with (first | (refine wpl_unguard rfl ?_) | (go_at_call 81; refine (l01Place_c _ _ _).mono ?_; rintro _ _ ⟨rfl, hk⟩; replace st := st.call hk; clear hk) | ((with_reducible refine gate_addr rfl ?_); refine wpl_indexAddr rfl _ _ rfl _ _ rfl _ _ rfl tFr y rfl hy ?_) | ((with_reducible refine gate_load rfl ?_); refine wpl_load1 rfl _ _ rfl _ rfl tU16 _ ((hb.keep st.keep (by simp)).cellv (frv_get _ _ (by omega))) ?_))
    go_ret
    exact ⟨ret_bool (by rw [has_rem, hasI_yes f hx hy]), st.keep⟩
  · have hp' : placeB x y = false := by simpa using hp
    clear hp
    go_enter Tryz.func82, Tryz.ntmps82
    go_wp2_with (first | (go_at_call 81; refine (l01Place_c _ _ _).mono ?_; rintro _ _ ⟨rfl, hk⟩; replace st := st.call hk; clear hk))
    go_ret
    exact ⟨ret_bool (hasI_no f hp').symm, st.keep⟩
/-- A closure that tells of each place whether p is true there, in every world that keeps what w holds. -/
def Tells (fv : Value) (p : Nat → Nat → Bool) (w : World) : Prop :=
  ∃ (F : FuncId) (fn : Func) (cap : Array Value), fv = .func (.func F) #[] cap ∧ Tryz.prog.funcs[F]? = some fn ∧ (fn.name == "runtime.NumGoroutine") = false ∧ fn.body.isNone = false ∧
    ∀ (x y : Nat) (w1 : World), x < 12 → y < 12 → Keep [] w w1 → Calls Tryz.prog F (#[.int .i64 x, .int .i64 y] ++ cap) w1 fun e w' => e = .returned (.bool (p x y)) ∧ Keep [] w1 w'
end Go.Proofs.YtlljflmbnbjccaaGreatDoor
/- Books compared, and valid books: the reference and the program; no condition. -/
namespace Go.Proofs.YtlljflmbnbjccaaGreatDoor
open Go.RowKit
set_option linter.unusedSimpArgs false
set_option linter.unusedVariables false

theorem same_no {A B : List Fm} {k : Nat} (hA : k < A.length) (hB : k < B.length) (h : A[k] ≠ B[k]) : decide (A = B) = false := by
  rw [decide_eq_false_iff_not]
  intro e
  subst e
  exact h rfl
theorem same_yes {A B : List Fm} {n : Nat} (hA : A.length = n) (hB : B.length = n) (h : ∀ j (h1 : j < A.length) (h2 : j < B.length), j < n → A[j] = B[j]) : decide (A = B) = true := by
  rw [decide_eq_true_eq]
  exact List.ext_getElem (by omega) fun j h1 h2 => h j h1 h2 (by omega)
def SameTo (A B : List Fm) (k : Nat) : Prop := ∀ j (h1 : j < A.length) (h2 : j < B.length), j < k → A[j] = B[j]
theorem SameTo.step {A B : List Fm} {k : Nat} (h : SameTo A B k) (hA : k < A.length) (hB : k < B.length) (e : A[k] = B[k]) : SameTo A B (k + 1) := fun j h1 h2 hj => by
  by_cases hk : j = k
  · subst hk; exact e
  · exact h j h1 h2 (by omega)

set_option maxHeartbeats 1000000 in
set_option maxRecDepth 100000 in
theorem l02Same_c (A B : List Fm) (n m : Nat) (hA : A.length = n) (hB : B.length = m) (hn : n ≤ 4000000) (hm : m ≤ 4000000) (p p' : Option Addr) (c c' : Nat) (w : World) (hr : Rd w p n (encs fv A)) (hr' : Rd w p' m (encs fv B)) :
    Calls Tryz.prog 44 #[.slice p n c, .slice p' m c'] w fun e w' => e = .returned (.bool (decide (A = B))) ∧ Keep [] w w' := by
  have st := St.start w
  replace hA := hid hA
  replace hB := hid hB
  by_cases hnm : n = m
  · subst hnm
    go_enter Tryz.func44, Tryz.ntmps44
    go_wp2_with (first | ((with_reducible refine gate_lst ?_); (first | ((with_reducible refine gate_load rfl ?_); (first | (refine ia_loadAll st rfl rfl rfl ?_ ?_; (focus (first | rfl | (simp; done) | (simp; assumption) | (simp; omega) | (simp [*]; done)))) | (refine ia_loadC (hb.keep st.keep (by simp)) rfl rfl rfl ?_ ?_; (focus (first | rfl | (simp; done) | (simp; assumption) | (simp; omega) | (simp [*]; done)))) | (refine ia_loadC (hb'.keep st.keep (by simp)) rfl rfl rfl ?_ ?_; (focus (first | rfl | (simp; done) | (simp; assumption) | (simp; omega) | (simp [*]; done)))) | (refine ia_loadC (Cl.of (hb1.keep st.keep (by simp))) rfl rfl rfl ?_ ?_; (focus (first | rfl | (simp; done) | (simp; assumption) | (simp; omega) | (simp [*]; done)))) | (refine ia_loadC (Cl.of (hb2.keep st.keep (by simp))) rfl rfl rfl ?_ ?_; (focus (first | rfl | (simp; done) | (simp; assumption) | (simp; omega) | (simp [*]; done)))))) | ((with_reducible refine gate_addr rfl ?_); (first | (refine' ia_slcP HP.out rfl rfl rfl rfl ?_ ?_ ?_) | (refine' ia_slcP HP2.out rfl rfl rfl rfl ?_ ?_ ?_)); rotate_left 1; (focus (first | exact (rfl : (0 : Int) = ((0 : Nat) : Int)) | exact (rfl : (1 : Int) = ((1 : Nat) : Int)) | exact rfl | exact HE1.out | exact HE2.out)); (focus (first | omega | (simp; done) | (simp; omega) | (simp [*]; omega)))))) | ((with_reducible refine qgate_nil ?_); refine wpQuiet_nil ?_; (try intro _ st)) | ((with_reducible refine qgate_any ?_); (first | ((first | (with_reducible refine qg_move rfl ?_)); refine qa_val (fun _ _ => rfl) rfl ?_) | ((with_reducible refine qgate_load rfl ?_); (first | (refine iq_loadAll rfl rfl rfl ?_ ?_; (focus (first | rfl | (simp; done) | (simp; assumption) | (simp; omega) | (simp [*]; done)))) | (refine iq_loadC hb rfl rfl rfl ?_ ?_; (focus (first | rfl | (simp; done) | (simp; assumption) | (simp; omega) | (simp [*]; done)))) | (refine iq_loadC hb' rfl rfl rfl ?_ ?_; (focus (first | rfl | (simp; done) | (simp; assumption) | (simp; omega) | (simp [*]; done)))))) | ((with_reducible refine qgate_addr rfl ?_); (first | (refine' iq_slc rfl rfl rfl rfl ?_ ?_ ?_) | (refine' iq_slcP HP.out rfl rfl rfl rfl ?_ ?_ ?_) | (refine' iq_slcP HP2.out rfl rfl rfl rfl ?_ ?_ ?_) | (refine' iq_arr rfl rfl rfl rfl ?_ ?_ ?_)); rotate_left 1; (focus (first | exact (rfl : (0 : Int) = ((0 : Nat) : Int)) | exact (rfl : (1 : Int) = ((1 : Nat) : Int)) | exact rfl | exact HE1.out | exact HE2.out)); (focus (first | omega | (simp; done) | (simp; omega) | (simp [*]; omega)))) | ((with_reducible refine qgate_bin rfl ?_); refine' qa_bin ?_ rfl rfl rfl rfl ?_; rotate_left 1; (focus (first | exact run_add64 (by omega) (by omega) | exact run_sub64 (by omega) (by omega) | (intro w'; go_simp; exact rfl))))); all_goals (try (simp only [Nat.zero_add, Nat.add_zero, Nat.mul_one, Nat.zero_mul, Act.put, Act.eval, Array.getD_eq_getD_getElem?, List.getElem?_toArray, List.getElem?_cons_succ, List.getElem?_cons_zero, Option.getD_some, List.setIfInBounds_toArray, List.set_cons_succ, List.set_cons_zero, List.getElem_toArray, List.getElem_cons_succ, List.getElem_cons_zero]))) | ((with_reducible refine rgate (id := 6) ?_); refine wp_region_quiet_st (id := 6) st (by kernel_rfl) (by kernel_rfl) ?_; clear st))
    go_loopw [5] (fun i wr => ∃ k : Nat, k ≤ n ∧ i = .int .i64 k ∧ SameTo A B k ∧ St [] w wr []) (fun i _ => n - (intOf i).toNat)
    case atStart => exact ⟨0, by omega, rfl, fun _ _ _ h => absurd h (by omega), st⟩
    case round =>
      clear st
      obtain ⟨k, hk, rfl, hs, st⟩ := hrel
      replace hs := hid hs
      by_cases hlt : k < n
      · have hd : decide ((k : Int) < (n : Int)) = true := by simpa using hlt
        obtain ⟨b, f, hp, hcl⟩ := hr (by omega)
        obtain ⟨b', f', hp', hcl'⟩ := hr' (by omega)
        have HP := hid hp
        have HP2 := hid hp'
        have hkA : k < A.length := by rw [hA.out]; exact hlt
        have hkB : k < B.length := by rw [hB.out]; exact hlt
        have hb := hcl.seg fv_len hkA
        have hb' := hcl'.seg fv_len hkB
        have HS := hid (hs.out.step hkA hkB)
        have HN := hid (same_no hkA hkB)
        obtain ⟨x, hx⟩ : ∃ x, A[k] = x := ⟨_, rfl⟩
        obtain ⟨y, hy⟩ : ∃ y, B[k] = y := ⟨_, rfl⟩
        rw [hx] at hb HS HN
        rw [hy] at hb' HS HN
        clear hx hy hp hcl hp' hcl' hkA hkB
        go_wp2_with (first | ((with_reducible refine gate_lst ?_); (first | ((with_reducible refine gate_load rfl ?_); (first | (refine ia_loadAll st rfl rfl rfl ?_ ?_; (focus (first | rfl | (simp; done) | (simp; assumption) | (simp; omega) | (simp [*]; done)))) | (refine ia_loadC (hb.keep st.keep (by simp)) rfl rfl rfl ?_ ?_; (focus (first | rfl | (simp; done) | (simp; assumption) | (simp; omega) | (simp [*]; done)))) | (refine ia_loadC (hb'.keep st.keep (by simp)) rfl rfl rfl ?_ ?_; (focus (first | rfl | (simp; done) | (simp; assumption) | (simp; omega) | (simp [*]; done)))) | (refine ia_loadC (Cl.of (hb1.keep st.keep (by simp))) rfl rfl rfl ?_ ?_; (focus (first | rfl | (simp; done) | (simp; assumption) | (simp; omega) | (simp [*]; done)))) | (refine ia_loadC (Cl.of (hb2.keep st.keep (by simp))) rfl rfl rfl ?_ ?_; (focus (first | rfl | (simp; done) | (simp; assumption) | (simp; omega) | (simp [*]; done)))))) | ((with_reducible refine gate_addr rfl ?_); (first | (refine' ia_slcP HP.out rfl rfl rfl rfl ?_ ?_ ?_) | (refine' ia_slcP HP2.out rfl rfl rfl rfl ?_ ?_ ?_)); rotate_left 1; (focus (first | exact (rfl : (0 : Int) = ((0 : Nat) : Int)) | exact (rfl : (1 : Int) = ((1 : Nat) : Int)) | exact rfl | exact HE1.out | exact HE2.out)); (focus (first | omega | (simp; done) | (simp; omega) | (simp [*]; omega)))))) | ((with_reducible refine qgate_nil ?_); refine wpQuiet_nil ?_; (try intro _ st)) | ((with_reducible refine qgate_any ?_); (first | ((with_reducible refine qgate_ne (P := Tryz.prog) rfl ?_); refine qa_neF rfl rfl rfl rfl ?_ ?_ <;> (intro hE; (simp only [Nat.zero_add, Nat.add_zero, Nat.mul_one, Nat.zero_mul, Act.put, Act.eval, Array.getD_eq_getD_getElem?, List.getElem?_toArray, List.getElem?_cons_succ, List.getElem?_cons_zero, Option.getD_some, List.setIfInBounds_toArray, List.set_cons_succ, List.set_cons_zero, List.getElem_toArray, List.getElem_cons_succ, List.getElem_cons_zero]))) | ((first | (with_reducible refine qg_move rfl ?_)); refine qa_val (fun _ _ => rfl) rfl ?_) | ((with_reducible refine qgate_load rfl ?_); (first | (refine iq_loadAll rfl rfl rfl ?_ ?_; (focus (first | rfl | (simp; done) | (simp; assumption) | (simp; omega) | (simp [*]; done)))) | (refine iq_loadC hb rfl rfl rfl ?_ ?_; (focus (first | rfl | (simp; done) | (simp; assumption) | (simp; omega) | (simp [*]; done)))) | (refine iq_loadC hb' rfl rfl rfl ?_ ?_; (focus (first | rfl | (simp; done) | (simp; assumption) | (simp; omega) | (simp [*]; done)))))) | ((with_reducible refine qgate_addr rfl ?_); (first | (refine' iq_slc rfl rfl rfl rfl ?_ ?_ ?_) | (refine' iq_slcP HP.out rfl rfl rfl rfl ?_ ?_ ?_) | (refine' iq_slcP HP2.out rfl rfl rfl rfl ?_ ?_ ?_) | (refine' iq_arr rfl rfl rfl rfl ?_ ?_ ?_)); rotate_left 1; (focus (first | exact (rfl : (0 : Int) = ((0 : Nat) : Int)) | exact (rfl : (1 : Int) = ((1 : Nat) : Int)) | exact rfl | exact HE1.out | exact HE2.out)); (focus (first | omega | (simp; done) | (simp; omega) | (simp [*]; omega)))) | ((with_reducible refine qgate_bin rfl ?_); refine' qa_bin ?_ rfl rfl rfl rfl ?_; rotate_left 1; (focus (first | exact run_add64 (by omega) (by omega) | exact run_sub64 (by omega) (by omega) | (intro w'; go_simp; exact rfl))))); all_goals (try (simp only [Nat.zero_add, Nat.add_zero, Nat.mul_one, Nat.zero_mul, Act.put, Act.eval, Array.getD_eq_getD_getElem?, List.getElem?_toArray, List.getElem?_cons_succ, List.getElem?_cons_zero, Option.getD_some, List.setIfInBounds_toArray, List.set_cons_succ, List.set_cons_zero, List.getElem_toArray, List.getElem_cons_succ, List.getElem_cons_zero]))) | ((with_reducible refine rgate (id := 6) ?_); refine wp_region_quiet_st (id := 6) st (by kernel_rfl) (by kernel_rfl) ?_; clear st))
        · go_roundw
          case rel => exact ⟨k + 1, by omega, by go_num, HS.out hE, st⟩
          case measure => simp [intOf]; omega
        · go_ret
          exact ⟨ret_bool (HN.out hE).symm, st.keep⟩
      · obtain rfl : k = n := by omega
        go_wp2_with (first | ((with_reducible refine gate_lst ?_); (first | ((with_reducible refine gate_load rfl ?_); (first | (refine ia_loadAll st rfl rfl rfl ?_ ?_; (focus (first | rfl | (simp; done) | (simp; assumption) | (simp; omega) | (simp [*]; done)))) | (refine ia_loadC (hb.keep st.keep (by simp)) rfl rfl rfl ?_ ?_; (focus (first | rfl | (simp; done) | (simp; assumption) | (simp; omega) | (simp [*]; done)))) | (refine ia_loadC (hb'.keep st.keep (by simp)) rfl rfl rfl ?_ ?_; (focus (first | rfl | (simp; done) | (simp; assumption) | (simp; omega) | (simp [*]; done)))) | (refine ia_loadC (Cl.of (hb1.keep st.keep (by simp))) rfl rfl rfl ?_ ?_; (focus (first | rfl | (simp; done) | (simp; assumption) | (simp; omega) | (simp [*]; done)))) | (refine ia_loadC (Cl.of (hb2.keep st.keep (by simp))) rfl rfl rfl ?_ ?_; (focus (first | rfl | (simp; done) | (simp; assumption) | (simp; omega) | (simp [*]; done)))))) | ((with_reducible refine gate_addr rfl ?_); (first | (refine' ia_slcP HP.out rfl rfl rfl rfl ?_ ?_ ?_) | (refine' ia_slcP HP2.out rfl rfl rfl rfl ?_ ?_ ?_)); rotate_left 1; (focus (first | exact (rfl : (0 : Int) = ((0 : Nat) : Int)) | exact (rfl : (1 : Int) = ((1 : Nat) : Int)) | exact rfl | exact HE1.out | exact HE2.out)); (focus (first | omega | (simp; done) | (simp; omega) | (simp [*]; omega)))))) | ((with_reducible refine qgate_nil ?_); refine wpQuiet_nil ?_; (try intro _ st)) | ((with_reducible refine qgate_any ?_); (first | ((first | (with_reducible refine qg_move rfl ?_)); refine qa_val (fun _ _ => rfl) rfl ?_) | ((with_reducible refine qgate_load rfl ?_); (first | (refine iq_loadAll rfl rfl rfl ?_ ?_; (focus (first | rfl | (simp; done) | (simp; assumption) | (simp; omega) | (simp [*]; done)))) | (refine iq_loadC hb rfl rfl rfl ?_ ?_; (focus (first | rfl | (simp; done) | (simp; assumption) | (simp; omega) | (simp [*]; done)))) | (refine iq_loadC hb' rfl rfl rfl ?_ ?_; (focus (first | rfl | (simp; done) | (simp; assumption) | (simp; omega) | (simp [*]; done)))))) | ((with_reducible refine qgate_addr rfl ?_); (first | (refine' iq_slc rfl rfl rfl rfl ?_ ?_ ?_) | (refine' iq_slcP HP.out rfl rfl rfl rfl ?_ ?_ ?_) | (refine' iq_slcP HP2.out rfl rfl rfl rfl ?_ ?_ ?_) | (refine' iq_arr rfl rfl rfl rfl ?_ ?_ ?_)); rotate_left 1; (focus (first | exact (rfl : (0 : Int) = ((0 : Nat) : Int)) | exact (rfl : (1 : Int) = ((1 : Nat) : Int)) | exact rfl | exact HE1.out | exact HE2.out)); (focus (first | omega | (simp; done) | (simp; omega) | (simp [*]; omega)))) | ((with_reducible refine qgate_bin rfl ?_); refine' qa_bin ?_ rfl rfl rfl rfl ?_; rotate_left 1; (focus (first | exact run_add64 (by omega) (by omega) | exact run_sub64 (by omega) (by omega) | (intro w'; go_simp; exact rfl))))); all_goals (try (simp only [Nat.zero_add, Nat.add_zero, Nat.mul_one, Nat.zero_mul, Act.put, Act.eval, Array.getD_eq_getD_getElem?, List.getElem?_toArray, List.getElem?_cons_succ, List.getElem?_cons_zero, Option.getD_some, List.setIfInBounds_toArray, List.set_cons_succ, List.set_cons_zero, List.getElem_toArray, List.getElem_cons_succ, List.getElem_cons_zero]))) | ((with_reducible refine rgate (id := 6) ?_); refine wp_region_quiet_st (id := 6) st (by kernel_rfl) (by kernel_rfl) ?_; clear st))
        go_ret
        exact ⟨ret_bool (same_yes hA.out hB.out hs.out).symm, st.keep⟩
  · have hne : decide (A = B) = false := by
      rw [decide_eq_false_iff_not]; intro e; apply hnm; rw [← hA.out, ← hB.out, e]
    have hni : ¬ (n : Int) = (m : Int) := by omega
    rw [hne]
    go_enter Tryz.func44, Tryz.ntmps44
    go_wp2_with (first | ((with_reducible refine gate_lst ?_); (first | ((with_reducible refine gate_load rfl ?_); (first | (refine ia_loadAll st rfl rfl rfl ?_ ?_; (focus (first | rfl | (simp; done) | (simp; assumption) | (simp; omega) | (simp [*]; done)))) | (refine ia_loadC (hb.keep st.keep (by simp)) rfl rfl rfl ?_ ?_; (focus (first | rfl | (simp; done) | (simp; assumption) | (simp; omega) | (simp [*]; done)))) | (refine ia_loadC (hb'.keep st.keep (by simp)) rfl rfl rfl ?_ ?_; (focus (first | rfl | (simp; done) | (simp; assumption) | (simp; omega) | (simp [*]; done)))) | (refine ia_loadC (Cl.of (hb1.keep st.keep (by simp))) rfl rfl rfl ?_ ?_; (focus (first | rfl | (simp; done) | (simp; assumption) | (simp; omega) | (simp [*]; done)))) | (refine ia_loadC (Cl.of (hb2.keep st.keep (by simp))) rfl rfl rfl ?_ ?_; (focus (first | rfl | (simp; done) | (simp; assumption) | (simp; omega) | (simp [*]; done)))))) | ((with_reducible refine gate_addr rfl ?_); (first | (refine' ia_slcP HP.out rfl rfl rfl rfl ?_ ?_ ?_) | (refine' ia_slcP HP2.out rfl rfl rfl rfl ?_ ?_ ?_)); rotate_left 1; (focus (first | exact (rfl : (0 : Int) = ((0 : Nat) : Int)) | exact (rfl : (1 : Int) = ((1 : Nat) : Int)) | exact rfl | exact HE1.out | exact HE2.out)); (focus (first | omega | (simp; done) | (simp; omega) | (simp [*]; omega)))))) | ((with_reducible refine qgate_nil ?_); refine wpQuiet_nil ?_; (try intro _ st)) | ((with_reducible refine qgate_any ?_); (first | ((first | (with_reducible refine qg_move rfl ?_)); refine qa_val (fun _ _ => rfl) rfl ?_) | ((with_reducible refine qgate_load rfl ?_); (first | (refine iq_loadAll rfl rfl rfl ?_ ?_; (focus (first | rfl | (simp; done) | (simp; assumption) | (simp; omega) | (simp [*]; done)))) | (refine iq_loadC hb rfl rfl rfl ?_ ?_; (focus (first | rfl | (simp; done) | (simp; assumption) | (simp; omega) | (simp [*]; done)))) | (refine iq_loadC hb' rfl rfl rfl ?_ ?_; (focus (first | rfl | (simp; done) | (simp; assumption) | (simp; omega) | (simp [*]; done)))))) | ((with_reducible refine qgate_addr rfl ?_); (first | (refine' iq_slc rfl rfl rfl rfl ?_ ?_ ?_) | (refine' iq_slcP HP.out rfl rfl rfl rfl ?_ ?_ ?_) | (refine' iq_slcP HP2.out rfl rfl rfl rfl ?_ ?_ ?_) | (refine' iq_arr rfl rfl rfl rfl ?_ ?_ ?_)); rotate_left 1; (focus (first | exact (rfl : (0 : Int) = ((0 : Nat) : Int)) | exact (rfl : (1 : Int) = ((1 : Nat) : Int)) | exact rfl | exact HE1.out | exact HE2.out)); (focus (first | omega | (simp; done) | (simp; omega) | (simp [*]; omega)))) | ((with_reducible refine qgate_bin rfl ?_); refine' qa_bin ?_ rfl rfl rfl rfl ?_; rotate_left 1; (focus (first | exact run_add64 (by omega) (by omega) | exact run_sub64 (by omega) (by omega) | (intro w'; go_simp; exact rfl))))); all_goals (try (simp only [Nat.zero_add, Nat.add_zero, Nat.mul_one, Nat.zero_mul, Act.put, Act.eval, Array.getD_eq_getD_getElem?, List.getElem?_toArray, List.getElem?_cons_succ, List.getElem?_cons_zero, Option.getD_some, List.setIfInBounds_toArray, List.set_cons_succ, List.set_cons_zero, List.getElem_toArray, List.getElem_cons_succ, List.getElem_cons_zero]))) | ((with_reducible refine rgate (id := 6) ?_); refine wp_region_quiet_st (id := 6) st (by kernel_rfl) (by kernel_rfl) ?_; clear st))
    go_ret
    exact ⟨rfl, st.keep⟩
end Go.Proofs.YtlljflmbnbjccaaGreatDoor
/- Row by row: inverted, met, joined, cut out, flipped; no condition. -/
namespace Go.Proofs.YtlljflmbnbjccaaGreatDoor
open Go.RowKit
set_option linter.unusedSimpArgs false
set_option linter.unusedVariables false

theorem run_sub4095 {P : Program} {T : TypeId} {a : Nat} (ha : a < 4096) (w : World) : (binOp .sub T (.int .u16 4095) (.int .u16 a)).run P w = .ok (.int .u16 ((4095 - a : Nat) : Int)) w := by
  have e : IntKind.u16.wrap (4095 - (a : Int)) = ((4095 - a : Nat) : Int) := by rw [u16_wrap (by omega) (by omega)]; omega
  go_simp
theorem part_get (h : Nat → Nat) (base : List Nat) (y k : Nat) (hk : k < 12) (hy : y ≤ k) : (frv (part h base y))[k]? = some (.int .u16 (ro base k : Nat)) := by
  rw [frv_get _ _ (by rw [part_length]; exact hk), ro_part _ _ _ _ hk, if_neg (by omega)]
/-- A closure that tells a row of two. -/
def Rows2 (fv : Value) (g : Nat → Nat → Nat) : Prop :=
  ∃ (F : FuncId) (fn : Func), fv = .func (.func F) #[] #[] ∧ Tryz.prog.funcs[F]? = some fn ∧ (fn.name == "runtime.NumGoroutine") = false ∧ fn.body.isNone = false ∧
    ∀ (a b : Nat) (w : World), a < 65536 → b < 65536 → Calls Tryz.prog F #[.int .u16 a, .int .u16 b] w fun e w' => e = .returned (.int .u16 (g a b : Nat)) ∧ Keep [] w w'
def mixR (k : Nat → Nat → Nat) (f g : List Nat) : List Nat := rowsOf fun y => k (ro f y) (ro g y)
def mixOp (k : Nat → Nat → Nat) (f g : List Nat) (w : World) (e : Ending) (w' : World) : Prop := e = .returned (.agg (frv (mixR k f g)).toArray) ∧ Keep [] w w'
theorem mixR_length (k : Nat → Nat → Nat) (f g : List Nat) : (mixR k f g).length = 12 := rowsOf_length _
/-! ### Invert -/
/-- The code of a question about one frame. -/
def codeF (f : List Nat) : Int := if okB f = true then 0 else 1
theorem codeF_0 {f : List Nat} (h : okB f = true) : codeF f = 0 := by simp [codeF, h]
theorem codeF_1 {f : List Nat} (h : okB f = false) : codeF f = 1 := by simp [codeF, h]
def invR (f : List Nat) : List Nat := if okB f = true then rowsOf (fun y => 4095 - ro f y) else zf
theorem invR_ok {f : List Nat} (ok : FrOk f) : FrOk (invR f) := by
  unfold invR
  split
  · exact rowsOf_ok fun y _ => by omega
  · exact zf_ok
end Go.Proofs.YtlljflmbnbjccaaGreatDoor
/- Two frames: both valid, met, joined, cut out; no condition. -/
namespace Go.Proofs.YtlljflmbnbjccaaGreatDoor
open Go.RowKit
set_option linter.unusedSimpArgs false
set_option linter.unusedVariables false

/-- The code of a question about two frames. -/
def codeG (f g : List Nat) : Int := if okB f = true ∧ okB g = true then 0 else 1
theorem codeG_0 {f g : List Nat} (h : okB f = true) (h' : okB g = true) : codeG f g = 0 := by simp [codeG, h, h']
theorem codeG_1 {f g : List Nat} (h : okB f = false) : codeG f g = 1 := by simp [codeG, h]
theorem codeG_2 {f g : List Nat} (h : okB g = false) : codeG f g = 1 := by simp [codeG, h]
theorem codeG_ok {f g : List Nat} (h : codeG f g = 0) : okB f = true ∧ okB g = true := by
  unfold codeG at h
  split at h
  · assumption
  · cases h
theorem l01Ok_v {f : List Nat} {v : Bool} (h : okB f = v) (hf : f.length = 12) (b o : Nat) (w : World) (hb : Cl w b o (frv f)) :
    Calls Tryz.prog 65 #[.pointer (some ⟨b, o, none⟩)] w fun e w' => e = .returned (.bool v) ∧ Keep [] w w' := by
  subst h; exact l01Ok_c f hf b o w hb
/-! ### Lists of frames in memory -/
def fsv (fs : List (List Nat)) : List Value := fs.flatMap frv
theorem fsv_append (fs gs : List (List Nat)) : fsv (fs ++ gs) = fsv fs ++ fsv gs := by simp [fsv]
theorem fsv_length {fs : List (List Nat)} (hl : ∀ f ∈ fs, f.length = 12) : (fsv fs).length = fs.length * 12 := by
  induction fs with
  | nil => rfl
  | cons f fs ih =>
    have h1 := hl f (by simp)
    have h2 := ih (fun g hg => hl g (by simp [hg]))
    simp only [fsv, List.flatMap_cons, List.length_append, List.length_cons, frv_length] at h2 ⊢
    omega
theorem fsv_get {fs : List (List Nat)} (hl : ∀ f ∈ fs, f.length = 12) : ∀ {k j : Nat}, k < fs.length → j < 12 → (fsv fs)[k * 12 + j]? = (frv (fs.getD k zf))[j]? := by
  induction fs with
  | nil => intro k j hk; simp at hk
  | cons f fs ih =>
    intro k j hk hj
    have h1 := hl f (by simp)
    simp only [fsv, List.flatMap_cons] at ih ⊢
    cases k with
    | zero => rw [List.getElem?_append_left (by rw [frv_length]; omega)]; simp
    | succ k =>
      rw [List.getElem?_append_right (by rw [frv_length]; omega), frv_length, show (k + 1) * 12 + j - f.length = k * 12 + j by omega]
      rw [ih (fun g hg => hl g (by simp [hg])) (by simpa using hk) hj]
      simp
theorem Cl.frame {w : World} {b o : Nat} {fs : List (List Nat)} (h : Cl w b o (fsv fs)) (hl : ∀ f ∈ fs, f.length = 12) {k : Nat} (hk : k < fs.length) : Cl w b (o + k * 12) (frv (fs.getD k zf)) :=
  ⟨h.1, fun j v hj => by
    have hjl : j < 12 := by
      have := (List.getElem?_eq_some_iff.1 hj).1
      rw [frv_length] at this
      have h2 : (fs.getD k zf).length = 12 := by
        rw [List.getD_eq_getElem?_getD, List.getElem?_eq_getElem hk]; exact hl _ (List.getElem_mem hk)
      omega
    rw [Nat.add_assoc]
    exact h.2 _ v (by rw [fsv_get hl hk hjl]; exact hj)⟩
theorem getD_mem {fs : List (List Nat)} {k : Nat} (hk : k < fs.length) : fs.getD k zf ∈ fs := by
  rw [List.getD_eq_getElem?_getD, List.getElem?_eq_getElem hk]; exact List.getElem_mem hk
theorem are1_c (f : List Nat) (hf : f.length = 12) (w : World) : Calls Tryz.prog 79 #[.agg (frv f).toArray] w fun e w' => e = .returned (.bool (!okB f)) ∧ Keep [] w w' := by
  have st := St.start w
  go_enter Tryz.func79, Tryz.ntmps79
  go_wp2_with (first | ((with_reducible refine gate_box rfl ?_); refine wpl_box rfl _ _ rfl _ rfl _ rfl st ?_; clear st; intro _ _ st) | ((with_reducible refine gate_load rfl ?_); refine wpl_loadAll rfl _ _ rfl _ rfl tFr.toAggT _ _ (st.get (by repeat (first | exact At.here | apply At.there))) (by simp [frv_length, zf_length, mk_length, withD_length, part_length, rowsOf_length, *]) ?_) | (go_at_call 80; refine (ValidFrame_c f hf _).mono ?_; rintro _ _ ⟨rfl, hk⟩; replace st := st.call hk; clear hk))
  go_ret
  exact ⟨rfl, st.keep⟩
def allOk (fs : List (List Nat)) : Bool := fs.all okB
def IdxFPost (fs : List (List Nat)) (w : World) (e : Ending) (w' : World) : Prop := ∃ i : Int, e = .returned (.int .i64 i) ∧ (allOk fs = true → i = -1) ∧ (allOk fs = false → 0 ≤ i) ∧ Keep [] w w'
theorem allOk_not {fs : List (List Nat)} {k : Nat} (hk : k < fs.length) (h : okB (fs.getD k zf) = false) : allOk fs = false := by
  rw [Bool.eq_false_iff]
  intro ha
  have := List.all_eq_true.1 ha _ (getD_mem hk)
  rw [h] at this; cases this
theorem allOk_of {fs : List (List Nat)} (h : ∀ k, k < fs.length → okB (fs.getD k zf) = true) : allOk fs = true := by
  unfold allOk
  rw [List.all_eq_true]
  intro x hx
  obtain ⟨i, hi, rfl⟩ := List.mem_iff_getElem.1 hx
  have := h i hi
  rwa [List.getD_eq_getElem?_getD, List.getElem?_eq_getElem hi] at this
set_option maxRecDepth 100000 in
theorem indexFuncFr_c (fs : List (List Nat)) (hl : ∀ f ∈ fs, f.length = 12) (hn : fs.length ≤ maxLen) (b o cap : Nat) (w : World) (hb : Cl w b o (fsv fs)) :
    Calls Tryz.prog 103 #[.slice (some ⟨b, o, none⟩) fs.length cap, .func (.func 79) #[] #[]] w (IdxFPost fs w) := by
  have st := St.start w
  have hmx : fs.length ≤ 9223372036854775807 := by simp only [maxLen] at hn; omega
  go_enter Tryz.func103, Tryz.ntmps103
  go_wp2_with fail
  go_loopw [8] (fun i wr => ∃ k : Nat, k ≤ fs.length ∧ i = .int .i64 k ∧ (∀ y, y < k → okB (fs.getD y zf) = true) ∧ St [] w wr []) (fun i _ => fs.length - (intOf i).toNat)
  case atStart => exact ⟨0, by omega, rfl, by omega, st⟩
  case round =>
    clear st
    obtain ⟨k, hk, rfl, hle, st⟩ := hrel
    have HL := hid hle
    clear hle
    by_cases hlt : k < fs.length
    · have hd : decide ((k : Int) < (fs.length : Int)) = true := by simpa using hlt
      have hfl : (fs.getD k zf).length = 12 := hl _ (getD_mem hlt)
      have hc := (hb.frame hl hlt).keep st.keep (by simp)
      rcases Bool.eq_false_or_eq_true (okB (fs.getD k zf)) with h | h
      · obtain ⟨fk, hfk⟩ : ∃ fk, fk = fs.getD k zf := ⟨_, rfl⟩
        rw [← hfk] at hfl hc h
        have HK := hid hfk
        clear hfk
        go_wp2_with (first | ((with_reducible refine gate_addr rfl ?_); refine wpl_slcAddr rfl _ _ rfl _ _ _ _ rfl _ _ rfl tFrS k rfl hlt ?_) | ((with_reducible refine gate_load rfl ?_); refine wpl_loadC rfl _ _ rfl _ rfl tFr.toAggT (frv fk) (by rw [frv_length, hfl]) (fun j v hj => by rw [Addr.add_lit]; exact hc.cellv hj) ?_) | (go_at_call 79; refine (are1_c fk hfl _).mono ?_; rintro _ _ ⟨rfl, hk⟩; replace st := st.call hk; clear hk))
        go_roundw
        case rel =>
          refine ⟨k + 1, by omega, by go_num, fun y hy => ?_, st⟩
          by_cases e : y = k
          · subst e; rw [← HK.out]; exact h
          · exact HL.out y (by omega)
        case measure => simp [intOf]; omega
      · have hno := allOk_not hlt h
        obtain ⟨fk, hfk⟩ : ∃ fk, fk = fs.getD k zf := ⟨_, rfl⟩
        rw [← hfk] at hfl hc h
        have HK := hid hfk
        clear hfk
        go_wp2_with (first | ((with_reducible refine gate_addr rfl ?_); refine wpl_slcAddr rfl _ _ rfl _ _ _ _ rfl _ _ rfl tFrS k rfl hlt ?_) | ((with_reducible refine gate_load rfl ?_); refine wpl_loadC rfl _ _ rfl _ rfl tFr.toAggT (frv fk) (by rw [frv_length, hfl]) (fun j v hj => by rw [Addr.add_lit]; exact hc.cellv hj) ?_) | (go_at_call 79; refine (are1_c fk hfl _).mono ?_; rintro _ _ ⟨rfl, hk⟩; replace st := st.call hk; clear hk))
        go_ret
        exact ⟨k, rfl, fun h => (by rw [hno] at h; cases h), fun _ => (by omega), st.keep⟩
    · obtain rfl : k = fs.length := by omega
      go_wp2_with fail
      go_ret
      exact ⟨-1, rfl, fun _ => rfl, fun h => (by rw [allOk_of (fun y hy => HL.out y (by omega))] at h; cases h), st.keep⟩
theorem containsFr_c (fs : List (List Nat)) (hl : ∀ f ∈ fs, f.length = 12) (hn : fs.length ≤ maxLen) (b o cap : Nat) (w : World) (hb : Cl w b o (fsv fs)) :
    Calls Tryz.prog 78 #[.slice (some ⟨b, o, none⟩) fs.length cap, .func (.func 79) #[] #[]] w fun e w' => e = .returned (.bool (!allOk fs)) ∧ Keep [] w w' := by
  have st := St.start w
  rcases Bool.eq_false_or_eq_true (allOk fs) with h | h
  · rw [h]
    go_enter Tryz.func78, Tryz.ntmps78
    go_wp2_with (go_at_call 103; refine (indexFuncFr_c fs hl hn b o cap _ hb).mono ?_; rintro _ _ ⟨i, rfl, h1, h2, hk⟩; replace st := st.call hk; obtain rfl := h1 h; clear h1 h2 hk)
    go_ret
    exact ⟨rfl, st.keep⟩
  · rw [h]
    go_enter Tryz.func78, Tryz.ntmps78
    go_wp2_with (go_at_call 103; refine (indexFuncFr_c fs hl hn b o cap _ hb).mono ?_; rintro _ _ ⟨i, rfl, h1, h2, hk⟩; replace st := st.call hk; have h3 := h2 h; clear h1 h2 hk)
    go_ret
    exact ⟨by simp [*], st.keep⟩
theorem areFrames_c (fs : List (List Nat)) (hl : ∀ f ∈ fs, f.length = 12) (hn : fs.length ≤ maxLen) (b o cap : Nat) (w : World) (hb : Cl w b o (fsv fs)) :
    Calls Tryz.prog 63 #[.slice (some ⟨b, o, none⟩) fs.length cap] w fun e w' => e = .returned (.bool (allOk fs)) ∧ Keep [] w w' := by
  have st := St.start w
  go_enter Tryz.func63, Tryz.ntmps63
  go_wp2_with (first | (go_at_call 78; refine (containsFr_c fs hl hn b o cap _ hb).mono ?_; rintro _ _ ⟨rfl, hk⟩; replace st := st.call hk; clear hk))
  go_ret
  exact ⟨by simp, st.keep⟩
theorem areTwo_c (f g : List Nat) (hf : f.length = 12) (hg : g.length = 12) (b cap : Nat) (T : TypeId) (w : World) (hb : Blk w b (frv f ++ frv g) T) :
    Calls Tryz.prog 63 #[.slice (some ⟨b, 0, none⟩) 2 cap] w fun e w' => e = .returned (.bool (decide (codeG f g = 0))) ∧ Keep [] w w' := by
  have h := areFrames_c [f, g] (by simp [hf, hg]) (by simp [maxLen]) b 0 cap w (.of (cs := fsv [f, g]) (T := T) (by simpa [fsv] using hb))
  have e : allOk [f, g] = decide (codeG f g = 0) := by
    rcases Bool.eq_false_or_eq_true (okB f) with h1 | h1 <;> rcases Bool.eq_false_or_eq_true (okB g) with h2 | h2 <;> simp [allOk, codeG, h1, h2]
  rw [e] at h
  exact h
/-- What a function on two frames answers. -/
def twoR (k : Nat → Nat → Nat) (f g : List Nat) : List Nat := if codeG f g = 0 then mixR k f g else zf
theorem twoR_len (k : Nat → Nat → Nat) (f g : List Nat) : (twoR k f g).length = 12 := by
  unfold twoR
  split
  · exact mixR_length k f g
  · rfl


end Go.Proofs.YtlljflmbnbjccaaGreatDoor
/- Valid books: the reference and the program; no condition. -/
namespace Go.Proofs.YtlljflmbnbjccaaGreatDoor
open Go.RowKit
set_option linter.unusedSimpArgs false
set_option linter.unusedVariables false

def okL (B : List Fm) : Bool := B.all fun a => okB a.1
/-- The book is valid. -/
def bkB (B : List Fm) : Bool := okL B && decide (B.length ≤ 40)
theorem okL_no {B : List Fm} {k : Nat} (hk : k < B.length) (h : okB B[k].1 = false) : okL B = false := by
  unfold okL
  rw [List.all_eq_false]
  exact ⟨B[k], List.getElem_mem hk, by simp [h]⟩
def OkTo (B : List Fm) (k : Nat) : Prop := ∀ j (h1 : j < B.length), j < k → okB B[j].1 = true
theorem OkTo.step {B : List Fm} {k : Nat} (h : OkTo B k) (hk : k < B.length) (e : okB B[k].1 = true) : OkTo B (k + 1) := fun j h1 hj => by
  by_cases hjk : j = k
  · subst hjk; exact e
  · exact h j h1 (by omega)
theorem OkTo.all {B : List Fm} {n : Nat} (h : OkTo B n) (hn : B.length = n) : okL B = true := by
  unfold okL
  rw [List.all_eq_true]
  intro a ha
  obtain ⟨j, hj, rfl⟩ := List.mem_iff_getElem.1 ha
  exact h j hj (by omega)
theorem l01Ok_fm (a : Fm) (b o : Nat) (w : World) (hb : Cl w b o (fv a)) : Calls Tryz.prog 65 #[.pointer (some ⟨b, o, none⟩)] w fun e w' => e = .returned (.bool (okB a.1)) ∧ Keep [] w w' := l01Ok_c a.1 a.2.len b o w hb
set_option maxHeartbeats 1000000 in
set_option maxRecDepth 100000 in
theorem l02Ok_c (B : List Fm) (n : Nat) (hB : B.length = n) (hn : n ≤ 4000000) (p : Option Addr) (c : Nat) (w : World) (hr : Rd w p n (encs fv B)) :
    Calls Tryz.prog 48 #[.slice p n c] w fun e w' => e = .returned (.bool (bkB B)) ∧ Keep [] w w' := by
  have st := St.start w
  replace hB := hid hB
  go_enter Tryz.func48, Tryz.ntmps48
  go_wp2_with (first | ((with_reducible refine gate_lst ?_); (first | ((with_reducible refine gate_addr rfl ?_); (first | (refine' ia_slcP HP.out rfl rfl rfl rfl ?_ ?_ ?_) | (refine' ia_slcP HP2.out rfl rfl rfl rfl ?_ ?_ ?_)); rotate_left 1; (focus (first | exact (rfl : (0 : Int) = ((0 : Nat) : Int)) | exact (rfl : (1 : Int) = ((1 : Nat) : Int)) | exact rfl | exact HE1.out | exact HE2.out)); (focus (first | omega | (simp; done) | (simp; omega) | (simp [*]; omega)))))))
  go_loopw [3] (fun i wr => ∃ k : Nat, k ≤ n ∧ i = .int .i64 k ∧ OkTo B k ∧ St [] w wr []) (fun i _ => n - (intOf i).toNat)
  case atStart => exact ⟨0, by omega, rfl, fun _ _ h => absurd h (by omega), st⟩
  case round =>
    clear st
    obtain ⟨k, hk, rfl, hs, st⟩ := hrel
    replace hs := hid hs
    by_cases hlt : k < n
    · have hd : decide ((k : Int) < (n : Int)) = true := by simpa using hlt
      obtain ⟨b, f, hp, hcl⟩ := hr (by omega)
      have HP := hid hp
      have hkB : k < B.length := by rw [hB.out]; exact hlt
      have hb := hcl.seg fv_len hkB
      have HS := hid (hs.out.step hkB)
      have HN := hid (okL_no hkB)
      obtain ⟨x, hx⟩ : ∃ x, B[k] = x := ⟨_, rfl⟩
      rw [hx] at hb HS HN
      clear hx hp hcl hkB
      go_wp2_with (first | (go_at_call 65; refine (Calls.splitB (l01Ok_fm x _ _ _ (hb.keep st.keep (by simp)))).mono ?_; rintro _ _ (⟨hB_1, rfl, hk⟩ | ⟨hB_1, rfl, hk⟩) <;> (replace st := st.call hk; clear hk)) | ((with_reducible refine gate_lst ?_); (first | ((with_reducible refine gate_addr rfl ?_); (first | (refine' ia_slcP HP.out rfl rfl rfl rfl ?_ ?_ ?_) | (refine' ia_slcP HP2.out rfl rfl rfl rfl ?_ ?_ ?_)); rotate_left 1; (focus (first | exact (rfl : (0 : Int) = ((0 : Nat) : Int)) | exact (rfl : (1 : Int) = ((1 : Nat) : Int)) | exact rfl | exact HE1.out | exact HE2.out)); (focus (first | omega | (simp; done) | (simp; omega) | (simp [*]; omega)))))))
      · go_roundw
        case rel => exact ⟨k + 1, by omega, by go_num, HS.out hB_1, st⟩
        case measure => simp [intOf]; omega
      · go_ret
        exact ⟨ret_bool (by unfold bkB; rw [HN.out hB_1]; rfl), st.keep⟩
    · obtain rfl : k = n := by omega
      have h1 := hid (hs.out.all hB.out)
      go_wp2_with (first | ((with_reducible refine gate_lst ?_); (first | ((with_reducible refine gate_addr rfl ?_); (first | (refine' ia_slcP HP.out rfl rfl rfl rfl ?_ ?_ ?_) | (refine' ia_slcP HP2.out rfl rfl rfl rfl ?_ ?_ ?_)); rotate_left 1; (focus (first | exact (rfl : (0 : Int) = ((0 : Nat) : Int)) | exact (rfl : (1 : Int) = ((1 : Nat) : Int)) | exact rfl | exact HE1.out | exact HE2.out)); (focus (first | omega | (simp; done) | (simp; omega) | (simp [*]; omega)))))))
      go_ret
      exact ⟨ret_bool (by unfold bkB; rw [h1.out, hB.out, Bool.true_and]; congr 1; simp; omega), st.keep⟩
theorem are1_fm (a : Fm) (w : World) : Calls Tryz.prog 79 #[.agg (fv a).toArray] w fun e w' => e = .returned (.bool (!okB a.1)) ∧ Keep [] w w' := are1_c a.1 a.2.len w
def IdxBPost (B : List Fm) (w : World) (e : Ending) (w' : World) : Prop := ∃ i : Int, e = .returned (.int .i64 i) ∧ (okL B = true → i = -1) ∧ (okL B = false → 0 ≤ i) ∧ Keep [] w w'
set_option maxHeartbeats 1000000 in
set_option maxRecDepth 100000 in
theorem indexFuncB_c (B : List Fm) (n : Nat) (hB : B.length = n) (hn : n ≤ 4000000) (p : Option Addr) (c : Nat) (w : World) (hr : Rd w p n (encs fv B)) :
    Calls Tryz.prog 103 #[.slice p n c, .func (.func 79) #[] #[]] w (IdxBPost B w) := by
  have st := St.start w
  replace hB := hid hB
  go_enter Tryz.func103, Tryz.ntmps103
  go_wp2_with (first | ((with_reducible refine gate_lst ?_); (first | ((with_reducible refine gate_load rfl ?_); (first | (refine ia_loadAll st rfl rfl rfl ?_ ?_; (focus (first | rfl | (simp; done) | (simp; assumption) | (simp; omega) | (simp [*]; done)))) | (refine ia_loadC (hb.keep st.keep (by simp)) rfl rfl rfl ?_ ?_; (focus (first | rfl | (simp; done) | (simp; assumption) | (simp; omega) | (simp [*]; done)))) | (refine ia_loadC (hb'.keep st.keep (by simp)) rfl rfl rfl ?_ ?_; (focus (first | rfl | (simp; done) | (simp; assumption) | (simp; omega) | (simp [*]; done)))) | (refine ia_loadC (Cl.of (hb1.keep st.keep (by simp))) rfl rfl rfl ?_ ?_; (focus (first | rfl | (simp; done) | (simp; assumption) | (simp; omega) | (simp [*]; done)))) | (refine ia_loadC (Cl.of (hb2.keep st.keep (by simp))) rfl rfl rfl ?_ ?_; (focus (first | rfl | (simp; done) | (simp; assumption) | (simp; omega) | (simp [*]; done)))))) | ((with_reducible refine gate_addr rfl ?_); (first | (refine' ia_slcP HP.out rfl rfl rfl rfl ?_ ?_ ?_) | (refine' ia_slcP HP2.out rfl rfl rfl rfl ?_ ?_ ?_)); rotate_left 1; (focus (first | exact (rfl : (0 : Int) = ((0 : Nat) : Int)) | exact (rfl : (1 : Int) = ((1 : Nat) : Int)) | exact rfl | exact HE1.out | exact HE2.out)); (focus (first | omega | (simp; done) | (simp; omega) | (simp [*]; omega)))))))
  go_loopw [8] (fun i wr => ∃ k : Nat, k ≤ n ∧ i = .int .i64 k ∧ OkTo B k ∧ St [] w wr []) (fun i _ => n - (intOf i).toNat)
  case atStart => exact ⟨0, by omega, rfl, fun _ _ h => absurd h (by omega), st⟩
  case round =>
    clear st
    obtain ⟨k, hk, rfl, hs, st⟩ := hrel
    replace hs := hid hs
    by_cases hlt : k < n
    · have hd : decide ((k : Int) < (n : Int)) = true := by simpa using hlt
      obtain ⟨b, f, hp, hcl⟩ := hr (by omega)
      have HP := hid hp
      have hkB : k < B.length := by rw [hB.out]; exact hlt
      have hb := hcl.seg fv_len hkB
      have HS := hid (hs.out.step hkB)
      have HN := hid (okL_no hkB)
      obtain ⟨x, hx⟩ : ∃ x, B[k] = x := ⟨_, rfl⟩
      rw [hx] at hb HS HN
      clear hx hp hcl hkB
      go_wp2_with (first | (go_at_call 79; refine (Calls.splitB (are1_fm x _)).mono ?_; rintro _ _ (⟨hB_1, rfl, hk⟩ | ⟨hB_1, rfl, hk⟩) <;> (replace st := st.call hk; clear hk)) | ((with_reducible refine gate_lst ?_); (first | ((with_reducible refine gate_load rfl ?_); (first | (refine ia_loadAll st rfl rfl rfl ?_ ?_; (focus (first | rfl | (simp; done) | (simp; assumption) | (simp; omega) | (simp [*]; done)))) | (refine ia_loadC (hb.keep st.keep (by simp)) rfl rfl rfl ?_ ?_; (focus (first | rfl | (simp; done) | (simp; assumption) | (simp; omega) | (simp [*]; done)))) | (refine ia_loadC (hb'.keep st.keep (by simp)) rfl rfl rfl ?_ ?_; (focus (first | rfl | (simp; done) | (simp; assumption) | (simp; omega) | (simp [*]; done)))) | (refine ia_loadC (Cl.of (hb1.keep st.keep (by simp))) rfl rfl rfl ?_ ?_; (focus (first | rfl | (simp; done) | (simp; assumption) | (simp; omega) | (simp [*]; done)))) | (refine ia_loadC (Cl.of (hb2.keep st.keep (by simp))) rfl rfl rfl ?_ ?_; (focus (first | rfl | (simp; done) | (simp; assumption) | (simp; omega) | (simp [*]; done)))))) | ((with_reducible refine gate_addr rfl ?_); (first | (refine' ia_slcP HP.out rfl rfl rfl rfl ?_ ?_ ?_) | (refine' ia_slcP HP2.out rfl rfl rfl rfl ?_ ?_ ?_)); rotate_left 1; (focus (first | exact (rfl : (0 : Int) = ((0 : Nat) : Int)) | exact (rfl : (1 : Int) = ((1 : Nat) : Int)) | exact rfl | exact HE1.out | exact HE2.out)); (focus (first | omega | (simp; done) | (simp; omega) | (simp [*]; omega)))))))
      · go_ret
        exact ⟨k, rfl, fun h => (by rw [HN.out (by simpa using hB_1)] at h; cases h), fun _ => (by omega), st.keep⟩
      · go_roundw
        case rel => exact ⟨k + 1, by omega, by go_num, HS.out (by simpa using hB_1), st⟩
        case measure => simp [intOf]; omega
    · obtain rfl : k = n := by omega
      have h1 := hid (hs.out.all hB.out)
      go_wp2_with (first | ((with_reducible refine gate_lst ?_); (first | ((with_reducible refine gate_load rfl ?_); (first | (refine ia_loadAll st rfl rfl rfl ?_ ?_; (focus (first | rfl | (simp; done) | (simp; assumption) | (simp; omega) | (simp [*]; done)))) | (refine ia_loadC (hb.keep st.keep (by simp)) rfl rfl rfl ?_ ?_; (focus (first | rfl | (simp; done) | (simp; assumption) | (simp; omega) | (simp [*]; done)))) | (refine ia_loadC (hb'.keep st.keep (by simp)) rfl rfl rfl ?_ ?_; (focus (first | rfl | (simp; done) | (simp; assumption) | (simp; omega) | (simp [*]; done)))) | (refine ia_loadC (Cl.of (hb1.keep st.keep (by simp))) rfl rfl rfl ?_ ?_; (focus (first | rfl | (simp; done) | (simp; assumption) | (simp; omega) | (simp [*]; done)))) | (refine ia_loadC (Cl.of (hb2.keep st.keep (by simp))) rfl rfl rfl ?_ ?_; (focus (first | rfl | (simp; done) | (simp; assumption) | (simp; omega) | (simp [*]; done)))))) | ((with_reducible refine gate_addr rfl ?_); (first | (refine' ia_slcP HP.out rfl rfl rfl rfl ?_ ?_ ?_) | (refine' ia_slcP HP2.out rfl rfl rfl rfl ?_ ?_ ?_)); rotate_left 1; (focus (first | exact (rfl : (0 : Int) = ((0 : Nat) : Int)) | exact (rfl : (1 : Int) = ((1 : Nat) : Int)) | exact rfl | exact HE1.out | exact HE2.out)); (focus (first | omega | (simp; done) | (simp; omega) | (simp [*]; omega)))))))
      go_ret
      exact ⟨-1, rfl, fun _ => rfl, fun h => (by rw [h1.out] at h; cases h), st.keep⟩
theorem containsB_c (B : List Fm) (n : Nat) (hB : B.length = n) (hn : n ≤ 4000000) (p : Option Addr) (c : Nat) (w : World) (hr : Rd w p n (encs fv B)) :
    Calls Tryz.prog 78 #[.slice p n c, .func (.func 79) #[] #[]] w fun e w' => e = .returned (.bool (!okL B)) ∧ Keep [] w w' := by
  have st := St.start w
  have HI := hid (fun w' hk => indexFuncB_c B n hB hn p c w' (hr.keep (w1 := w') hk))
  rcases Bool.eq_false_or_eq_true (okL B) with h | h
  · rw [h]
    go_enter Tryz.func78, Tryz.ntmps78
    go_wp2_with (go_at_call 103; refine (HI.out _ st.keep).mono ?_; rintro _ _ ⟨i, rfl, h1, h2, hk⟩; replace st := st.call hk; obtain rfl := h1 h; clear h1 h2 hk)
    go_ret
    exact ⟨rfl, st.keep⟩
  · rw [h]
    go_enter Tryz.func78, Tryz.ntmps78
    go_wp2_with (go_at_call 103; refine (HI.out _ st.keep).mono ?_; rintro _ _ ⟨i, rfl, h1, h2, hk⟩; replace st := st.call hk; have h3 := h2 h; clear h1 h2 hk)
    go_ret
    exact ⟨by simp [*], st.keep⟩
theorem areB_c (B : List Fm) (n : Nat) (hB : B.length = n) (hn : n ≤ 4000000) (p : Option Addr) (c : Nat) (w : World) (hr : Rd w p n (encs fv B)) :
    Calls Tryz.prog 63 #[.slice p n c] w fun e w' => e = .returned (.bool (okL B)) ∧ Keep [] w w' := by
  have st := St.start w
  go_enter Tryz.func63, Tryz.ntmps63
  go_wp2_with (first | (go_at_call 78; refine (containsB_c B n hB hn p c _ (hr.keep st.keep)).mono ?_; rintro _ _ ⟨rfl, hk⟩; replace st := st.call hk; clear hk))
  go_ret
  exact ⟨by simp, st.keep⟩
theorem ValidBook_c (B : List Fm) (n : Nat) (hB : B.length = n) (hn : n ≤ 4000000) (p : Option Addr) (c : Nat) (w : World) (hr : Rd w p n (encs fv B)) :
    Calls Tryz.prog 40 #[.slice p n c] w fun e w' => e = .returned (.bool (bkB B)) ∧ Keep [] w w' := by
  have st := St.start w
  have HA := hid (fun w' hk => areB_c B n hB hn p c w' (hr.keep (w1 := w') hk))
  unfold bkB
  rw [hB]
  clear hB
  by_cases h : n ≤ 40
  · have h1 : decide ((n : Int) ≤ 40) = true := by simp; omega
    go_enter Tryz.func40, Tryz.ntmps40
    go_wp2_with (first | (go_at_call 63; refine (HA.out _ st.keep).mono ?_; rintro _ _ ⟨rfl, hk⟩; replace st := st.call hk; clear hk) | ((with_reducible refine gate_lst ?_); (first | ((with_reducible refine' wpl_ung ?_ ?_ ?_); rotate_left 1; (focus exact rfl); (focus exact rfl)))))
    go_ret
    exact ⟨ret_bool (by simp [h]), st.keep⟩
  · have h1 : decide ((n : Int) ≤ 40) = false := by simp; omega
    go_enter Tryz.func40, Tryz.ntmps40
    go_wp2_with (first | ((with_reducible refine gate_lst ?_); (first | ((with_reducible refine' wpl_ung ?_ ?_ ?_); rotate_left 1; (focus exact rfl); (focus exact rfl)))))
    go_ret
    exact ⟨ret_bool (by simp [h]), st.keep⟩
end Go.Proofs.YtlljflmbnbjccaaGreatDoor
/- Books and lists of numbers marked and looked at again; no condition. -/
namespace Go.Proofs.YtlljflmbnbjccaaGreatDoor
open Go.RowKit
set_option linter.unusedSimpArgs false
set_option linter.unusedVariables false

/-- The mark of cell m. -/
def mkF (k0 m : Nat) : Value := .int .u16 (IntKind.u16.wrap ((k0 : Int) + (m : Int)))
theorem mkF_at (k0 m : Nat) (i : Int) (h : i = (k0 : Int) + (m : Int)) : Value.int .u16 (IntKind.u16.wrap i) = mkF k0 m := by rw [h]; rfl
end Go.Proofs.YtlljflmbnbjccaaGreatDoor
/- Books that a function makes: grown by frames and by whole books, copied; no condition. -/
namespace Go.Proofs.YtlljflmbnbjccaaGreatDoor
open Go.RowKit
set_option linter.unusedSimpArgs false
set_option linter.unusedVariables false

/-- A slice of the call's own: n elements, their cells xs, before what else the call has made (L). -/
def Own (E : TypeId) (sz n : Nat) (xs : List Value) (M : List Nat) (w0 w : World) (L : List (Nat × List Value × TypeId)) (v : Value) : Prop :=
  ∃ g cap spare, v = .slice (some ⟨g, 0, none⟩) n cap ∧ St M w0 w ((g, xs ++ spare, E) :: L) ∧ (xs ++ spare).length = cap * sz ∧ cap ≤ maxLen
theorem Own.gives {E : TypeId} {sz n : Nat} {xs : List Value} {w0 w : World} {L : List (Nat × List Value × TypeId)} {v : Value} (h : Own E sz n xs [] w0 w L v) : Gives E sz n xs w0 v w := by
  obtain ⟨g, cap, spare, hv, st, h1, h2⟩ := h
  exact ⟨g, cap, spare, hv, out_of st .here, st.get .here, h1, h2⟩
theorem Own.keep {E : TypeId} {sz n : Nat} {xs : List Value} {w0 w : World} {L : List (Nat × List Value × TypeId)} {v : Value} (h : Own E sz n xs [] w0 w L v) : Keep [] w0 w := by
  obtain ⟨g, cap, spare, hv, st, h1, h2⟩ := h
  exact st.keep
/-- What a function answers that hands back a slice of its own: nil where nilOk lets it be. -/
def SlOut (E : TypeId) (sz n : Nat) (xs : List Value) (nilOk : Prop) (w : World) (v : Value) (w' : World) : Prop := (nilOk ∧ n = 0 ∧ v = .slice none 0 0) ∨ Gives E sz n xs w v w'
theorem Gives.since {E : TypeId} {sz n : Nat} {xs : List Value} {w w1 w2 : World} {v : Value} (h : Gives E sz n xs w1 v w2) (hk : Keep [] w w1) : Gives E sz n xs w v w2 := by
  obtain ⟨g, cap, spare, hv, hg, h1, h2, h3⟩ := h
  exact ⟨g, cap, spare, hv, Nat.le_trans hk.size hg, h1, h2, h3⟩
theorem SlOut.since {E : TypeId} {sz n : Nat} {xs : List Value} {q q' : Prop} {w w1 w2 : World} {v : Value} (h : SlOut E sz n xs q w1 v w2) (hk : Keep [] w w1) (hq : q → q') : SlOut E sz n xs q' w v w2 := by
  rcases h with ⟨h1, h2, h3⟩ | h
  · exact Or.inl ⟨hq h1, h2, h3⟩
  · exact Or.inr (h.since hk)
def BookPost (R : List Fm) (n : Nat) (nilOk : Prop) (w : World) (e : Ending) (w' : World) : Prop := ∃ v, e = .returned v ∧ SlOut 72 12 n (encs fv R) nilOk w v w' ∧ Keep [] w w'
def BookCode (R : List Fm) (n : Nat) (code : Int) (nilOk : Prop) (w : World) (e : Ending) (w' : World) : Prop := ∃ v, e = .returned (.tuple #[v, .int .i64 code]) ∧ SlOut 72 12 n (encs fv R) nilOk w v w' ∧ Keep [] w w'

section
variable {P : Program} {ops : Array Oper} {rest : List Oper} {o : Oper} {a : Act} {w w0 : World} {Q : Exit → Act → World → Prop} {M : List Nat} {L : List (Nat × List Value × TypeId)}
theorem gate_app {s x : Operand} {T T' : TypeId} (_ho : o.op = .call { callee := .builtin .append, args := #[s, x], argTypes := #[T, T'] }) (h : wpList P ops Q (o :: rest) a w) : wpList P ops Q (o :: rest) a w := h
/-- A slice of the call's own grows by what another shows. -/
theorem ia_appendR {s x : Operand} {T E : TypeId} {sz y g n cap m c i : Nat} {z xs spare news : List Value} {p : Option Addr} (st : St M w0 w L) (hgd : o.guard = none) (ho : o.op = .call { callee := .builtin .append, args := #[s, x], argTypes := #[T, T] }) (hs : a.eval s = .slice (some ⟨g, 0, none⟩) n cap) (hx : a.eval x = .slice p m c)
    [hT : SlcC P T E sz y z] [ha : AtC g (xs ++ spare) E i L] (hxl : xs.length = n * sz) (hcap : (xs ++ spare).length = cap * sz) (hcm : cap ≤ maxLen) (hr : Rd w p m news) (hp : p = none → m = 0) (hnl : news.length = m * sz) (h1 : ∀ u ∈ news, u.oneCell' = true)
    (h63 : n + m ≤ maxLen) (hby : (n + m) * y ≤ 140737488355328)
    (h : ∀ g' cap' spare' w1, St M w0 w1 (L.set i (g', (xs ++ news) ++ spare', E)) → ((xs ++ news) ++ spare').length = cap' * sz → cap' ≤ maxLen → wpList P ops Q rest (a.put o.dst (.slice (some ⟨g', 0, none⟩) (n + m) cap')) w1) : wpList P ops Q (o :: rest) a w := by
  have hup : ∀ g' new, Upd g g' (xs ++ spare) new E L (L.set i (g', new, E)) := by
    have := ha.at_
    clear h st hr ha
    induction L generalizing i with
    | nil => simp at this
    | cons x L ih =>
      intro g' new
      cases i with
      | zero => simp at this; subst this; exact .here
      | succ i => exact .there (ih (i := i) (by simpa using this) g' new)
  cases p with
  | none =>
    have hm : m = 0 := hp rfl
    subst hm
    have hnews : news = [] := List.eq_nil_of_length_eq_zero (by rw [hnl, Nat.zero_mul])
    subst hnews
    obtain ⟨u, v, hi, hs', hy', hz, hc⟩ := hT.out.i
    have hb : Blk w g (xs ++ spare) E := st.atC
    have hle : n ≤ cap := by
      rcases Nat.lt_or_ge cap n with h2 | h2
      · have h3 : (cap + 1) * sz ≤ n * sz := Nat.mul_le_mul_right _ h2
        rw [Nat.succ_mul] at h3
        have := hT.out.p
        rw [List.length_append] at hcap
        omega
      · exact h2
    refine wpList_plain hgd fun K hK => ?_
    have hrun : (Builtin.append_ #[T, T] o.type #[.slice (some ⟨g, 0, none⟩) n cap, .slice none 0 c]).run P w = .ok (.slice (some ⟨g, 0, none⟩) n cap) w := by
      simp [Builtin.append_, run_underlying hT.out.u, sizeOf, typeInfo, hi, Builtin.lenOf, Builtin.firstCells, hle, storeCells]
    unfold Oper.wp execOp
    simp only [ho, resolve, invoke, builtin, Sem.run_bind, Sem.run_pure, Result.andThen_ok, List.map_toArray, List.map_cons, List.map_nil, hs, hx, hrun]
    have hset : L.set i (g, (xs ++ []) ++ spare, E) = L := by
      rw [List.append_nil]
      apply List.ext_getElem?
      intro j
      rw [List.getElem?_set]
      split
      · rename_i e; subst e
        have := ha.at_
        rw [this]
        have hlt := (List.getElem?_eq_some_iff.1 this).1
        simp [hlt]
      · rfl
    exact hK _ _ (h g cap spare w (by rw [hset]; exact st) (by rw [List.append_nil]; exact hcap) hcm)
  | some ad =>
    have hnews : ∀ j u, news[j]? = some u → w.cell? (ad.add j) = some u := by
      intro j u hj
      have hjl := (List.getElem?_eq_some_iff.1 hj).1
      have hm : 0 < m := by
        rcases Nat.eq_zero_or_pos m with h0 | h0
        · subst h0; rw [hnl, Nat.zero_mul] at hjl; omega
        · exact h0
      obtain ⟨b, f, hp', hc⟩ := hr hm
      injection hp' with hp'
      subst hp'
      rw [Addr.add_lit]
      exact hc.2 j u hj
    exact wpl_append hgd s x T ho hT.out g n cap hs ad m c hx news hnl hnews h1 st xs spare (fun g' new => L.set i (g', new, E)) hup hxl hcap hcm h63 hby h
end
theorem ia_appendR0 {P : Program} {ops : Array Oper} {rest : List Oper} {o : Oper} {a : Act} {w w0 : World} {Q : Exit → Act → World → Prop} {M : List Nat} {L : List (Nat × List Value × TypeId)} {s x : Operand} {T E : TypeId} {sz y g m c i : Nat} {z news : List Value} {p : Option Addr} (st : St M w0 w L) (hgd : o.guard = none) (ho : o.op = .call { callee := .builtin .append, args := #[s, x], argTypes := #[T, T] }) (hs : a.eval s = .slice (some ⟨g, 0, none⟩) 0 0) (hx : a.eval x = .slice p m c)
    [hT : SlcC P T E sz y z] [ha : AtC g [] E i L] (hr : Rd w p m news) (hp : p = none → m = 0) (hnl : news.length = m * sz) (h1 : ∀ u ∈ news, u.oneCell' = true) (h63 : m ≤ maxLen) (hby : m * y ≤ 140737488355328)
    (h : ∀ g' cap' spare' w1, St M w0 w1 (L.set i (g', news ++ spare', E)) → (news ++ spare').length = cap' * sz → cap' ≤ maxLen → wpList P ops Q rest (a.put o.dst (.slice (some ⟨g', 0, none⟩) m cap')) w1) : wpList P ops Q (o :: rest) a w :=
  ia_appendR (xs := []) (spare := []) (ha := ha) st hgd ho hs hx (by simp) (by simp) (Nat.zero_le _) hr hp hnl h1 (by rw [Nat.zero_add]; exact h63) (by rw [Nat.zero_add]; exact hby)
    (fun g' cap' spare' w1 st hc hm => by rw [Nat.zero_add]; exact h g' cap' spare' w1 (by simpa using st) (by simpa using hc) hm)
theorem Rd.fr {w : World} {g : Nat} {x : List Value} {T : TypeId} (h : Blk w g x T) : Rd w (some ⟨g, 0, none⟩) 1 x := .of0 h

/-! ### Copied -/
section
variable {P : Program} {ops : Array Oper} {rest : List Oper} {o : Oper} {a : Act} {w w0 : World} {Q : Exit → Act → World → Prop} {M : List Nat} {L : List (Nat × List Value × TypeId)}
theorem ia_bsl0 {sl : Nat} {T E : TypeId} {s y : Nat} {z : List Value} (st : St M w0 w L) (_hN : o.dst = some sl) (hgd : o.guard = none) (ho : o.op = .buildSlice T 0 #[]) [hT : SlcC P T E s y z]
    (h : ∀ B w1, St M w0 w1 ((B, [], E) :: L) → wpList P ops Q rest (a.put o.dst (.slice (some ⟨B, 0, none⟩) 0 0)) w1) : wpList P ops Q (o :: rest) a w := wpl_buildSlice0 hgd T ho hT.out st h
theorem ia_bsl1 {sl : Nat} {T E : TypeId} {s y : Nat} {z cs : List Value} {x : Operand} {v : Value} (st : St M w0 w L) (_hN : o.dst = some sl) (hgd : o.guard = none) (ho : o.op = .buildSlice T 1 #[(0, x)]) (hx : a.eval x = v) (hcs : v.cells = cs.toArray) [hT : SlcC P T E s y z] (hl : cs.length = s) (h24 : s ≤ 16777216)
    (h : ∀ B w1, St M w0 w1 ((B, cs, E) :: L) → wpList P ops Q rest (a.put o.dst (.slice (some ⟨B, 0, none⟩) 1 1)) w1) : wpList P ops Q (o :: rest) a w := wpl_buildSlice1 hgd T x ho v hx cs hcs hT.out hl h24 st h
/-- A part of a slice. -/
theorem ia_cut {α : Type} {e : α → List Value} {T E : TypeId} {s y n c : Nat} {z : List Value} {x il ih : Operand} {p : Option Addr} {k k' : IntKind} {l h : Nat} {B : List α} (hes : ∀ a, (e a).length = s) (hgd : o.guard = none) (ho : o.op = .slice T x (some il) (some ih) none) (hx : a.eval x = .slice p n c) (hil : a.eval il = .int k l) (hih : a.eval ih = .int k' h) [hT : SlcC P T E s y z]
    (hB : B.length = n) (hlh : l ≤ h) (hhn : h ≤ n) (hnc : n ≤ c) (hr : Rd w p n (encs e B))
    (hk : ∀ p2, (p2 = none ↔ p = none) → Rd w p2 (h - l) (encs e ((B.drop l).take (h - l))) → wpList P ops Q rest (a.put o.dst (.slice p2 (h - l) (c - l))) w) : wpList P ops Q (o :: rest) a w := by
  have he : P.elem T = E := by unfold Program.elem; rw [hT.out.u]
  have hu : P.underlying T = some (.slice (P.elem T)) := by rw [he]; exact hT.out.u
  have hrun := run_slice_lh (P := P) w T p n c hu k k' l h (by omega) (by omega) (by omega)
  rw [he, hT.out.sizeOf w] at hrun
  simp only [Result.andThen_ok, Int.toNat_natCast, sliced] at hrun
  refine wpl_val hgd (.slice (if c = l then p else p.map (·.add (l * s))) (h - l) (c - l)) (by
    unfold execOp
    simp only [ho, hx, hil, hih, Sem.run_bind, Sem.run_pure, Result.andThen_ok, Option.map_some, Option.map_none, run_sliceAt_slice w T _ _ _ _ hu, hrun]) (hk _ ?_ ?_)
  · split
    · exact Iff.rfl
    · cases p <;> simp
  · intro hpos
    obtain ⟨b, f, hp, hc⟩ := hr (by omega)
    subst hp
    rw [if_neg (by omega)]
    refine ⟨b, f + l * s, by simp [Addr.add_lit], hc.1, fun j v hj => ?_⟩
    have hjl : j < ((B.drop l).take (h - l)).length * s := by rw [← encs_length hes]; exact (List.getElem?_eq_some_iff.1 hj).1
    rw [Nat.add_assoc]
    refine hc.2 _ v ?_
    rw [← encs_take hes, List.getElem?_take, if_pos (by
      rw [List.length_take, List.length_drop] at hjl
      exact Nat.lt_of_lt_of_le hjl (Nat.mul_le_mul_right _ (Nat.min_le_left _ _)))] at hj
    rw [← encs_drop hes, List.getElem?_drop] at hj
    exact hj
end

end Go.Proofs.YtlljflmbnbjccaaGreatDoor
/- The dots of a frame, one by one; no condition. -/
namespace Go.Proofs.YtlljflmbnbjccaaGreatDoor
open Go.RowKit
set_option linter.unusedSimpArgs false
set_option linter.unusedVariables false

/-- The cells of a list of dots. -/
def dtv (l : List (Nat × Nat)) : List Value := l.flatMap fun d => [.int .i8 (d.1 : Int), .int .i8 (d.2 : Int)]
theorem dtv_length (l : List (Nat × Nat)) : (dtv l).length = l.length * 2 := by
  induction l with
  | nil => rfl
  | cons d l ih => simp only [dtv, List.flatMap_cons, List.length_append, List.length_cons, List.length_nil] at ih ⊢; omega
theorem dtv_append (l m : List (Nat × Nat)) : dtv (l ++ m) = dtv l ++ dtv m := by simp [dtv]
theorem dtv_one (l : List (Nat × Nat)) : ∀ v ∈ dtv l, v.oneCell' = true := by
  intro v hv
  simp only [dtv, List.mem_flatMap] at hv
  obtain ⟨d, _, hd⟩ := hv
  simp at hd
  rcases hd with rfl | rfl <;> rfl
theorem dtv_get (l : List (Nat × Nat)) : ∀ (i : Nat), i < l.length → (dtv l)[i * 2]? = some (.int .i8 ((l.getD i (0, 0)).1 : Int)) ∧ (dtv l)[i * 2 + 1]? = some (.int .i8 ((l.getD i (0, 0)).2 : Int)) := by
  induction l with
  | nil => intro i hi; simp at hi
  | cons d l ih =>
    intro i hi
    cases i with
    | zero => simp [dtv]
    | succ i =>
      have := ih i (by simpa using hi)
      simp only [dtv, List.flatMap_cons] at this ⊢
      rw [List.getElem?_append_right (by simp; omega), List.getElem?_append_right (by simp; omega)]
      simp only [List.length_cons, List.length_nil]
      rw [show (i + 1) * 2 - (0 + 1 + 1) = i * 2 by omega, show (i + 1) * 2 + 1 - (0 + 1 + 1) = i * 2 + 1 by omega]
      simpa using this
theorem built_dot (x y : Int) : Tryz.prog.built 109 [(0, .int .i8 x), (1, .int .i8 y)] = some [Value.int .i8 x, .int .i8 y].toArray := by kernel_rfl
theorem i8_wrap {n : Int} (h0 : -128 ≤ n) (h1 : n < 128) : IntKind.i8.wrap n = n := by
  simp [IntKind.wrap, IntKind.bits, IntKind.signed]; omega
def DotsPost (f : List Nat) (w : World) (e : Ending) (w' : World) : Prop := ∃ v, e = .returned v ∧ Gives 109 2 (dots f).length (dtv (dots f)) w v w' ∧ Keep [] w w'

set_option maxRecDepth 100000 in
theorem l01Dots_c (f : List Nat) (ok : FrOk f) (b o : Nat) (w : World) (hb : Cl w b o (frv f)) :
    Calls Tryz.prog 68 #[.pointer (some ⟨b, o, none⟩)] w (DotsPost f w) := by
  have hf := ok.len
  have st := St.start w
  go_enter Tryz.func68, Tryz.ntmps68
  go_wp2_with (first | ((with_reducible refine gate_bsl rfl ?_); refine wpl_buildSlice0 rfl _ rfl tDotS st ?_; clear st; intro B1 _ st))
  go_loopw [3, 4] (fun v i wr => ∃ (y g cap : Nat) (spare : List Value), y ≤ 12 ∧ i = .int .i64 y ∧ v = .slice (some ⟨g, 0, none⟩) (dotsTo f (12 * y)).length cap ∧
    St [] w wr [(g, dtv (dotsTo f (12 * y)) ++ spare, 109)] ∧ (dtv (dotsTo f (12 * y)) ++ spare).length = cap * 2 ∧ cap ≤ maxLen) (fun _ i _ => 12 - (intOf i).toNat)
  case atStart => exact ⟨0, B1, 0, [], by omega, rfl, rfl, st, rfl, Nat.zero_le _⟩
  case round =>
    clear st
    obtain ⟨y, g, cap, spare, hy, rfl, rfl, st, hcap, hcm⟩ := hrel
    by_cases hly : y < 12
    · obtain ⟨wo, rfl⟩ : ∃ wo : World, wo = wr := ⟨_, rfl⟩
      have hdy : decide ((y : Int) < 12) = true := by simp; omega
      have hcy := i8_wrap (n := (y : Int)) (by omega) (by omega)
      go_wp2_with fail
      go_loopw [3, 5] (fun v i wr => ∃ (x g cap : Nat) (spare : List Value), x ≤ 12 ∧ i = .int .i64 x ∧ v = .slice (some ⟨g, 0, none⟩) (dotsTo f (12 * y + x)).length cap ∧
        St [] w wr [(g, dtv (dotsTo f (12 * y + x)) ++ spare, 109)] ∧ (dtv (dotsTo f (12 * y + x)) ++ spare).length = cap * 2 ∧ cap ≤ maxLen) (fun _ i _ => 12 - (intOf i).toNat)
      case atStart => exact ⟨0, g, cap, spare, by omega, rfl, rfl, st, hcap, hcm⟩
      case round =>
        clear st hcap hcm
        obtain ⟨x, g, cap, spare, hx, rfl, rfl, st, hcap, hcm⟩ := hrel
        have HC := hid hcap
        clear hcap
        by_cases hlx : x < 12
        · have hcx := i8_wrap (n := (x : Int)) (by omega) (by omega)
          have hlen := dotsTo_length f (12 * y + x)
          by_cases hp : hasD f x y = true
          · have hI : hasI f x y = true := by rw [hasI_nat]; exact hp
            have HD := hid (dotsTo_hit f hlx hp)
            go_wp2_with (first | (go_at_call 82; refine (l01Has_c f ok b o x y _ (hb.keep st.keep (by simp))).mono ?_; rintro _ _ ⟨rfl, hk⟩; replace st := st.call hk; clear hk) | ((with_reducible refine gate_build rfl ?_); refine wpl_build rfl _ [(0, _), (1, _)] rfl _ (built_dot _ _) ?_) | ((with_reducible refine gate_bsl rfl ?_); refine wpl_buildSlice1 rfl _ _ rfl _ rfl _ rfl tDotS rfl (by decide) st ?_; clear st; intro _ _ st) | ((with_reducible refine gate_call rfl ?_); (refine wpl_append rfl _ _ _ rfl tDotS _ _ _ rfl _ _ _ rfl [.int .i8 (x : Int), .int .i8 (y : Int)] (by rfl) (fun j u hj => by rw [Addr.add_lit, Nat.zero_add]; exact (st.get (by repeat (first | exact At.here | apply At.there))).cellv hj) (by simp [Value.oneCell']) st (dtv (dotsTo f (12 * y + x))) spare _ (fun _ _ => (by repeat (first | exact Upd.here | apply Upd.there))) (dtv_length _) HC.out hcm (by unfold maxLen; omega) (by omega) ?_); clear st; intro g2 cap2 spare2 _ st hcap2 hcm2))
            go_roundw
            case rel =>
              have e : dtv (dotsTo f (12 * y + (x + 1))) = dtv (dotsTo f (12 * y + x)) ++ [.int .i8 (x : Int), .int .i8 (y : Int)] := by rw [HD.out, dtv_append]; rfl
              exact ⟨x + 1, g2, cap2, spare2, by omega, by go_num, by rw [HD.out, List.length_append]; rfl, by rw [e]; exact st.drop, by rw [e]; exact hcap2, hcm2⟩
            case measure => simp [intOf]; omega
          · have hp' : hasD f x y = false := by simpa using hp
            clear hp
            have hI : hasI f x y = false := by rw [hasI_nat]; exact hp'
            have HD := hid (dotsTo_miss f hlx hp')
            clear hp'
            go_wp2_with (first | (go_at_call 82; refine (l01Has_c f ok b o x y _ (hb.keep st.keep (by simp))).mono ?_; rintro _ _ ⟨rfl, hk⟩; replace st := st.call hk; clear hk))
            go_roundw
            case rel => exact ⟨x + 1, g, cap, spare, by omega, by go_num, by rw [HD.out], by rw [HD.out]; exact st, by rw [HD.out]; exact HC.out, hcm⟩
            case measure => simp [intOf]; omega
        · obtain rfl : x = 12 := by omega
          go_wp2_with fail
          go_roundw
          case rel => exact ⟨y + 1, g, cap, spare, by omega, by go_num, by rw [show 12 * (y + 1) = 12 * y + 12 by omega], by rw [show 12 * (y + 1) = 12 * y + 12 by omega]; exact st, by rw [show 12 * (y + 1) = 12 * y + 12 by omega]; exact HC.out, hcm⟩
          case measure => simp [intOf]; omega
    · obtain rfl : y = 12 := by omega
      have HC := hid hcap
      clear hcap
      go_wp2_with fail
      go_ret
      exact ⟨_, rfl, ⟨g, cap, spare, rfl, (st.ge _ List.mem_cons_self).elim id (fun h => by simp at h), st.get .here, HC.out, hcm⟩, st.keep⟩
end Go.Proofs.YtlljflmbnbjccaaGreatDoor
/- Dots carried over: mirrored, turned, rolled; no condition. -/
namespace Go.Proofs.YtlljflmbnbjccaaGreatDoor
open Go.RowKit
set_option linter.unusedSimpArgs false
set_option linter.unusedVariables false

/-! ### Numbers and fields -/
section
variable {P : Program} {T : TypeId}
theorem run_sub64 {a b : Int} (h0 : -9223372036854775808 ≤ a - b) (h1 : a - b ≤ 9223372036854775807) (w : World) : (binOp .sub T (.int .i64 a) (.int .i64 b)).run P w = .ok (.int .i64 (a - b)) w := by
  have e := IntWalk.i64_in (a - b) ⟨h0, h1⟩
  go_simp
theorem run_add64 {a b : Int} (h0 : -9223372036854775808 ≤ a + b) (h1 : a + b ≤ 9223372036854775807) (w : World) : (binOp .add T (.int .i64 a) (.int .i64 b)).run P w = .ok (.int .i64 (a + b)) w := by
  have e := IntWalk.i64_in (a + b) ⟨h0, h1⟩
  go_simp
end
theorem fld_dot0 (b f : Nat) (w' : World) : (Instr.fieldAt 109 (.pointer (some ⟨b, f, none⟩)) 0).run Tryz.prog w' = .ok (.pointer (some ⟨b, f + 0, none⟩)) w' := by
  simp [Instr.fieldAt, run_underlying Tryz.underlying109, Instr.sureAddr]
  go_simp
theorem fld_dot1 (b f : Nat) (w' : World) : (Instr.fieldAt 109 (.pointer (some ⟨b, f, none⟩)) 1).run Tryz.prog w' = .ok (.pointer (some ⟨b, f + 1, none⟩)) w' := by
  simp [Instr.fieldAt, run_underlying Tryz.underlying109, Instr.sureAddr]
  go_simp

/-! ### Dots, one after the other -/
theorem dot_mem {f : List Nat} {i : Nat} (hi : i < (dots f).length) : ((dots f).getD i (0, 0)).1 < 12 ∧ ((dots f).getD i (0, 0)).2 < 12 := by
  have h : (dots f).getD i (0, 0) ∈ dots f := by
    rw [List.getD_eq_getElem?_getD, List.getElem?_eq_getElem hi]; exact List.getElem_mem hi
  have := mem_dots.1 h
  exact ⟨this.1, this.2.1⟩
theorem dots_length (f : List Nat) : (dots f).length ≤ 144 := dotsTo_length f 144
theorem dot_get0 {l : List (Nat × Nat)} {spare : List Value} {i : Nat} (hi : i < l.length) : (dtv l ++ spare)[0 + i * 2 + 0]? = some (.int .i8 ((l.getD i (0, 0)).1 : Int)) := by
  rw [Nat.zero_add, Nat.add_zero, List.getElem?_append_left (by rw [dtv_length]; omega)]; exact (dtv_get l i hi).1
theorem dot_get1 {l : List (Nat × Nat)} {spare : List Value} {i : Nat} (hi : i < l.length) : (dtv l ++ spare)[0 + i * 2 + 1]? = some (.int .i8 ((l.getD i (0, 0)).2 : Int)) := by
  rw [Nat.zero_add, List.getElem?_append_left (by rw [dtv_length]; omega)]; exact (dtv_get l i hi).2
theorem putAll_frOk (l : List (Int × Int)) : FrOk (putAll l) := mk_frOk _
theorem putAll_length (l : List (Int × Int)) : (putAll l).length = 12 := mk_length _
theorem putI_putAll (l : List (Int × Int)) (x y : Int) : putI (putAll l) x y = putAll (l ++ [(x, y)]) := by
  unfold putI
  by_cases hp : placeB x y = true
  · rw [if_pos hp]
    obtain ⟨h1, h2, h3, h4⟩ := placeB_iff.1 hp
    rw [putAll_in l (by omega) (by omega), Int.toNat_of_nonneg h1, Int.toNat_of_nonneg h3]
  · rw [if_neg hp]
    exact putAll_out l fun h => hp (placeB_iff.2 h)
/-- The first k dots, carried over by t. -/
def over (t : Nat × Nat → Int × Int) (f : List Nat) (k : Nat) : List Nat := putAll (((dots f).take k).map t)
theorem over_zero (t : Nat × Nat → Int × Int) (f : List Nat) : over t f 0 = zf := putAll_nil
theorem over_frOk (t : Nat × Nat → Int × Int) (f : List Nat) (k : Nat) : FrOk (over t f k) := putAll_frOk _
theorem over_length (t : Nat × Nat → Int × Int) (f : List Nat) (k : Nat) : (over t f k).length = 12 := by unfold over putAll; exact mk_length _
theorem over_step (t : Nat × Nat → Int × Int) (f : List Nat) {k : Nat} (hk : k < (dots f).length) : putI (over t f k) (t ((dots f).getD k (0, 0))).1 (t ((dots f).getD k (0, 0))).2 = over t f (k + 1) := by
  unfold over
  rw [putI_putAll, List.take_succ_eq_append_getElem hk, List.map_append, List.getD_eq_getElem?_getD, List.getElem?_eq_getElem hk]
  rfl
theorem over_all (t : Nat × Nat → Int × Int) (f : List Nat) (p : Nat → Nat → Bool) (h : ∀ x y, x < 12 → y < 12 → (p x y = true ↔ ∃ x' y', x' < 12 ∧ y' < 12 ∧ hasD f x' y' = true ∧ t (x', y') = ((x : Int), (y : Int)))) : over t f (dots f).length = mk p := by
  unfold over putAll
  rw [List.take_of_length_le (Nat.le_refl _)]
  refine mk_congr fun x y hx hy => ?_
  rw [Bool.eq_iff_iff, List.any_map, any_dots, h x y hx hy]
  constructor
  · rintro ⟨x', y', h1, h2, h3, h4⟩
    exact ⟨x', y', h1, h2, h3, by simp at h4; exact Prod.ext h4.1 h4.2⟩
  · rintro ⟨x', y', h1, h2, h3, h4⟩
    exact ⟨x', y', h1, h2, h3, by simp [h4]⟩

theorem dot_at {f : List Nat} {k : Nat} (hk : k < (dots f).length) : ∃ dx dy : Nat, dx < 12 ∧ dy < 12 ∧ (∀ spare : List Value, (dtv (dots f) ++ spare)[0 + k * 2 + 0]? = some (.int .i8 (dx : Int))) ∧
    (∀ spare : List Value, (dtv (dots f) ++ spare)[0 + k * 2 + 1]? = some (.int .i8 (dy : Int))) ∧ ∀ t : Nat × Nat → Int × Int, putI (over t f k) (t (dx, dy)).1 (t (dx, dy)).2 = over t f (k + 1) :=
  ⟨((dots f).getD k (0, 0)).1, ((dots f).getD k (0, 0)).2, (dot_mem hk).1, (dot_mem hk).2, fun _ => dot_get0 hk, fun _ => dot_get1 hk, fun t => over_step t f hk⟩
/-! ### Mirrored and turned -/
def mirP (f : List Nat) (x y : Nat) : Bool := hasI f (11 - (x : Int)) y
def trnP (f : List Nat) (x y : Nat) : Bool := hasI f y (11 - (x : Int))
def mirT (d : Nat × Nat) : Int × Int := (11 - (d.1 : Int), d.2)
def trnT (d : Nat × Nat) : Int × Int := (11 - (d.2 : Int), d.1)
theorem hasI_in {f : List Nat} {x y : Int} : hasI f x y = true ↔ 0 ≤ x ∧ x < 12 ∧ 0 ≤ y ∧ y < 12 ∧ hasD f x.toNat y.toNat = true := by
  constructor
  · intro h
    have hp : placeB x y = true := by
      rcases Bool.eq_false_or_eq_true (placeB x y) with hp | hp
      · exact hp
      · rw [hasI_no f hp] at h; cases h
    obtain ⟨h1, h2, h3, h4⟩ := placeB_iff.1 hp
    refine ⟨h1, h2, h3, h4, ?_⟩
    rw [← hasI_nat, Int.toNat_of_nonneg h1, Int.toNat_of_nonneg h3]; exact h
  · rintro ⟨h1, h2, h3, h4, h5⟩
    rw [← hasI_nat, Int.toNat_of_nonneg h1, Int.toNat_of_nonneg h3] at h5; exact h5
theorem mir_all (f : List Nat) : over mirT f (dots f).length = mk (mirP f) := over_all _ _ _ fun x y hx hy => by
  unfold mirP
  rw [hasI_in]
  constructor
  · rintro ⟨h1, h2, h3, h4, h5⟩
    exact ⟨_, _, by omega, by omega, h5, by simp [mirT]; omega⟩
  · rintro ⟨x', y', h1, h2, h3, h4⟩
    simp only [mirT, Prod.mk.injEq] at h4
    obtain ⟨h4, h5⟩ := h4
    refine ⟨by omega, by omega, by omega, by omega, ?_⟩
    rw [show (11 - (x : Int)).toNat = x' by omega, show ((y : Int)).toNat = y' by omega]; exact h3
theorem trn_all (f : List Nat) : over trnT f (dots f).length = mk (trnP f) := over_all _ _ _ fun x y hx hy => by
  unfold trnP
  rw [hasI_in]
  constructor
  · rintro ⟨h1, h2, h3, h4, h5⟩
    exact ⟨_, _, by omega, by omega, h5, by simp [trnT]; omega⟩
  · rintro ⟨x', y', h1, h2, h3, h4⟩
    simp only [trnT, Prod.mk.injEq] at h4
    obtain ⟨h4, h5⟩ := h4
    refine ⟨by omega, by omega, by omega, by omega, ?_⟩
    rw [show (11 - (x : Int)).toNat = y' by omega, show ((y : Int)).toNat = x' by omega]; exact h3
/-- What a function on one frame answers that carries its dots over. -/
def ovR (p : List Nat → Nat → Nat → Bool) (f : List Nat) : List Nat := if okB f = true then mk (p f) else zf
theorem ovR_ok {p : List Nat → Nat → Nat → Bool} {f : List Nat} (ok : FrOk f) : FrOk (ovR p f) := by
  unfold ovR
  split
  · exact mk_frOk _
  · exact zf_ok

end Go.Proofs.YtlljflmbnbjccaaGreatDoor
/- Rolled frames; no condition. -/
namespace Go.Proofs.YtlljflmbnbjccaaGreatDoor
open Go.RowKit
set_option linter.unusedSimpArgs false
set_option linter.unusedVariables false

theorem gate_int {P : Program} {w : World} {F : FuncId} {n lo hi : Int} {R : Ending → World → Prop} (h : Calls P F #[.int .i64 n, .int .i64 lo, .int .i64 hi] w R) : Calls P F #[.int .i64 n, .int .i64 lo, .int .i64 hi] w R := h
theorem l00In_v {n lo hi : Int} {v : Bool} (h : inB n lo hi = v) (w : World) : Calls Tryz.prog 45 #[.int .i64 n, .int .i64 lo, .int .i64 hi] w fun e w' => e = .returned (.bool v) ∧ Keep [] w w' := by
  subst h; exact l00In_c n lo hi w
theorem inRange_v {n lo hi : Int} {v : Bool} (h : inB n lo hi = v) (w : World) : Calls Tryz.prog 42 #[.int .i64 n, .int .i64 lo, .int .i64 hi] w fun e w' => e = .returned (.bool v) ∧ Keep [] w w' := by
  subst h; exact inRange_c n lo hi w
theorem l01Ok_w {f : List Nat} {v : Bool} (h : okB f = v) (hf : f.length = 12) (b o : Nat) (w : World) (hb : Cl w b o (frv f)) :
    Calls Tryz.prog 65 #[.pointer (some ⟨b, o, none⟩)] w fun e w' => e = .returned (.bool v) ∧ Keep [] w w' := by
  subst h; exact l01Ok_c f hf b o w hb
theorem ValidFrame_v {f : List Nat} {v : Bool} (h : okB f = v) (hf : f.length = 12) (w : World) :
    Calls Tryz.prog 80 #[.agg (frv f).toArray] w fun e w' => e = .returned (.bool v) ∧ Keep [] w w' := by
  subst h; exact ValidFrame_c f hf w
theorem run_rem12 {P : Program} {T : TypeId} {a : Int} (w : World) : (binOp .rem T (.int .i64 a) (.int .i64 12)).run P w = .ok (.int .i64 (a.tmod 12)) w := by
  have e := IntWalk.i64_in (a.tmod 12) (by
    by_cases h : 0 ≤ a
    · rw [Int.tmod_eq_emod_of_nonneg h]; omega
    · have h1 : a.tmod 12 = -((-a).tmod 12) := by rw [Int.neg_tmod]; omega
      rw [h1, Int.tmod_eq_emod_of_nonneg (by omega)]; omega)
  go_simp

/-- The code of a question about a way. -/
def wayC (f : List Nat) (e s : Int) : Int := if okB f = true then (if inB e (-12) 12 = true ∧ inB s (-12) 12 = true then 0 else 2) else 1
theorem wayC_0 {f : List Nat} {e s : Int} (h : okB f = true) (he : inB e (-12) 12 = true) (hs : inB s (-12) 12 = true) : wayC f e s = 0 := by simp [wayC, h, he, hs]
theorem wayC_1 {f : List Nat} {e s : Int} (h : okB f = false) : wayC f e s = 1 := by simp [wayC, h]
theorem wayC_2 {f : List Nat} {e s : Int} (h : okB f = true) (he : inB e (-12) 12 = false) : wayC f e s = 2 := by simp [wayC, h, he]
theorem wayC_3 {f : List Nat} {e s : Int} (h : okB f = true) (hs : inB s (-12) 12 = false) : wayC f e s = 2 := by simp [wayC, h, hs]
theorem wayC_in {f : List Nat} {e s : Int} (h : wayC f e s = 0) : -12 ≤ e ∧ e ≤ 12 ∧ -12 ≤ s ∧ s ≤ 12 := by
  unfold wayC at h
  split at h
  · split at h
    · rename_i h1
      have h2 := h1.1
      have h3 := h1.2
      simp [inB] at h2 h3
      omega
    · cases h
  · cases h
def rolP (e s : Int) (f : List Nat) (x y : Nat) : Bool := hasI f (((x : Int) - e + 24).tmod 12) (((y : Int) - s + 24).tmod 12)
def rolT (e s : Int) (d : Nat × Nat) : Int × Int := (((d.1 : Int) + e + 12).tmod 12, ((d.2 : Int) + s + 12).tmod 12)
theorem rol_all (f : List Nat) {e s : Int} (h : -12 ≤ e ∧ e ≤ 12 ∧ -12 ≤ s ∧ s ≤ 12) : over (rolT e s) f (dots f).length = mk (rolP e s f) := over_all _ _ _ fun x y hx hy => by
  obtain ⟨g1, g2, g3, g4⟩ := h
  unfold rolP
  rw [hasI_in, Int.tmod_eq_emod_of_nonneg (by omega : (0 : Int) ≤ (x : Int) - e + 24), Int.tmod_eq_emod_of_nonneg (by omega : (0 : Int) ≤ (y : Int) - s + 24)]
  constructor
  · rintro ⟨h1, h2, h3, h4, h5⟩
    refine ⟨_, _, by omega, by omega, h5, ?_⟩
    unfold rolT
    simp only [Prod.mk.injEq]
    rw [Int.tmod_eq_emod_of_nonneg (by omega), Int.tmod_eq_emod_of_nonneg (by omega)]
    omega
  · rintro ⟨x', y', h1, h2, h3, h4⟩
    unfold rolT at h4
    simp only [Prod.mk.injEq] at h4
    rw [Int.tmod_eq_emod_of_nonneg (by omega), Int.tmod_eq_emod_of_nonneg (by omega)] at h4
    obtain ⟨h4, h5⟩ := h4
    refine ⟨by omega, by omega, by omega, by omega, ?_⟩
    rw [show (((x : Int) - e + 24) % 12).toNat = x' by omega, show (((y : Int) - s + 24) % 12).toNat = y' by omega]; exact h3
/-- What RollFrame answers. -/
def rolR (e s : Int) (f : List Nat) : List Nat := if wayC f e s = 0 then mk (rolP e s f) else zf
theorem rolR_ok (e s : Int) {f : List Nat} (ok : FrOk f) : FrOk (rolR e s f) := by
  unfold rolR
  split
  · exact mk_frOk _
  · exact zf_ok
end Go.Proofs.YtlljflmbnbjccaaGreatDoor
/- Parts of books: the reference and the program; no condition. -/
namespace Go.Proofs.YtlljflmbnbjccaaGreatDoor
open Go.RowKit
set_option linter.unusedSimpArgs false
set_option linter.unusedVariables false

theorem gate_slice {P : Program} {ops : Array Oper} {rest : List Oper} {o : Oper} {a : Act} {w : World} {Q : Exit → Act → World → Prop} {T : TypeId} {x : Operand} {l h m : Option Operand} (_ho : o.op = .slice T x l h m) (hh : wpList P ops Q (o :: rest) a w) : wpList P ops Q (o :: rest) a w := hh
def cutIn (n : Nat) (from_ to : Int) : Bool := inB from_ 0 n && inB to from_ n
def cutBC (B : List Fm) (from_ to : Int) : Int := if bkB B = true then (if cutIn B.length from_ to = true then 0 else 2) else 1
def cutBR (B : List Fm) (from_ to : Int) : List Fm := if cutBC B from_ to = 0 then (B.drop from_.toNat).take (to.toNat - from_.toNat) else []
theorem l02Ok_v {B : List Fm} {v : Bool} (h : bkB B = v) (n : Nat) (hB : B.length = n) (hn : n ≤ 4000000) (p : Option Addr) (c : Nat) (w : World) (hr : Rd w p n (encs fv B)) :
    Calls Tryz.prog 48 #[.slice p n c] w fun e w' => e = .returned (.bool v) ∧ Keep [] w w' := by
  subst h; exact l02Ok_c B n hB hn p c w hr
theorem ValidBook_v {B : List Fm} {v : Bool} (h : bkB B = v) (n : Nat) (hB : B.length = n) (hn : n ≤ 4000000) (p : Option Addr) (c : Nat) (w : World) (hr : Rd w p n (encs fv B)) :
    Calls Tryz.prog 40 #[.slice p n c] w fun e w' => e = .returned (.bool v) ∧ Keep [] w w' := by
  subst h; exact ValidBook_c B n hB hn p c w hr
theorem gives0 {w w1 : World} {L : List (Nat × List Value × TypeId)} {B : Nat} {E : TypeId} {sz : Nat} (st : St [] w w1 L) (h : At B [] E L) : Gives E sz 0 [] w (.slice (some ⟨B, 0, none⟩) 0 0) w1 :=
  ⟨B, 0, [], rfl, out_of st h, st.get h, by simp, Nat.zero_le _⟩
end Go.Proofs.YtlljflmbnbjccaaGreatDoor
/- A region that draws its order: what only reads is taken first, wherever it stands; what is left comes in one order; no condition. -/
namespace Go.Proofs.YtlljflmbnbjccaaGreatDoor
open Go.RowKit
set_option linter.unusedSimpArgs false
set_option linter.unusedVariables false

/-- Operations that yield a value and no more. -/
def valB (o : Oper) : Bool :=
  match o.op with
  | .move _ | .assign _ | .binOp _ _ _ _ _ | .unOp _ _ _ | .convert _ _ _ | .load _ _ | .indexAddr _ _ _ | .index _ _ _ | .fieldAddr _ _ _ | .field _ _ _ | .slice _ _ _ _ _ | .extract _ _ | .build _ _ => true
  | .call c => match c.callee with
    | .builtin .len | .builtin .cap | .builtin .min | .builtin .max => true
    | _ => false
  | _ => false
theorem value_only {P : Program} {s : Sem Value} {w w' : World} {n : Next} (h : (do pure (Next.value (← s)) : Sem Next).run P w = .ok n w') : ∃ v, n = .value v := by
  simp only [Sem.run_bind, Sem.run_pure] at h
  cases hr : s.run P w with
  | ok v w1 => rw [hr] at h; simp only [Result.andThen_ok] at h; injection h with h1 _; exact ⟨v, h1.symm⟩
  | halt x w1 => rw [hr] at h; simp [Result.andThen] at h
theorem valB_only {P : Program} {o : Oper} {a : Act} {w w' : World} {n : Next} (hb : valB o = true) (h : (execOp a.eval o).run P w = .ok n w') : ∃ v, n = .value v := by
  unfold execOp at h
  unfold valB at hb
  split at hb <;> first | (cases hb; done) | skip
  case _ x e => simp only [e, Sem.run_pure] at h; injection h with h1 _; exact ⟨_, h1.symm⟩
  case _ x e => simp only [e, Sem.run_pure] at h; injection h with h1 _; exact ⟨_, h1.symm⟩
  all_goals first
    | (rename_i e; rw [e] at h; exact value_only h)
    | (rename_i c e
       rw [e] at h
       simp only [resolve] at h
       split at hb <;> first | (cases hb; done) | skip
       all_goals
         rename_i e2
         rw [e2] at h
         simp only [Sem.run_bind, Sem.run_pure, Result.andThen_ok, invoke, builtin] at h
         exact value_only (by simpa only [Sem.run_bind, Sem.run_pure] using h))
section
variable {P : Program} {ops : Array Oper} {Q : Exit → Act → World → Prop} {S : World → Prop}
/-- Those at some places. -/
def sel (l : List Oper) (is : List Nat) : List Oper := is.filterMap fun i => l[i]?
def takeB (ops : Array Oper) : List Nat → Array Bool → Bool
  | [], _ => true
  | i :: r, listed => (Region.ready .any ops listed).contains i && Region.free .any ops listed i && (match ops[i]? with | some o => valB o | none => false) && takeB ops r (listed.setIfInBounds i true)
def setAll : List Nat → Array Bool → Array Bool
  | [], listed => listed
  | i :: r, listed => setAll r (listed.setIfInBounds i true)
def loudB (ops : Array Oper) : List Nat → Array Bool → Bool
  | [], listed => (Region.ready .any ops listed).isEmpty
  | i :: r, listed => decide (Region.ready .any ops listed = [i]) && (match ops[i]? with | some o => o.guard.isNone | none => false) && loudB ops r (listed.setIfInBounds i true)
def schedB (ops : Array Oper) (tk ld : List Nat) : Bool :=
  Region.noSelect ops && takeB ops tk (Array.replicate ops.size false) && loudB ops ld (setAll tk (Array.replicate ops.size false)) && decide (tk.length + ld.length = ops.size)
/-- Behind one loud operation. -/
def AftS (S : World → Prop) (K : Act → World → Prop) : Exit → Act → World → Prop
  | .normal, a, w => S w ∧ K a w
  | _, _, _ => False
def wpLoud (P : Program) (ops : Array Oper) (S : World → Prop) (Q : Exit → Act → World → Prop) : List Oper → Act → World → Prop
  | [], a, w => Q .normal a w
  | o :: r, a, w => wpList P ops (AftS S (wpLoud P ops S Q r)) [o] a w
def NormQ (Q : Exit → Act → World → Prop) : Exit → Act → World → Prop
  | .normal, a, w => Q .normal a w
  | _, _, _ => False
theorem upon_aftS {o : Oper} {a : Act} {K : Act → World → Prop} {Q' : Exit → Act → World → Prop} {r : Result Next} (h : o.upon P a (fun a w => S w ∧ K a w) (AftS S K) r) : o.upon P a (fun a w => S w ∧ K a w) Q' r := by
  cases r with
  | ok v w' =>
    cases v with
    | enter f args =>
      refine Calls.mono (h := h) (fun e w'' he => ?_)
      cases e with
      | returned v => exact he
      | panicked c => exact he.elim
      | outgrown => obtain ⟨_, _, he⟩ := he; exact he.elim
    | _ => exact h
  | halt e w' =>
    cases e with
    | panic v => exact h.elim
    | _ => exact h
theorem wpAnyH_loud : ∀ (ld : List Nat) (l : List Oper) (listed : Array Bool) (a : Act) (w : World), l.toArray = ops → loudB ops ld listed = true → wpLoud P ops S Q (sel l ld) a w → wpAnyH P .any ops (NormQ Q) S ld.length listed a w
  | [], l, listed, a, w, hl, hB, h => ⟨by simpa [loudB] using hB, h⟩
  | i :: r, l, listed, a, w, hl, hB, h => by
    simp only [loudB, Bool.and_eq_true, decide_eq_true_eq] at hB
    obtain ⟨⟨hr, hg⟩, hB'⟩ := hB
    cases ho : ops[i]? with
    | none => rw [ho] at hg; cases hg
    | some o =>
      rw [ho] at hg
      have hlo : l[i]? = some o := by rw [← hl] at ho; simpa using ho
      have hsel : sel l (i :: r) = o :: sel l r := by simp [sel, hlo]
      rw [hsel] at h
      refine ⟨fun h0 => (by rw [hr] at h0; cases h0), fun j hj => ?_⟩
      rw [hr] at hj
      obtain rfl : j = i := by simpa using hj
      have hg' : o.guard = none := by have hg2 : o.guard.isNone = true := hg; simpa using hg2
      have hw : ∀ ys, Region.wanted o ys = true := fun ys => by simp [Region.wanted, hg']
      have h1 : o.wp P a w (fun a w => S w ∧ wpLoud P ops S Q (sel l r) a w) (AftS S (wpLoud P ops S Q (sel l r))) ∨ (o.asks P a w ∧ LetsOut (AftS S (wpLoud P ops S Q (sel l r)))) := by
        have := h
        unfold wpLoud wpList at this
        rw [if_pos (hw _)] at this
        exact this
      unfold wpOp
      simp only [ho, hw, if_true]
      rcases h1 with h1 | ⟨_, _, _, h2⟩
      · refine Or.inl ?_
        have h2 := upon_aftS (Q' := NormQ Q) h1
        exact Oper.wp_mono (fun a' w' hK => ⟨hK.1, wpAnyH_loud r l _ a' w' hl hB' hK.2⟩) h2
      · exact h2.elim
theorem wpAnyH_takes {g : Nat} (hs : Region.noSelect ops = true) (hQ : ∀ c a d v w, Q (.panic c) (Act.put a d v) w → Q (.panic c) a w) : ∀ (tk : List Nat) (l : List Oper) (listed : Array Bool) (a : Act) (w : World), l.toArray = ops →
    takeB ops tk listed = true → S w → wpQuiet P ops S (fun a' => wpAnyH P .any ops Q S g (setAll tk listed) a' w) (sel l tk) a → wpAnyH P .any ops Q S (tk.length + g) listed a w
  | [], l, listed, a, w, hl, hB, hS, h => by rw [List.length_nil, Nat.zero_add]; exact h
  | i :: r, l, listed, a, w, hl, hB, hS, h => by
    simp only [takeB, Bool.and_eq_true] at hB
    obtain ⟨⟨⟨hr, hf⟩, hv⟩, hB'⟩ := hB
    cases ho : ops[i]? with
    | none => rw [ho] at hv; cases hv
    | some o =>
      rw [ho] at hv
      have hlo : l[i]? = some o := by rw [← hl] at ho; simpa using ho
      have hsel : sel l (i :: r) = o :: sel l r := by simp [sel, hlo]
      rw [hsel] at h
      have key : ∃ v, YieldsIf P ops S o v a ∧ wpQuiet P ops S (fun a' => wpAnyH P .any ops Q S g (setAll r (listed.setIfInBounds i true)) a' w) (sel l r) (a.put o.dst v) := by
        unfold wpQuiet at h
        by_cases hw : Region.wanted o (yielded ops a.tmps) = true
        · rw [if_pos hw] at h
          obtain ⟨v, h1, h2⟩ := h
          refine ⟨v, Or.inl ⟨hw, fun w' hS' => ?_⟩, h2⟩
          have h3 := h1 w' hS'
          unfold Oper.quietAt at h3
          cases hrun : (execOp a.eval o).run P w' with
          | ok n w'' =>
            obtain ⟨u, rfl⟩ := valB_only hv hrun
            rw [hrun] at h3
            simp only [Oper.quietUpon] at h3
            rw [h3.1, h3.2]
          | halt x w'' => rw [hrun] at h3; simp only [Oper.quietUpon] at h3
        · rw [if_neg hw] at h
          exact ⟨undef, Or.inr ⟨by simpa using hw, rfl⟩, h⟩
      obtain ⟨v, hy, h2⟩ := key
      rw [List.length_cons, show r.length + 1 + g = (r.length + g) + 1 by omega]
      exact wpAnyH_take ho hs hf hr (fun c a w h => hQ c a _ _ w h) hy hS (wpAnyH_takes hs hQ r l _ _ w hl hB' hS h2)
theorem wpQuiet_mono {C : World → Prop} {Q Q' : Act → Prop} (hQ : ∀ a, Q a → Q' a) : ∀ (l : List Oper) (a : Act), wpQuiet P ops C Q l a → wpQuiet P ops C Q' l a
  | [], a, h => hQ a h
  | o :: l, a, h => by
    unfold wpQuiet at h ⊢
    by_cases hw : Region.wanted o (yielded ops a.tmps) = true
    · rw [if_pos hw] at h ⊢
      exact Oper.quiet_mono (wpQuiet_mono hQ l) h
    · rw [if_neg hw] at h ⊢
      exact wpQuiet_mono hQ l _ h
end
theorem St.nil {M : List Nat} {w0 w : World} {L : List (Nat × List Value × TypeId)} (st : St M w0 w L) : St M w0 w [] := ⟨st.keep, by simp, by simp, by simp⟩
section
variable {P : Program} {Q : Exit → Act → World → Prop} {a : Act} {w w0 : World} {M : List Nat} {L : List (Nat × List Value × TypeId)} {l : List Oper}
theorem wp_region_sched_st {id : Nat} (st : St M w0 w L) (tk ld : List Nat) (L1 : List (Nat × List Value × TypeId)) (hL1 : ∀ w', St M w0 w' L → St M w0 w' L1) (hm : P.follows .mixedOrders = true) (hB : schedB l.toArray tk ld = true)
    (h : wpQuiet P l.toArray (fun w' => St M w0 w' L1) (fun a' => ∀ w', St M w0 w' L → wpLoud P l.toArray (fun w' => St M w0 w' L1) Q (sel l ld) a' w') (sel l tk) a) : (Code.region id l.toArray true).wp P Q a w := by
  simp only [schedB, Bool.and_eq_true, decide_eq_true_eq] at hB
  obtain ⟨⟨⟨hs, ht⟩, hl⟩, hn⟩ := hB
  refine wp_region_any hm ?_
  have st1 := st.call (Keep.drew w)
  rw [← hn]
  refine wpAny_mono (Q := NormQ Q) (fun e a w h => by cases e <;> first | exact h | exact h.elim) _ _ _ _ ?_
  refine wpAny_of_held (S := fun w' => St M w0 w' L1) _ _ _ _ ?_
  rw [hn]
  have hk := wpAnyH_takes (P := P) (Q := NormQ Q) (S := fun w' => St M w0 w' L1) (g := ld.length) hs (fun c a d v w h => h.elim) tk l (Array.replicate l.toArray.size false) a w.drew rfl ht (hL1 _ st1)
    (wpQuiet_mono (fun a' ha => wpAnyH_loud ld l _ a' _ rfl hl (ha _ st1)) _ _ h)
  rw [hn] at hk
  exact hk
theorem aftS_go {S : World → Prop} {K : Act → World → Prop} (hS : S w) (h : K a w) : AftS S K .normal a w := ⟨hS, h⟩
theorem loud_go {S : World → Prop} {ops : Array Oper} {o : Oper} {r : List Oper} (h : wpList P ops (AftS S (wpLoud P ops S Q r)) [o] a w) : wpLoud P ops S Q (o :: r) a w := h
theorem loud_nil {S : World → Prop} {ops : Array Oper} (h : Q .normal a w) : wpLoud P ops S Q [] a w := h
end
end Go.Proofs.YtlljflmbnbjccaaGreatDoor

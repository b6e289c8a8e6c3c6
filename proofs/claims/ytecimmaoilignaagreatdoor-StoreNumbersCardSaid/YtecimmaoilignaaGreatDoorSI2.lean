/- errors.Is, errors.As, builders, slices.Collect, numbers' texts: the seat has the library's bodies, so their laws hold. (Made by a program of mine, ri22.py.) -/
import Derived.Test.YtecimmaoilignaaGreatDoorChecked
import Derived.Shelf.Strings.OnBuilder
import Derived.Shelf.Strings.Count
import Derived.Shelf.Strconv.Itoa4
import Derived.Shelf.Strconv.ParseIntPublic10
import Derived.Test.YtecimmaoilignaaGreatDoorPamM4
import Derived.Test.YtecimmaoilignaaGreatDoorSH
import Derived.Test.YtecimmaoilignaaGreatDoorSIs
import Derived.Test.YtecimmaoilignaaGreatDoorSAs
import Derived.Test.YtecimmaoilignaaGreatDoorSC
import Derived.Test.YtecimmaoilignaaGreatDoorSG
namespace Go.Proofs.YtecimmaoilignaaGreatDoor.M
open Go Go.Pam Go.Shelf Go.Proofs
set_option maxRecDepth 100000
set_option linter.unusedVariables false
set_option linter.unusedSimpArgs false
def ren : Ren := ⟨fun x => match x with
  | 166 => 94
  | 169 => 96
  | 240 => 139
  | 276 => 167
  | n => n, fun x => match x with
  | 0 => 0
  | 3 => 3
  | 4 => 4
  | 5 => 5
  | 9 => 9
  | 20 => 20
  | 37 => 166
  | 70 => 165
  | 72 => 168
  | 75 => 76
  | 80 => 172
  | 127 => 240
  | 164 => 127
  | n => n, fun n => n⟩
theorem lays166 : Lays.n166 Tryz.prog ren where
  mixed := by kernel_rfl
  f166 := Tryz.func94.trans (congrArg some (by kernel_rfl : Tryz.f94 = Body.n166 ren))
  f240 := Tryz.func139.trans (congrArg some (by kernel_rfl : Tryz.f139 = Body.n240 ren))
  f276 := Tryz.func167.trans (congrArg some (by kernel_rfl : Tryz.f167 = Body.n276 ren))
  t0 := Tryz.underlying0
  a0 := Tryz.isAgg0
  z0 := Tryz.sizeOf0
  v0 := Tryz.zeroValue0
  t3 := Tryz.underlying3
  a3 := Tryz.isAgg3
  z3 := Tryz.sizeOf3
  v3 := Tryz.zeroValue3
  t4 := Tryz.underlying4
  a4 := Tryz.isAgg4
  z4 := Tryz.sizeOf4
  v4 := Tryz.zeroValue4
  t9 := Tryz.underlying9
  a9 := Tryz.isAgg9
  z9 := Tryz.sizeOf9
  v9 := Tryz.zeroValue9
  t20 := Tryz.underlying20
  a20 := Tryz.isAgg20
  z20 := Tryz.sizeOf20
  v20 := Tryz.zeroValue20
  t37 := Tryz.underlying166
  a37 := Tryz.isAgg166
  z37 := Tryz.sizeOf166
  v37 := Tryz.zeroValue166
  t70 := Tryz.underlying165
  a70 := Tryz.isAgg165
  z70 := Tryz.sizeOf165
  v70 := Tryz.zeroValue165
  t72 := Tryz.underlying168
  a72 := Tryz.isAgg168
  z72 := Tryz.sizeOf168
  v72 := Tryz.zeroValue168
  t75 := Tryz.underlying76
  a75 := Tryz.isAgg76
  z75 := Tryz.sizeOf76
  v75 := Tryz.zeroValue76
  t164 := Tryz.underlying127
  a164 := Tryz.isAgg127
  z164 := Tryz.sizeOf127
  v164 := Tryz.zeroValue127
theorem lays169 : Lays.n169 Tryz.prog ren where
  mixed := by kernel_rfl
  f169 := Tryz.func96.trans (congrArg some (by kernel_rfl : Tryz.f96 = Body.n169 ren))
  t0 := Tryz.underlying0
  a0 := Tryz.isAgg0
  z0 := Tryz.sizeOf0
  v0 := Tryz.zeroValue0
  t3 := Tryz.underlying3
  a3 := Tryz.isAgg3
  z3 := Tryz.sizeOf3
  v3 := Tryz.zeroValue3
  t9 := Tryz.underlying9
  a9 := Tryz.isAgg9
  z9 := Tryz.sizeOf9
  v9 := Tryz.zeroValue9
  t37 := Tryz.underlying166
  a37 := Tryz.isAgg166
  z37 := Tryz.sizeOf166
  v37 := Tryz.zeroValue166
  t70 := Tryz.underlying165
  a70 := Tryz.isAgg165
  z70 := Tryz.sizeOf165
  v70 := Tryz.zeroValue165
  t72 := Tryz.underlying168
  a72 := Tryz.isAgg168
  z72 := Tryz.sizeOf168
  v72 := Tryz.zeroValue168
  t127 := Tryz.underlying240
  a127 := Tryz.isAgg240
  z127 := Tryz.sizeOf240
  v127 := Tryz.zeroValue240
theorem extra : Builder.Extra Tryz.prog ren where
  sizeBuilder := by kernel_rfl
  liesBuilder := by kernel_rfl
  t5 := Tryz.underlying5
  a5 := Tryz.isAgg5
  z5 := Tryz.sizeOf5
  v5 := Tryz.zeroValue5
  infoByte := by kernel_rfl
  cellsByte := by kernel_rfl
  sizeByte := by kernel_rfl
  neB5 := by decide
def ren138 : Ren := ⟨fun x => match x with
  | 138 => 192
  | 195 => 222
  | 218 => 224
  | 143 => 193
  | 219 => 225
  | 217 => 241
  | 225 => 242
  | 224 => 243
  | 267 => 244
  | 266 => 251
  | 314 => 252
  | n => n, fun x => match x with
  | 9 => 9
  | 3 => 3
  | 4 => 4
  | 5 => 5
  | 0 => 0
  | 46 => 239
  | 146 => 348
  | 51 => 237
  | n => n, fun x => match x with
  | 1 => 6
  | n => n⟩
theorem lays138 : Lays.n138 Tryz.prog ren138 where
  mixed := by kernel_rfl
  f138 := Tryz.func192.trans (congrArg some (by kernel_rfl : Tryz.f192 = Body.n138 ren138))
  f143 := Tryz.func193.trans (congrArg some (by kernel_rfl : Tryz.f193 = Body.n143 ren138))
  f195 := Tryz.func222.trans (congrArg some (by kernel_rfl : Tryz.f222 = Body.n195 ren138))
  f217 := Tryz.func241.trans (congrArg some (by kernel_rfl : Tryz.f241 = Body.n217 ren138))
  f218 := Tryz.func224.trans (congrArg some (by kernel_rfl : Tryz.f224 = Body.n218 ren138))
  f219 := Tryz.func225.trans (congrArg some (by kernel_rfl : Tryz.f225 = Body.n219 ren138))
  f224 := Tryz.func243.trans (congrArg some (by kernel_rfl : Tryz.f243 = Body.n224 ren138))
  f225 := Tryz.func242.trans (congrArg some (by kernel_rfl : Tryz.f242 = Body.n225 ren138))
  f266 := Tryz.func251.trans (congrArg some (by kernel_rfl : Tryz.f251 = Body.n266 ren138))
  f267 := Tryz.func244.trans (congrArg some (by kernel_rfl : Tryz.f244 = Body.n267 ren138))
  f314 := Tryz.func252.trans (congrArg some (by kernel_rfl : Tryz.f252 = Body.n314 ren138))
  t0 := Tryz.underlying0
  a0 := Tryz.isAgg0
  z0 := Tryz.sizeOf0
  v0 := Tryz.zeroValue0
  t3 := Tryz.underlying3
  a3 := Tryz.isAgg3
  z3 := Tryz.sizeOf3
  v3 := Tryz.zeroValue3
  t4 := Tryz.underlying4
  a4 := Tryz.isAgg4
  z4 := Tryz.sizeOf4
  v4 := Tryz.zeroValue4
  t5 := Tryz.underlying5
  a5 := Tryz.isAgg5
  z5 := Tryz.sizeOf5
  v5 := Tryz.zeroValue5
  t9 := Tryz.underlying9
  a9 := Tryz.isAgg9
  z9 := Tryz.sizeOf9
  v9 := Tryz.zeroValue9
  t46 := Tryz.underlying239
  a46 := Tryz.isAgg239
  z46 := Tryz.sizeOf239
  v46 := Tryz.zeroValue239
  t51 := Tryz.underlying237
  a51 := Tryz.isAgg237
  z51 := Tryz.sizeOf237
  v51 := Tryz.zeroValue237
  t146 := Tryz.underlying348
  a146 := Tryz.isAgg348
  z146 := Tryz.sizeOf348
  v146 := Tryz.zeroValue348
  g1 := by kernel_rfl
def ren171 : Ren := ⟨fun x => match x with
  | 171 => 54
  | 243 => 102
  | 246 => 143
  | 283 => 168
  | 284 => 169
  | 285 => 170
  | 286 => 171
  | 129 => 187
  | 317 => 186
  | 318 => 188
  | 319 => 189
  | 320 => 190
  | 337 => 220
  | 338 => 221
  | n => n, fun x => match x with
  | 3 => 3
  | 9 => 9
  | 2 => 2
  | 4 => 4
  | 171 => 265
  | 0 => 0
  | 53 => 266
  | 37 => 166
  | 5 => 5
  | 173 => 269
  | 212 => 286
  | 51 => 237
  | 20 => 20
  | 213 => 287
  | 46 => 239
  | 232 => 333
  | 233 => 334
  | n => n, fun x => match x with
  | 17 => 1
  | 18 => 4
  | 19 => 5
  | n => n⟩
theorem lays171 : LaysM.n171 Tryz.prog ren171 where
  mixed := by kernel_rfl
  f129 := Tryz.func187.trans (congrArg some (by kernel_rfl : Tryz.f187 = Body.n129 ren171))
  f171 := Tryz.func54.trans (congrArg some (by kernel_rfl : Tryz.f54 = Body.n171 ren171))
  f243 := Tryz.func102.trans (congrArg some (by kernel_rfl : Tryz.f102 = Body.n243 ren171))
  f246 := Tryz.func143.trans (congrArg some (by kernel_rfl : Tryz.f143 = Body.n246 ren171))
  f283 := Tryz.func168.trans (congrArg some (by kernel_rfl : Tryz.f168 = Body.n283 ren171))
  f284 := Tryz.func169.trans (congrArg some (by kernel_rfl : Tryz.f169 = Body.n284 ren171))
  f285 := Tryz.func170.trans (congrArg some (by kernel_rfl : Tryz.f170 = Body.n285 ren171))
  f286 := Tryz.func171.trans (congrArg some (by kernel_rfl : Tryz.f171 = Body.n286 ren171))
  f317 := Tryz.func186.trans (congrArg some (by kernel_rfl : Tryz.f186 = Body.n317 ren171))
  f318 := Tryz.func188.trans (congrArg some (by kernel_rfl : Tryz.f188 = Body.n318 ren171))
  f319 := Tryz.func189.trans (congrArg some (by kernel_rfl : Tryz.f189 = Body.n319 ren171))
  f320 := Tryz.func190.trans (congrArg some (by kernel_rfl : Tryz.f190 = Body.n320 ren171))
  f337 := Tryz.func220.trans (congrArg some (by kernel_rfl : Tryz.f220 = Body.n337 ren171))
  f338 := Tryz.func221.trans (congrArg some (by kernel_rfl : Tryz.f221 = Body.n338 ren171))
  t0 := Tryz.underlying0
  a0 := Tryz.isAgg0
  z0 := Tryz.sizeOf0
  v0 := Tryz.zeroValue0
  t2 := Tryz.underlying2
  a2 := Tryz.isAgg2
  z2 := Tryz.sizeOf2
  v2 := Tryz.zeroValue2
  t3 := Tryz.underlying3
  a3 := Tryz.isAgg3
  z3 := Tryz.sizeOf3
  v3 := Tryz.zeroValue3
  t4 := Tryz.underlying4
  a4 := Tryz.isAgg4
  z4 := Tryz.sizeOf4
  v4 := Tryz.zeroValue4
  t5 := Tryz.underlying5
  a5 := Tryz.isAgg5
  z5 := Tryz.sizeOf5
  v5 := Tryz.zeroValue5
  t9 := Tryz.underlying9
  a9 := Tryz.isAgg9
  z9 := Tryz.sizeOf9
  v9 := Tryz.zeroValue9
  t20 := Tryz.underlying20
  a20 := Tryz.isAgg20
  z20 := Tryz.sizeOf20
  v20 := Tryz.zeroValue20
  t37 := Tryz.underlying166
  a37 := Tryz.isAgg166
  z37 := Tryz.sizeOf166
  v37 := Tryz.zeroValue166
  t46 := Tryz.underlying239
  a46 := Tryz.isAgg239
  z46 := Tryz.sizeOf239
  v46 := Tryz.zeroValue239
  t51 := Tryz.underlying237
  a51 := Tryz.isAgg237
  z51 := Tryz.sizeOf237
  v51 := Tryz.zeroValue237
  t53 := Tryz.underlying266
  a53 := Tryz.isAgg266
  z53 := Tryz.sizeOf266
  v53 := Tryz.zeroValue266
  t171 := Tryz.underlying265
  a171 := Tryz.isAgg265
  z171 := Tryz.sizeOf265
  v171 := Tryz.zeroValue265
  t173 := Tryz.underlying269
  a173 := Tryz.isAgg269
  z173 := Tryz.sizeOf269
  v173 := Tryz.zeroValue269
  t212 := Tryz.underlying286
  a212 := Tryz.isAgg286
  z212 := Tryz.sizeOf286
  v212 := Tryz.zeroValue286
  t213 := Tryz.underlying287
  a213 := Tryz.isAgg287
  z213 := Tryz.sizeOf287
  t232 := Tryz.underlying333
  a232 := Tryz.isAgg333
  z232 := Tryz.sizeOf333
  v232 := Tryz.zeroValue333
  t233 := Tryz.underlying334
  a233 := Tryz.isAgg334
  z233 := Tryz.sizeOf334
  v233 := Tryz.zeroValue334
  g17 := by kernel_rfl
  g18 := by kernel_rfl
  g19 := by kernel_rfl
  i0 := by kernel_rfl
  i2 := by kernel_rfl
  i3 := by kernel_rfl
  i4 := by kernel_rfl
  i5 := by kernel_rfl
  i9 := by kernel_rfl
  i20 := by kernel_rfl
  i37 := by kernel_rfl
  i46 := by kernel_rfl
  i51 := by kernel_rfl
  i53 := by kernel_rfl
  i171 := by kernel_rfl
  i173 := by kernel_rfl
  i212 := by kernel_rfl
  i232 := by kernel_rfl
  i233 := by kernel_rfl
  m17 := by kernel_rfl
  m18 := by kernel_rfl
  m19 := by kernel_rfl
def ren173 : Ren := ⟨fun x => match x with
  | 173 => 103
  | 246 => 143
  | 283 => 168
  | 284 => 169
  | 285 => 170
  | 286 => 171
  | 129 => 187
  | 317 => 186
  | 318 => 188
  | 319 => 189
  | 320 => 190
  | 337 => 220
  | 338 => 221
  | n => n, fun x => match x with
  | 2 => 2
  | 3 => 3
  | 9 => 9
  | 4 => 4
  | 171 => 265
  | 0 => 0
  | 53 => 266
  | 37 => 166
  | 5 => 5
  | 173 => 269
  | 212 => 286
  | 51 => 237
  | 20 => 20
  | 213 => 287
  | 46 => 239
  | 232 => 333
  | 233 => 334
  | n => n, fun x => match x with
  | 17 => 1
  | 18 => 4
  | 19 => 5
  | n => n⟩
theorem lays173 : LaysM.n173 Tryz.prog ren173 where
  mixed := by kernel_rfl
  f129 := Tryz.func187.trans (congrArg some (by kernel_rfl : Tryz.f187 = Body.n129 ren173))
  f173 := Tryz.func103.trans (congrArg some (by kernel_rfl : Tryz.f103 = Body.n173 ren173))
  f246 := Tryz.func143.trans (congrArg some (by kernel_rfl : Tryz.f143 = Body.n246 ren173))
  f283 := Tryz.func168.trans (congrArg some (by kernel_rfl : Tryz.f168 = Body.n283 ren173))
  f284 := Tryz.func169.trans (congrArg some (by kernel_rfl : Tryz.f169 = Body.n284 ren173))
  f285 := Tryz.func170.trans (congrArg some (by kernel_rfl : Tryz.f170 = Body.n285 ren173))
  f286 := Tryz.func171.trans (congrArg some (by kernel_rfl : Tryz.f171 = Body.n286 ren173))
  f317 := Tryz.func186.trans (congrArg some (by kernel_rfl : Tryz.f186 = Body.n317 ren173))
  f318 := Tryz.func188.trans (congrArg some (by kernel_rfl : Tryz.f188 = Body.n318 ren173))
  f319 := Tryz.func189.trans (congrArg some (by kernel_rfl : Tryz.f189 = Body.n319 ren173))
  f320 := Tryz.func190.trans (congrArg some (by kernel_rfl : Tryz.f190 = Body.n320 ren173))
  f337 := Tryz.func220.trans (congrArg some (by kernel_rfl : Tryz.f220 = Body.n337 ren173))
  f338 := Tryz.func221.trans (congrArg some (by kernel_rfl : Tryz.f221 = Body.n338 ren173))
  t0 := Tryz.underlying0
  a0 := Tryz.isAgg0
  z0 := Tryz.sizeOf0
  v0 := Tryz.zeroValue0
  t2 := Tryz.underlying2
  a2 := Tryz.isAgg2
  z2 := Tryz.sizeOf2
  v2 := Tryz.zeroValue2
  t3 := Tryz.underlying3
  a3 := Tryz.isAgg3
  z3 := Tryz.sizeOf3
  v3 := Tryz.zeroValue3
  t4 := Tryz.underlying4
  a4 := Tryz.isAgg4
  z4 := Tryz.sizeOf4
  v4 := Tryz.zeroValue4
  t5 := Tryz.underlying5
  a5 := Tryz.isAgg5
  z5 := Tryz.sizeOf5
  v5 := Tryz.zeroValue5
  t9 := Tryz.underlying9
  a9 := Tryz.isAgg9
  z9 := Tryz.sizeOf9
  v9 := Tryz.zeroValue9
  t20 := Tryz.underlying20
  a20 := Tryz.isAgg20
  z20 := Tryz.sizeOf20
  v20 := Tryz.zeroValue20
  t37 := Tryz.underlying166
  a37 := Tryz.isAgg166
  z37 := Tryz.sizeOf166
  v37 := Tryz.zeroValue166
  t46 := Tryz.underlying239
  a46 := Tryz.isAgg239
  z46 := Tryz.sizeOf239
  v46 := Tryz.zeroValue239
  t51 := Tryz.underlying237
  a51 := Tryz.isAgg237
  z51 := Tryz.sizeOf237
  v51 := Tryz.zeroValue237
  t53 := Tryz.underlying266
  a53 := Tryz.isAgg266
  z53 := Tryz.sizeOf266
  v53 := Tryz.zeroValue266
  t171 := Tryz.underlying265
  a171 := Tryz.isAgg265
  z171 := Tryz.sizeOf265
  v171 := Tryz.zeroValue265
  t173 := Tryz.underlying269
  a173 := Tryz.isAgg269
  z173 := Tryz.sizeOf269
  v173 := Tryz.zeroValue269
  t212 := Tryz.underlying286
  a212 := Tryz.isAgg286
  z212 := Tryz.sizeOf286
  v212 := Tryz.zeroValue286
  t213 := Tryz.underlying287
  a213 := Tryz.isAgg287
  z213 := Tryz.sizeOf287
  t232 := Tryz.underlying333
  a232 := Tryz.isAgg333
  z232 := Tryz.sizeOf333
  v232 := Tryz.zeroValue333
  t233 := Tryz.underlying334
  a233 := Tryz.isAgg334
  z233 := Tryz.sizeOf334
  v233 := Tryz.zeroValue334
  g17 := by kernel_rfl
  g18 := by kernel_rfl
  g19 := by kernel_rfl
  i0 := by kernel_rfl
  i2 := by kernel_rfl
  i3 := by kernel_rfl
  i4 := by kernel_rfl
  i5 := by kernel_rfl
  i9 := by kernel_rfl
  i20 := by kernel_rfl
  i37 := by kernel_rfl
  i46 := by kernel_rfl
  i51 := by kernel_rfl
  i53 := by kernel_rfl
  i171 := by kernel_rfl
  i173 := by kernel_rfl
  i212 := by kernel_rfl
  i232 := by kernel_rfl
  i233 := by kernel_rfl
  m17 := by kernel_rfl
  m18 := by kernel_rfl
  m19 := by kernel_rfl
def ren174 : Ren := ⟨fun x => match x with
  | 174 => 145
  | 247 => 173
  | 245 => 174
  | 287 => 194
  | 279 => 195
  | 280 => 196
  | 281 => 197
  | 282 => 198
  | 321 => 226
  | 322 => 227
  | 316 => 228
  | 171 => 54
  | 205 => 229
  | 243 => 102
  | 246 => 143
  | 283 => 168
  | 284 => 169
  | 285 => 170
  | 286 => 171
  | 129 => 187
  | 317 => 186
  | 318 => 188
  | 319 => 189
  | 320 => 190
  | 337 => 220
  | 338 => 221
  | n => n, fun x => match x with
  | 9 => 9
  | 3 => 3
  | 2 => 2
  | 75 => 76
  | 85 => 244
  | 4 => 4
  | 167 => 290
  | 5 => 5
  | 53 => 266
  | 175 => 291
  | 46 => 239
  | 168 => 293
  | 37 => 166
  | 0 => 0
  | 210 => 322
  | 21 => 21
  | 127 => 240
  | 145 => 337
  | 143 => 335
  | 171 => 265
  | 173 => 269
  | 212 => 286
  | 51 => 237
  | 20 => 20
  | 213 => 287
  | 232 => 333
  | 233 => 334
  | 80 => 172
  | n => n, fun x => match x with
  | 15 => 2
  | 16 => 3
  | 17 => 1
  | 18 => 4
  | 19 => 5
  | n => n⟩
theorem lays174 : LaysC.n174 Tryz.prog ren174 where
  mixed := by kernel_rfl
  f129 := Tryz.func187.trans (congrArg some (by kernel_rfl : Tryz.f187 = Body.n129 ren174))
  f171 := Tryz.func54.trans (congrArg some (by kernel_rfl : Tryz.f54 = Body.n171 ren174))
  f174 := Tryz.func145.trans (congrArg some (by kernel_rfl : Tryz.f145 = Body.n174 ren174))
  f205 := Tryz.func229.trans (congrArg some (by kernel_rfl : Tryz.f229 = Body.n205 ren174))
  f243 := Tryz.func102.trans (congrArg some (by kernel_rfl : Tryz.f102 = Body.n243 ren174))
  f245 := Tryz.func174.trans (congrArg some (by kernel_rfl : Tryz.f174 = Body.n245 ren174))
  f246 := Tryz.func143.trans (congrArg some (by kernel_rfl : Tryz.f143 = Body.n246 ren174))
  f247 := Tryz.func173.trans (congrArg some (by kernel_rfl : Tryz.f173 = Body.n247 ren174))
  f279 := Tryz.func195.trans (congrArg some (by kernel_rfl : Tryz.f195 = Body.n279 ren174))
  f280 := Tryz.func196.trans (congrArg some (by kernel_rfl : Tryz.f196 = Body.n280 ren174))
  f281 := Tryz.func197.trans (congrArg some (by kernel_rfl : Tryz.f197 = Body.n281 ren174))
  f282 := Tryz.func198.trans (congrArg some (by kernel_rfl : Tryz.f198 = Body.n282 ren174))
  f283 := Tryz.func168.trans (congrArg some (by kernel_rfl : Tryz.f168 = Body.n283 ren174))
  f284 := Tryz.func169.trans (congrArg some (by kernel_rfl : Tryz.f169 = Body.n284 ren174))
  f285 := Tryz.func170.trans (congrArg some (by kernel_rfl : Tryz.f170 = Body.n285 ren174))
  f286 := Tryz.func171.trans (congrArg some (by kernel_rfl : Tryz.f171 = Body.n286 ren174))
  f287 := Tryz.func194.trans (congrArg some (by kernel_rfl : Tryz.f194 = Body.n287 ren174))
  f316 := Tryz.func228.trans (congrArg some (by kernel_rfl : Tryz.f228 = Body.n316 ren174))
  f317 := Tryz.func186.trans (congrArg some (by kernel_rfl : Tryz.f186 = Body.n317 ren174))
  f318 := Tryz.func188.trans (congrArg some (by kernel_rfl : Tryz.f188 = Body.n318 ren174))
  f319 := Tryz.func189.trans (congrArg some (by kernel_rfl : Tryz.f189 = Body.n319 ren174))
  f320 := Tryz.func190.trans (congrArg some (by kernel_rfl : Tryz.f190 = Body.n320 ren174))
  f321 := Tryz.func226.trans (congrArg some (by kernel_rfl : Tryz.f226 = Body.n321 ren174))
  f322 := Tryz.func227.trans (congrArg some (by kernel_rfl : Tryz.f227 = Body.n322 ren174))
  f337 := Tryz.func220.trans (congrArg some (by kernel_rfl : Tryz.f220 = Body.n337 ren174))
  f338 := Tryz.func221.trans (congrArg some (by kernel_rfl : Tryz.f221 = Body.n338 ren174))
  t0 := Tryz.underlying0
  a0 := Tryz.isAgg0
  z0 := Tryz.sizeOf0
  v0 := Tryz.zeroValue0
  t2 := Tryz.underlying2
  a2 := Tryz.isAgg2
  z2 := Tryz.sizeOf2
  v2 := Tryz.zeroValue2
  t3 := Tryz.underlying3
  a3 := Tryz.isAgg3
  z3 := Tryz.sizeOf3
  v3 := Tryz.zeroValue3
  t4 := Tryz.underlying4
  a4 := Tryz.isAgg4
  z4 := Tryz.sizeOf4
  v4 := Tryz.zeroValue4
  t5 := Tryz.underlying5
  a5 := Tryz.isAgg5
  z5 := Tryz.sizeOf5
  v5 := Tryz.zeroValue5
  t9 := Tryz.underlying9
  a9 := Tryz.isAgg9
  z9 := Tryz.sizeOf9
  v9 := Tryz.zeroValue9
  t20 := Tryz.underlying20
  a20 := Tryz.isAgg20
  z20 := Tryz.sizeOf20
  v20 := Tryz.zeroValue20
  t21 := Tryz.underlying21
  a21 := Tryz.isAgg21
  z21 := Tryz.sizeOf21
  v21 := Tryz.zeroValue21
  t37 := Tryz.underlying166
  a37 := Tryz.isAgg166
  z37 := Tryz.sizeOf166
  v37 := Tryz.zeroValue166
  t46 := Tryz.underlying239
  a46 := Tryz.isAgg239
  z46 := Tryz.sizeOf239
  v46 := Tryz.zeroValue239
  t51 := Tryz.underlying237
  a51 := Tryz.isAgg237
  z51 := Tryz.sizeOf237
  v51 := Tryz.zeroValue237
  t53 := Tryz.underlying266
  a53 := Tryz.isAgg266
  z53 := Tryz.sizeOf266
  v53 := Tryz.zeroValue266
  t75 := Tryz.underlying76
  a75 := Tryz.isAgg76
  z75 := Tryz.sizeOf76
  v75 := Tryz.zeroValue76
  t85 := Tryz.underlying244
  a85 := Tryz.isAgg244
  z85 := Tryz.sizeOf244
  v85 := Tryz.zeroValue244
  t127 := Tryz.underlying240
  a127 := Tryz.isAgg240
  z127 := Tryz.sizeOf240
  v127 := Tryz.zeroValue240
  t143 := Tryz.underlying335
  a143 := Tryz.isAgg335
  z143 := Tryz.sizeOf335
  v143 := Tryz.zeroValue335
  t145 := Tryz.underlying337
  a145 := Tryz.isAgg337
  z145 := Tryz.sizeOf337
  v145 := Tryz.zeroValue337
  t167 := Tryz.underlying290
  a167 := Tryz.isAgg290
  z167 := Tryz.sizeOf290
  v167 := Tryz.zeroValue290
  t168 := Tryz.underlying293
  a168 := Tryz.isAgg293
  z168 := Tryz.sizeOf293
  v168 := Tryz.zeroValue293
  t171 := Tryz.underlying265
  a171 := Tryz.isAgg265
  z171 := Tryz.sizeOf265
  v171 := Tryz.zeroValue265
  t173 := Tryz.underlying269
  a173 := Tryz.isAgg269
  z173 := Tryz.sizeOf269
  v173 := Tryz.zeroValue269
  t175 := Tryz.underlying291
  a175 := Tryz.isAgg291
  z175 := Tryz.sizeOf291
  v175 := Tryz.zeroValue291
  t210 := Tryz.underlying322
  a210 := Tryz.isAgg322
  z210 := Tryz.sizeOf322
  v210 := Tryz.zeroValue322
  t212 := Tryz.underlying286
  a212 := Tryz.isAgg286
  z212 := Tryz.sizeOf286
  v212 := Tryz.zeroValue286
  t213 := Tryz.underlying287
  a213 := Tryz.isAgg287
  z213 := Tryz.sizeOf287
  t232 := Tryz.underlying333
  a232 := Tryz.isAgg333
  z232 := Tryz.sizeOf333
  v232 := Tryz.zeroValue333
  t233 := Tryz.underlying334
  a233 := Tryz.isAgg334
  z233 := Tryz.sizeOf334
  v233 := Tryz.zeroValue334
  g15 := by kernel_rfl
  g16 := by kernel_rfl
  g17 := by kernel_rfl
  g18 := by kernel_rfl
  g19 := by kernel_rfl
  t80 := Tryz.underlying172
  a80 := Tryz.isAgg172
  z80 := Tryz.sizeOf172
  v80 := Tryz.zeroValue172
  i0 := by kernel_rfl
  i2 := by kernel_rfl
  i3 := by kernel_rfl
  i4 := by kernel_rfl
  i5 := by kernel_rfl
  i9 := by kernel_rfl
  i20 := by kernel_rfl
  i21 := by kernel_rfl
  i37 := by kernel_rfl
  i46 := by kernel_rfl
  i51 := by kernel_rfl
  i53 := by kernel_rfl
  i75 := by kernel_rfl
  i80 := by kernel_rfl
  i85 := by kernel_rfl
  i127 := by kernel_rfl
  i143 := by kernel_rfl
  i145 := by kernel_rfl
  i167 := by kernel_rfl
  i168 := by kernel_rfl
  i171 := by kernel_rfl
  i173 := by kernel_rfl
  i175 := by kernel_rfl
  i210 := by kernel_rfl
  i212 := by kernel_rfl
  i232 := by kernel_rfl
  i233 := by kernel_rfl
  m15 := by kernel_rfl
  m16 := by kernel_rfl
  m17 := by kernel_rfl
  m18 := by kernel_rfl
  m19 := by kernel_rfl
  c0 := by kernel_rfl
  c2 := by kernel_rfl
  c3 := by kernel_rfl
  c4 := by kernel_rfl
  c5 := by kernel_rfl
  c9 := by kernel_rfl
  c20 := by kernel_rfl
  c21 := by kernel_rfl
  c37 := by kernel_rfl
  c46 := by kernel_rfl
  c51 := by kernel_rfl
  c53 := by kernel_rfl
  c75 := by kernel_rfl
  c80 := by kernel_rfl
  c85 := by kernel_rfl
  c127 := by kernel_rfl
  c143 := by kernel_rfl
  c145 := by kernel_rfl
  c167 := by kernel_rfl
  c168 := by kernel_rfl
  c171 := by kernel_rfl
  c173 := by kernel_rfl
  c175 := by kernel_rfl
  c210 := by kernel_rfl
  c212 := by kernel_rfl
  c213 := by kernel_rfl
  c232 := by kernel_rfl
  c233 := by kernel_rfl
theorem tab_gl (w : World) (g : G) (h : Gl env.ctx w g) : Lib.TabIs Tryz.prog w "internal/strconv.uint64pow10" .u64 Lib.pow10Tab := by
  have h1 := (h (1, _) (List.mem_cons_of_mem _ (List.mem_cons_self ..))).2
  exact (blk_var (by kernel_rfl)).2 h1
set_option maxHeartbeats 1000000 in
theorem idx (s : ByteArray) (c : Int) (w : World) : Calls Tryz.prog 241 #[.string s, .int .u8 c] w fun e w' => e = .returned (.int .i64 (Lib.indexByte s.data.toList c.toNat.toUInt8)) ∧ w' = w := by
  go_enter Tryz.func241, Tryz.ntmps241
  go_wp2
  rw [run_callFunc_extern Tryz.func251 (by kernel_rfl) (by kernel_rfl) (by kernel_rfl) (e := Extern.BytealgIndexByte.indexByte) (by kernel_rfl), Lib.run_indexByteString]
  simp only [Result.andThen]
  rw [Oper.upon_value]
  go_wp2
  go_ret
  exact ⟨rfl, rfl⟩
theorem intr_ok : IntrOk Tryz.prog env := by
  intro f h hf
  by_cases x31 : f = 31
  · subst x31
    have hy : some (isFltH 27 79) = some h := hf
    obtain rfl := Option.some.inj hy
    exact fun args S v S' e h w g base bd cargs hR hgl hl hV => isFlt_ok (f := 31) ⟨Tryz.f31, Tryz.func31, by kernel_rfl, by decide +kernel⟩ A.is_nil A.is_int A.is_flt args S v S' e h w g base bd cargs hR hgl hl hV
  by_cases x30 : f = 30
  · subst x30
    have hy : some (asPtrH 79 81) = some h := hf
    obtain rfl := Option.some.inj hy
    exact fun args S v S' e h w g base bd cargs hR hgl hl hV => asPtr_ok (f := 30) (gv := .iface 199 (.agg #[.pointer (some ⟨9, 76, none⟩)])) (List.mem_cons_self ..) ⟨Tryz.f30, Tryz.func30, by kernel_rfl, by decide +kernel⟩ (fun t w => A.as_nil t w)
      (fun bF t old w hg ht hf0 => (A.as_hit bF t old w hg ht hf0).mono fun e w' ⟨he, hw⟩ => ⟨he, [.cells #[.pointer (some t)] 81, .cells #[.pointer (some ⟨9, 81, none⟩), .pointer (some ⟨w.heap.size, 0, none⟩), .int .u64 150] 130, .cells #[.pointer (some ⟨9, 81, none⟩), .pointer (some ⟨w.heap.size, 0, none⟩), .int .u64 150] 130, .cells #[.pointer (some bF)] 79], hw⟩) args S v S' e h w g base bd cargs hR hgl hl hV
  by_cases x94 : f = 94
  · subst x94
    have hy : some (wsH 168 5) = some h := hf
    obtain rfl := Option.some.inj hy
    exact fun args S v S' e h w g base bd cargs hR hgl hl hV => ws_ok (f := 94) (T := 168) (t := 5) ⟨Tryz.f94, Tryz.func94, by kernel_rfl, by decide +kernel⟩ (fun s => writeString_x lays166 extra s) args S v S' e h w g base bd cargs hR hl hV
  by_cases x96 : f = 96
  · subst x96
    have hy : some (stH 168 5) = some h := hf
    obtain rfl := Option.some.inj hy
    exact fun args S v S' e h w g base bd cargs hR hgl hl hV => st_ok (f := 96) (T := 168) (t := 5) ⟨Tryz.f96, Tryz.func96, by kernel_rfl, by decide +kernel⟩ (string_x lays169 extra) args S v S' e h w g base bd cargs hR hl hV
  by_cases x162 : f = 162
  · subst x162
    have hy : some (colH 164) = some h := hf
    obtain rfl := Option.some.inj hy
    exact fun args S v S' e h w g base bd cargs hR hgl hl hV => col_ok (f := 162) ⟨Tryz.f162, Tryz.func162, by kernel_rfl, by decide +kernel⟩ A.collect_hit args S v S' e h w g base bd cargs hR hgl hl hV
  by_cases x241 : f = 241
  · subst x241
    have hy : some idxH = some h := hf
    obtain rfl := Option.some.inj hy
    exact fun args S v S' e h w g base bd cargs hR hgl hl hV => idx_ok (f := 241) ⟨Tryz.f241, Tryz.func241, by kernel_rfl, by decide +kernel⟩ idx args S v S' e h w g base bd cargs hR hl hV
  by_cases x192 : f = 192
  · subst x192
    have hy : some cntH = some h := hf
    obtain rfl := Option.some.inj hy
    exact fun args S v S' e h w g base bd cargs hR hgl hl hV => cnt_ok (f := 192) ⟨Tryz.f192, Tryz.func192, by kernel_rfl, by decide +kernel⟩ (fun s c w => Any.strings_Count_one lays138 s c w) args S v S' e h w g base bd cargs hR hgl hl hV
  by_cases x103 : f = 103
  · subst x103
    have hy : some fmtH = some h := hf
    obtain rfl := Option.some.inj hy
    exact fun args S v S' e h w g base bd cargs hR hgl hl hV => fmt_ok (f := 103) ⟨Tryz.f103, Tryz.func103, by kernel_rfl, by decide +kernel⟩ tab_gl (fun n h0 h1 w ht => Any.strconv_FormatInt_10 lays173 n h0 h1 w ht) args S v S' e h w g base bd cargs hR hgl hl hV
  by_cases x54 : f = 54
  · subst x54
    have hy : some itoH = some h := hf
    obtain rfl := Option.some.inj hy
    exact fun args S v S' e h w g base bd cargs hR hgl hl hV => ito_ok (f := 54) ⟨Tryz.f54, Tryz.func54, by kernel_rfl, by decide +kernel⟩ tab_gl (fun n h0 h1 w ht => Any.strconv_Itoa lays171 n h0 h1 w ht) args S v S' e h w g base bd cargs hR hgl hl hV
  simp [env, x31, x30, x94, x96, x162, x241, x192, x103, x54] at hf
theorem envOk : EnvOk Tryz.prog env := ⟨ctxOk, fnOf_ok, intr_ok, (by kernel_rfl)⟩
namespace L
theorem rw_ok {f : FuncId} (hf : f = 114) (args : List PV) (S : List SObj) (v : PV) (S' : List SObj) (e : Bool) (h : rwH args S = some (v, S', e))
    (w : World) (g : G) (base : Nat) (bd : Nat → Nat) (cargs : Array Value) (hR : R S w g base bd) (hgl : Gl M.env.ctx w g) (hl : args.length = cargs.size) (hV : ∀ (i : Nat) (c : PV), args[i]? = some c → V g w S.length c (cargs.getD i undef)) :
    (∃ fn, Tryz.prog.funcs[f]? = some fn ∧ fn.body.isNone = false ∧ fn.name ≠ "runtime.NumGoroutine") ∧ Calls Tryz.prog f cargs w (fun en w' => ∃ rv, en = .returned rv ∧ Go.Pam.Good base bd S g w v S' e rv w') := by
  subst hf
  unfold rwH at h
  split at h
  · rename_i r hr; injection h with h; subst h; exact up_ok envOk rw0 rfl _ _ _ _ _ hr w g base bd cargs hR hgl hl hV
  split at h
  · rename_i r hr; injection h with h; subst h; exact up_ok envOk rw1 rfl _ _ _ _ _ hr w g base bd cargs hR hgl hl hV
  split at h
  · rename_i r hr; injection h with h; subst h; exact up_ok envOk rw2 rfl _ _ _ _ _ hr w g base bd cargs hR hgl hl hV
  exact up_ok envOk rw3 rfl _ _ _ _ _ h w g base bd cargs hR hgl hl hV
theorem kn_ok {f : FuncId} (hf : f = 4) (args : List PV) (S : List SObj) (v : PV) (S' : List SObj) (e : Bool) (h : knH args S = some (v, S', e))
    (w : World) (g : G) (base : Nat) (bd : Nat → Nat) (cargs : Array Value) (hR : R S w g base bd) (hgl : Gl M.env.ctx w g) (hl : args.length = cargs.size) (hV : ∀ (i : Nat) (c : PV), args[i]? = some c → V g w S.length c (cargs.getD i undef)) :
    (∃ fn, Tryz.prog.funcs[f]? = some fn ∧ fn.body.isNone = false ∧ fn.name ≠ "runtime.NumGoroutine") ∧ Calls Tryz.prog f cargs w (fun en w' => ∃ rv, en = .returned rv ∧ Go.Pam.Good base bd S g w v S' e rv w') := by
  subst hf
  unfold knH at h
  split at h
  case h_2 => cases h
  injection h with h; injection h with h1 h2; injection h2 with h2 h3; subst h1 h2 h3
  obtain ⟨k, hk⟩ := evw_of (known_true S)
  exact ev_sound envOk k _ _ _ _ _ _ hk w g base bd cargs hR hgl hl hV
theorem intr_ok : IntrOk Tryz.prog env := by
  intro f h hf
  by_cases x114 : f = 114
  · subst x114
    have hy : some rwH = some h := hf
    obtain rfl := Option.some.inj hy
    exact fun args S v S' e h w g base bd cargs hR hgl hl hV => rw_ok rfl args S v S' e h w g base bd cargs hR hgl hl hV
  by_cases x4 : f = 4
  · subst x4
    have hy : some knH = some h := hf
    obtain rfl := Option.some.inj hy
    exact fun args S v S' e h w g base bd cargs hR hgl hl hV => kn_ok rfl args S v S' e h w g base bd cargs hR hgl hl hV
  by_cases x145 : f = 145
  · subst x145
    have hy : some piH = some h := hf
    obtain rfl := Option.some.inj hy
    exact fun args S v S' e h w g base bd cargs hR hgl hl hV => pi_ok (f := 145) (t5 := 5) ⟨Tryz.f145, Tryz.func145, by kernel_rfl, by decide +kernel⟩ (fun s hs n hn w => Any.strconv_ParseInt_10_at64_ok lays174 s hs n hn w) args S v S' e h w g base bd cargs hR hgl hl hV
  have hf' : M.env.intr f = some h := by
    simpa [env, x114, x4, x145] using hf
  exact M.intr_ok f h hf'
theorem envOk : EnvOk Tryz.prog env := ⟨ctxOk, fnOf_ok, intr_ok, (by kernel_rfl)⟩
end L
end Go.Proofs.YtecimmaoilignaaGreatDoor.M

/- errors.Is, builders, slices.Collect: the seat has the library's bodies, so their laws hold. (Made by a program of mine, wi.py.) -/
import Derived.Test.YtbondebiijokaaaGreatDoorChecked
import Derived.Test.YtbondebiijokaaaGreatDoorPamM4
import Derived.Test.YtbondebiijokaaaGreatDoorRE
import Derived.Test.YtbondebiijokaaaGreatDoorRIs
import Derived.Test.YtbondebiijokaaaGreatDoorRC
import Derived.Test.YtbondebiijokaaaGreatDoorRG
namespace Go.Proofs.YtbondebiijokaaaGreatDoor.M
open Go Go.Pam Go.Shelf Go.Proofs
set_option maxRecDepth 100000
set_option linter.unusedVariables false
set_option linter.unusedSimpArgs false
def ren : Ren := ⟨fun x => match x with
  | 166 => 106
  | 169 => 108
  | 240 => 142
  | 276 => 163
  | n => n, fun x => match x with
  | 0 => 0
  | 3 => 3
  | 4 => 4
  | 5 => 5
  | 9 => 9
  | 20 => 20
  | 37 => 162
  | 70 => 161
  | 72 => 164
  | 75 => 122
  | 80 => 168
  | 127 => 217
  | 164 => 230
  | n => n, fun n => n⟩
theorem lays166 : Lays.n166 Tryz.prog ren where
  mixed := by kernel_rfl
  f166 := Tryz.func106.trans (congrArg some (by kernel_rfl : Tryz.f106 = Body.n166 ren))
  f240 := Tryz.func142.trans (congrArg some (by kernel_rfl : Tryz.f142 = Body.n240 ren))
  f276 := Tryz.func163.trans (congrArg some (by kernel_rfl : Tryz.f163 = Body.n276 ren))
  t0 := Tryz.underlying0
  a0 := Tryz.isAgg0
  z0 := Tryz.sizeOf0
  v0 := Tryz.zeroValue0
  t3 := Tryz.underlying3
  a3 := Tryz.isAgg3
  z3 := Tryz.sizeOf3
  v3 := Tryz.zeroValue3
  t4 := Tryz.underlying4
  a4 := Tryz.isAgg4
  z4 := Tryz.sizeOf4
  v4 := Tryz.zeroValue4
  t9 := Tryz.underlying9
  a9 := Tryz.isAgg9
  z9 := Tryz.sizeOf9
  v9 := Tryz.zeroValue9
  t20 := Tryz.underlying20
  a20 := Tryz.isAgg20
  z20 := Tryz.sizeOf20
  v20 := Tryz.zeroValue20
  t37 := Tryz.underlying162
  a37 := Tryz.isAgg162
  z37 := Tryz.sizeOf162
  v37 := Tryz.zeroValue162
  t70 := Tryz.underlying161
  a70 := Tryz.isAgg161
  z70 := Tryz.sizeOf161
  v70 := Tryz.zeroValue161
  t72 := Tryz.underlying164
  a72 := Tryz.isAgg164
  z72 := Tryz.sizeOf164
  v72 := Tryz.zeroValue164
  t75 := Tryz.underlying122
  a75 := Tryz.isAgg122
  z75 := Tryz.sizeOf122
  v75 := Tryz.zeroValue122
  t164 := Tryz.underlying230
  a164 := Tryz.isAgg230
  z164 := Tryz.sizeOf230
  v164 := Tryz.zeroValue230
theorem lays169 : Lays.n169 Tryz.prog ren where
  mixed := by kernel_rfl
  f169 := Tryz.func108.trans (congrArg some (by kernel_rfl : Tryz.f108 = Body.n169 ren))
  t0 := Tryz.underlying0
  a0 := Tryz.isAgg0
  z0 := Tryz.sizeOf0
  v0 := Tryz.zeroValue0
  t3 := Tryz.underlying3
  a3 := Tryz.isAgg3
  z3 := Tryz.sizeOf3
  v3 := Tryz.zeroValue3
  t9 := Tryz.underlying9
  a9 := Tryz.isAgg9
  z9 := Tryz.sizeOf9
  v9 := Tryz.zeroValue9
  t37 := Tryz.underlying162
  a37 := Tryz.isAgg162
  z37 := Tryz.sizeOf162
  v37 := Tryz.zeroValue162
  t70 := Tryz.underlying161
  a70 := Tryz.isAgg161
  z70 := Tryz.sizeOf161
  v70 := Tryz.zeroValue161
  t72 := Tryz.underlying164
  a72 := Tryz.isAgg164
  z72 := Tryz.sizeOf164
  v72 := Tryz.zeroValue164
  t127 := Tryz.underlying217
  a127 := Tryz.isAgg217
  z127 := Tryz.sizeOf217
  v127 := Tryz.zeroValue217
theorem extra : Builder.Extra Tryz.prog ren where
  sizeBuilder := by kernel_rfl
  liesBuilder := by kernel_rfl
  t5 := Tryz.underlying5
  a5 := Tryz.isAgg5
  z5 := Tryz.sizeOf5
  v5 := Tryz.zeroValue5
  infoByte := by kernel_rfl
  cellsByte := by kernel_rfl
  sizeByte := by kernel_rfl
  neB5 := by decide
theorem intr_ok : IntrOk Tryz.prog env := by
  intro f h hf
  by_cases x26 : f = 26
  · subst x26
    have hy : some (numH 24) = some h := hf
    obtain rfl := Option.some.inj hy
    exact fun args S v S' e h w g base bd cargs hR hgl hl hV => num_ok (f := 26) ⟨Tryz.f26, Tryz.func26, by kernel_rfl, by decide +kernel⟩ A.is_nil A.is_int args S v S' e h w g base bd cargs hR hgl hl hV
  by_cases x106 : f = 106
  · subst x106
    have hy : some (wsH 164 5) = some h := hf
    obtain rfl := Option.some.inj hy
    exact fun args S v S' e h w g base bd cargs hR hgl hl hV => ws_ok (f := 106) (T := 164) (t := 5) ⟨Tryz.f106, Tryz.func106, by kernel_rfl, by decide +kernel⟩ (fun s => writeString_x lays166 extra s) args S v S' e h w g base bd cargs hR hl hV
  by_cases x108 : f = 108
  · subst x108
    have hy : some (stH 164 5) = some h := hf
    obtain rfl := Option.some.inj hy
    exact fun args S v S' e h w g base bd cargs hR hgl hl hV => st_ok (f := 108) (T := 164) (t := 5) ⟨Tryz.f108, Tryz.func108, by kernel_rfl, by decide +kernel⟩ (string_x lays169 extra) args S v S' e h w g base bd cargs hR hl hV
  by_cases x158 : f = 158
  · subst x158
    have hy : some (colH 160) = some h := hf
    obtain rfl := Option.some.inj hy
    exact fun args S v S' e h w g base bd cargs hR hgl hl hV => col_ok (f := 158) ⟨Tryz.f158, Tryz.func158, by kernel_rfl, by decide +kernel⟩ A.collect_hit args S v S' e h w g base bd cargs hR hgl hl hV
  simp [env, x26, x106, x108, x158] at hf
end Go.Proofs.YtbondebiijokaaaGreatDoor.M

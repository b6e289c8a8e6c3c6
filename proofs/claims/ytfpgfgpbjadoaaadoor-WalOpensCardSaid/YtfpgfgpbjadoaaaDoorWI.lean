/- errors.Is, errors.As, builders: the seat has the library's bodies, so their laws hold. (Made by a program of mine, wi.py.) -/
import Derived.Test.YtfpgfgpbjadoaaaDoorChecked
import Derived.Test.YtfpgfgpbjadoaaaDoorPamM4
import Derived.Test.YtfpgfgpbjadoaaaDoorWCl
import Derived.Test.YtfpgfgpbjadoaaaDoorWAs
import Derived.Test.YtfpgfgpbjadoaaaDoorWIs
import Derived.Test.YtfpgfgpbjadoaaaDoorWDe
namespace Go.Proofs.YtfpgfgpbjadoaaaDoor.M
open Go Go.Pam Go.Shelf Go.Proofs
set_option maxRecDepth 100000
set_option linter.unusedVariables false
set_option linter.unusedSimpArgs false
def ren : Ren := ⟨fun x => match x with
  | 166 => 37
  | 169 => 38
  | 240 => 46
  | 276 => 48
  | n => n, fun x => match x with
  | 0 => 0
  | 3 => 3
  | 4 => 4
  | 5 => 5
  | 9 => 9
  | 20 => 20
  | 37 => 35
  | 70 => 86
  | 72 => 88
  | 75 => 48
  | 80 => 91
  | 127 => 113
  | 164 => 75
  | n => n, fun n => n⟩
theorem lays166 : Lays.n166 Tryd.prog ren where
  mixed := by kernel_rfl
  f166 := Tryd.func37.trans (congrArg some (by kernel_rfl : Tryd.f37 = Body.n166 ren))
  f240 := Tryd.func46.trans (congrArg some (by kernel_rfl : Tryd.f46 = Body.n240 ren))
  f276 := Tryd.func48.trans (congrArg some (by kernel_rfl : Tryd.f48 = Body.n276 ren))
  t0 := Tryd.underlying0
  a0 := Tryd.isAgg0
  z0 := Tryd.sizeOf0
  v0 := Tryd.zeroValue0
  t3 := Tryd.underlying3
  a3 := Tryd.isAgg3
  z3 := Tryd.sizeOf3
  v3 := Tryd.zeroValue3
  t4 := Tryd.underlying4
  a4 := Tryd.isAgg4
  z4 := Tryd.sizeOf4
  v4 := Tryd.zeroValue4
  t9 := Tryd.underlying9
  a9 := Tryd.isAgg9
  z9 := Tryd.sizeOf9
  v9 := Tryd.zeroValue9
  t20 := Tryd.underlying20
  a20 := Tryd.isAgg20
  z20 := Tryd.sizeOf20
  v20 := Tryd.zeroValue20
  t37 := Tryd.underlying35
  a37 := Tryd.isAgg35
  z37 := Tryd.sizeOf35
  v37 := Tryd.zeroValue35
  t70 := Tryd.underlying86
  a70 := Tryd.isAgg86
  z70 := Tryd.sizeOf86
  v70 := Tryd.zeroValue86
  t72 := Tryd.underlying88
  a72 := Tryd.isAgg88
  z72 := Tryd.sizeOf88
  v72 := Tryd.zeroValue88
  t75 := Tryd.underlying48
  a75 := Tryd.isAgg48
  z75 := Tryd.sizeOf48
  v75 := Tryd.zeroValue48
  t164 := Tryd.underlying75
  a164 := Tryd.isAgg75
  z164 := Tryd.sizeOf75
  v164 := Tryd.zeroValue75
theorem lays169 : Lays.n169 Tryd.prog ren where
  mixed := by kernel_rfl
  f169 := Tryd.func38.trans (congrArg some (by kernel_rfl : Tryd.f38 = Body.n169 ren))
  t0 := Tryd.underlying0
  a0 := Tryd.isAgg0
  z0 := Tryd.sizeOf0
  v0 := Tryd.zeroValue0
  t3 := Tryd.underlying3
  a3 := Tryd.isAgg3
  z3 := Tryd.sizeOf3
  v3 := Tryd.zeroValue3
  t9 := Tryd.underlying9
  a9 := Tryd.isAgg9
  z9 := Tryd.sizeOf9
  v9 := Tryd.zeroValue9
  t37 := Tryd.underlying35
  a37 := Tryd.isAgg35
  z37 := Tryd.sizeOf35
  v37 := Tryd.zeroValue35
  t70 := Tryd.underlying86
  a70 := Tryd.isAgg86
  z70 := Tryd.sizeOf86
  v70 := Tryd.zeroValue86
  t72 := Tryd.underlying88
  a72 := Tryd.isAgg88
  z72 := Tryd.sizeOf88
  v72 := Tryd.zeroValue88
  t127 := Tryd.underlying113
  a127 := Tryd.isAgg113
  z127 := Tryd.sizeOf113
  v127 := Tryd.zeroValue113
theorem extra : Builder.Extra Tryd.prog ren where
  sizeBuilder := by kernel_rfl
  liesBuilder := by kernel_rfl
  t5 := Tryd.underlying5
  a5 := Tryd.isAgg5
  z5 := Tryd.sizeOf5
  v5 := Tryd.zeroValue5
  infoByte := by kernel_rfl
  cellsByte := by kernel_rfl
  sizeByte := by kernel_rfl
  neB5 := by decide
theorem intr_ok : IntrOk Tryd.prog env := by
  intro f h hf
  by_cases x22 : f = 22
  · subst x22
    have hy : some (isFltH 24 51) = some h := hf
    obtain rfl := Option.some.inj hy
    exact fun args S v S' e h w g base bd cargs hR hgl hl hV => isFlt_ok (f := 22) ⟨Tryd.f22, Tryd.func22, by kernel_rfl, by decide +kernel⟩ A.is_nil A.is_int A.is_flt args S v S' e h w g base bd cargs hR hgl hl hV
  by_cases x23 : f = 23
  · subst x23
    have hy : some (asPtrH 51 54) = some h := hf
    obtain rfl := Option.some.inj hy
    exact fun args S v S' e h w g base bd cargs hR hgl hl hV => asPtr_ok (f := 23) (gv := .iface 98 (.agg #[.pointer (some ⟨1, 48, none⟩)])) (List.mem_singleton.2 rfl) ⟨Tryd.f23, Tryd.func23, by kernel_rfl, by decide +kernel⟩ (fun t w => A.as_nil t w)
      (fun bF t old w hg ht hf0 => (A.as_hit bF t old w hg ht hf0).mono fun e w' ⟨he, hw⟩ => ⟨he, [.cells #[.pointer (some t)] 54, .cells #[.pointer (some ⟨1, 54, none⟩), .pointer (some ⟨w.heap.size, 0, none⟩), .int .u64 150] 78, .cells #[.pointer (some ⟨1, 54, none⟩), .pointer (some ⟨w.heap.size, 0, none⟩), .int .u64 150] 78, .cells #[.pointer (some bF)] 51], hw⟩) args S v S' e h w g base bd cargs hR hgl hl hV
  by_cases x27 : f = 27
  · subst x27
    have hy : some cloneH = some h := hf
    obtain rfl := Option.some.inj hy
    exact fun args S v S' e h w g base bd cargs hR hgl hl hV => clone_ok (f := 27) ⟨Tryd.f27, Tryd.func27, by kernel_rfl, by decide +kernel⟩ A.clone_hit args S v S' e h w g base bd cargs hR hgl hl hV
  by_cases x37 : f = 37
  · subst x37
    have hy : some (wsH 88 5) = some h := hf
    obtain rfl := Option.some.inj hy
    exact fun args S v S' e h w g base bd cargs hR hgl hl hV => ws_ok (f := 37) (T := 88) (t := 5) ⟨Tryd.f37, Tryd.func37, by kernel_rfl, by decide +kernel⟩ (fun s => writeString_x lays166 extra s) args S v S' e h w g base bd cargs hR hl hV
  by_cases x38 : f = 38
  · subst x38
    have hy : some (stH 88 5) = some h := hf
    obtain rfl := Option.some.inj hy
    exact fun args S v S' e h w g base bd cargs hR hgl hl hV => st_ok (f := 38) (T := 88) (t := 5) ⟨Tryd.f38, Tryd.func38, by kernel_rfl, by decide +kernel⟩ (string_x lays169 extra) args S v S' e h w g base bd cargs hR hl hV
  simp [env, x22, x23, x27, x37, x38] at hf
end Go.Proofs.YtfpgfgpbjadoaaaDoor.M

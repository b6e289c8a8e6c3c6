/- errors.As and strings.Join: the seat has the library's bodies, so their laws hold. (Made by programs of mine, shelfgen.py, msi.py.) -/
import Derived.Test.YtbinlabnilidiaaGreatDoorChecked
import Derived.Test.YtbinlabnilidiaaGreatDoorPamM4
import Derived.Test.YtbinlabnilidiaaGreatDoorMsAt
import Derived.Test.YtbinlabnilidiaaGreatDoorMDe
import Derived.Lib.Strings
import Derived.Lib.Slices
import Derived.Lib.Walk
import Derived.Lib.Bytealg
namespace Go.Proofs.YtbinlabnilidiaaGreatDoor.M
open Go Go.Pam Go.Shelf Go.Proofs
set_option maxRecDepth 100000
set_option linter.unusedVariables false
set_option linter.unusedSimpArgs false
def ren : Ren := ⟨fun x => match x with
 | 156 => 107
 | 165 => 111
 | 166 => 112
 | 167 => 114
 | 169 => 113
 | 240 => 114
 | 241 => 115
 | 276 => 116
 | 277 => 117
 | n => n, fun x => match x with
 | 0 => 0
 | 3 => 3
 | 4 => 4
 | 5 => 5
 | 9 => 9
 | 20 => 20
 | 31 => 22
 | 37 => 40
 | 70 => 157
 | 72 => 159
 | 75 => 73
 | 76 => 161
 | 80 => 163
 | 127 => 164
 | 164 => 100
 | n => n, fun n => n⟩
theorem Xo9 : Lays.n156 Tryz.prog ren where
 mixed := by kernel_rfl
 f156 := Tryz.func107.trans (congrArg some (by kernel_rfl : Tryz.f107 = Body.n156 ren))
 f165 := Tryz.func111.trans (congrArg some (by kernel_rfl : Tryz.f111 = Body.n165 ren))
 f166 := Tryz.func112.trans (congrArg some (by kernel_rfl : Tryz.f112 = Body.n166 ren))
 f169 := Tryz.func113.trans (congrArg some (by kernel_rfl : Tryz.f113 = Body.n169 ren))
 f240 := Tryz.func114.trans (congrArg some (by kernel_rfl : Tryz.f114 = Body.n240 ren))
 f241 := Tryz.func115.trans (congrArg some (by kernel_rfl : Tryz.f115 = Body.n241 ren))
 f276 := Tryz.func116.trans (congrArg some (by kernel_rfl : Tryz.f116 = Body.n276 ren))
 f277 := Tryz.func117.trans (congrArg some (by kernel_rfl : Tryz.f117 = Body.n277 ren))
 t0 := Tryz.underlying0
 a0 := Tryz.isAgg0
 z0 := Tryz.sizeOf0
 v0 := Tryz.zeroValue0
 t3 := Tryz.underlying3
 a3 := Tryz.isAgg3
 z3 := Tryz.sizeOf3
 v3 := Tryz.zeroValue3
 t4 := Tryz.underlying4
 a4 := Tryz.isAgg4
 z4 := Tryz.sizeOf4
 v4 := Tryz.zeroValue4
 t9 := Tryz.underlying9
 a9 := Tryz.isAgg9
 z9 := Tryz.sizeOf9
 v9 := Tryz.zeroValue9
 t20 := Tryz.underlying20
 a20 := Tryz.isAgg20
 z20 := Tryz.sizeOf20
 v20 := Tryz.zeroValue20
 t31 := Tryz.underlying22
 a31 := Tryz.isAgg22
 z31 := Tryz.sizeOf22
 v31 := Tryz.zeroValue22
 t37 := Tryz.underlying40
 a37 := Tryz.isAgg40
 z37 := Tryz.sizeOf40
 v37 := Tryz.zeroValue40
 t70 := Tryz.underlying157
 a70 := Tryz.isAgg157
 z70 := Tryz.sizeOf157
 v70 := Tryz.zeroValue157
 t72 := Tryz.underlying159
 a72 := Tryz.isAgg159
 z72 := Tryz.sizeOf159
 v72 := Tryz.zeroValue159
 t75 := Tryz.underlying73
 a75 := Tryz.isAgg73
 z75 := Tryz.sizeOf73
 v75 := Tryz.zeroValue73
 t76 := Tryz.underlying161
 a76 := Tryz.isAgg161
 z76 := Tryz.sizeOf161
 v76 := Tryz.zeroValue161
 t127 := Tryz.underlying164
 a127 := Tryz.isAgg164
 z127 := Tryz.sizeOf164
 v127 := Tryz.zeroValue164
 t164 := Tryz.underlying100
 a164 := Tryz.isAgg100
 z164 := Tryz.sizeOf100
 v164 := Tryz.zeroValue100
theorem Xwz : Builder.Extra Tryz.prog ren where
 sizeBuilder := by kernel_rfl
 liesBuilder := by kernel_rfl
 t5 := Tryz.underlying5
 a5 := Tryz.isAgg5
 z5 := Tryz.sizeOf5
 v5 := Tryz.zeroValue5
 infoByte := by kernel_rfl
 cellsByte := by kernel_rfl
 sizeByte := by kernel_rfl
 neB5 := by decide
theorem XoA : Xmi Tryz.prog env := by
 intro f h hf
 by_cases x46 : f = 46
 ·subst x46
  have hy : some (Xfe 31 96 77) = some h := hf
  obtain rfl := Option.some.inj hy
  exact XlA (f := 46) (gv := .iface 134 (.agg #[.pointer (some ⟨2, 73, none⟩)])) (List.mem_singleton.2 rfl) ⟨Tryz.f46, Tryz.func46, by kernel_rfl, by decide +kernel⟩ (fun t w => A.as_nil t w)
   (fun bF t n old w hg hF hF0 hFo ht hf0 => (A.as_hit bF t n old w hg hF hF0 hFo ht hf0).mono fun e w' ⟨he, hw⟩ => ⟨he, [.cells #[.pointer (some t)] 77, .cells #[.pointer (some ⟨2, 77, none⟩), .pointer (some ⟨w.heap.size, 0, none⟩), .int .u64 150] 103, .cells #[.pointer (some ⟨2, 77, none⟩), .pointer (some ⟨w.heap.size, 0, none⟩), .int .u64 150] 103, .cells #[.int .i64 n] 31], hw⟩)
 by_cases x107 : f = 107
 ·subst x107
  have hy : some Xkh = some h := hf
  obtain rfl := Option.some.inj hy
  exact fun args S v S' e h w g base bd cargs hR hgl hl hV => XmJ Xo9 Xwz ⟨Tryz.f107, Tryz.func107, by kernel_rfl, by decide +kernel⟩ args S v S' e h w g base bd cargs hR hl hV
 simp [env, x46, x107] at hf
end Go.Proofs.YtbinlabnilidiaaGreatDoor.M

/- errors.As and strings.Join: the seat has the library's bodies, so their laws hold. (Made by programs of mine, shelfgen.py, msi.py.) -/
import Derived.Test.YtbinlabnilidiaaDoorChecked
import Derived.Test.YtbinlabnilidiaaDoorPamM4
import Derived.Test.YtbinlabnilidiaaDoorMsAt
import Derived.Test.YtbinlabnilidiaaDoorMDe
import Derived.Lib.Strings
import Derived.Lib.Slices
import Derived.Lib.Walk
import Derived.Lib.Bytealg
namespace Go.Proofs.YtbinlabnilidiaaDoor.M
open Go Go.Pam Go.Shelf Go.Proofs
set_option maxRecDepth 100000
set_option linter.unusedVariables false
set_option linter.unusedSimpArgs false

def ren : Ren := ⟨fun x => match x with
 | 156 => 76
 | 165 => 77
 | 166 => 78
 | 167 => 80
 | 169 => 79
 | 240 => 80
 | 241 => 81
 | 276 => 82
 | 277 => 83
 | n => n, fun x => match x with
 | 0 => 0
 | 3 => 3
 | 4 => 4
 | 5 => 5
 | 9 => 9
 | 20 => 20
 | 31 => 25
 | 37 => 102
 | 70 => 144
 | 72 => 146
 | 75 => 52
 | 76 => 148
 | 80 => 150
 | 127 => 151
 | 164 => 84
 | n => n, fun n => n⟩
theorem lays156 : Lays.n156 Tryd.prog ren where
 mixed := by kernel_rfl
 f156 := Tryd.func76.trans (congrArg some (by kernel_rfl : Tryd.f76 = Body.n156 ren))
 f165 := Tryd.func77.trans (congrArg some (by kernel_rfl : Tryd.f77 = Body.n165 ren))
 f166 := Tryd.func78.trans (congrArg some (by kernel_rfl : Tryd.f78 = Body.n166 ren))
 f169 := Tryd.func79.trans (congrArg some (by kernel_rfl : Tryd.f79 = Body.n169 ren))
 f240 := Tryd.func80.trans (congrArg some (by kernel_rfl : Tryd.f80 = Body.n240 ren))
 f241 := Tryd.func81.trans (congrArg some (by kernel_rfl : Tryd.f81 = Body.n241 ren))
 f276 := Tryd.func82.trans (congrArg some (by kernel_rfl : Tryd.f82 = Body.n276 ren))
 f277 := Tryd.func83.trans (congrArg some (by kernel_rfl : Tryd.f83 = Body.n277 ren))
 t0 := Tryd.underlying0
 a0 := Tryd.isAgg0
 z0 := Tryd.sizeOf0
 v0 := Tryd.zeroValue0
 t3 := Tryd.underlying3
 a3 := Tryd.isAgg3
 z3 := Tryd.sizeOf3
 v3 := Tryd.zeroValue3
 t4 := Tryd.underlying4
 a4 := Tryd.isAgg4
 z4 := Tryd.sizeOf4
 v4 := Tryd.zeroValue4
 t9 := Tryd.underlying9
 a9 := Tryd.isAgg9
 z9 := Tryd.sizeOf9
 v9 := Tryd.zeroValue9
 t20 := Tryd.underlying20
 a20 := Tryd.isAgg20
 z20 := Tryd.sizeOf20
 v20 := Tryd.zeroValue20
 t31 := Tryd.underlying25
 a31 := Tryd.isAgg25
 z31 := Tryd.sizeOf25
 v31 := Tryd.zeroValue25
 t37 := Tryd.underlying102
 a37 := Tryd.isAgg102
 z37 := Tryd.sizeOf102
 v37 := Tryd.zeroValue102
 t70 := Tryd.underlying144
 a70 := Tryd.isAgg144
 z70 := Tryd.sizeOf144
 v70 := Tryd.zeroValue144
 t72 := Tryd.underlying146
 a72 := Tryd.isAgg146
 z72 := Tryd.sizeOf146
 v72 := Tryd.zeroValue146
 t75 := Tryd.underlying52
 a75 := Tryd.isAgg52
 z75 := Tryd.sizeOf52
 v75 := Tryd.zeroValue52
 t76 := Tryd.underlying148
 a76 := Tryd.isAgg148
 z76 := Tryd.sizeOf148
 v76 := Tryd.zeroValue148
 t127 := Tryd.underlying151
 a127 := Tryd.isAgg151
 z127 := Tryd.sizeOf151
 v127 := Tryd.zeroValue151
 t164 := Tryd.underlying84
 a164 := Tryd.isAgg84
 z164 := Tryd.sizeOf84
 v164 := Tryd.zeroValue84
theorem extra : Builder.Extra Tryd.prog ren where
 sizeBuilder := by kernel_rfl
 liesBuilder := by kernel_rfl
 t5 := Tryd.underlying5
 a5 := Tryd.isAgg5
 z5 := Tryd.sizeOf5
 v5 := Tryd.zeroValue5
 infoByte := by kernel_rfl
 cellsByte := by kernel_rfl
 sizeByte := by kernel_rfl
 neB5 := by decide
theorem intr_ok : IntrOk Tryd.prog env := by
 intro f h hf
 by_cases x19 : f = 19
 ·subst x19
  have hy : some (asNumH 32 80 56) = some h := hf
  obtain rfl := Option.some.inj hy
  exact asNum_ok (f := 19) (gv := .iface 119 (.agg #[.pointer (some ⟨2, 52, none⟩)])) (List.mem_singleton.2 rfl) ⟨Tryd.f19, Tryd.func19, by kernel_rfl, by decide +kernel⟩ (fun t w => A.as_nil t w)
   (fun bF t n old w hg hF hF0 hFo ht hf0 => (A.as_hit bF t n old w hg hF hF0 hFo ht hf0).mono fun e w' ⟨he, hw⟩ => ⟨he, [.cells #[.pointer (some t)] 56, .cells #[.pointer (some ⟨2, 56, none⟩), .pointer (some ⟨w.heap.size, 0, none⟩), .int .u64 150] 87, .cells #[.pointer (some ⟨2, 56, none⟩), .pointer (some ⟨w.heap.size, 0, none⟩), .int .u64 150] 87, .cells #[.int .i64 n] 32], hw⟩)
 by_cases x76 : f = 76
 ·subst x76
  have hy : some joinH = some h := hf
  obtain rfl := Option.some.inj hy
  exact fun args S v S' e h w g base bd cargs hR hgl hl hV => join_ok lays156 extra ⟨Tryd.f76, Tryd.func76, by kernel_rfl, by decide +kernel⟩ args S v S' e h w g base bd cargs hR hl hV
 simp [env, x19, x76] at hf
end Go.Proofs.YtbinlabnilidiaaDoor.M

/- Builders, strings.Join, strings.IndexByte: the seat has the library's bodies, so their laws hold. (Made by a program of mine, shelfgen.py.) -/
import Derived.Test.YthkjepoaddfoiaaChecked
import Derived.Test.YthkjepoaddfoiaaPamM4
import Derived.Test.YthkjepoaddfoiaaFDe
import Derived.Lib.Strings
import Derived.Lib.Slices
import Derived.Lib.Walk
import Derived.Lib.Bytealg
namespace Go.Proofs.Ythkjepoaddfoiaa.M
open Go Go.Pam Go.Shelf Go.Proofs
set_option maxRecDepth 100000
set_option linter.unusedVariables false
set_option linter.unusedSimpArgs false

def ren : Ren := ⟨fun x => match x with
 | 156 => 38
 | 165 => 45
 | 166 => 35
 | 167 => 44
 | 169 => 36
 | 240 => 43
 | 241 => 48
 | 276 => 47
 | 277 => 50
 | n => n, fun x => match x with
 | 0 => 0
 | 3 => 3
 | 4 => 4
 | 5 => 5
 | 9 => 9
 | 20 => 20
 | 31 => 22
 | 37 => 36
 | 70 => 53
 | 72 => 55
 | 75 => 57
 | 76 => 58
 | 80 => 61
 | 127 => 67
 | 164 => 70
 | n => n, fun n => n⟩
theorem lays156 : Lays.n156 Try.prog ren where
 mixed := by kernel_rfl
 f156 := Try.func38.trans (congrArg some (by kernel_rfl : Try.f38 = Body.n156 ren))
 f165 := Try.func45.trans (congrArg some (by kernel_rfl : Try.f45 = Body.n165 ren))
 f166 := Try.func35.trans (congrArg some (by kernel_rfl : Try.f35 = Body.n166 ren))
 f169 := Try.func36.trans (congrArg some (by kernel_rfl : Try.f36 = Body.n169 ren))
 f240 := Try.func43.trans (congrArg some (by kernel_rfl : Try.f43 = Body.n240 ren))
 f241 := Try.func48.trans (congrArg some (by kernel_rfl : Try.f48 = Body.n241 ren))
 f276 := Try.func47.trans (congrArg some (by kernel_rfl : Try.f47 = Body.n276 ren))
 f277 := Try.func50.trans (congrArg some (by kernel_rfl : Try.f50 = Body.n277 ren))
 t0 := Try.underlying0
 a0 := Try.isAgg0
 z0 := Try.sizeOf0
 v0 := Try.zeroValue0
 t3 := Try.underlying3
 a3 := Try.isAgg3
 z3 := Try.sizeOf3
 v3 := Try.zeroValue3
 t4 := Try.underlying4
 a4 := Try.isAgg4
 z4 := Try.sizeOf4
 v4 := Try.zeroValue4
 t9 := Try.underlying9
 a9 := Try.isAgg9
 z9 := Try.sizeOf9
 v9 := Try.zeroValue9
 t20 := Try.underlying20
 a20 := Try.isAgg20
 z20 := Try.sizeOf20
 v20 := Try.zeroValue20
 t31 := Try.underlying22
 a31 := Try.isAgg22
 z31 := Try.sizeOf22
 v31 := Try.zeroValue22
 t37 := Try.underlying36
 a37 := Try.isAgg36
 z37 := Try.sizeOf36
 v37 := Try.zeroValue36
 t70 := Try.underlying53
 a70 := Try.isAgg53
 z70 := Try.sizeOf53
 v70 := Try.zeroValue53
 t72 := Try.underlying55
 a72 := Try.isAgg55
 z72 := Try.sizeOf55
 v72 := Try.zeroValue55
 t75 := Try.underlying57
 a75 := Try.isAgg57
 z75 := Try.sizeOf57
 v75 := Try.zeroValue57
 t76 := Try.underlying58
 a76 := Try.isAgg58
 z76 := Try.sizeOf58
 v76 := Try.zeroValue58
 t127 := Try.underlying67
 a127 := Try.isAgg67
 z127 := Try.sizeOf67
 v127 := Try.zeroValue67
 t164 := Try.underlying70
 a164 := Try.isAgg70
 z164 := Try.sizeOf70
 v164 := Try.zeroValue70
theorem lays166 : Lays.n166 Try.prog ren where
 mixed := by kernel_rfl
 f166 := Try.func35.trans (congrArg some (by kernel_rfl : Try.f35 = Body.n166 ren))
 f240 := Try.func43.trans (congrArg some (by kernel_rfl : Try.f43 = Body.n240 ren))
 f276 := Try.func47.trans (congrArg some (by kernel_rfl : Try.f47 = Body.n276 ren))
 t0 := Try.underlying0
 a0 := Try.isAgg0
 z0 := Try.sizeOf0
 v0 := Try.zeroValue0
 t3 := Try.underlying3
 a3 := Try.isAgg3
 z3 := Try.sizeOf3
 v3 := Try.zeroValue3
 t4 := Try.underlying4
 a4 := Try.isAgg4
 z4 := Try.sizeOf4
 v4 := Try.zeroValue4
 t9 := Try.underlying9
 a9 := Try.isAgg9
 z9 := Try.sizeOf9
 v9 := Try.zeroValue9
 t20 := Try.underlying20
 a20 := Try.isAgg20
 z20 := Try.sizeOf20
 v20 := Try.zeroValue20
 t37 := Try.underlying36
 a37 := Try.isAgg36
 z37 := Try.sizeOf36
 v37 := Try.zeroValue36
 t70 := Try.underlying53
 a70 := Try.isAgg53
 z70 := Try.sizeOf53
 v70 := Try.zeroValue53
 t72 := Try.underlying55
 a72 := Try.isAgg55
 z72 := Try.sizeOf55
 v72 := Try.zeroValue55
 t75 := Try.underlying57
 a75 := Try.isAgg57
 z75 := Try.sizeOf57
 v75 := Try.zeroValue57
 t164 := Try.underlying70
 a164 := Try.isAgg70
 z164 := Try.sizeOf70
 v164 := Try.zeroValue70
theorem lays167 : Lays.n167 Try.prog ren where
 mixed := by kernel_rfl
 f167 := Try.func44.trans (congrArg some (by kernel_rfl : Try.f44 = Body.n167 ren))
 f240 := Try.func43.trans (congrArg some (by kernel_rfl : Try.f43 = Body.n240 ren))
 f276 := Try.func47.trans (congrArg some (by kernel_rfl : Try.f47 = Body.n276 ren))
 t0 := Try.underlying0
 a0 := Try.isAgg0
 z0 := Try.sizeOf0
 v0 := Try.zeroValue0
 t4 := Try.underlying4
 a4 := Try.isAgg4
 z4 := Try.sizeOf4
 v4 := Try.zeroValue4
 t5 := Try.underlying5
 a5 := Try.isAgg5
 z5 := Try.sizeOf5
 v5 := Try.zeroValue5
 t9 := Try.underlying9
 a9 := Try.isAgg9
 z9 := Try.sizeOf9
 v9 := Try.zeroValue9
 t20 := Try.underlying20
 a20 := Try.isAgg20
 z20 := Try.sizeOf20
 v20 := Try.zeroValue20
 t37 := Try.underlying36
 a37 := Try.isAgg36
 z37 := Try.sizeOf36
 v37 := Try.zeroValue36
 t70 := Try.underlying53
 a70 := Try.isAgg53
 z70 := Try.sizeOf53
 v70 := Try.zeroValue53
 t72 := Try.underlying55
 a72 := Try.isAgg55
 z72 := Try.sizeOf55
 v72 := Try.zeroValue55
 t75 := Try.underlying57
 a75 := Try.isAgg57
 z75 := Try.sizeOf57
 v75 := Try.zeroValue57
 t164 := Try.underlying70
 a164 := Try.isAgg70
 z164 := Try.sizeOf70
 v164 := Try.zeroValue70
theorem lays169 : Lays.n169 Try.prog ren where
 mixed := by kernel_rfl
 f169 := Try.func36.trans (congrArg some (by kernel_rfl : Try.f36 = Body.n169 ren))
 t0 := Try.underlying0
 a0 := Try.isAgg0
 z0 := Try.sizeOf0
 v0 := Try.zeroValue0
 t3 := Try.underlying3
 a3 := Try.isAgg3
 z3 := Try.sizeOf3
 v3 := Try.zeroValue3
 t9 := Try.underlying9
 a9 := Try.isAgg9
 z9 := Try.sizeOf9
 v9 := Try.zeroValue9
 t37 := Try.underlying36
 a37 := Try.isAgg36
 z37 := Try.sizeOf36
 v37 := Try.zeroValue36
 t70 := Try.underlying53
 a70 := Try.isAgg53
 z70 := Try.sizeOf53
 v70 := Try.zeroValue53
 t72 := Try.underlying55
 a72 := Try.isAgg55
 z72 := Try.sizeOf55
 v72 := Try.zeroValue55
 t127 := Try.underlying67
 a127 := Try.isAgg67
 z127 := Try.sizeOf67
 v127 := Try.zeroValue67
theorem extra : Builder.Extra Try.prog ren where
 sizeBuilder := by kernel_rfl
 liesBuilder := by kernel_rfl
 t5 := Try.underlying5
 a5 := Try.isAgg5
 z5 := Try.sizeOf5
 v5 := Try.zeroValue5
 infoByte := by kernel_rfl
 cellsByte := by kernel_rfl
 sizeByte := by kernel_rfl
 neB5 := by decide
set_option maxHeartbeats 1000000 in
theorem idxInner (s : ByteArray) (c : Int) (w : World) :
  Calls Try.prog 51 #[.string s, .int .u8 c] w fun e w' => e = .returned (.int .i64 (Lib.indexByte s.data.toList c.toNat.toUInt8)) ∧ w' = w := by
 go_enter Try.func51, Try.ntmps51
 go_wp2
 rw [run_callFunc_extern Try.func52 (by kernel_rfl) (by kernel_rfl) (by kernel_rfl) (e := Extern.BytealgIndexByte.indexByte) (by kernel_rfl), Lib.run_indexByteString]
 simp only [Result.andThen]
 rw [Oper.upon_value]
 go_wp2
 go_ret
 exact ⟨rfl, rfl⟩
set_option maxHeartbeats 1000000 in
theorem idxOuter (s : ByteArray) (c : Int) (w : World) :
  Calls Try.prog 49 #[.string s, .int .u8 c] w fun e w' => e = .returned (.int .i64 (Lib.indexByte s.data.toList c.toNat.toUInt8)) ∧ w' = w := by
 go_enter Try.func49, Try.ntmps49
 go_wp2_with (go_at_call 51; refine (idxInner _ _ _).mono ?_; rintro e w' ⟨rfl, rfl⟩)
 go_ret
 exact ⟨rfl, rfl⟩
theorem intr_ok : IntrOk Try.prog env := by
 intro f h hf
 by_cases x35 : f = 35
 ·subst x35
  have hy : some (wsH 55 5) = some h := hf
  obtain rfl := Option.some.inj hy
  exact ws_ok (f := 35) (T := 55) (t := 5) ⟨Try.f35, Try.func35, by kernel_rfl, by decide +kernel⟩ (fun s => writeString_x lays166 extra s)
 by_cases x36 : f = 36
 ·subst x36
  have hy : some (stH 55 5) = some h := hf
  obtain rfl := Option.some.inj hy
  exact st_ok (f := 36) (T := 55) (t := 5) ⟨Try.f36, Try.func36, by kernel_rfl, by decide +kernel⟩ (string_x lays169 extra)
 by_cases x44 : f = 44
 ·subst x44
  have hy : some (wbH 55 5) = some h := hf
  obtain rfl := Option.some.inj hy
  exact wb_ok (f := 44) (T := 55) (t := 5) ⟨Try.f44, Try.func44, by kernel_rfl, by decide +kernel⟩ (fun c h0 h1 => writeByte_x lays167 extra c h0 h1)
 by_cases x38 : f = 38
 ·subst x38
  have hy : some joinH = some h := hf
  obtain rfl := Option.some.inj hy
  exact join_ok lays156 extra ⟨Try.f38, Try.func38, by kernel_rfl, by decide +kernel⟩
 by_cases x49 : f = 49
 ·subst x49
  have hy : some idxH = some h := hf
  obtain rfl := Option.some.inj hy
  exact idx_ok (f := 49) ⟨Try.f49, Try.func49, by kernel_rfl, by decide +kernel⟩ idxOuter
 simp [env, x35, x36, x44, x38, x49] at hf
end Go.Proofs.Ythkjepoaddfoiaa.M


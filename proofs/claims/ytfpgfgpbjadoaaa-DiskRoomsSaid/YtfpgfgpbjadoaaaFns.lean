/- The functions, compiled for the abstract machine (made by a program of mine, gen.py). -/
import Derived.Test.YtfpgfgpbjadoaaaTy
namespace Go.Proofs.Ytfpgfgpbjadoaaa.M
set_option linter.unusedVariables false
set_option linter.unusedSimpArgs false
open Go Go.Pam
set_option maxRecDepth 100000
abbrev Rd (x : PC) := { p : PC // x = p }
abbrev Rb (f : Func) (l : List Nat) := Rd ((f.body.bind (compile l)).getD .skip)
theorem fk {P : Program} {f : FuncId} {pf : PFn} {fn : Func} {c : Code} (m : List Nat) (h : P.funcs[f]? = some fn) (hb : fn.body = some c) (q : (fn.ntmps, fn.results.toList) = (pf.ntmps, pf.results)) (h2 : compile m c = some pf.body := by kernel_rfl) (h5 : decide (fn.name ≠ "runtime.NumGoroutine") = true := by kernel_rfl) : FnOk P f pf :=
 ⟨⟨fn, c, m, h, hb, h2, (Prod.mk.inj q).1, (Prod.mk.inj q).2, of_decide_eq_true h5⟩⟩
def loopIn (i : Nat) : PC → Option PC
 | .seq a b => match loopIn i a with
  | some x => some x
  | none => loopIn i b
 | .cond _ a b => match loopIn i a with
  | some x => some x
  | none => loopIn i b
 | .block j (.loop c) => if i = j then some c else loopIn i c
 | .block _ c => loopIn i c
 | .loop c => loopIn i c
 | _ => none
def red8 : Rb Try.f8 [] := by refine ⟨?p, ?h⟩; case h => conv => lhs; reduce
def pc8 : PC := red8.1
def fn8 : PFn := ⟨10, [.tmp 2], pc8, false⟩
theorem fnOk8 : FnOk Try.prog 8 fn8 := fk [] Try.func8 rfl rfl
def red18 : Rb Try.f18 [] := by refine ⟨?p, ?h⟩; case h => conv => lhs; reduce
def pc18 : PC := red18.1
def fn18 : PFn := ⟨8, [.tmp 2], pc18, false⟩
theorem fnOk18 : FnOk Try.prog 18 fn18 := fk [] Try.func18 rfl rfl
def red21 : Rb Try.f21 [] := by refine ⟨?p, ?h⟩; case h => conv => lhs; reduce
def pc21 : PC := red21.1
def fn21 : PFn := ⟨22, [.tmp 2], pc21, false⟩
theorem fnOk21 : FnOk Try.prog 21 fn21 := fk [] Try.func21 rfl rfl
def red17 : Rb Try.f17 [11, 1000056, 2000000, 3000000, 3000001, 3000002, 3000007, 3000009] := by refine ⟨?p, ?h⟩; case h => conv => lhs; reduce
def red17_0 : Rd ((loopIn 0 red17.1).getD .skip) := by refine ⟨?p, ?h⟩; case h => conv => lhs; reduce
def pc17L0 : PC := red17_0.1
def pc17 : PC := red17.1
def fn17 : PFn := ⟨61, [.tmp 8], pc17, false⟩
theorem fnOk17 : FnOk Try.prog 17 fn17 := fk [11, 1000056, 2000000, 3000000, 3000001, 3000002, 3000007, 3000009] Try.func17 rfl rfl
def red9 : Rb Try.f9 [] := by refine ⟨?p, ?h⟩; case h => conv => lhs; reduce
def pc9 : PC := red9.1
def fn9 : PFn := ⟨21, [.tmp 6], pc9, false⟩
theorem fnOk9 : FnOk Try.prog 9 fn9 := fk [] Try.func9 rfl rfl
def red25 : Rb Try.f25 [] := by refine ⟨?p, ?h⟩; case h => conv => lhs; reduce
def red25_0 : Rd ((loopIn 0 red25.1).getD .skip) := by refine ⟨?p, ?h⟩; case h => conv => lhs; reduce
def pc25L0 : PC := red25_0.1
def pc25 : PC := red25.1
def fn25 : PFn := ⟨19, [.tmp 4], pc25, false⟩
theorem fnOk25 : FnOk Try.prog 25 fn25 := fk [] Try.func25 rfl rfl
def red19 : Rb Try.f19 [] := by refine ⟨?p, ?h⟩; case h => conv => lhs; reduce
def red19_0 : Rd ((loopIn 0 red19.1).getD .skip) := by refine ⟨?p, ?h⟩; case h => conv => lhs; reduce
def pc19L0 : PC := red19_0.1
def pc19 : PC := red19.1
def fn19 : PFn := ⟨42, [.tmp 4], pc19, true⟩
theorem fnOk19 : FnOk Try.prog 19 fn19 := fk [] Try.func19 rfl rfl
def red10 : Rb Try.f10 [] := by refine ⟨?p, ?h⟩; case h => conv => lhs; reduce
def pc10 : PC := red10.1
def fn10 : PFn := ⟨39, [.tmp 4], pc10, false⟩
theorem fnOk10 : FnOk Try.prog 10 fn10 := fk [] Try.func10 rfl rfl
def red22 : Rb Try.f22 [] := by refine ⟨?p, ?h⟩; case h => conv => lhs; reduce
def pc22 : PC := red22.1
def fn22 : PFn := ⟨9, [.tmp 2], pc22, false⟩
theorem fnOk22 : FnOk Try.prog 22 fn22 := fk [] Try.func22 rfl rfl
def red11 : Rb Try.f11 [] := by refine ⟨?p, ?h⟩; case h => conv => lhs; reduce
def red11_0 : Rd ((loopIn 0 red11.1).getD .skip) := by refine ⟨?p, ?h⟩; case h => conv => lhs; reduce
def pc11L0 : PC := red11_0.1
def pc11 : PC := red11.1
def fn11 : PFn := ⟨110, [], pc11, false⟩
theorem fnOk11 : FnOk Try.prog 11 fn11 := fk [] Try.func11 rfl rfl
def red12 : Rb Try.f12 [] := by refine ⟨?p, ?h⟩; case h => conv => lhs; reduce
def pc12 : PC := red12.1
def fn12 : PFn := ⟨24, [.tmp 4, .tmp 5], pc12, false⟩
theorem fnOk12 : FnOk Try.prog 12 fn12 := fk [] Try.func12 rfl rfl
def red13 : Rb Try.f13 [] := by refine ⟨?p, ?h⟩; case h => conv => lhs; reduce
def pc13 : PC := red13.1
def fn13 : PFn := ⟨14, [.tmp 6], pc13, false⟩
theorem fnOk13 : FnOk Try.prog 13 fn13 := fk [] Try.func13 rfl rfl
def red14 : Rb Try.f14 [] := by refine ⟨?p, ?h⟩; case h => conv => lhs; reduce
def pc14 : PC := red14.1
def fn14 : PFn := ⟨7, [.tmp 2], pc14, false⟩
theorem fnOk14 : FnOk Try.prog 14 fn14 := fk [] Try.func14 rfl rfl
def red15 : Rb Try.f15 [] := by refine ⟨?p, ?h⟩; case h => conv => lhs; reduce
def pc15 : PC := red15.1
def fn15 : PFn := ⟨9, [], pc15, false⟩
theorem fnOk15 : FnOk Try.prog 15 fn15 := fk [] Try.func15 rfl rfl
def red27 : Rb Try.f27 [] := by refine ⟨?p, ?h⟩; case h => conv => lhs; reduce
def pc27 : PC := red27.1
def fn27 : PFn := ⟨5, [.tmp 2], pc27, false⟩
theorem fnOk27 : FnOk Try.prog 27 fn27 := fk [] Try.func27 rfl rfl
def red49 : Rb Try.f49 [] := by refine ⟨?p, ?h⟩; case h => conv => lhs; reduce
def pc49 : PC := red49.1
def fn49 : PFn := ⟨6, [.tmp 2], pc49, false⟩
theorem fnOk49 : FnOk Try.prog 49 fn49 := fk [] Try.func49 rfl rfl
def red39 : Rb Try.f39 [] := by refine ⟨?p, ?h⟩; case h => conv => lhs; reduce
def pc39 : PC := red39.1
def fn39 : PFn := ⟨17, [.tmp 4], pc39, false⟩
theorem fnOk39 : FnOk Try.prog 39 fn39 := fk [] Try.func39 rfl rfl
def red33 : Rb Try.f33 [6] := by refine ⟨?p, ?h⟩; case h => conv => lhs; reduce
def red33_2 : Rd ((loopIn 2 red33.1).getD .skip) := by refine ⟨?p, ?h⟩; case h => conv => lhs; reduce
def pc33L2 : PC := red33_2.1
def red33_0 : Rd ((loopIn 0 red33.1).getD .skip) := by refine ⟨?p, ?h⟩; case h => conv => lhs; reduce
def pc33L0 : PC := red33_0.1
def pc33 : PC := red33.1
def fn33 : PFn := ⟨49, [], pc33, false⟩
theorem fnOk33 : FnOk Try.prog 33 fn33 := fk [6] Try.func33 rfl rfl
def red44 : Rb Try.f44 [6] := by refine ⟨?p, ?h⟩; case h => conv => lhs; reduce
def red44_0 : Rd ((loopIn 0 red44.1).getD .skip) := by refine ⟨?p, ?h⟩; case h => conv => lhs; reduce
def pc44L0 : PC := red44_0.1
def pc44 : PC := red44.1
def fn44 : PFn := ⟨76, [], pc44, false⟩
theorem fnOk44 : FnOk Try.prog 44 fn44 := fk [6] Try.func44 rfl rfl
def red34 : Rb Try.f34 [10] := by refine ⟨?p, ?h⟩; case h => conv => lhs; reduce
def red34_0 : Rd ((loopIn 0 red34.1).getD .skip) := by refine ⟨?p, ?h⟩; case h => conv => lhs; reduce
def pc34L0 : PC := red34_0.1
def red34_2 : Rd ((loopIn 2 red34.1).getD .skip) := by refine ⟨?p, ?h⟩; case h => conv => lhs; reduce
def pc34L2 : PC := red34_2.1
def pc34 : PC := red34.1
def fn34 : PFn := ⟨56, [], pc34, false⟩
theorem fnOk34 : FnOk Try.prog 34 fn34 := fk [10] Try.func34 rfl rfl
def red42 : Rb Try.f42 [] := by refine ⟨?p, ?h⟩; case h => conv => lhs; reduce
def pc42 : PC := red42.1
def fn42 : PFn := ⟨19, [.tmp 2], pc42, false⟩
theorem fnOk42 : FnOk Try.prog 42 fn42 := fk [] Try.func42 rfl rfl
def red43 : Rb Try.f43 [] := by refine ⟨?p, ?h⟩; case h => conv => lhs; reduce
def pc43 : PC := red43.1
def fn43 : PFn := ⟨25, [.tmp 2], pc43, false⟩
theorem fnOk43 : FnOk Try.prog 43 fn43 := fk [] Try.func43 rfl rfl
def red32 : Rb Try.f32 [] := by refine ⟨?p, ?h⟩; case h => conv => lhs; reduce
def pc32 : PC := red32.1
def fn32 : PFn := ⟨8, [.tmp 2], pc32, false⟩
theorem fnOk32 : FnOk Try.prog 32 fn32 := fk [] Try.func32 rfl rfl
def red45 : Rb Try.f45 [] := by refine ⟨?p, ?h⟩; case h => conv => lhs; reduce
def pc45 : PC := red45.1
def fn45 : PFn := ⟨7, [.tmp 2], pc45, false⟩
theorem fnOk45 : FnOk Try.prog 45 fn45 := fk [] Try.func45 rfl rfl
def red46 : Rb Try.f46 [] := by refine ⟨?p, ?h⟩; case h => conv => lhs; reduce
def pc46 : PC := red46.1
def fn46 : PFn := ⟨33, [.tmp 2], pc46, false⟩
theorem fnOk46 : FnOk Try.prog 46 fn46 := fk [] Try.func46 rfl rfl
def red35 : Rb Try.f35 [10] := by refine ⟨?p, ?h⟩; case h => conv => lhs; reduce
def red35_0 : Rd ((loopIn 0 red35.1).getD .skip) := by refine ⟨?p, ?h⟩; case h => conv => lhs; reduce
def pc35L0 : PC := red35_0.1
def pc35 : PC := red35.1
def fn35 : PFn := ⟨65, [], pc35, false⟩
theorem fnOk35 : FnOk Try.prog 35 fn35 := fk [10] Try.func35 rfl rfl
def red50 : Rb Try.f50 [] := by refine ⟨?p, ?h⟩; case h => conv => lhs; reduce
def pc50 : PC := red50.1
def fn50 : PFn := ⟨28, [.tmp 8, .tmp 9], pc50, false⟩
theorem fnOk50 : FnOk Try.prog 50 fn50 := fk [] Try.func50 rfl rfl
def red48 : Rb Try.f48 [] := by refine ⟨?p, ?h⟩; case h => conv => lhs; reduce
def pc48 : PC := red48.1
def fn48 : PFn := ⟨36, [.tmp 10], pc48, false⟩
theorem fnOk48 : FnOk Try.prog 48 fn48 := fk [] Try.func48 rfl rfl
def red47 : Rb Try.f47 [] := by refine ⟨?p, ?h⟩; case h => conv => lhs; reduce
def pc47 : PC := red47.1
def fn47 : PFn := ⟨15, [.tmp 6], pc47, false⟩
theorem fnOk47 : FnOk Try.prog 47 fn47 := fk [] Try.func47 rfl rfl
def red36 : Rb Try.f36 [] := by refine ⟨?p, ?h⟩; case h => conv => lhs; reduce
def pc36 : PC := red36.1
def fn36 : PFn := ⟨57, [.tmp 6, .tmp 7], pc36, false⟩
theorem fnOk36 : FnOk Try.prog 36 fn36 := fk [] Try.func36 rfl rfl
def red37 : Rb Try.f37 [3] := by refine ⟨?p, ?h⟩; case h => conv => lhs; reduce
def red37_0 : Rd ((loopIn 0 red37.1).getD .skip) := by refine ⟨?p, ?h⟩; case h => conv => lhs; reduce
def pc37L0 : PC := red37_0.1
def pc37 : PC := red37.1
def fn37 : PFn := ⟨32, [], pc37, false⟩
theorem fnOk37 : FnOk Try.prog 37 fn37 := fk [3] Try.func37 rfl rfl
def red38 : Rb Try.f38 [11, 17, 23] := by refine ⟨?p, ?h⟩; case h => conv => lhs; reduce
def red38_2 : Rd ((loopIn 2 red38.1).getD .skip) := by refine ⟨?p, ?h⟩; case h => conv => lhs; reduce
def pc38L2 : PC := red38_2.1
def red38_4 : Rd ((loopIn 4 red38.1).getD .skip) := by refine ⟨?p, ?h⟩; case h => conv => lhs; reduce
def pc38L4 : PC := red38_4.1
def red38_6 : Rd ((loopIn 6 red38.1).getD .skip) := by refine ⟨?p, ?h⟩; case h => conv => lhs; reduce
def pc38L6 : PC := red38_6.1
def red38_0 : Rd ((loopIn 0 red38.1).getD .skip) := by refine ⟨?p, ?h⟩; case h => conv => lhs; reduce
def pc38L0 : PC := red38_0.1
def pc38 : PC := red38.1
def fn38 : PFn := ⟨133, [.tmp 6], pc38, false⟩
theorem fnOk38 : FnOk Try.prog 38 fn38 := fk [11, 17, 23] Try.func38 rfl rfl
def red40 : Rb Try.f40 [1, 8] := by refine ⟨?p, ?h⟩; case h => conv => lhs; reduce
def red40_2 : Rd ((loopIn 2 red40.1).getD .skip) := by refine ⟨?p, ?h⟩; case h => conv => lhs; reduce
def pc40L2 : PC := red40_2.1
def red40_4 : Rd ((loopIn 4 red40.1).getD .skip) := by refine ⟨?p, ?h⟩; case h => conv => lhs; reduce
def pc40L4 : PC := red40_4.1
def red40_0 : Rd ((loopIn 0 red40.1).getD .skip) := by refine ⟨?p, ?h⟩; case h => conv => lhs; reduce
def pc40L0 : PC := red40_0.1
def pc40 : PC := red40.1
def fn40 : PFn := ⟨84, [.tmp 8], pc40, false⟩
theorem fnOk40 : FnOk Try.prog 40 fn40 := fk [1, 8] Try.func40 rfl rfl
def red41 : Rb Try.f41 [1, 8, 10, 18, 21] := by refine ⟨?p, ?h⟩; case h => conv => lhs; reduce
def red41_0 : Rd ((loopIn 0 red41.1).getD .skip) := by refine ⟨?p, ?h⟩; case h => conv => lhs; reduce
def pc41L0 : PC := red41_0.1
def red41_2 : Rd ((loopIn 2 red41.1).getD .skip) := by refine ⟨?p, ?h⟩; case h => conv => lhs; reduce
def pc41L2 : PC := red41_2.1
def red41_6 : Rd ((loopIn 6 red41.1).getD .skip) := by refine ⟨?p, ?h⟩; case h => conv => lhs; reduce
def pc41L6 : PC := red41_6.1
def red41_8 : Rd ((loopIn 8 red41.1).getD .skip) := by refine ⟨?p, ?h⟩; case h => conv => lhs; reduce
def pc41L8 : PC := red41_8.1
def red41_4 : Rd ((loopIn 4 red41.1).getD .skip) := by refine ⟨?p, ?h⟩; case h => conv => lhs; reduce
def pc41L4 : PC := red41_4.1
def pc41 : PC := red41.1
def fn41 : PFn := ⟨168, [.tmp 8, .tmp 9], pc41, false⟩
theorem fnOk41 : FnOk Try.prog 41 fn41 := fk [1, 8, 10, 18, 21] Try.func41 rfl rfl
def red31 : Rb Try.f31 [] := by refine ⟨?p, ?h⟩; case h => conv => lhs; reduce
def red31_0 : Rd ((loopIn 0 red31.1).getD .skip) := by refine ⟨?p, ?h⟩; case h => conv => lhs; reduce
def pc31L0 : PC := red31_0.1
def pc31 : PC := red31.1
def fn31 : PFn := ⟨134, [], pc31, false⟩
theorem fnOk31 : FnOk Try.prog 31 fn31 := fk [] Try.func31 rfl rfl
def red28 : Rb Try.f28 [] := by refine ⟨?p, ?h⟩; case h => conv => lhs; reduce
def pc28 : PC := red28.1
def fn28 : PFn := ⟨11, [], pc28, false⟩
theorem fnOk28 : FnOk Try.prog 28 fn28 := fk [] Try.func28 rfl rfl
def red23 : Rb Try.f23 [] := by refine ⟨?p, ?h⟩; case h => conv => lhs; reduce
def pc23 : PC := red23.1
def fn23 : PFn := ⟨9, [.tmp 2], pc23, false⟩
theorem fnOk23 : FnOk Try.prog 23 fn23 := fk [] Try.func23 rfl rfl
def red24 : Rb Try.f24 [] := by refine ⟨?p, ?h⟩; case h => conv => lhs; reduce
def pc24 : PC := red24.1
def fn24 : PFn := ⟨4, [.tmp 2], pc24, false⟩
theorem fnOk24 : FnOk Try.prog 24 fn24 := fk [] Try.func24 rfl rfl
def red16 : Rb Try.f16 [] := by refine ⟨?p, ?h⟩; case h => conv => lhs; reduce
def pc16 : PC := red16.1
def fn16 : PFn := ⟨9, [.tmp 2], pc16, false⟩
theorem fnOk16 : FnOk Try.prog 16 fn16 := fk [] Try.func16 rfl rfl
def red7 : Rb Try.f7 [] := by refine ⟨?p, ?h⟩; case h => conv => lhs; reduce
def pc7 : PC := red7.1
def fn7 : PFn := ⟨94, [.tmp 0], pc7, false⟩
theorem fnOk7 : FnOk Try.prog 7 fn7 := fk [] Try.func7 rfl rfl
def red3 : Rb Try.f3 [] := by refine ⟨?p, ?h⟩; case h => conv => lhs; reduce
def red3_0 : Rd ((loopIn 0 red3.1).getD .skip) := by refine ⟨?p, ?h⟩; case h => conv => lhs; reduce
def pc3L0 : PC := red3_0.1
def red3_2 : Rd ((loopIn 2 red3.1).getD .skip) := by refine ⟨?p, ?h⟩; case h => conv => lhs; reduce
def pc3L2 : PC := red3_2.1
def pc3 : PC := red3.1
def fn3 : PFn := ⟨141, [.tmp 6], pc3, false⟩
theorem fnOk3 : FnOk Try.prog 3 fn3 := fk [] Try.func3 rfl rfl
def red4 : Rb Try.f4 [] := by refine ⟨?p, ?h⟩; case h => conv => lhs; reduce
def red4_2 : Rd ((loopIn 2 red4.1).getD .skip) := by refine ⟨?p, ?h⟩; case h => conv => lhs; reduce
def pc4L2 : PC := red4_2.1
def red4_0 : Rd ((loopIn 0 red4.1).getD .skip) := by refine ⟨?p, ?h⟩; case h => conv => lhs; reduce
def pc4L0 : PC := red4_0.1
def red4_4 : Rd ((loopIn 4 red4.1).getD .skip) := by refine ⟨?p, ?h⟩; case h => conv => lhs; reduce
def pc4L4 : PC := red4_4.1
def pc4 : PC := red4.1
def fn4 : PFn := ⟨96, [.tmp 6], pc4, false⟩
theorem fnOk4 : FnOk Try.prog 4 fn4 := fk [] Try.func4 rfl rfl
def red5 : Rb Try.f5 [] := by refine ⟨?p, ?h⟩; case h => conv => lhs; reduce
def pc5 : PC := red5.1
def fn5 : PFn := ⟨73, [.tmp 8], pc5, false⟩
theorem fnOk5 : FnOk Try.prog 5 fn5 := fk [] Try.func5 rfl rfl
def red6 : Rb Try.f6 [6] := by refine ⟨?p, ?h⟩; case h => conv => lhs; reduce
def pc6 : PC := red6.1
def fn6 : PFn := ⟨66, [.tmp 4], pc6, false⟩
theorem fnOk6 : FnOk Try.prog 6 fn6 := fk [6] Try.func6 rfl rfl
def red20 : Rb Try.f20 [] := by refine ⟨?p, ?h⟩; case h => conv => lhs; reduce
def pc20 : PC := red20.1
def fn20 : PFn := ⟨8, [.tmp 3], pc20, false⟩
theorem fnOk20 : FnOk Try.prog 20 fn20 := fk [] Try.func20 rfl rfl
def red29 : Rb Try.f29 [] := by refine ⟨?p, ?h⟩; case h => conv => lhs; reduce
def red29_0 : Rd ((loopIn 0 red29.1).getD .skip) := by refine ⟨?p, ?h⟩; case h => conv => lhs; reduce
def pc29L0 : PC := red29_0.1
def pc29 : PC := red29.1
def fn29 : PFn := ⟨14, [], pc29, false⟩
theorem fnOk29 : FnOk Try.prog 29 fn29 := fk [] Try.func29 rfl rfl
def fnOf : FuncId → Option PFn
 | 8 => some fn8
 | 18 => some fn18
 | 21 => some fn21
 | 17 => some fn17
 | 9 => some fn9
 | 25 => some fn25
 | 19 => some fn19
 | 10 => some fn10
 | 22 => some fn22
 | 11 => some fn11
 | 12 => some fn12
 | 13 => some fn13
 | 14 => some fn14
 | 15 => some fn15
 | 27 => some fn27
 | 49 => some fn49
 | 39 => some fn39
 | 33 => some fn33
 | 44 => some fn44
 | 34 => some fn34
 | 42 => some fn42
 | 43 => some fn43
 | 32 => some fn32
 | 45 => some fn45
 | 46 => some fn46
 | 35 => some fn35
 | 50 => some fn50
 | 48 => some fn48
 | 47 => some fn47
 | 36 => some fn36
 | 37 => some fn37
 | 38 => some fn38
 | 40 => some fn40
 | 41 => some fn41
 | 31 => some fn31
 | 28 => some fn28
 | 23 => some fn23
 | 24 => some fn24
 | 16 => some fn16
 | 7 => some fn7
 | 3 => some fn3
 | 4 => some fn4
 | 5 => some fn5
 | 6 => some fn6
 | 20 => some fn20
 | 29 => some fn29
 | _ => none
theorem fnOf_ok : ∀ f pf, fnOf f = some pf → FnOk Try.prog f pf := by
 intro f pf h
 unfold fnOf at h
 split at h <;> first | (injection h with h; subst h; first | exact fnOk8 | exact fnOk18 | exact fnOk21 | exact fnOk17 | exact fnOk9 | exact fnOk25 | exact fnOk19 | exact fnOk10 | exact fnOk22 | exact fnOk11 | exact fnOk12 | exact fnOk13 | exact fnOk14 | exact fnOk15 | exact fnOk27 | exact fnOk49 | exact fnOk39 | exact fnOk33 | exact fnOk44 | exact fnOk34 | exact fnOk42 | exact fnOk43 | exact fnOk32 | exact fnOk45 | exact fnOk46 | exact fnOk35 | exact fnOk50 | exact fnOk48 | exact fnOk47 | exact fnOk36 | exact fnOk37 | exact fnOk38 | exact fnOk40 | exact fnOk41 | exact fnOk31 | exact fnOk28 | exact fnOk23 | exact fnOk24 | exact fnOk16 | exact fnOk7 | exact fnOk3 | exact fnOk4 | exact fnOk5 | exact fnOk6 | exact fnOk20 | exact fnOk29) | cases h
end Go.Proofs.Ytfpgfgpbjadoaaa.M

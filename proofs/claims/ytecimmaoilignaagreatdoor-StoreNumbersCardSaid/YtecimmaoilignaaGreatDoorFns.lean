/- The functions, compiled for the abstract machine (made by a program of mine, gen.py). -/
import Derived.Test.YtecimmaoilignaaGreatDoorTy
namespace Go.Proofs.YtecimmaoilignaaGreatDoor.M
set_option linter.unusedVariables false
set_option linter.unusedSimpArgs false
open Go Go.Pam
set_option maxRecDepth 100000
abbrev Rd (x : PC) := { p : PC // x = p }
abbrev Rb (f : Func) (l : List Nat) := Rd ((f.body.bind (compile l)).getD .skip)
theorem fk {P : Program} {f : FuncId} {pf : PFn} {fn : Func} {c : Code} (m : List Nat) (h : P.funcs[f]? = some fn) (hb : fn.body = some c) (q : (fn.ntmps, fn.results.toList) = (pf.ntmps, pf.results)) (h2 : compile m c = some pf.body := by kernel_rfl) (h5 : decide (fn.name ≠ "runtime.NumGoroutine") = true := by kernel_rfl) : FnOk P f pf :=
 ⟨⟨fn, c, m, h, hb, h2, (Prod.mk.inj q).1, (Prod.mk.inj q).2, of_decide_eq_true h5⟩⟩
def loopIn (i : Nat) : PC → Option PC
 | .seq a b => match loopIn i a with
  | some x => some x
  | none => loopIn i b
 | .cond _ a b => match loopIn i a with
  | some x => some x
  | none => loopIn i b
 | .block j (.loop c) => if i = j then some c else loopIn i c
 | .block _ c => loopIn i c
 | .loop c => loopIn i c
 | _ => none
def red3 : Rb Tryz.f3 [19] := by refine ⟨?p, ?h⟩; case h => conv => lhs; reduce
def red3_0 : Rd ((loopIn 0 red3.1).getD .skip) := by refine ⟨?p, ?h⟩; case h => conv => lhs; reduce
def pc3L0 : PC := red3_0.1
def pc3 : PC := red3.1
def fn3 : PFn := ⟨126, [.tmp 6], pc3, false⟩
theorem fnOk3 : FnOk Tryz.prog 3 fn3 := fk [19] Tryz.func3 rfl rfl
def red4 : Rb Tryz.f4 [14] := by refine ⟨?p, ?h⟩; case h => conv => lhs; reduce
def pc4 : PC := red4.1
def fn4 : PFn := ⟨156, [.tmp 0], pc4, false⟩
theorem fnOk4 : FnOk Tryz.prog 4 fn4 := fk [14] Tryz.func4 rfl rfl
def red5 : Rb Tryz.f5 [] := by refine ⟨?p, ?h⟩; case h => conv => lhs; reduce
def pc5 : PC := red5.1
def fn5 : PFn := ⟨10, [.tmp 2], pc5, false⟩
theorem fnOk5 : FnOk Tryz.prog 5 fn5 := fk [] Tryz.func5 rfl rfl
def red6 : Rb Tryz.f6 [6] := by refine ⟨?p, ?h⟩; case h => conv => lhs; reduce
def red6_0 : Rd ((loopIn 0 red6.1).getD .skip) := by refine ⟨?p, ?h⟩; case h => conv => lhs; reduce
def pc6L0 : PC := red6_0.1
def pc6 : PC := red6.1
def fn6 : PFn := ⟨60, [.tmp 6, .tmp 7], pc6, false⟩
theorem fnOk6 : FnOk Tryz.prog 6 fn6 := fk [6] Tryz.func6 rfl rfl
def red7 : Rb Tryz.f7 [13] := by refine ⟨?p, ?h⟩; case h => conv => lhs; reduce
def pc7 : PC := red7.1
def fn7 : PFn := ⟨78, [.cell 4 31, .tmp 5], pc7, false⟩
theorem fnOk7 : FnOk Tryz.prog 7 fn7 := fk [13] Tryz.func7 rfl rfl
def red8 : Rb Tryz.f8 [10] := by refine ⟨?p, ?h⟩; case h => conv => lhs; reduce
def pc8 : PC := red8.1
def fn8 : PFn := ⟨62, [.tmp 2, .tmp 3], pc8, false⟩
theorem fnOk8 : FnOk Tryz.prog 8 fn8 := fk [10] Tryz.func8 rfl rfl
def red9 : Rb Tryz.f9 [] := by refine ⟨?p, ?h⟩; case h => conv => lhs; reduce
def pc9 : PC := red9.1
def fn9 : PFn := ⟨43, [.tmp 4], pc9, false⟩
theorem fnOk9 : FnOk Tryz.prog 9 fn9 := fk [] Tryz.func9 rfl rfl
def red10 : Rb Tryz.f10 [] := by refine ⟨?p, ?h⟩; case h => conv => lhs; reduce
def pc10 : PC := red10.1
def fn10 : PFn := ⟨7, [.cell 2 31], pc10, false⟩
theorem fnOk10 : FnOk Tryz.prog 10 fn10 := fk [] Tryz.func10 rfl rfl
def red11 : Rb Tryz.f11 [] := by refine ⟨?p, ?h⟩; case h => conv => lhs; reduce
def pc11 : PC := red11.1
def fn11 : PFn := ⟨8, [.tmp 2], pc11, false⟩
theorem fnOk11 : FnOk Tryz.prog 11 fn11 := fk [] Tryz.func11 rfl rfl
def red12 : Rb Tryz.f12 [18, 23, 26] := by refine ⟨?p, ?h⟩; case h => conv => lhs; reduce
def red12_0 : Rd ((loopIn 0 red12.1).getD .skip) := by refine ⟨?p, ?h⟩; case h => conv => lhs; reduce
def pc12L0 : PC := red12_0.1
def red12_2 : Rd ((loopIn 2 red12.1).getD .skip) := by refine ⟨?p, ?h⟩; case h => conv => lhs; reduce
def pc12L2 : PC := red12_2.1
def red12_4 : Rd ((loopIn 4 red12.1).getD .skip) := by refine ⟨?p, ?h⟩; case h => conv => lhs; reduce
def pc12L4 : PC := red12_4.1
def pc12 : PC := red12.1
def fn12 : PFn := ⟨139, [.tmp 8], pc12, false⟩
theorem fnOk12 : FnOk Tryz.prog 12 fn12 := fk [18, 23, 26] Tryz.func12 rfl rfl
def red13 : Rb Tryz.f13 [] := by refine ⟨?p, ?h⟩; case h => conv => lhs; reduce
def pc13 : PC := red13.1
def fn13 : PFn := ⟨17, [.cell 6 46], pc13, false⟩
theorem fnOk13 : FnOk Tryz.prog 13 fn13 := fk [] Tryz.func13 rfl rfl
def red14 : Rb Tryz.f14 [] := by refine ⟨?p, ?h⟩; case h => conv => lhs; reduce
def pc14 : PC := red14.1
def fn14 : PFn := ⟨8, [.tmp 2], pc14, false⟩
theorem fnOk14 : FnOk Tryz.prog 14 fn14 := fk [] Tryz.func14 rfl rfl
def red15 : Rb Tryz.f15 [] := by refine ⟨?p, ?h⟩; case h => conv => lhs; reduce
def pc15 : PC := red15.1
def fn15 : PFn := ⟨8, [.tmp 2], pc15, false⟩
theorem fnOk15 : FnOk Tryz.prog 15 fn15 := fk [] Tryz.func15 rfl rfl
def red16 : Rb Tryz.f16 [] := by refine ⟨?p, ?h⟩; case h => conv => lhs; reduce
def pc16 : PC := red16.1
def fn16 : PFn := ⟨8, [.tmp 2], pc16, false⟩
theorem fnOk16 : FnOk Tryz.prog 16 fn16 := fk [] Tryz.func16 rfl rfl
def red17 : Rb Tryz.f17 [] := by refine ⟨?p, ?h⟩; case h => conv => lhs; reduce
def pc17 : PC := red17.1
def fn17 : PFn := ⟨4, [.tmp 0], pc17, false⟩
theorem fnOk17 : FnOk Tryz.prog 17 fn17 := fk [] Tryz.func17 rfl rfl
def red18 : Rb Tryz.f18 [] := by refine ⟨?p, ?h⟩; case h => conv => lhs; reduce
def pc18 : PC := red18.1
def fn18 : PFn := ⟨9, [.tmp 2], pc18, false⟩
theorem fnOk18 : FnOk Tryz.prog 18 fn18 := fk [] Tryz.func18 rfl rfl
def red19 : Rb Tryz.f19 [] := by refine ⟨?p, ?h⟩; case h => conv => lhs; reduce
def red19_0 : Rd ((loopIn 0 red19.1).getD .skip) := by refine ⟨?p, ?h⟩; case h => conv => lhs; reduce
def pc19L0 : PC := red19_0.1
def pc19 : PC := red19.1
def fn19 : PFn := ⟨18, [.tmp 2], pc19, false⟩
theorem fnOk19 : FnOk Tryz.prog 19 fn19 := fk [] Tryz.func19 rfl rfl
def red20 : Rb Tryz.f20 [] := by refine ⟨?p, ?h⟩; case h => conv => lhs; reduce
def pc20 : PC := red20.1
def fn20 : PFn := ⟨19, [.tmp 6], pc20, false⟩
theorem fnOk20 : FnOk Tryz.prog 20 fn20 := fk [] Tryz.func20 rfl rfl
def red21 : Rb Tryz.f21 [] := by refine ⟨?p, ?h⟩; case h => conv => lhs; reduce
def red21_0 : Rd ((loopIn 0 red21.1).getD .skip) := by refine ⟨?p, ?h⟩; case h => conv => lhs; reduce
def pc21L0 : PC := red21_0.1
def pc21 : PC := red21.1
def fn21 : PFn := ⟨20, [.tmp 2], pc21, false⟩
theorem fnOk21 : FnOk Tryz.prog 21 fn21 := fk [] Tryz.func21 rfl rfl
def red22 : Rb Tryz.f22 [7] := by refine ⟨?p, ?h⟩; case h => conv => lhs; reduce
def red22_0 : Rd ((loopIn 0 red22.1).getD .skip) := by refine ⟨?p, ?h⟩; case h => conv => lhs; reduce
def pc22L0 : PC := red22_0.1
def pc22 : PC := red22.1
def fn22 : PFn := ⟨42, [.tmp 2], pc22, false⟩
theorem fnOk22 : FnOk Tryz.prog 22 fn22 := fk [7] Tryz.func22 rfl rfl
def red23 : Rb Tryz.f23 [] := by refine ⟨?p, ?h⟩; case h => conv => lhs; reduce
def pc23 : PC := red23.1
def fn23 : PFn := ⟨9, [.tmp 2], pc23, false⟩
theorem fnOk23 : FnOk Tryz.prog 23 fn23 := fk [] Tryz.func23 rfl rfl
def red24 : Rb Tryz.f24 [] := by refine ⟨?p, ?h⟩; case h => conv => lhs; reduce
def pc24 : PC := red24.1
def fn24 : PFn := ⟨54, [.cell 4 31, .tmp 5], pc24, false⟩
theorem fnOk24 : FnOk Tryz.prog 24 fn24 := fk [] Tryz.func24 rfl rfl
def red25 : Rb Tryz.f25 [] := by refine ⟨?p, ?h⟩; case h => conv => lhs; reduce
def pc25 : PC := red25.1
def fn25 : PFn := ⟨22, [.tmp 4], pc25, false⟩
theorem fnOk25 : FnOk Tryz.prog 25 fn25 := fk [] Tryz.func25 rfl rfl
def red26 : Rb Tryz.f26 [] := by refine ⟨?p, ?h⟩; case h => conv => lhs; reduce
def pc26 : PC := red26.1
def fn26 : PFn := ⟨34, [.tmp 6], pc26, false⟩
theorem fnOk26 : FnOk Tryz.prog 26 fn26 := fk [] Tryz.func26 rfl rfl
def red27 : Rb Tryz.f27 [] := by refine ⟨?p, ?h⟩; case h => conv => lhs; reduce
def pc27 : PC := red27.1
def fn27 : PFn := ⟨6, [.tmp 2], pc27, false⟩
theorem fnOk27 : FnOk Tryz.prog 27 fn27 := fk [] Tryz.func27 rfl rfl
def red28 : Rb Tryz.f28 [] := by refine ⟨?p, ?h⟩; case h => conv => lhs; reduce
def pc28 : PC := red28.1
def fn28 : PFn := ⟨56, [.tmp 4, .tmp 5], pc28, false⟩
theorem fnOk28 : FnOk Tryz.prog 28 fn28 := fk [] Tryz.func28 rfl rfl
def red29 : Rb Tryz.f29 [] := by refine ⟨?p, ?h⟩; case h => conv => lhs; reduce
def red29_0 : Rd ((loopIn 0 red29.1).getD .skip) := by refine ⟨?p, ?h⟩; case h => conv => lhs; reduce
def pc29L0 : PC := red29_0.1
def pc29 : PC := red29.1
def fn29 : PFn := ⟨68, [.cell 2 60, .tmp 3, .tmp 4], pc29, false⟩
theorem fnOk29 : FnOk Tryz.prog 29 fn29 := fk [] Tryz.func29 rfl rfl
def red32 : Rb Tryz.f32 [1] := by refine ⟨?p, ?h⟩; case h => conv => lhs; reduce
def pc32 : PC := red32.1
def fn32 : PFn := ⟨30, [], pc32, false⟩
theorem fnOk32 : FnOk Tryz.prog 32 fn32 := fk [1] Tryz.func32 rfl rfl
def red33 : Rb Tryz.f33 [] := by refine ⟨?p, ?h⟩; case h => conv => lhs; reduce
def red33_0 : Rd ((loopIn 0 red33.1).getD .skip) := by refine ⟨?p, ?h⟩; case h => conv => lhs; reduce
def pc33L0 : PC := red33_0.1
def red33_2 : Rd ((loopIn 2 red33.1).getD .skip) := by refine ⟨?p, ?h⟩; case h => conv => lhs; reduce
def pc33L2 : PC := red33_2.1
def pc33 : PC := red33.1
def fn33 : PFn := ⟨49, [], pc33, false⟩
theorem fnOk33 : FnOk Tryz.prog 33 fn33 := fk [] Tryz.func33 rfl rfl
def red34 : Rb Tryz.f34 [] := by refine ⟨?p, ?h⟩; case h => conv => lhs; reduce
def pc34 : PC := red34.1
def fn34 : PFn := ⟨18, [.tmp 3], pc34, false⟩
theorem fnOk34 : FnOk Tryz.prog 34 fn34 := fk [] Tryz.func34 rfl rfl
def red35 : Rb Tryz.f35 [] := by refine ⟨?p, ?h⟩; case h => conv => lhs; reduce
def pc35 : PC := red35.1
def fn35 : PFn := ⟨141, [.tmp 2], pc35, false⟩
theorem fnOk35 : FnOk Tryz.prog 35 fn35 := fk [] Tryz.func35 rfl rfl
def red36 : Rb Tryz.f36 [] := by refine ⟨?p, ?h⟩; case h => conv => lhs; reduce
def pc36 : PC := red36.1
def fn36 : PFn := ⟨9, [.tmp 4], pc36, false⟩
theorem fnOk36 : FnOk Tryz.prog 36 fn36 := fk [] Tryz.func36 rfl rfl
def red37 : Rb Tryz.f37 [] := by refine ⟨?p, ?h⟩; case h => conv => lhs; reduce
def pc37 : PC := red37.1
def fn37 : PFn := ⟨24, [.tmp 4], pc37, false⟩
theorem fnOk37 : FnOk Tryz.prog 37 fn37 := fk [] Tryz.func37 rfl rfl
def red38 : Rb Tryz.f38 [1] := by refine ⟨?p, ?h⟩; case h => conv => lhs; reduce
def pc38 : PC := red38.1
def fn38 : PFn := ⟨17, [.tmp 2], pc38, false⟩
theorem fnOk38 : FnOk Tryz.prog 38 fn38 := fk [1] Tryz.func38 rfl rfl
def red39 : Rb Tryz.f39 [10, 1000039, 1000042] := by refine ⟨?p, ?h⟩; case h => conv => lhs; reduce
def red39_0 : Rd ((loopIn 0 red39.1).getD .skip) := by refine ⟨?p, ?h⟩; case h => conv => lhs; reduce
def pc39L0 : PC := red39_0.1
def pc39 : PC := red39.1
def fn39 : PFn := ⟨49, [.tmp 4], pc39, false⟩
theorem fnOk39 : FnOk Tryz.prog 39 fn39 := fk [10, 1000039, 1000042] Tryz.func39 rfl rfl
def red40 : Rb Tryz.f40 [1000005, 1000007] := by refine ⟨?p, ?h⟩; case h => conv => lhs; reduce
def pc40 : PC := red40.1
def fn40 : PFn := ⟨8, [.tmp 2], pc40, true⟩
theorem fnOk40 : FnOk Tryz.prog 40 fn40 := fk [1000005, 1000007] Tryz.func40 rfl rfl
def red42 : Rb Tryz.f42 [] := by refine ⟨?p, ?h⟩; case h => conv => lhs; reduce
def pc42 : PC := red42.1
def fn42 : PFn := ⟨30, [.tmp 4], pc42, false⟩
theorem fnOk42 : FnOk Tryz.prog 42 fn42 := fk [] Tryz.func42 rfl rfl
def red45 : Rb Tryz.f45 [] := by refine ⟨?p, ?h⟩; case h => conv => lhs; reduce
def pc45 : PC := red45.1
def fn45 : PFn := ⟨12, [.tmp 4], pc45, false⟩
theorem fnOk45 : FnOk Tryz.prog 45 fn45 := fk [] Tryz.func45 rfl rfl
def red46 : Rb Tryz.f46 [] := by refine ⟨?p, ?h⟩; case h => conv => lhs; reduce
def red46_0 : Rd ((loopIn 0 red46.1).getD .skip) := by refine ⟨?p, ?h⟩; case h => conv => lhs; reduce
def pc46L0 : PC := red46_0.1
def pc46 : PC := red46.1
def fn46 : PFn := ⟨19, [.tmp 2], pc46, false⟩
theorem fnOk46 : FnOk Tryz.prog 46 fn46 := fk [] Tryz.func46 rfl rfl
def red47 : Rb Tryz.f47 [] := by refine ⟨?p, ?h⟩; case h => conv => lhs; reduce
def pc47 : PC := red47.1
def fn47 : PFn := ⟨8, [.tmp 0], pc47, false⟩
theorem fnOk47 : FnOk Tryz.prog 47 fn47 := fk [] Tryz.func47 rfl rfl
def red48 : Rb Tryz.f48 [] := by refine ⟨?p, ?h⟩; case h => conv => lhs; reduce
def pc48 : PC := red48.1
def fn48 : PFn := ⟨14, [.tmp 6], pc48, false⟩
theorem fnOk48 : FnOk Tryz.prog 48 fn48 := fk [] Tryz.func48 rfl rfl
def red49 : Rb Tryz.f49 [1000003] := by refine ⟨?p, ?h⟩; case h => conv => lhs; reduce
def red49_0 : Rd ((loopIn 0 red49.1).getD .skip) := by refine ⟨?p, ?h⟩; case h => conv => lhs; reduce
def pc49L0 : PC := red49_0.1
def pc49 : PC := red49.1
def fn49 : PFn := ⟨17, [.tmp 2], pc49, false⟩
theorem fnOk49 : FnOk Tryz.prog 49 fn49 := fk [1000003] Tryz.func49 rfl rfl
def red50 : Rb Tryz.f50 [] := by refine ⟨?p, ?h⟩; case h => conv => lhs; reduce
def pc50 : PC := red50.1
def fn50 : PFn := ⟨39, [.tmp 4], pc50, false⟩
theorem fnOk50 : FnOk Tryz.prog 50 fn50 := fk [] Tryz.func50 rfl rfl
def red51 : Rb Tryz.f51 [] := by refine ⟨?p, ?h⟩; case h => conv => lhs; reduce
def pc51 : PC := red51.1
def fn51 : PFn := ⟨8, [.tmp 2], pc51, false⟩
theorem fnOk51 : FnOk Tryz.prog 51 fn51 := fk [] Tryz.func51 rfl rfl
def red52 : Rb Tryz.f52 [] := by refine ⟨?p, ?h⟩; case h => conv => lhs; reduce
def red52_0 : Rd ((loopIn 0 red52.1).getD .skip) := by refine ⟨?p, ?h⟩; case h => conv => lhs; reduce
def pc52L0 : PC := red52_0.1
def red52_2 : Rd ((loopIn 2 red52.1).getD .skip) := by refine ⟨?p, ?h⟩; case h => conv => lhs; reduce
def pc52L2 : PC := red52_2.1
def pc52 : PC := red52.1
def fn52 : PFn := ⟨60, [.tmp 2], pc52, false⟩
theorem fnOk52 : FnOk Tryz.prog 52 fn52 := fk [] Tryz.func52 rfl rfl
def red53 : Rb Tryz.f53 [1000003] := by refine ⟨?p, ?h⟩; case h => conv => lhs; reduce
def red53_0 : Rd ((loopIn 0 red53.1).getD .skip) := by refine ⟨?p, ?h⟩; case h => conv => lhs; reduce
def pc53L0 : PC := red53_0.1
def pc53 : PC := red53.1
def fn53 : PFn := ⟨26, [.tmp 2], pc53, false⟩
theorem fnOk53 : FnOk Tryz.prog 53 fn53 := fk [1000003] Tryz.func53 rfl rfl
def red55 : Rb Tryz.f55 [] := by refine ⟨?p, ?h⟩; case h => conv => lhs; reduce
def pc55 : PC := red55.1
def fn55 : PFn := ⟨16, [.tmp 2], pc55, false⟩
theorem fnOk55 : FnOk Tryz.prog 55 fn55 := fk [] Tryz.func55 rfl rfl
def red56 : Rb Tryz.f56 [] := by refine ⟨?p, ?h⟩; case h => conv => lhs; reduce
def red56_2 : Rd ((loopIn 2 red56.1).getD .skip) := by refine ⟨?p, ?h⟩; case h => conv => lhs; reduce
def pc56L2 : PC := red56_2.1
def red56_0 : Rd ((loopIn 0 red56.1).getD .skip) := by refine ⟨?p, ?h⟩; case h => conv => lhs; reduce
def pc56L0 : PC := red56_0.1
def pc56 : PC := red56.1
def fn56 : PFn := ⟨35, [.tmp 2], pc56, false⟩
theorem fnOk56 : FnOk Tryz.prog 56 fn56 := fk [] Tryz.func56 rfl rfl
def red57 : Rb Tryz.f57 [] := by refine ⟨?p, ?h⟩; case h => conv => lhs; reduce
def pc57 : PC := red57.1
def fn57 : PFn := ⟨7, [.cell 2 31], pc57, false⟩
theorem fnOk57 : FnOk Tryz.prog 57 fn57 := fk [] Tryz.func57 rfl rfl
def red58 : Rb Tryz.f58 [] := by refine ⟨?p, ?h⟩; case h => conv => lhs; reduce
def red58_0 : Rd ((loopIn 0 red58.1).getD .skip) := by refine ⟨?p, ?h⟩; case h => conv => lhs; reduce
def pc58L0 : PC := red58_0.1
def pc58 : PC := red58.1
def fn58 : PFn := ⟨20, [.tmp 2], pc58, false⟩
theorem fnOk58 : FnOk Tryz.prog 58 fn58 := fk [] Tryz.func58 rfl rfl
def red59 : Rb Tryz.f59 [] := by refine ⟨?p, ?h⟩; case h => conv => lhs; reduce
def red59_0 : Rd ((loopIn 0 red59.1).getD .skip) := by refine ⟨?p, ?h⟩; case h => conv => lhs; reduce
def pc59L0 : PC := red59_0.1
def pc59 : PC := red59.1
def fn59 : PFn := ⟨18, [.tmp 2], pc59, false⟩
theorem fnOk59 : FnOk Tryz.prog 59 fn59 := fk [] Tryz.func59 rfl rfl
def red60 : Rb Tryz.f60 [] := by refine ⟨?p, ?h⟩; case h => conv => lhs; reduce
def pc60 : PC := red60.1
def fn60 : PFn := ⟨20, [.tmp 4], pc60, false⟩
theorem fnOk60 : FnOk Tryz.prog 60 fn60 := fk [] Tryz.func60 rfl rfl
def red61 : Rb Tryz.f61 [] := by refine ⟨?p, ?h⟩; case h => conv => lhs; reduce
def pc61 : PC := red61.1
def fn61 : PFn := ⟨20, [.tmp 4], pc61, false⟩
theorem fnOk61 : FnOk Tryz.prog 61 fn61 := fk [] Tryz.func61 rfl rfl
def red62 : Rb Tryz.f62 [] := by refine ⟨?p, ?h⟩; case h => conv => lhs; reduce
def pc62 : PC := red62.1
def fn62 : PFn := ⟨19, [.tmp 6], pc62, false⟩
theorem fnOk62 : FnOk Tryz.prog 62 fn62 := fk [] Tryz.func62 rfl rfl
def red63 : Rb Tryz.f63 [] := by refine ⟨?p, ?h⟩; case h => conv => lhs; reduce
def pc63 : PC := red63.1
def fn63 : PFn := ⟨24, [.tmp 4, .tmp 5], pc63, false⟩
theorem fnOk63 : FnOk Tryz.prog 63 fn63 := fk [] Tryz.func63 rfl rfl
def red64 : Rb Tryz.f64 [] := by refine ⟨?p, ?h⟩; case h => conv => lhs; reduce
def red64_0 : Rd ((loopIn 0 red64.1).getD .skip) := by refine ⟨?p, ?h⟩; case h => conv => lhs; reduce
def pc64L0 : PC := red64_0.1
def pc64 : PC := red64.1
def fn64 : PFn := ⟨46, [.tmp 2, .tmp 3, .tmp 4], pc64, false⟩
theorem fnOk64 : FnOk Tryz.prog 64 fn64 := fk [] Tryz.func64 rfl rfl
def red65 : Rb Tryz.f65 [] := by refine ⟨?p, ?h⟩; case h => conv => lhs; reduce
def pc65 : PC := red65.1
def fn65 : PFn := ⟨8, [.tmp 4], pc65, false⟩
theorem fnOk65 : FnOk Tryz.prog 65 fn65 := fk [] Tryz.func65 rfl rfl
def red66 : Rb Tryz.f66 [] := by refine ⟨?p, ?h⟩; case h => conv => lhs; reduce
def red66_1 : Rd ((loopIn 1 red66.1).getD .skip) := by refine ⟨?p, ?h⟩; case h => conv => lhs; reduce
def pc66L1 : PC := red66_1.1
def pc66 : PC := red66.1
def fn66 : PFn := ⟨108, [.tmp 4], pc66, false⟩
theorem fnOk66 : FnOk Tryz.prog 66 fn66 := fk [] Tryz.func66 rfl rfl
def red73 : Rb Tryz.f73 [] := by refine ⟨?p, ?h⟩; case h => conv => lhs; reduce
def pc73 : PC := red73.1
def fn73 : PFn := ⟨31, [.tmp 2], pc73, false⟩
theorem fnOk73 : FnOk Tryz.prog 73 fn73 := fk [] Tryz.func73 rfl rfl
def red74 : Rb Tryz.f74 [] := by refine ⟨?p, ?h⟩; case h => conv => lhs; reduce
def pc74 : PC := red74.1
def fn74 : PFn := ⟨6, [.tmp 2], pc74, false⟩
theorem fnOk74 : FnOk Tryz.prog 74 fn74 := fk [] Tryz.func74 rfl rfl
def red75 : Rb Tryz.f75 [] := by refine ⟨?p, ?h⟩; case h => conv => lhs; reduce
def pc75 : PC := red75.1
def fn75 : PFn := ⟨9, [.tmp 3], pc75, false⟩
theorem fnOk75 : FnOk Tryz.prog 75 fn75 := fk [] Tryz.func75 rfl rfl
def red76 : Rb Tryz.f76 [] := by refine ⟨?p, ?h⟩; case h => conv => lhs; reduce
def pc76 : PC := red76.1
def fn76 : PFn := ⟨14, [.tmp 2], pc76, false⟩
theorem fnOk76 : FnOk Tryz.prog 76 fn76 := fk [] Tryz.func76 rfl rfl
def red77 : Rb Tryz.f77 [] := by refine ⟨?p, ?h⟩; case h => conv => lhs; reduce
def red77_0 : Rd ((loopIn 0 red77.1).getD .skip) := by refine ⟨?p, ?h⟩; case h => conv => lhs; reduce
def pc77L0 : PC := red77_0.1
def pc77 : PC := red77.1
def fn77 : PFn := ⟨71, [.tmp 4], pc77, false⟩
theorem fnOk77 : FnOk Tryz.prog 77 fn77 := fk [] Tryz.func77 rfl rfl
def red78 : Rb Tryz.f78 [] := by refine ⟨?p, ?h⟩; case h => conv => lhs; reduce
def red78_0 : Rd ((loopIn 0 red78.1).getD .skip) := by refine ⟨?p, ?h⟩; case h => conv => lhs; reduce
def pc78L0 : PC := red78_0.1
def pc78 : PC := red78.1
def fn78 : PFn := ⟨19, [.tmp 4], pc78, false⟩
theorem fnOk78 : FnOk Tryz.prog 78 fn78 := fk [] Tryz.func78 rfl rfl
def red81 : Rb Tryz.f81 [] := by refine ⟨?p, ?h⟩; case h => conv => lhs; reduce
def red81_0 : Rd ((loopIn 0 red81.1).getD .skip) := by refine ⟨?p, ?h⟩; case h => conv => lhs; reduce
def pc81L0 : PC := red81_0.1
def pc81 : PC := red81.1
def fn81 : PFn := ⟨26, [.tmp 2], pc81, false⟩
theorem fnOk81 : FnOk Tryz.prog 81 fn81 := fk [] Tryz.func81 rfl rfl
def red82 : Rb Tryz.f82 [1] := by refine ⟨?p, ?h⟩; case h => conv => lhs; reduce
def pc82 : PC := red82.1
def fn82 : PFn := ⟨14, [.tmp 6], pc82, false⟩
theorem fnOk82 : FnOk Tryz.prog 82 fn82 := fk [1] Tryz.func82 rfl rfl
def red83 : Rb Tryz.f83 [] := by refine ⟨?p, ?h⟩; case h => conv => lhs; reduce
def red83_0 : Rd ((loopIn 0 red83.1).getD .skip) := by refine ⟨?p, ?h⟩; case h => conv => lhs; reduce
def pc83L0 : PC := red83_0.1
def pc83 : PC := red83.1
def fn83 : PFn := ⟨31, [.tmp 2], pc83, false⟩
theorem fnOk83 : FnOk Tryz.prog 83 fn83 := fk [] Tryz.func83 rfl rfl
def red84 : Rb Tryz.f84 [] := by refine ⟨?p, ?h⟩; case h => conv => lhs; reduce
def pc84 : PC := red84.1
def fn84 : PFn := ⟨35, [.tmp 4], pc84, false⟩
theorem fnOk84 : FnOk Tryz.prog 84 fn84 := fk [] Tryz.func84 rfl rfl
def red85 : Rb Tryz.f85 [1] := by refine ⟨?p, ?h⟩; case h => conv => lhs; reduce
def pc85 : PC := red85.1
def fn85 : PFn := ⟨14, [.tmp 4, .tmp 5], pc85, false⟩
theorem fnOk85 : FnOk Tryz.prog 85 fn85 := fk [1] Tryz.func85 rfl rfl
def red86 : Rb Tryz.f86 [1000025] := by refine ⟨?p, ?h⟩; case h => conv => lhs; reduce
def pc86 : PC := red86.1
def fn86 : PFn := ⟨95, [.tmp 6], pc86, true⟩
theorem fnOk86 : FnOk Tryz.prog 86 fn86 := fk [1000025] Tryz.func86 rfl rfl
def red87 : Rb Tryz.f87 [] := by refine ⟨?p, ?h⟩; case h => conv => lhs; reduce
def red87_0 : Rd ((loopIn 0 red87.1).getD .skip) := by refine ⟨?p, ?h⟩; case h => conv => lhs; reduce
def pc87L0 : PC := red87_0.1
def pc87 : PC := red87.1
def fn87 : PFn := ⟨31, [.cell 2 46], pc87, false⟩
theorem fnOk87 : FnOk Tryz.prog 87 fn87 := fk [] Tryz.func87 rfl rfl
def red88 : Rb Tryz.f88 [] := by refine ⟨?p, ?h⟩; case h => conv => lhs; reduce
def pc88 : PC := red88.1
def fn88 : PFn := ⟨7, [.tmp 2], pc88, false⟩
theorem fnOk88 : FnOk Tryz.prog 88 fn88 := fk [] Tryz.func88 rfl rfl
def red89 : Rb Tryz.f89 [1000005, 1000007] := by refine ⟨?p, ?h⟩; case h => conv => lhs; reduce
def pc89 : PC := red89.1
def fn89 : PFn := ⟨8, [.tmp 2], pc89, true⟩
theorem fnOk89 : FnOk Tryz.prog 89 fn89 := fk [1000005, 1000007] Tryz.func89 rfl rfl
def red90 : Rb Tryz.f90 [] := by refine ⟨?p, ?h⟩; case h => conv => lhs; reduce
def pc90 : PC := red90.1
def fn90 : PFn := ⟨11, [.cell 4 31], pc90, false⟩
theorem fnOk90 : FnOk Tryz.prog 90 fn90 := fk [] Tryz.func90 rfl rfl
def red93 : Rb Tryz.f93 [11, 1000056] := by refine ⟨?p, ?h⟩; case h => conv => lhs; reduce
def red93_0 : Rd ((loopIn 0 red93.1).getD .skip) := by refine ⟨?p, ?h⟩; case h => conv => lhs; reduce
def pc93L0 : PC := red93_0.1
def pc93 : PC := red93.1
def fn93 : PFn := ⟨61, [.tmp 8], pc93, false⟩
theorem fnOk93 : FnOk Tryz.prog 93 fn93 := fk [11, 1000056] Tryz.func93 rfl rfl
def red95 : Rb Tryz.f95 [] := by refine ⟨?p, ?h⟩; case h => conv => lhs; reduce
def pc95 : PC := red95.1
def fn95 : PFn := ⟨34, [.tmp 2], pc95, false⟩
theorem fnOk95 : FnOk Tryz.prog 95 fn95 := fk [] Tryz.func95 rfl rfl
def red97 : Rb Tryz.f97 [] := by refine ⟨?p, ?h⟩; case h => conv => lhs; reduce
def pc97 : PC := red97.1
def fn97 : PFn := ⟨8, [.tmp 2], pc97, false⟩
theorem fnOk97 : FnOk Tryz.prog 97 fn97 := fk [] Tryz.func97 rfl rfl
def red98 : Rb Tryz.f98 [] := by refine ⟨?p, ?h⟩; case h => conv => lhs; reduce
def red98_0 : Rd ((loopIn 0 red98.1).getD .skip) := by refine ⟨?p, ?h⟩; case h => conv => lhs; reduce
def pc98L0 : PC := red98_0.1
def pc98 : PC := red98.1
def fn98 : PFn := ⟨42, [.tmp 4], pc98, true⟩
theorem fnOk98 : FnOk Tryz.prog 98 fn98 := fk [] Tryz.func98 rfl rfl
def red99 : Rb Tryz.f99 [] := by refine ⟨?p, ?h⟩; case h => conv => lhs; reduce
def pc99 : PC := red99.1
def fn99 : PFn := ⟨8, [.tmp 3], pc99, false⟩
theorem fnOk99 : FnOk Tryz.prog 99 fn99 := fk [] Tryz.func99 rfl rfl
def red100 : Rb Tryz.f100 [] := by refine ⟨?p, ?h⟩; case h => conv => lhs; reduce
def pc100 : PC := red100.1
def fn100 : PFn := ⟨22, [.tmp 2], pc100, false⟩
theorem fnOk100 : FnOk Tryz.prog 100 fn100 := fk [] Tryz.func100 rfl rfl
def red101 : Rb Tryz.f101 [] := by refine ⟨?p, ?h⟩; case h => conv => lhs; reduce
def pc101 : PC := red101.1
def fn101 : PFn := ⟨5, [.tmp 2], pc101, false⟩
theorem fnOk101 : FnOk Tryz.prog 101 fn101 := fk [] Tryz.func101 rfl rfl
def red104 : Rb Tryz.f104 [10] := by refine ⟨?p, ?h⟩; case h => conv => lhs; reduce
def red104_0 : Rd ((loopIn 0 red104.1).getD .skip) := by refine ⟨?p, ?h⟩; case h => conv => lhs; reduce
def pc104L0 : PC := red104_0.1
def red104_2 : Rd ((loopIn 2 red104.1).getD .skip) := by refine ⟨?p, ?h⟩; case h => conv => lhs; reduce
def pc104L2 : PC := red104_2.1
def pc104 : PC := red104.1
def fn104 : PFn := ⟨66, [.tmp 2], pc104, false⟩
theorem fnOk104 : FnOk Tryz.prog 104 fn104 := fk [10] Tryz.func104 rfl rfl
def red105 : Rb Tryz.f105 [] := by refine ⟨?p, ?h⟩; case h => conv => lhs; reduce
def pc105 : PC := red105.1
def fn105 : PFn := ⟨6, [.tmp 2], pc105, false⟩
theorem fnOk105 : FnOk Tryz.prog 105 fn105 := fk [] Tryz.func105 rfl rfl
def red106 : Rb Tryz.f106 [] := by refine ⟨?p, ?h⟩; case h => conv => lhs; reduce
def pc106 : PC := red106.1
def fn106 : PFn := ⟨6, [.tmp 2], pc106, false⟩
theorem fnOk106 : FnOk Tryz.prog 106 fn106 := fk [] Tryz.func106 rfl rfl
def red107 : Rb Tryz.f107 [] := by refine ⟨?p, ?h⟩; case h => conv => lhs; reduce
def pc107 : PC := red107.1
def fn107 : PFn := ⟨21, [.tmp 6], pc107, false⟩
theorem fnOk107 : FnOk Tryz.prog 107 fn107 := fk [] Tryz.func107 rfl rfl
def red108 : Rb Tryz.f108 [] := by refine ⟨?p, ?h⟩; case h => conv => lhs; reduce
def pc108 : PC := red108.1
def fn108 : PFn := ⟨58, [.tmp 4, .tmp 5], pc108, false⟩
theorem fnOk108 : FnOk Tryz.prog 108 fn108 := fk [] Tryz.func108 rfl rfl
def red109 : Rb Tryz.f109 [] := by refine ⟨?p, ?h⟩; case h => conv => lhs; reduce
def pc109 : PC := red109.1
def fn109 : PFn := ⟨18, [.tmp 4], pc109, false⟩
theorem fnOk109 : FnOk Tryz.prog 109 fn109 := fk [] Tryz.func109 rfl rfl
def red110 : Rb Tryz.f110 [] := by refine ⟨?p, ?h⟩; case h => conv => lhs; reduce
def red110_0 : Rd ((loopIn 0 red110.1).getD .skip) := by refine ⟨?p, ?h⟩; case h => conv => lhs; reduce
def pc110L0 : PC := red110_0.1
def pc110 : PC := red110.1
def fn110 : PFn := ⟨62, [.cell 2 31, .tmp 3], pc110, false⟩
theorem fnOk110 : FnOk Tryz.prog 110 fn110 := fk [] Tryz.func110 rfl rfl
def red111 : Rb Tryz.f111 [] := by refine ⟨?p, ?h⟩; case h => conv => lhs; reduce
def red111_0 : Rd ((loopIn 0 red111.1).getD .skip) := by refine ⟨?p, ?h⟩; case h => conv => lhs; reduce
def pc111L0 : PC := red111_0.1
def pc111 : PC := red111.1
def fn111 : PFn := ⟨46, [.tmp 2, .tmp 3], pc111, false⟩
theorem fnOk111 : FnOk Tryz.prog 111 fn111 := fk [] Tryz.func111 rfl rfl
def red112 : Rb Tryz.f112 [] := by refine ⟨?p, ?h⟩; case h => conv => lhs; reduce
def red112_0 : Rd ((loopIn 0 red112.1).getD .skip) := by refine ⟨?p, ?h⟩; case h => conv => lhs; reduce
def pc112L0 : PC := red112_0.1
def pc112 : PC := red112.1
def fn112 : PFn := ⟨38, [.tmp 2, .tmp 3], pc112, false⟩
theorem fnOk112 : FnOk Tryz.prog 112 fn112 := fk [] Tryz.func112 rfl rfl
def red113 : Rb Tryz.f113 [] := by refine ⟨?p, ?h⟩; case h => conv => lhs; reduce
def red113_2 : Rd ((loopIn 2 red113.1).getD .skip) := by refine ⟨?p, ?h⟩; case h => conv => lhs; reduce
def pc113L2 : PC := red113_2.1
def red113_0 : Rd ((loopIn 0 red113.1).getD .skip) := by refine ⟨?p, ?h⟩; case h => conv => lhs; reduce
def pc113L0 : PC := red113_0.1
def pc113 : PC := red113.1
def fn113 : PFn := ⟨80, [.tmp 2, .tmp 3], pc113, false⟩
theorem fnOk113 : FnOk Tryz.prog 113 fn113 := fk [] Tryz.func113 rfl rfl
def red114 : Rb Tryz.f114 [20] := by refine ⟨?p, ?h⟩; case h => conv => lhs; reduce
def red114_0 : Rd ((loopIn 0 red114.1).getD .skip) := by refine ⟨?p, ?h⟩; case h => conv => lhs; reduce
def pc114L0 : PC := red114_0.1
def pc114 : PC := red114.1
def fn114 : PFn := ⟨140, [.cell 2 60, .tmp 3], pc114, false⟩
theorem fnOk114 : FnOk Tryz.prog 114 fn114 := fk [20] Tryz.func114 rfl rfl
def red115 : Rb Tryz.f115 [] := by refine ⟨?p, ?h⟩; case h => conv => lhs; reduce
def pc115 : PC := red115.1
def fn115 : PFn := ⟨8, [.tmp 4], pc115, false⟩
theorem fnOk115 : FnOk Tryz.prog 115 fn115 := fk [] Tryz.func115 rfl rfl
def red118 : Rb Tryz.f118 [] := by refine ⟨?p, ?h⟩; case h => conv => lhs; reduce
def red118_0 : Rd ((loopIn 0 red118.1).getD .skip) := by refine ⟨?p, ?h⟩; case h => conv => lhs; reduce
def pc118L0 : PC := red118_0.1
def pc118 : PC := red118.1
def fn118 : PFn := ⟨40, [.tmp 2], pc118, false⟩
theorem fnOk118 : FnOk Tryz.prog 118 fn118 := fk [] Tryz.func118 rfl rfl
def red119 : Rb Tryz.f119 [] := by refine ⟨?p, ?h⟩; case h => conv => lhs; reduce
def pc119 : PC := red119.1
def fn119 : PFn := ⟨9, [.tmp 4], pc119, false⟩
theorem fnOk119 : FnOk Tryz.prog 119 fn119 := fk [] Tryz.func119 rfl rfl
def red120 : Rb Tryz.f120 [] := by refine ⟨?p, ?h⟩; case h => conv => lhs; reduce
def pc120 : PC := red120.1
def fn120 : PFn := ⟨14, [.tmp 2], pc120, false⟩
theorem fnOk120 : FnOk Tryz.prog 120 fn120 := fk [] Tryz.func120 rfl rfl
def red121 : Rb Tryz.f121 [] := by refine ⟨?p, ?h⟩; case h => conv => lhs; reduce
def pc121 : PC := red121.1
def fn121 : PFn := ⟨30, [.tmp 4], pc121, false⟩
theorem fnOk121 : FnOk Tryz.prog 121 fn121 := fk [] Tryz.func121 rfl rfl
def red122 : Rb Tryz.f122 [] := by refine ⟨?p, ?h⟩; case h => conv => lhs; reduce
def red122_0 : Rd ((loopIn 0 red122.1).getD .skip) := by refine ⟨?p, ?h⟩; case h => conv => lhs; reduce
def pc122L0 : PC := red122_0.1
def pc122 : PC := red122.1
def fn122 : PFn := ⟨21, [.cell 2 219, .tmp 3], pc122, false⟩
theorem fnOk122 : FnOk Tryz.prog 122 fn122 := fk [] Tryz.func122 rfl rfl
def red126 : Rb Tryz.f126 [] := by refine ⟨?p, ?h⟩; case h => conv => lhs; reduce
def red126_0 : Rd ((loopIn 0 red126.1).getD .skip) := by refine ⟨?p, ?h⟩; case h => conv => lhs; reduce
def pc126L0 : PC := red126_0.1
def pc126 : PC := red126.1
def fn126 : PFn := ⟨24, [.tmp 2], pc126, false⟩
theorem fnOk126 : FnOk Tryz.prog 126 fn126 := fk [] Tryz.func126 rfl rfl
def red127 : Rb Tryz.f127 [1000018] := by refine ⟨?p, ?h⟩; case h => conv => lhs; reduce
def red127_0 : Rd ((loopIn 0 red127.1).getD .skip) := by refine ⟨?p, ?h⟩; case h => conv => lhs; reduce
def pc127L0 : PC := red127_0.1
def pc127 : PC := red127.1
def fn127 : PFn := ⟨24, [.tmp 2], pc127, true⟩
theorem fnOk127 : FnOk Tryz.prog 127 fn127 := fk [1000018] Tryz.func127 rfl rfl
def red128 : Rb Tryz.f128 [] := by refine ⟨?p, ?h⟩; case h => conv => lhs; reduce
def pc128 : PC := red128.1
def fn128 : PFn := ⟨12, [.tmp 4], pc128, false⟩
theorem fnOk128 : FnOk Tryz.prog 128 fn128 := fk [] Tryz.func128 rfl rfl
def red129 : Rb Tryz.f129 [] := by refine ⟨?p, ?h⟩; case h => conv => lhs; reduce
def pc129 : PC := red129.1
def fn129 : PFn := ⟨4, [.tmp 2], pc129, false⟩
theorem fnOk129 : FnOk Tryz.prog 129 fn129 := fk [] Tryz.func129 rfl rfl
def red130 : Rb Tryz.f130 [] := by refine ⟨?p, ?h⟩; case h => conv => lhs; reduce
def red130_0 : Rd ((loopIn 0 red130.1).getD .skip) := by refine ⟨?p, ?h⟩; case h => conv => lhs; reduce
def pc130L0 : PC := red130_0.1
def pc130 : PC := red130.1
def fn130 : PFn := ⟨31, [.cell 2 110], pc130, false⟩
theorem fnOk130 : FnOk Tryz.prog 130 fn130 := fk [] Tryz.func130 rfl rfl
def red131 : Rb Tryz.f131 [] := by refine ⟨?p, ?h⟩; case h => conv => lhs; reduce
def pc131 : PC := red131.1
def fn131 : PFn := ⟨14, [.tmp 4], pc131, false⟩
theorem fnOk131 : FnOk Tryz.prog 131 fn131 := fk [] Tryz.func131 rfl rfl
def red132 : Rb Tryz.f132 [] := by refine ⟨?p, ?h⟩; case h => conv => lhs; reduce
def red132_0 : Rd ((loopIn 0 red132.1).getD .skip) := by refine ⟨?p, ?h⟩; case h => conv => lhs; reduce
def pc132L0 : PC := red132_0.1
def pc132 : PC := red132.1
def fn132 : PFn := ⟨49, [.tmp 6, .tmp 7], pc132, false⟩
theorem fnOk132 : FnOk Tryz.prog 132 fn132 := fk [] Tryz.func132 rfl rfl
def red133 : Rb Tryz.f133 [] := by refine ⟨?p, ?h⟩; case h => conv => lhs; reduce
def pc133 : PC := red133.1
def fn133 : PFn := ⟨9, [.tmp 4], pc133, false⟩
theorem fnOk133 : FnOk Tryz.prog 133 fn133 := fk [] Tryz.func133 rfl rfl
def red136 : Rb Tryz.f136 [] := by refine ⟨?p, ?h⟩; case h => conv => lhs; reduce
def pc136 : PC := red136.1
def fn136 : PFn := ⟨8, [.tmp 2], pc136, false⟩
theorem fnOk136 : FnOk Tryz.prog 136 fn136 := fk [] Tryz.func136 rfl rfl
def red137 : Rb Tryz.f137 [] := by refine ⟨?p, ?h⟩; case h => conv => lhs; reduce
def pc137 : PC := red137.1
def fn137 : PFn := ⟨8, [.tmp 2], pc137, false⟩
theorem fnOk137 : FnOk Tryz.prog 137 fn137 := fk [] Tryz.func137 rfl rfl
def red140 : Rb Tryz.f140 [] := by refine ⟨?p, ?h⟩; case h => conv => lhs; reduce
def red140_0 : Rd ((loopIn 0 red140.1).getD .skip) := by refine ⟨?p, ?h⟩; case h => conv => lhs; reduce
def pc140L0 : PC := red140_0.1
def pc140 : PC := red140.1
def fn140 : PFn := ⟨20, [.tmp 2], pc140, false⟩
theorem fnOk140 : FnOk Tryz.prog 140 fn140 := fk [] Tryz.func140 rfl rfl
def red141 : Rb Tryz.f141 [] := by refine ⟨?p, ?h⟩; case h => conv => lhs; reduce
def red141_0 : Rd ((loopIn 0 red141.1).getD .skip) := by refine ⟨?p, ?h⟩; case h => conv => lhs; reduce
def pc141L0 : PC := red141_0.1
def pc141 : PC := red141.1
def fn141 : PFn := ⟨19, [.tmp 4], pc141, false⟩
theorem fnOk141 : FnOk Tryz.prog 141 fn141 := fk [] Tryz.func141 rfl rfl
def red142 : Rb Tryz.f142 [] := by refine ⟨?p, ?h⟩; case h => conv => lhs; reduce
def pc142 : PC := red142.1
def fn142 : PFn := ⟨4, [.tmp 2], pc142, false⟩
theorem fnOk142 : FnOk Tryz.prog 142 fn142 := fk [] Tryz.func142 rfl rfl
def red144 : Rb Tryz.f144 [] := by refine ⟨?p, ?h⟩; case h => conv => lhs; reduce
def pc144 : PC := red144.1
def fn144 : PFn := ⟨8, [.tmp 4], pc144, false⟩
theorem fnOk144 : FnOk Tryz.prog 144 fn144 := fk [] Tryz.func144 rfl rfl
def red145 : Rb Tryz.f145 [] := by refine ⟨?p, ?h⟩; case h => conv => lhs; reduce
def pc145 : PC := red145.1
def fn145 : PFn := ⟨25, [.tmp 6, .tmp 7], pc145, false⟩
theorem fnOk145 : FnOk Tryz.prog 145 fn145 := fk [] Tryz.func145 rfl rfl
def red146 : Rb Tryz.f146 [] := by refine ⟨?p, ?h⟩; case h => conv => lhs; reduce
def pc146 : PC := red146.1
def fn146 : PFn := ⟨35, [.tmp 4, .tmp 5], pc146, false⟩
theorem fnOk146 : FnOk Tryz.prog 146 fn146 := fk [] Tryz.func146 rfl rfl
def red147 : Rb Tryz.f147 [10, 25] := by refine ⟨?p, ?h⟩; case h => conv => lhs; reduce
def red147_0 : Rd ((loopIn 0 red147.1).getD .skip) := by refine ⟨?p, ?h⟩; case h => conv => lhs; reduce
def pc147L0 : PC := red147_0.1
def red147_2 : Rd ((loopIn 2 red147.1).getD .skip) := by refine ⟨?p, ?h⟩; case h => conv => lhs; reduce
def pc147L2 : PC := red147_2.1
def pc147 : PC := red147.1
def fn147 : PFn := ⟨181, [.cell 2 46, .tmp 3], pc147, false⟩
theorem fnOk147 : FnOk Tryz.prog 147 fn147 := fk [10, 25] Tryz.func147 rfl rfl
def red148 : Rb Tryz.f148 [] := by refine ⟨?p, ?h⟩; case h => conv => lhs; reduce
def pc148 : PC := red148.1
def fn148 : PFn := ⟨18, [.tmp 2, .tmp 3], pc148, false⟩
theorem fnOk148 : FnOk Tryz.prog 148 fn148 := fk [] Tryz.func148 rfl rfl
def red149 : Rb Tryz.f149 [9, 22] := by refine ⟨?p, ?h⟩; case h => conv => lhs; reduce
def red149_0 : Rd ((loopIn 0 red149.1).getD .skip) := by refine ⟨?p, ?h⟩; case h => conv => lhs; reduce
def pc149L0 : PC := red149_0.1
def red149_2 : Rd ((loopIn 2 red149.1).getD .skip) := by refine ⟨?p, ?h⟩; case h => conv => lhs; reduce
def pc149L2 : PC := red149_2.1
def pc149 : PC := red149.1
def fn149 : PFn := ⟨148, [.cell 2 110, .tmp 3], pc149, false⟩
theorem fnOk149 : FnOk Tryz.prog 149 fn149 := fk [9, 22] Tryz.func149 rfl rfl
def red150 : Rb Tryz.f150 [] := by refine ⟨?p, ?h⟩; case h => conv => lhs; reduce
def pc150 : PC := red150.1
def fn150 : PFn := ⟨13, [.tmp 4], pc150, false⟩
theorem fnOk150 : FnOk Tryz.prog 150 fn150 := fk [] Tryz.func150 rfl rfl
def red151 : Rb Tryz.f151 [] := by refine ⟨?p, ?h⟩; case h => conv => lhs; reduce
def red151_0 : Rd ((loopIn 0 red151.1).getD .skip) := by refine ⟨?p, ?h⟩; case h => conv => lhs; reduce
def pc151L0 : PC := red151_0.1
def pc151 : PC := red151.1
def fn151 : PFn := ⟨46, [.tmp 2], pc151, false⟩
theorem fnOk151 : FnOk Tryz.prog 151 fn151 := fk [] Tryz.func151 rfl rfl
def red153 : Rb Tryz.f153 [] := by refine ⟨?p, ?h⟩; case h => conv => lhs; reduce
def red153_0 : Rd ((loopIn 0 red153.1).getD .skip) := by refine ⟨?p, ?h⟩; case h => conv => lhs; reduce
def pc153L0 : PC := red153_0.1
def pc153 : PC := red153.1
def fn153 : PFn := ⟨19, [.tmp 4], pc153, false⟩
theorem fnOk153 : FnOk Tryz.prog 153 fn153 := fk [] Tryz.func153 rfl rfl
def red154 : Rb Tryz.f154 [] := by refine ⟨?p, ?h⟩; case h => conv => lhs; reduce
def pc154 : PC := red154.1
def fn154 : PFn := ⟨30, [.tmp 4], pc154, false⟩
theorem fnOk154 : FnOk Tryz.prog 154 fn154 := fk [] Tryz.func154 rfl rfl
def red155 : Rb Tryz.f155 [] := by refine ⟨?p, ?h⟩; case h => conv => lhs; reduce
def red155_0 : Rd ((loopIn 0 red155.1).getD .skip) := by refine ⟨?p, ?h⟩; case h => conv => lhs; reduce
def pc155L0 : PC := red155_0.1
def pc155 : PC := red155.1
def fn155 : PFn := ⟨29, [.tmp 2], pc155, false⟩
theorem fnOk155 : FnOk Tryz.prog 155 fn155 := fk [] Tryz.func155 rfl rfl
def red156 : Rb Tryz.f156 [] := by refine ⟨?p, ?h⟩; case h => conv => lhs; reduce
def pc156 : PC := red156.1
def fn156 : PFn := ⟨17, [.tmp 0], pc156, false⟩
theorem fnOk156 : FnOk Tryz.prog 156 fn156 := fk [] Tryz.func156 rfl rfl
def red158 : Rb Tryz.f158 [] := by refine ⟨?p, ?h⟩; case h => conv => lhs; reduce
def pc158 : PC := red158.1
def fn158 : PFn := ⟨9, [], pc158, false⟩
theorem fnOk158 : FnOk Tryz.prog 158 fn158 := fk [] Tryz.func158 rfl rfl
def red160 : Rb Tryz.f160 [] := by refine ⟨?p, ?h⟩; case h => conv => lhs; reduce
def red160_2 : Rd ((loopIn 2 red160.1).getD .skip) := by refine ⟨?p, ?h⟩; case h => conv => lhs; reduce
def pc160L2 : PC := red160_2.1
def red160_0 : Rd ((loopIn 0 red160.1).getD .skip) := by refine ⟨?p, ?h⟩; case h => conv => lhs; reduce
def pc160L0 : PC := red160_0.1
def pc160 : PC := red160.1
def fn160 : PFn := ⟨66, [.tmp 4], pc160, true⟩
theorem fnOk160 : FnOk Tryz.prog 160 fn160 := fk [] Tryz.func160 rfl rfl
def red163 : Rb Tryz.f163 [] := by refine ⟨?p, ?h⟩; case h => conv => lhs; reduce
def pc163 : PC := red163.1
def fn163 : PFn := ⟨14, [], pc163, false⟩
theorem fnOk163 : FnOk Tryz.prog 163 fn163 := fk [] Tryz.func163 rfl rfl
def red165 : Rb Tryz.f165 [] := by refine ⟨?p, ?h⟩; case h => conv => lhs; reduce
def pc165 : PC := red165.1
def fn165 : PFn := ⟨8, [.tmp 2], pc165, false⟩
theorem fnOk165 : FnOk Tryz.prog 165 fn165 := fk [] Tryz.func165 rfl rfl
def red172 : Rb Tryz.f172 [1000031] := by refine ⟨?p, ?h⟩; case h => conv => lhs; reduce
def red172_0 : Rd ((loopIn 0 red172.1).getD .skip) := by refine ⟨?p, ?h⟩; case h => conv => lhs; reduce
def pc172L0 : PC := red172_0.1
def pc172 : PC := red172.1
def fn172 : PFn := ⟨66, [.tmp 8], pc172, false⟩
theorem fnOk172 : FnOk Tryz.prog 172 fn172 := fk [1000031] Tryz.func172 rfl rfl
def red173 : Rb Tryz.f173 [] := by refine ⟨?p, ?h⟩; case h => conv => lhs; reduce
def pc173 : PC := red173.1
def fn173 : PFn := ⟨73, [.tmp 6, .tmp 7], pc173, false⟩
theorem fnOk173 : FnOk Tryz.prog 173 fn173 := fk [] Tryz.func173 rfl rfl
def red175 : Rb Tryz.f175 [] := by refine ⟨?p, ?h⟩; case h => conv => lhs; reduce
def pc175 : PC := red175.1
def fn175 : PFn := ⟨13, [.tmp 4, .tmp 5, .tmp 6], pc175, false⟩
theorem fnOk175 : FnOk Tryz.prog 175 fn175 := fk [] Tryz.func175 rfl rfl
def red176 : Rb Tryz.f176 [] := by refine ⟨?p, ?h⟩; case h => conv => lhs; reduce
def red176_0 : Rd ((loopIn 0 red176.1).getD .skip) := by refine ⟨?p, ?h⟩; case h => conv => lhs; reduce
def pc176L0 : PC := red176_0.1
def pc176 : PC := red176.1
def fn176 : PFn := ⟨77, [.tmp 2, .tmp 3], pc176, false⟩
theorem fnOk176 : FnOk Tryz.prog 176 fn176 := fk [] Tryz.func176 rfl rfl
def red177 : Rb Tryz.f177 [] := by refine ⟨?p, ?h⟩; case h => conv => lhs; reduce
def pc177 : PC := red177.1
def fn177 : PFn := ⟨43, [.tmp 4], pc177, false⟩
theorem fnOk177 : FnOk Tryz.prog 177 fn177 := fk [] Tryz.func177 rfl rfl
def red178 : Rb Tryz.f178 [] := by refine ⟨?p, ?h⟩; case h => conv => lhs; reduce
def red178_0 : Rd ((loopIn 0 red178.1).getD .skip) := by refine ⟨?p, ?h⟩; case h => conv => lhs; reduce
def pc178L0 : PC := red178_0.1
def pc178 : PC := red178.1
def fn178 : PFn := ⟨19, [.tmp 2], pc178, false⟩
theorem fnOk178 : FnOk Tryz.prog 178 fn178 := fk [] Tryz.func178 rfl rfl
def red181 : Rb Tryz.f181 [] := by refine ⟨?p, ?h⟩; case h => conv => lhs; reduce
def red181_0 : Rd ((loopIn 0 red181.1).getD .skip) := by refine ⟨?p, ?h⟩; case h => conv => lhs; reduce
def pc181L0 : PC := red181_0.1
def red181_4 : Rd ((loopIn 4 red181.1).getD .skip) := by refine ⟨?p, ?h⟩; case h => conv => lhs; reduce
def pc181L4 : PC := red181_4.1
def red181_2 : Rd ((loopIn 2 red181.1).getD .skip) := by refine ⟨?p, ?h⟩; case h => conv => lhs; reduce
def pc181L2 : PC := red181_2.1
def pc181 : PC := red181.1
def fn181 : PFn := ⟨63, [], pc181, false⟩
theorem fnOk181 : FnOk Tryz.prog 181 fn181 := fk [] Tryz.func181 rfl rfl
def red183 : Rb Tryz.f183 [] := by refine ⟨?p, ?h⟩; case h => conv => lhs; reduce
def red183_0 : Rd ((loopIn 0 red183.1).getD .skip) := by refine ⟨?p, ?h⟩; case h => conv => lhs; reduce
def pc183L0 : PC := red183_0.1
def pc183 : PC := red183.1
def fn183 : PFn := ⟨148, [], pc183, false⟩
theorem fnOk183 : FnOk Tryz.prog 183 fn183 := fk [] Tryz.func183 rfl rfl
def red184 : Rb Tryz.f184 [] := by refine ⟨?p, ?h⟩; case h => conv => lhs; reduce
def pc184 : PC := red184.1
def fn184 : PFn := ⟨8, [.tmp 2], pc184, false⟩
theorem fnOk184 : FnOk Tryz.prog 184 fn184 := fk [] Tryz.func184 rfl rfl
def red187 : Rb Tryz.f187 [] := by refine ⟨?p, ?h⟩; case h => conv => lhs; reduce
def pc187 : PC := red187.1
def fn187 : PFn := ⟨25, [.tmp 2], pc187, false⟩
theorem fnOk187 : FnOk Tryz.prog 187 fn187 := fk [] Tryz.func187 rfl rfl
def red193 : Rb Tryz.f193 [] := by refine ⟨?p, ?h⟩; case h => conv => lhs; reduce
def pc193 : PC := red193.1
def fn193 : PFn := ⟨8, [.tmp 4], pc193, false⟩
theorem fnOk193 : FnOk Tryz.prog 193 fn193 := fk [] Tryz.func193 rfl rfl
def red194 : Rb Tryz.f194 [] := by refine ⟨?p, ?h⟩; case h => conv => lhs; reduce
def red194_3 : Rd ((loopIn 3 red194.1).getD .skip) := by refine ⟨?p, ?h⟩; case h => conv => lhs; reduce
def pc194L3 : PC := red194_3.1
def pc194 : PC := red194.1
def fn194 : PFn := ⟨172, [.tmp 6, .tmp 7], pc194, false⟩
theorem fnOk194 : FnOk Tryz.prog 194 fn194 := fk [] Tryz.func194 rfl rfl
def red199 : Rb Tryz.f199 [] := by refine ⟨?p, ?h⟩; case h => conv => lhs; reduce
def pc199 : PC := red199.1
def fn199 : PFn := ⟨23, [.tmp 4, .tmp 5, .tmp 6], pc199, false⟩
theorem fnOk199 : FnOk Tryz.prog 199 fn199 := fk [] Tryz.func199 rfl rfl
def red200 : Rb Tryz.f200 [] := by refine ⟨?p, ?h⟩; case h => conv => lhs; reduce
def red200_0 : Rd ((loopIn 0 red200.1).getD .skip) := by refine ⟨?p, ?h⟩; case h => conv => lhs; reduce
def pc200L0 : PC := red200_0.1
def pc200 : PC := red200.1
def fn200 : PFn := ⟨17, [.tmp 4], pc200, false⟩
theorem fnOk200 : FnOk Tryz.prog 200 fn200 := fk [] Tryz.func200 rfl rfl
def red201 : Rb Tryz.f201 [] := by refine ⟨?p, ?h⟩; case h => conv => lhs; reduce
def red201_0 : Rd ((loopIn 0 red201.1).getD .skip) := by refine ⟨?p, ?h⟩; case h => conv => lhs; reduce
def pc201L0 : PC := red201_0.1
def pc201 : PC := red201.1
def fn201 : PFn := ⟨23, [.tmp 4], pc201, false⟩
theorem fnOk201 : FnOk Tryz.prog 201 fn201 := fk [] Tryz.func201 rfl rfl
def red209 : Rb Tryz.f209 [6] := by refine ⟨?p, ?h⟩; case h => conv => lhs; reduce
def red209_2 : Rd ((loopIn 2 red209.1).getD .skip) := by refine ⟨?p, ?h⟩; case h => conv => lhs; reduce
def pc209L2 : PC := red209_2.1
def red209_0 : Rd ((loopIn 0 red209.1).getD .skip) := by refine ⟨?p, ?h⟩; case h => conv => lhs; reduce
def pc209L0 : PC := red209_0.1
def pc209 : PC := red209.1
def fn209 : PFn := ⟨53, [], pc209, false⟩
theorem fnOk209 : FnOk Tryz.prog 209 fn209 := fk [6] Tryz.func209 rfl rfl
def red211 : Rb Tryz.f211 [6] := by refine ⟨?p, ?h⟩; case h => conv => lhs; reduce
def red211_2 : Rd ((loopIn 2 red211.1).getD .skip) := by refine ⟨?p, ?h⟩; case h => conv => lhs; reduce
def pc211L2 : PC := red211_2.1
def red211_0 : Rd ((loopIn 0 red211.1).getD .skip) := by refine ⟨?p, ?h⟩; case h => conv => lhs; reduce
def pc211L0 : PC := red211_0.1
def pc211 : PC := red211.1
def fn211 : PFn := ⟨53, [], pc211, false⟩
theorem fnOk211 : FnOk Tryz.prog 211 fn211 := fk [6] Tryz.func211 rfl rfl
def red225 : Rb Tryz.f225 [] := by refine ⟨?p, ?h⟩; case h => conv => lhs; reduce
def red225_1 : Rd ((loopIn 1 red225.1).getD .skip) := by refine ⟨?p, ?h⟩; case h => conv => lhs; reduce
def pc225L1 : PC := red225_1.1
def pc225 : PC := red225.1
def fn225 : PFn := ⟨143, [.tmp 4], pc225, false⟩
theorem fnOk225 : FnOk Tryz.prog 225 fn225 := fk [] Tryz.func225 rfl rfl
def fnTb : Tb PFn := (.node (.node (.node (.node (.node (.node (.node (.node .nil 3 fn3 .nil) 4 fn4 .nil) 5 fn5 (.node .nil 6 fn6 .nil)) 7 fn7 (.node (.node (.node .nil 8 fn8 .nil) 9 fn9 .nil) 10 fn10 (.node .nil 11 fn11 .nil))) 12 fn12 (.node (.node (.node (.node .nil 13 fn13 .nil) 14 fn14 .nil) 15 fn15 (.node .nil 16 fn16 .nil)) 17 fn17 (.node (.node .nil 18 fn18 .nil) 19 fn19 (.node .nil 20 fn20 .nil)))) 21 fn21 (.node (.node (.node (.node (.node .nil 22 fn22 .nil) 23 fn23 .nil) 24 fn24 (.node .nil 25 fn25 .nil)) 26 fn26 (.node (.node .nil 27 fn27 .nil) 28 fn28 (.node .nil 29 fn29 .nil))) 32 fn32 (.node (.node (.node (.node .nil 33 fn33 .nil) 34 fn34 .nil) 35 fn35 (.node .nil 36 fn36 .nil)) 37 fn37 (.node (.node .nil 38 fn38 .nil) 39 fn39 (.node .nil 40 fn40 .nil))))) 42 fn42 (.node (.node (.node (.node (.node (.node .nil 45 fn45 .nil) 46 fn46 .nil) 47 fn47 (.node .nil 48 fn48 .nil)) 49 fn49 (.node (.node .nil 50 fn50 .nil) 51 fn51 (.node .nil 52 fn52 .nil))) 53 fn53 (.node (.node (.node (.node .nil 55 fn55 .nil) 56 fn56 .nil) 57 fn57 (.node .nil 58 fn58 .nil)) 59 fn59 (.node (.node .nil 60 fn60 .nil) 61 fn61 (.node .nil 62 fn62 .nil)))) 63 fn63 (.node (.node (.node (.node (.node .nil 64 fn64 .nil) 65 fn65 .nil) 66 fn66 (.node .nil 73 fn73 .nil)) 74 fn74 (.node (.node .nil 75 fn75 .nil) 76 fn76 (.node .nil 77 fn77 .nil))) 78 fn78 (.node (.node (.node (.node .nil 81 fn81 .nil) 82 fn82 .nil) 83 fn83 (.node .nil 84 fn84 .nil)) 85 fn85 (.node (.node .nil 86 fn86 .nil) 87 fn87 (.node .nil 88 fn88 .nil)))))) 89 fn89 (.node (.node (.node (.node (.node (.node (.node .nil 90 fn90 .nil) 93 fn93 .nil) 95 fn95 (.node .nil 97 fn97 .nil)) 98 fn98 (.node (.node (.node .nil 99 fn99 .nil) 100 fn100 .nil) 101 fn101 (.node .nil 104 fn104 .nil))) 105 fn105 (.node (.node (.node (.node .nil 106 fn106 .nil) 107 fn107 .nil) 108 fn108 (.node .nil 109 fn109 .nil)) 110 fn110 (.node (.node .nil 111 fn111 .nil) 112 fn112 (.node .nil 113 fn113 .nil)))) 114 fn114 (.node (.node (.node (.node (.node .nil 115 fn115 .nil) 118 fn118 .nil) 119 fn119 (.node .nil 120 fn120 .nil)) 121 fn121 (.node (.node .nil 122 fn122 .nil) 126 fn126 (.node .nil 127 fn127 .nil))) 128 fn128 (.node (.node (.node (.node .nil 129 fn129 .nil) 130 fn130 .nil) 131 fn131 (.node .nil 132 fn132 .nil)) 133 fn133 (.node (.node .nil 136 fn136 .nil) 137 fn137 (.node .nil 140 fn140 .nil))))) 141 fn141 (.node (.node (.node (.node (.node (.node .nil 142 fn142 .nil) 144 fn144 .nil) 145 fn145 (.node .nil 146 fn146 .nil)) 147 fn147 (.node (.node .nil 148 fn148 .nil) 149 fn149 (.node .nil 150 fn150 .nil))) 151 fn151 (.node (.node (.node (.node .nil 153 fn153 .nil) 154 fn154 .nil) 155 fn155 (.node .nil 156 fn156 .nil)) 158 fn158 (.node (.node .nil 160 fn160 .nil) 163 fn163 (.node .nil 165 fn165 .nil)))) 172 fn172 (.node (.node (.node (.node (.node .nil 173 fn173 .nil) 175 fn175 .nil) 176 fn176 (.node .nil 177 fn177 .nil)) 178 fn178 (.node (.node .nil 181 fn181 .nil) 183 fn183 (.node .nil 184 fn184 .nil))) 187 fn187 (.node (.node (.node (.node .nil 193 fn193 .nil) 194 fn194 .nil) 199 fn199 (.node .nil 200 fn200 .nil)) 201 fn201 (.node (.node .nil 209 fn209 .nil) 211 fn211 (.node .nil 225 fn225 .nil)))))))
theorem fnTb_all : fnTb.All (fun f pf => FnOk Tryz.prog f pf) := ⟨⟨⟨⟨⟨⟨⟨⟨trivial, fnOk3, trivial⟩, fnOk4, trivial⟩, fnOk5, ⟨trivial, fnOk6, trivial⟩⟩, fnOk7, ⟨⟨⟨trivial, fnOk8, trivial⟩, fnOk9, trivial⟩, fnOk10, ⟨trivial, fnOk11, trivial⟩⟩⟩, fnOk12, ⟨⟨⟨⟨trivial, fnOk13, trivial⟩, fnOk14, trivial⟩, fnOk15, ⟨trivial, fnOk16, trivial⟩⟩, fnOk17, ⟨⟨trivial, fnOk18, trivial⟩, fnOk19, ⟨trivial, fnOk20, trivial⟩⟩⟩⟩, fnOk21, ⟨⟨⟨⟨⟨trivial, fnOk22, trivial⟩, fnOk23, trivial⟩, fnOk24, ⟨trivial, fnOk25, trivial⟩⟩, fnOk26, ⟨⟨trivial, fnOk27, trivial⟩, fnOk28, ⟨trivial, fnOk29, trivial⟩⟩⟩, fnOk32, ⟨⟨⟨⟨trivial, fnOk33, trivial⟩, fnOk34, trivial⟩, fnOk35, ⟨trivial, fnOk36, trivial⟩⟩, fnOk37, ⟨⟨trivial, fnOk38, trivial⟩, fnOk39, ⟨trivial, fnOk40, trivial⟩⟩⟩⟩⟩, fnOk42, ⟨⟨⟨⟨⟨⟨trivial, fnOk45, trivial⟩, fnOk46, trivial⟩, fnOk47, ⟨trivial, fnOk48, trivial⟩⟩, fnOk49, ⟨⟨trivial, fnOk50, trivial⟩, fnOk51, ⟨trivial, fnOk52, trivial⟩⟩⟩, fnOk53, ⟨⟨⟨⟨trivial, fnOk55, trivial⟩, fnOk56, trivial⟩, fnOk57, ⟨trivial, fnOk58, trivial⟩⟩, fnOk59, ⟨⟨trivial, fnOk60, trivial⟩, fnOk61, ⟨trivial, fnOk62, trivial⟩⟩⟩⟩, fnOk63, ⟨⟨⟨⟨⟨trivial, fnOk64, trivial⟩, fnOk65, trivial⟩, fnOk66, ⟨trivial, fnOk73, trivial⟩⟩, fnOk74, ⟨⟨trivial, fnOk75, trivial⟩, fnOk76, ⟨trivial, fnOk77, trivial⟩⟩⟩, fnOk78, ⟨⟨⟨⟨trivial, fnOk81, trivial⟩, fnOk82, trivial⟩, fnOk83, ⟨trivial, fnOk84, trivial⟩⟩, fnOk85, ⟨⟨trivial, fnOk86, trivial⟩, fnOk87, ⟨trivial, fnOk88, trivial⟩⟩⟩⟩⟩⟩, fnOk89, ⟨⟨⟨⟨⟨⟨⟨trivial, fnOk90, trivial⟩, fnOk93, trivial⟩, fnOk95, ⟨trivial, fnOk97, trivial⟩⟩, fnOk98, ⟨⟨⟨trivial, fnOk99, trivial⟩, fnOk100, trivial⟩, fnOk101, ⟨trivial, fnOk104, trivial⟩⟩⟩, fnOk105, ⟨⟨⟨⟨trivial, fnOk106, trivial⟩, fnOk107, trivial⟩, fnOk108, ⟨trivial, fnOk109, trivial⟩⟩, fnOk110, ⟨⟨trivial, fnOk111, trivial⟩, fnOk112, ⟨trivial, fnOk113, trivial⟩⟩⟩⟩, fnOk114, ⟨⟨⟨⟨⟨trivial, fnOk115, trivial⟩, fnOk118, trivial⟩, fnOk119, ⟨trivial, fnOk120, trivial⟩⟩, fnOk121, ⟨⟨trivial, fnOk122, trivial⟩, fnOk126, ⟨trivial, fnOk127, trivial⟩⟩⟩, fnOk128, ⟨⟨⟨⟨trivial, fnOk129, trivial⟩, fnOk130, trivial⟩, fnOk131, ⟨trivial, fnOk132, trivial⟩⟩, fnOk133, ⟨⟨trivial, fnOk136, trivial⟩, fnOk137, ⟨trivial, fnOk140, trivial⟩⟩⟩⟩⟩, fnOk141, ⟨⟨⟨⟨⟨⟨trivial, fnOk142, trivial⟩, fnOk144, trivial⟩, fnOk145, ⟨trivial, fnOk146, trivial⟩⟩, fnOk147, ⟨⟨trivial, fnOk148, trivial⟩, fnOk149, ⟨trivial, fnOk150, trivial⟩⟩⟩, fnOk151, ⟨⟨⟨⟨trivial, fnOk153, trivial⟩, fnOk154, trivial⟩, fnOk155, ⟨trivial, fnOk156, trivial⟩⟩, fnOk158, ⟨⟨trivial, fnOk160, trivial⟩, fnOk163, ⟨trivial, fnOk165, trivial⟩⟩⟩⟩, fnOk172, ⟨⟨⟨⟨⟨trivial, fnOk173, trivial⟩, fnOk175, trivial⟩, fnOk176, ⟨trivial, fnOk177, trivial⟩⟩, fnOk178, ⟨⟨trivial, fnOk181, trivial⟩, fnOk183, ⟨trivial, fnOk184, trivial⟩⟩⟩, fnOk187, ⟨⟨⟨⟨trivial, fnOk193, trivial⟩, fnOk194, trivial⟩, fnOk199, ⟨trivial, fnOk200, trivial⟩⟩, fnOk201, ⟨⟨trivial, fnOk209, trivial⟩, fnOk211, ⟨trivial, fnOk225, trivial⟩⟩⟩⟩⟩⟩⟩
def fnOf (f : FuncId) : Option PFn := fnTb.find f
theorem fnOf_ok : ∀ f pf, fnOf f = some pf → FnOk Tryz.prog f pf := fun f pf h => Tb.find_all fnTb f pf fnTb_all h
end Go.Proofs.YtecimmaoilignaaGreatDoor.M

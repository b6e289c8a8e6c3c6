/- The functions, compiled for the abstract machine (made by a program of mine, gen.py). -/
import Derived.Test.YtbondebiijokaaaGreatDoorTy
namespace Go.Proofs.YtbondebiijokaaaGreatDoor.M
set_option linter.unusedVariables false
set_option linter.unusedSimpArgs false
open Go Go.Pam
set_option maxRecDepth 100000
abbrev Rd (x : PC) := { p : PC // x = p }
abbrev Rb (f : Func) (l : List Nat) := Rd ((f.body.bind (compile l)).getD .skip)
theorem fk {P : Program} {f : FuncId} {pf : PFn} {fn : Func} {c : Code} (m : List Nat) (h : P.funcs[f]? = some fn) (hb : fn.body = some c) (q : (fn.ntmps, fn.results.toList) = (pf.ntmps, pf.results)) (h2 : compile m c = some pf.body := by kernel_rfl) (h5 : decide (fn.name ≠ "runtime.NumGoroutine") = true := by kernel_rfl) : FnOk P f pf :=
 ⟨⟨fn, c, m, h, hb, h2, (Prod.mk.inj q).1, (Prod.mk.inj q).2, of_decide_eq_true h5⟩⟩
def loopIn (i : Nat) : PC → Option PC
 | .seq a b => match loopIn i a with
  | some x => some x
  | none => loopIn i b
 | .cond _ a b => match loopIn i a with
  | some x => some x
  | none => loopIn i b
 | .block j (.loop c) => if i = j then some c else loopIn i c
 | .block _ c => loopIn i c
 | .loop c => loopIn i c
 | _ => none
def red3 : Rb Tryz.f3 [] := by refine ⟨?p, ?h⟩; case h => conv => lhs; reduce
def pc3 : PC := red3.1
def fn3 : PFn := ⟨108, [.tmp 4], pc3, false⟩
theorem fnOk3 : FnOk Tryz.prog 3 fn3 := fk [] Tryz.func3 rfl rfl
def red4 : Rb Tryz.f4 [] := by refine ⟨?p, ?h⟩; case h => conv => lhs; reduce
def pc4 : PC := red4.1
def fn4 : PFn := ⟨158, [.tmp 0], pc4, false⟩
theorem fnOk4 : FnOk Tryz.prog 4 fn4 := fk [] Tryz.func4 rfl rfl
def red5 : Rb Tryz.f5 [6] := by refine ⟨?p, ?h⟩; case h => conv => lhs; reduce
def red5_0 : Rd ((loopIn 0 red5.1).getD .skip) := by refine ⟨?p, ?h⟩; case h => conv => lhs; reduce
def pc5L0 : PC := red5_0.1
def pc5 : PC := red5.1
def fn5 : PFn := ⟨60, [.tmp 6, .tmp 7], pc5, false⟩
theorem fnOk5 : FnOk Tryz.prog 5 fn5 := fk [6] Tryz.func5 rfl rfl
def red6 : Rb Tryz.f6 [] := by refine ⟨?p, ?h⟩; case h => conv => lhs; reduce
def pc6 : PC := red6.1
def fn6 : PFn := ⟨10, [.tmp 2], pc6, false⟩
theorem fnOk6 : FnOk Tryz.prog 6 fn6 := fk [] Tryz.func6 rfl rfl
def red7 : Rb Tryz.f7 [] := by refine ⟨?p, ?h⟩; case h => conv => lhs; reduce
def pc7 : PC := red7.1
def fn7 : PFn := ⟨17, [.cell 6 41], pc7, false⟩
theorem fnOk7 : FnOk Tryz.prog 7 fn7 := fk [] Tryz.func7 rfl rfl
def red8 : Rb Tryz.f8 [1, 15] := by refine ⟨?p, ?h⟩; case h => conv => lhs; reduce
def pc8 : PC := red8.1
def fn8 : PFn := ⟨74, [.tmp 4, .tmp 5], pc8, false⟩
theorem fnOk8 : FnOk Tryz.prog 8 fn8 := fk [1, 15] Tryz.func8 rfl rfl
def red9 : Rb Tryz.f9 [] := by refine ⟨?p, ?h⟩; case h => conv => lhs; reduce
def pc9 : PC := red9.1
def fn9 : PFn := ⟨8, [.tmp 2], pc9, false⟩
theorem fnOk9 : FnOk Tryz.prog 9 fn9 := fk [] Tryz.func9 rfl rfl
def red10 : Rb Tryz.f10 [] := by refine ⟨?p, ?h⟩; case h => conv => lhs; reduce
def red10_0 : Rd ((loopIn 0 red10.1).getD .skip) := by refine ⟨?p, ?h⟩; case h => conv => lhs; reduce
def pc10L0 : PC := red10_0.1
def pc10 : PC := red10.1
def fn10 : PFn := ⟨79, [.tmp 4], pc10, false⟩
theorem fnOk10 : FnOk Tryz.prog 10 fn10 := fk [] Tryz.func10 rfl rfl
def red11 : Rb Tryz.f11 [] := by refine ⟨?p, ?h⟩; case h => conv => lhs; reduce
def red11_0 : Rd ((loopIn 0 red11.1).getD .skip) := by refine ⟨?p, ?h⟩; case h => conv => lhs; reduce
def pc11L0 : PC := red11_0.1
def pc11 : PC := red11.1
def fn11 : PFn := ⟨26, [.tmp 4], pc11, false⟩
theorem fnOk11 : FnOk Tryz.prog 11 fn11 := fk [] Tryz.func11 rfl rfl
def red12 : Rb Tryz.f12 [] := by refine ⟨?p, ?h⟩; case h => conv => lhs; reduce
def pc12 : PC := red12.1
def fn12 : PFn := ⟨8, [.tmp 2], pc12, false⟩
theorem fnOk12 : FnOk Tryz.prog 12 fn12 := fk [] Tryz.func12 rfl rfl
def red13 : Rb Tryz.f13 [] := by refine ⟨?p, ?h⟩; case h => conv => lhs; reduce
def pc13 : PC := red13.1
def fn13 : PFn := ⟨8, [.tmp 2], pc13, false⟩
theorem fnOk13 : FnOk Tryz.prog 13 fn13 := fk [] Tryz.func13 rfl rfl
def red14 : Rb Tryz.f14 [18, 23, 26] := by refine ⟨?p, ?h⟩; case h => conv => lhs; reduce
def red14_0 : Rd ((loopIn 0 red14.1).getD .skip) := by refine ⟨?p, ?h⟩; case h => conv => lhs; reduce
def pc14L0 : PC := red14_0.1
def red14_2 : Rd ((loopIn 2 red14.1).getD .skip) := by refine ⟨?p, ?h⟩; case h => conv => lhs; reduce
def pc14L2 : PC := red14_2.1
def red14_4 : Rd ((loopIn 4 red14.1).getD .skip) := by refine ⟨?p, ?h⟩; case h => conv => lhs; reduce
def pc14L4 : PC := red14_4.1
def pc14 : PC := red14.1
def fn14 : PFn := ⟨139, [.tmp 8], pc14, false⟩
theorem fnOk14 : FnOk Tryz.prog 14 fn14 := fk [18, 23, 26] Tryz.func14 rfl rfl
def red15 : Rb Tryz.f15 [] := by refine ⟨?p, ?h⟩; case h => conv => lhs; reduce
def pc15 : PC := red15.1
def fn15 : PFn := ⟨37, [.cell 6 36, .tmp 7], pc15, false⟩
theorem fnOk15 : FnOk Tryz.prog 15 fn15 := fk [] Tryz.func15 rfl rfl
def red16 : Rb Tryz.f16 [] := by refine ⟨?p, ?h⟩; case h => conv => lhs; reduce
def pc16 : PC := red16.1
def fn16 : PFn := ⟨47, [.tmp 4], pc16, false⟩
theorem fnOk16 : FnOk Tryz.prog 16 fn16 := fk [] Tryz.func16 rfl rfl
def red17 : Rb Tryz.f17 [] := by refine ⟨?p, ?h⟩; case h => conv => lhs; reduce
def pc17 : PC := red17.1
def fn17 : PFn := ⟨4, [.tmp 0], pc17, false⟩
theorem fnOk17 : FnOk Tryz.prog 17 fn17 := fk [] Tryz.func17 rfl rfl
def red18 : Rb Tryz.f18 [] := by refine ⟨?p, ?h⟩; case h => conv => lhs; reduce
def pc18 : PC := red18.1
def fn18 : PFn := ⟨9, [.tmp 2], pc18, false⟩
theorem fnOk18 : FnOk Tryz.prog 18 fn18 := fk [] Tryz.func18 rfl rfl
def red19 : Rb Tryz.f19 [] := by refine ⟨?p, ?h⟩; case h => conv => lhs; reduce
def red19_0 : Rd ((loopIn 0 red19.1).getD .skip) := by refine ⟨?p, ?h⟩; case h => conv => lhs; reduce
def pc19L0 : PC := red19_0.1
def pc19 : PC := red19.1
def fn19 : PFn := ⟨18, [.tmp 2], pc19, false⟩
theorem fnOk19 : FnOk Tryz.prog 19 fn19 := fk [] Tryz.func19 rfl rfl
def red20 : Rb Tryz.f20 [] := by refine ⟨?p, ?h⟩; case h => conv => lhs; reduce
def pc20 : PC := red20.1
def fn20 : PFn := ⟨19, [.tmp 6], pc20, false⟩
theorem fnOk20 : FnOk Tryz.prog 20 fn20 := fk [] Tryz.func20 rfl rfl
def red21 : Rb Tryz.f21 [] := by refine ⟨?p, ?h⟩; case h => conv => lhs; reduce
def red21_0 : Rd ((loopIn 0 red21.1).getD .skip) := by refine ⟨?p, ?h⟩; case h => conv => lhs; reduce
def pc21L0 : PC := red21_0.1
def pc21 : PC := red21.1
def fn21 : PFn := ⟨20, [.tmp 2], pc21, false⟩
theorem fnOk21 : FnOk Tryz.prog 21 fn21 := fk [] Tryz.func21 rfl rfl
def red22 : Rb Tryz.f22 [7] := by refine ⟨?p, ?h⟩; case h => conv => lhs; reduce
def red22_0 : Rd ((loopIn 0 red22.1).getD .skip) := by refine ⟨?p, ?h⟩; case h => conv => lhs; reduce
def pc22L0 : PC := red22_0.1
def pc22 : PC := red22.1
def fn22 : PFn := ⟨42, [.tmp 2], pc22, false⟩
theorem fnOk22 : FnOk Tryz.prog 22 fn22 := fk [7] Tryz.func22 rfl rfl
def red23 : Rb Tryz.f23 [] := by refine ⟨?p, ?h⟩; case h => conv => lhs; reduce
def pc23 : PC := red23.1
def fn23 : PFn := ⟨8, [.tmp 2], pc23, false⟩
theorem fnOk23 : FnOk Tryz.prog 23 fn23 := fk [] Tryz.func23 rfl rfl
def red24 : Rb Tryz.f24 [4] := by refine ⟨?p, ?h⟩; case h => conv => lhs; reduce
def pc24 : PC := red24.1
def fn24 : PFn := ⟨24, [.tmp 4], pc24, false⟩
theorem fnOk24 : FnOk Tryz.prog 24 fn24 := fk [4] Tryz.func24 rfl rfl
def red25 : Rb Tryz.f25 [9, 10] := by refine ⟨?p, ?h⟩; case h => conv => lhs; reduce
def red25_0 : Rd ((loopIn 0 red25.1).getD .skip) := by refine ⟨?p, ?h⟩; case h => conv => lhs; reduce
def pc25L0 : PC := red25_0.1
def pc25 : PC := red25.1
def fn25 : PFn := ⟨58, [.tmp 4], pc25, false⟩
theorem fnOk25 : FnOk Tryz.prog 25 fn25 := fk [9, 10] Tryz.func25 rfl rfl
def red27 : Rb Tryz.f27 [] := by refine ⟨?p, ?h⟩; case h => conv => lhs; reduce
def pc27 : PC := red27.1
def fn27 : PFn := ⟨17, [.cell 8 36], pc27, false⟩
theorem fnOk27 : FnOk Tryz.prog 27 fn27 := fk [] Tryz.func27 rfl rfl
def red28 : Rb Tryz.f28 [] := by refine ⟨?p, ?h⟩; case h => conv => lhs; reduce
def pc28 : PC := red28.1
def fn28 : PFn := ⟨12, [.tmp 4], pc28, false⟩
theorem fnOk28 : FnOk Tryz.prog 28 fn28 := fk [] Tryz.func28 rfl rfl
def red29 : Rb Tryz.f29 [] := by refine ⟨?p, ?h⟩; case h => conv => lhs; reduce
def pc29 : PC := red29.1
def fn29 : PFn := ⟨11, [.tmp 3], pc29, false⟩
theorem fnOk29 : FnOk Tryz.prog 29 fn29 := fk [] Tryz.func29 rfl rfl
def red30 : Rb Tryz.f30 [] := by refine ⟨?p, ?h⟩; case h => conv => lhs; reduce
def pc30 : PC := red30.1
def fn30 : PFn := ⟨141, [.tmp 2], pc30, false⟩
theorem fnOk30 : FnOk Tryz.prog 30 fn30 := fk [] Tryz.func30 rfl rfl
def red31 : Rb Tryz.f31 [] := by refine ⟨?p, ?h⟩; case h => conv => lhs; reduce
def pc31 : PC := red31.1
def fn31 : PFn := ⟨22, [.tmp 4], pc31, false⟩
theorem fnOk31 : FnOk Tryz.prog 31 fn31 := fk [] Tryz.func31 rfl rfl
def red32 : Rb Tryz.f32 [] := by refine ⟨?p, ?h⟩; case h => conv => lhs; reduce
def pc32 : PC := red32.1
def fn32 : PFn := ⟨15, [.tmp 4], pc32, false⟩
theorem fnOk32 : FnOk Tryz.prog 32 fn32 := fk [] Tryz.func32 rfl rfl
def red33 : Rb Tryz.f33 [] := by refine ⟨?p, ?h⟩; case h => conv => lhs; reduce
def red33_0 : Rd ((loopIn 0 red33.1).getD .skip) := by refine ⟨?p, ?h⟩; case h => conv => lhs; reduce
def pc33L0 : PC := red33_0.1
def pc33 : PC := red33.1
def fn33 : PFn := ⟨19, [.tmp 2], pc33, false⟩
theorem fnOk33 : FnOk Tryz.prog 33 fn33 := fk [] Tryz.func33 rfl rfl
def red34 : Rb Tryz.f34 [] := by refine ⟨?p, ?h⟩; case h => conv => lhs; reduce
def pc34 : PC := red34.1
def fn34 : PFn := ⟨18, [.tmp 3], pc34, false⟩
theorem fnOk34 : FnOk Tryz.prog 34 fn34 := fk [] Tryz.func34 rfl rfl
def red35 : Rb Tryz.f35 [] := by refine ⟨?p, ?h⟩; case h => conv => lhs; reduce
def pc35 : PC := red35.1
def fn35 : PFn := ⟨9, [.tmp 4], pc35, false⟩
theorem fnOk35 : FnOk Tryz.prog 35 fn35 := fk [] Tryz.func35 rfl rfl
def red36 : Rb Tryz.f36 [] := by refine ⟨?p, ?h⟩; case h => conv => lhs; reduce
def pc36 : PC := red36.1
def fn36 : PFn := ⟨24, [.tmp 4], pc36, false⟩
theorem fnOk36 : FnOk Tryz.prog 36 fn36 := fk [] Tryz.func36 rfl rfl
def red37 : Rb Tryz.f37 [1] := by refine ⟨?p, ?h⟩; case h => conv => lhs; reduce
def pc37 : PC := red37.1
def fn37 : PFn := ⟨17, [.tmp 2], pc37, false⟩
theorem fnOk37 : FnOk Tryz.prog 37 fn37 := fk [1] Tryz.func37 rfl rfl
def red38 : Rb Tryz.f38 [10, 1000039, 1000042] := by refine ⟨?p, ?h⟩; case h => conv => lhs; reduce
def red38_0 : Rd ((loopIn 0 red38.1).getD .skip) := by refine ⟨?p, ?h⟩; case h => conv => lhs; reduce
def pc38L0 : PC := red38_0.1
def pc38 : PC := red38.1
def fn38 : PFn := ⟨49, [.tmp 4], pc38, false⟩
theorem fnOk38 : FnOk Tryz.prog 38 fn38 := fk [10, 1000039, 1000042] Tryz.func38 rfl rfl
def red39 : Rb Tryz.f39 [1000005, 1000007] := by refine ⟨?p, ?h⟩; case h => conv => lhs; reduce
def pc39 : PC := red39.1
def fn39 : PFn := ⟨8, [.tmp 2], pc39, true⟩
theorem fnOk39 : FnOk Tryz.prog 39 fn39 := fk [1000005, 1000007] Tryz.func39 rfl rfl
def red40 : Rb Tryz.f40 [] := by refine ⟨?p, ?h⟩; case h => conv => lhs; reduce
def red40_0 : Rd ((loopIn 0 red40.1).getD .skip) := by refine ⟨?p, ?h⟩; case h => conv => lhs; reduce
def pc40L0 : PC := red40_0.1
def pc40 : PC := red40.1
def fn40 : PFn := ⟨39, [.tmp 4], pc40, false⟩
theorem fnOk40 : FnOk Tryz.prog 40 fn40 := fk [] Tryz.func40 rfl rfl
def red41 : Rb Tryz.f41 [] := by refine ⟨?p, ?h⟩; case h => conv => lhs; reduce
def pc41 : PC := red41.1
def fn41 : PFn := ⟨30, [.tmp 4], pc41, false⟩
theorem fnOk41 : FnOk Tryz.prog 41 fn41 := fk [] Tryz.func41 rfl rfl
def red42 : Rb Tryz.f42 [] := by refine ⟨?p, ?h⟩; case h => conv => lhs; reduce
def red42_0 : Rd ((loopIn 0 red42.1).getD .skip) := by refine ⟨?p, ?h⟩; case h => conv => lhs; reduce
def pc42L0 : PC := red42_0.1
def pc42 : PC := red42.1
def fn42 : PFn := ⟨32, [.tmp 6], pc42, false⟩
theorem fnOk42 : FnOk Tryz.prog 42 fn42 := fk [] Tryz.func42 rfl rfl
def red43 : Rb Tryz.f43 [] := by refine ⟨?p, ?h⟩; case h => conv => lhs; reduce
def pc43 : PC := red43.1
def fn43 : PFn := ⟨10, [.tmp 4], pc43, false⟩
theorem fnOk43 : FnOk Tryz.prog 43 fn43 := fk [] Tryz.func43 rfl rfl
def red44 : Rb Tryz.f44 [] := by refine ⟨?p, ?h⟩; case h => conv => lhs; reduce
def pc44 : PC := red44.1
def fn44 : PFn := ⟨34, [.tmp 6], pc44, false⟩
theorem fnOk44 : FnOk Tryz.prog 44 fn44 := fk [] Tryz.func44 rfl rfl
def red45 : Rb Tryz.f45 [] := by refine ⟨?p, ?h⟩; case h => conv => lhs; reduce
def pc45 : PC := red45.1
def fn45 : PFn := ⟨12, [.tmp 4], pc45, false⟩
theorem fnOk45 : FnOk Tryz.prog 45 fn45 := fk [] Tryz.func45 rfl rfl
def red46 : Rb Tryz.f46 [] := by refine ⟨?p, ?h⟩; case h => conv => lhs; reduce
def red46_0 : Rd ((loopIn 0 red46.1).getD .skip) := by refine ⟨?p, ?h⟩; case h => conv => lhs; reduce
def pc46L0 : PC := red46_0.1
def red46_2 : Rd ((loopIn 2 red46.1).getD .skip) := by refine ⟨?p, ?h⟩; case h => conv => lhs; reduce
def pc46L2 : PC := red46_2.1
def pc46 : PC := red46.1
def fn46 : PFn := ⟨49, [], pc46, false⟩
theorem fnOk46 : FnOk Tryz.prog 46 fn46 := fk [] Tryz.func46 rfl rfl
def red47 : Rb Tryz.f47 [14] := by refine ⟨?p, ?h⟩; case h => conv => lhs; reduce
def red47_0 : Rd ((loopIn 0 red47.1).getD .skip) := by refine ⟨?p, ?h⟩; case h => conv => lhs; reduce
def pc47L0 : PC := red47_0.1
def red47_2 : Rd ((loopIn 2 red47.1).getD .skip) := by refine ⟨?p, ?h⟩; case h => conv => lhs; reduce
def pc47L2 : PC := red47_2.1
def pc47 : PC := red47.1
def fn47 : PFn := ⟨58, [.tmp 2], pc47, false⟩
theorem fnOk47 : FnOk Tryz.prog 47 fn47 := fk [14] Tryz.func47 rfl rfl
def red48 : Rb Tryz.f48 [] := by refine ⟨?p, ?h⟩; case h => conv => lhs; reduce
def pc48 : PC := red48.1
def fn48 : PFn := ⟨8, [.tmp 4], pc48, false⟩
theorem fnOk48 : FnOk Tryz.prog 48 fn48 := fk [] Tryz.func48 rfl rfl
def red49 : Rb Tryz.f49 [] := by refine ⟨?p, ?h⟩; case h => conv => lhs; reduce
def red49_0 : Rd ((loopIn 0 red49.1).getD .skip) := by refine ⟨?p, ?h⟩; case h => conv => lhs; reduce
def pc49L0 : PC := red49_0.1
def pc49 : PC := red49.1
def fn49 : PFn := ⟨26, [.tmp 4], pc49, false⟩
theorem fnOk49 : FnOk Tryz.prog 49 fn49 := fk [] Tryz.func49 rfl rfl
def red50 : Rb Tryz.f50 [] := by refine ⟨?p, ?h⟩; case h => conv => lhs; reduce
def red50_0 : Rd ((loopIn 0 red50.1).getD .skip) := by refine ⟨?p, ?h⟩; case h => conv => lhs; reduce
def pc50L0 : PC := red50_0.1
def pc50 : PC := red50.1
def fn50 : PFn := ⟨32, [.tmp 6], pc50, false⟩
theorem fnOk50 : FnOk Tryz.prog 50 fn50 := fk [] Tryz.func50 rfl rfl
def red52 : Rb Tryz.f52 [] := by refine ⟨?p, ?h⟩; case h => conv => lhs; reduce
def pc52 : PC := red52.1
def fn52 : PFn := ⟨8, [.tmp 0], pc52, false⟩
theorem fnOk52 : FnOk Tryz.prog 52 fn52 := fk [] Tryz.func52 rfl rfl
def red53 : Rb Tryz.f53 [] := by refine ⟨?p, ?h⟩; case h => conv => lhs; reduce
def pc53 : PC := red53.1
def fn53 : PFn := ⟨14, [.tmp 6], pc53, false⟩
theorem fnOk53 : FnOk Tryz.prog 53 fn53 := fk [] Tryz.func53 rfl rfl
def red54 : Rb Tryz.f54 [1000003] := by refine ⟨?p, ?h⟩; case h => conv => lhs; reduce
def red54_0 : Rd ((loopIn 0 red54.1).getD .skip) := by refine ⟨?p, ?h⟩; case h => conv => lhs; reduce
def pc54L0 : PC := red54_0.1
def pc54 : PC := red54.1
def fn54 : PFn := ⟨17, [.tmp 2], pc54, false⟩
theorem fnOk54 : FnOk Tryz.prog 54 fn54 := fk [1000003] Tryz.func54 rfl rfl
def red55 : Rb Tryz.f55 [] := by refine ⟨?p, ?h⟩; case h => conv => lhs; reduce
def pc55 : PC := red55.1
def fn55 : PFn := ⟨39, [.tmp 4], pc55, false⟩
theorem fnOk55 : FnOk Tryz.prog 55 fn55 := fk [] Tryz.func55 rfl rfl
def red56 : Rb Tryz.f56 [] := by refine ⟨?p, ?h⟩; case h => conv => lhs; reduce
def pc56 : PC := red56.1
def fn56 : PFn := ⟨8, [.tmp 2], pc56, false⟩
theorem fnOk56 : FnOk Tryz.prog 56 fn56 := fk [] Tryz.func56 rfl rfl
def red57 : Rb Tryz.f57 [] := by refine ⟨?p, ?h⟩; case h => conv => lhs; reduce
def red57_0 : Rd ((loopIn 0 red57.1).getD .skip) := by refine ⟨?p, ?h⟩; case h => conv => lhs; reduce
def pc57L0 : PC := red57_0.1
def red57_2 : Rd ((loopIn 2 red57.1).getD .skip) := by refine ⟨?p, ?h⟩; case h => conv => lhs; reduce
def pc57L2 : PC := red57_2.1
def pc57 : PC := red57.1
def fn57 : PFn := ⟨60, [.tmp 2], pc57, false⟩
theorem fnOk57 : FnOk Tryz.prog 57 fn57 := fk [] Tryz.func57 rfl rfl
def red58 : Rb Tryz.f58 [1000003] := by refine ⟨?p, ?h⟩; case h => conv => lhs; reduce
def red58_0 : Rd ((loopIn 0 red58.1).getD .skip) := by refine ⟨?p, ?h⟩; case h => conv => lhs; reduce
def pc58L0 : PC := red58_0.1
def pc58 : PC := red58.1
def fn58 : PFn := ⟨26, [.tmp 2], pc58, false⟩
theorem fnOk58 : FnOk Tryz.prog 58 fn58 := fk [1000003] Tryz.func58 rfl rfl
def red59 : Rb Tryz.f59 [] := by refine ⟨?p, ?h⟩; case h => conv => lhs; reduce
def pc59 : PC := red59.1
def fn59 : PFn := ⟨5, [.tmp 2], pc59, false⟩
theorem fnOk59 : FnOk Tryz.prog 59 fn59 := fk [] Tryz.func59 rfl rfl
def red60 : Rb Tryz.f60 [] := by refine ⟨?p, ?h⟩; case h => conv => lhs; reduce
def pc60 : PC := red60.1
def fn60 : PFn := ⟨16, [.tmp 2], pc60, false⟩
theorem fnOk60 : FnOk Tryz.prog 60 fn60 := fk [] Tryz.func60 rfl rfl
def red61 : Rb Tryz.f61 [] := by refine ⟨?p, ?h⟩; case h => conv => lhs; reduce
def red61_2 : Rd ((loopIn 2 red61.1).getD .skip) := by refine ⟨?p, ?h⟩; case h => conv => lhs; reduce
def pc61L2 : PC := red61_2.1
def red61_0 : Rd ((loopIn 0 red61.1).getD .skip) := by refine ⟨?p, ?h⟩; case h => conv => lhs; reduce
def pc61L0 : PC := red61_0.1
def pc61 : PC := red61.1
def fn61 : PFn := ⟨35, [.tmp 2], pc61, false⟩
theorem fnOk61 : FnOk Tryz.prog 61 fn61 := fk [] Tryz.func61 rfl rfl
def red62 : Rb Tryz.f62 [] := by refine ⟨?p, ?h⟩; case h => conv => lhs; reduce
def pc62 : PC := red62.1
def fn62 : PFn := ⟨7, [.cell 2 30], pc62, false⟩
theorem fnOk62 : FnOk Tryz.prog 62 fn62 := fk [] Tryz.func62 rfl rfl
def red63 : Rb Tryz.f63 [] := by refine ⟨?p, ?h⟩; case h => conv => lhs; reduce
def red63_0 : Rd ((loopIn 0 red63.1).getD .skip) := by refine ⟨?p, ?h⟩; case h => conv => lhs; reduce
def pc63L0 : PC := red63_0.1
def pc63 : PC := red63.1
def fn63 : PFn := ⟨20, [.tmp 2], pc63, false⟩
theorem fnOk63 : FnOk Tryz.prog 63 fn63 := fk [] Tryz.func63 rfl rfl
def red64 : Rb Tryz.f64 [] := by refine ⟨?p, ?h⟩; case h => conv => lhs; reduce
def pc64 : PC := red64.1
def fn64 : PFn := ⟨9, [.tmp 4], pc64, false⟩
theorem fnOk64 : FnOk Tryz.prog 64 fn64 := fk [] Tryz.func64 rfl rfl
def red65 : Rb Tryz.f65 [] := by refine ⟨?p, ?h⟩; case h => conv => lhs; reduce
def pc65 : PC := red65.1
def fn65 : PFn := ⟨8, [.tmp 3], pc65, false⟩
theorem fnOk65 : FnOk Tryz.prog 65 fn65 := fk [] Tryz.func65 rfl rfl
def red66 : Rb Tryz.f66 [1000023] := by refine ⟨?p, ?h⟩; case h => conv => lhs; reduce
def red66_0 : Rd ((loopIn 0 red66.1).getD .skip) := by refine ⟨?p, ?h⟩; case h => conv => lhs; reduce
def pc66L0 : PC := red66_0.1
def pc66 : PC := red66.1
def fn66 : PFn := ⟨26, [.tmp 4], pc66, true⟩
theorem fnOk66 : FnOk Tryz.prog 66 fn66 := fk [1000023] Tryz.func66 rfl rfl
def red67 : Rb Tryz.f67 [] := by refine ⟨?p, ?h⟩; case h => conv => lhs; reduce
def pc67 : PC := red67.1
def fn67 : PFn := ⟨27, [.tmp 4], pc67, false⟩
theorem fnOk67 : FnOk Tryz.prog 67 fn67 := fk [] Tryz.func67 rfl rfl
def red68 : Rb Tryz.f68 [1000017] := by refine ⟨?p, ?h⟩; case h => conv => lhs; reduce
def red68_0 : Rd ((loopIn 0 red68.1).getD .skip) := by refine ⟨?p, ?h⟩; case h => conv => lhs; reduce
def pc68L0 : PC := red68_0.1
def pc68 : PC := red68.1
def fn68 : PFn := ⟨20, [.tmp 2], pc68, true⟩
theorem fnOk68 : FnOk Tryz.prog 68 fn68 := fk [1000017] Tryz.func68 rfl rfl
def red71 : Rb Tryz.f71 [] := by refine ⟨?p, ?h⟩; case h => conv => lhs; reduce
def red71_0 : Rd ((loopIn 0 red71.1).getD .skip) := by refine ⟨?p, ?h⟩; case h => conv => lhs; reduce
def pc71L0 : PC := red71_0.1
def pc71 : PC := red71.1
def fn71 : PFn := ⟨42, [.tmp 4], pc71, false⟩
theorem fnOk71 : FnOk Tryz.prog 71 fn71 := fk [] Tryz.func71 rfl rfl
def red72 : Rb Tryz.f72 [] := by refine ⟨?p, ?h⟩; case h => conv => lhs; reduce
def pc72 : PC := red72.1
def fn72 : PFn := ⟨8, [.tmp 3], pc72, false⟩
theorem fnOk72 : FnOk Tryz.prog 72 fn72 := fk [] Tryz.func72 rfl rfl
def red73 : Rb Tryz.f73 [] := by refine ⟨?p, ?h⟩; case h => conv => lhs; reduce
def pc73 : PC := red73.1
def fn73 : PFn := ⟨31, [.tmp 2], pc73, false⟩
theorem fnOk73 : FnOk Tryz.prog 73 fn73 := fk [] Tryz.func73 rfl rfl
def red74 : Rb Tryz.f74 [] := by refine ⟨?p, ?h⟩; case h => conv => lhs; reduce
def pc74 : PC := red74.1
def fn74 : PFn := ⟨6, [.tmp 2], pc74, false⟩
theorem fnOk74 : FnOk Tryz.prog 74 fn74 := fk [] Tryz.func74 rfl rfl
def red75 : Rb Tryz.f75 [] := by refine ⟨?p, ?h⟩; case h => conv => lhs; reduce
def pc75 : PC := red75.1
def fn75 : PFn := ⟨9, [.tmp 3], pc75, false⟩
theorem fnOk75 : FnOk Tryz.prog 75 fn75 := fk [] Tryz.func75 rfl rfl
def red76 : Rb Tryz.f76 [] := by refine ⟨?p, ?h⟩; case h => conv => lhs; reduce
def pc76 : PC := red76.1
def fn76 : PFn := ⟨14, [.tmp 2], pc76, false⟩
theorem fnOk76 : FnOk Tryz.prog 76 fn76 := fk [] Tryz.func76 rfl rfl
def red77 : Rb Tryz.f77 [] := by refine ⟨?p, ?h⟩; case h => conv => lhs; reduce
def red77_0 : Rd ((loopIn 0 red77.1).getD .skip) := by refine ⟨?p, ?h⟩; case h => conv => lhs; reduce
def pc77L0 : PC := red77_0.1
def pc77 : PC := red77.1
def fn77 : PFn := ⟨71, [.tmp 4], pc77, false⟩
theorem fnOk77 : FnOk Tryz.prog 77 fn77 := fk [] Tryz.func77 rfl rfl
def red78 : Rb Tryz.f78 [] := by refine ⟨?p, ?h⟩; case h => conv => lhs; reduce
def red78_0 : Rd ((loopIn 0 red78.1).getD .skip) := by refine ⟨?p, ?h⟩; case h => conv => lhs; reduce
def pc78L0 : PC := red78_0.1
def pc78 : PC := red78.1
def fn78 : PFn := ⟨18, [.tmp 2], pc78, false⟩
theorem fnOk78 : FnOk Tryz.prog 78 fn78 := fk [] Tryz.func78 rfl rfl
def red79 : Rb Tryz.f79 [] := by refine ⟨?p, ?h⟩; case h => conv => lhs; reduce
def pc79 : PC := red79.1
def fn79 : PFn := ⟨20, [.tmp 4], pc79, false⟩
theorem fnOk79 : FnOk Tryz.prog 79 fn79 := fk [] Tryz.func79 rfl rfl
def red80 : Rb Tryz.f80 [] := by refine ⟨?p, ?h⟩; case h => conv => lhs; reduce
def pc80 : PC := red80.1
def fn80 : PFn := ⟨20, [.tmp 4], pc80, false⟩
theorem fnOk80 : FnOk Tryz.prog 80 fn80 := fk [] Tryz.func80 rfl rfl
def red81 : Rb Tryz.f81 [] := by refine ⟨?p, ?h⟩; case h => conv => lhs; reduce
def pc81 : PC := red81.1
def fn81 : PFn := ⟨9, [.tmp 4], pc81, false⟩
theorem fnOk81 : FnOk Tryz.prog 81 fn81 := fk [] Tryz.func81 rfl rfl
def red82 : Rb Tryz.f82 [] := by refine ⟨?p, ?h⟩; case h => conv => lhs; reduce
def pc82 : PC := red82.1
def fn82 : PFn := ⟨13, [.tmp 3], pc82, false⟩
theorem fnOk82 : FnOk Tryz.prog 82 fn82 := fk [] Tryz.func82 rfl rfl
def red83 : Rb Tryz.f83 [] := by refine ⟨?p, ?h⟩; case h => conv => lhs; reduce
def red83_0 : Rd ((loopIn 0 red83.1).getD .skip) := by refine ⟨?p, ?h⟩; case h => conv => lhs; reduce
def pc83L0 : PC := red83_0.1
def pc83 : PC := red83.1
def fn83 : PFn := ⟨26, [.tmp 2], pc83, false⟩
theorem fnOk83 : FnOk Tryz.prog 83 fn83 := fk [] Tryz.func83 rfl rfl
def red84 : Rb Tryz.f84 [] := by refine ⟨?p, ?h⟩; case h => conv => lhs; reduce
def red84_0 : Rd ((loopIn 0 red84.1).getD .skip) := by refine ⟨?p, ?h⟩; case h => conv => lhs; reduce
def pc84L0 : PC := red84_0.1
def pc84 : PC := red84.1
def fn84 : PFn := ⟨31, [.cell 2 41], pc84, false⟩
theorem fnOk84 : FnOk Tryz.prog 84 fn84 := fk [] Tryz.func84 rfl rfl
def red85 : Rb Tryz.f85 [] := by refine ⟨?p, ?h⟩; case h => conv => lhs; reduce
def red85_0 : Rd ((loopIn 0 red85.1).getD .skip) := by refine ⟨?p, ?h⟩; case h => conv => lhs; reduce
def pc85L0 : PC := red85_0.1
def pc85 : PC := red85.1
def fn85 : PFn := ⟨19, [.tmp 4], pc85, false⟩
theorem fnOk85 : FnOk Tryz.prog 85 fn85 := fk [] Tryz.func85 rfl rfl
def red86 : Rb Tryz.f86 [] := by refine ⟨?p, ?h⟩; case h => conv => lhs; reduce
def pc86 : PC := red86.1
def fn86 : PFn := ⟨17, [.tmp 3], pc86, false⟩
theorem fnOk86 : FnOk Tryz.prog 86 fn86 := fk [] Tryz.func86 rfl rfl
def red87 : Rb Tryz.f87 [1] := by refine ⟨?p, ?h⟩; case h => conv => lhs; reduce
def pc87 : PC := red87.1
def fn87 : PFn := ⟨14, [.tmp 6], pc87, false⟩
theorem fnOk87 : FnOk Tryz.prog 87 fn87 := fk [1] Tryz.func87 rfl rfl
def red88 : Rb Tryz.f88 [] := by refine ⟨?p, ?h⟩; case h => conv => lhs; reduce
def red88_0 : Rd ((loopIn 0 red88.1).getD .skip) := by refine ⟨?p, ?h⟩; case h => conv => lhs; reduce
def pc88L0 : PC := red88_0.1
def pc88 : PC := red88.1
def fn88 : PFn := ⟨31, [.tmp 2], pc88, false⟩
theorem fnOk88 : FnOk Tryz.prog 88 fn88 := fk [] Tryz.func88 rfl rfl
def red89 : Rb Tryz.f89 [] := by refine ⟨?p, ?h⟩; case h => conv => lhs; reduce
def pc89 : PC := red89.1
def fn89 : PFn := ⟨35, [.tmp 4], pc89, false⟩
theorem fnOk89 : FnOk Tryz.prog 89 fn89 := fk [] Tryz.func89 rfl rfl
def red90 : Rb Tryz.f90 [] := by refine ⟨?p, ?h⟩; case h => conv => lhs; reduce
def pc90 : PC := red90.1
def fn90 : PFn := ⟨14, [.tmp 4, .tmp 5], pc90, false⟩
theorem fnOk90 : FnOk Tryz.prog 90 fn90 := fk [] Tryz.func90 rfl rfl
def red91 : Rb Tryz.f91 [] := by refine ⟨?p, ?h⟩; case h => conv => lhs; reduce
def pc91 : PC := red91.1
def fn91 : PFn := ⟨95, [.tmp 6], pc91, false⟩
theorem fnOk91 : FnOk Tryz.prog 91 fn91 := fk [] Tryz.func91 rfl rfl
def red92 : Rb Tryz.f92 [] := by refine ⟨?p, ?h⟩; case h => conv => lhs; reduce
def pc92 : PC := red92.1
def fn92 : PFn := ⟨7, [.tmp 2], pc92, false⟩
theorem fnOk92 : FnOk Tryz.prog 92 fn92 := fk [] Tryz.func92 rfl rfl
def red93 : Rb Tryz.f93 [1000005, 1000007] := by refine ⟨?p, ?h⟩; case h => conv => lhs; reduce
def pc93 : PC := red93.1
def fn93 : PFn := ⟨8, [.tmp 2], pc93, true⟩
theorem fnOk93 : FnOk Tryz.prog 93 fn93 := fk [1000005, 1000007] Tryz.func93 rfl rfl
def red94 : Rb Tryz.f94 [] := by refine ⟨?p, ?h⟩; case h => conv => lhs; reduce
def pc94 : PC := red94.1
def fn94 : PFn := ⟨11, [.cell 4 30], pc94, false⟩
theorem fnOk94 : FnOk Tryz.prog 94 fn94 := fk [] Tryz.func94 rfl rfl
def red95 : Rb Tryz.f95 [] := by refine ⟨?p, ?h⟩; case h => conv => lhs; reduce
def red95_0 : Rd ((loopIn 0 red95.1).getD .skip) := by refine ⟨?p, ?h⟩; case h => conv => lhs; reduce
def pc95L0 : PC := red95_0.1
def pc95 : PC := red95.1
def fn95 : PFn := ⟨32, [.tmp 6], pc95, false⟩
theorem fnOk95 : FnOk Tryz.prog 95 fn95 := fk [] Tryz.func95 rfl rfl
def red96 : Rb Tryz.f96 [] := by refine ⟨?p, ?h⟩; case h => conv => lhs; reduce
def pc96 : PC := red96.1
def fn96 : PFn := ⟨8, [.tmp 4], pc96, false⟩
theorem fnOk96 : FnOk Tryz.prog 96 fn96 := fk [] Tryz.func96 rfl rfl
def red97 : Rb Tryz.f97 [] := by refine ⟨?p, ?h⟩; case h => conv => lhs; reduce
def pc97 : PC := red97.1
def fn97 : PFn := ⟨19, [.tmp 6], pc97, false⟩
theorem fnOk97 : FnOk Tryz.prog 97 fn97 := fk [] Tryz.func97 rfl rfl
def red98 : Rb Tryz.f98 [1] := by refine ⟨?p, ?h⟩; case h => conv => lhs; reduce
def pc98 : PC := red98.1
def fn98 : PFn := ⟨30, [], pc98, false⟩
theorem fnOk98 : FnOk Tryz.prog 98 fn98 := fk [1] Tryz.func98 rfl rfl
def red99 : Rb Tryz.f99 [] := by refine ⟨?p, ?h⟩; case h => conv => lhs; reduce
def pc99 : PC := red99.1
def fn99 : PFn := ⟨7, [.cell 2 30], pc99, false⟩
theorem fnOk99 : FnOk Tryz.prog 99 fn99 := fk [] Tryz.func99 rfl rfl
def red100 : Rb Tryz.f100 [] := by refine ⟨?p, ?h⟩; case h => conv => lhs; reduce
def pc100 : PC := red100.1
def fn100 : PFn := ⟨7, [.cell 2 30], pc100, false⟩
theorem fnOk100 : FnOk Tryz.prog 100 fn100 := fk [] Tryz.func100 rfl rfl
def red105 : Rb Tryz.f105 [11, 1000056] := by refine ⟨?p, ?h⟩; case h => conv => lhs; reduce
def red105_0 : Rd ((loopIn 0 red105.1).getD .skip) := by refine ⟨?p, ?h⟩; case h => conv => lhs; reduce
def pc105L0 : PC := red105_0.1
def pc105 : PC := red105.1
def fn105 : PFn := ⟨61, [.tmp 8], pc105, false⟩
theorem fnOk105 : FnOk Tryz.prog 105 fn105 := fk [11, 1000056] Tryz.func105 rfl rfl
def red107 : Rb Tryz.f107 [] := by refine ⟨?p, ?h⟩; case h => conv => lhs; reduce
def pc107 : PC := red107.1
def fn107 : PFn := ⟨34, [.tmp 2], pc107, false⟩
theorem fnOk107 : FnOk Tryz.prog 107 fn107 := fk [] Tryz.func107 rfl rfl
def red109 : Rb Tryz.f109 [] := by refine ⟨?p, ?h⟩; case h => conv => lhs; reduce
def pc109 : PC := red109.1
def fn109 : PFn := ⟨8, [.tmp 2], pc109, false⟩
theorem fnOk109 : FnOk Tryz.prog 109 fn109 := fk [] Tryz.func109 rfl rfl
def red110 : Rb Tryz.f110 [] := by refine ⟨?p, ?h⟩; case h => conv => lhs; reduce
def red110_0 : Rd ((loopIn 0 red110.1).getD .skip) := by refine ⟨?p, ?h⟩; case h => conv => lhs; reduce
def pc110L0 : PC := red110_0.1
def pc110 : PC := red110.1
def fn110 : PFn := ⟨42, [.tmp 4], pc110, true⟩
theorem fnOk110 : FnOk Tryz.prog 110 fn110 := fk [] Tryz.func110 rfl rfl
def red111 : Rb Tryz.f111 [] := by refine ⟨?p, ?h⟩; case h => conv => lhs; reduce
def pc111 : PC := red111.1
def fn111 : PFn := ⟨8, [.tmp 3], pc111, false⟩
theorem fnOk111 : FnOk Tryz.prog 111 fn111 := fk [] Tryz.func111 rfl rfl
def red112 : Rb Tryz.f112 [] := by refine ⟨?p, ?h⟩; case h => conv => lhs; reduce
def pc112 : PC := red112.1
def fn112 : PFn := ⟨22, [.tmp 2], pc112, false⟩
theorem fnOk112 : FnOk Tryz.prog 112 fn112 := fk [] Tryz.func112 rfl rfl
def red113 : Rb Tryz.f113 [] := by refine ⟨?p, ?h⟩; case h => conv => lhs; reduce
def pc113 : PC := red113.1
def fn113 : PFn := ⟨5, [.tmp 2], pc113, false⟩
theorem fnOk113 : FnOk Tryz.prog 113 fn113 := fk [] Tryz.func113 rfl rfl
def red114 : Rb Tryz.f114 [] := by refine ⟨?p, ?h⟩; case h => conv => lhs; reduce
def pc114 : PC := red114.1
def fn114 : PFn := ⟨5, [.tmp 2], pc114, false⟩
theorem fnOk114 : FnOk Tryz.prog 114 fn114 := fk [] Tryz.func114 rfl rfl
def red115 : Rb Tryz.f115 [] := by refine ⟨?p, ?h⟩; case h => conv => lhs; reduce
def pc115 : PC := red115.1
def fn115 : PFn := ⟨8, [.tmp 4], pc115, false⟩
theorem fnOk115 : FnOk Tryz.prog 115 fn115 := fk [] Tryz.func115 rfl rfl
def red116 : Rb Tryz.f116 [10] := by refine ⟨?p, ?h⟩; case h => conv => lhs; reduce
def red116_0 : Rd ((loopIn 0 red116.1).getD .skip) := by refine ⟨?p, ?h⟩; case h => conv => lhs; reduce
def pc116L0 : PC := red116_0.1
def red116_2 : Rd ((loopIn 2 red116.1).getD .skip) := by refine ⟨?p, ?h⟩; case h => conv => lhs; reduce
def pc116L2 : PC := red116_2.1
def pc116 : PC := red116.1
def fn116 : PFn := ⟨66, [.tmp 2], pc116, false⟩
theorem fnOk116 : FnOk Tryz.prog 116 fn116 := fk [10] Tryz.func116 rfl rfl
def red117 : Rb Tryz.f117 [] := by refine ⟨?p, ?h⟩; case h => conv => lhs; reduce
def red117_0 : Rd ((loopIn 0 red117.1).getD .skip) := by refine ⟨?p, ?h⟩; case h => conv => lhs; reduce
def pc117L0 : PC := red117_0.1
def pc117 : PC := red117.1
def fn117 : PFn := ⟨19, [.tmp 4], pc117, false⟩
theorem fnOk117 : FnOk Tryz.prog 117 fn117 := fk [] Tryz.func117 rfl rfl
def red118 : Rb Tryz.f118 [] := by refine ⟨?p, ?h⟩; case h => conv => lhs; reduce
def red118_0 : Rd ((loopIn 0 red118.1).getD .skip) := by refine ⟨?p, ?h⟩; case h => conv => lhs; reduce
def pc118L0 : PC := red118_0.1
def pc118 : PC := red118.1
def fn118 : PFn := ⟨40, [.tmp 2], pc118, false⟩
theorem fnOk118 : FnOk Tryz.prog 118 fn118 := fk [] Tryz.func118 rfl rfl
def red119 : Rb Tryz.f119 [] := by refine ⟨?p, ?h⟩; case h => conv => lhs; reduce
def pc119 : PC := red119.1
def fn119 : PFn := ⟨9, [.tmp 4], pc119, false⟩
theorem fnOk119 : FnOk Tryz.prog 119 fn119 := fk [] Tryz.func119 rfl rfl
def red120 : Rb Tryz.f120 [] := by refine ⟨?p, ?h⟩; case h => conv => lhs; reduce
def pc120 : PC := red120.1
def fn120 : PFn := ⟨14, [.tmp 2], pc120, false⟩
theorem fnOk120 : FnOk Tryz.prog 120 fn120 := fk [] Tryz.func120 rfl rfl
def red121 : Rb Tryz.f121 [] := by refine ⟨?p, ?h⟩; case h => conv => lhs; reduce
def pc121 : PC := red121.1
def fn121 : PFn := ⟨30, [.tmp 4], pc121, false⟩
theorem fnOk121 : FnOk Tryz.prog 121 fn121 := fk [] Tryz.func121 rfl rfl
def red122 : Rb Tryz.f122 [] := by refine ⟨?p, ?h⟩; case h => conv => lhs; reduce
def red122_0 : Rd ((loopIn 0 red122.1).getD .skip) := by refine ⟨?p, ?h⟩; case h => conv => lhs; reduce
def pc122L0 : PC := red122_0.1
def pc122 : PC := red122.1
def fn122 : PFn := ⟨21, [.cell 2 193, .tmp 3], pc122, false⟩
theorem fnOk122 : FnOk Tryz.prog 122 fn122 := fk [] Tryz.func122 rfl rfl
def red125 : Rb Tryz.f125 [] := by refine ⟨?p, ?h⟩; case h => conv => lhs; reduce
def pc125 : PC := red125.1
def fn125 : PFn := ⟨6, [.tmp 2], pc125, false⟩
theorem fnOk125 : FnOk Tryz.prog 125 fn125 := fk [] Tryz.func125 rfl rfl
def red126 : Rb Tryz.f126 [] := by refine ⟨?p, ?h⟩; case h => conv => lhs; reduce
def pc126 : PC := red126.1
def fn126 : PFn := ⟨6, [.tmp 2], pc126, false⟩
theorem fnOk126 : FnOk Tryz.prog 126 fn126 := fk [] Tryz.func126 rfl rfl
def red127 : Rb Tryz.f127 [] := by refine ⟨?p, ?h⟩; case h => conv => lhs; reduce
def red127_0 : Rd ((loopIn 0 red127.1).getD .skip) := by refine ⟨?p, ?h⟩; case h => conv => lhs; reduce
def pc127L0 : PC := red127_0.1
def pc127 : PC := red127.1
def fn127 : PFn := ⟨19, [.tmp 4], pc127, false⟩
theorem fnOk127 : FnOk Tryz.prog 127 fn127 := fk [] Tryz.func127 rfl rfl
def red128 : Rb Tryz.f128 [] := by refine ⟨?p, ?h⟩; case h => conv => lhs; reduce
def pc128 : PC := red128.1
def fn128 : PFn := ⟨8, [.tmp 2], pc128, false⟩
theorem fnOk128 : FnOk Tryz.prog 128 fn128 := fk [] Tryz.func128 rfl rfl
def red129 : Rb Tryz.f129 [] := by refine ⟨?p, ?h⟩; case h => conv => lhs; reduce
def pc129 : PC := red129.1
def fn129 : PFn := ⟨8, [.tmp 2], pc129, false⟩
theorem fnOk129 : FnOk Tryz.prog 129 fn129 := fk [] Tryz.func129 rfl rfl
def red131 : Rb Tryz.f131 [] := by refine ⟨?p, ?h⟩; case h => conv => lhs; reduce
def red131_0 : Rd ((loopIn 0 red131.1).getD .skip) := by refine ⟨?p, ?h⟩; case h => conv => lhs; reduce
def pc131L0 : PC := red131_0.1
def pc131 : PC := red131.1
def fn131 : PFn := ⟨24, [.tmp 2], pc131, false⟩
theorem fnOk131 : FnOk Tryz.prog 131 fn131 := fk [] Tryz.func131 rfl rfl
def red132 : Rb Tryz.f132 [] := by refine ⟨?p, ?h⟩; case h => conv => lhs; reduce
def red132_0 : Rd ((loopIn 0 red132.1).getD .skip) := by refine ⟨?p, ?h⟩; case h => conv => lhs; reduce
def pc132L0 : PC := red132_0.1
def pc132 : PC := red132.1
def fn132 : PFn := ⟨24, [.tmp 2], pc132, false⟩
theorem fnOk132 : FnOk Tryz.prog 132 fn132 := fk [] Tryz.func132 rfl rfl
def red133 : Rb Tryz.f133 [] := by refine ⟨?p, ?h⟩; case h => conv => lhs; reduce
def pc133 : PC := red133.1
def fn133 : PFn := ⟨12, [.tmp 4], pc133, false⟩
theorem fnOk133 : FnOk Tryz.prog 133 fn133 := fk [] Tryz.func133 rfl rfl
def red134 : Rb Tryz.f134 [] := by refine ⟨?p, ?h⟩; case h => conv => lhs; reduce
def pc134 : PC := red134.1
def fn134 : PFn := ⟨4, [.tmp 2], pc134, false⟩
theorem fnOk134 : FnOk Tryz.prog 134 fn134 := fk [] Tryz.func134 rfl rfl
def red135 : Rb Tryz.f135 [] := by refine ⟨?p, ?h⟩; case h => conv => lhs; reduce
def red135_0 : Rd ((loopIn 0 red135.1).getD .skip) := by refine ⟨?p, ?h⟩; case h => conv => lhs; reduce
def pc135L0 : PC := red135_0.1
def pc135 : PC := red135.1
def fn135 : PFn := ⟨31, [.cell 2 109], pc135, false⟩
theorem fnOk135 : FnOk Tryz.prog 135 fn135 := fk [] Tryz.func135 rfl rfl
def red136 : Rb Tryz.f136 [] := by refine ⟨?p, ?h⟩; case h => conv => lhs; reduce
def pc136 : PC := red136.1
def fn136 : PFn := ⟨14, [.tmp 4], pc136, false⟩
theorem fnOk136 : FnOk Tryz.prog 136 fn136 := fk [] Tryz.func136 rfl rfl
def red137 : Rb Tryz.f137 [] := by refine ⟨?p, ?h⟩; case h => conv => lhs; reduce
def red137_0 : Rd ((loopIn 0 red137.1).getD .skip) := by refine ⟨?p, ?h⟩; case h => conv => lhs; reduce
def pc137L0 : PC := red137_0.1
def pc137 : PC := red137.1
def fn137 : PFn := ⟨49, [.tmp 6, .tmp 7], pc137, false⟩
theorem fnOk137 : FnOk Tryz.prog 137 fn137 := fk [] Tryz.func137 rfl rfl
def red141 : Rb Tryz.f141 [] := by refine ⟨?p, ?h⟩; case h => conv => lhs; reduce
def pc141 : PC := red141.1
def fn141 : PFn := ⟨21, [.tmp 6], pc141, false⟩
theorem fnOk141 : FnOk Tryz.prog 141 fn141 := fk [] Tryz.func141 rfl rfl
def red143 : Rb Tryz.f143 [] := by refine ⟨?p, ?h⟩; case h => conv => lhs; reduce
def red143_0 : Rd ((loopIn 0 red143.1).getD .skip) := by refine ⟨?p, ?h⟩; case h => conv => lhs; reduce
def pc143L0 : PC := red143_0.1
def pc143 : PC := red143.1
def fn143 : PFn := ⟨20, [.tmp 2], pc143, false⟩
theorem fnOk143 : FnOk Tryz.prog 143 fn143 := fk [] Tryz.func143 rfl rfl
def red144 : Rb Tryz.f144 [] := by refine ⟨?p, ?h⟩; case h => conv => lhs; reduce
def red144_0 : Rd ((loopIn 0 red144.1).getD .skip) := by refine ⟨?p, ?h⟩; case h => conv => lhs; reduce
def pc144L0 : PC := red144_0.1
def pc144 : PC := red144.1
def fn144 : PFn := ⟨19, [.tmp 4], pc144, false⟩
theorem fnOk144 : FnOk Tryz.prog 144 fn144 := fk [] Tryz.func144 rfl rfl
def red145 : Rb Tryz.f145 [] := by refine ⟨?p, ?h⟩; case h => conv => lhs; reduce
def pc145 : PC := red145.1
def fn145 : PFn := ⟨4, [.tmp 2], pc145, false⟩
theorem fnOk145 : FnOk Tryz.prog 145 fn145 := fk [] Tryz.func145 rfl rfl
def red146 : Rb Tryz.f146 [] := by refine ⟨?p, ?h⟩; case h => conv => lhs; reduce
def pc146 : PC := red146.1
def fn146 : PFn := ⟨54, [.tmp 4], pc146, false⟩
theorem fnOk146 : FnOk Tryz.prog 146 fn146 := fk [] Tryz.func146 rfl rfl
def red147 : Rb Tryz.f147 [] := by refine ⟨?p, ?h⟩; case h => conv => lhs; reduce
def red147_0 : Rd ((loopIn 0 red147.1).getD .skip) := by refine ⟨?p, ?h⟩; case h => conv => lhs; reduce
def pc147L0 : PC := red147_0.1
def pc147 : PC := red147.1
def fn147 : PFn := ⟨46, [.tmp 2], pc147, false⟩
theorem fnOk147 : FnOk Tryz.prog 147 fn147 := fk [] Tryz.func147 rfl rfl
def red149 : Rb Tryz.f149 [] := by refine ⟨?p, ?h⟩; case h => conv => lhs; reduce
def red149_0 : Rd ((loopIn 0 red149.1).getD .skip) := by refine ⟨?p, ?h⟩; case h => conv => lhs; reduce
def pc149L0 : PC := red149_0.1
def pc149 : PC := red149.1
def fn149 : PFn := ⟨19, [.tmp 4], pc149, false⟩
theorem fnOk149 : FnOk Tryz.prog 149 fn149 := fk [] Tryz.func149 rfl rfl
def red150 : Rb Tryz.f150 [] := by refine ⟨?p, ?h⟩; case h => conv => lhs; reduce
def pc150 : PC := red150.1
def fn150 : PFn := ⟨30, [.tmp 4], pc150, false⟩
theorem fnOk150 : FnOk Tryz.prog 150 fn150 := fk [] Tryz.func150 rfl rfl
def red151 : Rb Tryz.f151 [] := by refine ⟨?p, ?h⟩; case h => conv => lhs; reduce
def red151_0 : Rd ((loopIn 0 red151.1).getD .skip) := by refine ⟨?p, ?h⟩; case h => conv => lhs; reduce
def pc151L0 : PC := red151_0.1
def pc151 : PC := red151.1
def fn151 : PFn := ⟨29, [.tmp 2], pc151, false⟩
theorem fnOk151 : FnOk Tryz.prog 151 fn151 := fk [] Tryz.func151 rfl rfl
def red152 : Rb Tryz.f152 [] := by refine ⟨?p, ?h⟩; case h => conv => lhs; reduce
def pc152 : PC := red152.1
def fn152 : PFn := ⟨17, [.tmp 0], pc152, false⟩
theorem fnOk152 : FnOk Tryz.prog 152 fn152 := fk [] Tryz.func152 rfl rfl
def red154 : Rb Tryz.f154 [] := by refine ⟨?p, ?h⟩; case h => conv => lhs; reduce
def pc154 : PC := red154.1
def fn154 : PFn := ⟨9, [], pc154, false⟩
theorem fnOk154 : FnOk Tryz.prog 154 fn154 := fk [] Tryz.func154 rfl rfl
def red156 : Rb Tryz.f156 [] := by refine ⟨?p, ?h⟩; case h => conv => lhs; reduce
def red156_2 : Rd ((loopIn 2 red156.1).getD .skip) := by refine ⟨?p, ?h⟩; case h => conv => lhs; reduce
def pc156L2 : PC := red156_2.1
def red156_0 : Rd ((loopIn 0 red156.1).getD .skip) := by refine ⟨?p, ?h⟩; case h => conv => lhs; reduce
def pc156L0 : PC := red156_0.1
def pc156 : PC := red156.1
def fn156 : PFn := ⟨66, [.tmp 4], pc156, false⟩
theorem fnOk156 : FnOk Tryz.prog 156 fn156 := fk [] Tryz.func156 rfl rfl
def red159 : Rb Tryz.f159 [] := by refine ⟨?p, ?h⟩; case h => conv => lhs; reduce
def pc159 : PC := red159.1
def fn159 : PFn := ⟨14, [], pc159, false⟩
theorem fnOk159 : FnOk Tryz.prog 159 fn159 := fk [] Tryz.func159 rfl rfl
def red161 : Rb Tryz.f161 [] := by refine ⟨?p, ?h⟩; case h => conv => lhs; reduce
def pc161 : PC := red161.1
def fn161 : PFn := ⟨8, [.tmp 2], pc161, false⟩
theorem fnOk161 : FnOk Tryz.prog 161 fn161 := fk [] Tryz.func161 rfl rfl
def red164 : Rb Tryz.f164 [] := by refine ⟨?p, ?h⟩; case h => conv => lhs; reduce
def pc164 : PC := red164.1
def fn164 : PFn := ⟨15, [.tmp 2], pc164, false⟩
theorem fnOk164 : FnOk Tryz.prog 164 fn164 := fk [] Tryz.func164 rfl rfl
def red168 : Rb Tryz.f168 [] := by refine ⟨?p, ?h⟩; case h => conv => lhs; reduce
def pc168 : PC := red168.1
def fn168 : PFn := ⟨43, [.tmp 4], pc168, false⟩
theorem fnOk168 : FnOk Tryz.prog 168 fn168 := fk [] Tryz.func168 rfl rfl
def red169 : Rb Tryz.f169 [] := by refine ⟨?p, ?h⟩; case h => conv => lhs; reduce
def red169_0 : Rd ((loopIn 0 red169.1).getD .skip) := by refine ⟨?p, ?h⟩; case h => conv => lhs; reduce
def pc169L0 : PC := red169_0.1
def pc169 : PC := red169.1
def fn169 : PFn := ⟨19, [.tmp 2], pc169, false⟩
theorem fnOk169 : FnOk Tryz.prog 169 fn169 := fk [] Tryz.func169 rfl rfl
def red172 : Rb Tryz.f172 [] := by refine ⟨?p, ?h⟩; case h => conv => lhs; reduce
def red172_0 : Rd ((loopIn 0 red172.1).getD .skip) := by refine ⟨?p, ?h⟩; case h => conv => lhs; reduce
def pc172L0 : PC := red172_0.1
def red172_4 : Rd ((loopIn 4 red172.1).getD .skip) := by refine ⟨?p, ?h⟩; case h => conv => lhs; reduce
def pc172L4 : PC := red172_4.1
def red172_2 : Rd ((loopIn 2 red172.1).getD .skip) := by refine ⟨?p, ?h⟩; case h => conv => lhs; reduce
def pc172L2 : PC := red172_2.1
def pc172 : PC := red172.1
def fn172 : PFn := ⟨63, [], pc172, false⟩
theorem fnOk172 : FnOk Tryz.prog 172 fn172 := fk [] Tryz.func172 rfl rfl
def red174 : Rb Tryz.f174 [] := by refine ⟨?p, ?h⟩; case h => conv => lhs; reduce
def red174_0 : Rd ((loopIn 0 red174.1).getD .skip) := by refine ⟨?p, ?h⟩; case h => conv => lhs; reduce
def pc174L0 : PC := red174_0.1
def pc174 : PC := red174.1
def fn174 : PFn := ⟨148, [], pc174, false⟩
theorem fnOk174 : FnOk Tryz.prog 174 fn174 := fk [] Tryz.func174 rfl rfl
def red175 : Rb Tryz.f175 [] := by refine ⟨?p, ?h⟩; case h => conv => lhs; reduce
def pc175 : PC := red175.1
def fn175 : PFn := ⟨8, [.tmp 2], pc175, false⟩
theorem fnOk175 : FnOk Tryz.prog 175 fn175 := fk [] Tryz.func175 rfl rfl
def red178 : Rb Tryz.f178 [] := by refine ⟨?p, ?h⟩; case h => conv => lhs; reduce
def pc178 : PC := red178.1
def fn178 : PFn := ⟨25, [.tmp 2], pc178, false⟩
theorem fnOk178 : FnOk Tryz.prog 178 fn178 := fk [] Tryz.func178 rfl rfl
def red182 : Rb Tryz.f182 [] := by refine ⟨?p, ?h⟩; case h => conv => lhs; reduce
def red182_0 : Rd ((loopIn 0 red182.1).getD .skip) := by refine ⟨?p, ?h⟩; case h => conv => lhs; reduce
def pc182L0 : PC := red182_0.1
def pc182 : PC := red182.1
def fn182 : PFn := ⟨17, [.tmp 4], pc182, false⟩
theorem fnOk182 : FnOk Tryz.prog 182 fn182 := fk [] Tryz.func182 rfl rfl
def red183 : Rb Tryz.f183 [] := by refine ⟨?p, ?h⟩; case h => conv => lhs; reduce
def red183_0 : Rd ((loopIn 0 red183.1).getD .skip) := by refine ⟨?p, ?h⟩; case h => conv => lhs; reduce
def pc183L0 : PC := red183_0.1
def pc183 : PC := red183.1
def fn183 : PFn := ⟨23, [.tmp 4], pc183, false⟩
theorem fnOk183 : FnOk Tryz.prog 183 fn183 := fk [] Tryz.func183 rfl rfl
def red192 : Rb Tryz.f192 [6] := by refine ⟨?p, ?h⟩; case h => conv => lhs; reduce
def red192_2 : Rd ((loopIn 2 red192.1).getD .skip) := by refine ⟨?p, ?h⟩; case h => conv => lhs; reduce
def pc192L2 : PC := red192_2.1
def red192_0 : Rd ((loopIn 0 red192.1).getD .skip) := by refine ⟨?p, ?h⟩; case h => conv => lhs; reduce
def pc192L0 : PC := red192_0.1
def pc192 : PC := red192.1
def fn192 : PFn := ⟨53, [], pc192, false⟩
theorem fnOk192 : FnOk Tryz.prog 192 fn192 := fk [6] Tryz.func192 rfl rfl
def red194 : Rb Tryz.f194 [6] := by refine ⟨?p, ?h⟩; case h => conv => lhs; reduce
def red194_2 : Rd ((loopIn 2 red194.1).getD .skip) := by refine ⟨?p, ?h⟩; case h => conv => lhs; reduce
def pc194L2 : PC := red194_2.1
def red194_0 : Rd ((loopIn 0 red194.1).getD .skip) := by refine ⟨?p, ?h⟩; case h => conv => lhs; reduce
def pc194L0 : PC := red194_0.1
def pc194 : PC := red194.1
def fn194 : PFn := ⟨53, [], pc194, false⟩
theorem fnOk194 : FnOk Tryz.prog 194 fn194 := fk [6] Tryz.func194 rfl rfl
def fnTb : Tb PFn := (.node (.node (.node (.node (.node (.node (.node (.node .nil 3 fn3 .nil) 4 fn4 .nil) 5 fn5 (.node .nil 6 fn6 .nil)) 7 fn7 (.node (.node (.node .nil 8 fn8 .nil) 9 fn9 .nil) 10 fn10 (.node .nil 11 fn11 .nil))) 12 fn12 (.node (.node (.node (.node .nil 13 fn13 .nil) 14 fn14 .nil) 15 fn15 (.node .nil 16 fn16 .nil)) 17 fn17 (.node (.node .nil 18 fn18 .nil) 19 fn19 (.node .nil 20 fn20 .nil)))) 21 fn21 (.node (.node (.node (.node (.node .nil 22 fn22 .nil) 23 fn23 .nil) 24 fn24 (.node .nil 25 fn25 .nil)) 27 fn27 (.node (.node .nil 28 fn28 .nil) 29 fn29 (.node .nil 30 fn30 .nil))) 31 fn31 (.node (.node (.node (.node .nil 32 fn32 .nil) 33 fn33 .nil) 34 fn34 (.node .nil 35 fn35 .nil)) 36 fn36 (.node (.node .nil 37 fn37 .nil) 38 fn38 (.node .nil 39 fn39 .nil))))) 40 fn40 (.node (.node (.node (.node (.node (.node .nil 41 fn41 .nil) 42 fn42 .nil) 43 fn43 (.node .nil 44 fn44 .nil)) 45 fn45 (.node (.node (.node .nil 46 fn46 .nil) 47 fn47 .nil) 48 fn48 (.node .nil 49 fn49 .nil))) 50 fn50 (.node (.node (.node (.node .nil 52 fn52 .nil) 53 fn53 .nil) 54 fn54 (.node .nil 55 fn55 .nil)) 56 fn56 (.node (.node .nil 57 fn57 .nil) 58 fn58 (.node .nil 59 fn59 .nil)))) 60 fn60 (.node (.node (.node (.node (.node .nil 61 fn61 .nil) 62 fn62 .nil) 63 fn63 (.node .nil 64 fn64 .nil)) 65 fn65 (.node (.node .nil 66 fn66 .nil) 67 fn67 (.node .nil 68 fn68 .nil))) 71 fn71 (.node (.node (.node (.node .nil 72 fn72 .nil) 73 fn73 .nil) 74 fn74 (.node .nil 75 fn75 .nil)) 76 fn76 (.node (.node .nil 77 fn77 .nil) 78 fn78 (.node .nil 79 fn79 .nil)))))) 80 fn80 (.node (.node (.node (.node (.node (.node (.node .nil 81 fn81 .nil) 82 fn82 .nil) 83 fn83 (.node .nil 84 fn84 .nil)) 85 fn85 (.node (.node (.node .nil 86 fn86 .nil) 87 fn87 .nil) 88 fn88 (.node .nil 89 fn89 .nil))) 90 fn90 (.node (.node (.node (.node .nil 91 fn91 .nil) 92 fn92 .nil) 93 fn93 (.node .nil 94 fn94 .nil)) 95 fn95 (.node (.node .nil 96 fn96 .nil) 97 fn97 (.node .nil 98 fn98 .nil)))) 99 fn99 (.node (.node (.node (.node (.node .nil 100 fn100 .nil) 105 fn105 .nil) 107 fn107 (.node .nil 109 fn109 .nil)) 110 fn110 (.node (.node .nil 111 fn111 .nil) 112 fn112 (.node .nil 113 fn113 .nil))) 114 fn114 (.node (.node (.node (.node .nil 115 fn115 .nil) 116 fn116 .nil) 117 fn117 (.node .nil 118 fn118 .nil)) 119 fn119 (.node (.node .nil 120 fn120 .nil) 121 fn121 (.node .nil 122 fn122 .nil))))) 125 fn125 (.node (.node (.node (.node (.node (.node .nil 126 fn126 .nil) 127 fn127 .nil) 128 fn128 (.node .nil 129 fn129 .nil)) 131 fn131 (.node (.node (.node .nil 132 fn132 .nil) 133 fn133 .nil) 134 fn134 (.node .nil 135 fn135 .nil))) 136 fn136 (.node (.node (.node (.node .nil 137 fn137 .nil) 141 fn141 .nil) 143 fn143 (.node .nil 144 fn144 .nil)) 145 fn145 (.node (.node .nil 146 fn146 .nil) 147 fn147 (.node .nil 149 fn149 .nil)))) 150 fn150 (.node (.node (.node (.node (.node .nil 151 fn151 .nil) 152 fn152 .nil) 154 fn154 (.node .nil 156 fn156 .nil)) 159 fn159 (.node (.node .nil 161 fn161 .nil) 164 fn164 (.node .nil 168 fn168 .nil))) 169 fn169 (.node (.node (.node (.node .nil 172 fn172 .nil) 174 fn174 .nil) 175 fn175 (.node .nil 178 fn178 .nil)) 182 fn182 (.node (.node .nil 183 fn183 .nil) 192 fn192 (.node .nil 194 fn194 .nil)))))))
theorem fnTb_all : fnTb.All (fun f pf => FnOk Tryz.prog f pf) := ⟨⟨⟨⟨⟨⟨⟨⟨trivial, fnOk3, trivial⟩, fnOk4, trivial⟩, fnOk5, ⟨trivial, fnOk6, trivial⟩⟩, fnOk7, ⟨⟨⟨trivial, fnOk8, trivial⟩, fnOk9, trivial⟩, fnOk10, ⟨trivial, fnOk11, trivial⟩⟩⟩, fnOk12, ⟨⟨⟨⟨trivial, fnOk13, trivial⟩, fnOk14, trivial⟩, fnOk15, ⟨trivial, fnOk16, trivial⟩⟩, fnOk17, ⟨⟨trivial, fnOk18, trivial⟩, fnOk19, ⟨trivial, fnOk20, trivial⟩⟩⟩⟩, fnOk21, ⟨⟨⟨⟨⟨trivial, fnOk22, trivial⟩, fnOk23, trivial⟩, fnOk24, ⟨trivial, fnOk25, trivial⟩⟩, fnOk27, ⟨⟨trivial, fnOk28, trivial⟩, fnOk29, ⟨trivial, fnOk30, trivial⟩⟩⟩, fnOk31, ⟨⟨⟨⟨trivial, fnOk32, trivial⟩, fnOk33, trivial⟩, fnOk34, ⟨trivial, fnOk35, trivial⟩⟩, fnOk36, ⟨⟨trivial, fnOk37, trivial⟩, fnOk38, ⟨trivial, fnOk39, trivial⟩⟩⟩⟩⟩, fnOk40, ⟨⟨⟨⟨⟨⟨trivial, fnOk41, trivial⟩, fnOk42, trivial⟩, fnOk43, ⟨trivial, fnOk44, trivial⟩⟩, fnOk45, ⟨⟨⟨trivial, fnOk46, trivial⟩, fnOk47, trivial⟩, fnOk48, ⟨trivial, fnOk49, trivial⟩⟩⟩, fnOk50, ⟨⟨⟨⟨trivial, fnOk52, trivial⟩, fnOk53, trivial⟩, fnOk54, ⟨trivial, fnOk55, trivial⟩⟩, fnOk56, ⟨⟨trivial, fnOk57, trivial⟩, fnOk58, ⟨trivial, fnOk59, trivial⟩⟩⟩⟩, fnOk60, ⟨⟨⟨⟨⟨trivial, fnOk61, trivial⟩, fnOk62, trivial⟩, fnOk63, ⟨trivial, fnOk64, trivial⟩⟩, fnOk65, ⟨⟨trivial, fnOk66, trivial⟩, fnOk67, ⟨trivial, fnOk68, trivial⟩⟩⟩, fnOk71, ⟨⟨⟨⟨trivial, fnOk72, trivial⟩, fnOk73, trivial⟩, fnOk74, ⟨trivial, fnOk75, trivial⟩⟩, fnOk76, ⟨⟨trivial, fnOk77, trivial⟩, fnOk78, ⟨trivial, fnOk79, trivial⟩⟩⟩⟩⟩⟩, fnOk80, ⟨⟨⟨⟨⟨⟨⟨trivial, fnOk81, trivial⟩, fnOk82, trivial⟩, fnOk83, ⟨trivial, fnOk84, trivial⟩⟩, fnOk85, ⟨⟨⟨trivial, fnOk86, trivial⟩, fnOk87, trivial⟩, fnOk88, ⟨trivial, fnOk89, trivial⟩⟩⟩, fnOk90, ⟨⟨⟨⟨trivial, fnOk91, trivial⟩, fnOk92, trivial⟩, fnOk93, ⟨trivial, fnOk94, trivial⟩⟩, fnOk95, ⟨⟨trivial, fnOk96, trivial⟩, fnOk97, ⟨trivial, fnOk98, trivial⟩⟩⟩⟩, fnOk99, ⟨⟨⟨⟨⟨trivial, fnOk100, trivial⟩, fnOk105, trivial⟩, fnOk107, ⟨trivial, fnOk109, trivial⟩⟩, fnOk110, ⟨⟨trivial, fnOk111, trivial⟩, fnOk112, ⟨trivial, fnOk113, trivial⟩⟩⟩, fnOk114, ⟨⟨⟨⟨trivial, fnOk115, trivial⟩, fnOk116, trivial⟩, fnOk117, ⟨trivial, fnOk118, trivial⟩⟩, fnOk119, ⟨⟨trivial, fnOk120, trivial⟩, fnOk121, ⟨trivial, fnOk122, trivial⟩⟩⟩⟩⟩, fnOk125, ⟨⟨⟨⟨⟨⟨trivial, fnOk126, trivial⟩, fnOk127, trivial⟩, fnOk128, ⟨trivial, fnOk129, trivial⟩⟩, fnOk131, ⟨⟨⟨trivial, fnOk132, trivial⟩, fnOk133, trivial⟩, fnOk134, ⟨trivial, fnOk135, trivial⟩⟩⟩, fnOk136, ⟨⟨⟨⟨trivial, fnOk137, trivial⟩, fnOk141, trivial⟩, fnOk143, ⟨trivial, fnOk144, trivial⟩⟩, fnOk145, ⟨⟨trivial, fnOk146, trivial⟩, fnOk147, ⟨trivial, fnOk149, trivial⟩⟩⟩⟩, fnOk150, ⟨⟨⟨⟨⟨trivial, fnOk151, trivial⟩, fnOk152, trivial⟩, fnOk154, ⟨trivial, fnOk156, trivial⟩⟩, fnOk159, ⟨⟨trivial, fnOk161, trivial⟩, fnOk164, ⟨trivial, fnOk168, trivial⟩⟩⟩, fnOk169, ⟨⟨⟨⟨trivial, fnOk172, trivial⟩, fnOk174, trivial⟩, fnOk175, ⟨trivial, fnOk178, trivial⟩⟩, fnOk182, ⟨⟨trivial, fnOk183, trivial⟩, fnOk192, ⟨trivial, fnOk194, trivial⟩⟩⟩⟩⟩⟩⟩
def fnOf (f : FuncId) : Option PFn := fnTb.find f
theorem fnOf_ok : ∀ f pf, fnOf f = some pf → FnOk Tryz.prog f pf := fun f pf h => Tb.find_all fnTb f pf fnTb_all h
end Go.Proofs.YtbondebiijokaaaGreatDoor.M

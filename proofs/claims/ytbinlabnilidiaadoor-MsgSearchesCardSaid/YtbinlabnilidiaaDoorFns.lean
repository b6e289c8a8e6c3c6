/- The functions, compiled for the abstract machine (made by a program of mine, gen.py). -/
import Derived.Test.YtbinlabnilidiaaDoorTy
namespace Go.Proofs.YtbinlabnilidiaaDoor.M
set_option linter.unusedVariables false
set_option linter.unusedSimpArgs false
open Go Go.Pam

set_option maxRecDepth 100000
abbrev Rd (x : PC) := { p : PC // x = p }
def loopIn (i : Nat) : PC → Option PC
 | .seq a b => match loopIn i a with
  | some x => some x
  | none => loopIn i b
 | .cond _ a b => match loopIn i a with
  | some x => some x
  | none => loopIn i b
 | .block j (.loop c) => if i = j then some c else loopIn i c
 | .block _ c => loopIn i c
 | .loop c => loopIn i c
 | _ => none

def red28 : Rd ((Tryd.f28.body.bind (compile [])).getD .skip) := by refine ⟨?p, ?h⟩; case h => conv => lhs; reduce
def red28_0 : Rd ((loopIn 0 red28.1).getD .skip) := by refine ⟨?p, ?h⟩; case h => conv => lhs; reduce
def pc28L0 : PC := red28_0.1
def pc28 : PC := red28.1
def fn28 : PFn := ⟨26, [.tmp 4], pc28, false⟩
theorem fnOk28 : FnOk Tryd.prog 28 fn28 := ⟨⟨_, _, [], Tryd.func28, rfl, by kernel_rfl, rfl, rfl, of_decide_eq_true (by kernel_rfl)⟩⟩

def red49 : Rd ((Tryd.f49.body.bind (compile [])).getD .skip) := by refine ⟨?p, ?h⟩; case h => conv => lhs; reduce
def red49_0 : Rd ((loopIn 0 red49.1).getD .skip) := by refine ⟨?p, ?h⟩; case h => conv => lhs; reduce
def pc49L0 : PC := red49_0.1
def pc49 : PC := red49.1
def fn49 : PFn := ⟨32, [.tmp 6], pc49, false⟩
theorem fnOk49 : FnOk Tryd.prog 49 fn49 := ⟨⟨_, _, [], Tryd.func49, rfl, by kernel_rfl, rfl, rfl, of_decide_eq_true (by kernel_rfl)⟩⟩

def red27 : Rd ((Tryd.f27.body.bind (compile [])).getD .skip) := by refine ⟨?p, ?h⟩; case h => conv => lhs; reduce
def pc27 : PC := red27.1
def fn27 : PFn := ⟨38, [.tmp 4], pc27, false⟩
theorem fnOk27 : FnOk Tryd.prog 27 fn27 := ⟨⟨_, _, [], Tryd.func27, rfl, by kernel_rfl, rfl, rfl, of_decide_eq_true (by kernel_rfl)⟩⟩

def red29 : Rd ((Tryd.f29.body.bind (compile [])).getD .skip) := by refine ⟨?p, ?h⟩; case h => conv => lhs; reduce
def red29_0 : Rd ((loopIn 0 red29.1).getD .skip) := by refine ⟨?p, ?h⟩; case h => conv => lhs; reduce
def pc29L0 : PC := red29_0.1
def pc29 : PC := red29.1
def fn29 : PFn := ⟨32, [.tmp 6], pc29, false⟩
theorem fnOk29 : FnOk Tryd.prog 29 fn29 := ⟨⟨_, _, [], Tryd.func29, rfl, by kernel_rfl, rfl, rfl, of_decide_eq_true (by kernel_rfl)⟩⟩

def red30 : Rd ((Tryd.f30.body.bind (compile [])).getD .skip) := by refine ⟨?p, ?h⟩; case h => conv => lhs; reduce
def pc30 : PC := red30.1
def fn30 : PFn := ⟨24, [.tmp 4], pc30, false⟩
theorem fnOk30 : FnOk Tryd.prog 30 fn30 := ⟨⟨_, _, [], Tryd.func30, rfl, by kernel_rfl, rfl, rfl, of_decide_eq_true (by kernel_rfl)⟩⟩

def red10 : Rd ((Tryd.f10.body.bind (compile [])).getD .skip) := by refine ⟨?p, ?h⟩; case h => conv => lhs; reduce
def pc10 : PC := red10.1
def fn10 : PFn := ⟨142, [.tmp 4], pc10, false⟩
theorem fnOk10 : FnOk Tryd.prog 10 fn10 := ⟨⟨_, _, [], Tryd.func10, rfl, by kernel_rfl, rfl, rfl, of_decide_eq_true (by kernel_rfl)⟩⟩

def red11 : Rd ((Tryd.f11.body.bind (compile [])).getD .skip) := by refine ⟨?p, ?h⟩; case h => conv => lhs; reduce
def pc11 : PC := red11.1
def fn11 : PFn := ⟨19, [.tmp 4], pc11, false⟩
theorem fnOk11 : FnOk Tryd.prog 11 fn11 := ⟨⟨_, _, [], Tryd.func11, rfl, by kernel_rfl, rfl, rfl, of_decide_eq_true (by kernel_rfl)⟩⟩

def red23 : Rd ((Tryd.f23.body.bind (compile [12, 13, 16, 19, 20])).getD .skip) := by refine ⟨?p, ?h⟩; case h => conv => lhs; reduce
def pc23 : PC := red23.1
def fn23 : PFn := ⟨93, [.cell 2 31], pc23, false⟩
theorem fnOk23 : FnOk Tryd.prog 23 fn23 := ⟨⟨_, _, [12, 13, 16, 19, 20], Tryd.func23, rfl, by kernel_rfl, rfl, rfl, of_decide_eq_true (by kernel_rfl)⟩⟩

def red65 : Rd ((Tryd.f65.body.bind (compile [])).getD .skip) := by refine ⟨?p, ?h⟩; case h => conv => lhs; reduce
def red65_0 : Rd ((loopIn 0 red65.1).getD .skip) := by refine ⟨?p, ?h⟩; case h => conv => lhs; reduce
def pc65L0 : PC := red65_0.1
def pc65 : PC := red65.1
def fn65 : PFn := ⟨19, [.tmp 4], pc65, false⟩
theorem fnOk65 : FnOk Tryd.prog 65 fn65 := ⟨⟨_, _, [], Tryd.func65, rfl, by kernel_rfl, rfl, rfl, of_decide_eq_true (by kernel_rfl)⟩⟩

def red45 : Rd ((Tryd.f45.body.bind (compile [])).getD .skip) := by refine ⟨?p, ?h⟩; case h => conv => lhs; reduce
def pc45 : PC := red45.1
def fn45 : PFn := ⟨9, [.tmp 4], pc45, false⟩
theorem fnOk45 : FnOk Tryd.prog 45 fn45 := ⟨⟨_, _, [], Tryd.func45, rfl, by kernel_rfl, rfl, rfl, of_decide_eq_true (by kernel_rfl)⟩⟩

def red24 : Rd ((Tryd.f24.body.bind (compile [])).getD .skip) := by refine ⟨?p, ?h⟩; case h => conv => lhs; reduce
def pc24 : PC := red24.1
def fn24 : PFn := ⟨6, [.tmp 2], pc24, false⟩
theorem fnOk24 : FnOk Tryd.prog 24 fn24 := ⟨⟨_, _, [], Tryd.func24, rfl, by kernel_rfl, rfl, rfl, of_decide_eq_true (by kernel_rfl)⟩⟩

def red66 : Rd ((Tryd.f66.body.bind (compile [])).getD .skip) := by refine ⟨?p, ?h⟩; case h => conv => lhs; reduce
def pc66 : PC := red66.1
def fn66 : PFn := ⟨9, [.tmp 2], pc66, false⟩
theorem fnOk66 : FnOk Tryd.prog 66 fn66 := ⟨⟨_, _, [], Tryd.func66, rfl, by kernel_rfl, rfl, rfl, of_decide_eq_true (by kernel_rfl)⟩⟩

def red47 : Rd ((Tryd.f47.body.bind (compile [])).getD .skip) := by refine ⟨?p, ?h⟩; case h => conv => lhs; reduce
def red47_0 : Rd ((loopIn 0 red47.1).getD .skip) := by refine ⟨?p, ?h⟩; case h => conv => lhs; reduce
def pc47L0 : PC := red47_0.1
def pc47 : PC := red47.1
def fn47 : PFn := ⟨31, [.tmp 2], pc47, false⟩
theorem fnOk47 : FnOk Tryd.prog 47 fn47 := ⟨⟨_, _, [], Tryd.func47, rfl, by kernel_rfl, rfl, rfl, of_decide_eq_true (by kernel_rfl)⟩⟩

def red75 : Rd ((Tryd.f75.body.bind (compile [])).getD .skip) := by refine ⟨?p, ?h⟩; case h => conv => lhs; reduce
def red75_0 : Rd ((loopIn 0 red75.1).getD .skip) := by refine ⟨?p, ?h⟩; case h => conv => lhs; reduce
def pc75L0 : PC := red75_0.1
def pc75 : PC := red75.1
def fn75 : PFn := ⟨19, [.tmp 4], pc75, false⟩
theorem fnOk75 : FnOk Tryd.prog 75 fn75 := ⟨⟨_, _, [], Tryd.func75, rfl, by kernel_rfl, rfl, rfl, of_decide_eq_true (by kernel_rfl)⟩⟩

def red67 : Rd ((Tryd.f67.body.bind (compile [])).getD .skip) := by refine ⟨?p, ?h⟩; case h => conv => lhs; reduce
def pc67 : PC := red67.1
def fn67 : PFn := ⟨9, [.tmp 4], pc67, false⟩
theorem fnOk67 : FnOk Tryd.prog 67 fn67 := ⟨⟨_, _, [], Tryd.func67, rfl, by kernel_rfl, rfl, rfl, of_decide_eq_true (by kernel_rfl)⟩⟩

def red69 : Rd ((Tryd.f69.body.bind (compile [])).getD .skip) := by refine ⟨?p, ?h⟩; case h => conv => lhs; reduce
def red69_0 : Rd ((loopIn 0 red69.1).getD .skip) := by refine ⟨?p, ?h⟩; case h => conv => lhs; reduce
def pc69L0 : PC := red69_0.1
def pc69 : PC := red69.1
def fn69 : PFn := ⟨46, [.tmp 2], pc69, false⟩
theorem fnOk69 : FnOk Tryd.prog 69 fn69 := ⟨⟨_, _, [], Tryd.func69, rfl, by kernel_rfl, rfl, rfl, of_decide_eq_true (by kernel_rfl)⟩⟩

def red76 : Rd ((Tryd.f76.body.bind (compile [])).getD .skip) := by refine ⟨?p, ?h⟩; case h => conv => lhs; reduce
def red76_1 : Rd ((loopIn 1 red76.1).getD .skip) := by refine ⟨?p, ?h⟩; case h => conv => lhs; reduce
def pc76L1 : PC := red76_1.1
def red76_3 : Rd ((loopIn 3 red76.1).getD .skip) := by refine ⟨?p, ?h⟩; case h => conv => lhs; reduce
def pc76L3 : PC := red76_3.1
def pc76 : PC := red76.1
def fn76 : PFn := ⟨75, [.tmp 4], pc76, false⟩
theorem fnOk76 : FnOk Tryd.prog 76 fn76 := ⟨⟨_, _, [], Tryd.func76, rfl, by kernel_rfl, rfl, rfl, of_decide_eq_true (by kernel_rfl)⟩⟩

def red70 : Rd ((Tryd.f70.body.bind (compile [])).getD .skip) := by refine ⟨?p, ?h⟩; case h => conv => lhs; reduce
def red70_0 : Rd ((loopIn 0 red70.1).getD .skip) := by refine ⟨?p, ?h⟩; case h => conv => lhs; reduce
def pc70L0 : PC := red70_0.1
def pc70 : PC := red70.1
def fn70 : PFn := ⟨44, [.tmp 2], pc70, false⟩
theorem fnOk70 : FnOk Tryd.prog 70 fn70 := ⟨⟨_, _, [], Tryd.func70, rfl, by kernel_rfl, rfl, rfl, of_decide_eq_true (by kernel_rfl)⟩⟩

def red48 : Rd ((Tryd.f48.body.bind (compile [])).getD .skip) := by refine ⟨?p, ?h⟩; case h => conv => lhs; reduce
def pc48 : PC := red48.1
def fn48 : PFn := ⟨102, [.tmp 2], pc48, false⟩
theorem fnOk48 : FnOk Tryd.prog 48 fn48 := ⟨⟨_, _, [], Tryd.func48, rfl, by kernel_rfl, rfl, rfl, of_decide_eq_true (by kernel_rfl)⟩⟩

def red25 : Rd ((Tryd.f25.body.bind (compile [])).getD .skip) := by refine ⟨?p, ?h⟩; case h => conv => lhs; reduce
def pc25 : PC := red25.1
def fn25 : PFn := ⟨10, [.tmp 2], pc25, false⟩
theorem fnOk25 : FnOk Tryd.prog 25 fn25 := ⟨⟨_, _, [], Tryd.func25, rfl, by kernel_rfl, rfl, rfl, of_decide_eq_true (by kernel_rfl)⟩⟩

def red26 : Rd ((Tryd.f26.body.bind (compile [])).getD .skip) := by refine ⟨?p, ?h⟩; case h => conv => lhs; reduce
def red26_0 : Rd ((loopIn 0 red26.1).getD .skip) := by refine ⟨?p, ?h⟩; case h => conv => lhs; reduce
def pc26L0 : PC := red26_0.1
def pc26 : PC := red26.1
def fn26 : PFn := ⟨45, [.tmp 4], pc26, false⟩
theorem fnOk26 : FnOk Tryd.prog 26 fn26 := ⟨⟨_, _, [], Tryd.func26, rfl, by kernel_rfl, rfl, rfl, of_decide_eq_true (by kernel_rfl)⟩⟩

def red9 : Rd ((Tryd.f9.body.bind (compile [])).getD .skip) := by refine ⟨?p, ?h⟩; case h => conv => lhs; reduce
def pc9 : PC := red9.1
def fn9 : PFn := ⟨120, [.tmp 2], pc9, false⟩
theorem fnOk9 : FnOk Tryd.prog 9 fn9 := ⟨⟨_, _, [], Tryd.func9, rfl, by kernel_rfl, rfl, rfl, of_decide_eq_true (by kernel_rfl)⟩⟩

def red12 : Rd ((Tryd.f12.body.bind (compile [])).getD .skip) := by refine ⟨?p, ?h⟩; case h => conv => lhs; reduce
def pc12 : PC := red12.1
def fn12 : PFn := ⟨8, [.cell 4 44], pc12, false⟩
theorem fnOk12 : FnOk Tryd.prog 12 fn12 := ⟨⟨_, _, [], Tryd.func12, rfl, by kernel_rfl, rfl, rfl, of_decide_eq_true (by kernel_rfl)⟩⟩

def red13 : Rd ((Tryd.f13.body.bind (compile [])).getD .skip) := by refine ⟨?p, ?h⟩; case h => conv => lhs; reduce
def pc13 : PC := red13.1
def fn13 : PFn := ⟨8, [.cell 4 44], pc13, false⟩
theorem fnOk13 : FnOk Tryd.prog 13 fn13 := ⟨⟨_, _, [], Tryd.func13, rfl, by kernel_rfl, rfl, rfl, of_decide_eq_true (by kernel_rfl)⟩⟩

def red34 : Rd ((Tryd.f34.body.bind (compile [])).getD .skip) := by refine ⟨?p, ?h⟩; case h => conv => lhs; reduce
def red34_0 : Rd ((loopIn 0 red34.1).getD .skip) := by refine ⟨?p, ?h⟩; case h => conv => lhs; reduce
def pc34L0 : PC := red34_0.1
def pc34 : PC := red34.1
def fn34 : PFn := ⟨28, [.tmp 2], pc34, false⟩
theorem fnOk34 : FnOk Tryd.prog 34 fn34 := ⟨⟨_, _, [], Tryd.func34, rfl, by kernel_rfl, rfl, rfl, of_decide_eq_true (by kernel_rfl)⟩⟩

def red15 : Rd ((Tryd.f15.body.bind (compile [])).getD .skip) := by refine ⟨?p, ?h⟩; case h => conv => lhs; reduce
def pc15 : PC := red15.1
def fn15 : PFn := ⟨9, [.cell 4 44], pc15, false⟩
theorem fnOk15 : FnOk Tryd.prog 15 fn15 := ⟨⟨_, _, [], Tryd.func15, rfl, by kernel_rfl, rfl, rfl, of_decide_eq_true (by kernel_rfl)⟩⟩

def red50 : Rd ((Tryd.f50.body.bind (compile [])).getD .skip) := by refine ⟨?p, ?h⟩; case h => conv => lhs; reduce
def pc50 : PC := red50.1
def fn50 : PFn := ⟨6, [.tmp 2], pc50, false⟩
theorem fnOk50 : FnOk Tryd.prog 50 fn50 := ⟨⟨_, _, [], Tryd.func50, rfl, by kernel_rfl, rfl, rfl, of_decide_eq_true (by kernel_rfl)⟩⟩

def red31 : Rd ((Tryd.f31.body.bind (compile [])).getD .skip) := by refine ⟨?p, ?h⟩; case h => conv => lhs; reduce
def pc31 : PC := red31.1
def fn31 : PFn := ⟨6, [.cell 2 44], pc31, false⟩
theorem fnOk31 : FnOk Tryd.prog 31 fn31 := ⟨⟨_, _, [], Tryd.func31, rfl, by kernel_rfl, rfl, rfl, of_decide_eq_true (by kernel_rfl)⟩⟩

def red32 : Rd ((Tryd.f32.body.bind (compile [])).getD .skip) := by refine ⟨?p, ?h⟩; case h => conv => lhs; reduce
def red32_1 : Rd ((loopIn 1 red32.1).getD .skip) := by refine ⟨?p, ?h⟩; case h => conv => lhs; reduce
def pc32L1 : PC := red32_1.1
def red32_3 : Rd ((loopIn 3 red32.1).getD .skip) := by refine ⟨?p, ?h⟩; case h => conv => lhs; reduce
def pc32L3 : PC := red32_3.1
def pc32 : PC := red32.1
def fn32 : PFn := ⟨87, [.cell 2 44], pc32, false⟩
theorem fnOk32 : FnOk Tryd.prog 32 fn32 := ⟨⟨_, _, [], Tryd.func32, rfl, by kernel_rfl, rfl, rfl, of_decide_eq_true (by kernel_rfl)⟩⟩

def red51 : Rd ((Tryd.f51.body.bind (compile [])).getD .skip) := by refine ⟨?p, ?h⟩; case h => conv => lhs; reduce
def red51_0 : Rd ((loopIn 0 red51.1).getD .skip) := by refine ⟨?p, ?h⟩; case h => conv => lhs; reduce
def pc51L0 : PC := red51_0.1
def pc51 : PC := red51.1
def fn51 : PFn := ⟨26, [.cell 4 44], pc51, false⟩
theorem fnOk51 : FnOk Tryd.prog 51 fn51 := ⟨⟨_, _, [], Tryd.func51, rfl, by kernel_rfl, rfl, rfl, of_decide_eq_true (by kernel_rfl)⟩⟩

def red33 : Rd ((Tryd.f33.body.bind (compile [])).getD .skip) := by refine ⟨?p, ?h⟩; case h => conv => lhs; reduce
def red33_0 : Rd ((loopIn 0 red33.1).getD .skip) := by refine ⟨?p, ?h⟩; case h => conv => lhs; reduce
def pc33L0 : PC := red33_0.1
def pc33 : PC := red33.1
def fn33 : PFn := ⟨35, [.cell 4 44], pc33, false⟩
theorem fnOk33 : FnOk Tryd.prog 33 fn33 := ⟨⟨_, _, [], Tryd.func33, rfl, by kernel_rfl, rfl, rfl, of_decide_eq_true (by kernel_rfl)⟩⟩

def red14 : Rd ((Tryd.f14.body.bind (compile [])).getD .skip) := by refine ⟨?p, ?h⟩; case h => conv => lhs; reduce
def red14_1 : Rd ((loopIn 1 red14.1).getD .skip) := by refine ⟨?p, ?h⟩; case h => conv => lhs; reduce
def pc14L1 : PC := red14_1.1
def pc14 : PC := red14.1
def fn14 : PFn := ⟨111, [.tmp 2], pc14, false⟩
theorem fnOk14 : FnOk Tryd.prog 14 fn14 := ⟨⟨_, _, [], Tryd.func14, rfl, by kernel_rfl, rfl, rfl, of_decide_eq_true (by kernel_rfl)⟩⟩

def red35 : Rd ((Tryd.f35.body.bind (compile [])).getD .skip) := by refine ⟨?p, ?h⟩; case h => conv => lhs; reduce
def pc35 : PC := red35.1
def fn35 : PFn := ⟨24, [.tmp 2], pc35, false⟩
theorem fnOk35 : FnOk Tryd.prog 35 fn35 := ⟨⟨_, _, [], Tryd.func35, rfl, by kernel_rfl, rfl, rfl, of_decide_eq_true (by kernel_rfl)⟩⟩

def red16 : Rd ((Tryd.f16.body.bind (compile [])).getD .skip) := by refine ⟨?p, ?h⟩; case h => conv => lhs; reduce
def red16_0 : Rd ((loopIn 0 red16.1).getD .skip) := by refine ⟨?p, ?h⟩; case h => conv => lhs; reduce
def pc16L0 : PC := red16_0.1
def pc16 : PC := red16.1
def fn16 : PFn := ⟨28, [.tmp 2], pc16, false⟩
theorem fnOk16 : FnOk Tryd.prog 16 fn16 := ⟨⟨_, _, [], Tryd.func16, rfl, by kernel_rfl, rfl, rfl, of_decide_eq_true (by kernel_rfl)⟩⟩

def red71 : Rd ((Tryd.f71.body.bind (compile [])).getD .skip) := by refine ⟨?p, ?h⟩; case h => conv => lhs; reduce
def red71_0 : Rd ((loopIn 0 red71.1).getD .skip) := by refine ⟨?p, ?h⟩; case h => conv => lhs; reduce
def pc71L0 : PC := red71_0.1
def pc71 : PC := red71.1
def fn71 : PFn := ⟨19, [.tmp 4], pc71, false⟩
theorem fnOk71 : FnOk Tryd.prog 71 fn71 := ⟨⟨_, _, [], Tryd.func71, rfl, by kernel_rfl, rfl, rfl, of_decide_eq_true (by kernel_rfl)⟩⟩

def red52 : Rd ((Tryd.f52.body.bind (compile [])).getD .skip) := by refine ⟨?p, ?h⟩; case h => conv => lhs; reduce
def pc52 : PC := red52.1
def fn52 : PFn := ⟨9, [.tmp 4], pc52, false⟩
theorem fnOk52 : FnOk Tryd.prog 52 fn52 := ⟨⟨_, _, [], Tryd.func52, rfl, by kernel_rfl, rfl, rfl, of_decide_eq_true (by kernel_rfl)⟩⟩

def red36 : Rd ((Tryd.f36.body.bind (compile [])).getD .skip) := by refine ⟨?p, ?h⟩; case h => conv => lhs; reduce
def pc36 : PC := red36.1
def fn36 : PFn := ⟨26, [.tmp 2], pc36, false⟩
theorem fnOk36 : FnOk Tryd.prog 36 fn36 := ⟨⟨_, _, [], Tryd.func36, rfl, by kernel_rfl, rfl, rfl, of_decide_eq_true (by kernel_rfl)⟩⟩

def red37 : Rd ((Tryd.f37.body.bind (compile [])).getD .skip) := by refine ⟨?p, ?h⟩; case h => conv => lhs; reduce
def red37_0 : Rd ((loopIn 0 red37.1).getD .skip) := by refine ⟨?p, ?h⟩; case h => conv => lhs; reduce
def pc37L0 : PC := red37_0.1
def pc37 : PC := red37.1
def fn37 : PFn := ⟨20, [.tmp 2], pc37, false⟩
theorem fnOk37 : FnOk Tryd.prog 37 fn37 := ⟨⟨_, _, [], Tryd.func37, rfl, by kernel_rfl, rfl, rfl, of_decide_eq_true (by kernel_rfl)⟩⟩

def red38 : Rd ((Tryd.f38.body.bind (compile [])).getD .skip) := by refine ⟨?p, ?h⟩; case h => conv => lhs; reduce
def red38_0 : Rd ((loopIn 0 red38.1).getD .skip) := by refine ⟨?p, ?h⟩; case h => conv => lhs; reduce
def pc38L0 : PC := red38_0.1
def pc38 : PC := red38.1
def fn38 : PFn := ⟨52, [.tmp 2, .tmp 3], pc38, false⟩
theorem fnOk38 : FnOk Tryd.prog 38 fn38 := ⟨⟨_, _, [], Tryd.func38, rfl, by kernel_rfl, rfl, rfl, of_decide_eq_true (by kernel_rfl)⟩⟩

def red17 : Rd ((Tryd.f17.body.bind (compile [])).getD .skip) := by refine ⟨?p, ?h⟩; case h => conv => lhs; reduce
def pc17 : PC := red17.1
def fn17 : PFn := ⟨20, [.tmp 2, .tmp 3], pc17, false⟩
theorem fnOk17 : FnOk Tryd.prog 17 fn17 := ⟨⟨_, _, [], Tryd.func17, rfl, by kernel_rfl, rfl, rfl, of_decide_eq_true (by kernel_rfl)⟩⟩

def red6 : Rd ((Tryd.f6.body.bind (compile [10, 1000033, 1000036])).getD .skip) := by refine ⟨?p, ?h⟩; case h => conv => lhs; reduce
def pc6 : PC := red6.1
def fn6 : PFn := ⟨44, [.tmp 2, .tmp 3], pc6, false⟩
theorem fnOk6 : FnOk Tryd.prog 6 fn6 := ⟨⟨_, _, [10, 1000033, 1000036], Tryd.func6, rfl, by kernel_rfl, rfl, rfl, of_decide_eq_true (by kernel_rfl)⟩⟩

def red72 : Rd ((Tryd.f72.body.bind (compile [])).getD .skip) := by refine ⟨?p, ?h⟩; case h => conv => lhs; reduce
def red72_4 : Rd ((loopIn 4 red72.1).getD .skip) := by refine ⟨?p, ?h⟩; case h => conv => lhs; reduce
def pc72L4 : PC := red72_4.1
def pc72 : PC := red72.1
def fn72 : PFn := ⟨59, [.tmp 2, .tmp 3, .tmp 4], pc72, false⟩
theorem fnOk72 : FnOk Tryd.prog 72 fn72 := ⟨⟨_, _, [], Tryd.func72, rfl, by kernel_rfl, rfl, rfl, of_decide_eq_true (by kernel_rfl)⟩⟩

def red54 : Rd ((Tryd.f54.body.bind (compile [])).getD .skip) := by refine ⟨?p, ?h⟩; case h => conv => lhs; reduce
def red54_0 : Rd ((loopIn 0 red54.1).getD .skip) := by refine ⟨?p, ?h⟩; case h => conv => lhs; reduce
def pc54L0 : PC := red54_0.1
def pc54 : PC := red54.1
def fn54 : PFn := ⟨121, [.cell 8 44, .tmp 9, .tmp 10], pc54, false⟩
theorem fnOk54 : FnOk Tryd.prog 54 fn54 := ⟨⟨_, _, [], Tryd.func54, rfl, by kernel_rfl, rfl, rfl, of_decide_eq_true (by kernel_rfl)⟩⟩

def red39 : Rd ((Tryd.f39.body.bind (compile [4])).getD .skip) := by refine ⟨?p, ?h⟩; case h => conv => lhs; reduce
def pc39 : PC := red39.1
def fn39 : PFn := ⟨31, [.cell 2 44, .tmp 3, .tmp 4, .tmp 5], pc39, false⟩
theorem fnOk39 : FnOk Tryd.prog 39 fn39 := ⟨⟨_, _, [4], Tryd.func39, rfl, by kernel_rfl, rfl, rfl, of_decide_eq_true (by kernel_rfl)⟩⟩

def red55 : Rd ((Tryd.f55.body.bind (compile [])).getD .skip) := by refine ⟨?p, ?h⟩; case h => conv => lhs; reduce
def pc55 : PC := red55.1
def fn55 : PFn := ⟨16, [.cell 4 44], pc55, false⟩
theorem fnOk55 : FnOk Tryd.prog 55 fn55 := ⟨⟨_, _, [], Tryd.func55, rfl, by kernel_rfl, rfl, rfl, of_decide_eq_true (by kernel_rfl)⟩⟩

def red73 : Rd ((Tryd.f73.body.bind (compile [])).getD .skip) := by refine ⟨?p, ?h⟩; case h => conv => lhs; reduce
def red73_4 : Rd ((loopIn 4 red73.1).getD .skip) := by refine ⟨?p, ?h⟩; case h => conv => lhs; reduce
def pc73L4 : PC := red73_4.1
def pc73 : PC := red73.1
def fn73 : PFn := ⟨38, [.tmp 2, .tmp 3], pc73, false⟩
theorem fnOk73 : FnOk Tryd.prog 73 fn73 := ⟨⟨_, _, [], Tryd.func73, rfl, by kernel_rfl, rfl, rfl, of_decide_eq_true (by kernel_rfl)⟩⟩

def red56 : Rd ((Tryd.f56.body.bind (compile [])).getD .skip) := by refine ⟨?p, ?h⟩; case h => conv => lhs; reduce
def pc56 : PC := red56.1
def fn56 : PFn := ⟨22, [.tmp 2], pc56, false⟩
theorem fnOk56 : FnOk Tryd.prog 56 fn56 := ⟨⟨_, _, [], Tryd.func56, rfl, by kernel_rfl, rfl, rfl, of_decide_eq_true (by kernel_rfl)⟩⟩

def red57 : Rd ((Tryd.f57.body.bind (compile [])).getD .skip) := by refine ⟨?p, ?h⟩; case h => conv => lhs; reduce
def red57_0 : Rd ((loopIn 0 red57.1).getD .skip) := by refine ⟨?p, ?h⟩; case h => conv => lhs; reduce
def pc57L0 : PC := red57_0.1
def red57_2 : Rd ((loopIn 2 red57.1).getD .skip) := by refine ⟨?p, ?h⟩; case h => conv => lhs; reduce
def pc57L2 : PC := red57_2.1
def pc57 : PC := red57.1
def fn57 : PFn := ⟨28, [.tmp 2, .tmp 3], pc57, false⟩
theorem fnOk57 : FnOk Tryd.prog 57 fn57 := ⟨⟨_, _, [], Tryd.func57, rfl, by kernel_rfl, rfl, rfl, of_decide_eq_true (by kernel_rfl)⟩⟩

def red58 : Rd ((Tryd.f58.body.bind (compile [])).getD .skip) := by refine ⟨?p, ?h⟩; case h => conv => lhs; reduce
def red58_0 : Rd ((loopIn 0 red58.1).getD .skip) := by refine ⟨?p, ?h⟩; case h => conv => lhs; reduce
def pc58L0 : PC := red58_0.1
def pc58 : PC := red58.1
def fn58 : PFn := ⟨20, [.tmp 2], pc58, false⟩
theorem fnOk58 : FnOk Tryd.prog 58 fn58 := ⟨⟨_, _, [], Tryd.func58, rfl, by kernel_rfl, rfl, rfl, of_decide_eq_true (by kernel_rfl)⟩⟩

def red74 : Rd ((Tryd.f74.body.bind (compile [1000007, 1000020, 1000043])).getD .skip) := by refine ⟨?p, ?h⟩; case h => conv => lhs; reduce
def red74_0 : Rd ((loopIn 0 red74.1).getD .skip) := by refine ⟨?p, ?h⟩; case h => conv => lhs; reduce
def pc74L0 : PC := red74_0.1
def pc74 : PC := red74.1
def fn74 : PFn := ⟨44, [.tmp 2], pc74, false⟩
theorem fnOk74 : FnOk Tryd.prog 74 fn74 := ⟨⟨_, _, [1000007, 1000020, 1000043], Tryd.func74, rfl, by kernel_rfl, rfl, rfl, of_decide_eq_true (by kernel_rfl)⟩⟩

def red59 : Rd ((Tryd.f59.body.bind (compile [9])).getD .skip) := by refine ⟨?p, ?h⟩; case h => conv => lhs; reduce
def red59_1 : Rd ((loopIn 1 red59.1).getD .skip) := by refine ⟨?p, ?h⟩; case h => conv => lhs; reduce
def pc59L1 : PC := red59_1.1
def pc59 : PC := red59.1
def fn59 : PFn := ⟨78, [.cell 4 28], pc59, false⟩
theorem fnOk59 : FnOk Tryd.prog 59 fn59 := ⟨⟨_, _, [9], Tryd.func59, rfl, by kernel_rfl, rfl, rfl, of_decide_eq_true (by kernel_rfl)⟩⟩

def red60 : Rd ((Tryd.f60.body.bind (compile [])).getD .skip) := by refine ⟨?p, ?h⟩; case h => conv => lhs; reduce
def red60_0 : Rd ((loopIn 0 red60.1).getD .skip) := by refine ⟨?p, ?h⟩; case h => conv => lhs; reduce
def pc60L0 : PC := red60_0.1
def pc60 : PC := red60.1
def fn60 : PFn := ⟨39, [.tmp 4], pc60, false⟩
theorem fnOk60 : FnOk Tryd.prog 60 fn60 := ⟨⟨_, _, [], Tryd.func60, rfl, by kernel_rfl, rfl, rfl, of_decide_eq_true (by kernel_rfl)⟩⟩

def red61 : Rd ((Tryd.f61.body.bind (compile [])).getD .skip) := by refine ⟨?p, ?h⟩; case h => conv => lhs; reduce
def pc61 : PC := red61.1
def fn61 : PFn := ⟨15, [.tmp 2, .tmp 3], pc61, false⟩
theorem fnOk61 : FnOk Tryd.prog 61 fn61 := ⟨⟨_, _, [], Tryd.func61, rfl, by kernel_rfl, rfl, rfl, of_decide_eq_true (by kernel_rfl)⟩⟩

def red40 : Rd ((Tryd.f40.body.bind (compile [6, 17, 21, 23])).getD .skip) := by refine ⟨?p, ?h⟩; case h => conv => lhs; reduce
def pc40 : PC := red40.1
def fn40 : PFn := ⟨131, [.cell 2 31], pc40, false⟩
theorem fnOk40 : FnOk Tryd.prog 40 fn40 := ⟨⟨_, _, [6, 17, 21, 23], Tryd.func40, rfl, by kernel_rfl, rfl, rfl, of_decide_eq_true (by kernel_rfl)⟩⟩

def red18 : Rd ((Tryd.f18.body.bind (compile [])).getD .skip) := by refine ⟨?p, ?h⟩; case h => conv => lhs; reduce
def pc18 : PC := red18.1
def fn18 : PFn := ⟨53, [.cell 2 31, .tmp 3], pc18, false⟩
theorem fnOk18 : FnOk Tryd.prog 18 fn18 := ⟨⟨_, _, [], Tryd.func18, rfl, by kernel_rfl, rfl, rfl, of_decide_eq_true (by kernel_rfl)⟩⟩

def red44 : Rd ((Tryd.f44.body.bind (compile [])).getD .skip) := by refine ⟨?p, ?h⟩; case h => conv => lhs; reduce
def red44_3 : Rd ((loopIn 3 red44.1).getD .skip) := by refine ⟨?p, ?h⟩; case h => conv => lhs; reduce
def pc44L3 : PC := red44_3.1
def red44_0 : Rd ((loopIn 0 red44.1).getD .skip) := by refine ⟨?p, ?h⟩; case h => conv => lhs; reduce
def pc44L0 : PC := red44_0.1
def pc44 : PC := red44.1
def fn44 : PFn := ⟨62, [.tmp 8], pc44, false⟩
theorem fnOk44 : FnOk Tryd.prog 44 fn44 := ⟨⟨_, _, [], Tryd.func44, rfl, by kernel_rfl, rfl, rfl, of_decide_eq_true (by kernel_rfl)⟩⟩

def red19 : Rd ((Tryd.f19.body.bind (compile [])).getD .skip) := by refine ⟨?p, ?h⟩; case h => conv => lhs; reduce
def pc19 : PC := red19.1
def fn19 : PFn := ⟨42, [.tmp 4], pc19, false⟩
theorem fnOk19 : FnOk Tryd.prog 19 fn19 := ⟨⟨_, _, [], Tryd.func19, rfl, by kernel_rfl, rfl, rfl, of_decide_eq_true (by kernel_rfl)⟩⟩

def red7 : Rd ((Tryd.f7.body.bind (compile [4])).getD .skip) := by refine ⟨?p, ?h⟩; case h => conv => lhs; reduce
def pc7 : PC := red7.1
def fn7 : PFn := ⟨18, [.cell 2 31, .tmp 3], pc7, false⟩
theorem fnOk7 : FnOk Tryd.prog 7 fn7 := ⟨⟨_, _, [4], Tryd.func7, rfl, by kernel_rfl, rfl, rfl, of_decide_eq_true (by kernel_rfl)⟩⟩

def red20 : Rd ((Tryd.f20.body.bind (compile [])).getD .skip) := by refine ⟨?p, ?h⟩; case h => conv => lhs; reduce
def red20_0 : Rd ((loopIn 0 red20.1).getD .skip) := by refine ⟨?p, ?h⟩; case h => conv => lhs; reduce
def pc20L0 : PC := red20_0.1
def red20_2 : Rd ((loopIn 2 red20.1).getD .skip) := by refine ⟨?p, ?h⟩; case h => conv => lhs; reduce
def pc20L2 : PC := red20_2.1
def pc20 : PC := red20.1
def fn20 : PFn := ⟨81, [.tmp 4], pc20, false⟩
theorem fnOk20 : FnOk Tryd.prog 20 fn20 := ⟨⟨_, _, [], Tryd.func20, rfl, by kernel_rfl, rfl, rfl, of_decide_eq_true (by kernel_rfl)⟩⟩

def red21 : Rd ((Tryd.f21.body.bind (compile [])).getD .skip) := by refine ⟨?p, ?h⟩; case h => conv => lhs; reduce
def red21_0 : Rd ((loopIn 0 red21.1).getD .skip) := by refine ⟨?p, ?h⟩; case h => conv => lhs; reduce
def pc21L0 : PC := red21_0.1
def pc21 : PC := red21.1
def fn21 : PFn := ⟨26, [.tmp 4], pc21, false⟩
theorem fnOk21 : FnOk Tryd.prog 21 fn21 := ⟨⟨_, _, [], Tryd.func21, rfl, by kernel_rfl, rfl, rfl, of_decide_eq_true (by kernel_rfl)⟩⟩

def red22 : Rd ((Tryd.f22.body.bind (compile [])).getD .skip) := by refine ⟨?p, ?h⟩; case h => conv => lhs; reduce
def red22_0 : Rd ((loopIn 0 red22.1).getD .skip) := by refine ⟨?p, ?h⟩; case h => conv => lhs; reduce
def pc22L0 : PC := red22_0.1
def pc22 : PC := red22.1
def fn22 : PFn := ⟨55, [.tmp 4], pc22, false⟩
theorem fnOk22 : FnOk Tryd.prog 22 fn22 := ⟨⟨_, _, [], Tryd.func22, rfl, by kernel_rfl, rfl, rfl, of_decide_eq_true (by kernel_rfl)⟩⟩

def red8 : Rd ((Tryd.f8.body.bind (compile [])).getD .skip) := by refine ⟨?p, ?h⟩; case h => conv => lhs; reduce
def pc8 : PC := red8.1
def fn8 : PFn := ⟨136, [.tmp 4], pc8, false⟩
theorem fnOk8 : FnOk Tryd.prog 8 fn8 := ⟨⟨_, _, [], Tryd.func8, rfl, by kernel_rfl, rfl, rfl, of_decide_eq_true (by kernel_rfl)⟩⟩

def red5 : Rd ((Tryd.f5.body.bind (compile [])).getD .skip) := by refine ⟨?p, ?h⟩; case h => conv => lhs; reduce
def pc5 : PC := red5.1
def fn5 : PFn := ⟨72, [.tmp 0], pc5, false⟩
theorem fnOk5 : FnOk Tryd.prog 5 fn5 := ⟨⟨_, _, [], Tryd.func5, rfl, by kernel_rfl, rfl, rfl, of_decide_eq_true (by kernel_rfl)⟩⟩

def red3 : Rd ((Tryd.f3.body.bind (compile [])).getD .skip) := by refine ⟨?p, ?h⟩; case h => conv => lhs; reduce
def pc3 : PC := red3.1
def fn3 : PFn := ⟨84, [.tmp 10], pc3, false⟩
theorem fnOk3 : FnOk Tryd.prog 3 fn3 := ⟨⟨_, _, [], Tryd.func3, rfl, by kernel_rfl, rfl, rfl, of_decide_eq_true (by kernel_rfl)⟩⟩

def red4 : Rd ((Tryd.f4.body.bind (compile [])).getD .skip) := by refine ⟨?p, ?h⟩; case h => conv => lhs; reduce
def red4_0 : Rd ((loopIn 0 red4.1).getD .skip) := by refine ⟨?p, ?h⟩; case h => conv => lhs; reduce
def pc4L0 : PC := red4_0.1
def pc4 : PC := red4.1
def fn4 : PFn := ⟨93, [.tmp 10], pc4, false⟩
theorem fnOk4 : FnOk Tryd.prog 4 fn4 := ⟨⟨_, _, [], Tryd.func4, rfl, by kernel_rfl, rfl, rfl, of_decide_eq_true (by kernel_rfl)⟩⟩

def red46 : Rd ((Tryd.f46.body.bind (compile [])).getD .skip) := by refine ⟨?p, ?h⟩; case h => conv => lhs; reduce
def pc46 : PC := red46.1
def fn46 : PFn := ⟨6, [.tmp 2], pc46, false⟩
theorem fnOk46 : FnOk Tryd.prog 46 fn46 := ⟨⟨_, _, [], Tryd.func46, rfl, by kernel_rfl, rfl, rfl, of_decide_eq_true (by kernel_rfl)⟩⟩

def red53 : Rd ((Tryd.f53.body.bind (compile [])).getD .skip) := by refine ⟨?p, ?h⟩; case h => conv => lhs; reduce
def pc53 : PC := red53.1
def fn53 : PFn := ⟨6, [.tmp 2], pc53, false⟩
theorem fnOk53 : FnOk Tryd.prog 53 fn53 := ⟨⟨_, _, [], Tryd.func53, rfl, by kernel_rfl, rfl, rfl, of_decide_eq_true (by kernel_rfl)⟩⟩

def red68 : Rd ((Tryd.f68.body.bind (compile [])).getD .skip) := by refine ⟨?p, ?h⟩; case h => conv => lhs; reduce
def pc68 : PC := red68.1
def fn68 : PFn := ⟨6, [.tmp 2], pc68, false⟩
theorem fnOk68 : FnOk Tryd.prog 68 fn68 := ⟨⟨_, _, [], Tryd.func68, rfl, by kernel_rfl, rfl, rfl, of_decide_eq_true (by kernel_rfl)⟩⟩

def fnOf : FuncId → Option PFn
 | 28 => some fn28
 | 49 => some fn49
 | 27 => some fn27
 | 29 => some fn29
 | 30 => some fn30
 | 10 => some fn10
 | 11 => some fn11
 | 23 => some fn23
 | 65 => some fn65
 | 45 => some fn45
 | 24 => some fn24
 | 66 => some fn66
 | 47 => some fn47
 | 75 => some fn75
 | 67 => some fn67
 | 69 => some fn69
 | 76 => some fn76
 | 70 => some fn70
 | 48 => some fn48
 | 25 => some fn25
 | 26 => some fn26
 | 9 => some fn9
 | 12 => some fn12
 | 13 => some fn13
 | 34 => some fn34
 | 15 => some fn15
 | 50 => some fn50
 | 31 => some fn31
 | 32 => some fn32
 | 51 => some fn51
 | 33 => some fn33
 | 14 => some fn14
 | 35 => some fn35
 | 16 => some fn16
 | 71 => some fn71
 | 52 => some fn52
 | 36 => some fn36
 | 37 => some fn37
 | 38 => some fn38
 | 17 => some fn17
 | 6 => some fn6
 | 72 => some fn72
 | 54 => some fn54
 | 39 => some fn39
 | 55 => some fn55
 | 73 => some fn73
 | 56 => some fn56
 | 57 => some fn57
 | 58 => some fn58
 | 74 => some fn74
 | 59 => some fn59
 | 60 => some fn60
 | 61 => some fn61
 | 40 => some fn40
 | 18 => some fn18
 | 44 => some fn44
 | 19 => some fn19
 | 7 => some fn7
 | 20 => some fn20
 | 21 => some fn21
 | 22 => some fn22
 | 8 => some fn8
 | 5 => some fn5
 | 3 => some fn3
 | 4 => some fn4
 | 46 => some fn46
 | 53 => some fn53
 | 68 => some fn68
 | _ => none
theorem fnOf_ok : ∀ f pf, fnOf f = some pf → FnOk Tryd.prog f pf := by
 intro f pf h
 unfold fnOf at h
 split at h <;> first | (injection h with h; subst h; first | exact fnOk28 | exact fnOk49 | exact fnOk27 | exact fnOk29 | exact fnOk30 | exact fnOk10 | exact fnOk11 | exact fnOk23 | exact fnOk65 | exact fnOk45 | exact fnOk24 | exact fnOk66 | exact fnOk47 | exact fnOk75 | exact fnOk67 | exact fnOk69 | exact fnOk76 | exact fnOk70 | exact fnOk48 | exact fnOk25 | exact fnOk26 | exact fnOk9 | exact fnOk12 | exact fnOk13 | exact fnOk34 | exact fnOk15 | exact fnOk50 | exact fnOk31 | exact fnOk32 | exact fnOk51 | exact fnOk33 | exact fnOk14 | exact fnOk35 | exact fnOk16 | exact fnOk71 | exact fnOk52 | exact fnOk36 | exact fnOk37 | exact fnOk38 | exact fnOk17 | exact fnOk6 | exact fnOk72 | exact fnOk54 | exact fnOk39 | exact fnOk55 | exact fnOk73 | exact fnOk56 | exact fnOk57 | exact fnOk58 | exact fnOk74 | exact fnOk59 | exact fnOk60 | exact fnOk61 | exact fnOk40 | exact fnOk18 | exact fnOk44 | exact fnOk19 | exact fnOk7 | exact fnOk20 | exact fnOk21 | exact fnOk22 | exact fnOk8 | exact fnOk5 | exact fnOk3 | exact fnOk4 | exact fnOk46 | exact fnOk53 | exact fnOk68) | cases h
end Go.Proofs.YtbinlabnilidiaaDoor.M

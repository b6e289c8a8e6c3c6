/- The functions, compiled for the abstract machine (made by a program of mine, gen.py). -/
import Derived.Test.YtbinlabnilidiaaGreatDoorTy
namespace Go.Proofs.YtbinlabnilidiaaGreatDoor.M
set_option linter.unusedVariables false
set_option linter.unusedSimpArgs false
open Go Go.Pam

set_option maxRecDepth 100000
abbrev Rd (x : PC) := { p : PC // x = p }
def loopIn (i : Nat) : PC → Option PC
 | .seq a b => match loopIn i a with
  | some x => some x
  | none => loopIn i b
 | .cond _ a b => match loopIn i a with
  | some x => some x
  | none => loopIn i b
 | .block j (.loop c) => if i = j then some c else loopIn i c
 | .block _ c => loopIn i c
 | .loop c => loopIn i c
 | _ => none

def red39 : Rd ((Tryz.f39.body.bind (compile [])).getD .skip) := by refine ⟨?p, ?h⟩; case h => conv => lhs; reduce
def red39_0 : Rd ((loopIn 0 red39.1).getD .skip) := by refine ⟨?p, ?h⟩; case h => conv => lhs; reduce
def pc39L0 : PC := red39_0.1
def pc39 : PC := red39.1
def fn39 : PFn := ⟨26, [.tmp 4], pc39, false⟩
theorem fnOk39 : FnOk Tryz.prog 39 fn39 := ⟨⟨_, _, [], Tryz.func39, rfl, by kernel_rfl, rfl, rfl, of_decide_eq_true (by kernel_rfl)⟩⟩

def red71 : Rd ((Tryz.f71.body.bind (compile [])).getD .skip) := by refine ⟨?p, ?h⟩; case h => conv => lhs; reduce
def red71_0 : Rd ((loopIn 0 red71.1).getD .skip) := by refine ⟨?p, ?h⟩; case h => conv => lhs; reduce
def pc71L0 : PC := red71_0.1
def pc71 : PC := red71.1
def fn71 : PFn := ⟨32, [.tmp 6], pc71, false⟩
theorem fnOk71 : FnOk Tryz.prog 71 fn71 := ⟨⟨_, _, [], Tryz.func71, rfl, by kernel_rfl, rfl, rfl, of_decide_eq_true (by kernel_rfl)⟩⟩

def red38 : Rd ((Tryz.f38.body.bind (compile [])).getD .skip) := by refine ⟨?p, ?h⟩; case h => conv => lhs; reduce
def pc38 : PC := red38.1
def fn38 : PFn := ⟨38, [.tmp 4], pc38, false⟩
theorem fnOk38 : FnOk Tryz.prog 38 fn38 := ⟨⟨_, _, [], Tryz.func38, rfl, by kernel_rfl, rfl, rfl, of_decide_eq_true (by kernel_rfl)⟩⟩

def red40 : Rd ((Tryz.f40.body.bind (compile [])).getD .skip) := by refine ⟨?p, ?h⟩; case h => conv => lhs; reduce
def red40_0 : Rd ((loopIn 0 red40.1).getD .skip) := by refine ⟨?p, ?h⟩; case h => conv => lhs; reduce
def pc40L0 : PC := red40_0.1
def pc40 : PC := red40.1
def fn40 : PFn := ⟨32, [.tmp 6], pc40, false⟩
theorem fnOk40 : FnOk Tryz.prog 40 fn40 := ⟨⟨_, _, [], Tryz.func40, rfl, by kernel_rfl, rfl, rfl, of_decide_eq_true (by kernel_rfl)⟩⟩

def red41 : Rd ((Tryz.f41.body.bind (compile [])).getD .skip) := by refine ⟨?p, ?h⟩; case h => conv => lhs; reduce
def pc41 : PC := red41.1
def fn41 : PFn := ⟨24, [.tmp 4], pc41, false⟩
theorem fnOk41 : FnOk Tryz.prog 41 fn41 := ⟨⟨_, _, [], Tryz.func41, rfl, by kernel_rfl, rfl, rfl, of_decide_eq_true (by kernel_rfl)⟩⟩

def red13 : Rd ((Tryz.f13.body.bind (compile [])).getD .skip) := by refine ⟨?p, ?h⟩; case h => conv => lhs; reduce
def pc13 : PC := red13.1
def fn13 : PFn := ⟨142, [.tmp 4], pc13, false⟩
theorem fnOk13 : FnOk Tryz.prog 13 fn13 := ⟨⟨_, _, [], Tryz.func13, rfl, by kernel_rfl, rfl, rfl, of_decide_eq_true (by kernel_rfl)⟩⟩

def red18 : Rd ((Tryz.f18.body.bind (compile [])).getD .skip) := by refine ⟨?p, ?h⟩; case h => conv => lhs; reduce
def pc18 : PC := red18.1
def fn18 : PFn := ⟨19, [.tmp 4], pc18, false⟩
theorem fnOk18 : FnOk Tryz.prog 18 fn18 := ⟨⟨_, _, [], Tryz.func18, rfl, by kernel_rfl, rfl, rfl, of_decide_eq_true (by kernel_rfl)⟩⟩

def red30 : Rd ((Tryz.f30.body.bind (compile [12, 13, 16, 19, 20])).getD .skip) := by refine ⟨?p, ?h⟩; case h => conv => lhs; reduce
def pc30 : PC := red30.1
def fn30 : PFn := ⟨93, [.cell 2 28], pc30, false⟩
theorem fnOk30 : FnOk Tryz.prog 30 fn30 := ⟨⟨_, _, [12, 13, 16, 19, 20], Tryz.func30, rfl, by kernel_rfl, rfl, rfl, of_decide_eq_true (by kernel_rfl)⟩⟩

def red85 : Rd ((Tryz.f85.body.bind (compile [])).getD .skip) := by refine ⟨?p, ?h⟩; case h => conv => lhs; reduce
def red85_0 : Rd ((loopIn 0 red85.1).getD .skip) := by refine ⟨?p, ?h⟩; case h => conv => lhs; reduce
def pc85L0 : PC := red85_0.1
def pc85 : PC := red85.1
def fn85 : PFn := ⟨19, [.tmp 4], pc85, false⟩
theorem fnOk85 : FnOk Tryz.prog 85 fn85 := ⟨⟨_, _, [], Tryz.func85, rfl, by kernel_rfl, rfl, rfl, of_decide_eq_true (by kernel_rfl)⟩⟩

def red65 : Rd ((Tryz.f65.body.bind (compile [])).getD .skip) := by refine ⟨?p, ?h⟩; case h => conv => lhs; reduce
def pc65 : PC := red65.1
def fn65 : PFn := ⟨9, [.tmp 4], pc65, false⟩
theorem fnOk65 : FnOk Tryz.prog 65 fn65 := ⟨⟨_, _, [], Tryz.func65, rfl, by kernel_rfl, rfl, rfl, of_decide_eq_true (by kernel_rfl)⟩⟩

def red31 : Rd ((Tryz.f31.body.bind (compile [])).getD .skip) := by refine ⟨?p, ?h⟩; case h => conv => lhs; reduce
def pc31 : PC := red31.1
def fn31 : PFn := ⟨6, [.tmp 2], pc31, false⟩
theorem fnOk31 : FnOk Tryz.prog 31 fn31 := ⟨⟨_, _, [], Tryz.func31, rfl, by kernel_rfl, rfl, rfl, of_decide_eq_true (by kernel_rfl)⟩⟩

def red86 : Rd ((Tryz.f86.body.bind (compile [])).getD .skip) := by refine ⟨?p, ?h⟩; case h => conv => lhs; reduce
def pc86 : PC := red86.1
def fn86 : PFn := ⟨9, [.tmp 2], pc86, false⟩
theorem fnOk86 : FnOk Tryz.prog 86 fn86 := ⟨⟨_, _, [], Tryz.func86, rfl, by kernel_rfl, rfl, rfl, of_decide_eq_true (by kernel_rfl)⟩⟩

def red67 : Rd ((Tryz.f67.body.bind (compile [])).getD .skip) := by refine ⟨?p, ?h⟩; case h => conv => lhs; reduce
def red67_0 : Rd ((loopIn 0 red67.1).getD .skip) := by refine ⟨?p, ?h⟩; case h => conv => lhs; reduce
def pc67L0 : PC := red67_0.1
def pc67 : PC := red67.1
def fn67 : PFn := ⟨31, [.tmp 2], pc67, false⟩
theorem fnOk67 : FnOk Tryz.prog 67 fn67 := ⟨⟨_, _, [], Tryz.func67, rfl, by kernel_rfl, rfl, rfl, of_decide_eq_true (by kernel_rfl)⟩⟩

def red106 : Rd ((Tryz.f106.body.bind (compile [])).getD .skip) := by refine ⟨?p, ?h⟩; case h => conv => lhs; reduce
def red106_0 : Rd ((loopIn 0 red106.1).getD .skip) := by refine ⟨?p, ?h⟩; case h => conv => lhs; reduce
def pc106L0 : PC := red106_0.1
def pc106 : PC := red106.1
def fn106 : PFn := ⟨19, [.tmp 4], pc106, false⟩
theorem fnOk106 : FnOk Tryz.prog 106 fn106 := ⟨⟨_, _, [], Tryz.func106, rfl, by kernel_rfl, rfl, rfl, of_decide_eq_true (by kernel_rfl)⟩⟩

def red87 : Rd ((Tryz.f87.body.bind (compile [])).getD .skip) := by refine ⟨?p, ?h⟩; case h => conv => lhs; reduce
def pc87 : PC := red87.1
def fn87 : PFn := ⟨9, [.tmp 4], pc87, false⟩
theorem fnOk87 : FnOk Tryz.prog 87 fn87 := ⟨⟨_, _, [], Tryz.func87, rfl, by kernel_rfl, rfl, rfl, of_decide_eq_true (by kernel_rfl)⟩⟩

def red89 : Rd ((Tryz.f89.body.bind (compile [])).getD .skip) := by refine ⟨?p, ?h⟩; case h => conv => lhs; reduce
def red89_0 : Rd ((loopIn 0 red89.1).getD .skip) := by refine ⟨?p, ?h⟩; case h => conv => lhs; reduce
def pc89L0 : PC := red89_0.1
def pc89 : PC := red89.1
def fn89 : PFn := ⟨46, [.tmp 2], pc89, false⟩
theorem fnOk89 : FnOk Tryz.prog 89 fn89 := ⟨⟨_, _, [], Tryz.func89, rfl, by kernel_rfl, rfl, rfl, of_decide_eq_true (by kernel_rfl)⟩⟩

def red107 : Rd ((Tryz.f107.body.bind (compile [])).getD .skip) := by refine ⟨?p, ?h⟩; case h => conv => lhs; reduce
def red107_1 : Rd ((loopIn 1 red107.1).getD .skip) := by refine ⟨?p, ?h⟩; case h => conv => lhs; reduce
def pc107L1 : PC := red107_1.1
def red107_3 : Rd ((loopIn 3 red107.1).getD .skip) := by refine ⟨?p, ?h⟩; case h => conv => lhs; reduce
def pc107L3 : PC := red107_3.1
def pc107 : PC := red107.1
def fn107 : PFn := ⟨75, [.tmp 4], pc107, false⟩
theorem fnOk107 : FnOk Tryz.prog 107 fn107 := ⟨⟨_, _, [], Tryz.func107, rfl, by kernel_rfl, rfl, rfl, of_decide_eq_true (by kernel_rfl)⟩⟩

def red90 : Rd ((Tryz.f90.body.bind (compile [])).getD .skip) := by refine ⟨?p, ?h⟩; case h => conv => lhs; reduce
def red90_0 : Rd ((loopIn 0 red90.1).getD .skip) := by refine ⟨?p, ?h⟩; case h => conv => lhs; reduce
def pc90L0 : PC := red90_0.1
def pc90 : PC := red90.1
def fn90 : PFn := ⟨44, [.tmp 2], pc90, false⟩
theorem fnOk90 : FnOk Tryz.prog 90 fn90 := ⟨⟨_, _, [], Tryz.func90, rfl, by kernel_rfl, rfl, rfl, of_decide_eq_true (by kernel_rfl)⟩⟩

def red68 : Rd ((Tryz.f68.body.bind (compile [])).getD .skip) := by refine ⟨?p, ?h⟩; case h => conv => lhs; reduce
def pc68 : PC := red68.1
def fn68 : PFn := ⟨102, [.tmp 2], pc68, false⟩
theorem fnOk68 : FnOk Tryz.prog 68 fn68 := ⟨⟨_, _, [], Tryz.func68, rfl, by kernel_rfl, rfl, rfl, of_decide_eq_true (by kernel_rfl)⟩⟩

def red32 : Rd ((Tryz.f32.body.bind (compile [])).getD .skip) := by refine ⟨?p, ?h⟩; case h => conv => lhs; reduce
def pc32 : PC := red32.1
def fn32 : PFn := ⟨10, [.tmp 2], pc32, false⟩
theorem fnOk32 : FnOk Tryz.prog 32 fn32 := ⟨⟨_, _, [], Tryz.func32, rfl, by kernel_rfl, rfl, rfl, of_decide_eq_true (by kernel_rfl)⟩⟩

def red33 : Rd ((Tryz.f33.body.bind (compile [])).getD .skip) := by refine ⟨?p, ?h⟩; case h => conv => lhs; reduce
def red33_0 : Rd ((loopIn 0 red33.1).getD .skip) := by refine ⟨?p, ?h⟩; case h => conv => lhs; reduce
def pc33L0 : PC := red33_0.1
def pc33 : PC := red33.1
def fn33 : PFn := ⟨45, [.tmp 4], pc33, false⟩
theorem fnOk33 : FnOk Tryz.prog 33 fn33 := ⟨⟨_, _, [], Tryz.func33, rfl, by kernel_rfl, rfl, rfl, of_decide_eq_true (by kernel_rfl)⟩⟩

def red11 : Rd ((Tryz.f11.body.bind (compile [])).getD .skip) := by refine ⟨?p, ?h⟩; case h => conv => lhs; reduce
def pc11 : PC := red11.1
def fn11 : PFn := ⟨120, [.tmp 2], pc11, false⟩
theorem fnOk11 : FnOk Tryz.prog 11 fn11 := ⟨⟨_, _, [], Tryz.func11, rfl, by kernel_rfl, rfl, rfl, of_decide_eq_true (by kernel_rfl)⟩⟩

def red19 : Rd ((Tryz.f19.body.bind (compile [])).getD .skip) := by refine ⟨?p, ?h⟩; case h => conv => lhs; reduce
def pc19 : PC := red19.1
def fn19 : PFn := ⟨8, [.cell 4 50], pc19, false⟩
theorem fnOk19 : FnOk Tryz.prog 19 fn19 := ⟨⟨_, _, [], Tryz.func19, rfl, by kernel_rfl, rfl, rfl, of_decide_eq_true (by kernel_rfl)⟩⟩

def red20 : Rd ((Tryz.f20.body.bind (compile [])).getD .skip) := by refine ⟨?p, ?h⟩; case h => conv => lhs; reduce
def pc20 : PC := red20.1
def fn20 : PFn := ⟨8, [.cell 4 50], pc20, false⟩
theorem fnOk20 : FnOk Tryz.prog 20 fn20 := ⟨⟨_, _, [], Tryz.func20, rfl, by kernel_rfl, rfl, rfl, of_decide_eq_true (by kernel_rfl)⟩⟩

def red51 : Rd ((Tryz.f51.body.bind (compile [])).getD .skip) := by refine ⟨?p, ?h⟩; case h => conv => lhs; reduce
def red51_0 : Rd ((loopIn 0 red51.1).getD .skip) := by refine ⟨?p, ?h⟩; case h => conv => lhs; reduce
def pc51L0 : PC := red51_0.1
def pc51 : PC := red51.1
def fn51 : PFn := ⟨28, [.tmp 2], pc51, false⟩
theorem fnOk51 : FnOk Tryz.prog 51 fn51 := ⟨⟨_, _, [], Tryz.func51, rfl, by kernel_rfl, rfl, rfl, of_decide_eq_true (by kernel_rfl)⟩⟩

def red22 : Rd ((Tryz.f22.body.bind (compile [])).getD .skip) := by refine ⟨?p, ?h⟩; case h => conv => lhs; reduce
def pc22 : PC := red22.1
def fn22 : PFn := ⟨9, [.cell 4 50], pc22, false⟩
theorem fnOk22 : FnOk Tryz.prog 22 fn22 := ⟨⟨_, _, [], Tryz.func22, rfl, by kernel_rfl, rfl, rfl, of_decide_eq_true (by kernel_rfl)⟩⟩

def red79 : Rd ((Tryz.f79.body.bind (compile [])).getD .skip) := by refine ⟨?p, ?h⟩; case h => conv => lhs; reduce
def pc79 : PC := red79.1
def fn79 : PFn := ⟨6, [.tmp 2], pc79, false⟩
theorem fnOk79 : FnOk Tryz.prog 79 fn79 := ⟨⟨_, _, [], Tryz.func79, rfl, by kernel_rfl, rfl, rfl, of_decide_eq_true (by kernel_rfl)⟩⟩

def red48 : Rd ((Tryz.f48.body.bind (compile [])).getD .skip) := by refine ⟨?p, ?h⟩; case h => conv => lhs; reduce
def pc48 : PC := red48.1
def fn48 : PFn := ⟨6, [.cell 2 50], pc48, false⟩
theorem fnOk48 : FnOk Tryz.prog 48 fn48 := ⟨⟨_, _, [], Tryz.func48, rfl, by kernel_rfl, rfl, rfl, of_decide_eq_true (by kernel_rfl)⟩⟩

def red49 : Rd ((Tryz.f49.body.bind (compile [])).getD .skip) := by refine ⟨?p, ?h⟩; case h => conv => lhs; reduce
def red49_1 : Rd ((loopIn 1 red49.1).getD .skip) := by refine ⟨?p, ?h⟩; case h => conv => lhs; reduce
def pc49L1 : PC := red49_1.1
def red49_3 : Rd ((loopIn 3 red49.1).getD .skip) := by refine ⟨?p, ?h⟩; case h => conv => lhs; reduce
def pc49L3 : PC := red49_3.1
def pc49 : PC := red49.1
def fn49 : PFn := ⟨87, [.cell 2 50], pc49, false⟩
theorem fnOk49 : FnOk Tryz.prog 49 fn49 := ⟨⟨_, _, [], Tryz.func49, rfl, by kernel_rfl, rfl, rfl, of_decide_eq_true (by kernel_rfl)⟩⟩

def red80 : Rd ((Tryz.f80.body.bind (compile [])).getD .skip) := by refine ⟨?p, ?h⟩; case h => conv => lhs; reduce
def red80_0 : Rd ((loopIn 0 red80.1).getD .skip) := by refine ⟨?p, ?h⟩; case h => conv => lhs; reduce
def pc80L0 : PC := red80_0.1
def pc80 : PC := red80.1
def fn80 : PFn := ⟨26, [.cell 4 50], pc80, false⟩
theorem fnOk80 : FnOk Tryz.prog 80 fn80 := ⟨⟨_, _, [], Tryz.func80, rfl, by kernel_rfl, rfl, rfl, of_decide_eq_true (by kernel_rfl)⟩⟩

def red50 : Rd ((Tryz.f50.body.bind (compile [])).getD .skip) := by refine ⟨?p, ?h⟩; case h => conv => lhs; reduce
def red50_0 : Rd ((loopIn 0 red50.1).getD .skip) := by refine ⟨?p, ?h⟩; case h => conv => lhs; reduce
def pc50L0 : PC := red50_0.1
def pc50 : PC := red50.1
def fn50 : PFn := ⟨35, [.cell 4 50], pc50, false⟩
theorem fnOk50 : FnOk Tryz.prog 50 fn50 := ⟨⟨_, _, [], Tryz.func50, rfl, by kernel_rfl, rfl, rfl, of_decide_eq_true (by kernel_rfl)⟩⟩

def red21 : Rd ((Tryz.f21.body.bind (compile [])).getD .skip) := by refine ⟨?p, ?h⟩; case h => conv => lhs; reduce
def red21_1 : Rd ((loopIn 1 red21.1).getD .skip) := by refine ⟨?p, ?h⟩; case h => conv => lhs; reduce
def pc21L1 : PC := red21_1.1
def pc21 : PC := red21.1
def fn21 : PFn := ⟨111, [.tmp 2], pc21, false⟩
theorem fnOk21 : FnOk Tryz.prog 21 fn21 := ⟨⟨_, _, [], Tryz.func21, rfl, by kernel_rfl, rfl, rfl, of_decide_eq_true (by kernel_rfl)⟩⟩

def red52 : Rd ((Tryz.f52.body.bind (compile [])).getD .skip) := by refine ⟨?p, ?h⟩; case h => conv => lhs; reduce
def pc52 : PC := red52.1
def fn52 : PFn := ⟨24, [.tmp 2], pc52, false⟩
theorem fnOk52 : FnOk Tryz.prog 52 fn52 := ⟨⟨_, _, [], Tryz.func52, rfl, by kernel_rfl, rfl, rfl, of_decide_eq_true (by kernel_rfl)⟩⟩

def red23 : Rd ((Tryz.f23.body.bind (compile [])).getD .skip) := by refine ⟨?p, ?h⟩; case h => conv => lhs; reduce
def red23_0 : Rd ((loopIn 0 red23.1).getD .skip) := by refine ⟨?p, ?h⟩; case h => conv => lhs; reduce
def pc23L0 : PC := red23_0.1
def pc23 : PC := red23.1
def fn23 : PFn := ⟨28, [.tmp 2], pc23, false⟩
theorem fnOk23 : FnOk Tryz.prog 23 fn23 := ⟨⟨_, _, [], Tryz.func23, rfl, by kernel_rfl, rfl, rfl, of_decide_eq_true (by kernel_rfl)⟩⟩

def red105 : Rd ((Tryz.f105.body.bind (compile [])).getD .skip) := by refine ⟨?p, ?h⟩; case h => conv => lhs; reduce
def red105_0 : Rd ((loopIn 0 red105.1).getD .skip) := by refine ⟨?p, ?h⟩; case h => conv => lhs; reduce
def pc105L0 : PC := red105_0.1
def pc105 : PC := red105.1
def fn105 : PFn := ⟨19, [.tmp 4], pc105, false⟩
theorem fnOk105 : FnOk Tryz.prog 105 fn105 := ⟨⟨_, _, [], Tryz.func105, rfl, by kernel_rfl, rfl, rfl, of_decide_eq_true (by kernel_rfl)⟩⟩

def red81 : Rd ((Tryz.f81.body.bind (compile [])).getD .skip) := by refine ⟨?p, ?h⟩; case h => conv => lhs; reduce
def pc81 : PC := red81.1
def fn81 : PFn := ⟨9, [.tmp 4], pc81, false⟩
theorem fnOk81 : FnOk Tryz.prog 81 fn81 := ⟨⟨_, _, [], Tryz.func81, rfl, by kernel_rfl, rfl, rfl, of_decide_eq_true (by kernel_rfl)⟩⟩

def red53 : Rd ((Tryz.f53.body.bind (compile [])).getD .skip) := by refine ⟨?p, ?h⟩; case h => conv => lhs; reduce
def pc53 : PC := red53.1
def fn53 : PFn := ⟨26, [.tmp 2], pc53, false⟩
theorem fnOk53 : FnOk Tryz.prog 53 fn53 := ⟨⟨_, _, [], Tryz.func53, rfl, by kernel_rfl, rfl, rfl, of_decide_eq_true (by kernel_rfl)⟩⟩

def red54 : Rd ((Tryz.f54.body.bind (compile [])).getD .skip) := by refine ⟨?p, ?h⟩; case h => conv => lhs; reduce
def red54_0 : Rd ((loopIn 0 red54.1).getD .skip) := by refine ⟨?p, ?h⟩; case h => conv => lhs; reduce
def pc54L0 : PC := red54_0.1
def pc54 : PC := red54.1
def fn54 : PFn := ⟨20, [.tmp 2], pc54, false⟩
theorem fnOk54 : FnOk Tryz.prog 54 fn54 := ⟨⟨_, _, [], Tryz.func54, rfl, by kernel_rfl, rfl, rfl, of_decide_eq_true (by kernel_rfl)⟩⟩

def red55 : Rd ((Tryz.f55.body.bind (compile [])).getD .skip) := by refine ⟨?p, ?h⟩; case h => conv => lhs; reduce
def red55_0 : Rd ((loopIn 0 red55.1).getD .skip) := by refine ⟨?p, ?h⟩; case h => conv => lhs; reduce
def pc55L0 : PC := red55_0.1
def pc55 : PC := red55.1
def fn55 : PFn := ⟨52, [.tmp 2, .tmp 3], pc55, false⟩
theorem fnOk55 : FnOk Tryz.prog 55 fn55 := ⟨⟨_, _, [], Tryz.func55, rfl, by kernel_rfl, rfl, rfl, of_decide_eq_true (by kernel_rfl)⟩⟩

def red24 : Rd ((Tryz.f24.body.bind (compile [])).getD .skip) := by refine ⟨?p, ?h⟩; case h => conv => lhs; reduce
def pc24 : PC := red24.1
def fn24 : PFn := ⟨20, [.tmp 2, .tmp 3], pc24, false⟩
theorem fnOk24 : FnOk Tryz.prog 24 fn24 := ⟨⟨_, _, [], Tryz.func24, rfl, by kernel_rfl, rfl, rfl, of_decide_eq_true (by kernel_rfl)⟩⟩

def red9 : Rd ((Tryz.f9.body.bind (compile [10, 1000033, 1000036])).getD .skip) := by refine ⟨?p, ?h⟩; case h => conv => lhs; reduce
def pc9 : PC := red9.1
def fn9 : PFn := ⟨44, [.tmp 2, .tmp 3], pc9, false⟩
theorem fnOk9 : FnOk Tryz.prog 9 fn9 := ⟨⟨_, _, [10, 1000033, 1000036], Tryz.func9, rfl, by kernel_rfl, rfl, rfl, of_decide_eq_true (by kernel_rfl)⟩⟩

def red42 : Rd ((Tryz.f42.body.bind (compile [])).getD .skip) := by refine ⟨?p, ?h⟩; case h => conv => lhs; reduce
def red42_0 : Rd ((loopIn 0 red42.1).getD .skip) := by refine ⟨?p, ?h⟩; case h => conv => lhs; reduce
def pc42L0 : PC := red42_0.1
def red42_2 : Rd ((loopIn 2 red42.1).getD .skip) := by refine ⟨?p, ?h⟩; case h => conv => lhs; reduce
def pc42L2 : PC := red42_2.1
def pc42 : PC := red42.1
def fn42 : PFn := ⟨81, [.tmp 4], pc42, false⟩
theorem fnOk42 : FnOk Tryz.prog 42 fn42 := ⟨⟨_, _, [], Tryz.func42, rfl, by kernel_rfl, rfl, rfl, of_decide_eq_true (by kernel_rfl)⟩⟩

def red43 : Rd ((Tryz.f43.body.bind (compile [])).getD .skip) := by refine ⟨?p, ?h⟩; case h => conv => lhs; reduce
def red43_0 : Rd ((loopIn 0 red43.1).getD .skip) := by refine ⟨?p, ?h⟩; case h => conv => lhs; reduce
def pc43L0 : PC := red43_0.1
def pc43 : PC := red43.1
def fn43 : PFn := ⟨26, [.tmp 4], pc43, false⟩
theorem fnOk43 : FnOk Tryz.prog 43 fn43 := ⟨⟨_, _, [], Tryz.func43, rfl, by kernel_rfl, rfl, rfl, of_decide_eq_true (by kernel_rfl)⟩⟩

def red44 : Rd ((Tryz.f44.body.bind (compile [])).getD .skip) := by refine ⟨?p, ?h⟩; case h => conv => lhs; reduce
def red44_0 : Rd ((loopIn 0 red44.1).getD .skip) := by refine ⟨?p, ?h⟩; case h => conv => lhs; reduce
def pc44L0 : PC := red44_0.1
def pc44 : PC := red44.1
def fn44 : PFn := ⟨55, [.tmp 4], pc44, false⟩
theorem fnOk44 : FnOk Tryz.prog 44 fn44 := ⟨⟨_, _, [], Tryz.func44, rfl, by kernel_rfl, rfl, rfl, of_decide_eq_true (by kernel_rfl)⟩⟩

def red14 : Rd ((Tryz.f14.body.bind (compile [])).getD .skip) := by refine ⟨?p, ?h⟩; case h => conv => lhs; reduce
def pc14 : PC := red14.1
def fn14 : PFn := ⟨136, [.tmp 4], pc14, false⟩
theorem fnOk14 : FnOk Tryz.prog 14 fn14 := ⟨⟨_, _, [], Tryz.func14, rfl, by kernel_rfl, rfl, rfl, of_decide_eq_true (by kernel_rfl)⟩⟩

def red108 : Rd ((Tryz.f108.body.bind (compile [])).getD .skip) := by refine ⟨?p, ?h⟩; case h => conv => lhs; reduce
def red108_4 : Rd ((loopIn 4 red108.1).getD .skip) := by refine ⟨?p, ?h⟩; case h => conv => lhs; reduce
def pc108L4 : PC := red108_4.1
def pc108 : PC := red108.1
def fn108 : PFn := ⟨59, [.tmp 2, .tmp 3, .tmp 4], pc108, false⟩
theorem fnOk108 : FnOk Tryz.prog 108 fn108 := ⟨⟨_, _, [], Tryz.func108, rfl, by kernel_rfl, rfl, rfl, of_decide_eq_true (by kernel_rfl)⟩⟩

def red93 : Rd ((Tryz.f93.body.bind (compile [])).getD .skip) := by refine ⟨?p, ?h⟩; case h => conv => lhs; reduce
def red93_0 : Rd ((loopIn 0 red93.1).getD .skip) := by refine ⟨?p, ?h⟩; case h => conv => lhs; reduce
def pc93L0 : PC := red93_0.1
def pc93 : PC := red93.1
def fn93 : PFn := ⟨121, [.cell 8 50, .tmp 9, .tmp 10], pc93, false⟩
theorem fnOk93 : FnOk Tryz.prog 93 fn93 := ⟨⟨_, _, [], Tryz.func93, rfl, by kernel_rfl, rfl, rfl, of_decide_eq_true (by kernel_rfl)⟩⟩

def red72 : Rd ((Tryz.f72.body.bind (compile [4])).getD .skip) := by refine ⟨?p, ?h⟩; case h => conv => lhs; reduce
def pc72 : PC := red72.1
def fn72 : PFn := ⟨31, [.cell 2 50, .tmp 3, .tmp 4, .tmp 5], pc72, false⟩
theorem fnOk72 : FnOk Tryz.prog 72 fn72 := ⟨⟨_, _, [4], Tryz.func72, rfl, by kernel_rfl, rfl, rfl, of_decide_eq_true (by kernel_rfl)⟩⟩

def red94 : Rd ((Tryz.f94.body.bind (compile [])).getD .skip) := by refine ⟨?p, ?h⟩; case h => conv => lhs; reduce
def pc94 : PC := red94.1
def fn94 : PFn := ⟨16, [.cell 4 50], pc94, false⟩
theorem fnOk94 : FnOk Tryz.prog 94 fn94 := ⟨⟨_, _, [], Tryz.func94, rfl, by kernel_rfl, rfl, rfl, of_decide_eq_true (by kernel_rfl)⟩⟩

def red109 : Rd ((Tryz.f109.body.bind (compile [])).getD .skip) := by refine ⟨?p, ?h⟩; case h => conv => lhs; reduce
def red109_4 : Rd ((loopIn 4 red109.1).getD .skip) := by refine ⟨?p, ?h⟩; case h => conv => lhs; reduce
def pc109L4 : PC := red109_4.1
def pc109 : PC := red109.1
def fn109 : PFn := ⟨38, [.tmp 2, .tmp 3], pc109, false⟩
theorem fnOk109 : FnOk Tryz.prog 109 fn109 := ⟨⟨_, _, [], Tryz.func109, rfl, by kernel_rfl, rfl, rfl, of_decide_eq_true (by kernel_rfl)⟩⟩

def red95 : Rd ((Tryz.f95.body.bind (compile [])).getD .skip) := by refine ⟨?p, ?h⟩; case h => conv => lhs; reduce
def pc95 : PC := red95.1
def fn95 : PFn := ⟨22, [.tmp 2], pc95, false⟩
theorem fnOk95 : FnOk Tryz.prog 95 fn95 := ⟨⟨_, _, [], Tryz.func95, rfl, by kernel_rfl, rfl, rfl, of_decide_eq_true (by kernel_rfl)⟩⟩

def red96 : Rd ((Tryz.f96.body.bind (compile [])).getD .skip) := by refine ⟨?p, ?h⟩; case h => conv => lhs; reduce
def red96_0 : Rd ((loopIn 0 red96.1).getD .skip) := by refine ⟨?p, ?h⟩; case h => conv => lhs; reduce
def pc96L0 : PC := red96_0.1
def red96_2 : Rd ((loopIn 2 red96.1).getD .skip) := by refine ⟨?p, ?h⟩; case h => conv => lhs; reduce
def pc96L2 : PC := red96_2.1
def pc96 : PC := red96.1
def fn96 : PFn := ⟨28, [.tmp 2, .tmp 3], pc96, false⟩
theorem fnOk96 : FnOk Tryz.prog 96 fn96 := ⟨⟨_, _, [], Tryz.func96, rfl, by kernel_rfl, rfl, rfl, of_decide_eq_true (by kernel_rfl)⟩⟩

def red97 : Rd ((Tryz.f97.body.bind (compile [])).getD .skip) := by refine ⟨?p, ?h⟩; case h => conv => lhs; reduce
def red97_0 : Rd ((loopIn 0 red97.1).getD .skip) := by refine ⟨?p, ?h⟩; case h => conv => lhs; reduce
def pc97L0 : PC := red97_0.1
def pc97 : PC := red97.1
def fn97 : PFn := ⟨20, [.tmp 2], pc97, false⟩
theorem fnOk97 : FnOk Tryz.prog 97 fn97 := ⟨⟨_, _, [], Tryz.func97, rfl, by kernel_rfl, rfl, rfl, of_decide_eq_true (by kernel_rfl)⟩⟩

def red110 : Rd ((Tryz.f110.body.bind (compile [1000007, 1000020, 1000043])).getD .skip) := by refine ⟨?p, ?h⟩; case h => conv => lhs; reduce
def red110_0 : Rd ((loopIn 0 red110.1).getD .skip) := by refine ⟨?p, ?h⟩; case h => conv => lhs; reduce
def pc110L0 : PC := red110_0.1
def pc110 : PC := red110.1
def fn110 : PFn := ⟨44, [.tmp 2], pc110, false⟩
theorem fnOk110 : FnOk Tryz.prog 110 fn110 := ⟨⟨_, _, [1000007, 1000020, 1000043], Tryz.func110, rfl, by kernel_rfl, rfl, rfl, of_decide_eq_true (by kernel_rfl)⟩⟩

def red98 : Rd ((Tryz.f98.body.bind (compile [9])).getD .skip) := by refine ⟨?p, ?h⟩; case h => conv => lhs; reduce
def red98_1 : Rd ((loopIn 1 red98.1).getD .skip) := by refine ⟨?p, ?h⟩; case h => conv => lhs; reduce
def pc98L1 : PC := red98_1.1
def pc98 : PC := red98.1
def fn98 : PFn := ⟨78, [.cell 4 25], pc98, false⟩
theorem fnOk98 : FnOk Tryz.prog 98 fn98 := ⟨⟨_, _, [9], Tryz.func98, rfl, by kernel_rfl, rfl, rfl, of_decide_eq_true (by kernel_rfl)⟩⟩

def red99 : Rd ((Tryz.f99.body.bind (compile [])).getD .skip) := by refine ⟨?p, ?h⟩; case h => conv => lhs; reduce
def red99_0 : Rd ((loopIn 0 red99.1).getD .skip) := by refine ⟨?p, ?h⟩; case h => conv => lhs; reduce
def pc99L0 : PC := red99_0.1
def pc99 : PC := red99.1
def fn99 : PFn := ⟨39, [.tmp 4], pc99, false⟩
theorem fnOk99 : FnOk Tryz.prog 99 fn99 := ⟨⟨_, _, [], Tryz.func99, rfl, by kernel_rfl, rfl, rfl, of_decide_eq_true (by kernel_rfl)⟩⟩

def red100 : Rd ((Tryz.f100.body.bind (compile [])).getD .skip) := by refine ⟨?p, ?h⟩; case h => conv => lhs; reduce
def pc100 : PC := red100.1
def fn100 : PFn := ⟨15, [.tmp 2, .tmp 3], pc100, false⟩
theorem fnOk100 : FnOk Tryz.prog 100 fn100 := ⟨⟨_, _, [], Tryz.func100, rfl, by kernel_rfl, rfl, rfl, of_decide_eq_true (by kernel_rfl)⟩⟩

def red73 : Rd ((Tryz.f73.body.bind (compile [6, 17, 21, 23])).getD .skip) := by refine ⟨?p, ?h⟩; case h => conv => lhs; reduce
def pc73 : PC := red73.1
def fn73 : PFn := ⟨131, [.cell 2 28], pc73, false⟩
theorem fnOk73 : FnOk Tryz.prog 73 fn73 := ⟨⟨_, _, [6, 17, 21, 23], Tryz.func73, rfl, by kernel_rfl, rfl, rfl, of_decide_eq_true (by kernel_rfl)⟩⟩

def red45 : Rd ((Tryz.f45.body.bind (compile [])).getD .skip) := by refine ⟨?p, ?h⟩; case h => conv => lhs; reduce
def pc45 : PC := red45.1
def fn45 : PFn := ⟨53, [.cell 2 28, .tmp 3], pc45, false⟩
theorem fnOk45 : FnOk Tryz.prog 45 fn45 := ⟨⟨_, _, [], Tryz.func45, rfl, by kernel_rfl, rfl, rfl, of_decide_eq_true (by kernel_rfl)⟩⟩

def red77 : Rd ((Tryz.f77.body.bind (compile [])).getD .skip) := by refine ⟨?p, ?h⟩; case h => conv => lhs; reduce
def red77_3 : Rd ((loopIn 3 red77.1).getD .skip) := by refine ⟨?p, ?h⟩; case h => conv => lhs; reduce
def pc77L3 : PC := red77_3.1
def red77_0 : Rd ((loopIn 0 red77.1).getD .skip) := by refine ⟨?p, ?h⟩; case h => conv => lhs; reduce
def pc77L0 : PC := red77_0.1
def pc77 : PC := red77.1
def fn77 : PFn := ⟨62, [.tmp 8], pc77, false⟩
theorem fnOk77 : FnOk Tryz.prog 77 fn77 := ⟨⟨_, _, [], Tryz.func77, rfl, by kernel_rfl, rfl, rfl, of_decide_eq_true (by kernel_rfl)⟩⟩

def red46 : Rd ((Tryz.f46.body.bind (compile [])).getD .skip) := by refine ⟨?p, ?h⟩; case h => conv => lhs; reduce
def pc46 : PC := red46.1
def fn46 : PFn := ⟨42, [.tmp 4], pc46, false⟩
theorem fnOk46 : FnOk Tryz.prog 46 fn46 := ⟨⟨_, _, [], Tryz.func46, rfl, by kernel_rfl, rfl, rfl, of_decide_eq_true (by kernel_rfl)⟩⟩

def red15 : Rd ((Tryz.f15.body.bind (compile [4])).getD .skip) := by refine ⟨?p, ?h⟩; case h => conv => lhs; reduce
def pc15 : PC := red15.1
def fn15 : PFn := ⟨18, [.cell 2 28, .tmp 3], pc15, false⟩
theorem fnOk15 : FnOk Tryz.prog 15 fn15 := ⟨⟨_, _, [4], Tryz.func15, rfl, by kernel_rfl, rfl, rfl, of_decide_eq_true (by kernel_rfl)⟩⟩

def red7 : Rd ((Tryz.f7.body.bind (compile [])).getD .skip) := by refine ⟨?p, ?h⟩; case h => conv => lhs; reduce
def pc7 : PC := red7.1
def fn7 : PFn := ⟨72, [.tmp 0], pc7, false⟩
theorem fnOk7 : FnOk Tryz.prog 7 fn7 := ⟨⟨_, _, [], Tryz.func7, rfl, by kernel_rfl, rfl, rfl, of_decide_eq_true (by kernel_rfl)⟩⟩

def red17 : Rd ((Tryz.f17.body.bind (compile [])).getD .skip) := by refine ⟨?p, ?h⟩; case h => conv => lhs; reduce
def red17_0 : Rd ((loopIn 0 red17.1).getD .skip) := by refine ⟨?p, ?h⟩; case h => conv => lhs; reduce
def pc17L0 : PC := red17_0.1
def red17_2 : Rd ((loopIn 2 red17.1).getD .skip) := by refine ⟨?p, ?h⟩; case h => conv => lhs; reduce
def pc17L2 : PC := red17_2.1
def pc17 : PC := red17.1
def fn17 : PFn := ⟨63, [.tmp 4], pc17, false⟩
theorem fnOk17 : FnOk Tryz.prog 17 fn17 := ⟨⟨_, _, [], Tryz.func17, rfl, by kernel_rfl, rfl, rfl, of_decide_eq_true (by kernel_rfl)⟩⟩

def red8 : Rd ((Tryz.f8.body.bind (compile [])).getD .skip) := by refine ⟨?p, ?h⟩; case h => conv => lhs; reduce
def red8_0 : Rd ((loopIn 0 red8.1).getD .skip) := by refine ⟨?p, ?h⟩; case h => conv => lhs; reduce
def pc8L0 : PC := red8_0.1
def red8_4 : Rd ((loopIn 4 red8.1).getD .skip) := by refine ⟨?p, ?h⟩; case h => conv => lhs; reduce
def pc8L4 : PC := red8_4.1
def red8_2 : Rd ((loopIn 2 red8.1).getD .skip) := by refine ⟨?p, ?h⟩; case h => conv => lhs; reduce
def pc8L2 : PC := red8_2.1
def pc8 : PC := red8.1
def fn8 : PFn := ⟨122, [.tmp 2], pc8, false⟩
theorem fnOk8 : FnOk Tryz.prog 8 fn8 := ⟨⟨_, _, [], Tryz.func8, rfl, by kernel_rfl, rfl, rfl, of_decide_eq_true (by kernel_rfl)⟩⟩

def red34 : Rd ((Tryz.f34.body.bind (compile [4, 6, 10, 14, 18, 20])).getD .skip) := by refine ⟨?p, ?h⟩; case h => conv => lhs; reduce
def pc34 : PC := red34.1
def fn34 : PFn := ⟨96, [.cell 2 28], pc34, false⟩
theorem fnOk34 : FnOk Tryz.prog 34 fn34 := ⟨⟨_, _, [4, 6, 10, 14, 18, 20], Tryz.func34, rfl, by kernel_rfl, rfl, rfl, of_decide_eq_true (by kernel_rfl)⟩⟩

def red35 : Rd ((Tryz.f35.body.bind (compile [])).getD .skip) := by refine ⟨?p, ?h⟩; case h => conv => lhs; reduce
def red35_0 : Rd ((loopIn 0 red35.1).getD .skip) := by refine ⟨?p, ?h⟩; case h => conv => lhs; reduce
def pc35L0 : PC := red35_0.1
def pc35 : PC := red35.1
def fn35 : PFn := ⟨19, [.tmp 2], pc35, false⟩
theorem fnOk35 : FnOk Tryz.prog 35 fn35 := ⟨⟨_, _, [], Tryz.func35, rfl, by kernel_rfl, rfl, rfl, of_decide_eq_true (by kernel_rfl)⟩⟩

def red36 : Rd ((Tryz.f36.body.bind (compile [])).getD .skip) := by refine ⟨?p, ?h⟩; case h => conv => lhs; reduce
def red36_0 : Rd ((loopIn 0 red36.1).getD .skip) := by refine ⟨?p, ?h⟩; case h => conv => lhs; reduce
def pc36L0 : PC := red36_0.1
def pc36 : PC := red36.1
def fn36 : PFn := ⟨59, [.tmp 4], pc36, false⟩
theorem fnOk36 : FnOk Tryz.prog 36 fn36 := ⟨⟨_, _, [], Tryz.func36, rfl, by kernel_rfl, rfl, rfl, of_decide_eq_true (by kernel_rfl)⟩⟩

def red69 : Rd ((Tryz.f69.body.bind (compile [])).getD .skip) := by refine ⟨?p, ?h⟩; case h => conv => lhs; reduce
def red69_0 : Rd ((loopIn 0 red69.1).getD .skip) := by refine ⟨?p, ?h⟩; case h => conv => lhs; reduce
def pc69L0 : PC := red69_0.1
def pc69 : PC := red69.1
def fn69 : PFn := ⟨34, [.tmp 2], pc69, false⟩
theorem fnOk69 : FnOk Tryz.prog 69 fn69 := ⟨⟨_, _, [], Tryz.func69, rfl, by kernel_rfl, rfl, rfl, of_decide_eq_true (by kernel_rfl)⟩⟩

def red91 : Rd ((Tryz.f91.body.bind (compile [])).getD .skip) := by refine ⟨?p, ?h⟩; case h => conv => lhs; reduce
def red91_0 : Rd ((loopIn 0 red91.1).getD .skip) := by refine ⟨?p, ?h⟩; case h => conv => lhs; reduce
def pc91L0 : PC := red91_0.1
def pc91 : PC := red91.1
def fn91 : PFn := ⟨50, [.tmp 2], pc91, false⟩
theorem fnOk91 : FnOk Tryz.prog 91 fn91 := ⟨⟨_, _, [], Tryz.func91, rfl, by kernel_rfl, rfl, rfl, of_decide_eq_true (by kernel_rfl)⟩⟩

def red92 : Rd ((Tryz.f92.body.bind (compile [])).getD .skip) := by refine ⟨?p, ?h⟩; case h => conv => lhs; reduce
def red92_0 : Rd ((loopIn 0 red92.1).getD .skip) := by refine ⟨?p, ?h⟩; case h => conv => lhs; reduce
def pc92L0 : PC := red92_0.1
def pc92 : PC := red92.1
def fn92 : PFn := ⟨52, [.tmp 2], pc92, false⟩
theorem fnOk92 : FnOk Tryz.prog 92 fn92 := ⟨⟨_, _, [], Tryz.func92, rfl, by kernel_rfl, rfl, rfl, of_decide_eq_true (by kernel_rfl)⟩⟩

def red70 : Rd ((Tryz.f70.body.bind (compile [])).getD .skip) := by refine ⟨?p, ?h⟩; case h => conv => lhs; reduce
def red70_0 : Rd ((loopIn 0 red70.1).getD .skip) := by refine ⟨?p, ?h⟩; case h => conv => lhs; reduce
def pc70L0 : PC := red70_0.1
def pc70 : PC := red70.1
def fn70 : PFn := ⟨104, [.tmp 2], pc70, false⟩
theorem fnOk70 : FnOk Tryz.prog 70 fn70 := ⟨⟨_, _, [], Tryz.func70, rfl, by kernel_rfl, rfl, rfl, of_decide_eq_true (by kernel_rfl)⟩⟩

def red37 : Rd ((Tryz.f37.body.bind (compile [])).getD .skip) := by refine ⟨?p, ?h⟩; case h => conv => lhs; reduce
def pc37 : PC := red37.1
def fn37 : PFn := ⟨10, [.tmp 2], pc37, false⟩
theorem fnOk37 : FnOk Tryz.prog 37 fn37 := ⟨⟨_, _, [], Tryz.func37, rfl, by kernel_rfl, rfl, rfl, of_decide_eq_true (by kernel_rfl)⟩⟩

def red12 : Rd ((Tryz.f12.body.bind (compile [])).getD .skip) := by refine ⟨?p, ?h⟩; case h => conv => lhs; reduce
def pc12 : PC := red12.1
def fn12 : PFn := ⟨122, [.tmp 2], pc12, false⟩
theorem fnOk12 : FnOk Tryz.prog 12 fn12 := ⟨⟨_, _, [], Tryz.func12, rfl, by kernel_rfl, rfl, rfl, of_decide_eq_true (by kernel_rfl)⟩⟩

def red25 : Rd ((Tryz.f25.body.bind (compile [])).getD .skip) := by refine ⟨?p, ?h⟩; case h => conv => lhs; reduce
def pc25 : PC := red25.1
def fn25 : PFn := ⟨8, [.cell 4 50], pc25, false⟩
theorem fnOk25 : FnOk Tryz.prog 25 fn25 := ⟨⟨_, _, [], Tryz.func25, rfl, by kernel_rfl, rfl, rfl, of_decide_eq_true (by kernel_rfl)⟩⟩

def red83 : Rd ((Tryz.f83.body.bind (compile [])).getD .skip) := by refine ⟨?p, ?h⟩; case h => conv => lhs; reduce
def red83_0 : Rd ((loopIn 0 red83.1).getD .skip) := by refine ⟨?p, ?h⟩; case h => conv => lhs; reduce
def pc83L0 : PC := red83_0.1
def pc83 : PC := red83.1
def fn83 : PFn := ⟨38, [.tmp 2], pc83, false⟩
theorem fnOk83 : FnOk Tryz.prog 83 fn83 := ⟨⟨_, _, [], Tryz.func83, rfl, by kernel_rfl, rfl, rfl, of_decide_eq_true (by kernel_rfl)⟩⟩

def red56 : Rd ((Tryz.f56.body.bind (compile [])).getD .skip) := by refine ⟨?p, ?h⟩; case h => conv => lhs; reduce
def pc56 : PC := red56.1
def fn56 : PFn := ⟨9, [.cell 4 50], pc56, false⟩
theorem fnOk56 : FnOk Tryz.prog 56 fn56 := ⟨⟨_, _, [], Tryz.func56, rfl, by kernel_rfl, rfl, rfl, of_decide_eq_true (by kernel_rfl)⟩⟩

def red26 : Rd ((Tryz.f26.body.bind (compile [])).getD .skip) := by refine ⟨?p, ?h⟩; case h => conv => lhs; reduce
def pc26 : PC := red26.1
def fn26 : PFn := ⟨8, [.cell 4 50], pc26, false⟩
theorem fnOk26 : FnOk Tryz.prog 26 fn26 := ⟨⟨_, _, [], Tryz.func26, rfl, by kernel_rfl, rfl, rfl, of_decide_eq_true (by kernel_rfl)⟩⟩

def red58 : Rd ((Tryz.f58.body.bind (compile [])).getD .skip) := by refine ⟨?p, ?h⟩; case h => conv => lhs; reduce
def pc58 : PC := red58.1
def fn58 : PFn := ⟨8, [.cell 4 50], pc58, false⟩
theorem fnOk58 : FnOk Tryz.prog 58 fn58 := ⟨⟨_, _, [], Tryz.func58, rfl, by kernel_rfl, rfl, rfl, of_decide_eq_true (by kernel_rfl)⟩⟩

def red57 : Rd ((Tryz.f57.body.bind (compile [])).getD .skip) := by refine ⟨?p, ?h⟩; case h => conv => lhs; reduce
def pc57 : PC := red57.1
def fn57 : PFn := ⟨5, [.cell 2 50], pc57, false⟩
theorem fnOk57 : FnOk Tryz.prog 57 fn57 := ⟨⟨_, _, [], Tryz.func57, rfl, by kernel_rfl, rfl, rfl, of_decide_eq_true (by kernel_rfl)⟩⟩

def red84 : Rd ((Tryz.f84.body.bind (compile [])).getD .skip) := by refine ⟨?p, ?h⟩; case h => conv => lhs; reduce
def pc84 : PC := red84.1
def fn84 : PFn := ⟨4, [.tmp 2], pc84, false⟩
theorem fnOk84 : FnOk Tryz.prog 84 fn84 := ⟨⟨_, _, [], Tryz.func84, rfl, by kernel_rfl, rfl, rfl, of_decide_eq_true (by kernel_rfl)⟩⟩

def red59 : Rd ((Tryz.f59.body.bind (compile [])).getD .skip) := by refine ⟨?p, ?h⟩; case h => conv => lhs; reduce
def pc59 : PC := red59.1
def fn59 : PFn := ⟨6, [.cell 2 50], pc59, false⟩
theorem fnOk59 : FnOk Tryz.prog 59 fn59 := ⟨⟨_, _, [], Tryz.func59, rfl, by kernel_rfl, rfl, rfl, of_decide_eq_true (by kernel_rfl)⟩⟩

def red61 : Rd ((Tryz.f61.body.bind (compile [])).getD .skip) := by refine ⟨?p, ?h⟩; case h => conv => lhs; reduce
def red61_0 : Rd ((loopIn 0 red61.1).getD .skip) := by refine ⟨?p, ?h⟩; case h => conv => lhs; reduce
def pc61L0 : PC := red61_0.1
def pc61 : PC := red61.1
def fn61 : PFn := ⟨24, [.cell 4 50], pc61, false⟩
theorem fnOk61 : FnOk Tryz.prog 61 fn61 := ⟨⟨_, _, [], Tryz.func61, rfl, by kernel_rfl, rfl, rfl, of_decide_eq_true (by kernel_rfl)⟩⟩

def red60 : Rd ((Tryz.f60.body.bind (compile [])).getD .skip) := by refine ⟨?p, ?h⟩; case h => conv => lhs; reduce
def red60_0 : Rd ((loopIn 0 red60.1).getD .skip) := by refine ⟨?p, ?h⟩; case h => conv => lhs; reduce
def pc60L0 : PC := red60_0.1
def red60_3 : Rd ((loopIn 3 red60.1).getD .skip) := by refine ⟨?p, ?h⟩; case h => conv => lhs; reduce
def pc60L3 : PC := red60_3.1
def pc60 : PC := red60.1
def fn60 : PFn := ⟨102, [.cell 2 50], pc60, false⟩
theorem fnOk60 : FnOk Tryz.prog 60 fn60 := ⟨⟨_, _, [], Tryz.func60, rfl, by kernel_rfl, rfl, rfl, of_decide_eq_true (by kernel_rfl)⟩⟩

def red62 : Rd ((Tryz.f62.body.bind (compile [5, 1000017, 1000023, 1000025])).getD .skip) := by refine ⟨?p, ?h⟩; case h => conv => lhs; reduce
def red62_0 : Rd ((loopIn 0 red62.1).getD .skip) := by refine ⟨?p, ?h⟩; case h => conv => lhs; reduce
def pc62L0 : PC := red62_0.1
def pc62 : PC := red62.1
def fn62 : PFn := ⟨41, [.cell 2 50], pc62, false⟩
theorem fnOk62 : FnOk Tryz.prog 62 fn62 := ⟨⟨_, _, [5, 1000017, 1000023, 1000025], Tryz.func62, rfl, by kernel_rfl, rfl, rfl, of_decide_eq_true (by kernel_rfl)⟩⟩

def red63 : Rd ((Tryz.f63.body.bind (compile [])).getD .skip) := by refine ⟨?p, ?h⟩; case h => conv => lhs; reduce
def red63_0 : Rd ((loopIn 0 red63.1).getD .skip) := by refine ⟨?p, ?h⟩; case h => conv => lhs; reduce
def pc63L0 : PC := red63_0.1
def pc63 : PC := red63.1
def fn63 : PFn := ⟨30, [.cell 2 50], pc63, false⟩
theorem fnOk63 : FnOk Tryz.prog 63 fn63 := ⟨⟨_, _, [], Tryz.func63, rfl, by kernel_rfl, rfl, rfl, of_decide_eq_true (by kernel_rfl)⟩⟩

def red27 : Rd ((Tryz.f27.body.bind (compile [])).getD .skip) := by refine ⟨?p, ?h⟩; case h => conv => lhs; reduce
def pc27 : PC := red27.1
def fn27 : PFn := ⟨129, [.cell 2 50], pc27, false⟩
theorem fnOk27 : FnOk Tryz.prog 27 fn27 := ⟨⟨_, _, [], Tryz.func27, rfl, by kernel_rfl, rfl, rfl, of_decide_eq_true (by kernel_rfl)⟩⟩

def red64 : Rd ((Tryz.f64.body.bind (compile [])).getD .skip) := by refine ⟨?p, ?h⟩; case h => conv => lhs; reduce
def red64_0 : Rd ((loopIn 0 red64.1).getD .skip) := by refine ⟨?p, ?h⟩; case h => conv => lhs; reduce
def pc64L0 : PC := red64_0.1
def pc64 : PC := red64.1
def fn64 : PFn := ⟨30, [.tmp 2], pc64, false⟩
theorem fnOk64 : FnOk Tryz.prog 64 fn64 := ⟨⟨_, _, [], Tryz.func64, rfl, by kernel_rfl, rfl, rfl, of_decide_eq_true (by kernel_rfl)⟩⟩

def red28 : Rd ((Tryz.f28.body.bind (compile [])).getD .skip) := by refine ⟨?p, ?h⟩; case h => conv => lhs; reduce
def red28_0 : Rd ((loopIn 0 red28.1).getD .skip) := by refine ⟨?p, ?h⟩; case h => conv => lhs; reduce
def pc28L0 : PC := red28_0.1
def pc28 : PC := red28.1
def fn28 : PFn := ⟨44, [.tmp 2, .tmp 3], pc28, false⟩
theorem fnOk28 : FnOk Tryz.prog 28 fn28 := ⟨⟨_, _, [], Tryz.func28, rfl, by kernel_rfl, rfl, rfl, of_decide_eq_true (by kernel_rfl)⟩⟩

def red29 : Rd ((Tryz.f29.body.bind (compile [])).getD .skip) := by refine ⟨?p, ?h⟩; case h => conv => lhs; reduce
def red29_0 : Rd ((loopIn 0 red29.1).getD .skip) := by refine ⟨?p, ?h⟩; case h => conv => lhs; reduce
def pc29L0 : PC := red29_0.1
def pc29 : PC := red29.1
def fn29 : PFn := ⟨22, [.tmp 2], pc29, false⟩
theorem fnOk29 : FnOk Tryz.prog 29 fn29 := ⟨⟨_, _, [], Tryz.func29, rfl, by kernel_rfl, rfl, rfl, of_decide_eq_true (by kernel_rfl)⟩⟩

def red10 : Rd ((Tryz.f10.body.bind (compile [3, 1000012, 1000014, 1000016])).getD .skip) := by refine ⟨?p, ?h⟩; case h => conv => lhs; reduce
def pc10 : PC := red10.1
def fn10 : PFn := ⟨35, [.tmp 2, .tmp 3], pc10, false⟩
theorem fnOk10 : FnOk Tryz.prog 10 fn10 := ⟨⟨_, _, [3, 1000012, 1000014, 1000016], Tryz.func10, rfl, by kernel_rfl, rfl, rfl, of_decide_eq_true (by kernel_rfl)⟩⟩

def red3 : Rd ((Tryz.f3.body.bind (compile [])).getD .skip) := by refine ⟨?p, ?h⟩; case h => conv => lhs; reduce
def pc3 : PC := red3.1
def fn3 : PFn := ⟨53, [.tmp 4], pc3, false⟩
theorem fnOk3 : FnOk Tryz.prog 3 fn3 := ⟨⟨_, _, [], Tryz.func3, rfl, by kernel_rfl, rfl, rfl, of_decide_eq_true (by kernel_rfl)⟩⟩

def red4 : Rd ((Tryz.f4.body.bind (compile [])).getD .skip) := by refine ⟨?p, ?h⟩; case h => conv => lhs; reduce
def pc4 : PC := red4.1
def fn4 : PFn := ⟨60, [.tmp 4], pc4, false⟩
theorem fnOk4 : FnOk Tryz.prog 4 fn4 := ⟨⟨_, _, [], Tryz.func4, rfl, by kernel_rfl, rfl, rfl, of_decide_eq_true (by kernel_rfl)⟩⟩

def red104 : Rd ((Tryz.f104.body.bind (compile [])).getD .skip) := by refine ⟨?p, ?h⟩; case h => conv => lhs; reduce
def red104_0 : Rd ((loopIn 0 red104.1).getD .skip) := by refine ⟨?p, ?h⟩; case h => conv => lhs; reduce
def pc104L0 : PC := red104_0.1
def pc104 : PC := red104.1
def fn104 : PFn := ⟨57, [.tmp 2, .tmp 3, .tmp 4], pc104, false⟩
theorem fnOk104 : FnOk Tryz.prog 104 fn104 := ⟨⟨_, _, [], Tryz.func104, rfl, by kernel_rfl, rfl, rfl, of_decide_eq_true (by kernel_rfl)⟩⟩

def red78 : Rd ((Tryz.f78.body.bind (compile [])).getD .skip) := by refine ⟨?p, ?h⟩; case h => conv => lhs; reduce
def red78_0 : Rd ((loopIn 0 red78.1).getD .skip) := by refine ⟨?p, ?h⟩; case h => conv => lhs; reduce
def pc78L0 : PC := red78_0.1
def pc78 : PC := red78.1
def fn78 : PFn := ⟨123, [.cell 8 50, .tmp 9, .tmp 10, .tmp 11], pc78, false⟩
theorem fnOk78 : FnOk Tryz.prog 78 fn78 := ⟨⟨_, _, [], Tryz.func78, rfl, by kernel_rfl, rfl, rfl, of_decide_eq_true (by kernel_rfl)⟩⟩

def red47 : Rd ((Tryz.f47.body.bind (compile [])).getD .skip) := by refine ⟨?p, ?h⟩; case h => conv => lhs; reduce
def pc47 : PC := red47.1
def fn47 : PFn := ⟨14, [.cell 2 50, .tmp 3, .tmp 4, .tmp 5], pc47, false⟩
theorem fnOk47 : FnOk Tryz.prog 47 fn47 := ⟨⟨_, _, [], Tryz.func47, rfl, by kernel_rfl, rfl, rfl, of_decide_eq_true (by kernel_rfl)⟩⟩

def red16 : Rd ((Tryz.f16.body.bind (compile [])).getD .skip) := by refine ⟨?p, ?h⟩; case h => conv => lhs; reduce
def pc16 : PC := red16.1
def fn16 : PFn := ⟨49, [.tmp 2], pc16, false⟩
theorem fnOk16 : FnOk Tryz.prog 16 fn16 := ⟨⟨_, _, [], Tryz.func16, rfl, by kernel_rfl, rfl, rfl, of_decide_eq_true (by kernel_rfl)⟩⟩

def red5 : Rd ((Tryz.f5.body.bind (compile [1000037])).getD .skip) := by refine ⟨?p, ?h⟩; case h => conv => lhs; reduce
def pc5 : PC := red5.1
def fn5 : PFn := ⟨81, [.tmp 10], pc5, false⟩
theorem fnOk5 : FnOk Tryz.prog 5 fn5 := ⟨⟨_, _, [1000037], Tryz.func5, rfl, by kernel_rfl, rfl, rfl, of_decide_eq_true (by kernel_rfl)⟩⟩

def red6 : Rd ((Tryz.f6.body.bind (compile [])).getD .skip) := by refine ⟨?p, ?h⟩; case h => conv => lhs; reduce
def pc6 : PC := red6.1
def fn6 : PFn := ⟨65, [.tmp 4], pc6, false⟩
theorem fnOk6 : FnOk Tryz.prog 6 fn6 := ⟨⟨_, _, [], Tryz.func6, rfl, by kernel_rfl, rfl, rfl, of_decide_eq_true (by kernel_rfl)⟩⟩

def red66 : Rd ((Tryz.f66.body.bind (compile [])).getD .skip) := by refine ⟨?p, ?h⟩; case h => conv => lhs; reduce
def pc66 : PC := red66.1
def fn66 : PFn := ⟨6, [.tmp 2], pc66, false⟩
theorem fnOk66 : FnOk Tryz.prog 66 fn66 := ⟨⟨_, _, [], Tryz.func66, rfl, by kernel_rfl, rfl, rfl, of_decide_eq_true (by kernel_rfl)⟩⟩

def red82 : Rd ((Tryz.f82.body.bind (compile [])).getD .skip) := by refine ⟨?p, ?h⟩; case h => conv => lhs; reduce
def pc82 : PC := red82.1
def fn82 : PFn := ⟨6, [.tmp 2], pc82, false⟩
theorem fnOk82 : FnOk Tryz.prog 82 fn82 := ⟨⟨_, _, [], Tryz.func82, rfl, by kernel_rfl, rfl, rfl, of_decide_eq_true (by kernel_rfl)⟩⟩

def red88 : Rd ((Tryz.f88.body.bind (compile [])).getD .skip) := by refine ⟨?p, ?h⟩; case h => conv => lhs; reduce
def pc88 : PC := red88.1
def fn88 : PFn := ⟨6, [.tmp 2], pc88, false⟩
theorem fnOk88 : FnOk Tryz.prog 88 fn88 := ⟨⟨_, _, [], Tryz.func88, rfl, by kernel_rfl, rfl, rfl, of_decide_eq_true (by kernel_rfl)⟩⟩

def fnOf : FuncId → Option PFn
 | 39 => some fn39
 | 71 => some fn71
 | 38 => some fn38
 | 40 => some fn40
 | 41 => some fn41
 | 13 => some fn13
 | 18 => some fn18
 | 30 => some fn30
 | 85 => some fn85
 | 65 => some fn65
 | 31 => some fn31
 | 86 => some fn86
 | 67 => some fn67
 | 106 => some fn106
 | 87 => some fn87
 | 89 => some fn89
 | 107 => some fn107
 | 90 => some fn90
 | 68 => some fn68
 | 32 => some fn32
 | 33 => some fn33
 | 11 => some fn11
 | 19 => some fn19
 | 20 => some fn20
 | 51 => some fn51
 | 22 => some fn22
 | 79 => some fn79
 | 48 => some fn48
 | 49 => some fn49
 | 80 => some fn80
 | 50 => some fn50
 | 21 => some fn21
 | 52 => some fn52
 | 23 => some fn23
 | 105 => some fn105
 | 81 => some fn81
 | 53 => some fn53
 | 54 => some fn54
 | 55 => some fn55
 | 24 => some fn24
 | 9 => some fn9
 | 42 => some fn42
 | 43 => some fn43
 | 44 => some fn44
 | 14 => some fn14
 | 108 => some fn108
 | 93 => some fn93
 | 72 => some fn72
 | 94 => some fn94
 | 109 => some fn109
 | 95 => some fn95
 | 96 => some fn96
 | 97 => some fn97
 | 110 => some fn110
 | 98 => some fn98
 | 99 => some fn99
 | 100 => some fn100
 | 73 => some fn73
 | 45 => some fn45
 | 77 => some fn77
 | 46 => some fn46
 | 15 => some fn15
 | 7 => some fn7
 | 17 => some fn17
 | 8 => some fn8
 | 34 => some fn34
 | 35 => some fn35
 | 36 => some fn36
 | 69 => some fn69
 | 91 => some fn91
 | 92 => some fn92
 | 70 => some fn70
 | 37 => some fn37
 | 12 => some fn12
 | 25 => some fn25
 | 83 => some fn83
 | 56 => some fn56
 | 26 => some fn26
 | 58 => some fn58
 | 57 => some fn57
 | 84 => some fn84
 | 59 => some fn59
 | 61 => some fn61
 | 60 => some fn60
 | 62 => some fn62
 | 63 => some fn63
 | 27 => some fn27
 | 64 => some fn64
 | 28 => some fn28
 | 29 => some fn29
 | 10 => some fn10
 | 3 => some fn3
 | 4 => some fn4
 | 104 => some fn104
 | 78 => some fn78
 | 47 => some fn47
 | 16 => some fn16
 | 5 => some fn5
 | 6 => some fn6
 | 66 => some fn66
 | 82 => some fn82
 | 88 => some fn88
 | _ => none
theorem fnOf_ok : ∀ f pf, fnOf f = some pf → FnOk Tryz.prog f pf := by
 intro f pf h
 unfold fnOf at h
 split at h <;> first | (injection h with h; subst h; first | exact fnOk39 | exact fnOk71 | exact fnOk38 | exact fnOk40 | exact fnOk41 | exact fnOk13 | exact fnOk18 | exact fnOk30 | exact fnOk85 | exact fnOk65 | exact fnOk31 | exact fnOk86 | exact fnOk67 | exact fnOk106 | exact fnOk87 | exact fnOk89 | exact fnOk107 | exact fnOk90 | exact fnOk68 | exact fnOk32 | exact fnOk33 | exact fnOk11 | exact fnOk19 | exact fnOk20 | exact fnOk51 | exact fnOk22 | exact fnOk79 | exact fnOk48 | exact fnOk49 | exact fnOk80 | exact fnOk50 | exact fnOk21 | exact fnOk52 | exact fnOk23 | exact fnOk105 | exact fnOk81 | exact fnOk53 | exact fnOk54 | exact fnOk55 | exact fnOk24 | exact fnOk9 | exact fnOk42 | exact fnOk43 | exact fnOk44 | exact fnOk14 | exact fnOk108 | exact fnOk93 | exact fnOk72 | exact fnOk94 | exact fnOk109 | exact fnOk95 | exact fnOk96 | exact fnOk97 | exact fnOk110 | exact fnOk98 | exact fnOk99 | exact fnOk100 | exact fnOk73 | exact fnOk45 | exact fnOk77 | exact fnOk46 | exact fnOk15 | exact fnOk7 | exact fnOk17 | exact fnOk8 | exact fnOk34 | exact fnOk35 | exact fnOk36 | exact fnOk69 | exact fnOk91 | exact fnOk92 | exact fnOk70 | exact fnOk37 | exact fnOk12 | exact fnOk25 | exact fnOk83 | exact fnOk56 | exact fnOk26 | exact fnOk58 | exact fnOk57 | exact fnOk84 | exact fnOk59 | exact fnOk61 | exact fnOk60 | exact fnOk62 | exact fnOk63 | exact fnOk27 | exact fnOk64 | exact fnOk28 | exact fnOk29 | exact fnOk10 | exact fnOk3 | exact fnOk4 | exact fnOk104 | exact fnOk78 | exact fnOk47 | exact fnOk16 | exact fnOk5 | exact fnOk6 | exact fnOk66 | exact fnOk82 | exact fnOk88) | cases h
end Go.Proofs.YtbinlabnilidiaaGreatDoor.M

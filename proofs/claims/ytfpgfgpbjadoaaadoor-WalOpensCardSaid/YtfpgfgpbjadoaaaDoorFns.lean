/- The functions, compiled for the abstract machine (made by a program of mine, gen.py). -/
import Derived.Test.YtfpgfgpbjadoaaaDoorTy
namespace Go.Proofs.YtfpgfgpbjadoaaaDoor.M
set_option linter.unusedVariables false
set_option linter.unusedSimpArgs false
open Go Go.Pam
set_option maxRecDepth 100000
abbrev Rd (x : PC) := { p : PC // x = p }
abbrev Rb (f : Func) (l : List Nat) := Rd ((f.body.bind (compile l)).getD .skip)
theorem fk {P : Program} {f : FuncId} {pf : PFn} {fn : Func} {c : Code} (m : List Nat) (h : P.funcs[f]? = some fn) (hb : fn.body = some c) (q : (fn.ntmps, fn.results.toList) = (pf.ntmps, pf.results)) (h2 : compile m c = some pf.body := by kernel_rfl) (h5 : decide (fn.name ≠ "runtime.NumGoroutine") = true := by kernel_rfl) : FnOk P f pf :=
 ⟨⟨fn, c, m, h, hb, h2, (Prod.mk.inj q).1, (Prod.mk.inj q).2, of_decide_eq_true h5⟩⟩
def loopIn (i : Nat) : PC → Option PC
 | .seq a b => match loopIn i a with
  | some x => some x
  | none => loopIn i b
 | .cond _ a b => match loopIn i a with
  | some x => some x
  | none => loopIn i b
 | .block j (.loop c) => if i = j then some c else loopIn i c
 | .block _ c => loopIn i c
 | .loop c => loopIn i c
 | _ => none
def red10 : Rb Tryd.f10 [] := by refine ⟨?p, ?h⟩; case h => conv => lhs; reduce
def red10_0 : Rd ((loopIn 0 red10.1).getD .skip) := by refine ⟨?p, ?h⟩; case h => conv => lhs; reduce
def pc10L0 : PC := red10_0.1
def pc10 : PC := red10.1
def fn10 : PFn := ⟨20, [.tmp 2], pc10, false⟩
theorem fnOk10 : FnOk Tryd.prog 10 fn10 := fk [] Tryd.func10 rfl rfl
def red12 : Rb Tryd.f12 [] := by refine ⟨?p, ?h⟩; case h => conv => lhs; reduce
def pc12 : PC := red12.1
def fn12 : PFn := ⟨34, [.tmp 2], pc12, false⟩
theorem fnOk12 : FnOk Tryd.prog 12 fn12 := fk [] Tryd.func12 rfl rfl
def red21 : Rb Tryd.f21 [] := by refine ⟨?p, ?h⟩; case h => conv => lhs; reduce
def pc21 : PC := red21.1
def fn21 : PFn := ⟨58, [.tmp 4, .tmp 5], pc21, false⟩
theorem fnOk21 : FnOk Tryd.prog 21 fn21 := fk [] Tryd.func21 rfl rfl
def red31 : Rb Tryd.f31 [] := by refine ⟨?p, ?h⟩; case h => conv => lhs; reduce
def red31_3 : Rd ((loopIn 3 red31.1).getD .skip) := by refine ⟨?p, ?h⟩; case h => conv => lhs; reduce
def pc31L3 : PC := red31_3.1
def red31_0 : Rd ((loopIn 0 red31.1).getD .skip) := by refine ⟨?p, ?h⟩; case h => conv => lhs; reduce
def pc31L0 : PC := red31_0.1
def pc31 : PC := red31.1
def fn31 : PFn := ⟨54, [.tmp 6], pc31, false⟩
theorem fnOk31 : FnOk Tryd.prog 31 fn31 := fk [] Tryd.func31 rfl rfl
def red22 : Rb Tryd.f22 [] := by refine ⟨?p, ?h⟩; case h => conv => lhs; reduce
def pc22 : PC := red22.1
def fn22 : PFn := ⟨22, [.tmp 4], pc22, false⟩
theorem fnOk22 : FnOk Tryd.prog 22 fn22 := fk [] Tryd.func22 rfl rfl
def red35 : Rb Tryd.f35 [] := by refine ⟨?p, ?h⟩; case h => conv => lhs; reduce
def red35_3 : Rd ((loopIn 3 red35.1).getD .skip) := by refine ⟨?p, ?h⟩; case h => conv => lhs; reduce
def pc35L3 : PC := red35_3.1
def red35_0 : Rd ((loopIn 0 red35.1).getD .skip) := by refine ⟨?p, ?h⟩; case h => conv => lhs; reduce
def pc35L0 : PC := red35_0.1
def pc35 : PC := red35.1
def fn35 : PFn := ⟨62, [.tmp 8], pc35, false⟩
theorem fnOk35 : FnOk Tryd.prog 35 fn35 := fk [] Tryd.func35 rfl rfl
def red23 : Rb Tryd.f23 [] := by refine ⟨?p, ?h⟩; case h => conv => lhs; reduce
def pc23 : PC := red23.1
def fn23 : PFn := ⟨42, [.tmp 4], pc23, false⟩
theorem fnOk23 : FnOk Tryd.prog 23 fn23 := fk [] Tryd.func23 rfl rfl
def red8 : Rb Tryd.f8 [] := by refine ⟨?p, ?h⟩; case h => conv => lhs; reduce
def red8_0 : Rd ((loopIn 0 red8.1).getD .skip) := by refine ⟨?p, ?h⟩; case h => conv => lhs; reduce
def pc8L0 : PC := red8_0.1
def pc8 : PC := red8.1
def fn8 : PFn := ⟨46, [.tmp 2, .tmp 3, .tmp 4], pc8, false⟩
theorem fnOk8 : FnOk Tryd.prog 8 fn8 := fk [] Tryd.func8 rfl rfl
def red15 : Rb Tryd.f15 [] := by refine ⟨?p, ?h⟩; case h => conv => lhs; reduce
def pc15 : PC := red15.1
def fn15 : PFn := ⟨10, [.tmp 2], pc15, false⟩
theorem fnOk15 : FnOk Tryd.prog 15 fn15 := fk [] Tryd.func15 rfl rfl
def red39 : Rb Tryd.f39 [] := by refine ⟨?p, ?h⟩; case h => conv => lhs; reduce
def pc39 : PC := red39.1
def fn39 : PFn := ⟨8, [.tmp 2], pc39, false⟩
theorem fnOk39 : FnOk Tryd.prog 39 fn39 := fk [] Tryd.func39 rfl rfl
def red42 : Rb Tryd.f42 [] := by refine ⟨?p, ?h⟩; case h => conv => lhs; reduce
def pc42 : PC := red42.1
def fn42 : PFn := ⟨22, [.tmp 2], pc42, false⟩
theorem fnOk42 : FnOk Tryd.prog 42 fn42 := fk [] Tryd.func42 rfl rfl
def red36 : Rb Tryd.f36 [11, 1000056] := by refine ⟨?p, ?h⟩; case h => conv => lhs; reduce
def red36_0 : Rd ((loopIn 0 red36.1).getD .skip) := by refine ⟨?p, ?h⟩; case h => conv => lhs; reduce
def pc36L0 : PC := red36_0.1
def pc36 : PC := red36.1
def fn36 : PFn := ⟨61, [.tmp 8], pc36, false⟩
theorem fnOk36 : FnOk Tryd.prog 36 fn36 := fk [11, 1000056] Tryd.func36 rfl rfl
def red24 : Rb Tryd.f24 [] := by refine ⟨?p, ?h⟩; case h => conv => lhs; reduce
def pc24 : PC := red24.1
def fn24 : PFn := ⟨21, [.tmp 6], pc24, false⟩
theorem fnOk24 : FnOk Tryd.prog 24 fn24 := fk [] Tryd.func24 rfl rfl
def red37 : Rb Tryd.f37 [] := by refine ⟨?p, ?h⟩; case h => conv => lhs; reduce
def pc37 : PC := red37.1
def fn37 : PFn := ⟨19, [.tmp 4, .tmp 5], pc37, false⟩
theorem fnOk37 : FnOk Tryd.prog 37 fn37 := fk [] Tryd.func37 rfl rfl
def red38 : Rb Tryd.f38 [] := by refine ⟨?p, ?h⟩; case h => conv => lhs; reduce
def pc38 : PC := red38.1
def fn38 : PFn := ⟨14, [.tmp 2], pc38, false⟩
theorem fnOk38 : FnOk Tryd.prog 38 fn38 := fk [] Tryd.func38 rfl rfl
def red25 : Rb Tryd.f25 [1000003] := by refine ⟨?p, ?h⟩; case h => conv => lhs; reduce
def red25_0 : Rd ((loopIn 0 red25.1).getD .skip) := by refine ⟨?p, ?h⟩; case h => conv => lhs; reduce
def pc25L0 : PC := red25_0.1
def pc25 : PC := red25.1
def fn25 : PFn := ⟨17, [.tmp 2], pc25, false⟩
theorem fnOk25 : FnOk Tryd.prog 25 fn25 := fk [1000003] Tryd.func25 rfl rfl
def red47 : Rb Tryd.f47 [] := by refine ⟨?p, ?h⟩; case h => conv => lhs; reduce
def red47_0 : Rd ((loopIn 0 red47.1).getD .skip) := by refine ⟨?p, ?h⟩; case h => conv => lhs; reduce
def pc47L0 : PC := red47_0.1
def pc47 : PC := red47.1
def fn47 : PFn := ⟨19, [.tmp 4], pc47, false⟩
theorem fnOk47 : FnOk Tryd.prog 47 fn47 := fk [] Tryd.func47 rfl rfl
def red40 : Rb Tryd.f40 [] := by refine ⟨?p, ?h⟩; case h => conv => lhs; reduce
def red40_0 : Rd ((loopIn 0 red40.1).getD .skip) := by refine ⟨?p, ?h⟩; case h => conv => lhs; reduce
def pc40L0 : PC := red40_0.1
def pc40 : PC := red40.1
def fn40 : PFn := ⟨42, [.tmp 4], pc40, true⟩
theorem fnOk40 : FnOk Tryd.prog 40 fn40 := fk [] Tryd.func40 rfl rfl
def red26 : Rb Tryd.f26 [] := by refine ⟨?p, ?h⟩; case h => conv => lhs; reduce
def pc26 : PC := red26.1
def fn26 : PFn := ⟨39, [.tmp 4], pc26, false⟩
theorem fnOk26 : FnOk Tryd.prog 26 fn26 := fk [] Tryd.func26 rfl rfl
def red16 : Rb Tryd.f16 [] := by refine ⟨?p, ?h⟩; case h => conv => lhs; reduce
def pc16 : PC := red16.1
def fn16 : PFn := ⟨19, [.tmp 6], pc16, false⟩
theorem fnOk16 : FnOk Tryd.prog 16 fn16 := fk [] Tryd.func16 rfl rfl
def red28 : Rb Tryd.f28 [] := by refine ⟨?p, ?h⟩; case h => conv => lhs; reduce
def pc28 : PC := red28.1
def fn28 : PFn := ⟨24, [.tmp 4, .tmp 5], pc28, false⟩
theorem fnOk28 : FnOk Tryd.prog 28 fn28 := fk [] Tryd.func28 rfl rfl
def red29 : Rb Tryd.f29 [] := by refine ⟨?p, ?h⟩; case h => conv => lhs; reduce
def pc29 : PC := red29.1
def fn29 : PFn := ⟨14, [.tmp 6], pc29, false⟩
theorem fnOk29 : FnOk Tryd.prog 29 fn29 := fk [] Tryd.func29 rfl rfl
def red19 : Rb Tryd.f19 [] := by refine ⟨?p, ?h⟩; case h => conv => lhs; reduce
def pc19 : PC := red19.1
def fn19 : PFn := ⟨56, [.tmp 4, .tmp 5], pc19, false⟩
theorem fnOk19 : FnOk Tryd.prog 19 fn19 := fk [] Tryd.func19 rfl rfl
def red20 : Rb Tryd.f20 [] := by refine ⟨?p, ?h⟩; case h => conv => lhs; reduce
def pc20 : PC := red20.1
def fn20 : PFn := ⟨19, [.tmp 6], pc20, false⟩
theorem fnOk20 : FnOk Tryd.prog 20 fn20 := fk [] Tryd.func20 rfl rfl
def red7 : Rb Tryd.f7 [] := by refine ⟨?p, ?h⟩; case h => conv => lhs; reduce
def pc7 : PC := red7.1
def fn7 : PFn := ⟨104, [.tmp 0], pc7, false⟩
theorem fnOk7 : FnOk Tryd.prog 7 fn7 := fk [] Tryd.func7 rfl rfl
def red11 : Rb Tryd.f11 [] := by refine ⟨?p, ?h⟩; case h => conv => lhs; reduce
def red11_0 : Rd ((loopIn 0 red11.1).getD .skip) := by refine ⟨?p, ?h⟩; case h => conv => lhs; reduce
def pc11L0 : PC := red11_0.1
def pc11 : PC := red11.1
def fn11 : PFn := ⟨19, [.tmp 2], pc11, false⟩
theorem fnOk11 : FnOk Tryd.prog 11 fn11 := fk [] Tryd.func11 rfl rfl
def red9 : Rb Tryd.f9 [] := by refine ⟨?p, ?h⟩; case h => conv => lhs; reduce
def red9_0 : Rd ((loopIn 0 red9.1).getD .skip) := by refine ⟨?p, ?h⟩; case h => conv => lhs; reduce
def pc9L0 : PC := red9_0.1
def pc9 : PC := red9.1
def fn9 : PFn := ⟨94, [.tmp 2, .tmp 3, .tmp 4], pc9, false⟩
theorem fnOk9 : FnOk Tryd.prog 9 fn9 := fk [] Tryd.func9 rfl rfl
def red13 : Rb Tryd.f13 [] := by refine ⟨?p, ?h⟩; case h => conv => lhs; reduce
def pc13 : PC := red13.1
def fn13 : PFn := ⟨34, [.tmp 2], pc13, false⟩
theorem fnOk13 : FnOk Tryd.prog 13 fn13 := fk [] Tryd.func13 rfl rfl
def red14 : Rb Tryd.f14 [] := by refine ⟨?p, ?h⟩; case h => conv => lhs; reduce
def red14_0 : Rd ((loopIn 0 red14.1).getD .skip) := by refine ⟨?p, ?h⟩; case h => conv => lhs; reduce
def pc14L0 : PC := red14_0.1
def pc14 : PC := red14.1
def fn14 : PFn := ⟨26, [.tmp 4], pc14, false⟩
theorem fnOk14 : FnOk Tryd.prog 14 fn14 := fk [] Tryd.func14 rfl rfl
def red3 : Rb Tryd.f3 [] := by refine ⟨?p, ?h⟩; case h => conv => lhs; reduce
def pc3 : PC := red3.1
def fn3 : PFn := ⟨60, [.tmp 4], pc3, false⟩
theorem fnOk3 : FnOk Tryd.prog 3 fn3 := fk [] Tryd.func3 rfl rfl
def red4 : Rb Tryd.f4 [1000109] := by refine ⟨?p, ?h⟩; case h => conv => lhs; reduce
def red4_0 : Rd ((loopIn 0 red4.1).getD .skip) := by refine ⟨?p, ?h⟩; case h => conv => lhs; reduce
def pc4L0 : PC := red4_0.1
def pc4 : PC := red4.1
def fn4 : PFn := ⟨154, [.tmp 8], pc4, false⟩
theorem fnOk4 : FnOk Tryd.prog 4 fn4 := fk [1000109] Tryd.func4 rfl rfl
def red17 : Rb Tryd.f17 [] := by refine ⟨?p, ?h⟩; case h => conv => lhs; reduce
def pc17 : PC := red17.1
def fn17 : PFn := ⟨9, [], pc17, false⟩
theorem fnOk17 : FnOk Tryd.prog 17 fn17 := fk [] Tryd.func17 rfl rfl
def red27 : Rb Tryd.f27 [] := by refine ⟨?p, ?h⟩; case h => conv => lhs; reduce
def pc27 : PC := red27.1
def fn27 : PFn := ⟨9, [.tmp 2], pc27, false⟩
theorem fnOk27 : FnOk Tryd.prog 27 fn27 := fk [] Tryd.func27 rfl rfl
def red18 : Rb Tryd.f18 [] := by refine ⟨?p, ?h⟩; case h => conv => lhs; reduce
def red18_0 : Rd ((loopIn 0 red18.1).getD .skip) := by refine ⟨?p, ?h⟩; case h => conv => lhs; reduce
def pc18L0 : PC := red18_0.1
def pc18 : PC := red18.1
def fn18 : PFn := ⟨110, [], pc18, false⟩
theorem fnOk18 : FnOk Tryd.prog 18 fn18 := fk [] Tryd.func18 rfl rfl
def red5 : Rb Tryd.f5 [] := by refine ⟨?p, ?h⟩; case h => conv => lhs; reduce
def red5_0 : Rd ((loopIn 0 red5.1).getD .skip) := by refine ⟨?p, ?h⟩; case h => conv => lhs; reduce
def pc5L0 : PC := red5_0.1
def red5_2 : Rd ((loopIn 2 red5.1).getD .skip) := by refine ⟨?p, ?h⟩; case h => conv => lhs; reduce
def pc5L2 : PC := red5_2.1
def pc5 : PC := red5.1
def fn5 : PFn := ⟨134, [.tmp 8], pc5, false⟩
theorem fnOk5 : FnOk Tryd.prog 5 fn5 := fk [] Tryd.func5 rfl rfl
def red6 : Rb Tryd.f6 [] := by refine ⟨?p, ?h⟩; case h => conv => lhs; reduce
def red6_0 : Rd ((loopIn 0 red6.1).getD .skip) := by refine ⟨?p, ?h⟩; case h => conv => lhs; reduce
def pc6L0 : PC := red6_0.1
def red6_2 : Rd ((loopIn 2 red6.1).getD .skip) := by refine ⟨?p, ?h⟩; case h => conv => lhs; reduce
def pc6L2 : PC := red6_2.1
def pc6 : PC := red6.1
def fn6 : PFn := ⟨92, [.tmp 8], pc6, false⟩
theorem fnOk6 : FnOk Tryd.prog 6 fn6 := fk [] Tryd.func6 rfl rfl
def red41 : Rb Tryd.f41 [] := by refine ⟨?p, ?h⟩; case h => conv => lhs; reduce
def pc41 : PC := red41.1
def fn41 : PFn := ⟨8, [.tmp 3], pc41, false⟩
theorem fnOk41 : FnOk Tryd.prog 41 fn41 := fk [] Tryd.func41 rfl rfl
def fnOf : FuncId → Option PFn
 | 10 => some fn10
 | 12 => some fn12
 | 21 => some fn21
 | 31 => some fn31
 | 22 => some fn22
 | 35 => some fn35
 | 23 => some fn23
 | 8 => some fn8
 | 15 => some fn15
 | 39 => some fn39
 | 42 => some fn42
 | 36 => some fn36
 | 24 => some fn24
 | 37 => some fn37
 | 38 => some fn38
 | 25 => some fn25
 | 47 => some fn47
 | 40 => some fn40
 | 26 => some fn26
 | 16 => some fn16
 | 28 => some fn28
 | 29 => some fn29
 | 19 => some fn19
 | 20 => some fn20
 | 7 => some fn7
 | 11 => some fn11
 | 9 => some fn9
 | 13 => some fn13
 | 14 => some fn14
 | 3 => some fn3
 | 4 => some fn4
 | 17 => some fn17
 | 27 => some fn27
 | 18 => some fn18
 | 5 => some fn5
 | 6 => some fn6
 | 41 => some fn41
 | _ => none
theorem fnOf_ok : ∀ f pf, fnOf f = some pf → FnOk Tryd.prog f pf := by
 intro f pf h
 unfold fnOf at h
 split at h <;> first | (injection h with h; subst h; first | exact fnOk10 | exact fnOk12 | exact fnOk21 | exact fnOk31 | exact fnOk22 | exact fnOk35 | exact fnOk23 | exact fnOk8 | exact fnOk15 | exact fnOk39 | exact fnOk42 | exact fnOk36 | exact fnOk24 | exact fnOk37 | exact fnOk38 | exact fnOk25 | exact fnOk47 | exact fnOk40 | exact fnOk26 | exact fnOk16 | exact fnOk28 | exact fnOk29 | exact fnOk19 | exact fnOk20 | exact fnOk7 | exact fnOk11 | exact fnOk9 | exact fnOk13 | exact fnOk14 | exact fnOk3 | exact fnOk4 | exact fnOk17 | exact fnOk27 | exact fnOk18 | exact fnOk5 | exact fnOk6 | exact fnOk41) | cases h
end Go.Proofs.YtfpgfgpbjadoaaaDoor.M

/- The functions, compiled for the abstract machine (made by a program of mine, gen.py). -/
import Derived.Test.YtbinlabnilidiaaGreatDoorTy
namespace Go.Proofs.YtbinlabnilidiaaGreatDoor.M
set_option linter.unusedVariables false
set_option linter.unusedSimpArgs false
open Go Go.Pam
set_option maxRecDepth 100000
abbrev Rd (x : PC) := { p : PC // x = p }
abbrev Rb (f : Func) (l : List Nat) := Rd ((f.body.bind (Xbd l)).getD .skip)
theorem fk {P : Program} {f : FuncId} {pf : PFn} {fn : Func} {c : Code} (m : List Nat) (h : P.funcs[f]? = some fn) (hb : fn.body = some c) (q : (fn.ntmps, fn.results.toList) = (pf.ntmps, pf.results)) (h2 : Xbd m c = some pf.body := by kernel_rfl) (h5 : decide (fn.name ≠ "runtime.NumGoroutine") = true := by kernel_rfl) : Xbf P f pf :=
 ⟨⟨fn, c, m, h, hb, h2, (Prod.mk.inj q).1, (Prod.mk.inj q).2, of_decide_eq_true h5⟩⟩
def XaB (i : Nat) : PC → Option PC
 | .seq a b => match XaB i a with
  | some x => some x
  | none => XaB i b
 | .cond _ a b => match XaB i a with
  | some x => some x
  | none => XaB i b
 | .block j (.loop c) => if i = j then some c else XaB i c
 | .block _ c => XaB i c
 | .loop c => XaB i c
 | _ => none
def Xpz : Rb Tryz.f39 [] := by refine ⟨?p, ?h⟩; case h => conv => lhs; reduce
def XmT : Rd ((XaB 0 Xpz.1).getD .skip) := by refine ⟨?p, ?h⟩; case h => conv => lhs; reduce
def Xp0 : PC := XmT.1
def pc39 : PC := Xpz.1
def Xuj : PFn := ⟨26, [.tmp 4], pc39, false⟩
theorem Xp1 : Xbf Tryz.prog 39 Xuj := fk [] Tryz.func39 rfl rfl
def Xp2 : Rb Tryz.f71 [] := by refine ⟨?p, ?h⟩; case h => conv => lhs; reduce
def XmU : Rd ((XaB 0 Xp2.1).getD .skip) := by refine ⟨?p, ?h⟩; case h => conv => lhs; reduce
def Xp3 : PC := XmU.1
def pc71 : PC := Xp2.1
def Xuk : PFn := ⟨32, [.tmp 6], pc71, false⟩
theorem Xp4 : Xbf Tryz.prog 71 Xuk := fk [] Tryz.func71 rfl rfl
def Xul : Rb Tryz.f38 [] := by refine ⟨?p, ?h⟩; case h => conv => lhs; reduce
def pc38 : PC := Xul.1
def Xum : PFn := ⟨38, [.tmp 4], pc38, false⟩
theorem Xp5 : Xbf Tryz.prog 38 Xum := fk [] Tryz.func38 rfl rfl
def Xp6 : Rb Tryz.f40 [] := by refine ⟨?p, ?h⟩; case h => conv => lhs; reduce
def XmV : Rd ((XaB 0 Xp6.1).getD .skip) := by refine ⟨?p, ?h⟩; case h => conv => lhs; reduce
def Xp7 : PC := XmV.1
def pc40 : PC := Xp6.1
def Xun : PFn := ⟨32, [.tmp 6], pc40, false⟩
theorem Xp8 : Xbf Tryz.prog 40 Xun := fk [] Tryz.func40 rfl rfl
def Xuo : Rb Tryz.f41 [] := by refine ⟨?p, ?h⟩; case h => conv => lhs; reduce
def pc41 : PC := Xuo.1
def Xup : PFn := ⟨24, [.tmp 4], pc41, false⟩
theorem Xp9 : Xbf Tryz.prog 41 Xup := fk [] Tryz.func41 rfl rfl
def Xuq : Rb Tryz.f13 [] := by refine ⟨?p, ?h⟩; case h => conv => lhs; reduce
def pc13 : PC := Xuq.1
def Xur : PFn := ⟨142, [.tmp 4], pc13, false⟩
theorem XpA : Xbf Tryz.prog 13 Xur := fk [] Tryz.func13 rfl rfl
def Xus : Rb Tryz.f18 [] := by refine ⟨?p, ?h⟩; case h => conv => lhs; reduce
def pc18 : PC := Xus.1
def Xut : PFn := ⟨19, [.tmp 4], pc18, false⟩
theorem XpB : Xbf Tryz.prog 18 Xut := fk [] Tryz.func18 rfl rfl
def Xuu : Rb Tryz.f30 [12, 13, 16, 19, 20] := by refine ⟨?p, ?h⟩; case h => conv => lhs; reduce
def pc30 : PC := Xuu.1
def Xtz : PFn := ⟨93, [.cell 2 28], pc30, false⟩
theorem XpC : Xbf Tryz.prog 30 Xtz := fk [12, 13, 16, 19, 20] Tryz.func30 rfl rfl
def XpD : Rb Tryz.f85 [] := by refine ⟨?p, ?h⟩; case h => conv => lhs; reduce
def XmW : Rd ((XaB 0 XpD.1).getD .skip) := by refine ⟨?p, ?h⟩; case h => conv => lhs; reduce
def XpE : PC := XmW.1
def pc85 : PC := XpD.1
def Xuv : PFn := ⟨19, [.tmp 4], pc85, false⟩
theorem XpF : Xbf Tryz.prog 85 Xuv := fk [] Tryz.func85 rfl rfl
def Xuw : Rb Tryz.f65 [] := by refine ⟨?p, ?h⟩; case h => conv => lhs; reduce
def pc65 : PC := Xuw.1
def Xux : PFn := ⟨9, [.tmp 4], pc65, false⟩
theorem XpG : Xbf Tryz.prog 65 Xux := fk [] Tryz.func65 rfl rfl
def Xuy : Rb Tryz.f31 [] := by refine ⟨?p, ?h⟩; case h => conv => lhs; reduce
def pc31 : PC := Xuy.1
def Xuz : PFn := ⟨6, [.tmp 2], pc31, false⟩
theorem XpH : Xbf Tryz.prog 31 Xuz := fk [] Tryz.func31 rfl rfl
def Xu0 : Rb Tryz.f86 [] := by refine ⟨?p, ?h⟩; case h => conv => lhs; reduce
def pc86 : PC := Xu0.1
def Xu1 : PFn := ⟨9, [.tmp 2], pc86, false⟩
theorem XpI : Xbf Tryz.prog 86 Xu1 := fk [] Tryz.func86 rfl rfl
def XpJ : Rb Tryz.f67 [] := by refine ⟨?p, ?h⟩; case h => conv => lhs; reduce
def XmX : Rd ((XaB 0 XpJ.1).getD .skip) := by refine ⟨?p, ?h⟩; case h => conv => lhs; reduce
def XpK : PC := XmX.1
def pc67 : PC := XpJ.1
def Xu2 : PFn := ⟨31, [.tmp 2], pc67, false⟩
theorem XpL : Xbf Tryz.prog 67 Xu2 := fk [] Tryz.func67 rfl rfl
def Xml : Rb Tryz.f106 [] := by refine ⟨?p, ?h⟩; case h => conv => lhs; reduce
def XlF : Rd ((XaB 0 Xml.1).getD .skip) := by refine ⟨?p, ?h⟩; case h => conv => lhs; reduce
def XmY : PC := XlF.1
def Xu3 : PC := Xml.1
def XmZ : PFn := ⟨19, [.tmp 4], Xu3, false⟩
theorem Xna : Xbf Tryz.prog 106 XmZ := fk [] Tryz.func106 rfl rfl
def Xu4 : Rb Tryz.f87 [] := by refine ⟨?p, ?h⟩; case h => conv => lhs; reduce
def pc87 : PC := Xu4.1
def Xu5 : PFn := ⟨9, [.tmp 4], pc87, false⟩
theorem XpM : Xbf Tryz.prog 87 Xu5 := fk [] Tryz.func87 rfl rfl
def XpN : Rb Tryz.f89 [] := by refine ⟨?p, ?h⟩; case h => conv => lhs; reduce
def Xnb : Rd ((XaB 0 XpN.1).getD .skip) := by refine ⟨?p, ?h⟩; case h => conv => lhs; reduce
def XpO : PC := Xnb.1
def pc89 : PC := XpN.1
def Xu6 : PFn := ⟨46, [.tmp 2], pc89, false⟩
theorem XpP : Xbf Tryz.prog 89 Xu6 := fk [] Tryz.func89 rfl rfl
def XkD : Rb Tryz.f107 [] := by refine ⟨?p, ?h⟩; case h => conv => lhs; reduce
def XlG : Rd ((XaB 1 XkD.1).getD .skip) := by refine ⟨?p, ?h⟩; case h => conv => lhs; reduce
def Xu7 : PC := XlG.1
def XlH : Rd ((XaB 3 XkD.1).getD .skip) := by refine ⟨?p, ?h⟩; case h => conv => lhs; reduce
def Xu8 : PC := XlH.1
def Xu9 : PC := XkD.1
def XpQ : PFn := ⟨75, [.tmp 4], Xu9, false⟩
theorem Xnc : Xbf Tryz.prog 107 XpQ := fk [] Tryz.func107 rfl rfl
def XpR : Rb Tryz.f90 [] := by refine ⟨?p, ?h⟩; case h => conv => lhs; reduce
def Xnd : Rd ((XaB 0 XpR.1).getD .skip) := by refine ⟨?p, ?h⟩; case h => conv => lhs; reduce
def XpS : PC := Xnd.1
def pc90 : PC := XpR.1
def XuA : PFn := ⟨44, [.tmp 2], pc90, false⟩
theorem XpT : Xbf Tryz.prog 90 XuA := fk [] Tryz.func90 rfl rfl
def XuB : Rb Tryz.f68 [] := by refine ⟨?p, ?h⟩; case h => conv => lhs; reduce
def pc68 : PC := XuB.1
def XuC : PFn := ⟨102, [.tmp 2], pc68, false⟩
theorem XpU : Xbf Tryz.prog 68 XuC := fk [] Tryz.func68 rfl rfl
def XuD : Rb Tryz.f32 [] := by refine ⟨?p, ?h⟩; case h => conv => lhs; reduce
def pc32 : PC := XuD.1
def XuE : PFn := ⟨10, [.tmp 2], pc32, false⟩
theorem XpV : Xbf Tryz.prog 32 XuE := fk [] Tryz.func32 rfl rfl
def XpW : Rb Tryz.f33 [] := by refine ⟨?p, ?h⟩; case h => conv => lhs; reduce
def Xne : Rd ((XaB 0 XpW.1).getD .skip) := by refine ⟨?p, ?h⟩; case h => conv => lhs; reduce
def XpX : PC := Xne.1
def pc33 : PC := XpW.1
def XuF : PFn := ⟨45, [.tmp 4], pc33, false⟩
theorem XpY : Xbf Tryz.prog 33 XuF := fk [] Tryz.func33 rfl rfl
def XuG : Rb Tryz.f11 [] := by refine ⟨?p, ?h⟩; case h => conv => lhs; reduce
def pc11 : PC := XuG.1
def XuH : PFn := ⟨120, [.tmp 2], pc11, false⟩
theorem XpZ : Xbf Tryz.prog 11 XuH := fk [] Tryz.func11 rfl rfl
def XuI : Rb Tryz.f19 [] := by refine ⟨?p, ?h⟩; case h => conv => lhs; reduce
def pc19 : PC := XuI.1
def Xt0 : PFn := ⟨8, [.cell 4 50], pc19, false⟩
theorem Xqa : Xbf Tryz.prog 19 Xt0 := fk [] Tryz.func19 rfl rfl
def XuJ : Rb Tryz.f20 [] := by refine ⟨?p, ?h⟩; case h => conv => lhs; reduce
def pc20 : PC := XuJ.1
def Xt1 : PFn := ⟨8, [.cell 4 50], pc20, false⟩
theorem Xqb : Xbf Tryz.prog 20 Xt1 := fk [] Tryz.func20 rfl rfl
def Xqc : Rb Tryz.f51 [] := by refine ⟨?p, ?h⟩; case h => conv => lhs; reduce
def Xnf : Rd ((XaB 0 Xqc.1).getD .skip) := by refine ⟨?p, ?h⟩; case h => conv => lhs; reduce
def Xqd : PC := Xnf.1
def pc51 : PC := Xqc.1
def XuK : PFn := ⟨28, [.tmp 2], pc51, false⟩
theorem Xqe : Xbf Tryz.prog 51 XuK := fk [] Tryz.func51 rfl rfl
def XuL : Rb Tryz.f22 [] := by refine ⟨?p, ?h⟩; case h => conv => lhs; reduce
def pc22 : PC := XuL.1
def Xt2 : PFn := ⟨9, [.cell 4 50], pc22, false⟩
theorem Xqf : Xbf Tryz.prog 22 Xt2 := fk [] Tryz.func22 rfl rfl
def XuM : Rb Tryz.f79 [] := by refine ⟨?p, ?h⟩; case h => conv => lhs; reduce
def pc79 : PC := XuM.1
def XuN : PFn := ⟨6, [.tmp 2], pc79, false⟩
theorem Xqg : Xbf Tryz.prog 79 XuN := fk [] Tryz.func79 rfl rfl
def XuO : Rb Tryz.f48 [] := by refine ⟨?p, ?h⟩; case h => conv => lhs; reduce
def pc48 : PC := XuO.1
def Xt3 : PFn := ⟨6, [.cell 2 50], pc48, false⟩
theorem Xqh : Xbf Tryz.prog 48 Xt3 := fk [] Tryz.func48 rfl rfl
def Xng : Rb Tryz.f49 [] := by refine ⟨?p, ?h⟩; case h => conv => lhs; reduce
def Xnh : Rd ((XaB 1 Xng.1).getD .skip) := by refine ⟨?p, ?h⟩; case h => conv => lhs; reduce
def Xqi : PC := Xnh.1
def Xni : Rd ((XaB 3 Xng.1).getD .skip) := by refine ⟨?p, ?h⟩; case h => conv => lhs; reduce
def Xqj : PC := Xni.1
def pc49 : PC := Xng.1
def Xt4 : PFn := ⟨87, [.cell 2 50], pc49, false⟩
theorem Xqk : Xbf Tryz.prog 49 Xt4 := fk [] Tryz.func49 rfl rfl
def Xql : Rb Tryz.f80 [] := by refine ⟨?p, ?h⟩; case h => conv => lhs; reduce
def Xnj : Rd ((XaB 0 Xql.1).getD .skip) := by refine ⟨?p, ?h⟩; case h => conv => lhs; reduce
def Xqm : PC := Xnj.1
def pc80 : PC := Xql.1
def Xt5 : PFn := ⟨26, [.cell 4 50], pc80, false⟩
theorem Xqn : Xbf Tryz.prog 80 Xt5 := fk [] Tryz.func80 rfl rfl
def Xqo : Rb Tryz.f50 [] := by refine ⟨?p, ?h⟩; case h => conv => lhs; reduce
def Xnk : Rd ((XaB 0 Xqo.1).getD .skip) := by refine ⟨?p, ?h⟩; case h => conv => lhs; reduce
def Xqp : PC := Xnk.1
def pc50 : PC := Xqo.1
def Xt6 : PFn := ⟨35, [.cell 4 50], pc50, false⟩
theorem Xqq : Xbf Tryz.prog 50 Xt6 := fk [] Tryz.func50 rfl rfl
def Xqr : Rb Tryz.f21 [] := by refine ⟨?p, ?h⟩; case h => conv => lhs; reduce
def Xnl : Rd ((XaB 1 Xqr.1).getD .skip) := by refine ⟨?p, ?h⟩; case h => conv => lhs; reduce
def Xqs : PC := Xnl.1
def pc21 : PC := Xqr.1
def Xt7 : PFn := ⟨111, [.tmp 2], pc21, false⟩
theorem Xqt : Xbf Tryz.prog 21 Xt7 := fk [] Tryz.func21 rfl rfl
def XuP : Rb Tryz.f52 [] := by refine ⟨?p, ?h⟩; case h => conv => lhs; reduce
def pc52 : PC := XuP.1
def XuQ : PFn := ⟨24, [.tmp 2], pc52, false⟩
theorem Xqu : Xbf Tryz.prog 52 XuQ := fk [] Tryz.func52 rfl rfl
def Xqv : Rb Tryz.f23 [] := by refine ⟨?p, ?h⟩; case h => conv => lhs; reduce
def Xnm : Rd ((XaB 0 Xqv.1).getD .skip) := by refine ⟨?p, ?h⟩; case h => conv => lhs; reduce
def Xqw : PC := Xnm.1
def pc23 : PC := Xqv.1
def XuR : PFn := ⟨28, [.tmp 2], pc23, false⟩
theorem Xqx : Xbf Tryz.prog 23 XuR := fk [] Tryz.func23 rfl rfl
def Xmm : Rb Tryz.f105 [] := by refine ⟨?p, ?h⟩; case h => conv => lhs; reduce
def XlI : Rd ((XaB 0 Xmm.1).getD .skip) := by refine ⟨?p, ?h⟩; case h => conv => lhs; reduce
def Xnn : PC := XlI.1
def XuS : PC := Xmm.1
def Xno : PFn := ⟨19, [.tmp 4], XuS, false⟩
theorem Xnp : Xbf Tryz.prog 105 Xno := fk [] Tryz.func105 rfl rfl
def XuT : Rb Tryz.f81 [] := by refine ⟨?p, ?h⟩; case h => conv => lhs; reduce
def pc81 : PC := XuT.1
def XuU : PFn := ⟨9, [.tmp 4], pc81, false⟩
theorem Xqy : Xbf Tryz.prog 81 XuU := fk [] Tryz.func81 rfl rfl
def XuV : Rb Tryz.f53 [] := by refine ⟨?p, ?h⟩; case h => conv => lhs; reduce
def pc53 : PC := XuV.1
def XuW : PFn := ⟨26, [.tmp 2], pc53, false⟩
theorem Xqz : Xbf Tryz.prog 53 XuW := fk [] Tryz.func53 rfl rfl
def Xq0 : Rb Tryz.f54 [] := by refine ⟨?p, ?h⟩; case h => conv => lhs; reduce
def Xnq : Rd ((XaB 0 Xq0.1).getD .skip) := by refine ⟨?p, ?h⟩; case h => conv => lhs; reduce
def Xq1 : PC := Xnq.1
def pc54 : PC := Xq0.1
def XuX : PFn := ⟨20, [.tmp 2], pc54, false⟩
theorem Xq2 : Xbf Tryz.prog 54 XuX := fk [] Tryz.func54 rfl rfl
def Xq3 : Rb Tryz.f55 [] := by refine ⟨?p, ?h⟩; case h => conv => lhs; reduce
def Xnr : Rd ((XaB 0 Xq3.1).getD .skip) := by refine ⟨?p, ?h⟩; case h => conv => lhs; reduce
def Xq4 : PC := Xnr.1
def pc55 : PC := Xq3.1
def XuY : PFn := ⟨52, [.tmp 2, .tmp 3], pc55, false⟩
theorem Xq5 : Xbf Tryz.prog 55 XuY := fk [] Tryz.func55 rfl rfl
def XuZ : Rb Tryz.f24 [] := by refine ⟨?p, ?h⟩; case h => conv => lhs; reduce
def pc24 : PC := XuZ.1
def Xva : PFn := ⟨20, [.tmp 2, .tmp 3], pc24, false⟩
theorem Xq6 : Xbf Tryz.prog 24 Xva := fk [] Tryz.func24 rfl rfl
def red9 : Rb Tryz.f9 [10, 1000033, 1000036] := by refine ⟨?p, ?h⟩; case h => conv => lhs; reduce
def pc9 : PC := red9.1
def fn9 : PFn := ⟨44, [.tmp 2, .tmp 3], pc9, false⟩
theorem Xvb : Xbf Tryz.prog 9 fn9 := fk [10, 1000033, 1000036] Tryz.func9 rfl rfl
def Xns : Rb Tryz.f42 [] := by refine ⟨?p, ?h⟩; case h => conv => lhs; reduce
def Xnt : Rd ((XaB 0 Xns.1).getD .skip) := by refine ⟨?p, ?h⟩; case h => conv => lhs; reduce
def Xq7 : PC := Xnt.1
def Xnu : Rd ((XaB 2 Xns.1).getD .skip) := by refine ⟨?p, ?h⟩; case h => conv => lhs; reduce
def Xq8 : PC := Xnu.1
def pc42 : PC := Xns.1
def Xvc : PFn := ⟨81, [.tmp 4], pc42, false⟩
theorem Xq9 : Xbf Tryz.prog 42 Xvc := fk [] Tryz.func42 rfl rfl
def XqA : Rb Tryz.f43 [] := by refine ⟨?p, ?h⟩; case h => conv => lhs; reduce
def Xnv : Rd ((XaB 0 XqA.1).getD .skip) := by refine ⟨?p, ?h⟩; case h => conv => lhs; reduce
def XqB : PC := Xnv.1
def pc43 : PC := XqA.1
def Xvd : PFn := ⟨26, [.tmp 4], pc43, false⟩
theorem XqC : Xbf Tryz.prog 43 Xvd := fk [] Tryz.func43 rfl rfl
def XqD : Rb Tryz.f44 [] := by refine ⟨?p, ?h⟩; case h => conv => lhs; reduce
def Xnw : Rd ((XaB 0 XqD.1).getD .skip) := by refine ⟨?p, ?h⟩; case h => conv => lhs; reduce
def XqE : PC := Xnw.1
def pc44 : PC := XqD.1
def Xve : PFn := ⟨55, [.tmp 4], pc44, false⟩
theorem XqF : Xbf Tryz.prog 44 Xve := fk [] Tryz.func44 rfl rfl
def Xvf : Rb Tryz.f14 [] := by refine ⟨?p, ?h⟩; case h => conv => lhs; reduce
def pc14 : PC := Xvf.1
def Xvg : PFn := ⟨136, [.tmp 4], pc14, false⟩
theorem XqG : Xbf Tryz.prog 14 Xvg := fk [] Tryz.func14 rfl rfl
def Xmn : Rb Tryz.f108 [] := by refine ⟨?p, ?h⟩; case h => conv => lhs; reduce
def XlJ : Rd ((XaB 4 Xmn.1).getD .skip) := by refine ⟨?p, ?h⟩; case h => conv => lhs; reduce
def Xnx : PC := XlJ.1
def Xvh : PC := Xmn.1
def Xny : PFn := ⟨59, [.tmp 2, .tmp 3, .tmp 4], Xvh, false⟩
theorem Xnz : Xbf Tryz.prog 108 Xny := fk [] Tryz.func108 rfl rfl
def XqH : Rb Tryz.f93 [] := by refine ⟨?p, ?h⟩; case h => conv => lhs; reduce
def Xn0 : Rd ((XaB 0 XqH.1).getD .skip) := by refine ⟨?p, ?h⟩; case h => conv => lhs; reduce
def XqI : PC := Xn0.1
def pc93 : PC := XqH.1
def Xt8 : PFn := ⟨121, [.cell 8 50, .tmp 9, .tmp 10], pc93, false⟩
theorem XqJ : Xbf Tryz.prog 93 Xt8 := fk [] Tryz.func93 rfl rfl
def Xvi : Rb Tryz.f72 [4] := by refine ⟨?p, ?h⟩; case h => conv => lhs; reduce
def pc72 : PC := Xvi.1
def Xt9 : PFn := ⟨31, [.cell 2 50, .tmp 3, .tmp 4, .tmp 5], pc72, false⟩
theorem XqK : Xbf Tryz.prog 72 Xt9 := fk [4] Tryz.func72 rfl rfl
def Xvj : Rb Tryz.f94 [] := by refine ⟨?p, ?h⟩; case h => conv => lhs; reduce
def pc94 : PC := Xvj.1
def XtA : PFn := ⟨16, [.cell 4 50], pc94, false⟩
theorem XqL : Xbf Tryz.prog 94 XtA := fk [] Tryz.func94 rfl rfl
def Xmo : Rb Tryz.f109 [] := by refine ⟨?p, ?h⟩; case h => conv => lhs; reduce
def XlK : Rd ((XaB 4 Xmo.1).getD .skip) := by refine ⟨?p, ?h⟩; case h => conv => lhs; reduce
def Xn1 : PC := XlK.1
def Xvk : PC := Xmo.1
def Xn2 : PFn := ⟨38, [.tmp 2, .tmp 3], Xvk, false⟩
theorem Xn3 : Xbf Tryz.prog 109 Xn2 := fk [] Tryz.func109 rfl rfl
def Xvl : Rb Tryz.f95 [] := by refine ⟨?p, ?h⟩; case h => conv => lhs; reduce
def pc95 : PC := Xvl.1
def Xvm : PFn := ⟨22, [.tmp 2], pc95, false⟩
theorem XqM : Xbf Tryz.prog 95 Xvm := fk [] Tryz.func95 rfl rfl
def Xn4 : Rb Tryz.f96 [] := by refine ⟨?p, ?h⟩; case h => conv => lhs; reduce
def Xn5 : Rd ((XaB 0 Xn4.1).getD .skip) := by refine ⟨?p, ?h⟩; case h => conv => lhs; reduce
def XqN : PC := Xn5.1
def Xn6 : Rd ((XaB 2 Xn4.1).getD .skip) := by refine ⟨?p, ?h⟩; case h => conv => lhs; reduce
def XqO : PC := Xn6.1
def pc96 : PC := Xn4.1
def Xvn : PFn := ⟨28, [.tmp 2, .tmp 3], pc96, false⟩
theorem XqP : Xbf Tryz.prog 96 Xvn := fk [] Tryz.func96 rfl rfl
def XqQ : Rb Tryz.f97 [] := by refine ⟨?p, ?h⟩; case h => conv => lhs; reduce
def Xn7 : Rd ((XaB 0 XqQ.1).getD .skip) := by refine ⟨?p, ?h⟩; case h => conv => lhs; reduce
def XqR : PC := Xn7.1
def pc97 : PC := XqQ.1
def XtB : PFn := ⟨20, [.tmp 2], pc97, false⟩
theorem XqS : Xbf Tryz.prog 97 XtB := fk [] Tryz.func97 rfl rfl
def Xmp : Rb Tryz.f110 [1000007, 1000020, 1000043] := by refine ⟨?p, ?h⟩; case h => conv => lhs; reduce
def XlL : Rd ((XaB 0 Xmp.1).getD .skip) := by refine ⟨?p, ?h⟩; case h => conv => lhs; reduce
def Xn8 : PC := XlL.1
def Xvo : PC := Xmp.1
def XlM : PFn := ⟨44, [.tmp 2], Xvo, false⟩
theorem Xn9 : Xbf Tryz.prog 110 XlM := fk [1000007, 1000020, 1000043] Tryz.func110 rfl rfl
def XqT : Rb Tryz.f98 [9] := by refine ⟨?p, ?h⟩; case h => conv => lhs; reduce
def XnA : Rd ((XaB 1 XqT.1).getD .skip) := by refine ⟨?p, ?h⟩; case h => conv => lhs; reduce
def XqU : PC := XnA.1
def pc98 : PC := XqT.1
def XtC : PFn := ⟨78, [.cell 4 25], pc98, false⟩
theorem XqV : Xbf Tryz.prog 98 XtC := fk [9] Tryz.func98 rfl rfl
def XqW : Rb Tryz.f99 [] := by refine ⟨?p, ?h⟩; case h => conv => lhs; reduce
def XnB : Rd ((XaB 0 XqW.1).getD .skip) := by refine ⟨?p, ?h⟩; case h => conv => lhs; reduce
def XqX : PC := XnB.1
def pc99 : PC := XqW.1
def XtD : PFn := ⟨39, [.tmp 4], pc99, false⟩
theorem XqY : Xbf Tryz.prog 99 XtD := fk [] Tryz.func99 rfl rfl
def XqZ : Rb Tryz.f100 [] := by refine ⟨?p, ?h⟩; case h => conv => lhs; reduce
def Xvp : PC := XqZ.1
def XnC : PFn := ⟨15, [.tmp 2, .tmp 3], Xvp, false⟩
theorem XnD : Xbf Tryz.prog 100 XnC := fk [] Tryz.func100 rfl rfl
def Xvq : Rb Tryz.f73 [6, 17, 21, 23] := by refine ⟨?p, ?h⟩; case h => conv => lhs; reduce
def pc73 : PC := Xvq.1
def XtE : PFn := ⟨131, [.cell 2 28], pc73, false⟩
theorem Xra : Xbf Tryz.prog 73 XtE := fk [6, 17, 21, 23] Tryz.func73 rfl rfl
def Xvr : Rb Tryz.f45 [] := by refine ⟨?p, ?h⟩; case h => conv => lhs; reduce
def pc45 : PC := Xvr.1
def XtF : PFn := ⟨53, [.cell 2 28, .tmp 3], pc45, false⟩
theorem Xrb : Xbf Tryz.prog 45 XtF := fk [] Tryz.func45 rfl rfl
def XnE : Rb Tryz.f77 [] := by refine ⟨?p, ?h⟩; case h => conv => lhs; reduce
def XnF : Rd ((XaB 3 XnE.1).getD .skip) := by refine ⟨?p, ?h⟩; case h => conv => lhs; reduce
def pc77L3 : PC := XnF.1
def XnG : Rd ((XaB 0 XnE.1).getD .skip) := by refine ⟨?p, ?h⟩; case h => conv => lhs; reduce
def pc77L0 : PC := XnG.1
def pc77 : PC := XnE.1
def fn77 : PFn := ⟨62, [.tmp 8], pc77, false⟩
theorem Xrc : Xbf Tryz.prog 77 fn77 := fk [] Tryz.func77 rfl rfl
def Xvs : Rb Tryz.f46 [] := by refine ⟨?p, ?h⟩; case h => conv => lhs; reduce
def pc46 : PC := Xvs.1
def fn46 : PFn := ⟨42, [.tmp 4], pc46, false⟩
theorem Xrd : Xbf Tryz.prog 46 fn46 := fk [] Tryz.func46 rfl rfl
def Xvt : Rb Tryz.f15 [4] := by refine ⟨?p, ?h⟩; case h => conv => lhs; reduce
def pc15 : PC := Xvt.1
def XtG : PFn := ⟨18, [.cell 2 28, .tmp 3], pc15, false⟩
theorem Xre : Xbf Tryz.prog 15 XtG := fk [4] Tryz.func15 rfl rfl
def red7 : Rb Tryz.f7 [] := by refine ⟨?p, ?h⟩; case h => conv => lhs; reduce
def pc7 : PC := red7.1
def fn7 : PFn := ⟨72, [.tmp 0], pc7, false⟩
theorem Xvu : Xbf Tryz.prog 7 fn7 := fk [] Tryz.func7 rfl rfl
def XnH : Rb Tryz.f17 [] := by refine ⟨?p, ?h⟩; case h => conv => lhs; reduce
def XnI : Rd ((XaB 0 XnH.1).getD .skip) := by refine ⟨?p, ?h⟩; case h => conv => lhs; reduce
def Xrf : PC := XnI.1
def XnJ : Rd ((XaB 2 XnH.1).getD .skip) := by refine ⟨?p, ?h⟩; case h => conv => lhs; reduce
def Xrg : PC := XnJ.1
def pc17 : PC := XnH.1
def Xvv : PFn := ⟨63, [.tmp 4], pc17, false⟩
theorem Xrh : Xbf Tryz.prog 17 Xvv := fk [] Tryz.func17 rfl rfl
def XtH : Rb Tryz.f8 [] := by refine ⟨?p, ?h⟩; case h => conv => lhs; reduce
def Xri : Rd ((XaB 0 XtH.1).getD .skip) := by refine ⟨?p, ?h⟩; case h => conv => lhs; reduce
def Xvw : PC := Xri.1
def Xrj : Rd ((XaB 4 XtH.1).getD .skip) := by refine ⟨?p, ?h⟩; case h => conv => lhs; reduce
def Xvx : PC := Xrj.1
def Xrk : Rd ((XaB 2 XtH.1).getD .skip) := by refine ⟨?p, ?h⟩; case h => conv => lhs; reduce
def Xvy : PC := Xrk.1
def pc8 : PC := XtH.1
def fn8 : PFn := ⟨122, [.tmp 2], pc8, false⟩
theorem Xvz : Xbf Tryz.prog 8 fn8 := fk [] Tryz.func8 rfl rfl
def Xv0 : Rb Tryz.f34 [4, 6, 10, 14, 18, 20] := by refine ⟨?p, ?h⟩; case h => conv => lhs; reduce
def pc34 : PC := Xv0.1
def XtI : PFn := ⟨96, [.cell 2 28], pc34, false⟩
theorem Xrl : Xbf Tryz.prog 34 XtI := fk [4, 6, 10, 14, 18, 20] Tryz.func34 rfl rfl
def Xrm : Rb Tryz.f35 [] := by refine ⟨?p, ?h⟩; case h => conv => lhs; reduce
def XnK : Rd ((XaB 0 Xrm.1).getD .skip) := by refine ⟨?p, ?h⟩; case h => conv => lhs; reduce
def Xrn : PC := XnK.1
def pc35 : PC := Xrm.1
def Xv1 : PFn := ⟨19, [.tmp 2], pc35, false⟩
theorem Xro : Xbf Tryz.prog 35 Xv1 := fk [] Tryz.func35 rfl rfl
def Xrp : Rb Tryz.f36 [] := by refine ⟨?p, ?h⟩; case h => conv => lhs; reduce
def XnL : Rd ((XaB 0 Xrp.1).getD .skip) := by refine ⟨?p, ?h⟩; case h => conv => lhs; reduce
def Xrq : PC := XnL.1
def pc36 : PC := Xrp.1
def Xv2 : PFn := ⟨59, [.tmp 4], pc36, false⟩
theorem Xrr : Xbf Tryz.prog 36 Xv2 := fk [] Tryz.func36 rfl rfl
def Xrs : Rb Tryz.f69 [] := by refine ⟨?p, ?h⟩; case h => conv => lhs; reduce
def XnM : Rd ((XaB 0 Xrs.1).getD .skip) := by refine ⟨?p, ?h⟩; case h => conv => lhs; reduce
def Xrt : PC := XnM.1
def pc69 : PC := Xrs.1
def Xv3 : PFn := ⟨34, [.tmp 2], pc69, false⟩
theorem Xru : Xbf Tryz.prog 69 Xv3 := fk [] Tryz.func69 rfl rfl
def Xrv : Rb Tryz.f91 [] := by refine ⟨?p, ?h⟩; case h => conv => lhs; reduce
def XnN : Rd ((XaB 0 Xrv.1).getD .skip) := by refine ⟨?p, ?h⟩; case h => conv => lhs; reduce
def Xrw : PC := XnN.1
def pc91 : PC := Xrv.1
def Xv4 : PFn := ⟨50, [.tmp 2], pc91, false⟩
theorem Xrx : Xbf Tryz.prog 91 Xv4 := fk [] Tryz.func91 rfl rfl
def Xry : Rb Tryz.f92 [] := by refine ⟨?p, ?h⟩; case h => conv => lhs; reduce
def XnO : Rd ((XaB 0 Xry.1).getD .skip) := by refine ⟨?p, ?h⟩; case h => conv => lhs; reduce
def Xrz : PC := XnO.1
def pc92 : PC := Xry.1
def Xv5 : PFn := ⟨52, [.tmp 2], pc92, false⟩
theorem Xr0 : Xbf Tryz.prog 92 Xv5 := fk [] Tryz.func92 rfl rfl
def Xr1 : Rb Tryz.f70 [] := by refine ⟨?p, ?h⟩; case h => conv => lhs; reduce
def XnP : Rd ((XaB 0 Xr1.1).getD .skip) := by refine ⟨?p, ?h⟩; case h => conv => lhs; reduce
def Xr2 : PC := XnP.1
def pc70 : PC := Xr1.1
def Xv6 : PFn := ⟨104, [.tmp 2], pc70, false⟩
theorem Xr3 : Xbf Tryz.prog 70 Xv6 := fk [] Tryz.func70 rfl rfl
def Xv7 : Rb Tryz.f37 [] := by refine ⟨?p, ?h⟩; case h => conv => lhs; reduce
def pc37 : PC := Xv7.1
def Xv8 : PFn := ⟨10, [.tmp 2], pc37, false⟩
theorem Xr4 : Xbf Tryz.prog 37 Xv8 := fk [] Tryz.func37 rfl rfl
def Xv9 : Rb Tryz.f12 [] := by refine ⟨?p, ?h⟩; case h => conv => lhs; reduce
def pc12 : PC := Xv9.1
def XvA : PFn := ⟨122, [.tmp 2], pc12, false⟩
theorem Xr5 : Xbf Tryz.prog 12 XvA := fk [] Tryz.func12 rfl rfl
def XvB : Rb Tryz.f25 [] := by refine ⟨?p, ?h⟩; case h => conv => lhs; reduce
def pc25 : PC := XvB.1
def XtJ : PFn := ⟨8, [.cell 4 50], pc25, false⟩
theorem Xr6 : Xbf Tryz.prog 25 XtJ := fk [] Tryz.func25 rfl rfl
def Xr7 : Rb Tryz.f83 [] := by refine ⟨?p, ?h⟩; case h => conv => lhs; reduce
def XnQ : Rd ((XaB 0 Xr7.1).getD .skip) := by refine ⟨?p, ?h⟩; case h => conv => lhs; reduce
def Xr8 : PC := XnQ.1
def pc83 : PC := Xr7.1
def XvC : PFn := ⟨38, [.tmp 2], pc83, false⟩
theorem Xr9 : Xbf Tryz.prog 83 XvC := fk [] Tryz.func83 rfl rfl
def XvD : Rb Tryz.f56 [] := by refine ⟨?p, ?h⟩; case h => conv => lhs; reduce
def pc56 : PC := XvD.1
def XtK : PFn := ⟨9, [.cell 4 50], pc56, false⟩
theorem XrA : Xbf Tryz.prog 56 XtK := fk [] Tryz.func56 rfl rfl
def XvE : Rb Tryz.f26 [] := by refine ⟨?p, ?h⟩; case h => conv => lhs; reduce
def pc26 : PC := XvE.1
def XtL : PFn := ⟨8, [.cell 4 50], pc26, false⟩
theorem XrB : Xbf Tryz.prog 26 XtL := fk [] Tryz.func26 rfl rfl
def XvF : Rb Tryz.f58 [] := by refine ⟨?p, ?h⟩; case h => conv => lhs; reduce
def pc58 : PC := XvF.1
def XtM : PFn := ⟨8, [.cell 4 50], pc58, false⟩
theorem XrC : Xbf Tryz.prog 58 XtM := fk [] Tryz.func58 rfl rfl
def XvG : Rb Tryz.f57 [] := by refine ⟨?p, ?h⟩; case h => conv => lhs; reduce
def pc57 : PC := XvG.1
def XtN : PFn := ⟨5, [.cell 2 50], pc57, false⟩
theorem XrD : Xbf Tryz.prog 57 XtN := fk [] Tryz.func57 rfl rfl
def XvH : Rb Tryz.f84 [] := by refine ⟨?p, ?h⟩; case h => conv => lhs; reduce
def pc84 : PC := XvH.1
def XvI : PFn := ⟨4, [.tmp 2], pc84, false⟩
theorem XrE : Xbf Tryz.prog 84 XvI := fk [] Tryz.func84 rfl rfl
def XvJ : Rb Tryz.f59 [] := by refine ⟨?p, ?h⟩; case h => conv => lhs; reduce
def pc59 : PC := XvJ.1
def XtO : PFn := ⟨6, [.cell 2 50], pc59, false⟩
theorem XrF : Xbf Tryz.prog 59 XtO := fk [] Tryz.func59 rfl rfl
def XrG : Rb Tryz.f61 [] := by refine ⟨?p, ?h⟩; case h => conv => lhs; reduce
def XnR : Rd ((XaB 0 XrG.1).getD .skip) := by refine ⟨?p, ?h⟩; case h => conv => lhs; reduce
def XrH : PC := XnR.1
def pc61 : PC := XrG.1
def XtP : PFn := ⟨24, [.cell 4 50], pc61, false⟩
theorem XrI : Xbf Tryz.prog 61 XtP := fk [] Tryz.func61 rfl rfl
def XnS : Rb Tryz.f60 [] := by refine ⟨?p, ?h⟩; case h => conv => lhs; reduce
def XnT : Rd ((XaB 0 XnS.1).getD .skip) := by refine ⟨?p, ?h⟩; case h => conv => lhs; reduce
def XrJ : PC := XnT.1
def XnU : Rd ((XaB 3 XnS.1).getD .skip) := by refine ⟨?p, ?h⟩; case h => conv => lhs; reduce
def XrK : PC := XnU.1
def pc60 : PC := XnS.1
def XtQ : PFn := ⟨102, [.cell 2 50], pc60, false⟩
theorem XrL : Xbf Tryz.prog 60 XtQ := fk [] Tryz.func60 rfl rfl
def XrM : Rb Tryz.f62 [5, 1000017, 1000023, 1000025] := by refine ⟨?p, ?h⟩; case h => conv => lhs; reduce
def XnV : Rd ((XaB 0 XrM.1).getD .skip) := by refine ⟨?p, ?h⟩; case h => conv => lhs; reduce
def XrN : PC := XnV.1
def pc62 : PC := XrM.1
def XtR : PFn := ⟨41, [.cell 2 50], pc62, false⟩
theorem XrO : Xbf Tryz.prog 62 XtR := fk [5, 1000017, 1000023, 1000025] Tryz.func62 rfl rfl
def XrP : Rb Tryz.f63 [] := by refine ⟨?p, ?h⟩; case h => conv => lhs; reduce
def XnW : Rd ((XaB 0 XrP.1).getD .skip) := by refine ⟨?p, ?h⟩; case h => conv => lhs; reduce
def XrQ : PC := XnW.1
def pc63 : PC := XrP.1
def XtS : PFn := ⟨30, [.cell 2 50], pc63, false⟩
theorem XrR : Xbf Tryz.prog 63 XtS := fk [] Tryz.func63 rfl rfl
def XvK : Rb Tryz.f27 [] := by refine ⟨?p, ?h⟩; case h => conv => lhs; reduce
def pc27 : PC := XvK.1
def XtT : PFn := ⟨129, [.cell 2 50], pc27, false⟩
theorem XrS : Xbf Tryz.prog 27 XtT := fk [] Tryz.func27 rfl rfl
def XrT : Rb Tryz.f64 [] := by refine ⟨?p, ?h⟩; case h => conv => lhs; reduce
def XnX : Rd ((XaB 0 XrT.1).getD .skip) := by refine ⟨?p, ?h⟩; case h => conv => lhs; reduce
def XrU : PC := XnX.1
def pc64 : PC := XrT.1
def XvL : PFn := ⟨30, [.tmp 2], pc64, false⟩
theorem XrV : Xbf Tryz.prog 64 XvL := fk [] Tryz.func64 rfl rfl
def XrW : Rb Tryz.f28 [] := by refine ⟨?p, ?h⟩; case h => conv => lhs; reduce
def XnY : Rd ((XaB 0 XrW.1).getD .skip) := by refine ⟨?p, ?h⟩; case h => conv => lhs; reduce
def XrX : PC := XnY.1
def pc28 : PC := XrW.1
def XvM : PFn := ⟨44, [.tmp 2, .tmp 3], pc28, false⟩
theorem XrY : Xbf Tryz.prog 28 XvM := fk [] Tryz.func28 rfl rfl
def XrZ : Rb Tryz.f29 [] := by refine ⟨?p, ?h⟩; case h => conv => lhs; reduce
def XnZ : Rd ((XaB 0 XrZ.1).getD .skip) := by refine ⟨?p, ?h⟩; case h => conv => lhs; reduce
def Xsa : PC := XnZ.1
def pc29 : PC := XrZ.1
def XvN : PFn := ⟨22, [.tmp 2], pc29, false⟩
theorem Xsb : Xbf Tryz.prog 29 XvN := fk [] Tryz.func29 rfl rfl
def XvO : Rb Tryz.f10 [3, 1000012, 1000014, 1000016] := by refine ⟨?p, ?h⟩; case h => conv => lhs; reduce
def pc10 : PC := XvO.1
def XvP : PFn := ⟨35, [.tmp 2, .tmp 3], pc10, false⟩
theorem Xsc : Xbf Tryz.prog 10 XvP := fk [3, 1000012, 1000014, 1000016] Tryz.func10 rfl rfl
def red3 : Rb Tryz.f3 [] := by refine ⟨?p, ?h⟩; case h => conv => lhs; reduce
def pc3 : PC := red3.1
def fn3 : PFn := ⟨53, [.tmp 4], pc3, false⟩
theorem XvQ : Xbf Tryz.prog 3 fn3 := fk [] Tryz.func3 rfl rfl
def red4 : Rb Tryz.f4 [] := by refine ⟨?p, ?h⟩; case h => conv => lhs; reduce
def pc4 : PC := red4.1
def fn4 : PFn := ⟨60, [.tmp 4], pc4, false⟩
theorem XvR : Xbf Tryz.prog 4 fn4 := fk [] Tryz.func4 rfl rfl
def Xmq : Rb Tryz.f104 [] := by refine ⟨?p, ?h⟩; case h => conv => lhs; reduce
def XlN : Rd ((XaB 0 Xmq.1).getD .skip) := by refine ⟨?p, ?h⟩; case h => conv => lhs; reduce
def Xoa : PC := XlN.1
def XvS : PC := Xmq.1
def Xob : PFn := ⟨57, [.tmp 2, .tmp 3, .tmp 4], XvS, false⟩
theorem Xoc : Xbf Tryz.prog 104 Xob := fk [] Tryz.func104 rfl rfl
def Xsd : Rb Tryz.f78 [] := by refine ⟨?p, ?h⟩; case h => conv => lhs; reduce
def Xod : Rd ((XaB 0 Xsd.1).getD .skip) := by refine ⟨?p, ?h⟩; case h => conv => lhs; reduce
def Xse : PC := Xod.1
def pc78 : PC := Xsd.1
def XtU : PFn := ⟨123, [.cell 8 50, .tmp 9, .tmp 10, .tmp 11], pc78, false⟩
theorem Xsf : Xbf Tryz.prog 78 XtU := fk [] Tryz.func78 rfl rfl
def XvT : Rb Tryz.f47 [] := by refine ⟨?p, ?h⟩; case h => conv => lhs; reduce
def pc47 : PC := XvT.1
def XtV : PFn := ⟨14, [.cell 2 50, .tmp 3, .tmp 4, .tmp 5], pc47, false⟩
theorem Xsg : Xbf Tryz.prog 47 XtV := fk [] Tryz.func47 rfl rfl
def XvU : Rb Tryz.f16 [] := by refine ⟨?p, ?h⟩; case h => conv => lhs; reduce
def pc16 : PC := XvU.1
def XvV : PFn := ⟨49, [.tmp 2], pc16, false⟩
theorem Xsh : Xbf Tryz.prog 16 XvV := fk [] Tryz.func16 rfl rfl
def red5 : Rb Tryz.f5 [1000037] := by refine ⟨?p, ?h⟩; case h => conv => lhs; reduce
def pc5 : PC := red5.1
def fn5 : PFn := ⟨81, [.tmp 10], pc5, false⟩
theorem XvW : Xbf Tryz.prog 5 fn5 := fk [1000037] Tryz.func5 rfl rfl
def red6 : Rb Tryz.f6 [] := by refine ⟨?p, ?h⟩; case h => conv => lhs; reduce
def pc6 : PC := red6.1
def fn6 : PFn := ⟨65, [.tmp 4], pc6, false⟩
theorem XvX : Xbf Tryz.prog 6 fn6 := fk [] Tryz.func6 rfl rfl
def XvY : Rb Tryz.f66 [] := by refine ⟨?p, ?h⟩; case h => conv => lhs; reduce
def pc66 : PC := XvY.1
def XvZ : PFn := ⟨6, [.tmp 2], pc66, false⟩
theorem Xsi : Xbf Tryz.prog 66 XvZ := fk [] Tryz.func66 rfl rfl
def Xwa : Rb Tryz.f82 [] := by refine ⟨?p, ?h⟩; case h => conv => lhs; reduce
def pc82 : PC := Xwa.1
def Xwb : PFn := ⟨6, [.tmp 2], pc82, false⟩
theorem Xsj : Xbf Tryz.prog 82 Xwb := fk [] Tryz.func82 rfl rfl
def Xwc : Rb Tryz.f88 [] := by refine ⟨?p, ?h⟩; case h => conv => lhs; reduce
def pc88 : PC := Xwc.1
def Xwd : PFn := ⟨6, [.tmp 2], pc88, false⟩
theorem Xsk : Xbf Tryz.prog 88 Xwd := fk [] Tryz.func88 rfl rfl
def Xwe : FuncId → Option PFn
 | 39 => some Xuj
 | 71 => some Xuk
 | 38 => some Xum
 | 40 => some Xun
 | 41 => some Xup
 | 13 => some Xur
 | 18 => some Xut
 | 30 => some Xtz
 | 85 => some Xuv
 | 65 => some Xux
 | 31 => some Xuz
 | 86 => some Xu1
 | 67 => some Xu2
 | 106 => some XmZ
 | 87 => some Xu5
 | 89 => some Xu6
 | 107 => some XpQ
 | 90 => some XuA
 | 68 => some XuC
 | 32 => some XuE
 | 33 => some XuF
 | 11 => some XuH
 | 19 => some Xt0
 | 20 => some Xt1
 | 51 => some XuK
 | 22 => some Xt2
 | 79 => some XuN
 | 48 => some Xt3
 | 49 => some Xt4
 | 80 => some Xt5
 | 50 => some Xt6
 | 21 => some Xt7
 | 52 => some XuQ
 | 23 => some XuR
 | 105 => some Xno
 | 81 => some XuU
 | 53 => some XuW
 | 54 => some XuX
 | 55 => some XuY
 | 24 => some Xva
 | 9 => some fn9
 | 42 => some Xvc
 | 43 => some Xvd
 | 44 => some Xve
 | 14 => some Xvg
 | 108 => some Xny
 | 93 => some Xt8
 | 72 => some Xt9
 | 94 => some XtA
 | 109 => some Xn2
 | 95 => some Xvm
 | 96 => some Xvn
 | 97 => some XtB
 | 110 => some XlM
 | 98 => some XtC
 | 99 => some XtD
 | 100 => some XnC
 | 73 => some XtE
 | 45 => some XtF
 | 77 => some fn77
 | 46 => some fn46
 | 15 => some XtG
 | 7 => some fn7
 | 17 => some Xvv
 | 8 => some fn8
 | 34 => some XtI
 | 35 => some Xv1
 | 36 => some Xv2
 | 69 => some Xv3
 | 91 => some Xv4
 | 92 => some Xv5
 | 70 => some Xv6
 | 37 => some Xv8
 | 12 => some XvA
 | 25 => some XtJ
 | 83 => some XvC
 | 56 => some XtK
 | 26 => some XtL
 | 58 => some XtM
 | 57 => some XtN
 | 84 => some XvI
 | 59 => some XtO
 | 61 => some XtP
 | 60 => some XtQ
 | 62 => some XtR
 | 63 => some XtS
 | 27 => some XtT
 | 64 => some XvL
 | 28 => some XvM
 | 29 => some XvN
 | 10 => some XvP
 | 3 => some fn3
 | 4 => some fn4
 | 104 => some Xob
 | 78 => some XtU
 | 47 => some XtV
 | 16 => some XvV
 | 5 => some fn5
 | 6 => some fn6
 | 66 => some XvZ
 | 82 => some Xwb
 | 88 => some Xwd
 | _ => none
theorem Xoe : ∀ f pf, Xwe f = some pf → Xbf Tryz.prog f pf := by
 intro f pf h
 unfold Xwe at h
 split at h <;> first | (injection h with h; subst h; first | exact Xp1 | exact Xp4 | exact Xp5 | exact Xp8 | exact Xp9 | exact XpA | exact XpB | exact XpC | exact XpF | exact XpG | exact XpH | exact XpI | exact XpL | exact Xna | exact XpM | exact XpP | exact Xnc | exact XpT | exact XpU | exact XpV | exact XpY | exact XpZ | exact Xqa | exact Xqb | exact Xqe | exact Xqf | exact Xqg | exact Xqh | exact Xqk | exact Xqn | exact Xqq | exact Xqt | exact Xqu | exact Xqx | exact Xnp | exact Xqy | exact Xqz | exact Xq2 | exact Xq5 | exact Xq6 | exact Xvb | exact Xq9 | exact XqC | exact XqF | exact XqG | exact Xnz | exact XqJ | exact XqK | exact XqL | exact Xn3 | exact XqM | exact XqP | exact XqS | exact Xn9 | exact XqV | exact XqY | exact XnD | exact Xra | exact Xrb | exact Xrc | exact Xrd | exact Xre | exact Xvu | exact Xrh | exact Xvz | exact Xrl | exact Xro | exact Xrr | exact Xru | exact Xrx | exact Xr0 | exact Xr3 | exact Xr4 | exact Xr5 | exact Xr6 | exact Xr9 | exact XrA | exact XrB | exact XrC | exact XrD | exact XrE | exact XrF | exact XrI | exact XrL | exact XrO | exact XrR | exact XrS | exact XrV | exact XrY | exact Xsb | exact Xsc | exact XvQ | exact XvR | exact Xoc | exact Xsf | exact Xsg | exact Xsh | exact XvW | exact XvX | exact Xsi | exact Xsj | exact Xsk) | cases h
end Go.Proofs.YtbinlabnilidiaaGreatDoor.M

/- The functions, compiled for the abstract machine (made by a program of mine, gen.py). -/
import Derived.Test.YtbinlabnilidiaaGreatDoorTy
namespace Go.Proofs.YtbinlabnilidiaaGreatDoor.M
set_option linter.unusedVariables false
set_option linter.unusedSimpArgs false
open Go Go.Pam

def pc39L0 : PC :=
 (.seq (.region [⟨some 14, .binOp .lss 3 (.tmp 13) (.tmp 12) 3, none, false⟩])
 (.seq (.cond (.tmp 14)
  .skip
  (.exit 0))
 (.seq (.block 1 (.seq (.region [⟨some 15, .move (.tmp 13), none, false⟩,
  ⟨some 5, .assign (.tmp 15), none, false⟩])
 (.seq (.draw [⟨some 16, .move (.tmp 0), none, false⟩,
  ⟨some 17, .move (.tmp 5), none, false⟩,
  ⟨some 18, .indexAddr 22 (.tmp 16) (.tmp 17), none, false⟩,
  ⟨some 19, .load 9 (.tmp 18), none, false⟩,
  ⟨some 20, .move (.tmp 1), none, false⟩,
  ⟨some 21, .move (.tmp 5), none, false⟩,
  ⟨some 22, .indexAddr 22 (.tmp 20) (.tmp 21), none, false⟩,
  ⟨some 23, .load 9 (.tmp 22), none, false⟩]
  [⟨some 24, .binOp .neq 9 (.tmp 19) (.tmp 23) 9, none, false⟩])
 (.cond (.tmp 24)
  (.seq (.region [⟨some 4, .assign (.const (.bool false)), none, false⟩])
  .ret)
  .skip))))
 (.region [⟨some 25, .binOp .add 3 (.tmp 13) (.const (.int .i64 1)) 3, none, false⟩,
  ⟨some 13, .move (.tmp 25), none, false⟩]))))
def pc39 : PC :=
 (.seq (.region [⟨some 4, .assign (.const (.bool false)), none, false⟩])
 (.seq (.seq (.region [⟨some 6, .move (.tmp 0), none, false⟩,
  ⟨some 7, .call ⟨.builtin .len, #[.tmp 6], #[22]⟩, none, false⟩,
  ⟨some 8, .move (.tmp 1), none, false⟩,
  ⟨some 9, .call ⟨.builtin .len, #[.tmp 8], #[22]⟩, none, false⟩,
  ⟨some 10, .binOp .neq 3 (.tmp 7) (.tmp 9) 3, none, false⟩])
 (.cond (.tmp 10)
  (.seq (.region [⟨some 4, .assign (.const (.bool false)), none, false⟩])
  .ret)
  .skip))
 (.seq (.seq (.region [⟨some 11, .move (.tmp 0), none, false⟩,
  ⟨some 12, .call ⟨.builtin .len, #[.tmp 11], #[22]⟩, none, false⟩,
  ⟨some 13, .move (.const (.int .i64 0)), none, false⟩])
 (.block 0 (.loop pc39L0)))
 (.seq (.region [⟨some 4, .assign (.const (.bool true)), none, false⟩])
 .ret))))
def fn39 : PFn := ⟨26, [.tmp 4], pc39, false⟩
theorem fnOk39 : FnOk Tryz.prog 39 fn39 := ⟨⟨_, _, [], Tryz.func39, rfl, by kernel_rfl, rfl, rfl, of_decide_eq_true (by kernel_rfl)⟩⟩

def pc71L0 : PC :=
 (.seq (.region [⟨some 18, .binOp .lss 3 (.tmp 17) (.tmp 16) 3, none, false⟩])
 (.seq (.cond (.tmp 18)
  .skip
  (.exit 0))
 (.seq (.block 1 (.seq (.region [⟨some 19, .move (.tmp 17), none, false⟩,
  ⟨some 20, .indexAddr 23 (.tmp 15) (.tmp 17), none, false⟩,
  ⟨some 21, .load 25 (.tmp 20), none, false⟩,
  ⟨some 8, .alloc 25, none, false⟩,
  ⟨some 7, .assign (.tmp 19), none, false⟩,
  ⟨none, .store 25 (.tmp 8) (.tmp 21), none, false⟩])
 (.seq (.region [⟨some 22, .move (.tmp 1), none, false⟩,
  ⟨some 23, .move (.tmp 7), none, false⟩,
  ⟨some 24, .indexAddr 23 (.tmp 22) (.tmp 23), none, false⟩,
  ⟨some 25, .load 25 (.tmp 24), none, false⟩,
  ⟨some 9, .alloc 25, none, false⟩,
  ⟨none, .store 25 (.tmp 9) (.tmp 25), none, false⟩])
 (.seq (.region [⟨some 26, .move (.tmp 2), none, false⟩,
  ⟨some 27, .load 25 (.tmp 8), none, false⟩,
  ⟨some 28, .load 25 (.tmp 9), none, false⟩,
  ⟨some 29, .call ⟨.value (.tmp 26), #[.tmp 27, .tmp 28], #[25, 25]⟩, none, false⟩,
  ⟨some 30, .unOp .not 4 (.tmp 29), none, false⟩])
 (.cond (.tmp 30)
  (.seq (.region [⟨some 6, .assign (.const (.bool false)), none, false⟩])
  .ret)
  .skip)))))
 (.region [⟨some 31, .binOp .add 3 (.tmp 17) (.const (.int .i64 1)) 3, none, false⟩,
  ⟨some 17, .move (.tmp 31), none, false⟩]))))
def pc71 : PC :=
 (.seq (.region [⟨some 6, .assign (.const (.bool false)), none, false⟩])
 (.seq (.seq (.region [⟨some 10, .move (.tmp 0), none, false⟩,
  ⟨some 11, .call ⟨.builtin .len, #[.tmp 10], #[23]⟩, none, false⟩,
  ⟨some 12, .move (.tmp 1), none, false⟩,
  ⟨some 13, .call ⟨.builtin .len, #[.tmp 12], #[23]⟩, none, false⟩,
  ⟨some 14, .binOp .neq 3 (.tmp 11) (.tmp 13) 3, none, false⟩])
 (.cond (.tmp 14)
  (.seq (.region [⟨some 6, .assign (.const (.bool false)), none, false⟩])
  .ret)
  .skip))
 (.seq (.seq (.region [⟨some 15, .move (.tmp 0), none, false⟩,
  ⟨some 16, .call ⟨.builtin .len, #[.tmp 15], #[23]⟩, none, false⟩,
  ⟨some 17, .move (.const (.int .i64 0)), none, false⟩])
 (.block 0 (.loop pc71L0)))
 (.seq (.region [⟨some 6, .assign (.const (.bool true)), none, false⟩])
 .ret))))
def fn71 : PFn := ⟨32, [.tmp 6], pc71, false⟩
theorem fnOk71 : FnOk Tryz.prog 71 fn71 := ⟨⟨_, _, [], Tryz.func71, rfl, by kernel_rfl, rfl, rfl, of_decide_eq_true (by kernel_rfl)⟩⟩

def pc38 : PC :=
 (.seq (.region [⟨some 2, .box 25 (.tmp 0), none, false⟩,
  ⟨some 3, .box 25 (.tmp 1), none, false⟩,
  ⟨some 4, .assign (.const (.bool false)), none, false⟩])
 (.seq (.region [⟨some 5, .fieldAddr 25 (.tmp 2) 0, none, false⟩,
  ⟨some 6, .load 3 (.tmp 5), none, false⟩,
  ⟨some 7, .fieldAddr 25 (.tmp 3) 0, none, false⟩,
  ⟨some 8, .load 3 (.tmp 7), none, false⟩,
  ⟨some 9, .binOp .eql 3 (.tmp 6) (.tmp 8) 3, none, false⟩,
  ⟨some 10, .move (.tmp 9), none, false⟩,
  ⟨some 11, .fieldAddr 25 (.tmp 2) 1, some (10, true), false⟩,
  ⟨some 12, .load 9 (.tmp 11), some (10, true), false⟩,
  ⟨some 13, .fieldAddr 25 (.tmp 3) 1, some (10, true), false⟩,
  ⟨some 14, .load 9 (.tmp 13), some (10, true), false⟩,
  ⟨some 15, .binOp .eql 9 (.tmp 12) (.tmp 14) 9, some (10, true), false⟩,
  ⟨some 16, .pick (.tmp 10) (.tmp 15) (.const (.bool false)), none, false⟩,
  ⟨some 17, .move (.tmp 16), none, false⟩,
  ⟨some 18, .fieldAddr 25 (.tmp 2) 2, some (17, true), false⟩,
  ⟨some 19, .load 9 (.tmp 18), some (17, true), false⟩,
  ⟨some 20, .fieldAddr 25 (.tmp 3) 2, some (17, true), false⟩,
  ⟨some 21, .load 9 (.tmp 20), some (17, true), false⟩,
  ⟨some 22, .binOp .eql 9 (.tmp 19) (.tmp 21) 9, some (17, true), false⟩,
  ⟨some 23, .pick (.tmp 17) (.tmp 22) (.const (.bool false)), none, false⟩,
  ⟨some 24, .move (.tmp 23), none, false⟩,
  ⟨some 25, .fieldAddr 25 (.tmp 2) 3, some (24, true), false⟩,
  ⟨some 26, .load 22 (.tmp 25), some (24, true), false⟩,
  ⟨some 27, .fieldAddr 25 (.tmp 3) 3, some (24, true), false⟩,
  ⟨some 28, .load 22 (.tmp 27), some (24, true), false⟩,
  ⟨some 29, .call ⟨.value (.func 39), #[.tmp 26, .tmp 28], #[22, 22]⟩, some (24, true), false⟩,
  ⟨some 30, .pick (.tmp 24) (.tmp 29) (.const (.bool false)), none, false⟩,
  ⟨some 31, .move (.tmp 30), none, false⟩,
  ⟨some 32, .fieldAddr 25 (.tmp 2) 4, some (31, true), false⟩,
  ⟨some 33, .load 23 (.tmp 32), some (31, true), false⟩,
  ⟨some 34, .fieldAddr 25 (.tmp 3) 4, some (31, true), false⟩,
  ⟨some 35, .load 23 (.tmp 34), some (31, true), false⟩,
  ⟨some 36, .call ⟨.value (.func 71), #[.tmp 33, .tmp 35, .func 38], #[23, 23, 67]⟩, some (31, true), false⟩,
  ⟨some 37, .pick (.tmp 31) (.tmp 36) (.const (.bool false)), none, false⟩,
  ⟨some 4, .assign (.tmp 37), none, false⟩])
 .ret))
def fn38 : PFn := ⟨38, [.tmp 4], pc38, false⟩
theorem fnOk38 : FnOk Tryz.prog 38 fn38 := ⟨⟨_, _, [], Tryz.func38, rfl, by kernel_rfl, rfl, rfl, of_decide_eq_true (by kernel_rfl)⟩⟩

def pc40L0 : PC :=
 (.seq (.region [⟨some 18, .binOp .lss 3 (.tmp 17) (.tmp 16) 3, none, false⟩])
 (.seq (.cond (.tmp 18)
  .skip
  (.exit 0))
 (.seq (.block 1 (.seq (.region [⟨some 19, .move (.tmp 17), none, false⟩,
  ⟨some 20, .indexAddr 26 (.tmp 15) (.tmp 17), none, false⟩,
  ⟨some 21, .load 45 (.tmp 20), none, false⟩,
  ⟨some 8, .alloc 45, none, false⟩,
  ⟨some 7, .assign (.tmp 19), none, false⟩,
  ⟨none, .store 45 (.tmp 8) (.tmp 21), none, false⟩])
 (.seq (.region [⟨some 22, .move (.tmp 1), none, false⟩,
  ⟨some 23, .move (.tmp 7), none, false⟩,
  ⟨some 24, .indexAddr 26 (.tmp 22) (.tmp 23), none, false⟩,
  ⟨some 25, .load 45 (.tmp 24), none, false⟩,
  ⟨some 9, .alloc 45, none, false⟩,
  ⟨none, .store 45 (.tmp 9) (.tmp 25), none, false⟩])
 (.seq (.region [⟨some 26, .move (.tmp 2), none, false⟩,
  ⟨some 27, .load 45 (.tmp 8), none, false⟩,
  ⟨some 28, .load 45 (.tmp 9), none, false⟩,
  ⟨some 29, .call ⟨.value (.tmp 26), #[.tmp 27, .tmp 28], #[45, 45]⟩, none, false⟩,
  ⟨some 30, .unOp .not 4 (.tmp 29), none, false⟩])
 (.cond (.tmp 30)
  (.seq (.region [⟨some 6, .assign (.const (.bool false)), none, false⟩])
  .ret)
  .skip)))))
 (.region [⟨some 31, .binOp .add 3 (.tmp 17) (.const (.int .i64 1)) 3, none, false⟩,
  ⟨some 17, .move (.tmp 31), none, false⟩]))))
def pc40 : PC :=
 (.seq (.region [⟨some 6, .assign (.const (.bool false)), none, false⟩])
 (.seq (.seq (.region [⟨some 10, .move (.tmp 0), none, false⟩,
  ⟨some 11, .call ⟨.builtin .len, #[.tmp 10], #[26]⟩, none, false⟩,
  ⟨some 12, .move (.tmp 1), none, false⟩,
  ⟨some 13, .call ⟨.builtin .len, #[.tmp 12], #[26]⟩, none, false⟩,
  ⟨some 14, .binOp .neq 3 (.tmp 11) (.tmp 13) 3, none, false⟩])
 (.cond (.tmp 14)
  (.seq (.region [⟨some 6, .assign (.const (.bool false)), none, false⟩])
  .ret)
  .skip))
 (.seq (.seq (.region [⟨some 15, .move (.tmp 0), none, false⟩,
  ⟨some 16, .call ⟨.builtin .len, #[.tmp 15], #[26]⟩, none, false⟩,
  ⟨some 17, .move (.const (.int .i64 0)), none, false⟩])
 (.block 0 (.loop pc40L0)))
 (.seq (.region [⟨some 6, .assign (.const (.bool true)), none, false⟩])
 .ret))))
def fn40 : PFn := ⟨32, [.tmp 6], pc40, false⟩
theorem fnOk40 : FnOk Tryz.prog 40 fn40 := ⟨⟨_, _, [], Tryz.func40, rfl, by kernel_rfl, rfl, rfl, of_decide_eq_true (by kernel_rfl)⟩⟩

def pc41 : PC :=
 (.seq (.region [⟨some 2, .box 45 (.tmp 0), none, false⟩,
  ⟨some 3, .box 45 (.tmp 1), none, false⟩,
  ⟨some 4, .assign (.const (.bool false)), none, false⟩])
 (.seq (.region [⟨some 5, .fieldAddr 45 (.tmp 2) 0, none, false⟩,
  ⟨some 6, .load 3 (.tmp 5), none, false⟩,
  ⟨some 7, .fieldAddr 45 (.tmp 3) 0, none, false⟩,
  ⟨some 8, .load 3 (.tmp 7), none, false⟩,
  ⟨some 9, .binOp .eql 3 (.tmp 6) (.tmp 8) 3, none, false⟩,
  ⟨some 10, .move (.tmp 9), none, false⟩,
  ⟨some 11, .fieldAddr 45 (.tmp 2) 1, some (10, true), false⟩,
  ⟨some 12, .load 9 (.tmp 11), some (10, true), false⟩,
  ⟨some 13, .fieldAddr 45 (.tmp 3) 1, some (10, true), false⟩,
  ⟨some 14, .load 9 (.tmp 13), some (10, true), false⟩,
  ⟨some 15, .binOp .eql 9 (.tmp 12) (.tmp 14) 9, some (10, true), false⟩,
  ⟨some 16, .pick (.tmp 10) (.tmp 15) (.const (.bool false)), none, false⟩,
  ⟨some 17, .move (.tmp 16), none, false⟩,
  ⟨some 18, .fieldAddr 45 (.tmp 2) 2, some (17, true), false⟩,
  ⟨some 19, .load 22 (.tmp 18), some (17, true), false⟩,
  ⟨some 20, .fieldAddr 45 (.tmp 3) 2, some (17, true), false⟩,
  ⟨some 21, .load 22 (.tmp 20), some (17, true), false⟩,
  ⟨some 22, .call ⟨.value (.func 39), #[.tmp 19, .tmp 21], #[22, 22]⟩, some (17, true), false⟩,
  ⟨some 23, .pick (.tmp 17) (.tmp 22) (.const (.bool false)), none, false⟩,
  ⟨some 4, .assign (.tmp 23), none, false⟩])
 .ret))
def fn41 : PFn := ⟨24, [.tmp 4], pc41, false⟩
theorem fnOk41 : FnOk Tryz.prog 41 fn41 := ⟨⟨_, _, [], Tryz.func41, rfl, by kernel_rfl, rfl, rfl, of_decide_eq_true (by kernel_rfl)⟩⟩

def pc13 : PC :=
 (.seq (.region [⟨some 2, .box 28 (.tmp 0), none, false⟩,
  ⟨some 3, .box 28 (.tmp 1), none, false⟩,
  ⟨some 4, .assign (.const (.bool false)), none, false⟩])
 (.seq (.region [⟨some 8, .fieldAddr 28 (.tmp 2) 8, none, false⟩,
  ⟨some 9, .load 25 (.tmp 8), none, false⟩,
  ⟨some 10, .fieldAddr 28 (.tmp 3) 8, none, false⟩,
  ⟨some 11, .load 25 (.tmp 10), none, false⟩,
  ⟨some 12, .call ⟨.value (.func 38), #[.tmp 9, .tmp 11], #[25, 25]⟩, none, false⟩,
  ⟨some 13, .move (.tmp 12), none, false⟩,
  ⟨some 14, .fieldAddr 28 (.tmp 2) 9, some (13, true), false⟩,
  ⟨some 15, .load 22 (.tmp 14), some (13, true), false⟩,
  ⟨some 16, .fieldAddr 28 (.tmp 3) 9, some (13, true), false⟩,
  ⟨some 17, .load 22 (.tmp 16), some (13, true), false⟩,
  ⟨some 18, .call ⟨.value (.func 39), #[.tmp 15, .tmp 17], #[22, 22]⟩, some (13, true), false⟩,
  ⟨some 19, .pick (.tmp 13) (.tmp 18) (.const (.bool false)), none, false⟩,
  ⟨some 20, .move (.tmp 19), none, false⟩,
  ⟨some 21, .fieldAddr 28 (.tmp 2) 10, some (20, true), false⟩,
  ⟨some 22, .load 26 (.tmp 21), some (20, true), false⟩,
  ⟨some 23, .fieldAddr 28 (.tmp 3) 10, some (20, true), false⟩,
  ⟨some 24, .load 26 (.tmp 23), some (20, true), false⟩,
  ⟨some 25, .call ⟨.value (.func 40), #[.tmp 22, .tmp 24, .func 41], #[26, 26, 70]⟩, some (20, true), false⟩,
  ⟨some 26, .pick (.tmp 20) (.tmp 25) (.const (.bool false)), none, false⟩,
  ⟨some 5, .assign (.tmp 26), none, false⟩])
 (.seq (.region [⟨some 27, .fieldAddr 28 (.tmp 2) 0, none, false⟩,
  ⟨some 28, .load 3 (.tmp 27), none, false⟩,
  ⟨some 29, .fieldAddr 28 (.tmp 3) 0, none, false⟩,
  ⟨some 30, .load 3 (.tmp 29), none, false⟩,
  ⟨some 31, .binOp .eql 3 (.tmp 28) (.tmp 30) 3, none, false⟩,
  ⟨some 32, .move (.tmp 31), none, false⟩,
  ⟨some 33, .fieldAddr 28 (.tmp 2) 1, some (32, true), false⟩,
  ⟨some 34, .load 3 (.tmp 33), some (32, true), false⟩,
  ⟨some 35, .fieldAddr 28 (.tmp 3) 1, some (32, true), false⟩,
  ⟨some 36, .load 3 (.tmp 35), some (32, true), false⟩,
  ⟨some 37, .binOp .eql 3 (.tmp 34) (.tmp 36) 3, some (32, true), false⟩,
  ⟨some 38, .pick (.tmp 32) (.tmp 37) (.const (.bool false)), none, false⟩,
  ⟨some 39, .move (.tmp 38), none, false⟩,
  ⟨some 40, .fieldAddr 28 (.tmp 2) 2, some (39, true), false⟩,
  ⟨some 41, .load 3 (.tmp 40), some (39, true), false⟩,
  ⟨some 42, .fieldAddr 28 (.tmp 3) 2, some (39, true), false⟩,
  ⟨some 43, .load 3 (.tmp 42), some (39, true), false⟩,
  ⟨some 44, .binOp .eql 3 (.tmp 41) (.tmp 43) 3, some (39, true), false⟩,
  ⟨some 45, .pick (.tmp 39) (.tmp 44) (.const (.bool false)), none, false⟩,
  ⟨some 46, .move (.tmp 45), none, false⟩,
  ⟨some 47, .fieldAddr 28 (.tmp 2) 4, some (46, true), false⟩,
  ⟨some 48, .load 3 (.tmp 47), some (46, true), false⟩,
  ⟨some 49, .fieldAddr 28 (.tmp 3) 4, some (46, true), false⟩,
  ⟨some 50, .load 3 (.tmp 49), some (46, true), false⟩,
  ⟨some 51, .binOp .eql 3 (.tmp 48) (.tmp 50) 3, some (46, true), false⟩,
  ⟨some 52, .pick (.tmp 46) (.tmp 51) (.const (.bool false)), none, false⟩,
  ⟨some 53, .move (.tmp 52), none, false⟩,
  ⟨some 54, .fieldAddr 28 (.tmp 2) 6, some (53, true), false⟩,
  ⟨some 55, .load 3 (.tmp 54), some (53, true), false⟩,
  ⟨some 56, .fieldAddr 28 (.tmp 3) 6, some (53, true), false⟩,
  ⟨some 57, .load 3 (.tmp 56), some (53, true), false⟩,
  ⟨some 58, .binOp .eql 3 (.tmp 55) (.tmp 57) 3, some (53, true), false⟩,
  ⟨some 59, .pick (.tmp 53) (.tmp 58) (.const (.bool false)), none, false⟩,
  ⟨some 60, .move (.tmp 59), none, false⟩,
  ⟨some 61, .fieldAddr 28 (.tmp 2) 7, some (60, true), false⟩,
  ⟨some 62, .load 3 (.tmp 61), some (60, true), false⟩,
  ⟨some 63, .fieldAddr 28 (.tmp 3) 7, some (60, true), false⟩,
  ⟨some 64, .load 3 (.tmp 63), some (60, true), false⟩,
  ⟨some 65, .binOp .eql 3 (.tmp 62) (.tmp 64) 3, some (60, true), false⟩,
  ⟨some 66, .pick (.tmp 60) (.tmp 65) (.const (.bool false)), none, false⟩,
  ⟨some 67, .move (.tmp 66), none, false⟩,
  ⟨some 68, .fieldAddr 28 (.tmp 2) 17, some (67, true), false⟩,
  ⟨some 69, .load 3 (.tmp 68), some (67, true), false⟩,
  ⟨some 70, .fieldAddr 28 (.tmp 3) 17, some (67, true), false⟩,
  ⟨some 71, .load 3 (.tmp 70), some (67, true), false⟩,
  ⟨some 72, .binOp .eql 3 (.tmp 69) (.tmp 71) 3, some (67, true), false⟩,
  ⟨some 73, .pick (.tmp 67) (.tmp 72) (.const (.bool false)), none, false⟩,
  ⟨some 6, .assign (.tmp 73), none, false⟩])
 (.seq (.region [⟨some 74, .fieldAddr 28 (.tmp 2) 12, none, false⟩,
  ⟨some 75, .load 4 (.tmp 74), none, false⟩,
  ⟨some 76, .fieldAddr 28 (.tmp 3) 12, none, false⟩,
  ⟨some 77, .load 4 (.tmp 76), none, false⟩,
  ⟨some 78, .binOp .eql 4 (.tmp 75) (.tmp 77) 4, none, false⟩,
  ⟨some 79, .move (.tmp 78), none, false⟩,
  ⟨some 80, .fieldAddr 28 (.tmp 2) 13, some (79, true), false⟩,
  ⟨some 81, .load 4 (.tmp 80), some (79, true), false⟩,
  ⟨some 82, .fieldAddr 28 (.tmp 3) 13, some (79, true), false⟩,
  ⟨some 83, .load 4 (.tmp 82), some (79, true), false⟩,
  ⟨some 84, .binOp .eql 4 (.tmp 81) (.tmp 83) 4, some (79, true), false⟩,
  ⟨some 85, .pick (.tmp 79) (.tmp 84) (.const (.bool false)), none, false⟩,
  ⟨some 7, .assign (.tmp 85), none, false⟩])
 (.seq (.region [⟨some 86, .move (.tmp 5), none, false⟩,
  ⟨some 87, .move (.tmp 86), none, false⟩,
  ⟨some 88, .move (.tmp 6), some (87, true), false⟩,
  ⟨some 89, .pick (.tmp 87) (.tmp 88) (.const (.bool false)), none, false⟩,
  ⟨some 90, .move (.tmp 89), none, false⟩,
  ⟨some 91, .move (.tmp 7), some (90, true), false⟩,
  ⟨some 92, .pick (.tmp 90) (.tmp 91) (.const (.bool false)), none, false⟩,
  ⟨some 93, .move (.tmp 92), none, false⟩,
  ⟨some 94, .fieldAddr 28 (.tmp 2) 3, some (93, true), false⟩,
  ⟨some 95, .load 9 (.tmp 94), some (93, true), false⟩,
  ⟨some 96, .fieldAddr 28 (.tmp 3) 3, some (93, true), false⟩,
  ⟨some 97, .load 9 (.tmp 96), some (93, true), false⟩,
  ⟨some 98, .binOp .eql 9 (.tmp 95) (.tmp 97) 9, some (93, true), false⟩,
  ⟨some 99, .pick (.tmp 93) (.tmp 98) (.const (.bool false)), none, false⟩,
  ⟨some 100, .move (.tmp 99), none, false⟩,
  ⟨some 101, .fieldAddr 28 (.tmp 2) 5, some (100, true), false⟩,
  ⟨some 102, .load 9 (.tmp 101), some (100, true), false⟩,
  ⟨some 103, .fieldAddr 28 (.tmp 3) 5, some (100, true), false⟩,
  ⟨some 104, .load 9 (.tmp 103), some (100, true), false⟩,
  ⟨some 105, .binOp .eql 9 (.tmp 102) (.tmp 104) 9, some (100, true), false⟩,
  ⟨some 106, .pick (.tmp 100) (.tmp 105) (.const (.bool false)), none, false⟩,
  ⟨some 107, .move (.tmp 106), none, false⟩,
  ⟨some 108, .fieldAddr 28 (.tmp 2) 11, some (107, true), false⟩,
  ⟨some 109, .load 9 (.tmp 108), some (107, true), false⟩,
  ⟨some 110, .fieldAddr 28 (.tmp 3) 11, some (107, true), false⟩,
  ⟨some 111, .load 9 (.tmp 110), some (107, true), false⟩,
  ⟨some 112, .binOp .eql 9 (.tmp 109) (.tmp 111) 9, some (107, true), false⟩,
  ⟨some 113, .pick (.tmp 107) (.tmp 112) (.const (.bool false)), none, false⟩,
  ⟨some 114, .move (.tmp 113), none, false⟩,
  ⟨some 115, .fieldAddr 28 (.tmp 2) 14, some (114, true), false⟩,
  ⟨some 116, .load 9 (.tmp 115), some (114, true), false⟩,
  ⟨some 117, .fieldAddr 28 (.tmp 3) 14, some (114, true), false⟩,
  ⟨some 118, .load 9 (.tmp 117), some (114, true), false⟩,
  ⟨some 119, .binOp .eql 9 (.tmp 116) (.tmp 118) 9, some (114, true), false⟩,
  ⟨some 120, .pick (.tmp 114) (.tmp 119) (.const (.bool false)), none, false⟩,
  ⟨some 121, .move (.tmp 120), none, false⟩,
  ⟨some 122, .fieldAddr 28 (.tmp 2) 15, some (121, true), false⟩,
  ⟨some 123, .load 9 (.tmp 122), some (121, true), false⟩,
  ⟨some 124, .fieldAddr 28 (.tmp 3) 15, some (121, true), false⟩,
  ⟨some 125, .load 9 (.tmp 124), some (121, true), false⟩,
  ⟨some 126, .binOp .eql 9 (.tmp 123) (.tmp 125) 9, some (121, true), false⟩,
  ⟨some 127, .pick (.tmp 121) (.tmp 126) (.const (.bool false)), none, false⟩,
  ⟨some 128, .move (.tmp 127), none, false⟩,
  ⟨some 129, .fieldAddr 28 (.tmp 2) 16, some (128, true), false⟩,
  ⟨some 130, .load 9 (.tmp 129), some (128, true), false⟩,
  ⟨some 131, .fieldAddr 28 (.tmp 3) 16, some (128, true), false⟩,
  ⟨some 132, .load 9 (.tmp 131), some (128, true), false⟩,
  ⟨some 133, .binOp .eql 9 (.tmp 130) (.tmp 132) 9, some (128, true), false⟩,
  ⟨some 134, .pick (.tmp 128) (.tmp 133) (.const (.bool false)), none, false⟩,
  ⟨some 135, .move (.tmp 134), none, false⟩,
  ⟨some 136, .fieldAddr 28 (.tmp 2) 18, some (135, true), false⟩,
  ⟨some 137, .load 9 (.tmp 136), some (135, true), false⟩,
  ⟨some 138, .fieldAddr 28 (.tmp 3) 18, some (135, true), false⟩,
  ⟨some 139, .load 9 (.tmp 138), some (135, true), false⟩,
  ⟨some 140, .binOp .eql 9 (.tmp 137) (.tmp 139) 9, some (135, true), false⟩,
  ⟨some 141, .pick (.tmp 135) (.tmp 140) (.const (.bool false)), none, false⟩,
  ⟨some 4, .assign (.tmp 141), none, false⟩])
 .ret)))))
def fn13 : PFn := ⟨142, [.tmp 4], pc13, false⟩
theorem fnOk13 : FnOk Tryz.prog 13 fn13 := ⟨⟨_, _, [], Tryz.func13, rfl, by kernel_rfl, rfl, rfl, of_decide_eq_true (by kernel_rfl)⟩⟩

def pc18 : PC :=
 (.seq (.region [⟨some 4, .assign (.const (.int .u8 0)), none, false⟩])
 (.seq (.seq (.region [⟨some 5, .move (.tmp 0), none, false⟩,
  ⟨some 6, .binOp .eql 3 (.tmp 5) (.const (.int .i64 9)) 3, none, false⟩])
 (.cond (.tmp 6)
  (.seq (.seq (.region [⟨some 7, .move (.tmp 1), none, false⟩,
   ⟨some 8, .binOp .lss 3 (.tmp 7) (.const (.int .i64 0)) 3, none, false⟩,
   ⟨some 9, .move (.tmp 8), none, false⟩,
   ⟨some 10, .move (.tmp 1), some (9, false), false⟩,
   ⟨some 11, .binOp .gtr 3 (.tmp 10) (.const (.int .i64 8)) 3, some (9, false), false⟩,
   ⟨some 12, .pick (.tmp 9) (.const (.bool true)) (.tmp 11), none, false⟩])
  (.cond (.tmp 12)
   (.seq (.region [⟨some 4, .assign (.const (.int .u8 0)), none, false⟩])
   .ret)
   .skip))
  (.seq (.region [⟨some 13, .build 80 #[(1, .const (.int .u8 97)), (3, .const (.int .u8 101)), (4, .const (.int .u8 103)), (5, .const (.int .u8 105)), (6, .const (.int .u8 107)), (7, .const (.int .u8 109)), (8, .const (.int .u8 111))], none, false⟩,
   ⟨some 14, .move (.tmp 1), none, false⟩,
   ⟨some 15, .index 80 (.tmp 13) (.tmp 14), none, false⟩,
   ⟨some 4, .assign (.tmp 15), none, false⟩])
  .ret))
  .skip))
 (.seq (.region [⟨some 16, .build 81 #[(1, .const (.int .u8 96)), (2, .const (.int .u8 66)), (3, .const (.int .u8 99)), (4, .const (.int .u8 102)), (5, .const (.int .u8 104)), (6, .const (.int .u8 74)), (7, .const (.int .u8 108)), (8, .const (.int .u8 110)), (10, .const (.int .u8 100))], none, false⟩,
  ⟨some 17, .move (.tmp 0), none, false⟩,
  ⟨some 18, .index 81 (.tmp 16) (.tmp 17), none, false⟩,
  ⟨some 4, .assign (.tmp 18), none, false⟩])
 .ret)))
def fn18 : PFn := ⟨19, [.tmp 4], pc18, false⟩
theorem fnOk18 : FnOk Tryz.prog 18 fn18 := ⟨⟨_, _, [], Tryz.func18, rfl, by kernel_rfl, rfl, rfl, of_decide_eq_true (by kernel_rfl)⟩⟩

def pc30 : PC :=
 (.seq (.region [⟨some 1, .box 28 (.tmp 0), none, false⟩,
  ⟨some 2, .alloc 28, none, false⟩])
 (.seq (.region [⟨some 4, .fieldAddr 28 (.tmp 1) 0, none, false⟩,
  ⟨some 5, .load 3 (.tmp 4), none, false⟩,
  ⟨some 6, .fieldAddr 28 (.tmp 1) 1, none, false⟩,
  ⟨some 7, .load 3 (.tmp 6), none, false⟩,
  ⟨some 8, .build 28 #[(0, .tmp 5), (1, .tmp 7)], none, false⟩,
  ⟨some 3, .alloc 28, none, false⟩,
  ⟨none, .store 28 (.tmp 3) (.tmp 8), none, false⟩])
 (.seq (.seq (.region [⟨some 9, .fieldAddr 28 (.tmp 1) 1, none, false⟩,
  ⟨some 10, .load 3 (.tmp 9), none, false⟩])
 (.block 0 (.seq (.block 7 (.seq (.block 6 (.seq (.block 5 (.seq (.block 4 (.seq (.block 3 (.seq (.block 2 (.seq (.block 1 (.seq (.seq (.seq (.region [⟨some 12, .binOp .eql 3 (.tmp 10) (.const (.int .i64 1)) 3, none, false⟩,
  ⟨some 11, .assign (.tmp 12), none, false⟩])
 (.cond (.tmp 11)
  (.exit 1)
  .skip))
 (.seq (.seq (.region [⟨some 14, .binOp .eql 3 (.tmp 10) (.const (.int .i64 3)) 3, none, false⟩,
  ⟨some 13, .assign (.tmp 14), none, false⟩])
 (.cond (.tmp 13)
  (.exit 2)
  .skip))
 (.seq (.seq (.seq (.region [⟨some 16, .binOp .eql 3 (.tmp 10) (.const (.int .i64 4)) 3, none, false⟩,
  ⟨some 15, .assign (.tmp 16), none, false⟩])
 (.cond (.tmp 15)
  .skip
  (.seq (.region [⟨some 17, .binOp .eql 3 (.tmp 10) (.const (.int .i64 5)) 3, none, false⟩,
   ⟨some 15, .assign (.tmp 17), none, false⟩])
  (.cond (.tmp 15)
   .skip
   (.region [⟨some 18, .binOp .eql 3 (.tmp 10) (.const (.int .i64 10)) 3, none, false⟩,
    ⟨some 15, .assign (.tmp 18), none, false⟩])))))
 (.cond (.tmp 15)
  (.exit 3)
  .skip))
 (.seq (.seq (.region [⟨some 20, .binOp .eql 3 (.tmp 10) (.const (.int .i64 6)) 3, none, false⟩,
  ⟨some 19, .assign (.tmp 20), none, false⟩])
 (.cond (.tmp 19)
  (.exit 4)
  .skip))
 (.seq (.seq (.region [⟨some 22, .binOp .eql 3 (.tmp 10) (.const (.int .i64 7)) 3, none, false⟩,
  ⟨some 21, .assign (.tmp 22), none, false⟩])
 (.cond (.tmp 21)
  (.exit 5)
  .skip))
 (.seq (.seq (.region [⟨some 24, .binOp .eql 3 (.tmp 10) (.const (.int .i64 8)) 3, none, false⟩,
  ⟨some 23, .assign (.tmp 24), none, false⟩])
 (.cond (.tmp 23)
  (.exit 6)
  .skip))
 (.seq (.region [⟨some 26, .binOp .eql 3 (.tmp 10) (.const (.int .i64 9)) 3, none, false⟩,
  ⟨some 25, .assign (.tmp 26), none, false⟩])
 (.cond (.tmp 25)
  (.exit 7)
  .skip))))))))
 (.exit 0)))
 (.seq (.drawC [⟨some 27, .fieldAddr 28 (.tmp 1) 4, none, false⟩,
  ⟨some 28, .load 3 (.tmp 27), none, false⟩,
  ⟨some 29, .fieldAddr 28 (.tmp 1) 3, none, false⟩,
  ⟨some 30, .load 9 (.tmp 29), none, false⟩,
  ⟨some 31, .fieldAddr 28 (.tmp 1) 5, none, false⟩,
  ⟨some 32, .load 9 (.tmp 31), none, false⟩,
  ⟨some 33, .fieldAddr 28 (.tmp 3) 4, none, false⟩,
  ⟨none, .store 3 (.tmp 33) (.tmp 28), none, false⟩,
  ⟨some 34, .fieldAddr 28 (.tmp 3) 3, none, false⟩,
  ⟨none, .store 9 (.tmp 34) (.tmp 30), none, false⟩]
  [⟨some 35, .fieldAddr 28 (.tmp 3) 5, none, false⟩,
  ⟨none, .store 9 (.tmp 35) (.tmp 32), none, false⟩])
 (.exit 0))))
 (.seq (.drawC [⟨some 36, .fieldAddr 28 (.tmp 1) 3, none, false⟩,
  ⟨some 37, .load 9 (.tmp 36), none, false⟩,
  ⟨some 38, .fieldAddr 28 (.tmp 1) 6, none, false⟩,
  ⟨some 39, .load 3 (.tmp 38), none, false⟩,
  ⟨some 40, .fieldAddr 28 (.tmp 1) 7, none, false⟩,
  ⟨some 41, .load 3 (.tmp 40), none, false⟩,
  ⟨some 42, .fieldAddr 28 (.tmp 1) 8, none, false⟩,
  ⟨some 43, .load 25 (.tmp 42), none, false⟩,
  ⟨some 44, .fieldAddr 28 (.tmp 1) 9, none, false⟩,
  ⟨some 45, .load 22 (.tmp 44), none, false⟩,
  ⟨some 46, .fieldAddr 28 (.tmp 3) 3, none, false⟩,
  ⟨none, .store 9 (.tmp 46) (.tmp 37), none, false⟩,
  ⟨some 47, .fieldAddr 28 (.tmp 3) 6, none, false⟩,
  ⟨none, .store 3 (.tmp 47) (.tmp 39), none, false⟩,
  ⟨some 48, .fieldAddr 28 (.tmp 3) 7, none, false⟩,
  ⟨none, .store 3 (.tmp 48) (.tmp 41), none, false⟩,
  ⟨some 49, .fieldAddr 28 (.tmp 3) 8, none, false⟩,
  ⟨none, .store 25 (.tmp 49) (.tmp 43), none, false⟩]
  [⟨some 50, .fieldAddr 28 (.tmp 3) 9, none, false⟩,
  ⟨none, .store 22 (.tmp 50) (.tmp 45), none, false⟩])
 (.exit 0))))
 (.region [⟨some 51, .fieldAddr 28 (.tmp 1) 10, none, false⟩,
  ⟨some 52, .load 26 (.tmp 51), none, false⟩,
  ⟨some 53, .fieldAddr 28 (.tmp 3) 10, none, false⟩,
  ⟨none, .store 26 (.tmp 53) (.tmp 52), none, false⟩])))
 (.seq (.region [⟨some 54, .fieldAddr 28 (.tmp 1) 3, none, false⟩,
  ⟨some 55, .load 9 (.tmp 54), none, false⟩,
  ⟨some 56, .fieldAddr 28 (.tmp 3) 3, none, false⟩,
  ⟨none, .store 9 (.tmp 56) (.tmp 55), none, false⟩])
 (.exit 0))))
 (.seq (.seq (.drawC [⟨some 57, .fieldAddr 28 (.tmp 1) 3, none, false⟩,
  ⟨some 58, .load 9 (.tmp 57), none, false⟩,
  ⟨some 59, .fieldAddr 28 (.tmp 1) 11, none, false⟩,
  ⟨some 60, .load 9 (.tmp 59), none, false⟩,
  ⟨some 61, .fieldAddr 28 (.tmp 1) 12, none, false⟩,
  ⟨some 62, .load 4 (.tmp 61), none, false⟩,
  ⟨some 63, .fieldAddr 28 (.tmp 1) 13, none, false⟩,
  ⟨some 64, .load 4 (.tmp 63), none, false⟩,
  ⟨some 65, .fieldAddr 28 (.tmp 3) 3, none, false⟩,
  ⟨none, .store 9 (.tmp 65) (.tmp 58), none, false⟩,
  ⟨some 66, .fieldAddr 28 (.tmp 3) 11, none, false⟩,
  ⟨none, .store 9 (.tmp 66) (.tmp 60), none, false⟩,
  ⟨some 67, .fieldAddr 28 (.tmp 3) 12, none, false⟩,
  ⟨none, .store 4 (.tmp 67) (.tmp 62), none, false⟩]
  [⟨some 68, .fieldAddr 28 (.tmp 3) 13, none, false⟩,
  ⟨none, .store 4 (.tmp 68) (.tmp 64), none, false⟩])
 (.seq (.region [⟨some 69, .fieldAddr 28 (.tmp 1) 13, none, false⟩,
  ⟨some 70, .load 4 (.tmp 69), none, false⟩])
 (.cond (.tmp 70)
  (.region [⟨some 71, .fieldAddr 28 (.tmp 1) 14, none, false⟩,
   ⟨some 72, .load 9 (.tmp 71), none, false⟩,
   ⟨some 73, .fieldAddr 28 (.tmp 3) 14, none, false⟩,
   ⟨none, .store 9 (.tmp 73) (.tmp 72), none, false⟩])
  .skip)))
 (.exit 0))))
 (.seq (.drawC [⟨some 74, .fieldAddr 28 (.tmp 1) 3, none, false⟩,
  ⟨some 75, .load 9 (.tmp 74), none, false⟩,
  ⟨some 76, .fieldAddr 28 (.tmp 1) 15, none, false⟩,
  ⟨some 77, .load 9 (.tmp 76), none, false⟩,
  ⟨some 78, .fieldAddr 28 (.tmp 1) 16, none, false⟩,
  ⟨some 79, .load 9 (.tmp 78), none, false⟩,
  ⟨some 80, .fieldAddr 28 (.tmp 3) 3, none, false⟩,
  ⟨none, .store 9 (.tmp 80) (.tmp 75), none, false⟩,
  ⟨some 81, .fieldAddr 28 (.tmp 3) 15, none, false⟩,
  ⟨none, .store 9 (.tmp 81) (.tmp 77), none, false⟩]
  [⟨some 82, .fieldAddr 28 (.tmp 3) 16, none, false⟩,
  ⟨none, .store 9 (.tmp 82) (.tmp 79), none, false⟩])
 (.exit 0))))
 (.seq (.drawC [⟨some 83, .fieldAddr 28 (.tmp 1) 2, none, false⟩,
  ⟨some 84, .load 3 (.tmp 83), none, false⟩,
  ⟨some 85, .fieldAddr 28 (.tmp 1) 17, none, false⟩,
  ⟨some 86, .load 3 (.tmp 85), none, false⟩,
  ⟨some 87, .fieldAddr 28 (.tmp 1) 18, none, false⟩,
  ⟨some 88, .load 9 (.tmp 87), none, false⟩,
  ⟨some 89, .fieldAddr 28 (.tmp 3) 2, none, false⟩,
  ⟨none, .store 3 (.tmp 89) (.tmp 84), none, false⟩,
  ⟨some 90, .fieldAddr 28 (.tmp 3) 17, none, false⟩,
  ⟨none, .store 3 (.tmp 90) (.tmp 86), none, false⟩]
  [⟨some 91, .fieldAddr 28 (.tmp 3) 18, none, false⟩,
  ⟨none, .store 9 (.tmp 91) (.tmp 88), none, false⟩])
 (.exit 0)))))
 (.seq (.region [⟨some 92, .load 28 (.tmp 3), none, false⟩,
  ⟨none, .store 28 (.tmp 2) (.tmp 92), none, false⟩])
 .ret))))
def fn30 : PFn := ⟨93, [.cell 2 28], pc30, false⟩
theorem fnOk30 : FnOk Tryz.prog 30 fn30 := ⟨⟨_, _, [12, 13, 16, 19, 20], Tryz.func30, rfl, by kernel_rfl, rfl, rfl, of_decide_eq_true (by kernel_rfl)⟩⟩

def pc85L0 : PC :=
 (.seq (.region [⟨some 9, .binOp .lss 3 (.tmp 8) (.tmp 7) 3, none, false⟩])
 (.seq (.cond (.tmp 9)
  .skip
  (.exit 0))
 (.seq (.block 1 (.seq (.region [⟨some 10, .move (.tmp 8), none, false⟩,
  ⟨some 5, .assign (.tmp 10), none, false⟩])
 (.seq (.region [⟨some 11, .move (.tmp 1), none, false⟩,
  ⟨some 12, .move (.tmp 0), none, false⟩,
  ⟨some 13, .move (.tmp 5), none, false⟩,
  ⟨some 14, .indexAddr 22 (.tmp 12) (.tmp 13), none, false⟩,
  ⟨some 15, .load 9 (.tmp 14), none, false⟩,
  ⟨some 16, .call ⟨.value (.tmp 11), #[.tmp 15], #[9]⟩, none, false⟩])
 (.cond (.tmp 16)
  (.seq (.region [⟨some 17, .move (.tmp 5), none, false⟩,
   ⟨some 4, .assign (.tmp 17), none, false⟩])
  .ret)
  .skip))))
 (.region [⟨some 18, .binOp .add 3 (.tmp 8) (.const (.int .i64 1)) 3, none, false⟩,
  ⟨some 8, .move (.tmp 18), none, false⟩]))))
def pc85 : PC :=
 (.seq (.region [⟨some 4, .assign (.const (.int .i64 0)), none, false⟩])
 (.seq (.seq (.region [⟨some 6, .move (.tmp 0), none, false⟩,
  ⟨some 7, .call ⟨.builtin .len, #[.tmp 6], #[22]⟩, none, false⟩,
  ⟨some 8, .move (.const (.int .i64 0)), none, false⟩])
 (.block 0 (.loop pc85L0)))
 (.seq (.region [⟨some 4, .assign (.const (.int .i64 (-1))), none, false⟩])
 .ret)))
def fn85 : PFn := ⟨19, [.tmp 4], pc85, false⟩
theorem fnOk85 : FnOk Tryz.prog 85 fn85 := ⟨⟨_, _, [], Tryz.func85, rfl, by kernel_rfl, rfl, rfl, of_decide_eq_true (by kernel_rfl)⟩⟩

def pc65 : PC :=
 (.seq (.region [⟨some 4, .assign (.const (.bool false)), none, false⟩])
 (.seq (.region [⟨some 5, .move (.tmp 0), none, false⟩,
  ⟨some 6, .move (.tmp 1), none, false⟩,
  ⟨some 7, .call ⟨.value (.func 85), #[.tmp 5, .tmp 6], #[22, 41]⟩, none, false⟩,
  ⟨some 8, .binOp .geq 3 (.tmp 7) (.const (.int .i64 0)) 3, none, false⟩,
  ⟨some 4, .assign (.tmp 8), none, false⟩])
 .ret))
def fn65 : PFn := ⟨9, [.tmp 4], pc65, false⟩
theorem fnOk65 : FnOk Tryz.prog 65 fn65 := ⟨⟨_, _, [], Tryz.func65, rfl, by kernel_rfl, rfl, rfl, of_decide_eq_true (by kernel_rfl)⟩⟩

def pc31 : PC :=
 (.seq (.region [⟨some 2, .assign (.const (.bool false)), none, false⟩])
 (.seq (.region [⟨some 3, .move (.tmp 0), none, false⟩,
  ⟨some 4, .call ⟨.value (.func 65), #[.tmp 3, .func 66], #[22, 41]⟩, none, false⟩,
  ⟨some 5, .unOp .not 4 (.tmp 4), none, false⟩,
  ⟨some 2, .assign (.tmp 5), none, false⟩])
 .ret))
def fn31 : PFn := ⟨6, [.tmp 2], pc31, false⟩
theorem fnOk31 : FnOk Tryz.prog 31 fn31 := ⟨⟨_, _, [], Tryz.func31, rfl, by kernel_rfl, rfl, rfl, of_decide_eq_true (by kernel_rfl)⟩⟩

def pc86 : PC :=
 (.seq (.region [⟨some 2, .assign (.const (.bool false)), none, false⟩])
 (.seq (.region [⟨some 3, .move (.tmp 0), none, false⟩,
  ⟨some 4, .binOp .geq 3 (.tmp 3) (.const (.int .i64 1)) 3, none, false⟩,
  ⟨some 5, .move (.tmp 4), none, false⟩,
  ⟨some 6, .move (.tmp 0), some (5, true), false⟩,
  ⟨some 7, .binOp .leq 3 (.tmp 6) (.const (.int .i64 3)) 3, some (5, true), false⟩,
  ⟨some 8, .pick (.tmp 5) (.tmp 7) (.const (.bool false)), none, false⟩,
  ⟨some 2, .assign (.tmp 8), none, false⟩])
 .ret))
def fn86 : PFn := ⟨9, [.tmp 2], pc86, false⟩
theorem fnOk86 : FnOk Tryz.prog 86 fn86 := ⟨⟨_, _, [], Tryz.func86, rfl, by kernel_rfl, rfl, rfl, of_decide_eq_true (by kernel_rfl)⟩⟩

def pc67L0 : PC :=
 (.seq (.seq (.region [⟨some 5, .fieldAddr 25 (.tmp 1) 0, none, false⟩,
  ⟨some 6, .load 3 (.tmp 5), none, false⟩,
  ⟨some 7, .call ⟨.value (.func 86), #[.tmp 6], #[3]⟩, none, false⟩,
  ⟨some 8, .move (.tmp 7), none, false⟩,
  ⟨some 9, .move (.tmp 4), some (8, true), false⟩,
  ⟨some 10, .fieldAddr 25 (.tmp 1) 4, some (8, true), false⟩,
  ⟨some 11, .load 23 (.tmp 10), some (8, true), false⟩,
  ⟨some 12, .call ⟨.builtin .len, #[.tmp 11], #[23]⟩, some (8, true), false⟩,
  ⟨some 13, .binOp .lss 3 (.tmp 9) (.tmp 12) 3, some (8, true), false⟩,
  ⟨some 14, .pick (.tmp 8) (.tmp 13) (.const (.bool false)), none, false⟩,
  ⟨some 15, .move (.tmp 14), none, false⟩,
  ⟨some 16, .move (.tmp 3), some (15, true), false⟩,
  ⟨some 17, .binOp .leq 3 (.tmp 16) (.const (.int .i64 20)) 3, some (15, true), false⟩,
  ⟨some 18, .pick (.tmp 15) (.tmp 17) (.const (.bool false)), none, false⟩])
 (.cond (.tmp 18)
  .skip
  (.exit 0)))
 (.seq (.block 1 (.region [⟨some 21, .move (.tmp 3), none, false⟩,
  ⟨some 22, .fieldAddr 25 (.tmp 1) 4, none, false⟩,
  ⟨some 23, .load 23 (.tmp 22), none, false⟩,
  ⟨some 24, .move (.tmp 4), none, false⟩,
  ⟨some 25, .indexAddr 23 (.tmp 23) (.tmp 24), none, false⟩,
  ⟨some 26, .load 25 (.tmp 25), none, false⟩,
  ⟨some 27, .call ⟨.value (.func 67), #[.tmp 26], #[25]⟩, none, false⟩,
  ⟨some 28, .binOp .add 3 (.tmp 21) (.tmp 27) 3, none, false⟩,
  ⟨some 3, .assign (.tmp 28), none, false⟩]))
 (.region [⟨some 19, .move (.tmp 4), none, false⟩,
  ⟨some 20, .binOp .add 3 (.tmp 19) (.const (.int .i64 1)) 3, none, false⟩,
  ⟨some 4, .assign (.tmp 20), none, false⟩])))
def pc67 : PC :=
 (.seq (.region [⟨some 1, .box 25 (.tmp 0), none, false⟩,
  ⟨some 2, .assign (.const (.int .i64 0)), none, false⟩])
 (.seq (.region [⟨some 3, .assign (.const (.int .i64 1)), none, false⟩])
 (.seq (.seq (.region [⟨some 4, .assign (.const (.int .i64 0)), none, false⟩])
 (.block 0 (.loop pc67L0)))
 (.seq (.region [⟨some 29, .move (.tmp 3), none, false⟩,
  ⟨some 30, .call ⟨.builtin .min, #[.tmp 29, .const (.int .i64 21)], #[3, 3]⟩, none, false⟩,
  ⟨some 2, .assign (.tmp 30), none, false⟩])
 .ret))))
def fn67 : PFn := ⟨31, [.tmp 2], pc67, false⟩
theorem fnOk67 : FnOk Tryz.prog 67 fn67 := ⟨⟨_, _, [], Tryz.func67, rfl, by kernel_rfl, rfl, rfl, of_decide_eq_true (by kernel_rfl)⟩⟩

def pc106L0 : PC :=
 (.seq (.region [⟨some 9, .binOp .lss 3 (.tmp 8) (.tmp 7) 3, none, false⟩])
 (.seq (.cond (.tmp 9)
  .skip
  (.exit 0))
 (.seq (.block 1 (.seq (.region [⟨some 10, .move (.tmp 8), none, false⟩,
  ⟨some 5, .assign (.tmp 10), none, false⟩])
 (.seq (.region [⟨some 11, .move (.tmp 1), none, false⟩,
  ⟨some 12, .move (.tmp 0), none, false⟩,
  ⟨some 13, .move (.tmp 5), none, false⟩,
  ⟨some 14, .indexAddr 23 (.tmp 12) (.tmp 13), none, false⟩,
  ⟨some 15, .load 25 (.tmp 14), none, false⟩,
  ⟨some 16, .call ⟨.value (.tmp 11), #[.tmp 15], #[25]⟩, none, false⟩])
 (.cond (.tmp 16)
  (.seq (.region [⟨some 17, .move (.tmp 5), none, false⟩,
   ⟨some 4, .assign (.tmp 17), none, false⟩])
  .ret)
  .skip))))
 (.region [⟨some 18, .binOp .add 3 (.tmp 8) (.const (.int .i64 1)) 3, none, false⟩,
  ⟨some 8, .move (.tmp 18), none, false⟩]))))
def pc106 : PC :=
 (.seq (.region [⟨some 4, .assign (.const (.int .i64 0)), none, false⟩])
 (.seq (.seq (.region [⟨some 6, .move (.tmp 0), none, false⟩,
  ⟨some 7, .call ⟨.builtin .len, #[.tmp 6], #[23]⟩, none, false⟩,
  ⟨some 8, .move (.const (.int .i64 0)), none, false⟩])
 (.block 0 (.loop pc106L0)))
 (.seq (.region [⟨some 4, .assign (.const (.int .i64 (-1))), none, false⟩])
 .ret)))
def fn106 : PFn := ⟨19, [.tmp 4], pc106, false⟩
theorem fnOk106 : FnOk Tryz.prog 106 fn106 := ⟨⟨_, _, [], Tryz.func106, rfl, by kernel_rfl, rfl, rfl, of_decide_eq_true (by kernel_rfl)⟩⟩

def pc87 : PC :=
 (.seq (.region [⟨some 4, .assign (.const (.bool false)), none, false⟩])
 (.seq (.region [⟨some 5, .move (.tmp 0), none, false⟩,
  ⟨some 6, .move (.tmp 1), none, false⟩,
  ⟨some 7, .call ⟨.value (.func 106), #[.tmp 5, .tmp 6], #[23, 63]⟩, none, false⟩,
  ⟨some 8, .binOp .geq 3 (.tmp 7) (.const (.int .i64 0)) 3, none, false⟩,
  ⟨some 4, .assign (.tmp 8), none, false⟩])
 .ret))
def fn87 : PFn := ⟨9, [.tmp 4], pc87, false⟩
theorem fnOk87 : FnOk Tryz.prog 87 fn87 := ⟨⟨_, _, [], Tryz.func87, rfl, by kernel_rfl, rfl, rfl, of_decide_eq_true (by kernel_rfl)⟩⟩

def pc89L0 : PC :=
 (.seq (.region [⟨some 26, .binOp .lss 3 (.tmp 25) (.tmp 24) 3, none, false⟩])
 (.seq (.cond (.tmp 26)
  .skip
  (.exit 0))
 (.seq (.block 1 (.seq (.region [⟨some 27, .indexAddr 40 (.tmp 23) (.tmp 25), none, false⟩,
  ⟨some 28, .load 5 (.tmp 27), none, false⟩,
  ⟨some 4, .assign (.tmp 28), none, false⟩])
 (.block 2 (.seq (.block 5 (.seq (.block 4 (.block 3 (.seq (.seq (.seq (.region [⟨some 30, .move (.tmp 4), none, false⟩,
  ⟨some 31, .binOp .geq 5 (.tmp 30) (.const (.int .u8 97)) 5, none, false⟩,
  ⟨some 32, .move (.tmp 31), none, false⟩,
  ⟨some 33, .move (.tmp 4), some (32, true), false⟩,
  ⟨some 34, .binOp .leq 5 (.tmp 33) (.const (.int .u8 122)) 5, some (32, true), false⟩,
  ⟨some 35, .pick (.tmp 32) (.tmp 34) (.const (.bool false)), none, false⟩,
  ⟨some 29, .assign (.tmp 35), none, false⟩])
 (.cond (.tmp 29)
  (.exit 3)
  .skip))
 (.seq (.seq (.region [⟨some 37, .move (.tmp 4), none, false⟩,
  ⟨some 38, .binOp .geq 5 (.tmp 37) (.const (.int .u8 48)) 5, none, false⟩,
  ⟨some 39, .move (.tmp 38), none, false⟩,
  ⟨some 40, .move (.tmp 4), some (39, true), false⟩,
  ⟨some 41, .binOp .leq 5 (.tmp 40) (.const (.int .u8 57)) 5, some (39, true), false⟩,
  ⟨some 42, .pick (.tmp 39) (.tmp 41) (.const (.bool false)), none, false⟩,
  ⟨some 36, .assign (.tmp 42), none, false⟩])
 (.cond (.tmp 36)
  .skip
  (.region [⟨some 43, .move (.tmp 4), none, false⟩,
   ⟨some 44, .binOp .eql 5 (.tmp 43) (.const (.int .u8 45)) 5, none, false⟩,
   ⟨some 36, .assign (.tmp 44), none, false⟩])))
 (.cond (.tmp 36)
  (.exit 4)
  .skip)))
 (.exit 5))))
 (.exit 2)))
 (.seq (.seq (.region [⟨some 2, .assign (.const (.bool false)), none, false⟩])
 .ret)
 (.exit 2))))))
 (.region [⟨some 45, .binOp .add 3 (.tmp 25) (.const (.int .i64 1)) 3, none, false⟩,
  ⟨some 25, .move (.tmp 45), none, false⟩]))))
def pc89 : PC :=
 (.seq (.region [⟨some 2, .assign (.const (.bool false)), none, false⟩])
 (.seq (.seq (.region [⟨some 5, .move (.tmp 0), none, false⟩,
  ⟨some 6, .binOp .eql 9 (.tmp 5) (.const (.string ⟨#[]⟩)) 9, none, false⟩,
  ⟨some 7, .move (.tmp 6), none, false⟩,
  ⟨some 8, .move (.tmp 0), some (7, false), false⟩,
  ⟨some 9, .call ⟨.builtin .len, #[.tmp 8], #[9]⟩, some (7, false), false⟩,
  ⟨some 10, .binOp .gtr 3 (.tmp 9) (.const (.int .i64 16)) 3, some (7, false), false⟩,
  ⟨some 11, .pick (.tmp 7) (.const (.bool true)) (.tmp 10), none, false⟩,
  ⟨some 12, .move (.tmp 11), none, false⟩,
  ⟨some 13, .move (.tmp 0), some (12, false), false⟩,
  ⟨some 14, .index 9 (.tmp 13) (.const (.int .i64 0)), some (12, false), false⟩,
  ⟨some 15, .binOp .lss 5 (.tmp 14) (.const (.int .u8 97)) 5, some (12, false), false⟩,
  ⟨some 16, .pick (.tmp 12) (.const (.bool true)) (.tmp 15), none, false⟩,
  ⟨some 17, .move (.tmp 16), none, false⟩,
  ⟨some 18, .move (.tmp 0), some (17, false), false⟩,
  ⟨some 19, .index 9 (.tmp 18) (.const (.int .i64 0)), some (17, false), false⟩,
  ⟨some 20, .binOp .gtr 5 (.tmp 19) (.const (.int .u8 122)) 5, some (17, false), false⟩,
  ⟨some 21, .pick (.tmp 17) (.const (.bool true)) (.tmp 20), none, false⟩])
 (.cond (.tmp 21)
  (.seq (.region [⟨some 2, .assign (.const (.bool false)), none, false⟩])
  .ret)
  .skip))
 (.seq (.seq (.region [⟨some 22, .move (.tmp 0), none, false⟩,
  ⟨some 23, .convert 9 40 (.tmp 22), none, false⟩,
  ⟨some 24, .call ⟨.builtin .len, #[.tmp 23], #[40]⟩, none, false⟩,
  ⟨some 25, .move (.const (.int .i64 0)), none, false⟩])
 (.block 0 (.loop pc89L0)))
 (.seq (.region [⟨some 2, .assign (.const (.bool true)), none, false⟩])
 .ret))))
def fn89 : PFn := ⟨46, [.tmp 2], pc89, false⟩
theorem fnOk89 : FnOk Tryz.prog 89 fn89 := ⟨⟨_, _, [], Tryz.func89, rfl, by kernel_rfl, rfl, rfl, of_decide_eq_true (by kernel_rfl)⟩⟩

def pc107L1 : PC :=
 (.seq (.region [⟨some 42, .binOp .lss 3 (.tmp 41) (.tmp 40) 3, none, false⟩])
 (.seq (.cond (.tmp 42)
  .skip
  (.exit 1))
 (.seq (.block 2 (.seq (.region [⟨some 43, .indexAddr 22 (.tmp 39) (.tmp 41), none, false⟩,
  ⟨some 44, .load 9 (.tmp 43), none, false⟩,
  ⟨some 7, .assign (.tmp 44), none, false⟩])
 (.seq (.seq (.region [⟨some 45, .move (.tmp 7), none, false⟩,
  ⟨some 46, .call ⟨.builtin .len, #[.tmp 45], #[9]⟩, none, false⟩,
  ⟨some 47, .move (.tmp 5), none, false⟩,
  ⟨some 48, .binOp .sub 3 (.const (.int .i64 9223372036854775807)) (.tmp 47) 3, none, false⟩,
  ⟨some 49, .binOp .gtr 3 (.tmp 46) (.tmp 48) 3, none, false⟩])
 (.cond (.tmp 49)
  (.region [⟨some 50, .makeInterface 9 (.const (.string ⟨#[115, 116, 114, 105, 110, 103, 115, 58, 32, 74, 111, 105, 110, 32, 111, 117, 116, 112, 117, 116, 32, 108, 101, 110, 103, 116, 104, 32, 111, 118, 101, 114, 102, 108, 111, 119]⟩)), none, false⟩,
   ⟨none, .panic (.tmp 50), none, false⟩])
  .skip))
 (.region [⟨some 51, .move (.tmp 5), none, false⟩,
  ⟨some 52, .move (.tmp 7), none, false⟩,
  ⟨some 53, .call ⟨.builtin .len, #[.tmp 52], #[9]⟩, none, false⟩,
  ⟨some 54, .binOp .add 3 (.tmp 51) (.tmp 53) 3, none, false⟩,
  ⟨some 5, .assign (.tmp 54), none, false⟩]))))
 (.region [⟨some 55, .binOp .add 3 (.tmp 41) (.const (.int .i64 1)) 3, none, false⟩,
  ⟨some 41, .move (.tmp 55), none, false⟩]))))
def pc107L3 : PC :=
 (.seq (.region [⟨some 66, .binOp .lss 3 (.tmp 65) (.tmp 64) 3, none, false⟩])
 (.seq (.cond (.tmp 66)
  .skip
  (.exit 3))
 (.seq (.block 4 (.seq (.region [⟨some 67, .indexAddr 22 (.tmp 63) (.tmp 65), none, false⟩,
  ⟨some 68, .load 9 (.tmp 67), none, false⟩,
  ⟨some 10, .assign (.tmp 68), none, false⟩])
 (.seq (.region [⟨some 69, .move (.tmp 1), none, false⟩,
  ⟨some 70, .call ⟨.value (.func 112), #[.tmp 8, .tmp 69], #[159, 9]⟩, none, false⟩])
 (.region [⟨some 71, .move (.tmp 10), none, false⟩,
  ⟨some 72, .call ⟨.value (.func 112), #[.tmp 8, .tmp 71], #[159, 9]⟩, none, false⟩]))))
 (.region [⟨some 73, .binOp .add 3 (.tmp 65) (.const (.int .i64 1)) 3, none, false⟩,
  ⟨some 65, .move (.tmp 73), none, false⟩]))))
def pc107 : PC :=
 (.seq (.region [⟨some 4, .assign (.const (.string ⟨#[]⟩)), none, false⟩])
 (.seq (.seq (.region [⟨some 11, .move (.tmp 0), none, false⟩,
  ⟨some 12, .call ⟨.builtin .len, #[.tmp 11], #[22]⟩, none, false⟩])
 (.block 0 (.seq (.region [⟨some 14, .binOp .eql 3 (.tmp 12) (.const (.int .i64 0)) 3, none, false⟩,
  ⟨some 13, .assign (.tmp 14), none, false⟩])
 (.cond (.tmp 13)
  (.seq (.region [⟨some 4, .assign (.const (.string ⟨#[]⟩)), none, false⟩])
  .ret)
  (.seq (.region [⟨some 16, .binOp .eql 3 (.tmp 12) (.const (.int .i64 1)) 3, none, false⟩,
   ⟨some 15, .assign (.tmp 16), none, false⟩])
  (.cond (.tmp 15)
   (.seq (.region [⟨some 17, .move (.tmp 0), none, false⟩,
    ⟨some 18, .indexAddr 22 (.tmp 17) (.const (.int .i64 0)), none, false⟩,
    ⟨some 19, .load 9 (.tmp 18), none, false⟩,
    ⟨some 4, .assign (.tmp 19), none, false⟩])
   .ret)
   .skip))))))
 (.seq (.region [⟨some 5, .assign (.const (.int .i64 0)), none, false⟩])
 (.seq (.seq (.region [⟨some 20, .move (.tmp 1), none, false⟩,
  ⟨some 21, .call ⟨.builtin .len, #[.tmp 20], #[9]⟩, none, false⟩,
  ⟨some 22, .binOp .gtr 3 (.tmp 21) (.const (.int .i64 0)) 3, none, false⟩])
 (.cond (.tmp 22)
  (.seq (.seq (.region [⟨some 23, .move (.tmp 1), none, false⟩,
   ⟨some 24, .call ⟨.builtin .len, #[.tmp 23], #[9]⟩, none, false⟩,
   ⟨some 25, .move (.tmp 0), none, false⟩,
   ⟨some 26, .call ⟨.builtin .len, #[.tmp 25], #[22]⟩, none, false⟩,
   ⟨some 27, .binOp .sub 3 (.tmp 26) (.const (.int .i64 1)) 3, none, false⟩,
   ⟨some 28, .binOp .quo 3 (.const (.int .i64 9223372036854775807)) (.tmp 27) 3, none, false⟩,
   ⟨some 29, .binOp .geq 3 (.tmp 24) (.tmp 28) 3, none, false⟩])
  (.cond (.tmp 29)
   (.region [⟨some 30, .makeInterface 9 (.const (.string ⟨#[115, 116, 114, 105, 110, 103, 115, 58, 32, 74, 111, 105, 110, 32, 111, 117, 116, 112, 117, 116, 32, 108, 101, 110, 103, 116, 104, 32, 111, 118, 101, 114, 102, 108, 111, 119]⟩)), none, false⟩,
    ⟨none, .panic (.tmp 30), none, false⟩])
   .skip))
  (.region [⟨some 31, .move (.tmp 5), none, false⟩,
   ⟨some 32, .move (.tmp 1), none, false⟩,
   ⟨some 33, .call ⟨.builtin .len, #[.tmp 32], #[9]⟩, none, false⟩,
   ⟨some 34, .move (.tmp 0), none, false⟩,
   ⟨some 35, .call ⟨.builtin .len, #[.tmp 34], #[22]⟩, none, false⟩,
   ⟨some 36, .binOp .sub 3 (.tmp 35) (.const (.int .i64 1)) 3, none, false⟩,
   ⟨some 37, .binOp .mul 3 (.tmp 33) (.tmp 36) 3, none, false⟩,
   ⟨some 38, .binOp .add 3 (.tmp 31) (.tmp 37) 3, none, false⟩,
   ⟨some 5, .assign (.tmp 38), none, false⟩]))
  .skip))
 (.seq (.seq (.region [⟨some 39, .move (.tmp 0), none, false⟩,
  ⟨some 40, .call ⟨.builtin .len, #[.tmp 39], #[22]⟩, none, false⟩,
  ⟨some 41, .move (.const (.int .i64 0)), none, false⟩])
 (.block 1 (.loop pc107L1)))
 (.seq (.region [⟨some 8, .alloc 159, none, false⟩])
 (.seq (.region [⟨some 56, .move (.tmp 5), none, false⟩,
  ⟨some 57, .call ⟨.value (.func 111), #[.tmp 8, .tmp 56], #[159, 3]⟩, none, false⟩])
 (.seq (.region [⟨some 58, .move (.tmp 0), none, false⟩,
  ⟨some 59, .indexAddr 22 (.tmp 58) (.const (.int .i64 0)), none, false⟩,
  ⟨some 60, .load 9 (.tmp 59), none, false⟩,
  ⟨some 61, .call ⟨.value (.func 112), #[.tmp 8, .tmp 60], #[159, 9]⟩, none, false⟩])
 (.seq (.seq (.region [⟨some 62, .move (.tmp 0), none, false⟩,
  ⟨some 63, .slice 22 (.tmp 62) (some (.const (.int .i64 1))) none none, none, false⟩,
  ⟨some 64, .call ⟨.builtin .len, #[.tmp 63], #[22]⟩, none, false⟩,
  ⟨some 65, .move (.const (.int .i64 0)), none, false⟩])
 (.block 3 (.loop pc107L3)))
 (.seq (.region [⟨some 74, .call ⟨.value (.func 113), #[.tmp 8], #[159]⟩, none, false⟩,
  ⟨some 4, .assign (.tmp 74), none, false⟩])
 .ret))))))))))
def fn107 : PFn := ⟨75, [.tmp 4], pc107, false⟩
theorem fnOk107 : FnOk Tryz.prog 107 fn107 := ⟨⟨_, _, [], Tryz.func107, rfl, by kernel_rfl, rfl, rfl, of_decide_eq_true (by kernel_rfl)⟩⟩

def pc90L0 : PC :=
 (.seq (.region [⟨some 21, .binOp .lss 3 (.tmp 20) (.tmp 19) 3, none, false⟩])
 (.seq (.cond (.tmp 21)
  .skip
  (.exit 0))
 (.seq (.block 1 (.seq (.region [⟨some 22, .move (.tmp 20), none, false⟩,
  ⟨some 23, .indexAddr 22 (.tmp 18) (.tmp 20), none, false⟩,
  ⟨some 24, .load 9 (.tmp 23), none, false⟩,
  ⟨some 3, .assign (.tmp 22), none, false⟩,
  ⟨some 4, .assign (.tmp 24), none, false⟩])
 (.seq (.region [⟨some 25, .move (.tmp 4), none, false⟩,
  ⟨some 26, .call ⟨.builtin .len, #[.tmp 25], #[9]⟩, none, false⟩,
  ⟨some 27, .binOp .gtr 3 (.tmp 26) (.const (.int .i64 60)) 3, none, false⟩,
  ⟨some 28, .move (.tmp 27), none, false⟩,
  ⟨some 29, .move (.tmp 4), some (28, false), false⟩,
  ⟨some 30, .binOp .eql 9 (.tmp 29) (.const (.string ⟨#[]⟩)) 9, some (28, false), false⟩,
  ⟨some 31, .move (.tmp 30), some (28, false), false⟩,
  ⟨some 32, .move (.tmp 3), some (31, true), false⟩,
  ⟨some 33, .binOp .gtr 3 (.tmp 32) (.const (.int .i64 0)) 3, some (31, true), false⟩,
  ⟨some 34, .pick (.tmp 31) (.tmp 33) (.const (.bool false)), some (28, false), false⟩,
  ⟨some 35, .move (.tmp 34), some (28, false), false⟩,
  ⟨some 36, .move (.tmp 3), some (35, true), false⟩,
  ⟨some 37, .move (.tmp 0), some (35, true), false⟩,
  ⟨some 38, .call ⟨.builtin .len, #[.tmp 37], #[22]⟩, some (35, true), false⟩,
  ⟨some 39, .binOp .sub 3 (.tmp 38) (.const (.int .i64 1)) 3, some (35, true), false⟩,
  ⟨some 40, .binOp .lss 3 (.tmp 36) (.tmp 39) 3, some (35, true), false⟩,
  ⟨some 41, .pick (.tmp 35) (.tmp 40) (.const (.bool false)), some (28, false), false⟩,
  ⟨some 42, .pick (.tmp 28) (.const (.bool true)) (.tmp 41), none, false⟩])
 (.cond (.tmp 42)
  (.seq (.region [⟨some 2, .assign (.const (.bool false)), none, false⟩])
  .ret)
  .skip))))
 (.region [⟨some 43, .binOp .add 3 (.tmp 20) (.const (.int .i64 1)) 3, none, false⟩,
  ⟨some 20, .move (.tmp 43), none, false⟩]))))
def pc90 : PC :=
 (.seq (.region [⟨some 2, .assign (.const (.bool false)), none, false⟩])
 (.seq (.seq (.region [⟨some 5, .move (.tmp 0), none, false⟩,
  ⟨some 6, .call ⟨.builtin .len, #[.tmp 5], #[22]⟩, none, false⟩,
  ⟨some 7, .binOp .lss 3 (.tmp 6) (.const (.int .i64 2)) 3, none, false⟩,
  ⟨some 8, .move (.tmp 7), none, false⟩,
  ⟨some 9, .move (.tmp 0), some (8, false), false⟩,
  ⟨some 10, .call ⟨.builtin .len, #[.tmp 9], #[22]⟩, some (8, false), false⟩,
  ⟨some 11, .binOp .gtr 3 (.tmp 10) (.const (.int .i64 20)) 3, some (8, false), false⟩,
  ⟨some 12, .pick (.tmp 8) (.const (.bool true)) (.tmp 11), none, false⟩,
  ⟨some 13, .move (.tmp 12), none, false⟩,
  ⟨some 14, .move (.tmp 0), some (13, false), false⟩,
  ⟨some 15, .call ⟨.value (.func 107), #[.tmp 14, .const (.string ⟨#[]⟩)], #[22, 9]⟩, some (13, false), false⟩,
  ⟨some 16, .binOp .eql 9 (.tmp 15) (.const (.string ⟨#[]⟩)) 9, some (13, false), false⟩,
  ⟨some 17, .pick (.tmp 13) (.const (.bool true)) (.tmp 16), none, false⟩])
 (.cond (.tmp 17)
  (.seq (.region [⟨some 2, .assign (.const (.bool false)), none, false⟩])
  .ret)
  .skip))
 (.seq (.seq (.region [⟨some 18, .move (.tmp 0), none, false⟩,
  ⟨some 19, .call ⟨.builtin .len, #[.tmp 18], #[22]⟩, none, false⟩,
  ⟨some 20, .move (.const (.int .i64 0)), none, false⟩])
 (.block 0 (.loop pc90L0)))
 (.seq (.region [⟨some 2, .assign (.const (.bool true)), none, false⟩])
 .ret))))
def fn90 : PFn := ⟨44, [.tmp 2], pc90, false⟩
theorem fnOk90 : FnOk Tryz.prog 90 fn90 := ⟨⟨_, _, [], Tryz.func90, rfl, by kernel_rfl, rfl, rfl, of_decide_eq_true (by kernel_rfl)⟩⟩

def pc68 : PC :=
 (.seq (.region [⟨some 1, .box 25 (.tmp 0), none, false⟩,
  ⟨some 2, .assign (.const (.bool false)), none, false⟩])
 (.seq (.seq (.region [⟨some 3, .fieldAddr 25 (.tmp 1) 0, none, false⟩,
  ⟨some 4, .load 3 (.tmp 3), none, false⟩])
 (.block 0 (.seq (.block 5 (.seq (.block 4 (.seq (.block 3 (.seq (.block 2 (.seq (.block 1 (.seq (.seq (.seq (.region [⟨some 6, .binOp .eql 3 (.tmp 4) (.const (.int .i64 3)) 3, none, false⟩,
  ⟨some 5, .assign (.tmp 6), none, false⟩])
 (.cond (.tmp 5)
  (.exit 1)
  .skip))
 (.seq (.seq (.seq (.region [⟨some 8, .binOp .eql 3 (.tmp 4) (.const (.int .i64 1)) 3, none, false⟩,
  ⟨some 7, .assign (.tmp 8), none, false⟩])
 (.cond (.tmp 7)
  .skip
  (.region [⟨some 9, .binOp .eql 3 (.tmp 4) (.const (.int .i64 2)) 3, none, false⟩,
   ⟨some 7, .assign (.tmp 9), none, false⟩])))
 (.cond (.tmp 7)
  (.exit 2)
  .skip))
 (.seq (.seq (.region [⟨some 11, .binOp .eql 3 (.tmp 4) (.const (.int .i64 7)) 3, none, false⟩,
  ⟨some 10, .assign (.tmp 11), none, false⟩])
 (.cond (.tmp 10)
  (.exit 3)
  .skip))
 (.seq (.seq (.region [⟨some 13, .binOp .eql 3 (.tmp 4) (.const (.int .i64 8)) 3, none, false⟩,
  ⟨some 12, .assign (.tmp 13), none, false⟩])
 (.cond (.tmp 12)
  (.exit 4)
  .skip))
 (.seq (.seq (.region [⟨some 15, .binOp .eql 3 (.tmp 4) (.const (.int .i64 4)) 3, none, false⟩,
  ⟨some 14, .assign (.tmp 15), none, false⟩])
 (.cond (.tmp 14)
  .skip
  (.seq (.region [⟨some 16, .binOp .eql 3 (.tmp 4) (.const (.int .i64 5)) 3, none, false⟩,
   ⟨some 14, .assign (.tmp 16), none, false⟩])
  (.cond (.tmp 14)
   .skip
   (.region [⟨some 17, .binOp .eql 3 (.tmp 4) (.const (.int .i64 6)) 3, none, false⟩,
    ⟨some 14, .assign (.tmp 17), none, false⟩])))))
 (.cond (.tmp 14)
  (.exit 5)
  .skip))))))
 (.exit 0)))
 (.seq (.region [⟨some 18, .fieldAddr 25 (.tmp 1) 4, none, false⟩,
  ⟨some 19, .load 23 (.tmp 18), none, false⟩,
  ⟨some 20, .call ⟨.builtin .len, #[.tmp 19], #[23]⟩, none, false⟩,
  ⟨some 21, .binOp .neq 3 (.tmp 20) (.const (.int .i64 1)) 3, none, false⟩])
 (.cond (.tmp 21)
  (.seq (.region [⟨some 2, .assign (.const (.bool false)), none, false⟩])
  .ret)
  .skip))))
 (.seq (.seq (.region [⟨some 22, .fieldAddr 25 (.tmp 1) 1, none, false⟩,
  ⟨some 23, .load 9 (.tmp 22), none, false⟩,
  ⟨some 24, .binOp .eql 9 (.tmp 23) (.const (.string ⟨#[]⟩)) 9, none, false⟩,
  ⟨some 25, .move (.tmp 24), none, false⟩,
  ⟨some 26, .fieldAddr 25 (.tmp 1) 2, some (25, true), false⟩,
  ⟨some 27, .load 9 (.tmp 26), some (25, true), false⟩,
  ⟨some 28, .binOp .eql 9 (.tmp 27) (.const (.string ⟨#[]⟩)) 9, some (25, true), false⟩,
  ⟨some 29, .pick (.tmp 25) (.tmp 28) (.const (.bool false)), none, false⟩,
  ⟨some 30, .move (.tmp 29), none, false⟩,
  ⟨some 31, .fieldAddr 25 (.tmp 1) 3, some (30, true), false⟩,
  ⟨some 32, .load 22 (.tmp 31), some (30, true), false⟩,
  ⟨some 33, .call ⟨.builtin .len, #[.tmp 32], #[22]⟩, some (30, true), false⟩,
  ⟨some 34, .binOp .eql 3 (.tmp 33) (.const (.int .i64 0)) 3, some (30, true), false⟩,
  ⟨some 35, .pick (.tmp 30) (.tmp 34) (.const (.bool false)), none, false⟩,
  ⟨some 36, .move (.tmp 35), none, false⟩,
  ⟨some 37, .fieldAddr 25 (.tmp 1) 4, some (36, true), false⟩,
  ⟨some 38, .load 23 (.tmp 37), some (36, true), false⟩,
  ⟨some 39, .call ⟨.value (.func 87), #[.tmp 38, .func 88], #[23, 63]⟩, some (36, true), false⟩,
  ⟨some 40, .unOp .not 4 (.tmp 39), some (36, true), false⟩,
  ⟨some 41, .pick (.tmp 36) (.tmp 40) (.const (.bool false)), none, false⟩,
  ⟨some 2, .assign (.tmp 41), none, false⟩])
 .ret)
 (.exit 0))))
 (.seq (.seq (.region [⟨some 42, .fieldAddr 25 (.tmp 1) 1, none, false⟩,
  ⟨some 43, .load 9 (.tmp 42), none, false⟩,
  ⟨some 44, .call ⟨.value (.func 89), #[.tmp 43], #[9]⟩, none, false⟩,
  ⟨some 45, .move (.tmp 44), none, false⟩,
  ⟨some 46, .fieldAddr 25 (.tmp 1) 2, some (45, true), false⟩,
  ⟨some 47, .load 9 (.tmp 46), some (45, true), false⟩,
  ⟨some 48, .binOp .eql 9 (.tmp 47) (.const (.string ⟨#[]⟩)) 9, some (45, true), false⟩,
  ⟨some 49, .pick (.tmp 45) (.tmp 48) (.const (.bool false)), none, false⟩,
  ⟨some 50, .move (.tmp 49), none, false⟩,
  ⟨some 51, .fieldAddr 25 (.tmp 1) 3, some (50, true), false⟩,
  ⟨some 52, .load 22 (.tmp 51), some (50, true), false⟩,
  ⟨some 53, .call ⟨.builtin .len, #[.tmp 52], #[22]⟩, some (50, true), false⟩,
  ⟨some 54, .binOp .eql 3 (.tmp 53) (.const (.int .i64 0)) 3, some (50, true), false⟩,
  ⟨some 55, .pick (.tmp 50) (.tmp 54) (.const (.bool false)), none, false⟩,
  ⟨some 56, .move (.tmp 55), none, false⟩,
  ⟨some 57, .fieldAddr 25 (.tmp 1) 4, some (56, true), false⟩,
  ⟨some 58, .load 23 (.tmp 57), some (56, true), false⟩,
  ⟨some 59, .call ⟨.builtin .len, #[.tmp 58], #[23]⟩, some (56, true), false⟩,
  ⟨some 60, .binOp .eql 3 (.tmp 59) (.const (.int .i64 0)) 3, some (56, true), false⟩,
  ⟨some 61, .pick (.tmp 56) (.tmp 60) (.const (.bool false)), none, false⟩,
  ⟨some 2, .assign (.tmp 61), none, false⟩])
 .ret)
 (.exit 0))))
 (.seq (.seq (.region [⟨some 62, .fieldAddr 25 (.tmp 1) 1, none, false⟩,
  ⟨some 63, .load 9 (.tmp 62), none, false⟩,
  ⟨some 64, .call ⟨.value (.func 89), #[.tmp 63], #[9]⟩, none, false⟩,
  ⟨some 65, .move (.tmp 64), none, false⟩,
  ⟨some 66, .fieldAddr 25 (.tmp 1) 2, some (65, true), false⟩,
  ⟨some 67, .load 9 (.tmp 66), some (65, true), false⟩,
  ⟨some 68, .binOp .eql 9 (.tmp 67) (.const (.string ⟨#[]⟩)) 9, some (65, true), false⟩,
  ⟨some 69, .pick (.tmp 65) (.tmp 68) (.const (.bool false)), none, false⟩,
  ⟨some 70, .move (.tmp 69), none, false⟩,
  ⟨some 71, .fieldAddr 25 (.tmp 1) 4, some (70, true), false⟩,
  ⟨some 72, .load 23 (.tmp 71), some (70, true), false⟩,
  ⟨some 73, .call ⟨.builtin .len, #[.tmp 72], #[23]⟩, some (70, true), false⟩,
  ⟨some 74, .binOp .eql 3 (.tmp 73) (.const (.int .i64 0)) 3, some (70, true), false⟩,
  ⟨some 75, .pick (.tmp 70) (.tmp 74) (.const (.bool false)), none, false⟩,
  ⟨some 76, .move (.tmp 75), none, false⟩,
  ⟨some 77, .fieldAddr 25 (.tmp 1) 3, some (76, true), false⟩,
  ⟨some 78, .load 22 (.tmp 77), some (76, true), false⟩,
  ⟨some 79, .call ⟨.value (.func 90), #[.tmp 78], #[22]⟩, some (76, true), false⟩,
  ⟨some 80, .pick (.tmp 76) (.tmp 79) (.const (.bool false)), none, false⟩,
  ⟨some 2, .assign (.tmp 80), none, false⟩])
 .ret)
 (.exit 0))))
 (.seq (.seq (.region [⟨some 81, .fieldAddr 25 (.tmp 1) 1, none, false⟩,
  ⟨some 82, .load 9 (.tmp 81), none, false⟩,
  ⟨some 83, .call ⟨.value (.func 89), #[.tmp 82], #[9]⟩, none, false⟩,
  ⟨some 84, .move (.tmp 83), none, false⟩,
  ⟨some 85, .fieldAddr 25 (.tmp 1) 2, some (84, true), false⟩,
  ⟨some 86, .load 9 (.tmp 85), some (84, true), false⟩,
  ⟨some 87, .call ⟨.builtin .len, #[.tmp 86], #[9]⟩, some (84, true), false⟩,
  ⟨some 88, .binOp .leq 3 (.tmp 87) (.const (.int .i64 60)) 3, some (84, true), false⟩,
  ⟨some 89, .pick (.tmp 84) (.tmp 88) (.const (.bool false)), none, false⟩,
  ⟨some 90, .move (.tmp 89), none, false⟩,
  ⟨some 91, .fieldAddr 25 (.tmp 1) 3, some (90, true), false⟩,
  ⟨some 92, .load 22 (.tmp 91), some (90, true), false⟩,
  ⟨some 93, .call ⟨.builtin .len, #[.tmp 92], #[22]⟩, some (90, true), false⟩,
  ⟨some 94, .binOp .eql 3 (.tmp 93) (.const (.int .i64 0)) 3, some (90, true), false⟩,
  ⟨some 95, .pick (.tmp 90) (.tmp 94) (.const (.bool false)), none, false⟩,
  ⟨some 96, .move (.tmp 95), none, false⟩,
  ⟨some 97, .fieldAddr 25 (.tmp 1) 4, some (96, true), false⟩,
  ⟨some 98, .load 23 (.tmp 97), some (96, true), false⟩,
  ⟨some 99, .call ⟨.builtin .len, #[.tmp 98], #[23]⟩, some (96, true), false⟩,
  ⟨some 100, .binOp .eql 3 (.tmp 99) (.const (.int .i64 0)) 3, some (96, true), false⟩,
  ⟨some 101, .pick (.tmp 96) (.tmp 100) (.const (.bool false)), none, false⟩,
  ⟨some 2, .assign (.tmp 101), none, false⟩])
 .ret)
 (.exit 0)))))
 (.seq (.region [⟨some 2, .assign (.const (.bool false)), none, false⟩])
 .ret)))
def fn68 : PFn := ⟨102, [.tmp 2], pc68, false⟩
theorem fnOk68 : FnOk Tryz.prog 68 fn68 := ⟨⟨_, _, [], Tryz.func68, rfl, by kernel_rfl, rfl, rfl, of_decide_eq_true (by kernel_rfl)⟩⟩

def pc32 : PC :=
 (.seq (.region [⟨some 1, .box 25 (.tmp 0), none, false⟩,
  ⟨some 2, .assign (.const (.bool false)), none, false⟩])
 (.seq (.region [⟨some 3, .load 25 (.tmp 1), none, false⟩,
  ⟨some 4, .call ⟨.value (.func 67), #[.tmp 3], #[25]⟩, none, false⟩,
  ⟨some 5, .binOp .leq 3 (.tmp 4) (.const (.int .i64 20)) 3, none, false⟩,
  ⟨some 6, .move (.tmp 5), none, false⟩,
  ⟨some 7, .load 25 (.tmp 1), some (6, true), false⟩,
  ⟨some 8, .call ⟨.value (.func 68), #[.tmp 7], #[25]⟩, some (6, true), false⟩,
  ⟨some 9, .pick (.tmp 6) (.tmp 8) (.const (.bool false)), none, false⟩,
  ⟨some 2, .assign (.tmp 9), none, false⟩])
 .ret))
def fn32 : PFn := ⟨10, [.tmp 2], pc32, false⟩
theorem fnOk32 : FnOk Tryz.prog 32 fn32 := ⟨⟨_, _, [], Tryz.func32, rfl, by kernel_rfl, rfl, rfl, of_decide_eq_true (by kernel_rfl)⟩⟩

def pc33L0 : PC :=
 (.seq (.region [⟨some 10, .binOp .lss 3 (.tmp 9) (.tmp 8) 3, none, false⟩])
 (.seq (.cond (.tmp 10)
  .skip
  (.exit 0))
 (.seq (.block 1 (.seq (.region [⟨some 11, .indexAddr 26 (.tmp 7) (.tmp 9), none, false⟩,
  ⟨some 12, .load 45 (.tmp 11), none, false⟩,
  ⟨some 6, .alloc 45, none, false⟩,
  ⟨none, .store 45 (.tmp 6) (.tmp 12), none, false⟩])
 (.seq (.region [⟨some 13, .fieldAddr 45 (.tmp 6) 0, none, false⟩,
  ⟨some 14, .load 3 (.tmp 13), none, false⟩,
  ⟨some 15, .binOp .lss 3 (.tmp 14) (.const (.int .i64 1)) 3, none, false⟩,
  ⟨some 16, .move (.tmp 15), none, false⟩,
  ⟨some 17, .fieldAddr 45 (.tmp 6) 0, some (16, false), false⟩,
  ⟨some 18, .load 3 (.tmp 17), some (16, false), false⟩,
  ⟨some 19, .move (.tmp 1), some (16, false), false⟩,
  ⟨some 20, .binOp .gtr 3 (.tmp 18) (.tmp 19) 3, some (16, false), false⟩,
  ⟨some 21, .pick (.tmp 16) (.const (.bool true)) (.tmp 20), none, false⟩,
  ⟨some 22, .move (.tmp 21), none, false⟩,
  ⟨some 23, .fieldAddr 45 (.tmp 6) 1, some (22, false), false⟩,
  ⟨some 24, .load 9 (.tmp 23), some (22, false), false⟩,
  ⟨some 25, .buildSlice 22 1 #[(0, .tmp 24)], some (22, false), false⟩,
  ⟨some 26, .call ⟨.value (.func 31), #[.tmp 25], #[22]⟩, some (22, false), false⟩,
  ⟨some 27, .unOp .not 4 (.tmp 26), some (22, false), false⟩,
  ⟨some 28, .pick (.tmp 22) (.const (.bool true)) (.tmp 27), none, false⟩,
  ⟨some 29, .move (.tmp 28), none, false⟩,
  ⟨some 30, .fieldAddr 45 (.tmp 6) 2, some (29, false), false⟩,
  ⟨some 31, .load 22 (.tmp 30), some (29, false), false⟩,
  ⟨some 32, .call ⟨.builtin .len, #[.tmp 31], #[22]⟩, some (29, false), false⟩,
  ⟨some 33, .binOp .gtr 3 (.tmp 32) (.const (.int .i64 12)) 3, some (29, false), false⟩,
  ⟨some 34, .pick (.tmp 29) (.const (.bool true)) (.tmp 33), none, false⟩,
  ⟨some 35, .move (.tmp 34), none, false⟩,
  ⟨some 36, .fieldAddr 45 (.tmp 6) 2, some (35, false), false⟩,
  ⟨some 37, .load 22 (.tmp 36), some (35, false), false⟩,
  ⟨some 38, .call ⟨.value (.func 31), #[.tmp 37], #[22]⟩, some (35, false), false⟩,
  ⟨some 39, .unOp .not 4 (.tmp 38), some (35, false), false⟩,
  ⟨some 40, .pick (.tmp 35) (.const (.bool true)) (.tmp 39), none, false⟩])
 (.cond (.tmp 40)
  (.seq (.region [⟨some 4, .assign (.const (.bool false)), none, false⟩])
  .ret)
  .skip))))
 (.region [⟨some 41, .binOp .add 3 (.tmp 9) (.const (.int .i64 1)) 3, none, false⟩,
  ⟨some 9, .move (.tmp 41), none, false⟩]))))
def pc33 : PC :=
 (.seq (.region [⟨some 4, .assign (.const (.bool false)), none, false⟩])
 (.seq (.seq (.region [⟨some 7, .move (.tmp 0), none, false⟩,
  ⟨some 8, .call ⟨.builtin .len, #[.tmp 7], #[26]⟩, none, false⟩,
  ⟨some 9, .move (.const (.int .i64 0)), none, false⟩])
 (.block 0 (.loop pc33L0)))
 (.seq (.region [⟨some 42, .move (.tmp 0), none, false⟩,
  ⟨some 43, .call ⟨.builtin .len, #[.tmp 42], #[26]⟩, none, false⟩,
  ⟨some 44, .binOp .leq 3 (.tmp 43) (.const (.int .i64 12)) 3, none, false⟩,
  ⟨some 4, .assign (.tmp 44), none, false⟩])
 .ret)))
def fn33 : PFn := ⟨45, [.tmp 4], pc33, false⟩
theorem fnOk33 : FnOk Tryz.prog 33 fn33 := ⟨⟨_, _, [], Tryz.func33, rfl, by kernel_rfl, rfl, rfl, of_decide_eq_true (by kernel_rfl)⟩⟩

def pc11 : PC :=
 (.seq (.region [⟨some 1, .box 28 (.tmp 0), none, false⟩,
  ⟨some 2, .assign (.const (.bool false)), none, false⟩])
 (.seq (.seq (.draw [⟨some 3, .fieldAddr 28 (.tmp 1) 0, none, false⟩,
  ⟨some 4, .load 3 (.tmp 3), none, false⟩,
  ⟨some 5, .binOp .lss 3 (.tmp 4) (.const (.int .i64 0)) 3, none, false⟩,
  ⟨some 6, .move (.tmp 5), none, false⟩,
  ⟨some 7, .fieldAddr 28 (.tmp 1) 0, some (6, false), false⟩,
  ⟨some 8, .load 3 (.tmp 7), some (6, false), false⟩,
  ⟨some 9, .binOp .gtr 3 (.tmp 8) (.const (.int .i64 2147483647)) 3, some (6, false), false⟩,
  ⟨some 10, .pick (.tmp 6) (.const (.bool true)) (.tmp 9), none, false⟩,
  ⟨some 11, .move (.tmp 10), none, false⟩,
  ⟨some 12, .load 28 (.tmp 1), some (11, false), false⟩,
  ⟨some 13, .load 28 (.tmp 1), some (11, false), false⟩,
  ⟨some 14, .call ⟨.value (.func 30), #[.tmp 13], #[28]⟩, some (11, false), false⟩,
  ⟨some 15, .call ⟨.value (.func 13), #[.tmp 12, .tmp 14], #[28, 28]⟩, some (11, false), false⟩,
  ⟨some 16, .unOp .not 4 (.tmp 15), some (11, false), false⟩,
  ⟨some 17, .pick (.tmp 11) (.const (.bool true)) (.tmp 16), none, false⟩,
  ⟨some 18, .move (.tmp 17), none, false⟩,
  ⟨some 19, .fieldAddr 28 (.tmp 1) 3, some (18, false), false⟩,
  ⟨some 20, .load 9 (.tmp 19), some (18, false), false⟩,
  ⟨some 21, .fieldAddr 28 (.tmp 1) 5, some (18, false), false⟩,
  ⟨some 22, .load 9 (.tmp 21), some (18, false), false⟩,
  ⟨some 23, .fieldAddr 28 (.tmp 1) 11, some (18, false), false⟩,
  ⟨some 24, .load 9 (.tmp 23), some (18, false), false⟩,
  ⟨some 25, .fieldAddr 28 (.tmp 1) 14, some (18, false), false⟩,
  ⟨some 26, .load 9 (.tmp 25), some (18, false), false⟩,
  ⟨some 27, .fieldAddr 28 (.tmp 1) 15, some (18, false), false⟩,
  ⟨some 28, .load 9 (.tmp 27), some (18, false), false⟩,
  ⟨some 29, .fieldAddr 28 (.tmp 1) 16, some (18, false), false⟩,
  ⟨some 30, .load 9 (.tmp 29), some (18, false), false⟩,
  ⟨some 31, .fieldAddr 28 (.tmp 1) 18, some (18, false), false⟩,
  ⟨some 32, .load 9 (.tmp 31), some (18, false), false⟩]
  [⟨some 33, .buildSlice 22 7 #[(0, .tmp 20), (1, .tmp 22), (2, .tmp 24), (3, .tmp 26), (4, .tmp 28), (5, .tmp 30), (6, .tmp 32)], some (18, false), false⟩,
  ⟨some 34, .call ⟨.value (.func 31), #[.tmp 33], #[22]⟩, some (18, false), false⟩,
  ⟨some 35, .unOp .not 4 (.tmp 34), some (18, false), false⟩,
  ⟨some 36, .pick (.tmp 18) (.const (.bool true)) (.tmp 35), none, false⟩])
 (.cond (.tmp 36)
  (.seq (.region [⟨some 2, .assign (.const (.bool false)), none, false⟩])
  .ret)
  .skip))
 (.seq (.seq (.region [⟨some 37, .fieldAddr 28 (.tmp 1) 1, none, false⟩,
  ⟨some 38, .load 3 (.tmp 37), none, false⟩])
 (.block 0 (.seq (.region [⟨some 40, .binOp .eql 3 (.tmp 38) (.const (.int .i64 1)) 3, none, false⟩,
  ⟨some 39, .assign (.tmp 40), none, false⟩])
 (.cond (.tmp 39)
  (.seq (.region [⟨some 41, .fieldAddr 28 (.tmp 1) 4, none, false⟩,
   ⟨some 42, .load 3 (.tmp 41), none, false⟩,
   ⟨some 43, .binOp .geq 3 (.tmp 42) (.const (.int .i64 1)) 3, none, false⟩,
   ⟨some 44, .move (.tmp 43), none, false⟩,
   ⟨some 45, .fieldAddr 28 (.tmp 1) 4, some (44, true), false⟩,
   ⟨some 46, .load 3 (.tmp 45), some (44, true), false⟩,
   ⟨some 47, .binOp .leq 3 (.tmp 46) (.const (.int .i64 127)) 3, some (44, true), false⟩,
   ⟨some 48, .pick (.tmp 44) (.tmp 47) (.const (.bool false)), none, false⟩,
   ⟨some 2, .assign (.tmp 48), none, false⟩])
  .ret)
  (.seq (.region [⟨some 50, .binOp .eql 3 (.tmp 38) (.const (.int .i64 3)) 3, none, false⟩,
   ⟨some 49, .assign (.tmp 50), none, false⟩])
  (.cond (.tmp 49)
   (.seq (.region [⟨some 51, .fieldAddr 28 (.tmp 1) 6, none, false⟩,
    ⟨some 52, .load 3 (.tmp 51), none, false⟩,
    ⟨some 53, .binOp .geq 3 (.tmp 52) (.const (.int .i64 0)) 3, none, false⟩,
    ⟨some 54, .move (.tmp 53), none, false⟩,
    ⟨some 55, .fieldAddr 28 (.tmp 1) 6, some (54, true), false⟩,
    ⟨some 56, .load 3 (.tmp 55), some (54, true), false⟩,
    ⟨some 57, .binOp .leq 3 (.tmp 56) (.const (.int .i64 2)) 3, some (54, true), false⟩,
    ⟨some 58, .pick (.tmp 54) (.tmp 57) (.const (.bool false)), none, false⟩,
    ⟨some 59, .move (.tmp 58), none, false⟩,
    ⟨some 60, .fieldAddr 28 (.tmp 1) 7, some (59, true), false⟩,
    ⟨some 61, .load 3 (.tmp 60), some (59, true), false⟩,
    ⟨some 62, .binOp .geq 3 (.tmp 61) (.const (.int .i64 0)) 3, some (59, true), false⟩,
    ⟨some 63, .pick (.tmp 59) (.tmp 62) (.const (.bool false)), none, false⟩,
    ⟨some 64, .move (.tmp 63), none, false⟩,
    ⟨some 65, .fieldAddr 28 (.tmp 1) 7, some (64, true), false⟩,
    ⟨some 66, .load 3 (.tmp 65), some (64, true), false⟩,
    ⟨some 67, .binOp .leq 3 (.tmp 66) (.const (.int .i64 2147483647)) 3, some (64, true), false⟩,
    ⟨some 68, .pick (.tmp 64) (.tmp 67) (.const (.bool false)), none, false⟩,
    ⟨some 69, .move (.tmp 68), none, false⟩,
    ⟨some 70, .fieldAddr 28 (.tmp 1) 8, some (69, true), false⟩,
    ⟨some 71, .load 25 (.tmp 70), some (69, true), false⟩,
    ⟨some 72, .call ⟨.value (.func 32), #[.tmp 71], #[25]⟩, some (69, true), false⟩,
    ⟨some 73, .pick (.tmp 69) (.tmp 72) (.const (.bool false)), none, false⟩,
    ⟨some 74, .move (.tmp 73), none, false⟩,
    ⟨some 75, .fieldAddr 28 (.tmp 1) 9, some (74, true), false⟩,
    ⟨some 76, .load 22 (.tmp 75), some (74, true), false⟩,
    ⟨some 77, .call ⟨.builtin .len, #[.tmp 76], #[22]⟩, some (74, true), false⟩,
    ⟨some 78, .binOp .leq 3 (.tmp 77) (.const (.int .i64 12)) 3, some (74, true), false⟩,
    ⟨some 79, .pick (.tmp 74) (.tmp 78) (.const (.bool false)), none, false⟩,
    ⟨some 80, .move (.tmp 79), none, false⟩,
    ⟨some 81, .fieldAddr 28 (.tmp 1) 9, some (80, true), false⟩,
    ⟨some 82, .load 22 (.tmp 81), some (80, true), false⟩,
    ⟨some 83, .call ⟨.value (.func 31), #[.tmp 82], #[22]⟩, some (80, true), false⟩,
    ⟨some 84, .pick (.tmp 80) (.tmp 83) (.const (.bool false)), none, false⟩,
    ⟨some 2, .assign (.tmp 84), none, false⟩])
   .ret)
   (.seq (.region [⟨some 86, .binOp .eql 3 (.tmp 38) (.const (.int .i64 4)) 3, none, false⟩,
    ⟨some 85, .assign (.tmp 86), none, false⟩])
   (.cond (.tmp 85)
    (.seq (.region [⟨some 87, .fieldAddr 28 (.tmp 1) 10, none, false⟩,
     ⟨some 88, .load 26 (.tmp 87), none, false⟩,
     ⟨some 89, .call ⟨.value (.func 33), #[.tmp 88, .const (.int .i64 3)], #[26, 3]⟩, none, false⟩,
     ⟨some 2, .assign (.tmp 89), none, false⟩])
    .ret)
    (.seq (.seq (.region [⟨some 91, .binOp .eql 3 (.tmp 38) (.const (.int .i64 5)) 3, none, false⟩,
     ⟨some 90, .assign (.tmp 91), none, false⟩])
    (.cond (.tmp 90)
     .skip
     (.region [⟨some 92, .binOp .eql 3 (.tmp 38) (.const (.int .i64 10)) 3, none, false⟩,
      ⟨some 90, .assign (.tmp 92), none, false⟩])))
    (.cond (.tmp 90)
     (.seq (.region [⟨some 93, .fieldAddr 28 (.tmp 1) 10, none, false⟩,
      ⟨some 94, .load 26 (.tmp 93), none, false⟩,
      ⟨some 95, .call ⟨.value (.func 33), #[.tmp 94, .const (.int .i64 1)], #[26, 3]⟩, none, false⟩,
      ⟨some 2, .assign (.tmp 95), none, false⟩])
     .ret)
     (.seq (.region [⟨some 97, .binOp .eql 3 (.tmp 38) (.const (.int .i64 9)) 3, none, false⟩,
      ⟨some 96, .assign (.tmp 97), none, false⟩])
     (.cond (.tmp 96)
      (.seq (.region [⟨some 98, .fieldAddr 28 (.tmp 1) 2, none, false⟩,
       ⟨some 99, .load 3 (.tmp 98), none, false⟩,
       ⟨some 100, .call ⟨.value (.func 18), #[.const (.int .i64 9), .tmp 99], #[3, 3]⟩, none, false⟩,
       ⟨some 101, .binOp .neq 5 (.tmp 100) (.const (.int .u8 0)) 5, none, false⟩,
       ⟨some 102, .move (.tmp 101), none, false⟩,
       ⟨some 103, .fieldAddr 28 (.tmp 1) 17, some (102, true), false⟩,
       ⟨some 104, .load 3 (.tmp 103), some (102, true), false⟩,
       ⟨some 105, .binOp .geq 3 (.tmp 104) (.const (.int .i64 0)) 3, some (102, true), false⟩,
       ⟨some 106, .pick (.tmp 102) (.tmp 105) (.const (.bool false)), none, false⟩,
       ⟨some 107, .move (.tmp 106), none, false⟩,
       ⟨some 108, .fieldAddr 28 (.tmp 1) 17, some (107, true), false⟩,
       ⟨some 109, .load 3 (.tmp 108), some (107, true), false⟩,
       ⟨some 110, .binOp .leq 3 (.tmp 109) (.const (.int .i64 127)) 3, some (107, true), false⟩,
       ⟨some 111, .pick (.tmp 107) (.tmp 110) (.const (.bool false)), none, false⟩,
       ⟨some 2, .assign (.tmp 111), none, false⟩])
      .ret)
      .skip))))))))))))
 (.seq (.region [⟨some 112, .fieldAddr 28 (.tmp 1) 1, none, false⟩,
  ⟨some 113, .load 3 (.tmp 112), none, false⟩,
  ⟨some 114, .binOp .geq 3 (.tmp 113) (.const (.int .i64 1)) 3, none, false⟩,
  ⟨some 115, .move (.tmp 114), none, false⟩,
  ⟨some 116, .fieldAddr 28 (.tmp 1) 1, some (115, true), false⟩,
  ⟨some 117, .load 3 (.tmp 116), some (115, true), false⟩,
  ⟨some 118, .binOp .leq 3 (.tmp 117) (.const (.int .i64 10)) 3, some (115, true), false⟩,
  ⟨some 119, .pick (.tmp 115) (.tmp 118) (.const (.bool false)), none, false⟩,
  ⟨some 2, .assign (.tmp 119), none, false⟩])
 .ret))))
def fn11 : PFn := ⟨120, [.tmp 2], pc11, false⟩
theorem fnOk11 : FnOk Tryz.prog 11 fn11 := ⟨⟨_, _, [], Tryz.func11, rfl, by kernel_rfl, rfl, rfl, of_decide_eq_true (by kernel_rfl)⟩⟩

def pc19 : PC :=
 (.seq (.region [⟨some 4, .alloc 50, none, false⟩])
 (.seq (.region [⟨some 5, .move (.tmp 0), none, false⟩,
  ⟨some 6, .move (.tmp 1), none, false⟩,
  ⟨some 7, .build 50 #[(0, .tmp 5), (2, .tmp 6)], none, false⟩,
  ⟨none, .store 50 (.tmp 4) (.tmp 7), none, false⟩])
 .ret))
def fn19 : PFn := ⟨8, [.cell 4 50], pc19, false⟩
theorem fnOk19 : FnOk Tryz.prog 19 fn19 := ⟨⟨_, _, [], Tryz.func19, rfl, by kernel_rfl, rfl, rfl, of_decide_eq_true (by kernel_rfl)⟩⟩

def pc20 : PC :=
 (.seq (.region [⟨some 4, .alloc 50, none, false⟩])
 (.seq (.region [⟨some 5, .move (.tmp 0), none, false⟩,
  ⟨some 6, .move (.tmp 1), none, false⟩,
  ⟨some 7, .build 50 #[(0, .tmp 5), (1, .tmp 6)], none, false⟩,
  ⟨none, .store 50 (.tmp 4) (.tmp 7), none, false⟩])
 .ret))
def fn20 : PFn := ⟨8, [.cell 4 50], pc20, false⟩
theorem fnOk20 : FnOk Tryz.prog 20 fn20 := ⟨⟨_, _, [], Tryz.func20, rfl, by kernel_rfl, rfl, rfl, of_decide_eq_true (by kernel_rfl)⟩⟩

def pc51L0 : PC :=
 (.seq (.block 1 (.seq (.region [⟨some 5, .assign (.const (.int .i64 0)), none, false⟩])
 (.seq (.seq (.region [⟨some 13, .move (.tmp 3), none, false⟩,
  ⟨some 14, .indexAddr 40 (.tmp 13) (.const (.int .i64 0)), none, false⟩,
  ⟨some 15, .load 5 (.tmp 14), none, false⟩,
  ⟨some 16, .binOp .and 5 (.tmp 15) (.const (.int .u8 128)) 5, none, false⟩,
  ⟨some 17, .binOp .neq 5 (.tmp 16) (.const (.int .u8 0)) 5, none, false⟩])
 (.cond (.tmp 17)
  (.region [⟨some 5, .assign (.const (.int .i64 (-1))), none, false⟩])
  .skip))
 (.seq (.seq (.region [⟨some 18, .move (.tmp 4), none, false⟩,
  ⟨some 19, .move (.tmp 5), none, false⟩,
  ⟨some 20, .binOp .eql 2 (.tmp 18) (.tmp 19) 2, none, false⟩])
 (.cond (.tmp 20)
  (.seq (.region [⟨some 21, .move (.tmp 3), none, false⟩,
   ⟨some 22, .convert 40 9 (.tmp 21), none, false⟩,
   ⟨some 2, .assign (.tmp 22), none, false⟩])
  .ret)
  .skip))
 (.region [⟨some 23, .move (.tmp 4), none, false⟩,
  ⟨some 24, .convert 2 5 (.tmp 23), none, false⟩,
  ⟨some 25, .buildSlice 40 1 #[(0, .tmp 24)], none, false⟩,
  ⟨some 26, .move (.tmp 3), none, false⟩,
  ⟨some 27, .call ⟨.builtin .append, #[.tmp 25, .tmp 26], #[40, 40]⟩, none, false⟩,
  ⟨some 3, .assign (.tmp 27), none, false⟩])))))
 (.region [⟨some 11, .move (.tmp 4), none, false⟩,
  ⟨some 12, .binOp .shr 2 (.tmp 11) (.const (.int .u64 8)) 115, none, false⟩,
  ⟨some 4, .assign (.tmp 12), none, false⟩]))
def pc51 : PC :=
 (.seq (.region [⟨some 2, .assign (.const (.string ⟨#[]⟩)), none, false⟩])
 (.seq (.region [⟨some 6, .move (.tmp 0), none, false⟩,
  ⟨some 7, .convert 2 5 (.tmp 6), none, false⟩,
  ⟨some 8, .buildSlice 40 1 #[(0, .tmp 7)], none, false⟩,
  ⟨some 3, .assign (.tmp 8), none, false⟩])
 (.seq (.region [⟨some 9, .move (.tmp 0), none, false⟩,
  ⟨some 10, .binOp .shr 2 (.tmp 9) (.const (.int .u64 8)) 115, none, false⟩,
  ⟨some 4, .assign (.tmp 10), none, false⟩])
 (.block 0 (.loop pc51L0)))))
def fn51 : PFn := ⟨28, [.tmp 2], pc51, false⟩
theorem fnOk51 : FnOk Tryz.prog 51 fn51 := ⟨⟨_, _, [], Tryz.func51, rfl, by kernel_rfl, rfl, rfl, of_decide_eq_true (by kernel_rfl)⟩⟩

def pc22 : PC :=
 (.seq (.region [⟨some 4, .alloc 50, none, false⟩])
 (.seq (.region [⟨some 5, .move (.tmp 0), none, false⟩,
  ⟨some 6, .move (.tmp 1), none, false⟩,
  ⟨some 7, .call ⟨.value (.func 51), #[.tmp 6], #[2]⟩, none, false⟩,
  ⟨some 8, .call ⟨.value (.func 20), #[.tmp 5, .tmp 7], #[5, 9]⟩, none, false⟩,
  ⟨none, .store 50 (.tmp 4) (.tmp 8), none, false⟩])
 .ret))
def fn22 : PFn := ⟨9, [.cell 4 50], pc22, false⟩
theorem fnOk22 : FnOk Tryz.prog 22 fn22 := ⟨⟨_, _, [], Tryz.func22, rfl, by kernel_rfl, rfl, rfl, of_decide_eq_true (by kernel_rfl)⟩⟩

def pc79 : PC :=
 (.seq (.region [⟨some 2, .assign (.const (.string ⟨#[]⟩)), none, false⟩])
 (.seq (.seq (.region [⟨some 3, .move (.tmp 0), none, false⟩])
 (.cond (.tmp 3)
  (.seq (.region [⟨some 4, .buildSlice 40 1 #[(0, .const (.int .u8 255))], none, false⟩,
   ⟨some 5, .convert 40 9 (.tmp 4), none, false⟩,
   ⟨some 2, .assign (.tmp 5), none, false⟩])
  .ret)
  .skip))
 (.seq (.region [⟨some 2, .assign (.const (.string ⟨#[0]⟩)), none, false⟩])
 .ret)))
def fn79 : PFn := ⟨6, [.tmp 2], pc79, false⟩
theorem fnOk79 : FnOk Tryz.prog 79 fn79 := ⟨⟨_, _, [], Tryz.func79, rfl, by kernel_rfl, rfl, rfl, of_decide_eq_true (by kernel_rfl)⟩⟩

def pc48 : PC :=
 (.seq (.region [⟨some 2, .alloc 50, none, false⟩])
 (.seq (.region [⟨some 3, .move (.tmp 0), none, false⟩,
  ⟨some 4, .call ⟨.value (.func 79), #[.tmp 3], #[4]⟩, none, false⟩,
  ⟨some 5, .call ⟨.value (.func 20), #[.const (.int .u8 1), .tmp 4], #[5, 9]⟩, none, false⟩,
  ⟨none, .store 50 (.tmp 2) (.tmp 5), none, false⟩])
 .ret))
def fn48 : PFn := ⟨6, [.cell 2 50], pc48, false⟩
theorem fnOk48 : FnOk Tryz.prog 48 fn48 := ⟨⟨_, _, [], Tryz.func48, rfl, by kernel_rfl, rfl, rfl, of_decide_eq_true (by kernel_rfl)⟩⟩

def pc49L1 : PC :=
 (.seq (.region [⟨some 31, .binOp .lss 3 (.tmp 30) (.tmp 29) 3, none, false⟩])
 (.seq (.cond (.tmp 31)
  .skip
  (.exit 1))
 (.seq (.block 2 (.seq (.region [⟨some 32, .indexAddr 23 (.tmp 28) (.tmp 30), none, false⟩,
  ⟨some 33, .load 25 (.tmp 32), none, false⟩,
  ⟨some 6, .alloc 25, none, false⟩,
  ⟨none, .store 25 (.tmp 6) (.tmp 33), none, false⟩])
 (.region [⟨some 34, .move (.tmp 4), none, false⟩,
  ⟨some 35, .load 25 (.tmp 6), none, false⟩,
  ⟨some 36, .call ⟨.value (.func 49), #[.tmp 35], #[25]⟩, none, false⟩,
  ⟨some 37, .buildSlice 48 1 #[(0, .tmp 36)], none, false⟩,
  ⟨some 38, .call ⟨.builtin .append, #[.tmp 34, .tmp 37], #[48, 48]⟩, none, false⟩,
  ⟨some 4, .assign (.tmp 38), none, false⟩])))
 (.region [⟨some 39, .binOp .add 3 (.tmp 30) (.const (.int .i64 1)) 3, none, false⟩,
  ⟨some 30, .move (.tmp 39), none, false⟩]))))
def pc49L3 : PC :=
 (.seq (.region [⟨some 49, .binOp .lss 3 (.tmp 48) (.tmp 47) 3, none, false⟩])
 (.seq (.cond (.tmp 49)
  .skip
  (.exit 3))
 (.seq (.block 4 (.seq (.region [⟨some 50, .move (.tmp 48), none, false⟩,
  ⟨some 51, .indexAddr 22 (.tmp 46) (.tmp 48), none, false⟩,
  ⟨some 52, .load 9 (.tmp 51), none, false⟩,
  ⟨some 8, .assign (.tmp 50), none, false⟩,
  ⟨some 9, .assign (.tmp 52), none, false⟩])
 (.seq (.region [⟨some 10, .assign (.const (.int .u8 129)), none, false⟩])
 (.seq (.seq (.region [⟨some 53, .move (.tmp 8), none, false⟩,
  ⟨some 54, .binOp .eql 3 (.tmp 53) (.const (.int .i64 0)) 3, none, false⟩])
 (.cond (.tmp 54)
  (.region [⟨some 10, .assign (.const (.int .u8 128)), none, false⟩])
  (.seq (.region [⟨some 55, .move (.tmp 8), none, false⟩,
   ⟨some 56, .fieldAddr 25 (.tmp 1) 3, none, false⟩,
   ⟨some 57, .load 22 (.tmp 56), none, false⟩,
   ⟨some 58, .call ⟨.builtin .len, #[.tmp 57], #[22]⟩, none, false⟩,
   ⟨some 59, .binOp .sub 3 (.tmp 58) (.const (.int .i64 1)) 3, none, false⟩,
   ⟨some 60, .binOp .eql 3 (.tmp 55) (.tmp 59) 3, none, false⟩])
  (.cond (.tmp 60)
   (.region [⟨some 10, .assign (.const (.int .u8 130)), none, false⟩])
   .skip))))
 (.seq (.region [⟨some 61, .move (.tmp 9), none, false⟩,
  ⟨some 62, .binOp .neq 9 (.tmp 61) (.const (.string ⟨#[]⟩)) 9, none, false⟩])
 (.cond (.tmp 62)
  (.region [⟨some 63, .move (.tmp 7), none, false⟩,
   ⟨some 64, .move (.tmp 10), none, false⟩,
   ⟨some 65, .move (.tmp 9), none, false⟩,
   ⟨some 66, .call ⟨.value (.func 20), #[.tmp 64, .tmp 65], #[5, 9]⟩, none, false⟩,
   ⟨some 67, .buildSlice 48 1 #[(0, .tmp 66)], none, false⟩,
   ⟨some 68, .call ⟨.builtin .append, #[.tmp 63, .tmp 67], #[48, 48]⟩, none, false⟩,
   ⟨some 7, .assign (.tmp 68), none, false⟩])
  .skip))))))
 (.region [⟨some 69, .binOp .add 3 (.tmp 48) (.const (.int .i64 1)) 3, none, false⟩,
  ⟨some 48, .move (.tmp 69), none, false⟩]))))
def pc49 : PC :=
 (.seq (.region [⟨some 1, .box 25 (.tmp 0), none, false⟩,
  ⟨some 2, .alloc 50, none, false⟩])
 (.seq (.region [⟨some 11, .build 80 #[(1, .const (.int .u8 160)), (2, .const (.int .u8 161)), (3, .const (.int .u8 162)), (4, .const (.int .u8 163)), (8, .const (.int .u8 164)), (5, .const (.int .u8 165)), (6, .const (.int .u8 166)), (7, .const (.int .u8 135))], none, false⟩,
  ⟨some 12, .fieldAddr 25 (.tmp 1) 0, none, false⟩,
  ⟨some 13, .load 3 (.tmp 12), none, false⟩,
  ⟨some 14, .index 80 (.tmp 11) (.tmp 13), none, false⟩,
  ⟨some 3, .assign (.tmp 14), none, false⟩])
 (.seq (.seq (.region [⟨some 15, .fieldAddr 25 (.tmp 1) 0, none, false⟩,
  ⟨some 16, .load 3 (.tmp 15), none, false⟩])
 (.block 0 (.seq (.region [⟨some 18, .binOp .eql 3 (.tmp 16) (.const (.int .i64 7)) 3, none, false⟩,
  ⟨some 17, .assign (.tmp 18), none, false⟩])
 (.cond (.tmp 17)
  (.seq (.region [⟨some 19, .move (.tmp 3), none, false⟩,
   ⟨some 20, .fieldAddr 25 (.tmp 1) 1, none, false⟩,
   ⟨some 21, .load 9 (.tmp 20), none, false⟩,
   ⟨some 22, .call ⟨.value (.func 20), #[.tmp 19, .tmp 21], #[5, 9]⟩, none, false⟩,
   ⟨none, .store 50 (.tmp 2) (.tmp 22), none, false⟩])
  .ret)
  (.seq (.seq (.region [⟨some 24, .binOp .eql 3 (.tmp 16) (.const (.int .i64 1)) 3, none, false⟩,
   ⟨some 23, .assign (.tmp 24), none, false⟩])
  (.cond (.tmp 23)
   .skip
   (.seq (.region [⟨some 25, .binOp .eql 3 (.tmp 16) (.const (.int .i64 2)) 3, none, false⟩,
    ⟨some 23, .assign (.tmp 25), none, false⟩])
   (.cond (.tmp 23)
    .skip
    (.region [⟨some 26, .binOp .eql 3 (.tmp 16) (.const (.int .i64 3)) 3, none, false⟩,
     ⟨some 23, .assign (.tmp 26), none, false⟩])))))
  (.cond (.tmp 23)
   (.seq (.region [⟨some 4, .assign (.const (.slice none 0 0)), none, false⟩])
   (.seq (.seq (.region [⟨some 27, .fieldAddr 25 (.tmp 1) 4, none, false⟩,
    ⟨some 28, .load 23 (.tmp 27), none, false⟩,
    ⟨some 29, .call ⟨.builtin .len, #[.tmp 28], #[23]⟩, none, false⟩,
    ⟨some 30, .move (.const (.int .i64 0)), none, false⟩])
   (.block 1 (.loop pc49L1)))
   (.seq (.region [⟨some 40, .move (.tmp 3), none, false⟩,
    ⟨some 41, .move (.tmp 4), none, false⟩,
    ⟨some 42, .call ⟨.value (.func 19), #[.tmp 40, .tmp 41], #[5, 48]⟩, none, false⟩,
    ⟨none, .store 50 (.tmp 2) (.tmp 42), none, false⟩])
   .ret)))
   (.seq (.region [⟨some 44, .binOp .eql 3 (.tmp 16) (.const (.int .i64 8)) 3, none, false⟩,
    ⟨some 43, .assign (.tmp 44), none, false⟩])
   (.cond (.tmp 43)
    (.seq (.region [⟨some 7, .assign (.const (.slice none 0 0)), none, false⟩])
    (.seq (.seq (.region [⟨some 45, .fieldAddr 25 (.tmp 1) 3, none, false⟩,
     ⟨some 46, .load 22 (.tmp 45), none, false⟩,
     ⟨some 47, .call ⟨.builtin .len, #[.tmp 46], #[22]⟩, none, false⟩,
     ⟨some 48, .move (.const (.int .i64 0)), none, false⟩])
    (.block 3 (.loop pc49L3)))
    (.seq (.region [⟨some 70, .move (.tmp 3), none, false⟩,
     ⟨some 71, .fieldAddr 25 (.tmp 1) 1, none, false⟩,
     ⟨some 72, .load 9 (.tmp 71), none, false⟩,
     ⟨some 73, .call ⟨.value (.func 20), #[.const (.int .u8 4), .tmp 72], #[5, 9]⟩, none, false⟩,
     ⟨some 74, .move (.tmp 7), none, false⟩,
     ⟨some 75, .call ⟨.value (.func 19), #[.const (.int .u8 48), .tmp 74], #[5, 48]⟩, none, false⟩,
     ⟨some 76, .buildSlice 48 2 #[(0, .tmp 73), (1, .tmp 75)], none, false⟩,
     ⟨some 77, .call ⟨.value (.func 19), #[.tmp 70, .tmp 76], #[5, 48]⟩, none, false⟩,
     ⟨none, .store 50 (.tmp 2) (.tmp 77), none, false⟩])
    .ret)))
    .skip))))))))
 (.seq (.draw [⟨some 78, .move (.tmp 3), none, false⟩,
  ⟨some 79, .fieldAddr 25 (.tmp 1) 1, none, false⟩,
  ⟨some 80, .load 9 (.tmp 79), none, false⟩,
  ⟨some 81, .call ⟨.value (.func 20), #[.const (.int .u8 4), .tmp 80], #[5, 9]⟩, none, false⟩,
  ⟨some 82, .fieldAddr 25 (.tmp 1) 2, none, false⟩,
  ⟨some 83, .load 9 (.tmp 82), none, false⟩,
  ⟨some 84, .call ⟨.value (.func 20), #[.const (.int .u8 4), .tmp 83], #[5, 9]⟩, none, false⟩,
  ⟨some 85, .buildSlice 48 2 #[(0, .tmp 81), (1, .tmp 84)], none, false⟩]
  [⟨some 86, .call ⟨.value (.func 19), #[.tmp 78, .tmp 85], #[5, 48]⟩, none, false⟩,
  ⟨none, .store 50 (.tmp 2) (.tmp 86), none, false⟩])
 .ret))))
def fn49 : PFn := ⟨87, [.cell 2 50], pc49, false⟩
theorem fnOk49 : FnOk Tryz.prog 49 fn49 := ⟨⟨_, _, [], Tryz.func49, rfl, by kernel_rfl, rfl, rfl, of_decide_eq_true (by kernel_rfl)⟩⟩

def pc80L0 : PC :=
 (.seq (.region [⟨some 11, .binOp .lss 3 (.tmp 10) (.tmp 9) 3, none, false⟩])
 (.seq (.cond (.tmp 11)
  .skip
  (.exit 0))
 (.seq (.block 1 (.seq (.region [⟨some 12, .indexAddr 22 (.tmp 8) (.tmp 10), none, false⟩,
  ⟨some 13, .load 9 (.tmp 12), none, false⟩,
  ⟨some 7, .assign (.tmp 13), none, false⟩])
 (.region [⟨some 14, .move (.tmp 5), none, false⟩,
  ⟨some 15, .move (.tmp 7), none, false⟩,
  ⟨some 16, .call ⟨.value (.func 20), #[.const (.int .u8 4), .tmp 15], #[5, 9]⟩, none, false⟩,
  ⟨some 17, .buildSlice 48 1 #[(0, .tmp 16)], none, false⟩,
  ⟨some 18, .call ⟨.builtin .append, #[.tmp 14, .tmp 17], #[48, 48]⟩, none, false⟩,
  ⟨some 5, .assign (.tmp 18), none, false⟩])))
 (.region [⟨some 19, .binOp .add 3 (.tmp 10) (.const (.int .i64 1)) 3, none, false⟩,
  ⟨some 10, .move (.tmp 19), none, false⟩]))))
def pc80 : PC :=
 (.seq (.region [⟨some 4, .alloc 50, none, false⟩])
 (.seq (.region [⟨some 5, .assign (.const (.slice none 0 0)), none, false⟩])
 (.seq (.seq (.region [⟨some 8, .move (.tmp 1), none, false⟩,
  ⟨some 9, .call ⟨.builtin .len, #[.tmp 8], #[22]⟩, none, false⟩,
  ⟨some 10, .move (.const (.int .i64 0)), none, false⟩])
 (.block 0 (.loop pc80L0)))
 (.seq (.region [⟨some 20, .move (.tmp 0), none, false⟩,
  ⟨some 21, .call ⟨.value (.func 20), #[.const (.int .u8 4), .tmp 20], #[5, 9]⟩, none, false⟩,
  ⟨some 22, .move (.tmp 5), none, false⟩,
  ⟨some 23, .call ⟨.value (.func 19), #[.const (.int .u8 49), .tmp 22], #[5, 48]⟩, none, false⟩,
  ⟨some 24, .buildSlice 48 2 #[(0, .tmp 21), (1, .tmp 23)], none, false⟩,
  ⟨some 25, .call ⟨.value (.func 19), #[.const (.int .u8 48), .tmp 24], #[5, 48]⟩, none, false⟩,
  ⟨none, .store 50 (.tmp 4) (.tmp 25), none, false⟩])
 .ret))))
def fn80 : PFn := ⟨26, [.cell 4 50], pc80, false⟩
theorem fnOk80 : FnOk Tryz.prog 80 fn80 := ⟨⟨_, _, [], Tryz.func80, rfl, by kernel_rfl, rfl, rfl, of_decide_eq_true (by kernel_rfl)⟩⟩

def pc50L0 : PC :=
 (.seq (.region [⟨some 12, .binOp .lss 3 (.tmp 11) (.tmp 10) 3, none, false⟩])
 (.seq (.cond (.tmp 12)
  .skip
  (.exit 0))
 (.seq (.block 1 (.seq (.region [⟨some 13, .indexAddr 26 (.tmp 9) (.tmp 11), none, false⟩,
  ⟨some 14, .load 45 (.tmp 13), none, false⟩,
  ⟨some 7, .alloc 45, none, false⟩,
  ⟨none, .store 45 (.tmp 7) (.tmp 14), none, false⟩])
 (.seq (.region [⟨some 15, .fieldAddr 45 (.tmp 7) 1, none, false⟩,
  ⟨some 16, .load 9 (.tmp 15), none, false⟩,
  ⟨some 17, .fieldAddr 45 (.tmp 7) 2, none, false⟩,
  ⟨some 18, .load 22 (.tmp 17), none, false⟩,
  ⟨some 19, .call ⟨.value (.func 80), #[.tmp 16, .tmp 18], #[9, 22]⟩, none, false⟩,
  ⟨some 8, .alloc 50, none, false⟩,
  ⟨none, .store 50 (.tmp 8) (.tmp 19), none, false⟩])
 (.seq (.seq (.region [⟨some 20, .move (.tmp 1), none, false⟩])
 (.cond (.tmp 20)
  (.draw [⟨some 21, .fieldAddr 45 (.tmp 7) 0, none, false⟩,
   ⟨some 22, .load 3 (.tmp 21), none, false⟩,
   ⟨some 23, .binOp .sub 3 (.tmp 22) (.const (.int .i64 1)) 3, none, false⟩,
   ⟨some 24, .call ⟨.value (.func 22), #[.const (.int .u8 10), .tmp 23], #[5, 2]⟩, none, false⟩,
   ⟨some 25, .load 50 (.tmp 8), none, false⟩]
   [⟨some 26, .buildSlice 48 2 #[(0, .tmp 24), (1, .tmp 25)], none, false⟩,
   ⟨some 27, .call ⟨.value (.func 19), #[.const (.int .u8 48), .tmp 26], #[5, 48]⟩, none, false⟩,
   ⟨none, .store 50 (.tmp 8) (.tmp 27), none, false⟩])
  .skip))
 (.region [⟨some 28, .move (.tmp 5), none, false⟩,
  ⟨some 29, .load 50 (.tmp 8), none, false⟩,
  ⟨some 30, .buildSlice 48 1 #[(0, .tmp 29)], none, false⟩,
  ⟨some 31, .call ⟨.builtin .append, #[.tmp 28, .tmp 30], #[48, 48]⟩, none, false⟩,
  ⟨some 5, .assign (.tmp 31), none, false⟩])))))
 (.region [⟨some 32, .binOp .add 3 (.tmp 11) (.const (.int .i64 1)) 3, none, false⟩,
  ⟨some 11, .move (.tmp 32), none, false⟩]))))
def pc50 : PC :=
 (.seq (.region [⟨some 4, .alloc 50, none, false⟩])
 (.seq (.region [⟨some 5, .assign (.const (.slice none 0 0)), none, false⟩])
 (.seq (.seq (.region [⟨some 9, .move (.tmp 0), none, false⟩,
  ⟨some 10, .call ⟨.builtin .len, #[.tmp 9], #[26]⟩, none, false⟩,
  ⟨some 11, .move (.const (.int .i64 0)), none, false⟩])
 (.block 0 (.loop pc50L0)))
 (.seq (.region [⟨some 33, .move (.tmp 5), none, false⟩,
  ⟨some 34, .call ⟨.value (.func 19), #[.const (.int .u8 48), .tmp 33], #[5, 48]⟩, none, false⟩,
  ⟨none, .store 50 (.tmp 4) (.tmp 34), none, false⟩])
 .ret))))
def fn50 : PFn := ⟨35, [.cell 4 50], pc50, false⟩
theorem fnOk50 : FnOk Tryz.prog 50 fn50 := ⟨⟨_, _, [], Tryz.func50, rfl, by kernel_rfl, rfl, rfl, of_decide_eq_true (by kernel_rfl)⟩⟩

def pc21L1 : PC :=
 (.seq (.region [⟨some 27, .binOp .lss 3 (.tmp 26) (.tmp 25) 3, none, false⟩])
 (.seq (.cond (.tmp 27)
  .skip
  (.exit 1))
 (.seq (.block 2 (.seq (.region [⟨some 28, .indexAddr 22 (.tmp 24) (.tmp 26), none, false⟩,
  ⟨some 29, .load 9 (.tmp 28), none, false⟩,
  ⟨some 5, .assign (.tmp 29), none, false⟩])
 (.region [⟨some 30, .move (.tmp 3), none, false⟩,
  ⟨some 31, .move (.tmp 5), none, false⟩,
  ⟨some 32, .call ⟨.value (.func 20), #[.const (.int .u8 4), .tmp 31], #[5, 9]⟩, none, false⟩,
  ⟨some 33, .buildSlice 48 1 #[(0, .tmp 32)], none, false⟩,
  ⟨some 34, .call ⟨.builtin .append, #[.tmp 30, .tmp 33], #[48, 48]⟩, none, false⟩,
  ⟨some 3, .assign (.tmp 34), none, false⟩])))
 (.region [⟨some 35, .binOp .add 3 (.tmp 26) (.const (.int .i64 1)) 3, none, false⟩,
  ⟨some 26, .move (.tmp 35), none, false⟩]))))
def pc21 : PC :=
 (.seq (.region [⟨some 1, .box 28 (.tmp 0), none, false⟩,
  ⟨some 2, .assign (.const (.slice none 0 0)), none, false⟩])
 (.seq (.seq (.region [⟨some 7, .fieldAddr 28 (.tmp 1) 1, none, false⟩,
  ⟨some 8, .load 3 (.tmp 7), none, false⟩])
 (.block 0 (.seq (.region [⟨some 10, .binOp .eql 3 (.tmp 8) (.const (.int .i64 1)) 3, none, false⟩,
  ⟨some 9, .assign (.tmp 10), none, false⟩])
 (.cond (.tmp 9)
  (.seq (.draw [⟨some 11, .fieldAddr 28 (.tmp 1) 4, none, false⟩,
   ⟨some 12, .load 3 (.tmp 11), none, false⟩,
   ⟨some 13, .call ⟨.value (.func 22), #[.const (.int .u8 2), .tmp 12], #[5, 2]⟩, none, false⟩,
   ⟨some 14, .fieldAddr 28 (.tmp 1) 3, none, false⟩,
   ⟨some 15, .load 9 (.tmp 14), none, false⟩,
   ⟨some 16, .call ⟨.value (.func 20), #[.const (.int .u8 4), .tmp 15], #[5, 9]⟩, none, false⟩,
   ⟨some 17, .fieldAddr 28 (.tmp 1) 5, none, false⟩,
   ⟨some 18, .load 9 (.tmp 17), none, false⟩]
   [⟨some 19, .call ⟨.value (.func 20), #[.const (.int .u8 128), .tmp 18], #[5, 9]⟩, none, false⟩,
   ⟨some 20, .buildSlice 48 3 #[(0, .tmp 13), (1, .tmp 16), (2, .tmp 19)], none, false⟩,
   ⟨some 2, .assign (.tmp 20), none, false⟩])
  .ret)
  (.seq (.region [⟨some 22, .binOp .eql 3 (.tmp 8) (.const (.int .i64 3)) 3, none, false⟩,
   ⟨some 21, .assign (.tmp 22), none, false⟩])
  (.cond (.tmp 21)
   (.seq (.region [⟨some 3, .assign (.const (.slice none 0 0)), none, false⟩])
   (.seq (.seq (.region [⟨some 23, .fieldAddr 28 (.tmp 1) 9, none, false⟩,
    ⟨some 24, .load 22 (.tmp 23), none, false⟩,
    ⟨some 25, .call ⟨.builtin .len, #[.tmp 24], #[22]⟩, none, false⟩,
    ⟨some 26, .move (.const (.int .i64 0)), none, false⟩])
   (.block 1 (.loop pc21L1)))
   (.seq (.draw [⟨some 36, .fieldAddr 28 (.tmp 1) 3, none, false⟩,
    ⟨some 37, .load 9 (.tmp 36), none, false⟩,
    ⟨some 38, .call ⟨.value (.func 20), #[.const (.int .u8 4), .tmp 37], #[5, 9]⟩, none, false⟩,
    ⟨some 39, .fieldAddr 28 (.tmp 1) 6, none, false⟩,
    ⟨some 40, .load 3 (.tmp 39), none, false⟩,
    ⟨some 41, .call ⟨.value (.func 22), #[.const (.int .u8 10), .tmp 40], #[5, 2]⟩, none, false⟩,
    ⟨some 42, .call ⟨.value (.func 22), #[.const (.int .u8 10), .const (.int .i64 0)], #[5, 2]⟩, none, false⟩,
    ⟨some 43, .fieldAddr 28 (.tmp 1) 7, none, false⟩,
    ⟨some 44, .load 3 (.tmp 43), none, false⟩,
    ⟨some 45, .call ⟨.value (.func 22), #[.const (.int .u8 2), .tmp 44], #[5, 2]⟩, none, false⟩,
    ⟨some 46, .call ⟨.value (.func 22), #[.const (.int .u8 2), .const (.int .i64 0)], #[5, 2]⟩, none, false⟩,
    ⟨some 47, .call ⟨.value (.func 48), #[.const (.bool false)], #[4]⟩, none, false⟩,
    ⟨some 48, .fieldAddr 28 (.tmp 1) 8, none, false⟩,
    ⟨some 49, .load 25 (.tmp 48), none, false⟩,
    ⟨some 50, .call ⟨.value (.func 49), #[.tmp 49], #[25]⟩, none, false⟩,
    ⟨some 51, .move (.tmp 3), none, false⟩]
    [⟨some 52, .call ⟨.value (.func 19), #[.const (.int .u8 48), .tmp 51], #[5, 48]⟩, none, false⟩,
    ⟨some 53, .buildSlice 48 8 #[(0, .tmp 38), (1, .tmp 41), (2, .tmp 42), (3, .tmp 45), (4, .tmp 46), (5, .tmp 47), (6, .tmp 50), (7, .tmp 52)], none, false⟩,
    ⟨some 2, .assign (.tmp 53), none, false⟩])
   .ret)))
   (.seq (.seq (.region [⟨some 55, .binOp .eql 3 (.tmp 8) (.const (.int .i64 4)) 3, none, false⟩,
    ⟨some 54, .assign (.tmp 55), none, false⟩])
   (.cond (.tmp 54)
    .skip
    (.seq (.region [⟨some 56, .binOp .eql 3 (.tmp 8) (.const (.int .i64 5)) 3, none, false⟩,
     ⟨some 54, .assign (.tmp 56), none, false⟩])
    (.cond (.tmp 54)
     .skip
     (.region [⟨some 57, .binOp .eql 3 (.tmp 8) (.const (.int .i64 10)) 3, none, false⟩,
      ⟨some 54, .assign (.tmp 57), none, false⟩])))))
   (.cond (.tmp 54)
    (.seq (.draw [⟨some 58, .fieldAddr 28 (.tmp 1) 3, none, false⟩,
     ⟨some 59, .load 9 (.tmp 58), none, false⟩,
     ⟨some 60, .call ⟨.value (.func 20), #[.const (.int .u8 4), .tmp 59], #[5, 9]⟩, none, false⟩,
     ⟨some 61, .fieldAddr 28 (.tmp 1) 10, none, false⟩,
     ⟨some 62, .load 26 (.tmp 61), none, false⟩,
     ⟨some 63, .fieldAddr 28 (.tmp 1) 1, none, false⟩,
     ⟨some 64, .load 3 (.tmp 63), none, false⟩,
     ⟨some 65, .binOp .eql 3 (.tmp 64) (.const (.int .i64 4)) 3, none, false⟩]
     [⟨some 66, .call ⟨.value (.func 50), #[.tmp 62, .tmp 65], #[26, 4]⟩, none, false⟩,
     ⟨some 67, .buildSlice 48 2 #[(0, .tmp 60), (1, .tmp 66)], none, false⟩,
     ⟨some 2, .assign (.tmp 67), none, false⟩])
    .ret)
    (.seq (.region [⟨some 69, .binOp .eql 3 (.tmp 8) (.const (.int .i64 7)) 3, none, false⟩,
     ⟨some 68, .assign (.tmp 69), none, false⟩])
    (.cond (.tmp 68)
     (.seq (.draw [⟨some 70, .fieldAddr 28 (.tmp 1) 3, none, false⟩,
      ⟨some 71, .load 9 (.tmp 70), none, false⟩,
      ⟨some 72, .call ⟨.value (.func 20), #[.const (.int .u8 4), .tmp 71], #[5, 9]⟩, none, false⟩,
      ⟨some 73, .fieldAddr 28 (.tmp 1) 11, none, false⟩,
      ⟨some 74, .load 9 (.tmp 73), none, false⟩,
      ⟨some 75, .call ⟨.value (.func 20), #[.const (.int .u8 4), .tmp 74], #[5, 9]⟩, none, false⟩,
      ⟨some 76, .fieldAddr 28 (.tmp 1) 12, none, false⟩,
      ⟨some 77, .load 4 (.tmp 76), none, false⟩]
      [⟨some 78, .call ⟨.value (.func 48), #[.tmp 77], #[4]⟩, none, false⟩,
      ⟨some 79, .buildSlice 48 3 #[(0, .tmp 72), (1, .tmp 75), (2, .tmp 78)], none, false⟩,
      ⟨some 6, .assign (.tmp 79), none, false⟩])
     (.seq (.seq (.region [⟨some 80, .fieldAddr 28 (.tmp 1) 13, none, false⟩,
      ⟨some 81, .load 4 (.tmp 80), none, false⟩])
     (.cond (.tmp 81)
      (.region [⟨some 82, .move (.tmp 6), none, false⟩,
       ⟨some 83, .fieldAddr 28 (.tmp 1) 14, none, false⟩,
       ⟨some 84, .load 9 (.tmp 83), none, false⟩,
       ⟨some 85, .call ⟨.value (.func 20), #[.const (.int .u8 128), .tmp 84], #[5, 9]⟩, none, false⟩,
       ⟨some 86, .buildSlice 48 1 #[(0, .tmp 85)], none, false⟩,
       ⟨some 87, .call ⟨.builtin .append, #[.tmp 82, .tmp 86], #[48, 48]⟩, none, false⟩,
       ⟨some 6, .assign (.tmp 87), none, false⟩])
      .skip))
     (.seq (.region [⟨some 88, .move (.tmp 6), none, false⟩,
      ⟨some 2, .assign (.tmp 88), none, false⟩])
     .ret)))
     (.seq (.region [⟨some 90, .binOp .eql 3 (.tmp 8) (.const (.int .i64 8)) 3, none, false⟩,
      ⟨some 89, .assign (.tmp 90), none, false⟩])
     (.cond (.tmp 89)
      (.seq (.draw [⟨some 91, .fieldAddr 28 (.tmp 1) 3, none, false⟩,
       ⟨some 92, .load 9 (.tmp 91), none, false⟩,
       ⟨some 93, .call ⟨.value (.func 20), #[.const (.int .u8 4), .tmp 92], #[5, 9]⟩, none, false⟩,
       ⟨some 94, .fieldAddr 28 (.tmp 1) 15, none, false⟩,
       ⟨some 95, .load 9 (.tmp 94), none, false⟩,
       ⟨some 96, .call ⟨.value (.func 20), #[.const (.int .u8 4), .tmp 95], #[5, 9]⟩, none, false⟩,
       ⟨some 97, .fieldAddr 28 (.tmp 1) 16, none, false⟩,
       ⟨some 98, .load 9 (.tmp 97), none, false⟩]
       [⟨some 99, .call ⟨.value (.func 20), #[.const (.int .u8 4), .tmp 98], #[5, 9]⟩, none, false⟩,
       ⟨some 100, .buildSlice 48 2 #[(0, .tmp 96), (1, .tmp 99)], none, false⟩,
       ⟨some 101, .call ⟨.value (.func 19), #[.const (.int .u8 48), .tmp 100], #[5, 48]⟩, none, false⟩,
       ⟨some 102, .buildSlice 48 2 #[(0, .tmp 93), (1, .tmp 101)], none, false⟩,
       ⟨some 2, .assign (.tmp 102), none, false⟩])
      .ret)
      .skip))))))))))))
 (.seq (.draw [⟨some 103, .fieldAddr 28 (.tmp 1) 17, none, false⟩,
  ⟨some 104, .load 3 (.tmp 103), none, false⟩,
  ⟨some 105, .call ⟨.value (.func 22), #[.const (.int .u8 10), .tmp 104], #[5, 2]⟩, none, false⟩,
  ⟨some 106, .fieldAddr 28 (.tmp 1) 18, none, false⟩,
  ⟨some 107, .load 9 (.tmp 106), none, false⟩]
  [⟨some 108, .call ⟨.value (.func 20), #[.const (.int .u8 4), .tmp 107], #[5, 9]⟩, none, false⟩,
  ⟨some 109, .call ⟨.value (.func 20), #[.const (.int .u8 4), .const (.string ⟨#[]⟩)], #[5, 9]⟩, none, false⟩,
  ⟨some 110, .buildSlice 48 3 #[(0, .tmp 105), (1, .tmp 108), (2, .tmp 109)], none, false⟩,
  ⟨some 2, .assign (.tmp 110), none, false⟩])
 .ret)))
def fn21 : PFn := ⟨111, [.tmp 2], pc21, false⟩
theorem fnOk21 : FnOk Tryz.prog 21 fn21 := ⟨⟨_, _, [], Tryz.func21, rfl, by kernel_rfl, rfl, rfl, of_decide_eq_true (by kernel_rfl)⟩⟩

def pc52 : PC :=
 (.seq (.region [⟨some 2, .assign (.const (.string ⟨#[]⟩)), none, false⟩])
 (.seq (.block 0 (.seq (.region [⟨some 4, .move (.tmp 0), none, false⟩,
  ⟨some 5, .binOp .lss 3 (.tmp 4) (.const (.int .i64 128)) 3, none, false⟩,
  ⟨some 3, .assign (.tmp 5), none, false⟩])
 (.cond (.tmp 3)
  (.seq (.region [⟨some 6, .move (.tmp 0), none, false⟩,
   ⟨some 7, .convert 3 5 (.tmp 6), none, false⟩,
   ⟨some 8, .buildSlice 40 1 #[(0, .tmp 7)], none, false⟩,
   ⟨some 9, .convert 40 9 (.tmp 8), none, false⟩,
   ⟨some 2, .assign (.tmp 9), none, false⟩])
  .ret)
  (.seq (.region [⟨some 11, .move (.tmp 0), none, false⟩,
   ⟨some 12, .binOp .lss 3 (.tmp 11) (.const (.int .i64 256)) 3, none, false⟩,
   ⟨some 10, .assign (.tmp 12), none, false⟩])
  (.cond (.tmp 10)
   (.seq (.region [⟨some 13, .move (.tmp 0), none, false⟩,
    ⟨some 14, .convert 3 5 (.tmp 13), none, false⟩,
    ⟨some 15, .buildSlice 40 2 #[(0, .const (.int .u8 129)), (1, .tmp 14)], none, false⟩,
    ⟨some 16, .convert 40 9 (.tmp 15), none, false⟩,
    ⟨some 2, .assign (.tmp 16), none, false⟩])
   .ret)
   .skip)))))
 (.seq (.region [⟨some 17, .move (.tmp 0), none, false⟩,
  ⟨some 18, .binOp .shr 3 (.tmp 17) (.const (.int .u64 8)) 115, none, false⟩,
  ⟨some 19, .convert 3 5 (.tmp 18), none, false⟩,
  ⟨some 20, .move (.tmp 0), none, false⟩,
  ⟨some 21, .convert 3 5 (.tmp 20), none, false⟩,
  ⟨some 22, .buildSlice 40 3 #[(0, .const (.int .u8 130)), (1, .tmp 19), (2, .tmp 21)], none, false⟩,
  ⟨some 23, .convert 40 9 (.tmp 22), none, false⟩,
  ⟨some 2, .assign (.tmp 23), none, false⟩])
 .ret)))
def fn52 : PFn := ⟨24, [.tmp 2], pc52, false⟩
theorem fnOk52 : FnOk Tryz.prog 52 fn52 := ⟨⟨_, _, [], Tryz.func52, rfl, by kernel_rfl, rfl, rfl, of_decide_eq_true (by kernel_rfl)⟩⟩

def pc23L0 : PC :=
 (.seq (.region [⟨some 13, .binOp .lss 3 (.tmp 12) (.tmp 11) 3, none, false⟩])
 (.seq (.cond (.tmp 13)
  .skip
  (.exit 0))
 (.seq (.block 1 (.seq (.region [⟨some 14, .indexAddr 48 (.tmp 10) (.tmp 12), none, false⟩,
  ⟨some 15, .load 50 (.tmp 14), none, false⟩,
  ⟨some 5, .alloc 50, none, false⟩,
  ⟨none, .store 50 (.tmp 5) (.tmp 15), none, false⟩])
 (.region [⟨some 16, .move (.tmp 3), none, false⟩,
  ⟨some 17, .load 50 (.tmp 5), none, false⟩,
  ⟨some 18, .call ⟨.value (.func 23), #[.tmp 17], #[50]⟩, none, false⟩,
  ⟨some 19, .binOp .add 3 (.tmp 16) (.tmp 18) 3, none, false⟩,
  ⟨some 3, .assign (.tmp 19), none, false⟩])))
 (.region [⟨some 20, .binOp .add 3 (.tmp 12) (.const (.int .i64 1)) 3, none, false⟩,
  ⟨some 12, .move (.tmp 20), none, false⟩]))))
def pc23 : PC :=
 (.seq (.region [⟨some 1, .box 50 (.tmp 0), none, false⟩,
  ⟨some 2, .assign (.const (.int .i64 0)), none, false⟩])
 (.seq (.region [⟨some 6, .fieldAddr 50 (.tmp 1) 1, none, false⟩,
  ⟨some 7, .load 9 (.tmp 6), none, false⟩,
  ⟨some 8, .call ⟨.builtin .len, #[.tmp 7], #[9]⟩, none, false⟩,
  ⟨some 3, .assign (.tmp 8), none, false⟩])
 (.seq (.seq (.region [⟨some 9, .fieldAddr 50 (.tmp 1) 2, none, false⟩,
  ⟨some 10, .load 48 (.tmp 9), none, false⟩,
  ⟨some 11, .call ⟨.builtin .len, #[.tmp 10], #[48]⟩, none, false⟩,
  ⟨some 12, .move (.const (.int .i64 0)), none, false⟩])
 (.block 0 (.loop pc23L0)))
 (.seq (.region [⟨some 21, .move (.tmp 3), none, false⟩,
  ⟨some 22, .call ⟨.builtin .min, #[.tmp 21, .const (.int .i64 4001)], #[3, 3]⟩, none, false⟩,
  ⟨some 23, .call ⟨.value (.func 52), #[.tmp 22], #[3]⟩, none, false⟩,
  ⟨some 24, .call ⟨.builtin .len, #[.tmp 23], #[9]⟩, none, false⟩,
  ⟨some 25, .binOp .add 3 (.const (.int .i64 1)) (.tmp 24) 3, none, false⟩,
  ⟨some 26, .move (.tmp 3), none, false⟩,
  ⟨some 27, .binOp .add 3 (.tmp 25) (.tmp 26) 3, none, false⟩,
  ⟨some 2, .assign (.tmp 27), none, false⟩])
 .ret))))
def fn23 : PFn := ⟨28, [.tmp 2], pc23, false⟩
theorem fnOk23 : FnOk Tryz.prog 23 fn23 := ⟨⟨_, _, [], Tryz.func23, rfl, by kernel_rfl, rfl, rfl, of_decide_eq_true (by kernel_rfl)⟩⟩

def pc105L0 : PC :=
 (.seq (.region [⟨some 9, .binOp .lss 3 (.tmp 8) (.tmp 7) 3, none, false⟩])
 (.seq (.cond (.tmp 9)
  .skip
  (.exit 0))
 (.seq (.block 1 (.seq (.region [⟨some 10, .move (.tmp 8), none, false⟩,
  ⟨some 5, .assign (.tmp 10), none, false⟩])
 (.seq (.region [⟨some 11, .move (.tmp 1), none, false⟩,
  ⟨some 12, .move (.tmp 0), none, false⟩,
  ⟨some 13, .move (.tmp 5), none, false⟩,
  ⟨some 14, .indexAddr 48 (.tmp 12) (.tmp 13), none, false⟩,
  ⟨some 15, .load 50 (.tmp 14), none, false⟩,
  ⟨some 16, .call ⟨.value (.tmp 11), #[.tmp 15], #[50]⟩, none, false⟩])
 (.cond (.tmp 16)
  (.seq (.region [⟨some 17, .move (.tmp 5), none, false⟩,
   ⟨some 4, .assign (.tmp 17), none, false⟩])
  .ret)
  .skip))))
 (.region [⟨some 18, .binOp .add 3 (.tmp 8) (.const (.int .i64 1)) 3, none, false⟩,
  ⟨some 8, .move (.tmp 18), none, false⟩]))))
def pc105 : PC :=
 (.seq (.region [⟨some 4, .assign (.const (.int .i64 0)), none, false⟩])
 (.seq (.seq (.region [⟨some 6, .move (.tmp 0), none, false⟩,
  ⟨some 7, .call ⟨.builtin .len, #[.tmp 6], #[48]⟩, none, false⟩,
  ⟨some 8, .move (.const (.int .i64 0)), none, false⟩])
 (.block 0 (.loop pc105L0)))
 (.seq (.region [⟨some 4, .assign (.const (.int .i64 (-1))), none, false⟩])
 .ret)))
def fn105 : PFn := ⟨19, [.tmp 4], pc105, false⟩
theorem fnOk105 : FnOk Tryz.prog 105 fn105 := ⟨⟨_, _, [], Tryz.func105, rfl, by kernel_rfl, rfl, rfl, of_decide_eq_true (by kernel_rfl)⟩⟩

def pc81 : PC :=
 (.seq (.region [⟨some 4, .assign (.const (.bool false)), none, false⟩])
 (.seq (.region [⟨some 5, .move (.tmp 0), none, false⟩,
  ⟨some 6, .move (.tmp 1), none, false⟩,
  ⟨some 7, .call ⟨.value (.func 105), #[.tmp 5, .tmp 6], #[48, 87]⟩, none, false⟩,
  ⟨some 8, .binOp .geq 3 (.tmp 7) (.const (.int .i64 0)) 3, none, false⟩,
  ⟨some 4, .assign (.tmp 8), none, false⟩])
 .ret))
def fn81 : PFn := ⟨9, [.tmp 4], pc81, false⟩
theorem fnOk81 : FnOk Tryz.prog 81 fn81 := ⟨⟨_, _, [], Tryz.func81, rfl, by kernel_rfl, rfl, rfl, of_decide_eq_true (by kernel_rfl)⟩⟩

def pc53 : PC :=
 (.seq (.region [⟨some 1, .box 50 (.tmp 0), none, false⟩,
  ⟨some 2, .assign (.const (.bool false)), none, false⟩])
 (.seq (.block 0 (.seq (.region [⟨some 4, .fieldAddr 50 (.tmp 1) 0, none, false⟩,
  ⟨some 5, .load 5 (.tmp 4), none, false⟩,
  ⟨some 6, .binOp .and 5 (.tmp 5) (.const (.int .u8 31)) 5, none, false⟩,
  ⟨some 7, .binOp .eql 5 (.tmp 6) (.const (.int .u8 31)) 5, none, false⟩,
  ⟨some 3, .assign (.tmp 7), none, false⟩])
 (.cond (.tmp 3)
  (.seq (.region [⟨some 2, .assign (.const (.bool false)), none, false⟩])
  .ret)
  (.seq (.region [⟨some 9, .fieldAddr 50 (.tmp 1) 0, none, false⟩,
   ⟨some 10, .load 5 (.tmp 9), none, false⟩,
   ⟨some 11, .binOp .and 5 (.tmp 10) (.const (.int .u8 32)) 5, none, false⟩,
   ⟨some 12, .binOp .eql 5 (.tmp 11) (.const (.int .u8 0)) 5, none, false⟩,
   ⟨some 8, .assign (.tmp 12), none, false⟩])
  (.cond (.tmp 8)
   (.seq (.region [⟨some 13, .fieldAddr 50 (.tmp 1) 2, none, false⟩,
    ⟨some 14, .load 48 (.tmp 13), none, false⟩,
    ⟨some 15, .call ⟨.builtin .len, #[.tmp 14], #[48]⟩, none, false⟩,
    ⟨some 16, .binOp .eql 3 (.tmp 15) (.const (.int .i64 0)) 3, none, false⟩,
    ⟨some 2, .assign (.tmp 16), none, false⟩])
   .ret)
   .skip)))))
 (.seq (.region [⟨some 17, .fieldAddr 50 (.tmp 1) 1, none, false⟩,
  ⟨some 18, .load 9 (.tmp 17), none, false⟩,
  ⟨some 19, .binOp .eql 9 (.tmp 18) (.const (.string ⟨#[]⟩)) 9, none, false⟩,
  ⟨some 20, .move (.tmp 19), none, false⟩,
  ⟨some 21, .fieldAddr 50 (.tmp 1) 2, some (20, true), false⟩,
  ⟨some 22, .load 48 (.tmp 21), some (20, true), false⟩,
  ⟨some 23, .call ⟨.value (.func 81), #[.tmp 22, .func 82], #[48, 87]⟩, some (20, true), false⟩,
  ⟨some 24, .unOp .not 4 (.tmp 23), some (20, true), false⟩,
  ⟨some 25, .pick (.tmp 20) (.tmp 24) (.const (.bool false)), none, false⟩,
  ⟨some 2, .assign (.tmp 25), none, false⟩])
 .ret)))
def fn53 : PFn := ⟨26, [.tmp 2], pc53, false⟩
theorem fnOk53 : FnOk Tryz.prog 53 fn53 := ⟨⟨_, _, [], Tryz.func53, rfl, by kernel_rfl, rfl, rfl, of_decide_eq_true (by kernel_rfl)⟩⟩

def pc54L0 : PC :=
 (.seq (.region [⟨some 10, .binOp .lss 3 (.tmp 9) (.tmp 8) 3, none, false⟩])
 (.seq (.cond (.tmp 10)
  .skip
  (.exit 0))
 (.seq (.block 1 (.seq (.region [⟨some 11, .indexAddr 48 (.tmp 7) (.tmp 9), none, false⟩,
  ⟨some 12, .load 50 (.tmp 11), none, false⟩,
  ⟨some 5, .alloc 50, none, false⟩,
  ⟨none, .store 50 (.tmp 5) (.tmp 12), none, false⟩])
 (.region [⟨some 13, .move (.tmp 3), none, false⟩,
  ⟨some 14, .load 50 (.tmp 5), none, false⟩,
  ⟨some 15, .call ⟨.value (.func 54), #[.tmp 14], #[50]⟩, none, false⟩,
  ⟨some 16, .call ⟨.builtin .max, #[.tmp 13, .tmp 15], #[3, 3]⟩, none, false⟩,
  ⟨some 3, .assign (.tmp 16), none, false⟩])))
 (.region [⟨some 17, .binOp .add 3 (.tmp 9) (.const (.int .i64 1)) 3, none, false⟩,
  ⟨some 9, .move (.tmp 17), none, false⟩]))))
def pc54 : PC :=
 (.seq (.region [⟨some 1, .box 50 (.tmp 0), none, false⟩,
  ⟨some 2, .assign (.const (.int .i64 0)), none, false⟩])
 (.seq (.region [⟨some 3, .assign (.const (.int .i64 0)), none, false⟩])
 (.seq (.seq (.region [⟨some 6, .fieldAddr 50 (.tmp 1) 2, none, false⟩,
  ⟨some 7, .load 48 (.tmp 6), none, false⟩,
  ⟨some 8, .call ⟨.builtin .len, #[.tmp 7], #[48]⟩, none, false⟩,
  ⟨some 9, .move (.const (.int .i64 0)), none, false⟩])
 (.block 0 (.loop pc54L0)))
 (.seq (.region [⟨some 18, .move (.tmp 3), none, false⟩,
  ⟨some 19, .binOp .add 3 (.tmp 18) (.const (.int .i64 1)) 3, none, false⟩,
  ⟨some 2, .assign (.tmp 19), none, false⟩])
 .ret))))
def fn54 : PFn := ⟨20, [.tmp 2], pc54, false⟩
theorem fnOk54 : FnOk Tryz.prog 54 fn54 := ⟨⟨_, _, [], Tryz.func54, rfl, by kernel_rfl, rfl, rfl, of_decide_eq_true (by kernel_rfl)⟩⟩

def pc55L0 : PC :=
 (.seq (.region [⟨some 16, .binOp .lss 3 (.tmp 15) (.tmp 14) 3, none, false⟩])
 (.seq (.cond (.tmp 16)
  .skip
  (.exit 0))
 (.seq (.block 1 (.seq (.region [⟨some 17, .indexAddr 48 (.tmp 13) (.tmp 15), none, false⟩,
  ⟨some 18, .load 50 (.tmp 17), none, false⟩,
  ⟨some 6, .alloc 50, none, false⟩,
  ⟨none, .store 50 (.tmp 6) (.tmp 18), none, false⟩])
 (.seq (.region [⟨some 20, .load 50 (.tmp 6), none, false⟩,
  ⟨some 21, .call ⟨.value (.func 55), #[.tmp 20], #[50]⟩, none, false⟩,
  ⟨some 19, .move (.tmp 21), none, false⟩,
  ⟨some 22, .extract (.tmp 19) 0, none, false⟩,
  ⟨some 23, .extract (.tmp 19) 1, none, false⟩,
  ⟨some 7, .assign (.tmp 22), none, false⟩,
  ⟨some 8, .assign (.tmp 23), none, false⟩])
 (.seq (.seq (.region [⟨some 24, .move (.tmp 8), none, false⟩,
  ⟨some 25, .unOp .not 4 (.tmp 24), none, false⟩,
  ⟨some 26, .move (.tmp 25), none, false⟩,
  ⟨some 27, .move (.tmp 4), some (26, false), false⟩,
  ⟨some 28, .call ⟨.builtin .len, #[.tmp 27], #[40]⟩, some (26, false), false⟩,
  ⟨some 29, .move (.tmp 7), some (26, false), false⟩,
  ⟨some 30, .call ⟨.builtin .len, #[.tmp 29], #[9]⟩, some (26, false), false⟩,
  ⟨some 31, .binOp .add 3 (.tmp 28) (.tmp 30) 3, some (26, false), false⟩,
  ⟨some 32, .binOp .gtr 3 (.tmp 31) (.const (.int .i64 4000)) 3, some (26, false), false⟩,
  ⟨some 33, .pick (.tmp 26) (.const (.bool true)) (.tmp 32), none, false⟩])
 (.cond (.tmp 33)
  (.seq (.region [⟨some 2, .assign (.const (.string ⟨#[]⟩)), none, false⟩,
   ⟨some 3, .assign (.const (.bool false)), none, false⟩])
  .ret)
  .skip))
 (.region [⟨some 34, .move (.tmp 4), none, false⟩,
  ⟨some 35, .move (.tmp 7), none, false⟩,
  ⟨some 36, .call ⟨.builtin .append, #[.tmp 34, .tmp 35], #[40, 9]⟩, none, false⟩,
  ⟨some 4, .assign (.tmp 36), none, false⟩])))))
 (.region [⟨some 37, .binOp .add 3 (.tmp 15) (.const (.int .i64 1)) 3, none, false⟩,
  ⟨some 15, .move (.tmp 37), none, false⟩]))))
def pc55 : PC :=
 (.seq (.region [⟨some 1, .box 50 (.tmp 0), none, false⟩,
  ⟨some 2, .assign (.const (.string ⟨#[]⟩)), none, false⟩,
  ⟨some 3, .assign (.const (.bool false)), none, false⟩])
 (.seq (.region [⟨some 9, .fieldAddr 50 (.tmp 1) 1, none, false⟩,
  ⟨some 10, .load 9 (.tmp 9), none, false⟩,
  ⟨some 11, .convert 9 40 (.tmp 10), none, false⟩,
  ⟨some 4, .assign (.tmp 11), none, false⟩])
 (.seq (.seq (.region [⟨some 12, .fieldAddr 50 (.tmp 1) 2, none, false⟩,
  ⟨some 13, .load 48 (.tmp 12), none, false⟩,
  ⟨some 14, .call ⟨.builtin .len, #[.tmp 13], #[48]⟩, none, false⟩,
  ⟨some 15, .move (.const (.int .i64 0)), none, false⟩])
 (.block 0 (.loop pc55L0)))
 (.seq (.seq (.region [⟨some 38, .move (.tmp 4), none, false⟩,
  ⟨some 39, .call ⟨.builtin .len, #[.tmp 38], #[40]⟩, none, false⟩,
  ⟨some 40, .binOp .gtr 3 (.tmp 39) (.const (.int .i64 4000)) 3, none, false⟩])
 (.cond (.tmp 40)
  (.seq (.region [⟨some 2, .assign (.const (.string ⟨#[]⟩)), none, false⟩,
   ⟨some 3, .assign (.const (.bool false)), none, false⟩])
  .ret)
  .skip))
 (.seq (.draw [⟨some 41, .fieldAddr 50 (.tmp 1) 0, none, false⟩,
  ⟨some 42, .load 5 (.tmp 41), none, false⟩,
  ⟨some 43, .buildSlice 40 1 #[(0, .tmp 42)], none, false⟩,
  ⟨some 44, .convert 40 9 (.tmp 43), none, false⟩,
  ⟨some 45, .move (.tmp 4), none, false⟩,
  ⟨some 46, .call ⟨.builtin .len, #[.tmp 45], #[40]⟩, none, false⟩,
  ⟨some 47, .call ⟨.value (.func 52), #[.tmp 46], #[3]⟩, none, false⟩,
  ⟨some 48, .binOp .add 9 (.tmp 44) (.tmp 47) 9, none, false⟩,
  ⟨some 49, .move (.tmp 4), none, false⟩,
  ⟨some 50, .convert 40 9 (.tmp 49), none, false⟩]
  [⟨some 51, .binOp .add 9 (.tmp 48) (.tmp 50) 9, none, false⟩,
  ⟨some 2, .assign (.tmp 51), none, false⟩,
  ⟨some 3, .assign (.const (.bool true)), none, false⟩])
 .ret)))))
def fn55 : PFn := ⟨52, [.tmp 2, .tmp 3], pc55, false⟩
theorem fnOk55 : FnOk Tryz.prog 55 fn55 := ⟨⟨_, _, [], Tryz.func55, rfl, by kernel_rfl, rfl, rfl, of_decide_eq_true (by kernel_rfl)⟩⟩

def pc24 : PC :=
 (.seq (.region [⟨some 1, .box 50 (.tmp 0), none, false⟩,
  ⟨some 2, .assign (.const (.string ⟨#[]⟩)), none, false⟩,
  ⟨some 3, .assign (.const (.int .i64 0)), none, false⟩])
 (.seq (.seq (.region [⟨some 6, .load 50 (.tmp 1), none, false⟩,
  ⟨some 7, .call ⟨.value (.func 53), #[.tmp 6], #[50]⟩, none, false⟩,
  ⟨some 8, .unOp .not 4 (.tmp 7), none, false⟩])
 (.cond (.tmp 8)
  (.seq (.region [⟨some 2, .assign (.const (.string ⟨#[]⟩)), none, false⟩,
   ⟨some 3, .assign (.const (.int .i64 14)), none, false⟩])
  .ret)
  .skip))
 (.seq (.seq (.region [⟨some 9, .load 50 (.tmp 1), none, false⟩,
  ⟨some 10, .call ⟨.value (.func 54), #[.tmp 9], #[50]⟩, none, false⟩,
  ⟨some 11, .binOp .gtr 3 (.tmp 10) (.const (.int .i64 20)) 3, none, false⟩])
 (.cond (.tmp 11)
  (.seq (.region [⟨some 2, .assign (.const (.string ⟨#[]⟩)), none, false⟩,
   ⟨some 3, .assign (.const (.int .i64 12)), none, false⟩])
  .ret)
  .skip))
 (.seq (.region [⟨some 13, .load 50 (.tmp 1), none, false⟩,
  ⟨some 14, .call ⟨.value (.func 55), #[.tmp 13], #[50]⟩, none, false⟩,
  ⟨some 12, .move (.tmp 14), none, false⟩,
  ⟨some 15, .extract (.tmp 12) 0, none, false⟩,
  ⟨some 16, .extract (.tmp 12) 1, none, false⟩,
  ⟨some 4, .assign (.tmp 15), none, false⟩,
  ⟨some 5, .assign (.tmp 16), none, false⟩])
 (.seq (.seq (.region [⟨some 17, .move (.tmp 5), none, false⟩,
  ⟨some 18, .unOp .not 4 (.tmp 17), none, false⟩])
 (.cond (.tmp 18)
  (.seq (.region [⟨some 2, .assign (.const (.string ⟨#[]⟩)), none, false⟩,
   ⟨some 3, .assign (.const (.int .i64 13)), none, false⟩])
  .ret)
  .skip))
 (.seq (.region [⟨some 19, .move (.tmp 4), none, false⟩,
  ⟨some 2, .assign (.tmp 19), none, false⟩,
  ⟨some 3, .assign (.const (.int .i64 0)), none, false⟩])
 .ret))))))
def fn24 : PFn := ⟨20, [.tmp 2, .tmp 3], pc24, false⟩
theorem fnOk24 : FnOk Tryz.prog 24 fn24 := ⟨⟨_, _, [], Tryz.func24, rfl, by kernel_rfl, rfl, rfl, of_decide_eq_true (by kernel_rfl)⟩⟩

def pc9 : PC :=
 (.seq (.region [⟨some 1, .box 28 (.tmp 0), none, false⟩,
  ⟨some 2, .assign (.const (.string ⟨#[]⟩)), none, false⟩,
  ⟨some 3, .assign (.const (.int .i64 0)), none, false⟩])
 (.seq (.seq (.region [⟨some 7, .load 28 (.tmp 1), none, false⟩,
  ⟨some 8, .call ⟨.value (.func 11), #[.tmp 7], #[28]⟩, none, false⟩,
  ⟨some 9, .unOp .not 4 (.tmp 8), none, false⟩])
 (.cond (.tmp 9)
  (.seq (.region [⟨some 2, .assign (.const (.string ⟨#[]⟩)), none, false⟩,
   ⟨some 3, .assign (.const (.int .i64 14)), none, false⟩])
  .ret)
  .skip))
 (.seq (.region [⟨some 10, .fieldAddr 28 (.tmp 1) 1, none, false⟩,
  ⟨some 11, .load 3 (.tmp 10), none, false⟩,
  ⟨some 12, .fieldAddr 28 (.tmp 1) 2, none, false⟩,
  ⟨some 13, .load 3 (.tmp 12), none, false⟩,
  ⟨some 14, .call ⟨.value (.func 18), #[.tmp 11, .tmp 13], #[3, 3]⟩, none, false⟩,
  ⟨some 4, .assign (.tmp 14), none, false⟩])
 (.seq (.region [⟨some 15, .move (.tmp 4), none, false⟩,
  ⟨some 16, .call ⟨.value (.func 19), #[.tmp 15, .const (.slice none 0 0)], #[5, 48]⟩, none, false⟩,
  ⟨some 5, .alloc 50, none, false⟩,
  ⟨none, .store 50 (.tmp 5) (.tmp 16), none, false⟩])
 (.seq (.seq (.region [⟨some 17, .fieldAddr 28 (.tmp 1) 1, none, false⟩,
  ⟨some 18, .load 3 (.tmp 17), none, false⟩])
 (.block 0 (.seq (.region [⟨some 24, .binOp .eql 3 (.tmp 18) (.const (.int .i64 6)) 3, none, false⟩,
  ⟨some 23, .assign (.tmp 24), none, false⟩])
 (.cond (.tmp 23)
  (.region [⟨some 25, .move (.tmp 4), none, false⟩,
   ⟨some 26, .fieldAddr 28 (.tmp 1) 3, none, false⟩,
   ⟨some 27, .load 9 (.tmp 26), none, false⟩,
   ⟨some 28, .call ⟨.value (.func 20), #[.tmp 25, .tmp 27], #[5, 9]⟩, none, false⟩,
   ⟨none, .store 50 (.tmp 5) (.tmp 28), none, false⟩])
  (.seq (.region [⟨some 30, .binOp .eql 3 (.tmp 18) (.const (.int .i64 2)) 3, none, false⟩,
   ⟨some 29, .assign (.tmp 30), none, false⟩])
  (.cond (.tmp 29)
   .skip
   (.region [⟨some 19, .move (.tmp 4), none, false⟩,
    ⟨some 20, .load 28 (.tmp 1), none, false⟩,
    ⟨some 21, .call ⟨.value (.func 21), #[.tmp 20], #[28]⟩, none, false⟩,
    ⟨some 22, .call ⟨.value (.func 19), #[.tmp 19, .tmp 21], #[5, 48]⟩, none, false⟩,
    ⟨none, .store 50 (.tmp 5) (.tmp 22), none, false⟩])))))))
 (.seq (.drawC [⟨some 31, .fieldAddr 28 (.tmp 1) 0, none, false⟩,
  ⟨some 32, .load 3 (.tmp 31), none, false⟩,
  ⟨some 33, .call ⟨.value (.func 22), #[.const (.int .u8 2), .tmp 32], #[5, 2]⟩, none, true⟩,
  ⟨some 34, .load 50 (.tmp 5), none, false⟩,
  ⟨some 35, .buildSlice 48 2 #[(0, .tmp 33), (1, .tmp 34)], none, false⟩,
  ⟨some 36, .call ⟨.value (.func 19), #[.const (.int .u8 48), .tmp 35], #[5, 48]⟩, none, true⟩,
  ⟨some 6, .alloc 50, none, false⟩]
  [⟨none, .store 50 (.tmp 6) (.tmp 36), none, false⟩])
 (.seq (.seq (.region [⟨some 37, .load 50 (.tmp 6), none, false⟩,
  ⟨some 38, .call ⟨.value (.func 23), #[.tmp 37], #[50]⟩, none, false⟩,
  ⟨some 39, .binOp .gtr 3 (.tmp 38) (.const (.int .i64 4000)) 3, none, false⟩])
 (.cond (.tmp 39)
  (.seq (.region [⟨some 2, .assign (.const (.string ⟨#[]⟩)), none, false⟩,
   ⟨some 3, .assign (.const (.int .i64 13)), none, false⟩])
  .ret)
  .skip))
 (.seq (.region [⟨some 40, .load 50 (.tmp 6), none, false⟩,
  ⟨some 41, .call ⟨.value (.func 24), #[.tmp 40], #[50]⟩, none, false⟩,
  ⟨some 42, .extract (.tmp 41) 0, none, false⟩,
  ⟨some 43, .extract (.tmp 41) 1, none, false⟩,
  ⟨some 2, .assign (.tmp 42), none, false⟩,
  ⟨some 3, .assign (.tmp 43), none, false⟩])
 .ret))))))))
def fn9 : PFn := ⟨44, [.tmp 2, .tmp 3], pc9, false⟩
theorem fnOk9 : FnOk Tryz.prog 9 fn9 := ⟨⟨_, _, [10, 1000033, 1000036], Tryz.func9, rfl, by kernel_rfl, rfl, rfl, of_decide_eq_true (by kernel_rfl)⟩⟩

def pc42L0 : PC :=
 (.seq (.seq (.region [⟨some 44, .move (.tmp 5), none, false⟩,
  ⟨some 45, .fieldAddr 25 (.tmp 2) 3, none, false⟩,
  ⟨some 46, .load 22 (.tmp 45), none, false⟩,
  ⟨some 47, .call ⟨.builtin .len, #[.tmp 46], #[22]⟩, none, false⟩,
  ⟨some 48, .binOp .lss 3 (.tmp 44) (.tmp 47) 3, none, false⟩])
 (.cond (.tmp 48)
  .skip
  (.exit 0)))
 (.seq (.block 1 (.seq (.draw [⟨some 51, .fieldAddr 25 (.tmp 2) 3, none, false⟩,
  ⟨some 52, .load 22 (.tmp 51), none, false⟩,
  ⟨some 53, .move (.tmp 5), none, false⟩,
  ⟨some 54, .indexAddr 22 (.tmp 52) (.tmp 53), none, false⟩,
  ⟨some 55, .load 9 (.tmp 54), none, false⟩,
  ⟨some 56, .fieldAddr 25 (.tmp 3) 3, none, false⟩,
  ⟨some 57, .load 22 (.tmp 56), none, false⟩,
  ⟨some 58, .move (.tmp 5), none, false⟩,
  ⟨some 59, .indexAddr 22 (.tmp 57) (.tmp 58), none, false⟩,
  ⟨some 60, .load 9 (.tmp 59), none, false⟩]
  [⟨some 61, .binOp .neq 9 (.tmp 55) (.tmp 60) 9, none, false⟩])
 (.cond (.tmp 61)
  (.seq (.region [⟨some 4, .assign (.const (.bool false)), none, false⟩])
  .ret)
  .skip)))
 (.region [⟨some 49, .move (.tmp 5), none, false⟩,
  ⟨some 50, .binOp .add 3 (.tmp 49) (.const (.int .i64 1)) 3, none, false⟩,
  ⟨some 5, .assign (.tmp 50), none, false⟩])))
def pc42L2 : PC :=
 (.seq (.seq (.region [⟨some 62, .move (.tmp 6), none, false⟩,
  ⟨some 63, .fieldAddr 25 (.tmp 2) 4, none, false⟩,
  ⟨some 64, .load 23 (.tmp 63), none, false⟩,
  ⟨some 65, .call ⟨.builtin .len, #[.tmp 64], #[23]⟩, none, false⟩,
  ⟨some 66, .binOp .lss 3 (.tmp 62) (.tmp 65) 3, none, false⟩])
 (.cond (.tmp 66)
  .skip
  (.exit 2)))
 (.seq (.block 3 (.seq (.draw [⟨some 69, .fieldAddr 25 (.tmp 2) 4, none, false⟩,
  ⟨some 70, .load 23 (.tmp 69), none, false⟩,
  ⟨some 71, .move (.tmp 6), none, false⟩,
  ⟨some 72, .indexAddr 23 (.tmp 70) (.tmp 71), none, false⟩,
  ⟨some 73, .load 25 (.tmp 72), none, false⟩,
  ⟨some 74, .fieldAddr 25 (.tmp 3) 4, none, false⟩,
  ⟨some 75, .load 23 (.tmp 74), none, false⟩,
  ⟨some 76, .move (.tmp 6), none, false⟩,
  ⟨some 77, .indexAddr 23 (.tmp 75) (.tmp 76), none, false⟩,
  ⟨some 78, .load 25 (.tmp 77), none, false⟩]
  [⟨some 79, .call ⟨.value (.func 42), #[.tmp 73, .tmp 78], #[25, 25]⟩, none, false⟩,
  ⟨some 80, .unOp .not 4 (.tmp 79), none, false⟩])
 (.cond (.tmp 80)
  (.seq (.region [⟨some 4, .assign (.const (.bool false)), none, false⟩])
  .ret)
  .skip)))
 (.region [⟨some 67, .move (.tmp 6), none, false⟩,
  ⟨some 68, .binOp .add 3 (.tmp 67) (.const (.int .i64 1)) 3, none, false⟩,
  ⟨some 6, .assign (.tmp 68), none, false⟩])))
def pc42 : PC :=
 (.seq (.region [⟨some 2, .box 25 (.tmp 0), none, false⟩,
  ⟨some 3, .box 25 (.tmp 1), none, false⟩,
  ⟨some 4, .assign (.const (.bool false)), none, false⟩])
 (.seq (.seq (.region [⟨some 7, .fieldAddr 25 (.tmp 2) 0, none, false⟩,
  ⟨some 8, .load 3 (.tmp 7), none, false⟩,
  ⟨some 9, .fieldAddr 25 (.tmp 3) 0, none, false⟩,
  ⟨some 10, .load 3 (.tmp 9), none, false⟩,
  ⟨some 11, .binOp .neq 3 (.tmp 8) (.tmp 10) 3, none, false⟩,
  ⟨some 12, .move (.tmp 11), none, false⟩,
  ⟨some 13, .fieldAddr 25 (.tmp 2) 1, some (12, false), false⟩,
  ⟨some 14, .load 9 (.tmp 13), some (12, false), false⟩,
  ⟨some 15, .fieldAddr 25 (.tmp 3) 1, some (12, false), false⟩,
  ⟨some 16, .load 9 (.tmp 15), some (12, false), false⟩,
  ⟨some 17, .binOp .neq 9 (.tmp 14) (.tmp 16) 9, some (12, false), false⟩,
  ⟨some 18, .pick (.tmp 12) (.const (.bool true)) (.tmp 17), none, false⟩,
  ⟨some 19, .move (.tmp 18), none, false⟩,
  ⟨some 20, .fieldAddr 25 (.tmp 2) 2, some (19, false), false⟩,
  ⟨some 21, .load 9 (.tmp 20), some (19, false), false⟩,
  ⟨some 22, .fieldAddr 25 (.tmp 3) 2, some (19, false), false⟩,
  ⟨some 23, .load 9 (.tmp 22), some (19, false), false⟩,
  ⟨some 24, .binOp .neq 9 (.tmp 21) (.tmp 23) 9, some (19, false), false⟩,
  ⟨some 25, .pick (.tmp 19) (.const (.bool true)) (.tmp 24), none, false⟩,
  ⟨some 26, .move (.tmp 25), none, false⟩,
  ⟨some 27, .fieldAddr 25 (.tmp 2) 3, some (26, false), false⟩,
  ⟨some 28, .load 22 (.tmp 27), some (26, false), false⟩,
  ⟨some 29, .call ⟨.builtin .len, #[.tmp 28], #[22]⟩, some (26, false), false⟩,
  ⟨some 30, .fieldAddr 25 (.tmp 3) 3, some (26, false), false⟩,
  ⟨some 31, .load 22 (.tmp 30), some (26, false), false⟩,
  ⟨some 32, .call ⟨.builtin .len, #[.tmp 31], #[22]⟩, some (26, false), false⟩,
  ⟨some 33, .binOp .neq 3 (.tmp 29) (.tmp 32) 3, some (26, false), false⟩,
  ⟨some 34, .pick (.tmp 26) (.const (.bool true)) (.tmp 33), none, false⟩,
  ⟨some 35, .move (.tmp 34), none, false⟩,
  ⟨some 36, .fieldAddr 25 (.tmp 2) 4, some (35, false), false⟩,
  ⟨some 37, .load 23 (.tmp 36), some (35, false), false⟩,
  ⟨some 38, .call ⟨.builtin .len, #[.tmp 37], #[23]⟩, some (35, false), false⟩,
  ⟨some 39, .fieldAddr 25 (.tmp 3) 4, some (35, false), false⟩,
  ⟨some 40, .load 23 (.tmp 39), some (35, false), false⟩,
  ⟨some 41, .call ⟨.builtin .len, #[.tmp 40], #[23]⟩, some (35, false), false⟩,
  ⟨some 42, .binOp .neq 3 (.tmp 38) (.tmp 41) 3, some (35, false), false⟩,
  ⟨some 43, .pick (.tmp 35) (.const (.bool true)) (.tmp 42), none, false⟩])
 (.cond (.tmp 43)
  (.seq (.region [⟨some 4, .assign (.const (.bool false)), none, false⟩])
  .ret)
  .skip))
 (.seq (.seq (.region [⟨some 5, .assign (.const (.int .i64 0)), none, false⟩])
 (.block 0 (.loop pc42L0)))
 (.seq (.seq (.region [⟨some 6, .assign (.const (.int .i64 0)), none, false⟩])
 (.block 2 (.loop pc42L2)))
 (.seq (.region [⟨some 4, .assign (.const (.bool true)), none, false⟩])
 .ret)))))
def fn42 : PFn := ⟨81, [.tmp 4], pc42, false⟩
theorem fnOk42 : FnOk Tryz.prog 42 fn42 := ⟨⟨_, _, [], Tryz.func42, rfl, by kernel_rfl, rfl, rfl, of_decide_eq_true (by kernel_rfl)⟩⟩

def pc43L0 : PC :=
 (.seq (.seq (.region [⟨some 11, .move (.tmp 5), none, false⟩,
  ⟨some 12, .move (.tmp 0), none, false⟩,
  ⟨some 13, .call ⟨.builtin .len, #[.tmp 12], #[22]⟩, none, false⟩,
  ⟨some 14, .binOp .lss 3 (.tmp 11) (.tmp 13) 3, none, false⟩])
 (.cond (.tmp 14)
  .skip
  (.exit 0)))
 (.seq (.block 1 (.seq (.draw [⟨some 17, .move (.tmp 0), none, false⟩,
  ⟨some 18, .move (.tmp 5), none, false⟩,
  ⟨some 19, .indexAddr 22 (.tmp 17) (.tmp 18), none, false⟩,
  ⟨some 20, .load 9 (.tmp 19), none, false⟩,
  ⟨some 21, .move (.tmp 1), none, false⟩,
  ⟨some 22, .move (.tmp 5), none, false⟩,
  ⟨some 23, .indexAddr 22 (.tmp 21) (.tmp 22), none, false⟩,
  ⟨some 24, .load 9 (.tmp 23), none, false⟩]
  [⟨some 25, .binOp .neq 9 (.tmp 20) (.tmp 24) 9, none, false⟩])
 (.cond (.tmp 25)
  (.seq (.region [⟨some 4, .assign (.const (.bool false)), none, false⟩])
  .ret)
  .skip)))
 (.region [⟨some 15, .move (.tmp 5), none, false⟩,
  ⟨some 16, .binOp .add 3 (.tmp 15) (.const (.int .i64 1)) 3, none, false⟩,
  ⟨some 5, .assign (.tmp 16), none, false⟩])))
def pc43 : PC :=
 (.seq (.region [⟨some 4, .assign (.const (.bool false)), none, false⟩])
 (.seq (.seq (.region [⟨some 6, .move (.tmp 0), none, false⟩,
  ⟨some 7, .call ⟨.builtin .len, #[.tmp 6], #[22]⟩, none, false⟩,
  ⟨some 8, .move (.tmp 1), none, false⟩,
  ⟨some 9, .call ⟨.builtin .len, #[.tmp 8], #[22]⟩, none, false⟩,
  ⟨some 10, .binOp .neq 3 (.tmp 7) (.tmp 9) 3, none, false⟩])
 (.cond (.tmp 10)
  (.seq (.region [⟨some 4, .assign (.const (.bool false)), none, false⟩])
  .ret)
  .skip))
 (.seq (.seq (.region [⟨some 5, .assign (.const (.int .i64 0)), none, false⟩])
 (.block 0 (.loop pc43L0)))
 (.seq (.region [⟨some 4, .assign (.const (.bool true)), none, false⟩])
 .ret))))
def fn43 : PFn := ⟨26, [.tmp 4], pc43, false⟩
theorem fnOk43 : FnOk Tryz.prog 43 fn43 := ⟨⟨_, _, [], Tryz.func43, rfl, by kernel_rfl, rfl, rfl, of_decide_eq_true (by kernel_rfl)⟩⟩

def pc44L0 : PC :=
 (.seq (.seq (.region [⟨some 11, .move (.tmp 5), none, false⟩,
  ⟨some 12, .move (.tmp 0), none, false⟩,
  ⟨some 13, .call ⟨.builtin .len, #[.tmp 12], #[26]⟩, none, false⟩,
  ⟨some 14, .binOp .lss 3 (.tmp 11) (.tmp 13) 3, none, false⟩])
 (.cond (.tmp 14)
  .skip
  (.exit 0)))
 (.seq (.block 1 (.seq (.draw [⟨some 17, .move (.tmp 0), none, false⟩,
  ⟨some 18, .move (.tmp 5), none, false⟩,
  ⟨some 19, .indexAddr 26 (.tmp 17) (.tmp 18), none, false⟩,
  ⟨some 20, .fieldAddr 45 (.tmp 19) 0, none, false⟩,
  ⟨some 21, .load 3 (.tmp 20), none, false⟩,
  ⟨some 22, .move (.tmp 1), none, false⟩,
  ⟨some 23, .move (.tmp 5), none, false⟩,
  ⟨some 24, .indexAddr 26 (.tmp 22) (.tmp 23), none, false⟩,
  ⟨some 25, .fieldAddr 45 (.tmp 24) 0, none, false⟩,
  ⟨some 26, .load 3 (.tmp 25), none, false⟩,
  ⟨some 27, .binOp .neq 3 (.tmp 21) (.tmp 26) 3, none, false⟩,
  ⟨some 28, .move (.tmp 27), none, false⟩,
  ⟨some 29, .move (.tmp 0), some (28, false), false⟩,
  ⟨some 30, .move (.tmp 5), some (28, false), false⟩,
  ⟨some 31, .indexAddr 26 (.tmp 29) (.tmp 30), some (28, false), false⟩,
  ⟨some 32, .fieldAddr 45 (.tmp 31) 1, some (28, false), false⟩,
  ⟨some 33, .load 9 (.tmp 32), some (28, false), false⟩,
  ⟨some 34, .move (.tmp 1), some (28, false), false⟩,
  ⟨some 35, .move (.tmp 5), some (28, false), false⟩,
  ⟨some 36, .indexAddr 26 (.tmp 34) (.tmp 35), some (28, false), false⟩,
  ⟨some 37, .fieldAddr 45 (.tmp 36) 1, some (28, false), false⟩,
  ⟨some 38, .load 9 (.tmp 37), some (28, false), false⟩,
  ⟨some 39, .binOp .neq 9 (.tmp 33) (.tmp 38) 9, some (28, false), false⟩,
  ⟨some 40, .pick (.tmp 28) (.const (.bool true)) (.tmp 39), none, false⟩,
  ⟨some 41, .move (.tmp 40), none, false⟩,
  ⟨some 42, .move (.tmp 0), some (41, false), false⟩,
  ⟨some 43, .move (.tmp 5), some (41, false), false⟩,
  ⟨some 44, .indexAddr 26 (.tmp 42) (.tmp 43), some (41, false), false⟩,
  ⟨some 45, .fieldAddr 45 (.tmp 44) 2, some (41, false), false⟩,
  ⟨some 46, .load 22 (.tmp 45), some (41, false), false⟩,
  ⟨some 47, .move (.tmp 1), some (41, false), false⟩,
  ⟨some 48, .move (.tmp 5), some (41, false), false⟩,
  ⟨some 49, .indexAddr 26 (.tmp 47) (.tmp 48), some (41, false), false⟩,
  ⟨some 50, .fieldAddr 45 (.tmp 49) 2, some (41, false), false⟩,
  ⟨some 51, .load 22 (.tmp 50), some (41, false), false⟩]
  [⟨some 52, .call ⟨.value (.func 43), #[.tmp 46, .tmp 51], #[22, 22]⟩, some (41, false), false⟩,
  ⟨some 53, .unOp .not 4 (.tmp 52), some (41, false), false⟩,
  ⟨some 54, .pick (.tmp 41) (.const (.bool true)) (.tmp 53), none, false⟩])
 (.cond (.tmp 54)
  (.seq (.region [⟨some 4, .assign (.const (.bool false)), none, false⟩])
  .ret)
  .skip)))
 (.region [⟨some 15, .move (.tmp 5), none, false⟩,
  ⟨some 16, .binOp .add 3 (.tmp 15) (.const (.int .i64 1)) 3, none, false⟩,
  ⟨some 5, .assign (.tmp 16), none, false⟩])))
def pc44 : PC :=
 (.seq (.region [⟨some 4, .assign (.const (.bool false)), none, false⟩])
 (.seq (.seq (.region [⟨some 6, .move (.tmp 0), none, false⟩,
  ⟨some 7, .call ⟨.builtin .len, #[.tmp 6], #[26]⟩, none, false⟩,
  ⟨some 8, .move (.tmp 1), none, false⟩,
  ⟨some 9, .call ⟨.builtin .len, #[.tmp 8], #[26]⟩, none, false⟩,
  ⟨some 10, .binOp .neq 3 (.tmp 7) (.tmp 9) 3, none, false⟩])
 (.cond (.tmp 10)
  (.seq (.region [⟨some 4, .assign (.const (.bool false)), none, false⟩])
  .ret)
  .skip))
 (.seq (.seq (.region [⟨some 5, .assign (.const (.int .i64 0)), none, false⟩])
 (.block 0 (.loop pc44L0)))
 (.seq (.region [⟨some 4, .assign (.const (.bool true)), none, false⟩])
 .ret))))
def fn44 : PFn := ⟨55, [.tmp 4], pc44, false⟩
theorem fnOk44 : FnOk Tryz.prog 44 fn44 := ⟨⟨_, _, [], Tryz.func44, rfl, by kernel_rfl, rfl, rfl, of_decide_eq_true (by kernel_rfl)⟩⟩

def pc14 : PC :=
 (.seq (.region [⟨some 2, .box 28 (.tmp 0), none, false⟩,
  ⟨some 3, .box 28 (.tmp 1), none, false⟩,
  ⟨some 4, .assign (.const (.bool false)), none, false⟩])
 (.seq (.region [⟨some 5, .fieldAddr 28 (.tmp 2) 0, none, false⟩,
  ⟨some 6, .load 3 (.tmp 5), none, false⟩,
  ⟨some 7, .fieldAddr 28 (.tmp 3) 0, none, false⟩,
  ⟨some 8, .load 3 (.tmp 7), none, false⟩,
  ⟨some 9, .binOp .eql 3 (.tmp 6) (.tmp 8) 3, none, false⟩,
  ⟨some 10, .move (.tmp 9), none, false⟩,
  ⟨some 11, .fieldAddr 28 (.tmp 2) 1, some (10, true), false⟩,
  ⟨some 12, .load 3 (.tmp 11), some (10, true), false⟩,
  ⟨some 13, .fieldAddr 28 (.tmp 3) 1, some (10, true), false⟩,
  ⟨some 14, .load 3 (.tmp 13), some (10, true), false⟩,
  ⟨some 15, .binOp .eql 3 (.tmp 12) (.tmp 14) 3, some (10, true), false⟩,
  ⟨some 16, .pick (.tmp 10) (.tmp 15) (.const (.bool false)), none, false⟩,
  ⟨some 17, .move (.tmp 16), none, false⟩,
  ⟨some 18, .fieldAddr 28 (.tmp 2) 2, some (17, true), false⟩,
  ⟨some 19, .load 3 (.tmp 18), some (17, true), false⟩,
  ⟨some 20, .fieldAddr 28 (.tmp 3) 2, some (17, true), false⟩,
  ⟨some 21, .load 3 (.tmp 20), some (17, true), false⟩,
  ⟨some 22, .binOp .eql 3 (.tmp 19) (.tmp 21) 3, some (17, true), false⟩,
  ⟨some 23, .pick (.tmp 17) (.tmp 22) (.const (.bool false)), none, false⟩,
  ⟨some 24, .move (.tmp 23), none, false⟩,
  ⟨some 25, .fieldAddr 28 (.tmp 2) 3, some (24, true), false⟩,
  ⟨some 26, .load 9 (.tmp 25), some (24, true), false⟩,
  ⟨some 27, .fieldAddr 28 (.tmp 3) 3, some (24, true), false⟩,
  ⟨some 28, .load 9 (.tmp 27), some (24, true), false⟩,
  ⟨some 29, .binOp .eql 9 (.tmp 26) (.tmp 28) 9, some (24, true), false⟩,
  ⟨some 30, .pick (.tmp 24) (.tmp 29) (.const (.bool false)), none, false⟩,
  ⟨some 31, .move (.tmp 30), none, false⟩,
  ⟨some 32, .fieldAddr 28 (.tmp 2) 4, some (31, true), false⟩,
  ⟨some 33, .load 3 (.tmp 32), some (31, true), false⟩,
  ⟨some 34, .fieldAddr 28 (.tmp 3) 4, some (31, true), false⟩,
  ⟨some 35, .load 3 (.tmp 34), some (31, true), false⟩,
  ⟨some 36, .binOp .eql 3 (.tmp 33) (.tmp 35) 3, some (31, true), false⟩,
  ⟨some 37, .pick (.tmp 31) (.tmp 36) (.const (.bool false)), none, false⟩,
  ⟨some 38, .move (.tmp 37), none, false⟩,
  ⟨some 39, .fieldAddr 28 (.tmp 2) 5, some (38, true), false⟩,
  ⟨some 40, .load 9 (.tmp 39), some (38, true), false⟩,
  ⟨some 41, .fieldAddr 28 (.tmp 3) 5, some (38, true), false⟩,
  ⟨some 42, .load 9 (.tmp 41), some (38, true), false⟩,
  ⟨some 43, .binOp .eql 9 (.tmp 40) (.tmp 42) 9, some (38, true), false⟩,
  ⟨some 44, .pick (.tmp 38) (.tmp 43) (.const (.bool false)), none, false⟩,
  ⟨some 45, .move (.tmp 44), none, false⟩,
  ⟨some 46, .fieldAddr 28 (.tmp 2) 6, some (45, true), false⟩,
  ⟨some 47, .load 3 (.tmp 46), some (45, true), false⟩,
  ⟨some 48, .fieldAddr 28 (.tmp 3) 6, some (45, true), false⟩,
  ⟨some 49, .load 3 (.tmp 48), some (45, true), false⟩,
  ⟨some 50, .binOp .eql 3 (.tmp 47) (.tmp 49) 3, some (45, true), false⟩,
  ⟨some 51, .pick (.tmp 45) (.tmp 50) (.const (.bool false)), none, false⟩,
  ⟨some 52, .move (.tmp 51), none, false⟩,
  ⟨some 53, .fieldAddr 28 (.tmp 2) 7, some (52, true), false⟩,
  ⟨some 54, .load 3 (.tmp 53), some (52, true), false⟩,
  ⟨some 55, .fieldAddr 28 (.tmp 3) 7, some (52, true), false⟩,
  ⟨some 56, .load 3 (.tmp 55), some (52, true), false⟩,
  ⟨some 57, .binOp .eql 3 (.tmp 54) (.tmp 56) 3, some (52, true), false⟩,
  ⟨some 58, .pick (.tmp 52) (.tmp 57) (.const (.bool false)), none, false⟩,
  ⟨some 59, .move (.tmp 58), none, false⟩,
  ⟨some 60, .fieldAddr 28 (.tmp 2) 8, some (59, true), false⟩,
  ⟨some 61, .load 25 (.tmp 60), some (59, true), false⟩,
  ⟨some 62, .fieldAddr 28 (.tmp 3) 8, some (59, true), false⟩,
  ⟨some 63, .load 25 (.tmp 62), some (59, true), false⟩,
  ⟨some 64, .call ⟨.value (.func 42), #[.tmp 61, .tmp 63], #[25, 25]⟩, some (59, true), false⟩,
  ⟨some 65, .pick (.tmp 59) (.tmp 64) (.const (.bool false)), none, false⟩,
  ⟨some 66, .move (.tmp 65), none, false⟩,
  ⟨some 67, .fieldAddr 28 (.tmp 2) 9, some (66, true), false⟩,
  ⟨some 68, .load 22 (.tmp 67), some (66, true), false⟩,
  ⟨some 69, .fieldAddr 28 (.tmp 3) 9, some (66, true), false⟩,
  ⟨some 70, .load 22 (.tmp 69), some (66, true), false⟩,
  ⟨some 71, .call ⟨.value (.func 43), #[.tmp 68, .tmp 70], #[22, 22]⟩, some (66, true), false⟩,
  ⟨some 72, .pick (.tmp 66) (.tmp 71) (.const (.bool false)), none, false⟩,
  ⟨some 73, .move (.tmp 72), none, false⟩,
  ⟨some 74, .fieldAddr 28 (.tmp 2) 10, some (73, true), false⟩,
  ⟨some 75, .load 26 (.tmp 74), some (73, true), false⟩,
  ⟨some 76, .fieldAddr 28 (.tmp 3) 10, some (73, true), false⟩,
  ⟨some 77, .load 26 (.tmp 76), some (73, true), false⟩,
  ⟨some 78, .call ⟨.value (.func 44), #[.tmp 75, .tmp 77], #[26, 26]⟩, some (73, true), false⟩,
  ⟨some 79, .pick (.tmp 73) (.tmp 78) (.const (.bool false)), none, false⟩,
  ⟨some 80, .move (.tmp 79), none, false⟩,
  ⟨some 81, .fieldAddr 28 (.tmp 2) 11, some (80, true), false⟩,
  ⟨some 82, .load 9 (.tmp 81), some (80, true), false⟩,
  ⟨some 83, .fieldAddr 28 (.tmp 3) 11, some (80, true), false⟩,
  ⟨some 84, .load 9 (.tmp 83), some (80, true), false⟩,
  ⟨some 85, .binOp .eql 9 (.tmp 82) (.tmp 84) 9, some (80, true), false⟩,
  ⟨some 86, .pick (.tmp 80) (.tmp 85) (.const (.bool false)), none, false⟩,
  ⟨some 87, .move (.tmp 86), none, false⟩,
  ⟨some 88, .fieldAddr 28 (.tmp 2) 12, some (87, true), false⟩,
  ⟨some 89, .load 4 (.tmp 88), some (87, true), false⟩,
  ⟨some 90, .fieldAddr 28 (.tmp 3) 12, some (87, true), false⟩,
  ⟨some 91, .load 4 (.tmp 90), some (87, true), false⟩,
  ⟨some 92, .binOp .eql 4 (.tmp 89) (.tmp 91) 4, some (87, true), false⟩,
  ⟨some 93, .pick (.tmp 87) (.tmp 92) (.const (.bool false)), none, false⟩,
  ⟨some 94, .move (.tmp 93), none, false⟩,
  ⟨some 95, .fieldAddr 28 (.tmp 2) 13, some (94, true), false⟩,
  ⟨some 96, .load 4 (.tmp 95), some (94, true), false⟩,
  ⟨some 97, .fieldAddr 28 (.tmp 3) 13, some (94, true), false⟩,
  ⟨some 98, .load 4 (.tmp 97), some (94, true), false⟩,
  ⟨some 99, .binOp .eql 4 (.tmp 96) (.tmp 98) 4, some (94, true), false⟩,
  ⟨some 100, .pick (.tmp 94) (.tmp 99) (.const (.bool false)), none, false⟩,
  ⟨some 101, .move (.tmp 100), none, false⟩,
  ⟨some 102, .fieldAddr 28 (.tmp 2) 14, some (101, true), false⟩,
  ⟨some 103, .load 9 (.tmp 102), some (101, true), false⟩,
  ⟨some 104, .fieldAddr 28 (.tmp 3) 14, some (101, true), false⟩,
  ⟨some 105, .load 9 (.tmp 104), some (101, true), false⟩,
  ⟨some 106, .binOp .eql 9 (.tmp 103) (.tmp 105) 9, some (101, true), false⟩,
  ⟨some 107, .pick (.tmp 101) (.tmp 106) (.const (.bool false)), none, false⟩,
  ⟨some 108, .move (.tmp 107), none, false⟩,
  ⟨some 109, .fieldAddr 28 (.tmp 2) 15, some (108, true), false⟩,
  ⟨some 110, .load 9 (.tmp 109), some (108, true), false⟩,
  ⟨some 111, .fieldAddr 28 (.tmp 3) 15, some (108, true), false⟩,
  ⟨some 112, .load 9 (.tmp 111), some (108, true), false⟩,
  ⟨some 113, .binOp .eql 9 (.tmp 110) (.tmp 112) 9, some (108, true), false⟩,
  ⟨some 114, .pick (.tmp 108) (.tmp 113) (.const (.bool false)), none, false⟩,
  ⟨some 115, .move (.tmp 114), none, false⟩,
  ⟨some 116, .fieldAddr 28 (.tmp 2) 16, some (115, true), false⟩,
  ⟨some 117, .load 9 (.tmp 116), some (115, true), false⟩,
  ⟨some 118, .fieldAddr 28 (.tmp 3) 16, some (115, true), false⟩,
  ⟨some 119, .load 9 (.tmp 118), some (115, true), false⟩,
  ⟨some 120, .binOp .eql 9 (.tmp 117) (.tmp 119) 9, some (115, true), false⟩,
  ⟨some 121, .pick (.tmp 115) (.tmp 120) (.const (.bool false)), none, false⟩,
  ⟨some 122, .move (.tmp 121), none, false⟩,
  ⟨some 123, .fieldAddr 28 (.tmp 2) 17, some (122, true), false⟩,
  ⟨some 124, .load 3 (.tmp 123), some (122, true), false⟩,
  ⟨some 125, .fieldAddr 28 (.tmp 3) 17, some (122, true), false⟩,
  ⟨some 126, .load 3 (.tmp 125), some (122, true), false⟩,
  ⟨some 127, .binOp .eql 3 (.tmp 124) (.tmp 126) 3, some (122, true), false⟩,
  ⟨some 128, .pick (.tmp 122) (.tmp 127) (.const (.bool false)), none, false⟩,
  ⟨some 129, .move (.tmp 128), none, false⟩,
  ⟨some 130, .fieldAddr 28 (.tmp 2) 18, some (129, true), false⟩,
  ⟨some 131, .load 9 (.tmp 130), some (129, true), false⟩,
  ⟨some 132, .fieldAddr 28 (.tmp 3) 18, some (129, true), false⟩,
  ⟨some 133, .load 9 (.tmp 132), some (129, true), false⟩,
  ⟨some 134, .binOp .eql 9 (.tmp 131) (.tmp 133) 9, some (129, true), false⟩,
  ⟨some 135, .pick (.tmp 129) (.tmp 134) (.const (.bool false)), none, false⟩,
  ⟨some 4, .assign (.tmp 135), none, false⟩])
 .ret))
def fn14 : PFn := ⟨136, [.tmp 4], pc14, false⟩
theorem fnOk14 : FnOk Tryz.prog 14 fn14 := ⟨⟨_, _, [], Tryz.func14, rfl, by kernel_rfl, rfl, rfl, of_decide_eq_true (by kernel_rfl)⟩⟩

def pc108L4 : PC :=
 (.seq (.region [⟨some 45, .binOp .lss 3 (.tmp 44) (.tmp 43) 3, none, false⟩])
 (.seq (.cond (.tmp 45)
  .skip
  (.exit 4))
 (.seq (.block 5 (.seq (.region [⟨some 46, .indexAddr 40 (.tmp 42) (.tmp 44), none, false⟩,
  ⟨some 47, .load 5 (.tmp 46), none, false⟩,
  ⟨some 8, .assign (.tmp 47), none, false⟩])
 (.region [⟨some 48, .move (.tmp 5), none, false⟩,
  ⟨some 49, .binOp .shl 3 (.tmp 48) (.const (.int .u64 8)) 115, none, false⟩,
  ⟨some 50, .move (.tmp 8), none, false⟩,
  ⟨some 51, .convert 5 3 (.tmp 50), none, false⟩,
  ⟨some 52, .binOp .or 3 (.tmp 49) (.tmp 51) 3, none, false⟩,
  ⟨some 5, .assign (.tmp 52), none, false⟩])))
 (.region [⟨some 53, .binOp .add 3 (.tmp 44) (.const (.int .i64 1)) 3, none, false⟩,
  ⟨some 44, .move (.tmp 53), none, false⟩]))))
def pc108 : PC :=
 (.seq (.region [⟨some 2, .assign (.const (.int .i64 0)), none, false⟩,
  ⟨some 3, .assign (.const (.int .i64 0)), none, false⟩,
  ⟨some 4, .assign (.const (.int .i64 0)), none, false⟩])
 (.seq (.seq (.region [⟨some 9, .move (.tmp 0), none, false⟩,
  ⟨some 10, .binOp .eql 9 (.tmp 9) (.const (.string ⟨#[]⟩)) 9, none, false⟩])
 (.cond (.tmp 10)
  (.seq (.region [⟨some 2, .assign (.const (.int .i64 0)), none, false⟩,
   ⟨some 3, .assign (.const (.int .i64 0)), none, false⟩,
   ⟨some 4, .assign (.const (.int .i64 10)), none, false⟩])
  .ret)
  .skip))
 (.seq (.seq (.region [⟨some 11, .move (.tmp 0), none, false⟩,
  ⟨some 12, .index 9 (.tmp 11) (.const (.int .i64 0)), none, false⟩,
  ⟨some 13, .binOp .and 5 (.tmp 12) (.const (.int .u8 31)) 5, none, false⟩,
  ⟨some 14, .binOp .eql 5 (.tmp 13) (.const (.int .u8 31)) 5, none, false⟩])
 (.cond (.tmp 14)
  (.seq (.region [⟨some 2, .assign (.const (.int .i64 0)), none, false⟩,
   ⟨some 3, .assign (.const (.int .i64 0)), none, false⟩,
   ⟨some 4, .assign (.const (.int .i64 14)), none, false⟩])
  .ret)
  .skip))
 (.seq (.seq (.region [⟨some 15, .move (.tmp 0), none, false⟩,
  ⟨some 16, .call ⟨.builtin .len, #[.tmp 15], #[9]⟩, none, false⟩,
  ⟨some 17, .binOp .eql 3 (.tmp 16) (.const (.int .i64 1)) 3, none, false⟩])
 (.cond (.tmp 17)
  (.seq (.region [⟨some 2, .assign (.const (.int .i64 0)), none, false⟩,
   ⟨some 3, .assign (.const (.int .i64 0)), none, false⟩,
   ⟨some 4, .assign (.const (.int .i64 10)), none, false⟩])
  .ret)
  .skip))
 (.seq (.region [⟨some 18, .move (.tmp 0), none, false⟩,
  ⟨some 19, .index 9 (.tmp 18) (.const (.int .i64 1)), none, false⟩,
  ⟨some 20, .convert 5 3 (.tmp 19), none, false⟩,
  ⟨some 5, .assign (.tmp 20), none, false⟩])
 (.seq (.region [⟨some 6, .assign (.const (.int .i64 0)), none, false⟩])
 (.seq (.block 0 (.seq (.block 3 (.seq (.block 2 (.seq (.block 1 (.seq (.seq (.seq (.region [⟨some 22, .move (.tmp 5), none, false⟩,
  ⟨some 23, .binOp .eql 3 (.tmp 22) (.const (.int .i64 128)) 3, none, false⟩,
  ⟨some 24, .move (.tmp 23), none, false⟩,
  ⟨some 25, .move (.tmp 5), some (24, false), false⟩,
  ⟨some 26, .binOp .gtr 3 (.tmp 25) (.const (.int .i64 132)) 3, some (24, false), false⟩,
  ⟨some 27, .pick (.tmp 24) (.const (.bool true)) (.tmp 26), none, false⟩,
  ⟨some 21, .assign (.tmp 27), none, false⟩])
 (.cond (.tmp 21)
  (.exit 1)
  .skip))
 (.seq (.region [⟨some 29, .move (.tmp 5), none, false⟩,
  ⟨some 30, .binOp .gtr 3 (.tmp 29) (.const (.int .i64 128)) 3, none, false⟩,
  ⟨some 28, .assign (.tmp 30), none, false⟩])
 (.cond (.tmp 28)
  (.exit 2)
  .skip)))
 (.exit 3)))
 (.seq (.seq (.region [⟨some 2, .assign (.const (.int .i64 0)), none, false⟩,
  ⟨some 3, .assign (.const (.int .i64 0)), none, false⟩,
  ⟨some 4, .assign (.const (.int .i64 11)), none, false⟩])
 .ret)
 (.exit 0))))
 (.seq (.region [⟨some 31, .move (.tmp 5), none, false⟩,
  ⟨some 32, .binOp .sub 3 (.tmp 31) (.const (.int .i64 128)) 3, none, false⟩,
  ⟨some 6, .assign (.tmp 32), none, false⟩])
 (.seq (.seq (.region [⟨some 33, .move (.tmp 0), none, false⟩,
  ⟨some 34, .call ⟨.builtin .len, #[.tmp 33], #[9]⟩, none, false⟩,
  ⟨some 35, .move (.tmp 6), none, false⟩,
  ⟨some 36, .binOp .add 3 (.const (.int .i64 2)) (.tmp 35) 3, none, false⟩,
  ⟨some 37, .binOp .lss 3 (.tmp 34) (.tmp 36) 3, none, false⟩])
 (.cond (.tmp 37)
  (.seq (.region [⟨some 2, .assign (.const (.int .i64 0)), none, false⟩,
   ⟨some 3, .assign (.const (.int .i64 0)), none, false⟩,
   ⟨some 4, .assign (.const (.int .i64 10)), none, false⟩])
  .ret)
  .skip))
 (.seq (.region [⟨some 5, .assign (.const (.int .i64 0)), none, false⟩])
 (.seq (.region [⟨some 38, .move (.tmp 0), none, false⟩,
  ⟨some 39, .move (.tmp 6), none, false⟩,
  ⟨some 40, .binOp .add 3 (.const (.int .i64 2)) (.tmp 39) 3, none, false⟩,
  ⟨some 41, .slice 9 (.tmp 38) (some (.const (.int .i64 2))) (some (.tmp 40)) none, none, false⟩,
  ⟨some 42, .convert 9 40 (.tmp 41), none, false⟩,
  ⟨some 43, .call ⟨.builtin .len, #[.tmp 42], #[40]⟩, none, false⟩,
  ⟨some 44, .move (.const (.int .i64 0)), none, false⟩])
 (.block 4 (.loop pc108L4))))))))
 (.seq (.seq (.region [⟨some 54, .move (.tmp 5), none, false⟩,
  ⟨some 55, .binOp .gtr 3 (.tmp 54) (.const (.int .i64 4000)) 3, none, false⟩])
 (.cond (.tmp 55)
  (.seq (.region [⟨some 2, .assign (.const (.int .i64 0)), none, false⟩,
   ⟨some 3, .assign (.const (.int .i64 0)), none, false⟩,
   ⟨some 4, .assign (.const (.int .i64 13)), none, false⟩])
  .ret)
  .skip))
 (.exit 0))))
 (.seq (.region [⟨some 56, .move (.tmp 6), none, false⟩,
  ⟨some 57, .binOp .add 3 (.const (.int .i64 2)) (.tmp 56) 3, none, false⟩,
  ⟨some 58, .move (.tmp 5), none, false⟩,
  ⟨some 2, .assign (.tmp 57), none, false⟩,
  ⟨some 3, .assign (.tmp 58), none, false⟩,
  ⟨some 4, .assign (.const (.int .i64 0)), none, false⟩])
 .ret))))))))
def fn108 : PFn := ⟨59, [.tmp 2, .tmp 3, .tmp 4], pc108, false⟩
theorem fnOk108 : FnOk Tryz.prog 108 fn108 := ⟨⟨_, _, [], Tryz.func108, rfl, by kernel_rfl, rfl, rfl, of_decide_eq_true (by kernel_rfl)⟩⟩

def pc93L0 : PC :=
 (.seq (.seq (.region [⟨some 89, .move (.tmp 16), none, false⟩,
  ⟨some 90, .move (.tmp 14), none, false⟩,
  ⟨some 91, .move (.tmp 12), none, false⟩,
  ⟨some 92, .binOp .add 3 (.tmp 90) (.tmp 91) 3, none, false⟩,
  ⟨some 93, .binOp .lss 3 (.tmp 89) (.tmp 92) 3, none, false⟩])
 (.cond (.tmp 93)
  .skip
  (.exit 0)))
 (.block 1 (.seq (.region [⟨some 95, .move (.tmp 0), none, false⟩,
  ⟨some 96, .move (.tmp 16), none, false⟩,
  ⟨some 97, .move (.tmp 14), none, false⟩,
  ⟨some 98, .move (.tmp 12), none, false⟩,
  ⟨some 99, .binOp .add 3 (.tmp 97) (.tmp 98) 3, none, false⟩,
  ⟨some 100, .move (.tmp 3), none, false⟩,
  ⟨some 101, .binOp .add 3 (.tmp 100) (.const (.int .i64 1)) 3, none, false⟩,
  ⟨some 102, .call ⟨.value (.func 93), #[.tmp 95, .tmp 96, .tmp 99, .tmp 101], #[120, 3, 3, 3]⟩, none, false⟩,
  ⟨some 94, .move (.tmp 102), none, false⟩,
  ⟨some 103, .extract (.tmp 94) 0, none, false⟩,
  ⟨some 104, .extract (.tmp 94) 1, none, false⟩,
  ⟨some 105, .extract (.tmp 94) 2, none, false⟩,
  ⟨some 17, .alloc 50, none, false⟩,
  ⟨none, .store 50 (.tmp 17) (.tmp 103), none, false⟩,
  ⟨some 18, .assign (.tmp 104), none, false⟩,
  ⟨some 19, .assign (.tmp 105), none, false⟩])
 (.seq (.seq (.region [⟨some 106, .move (.tmp 19), none, false⟩,
  ⟨some 107, .binOp .neq 31 (.tmp 106) (.const (.int .i64 0)) 31, none, false⟩])
 (.cond (.tmp 107)
  (.seq (.region [⟨some 108, .build 50 #[], none, false⟩,
   ⟨some 109, .move (.tmp 19), none, false⟩,
   ⟨none, .store 50 (.tmp 8) (.tmp 108), none, false⟩,
   ⟨some 9, .assign (.const (.int .i64 0)), none, false⟩,
   ⟨some 10, .assign (.tmp 109), none, false⟩])
  .ret)
  .skip))
 (.seq (.region [⟨some 110, .fieldAddr 50 (.tmp 15) 2, none, false⟩,
  ⟨some 111, .load 48 (.tmp 110), none, false⟩,
  ⟨some 112, .load 50 (.tmp 17), none, false⟩,
  ⟨some 113, .buildSlice 48 1 #[(0, .tmp 112)], none, false⟩,
  ⟨some 114, .call ⟨.builtin .append, #[.tmp 111, .tmp 113], #[48, 48]⟩, none, false⟩,
  ⟨some 115, .fieldAddr 50 (.tmp 15) 2, none, false⟩,
  ⟨none, .store 48 (.tmp 115) (.tmp 114), none, false⟩])
 (.region [⟨some 116, .move (.tmp 18), none, false⟩,
  ⟨some 16, .assign (.tmp 116), none, false⟩]))))))
def pc93 : PC :=
 (.seq (.region [⟨some 8, .alloc 50, none, false⟩,
  ⟨some 9, .assign (.const (.int .i64 0)), none, false⟩,
  ⟨some 10, .assign (.const (.int .i64 0)), none, false⟩])
 (.seq (.region [⟨some 20, .move (.tmp 0), none, false⟩,
  ⟨some 21, .move (.tmp 1), none, false⟩,
  ⟨some 22, .nilCheck (.tmp 20), none, false⟩,
  ⟨some 23, .fieldAddr 122 (.tmp 22) 1, none, false⟩,
  ⟨none, .store 3 (.tmp 23) (.tmp 21), none, false⟩])
 (.seq (.seq (.region [⟨some 24, .move (.tmp 3), none, false⟩,
  ⟨some 25, .binOp .gtr 3 (.tmp 24) (.const (.int .i64 20)) 3, none, false⟩])
 (.cond (.tmp 25)
  (.seq (.region [⟨some 26, .build 50 #[], none, false⟩,
   ⟨none, .store 50 (.tmp 8) (.tmp 26), none, false⟩,
   ⟨some 9, .assign (.const (.int .i64 0)), none, false⟩,
   ⟨some 10, .assign (.const (.int .i64 12)), none, false⟩])
  .ret)
  .skip))
 (.seq (.region [⟨some 28, .move (.tmp 0), none, false⟩,
  ⟨some 29, .nilCheck (.tmp 28), none, false⟩,
  ⟨some 30, .fieldAddr 122 (.tmp 29) 0, none, false⟩,
  ⟨some 31, .load 9 (.tmp 30), none, false⟩,
  ⟨some 32, .move (.tmp 1), none, false⟩,
  ⟨some 33, .move (.tmp 2), none, false⟩,
  ⟨some 34, .slice 9 (.tmp 31) (some (.tmp 32)) (some (.tmp 33)) none, none, false⟩,
  ⟨some 35, .call ⟨.value (.func 108), #[.tmp 34], #[9]⟩, none, false⟩,
  ⟨some 27, .move (.tmp 35), none, false⟩,
  ⟨some 36, .extract (.tmp 27) 0, none, false⟩,
  ⟨some 37, .extract (.tmp 27) 1, none, false⟩,
  ⟨some 38, .extract (.tmp 27) 2, none, false⟩,
  ⟨some 11, .assign (.tmp 36), none, false⟩,
  ⟨some 12, .assign (.tmp 37), none, false⟩,
  ⟨some 13, .assign (.tmp 38), none, false⟩])
 (.seq (.seq (.region [⟨some 39, .move (.tmp 13), none, false⟩,
  ⟨some 40, .binOp .eql 31 (.tmp 39) (.const (.int .i64 0)) 31, none, false⟩,
  ⟨some 41, .move (.tmp 40), none, false⟩,
  ⟨some 42, .move (.tmp 12), some (41, true), false⟩,
  ⟨some 43, .move (.tmp 2), some (41, true), false⟩,
  ⟨some 44, .move (.tmp 1), some (41, true), false⟩,
  ⟨some 45, .binOp .sub 3 (.tmp 43) (.tmp 44) 3, some (41, true), false⟩,
  ⟨some 46, .move (.tmp 11), some (41, true), false⟩,
  ⟨some 47, .binOp .sub 3 (.tmp 45) (.tmp 46) 3, some (41, true), false⟩,
  ⟨some 48, .binOp .gtr 3 (.tmp 42) (.tmp 47) 3, some (41, true), false⟩,
  ⟨some 49, .pick (.tmp 41) (.tmp 48) (.const (.bool false)), none, false⟩])
 (.cond (.tmp 49)
  (.region [⟨some 13, .assign (.const (.int .i64 10)), none, false⟩])
  .skip))
 (.seq (.seq (.region [⟨some 50, .move (.tmp 13), none, false⟩,
  ⟨some 51, .binOp .eql 31 (.tmp 50) (.const (.int .i64 10)) 31, none, false⟩,
  ⟨some 52, .move (.tmp 51), none, false⟩,
  ⟨some 53, .move (.tmp 3), some (52, true), false⟩,
  ⟨some 54, .binOp .gtr 3 (.tmp 53) (.const (.int .i64 1)) 3, some (52, true), false⟩,
  ⟨some 55, .pick (.tmp 52) (.tmp 54) (.const (.bool false)), none, false⟩])
 (.cond (.tmp 55)
  (.region [⟨some 13, .assign (.const (.int .i64 11)), none, false⟩])
  .skip))
 (.seq (.seq (.region [⟨some 56, .move (.tmp 13), none, false⟩,
  ⟨some 57, .binOp .neq 31 (.tmp 56) (.const (.int .i64 0)) 31, none, false⟩])
 (.cond (.tmp 57)
  (.seq (.region [⟨some 58, .build 50 #[], none, false⟩,
   ⟨some 59, .move (.tmp 13), none, false⟩,
   ⟨none, .store 50 (.tmp 8) (.tmp 58), none, false⟩,
   ⟨some 9, .assign (.const (.int .i64 0)), none, false⟩,
   ⟨some 10, .assign (.tmp 59), none, false⟩])
  .ret)
  .skip))
 (.seq (.region [⟨some 60, .move (.tmp 1), none, false⟩,
  ⟨some 61, .move (.tmp 11), none, false⟩,
  ⟨some 62, .binOp .add 3 (.tmp 60) (.tmp 61) 3, none, false⟩,
  ⟨some 14, .assign (.tmp 62), none, false⟩])
 (.seq (.region [⟨some 63, .move (.tmp 0), none, false⟩,
  ⟨some 64, .nilCheck (.tmp 63), none, false⟩,
  ⟨some 65, .fieldAddr 122 (.tmp 64) 0, none, false⟩,
  ⟨some 66, .load 9 (.tmp 65), none, false⟩,
  ⟨some 67, .move (.tmp 1), none, false⟩,
  ⟨some 68, .index 9 (.tmp 66) (.tmp 67), none, false⟩,
  ⟨some 69, .build 50 #[(0, .tmp 68)], none, false⟩,
  ⟨some 15, .alloc 50, none, false⟩,
  ⟨none, .store 50 (.tmp 15) (.tmp 69), none, false⟩])
 (.seq (.seq (.region [⟨some 70, .fieldAddr 50 (.tmp 15) 0, none, false⟩,
  ⟨some 71, .load 5 (.tmp 70), none, false⟩,
  ⟨some 72, .binOp .and 5 (.tmp 71) (.const (.int .u8 32)) 5, none, false⟩,
  ⟨some 73, .binOp .eql 5 (.tmp 72) (.const (.int .u8 0)) 5, none, false⟩])
 (.cond (.tmp 73)
  (.seq (.region [⟨some 74, .move (.tmp 0), none, false⟩,
   ⟨some 75, .nilCheck (.tmp 74), none, false⟩,
   ⟨some 76, .fieldAddr 122 (.tmp 75) 0, none, false⟩,
   ⟨some 77, .load 9 (.tmp 76), none, false⟩,
   ⟨some 78, .move (.tmp 14), none, false⟩,
   ⟨some 79, .move (.tmp 14), none, false⟩,
   ⟨some 80, .move (.tmp 12), none, false⟩,
   ⟨some 81, .binOp .add 3 (.tmp 79) (.tmp 80) 3, none, false⟩,
   ⟨some 82, .slice 9 (.tmp 77) (some (.tmp 78)) (some (.tmp 81)) none, none, false⟩,
   ⟨some 83, .fieldAddr 50 (.tmp 15) 1, none, false⟩,
   ⟨none, .store 9 (.tmp 83) (.tmp 82), none, false⟩])
  (.seq (.region [⟨some 84, .load 50 (.tmp 15), none, false⟩,
   ⟨some 85, .move (.tmp 14), none, false⟩,
   ⟨some 86, .move (.tmp 12), none, false⟩,
   ⟨some 87, .binOp .add 3 (.tmp 85) (.tmp 86) 3, none, false⟩,
   ⟨none, .store 50 (.tmp 8) (.tmp 84), none, false⟩,
   ⟨some 9, .assign (.tmp 87), none, false⟩,
   ⟨some 10, .assign (.const (.int .i64 0)), none, false⟩])
  .ret))
  .skip))
 (.seq (.seq (.region [⟨some 88, .move (.tmp 14), none, false⟩,
  ⟨some 16, .assign (.tmp 88), none, false⟩])
 (.block 0 (.loop pc93L0)))
 (.seq (.region [⟨some 117, .load 50 (.tmp 15), none, false⟩,
  ⟨some 118, .move (.tmp 14), none, false⟩,
  ⟨some 119, .move (.tmp 12), none, false⟩,
  ⟨some 120, .binOp .add 3 (.tmp 118) (.tmp 119) 3, none, false⟩,
  ⟨none, .store 50 (.tmp 8) (.tmp 117), none, false⟩,
  ⟨some 9, .assign (.tmp 120), none, false⟩,
  ⟨some 10, .assign (.const (.int .i64 0)), none, false⟩])
 .ret))))))))))))
def fn93 : PFn := ⟨121, [.cell 8 50, .tmp 9, .tmp 10], pc93, false⟩
theorem fnOk93 : FnOk Tryz.prog 93 fn93 := ⟨⟨_, _, [], Tryz.func93, rfl, by kernel_rfl, rfl, rfl, of_decide_eq_true (by kernel_rfl)⟩⟩

def pc72 : PC :=
 (.seq (.region [⟨some 2, .alloc 50, none, false⟩,
  ⟨some 3, .assign (.const (.int .i64 0)), none, false⟩,
  ⟨some 4, .assign (.const (.int .i64 0)), none, false⟩,
  ⟨some 5, .assign (.const (.int .i64 0)), none, false⟩])
 (.seq (.region [⟨some 10, .move (.tmp 0), none, false⟩,
  ⟨some 11, .build 122 #[(0, .tmp 10)], none, false⟩,
  ⟨some 12, .box 122 (.tmp 11), none, false⟩,
  ⟨some 6, .assign (.tmp 12), none, false⟩])
 (.seq (.region [⟨some 14, .move (.tmp 6), none, false⟩,
  ⟨some 15, .move (.tmp 0), none, false⟩,
  ⟨some 16, .call ⟨.builtin .len, #[.tmp 15], #[9]⟩, none, false⟩,
  ⟨some 17, .call ⟨.value (.func 93), #[.tmp 14, .const (.int .i64 0), .tmp 16, .const (.int .i64 1)], #[120, 3, 3, 3]⟩, none, false⟩,
  ⟨some 13, .move (.tmp 17), none, false⟩,
  ⟨some 18, .extract (.tmp 13) 0, none, false⟩,
  ⟨some 19, .extract (.tmp 13) 1, none, false⟩,
  ⟨some 20, .extract (.tmp 13) 2, none, false⟩,
  ⟨some 7, .alloc 50, none, false⟩,
  ⟨none, .store 50 (.tmp 7) (.tmp 18), none, false⟩,
  ⟨some 8, .assign (.tmp 19), none, false⟩,
  ⟨some 9, .assign (.tmp 20), none, false⟩])
 (.seq (.seq (.region [⟨some 21, .move (.tmp 9), none, false⟩,
  ⟨some 22, .binOp .neq 31 (.tmp 21) (.const (.int .i64 0)) 31, none, false⟩])
 (.cond (.tmp 22)
  (.seq (.drawC [⟨some 23, .build 50 #[], none, false⟩,
   ⟨some 24, .move (.tmp 6), none, false⟩,
   ⟨some 25, .nilCheck (.tmp 24), none, false⟩,
   ⟨some 26, .fieldAddr 122 (.tmp 25) 1, none, false⟩,
   ⟨some 27, .load 3 (.tmp 26), none, false⟩,
   ⟨some 28, .move (.tmp 9), none, false⟩,
   ⟨none, .store 50 (.tmp 2) (.tmp 23), none, false⟩,
   ⟨some 3, .assign (.const (.int .i64 0)), none, false⟩,
   ⟨some 4, .assign (.tmp 27), none, false⟩]
   [⟨some 5, .assign (.tmp 28), none, false⟩])
  .ret)
  .skip))
 (.seq (.region [⟨some 29, .load 50 (.tmp 7), none, false⟩,
  ⟨some 30, .move (.tmp 8), none, false⟩,
  ⟨none, .store 50 (.tmp 2) (.tmp 29), none, false⟩,
  ⟨some 3, .assign (.tmp 30), none, false⟩,
  ⟨some 4, .assign (.const (.int .i64 0)), none, false⟩,
  ⟨some 5, .assign (.const (.int .i64 0)), none, false⟩])
 .ret)))))
def fn72 : PFn := ⟨31, [.cell 2 50, .tmp 3, .tmp 4, .tmp 5], pc72, false⟩
theorem fnOk72 : FnOk Tryz.prog 72 fn72 := ⟨⟨_, _, [4], Tryz.func72, rfl, by kernel_rfl, rfl, rfl, of_decide_eq_true (by kernel_rfl)⟩⟩

def pc94 : PC :=
 (.seq (.region [⟨some 2, .box 50 (.tmp 0), none, false⟩,
  ⟨some 4, .alloc 50, none, false⟩])
 (.seq (.seq (.region [⟨some 5, .move (.tmp 1), none, false⟩,
  ⟨some 6, .fieldAddr 50 (.tmp 2) 2, none, false⟩,
  ⟨some 7, .load 48 (.tmp 6), none, false⟩,
  ⟨some 8, .call ⟨.builtin .len, #[.tmp 7], #[48]⟩, none, false⟩,
  ⟨some 9, .binOp .geq 3 (.tmp 5) (.tmp 8) 3, none, false⟩])
 (.cond (.tmp 9)
  (.seq (.region [⟨some 10, .build 50 #[], none, false⟩,
   ⟨none, .store 50 (.tmp 4) (.tmp 10), none, false⟩])
  .ret)
  .skip))
 (.seq (.region [⟨some 11, .fieldAddr 50 (.tmp 2) 2, none, false⟩,
  ⟨some 12, .load 48 (.tmp 11), none, false⟩,
  ⟨some 13, .move (.tmp 1), none, false⟩,
  ⟨some 14, .indexAddr 48 (.tmp 12) (.tmp 13), none, false⟩,
  ⟨some 15, .load 50 (.tmp 14), none, false⟩,
  ⟨none, .store 50 (.tmp 4) (.tmp 15), none, false⟩])
 .ret)))
def fn94 : PFn := ⟨16, [.cell 4 50], pc94, false⟩
theorem fnOk94 : FnOk Tryz.prog 94 fn94 := ⟨⟨_, _, [], Tryz.func94, rfl, by kernel_rfl, rfl, rfl, of_decide_eq_true (by kernel_rfl)⟩⟩

def pc109L4 : PC :=
 (.seq (.region [⟨some 24, .binOp .lss 3 (.tmp 23) (.tmp 22) 3, none, false⟩])
 (.seq (.cond (.tmp 24)
  .skip
  (.exit 4))
 (.seq (.block 5 (.seq (.region [⟨some 25, .indexAddr 40 (.tmp 21) (.tmp 23), none, false⟩,
  ⟨some 26, .load 5 (.tmp 25), none, false⟩,
  ⟨some 6, .assign (.tmp 26), none, false⟩])
 (.region [⟨some 27, .move (.tmp 4), none, false⟩,
  ⟨some 28, .binOp .shl 2 (.tmp 27) (.const (.int .u64 8)) 115, none, false⟩,
  ⟨some 29, .move (.tmp 6), none, false⟩,
  ⟨some 30, .convert 5 2 (.tmp 29), none, false⟩,
  ⟨some 31, .binOp .or 2 (.tmp 28) (.tmp 30) 2, none, false⟩,
  ⟨some 4, .assign (.tmp 31), none, false⟩])))
 (.region [⟨some 32, .binOp .add 3 (.tmp 23) (.const (.int .i64 1)) 3, none, false⟩,
  ⟨some 23, .move (.tmp 32), none, false⟩]))))
def pc109 : PC :=
 (.seq (.region [⟨some 2, .assign (.const (.int .i64 0)), none, false⟩,
  ⟨some 3, .assign (.const (.bool false)), none, false⟩])
 (.seq (.region [⟨some 4, .assign (.const (.int .i64 0)), none, false⟩])
 (.seq (.block 0 (.seq (.block 3 (.seq (.block 2 (.seq (.block 1 (.seq (.seq (.seq (.region [⟨some 8, .move (.tmp 0), none, false⟩,
  ⟨some 9, .binOp .eql 9 (.tmp 8) (.const (.string ⟨#[]⟩)) 9, none, false⟩,
  ⟨some 10, .move (.tmp 9), none, false⟩,
  ⟨some 11, .move (.tmp 0), some (10, false), false⟩,
  ⟨some 12, .call ⟨.builtin .len, #[.tmp 11], #[9]⟩, some (10, false), false⟩,
  ⟨some 13, .binOp .gtr 3 (.tmp 12) (.const (.int .i64 8)) 3, some (10, false), false⟩,
  ⟨some 14, .pick (.tmp 10) (.const (.bool true)) (.tmp 13), none, false⟩,
  ⟨some 7, .assign (.tmp 14), none, false⟩])
 (.cond (.tmp 7)
  (.exit 1)
  .skip))
 (.seq (.region [⟨some 16, .move (.tmp 0), none, false⟩,
  ⟨some 17, .index 9 (.tmp 16) (.const (.int .i64 0)), none, false⟩,
  ⟨some 18, .binOp .and 5 (.tmp 17) (.const (.int .u8 128)) 5, none, false⟩,
  ⟨some 19, .binOp .neq 5 (.tmp 18) (.const (.int .u8 0)) 5, none, false⟩,
  ⟨some 15, .assign (.tmp 19), none, false⟩])
 (.cond (.tmp 15)
  (.exit 2)
  .skip)))
 (.exit 3)))
 (.seq (.seq (.region [⟨some 2, .assign (.const (.int .i64 0)), none, false⟩,
  ⟨some 3, .assign (.const (.bool false)), none, false⟩])
 .ret)
 (.exit 0))))
 (.region [⟨some 4, .assign (.const (.int .i64 (-1))), none, false⟩])))
 (.seq (.seq (.region [⟨some 20, .move (.tmp 0), none, false⟩,
  ⟨some 21, .convert 9 40 (.tmp 20), none, false⟩,
  ⟨some 22, .call ⟨.builtin .len, #[.tmp 21], #[40]⟩, none, false⟩,
  ⟨some 23, .move (.const (.int .i64 0)), none, false⟩])
 (.block 4 (.loop pc109L4)))
 (.exit 0))))
 (.seq (.seq (.region [⟨some 33, .move (.tmp 4), none, false⟩,
  ⟨some 34, .call ⟨.value (.func 51), #[.tmp 33], #[2]⟩, none, false⟩,
  ⟨some 35, .move (.tmp 0), none, false⟩,
  ⟨some 36, .binOp .neq 9 (.tmp 34) (.tmp 35) 9, none, false⟩])
 (.cond (.tmp 36)
  (.seq (.region [⟨some 2, .assign (.const (.int .i64 0)), none, false⟩,
   ⟨some 3, .assign (.const (.bool false)), none, false⟩])
  .ret)
  .skip))
 (.seq (.region [⟨some 37, .move (.tmp 4), none, false⟩,
  ⟨some 2, .assign (.tmp 37), none, false⟩,
  ⟨some 3, .assign (.const (.bool true)), none, false⟩])
 .ret)))))
def fn109 : PFn := ⟨38, [.tmp 2, .tmp 3], pc109, false⟩
theorem fnOk109 : FnOk Tryz.prog 109 fn109 := ⟨⟨_, _, [], Tryz.func109, rfl, by kernel_rfl, rfl, rfl, of_decide_eq_true (by kernel_rfl)⟩⟩

def pc95 : PC :=
 (.seq (.region [⟨some 1, .box 50 (.tmp 0), none, false⟩,
  ⟨some 2, .assign (.const (.int .i64 0)), none, false⟩])
 (.seq (.region [⟨some 6, .fieldAddr 50 (.tmp 1) 1, none, false⟩,
  ⟨some 7, .load 9 (.tmp 6), none, false⟩,
  ⟨some 8, .call ⟨.value (.func 109), #[.tmp 7], #[9]⟩, none, false⟩,
  ⟨some 5, .move (.tmp 8), none, false⟩,
  ⟨some 9, .extract (.tmp 5) 0, none, false⟩,
  ⟨some 10, .extract (.tmp 5) 1, none, false⟩,
  ⟨some 3, .assign (.tmp 9), none, false⟩,
  ⟨some 4, .assign (.tmp 10), none, false⟩])
 (.seq (.seq (.region [⟨some 11, .move (.tmp 4), none, false⟩,
  ⟨some 12, .unOp .not 4 (.tmp 11), none, false⟩,
  ⟨some 13, .move (.tmp 12), none, false⟩,
  ⟨some 14, .move (.tmp 3), some (13, false), false⟩,
  ⟨some 15, .binOp .lss 2 (.tmp 14) (.const (.int .i64 0)) 2, some (13, false), false⟩,
  ⟨some 16, .pick (.tmp 13) (.const (.bool true)) (.tmp 15), none, false⟩,
  ⟨some 17, .move (.tmp 16), none, false⟩,
  ⟨some 18, .move (.tmp 3), some (17, false), false⟩,
  ⟨some 19, .binOp .gtr 2 (.tmp 18) (.const (.int .i64 2147483647)) 2, some (17, false), false⟩,
  ⟨some 20, .pick (.tmp 17) (.const (.bool true)) (.tmp 19), none, false⟩])
 (.cond (.tmp 20)
  (.seq (.region [⟨some 2, .assign (.const (.int .i64 (-1))), none, false⟩])
  .ret)
  .skip))
 (.seq (.region [⟨some 21, .move (.tmp 3), none, false⟩,
  ⟨some 2, .assign (.tmp 21), none, false⟩])
 .ret))))
def fn95 : PFn := ⟨22, [.tmp 2], pc95, false⟩
theorem fnOk95 : FnOk Tryz.prog 95 fn95 := ⟨⟨_, _, [], Tryz.func95, rfl, by kernel_rfl, rfl, rfl, of_decide_eq_true (by kernel_rfl)⟩⟩

def pc96L0 : PC :=
 (.seq (.seq (.region [⟨some 6, .move (.tmp 4), none, false⟩,
  ⟨some 7, .binOp .leq 3 (.tmp 6) (.const (.int .i64 10)) 3, none, false⟩])
 (.cond (.tmp 7)
  .skip
  (.exit 0)))
 (.seq (.block 1 (.seq (.region [⟨some 10, .move (.tmp 4), none, false⟩,
  ⟨some 11, .binOp .neq 3 (.tmp 10) (.const (.int .i64 9)) 3, none, false⟩,
  ⟨some 12, .move (.tmp 11), none, false⟩,
  ⟨some 13, .move (.tmp 4), some (12, true), false⟩,
  ⟨some 14, .call ⟨.value (.func 18), #[.tmp 13, .const (.int .i64 0)], #[3, 3]⟩, some (12, true), false⟩,
  ⟨some 15, .move (.tmp 0), some (12, true), false⟩,
  ⟨some 16, .binOp .eql 5 (.tmp 14) (.tmp 15) 5, some (12, true), false⟩,
  ⟨some 17, .pick (.tmp 12) (.tmp 16) (.const (.bool false)), none, false⟩])
 (.cond (.tmp 17)
  (.seq (.region [⟨some 18, .move (.tmp 4), none, false⟩,
   ⟨some 2, .assign (.tmp 18), none, false⟩,
   ⟨some 3, .assign (.const (.int .i64 0)), none, false⟩])
  .ret)
  .skip)))
 (.region [⟨some 8, .move (.tmp 4), none, false⟩,
  ⟨some 9, .binOp .add 3 (.tmp 8) (.const (.int .i64 1)) 3, none, false⟩,
  ⟨some 4, .assign (.tmp 9), none, false⟩])))
def pc96L2 : PC :=
 (.seq (.seq (.region [⟨some 19, .move (.tmp 5), none, false⟩,
  ⟨some 20, .binOp .leq 3 (.tmp 19) (.const (.int .i64 8)) 3, none, false⟩])
 (.cond (.tmp 20)
  .skip
  (.exit 2)))
 (.seq (.block 3 (.seq (.region [⟨some 23, .move (.tmp 5), none, false⟩,
  ⟨some 24, .call ⟨.value (.func 18), #[.const (.int .i64 9), .tmp 23], #[3, 3]⟩, none, false⟩,
  ⟨some 25, .move (.tmp 0), none, false⟩,
  ⟨some 26, .binOp .eql 5 (.tmp 24) (.tmp 25) 5, none, false⟩])
 (.cond (.tmp 26)
  (.seq (.region [⟨some 27, .move (.tmp 5), none, false⟩,
   ⟨some 2, .assign (.const (.int .i64 9)), none, false⟩,
   ⟨some 3, .assign (.tmp 27), none, false⟩])
  .ret)
  .skip)))
 (.region [⟨some 21, .move (.tmp 5), none, false⟩,
  ⟨some 22, .binOp .add 3 (.tmp 21) (.const (.int .i64 1)) 3, none, false⟩,
  ⟨some 5, .assign (.tmp 22), none, false⟩])))
def pc96 : PC :=
 (.seq (.region [⟨some 2, .assign (.const (.int .i64 0)), none, false⟩,
  ⟨some 3, .assign (.const (.int .i64 0)), none, false⟩])
 (.seq (.seq (.region [⟨some 4, .assign (.const (.int .i64 1)), none, false⟩])
 (.block 0 (.loop pc96L0)))
 (.seq (.seq (.region [⟨some 5, .assign (.const (.int .i64 1)), none, false⟩])
 (.block 2 (.loop pc96L2)))
 (.seq (.region [⟨some 2, .assign (.const (.int .i64 0)), none, false⟩,
  ⟨some 3, .assign (.const (.int .i64 0)), none, false⟩])
 .ret))))
def fn96 : PFn := ⟨28, [.tmp 2, .tmp 3], pc96, false⟩
theorem fnOk96 : FnOk Tryz.prog 96 fn96 := ⟨⟨_, _, [], Tryz.func96, rfl, by kernel_rfl, rfl, rfl, of_decide_eq_true (by kernel_rfl)⟩⟩

def pc97L0 : PC :=
 (.seq (.region [⟨some 10, .binOp .lss 3 (.tmp 9) (.tmp 8) 3, none, false⟩])
 (.seq (.cond (.tmp 10)
  .skip
  (.exit 0))
 (.seq (.block 1 (.seq (.region [⟨some 11, .indexAddr 48 (.tmp 7) (.tmp 9), none, false⟩,
  ⟨some 12, .load 50 (.tmp 11), none, false⟩,
  ⟨some 5, .alloc 50, none, false⟩,
  ⟨none, .store 50 (.tmp 5) (.tmp 12), none, false⟩])
 (.region [⟨some 13, .move (.tmp 3), none, false⟩,
  ⟨some 14, .fieldAddr 50 (.tmp 5) 1, none, false⟩,
  ⟨some 15, .load 9 (.tmp 14), none, false⟩,
  ⟨some 16, .buildSlice 22 1 #[(0, .tmp 15)], none, false⟩,
  ⟨some 17, .call ⟨.builtin .append, #[.tmp 13, .tmp 16], #[22, 22]⟩, none, false⟩,
  ⟨some 3, .assign (.tmp 17), none, false⟩])))
 (.region [⟨some 18, .binOp .add 3 (.tmp 9) (.const (.int .i64 1)) 3, none, false⟩,
  ⟨some 9, .move (.tmp 18), none, false⟩]))))
def pc97 : PC :=
 (.seq (.region [⟨some 1, .box 50 (.tmp 0), none, false⟩,
  ⟨some 2, .assign (.const (.slice none 0 0)), none, false⟩])
 (.seq (.region [⟨some 3, .assign (.const (.slice none 0 0)), none, false⟩])
 (.seq (.seq (.region [⟨some 6, .fieldAddr 50 (.tmp 1) 2, none, false⟩,
  ⟨some 7, .load 48 (.tmp 6), none, false⟩,
  ⟨some 8, .call ⟨.builtin .len, #[.tmp 7], #[48]⟩, none, false⟩,
  ⟨some 9, .move (.const (.int .i64 0)), none, false⟩])
 (.block 0 (.loop pc97L0)))
 (.seq (.region [⟨some 19, .move (.tmp 3), none, false⟩,
  ⟨some 2, .assign (.tmp 19), none, false⟩])
 .ret))))
def fn97 : PFn := ⟨20, [.tmp 2], pc97, false⟩
theorem fnOk97 : FnOk Tryz.prog 97 fn97 := ⟨⟨_, _, [], Tryz.func97, rfl, by kernel_rfl, rfl, rfl, of_decide_eq_true (by kernel_rfl)⟩⟩

def pc110L0 : PC :=
 (.seq (.region [⟨some 12, .binOp .lss 3 (.tmp 11) (.tmp 10) 3, none, false⟩])
 (.seq (.cond (.tmp 12)
  .skip
  (.exit 0))
 (.seq (.block 1 (.seq (.region [⟨some 13, .move (.tmp 11), none, false⟩,
  ⟨some 14, .indexAddr 48 (.tmp 9) (.tmp 11), none, false⟩,
  ⟨some 15, .load 50 (.tmp 14), none, false⟩,
  ⟨some 6, .alloc 50, none, false⟩,
  ⟨some 5, .assign (.tmp 13), none, false⟩,
  ⟨none, .store 50 (.tmp 6) (.tmp 15), none, false⟩])
 (.block 2 (.seq (.region [⟨some 22, .fieldAddr 50 (.tmp 6) 0, none, false⟩,
  ⟨some 23, .load 5 (.tmp 22), none, false⟩,
  ⟨some 24, .binOp .eql 5 (.tmp 23) (.const (.int .u8 128)) 5, none, false⟩,
  ⟨some 25, .move (.tmp 24), none, false⟩,
  ⟨some 26, .move (.tmp 5), some (25, true), false⟩,
  ⟨some 27, .binOp .eql 3 (.tmp 26) (.const (.int .i64 0)) 3, some (25, true), false⟩,
  ⟨some 28, .pick (.tmp 25) (.tmp 27) (.const (.bool false)), none, false⟩,
  ⟨some 21, .assign (.tmp 28), none, false⟩])
 (.cond (.tmp 21)
  (.region [⟨some 29, .move (.tmp 3), none, false⟩,
   ⟨some 30, .fieldAddr 50 (.tmp 6) 1, none, false⟩,
   ⟨some 31, .load 9 (.tmp 30), none, false⟩,
   ⟨some 32, .indexAddr 22 (.tmp 29) (.const (.int .i64 0)), none, false⟩,
   ⟨none, .store 9 (.tmp 32) (.tmp 31), none, false⟩])
  (.seq (.region [⟨some 34, .fieldAddr 50 (.tmp 6) 0, none, false⟩,
   ⟨some 35, .load 5 (.tmp 34), none, false⟩,
   ⟨some 36, .binOp .eql 5 (.tmp 35) (.const (.int .u8 130)) 5, none, false⟩,
   ⟨some 33, .assign (.tmp 36), none, false⟩])
  (.cond (.tmp 33)
   (.region [⟨some 37, .fieldAddr 50 (.tmp 6) 1, none, false⟩,
    ⟨some 38, .load 9 (.tmp 37), none, false⟩,
    ⟨some 4, .assign (.tmp 38), none, false⟩])
   (.region [⟨some 16, .move (.tmp 3), none, false⟩,
    ⟨some 17, .fieldAddr 50 (.tmp 6) 1, none, false⟩,
    ⟨some 18, .load 9 (.tmp 17), none, false⟩,
    ⟨some 19, .buildSlice 22 1 #[(0, .tmp 18)], none, false⟩,
    ⟨some 20, .call ⟨.builtin .append, #[.tmp 16, .tmp 19], #[22, 22]⟩, none, true⟩,
    ⟨some 3, .assign (.tmp 20), none, false⟩]))))))))
 (.region [⟨some 39, .binOp .add 3 (.tmp 11) (.const (.int .i64 1)) 3, none, false⟩,
  ⟨some 11, .move (.tmp 39), none, false⟩]))))
def pc110 : PC :=
 (.seq (.region [⟨some 1, .box 50 (.tmp 0), none, false⟩,
  ⟨some 2, .assign (.const (.slice none 0 0)), none, false⟩])
 (.seq (.region [⟨some 7, .buildSlice 22 1 #[(0, .const (.string ⟨#[]⟩))], none, true⟩,
  ⟨some 3, .assign (.tmp 7), none, false⟩])
 (.seq (.region [⟨some 4, .assign (.const (.string ⟨#[]⟩)), none, false⟩])
 (.seq (.seq (.region [⟨some 8, .fieldAddr 50 (.tmp 1) 2, none, false⟩,
  ⟨some 9, .load 48 (.tmp 8), none, false⟩,
  ⟨some 10, .call ⟨.builtin .len, #[.tmp 9], #[48]⟩, none, false⟩,
  ⟨some 11, .move (.const (.int .i64 0)), none, false⟩])
 (.block 0 (.loop pc110L0)))
 (.seq (.region [⟨some 40, .move (.tmp 3), none, false⟩,
  ⟨some 41, .move (.tmp 4), none, false⟩,
  ⟨some 42, .buildSlice 22 1 #[(0, .tmp 41)], none, false⟩,
  ⟨some 43, .call ⟨.builtin .append, #[.tmp 40, .tmp 42], #[22, 22]⟩, none, true⟩,
  ⟨some 2, .assign (.tmp 43), none, false⟩])
 .ret)))))
def fn110 : PFn := ⟨44, [.tmp 2], pc110, false⟩
theorem fnOk110 : FnOk Tryz.prog 110 fn110 := ⟨⟨_, _, [1000007, 1000020, 1000043], Tryz.func110, rfl, by kernel_rfl, rfl, rfl, of_decide_eq_true (by kernel_rfl)⟩⟩

def pc98L1 : PC :=
 (.seq (.region [⟨some 54, .binOp .lss 3 (.tmp 53) (.tmp 52) 3, none, false⟩])
 (.seq (.cond (.tmp 54)
  .skip
  (.exit 1))
 (.seq (.block 2 (.seq (.region [⟨some 55, .indexAddr 48 (.tmp 51) (.tmp 53), none, false⟩,
  ⟨some 56, .load 50 (.tmp 55), none, false⟩,
  ⟨some 8, .alloc 50, none, false⟩,
  ⟨none, .store 50 (.tmp 8) (.tmp 56), none, false⟩])
 (.draw [⟨some 57, .fieldAddr 25 (.tmp 5) 4, none, false⟩,
  ⟨some 58, .load 23 (.tmp 57), none, false⟩,
  ⟨some 59, .load 50 (.tmp 8), none, false⟩,
  ⟨some 60, .move (.tmp 1), none, false⟩,
  ⟨some 61, .binOp .sub 3 (.tmp 60) (.const (.int .i64 1)) 3, none, false⟩,
  ⟨some 62, .call ⟨.value (.func 98), #[.tmp 59, .tmp 61], #[50, 3]⟩, none, false⟩,
  ⟨some 63, .buildSlice 23 1 #[(0, .tmp 62)], none, false⟩]
  [⟨some 64, .call ⟨.builtin .append, #[.tmp 58, .tmp 63], #[23, 23]⟩, none, false⟩,
  ⟨some 65, .fieldAddr 25 (.tmp 5) 4, none, false⟩,
  ⟨none, .store 23 (.tmp 65) (.tmp 64), none, false⟩])))
 (.region [⟨some 66, .binOp .add 3 (.tmp 53) (.const (.int .i64 1)) 3, none, false⟩,
  ⟨some 53, .move (.tmp 66), none, false⟩]))))
def pc98 : PC :=
 (.seq (.region [⟨some 2, .box 50 (.tmp 0), none, false⟩,
  ⟨some 4, .alloc 25, none, false⟩])
 (.seq (.region [⟨some 9, .build 25 #[], none, false⟩,
  ⟨some 5, .alloc 25, none, false⟩,
  ⟨none, .store 25 (.tmp 5) (.tmp 9), none, false⟩])
 (.seq (.region [⟨some 10, .build 156 #[(0, .const (.int .i64 1)), (1, .const (.int .i64 2)), (2, .const (.int .i64 3)), (3, .const (.int .i64 4)), (4, .const (.int .i64 8)), (5, .const (.int .i64 5)), (6, .const (.int .i64 6)), (7, .const (.int .i64 0))], none, false⟩,
  ⟨some 6, .alloc 156, none, false⟩,
  ⟨none, .store 156 (.tmp 6) (.tmp 10), none, false⟩])
 (.seq (.seq (.region [⟨some 11, .fieldAddr 50 (.tmp 2) 0, none, false⟩,
  ⟨some 12, .load 5 (.tmp 11), none, false⟩,
  ⟨some 13, .binOp .eql 5 (.tmp 12) (.const (.int .u8 135)) 5, none, false⟩])
 (.cond (.tmp 13)
  (.seq (.region [⟨some 14, .fieldAddr 50 (.tmp 2) 1, none, false⟩,
   ⟨some 15, .load 9 (.tmp 14), none, false⟩,
   ⟨some 16, .build 25 #[(0, .const (.int .i64 7)), (1, .tmp 15)], none, false⟩,
   ⟨none, .store 25 (.tmp 4) (.tmp 16), none, false⟩])
  .ret)
  .skip))
 (.seq (.seq (.region [⟨some 17, .fieldAddr 50 (.tmp 2) 0, none, false⟩,
  ⟨some 18, .load 5 (.tmp 17), none, false⟩,
  ⟨some 19, .binOp .lss 5 (.tmp 18) (.const (.int .u8 160)) 5, none, false⟩,
  ⟨some 20, .move (.tmp 19), none, false⟩,
  ⟨some 21, .fieldAddr 50 (.tmp 2) 0, some (20, false), false⟩,
  ⟨some 22, .load 5 (.tmp 21), some (20, false), false⟩,
  ⟨some 23, .binOp .gtr 5 (.tmp 22) (.const (.int .u8 166)) 5, some (20, false), false⟩,
  ⟨some 24, .pick (.tmp 20) (.const (.bool true)) (.tmp 23), none, false⟩,
  ⟨some 25, .move (.tmp 24), none, false⟩,
  ⟨some 26, .move (.tmp 1), some (25, false), false⟩,
  ⟨some 27, .binOp .eql 3 (.tmp 26) (.const (.int .i64 0)) 3, some (25, false), false⟩,
  ⟨some 28, .pick (.tmp 25) (.const (.bool true)) (.tmp 27), none, false⟩])
 (.cond (.tmp 28)
  (.seq (.region [⟨some 29, .load 25 (.tmp 5), none, false⟩,
   ⟨none, .store 25 (.tmp 4) (.tmp 29), none, false⟩])
  .ret)
  .skip))
 (.seq (.seq (.region [⟨some 30, .fieldAddr 50 (.tmp 2) 0, none, false⟩,
  ⟨some 31, .load 5 (.tmp 30), none, false⟩,
  ⟨some 32, .binOp .sub 5 (.tmp 31) (.const (.int .u8 160)) 5, none, false⟩,
  ⟨some 33, .indexAddr 156 (.tmp 6) (.tmp 32), none, false⟩,
  ⟨some 34, .load 3 (.tmp 33), none, false⟩,
  ⟨some 35, .fieldAddr 25 (.tmp 5) 0, none, false⟩,
  ⟨none, .store 3 (.tmp 35) (.tmp 34), none, false⟩])
 (.seq (.region [⟨some 36, .fieldAddr 25 (.tmp 5) 0, none, false⟩,
  ⟨some 37, .load 3 (.tmp 36), none, false⟩])
 (.block 0 (.seq (.seq (.region [⟨some 47, .binOp .eql 3 (.tmp 37) (.const (.int .i64 1)) 3, none, false⟩,
  ⟨some 46, .assign (.tmp 47), none, false⟩])
 (.cond (.tmp 46)
  .skip
  (.seq (.region [⟨some 48, .binOp .eql 3 (.tmp 37) (.const (.int .i64 2)) 3, none, false⟩,
   ⟨some 46, .assign (.tmp 48), none, false⟩])
  (.cond (.tmp 46)
   .skip
   (.region [⟨some 49, .binOp .eql 3 (.tmp 37) (.const (.int .i64 3)) 3, none, false⟩,
    ⟨some 46, .assign (.tmp 49), none, false⟩])))))
 (.cond (.tmp 46)
  (.seq (.region [⟨some 50, .fieldAddr 50 (.tmp 2) 2, none, false⟩,
   ⟨some 51, .load 48 (.tmp 50), none, false⟩,
   ⟨some 52, .call ⟨.builtin .len, #[.tmp 51], #[48]⟩, none, false⟩,
   ⟨some 53, .move (.const (.int .i64 0)), none, false⟩])
  (.block 1 (.loop pc98L1)))
  (.seq (.region [⟨some 68, .binOp .eql 3 (.tmp 37) (.const (.int .i64 8)) 3, none, false⟩,
   ⟨some 67, .assign (.tmp 68), none, false⟩])
  (.cond (.tmp 67)
   (.draw [⟨some 69, .load 50 (.tmp 2), none, false⟩,
    ⟨some 70, .call ⟨.value (.func 94), #[.tmp 69, .const (.int .i64 0)], #[50, 3]⟩, none, false⟩,
    ⟨some 71, .field 50 (.tmp 70) 1, none, false⟩,
    ⟨some 72, .load 50 (.tmp 2), none, false⟩,
    ⟨some 73, .call ⟨.value (.func 94), #[.tmp 72, .const (.int .i64 1)], #[50, 3]⟩, none, false⟩,
    ⟨some 74, .call ⟨.value (.func 110), #[.tmp 73], #[50]⟩, none, false⟩,
    ⟨some 75, .fieldAddr 25 (.tmp 5) 1, none, false⟩]
    [⟨none, .store 9 (.tmp 75) (.tmp 71), none, false⟩,
    ⟨some 76, .fieldAddr 25 (.tmp 5) 3, none, false⟩,
    ⟨none, .store 22 (.tmp 76) (.tmp 74), none, false⟩])
   (.drawC [⟨some 38, .load 50 (.tmp 2), none, false⟩,
    ⟨some 39, .call ⟨.value (.func 94), #[.tmp 38, .const (.int .i64 0)], #[50, 3]⟩, none, false⟩,
    ⟨some 40, .field 50 (.tmp 39) 1, none, false⟩,
    ⟨some 41, .load 50 (.tmp 2), none, false⟩,
    ⟨some 42, .call ⟨.value (.func 94), #[.tmp 41, .const (.int .i64 1)], #[50, 3]⟩, none, false⟩,
    ⟨some 43, .field 50 (.tmp 42) 1, none, false⟩,
    ⟨some 44, .fieldAddr 25 (.tmp 5) 1, none, false⟩,
    ⟨none, .store 9 (.tmp 44) (.tmp 40), none, false⟩]
    [⟨some 45, .fieldAddr 25 (.tmp 5) 2, none, false⟩,
    ⟨none, .store 9 (.tmp 45) (.tmp 43), none, false⟩]))))))))
 (.seq (.region [⟨some 77, .load 25 (.tmp 5), none, false⟩,
  ⟨none, .store 25 (.tmp 4) (.tmp 77), none, false⟩])
 .ret)))))))
def fn98 : PFn := ⟨78, [.cell 4 25], pc98, false⟩
theorem fnOk98 : FnOk Tryz.prog 98 fn98 := ⟨⟨_, _, [9], Tryz.func98, rfl, by kernel_rfl, rfl, rfl, of_decide_eq_true (by kernel_rfl)⟩⟩

def pc99L0 : PC :=
 (.seq (.region [⟨some 13, .binOp .lss 3 (.tmp 12) (.tmp 11) 3, none, false⟩])
 (.seq (.cond (.tmp 13)
  .skip
  (.exit 0))
 (.seq (.block 1 (.seq (.region [⟨some 14, .indexAddr 48 (.tmp 10) (.tmp 12), none, false⟩,
  ⟨some 15, .load 50 (.tmp 14), none, false⟩,
  ⟨some 7, .alloc 50, none, false⟩,
  ⟨none, .store 50 (.tmp 7) (.tmp 15), none, false⟩])
 (.seq (.region [⟨some 16, .build 45 #[(0, .const (.int .i64 1))], none, false⟩,
  ⟨some 8, .alloc 45, none, false⟩,
  ⟨none, .store 45 (.tmp 8) (.tmp 16), none, false⟩])
 (.seq (.seq (.region [⟨some 17, .move (.tmp 1), none, false⟩])
 (.cond (.tmp 17)
  (.seq (.region [⟨some 18, .load 50 (.tmp 7), none, false⟩,
   ⟨some 19, .call ⟨.value (.func 94), #[.tmp 18, .const (.int .i64 0)], #[50, 3]⟩, none, false⟩,
   ⟨some 20, .call ⟨.value (.func 95), #[.tmp 19], #[50]⟩, none, false⟩,
   ⟨some 21, .binOp .add 3 (.tmp 20) (.const (.int .i64 1)) 3, none, false⟩,
   ⟨some 22, .fieldAddr 45 (.tmp 8) 0, none, false⟩,
   ⟨none, .store 3 (.tmp 22) (.tmp 21), none, false⟩])
  (.region [⟨some 23, .load 50 (.tmp 7), none, false⟩,
   ⟨some 24, .call ⟨.value (.func 94), #[.tmp 23, .const (.int .i64 1)], #[50, 3]⟩, none, false⟩,
   ⟨none, .store 50 (.tmp 7) (.tmp 24), none, false⟩]))
  .skip))
 (.seq (.draw [⟨some 25, .load 50 (.tmp 7), none, false⟩,
  ⟨some 26, .call ⟨.value (.func 94), #[.tmp 25, .const (.int .i64 0)], #[50, 3]⟩, none, false⟩,
  ⟨some 27, .field 50 (.tmp 26) 1, none, false⟩,
  ⟨some 28, .load 50 (.tmp 7), none, false⟩,
  ⟨some 29, .call ⟨.value (.func 94), #[.tmp 28, .const (.int .i64 1)], #[50, 3]⟩, none, false⟩,
  ⟨some 30, .call ⟨.value (.func 97), #[.tmp 29], #[50]⟩, none, false⟩,
  ⟨some 31, .fieldAddr 45 (.tmp 8) 1, none, false⟩]
  [⟨none, .store 9 (.tmp 31) (.tmp 27), none, false⟩,
  ⟨some 32, .fieldAddr 45 (.tmp 8) 2, none, false⟩,
  ⟨none, .store 22 (.tmp 32) (.tmp 30), none, false⟩])
 (.region [⟨some 33, .move (.tmp 5), none, false⟩,
  ⟨some 34, .load 45 (.tmp 8), none, false⟩,
  ⟨some 35, .buildSlice 26 1 #[(0, .tmp 34)], none, false⟩,
  ⟨some 36, .call ⟨.builtin .append, #[.tmp 33, .tmp 35], #[26, 26]⟩, none, false⟩,
  ⟨some 5, .assign (.tmp 36), none, false⟩]))))))
 (.region [⟨some 37, .binOp .add 3 (.tmp 12) (.const (.int .i64 1)) 3, none, false⟩,
  ⟨some 12, .move (.tmp 37), none, false⟩]))))
def pc99 : PC :=
 (.seq (.region [⟨some 2, .box 50 (.tmp 0), none, false⟩,
  ⟨some 4, .assign (.const (.slice none 0 0)), none, false⟩])
 (.seq (.region [⟨some 5, .assign (.const (.slice none 0 0)), none, false⟩])
 (.seq (.seq (.region [⟨some 9, .fieldAddr 50 (.tmp 2) 2, none, false⟩,
  ⟨some 10, .load 48 (.tmp 9), none, false⟩,
  ⟨some 11, .call ⟨.builtin .len, #[.tmp 10], #[48]⟩, none, false⟩,
  ⟨some 12, .move (.const (.int .i64 0)), none, false⟩])
 (.block 0 (.loop pc99L0)))
 (.seq (.region [⟨some 38, .move (.tmp 5), none, false⟩,
  ⟨some 4, .assign (.tmp 38), none, false⟩])
 .ret))))
def fn99 : PFn := ⟨39, [.tmp 4], pc99, false⟩
theorem fnOk99 : FnOk Tryz.prog 99 fn99 := ⟨⟨_, _, [], Tryz.func99, rfl, by kernel_rfl, rfl, rfl, of_decide_eq_true (by kernel_rfl)⟩⟩

def pc100 : PC :=
 (.seq (.region [⟨some 2, .assign (.const (.bool false)), none, false⟩,
  ⟨some 3, .assign (.const (.bool false)), none, false⟩])
 (.seq (.region [⟨some 4, .move (.tmp 0), none, false⟩,
  ⟨some 5, .call ⟨.builtin .len, #[.tmp 4], #[9]⟩, none, false⟩,
  ⟨some 6, .binOp .eql 3 (.tmp 5) (.const (.int .i64 1)) 3, none, false⟩,
  ⟨some 7, .move (.tmp 6), none, false⟩,
  ⟨some 8, .move (.tmp 0), some (7, true), false⟩,
  ⟨some 9, .index 9 (.tmp 8) (.const (.int .i64 0)), some (7, true), false⟩,
  ⟨some 10, .binOp .neq 5 (.tmp 9) (.const (.int .u8 0)) 5, some (7, true), false⟩,
  ⟨some 11, .pick (.tmp 7) (.tmp 10) (.const (.bool false)), none, false⟩,
  ⟨some 12, .move (.tmp 0), none, false⟩,
  ⟨some 13, .call ⟨.builtin .len, #[.tmp 12], #[9]⟩, none, false⟩,
  ⟨some 14, .binOp .eql 3 (.tmp 13) (.const (.int .i64 1)) 3, none, false⟩,
  ⟨some 2, .assign (.tmp 11), none, false⟩,
  ⟨some 3, .assign (.tmp 14), none, false⟩])
 .ret))
def fn100 : PFn := ⟨15, [.tmp 2, .tmp 3], pc100, false⟩
theorem fnOk100 : FnOk Tryz.prog 100 fn100 := ⟨⟨_, _, [], Tryz.func100, rfl, by kernel_rfl, rfl, rfl, of_decide_eq_true (by kernel_rfl)⟩⟩

def pc73 : PC :=
 (.seq (.region [⟨some 1, .box 50 (.tmp 0), none, false⟩,
  ⟨some 2, .alloc 28, none, false⟩])
 (.seq (.region [⟨some 5, .load 50 (.tmp 1), none, false⟩,
  ⟨some 6, .call ⟨.value (.func 94), #[.tmp 5, .const (.int .i64 1)], #[50, 3]⟩, none, false⟩,
  ⟨some 3, .alloc 50, none, false⟩,
  ⟨none, .store 50 (.tmp 3) (.tmp 6), none, false⟩])
 (.seq (.region [⟨some 7, .load 50 (.tmp 1), none, false⟩,
  ⟨some 8, .call ⟨.value (.func 94), #[.tmp 7, .const (.int .i64 0)], #[50, 3]⟩, none, false⟩,
  ⟨some 9, .call ⟨.value (.func 95), #[.tmp 8], #[50]⟩, none, false⟩,
  ⟨some 10, .build 28 #[(0, .tmp 9)], none, false⟩,
  ⟨some 4, .alloc 28, none, false⟩,
  ⟨none, .store 28 (.tmp 4) (.tmp 10), none, false⟩])
 (.seq (.region [⟨some 12, .fieldAddr 50 (.tmp 3) 0, none, false⟩,
  ⟨some 13, .load 5 (.tmp 12), none, false⟩,
  ⟨some 14, .call ⟨.value (.func 96), #[.tmp 13], #[5]⟩, none, false⟩,
  ⟨some 11, .move (.tmp 14), none, false⟩,
  ⟨some 15, .extract (.tmp 11) 0, none, false⟩,
  ⟨some 16, .extract (.tmp 11) 1, none, false⟩,
  ⟨some 17, .fieldAddr 28 (.tmp 4) 1, none, false⟩,
  ⟨none, .store 3 (.tmp 17) (.tmp 15), none, false⟩,
  ⟨some 18, .fieldAddr 28 (.tmp 4) 2, none, false⟩,
  ⟨none, .store 3 (.tmp 18) (.tmp 16), none, false⟩])
 (.seq (.seq (.region [⟨some 19, .fieldAddr 28 (.tmp 4) 1, none, false⟩,
  ⟨some 20, .load 3 (.tmp 19), none, false⟩])
 (.block 0 (.seq (.region [⟨some 22, .binOp .eql 3 (.tmp 20) (.const (.int .i64 1)) 3, none, false⟩,
  ⟨some 21, .assign (.tmp 22), none, false⟩])
 (.cond (.tmp 21)
  (.drawC [⟨some 23, .load 50 (.tmp 3), none, false⟩,
   ⟨some 24, .call ⟨.value (.func 94), #[.tmp 23, .const (.int .i64 0)], #[50, 3]⟩, none, false⟩,
   ⟨some 25, .call ⟨.value (.func 95), #[.tmp 24], #[50]⟩, none, false⟩,
   ⟨some 26, .load 50 (.tmp 3), none, false⟩,
   ⟨some 27, .call ⟨.value (.func 94), #[.tmp 26, .const (.int .i64 1)], #[50, 3]⟩, none, false⟩,
   ⟨some 28, .field 50 (.tmp 27) 1, none, false⟩,
   ⟨some 29, .load 50 (.tmp 3), none, false⟩,
   ⟨some 30, .call ⟨.value (.func 94), #[.tmp 29, .const (.int .i64 2)], #[50, 3]⟩, none, false⟩,
   ⟨some 31, .field 50 (.tmp 30) 1, none, false⟩,
   ⟨some 32, .fieldAddr 28 (.tmp 4) 4, none, false⟩,
   ⟨none, .store 3 (.tmp 32) (.tmp 25), none, false⟩,
   ⟨some 33, .fieldAddr 28 (.tmp 4) 3, none, false⟩,
   ⟨none, .store 9 (.tmp 33) (.tmp 28), none, false⟩]
   [⟨some 34, .fieldAddr 28 (.tmp 4) 5, none, false⟩,
   ⟨none, .store 9 (.tmp 34) (.tmp 31), none, false⟩])
  (.seq (.region [⟨some 36, .binOp .eql 3 (.tmp 20) (.const (.int .i64 3)) 3, none, false⟩,
   ⟨some 35, .assign (.tmp 36), none, false⟩])
  (.cond (.tmp 35)
   (.seq (.draw [⟨some 37, .load 50 (.tmp 3), none, false⟩,
    ⟨some 38, .call ⟨.value (.func 94), #[.tmp 37, .const (.int .i64 0)], #[50, 3]⟩, none, false⟩,
    ⟨some 39, .field 50 (.tmp 38) 1, none, false⟩,
    ⟨some 40, .load 50 (.tmp 3), none, false⟩,
    ⟨some 41, .call ⟨.value (.func 94), #[.tmp 40, .const (.int .i64 1)], #[50, 3]⟩, none, false⟩,
    ⟨some 42, .call ⟨.value (.func 95), #[.tmp 41], #[50]⟩, none, false⟩,
    ⟨some 43, .load 50 (.tmp 3), none, false⟩,
    ⟨some 44, .call ⟨.value (.func 94), #[.tmp 43, .const (.int .i64 3)], #[50, 3]⟩, none, false⟩,
    ⟨some 45, .call ⟨.value (.func 95), #[.tmp 44], #[50]⟩, none, false⟩,
    ⟨some 46, .load 50 (.tmp 3), none, false⟩,
    ⟨some 47, .call ⟨.value (.func 94), #[.tmp 46, .const (.int .i64 7)], #[50, 3]⟩, none, false⟩,
    ⟨some 48, .call ⟨.value (.func 97), #[.tmp 47], #[50]⟩, none, false⟩,
    ⟨some 49, .fieldAddr 28 (.tmp 4) 3, none, false⟩]
    [⟨none, .store 9 (.tmp 49) (.tmp 39), none, false⟩,
    ⟨some 50, .fieldAddr 28 (.tmp 4) 6, none, false⟩,
    ⟨none, .store 3 (.tmp 50) (.tmp 42), none, false⟩,
    ⟨some 51, .fieldAddr 28 (.tmp 4) 7, none, false⟩,
    ⟨none, .store 3 (.tmp 51) (.tmp 45), none, false⟩,
    ⟨some 52, .fieldAddr 28 (.tmp 4) 9, none, false⟩,
    ⟨none, .store 22 (.tmp 52) (.tmp 48), none, false⟩])
   (.region [⟨some 53, .load 50 (.tmp 3), none, false⟩,
    ⟨some 54, .call ⟨.value (.func 94), #[.tmp 53, .const (.int .i64 6)], #[50, 3]⟩, none, false⟩,
    ⟨some 55, .call ⟨.value (.func 98), #[.tmp 54, .const (.int .i64 20)], #[50, 3]⟩, none, false⟩,
    ⟨some 56, .fieldAddr 28 (.tmp 4) 8, none, false⟩,
    ⟨none, .store 25 (.tmp 56) (.tmp 55), none, false⟩]))
   (.seq (.seq (.region [⟨some 58, .binOp .eql 3 (.tmp 20) (.const (.int .i64 4)) 3, none, false⟩,
    ⟨some 57, .assign (.tmp 58), none, false⟩])
   (.cond (.tmp 57)
    .skip
    (.seq (.region [⟨some 59, .binOp .eql 3 (.tmp 20) (.const (.int .i64 5)) 3, none, false⟩,
     ⟨some 57, .assign (.tmp 59), none, false⟩])
    (.cond (.tmp 57)
     .skip
     (.region [⟨some 60, .binOp .eql 3 (.tmp 20) (.const (.int .i64 10)) 3, none, false⟩,
      ⟨some 57, .assign (.tmp 60), none, false⟩])))))
   (.cond (.tmp 57)
    (.draw [⟨some 61, .load 50 (.tmp 3), none, false⟩,
     ⟨some 62, .call ⟨.value (.func 94), #[.tmp 61, .const (.int .i64 0)], #[50, 3]⟩, none, false⟩,
     ⟨some 63, .field 50 (.tmp 62) 1, none, false⟩,
     ⟨some 64, .load 50 (.tmp 3), none, false⟩,
     ⟨some 65, .call ⟨.value (.func 94), #[.tmp 64, .const (.int .i64 1)], #[50, 3]⟩, none, false⟩,
     ⟨some 66, .fieldAddr 28 (.tmp 4) 1, none, false⟩,
     ⟨some 67, .load 3 (.tmp 66), none, false⟩,
     ⟨some 68, .binOp .eql 3 (.tmp 67) (.const (.int .i64 4)) 3, none, false⟩,
     ⟨some 69, .call ⟨.value (.func 99), #[.tmp 65, .tmp 68], #[50, 4]⟩, none, false⟩,
     ⟨some 70, .fieldAddr 28 (.tmp 4) 3, none, false⟩]
     [⟨none, .store 9 (.tmp 70) (.tmp 63), none, false⟩,
     ⟨some 71, .fieldAddr 28 (.tmp 4) 10, none, false⟩,
     ⟨none, .store 26 (.tmp 71) (.tmp 69), none, false⟩])
    (.seq (.region [⟨some 73, .binOp .eql 3 (.tmp 20) (.const (.int .i64 6)) 3, none, false⟩,
     ⟨some 72, .assign (.tmp 73), none, false⟩])
    (.cond (.tmp 72)
     (.region [⟨some 74, .fieldAddr 50 (.tmp 3) 1, none, false⟩,
      ⟨some 75, .load 9 (.tmp 74), none, false⟩,
      ⟨some 76, .fieldAddr 28 (.tmp 4) 3, none, false⟩,
      ⟨none, .store 9 (.tmp 76) (.tmp 75), none, false⟩])
     (.seq (.region [⟨some 78, .binOp .eql 3 (.tmp 20) (.const (.int .i64 7)) 3, none, false⟩,
      ⟨some 77, .assign (.tmp 78), none, false⟩])
     (.cond (.tmp 77)
      (.seq (.drawC [⟨some 79, .load 50 (.tmp 3), none, false⟩,
       ⟨some 80, .call ⟨.value (.func 94), #[.tmp 79, .const (.int .i64 0)], #[50, 3]⟩, none, false⟩,
       ⟨some 81, .field 50 (.tmp 80) 1, none, false⟩,
       ⟨some 82, .load 50 (.tmp 3), none, false⟩,
       ⟨some 83, .call ⟨.value (.func 94), #[.tmp 82, .const (.int .i64 1)], #[50, 3]⟩, none, false⟩,
       ⟨some 84, .field 50 (.tmp 83) 1, none, false⟩,
       ⟨some 85, .fieldAddr 50 (.tmp 3) 2, none, false⟩,
       ⟨some 86, .load 48 (.tmp 85), none, false⟩,
       ⟨some 87, .call ⟨.builtin .len, #[.tmp 86], #[48]⟩, none, false⟩,
       ⟨some 88, .binOp .gtr 3 (.tmp 87) (.const (.int .i64 3)) 3, none, false⟩,
       ⟨some 89, .fieldAddr 28 (.tmp 4) 3, none, false⟩,
       ⟨none, .store 9 (.tmp 89) (.tmp 81), none, false⟩,
       ⟨some 90, .fieldAddr 28 (.tmp 4) 11, none, false⟩,
       ⟨none, .store 9 (.tmp 90) (.tmp 84), none, false⟩]
       [⟨some 91, .fieldAddr 28 (.tmp 4) 13, none, false⟩,
       ⟨none, .store 4 (.tmp 91) (.tmp 88), none, false⟩])
      (.seq (.region [⟨some 93, .load 50 (.tmp 3), none, false⟩,
       ⟨some 94, .call ⟨.value (.func 94), #[.tmp 93, .const (.int .i64 2)], #[50, 3]⟩, none, false⟩,
       ⟨some 95, .field 50 (.tmp 94) 1, none, false⟩,
       ⟨some 96, .call ⟨.value (.func 100), #[.tmp 95], #[9]⟩, none, false⟩,
       ⟨some 92, .move (.tmp 96), none, false⟩,
       ⟨some 97, .extract (.tmp 92) 0, none, false⟩,
       ⟨some 98, .extract (.tmp 92) 1, none, false⟩,
       ⟨some 99, .fieldAddr 28 (.tmp 4) 12, none, false⟩,
       ⟨none, .store 4 (.tmp 99) (.tmp 97), none, false⟩])
      (.region [⟨some 100, .load 50 (.tmp 3), none, false⟩,
       ⟨some 101, .call ⟨.value (.func 94), #[.tmp 100, .const (.int .i64 3)], #[50, 3]⟩, none, false⟩,
       ⟨some 102, .field 50 (.tmp 101) 1, none, false⟩,
       ⟨some 103, .fieldAddr 28 (.tmp 4) 14, none, false⟩,
       ⟨none, .store 9 (.tmp 103) (.tmp 102), none, false⟩])))
      (.seq (.region [⟨some 105, .binOp .eql 3 (.tmp 20) (.const (.int .i64 8)) 3, none, false⟩,
       ⟨some 104, .assign (.tmp 105), none, false⟩])
      (.cond (.tmp 104)
       (.drawC [⟨some 106, .load 50 (.tmp 3), none, false⟩,
        ⟨some 107, .call ⟨.value (.func 94), #[.tmp 106, .const (.int .i64 0)], #[50, 3]⟩, none, false⟩,
        ⟨some 108, .field 50 (.tmp 107) 1, none, false⟩,
        ⟨some 109, .load 50 (.tmp 3), none, false⟩,
        ⟨some 110, .call ⟨.value (.func 94), #[.tmp 109, .const (.int .i64 1)], #[50, 3]⟩, none, false⟩,
        ⟨some 111, .call ⟨.value (.func 94), #[.tmp 110, .const (.int .i64 0)], #[50, 3]⟩, none, false⟩,
        ⟨some 112, .field 50 (.tmp 111) 1, none, false⟩,
        ⟨some 113, .load 50 (.tmp 3), none, false⟩,
        ⟨some 114, .call ⟨.value (.func 94), #[.tmp 113, .const (.int .i64 1)], #[50, 3]⟩, none, false⟩,
        ⟨some 115, .call ⟨.value (.func 94), #[.tmp 114, .const (.int .i64 1)], #[50, 3]⟩, none, false⟩,
        ⟨some 116, .field 50 (.tmp 115) 1, none, false⟩,
        ⟨some 117, .fieldAddr 28 (.tmp 4) 3, none, false⟩,
        ⟨none, .store 9 (.tmp 117) (.tmp 108), none, false⟩,
        ⟨some 118, .fieldAddr 28 (.tmp 4) 15, none, false⟩,
        ⟨none, .store 9 (.tmp 118) (.tmp 112), none, false⟩]
        [⟨some 119, .fieldAddr 28 (.tmp 4) 16, none, false⟩,
        ⟨none, .store 9 (.tmp 119) (.tmp 116), none, false⟩])
       (.seq (.region [⟨some 121, .binOp .eql 3 (.tmp 20) (.const (.int .i64 9)) 3, none, false⟩,
        ⟨some 120, .assign (.tmp 121), none, false⟩])
       (.cond (.tmp 120)
        (.drawC [⟨some 122, .load 50 (.tmp 3), none, false⟩,
         ⟨some 123, .call ⟨.value (.func 94), #[.tmp 122, .const (.int .i64 0)], #[50, 3]⟩, none, false⟩,
         ⟨some 124, .call ⟨.value (.func 95), #[.tmp 123], #[50]⟩, none, false⟩,
         ⟨some 125, .load 50 (.tmp 3), none, false⟩,
         ⟨some 126, .call ⟨.value (.func 94), #[.tmp 125, .const (.int .i64 1)], #[50, 3]⟩, none, false⟩,
         ⟨some 127, .field 50 (.tmp 126) 1, none, false⟩,
         ⟨some 128, .fieldAddr 28 (.tmp 4) 17, none, false⟩,
         ⟨none, .store 3 (.tmp 128) (.tmp 124), none, false⟩]
         [⟨some 129, .fieldAddr 28 (.tmp 4) 18, none, false⟩,
         ⟨none, .store 9 (.tmp 129) (.tmp 127), none, false⟩])
        .skip))))))))))))))))
 (.seq (.region [⟨some 130, .load 28 (.tmp 4), none, false⟩,
  ⟨none, .store 28 (.tmp 2) (.tmp 130), none, false⟩])
 .ret))))))
def fn73 : PFn := ⟨131, [.cell 2 28], pc73, false⟩
theorem fnOk73 : FnOk Tryz.prog 73 fn73 := ⟨⟨_, _, [6, 17, 21, 23], Tryz.func73, rfl, by kernel_rfl, rfl, rfl, of_decide_eq_true (by kernel_rfl)⟩⟩

def pc45 : PC :=
 (.seq (.region [⟨some 2, .alloc 28, none, false⟩,
  ⟨some 3, .assign (.const .nilIface), none, false⟩])
 (.seq (.region [⟨some 12, .move (.tmp 0), none, false⟩,
  ⟨some 13, .call ⟨.value (.func 72), #[.tmp 12], #[9]⟩, none, false⟩,
  ⟨some 11, .move (.tmp 13), none, false⟩,
  ⟨some 14, .extract (.tmp 11) 0, none, false⟩,
  ⟨some 15, .extract (.tmp 11) 1, none, false⟩,
  ⟨some 16, .extract (.tmp 11) 2, none, false⟩,
  ⟨some 17, .extract (.tmp 11) 3, none, false⟩,
  ⟨some 4, .alloc 50, none, false⟩,
  ⟨none, .store 50 (.tmp 4) (.tmp 14), none, false⟩,
  ⟨some 5, .assign (.tmp 15), none, false⟩,
  ⟨some 6, .assign (.tmp 16), none, false⟩,
  ⟨some 7, .assign (.tmp 17), none, false⟩])
 (.seq (.seq (.region [⟨some 18, .move (.tmp 7), none, false⟩,
  ⟨some 19, .binOp .neq 31 (.tmp 18) (.const (.int .i64 0)) 31, none, false⟩])
 (.cond (.tmp 19)
  (.seq (.region [⟨some 20, .build 28 #[], none, false⟩,
   ⟨some 21, .move (.tmp 7), none, false⟩,
   ⟨some 22, .makeInterface 31 (.tmp 21), none, false⟩,
   ⟨some 23, .move (.tmp 6), none, false⟩,
   ⟨some 24, .build 98 #[(0, .tmp 22), (1, .tmp 23)], none, false⟩,
   ⟨some 25, .box 98 (.tmp 24), none, false⟩,
   ⟨some 26, .makeInterface 96 (.tmp 25), none, false⟩,
   ⟨none, .store 28 (.tmp 2) (.tmp 20), none, false⟩,
   ⟨some 3, .assign (.tmp 26), none, false⟩])
  .ret)
  .skip))
 (.seq (.region [⟨some 27, .load 50 (.tmp 4), none, false⟩,
  ⟨some 28, .call ⟨.value (.func 73), #[.tmp 27], #[50]⟩, none, false⟩,
  ⟨some 8, .alloc 28, none, false⟩,
  ⟨none, .store 28 (.tmp 8) (.tmp 28), none, false⟩])
 (.seq (.seq (.region [⟨some 30, .load 28 (.tmp 8), none, false⟩,
  ⟨some 31, .call ⟨.value (.func 9), #[.tmp 30], #[28]⟩, none, false⟩,
  ⟨some 29, .move (.tmp 31), none, false⟩,
  ⟨some 32, .extract (.tmp 29) 0, none, false⟩,
  ⟨some 33, .extract (.tmp 29) 1, none, false⟩,
  ⟨some 9, .assign (.tmp 32), none, false⟩,
  ⟨some 10, .assign (.tmp 33), none, false⟩])
 (.seq (.region [⟨some 34, .move (.tmp 10), none, false⟩,
  ⟨some 35, .binOp .neq 31 (.tmp 34) (.const (.int .i64 0)) 31, none, false⟩,
  ⟨some 36, .move (.tmp 35), none, false⟩,
  ⟨some 37, .move (.tmp 5), some (36, false), false⟩,
  ⟨some 38, .move (.tmp 0), some (36, false), false⟩,
  ⟨some 39, .call ⟨.builtin .len, #[.tmp 38], #[9]⟩, some (36, false), false⟩,
  ⟨some 40, .binOp .neq 3 (.tmp 37) (.tmp 39) 3, some (36, false), false⟩,
  ⟨some 41, .pick (.tmp 36) (.const (.bool true)) (.tmp 40), none, false⟩,
  ⟨some 42, .move (.tmp 41), none, false⟩,
  ⟨some 43, .move (.tmp 9), some (42, false), false⟩,
  ⟨some 44, .move (.tmp 0), some (42, false), false⟩,
  ⟨some 45, .binOp .neq 9 (.tmp 43) (.tmp 44) 9, some (42, false), false⟩,
  ⟨some 46, .pick (.tmp 42) (.const (.bool true)) (.tmp 45), none, false⟩])
 (.cond (.tmp 46)
  (.seq (.region [⟨some 47, .build 28 #[], none, false⟩,
   ⟨some 48, .makeInterface 31 (.const (.int .i64 14)), none, false⟩,
   ⟨some 49, .build 98 #[(0, .tmp 48)], none, false⟩,
   ⟨some 50, .box 98 (.tmp 49), none, false⟩,
   ⟨some 51, .makeInterface 96 (.tmp 50), none, false⟩,
   ⟨none, .store 28 (.tmp 2) (.tmp 47), none, false⟩,
   ⟨some 3, .assign (.tmp 51), none, false⟩])
  .ret)
  .skip)))
 (.seq (.region [⟨some 52, .load 28 (.tmp 8), none, false⟩,
  ⟨none, .store 28 (.tmp 2) (.tmp 52), none, false⟩,
  ⟨some 3, .assign (.const .nilIface), none, false⟩])
 .ret))))))
def fn45 : PFn := ⟨53, [.cell 2 28, .tmp 3], pc45, false⟩
theorem fnOk45 : FnOk Tryz.prog 45 fn45 := ⟨⟨_, _, [], Tryz.func45, rfl, by kernel_rfl, rfl, rfl, of_decide_eq_true (by kernel_rfl)⟩⟩

def pc77L3 : PC :=
 (.seq (.region [⟨some 51, .binOp .lss 3 (.tmp 50) (.tmp 49) 3, none, false⟩])
 (.seq (.cond (.tmp 51)
  .skip
  (.exit 3))
 (.seq (.block 4 (.seq (.region [⟨some 52, .indexAddr 145 (.tmp 48) (.tmp 50), none, false⟩,
  ⟨some 53, .load 73 (.tmp 52), none, false⟩,
  ⟨some 14, .assign (.tmp 53), none, false⟩])
 (.seq (.seq (.region [⟨some 54, .move (.tmp 14), none, false⟩,
  ⟨some 55, .binOp .eql 73 (.tmp 54) (.const .nilIface) 73, none, false⟩])
 (.cond (.tmp 55)
  (.exit 4)
  .skip))
 (.seq (.region [⟨some 56, .move (.tmp 14), none, false⟩,
  ⟨some 57, .move (.tmp 1), none, false⟩,
  ⟨some 58, .load 103 (.tmp 6), none, false⟩,
  ⟨some 59, .move (.tmp 3), none, false⟩,
  ⟨some 60, .call ⟨.value (.func 77), #[.tmp 56, .tmp 57, .tmp 58, .tmp 59], #[73, 20, 103, 106]⟩, none, false⟩])
 (.cond (.tmp 60)
  (.seq (.region [⟨some 8, .assign (.const (.bool true)), none, false⟩])
  .ret)
  .skip)))))
 (.region [⟨some 61, .binOp .add 3 (.tmp 50) (.const (.int .i64 1)) 3, none, false⟩,
  ⟨some 50, .move (.tmp 61), none, false⟩]))))
def pc77L0 : PC :=
 (.block 1 (.seq (.seq (.region [⟨some 16, .move (.tmp 0), none, false⟩,
  ⟨some 17, .call ⟨.value (.func 101), #[.tmp 16], #[20]⟩, none, false⟩,
  ⟨some 18, .move (.tmp 3), none, false⟩,
  ⟨some 19, .call ⟨.invoke (.tmp 17) "AssignableTo", #[.tmp 18], #[106]⟩, none, false⟩])
 (.cond (.tmp 19)
  (.seq (.region [⟨some 20, .load 103 (.tmp 6), none, false⟩,
   ⟨some 21, .call ⟨.value (.func 102), #[.tmp 20], #[103]⟩, none, false⟩,
   ⟨some 22, .move (.tmp 0), none, false⟩,
   ⟨some 23, .call ⟨.value (.func 74), #[.tmp 22], #[20]⟩, none, false⟩,
   ⟨some 24, .call ⟨.value (.func 103), #[.tmp 21, .tmp 23], #[103, 103]⟩, none, false⟩])
  (.seq (.region [⟨some 8, .assign (.const (.bool true)), none, false⟩])
  .ret))
  .skip))
 (.seq (.seq (.region [⟨some 26, .move (.tmp 0), none, false⟩,
  ⟨some 27, .typeAssert (.tmp 26) 73 139 true, none, false⟩,
  ⟨some 25, .move (.tmp 27), none, false⟩,
  ⟨some 28, .extract (.tmp 25) 0, none, false⟩,
  ⟨some 29, .extract (.tmp 25) 1, none, false⟩,
  ⟨some 9, .assign (.tmp 28), none, false⟩,
  ⟨some 10, .assign (.tmp 29), none, false⟩])
 (.seq (.region [⟨some 30, .move (.tmp 10), none, false⟩,
  ⟨some 31, .move (.tmp 30), none, false⟩,
  ⟨some 32, .move (.tmp 9), some (31, true), false⟩,
  ⟨some 33, .move (.tmp 1), some (31, true), false⟩,
  ⟨some 34, .call ⟨.invoke (.tmp 32) "As", #[.tmp 33], #[20]⟩, some (31, true), false⟩,
  ⟨some 35, .pick (.tmp 31) (.tmp 34) (.const (.bool false)), none, false⟩])
 (.cond (.tmp 35)
  (.seq (.region [⟨some 8, .assign (.const (.bool true)), none, false⟩])
  .ret)
  .skip)))
 (.seq (.region [⟨some 36, .move (.tmp 0), none, false⟩])
 (.block 2 (.seq (.region [⟨some 37, .typeAssert (.tmp 36) 73 142 true, none, false⟩,
  ⟨some 38, .extract (.tmp 37) 1, none, false⟩,
  ⟨some 39, .extract (.tmp 37) 0, none, false⟩])
 (.cond (.tmp 38)
  (.seq (.region [⟨some 11, .assign (.tmp 39), none, false⟩])
  (.seq (.region [⟨some 40, .move (.tmp 11), none, false⟩,
   ⟨some 41, .call ⟨.invoke (.tmp 40) "Unwrap", #[], #[]⟩, none, false⟩,
   ⟨some 0, .assign (.tmp 41), none, false⟩])
  (.seq (.region [⟨some 42, .move (.tmp 0), none, false⟩,
   ⟨some 43, .binOp .eql 73 (.tmp 42) (.const .nilIface) 73, none, false⟩])
  (.cond (.tmp 43)
   (.seq (.region [⟨some 8, .assign (.const (.bool false)), none, false⟩])
   .ret)
   .skip))))
  (.seq (.region [⟨some 44, .typeAssert (.tmp 36) 73 144 true, none, false⟩,
   ⟨some 45, .extract (.tmp 44) 1, none, false⟩,
   ⟨some 46, .extract (.tmp 44) 0, none, false⟩])
  (.cond (.tmp 45)
   (.seq (.region [⟨some 12, .assign (.tmp 46), none, false⟩])
   (.seq (.seq (.region [⟨some 47, .move (.tmp 12), none, false⟩,
    ⟨some 48, .call ⟨.invoke (.tmp 47) "Unwrap", #[], #[]⟩, none, false⟩,
    ⟨some 49, .call ⟨.builtin .len, #[.tmp 48], #[145]⟩, none, false⟩,
    ⟨some 50, .move (.const (.int .i64 0)), none, false⟩])
   (.block 3 (.loop pc77L3)))
   (.seq (.region [⟨some 8, .assign (.const (.bool false)), none, false⟩])
   .ret)))
   (.seq (.region [⟨some 15, .assign (.tmp 36), none, false⟩])
   (.seq (.region [⟨some 8, .assign (.const (.bool false)), none, false⟩])
   .ret)))))))))))
def pc77 : PC :=
 (.seq (.region [⟨some 6, .box 103 (.tmp 2), none, false⟩,
  ⟨some 8, .assign (.const (.bool false)), none, false⟩])
 (.block 0 (.loop pc77L0)))
def fn77 : PFn := ⟨62, [.tmp 8], pc77, false⟩
theorem fnOk77 : FnOk Tryz.prog 77 fn77 := ⟨⟨_, _, [], Tryz.func77, rfl, by kernel_rfl, rfl, rfl, of_decide_eq_true (by kernel_rfl)⟩⟩

def pc46 : PC :=
 (.seq (.region [⟨some 4, .assign (.const (.bool false)), none, false⟩])
 (.seq (.seq (.region [⟨some 8, .move (.tmp 0), none, false⟩,
  ⟨some 9, .binOp .eql 73 (.tmp 8) (.const .nilIface) 73, none, false⟩])
 (.cond (.tmp 9)
  (.seq (.region [⟨some 4, .assign (.const (.bool false)), none, false⟩])
  .ret)
  .skip))
 (.seq (.seq (.region [⟨some 10, .move (.tmp 1), none, false⟩,
  ⟨some 11, .binOp .eql 20 (.tmp 10) (.const .nilIface) 20, none, false⟩])
 (.cond (.tmp 11)
  (.region [⟨some 12, .makeInterface 9 (.const (.string ⟨#[101, 114, 114, 111, 114, 115, 58, 32, 116, 97, 114, 103, 101, 116, 32, 99, 97, 110, 110, 111, 116, 32, 98, 101, 32, 110, 105, 108]⟩)), none, false⟩,
   ⟨none, .panic (.tmp 12), none, false⟩])
  .skip))
 (.seq (.region [⟨some 13, .move (.tmp 1), none, false⟩,
  ⟨some 14, .call ⟨.value (.func 74), #[.tmp 13], #[20]⟩, none, false⟩,
  ⟨some 5, .alloc 103, none, false⟩,
  ⟨none, .store 103 (.tmp 5) (.tmp 14), none, false⟩])
 (.seq (.region [⟨some 15, .load 103 (.tmp 5), none, false⟩,
  ⟨some 16, .call ⟨.value (.func 75), #[.tmp 15], #[103]⟩, none, false⟩,
  ⟨some 6, .assign (.tmp 16), none, false⟩])
 (.seq (.seq (.region [⟨some 17, .move (.tmp 6), none, false⟩,
  ⟨some 18, .call ⟨.invoke (.tmp 17) "Kind", #[], #[]⟩, none, false⟩,
  ⟨some 19, .binOp .neq 108 (.tmp 18) (.const (.int .u8 22)) 108, none, false⟩,
  ⟨some 20, .move (.tmp 19), none, false⟩,
  ⟨some 21, .load 103 (.tmp 5), some (20, false), false⟩,
  ⟨some 22, .call ⟨.value (.func 76), #[.tmp 21], #[103]⟩, some (20, false), false⟩,
  ⟨some 23, .pick (.tmp 20) (.const (.bool true)) (.tmp 22), none, false⟩])
 (.cond (.tmp 23)
  (.region [⟨some 24, .makeInterface 9 (.const (.string ⟨#[101, 114, 114, 111, 114, 115, 58, 32, 116, 97, 114, 103, 101, 116, 32, 109, 117, 115, 116, 32, 98, 101, 32, 97, 32, 110, 111, 110, 45, 110, 105, 108, 32, 112, 111, 105, 110, 116, 101, 114]⟩)), none, false⟩,
   ⟨none, .panic (.tmp 24), none, false⟩])
  .skip))
 (.seq (.region [⟨some 25, .move (.tmp 6), none, false⟩,
  ⟨some 26, .call ⟨.invoke (.tmp 25) "Elem", #[], #[]⟩, none, false⟩,
  ⟨some 7, .assign (.tmp 26), none, false⟩])
 (.seq (.seq (.region [⟨some 27, .move (.tmp 7), none, false⟩,
  ⟨some 28, .call ⟨.invoke (.tmp 27) "Kind", #[], #[]⟩, none, false⟩,
  ⟨some 29, .binOp .neq 108 (.tmp 28) (.const (.int .u8 20)) 108, none, false⟩,
  ⟨some 30, .move (.tmp 29), none, false⟩,
  ⟨some 31, .move (.tmp 7), some (30, true), false⟩,
  ⟨some 32, .load 106 (.global 0), some (30, true), false⟩,
  ⟨some 33, .call ⟨.invoke (.tmp 31) "Implements", #[.tmp 32], #[106]⟩, some (30, true), false⟩,
  ⟨some 34, .unOp .not 4 (.tmp 33), some (30, true), false⟩,
  ⟨some 35, .pick (.tmp 30) (.tmp 34) (.const (.bool false)), none, false⟩])
 (.cond (.tmp 35)
  (.region [⟨some 36, .makeInterface 9 (.const (.string ⟨#[101, 114, 114, 111, 114, 115, 58, 32, 42, 116, 97, 114, 103, 101, 116, 32, 109, 117, 115, 116, 32, 98, 101, 32, 105, 110, 116, 101, 114, 102, 97, 99, 101, 32, 111, 114, 32, 105, 109, 112, 108, 101, 109, 101, 110, 116, 32, 101, 114, 114, 111, 114]⟩)), none, false⟩,
   ⟨none, .panic (.tmp 36), none, false⟩])
  .skip))
 (.seq (.region [⟨some 37, .move (.tmp 0), none, false⟩,
  ⟨some 38, .move (.tmp 1), none, false⟩,
  ⟨some 39, .load 103 (.tmp 5), none, false⟩,
  ⟨some 40, .move (.tmp 7), none, false⟩,
  ⟨some 41, .call ⟨.value (.func 77), #[.tmp 37, .tmp 38, .tmp 39, .tmp 40], #[73, 20, 103, 106]⟩, none, false⟩,
  ⟨some 4, .assign (.tmp 41), none, false⟩])
 .ret)))))))))
def fn46 : PFn := ⟨42, [.tmp 4], pc46, false⟩
theorem fnOk46 : FnOk Tryz.prog 46 fn46 := ⟨⟨_, _, [], Tryz.func46, rfl, by kernel_rfl, rfl, rfl, of_decide_eq_true (by kernel_rfl)⟩⟩

def pc15 : PC :=
 (.seq (.region [⟨some 2, .alloc 28, none, false⟩,
  ⟨some 3, .assign (.const (.int .i64 0)), none, false⟩])
 (.seq (.region [⟨some 8, .move (.tmp 0), none, false⟩,
  ⟨some 9, .call ⟨.value (.func 45), #[.tmp 8], #[9]⟩, none, false⟩,
  ⟨some 7, .move (.tmp 9), none, false⟩,
  ⟨some 10, .extract (.tmp 7) 0, none, false⟩,
  ⟨some 11, .extract (.tmp 7) 1, none, false⟩,
  ⟨some 4, .alloc 28, none, false⟩,
  ⟨none, .store 28 (.tmp 4) (.tmp 10), none, false⟩,
  ⟨some 5, .assign (.tmp 11), none, false⟩])
 (.seq (.region [⟨some 6, .alloc 31, none, false⟩])
 (.seq (.seq (.region [⟨some 12, .move (.tmp 5), none, false⟩,
  ⟨some 13, .makeInterface 77 (.tmp 6), none, false⟩,
  ⟨some 14, .call ⟨.value (.func 46), #[.tmp 12, .tmp 13], #[73, 20]⟩, none, false⟩])
 (.cond (.tmp 14)
  (.seq (.drawC [⟨some 15, .build 28 #[], none, false⟩,
   ⟨some 16, .load 31 (.tmp 6), none, false⟩,
   ⟨none, .store 28 (.tmp 2) (.tmp 15), none, false⟩]
   [⟨some 3, .assign (.tmp 16), none, false⟩])
  .ret)
  .skip))
 (.seq (.region [⟨some 17, .load 28 (.tmp 4), none, false⟩,
  ⟨none, .store 28 (.tmp 2) (.tmp 17), none, false⟩,
  ⟨some 3, .assign (.const (.int .i64 0)), none, false⟩])
 .ret)))))
def fn15 : PFn := ⟨18, [.cell 2 28, .tmp 3], pc15, false⟩
theorem fnOk15 : FnOk Tryz.prog 15 fn15 := ⟨⟨_, _, [4], Tryz.func15, rfl, by kernel_rfl, rfl, rfl, of_decide_eq_true (by kernel_rfl)⟩⟩

def pc7 : PC :=
 (.seq (.region [⟨some 0, .assign (.const (.bool false)), none, false⟩])
 (.seq (.region [⟨some 12, .build 28 #[(0, .const (.int .i64 1)), (1, .const (.int .i64 2))], none, false⟩,
  ⟨some 1, .alloc 28, none, false⟩,
  ⟨none, .store 28 (.tmp 1) (.tmp 12), none, false⟩])
 (.seq (.region [⟨some 14, .load 28 (.tmp 1), none, false⟩,
  ⟨some 15, .call ⟨.value (.func 9), #[.tmp 14], #[28]⟩, none, false⟩,
  ⟨some 13, .move (.tmp 15), none, false⟩,
  ⟨some 16, .extract (.tmp 13) 0, none, false⟩,
  ⟨some 17, .extract (.tmp 13) 1, none, false⟩,
  ⟨some 2, .assign (.tmp 16), none, false⟩,
  ⟨some 3, .assign (.tmp 17), none, false⟩])
 (.seq (.region [⟨some 19, .move (.tmp 2), none, false⟩,
  ⟨some 20, .call ⟨.value (.func 15), #[.tmp 19], #[9]⟩, none, false⟩,
  ⟨some 18, .move (.tmp 20), none, false⟩,
  ⟨some 21, .extract (.tmp 18) 0, none, false⟩,
  ⟨some 22, .extract (.tmp 18) 1, none, false⟩,
  ⟨some 4, .alloc 28, none, false⟩,
  ⟨none, .store 28 (.tmp 4) (.tmp 21), none, false⟩,
  ⟨some 5, .assign (.tmp 22), none, false⟩])
 (.seq (.region [⟨some 24, .build 28 #[], none, false⟩,
  ⟨some 25, .call ⟨.value (.func 9), #[.tmp 24], #[28]⟩, none, false⟩,
  ⟨some 23, .move (.tmp 25), none, false⟩,
  ⟨some 26, .extract (.tmp 23) 0, none, false⟩,
  ⟨some 27, .extract (.tmp 23) 1, none, false⟩,
  ⟨some 6, .assign (.tmp 26), none, false⟩,
  ⟨some 7, .assign (.tmp 27), none, false⟩])
 (.seq (.region [⟨some 29, .call ⟨.value (.func 15), #[.const (.string ⟨#[]⟩)], #[9]⟩, none, false⟩,
  ⟨some 28, .move (.tmp 29), none, false⟩,
  ⟨some 30, .extract (.tmp 28) 0, none, false⟩,
  ⟨some 31, .extract (.tmp 28) 1, none, false⟩,
  ⟨some 8, .alloc 28, none, false⟩,
  ⟨none, .store 28 (.tmp 8) (.tmp 30), none, false⟩,
  ⟨some 9, .assign (.tmp 31), none, false⟩])
 (.seq (.region [⟨some 33, .call ⟨.value (.func 15), #[.const (.string ⟨#[4, 0]⟩)], #[9]⟩, none, false⟩,
  ⟨some 32, .move (.tmp 33), none, false⟩,
  ⟨some 34, .extract (.tmp 32) 0, none, false⟩,
  ⟨some 35, .extract (.tmp 32) 1, none, false⟩,
  ⟨some 10, .alloc 28, none, false⟩,
  ⟨none, .store 28 (.tmp 10) (.tmp 34), none, false⟩,
  ⟨some 11, .assign (.tmp 35), none, false⟩])
 (.seq (.region [⟨some 36, .move (.tmp 3), none, false⟩,
  ⟨some 37, .binOp .eql 31 (.tmp 36) (.const (.int .i64 0)) 31, none, false⟩,
  ⟨some 38, .move (.tmp 37), none, false⟩,
  ⟨some 39, .move (.tmp 2), some (38, true), false⟩,
  ⟨some 40, .binOp .eql 9 (.tmp 39) (.const (.string ⟨#[48, 5, 2, 1, 1, 66, 0]⟩)) 9, some (38, true), false⟩,
  ⟨some 41, .pick (.tmp 38) (.tmp 40) (.const (.bool false)), none, false⟩,
  ⟨some 42, .move (.tmp 41), none, false⟩,
  ⟨some 43, .move (.tmp 5), some (42, true), false⟩,
  ⟨some 44, .binOp .eql 31 (.tmp 43) (.const (.int .i64 0)) 31, some (42, true), false⟩,
  ⟨some 45, .pick (.tmp 42) (.tmp 44) (.const (.bool false)), none, false⟩,
  ⟨some 46, .move (.tmp 45), none, false⟩,
  ⟨some 47, .load 28 (.tmp 1), some (46, true), false⟩,
  ⟨some 48, .load 28 (.tmp 4), some (46, true), false⟩,
  ⟨some 49, .call ⟨.value (.func 14), #[.tmp 47, .tmp 48], #[28, 28]⟩, some (46, true), false⟩,
  ⟨some 50, .pick (.tmp 46) (.tmp 49) (.const (.bool false)), none, false⟩,
  ⟨some 51, .move (.tmp 50), none, false⟩,
  ⟨some 52, .move (.tmp 7), some (51, true), false⟩,
  ⟨some 53, .binOp .eql 31 (.tmp 52) (.const (.int .i64 14)) 31, some (51, true), false⟩,
  ⟨some 54, .pick (.tmp 51) (.tmp 53) (.const (.bool false)), none, false⟩,
  ⟨some 55, .move (.tmp 54), none, false⟩,
  ⟨some 56, .move (.tmp 9), some (55, true), false⟩,
  ⟨some 57, .binOp .eql 31 (.tmp 56) (.const (.int .i64 10)) 31, some (55, true), false⟩,
  ⟨some 58, .pick (.tmp 55) (.tmp 57) (.const (.bool false)), none, false⟩,
  ⟨some 59, .move (.tmp 58), none, false⟩,
  ⟨some 60, .move (.tmp 11), some (59, true), false⟩,
  ⟨some 61, .binOp .eql 31 (.tmp 60) (.const (.int .i64 14)) 31, some (59, true), false⟩,
  ⟨some 62, .pick (.tmp 59) (.tmp 61) (.const (.bool false)), none, false⟩,
  ⟨some 63, .move (.tmp 62), none, false⟩,
  ⟨some 64, .load 28 (.tmp 1), some (63, true), false⟩,
  ⟨some 65, .call ⟨.value (.func 11), #[.tmp 64], #[28]⟩, some (63, true), false⟩,
  ⟨some 66, .pick (.tmp 63) (.tmp 65) (.const (.bool false)), none, false⟩,
  ⟨some 67, .move (.tmp 66), none, false⟩,
  ⟨some 68, .load 28 (.tmp 1), some (67, true), false⟩,
  ⟨some 69, .load 28 (.tmp 4), some (67, true), false⟩,
  ⟨some 70, .call ⟨.value (.func 13), #[.tmp 68, .tmp 69], #[28, 28]⟩, some (67, true), false⟩,
  ⟨some 71, .pick (.tmp 67) (.tmp 70) (.const (.bool false)), none, false⟩,
  ⟨some 0, .assign (.tmp 71), none, false⟩])
 .ret))))))))
def fn7 : PFn := ⟨72, [.tmp 0], pc7, false⟩
theorem fnOk7 : FnOk Tryz.prog 7 fn7 := ⟨⟨_, _, [], Tryz.func7, rfl, by kernel_rfl, rfl, rfl, of_decide_eq_true (by kernel_rfl)⟩⟩

def pc17L0 : PC :=
 (.seq (.seq (.region [⟨some 33, .move (.tmp 5), none, false⟩,
  ⟨some 34, .fieldAddr 25 (.tmp 2) 3, none, false⟩,
  ⟨some 35, .load 22 (.tmp 34), none, false⟩,
  ⟨some 36, .call ⟨.builtin .len, #[.tmp 35], #[22]⟩, none, false⟩,
  ⟨some 37, .binOp .lss 3 (.tmp 33) (.tmp 36) 3, none, false⟩])
 (.cond (.tmp 37)
  .skip
  (.exit 0)))
 (.seq (.block 1 (.seq (.region [⟨some 40, .fieldAddr 25 (.tmp 2) 3, none, false⟩,
  ⟨some 41, .load 22 (.tmp 40), none, false⟩,
  ⟨some 42, .move (.tmp 5), none, false⟩,
  ⟨some 43, .indexAddr 22 (.tmp 41) (.tmp 42), none, false⟩,
  ⟨some 44, .load 9 (.tmp 43), none, false⟩,
  ⟨some 45, .call ⟨.builtin .len, #[.tmp 44], #[9]⟩, none, false⟩,
  ⟨some 46, .binOp .gtr 3 (.tmp 45) (.const (.int .i64 80)) 3, none, false⟩])
 (.cond (.tmp 46)
  (.seq (.region [⟨some 4, .assign (.const (.bool false)), none, false⟩])
  .ret)
  .skip)))
 (.region [⟨some 38, .move (.tmp 5), none, false⟩,
  ⟨some 39, .binOp .add 3 (.tmp 38) (.const (.int .i64 1)) 3, none, false⟩,
  ⟨some 5, .assign (.tmp 39), none, false⟩])))
def pc17L2 : PC :=
 (.seq (.seq (.region [⟨some 47, .move (.tmp 6), none, false⟩,
  ⟨some 48, .fieldAddr 25 (.tmp 2) 4, none, false⟩,
  ⟨some 49, .load 23 (.tmp 48), none, false⟩,
  ⟨some 50, .call ⟨.builtin .len, #[.tmp 49], #[23]⟩, none, false⟩,
  ⟨some 51, .binOp .lss 3 (.tmp 47) (.tmp 50) 3, none, false⟩])
 (.cond (.tmp 51)
  .skip
  (.exit 2)))
 (.seq (.block 3 (.seq (.region [⟨some 54, .fieldAddr 25 (.tmp 2) 4, none, false⟩,
  ⟨some 55, .load 23 (.tmp 54), none, false⟩,
  ⟨some 56, .move (.tmp 6), none, false⟩,
  ⟨some 57, .indexAddr 23 (.tmp 55) (.tmp 56), none, false⟩,
  ⟨some 58, .load 25 (.tmp 57), none, false⟩,
  ⟨some 59, .move (.tmp 1), none, false⟩,
  ⟨some 60, .binOp .add 3 (.tmp 59) (.const (.int .i64 1)) 3, none, false⟩,
  ⟨some 61, .call ⟨.value (.func 17), #[.tmp 58, .tmp 60], #[25, 3]⟩, none, false⟩,
  ⟨some 62, .unOp .not 4 (.tmp 61), none, false⟩])
 (.cond (.tmp 62)
  (.seq (.region [⟨some 4, .assign (.const (.bool false)), none, false⟩])
  .ret)
  .skip)))
 (.region [⟨some 52, .move (.tmp 6), none, false⟩,
  ⟨some 53, .binOp .add 3 (.tmp 52) (.const (.int .i64 1)) 3, none, false⟩,
  ⟨some 6, .assign (.tmp 53), none, false⟩])))
def pc17 : PC :=
 (.seq (.region [⟨some 2, .box 25 (.tmp 0), none, false⟩,
  ⟨some 4, .assign (.const (.bool false)), none, false⟩])
 (.seq (.seq (.region [⟨some 7, .move (.tmp 1), none, false⟩,
  ⟨some 8, .binOp .gtr 3 (.tmp 7) (.const (.int .i64 12)) 3, none, false⟩,
  ⟨some 9, .move (.tmp 8), none, false⟩,
  ⟨some 10, .fieldAddr 25 (.tmp 2) 4, some (9, false), false⟩,
  ⟨some 11, .load 23 (.tmp 10), some (9, false), false⟩,
  ⟨some 12, .call ⟨.builtin .len, #[.tmp 11], #[23]⟩, some (9, false), false⟩,
  ⟨some 13, .binOp .gtr 3 (.tmp 12) (.const (.int .i64 8)) 3, some (9, false), false⟩,
  ⟨some 14, .pick (.tmp 9) (.const (.bool true)) (.tmp 13), none, false⟩,
  ⟨some 15, .move (.tmp 14), none, false⟩,
  ⟨some 16, .fieldAddr 25 (.tmp 2) 1, some (15, false), false⟩,
  ⟨some 17, .load 9 (.tmp 16), some (15, false), false⟩,
  ⟨some 18, .call ⟨.builtin .len, #[.tmp 17], #[9]⟩, some (15, false), false⟩,
  ⟨some 19, .binOp .gtr 3 (.tmp 18) (.const (.int .i64 30)) 3, some (15, false), false⟩,
  ⟨some 20, .pick (.tmp 15) (.const (.bool true)) (.tmp 19), none, false⟩,
  ⟨some 21, .move (.tmp 20), none, false⟩,
  ⟨some 22, .fieldAddr 25 (.tmp 2) 2, some (21, false), false⟩,
  ⟨some 23, .load 9 (.tmp 22), some (21, false), false⟩,
  ⟨some 24, .call ⟨.builtin .len, #[.tmp 23], #[9]⟩, some (21, false), false⟩,
  ⟨some 25, .binOp .gtr 3 (.tmp 24) (.const (.int .i64 80)) 3, some (21, false), false⟩,
  ⟨some 26, .pick (.tmp 21) (.const (.bool true)) (.tmp 25), none, false⟩,
  ⟨some 27, .move (.tmp 26), none, false⟩,
  ⟨some 28, .fieldAddr 25 (.tmp 2) 3, some (27, false), false⟩,
  ⟨some 29, .load 22 (.tmp 28), some (27, false), false⟩,
  ⟨some 30, .call ⟨.builtin .len, #[.tmp 29], #[22]⟩, some (27, false), false⟩,
  ⟨some 31, .binOp .gtr 3 (.tmp 30) (.const (.int .i64 24)) 3, some (27, false), false⟩,
  ⟨some 32, .pick (.tmp 27) (.const (.bool true)) (.tmp 31), none, false⟩])
 (.cond (.tmp 32)
  (.seq (.region [⟨some 4, .assign (.const (.bool false)), none, false⟩])
  .ret)
  .skip))
 (.seq (.seq (.region [⟨some 5, .assign (.const (.int .i64 0)), none, false⟩])
 (.block 0 (.loop pc17L0)))
 (.seq (.seq (.region [⟨some 6, .assign (.const (.int .i64 0)), none, false⟩])
 (.block 2 (.loop pc17L2)))
 (.seq (.region [⟨some 4, .assign (.const (.bool true)), none, false⟩])
 .ret)))))
def fn17 : PFn := ⟨63, [.tmp 4], pc17, false⟩
theorem fnOk17 : FnOk Tryz.prog 17 fn17 := ⟨⟨_, _, [], Tryz.func17, rfl, by kernel_rfl, rfl, rfl, of_decide_eq_true (by kernel_rfl)⟩⟩

def pc8L0 : PC :=
 (.seq (.seq (.region [⟨some 52, .move (.tmp 3), none, false⟩,
  ⟨some 53, .fieldAddr 28 (.tmp 1) 9, none, false⟩,
  ⟨some 54, .load 22 (.tmp 53), none, false⟩,
  ⟨some 55, .call ⟨.builtin .len, #[.tmp 54], #[22]⟩, none, false⟩,
  ⟨some 56, .binOp .lss 3 (.tmp 52) (.tmp 55) 3, none, false⟩])
 (.cond (.tmp 56)
  .skip
  (.exit 0)))
 (.seq (.block 1 (.seq (.region [⟨some 59, .fieldAddr 28 (.tmp 1) 9, none, false⟩,
  ⟨some 60, .load 22 (.tmp 59), none, false⟩,
  ⟨some 61, .move (.tmp 3), none, false⟩,
  ⟨some 62, .indexAddr 22 (.tmp 60) (.tmp 61), none, false⟩,
  ⟨some 63, .load 9 (.tmp 62), none, false⟩,
  ⟨some 64, .call ⟨.builtin .len, #[.tmp 63], #[9]⟩, none, false⟩,
  ⟨some 65, .binOp .gtr 3 (.tmp 64) (.const (.int .i64 500)) 3, none, false⟩])
 (.cond (.tmp 65)
  (.seq (.region [⟨some 2, .assign (.const (.bool false)), none, false⟩])
  .ret)
  .skip)))
 (.region [⟨some 57, .move (.tmp 3), none, false⟩,
  ⟨some 58, .binOp .add 3 (.tmp 57) (.const (.int .i64 1)) 3, none, false⟩,
  ⟨some 3, .assign (.tmp 58), none, false⟩])))
def pc8L4 : PC :=
 (.seq (.seq (.region [⟨some 91, .move (.tmp 5), none, false⟩,
  ⟨some 92, .fieldAddr 28 (.tmp 1) 10, none, false⟩,
  ⟨some 93, .load 26 (.tmp 92), none, false⟩,
  ⟨some 94, .move (.tmp 4), none, false⟩,
  ⟨some 95, .indexAddr 26 (.tmp 93) (.tmp 94), none, false⟩,
  ⟨some 96, .fieldAddr 45 (.tmp 95) 2, none, false⟩,
  ⟨some 97, .load 22 (.tmp 96), none, false⟩,
  ⟨some 98, .call ⟨.builtin .len, #[.tmp 97], #[22]⟩, none, false⟩,
  ⟨some 99, .binOp .lss 3 (.tmp 91) (.tmp 98) 3, none, false⟩])
 (.cond (.tmp 99)
  .skip
  (.exit 4)))
 (.seq (.block 5 (.seq (.region [⟨some 102, .fieldAddr 28 (.tmp 1) 10, none, false⟩,
  ⟨some 103, .load 26 (.tmp 102), none, false⟩,
  ⟨some 104, .move (.tmp 4), none, false⟩,
  ⟨some 105, .indexAddr 26 (.tmp 103) (.tmp 104), none, false⟩,
  ⟨some 106, .fieldAddr 45 (.tmp 105) 2, none, false⟩,
  ⟨some 107, .load 22 (.tmp 106), none, false⟩,
  ⟨some 108, .move (.tmp 5), none, false⟩,
  ⟨some 109, .indexAddr 22 (.tmp 107) (.tmp 108), none, false⟩,
  ⟨some 110, .load 9 (.tmp 109), none, false⟩,
  ⟨some 111, .call ⟨.builtin .len, #[.tmp 110], #[9]⟩, none, false⟩,
  ⟨some 112, .binOp .gtr 3 (.tmp 111) (.const (.int .i64 500)) 3, none, false⟩])
 (.cond (.tmp 112)
  (.seq (.region [⟨some 2, .assign (.const (.bool false)), none, false⟩])
  .ret)
  .skip)))
 (.region [⟨some 100, .move (.tmp 5), none, false⟩,
  ⟨some 101, .binOp .add 3 (.tmp 100) (.const (.int .i64 1)) 3, none, false⟩,
  ⟨some 5, .assign (.tmp 101), none, false⟩])))
def pc8L2 : PC :=
 (.seq (.seq (.region [⟨some 66, .move (.tmp 4), none, false⟩,
  ⟨some 67, .fieldAddr 28 (.tmp 1) 10, none, false⟩,
  ⟨some 68, .load 26 (.tmp 67), none, false⟩,
  ⟨some 69, .call ⟨.builtin .len, #[.tmp 68], #[26]⟩, none, false⟩,
  ⟨some 70, .binOp .lss 3 (.tmp 66) (.tmp 69) 3, none, false⟩])
 (.cond (.tmp 70)
  .skip
  (.exit 2)))
 (.seq (.block 3 (.seq (.seq (.region [⟨some 73, .fieldAddr 28 (.tmp 1) 10, none, false⟩,
  ⟨some 74, .load 26 (.tmp 73), none, false⟩,
  ⟨some 75, .move (.tmp 4), none, false⟩,
  ⟨some 76, .indexAddr 26 (.tmp 74) (.tmp 75), none, false⟩,
  ⟨some 77, .fieldAddr 45 (.tmp 76) 1, none, false⟩,
  ⟨some 78, .load 9 (.tmp 77), none, false⟩,
  ⟨some 79, .call ⟨.builtin .len, #[.tmp 78], #[9]⟩, none, false⟩,
  ⟨some 80, .binOp .gtr 3 (.tmp 79) (.const (.int .i64 500)) 3, none, false⟩,
  ⟨some 81, .move (.tmp 80), none, false⟩,
  ⟨some 82, .fieldAddr 28 (.tmp 1) 10, some (81, false), false⟩,
  ⟨some 83, .load 26 (.tmp 82), some (81, false), false⟩,
  ⟨some 84, .move (.tmp 4), some (81, false), false⟩,
  ⟨some 85, .indexAddr 26 (.tmp 83) (.tmp 84), some (81, false), false⟩,
  ⟨some 86, .fieldAddr 45 (.tmp 85) 2, some (81, false), false⟩,
  ⟨some 87, .load 22 (.tmp 86), some (81, false), false⟩,
  ⟨some 88, .call ⟨.builtin .len, #[.tmp 87], #[22]⟩, some (81, false), false⟩,
  ⟨some 89, .binOp .gtr 3 (.tmp 88) (.const (.int .i64 14)) 3, some (81, false), false⟩,
  ⟨some 90, .pick (.tmp 81) (.const (.bool true)) (.tmp 89), none, false⟩])
 (.cond (.tmp 90)
  (.seq (.region [⟨some 2, .assign (.const (.bool false)), none, false⟩])
  .ret)
  .skip))
 (.seq (.region [⟨some 5, .assign (.const (.int .i64 0)), none, false⟩])
 (.block 4 (.loop pc8L4)))))
 (.region [⟨some 71, .move (.tmp 4), none, false⟩,
  ⟨some 72, .binOp .add 3 (.tmp 71) (.const (.int .i64 1)) 3, none, false⟩,
  ⟨some 4, .assign (.tmp 72), none, false⟩])))
def pc8 : PC :=
 (.seq (.region [⟨some 1, .box 28 (.tmp 0), none, false⟩,
  ⟨some 2, .assign (.const (.bool false)), none, false⟩])
 (.seq (.seq (.region [⟨some 6, .fieldAddr 28 (.tmp 1) 3, none, false⟩,
  ⟨some 7, .load 9 (.tmp 6), none, false⟩,
  ⟨some 8, .call ⟨.builtin .len, #[.tmp 7], #[9]⟩, none, false⟩,
  ⟨some 9, .binOp .gtr 3 (.tmp 8) (.const (.int .i64 500)) 3, none, false⟩,
  ⟨some 10, .move (.tmp 9), none, false⟩,
  ⟨some 11, .fieldAddr 28 (.tmp 1) 5, some (10, false), false⟩,
  ⟨some 12, .load 9 (.tmp 11), some (10, false), false⟩,
  ⟨some 13, .call ⟨.builtin .len, #[.tmp 12], #[9]⟩, some (10, false), false⟩,
  ⟨some 14, .binOp .gtr 3 (.tmp 13) (.const (.int .i64 500)) 3, some (10, false), false⟩,
  ⟨some 15, .pick (.tmp 10) (.const (.bool true)) (.tmp 14), none, false⟩,
  ⟨some 16, .move (.tmp 15), none, false⟩,
  ⟨some 17, .fieldAddr 28 (.tmp 1) 11, some (16, false), false⟩,
  ⟨some 18, .load 9 (.tmp 17), some (16, false), false⟩,
  ⟨some 19, .call ⟨.builtin .len, #[.tmp 18], #[9]⟩, some (16, false), false⟩,
  ⟨some 20, .binOp .gtr 3 (.tmp 19) (.const (.int .i64 500)) 3, some (16, false), false⟩,
  ⟨some 21, .pick (.tmp 16) (.const (.bool true)) (.tmp 20), none, false⟩,
  ⟨some 22, .move (.tmp 21), none, false⟩,
  ⟨some 23, .fieldAddr 28 (.tmp 1) 14, some (22, false), false⟩,
  ⟨some 24, .load 9 (.tmp 23), some (22, false), false⟩,
  ⟨some 25, .call ⟨.builtin .len, #[.tmp 24], #[9]⟩, some (22, false), false⟩,
  ⟨some 26, .binOp .gtr 3 (.tmp 25) (.const (.int .i64 500)) 3, some (22, false), false⟩,
  ⟨some 27, .pick (.tmp 22) (.const (.bool true)) (.tmp 26), none, false⟩,
  ⟨some 28, .move (.tmp 27), none, false⟩,
  ⟨some 29, .fieldAddr 28 (.tmp 1) 15, some (28, false), false⟩,
  ⟨some 30, .load 9 (.tmp 29), some (28, false), false⟩,
  ⟨some 31, .call ⟨.builtin .len, #[.tmp 30], #[9]⟩, some (28, false), false⟩,
  ⟨some 32, .binOp .gtr 3 (.tmp 31) (.const (.int .i64 500)) 3, some (28, false), false⟩,
  ⟨some 33, .pick (.tmp 28) (.const (.bool true)) (.tmp 32), none, false⟩,
  ⟨some 34, .move (.tmp 33), none, false⟩,
  ⟨some 35, .fieldAddr 28 (.tmp 1) 16, some (34, false), false⟩,
  ⟨some 36, .load 9 (.tmp 35), some (34, false), false⟩,
  ⟨some 37, .call ⟨.builtin .len, #[.tmp 36], #[9]⟩, some (34, false), false⟩,
  ⟨some 38, .binOp .gtr 3 (.tmp 37) (.const (.int .i64 500)) 3, some (34, false), false⟩,
  ⟨some 39, .pick (.tmp 34) (.const (.bool true)) (.tmp 38), none, false⟩,
  ⟨some 40, .move (.tmp 39), none, false⟩,
  ⟨some 41, .fieldAddr 28 (.tmp 1) 18, some (40, false), false⟩,
  ⟨some 42, .load 9 (.tmp 41), some (40, false), false⟩,
  ⟨some 43, .call ⟨.builtin .len, #[.tmp 42], #[9]⟩, some (40, false), false⟩,
  ⟨some 44, .binOp .gtr 3 (.tmp 43) (.const (.int .i64 500)) 3, some (40, false), false⟩,
  ⟨some 45, .pick (.tmp 40) (.const (.bool true)) (.tmp 44), none, false⟩,
  ⟨some 46, .move (.tmp 45), none, false⟩,
  ⟨some 47, .fieldAddr 28 (.tmp 1) 9, some (46, false), false⟩,
  ⟨some 48, .load 22 (.tmp 47), some (46, false), false⟩,
  ⟨some 49, .call ⟨.builtin .len, #[.tmp 48], #[22]⟩, some (46, false), false⟩,
  ⟨some 50, .binOp .gtr 3 (.tmp 49) (.const (.int .i64 14)) 3, some (46, false), false⟩,
  ⟨some 51, .pick (.tmp 46) (.const (.bool true)) (.tmp 50), none, false⟩])
 (.cond (.tmp 51)
  (.seq (.region [⟨some 2, .assign (.const (.bool false)), none, false⟩])
  .ret)
  .skip))
 (.seq (.seq (.region [⟨some 3, .assign (.const (.int .i64 0)), none, false⟩])
 (.block 0 (.loop pc8L0)))
 (.seq (.seq (.region [⟨some 4, .assign (.const (.int .i64 0)), none, false⟩])
 (.block 2 (.loop pc8L2)))
 (.seq (.region [⟨some 113, .fieldAddr 28 (.tmp 1) 10, none, false⟩,
  ⟨some 114, .load 26 (.tmp 113), none, false⟩,
  ⟨some 115, .call ⟨.builtin .len, #[.tmp 114], #[26]⟩, none, false⟩,
  ⟨some 116, .binOp .leq 3 (.tmp 115) (.const (.int .i64 14)) 3, none, false⟩,
  ⟨some 117, .move (.tmp 116), none, false⟩,
  ⟨some 118, .fieldAddr 28 (.tmp 1) 8, some (117, true), false⟩,
  ⟨some 119, .load 25 (.tmp 118), some (117, true), false⟩,
  ⟨some 120, .call ⟨.value (.func 17), #[.tmp 119, .const (.int .i64 0)], #[25, 3]⟩, some (117, true), false⟩,
  ⟨some 121, .pick (.tmp 117) (.tmp 120) (.const (.bool false)), none, false⟩,
  ⟨some 2, .assign (.tmp 121), none, false⟩])
 .ret)))))
def fn8 : PFn := ⟨122, [.tmp 2], pc8, false⟩
theorem fnOk8 : FnOk Tryz.prog 8 fn8 := ⟨⟨_, _, [], Tryz.func8, rfl, by kernel_rfl, rfl, rfl, of_decide_eq_true (by kernel_rfl)⟩⟩

def pc6 : PC :=
 (.seq (.region [⟨some 2, .box 28 (.tmp 0), none, false⟩,
  ⟨some 4, .assign (.const (.bool false)), none, false⟩])
 (.seq (.seq (.region [⟨some 8, .call ⟨.value (.func 7), #[], #[]⟩, none, false⟩,
  ⟨some 9, .unOp .not 4 (.tmp 8), none, false⟩])
 (.cond (.tmp 9)
  (.seq (.region [⟨some 4, .assign (.const (.bool false)), none, false⟩])
  .ret)
  .skip))
 (.seq (.seq (.region [⟨some 10, .load 28 (.tmp 2), none, false⟩,
  ⟨some 11, .call ⟨.value (.func 8), #[.tmp 10], #[28]⟩, none, false⟩,
  ⟨some 12, .unOp .not 4 (.tmp 11), none, false⟩,
  ⟨some 13, .move (.tmp 12), none, false⟩,
  ⟨some 14, .load 28 (.tmp 2), some (13, false), false⟩,
  ⟨some 15, .call ⟨.value (.func 11), #[.tmp 14], #[28]⟩, some (13, false), false⟩,
  ⟨some 16, .unOp .not 4 (.tmp 15), some (13, false), false⟩,
  ⟨some 17, .pick (.tmp 13) (.const (.bool true)) (.tmp 16), none, false⟩])
 (.cond (.tmp 17)
  (.seq (.region [⟨some 4, .assign (.const (.bool true)), none, false⟩])
  .ret)
  .skip))
 (.seq (.region [⟨some 18, .load 28 (.tmp 2), none, false⟩,
  ⟨some 5, .alloc 28, none, false⟩,
  ⟨none, .store 28 (.tmp 5) (.tmp 18), none, false⟩])
 (.seq (.seq (.region [⟨some 19, .move (.tmp 1), none, false⟩,
  ⟨some 20, .binOp .rem 5 (.tmp 19) (.const (.int .u8 6)) 5, none, false⟩])
 (.block 0 (.seq (.region [⟨some 23, .binOp .eql 5 (.tmp 20) (.const (.int .u8 0)) 5, none, false⟩,
  ⟨some 22, .assign (.tmp 23), none, false⟩])
 (.cond (.tmp 22)
  (.region [⟨some 24, .fieldAddr 28 (.tmp 5) 0, none, false⟩,
   ⟨none, .store 3 (.tmp 24) (.const (.int .i64 (-1))), none, false⟩])
  (.seq (.region [⟨some 26, .binOp .eql 5 (.tmp 20) (.const (.int .u8 1)) 5, none, false⟩,
   ⟨some 25, .assign (.tmp 26), none, false⟩])
  (.cond (.tmp 25)
   (.region [⟨some 27, .fieldAddr 28 (.tmp 5) 1, none, false⟩,
    ⟨none, .store 3 (.tmp 27) (.const (.int .i64 11)), none, false⟩])
   (.seq (.region [⟨some 29, .binOp .eql 5 (.tmp 20) (.const (.int .u8 2)) 5, none, false⟩,
    ⟨some 28, .assign (.tmp 29), none, false⟩])
   (.cond (.tmp 28)
    (.region [⟨some 30, .fieldAddr 28 (.tmp 5) 4, none, false⟩,
     ⟨some 31, .load 3 (.tmp 30), none, false⟩,
     ⟨some 32, .binOp .add 3 (.tmp 31) (.const (.int .i64 128)) 3, none, false⟩,
     ⟨some 33, .fieldAddr 28 (.tmp 5) 4, none, false⟩,
     ⟨none, .store 3 (.tmp 33) (.tmp 32), none, false⟩])
    (.seq (.region [⟨some 35, .binOp .eql 5 (.tmp 20) (.const (.int .u8 3)) 5, none, false⟩,
     ⟨some 34, .assign (.tmp 35), none, false⟩])
    (.cond (.tmp 34)
     (.region [⟨some 36, .fieldAddr 28 (.tmp 5) 6, none, false⟩,
      ⟨none, .store 3 (.tmp 36) (.const (.int .i64 3)), none, false⟩])
     (.seq (.region [⟨some 38, .binOp .eql 5 (.tmp 20) (.const (.int .u8 4)) 5, none, false⟩,
      ⟨some 37, .assign (.tmp 38), none, false⟩])
     (.cond (.tmp 37)
      (.region [⟨some 39, .fieldAddr 28 (.tmp 5) 17, none, false⟩,
       ⟨some 40, .load 3 (.tmp 39), none, false⟩,
       ⟨some 41, .binOp .add 3 (.tmp 40) (.const (.int .i64 128)) 3, none, false⟩,
       ⟨some 42, .fieldAddr 28 (.tmp 5) 17, none, false⟩,
       ⟨none, .store 3 (.tmp 42) (.tmp 41), none, false⟩])
      (.region [⟨some 21, .fieldAddr 28 (.tmp 5) 7, none, false⟩,
       ⟨none, .store 3 (.tmp 21) (.const (.int .i64 (-1))), none, false⟩])))))))))))))
 (.seq (.region [⟨some 44, .load 28 (.tmp 5), none, false⟩,
  ⟨some 45, .call ⟨.value (.func 9), #[.tmp 44], #[28]⟩, none, false⟩,
  ⟨some 43, .move (.tmp 45), none, false⟩,
  ⟨some 46, .extract (.tmp 43) 0, none, false⟩,
  ⟨some 47, .extract (.tmp 43) 1, none, false⟩,
  ⟨some 6, .assign (.tmp 46), none, false⟩,
  ⟨some 7, .assign (.tmp 47), none, false⟩])
 (.seq (.region [⟨some 48, .load 28 (.tmp 5), none, false⟩,
  ⟨some 49, .call ⟨.value (.func 11), #[.tmp 48], #[28]⟩, none, false⟩,
  ⟨some 50, .unOp .not 4 (.tmp 49), none, false⟩,
  ⟨some 51, .move (.tmp 50), none, false⟩,
  ⟨some 52, .move (.tmp 7), some (51, true), false⟩,
  ⟨some 53, .binOp .eql 31 (.tmp 52) (.const (.int .i64 14)) 31, some (51, true), false⟩,
  ⟨some 54, .pick (.tmp 51) (.tmp 53) (.const (.bool false)), none, false⟩,
  ⟨some 55, .move (.tmp 54), none, false⟩,
  ⟨some 56, .load 28 (.tmp 2), some (55, true), false⟩,
  ⟨some 57, .load 28 (.tmp 5), some (55, true), false⟩,
  ⟨some 58, .call ⟨.value (.func 13), #[.tmp 56, .tmp 57], #[28, 28]⟩, some (55, true), false⟩,
  ⟨some 59, .unOp .not 4 (.tmp 58), some (55, true), false⟩,
  ⟨some 60, .pick (.tmp 55) (.tmp 59) (.const (.bool false)), none, false⟩,
  ⟨some 61, .move (.tmp 60), none, false⟩,
  ⟨some 62, .load 28 (.tmp 2), some (61, true), false⟩,
  ⟨some 63, .call ⟨.value (.func 11), #[.tmp 62], #[28]⟩, some (61, true), false⟩,
  ⟨some 64, .pick (.tmp 61) (.tmp 63) (.const (.bool false)), none, false⟩,
  ⟨some 4, .assign (.tmp 64), none, false⟩])
 .ret)))))))
def fn6 : PFn := ⟨65, [.tmp 4], pc6, false⟩
theorem fnOk6 : FnOk Tryz.prog 6 fn6 := ⟨⟨_, _, [], Tryz.func6, rfl, by kernel_rfl, rfl, rfl, of_decide_eq_true (by kernel_rfl)⟩⟩

def pc66 : PC :=
 (.seq (.region [⟨some 2, .assign (.const (.bool false)), none, false⟩])
 (.seq (.region [⟨some 3, .move (.tmp 0), none, false⟩,
  ⟨some 4, .call ⟨.builtin .len, #[.tmp 3], #[9]⟩, none, false⟩,
  ⟨some 5, .binOp .gtr 3 (.tmp 4) (.const (.int .i64 400)) 3, none, false⟩,
  ⟨some 2, .assign (.tmp 5), none, false⟩])
 .ret))
def fn66 : PFn := ⟨6, [.tmp 2], pc66, false⟩
theorem fnOk66 : FnOk Tryz.prog 66 fn66 := ⟨⟨_, _, [], Tryz.func66, rfl, by kernel_rfl, rfl, rfl, of_decide_eq_true (by kernel_rfl)⟩⟩

def pc82 : PC :=
 (.seq (.region [⟨some 1, .box 50 (.tmp 0), none, false⟩,
  ⟨some 2, .assign (.const (.bool false)), none, false⟩])
 (.seq (.region [⟨some 3, .load 50 (.tmp 1), none, false⟩,
  ⟨some 4, .call ⟨.value (.func 53), #[.tmp 3], #[50]⟩, none, false⟩,
  ⟨some 5, .unOp .not 4 (.tmp 4), none, false⟩,
  ⟨some 2, .assign (.tmp 5), none, false⟩])
 .ret))
def fn82 : PFn := ⟨6, [.tmp 2], pc82, false⟩
theorem fnOk82 : FnOk Tryz.prog 82 fn82 := ⟨⟨_, _, [], Tryz.func82, rfl, by kernel_rfl, rfl, rfl, of_decide_eq_true (by kernel_rfl)⟩⟩

def pc88 : PC :=
 (.seq (.region [⟨some 1, .box 25 (.tmp 0), none, false⟩,
  ⟨some 2, .assign (.const (.bool false)), none, false⟩])
 (.seq (.region [⟨some 3, .load 25 (.tmp 1), none, false⟩,
  ⟨some 4, .call ⟨.value (.func 68), #[.tmp 3], #[25]⟩, none, false⟩,
  ⟨some 5, .unOp .not 4 (.tmp 4), none, false⟩,
  ⟨some 2, .assign (.tmp 5), none, false⟩])
 .ret))
def fn88 : PFn := ⟨6, [.tmp 2], pc88, false⟩
theorem fnOk88 : FnOk Tryz.prog 88 fn88 := ⟨⟨_, _, [], Tryz.func88, rfl, by kernel_rfl, rfl, rfl, of_decide_eq_true (by kernel_rfl)⟩⟩

def fnOf : FuncId → Option PFn
 | 39 => some fn39
 | 71 => some fn71
 | 38 => some fn38
 | 40 => some fn40
 | 41 => some fn41
 | 13 => some fn13
 | 18 => some fn18
 | 30 => some fn30
 | 85 => some fn85
 | 65 => some fn65
 | 31 => some fn31
 | 86 => some fn86
 | 67 => some fn67
 | 106 => some fn106
 | 87 => some fn87
 | 89 => some fn89
 | 107 => some fn107
 | 90 => some fn90
 | 68 => some fn68
 | 32 => some fn32
 | 33 => some fn33
 | 11 => some fn11
 | 19 => some fn19
 | 20 => some fn20
 | 51 => some fn51
 | 22 => some fn22
 | 79 => some fn79
 | 48 => some fn48
 | 49 => some fn49
 | 80 => some fn80
 | 50 => some fn50
 | 21 => some fn21
 | 52 => some fn52
 | 23 => some fn23
 | 105 => some fn105
 | 81 => some fn81
 | 53 => some fn53
 | 54 => some fn54
 | 55 => some fn55
 | 24 => some fn24
 | 9 => some fn9
 | 42 => some fn42
 | 43 => some fn43
 | 44 => some fn44
 | 14 => some fn14
 | 108 => some fn108
 | 93 => some fn93
 | 72 => some fn72
 | 94 => some fn94
 | 109 => some fn109
 | 95 => some fn95
 | 96 => some fn96
 | 97 => some fn97
 | 110 => some fn110
 | 98 => some fn98
 | 99 => some fn99
 | 100 => some fn100
 | 73 => some fn73
 | 45 => some fn45
 | 77 => some fn77
 | 46 => some fn46
 | 15 => some fn15
 | 7 => some fn7
 | 17 => some fn17
 | 8 => some fn8
 | 6 => some fn6
 | 66 => some fn66
 | 82 => some fn82
 | 88 => some fn88
 | _ => none
theorem fnOf_ok : ∀ f pf, fnOf f = some pf → FnOk Tryz.prog f pf := by
 intro f pf h
 unfold fnOf at h
 split at h <;> first | (injection h with h; subst h; first | exact fnOk39 | exact fnOk71 | exact fnOk38 | exact fnOk40 | exact fnOk41 | exact fnOk13 | exact fnOk18 | exact fnOk30 | exact fnOk85 | exact fnOk65 | exact fnOk31 | exact fnOk86 | exact fnOk67 | exact fnOk106 | exact fnOk87 | exact fnOk89 | exact fnOk107 | exact fnOk90 | exact fnOk68 | exact fnOk32 | exact fnOk33 | exact fnOk11 | exact fnOk19 | exact fnOk20 | exact fnOk51 | exact fnOk22 | exact fnOk79 | exact fnOk48 | exact fnOk49 | exact fnOk80 | exact fnOk50 | exact fnOk21 | exact fnOk52 | exact fnOk23 | exact fnOk105 | exact fnOk81 | exact fnOk53 | exact fnOk54 | exact fnOk55 | exact fnOk24 | exact fnOk9 | exact fnOk42 | exact fnOk43 | exact fnOk44 | exact fnOk14 | exact fnOk108 | exact fnOk93 | exact fnOk72 | exact fnOk94 | exact fnOk109 | exact fnOk95 | exact fnOk96 | exact fnOk97 | exact fnOk110 | exact fnOk98 | exact fnOk99 | exact fnOk100 | exact fnOk73 | exact fnOk45 | exact fnOk77 | exact fnOk46 | exact fnOk15 | exact fnOk7 | exact fnOk17 | exact fnOk8 | exact fnOk6 | exact fnOk66 | exact fnOk82 | exact fnOk88) | cases h
end Go.Proofs.YtbinlabnilidiaaGreatDoor.M

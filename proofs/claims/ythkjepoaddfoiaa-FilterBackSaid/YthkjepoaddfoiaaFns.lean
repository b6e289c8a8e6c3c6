/- The functions, compiled for the abstract machine (made by a program of mine, gen.py). -/
import Derived.Test.YthkjepoaddfoiaaTy
namespace Go.Proofs.Ythkjepoaddfoiaa.M
set_option linter.unusedVariables false
set_option linter.unusedSimpArgs false
open Go Go.Pam

def pc25 : PC :=
 (.seq (.region [⟨some 2, .assign (.const (.bool false)), none, false⟩])
 (.seq (.region [⟨some 3, .move (.tmp 0), none, false⟩,
  ⟨some 4, .binOp .geq 3 (.tmp 3) (.const (.int .i64 1)) 3, none, false⟩,
  ⟨some 5, .move (.tmp 4), none, false⟩,
  ⟨some 6, .move (.tmp 0), some (5, true), false⟩,
  ⟨some 7, .binOp .leq 3 (.tmp 6) (.const (.int .i64 3)) 3, some (5, true), false⟩,
  ⟨some 8, .pick (.tmp 5) (.tmp 7) (.const (.bool false)), none, false⟩,
  ⟨some 2, .assign (.tmp 8), none, false⟩])
 .ret))
def fn25 : PFn := ⟨9, [.tmp 2], pc25, false⟩
theorem fnOk25 : FnOk Try.prog 25 fn25 := ⟨⟨_, _, [], Try.func25, rfl, by kernel_rfl, rfl, rfl, of_decide_eq_true (by kernel_rfl)⟩⟩

def pc14L0 : PC :=
 (.seq (.seq (.region [⟨some 5, .fieldAddr 25 (.tmp 1) 0, none, false⟩,
  ⟨some 6, .load 3 (.tmp 5), none, false⟩,
  ⟨some 7, .call ⟨.value (.func 25), #[.tmp 6], #[3]⟩, none, false⟩,
  ⟨some 8, .move (.tmp 7), none, false⟩,
  ⟨some 9, .move (.tmp 4), some (8, true), false⟩,
  ⟨some 10, .fieldAddr 25 (.tmp 1) 4, some (8, true), false⟩,
  ⟨some 11, .load 23 (.tmp 10), some (8, true), false⟩,
  ⟨some 12, .call ⟨.builtin .len, #[.tmp 11], #[23]⟩, some (8, true), false⟩,
  ⟨some 13, .binOp .lss 3 (.tmp 9) (.tmp 12) 3, some (8, true), false⟩,
  ⟨some 14, .pick (.tmp 8) (.tmp 13) (.const (.bool false)), none, false⟩,
  ⟨some 15, .move (.tmp 14), none, false⟩,
  ⟨some 16, .move (.tmp 3), some (15, true), false⟩,
  ⟨some 17, .binOp .leq 3 (.tmp 16) (.const (.int .i64 20)) 3, some (15, true), false⟩,
  ⟨some 18, .pick (.tmp 15) (.tmp 17) (.const (.bool false)), none, false⟩])
 (.cond (.tmp 18)
  .skip
  (.exit 0)))
 (.seq (.block 1 (.region [⟨some 21, .move (.tmp 3), none, false⟩,
  ⟨some 22, .fieldAddr 25 (.tmp 1) 4, none, false⟩,
  ⟨some 23, .load 23 (.tmp 22), none, false⟩,
  ⟨some 24, .move (.tmp 4), none, false⟩,
  ⟨some 25, .indexAddr 23 (.tmp 23) (.tmp 24), none, false⟩,
  ⟨some 26, .load 25 (.tmp 25), none, false⟩,
  ⟨some 27, .call ⟨.value (.func 14), #[.tmp 26], #[25]⟩, none, false⟩,
  ⟨some 28, .binOp .add 3 (.tmp 21) (.tmp 27) 3, none, false⟩,
  ⟨some 3, .assign (.tmp 28), none, false⟩]))
 (.region [⟨some 19, .move (.tmp 4), none, false⟩,
  ⟨some 20, .binOp .add 3 (.tmp 19) (.const (.int .i64 1)) 3, none, false⟩,
  ⟨some 4, .assign (.tmp 20), none, false⟩])))
def pc14 : PC :=
 (.seq (.region [⟨some 1, .box 25 (.tmp 0), none, false⟩,
  ⟨some 2, .assign (.const (.int .i64 0)), none, false⟩])
 (.seq (.region [⟨some 3, .assign (.const (.int .i64 1)), none, false⟩])
 (.seq (.seq (.region [⟨some 4, .assign (.const (.int .i64 0)), none, false⟩])
 (.block 0 (.loop pc14L0)))
 (.seq (.region [⟨some 29, .move (.tmp 3), none, false⟩,
  ⟨some 30, .call ⟨.builtin .min, #[.tmp 29, .const (.int .i64 21)], #[3, 3]⟩, none, false⟩,
  ⟨some 2, .assign (.tmp 30), none, false⟩])
 .ret))))
def fn14 : PFn := ⟨31, [.tmp 2], pc14, false⟩
theorem fnOk14 : FnOk Try.prog 14 fn14 := ⟨⟨_, _, [], Try.func14, rfl, by kernel_rfl, rfl, rfl, of_decide_eq_true (by kernel_rfl)⟩⟩

def pc42L0 : PC :=
 (.seq (.region [⟨some 9, .binOp .lss 3 (.tmp 8) (.tmp 7) 3, none, false⟩])
 (.seq (.cond (.tmp 9)
  .skip
  (.exit 0))
 (.seq (.block 1 (.seq (.region [⟨some 10, .move (.tmp 8), none, false⟩,
  ⟨some 5, .assign (.tmp 10), none, false⟩])
 (.seq (.region [⟨some 11, .move (.tmp 1), none, false⟩,
  ⟨some 12, .move (.tmp 0), none, false⟩,
  ⟨some 13, .move (.tmp 5), none, false⟩,
  ⟨some 14, .indexAddr 23 (.tmp 12) (.tmp 13), none, false⟩,
  ⟨some 15, .load 25 (.tmp 14), none, false⟩,
  ⟨some 16, .call ⟨.value (.tmp 11), #[.tmp 15], #[25]⟩, none, false⟩])
 (.cond (.tmp 16)
  (.seq (.region [⟨some 17, .move (.tmp 5), none, false⟩,
   ⟨some 4, .assign (.tmp 17), none, false⟩])
  .ret)
  .skip))))
 (.region [⟨some 18, .binOp .add 3 (.tmp 8) (.const (.int .i64 1)) 3, none, false⟩,
  ⟨some 8, .move (.tmp 18), none, false⟩]))))
def pc42 : PC :=
 (.seq (.region [⟨some 4, .assign (.const (.int .i64 0)), none, false⟩])
 (.seq (.seq (.region [⟨some 6, .move (.tmp 0), none, false⟩,
  ⟨some 7, .call ⟨.builtin .len, #[.tmp 6], #[23]⟩, none, false⟩,
  ⟨some 8, .move (.const (.int .i64 0)), none, false⟩])
 (.block 0 (.loop pc42L0)))
 (.seq (.region [⟨some 4, .assign (.const (.int .i64 (-1))), none, false⟩])
 .ret)))
def fn42 : PFn := ⟨19, [.tmp 4], pc42, false⟩
theorem fnOk42 : FnOk Try.prog 42 fn42 := ⟨⟨_, _, [], Try.func42, rfl, by kernel_rfl, rfl, rfl, of_decide_eq_true (by kernel_rfl)⟩⟩

def pc31 : PC :=
 (.seq (.region [⟨some 4, .assign (.const (.bool false)), none, false⟩])
 (.seq (.region [⟨some 5, .move (.tmp 0), none, false⟩,
  ⟨some 6, .move (.tmp 1), none, false⟩,
  ⟨some 7, .call ⟨.value (.func 42), #[.tmp 5, .tmp 6], #[23, 28]⟩, none, false⟩,
  ⟨some 8, .binOp .geq 3 (.tmp 7) (.const (.int .i64 0)) 3, none, false⟩,
  ⟨some 4, .assign (.tmp 8), none, false⟩])
 .ret))
def fn31 : PFn := ⟨9, [.tmp 4], pc31, false⟩
theorem fnOk31 : FnOk Try.prog 31 fn31 := ⟨⟨_, _, [], Try.func31, rfl, by kernel_rfl, rfl, rfl, of_decide_eq_true (by kernel_rfl)⟩⟩

def pc33L0 : PC :=
 (.seq (.region [⟨some 26, .binOp .lss 3 (.tmp 25) (.tmp 24) 3, none, false⟩])
 (.seq (.cond (.tmp 26)
  .skip
  (.exit 0))
 (.seq (.block 1 (.seq (.region [⟨some 27, .indexAddr 36 (.tmp 23) (.tmp 25), none, false⟩,
  ⟨some 28, .load 5 (.tmp 27), none, false⟩,
  ⟨some 4, .assign (.tmp 28), none, false⟩])
 (.block 2 (.seq (.block 5 (.seq (.block 4 (.block 3 (.seq (.seq (.seq (.region [⟨some 30, .move (.tmp 4), none, false⟩,
  ⟨some 31, .binOp .geq 5 (.tmp 30) (.const (.int .u8 97)) 5, none, false⟩,
  ⟨some 32, .move (.tmp 31), none, false⟩,
  ⟨some 33, .move (.tmp 4), some (32, true), false⟩,
  ⟨some 34, .binOp .leq 5 (.tmp 33) (.const (.int .u8 122)) 5, some (32, true), false⟩,
  ⟨some 35, .pick (.tmp 32) (.tmp 34) (.const (.bool false)), none, false⟩,
  ⟨some 29, .assign (.tmp 35), none, false⟩])
 (.cond (.tmp 29)
  (.exit 3)
  .skip))
 (.seq (.seq (.region [⟨some 37, .move (.tmp 4), none, false⟩,
  ⟨some 38, .binOp .geq 5 (.tmp 37) (.const (.int .u8 48)) 5, none, false⟩,
  ⟨some 39, .move (.tmp 38), none, false⟩,
  ⟨some 40, .move (.tmp 4), some (39, true), false⟩,
  ⟨some 41, .binOp .leq 5 (.tmp 40) (.const (.int .u8 57)) 5, some (39, true), false⟩,
  ⟨some 42, .pick (.tmp 39) (.tmp 41) (.const (.bool false)), none, false⟩,
  ⟨some 36, .assign (.tmp 42), none, false⟩])
 (.cond (.tmp 36)
  .skip
  (.region [⟨some 43, .move (.tmp 4), none, false⟩,
   ⟨some 44, .binOp .eql 5 (.tmp 43) (.const (.int .u8 45)) 5, none, false⟩,
   ⟨some 36, .assign (.tmp 44), none, false⟩])))
 (.cond (.tmp 36)
  (.exit 4)
  .skip)))
 (.exit 5))))
 (.exit 2)))
 (.seq (.seq (.region [⟨some 2, .assign (.const (.bool false)), none, false⟩])
 .ret)
 (.exit 2))))))
 (.region [⟨some 45, .binOp .add 3 (.tmp 25) (.const (.int .i64 1)) 3, none, false⟩,
  ⟨some 25, .move (.tmp 45), none, false⟩]))))
def pc33 : PC :=
 (.seq (.region [⟨some 2, .assign (.const (.bool false)), none, false⟩])
 (.seq (.seq (.region [⟨some 5, .move (.tmp 0), none, false⟩,
  ⟨some 6, .binOp .eql 9 (.tmp 5) (.const (.string ⟨#[]⟩)) 9, none, false⟩,
  ⟨some 7, .move (.tmp 6), none, false⟩,
  ⟨some 8, .move (.tmp 0), some (7, false), false⟩,
  ⟨some 9, .call ⟨.builtin .len, #[.tmp 8], #[9]⟩, some (7, false), false⟩,
  ⟨some 10, .binOp .gtr 3 (.tmp 9) (.const (.int .i64 16)) 3, some (7, false), false⟩,
  ⟨some 11, .pick (.tmp 7) (.const (.bool true)) (.tmp 10), none, false⟩,
  ⟨some 12, .move (.tmp 11), none, false⟩,
  ⟨some 13, .move (.tmp 0), some (12, false), false⟩,
  ⟨some 14, .index 9 (.tmp 13) (.const (.int .i64 0)), some (12, false), false⟩,
  ⟨some 15, .binOp .lss 5 (.tmp 14) (.const (.int .u8 97)) 5, some (12, false), false⟩,
  ⟨some 16, .pick (.tmp 12) (.const (.bool true)) (.tmp 15), none, false⟩,
  ⟨some 17, .move (.tmp 16), none, false⟩,
  ⟨some 18, .move (.tmp 0), some (17, false), false⟩,
  ⟨some 19, .index 9 (.tmp 18) (.const (.int .i64 0)), some (17, false), false⟩,
  ⟨some 20, .binOp .gtr 5 (.tmp 19) (.const (.int .u8 122)) 5, some (17, false), false⟩,
  ⟨some 21, .pick (.tmp 17) (.const (.bool true)) (.tmp 20), none, false⟩])
 (.cond (.tmp 21)
  (.seq (.region [⟨some 2, .assign (.const (.bool false)), none, false⟩])
  .ret)
  .skip))
 (.seq (.seq (.region [⟨some 22, .move (.tmp 0), none, false⟩,
  ⟨some 23, .convert 9 36 (.tmp 22), none, false⟩,
  ⟨some 24, .call ⟨.builtin .len, #[.tmp 23], #[36]⟩, none, false⟩,
  ⟨some 25, .move (.const (.int .i64 0)), none, false⟩])
 (.block 0 (.loop pc33L0)))
 (.seq (.region [⟨some 2, .assign (.const (.bool true)), none, false⟩])
 .ret))))
def fn33 : PFn := ⟨46, [.tmp 2], pc33, false⟩
theorem fnOk33 : FnOk Try.prog 33 fn33 := ⟨⟨_, _, [], Try.func33, rfl, by kernel_rfl, rfl, rfl, of_decide_eq_true (by kernel_rfl)⟩⟩

def pc34L0 : PC :=
 (.seq (.region [⟨some 21, .binOp .lss 3 (.tmp 20) (.tmp 19) 3, none, false⟩])
 (.seq (.cond (.tmp 21)
  .skip
  (.exit 0))
 (.seq (.block 1 (.seq (.region [⟨some 22, .move (.tmp 20), none, false⟩,
  ⟨some 23, .indexAddr 22 (.tmp 18) (.tmp 20), none, false⟩,
  ⟨some 24, .load 9 (.tmp 23), none, false⟩,
  ⟨some 3, .assign (.tmp 22), none, false⟩,
  ⟨some 4, .assign (.tmp 24), none, false⟩])
 (.seq (.region [⟨some 25, .move (.tmp 4), none, false⟩,
  ⟨some 26, .call ⟨.builtin .len, #[.tmp 25], #[9]⟩, none, false⟩,
  ⟨some 27, .binOp .gtr 3 (.tmp 26) (.const (.int .i64 60)) 3, none, false⟩,
  ⟨some 28, .move (.tmp 27), none, false⟩,
  ⟨some 29, .move (.tmp 4), some (28, false), false⟩,
  ⟨some 30, .binOp .eql 9 (.tmp 29) (.const (.string ⟨#[]⟩)) 9, some (28, false), false⟩,
  ⟨some 31, .move (.tmp 30), some (28, false), false⟩,
  ⟨some 32, .move (.tmp 3), some (31, true), false⟩,
  ⟨some 33, .binOp .gtr 3 (.tmp 32) (.const (.int .i64 0)) 3, some (31, true), false⟩,
  ⟨some 34, .pick (.tmp 31) (.tmp 33) (.const (.bool false)), some (28, false), false⟩,
  ⟨some 35, .move (.tmp 34), some (28, false), false⟩,
  ⟨some 36, .move (.tmp 3), some (35, true), false⟩,
  ⟨some 37, .move (.tmp 0), some (35, true), false⟩,
  ⟨some 38, .call ⟨.builtin .len, #[.tmp 37], #[22]⟩, some (35, true), false⟩,
  ⟨some 39, .binOp .sub 3 (.tmp 38) (.const (.int .i64 1)) 3, some (35, true), false⟩,
  ⟨some 40, .binOp .lss 3 (.tmp 36) (.tmp 39) 3, some (35, true), false⟩,
  ⟨some 41, .pick (.tmp 35) (.tmp 40) (.const (.bool false)), some (28, false), false⟩,
  ⟨some 42, .pick (.tmp 28) (.const (.bool true)) (.tmp 41), none, false⟩])
 (.cond (.tmp 42)
  (.seq (.region [⟨some 2, .assign (.const (.bool false)), none, false⟩])
  .ret)
  .skip))))
 (.region [⟨some 43, .binOp .add 3 (.tmp 20) (.const (.int .i64 1)) 3, none, false⟩,
  ⟨some 20, .move (.tmp 43), none, false⟩]))))
def pc34 : PC :=
 (.seq (.region [⟨some 2, .assign (.const (.bool false)), none, false⟩])
 (.seq (.seq (.region [⟨some 5, .move (.tmp 0), none, false⟩,
  ⟨some 6, .call ⟨.builtin .len, #[.tmp 5], #[22]⟩, none, false⟩,
  ⟨some 7, .binOp .lss 3 (.tmp 6) (.const (.int .i64 2)) 3, none, false⟩,
  ⟨some 8, .move (.tmp 7), none, false⟩,
  ⟨some 9, .move (.tmp 0), some (8, false), false⟩,
  ⟨some 10, .call ⟨.builtin .len, #[.tmp 9], #[22]⟩, some (8, false), false⟩,
  ⟨some 11, .binOp .gtr 3 (.tmp 10) (.const (.int .i64 20)) 3, some (8, false), false⟩,
  ⟨some 12, .pick (.tmp 8) (.const (.bool true)) (.tmp 11), none, false⟩,
  ⟨some 13, .move (.tmp 12), none, false⟩,
  ⟨some 14, .move (.tmp 0), some (13, false), false⟩,
  ⟨some 15, .call ⟨.value (.func 38), #[.tmp 14, .const (.string ⟨#[]⟩)], #[22, 9]⟩, some (13, false), false⟩,
  ⟨some 16, .binOp .eql 9 (.tmp 15) (.const (.string ⟨#[]⟩)) 9, some (13, false), false⟩,
  ⟨some 17, .pick (.tmp 13) (.const (.bool true)) (.tmp 16), none, false⟩])
 (.cond (.tmp 17)
  (.seq (.region [⟨some 2, .assign (.const (.bool false)), none, false⟩])
  .ret)
  .skip))
 (.seq (.seq (.region [⟨some 18, .move (.tmp 0), none, false⟩,
  ⟨some 19, .call ⟨.builtin .len, #[.tmp 18], #[22]⟩, none, false⟩,
  ⟨some 20, .move (.const (.int .i64 0)), none, false⟩])
 (.block 0 (.loop pc34L0)))
 (.seq (.region [⟨some 2, .assign (.const (.bool true)), none, false⟩])
 .ret))))
def fn34 : PFn := ⟨44, [.tmp 2], pc34, false⟩
theorem fnOk34 : FnOk Try.prog 34 fn34 := ⟨⟨_, _, [], Try.func34, rfl, by kernel_rfl, rfl, rfl, of_decide_eq_true (by kernel_rfl)⟩⟩

def pc23 : PC :=
 (.seq (.region [⟨some 1, .box 25 (.tmp 0), none, false⟩,
  ⟨some 2, .assign (.const (.bool false)), none, false⟩])
 (.seq (.seq (.region [⟨some 3, .fieldAddr 25 (.tmp 1) 0, none, false⟩,
  ⟨some 4, .load 3 (.tmp 3), none, false⟩])
 (.block 0 (.seq (.block 5 (.seq (.block 4 (.seq (.block 3 (.seq (.block 2 (.seq (.block 1 (.seq (.seq (.seq (.region [⟨some 6, .binOp .eql 3 (.tmp 4) (.const (.int .i64 3)) 3, none, false⟩,
  ⟨some 5, .assign (.tmp 6), none, false⟩])
 (.cond (.tmp 5)
  (.exit 1)
  .skip))
 (.seq (.seq (.seq (.region [⟨some 8, .binOp .eql 3 (.tmp 4) (.const (.int .i64 1)) 3, none, false⟩,
  ⟨some 7, .assign (.tmp 8), none, false⟩])
 (.cond (.tmp 7)
  .skip
  (.region [⟨some 9, .binOp .eql 3 (.tmp 4) (.const (.int .i64 2)) 3, none, false⟩,
   ⟨some 7, .assign (.tmp 9), none, false⟩])))
 (.cond (.tmp 7)
  (.exit 2)
  .skip))
 (.seq (.seq (.region [⟨some 11, .binOp .eql 3 (.tmp 4) (.const (.int .i64 7)) 3, none, false⟩,
  ⟨some 10, .assign (.tmp 11), none, false⟩])
 (.cond (.tmp 10)
  (.exit 3)
  .skip))
 (.seq (.seq (.region [⟨some 13, .binOp .eql 3 (.tmp 4) (.const (.int .i64 8)) 3, none, false⟩,
  ⟨some 12, .assign (.tmp 13), none, false⟩])
 (.cond (.tmp 12)
  (.exit 4)
  .skip))
 (.seq (.seq (.region [⟨some 15, .binOp .eql 3 (.tmp 4) (.const (.int .i64 4)) 3, none, false⟩,
  ⟨some 14, .assign (.tmp 15), none, false⟩])
 (.cond (.tmp 14)
  .skip
  (.seq (.region [⟨some 16, .binOp .eql 3 (.tmp 4) (.const (.int .i64 5)) 3, none, false⟩,
   ⟨some 14, .assign (.tmp 16), none, false⟩])
  (.cond (.tmp 14)
   .skip
   (.region [⟨some 17, .binOp .eql 3 (.tmp 4) (.const (.int .i64 6)) 3, none, false⟩,
    ⟨some 14, .assign (.tmp 17), none, false⟩])))))
 (.cond (.tmp 14)
  (.exit 5)
  .skip))))))
 (.exit 0)))
 (.seq (.region [⟨some 18, .fieldAddr 25 (.tmp 1) 4, none, false⟩,
  ⟨some 19, .load 23 (.tmp 18), none, false⟩,
  ⟨some 20, .call ⟨.builtin .len, #[.tmp 19], #[23]⟩, none, false⟩,
  ⟨some 21, .binOp .neq 3 (.tmp 20) (.const (.int .i64 1)) 3, none, false⟩])
 (.cond (.tmp 21)
  (.seq (.region [⟨some 2, .assign (.const (.bool false)), none, false⟩])
  .ret)
  .skip))))
 (.seq (.seq (.region [⟨some 22, .fieldAddr 25 (.tmp 1) 1, none, false⟩,
  ⟨some 23, .load 9 (.tmp 22), none, false⟩,
  ⟨some 24, .binOp .eql 9 (.tmp 23) (.const (.string ⟨#[]⟩)) 9, none, false⟩,
  ⟨some 25, .move (.tmp 24), none, false⟩,
  ⟨some 26, .fieldAddr 25 (.tmp 1) 2, some (25, true), false⟩,
  ⟨some 27, .load 9 (.tmp 26), some (25, true), false⟩,
  ⟨some 28, .binOp .eql 9 (.tmp 27) (.const (.string ⟨#[]⟩)) 9, some (25, true), false⟩,
  ⟨some 29, .pick (.tmp 25) (.tmp 28) (.const (.bool false)), none, false⟩,
  ⟨some 30, .move (.tmp 29), none, false⟩,
  ⟨some 31, .fieldAddr 25 (.tmp 1) 3, some (30, true), false⟩,
  ⟨some 32, .load 22 (.tmp 31), some (30, true), false⟩,
  ⟨some 33, .call ⟨.builtin .len, #[.tmp 32], #[22]⟩, some (30, true), false⟩,
  ⟨some 34, .binOp .eql 3 (.tmp 33) (.const (.int .i64 0)) 3, some (30, true), false⟩,
  ⟨some 35, .pick (.tmp 30) (.tmp 34) (.const (.bool false)), none, false⟩,
  ⟨some 36, .move (.tmp 35), none, false⟩,
  ⟨some 37, .fieldAddr 25 (.tmp 1) 4, some (36, true), false⟩,
  ⟨some 38, .load 23 (.tmp 37), some (36, true), false⟩,
  ⟨some 39, .call ⟨.value (.func 31), #[.tmp 38, .func 32], #[23, 28]⟩, some (36, true), false⟩,
  ⟨some 40, .unOp .not 4 (.tmp 39), some (36, true), false⟩,
  ⟨some 41, .pick (.tmp 36) (.tmp 40) (.const (.bool false)), none, false⟩,
  ⟨some 2, .assign (.tmp 41), none, false⟩])
 .ret)
 (.exit 0))))
 (.seq (.seq (.region [⟨some 42, .fieldAddr 25 (.tmp 1) 1, none, false⟩,
  ⟨some 43, .load 9 (.tmp 42), none, false⟩,
  ⟨some 44, .call ⟨.value (.func 33), #[.tmp 43], #[9]⟩, none, false⟩,
  ⟨some 45, .move (.tmp 44), none, false⟩,
  ⟨some 46, .fieldAddr 25 (.tmp 1) 2, some (45, true), false⟩,
  ⟨some 47, .load 9 (.tmp 46), some (45, true), false⟩,
  ⟨some 48, .binOp .eql 9 (.tmp 47) (.const (.string ⟨#[]⟩)) 9, some (45, true), false⟩,
  ⟨some 49, .pick (.tmp 45) (.tmp 48) (.const (.bool false)), none, false⟩,
  ⟨some 50, .move (.tmp 49), none, false⟩,
  ⟨some 51, .fieldAddr 25 (.tmp 1) 3, some (50, true), false⟩,
  ⟨some 52, .load 22 (.tmp 51), some (50, true), false⟩,
  ⟨some 53, .call ⟨.builtin .len, #[.tmp 52], #[22]⟩, some (50, true), false⟩,
  ⟨some 54, .binOp .eql 3 (.tmp 53) (.const (.int .i64 0)) 3, some (50, true), false⟩,
  ⟨some 55, .pick (.tmp 50) (.tmp 54) (.const (.bool false)), none, false⟩,
  ⟨some 56, .move (.tmp 55), none, false⟩,
  ⟨some 57, .fieldAddr 25 (.tmp 1) 4, some (56, true), false⟩,
  ⟨some 58, .load 23 (.tmp 57), some (56, true), false⟩,
  ⟨some 59, .call ⟨.builtin .len, #[.tmp 58], #[23]⟩, some (56, true), false⟩,
  ⟨some 60, .binOp .eql 3 (.tmp 59) (.const (.int .i64 0)) 3, some (56, true), false⟩,
  ⟨some 61, .pick (.tmp 56) (.tmp 60) (.const (.bool false)), none, false⟩,
  ⟨some 2, .assign (.tmp 61), none, false⟩])
 .ret)
 (.exit 0))))
 (.seq (.seq (.region [⟨some 62, .fieldAddr 25 (.tmp 1) 1, none, false⟩,
  ⟨some 63, .load 9 (.tmp 62), none, false⟩,
  ⟨some 64, .call ⟨.value (.func 33), #[.tmp 63], #[9]⟩, none, false⟩,
  ⟨some 65, .move (.tmp 64), none, false⟩,
  ⟨some 66, .fieldAddr 25 (.tmp 1) 2, some (65, true), false⟩,
  ⟨some 67, .load 9 (.tmp 66), some (65, true), false⟩,
  ⟨some 68, .binOp .eql 9 (.tmp 67) (.const (.string ⟨#[]⟩)) 9, some (65, true), false⟩,
  ⟨some 69, .pick (.tmp 65) (.tmp 68) (.const (.bool false)), none, false⟩,
  ⟨some 70, .move (.tmp 69), none, false⟩,
  ⟨some 71, .fieldAddr 25 (.tmp 1) 4, some (70, true), false⟩,
  ⟨some 72, .load 23 (.tmp 71), some (70, true), false⟩,
  ⟨some 73, .call ⟨.builtin .len, #[.tmp 72], #[23]⟩, some (70, true), false⟩,
  ⟨some 74, .binOp .eql 3 (.tmp 73) (.const (.int .i64 0)) 3, some (70, true), false⟩,
  ⟨some 75, .pick (.tmp 70) (.tmp 74) (.const (.bool false)), none, false⟩,
  ⟨some 76, .move (.tmp 75), none, false⟩,
  ⟨some 77, .fieldAddr 25 (.tmp 1) 3, some (76, true), false⟩,
  ⟨some 78, .load 22 (.tmp 77), some (76, true), false⟩,
  ⟨some 79, .call ⟨.value (.func 34), #[.tmp 78], #[22]⟩, some (76, true), false⟩,
  ⟨some 80, .pick (.tmp 76) (.tmp 79) (.const (.bool false)), none, false⟩,
  ⟨some 2, .assign (.tmp 80), none, false⟩])
 .ret)
 (.exit 0))))
 (.seq (.seq (.region [⟨some 81, .fieldAddr 25 (.tmp 1) 1, none, false⟩,
  ⟨some 82, .load 9 (.tmp 81), none, false⟩,
  ⟨some 83, .call ⟨.value (.func 33), #[.tmp 82], #[9]⟩, none, false⟩,
  ⟨some 84, .move (.tmp 83), none, false⟩,
  ⟨some 85, .fieldAddr 25 (.tmp 1) 2, some (84, true), false⟩,
  ⟨some 86, .load 9 (.tmp 85), some (84, true), false⟩,
  ⟨some 87, .call ⟨.builtin .len, #[.tmp 86], #[9]⟩, some (84, true), false⟩,
  ⟨some 88, .binOp .leq 3 (.tmp 87) (.const (.int .i64 60)) 3, some (84, true), false⟩,
  ⟨some 89, .pick (.tmp 84) (.tmp 88) (.const (.bool false)), none, false⟩,
  ⟨some 90, .move (.tmp 89), none, false⟩,
  ⟨some 91, .fieldAddr 25 (.tmp 1) 3, some (90, true), false⟩,
  ⟨some 92, .load 22 (.tmp 91), some (90, true), false⟩,
  ⟨some 93, .call ⟨.builtin .len, #[.tmp 92], #[22]⟩, some (90, true), false⟩,
  ⟨some 94, .binOp .eql 3 (.tmp 93) (.const (.int .i64 0)) 3, some (90, true), false⟩,
  ⟨some 95, .pick (.tmp 90) (.tmp 94) (.const (.bool false)), none, false⟩,
  ⟨some 96, .move (.tmp 95), none, false⟩,
  ⟨some 97, .fieldAddr 25 (.tmp 1) 4, some (96, true), false⟩,
  ⟨some 98, .load 23 (.tmp 97), some (96, true), false⟩,
  ⟨some 99, .call ⟨.builtin .len, #[.tmp 98], #[23]⟩, some (96, true), false⟩,
  ⟨some 100, .binOp .eql 3 (.tmp 99) (.const (.int .i64 0)) 3, some (96, true), false⟩,
  ⟨some 101, .pick (.tmp 96) (.tmp 100) (.const (.bool false)), none, false⟩,
  ⟨some 2, .assign (.tmp 101), none, false⟩])
 .ret)
 (.exit 0)))))
 (.seq (.region [⟨some 2, .assign (.const (.bool false)), none, false⟩])
 .ret)))
def fn23 : PFn := ⟨102, [.tmp 2], pc23, false⟩
theorem fnOk23 : FnOk Try.prog 23 fn23 := ⟨⟨_, _, [], Try.func23, rfl, by kernel_rfl, rfl, rfl, of_decide_eq_true (by kernel_rfl)⟩⟩

def pc12 : PC :=
 (.seq (.region [⟨some 1, .box 25 (.tmp 0), none, false⟩,
  ⟨some 2, .assign (.const (.bool false)), none, false⟩])
 (.seq (.region [⟨some 3, .load 25 (.tmp 1), none, false⟩,
  ⟨some 4, .call ⟨.value (.func 14), #[.tmp 3], #[25]⟩, none, false⟩,
  ⟨some 5, .binOp .leq 3 (.tmp 4) (.const (.int .i64 20)) 3, none, false⟩,
  ⟨some 6, .move (.tmp 5), none, false⟩,
  ⟨some 7, .load 25 (.tmp 1), some (6, true), false⟩,
  ⟨some 8, .call ⟨.value (.func 23), #[.tmp 7], #[25]⟩, some (6, true), false⟩,
  ⟨some 9, .pick (.tmp 6) (.tmp 8) (.const (.bool false)), none, false⟩,
  ⟨some 2, .assign (.tmp 9), none, false⟩])
 .ret))
def fn12 : PFn := ⟨10, [.tmp 2], pc12, false⟩
theorem fnOk12 : FnOk Try.prog 12 fn12 := ⟨⟨_, _, [], Try.func12, rfl, by kernel_rfl, rfl, rfl, of_decide_eq_true (by kernel_rfl)⟩⟩

def pc37L0 : PC :=
 (.seq (.region [⟨some 10, .binOp .lss 3 (.tmp 9) (.tmp 8) 3, none, false⟩])
 (.seq (.cond (.tmp 10)
  .skip
  (.exit 0))
 (.seq (.block 1 (.seq (.region [⟨some 11, .indexAddr 36 (.tmp 7) (.tmp 9), none, false⟩,
  ⟨some 12, .load 5 (.tmp 11), none, false⟩,
  ⟨some 5, .assign (.tmp 12), none, false⟩])
 (.block 2 (.seq (.region [⟨some 16, .move (.tmp 5), none, false⟩,
  ⟨some 17, .binOp .lss 5 (.tmp 16) (.const (.int .u8 32)) 5, none, false⟩,
  ⟨some 18, .move (.tmp 17), none, false⟩,
  ⟨some 19, .move (.tmp 5), some (18, false), false⟩,
  ⟨some 20, .binOp .gtr 5 (.tmp 19) (.const (.int .u8 126)) 5, some (18, false), false⟩,
  ⟨some 21, .pick (.tmp 18) (.const (.bool true)) (.tmp 20), none, false⟩,
  ⟨some 22, .move (.tmp 21), none, false⟩,
  ⟨some 23, .move (.tmp 5), some (22, false), false⟩,
  ⟨some 24, .binOp .eql 5 (.tmp 23) (.const (.int .u8 42)) 5, some (22, false), false⟩,
  ⟨some 25, .pick (.tmp 22) (.const (.bool true)) (.tmp 24), none, false⟩,
  ⟨some 26, .move (.tmp 25), none, false⟩,
  ⟨some 27, .move (.tmp 5), some (26, false), false⟩,
  ⟨some 28, .binOp .eql 5 (.tmp 27) (.const (.int .u8 40)) 5, some (26, false), false⟩,
  ⟨some 29, .pick (.tmp 26) (.const (.bool true)) (.tmp 28), none, false⟩,
  ⟨some 30, .move (.tmp 29), none, false⟩,
  ⟨some 31, .move (.tmp 5), some (30, false), false⟩,
  ⟨some 32, .binOp .eql 5 (.tmp 31) (.const (.int .u8 41)) 5, some (30, false), false⟩,
  ⟨some 33, .pick (.tmp 30) (.const (.bool true)) (.tmp 32), none, false⟩,
  ⟨some 34, .move (.tmp 33), none, false⟩,
  ⟨some 35, .move (.tmp 5), some (34, false), false⟩,
  ⟨some 36, .binOp .eql 5 (.tmp 35) (.const (.int .u8 92)) 5, some (34, false), false⟩,
  ⟨some 37, .pick (.tmp 34) (.const (.bool true)) (.tmp 36), none, false⟩,
  ⟨some 15, .assign (.tmp 37), none, false⟩])
 (.cond (.tmp 15)
  (.seq (.region [⟨some 38, .call ⟨.value (.func 44), #[.tmp 3, .const (.int .u8 92)], #[55, 5]⟩, none, false⟩])
  (.seq (.region [⟨some 39, .move (.tmp 5), none, false⟩,
   ⟨some 40, .binOp .shr 5 (.tmp 39) (.const (.int .u64 4)) 51, none, false⟩,
   ⟨some 41, .index 9 (.const (.string ⟨#[48, 49, 50, 51, 52, 53, 54, 55, 56, 57, 97, 98, 99, 100, 101, 102]⟩)) (.tmp 40), none, false⟩,
   ⟨some 42, .call ⟨.value (.func 44), #[.tmp 3, .tmp 41], #[55, 5]⟩, none, false⟩])
  (.region [⟨some 43, .move (.tmp 5), none, false⟩,
   ⟨some 44, .binOp .and 5 (.tmp 43) (.const (.int .u8 15)) 5, none, false⟩,
   ⟨some 45, .index 9 (.const (.string ⟨#[48, 49, 50, 51, 52, 53, 54, 55, 56, 57, 97, 98, 99, 100, 101, 102]⟩)) (.tmp 44), none, false⟩,
   ⟨some 46, .call ⟨.value (.func 44), #[.tmp 3, .tmp 45], #[55, 5]⟩, none, false⟩])))
  (.region [⟨some 13, .move (.tmp 5), none, false⟩,
   ⟨some 14, .call ⟨.value (.func 44), #[.tmp 3, .tmp 13], #[55, 5]⟩, none, false⟩]))))))
 (.region [⟨some 47, .binOp .add 3 (.tmp 9) (.const (.int .i64 1)) 3, none, false⟩,
  ⟨some 9, .move (.tmp 47), none, false⟩]))))
def pc37 : PC :=
 (.seq (.region [⟨some 2, .assign (.const (.string ⟨#[]⟩)), none, false⟩])
 (.seq (.region [⟨some 3, .alloc 55, none, true⟩])
 (.seq (.seq (.region [⟨some 6, .move (.tmp 0), none, false⟩,
  ⟨some 7, .convert 9 36 (.tmp 6), none, false⟩,
  ⟨some 8, .call ⟨.builtin .len, #[.tmp 7], #[36]⟩, none, false⟩,
  ⟨some 9, .move (.const (.int .i64 0)), none, false⟩])
 (.block 0 (.loop pc37L0)))
 (.seq (.region [⟨some 48, .call ⟨.value (.func 36), #[.tmp 3], #[55]⟩, none, false⟩,
  ⟨some 2, .assign (.tmp 48), none, false⟩])
 .ret))))
def fn37 : PFn := ⟨49, [.tmp 2], pc37, false⟩
theorem fnOk37 : FnOk Try.prog 37 fn37 := ⟨⟨_, _, [1000003], Try.func37, rfl, by kernel_rfl, rfl, rfl, of_decide_eq_true (by kernel_rfl)⟩⟩

def pc24L1 : PC :=
 (.seq (.region [⟨some 20, .binOp .lss 3 (.tmp 19) (.tmp 18) 3, none, false⟩])
 (.seq (.cond (.tmp 20)
  .skip
  (.exit 1))
 (.seq (.block 2 (.seq (.region [⟨some 21, .indexAddr 23 (.tmp 17) (.tmp 19), none, false⟩,
  ⟨some 22, .load 25 (.tmp 21), none, false⟩,
  ⟨some 5, .alloc 25, none, false⟩,
  ⟨none, .store 25 (.tmp 5) (.tmp 22), none, false⟩])
 (.region [⟨some 23, .load 25 (.tmp 5), none, false⟩,
  ⟨some 24, .call ⟨.value (.func 24), #[.tmp 23], #[25]⟩, none, false⟩,
  ⟨some 25, .call ⟨.value (.func 35), #[.tmp 3, .tmp 24], #[55, 9]⟩, none, false⟩])))
 (.region [⟨some 26, .binOp .add 3 (.tmp 19) (.const (.int .i64 1)) 3, none, false⟩,
  ⟨some 19, .move (.tmp 26), none, false⟩]))))
def pc24L3 : PC :=
 (.seq (.region [⟨some 47, .binOp .lss 3 (.tmp 46) (.tmp 45) 3, none, false⟩])
 (.seq (.cond (.tmp 47)
  .skip
  (.exit 3))
 (.seq (.block 4 (.seq (.region [⟨some 48, .indexAddr 22 (.tmp 44) (.tmp 46), none, false⟩,
  ⟨some 49, .load 9 (.tmp 48), none, false⟩,
  ⟨some 8, .assign (.tmp 49), none, false⟩])
 (.region [⟨some 50, .move (.tmp 6), none, false⟩,
  ⟨some 51, .move (.tmp 8), none, false⟩,
  ⟨some 52, .call ⟨.value (.func 37), #[.tmp 51], #[9]⟩, none, false⟩,
  ⟨some 53, .buildSlice 22 1 #[(0, .tmp 52)], none, false⟩,
  ⟨some 54, .call ⟨.builtin .append, #[.tmp 50, .tmp 53], #[22, 22]⟩, none, false⟩,
  ⟨some 6, .assign (.tmp 54), none, false⟩])))
 (.region [⟨some 55, .binOp .add 3 (.tmp 46) (.const (.int .i64 1)) 3, none, false⟩,
  ⟨some 46, .move (.tmp 55), none, false⟩]))))
def pc24 : PC :=
 (.seq (.region [⟨some 1, .box 25 (.tmp 0), none, false⟩,
  ⟨some 2, .assign (.const (.string ⟨#[]⟩)), none, false⟩])
 (.seq (.seq (.region [⟨some 10, .fieldAddr 25 (.tmp 1) 0, none, false⟩,
  ⟨some 11, .load 3 (.tmp 10), none, false⟩])
 (.block 0 (.seq (.seq (.region [⟨some 13, .binOp .eql 3 (.tmp 11) (.const (.int .i64 1)) 3, none, false⟩,
  ⟨some 12, .assign (.tmp 13), none, false⟩])
 (.cond (.tmp 12)
  .skip
  (.seq (.region [⟨some 14, .binOp .eql 3 (.tmp 11) (.const (.int .i64 2)) 3, none, false⟩,
   ⟨some 12, .assign (.tmp 14), none, false⟩])
  (.cond (.tmp 12)
   .skip
   (.region [⟨some 15, .binOp .eql 3 (.tmp 11) (.const (.int .i64 3)) 3, none, false⟩,
    ⟨some 12, .assign (.tmp 15), none, false⟩])))))
 (.cond (.tmp 12)
  (.seq (.region [⟨some 3, .alloc 55, none, true⟩])
  (.seq (.seq (.region [⟨some 16, .fieldAddr 25 (.tmp 1) 4, none, false⟩,
   ⟨some 17, .load 23 (.tmp 16), none, false⟩,
   ⟨some 18, .call ⟨.builtin .len, #[.tmp 17], #[23]⟩, none, false⟩,
   ⟨some 19, .move (.const (.int .i64 0)), none, false⟩])
  (.block 1 (.loop pc24L1)))
  (.seq (.drawC [⟨some 27, .build 60 #[(1, .const (.string ⟨#[38]⟩)), (2, .const (.string ⟨#[124]⟩)), (3, .const (.string ⟨#[33]⟩))], none, false⟩,
   ⟨some 28, .fieldAddr 25 (.tmp 1) 0, none, false⟩,
   ⟨some 29, .load 3 (.tmp 28), none, false⟩,
   ⟨some 30, .index 60 (.tmp 27) (.tmp 29), none, false⟩,
   ⟨some 31, .binOp .add 9 (.const (.string ⟨#[40]⟩)) (.tmp 30) 9, none, false⟩,
   ⟨some 32, .call ⟨.value (.func 36), #[.tmp 3], #[55]⟩, none, false⟩]
   [⟨some 33, .binOp .add 9 (.tmp 31) (.tmp 32) 9, none, false⟩,
   ⟨some 34, .binOp .add 9 (.tmp 33) (.const (.string ⟨#[41]⟩)) 9, none, false⟩,
   ⟨some 2, .assign (.tmp 34), none, false⟩])
  .ret)))
  (.seq (.region [⟨some 36, .binOp .eql 3 (.tmp 11) (.const (.int .i64 7)) 3, none, false⟩,
   ⟨some 35, .assign (.tmp 36), none, false⟩])
  (.cond (.tmp 35)
   (.seq (.region [⟨some 37, .fieldAddr 25 (.tmp 1) 1, none, false⟩,
    ⟨some 38, .load 9 (.tmp 37), none, false⟩,
    ⟨some 39, .binOp .add 9 (.const (.string ⟨#[40]⟩)) (.tmp 38) 9, none, false⟩,
    ⟨some 40, .binOp .add 9 (.tmp 39) (.const (.string ⟨#[61, 42, 41]⟩)) 9, none, false⟩,
    ⟨some 2, .assign (.tmp 40), none, false⟩])
   .ret)
   (.seq (.region [⟨some 42, .binOp .eql 3 (.tmp 11) (.const (.int .i64 8)) 3, none, false⟩,
    ⟨some 41, .assign (.tmp 42), none, false⟩])
   (.cond (.tmp 41)
    (.seq (.region [⟨some 6, .assign (.const (.slice none 0 0)), none, false⟩])
    (.seq (.seq (.region [⟨some 43, .fieldAddr 25 (.tmp 1) 3, none, false⟩,
     ⟨some 44, .load 22 (.tmp 43), none, false⟩,
     ⟨some 45, .call ⟨.builtin .len, #[.tmp 44], #[22]⟩, none, false⟩,
     ⟨some 46, .move (.const (.int .i64 0)), none, false⟩])
    (.block 3 (.loop pc24L3)))
    (.seq (.draw [⟨some 56, .fieldAddr 25 (.tmp 1) 1, none, false⟩,
     ⟨some 57, .load 9 (.tmp 56), none, false⟩,
     ⟨some 58, .binOp .add 9 (.const (.string ⟨#[40]⟩)) (.tmp 57) 9, none, false⟩,
     ⟨some 59, .binOp .add 9 (.tmp 58) (.const (.string ⟨#[61]⟩)) 9, none, false⟩,
     ⟨some 60, .move (.tmp 6), none, false⟩,
     ⟨some 61, .call ⟨.value (.func 38), #[.tmp 60, .const (.string ⟨#[42]⟩)], #[22, 9]⟩, none, false⟩]
     [⟨some 62, .binOp .add 9 (.tmp 59) (.tmp 61) 9, none, false⟩,
     ⟨some 63, .binOp .add 9 (.tmp 62) (.const (.string ⟨#[41]⟩)) 9, none, false⟩,
     ⟨some 2, .assign (.tmp 63), none, false⟩])
    .ret)))
    .skip))))))))
 (.seq (.region [⟨some 64, .build 63 #[(4, .const (.string ⟨#[61]⟩)), (5, .const (.string ⟨#[62, 61]⟩)), (6, .const (.string ⟨#[60, 61]⟩))], none, false⟩,
  ⟨some 65, .fieldAddr 25 (.tmp 1) 0, none, false⟩,
  ⟨some 66, .load 3 (.tmp 65), none, false⟩,
  ⟨some 67, .index 63 (.tmp 64) (.tmp 66), none, false⟩,
  ⟨some 9, .assign (.tmp 67), none, false⟩])
 (.seq (.draw [⟨some 68, .fieldAddr 25 (.tmp 1) 1, none, false⟩,
  ⟨some 69, .load 9 (.tmp 68), none, false⟩,
  ⟨some 70, .binOp .add 9 (.const (.string ⟨#[40]⟩)) (.tmp 69) 9, none, false⟩,
  ⟨some 71, .move (.tmp 9), none, false⟩,
  ⟨some 72, .binOp .add 9 (.tmp 70) (.tmp 71) 9, none, false⟩,
  ⟨some 73, .fieldAddr 25 (.tmp 1) 2, none, false⟩,
  ⟨some 74, .load 9 (.tmp 73), none, false⟩,
  ⟨some 75, .call ⟨.value (.func 37), #[.tmp 74], #[9]⟩, none, false⟩]
  [⟨some 76, .binOp .add 9 (.tmp 72) (.tmp 75) 9, none, false⟩,
  ⟨some 77, .binOp .add 9 (.tmp 76) (.const (.string ⟨#[41]⟩)) 9, none, false⟩,
  ⟨some 2, .assign (.tmp 77), none, false⟩])
 .ret))))
def fn24 : PFn := ⟨78, [.tmp 2], pc24, false⟩
theorem fnOk24 : FnOk Try.prog 24 fn24 := ⟨⟨_, _, [11, 1000003], Try.func24, rfl, by kernel_rfl, rfl, rfl, of_decide_eq_true (by kernel_rfl)⟩⟩

def pc13 : PC :=
 (.seq (.region [⟨some 1, .box 25 (.tmp 0), none, false⟩,
  ⟨some 2, .assign (.const (.string ⟨#[]⟩)), none, false⟩])
 (.seq (.seq (.region [⟨some 3, .load 25 (.tmp 1), none, false⟩,
  ⟨some 4, .call ⟨.value (.func 12), #[.tmp 3], #[25]⟩, none, false⟩,
  ⟨some 5, .unOp .not 4 (.tmp 4), none, false⟩])
 (.cond (.tmp 5)
  (.seq (.region [⟨some 2, .assign (.const (.string ⟨#[]⟩)), none, false⟩])
  .ret)
  .skip))
 (.seq (.region [⟨some 6, .load 25 (.tmp 1), none, false⟩,
  ⟨some 7, .call ⟨.value (.func 24), #[.tmp 6], #[25]⟩, none, false⟩,
  ⟨some 2, .assign (.tmp 7), none, false⟩])
 .ret)))
def fn13 : PFn := ⟨8, [.tmp 2], pc13, false⟩
theorem fnOk13 : FnOk Try.prog 13 fn13 := ⟨⟨_, _, [], Try.func13, rfl, by kernel_rfl, rfl, rfl, of_decide_eq_true (by kernel_rfl)⟩⟩

def pc26L0 : PC :=
 (.seq (.region [⟨some 14, .binOp .lss 3 (.tmp 13) (.tmp 12) 3, none, false⟩])
 (.seq (.cond (.tmp 14)
  .skip
  (.exit 0))
 (.seq (.block 1 (.seq (.region [⟨some 15, .move (.tmp 13), none, false⟩,
  ⟨some 5, .assign (.tmp 15), none, false⟩])
 (.seq (.draw [⟨some 16, .move (.tmp 0), none, false⟩,
  ⟨some 17, .move (.tmp 5), none, false⟩,
  ⟨some 18, .indexAddr 22 (.tmp 16) (.tmp 17), none, false⟩,
  ⟨some 19, .load 9 (.tmp 18), none, false⟩,
  ⟨some 20, .move (.tmp 1), none, false⟩,
  ⟨some 21, .move (.tmp 5), none, false⟩,
  ⟨some 22, .indexAddr 22 (.tmp 20) (.tmp 21), none, false⟩,
  ⟨some 23, .load 9 (.tmp 22), none, false⟩]
  [⟨some 24, .binOp .neq 9 (.tmp 19) (.tmp 23) 9, none, false⟩])
 (.cond (.tmp 24)
  (.seq (.region [⟨some 4, .assign (.const (.bool false)), none, false⟩])
  .ret)
  .skip))))
 (.region [⟨some 25, .binOp .add 3 (.tmp 13) (.const (.int .i64 1)) 3, none, false⟩,
  ⟨some 13, .move (.tmp 25), none, false⟩]))))
def pc26 : PC :=
 (.seq (.region [⟨some 4, .assign (.const (.bool false)), none, false⟩])
 (.seq (.seq (.region [⟨some 6, .move (.tmp 0), none, false⟩,
  ⟨some 7, .call ⟨.builtin .len, #[.tmp 6], #[22]⟩, none, false⟩,
  ⟨some 8, .move (.tmp 1), none, false⟩,
  ⟨some 9, .call ⟨.builtin .len, #[.tmp 8], #[22]⟩, none, false⟩,
  ⟨some 10, .binOp .neq 3 (.tmp 7) (.tmp 9) 3, none, false⟩])
 (.cond (.tmp 10)
  (.seq (.region [⟨some 4, .assign (.const (.bool false)), none, false⟩])
  .ret)
  .skip))
 (.seq (.seq (.region [⟨some 11, .move (.tmp 0), none, false⟩,
  ⟨some 12, .call ⟨.builtin .len, #[.tmp 11], #[22]⟩, none, false⟩,
  ⟨some 13, .move (.const (.int .i64 0)), none, false⟩])
 (.block 0 (.loop pc26L0)))
 (.seq (.region [⟨some 4, .assign (.const (.bool true)), none, false⟩])
 .ret))))
def fn26 : PFn := ⟨26, [.tmp 4], pc26, false⟩
theorem fnOk26 : FnOk Try.prog 26 fn26 := ⟨⟨_, _, [], Try.func26, rfl, by kernel_rfl, rfl, rfl, of_decide_eq_true (by kernel_rfl)⟩⟩

def pc27L0 : PC :=
 (.seq (.region [⟨some 18, .binOp .lss 3 (.tmp 17) (.tmp 16) 3, none, false⟩])
 (.seq (.cond (.tmp 18)
  .skip
  (.exit 0))
 (.seq (.block 1 (.seq (.region [⟨some 19, .move (.tmp 17), none, false⟩,
  ⟨some 20, .indexAddr 23 (.tmp 15) (.tmp 17), none, false⟩,
  ⟨some 21, .load 25 (.tmp 20), none, false⟩,
  ⟨some 8, .alloc 25, none, false⟩,
  ⟨some 7, .assign (.tmp 19), none, false⟩,
  ⟨none, .store 25 (.tmp 8) (.tmp 21), none, false⟩])
 (.seq (.region [⟨some 22, .move (.tmp 1), none, false⟩,
  ⟨some 23, .move (.tmp 7), none, false⟩,
  ⟨some 24, .indexAddr 23 (.tmp 22) (.tmp 23), none, false⟩,
  ⟨some 25, .load 25 (.tmp 24), none, false⟩,
  ⟨some 9, .alloc 25, none, false⟩,
  ⟨none, .store 25 (.tmp 9) (.tmp 25), none, false⟩])
 (.seq (.region [⟨some 26, .move (.tmp 2), none, false⟩,
  ⟨some 27, .load 25 (.tmp 8), none, false⟩,
  ⟨some 28, .load 25 (.tmp 9), none, false⟩,
  ⟨some 29, .call ⟨.value (.tmp 26), #[.tmp 27, .tmp 28], #[25, 25]⟩, none, false⟩,
  ⟨some 30, .unOp .not 4 (.tmp 29), none, false⟩])
 (.cond (.tmp 30)
  (.seq (.region [⟨some 6, .assign (.const (.bool false)), none, false⟩])
  .ret)
  .skip)))))
 (.region [⟨some 31, .binOp .add 3 (.tmp 17) (.const (.int .i64 1)) 3, none, false⟩,
  ⟨some 17, .move (.tmp 31), none, false⟩]))))
def pc27 : PC :=
 (.seq (.region [⟨some 6, .assign (.const (.bool false)), none, false⟩])
 (.seq (.seq (.region [⟨some 10, .move (.tmp 0), none, false⟩,
  ⟨some 11, .call ⟨.builtin .len, #[.tmp 10], #[23]⟩, none, false⟩,
  ⟨some 12, .move (.tmp 1), none, false⟩,
  ⟨some 13, .call ⟨.builtin .len, #[.tmp 12], #[23]⟩, none, false⟩,
  ⟨some 14, .binOp .neq 3 (.tmp 11) (.tmp 13) 3, none, false⟩])
 (.cond (.tmp 14)
  (.seq (.region [⟨some 6, .assign (.const (.bool false)), none, false⟩])
  .ret)
  .skip))
 (.seq (.seq (.region [⟨some 15, .move (.tmp 0), none, false⟩,
  ⟨some 16, .call ⟨.builtin .len, #[.tmp 15], #[23]⟩, none, false⟩,
  ⟨some 17, .move (.const (.int .i64 0)), none, false⟩])
 (.block 0 (.loop pc27L0)))
 (.seq (.region [⟨some 6, .assign (.const (.bool true)), none, false⟩])
 .ret))))
def fn27 : PFn := ⟨32, [.tmp 6], pc27, false⟩
theorem fnOk27 : FnOk Try.prog 27 fn27 := ⟨⟨_, _, [], Try.func27, rfl, by kernel_rfl, rfl, rfl, of_decide_eq_true (by kernel_rfl)⟩⟩

def pc16 : PC :=
 (.seq (.region [⟨some 2, .box 25 (.tmp 0), none, false⟩,
  ⟨some 3, .box 25 (.tmp 1), none, false⟩,
  ⟨some 4, .assign (.const (.bool false)), none, false⟩])
 (.seq (.region [⟨some 5, .fieldAddr 25 (.tmp 2) 0, none, false⟩,
  ⟨some 6, .load 3 (.tmp 5), none, false⟩,
  ⟨some 7, .fieldAddr 25 (.tmp 3) 0, none, false⟩,
  ⟨some 8, .load 3 (.tmp 7), none, false⟩,
  ⟨some 9, .binOp .eql 3 (.tmp 6) (.tmp 8) 3, none, false⟩,
  ⟨some 10, .move (.tmp 9), none, false⟩,
  ⟨some 11, .fieldAddr 25 (.tmp 2) 1, some (10, true), false⟩,
  ⟨some 12, .load 9 (.tmp 11), some (10, true), false⟩,
  ⟨some 13, .fieldAddr 25 (.tmp 3) 1, some (10, true), false⟩,
  ⟨some 14, .load 9 (.tmp 13), some (10, true), false⟩,
  ⟨some 15, .binOp .eql 9 (.tmp 12) (.tmp 14) 9, some (10, true), false⟩,
  ⟨some 16, .pick (.tmp 10) (.tmp 15) (.const (.bool false)), none, false⟩,
  ⟨some 17, .move (.tmp 16), none, false⟩,
  ⟨some 18, .fieldAddr 25 (.tmp 2) 2, some (17, true), false⟩,
  ⟨some 19, .load 9 (.tmp 18), some (17, true), false⟩,
  ⟨some 20, .fieldAddr 25 (.tmp 3) 2, some (17, true), false⟩,
  ⟨some 21, .load 9 (.tmp 20), some (17, true), false⟩,
  ⟨some 22, .binOp .eql 9 (.tmp 19) (.tmp 21) 9, some (17, true), false⟩,
  ⟨some 23, .pick (.tmp 17) (.tmp 22) (.const (.bool false)), none, false⟩,
  ⟨some 24, .move (.tmp 23), none, false⟩,
  ⟨some 25, .fieldAddr 25 (.tmp 2) 3, some (24, true), false⟩,
  ⟨some 26, .load 22 (.tmp 25), some (24, true), false⟩,
  ⟨some 27, .fieldAddr 25 (.tmp 3) 3, some (24, true), false⟩,
  ⟨some 28, .load 22 (.tmp 27), some (24, true), false⟩,
  ⟨some 29, .call ⟨.value (.func 26), #[.tmp 26, .tmp 28], #[22, 22]⟩, some (24, true), false⟩,
  ⟨some 30, .pick (.tmp 24) (.tmp 29) (.const (.bool false)), none, false⟩,
  ⟨some 31, .move (.tmp 30), none, false⟩,
  ⟨some 32, .fieldAddr 25 (.tmp 2) 4, some (31, true), false⟩,
  ⟨some 33, .load 23 (.tmp 32), some (31, true), false⟩,
  ⟨some 34, .fieldAddr 25 (.tmp 3) 4, some (31, true), false⟩,
  ⟨some 35, .load 23 (.tmp 34), some (31, true), false⟩,
  ⟨some 36, .call ⟨.value (.func 27), #[.tmp 33, .tmp 35, .func 16], #[23, 23, 31]⟩, some (31, true), false⟩,
  ⟨some 37, .pick (.tmp 31) (.tmp 36) (.const (.bool false)), none, false⟩,
  ⟨some 4, .assign (.tmp 37), none, false⟩])
 .ret))
def fn16 : PFn := ⟨38, [.tmp 4], pc16, false⟩
theorem fnOk16 : FnOk Try.prog 16 fn16 := ⟨⟨_, _, [], Try.func16, rfl, by kernel_rfl, rfl, rfl, of_decide_eq_true (by kernel_rfl)⟩⟩

def pc40 : PC :=
 (.seq (.region [⟨some 2, .assign (.const (.int .u8 0)), none, false⟩])
 (.seq (.seq (.draw [⟨some 3, .move (.tmp 0), none, false⟩,
  ⟨some 4, .nilCheck (.tmp 3), none, false⟩,
  ⟨some 5, .fieldAddr 48 (.tmp 4) 3, none, false⟩,
  ⟨some 6, .load 4 (.tmp 5), none, false⟩,
  ⟨some 7, .move (.tmp 6), none, false⟩,
  ⟨some 8, .move (.tmp 0), some (7, false), false⟩,
  ⟨some 9, .nilCheck (.tmp 8), some (7, false), false⟩,
  ⟨some 10, .fieldAddr 48 (.tmp 9) 1, some (7, false), false⟩,
  ⟨some 11, .load 3 (.tmp 10), some (7, false), false⟩,
  ⟨some 12, .move (.tmp 0), some (7, false), false⟩,
  ⟨some 13, .nilCheck (.tmp 12), some (7, false), false⟩,
  ⟨some 14, .fieldAddr 48 (.tmp 13) 0, some (7, false), false⟩,
  ⟨some 15, .load 9 (.tmp 14), some (7, false), false⟩,
  ⟨some 16, .call ⟨.builtin .len, #[.tmp 15], #[9]⟩, some (7, false), false⟩]
  [⟨some 17, .binOp .geq 3 (.tmp 11) (.tmp 16) 3, some (7, false), false⟩,
  ⟨some 18, .pick (.tmp 7) (.const (.bool true)) (.tmp 17), none, false⟩])
 (.cond (.tmp 18)
  (.seq (.region [⟨some 2, .assign (.const (.int .u8 0)), none, false⟩])
  .ret)
  .skip))
 (.seq (.draw [⟨some 19, .move (.tmp 0), none, false⟩,
  ⟨some 20, .nilCheck (.tmp 19), none, false⟩,
  ⟨some 21, .fieldAddr 48 (.tmp 20) 0, none, false⟩,
  ⟨some 22, .load 9 (.tmp 21), none, false⟩,
  ⟨some 23, .move (.tmp 0), none, false⟩,
  ⟨some 24, .nilCheck (.tmp 23), none, false⟩,
  ⟨some 25, .fieldAddr 48 (.tmp 24) 1, none, false⟩,
  ⟨some 26, .load 3 (.tmp 25), none, false⟩]
  [⟨some 27, .index 9 (.tmp 22) (.tmp 26), none, false⟩,
  ⟨some 2, .assign (.tmp 27), none, false⟩])
 .ret)))
def fn40 : PFn := ⟨28, [.tmp 2], pc40, false⟩
theorem fnOk40 : FnOk Try.prog 40 fn40 := ⟨⟨_, _, [], Try.func40, rfl, by kernel_rfl, rfl, rfl, of_decide_eq_true (by kernel_rfl)⟩⟩

def pc39 : PC :=
 (.seq (.seq (.drawC [⟨some 4, .move (.tmp 0), none, false⟩,
  ⟨some 5, .call ⟨.value (.func 40), #[.tmp 4], #[46]⟩, none, false⟩,
  ⟨some 6, .move (.tmp 1), none, false⟩,
  ⟨some 7, .binOp .neq 5 (.tmp 5) (.tmp 6) 5, none, false⟩,
  ⟨some 8, .move (.tmp 7), none, false⟩,
  ⟨some 9, .move (.tmp 0), some (8, false), false⟩,
  ⟨some 10, .nilCheck (.tmp 9), some (8, false), false⟩,
  ⟨some 11, .fieldAddr 48 (.tmp 10) 1, some (8, false), false⟩,
  ⟨some 12, .load 3 (.tmp 11), some (8, false), false⟩,
  ⟨some 13, .move (.tmp 0), some (8, false), false⟩,
  ⟨some 14, .nilCheck (.tmp 13), some (8, false), false⟩,
  ⟨some 15, .fieldAddr 48 (.tmp 14) 0, some (8, false), false⟩,
  ⟨some 16, .load 9 (.tmp 15), some (8, false), false⟩,
  ⟨some 17, .call ⟨.builtin .len, #[.tmp 16], #[9]⟩, some (8, false), false⟩]
  [⟨some 18, .binOp .geq 3 (.tmp 12) (.tmp 17) 3, some (8, false), false⟩,
  ⟨some 19, .pick (.tmp 8) (.const (.bool true)) (.tmp 18), none, false⟩])
 (.cond (.tmp 19)
  (.seq (.region [⟨some 20, .move (.tmp 0), none, false⟩,
   ⟨some 21, .nilCheck (.tmp 20), none, false⟩,
   ⟨some 22, .fieldAddr 48 (.tmp 21) 3, none, false⟩,
   ⟨none, .store 4 (.tmp 22) (.const (.bool true)), none, false⟩])
  .ret)
  .skip))
 (.region [⟨some 23, .move (.tmp 0), none, false⟩,
  ⟨some 24, .nilCheck (.tmp 23), none, false⟩,
  ⟨some 25, .fieldAddr 48 (.tmp 24) 1, none, false⟩,
  ⟨some 26, .load 3 (.tmp 25), none, false⟩,
  ⟨some 27, .binOp .add 3 (.tmp 26) (.const (.int .i64 1)) 3, none, false⟩,
  ⟨some 28, .nilCheck (.tmp 23), none, false⟩,
  ⟨some 29, .fieldAddr 48 (.tmp 28) 1, none, false⟩,
  ⟨none, .store 3 (.tmp 29) (.tmp 27), none, false⟩]))
def fn39 : PFn := ⟨30, [], pc39, false⟩
theorem fnOk39 : FnOk Try.prog 39 fn39 := ⟨⟨_, _, [0], Try.func39, rfl, by kernel_rfl, rfl, rfl, of_decide_eq_true (by kernel_rfl)⟩⟩

def pc46L0 : PC :=
 (.seq (.seq (.region [⟨some 7, .move (.tmp 0), none, false⟩,
  ⟨some 8, .nilCheck (.tmp 7), none, false⟩,
  ⟨some 9, .fieldAddr 48 (.tmp 8) 3, none, false⟩,
  ⟨some 10, .load 4 (.tmp 9), none, false⟩,
  ⟨some 11, .unOp .not 4 (.tmp 10), none, false⟩])
 (.cond (.tmp 11)
  .skip
  (.exit 0)))
 (.block 1 (.seq (.region [⟨some 12, .move (.tmp 0), none, false⟩,
  ⟨some 13, .call ⟨.value (.func 40), #[.tmp 12], #[46]⟩, none, false⟩,
  ⟨some 4, .assign (.tmp 13), none, false⟩])
 (.seq (.seq (.draw [⟨some 14, .move (.tmp 0), none, false⟩,
  ⟨some 15, .nilCheck (.tmp 14), none, false⟩,
  ⟨some 16, .fieldAddr 48 (.tmp 15) 1, none, false⟩,
  ⟨some 17, .load 3 (.tmp 16), none, false⟩,
  ⟨some 18, .move (.tmp 0), none, false⟩,
  ⟨some 19, .nilCheck (.tmp 18), none, false⟩,
  ⟨some 20, .fieldAddr 48 (.tmp 19) 0, none, false⟩,
  ⟨some 21, .load 9 (.tmp 20), none, false⟩,
  ⟨some 22, .call ⟨.builtin .len, #[.tmp 21], #[9]⟩, none, false⟩]
  [⟨some 23, .binOp .geq 3 (.tmp 17) (.tmp 22) 3, none, false⟩,
  ⟨some 24, .move (.tmp 23), none, false⟩,
  ⟨some 25, .move (.tmp 4), some (24, false), false⟩,
  ⟨some 26, .binOp .eql 5 (.tmp 25) (.const (.int .u8 42)) 5, some (24, false), false⟩,
  ⟨some 27, .pick (.tmp 24) (.const (.bool true)) (.tmp 26), none, false⟩,
  ⟨some 28, .move (.tmp 27), none, false⟩,
  ⟨some 29, .move (.tmp 4), some (28, false), false⟩,
  ⟨some 30, .binOp .eql 5 (.tmp 29) (.const (.int .u8 40)) 5, some (28, false), false⟩,
  ⟨some 31, .pick (.tmp 28) (.const (.bool true)) (.tmp 30), none, false⟩,
  ⟨some 32, .move (.tmp 31), none, false⟩,
  ⟨some 33, .move (.tmp 4), some (32, false), false⟩,
  ⟨some 34, .binOp .eql 5 (.tmp 33) (.const (.int .u8 41)) 5, some (32, false), false⟩,
  ⟨some 35, .pick (.tmp 32) (.const (.bool true)) (.tmp 34), none, false⟩])
 (.cond (.tmp 35)
  (.exit 0)
  .skip))
 (.seq (.region [⟨some 36, .move (.tmp 0), none, false⟩,
  ⟨some 37, .nilCheck (.tmp 36), none, false⟩,
  ⟨some 38, .fieldAddr 48 (.tmp 37) 1, none, false⟩,
  ⟨some 39, .load 3 (.tmp 38), none, false⟩,
  ⟨some 40, .binOp .add 3 (.tmp 39) (.const (.int .i64 1)) 3, none, false⟩,
  ⟨some 41, .nilCheck (.tmp 36), none, false⟩,
  ⟨some 42, .fieldAddr 48 (.tmp 41) 1, none, false⟩,
  ⟨none, .store 3 (.tmp 42) (.tmp 40), none, false⟩])
 (.seq (.seq (.region [⟨some 43, .move (.tmp 4), none, false⟩,
  ⟨some 44, .binOp .eql 5 (.tmp 43) (.const (.int .u8 92)) 5, none, false⟩])
 (.cond (.tmp 44)
  (.seq (.region [⟨some 45, .move (.tmp 0), none, false⟩,
   ⟨some 46, .call ⟨.value (.func 40), #[.tmp 45], #[46]⟩, none, false⟩,
   ⟨some 47, .call ⟨.value (.func 49), #[.const (.string ⟨#[48, 49, 50, 51, 52, 53, 54, 55, 56, 57, 97, 98, 99, 100, 101, 102]⟩), .tmp 46], #[9, 5]⟩, none, false⟩,
   ⟨some 5, .assign (.tmp 47), none, false⟩,
   ⟨some 6, .assign (.const (.int .i64 0)), none, false⟩])
  (.seq (.region [⟨some 48, .move (.tmp 0), none, false⟩,
   ⟨some 49, .nilCheck (.tmp 48), none, false⟩,
   ⟨some 50, .fieldAddr 48 (.tmp 49) 1, none, false⟩,
   ⟨some 51, .load 3 (.tmp 50), none, false⟩,
   ⟨some 52, .binOp .add 3 (.tmp 51) (.const (.int .i64 1)) 3, none, false⟩,
   ⟨some 53, .nilCheck (.tmp 48), none, false⟩,
   ⟨some 54, .fieldAddr 48 (.tmp 53) 1, none, false⟩,
   ⟨none, .store 3 (.tmp 54) (.tmp 52), none, false⟩])
  (.seq (.region [⟨some 55, .move (.tmp 0), none, false⟩,
   ⟨some 56, .call ⟨.value (.func 40), #[.tmp 55], #[46]⟩, none, false⟩,
   ⟨some 57, .call ⟨.value (.func 49), #[.const (.string ⟨#[48, 49, 50, 51, 52, 53, 54, 55, 56, 57, 97, 98, 99, 100, 101, 102]⟩), .tmp 56], #[9, 5]⟩, none, false⟩,
   ⟨some 6, .assign (.tmp 57), none, false⟩])
  (.seq (.region [⟨some 58, .move (.tmp 0), none, false⟩,
   ⟨some 59, .nilCheck (.tmp 58), none, false⟩,
   ⟨some 60, .fieldAddr 48 (.tmp 59) 1, none, false⟩,
   ⟨some 61, .load 3 (.tmp 60), none, false⟩,
   ⟨some 62, .binOp .add 3 (.tmp 61) (.const (.int .i64 1)) 3, none, false⟩,
   ⟨some 63, .nilCheck (.tmp 58), none, false⟩,
   ⟨some 64, .fieldAddr 48 (.tmp 63) 1, none, false⟩,
   ⟨none, .store 3 (.tmp 64) (.tmp 62), none, false⟩])
  (.seq (.region [⟨some 65, .move (.tmp 0), none, false⟩,
   ⟨some 66, .move (.tmp 0), none, false⟩,
   ⟨some 67, .nilCheck (.tmp 66), none, false⟩,
   ⟨some 68, .fieldAddr 48 (.tmp 67) 3, none, false⟩,
   ⟨some 69, .load 4 (.tmp 68), none, false⟩,
   ⟨some 70, .move (.tmp 69), none, false⟩,
   ⟨some 71, .move (.tmp 5), some (70, false), false⟩,
   ⟨some 72, .binOp .lss 3 (.tmp 71) (.const (.int .i64 0)) 3, some (70, false), false⟩,
   ⟨some 73, .pick (.tmp 70) (.const (.bool true)) (.tmp 72), none, false⟩,
   ⟨some 74, .move (.tmp 73), none, false⟩,
   ⟨some 75, .move (.tmp 6), some (74, false), false⟩,
   ⟨some 76, .binOp .lss 3 (.tmp 75) (.const (.int .i64 0)) 3, some (74, false), false⟩,
   ⟨some 77, .pick (.tmp 74) (.const (.bool true)) (.tmp 76), none, false⟩,
   ⟨some 78, .nilCheck (.tmp 65), none, false⟩,
   ⟨some 79, .fieldAddr 48 (.tmp 78) 3, none, false⟩,
   ⟨none, .store 4 (.tmp 79) (.tmp 77), none, false⟩])
  (.region [⟨some 80, .move (.tmp 5), none, false⟩,
   ⟨some 81, .call ⟨.builtin .max, #[.tmp 80, .const (.int .i64 0)], #[3, 3]⟩, none, false⟩,
   ⟨some 82, .binOp .shl 3 (.tmp 81) (.const (.int .u64 4)) 51, none, false⟩,
   ⟨some 83, .move (.tmp 6), none, false⟩,
   ⟨some 84, .call ⟨.builtin .max, #[.tmp 83, .const (.int .i64 0)], #[3, 3]⟩, none, false⟩,
   ⟨some 85, .binOp .or 3 (.tmp 82) (.tmp 84) 3, none, false⟩,
   ⟨some 86, .convert 3 5 (.tmp 85), none, false⟩,
   ⟨some 4, .assign (.tmp 86), none, false⟩]))))))
  .skip))
 (.region [⟨some 87, .move (.tmp 3), none, false⟩,
  ⟨some 88, .move (.tmp 4), none, false⟩,
  ⟨some 89, .buildSlice 36 1 #[(0, .tmp 88)], none, false⟩,
  ⟨some 90, .call ⟨.builtin .append, #[.tmp 87, .tmp 89], #[36, 36]⟩, none, false⟩,
  ⟨some 3, .assign (.tmp 90), none, false⟩])))))))
def pc46 : PC :=
 (.seq (.region [⟨some 2, .assign (.const (.string ⟨#[]⟩)), none, false⟩])
 (.seq (.region [⟨some 3, .assign (.const (.slice none 0 0)), none, false⟩])
 (.seq (.block 0 (.loop pc46L0))
 (.seq (.region [⟨some 91, .move (.tmp 3), none, false⟩,
  ⟨some 92, .convert 36 9 (.tmp 91), none, false⟩,
  ⟨some 2, .assign (.tmp 92), none, false⟩])
 .ret))))
def fn46 : PFn := ⟨93, [.tmp 2], pc46, false⟩
theorem fnOk46 : FnOk Try.prog 46 fn46 := ⟨⟨_, _, [], Try.func46, rfl, by kernel_rfl, rfl, rfl, of_decide_eq_true (by kernel_rfl)⟩⟩

def pc41L0 : PC :=
 (.seq (.seq (.region [⟨some 12, .move (.tmp 4), none, false⟩,
  ⟨some 13, .binOp .geq 5 (.tmp 12) (.const (.int .u8 97)) 5, none, false⟩,
  ⟨some 14, .move (.tmp 13), none, false⟩,
  ⟨some 15, .move (.tmp 4), some (14, true), false⟩,
  ⟨some 16, .binOp .leq 5 (.tmp 15) (.const (.int .u8 122)) 5, some (14, true), false⟩,
  ⟨some 17, .pick (.tmp 14) (.tmp 16) (.const (.bool false)), none, false⟩,
  ⟨some 18, .move (.tmp 17), none, false⟩,
  ⟨some 19, .move (.tmp 4), some (18, false), false⟩,
  ⟨some 20, .binOp .geq 5 (.tmp 19) (.const (.int .u8 48)) 5, some (18, false), false⟩,
  ⟨some 21, .move (.tmp 20), some (18, false), false⟩,
  ⟨some 22, .move (.tmp 4), some (21, true), false⟩,
  ⟨some 23, .binOp .leq 5 (.tmp 22) (.const (.int .u8 57)) 5, some (21, true), false⟩,
  ⟨some 24, .pick (.tmp 21) (.tmp 23) (.const (.bool false)), some (18, false), false⟩,
  ⟨some 25, .pick (.tmp 18) (.const (.bool true)) (.tmp 24), none, false⟩,
  ⟨some 26, .move (.tmp 25), none, false⟩,
  ⟨some 27, .move (.tmp 4), some (26, false), false⟩,
  ⟨some 28, .binOp .eql 5 (.tmp 27) (.const (.int .u8 45)) 5, some (26, false), false⟩,
  ⟨some 29, .pick (.tmp 26) (.const (.bool true)) (.tmp 28), none, false⟩])
 (.cond (.tmp 29)
  .skip
  (.exit 0)))
 (.seq (.block 1 (.region [⟨some 32, .move (.tmp 0), none, false⟩,
  ⟨some 33, .nilCheck (.tmp 32), none, false⟩,
  ⟨some 34, .fieldAddr 48 (.tmp 33) 1, none, false⟩,
  ⟨some 35, .load 3 (.tmp 34), none, false⟩,
  ⟨some 36, .binOp .add 3 (.tmp 35) (.const (.int .i64 1)) 3, none, false⟩,
  ⟨some 37, .nilCheck (.tmp 32), none, false⟩,
  ⟨some 38, .fieldAddr 48 (.tmp 37) 1, none, false⟩,
  ⟨none, .store 3 (.tmp 38) (.tmp 36), none, false⟩]))
 (.region [⟨some 30, .move (.tmp 0), none, false⟩,
  ⟨some 31, .call ⟨.value (.func 40), #[.tmp 30], #[46]⟩, none, false⟩,
  ⟨some 4, .assign (.tmp 31), none, false⟩])))
def pc41L3 : PC :=
 (.seq (.seq (.region [⟨some 96, .move (.tmp 0), none, false⟩,
  ⟨some 97, .call ⟨.value (.func 40), #[.tmp 96], #[46]⟩, none, false⟩,
  ⟨some 98, .binOp .eql 5 (.tmp 97) (.const (.int .u8 42)) 5, none, false⟩])
 (.cond (.tmp 98)
  .skip
  (.exit 3)))
 (.block 4 (.seq (.region [⟨some 99, .move (.tmp 0), none, false⟩,
  ⟨some 100, .nilCheck (.tmp 99), none, false⟩,
  ⟨some 101, .fieldAddr 48 (.tmp 100) 1, none, false⟩,
  ⟨some 102, .load 3 (.tmp 101), none, false⟩,
  ⟨some 103, .binOp .add 3 (.tmp 102) (.const (.int .i64 1)) 3, none, false⟩,
  ⟨some 104, .nilCheck (.tmp 99), none, false⟩,
  ⟨some 105, .fieldAddr 48 (.tmp 104) 1, none, false⟩,
  ⟨none, .store 3 (.tmp 105) (.tmp 103), none, false⟩])
 (.drawC [⟨some 106, .fieldAddr 25 (.tmp 5) 3, none, false⟩,
  ⟨some 107, .load 22 (.tmp 106), none, false⟩,
  ⟨some 108, .move (.tmp 0), none, false⟩,
  ⟨some 109, .call ⟨.value (.func 46), #[.tmp 108], #[46]⟩, none, false⟩,
  ⟨some 110, .buildSlice 22 1 #[(0, .tmp 109)], none, false⟩]
  [⟨some 111, .call ⟨.builtin .append, #[.tmp 107, .tmp 110], #[22, 22]⟩, none, false⟩,
  ⟨some 112, .fieldAddr 25 (.tmp 5) 3, none, false⟩,
  ⟨none, .store 22 (.tmp 112) (.tmp 111), none, false⟩]))))
def pc41 : PC :=
 (.seq (.region [⟨some 2, .alloc 25, none, false⟩])
 (.seq (.region [⟨some 6, .move (.tmp 0), none, false⟩,
  ⟨some 7, .nilCheck (.tmp 6), none, false⟩,
  ⟨some 8, .fieldAddr 48 (.tmp 7) 1, none, false⟩,
  ⟨some 9, .load 3 (.tmp 8), none, false⟩,
  ⟨some 3, .assign (.tmp 9), none, false⟩])
 (.seq (.seq (.region [⟨some 10, .move (.tmp 0), none, false⟩,
  ⟨some 11, .call ⟨.value (.func 40), #[.tmp 10], #[46]⟩, none, false⟩,
  ⟨some 4, .assign (.tmp 11), none, false⟩])
 (.block 0 (.loop pc41L0)))
 (.seq (.drawC [⟨some 39, .move (.tmp 0), none, false⟩,
  ⟨some 40, .nilCheck (.tmp 39), none, false⟩,
  ⟨some 41, .fieldAddr 48 (.tmp 40) 0, none, false⟩,
  ⟨some 42, .load 9 (.tmp 41), none, false⟩,
  ⟨some 43, .move (.tmp 3), none, false⟩,
  ⟨some 44, .move (.tmp 0), none, false⟩,
  ⟨some 45, .nilCheck (.tmp 44), none, false⟩,
  ⟨some 46, .fieldAddr 48 (.tmp 45) 1, none, false⟩,
  ⟨some 47, .load 3 (.tmp 46), none, false⟩,
  ⟨some 48, .call ⟨.builtin .min, #[.tmp 43, .tmp 47], #[3, 3]⟩, none, false⟩,
  ⟨some 49, .move (.tmp 0), none, false⟩,
  ⟨some 50, .nilCheck (.tmp 49), none, false⟩,
  ⟨some 51, .fieldAddr 48 (.tmp 50) 1, none, false⟩,
  ⟨some 52, .load 3 (.tmp 51), none, false⟩,
  ⟨some 53, .slice 9 (.tmp 42) (some (.tmp 48)) (some (.tmp 52)) none, none, false⟩,
  ⟨some 54, .build 25 #[(1, .tmp 53), (0, .const (.int .i64 4))], none, false⟩,
  ⟨some 5, .alloc 25, none, false⟩]
  [⟨none, .store 25 (.tmp 5) (.tmp 54), none, false⟩])
 (.seq (.seq (.region [⟨some 55, .move (.tmp 0), none, false⟩,
  ⟨some 56, .call ⟨.value (.func 40), #[.tmp 55], #[46]⟩, none, false⟩])
 (.block 2 (.seq (.region [⟨some 58, .binOp .eql 5 (.tmp 56) (.const (.int .u8 62)) 5, none, false⟩,
  ⟨some 57, .assign (.tmp 58), none, false⟩])
 (.cond (.tmp 57)
  (.seq (.region [⟨some 59, .fieldAddr 25 (.tmp 5) 0, none, false⟩,
   ⟨none, .store 3 (.tmp 59) (.const (.int .i64 5)), none, false⟩])
  (.region [⟨some 60, .move (.tmp 0), none, false⟩,
   ⟨some 61, .nilCheck (.tmp 60), none, false⟩,
   ⟨some 62, .fieldAddr 48 (.tmp 61) 1, none, false⟩,
   ⟨some 63, .load 3 (.tmp 62), none, false⟩,
   ⟨some 64, .binOp .add 3 (.tmp 63) (.const (.int .i64 1)) 3, none, false⟩,
   ⟨some 65, .nilCheck (.tmp 60), none, false⟩,
   ⟨some 66, .fieldAddr 48 (.tmp 65) 1, none, false⟩,
   ⟨none, .store 3 (.tmp 66) (.tmp 64), none, false⟩]))
  (.seq (.region [⟨some 68, .binOp .eql 5 (.tmp 56) (.const (.int .u8 60)) 5, none, false⟩,
   ⟨some 67, .assign (.tmp 68), none, false⟩])
  (.cond (.tmp 67)
   (.seq (.region [⟨some 69, .fieldAddr 25 (.tmp 5) 0, none, false⟩,
    ⟨none, .store 3 (.tmp 69) (.const (.int .i64 6)), none, false⟩])
   (.region [⟨some 70, .move (.tmp 0), none, false⟩,
    ⟨some 71, .nilCheck (.tmp 70), none, false⟩,
    ⟨some 72, .fieldAddr 48 (.tmp 71) 1, none, false⟩,
    ⟨some 73, .load 3 (.tmp 72), none, false⟩,
    ⟨some 74, .binOp .add 3 (.tmp 73) (.const (.int .i64 1)) 3, none, false⟩,
    ⟨some 75, .nilCheck (.tmp 70), none, false⟩,
    ⟨some 76, .fieldAddr 48 (.tmp 75) 1, none, false⟩,
    ⟨none, .store 3 (.tmp 76) (.tmp 74), none, false⟩]))
   .skip))))))
 (.seq (.region [⟨some 77, .move (.tmp 0), none, false⟩,
  ⟨some 78, .call ⟨.value (.func 39), #[.tmp 77, .const (.int .u8 61)], #[46, 5]⟩, none, false⟩])
 (.seq (.region [⟨some 79, .move (.tmp 0), none, false⟩,
  ⟨some 80, .call ⟨.value (.func 46), #[.tmp 79], #[46]⟩, none, false⟩,
  ⟨some 81, .fieldAddr 25 (.tmp 5) 2, none, false⟩,
  ⟨none, .store 9 (.tmp 81) (.tmp 80), none, false⟩])
 (.seq (.seq (.region [⟨some 82, .fieldAddr 25 (.tmp 5) 0, none, false⟩,
  ⟨some 83, .load 3 (.tmp 82), none, false⟩,
  ⟨some 84, .binOp .neq 3 (.tmp 83) (.const (.int .i64 4)) 3, none, false⟩,
  ⟨some 85, .move (.tmp 84), none, false⟩,
  ⟨some 86, .move (.tmp 0), some (85, false), false⟩,
  ⟨some 87, .call ⟨.value (.func 40), #[.tmp 86], #[46]⟩, some (85, false), false⟩,
  ⟨some 88, .binOp .neq 5 (.tmp 87) (.const (.int .u8 42)) 5, some (85, false), false⟩,
  ⟨some 89, .pick (.tmp 85) (.const (.bool true)) (.tmp 88), none, false⟩])
 (.cond (.tmp 89)
  (.seq (.region [⟨some 90, .load 25 (.tmp 5), none, false⟩,
   ⟨none, .store 25 (.tmp 2) (.tmp 90), none, false⟩])
  .ret)
  .skip))
 (.seq (.region [⟨some 91, .fieldAddr 25 (.tmp 5) 2, none, false⟩,
  ⟨some 92, .load 9 (.tmp 91), none, false⟩,
  ⟨some 93, .buildSlice 22 1 #[(0, .tmp 92)], none, false⟩,
  ⟨some 94, .fieldAddr 25 (.tmp 5) 3, none, false⟩,
  ⟨none, .store 22 (.tmp 94) (.tmp 93), none, false⟩,
  ⟨some 95, .fieldAddr 25 (.tmp 5) 2, none, false⟩,
  ⟨none, .store 9 (.tmp 95) (.const (.string ⟨#[]⟩)), none, false⟩])
 (.seq (.block 3 (.loop pc41L3))
 (.seq (.seq (.region [⟨some 113, .fieldAddr 25 (.tmp 5) 0, none, false⟩,
  ⟨none, .store 3 (.tmp 113) (.const (.int .i64 8)), none, false⟩])
 (.seq (.region [⟨some 114, .fieldAddr 25 (.tmp 5) 3, none, false⟩,
  ⟨some 115, .load 22 (.tmp 114), none, false⟩,
  ⟨some 116, .call ⟨.builtin .len, #[.tmp 115], #[22]⟩, none, false⟩,
  ⟨some 117, .binOp .eql 3 (.tmp 116) (.const (.int .i64 2)) 3, none, false⟩,
  ⟨some 118, .move (.tmp 117), none, false⟩,
  ⟨some 119, .fieldAddr 25 (.tmp 5) 3, some (118, true), false⟩,
  ⟨some 120, .load 22 (.tmp 119), some (118, true), false⟩,
  ⟨some 121, .indexAddr 22 (.tmp 120) (.const (.int .i64 0)), some (118, true), false⟩,
  ⟨some 122, .load 9 (.tmp 121), some (118, true), false⟩,
  ⟨some 123, .binOp .eql 9 (.tmp 122) (.const (.string ⟨#[]⟩)) 9, some (118, true), false⟩,
  ⟨some 124, .pick (.tmp 118) (.tmp 123) (.const (.bool false)), none, false⟩,
  ⟨some 125, .move (.tmp 124), none, false⟩,
  ⟨some 126, .fieldAddr 25 (.tmp 5) 3, some (125, true), false⟩,
  ⟨some 127, .load 22 (.tmp 126), some (125, true), false⟩,
  ⟨some 128, .indexAddr 22 (.tmp 127) (.const (.int .i64 1)), some (125, true), false⟩,
  ⟨some 129, .load 9 (.tmp 128), some (125, true), false⟩,
  ⟨some 130, .binOp .eql 9 (.tmp 129) (.const (.string ⟨#[]⟩)) 9, some (125, true), false⟩,
  ⟨some 131, .pick (.tmp 125) (.tmp 130) (.const (.bool false)), none, false⟩])
 (.cond (.tmp 131)
  (.region [⟨some 132, .fieldAddr 25 (.tmp 5) 0, none, false⟩,
   ⟨none, .store 3 (.tmp 132) (.const (.int .i64 7)), none, false⟩,
   ⟨some 133, .fieldAddr 25 (.tmp 5) 3, none, false⟩,
   ⟨none, .store 22 (.tmp 133) (.const (.slice none 0 0)), none, false⟩])
  .skip)))
 (.seq (.region [⟨some 134, .load 25 (.tmp 5), none, false⟩,
  ⟨none, .store 25 (.tmp 2) (.tmp 134), none, false⟩])
 .ret))))))))))))
def fn41 : PFn := ⟨135, [.cell 2 25], pc41, false⟩
theorem fnOk41 : FnOk Try.prog 41 fn41 := ⟨⟨_, _, [6, 21], Try.func41, rfl, by kernel_rfl, rfl, rfl, of_decide_eq_true (by kernel_rfl)⟩⟩

def pc28L1 : PC :=
 (.seq (.seq (.region [⟨some 44, .move (.tmp 0), none, false⟩,
  ⟨some 45, .call ⟨.value (.func 40), #[.tmp 44], #[46]⟩, none, false⟩,
  ⟨some 46, .binOp .eql 5 (.tmp 45) (.const (.int .u8 40)) 5, none, false⟩])
 (.cond (.tmp 46)
  .skip
  (.exit 1)))
 (.block 2 (.drawC [⟨some 47, .fieldAddr 25 (.tmp 3) 4, none, false⟩,
  ⟨some 48, .load 23 (.tmp 47), none, false⟩,
  ⟨some 49, .move (.tmp 0), none, false⟩,
  ⟨some 50, .call ⟨.value (.func 28), #[.tmp 49], #[46]⟩, none, false⟩,
  ⟨some 51, .buildSlice 23 1 #[(0, .tmp 50)], none, false⟩]
  [⟨some 52, .call ⟨.builtin .append, #[.tmp 48, .tmp 51], #[23, 23]⟩, none, false⟩,
  ⟨some 53, .fieldAddr 25 (.tmp 3) 4, none, false⟩,
  ⟨none, .store 23 (.tmp 53) (.tmp 52), none, false⟩])))
def pc28 : PC :=
 (.seq (.region [⟨some 2, .alloc 25, none, false⟩])
 (.seq (.seq (.region [⟨some 4, .move (.tmp 0), none, false⟩,
  ⟨some 5, .nilCheck (.tmp 4), none, false⟩,
  ⟨some 6, .fieldAddr 48 (.tmp 5) 2, none, false⟩,
  ⟨some 7, .load 3 (.tmp 6), none, false⟩,
  ⟨some 8, .binOp .sub 3 (.tmp 7) (.const (.int .i64 1)) 3, none, false⟩,
  ⟨some 9, .nilCheck (.tmp 4), none, false⟩,
  ⟨some 10, .fieldAddr 48 (.tmp 9) 2, none, false⟩,
  ⟨none, .store 3 (.tmp 10) (.tmp 8), none, false⟩])
 (.seq (.region [⟨some 11, .move (.tmp 0), none, false⟩,
  ⟨some 12, .nilCheck (.tmp 11), none, false⟩,
  ⟨some 13, .fieldAddr 48 (.tmp 12) 2, none, false⟩,
  ⟨some 14, .load 3 (.tmp 13), none, false⟩,
  ⟨some 15, .binOp .lss 3 (.tmp 14) (.const (.int .i64 0)) 3, none, false⟩])
 (.cond (.tmp 15)
  (.region [⟨some 16, .move (.tmp 0), none, false⟩,
   ⟨some 17, .nilCheck (.tmp 16), none, false⟩,
   ⟨some 18, .fieldAddr 48 (.tmp 17) 3, none, false⟩,
   ⟨none, .store 4 (.tmp 18) (.const (.bool true)), none, false⟩])
  .skip)))
 (.seq (.region [⟨some 19, .move (.tmp 0), none, false⟩,
  ⟨some 20, .call ⟨.value (.func 39), #[.tmp 19, .const (.int .u8 40)], #[46, 5]⟩, none, false⟩])
 (.seq (.region [⟨some 3, .alloc 25, none, false⟩])
 (.seq (.seq (.region [⟨some 21, .move (.tmp 0), none, false⟩,
  ⟨some 22, .call ⟨.value (.func 40), #[.tmp 21], #[46]⟩, none, false⟩])
 (.block 0 (.seq (.region [⟨some 26, .binOp .eql 5 (.tmp 22) (.const (.int .u8 38)) 5, none, false⟩,
  ⟨some 25, .assign (.tmp 26), none, false⟩])
 (.cond (.tmp 25)
  (.region [⟨some 27, .fieldAddr 25 (.tmp 3) 0, none, false⟩,
   ⟨none, .store 3 (.tmp 27) (.const (.int .i64 1)), none, false⟩])
  (.seq (.region [⟨some 29, .binOp .eql 5 (.tmp 22) (.const (.int .u8 124)) 5, none, false⟩,
   ⟨some 28, .assign (.tmp 29), none, false⟩])
  (.cond (.tmp 28)
   (.region [⟨some 30, .fieldAddr 25 (.tmp 3) 0, none, false⟩,
    ⟨none, .store 3 (.tmp 30) (.const (.int .i64 2)), none, false⟩])
   (.seq (.region [⟨some 32, .binOp .eql 5 (.tmp 22) (.const (.int .u8 33)) 5, none, false⟩,
    ⟨some 31, .assign (.tmp 32), none, false⟩])
   (.cond (.tmp 31)
    (.region [⟨some 33, .fieldAddr 25 (.tmp 3) 0, none, false⟩,
     ⟨none, .store 3 (.tmp 33) (.const (.int .i64 3)), none, false⟩])
    (.region [⟨some 23, .move (.tmp 0), none, false⟩,
     ⟨some 24, .call ⟨.value (.func 41), #[.tmp 23], #[46]⟩, none, false⟩,
     ⟨none, .store 25 (.tmp 3) (.tmp 24), none, false⟩])))))))))
 (.seq (.seq (.region [⟨some 34, .fieldAddr 25 (.tmp 3) 0, none, false⟩,
  ⟨some 35, .load 3 (.tmp 34), none, false⟩,
  ⟨some 36, .call ⟨.value (.func 25), #[.tmp 35], #[3]⟩, none, false⟩])
 (.cond (.tmp 36)
  (.seq (.region [⟨some 37, .move (.tmp 0), none, false⟩,
   ⟨some 38, .nilCheck (.tmp 37), none, false⟩,
   ⟨some 39, .fieldAddr 48 (.tmp 38) 1, none, false⟩,
   ⟨some 40, .load 3 (.tmp 39), none, false⟩,
   ⟨some 41, .binOp .add 3 (.tmp 40) (.const (.int .i64 1)) 3, none, false⟩,
   ⟨some 42, .nilCheck (.tmp 37), none, false⟩,
   ⟨some 43, .fieldAddr 48 (.tmp 42) 1, none, false⟩,
   ⟨none, .store 3 (.tmp 43) (.tmp 41), none, false⟩])
  (.block 1 (.loop pc28L1)))
  .skip))
 (.seq (.region [⟨some 54, .move (.tmp 0), none, false⟩,
  ⟨some 55, .call ⟨.value (.func 39), #[.tmp 54, .const (.int .u8 41)], #[46, 5]⟩, none, false⟩])
 (.seq (.region [⟨some 56, .load 25 (.tmp 3), none, false⟩,
  ⟨none, .store 25 (.tmp 2) (.tmp 56), none, false⟩])
 .ret))))))))
def fn28 : PFn := ⟨57, [.cell 2 25], pc28, false⟩
theorem fnOk28 : FnOk Try.prog 28 fn28 := ⟨⟨_, _, [17], Try.func28, rfl, by kernel_rfl, rfl, rfl, of_decide_eq_true (by kernel_rfl)⟩⟩

def pc18 : PC :=
 (.seq (.region [⟨some 2, .alloc 25, none, false⟩,
  ⟨some 3, .assign (.const (.int .i64 0)), none, false⟩])
 (.seq (.region [⟨some 6, .move (.tmp 0), none, false⟩,
  ⟨some 7, .build 48 #[(0, .tmp 6), (2, .const (.int .i64 20))], none, false⟩,
  ⟨some 8, .box 48 (.tmp 7), none, false⟩,
  ⟨some 4, .assign (.tmp 8), none, false⟩])
 (.seq (.region [⟨some 9, .move (.tmp 4), none, false⟩,
  ⟨some 10, .call ⟨.value (.func 28), #[.tmp 9], #[46]⟩, none, false⟩,
  ⟨some 5, .alloc 25, none, false⟩,
  ⟨none, .store 25 (.tmp 5) (.tmp 10), none, false⟩])
 (.seq (.seq (.region [⟨some 11, .move (.tmp 4), none, false⟩,
  ⟨some 12, .nilCheck (.tmp 11), none, false⟩,
  ⟨some 13, .fieldAddr 48 (.tmp 12) 3, none, false⟩,
  ⟨some 14, .load 4 (.tmp 13), none, false⟩,
  ⟨some 15, .move (.tmp 14), none, false⟩,
  ⟨some 16, .move (.tmp 0), some (15, false), false⟩,
  ⟨some 17, .binOp .eql 9 (.tmp 16) (.const (.string ⟨#[]⟩)) 9, some (15, false), false⟩,
  ⟨some 18, .pick (.tmp 15) (.const (.bool true)) (.tmp 17), none, false⟩,
  ⟨some 19, .move (.tmp 18), none, false⟩,
  ⟨some 20, .load 25 (.tmp 5), some (19, false), false⟩,
  ⟨some 21, .call ⟨.value (.func 13), #[.tmp 20], #[25]⟩, some (19, false), false⟩,
  ⟨some 22, .move (.tmp 0), some (19, false), false⟩,
  ⟨some 23, .binOp .neq 9 (.tmp 21) (.tmp 22) 9, some (19, false), false⟩,
  ⟨some 24, .pick (.tmp 19) (.const (.bool true)) (.tmp 23), none, false⟩])
 (.cond (.tmp 24)
  (.seq (.region [⟨some 25, .build 25 #[], none, false⟩,
   ⟨none, .store 25 (.tmp 2) (.tmp 25), none, false⟩,
   ⟨some 3, .assign (.const (.int .i64 18)), none, false⟩])
  .ret)
  .skip))
 (.seq (.region [⟨some 26, .load 25 (.tmp 5), none, false⟩,
  ⟨none, .store 25 (.tmp 2) (.tmp 26), none, false⟩,
  ⟨some 3, .assign (.const (.int .i64 0)), none, false⟩])
 .ret)))))
def fn18 : PFn := ⟨27, [.cell 2 25, .tmp 3], pc18, false⟩
theorem fnOk18 : FnOk Try.prog 18 fn18 := ⟨⟨_, _, [], Try.func18, rfl, by kernel_rfl, rfl, rfl, of_decide_eq_true (by kernel_rfl)⟩⟩

def pc8 : PC :=
 (.seq (.region [⟨some 0, .assign (.const (.bool false)), none, false⟩])
 (.seq (.region [⟨some 6, .call ⟨.value (.func 18), #[.const (.string ⟨#[40, 38, 40, 99, 110, 61, 97, 42, 41, 40, 33, 40, 115, 110, 61, 98, 41, 41, 41]⟩)], #[9]⟩, none, false⟩,
  ⟨some 5, .move (.tmp 6), none, false⟩,
  ⟨some 7, .extract (.tmp 5) 0, none, false⟩,
  ⟨some 8, .extract (.tmp 5) 1, none, false⟩,
  ⟨some 1, .alloc 25, none, false⟩,
  ⟨none, .store 25 (.tmp 1) (.tmp 7), none, false⟩,
  ⟨some 2, .assign (.tmp 8), none, false⟩])
 (.seq (.region [⟨some 10, .call ⟨.value (.func 18), #[.const (.string ⟨#[40, 99, 110, 61]⟩)], #[9]⟩, none, false⟩,
  ⟨some 9, .move (.tmp 10), none, false⟩,
  ⟨some 11, .extract (.tmp 9) 0, none, false⟩,
  ⟨some 12, .extract (.tmp 9) 1, none, false⟩,
  ⟨some 3, .alloc 25, none, false⟩,
  ⟨none, .store 25 (.tmp 3) (.tmp 11), none, false⟩,
  ⟨some 4, .assign (.tmp 12), none, false⟩])
 (.seq (.region [⟨some 13, .move (.tmp 2), none, false⟩,
  ⟨some 14, .binOp .eql 33 (.tmp 13) (.const (.int .i64 0)) 33, none, false⟩,
  ⟨some 15, .move (.tmp 14), none, false⟩,
  ⟨some 16, .fieldAddr 25 (.tmp 1) 0, some (15, true), false⟩,
  ⟨some 17, .load 3 (.tmp 16), some (15, true), false⟩,
  ⟨some 18, .binOp .eql 3 (.tmp 17) (.const (.int .i64 1)) 3, some (15, true), false⟩,
  ⟨some 19, .pick (.tmp 15) (.tmp 18) (.const (.bool false)), none, false⟩,
  ⟨some 20, .move (.tmp 19), none, false⟩,
  ⟨some 21, .fieldAddr 25 (.tmp 1) 4, some (20, true), false⟩,
  ⟨some 22, .load 23 (.tmp 21), some (20, true), false⟩,
  ⟨some 23, .call ⟨.builtin .len, #[.tmp 22], #[23]⟩, some (20, true), false⟩,
  ⟨some 24, .binOp .eql 3 (.tmp 23) (.const (.int .i64 2)) 3, some (20, true), false⟩,
  ⟨some 25, .pick (.tmp 20) (.tmp 24) (.const (.bool false)), none, false⟩,
  ⟨some 26, .move (.tmp 25), none, false⟩,
  ⟨some 27, .fieldAddr 25 (.tmp 1) 4, some (26, true), false⟩,
  ⟨some 28, .load 23 (.tmp 27), some (26, true), false⟩,
  ⟨some 29, .indexAddr 23 (.tmp 28) (.const (.int .i64 0)), some (26, true), false⟩,
  ⟨some 30, .fieldAddr 25 (.tmp 29) 0, some (26, true), false⟩,
  ⟨some 31, .load 3 (.tmp 30), some (26, true), false⟩,
  ⟨some 32, .binOp .eql 3 (.tmp 31) (.const (.int .i64 8)) 3, some (26, true), false⟩,
  ⟨some 33, .pick (.tmp 26) (.tmp 32) (.const (.bool false)), none, false⟩,
  ⟨some 34, .move (.tmp 33), none, false⟩,
  ⟨some 35, .fieldAddr 25 (.tmp 1) 4, some (34, true), false⟩,
  ⟨some 36, .load 23 (.tmp 35), some (34, true), false⟩,
  ⟨some 37, .indexAddr 23 (.tmp 36) (.const (.int .i64 0)), some (34, true), false⟩,
  ⟨some 38, .fieldAddr 25 (.tmp 37) 3, some (34, true), false⟩,
  ⟨some 39, .load 22 (.tmp 38), some (34, true), false⟩,
  ⟨some 40, .call ⟨.builtin .len, #[.tmp 39], #[22]⟩, some (34, true), false⟩,
  ⟨some 41, .binOp .eql 3 (.tmp 40) (.const (.int .i64 2)) 3, some (34, true), false⟩,
  ⟨some 42, .pick (.tmp 34) (.tmp 41) (.const (.bool false)), none, false⟩,
  ⟨some 43, .move (.tmp 42), none, false⟩,
  ⟨some 44, .move (.tmp 4), some (43, true), false⟩,
  ⟨some 45, .binOp .eql 33 (.tmp 44) (.const (.int .i64 18)) 33, some (43, true), false⟩,
  ⟨some 46, .pick (.tmp 43) (.tmp 45) (.const (.bool false)), none, false⟩,
  ⟨some 47, .move (.tmp 46), none, false⟩,
  ⟨some 48, .load 25 (.tmp 1), some (47, true), false⟩,
  ⟨some 49, .call ⟨.value (.func 13), #[.tmp 48], #[25]⟩, some (47, true), false⟩,
  ⟨some 50, .binOp .eql 9 (.tmp 49) (.const (.string ⟨#[40, 38, 40, 99, 110, 61, 97, 42, 41, 40, 33, 40, 115, 110, 61, 98, 41, 41, 41]⟩)) 9, some (47, true), false⟩,
  ⟨some 51, .pick (.tmp 47) (.tmp 50) (.const (.bool false)), none, false⟩,
  ⟨some 52, .move (.tmp 51), none, false⟩,
  ⟨some 53, .load 25 (.tmp 1), some (52, true), false⟩,
  ⟨some 54, .call ⟨.value (.func 12), #[.tmp 53], #[25]⟩, some (52, true), false⟩,
  ⟨some 55, .pick (.tmp 52) (.tmp 54) (.const (.bool false)), none, false⟩,
  ⟨some 56, .move (.tmp 55), none, false⟩,
  ⟨some 57, .build 25 #[], some (56, true), false⟩,
  ⟨some 58, .call ⟨.value (.func 12), #[.tmp 57], #[25]⟩, some (56, true), false⟩,
  ⟨some 59, .unOp .not 4 (.tmp 58), some (56, true), false⟩,
  ⟨some 60, .pick (.tmp 56) (.tmp 59) (.const (.bool false)), none, false⟩,
  ⟨some 61, .move (.tmp 60), none, false⟩,
  ⟨some 62, .load 25 (.tmp 1), some (61, true), false⟩,
  ⟨some 63, .call ⟨.value (.func 14), #[.tmp 62], #[25]⟩, some (61, true), false⟩,
  ⟨some 64, .binOp .eql 3 (.tmp 63) (.const (.int .i64 4)) 3, some (61, true), false⟩,
  ⟨some 65, .pick (.tmp 61) (.tmp 64) (.const (.bool false)), none, false⟩,
  ⟨some 66, .move (.tmp 65), none, false⟩,
  ⟨some 67, .load 25 (.tmp 1), some (66, true), false⟩,
  ⟨some 68, .load 25 (.tmp 1), some (66, true), false⟩,
  ⟨some 69, .call ⟨.value (.func 16), #[.tmp 67, .tmp 68], #[25, 25]⟩, some (66, true), false⟩,
  ⟨some 70, .pick (.tmp 66) (.tmp 69) (.const (.bool false)), none, false⟩,
  ⟨some 0, .assign (.tmp 70), none, false⟩])
 .ret))))
def fn8 : PFn := ⟨71, [.tmp 0], pc8, false⟩
theorem fnOk8 : FnOk Try.prog 8 fn8 := ⟨⟨_, _, [], Try.func8, rfl, by kernel_rfl, rfl, rfl, of_decide_eq_true (by kernel_rfl)⟩⟩

def pc9L0 : PC :=
 (.seq (.seq (.region [⟨some 33, .move (.tmp 5), none, false⟩,
  ⟨some 34, .fieldAddr 25 (.tmp 2) 3, none, false⟩,
  ⟨some 35, .load 22 (.tmp 34), none, false⟩,
  ⟨some 36, .call ⟨.builtin .len, #[.tmp 35], #[22]⟩, none, false⟩,
  ⟨some 37, .binOp .lss 3 (.tmp 33) (.tmp 36) 3, none, false⟩])
 (.cond (.tmp 37)
  .skip
  (.exit 0)))
 (.seq (.block 1 (.seq (.region [⟨some 40, .fieldAddr 25 (.tmp 2) 3, none, false⟩,
  ⟨some 41, .load 22 (.tmp 40), none, false⟩,
  ⟨some 42, .move (.tmp 5), none, false⟩,
  ⟨some 43, .indexAddr 22 (.tmp 41) (.tmp 42), none, false⟩,
  ⟨some 44, .load 9 (.tmp 43), none, false⟩,
  ⟨some 45, .call ⟨.builtin .len, #[.tmp 44], #[9]⟩, none, false⟩,
  ⟨some 46, .binOp .gtr 3 (.tmp 45) (.const (.int .i64 80)) 3, none, false⟩])
 (.cond (.tmp 46)
  (.seq (.region [⟨some 4, .assign (.const (.bool false)), none, false⟩])
  .ret)
  .skip)))
 (.region [⟨some 38, .move (.tmp 5), none, false⟩,
  ⟨some 39, .binOp .add 3 (.tmp 38) (.const (.int .i64 1)) 3, none, false⟩,
  ⟨some 5, .assign (.tmp 39), none, false⟩])))
def pc9L2 : PC :=
 (.seq (.seq (.region [⟨some 47, .move (.tmp 6), none, false⟩,
  ⟨some 48, .fieldAddr 25 (.tmp 2) 4, none, false⟩,
  ⟨some 49, .load 23 (.tmp 48), none, false⟩,
  ⟨some 50, .call ⟨.builtin .len, #[.tmp 49], #[23]⟩, none, false⟩,
  ⟨some 51, .binOp .lss 3 (.tmp 47) (.tmp 50) 3, none, false⟩])
 (.cond (.tmp 51)
  .skip
  (.exit 2)))
 (.seq (.block 3 (.seq (.region [⟨some 54, .fieldAddr 25 (.tmp 2) 4, none, false⟩,
  ⟨some 55, .load 23 (.tmp 54), none, false⟩,
  ⟨some 56, .move (.tmp 6), none, false⟩,
  ⟨some 57, .indexAddr 23 (.tmp 55) (.tmp 56), none, false⟩,
  ⟨some 58, .load 25 (.tmp 57), none, false⟩,
  ⟨some 59, .move (.tmp 1), none, false⟩,
  ⟨some 60, .binOp .add 3 (.tmp 59) (.const (.int .i64 1)) 3, none, false⟩,
  ⟨some 61, .call ⟨.value (.func 9), #[.tmp 58, .tmp 60], #[25, 3]⟩, none, false⟩,
  ⟨some 62, .unOp .not 4 (.tmp 61), none, false⟩])
 (.cond (.tmp 62)
  (.seq (.region [⟨some 4, .assign (.const (.bool false)), none, false⟩])
  .ret)
  .skip)))
 (.region [⟨some 52, .move (.tmp 6), none, false⟩,
  ⟨some 53, .binOp .add 3 (.tmp 52) (.const (.int .i64 1)) 3, none, false⟩,
  ⟨some 6, .assign (.tmp 53), none, false⟩])))
def pc9 : PC :=
 (.seq (.region [⟨some 2, .box 25 (.tmp 0), none, false⟩,
  ⟨some 4, .assign (.const (.bool false)), none, false⟩])
 (.seq (.seq (.region [⟨some 7, .move (.tmp 1), none, false⟩,
  ⟨some 8, .binOp .gtr 3 (.tmp 7) (.const (.int .i64 12)) 3, none, false⟩,
  ⟨some 9, .move (.tmp 8), none, false⟩,
  ⟨some 10, .fieldAddr 25 (.tmp 2) 4, some (9, false), false⟩,
  ⟨some 11, .load 23 (.tmp 10), some (9, false), false⟩,
  ⟨some 12, .call ⟨.builtin .len, #[.tmp 11], #[23]⟩, some (9, false), false⟩,
  ⟨some 13, .binOp .gtr 3 (.tmp 12) (.const (.int .i64 8)) 3, some (9, false), false⟩,
  ⟨some 14, .pick (.tmp 9) (.const (.bool true)) (.tmp 13), none, false⟩,
  ⟨some 15, .move (.tmp 14), none, false⟩,
  ⟨some 16, .fieldAddr 25 (.tmp 2) 1, some (15, false), false⟩,
  ⟨some 17, .load 9 (.tmp 16), some (15, false), false⟩,
  ⟨some 18, .call ⟨.builtin .len, #[.tmp 17], #[9]⟩, some (15, false), false⟩,
  ⟨some 19, .binOp .gtr 3 (.tmp 18) (.const (.int .i64 30)) 3, some (15, false), false⟩,
  ⟨some 20, .pick (.tmp 15) (.const (.bool true)) (.tmp 19), none, false⟩,
  ⟨some 21, .move (.tmp 20), none, false⟩,
  ⟨some 22, .fieldAddr 25 (.tmp 2) 2, some (21, false), false⟩,
  ⟨some 23, .load 9 (.tmp 22), some (21, false), false⟩,
  ⟨some 24, .call ⟨.builtin .len, #[.tmp 23], #[9]⟩, some (21, false), false⟩,
  ⟨some 25, .binOp .gtr 3 (.tmp 24) (.const (.int .i64 80)) 3, some (21, false), false⟩,
  ⟨some 26, .pick (.tmp 21) (.const (.bool true)) (.tmp 25), none, false⟩,
  ⟨some 27, .move (.tmp 26), none, false⟩,
  ⟨some 28, .fieldAddr 25 (.tmp 2) 3, some (27, false), false⟩,
  ⟨some 29, .load 22 (.tmp 28), some (27, false), false⟩,
  ⟨some 30, .call ⟨.builtin .len, #[.tmp 29], #[22]⟩, some (27, false), false⟩,
  ⟨some 31, .binOp .gtr 3 (.tmp 30) (.const (.int .i64 24)) 3, some (27, false), false⟩,
  ⟨some 32, .pick (.tmp 27) (.const (.bool true)) (.tmp 31), none, false⟩])
 (.cond (.tmp 32)
  (.seq (.region [⟨some 4, .assign (.const (.bool false)), none, false⟩])
  .ret)
  .skip))
 (.seq (.seq (.region [⟨some 5, .assign (.const (.int .i64 0)), none, false⟩])
 (.block 0 (.loop pc9L0)))
 (.seq (.seq (.region [⟨some 6, .assign (.const (.int .i64 0)), none, false⟩])
 (.block 2 (.loop pc9L2)))
 (.seq (.region [⟨some 4, .assign (.const (.bool true)), none, false⟩])
 .ret)))))
def fn9 : PFn := ⟨63, [.tmp 4], pc9, false⟩
theorem fnOk9 : FnOk Try.prog 9 fn9 := ⟨⟨_, _, [], Try.func9, rfl, by kernel_rfl, rfl, rfl, of_decide_eq_true (by kernel_rfl)⟩⟩

def pc22L0 : PC :=
 (.seq (.seq (.region [⟨some 7, .move (.tmp 5), none, false⟩,
  ⟨some 8, .move (.tmp 0), none, false⟩,
  ⟨some 9, .call ⟨.builtin .len, #[.tmp 8], #[9]⟩, none, false⟩,
  ⟨some 10, .binOp .lss 3 (.tmp 7) (.tmp 9) 3, none, false⟩])
 (.cond (.tmp 10)
  .skip
  (.exit 0)))
 (.seq (.block 1 (.seq (.region [⟨some 13, .move (.tmp 0), none, false⟩,
  ⟨some 14, .move (.tmp 5), none, false⟩,
  ⟨some 15, .index 9 (.tmp 13) (.tmp 14), none, false⟩,
  ⟨some 6, .assign (.tmp 15), none, false⟩])
 (.seq (.region [⟨some 16, .move (.tmp 6), none, false⟩,
  ⟨some 17, .binOp .eql 5 (.tmp 16) (.const (.int .u8 42)) 5, none, false⟩,
  ⟨some 18, .move (.tmp 17), none, false⟩,
  ⟨some 19, .move (.tmp 6), some (18, false), false⟩,
  ⟨some 20, .binOp .eql 5 (.tmp 19) (.const (.int .u8 40)) 5, some (18, false), false⟩,
  ⟨some 21, .pick (.tmp 18) (.const (.bool true)) (.tmp 20), none, false⟩,
  ⟨some 22, .move (.tmp 21), none, false⟩,
  ⟨some 23, .move (.tmp 6), some (22, false), false⟩,
  ⟨some 24, .binOp .eql 5 (.tmp 23) (.const (.int .u8 41)) 5, some (22, false), false⟩,
  ⟨some 25, .pick (.tmp 22) (.const (.bool true)) (.tmp 24), none, false⟩,
  ⟨some 26, .move (.tmp 25), none, false⟩,
  ⟨some 27, .move (.tmp 6), some (26, false), false⟩,
  ⟨some 28, .binOp .eql 5 (.tmp 27) (.const (.int .u8 92)) 5, some (26, false), false⟩,
  ⟨some 29, .pick (.tmp 26) (.const (.bool true)) (.tmp 28), none, false⟩,
  ⟨some 30, .move (.tmp 29), none, false⟩,
  ⟨some 31, .move (.tmp 6), some (30, false), false⟩,
  ⟨some 32, .binOp .lss 5 (.tmp 31) (.const (.int .u8 32)) 5, some (30, false), false⟩,
  ⟨some 33, .pick (.tmp 30) (.const (.bool true)) (.tmp 32), none, false⟩,
  ⟨some 34, .move (.tmp 33), none, false⟩,
  ⟨some 35, .move (.tmp 6), some (34, false), false⟩,
  ⟨some 36, .binOp .gtr 5 (.tmp 35) (.const (.int .u8 126)) 5, some (34, false), false⟩,
  ⟨some 37, .pick (.tmp 34) (.const (.bool true)) (.tmp 36), none, false⟩])
 (.cond (.tmp 37)
  (.draw [⟨some 38, .move (.tmp 4), none, false⟩,
   ⟨some 39, .binOp .add 9 (.tmp 38) (.const (.string ⟨#[92]⟩)) 9, none, false⟩,
   ⟨some 40, .move (.tmp 3), none, false⟩,
   ⟨some 41, .move (.tmp 6), none, false⟩,
   ⟨some 42, .binOp .shr 5 (.tmp 41) (.const (.int .u64 4)) 51, none, false⟩,
   ⟨some 43, .move (.tmp 6), none, false⟩,
   ⟨some 44, .binOp .shr 5 (.tmp 43) (.const (.int .u64 4)) 51, none, false⟩,
   ⟨some 45, .binOp .add 5 (.tmp 44) (.const (.int .u8 1)) 5, none, false⟩,
   ⟨some 46, .slice 9 (.tmp 40) (some (.tmp 42)) (some (.tmp 45)) none, none, false⟩,
   ⟨some 47, .binOp .add 9 (.tmp 39) (.tmp 46) 9, none, false⟩,
   ⟨some 48, .move (.tmp 3), none, false⟩,
   ⟨some 49, .move (.tmp 6), none, false⟩,
   ⟨some 50, .binOp .and 5 (.tmp 49) (.const (.int .u8 15)) 5, none, false⟩,
   ⟨some 51, .move (.tmp 6), none, false⟩,
   ⟨some 52, .binOp .and 5 (.tmp 51) (.const (.int .u8 15)) 5, none, false⟩,
   ⟨some 53, .binOp .add 5 (.tmp 52) (.const (.int .u8 1)) 5, none, false⟩,
   ⟨some 54, .slice 9 (.tmp 48) (some (.tmp 50)) (some (.tmp 53)) none, none, false⟩]
   [⟨some 55, .binOp .add 9 (.tmp 47) (.tmp 54) 9, none, false⟩,
   ⟨some 4, .assign (.tmp 55), none, false⟩])
  (.region [⟨some 56, .move (.tmp 4), none, false⟩,
   ⟨some 57, .move (.tmp 0), none, false⟩,
   ⟨some 58, .move (.tmp 5), none, false⟩,
   ⟨some 59, .move (.tmp 5), none, false⟩,
   ⟨some 60, .binOp .add 3 (.tmp 59) (.const (.int .i64 1)) 3, none, false⟩,
   ⟨some 61, .slice 9 (.tmp 57) (some (.tmp 58)) (some (.tmp 60)) none, none, false⟩,
   ⟨some 62, .binOp .add 9 (.tmp 56) (.tmp 61) 9, none, false⟩,
   ⟨some 4, .assign (.tmp 62), none, false⟩])))))
 (.region [⟨some 11, .move (.tmp 5), none, false⟩,
  ⟨some 12, .binOp .add 3 (.tmp 11) (.const (.int .i64 1)) 3, none, false⟩,
  ⟨some 5, .assign (.tmp 12), none, false⟩])))
def pc22 : PC :=
 (.seq (.region [⟨some 2, .assign (.const (.string ⟨#[]⟩)), none, false⟩])
 (.seq (.region [⟨some 3, .assign (.const (.string ⟨#[48, 49, 50, 51, 52, 53, 54, 55, 56, 57, 97, 98, 99, 100, 101, 102]⟩)), none, false⟩])
 (.seq (.region [⟨some 4, .assign (.const (.string ⟨#[]⟩)), none, false⟩])
 (.seq (.seq (.region [⟨some 5, .assign (.const (.int .i64 0)), none, false⟩])
 (.block 0 (.loop pc22L0)))
 (.seq (.region [⟨some 63, .move (.tmp 4), none, false⟩,
  ⟨some 2, .assign (.tmp 63), none, false⟩])
 .ret)))))
def fn22 : PFn := ⟨64, [.tmp 2], pc22, false⟩
theorem fnOk22 : FnOk Try.prog 22 fn22 := ⟨⟨_, _, [], Try.func22, rfl, by kernel_rfl, rfl, rfl, of_decide_eq_true (by kernel_rfl)⟩⟩

def pc11L0 : PC :=
 (.seq (.seq (.region [⟨some 7, .move (.tmp 4), none, false⟩,
  ⟨some 8, .fieldAddr 25 (.tmp 1) 4, none, false⟩,
  ⟨some 9, .load 23 (.tmp 8), none, false⟩,
  ⟨some 10, .call ⟨.builtin .len, #[.tmp 9], #[23]⟩, none, false⟩,
  ⟨some 11, .binOp .lss 3 (.tmp 7) (.tmp 10) 3, none, false⟩])
 (.cond (.tmp 11)
  .skip
  (.exit 0)))
 (.seq (.block 1 (.region [⟨some 14, .move (.tmp 3), none, false⟩,
  ⟨some 15, .fieldAddr 25 (.tmp 1) 4, none, false⟩,
  ⟨some 16, .load 23 (.tmp 15), none, false⟩,
  ⟨some 17, .move (.tmp 4), none, false⟩,
  ⟨some 18, .indexAddr 23 (.tmp 16) (.tmp 17), none, false⟩,
  ⟨some 19, .load 25 (.tmp 18), none, false⟩,
  ⟨some 20, .call ⟨.value (.func 11), #[.tmp 19], #[25]⟩, none, false⟩,
  ⟨some 21, .binOp .add 9 (.tmp 14) (.tmp 20) 9, none, false⟩,
  ⟨some 3, .assign (.tmp 21), none, false⟩]))
 (.region [⟨some 12, .move (.tmp 4), none, false⟩,
  ⟨some 13, .binOp .add 3 (.tmp 12) (.const (.int .i64 1)) 3, none, false⟩,
  ⟨some 4, .assign (.tmp 13), none, false⟩])))
def pc11L3 : PC :=
 (.seq (.seq (.region [⟨some 69, .move (.tmp 6), none, false⟩,
  ⟨some 70, .fieldAddr 25 (.tmp 1) 3, none, false⟩,
  ⟨some 71, .load 22 (.tmp 70), none, false⟩,
  ⟨some 72, .call ⟨.builtin .len, #[.tmp 71], #[22]⟩, none, false⟩,
  ⟨some 73, .binOp .lss 3 (.tmp 69) (.tmp 72) 3, none, false⟩])
 (.cond (.tmp 73)
  .skip
  (.exit 3)))
 (.seq (.block 4 (.seq (.seq (.region [⟨some 76, .move (.tmp 6), none, false⟩,
  ⟨some 77, .binOp .gtr 3 (.tmp 76) (.const (.int .i64 0)) 3, none, false⟩])
 (.cond (.tmp 77)
  (.region [⟨some 78, .move (.tmp 5), none, false⟩,
   ⟨some 79, .binOp .add 9 (.tmp 78) (.const (.string ⟨#[42]⟩)) 9, none, false⟩,
   ⟨some 5, .assign (.tmp 79), none, false⟩])
  .skip))
 (.region [⟨some 80, .move (.tmp 5), none, false⟩,
  ⟨some 81, .fieldAddr 25 (.tmp 1) 3, none, false⟩,
  ⟨some 82, .load 22 (.tmp 81), none, false⟩,
  ⟨some 83, .move (.tmp 6), none, false⟩,
  ⟨some 84, .indexAddr 22 (.tmp 82) (.tmp 83), none, false⟩,
  ⟨some 85, .load 9 (.tmp 84), none, false⟩,
  ⟨some 86, .call ⟨.value (.func 22), #[.tmp 85], #[9]⟩, none, false⟩,
  ⟨some 87, .binOp .add 9 (.tmp 80) (.tmp 86) 9, none, false⟩,
  ⟨some 5, .assign (.tmp 87), none, false⟩])))
 (.region [⟨some 74, .move (.tmp 6), none, false⟩,
  ⟨some 75, .binOp .add 3 (.tmp 74) (.const (.int .i64 1)) 3, none, false⟩,
  ⟨some 6, .assign (.tmp 75), none, false⟩])))
def pc11 : PC :=
 (.seq (.region [⟨some 1, .box 25 (.tmp 0), none, false⟩,
  ⟨some 2, .assign (.const (.string ⟨#[]⟩)), none, false⟩])
 (.seq (.region [⟨some 3, .assign (.const (.string ⟨#[]⟩)), none, false⟩])
 (.seq (.seq (.region [⟨some 4, .assign (.const (.int .i64 0)), none, false⟩])
 (.block 0 (.loop pc11L0)))
 (.seq (.seq (.region [⟨some 22, .fieldAddr 25 (.tmp 1) 0, none, false⟩,
  ⟨some 23, .load 3 (.tmp 22), none, false⟩])
 (.block 2 (.seq (.region [⟨some 25, .binOp .eql 3 (.tmp 23) (.const (.int .i64 1)) 3, none, false⟩,
  ⟨some 24, .assign (.tmp 25), none, false⟩])
 (.cond (.tmp 24)
  (.seq (.region [⟨some 26, .move (.tmp 3), none, false⟩,
   ⟨some 27, .binOp .add 9 (.const (.string ⟨#[40, 38]⟩)) (.tmp 26) 9, none, false⟩,
   ⟨some 28, .binOp .add 9 (.tmp 27) (.const (.string ⟨#[41]⟩)) 9, none, false⟩,
   ⟨some 2, .assign (.tmp 28), none, false⟩])
  .ret)
  (.seq (.region [⟨some 30, .binOp .eql 3 (.tmp 23) (.const (.int .i64 2)) 3, none, false⟩,
   ⟨some 29, .assign (.tmp 30), none, false⟩])
  (.cond (.tmp 29)
   (.seq (.region [⟨some 31, .move (.tmp 3), none, false⟩,
    ⟨some 32, .binOp .add 9 (.const (.string ⟨#[40, 124]⟩)) (.tmp 31) 9, none, false⟩,
    ⟨some 33, .binOp .add 9 (.tmp 32) (.const (.string ⟨#[41]⟩)) 9, none, false⟩,
    ⟨some 2, .assign (.tmp 33), none, false⟩])
   .ret)
   (.seq (.region [⟨some 35, .binOp .eql 3 (.tmp 23) (.const (.int .i64 3)) 3, none, false⟩,
    ⟨some 34, .assign (.tmp 35), none, false⟩])
   (.cond (.tmp 34)
    (.seq (.region [⟨some 36, .move (.tmp 3), none, false⟩,
     ⟨some 37, .binOp .add 9 (.const (.string ⟨#[40, 33]⟩)) (.tmp 36) 9, none, false⟩,
     ⟨some 38, .binOp .add 9 (.tmp 37) (.const (.string ⟨#[41]⟩)) 9, none, false⟩,
     ⟨some 2, .assign (.tmp 38), none, false⟩])
    .ret)
    (.seq (.region [⟨some 40, .binOp .eql 3 (.tmp 23) (.const (.int .i64 5)) 3, none, false⟩,
     ⟨some 39, .assign (.tmp 40), none, false⟩])
    (.cond (.tmp 39)
     (.seq (.draw [⟨some 41, .fieldAddr 25 (.tmp 1) 1, none, false⟩,
      ⟨some 42, .load 9 (.tmp 41), none, false⟩,
      ⟨some 43, .binOp .add 9 (.const (.string ⟨#[40]⟩)) (.tmp 42) 9, none, false⟩,
      ⟨some 44, .binOp .add 9 (.tmp 43) (.const (.string ⟨#[62, 61]⟩)) 9, none, false⟩,
      ⟨some 45, .fieldAddr 25 (.tmp 1) 2, none, false⟩,
      ⟨some 46, .load 9 (.tmp 45), none, false⟩,
      ⟨some 47, .call ⟨.value (.func 22), #[.tmp 46], #[9]⟩, none, false⟩]
      [⟨some 48, .binOp .add 9 (.tmp 44) (.tmp 47) 9, none, false⟩,
      ⟨some 49, .binOp .add 9 (.tmp 48) (.const (.string ⟨#[41]⟩)) 9, none, false⟩,
      ⟨some 2, .assign (.tmp 49), none, false⟩])
     .ret)
     (.seq (.region [⟨some 51, .binOp .eql 3 (.tmp 23) (.const (.int .i64 6)) 3, none, false⟩,
      ⟨some 50, .assign (.tmp 51), none, false⟩])
     (.cond (.tmp 50)
      (.seq (.draw [⟨some 52, .fieldAddr 25 (.tmp 1) 1, none, false⟩,
       ⟨some 53, .load 9 (.tmp 52), none, false⟩,
       ⟨some 54, .binOp .add 9 (.const (.string ⟨#[40]⟩)) (.tmp 53) 9, none, false⟩,
       ⟨some 55, .binOp .add 9 (.tmp 54) (.const (.string ⟨#[60, 61]⟩)) 9, none, false⟩,
       ⟨some 56, .fieldAddr 25 (.tmp 1) 2, none, false⟩,
       ⟨some 57, .load 9 (.tmp 56), none, false⟩,
       ⟨some 58, .call ⟨.value (.func 22), #[.tmp 57], #[9]⟩, none, false⟩]
       [⟨some 59, .binOp .add 9 (.tmp 55) (.tmp 58) 9, none, false⟩,
       ⟨some 60, .binOp .add 9 (.tmp 59) (.const (.string ⟨#[41]⟩)) 9, none, false⟩,
       ⟨some 2, .assign (.tmp 60), none, false⟩])
      .ret)
      (.seq (.region [⟨some 62, .binOp .eql 3 (.tmp 23) (.const (.int .i64 7)) 3, none, false⟩,
       ⟨some 61, .assign (.tmp 62), none, false⟩])
      (.cond (.tmp 61)
       (.seq (.region [⟨some 63, .fieldAddr 25 (.tmp 1) 1, none, false⟩,
        ⟨some 64, .load 9 (.tmp 63), none, false⟩,
        ⟨some 65, .binOp .add 9 (.const (.string ⟨#[40]⟩)) (.tmp 64) 9, none, false⟩,
        ⟨some 66, .binOp .add 9 (.tmp 65) (.const (.string ⟨#[61, 42, 41]⟩)) 9, none, false⟩,
        ⟨some 2, .assign (.tmp 66), none, false⟩])
       .ret)
       (.seq (.region [⟨some 68, .binOp .eql 3 (.tmp 23) (.const (.int .i64 8)) 3, none, false⟩,
        ⟨some 67, .assign (.tmp 68), none, false⟩])
       (.cond (.tmp 67)
        (.seq (.region [⟨some 5, .assign (.const (.string ⟨#[]⟩)), none, false⟩])
        (.seq (.seq (.region [⟨some 6, .assign (.const (.int .i64 0)), none, false⟩])
        (.block 3 (.loop pc11L3)))
        (.seq (.region [⟨some 88, .fieldAddr 25 (.tmp 1) 1, none, false⟩,
         ⟨some 89, .load 9 (.tmp 88), none, false⟩,
         ⟨some 90, .binOp .add 9 (.const (.string ⟨#[40]⟩)) (.tmp 89) 9, none, false⟩,
         ⟨some 91, .binOp .add 9 (.tmp 90) (.const (.string ⟨#[61]⟩)) 9, none, false⟩,
         ⟨some 92, .move (.tmp 5), none, false⟩,
         ⟨some 93, .binOp .add 9 (.tmp 91) (.tmp 92) 9, none, false⟩,
         ⟨some 94, .binOp .add 9 (.tmp 93) (.const (.string ⟨#[41]⟩)) 9, none, false⟩,
         ⟨some 2, .assign (.tmp 94), none, false⟩])
        .ret)))
        .skip))))))))))))))))
 (.seq (.draw [⟨some 95, .fieldAddr 25 (.tmp 1) 1, none, false⟩,
  ⟨some 96, .load 9 (.tmp 95), none, false⟩,
  ⟨some 97, .binOp .add 9 (.const (.string ⟨#[40]⟩)) (.tmp 96) 9, none, false⟩,
  ⟨some 98, .binOp .add 9 (.tmp 97) (.const (.string ⟨#[61]⟩)) 9, none, false⟩,
  ⟨some 99, .fieldAddr 25 (.tmp 1) 2, none, false⟩,
  ⟨some 100, .load 9 (.tmp 99), none, false⟩,
  ⟨some 101, .call ⟨.value (.func 22), #[.tmp 100], #[9]⟩, none, false⟩]
  [⟨some 102, .binOp .add 9 (.tmp 98) (.tmp 101) 9, none, false⟩,
  ⟨some 103, .binOp .add 9 (.tmp 102) (.const (.string ⟨#[41]⟩)) 9, none, false⟩,
  ⟨some 2, .assign (.tmp 103), none, false⟩])
 .ret)))))
def fn11 : PFn := ⟨104, [.tmp 2], pc11, false⟩
theorem fnOk11 : FnOk Try.prog 11 fn11 := ⟨⟨_, _, [], Try.func11, rfl, by kernel_rfl, rfl, rfl, of_decide_eq_true (by kernel_rfl)⟩⟩

def pc17L0 : PC :=
 (.seq (.seq (.region [⟨some 44, .move (.tmp 5), none, false⟩,
  ⟨some 45, .fieldAddr 25 (.tmp 2) 3, none, false⟩,
  ⟨some 46, .load 22 (.tmp 45), none, false⟩,
  ⟨some 47, .call ⟨.builtin .len, #[.tmp 46], #[22]⟩, none, false⟩,
  ⟨some 48, .binOp .lss 3 (.tmp 44) (.tmp 47) 3, none, false⟩])
 (.cond (.tmp 48)
  .skip
  (.exit 0)))
 (.seq (.block 1 (.seq (.draw [⟨some 51, .fieldAddr 25 (.tmp 2) 3, none, false⟩,
  ⟨some 52, .load 22 (.tmp 51), none, false⟩,
  ⟨some 53, .move (.tmp 5), none, false⟩,
  ⟨some 54, .indexAddr 22 (.tmp 52) (.tmp 53), none, false⟩,
  ⟨some 55, .load 9 (.tmp 54), none, false⟩,
  ⟨some 56, .fieldAddr 25 (.tmp 3) 3, none, false⟩,
  ⟨some 57, .load 22 (.tmp 56), none, false⟩,
  ⟨some 58, .move (.tmp 5), none, false⟩,
  ⟨some 59, .indexAddr 22 (.tmp 57) (.tmp 58), none, false⟩,
  ⟨some 60, .load 9 (.tmp 59), none, false⟩]
  [⟨some 61, .binOp .neq 9 (.tmp 55) (.tmp 60) 9, none, false⟩])
 (.cond (.tmp 61)
  (.seq (.region [⟨some 4, .assign (.const (.bool false)), none, false⟩])
  .ret)
  .skip)))
 (.region [⟨some 49, .move (.tmp 5), none, false⟩,
  ⟨some 50, .binOp .add 3 (.tmp 49) (.const (.int .i64 1)) 3, none, false⟩,
  ⟨some 5, .assign (.tmp 50), none, false⟩])))
def pc17L2 : PC :=
 (.seq (.seq (.region [⟨some 62, .move (.tmp 6), none, false⟩,
  ⟨some 63, .fieldAddr 25 (.tmp 2) 4, none, false⟩,
  ⟨some 64, .load 23 (.tmp 63), none, false⟩,
  ⟨some 65, .call ⟨.builtin .len, #[.tmp 64], #[23]⟩, none, false⟩,
  ⟨some 66, .binOp .lss 3 (.tmp 62) (.tmp 65) 3, none, false⟩])
 (.cond (.tmp 66)
  .skip
  (.exit 2)))
 (.seq (.block 3 (.seq (.draw [⟨some 69, .fieldAddr 25 (.tmp 2) 4, none, false⟩,
  ⟨some 70, .load 23 (.tmp 69), none, false⟩,
  ⟨some 71, .move (.tmp 6), none, false⟩,
  ⟨some 72, .indexAddr 23 (.tmp 70) (.tmp 71), none, false⟩,
  ⟨some 73, .load 25 (.tmp 72), none, false⟩,
  ⟨some 74, .fieldAddr 25 (.tmp 3) 4, none, false⟩,
  ⟨some 75, .load 23 (.tmp 74), none, false⟩,
  ⟨some 76, .move (.tmp 6), none, false⟩,
  ⟨some 77, .indexAddr 23 (.tmp 75) (.tmp 76), none, false⟩,
  ⟨some 78, .load 25 (.tmp 77), none, false⟩]
  [⟨some 79, .call ⟨.value (.func 17), #[.tmp 73, .tmp 78], #[25, 25]⟩, none, false⟩,
  ⟨some 80, .unOp .not 4 (.tmp 79), none, false⟩])
 (.cond (.tmp 80)
  (.seq (.region [⟨some 4, .assign (.const (.bool false)), none, false⟩])
  .ret)
  .skip)))
 (.region [⟨some 67, .move (.tmp 6), none, false⟩,
  ⟨some 68, .binOp .add 3 (.tmp 67) (.const (.int .i64 1)) 3, none, false⟩,
  ⟨some 6, .assign (.tmp 68), none, false⟩])))
def pc17 : PC :=
 (.seq (.region [⟨some 2, .box 25 (.tmp 0), none, false⟩,
  ⟨some 3, .box 25 (.tmp 1), none, false⟩,
  ⟨some 4, .assign (.const (.bool false)), none, false⟩])
 (.seq (.seq (.region [⟨some 7, .fieldAddr 25 (.tmp 2) 0, none, false⟩,
  ⟨some 8, .load 3 (.tmp 7), none, false⟩,
  ⟨some 9, .fieldAddr 25 (.tmp 3) 0, none, false⟩,
  ⟨some 10, .load 3 (.tmp 9), none, false⟩,
  ⟨some 11, .binOp .neq 3 (.tmp 8) (.tmp 10) 3, none, false⟩,
  ⟨some 12, .move (.tmp 11), none, false⟩,
  ⟨some 13, .fieldAddr 25 (.tmp 2) 1, some (12, false), false⟩,
  ⟨some 14, .load 9 (.tmp 13), some (12, false), false⟩,
  ⟨some 15, .fieldAddr 25 (.tmp 3) 1, some (12, false), false⟩,
  ⟨some 16, .load 9 (.tmp 15), some (12, false), false⟩,
  ⟨some 17, .binOp .neq 9 (.tmp 14) (.tmp 16) 9, some (12, false), false⟩,
  ⟨some 18, .pick (.tmp 12) (.const (.bool true)) (.tmp 17), none, false⟩,
  ⟨some 19, .move (.tmp 18), none, false⟩,
  ⟨some 20, .fieldAddr 25 (.tmp 2) 2, some (19, false), false⟩,
  ⟨some 21, .load 9 (.tmp 20), some (19, false), false⟩,
  ⟨some 22, .fieldAddr 25 (.tmp 3) 2, some (19, false), false⟩,
  ⟨some 23, .load 9 (.tmp 22), some (19, false), false⟩,
  ⟨some 24, .binOp .neq 9 (.tmp 21) (.tmp 23) 9, some (19, false), false⟩,
  ⟨some 25, .pick (.tmp 19) (.const (.bool true)) (.tmp 24), none, false⟩,
  ⟨some 26, .move (.tmp 25), none, false⟩,
  ⟨some 27, .fieldAddr 25 (.tmp 2) 3, some (26, false), false⟩,
  ⟨some 28, .load 22 (.tmp 27), some (26, false), false⟩,
  ⟨some 29, .call ⟨.builtin .len, #[.tmp 28], #[22]⟩, some (26, false), false⟩,
  ⟨some 30, .fieldAddr 25 (.tmp 3) 3, some (26, false), false⟩,
  ⟨some 31, .load 22 (.tmp 30), some (26, false), false⟩,
  ⟨some 32, .call ⟨.builtin .len, #[.tmp 31], #[22]⟩, some (26, false), false⟩,
  ⟨some 33, .binOp .neq 3 (.tmp 29) (.tmp 32) 3, some (26, false), false⟩,
  ⟨some 34, .pick (.tmp 26) (.const (.bool true)) (.tmp 33), none, false⟩,
  ⟨some 35, .move (.tmp 34), none, false⟩,
  ⟨some 36, .fieldAddr 25 (.tmp 2) 4, some (35, false), false⟩,
  ⟨some 37, .load 23 (.tmp 36), some (35, false), false⟩,
  ⟨some 38, .call ⟨.builtin .len, #[.tmp 37], #[23]⟩, some (35, false), false⟩,
  ⟨some 39, .fieldAddr 25 (.tmp 3) 4, some (35, false), false⟩,
  ⟨some 40, .load 23 (.tmp 39), some (35, false), false⟩,
  ⟨some 41, .call ⟨.builtin .len, #[.tmp 40], #[23]⟩, some (35, false), false⟩,
  ⟨some 42, .binOp .neq 3 (.tmp 38) (.tmp 41) 3, some (35, false), false⟩,
  ⟨some 43, .pick (.tmp 35) (.const (.bool true)) (.tmp 42), none, false⟩])
 (.cond (.tmp 43)
  (.seq (.region [⟨some 4, .assign (.const (.bool false)), none, false⟩])
  .ret)
  .skip))
 (.seq (.seq (.region [⟨some 5, .assign (.const (.int .i64 0)), none, false⟩])
 (.block 0 (.loop pc17L0)))
 (.seq (.seq (.region [⟨some 6, .assign (.const (.int .i64 0)), none, false⟩])
 (.block 2 (.loop pc17L2)))
 (.seq (.region [⟨some 4, .assign (.const (.bool true)), none, false⟩])
 .ret)))))
def fn17 : PFn := ⟨81, [.tmp 4], pc17, false⟩
theorem fnOk17 : FnOk Try.prog 17 fn17 := ⟨⟨_, _, [], Try.func17, rfl, by kernel_rfl, rfl, rfl, of_decide_eq_true (by kernel_rfl)⟩⟩

def pc19 : PC :=
 (.seq (.region [⟨some 2, .assign (.const (.bool false)), none, false⟩])
 (.seq (.region [⟨some 6, .move (.tmp 0), none, false⟩,
  ⟨some 7, .call ⟨.value (.func 18), #[.tmp 6], #[9]⟩, none, false⟩,
  ⟨some 5, .move (.tmp 7), none, false⟩,
  ⟨some 8, .extract (.tmp 5) 0, none, false⟩,
  ⟨some 9, .extract (.tmp 5) 1, none, false⟩,
  ⟨some 3, .alloc 25, none, false⟩,
  ⟨none, .store 25 (.tmp 3) (.tmp 8), none, false⟩,
  ⟨some 4, .assign (.tmp 9), none, false⟩])
 (.seq (.seq (.region [⟨some 10, .move (.tmp 4), none, false⟩,
  ⟨some 11, .binOp .neq 33 (.tmp 10) (.const (.int .i64 0)) 33, none, false⟩])
 (.cond (.tmp 11)
  (.seq (.region [⟨some 12, .move (.tmp 4), none, false⟩,
   ⟨some 13, .binOp .eql 33 (.tmp 12) (.const (.int .i64 18)) 33, none, false⟩,
   ⟨some 14, .move (.tmp 13), none, false⟩,
   ⟨some 15, .load 25 (.tmp 3), some (14, true), false⟩,
   ⟨some 16, .build 25 #[], some (14, true), false⟩,
   ⟨some 17, .call ⟨.value (.func 17), #[.tmp 15, .tmp 16], #[25, 25]⟩, some (14, true), false⟩,
   ⟨some 18, .pick (.tmp 14) (.tmp 17) (.const (.bool false)), none, false⟩,
   ⟨some 2, .assign (.tmp 18), none, false⟩])
  .ret)
  .skip))
 (.seq (.region [⟨some 19, .load 25 (.tmp 3), none, false⟩,
  ⟨some 20, .call ⟨.value (.func 12), #[.tmp 19], #[25]⟩, none, false⟩,
  ⟨some 21, .move (.tmp 20), none, false⟩,
  ⟨some 22, .load 25 (.tmp 3), some (21, true), false⟩,
  ⟨some 23, .call ⟨.value (.func 13), #[.tmp 22], #[25]⟩, some (21, true), false⟩,
  ⟨some 24, .move (.tmp 0), some (21, true), false⟩,
  ⟨some 25, .binOp .eql 9 (.tmp 23) (.tmp 24) 9, some (21, true), false⟩,
  ⟨some 26, .pick (.tmp 21) (.tmp 25) (.const (.bool false)), none, false⟩,
  ⟨some 27, .move (.tmp 26), none, false⟩,
  ⟨some 28, .load 25 (.tmp 3), some (27, true), false⟩,
  ⟨some 29, .call ⟨.value (.func 11), #[.tmp 28], #[25]⟩, some (27, true), false⟩,
  ⟨some 30, .move (.tmp 0), some (27, true), false⟩,
  ⟨some 31, .binOp .eql 9 (.tmp 29) (.tmp 30) 9, some (27, true), false⟩,
  ⟨some 32, .pick (.tmp 27) (.tmp 31) (.const (.bool false)), none, false⟩,
  ⟨some 2, .assign (.tmp 32), none, false⟩])
 .ret))))
def fn19 : PFn := ⟨33, [.tmp 2], pc19, false⟩
theorem fnOk19 : FnOk Try.prog 19 fn19 := ⟨⟨_, _, [], Try.func19, rfl, by kernel_rfl, rfl, rfl, of_decide_eq_true (by kernel_rfl)⟩⟩

def pc20 : PC :=
 (.seq (.region [⟨some 2, .assign (.const (.bool false)), none, false⟩])
 (.seq (.region [⟨some 6, .move (.tmp 0), none, false⟩,
  ⟨some 7, .call ⟨.value (.func 18), #[.tmp 6], #[9]⟩, none, false⟩,
  ⟨some 5, .move (.tmp 7), none, false⟩,
  ⟨some 8, .extract (.tmp 5) 0, none, false⟩,
  ⟨some 9, .extract (.tmp 5) 1, none, false⟩,
  ⟨some 3, .alloc 25, none, false⟩,
  ⟨none, .store 25 (.tmp 3) (.tmp 8), none, false⟩,
  ⟨some 4, .assign (.tmp 9), none, false⟩])
 (.seq (.region [⟨some 10, .move (.tmp 4), none, false⟩,
  ⟨some 11, .binOp .eql 33 (.tmp 10) (.const (.int .i64 0)) 33, none, false⟩,
  ⟨some 2, .assign (.tmp 11), none, false⟩])
 .ret)))
def fn20 : PFn := ⟨12, [.tmp 2], pc20, false⟩
theorem fnOk20 : FnOk Try.prog 20 fn20 := ⟨⟨_, _, [], Try.func20, rfl, by kernel_rfl, rfl, rfl, of_decide_eq_true (by kernel_rfl)⟩⟩

def pc4 : PC :=
 (.seq (.region [⟨some 3, .box 25 (.tmp 0), none, false⟩,
  ⟨some 6, .assign (.const (.bool false)), none, false⟩])
 (.seq (.seq (.region [⟨some 12, .call ⟨.value (.func 8), #[], #[]⟩, none, false⟩,
  ⟨some 13, .unOp .not 4 (.tmp 12), none, false⟩])
 (.cond (.tmp 13)
  (.seq (.region [⟨some 6, .assign (.const (.bool false)), none, false⟩])
  .ret)
  .skip))
 (.seq (.seq (.region [⟨some 14, .load 25 (.tmp 3), none, false⟩,
  ⟨some 15, .call ⟨.value (.func 9), #[.tmp 14, .const (.int .i64 0)], #[25, 3]⟩, none, false⟩,
  ⟨some 16, .unOp .not 4 (.tmp 15), none, false⟩,
  ⟨some 17, .move (.tmp 16), none, false⟩,
  ⟨some 18, .load 25 (.tmp 3), some (17, false), false⟩,
  ⟨some 19, .call ⟨.value (.func 12), #[.tmp 18], #[25]⟩, some (17, false), false⟩,
  ⟨some 20, .unOp .not 4 (.tmp 19), some (17, false), false⟩,
  ⟨some 21, .pick (.tmp 17) (.const (.bool true)) (.tmp 20), none, false⟩])
 (.cond (.tmp 21)
  (.seq (.region [⟨some 6, .assign (.const (.bool true)), none, false⟩])
  .ret)
  .skip))
 (.seq (.region [⟨some 22, .load 25 (.tmp 3), none, false⟩,
  ⟨some 23, .call ⟨.value (.func 13), #[.tmp 22], #[25]⟩, none, false⟩,
  ⟨some 7, .assign (.tmp 23), none, false⟩])
 (.seq (.region [⟨some 25, .move (.tmp 7), none, false⟩,
  ⟨some 26, .call ⟨.value (.func 18), #[.tmp 25], #[9]⟩, none, false⟩,
  ⟨some 24, .move (.tmp 26), none, false⟩,
  ⟨some 27, .extract (.tmp 24) 0, none, false⟩,
  ⟨some 28, .extract (.tmp 24) 1, none, false⟩,
  ⟨some 8, .alloc 25, none, false⟩,
  ⟨none, .store 25 (.tmp 8) (.tmp 27), none, false⟩,
  ⟨some 9, .assign (.tmp 28), none, false⟩])
 (.seq (.seq (.region [⟨some 29, .move (.tmp 9), none, false⟩,
  ⟨some 30, .binOp .neq 33 (.tmp 29) (.const (.int .i64 0)) 33, none, false⟩,
  ⟨some 31, .move (.tmp 30), none, false⟩,
  ⟨some 32, .load 25 (.tmp 3), some (31, false), false⟩,
  ⟨some 33, .load 25 (.tmp 8), some (31, false), false⟩,
  ⟨some 34, .call ⟨.value (.func 17), #[.tmp 32, .tmp 33], #[25, 25]⟩, some (31, false), false⟩,
  ⟨some 35, .unOp .not 4 (.tmp 34), some (31, false), false⟩,
  ⟨some 36, .pick (.tmp 31) (.const (.bool true)) (.tmp 35), none, false⟩,
  ⟨some 37, .move (.tmp 36), none, false⟩,
  ⟨some 38, .move (.tmp 7), some (37, false), false⟩,
  ⟨some 39, .call ⟨.builtin .len, #[.tmp 38], #[9]⟩, some (37, false), false⟩,
  ⟨some 40, .binOp .eql 3 (.tmp 39) (.const (.int .i64 0)) 3, some (37, false), false⟩,
  ⟨some 41, .pick (.tmp 37) (.const (.bool true)) (.tmp 40), none, false⟩])
 (.cond (.tmp 41)
  (.seq (.region [⟨some 6, .assign (.const (.bool false)), none, false⟩])
  .ret)
  .skip))
 (.seq (.region [⟨some 42, .move (.tmp 1), none, false⟩,
  ⟨some 43, .convert 32 3 (.tmp 42), none, false⟩,
  ⟨some 44, .move (.tmp 7), none, false⟩,
  ⟨some 45, .call ⟨.builtin .len, #[.tmp 44], #[9]⟩, none, false⟩,
  ⟨some 46, .binOp .rem 3 (.tmp 43) (.tmp 45) 3, none, false⟩,
  ⟨some 10, .assign (.tmp 46), none, false⟩])
 (.seq (.region [⟨some 47, .move (.tmp 7), none, false⟩,
  ⟨some 48, .convert 9 36 (.tmp 47), none, true⟩,
  ⟨some 11, .assign (.tmp 48), none, false⟩])
 (.seq (.region [⟨some 49, .move (.tmp 11), none, false⟩,
  ⟨some 50, .move (.tmp 10), none, false⟩,
  ⟨some 51, .move (.tmp 2), none, false⟩,
  ⟨some 52, .indexAddr 36 (.tmp 49) (.tmp 50), none, false⟩,
  ⟨none, .store 5 (.tmp 52) (.tmp 51), none, false⟩])
 (.seq (.region [⟨some 53, .move (.tmp 11), none, false⟩,
  ⟨some 54, .convert 36 9 (.tmp 53), none, false⟩,
  ⟨some 55, .call ⟨.value (.func 19), #[.tmp 54], #[9]⟩, none, false⟩,
  ⟨some 56, .move (.tmp 55), none, false⟩,
  ⟨some 57, .move (.tmp 7), some (56, true), false⟩,
  ⟨some 58, .move (.tmp 2), some (56, true), false⟩,
  ⟨some 59, .buildSlice 36 1 #[(0, .tmp 58)], some (56, true), false⟩,
  ⟨some 60, .convert 36 9 (.tmp 59), some (56, true), false⟩,
  ⟨some 61, .binOp .add 9 (.tmp 57) (.tmp 60) 9, some (56, true), false⟩,
  ⟨some 62, .call ⟨.value (.func 19), #[.tmp 61], #[9]⟩, some (56, true), false⟩,
  ⟨some 63, .pick (.tmp 56) (.tmp 62) (.const (.bool false)), none, false⟩,
  ⟨some 64, .move (.tmp 63), none, false⟩,
  ⟨some 65, .move (.tmp 7), some (64, true), false⟩,
  ⟨some 66, .move (.tmp 10), some (64, true), false⟩,
  ⟨some 67, .slice 9 (.tmp 65) none (some (.tmp 66)) none, some (64, true), false⟩,
  ⟨some 68, .call ⟨.value (.func 20), #[.tmp 67], #[9]⟩, some (64, true), false⟩,
  ⟨some 69, .unOp .not 4 (.tmp 68), some (64, true), false⟩,
  ⟨some 70, .pick (.tmp 64) (.tmp 69) (.const (.bool false)), none, false⟩,
  ⟨some 71, .move (.tmp 70), none, false⟩,
  ⟨some 72, .move (.tmp 7), some (71, true), false⟩,
  ⟨some 73, .binOp .add 9 (.tmp 72) (.const (.string ⟨#[40, 41]⟩)) 9, some (71, true), false⟩,
  ⟨some 74, .call ⟨.value (.func 20), #[.tmp 73], #[9]⟩, some (71, true), false⟩,
  ⟨some 75, .unOp .not 4 (.tmp 74), some (71, true), false⟩,
  ⟨some 76, .pick (.tmp 71) (.tmp 75) (.const (.bool false)), none, false⟩,
  ⟨some 6, .assign (.tmp 76), none, false⟩])
 .ret))))))))))
def fn4 : PFn := ⟨77, [.tmp 6], pc4, false⟩
theorem fnOk4 : FnOk Try.prog 4 fn4 := ⟨⟨_, _, [1000048], Try.func4, rfl, by kernel_rfl, rfl, rfl, of_decide_eq_true (by kernel_rfl)⟩⟩

def pc32 : PC :=
 (.seq (.region [⟨some 1, .box 25 (.tmp 0), none, false⟩,
  ⟨some 2, .assign (.const (.bool false)), none, false⟩])
 (.seq (.region [⟨some 3, .load 25 (.tmp 1), none, false⟩,
  ⟨some 4, .call ⟨.value (.func 23), #[.tmp 3], #[25]⟩, none, false⟩,
  ⟨some 5, .unOp .not 4 (.tmp 4), none, false⟩,
  ⟨some 2, .assign (.tmp 5), none, false⟩])
 .ret))
def fn32 : PFn := ⟨6, [.tmp 2], pc32, false⟩
theorem fnOk32 : FnOk Try.prog 32 fn32 := ⟨⟨_, _, [], Try.func32, rfl, by kernel_rfl, rfl, rfl, of_decide_eq_true (by kernel_rfl)⟩⟩

def fnOf : FuncId → Option PFn
 | 25 => some fn25
 | 14 => some fn14
 | 42 => some fn42
 | 31 => some fn31
 | 33 => some fn33
 | 34 => some fn34
 | 23 => some fn23
 | 12 => some fn12
 | 37 => some fn37
 | 24 => some fn24
 | 13 => some fn13
 | 26 => some fn26
 | 27 => some fn27
 | 16 => some fn16
 | 40 => some fn40
 | 39 => some fn39
 | 46 => some fn46
 | 41 => some fn41
 | 28 => some fn28
 | 18 => some fn18
 | 8 => some fn8
 | 9 => some fn9
 | 22 => some fn22
 | 11 => some fn11
 | 17 => some fn17
 | 19 => some fn19
 | 20 => some fn20
 | 4 => some fn4
 | 32 => some fn32
 | _ => none
theorem fnOf_ok : ∀ f pf, fnOf f = some pf → FnOk Try.prog f pf := by
 intro f pf h
 unfold fnOf at h
 split at h <;> first | (injection h with h; subst h; first | exact fnOk25 | exact fnOk14 | exact fnOk42 | exact fnOk31 | exact fnOk33 | exact fnOk34 | exact fnOk23 | exact fnOk12 | exact fnOk37 | exact fnOk24 | exact fnOk13 | exact fnOk26 | exact fnOk27 | exact fnOk16 | exact fnOk40 | exact fnOk39 | exact fnOk46 | exact fnOk41 | exact fnOk28 | exact fnOk18 | exact fnOk8 | exact fnOk9 | exact fnOk22 | exact fnOk11 | exact fnOk17 | exact fnOk19 | exact fnOk20 | exact fnOk4 | exact fnOk32) | cases h
end Go.Proofs.Ythkjepoaddfoiaa.M

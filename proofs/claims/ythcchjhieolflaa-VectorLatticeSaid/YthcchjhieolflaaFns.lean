/- The functions, compiled for the abstract machine (made by a program of mine, gen.py). -/
import Derived.Test.YthcchjhieolflaaTy
namespace Go.Proofs.Ythcchjhieolflaa.M
set_option linter.unusedVariables false
set_option linter.unusedSimpArgs false
open Go Go.Pam

/-- prefect/frame.New -/
def pc11 : PC :=
  (.seq (.region [⟨some 0, .assign (.const (.pointer none)), none, false⟩])
  (.seq (.region [⟨some 1, .build 68 #[], none, false⟩,
    ⟨some 2, .box 68 (.tmp 1), none, false⟩,
    ⟨some 0, .assign (.tmp 2), none, false⟩])
  .ret))
def fn11 : PFn := ⟨3, [.tmp 0], pc11, false⟩
theorem fnOk11 : FnOk Try.prog 11 fn11 := ⟨⟨_, _, [], Try.func11, rfl, by kernel_rfl, rfl, rfl, of_decide_eq_true (by kernel_rfl)⟩⟩

/-- (*prefect/frame.Cutter).Feed -/
def pc12 : PC :=
  (.seq (.region [⟨some 4, .assign (.const (.int .i64 0)), none, false⟩])
  (.seq (.seq (.region [⟨some 5, .move (.tmp 1), none, false⟩,
    ⟨some 6, .call ⟨.builtin .len, #[.tmp 5], #[9]⟩, none, false⟩,
    ⟨some 7, .move (.tmp 0), none, false⟩,
    ⟨some 8, .nilCheck (.tmp 7), none, false⟩,
    ⟨some 9, .fieldAddr 68 (.tmp 8) 0, none, false⟩,
    ⟨some 10, .load 9 (.tmp 9), none, false⟩,
    ⟨some 11, .call ⟨.builtin .len, #[.tmp 10], #[9]⟩, none, false⟩,
    ⟨some 12, .binOp .sub 3 (.const (.int .i64 16000)) (.tmp 11) 3, none, false⟩,
    ⟨some 13, .binOp .gtr 3 (.tmp 6) (.tmp 12) 3, none, false⟩])
  (.cond (.tmp 13)
    (.seq (.region [⟨some 4, .assign (.const (.int .i64 13)), none, false⟩])
    .ret)
    .skip))
  (.seq (.region [⟨some 14, .move (.tmp 0), none, false⟩,
    ⟨some 15, .nilCheck (.tmp 14), none, false⟩,
    ⟨some 16, .fieldAddr 68 (.tmp 15) 0, none, false⟩,
    ⟨some 17, .load 9 (.tmp 16), none, false⟩,
    ⟨some 18, .move (.tmp 1), none, false⟩,
    ⟨some 19, .binOp .add 9 (.tmp 17) (.tmp 18) 9, none, false⟩,
    ⟨some 20, .nilCheck (.tmp 14), none, false⟩,
    ⟨some 21, .fieldAddr 68 (.tmp 20) 0, none, false⟩,
    ⟨none, .store 9 (.tmp 21) (.tmp 19), none, false⟩])
  (.seq (.region [⟨some 4, .assign (.const (.int .i64 0)), none, false⟩])
  .ret))))
def fn12 : PFn := ⟨22, [.tmp 4], pc12, false⟩
theorem fnOk12 : FnOk Try.prog 12 fn12 := ⟨⟨_, _, [], Try.func12, rfl, by kernel_rfl, rfl, rfl, of_decide_eq_true (by kernel_rfl)⟩⟩

def pc41L4 : PC :=
  (.seq (.region [⟨some 45, .binOp .lss 3 (.tmp 44) (.tmp 43) 3, none, false⟩])
  (.seq (.cond (.tmp 45)
    .skip
    (.exit 4))
  (.seq (.block 5 (.seq (.region [⟨some 46, .indexAddr 23 (.tmp 42) (.tmp 44), none, false⟩,
    ⟨some 47, .load 5 (.tmp 46), none, false⟩,
    ⟨some 8, .assign (.tmp 47), none, false⟩])
  (.region [⟨some 48, .move (.tmp 5), none, false⟩,
    ⟨some 49, .binOp .shl 3 (.tmp 48) (.const (.int .u64 8)) 39, none, false⟩,
    ⟨some 50, .move (.tmp 8), none, false⟩,
    ⟨some 51, .convert 5 3 (.tmp 50), none, false⟩,
    ⟨some 52, .binOp .or 3 (.tmp 49) (.tmp 51) 3, none, false⟩,
    ⟨some 5, .assign (.tmp 52), none, false⟩])))
  (.region [⟨some 53, .binOp .add 3 (.tmp 44) (.const (.int .i64 1)) 3, none, false⟩,
    ⟨some 44, .move (.tmp 53), none, false⟩]))))
/-- prefect/ber.Head -/
def pc41 : PC :=
  (.seq (.region [⟨some 2, .assign (.const (.int .i64 0)), none, false⟩,
    ⟨some 3, .assign (.const (.int .i64 0)), none, false⟩,
    ⟨some 4, .assign (.const (.int .i64 0)), none, false⟩])
  (.seq (.seq (.region [⟨some 9, .move (.tmp 0), none, false⟩,
    ⟨some 10, .binOp .eql 9 (.tmp 9) (.const (.string ⟨#[]⟩)) 9, none, false⟩])
  (.cond (.tmp 10)
    (.seq (.region [⟨some 2, .assign (.const (.int .i64 0)), none, false⟩,
      ⟨some 3, .assign (.const (.int .i64 0)), none, false⟩,
      ⟨some 4, .assign (.const (.int .i64 10)), none, false⟩])
    .ret)
    .skip))
  (.seq (.seq (.region [⟨some 11, .move (.tmp 0), none, false⟩,
    ⟨some 12, .index 9 (.tmp 11) (.const (.int .i64 0)), none, false⟩,
    ⟨some 13, .binOp .and 5 (.tmp 12) (.const (.int .u8 31)) 5, none, false⟩,
    ⟨some 14, .binOp .eql 5 (.tmp 13) (.const (.int .u8 31)) 5, none, false⟩])
  (.cond (.tmp 14)
    (.seq (.region [⟨some 2, .assign (.const (.int .i64 0)), none, false⟩,
      ⟨some 3, .assign (.const (.int .i64 0)), none, false⟩,
      ⟨some 4, .assign (.const (.int .i64 14)), none, false⟩])
    .ret)
    .skip))
  (.seq (.seq (.region [⟨some 15, .move (.tmp 0), none, false⟩,
    ⟨some 16, .call ⟨.builtin .len, #[.tmp 15], #[9]⟩, none, false⟩,
    ⟨some 17, .binOp .eql 3 (.tmp 16) (.const (.int .i64 1)) 3, none, false⟩])
  (.cond (.tmp 17)
    (.seq (.region [⟨some 2, .assign (.const (.int .i64 0)), none, false⟩,
      ⟨some 3, .assign (.const (.int .i64 0)), none, false⟩,
      ⟨some 4, .assign (.const (.int .i64 10)), none, false⟩])
    .ret)
    .skip))
  (.seq (.region [⟨some 18, .move (.tmp 0), none, false⟩,
    ⟨some 19, .index 9 (.tmp 18) (.const (.int .i64 1)), none, false⟩,
    ⟨some 20, .convert 5 3 (.tmp 19), none, false⟩,
    ⟨some 5, .assign (.tmp 20), none, false⟩])
  (.seq (.region [⟨some 6, .assign (.const (.int .i64 0)), none, false⟩])
  (.seq (.block 0 (.seq (.block 3 (.seq (.block 2 (.seq (.block 1 (.seq (.seq (.seq (.region [⟨some 22, .move (.tmp 5), none, false⟩,
    ⟨some 23, .binOp .eql 3 (.tmp 22) (.const (.int .i64 128)) 3, none, false⟩,
    ⟨some 24, .move (.tmp 23), none, false⟩,
    ⟨some 25, .move (.tmp 5), some (24, false), false⟩,
    ⟨some 26, .binOp .gtr 3 (.tmp 25) (.const (.int .i64 132)) 3, some (24, false), false⟩,
    ⟨some 27, .pick (.tmp 24) (.const (.bool true)) (.tmp 26), none, false⟩,
    ⟨some 21, .assign (.tmp 27), none, false⟩])
  (.cond (.tmp 21)
    (.exit 1)
    .skip))
  (.seq (.region [⟨some 29, .move (.tmp 5), none, false⟩,
    ⟨some 30, .binOp .gtr 3 (.tmp 29) (.const (.int .i64 128)) 3, none, false⟩,
    ⟨some 28, .assign (.tmp 30), none, false⟩])
  (.cond (.tmp 28)
    (.exit 2)
    .skip)))
  (.exit 3)))
  (.seq (.seq (.region [⟨some 2, .assign (.const (.int .i64 0)), none, false⟩,
    ⟨some 3, .assign (.const (.int .i64 0)), none, false⟩,
    ⟨some 4, .assign (.const (.int .i64 11)), none, false⟩])
  .ret)
  (.exit 0))))
  (.seq (.region [⟨some 31, .move (.tmp 5), none, false⟩,
    ⟨some 32, .binOp .sub 3 (.tmp 31) (.const (.int .i64 128)) 3, none, false⟩,
    ⟨some 6, .assign (.tmp 32), none, false⟩])
  (.seq (.seq (.region [⟨some 33, .move (.tmp 0), none, false⟩,
    ⟨some 34, .call ⟨.builtin .len, #[.tmp 33], #[9]⟩, none, false⟩,
    ⟨some 35, .move (.tmp 6), none, false⟩,
    ⟨some 36, .binOp .add 3 (.const (.int .i64 2)) (.tmp 35) 3, none, false⟩,
    ⟨some 37, .binOp .lss 3 (.tmp 34) (.tmp 36) 3, none, false⟩])
  (.cond (.tmp 37)
    (.seq (.region [⟨some 2, .assign (.const (.int .i64 0)), none, false⟩,
      ⟨some 3, .assign (.const (.int .i64 0)), none, false⟩,
      ⟨some 4, .assign (.const (.int .i64 10)), none, false⟩])
    .ret)
    .skip))
  (.seq (.region [⟨some 5, .assign (.const (.int .i64 0)), none, false⟩])
  (.seq (.region [⟨some 38, .move (.tmp 0), none, false⟩,
    ⟨some 39, .move (.tmp 6), none, false⟩,
    ⟨some 40, .binOp .add 3 (.const (.int .i64 2)) (.tmp 39) 3, none, false⟩,
    ⟨some 41, .slice 9 (.tmp 38) (some (.const (.int .i64 2))) (some (.tmp 40)) none, none, false⟩,
    ⟨some 42, .convert 9 23 (.tmp 41), none, false⟩,
    ⟨some 43, .call ⟨.builtin .len, #[.tmp 42], #[23]⟩, none, false⟩,
    ⟨some 44, .move (.const (.int .i64 0)), none, false⟩])
  (.block 4 (.loop pc41L4))))))))
  (.seq (.seq (.region [⟨some 54, .move (.tmp 5), none, false⟩,
    ⟨some 55, .binOp .gtr 3 (.tmp 54) (.const (.int .i64 4000)) 3, none, false⟩])
  (.cond (.tmp 55)
    (.seq (.region [⟨some 2, .assign (.const (.int .i64 0)), none, false⟩,
      ⟨some 3, .assign (.const (.int .i64 0)), none, false⟩,
      ⟨some 4, .assign (.const (.int .i64 13)), none, false⟩])
    .ret)
    .skip))
  (.exit 0))))
  (.seq (.region [⟨some 56, .move (.tmp 6), none, false⟩,
    ⟨some 57, .binOp .add 3 (.const (.int .i64 2)) (.tmp 56) 3, none, false⟩,
    ⟨some 58, .move (.tmp 5), none, false⟩,
    ⟨some 2, .assign (.tmp 57), none, false⟩,
    ⟨some 3, .assign (.tmp 58), none, false⟩,
    ⟨some 4, .assign (.const (.int .i64 0)), none, false⟩])
  .ret))))))))
def fn41 : PFn := ⟨59, [.tmp 2, .tmp 3, .tmp 4], pc41, false⟩
theorem fnOk41 : FnOk Try.prog 41 fn41 := ⟨⟨_, _, [], Try.func41, rfl, by kernel_rfl, rfl, rfl, of_decide_eq_true (by kernel_rfl)⟩⟩

def pc57L3 : PC :=
  (.seq (.region [⟨some 46, .binOp .lss 3 (.tmp 45) (.tmp 44) 3, none, false⟩])
  (.seq (.cond (.tmp 46)
    .skip
    (.exit 3))
  (.seq (.block 4 (.seq (.region [⟨some 47, .indexAddr 99 (.tmp 43) (.tmp 45), none, false⟩,
    ⟨some 48, .load 82 (.tmp 47), none, false⟩,
    ⟨some 12, .assign (.tmp 48), none, false⟩])
  (.seq (.region [⟨some 49, .move (.tmp 12), none, false⟩,
    ⟨some 50, .move (.tmp 1), none, false⟩,
    ⟨some 51, .move (.tmp 2), none, false⟩,
    ⟨some 52, .call ⟨.value (.func 57), #[.tmp 49, .tmp 50, .tmp 51], #[82, 82, 4]⟩, none, false⟩])
  (.cond (.tmp 52)
    (.seq (.region [⟨some 6, .assign (.const (.bool true)), none, false⟩])
    .ret)
    .skip))))
  (.region [⟨some 53, .binOp .add 3 (.tmp 45) (.const (.int .i64 1)) 3, none, false⟩,
    ⟨some 45, .move (.tmp 53), none, false⟩]))))
def pc57L0 : PC :=
  (.block 1 (.seq (.seq (.region [⟨some 14, .move (.tmp 2), none, false⟩,
    ⟨some 15, .move (.tmp 14), none, false⟩,
    ⟨some 16, .move (.tmp 0), some (15, true), false⟩,
    ⟨some 17, .move (.tmp 1), some (15, true), false⟩,
    ⟨some 18, .binOp .eql 82 (.tmp 16) (.tmp 17) 82, some (15, true), false⟩,
    ⟨some 19, .pick (.tmp 15) (.tmp 18) (.const (.bool false)), none, false⟩])
  (.cond (.tmp 19)
    (.seq (.region [⟨some 6, .assign (.const (.bool true)), none, false⟩])
    .ret)
    .skip))
  (.seq (.seq (.region [⟨some 21, .move (.tmp 0), none, false⟩,
    ⟨some 22, .typeAssert (.tmp 21) 82 93 true, none, false⟩,
    ⟨some 20, .move (.tmp 22), none, false⟩,
    ⟨some 23, .extract (.tmp 20) 0, none, false⟩,
    ⟨some 24, .extract (.tmp 20) 1, none, false⟩,
    ⟨some 7, .assign (.tmp 23), none, false⟩,
    ⟨some 8, .assign (.tmp 24), none, false⟩])
  (.seq (.region [⟨some 25, .move (.tmp 8), none, false⟩,
    ⟨some 26, .move (.tmp 25), none, false⟩,
    ⟨some 27, .move (.tmp 7), some (26, true), false⟩,
    ⟨some 28, .move (.tmp 1), some (26, true), false⟩,
    ⟨some 29, .call ⟨.invoke (.tmp 27) "Is", #[.tmp 28], #[82]⟩, some (26, true), false⟩,
    ⟨some 30, .pick (.tmp 26) (.tmp 29) (.const (.bool false)), none, false⟩])
  (.cond (.tmp 30)
    (.seq (.region [⟨some 6, .assign (.const (.bool true)), none, false⟩])
    .ret)
    .skip)))
  (.seq (.region [⟨some 31, .move (.tmp 0), none, false⟩])
  (.block 2 (.seq (.region [⟨some 32, .typeAssert (.tmp 31) 82 96 true, none, false⟩,
    ⟨some 33, .extract (.tmp 32) 1, none, false⟩,
    ⟨some 34, .extract (.tmp 32) 0, none, false⟩])
  (.cond (.tmp 33)
    (.seq (.region [⟨some 9, .assign (.tmp 34), none, false⟩])
    (.seq (.region [⟨some 35, .move (.tmp 9), none, false⟩,
      ⟨some 36, .call ⟨.invoke (.tmp 35) "Unwrap", #[], #[]⟩, none, false⟩,
      ⟨some 0, .assign (.tmp 36), none, false⟩])
    (.seq (.region [⟨some 37, .move (.tmp 0), none, false⟩,
      ⟨some 38, .binOp .eql 82 (.tmp 37) (.const .nilIface) 82, none, false⟩])
    (.cond (.tmp 38)
      (.seq (.region [⟨some 6, .assign (.const (.bool false)), none, false⟩])
      .ret)
      .skip))))
    (.seq (.region [⟨some 39, .typeAssert (.tmp 31) 82 98 true, none, false⟩,
      ⟨some 40, .extract (.tmp 39) 1, none, false⟩,
      ⟨some 41, .extract (.tmp 39) 0, none, false⟩])
    (.cond (.tmp 40)
      (.seq (.region [⟨some 10, .assign (.tmp 41), none, false⟩])
      (.seq (.seq (.region [⟨some 42, .move (.tmp 10), none, false⟩,
        ⟨some 43, .call ⟨.invoke (.tmp 42) "Unwrap", #[], #[]⟩, none, false⟩,
        ⟨some 44, .call ⟨.builtin .len, #[.tmp 43], #[99]⟩, none, false⟩,
        ⟨some 45, .move (.const (.int .i64 0)), none, false⟩])
      (.block 3 (.loop pc57L3)))
      (.seq (.region [⟨some 6, .assign (.const (.bool false)), none, false⟩])
      .ret)))
      (.seq (.region [⟨some 13, .assign (.tmp 31), none, false⟩])
      (.seq (.region [⟨some 6, .assign (.const (.bool false)), none, false⟩])
      .ret)))))))))))
/-- errors.is -/
def pc57 : PC :=
  (.seq (.region [⟨some 6, .assign (.const (.bool false)), none, false⟩])
  (.block 0 (.loop pc57L0)))
def fn57 : PFn := ⟨54, [.tmp 6], pc57, false⟩
theorem fnOk57 : FnOk Try.prog 57 fn57 := ⟨⟨_, _, [], Try.func57, rfl, by kernel_rfl, rfl, rfl, of_decide_eq_true (by kernel_rfl)⟩⟩

/-- errors.Is -/
def pc42 : PC :=
  (.seq (.region [⟨some 4, .assign (.const (.bool false)), none, false⟩])
  (.seq (.seq (.region [⟨some 6, .move (.tmp 0), none, false⟩,
    ⟨some 7, .binOp .eql 82 (.tmp 6) (.const .nilIface) 82, none, false⟩,
    ⟨some 8, .move (.tmp 7), none, false⟩,
    ⟨some 9, .move (.tmp 1), some (8, false), false⟩,
    ⟨some 10, .binOp .eql 82 (.tmp 9) (.const .nilIface) 82, some (8, false), false⟩,
    ⟨some 11, .pick (.tmp 8) (.const (.bool true)) (.tmp 10), none, false⟩])
  (.cond (.tmp 11)
    (.seq (.region [⟨some 12, .move (.tmp 0), none, false⟩,
      ⟨some 13, .move (.tmp 1), none, false⟩,
      ⟨some 14, .binOp .eql 82 (.tmp 12) (.tmp 13) 82, none, false⟩,
      ⟨some 4, .assign (.tmp 14), none, false⟩])
    .ret)
    .skip))
  (.seq (.region [⟨some 15, .move (.tmp 1), none, false⟩,
    ⟨some 16, .call ⟨.value (.func 56), #[.tmp 15], #[20]⟩, none, false⟩,
    ⟨some 17, .call ⟨.invoke (.tmp 16) "Comparable", #[], #[]⟩, none, false⟩,
    ⟨some 5, .assign (.tmp 17), none, false⟩])
  (.seq (.region [⟨some 18, .move (.tmp 0), none, false⟩,
    ⟨some 19, .move (.tmp 1), none, false⟩,
    ⟨some 20, .move (.tmp 5), none, false⟩,
    ⟨some 21, .call ⟨.value (.func 57), #[.tmp 18, .tmp 19, .tmp 20], #[82, 82, 4]⟩, none, false⟩,
    ⟨some 4, .assign (.tmp 21), none, false⟩])
  .ret))))
def fn42 : PFn := ⟨22, [.tmp 4], pc42, false⟩
theorem fnOk42 : FnOk Try.prog 42 fn42 := ⟨⟨_, _, [], Try.func42, rfl, by kernel_rfl, rfl, rfl, of_decide_eq_true (by kernel_rfl)⟩⟩

/-- (*prefect/frame.Cutter).Next -/
def pc13 : PC :=
  (.seq (.region [⟨some 2, .assign (.const (.string ⟨#[]⟩)), none, false⟩,
    ⟨some 3, .assign (.const (.int .i64 0)), none, false⟩])
  (.seq (.region [⟨some 9, .move (.tmp 0), none, false⟩,
    ⟨some 10, .nilCheck (.tmp 9), none, false⟩,
    ⟨some 11, .fieldAddr 68 (.tmp 10) 0, none, false⟩,
    ⟨some 12, .load 9 (.tmp 11), none, false⟩,
    ⟨some 13, .call ⟨.value (.func 41), #[.tmp 12], #[9]⟩, none, false⟩,
    ⟨some 8, .move (.tmp 13), none, false⟩,
    ⟨some 14, .extract (.tmp 8) 0, none, false⟩,
    ⟨some 15, .extract (.tmp 8) 1, none, false⟩,
    ⟨some 16, .extract (.tmp 8) 2, none, false⟩,
    ⟨some 4, .assign (.tmp 14), none, false⟩,
    ⟨some 5, .assign (.tmp 15), none, false⟩,
    ⟨some 6, .assign (.tmp 16), none, false⟩])
  (.seq (.seq (.region [⟨some 17, .move (.tmp 6), none, false⟩,
    ⟨some 18, .makeInterface 32 (.tmp 17), none, false⟩,
    ⟨some 19, .makeInterface 32 (.const (.int .i64 0)), none, false⟩,
    ⟨some 20, .call ⟨.value (.func 42), #[.tmp 18, .tmp 19], #[82, 82]⟩, none, false⟩,
    ⟨some 21, .move (.tmp 20), none, false⟩,
    ⟨some 22, .move (.tmp 5), some (21, true), false⟩,
    ⟨some 23, .move (.tmp 0), some (21, true), false⟩,
    ⟨some 24, .nilCheck (.tmp 23), some (21, true), false⟩,
    ⟨some 25, .fieldAddr 68 (.tmp 24) 0, some (21, true), false⟩,
    ⟨some 26, .load 9 (.tmp 25), some (21, true), false⟩,
    ⟨some 27, .call ⟨.builtin .len, #[.tmp 26], #[9]⟩, some (21, true), false⟩,
    ⟨some 28, .move (.tmp 4), some (21, true), false⟩,
    ⟨some 29, .binOp .sub 3 (.tmp 27) (.tmp 28) 3, some (21, true), false⟩,
    ⟨some 30, .binOp .gtr 3 (.tmp 22) (.tmp 29) 3, some (21, true), false⟩,
    ⟨some 31, .pick (.tmp 21) (.tmp 30) (.const (.bool false)), none, false⟩])
  (.cond (.tmp 31)
    (.region [⟨some 6, .assign (.const (.int .i64 10)), none, false⟩])
    .skip))
  (.seq (.seq (.region [⟨some 32, .move (.tmp 6), none, false⟩,
    ⟨some 33, .makeInterface 32 (.tmp 32), none, false⟩,
    ⟨some 34, .makeInterface 32 (.const (.int .i64 0)), none, false⟩,
    ⟨some 35, .call ⟨.value (.func 42), #[.tmp 33, .tmp 34], #[82, 82]⟩, none, false⟩,
    ⟨some 36, .unOp .not 4 (.tmp 35), none, false⟩])
  (.cond (.tmp 36)
    (.seq (.region [⟨some 37, .move (.tmp 6), none, false⟩,
      ⟨some 2, .assign (.const (.string ⟨#[]⟩)), none, false⟩,
      ⟨some 3, .assign (.tmp 37), none, false⟩])
    .ret)
    .skip))
  (.seq (.region [⟨some 38, .move (.tmp 0), none, false⟩,
    ⟨some 39, .nilCheck (.tmp 38), none, false⟩,
    ⟨some 40, .fieldAddr 68 (.tmp 39) 0, none, false⟩,
    ⟨some 41, .load 9 (.tmp 40), none, false⟩,
    ⟨some 42, .move (.tmp 4), none, false⟩,
    ⟨some 43, .move (.tmp 5), none, false⟩,
    ⟨some 44, .binOp .add 3 (.tmp 42) (.tmp 43) 3, none, false⟩,
    ⟨some 45, .slice 9 (.tmp 41) none (some (.tmp 44)) none, none, false⟩,
    ⟨some 7, .assign (.tmp 45), none, false⟩])
  (.seq (.region [⟨some 46, .move (.tmp 0), none, false⟩,
    ⟨some 47, .move (.tmp 0), none, false⟩,
    ⟨some 48, .nilCheck (.tmp 47), none, false⟩,
    ⟨some 49, .fieldAddr 68 (.tmp 48) 0, none, false⟩,
    ⟨some 50, .load 9 (.tmp 49), none, false⟩,
    ⟨some 51, .move (.tmp 4), none, false⟩,
    ⟨some 52, .move (.tmp 5), none, false⟩,
    ⟨some 53, .binOp .add 3 (.tmp 51) (.tmp 52) 3, none, false⟩,
    ⟨some 54, .slice 9 (.tmp 50) (some (.tmp 53)) none none, none, false⟩,
    ⟨some 55, .nilCheck (.tmp 46), none, false⟩,
    ⟨some 56, .fieldAddr 68 (.tmp 55) 0, none, false⟩,
    ⟨none, .store 9 (.tmp 56) (.tmp 54), none, false⟩])
  (.seq (.region [⟨some 57, .move (.tmp 7), none, false⟩,
    ⟨some 2, .assign (.tmp 57), none, false⟩,
    ⟨some 3, .assign (.const (.int .i64 0)), none, false⟩])
  .ret)))))))
def fn13 : PFn := ⟨58, [.tmp 2, .tmp 3], pc13, false⟩
theorem fnOk13 : FnOk Try.prog 13 fn13 := ⟨⟨_, _, [], Try.func13, rfl, by kernel_rfl, rfl, rfl, of_decide_eq_true (by kernel_rfl)⟩⟩

/-- (*prefect/frame.Cutter).Left -/
def pc14 : PC :=
  (.seq (.region [⟨some 2, .assign (.const (.int .i64 0)), none, false⟩])
  (.seq (.region [⟨some 3, .move (.tmp 0), none, false⟩,
    ⟨some 4, .nilCheck (.tmp 3), none, false⟩,
    ⟨some 5, .fieldAddr 68 (.tmp 4) 0, none, false⟩,
    ⟨some 6, .load 9 (.tmp 5), none, false⟩,
    ⟨some 7, .call ⟨.builtin .len, #[.tmp 6], #[9]⟩, none, false⟩,
    ⟨some 2, .assign (.tmp 7), none, false⟩])
  .ret))
def fn14 : PFn := ⟨8, [.tmp 2], pc14, false⟩
theorem fnOk14 : FnOk Try.prog 14 fn14 := ⟨⟨_, _, [], Try.func14, rfl, by kernel_rfl, rfl, rfl, of_decide_eq_true (by kernel_rfl)⟩⟩

/-- prefect/prefectlaw3.known -/
def pc9 : PC :=
  (.seq (.region [⟨some 0, .assign (.const (.bool false)), none, false⟩])
  (.seq (.region [⟨some 7, .call ⟨.value (.func 11), #[], #[]⟩, none, false⟩,
    ⟨some 1, .assign (.tmp 7), none, false⟩])
  (.seq (.seq (.region [⟨some 8, .move (.tmp 1), none, false⟩,
    ⟨some 9, .binOp .eql 30 (.tmp 8) (.const (.pointer none)) 30, none, false⟩,
    ⟨some 10, .move (.tmp 9), none, false⟩,
    ⟨some 11, .move (.tmp 1), some (10, false), false⟩,
    ⟨some 12, .call ⟨.value (.func 12), #[.tmp 11, .const (.string ⟨#[4, 1]⟩)], #[30, 9]⟩, some (10, false), false⟩,
    ⟨some 13, .binOp .neq 32 (.tmp 12) (.const (.int .i64 0)) 32, some (10, false), false⟩,
    ⟨some 14, .pick (.tmp 10) (.const (.bool true)) (.tmp 13), none, false⟩])
  (.cond (.tmp 14)
    (.seq (.region [⟨some 0, .assign (.const (.bool false)), none, false⟩])
    .ret)
    .skip))
  (.seq (.region [⟨some 16, .move (.tmp 1), none, false⟩,
    ⟨some 17, .call ⟨.value (.func 13), #[.tmp 16], #[30]⟩, none, false⟩,
    ⟨some 15, .move (.tmp 17), none, false⟩,
    ⟨some 18, .extract (.tmp 15) 0, none, false⟩,
    ⟨some 19, .extract (.tmp 15) 1, none, false⟩,
    ⟨some 2, .assign (.tmp 18), none, false⟩,
    ⟨some 3, .assign (.tmp 19), none, false⟩])
  (.seq (.region [⟨some 20, .move (.tmp 1), none, false⟩,
    ⟨some 21, .call ⟨.value (.func 12), #[.tmp 20, .const (.string ⟨#[97, 5]⟩)], #[30, 9]⟩, none, false⟩,
    ⟨some 4, .assign (.tmp 21), none, false⟩])
  (.seq (.region [⟨some 23, .move (.tmp 1), none, false⟩,
    ⟨some 24, .call ⟨.value (.func 13), #[.tmp 23], #[30]⟩, none, false⟩,
    ⟨some 22, .move (.tmp 24), none, false⟩,
    ⟨some 25, .extract (.tmp 22) 0, none, false⟩,
    ⟨some 26, .extract (.tmp 22) 1, none, false⟩,
    ⟨some 5, .assign (.tmp 25), none, false⟩,
    ⟨some 6, .assign (.tmp 26), none, false⟩])
  (.seq (.region [⟨some 27, .move (.tmp 3), none, false⟩,
    ⟨some 28, .binOp .eql 32 (.tmp 27) (.const (.int .i64 10)) 32, none, false⟩,
    ⟨some 29, .move (.tmp 28), none, false⟩,
    ⟨some 30, .move (.tmp 4), some (29, true), false⟩,
    ⟨some 31, .binOp .eql 32 (.tmp 30) (.const (.int .i64 0)) 32, some (29, true), false⟩,
    ⟨some 32, .pick (.tmp 29) (.tmp 31) (.const (.bool false)), none, false⟩,
    ⟨some 33, .move (.tmp 32), none, false⟩,
    ⟨some 34, .move (.tmp 6), some (33, true), false⟩,
    ⟨some 35, .binOp .eql 32 (.tmp 34) (.const (.int .i64 0)) 32, some (33, true), false⟩,
    ⟨some 36, .pick (.tmp 33) (.tmp 35) (.const (.bool false)), none, false⟩,
    ⟨some 37, .move (.tmp 36), none, false⟩,
    ⟨some 38, .move (.tmp 5), some (37, true), false⟩,
    ⟨some 39, .binOp .eql 9 (.tmp 38) (.const (.string ⟨#[4, 1, 97]⟩)) 9, some (37, true), false⟩,
    ⟨some 40, .pick (.tmp 37) (.tmp 39) (.const (.bool false)), none, false⟩,
    ⟨some 41, .move (.tmp 40), none, false⟩,
    ⟨some 42, .move (.tmp 1), some (41, true), false⟩,
    ⟨some 43, .call ⟨.value (.func 14), #[.tmp 42], #[30]⟩, some (41, true), false⟩,
    ⟨some 44, .binOp .eql 3 (.tmp 43) (.const (.int .i64 1)) 3, some (41, true), false⟩,
    ⟨some 45, .pick (.tmp 41) (.tmp 44) (.const (.bool false)), none, false⟩,
    ⟨some 0, .assign (.tmp 45), none, false⟩])
  .ret)))))))
def fn9 : PFn := ⟨46, [.tmp 0], pc9, false⟩
theorem fnOk9 : FnOk Try.prog 9 fn9 := ⟨⟨_, _, [], Try.func9, rfl, by kernel_rfl, rfl, rfl, of_decide_eq_true (by kernel_rfl)⟩⟩

def pc38L0 : PC :=
  (.seq (.seq (.region [⟨some 31, .move (.tmp 3), none, false⟩,
    ⟨some 32, .fieldAddr 27 (.tmp 1) 2, none, false⟩,
    ⟨some 33, .load 22 (.tmp 32), none, false⟩,
    ⟨some 34, .call ⟨.builtin .len, #[.tmp 33], #[22]⟩, none, false⟩,
    ⟨some 35, .binOp .lss 3 (.tmp 31) (.tmp 34) 3, none, false⟩])
  (.cond (.tmp 35)
    .skip
    (.exit 0)))
  (.seq (.block 1 (.seq (.region [⟨some 38, .fieldAddr 27 (.tmp 1) 2, none, false⟩,
    ⟨some 39, .load 22 (.tmp 38), none, false⟩,
    ⟨some 40, .move (.tmp 3), none, false⟩,
    ⟨some 41, .indexAddr 22 (.tmp 39) (.tmp 40), none, false⟩,
    ⟨some 42, .load 27 (.tmp 41), none, false⟩,
    ⟨some 43, .call ⟨.value (.func 38), #[.tmp 42], #[27]⟩, none, false⟩,
    ⟨some 44, .unOp .not 4 (.tmp 43), none, false⟩])
  (.cond (.tmp 44)
    (.seq (.region [⟨some 2, .assign (.const (.bool false)), none, false⟩])
    .ret)
    .skip)))
  (.region [⟨some 36, .move (.tmp 3), none, false⟩,
    ⟨some 37, .binOp .add 3 (.tmp 36) (.const (.int .i64 1)) 3, none, false⟩,
    ⟨some 3, .assign (.tmp 37), none, false⟩])))
/-- prefect/prefectref1.Right -/
def pc38 : PC :=
  (.seq (.region [⟨some 1, .box 27 (.tmp 0), none, false⟩,
    ⟨some 2, .assign (.const (.bool false)), none, false⟩])
  (.seq (.seq (.region [⟨some 4, .fieldAddr 27 (.tmp 1) 0, none, false⟩,
    ⟨some 5, .load 5 (.tmp 4), none, false⟩,
    ⟨some 6, .binOp .and 5 (.tmp 5) (.const (.int .u8 31)) 5, none, false⟩,
    ⟨some 7, .binOp .eql 5 (.tmp 6) (.const (.int .u8 31)) 5, none, false⟩,
    ⟨some 8, .move (.tmp 7), none, false⟩,
    ⟨some 9, .fieldAddr 27 (.tmp 1) 0, some (8, false), false⟩,
    ⟨some 10, .load 5 (.tmp 9), some (8, false), false⟩,
    ⟨some 11, .binOp .and 5 (.tmp 10) (.const (.int .u8 32)) 5, some (8, false), false⟩,
    ⟨some 12, .binOp .neq 5 (.tmp 11) (.const (.int .u8 0)) 5, some (8, false), false⟩,
    ⟨some 13, .move (.tmp 12), some (8, false), false⟩,
    ⟨some 14, .fieldAddr 27 (.tmp 1) 1, some (13, true), false⟩,
    ⟨some 15, .load 9 (.tmp 14), some (13, true), false⟩,
    ⟨some 16, .binOp .neq 9 (.tmp 15) (.const (.string ⟨#[]⟩)) 9, some (13, true), false⟩,
    ⟨some 17, .pick (.tmp 13) (.tmp 16) (.const (.bool false)), some (8, false), false⟩,
    ⟨some 18, .pick (.tmp 8) (.const (.bool true)) (.tmp 17), none, false⟩,
    ⟨some 19, .move (.tmp 18), none, false⟩,
    ⟨some 20, .fieldAddr 27 (.tmp 1) 0, some (19, false), false⟩,
    ⟨some 21, .load 5 (.tmp 20), some (19, false), false⟩,
    ⟨some 22, .binOp .and 5 (.tmp 21) (.const (.int .u8 32)) 5, some (19, false), false⟩,
    ⟨some 23, .binOp .eql 5 (.tmp 22) (.const (.int .u8 0)) 5, some (19, false), false⟩,
    ⟨some 24, .move (.tmp 23), some (19, false), false⟩,
    ⟨some 25, .fieldAddr 27 (.tmp 1) 2, some (24, true), false⟩,
    ⟨some 26, .load 22 (.tmp 25), some (24, true), false⟩,
    ⟨some 27, .call ⟨.builtin .len, #[.tmp 26], #[22]⟩, some (24, true), false⟩,
    ⟨some 28, .binOp .gtr 3 (.tmp 27) (.const (.int .i64 0)) 3, some (24, true), false⟩,
    ⟨some 29, .pick (.tmp 24) (.tmp 28) (.const (.bool false)), some (19, false), false⟩,
    ⟨some 30, .pick (.tmp 19) (.const (.bool true)) (.tmp 29), none, false⟩])
  (.cond (.tmp 30)
    (.seq (.region [⟨some 2, .assign (.const (.bool false)), none, false⟩])
    .ret)
    .skip))
  (.seq (.seq (.region [⟨some 3, .assign (.const (.int .i64 0)), none, false⟩])
  (.block 0 (.loop pc38L0)))
  (.seq (.region [⟨some 2, .assign (.const (.bool true)), none, false⟩])
  .ret))))
def fn38 : PFn := ⟨45, [.tmp 2], pc38, false⟩
theorem fnOk38 : FnOk Try.prog 38 fn38 := ⟨⟨_, _, [], Try.func38, rfl, by kernel_rfl, rfl, rfl, of_decide_eq_true (by kernel_rfl)⟩⟩

def pc39L0 : PC :=
  (.seq (.seq (.region [⟨some 5, .move (.tmp 4), none, false⟩,
    ⟨some 6, .fieldAddr 27 (.tmp 1) 2, none, false⟩,
    ⟨some 7, .load 22 (.tmp 6), none, false⟩,
    ⟨some 8, .call ⟨.builtin .len, #[.tmp 7], #[22]⟩, none, false⟩,
    ⟨some 9, .binOp .lss 3 (.tmp 5) (.tmp 8) 3, none, false⟩])
  (.cond (.tmp 9)
    .skip
    (.exit 0)))
  (.seq (.block 1 (.region [⟨some 12, .move (.tmp 3), none, false⟩,
    ⟨some 13, .fieldAddr 27 (.tmp 1) 2, none, false⟩,
    ⟨some 14, .load 22 (.tmp 13), none, false⟩,
    ⟨some 15, .move (.tmp 4), none, false⟩,
    ⟨some 16, .indexAddr 22 (.tmp 14) (.tmp 15), none, false⟩,
    ⟨some 17, .load 27 (.tmp 16), none, false⟩,
    ⟨some 18, .call ⟨.value (.func 39), #[.tmp 17], #[27]⟩, none, false⟩,
    ⟨some 19, .call ⟨.builtin .max, #[.tmp 12, .tmp 18], #[3, 3]⟩, none, false⟩,
    ⟨some 3, .assign (.tmp 19), none, false⟩]))
  (.region [⟨some 10, .move (.tmp 4), none, false⟩,
    ⟨some 11, .binOp .add 3 (.tmp 10) (.const (.int .i64 1)) 3, none, false⟩,
    ⟨some 4, .assign (.tmp 11), none, false⟩])))
/-- prefect/prefectref1.Deep -/
def pc39 : PC :=
  (.seq (.region [⟨some 1, .box 27 (.tmp 0), none, false⟩,
    ⟨some 2, .assign (.const (.int .i64 0)), none, false⟩])
  (.seq (.region [⟨some 3, .assign (.const (.int .i64 0)), none, false⟩])
  (.seq (.seq (.region [⟨some 4, .assign (.const (.int .i64 0)), none, false⟩])
  (.block 0 (.loop pc39L0)))
  (.seq (.region [⟨some 20, .move (.tmp 3), none, false⟩,
    ⟨some 21, .binOp .add 3 (.tmp 20) (.const (.int .i64 1)) 3, none, false⟩,
    ⟨some 2, .assign (.tmp 21), none, false⟩])
  .ret))))
def fn39 : PFn := ⟨22, [.tmp 2], pc39, false⟩
theorem fnOk39 : FnOk Try.prog 39 fn39 := ⟨⟨_, _, [], Try.func39, rfl, by kernel_rfl, rfl, rfl, of_decide_eq_true (by kernel_rfl)⟩⟩

def pc55L0 : PC :=
  (.seq (.seq (.region [⟨some 12, .move (.tmp 4), none, false⟩,
    ⟨some 13, .binOp .gtr 3 (.tmp 12) (.const (.int .i64 0)) 3, none, false⟩])
  (.cond (.tmp 13)
    .skip
    (.exit 0)))
  (.seq (.block 1 (.region [⟨some 16, .move (.tmp 4), none, false⟩,
    ⟨some 17, .convert 3 5 (.tmp 16), none, false⟩,
    ⟨some 18, .buildSlice 23 1 #[(0, .tmp 17)], none, false⟩,
    ⟨some 19, .convert 23 9 (.tmp 18), none, false⟩,
    ⟨some 20, .move (.tmp 3), none, false⟩,
    ⟨some 21, .binOp .add 9 (.tmp 19) (.tmp 20) 9, none, false⟩,
    ⟨some 3, .assign (.tmp 21), none, false⟩]))
  (.region [⟨some 14, .move (.tmp 4), none, false⟩,
    ⟨some 15, .binOp .quo 3 (.tmp 14) (.const (.int .i64 256)) 3, none, false⟩,
    ⟨some 4, .assign (.tmp 15), none, false⟩])))
/-- prefect/prefectref1.length -/
def pc55 : PC :=
  (.seq (.region [⟨some 2, .assign (.const (.string ⟨#[]⟩)), none, false⟩])
  (.seq (.seq (.region [⟨some 5, .move (.tmp 0), none, false⟩,
    ⟨some 6, .binOp .lss 3 (.tmp 5) (.const (.int .i64 128)) 3, none, false⟩])
  (.cond (.tmp 6)
    (.seq (.region [⟨some 7, .move (.tmp 0), none, false⟩,
      ⟨some 8, .convert 3 5 (.tmp 7), none, false⟩,
      ⟨some 9, .buildSlice 23 1 #[(0, .tmp 8)], none, false⟩,
      ⟨some 10, .convert 23 9 (.tmp 9), none, false⟩,
      ⟨some 2, .assign (.tmp 10), none, false⟩])
    .ret)
    .skip))
  (.seq (.region [⟨some 3, .assign (.const (.string ⟨#[]⟩)), none, false⟩])
  (.seq (.seq (.region [⟨some 11, .move (.tmp 0), none, false⟩,
    ⟨some 4, .assign (.tmp 11), none, false⟩])
  (.block 0 (.loop pc55L0)))
  (.seq (.region [⟨some 22, .move (.tmp 3), none, false⟩,
    ⟨some 23, .call ⟨.builtin .len, #[.tmp 22], #[9]⟩, none, false⟩,
    ⟨some 24, .binOp .add 3 (.const (.int .i64 128)) (.tmp 23) 3, none, false⟩,
    ⟨some 25, .convert 3 5 (.tmp 24), none, false⟩,
    ⟨some 26, .buildSlice 23 1 #[(0, .tmp 25)], none, false⟩,
    ⟨some 27, .convert 23 9 (.tmp 26), none, false⟩,
    ⟨some 28, .move (.tmp 3), none, false⟩,
    ⟨some 29, .binOp .add 9 (.tmp 27) (.tmp 28) 9, none, false⟩,
    ⟨some 2, .assign (.tmp 29), none, false⟩])
  .ret)))))
def fn55 : PFn := ⟨30, [.tmp 2], pc55, false⟩
theorem fnOk55 : FnOk Try.prog 55 fn55 := ⟨⟨_, _, [], Try.func55, rfl, by kernel_rfl, rfl, rfl, of_decide_eq_true (by kernel_rfl)⟩⟩

def pc40L0 : PC :=
  (.seq (.seq (.region [⟨some 10, .move (.tmp 5), none, false⟩,
    ⟨some 11, .fieldAddr 27 (.tmp 1) 2, none, false⟩,
    ⟨some 12, .load 22 (.tmp 11), none, false⟩,
    ⟨some 13, .call ⟨.builtin .len, #[.tmp 12], #[22]⟩, none, false⟩,
    ⟨some 14, .binOp .lss 3 (.tmp 10) (.tmp 13) 3, none, false⟩])
  (.cond (.tmp 14)
    .skip
    (.exit 0)))
  (.seq (.block 1 (.seq (.region [⟨some 18, .fieldAddr 27 (.tmp 1) 2, none, false⟩,
    ⟨some 19, .load 22 (.tmp 18), none, false⟩,
    ⟨some 20, .move (.tmp 5), none, false⟩,
    ⟨some 21, .indexAddr 22 (.tmp 19) (.tmp 20), none, false⟩,
    ⟨some 22, .load 27 (.tmp 21), none, false⟩,
    ⟨some 23, .call ⟨.value (.func 40), #[.tmp 22], #[27]⟩, none, false⟩,
    ⟨some 17, .move (.tmp 23), none, false⟩,
    ⟨some 24, .extract (.tmp 17) 0, none, false⟩,
    ⟨some 25, .extract (.tmp 17) 1, none, false⟩,
    ⟨some 6, .assign (.tmp 24), none, false⟩,
    ⟨some 7, .assign (.tmp 25), none, false⟩])
  (.seq (.seq (.region [⟨some 26, .move (.tmp 7), none, false⟩,
    ⟨some 27, .unOp .not 4 (.tmp 26), none, false⟩])
  (.cond (.tmp 27)
    (.seq (.region [⟨some 2, .assign (.const (.string ⟨#[]⟩)), none, false⟩,
      ⟨some 3, .assign (.const (.bool false)), none, false⟩])
    .ret)
    .skip))
  (.region [⟨some 28, .move (.tmp 4), none, false⟩,
    ⟨some 29, .move (.tmp 6), none, false⟩,
    ⟨some 30, .binOp .add 9 (.tmp 28) (.tmp 29) 9, none, false⟩,
    ⟨some 4, .assign (.tmp 30), none, false⟩]))))
  (.region [⟨some 15, .move (.tmp 5), none, false⟩,
    ⟨some 16, .binOp .add 3 (.tmp 15) (.const (.int .i64 1)) 3, none, false⟩,
    ⟨some 5, .assign (.tmp 16), none, false⟩])))
/-- prefect/prefectref1.Bytes -/
def pc40 : PC :=
  (.seq (.region [⟨some 1, .box 27 (.tmp 0), none, false⟩,
    ⟨some 2, .assign (.const (.string ⟨#[]⟩)), none, false⟩,
    ⟨some 3, .assign (.const (.bool false)), none, false⟩])
  (.seq (.region [⟨some 8, .fieldAddr 27 (.tmp 1) 1, none, false⟩,
    ⟨some 9, .load 9 (.tmp 8), none, false⟩,
    ⟨some 4, .assign (.tmp 9), none, false⟩])
  (.seq (.seq (.region [⟨some 5, .assign (.const (.int .i64 0)), none, false⟩])
  (.block 0 (.loop pc40L0)))
  (.seq (.seq (.region [⟨some 31, .move (.tmp 4), none, false⟩,
    ⟨some 32, .call ⟨.builtin .len, #[.tmp 31], #[9]⟩, none, false⟩,
    ⟨some 33, .binOp .gtr 3 (.tmp 32) (.const (.int .i64 4000)) 3, none, false⟩])
  (.cond (.tmp 33)
    (.seq (.region [⟨some 2, .assign (.const (.string ⟨#[]⟩)), none, false⟩,
      ⟨some 3, .assign (.const (.bool false)), none, false⟩])
    .ret)
    .skip))
  (.seq (.draw [⟨some 34, .fieldAddr 27 (.tmp 1) 0, none, false⟩,
    ⟨some 35, .load 5 (.tmp 34), none, false⟩,
    ⟨some 36, .buildSlice 23 1 #[(0, .tmp 35)], none, false⟩,
    ⟨some 37, .convert 23 9 (.tmp 36), none, false⟩,
    ⟨some 38, .move (.tmp 4), none, false⟩,
    ⟨some 39, .call ⟨.builtin .len, #[.tmp 38], #[9]⟩, none, false⟩,
    ⟨some 40, .call ⟨.value (.func 55), #[.tmp 39], #[3]⟩, none, false⟩,
    ⟨some 41, .binOp .add 9 (.tmp 37) (.tmp 40) 9, none, false⟩,
    ⟨some 42, .move (.tmp 4), none, false⟩]
    [⟨some 43, .binOp .add 9 (.tmp 41) (.tmp 42) 9, none, false⟩,
    ⟨some 2, .assign (.tmp 43), none, false⟩,
    ⟨some 3, .assign (.const (.bool true)), none, false⟩])
  .ret)))))
def fn40 : PFn := ⟨44, [.tmp 2, .tmp 3], pc40, false⟩
theorem fnOk40 : FnOk Try.prog 40 fn40 := ⟨⟨_, _, [], Try.func40, rfl, by kernel_rfl, rfl, rfl, of_decide_eq_true (by kernel_rfl)⟩⟩

/-- prefect/prefectref1.Write -/
def pc10 : PC :=
  (.seq (.region [⟨some 1, .box 27 (.tmp 0), none, false⟩,
    ⟨some 2, .assign (.const (.string ⟨#[]⟩)), none, false⟩,
    ⟨some 3, .assign (.const (.int .i64 0)), none, false⟩])
  (.seq (.seq (.region [⟨some 6, .load 27 (.tmp 1), none, false⟩,
    ⟨some 7, .call ⟨.value (.func 38), #[.tmp 6], #[27]⟩, none, false⟩,
    ⟨some 8, .unOp .not 4 (.tmp 7), none, false⟩])
  (.cond (.tmp 8)
    (.seq (.region [⟨some 2, .assign (.const (.string ⟨#[]⟩)), none, false⟩,
      ⟨some 3, .assign (.const (.int .i64 14)), none, false⟩])
    .ret)
    .skip))
  (.seq (.seq (.region [⟨some 9, .load 27 (.tmp 1), none, false⟩,
    ⟨some 10, .call ⟨.value (.func 39), #[.tmp 9], #[27]⟩, none, false⟩,
    ⟨some 11, .binOp .gtr 3 (.tmp 10) (.const (.int .i64 20)) 3, none, false⟩])
  (.cond (.tmp 11)
    (.seq (.region [⟨some 2, .assign (.const (.string ⟨#[]⟩)), none, false⟩,
      ⟨some 3, .assign (.const (.int .i64 12)), none, false⟩])
    .ret)
    .skip))
  (.seq (.region [⟨some 13, .load 27 (.tmp 1), none, false⟩,
    ⟨some 14, .call ⟨.value (.func 40), #[.tmp 13], #[27]⟩, none, false⟩,
    ⟨some 12, .move (.tmp 14), none, false⟩,
    ⟨some 15, .extract (.tmp 12) 0, none, false⟩,
    ⟨some 16, .extract (.tmp 12) 1, none, false⟩,
    ⟨some 4, .assign (.tmp 15), none, false⟩,
    ⟨some 5, .assign (.tmp 16), none, false⟩])
  (.seq (.seq (.region [⟨some 17, .move (.tmp 5), none, false⟩,
    ⟨some 18, .unOp .not 4 (.tmp 17), none, false⟩])
  (.cond (.tmp 18)
    (.seq (.region [⟨some 2, .assign (.const (.string ⟨#[]⟩)), none, false⟩,
      ⟨some 3, .assign (.const (.int .i64 13)), none, false⟩])
    .ret)
    .skip))
  (.seq (.region [⟨some 19, .move (.tmp 4), none, false⟩,
    ⟨some 2, .assign (.tmp 19), none, false⟩,
    ⟨some 3, .assign (.const (.int .i64 0)), none, false⟩])
  .ret))))))
def fn10 : PFn := ⟨20, [.tmp 2, .tmp 3], pc10, false⟩
theorem fnOk10 : FnOk Try.prog 10 fn10 := ⟨⟨_, _, [], Try.func10, rfl, by kernel_rfl, rfl, rfl, of_decide_eq_true (by kernel_rfl)⟩⟩

def pc3L0 : PC :=
  (.seq (.seq (.region [⟨some 23, .move (.tmp 7), none, false⟩,
    ⟨some 24, .move (.tmp 0), none, false⟩,
    ⟨some 25, .call ⟨.builtin .len, #[.tmp 24], #[22]⟩, none, false⟩,
    ⟨some 26, .binOp .lss 3 (.tmp 23) (.tmp 25) 3, none, false⟩])
  (.cond (.tmp 26)
    .skip
    (.exit 0)))
  (.seq (.block 1 (.seq (.region [⟨some 29, .move (.tmp 0), none, false⟩,
    ⟨some 30, .move (.tmp 7), none, false⟩,
    ⟨some 31, .indexAddr 22 (.tmp 29) (.tmp 30), none, false⟩,
    ⟨some 32, .load 27 (.tmp 31), none, false⟩,
    ⟨some 8, .alloc 27, none, false⟩,
    ⟨none, .store 27 (.tmp 8) (.tmp 32), none, false⟩])
  (.seq (.region [⟨some 33, .fieldAddr 27 (.tmp 8) 2, none, false⟩,
    ⟨none, .store 22 (.tmp 33) (.const (.slice none 0 0)), none, false⟩])
  (.seq (.region [⟨some 34, .fieldAddr 27 (.tmp 8) 0, none, false⟩,
    ⟨some 35, .load 5 (.tmp 34), none, false⟩,
    ⟨some 36, .binOp .andNot 5 (.tmp 35) (.const (.int .u8 33)) 5, none, false⟩,
    ⟨some 37, .fieldAddr 27 (.tmp 8) 0, none, false⟩,
    ⟨none, .store 5 (.tmp 37) (.tmp 36), none, false⟩])
  (.seq (.seq (.region [⟨some 38, .fieldAddr 27 (.tmp 8) 1, none, false⟩,
    ⟨some 39, .load 9 (.tmp 38), none, false⟩,
    ⟨some 40, .call ⟨.builtin .len, #[.tmp 39], #[9]⟩, none, false⟩,
    ⟨some 41, .binOp .gtr 3 (.tmp 40) (.const (.int .i64 300)) 3, none, false⟩])
  (.cond (.tmp 41)
    (.seq (.region [⟨some 4, .assign (.const (.bool true)), none, false⟩])
    .ret)
    .skip))
  (.seq (.region [⟨some 43, .load 27 (.tmp 8), none, false⟩,
    ⟨some 44, .call ⟨.value (.func 10), #[.tmp 43], #[27]⟩, none, false⟩,
    ⟨some 42, .move (.tmp 44), none, false⟩,
    ⟨some 45, .extract (.tmp 42) 0, none, false⟩,
    ⟨some 46, .extract (.tmp 42) 1, none, false⟩,
    ⟨some 9, .assign (.tmp 45), none, false⟩,
    ⟨some 10, .assign (.tmp 46), none, false⟩])
  (.seq (.seq (.region [⟨some 47, .move (.tmp 10), none, false⟩,
    ⟨some 48, .binOp .neq 3 (.tmp 47) (.const (.int .i64 0)) 3, none, false⟩])
  (.cond (.tmp 48)
    (.seq (.region [⟨some 4, .assign (.const (.bool true)), none, false⟩])
    .ret)
    .skip))
  (.seq (.region [⟨some 49, .move (.tmp 5), none, false⟩,
    ⟨some 50, .move (.tmp 9), none, false⟩,
    ⟨some 51, .buildSlice 25 1 #[(0, .tmp 50)], none, false⟩,
    ⟨some 52, .call ⟨.builtin .append, #[.tmp 49, .tmp 51], #[25, 25]⟩, none, false⟩,
    ⟨some 5, .assign (.tmp 52), none, false⟩])
  (.region [⟨some 53, .move (.tmp 6), none, false⟩,
    ⟨some 54, .move (.tmp 9), none, false⟩,
    ⟨some 55, .binOp .add 9 (.tmp 53) (.tmp 54) 9, none, false⟩,
    ⟨some 6, .assign (.tmp 55), none, false⟩])))))))))
  (.region [⟨some 27, .move (.tmp 7), none, false⟩,
    ⟨some 28, .binOp .add 3 (.tmp 27) (.const (.int .i64 1)) 3, none, false⟩,
    ⟨some 7, .assign (.tmp 28), none, false⟩])))
def pc3L4 : PC :=
  (.block 5 (.seq (.region [⟨some 93, .move (.tmp 11), none, false⟩,
    ⟨some 94, .call ⟨.value (.func 13), #[.tmp 93], #[30]⟩, none, false⟩,
    ⟨some 92, .move (.tmp 94), none, false⟩,
    ⟨some 95, .extract (.tmp 92) 0, none, false⟩,
    ⟨some 96, .extract (.tmp 92) 1, none, false⟩,
    ⟨some 16, .assign (.tmp 95), none, false⟩,
    ⟨some 17, .assign (.tmp 96), none, false⟩])
  (.seq (.seq (.region [⟨some 97, .move (.tmp 17), none, false⟩,
    ⟨some 98, .binOp .eql 32 (.tmp 97) (.const (.int .i64 10)) 32, none, false⟩])
  (.cond (.tmp 98)
    (.exit 4)
    .skip))
  (.seq (.seq (.region [⟨some 99, .move (.tmp 17), none, false⟩,
    ⟨some 100, .binOp .neq 32 (.tmp 99) (.const (.int .i64 0)) 32, none, false⟩,
    ⟨some 101, .move (.tmp 100), none, false⟩,
    ⟨some 102, .move (.tmp 12), some (101, false), false⟩,
    ⟨some 103, .move (.tmp 5), some (101, false), false⟩,
    ⟨some 104, .call ⟨.builtin .len, #[.tmp 103], #[25]⟩, some (101, false), false⟩,
    ⟨some 105, .binOp .geq 3 (.tmp 102) (.tmp 104) 3, some (101, false), false⟩,
    ⟨some 106, .pick (.tmp 101) (.const (.bool true)) (.tmp 105), none, false⟩,
    ⟨some 107, .move (.tmp 106), none, false⟩,
    ⟨some 108, .move (.tmp 16), some (107, false), false⟩,
    ⟨some 109, .move (.tmp 5), some (107, false), false⟩,
    ⟨some 110, .move (.tmp 12), some (107, false), false⟩,
    ⟨some 111, .indexAddr 25 (.tmp 109) (.tmp 110), some (107, false), false⟩,
    ⟨some 112, .load 9 (.tmp 111), some (107, false), false⟩,
    ⟨some 113, .binOp .neq 9 (.tmp 108) (.tmp 112) 9, some (107, false), false⟩,
    ⟨some 114, .pick (.tmp 107) (.const (.bool true)) (.tmp 113), none, false⟩])
  (.cond (.tmp 114)
    (.seq (.region [⟨some 4, .assign (.const (.bool false)), none, false⟩])
    .ret)
    .skip))
  (.region [⟨some 115, .move (.tmp 12), none, false⟩,
    ⟨some 116, .binOp .add 3 (.tmp 115) (.const (.int .i64 1)) 3, none, false⟩,
    ⟨some 12, .assign (.tmp 116), none, false⟩])))))
def pc3L2 : PC :=
  (.seq (.seq (.region [⟨some 57, .move (.tmp 13), none, false⟩,
    ⟨some 58, .move (.tmp 6), none, false⟩,
    ⟨some 59, .call ⟨.builtin .len, #[.tmp 58], #[9]⟩, none, false⟩,
    ⟨some 60, .binOp .lss 3 (.tmp 57) (.tmp 59) 3, none, false⟩])
  (.cond (.tmp 60)
    .skip
    (.exit 2)))
  (.seq (.block 3 (.seq (.region [⟨some 63, .move (.tmp 6), none, false⟩,
    ⟨some 64, .call ⟨.builtin .len, #[.tmp 63], #[9]⟩, none, false⟩,
    ⟨some 65, .move (.tmp 13), none, false⟩,
    ⟨some 66, .binOp .sub 3 (.tmp 64) (.tmp 65) 3, none, false⟩,
    ⟨some 15, .assign (.tmp 66), none, false⟩])
  (.seq (.seq (.region [⟨some 67, .move (.tmp 14), none, false⟩,
    ⟨some 68, .move (.tmp 1), none, false⟩,
    ⟨some 69, .call ⟨.builtin .len, #[.tmp 68], #[23]⟩, none, false⟩,
    ⟨some 70, .binOp .lss 3 (.tmp 67) (.tmp 69) 3, none, false⟩])
  (.cond (.tmp 70)
    (.region [⟨some 71, .move (.tmp 15), none, false⟩,
      ⟨some 72, .move (.tmp 1), none, false⟩,
      ⟨some 73, .move (.tmp 14), none, false⟩,
      ⟨some 74, .indexAddr 23 (.tmp 72) (.tmp 73), none, false⟩,
      ⟨some 75, .load 5 (.tmp 74), none, false⟩,
      ⟨some 76, .binOp .rem 5 (.tmp 75) (.const (.int .u8 40)) 5, none, false⟩,
      ⟨some 77, .convert 5 3 (.tmp 76), none, false⟩,
      ⟨some 78, .binOp .add 3 (.tmp 77) (.const (.int .i64 1)) 3, none, false⟩,
      ⟨some 79, .call ⟨.builtin .min, #[.tmp 71, .tmp 78], #[3, 3]⟩, none, false⟩,
      ⟨some 15, .assign (.tmp 79), none, false⟩])
    .skip))
  (.seq (.seq (.region [⟨some 80, .move (.tmp 11), none, false⟩,
    ⟨some 81, .move (.tmp 6), none, false⟩,
    ⟨some 82, .move (.tmp 13), none, false⟩,
    ⟨some 83, .move (.tmp 13), none, false⟩,
    ⟨some 84, .move (.tmp 15), none, false⟩,
    ⟨some 85, .binOp .add 3 (.tmp 83) (.tmp 84) 3, none, false⟩,
    ⟨some 86, .slice 9 (.tmp 81) (some (.tmp 82)) (some (.tmp 85)) none, none, false⟩,
    ⟨some 87, .call ⟨.value (.func 12), #[.tmp 80, .tmp 86], #[30, 9]⟩, none, false⟩,
    ⟨some 88, .binOp .neq 32 (.tmp 87) (.const (.int .i64 0)) 32, none, false⟩])
  (.cond (.tmp 88)
    (.seq (.region [⟨some 4, .assign (.const (.bool false)), none, false⟩])
    .ret)
    .skip))
  (.seq (.region [⟨some 89, .move (.tmp 13), none, false⟩,
    ⟨some 90, .move (.tmp 15), none, false⟩,
    ⟨some 91, .binOp .add 3 (.tmp 89) (.tmp 90) 3, none, false⟩,
    ⟨some 13, .assign (.tmp 91), none, false⟩])
  (.block 4 (.loop pc3L4)))))))
  (.region [⟨some 61, .move (.tmp 14), none, false⟩,
    ⟨some 62, .binOp .add 3 (.tmp 61) (.const (.int .i64 1)) 3, none, false⟩,
    ⟨some 14, .assign (.tmp 62), none, false⟩])))
/-- prefect/prefectlaw3.FrameCuts -/
def pc3 : PC :=
  (.seq (.region [⟨some 4, .assign (.const (.bool false)), none, false⟩])
  (.seq (.seq (.region [⟨some 18, .call ⟨.value (.func 9), #[], #[]⟩, none, false⟩,
    ⟨some 19, .unOp .not 4 (.tmp 18), none, false⟩])
  (.cond (.tmp 19)
    (.seq (.region [⟨some 4, .assign (.const (.bool false)), none, false⟩])
    .ret)
    .skip))
  (.seq (.seq (.region [⟨some 20, .move (.tmp 0), none, false⟩,
    ⟨some 21, .call ⟨.builtin .len, #[.tmp 20], #[22]⟩, none, false⟩,
    ⟨some 22, .binOp .gtr 3 (.tmp 21) (.const (.int .i64 8)) 3, none, false⟩])
  (.cond (.tmp 22)
    (.seq (.region [⟨some 4, .assign (.const (.bool true)), none, false⟩])
    .ret)
    .skip))
  (.seq (.region [⟨some 5, .assign (.const (.slice none 0 0)), none, false⟩])
  (.seq (.region [⟨some 6, .assign (.const (.string ⟨#[]⟩)), none, false⟩])
  (.seq (.seq (.region [⟨some 7, .assign (.const (.int .i64 0)), none, false⟩])
  (.block 0 (.loop pc3L0)))
  (.seq (.region [⟨some 56, .call ⟨.value (.func 11), #[], #[]⟩, none, false⟩,
    ⟨some 11, .assign (.tmp 56), none, false⟩])
  (.seq (.region [⟨some 12, .assign (.const (.int .i64 0)), none, false⟩])
  (.seq (.seq (.region [⟨some 13, .assign (.const (.int .i64 0)), none, false⟩,
    ⟨some 14, .assign (.const (.int .i64 0)), none, false⟩])
  (.block 2 (.loop pc3L2)))
  (.seq (.region [⟨some 117, .move (.tmp 12), none, false⟩,
    ⟨some 118, .move (.tmp 5), none, false⟩,
    ⟨some 119, .call ⟨.builtin .len, #[.tmp 118], #[25]⟩, none, false⟩,
    ⟨some 120, .binOp .eql 3 (.tmp 117) (.tmp 119) 3, none, false⟩,
    ⟨some 121, .move (.tmp 120), none, false⟩,
    ⟨some 122, .move (.tmp 11), some (121, true), false⟩,
    ⟨some 123, .call ⟨.value (.func 14), #[.tmp 122], #[30]⟩, some (121, true), false⟩,
    ⟨some 124, .binOp .eql 3 (.tmp 123) (.const (.int .i64 0)) 3, some (121, true), false⟩,
    ⟨some 125, .pick (.tmp 121) (.tmp 124) (.const (.bool false)), none, false⟩,
    ⟨some 4, .assign (.tmp 125), none, false⟩])
  .ret))))))))))
def fn3 : PFn := ⟨126, [.tmp 4], pc3, false⟩
theorem fnOk3 : FnOk Try.prog 3 fn3 := ⟨⟨_, _, [], Try.func3, rfl, by kernel_rfl, rfl, rfl, of_decide_eq_true (by kernel_rfl)⟩⟩

/-- prefect/prefectlaw3.FrameRoom -/
def pc4 : PC :=
  (.seq (.region [⟨some 4, .assign (.const (.bool false)), none, false⟩])
  (.seq (.seq (.region [⟨some 15, .call ⟨.value (.func 9), #[], #[]⟩, none, false⟩,
    ⟨some 16, .unOp .not 4 (.tmp 15), none, false⟩])
  (.cond (.tmp 16)
    (.seq (.region [⟨some 4, .assign (.const (.bool false)), none, false⟩])
    .ret)
    .skip))
  (.seq (.region [⟨some 17, .call ⟨.value (.func 11), #[], #[]⟩, none, false⟩,
    ⟨some 5, .assign (.tmp 17), none, false⟩])
  (.seq (.region [⟨some 18, .move (.tmp 1), none, false⟩,
    ⟨some 19, .convert 38 3 (.tmp 18), none, false⟩,
    ⟨some 20, .binOp .rem 3 (.tmp 19) (.const (.int .i64 200)) 3, none, false⟩,
    ⟨some 21, .binOp .add 3 (.tmp 20) (.const (.int .i64 10)) 3, none, false⟩,
    ⟨some 6, .assign (.tmp 21), none, false⟩])
  (.seq (.draw [⟨some 22, .move (.tmp 6), none, false⟩,
    ⟨some 23, .binOp .shr 3 (.tmp 22) (.const (.int .u64 8)) 39, none, false⟩,
    ⟨some 24, .convert 3 5 (.tmp 23), none, false⟩,
    ⟨some 25, .move (.tmp 6), none, false⟩,
    ⟨some 26, .convert 3 5 (.tmp 25), none, false⟩,
    ⟨some 27, .buildSlice 23 2 #[(0, .tmp 24), (1, .tmp 26)], none, false⟩,
    ⟨some 28, .convert 23 9 (.tmp 27), none, false⟩,
    ⟨some 29, .binOp .add 9 (.const (.string ⟨#[4, 130]⟩)) (.tmp 28) 9, none, false⟩,
    ⟨some 30, .move (.tmp 6), none, false⟩,
    ⟨some 31, .makeSlice 23 (.tmp 30) (.tmp 30), none, false⟩,
    ⟨some 32, .convert 23 9 (.tmp 31), none, false⟩]
    [⟨some 33, .binOp .add 9 (.tmp 29) (.tmp 32) 9, none, false⟩,
    ⟨some 7, .assign (.tmp 33), none, false⟩])
  (.seq (.seq (.region [⟨some 34, .move (.tmp 5), none, false⟩,
    ⟨some 35, .move (.tmp 7), none, false⟩,
    ⟨some 36, .call ⟨.value (.func 12), #[.tmp 34, .tmp 35], #[30, 9]⟩, none, false⟩,
    ⟨some 37, .binOp .neq 32 (.tmp 36) (.const (.int .i64 0)) 32, none, false⟩])
  (.cond (.tmp 37)
    (.seq (.region [⟨some 4, .assign (.const (.bool false)), none, false⟩])
    .ret)
    .skip))
  (.seq (.region [⟨some 38, .move (.tmp 7), none, false⟩,
    ⟨some 39, .call ⟨.builtin .len, #[.tmp 38], #[9]⟩, none, false⟩,
    ⟨some 40, .binOp .sub 3 (.const (.int .i64 16000)) (.tmp 39) 3, none, false⟩,
    ⟨some 8, .assign (.tmp 40), none, false⟩])
  (.seq (.region [⟨some 41, .move (.tmp 0), none, false⟩,
    ⟨some 42, .binOp .rem 5 (.tmp 41) (.const (.int .u8 3)) 5, none, false⟩,
    ⟨some 43, .convert 5 3 (.tmp 42), none, false⟩,
    ⟨some 9, .assign (.tmp 43), none, false⟩])
  (.seq (.region [⟨some 44, .move (.tmp 5), none, false⟩,
    ⟨some 45, .move (.tmp 8), none, false⟩,
    ⟨some 46, .binOp .sub 3 (.tmp 45) (.const (.int .i64 1)) 3, none, false⟩,
    ⟨some 47, .move (.tmp 9), none, false⟩,
    ⟨some 48, .binOp .add 3 (.tmp 46) (.tmp 47) 3, none, false⟩,
    ⟨some 49, .makeSlice 23 (.tmp 48) (.tmp 48), none, false⟩,
    ⟨some 50, .convert 23 9 (.tmp 49), none, false⟩,
    ⟨some 51, .call ⟨.value (.func 12), #[.tmp 44, .tmp 50], #[30, 9]⟩, none, false⟩,
    ⟨some 10, .assign (.tmp 51), none, false⟩])
  (.seq (.region [⟨some 11, .assign (.const (.int .i64 0)), none, false⟩])
  (.seq (.seq (.region [⟨some 52, .move (.tmp 9), none, false⟩,
    ⟨some 53, .binOp .eql 3 (.tmp 52) (.const (.int .i64 2)) 3, none, false⟩])
  (.cond (.tmp 53)
    (.region [⟨some 11, .assign (.const (.int .i64 13)), none, false⟩])
    .skip))
  (.seq (.region [⟨some 55, .move (.tmp 5), none, false⟩,
    ⟨some 56, .call ⟨.value (.func 13), #[.tmp 55], #[30]⟩, none, false⟩,
    ⟨some 54, .move (.tmp 56), none, false⟩,
    ⟨some 57, .extract (.tmp 54) 0, none, false⟩,
    ⟨some 58, .extract (.tmp 54) 1, none, false⟩,
    ⟨some 12, .assign (.tmp 57), none, false⟩,
    ⟨some 13, .assign (.tmp 58), none, false⟩])
  (.seq (.region [⟨some 59, .move (.tmp 5), none, false⟩,
    ⟨some 60, .move (.tmp 7), none, false⟩,
    ⟨some 61, .call ⟨.value (.func 12), #[.tmp 59, .tmp 60], #[30, 9]⟩, none, false⟩,
    ⟨some 14, .assign (.tmp 61), none, false⟩])
  (.seq (.region [⟨some 62, .move (.tmp 10), none, false⟩,
    ⟨some 63, .move (.tmp 11), none, false⟩,
    ⟨some 64, .binOp .eql 32 (.tmp 62) (.tmp 63) 32, none, false⟩,
    ⟨some 65, .move (.tmp 64), none, false⟩,
    ⟨some 66, .move (.tmp 13), some (65, true), false⟩,
    ⟨some 67, .binOp .eql 32 (.tmp 66) (.const (.int .i64 0)) 32, some (65, true), false⟩,
    ⟨some 68, .pick (.tmp 65) (.tmp 67) (.const (.bool false)), none, false⟩,
    ⟨some 69, .move (.tmp 68), none, false⟩,
    ⟨some 70, .move (.tmp 12), some (69, true), false⟩,
    ⟨some 71, .move (.tmp 7), some (69, true), false⟩,
    ⟨some 72, .binOp .eql 9 (.tmp 70) (.tmp 71) 9, some (69, true), false⟩,
    ⟨some 73, .pick (.tmp 69) (.tmp 72) (.const (.bool false)), none, false⟩,
    ⟨some 74, .move (.tmp 73), none, false⟩,
    ⟨some 75, .move (.tmp 14), some (74, true), false⟩,
    ⟨some 76, .binOp .eql 32 (.tmp 75) (.const (.int .i64 0)) 32, some (74, true), false⟩,
    ⟨some 77, .move (.tmp 9), some (74, true), false⟩,
    ⟨some 78, .binOp .eql 3 (.tmp 77) (.const (.int .i64 2)) 3, some (74, true), false⟩,
    ⟨some 79, .move (.tmp 78), some (74, true), false⟩,
    ⟨some 80, .move (.tmp 7), some (79, false), false⟩,
    ⟨some 81, .call ⟨.builtin .len, #[.tmp 80], #[9]⟩, some (79, false), false⟩,
    ⟨some 82, .move (.tmp 8), some (79, false), false⟩,
    ⟨some 83, .binOp .sub 3 (.tmp 82) (.const (.int .i64 1)) 3, some (79, false), false⟩,
    ⟨some 84, .move (.tmp 9), some (79, false), false⟩,
    ⟨some 85, .binOp .add 3 (.tmp 83) (.tmp 84) 3, some (79, false), false⟩,
    ⟨some 86, .binOp .sub 3 (.const (.int .i64 16000)) (.tmp 85) 3, some (79, false), false⟩,
    ⟨some 87, .binOp .leq 3 (.tmp 81) (.tmp 86) 3, some (79, false), false⟩,
    ⟨some 88, .pick (.tmp 79) (.const (.bool true)) (.tmp 87), some (74, true), false⟩,
    ⟨some 89, .binOp .eql 4 (.tmp 76) (.tmp 88) 4, some (74, true), false⟩,
    ⟨some 90, .pick (.tmp 74) (.tmp 89) (.const (.bool false)), none, false⟩,
    ⟨some 4, .assign (.tmp 90), none, false⟩])
  .ret))))))))))))))
def fn4 : PFn := ⟨91, [.tmp 4], pc4, false⟩
theorem fnOk4 : FnOk Try.prog 4 fn4 := ⟨⟨_, _, [], Try.func4, rfl, by kernel_rfl, rfl, rfl, of_decide_eq_true (by kernel_rfl)⟩⟩

/-- (*prefect/frame.Cutter).Copy -/
def pc15 : PC :=
  (.seq (.region [⟨some 2, .assign (.const (.pointer none)), none, false⟩])
  (.seq (.region [⟨some 3, .move (.tmp 0), none, false⟩,
    ⟨some 4, .nilCheck (.tmp 3), none, false⟩,
    ⟨some 5, .fieldAddr 68 (.tmp 4) 0, none, false⟩,
    ⟨some 6, .load 9 (.tmp 5), none, false⟩,
    ⟨some 7, .build 68 #[(0, .tmp 6)], none, false⟩,
    ⟨some 8, .box 68 (.tmp 7), none, false⟩,
    ⟨some 2, .assign (.tmp 8), none, false⟩])
  .ret))
def fn15 : PFn := ⟨9, [.tmp 2], pc15, false⟩
theorem fnOk15 : FnOk Try.prog 15 fn15 := ⟨⟨_, _, [], Try.func15, rfl, by kernel_rfl, rfl, rfl, of_decide_eq_true (by kernel_rfl)⟩⟩

/-- (*prefect/prefectref1.Cutter).Feed -/
def pc16 : PC :=
  (.seq (.region [⟨some 4, .assign (.const (.int .i64 0)), none, false⟩])
  (.seq (.seq (.region [⟨some 5, .move (.tmp 0), none, false⟩,
    ⟨some 6, .nilCheck (.tmp 5), none, false⟩,
    ⟨some 7, .fieldAddr 43 (.tmp 6) 0, none, false⟩,
    ⟨some 8, .load 9 (.tmp 7), none, false⟩,
    ⟨some 9, .call ⟨.builtin .len, #[.tmp 8], #[9]⟩, none, false⟩,
    ⟨some 10, .move (.tmp 1), none, false⟩,
    ⟨some 11, .call ⟨.builtin .len, #[.tmp 10], #[9]⟩, none, false⟩,
    ⟨some 12, .binOp .add 3 (.tmp 9) (.tmp 11) 3, none, false⟩,
    ⟨some 13, .binOp .gtr 3 (.tmp 12) (.const (.int .i64 16000)) 3, none, false⟩])
  (.cond (.tmp 13)
    (.seq (.region [⟨some 4, .assign (.const (.int .i64 13)), none, false⟩])
    .ret)
    .skip))
  (.seq (.region [⟨some 14, .move (.tmp 0), none, false⟩,
    ⟨some 15, .move (.tmp 0), none, false⟩,
    ⟨some 16, .nilCheck (.tmp 15), none, false⟩,
    ⟨some 17, .fieldAddr 43 (.tmp 16) 0, none, false⟩,
    ⟨some 18, .load 9 (.tmp 17), none, false⟩,
    ⟨some 19, .move (.tmp 1), none, false⟩,
    ⟨some 20, .binOp .add 9 (.tmp 18) (.tmp 19) 9, none, false⟩,
    ⟨some 21, .nilCheck (.tmp 14), none, false⟩,
    ⟨some 22, .fieldAddr 43 (.tmp 21) 0, none, false⟩,
    ⟨none, .store 9 (.tmp 22) (.tmp 20), none, false⟩])
  (.seq (.region [⟨some 4, .assign (.const (.int .i64 0)), none, false⟩])
  .ret))))
def fn16 : PFn := ⟨23, [.tmp 4], pc16, false⟩
theorem fnOk16 : FnOk Try.prog 16 fn16 := ⟨⟨_, _, [], Try.func16, rfl, by kernel_rfl, rfl, rfl, of_decide_eq_true (by kernel_rfl)⟩⟩

def pc43L0 : PC :=
  (.seq (.seq (.region [⟨some 39, .move (.tmp 7), none, false⟩,
    ⟨some 40, .move (.tmp 5), none, false⟩,
    ⟨some 41, .binOp .lss 3 (.tmp 39) (.tmp 40) 3, none, false⟩])
  (.cond (.tmp 41)
    .skip
    (.exit 0)))
  (.seq (.block 1 (.region [⟨some 44, .move (.tmp 6), none, false⟩,
    ⟨some 45, .binOp .mul 3 (.const (.int .i64 256)) (.tmp 44) 3, none, false⟩,
    ⟨some 46, .move (.tmp 0), none, false⟩,
    ⟨some 47, .move (.tmp 7), none, false⟩,
    ⟨some 48, .binOp .add 3 (.const (.int .i64 2)) (.tmp 47) 3, none, false⟩,
    ⟨some 49, .index 9 (.tmp 46) (.tmp 48), none, false⟩,
    ⟨some 50, .convert 5 3 (.tmp 49), none, false⟩,
    ⟨some 51, .binOp .add 3 (.tmp 45) (.tmp 50) 3, none, false⟩,
    ⟨some 6, .assign (.tmp 51), none, false⟩]))
  (.region [⟨some 42, .move (.tmp 7), none, false⟩,
    ⟨some 43, .binOp .add 3 (.tmp 42) (.const (.int .i64 1)) 3, none, false⟩,
    ⟨some 7, .assign (.tmp 43), none, false⟩])))
/-- prefect/prefectref1.Head -/
def pc43 : PC :=
  (.seq (.region [⟨some 2, .assign (.const (.int .i64 0)), none, false⟩,
    ⟨some 3, .assign (.const (.int .i64 0)), none, false⟩,
    ⟨some 4, .assign (.const (.int .i64 0)), none, false⟩])
  (.seq (.seq (.region [⟨some 8, .move (.tmp 0), none, false⟩,
    ⟨some 9, .call ⟨.builtin .len, #[.tmp 8], #[9]⟩, none, false⟩,
    ⟨some 10, .binOp .eql 3 (.tmp 9) (.const (.int .i64 0)) 3, none, false⟩])
  (.cond (.tmp 10)
    (.seq (.region [⟨some 2, .assign (.const (.int .i64 0)), none, false⟩,
      ⟨some 3, .assign (.const (.int .i64 0)), none, false⟩,
      ⟨some 4, .assign (.const (.int .i64 10)), none, false⟩])
    .ret)
    .skip))
  (.seq (.seq (.region [⟨some 11, .move (.tmp 0), none, false⟩,
    ⟨some 12, .index 9 (.tmp 11) (.const (.int .i64 0)), none, false⟩,
    ⟨some 13, .binOp .and 5 (.tmp 12) (.const (.int .u8 31)) 5, none, false⟩,
    ⟨some 14, .binOp .eql 5 (.tmp 13) (.const (.int .u8 31)) 5, none, false⟩])
  (.cond (.tmp 14)
    (.seq (.region [⟨some 2, .assign (.const (.int .i64 0)), none, false⟩,
      ⟨some 3, .assign (.const (.int .i64 0)), none, false⟩,
      ⟨some 4, .assign (.const (.int .i64 14)), none, false⟩])
    .ret)
    .skip))
  (.seq (.seq (.region [⟨some 15, .move (.tmp 0), none, false⟩,
    ⟨some 16, .call ⟨.builtin .len, #[.tmp 15], #[9]⟩, none, false⟩,
    ⟨some 17, .binOp .eql 3 (.tmp 16) (.const (.int .i64 1)) 3, none, false⟩])
  (.cond (.tmp 17)
    (.seq (.region [⟨some 2, .assign (.const (.int .i64 0)), none, false⟩,
      ⟨some 3, .assign (.const (.int .i64 0)), none, false⟩,
      ⟨some 4, .assign (.const (.int .i64 10)), none, false⟩])
    .ret)
    .skip))
  (.seq (.seq (.region [⟨some 18, .move (.tmp 0), none, false⟩,
    ⟨some 19, .index 9 (.tmp 18) (.const (.int .i64 1)), none, false⟩,
    ⟨some 20, .binOp .lss 5 (.tmp 19) (.const (.int .u8 128)) 5, none, false⟩])
  (.cond (.tmp 20)
    (.seq (.draw [⟨some 21, .move (.tmp 0), none, false⟩,
      ⟨some 22, .index 9 (.tmp 21) (.const (.int .i64 1)), none, false⟩,
      ⟨some 23, .convert 5 3 (.tmp 22), none, false⟩,
      ⟨some 2, .assign (.const (.int .i64 2)), none, false⟩]
      [⟨some 3, .assign (.tmp 23), none, false⟩,
      ⟨some 4, .assign (.const (.int .i64 0)), none, false⟩])
    .ret)
    .skip))
  (.seq (.region [⟨some 24, .move (.tmp 0), none, false⟩,
    ⟨some 25, .index 9 (.tmp 24) (.const (.int .i64 1)), none, false⟩,
    ⟨some 26, .convert 5 3 (.tmp 25), none, false⟩,
    ⟨some 27, .binOp .sub 3 (.tmp 26) (.const (.int .i64 128)) 3, none, false⟩,
    ⟨some 5, .assign (.tmp 27), none, false⟩])
  (.seq (.seq (.region [⟨some 28, .move (.tmp 5), none, false⟩,
    ⟨some 29, .binOp .lss 3 (.tmp 28) (.const (.int .i64 1)) 3, none, false⟩,
    ⟨some 30, .move (.tmp 29), none, false⟩,
    ⟨some 31, .move (.tmp 5), some (30, false), false⟩,
    ⟨some 32, .binOp .gtr 3 (.tmp 31) (.const (.int .i64 4)) 3, some (30, false), false⟩,
    ⟨some 33, .pick (.tmp 30) (.const (.bool true)) (.tmp 32), none, false⟩])
  (.cond (.tmp 33)
    (.seq (.region [⟨some 2, .assign (.const (.int .i64 0)), none, false⟩,
      ⟨some 3, .assign (.const (.int .i64 0)), none, false⟩,
      ⟨some 4, .assign (.const (.int .i64 11)), none, false⟩])
    .ret)
    .skip))
  (.seq (.seq (.region [⟨some 34, .move (.tmp 0), none, false⟩,
    ⟨some 35, .call ⟨.builtin .len, #[.tmp 34], #[9]⟩, none, false⟩,
    ⟨some 36, .move (.tmp 5), none, false⟩,
    ⟨some 37, .binOp .add 3 (.const (.int .i64 2)) (.tmp 36) 3, none, false⟩,
    ⟨some 38, .binOp .lss 3 (.tmp 35) (.tmp 37) 3, none, false⟩])
  (.cond (.tmp 38)
    (.seq (.region [⟨some 2, .assign (.const (.int .i64 0)), none, false⟩,
      ⟨some 3, .assign (.const (.int .i64 0)), none, false⟩,
      ⟨some 4, .assign (.const (.int .i64 10)), none, false⟩])
    .ret)
    .skip))
  (.seq (.region [⟨some 6, .assign (.const (.int .i64 0)), none, false⟩])
  (.seq (.seq (.region [⟨some 7, .assign (.const (.int .i64 0)), none, false⟩])
  (.block 0 (.loop pc43L0)))
  (.seq (.seq (.region [⟨some 52, .move (.tmp 6), none, false⟩,
    ⟨some 53, .binOp .gtr 3 (.tmp 52) (.const (.int .i64 4000)) 3, none, false⟩])
  (.cond (.tmp 53)
    (.seq (.region [⟨some 2, .assign (.const (.int .i64 0)), none, false⟩,
      ⟨some 3, .assign (.const (.int .i64 0)), none, false⟩,
      ⟨some 4, .assign (.const (.int .i64 13)), none, false⟩])
    .ret)
    .skip))
  (.seq (.region [⟨some 54, .move (.tmp 5), none, false⟩,
    ⟨some 55, .binOp .add 3 (.const (.int .i64 2)) (.tmp 54) 3, none, false⟩,
    ⟨some 56, .move (.tmp 6), none, false⟩,
    ⟨some 2, .assign (.tmp 55), none, false⟩,
    ⟨some 3, .assign (.tmp 56), none, false⟩,
    ⟨some 4, .assign (.const (.int .i64 0)), none, false⟩])
  .ret))))))))))))
def fn43 : PFn := ⟨57, [.tmp 2, .tmp 3, .tmp 4], pc43, false⟩
theorem fnOk43 : FnOk Try.prog 43 fn43 := ⟨⟨_, _, [], Try.func43, rfl, by kernel_rfl, rfl, rfl, of_decide_eq_true (by kernel_rfl)⟩⟩

/-- (*prefect/prefectref1.Cutter).Next -/
def pc17 : PC :=
  (.seq (.region [⟨some 2, .assign (.const (.string ⟨#[]⟩)), none, false⟩,
    ⟨some 3, .assign (.const (.int .i64 0)), none, false⟩])
  (.seq (.region [⟨some 9, .move (.tmp 0), none, false⟩,
    ⟨some 10, .nilCheck (.tmp 9), none, false⟩,
    ⟨some 11, .fieldAddr 43 (.tmp 10) 0, none, false⟩,
    ⟨some 12, .load 9 (.tmp 11), none, false⟩,
    ⟨some 13, .call ⟨.value (.func 43), #[.tmp 12], #[9]⟩, none, false⟩,
    ⟨some 8, .move (.tmp 13), none, false⟩,
    ⟨some 14, .extract (.tmp 8) 0, none, false⟩,
    ⟨some 15, .extract (.tmp 8) 1, none, false⟩,
    ⟨some 16, .extract (.tmp 8) 2, none, false⟩,
    ⟨some 4, .assign (.tmp 14), none, false⟩,
    ⟨some 5, .assign (.tmp 15), none, false⟩,
    ⟨some 6, .assign (.tmp 16), none, false⟩])
  (.seq (.seq (.region [⟨some 17, .move (.tmp 6), none, false⟩,
    ⟨some 18, .binOp .neq 3 (.tmp 17) (.const (.int .i64 0)) 3, none, false⟩])
  (.cond (.tmp 18)
    (.seq (.region [⟨some 19, .move (.tmp 6), none, false⟩,
      ⟨some 2, .assign (.const (.string ⟨#[]⟩)), none, false⟩,
      ⟨some 3, .assign (.tmp 19), none, false⟩])
    .ret)
    .skip))
  (.seq (.seq (.region [⟨some 20, .move (.tmp 0), none, false⟩,
    ⟨some 21, .nilCheck (.tmp 20), none, false⟩,
    ⟨some 22, .fieldAddr 43 (.tmp 21) 0, none, false⟩,
    ⟨some 23, .load 9 (.tmp 22), none, false⟩,
    ⟨some 24, .call ⟨.builtin .len, #[.tmp 23], #[9]⟩, none, false⟩,
    ⟨some 25, .move (.tmp 4), none, false⟩,
    ⟨some 26, .move (.tmp 5), none, false⟩,
    ⟨some 27, .binOp .add 3 (.tmp 25) (.tmp 26) 3, none, false⟩,
    ⟨some 28, .binOp .lss 3 (.tmp 24) (.tmp 27) 3, none, false⟩])
  (.cond (.tmp 28)
    (.seq (.region [⟨some 2, .assign (.const (.string ⟨#[]⟩)), none, false⟩,
      ⟨some 3, .assign (.const (.int .i64 10)), none, false⟩])
    .ret)
    .skip))
  (.seq (.region [⟨some 29, .move (.tmp 0), none, false⟩,
    ⟨some 30, .nilCheck (.tmp 29), none, false⟩,
    ⟨some 31, .fieldAddr 43 (.tmp 30) 0, none, false⟩,
    ⟨some 32, .load 9 (.tmp 31), none, false⟩,
    ⟨some 33, .move (.tmp 4), none, false⟩,
    ⟨some 34, .move (.tmp 5), none, false⟩,
    ⟨some 35, .binOp .add 3 (.tmp 33) (.tmp 34) 3, none, false⟩,
    ⟨some 36, .slice 9 (.tmp 32) none (some (.tmp 35)) none, none, false⟩,
    ⟨some 7, .assign (.tmp 36), none, false⟩])
  (.seq (.region [⟨some 37, .move (.tmp 0), none, false⟩,
    ⟨some 38, .move (.tmp 0), none, false⟩,
    ⟨some 39, .nilCheck (.tmp 38), none, false⟩,
    ⟨some 40, .fieldAddr 43 (.tmp 39) 0, none, false⟩,
    ⟨some 41, .load 9 (.tmp 40), none, false⟩,
    ⟨some 42, .move (.tmp 4), none, false⟩,
    ⟨some 43, .move (.tmp 5), none, false⟩,
    ⟨some 44, .binOp .add 3 (.tmp 42) (.tmp 43) 3, none, false⟩,
    ⟨some 45, .slice 9 (.tmp 41) (some (.tmp 44)) none none, none, false⟩,
    ⟨some 46, .nilCheck (.tmp 37), none, false⟩,
    ⟨some 47, .fieldAddr 43 (.tmp 46) 0, none, false⟩,
    ⟨none, .store 9 (.tmp 47) (.tmp 45), none, false⟩])
  (.seq (.region [⟨some 48, .move (.tmp 7), none, false⟩,
    ⟨some 2, .assign (.tmp 48), none, false⟩,
    ⟨some 3, .assign (.const (.int .i64 0)), none, false⟩])
  .ret)))))))
def fn17 : PFn := ⟨49, [.tmp 2, .tmp 3], pc17, false⟩
theorem fnOk17 : FnOk Try.prog 17 fn17 := ⟨⟨_, _, [], Try.func17, rfl, by kernel_rfl, rfl, rfl, of_decide_eq_true (by kernel_rfl)⟩⟩

def pc5L2 : PC :=
  (.seq (.seq (.region [⟨some 62, .move (.tmp 10), none, false⟩,
    ⟨some 63, .move (.tmp 9), none, false⟩,
    ⟨some 64, .binOp .lss 3 (.tmp 62) (.tmp 63) 3, none, false⟩])
  (.cond (.tmp 64)
    .skip
    (.exit 2)))
  (.seq (.block 3 (.seq (.region [⟨some 68, .move (.tmp 5), none, false⟩,
    ⟨some 69, .call ⟨.value (.func 13), #[.tmp 68], #[30]⟩, none, false⟩,
    ⟨some 67, .move (.tmp 69), none, false⟩,
    ⟨some 70, .extract (.tmp 67) 0, none, false⟩,
    ⟨some 71, .extract (.tmp 67) 1, none, false⟩,
    ⟨some 11, .assign (.tmp 70), none, false⟩,
    ⟨some 12, .assign (.tmp 71), none, false⟩])
  (.seq (.region [⟨some 73, .move (.tmp 6), none, false⟩,
    ⟨some 74, .call ⟨.value (.func 17), #[.tmp 73], #[41]⟩, none, false⟩,
    ⟨some 72, .move (.tmp 74), none, false⟩,
    ⟨some 75, .extract (.tmp 72) 0, none, false⟩,
    ⟨some 76, .extract (.tmp 72) 1, none, false⟩,
    ⟨some 13, .assign (.tmp 75), none, false⟩,
    ⟨some 14, .assign (.tmp 76), none, false⟩])
  (.seq (.drawC [⟨some 77, .move (.tmp 11), none, false⟩,
    ⟨some 78, .move (.tmp 13), none, false⟩,
    ⟨some 79, .binOp .neq 9 (.tmp 77) (.tmp 78) 9, none, false⟩,
    ⟨some 80, .move (.tmp 79), none, false⟩,
    ⟨some 81, .move (.tmp 12), some (80, false), false⟩,
    ⟨some 82, .move (.tmp 14), some (80, false), false⟩,
    ⟨some 83, .binOp .neq 3 (.tmp 81) (.tmp 82) 3, some (80, false), false⟩,
    ⟨some 84, .pick (.tmp 80) (.const (.bool true)) (.tmp 83), none, false⟩,
    ⟨some 85, .move (.tmp 84), none, false⟩,
    ⟨some 86, .move (.tmp 5), some (85, false), false⟩,
    ⟨some 87, .call ⟨.value (.func 14), #[.tmp 86], #[30]⟩, some (85, false), false⟩,
    ⟨some 88, .move (.tmp 6), some (85, false), false⟩,
    ⟨some 89, .nilCheck (.tmp 88), some (85, false), false⟩,
    ⟨some 90, .fieldAddr 43 (.tmp 89) 0, some (85, false), false⟩,
    ⟨some 91, .load 9 (.tmp 90), some (85, false), false⟩,
    ⟨some 92, .call ⟨.builtin .len, #[.tmp 91], #[9]⟩, some (85, false), false⟩]
    [⟨some 93, .binOp .neq 3 (.tmp 87) (.tmp 92) 3, some (85, false), false⟩,
    ⟨some 94, .pick (.tmp 85) (.const (.bool true)) (.tmp 93), none, false⟩])
  (.cond (.tmp 94)
    (.seq (.region [⟨some 4, .assign (.const (.bool false)), none, false⟩])
    .ret)
    .skip)))))
  (.region [⟨some 65, .move (.tmp 10), none, false⟩,
    ⟨some 66, .binOp .add 3 (.tmp 65) (.const (.int .i64 1)) 3, none, false⟩,
    ⟨some 10, .assign (.tmp 66), none, false⟩])))
def pc5L0 : PC :=
  (.seq (.seq (.region [⟨some 23, .move (.tmp 7), none, false⟩,
    ⟨some 24, .move (.tmp 0), none, false⟩,
    ⟨some 25, .call ⟨.builtin .len, #[.tmp 24], #[25]⟩, none, false⟩,
    ⟨some 26, .binOp .lss 3 (.tmp 23) (.tmp 25) 3, none, false⟩])
  (.cond (.tmp 26)
    .skip
    (.exit 0)))
  (.seq (.block 1 (.seq (.seq (.region [⟨some 29, .move (.tmp 0), none, false⟩,
    ⟨some 30, .move (.tmp 7), none, false⟩,
    ⟨some 31, .indexAddr 25 (.tmp 29) (.tmp 30), none, false⟩,
    ⟨some 32, .load 9 (.tmp 31), none, false⟩,
    ⟨some 33, .call ⟨.builtin .len, #[.tmp 32], #[9]⟩, none, false⟩,
    ⟨some 34, .binOp .gtr 3 (.tmp 33) (.const (.int .i64 6000)) 3, none, false⟩])
  (.cond (.tmp 34)
    (.seq (.region [⟨some 4, .assign (.const (.bool true)), none, false⟩])
    .ret)
    .skip))
  (.seq (.region [⟨some 35, .move (.tmp 5), none, false⟩,
    ⟨some 36, .call ⟨.value (.func 15), #[.tmp 35], #[30]⟩, none, false⟩,
    ⟨some 8, .assign (.tmp 36), none, false⟩])
  (.seq (.seq (.drawC [⟨some 37, .move (.tmp 5), none, false⟩,
    ⟨some 38, .move (.tmp 0), none, false⟩,
    ⟨some 39, .move (.tmp 7), none, false⟩,
    ⟨some 40, .indexAddr 25 (.tmp 38) (.tmp 39), none, false⟩,
    ⟨some 41, .load 9 (.tmp 40), none, false⟩,
    ⟨some 42, .call ⟨.value (.func 12), #[.tmp 37, .tmp 41], #[30, 9]⟩, none, false⟩,
    ⟨some 43, .move (.tmp 6), none, false⟩,
    ⟨some 44, .move (.tmp 0), none, false⟩,
    ⟨some 45, .move (.tmp 7), none, false⟩,
    ⟨some 46, .indexAddr 25 (.tmp 44) (.tmp 45), none, false⟩,
    ⟨some 47, .load 9 (.tmp 46), none, false⟩]
    [⟨some 48, .call ⟨.value (.func 16), #[.tmp 43, .tmp 47], #[41, 9]⟩, none, false⟩,
    ⟨some 49, .binOp .neq 3 (.tmp 42) (.tmp 48) 3, none, false⟩])
  (.cond (.tmp 49)
    (.seq (.region [⟨some 4, .assign (.const (.bool false)), none, false⟩])
    .ret)
    .skip))
  (.seq (.region [⟨some 50, .move (.tmp 8), none, false⟩,
    ⟨some 51, .call ⟨.value (.func 12), #[.tmp 50, .const (.string ⟨#[120]⟩)], #[30, 9]⟩, none, false⟩])
  (.seq (.region [⟨some 9, .assign (.const (.int .i64 1)), none, false⟩])
  (.seq (.seq (.region [⟨some 52, .move (.tmp 7), none, false⟩,
    ⟨some 53, .move (.tmp 1), none, false⟩,
    ⟨some 54, .call ⟨.builtin .len, #[.tmp 53], #[23]⟩, none, false⟩,
    ⟨some 55, .binOp .lss 3 (.tmp 52) (.tmp 54) 3, none, false⟩])
  (.cond (.tmp 55)
    (.region [⟨some 56, .move (.tmp 1), none, false⟩,
      ⟨some 57, .move (.tmp 7), none, false⟩,
      ⟨some 58, .indexAddr 23 (.tmp 56) (.tmp 57), none, false⟩,
      ⟨some 59, .load 5 (.tmp 58), none, false⟩,
      ⟨some 60, .binOp .rem 5 (.tmp 59) (.const (.int .u8 4)) 5, none, false⟩,
      ⟨some 61, .convert 5 3 (.tmp 60), none, false⟩,
      ⟨some 9, .assign (.tmp 61), none, false⟩])
    .skip))
  (.seq (.region [⟨some 10, .assign (.const (.int .i64 0)), none, false⟩])
  (.block 2 (.loop pc5L2))))))))))
  (.region [⟨some 27, .move (.tmp 7), none, false⟩,
    ⟨some 28, .binOp .add 3 (.tmp 27) (.const (.int .i64 1)) 3, none, false⟩,
    ⟨some 7, .assign (.tmp 28), none, false⟩])))
/-- prefect/prefectlaw3.FramePlays -/
def pc5 : PC :=
  (.seq (.region [⟨some 4, .assign (.const (.bool false)), none, false⟩])
  (.seq (.seq (.region [⟨some 15, .call ⟨.value (.func 9), #[], #[]⟩, none, false⟩,
    ⟨some 16, .unOp .not 4 (.tmp 15), none, false⟩])
  (.cond (.tmp 16)
    (.seq (.region [⟨some 4, .assign (.const (.bool false)), none, false⟩])
    .ret)
    .skip))
  (.seq (.seq (.region [⟨some 17, .move (.tmp 0), none, false⟩,
    ⟨some 18, .call ⟨.builtin .len, #[.tmp 17], #[25]⟩, none, false⟩,
    ⟨some 19, .binOp .gtr 3 (.tmp 18) (.const (.int .i64 40)) 3, none, false⟩])
  (.cond (.tmp 19)
    (.seq (.region [⟨some 4, .assign (.const (.bool true)), none, false⟩])
    .ret)
    .skip))
  (.seq (.region [⟨some 20, .call ⟨.value (.func 11), #[], #[]⟩, none, false⟩,
    ⟨some 21, .build 43 #[], none, false⟩,
    ⟨some 22, .box 43 (.tmp 21), none, false⟩,
    ⟨some 5, .assign (.tmp 20), none, false⟩,
    ⟨some 6, .assign (.tmp 22), none, false⟩])
  (.seq (.seq (.region [⟨some 7, .assign (.const (.int .i64 0)), none, false⟩])
  (.block 0 (.loop pc5L0)))
  (.seq (.drawC [⟨some 95, .move (.tmp 5), none, false⟩,
    ⟨some 96, .call ⟨.value (.func 14), #[.tmp 95], #[30]⟩, none, false⟩,
    ⟨some 97, .move (.tmp 6), none, false⟩,
    ⟨some 98, .nilCheck (.tmp 97), none, false⟩,
    ⟨some 99, .fieldAddr 43 (.tmp 98) 0, none, false⟩,
    ⟨some 100, .load 9 (.tmp 99), none, false⟩,
    ⟨some 101, .call ⟨.builtin .len, #[.tmp 100], #[9]⟩, none, false⟩]
    [⟨some 102, .binOp .eql 3 (.tmp 96) (.tmp 101) 3, none, false⟩,
    ⟨some 4, .assign (.tmp 102), none, false⟩])
  .ret))))))
def fn5 : PFn := ⟨103, [.tmp 4], pc5, false⟩
theorem fnOk5 : FnOk Try.prog 5 fn5 := ⟨⟨_, _, [12, 23, 25], Try.func5, rfl, by kernel_rfl, rfl, rfl, of_decide_eq_true (by kernel_rfl)⟩⟩

def pc20L0 : PC :=
  (.seq (.region [⟨some 9, .binOp .lss 3 (.tmp 8) (.tmp 7) 3, none, false⟩])
  (.seq (.cond (.tmp 9)
    .skip
    (.exit 0))
  (.seq (.block 1 (.seq (.region [⟨some 10, .move (.tmp 8), none, false⟩,
    ⟨some 4, .assign (.tmp 10), none, false⟩])
  (.region [⟨some 11, .move (.tmp 3), none, false⟩,
    ⟨some 12, .move (.tmp 4), none, false⟩,
    ⟨some 13, .build 50 #[(2, .tmp 12)], none, false⟩,
    ⟨some 14, .buildSlice 48 1 #[(0, .tmp 13)], none, false⟩,
    ⟨some 15, .call ⟨.builtin .append, #[.tmp 11, .tmp 14], #[48, 48]⟩, none, false⟩,
    ⟨some 3, .assign (.tmp 15), none, false⟩])))
  (.region [⟨some 16, .binOp .add 3 (.tmp 8) (.const (.int .i64 1)) 3, none, false⟩,
    ⟨some 8, .move (.tmp 16), none, false⟩]))))
/-- prefect/vector.New -/
def pc20 : PC :=
  (.seq (.region [⟨some 2, .assign (.const (.slice none 0 0)), none, false⟩])
  (.seq (.region [⟨some 3, .assign (.const (.slice none 0 0)), none, false⟩])
  (.seq (.seq (.region [⟨some 5, .move (.tmp 0), none, false⟩,
    ⟨some 6, .call ⟨.builtin .max, #[.tmp 5, .const (.int .i64 0)], #[3, 3]⟩, none, false⟩,
    ⟨some 7, .call ⟨.builtin .min, #[.tmp 6, .const (.int .i64 6)], #[3, 3]⟩, none, false⟩,
    ⟨some 8, .move (.const (.int .i64 0)), none, false⟩])
  (.block 0 (.loop pc20L0)))
  (.seq (.region [⟨some 17, .move (.tmp 3), none, false⟩,
    ⟨some 2, .assign (.tmp 17), none, false⟩])
  .ret))))
def fn20 : PFn := ⟨18, [.tmp 2], pc20, false⟩
theorem fnOk20 : FnOk Try.prog 20 fn20 := ⟨⟨_, _, [], Try.func20, rfl, by kernel_rfl, rfl, rfl, of_decide_eq_true (by kernel_rfl)⟩⟩

/-- prefect/csn.Is -/
def pc44 : PC :=
  (.seq (.region [⟨some 1, .box 50 (.tmp 0), none, false⟩,
    ⟨some 2, .assign (.const (.bool false)), none, false⟩])
  (.seq (.region [⟨some 3, .fieldAddr 50 (.tmp 1) 0, none, false⟩,
    ⟨some 4, .load 2 (.tmp 3), none, false⟩,
    ⟨some 5, .binOp .geq 2 (.tmp 4) (.const (.int .i64 0)) 2, none, false⟩,
    ⟨some 6, .move (.tmp 5), none, false⟩,
    ⟨some 7, .fieldAddr 50 (.tmp 1) 0, some (6, true), false⟩,
    ⟨some 8, .load 2 (.tmp 7), some (6, true), false⟩,
    ⟨some 9, .binOp .leq 2 (.tmp 8) (.const (.int .i64 1099511627776)) 2, some (6, true), false⟩,
    ⟨some 10, .pick (.tmp 6) (.tmp 9) (.const (.bool false)), none, false⟩,
    ⟨some 11, .move (.tmp 10), none, false⟩,
    ⟨some 12, .fieldAddr 50 (.tmp 1) 1, some (11, true), false⟩,
    ⟨some 13, .load 3 (.tmp 12), some (11, true), false⟩,
    ⟨some 14, .binOp .geq 3 (.tmp 13) (.const (.int .i64 0)) 3, some (11, true), false⟩,
    ⟨some 15, .pick (.tmp 11) (.tmp 14) (.const (.bool false)), none, false⟩,
    ⟨some 16, .move (.tmp 15), none, false⟩,
    ⟨some 17, .fieldAddr 50 (.tmp 1) 1, some (16, true), false⟩,
    ⟨some 18, .load 3 (.tmp 17), some (16, true), false⟩,
    ⟨some 19, .binOp .leq 3 (.tmp 18) (.const (.int .i64 65535)) 3, some (16, true), false⟩,
    ⟨some 20, .pick (.tmp 16) (.tmp 19) (.const (.bool false)), none, false⟩,
    ⟨some 21, .move (.tmp 20), none, false⟩,
    ⟨some 22, .fieldAddr 50 (.tmp 1) 2, some (21, true), false⟩,
    ⟨some 23, .load 3 (.tmp 22), some (21, true), false⟩,
    ⟨some 24, .binOp .geq 3 (.tmp 23) (.const (.int .i64 0)) 3, some (21, true), false⟩,
    ⟨some 25, .pick (.tmp 21) (.tmp 24) (.const (.bool false)), none, false⟩,
    ⟨some 26, .move (.tmp 25), none, false⟩,
    ⟨some 27, .fieldAddr 50 (.tmp 1) 2, some (26, true), false⟩,
    ⟨some 28, .load 3 (.tmp 27), some (26, true), false⟩,
    ⟨some 29, .binOp .lss 3 (.tmp 28) (.const (.int .i64 6)) 3, some (26, true), false⟩,
    ⟨some 30, .pick (.tmp 26) (.tmp 29) (.const (.bool false)), none, false⟩,
    ⟨some 2, .assign (.tmp 30), none, false⟩])
  .ret))
def fn44 : PFn := ⟨31, [.tmp 2], pc44, false⟩
theorem fnOk44 : FnOk Try.prog 44 fn44 := ⟨⟨_, _, [], Try.func44, rfl, by kernel_rfl, rfl, rfl, of_decide_eq_true (by kernel_rfl)⟩⟩

def pc22L0 : PC :=
  (.seq (.region [⟨some 8, .binOp .lss 3 (.tmp 7) (.tmp 6) 3, none, false⟩])
  (.seq (.cond (.tmp 8)
    .skip
    (.exit 0))
  (.seq (.block 1 (.seq (.region [⟨some 9, .move (.tmp 7), none, false⟩,
    ⟨some 10, .indexAddr 48 (.tmp 5) (.tmp 7), none, false⟩,
    ⟨some 11, .load 50 (.tmp 10), none, false⟩,
    ⟨some 4, .alloc 50, none, false⟩,
    ⟨some 3, .assign (.tmp 9), none, false⟩,
    ⟨none, .store 50 (.tmp 4) (.tmp 11), none, false⟩])
  (.seq (.region [⟨some 12, .move (.tmp 3), none, false⟩,
    ⟨some 13, .binOp .geq 3 (.tmp 12) (.const (.int .i64 6)) 3, none, false⟩,
    ⟨some 14, .move (.tmp 13), none, false⟩,
    ⟨some 15, .fieldAddr 50 (.tmp 4) 2, some (14, false), false⟩,
    ⟨some 16, .load 3 (.tmp 15), some (14, false), false⟩,
    ⟨some 17, .move (.tmp 3), some (14, false), false⟩,
    ⟨some 18, .binOp .neq 3 (.tmp 16) (.tmp 17) 3, some (14, false), false⟩,
    ⟨some 19, .pick (.tmp 14) (.const (.bool true)) (.tmp 18), none, false⟩,
    ⟨some 20, .move (.tmp 19), none, false⟩,
    ⟨some 21, .load 50 (.tmp 4), some (20, false), false⟩,
    ⟨some 22, .call ⟨.value (.func 44), #[.tmp 21], #[50]⟩, some (20, false), false⟩,
    ⟨some 23, .unOp .not 4 (.tmp 22), some (20, false), false⟩,
    ⟨some 24, .pick (.tmp 20) (.const (.bool true)) (.tmp 23), none, false⟩])
  (.cond (.tmp 24)
    (.seq (.region [⟨some 2, .assign (.const (.bool false)), none, false⟩])
    .ret)
    .skip))))
  (.region [⟨some 25, .binOp .add 3 (.tmp 7) (.const (.int .i64 1)) 3, none, false⟩,
    ⟨some 7, .move (.tmp 25), none, false⟩]))))
/-- prefect/vector.Is -/
def pc22 : PC :=
  (.seq (.region [⟨some 2, .assign (.const (.bool false)), none, false⟩])
  (.seq (.seq (.region [⟨some 5, .move (.tmp 0), none, false⟩,
    ⟨some 6, .call ⟨.builtin .len, #[.tmp 5], #[48]⟩, none, false⟩,
    ⟨some 7, .move (.const (.int .i64 0)), none, false⟩])
  (.block 0 (.loop pc22L0)))
  (.seq (.region [⟨some 2, .assign (.const (.bool true)), none, false⟩])
  .ret)))
def fn22 : PFn := ⟨26, [.tmp 2], pc22, false⟩
theorem fnOk22 : FnOk Try.prog 22 fn22 := ⟨⟨_, _, [], Try.func22, rfl, by kernel_rfl, rfl, rfl, of_decide_eq_true (by kernel_rfl)⟩⟩

/-- slices.Clone[prefect/api.Vector,prefect/api.CSN] -/
def pc46 : PC :=
  (.seq (.region [⟨some 2, .assign (.const (.slice none 0 0)), none, false⟩])
  (.seq (.seq (.region [⟨some 3, .move (.tmp 0), none, false⟩,
    ⟨some 4, .binOp .eql 48 (.tmp 3) (.const (.slice none 0 0)) 48, none, false⟩])
  (.cond (.tmp 4)
    (.seq (.region [⟨some 2, .assign (.const (.slice none 0 0)), none, false⟩])
    .ret)
    .skip))
  (.seq (.region [⟨some 5, .buildSlice 48 0 #[], none, true⟩,
    ⟨some 6, .move (.tmp 0), none, false⟩,
    ⟨some 7, .call ⟨.builtin .append, #[.tmp 5, .tmp 6], #[48, 48]⟩, none, true⟩,
    ⟨some 2, .assign (.tmp 7), none, false⟩])
  .ret)))
def fn46 : PFn := ⟨8, [.tmp 2], pc46, true⟩
theorem fnOk46 : FnOk Try.prog 46 fn46 := ⟨⟨_, _, [1000005, 1000007], Try.func46, rfl, by kernel_rfl, rfl, rfl, of_decide_eq_true (by kernel_rfl)⟩⟩

/-- prefect/vector.of -/
def pc47 : PC :=
  (.seq (.region [⟨some 2, .assign (.const (.slice none 0 0)), none, false⟩])
  (.seq (.seq (.region [⟨some 3, .move (.tmp 0), none, false⟩,
    ⟨some 4, .call ⟨.value (.func 22), #[.tmp 3], #[48]⟩, none, false⟩,
    ⟨some 5, .unOp .not 4 (.tmp 4), none, false⟩])
  (.cond (.tmp 5)
    (.seq (.region [⟨some 2, .assign (.const (.slice none 0 0)), none, false⟩])
    .ret)
    .skip))
  (.seq (.region [⟨some 6, .move (.tmp 0), none, false⟩,
    ⟨some 2, .assign (.tmp 6), none, false⟩])
  .ret)))
def fn47 : PFn := ⟨7, [.tmp 2], pc47, false⟩
theorem fnOk47 : FnOk Try.prog 47 fn47 := ⟨⟨_, _, [], Try.func47, rfl, by kernel_rfl, rfl, rfl, of_decide_eq_true (by kernel_rfl)⟩⟩

def pc58L0 : PC :=
  (.seq (.region [⟨some 9, .binOp .lss 3 (.tmp 8) (.tmp 7) 3, none, false⟩])
  (.seq (.cond (.tmp 9)
    .skip
    (.exit 0))
  (.seq (.block 1 (.seq (.region [⟨some 10, .indexAddr 101 (.tmp 6) (.tmp 8), none, false⟩,
    ⟨some 11, .load 3 (.tmp 10), none, false⟩,
    ⟨some 5, .assign (.tmp 11), none, false⟩])
  (.seq (.region [⟨some 12, .move (.tmp 5), none, false⟩,
    ⟨some 13, .move (.tmp 3), none, false⟩,
    ⟨some 14, .binOp .neq 3 (.tmp 12) (.tmp 13) 3, none, false⟩])
  (.cond (.tmp 14)
    (.seq (.region [⟨some 15, .move (.tmp 5), none, false⟩,
      ⟨some 2, .assign (.tmp 15), none, false⟩])
    .ret)
    .skip))))
  (.region [⟨some 16, .binOp .add 3 (.tmp 8) (.const (.int .i64 1)) 3, none, false⟩,
    ⟨some 8, .move (.tmp 16), none, false⟩]))))
/-- cmp.Or[int] -/
def pc58 : PC :=
  (.seq (.region [⟨some 2, .assign (.const (.int .i64 0)), none, false⟩])
  (.seq (.region [⟨some 3, .assign (.const (.int .i64 0)), none, false⟩])
  (.seq (.seq (.region [⟨some 6, .move (.tmp 0), none, false⟩,
    ⟨some 7, .call ⟨.builtin .len, #[.tmp 6], #[101]⟩, none, false⟩,
    ⟨some 8, .move (.const (.int .i64 0)), none, false⟩])
  (.block 0 (.loop pc58L0)))
  (.seq (.region [⟨some 17, .move (.tmp 3), none, false⟩,
    ⟨some 2, .assign (.tmp 17), none, false⟩])
  .ret))))
def fn58 : PFn := ⟨18, [.tmp 2], pc58, false⟩
theorem fnOk58 : FnOk Try.prog 58 fn58 := ⟨⟨_, _, [], Try.func58, rfl, by kernel_rfl, rfl, rfl, of_decide_eq_true (by kernel_rfl)⟩⟩

/-- cmp.isNaN[int64] -/
def pc61 : PC :=
  (.seq (.region [⟨some 2, .assign (.const (.bool false)), none, false⟩])
  (.seq (.region [⟨some 3, .move (.tmp 0), none, false⟩,
    ⟨some 4, .move (.tmp 0), none, false⟩,
    ⟨some 5, .binOp .neq 2 (.tmp 3) (.tmp 4) 2, none, false⟩,
    ⟨some 2, .assign (.tmp 5), none, false⟩])
  .ret))
def fn61 : PFn := ⟨6, [.tmp 2], pc61, false⟩
theorem fnOk61 : FnOk Try.prog 61 fn61 := ⟨⟨_, _, [], Try.func61, rfl, by kernel_rfl, rfl, rfl, of_decide_eq_true (by kernel_rfl)⟩⟩

/-- cmp.Compare[int64] -/
def pc59 : PC :=
  (.seq (.region [⟨some 4, .assign (.const (.int .i64 0)), none, false⟩])
  (.seq (.region [⟨some 7, .move (.tmp 0), none, false⟩,
    ⟨some 8, .call ⟨.value (.func 61), #[.tmp 7], #[2]⟩, none, false⟩,
    ⟨some 5, .assign (.tmp 8), none, false⟩])
  (.seq (.region [⟨some 9, .move (.tmp 1), none, false⟩,
    ⟨some 10, .call ⟨.value (.func 61), #[.tmp 9], #[2]⟩, none, false⟩,
    ⟨some 6, .assign (.tmp 10), none, false⟩])
  (.seq (.seq (.region [⟨some 11, .move (.tmp 5), none, false⟩])
  (.cond (.tmp 11)
    (.seq (.seq (.region [⟨some 12, .move (.tmp 6), none, false⟩])
    (.cond (.tmp 12)
      (.seq (.region [⟨some 4, .assign (.const (.int .i64 0)), none, false⟩])
      .ret)
      .skip))
    (.seq (.region [⟨some 4, .assign (.const (.int .i64 (-1))), none, false⟩])
    .ret))
    .skip))
  (.seq (.seq (.region [⟨some 13, .move (.tmp 6), none, false⟩])
  (.cond (.tmp 13)
    (.seq (.region [⟨some 4, .assign (.const (.int .i64 1)), none, false⟩])
    .ret)
    .skip))
  (.seq (.seq (.region [⟨some 14, .move (.tmp 0), none, false⟩,
    ⟨some 15, .move (.tmp 1), none, false⟩,
    ⟨some 16, .binOp .lss 2 (.tmp 14) (.tmp 15) 2, none, false⟩])
  (.cond (.tmp 16)
    (.seq (.region [⟨some 4, .assign (.const (.int .i64 (-1))), none, false⟩])
    .ret)
    .skip))
  (.seq (.seq (.region [⟨some 17, .move (.tmp 0), none, false⟩,
    ⟨some 18, .move (.tmp 1), none, false⟩,
    ⟨some 19, .binOp .gtr 2 (.tmp 17) (.tmp 18) 2, none, false⟩])
  (.cond (.tmp 19)
    (.seq (.region [⟨some 4, .assign (.const (.int .i64 1)), none, false⟩])
    .ret)
    .skip))
  (.seq (.region [⟨some 4, .assign (.const (.int .i64 0)), none, false⟩])
  .ret))))))))
def fn59 : PFn := ⟨20, [.tmp 4], pc59, false⟩
theorem fnOk59 : FnOk Try.prog 59 fn59 := ⟨⟨_, _, [], Try.func59, rfl, by kernel_rfl, rfl, rfl, of_decide_eq_true (by kernel_rfl)⟩⟩

/-- cmp.isNaN[int] -/
def pc62 : PC :=
  (.seq (.region [⟨some 2, .assign (.const (.bool false)), none, false⟩])
  (.seq (.region [⟨some 3, .move (.tmp 0), none, false⟩,
    ⟨some 4, .move (.tmp 0), none, false⟩,
    ⟨some 5, .binOp .neq 3 (.tmp 3) (.tmp 4) 3, none, false⟩,
    ⟨some 2, .assign (.tmp 5), none, false⟩])
  .ret))
def fn62 : PFn := ⟨6, [.tmp 2], pc62, false⟩
theorem fnOk62 : FnOk Try.prog 62 fn62 := ⟨⟨_, _, [], Try.func62, rfl, by kernel_rfl, rfl, rfl, of_decide_eq_true (by kernel_rfl)⟩⟩

/-- cmp.Compare[int] -/
def pc60 : PC :=
  (.seq (.region [⟨some 4, .assign (.const (.int .i64 0)), none, false⟩])
  (.seq (.region [⟨some 7, .move (.tmp 0), none, false⟩,
    ⟨some 8, .call ⟨.value (.func 62), #[.tmp 7], #[3]⟩, none, false⟩,
    ⟨some 5, .assign (.tmp 8), none, false⟩])
  (.seq (.region [⟨some 9, .move (.tmp 1), none, false⟩,
    ⟨some 10, .call ⟨.value (.func 62), #[.tmp 9], #[3]⟩, none, false⟩,
    ⟨some 6, .assign (.tmp 10), none, false⟩])
  (.seq (.seq (.region [⟨some 11, .move (.tmp 5), none, false⟩])
  (.cond (.tmp 11)
    (.seq (.seq (.region [⟨some 12, .move (.tmp 6), none, false⟩])
    (.cond (.tmp 12)
      (.seq (.region [⟨some 4, .assign (.const (.int .i64 0)), none, false⟩])
      .ret)
      .skip))
    (.seq (.region [⟨some 4, .assign (.const (.int .i64 (-1))), none, false⟩])
    .ret))
    .skip))
  (.seq (.seq (.region [⟨some 13, .move (.tmp 6), none, false⟩])
  (.cond (.tmp 13)
    (.seq (.region [⟨some 4, .assign (.const (.int .i64 1)), none, false⟩])
    .ret)
    .skip))
  (.seq (.seq (.region [⟨some 14, .move (.tmp 0), none, false⟩,
    ⟨some 15, .move (.tmp 1), none, false⟩,
    ⟨some 16, .binOp .lss 3 (.tmp 14) (.tmp 15) 3, none, false⟩])
  (.cond (.tmp 16)
    (.seq (.region [⟨some 4, .assign (.const (.int .i64 (-1))), none, false⟩])
    .ret)
    .skip))
  (.seq (.seq (.region [⟨some 17, .move (.tmp 0), none, false⟩,
    ⟨some 18, .move (.tmp 1), none, false⟩,
    ⟨some 19, .binOp .gtr 3 (.tmp 17) (.tmp 18) 3, none, false⟩])
  (.cond (.tmp 19)
    (.seq (.region [⟨some 4, .assign (.const (.int .i64 1)), none, false⟩])
    .ret)
    .skip))
  (.seq (.region [⟨some 4, .assign (.const (.int .i64 0)), none, false⟩])
  .ret))))))))
def fn60 : PFn := ⟨20, [.tmp 4], pc60, false⟩
theorem fnOk60 : FnOk Try.prog 60 fn60 := ⟨⟨_, _, [], Try.func60, rfl, by kernel_rfl, rfl, rfl, of_decide_eq_true (by kernel_rfl)⟩⟩

/-- prefect/csn.Cmp -/
def pc50 : PC :=
  (.seq (.region [⟨some 2, .box 50 (.tmp 0), none, false⟩,
    ⟨some 3, .box 50 (.tmp 1), none, false⟩,
    ⟨some 4, .assign (.const (.int .i64 0)), none, false⟩])
  (.seq (.draw [⟨some 5, .fieldAddr 50 (.tmp 2) 0, none, false⟩,
    ⟨some 6, .load 2 (.tmp 5), none, false⟩,
    ⟨some 7, .fieldAddr 50 (.tmp 3) 0, none, false⟩,
    ⟨some 8, .load 2 (.tmp 7), none, false⟩,
    ⟨some 9, .call ⟨.value (.func 59), #[.tmp 6, .tmp 8], #[2, 2]⟩, none, false⟩,
    ⟨some 10, .fieldAddr 50 (.tmp 2) 1, none, false⟩,
    ⟨some 11, .load 3 (.tmp 10), none, false⟩,
    ⟨some 12, .fieldAddr 50 (.tmp 3) 1, none, false⟩,
    ⟨some 13, .load 3 (.tmp 12), none, false⟩,
    ⟨some 14, .call ⟨.value (.func 60), #[.tmp 11, .tmp 13], #[3, 3]⟩, none, false⟩,
    ⟨some 15, .fieldAddr 50 (.tmp 2) 2, none, false⟩,
    ⟨some 16, .load 3 (.tmp 15), none, false⟩,
    ⟨some 17, .fieldAddr 50 (.tmp 3) 2, none, false⟩,
    ⟨some 18, .load 3 (.tmp 17), none, false⟩]
    [⟨some 19, .call ⟨.value (.func 60), #[.tmp 16, .tmp 18], #[3, 3]⟩, none, false⟩,
    ⟨some 20, .buildSlice 101 3 #[(0, .tmp 9), (1, .tmp 14), (2, .tmp 19)], none, false⟩,
    ⟨some 21, .call ⟨.value (.func 58), #[.tmp 20], #[101]⟩, none, false⟩,
    ⟨some 4, .assign (.tmp 21), none, false⟩])
  .ret))
def fn50 : PFn := ⟨22, [.tmp 4], pc50, false⟩
theorem fnOk50 : FnOk Try.prog 50 fn50 := ⟨⟨_, _, [], Try.func50, rfl, by kernel_rfl, rfl, rfl, of_decide_eq_true (by kernel_rfl)⟩⟩

/-- prefect/vector.most -/
def pc48 : PC :=
  (.seq (.region [⟨some 2, .box 50 (.tmp 0), none, false⟩,
    ⟨some 3, .box 50 (.tmp 1), none, false⟩,
    ⟨some 4, .alloc 50, none, false⟩])
  (.seq (.seq (.region [⟨some 5, .load 50 (.tmp 2), none, false⟩,
    ⟨some 6, .load 50 (.tmp 3), none, false⟩,
    ⟨some 7, .call ⟨.value (.func 50), #[.tmp 5, .tmp 6], #[50, 50]⟩, none, false⟩,
    ⟨some 8, .binOp .lss 3 (.tmp 7) (.const (.int .i64 0)) 3, none, false⟩])
  (.cond (.tmp 8)
    (.seq (.region [⟨some 9, .load 50 (.tmp 3), none, false⟩,
      ⟨none, .store 50 (.tmp 4) (.tmp 9), none, false⟩])
    .ret)
    .skip))
  (.seq (.region [⟨some 10, .load 50 (.tmp 2), none, false⟩,
    ⟨none, .store 50 (.tmp 4) (.tmp 10), none, false⟩])
  .ret)))
def fn48 : PFn := ⟨11, [.cell 4 50], pc48, false⟩
theorem fnOk48 : FnOk Try.prog 48 fn48 := ⟨⟨_, _, [], Try.func48, rfl, by kernel_rfl, rfl, rfl, of_decide_eq_true (by kernel_rfl)⟩⟩

/-- prefect/vector.Raise -/
def pc24 : PC :=
  (.seq (.region [⟨some 3, .box 50 (.tmp 1), none, false⟩,
    ⟨some 4, .assign (.const (.slice none 0 0)), none, false⟩])
  (.seq (.region [⟨some 6, .move (.tmp 0), none, false⟩,
    ⟨some 7, .call ⟨.value (.func 47), #[.tmp 6], #[48]⟩, none, false⟩,
    ⟨some 8, .call ⟨.value (.func 46), #[.tmp 7], #[48]⟩, none, false⟩,
    ⟨some 5, .assign (.tmp 8), none, false⟩])
  (.seq (.seq (.region [⟨some 9, .load 50 (.tmp 3), none, false⟩,
    ⟨some 10, .call ⟨.value (.func 44), #[.tmp 9], #[50]⟩, none, false⟩,
    ⟨some 11, .move (.tmp 10), none, false⟩,
    ⟨some 12, .fieldAddr 50 (.tmp 3) 2, some (11, true), false⟩,
    ⟨some 13, .load 3 (.tmp 12), some (11, true), false⟩,
    ⟨some 14, .move (.tmp 5), some (11, true), false⟩,
    ⟨some 15, .call ⟨.builtin .len, #[.tmp 14], #[48]⟩, some (11, true), false⟩,
    ⟨some 16, .binOp .lss 3 (.tmp 13) (.tmp 15) 3, some (11, true), false⟩,
    ⟨some 17, .pick (.tmp 11) (.tmp 16) (.const (.bool false)), none, false⟩])
  (.cond (.tmp 17)
    (.draw [⟨some 18, .move (.tmp 5), none, false⟩,
      ⟨some 19, .fieldAddr 50 (.tmp 3) 2, none, false⟩,
      ⟨some 20, .load 3 (.tmp 19), none, false⟩,
      ⟨some 21, .move (.tmp 5), none, false⟩,
      ⟨some 22, .fieldAddr 50 (.tmp 3) 2, none, false⟩,
      ⟨some 23, .load 3 (.tmp 22), none, false⟩,
      ⟨some 24, .indexAddr 48 (.tmp 21) (.tmp 23), none, false⟩,
      ⟨some 25, .load 50 (.tmp 24), none, false⟩,
      ⟨some 26, .load 50 (.tmp 3), none, false⟩,
      ⟨some 27, .call ⟨.value (.func 48), #[.tmp 25, .tmp 26], #[50, 50]⟩, none, false⟩]
      [⟨some 28, .indexAddr 48 (.tmp 18) (.tmp 20), none, false⟩,
      ⟨none, .store 50 (.tmp 28) (.tmp 27), none, false⟩])
    .skip))
  (.seq (.region [⟨some 29, .move (.tmp 5), none, false⟩,
    ⟨some 4, .assign (.tmp 29), none, false⟩])
  .ret))))
def fn24 : PFn := ⟨30, [.tmp 4], pc24, false⟩
theorem fnOk24 : FnOk Try.prog 24 fn24 := ⟨⟨_, _, [], Try.func24, rfl, by kernel_rfl, rfl, rfl, of_decide_eq_true (by kernel_rfl)⟩⟩

def pc26L0 : PC :=
  (.seq (.region [⟨some 24, .binOp .lss 3 (.tmp 23) (.tmp 22) 3, none, false⟩])
  (.seq (.cond (.tmp 24)
    .skip
    (.exit 0))
  (.seq (.block 1 (.seq (.region [⟨some 25, .move (.tmp 23), none, false⟩,
    ⟨some 26, .indexAddr 48 (.tmp 21) (.tmp 23), none, false⟩,
    ⟨some 27, .load 50 (.tmp 26), none, false⟩,
    ⟨some 7, .alloc 50, none, false⟩,
    ⟨some 6, .assign (.tmp 25), none, false⟩,
    ⟨none, .store 50 (.tmp 7) (.tmp 27), none, false⟩])
  (.draw [⟨some 28, .move (.tmp 5), none, false⟩,
    ⟨some 29, .move (.tmp 6), none, false⟩,
    ⟨some 30, .move (.tmp 5), none, false⟩,
    ⟨some 31, .move (.tmp 6), none, false⟩,
    ⟨some 32, .indexAddr 48 (.tmp 30) (.tmp 31), none, false⟩,
    ⟨some 33, .load 50 (.tmp 32), none, false⟩,
    ⟨some 34, .load 50 (.tmp 7), none, false⟩,
    ⟨some 35, .call ⟨.value (.func 48), #[.tmp 33, .tmp 34], #[50, 50]⟩, none, false⟩]
    [⟨some 36, .indexAddr 48 (.tmp 28) (.tmp 29), none, false⟩,
    ⟨none, .store 50 (.tmp 36) (.tmp 35), none, false⟩])))
  (.region [⟨some 37, .binOp .add 3 (.tmp 23) (.const (.int .i64 1)) 3, none, false⟩,
    ⟨some 23, .move (.tmp 37), none, false⟩]))))
/-- prefect/vector.Join -/
def pc26 : PC :=
  (.seq (.region [⟨some 4, .assign (.const (.slice none 0 0)), none, false⟩])
  (.seq (.region [⟨some 8, .move (.tmp 0), none, false⟩,
    ⟨some 9, .call ⟨.value (.func 47), #[.tmp 8], #[48]⟩, none, false⟩,
    ⟨some 10, .move (.tmp 1), none, false⟩,
    ⟨some 11, .call ⟨.value (.func 47), #[.tmp 10], #[48]⟩, none, false⟩,
    ⟨some 0, .assign (.tmp 9), none, false⟩,
    ⟨some 1, .assign (.tmp 11), none, false⟩])
  (.seq (.seq (.region [⟨some 12, .move (.tmp 0), none, false⟩,
    ⟨some 13, .call ⟨.builtin .len, #[.tmp 12], #[48]⟩, none, false⟩,
    ⟨some 14, .move (.tmp 1), none, false⟩,
    ⟨some 15, .call ⟨.builtin .len, #[.tmp 14], #[48]⟩, none, false⟩,
    ⟨some 16, .binOp .lss 3 (.tmp 13) (.tmp 15) 3, none, false⟩])
  (.cond (.tmp 16)
    (.region [⟨some 17, .move (.tmp 1), none, false⟩,
      ⟨some 18, .move (.tmp 0), none, false⟩,
      ⟨some 0, .assign (.tmp 17), none, false⟩,
      ⟨some 1, .assign (.tmp 18), none, false⟩])
    .skip))
  (.seq (.region [⟨some 19, .move (.tmp 0), none, false⟩,
    ⟨some 20, .call ⟨.value (.func 46), #[.tmp 19], #[48]⟩, none, false⟩,
    ⟨some 5, .assign (.tmp 20), none, false⟩])
  (.seq (.seq (.region [⟨some 21, .move (.tmp 1), none, false⟩,
    ⟨some 22, .call ⟨.builtin .len, #[.tmp 21], #[48]⟩, none, false⟩,
    ⟨some 23, .move (.const (.int .i64 0)), none, false⟩])
  (.block 0 (.loop pc26L0)))
  (.seq (.region [⟨some 38, .move (.tmp 5), none, false⟩,
    ⟨some 4, .assign (.tmp 38), none, false⟩])
  .ret))))))
def fn26 : PFn := ⟨39, [.tmp 4], pc26, false⟩
theorem fnOk26 : FnOk Try.prog 26 fn26 := ⟨⟨_, _, [], Try.func26, rfl, by kernel_rfl, rfl, rfl, of_decide_eq_true (by kernel_rfl)⟩⟩

def pc28L0 : PC :=
  (.seq (.region [⟨some 18, .binOp .lss 3 (.tmp 17) (.tmp 16) 3, none, false⟩])
  (.seq (.cond (.tmp 18)
    .skip
    (.exit 0))
  (.seq (.block 1 (.seq (.region [⟨some 19, .move (.tmp 17), none, false⟩,
    ⟨some 6, .assign (.tmp 19), none, false⟩])
  (.seq (.region [⟨some 20, .move (.tmp 0), none, false⟩,
    ⟨some 21, .move (.tmp 6), none, false⟩,
    ⟨some 22, .indexAddr 48 (.tmp 20) (.tmp 21), none, false⟩,
    ⟨some 23, .load 50 (.tmp 22), none, false⟩,
    ⟨some 7, .alloc 50, none, false⟩,
    ⟨none, .store 50 (.tmp 7) (.tmp 23), none, false⟩])
  (.seq (.seq (.draw [⟨some 24, .move (.tmp 1), none, false⟩,
    ⟨some 25, .move (.tmp 6), none, false⟩,
    ⟨some 26, .indexAddr 48 (.tmp 24) (.tmp 25), none, false⟩,
    ⟨some 27, .load 50 (.tmp 26), none, false⟩,
    ⟨some 28, .load 50 (.tmp 7), none, false⟩]
    [⟨some 29, .call ⟨.value (.func 50), #[.tmp 27, .tmp 28], #[50, 50]⟩, none, false⟩,
    ⟨some 30, .binOp .lss 3 (.tmp 29) (.const (.int .i64 0)) 3, none, false⟩])
  (.cond (.tmp 30)
    (.region [⟨some 31, .move (.tmp 1), none, false⟩,
      ⟨some 32, .move (.tmp 6), none, false⟩,
      ⟨some 33, .indexAddr 48 (.tmp 31) (.tmp 32), none, false⟩,
      ⟨some 34, .load 50 (.tmp 33), none, false⟩,
      ⟨none, .store 50 (.tmp 7) (.tmp 34), none, false⟩])
    .skip))
  (.region [⟨some 35, .move (.tmp 5), none, false⟩,
    ⟨some 36, .load 50 (.tmp 7), none, false⟩,
    ⟨some 37, .buildSlice 48 1 #[(0, .tmp 36)], none, false⟩,
    ⟨some 38, .call ⟨.builtin .append, #[.tmp 35, .tmp 37], #[48, 48]⟩, none, false⟩,
    ⟨some 5, .assign (.tmp 38), none, false⟩])))))
  (.region [⟨some 39, .binOp .add 3 (.tmp 17) (.const (.int .i64 1)) 3, none, false⟩,
    ⟨some 17, .move (.tmp 39), none, false⟩]))))
/-- prefect/vector.Meet -/
def pc28 : PC :=
  (.seq (.region [⟨some 4, .assign (.const (.slice none 0 0)), none, false⟩])
  (.seq (.region [⟨some 8, .move (.tmp 0), none, false⟩,
    ⟨some 9, .call ⟨.value (.func 47), #[.tmp 8], #[48]⟩, none, false⟩,
    ⟨some 10, .move (.tmp 1), none, false⟩,
    ⟨some 11, .call ⟨.value (.func 47), #[.tmp 10], #[48]⟩, none, false⟩,
    ⟨some 0, .assign (.tmp 9), none, false⟩,
    ⟨some 1, .assign (.tmp 11), none, false⟩])
  (.seq (.region [⟨some 5, .assign (.const (.slice none 0 0)), none, false⟩])
  (.seq (.seq (.region [⟨some 12, .move (.tmp 0), none, false⟩,
    ⟨some 13, .call ⟨.builtin .len, #[.tmp 12], #[48]⟩, none, false⟩,
    ⟨some 14, .move (.tmp 1), none, false⟩,
    ⟨some 15, .call ⟨.builtin .len, #[.tmp 14], #[48]⟩, none, false⟩,
    ⟨some 16, .call ⟨.builtin .min, #[.tmp 13, .tmp 15], #[3, 3]⟩, none, false⟩,
    ⟨some 17, .move (.const (.int .i64 0)), none, false⟩])
  (.block 0 (.loop pc28L0)))
  (.seq (.region [⟨some 40, .move (.tmp 5), none, false⟩,
    ⟨some 4, .assign (.tmp 40), none, false⟩])
  .ret)))))
def fn28 : PFn := ⟨41, [.tmp 4], pc28, false⟩
theorem fnOk28 : FnOk Try.prog 28 fn28 := ⟨⟨_, _, [], Try.func28, rfl, by kernel_rfl, rfl, rfl, of_decide_eq_true (by kernel_rfl)⟩⟩

def pc30L0 : PC :=
  (.seq (.region [⟨some 14, .binOp .lss 3 (.tmp 13) (.tmp 12) 3, none, false⟩])
  (.seq (.cond (.tmp 14)
    .skip
    (.exit 0))
  (.seq (.block 1 (.seq (.region [⟨some 15, .move (.tmp 13), none, false⟩,
    ⟨some 16, .indexAddr 48 (.tmp 11) (.tmp 13), none, false⟩,
    ⟨some 17, .load 50 (.tmp 16), none, false⟩,
    ⟨some 6, .alloc 50, none, false⟩,
    ⟨some 5, .assign (.tmp 15), none, false⟩,
    ⟨none, .store 50 (.tmp 6) (.tmp 17), none, false⟩])
  (.seq (.draw [⟨some 18, .move (.tmp 5), none, false⟩,
    ⟨some 19, .move (.tmp 1), none, false⟩,
    ⟨some 20, .call ⟨.builtin .len, #[.tmp 19], #[48]⟩, none, false⟩,
    ⟨some 21, .binOp .geq 3 (.tmp 18) (.tmp 20) 3, none, false⟩,
    ⟨some 22, .move (.tmp 21), none, false⟩,
    ⟨some 23, .load 50 (.tmp 6), some (22, false), false⟩,
    ⟨some 24, .move (.tmp 1), some (22, false), false⟩,
    ⟨some 25, .move (.tmp 5), some (22, false), false⟩,
    ⟨some 26, .indexAddr 48 (.tmp 24) (.tmp 25), some (22, false), false⟩,
    ⟨some 27, .load 50 (.tmp 26), some (22, false), false⟩]
    [⟨some 28, .call ⟨.value (.func 50), #[.tmp 23, .tmp 27], #[50, 50]⟩, some (22, false), false⟩,
    ⟨some 29, .binOp .gtr 3 (.tmp 28) (.const (.int .i64 0)) 3, some (22, false), false⟩,
    ⟨some 30, .pick (.tmp 22) (.const (.bool true)) (.tmp 29), none, false⟩])
  (.cond (.tmp 30)
    (.seq (.region [⟨some 4, .assign (.const (.bool false)), none, false⟩])
    .ret)
    .skip))))
  (.region [⟨some 31, .binOp .add 3 (.tmp 13) (.const (.int .i64 1)) 3, none, false⟩,
    ⟨some 13, .move (.tmp 31), none, false⟩]))))
/-- prefect/vector.Leq -/
def pc30 : PC :=
  (.seq (.region [⟨some 4, .assign (.const (.bool false)), none, false⟩])
  (.seq (.region [⟨some 7, .move (.tmp 0), none, false⟩,
    ⟨some 8, .call ⟨.value (.func 47), #[.tmp 7], #[48]⟩, none, false⟩,
    ⟨some 9, .move (.tmp 1), none, false⟩,
    ⟨some 10, .call ⟨.value (.func 47), #[.tmp 9], #[48]⟩, none, false⟩,
    ⟨some 0, .assign (.tmp 8), none, false⟩,
    ⟨some 1, .assign (.tmp 10), none, false⟩])
  (.seq (.seq (.region [⟨some 11, .move (.tmp 0), none, false⟩,
    ⟨some 12, .call ⟨.builtin .len, #[.tmp 11], #[48]⟩, none, false⟩,
    ⟨some 13, .move (.const (.int .i64 0)), none, false⟩])
  (.block 0 (.loop pc30L0)))
  (.seq (.region [⟨some 4, .assign (.const (.bool true)), none, false⟩])
  .ret))))
def fn30 : PFn := ⟨32, [.tmp 4], pc30, false⟩
theorem fnOk30 : FnOk Try.prog 30 fn30 := ⟨⟨_, _, [], Try.func30, rfl, by kernel_rfl, rfl, rfl, of_decide_eq_true (by kernel_rfl)⟩⟩

/-- prefect/vector.Covers -/
def pc32 : PC :=
  (.seq (.region [⟨some 3, .box 50 (.tmp 1), none, false⟩,
    ⟨some 4, .assign (.const (.bool false)), none, false⟩])
  (.seq (.region [⟨some 5, .move (.tmp 0), none, false⟩,
    ⟨some 6, .call ⟨.value (.func 47), #[.tmp 5], #[48]⟩, none, false⟩,
    ⟨some 0, .assign (.tmp 6), none, false⟩])
  (.seq (.draw [⟨some 7, .fieldAddr 50 (.tmp 3) 2, none, false⟩,
    ⟨some 8, .load 3 (.tmp 7), none, false⟩,
    ⟨some 9, .binOp .geq 3 (.tmp 8) (.const (.int .i64 0)) 3, none, false⟩,
    ⟨some 10, .move (.tmp 9), none, false⟩,
    ⟨some 11, .fieldAddr 50 (.tmp 3) 2, some (10, true), false⟩,
    ⟨some 12, .load 3 (.tmp 11), some (10, true), false⟩,
    ⟨some 13, .move (.tmp 0), some (10, true), false⟩,
    ⟨some 14, .call ⟨.builtin .len, #[.tmp 13], #[48]⟩, some (10, true), false⟩,
    ⟨some 15, .binOp .lss 3 (.tmp 12) (.tmp 14) 3, some (10, true), false⟩,
    ⟨some 16, .pick (.tmp 10) (.tmp 15) (.const (.bool false)), none, false⟩,
    ⟨some 17, .move (.tmp 16), none, false⟩,
    ⟨some 18, .load 50 (.tmp 3), some (17, true), false⟩,
    ⟨some 19, .move (.tmp 0), some (17, true), false⟩,
    ⟨some 20, .fieldAddr 50 (.tmp 3) 2, some (17, true), false⟩,
    ⟨some 21, .load 3 (.tmp 20), some (17, true), false⟩,
    ⟨some 22, .indexAddr 48 (.tmp 19) (.tmp 21), some (17, true), false⟩,
    ⟨some 23, .load 50 (.tmp 22), some (17, true), false⟩]
    [⟨some 24, .call ⟨.value (.func 50), #[.tmp 18, .tmp 23], #[50, 50]⟩, some (17, true), false⟩,
    ⟨some 25, .binOp .leq 3 (.tmp 24) (.const (.int .i64 0)) 3, some (17, true), false⟩,
    ⟨some 26, .pick (.tmp 17) (.tmp 25) (.const (.bool false)), none, false⟩,
    ⟨some 4, .assign (.tmp 26), none, false⟩])
  .ret)))
def fn32 : PFn := ⟨27, [.tmp 4], pc32, false⟩
theorem fnOk32 : FnOk Try.prog 32 fn32 := ⟨⟨_, _, [], Try.func32, rfl, by kernel_rfl, rfl, rfl, of_decide_eq_true (by kernel_rfl)⟩⟩

def pc52L0 : PC :=
  (.seq (.seq (.region [⟨some 14, .move (.tmp 6), none, false⟩,
    ⟨some 15, .move (.tmp 0), none, false⟩,
    ⟨some 16, .call ⟨.builtin .len, #[.tmp 15], #[48]⟩, none, false⟩,
    ⟨some 17, .binOp .lss 3 (.tmp 14) (.tmp 16) 3, none, false⟩])
  (.cond (.tmp 17)
    .skip
    (.exit 0)))
  (.seq (.block 1 (.seq (.draw [⟨some 20, .move (.tmp 1), none, false⟩,
    ⟨some 21, .move (.tmp 0), none, false⟩,
    ⟨some 22, .move (.tmp 6), none, false⟩,
    ⟨some 23, .indexAddr 48 (.tmp 21) (.tmp 22), none, false⟩,
    ⟨some 24, .load 50 (.tmp 23), none, false⟩,
    ⟨some 25, .load 50 (.tmp 5), none, false⟩]
    [⟨some 26, .call ⟨.value (.tmp 20), #[.tmp 24, .tmp 25], #[50, 50]⟩, none, false⟩,
    ⟨some 27, .binOp .lss 3 (.tmp 26) (.const (.int .i64 0)) 3, none, false⟩])
  (.cond (.tmp 27)
    (.region [⟨some 28, .move (.tmp 0), none, false⟩,
      ⟨some 29, .move (.tmp 6), none, false⟩,
      ⟨some 30, .indexAddr 48 (.tmp 28) (.tmp 29), none, false⟩,
      ⟨some 31, .load 50 (.tmp 30), none, false⟩,
      ⟨none, .store 50 (.tmp 5) (.tmp 31), none, false⟩])
    .skip)))
  (.region [⟨some 18, .move (.tmp 6), none, false⟩,
    ⟨some 19, .binOp .add 3 (.tmp 18) (.const (.int .i64 1)) 3, none, false⟩,
    ⟨some 6, .assign (.tmp 19), none, false⟩])))
/-- slices.MinFunc[prefect/api.Vector,prefect/api.CSN] -/
def pc52 : PC :=
  (.seq (.region [⟨some 4, .alloc 50, none, false⟩])
  (.seq (.seq (.region [⟨some 7, .move (.tmp 0), none, false⟩,
    ⟨some 8, .call ⟨.builtin .len, #[.tmp 7], #[48]⟩, none, false⟩,
    ⟨some 9, .binOp .lss 3 (.tmp 8) (.const (.int .i64 1)) 3, none, false⟩])
  (.cond (.tmp 9)
    (.region [⟨some 10, .makeInterface 9 (.const (.string ⟨#[115, 108, 105, 99, 101, 115, 46, 77, 105, 110, 70, 117, 110, 99, 58, 32, 101, 109, 112, 116, 121, 32, 108, 105, 115, 116]⟩)), none, false⟩,
      ⟨none, .panic (.tmp 10), none, false⟩])
    .skip))
  (.seq (.region [⟨some 11, .move (.tmp 0), none, false⟩,
    ⟨some 12, .indexAddr 48 (.tmp 11) (.const (.int .i64 0)), none, false⟩,
    ⟨some 13, .load 50 (.tmp 12), none, false⟩,
    ⟨some 5, .alloc 50, none, false⟩,
    ⟨none, .store 50 (.tmp 5) (.tmp 13), none, false⟩])
  (.seq (.seq (.region [⟨some 6, .assign (.const (.int .i64 1)), none, false⟩])
  (.block 0 (.loop pc52L0)))
  (.seq (.region [⟨some 32, .load 50 (.tmp 5), none, false⟩,
    ⟨none, .store 50 (.tmp 4) (.tmp 32), none, false⟩])
  .ret)))))
def fn52 : PFn := ⟨33, [.cell 4 50], pc52, false⟩
theorem fnOk52 : FnOk Try.prog 52 fn52 := ⟨⟨_, _, [], Try.func52, rfl, by kernel_rfl, rfl, rfl, of_decide_eq_true (by kernel_rfl)⟩⟩

/-- prefect/vector.Least -/
def pc34 : PC :=
  (.seq (.region [⟨some 2, .alloc 50, none, false⟩])
  (.seq (.region [⟨some 3, .move (.tmp 0), none, false⟩,
    ⟨some 4, .call ⟨.value (.func 47), #[.tmp 3], #[48]⟩, none, false⟩,
    ⟨some 0, .assign (.tmp 4), none, false⟩])
  (.seq (.seq (.region [⟨some 5, .move (.tmp 0), none, false⟩,
    ⟨some 6, .call ⟨.builtin .len, #[.tmp 5], #[48]⟩, none, false⟩,
    ⟨some 7, .binOp .eql 3 (.tmp 6) (.const (.int .i64 0)) 3, none, false⟩])
  (.cond (.tmp 7)
    (.seq (.region [⟨some 8, .build 50 #[], none, false⟩,
      ⟨none, .store 50 (.tmp 2) (.tmp 8), none, false⟩])
    .ret)
    .skip))
  (.seq (.region [⟨some 9, .move (.tmp 0), none, false⟩,
    ⟨some 10, .call ⟨.value (.func 52), #[.tmp 9, .func 50], #[48, 76]⟩, none, false⟩,
    ⟨none, .store 50 (.tmp 2) (.tmp 10), none, false⟩])
  .ret))))
def fn34 : PFn := ⟨11, [.cell 2 50], pc34, false⟩
theorem fnOk34 : FnOk Try.prog 34 fn34 := ⟨⟨_, _, [], Try.func34, rfl, by kernel_rfl, rfl, rfl, of_decide_eq_true (by kernel_rfl)⟩⟩

def pc53L0 : PC :=
  (.seq (.region [⟨some 18, .binOp .lss 3 (.tmp 17) (.tmp 16) 3, none, false⟩])
  (.seq (.cond (.tmp 18)
    .skip
    (.exit 0))
  (.seq (.block 1 (.seq (.region [⟨some 19, .move (.tmp 17), none, false⟩,
    ⟨some 20, .indexAddr 48 (.tmp 15) (.tmp 17), none, false⟩,
    ⟨some 21, .load 50 (.tmp 20), none, false⟩,
    ⟨some 8, .alloc 50, none, false⟩,
    ⟨some 7, .assign (.tmp 19), none, false⟩,
    ⟨none, .store 50 (.tmp 8) (.tmp 21), none, false⟩])
  (.seq (.region [⟨some 22, .move (.tmp 1), none, false⟩,
    ⟨some 23, .move (.tmp 7), none, false⟩,
    ⟨some 24, .indexAddr 48 (.tmp 22) (.tmp 23), none, false⟩,
    ⟨some 25, .load 50 (.tmp 24), none, false⟩,
    ⟨some 9, .alloc 50, none, false⟩,
    ⟨none, .store 50 (.tmp 9) (.tmp 25), none, false⟩])
  (.seq (.region [⟨some 26, .move (.tmp 2), none, false⟩,
    ⟨some 27, .load 50 (.tmp 8), none, false⟩,
    ⟨some 28, .load 50 (.tmp 9), none, false⟩,
    ⟨some 29, .call ⟨.value (.tmp 26), #[.tmp 27, .tmp 28], #[50, 50]⟩, none, false⟩,
    ⟨some 30, .unOp .not 4 (.tmp 29), none, false⟩])
  (.cond (.tmp 30)
    (.seq (.region [⟨some 6, .assign (.const (.bool false)), none, false⟩])
    .ret)
    .skip)))))
  (.region [⟨some 31, .binOp .add 3 (.tmp 17) (.const (.int .i64 1)) 3, none, false⟩,
    ⟨some 17, .move (.tmp 31), none, false⟩]))))
/-- slices.EqualFunc[prefect/api.Vector,prefect/api.Vector,prefect/api.CSN,prefect/api.CSN] -/
def pc53 : PC :=
  (.seq (.region [⟨some 6, .assign (.const (.bool false)), none, false⟩])
  (.seq (.seq (.region [⟨some 10, .move (.tmp 0), none, false⟩,
    ⟨some 11, .call ⟨.builtin .len, #[.tmp 10], #[48]⟩, none, false⟩,
    ⟨some 12, .move (.tmp 1), none, false⟩,
    ⟨some 13, .call ⟨.builtin .len, #[.tmp 12], #[48]⟩, none, false⟩,
    ⟨some 14, .binOp .neq 3 (.tmp 11) (.tmp 13) 3, none, false⟩])
  (.cond (.tmp 14)
    (.seq (.region [⟨some 6, .assign (.const (.bool false)), none, false⟩])
    .ret)
    .skip))
  (.seq (.seq (.region [⟨some 15, .move (.tmp 0), none, false⟩,
    ⟨some 16, .call ⟨.builtin .len, #[.tmp 15], #[48]⟩, none, false⟩,
    ⟨some 17, .move (.const (.int .i64 0)), none, false⟩])
  (.block 0 (.loop pc53L0)))
  (.seq (.region [⟨some 6, .assign (.const (.bool true)), none, false⟩])
  .ret))))
def fn53 : PFn := ⟨32, [.tmp 6], pc53, false⟩
theorem fnOk53 : FnOk Try.prog 53 fn53 := ⟨⟨_, _, [], Try.func53, rfl, by kernel_rfl, rfl, rfl, of_decide_eq_true (by kernel_rfl)⟩⟩

/-- prefect/vector.Same -/
def pc36 : PC :=
  (.seq (.region [⟨some 4, .assign (.const (.bool false)), none, false⟩])
  (.seq (.region [⟨some 5, .move (.tmp 0), none, false⟩,
    ⟨some 6, .call ⟨.value (.func 47), #[.tmp 5], #[48]⟩, none, false⟩,
    ⟨some 7, .move (.tmp 1), none, false⟩,
    ⟨some 8, .call ⟨.value (.func 47), #[.tmp 7], #[48]⟩, none, false⟩,
    ⟨some 9, .call ⟨.value (.func 53), #[.tmp 6, .tmp 8, .func 54], #[48, 48, 79]⟩, none, false⟩,
    ⟨some 4, .assign (.tmp 9), none, false⟩])
  .ret))
def fn36 : PFn := ⟨10, [.tmp 4], pc36, false⟩
theorem fnOk36 : FnOk Try.prog 36 fn36 := ⟨⟨_, _, [], Try.func36, rfl, by kernel_rfl, rfl, rfl, of_decide_eq_true (by kernel_rfl)⟩⟩

/-- prefect/prefectlaw11.known -/
def pc18 : PC :=
  (.seq (.region [⟨some 0, .assign (.const (.bool false)), none, false⟩])
  (.seq (.region [⟨some 3, .call ⟨.value (.func 20), #[.const (.int .i64 2)], #[3]⟩, none, false⟩,
    ⟨some 1, .assign (.tmp 3), none, false⟩])
  (.seq (.region [⟨some 4, .move (.tmp 1), none, false⟩,
    ⟨some 5, .build 50 #[(0, .const (.int .i64 5)), (2, .const (.int .i64 1))], none, false⟩,
    ⟨some 6, .call ⟨.value (.func 24), #[.tmp 4, .tmp 5], #[48, 50]⟩, none, false⟩,
    ⟨some 2, .assign (.tmp 6), none, false⟩])
  (.seq (.region [⟨some 7, .move (.tmp 1), none, false⟩,
    ⟨some 8, .call ⟨.builtin .len, #[.tmp 7], #[48]⟩, none, false⟩,
    ⟨some 9, .binOp .eql 3 (.tmp 8) (.const (.int .i64 2)) 3, none, false⟩,
    ⟨some 10, .move (.tmp 9), none, false⟩,
    ⟨some 11, .move (.tmp 2), some (10, true), false⟩,
    ⟨some 12, .call ⟨.builtin .len, #[.tmp 11], #[48]⟩, some (10, true), false⟩,
    ⟨some 13, .binOp .eql 3 (.tmp 12) (.const (.int .i64 2)) 3, some (10, true), false⟩,
    ⟨some 14, .pick (.tmp 10) (.tmp 13) (.const (.bool false)), none, false⟩,
    ⟨some 15, .move (.tmp 14), none, false⟩,
    ⟨some 16, .move (.tmp 2), some (15, true), false⟩,
    ⟨some 17, .indexAddr 48 (.tmp 16) (.const (.int .i64 1)), some (15, true), false⟩,
    ⟨some 18, .fieldAddr 50 (.tmp 17) 0, some (15, true), false⟩,
    ⟨some 19, .load 2 (.tmp 18), some (15, true), false⟩,
    ⟨some 20, .binOp .eql 2 (.tmp 19) (.const (.int .i64 5)) 2, some (15, true), false⟩,
    ⟨some 21, .pick (.tmp 15) (.tmp 20) (.const (.bool false)), none, false⟩,
    ⟨some 22, .move (.tmp 21), none, false⟩,
    ⟨some 23, .move (.tmp 1), some (22, true), false⟩,
    ⟨some 24, .indexAddr 48 (.tmp 23) (.const (.int .i64 1)), some (22, true), false⟩,
    ⟨some 25, .fieldAddr 50 (.tmp 24) 0, some (22, true), false⟩,
    ⟨some 26, .load 2 (.tmp 25), some (22, true), false⟩,
    ⟨some 27, .binOp .eql 2 (.tmp 26) (.const (.int .i64 0)) 2, some (22, true), false⟩,
    ⟨some 28, .pick (.tmp 22) (.tmp 27) (.const (.bool false)), none, false⟩,
    ⟨some 29, .move (.tmp 28), none, false⟩,
    ⟨some 30, .move (.tmp 1), some (29, true), false⟩,
    ⟨some 31, .move (.tmp 2), some (29, true), false⟩,
    ⟨some 32, .call ⟨.value (.func 30), #[.tmp 30, .tmp 31], #[48, 48]⟩, some (29, true), false⟩,
    ⟨some 33, .pick (.tmp 29) (.tmp 32) (.const (.bool false)), none, false⟩,
    ⟨some 34, .move (.tmp 33), none, false⟩,
    ⟨some 35, .move (.tmp 2), some (34, true), false⟩,
    ⟨some 36, .move (.tmp 1), some (34, true), false⟩,
    ⟨some 37, .call ⟨.value (.func 30), #[.tmp 35, .tmp 36], #[48, 48]⟩, some (34, true), false⟩,
    ⟨some 38, .unOp .not 4 (.tmp 37), some (34, true), false⟩,
    ⟨some 39, .pick (.tmp 34) (.tmp 38) (.const (.bool false)), none, false⟩,
    ⟨some 40, .move (.tmp 39), none, false⟩,
    ⟨some 41, .move (.tmp 2), some (40, true), false⟩,
    ⟨some 42, .build 50 #[(0, .const (.int .i64 5)), (2, .const (.int .i64 1))], some (40, true), false⟩,
    ⟨some 43, .call ⟨.value (.func 32), #[.tmp 41, .tmp 42], #[48, 50]⟩, some (40, true), false⟩,
    ⟨some 44, .pick (.tmp 40) (.tmp 43) (.const (.bool false)), none, false⟩,
    ⟨some 45, .move (.tmp 44), none, false⟩,
    ⟨some 46, .move (.tmp 2), some (45, true), false⟩,
    ⟨some 47, .build 50 #[(0, .const (.int .i64 6)), (2, .const (.int .i64 1))], some (45, true), false⟩,
    ⟨some 48, .call ⟨.value (.func 32), #[.tmp 46, .tmp 47], #[48, 50]⟩, some (45, true), false⟩,
    ⟨some 49, .unOp .not 4 (.tmp 48), some (45, true), false⟩,
    ⟨some 50, .pick (.tmp 45) (.tmp 49) (.const (.bool false)), none, false⟩,
    ⟨some 51, .move (.tmp 50), none, false⟩,
    ⟨some 52, .move (.tmp 2), some (51, true), false⟩,
    ⟨some 53, .call ⟨.value (.func 34), #[.tmp 52], #[48]⟩, some (51, true), false⟩,
    ⟨some 54, .build 50 #[], some (51, true), false⟩,
    ⟨some 55, .binOp .eql 50 (.tmp 53) (.tmp 54) 50, some (51, true), false⟩,
    ⟨some 56, .pick (.tmp 51) (.tmp 55) (.const (.bool false)), none, false⟩,
    ⟨some 57, .move (.tmp 56), none, false⟩,
    ⟨some 58, .move (.tmp 2), some (57, true), false⟩,
    ⟨some 59, .call ⟨.value (.func 22), #[.tmp 58], #[48]⟩, some (57, true), false⟩,
    ⟨some 60, .pick (.tmp 57) (.tmp 59) (.const (.bool false)), none, false⟩,
    ⟨some 61, .move (.tmp 60), none, false⟩,
    ⟨some 62, .move (.tmp 1), some (61, true), false⟩,
    ⟨some 63, .move (.tmp 2), some (61, true), false⟩,
    ⟨some 64, .call ⟨.value (.func 26), #[.tmp 62, .tmp 63], #[48, 48]⟩, some (61, true), false⟩,
    ⟨some 65, .move (.tmp 2), some (61, true), false⟩,
    ⟨some 66, .call ⟨.value (.func 36), #[.tmp 64, .tmp 65], #[48, 48]⟩, some (61, true), false⟩,
    ⟨some 67, .pick (.tmp 61) (.tmp 66) (.const (.bool false)), none, false⟩,
    ⟨some 68, .move (.tmp 67), none, false⟩,
    ⟨some 69, .move (.tmp 1), some (68, true), false⟩,
    ⟨some 70, .move (.tmp 2), some (68, true), false⟩,
    ⟨some 71, .call ⟨.value (.func 28), #[.tmp 69, .tmp 70], #[48, 48]⟩, some (68, true), false⟩,
    ⟨some 72, .move (.tmp 1), some (68, true), false⟩,
    ⟨some 73, .call ⟨.value (.func 36), #[.tmp 71, .tmp 72], #[48, 48]⟩, some (68, true), false⟩,
    ⟨some 74, .pick (.tmp 68) (.tmp 73) (.const (.bool false)), none, false⟩,
    ⟨some 0, .assign (.tmp 74), none, false⟩])
  .ret))))
def fn18 : PFn := ⟨75, [.tmp 0], pc18, false⟩
theorem fnOk18 : FnOk Try.prog 18 fn18 := ⟨⟨_, _, [], Try.func18, rfl, by kernel_rfl, rfl, rfl, of_decide_eq_true (by kernel_rfl)⟩⟩

def pc19L0 : PC :=
  (.seq (.seq (.region [⟨some 11, .move (.tmp 5), none, false⟩,
    ⟨some 12, .move (.tmp 0), none, false⟩,
    ⟨some 13, .call ⟨.builtin .len, #[.tmp 12], #[48]⟩, none, false⟩,
    ⟨some 14, .binOp .lss 3 (.tmp 11) (.tmp 13) 3, none, false⟩])
  (.cond (.tmp 14)
    .skip
    (.exit 0)))
  (.seq (.block 1 (.seq (.draw [⟨some 17, .move (.tmp 0), none, false⟩,
    ⟨some 18, .move (.tmp 5), none, false⟩,
    ⟨some 19, .indexAddr 48 (.tmp 17) (.tmp 18), none, false⟩,
    ⟨some 20, .load 50 (.tmp 19), none, false⟩,
    ⟨some 21, .move (.tmp 1), none, false⟩,
    ⟨some 22, .move (.tmp 5), none, false⟩,
    ⟨some 23, .indexAddr 48 (.tmp 21) (.tmp 22), none, false⟩,
    ⟨some 24, .load 50 (.tmp 23), none, false⟩]
    [⟨some 25, .binOp .neq 50 (.tmp 20) (.tmp 24) 50, none, false⟩])
  (.cond (.tmp 25)
    (.seq (.region [⟨some 4, .assign (.const (.bool false)), none, false⟩])
    .ret)
    .skip)))
  (.region [⟨some 15, .move (.tmp 5), none, false⟩,
    ⟨some 16, .binOp .add 3 (.tmp 15) (.const (.int .i64 1)) 3, none, false⟩,
    ⟨some 5, .assign (.tmp 16), none, false⟩])))
/-- prefect/prefectref10.Equal -/
def pc19 : PC :=
  (.seq (.region [⟨some 4, .assign (.const (.bool false)), none, false⟩])
  (.seq (.seq (.region [⟨some 6, .move (.tmp 0), none, false⟩,
    ⟨some 7, .call ⟨.builtin .len, #[.tmp 6], #[48]⟩, none, false⟩,
    ⟨some 8, .move (.tmp 1), none, false⟩,
    ⟨some 9, .call ⟨.builtin .len, #[.tmp 8], #[48]⟩, none, false⟩,
    ⟨some 10, .binOp .neq 3 (.tmp 7) (.tmp 9) 3, none, false⟩])
  (.cond (.tmp 10)
    (.seq (.region [⟨some 4, .assign (.const (.bool false)), none, false⟩])
    .ret)
    .skip))
  (.seq (.seq (.region [⟨some 5, .assign (.const (.int .i64 0)), none, false⟩])
  (.block 0 (.loop pc19L0)))
  (.seq (.region [⟨some 4, .assign (.const (.bool true)), none, false⟩])
  .ret))))
def fn19 : PFn := ⟨26, [.tmp 4], pc19, false⟩
theorem fnOk19 : FnOk Try.prog 19 fn19 := ⟨⟨_, _, [], Try.func19, rfl, by kernel_rfl, rfl, rfl, of_decide_eq_true (by kernel_rfl)⟩⟩

def pc21L0 : PC :=
  (.seq (.seq (.region [⟨some 5, .move (.tmp 4), none, false⟩,
    ⟨some 6, .move (.tmp 0), none, false⟩,
    ⟨some 7, .call ⟨.builtin .min, #[.tmp 6, .const (.int .i64 6)], #[3, 3]⟩, none, false⟩,
    ⟨some 8, .binOp .lss 3 (.tmp 5) (.tmp 7) 3, none, false⟩])
  (.cond (.tmp 8)
    .skip
    (.exit 0)))
  (.seq (.block 1 (.region [⟨some 11, .move (.tmp 3), none, false⟩,
    ⟨some 12, .move (.tmp 4), none, false⟩,
    ⟨some 13, .build 50 #[(2, .tmp 12)], none, false⟩,
    ⟨some 14, .buildSlice 48 1 #[(0, .tmp 13)], none, false⟩,
    ⟨some 15, .call ⟨.builtin .append, #[.tmp 11, .tmp 14], #[48, 48]⟩, none, false⟩,
    ⟨some 3, .assign (.tmp 15), none, false⟩]))
  (.region [⟨some 9, .move (.tmp 4), none, false⟩,
    ⟨some 10, .binOp .add 3 (.tmp 9) (.const (.int .i64 1)) 3, none, false⟩,
    ⟨some 4, .assign (.tmp 10), none, false⟩])))
/-- prefect/prefectref10.New -/
def pc21 : PC :=
  (.seq (.region [⟨some 2, .assign (.const (.slice none 0 0)), none, false⟩])
  (.seq (.region [⟨some 3, .assign (.const (.slice none 0 0)), none, false⟩])
  (.seq (.seq (.region [⟨some 4, .assign (.const (.int .i64 0)), none, false⟩])
  (.block 0 (.loop pc21L0)))
  (.seq (.region [⟨some 16, .move (.tmp 3), none, false⟩,
    ⟨some 2, .assign (.tmp 16), none, false⟩])
  .ret))))
def fn21 : PFn := ⟨17, [.tmp 2], pc21, false⟩
theorem fnOk21 : FnOk Try.prog 21 fn21 := ⟨⟨_, _, [], Try.func21, rfl, by kernel_rfl, rfl, rfl, of_decide_eq_true (by kernel_rfl)⟩⟩

/-- prefect/prefectref10.Is -/
def pc45 : PC :=
  (.seq (.region [⟨some 1, .box 50 (.tmp 0), none, false⟩,
    ⟨some 2, .assign (.const (.bool false)), none, false⟩])
  (.seq (.region [⟨some 3, .fieldAddr 50 (.tmp 1) 0, none, false⟩,
    ⟨some 4, .load 2 (.tmp 3), none, false⟩,
    ⟨some 5, .binOp .geq 2 (.tmp 4) (.const (.int .i64 0)) 2, none, false⟩,
    ⟨some 6, .move (.tmp 5), none, false⟩,
    ⟨some 7, .fieldAddr 50 (.tmp 1) 0, some (6, true), false⟩,
    ⟨some 8, .load 2 (.tmp 7), some (6, true), false⟩,
    ⟨some 9, .binOp .leq 2 (.tmp 8) (.const (.int .i64 1099511627776)) 2, some (6, true), false⟩,
    ⟨some 10, .pick (.tmp 6) (.tmp 9) (.const (.bool false)), none, false⟩,
    ⟨some 11, .move (.tmp 10), none, false⟩,
    ⟨some 12, .fieldAddr 50 (.tmp 1) 1, some (11, true), false⟩,
    ⟨some 13, .load 3 (.tmp 12), some (11, true), false⟩,
    ⟨some 14, .binOp .geq 3 (.tmp 13) (.const (.int .i64 0)) 3, some (11, true), false⟩,
    ⟨some 15, .pick (.tmp 11) (.tmp 14) (.const (.bool false)), none, false⟩,
    ⟨some 16, .move (.tmp 15), none, false⟩,
    ⟨some 17, .fieldAddr 50 (.tmp 1) 1, some (16, true), false⟩,
    ⟨some 18, .load 3 (.tmp 17), some (16, true), false⟩,
    ⟨some 19, .binOp .leq 3 (.tmp 18) (.const (.int .i64 65535)) 3, some (16, true), false⟩,
    ⟨some 20, .pick (.tmp 16) (.tmp 19) (.const (.bool false)), none, false⟩,
    ⟨some 21, .move (.tmp 20), none, false⟩,
    ⟨some 22, .fieldAddr 50 (.tmp 1) 2, some (21, true), false⟩,
    ⟨some 23, .load 3 (.tmp 22), some (21, true), false⟩,
    ⟨some 24, .binOp .geq 3 (.tmp 23) (.const (.int .i64 0)) 3, some (21, true), false⟩,
    ⟨some 25, .pick (.tmp 21) (.tmp 24) (.const (.bool false)), none, false⟩,
    ⟨some 26, .move (.tmp 25), none, false⟩,
    ⟨some 27, .fieldAddr 50 (.tmp 1) 2, some (26, true), false⟩,
    ⟨some 28, .load 3 (.tmp 27), some (26, true), false⟩,
    ⟨some 29, .binOp .lss 3 (.tmp 28) (.const (.int .i64 6)) 3, some (26, true), false⟩,
    ⟨some 30, .pick (.tmp 26) (.tmp 29) (.const (.bool false)), none, false⟩,
    ⟨some 2, .assign (.tmp 30), none, false⟩])
  .ret))
def fn45 : PFn := ⟨31, [.tmp 2], pc45, false⟩
theorem fnOk45 : FnOk Try.prog 45 fn45 := ⟨⟨_, _, [], Try.func45, rfl, by kernel_rfl, rfl, rfl, of_decide_eq_true (by kernel_rfl)⟩⟩

def pc23L0 : PC :=
  (.seq (.seq (.region [⟨some 4, .move (.tmp 3), none, false⟩,
    ⟨some 5, .move (.tmp 0), none, false⟩,
    ⟨some 6, .call ⟨.builtin .len, #[.tmp 5], #[48]⟩, none, false⟩,
    ⟨some 7, .binOp .lss 3 (.tmp 4) (.tmp 6) 3, none, false⟩])
  (.cond (.tmp 7)
    .skip
    (.exit 0)))
  (.seq (.block 1 (.seq (.region [⟨some 10, .move (.tmp 0), none, false⟩,
    ⟨some 11, .move (.tmp 3), none, false⟩,
    ⟨some 12, .indexAddr 48 (.tmp 10) (.tmp 11), none, false⟩,
    ⟨some 13, .load 50 (.tmp 12), none, false⟩,
    ⟨some 14, .call ⟨.value (.func 45), #[.tmp 13], #[50]⟩, none, false⟩,
    ⟨some 15, .unOp .not 4 (.tmp 14), none, false⟩,
    ⟨some 16, .move (.tmp 15), none, false⟩,
    ⟨some 17, .move (.tmp 0), some (16, false), false⟩,
    ⟨some 18, .move (.tmp 3), some (16, false), false⟩,
    ⟨some 19, .indexAddr 48 (.tmp 17) (.tmp 18), some (16, false), false⟩,
    ⟨some 20, .fieldAddr 50 (.tmp 19) 2, some (16, false), false⟩,
    ⟨some 21, .load 3 (.tmp 20), some (16, false), false⟩,
    ⟨some 22, .move (.tmp 3), some (16, false), false⟩,
    ⟨some 23, .binOp .neq 3 (.tmp 21) (.tmp 22) 3, some (16, false), false⟩,
    ⟨some 24, .pick (.tmp 16) (.const (.bool true)) (.tmp 23), none, false⟩])
  (.cond (.tmp 24)
    (.seq (.region [⟨some 2, .assign (.const (.bool false)), none, false⟩])
    .ret)
    .skip)))
  (.region [⟨some 8, .move (.tmp 3), none, false⟩,
    ⟨some 9, .binOp .add 3 (.tmp 8) (.const (.int .i64 1)) 3, none, false⟩,
    ⟨some 3, .assign (.tmp 9), none, false⟩])))
/-- prefect/prefectref10.IsVector -/
def pc23 : PC :=
  (.seq (.region [⟨some 2, .assign (.const (.bool false)), none, false⟩])
  (.seq (.seq (.region [⟨some 3, .assign (.const (.int .i64 0)), none, false⟩])
  (.block 0 (.loop pc23L0)))
  (.seq (.region [⟨some 25, .move (.tmp 0), none, false⟩,
    ⟨some 26, .call ⟨.builtin .len, #[.tmp 25], #[48]⟩, none, false⟩,
    ⟨some 27, .binOp .leq 3 (.tmp 26) (.const (.int .i64 6)) 3, none, false⟩,
    ⟨some 2, .assign (.tmp 27), none, false⟩])
  .ret)))
def fn23 : PFn := ⟨28, [.tmp 2], pc23, false⟩
theorem fnOk23 : FnOk Try.prog 23 fn23 := ⟨⟨_, _, [], Try.func23, rfl, by kernel_rfl, rfl, rfl, of_decide_eq_true (by kernel_rfl)⟩⟩

/-- prefect/prefectref10.Own -/
def pc37 : PC :=
  (.seq (.region [⟨some 2, .assign (.const (.slice none 0 0)), none, false⟩])
  (.seq (.seq (.region [⟨some 3, .move (.tmp 0), none, false⟩,
    ⟨some 4, .call ⟨.value (.func 23), #[.tmp 3], #[48]⟩, none, false⟩,
    ⟨some 5, .unOp .not 4 (.tmp 4), none, false⟩])
  (.cond (.tmp 5)
    (.seq (.region [⟨some 2, .assign (.const (.slice none 0 0)), none, false⟩])
    .ret)
    .skip))
  (.seq (.region [⟨some 6, .move (.tmp 0), none, false⟩,
    ⟨some 7, .call ⟨.builtin .append, #[.const (.slice none 0 0), .tmp 6], #[48, 48]⟩, none, true⟩,
    ⟨some 2, .assign (.tmp 7), none, false⟩])
  .ret)))
def fn37 : PFn := ⟨8, [.tmp 2], pc37, true⟩
theorem fnOk37 : FnOk Try.prog 37 fn37 := ⟨⟨_, _, [1000007], Try.func37, rfl, by kernel_rfl, rfl, rfl, of_decide_eq_true (by kernel_rfl)⟩⟩

/-- prefect/prefectref10.Cmp -/
def pc51 : PC :=
  (.seq (.region [⟨some 2, .box 50 (.tmp 0), none, false⟩,
    ⟨some 3, .box 50 (.tmp 1), none, false⟩,
    ⟨some 4, .assign (.const (.int .i64 0)), none, false⟩])
  (.seq (.block 0 (.seq (.region [⟨some 6, .fieldAddr 50 (.tmp 2) 0, none, false⟩,
    ⟨some 7, .load 2 (.tmp 6), none, false⟩,
    ⟨some 8, .fieldAddr 50 (.tmp 3) 0, none, false⟩,
    ⟨some 9, .load 2 (.tmp 8), none, false⟩,
    ⟨some 10, .binOp .lss 2 (.tmp 7) (.tmp 9) 2, none, false⟩,
    ⟨some 11, .move (.tmp 10), none, false⟩,
    ⟨some 12, .fieldAddr 50 (.tmp 2) 0, some (11, false), false⟩,
    ⟨some 13, .load 2 (.tmp 12), some (11, false), false⟩,
    ⟨some 14, .fieldAddr 50 (.tmp 3) 0, some (11, false), false⟩,
    ⟨some 15, .load 2 (.tmp 14), some (11, false), false⟩,
    ⟨some 16, .binOp .eql 2 (.tmp 13) (.tmp 15) 2, some (11, false), false⟩,
    ⟨some 17, .move (.tmp 16), some (11, false), false⟩,
    ⟨some 18, .fieldAddr 50 (.tmp 2) 1, some (17, true), false⟩,
    ⟨some 19, .load 3 (.tmp 18), some (17, true), false⟩,
    ⟨some 20, .fieldAddr 50 (.tmp 3) 1, some (17, true), false⟩,
    ⟨some 21, .load 3 (.tmp 20), some (17, true), false⟩,
    ⟨some 22, .binOp .lss 3 (.tmp 19) (.tmp 21) 3, some (17, true), false⟩,
    ⟨some 23, .move (.tmp 22), some (17, true), false⟩,
    ⟨some 24, .fieldAddr 50 (.tmp 2) 1, some (23, false), false⟩,
    ⟨some 25, .load 3 (.tmp 24), some (23, false), false⟩,
    ⟨some 26, .fieldAddr 50 (.tmp 3) 1, some (23, false), false⟩,
    ⟨some 27, .load 3 (.tmp 26), some (23, false), false⟩,
    ⟨some 28, .binOp .eql 3 (.tmp 25) (.tmp 27) 3, some (23, false), false⟩,
    ⟨some 29, .move (.tmp 28), some (23, false), false⟩,
    ⟨some 30, .fieldAddr 50 (.tmp 2) 2, some (29, true), false⟩,
    ⟨some 31, .load 3 (.tmp 30), some (29, true), false⟩,
    ⟨some 32, .fieldAddr 50 (.tmp 3) 2, some (29, true), false⟩,
    ⟨some 33, .load 3 (.tmp 32), some (29, true), false⟩,
    ⟨some 34, .binOp .lss 3 (.tmp 31) (.tmp 33) 3, some (29, true), false⟩,
    ⟨some 35, .pick (.tmp 29) (.tmp 34) (.const (.bool false)), some (23, false), false⟩,
    ⟨some 36, .pick (.tmp 23) (.const (.bool true)) (.tmp 35), some (17, true), false⟩,
    ⟨some 37, .pick (.tmp 17) (.tmp 36) (.const (.bool false)), some (11, false), false⟩,
    ⟨some 38, .pick (.tmp 11) (.const (.bool true)) (.tmp 37), none, false⟩,
    ⟨some 5, .assign (.tmp 38), none, false⟩])
  (.cond (.tmp 5)
    (.seq (.region [⟨some 4, .assign (.const (.int .i64 (-1))), none, false⟩])
    .ret)
    (.seq (.region [⟨some 40, .load 50 (.tmp 2), none, false⟩,
      ⟨some 41, .load 50 (.tmp 3), none, false⟩,
      ⟨some 42, .binOp .eql 50 (.tmp 40) (.tmp 41) 50, none, false⟩,
      ⟨some 39, .assign (.tmp 42), none, false⟩])
    (.cond (.tmp 39)
      (.seq (.region [⟨some 4, .assign (.const (.int .i64 0)), none, false⟩])
      .ret)
      .skip)))))
  (.seq (.region [⟨some 4, .assign (.const (.int .i64 1)), none, false⟩])
  .ret)))
def fn51 : PFn := ⟨43, [.tmp 4], pc51, false⟩
theorem fnOk51 : FnOk Try.prog 51 fn51 := ⟨⟨_, _, [], Try.func51, rfl, by kernel_rfl, rfl, rfl, of_decide_eq_true (by kernel_rfl)⟩⟩

/-- prefect/prefectref10.Greater -/
def pc49 : PC :=
  (.seq (.region [⟨some 2, .box 50 (.tmp 0), none, false⟩,
    ⟨some 3, .box 50 (.tmp 1), none, false⟩,
    ⟨some 4, .alloc 50, none, false⟩])
  (.seq (.seq (.region [⟨some 5, .load 50 (.tmp 2), none, false⟩,
    ⟨some 6, .load 50 (.tmp 3), none, false⟩,
    ⟨some 7, .call ⟨.value (.func 51), #[.tmp 5, .tmp 6], #[50, 50]⟩, none, false⟩,
    ⟨some 8, .binOp .geq 3 (.tmp 7) (.const (.int .i64 0)) 3, none, false⟩])
  (.cond (.tmp 8)
    (.seq (.region [⟨some 9, .load 50 (.tmp 2), none, false⟩,
      ⟨none, .store 50 (.tmp 4) (.tmp 9), none, false⟩])
    .ret)
    .skip))
  (.seq (.region [⟨some 10, .load 50 (.tmp 3), none, false⟩,
    ⟨none, .store 50 (.tmp 4) (.tmp 10), none, false⟩])
  .ret)))
def fn49 : PFn := ⟨11, [.cell 4 50], pc49, false⟩
theorem fnOk49 : FnOk Try.prog 49 fn49 := ⟨⟨_, _, [], Try.func49, rfl, by kernel_rfl, rfl, rfl, of_decide_eq_true (by kernel_rfl)⟩⟩

/-- prefect/prefectref10.Raise -/
def pc25 : PC :=
  (.seq (.region [⟨some 3, .box 50 (.tmp 1), none, false⟩,
    ⟨some 4, .assign (.const (.slice none 0 0)), none, false⟩])
  (.seq (.region [⟨some 6, .move (.tmp 0), none, false⟩,
    ⟨some 7, .call ⟨.value (.func 37), #[.tmp 6], #[48]⟩, none, false⟩,
    ⟨some 5, .assign (.tmp 7), none, false⟩])
  (.seq (.seq (.region [⟨some 8, .load 50 (.tmp 3), none, false⟩,
    ⟨some 9, .call ⟨.value (.func 45), #[.tmp 8], #[50]⟩, none, false⟩,
    ⟨some 10, .move (.tmp 9), none, false⟩,
    ⟨some 11, .fieldAddr 50 (.tmp 3) 2, some (10, true), false⟩,
    ⟨some 12, .load 3 (.tmp 11), some (10, true), false⟩,
    ⟨some 13, .move (.tmp 5), some (10, true), false⟩,
    ⟨some 14, .call ⟨.builtin .len, #[.tmp 13], #[48]⟩, some (10, true), false⟩,
    ⟨some 15, .binOp .lss 3 (.tmp 12) (.tmp 14) 3, some (10, true), false⟩,
    ⟨some 16, .pick (.tmp 10) (.tmp 15) (.const (.bool false)), none, false⟩])
  (.cond (.tmp 16)
    (.draw [⟨some 17, .move (.tmp 5), none, false⟩,
      ⟨some 18, .fieldAddr 50 (.tmp 3) 2, none, false⟩,
      ⟨some 19, .load 3 (.tmp 18), none, false⟩,
      ⟨some 20, .move (.tmp 5), none, false⟩,
      ⟨some 21, .fieldAddr 50 (.tmp 3) 2, none, false⟩,
      ⟨some 22, .load 3 (.tmp 21), none, false⟩,
      ⟨some 23, .indexAddr 48 (.tmp 20) (.tmp 22), none, false⟩,
      ⟨some 24, .load 50 (.tmp 23), none, false⟩,
      ⟨some 25, .load 50 (.tmp 3), none, false⟩,
      ⟨some 26, .call ⟨.value (.func 49), #[.tmp 24, .tmp 25], #[50, 50]⟩, none, false⟩]
      [⟨some 27, .indexAddr 48 (.tmp 17) (.tmp 19), none, false⟩,
      ⟨none, .store 50 (.tmp 27) (.tmp 26), none, false⟩])
    .skip))
  (.seq (.region [⟨some 28, .move (.tmp 5), none, false⟩,
    ⟨some 4, .assign (.tmp 28), none, false⟩])
  .ret))))
def fn25 : PFn := ⟨29, [.tmp 4], pc25, false⟩
theorem fnOk25 : FnOk Try.prog 25 fn25 := ⟨⟨_, _, [], Try.func25, rfl, by kernel_rfl, rfl, rfl, of_decide_eq_true (by kernel_rfl)⟩⟩

def pc27L0 : PC :=
  (.seq (.seq (.region [⟨some 12, .move (.tmp 7), none, false⟩,
    ⟨some 13, .move (.tmp 6), none, false⟩,
    ⟨some 14, .call ⟨.builtin .len, #[.tmp 13], #[48]⟩, none, false⟩,
    ⟨some 15, .binOp .lss 3 (.tmp 12) (.tmp 14) 3, none, false⟩])
  (.cond (.tmp 15)
    .skip
    (.exit 0)))
  (.seq (.block 1 (.seq (.region [⟨some 18, .move (.tmp 7), none, false⟩,
    ⟨some 19, .move (.tmp 5), none, false⟩,
    ⟨some 20, .call ⟨.builtin .len, #[.tmp 19], #[48]⟩, none, false⟩,
    ⟨some 21, .binOp .lss 3 (.tmp 18) (.tmp 20) 3, none, false⟩])
  (.cond (.tmp 21)
    (.draw [⟨some 22, .move (.tmp 5), none, false⟩,
      ⟨some 23, .move (.tmp 7), none, false⟩,
      ⟨some 24, .move (.tmp 5), none, false⟩,
      ⟨some 25, .move (.tmp 7), none, false⟩,
      ⟨some 26, .indexAddr 48 (.tmp 24) (.tmp 25), none, false⟩,
      ⟨some 27, .load 50 (.tmp 26), none, false⟩,
      ⟨some 28, .move (.tmp 6), none, false⟩,
      ⟨some 29, .move (.tmp 7), none, false⟩,
      ⟨some 30, .indexAddr 48 (.tmp 28) (.tmp 29), none, false⟩,
      ⟨some 31, .load 50 (.tmp 30), none, false⟩,
      ⟨some 32, .call ⟨.value (.func 49), #[.tmp 27, .tmp 31], #[50, 50]⟩, none, false⟩]
      [⟨some 33, .indexAddr 48 (.tmp 22) (.tmp 23), none, false⟩,
      ⟨none, .store 50 (.tmp 33) (.tmp 32), none, false⟩])
    (.region [⟨some 34, .move (.tmp 5), none, false⟩,
      ⟨some 35, .move (.tmp 6), none, false⟩,
      ⟨some 36, .move (.tmp 7), none, false⟩,
      ⟨some 37, .indexAddr 48 (.tmp 35) (.tmp 36), none, false⟩,
      ⟨some 38, .load 50 (.tmp 37), none, false⟩,
      ⟨some 39, .buildSlice 48 1 #[(0, .tmp 38)], none, false⟩,
      ⟨some 40, .call ⟨.builtin .append, #[.tmp 34, .tmp 39], #[48, 48]⟩, none, true⟩,
      ⟨some 5, .assign (.tmp 40), none, false⟩]))))
  (.region [⟨some 16, .move (.tmp 7), none, false⟩,
    ⟨some 17, .binOp .add 3 (.tmp 16) (.const (.int .i64 1)) 3, none, false⟩,
    ⟨some 7, .assign (.tmp 17), none, false⟩])))
/-- prefect/prefectref10.Join -/
def pc27 : PC :=
  (.seq (.region [⟨some 4, .assign (.const (.slice none 0 0)), none, false⟩])
  (.seq (.region [⟨some 8, .move (.tmp 0), none, false⟩,
    ⟨some 9, .call ⟨.value (.func 37), #[.tmp 8], #[48]⟩, none, false⟩,
    ⟨some 10, .move (.tmp 1), none, false⟩,
    ⟨some 11, .call ⟨.value (.func 37), #[.tmp 10], #[48]⟩, none, false⟩,
    ⟨some 5, .assign (.tmp 9), none, false⟩,
    ⟨some 6, .assign (.tmp 11), none, false⟩])
  (.seq (.seq (.region [⟨some 7, .assign (.const (.int .i64 0)), none, false⟩])
  (.block 0 (.loop pc27L0)))
  (.seq (.region [⟨some 41, .move (.tmp 5), none, false⟩,
    ⟨some 4, .assign (.tmp 41), none, false⟩])
  .ret))))
def fn27 : PFn := ⟨42, [.tmp 4], pc27, false⟩
theorem fnOk27 : FnOk Try.prog 27 fn27 := ⟨⟨_, _, [1000040], Try.func27, rfl, by kernel_rfl, rfl, rfl, of_decide_eq_true (by kernel_rfl)⟩⟩

def pc29L0 : PC :=
  (.seq (.seq (.region [⟨some 13, .move (.tmp 8), none, false⟩,
    ⟨some 14, .move (.tmp 5), none, false⟩,
    ⟨some 15, .call ⟨.builtin .len, #[.tmp 14], #[48]⟩, none, false⟩,
    ⟨some 16, .move (.tmp 6), none, false⟩,
    ⟨some 17, .call ⟨.builtin .len, #[.tmp 16], #[48]⟩, none, false⟩,
    ⟨some 18, .call ⟨.builtin .min, #[.tmp 15, .tmp 17], #[3, 3]⟩, none, false⟩,
    ⟨some 19, .binOp .lss 3 (.tmp 13) (.tmp 18) 3, none, false⟩])
  (.cond (.tmp 19)
    .skip
    (.exit 0)))
  (.seq (.block 1 (.seq (.draw [⟨some 22, .move (.tmp 5), none, false⟩,
    ⟨some 23, .move (.tmp 8), none, false⟩,
    ⟨some 24, .indexAddr 48 (.tmp 22) (.tmp 23), none, false⟩,
    ⟨some 25, .load 50 (.tmp 24), none, false⟩,
    ⟨some 26, .move (.tmp 6), none, false⟩,
    ⟨some 27, .move (.tmp 8), none, false⟩,
    ⟨some 28, .indexAddr 48 (.tmp 26) (.tmp 27), none, false⟩,
    ⟨some 29, .load 50 (.tmp 28), none, false⟩]
    [⟨some 30, .call ⟨.value (.func 51), #[.tmp 25, .tmp 29], #[50, 50]⟩, none, false⟩,
    ⟨some 31, .binOp .leq 3 (.tmp 30) (.const (.int .i64 0)) 3, none, false⟩])
  (.cond (.tmp 31)
    (.region [⟨some 32, .move (.tmp 7), none, false⟩,
      ⟨some 33, .move (.tmp 5), none, false⟩,
      ⟨some 34, .move (.tmp 8), none, false⟩,
      ⟨some 35, .indexAddr 48 (.tmp 33) (.tmp 34), none, false⟩,
      ⟨some 36, .load 50 (.tmp 35), none, false⟩,
      ⟨some 37, .buildSlice 48 1 #[(0, .tmp 36)], none, false⟩,
      ⟨some 38, .call ⟨.builtin .append, #[.tmp 32, .tmp 37], #[48, 48]⟩, none, false⟩,
      ⟨some 7, .assign (.tmp 38), none, false⟩])
    (.region [⟨some 39, .move (.tmp 7), none, false⟩,
      ⟨some 40, .move (.tmp 6), none, false⟩,
      ⟨some 41, .move (.tmp 8), none, false⟩,
      ⟨some 42, .indexAddr 48 (.tmp 40) (.tmp 41), none, false⟩,
      ⟨some 43, .load 50 (.tmp 42), none, false⟩,
      ⟨some 44, .buildSlice 48 1 #[(0, .tmp 43)], none, false⟩,
      ⟨some 45, .call ⟨.builtin .append, #[.tmp 39, .tmp 44], #[48, 48]⟩, none, false⟩,
      ⟨some 7, .assign (.tmp 45), none, false⟩]))))
  (.region [⟨some 20, .move (.tmp 8), none, false⟩,
    ⟨some 21, .binOp .add 3 (.tmp 20) (.const (.int .i64 1)) 3, none, false⟩,
    ⟨some 8, .assign (.tmp 21), none, false⟩])))
/-- prefect/prefectref10.Meet -/
def pc29 : PC :=
  (.seq (.region [⟨some 4, .assign (.const (.slice none 0 0)), none, false⟩])
  (.seq (.region [⟨some 9, .move (.tmp 0), none, false⟩,
    ⟨some 10, .call ⟨.value (.func 37), #[.tmp 9], #[48]⟩, none, false⟩,
    ⟨some 11, .move (.tmp 1), none, false⟩,
    ⟨some 12, .call ⟨.value (.func 37), #[.tmp 11], #[48]⟩, none, false⟩,
    ⟨some 5, .assign (.tmp 10), none, false⟩,
    ⟨some 6, .assign (.tmp 12), none, false⟩])
  (.seq (.region [⟨some 7, .assign (.const (.slice none 0 0)), none, false⟩])
  (.seq (.seq (.region [⟨some 8, .assign (.const (.int .i64 0)), none, false⟩])
  (.block 0 (.loop pc29L0)))
  (.seq (.region [⟨some 46, .move (.tmp 7), none, false⟩,
    ⟨some 4, .assign (.tmp 46), none, false⟩])
  .ret)))))
def fn29 : PFn := ⟨47, [.tmp 4], pc29, false⟩
theorem fnOk29 : FnOk Try.prog 29 fn29 := ⟨⟨_, _, [], Try.func29, rfl, by kernel_rfl, rfl, rfl, of_decide_eq_true (by kernel_rfl)⟩⟩

def pc31L0 : PC :=
  (.seq (.seq (.region [⟨some 17, .move (.tmp 7), none, false⟩,
    ⟨some 18, .move (.tmp 5), none, false⟩,
    ⟨some 19, .call ⟨.builtin .len, #[.tmp 18], #[48]⟩, none, false⟩,
    ⟨some 20, .binOp .lss 3 (.tmp 17) (.tmp 19) 3, none, false⟩])
  (.cond (.tmp 20)
    .skip
    (.exit 0)))
  (.seq (.block 1 (.seq (.draw [⟨some 23, .move (.tmp 5), none, false⟩,
    ⟨some 24, .move (.tmp 7), none, false⟩,
    ⟨some 25, .indexAddr 48 (.tmp 23) (.tmp 24), none, false⟩,
    ⟨some 26, .load 50 (.tmp 25), none, false⟩,
    ⟨some 27, .move (.tmp 6), none, false⟩,
    ⟨some 28, .move (.tmp 7), none, false⟩,
    ⟨some 29, .indexAddr 48 (.tmp 27) (.tmp 28), none, false⟩,
    ⟨some 30, .load 50 (.tmp 29), none, false⟩]
    [⟨some 31, .call ⟨.value (.func 51), #[.tmp 26, .tmp 30], #[50, 50]⟩, none, false⟩,
    ⟨some 32, .binOp .gtr 3 (.tmp 31) (.const (.int .i64 0)) 3, none, false⟩])
  (.cond (.tmp 32)
    (.seq (.region [⟨some 4, .assign (.const (.bool false)), none, false⟩])
    .ret)
    .skip)))
  (.region [⟨some 21, .move (.tmp 7), none, false⟩,
    ⟨some 22, .binOp .add 3 (.tmp 21) (.const (.int .i64 1)) 3, none, false⟩,
    ⟨some 7, .assign (.tmp 22), none, false⟩])))
/-- prefect/prefectref10.Leq -/
def pc31 : PC :=
  (.seq (.region [⟨some 4, .assign (.const (.bool false)), none, false⟩])
  (.seq (.region [⟨some 8, .move (.tmp 0), none, false⟩,
    ⟨some 9, .call ⟨.value (.func 37), #[.tmp 8], #[48]⟩, none, false⟩,
    ⟨some 10, .move (.tmp 1), none, false⟩,
    ⟨some 11, .call ⟨.value (.func 37), #[.tmp 10], #[48]⟩, none, false⟩,
    ⟨some 5, .assign (.tmp 9), none, false⟩,
    ⟨some 6, .assign (.tmp 11), none, false⟩])
  (.seq (.seq (.region [⟨some 12, .move (.tmp 5), none, false⟩,
    ⟨some 13, .call ⟨.builtin .len, #[.tmp 12], #[48]⟩, none, false⟩,
    ⟨some 14, .move (.tmp 6), none, false⟩,
    ⟨some 15, .call ⟨.builtin .len, #[.tmp 14], #[48]⟩, none, false⟩,
    ⟨some 16, .binOp .gtr 3 (.tmp 13) (.tmp 15) 3, none, false⟩])
  (.cond (.tmp 16)
    (.seq (.region [⟨some 4, .assign (.const (.bool false)), none, false⟩])
    .ret)
    .skip))
  (.seq (.seq (.region [⟨some 7, .assign (.const (.int .i64 0)), none, false⟩])
  (.block 0 (.loop pc31L0)))
  (.seq (.region [⟨some 4, .assign (.const (.bool true)), none, false⟩])
  .ret)))))
def fn31 : PFn := ⟨33, [.tmp 4], pc31, false⟩
theorem fnOk31 : FnOk Try.prog 31 fn31 := ⟨⟨_, _, [], Try.func31, rfl, by kernel_rfl, rfl, rfl, of_decide_eq_true (by kernel_rfl)⟩⟩

/-- prefect/prefectref10.Covers -/
def pc33 : PC :=
  (.seq (.region [⟨some 3, .box 50 (.tmp 1), none, false⟩,
    ⟨some 4, .assign (.const (.bool false)), none, false⟩])
  (.seq (.region [⟨some 6, .move (.tmp 0), none, false⟩,
    ⟨some 7, .call ⟨.value (.func 37), #[.tmp 6], #[48]⟩, none, false⟩,
    ⟨some 5, .assign (.tmp 7), none, false⟩])
  (.seq (.draw [⟨some 8, .fieldAddr 50 (.tmp 3) 2, none, false⟩,
    ⟨some 9, .load 3 (.tmp 8), none, false⟩,
    ⟨some 10, .binOp .geq 3 (.tmp 9) (.const (.int .i64 0)) 3, none, false⟩,
    ⟨some 11, .move (.tmp 10), none, false⟩,
    ⟨some 12, .fieldAddr 50 (.tmp 3) 2, some (11, true), false⟩,
    ⟨some 13, .load 3 (.tmp 12), some (11, true), false⟩,
    ⟨some 14, .move (.tmp 5), some (11, true), false⟩,
    ⟨some 15, .call ⟨.builtin .len, #[.tmp 14], #[48]⟩, some (11, true), false⟩,
    ⟨some 16, .binOp .lss 3 (.tmp 13) (.tmp 15) 3, some (11, true), false⟩,
    ⟨some 17, .pick (.tmp 11) (.tmp 16) (.const (.bool false)), none, false⟩,
    ⟨some 18, .move (.tmp 17), none, false⟩,
    ⟨some 19, .load 50 (.tmp 3), some (18, true), false⟩,
    ⟨some 20, .move (.tmp 5), some (18, true), false⟩,
    ⟨some 21, .fieldAddr 50 (.tmp 3) 2, some (18, true), false⟩,
    ⟨some 22, .load 3 (.tmp 21), some (18, true), false⟩,
    ⟨some 23, .indexAddr 48 (.tmp 20) (.tmp 22), some (18, true), false⟩,
    ⟨some 24, .load 50 (.tmp 23), some (18, true), false⟩]
    [⟨some 25, .call ⟨.value (.func 51), #[.tmp 19, .tmp 24], #[50, 50]⟩, some (18, true), false⟩,
    ⟨some 26, .binOp .leq 3 (.tmp 25) (.const (.int .i64 0)) 3, some (18, true), false⟩,
    ⟨some 27, .pick (.tmp 18) (.tmp 26) (.const (.bool false)), none, false⟩,
    ⟨some 4, .assign (.tmp 27), none, false⟩])
  .ret)))
def fn33 : PFn := ⟨28, [.tmp 4], pc33, false⟩
theorem fnOk33 : FnOk Try.prog 33 fn33 := ⟨⟨_, _, [], Try.func33, rfl, by kernel_rfl, rfl, rfl, of_decide_eq_true (by kernel_rfl)⟩⟩

def pc35L0 : PC :=
  (.seq (.seq (.region [⟨some 15, .move (.tmp 5), none, false⟩,
    ⟨some 16, .move (.tmp 3), none, false⟩,
    ⟨some 17, .call ⟨.builtin .len, #[.tmp 16], #[48]⟩, none, false⟩,
    ⟨some 18, .binOp .lss 3 (.tmp 15) (.tmp 17) 3, none, false⟩])
  (.cond (.tmp 18)
    .skip
    (.exit 0)))
  (.seq (.block 1 (.seq (.draw [⟨some 21, .move (.tmp 3), none, false⟩,
    ⟨some 22, .move (.tmp 5), none, false⟩,
    ⟨some 23, .indexAddr 48 (.tmp 21) (.tmp 22), none, false⟩,
    ⟨some 24, .load 50 (.tmp 23), none, false⟩,
    ⟨some 25, .load 50 (.tmp 4), none, false⟩]
    [⟨some 26, .call ⟨.value (.func 51), #[.tmp 24, .tmp 25], #[50, 50]⟩, none, false⟩,
    ⟨some 27, .binOp .lss 3 (.tmp 26) (.const (.int .i64 0)) 3, none, false⟩])
  (.cond (.tmp 27)
    (.region [⟨some 28, .move (.tmp 3), none, false⟩,
      ⟨some 29, .move (.tmp 5), none, false⟩,
      ⟨some 30, .indexAddr 48 (.tmp 28) (.tmp 29), none, false⟩,
      ⟨some 31, .load 50 (.tmp 30), none, false⟩,
      ⟨none, .store 50 (.tmp 4) (.tmp 31), none, false⟩])
    .skip)))
  (.region [⟨some 19, .move (.tmp 5), none, false⟩,
    ⟨some 20, .binOp .add 3 (.tmp 19) (.const (.int .i64 1)) 3, none, false⟩,
    ⟨some 5, .assign (.tmp 20), none, false⟩])))
/-- prefect/prefectref10.Least -/
def pc35 : PC :=
  (.seq (.region [⟨some 2, .alloc 50, none, false⟩])
  (.seq (.region [⟨some 6, .move (.tmp 0), none, false⟩,
    ⟨some 7, .call ⟨.value (.func 37), #[.tmp 6], #[48]⟩, none, false⟩,
    ⟨some 3, .assign (.tmp 7), none, false⟩])
  (.seq (.seq (.region [⟨some 8, .move (.tmp 3), none, false⟩,
    ⟨some 9, .call ⟨.builtin .len, #[.tmp 8], #[48]⟩, none, false⟩,
    ⟨some 10, .binOp .eql 3 (.tmp 9) (.const (.int .i64 0)) 3, none, false⟩])
  (.cond (.tmp 10)
    (.seq (.region [⟨some 11, .build 50 #[], none, false⟩,
      ⟨none, .store 50 (.tmp 2) (.tmp 11), none, false⟩])
    .ret)
    .skip))
  (.seq (.region [⟨some 12, .move (.tmp 3), none, false⟩,
    ⟨some 13, .indexAddr 48 (.tmp 12) (.const (.int .i64 0)), none, false⟩,
    ⟨some 14, .load 50 (.tmp 13), none, false⟩,
    ⟨some 4, .alloc 50, none, false⟩,
    ⟨none, .store 50 (.tmp 4) (.tmp 14), none, false⟩])
  (.seq (.seq (.region [⟨some 5, .assign (.const (.int .i64 1)), none, false⟩])
  (.block 0 (.loop pc35L0)))
  (.seq (.region [⟨some 32, .load 50 (.tmp 4), none, false⟩,
    ⟨none, .store 50 (.tmp 2) (.tmp 32), none, false⟩])
  .ret))))))
def fn35 : PFn := ⟨33, [.cell 2 50], pc35, false⟩
theorem fnOk35 : FnOk Try.prog 35 fn35 := ⟨⟨_, _, [], Try.func35, rfl, by kernel_rfl, rfl, rfl, of_decide_eq_true (by kernel_rfl)⟩⟩

/-- prefect/prefectlaw11.VectorTells -/
def pc6 : PC :=
  (.seq (.region [⟨some 6, .box 50 (.tmp 2), none, false⟩,
    ⟨some 8, .assign (.const (.bool false)), none, false⟩])
  (.seq (.seq (.region [⟨some 9, .call ⟨.value (.func 18), #[], #[]⟩, none, false⟩,
    ⟨some 10, .unOp .not 4 (.tmp 9), none, false⟩])
  (.cond (.tmp 10)
    (.seq (.region [⟨some 8, .assign (.const (.bool false)), none, false⟩])
    .ret)
    .skip))
  (.seq (.seq (.region [⟨some 11, .move (.tmp 0), none, false⟩,
    ⟨some 12, .call ⟨.builtin .len, #[.tmp 11], #[48]⟩, none, false⟩,
    ⟨some 13, .binOp .gtr 3 (.tmp 12) (.const (.int .i64 10)) 3, none, false⟩,
    ⟨some 14, .move (.tmp 13), none, false⟩,
    ⟨some 15, .move (.tmp 1), some (14, false), false⟩,
    ⟨some 16, .call ⟨.builtin .len, #[.tmp 15], #[48]⟩, some (14, false), false⟩,
    ⟨some 17, .binOp .gtr 3 (.tmp 16) (.const (.int .i64 10)) 3, some (14, false), false⟩,
    ⟨some 18, .pick (.tmp 14) (.const (.bool true)) (.tmp 17), none, false⟩])
  (.cond (.tmp 18)
    (.seq (.region [⟨some 8, .assign (.const (.bool true)), none, false⟩])
    .ret)
    .skip))
  (.seq (.drawC [⟨some 19, .move (.tmp 3), none, false⟩,
    ⟨some 20, .call ⟨.value (.func 20), #[.tmp 19], #[3]⟩, none, false⟩,
    ⟨some 21, .move (.tmp 3), none, false⟩,
    ⟨some 22, .call ⟨.value (.func 21), #[.tmp 21], #[3]⟩, none, false⟩,
    ⟨some 23, .call ⟨.value (.func 19), #[.tmp 20, .tmp 22], #[48, 48]⟩, none, false⟩,
    ⟨some 24, .move (.tmp 23), none, false⟩,
    ⟨some 25, .move (.tmp 0), some (24, true), false⟩,
    ⟨some 26, .call ⟨.value (.func 22), #[.tmp 25], #[48]⟩, some (24, true), false⟩,
    ⟨some 27, .move (.tmp 0), some (24, true), false⟩,
    ⟨some 28, .call ⟨.value (.func 23), #[.tmp 27], #[48]⟩, some (24, true), false⟩,
    ⟨some 29, .binOp .eql 4 (.tmp 26) (.tmp 28) 4, some (24, true), false⟩,
    ⟨some 30, .pick (.tmp 24) (.tmp 29) (.const (.bool false)), none, false⟩,
    ⟨some 31, .move (.tmp 30), none, false⟩,
    ⟨some 32, .move (.tmp 0), some (31, true), false⟩,
    ⟨some 33, .load 50 (.tmp 6), some (31, true), false⟩,
    ⟨some 34, .call ⟨.value (.func 24), #[.tmp 32, .tmp 33], #[48, 50]⟩, some (31, true), false⟩,
    ⟨some 35, .move (.tmp 0), some (31, true), false⟩,
    ⟨some 36, .load 50 (.tmp 6), some (31, true), false⟩,
    ⟨some 37, .call ⟨.value (.func 25), #[.tmp 35, .tmp 36], #[48, 50]⟩, some (31, true), false⟩,
    ⟨some 38, .call ⟨.value (.func 19), #[.tmp 34, .tmp 37], #[48, 48]⟩, some (31, true), false⟩,
    ⟨some 39, .pick (.tmp 31) (.tmp 38) (.const (.bool false)), none, false⟩,
    ⟨some 40, .move (.tmp 39), none, false⟩,
    ⟨some 41, .move (.tmp 0), some (40, true), false⟩,
    ⟨some 42, .move (.tmp 1), some (40, true), false⟩,
    ⟨some 43, .call ⟨.value (.func 26), #[.tmp 41, .tmp 42], #[48, 48]⟩, some (40, true), false⟩,
    ⟨some 44, .move (.tmp 0), some (40, true), false⟩,
    ⟨some 45, .move (.tmp 1), some (40, true), false⟩,
    ⟨some 46, .call ⟨.value (.func 27), #[.tmp 44, .tmp 45], #[48, 48]⟩, some (40, true), false⟩,
    ⟨some 47, .call ⟨.value (.func 19), #[.tmp 43, .tmp 46], #[48, 48]⟩, some (40, true), false⟩,
    ⟨some 48, .pick (.tmp 40) (.tmp 47) (.const (.bool false)), none, false⟩,
    ⟨some 49, .move (.tmp 48), none, false⟩,
    ⟨some 50, .move (.tmp 0), some (49, true), false⟩,
    ⟨some 51, .move (.tmp 1), some (49, true), false⟩,
    ⟨some 52, .call ⟨.value (.func 28), #[.tmp 50, .tmp 51], #[48, 48]⟩, some (49, true), false⟩,
    ⟨some 53, .move (.tmp 0), some (49, true), false⟩,
    ⟨some 54, .move (.tmp 1), some (49, true), false⟩,
    ⟨some 55, .call ⟨.value (.func 29), #[.tmp 53, .tmp 54], #[48, 48]⟩, some (49, true), false⟩,
    ⟨some 56, .call ⟨.value (.func 19), #[.tmp 52, .tmp 55], #[48, 48]⟩, some (49, true), false⟩,
    ⟨some 57, .pick (.tmp 49) (.tmp 56) (.const (.bool false)), none, false⟩,
    ⟨some 58, .move (.tmp 57), none, false⟩,
    ⟨some 59, .move (.tmp 0), some (58, true), false⟩,
    ⟨some 60, .move (.tmp 1), some (58, true), false⟩,
    ⟨some 61, .call ⟨.value (.func 30), #[.tmp 59, .tmp 60], #[48, 48]⟩, some (58, true), false⟩,
    ⟨some 62, .move (.tmp 0), some (58, true), false⟩,
    ⟨some 63, .move (.tmp 1), some (58, true), false⟩,
    ⟨some 64, .call ⟨.value (.func 31), #[.tmp 62, .tmp 63], #[48, 48]⟩, some (58, true), false⟩,
    ⟨some 65, .binOp .eql 4 (.tmp 61) (.tmp 64) 4, some (58, true), false⟩,
    ⟨some 66, .pick (.tmp 58) (.tmp 65) (.const (.bool false)), none, false⟩,
    ⟨some 67, .move (.tmp 66), none, false⟩,
    ⟨some 68, .move (.tmp 0), some (67, true), false⟩,
    ⟨some 69, .load 50 (.tmp 6), some (67, true), false⟩,
    ⟨some 70, .call ⟨.value (.func 32), #[.tmp 68, .tmp 69], #[48, 50]⟩, some (67, true), false⟩,
    ⟨some 71, .move (.tmp 0), some (67, true), false⟩,
    ⟨some 72, .load 50 (.tmp 6), some (67, true), false⟩,
    ⟨some 73, .call ⟨.value (.func 33), #[.tmp 71, .tmp 72], #[48, 50]⟩, some (67, true), false⟩,
    ⟨some 74, .binOp .eql 4 (.tmp 70) (.tmp 73) 4, some (67, true), false⟩,
    ⟨some 75, .pick (.tmp 67) (.tmp 74) (.const (.bool false)), none, false⟩,
    ⟨some 76, .move (.tmp 75), none, false⟩,
    ⟨some 77, .move (.tmp 0), some (76, true), false⟩,
    ⟨some 78, .call ⟨.value (.func 34), #[.tmp 77], #[48]⟩, some (76, true), false⟩,
    ⟨some 79, .move (.tmp 0), some (76, true), false⟩,
    ⟨some 80, .call ⟨.value (.func 35), #[.tmp 79], #[48]⟩, some (76, true), false⟩,
    ⟨some 81, .binOp .eql 50 (.tmp 78) (.tmp 80) 50, some (76, true), false⟩,
    ⟨some 82, .pick (.tmp 76) (.tmp 81) (.const (.bool false)), none, false⟩,
    ⟨some 83, .move (.tmp 82), none, false⟩,
    ⟨some 84, .move (.tmp 0), some (83, true), false⟩,
    ⟨some 85, .move (.tmp 1), some (83, true), false⟩,
    ⟨some 86, .call ⟨.value (.func 36), #[.tmp 84, .tmp 85], #[48, 48]⟩, some (83, true), false⟩,
    ⟨some 87, .move (.tmp 0), some (83, true), false⟩,
    ⟨some 88, .call ⟨.value (.func 37), #[.tmp 87], #[48]⟩, some (83, true), false⟩,
    ⟨some 89, .move (.tmp 1), some (83, true), false⟩]
    [⟨some 90, .call ⟨.value (.func 37), #[.tmp 89], #[48]⟩, some (83, true), false⟩,
    ⟨some 91, .call ⟨.value (.func 19), #[.tmp 88, .tmp 90], #[48, 48]⟩, some (83, true), false⟩,
    ⟨some 92, .binOp .eql 4 (.tmp 86) (.tmp 91) 4, some (83, true), false⟩,
    ⟨some 93, .pick (.tmp 83) (.tmp 92) (.const (.bool false)), none, false⟩,
    ⟨some 8, .assign (.tmp 93), none, false⟩])
  .ret))))
def fn6 : PFn := ⟨94, [.tmp 8], pc6, false⟩
theorem fnOk6 : FnOk Try.prog 6 fn6 := ⟨⟨_, _, [5], Try.func6, rfl, by kernel_rfl, rfl, rfl, of_decide_eq_true (by kernel_rfl)⟩⟩

/-- prefect/prefectlaw11.VectorLattice -/
def pc7 : PC :=
  (.seq (.region [⟨some 7, .box 50 (.tmp 3), none, false⟩,
    ⟨some 8, .assign (.const (.bool false)), none, false⟩])
  (.seq (.seq (.region [⟨some 13, .call ⟨.value (.func 18), #[], #[]⟩, none, false⟩,
    ⟨some 14, .unOp .not 4 (.tmp 13), none, false⟩])
  (.cond (.tmp 14)
    (.seq (.region [⟨some 8, .assign (.const (.bool false)), none, false⟩])
    .ret)
    .skip))
  (.seq (.seq (.region [⟨some 15, .move (.tmp 0), none, false⟩,
    ⟨some 16, .call ⟨.value (.func 22), #[.tmp 15], #[48]⟩, none, false⟩,
    ⟨some 17, .unOp .not 4 (.tmp 16), none, false⟩,
    ⟨some 18, .move (.tmp 17), none, false⟩,
    ⟨some 19, .move (.tmp 1), some (18, false), false⟩,
    ⟨some 20, .call ⟨.value (.func 22), #[.tmp 19], #[48]⟩, some (18, false), false⟩,
    ⟨some 21, .unOp .not 4 (.tmp 20), some (18, false), false⟩,
    ⟨some 22, .pick (.tmp 18) (.const (.bool true)) (.tmp 21), none, false⟩,
    ⟨some 23, .move (.tmp 22), none, false⟩,
    ⟨some 24, .move (.tmp 2), some (23, false), false⟩,
    ⟨some 25, .call ⟨.value (.func 22), #[.tmp 24], #[48]⟩, some (23, false), false⟩,
    ⟨some 26, .unOp .not 4 (.tmp 25), some (23, false), false⟩,
    ⟨some 27, .pick (.tmp 23) (.const (.bool true)) (.tmp 26), none, false⟩,
    ⟨some 28, .move (.tmp 27), none, false⟩,
    ⟨some 29, .move (.tmp 0), some (28, false), false⟩,
    ⟨some 30, .call ⟨.builtin .len, #[.tmp 29], #[48]⟩, some (28, false), false⟩,
    ⟨some 31, .move (.tmp 1), some (28, false), false⟩,
    ⟨some 32, .call ⟨.builtin .len, #[.tmp 31], #[48]⟩, some (28, false), false⟩,
    ⟨some 33, .binOp .neq 3 (.tmp 30) (.tmp 32) 3, some (28, false), false⟩,
    ⟨some 34, .pick (.tmp 28) (.const (.bool true)) (.tmp 33), none, false⟩,
    ⟨some 35, .move (.tmp 34), none, false⟩,
    ⟨some 36, .move (.tmp 1), some (35, false), false⟩,
    ⟨some 37, .call ⟨.builtin .len, #[.tmp 36], #[48]⟩, some (35, false), false⟩,
    ⟨some 38, .move (.tmp 2), some (35, false), false⟩,
    ⟨some 39, .call ⟨.builtin .len, #[.tmp 38], #[48]⟩, some (35, false), false⟩,
    ⟨some 40, .binOp .neq 3 (.tmp 37) (.tmp 39) 3, some (35, false), false⟩,
    ⟨some 41, .pick (.tmp 35) (.const (.bool true)) (.tmp 40), none, false⟩])
  (.cond (.tmp 41)
    (.seq (.region [⟨some 8, .assign (.const (.bool true)), none, false⟩])
    .ret)
    .skip))
  (.seq (.region [⟨some 42, .move (.tmp 0), none, false⟩,
    ⟨some 43, .move (.tmp 1), none, false⟩,
    ⟨some 44, .call ⟨.value (.func 26), #[.tmp 42, .tmp 43], #[48, 48]⟩, none, false⟩,
    ⟨some 45, .move (.tmp 0), none, false⟩,
    ⟨some 46, .move (.tmp 1), none, false⟩,
    ⟨some 47, .call ⟨.value (.func 28), #[.tmp 45, .tmp 46], #[48, 48]⟩, none, false⟩,
    ⟨some 9, .assign (.tmp 44), none, false⟩,
    ⟨some 10, .assign (.tmp 47), none, false⟩])
  (.seq (.region [⟨some 48, .move (.tmp 0), none, false⟩,
    ⟨some 49, .move (.tmp 2), none, false⟩,
    ⟨some 50, .call ⟨.value (.func 30), #[.tmp 48, .tmp 49], #[48, 48]⟩, none, false⟩,
    ⟨some 51, .move (.tmp 50), none, false⟩,
    ⟨some 52, .move (.tmp 1), some (51, true), false⟩,
    ⟨some 53, .move (.tmp 2), some (51, true), false⟩,
    ⟨some 54, .call ⟨.value (.func 30), #[.tmp 52, .tmp 53], #[48, 48]⟩, some (51, true), false⟩,
    ⟨some 55, .pick (.tmp 51) (.tmp 54) (.const (.bool false)), none, false⟩,
    ⟨some 11, .assign (.tmp 55), none, false⟩])
  (.seq (.region [⟨some 56, .move (.tmp 2), none, false⟩,
    ⟨some 57, .move (.tmp 0), none, false⟩,
    ⟨some 58, .call ⟨.value (.func 30), #[.tmp 56, .tmp 57], #[48, 48]⟩, none, false⟩,
    ⟨some 59, .move (.tmp 58), none, false⟩,
    ⟨some 60, .move (.tmp 2), some (59, true), false⟩,
    ⟨some 61, .move (.tmp 1), some (59, true), false⟩,
    ⟨some 62, .call ⟨.value (.func 30), #[.tmp 60, .tmp 61], #[48, 48]⟩, some (59, true), false⟩,
    ⟨some 63, .pick (.tmp 59) (.tmp 62) (.const (.bool false)), none, false⟩,
    ⟨some 12, .assign (.tmp 63), none, false⟩])
  (.seq (.draw [⟨some 64, .move (.tmp 0), none, false⟩,
    ⟨some 65, .move (.tmp 9), none, false⟩,
    ⟨some 66, .call ⟨.value (.func 30), #[.tmp 64, .tmp 65], #[48, 48]⟩, none, false⟩,
    ⟨some 67, .move (.tmp 66), none, false⟩,
    ⟨some 68, .move (.tmp 1), some (67, true), false⟩,
    ⟨some 69, .move (.tmp 9), some (67, true), false⟩,
    ⟨some 70, .call ⟨.value (.func 30), #[.tmp 68, .tmp 69], #[48, 48]⟩, some (67, true), false⟩,
    ⟨some 71, .pick (.tmp 67) (.tmp 70) (.const (.bool false)), none, false⟩,
    ⟨some 72, .move (.tmp 71), none, false⟩,
    ⟨some 73, .move (.tmp 10), some (72, true), false⟩,
    ⟨some 74, .move (.tmp 0), some (72, true), false⟩,
    ⟨some 75, .call ⟨.value (.func 30), #[.tmp 73, .tmp 74], #[48, 48]⟩, some (72, true), false⟩,
    ⟨some 76, .pick (.tmp 72) (.tmp 75) (.const (.bool false)), none, false⟩,
    ⟨some 77, .move (.tmp 76), none, false⟩,
    ⟨some 78, .move (.tmp 10), some (77, true), false⟩,
    ⟨some 79, .move (.tmp 1), some (77, true), false⟩,
    ⟨some 80, .call ⟨.value (.func 30), #[.tmp 78, .tmp 79], #[48, 48]⟩, some (77, true), false⟩,
    ⟨some 81, .pick (.tmp 77) (.tmp 80) (.const (.bool false)), none, false⟩,
    ⟨some 82, .move (.tmp 81), none, false⟩,
    ⟨some 83, .move (.tmp 11), some (82, true), false⟩,
    ⟨some 84, .unOp .not 4 (.tmp 83), some (82, true), false⟩,
    ⟨some 85, .move (.tmp 84), some (82, true), false⟩,
    ⟨some 86, .move (.tmp 9), some (85, false), false⟩,
    ⟨some 87, .move (.tmp 2), some (85, false), false⟩,
    ⟨some 88, .call ⟨.value (.func 30), #[.tmp 86, .tmp 87], #[48, 48]⟩, some (85, false), false⟩,
    ⟨some 89, .pick (.tmp 85) (.const (.bool true)) (.tmp 88), some (82, true), false⟩,
    ⟨some 90, .pick (.tmp 82) (.tmp 89) (.const (.bool false)), none, false⟩,
    ⟨some 91, .move (.tmp 90), none, false⟩,
    ⟨some 92, .move (.tmp 12), some (91, true), false⟩,
    ⟨some 93, .unOp .not 4 (.tmp 92), some (91, true), false⟩,
    ⟨some 94, .move (.tmp 93), some (91, true), false⟩,
    ⟨some 95, .move (.tmp 2), some (94, false), false⟩,
    ⟨some 96, .move (.tmp 10), some (94, false), false⟩,
    ⟨some 97, .call ⟨.value (.func 30), #[.tmp 95, .tmp 96], #[48, 48]⟩, some (94, false), false⟩,
    ⟨some 98, .pick (.tmp 94) (.const (.bool true)) (.tmp 97), some (91, true), false⟩,
    ⟨some 99, .pick (.tmp 91) (.tmp 98) (.const (.bool false)), none, false⟩,
    ⟨some 100, .move (.tmp 99), none, false⟩,
    ⟨some 101, .move (.tmp 9), some (100, true), false⟩,
    ⟨some 102, .move (.tmp 2), some (100, true), false⟩,
    ⟨some 103, .call ⟨.value (.func 26), #[.tmp 101, .tmp 102], #[48, 48]⟩, some (100, true), false⟩,
    ⟨some 104, .move (.tmp 0), some (100, true), false⟩,
    ⟨some 105, .move (.tmp 1), some (100, true), false⟩,
    ⟨some 106, .move (.tmp 2), some (100, true), false⟩,
    ⟨some 107, .call ⟨.value (.func 26), #[.tmp 105, .tmp 106], #[48, 48]⟩, some (100, true), false⟩,
    ⟨some 108, .call ⟨.value (.func 26), #[.tmp 104, .tmp 107], #[48, 48]⟩, some (100, true), false⟩,
    ⟨some 109, .call ⟨.value (.func 36), #[.tmp 103, .tmp 108], #[48, 48]⟩, some (100, true), false⟩,
    ⟨some 110, .pick (.tmp 100) (.tmp 109) (.const (.bool false)), none, false⟩,
    ⟨some 111, .move (.tmp 110), none, false⟩,
    ⟨some 112, .move (.tmp 9), some (111, true), false⟩,
    ⟨some 113, .move (.tmp 1), some (111, true), false⟩,
    ⟨some 114, .move (.tmp 0), some (111, true), false⟩,
    ⟨some 115, .call ⟨.value (.func 26), #[.tmp 113, .tmp 114], #[48, 48]⟩, some (111, true), false⟩,
    ⟨some 116, .call ⟨.value (.func 36), #[.tmp 112, .tmp 115], #[48, 48]⟩, some (111, true), false⟩,
    ⟨some 117, .pick (.tmp 111) (.tmp 116) (.const (.bool false)), none, false⟩,
    ⟨some 118, .move (.tmp 117), none, false⟩,
    ⟨some 119, .move (.tmp 0), some (118, true), false⟩,
    ⟨some 120, .move (.tmp 10), some (118, true), false⟩,
    ⟨some 121, .call ⟨.value (.func 26), #[.tmp 119, .tmp 120], #[48, 48]⟩, some (118, true), false⟩,
    ⟨some 122, .move (.tmp 0), some (118, true), false⟩,
    ⟨some 123, .call ⟨.value (.func 36), #[.tmp 121, .tmp 122], #[48, 48]⟩, some (118, true), false⟩,
    ⟨some 124, .pick (.tmp 118) (.tmp 123) (.const (.bool false)), none, false⟩,
    ⟨some 125, .move (.tmp 124), none, false⟩,
    ⟨some 126, .move (.tmp 9), some (125, true), false⟩,
    ⟨some 127, .load 50 (.tmp 7), some (125, true), false⟩,
    ⟨some 128, .call ⟨.value (.func 32), #[.tmp 126, .tmp 127], #[48, 50]⟩, some (125, true), false⟩,
    ⟨some 129, .move (.tmp 0), some (125, true), false⟩,
    ⟨some 130, .load 50 (.tmp 7), some (125, true), false⟩,
    ⟨some 131, .call ⟨.value (.func 32), #[.tmp 129, .tmp 130], #[48, 50]⟩, some (125, true), false⟩,
    ⟨some 132, .move (.tmp 131), some (125, true), false⟩,
    ⟨some 133, .move (.tmp 1), some (132, false), false⟩,
    ⟨some 134, .load 50 (.tmp 7), some (132, false), false⟩,
    ⟨some 135, .call ⟨.value (.func 32), #[.tmp 133, .tmp 134], #[48, 50]⟩, some (132, false), false⟩,
    ⟨some 136, .pick (.tmp 132) (.const (.bool true)) (.tmp 135), some (125, true), false⟩,
    ⟨some 137, .binOp .eql 4 (.tmp 128) (.tmp 136) 4, some (125, true), false⟩,
    ⟨some 138, .pick (.tmp 125) (.tmp 137) (.const (.bool false)), none, false⟩,
    ⟨some 139, .move (.tmp 138), none, false⟩,
    ⟨some 140, .move (.tmp 10), some (139, true), false⟩,
    ⟨some 141, .load 50 (.tmp 7), some (139, true), false⟩,
    ⟨some 142, .call ⟨.value (.func 32), #[.tmp 140, .tmp 141], #[48, 50]⟩, some (139, true), false⟩,
    ⟨some 143, .move (.tmp 0), some (139, true), false⟩,
    ⟨some 144, .load 50 (.tmp 7), some (139, true), false⟩,
    ⟨some 145, .call ⟨.value (.func 32), #[.tmp 143, .tmp 144], #[48, 50]⟩, some (139, true), false⟩,
    ⟨some 146, .move (.tmp 145), some (139, true), false⟩,
    ⟨some 147, .move (.tmp 1), some (146, true), false⟩,
    ⟨some 148, .load 50 (.tmp 7), some (146, true), false⟩,
    ⟨some 149, .call ⟨.value (.func 32), #[.tmp 147, .tmp 148], #[48, 50]⟩, some (146, true), false⟩,
    ⟨some 150, .pick (.tmp 146) (.tmp 149) (.const (.bool false)), some (139, true), false⟩,
    ⟨some 151, .binOp .eql 4 (.tmp 142) (.tmp 150) 4, some (139, true), false⟩,
    ⟨some 152, .pick (.tmp 139) (.tmp 151) (.const (.bool false)), none, false⟩,
    ⟨some 153, .move (.tmp 152), none, false⟩,
    ⟨some 154, .move (.tmp 0), some (153, true), false⟩,
    ⟨some 155, .move (.tmp 0), some (153, true), false⟩,
    ⟨some 156, .load 50 (.tmp 7), some (153, true), false⟩,
    ⟨some 157, .call ⟨.value (.func 24), #[.tmp 155, .tmp 156], #[48, 50]⟩, some (153, true), false⟩]
    [⟨some 158, .call ⟨.value (.func 30), #[.tmp 154, .tmp 157], #[48, 48]⟩, some (153, true), false⟩,
    ⟨some 159, .pick (.tmp 153) (.tmp 158) (.const (.bool false)), none, false⟩,
    ⟨some 8, .assign (.tmp 159), none, false⟩])
  .ret)))))))
def fn7 : PFn := ⟨160, [.tmp 8], pc7, false⟩
theorem fnOk7 : FnOk Try.prog 7 fn7 := ⟨⟨_, _, [], Try.func7, rfl, by kernel_rfl, rfl, rfl, of_decide_eq_true (by kernel_rfl)⟩⟩

def pc8L0 : PC :=
  (.seq (.seq (.region [⟨some 20, .move (.tmp 7), none, false⟩,
    ⟨some 21, .binOp .lss 3 (.tmp 20) (.const (.int .i64 3)) 3, none, false⟩])
  (.cond (.tmp 21)
    .skip
    (.exit 0)))
  (.seq (.block 1 (.region [⟨some 24, .move (.tmp 7), none, false⟩,
    ⟨some 25, .move (.tmp 7), none, false⟩,
    ⟨some 26, .indexAddr 61 (.tmp 6) (.tmp 24), none, false⟩,
    ⟨some 27, .fieldAddr 50 (.tmp 26) 2, none, false⟩,
    ⟨none, .store 3 (.tmp 27) (.tmp 25), none, false⟩]))
  (.region [⟨some 22, .move (.tmp 7), none, false⟩,
    ⟨some 23, .binOp .add 3 (.tmp 22) (.const (.int .i64 1)) 3, none, false⟩,
    ⟨some 7, .assign (.tmp 23), none, false⟩])))
def pc8L2 : PC :=
  (.seq (.seq (.region [⟨some 28, .move (.tmp 8), none, false⟩,
    ⟨some 29, .move (.tmp 0), none, false⟩,
    ⟨some 30, .call ⟨.builtin .len, #[.tmp 29], #[47]⟩, none, false⟩,
    ⟨some 31, .binOp .lss 3 (.tmp 28) (.tmp 30) 3, none, false⟩])
  (.cond (.tmp 31)
    .skip
    (.exit 2)))
  (.seq (.block 3 (.seq (.region [⟨some 34, .move (.tmp 5), none, false⟩,
    ⟨some 35, .move (.tmp 0), none, false⟩,
    ⟨some 36, .move (.tmp 8), none, false⟩,
    ⟨some 37, .indexAddr 47 (.tmp 35) (.tmp 36), none, false⟩,
    ⟨some 38, .load 50 (.tmp 37), none, false⟩,
    ⟨some 39, .call ⟨.value (.func 24), #[.tmp 34, .tmp 38], #[48, 50]⟩, none, false⟩,
    ⟨some 5, .assign (.tmp 39), none, false⟩])
  (.seq (.region [⟨some 40, .move (.tmp 0), none, false⟩,
    ⟨some 41, .move (.tmp 8), none, false⟩,
    ⟨some 42, .indexAddr 47 (.tmp 40) (.tmp 41), none, false⟩,
    ⟨some 43, .load 50 (.tmp 42), none, false⟩,
    ⟨some 9, .alloc 50, none, false⟩,
    ⟨none, .store 50 (.tmp 9) (.tmp 43), none, false⟩])
  (.seq (.seq (.region [⟨some 44, .fieldAddr 50 (.tmp 9) 0, none, false⟩,
    ⟨some 45, .load 2 (.tmp 44), none, false⟩,
    ⟨some 46, .binOp .lss 2 (.tmp 45) (.const (.int .i64 0)) 2, none, false⟩,
    ⟨some 47, .move (.tmp 46), none, false⟩,
    ⟨some 48, .fieldAddr 50 (.tmp 9) 0, some (47, false), false⟩,
    ⟨some 49, .load 2 (.tmp 48), some (47, false), false⟩,
    ⟨some 50, .binOp .gtr 2 (.tmp 49) (.const (.int .i64 1099511627776)) 2, some (47, false), false⟩,
    ⟨some 51, .pick (.tmp 47) (.const (.bool true)) (.tmp 50), none, false⟩,
    ⟨some 52, .move (.tmp 51), none, false⟩,
    ⟨some 53, .fieldAddr 50 (.tmp 9) 1, some (52, false), false⟩,
    ⟨some 54, .load 3 (.tmp 53), some (52, false), false⟩,
    ⟨some 55, .binOp .lss 3 (.tmp 54) (.const (.int .i64 0)) 3, some (52, false), false⟩,
    ⟨some 56, .pick (.tmp 52) (.const (.bool true)) (.tmp 55), none, false⟩,
    ⟨some 57, .move (.tmp 56), none, false⟩,
    ⟨some 58, .fieldAddr 50 (.tmp 9) 1, some (57, false), false⟩,
    ⟨some 59, .load 3 (.tmp 58), some (57, false), false⟩,
    ⟨some 60, .binOp .gtr 3 (.tmp 59) (.const (.int .i64 65535)) 3, some (57, false), false⟩,
    ⟨some 61, .pick (.tmp 57) (.const (.bool true)) (.tmp 60), none, false⟩,
    ⟨some 62, .move (.tmp 61), none, false⟩,
    ⟨some 63, .fieldAddr 50 (.tmp 9) 2, some (62, false), false⟩,
    ⟨some 64, .load 3 (.tmp 63), some (62, false), false⟩,
    ⟨some 65, .binOp .lss 3 (.tmp 64) (.const (.int .i64 0)) 3, some (62, false), false⟩,
    ⟨some 66, .pick (.tmp 62) (.const (.bool true)) (.tmp 65), none, false⟩,
    ⟨some 67, .move (.tmp 66), none, false⟩,
    ⟨some 68, .fieldAddr 50 (.tmp 9) 2, some (67, false), false⟩,
    ⟨some 69, .load 3 (.tmp 68), some (67, false), false⟩,
    ⟨some 70, .binOp .gtr 3 (.tmp 69) (.const (.int .i64 2)) 3, some (67, false), false⟩,
    ⟨some 71, .pick (.tmp 67) (.const (.bool true)) (.tmp 70), none, false⟩])
  (.cond (.tmp 71)
    (.exit 3)
    .skip))
  (.seq (.region [⟨some 72, .fieldAddr 50 (.tmp 9) 2, none, false⟩,
    ⟨some 73, .load 3 (.tmp 72), none, false⟩,
    ⟨some 74, .indexAddr 61 (.tmp 6) (.tmp 73), none, false⟩,
    ⟨some 75, .load 50 (.tmp 74), none, false⟩,
    ⟨some 10, .alloc 50, none, false⟩,
    ⟨none, .store 50 (.tmp 10) (.tmp 75), none, false⟩])
  (.seq (.region [⟨some 76, .fieldAddr 50 (.tmp 9) 0, none, false⟩,
    ⟨some 77, .load 2 (.tmp 76), none, false⟩,
    ⟨some 78, .fieldAddr 50 (.tmp 10) 0, none, false⟩,
    ⟨some 79, .load 2 (.tmp 78), none, false⟩,
    ⟨some 80, .binOp .gtr 2 (.tmp 77) (.tmp 79) 2, none, false⟩,
    ⟨some 81, .move (.tmp 80), none, false⟩,
    ⟨some 82, .fieldAddr 50 (.tmp 9) 0, some (81, false), false⟩,
    ⟨some 83, .load 2 (.tmp 82), some (81, false), false⟩,
    ⟨some 84, .fieldAddr 50 (.tmp 10) 0, some (81, false), false⟩,
    ⟨some 85, .load 2 (.tmp 84), some (81, false), false⟩,
    ⟨some 86, .binOp .eql 2 (.tmp 83) (.tmp 85) 2, some (81, false), false⟩,
    ⟨some 87, .move (.tmp 86), some (81, false), false⟩,
    ⟨some 88, .fieldAddr 50 (.tmp 9) 1, some (87, true), false⟩,
    ⟨some 89, .load 3 (.tmp 88), some (87, true), false⟩,
    ⟨some 90, .fieldAddr 50 (.tmp 10) 1, some (87, true), false⟩,
    ⟨some 91, .load 3 (.tmp 90), some (87, true), false⟩,
    ⟨some 92, .binOp .gtr 3 (.tmp 89) (.tmp 91) 3, some (87, true), false⟩,
    ⟨some 93, .pick (.tmp 87) (.tmp 92) (.const (.bool false)), some (81, false), false⟩,
    ⟨some 94, .pick (.tmp 81) (.const (.bool true)) (.tmp 93), none, false⟩])
  (.cond (.tmp 94)
    (.region [⟨some 95, .fieldAddr 50 (.tmp 9) 2, none, false⟩,
      ⟨some 96, .load 3 (.tmp 95), none, false⟩,
      ⟨some 97, .load 50 (.tmp 9), none, false⟩,
      ⟨some 98, .indexAddr 61 (.tmp 6) (.tmp 96), none, false⟩,
      ⟨none, .store 50 (.tmp 98) (.tmp 97), none, false⟩])
    .skip)))))))
  (.region [⟨some 32, .move (.tmp 8), none, false⟩,
    ⟨some 33, .binOp .add 3 (.tmp 32) (.const (.int .i64 1)) 3, none, false⟩,
    ⟨some 8, .assign (.tmp 33), none, false⟩])))
def pc8L4 : PC :=
  (.seq (.seq (.region [⟨some 104, .move (.tmp 12), none, false⟩,
    ⟨some 105, .binOp .lss 3 (.tmp 104) (.const (.int .i64 3)) 3, none, false⟩])
  (.cond (.tmp 105)
    .skip
    (.exit 4)))
  (.seq (.block 5 (.seq (.seq (.draw [⟨some 108, .move (.tmp 5), none, false⟩,
    ⟨some 109, .move (.tmp 12), none, false⟩,
    ⟨some 110, .indexAddr 48 (.tmp 108) (.tmp 109), none, false⟩,
    ⟨some 111, .load 50 (.tmp 110), none, false⟩,
    ⟨some 112, .move (.tmp 12), none, false⟩,
    ⟨some 113, .indexAddr 61 (.tmp 6) (.tmp 112), none, false⟩,
    ⟨some 114, .load 50 (.tmp 113), none, false⟩]
    [⟨some 115, .binOp .neq 50 (.tmp 111) (.tmp 114) 50, none, false⟩])
  (.cond (.tmp 115)
    (.seq (.region [⟨some 4, .assign (.const (.bool false)), none, false⟩])
    .ret)
    .skip))
  (.seq (.draw [⟨some 116, .move (.tmp 12), none, false⟩,
    ⟨some 117, .indexAddr 61 (.tmp 6) (.tmp 116), none, false⟩,
    ⟨some 118, .fieldAddr 50 (.tmp 117) 0, none, false⟩,
    ⟨some 119, .load 2 (.tmp 118), none, false⟩,
    ⟨some 120, .fieldAddr 50 (.tmp 11) 0, none, false⟩,
    ⟨some 121, .load 2 (.tmp 120), none, false⟩,
    ⟨some 122, .binOp .lss 2 (.tmp 119) (.tmp 121) 2, none, false⟩,
    ⟨some 123, .move (.tmp 122), none, false⟩,
    ⟨some 124, .move (.tmp 12), some (123, false), false⟩,
    ⟨some 125, .indexAddr 61 (.tmp 6) (.tmp 124), some (123, false), false⟩,
    ⟨some 126, .fieldAddr 50 (.tmp 125) 0, some (123, false), false⟩,
    ⟨some 127, .load 2 (.tmp 126), some (123, false), false⟩,
    ⟨some 128, .fieldAddr 50 (.tmp 11) 0, some (123, false), false⟩,
    ⟨some 129, .load 2 (.tmp 128), some (123, false), false⟩,
    ⟨some 130, .binOp .eql 2 (.tmp 127) (.tmp 129) 2, some (123, false), false⟩,
    ⟨some 131, .move (.tmp 130), some (123, false), false⟩,
    ⟨some 132, .move (.tmp 12), some (131, true), false⟩,
    ⟨some 133, .indexAddr 61 (.tmp 6) (.tmp 132), some (131, true), false⟩,
    ⟨some 134, .fieldAddr 50 (.tmp 133) 1, some (131, true), false⟩,
    ⟨some 135, .load 3 (.tmp 134), some (131, true), false⟩,
    ⟨some 136, .fieldAddr 50 (.tmp 11) 1, some (131, true), false⟩,
    ⟨some 137, .load 3 (.tmp 136), some (131, true), false⟩]
    [⟨some 138, .binOp .lss 3 (.tmp 135) (.tmp 137) 3, some (131, true), false⟩,
    ⟨some 139, .pick (.tmp 131) (.tmp 138) (.const (.bool false)), some (123, false), false⟩,
    ⟨some 140, .pick (.tmp 123) (.const (.bool true)) (.tmp 139), none, false⟩])
  (.cond (.tmp 140)
    (.region [⟨some 141, .move (.tmp 12), none, false⟩,
      ⟨some 142, .indexAddr 61 (.tmp 6) (.tmp 141), none, false⟩,
      ⟨some 143, .load 50 (.tmp 142), none, false⟩,
      ⟨none, .store 50 (.tmp 11) (.tmp 143), none, false⟩])
    .skip))))
  (.region [⟨some 106, .move (.tmp 12), none, false⟩,
    ⟨some 107, .binOp .add 3 (.tmp 106) (.const (.int .i64 1)) 3, none, false⟩,
    ⟨some 12, .assign (.tmp 107), none, false⟩])))
/-- prefect/prefectlaw11.VectorRaises -/
def pc8 : PC :=
  (.seq (.region [⟨some 3, .box 50 (.tmp 1), none, false⟩,
    ⟨some 4, .assign (.const (.bool false)), none, false⟩])
  (.seq (.seq (.region [⟨some 14, .call ⟨.value (.func 18), #[], #[]⟩, none, false⟩,
    ⟨some 15, .unOp .not 4 (.tmp 14), none, false⟩])
  (.cond (.tmp 15)
    (.seq (.region [⟨some 4, .assign (.const (.bool false)), none, false⟩])
    .ret)
    .skip))
  (.seq (.seq (.region [⟨some 16, .move (.tmp 0), none, false⟩,
    ⟨some 17, .call ⟨.builtin .len, #[.tmp 16], #[47]⟩, none, false⟩,
    ⟨some 18, .binOp .gtr 3 (.tmp 17) (.const (.int .i64 30)) 3, none, false⟩])
  (.cond (.tmp 18)
    (.seq (.region [⟨some 4, .assign (.const (.bool true)), none, false⟩])
    .ret)
    .skip))
  (.seq (.region [⟨some 19, .call ⟨.value (.func 20), #[.const (.int .i64 3)], #[3]⟩, none, false⟩,
    ⟨some 5, .assign (.tmp 19), none, false⟩])
  (.seq (.region [⟨some 6, .alloc 61, none, true⟩])
  (.seq (.seq (.region [⟨some 7, .assign (.const (.int .i64 0)), none, false⟩])
  (.block 0 (.loop pc8L0)))
  (.seq (.seq (.region [⟨some 8, .assign (.const (.int .i64 0)), none, false⟩])
  (.block 2 (.loop pc8L2)))
  (.seq (.seq (.region [⟨some 99, .move (.tmp 5), none, false⟩,
    ⟨some 100, .call ⟨.builtin .len, #[.tmp 99], #[48]⟩, none, false⟩,
    ⟨some 101, .binOp .neq 3 (.tmp 100) (.const (.int .i64 3)) 3, none, false⟩])
  (.cond (.tmp 101)
    (.seq (.region [⟨some 4, .assign (.const (.bool false)), none, false⟩])
    .ret)
    .skip))
  (.seq (.region [⟨some 102, .indexAddr 61 (.tmp 6) (.const (.int .i64 0)), none, false⟩,
    ⟨some 103, .load 50 (.tmp 102), none, false⟩,
    ⟨some 11, .alloc 50, none, false⟩,
    ⟨none, .store 50 (.tmp 11) (.tmp 103), none, false⟩])
  (.seq (.seq (.region [⟨some 12, .assign (.const (.int .i64 0)), none, false⟩])
  (.block 4 (.loop pc8L4)))
  (.seq (.draw [⟨some 144, .fieldAddr 50 (.tmp 3) 2, none, false⟩,
    ⟨some 145, .load 3 (.tmp 144), none, false⟩,
    ⟨some 146, .binOp .geq 3 (.tmp 145) (.const (.int .i64 0)) 3, none, false⟩,
    ⟨some 147, .move (.tmp 146), none, false⟩,
    ⟨some 148, .fieldAddr 50 (.tmp 3) 2, some (147, true), false⟩,
    ⟨some 149, .load 3 (.tmp 148), some (147, true), false⟩,
    ⟨some 150, .binOp .lss 3 (.tmp 149) (.const (.int .i64 3)) 3, some (147, true), false⟩,
    ⟨some 151, .pick (.tmp 147) (.tmp 150) (.const (.bool false)), none, false⟩,
    ⟨some 152, .move (.tmp 151), none, false⟩,
    ⟨some 153, .fieldAddr 50 (.tmp 3) 0, some (152, true), false⟩,
    ⟨some 154, .load 2 (.tmp 153), some (152, true), false⟩,
    ⟨some 155, .fieldAddr 50 (.tmp 3) 2, some (152, true), false⟩,
    ⟨some 156, .load 3 (.tmp 155), some (152, true), false⟩,
    ⟨some 157, .call ⟨.builtin .min, #[.tmp 156, .const (.int .i64 2)], #[3, 3]⟩, some (152, true), false⟩,
    ⟨some 158, .call ⟨.builtin .max, #[.const (.int .i64 0), .tmp 157], #[3, 3]⟩, some (152, true), false⟩,
    ⟨some 159, .indexAddr 61 (.tmp 6) (.tmp 158), some (152, true), false⟩,
    ⟨some 160, .fieldAddr 50 (.tmp 159) 0, some (152, true), false⟩,
    ⟨some 161, .load 2 (.tmp 160), some (152, true), false⟩,
    ⟨some 162, .binOp .lss 2 (.tmp 154) (.tmp 161) 2, some (152, true), false⟩,
    ⟨some 163, .move (.tmp 162), some (152, true), false⟩,
    ⟨some 164, .fieldAddr 50 (.tmp 3) 0, some (163, false), false⟩,
    ⟨some 165, .load 2 (.tmp 164), some (163, false), false⟩,
    ⟨some 166, .fieldAddr 50 (.tmp 3) 2, some (163, false), false⟩,
    ⟨some 167, .load 3 (.tmp 166), some (163, false), false⟩,
    ⟨some 168, .call ⟨.builtin .min, #[.tmp 167, .const (.int .i64 2)], #[3, 3]⟩, some (163, false), false⟩,
    ⟨some 169, .call ⟨.builtin .max, #[.const (.int .i64 0), .tmp 168], #[3, 3]⟩, some (163, false), false⟩,
    ⟨some 170, .indexAddr 61 (.tmp 6) (.tmp 169), some (163, false), false⟩,
    ⟨some 171, .fieldAddr 50 (.tmp 170) 0, some (163, false), false⟩,
    ⟨some 172, .load 2 (.tmp 171), some (163, false), false⟩,
    ⟨some 173, .binOp .eql 2 (.tmp 165) (.tmp 172) 2, some (163, false), false⟩,
    ⟨some 174, .move (.tmp 173), some (163, false), false⟩,
    ⟨some 175, .fieldAddr 50 (.tmp 3) 1, some (174, true), false⟩,
    ⟨some 176, .load 3 (.tmp 175), some (174, true), false⟩,
    ⟨some 177, .fieldAddr 50 (.tmp 3) 2, some (174, true), false⟩,
    ⟨some 178, .load 3 (.tmp 177), some (174, true), false⟩,
    ⟨some 179, .call ⟨.builtin .min, #[.tmp 178, .const (.int .i64 2)], #[3, 3]⟩, some (174, true), false⟩,
    ⟨some 180, .call ⟨.builtin .max, #[.const (.int .i64 0), .tmp 179], #[3, 3]⟩, some (174, true), false⟩,
    ⟨some 181, .indexAddr 61 (.tmp 6) (.tmp 180), some (174, true), false⟩,
    ⟨some 182, .fieldAddr 50 (.tmp 181) 1, some (174, true), false⟩,
    ⟨some 183, .load 3 (.tmp 182), some (174, true), false⟩]
    [⟨some 184, .binOp .leq 3 (.tmp 176) (.tmp 183) 3, some (174, true), false⟩,
    ⟨some 185, .pick (.tmp 174) (.tmp 184) (.const (.bool false)), some (163, false), false⟩,
    ⟨some 186, .pick (.tmp 163) (.const (.bool true)) (.tmp 185), some (152, true), false⟩,
    ⟨some 187, .pick (.tmp 152) (.tmp 186) (.const (.bool false)), none, false⟩,
    ⟨some 13, .assign (.tmp 187), none, false⟩])
  (.seq (.draw [⟨some 188, .move (.tmp 5), none, false⟩,
    ⟨some 189, .load 50 (.tmp 3), none, false⟩,
    ⟨some 190, .call ⟨.value (.func 32), #[.tmp 188, .tmp 189], #[48, 50]⟩, none, false⟩,
    ⟨some 191, .move (.tmp 13), none, false⟩,
    ⟨some 192, .binOp .eql 4 (.tmp 190) (.tmp 191) 4, none, false⟩,
    ⟨some 193, .move (.tmp 192), none, false⟩,
    ⟨some 194, .move (.tmp 5), some (193, true), false⟩,
    ⟨some 195, .call ⟨.value (.func 34), #[.tmp 194], #[48]⟩, some (193, true), false⟩,
    ⟨some 196, .load 50 (.tmp 11), some (193, true), false⟩]
    [⟨some 197, .binOp .eql 50 (.tmp 195) (.tmp 196) 50, some (193, true), false⟩,
    ⟨some 198, .pick (.tmp 193) (.tmp 197) (.const (.bool false)), none, false⟩,
    ⟨some 4, .assign (.tmp 198), none, false⟩])
  .ret))))))))))))
def fn8 : PFn := ⟨199, [.tmp 4], pc8, false⟩
theorem fnOk8 : FnOk Try.prog 8 fn8 := ⟨⟨_, _, [1000006], Try.func8, rfl, by kernel_rfl, rfl, rfl, of_decide_eq_true (by kernel_rfl)⟩⟩

/-- prefect/vector.Same$1 -/
def pc54 : PC :=
  (.seq (.region [⟨some 2, .box 50 (.tmp 0), none, false⟩,
    ⟨some 3, .box 50 (.tmp 1), none, false⟩,
    ⟨some 4, .assign (.const (.bool false)), none, false⟩])
  (.seq (.region [⟨some 5, .load 50 (.tmp 2), none, false⟩,
    ⟨some 6, .load 50 (.tmp 3), none, false⟩,
    ⟨some 7, .binOp .eql 50 (.tmp 5) (.tmp 6) 50, none, false⟩,
    ⟨some 4, .assign (.tmp 7), none, false⟩])
  .ret))
def fn54 : PFn := ⟨8, [.tmp 4], pc54, false⟩
theorem fnOk54 : FnOk Try.prog 54 fn54 := ⟨⟨_, _, [], Try.func54, rfl, by kernel_rfl, rfl, rfl, of_decide_eq_true (by kernel_rfl)⟩⟩

def fnOf : FuncId → Option PFn
  | 11 => some fn11
  | 12 => some fn12
  | 41 => some fn41
  | 57 => some fn57
  | 42 => some fn42
  | 13 => some fn13
  | 14 => some fn14
  | 9 => some fn9
  | 38 => some fn38
  | 39 => some fn39
  | 55 => some fn55
  | 40 => some fn40
  | 10 => some fn10
  | 3 => some fn3
  | 4 => some fn4
  | 15 => some fn15
  | 16 => some fn16
  | 43 => some fn43
  | 17 => some fn17
  | 5 => some fn5
  | 20 => some fn20
  | 44 => some fn44
  | 22 => some fn22
  | 46 => some fn46
  | 47 => some fn47
  | 58 => some fn58
  | 61 => some fn61
  | 59 => some fn59
  | 62 => some fn62
  | 60 => some fn60
  | 50 => some fn50
  | 48 => some fn48
  | 24 => some fn24
  | 26 => some fn26
  | 28 => some fn28
  | 30 => some fn30
  | 32 => some fn32
  | 52 => some fn52
  | 34 => some fn34
  | 53 => some fn53
  | 36 => some fn36
  | 18 => some fn18
  | 19 => some fn19
  | 21 => some fn21
  | 45 => some fn45
  | 23 => some fn23
  | 37 => some fn37
  | 51 => some fn51
  | 49 => some fn49
  | 25 => some fn25
  | 27 => some fn27
  | 29 => some fn29
  | 31 => some fn31
  | 33 => some fn33
  | 35 => some fn35
  | 6 => some fn6
  | 7 => some fn7
  | 8 => some fn8
  | 54 => some fn54
  | _ => none
theorem fnOf_ok : ∀ f pf, fnOf f = some pf → FnOk Try.prog f pf := by
  intro f pf h
  unfold fnOf at h
  split at h <;> first | (injection h with h; subst h; first | exact fnOk11 | exact fnOk12 | exact fnOk41 | exact fnOk57 | exact fnOk42 | exact fnOk13 | exact fnOk14 | exact fnOk9 | exact fnOk38 | exact fnOk39 | exact fnOk55 | exact fnOk40 | exact fnOk10 | exact fnOk3 | exact fnOk4 | exact fnOk15 | exact fnOk16 | exact fnOk43 | exact fnOk17 | exact fnOk5 | exact fnOk20 | exact fnOk44 | exact fnOk22 | exact fnOk46 | exact fnOk47 | exact fnOk58 | exact fnOk61 | exact fnOk59 | exact fnOk62 | exact fnOk60 | exact fnOk50 | exact fnOk48 | exact fnOk24 | exact fnOk26 | exact fnOk28 | exact fnOk30 | exact fnOk32 | exact fnOk52 | exact fnOk34 | exact fnOk53 | exact fnOk36 | exact fnOk18 | exact fnOk19 | exact fnOk21 | exact fnOk45 | exact fnOk23 | exact fnOk37 | exact fnOk51 | exact fnOk49 | exact fnOk25 | exact fnOk27 | exact fnOk29 | exact fnOk31 | exact fnOk33 | exact fnOk35 | exact fnOk6 | exact fnOk7 | exact fnOk8 | exact fnOk54) | cases h
end Go.Proofs.Ythcchjhieolflaa.M

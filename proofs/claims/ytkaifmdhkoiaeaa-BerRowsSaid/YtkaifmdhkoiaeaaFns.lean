/- The functions, compiled for the abstract machine (made by a program of mine, gen.py). -/
import Derived.Test.YtkaifmdhkoiaeaaTy
namespace Go.Proofs.Ytkaifmdhkoiaeaa.M
open Go Go.Pam

def pc13L4 : PC :=
  (.seq (.region [⟨some 45, .binOp .lss 3 (.tmp 44) (.tmp 43) 3, none⟩])
  (.seq (.cond (.tmp 45)
    .skip
    (.exit 4))
  (.seq (.block 5 (.seq (.region [⟨some 46, .indexAddr 45 (.tmp 42) (.tmp 44), none⟩,
    ⟨some 47, .load 5 (.tmp 46), none⟩,
    ⟨some 8, .assign (.tmp 47), none⟩])
  (.region [⟨some 48, .move (.tmp 5), none⟩,
    ⟨some 49, .binOp .shl 3 (.tmp 48) (.const (.int .u64 8)) 46, none⟩,
    ⟨some 50, .move (.tmp 8), none⟩,
    ⟨some 51, .convert 5 3 (.tmp 50), none⟩,
    ⟨some 52, .binOp .or 3 (.tmp 49) (.tmp 51) 3, none⟩,
    ⟨some 5, .assign (.tmp 52), none⟩])))
  (.region [⟨some 53, .binOp .add 3 (.tmp 44) (.const (.int .i64 1)) 3, none⟩,
    ⟨some 44, .move (.tmp 53), none⟩]))))
/-- prefect/ber.Head -/
def pc13 : PC :=
  (.seq (.region [⟨some 2, .assign (.const (.int .i64 0)), none⟩,
    ⟨some 3, .assign (.const (.int .i64 0)), none⟩,
    ⟨some 4, .assign (.const (.int .i64 0)), none⟩])
  (.seq (.seq (.region [⟨some 9, .move (.tmp 0), none⟩,
    ⟨some 10, .binOp .eql 9 (.tmp 9) (.const (.string ⟨#[]⟩)) 9, none⟩])
  (.cond (.tmp 10)
    (.seq (.region [⟨some 2, .assign (.const (.int .i64 0)), none⟩,
      ⟨some 3, .assign (.const (.int .i64 0)), none⟩,
      ⟨some 4, .assign (.const (.int .i64 10)), none⟩])
    .ret)
    .skip))
  (.seq (.seq (.region [⟨some 11, .move (.tmp 0), none⟩,
    ⟨some 12, .index 9 (.tmp 11) (.const (.int .i64 0)), none⟩,
    ⟨some 13, .binOp .and 5 (.tmp 12) (.const (.int .u8 31)) 5, none⟩,
    ⟨some 14, .binOp .eql 5 (.tmp 13) (.const (.int .u8 31)) 5, none⟩])
  (.cond (.tmp 14)
    (.seq (.region [⟨some 2, .assign (.const (.int .i64 0)), none⟩,
      ⟨some 3, .assign (.const (.int .i64 0)), none⟩,
      ⟨some 4, .assign (.const (.int .i64 14)), none⟩])
    .ret)
    .skip))
  (.seq (.seq (.region [⟨some 15, .move (.tmp 0), none⟩,
    ⟨some 16, .call ⟨.builtin .len, #[.tmp 15], #[9]⟩, none⟩,
    ⟨some 17, .binOp .eql 3 (.tmp 16) (.const (.int .i64 1)) 3, none⟩])
  (.cond (.tmp 17)
    (.seq (.region [⟨some 2, .assign (.const (.int .i64 0)), none⟩,
      ⟨some 3, .assign (.const (.int .i64 0)), none⟩,
      ⟨some 4, .assign (.const (.int .i64 10)), none⟩])
    .ret)
    .skip))
  (.seq (.region [⟨some 18, .move (.tmp 0), none⟩,
    ⟨some 19, .index 9 (.tmp 18) (.const (.int .i64 1)), none⟩,
    ⟨some 20, .convert 5 3 (.tmp 19), none⟩,
    ⟨some 5, .assign (.tmp 20), none⟩])
  (.seq (.region [⟨some 6, .assign (.const (.int .i64 0)), none⟩])
  (.seq (.block 0 (.seq (.block 3 (.seq (.block 2 (.seq (.block 1 (.seq (.seq (.seq (.region [⟨some 22, .move (.tmp 5), none⟩,
    ⟨some 23, .binOp .eql 3 (.tmp 22) (.const (.int .i64 128)) 3, none⟩,
    ⟨some 24, .move (.tmp 23), none⟩,
    ⟨some 25, .move (.tmp 5), some (24, false)⟩,
    ⟨some 26, .binOp .gtr 3 (.tmp 25) (.const (.int .i64 132)) 3, some (24, false)⟩,
    ⟨some 27, .pick (.tmp 24) (.const (.bool true)) (.tmp 26), none⟩,
    ⟨some 21, .assign (.tmp 27), none⟩])
  (.cond (.tmp 21)
    (.exit 1)
    .skip))
  (.seq (.region [⟨some 29, .move (.tmp 5), none⟩,
    ⟨some 30, .binOp .gtr 3 (.tmp 29) (.const (.int .i64 128)) 3, none⟩,
    ⟨some 28, .assign (.tmp 30), none⟩])
  (.cond (.tmp 28)
    (.exit 2)
    .skip)))
  (.exit 3)))
  (.seq (.seq (.region [⟨some 2, .assign (.const (.int .i64 0)), none⟩,
    ⟨some 3, .assign (.const (.int .i64 0)), none⟩,
    ⟨some 4, .assign (.const (.int .i64 11)), none⟩])
  .ret)
  (.exit 0))))
  (.seq (.region [⟨some 31, .move (.tmp 5), none⟩,
    ⟨some 32, .binOp .sub 3 (.tmp 31) (.const (.int .i64 128)) 3, none⟩,
    ⟨some 6, .assign (.tmp 32), none⟩])
  (.seq (.seq (.region [⟨some 33, .move (.tmp 0), none⟩,
    ⟨some 34, .call ⟨.builtin .len, #[.tmp 33], #[9]⟩, none⟩,
    ⟨some 35, .move (.tmp 6), none⟩,
    ⟨some 36, .binOp .add 3 (.const (.int .i64 2)) (.tmp 35) 3, none⟩,
    ⟨some 37, .binOp .lss 3 (.tmp 34) (.tmp 36) 3, none⟩])
  (.cond (.tmp 37)
    (.seq (.region [⟨some 2, .assign (.const (.int .i64 0)), none⟩,
      ⟨some 3, .assign (.const (.int .i64 0)), none⟩,
      ⟨some 4, .assign (.const (.int .i64 10)), none⟩])
    .ret)
    .skip))
  (.seq (.region [⟨some 5, .assign (.const (.int .i64 0)), none⟩])
  (.seq (.region [⟨some 38, .move (.tmp 0), none⟩,
    ⟨some 39, .move (.tmp 6), none⟩,
    ⟨some 40, .binOp .add 3 (.const (.int .i64 2)) (.tmp 39) 3, none⟩,
    ⟨some 41, .slice 9 (.tmp 38) (some (.const (.int .i64 2))) (some (.tmp 40)) none, none⟩,
    ⟨some 42, .convert 9 45 (.tmp 41), none⟩,
    ⟨some 43, .call ⟨.builtin .len, #[.tmp 42], #[45]⟩, none⟩,
    ⟨some 44, .move (.const (.int .i64 0)), none⟩])
  (.block 4 (.loop pc13L4))))))))
  (.seq (.seq (.region [⟨some 54, .move (.tmp 5), none⟩,
    ⟨some 55, .binOp .gtr 3 (.tmp 54) (.const (.int .i64 4000)) 3, none⟩])
  (.cond (.tmp 55)
    (.seq (.region [⟨some 2, .assign (.const (.int .i64 0)), none⟩,
      ⟨some 3, .assign (.const (.int .i64 0)), none⟩,
      ⟨some 4, .assign (.const (.int .i64 13)), none⟩])
    .ret)
    .skip))
  (.exit 0))))
  (.seq (.region [⟨some 56, .move (.tmp 6), none⟩,
    ⟨some 57, .binOp .add 3 (.const (.int .i64 2)) (.tmp 56) 3, none⟩,
    ⟨some 58, .move (.tmp 5), none⟩,
    ⟨some 2, .assign (.tmp 57), none⟩,
    ⟨some 3, .assign (.tmp 58), none⟩,
    ⟨some 4, .assign (.const (.int .i64 0)), none⟩])
  .ret))))))))
def fn13 : PFn := ⟨59, [.tmp 2, .tmp 3, .tmp 4], pc13⟩
theorem fnOk13 : FnOk Try.prog 13 fn13 := ⟨⟨_, _, Try.func13, rfl, by kernel_rfl, rfl, rfl, of_decide_eq_true (by kernel_rfl)⟩⟩

def pc22L0 : PC :=
  (.seq (.seq (.region [⟨some 89, .move (.tmp 16), none⟩,
    ⟨some 90, .move (.tmp 14), none⟩,
    ⟨some 91, .move (.tmp 12), none⟩,
    ⟨some 92, .binOp .add 3 (.tmp 90) (.tmp 91) 3, none⟩,
    ⟨some 93, .binOp .lss 3 (.tmp 89) (.tmp 92) 3, none⟩])
  (.cond (.tmp 93)
    .skip
    (.exit 0)))
  (.block 1 (.seq (.region [⟨some 95, .move (.tmp 0), none⟩,
    ⟨some 96, .move (.tmp 16), none⟩,
    ⟨some 97, .move (.tmp 14), none⟩,
    ⟨some 98, .move (.tmp 12), none⟩,
    ⟨some 99, .binOp .add 3 (.tmp 97) (.tmp 98) 3, none⟩,
    ⟨some 100, .move (.tmp 3), none⟩,
    ⟨some 101, .binOp .add 3 (.tmp 100) (.const (.int .i64 1)) 3, none⟩,
    ⟨some 102, .call ⟨.value (.func 22), #[.tmp 95, .tmp 96, .tmp 99, .tmp 101], #[54, 3, 3, 3]⟩, none⟩,
    ⟨some 94, .move (.tmp 102), none⟩,
    ⟨some 103, .extract (.tmp 94) 0, none⟩,
    ⟨some 104, .extract (.tmp 94) 1, none⟩,
    ⟨some 105, .extract (.tmp 94) 2, none⟩,
    ⟨some 17, .alloc 25, none⟩,
    ⟨none, .store 25 (.tmp 17) (.tmp 103), none⟩,
    ⟨some 18, .assign (.tmp 104), none⟩,
    ⟨some 19, .assign (.tmp 105), none⟩])
  (.seq (.seq (.region [⟨some 106, .move (.tmp 19), none⟩,
    ⟨some 107, .binOp .neq 26 (.tmp 106) (.const (.int .i64 0)) 26, none⟩])
  (.cond (.tmp 107)
    (.seq (.region [⟨some 108, .build 25 #[], none⟩,
      ⟨some 109, .move (.tmp 19), none⟩,
      ⟨none, .store 25 (.tmp 8) (.tmp 108), none⟩,
      ⟨some 9, .assign (.const (.int .i64 0)), none⟩,
      ⟨some 10, .assign (.tmp 109), none⟩])
    .ret)
    .skip))
  (.seq (.region [⟨some 110, .fieldAddr 25 (.tmp 15) 2, none⟩,
    ⟨some 111, .load 23 (.tmp 110), none⟩,
    ⟨some 112, .load 25 (.tmp 17), none⟩,
    ⟨some 113, .buildSlice 23 1 #[(0, .tmp 112)], none⟩,
    ⟨some 114, .call ⟨.builtin .append, #[.tmp 111, .tmp 113], #[23, 23]⟩, none⟩,
    ⟨some 115, .fieldAddr 25 (.tmp 15) 2, none⟩,
    ⟨none, .store 23 (.tmp 115) (.tmp 114), none⟩])
  (.region [⟨some 116, .move (.tmp 18), none⟩,
    ⟨some 16, .assign (.tmp 116), none⟩]))))))
/-- (*prefect/ber.reader).read -/
def pc22 : PC :=
  (.seq (.region [⟨some 8, .alloc 25, none⟩,
    ⟨some 9, .assign (.const (.int .i64 0)), none⟩,
    ⟨some 10, .assign (.const (.int .i64 0)), none⟩])
  (.seq (.region [⟨some 20, .move (.tmp 0), none⟩,
    ⟨some 21, .move (.tmp 1), none⟩,
    ⟨some 22, .nilCheck (.tmp 20), none⟩,
    ⟨some 23, .fieldAddr 56 (.tmp 22) 1, none⟩,
    ⟨none, .store 3 (.tmp 23) (.tmp 21), none⟩])
  (.seq (.seq (.region [⟨some 24, .move (.tmp 3), none⟩,
    ⟨some 25, .binOp .gtr 3 (.tmp 24) (.const (.int .i64 20)) 3, none⟩])
  (.cond (.tmp 25)
    (.seq (.region [⟨some 26, .build 25 #[], none⟩,
      ⟨none, .store 25 (.tmp 8) (.tmp 26), none⟩,
      ⟨some 9, .assign (.const (.int .i64 0)), none⟩,
      ⟨some 10, .assign (.const (.int .i64 12)), none⟩])
    .ret)
    .skip))
  (.seq (.region [⟨some 28, .move (.tmp 0), none⟩,
    ⟨some 29, .nilCheck (.tmp 28), none⟩,
    ⟨some 30, .fieldAddr 56 (.tmp 29) 0, none⟩,
    ⟨some 31, .load 9 (.tmp 30), none⟩,
    ⟨some 32, .move (.tmp 1), none⟩,
    ⟨some 33, .move (.tmp 2), none⟩,
    ⟨some 34, .slice 9 (.tmp 31) (some (.tmp 32)) (some (.tmp 33)) none, none⟩,
    ⟨some 35, .call ⟨.value (.func 13), #[.tmp 34], #[9]⟩, none⟩,
    ⟨some 27, .move (.tmp 35), none⟩,
    ⟨some 36, .extract (.tmp 27) 0, none⟩,
    ⟨some 37, .extract (.tmp 27) 1, none⟩,
    ⟨some 38, .extract (.tmp 27) 2, none⟩,
    ⟨some 11, .assign (.tmp 36), none⟩,
    ⟨some 12, .assign (.tmp 37), none⟩,
    ⟨some 13, .assign (.tmp 38), none⟩])
  (.seq (.seq (.region [⟨some 39, .move (.tmp 13), none⟩,
    ⟨some 40, .binOp .eql 26 (.tmp 39) (.const (.int .i64 0)) 26, none⟩,
    ⟨some 41, .move (.tmp 40), none⟩,
    ⟨some 42, .move (.tmp 12), some (41, true)⟩,
    ⟨some 43, .move (.tmp 2), some (41, true)⟩,
    ⟨some 44, .move (.tmp 1), some (41, true)⟩,
    ⟨some 45, .binOp .sub 3 (.tmp 43) (.tmp 44) 3, some (41, true)⟩,
    ⟨some 46, .move (.tmp 11), some (41, true)⟩,
    ⟨some 47, .binOp .sub 3 (.tmp 45) (.tmp 46) 3, some (41, true)⟩,
    ⟨some 48, .binOp .gtr 3 (.tmp 42) (.tmp 47) 3, some (41, true)⟩,
    ⟨some 49, .pick (.tmp 41) (.tmp 48) (.const (.bool false)), none⟩])
  (.cond (.tmp 49)
    (.region [⟨some 13, .assign (.const (.int .i64 10)), none⟩])
    .skip))
  (.seq (.seq (.region [⟨some 50, .move (.tmp 13), none⟩,
    ⟨some 51, .binOp .eql 26 (.tmp 50) (.const (.int .i64 10)) 26, none⟩,
    ⟨some 52, .move (.tmp 51), none⟩,
    ⟨some 53, .move (.tmp 3), some (52, true)⟩,
    ⟨some 54, .binOp .gtr 3 (.tmp 53) (.const (.int .i64 1)) 3, some (52, true)⟩,
    ⟨some 55, .pick (.tmp 52) (.tmp 54) (.const (.bool false)), none⟩])
  (.cond (.tmp 55)
    (.region [⟨some 13, .assign (.const (.int .i64 11)), none⟩])
    .skip))
  (.seq (.seq (.region [⟨some 56, .move (.tmp 13), none⟩,
    ⟨some 57, .binOp .neq 26 (.tmp 56) (.const (.int .i64 0)) 26, none⟩])
  (.cond (.tmp 57)
    (.seq (.region [⟨some 58, .build 25 #[], none⟩,
      ⟨some 59, .move (.tmp 13), none⟩,
      ⟨none, .store 25 (.tmp 8) (.tmp 58), none⟩,
      ⟨some 9, .assign (.const (.int .i64 0)), none⟩,
      ⟨some 10, .assign (.tmp 59), none⟩])
    .ret)
    .skip))
  (.seq (.region [⟨some 60, .move (.tmp 1), none⟩,
    ⟨some 61, .move (.tmp 11), none⟩,
    ⟨some 62, .binOp .add 3 (.tmp 60) (.tmp 61) 3, none⟩,
    ⟨some 14, .assign (.tmp 62), none⟩])
  (.seq (.region [⟨some 63, .move (.tmp 0), none⟩,
    ⟨some 64, .nilCheck (.tmp 63), none⟩,
    ⟨some 65, .fieldAddr 56 (.tmp 64) 0, none⟩,
    ⟨some 66, .load 9 (.tmp 65), none⟩,
    ⟨some 67, .move (.tmp 1), none⟩,
    ⟨some 68, .index 9 (.tmp 66) (.tmp 67), none⟩,
    ⟨some 69, .build 25 #[(0, .tmp 68)], none⟩,
    ⟨some 15, .alloc 25, none⟩,
    ⟨none, .store 25 (.tmp 15) (.tmp 69), none⟩])
  (.seq (.seq (.region [⟨some 70, .fieldAddr 25 (.tmp 15) 0, none⟩,
    ⟨some 71, .load 5 (.tmp 70), none⟩,
    ⟨some 72, .binOp .and 5 (.tmp 71) (.const (.int .u8 32)) 5, none⟩,
    ⟨some 73, .binOp .eql 5 (.tmp 72) (.const (.int .u8 0)) 5, none⟩])
  (.cond (.tmp 73)
    (.seq (.region [⟨some 74, .move (.tmp 0), none⟩,
      ⟨some 75, .nilCheck (.tmp 74), none⟩,
      ⟨some 76, .fieldAddr 56 (.tmp 75) 0, none⟩,
      ⟨some 77, .load 9 (.tmp 76), none⟩,
      ⟨some 78, .move (.tmp 14), none⟩,
      ⟨some 79, .move (.tmp 14), none⟩,
      ⟨some 80, .move (.tmp 12), none⟩,
      ⟨some 81, .binOp .add 3 (.tmp 79) (.tmp 80) 3, none⟩,
      ⟨some 82, .slice 9 (.tmp 77) (some (.tmp 78)) (some (.tmp 81)) none, none⟩,
      ⟨some 83, .fieldAddr 25 (.tmp 15) 1, none⟩,
      ⟨none, .store 9 (.tmp 83) (.tmp 82), none⟩])
    (.seq (.region [⟨some 84, .load 25 (.tmp 15), none⟩,
      ⟨some 85, .move (.tmp 14), none⟩,
      ⟨some 86, .move (.tmp 12), none⟩,
      ⟨some 87, .binOp .add 3 (.tmp 85) (.tmp 86) 3, none⟩,
      ⟨none, .store 25 (.tmp 8) (.tmp 84), none⟩,
      ⟨some 9, .assign (.tmp 87), none⟩,
      ⟨some 10, .assign (.const (.int .i64 0)), none⟩])
    .ret))
    .skip))
  (.seq (.seq (.region [⟨some 88, .move (.tmp 14), none⟩,
    ⟨some 16, .assign (.tmp 88), none⟩])
  (.block 0 (.loop pc22L0)))
  (.seq (.region [⟨some 117, .load 25 (.tmp 15), none⟩,
    ⟨some 118, .move (.tmp 14), none⟩,
    ⟨some 119, .move (.tmp 12), none⟩,
    ⟨some 120, .binOp .add 3 (.tmp 118) (.tmp 119) 3, none⟩,
    ⟨none, .store 25 (.tmp 8) (.tmp 117), none⟩,
    ⟨some 9, .assign (.tmp 120), none⟩,
    ⟨some 10, .assign (.const (.int .i64 0)), none⟩])
  .ret))))))))))))
def fn22 : PFn := ⟨121, [.cell 8 25, .tmp 9, .tmp 10], pc22⟩
theorem fnOk22 : FnOk Try.prog 22 fn22 := ⟨⟨_, _, Try.func22, rfl, by kernel_rfl, rfl, rfl, of_decide_eq_true (by kernel_rfl)⟩⟩

/-- prefect/ber.Read -/
def pc11 : PC :=
  (.seq (.region [⟨some 2, .alloc 25, none⟩,
    ⟨some 3, .assign (.const (.int .i64 0)), none⟩,
    ⟨some 4, .assign (.const (.int .i64 0)), none⟩,
    ⟨some 5, .assign (.const (.int .i64 0)), none⟩])
  (.seq (.region [⟨some 10, .move (.tmp 0), none⟩,
    ⟨some 11, .build 56 #[(0, .tmp 10)], none⟩,
    ⟨some 12, .box 56 (.tmp 11), none⟩,
    ⟨some 6, .assign (.tmp 12), none⟩])
  (.seq (.region [⟨some 14, .move (.tmp 6), none⟩,
    ⟨some 15, .move (.tmp 0), none⟩,
    ⟨some 16, .call ⟨.builtin .len, #[.tmp 15], #[9]⟩, none⟩,
    ⟨some 17, .call ⟨.value (.func 22), #[.tmp 14, .const (.int .i64 0), .tmp 16, .const (.int .i64 1)], #[54, 3, 3, 3]⟩, none⟩,
    ⟨some 13, .move (.tmp 17), none⟩,
    ⟨some 18, .extract (.tmp 13) 0, none⟩,
    ⟨some 19, .extract (.tmp 13) 1, none⟩,
    ⟨some 20, .extract (.tmp 13) 2, none⟩,
    ⟨some 7, .alloc 25, none⟩,
    ⟨none, .store 25 (.tmp 7) (.tmp 18), none⟩,
    ⟨some 8, .assign (.tmp 19), none⟩,
    ⟨some 9, .assign (.tmp 20), none⟩])
  (.seq (.seq (.region [⟨some 21, .move (.tmp 9), none⟩,
    ⟨some 22, .binOp .neq 26 (.tmp 21) (.const (.int .i64 0)) 26, none⟩])
  (.cond (.tmp 22)
    (.seq (.draw [⟨some 23, .build 25 #[], none⟩,
      ⟨some 24, .move (.tmp 6), none⟩,
      ⟨some 25, .nilCheck (.tmp 24), none⟩,
      ⟨some 26, .fieldAddr 56 (.tmp 25) 1, none⟩,
      ⟨some 27, .load 3 (.tmp 26), none⟩,
      ⟨some 28, .move (.tmp 9), none⟩,
      ⟨none, .store 25 (.tmp 2) (.tmp 23), none⟩,
      ⟨some 3, .assign (.const (.int .i64 0)), none⟩,
      ⟨some 4, .assign (.tmp 27), none⟩]
      [⟨some 5, .assign (.tmp 28), none⟩])
    .ret)
    .skip))
  (.seq (.region [⟨some 29, .load 25 (.tmp 7), none⟩,
    ⟨some 30, .move (.tmp 8), none⟩,
    ⟨none, .store 25 (.tmp 2) (.tmp 29), none⟩,
    ⟨some 3, .assign (.tmp 30), none⟩,
    ⟨some 4, .assign (.const (.int .i64 0)), none⟩,
    ⟨some 5, .assign (.const (.int .i64 0)), none⟩])
  .ret)))))
def fn11 : PFn := ⟨31, [.cell 2 25, .tmp 3, .tmp 4, .tmp 5], pc11⟩
theorem fnOk11 : FnOk Try.prog 11 fn11 := ⟨⟨_, _, Try.func11, rfl, by kernel_rfl, rfl, rfl, of_decide_eq_true (by kernel_rfl)⟩⟩

def pc34L0 : PC :=
  (.seq (.region [⟨some 9, .binOp .lss 3 (.tmp 8) (.tmp 7) 3, none⟩])
  (.seq (.cond (.tmp 9)
    .skip
    (.exit 0))
  (.seq (.block 1 (.seq (.region [⟨some 10, .move (.tmp 8), none⟩,
    ⟨some 5, .assign (.tmp 10), none⟩])
  (.seq (.region [⟨some 11, .move (.tmp 1), none⟩,
    ⟨some 12, .move (.tmp 0), none⟩,
    ⟨some 13, .move (.tmp 5), none⟩,
    ⟨some 14, .indexAddr 23 (.tmp 12) (.tmp 13), none⟩,
    ⟨some 15, .load 25 (.tmp 14), none⟩,
    ⟨some 16, .call ⟨.value (.tmp 11), #[.tmp 15], #[25]⟩, none⟩])
  (.cond (.tmp 16)
    (.seq (.region [⟨some 17, .move (.tmp 5), none⟩,
      ⟨some 4, .assign (.tmp 17), none⟩])
    .ret)
    .skip))))
  (.region [⟨some 18, .binOp .add 3 (.tmp 8) (.const (.int .i64 1)) 3, none⟩,
    ⟨some 8, .move (.tmp 18), none⟩]))))
/-- slices.IndexFunc[[]prefect/api.Element,prefect/api.Element] -/
def pc34 : PC :=
  (.seq (.region [⟨some 4, .assign (.const (.int .i64 0)), none⟩])
  (.seq (.seq (.region [⟨some 6, .move (.tmp 0), none⟩,
    ⟨some 7, .call ⟨.builtin .len, #[.tmp 6], #[23]⟩, none⟩,
    ⟨some 8, .move (.const (.int .i64 0)), none⟩])
  (.block 0 (.loop pc34L0)))
  (.seq (.region [⟨some 4, .assign (.const (.int .i64 (-1))), none⟩])
  .ret)))
def fn34 : PFn := ⟨19, [.tmp 4], pc34⟩
theorem fnOk34 : FnOk Try.prog 34 fn34 := ⟨⟨_, _, Try.func34, rfl, by kernel_rfl, rfl, rfl, of_decide_eq_true (by kernel_rfl)⟩⟩

/-- slices.ContainsFunc[[]prefect/api.Element,prefect/api.Element] -/
def pc31 : PC :=
  (.seq (.region [⟨some 4, .assign (.const (.bool false)), none⟩])
  (.seq (.region [⟨some 5, .move (.tmp 0), none⟩,
    ⟨some 6, .move (.tmp 1), none⟩,
    ⟨some 7, .call ⟨.value (.func 34), #[.tmp 5, .tmp 6], #[23, 42]⟩, none⟩,
    ⟨some 8, .binOp .geq 3 (.tmp 7) (.const (.int .i64 0)) 3, none⟩,
    ⟨some 4, .assign (.tmp 8), none⟩])
  .ret))
def fn31 : PFn := ⟨9, [.tmp 4], pc31⟩
theorem fnOk31 : FnOk Try.prog 31 fn31 := ⟨⟨_, _, Try.func31, rfl, by kernel_rfl, rfl, rfl, of_decide_eq_true (by kernel_rfl)⟩⟩

/-- prefect/ber.formed -/
def pc24 : PC :=
  (.seq (.region [⟨some 1, .box 25 (.tmp 0), none⟩,
    ⟨some 2, .assign (.const (.bool false)), none⟩])
  (.seq (.block 0 (.seq (.region [⟨some 4, .fieldAddr 25 (.tmp 1) 0, none⟩,
    ⟨some 5, .load 5 (.tmp 4), none⟩,
    ⟨some 6, .binOp .and 5 (.tmp 5) (.const (.int .u8 31)) 5, none⟩,
    ⟨some 7, .binOp .eql 5 (.tmp 6) (.const (.int .u8 31)) 5, none⟩,
    ⟨some 3, .assign (.tmp 7), none⟩])
  (.cond (.tmp 3)
    (.seq (.region [⟨some 2, .assign (.const (.bool false)), none⟩])
    .ret)
    (.seq (.region [⟨some 9, .fieldAddr 25 (.tmp 1) 0, none⟩,
      ⟨some 10, .load 5 (.tmp 9), none⟩,
      ⟨some 11, .binOp .and 5 (.tmp 10) (.const (.int .u8 32)) 5, none⟩,
      ⟨some 12, .binOp .eql 5 (.tmp 11) (.const (.int .u8 0)) 5, none⟩,
      ⟨some 8, .assign (.tmp 12), none⟩])
    (.cond (.tmp 8)
      (.seq (.region [⟨some 13, .fieldAddr 25 (.tmp 1) 2, none⟩,
        ⟨some 14, .load 23 (.tmp 13), none⟩,
        ⟨some 15, .call ⟨.builtin .len, #[.tmp 14], #[23]⟩, none⟩,
        ⟨some 16, .binOp .eql 3 (.tmp 15) (.const (.int .i64 0)) 3, none⟩,
        ⟨some 2, .assign (.tmp 16), none⟩])
      .ret)
      .skip)))))
  (.seq (.region [⟨some 17, .fieldAddr 25 (.tmp 1) 1, none⟩,
    ⟨some 18, .load 9 (.tmp 17), none⟩,
    ⟨some 19, .binOp .eql 9 (.tmp 18) (.const (.string ⟨#[]⟩)) 9, none⟩,
    ⟨some 20, .move (.tmp 19), none⟩,
    ⟨some 21, .fieldAddr 25 (.tmp 1) 2, some (20, true)⟩,
    ⟨some 22, .load 23 (.tmp 21), some (20, true)⟩,
    ⟨some 23, .call ⟨.value (.func 31), #[.tmp 22, .func 32], #[23, 42]⟩, some (20, true)⟩,
    ⟨some 24, .unOp .not 4 (.tmp 23), some (20, true)⟩,
    ⟨some 25, .pick (.tmp 20) (.tmp 24) (.const (.bool false)), none⟩,
    ⟨some 2, .assign (.tmp 25), none⟩])
  .ret)))
def fn24 : PFn := ⟨26, [.tmp 2], pc24⟩
theorem fnOk24 : FnOk Try.prog 24 fn24 := ⟨⟨_, _, Try.func24, rfl, by kernel_rfl, rfl, rfl, of_decide_eq_true (by kernel_rfl)⟩⟩

def pc25L0 : PC :=
  (.seq (.region [⟨some 10, .binOp .lss 3 (.tmp 9) (.tmp 8) 3, none⟩])
  (.seq (.cond (.tmp 10)
    .skip
    (.exit 0))
  (.seq (.block 1 (.seq (.region [⟨some 11, .indexAddr 23 (.tmp 7) (.tmp 9), none⟩,
    ⟨some 12, .load 25 (.tmp 11), none⟩,
    ⟨some 5, .alloc 25, none⟩,
    ⟨none, .store 25 (.tmp 5) (.tmp 12), none⟩])
  (.region [⟨some 13, .move (.tmp 3), none⟩,
    ⟨some 14, .load 25 (.tmp 5), none⟩,
    ⟨some 15, .call ⟨.value (.func 25), #[.tmp 14], #[25]⟩, none⟩,
    ⟨some 16, .call ⟨.builtin .max, #[.tmp 13, .tmp 15], #[3, 3]⟩, none⟩,
    ⟨some 3, .assign (.tmp 16), none⟩])))
  (.region [⟨some 17, .binOp .add 3 (.tmp 9) (.const (.int .i64 1)) 3, none⟩,
    ⟨some 9, .move (.tmp 17), none⟩]))))
/-- prefect/ber.deep -/
def pc25 : PC :=
  (.seq (.region [⟨some 1, .box 25 (.tmp 0), none⟩,
    ⟨some 2, .assign (.const (.int .i64 0)), none⟩])
  (.seq (.region [⟨some 3, .assign (.const (.int .i64 0)), none⟩])
  (.seq (.seq (.region [⟨some 6, .fieldAddr 25 (.tmp 1) 2, none⟩,
    ⟨some 7, .load 23 (.tmp 6), none⟩,
    ⟨some 8, .call ⟨.builtin .len, #[.tmp 7], #[23]⟩, none⟩,
    ⟨some 9, .move (.const (.int .i64 0)), none⟩])
  (.block 0 (.loop pc25L0)))
  (.seq (.region [⟨some 18, .move (.tmp 3), none⟩,
    ⟨some 19, .binOp .add 3 (.tmp 18) (.const (.int .i64 1)) 3, none⟩,
    ⟨some 2, .assign (.tmp 19), none⟩])
  .ret))))
def fn25 : PFn := ⟨20, [.tmp 2], pc25⟩
theorem fnOk25 : FnOk Try.prog 25 fn25 := ⟨⟨_, _, Try.func25, rfl, by kernel_rfl, rfl, rfl, of_decide_eq_true (by kernel_rfl)⟩⟩

/-- prefect/ber.length -/
def pc33 : PC :=
  (.seq (.region [⟨some 2, .assign (.const (.string ⟨#[]⟩)), none⟩])
  (.seq (.block 0 (.seq (.region [⟨some 4, .move (.tmp 0), none⟩,
    ⟨some 5, .binOp .lss 3 (.tmp 4) (.const (.int .i64 128)) 3, none⟩,
    ⟨some 3, .assign (.tmp 5), none⟩])
  (.cond (.tmp 3)
    (.seq (.region [⟨some 6, .move (.tmp 0), none⟩,
      ⟨some 7, .convert 3 5 (.tmp 6), none⟩,
      ⟨some 8, .buildSlice 45 1 #[(0, .tmp 7)], none⟩,
      ⟨some 9, .convert 45 9 (.tmp 8), none⟩,
      ⟨some 2, .assign (.tmp 9), none⟩])
    .ret)
    (.seq (.region [⟨some 11, .move (.tmp 0), none⟩,
      ⟨some 12, .binOp .lss 3 (.tmp 11) (.const (.int .i64 256)) 3, none⟩,
      ⟨some 10, .assign (.tmp 12), none⟩])
    (.cond (.tmp 10)
      (.seq (.region [⟨some 13, .move (.tmp 0), none⟩,
        ⟨some 14, .convert 3 5 (.tmp 13), none⟩,
        ⟨some 15, .buildSlice 45 2 #[(0, .const (.int .u8 129)), (1, .tmp 14)], none⟩,
        ⟨some 16, .convert 45 9 (.tmp 15), none⟩,
        ⟨some 2, .assign (.tmp 16), none⟩])
      .ret)
      .skip)))))
  (.seq (.region [⟨some 17, .move (.tmp 0), none⟩,
    ⟨some 18, .binOp .shr 3 (.tmp 17) (.const (.int .u64 8)) 46, none⟩,
    ⟨some 19, .convert 3 5 (.tmp 18), none⟩,
    ⟨some 20, .move (.tmp 0), none⟩,
    ⟨some 21, .convert 3 5 (.tmp 20), none⟩,
    ⟨some 22, .buildSlice 45 3 #[(0, .const (.int .u8 130)), (1, .tmp 19), (2, .tmp 21)], none⟩,
    ⟨some 23, .convert 45 9 (.tmp 22), none⟩,
    ⟨some 2, .assign (.tmp 23), none⟩])
  .ret)))
def fn33 : PFn := ⟨24, [.tmp 2], pc33⟩
theorem fnOk33 : FnOk Try.prog 33 fn33 := ⟨⟨_, _, Try.func33, rfl, by kernel_rfl, rfl, rfl, of_decide_eq_true (by kernel_rfl)⟩⟩

def pc26L0 : PC :=
  (.seq (.region [⟨some 16, .binOp .lss 3 (.tmp 15) (.tmp 14) 3, none⟩])
  (.seq (.cond (.tmp 16)
    .skip
    (.exit 0))
  (.seq (.block 1 (.seq (.region [⟨some 17, .indexAddr 23 (.tmp 13) (.tmp 15), none⟩,
    ⟨some 18, .load 25 (.tmp 17), none⟩,
    ⟨some 6, .alloc 25, none⟩,
    ⟨none, .store 25 (.tmp 6) (.tmp 18), none⟩])
  (.seq (.region [⟨some 20, .load 25 (.tmp 6), none⟩,
    ⟨some 21, .call ⟨.value (.func 26), #[.tmp 20], #[25]⟩, none⟩,
    ⟨some 19, .move (.tmp 21), none⟩,
    ⟨some 22, .extract (.tmp 19) 0, none⟩,
    ⟨some 23, .extract (.tmp 19) 1, none⟩,
    ⟨some 7, .assign (.tmp 22), none⟩,
    ⟨some 8, .assign (.tmp 23), none⟩])
  (.seq (.seq (.region [⟨some 24, .move (.tmp 8), none⟩,
    ⟨some 25, .unOp .not 4 (.tmp 24), none⟩,
    ⟨some 26, .move (.tmp 25), none⟩,
    ⟨some 27, .move (.tmp 4), some (26, false)⟩,
    ⟨some 28, .call ⟨.builtin .len, #[.tmp 27], #[45]⟩, some (26, false)⟩,
    ⟨some 29, .move (.tmp 7), some (26, false)⟩,
    ⟨some 30, .call ⟨.builtin .len, #[.tmp 29], #[9]⟩, some (26, false)⟩,
    ⟨some 31, .binOp .add 3 (.tmp 28) (.tmp 30) 3, some (26, false)⟩,
    ⟨some 32, .binOp .gtr 3 (.tmp 31) (.const (.int .i64 4000)) 3, some (26, false)⟩,
    ⟨some 33, .pick (.tmp 26) (.const (.bool true)) (.tmp 32), none⟩])
  (.cond (.tmp 33)
    (.seq (.region [⟨some 2, .assign (.const (.string ⟨#[]⟩)), none⟩,
      ⟨some 3, .assign (.const (.bool false)), none⟩])
    .ret)
    .skip))
  (.region [⟨some 34, .move (.tmp 4), none⟩,
    ⟨some 35, .move (.tmp 7), none⟩,
    ⟨some 36, .call ⟨.builtin .append, #[.tmp 34, .tmp 35], #[45, 9]⟩, none⟩,
    ⟨some 4, .assign (.tmp 36), none⟩])))))
  (.region [⟨some 37, .binOp .add 3 (.tmp 15) (.const (.int .i64 1)) 3, none⟩,
    ⟨some 15, .move (.tmp 37), none⟩]))))
/-- prefect/ber.bytes -/
def pc26 : PC :=
  (.seq (.region [⟨some 1, .box 25 (.tmp 0), none⟩,
    ⟨some 2, .assign (.const (.string ⟨#[]⟩)), none⟩,
    ⟨some 3, .assign (.const (.bool false)), none⟩])
  (.seq (.region [⟨some 9, .fieldAddr 25 (.tmp 1) 1, none⟩,
    ⟨some 10, .load 9 (.tmp 9), none⟩,
    ⟨some 11, .convert 9 45 (.tmp 10), none⟩,
    ⟨some 4, .assign (.tmp 11), none⟩])
  (.seq (.seq (.region [⟨some 12, .fieldAddr 25 (.tmp 1) 2, none⟩,
    ⟨some 13, .load 23 (.tmp 12), none⟩,
    ⟨some 14, .call ⟨.builtin .len, #[.tmp 13], #[23]⟩, none⟩,
    ⟨some 15, .move (.const (.int .i64 0)), none⟩])
  (.block 0 (.loop pc26L0)))
  (.seq (.seq (.region [⟨some 38, .move (.tmp 4), none⟩,
    ⟨some 39, .call ⟨.builtin .len, #[.tmp 38], #[45]⟩, none⟩,
    ⟨some 40, .binOp .gtr 3 (.tmp 39) (.const (.int .i64 4000)) 3, none⟩])
  (.cond (.tmp 40)
    (.seq (.region [⟨some 2, .assign (.const (.string ⟨#[]⟩)), none⟩,
      ⟨some 3, .assign (.const (.bool false)), none⟩])
    .ret)
    .skip))
  (.seq (.draw [⟨some 41, .fieldAddr 25 (.tmp 1) 0, none⟩,
    ⟨some 42, .load 5 (.tmp 41), none⟩,
    ⟨some 43, .buildSlice 45 1 #[(0, .tmp 42)], none⟩,
    ⟨some 44, .convert 45 9 (.tmp 43), none⟩,
    ⟨some 45, .move (.tmp 4), none⟩,
    ⟨some 46, .call ⟨.builtin .len, #[.tmp 45], #[45]⟩, none⟩,
    ⟨some 47, .call ⟨.value (.func 33), #[.tmp 46], #[3]⟩, none⟩,
    ⟨some 48, .binOp .add 9 (.tmp 44) (.tmp 47) 9, none⟩,
    ⟨some 49, .move (.tmp 4), none⟩,
    ⟨some 50, .convert 45 9 (.tmp 49), none⟩]
    [⟨some 51, .binOp .add 9 (.tmp 48) (.tmp 50) 9, none⟩,
    ⟨some 2, .assign (.tmp 51), none⟩,
    ⟨some 3, .assign (.const (.bool true)), none⟩])
  .ret)))))
def fn26 : PFn := ⟨52, [.tmp 2, .tmp 3], pc26⟩
theorem fnOk26 : FnOk Try.prog 26 fn26 := ⟨⟨_, _, Try.func26, rfl, by kernel_rfl, rfl, rfl, of_decide_eq_true (by kernel_rfl)⟩⟩

/-- prefect/ber.Write -/
def pc17 : PC :=
  (.seq (.region [⟨some 1, .box 25 (.tmp 0), none⟩,
    ⟨some 2, .assign (.const (.string ⟨#[]⟩)), none⟩,
    ⟨some 3, .assign (.const (.int .i64 0)), none⟩])
  (.seq (.seq (.region [⟨some 6, .load 25 (.tmp 1), none⟩,
    ⟨some 7, .call ⟨.value (.func 24), #[.tmp 6], #[25]⟩, none⟩,
    ⟨some 8, .unOp .not 4 (.tmp 7), none⟩])
  (.cond (.tmp 8)
    (.seq (.region [⟨some 2, .assign (.const (.string ⟨#[]⟩)), none⟩,
      ⟨some 3, .assign (.const (.int .i64 14)), none⟩])
    .ret)
    .skip))
  (.seq (.seq (.region [⟨some 9, .load 25 (.tmp 1), none⟩,
    ⟨some 10, .call ⟨.value (.func 25), #[.tmp 9], #[25]⟩, none⟩,
    ⟨some 11, .binOp .gtr 3 (.tmp 10) (.const (.int .i64 20)) 3, none⟩])
  (.cond (.tmp 11)
    (.seq (.region [⟨some 2, .assign (.const (.string ⟨#[]⟩)), none⟩,
      ⟨some 3, .assign (.const (.int .i64 12)), none⟩])
    .ret)
    .skip))
  (.seq (.region [⟨some 13, .load 25 (.tmp 1), none⟩,
    ⟨some 14, .call ⟨.value (.func 26), #[.tmp 13], #[25]⟩, none⟩,
    ⟨some 12, .move (.tmp 14), none⟩,
    ⟨some 15, .extract (.tmp 12) 0, none⟩,
    ⟨some 16, .extract (.tmp 12) 1, none⟩,
    ⟨some 4, .assign (.tmp 15), none⟩,
    ⟨some 5, .assign (.tmp 16), none⟩])
  (.seq (.seq (.region [⟨some 17, .move (.tmp 5), none⟩,
    ⟨some 18, .unOp .not 4 (.tmp 17), none⟩])
  (.cond (.tmp 18)
    (.seq (.region [⟨some 2, .assign (.const (.string ⟨#[]⟩)), none⟩,
      ⟨some 3, .assign (.const (.int .i64 13)), none⟩])
    .ret)
    .skip))
  (.seq (.region [⟨some 19, .move (.tmp 4), none⟩,
    ⟨some 2, .assign (.tmp 19), none⟩,
    ⟨some 3, .assign (.const (.int .i64 0)), none⟩])
  .ret))))))
def fn17 : PFn := ⟨20, [.tmp 2, .tmp 3], pc17⟩
theorem fnOk17 : FnOk Try.prog 17 fn17 := ⟨⟨_, _, Try.func17, rfl, by kernel_rfl, rfl, rfl, of_decide_eq_true (by kernel_rfl)⟩⟩

/-- prefect/ber.Is -/
def pc19 : PC :=
  (.seq (.region [⟨some 1, .box 25 (.tmp 0), none⟩,
    ⟨some 2, .assign (.const (.bool false)), none⟩])
  (.seq (.region [⟨some 6, .load 25 (.tmp 1), none⟩,
    ⟨some 7, .call ⟨.value (.func 17), #[.tmp 6], #[25]⟩, none⟩,
    ⟨some 5, .move (.tmp 7), none⟩,
    ⟨some 8, .extract (.tmp 5) 0, none⟩,
    ⟨some 9, .extract (.tmp 5) 1, none⟩,
    ⟨some 3, .assign (.tmp 8), none⟩,
    ⟨some 4, .assign (.tmp 9), none⟩])
  (.seq (.region [⟨some 10, .move (.tmp 4), none⟩,
    ⟨some 11, .binOp .eql 26 (.tmp 10) (.const (.int .i64 0)) 26, none⟩,
    ⟨some 2, .assign (.tmp 11), none⟩])
  .ret)))
def fn19 : PFn := ⟨12, [.tmp 2], pc19⟩
theorem fnOk19 : FnOk Try.prog 19 fn19 := ⟨⟨_, _, Try.func19, rfl, by kernel_rfl, rfl, rfl, of_decide_eq_true (by kernel_rfl)⟩⟩

def pc29L0 : PC :=
  (.seq (.region [⟨some 18, .binOp .lss 3 (.tmp 17) (.tmp 16) 3, none⟩])
  (.seq (.cond (.tmp 18)
    .skip
    (.exit 0))
  (.seq (.block 1 (.seq (.region [⟨some 19, .move (.tmp 17), none⟩,
    ⟨some 20, .indexAddr 23 (.tmp 15) (.tmp 17), none⟩,
    ⟨some 21, .load 25 (.tmp 20), none⟩,
    ⟨some 8, .alloc 25, none⟩,
    ⟨some 7, .assign (.tmp 19), none⟩,
    ⟨none, .store 25 (.tmp 8) (.tmp 21), none⟩])
  (.seq (.region [⟨some 22, .move (.tmp 1), none⟩,
    ⟨some 23, .move (.tmp 7), none⟩,
    ⟨some 24, .indexAddr 23 (.tmp 22) (.tmp 23), none⟩,
    ⟨some 25, .load 25 (.tmp 24), none⟩,
    ⟨some 9, .alloc 25, none⟩,
    ⟨none, .store 25 (.tmp 9) (.tmp 25), none⟩])
  (.seq (.region [⟨some 26, .move (.tmp 2), none⟩,
    ⟨some 27, .load 25 (.tmp 8), none⟩,
    ⟨some 28, .load 25 (.tmp 9), none⟩,
    ⟨some 29, .call ⟨.value (.tmp 26), #[.tmp 27, .tmp 28], #[25, 25]⟩, none⟩,
    ⟨some 30, .unOp .not 4 (.tmp 29), none⟩])
  (.cond (.tmp 30)
    (.seq (.region [⟨some 6, .assign (.const (.bool false)), none⟩])
    .ret)
    .skip)))))
  (.region [⟨some 31, .binOp .add 3 (.tmp 17) (.const (.int .i64 1)) 3, none⟩,
    ⟨some 17, .move (.tmp 31), none⟩]))))
/-- slices.EqualFunc[[]prefect/api.Element,[]prefect/api.Element,prefect/api.Element,prefect/api.Element] -/
def pc29 : PC :=
  (.seq (.region [⟨some 6, .assign (.const (.bool false)), none⟩])
  (.seq (.seq (.region [⟨some 10, .move (.tmp 0), none⟩,
    ⟨some 11, .call ⟨.builtin .len, #[.tmp 10], #[23]⟩, none⟩,
    ⟨some 12, .move (.tmp 1), none⟩,
    ⟨some 13, .call ⟨.builtin .len, #[.tmp 12], #[23]⟩, none⟩,
    ⟨some 14, .binOp .neq 3 (.tmp 11) (.tmp 13) 3, none⟩])
  (.cond (.tmp 14)
    (.seq (.region [⟨some 6, .assign (.const (.bool false)), none⟩])
    .ret)
    .skip))
  (.seq (.seq (.region [⟨some 15, .move (.tmp 0), none⟩,
    ⟨some 16, .call ⟨.builtin .len, #[.tmp 15], #[23]⟩, none⟩,
    ⟨some 17, .move (.const (.int .i64 0)), none⟩])
  (.block 0 (.loop pc29L0)))
  (.seq (.region [⟨some 6, .assign (.const (.bool true)), none⟩])
  .ret))))
def fn29 : PFn := ⟨32, [.tmp 6], pc29⟩
theorem fnOk29 : FnOk Try.prog 29 fn29 := ⟨⟨_, _, Try.func29, rfl, by kernel_rfl, rfl, rfl, of_decide_eq_true (by kernel_rfl)⟩⟩

/-- prefect/ber.Same -/
def pc20 : PC :=
  (.seq (.region [⟨some 2, .box 25 (.tmp 0), none⟩,
    ⟨some 3, .box 25 (.tmp 1), none⟩,
    ⟨some 4, .assign (.const (.bool false)), none⟩])
  (.seq (.region [⟨some 5, .fieldAddr 25 (.tmp 2) 0, none⟩,
    ⟨some 6, .load 5 (.tmp 5), none⟩,
    ⟨some 7, .fieldAddr 25 (.tmp 3) 0, none⟩,
    ⟨some 8, .load 5 (.tmp 7), none⟩,
    ⟨some 9, .binOp .eql 5 (.tmp 6) (.tmp 8) 5, none⟩,
    ⟨some 10, .move (.tmp 9), none⟩,
    ⟨some 11, .fieldAddr 25 (.tmp 2) 1, some (10, true)⟩,
    ⟨some 12, .load 9 (.tmp 11), some (10, true)⟩,
    ⟨some 13, .fieldAddr 25 (.tmp 3) 1, some (10, true)⟩,
    ⟨some 14, .load 9 (.tmp 13), some (10, true)⟩,
    ⟨some 15, .binOp .eql 9 (.tmp 12) (.tmp 14) 9, some (10, true)⟩,
    ⟨some 16, .pick (.tmp 10) (.tmp 15) (.const (.bool false)), none⟩,
    ⟨some 17, .move (.tmp 16), none⟩,
    ⟨some 18, .fieldAddr 25 (.tmp 2) 2, some (17, true)⟩,
    ⟨some 19, .load 23 (.tmp 18), some (17, true)⟩,
    ⟨some 20, .fieldAddr 25 (.tmp 3) 2, some (17, true)⟩,
    ⟨some 21, .load 23 (.tmp 20), some (17, true)⟩,
    ⟨some 22, .call ⟨.value (.func 29), #[.tmp 19, .tmp 21, .func 20], #[23, 23, 35]⟩, some (17, true)⟩,
    ⟨some 23, .pick (.tmp 17) (.tmp 22) (.const (.bool false)), none⟩,
    ⟨some 4, .assign (.tmp 23), none⟩])
  .ret))
def fn20 : PFn := ⟨24, [.tmp 4], pc20⟩
theorem fnOk20 : FnOk Try.prog 20 fn20 := ⟨⟨_, _, Try.func20, rfl, by kernel_rfl, rfl, rfl, of_decide_eq_true (by kernel_rfl)⟩⟩

/-- prefect/prefectlaw1.known -/
def pc10 : PC :=
  (.seq (.region [⟨some 0, .assign (.const (.bool false)), none⟩])
  (.seq (.region [⟨some 17, .call ⟨.value (.func 11), #[.const (.string ⟨#[48, 3, 4, 1, 97, 122]⟩)], #[9]⟩, none⟩,
    ⟨some 16, .move (.tmp 17), none⟩,
    ⟨some 18, .extract (.tmp 16) 0, none⟩,
    ⟨some 19, .extract (.tmp 16) 1, none⟩,
    ⟨some 20, .extract (.tmp 16) 2, none⟩,
    ⟨some 21, .extract (.tmp 16) 3, none⟩,
    ⟨some 1, .alloc 25, none⟩,
    ⟨none, .store 25 (.tmp 1) (.tmp 18), none⟩,
    ⟨some 2, .assign (.tmp 19), none⟩,
    ⟨some 3, .assign (.tmp 20), none⟩,
    ⟨some 4, .assign (.tmp 21), none⟩])
  (.seq (.region [⟨some 23, .call ⟨.value (.func 11), #[.const (.string ⟨#[48, 3, 4, 5, 97]⟩)], #[9]⟩, none⟩,
    ⟨some 22, .move (.tmp 23), none⟩,
    ⟨some 24, .extract (.tmp 22) 0, none⟩,
    ⟨some 25, .extract (.tmp 22) 1, none⟩,
    ⟨some 26, .extract (.tmp 22) 2, none⟩,
    ⟨some 27, .extract (.tmp 22) 3, none⟩,
    ⟨some 5, .alloc 25, none⟩,
    ⟨none, .store 25 (.tmp 5) (.tmp 24), none⟩,
    ⟨some 6, .assign (.tmp 25), none⟩,
    ⟨some 7, .assign (.tmp 26), none⟩,
    ⟨some 8, .assign (.tmp 27), none⟩])
  (.seq (.region [⟨some 29, .build 25 #[(0, .const (.int .u8 4)), (1, .const (.string ⟨#[97, 98]⟩))], none⟩,
    ⟨some 30, .call ⟨.value (.func 17), #[.tmp 29], #[25]⟩, none⟩,
    ⟨some 28, .move (.tmp 30), none⟩,
    ⟨some 31, .extract (.tmp 28) 0, none⟩,
    ⟨some 32, .extract (.tmp 28) 1, none⟩,
    ⟨some 9, .assign (.tmp 31), none⟩,
    ⟨some 10, .assign (.tmp 32), none⟩])
  (.seq (.region [⟨some 34, .build 25 #[(0, .const (.int .u8 31))], none⟩,
    ⟨some 35, .call ⟨.value (.func 17), #[.tmp 34], #[25]⟩, none⟩,
    ⟨some 33, .move (.tmp 35), none⟩,
    ⟨some 36, .extract (.tmp 33) 0, none⟩,
    ⟨some 37, .extract (.tmp 33) 1, none⟩,
    ⟨some 11, .assign (.tmp 36), none⟩,
    ⟨some 12, .assign (.tmp 37), none⟩])
  (.seq (.region [⟨some 39, .call ⟨.value (.func 13), #[.const (.string ⟨#[4, 129, 128]⟩)], #[9]⟩, none⟩,
    ⟨some 38, .move (.tmp 39), none⟩,
    ⟨some 40, .extract (.tmp 38) 0, none⟩,
    ⟨some 41, .extract (.tmp 38) 1, none⟩,
    ⟨some 42, .extract (.tmp 38) 2, none⟩,
    ⟨some 13, .assign (.tmp 40), none⟩,
    ⟨some 14, .assign (.tmp 41), none⟩,
    ⟨some 15, .assign (.tmp 42), none⟩])
  (.seq (.region [⟨some 43, .move (.tmp 4), none⟩,
    ⟨some 44, .binOp .eql 26 (.tmp 43) (.const (.int .i64 0)) 26, none⟩,
    ⟨some 45, .move (.tmp 44), none⟩,
    ⟨some 46, .move (.tmp 2), some (45, true)⟩,
    ⟨some 47, .binOp .eql 3 (.tmp 46) (.const (.int .i64 5)) 3, some (45, true)⟩,
    ⟨some 48, .pick (.tmp 45) (.tmp 47) (.const (.bool false)), none⟩,
    ⟨some 49, .move (.tmp 48), none⟩,
    ⟨some 50, .move (.tmp 3), some (49, true)⟩,
    ⟨some 51, .binOp .eql 3 (.tmp 50) (.const (.int .i64 0)) 3, some (49, true)⟩,
    ⟨some 52, .pick (.tmp 49) (.tmp 51) (.const (.bool false)), none⟩,
    ⟨some 53, .move (.tmp 52), none⟩,
    ⟨some 54, .fieldAddr 25 (.tmp 1) 2, some (53, true)⟩,
    ⟨some 55, .load 23 (.tmp 54), some (53, true)⟩,
    ⟨some 56, .call ⟨.builtin .len, #[.tmp 55], #[23]⟩, some (53, true)⟩,
    ⟨some 57, .binOp .eql 3 (.tmp 56) (.const (.int .i64 1)) 3, some (53, true)⟩,
    ⟨some 58, .pick (.tmp 53) (.tmp 57) (.const (.bool false)), none⟩,
    ⟨some 59, .move (.tmp 58), none⟩,
    ⟨some 60, .fieldAddr 25 (.tmp 1) 2, some (59, true)⟩,
    ⟨some 61, .load 23 (.tmp 60), some (59, true)⟩,
    ⟨some 62, .indexAddr 23 (.tmp 61) (.const (.int .i64 0)), some (59, true)⟩,
    ⟨some 63, .fieldAddr 25 (.tmp 62) 1, some (59, true)⟩,
    ⟨some 64, .load 9 (.tmp 63), some (59, true)⟩,
    ⟨some 65, .binOp .eql 9 (.tmp 64) (.const (.string ⟨#[97]⟩)) 9, some (59, true)⟩,
    ⟨some 66, .pick (.tmp 59) (.tmp 65) (.const (.bool false)), none⟩,
    ⟨some 67, .move (.tmp 66), none⟩,
    ⟨some 68, .move (.tmp 8), some (67, true)⟩,
    ⟨some 69, .binOp .neq 26 (.tmp 68) (.const (.int .i64 0)) 26, some (67, true)⟩,
    ⟨some 70, .pick (.tmp 67) (.tmp 69) (.const (.bool false)), none⟩,
    ⟨some 71, .move (.tmp 70), none⟩,
    ⟨some 72, .move (.tmp 7), some (71, true)⟩,
    ⟨some 73, .binOp .geq 3 (.tmp 72) (.const (.int .i64 0)) 3, some (71, true)⟩,
    ⟨some 74, .pick (.tmp 71) (.tmp 73) (.const (.bool false)), none⟩,
    ⟨some 75, .move (.tmp 74), none⟩,
    ⟨some 76, .move (.tmp 10), some (75, true)⟩,
    ⟨some 77, .binOp .eql 26 (.tmp 76) (.const (.int .i64 0)) 26, some (75, true)⟩,
    ⟨some 78, .pick (.tmp 75) (.tmp 77) (.const (.bool false)), none⟩,
    ⟨some 79, .move (.tmp 78), none⟩,
    ⟨some 80, .move (.tmp 9), some (79, true)⟩,
    ⟨some 81, .binOp .eql 9 (.tmp 80) (.const (.string ⟨#[4, 2, 97, 98]⟩)) 9, some (79, true)⟩,
    ⟨some 82, .pick (.tmp 79) (.tmp 81) (.const (.bool false)), none⟩,
    ⟨some 83, .move (.tmp 82), none⟩,
    ⟨some 84, .move (.tmp 12), some (83, true)⟩,
    ⟨some 85, .binOp .eql 26 (.tmp 84) (.const (.int .i64 14)) 26, some (83, true)⟩,
    ⟨some 86, .pick (.tmp 83) (.tmp 85) (.const (.bool false)), none⟩,
    ⟨some 87, .move (.tmp 86), none⟩,
    ⟨some 88, .move (.tmp 13), some (87, true)⟩,
    ⟨some 89, .binOp .eql 3 (.tmp 88) (.const (.int .i64 3)) 3, some (87, true)⟩,
    ⟨some 90, .pick (.tmp 87) (.tmp 89) (.const (.bool false)), none⟩,
    ⟨some 91, .move (.tmp 90), none⟩,
    ⟨some 92, .move (.tmp 14), some (91, true)⟩,
    ⟨some 93, .binOp .eql 3 (.tmp 92) (.const (.int .i64 128)) 3, some (91, true)⟩,
    ⟨some 94, .pick (.tmp 91) (.tmp 93) (.const (.bool false)), none⟩,
    ⟨some 95, .move (.tmp 94), none⟩,
    ⟨some 96, .move (.tmp 15), some (95, true)⟩,
    ⟨some 97, .binOp .eql 26 (.tmp 96) (.const (.int .i64 0)) 26, some (95, true)⟩,
    ⟨some 98, .pick (.tmp 95) (.tmp 97) (.const (.bool false)), none⟩,
    ⟨some 99, .move (.tmp 98), none⟩,
    ⟨some 100, .load 25 (.tmp 1), some (99, true)⟩,
    ⟨some 101, .call ⟨.value (.func 19), #[.tmp 100], #[25]⟩, some (99, true)⟩,
    ⟨some 102, .pick (.tmp 99) (.tmp 101) (.const (.bool false)), none⟩,
    ⟨some 103, .move (.tmp 102), none⟩,
    ⟨some 104, .load 25 (.tmp 1), some (103, true)⟩,
    ⟨some 105, .load 25 (.tmp 1), some (103, true)⟩,
    ⟨some 106, .call ⟨.value (.func 20), #[.tmp 104, .tmp 105], #[25, 25]⟩, some (103, true)⟩,
    ⟨some 107, .pick (.tmp 103) (.tmp 106) (.const (.bool false)), none⟩,
    ⟨some 0, .assign (.tmp 107), none⟩])
  .ret)))))))
def fn10 : PFn := ⟨108, [.tmp 0], pc10⟩
theorem fnOk10 : FnOk Try.prog 10 fn10 := ⟨⟨_, _, Try.func10, rfl, by kernel_rfl, rfl, rfl, of_decide_eq_true (by kernel_rfl)⟩⟩

def pc14L0 : PC :=
  (.seq (.seq (.region [⟨some 39, .move (.tmp 7), none⟩,
    ⟨some 40, .move (.tmp 5), none⟩,
    ⟨some 41, .binOp .lss 3 (.tmp 39) (.tmp 40) 3, none⟩])
  (.cond (.tmp 41)
    .skip
    (.exit 0)))
  (.seq (.block 1 (.region [⟨some 44, .move (.tmp 6), none⟩,
    ⟨some 45, .binOp .mul 3 (.const (.int .i64 256)) (.tmp 44) 3, none⟩,
    ⟨some 46, .move (.tmp 0), none⟩,
    ⟨some 47, .move (.tmp 7), none⟩,
    ⟨some 48, .binOp .add 3 (.const (.int .i64 2)) (.tmp 47) 3, none⟩,
    ⟨some 49, .index 9 (.tmp 46) (.tmp 48), none⟩,
    ⟨some 50, .convert 5 3 (.tmp 49), none⟩,
    ⟨some 51, .binOp .add 3 (.tmp 45) (.tmp 50) 3, none⟩,
    ⟨some 6, .assign (.tmp 51), none⟩]))
  (.region [⟨some 42, .move (.tmp 7), none⟩,
    ⟨some 43, .binOp .add 3 (.tmp 42) (.const (.int .i64 1)) 3, none⟩,
    ⟨some 7, .assign (.tmp 43), none⟩])))
/-- prefect/prefectref1.Head -/
def pc14 : PC :=
  (.seq (.region [⟨some 2, .assign (.const (.int .i64 0)), none⟩,
    ⟨some 3, .assign (.const (.int .i64 0)), none⟩,
    ⟨some 4, .assign (.const (.int .i64 0)), none⟩])
  (.seq (.seq (.region [⟨some 8, .move (.tmp 0), none⟩,
    ⟨some 9, .call ⟨.builtin .len, #[.tmp 8], #[9]⟩, none⟩,
    ⟨some 10, .binOp .eql 3 (.tmp 9) (.const (.int .i64 0)) 3, none⟩])
  (.cond (.tmp 10)
    (.seq (.region [⟨some 2, .assign (.const (.int .i64 0)), none⟩,
      ⟨some 3, .assign (.const (.int .i64 0)), none⟩,
      ⟨some 4, .assign (.const (.int .i64 10)), none⟩])
    .ret)
    .skip))
  (.seq (.seq (.region [⟨some 11, .move (.tmp 0), none⟩,
    ⟨some 12, .index 9 (.tmp 11) (.const (.int .i64 0)), none⟩,
    ⟨some 13, .binOp .and 5 (.tmp 12) (.const (.int .u8 31)) 5, none⟩,
    ⟨some 14, .binOp .eql 5 (.tmp 13) (.const (.int .u8 31)) 5, none⟩])
  (.cond (.tmp 14)
    (.seq (.region [⟨some 2, .assign (.const (.int .i64 0)), none⟩,
      ⟨some 3, .assign (.const (.int .i64 0)), none⟩,
      ⟨some 4, .assign (.const (.int .i64 14)), none⟩])
    .ret)
    .skip))
  (.seq (.seq (.region [⟨some 15, .move (.tmp 0), none⟩,
    ⟨some 16, .call ⟨.builtin .len, #[.tmp 15], #[9]⟩, none⟩,
    ⟨some 17, .binOp .eql 3 (.tmp 16) (.const (.int .i64 1)) 3, none⟩])
  (.cond (.tmp 17)
    (.seq (.region [⟨some 2, .assign (.const (.int .i64 0)), none⟩,
      ⟨some 3, .assign (.const (.int .i64 0)), none⟩,
      ⟨some 4, .assign (.const (.int .i64 10)), none⟩])
    .ret)
    .skip))
  (.seq (.seq (.region [⟨some 18, .move (.tmp 0), none⟩,
    ⟨some 19, .index 9 (.tmp 18) (.const (.int .i64 1)), none⟩,
    ⟨some 20, .binOp .lss 5 (.tmp 19) (.const (.int .u8 128)) 5, none⟩])
  (.cond (.tmp 20)
    (.seq (.draw [⟨some 21, .move (.tmp 0), none⟩,
      ⟨some 22, .index 9 (.tmp 21) (.const (.int .i64 1)), none⟩,
      ⟨some 23, .convert 5 3 (.tmp 22), none⟩,
      ⟨some 2, .assign (.const (.int .i64 2)), none⟩]
      [⟨some 3, .assign (.tmp 23), none⟩,
      ⟨some 4, .assign (.const (.int .i64 0)), none⟩])
    .ret)
    .skip))
  (.seq (.region [⟨some 24, .move (.tmp 0), none⟩,
    ⟨some 25, .index 9 (.tmp 24) (.const (.int .i64 1)), none⟩,
    ⟨some 26, .convert 5 3 (.tmp 25), none⟩,
    ⟨some 27, .binOp .sub 3 (.tmp 26) (.const (.int .i64 128)) 3, none⟩,
    ⟨some 5, .assign (.tmp 27), none⟩])
  (.seq (.seq (.region [⟨some 28, .move (.tmp 5), none⟩,
    ⟨some 29, .binOp .lss 3 (.tmp 28) (.const (.int .i64 1)) 3, none⟩,
    ⟨some 30, .move (.tmp 29), none⟩,
    ⟨some 31, .move (.tmp 5), some (30, false)⟩,
    ⟨some 32, .binOp .gtr 3 (.tmp 31) (.const (.int .i64 4)) 3, some (30, false)⟩,
    ⟨some 33, .pick (.tmp 30) (.const (.bool true)) (.tmp 32), none⟩])
  (.cond (.tmp 33)
    (.seq (.region [⟨some 2, .assign (.const (.int .i64 0)), none⟩,
      ⟨some 3, .assign (.const (.int .i64 0)), none⟩,
      ⟨some 4, .assign (.const (.int .i64 11)), none⟩])
    .ret)
    .skip))
  (.seq (.seq (.region [⟨some 34, .move (.tmp 0), none⟩,
    ⟨some 35, .call ⟨.builtin .len, #[.tmp 34], #[9]⟩, none⟩,
    ⟨some 36, .move (.tmp 5), none⟩,
    ⟨some 37, .binOp .add 3 (.const (.int .i64 2)) (.tmp 36) 3, none⟩,
    ⟨some 38, .binOp .lss 3 (.tmp 35) (.tmp 37) 3, none⟩])
  (.cond (.tmp 38)
    (.seq (.region [⟨some 2, .assign (.const (.int .i64 0)), none⟩,
      ⟨some 3, .assign (.const (.int .i64 0)), none⟩,
      ⟨some 4, .assign (.const (.int .i64 10)), none⟩])
    .ret)
    .skip))
  (.seq (.region [⟨some 6, .assign (.const (.int .i64 0)), none⟩])
  (.seq (.seq (.region [⟨some 7, .assign (.const (.int .i64 0)), none⟩])
  (.block 0 (.loop pc14L0)))
  (.seq (.seq (.region [⟨some 52, .move (.tmp 6), none⟩,
    ⟨some 53, .binOp .gtr 3 (.tmp 52) (.const (.int .i64 4000)) 3, none⟩])
  (.cond (.tmp 53)
    (.seq (.region [⟨some 2, .assign (.const (.int .i64 0)), none⟩,
      ⟨some 3, .assign (.const (.int .i64 0)), none⟩,
      ⟨some 4, .assign (.const (.int .i64 13)), none⟩])
    .ret)
    .skip))
  (.seq (.region [⟨some 54, .move (.tmp 5), none⟩,
    ⟨some 55, .binOp .add 3 (.const (.int .i64 2)) (.tmp 54) 3, none⟩,
    ⟨some 56, .move (.tmp 6), none⟩,
    ⟨some 2, .assign (.tmp 55), none⟩,
    ⟨some 3, .assign (.tmp 56), none⟩,
    ⟨some 4, .assign (.const (.int .i64 0)), none⟩])
  .ret))))))))))))
def fn14 : PFn := ⟨57, [.tmp 2, .tmp 3, .tmp 4], pc14⟩
theorem fnOk14 : FnOk Try.prog 14 fn14 := ⟨⟨_, _, Try.func14, rfl, by kernel_rfl, rfl, rfl, of_decide_eq_true (by kernel_rfl)⟩⟩

def pc23L0 : PC :=
  (.seq (.seq (.region [⟨some 83, .move (.tmp 16), none⟩,
    ⟨some 84, .move (.tmp 1), none⟩,
    ⟨some 85, .move (.tmp 12), none⟩,
    ⟨some 86, .binOp .add 3 (.tmp 84) (.tmp 85) 3, none⟩,
    ⟨some 87, .move (.tmp 13), none⟩,
    ⟨some 88, .binOp .add 3 (.tmp 86) (.tmp 87) 3, none⟩,
    ⟨some 89, .binOp .lss 3 (.tmp 83) (.tmp 88) 3, none⟩])
  (.cond (.tmp 89)
    .skip
    (.exit 0)))
  (.block 1 (.seq (.region [⟨some 91, .move (.tmp 0), none⟩,
    ⟨some 92, .move (.tmp 16), none⟩,
    ⟨some 93, .move (.tmp 1), none⟩,
    ⟨some 94, .move (.tmp 12), none⟩,
    ⟨some 95, .binOp .add 3 (.tmp 93) (.tmp 94) 3, none⟩,
    ⟨some 96, .move (.tmp 13), none⟩,
    ⟨some 97, .binOp .add 3 (.tmp 95) (.tmp 96) 3, none⟩,
    ⟨some 98, .move (.tmp 3), none⟩,
    ⟨some 99, .binOp .add 3 (.tmp 98) (.const (.int .i64 1)) 3, none⟩,
    ⟨some 100, .call ⟨.value (.func 23), #[.tmp 91, .tmp 92, .tmp 97, .tmp 99], #[9, 3, 3, 3]⟩, none⟩,
    ⟨some 90, .move (.tmp 100), none⟩,
    ⟨some 101, .extract (.tmp 90) 0, none⟩,
    ⟨some 102, .extract (.tmp 90) 1, none⟩,
    ⟨some 103, .extract (.tmp 90) 2, none⟩,
    ⟨some 104, .extract (.tmp 90) 3, none⟩,
    ⟨some 17, .alloc 25, none⟩,
    ⟨none, .store 25 (.tmp 17) (.tmp 101), none⟩,
    ⟨some 18, .assign (.tmp 102), none⟩,
    ⟨some 19, .assign (.tmp 103), none⟩,
    ⟨some 20, .assign (.tmp 104), none⟩])
  (.seq (.seq (.region [⟨some 105, .move (.tmp 20), none⟩,
    ⟨some 106, .binOp .neq 3 (.tmp 105) (.const (.int .i64 0)) 3, none⟩])
  (.cond (.tmp 106)
    (.seq (.region [⟨some 107, .build 25 #[], none⟩,
      ⟨some 108, .move (.tmp 19), none⟩,
      ⟨some 109, .move (.tmp 20), none⟩,
      ⟨none, .store 25 (.tmp 8) (.tmp 107), none⟩,
      ⟨some 9, .assign (.const (.int .i64 0)), none⟩,
      ⟨some 10, .assign (.tmp 108), none⟩,
      ⟨some 11, .assign (.tmp 109), none⟩])
    .ret)
    .skip))
  (.seq (.region [⟨some 110, .fieldAddr 25 (.tmp 15) 2, none⟩,
    ⟨some 111, .load 23 (.tmp 110), none⟩,
    ⟨some 112, .load 25 (.tmp 17), none⟩,
    ⟨some 113, .buildSlice 23 1 #[(0, .tmp 112)], none⟩,
    ⟨some 114, .call ⟨.builtin .append, #[.tmp 111, .tmp 113], #[23, 23]⟩, none⟩,
    ⟨some 115, .fieldAddr 25 (.tmp 15) 2, none⟩,
    ⟨none, .store 23 (.tmp 115) (.tmp 114), none⟩])
  (.region [⟨some 116, .move (.tmp 16), none⟩,
    ⟨some 117, .move (.tmp 18), none⟩,
    ⟨some 118, .binOp .add 3 (.tmp 116) (.tmp 117) 3, none⟩,
    ⟨some 16, .assign (.tmp 118), none⟩]))))))
/-- prefect/prefectref1.read -/
def pc23 : PC :=
  (.seq (.region [⟨some 8, .alloc 25, none⟩,
    ⟨some 9, .assign (.const (.int .i64 0)), none⟩,
    ⟨some 10, .assign (.const (.int .i64 0)), none⟩,
    ⟨some 11, .assign (.const (.int .i64 0)), none⟩])
  (.seq (.seq (.region [⟨some 21, .move (.tmp 3), none⟩,
    ⟨some 22, .binOp .gtr 3 (.tmp 21) (.const (.int .i64 20)) 3, none⟩])
  (.cond (.tmp 22)
    (.seq (.region [⟨some 23, .build 25 #[], none⟩,
      ⟨some 24, .move (.tmp 1), none⟩,
      ⟨none, .store 25 (.tmp 8) (.tmp 23), none⟩,
      ⟨some 9, .assign (.const (.int .i64 0)), none⟩,
      ⟨some 10, .assign (.tmp 24), none⟩,
      ⟨some 11, .assign (.const (.int .i64 12)), none⟩])
    .ret)
    .skip))
  (.seq (.region [⟨some 26, .move (.tmp 0), none⟩,
    ⟨some 27, .move (.tmp 1), none⟩,
    ⟨some 28, .move (.tmp 2), none⟩,
    ⟨some 29, .slice 9 (.tmp 26) (some (.tmp 27)) (some (.tmp 28)) none, none⟩,
    ⟨some 30, .call ⟨.value (.func 14), #[.tmp 29], #[9]⟩, none⟩,
    ⟨some 25, .move (.tmp 30), none⟩,
    ⟨some 31, .extract (.tmp 25) 0, none⟩,
    ⟨some 32, .extract (.tmp 25) 1, none⟩,
    ⟨some 33, .extract (.tmp 25) 2, none⟩,
    ⟨some 12, .assign (.tmp 31), none⟩,
    ⟨some 13, .assign (.tmp 32), none⟩,
    ⟨some 14, .assign (.tmp 33), none⟩])
  (.seq (.seq (.region [⟨some 34, .move (.tmp 14), none⟩,
    ⟨some 35, .binOp .eql 3 (.tmp 34) (.const (.int .i64 0)) 3, none⟩,
    ⟨some 36, .move (.tmp 35), none⟩,
    ⟨some 37, .move (.tmp 1), some (36, true)⟩,
    ⟨some 38, .move (.tmp 12), some (36, true)⟩,
    ⟨some 39, .binOp .add 3 (.tmp 37) (.tmp 38) 3, some (36, true)⟩,
    ⟨some 40, .move (.tmp 13), some (36, true)⟩,
    ⟨some 41, .binOp .add 3 (.tmp 39) (.tmp 40) 3, some (36, true)⟩,
    ⟨some 42, .move (.tmp 2), some (36, true)⟩,
    ⟨some 43, .binOp .gtr 3 (.tmp 41) (.tmp 42) 3, some (36, true)⟩,
    ⟨some 44, .pick (.tmp 36) (.tmp 43) (.const (.bool false)), none⟩])
  (.cond (.tmp 44)
    (.region [⟨some 14, .assign (.const (.int .i64 10)), none⟩])
    .skip))
  (.seq (.seq (.region [⟨some 45, .move (.tmp 14), none⟩,
    ⟨some 46, .binOp .eql 3 (.tmp 45) (.const (.int .i64 10)) 3, none⟩,
    ⟨some 47, .move (.tmp 46), none⟩,
    ⟨some 48, .move (.tmp 3), some (47, true)⟩,
    ⟨some 49, .binOp .gtr 3 (.tmp 48) (.const (.int .i64 1)) 3, some (47, true)⟩,
    ⟨some 50, .pick (.tmp 47) (.tmp 49) (.const (.bool false)), none⟩])
  (.cond (.tmp 50)
    (.region [⟨some 14, .assign (.const (.int .i64 11)), none⟩])
    .skip))
  (.seq (.seq (.region [⟨some 51, .move (.tmp 14), none⟩,
    ⟨some 52, .binOp .neq 3 (.tmp 51) (.const (.int .i64 0)) 3, none⟩])
  (.cond (.tmp 52)
    (.seq (.region [⟨some 53, .build 25 #[], none⟩,
      ⟨some 54, .move (.tmp 1), none⟩,
      ⟨some 55, .move (.tmp 14), none⟩,
      ⟨none, .store 25 (.tmp 8) (.tmp 53), none⟩,
      ⟨some 9, .assign (.const (.int .i64 0)), none⟩,
      ⟨some 10, .assign (.tmp 54), none⟩,
      ⟨some 11, .assign (.tmp 55), none⟩])
    .ret)
    .skip))
  (.seq (.region [⟨some 56, .move (.tmp 0), none⟩,
    ⟨some 57, .move (.tmp 1), none⟩,
    ⟨some 58, .index 9 (.tmp 56) (.tmp 57), none⟩,
    ⟨some 59, .build 25 #[(0, .tmp 58)], none⟩,
    ⟨some 15, .alloc 25, none⟩,
    ⟨none, .store 25 (.tmp 15) (.tmp 59), none⟩])
  (.seq (.seq (.region [⟨some 60, .move (.tmp 0), none⟩,
    ⟨some 61, .move (.tmp 1), none⟩,
    ⟨some 62, .index 9 (.tmp 60) (.tmp 61), none⟩,
    ⟨some 63, .binOp .and 5 (.tmp 62) (.const (.int .u8 32)) 5, none⟩,
    ⟨some 64, .binOp .eql 5 (.tmp 63) (.const (.int .u8 0)) 5, none⟩])
  (.cond (.tmp 64)
    (.seq (.region [⟨some 65, .move (.tmp 0), none⟩,
      ⟨some 66, .move (.tmp 1), none⟩,
      ⟨some 67, .move (.tmp 12), none⟩,
      ⟨some 68, .binOp .add 3 (.tmp 66) (.tmp 67) 3, none⟩,
      ⟨some 69, .move (.tmp 1), none⟩,
      ⟨some 70, .move (.tmp 12), none⟩,
      ⟨some 71, .binOp .add 3 (.tmp 69) (.tmp 70) 3, none⟩,
      ⟨some 72, .move (.tmp 13), none⟩,
      ⟨some 73, .binOp .add 3 (.tmp 71) (.tmp 72) 3, none⟩,
      ⟨some 74, .slice 9 (.tmp 65) (some (.tmp 68)) (some (.tmp 73)) none, none⟩,
      ⟨some 75, .fieldAddr 25 (.tmp 15) 1, none⟩,
      ⟨none, .store 9 (.tmp 75) (.tmp 74), none⟩])
    (.seq (.region [⟨some 76, .load 25 (.tmp 15), none⟩,
      ⟨some 77, .move (.tmp 12), none⟩,
      ⟨some 78, .move (.tmp 13), none⟩,
      ⟨some 79, .binOp .add 3 (.tmp 77) (.tmp 78) 3, none⟩,
      ⟨none, .store 25 (.tmp 8) (.tmp 76), none⟩,
      ⟨some 9, .assign (.tmp 79), none⟩,
      ⟨some 10, .assign (.const (.int .i64 0)), none⟩,
      ⟨some 11, .assign (.const (.int .i64 0)), none⟩])
    .ret))
    .skip))
  (.seq (.region [⟨some 80, .move (.tmp 1), none⟩,
    ⟨some 81, .move (.tmp 12), none⟩,
    ⟨some 82, .binOp .add 3 (.tmp 80) (.tmp 81) 3, none⟩,
    ⟨some 16, .assign (.tmp 82), none⟩])
  (.seq (.block 0 (.loop pc23L0))
  (.seq (.region [⟨some 119, .load 25 (.tmp 15), none⟩,
    ⟨some 120, .move (.tmp 12), none⟩,
    ⟨some 121, .move (.tmp 13), none⟩,
    ⟨some 122, .binOp .add 3 (.tmp 120) (.tmp 121) 3, none⟩,
    ⟨none, .store 25 (.tmp 8) (.tmp 119), none⟩,
    ⟨some 9, .assign (.tmp 122), none⟩,
    ⟨some 10, .assign (.const (.int .i64 0)), none⟩,
    ⟨some 11, .assign (.const (.int .i64 0)), none⟩])
  .ret)))))))))))
def fn23 : PFn := ⟨123, [.cell 8 25, .tmp 9, .tmp 10, .tmp 11], pc23⟩
theorem fnOk23 : FnOk Try.prog 23 fn23 := ⟨⟨_, _, Try.func23, rfl, by kernel_rfl, rfl, rfl, of_decide_eq_true (by kernel_rfl)⟩⟩

/-- prefect/prefectref1.Read -/
def pc12 : PC :=
  (.seq (.region [⟨some 2, .alloc 25, none⟩,
    ⟨some 3, .assign (.const (.int .i64 0)), none⟩,
    ⟨some 4, .assign (.const (.int .i64 0)), none⟩,
    ⟨some 5, .assign (.const (.int .i64 0)), none⟩])
  (.seq (.region [⟨some 6, .move (.tmp 0), none⟩,
    ⟨some 7, .move (.tmp 0), none⟩,
    ⟨some 8, .call ⟨.builtin .len, #[.tmp 7], #[9]⟩, none⟩,
    ⟨some 9, .call ⟨.value (.func 23), #[.tmp 6, .const (.int .i64 0), .tmp 8, .const (.int .i64 1)], #[9, 3, 3, 3]⟩, none⟩,
    ⟨some 10, .extract (.tmp 9) 0, none⟩,
    ⟨some 11, .extract (.tmp 9) 1, none⟩,
    ⟨some 12, .extract (.tmp 9) 2, none⟩,
    ⟨some 13, .extract (.tmp 9) 3, none⟩,
    ⟨none, .store 25 (.tmp 2) (.tmp 10), none⟩,
    ⟨some 3, .assign (.tmp 11), none⟩,
    ⟨some 4, .assign (.tmp 12), none⟩,
    ⟨some 5, .assign (.tmp 13), none⟩])
  .ret))
def fn12 : PFn := ⟨14, [.cell 2 25, .tmp 3, .tmp 4, .tmp 5], pc12⟩
theorem fnOk12 : FnOk Try.prog 12 fn12 := ⟨⟨_, _, Try.func12, rfl, by kernel_rfl, rfl, rfl, of_decide_eq_true (by kernel_rfl)⟩⟩

def pc15L0 : PC :=
  (.seq (.seq (.region [⟨some 27, .move (.tmp 5), none⟩,
    ⟨some 28, .fieldAddr 25 (.tmp 2) 2, none⟩,
    ⟨some 29, .load 23 (.tmp 28), none⟩,
    ⟨some 30, .call ⟨.builtin .len, #[.tmp 29], #[23]⟩, none⟩,
    ⟨some 31, .binOp .lss 3 (.tmp 27) (.tmp 30) 3, none⟩])
  (.cond (.tmp 31)
    .skip
    (.exit 0)))
  (.seq (.block 1 (.seq (.draw [⟨some 34, .fieldAddr 25 (.tmp 2) 2, none⟩,
    ⟨some 35, .load 23 (.tmp 34), none⟩,
    ⟨some 36, .move (.tmp 5), none⟩,
    ⟨some 37, .indexAddr 23 (.tmp 35) (.tmp 36), none⟩,
    ⟨some 38, .load 25 (.tmp 37), none⟩,
    ⟨some 39, .fieldAddr 25 (.tmp 3) 2, none⟩,
    ⟨some 40, .load 23 (.tmp 39), none⟩,
    ⟨some 41, .move (.tmp 5), none⟩,
    ⟨some 42, .indexAddr 23 (.tmp 40) (.tmp 41), none⟩,
    ⟨some 43, .load 25 (.tmp 42), none⟩]
    [⟨some 44, .call ⟨.value (.func 15), #[.tmp 38, .tmp 43], #[25, 25]⟩, none⟩,
    ⟨some 45, .unOp .not 4 (.tmp 44), none⟩])
  (.cond (.tmp 45)
    (.seq (.region [⟨some 4, .assign (.const (.bool false)), none⟩])
    .ret)
    .skip)))
  (.region [⟨some 32, .move (.tmp 5), none⟩,
    ⟨some 33, .binOp .add 3 (.tmp 32) (.const (.int .i64 1)) 3, none⟩,
    ⟨some 5, .assign (.tmp 33), none⟩])))
/-- prefect/prefectref1.Same -/
def pc15 : PC :=
  (.seq (.region [⟨some 2, .box 25 (.tmp 0), none⟩,
    ⟨some 3, .box 25 (.tmp 1), none⟩,
    ⟨some 4, .assign (.const (.bool false)), none⟩])
  (.seq (.seq (.region [⟨some 6, .fieldAddr 25 (.tmp 2) 0, none⟩,
    ⟨some 7, .load 5 (.tmp 6), none⟩,
    ⟨some 8, .fieldAddr 25 (.tmp 3) 0, none⟩,
    ⟨some 9, .load 5 (.tmp 8), none⟩,
    ⟨some 10, .binOp .neq 5 (.tmp 7) (.tmp 9) 5, none⟩,
    ⟨some 11, .move (.tmp 10), none⟩,
    ⟨some 12, .fieldAddr 25 (.tmp 2) 1, some (11, false)⟩,
    ⟨some 13, .load 9 (.tmp 12), some (11, false)⟩,
    ⟨some 14, .fieldAddr 25 (.tmp 3) 1, some (11, false)⟩,
    ⟨some 15, .load 9 (.tmp 14), some (11, false)⟩,
    ⟨some 16, .binOp .neq 9 (.tmp 13) (.tmp 15) 9, some (11, false)⟩,
    ⟨some 17, .pick (.tmp 11) (.const (.bool true)) (.tmp 16), none⟩,
    ⟨some 18, .move (.tmp 17), none⟩,
    ⟨some 19, .fieldAddr 25 (.tmp 2) 2, some (18, false)⟩,
    ⟨some 20, .load 23 (.tmp 19), some (18, false)⟩,
    ⟨some 21, .call ⟨.builtin .len, #[.tmp 20], #[23]⟩, some (18, false)⟩,
    ⟨some 22, .fieldAddr 25 (.tmp 3) 2, some (18, false)⟩,
    ⟨some 23, .load 23 (.tmp 22), some (18, false)⟩,
    ⟨some 24, .call ⟨.builtin .len, #[.tmp 23], #[23]⟩, some (18, false)⟩,
    ⟨some 25, .binOp .neq 3 (.tmp 21) (.tmp 24) 3, some (18, false)⟩,
    ⟨some 26, .pick (.tmp 18) (.const (.bool true)) (.tmp 25), none⟩])
  (.cond (.tmp 26)
    (.seq (.region [⟨some 4, .assign (.const (.bool false)), none⟩])
    .ret)
    .skip))
  (.seq (.seq (.region [⟨some 5, .assign (.const (.int .i64 0)), none⟩])
  (.block 0 (.loop pc15L0)))
  (.seq (.region [⟨some 4, .assign (.const (.bool true)), none⟩])
  .ret))))
def fn15 : PFn := ⟨46, [.tmp 4], pc15⟩
theorem fnOk15 : FnOk Try.prog 15 fn15 := ⟨⟨_, _, Try.func15, rfl, by kernel_rfl, rfl, rfl, of_decide_eq_true (by kernel_rfl)⟩⟩

/-- prefect/prefectlaw1.BerReads -/
def pc3 : PC :=
  (.seq (.region [⟨some 2, .assign (.const (.bool false)), none⟩])
  (.seq (.seq (.region [⟨some 17, .call ⟨.value (.func 10), #[], #[]⟩, none⟩,
    ⟨some 18, .unOp .not 4 (.tmp 17), none⟩])
  (.cond (.tmp 18)
    (.seq (.region [⟨some 2, .assign (.const (.bool false)), none⟩])
    .ret)
    .skip))
  (.seq (.seq (.region [⟨some 19, .move (.tmp 0), none⟩,
    ⟨some 20, .call ⟨.builtin .len, #[.tmp 19], #[9]⟩, none⟩,
    ⟨some 21, .binOp .gtr 3 (.tmp 20) (.const (.int .i64 5000)) 3, none⟩])
  (.cond (.tmp 21)
    (.seq (.region [⟨some 2, .assign (.const (.bool true)), none⟩])
    .ret)
    .skip))
  (.seq (.region [⟨some 23, .move (.tmp 0), none⟩,
    ⟨some 24, .call ⟨.value (.func 11), #[.tmp 23], #[9]⟩, none⟩,
    ⟨some 22, .move (.tmp 24), none⟩,
    ⟨some 25, .extract (.tmp 22) 0, none⟩,
    ⟨some 26, .extract (.tmp 22) 1, none⟩,
    ⟨some 27, .extract (.tmp 22) 2, none⟩,
    ⟨some 28, .extract (.tmp 22) 3, none⟩,
    ⟨some 3, .alloc 25, none⟩,
    ⟨none, .store 25 (.tmp 3) (.tmp 25), none⟩,
    ⟨some 4, .assign (.tmp 26), none⟩,
    ⟨some 5, .assign (.tmp 27), none⟩,
    ⟨some 6, .assign (.tmp 28), none⟩])
  (.seq (.region [⟨some 30, .move (.tmp 0), none⟩,
    ⟨some 31, .call ⟨.value (.func 12), #[.tmp 30], #[9]⟩, none⟩,
    ⟨some 29, .move (.tmp 31), none⟩,
    ⟨some 32, .extract (.tmp 29) 0, none⟩,
    ⟨some 33, .extract (.tmp 29) 1, none⟩,
    ⟨some 34, .extract (.tmp 29) 2, none⟩,
    ⟨some 35, .extract (.tmp 29) 3, none⟩,
    ⟨some 7, .alloc 25, none⟩,
    ⟨none, .store 25 (.tmp 7) (.tmp 32), none⟩,
    ⟨some 8, .assign (.tmp 33), none⟩,
    ⟨some 9, .assign (.tmp 34), none⟩,
    ⟨some 10, .assign (.tmp 35), none⟩])
  (.seq (.region [⟨some 37, .move (.tmp 0), none⟩,
    ⟨some 38, .call ⟨.value (.func 13), #[.tmp 37], #[9]⟩, none⟩,
    ⟨some 36, .move (.tmp 38), none⟩,
    ⟨some 39, .extract (.tmp 36) 0, none⟩,
    ⟨some 40, .extract (.tmp 36) 1, none⟩,
    ⟨some 41, .extract (.tmp 36) 2, none⟩,
    ⟨some 11, .assign (.tmp 39), none⟩,
    ⟨some 12, .assign (.tmp 40), none⟩,
    ⟨some 13, .assign (.tmp 41), none⟩])
  (.seq (.region [⟨some 43, .move (.tmp 0), none⟩,
    ⟨some 44, .call ⟨.value (.func 14), #[.tmp 43], #[9]⟩, none⟩,
    ⟨some 42, .move (.tmp 44), none⟩,
    ⟨some 45, .extract (.tmp 42) 0, none⟩,
    ⟨some 46, .extract (.tmp 42) 1, none⟩,
    ⟨some 47, .extract (.tmp 42) 2, none⟩,
    ⟨some 14, .assign (.tmp 45), none⟩,
    ⟨some 15, .assign (.tmp 46), none⟩,
    ⟨some 16, .assign (.tmp 47), none⟩])
  (.seq (.region [⟨some 48, .load 25 (.tmp 3), none⟩,
    ⟨some 49, .load 25 (.tmp 7), none⟩,
    ⟨some 50, .call ⟨.value (.func 15), #[.tmp 48, .tmp 49], #[25, 25]⟩, none⟩,
    ⟨some 51, .move (.tmp 50), none⟩,
    ⟨some 52, .move (.tmp 4), some (51, true)⟩,
    ⟨some 53, .move (.tmp 8), some (51, true)⟩,
    ⟨some 54, .binOp .eql 3 (.tmp 52) (.tmp 53) 3, some (51, true)⟩,
    ⟨some 55, .pick (.tmp 51) (.tmp 54) (.const (.bool false)), none⟩,
    ⟨some 56, .move (.tmp 55), none⟩,
    ⟨some 57, .move (.tmp 5), some (56, true)⟩,
    ⟨some 58, .move (.tmp 9), some (56, true)⟩,
    ⟨some 59, .binOp .eql 3 (.tmp 57) (.tmp 58) 3, some (56, true)⟩,
    ⟨some 60, .pick (.tmp 56) (.tmp 59) (.const (.bool false)), none⟩,
    ⟨some 61, .move (.tmp 60), none⟩,
    ⟨some 62, .move (.tmp 6), some (61, true)⟩,
    ⟨some 63, .move (.tmp 10), some (61, true)⟩,
    ⟨some 64, .binOp .eql 3 (.tmp 62) (.tmp 63) 3, some (61, true)⟩,
    ⟨some 65, .pick (.tmp 61) (.tmp 64) (.const (.bool false)), none⟩,
    ⟨some 66, .move (.tmp 65), none⟩,
    ⟨some 67, .move (.tmp 11), some (66, true)⟩,
    ⟨some 68, .move (.tmp 14), some (66, true)⟩,
    ⟨some 69, .binOp .eql 3 (.tmp 67) (.tmp 68) 3, some (66, true)⟩,
    ⟨some 70, .pick (.tmp 66) (.tmp 69) (.const (.bool false)), none⟩,
    ⟨some 71, .move (.tmp 70), none⟩,
    ⟨some 72, .move (.tmp 12), some (71, true)⟩,
    ⟨some 73, .move (.tmp 15), some (71, true)⟩,
    ⟨some 74, .binOp .eql 3 (.tmp 72) (.tmp 73) 3, some (71, true)⟩,
    ⟨some 75, .pick (.tmp 71) (.tmp 74) (.const (.bool false)), none⟩,
    ⟨some 76, .move (.tmp 75), none⟩,
    ⟨some 77, .move (.tmp 13), some (76, true)⟩,
    ⟨some 78, .move (.tmp 16), some (76, true)⟩,
    ⟨some 79, .binOp .eql 3 (.tmp 77) (.tmp 78) 3, some (76, true)⟩,
    ⟨some 80, .pick (.tmp 76) (.tmp 79) (.const (.bool false)), none⟩,
    ⟨some 2, .assign (.tmp 80), none⟩])
  .ret))))))))
def fn3 : PFn := ⟨81, [.tmp 2], pc3⟩
theorem fnOk3 : FnOk Try.prog 3 fn3 := ⟨⟨_, _, Try.func3, rfl, by kernel_rfl, rfl, rfl, of_decide_eq_true (by kernel_rfl)⟩⟩

def pc16L0 : PC :=
  (.seq (.seq (.region [⟨some 20, .move (.tmp 5), none⟩,
    ⟨some 21, .fieldAddr 25 (.tmp 2) 2, none⟩,
    ⟨some 22, .load 23 (.tmp 21), none⟩,
    ⟨some 23, .call ⟨.builtin .len, #[.tmp 22], #[23]⟩, none⟩,
    ⟨some 24, .binOp .lss 3 (.tmp 20) (.tmp 23) 3, none⟩])
  (.cond (.tmp 24)
    .skip
    (.exit 0)))
  (.seq (.block 1 (.seq (.region [⟨some 27, .fieldAddr 25 (.tmp 2) 2, none⟩,
    ⟨some 28, .load 23 (.tmp 27), none⟩,
    ⟨some 29, .move (.tmp 5), none⟩,
    ⟨some 30, .indexAddr 23 (.tmp 28) (.tmp 29), none⟩,
    ⟨some 31, .load 25 (.tmp 30), none⟩,
    ⟨some 32, .move (.tmp 1), none⟩,
    ⟨some 33, .binOp .add 3 (.tmp 32) (.const (.int .i64 1)) 3, none⟩,
    ⟨some 34, .call ⟨.value (.func 16), #[.tmp 31, .tmp 33], #[25, 3]⟩, none⟩,
    ⟨some 35, .unOp .not 4 (.tmp 34), none⟩])
  (.cond (.tmp 35)
    (.seq (.region [⟨some 4, .assign (.const (.bool false)), none⟩])
    .ret)
    .skip)))
  (.region [⟨some 25, .move (.tmp 5), none⟩,
    ⟨some 26, .binOp .add 3 (.tmp 25) (.const (.int .i64 1)) 3, none⟩,
    ⟨some 5, .assign (.tmp 26), none⟩])))
/-- prefect/prefectlaw1.few -/
def pc16 : PC :=
  (.seq (.region [⟨some 2, .box 25 (.tmp 0), none⟩,
    ⟨some 4, .assign (.const (.bool false)), none⟩])
  (.seq (.seq (.region [⟨some 6, .move (.tmp 1), none⟩,
    ⟨some 7, .binOp .gtr 3 (.tmp 6) (.const (.int .i64 26)) 3, none⟩,
    ⟨some 8, .move (.tmp 7), none⟩,
    ⟨some 9, .fieldAddr 25 (.tmp 2) 2, some (8, false)⟩,
    ⟨some 10, .load 23 (.tmp 9), some (8, false)⟩,
    ⟨some 11, .call ⟨.builtin .len, #[.tmp 10], #[23]⟩, some (8, false)⟩,
    ⟨some 12, .binOp .gtr 3 (.tmp 11) (.const (.int .i64 8)) 3, some (8, false)⟩,
    ⟨some 13, .pick (.tmp 8) (.const (.bool true)) (.tmp 12), none⟩,
    ⟨some 14, .move (.tmp 13), none⟩,
    ⟨some 15, .fieldAddr 25 (.tmp 2) 1, some (14, false)⟩,
    ⟨some 16, .load 9 (.tmp 15), some (14, false)⟩,
    ⟨some 17, .call ⟨.builtin .len, #[.tmp 16], #[9]⟩, some (14, false)⟩,
    ⟨some 18, .binOp .gtr 3 (.tmp 17) (.const (.int .i64 5000)) 3, some (14, false)⟩,
    ⟨some 19, .pick (.tmp 14) (.const (.bool true)) (.tmp 18), none⟩])
  (.cond (.tmp 19)
    (.seq (.region [⟨some 4, .assign (.const (.bool false)), none⟩])
    .ret)
    .skip))
  (.seq (.seq (.region [⟨some 5, .assign (.const (.int .i64 0)), none⟩])
  (.block 0 (.loop pc16L0)))
  (.seq (.region [⟨some 4, .assign (.const (.bool true)), none⟩])
  .ret))))
def fn16 : PFn := ⟨36, [.tmp 4], pc16⟩
theorem fnOk16 : FnOk Try.prog 16 fn16 := ⟨⟨_, _, Try.func16, rfl, by kernel_rfl, rfl, rfl, of_decide_eq_true (by kernel_rfl)⟩⟩

def pc30L0 : PC :=
  (.seq (.seq (.region [⟨some 12, .move (.tmp 4), none⟩,
    ⟨some 13, .binOp .gtr 3 (.tmp 12) (.const (.int .i64 0)) 3, none⟩])
  (.cond (.tmp 13)
    .skip
    (.exit 0)))
  (.seq (.block 1 (.region [⟨some 16, .move (.tmp 4), none⟩,
    ⟨some 17, .convert 3 5 (.tmp 16), none⟩,
    ⟨some 18, .buildSlice 45 1 #[(0, .tmp 17)], none⟩,
    ⟨some 19, .convert 45 9 (.tmp 18), none⟩,
    ⟨some 20, .move (.tmp 3), none⟩,
    ⟨some 21, .binOp .add 9 (.tmp 19) (.tmp 20) 9, none⟩,
    ⟨some 3, .assign (.tmp 21), none⟩]))
  (.region [⟨some 14, .move (.tmp 4), none⟩,
    ⟨some 15, .binOp .quo 3 (.tmp 14) (.const (.int .i64 256)) 3, none⟩,
    ⟨some 4, .assign (.tmp 15), none⟩])))
/-- prefect/prefectref1.length -/
def pc30 : PC :=
  (.seq (.region [⟨some 2, .assign (.const (.string ⟨#[]⟩)), none⟩])
  (.seq (.seq (.region [⟨some 5, .move (.tmp 0), none⟩,
    ⟨some 6, .binOp .lss 3 (.tmp 5) (.const (.int .i64 128)) 3, none⟩])
  (.cond (.tmp 6)
    (.seq (.region [⟨some 7, .move (.tmp 0), none⟩,
      ⟨some 8, .convert 3 5 (.tmp 7), none⟩,
      ⟨some 9, .buildSlice 45 1 #[(0, .tmp 8)], none⟩,
      ⟨some 10, .convert 45 9 (.tmp 9), none⟩,
      ⟨some 2, .assign (.tmp 10), none⟩])
    .ret)
    .skip))
  (.seq (.region [⟨some 3, .assign (.const (.string ⟨#[]⟩)), none⟩])
  (.seq (.seq (.region [⟨some 11, .move (.tmp 0), none⟩,
    ⟨some 4, .assign (.tmp 11), none⟩])
  (.block 0 (.loop pc30L0)))
  (.seq (.region [⟨some 22, .move (.tmp 3), none⟩,
    ⟨some 23, .call ⟨.builtin .len, #[.tmp 22], #[9]⟩, none⟩,
    ⟨some 24, .binOp .add 3 (.const (.int .i64 128)) (.tmp 23) 3, none⟩,
    ⟨some 25, .convert 3 5 (.tmp 24), none⟩,
    ⟨some 26, .buildSlice 45 1 #[(0, .tmp 25)], none⟩,
    ⟨some 27, .convert 45 9 (.tmp 26), none⟩,
    ⟨some 28, .move (.tmp 3), none⟩,
    ⟨some 29, .binOp .add 9 (.tmp 27) (.tmp 28) 9, none⟩,
    ⟨some 2, .assign (.tmp 29), none⟩])
  .ret)))))
def fn30 : PFn := ⟨30, [.tmp 2], pc30⟩
theorem fnOk30 : FnOk Try.prog 30 fn30 := ⟨⟨_, _, Try.func30, rfl, by kernel_rfl, rfl, rfl, of_decide_eq_true (by kernel_rfl)⟩⟩

def pc21L0 : PC :=
  (.seq (.seq (.region [⟨some 10, .move (.tmp 5), none⟩,
    ⟨some 11, .fieldAddr 25 (.tmp 1) 2, none⟩,
    ⟨some 12, .load 23 (.tmp 11), none⟩,
    ⟨some 13, .call ⟨.builtin .len, #[.tmp 12], #[23]⟩, none⟩,
    ⟨some 14, .binOp .lss 3 (.tmp 10) (.tmp 13) 3, none⟩])
  (.cond (.tmp 14)
    .skip
    (.exit 0)))
  (.seq (.block 1 (.seq (.region [⟨some 18, .fieldAddr 25 (.tmp 1) 2, none⟩,
    ⟨some 19, .load 23 (.tmp 18), none⟩,
    ⟨some 20, .move (.tmp 5), none⟩,
    ⟨some 21, .indexAddr 23 (.tmp 19) (.tmp 20), none⟩,
    ⟨some 22, .load 25 (.tmp 21), none⟩,
    ⟨some 23, .call ⟨.value (.func 21), #[.tmp 22], #[25]⟩, none⟩,
    ⟨some 17, .move (.tmp 23), none⟩,
    ⟨some 24, .extract (.tmp 17) 0, none⟩,
    ⟨some 25, .extract (.tmp 17) 1, none⟩,
    ⟨some 6, .assign (.tmp 24), none⟩,
    ⟨some 7, .assign (.tmp 25), none⟩])
  (.seq (.seq (.region [⟨some 26, .move (.tmp 7), none⟩,
    ⟨some 27, .unOp .not 4 (.tmp 26), none⟩])
  (.cond (.tmp 27)
    (.seq (.region [⟨some 2, .assign (.const (.string ⟨#[]⟩)), none⟩,
      ⟨some 3, .assign (.const (.bool false)), none⟩])
    .ret)
    .skip))
  (.region [⟨some 28, .move (.tmp 4), none⟩,
    ⟨some 29, .move (.tmp 6), none⟩,
    ⟨some 30, .binOp .add 9 (.tmp 28) (.tmp 29) 9, none⟩,
    ⟨some 4, .assign (.tmp 30), none⟩]))))
  (.region [⟨some 15, .move (.tmp 5), none⟩,
    ⟨some 16, .binOp .add 3 (.tmp 15) (.const (.int .i64 1)) 3, none⟩,
    ⟨some 5, .assign (.tmp 16), none⟩])))
/-- prefect/prefectref1.Bytes -/
def pc21 : PC :=
  (.seq (.region [⟨some 1, .box 25 (.tmp 0), none⟩,
    ⟨some 2, .assign (.const (.string ⟨#[]⟩)), none⟩,
    ⟨some 3, .assign (.const (.bool false)), none⟩])
  (.seq (.region [⟨some 8, .fieldAddr 25 (.tmp 1) 1, none⟩,
    ⟨some 9, .load 9 (.tmp 8), none⟩,
    ⟨some 4, .assign (.tmp 9), none⟩])
  (.seq (.seq (.region [⟨some 5, .assign (.const (.int .i64 0)), none⟩])
  (.block 0 (.loop pc21L0)))
  (.seq (.seq (.region [⟨some 31, .move (.tmp 4), none⟩,
    ⟨some 32, .call ⟨.builtin .len, #[.tmp 31], #[9]⟩, none⟩,
    ⟨some 33, .binOp .gtr 3 (.tmp 32) (.const (.int .i64 4000)) 3, none⟩])
  (.cond (.tmp 33)
    (.seq (.region [⟨some 2, .assign (.const (.string ⟨#[]⟩)), none⟩,
      ⟨some 3, .assign (.const (.bool false)), none⟩])
    .ret)
    .skip))
  (.seq (.draw [⟨some 34, .fieldAddr 25 (.tmp 1) 0, none⟩,
    ⟨some 35, .load 5 (.tmp 34), none⟩,
    ⟨some 36, .buildSlice 45 1 #[(0, .tmp 35)], none⟩,
    ⟨some 37, .convert 45 9 (.tmp 36), none⟩,
    ⟨some 38, .move (.tmp 4), none⟩,
    ⟨some 39, .call ⟨.builtin .len, #[.tmp 38], #[9]⟩, none⟩,
    ⟨some 40, .call ⟨.value (.func 30), #[.tmp 39], #[3]⟩, none⟩,
    ⟨some 41, .binOp .add 9 (.tmp 37) (.tmp 40) 9, none⟩,
    ⟨some 42, .move (.tmp 4), none⟩]
    [⟨some 43, .binOp .add 9 (.tmp 41) (.tmp 42) 9, none⟩,
    ⟨some 2, .assign (.tmp 43), none⟩,
    ⟨some 3, .assign (.const (.bool true)), none⟩])
  .ret)))))
def fn21 : PFn := ⟨44, [.tmp 2, .tmp 3], pc21⟩
theorem fnOk21 : FnOk Try.prog 21 fn21 := ⟨⟨_, _, Try.func21, rfl, by kernel_rfl, rfl, rfl, of_decide_eq_true (by kernel_rfl)⟩⟩

def pc27L0 : PC :=
  (.seq (.seq (.region [⟨some 31, .move (.tmp 3), none⟩,
    ⟨some 32, .fieldAddr 25 (.tmp 1) 2, none⟩,
    ⟨some 33, .load 23 (.tmp 32), none⟩,
    ⟨some 34, .call ⟨.builtin .len, #[.tmp 33], #[23]⟩, none⟩,
    ⟨some 35, .binOp .lss 3 (.tmp 31) (.tmp 34) 3, none⟩])
  (.cond (.tmp 35)
    .skip
    (.exit 0)))
  (.seq (.block 1 (.seq (.region [⟨some 38, .fieldAddr 25 (.tmp 1) 2, none⟩,
    ⟨some 39, .load 23 (.tmp 38), none⟩,
    ⟨some 40, .move (.tmp 3), none⟩,
    ⟨some 41, .indexAddr 23 (.tmp 39) (.tmp 40), none⟩,
    ⟨some 42, .load 25 (.tmp 41), none⟩,
    ⟨some 43, .call ⟨.value (.func 27), #[.tmp 42], #[25]⟩, none⟩,
    ⟨some 44, .unOp .not 4 (.tmp 43), none⟩])
  (.cond (.tmp 44)
    (.seq (.region [⟨some 2, .assign (.const (.bool false)), none⟩])
    .ret)
    .skip)))
  (.region [⟨some 36, .move (.tmp 3), none⟩,
    ⟨some 37, .binOp .add 3 (.tmp 36) (.const (.int .i64 1)) 3, none⟩,
    ⟨some 3, .assign (.tmp 37), none⟩])))
/-- prefect/prefectref1.Right -/
def pc27 : PC :=
  (.seq (.region [⟨some 1, .box 25 (.tmp 0), none⟩,
    ⟨some 2, .assign (.const (.bool false)), none⟩])
  (.seq (.seq (.region [⟨some 4, .fieldAddr 25 (.tmp 1) 0, none⟩,
    ⟨some 5, .load 5 (.tmp 4), none⟩,
    ⟨some 6, .binOp .and 5 (.tmp 5) (.const (.int .u8 31)) 5, none⟩,
    ⟨some 7, .binOp .eql 5 (.tmp 6) (.const (.int .u8 31)) 5, none⟩,
    ⟨some 8, .move (.tmp 7), none⟩,
    ⟨some 9, .fieldAddr 25 (.tmp 1) 0, some (8, false)⟩,
    ⟨some 10, .load 5 (.tmp 9), some (8, false)⟩,
    ⟨some 11, .binOp .and 5 (.tmp 10) (.const (.int .u8 32)) 5, some (8, false)⟩,
    ⟨some 12, .binOp .neq 5 (.tmp 11) (.const (.int .u8 0)) 5, some (8, false)⟩,
    ⟨some 13, .move (.tmp 12), some (8, false)⟩,
    ⟨some 14, .fieldAddr 25 (.tmp 1) 1, some (13, true)⟩,
    ⟨some 15, .load 9 (.tmp 14), some (13, true)⟩,
    ⟨some 16, .binOp .neq 9 (.tmp 15) (.const (.string ⟨#[]⟩)) 9, some (13, true)⟩,
    ⟨some 17, .pick (.tmp 13) (.tmp 16) (.const (.bool false)), some (8, false)⟩,
    ⟨some 18, .pick (.tmp 8) (.const (.bool true)) (.tmp 17), none⟩,
    ⟨some 19, .move (.tmp 18), none⟩,
    ⟨some 20, .fieldAddr 25 (.tmp 1) 0, some (19, false)⟩,
    ⟨some 21, .load 5 (.tmp 20), some (19, false)⟩,
    ⟨some 22, .binOp .and 5 (.tmp 21) (.const (.int .u8 32)) 5, some (19, false)⟩,
    ⟨some 23, .binOp .eql 5 (.tmp 22) (.const (.int .u8 0)) 5, some (19, false)⟩,
    ⟨some 24, .move (.tmp 23), some (19, false)⟩,
    ⟨some 25, .fieldAddr 25 (.tmp 1) 2, some (24, true)⟩,
    ⟨some 26, .load 23 (.tmp 25), some (24, true)⟩,
    ⟨some 27, .call ⟨.builtin .len, #[.tmp 26], #[23]⟩, some (24, true)⟩,
    ⟨some 28, .binOp .gtr 3 (.tmp 27) (.const (.int .i64 0)) 3, some (24, true)⟩,
    ⟨some 29, .pick (.tmp 24) (.tmp 28) (.const (.bool false)), some (19, false)⟩,
    ⟨some 30, .pick (.tmp 19) (.const (.bool true)) (.tmp 29), none⟩])
  (.cond (.tmp 30)
    (.seq (.region [⟨some 2, .assign (.const (.bool false)), none⟩])
    .ret)
    .skip))
  (.seq (.seq (.region [⟨some 3, .assign (.const (.int .i64 0)), none⟩])
  (.block 0 (.loop pc27L0)))
  (.seq (.region [⟨some 2, .assign (.const (.bool true)), none⟩])
  .ret))))
def fn27 : PFn := ⟨45, [.tmp 2], pc27⟩
theorem fnOk27 : FnOk Try.prog 27 fn27 := ⟨⟨_, _, Try.func27, rfl, by kernel_rfl, rfl, rfl, of_decide_eq_true (by kernel_rfl)⟩⟩

def pc28L0 : PC :=
  (.seq (.seq (.region [⟨some 5, .move (.tmp 4), none⟩,
    ⟨some 6, .fieldAddr 25 (.tmp 1) 2, none⟩,
    ⟨some 7, .load 23 (.tmp 6), none⟩,
    ⟨some 8, .call ⟨.builtin .len, #[.tmp 7], #[23]⟩, none⟩,
    ⟨some 9, .binOp .lss 3 (.tmp 5) (.tmp 8) 3, none⟩])
  (.cond (.tmp 9)
    .skip
    (.exit 0)))
  (.seq (.block 1 (.region [⟨some 12, .move (.tmp 3), none⟩,
    ⟨some 13, .fieldAddr 25 (.tmp 1) 2, none⟩,
    ⟨some 14, .load 23 (.tmp 13), none⟩,
    ⟨some 15, .move (.tmp 4), none⟩,
    ⟨some 16, .indexAddr 23 (.tmp 14) (.tmp 15), none⟩,
    ⟨some 17, .load 25 (.tmp 16), none⟩,
    ⟨some 18, .call ⟨.value (.func 28), #[.tmp 17], #[25]⟩, none⟩,
    ⟨some 19, .call ⟨.builtin .max, #[.tmp 12, .tmp 18], #[3, 3]⟩, none⟩,
    ⟨some 3, .assign (.tmp 19), none⟩]))
  (.region [⟨some 10, .move (.tmp 4), none⟩,
    ⟨some 11, .binOp .add 3 (.tmp 10) (.const (.int .i64 1)) 3, none⟩,
    ⟨some 4, .assign (.tmp 11), none⟩])))
/-- prefect/prefectref1.Deep -/
def pc28 : PC :=
  (.seq (.region [⟨some 1, .box 25 (.tmp 0), none⟩,
    ⟨some 2, .assign (.const (.int .i64 0)), none⟩])
  (.seq (.region [⟨some 3, .assign (.const (.int .i64 0)), none⟩])
  (.seq (.seq (.region [⟨some 4, .assign (.const (.int .i64 0)), none⟩])
  (.block 0 (.loop pc28L0)))
  (.seq (.region [⟨some 20, .move (.tmp 3), none⟩,
    ⟨some 21, .binOp .add 3 (.tmp 20) (.const (.int .i64 1)) 3, none⟩,
    ⟨some 2, .assign (.tmp 21), none⟩])
  .ret))))
def fn28 : PFn := ⟨22, [.tmp 2], pc28⟩
theorem fnOk28 : FnOk Try.prog 28 fn28 := ⟨⟨_, _, Try.func28, rfl, by kernel_rfl, rfl, rfl, of_decide_eq_true (by kernel_rfl)⟩⟩

/-- prefect/prefectref1.Write -/
def pc18 : PC :=
  (.seq (.region [⟨some 1, .box 25 (.tmp 0), none⟩,
    ⟨some 2, .assign (.const (.string ⟨#[]⟩)), none⟩,
    ⟨some 3, .assign (.const (.int .i64 0)), none⟩])
  (.seq (.seq (.region [⟨some 6, .load 25 (.tmp 1), none⟩,
    ⟨some 7, .call ⟨.value (.func 27), #[.tmp 6], #[25]⟩, none⟩,
    ⟨some 8, .unOp .not 4 (.tmp 7), none⟩])
  (.cond (.tmp 8)
    (.seq (.region [⟨some 2, .assign (.const (.string ⟨#[]⟩)), none⟩,
      ⟨some 3, .assign (.const (.int .i64 14)), none⟩])
    .ret)
    .skip))
  (.seq (.seq (.region [⟨some 9, .load 25 (.tmp 1), none⟩,
    ⟨some 10, .call ⟨.value (.func 28), #[.tmp 9], #[25]⟩, none⟩,
    ⟨some 11, .binOp .gtr 3 (.tmp 10) (.const (.int .i64 20)) 3, none⟩])
  (.cond (.tmp 11)
    (.seq (.region [⟨some 2, .assign (.const (.string ⟨#[]⟩)), none⟩,
      ⟨some 3, .assign (.const (.int .i64 12)), none⟩])
    .ret)
    .skip))
  (.seq (.region [⟨some 13, .load 25 (.tmp 1), none⟩,
    ⟨some 14, .call ⟨.value (.func 21), #[.tmp 13], #[25]⟩, none⟩,
    ⟨some 12, .move (.tmp 14), none⟩,
    ⟨some 15, .extract (.tmp 12) 0, none⟩,
    ⟨some 16, .extract (.tmp 12) 1, none⟩,
    ⟨some 4, .assign (.tmp 15), none⟩,
    ⟨some 5, .assign (.tmp 16), none⟩])
  (.seq (.seq (.region [⟨some 17, .move (.tmp 5), none⟩,
    ⟨some 18, .unOp .not 4 (.tmp 17), none⟩])
  (.cond (.tmp 18)
    (.seq (.region [⟨some 2, .assign (.const (.string ⟨#[]⟩)), none⟩,
      ⟨some 3, .assign (.const (.int .i64 13)), none⟩])
    .ret)
    .skip))
  (.seq (.region [⟨some 19, .move (.tmp 4), none⟩,
    ⟨some 2, .assign (.tmp 19), none⟩,
    ⟨some 3, .assign (.const (.int .i64 0)), none⟩])
  .ret))))))
def fn18 : PFn := ⟨20, [.tmp 2, .tmp 3], pc18⟩
theorem fnOk18 : FnOk Try.prog 18 fn18 := ⟨⟨_, _, Try.func18, rfl, by kernel_rfl, rfl, rfl, of_decide_eq_true (by kernel_rfl)⟩⟩

/-- prefect/prefectlaw1.BerWrites -/
def pc4 : PC :=
  (.seq (.region [⟨some 2, .box 25 (.tmp 0), none⟩,
    ⟨some 3, .box 25 (.tmp 1), none⟩,
    ⟨some 4, .assign (.const (.bool false)), none⟩])
  (.seq (.seq (.region [⟨some 9, .call ⟨.value (.func 10), #[], #[]⟩, none⟩,
    ⟨some 10, .unOp .not 4 (.tmp 9), none⟩])
  (.cond (.tmp 10)
    (.seq (.region [⟨some 4, .assign (.const (.bool false)), none⟩])
    .ret)
    .skip))
  (.seq (.seq (.region [⟨some 11, .load 25 (.tmp 2), none⟩,
    ⟨some 12, .call ⟨.value (.func 16), #[.tmp 11, .const (.int .i64 0)], #[25, 3]⟩, none⟩,
    ⟨some 13, .unOp .not 4 (.tmp 12), none⟩,
    ⟨some 14, .move (.tmp 13), none⟩,
    ⟨some 15, .load 25 (.tmp 3), some (14, false)⟩,
    ⟨some 16, .call ⟨.value (.func 16), #[.tmp 15, .const (.int .i64 0)], #[25, 3]⟩, some (14, false)⟩,
    ⟨some 17, .unOp .not 4 (.tmp 16), some (14, false)⟩,
    ⟨some 18, .pick (.tmp 14) (.const (.bool true)) (.tmp 17), none⟩])
  (.cond (.tmp 18)
    (.seq (.region [⟨some 4, .assign (.const (.bool true)), none⟩])
    .ret)
    .skip))
  (.seq (.region [⟨some 20, .load 25 (.tmp 2), none⟩,
    ⟨some 21, .call ⟨.value (.func 17), #[.tmp 20], #[25]⟩, none⟩,
    ⟨some 19, .move (.tmp 21), none⟩,
    ⟨some 22, .extract (.tmp 19) 0, none⟩,
    ⟨some 23, .extract (.tmp 19) 1, none⟩,
    ⟨some 5, .assign (.tmp 22), none⟩,
    ⟨some 6, .assign (.tmp 23), none⟩])
  (.seq (.region [⟨some 25, .load 25 (.tmp 2), none⟩,
    ⟨some 26, .call ⟨.value (.func 18), #[.tmp 25], #[25]⟩, none⟩,
    ⟨some 24, .move (.tmp 26), none⟩,
    ⟨some 27, .extract (.tmp 24) 0, none⟩,
    ⟨some 28, .extract (.tmp 24) 1, none⟩,
    ⟨some 7, .assign (.tmp 27), none⟩,
    ⟨some 8, .assign (.tmp 28), none⟩])
  (.seq (.draw [⟨some 29, .move (.tmp 5), none⟩,
    ⟨some 30, .move (.tmp 7), none⟩,
    ⟨some 31, .binOp .eql 9 (.tmp 29) (.tmp 30) 9, none⟩,
    ⟨some 32, .move (.tmp 31), none⟩,
    ⟨some 33, .move (.tmp 6), some (32, true)⟩,
    ⟨some 34, .move (.tmp 8), some (32, true)⟩,
    ⟨some 35, .binOp .eql 3 (.tmp 33) (.tmp 34) 3, some (32, true)⟩,
    ⟨some 36, .pick (.tmp 32) (.tmp 35) (.const (.bool false)), none⟩,
    ⟨some 37, .move (.tmp 36), none⟩,
    ⟨some 38, .load 25 (.tmp 2), some (37, true)⟩,
    ⟨some 39, .call ⟨.value (.func 19), #[.tmp 38], #[25]⟩, some (37, true)⟩,
    ⟨some 40, .move (.tmp 8), some (37, true)⟩,
    ⟨some 41, .binOp .eql 3 (.tmp 40) (.const (.int .i64 0)) 3, some (37, true)⟩,
    ⟨some 42, .binOp .eql 4 (.tmp 39) (.tmp 41) 4, some (37, true)⟩,
    ⟨some 43, .pick (.tmp 37) (.tmp 42) (.const (.bool false)), none⟩,
    ⟨some 44, .move (.tmp 43), none⟩,
    ⟨some 45, .load 25 (.tmp 2), some (44, true)⟩,
    ⟨some 46, .load 25 (.tmp 3), some (44, true)⟩,
    ⟨some 47, .call ⟨.value (.func 20), #[.tmp 45, .tmp 46], #[25, 25]⟩, some (44, true)⟩,
    ⟨some 48, .load 25 (.tmp 2), some (44, true)⟩,
    ⟨some 49, .load 25 (.tmp 3), some (44, true)⟩]
    [⟨some 50, .call ⟨.value (.func 15), #[.tmp 48, .tmp 49], #[25, 25]⟩, some (44, true)⟩,
    ⟨some 51, .binOp .eql 4 (.tmp 47) (.tmp 50) 4, some (44, true)⟩,
    ⟨some 52, .pick (.tmp 44) (.tmp 51) (.const (.bool false)), none⟩,
    ⟨some 4, .assign (.tmp 52), none⟩])
  .ret))))))
def fn4 : PFn := ⟨53, [.tmp 4], pc4⟩
theorem fnOk4 : FnOk Try.prog 4 fn4 := ⟨⟨_, _, Try.func4, rfl, by kernel_rfl, rfl, rfl, of_decide_eq_true (by kernel_rfl)⟩⟩

/-- prefect/prefectlaw1.BerBack -/
def pc5 : PC :=
  (.seq (.region [⟨some 3, .box 25 (.tmp 0), none⟩,
    ⟨some 6, .assign (.const (.bool false)), none⟩])
  (.seq (.seq (.region [⟨some 17, .call ⟨.value (.func 10), #[], #[]⟩, none⟩,
    ⟨some 18, .unOp .not 4 (.tmp 17), none⟩])
  (.cond (.tmp 18)
    (.seq (.region [⟨some 6, .assign (.const (.bool false)), none⟩])
    .ret)
    .skip))
  (.seq (.seq (.region [⟨some 19, .load 25 (.tmp 3), none⟩,
    ⟨some 20, .call ⟨.value (.func 16), #[.tmp 19, .const (.int .i64 0)], #[25, 3]⟩, none⟩,
    ⟨some 21, .unOp .not 4 (.tmp 20), none⟩,
    ⟨some 22, .move (.tmp 21), none⟩,
    ⟨some 23, .move (.tmp 1), some (22, false)⟩,
    ⟨some 24, .call ⟨.builtin .len, #[.tmp 23], #[9]⟩, some (22, false)⟩,
    ⟨some 25, .binOp .gtr 3 (.tmp 24) (.const (.int .i64 100)) 3, some (22, false)⟩,
    ⟨some 26, .pick (.tmp 22) (.const (.bool true)) (.tmp 25), none⟩])
  (.cond (.tmp 26)
    (.seq (.region [⟨some 6, .assign (.const (.bool true)), none⟩])
    .ret)
    .skip))
  (.seq (.region [⟨some 28, .load 25 (.tmp 3), none⟩,
    ⟨some 29, .call ⟨.value (.func 17), #[.tmp 28], #[25]⟩, none⟩,
    ⟨some 27, .move (.tmp 29), none⟩,
    ⟨some 30, .extract (.tmp 27) 0, none⟩,
    ⟨some 31, .extract (.tmp 27) 1, none⟩,
    ⟨some 7, .assign (.tmp 30), none⟩,
    ⟨some 8, .assign (.tmp 31), none⟩])
  (.seq (.seq (.region [⟨some 32, .move (.tmp 8), none⟩,
    ⟨some 33, .binOp .neq 26 (.tmp 32) (.const (.int .i64 0)) 26, none⟩])
  (.cond (.tmp 33)
    (.seq (.region [⟨some 34, .move (.tmp 7), none⟩,
      ⟨some 35, .binOp .eql 9 (.tmp 34) (.const (.string ⟨#[]⟩)) 9, none⟩,
      ⟨some 36, .move (.tmp 35), none⟩,
      ⟨some 37, .load 25 (.tmp 3), some (36, true)⟩,
      ⟨some 38, .call ⟨.value (.func 19), #[.tmp 37], #[25]⟩, some (36, true)⟩,
      ⟨some 39, .unOp .not 4 (.tmp 38), some (36, true)⟩,
      ⟨some 40, .pick (.tmp 36) (.tmp 39) (.const (.bool false)), none⟩,
      ⟨some 6, .assign (.tmp 40), none⟩])
    .ret)
    .skip))
  (.seq (.region [⟨some 42, .move (.tmp 7), none⟩,
    ⟨some 43, .move (.tmp 1), none⟩,
    ⟨some 44, .binOp .add 9 (.tmp 42) (.tmp 43) 9, none⟩,
    ⟨some 45, .call ⟨.value (.func 11), #[.tmp 44], #[9]⟩, none⟩,
    ⟨some 41, .move (.tmp 45), none⟩,
    ⟨some 46, .extract (.tmp 41) 0, none⟩,
    ⟨some 47, .extract (.tmp 41) 1, none⟩,
    ⟨some 48, .extract (.tmp 41) 2, none⟩,
    ⟨some 49, .extract (.tmp 41) 3, none⟩,
    ⟨some 9, .alloc 25, none⟩,
    ⟨none, .store 25 (.tmp 9) (.tmp 46), none⟩,
    ⟨some 10, .assign (.tmp 47), none⟩,
    ⟨some 11, .assign (.tmp 48), none⟩,
    ⟨some 12, .assign (.tmp 49), none⟩])
  (.seq (.seq (.region [⟨some 50, .move (.tmp 12), none⟩,
    ⟨some 51, .binOp .neq 26 (.tmp 50) (.const (.int .i64 0)) 26, none⟩,
    ⟨some 52, .move (.tmp 51), none⟩,
    ⟨some 53, .move (.tmp 10), some (52, false)⟩,
    ⟨some 54, .move (.tmp 7), some (52, false)⟩,
    ⟨some 55, .call ⟨.builtin .len, #[.tmp 54], #[9]⟩, some (52, false)⟩,
    ⟨some 56, .binOp .neq 3 (.tmp 53) (.tmp 55) 3, some (52, false)⟩,
    ⟨some 57, .pick (.tmp 52) (.const (.bool true)) (.tmp 56), none⟩,
    ⟨some 58, .move (.tmp 57), none⟩,
    ⟨some 59, .move (.tmp 11), some (58, false)⟩,
    ⟨some 60, .binOp .neq 3 (.tmp 59) (.const (.int .i64 0)) 3, some (58, false)⟩,
    ⟨some 61, .pick (.tmp 58) (.const (.bool true)) (.tmp 60), none⟩,
    ⟨some 62, .move (.tmp 61), none⟩,
    ⟨some 63, .load 25 (.tmp 3), some (62, false)⟩,
    ⟨some 64, .load 25 (.tmp 9), some (62, false)⟩,
    ⟨some 65, .call ⟨.value (.func 20), #[.tmp 63, .tmp 64], #[25, 25]⟩, some (62, false)⟩,
    ⟨some 66, .unOp .not 4 (.tmp 65), some (62, false)⟩,
    ⟨some 67, .pick (.tmp 62) (.const (.bool true)) (.tmp 66), none⟩,
    ⟨some 68, .move (.tmp 67), none⟩,
    ⟨some 69, .move (.tmp 7), some (68, false)⟩,
    ⟨some 70, .call ⟨.builtin .len, #[.tmp 69], #[9]⟩, some (68, false)⟩,
    ⟨some 71, .binOp .lss 3 (.tmp 70) (.const (.int .i64 2)) 3, some (68, false)⟩,
    ⟨some 72, .pick (.tmp 68) (.const (.bool true)) (.tmp 71), none⟩])
  (.cond (.tmp 72)
    (.seq (.region [⟨some 6, .assign (.const (.bool false)), none⟩])
    .ret)
    .skip))
  (.seq (.region [⟨some 74, .move (.tmp 7), none⟩,
    ⟨some 75, .move (.tmp 2), none⟩,
    ⟨some 76, .convert 43 3 (.tmp 75), none⟩,
    ⟨some 77, .move (.tmp 7), none⟩,
    ⟨some 78, .call ⟨.builtin .len, #[.tmp 77], #[9]⟩, none⟩,
    ⟨some 79, .binOp .rem 3 (.tmp 76) (.tmp 78) 3, none⟩,
    ⟨some 80, .slice 9 (.tmp 74) none (some (.tmp 79)) none, none⟩,
    ⟨some 81, .call ⟨.value (.func 11), #[.tmp 80], #[9]⟩, none⟩,
    ⟨some 73, .move (.tmp 81), none⟩,
    ⟨some 82, .extract (.tmp 73) 0, none⟩,
    ⟨some 83, .extract (.tmp 73) 1, none⟩,
    ⟨some 84, .extract (.tmp 73) 2, none⟩,
    ⟨some 85, .extract (.tmp 73) 3, none⟩,
    ⟨some 13, .alloc 25, none⟩,
    ⟨none, .store 25 (.tmp 13) (.tmp 82), none⟩,
    ⟨some 14, .assign (.tmp 83), none⟩,
    ⟨some 15, .assign (.tmp 84), none⟩,
    ⟨some 16, .assign (.tmp 85), none⟩])
  (.seq (.region [⟨some 86, .move (.tmp 16), none⟩,
    ⟨some 87, .binOp .eql 26 (.tmp 86) (.const (.int .i64 10)) 26, none⟩,
    ⟨some 88, .move (.tmp 87), none⟩,
    ⟨some 89, .fieldAddr 25 (.tmp 13) 2, some (88, true)⟩,
    ⟨some 90, .load 23 (.tmp 89), some (88, true)⟩,
    ⟨some 91, .call ⟨.builtin .len, #[.tmp 90], #[23]⟩, some (88, true)⟩,
    ⟨some 92, .binOp .eql 3 (.tmp 91) (.const (.int .i64 0)) 3, some (88, true)⟩,
    ⟨some 93, .pick (.tmp 88) (.tmp 92) (.const (.bool false)), none⟩,
    ⟨some 94, .move (.tmp 93), none⟩,
    ⟨some 95, .fieldAddr 25 (.tmp 13) 1, some (94, true)⟩,
    ⟨some 96, .load 9 (.tmp 95), some (94, true)⟩,
    ⟨some 97, .binOp .eql 9 (.tmp 96) (.const (.string ⟨#[]⟩)) 9, some (94, true)⟩,
    ⟨some 98, .pick (.tmp 94) (.tmp 97) (.const (.bool false)), none⟩,
    ⟨some 6, .assign (.tmp 98), none⟩])
  .ret)))))))))
def fn5 : PFn := ⟨99, [.tmp 6], pc5⟩
theorem fnOk5 : FnOk Try.prog 5 fn5 := ⟨⟨_, _, Try.func5, rfl, by kernel_rfl, rfl, rfl, of_decide_eq_true (by kernel_rfl)⟩⟩

def pc6L0 : PC :=
  (.seq (.seq (.region [⟨some 40, .move (.tmp 11), none⟩,
    ⟨some 41, .binOp .geq 3 (.tmp 40) (.const (.int .i64 0)) 3, none⟩])
  (.cond (.tmp 41)
    .skip
    (.exit 0)))
  (.seq (.block 1 (.region [⟨some 44, .move (.tmp 10), none⟩,
    ⟨some 45, .move (.tmp 7), none⟩,
    ⟨some 46, .move (.tmp 11), none⟩,
    ⟨some 47, .binOp .mul 3 (.const (.int .i64 8)) (.tmp 46) 3, none⟩,
    ⟨some 48, .convert 3 46 (.tmp 47), none⟩,
    ⟨some 49, .binOp .shr 3 (.tmp 45) (.tmp 48) 46, none⟩,
    ⟨some 50, .convert 3 5 (.tmp 49), none⟩,
    ⟨some 51, .buildSlice 45 1 #[(0, .tmp 50)], none⟩,
    ⟨some 52, .call ⟨.builtin .append, #[.tmp 44, .tmp 51], #[45, 45]⟩, none⟩,
    ⟨some 10, .assign (.tmp 52), none⟩]))
  (.region [⟨some 42, .move (.tmp 11), none⟩,
    ⟨some 43, .binOp .sub 3 (.tmp 42) (.const (.int .i64 1)) 3, none⟩,
    ⟨some 11, .assign (.tmp 43), none⟩])))
/-- prefect/prefectlaw1.BerLengths -/
def pc6 : PC :=
  (.seq (.region [⟨some 6, .assign (.const (.bool false)), none⟩])
  (.seq (.seq (.region [⟨some 21, .call ⟨.value (.func 10), #[], #[]⟩, none⟩,
    ⟨some 22, .unOp .not 4 (.tmp 21), none⟩])
  (.cond (.tmp 22)
    (.seq (.region [⟨some 6, .assign (.const (.bool false)), none⟩])
    .ret)
    .skip))
  (.seq (.region [⟨some 23, .move (.tmp 0), none⟩,
    ⟨some 24, .convert 43 3 (.tmp 23), none⟩,
    ⟨some 25, .binOp .rem 3 (.tmp 24) (.const (.int .i64 4200)) 3, none⟩,
    ⟨some 7, .assign (.tmp 25), none⟩])
  (.seq (.region [⟨some 26, .move (.tmp 2), none⟩,
    ⟨some 27, .binOp .andNot 5 (.tmp 26) (.const (.int .u8 32)) 5, none⟩,
    ⟨some 28, .binOp .and 5 (.tmp 27) (.const (.int .u8 254)) 5, none⟩,
    ⟨some 8, .assign (.tmp 28), none⟩])
  (.seq (.region [⟨some 29, .move (.tmp 1), none⟩,
    ⟨some 30, .binOp .rem 5 (.tmp 29) (.const (.int .u8 3)) 5, none⟩,
    ⟨some 31, .convert 5 3 (.tmp 30), none⟩,
    ⟨some 32, .binOp .add 3 (.tmp 31) (.const (.int .i64 2)) 3, none⟩,
    ⟨some 9, .assign (.tmp 32), none⟩])
  (.seq (.region [⟨some 33, .move (.tmp 8), none⟩,
    ⟨some 34, .move (.tmp 9), none⟩,
    ⟨some 35, .binOp .add 3 (.const (.int .i64 128)) (.tmp 34) 3, none⟩,
    ⟨some 36, .convert 3 5 (.tmp 35), none⟩,
    ⟨some 37, .buildSlice 45 2 #[(0, .tmp 33), (1, .tmp 36)], none⟩,
    ⟨some 10, .assign (.tmp 37), none⟩])
  (.seq (.seq (.region [⟨some 38, .move (.tmp 9), none⟩,
    ⟨some 39, .binOp .sub 3 (.tmp 38) (.const (.int .i64 1)) 3, none⟩,
    ⟨some 11, .assign (.tmp 39), none⟩])
  (.block 0 (.loop pc6L0)))
  (.seq (.region [⟨some 54, .move (.tmp 10), none⟩,
    ⟨some 55, .convert 45 9 (.tmp 54), none⟩,
    ⟨some 56, .call ⟨.value (.func 13), #[.tmp 55], #[9]⟩, none⟩,
    ⟨some 53, .move (.tmp 56), none⟩,
    ⟨some 57, .extract (.tmp 53) 0, none⟩,
    ⟨some 58, .extract (.tmp 53) 1, none⟩,
    ⟨some 59, .extract (.tmp 53) 2, none⟩,
    ⟨some 12, .assign (.tmp 57), none⟩,
    ⟨some 13, .assign (.tmp 58), none⟩,
    ⟨some 14, .assign (.tmp 59), none⟩])
  (.seq (.region [⟨some 61, .move (.tmp 8), none⟩,
    ⟨some 62, .buildSlice 45 3 #[(0, .tmp 61), (1, .const (.int .u8 128)), (2, .const (.int .u8 1))], none⟩,
    ⟨some 63, .convert 45 9 (.tmp 62), none⟩,
    ⟨some 64, .call ⟨.value (.func 13), #[.tmp 63], #[9]⟩, none⟩,
    ⟨some 60, .move (.tmp 64), none⟩,
    ⟨some 65, .extract (.tmp 60) 0, none⟩,
    ⟨some 66, .extract (.tmp 60) 1, none⟩,
    ⟨some 67, .extract (.tmp 60) 2, none⟩,
    ⟨some 15, .assign (.tmp 65), none⟩,
    ⟨some 16, .assign (.tmp 66), none⟩,
    ⟨some 17, .assign (.tmp 67), none⟩])
  (.seq (.region [⟨some 69, .move (.tmp 8), none⟩,
    ⟨some 70, .buildSlice 45 7 #[(0, .tmp 69), (1, .const (.int .u8 133)), (2, .const (.int .u8 0)), (3, .const (.int .u8 0)), (4, .const (.int .u8 0)), (5, .const (.int .u8 0)), (6, .const (.int .u8 1))], none⟩,
    ⟨some 71, .convert 45 9 (.tmp 70), none⟩,
    ⟨some 72, .call ⟨.value (.func 13), #[.tmp 71], #[9]⟩, none⟩,
    ⟨some 68, .move (.tmp 72), none⟩,
    ⟨some 73, .extract (.tmp 68) 0, none⟩,
    ⟨some 74, .extract (.tmp 68) 1, none⟩,
    ⟨some 75, .extract (.tmp 68) 2, none⟩,
    ⟨some 18, .assign (.tmp 73), none⟩,
    ⟨some 19, .assign (.tmp 74), none⟩,
    ⟨some 20, .assign (.tmp 75), none⟩])
  (.seq (.seq (.region [⟨some 76, .move (.tmp 7), none⟩,
    ⟨some 77, .binOp .gtr 3 (.tmp 76) (.const (.int .i64 4000)) 3, none⟩])
  (.cond (.tmp 77)
    (.seq (.region [⟨some 78, .move (.tmp 14), none⟩,
      ⟨some 79, .binOp .eql 26 (.tmp 78) (.const (.int .i64 13)) 26, none⟩,
      ⟨some 80, .move (.tmp 79), none⟩,
      ⟨some 81, .move (.tmp 12), some (80, true)⟩,
      ⟨some 82, .binOp .eql 3 (.tmp 81) (.const (.int .i64 0)) 3, some (80, true)⟩,
      ⟨some 83, .pick (.tmp 80) (.tmp 82) (.const (.bool false)), none⟩,
      ⟨some 84, .move (.tmp 83), none⟩,
      ⟨some 85, .move (.tmp 13), some (84, true)⟩,
      ⟨some 86, .binOp .eql 3 (.tmp 85) (.const (.int .i64 0)) 3, some (84, true)⟩,
      ⟨some 87, .pick (.tmp 84) (.tmp 86) (.const (.bool false)), none⟩,
      ⟨some 6, .assign (.tmp 87), none⟩])
    .ret)
    .skip))
  (.seq (.region [⟨some 88, .move (.tmp 14), none⟩,
    ⟨some 89, .binOp .eql 26 (.tmp 88) (.const (.int .i64 0)) 26, none⟩,
    ⟨some 90, .move (.tmp 89), none⟩,
    ⟨some 91, .move (.tmp 12), some (90, true)⟩,
    ⟨some 92, .move (.tmp 9), some (90, true)⟩,
    ⟨some 93, .binOp .add 3 (.const (.int .i64 2)) (.tmp 92) 3, some (90, true)⟩,
    ⟨some 94, .binOp .eql 3 (.tmp 91) (.tmp 93) 3, some (90, true)⟩,
    ⟨some 95, .pick (.tmp 90) (.tmp 94) (.const (.bool false)), none⟩,
    ⟨some 96, .move (.tmp 95), none⟩,
    ⟨some 97, .move (.tmp 13), some (96, true)⟩,
    ⟨some 98, .move (.tmp 7), some (96, true)⟩,
    ⟨some 99, .binOp .eql 3 (.tmp 97) (.tmp 98) 3, some (96, true)⟩,
    ⟨some 100, .pick (.tmp 96) (.tmp 99) (.const (.bool false)), none⟩,
    ⟨some 101, .move (.tmp 100), none⟩,
    ⟨some 102, .move (.tmp 17), some (101, true)⟩,
    ⟨some 103, .binOp .eql 26 (.tmp 102) (.const (.int .i64 11)) 26, some (101, true)⟩,
    ⟨some 104, .pick (.tmp 101) (.tmp 103) (.const (.bool false)), none⟩,
    ⟨some 105, .move (.tmp 104), none⟩,
    ⟨some 106, .move (.tmp 20), some (105, true)⟩,
    ⟨some 107, .binOp .eql 26 (.tmp 106) (.const (.int .i64 11)) 26, some (105, true)⟩,
    ⟨some 108, .pick (.tmp 105) (.tmp 107) (.const (.bool false)), none⟩,
    ⟨some 6, .assign (.tmp 108), none⟩])
  .ret))))))))))))
def fn6 : PFn := ⟨109, [.tmp 6], pc6⟩
theorem fnOk6 : FnOk Try.prog 6 fn6 := ⟨⟨_, _, Try.func6, rfl, by kernel_rfl, rfl, rfl, of_decide_eq_true (by kernel_rfl)⟩⟩

def pc7L0 : PC :=
  (.seq (.seq (.region [⟨some 33, .move (.tmp 9), none⟩,
    ⟨some 34, .move (.tmp 5), none⟩,
    ⟨some 35, .binOp .lss 3 (.tmp 33) (.tmp 34) 3, none⟩])
  (.cond (.tmp 35)
    .skip
    (.exit 0)))
  (.seq (.block 1 (.seq (.region [⟨some 38, .load 25 (.tmp 6), none⟩,
    ⟨some 39, .buildSlice 23 1 #[(0, .tmp 38)], none⟩,
    ⟨some 40, .build 25 #[(0, .const (.int .u8 48)), (2, .tmp 39)], none⟩,
    ⟨none, .store 25 (.tmp 6) (.tmp 40), none⟩])
  (.region [⟨some 42, .load 25 (.tmp 6), none⟩,
    ⟨some 43, .call ⟨.value (.func 21), #[.tmp 42], #[25]⟩, none⟩,
    ⟨some 41, .move (.tmp 43), none⟩,
    ⟨some 44, .extract (.tmp 41) 0, none⟩,
    ⟨some 45, .extract (.tmp 41) 1, none⟩,
    ⟨some 7, .assign (.tmp 44), none⟩])))
  (.region [⟨some 36, .move (.tmp 9), none⟩,
    ⟨some 37, .binOp .add 3 (.tmp 36) (.const (.int .i64 1)) 3, none⟩,
    ⟨some 9, .assign (.tmp 37), none⟩])))
/-- prefect/prefectlaw1.BerDeep -/
def pc7 : PC :=
  (.seq (.region [⟨some 4, .assign (.const (.bool false)), none⟩])
  (.seq (.seq (.region [⟨some 16, .call ⟨.value (.func 10), #[], #[]⟩, none⟩,
    ⟨some 17, .unOp .not 4 (.tmp 16), none⟩])
  (.cond (.tmp 17)
    (.seq (.region [⟨some 4, .assign (.const (.bool false)), none⟩])
    .ret)
    .skip))
  (.seq (.seq (.region [⟨some 18, .move (.tmp 1), none⟩,
    ⟨some 19, .call ⟨.builtin .len, #[.tmp 18], #[9]⟩, none⟩,
    ⟨some 20, .binOp .gtr 3 (.tmp 19) (.const (.int .i64 60)) 3, none⟩])
  (.cond (.tmp 20)
    (.seq (.region [⟨some 4, .assign (.const (.bool true)), none⟩])
    .ret)
    .skip))
  (.seq (.region [⟨some 21, .move (.tmp 0), none⟩,
    ⟨some 22, .binOp .rem 5 (.tmp 21) (.const (.int .u8 4)) 5, none⟩,
    ⟨some 23, .convert 5 3 (.tmp 22), none⟩,
    ⟨some 24, .binOp .add 3 (.tmp 23) (.const (.int .i64 20)) 3, none⟩,
    ⟨some 25, .binOp .sub 3 (.tmp 24) (.const (.int .i64 2)) 3, none⟩,
    ⟨some 5, .assign (.tmp 25), none⟩])
  (.seq (.region [⟨some 26, .move (.tmp 1), none⟩,
    ⟨some 27, .build 25 #[(0, .const (.int .u8 4)), (1, .tmp 26)], none⟩,
    ⟨some 6, .alloc 25, none⟩,
    ⟨none, .store 25 (.tmp 6) (.tmp 27), none⟩])
  (.seq (.region [⟨some 29, .load 25 (.tmp 6), none⟩,
    ⟨some 30, .call ⟨.value (.func 21), #[.tmp 29], #[25]⟩, none⟩,
    ⟨some 28, .move (.tmp 30), none⟩,
    ⟨some 31, .extract (.tmp 28) 0, none⟩,
    ⟨some 32, .extract (.tmp 28) 1, none⟩,
    ⟨some 7, .assign (.tmp 31), none⟩,
    ⟨some 8, .assign (.tmp 32), none⟩])
  (.seq (.seq (.region [⟨some 9, .assign (.const (.int .i64 1)), none⟩])
  (.block 0 (.loop pc7L0)))
  (.seq (.region [⟨some 47, .load 25 (.tmp 6), none⟩,
    ⟨some 48, .call ⟨.value (.func 17), #[.tmp 47], #[25]⟩, none⟩,
    ⟨some 46, .move (.tmp 48), none⟩,
    ⟨some 49, .extract (.tmp 46) 0, none⟩,
    ⟨some 50, .extract (.tmp 46) 1, none⟩,
    ⟨some 10, .assign (.tmp 49), none⟩,
    ⟨some 11, .assign (.tmp 50), none⟩])
  (.seq (.region [⟨some 52, .move (.tmp 7), none⟩,
    ⟨some 53, .call ⟨.value (.func 11), #[.tmp 52], #[9]⟩, none⟩,
    ⟨some 51, .move (.tmp 53), none⟩,
    ⟨some 54, .extract (.tmp 51) 0, none⟩,
    ⟨some 55, .extract (.tmp 51) 1, none⟩,
    ⟨some 56, .extract (.tmp 51) 2, none⟩,
    ⟨some 57, .extract (.tmp 51) 3, none⟩,
    ⟨some 12, .alloc 25, none⟩,
    ⟨none, .store 25 (.tmp 12) (.tmp 54), none⟩,
    ⟨some 13, .assign (.tmp 55), none⟩,
    ⟨some 14, .assign (.tmp 56), none⟩,
    ⟨some 15, .assign (.tmp 57), none⟩])
  (.seq (.seq (.region [⟨some 58, .move (.tmp 5), none⟩,
    ⟨some 59, .binOp .gtr 3 (.tmp 58) (.const (.int .i64 20)) 3, none⟩])
  (.cond (.tmp 59)
    (.seq (.region [⟨some 60, .move (.tmp 11), none⟩,
      ⟨some 61, .binOp .eql 26 (.tmp 60) (.const (.int .i64 12)) 26, none⟩,
      ⟨some 62, .move (.tmp 61), none⟩,
      ⟨some 63, .move (.tmp 15), some (62, true)⟩,
      ⟨some 64, .binOp .eql 26 (.tmp 63) (.const (.int .i64 12)) 26, some (62, true)⟩,
      ⟨some 65, .pick (.tmp 62) (.tmp 64) (.const (.bool false)), none⟩,
      ⟨some 66, .move (.tmp 65), none⟩,
      ⟨some 67, .move (.tmp 14), some (66, true)⟩,
      ⟨some 68, .binOp .geq 3 (.tmp 67) (.const (.int .i64 40)) 3, some (66, true)⟩,
      ⟨some 69, .pick (.tmp 66) (.tmp 68) (.const (.bool false)), none⟩,
      ⟨some 70, .move (.tmp 69), none⟩,
      ⟨some 71, .load 25 (.tmp 6), some (70, true)⟩,
      ⟨some 72, .call ⟨.value (.func 19), #[.tmp 71], #[25]⟩, some (70, true)⟩,
      ⟨some 73, .unOp .not 4 (.tmp 72), some (70, true)⟩,
      ⟨some 74, .pick (.tmp 70) (.tmp 73) (.const (.bool false)), none⟩,
      ⟨some 4, .assign (.tmp 74), none⟩])
    .ret)
    .skip))
  (.seq (.region [⟨some 75, .move (.tmp 11), none⟩,
    ⟨some 76, .binOp .eql 26 (.tmp 75) (.const (.int .i64 0)) 26, none⟩,
    ⟨some 77, .move (.tmp 76), none⟩,
    ⟨some 78, .move (.tmp 15), some (77, true)⟩,
    ⟨some 79, .binOp .eql 26 (.tmp 78) (.const (.int .i64 0)) 26, some (77, true)⟩,
    ⟨some 80, .pick (.tmp 77) (.tmp 79) (.const (.bool false)), none⟩,
    ⟨some 81, .move (.tmp 80), none⟩,
    ⟨some 82, .load 25 (.tmp 6), some (81, true)⟩,
    ⟨some 83, .call ⟨.value (.func 19), #[.tmp 82], #[25]⟩, some (81, true)⟩,
    ⟨some 84, .pick (.tmp 81) (.tmp 83) (.const (.bool false)), none⟩,
    ⟨some 4, .assign (.tmp 84), none⟩])
  .ret)))))))))))
def fn7 : PFn := ⟨85, [.tmp 4], pc7⟩
theorem fnOk7 : FnOk Try.prog 7 fn7 := ⟨⟨_, _, Try.func7, rfl, by kernel_rfl, rfl, rfl, of_decide_eq_true (by kernel_rfl)⟩⟩

def pc8L0 : PC :=
  (.seq (.seq (.region [⟨some 26, .move (.tmp 8), none⟩,
    ⟨some 27, .move (.tmp 0), none⟩,
    ⟨some 28, .call ⟨.builtin .len, #[.tmp 27], #[51]⟩, none⟩,
    ⟨some 29, .binOp .lss 3 (.tmp 26) (.tmp 28) 3, none⟩])
  (.cond (.tmp 29)
    .skip
    (.exit 0)))
  (.seq (.block 1 (.seq (.seq (.region [⟨some 32, .move (.tmp 0), none⟩,
    ⟨some 33, .move (.tmp 8), none⟩,
    ⟨some 34, .indexAddr 51 (.tmp 32) (.tmp 33), none⟩,
    ⟨some 35, .load 9 (.tmp 34), none⟩,
    ⟨some 36, .call ⟨.builtin .len, #[.tmp 35], #[9]⟩, none⟩,
    ⟨some 37, .binOp .gtr 3 (.tmp 36) (.const (.int .i64 60)) 3, none⟩])
  (.cond (.tmp 37)
    (.seq (.region [⟨some 4, .assign (.const (.bool true)), none⟩])
    .ret)
    .skip))
  (.seq (.draw [⟨some 38, .fieldAddr 25 (.tmp 6) 2, none⟩,
    ⟨some 39, .load 23 (.tmp 38), none⟩,
    ⟨some 40, .move (.tmp 5), none⟩,
    ⟨some 41, .move (.tmp 0), none⟩,
    ⟨some 42, .move (.tmp 8), none⟩,
    ⟨some 43, .indexAddr 51 (.tmp 41) (.tmp 42), none⟩,
    ⟨some 44, .load 9 (.tmp 43), none⟩,
    ⟨some 45, .build 25 #[(0, .tmp 40), (1, .tmp 44)], none⟩,
    ⟨some 46, .buildSlice 23 1 #[(0, .tmp 45)], none⟩]
    [⟨some 47, .call ⟨.builtin .append, #[.tmp 39, .tmp 46], #[23, 23]⟩, none⟩,
    ⟨some 48, .fieldAddr 25 (.tmp 6) 2, none⟩,
    ⟨none, .store 23 (.tmp 48) (.tmp 47), none⟩])
  (.region [⟨some 49, .move (.tmp 7), none⟩,
    ⟨some 50, .binOp .add 3 (.tmp 49) (.const (.int .i64 2)) 3, none⟩,
    ⟨some 51, .move (.tmp 0), none⟩,
    ⟨some 52, .move (.tmp 8), none⟩,
    ⟨some 53, .indexAddr 51 (.tmp 51) (.tmp 52), none⟩,
    ⟨some 54, .load 9 (.tmp 53), none⟩,
    ⟨some 55, .call ⟨.builtin .len, #[.tmp 54], #[9]⟩, none⟩,
    ⟨some 56, .binOp .add 3 (.tmp 50) (.tmp 55) 3, none⟩,
    ⟨some 7, .assign (.tmp 56), none⟩]))))
  (.region [⟨some 30, .move (.tmp 8), none⟩,
    ⟨some 31, .binOp .add 3 (.tmp 30) (.const (.int .i64 1)) 3, none⟩,
    ⟨some 8, .assign (.tmp 31), none⟩])))
def pc8L2 : PC :=
  (.seq (.seq (.region [⟨some 101, .move (.tmp 16), none⟩,
    ⟨some 102, .move (.tmp 0), none⟩,
    ⟨some 103, .call ⟨.builtin .len, #[.tmp 102], #[51]⟩, none⟩,
    ⟨some 104, .binOp .lss 3 (.tmp 101) (.tmp 103) 3, none⟩])
  (.cond (.tmp 104)
    .skip
    (.exit 2)))
  (.seq (.block 3 (.seq (.draw [⟨some 107, .fieldAddr 25 (.tmp 11) 2, none⟩,
    ⟨some 108, .load 23 (.tmp 107), none⟩,
    ⟨some 109, .move (.tmp 16), none⟩,
    ⟨some 110, .indexAddr 23 (.tmp 108) (.tmp 109), none⟩,
    ⟨some 111, .fieldAddr 25 (.tmp 110) 1, none⟩,
    ⟨some 112, .load 9 (.tmp 111), none⟩,
    ⟨some 113, .move (.tmp 0), none⟩,
    ⟨some 114, .move (.tmp 16), none⟩,
    ⟨some 115, .indexAddr 51 (.tmp 113) (.tmp 114), none⟩,
    ⟨some 116, .load 9 (.tmp 115), none⟩,
    ⟨some 117, .binOp .neq 9 (.tmp 112) (.tmp 116) 9, none⟩,
    ⟨some 118, .move (.tmp 117), none⟩,
    ⟨some 119, .fieldAddr 25 (.tmp 11) 2, some (118, false)⟩,
    ⟨some 120, .load 23 (.tmp 119), some (118, false)⟩,
    ⟨some 121, .move (.tmp 16), some (118, false)⟩,
    ⟨some 122, .indexAddr 23 (.tmp 120) (.tmp 121), some (118, false)⟩,
    ⟨some 123, .fieldAddr 25 (.tmp 122) 0, some (118, false)⟩,
    ⟨some 124, .load 5 (.tmp 123), some (118, false)⟩,
    ⟨some 125, .move (.tmp 5), some (118, false)⟩]
    [⟨some 126, .binOp .neq 5 (.tmp 124) (.tmp 125) 5, some (118, false)⟩,
    ⟨some 127, .pick (.tmp 118) (.const (.bool true)) (.tmp 126), none⟩])
  (.cond (.tmp 127)
    (.seq (.region [⟨some 4, .assign (.const (.bool false)), none⟩])
    .ret)
    .skip)))
  (.region [⟨some 105, .move (.tmp 16), none⟩,
    ⟨some 106, .binOp .add 3 (.tmp 105) (.const (.int .i64 1)) 3, none⟩,
    ⟨some 16, .assign (.tmp 106), none⟩])))
/-- prefect/prefectlaw1.BerRows -/
def pc8 : PC :=
  (.seq (.region [⟨some 4, .assign (.const (.bool false)), none⟩])
  (.seq (.seq (.region [⟨some 17, .call ⟨.value (.func 10), #[], #[]⟩, none⟩,
    ⟨some 18, .unOp .not 4 (.tmp 17), none⟩])
  (.cond (.tmp 18)
    (.seq (.region [⟨some 4, .assign (.const (.bool false)), none⟩])
    .ret)
    .skip))
  (.seq (.seq (.region [⟨some 19, .move (.tmp 0), none⟩,
    ⟨some 20, .call ⟨.builtin .len, #[.tmp 19], #[51]⟩, none⟩,
    ⟨some 21, .binOp .gtr 3 (.tmp 20) (.const (.int .i64 12)) 3, none⟩])
  (.cond (.tmp 21)
    (.seq (.region [⟨some 4, .assign (.const (.bool true)), none⟩])
    .ret)
    .skip))
  (.seq (.region [⟨some 22, .move (.tmp 1), none⟩,
    ⟨some 23, .binOp .andNot 5 (.tmp 22) (.const (.int .u8 32)) 5, none⟩,
    ⟨some 24, .binOp .and 5 (.tmp 23) (.const (.int .u8 254)) 5, none⟩,
    ⟨some 5, .assign (.tmp 24), none⟩])
  (.seq (.region [⟨some 25, .build 25 #[(0, .const (.int .u8 49))], none⟩,
    ⟨some 6, .alloc 25, none⟩,
    ⟨none, .store 25 (.tmp 6) (.tmp 25), none⟩])
  (.seq (.region [⟨some 7, .assign (.const (.int .i64 0)), none⟩])
  (.seq (.seq (.region [⟨some 8, .assign (.const (.int .i64 0)), none⟩])
  (.block 0 (.loop pc8L0)))
  (.seq (.region [⟨some 58, .load 25 (.tmp 6), none⟩,
    ⟨some 59, .call ⟨.value (.func 17), #[.tmp 58], #[25]⟩, none⟩,
    ⟨some 57, .move (.tmp 59), none⟩,
    ⟨some 60, .extract (.tmp 57) 0, none⟩,
    ⟨some 61, .extract (.tmp 57) 1, none⟩,
    ⟨some 9, .assign (.tmp 60), none⟩,
    ⟨some 10, .assign (.tmp 61), none⟩])
  (.seq (.region [⟨some 63, .move (.tmp 9), none⟩,
    ⟨some 64, .call ⟨.value (.func 11), #[.tmp 63], #[9]⟩, none⟩,
    ⟨some 62, .move (.tmp 64), none⟩,
    ⟨some 65, .extract (.tmp 62) 0, none⟩,
    ⟨some 66, .extract (.tmp 62) 1, none⟩,
    ⟨some 67, .extract (.tmp 62) 2, none⟩,
    ⟨some 68, .extract (.tmp 62) 3, none⟩,
    ⟨some 11, .alloc 25, none⟩,
    ⟨none, .store 25 (.tmp 11) (.tmp 65), none⟩,
    ⟨some 12, .assign (.tmp 66), none⟩,
    ⟨some 13, .assign (.tmp 67), none⟩,
    ⟨some 14, .assign (.tmp 68), none⟩])
  (.seq (.region [⟨some 15, .assign (.const (.int .i64 2)), none⟩])
  (.seq (.seq (.region [⟨some 69, .move (.tmp 7), none⟩,
    ⟨some 70, .binOp .geq 3 (.tmp 69) (.const (.int .i64 128)) 3, none⟩])
  (.cond (.tmp 70)
    (.region [⟨some 15, .assign (.const (.int .i64 3)), none⟩])
    .skip))
  (.seq (.seq (.region [⟨some 71, .move (.tmp 7), none⟩,
    ⟨some 72, .binOp .geq 3 (.tmp 71) (.const (.int .i64 256)) 3, none⟩])
  (.cond (.tmp 72)
    (.region [⟨some 15, .assign (.const (.int .i64 4)), none⟩])
    .skip))
  (.seq (.seq (.region [⟨some 73, .move (.tmp 10), none⟩,
    ⟨some 74, .binOp .neq 26 (.tmp 73) (.const (.int .i64 0)) 26, none⟩,
    ⟨some 75, .move (.tmp 74), none⟩,
    ⟨some 76, .move (.tmp 14), some (75, false)⟩,
    ⟨some 77, .binOp .neq 26 (.tmp 76) (.const (.int .i64 0)) 26, some (75, false)⟩,
    ⟨some 78, .pick (.tmp 75) (.const (.bool true)) (.tmp 77), none⟩,
    ⟨some 79, .move (.tmp 78), none⟩,
    ⟨some 80, .move (.tmp 12), some (79, false)⟩,
    ⟨some 81, .move (.tmp 9), some (79, false)⟩,
    ⟨some 82, .call ⟨.builtin .len, #[.tmp 81], #[9]⟩, some (79, false)⟩,
    ⟨some 83, .binOp .neq 3 (.tmp 80) (.tmp 82) 3, some (79, false)⟩,
    ⟨some 84, .pick (.tmp 79) (.const (.bool true)) (.tmp 83), none⟩,
    ⟨some 85, .move (.tmp 84), none⟩,
    ⟨some 86, .move (.tmp 9), some (85, false)⟩,
    ⟨some 87, .call ⟨.builtin .len, #[.tmp 86], #[9]⟩, some (85, false)⟩,
    ⟨some 88, .move (.tmp 7), some (85, false)⟩,
    ⟨some 89, .move (.tmp 15), some (85, false)⟩,
    ⟨some 90, .binOp .add 3 (.tmp 88) (.tmp 89) 3, some (85, false)⟩,
    ⟨some 91, .binOp .neq 3 (.tmp 87) (.tmp 90) 3, some (85, false)⟩,
    ⟨some 92, .pick (.tmp 85) (.const (.bool true)) (.tmp 91), none⟩,
    ⟨some 93, .move (.tmp 92), none⟩,
    ⟨some 94, .fieldAddr 25 (.tmp 11) 2, some (93, false)⟩,
    ⟨some 95, .load 23 (.tmp 94), some (93, false)⟩,
    ⟨some 96, .call ⟨.builtin .len, #[.tmp 95], #[23]⟩, some (93, false)⟩,
    ⟨some 97, .move (.tmp 0), some (93, false)⟩,
    ⟨some 98, .call ⟨.builtin .len, #[.tmp 97], #[51]⟩, some (93, false)⟩,
    ⟨some 99, .binOp .neq 3 (.tmp 96) (.tmp 98) 3, some (93, false)⟩,
    ⟨some 100, .pick (.tmp 93) (.const (.bool true)) (.tmp 99), none⟩])
  (.cond (.tmp 100)
    (.seq (.region [⟨some 4, .assign (.const (.bool false)), none⟩])
    .ret)
    .skip))
  (.seq (.seq (.region [⟨some 16, .assign (.const (.int .i64 0)), none⟩])
  (.block 2 (.loop pc8L2)))
  (.seq (.region [⟨some 4, .assign (.const (.bool true)), none⟩])
  .ret)))))))))))))))
def fn8 : PFn := ⟨128, [.tmp 4], pc8⟩
theorem fnOk8 : FnOk Try.prog 8 fn8 := ⟨⟨_, _, Try.func8, rfl, by kernel_rfl, rfl, rfl, of_decide_eq_true (by kernel_rfl)⟩⟩

def pc9L0 : PC :=
  (.seq (.seq (.region [⟨some 22, .move (.tmp 9), none⟩,
    ⟨some 23, .move (.tmp 7), none⟩,
    ⟨some 24, .binOp .lss 3 (.tmp 22) (.tmp 23) 3, none⟩])
  (.cond (.tmp 24)
    .skip
    (.exit 0)))
  (.seq (.block 1 (.region [⟨some 27, .move (.tmp 8), none⟩,
    ⟨some 28, .binOp .add 9 (.tmp 27) (.const (.string ⟨#[4, 1, 120]⟩)) 9, none⟩,
    ⟨some 8, .assign (.tmp 28), none⟩]))
  (.region [⟨some 25, .move (.tmp 9), none⟩,
    ⟨some 26, .binOp .add 3 (.tmp 25) (.const (.int .i64 1)) 3, none⟩,
    ⟨some 9, .assign (.tmp 26), none⟩])))
/-- prefect/prefectlaw1.BerInner -/
def pc9 : PC :=
  (.seq (.region [⟨some 6, .assign (.const (.bool false)), none⟩])
  (.seq (.seq (.region [⟨some 17, .call ⟨.value (.func 10), #[], #[]⟩, none⟩,
    ⟨some 18, .unOp .not 4 (.tmp 17), none⟩])
  (.cond (.tmp 18)
    (.seq (.region [⟨some 6, .assign (.const (.bool false)), none⟩])
    .ret)
    .skip))
  (.seq (.region [⟨some 19, .move (.tmp 0), none⟩,
    ⟨some 20, .binOp .rem 5 (.tmp 19) (.const (.int .u8 10)) 5, none⟩,
    ⟨some 21, .convert 5 3 (.tmp 20), none⟩,
    ⟨some 7, .assign (.tmp 21), none⟩])
  (.seq (.region [⟨some 8, .assign (.const (.string ⟨#[]⟩)), none⟩])
  (.seq (.seq (.region [⟨some 9, .assign (.const (.int .i64 0)), none⟩])
  (.block 0 (.loop pc9L0)))
  (.seq (.region [⟨some 10, .assign (.const (.string ⟨#[4, 128]⟩)), none⟩])
  (.seq (.region [⟨some 11, .assign (.const (.int .i64 11)), none⟩])
  (.seq (.seq (.region [⟨some 29, .move (.tmp 2), none⟩,
    ⟨some 30, .binOp .rem 5 (.tmp 29) (.const (.int .u8 4)) 5, none⟩])
  (.block 2 (.seq (.region [⟨some 32, .binOp .eql 5 (.tmp 30) (.const (.int .u8 1)) 5, none⟩,
    ⟨some 31, .assign (.tmp 32), none⟩])
  (.cond (.tmp 31)
    (.seq (.region [⟨some 10, .assign (.const (.string ⟨#[31, 0]⟩)), none⟩])
    (.region [⟨some 11, .assign (.const (.int .i64 14)), none⟩]))
    (.seq (.region [⟨some 34, .binOp .eql 5 (.tmp 30) (.const (.int .u8 2)) 5, none⟩,
      ⟨some 33, .assign (.tmp 34), none⟩])
    (.cond (.tmp 33)
      (.region [⟨some 10, .assign (.const (.string ⟨#[4, 127]⟩)), none⟩])
      (.seq (.region [⟨some 36, .binOp .eql 5 (.tmp 30) (.const (.int .u8 3)) 5, none⟩,
        ⟨some 35, .assign (.tmp 36), none⟩])
      (.cond (.tmp 35)
        (.region [⟨some 10, .assign (.const (.string ⟨#[4]⟩)), none⟩])
        .skip))))))))
  (.seq (.region [⟨some 37, .move (.tmp 8), none⟩,
    ⟨some 38, .call ⟨.builtin .len, #[.tmp 37], #[9]⟩, none⟩,
    ⟨some 39, .move (.tmp 10), none⟩,
    ⟨some 40, .call ⟨.builtin .len, #[.tmp 39], #[9]⟩, none⟩,
    ⟨some 41, .binOp .add 3 (.tmp 38) (.tmp 40) 3, none⟩,
    ⟨some 42, .convert 3 5 (.tmp 41), none⟩,
    ⟨some 43, .buildSlice 45 2 #[(0, .const (.int .u8 48)), (1, .tmp 42)], none⟩,
    ⟨some 44, .convert 45 9 (.tmp 43), none⟩,
    ⟨some 45, .move (.tmp 8), none⟩,
    ⟨some 46, .binOp .add 9 (.tmp 44) (.tmp 45) 9, none⟩,
    ⟨some 47, .move (.tmp 10), none⟩,
    ⟨some 48, .binOp .add 9 (.tmp 46) (.tmp 47) 9, none⟩,
    ⟨some 12, .assign (.tmp 48), none⟩])
  (.seq (.region [⟨some 50, .move (.tmp 12), none⟩,
    ⟨some 51, .call ⟨.value (.func 11), #[.tmp 50], #[9]⟩, none⟩,
    ⟨some 49, .move (.tmp 51), none⟩,
    ⟨some 52, .extract (.tmp 49) 0, none⟩,
    ⟨some 53, .extract (.tmp 49) 1, none⟩,
    ⟨some 54, .extract (.tmp 49) 2, none⟩,
    ⟨some 55, .extract (.tmp 49) 3, none⟩,
    ⟨some 13, .alloc 25, none⟩,
    ⟨none, .store 25 (.tmp 13) (.tmp 52), none⟩,
    ⟨some 14, .assign (.tmp 53), none⟩,
    ⟨some 15, .assign (.tmp 54), none⟩,
    ⟨some 16, .assign (.tmp 55), none⟩])
  (.seq (.region [⟨some 56, .move (.tmp 16), none⟩,
    ⟨some 57, .move (.tmp 11), none⟩,
    ⟨some 58, .binOp .eql 26 (.tmp 56) (.tmp 57) 26, none⟩,
    ⟨some 59, .move (.tmp 58), none⟩,
    ⟨some 60, .move (.tmp 15), some (59, true)⟩,
    ⟨some 61, .move (.tmp 8), some (59, true)⟩,
    ⟨some 62, .call ⟨.builtin .len, #[.tmp 61], #[9]⟩, some (59, true)⟩,
    ⟨some 63, .binOp .add 3 (.const (.int .i64 2)) (.tmp 62) 3, some (59, true)⟩,
    ⟨some 64, .binOp .eql 3 (.tmp 60) (.tmp 63) 3, some (59, true)⟩,
    ⟨some 65, .pick (.tmp 59) (.tmp 64) (.const (.bool false)), none⟩,
    ⟨some 66, .move (.tmp 65), none⟩,
    ⟨some 67, .move (.tmp 14), some (66, true)⟩,
    ⟨some 68, .binOp .eql 3 (.tmp 67) (.const (.int .i64 0)) 3, some (66, true)⟩,
    ⟨some 69, .pick (.tmp 66) (.tmp 68) (.const (.bool false)), none⟩,
    ⟨some 70, .move (.tmp 69), none⟩,
    ⟨some 71, .fieldAddr 25 (.tmp 13) 2, some (70, true)⟩,
    ⟨some 72, .load 23 (.tmp 71), some (70, true)⟩,
    ⟨some 73, .call ⟨.builtin .len, #[.tmp 72], #[23]⟩, some (70, true)⟩,
    ⟨some 74, .binOp .eql 3 (.tmp 73) (.const (.int .i64 0)) 3, some (70, true)⟩,
    ⟨some 75, .pick (.tmp 70) (.tmp 74) (.const (.bool false)), none⟩,
    ⟨some 76, .move (.tmp 75), none⟩,
    ⟨some 77, .fieldAddr 25 (.tmp 13) 0, some (76, true)⟩,
    ⟨some 78, .load 5 (.tmp 77), some (76, true)⟩,
    ⟨some 79, .binOp .eql 5 (.tmp 78) (.const (.int .u8 0)) 5, some (76, true)⟩,
    ⟨some 80, .pick (.tmp 76) (.tmp 79) (.const (.bool false)), none⟩,
    ⟨some 6, .assign (.tmp 80), none⟩])
  .ret)))))))))))
def fn9 : PFn := ⟨81, [.tmp 6], pc9⟩
theorem fnOk9 : FnOk Try.prog 9 fn9 := ⟨⟨_, _, Try.func9, rfl, by kernel_rfl, rfl, rfl, of_decide_eq_true (by kernel_rfl)⟩⟩

/-- prefect/ber.formed$1 -/
def pc32 : PC :=
  (.seq (.region [⟨some 1, .box 25 (.tmp 0), none⟩,
    ⟨some 2, .assign (.const (.bool false)), none⟩])
  (.seq (.region [⟨some 3, .load 25 (.tmp 1), none⟩,
    ⟨some 4, .call ⟨.value (.func 24), #[.tmp 3], #[25]⟩, none⟩,
    ⟨some 5, .unOp .not 4 (.tmp 4), none⟩,
    ⟨some 2, .assign (.tmp 5), none⟩])
  .ret))
def fn32 : PFn := ⟨6, [.tmp 2], pc32⟩
theorem fnOk32 : FnOk Try.prog 32 fn32 := ⟨⟨_, _, Try.func32, rfl, by kernel_rfl, rfl, rfl, of_decide_eq_true (by kernel_rfl)⟩⟩

def fnOf : FuncId → Option PFn
  | 13 => some fn13
  | 22 => some fn22
  | 11 => some fn11
  | 34 => some fn34
  | 31 => some fn31
  | 24 => some fn24
  | 25 => some fn25
  | 33 => some fn33
  | 26 => some fn26
  | 17 => some fn17
  | 19 => some fn19
  | 29 => some fn29
  | 20 => some fn20
  | 10 => some fn10
  | 14 => some fn14
  | 23 => some fn23
  | 12 => some fn12
  | 15 => some fn15
  | 3 => some fn3
  | 16 => some fn16
  | 30 => some fn30
  | 21 => some fn21
  | 27 => some fn27
  | 28 => some fn28
  | 18 => some fn18
  | 4 => some fn4
  | 5 => some fn5
  | 6 => some fn6
  | 7 => some fn7
  | 8 => some fn8
  | 9 => some fn9
  | 32 => some fn32
  | _ => none
theorem fnOf_ok : ∀ f pf, fnOf f = some pf → FnOk Try.prog f pf := by
  intro f pf h
  unfold fnOf at h
  split at h <;> first | (injection h with h; subst h; first | exact fnOk13 | exact fnOk22 | exact fnOk11 | exact fnOk34 | exact fnOk31 | exact fnOk24 | exact fnOk25 | exact fnOk33 | exact fnOk26 | exact fnOk17 | exact fnOk19 | exact fnOk29 | exact fnOk20 | exact fnOk10 | exact fnOk14 | exact fnOk23 | exact fnOk12 | exact fnOk15 | exact fnOk3 | exact fnOk16 | exact fnOk30 | exact fnOk21 | exact fnOk27 | exact fnOk28 | exact fnOk18 | exact fnOk4 | exact fnOk5 | exact fnOk6 | exact fnOk7 | exact fnOk8 | exact fnOk9 | exact fnOk32) | cases h
end Go.Proofs.Ytkaifmdhkoiaeaa.M

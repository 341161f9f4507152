/- Printed by gen.py: the code of some functions, without what no step looks at; held against the program's own by the kernel. -/
import Derived.Test.YtnjacpfahhjpiaaDoorAmO
import Derived.Test.YtnjacpfahhjpiaaDoorProg
import Derived.KernelRfl
import Derived.Shelf.Abstract
set_option linter.all false
namespace Go.Proofs.Tryd.Am
open Go.Am
set_option maxRecDepth 100000
/-! 7: planchet planchetlaw07.OrderMakes -/
@[reducible] def q7_0 : SCode := .region [⟨some 10, .assign (.const (.bool false)), none⟩]
@[reducible] def q7_1 : SCode := .region [⟨some 18, .move (.tmp 0), none⟩,
    ⟨some 19, .move (.tmp 1), none⟩,
    ⟨some 20, .call { callee := .value (.func 37), args := #[.tmp 19], argTypes := #[52] }, none⟩,
    ⟨some 21, .call { callee := .value (.func 36), args := #[.tmp 18, .tmp 20], argTypes := #[3, 52] }, none⟩,
    ⟨some 17, .move (.tmp 21), none⟩,
    ⟨some 22, .extract (.tmp 17) 0, none⟩,
    ⟨some 23, .extract (.tmp 17) 1, none⟩,
    ⟨some 11, .assign (.tmp 22), none⟩,
    ⟨some 12, .assign (.tmp 23), none⟩]
@[reducible] def q7_2 : SCode := .region [⟨some 25, .move (.tmp 2), none⟩,
    ⟨some 26, .call { callee := .value (.func 18), args := #[.tmp 25], argTypes := #[22] }, none⟩,
    ⟨some 27, .move (.tmp 3), none⟩,
    ⟨some 28, .move (.tmp 4), none⟩,
    ⟨some 29, .call { callee := .value (.func 21), args := #[.tmp 26, .tmp 27, .tmp 28], argTypes := #[22, 3, 3] }, none⟩,
    ⟨some 24, .move (.tmp 29), none⟩,
    ⟨some 30, .extract (.tmp 24) 0, none⟩,
    ⟨some 31, .extract (.tmp 24) 1, none⟩,
    ⟨some 13, .assign (.tmp 30), none⟩,
    ⟨some 14, .assign (.tmp 31), none⟩]
@[reducible] def q7_3 : SCode := .region [⟨some 32, .move (.tmp 0), none⟩,
    ⟨some 33, .move (.tmp 1), none⟩,
    ⟨some 34, .call { callee := .value (.func 38), args := #[.tmp 32, .tmp 33], argTypes := #[3, 52] }, none⟩]
@[reducible] def q7_4 : SCode := .region [⟨some 36, .move (.tmp 0), none⟩,
    ⟨some 37, .move (.tmp 1), none⟩,
    ⟨some 38, .call { callee := .value (.func 39), args := #[.tmp 36, .tmp 37], argTypes := #[3, 52] }, none⟩,
    ⟨some 35, .move (.tmp 38), none⟩,
    ⟨some 39, .extract (.tmp 35) 0, none⟩,
    ⟨some 40, .extract (.tmp 35) 1, none⟩,
    ⟨some 15, .assign (.tmp 39), none⟩,
    ⟨some 16, .assign (.tmp 40), none⟩]
@[reducible] def q7_5 : SCode := .region [⟨some 41, .move (.tmp 11), none⟩,
    ⟨some 42, .move (.tmp 15), none⟩,
    ⟨some 43, .call { callee := .value (.func 34), args := #[.tmp 41, .tmp 42], argTypes := #[22, 22] }, none⟩,
    ⟨some 44, .unOp .not 4 (.tmp 43), none⟩,
    ⟨some 45, .move (.tmp 44), none⟩,
    ⟨some 46, .move (.tmp 12), some (45, false)⟩,
    ⟨some 47, .move (.tmp 16), some (45, false)⟩,
    ⟨some 48, .binOp .neq 23 (.tmp 46) (.tmp 47) 23, some (45, false)⟩,
    ⟨some 49, .pick (.tmp 45) (.const (.bool true)) (.tmp 48), none⟩]
@[reducible] def q7_6 : SCode := .region [⟨some 10, .assign (.const (.bool false)), none⟩]
@[reducible] def q7_7 : SCode := .region [⟨some 50, .move (.tmp 11), none⟩,
    ⟨some 51, .call { callee := .builtin .len, args := #[.tmp 50], argTypes := #[22] }, none⟩,
    ⟨some 52, .binOp .neq 3 (.tmp 51) (.const (.int .i64 0)) 3, none⟩,
    ⟨some 53, .move (.tmp 52), none⟩,
    ⟨some 54, .move (.tmp 12), some (53, false)⟩,
    ⟨some 55, .binOp .neq 23 (.tmp 54) (.const (.int .i64 2)) 23, some (53, false)⟩,
    ⟨some 56, .pick (.tmp 53) (.const (.bool true)) (.tmp 55), none⟩]
@[reducible] def q7_8 : SCode := .region [⟨some 10, .assign (.const (.bool false)), none⟩]
@[reducible] def q7_9 : SCode := .region [⟨some 57, .move (.tmp 2), none⟩,
    ⟨some 58, .call { callee := .value (.func 19), args := #[.tmp 57], argTypes := #[22] }, none⟩,
    ⟨some 59, .unOp .not 4 (.tmp 58), none⟩,
    ⟨some 60, .move (.tmp 59), none⟩,
    ⟨some 61, .move (.tmp 2), some (60, false)⟩,
    ⟨some 62, .move (.tmp 3), some (60, false)⟩,
    ⟨some 63, .call { callee := .value (.func 27), args := #[.tmp 61, .tmp 62], argTypes := #[22, 3] }, some (60, false)⟩,
    ⟨some 64, .unOp .not 4 (.tmp 63), some (60, false)⟩,
    ⟨some 65, .pick (.tmp 60) (.const (.bool true)) (.tmp 64), none⟩,
    ⟨some 66, .move (.tmp 65), none⟩,
    ⟨some 67, .move (.tmp 2), some (66, false)⟩,
    ⟨some 68, .move (.tmp 4), some (66, false)⟩,
    ⟨some 69, .call { callee := .value (.func 27), args := #[.tmp 67, .tmp 68], argTypes := #[22, 3] }, some (66, false)⟩,
    ⟨some 70, .unOp .not 4 (.tmp 69), some (66, false)⟩,
    ⟨some 71, .pick (.tmp 66) (.const (.bool true)) (.tmp 70), none⟩]
@[reducible] def q7_10 : SCode := .region [⟨some 72, .move (.tmp 13), none⟩,
    ⟨some 73, .call { callee := .builtin .len, args := #[.tmp 72], argTypes := #[22] }, none⟩,
    ⟨some 74, .binOp .eql 3 (.tmp 73) (.const (.int .i64 0)) 3, none⟩,
    ⟨some 75, .move (.tmp 74), none⟩,
    ⟨some 76, .move (.tmp 14), some (75, true)⟩,
    ⟨some 77, .binOp .eql 23 (.tmp 76) (.const (.int .i64 2)) 23, some (75, true)⟩,
    ⟨some 78, .pick (.tmp 75) (.tmp 77) (.const (.bool false)), none⟩,
    ⟨some 79, .move (.tmp 78), none⟩,
    ⟨some 80, .call { callee := .value (.func 20), args := #[], argTypes := #[] }, some (79, true)⟩,
    ⟨some 81, .pick (.tmp 79) (.tmp 80) (.const (.bool false)), none⟩,
    ⟨some 10, .assign (.tmp 81), none⟩]
@[reducible] def q7_11 : SCode := .region [⟨some 82, .move (.tmp 2), none⟩,
    ⟨some 83, .move (.tmp 3), none⟩,
    ⟨some 84, .move (.tmp 4), none⟩,
    ⟨some 85, .call { callee := .value (.func 22), args := #[.tmp 82, .tmp 83, .tmp 84], argTypes := #[22, 3, 3] }, none⟩,
    ⟨some 86, .unOp .not 4 (.tmp 85), none⟩]
@[reducible] def q7_12 : SCode := .region [⟨some 87, .move (.tmp 13), none⟩,
    ⟨some 88, .call { callee := .builtin .len, args := #[.tmp 87], argTypes := #[22] }, none⟩,
    ⟨some 89, .binOp .eql 3 (.tmp 88) (.const (.int .i64 0)) 3, none⟩,
    ⟨some 90, .move (.tmp 89), none⟩,
    ⟨some 91, .move (.tmp 14), some (90, true)⟩,
    ⟨some 92, .binOp .eql 23 (.tmp 91) (.const (.int .i64 5)) 23, some (90, true)⟩,
    ⟨some 93, .pick (.tmp 90) (.tmp 92) (.const (.bool false)), none⟩,
    ⟨some 94, .move (.tmp 93), none⟩,
    ⟨some 95, .call { callee := .value (.func 20), args := #[], argTypes := #[] }, some (94, true)⟩,
    ⟨some 96, .pick (.tmp 94) (.tmp 95) (.const (.bool false)), none⟩,
    ⟨some 10, .assign (.tmp 96), none⟩]
@[reducible] def q7_13 : SCode := .region [⟨some 97, .move (.tmp 13), none⟩,
    ⟨some 98, .move (.tmp 2), none⟩,
    ⟨some 99, .move (.tmp 3), none⟩,
    ⟨some 100, .move (.tmp 4), none⟩,
    ⟨some 101, .call { callee := .value (.func 40), args := #[.tmp 98, .tmp 99, .tmp 100], argTypes := #[22, 3, 3] }, none⟩,
    ⟨some 102, .call { callee := .value (.func 34), args := #[.tmp 97, .tmp 101], argTypes := #[22, 22] }, none⟩,
    ⟨some 103, .move (.tmp 102), none⟩,
    ⟨some 104, .move (.tmp 14), some (103, true)⟩,
    ⟨some 105, .binOp .eql 23 (.tmp 104) (.const (.int .i64 0)) 23, some (103, true)⟩,
    ⟨some 106, .pick (.tmp 103) (.tmp 105) (.const (.bool false)), none⟩,
    ⟨some 107, .move (.tmp 106), none⟩,
    ⟨some 108, .call { callee := .value (.func 20), args := #[], argTypes := #[] }, some (107, true)⟩,
    ⟨some 109, .pick (.tmp 107) (.tmp 108) (.const (.bool false)), none⟩,
    ⟨some 10, .assign (.tmp 109), none⟩]
def s7 : SCode := (.seq q7_0 (.seq q7_1 (.seq q7_2 (.seq (.seq q7_3 (.cond (.tmp 34) (.seq q7_4 (.seq q7_5 (.cond (.tmp 49) (.seq q7_6 .ret) .skip))) (.seq q7_7 (.cond (.tmp 56) (.seq q7_8 .ret) .skip)))) (.seq (.seq q7_9 (.cond (.tmp 71) (.seq q7_10 .ret) .skip)) (.seq (.seq q7_11 (.cond (.tmp 86) (.seq q7_12 .ret) .skip)) (.seq q7_13 .ret)))))))
theorem s7_strip : stripC (bodyOf Tryd.f7) = s7 := by kernel_rfl
theorem s7_ok : codeOK 110 (bodyOf Tryd.f7) = true := by kernel_rfl
theorem s7_call [Tabs Tryd.prog] {args : List Value} {h : Heap} {Q : Value → Heap → Prop} (hsz : args.length ≤ 110) (hk : aw Tryd.prog 110 s7 (aPost Tryd.prog [.tmp 10] Q) (argEnv 0 args) h) : ACall Tryd.prog 7 args h Q :=
  acall_s Tryd.func7 rfl (enters_of Tryd.func7 (by kernel_rfl) rfl) rfl rfl (by decide) s7_strip s7_ok hsz hk

/-! 8: planchet planchetlaw07.OrderClosed -/
@[reducible] def q8_0 : SCode := .region [⟨some 8, .assign (.const (.bool false)), none⟩]
@[reducible] def q8_1 : SCode := .region [⟨some 21, .move (.tmp 0), none⟩,
    ⟨some 22, .move (.tmp 1), none⟩,
    ⟨some 23, .call { callee := .value (.func 37), args := #[.tmp 22], argTypes := #[52] }, none⟩,
    ⟨some 24, .call { callee := .value (.func 36), args := #[.tmp 21, .tmp 23], argTypes := #[3, 52] }, none⟩,
    ⟨some 20, .move (.tmp 24), none⟩,
    ⟨some 25, .extract (.tmp 20) 0, none⟩,
    ⟨some 26, .extract (.tmp 20) 1, none⟩,
    ⟨some 9, .assign (.tmp 25), none⟩,
    ⟨some 10, .assign (.tmp 26), none⟩]
@[reducible] def q8_2 : SCode := .region [⟨some 27, .move (.tmp 10), none⟩,
    ⟨some 28, .binOp .neq 23 (.tmp 27) (.const (.int .i64 0)) 23, none⟩,
    ⟨some 29, .move (.tmp 28), none⟩,
    ⟨some 30, .move (.tmp 0), some (29, false)⟩,
    ⟨some 31, .move (.tmp 1), some (29, false)⟩,
    ⟨some 32, .call { callee := .value (.func 38), args := #[.tmp 30, .tmp 31], argTypes := #[3, 52] }, some (29, false)⟩,
    ⟨some 33, .unOp .not 4 (.tmp 32), some (29, false)⟩,
    ⟨some 34, .pick (.tmp 29) (.const (.bool true)) (.tmp 33), none⟩]
@[reducible] def q8_3 : SCode := .region [⟨some 35, .move (.tmp 10), none⟩,
    ⟨some 36, .binOp .eql 23 (.tmp 35) (.const (.int .i64 2)) 23, none⟩,
    ⟨some 37, .move (.tmp 36), none⟩,
    ⟨some 38, .move (.tmp 10), some (37, false)⟩,
    ⟨some 39, .binOp .eql 23 (.tmp 38) (.const (.int .i64 4)) 23, some (37, false)⟩,
    ⟨some 40, .pick (.tmp 37) (.const (.bool true)) (.tmp 39), none⟩,
    ⟨some 41, .move (.tmp 40), none⟩,
    ⟨some 42, .call { callee := .value (.func 20), args := #[], argTypes := #[] }, some (41, true)⟩,
    ⟨some 43, .pick (.tmp 41) (.tmp 42) (.const (.bool false)), none⟩,
    ⟨some 8, .assign (.tmp 43), none⟩]
@[reducible] def q8_4 : SCode := .region [⟨some 44, .move (.tmp 9), none⟩,
    ⟨some 45, .call { callee := .value (.func 19), args := #[.tmp 44], argTypes := #[22] }, none⟩,
    ⟨some 46, .unOp .not 4 (.tmp 45), none⟩,
    ⟨some 47, .move (.tmp 46), none⟩,
    ⟨some 48, .move (.tmp 9), some (47, false)⟩,
    ⟨some 49, .call { callee := .builtin .len, args := #[.tmp 48], argTypes := #[22] }, some (47, false)⟩,
    ⟨some 50, .move (.tmp 0), some (47, false)⟩,
    ⟨some 51, .binOp .neq 3 (.tmp 49) (.tmp 50) 3, some (47, false)⟩,
    ⟨some 52, .pick (.tmp 47) (.const (.bool true)) (.tmp 51), none⟩]
@[reducible] def q8_5 : SCode := .region [⟨some 8, .assign (.const (.bool false)), none⟩]
@[reducible] def q8_6 : SCode := .region [⟨some 53, .move (.tmp 1), none⟩,
    ⟨some 54, .call { callee := .builtin .len, args := #[.tmp 53], argTypes := #[52] }, none⟩,
    ⟨some 55, .move (.const (.int .i64 0)), none⟩]
@[reducible] def q8_7 : SCode := .region [⟨some 56, .binOp .lss 3 (.tmp 55) (.tmp 54) 3, none⟩]
@[reducible] def q8_8 : SCode := .region [⟨some 57, .indexAddr 52 (.tmp 53) (.tmp 55), none⟩,
    ⟨some 58, .load 33 (.tmp 57), none⟩,
    ⟨some 12, .alloc 33, none⟩,
    ⟨none, .store 33 (.tmp 12) (.tmp 58), none⟩]
def q8_9 : SCode := .draw [⟨some 59, .move (.tmp 9), none⟩,
    ⟨some 60, .indexAddr 33 (.tmp 12) (.const (.int .i64 0)), none⟩,
    ⟨some 61, .load 3 (.tmp 60), none⟩,
    ⟨some 62, .indexAddr 22 (.tmp 59) (.tmp 61), none⟩,
    ⟨some 63, .load 3 (.tmp 62), none⟩,
    ⟨some 64, .indexAddr 33 (.tmp 12) (.const (.int .i64 1)), none⟩,
    ⟨some 65, .load 3 (.tmp 64), none⟩,
    ⟨some 66, .binOp .shr 3 (.tmp 63) (.tmp 65) 3, none⟩,
    ⟨some 67, .binOp .and 3 (.tmp 66) (.const (.int .i64 1)) 3, none⟩,
    ⟨some 68, .binOp .eql 3 (.tmp 67) (.const (.int .i64 0)) 3, none⟩]
   [[], [], [1], [0, 2], [3], [], [5], [4, 6], [7], [8]]
@[reducible] def q8_10 : SCode := .region [⟨some 8, .assign (.const (.bool false)), none⟩]
@[reducible] def q8_11 : SCode := .region [⟨some 69, .binOp .add 3 (.tmp 55) (.const (.int .i64 1)) 3, none⟩,
    ⟨some 55, .move (.tmp 69), none⟩]
def l8_0 : SCode := (.seq q8_7 (.seq (.cond (.tmp 56) .skip (.exit 0)) (.seq (.block 1 (.seq q8_8 (.seq q8_9 (.cond (.tmp 68) (.seq q8_10 .ret) .skip)))) q8_11)))
@[reducible] def q8_12 : SCode := .region [⟨some 13, .assign (.const (.slice none 0 0)), none⟩]
@[reducible] def q8_13 : SCode := .region [⟨some 70, .move (.tmp 9), none⟩,
    ⟨some 71, .call { callee := .builtin .len, args := #[.tmp 70], argTypes := #[22] }, none⟩,
    ⟨some 72, .move (.const (.int .i64 0)), none⟩]
@[reducible] def q8_14 : SCode := .region [⟨some 73, .binOp .lss 3 (.tmp 72) (.tmp 71) 3, none⟩]
@[reducible] def q8_15 : SCode := .region [⟨some 74, .move (.tmp 72), none⟩,
    ⟨some 14, .assign (.tmp 74), none⟩]
@[reducible] def q8_16 : SCode := .region [⟨some 75, .move (.tmp 9), none⟩,
    ⟨some 76, .call { callee := .builtin .len, args := #[.tmp 75], argTypes := #[22] }, none⟩,
    ⟨some 77, .move (.const (.int .i64 0)), none⟩]
@[reducible] def q8_17 : SCode := .region [⟨some 78, .binOp .lss 3 (.tmp 77) (.tmp 76) 3, none⟩]
@[reducible] def q8_18 : SCode := .region [⟨some 79, .move (.tmp 77), none⟩,
    ⟨some 15, .assign (.tmp 79), none⟩]
@[reducible] def q8_19 : SCode := .region [⟨some 80, .move (.tmp 9), none⟩,
    ⟨some 81, .move (.tmp 14), none⟩,
    ⟨some 82, .indexAddr 22 (.tmp 80) (.tmp 81), none⟩,
    ⟨some 83, .load 3 (.tmp 82), none⟩,
    ⟨some 84, .move (.tmp 15), none⟩,
    ⟨some 85, .binOp .shr 3 (.tmp 83) (.tmp 84) 3, none⟩,
    ⟨some 86, .binOp .and 3 (.tmp 85) (.const (.int .i64 1)) 3, none⟩,
    ⟨some 87, .binOp .eql 3 (.tmp 86) (.const (.int .i64 1)) 3, none⟩]
@[reducible] def q8_20 : SCode := .region [⟨some 88, .move (.tmp 13), none⟩,
    ⟨some 89, .move (.tmp 14), none⟩,
    ⟨some 90, .move (.tmp 15), none⟩,
    ⟨some 91, .build 33 #[(0, .tmp 89), (1, .tmp 90)], none⟩,
    ⟨some 92, .buildSlice 52 1 #[(0, .tmp 91)], none⟩,
    ⟨some 93, .call { callee := .builtin .append, args := #[.tmp 88, .tmp 92], argTypes := #[52, 52] }, none⟩,
    ⟨some 13, .assign (.tmp 93), none⟩]
@[reducible] def q8_21 : SCode := .region [⟨some 94, .binOp .add 3 (.tmp 77) (.const (.int .i64 1)) 3, none⟩,
    ⟨some 77, .move (.tmp 94), none⟩]
def l8_1 : SCode := (.seq q8_17 (.seq (.cond (.tmp 78) .skip (.exit 4)) (.seq (.block 5 (.seq q8_18 (.seq q8_19 (.cond (.tmp 87) q8_20 .skip)))) q8_21)))
@[reducible] def q8_22 : SCode := .region [⟨some 95, .binOp .add 3 (.tmp 72) (.const (.int .i64 1)) 3, none⟩,
    ⟨some 72, .move (.tmp 95), none⟩]
def l8_2 : SCode := (.seq q8_14 (.seq (.cond (.tmp 73) .skip (.exit 2)) (.seq (.block 3 (.seq q8_15 (.seq q8_16 (.block 4 (.loop l8_1))))) q8_22)))
@[reducible] def q8_23 : SCode := .region [⟨some 97, .move (.tmp 0), none⟩,
    ⟨some 98, .move (.tmp 13), none⟩,
    ⟨some 99, .call { callee := .value (.func 41), args := #[.tmp 98], argTypes := #[52] }, none⟩,
    ⟨some 100, .call { callee := .value (.func 36), args := #[.tmp 97, .tmp 99], argTypes := #[3, 52] }, none⟩,
    ⟨some 96, .move (.tmp 100), none⟩,
    ⟨some 101, .extract (.tmp 96) 0, none⟩,
    ⟨some 102, .extract (.tmp 96) 1, none⟩,
    ⟨some 16, .assign (.tmp 101), none⟩,
    ⟨some 10, .assign (.tmp 102), none⟩]
@[reducible] def q8_24 : SCode := .region [⟨some 103, .move (.tmp 10), none⟩,
    ⟨some 104, .binOp .neq 23 (.tmp 103) (.const (.int .i64 0)) 23, none⟩,
    ⟨some 105, .move (.tmp 104), none⟩,
    ⟨some 106, .move (.tmp 16), some (105, false)⟩,
    ⟨some 107, .move (.tmp 9), some (105, false)⟩,
    ⟨some 108, .call { callee := .value (.func 34), args := #[.tmp 106, .tmp 107], argTypes := #[22, 22] }, some (105, false)⟩,
    ⟨some 109, .unOp .not 4 (.tmp 108), some (105, false)⟩,
    ⟨some 110, .pick (.tmp 105) (.const (.bool true)) (.tmp 109), none⟩]
@[reducible] def q8_25 : SCode := .region [⟨some 8, .assign (.const (.bool false)), none⟩]
def q8_26 : SCode := .draw [⟨some 111, .move (.tmp 2), none⟩,
    ⟨some 112, .convert 3 29 (.tmp 111), none⟩,
    ⟨some 113, .move (.tmp 0), none⟩,
    ⟨some 114, .convert 3 29 (.tmp 113), none⟩,
    ⟨some 115, .binOp .rem 29 (.tmp 112) (.tmp 114) 29, none⟩,
    ⟨some 116, .convert 29 3 (.tmp 115), none⟩,
    ⟨some 117, .move (.tmp 3), none⟩,
    ⟨some 118, .convert 3 29 (.tmp 117), none⟩,
    ⟨some 119, .move (.tmp 0), none⟩,
    ⟨some 120, .convert 3 29 (.tmp 119), none⟩,
    ⟨some 121, .binOp .rem 29 (.tmp 118) (.tmp 120) 29, none⟩,
    ⟨some 122, .convert 29 3 (.tmp 121), none⟩,
    ⟨some 2, .assign (.tmp 116), none⟩,
    ⟨some 3, .assign (.tmp 122), none⟩]
   [[], [0], [], [2], [1, 3], [4], [], [6], [], [8], [7, 9], [10], [5, 0, 1, 2, 3, 4, 5], [11, 12, 0, 1, 2, 3, 4, 5, 6, 7, 8, 9, 10, 11, 12]]
@[reducible] def q8_27 : SCode := .region [⟨some 124, .move (.tmp 9), none⟩,
    ⟨some 125, .call { callee := .value (.func 18), args := #[.tmp 124], argTypes := #[22] }, none⟩,
    ⟨some 126, .move (.tmp 2), none⟩,
    ⟨some 127, .move (.tmp 3), none⟩,
    ⟨some 128, .call { callee := .value (.func 21), args := #[.tmp 125, .tmp 126, .tmp 127], argTypes := #[22, 3, 3] }, none⟩,
    ⟨some 123, .move (.tmp 128), none⟩,
    ⟨some 129, .extract (.tmp 123) 0, none⟩,
    ⟨some 130, .extract (.tmp 123) 1, none⟩,
    ⟨some 17, .assign (.tmp 129), none⟩,
    ⟨some 10, .assign (.tmp 130), none⟩]
@[reducible] def q8_28 : SCode := .region [⟨some 132, .move (.tmp 0), none⟩,
    ⟨some 133, .move (.tmp 13), none⟩,
    ⟨some 134, .move (.tmp 2), none⟩,
    ⟨some 135, .move (.tmp 3), none⟩,
    ⟨some 136, .build 33 #[(0, .tmp 134), (1, .tmp 135)], none⟩,
    ⟨some 137, .buildSlice 52 1 #[(0, .tmp 136)], none⟩,
    ⟨some 138, .call { callee := .builtin .append, args := #[.tmp 133, .tmp 137], argTypes := #[52, 52] }, none⟩,
    ⟨some 139, .call { callee := .value (.func 36), args := #[.tmp 132, .tmp 138], argTypes := #[3, 52] }, none⟩,
    ⟨some 131, .move (.tmp 139), none⟩,
    ⟨some 140, .extract (.tmp 131) 0, none⟩,
    ⟨some 141, .extract (.tmp 131) 1, none⟩,
    ⟨some 18, .assign (.tmp 140), none⟩,
    ⟨some 19, .assign (.tmp 141), none⟩]
@[reducible] def q8_29 : SCode := .region [⟨some 142, .move (.tmp 10), none⟩,
    ⟨some 143, .binOp .neq 23 (.tmp 142) (.const (.int .i64 0)) 23, none⟩]
@[reducible] def q8_30 : SCode := .region [⟨some 144, .move (.tmp 10), none⟩,
    ⟨some 145, .binOp .eql 23 (.tmp 144) (.const (.int .i64 5)) 23, none⟩,
    ⟨some 146, .move (.tmp 145), none⟩,
    ⟨some 147, .call { callee := .value (.func 20), args := #[], argTypes := #[] }, some (146, true)⟩,
    ⟨some 148, .pick (.tmp 146) (.tmp 147) (.const (.bool false)), none⟩,
    ⟨some 8, .assign (.tmp 148), none⟩]
@[reducible] def q8_31 : SCode := .region [⟨some 149, .move (.tmp 19), none⟩,
    ⟨some 150, .binOp .eql 23 (.tmp 149) (.const (.int .i64 0)) 23, none⟩,
    ⟨some 151, .move (.tmp 150), none⟩,
    ⟨some 152, .move (.tmp 17), some (151, true)⟩,
    ⟨some 153, .move (.tmp 18), some (151, true)⟩,
    ⟨some 154, .call { callee := .value (.func 34), args := #[.tmp 152, .tmp 153], argTypes := #[22, 22] }, some (151, true)⟩,
    ⟨some 155, .pick (.tmp 151) (.tmp 154) (.const (.bool false)), none⟩,
    ⟨some 156, .move (.tmp 155), none⟩,
    ⟨some 157, .call { callee := .value (.func 20), args := #[], argTypes := #[] }, some (156, true)⟩,
    ⟨some 158, .pick (.tmp 156) (.tmp 157) (.const (.bool false)), none⟩,
    ⟨some 8, .assign (.tmp 158), none⟩]
def s8 : SCode := (.seq q8_0 (.seq q8_1 (.seq (.seq q8_2 (.cond (.tmp 34) (.seq q8_3 .ret) .skip)) (.seq (.seq q8_4 (.cond (.tmp 52) (.seq q8_5 .ret) .skip)) (.seq (.seq q8_6 (.block 0 (.loop l8_0))) (.seq q8_12 (.seq (.seq q8_13 (.block 2 (.loop l8_2))) (.seq q8_23 (.seq (.seq q8_24 (.cond (.tmp 110) (.seq q8_25 .ret) .skip)) (.seq q8_26 (.seq q8_27 (.seq q8_28 (.seq (.seq q8_29 (.cond (.tmp 143) (.seq q8_30 .ret) .skip)) (.seq q8_31 .ret))))))))))))))
theorem s8_strip : stripC (bodyOf Tryd.f8) = s8 := by kernel_rfl
theorem s8_ok : codeOK 159 (bodyOf Tryd.f8) = true := by kernel_rfl
theorem s8_call [Tabs Tryd.prog] {args : List Value} {h : Heap} {Q : Value → Heap → Prop} (hsz : args.length ≤ 159) (hk : aw Tryd.prog 159 s8 (aPost Tryd.prog [.tmp 8] Q) (argEnv 0 args) h) : ACall Tryd.prog 8 args h Q :=
  acall_s Tryd.func8 rfl (enters_of Tryd.func8 (by kernel_rfl) rfl) rfl rfl (by decide) s8_strip s8_ok hsz hk

/-! 36: planchet order.Close -/
@[reducible] def q36_0 : SCode := .region [⟨some 4, .assign (.const (.slice none 0 0)), none⟩,
    ⟨some 5, .assign (.const (.int .i64 0)), none⟩]
@[reducible] def q36_1 : SCode := .region [⟨some 9, .move (.tmp 0), none⟩,
    ⟨some 10, .binOp .lss 3 (.tmp 9) (.const (.int .i64 1)) 3, none⟩,
    ⟨some 11, .move (.tmp 10), none⟩,
    ⟨some 12, .move (.tmp 0), some (11, false)⟩,
    ⟨some 13, .binOp .gtr 3 (.tmp 12) (.const (.int .i64 6)) 3, some (11, false)⟩,
    ⟨some 14, .pick (.tmp 11) (.const (.bool true)) (.tmp 13), none⟩,
    ⟨some 15, .move (.tmp 14), none⟩,
    ⟨some 16, .move (.tmp 1), some (15, false)⟩,
    ⟨some 17, .call { callee := .builtin .len, args := #[.tmp 16], argTypes := #[52] }, some (15, false)⟩,
    ⟨some 18, .binOp .gtr 3 (.tmp 17) (.const (.int .i64 30)) 3, some (15, false)⟩,
    ⟨some 19, .pick (.tmp 15) (.const (.bool true)) (.tmp 18), none⟩]
@[reducible] def q36_2 : SCode := .region [⟨some 4, .assign (.const (.slice none 0 0)), none⟩,
    ⟨some 5, .assign (.const (.int .i64 2)), none⟩]
@[reducible] def q36_3 : SCode := .region [⟨some 20, .move (.tmp 0), none⟩,
    ⟨some 21, .build 77 #[(0, .tmp 20)], none⟩,
    ⟨some 6, .alloc 77, none⟩,
    ⟨none, .store 77 (.tmp 6) (.tmp 21), none⟩]
@[reducible] def q36_4 : SCode := .region [⟨some 22, .move (.tmp 1), none⟩,
    ⟨some 23, .makeFunc (.func 79) #[] #[.tmp 6], none⟩,
    ⟨some 24, .call { callee := .value (.func 78), args := #[.tmp 22, .tmp 23], argTypes := #[52, 91] }, none⟩]
@[reducible] def q36_5 : SCode := .region [⟨some 4, .assign (.const (.slice none 0 0)), none⟩,
    ⟨some 5, .assign (.const (.int .i64 2)), none⟩]
@[reducible] def q36_6 : SCode := .region [⟨some 25, .move (.tmp 1), none⟩,
    ⟨some 26, .call { callee := .builtin .len, args := #[.tmp 25], argTypes := #[52] }, none⟩,
    ⟨some 27, .move (.const (.int .i64 0)), none⟩]
@[reducible] def q36_7 : SCode := .region [⟨some 28, .binOp .lss 3 (.tmp 27) (.tmp 26) 3, none⟩]
@[reducible] def q36_8 : SCode := .region [⟨some 29, .indexAddr 52 (.tmp 25) (.tmp 27), none⟩,
    ⟨some 30, .load 33 (.tmp 29), none⟩,
    ⟨some 8, .alloc 33, none⟩,
    ⟨none, .store 33 (.tmp 8) (.tmp 30), none⟩]
def q36_9 : SCode := .draw [⟨some 31, .indexAddr 33 (.tmp 8) (.const (.int .i64 0)), none⟩,
    ⟨some 32, .load 3 (.tmp 31), none⟩,
    ⟨some 33, .indexAddr 33 (.tmp 8) (.const (.int .i64 1)), none⟩,
    ⟨some 34, .load 3 (.tmp 33), none⟩,
    ⟨some 35, .binOp .eql 3 (.tmp 32) (.tmp 34) 3, none⟩,
    ⟨some 36, .move (.tmp 35), none⟩,
    ⟨some 37, .indexAddr 33 (.tmp 8) (.const (.int .i64 1)), some (36, false)⟩,
    ⟨some 38, .load 3 (.tmp 37), some (36, false)⟩,
    ⟨some 39, .fieldAddr 77 (.tmp 6) 1, some (36, false)⟩,
    ⟨some 40, .indexAddr 75 (.tmp 39) (.tmp 38), some (36, false)⟩,
    ⟨some 41, .load 3 (.tmp 40), some (36, false)⟩,
    ⟨some 42, .indexAddr 33 (.tmp 8) (.const (.int .i64 0)), some (36, false)⟩,
    ⟨some 43, .load 3 (.tmp 42), some (36, false)⟩,
    ⟨some 44, .binOp .shr 3 (.tmp 41) (.tmp 43) 3, some (36, false)⟩,
    ⟨some 45, .binOp .and 3 (.tmp 44) (.const (.int .i64 1)) 3, some (36, false)⟩,
    ⟨some 46, .binOp .eql 3 (.tmp 45) (.const (.int .i64 1)) 3, some (36, false)⟩,
    ⟨some 47, .pick (.tmp 36) (.const (.bool true)) (.tmp 46), none⟩]
   [[], [0], [], [2], [1, 3], [4], [5], [6, 5], [5], [8, 7, 5], [9, 5], [5], [11, 5], [10, 12, 5], [13, 5], [14, 5], [5, 15]]
@[reducible] def q36_10 : SCode := .region [⟨some 4, .assign (.const (.slice none 0 0)), none⟩,
    ⟨some 5, .assign (.const (.int .i64 4)), none⟩]
@[reducible] def q36_11 : SCode := .region [⟨some 48, .load 77 (.tmp 6), none⟩,
    ⟨some 49, .indexAddr 33 (.tmp 8) (.const (.int .i64 0)), none⟩,
    ⟨some 50, .load 3 (.tmp 49), none⟩,
    ⟨some 51, .indexAddr 33 (.tmp 8) (.const (.int .i64 1)), none⟩,
    ⟨some 52, .load 3 (.tmp 51), none⟩,
    ⟨some 53, .call { callee := .value (.func 69), args := #[.tmp 48, .tmp 50, .tmp 52], argTypes := #[77, 3, 3] }, none⟩,
    ⟨none, .store 77 (.tmp 6) (.tmp 53), none⟩]
@[reducible] def q36_12 : SCode := .region [⟨some 54, .binOp .add 3 (.tmp 27) (.const (.int .i64 1)) 3, none⟩,
    ⟨some 27, .move (.tmp 54), none⟩]
def l36_0 : SCode := (.seq q36_7 (.seq (.cond (.tmp 28) .skip (.exit 0)) (.seq (.block 1 (.seq q36_8 (.seq (.seq q36_9 (.cond (.tmp 47) (.seq q36_10 .ret) .skip)) q36_11))) q36_12)))
@[reducible] def q36_13 : SCode := .region [⟨some 55, .load 77 (.tmp 6), none⟩,
    ⟨some 56, .call { callee := .value (.func 70), args := #[.tmp 55], argTypes := #[77] }, none⟩,
    ⟨some 4, .assign (.tmp 56), none⟩,
    ⟨some 5, .assign (.const (.int .i64 0)), none⟩]
def s36 : SCode := (.seq q36_0 (.seq (.seq q36_1 (.cond (.tmp 19) (.seq q36_2 .ret) .skip)) (.seq q36_3 (.seq (.seq q36_4 (.cond (.tmp 24) (.seq q36_5 .ret) .skip)) (.seq (.seq q36_6 (.block 0 (.loop l36_0))) (.seq q36_13 .ret))))))
theorem s36_strip : stripC (bodyOf Tryd.f36) = s36 := by kernel_rfl
theorem s36_ok : codeOK 57 (bodyOf Tryd.f36) = true := by kernel_rfl
theorem s36_call [Tabs Tryd.prog] {args : List Value} {h : Heap} {Q : Value → Heap → Prop} (hsz : args.length ≤ 57) (hk : aw Tryd.prog 57 s36 (aPost Tryd.prog [.tmp 4, .tmp 5] Q) (argEnv 0 args) h) : ACall Tryd.prog 36 args h Q :=
  acall_s Tryd.func36 rfl (enters_of Tryd.func36 (by kernel_rfl) rfl) rfl rfl (by decide) s36_strip s36_ok hsz hk

/-! 37: planchet planchetlaw07.pairs -/
@[reducible] def q37_0 : SCode := .region [⟨some 2, .assign (.const (.slice none 0 0)), none⟩]
@[reducible] def q37_1 : SCode := .region [⟨some 3, .move (.tmp 0), none⟩,
    ⟨some 4, .move (.tmp 0), none⟩,
    ⟨some 5, .call { callee := .builtin .len, args := #[.tmp 4], argTypes := #[52] }, none⟩,
    ⟨some 6, .call { callee := .builtin .min, args := #[.tmp 5, .const (.int .i64 35)], argTypes := #[3, 3] }, none⟩,
    ⟨some 7, .slice 52 (.tmp 3) none (some (.tmp 6)) none, none⟩,
    ⟨some 8, .call { callee := .value (.func 41), args := #[.tmp 7], argTypes := #[52] }, none⟩,
    ⟨some 2, .assign (.tmp 8), none⟩]
def s37 : SCode := (.seq q37_0 (.seq q37_1 .ret))
theorem s37_strip : stripC (bodyOf Tryd.f37) = s37 := by kernel_rfl
theorem s37_ok : codeOK 9 (bodyOf Tryd.f37) = true := by kernel_rfl
theorem s37_call [Tabs Tryd.prog] {args : List Value} {h : Heap} {Q : Value → Heap → Prop} (hsz : args.length ≤ 9) (hk : aw Tryd.prog 9 s37 (aPost Tryd.prog [.tmp 2] Q) (argEnv 0 args) h) : ACall Tryd.prog 37 args h Q :=
  acall_s Tryd.func37 rfl (enters_of Tryd.func37 (by kernel_rfl) rfl) rfl rfl (by decide) s37_strip s37_ok hsz hk

/-! 38: planchet planchetref07.Pairs -/
@[reducible] def q38_0 : SCode := .region [⟨some 4, .assign (.const (.bool false)), none⟩]
@[reducible] def q38_1 : SCode := .region [⟨some 7, .move (.tmp 1), none⟩,
    ⟨some 8, .call { callee := .builtin .len, args := #[.tmp 7], argTypes := #[52] }, none⟩,
    ⟨some 9, .move (.const (.int .i64 0)), none⟩]
@[reducible] def q38_2 : SCode := .region [⟨some 10, .binOp .lss 3 (.tmp 9) (.tmp 8) 3, none⟩]
@[reducible] def q38_3 : SCode := .region [⟨some 11, .indexAddr 52 (.tmp 7) (.tmp 9), none⟩,
    ⟨some 12, .load 33 (.tmp 11), none⟩,
    ⟨some 6, .alloc 33, none⟩,
    ⟨none, .store 33 (.tmp 6) (.tmp 12), none⟩]
@[reducible] def q38_4 : SCode := .region [⟨some 13, .indexAddr 33 (.tmp 6) (.const (.int .i64 0)), none⟩,
    ⟨some 14, .load 3 (.tmp 13), none⟩,
    ⟨some 15, .binOp .lss 3 (.tmp 14) (.const (.int .i64 0)) 3, none⟩,
    ⟨some 16, .move (.tmp 15), none⟩,
    ⟨some 17, .indexAddr 33 (.tmp 6) (.const (.int .i64 0)), some (16, false)⟩,
    ⟨some 18, .load 3 (.tmp 17), some (16, false)⟩,
    ⟨some 19, .move (.tmp 0), some (16, false)⟩,
    ⟨some 20, .binOp .geq 3 (.tmp 18) (.tmp 19) 3, some (16, false)⟩,
    ⟨some 21, .pick (.tmp 16) (.const (.bool true)) (.tmp 20), none⟩,
    ⟨some 22, .move (.tmp 21), none⟩,
    ⟨some 23, .indexAddr 33 (.tmp 6) (.const (.int .i64 1)), some (22, false)⟩,
    ⟨some 24, .load 3 (.tmp 23), some (22, false)⟩,
    ⟨some 25, .binOp .lss 3 (.tmp 24) (.const (.int .i64 0)) 3, some (22, false)⟩,
    ⟨some 26, .pick (.tmp 22) (.const (.bool true)) (.tmp 25), none⟩,
    ⟨some 27, .move (.tmp 26), none⟩,
    ⟨some 28, .indexAddr 33 (.tmp 6) (.const (.int .i64 1)), some (27, false)⟩,
    ⟨some 29, .load 3 (.tmp 28), some (27, false)⟩,
    ⟨some 30, .move (.tmp 0), some (27, false)⟩,
    ⟨some 31, .binOp .geq 3 (.tmp 29) (.tmp 30) 3, some (27, false)⟩,
    ⟨some 32, .pick (.tmp 27) (.const (.bool true)) (.tmp 31), none⟩]
@[reducible] def q38_5 : SCode := .region [⟨some 4, .assign (.const (.bool false)), none⟩]
@[reducible] def q38_6 : SCode := .region [⟨some 33, .binOp .add 3 (.tmp 9) (.const (.int .i64 1)) 3, none⟩,
    ⟨some 9, .move (.tmp 33), none⟩]
def l38_0 : SCode := (.seq q38_2 (.seq (.cond (.tmp 10) .skip (.exit 0)) (.seq (.block 1 (.seq q38_3 (.seq q38_4 (.cond (.tmp 32) (.seq q38_5 .ret) .skip)))) q38_6)))
@[reducible] def q38_7 : SCode := .region [⟨some 34, .move (.tmp 0), none⟩,
    ⟨some 35, .binOp .geq 3 (.tmp 34) (.const (.int .i64 1)) 3, none⟩,
    ⟨some 36, .move (.tmp 35), none⟩,
    ⟨some 37, .move (.tmp 0), some (36, true)⟩,
    ⟨some 38, .binOp .leq 3 (.tmp 37) (.const (.int .i64 6)) 3, some (36, true)⟩,
    ⟨some 39, .pick (.tmp 36) (.tmp 38) (.const (.bool false)), none⟩,
    ⟨some 40, .move (.tmp 39), none⟩,
    ⟨some 41, .move (.tmp 1), some (40, true)⟩,
    ⟨some 42, .call { callee := .builtin .len, args := #[.tmp 41], argTypes := #[52] }, some (40, true)⟩,
    ⟨some 43, .binOp .leq 3 (.tmp 42) (.const (.int .i64 30)) 3, some (40, true)⟩,
    ⟨some 44, .pick (.tmp 40) (.tmp 43) (.const (.bool false)), none⟩,
    ⟨some 4, .assign (.tmp 44), none⟩]
def s38 : SCode := (.seq q38_0 (.seq (.seq q38_1 (.block 0 (.loop l38_0))) (.seq q38_7 .ret)))
theorem s38_strip : stripC (bodyOf Tryd.f38) = s38 := by kernel_rfl
theorem s38_ok : codeOK 45 (bodyOf Tryd.f38) = true := by kernel_rfl
theorem s38_call [Tabs Tryd.prog] {args : List Value} {h : Heap} {Q : Value → Heap → Prop} (hsz : args.length ≤ 45) (hk : aw Tryd.prog 45 s38 (aPost Tryd.prog [.tmp 4] Q) (argEnv 0 args) h) : ACall Tryd.prog 38 args h Q :=
  acall_s Tryd.func38 rfl (enters_of Tryd.func38 (by kernel_rfl) rfl) rfl rfl (by decide) s38_strip s38_ok hsz hk

/-! 39: planchet planchetref07.Close -/
@[reducible] def q39_0 : SCode := .region [⟨some 4, .assign (.const (.slice none 0 0)), none⟩,
    ⟨some 5, .assign (.const (.int .i64 0)), none⟩]
@[reducible] def q39_1 : SCode := .region [⟨some 13, .move (.tmp 0), none⟩,
    ⟨some 14, .makeSlice 22 (.tmp 13) (.tmp 13), none⟩,
    ⟨some 6, .assign (.tmp 14), none⟩]
@[reducible] def q39_2 : SCode := .region [⟨some 15, .move (.tmp 1), none⟩,
    ⟨some 16, .call { callee := .builtin .len, args := #[.tmp 15], argTypes := #[52] }, none⟩,
    ⟨some 17, .move (.const (.int .i64 0)), none⟩]
@[reducible] def q39_3 : SCode := .region [⟨some 18, .binOp .lss 3 (.tmp 17) (.tmp 16) 3, none⟩]
@[reducible] def q39_4 : SCode := .region [⟨some 19, .indexAddr 52 (.tmp 15) (.tmp 17), none⟩,
    ⟨some 20, .load 33 (.tmp 19), none⟩,
    ⟨some 8, .alloc 33, none⟩,
    ⟨none, .store 33 (.tmp 8) (.tmp 20), none⟩]
def q39_5 : SCode := .draw [⟨some 21, .move (.tmp 6), none⟩,
    ⟨some 22, .indexAddr 33 (.tmp 8) (.const (.int .i64 0)), none⟩,
    ⟨some 23, .load 3 (.tmp 22), none⟩,
    ⟨some 24, .indexAddr 22 (.tmp 21) (.tmp 23), none⟩,
    ⟨some 25, .load 3 (.tmp 24), none⟩,
    ⟨some 26, .indexAddr 33 (.tmp 8) (.const (.int .i64 1)), none⟩,
    ⟨some 27, .load 3 (.tmp 26), none⟩,
    ⟨some 28, .binOp .shl 3 (.const (.int .i64 1)) (.tmp 27) 3, none⟩,
    ⟨some 29, .binOp .or 3 (.tmp 25) (.tmp 28) 3, none⟩,
    ⟨some 30, .indexAddr 22 (.tmp 21) (.tmp 23), none⟩,
    ⟨none, .store 3 (.tmp 30) (.tmp 29), none⟩]
   [[], [], [1], [0, 2], [3], [], [5], [6], [4, 7], [0, 2, 0, 1, 2, 3, 4, 5, 6, 7, 8], [9, 8, 0, 1, 2, 3, 4, 5, 6, 7, 8]]
@[reducible] def q39_6 : SCode := .region [⟨some 31, .binOp .add 3 (.tmp 17) (.const (.int .i64 1)) 3, none⟩,
    ⟨some 17, .move (.tmp 31), none⟩]
def l39_0 : SCode := (.seq q39_3 (.seq (.cond (.tmp 18) .skip (.exit 0)) (.seq (.block 1 (.seq q39_4 q39_5)) q39_6)))
@[reducible] def q39_7 : SCode := .region [⟨some 32, .move (.tmp 0), none⟩,
    ⟨some 33, .move (.const (.int .i64 0)), none⟩]
@[reducible] def q39_8 : SCode := .region [⟨some 34, .binOp .lss 3 (.tmp 33) (.tmp 32) 3, none⟩]
@[reducible] def q39_9 : SCode := .region [⟨some 35, .move (.tmp 6), none⟩,
    ⟨some 36, .call { callee := .builtin .len, args := #[.tmp 35], argTypes := #[22] }, none⟩,
    ⟨some 37, .move (.const (.int .i64 0)), none⟩]
@[reducible] def q39_10 : SCode := .region [⟨some 38, .binOp .lss 3 (.tmp 37) (.tmp 36) 3, none⟩]
@[reducible] def q39_11 : SCode := .region [⟨some 39, .move (.tmp 37), none⟩,
    ⟨some 9, .assign (.tmp 39), none⟩]
@[reducible] def q39_12 : SCode := .region [⟨some 40, .move (.tmp 6), none⟩,
    ⟨some 41, .call { callee := .builtin .len, args := #[.tmp 40], argTypes := #[22] }, none⟩,
    ⟨some 42, .move (.const (.int .i64 0)), none⟩]
@[reducible] def q39_13 : SCode := .region [⟨some 43, .binOp .lss 3 (.tmp 42) (.tmp 41) 3, none⟩]
@[reducible] def q39_14 : SCode := .region [⟨some 44, .move (.tmp 42), none⟩,
    ⟨some 10, .assign (.tmp 44), none⟩]
@[reducible] def q39_15 : SCode := .region [⟨some 45, .move (.tmp 6), none⟩,
    ⟨some 46, .move (.tmp 9), none⟩,
    ⟨some 47, .move (.tmp 10), none⟩,
    ⟨some 48, .call { callee := .value (.func 71), args := #[.tmp 45, .tmp 46, .tmp 47], argTypes := #[22, 3, 3] }, none⟩]
def q39_16 : SCode := .draw [⟨some 49, .move (.tmp 6), none⟩,
    ⟨some 50, .move (.tmp 9), none⟩,
    ⟨some 51, .indexAddr 22 (.tmp 49) (.tmp 50), none⟩,
    ⟨some 52, .load 3 (.tmp 51), none⟩,
    ⟨some 53, .move (.tmp 6), none⟩,
    ⟨some 54, .move (.tmp 10), none⟩,
    ⟨some 55, .indexAddr 22 (.tmp 53) (.tmp 54), none⟩,
    ⟨some 56, .load 3 (.tmp 55), none⟩,
    ⟨some 57, .binOp .or 3 (.tmp 52) (.tmp 56) 3, none⟩,
    ⟨some 58, .indexAddr 22 (.tmp 49) (.tmp 50), none⟩,
    ⟨none, .store 3 (.tmp 58) (.tmp 57), none⟩]
   [[], [], [0, 1], [2], [], [], [4, 5], [6], [3, 7], [0, 1, 0, 1, 2, 3, 4, 5, 6, 7, 8], [9, 8, 0, 1, 2, 3, 4, 5, 6, 7, 8]]
@[reducible] def q39_17 : SCode := .region [⟨some 59, .binOp .add 3 (.tmp 42) (.const (.int .i64 1)) 3, none⟩,
    ⟨some 42, .move (.tmp 59), none⟩]
def l39_1 : SCode := (.seq q39_13 (.seq (.cond (.tmp 43) .skip (.exit 6)) (.seq (.block 7 (.seq q39_14 (.seq q39_15 (.cond (.tmp 48) q39_16 .skip)))) q39_17)))
@[reducible] def q39_18 : SCode := .region [⟨some 60, .binOp .add 3 (.tmp 37) (.const (.int .i64 1)) 3, none⟩,
    ⟨some 37, .move (.tmp 60), none⟩]
def l39_2 : SCode := (.seq q39_10 (.seq (.cond (.tmp 38) .skip (.exit 4)) (.seq (.block 5 (.seq q39_11 (.seq q39_12 (.block 6 (.loop l39_1))))) q39_18)))
@[reducible] def q39_19 : SCode := .region [⟨some 61, .binOp .add 3 (.tmp 33) (.const (.int .i64 1)) 3, none⟩,
    ⟨some 33, .move (.tmp 61), none⟩]
def l39_3 : SCode := (.seq q39_8 (.seq (.cond (.tmp 34) .skip (.exit 2)) (.seq (.block 3 (.seq q39_9 (.block 4 (.loop l39_2)))) q39_19)))
@[reducible] def q39_20 : SCode := .region [⟨some 62, .move (.tmp 6), none⟩,
    ⟨some 63, .call { callee := .builtin .len, args := #[.tmp 62], argTypes := #[22] }, none⟩,
    ⟨some 64, .move (.const (.int .i64 0)), none⟩]
@[reducible] def q39_21 : SCode := .region [⟨some 65, .binOp .lss 3 (.tmp 64) (.tmp 63) 3, none⟩]
@[reducible] def q39_22 : SCode := .region [⟨some 66, .move (.tmp 64), none⟩,
    ⟨some 67, .indexAddr 22 (.tmp 62) (.tmp 64), none⟩,
    ⟨some 68, .load 3 (.tmp 67), none⟩,
    ⟨some 11, .assign (.tmp 66), none⟩,
    ⟨some 12, .assign (.tmp 68), none⟩]
@[reducible] def q39_23 : SCode := .region [⟨some 69, .move (.tmp 12), none⟩,
    ⟨some 70, .move (.tmp 11), none⟩,
    ⟨some 71, .binOp .shr 3 (.tmp 69) (.tmp 70) 3, none⟩,
    ⟨some 72, .binOp .and 3 (.tmp 71) (.const (.int .i64 1)) 3, none⟩,
    ⟨some 73, .binOp .eql 3 (.tmp 72) (.const (.int .i64 1)) 3, none⟩]
@[reducible] def q39_24 : SCode := .region [⟨some 4, .assign (.const (.slice none 0 0)), none⟩,
    ⟨some 5, .assign (.const (.int .i64 4)), none⟩]
@[reducible] def q39_25 : SCode := .region [⟨some 74, .binOp .add 3 (.tmp 64) (.const (.int .i64 1)) 3, none⟩,
    ⟨some 64, .move (.tmp 74), none⟩]
def l39_4 : SCode := (.seq q39_21 (.seq (.cond (.tmp 65) .skip (.exit 8)) (.seq (.block 9 (.seq q39_22 (.seq q39_23 (.cond (.tmp 73) (.seq q39_24 .ret) .skip)))) q39_25)))
@[reducible] def q39_26 : SCode := .region [⟨some 75, .move (.tmp 6), none⟩,
    ⟨some 4, .assign (.tmp 75), none⟩,
    ⟨some 5, .assign (.const (.int .i64 0)), none⟩]
def s39 : SCode := (.seq q39_0 (.seq q39_1 (.seq (.seq q39_2 (.block 0 (.loop l39_0))) (.seq (.seq q39_7 (.block 2 (.loop l39_3))) (.seq (.seq q39_20 (.block 8 (.loop l39_4))) (.seq q39_26 .ret))))))
theorem s39_strip : stripC (bodyOf Tryd.f39) = s39 := by kernel_rfl
theorem s39_ok : codeOK 76 (bodyOf Tryd.f39) = true := by kernel_rfl
theorem s39_call [Tabs Tryd.prog] {args : List Value} {h : Heap} {Q : Value → Heap → Prop} (hsz : args.length ≤ 76) (hk : aw Tryd.prog 76 s39 (aPost Tryd.prog [.tmp 4, .tmp 5] Q) (argEnv 0 args) h) : ACall Tryd.prog 39 args h Q :=
  acall_s Tryd.func39 rfl (enters_of Tryd.func39 (by kernel_rfl) rfl) rfl rfl (by decide) s39_strip s39_ok hsz hk

/-! 41: slices.Clone[[][2]int,[2]int] -/
@[reducible] def q41_0 : SCode := .region [⟨some 2, .assign (.const (.slice none 0 0)), none⟩]
@[reducible] def q41_1 : SCode := .region [⟨some 3, .move (.tmp 0), none⟩,
    ⟨some 4, .binOp .eql 52 (.tmp 3) (.const (.slice none 0 0)) 52, none⟩]
@[reducible] def q41_2 : SCode := .region [⟨some 2, .assign (.const (.slice none 0 0)), none⟩]
@[reducible] def q41_3 : SCode := .region [⟨some 5, .buildSlice 52 0 #[], none⟩,
    ⟨some 6, .move (.tmp 0), none⟩,
    ⟨some 7, .call { callee := .builtin .append, args := #[.tmp 5, .tmp 6], argTypes := #[52, 52] }, none⟩,
    ⟨some 2, .assign (.tmp 7), none⟩]
def s41 : SCode := (.seq q41_0 (.seq (.seq q41_1 (.cond (.tmp 4) (.seq q41_2 .ret) .skip)) (.seq q41_3 .ret)))
theorem s41_strip : stripC (bodyOf Tryd.f41) = s41 := by kernel_rfl
theorem s41_ok : codeOK 8 (bodyOf Tryd.f41) = true := by kernel_rfl
theorem s41_call [Tabs Tryd.prog] {args : List Value} {h : Heap} {Q : Value → Heap → Prop} (hsz : args.length ≤ 8) (hk : aw Tryd.prog 8 s41 (aPost Tryd.prog [.tmp 2] Q) (argEnv 0 args) h) : ACall Tryd.prog 41 args h Q :=
  acall_s Tryd.func41 rfl (enters_of Tryd.func41 (by kernel_rfl) rfl) rfl rfl (by decide) s41_strip s41_ok hsz hk

/-! 78: slices.ContainsFunc[[][2]int,[2]int] -/
@[reducible] def q78_0 : SCode := .region [⟨some 4, .assign (.const (.bool false)), none⟩]
@[reducible] def q78_1 : SCode := .region [⟨some 5, .move (.tmp 0), none⟩,
    ⟨some 6, .move (.tmp 1), none⟩,
    ⟨some 7, .call { callee := .value (.func 104), args := #[.tmp 5, .tmp 6], argTypes := #[52, 91] }, none⟩,
    ⟨some 8, .binOp .geq 3 (.tmp 7) (.const (.int .i64 0)) 3, none⟩,
    ⟨some 4, .assign (.tmp 8), none⟩]
def s78 : SCode := (.seq q78_0 (.seq q78_1 .ret))
theorem s78_strip : stripC (bodyOf Tryd.f78) = s78 := by kernel_rfl
theorem s78_ok : codeOK 9 (bodyOf Tryd.f78) = true := by kernel_rfl
theorem s78_call [Tabs Tryd.prog] {args : List Value} {h : Heap} {Q : Value → Heap → Prop} (hsz : args.length ≤ 9) (hk : aw Tryd.prog 9 s78 (aPost Tryd.prog [.tmp 4] Q) (argEnv 0 args) h) : ACall Tryd.prog 78 args h Q :=
  acall_s Tryd.func78 rfl (enters_of Tryd.func78 (by kernel_rfl) rfl) rfl rfl (by decide) s78_strip s78_ok hsz hk

/-! 79: planchet order.Close$1 -/
@[reducible] def q79_0 : SCode := .region [⟨some 2, .box 33 (.tmp 0), none⟩,
    ⟨some 3, .assign (.const (.bool false)), none⟩]
@[reducible] def q79_1 : SCode := .region [⟨some 4, .load 77 (.tmp 1), none⟩,
    ⟨some 5, .indexAddr 33 (.tmp 2) (.const (.int .i64 0)), none⟩,
    ⟨some 6, .load 3 (.tmp 5), none⟩,
    ⟨some 7, .call { callee := .value (.func 67), args := #[.tmp 4, .tmp 6], argTypes := #[77, 3] }, none⟩,
    ⟨some 8, .unOp .not 4 (.tmp 7), none⟩,
    ⟨some 9, .move (.tmp 8), none⟩,
    ⟨some 10, .load 77 (.tmp 1), some (9, false)⟩,
    ⟨some 11, .indexAddr 33 (.tmp 2) (.const (.int .i64 1)), some (9, false)⟩,
    ⟨some 12, .load 3 (.tmp 11), some (9, false)⟩,
    ⟨some 13, .call { callee := .value (.func 67), args := #[.tmp 10, .tmp 12], argTypes := #[77, 3] }, some (9, false)⟩,
    ⟨some 14, .unOp .not 4 (.tmp 13), some (9, false)⟩,
    ⟨some 15, .pick (.tmp 9) (.const (.bool true)) (.tmp 14), none⟩,
    ⟨some 3, .assign (.tmp 15), none⟩]
def s79 : SCode := (.seq q79_0 (.seq q79_1 .ret))
theorem s79_strip : stripC (bodyOf Tryd.f79) = s79 := by kernel_rfl
theorem s79_ok : codeOK 16 (bodyOf Tryd.f79) = true := by kernel_rfl
theorem s79_call [Tabs Tryd.prog] {args : List Value} {h : Heap} {Q : Value → Heap → Prop} (hsz : args.length ≤ 16) (hk : aw Tryd.prog 16 s79 (aPost Tryd.prog [.tmp 3] Q) (argEnv 0 args) h) : ACall Tryd.prog 79 args h Q :=
  acall_s Tryd.func79 rfl (enters_of Tryd.func79 (by kernel_rfl) rfl) rfl rfl (by decide) s79_strip s79_ok hsz hk

/-! 104: slices.IndexFunc[[][2]int,[2]int] -/
@[reducible] def q104_0 : SCode := .region [⟨some 4, .assign (.const (.int .i64 0)), none⟩]
@[reducible] def q104_1 : SCode := .region [⟨some 6, .move (.tmp 0), none⟩,
    ⟨some 7, .call { callee := .builtin .len, args := #[.tmp 6], argTypes := #[52] }, none⟩,
    ⟨some 8, .move (.const (.int .i64 0)), none⟩]
@[reducible] def q104_2 : SCode := .region [⟨some 9, .binOp .lss 3 (.tmp 8) (.tmp 7) 3, none⟩]
@[reducible] def q104_3 : SCode := .region [⟨some 10, .move (.tmp 8), none⟩,
    ⟨some 5, .assign (.tmp 10), none⟩]
@[reducible] def q104_4 : SCode := .region [⟨some 11, .move (.tmp 1), none⟩,
    ⟨some 12, .move (.tmp 0), none⟩,
    ⟨some 13, .move (.tmp 5), none⟩,
    ⟨some 14, .indexAddr 52 (.tmp 12) (.tmp 13), none⟩,
    ⟨some 15, .load 33 (.tmp 14), none⟩,
    ⟨some 16, .call { callee := .value (.tmp 11), args := #[.tmp 15], argTypes := #[33] }, none⟩]
@[reducible] def q104_5 : SCode := .region [⟨some 17, .move (.tmp 5), none⟩,
    ⟨some 4, .assign (.tmp 17), none⟩]
@[reducible] def q104_6 : SCode := .region [⟨some 18, .binOp .add 3 (.tmp 8) (.const (.int .i64 1)) 3, none⟩,
    ⟨some 8, .move (.tmp 18), none⟩]
def l104_0 : SCode := (.seq q104_2 (.seq (.cond (.tmp 9) .skip (.exit 0)) (.seq (.block 1 (.seq q104_3 (.seq q104_4 (.cond (.tmp 16) (.seq q104_5 .ret) .skip)))) q104_6)))
@[reducible] def q104_7 : SCode := .region [⟨some 4, .assign (.const (.int .i64 (-1))), none⟩]
def s104 : SCode := (.seq q104_0 (.seq (.seq q104_1 (.block 0 (.loop l104_0))) (.seq q104_7 .ret)))
theorem s104_strip : stripC (bodyOf Tryd.f104) = s104 := by kernel_rfl
theorem s104_ok : codeOK 19 (bodyOf Tryd.f104) = true := by kernel_rfl
theorem s104_call [Tabs Tryd.prog] {args : List Value} {h : Heap} {Q : Value → Heap → Prop} (hsz : args.length ≤ 19) (hk : aw Tryd.prog 19 s104 (aPost Tryd.prog [.tmp 4] Q) (argEnv 0 args) h) : ACall Tryd.prog 104 args h Q :=
  acall_s Tryd.func104 rfl (enters_of Tryd.func104 (by kernel_rfl) rfl) rfl rfl (by decide) s104_strip s104_ok hsz hk

/-! 27: planchet planchetref07.Element -/
@[reducible] def q27_0 : SCode := .region [⟨some 4, .assign (.const (.bool false)), none⟩]
@[reducible] def q27_1 : SCode := .region [⟨some 5, .move (.tmp 1), none⟩,
    ⟨some 6, .binOp .geq 3 (.tmp 5) (.const (.int .i64 0)) 3, none⟩,
    ⟨some 7, .move (.tmp 6), none⟩,
    ⟨some 8, .move (.tmp 1), some (7, true)⟩,
    ⟨some 9, .move (.tmp 0), some (7, true)⟩,
    ⟨some 10, .call { callee := .builtin .len, args := #[.tmp 9], argTypes := #[22] }, some (7, true)⟩,
    ⟨some 11, .binOp .lss 3 (.tmp 8) (.tmp 10) 3, some (7, true)⟩,
    ⟨some 12, .pick (.tmp 7) (.tmp 11) (.const (.bool false)), none⟩,
    ⟨some 4, .assign (.tmp 12), none⟩]
def s27 : SCode := (.seq q27_0 (.seq q27_1 .ret))
theorem s27_strip : stripC (bodyOf Tryd.f27) = s27 := by kernel_rfl
theorem s27_ok : codeOK 13 (bodyOf Tryd.f27) = true := by kernel_rfl
theorem s27_call [Tabs Tryd.prog] {args : List Value} {h : Heap} {Q : Value → Heap → Prop} (hsz : args.length ≤ 13) (hk : aw Tryd.prog 13 s27 (aPost Tryd.prog [.tmp 4] Q) (argEnv 0 args) h) : ACall Tryd.prog 27 args h Q :=
  acall_s Tryd.func27 rfl (enters_of Tryd.func27 (by kernel_rfl) rfl) rfl rfl (by decide) s27_strip s27_ok hsz hk

/-! 34: slices.Equal[[]int,int] -/
@[reducible] def q34_0 : SCode := .region [⟨some 4, .assign (.const (.bool false)), none⟩]
@[reducible] def q34_1 : SCode := .region [⟨some 6, .move (.tmp 0), none⟩,
    ⟨some 7, .call { callee := .builtin .len, args := #[.tmp 6], argTypes := #[22] }, none⟩,
    ⟨some 8, .move (.tmp 1), none⟩,
    ⟨some 9, .call { callee := .builtin .len, args := #[.tmp 8], argTypes := #[22] }, none⟩,
    ⟨some 10, .binOp .neq 3 (.tmp 7) (.tmp 9) 3, none⟩]
@[reducible] def q34_2 : SCode := .region [⟨some 4, .assign (.const (.bool false)), none⟩]
@[reducible] def q34_3 : SCode := .region [⟨some 11, .move (.tmp 0), none⟩,
    ⟨some 12, .call { callee := .builtin .len, args := #[.tmp 11], argTypes := #[22] }, none⟩,
    ⟨some 13, .move (.const (.int .i64 0)), none⟩]
@[reducible] def q34_4 : SCode := .region [⟨some 14, .binOp .lss 3 (.tmp 13) (.tmp 12) 3, none⟩]
@[reducible] def q34_5 : SCode := .region [⟨some 15, .move (.tmp 13), none⟩,
    ⟨some 5, .assign (.tmp 15), none⟩]
def q34_6 : SCode := .draw [⟨some 16, .move (.tmp 0), none⟩,
    ⟨some 17, .move (.tmp 5), none⟩,
    ⟨some 18, .indexAddr 22 (.tmp 16) (.tmp 17), none⟩,
    ⟨some 19, .load 3 (.tmp 18), none⟩,
    ⟨some 20, .move (.tmp 1), none⟩,
    ⟨some 21, .move (.tmp 5), none⟩,
    ⟨some 22, .indexAddr 22 (.tmp 20) (.tmp 21), none⟩,
    ⟨some 23, .load 3 (.tmp 22), none⟩,
    ⟨some 24, .binOp .neq 3 (.tmp 19) (.tmp 23) 3, none⟩]
   [[], [], [0, 1], [2], [], [], [4, 5], [6], [3, 7]]
@[reducible] def q34_7 : SCode := .region [⟨some 4, .assign (.const (.bool false)), none⟩]
@[reducible] def q34_8 : SCode := .region [⟨some 25, .binOp .add 3 (.tmp 13) (.const (.int .i64 1)) 3, none⟩,
    ⟨some 13, .move (.tmp 25), none⟩]
def l34_0 : SCode := (.seq q34_4 (.seq (.cond (.tmp 14) .skip (.exit 0)) (.seq (.block 1 (.seq q34_5 (.seq q34_6 (.cond (.tmp 24) (.seq q34_7 .ret) .skip)))) q34_8)))
@[reducible] def q34_9 : SCode := .region [⟨some 4, .assign (.const (.bool true)), none⟩]
def s34 : SCode := (.seq q34_0 (.seq (.seq q34_1 (.cond (.tmp 10) (.seq q34_2 .ret) .skip)) (.seq (.seq q34_3 (.block 0 (.loop l34_0))) (.seq q34_9 .ret))))
theorem s34_strip : stripC (bodyOf Tryd.f34) = s34 := by kernel_rfl
theorem s34_ok : codeOK 26 (bodyOf Tryd.f34) = true := by kernel_rfl
theorem s34_call [Tabs Tryd.prog] {args : List Value} {h : Heap} {Q : Value → Heap → Prop} (hsz : args.length ≤ 26) (hk : aw Tryd.prog 26 s34 (aPost Tryd.prog [.tmp 4] Q) (argEnv 0 args) h) : ACall Tryd.prog 34 args h Q :=
  acall_s Tryd.func34 rfl (enters_of Tryd.func34 (by kernel_rfl) rfl) rfl rfl (by decide) s34_strip s34_ok hsz hk

end Go.Proofs.Tryd.Am

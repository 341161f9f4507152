/-
  Printed by gen.py: the code of some functions, without what no step looks at; held against the program's own by the kernel.
  bets: equations as they lie in memory.
  bets: slices.Repeat of one fraction.
-/
import Derived.Test.YtcmindinomacbaaPk3
import Derived.Test.YtcmindinomacbaaProg
import Derived.KernelRfl
import Derived.Shelf.Abstract
import Derived.Test.YtcmindinomacbaaPk6
import Derived.Test.YtcmindinomacbaaPk5
set_option linter.all false
namespace Go.Proofs.Try.Am
open Go.Am
set_option maxRecDepth 100000
/-! 36: planchet bets.Sound -/
@[reducible] def q36_0 : SCode := .region [⟨some 4, .assign (.const (.slice none 0 0)), none⟩,
    ⟨some 5, .assign (.const (.int .i64 0)), none⟩]
@[reducible] def q36_1 : SCode := .region [⟨some 8, .move (.tmp 0), none⟩,
    ⟨some 9, .move (.tmp 1), none⟩,
    ⟨some 10, .build 86 #[(0, .tmp 8), (1, .tmp 9)], none⟩,
    ⟨some 6, .alloc 86, none⟩,
    ⟨none, .store 86 (.tmp 6) (.tmp 10), none⟩]
@[reducible] def q36_2 : SCode := .region [⟨some 11, .load 86 (.tmp 6), none⟩,
    ⟨some 12, .call { callee := .value (.func 58), args := #[.tmp 11], argTypes := #[86] }, none⟩,
    ⟨some 13, .unOp .not 4 (.tmp 12), none⟩]
@[reducible] def q36_3 : SCode := .region [⟨some 4, .assign (.const (.slice none 0 0)), none⟩,
    ⟨some 5, .assign (.const (.int .i64 2)), none⟩]
@[reducible] def q36_4 : SCode := .region [⟨some 14, .load 86 (.tmp 6), none⟩,
    ⟨some 15, .call { callee := .value (.func 60), args := #[.tmp 14], argTypes := #[86] }, none⟩,
    ⟨some 7, .assign (.tmp 15), none⟩]
@[reducible] def q36_5 : SCode := .region [⟨some 16, .move (.tmp 7), none⟩,
    ⟨some 17, .call { callee := .builtin .len, args := #[.tmp 16], argTypes := #[88] }, none⟩,
    ⟨some 18, .binOp .eql 3 (.tmp 17) (.const (.int .i64 0)) 3, none⟩]
@[reducible] def q36_6 : SCode := .region [⟨some 4, .assign (.const (.slice none 0 0)), none⟩,
    ⟨some 5, .assign (.const (.int .i64 5)), none⟩]
@[reducible] def q36_7 : SCode := .region [⟨some 19, .move (.tmp 7), none⟩,
    ⟨some 20, .indexAddr 88 (.tmp 19) (.const (.int .i64 0)), none⟩,
    ⟨some 21, .load 90 (.tmp 20), none⟩,
    ⟨some 4, .assign (.tmp 21), none⟩,
    ⟨some 5, .assign (.const (.int .i64 0)), none⟩]
def s36 : SCode := (.seq q36_0 (.seq q36_1 (.seq (.seq q36_2 (.cond (.tmp 13) (.seq q36_3 .ret) .skip)) (.seq q36_4 (.seq (.seq q36_5 (.cond (.tmp 18) (.seq q36_6 .ret) .skip)) (.seq q36_7 .ret))))))
theorem s36_strip : stripC (bodyOf Try.f36) = s36 := by kernel_rfl
theorem s36_ok : codeOK 22 (bodyOf Try.f36) = true := by kernel_rfl
/-! 58: (planchet bets.table).valid -/
@[reducible] def q58_0 : SCode := .region [⟨some 1, .box 86 (.tmp 0), none⟩,
    ⟨some 2, .assign (.const (.bool false)), none⟩]
@[reducible] def q58_1 : SCode := .region [⟨some 5, .fieldAddr 86 (.tmp 1) 0, none⟩,
    ⟨some 6, .load 3 (.tmp 5), none⟩,
    ⟨some 7, .binOp .lss 3 (.tmp 6) (.const (.int .i64 2)) 3, none⟩,
    ⟨some 8, .move (.tmp 7), none⟩,
    ⟨some 9, .fieldAddr 86 (.tmp 1) 0, some (8, false)⟩,
    ⟨some 10, .load 3 (.tmp 9), some (8, false)⟩,
    ⟨some 11, .binOp .gtr 3 (.tmp 10) (.const (.int .i64 5)) 3, some (8, false)⟩,
    ⟨some 12, .pick (.tmp 8) (.const (.bool true)) (.tmp 11), none⟩,
    ⟨some 13, .move (.tmp 12), none⟩,
    ⟨some 14, .fieldAddr 86 (.tmp 1) 1, some (13, false)⟩,
    ⟨some 15, .load 30 (.tmp 14), some (13, false)⟩,
    ⟨some 16, .call { callee := .builtin .len, args := #[.tmp 15], argTypes := #[30] }, some (13, false)⟩,
    ⟨some 17, .binOp .lss 3 (.tmp 16) (.const (.int .i64 1)) 3, some (13, false)⟩,
    ⟨some 18, .pick (.tmp 13) (.const (.bool true)) (.tmp 17), none⟩,
    ⟨some 19, .move (.tmp 18), none⟩,
    ⟨some 20, .fieldAddr 86 (.tmp 1) 1, some (19, false)⟩,
    ⟨some 21, .load 30 (.tmp 20), some (19, false)⟩,
    ⟨some 22, .call { callee := .builtin .len, args := #[.tmp 21], argTypes := #[30] }, some (19, false)⟩,
    ⟨some 23, .binOp .gtr 3 (.tmp 22) (.const (.int .i64 6)) 3, some (19, false)⟩,
    ⟨some 24, .pick (.tmp 19) (.const (.bool true)) (.tmp 23), none⟩]
@[reducible] def q58_2 : SCode := .region [⟨some 2, .assign (.const (.bool false)), none⟩]
@[reducible] def q58_3 : SCode := .region [⟨some 25, .fieldAddr 86 (.tmp 1) 1, none⟩,
    ⟨some 26, .load 30 (.tmp 25), none⟩,
    ⟨some 27, .call { callee := .builtin .len, args := #[.tmp 26], argTypes := #[30] }, none⟩,
    ⟨some 28, .move (.const (.int .i64 0)), none⟩]
@[reducible] def q58_4 : SCode := .region [⟨some 29, .binOp .lss 3 (.tmp 28) (.tmp 27) 3, none⟩]
@[reducible] def q58_5 : SCode := .region [⟨some 30, .move (.tmp 28), none⟩,
    ⟨some 31, .indexAddr 30 (.tmp 26) (.tmp 28), none⟩,
    ⟨some 32, .load 92 (.tmp 31), none⟩,
    ⟨some 4, .alloc 92, none⟩,
    ⟨some 3, .assign (.tmp 30), none⟩,
    ⟨none, .store 92 (.tmp 4) (.tmp 32), none⟩]
def q58_6 : SCode := .draw [⟨some 33, .fieldAddr 92 (.tmp 4) 0, none⟩,
    ⟨some 34, .load 3 (.tmp 33), none⟩,
    ⟨some 35, .binOp .lss 3 (.tmp 34) (.const (.int .i64 0)) 3, none⟩,
    ⟨some 36, .move (.tmp 35), none⟩,
    ⟨some 37, .fieldAddr 92 (.tmp 4) 0, some (36, false)⟩,
    ⟨some 38, .load 3 (.tmp 37), some (36, false)⟩,
    ⟨some 39, .fieldAddr 86 (.tmp 1) 0, some (36, false)⟩,
    ⟨some 40, .load 3 (.tmp 39), some (36, false)⟩,
    ⟨some 41, .binOp .shl 3 (.const (.int .i64 1)) (.tmp 40) 3, some (36, false)⟩,
    ⟨some 42, .binOp .geq 3 (.tmp 38) (.tmp 41) 3, some (36, false)⟩,
    ⟨some 43, .pick (.tmp 36) (.const (.bool true)) (.tmp 42), none⟩,
    ⟨some 44, .move (.tmp 43), none⟩,
    ⟨some 45, .fieldAddr 92 (.tmp 4) 1, some (44, false)⟩,
    ⟨some 46, .load 3 (.tmp 45), some (44, false)⟩,
    ⟨some 47, .binOp .lss 3 (.tmp 46) (.const (.int .i64 0)) 3, some (44, false)⟩,
    ⟨some 48, .pick (.tmp 44) (.const (.bool true)) (.tmp 47), none⟩,
    ⟨some 49, .move (.tmp 48), none⟩,
    ⟨some 50, .fieldAddr 92 (.tmp 4) 1, some (49, false)⟩,
    ⟨some 51, .load 3 (.tmp 50), some (49, false)⟩,
    ⟨some 52, .binOp .gtr 3 (.tmp 51) (.const (.int .i64 12)) 3, some (49, false)⟩,
    ⟨some 53, .pick (.tmp 49) (.const (.bool true)) (.tmp 52), none⟩]
   [[], [0], [1], [2], [3], [4, 3], [3], [6, 3], [7, 3], [5, 8, 3], [3, 9], [10, 3], [11], [12, 11], [13, 11], [11, 14], [15, 11], [16], [17, 16], [18, 16], [16, 19]]
@[reducible] def q58_7 : SCode := .region [⟨some 2, .assign (.const (.bool false)), none⟩]
@[reducible] def q58_8 : SCode := .region [⟨some 54, .fieldAddr 86 (.tmp 1) 1, none⟩,
    ⟨some 55, .load 30 (.tmp 54), none⟩,
    ⟨some 56, .move (.tmp 3), none⟩,
    ⟨some 57, .slice 30 (.tmp 55) none (some (.tmp 56)) none, none⟩,
    ⟨some 58, .makeFunc (.func 99) #[] #[.tmp 4], none⟩,
    ⟨some 59, .call { callee := .value (.func 98), args := #[.tmp 57, .tmp 58], argTypes := #[30, 112] }, none⟩]
@[reducible] def q58_9 : SCode := .region [⟨some 2, .assign (.const (.bool false)), none⟩]
@[reducible] def q58_10 : SCode := .region [⟨some 60, .binOp .add 3 (.tmp 28) (.const (.int .i64 1)) 3, none⟩,
    ⟨some 28, .move (.tmp 60), none⟩]
def l58_0 : SCode := (.seq q58_4 (.seq (.cond (.tmp 29) .skip (.exit 0)) (.seq (.block 1 (.seq q58_5 (.seq (.seq q58_6 (.cond (.tmp 53) (.seq q58_7 .ret) .skip)) (.seq q58_8 (.cond (.tmp 59) (.seq q58_9 .ret) .skip))))) q58_10)))
@[reducible] def q58_11 : SCode := .region [⟨some 2, .assign (.const (.bool true)), none⟩]
def s58 : SCode := (.seq q58_0 (.seq (.seq q58_1 (.cond (.tmp 24) (.seq q58_2 .ret) .skip)) (.seq (.seq q58_3 (.block 0 (.loop l58_0))) (.seq q58_11 .ret))))
theorem s58_strip : stripC (bodyOf Try.f58) = s58 := by kernel_rfl
theorem s58_ok : codeOK 61 (bodyOf Try.f58) = true := by kernel_rfl
/-! 60: (planchet bets.table).corners -/
@[reducible] def q60_0 : SCode := .region [⟨some 1, .box 86 (.tmp 0), none⟩,
    ⟨some 2, .assign (.const (.slice none 0 0)), none⟩]
@[reducible] def q60_1 : SCode := .region [⟨some 3, .assign (.const (.slice none 0 0)), none⟩]
@[reducible] def q60_2 : SCode := .region [⟨some 4, .assign (.const (.int .i64 1)), none⟩]
@[reducible] def q60_3 : SCode := .region [⟨some 16, .move (.tmp 4), none⟩,
    ⟨some 17, .fieldAddr 86 (.tmp 1) 0, none⟩,
    ⟨some 18, .load 3 (.tmp 17), none⟩,
    ⟨some 19, .binOp .shl 3 (.const (.int .i64 1)) (.tmp 18) 3, none⟩,
    ⟨some 20, .binOp .lss 3 (.tmp 16) (.tmp 19) 3, none⟩]
@[reducible] def q60_5 : SCode := .region [⟨some 5, .alloc 38, none⟩]
@[reducible] def q60_6 : SCode := .region [⟨some 23, .fieldAddr 86 (.tmp 1) 0, none⟩,
    ⟨some 24, .load 3 (.tmp 23), none⟩,
    ⟨some 25, .move (.const (.int .i64 0)), none⟩]
@[reducible] def q60_7 : SCode := .region [⟨some 26, .binOp .lss 3 (.tmp 25) (.tmp 24) 3, none⟩]
@[reducible] def q60_8 : SCode := .region [⟨some 27, .move (.tmp 25), none⟩,
    ⟨some 6, .assign (.tmp 27), none⟩]
@[reducible] def q60_9 : SCode := .region [⟨some 28, .move (.tmp 4), none⟩,
    ⟨some 29, .move (.tmp 6), none⟩,
    ⟨some 30, .binOp .shr 3 (.tmp 28) (.tmp 29) 3, none⟩,
    ⟨some 31, .binOp .and 3 (.tmp 30) (.const (.int .i64 1)) 3, none⟩,
    ⟨some 32, .binOp .eql 3 (.tmp 31) (.const (.int .i64 1)) 3, none⟩]
@[reducible] def q60_10 : SCode := .region [⟨some 33, .load 38 (.tmp 5), none⟩,
    ⟨some 34, .move (.tmp 6), none⟩,
    ⟨some 35, .buildSlice 38 1 #[(0, .tmp 34)], none⟩,
    ⟨some 36, .call { callee := .builtin .append, args := #[.tmp 33, .tmp 35], argTypes := #[38, 38] }, none⟩,
    ⟨none, .store 38 (.tmp 5) (.tmp 36), none⟩]
@[reducible] def q60_11 : SCode := .region [⟨some 37, .binOp .add 3 (.tmp 25) (.const (.int .i64 1)) 3, none⟩,
    ⟨some 25, .move (.tmp 37), none⟩]
def l60_0 : SCode := (.seq q60_7 (.seq (.cond (.tmp 26) .skip (.exit 2)) (.seq (.block 3 (.seq q60_8 (.seq q60_9 (.cond (.tmp 32) q60_10 .skip)))) q60_11)))
@[reducible] def q60_12 : SCode := .region [⟨some 38, .makeFunc (.func 100) #[] #[.tmp 5], none⟩,
    ⟨some 7, .assign (.tmp 38), none⟩]
def q60_13 : SCode := .draw [⟨some 39, .move (.tmp 7), none⟩,
    ⟨some 40, .fieldAddr 86 (.tmp 1) 0, none⟩,
    ⟨some 41, .load 3 (.tmp 40), none⟩,
    ⟨some 42, .binOp .shl 3 (.const (.int .i64 1)) (.tmp 41) 3, none⟩,
    ⟨some 43, .binOp .sub 3 (.tmp 42) (.const (.int .i64 1)) 3, none⟩,
    ⟨some 44, .call { callee := .value (.func 70), args := #[.const (.int .i64 1)], argTypes := #[3] }, none⟩,
    ⟨some 45, .call { callee := .value (.tmp 39), args := #[.tmp 43, .tmp 44], argTypes := #[3, 26] }, none⟩,
    ⟨some 46, .buildSlice 103 1 #[(0, .tmp 45)], none⟩,
    ⟨some 8, .assign (.tmp 46), none⟩]
   [[], [], [1], [2], [3], [], [0, 4, 5, 5], [6], [7, 6, 0, 1, 2, 3, 4, 5, 6, 7]]
@[reducible] def q60_14 : SCode := .region [⟨some 47, .fieldAddr 86 (.tmp 1) 1, none⟩,
    ⟨some 48, .load 30 (.tmp 47), none⟩,
    ⟨some 49, .call { callee := .builtin .len, args := #[.tmp 48], argTypes := #[30] }, none⟩,
    ⟨some 50, .move (.const (.int .i64 0)), none⟩]
@[reducible] def q60_15 : SCode := .region [⟨some 51, .binOp .lss 3 (.tmp 50) (.tmp 49) 3, none⟩]
@[reducible] def q60_16 : SCode := .region [⟨some 52, .indexAddr 30 (.tmp 48) (.tmp 50), none⟩,
    ⟨some 53, .load 92 (.tmp 52), none⟩,
    ⟨some 10, .alloc 92, none⟩,
    ⟨none, .store 92 (.tmp 10) (.tmp 53), none⟩]
def q60_17 : SCode := .draw [⟨some 54, .move (.tmp 8), none⟩,
    ⟨some 55, .move (.tmp 7), none⟩,
    ⟨some 56, .fieldAddr 92 (.tmp 10) 0, none⟩,
    ⟨some 57, .load 3 (.tmp 56), none⟩,
    ⟨some 58, .fieldAddr 92 (.tmp 10) 1, none⟩,
    ⟨some 59, .load 3 (.tmp 58), none⟩,
    ⟨some 60, .call { callee := .value (.func 64), args := #[.tmp 59, .const (.int .i64 12)], argTypes := #[3, 3] }, none⟩,
    ⟨some 61, .call { callee := .value (.tmp 55), args := #[.tmp 57, .tmp 60], argTypes := #[3, 26] }, none⟩,
    ⟨some 62, .buildSlice 103 1 #[(0, .tmp 61)], none⟩,
    ⟨some 63, .call { callee := .builtin .append, args := #[.tmp 54, .tmp 62], argTypes := #[103, 103] }, none⟩,
    ⟨some 8, .assign (.tmp 63), none⟩]
   [[], [], [], [2], [], [4], [5], [1, 3, 6, 6], [7], [0, 8, 7], [9, 9, 0, 1, 2, 3, 4, 5, 6, 7, 8, 9]]
@[reducible] def q60_18 : SCode := .region [⟨some 64, .binOp .add 3 (.tmp 50) (.const (.int .i64 1)) 3, none⟩,
    ⟨some 50, .move (.tmp 64), none⟩]
def l60_1 : SCode := (.seq q60_15 (.seq (.cond (.tmp 51) .skip (.exit 4)) (.seq (.block 5 (.seq q60_16 q60_17)) q60_18)))
@[reducible] def q60_19 : SCode := .region [⟨some 66, .move (.tmp 8), none⟩,
    ⟨some 67, .load 38 (.tmp 5), none⟩,
    ⟨some 68, .call { callee := .builtin .len, args := #[.tmp 67], argTypes := #[38] }, none⟩,
    ⟨some 69, .call { callee := .value (.func 87), args := #[.tmp 66, .tmp 68], argTypes := #[103, 3] }, none⟩,
    ⟨some 65, .move (.tmp 69), none⟩,
    ⟨some 70, .extract (.tmp 65) 0, none⟩,
    ⟨some 71, .extract (.tmp 65) 1, none⟩,
    ⟨some 11, .assign (.tmp 70), none⟩,
    ⟨some 12, .assign (.tmp 71), none⟩]
@[reducible] def q60_20 : SCode := .region [⟨some 72, .move (.tmp 12), none⟩,
    ⟨some 73, .unOp .not 4 (.tmp 72), none⟩,
    ⟨some 74, .move (.tmp 73), none⟩,
    ⟨some 75, .move (.tmp 11), some (74, false)⟩,
    ⟨some 76, .call { callee := .value (.func 101), args := #[.tmp 75, .func 102], argTypes := #[47, 35] }, some (74, false)⟩,
    ⟨some 77, .pick (.tmp 74) (.const (.bool true)) (.tmp 76), none⟩]
def q60_21 : SCode := .draw [⟨some 78, .call { callee := .value (.func 70), args := #[.const (.int .i64 0)], argTypes := #[3] }, none⟩,
    ⟨some 79, .buildSlice 47 1 #[(0, .tmp 78)], none⟩,
    ⟨some 80, .fieldAddr 86 (.tmp 1) 0, none⟩,
    ⟨some 81, .load 3 (.tmp 80), none⟩,
    ⟨some 82, .call { callee := .value (.func 95), args := #[.tmp 79, .tmp 81], argTypes := #[47, 3] }, none⟩,
    ⟨some 13, .assign (.tmp 82), none⟩]
   [[], [0], [], [2], [1, 3, 0], [4, 4, 0, 1, 2, 3, 4]]
@[reducible] def q60_22 : SCode := .region [⟨some 83, .load 38 (.tmp 5), none⟩,
    ⟨some 84, .call { callee := .builtin .len, args := #[.tmp 83], argTypes := #[38] }, none⟩,
    ⟨some 85, .move (.const (.int .i64 0)), none⟩]
@[reducible] def q60_23 : SCode := .region [⟨some 86, .binOp .lss 3 (.tmp 85) (.tmp 84) 3, none⟩]
@[reducible] def q60_24 : SCode := .region [⟨some 87, .move (.tmp 85), none⟩,
    ⟨some 88, .indexAddr 38 (.tmp 83) (.tmp 85), none⟩,
    ⟨some 89, .load 3 (.tmp 88), none⟩,
    ⟨some 14, .assign (.tmp 87), none⟩,
    ⟨some 15, .assign (.tmp 89), none⟩]
@[reducible] def q60_25 : SCode := .region [⟨some 90, .move (.tmp 13), none⟩,
    ⟨some 91, .move (.tmp 15), none⟩,
    ⟨some 92, .move (.tmp 11), none⟩,
    ⟨some 93, .move (.tmp 14), none⟩,
    ⟨some 94, .indexAddr 47 (.tmp 92) (.tmp 93), none⟩,
    ⟨some 95, .load 26 (.tmp 94), none⟩,
    ⟨some 96, .indexAddr 90 (.tmp 90) (.tmp 91), none⟩,
    ⟨none, .store 26 (.tmp 96) (.tmp 95), none⟩]
@[reducible] def q60_26 : SCode := .region [⟨some 97, .binOp .add 3 (.tmp 85) (.const (.int .i64 1)) 3, none⟩,
    ⟨some 85, .move (.tmp 97), none⟩]
def l60_2 : SCode := (.seq q60_23 (.seq (.cond (.tmp 86) .skip (.exit 6)) (.seq (.block 7 (.seq q60_24 q60_25)) q60_26)))
@[reducible] def q60_27 : SCode := .region [⟨some 98, .move (.tmp 3), none⟩,
    ⟨some 99, .move (.tmp 13), none⟩,
    ⟨some 100, .buildSlice 88 1 #[(0, .tmp 99)], none⟩,
    ⟨some 101, .call { callee := .builtin .append, args := #[.tmp 98, .tmp 100], argTypes := #[88, 88] }, none⟩,
    ⟨some 3, .assign (.tmp 101), none⟩]
@[reducible] def q60_4 : SCode := .region [⟨some 21, .move (.tmp 4), none⟩,
    ⟨some 22, .binOp .add 3 (.tmp 21) (.const (.int .i64 1)) 3, none⟩,
    ⟨some 4, .assign (.tmp 22), none⟩]
def l60_3 : SCode := (.seq (.seq q60_3 (.cond (.tmp 20) .skip (.exit 0))) (.seq (.block 1 (.seq q60_5 (.seq (.seq q60_6 (.block 2 (.loop l60_0))) (.seq q60_12 (.seq q60_13 (.seq (.seq q60_14 (.block 4 (.loop l60_1))) (.seq q60_19 (.seq (.seq q60_20 (.cond (.tmp 77) (.exit 1) .skip)) (.seq q60_21 (.seq (.seq q60_22 (.block 6 (.loop l60_2))) q60_27)))))))))) q60_4))
@[reducible] def q60_28 : SCode := .region [⟨some 102, .move (.tmp 3), none⟩,
    ⟨some 2, .assign (.tmp 102), none⟩]
def s60 : SCode := (.seq q60_0 (.seq q60_1 (.seq (.seq q60_2 (.block 0 (.loop l60_3))) (.seq q60_28 .ret))))
theorem s60_strip : stripC (bodyOf Try.f60) = s60 := by kernel_rfl
theorem s60_ok : codeOK 103 (bodyOf Try.f60) = true := by kernel_rfl
/-! 87: (planchet bets.equations).solve -/
@[reducible] def q87_0 : SCode := .region [⟨some 4, .assign (.const (.slice none 0 0)), none⟩,
    ⟨some 5, .assign (.const (.bool false)), none⟩]
@[reducible] def q87_1 : SCode := .region [⟨some 6, .assign (.const (.int .i64 0)), none⟩]
@[reducible] def q87_2 : SCode := .region [⟨some 18, .move (.tmp 1), none⟩,
    ⟨some 19, .move (.const (.int .i64 0)), none⟩]
@[reducible] def q87_3 : SCode := .region [⟨some 20, .binOp .lss 3 (.tmp 19) (.tmp 18) 3, none⟩]
@[reducible] def q87_4 : SCode := .region [⟨some 21, .move (.tmp 19), none⟩,
    ⟨some 7, .alloc 3, none⟩,
    ⟨none, .store 3 (.tmp 7) (.tmp 21), none⟩]
@[reducible] def q87_5 : SCode := .region [⟨some 22, .move (.tmp 0), none⟩,
    ⟨some 23, .move (.tmp 6), none⟩,
    ⟨some 24, .slice 103 (.tmp 22) (some (.tmp 23)) none none, none⟩,
    ⟨some 25, .makeFunc (.func 112) #[] #[.tmp 7], none⟩,
    ⟨some 26, .call { callee := .value (.func 111), args := #[.tmp 24, .tmp 25], argTypes := #[103, 51] }, none⟩,
    ⟨some 8, .assign (.tmp 26), none⟩]
@[reducible] def q87_6 : SCode := .region [⟨some 27, .move (.tmp 8), none⟩,
    ⟨some 28, .binOp .lss 3 (.tmp 27) (.const (.int .i64 0)) 3, none⟩]
@[reducible] def q87_7 : SCode := .region [⟨some 4, .assign (.const (.slice none 0 0)), none⟩,
    ⟨some 5, .assign (.const (.bool false)), none⟩]
def q87_8 : SCode := .draw [⟨some 29, .move (.tmp 0), none⟩,
    ⟨some 30, .move (.tmp 6), none⟩,
    ⟨some 31, .move (.tmp 0), none⟩,
    ⟨some 32, .move (.tmp 6), none⟩,
    ⟨some 33, .move (.tmp 8), none⟩,
    ⟨some 34, .binOp .add 3 (.tmp 32) (.tmp 33) 3, none⟩,
    ⟨some 35, .move (.tmp 0), none⟩,
    ⟨some 36, .move (.tmp 6), none⟩,
    ⟨some 37, .move (.tmp 8), none⟩,
    ⟨some 38, .binOp .add 3 (.tmp 36) (.tmp 37) 3, none⟩,
    ⟨some 39, .indexAddr 103 (.tmp 35) (.tmp 38), none⟩,
    ⟨some 40, .load 47 (.tmp 39), none⟩,
    ⟨some 41, .move (.tmp 0), none⟩,
    ⟨some 42, .move (.tmp 6), none⟩,
    ⟨some 43, .indexAddr 103 (.tmp 41) (.tmp 42), none⟩,
    ⟨some 44, .load 47 (.tmp 43), none⟩,
    ⟨some 45, .indexAddr 103 (.tmp 29) (.tmp 30), none⟩,
    ⟨none, .store 47 (.tmp 45) (.tmp 40), none⟩,
    ⟨some 46, .indexAddr 103 (.tmp 31) (.tmp 34), none⟩,
    ⟨none, .store 47 (.tmp 46) (.tmp 44), none⟩]
   [[], [], [], [], [], [3, 4], [], [], [], [7, 8], [6, 9], [10], [], [], [12, 13], [14], [0, 1, 0, 1, 6, 7, 8, 9, 10, 11, 15], [16, 11, 0, 1, 6, 7, 8, 9, 10, 11, 15], [2, 5, 0, 1, 2, 3, 4, 5, 6, 7, 8, 9, 10, 11, 12, 13, 14, 15, 16, 17], [18, 15, 17, 0, 1, 2, 3, 4, 5, 6, 7, 8, 9, 10, 11, 12, 13, 14, 15, 16, 17]]
def q87_9 : SCode := .draw [⟨some 47, .move (.tmp 0), none⟩,
    ⟨some 48, .move (.tmp 6), none⟩,
    ⟨some 49, .indexAddr 103 (.tmp 47) (.tmp 48), none⟩,
    ⟨some 50, .load 47 (.tmp 49), none⟩,
    ⟨some 51, .load 3 (.tmp 7), none⟩,
    ⟨some 52, .indexAddr 47 (.tmp 50) (.tmp 51), none⟩,
    ⟨some 53, .load 26 (.tmp 52), none⟩,
    ⟨some 9, .alloc 26, none⟩,
    ⟨none, .store 26 (.tmp 9) (.tmp 53), none⟩]
   [[], [], [0, 1], [2], [], [3, 4], [5], [], [7, 6, 0, 1, 2, 3, 4, 5, 6, 7]]
@[reducible] def q87_10 : SCode := .region [⟨some 54, .move (.tmp 0), none⟩,
    ⟨some 55, .move (.tmp 6), none⟩,
    ⟨some 56, .indexAddr 103 (.tmp 54) (.tmp 55), none⟩,
    ⟨some 57, .load 47 (.tmp 56), none⟩,
    ⟨some 58, .call { callee := .builtin .len, args := #[.tmp 57], argTypes := #[47] }, none⟩,
    ⟨some 59, .move (.const (.int .i64 0)), none⟩]
@[reducible] def q87_11 : SCode := .region [⟨some 60, .binOp .lss 3 (.tmp 59) (.tmp 58) 3, none⟩]
@[reducible] def q87_12 : SCode := .region [⟨some 61, .move (.tmp 59), none⟩,
    ⟨some 10, .assign (.tmp 61), none⟩]
def q87_13 : SCode := .draw [⟨some 62, .move (.tmp 0), none⟩,
    ⟨some 63, .move (.tmp 6), none⟩,
    ⟨some 64, .indexAddr 103 (.tmp 62) (.tmp 63), none⟩,
    ⟨some 65, .load 47 (.tmp 64), none⟩,
    ⟨some 66, .move (.tmp 10), none⟩,
    ⟨some 67, .move (.tmp 0), none⟩,
    ⟨some 68, .move (.tmp 6), none⟩,
    ⟨some 69, .indexAddr 103 (.tmp 67) (.tmp 68), none⟩,
    ⟨some 70, .load 47 (.tmp 69), none⟩,
    ⟨some 71, .move (.tmp 10), none⟩,
    ⟨some 72, .indexAddr 47 (.tmp 70) (.tmp 71), none⟩,
    ⟨some 73, .load 26 (.tmp 72), none⟩,
    ⟨some 74, .load 26 (.tmp 9), none⟩,
    ⟨some 75, .call { callee := .value (.func 94), args := #[.tmp 73, .tmp 74], argTypes := #[26, 26] }, none⟩,
    ⟨some 76, .indexAddr 47 (.tmp 65) (.tmp 66), none⟩,
    ⟨none, .store 26 (.tmp 76) (.tmp 75), none⟩]
   [[], [], [0, 1], [2], [], [], [], [5, 6], [7], [], [8, 9], [10], [], [11, 12], [3, 4, 0, 1, 2, 3, 4, 5, 6, 7, 8, 9, 10, 11, 12, 13], [14, 13, 13, 0, 1, 2, 3, 4, 5, 6, 7, 8, 9, 10, 11, 12, 13]]
@[reducible] def q87_14 : SCode := .region [⟨some 77, .binOp .add 3 (.tmp 59) (.const (.int .i64 1)) 3, none⟩,
    ⟨some 59, .move (.tmp 77), none⟩]
def l87_0 : SCode := (.seq q87_11 (.seq (.cond (.tmp 60) .skip (.exit 2)) (.seq (.block 3 (.seq q87_12 q87_13)) q87_14)))
@[reducible] def q87_15 : SCode := .region [⟨some 78, .move (.tmp 0), none⟩,
    ⟨some 79, .call { callee := .builtin .len, args := #[.tmp 78], argTypes := #[103] }, none⟩,
    ⟨some 80, .move (.const (.int .i64 0)), none⟩]
@[reducible] def q87_16 : SCode := .region [⟨some 81, .binOp .lss 3 (.tmp 80) (.tmp 79) 3, none⟩]
@[reducible] def q87_17 : SCode := .region [⟨some 82, .move (.tmp 80), none⟩,
    ⟨some 11, .assign (.tmp 82), none⟩]
def q87_18 : SCode := .draw [⟨some 83, .move (.tmp 0), none⟩,
    ⟨some 84, .move (.tmp 11), none⟩,
    ⟨some 85, .indexAddr 103 (.tmp 83) (.tmp 84), none⟩,
    ⟨some 86, .load 47 (.tmp 85), none⟩,
    ⟨some 87, .load 3 (.tmp 7), none⟩,
    ⟨some 88, .indexAddr 47 (.tmp 86) (.tmp 87), none⟩,
    ⟨some 89, .load 26 (.tmp 88), none⟩,
    ⟨some 12, .alloc 26, none⟩,
    ⟨none, .store 26 (.tmp 12) (.tmp 89), none⟩]
   [[], [], [0, 1], [2], [], [3, 4], [5], [], [7, 6, 0, 1, 2, 3, 4, 5, 6, 7]]
@[reducible] def q87_19 : SCode := .region [⟨some 90, .move (.tmp 11), none⟩,
    ⟨some 91, .move (.tmp 6), none⟩,
    ⟨some 92, .binOp .neq 3 (.tmp 90) (.tmp 91) 3, none⟩,
    ⟨some 93, .move (.tmp 92), none⟩,
    ⟨some 94, .fieldAddr 26 (.tmp 12) 0, some (93, true)⟩,
    ⟨some 95, .load 3 (.tmp 94), some (93, true)⟩,
    ⟨some 96, .binOp .neq 3 (.tmp 95) (.const (.int .i64 0)) 3, some (93, true)⟩,
    ⟨some 97, .pick (.tmp 93) (.tmp 96) (.const (.bool false)), none⟩]
@[reducible] def q87_20 : SCode := .region [⟨some 98, .move (.tmp 0), none⟩,
    ⟨some 99, .move (.tmp 11), none⟩,
    ⟨some 100, .indexAddr 103 (.tmp 98) (.tmp 99), none⟩,
    ⟨some 101, .load 47 (.tmp 100), none⟩,
    ⟨some 102, .call { callee := .builtin .len, args := #[.tmp 101], argTypes := #[47] }, none⟩,
    ⟨some 103, .move (.const (.int .i64 0)), none⟩]
@[reducible] def q87_21 : SCode := .region [⟨some 104, .binOp .lss 3 (.tmp 103) (.tmp 102) 3, none⟩]
@[reducible] def q87_22 : SCode := .region [⟨some 105, .move (.tmp 103), none⟩,
    ⟨some 13, .assign (.tmp 105), none⟩]
def q87_23 : SCode := .draw [⟨some 106, .move (.tmp 0), none⟩,
    ⟨some 107, .move (.tmp 11), none⟩,
    ⟨some 108, .indexAddr 103 (.tmp 106) (.tmp 107), none⟩,
    ⟨some 109, .load 47 (.tmp 108), none⟩,
    ⟨some 110, .move (.tmp 13), none⟩,
    ⟨some 111, .move (.tmp 0), none⟩,
    ⟨some 112, .move (.tmp 11), none⟩,
    ⟨some 113, .indexAddr 103 (.tmp 111) (.tmp 112), none⟩,
    ⟨some 114, .load 47 (.tmp 113), none⟩,
    ⟨some 115, .move (.tmp 13), none⟩,
    ⟨some 116, .indexAddr 47 (.tmp 114) (.tmp 115), none⟩,
    ⟨some 117, .load 26 (.tmp 116), none⟩,
    ⟨some 118, .load 26 (.tmp 12), none⟩,
    ⟨some 119, .move (.tmp 0), none⟩,
    ⟨some 120, .move (.tmp 6), none⟩,
    ⟨some 121, .indexAddr 103 (.tmp 119) (.tmp 120), none⟩,
    ⟨some 122, .load 47 (.tmp 121), none⟩,
    ⟨some 123, .move (.tmp 13), none⟩,
    ⟨some 124, .indexAddr 47 (.tmp 122) (.tmp 123), none⟩,
    ⟨some 125, .load 26 (.tmp 124), none⟩,
    ⟨some 126, .call { callee := .value (.func 72), args := #[.tmp 118, .tmp 125], argTypes := #[26, 26] }, none⟩,
    ⟨some 127, .call { callee := .value (.func 71), args := #[.tmp 117, .const (.int .i64 (-1)), .tmp 126], argTypes := #[26, 3, 26] }, none⟩,
    ⟨some 128, .indexAddr 47 (.tmp 109) (.tmp 110), none⟩,
    ⟨none, .store 26 (.tmp 128) (.tmp 127), none⟩]
   [[], [], [0, 1], [2], [], [], [], [5, 6], [7], [], [8, 9], [10], [], [], [], [13, 14], [15], [], [16, 17], [18], [12, 19], [11, 20, 20], [3, 4, 0, 1, 2, 3, 4, 5, 6, 7, 8, 9, 10, 11, 12, 13, 14, 15, 16, 17, 18, 19, 20, 21], [22, 21, 21, 0, 1, 2, 3, 4, 5, 6, 7, 8, 9, 10, 11, 12, 13, 14, 15, 16, 17, 18, 19, 20, 21]]
@[reducible] def q87_24 : SCode := .region [⟨some 129, .binOp .add 3 (.tmp 103) (.const (.int .i64 1)) 3, none⟩,
    ⟨some 103, .move (.tmp 129), none⟩]
def l87_1 : SCode := (.seq q87_21 (.seq (.cond (.tmp 104) .skip (.exit 6)) (.seq (.block 7 (.seq q87_22 q87_23)) q87_24)))
@[reducible] def q87_25 : SCode := .region [⟨some 130, .binOp .add 3 (.tmp 80) (.const (.int .i64 1)) 3, none⟩,
    ⟨some 80, .move (.tmp 130), none⟩]
def l87_2 : SCode := (.seq q87_16 (.seq (.cond (.tmp 81) .skip (.exit 4)) (.seq (.block 5 (.seq q87_17 (.seq q87_18 (.seq q87_19 (.cond (.tmp 97) (.seq q87_20 (.block 6 (.loop l87_1))) .skip))))) q87_25)))
@[reducible] def q87_26 : SCode := .region [⟨some 131, .move (.tmp 6), none⟩,
    ⟨some 132, .binOp .add 3 (.tmp 131) (.const (.int .i64 1)) 3, none⟩,
    ⟨some 6, .assign (.tmp 132), none⟩]
@[reducible] def q87_27 : SCode := .region [⟨some 133, .move (.tmp 6), none⟩,
    ⟨some 134, .move (.tmp 0), none⟩,
    ⟨some 135, .call { callee := .builtin .len, args := #[.tmp 134], argTypes := #[103] }, none⟩,
    ⟨some 136, .binOp .eql 3 (.tmp 133) (.tmp 135) 3, none⟩,
    ⟨some 137, .move (.tmp 136), none⟩,
    ⟨some 138, .load 3 (.tmp 7), some (137, true)⟩,
    ⟨some 139, .binOp .add 3 (.tmp 138) (.const (.int .i64 1)) 3, some (137, true)⟩,
    ⟨some 140, .move (.tmp 1), some (137, true)⟩,
    ⟨some 141, .binOp .lss 3 (.tmp 139) (.tmp 140) 3, some (137, true)⟩,
    ⟨some 142, .pick (.tmp 137) (.tmp 141) (.const (.bool false)), none⟩]
@[reducible] def q87_28 : SCode := .region [⟨some 4, .assign (.const (.slice none 0 0)), none⟩,
    ⟨some 5, .assign (.const (.bool false)), none⟩]
@[reducible] def q87_29 : SCode := .region [⟨some 143, .binOp .add 3 (.tmp 19) (.const (.int .i64 1)) 3, none⟩,
    ⟨some 19, .move (.tmp 143), none⟩]
def l87_3 : SCode := (.seq q87_3 (.seq (.cond (.tmp 20) .skip (.exit 0)) (.seq (.block 1 (.seq q87_4 (.seq q87_5 (.seq (.seq q87_6 (.cond (.tmp 28) (.seq q87_7 .ret) .skip)) (.seq q87_8 (.seq q87_9 (.seq (.seq q87_10 (.block 2 (.loop l87_0))) (.seq (.seq q87_15 (.block 4 (.loop l87_2))) (.seq q87_26 (.seq q87_27 (.cond (.tmp 142) (.seq q87_28 .ret) .skip))))))))))) q87_29)))
@[reducible] def q87_30 : SCode := .region [⟨some 144, .move (.tmp 0), none⟩,
    ⟨some 145, .move (.tmp 6), none⟩,
    ⟨some 146, .slice 103 (.tmp 144) (some (.tmp 145)) none none, none⟩,
    ⟨some 147, .call { callee := .builtin .len, args := #[.tmp 146], argTypes := #[103] }, none⟩,
    ⟨some 148, .move (.const (.int .i64 0)), none⟩]
@[reducible] def q87_31 : SCode := .region [⟨some 149, .binOp .lss 3 (.tmp 148) (.tmp 147) 3, none⟩]
@[reducible] def q87_32 : SCode := .region [⟨some 150, .indexAddr 103 (.tmp 146) (.tmp 148), none⟩,
    ⟨some 151, .load 47 (.tmp 150), none⟩,
    ⟨some 15, .assign (.tmp 151), none⟩]
@[reducible] def q87_33 : SCode := .region [⟨some 152, .move (.tmp 15), none⟩,
    ⟨some 153, .move (.tmp 1), none⟩,
    ⟨some 154, .indexAddr 47 (.tmp 152) (.tmp 153), none⟩,
    ⟨some 155, .fieldAddr 26 (.tmp 154) 0, none⟩,
    ⟨some 156, .load 3 (.tmp 155), none⟩,
    ⟨some 157, .binOp .neq 3 (.tmp 156) (.const (.int .i64 0)) 3, none⟩]
@[reducible] def q87_34 : SCode := .region [⟨some 4, .assign (.const (.slice none 0 0)), none⟩,
    ⟨some 5, .assign (.const (.bool false)), none⟩]
@[reducible] def q87_35 : SCode := .region [⟨some 158, .binOp .add 3 (.tmp 148) (.const (.int .i64 1)) 3, none⟩,
    ⟨some 148, .move (.tmp 158), none⟩]
def l87_4 : SCode := (.seq q87_31 (.seq (.cond (.tmp 149) .skip (.exit 8)) (.seq (.block 9 (.seq q87_32 (.seq q87_33 (.cond (.tmp 157) (.seq q87_34 .ret) .skip)))) q87_35)))
@[reducible] def q87_36 : SCode := .region [⟨some 159, .move (.tmp 0), none⟩,
    ⟨some 160, .move (.tmp 6), none⟩,
    ⟨some 161, .slice 103 (.tmp 159) none (some (.tmp 160)) none, none⟩,
    ⟨some 162, .call { callee := .builtin .len, args := #[.tmp 161], argTypes := #[103] }, none⟩,
    ⟨some 163, .move (.const (.int .i64 0)), none⟩]
@[reducible] def q87_37 : SCode := .region [⟨some 164, .binOp .lss 3 (.tmp 163) (.tmp 162) 3, none⟩]
@[reducible] def q87_38 : SCode := .region [⟨some 165, .indexAddr 103 (.tmp 161) (.tmp 163), none⟩,
    ⟨some 166, .load 47 (.tmp 165), none⟩,
    ⟨some 17, .assign (.tmp 166), none⟩]
@[reducible] def q87_39 : SCode := .region [⟨some 167, .move (.tmp 4), none⟩,
    ⟨some 168, .move (.tmp 17), none⟩,
    ⟨some 169, .move (.tmp 1), none⟩,
    ⟨some 170, .indexAddr 47 (.tmp 168) (.tmp 169), none⟩,
    ⟨some 171, .load 26 (.tmp 170), none⟩,
    ⟨some 172, .buildSlice 47 1 #[(0, .tmp 171)], none⟩,
    ⟨some 173, .call { callee := .builtin .append, args := #[.tmp 167, .tmp 172], argTypes := #[47, 47] }, none⟩,
    ⟨some 4, .assign (.tmp 173), none⟩]
@[reducible] def q87_40 : SCode := .region [⟨some 174, .binOp .add 3 (.tmp 163) (.const (.int .i64 1)) 3, none⟩,
    ⟨some 163, .move (.tmp 174), none⟩]
def l87_5 : SCode := (.seq q87_37 (.seq (.cond (.tmp 164) .skip (.exit 10)) (.seq (.block 11 (.seq q87_38 q87_39)) q87_40)))
@[reducible] def q87_41 : SCode := .region [⟨some 175, .move (.tmp 4), none⟩,
    ⟨some 4, .assign (.tmp 175), none⟩,
    ⟨some 5, .assign (.const (.bool true)), none⟩]
def s87 : SCode := (.seq q87_0 (.seq q87_1 (.seq (.seq q87_2 (.block 0 (.loop l87_3))) (.seq (.seq q87_30 (.block 8 (.loop l87_4))) (.seq (.seq q87_36 (.block 10 (.loop l87_5))) (.seq q87_41 .ret))))))
theorem s87_strip : stripC (bodyOf Try.f87) = s87 := by kernel_rfl
theorem s87_ok : codeOK 176 (bodyOf Try.f87) = true := by kernel_rfl
/-! 95: slices.Repeat[[]planchet api.Frac,planchet api.Frac] -/
@[reducible] def q95_0 : SCode := .region [⟨some 4, .assign (.const (.slice none 0 0)), none⟩]
@[reducible] def q95_1 : SCode := .region [⟨some 9, .move (.tmp 1), none⟩,
    ⟨some 10, .binOp .lss 3 (.tmp 9) (.const (.int .i64 0)) 3, none⟩]
@[reducible] def q95_2 : SCode := .region [⟨some 11, .makeInterface 9 (.const (.string { data := #[99, 97, 110, 110, 111, 116, 32, 98, 101, 32, 110, 101, 103, 97, 116, 105, 118, 101] })), none⟩,
    ⟨none, .panic (.tmp 11), none⟩]
@[reducible] def q95_3 : SCode := .region [⟨some 13, .move (.tmp 0), none⟩,
    ⟨some 14, .call { callee := .builtin .len, args := #[.tmp 13], argTypes := #[47] }, none⟩,
    ⟨some 15, .convert 3 67 (.tmp 14), none⟩,
    ⟨some 16, .move (.tmp 1), none⟩,
    ⟨some 17, .convert 3 67 (.tmp 16), none⟩,
    ⟨some 18, .call { callee := .value (.func 114), args := #[.tmp 15, .tmp 17], argTypes := #[67, 67] }, none⟩,
    ⟨some 12, .move (.tmp 18), none⟩,
    ⟨some 19, .extract (.tmp 12) 0, none⟩,
    ⟨some 20, .extract (.tmp 12) 1, none⟩,
    ⟨some 5, .assign (.tmp 19), none⟩,
    ⟨some 6, .assign (.tmp 20), none⟩]
@[reducible] def q95_4 : SCode := .region [⟨some 21, .move (.tmp 5), none⟩,
    ⟨some 22, .binOp .gtr 67 (.tmp 21) (.const (.int .u64 0)) 67, none⟩,
    ⟨some 23, .move (.tmp 22), none⟩,
    ⟨some 24, .move (.tmp 6), some (23, false)⟩,
    ⟨some 25, .binOp .gtr 67 (.tmp 24) (.const (.int .u64 9223372036854775807)) 67, some (23, false)⟩,
    ⟨some 26, .pick (.tmp 23) (.const (.bool true)) (.tmp 25), none⟩]
@[reducible] def q95_5 : SCode := .region [⟨some 27, .makeInterface 9 (.const (.string { data := #[116, 104, 101, 32, 114, 101, 115, 117, 108, 116, 32, 111, 102, 32, 40, 108, 101, 110, 40, 120, 41, 32, 42, 32, 99, 111, 117, 110, 116, 41, 32, 111, 118, 101, 114, 102, 108, 111, 119, 115] })), none⟩,
    ⟨none, .panic (.tmp 27), none⟩]
@[reducible] def q95_6 : SCode := .region [⟨some 28, .move (.tmp 6), none⟩,
    ⟨some 29, .convert 67 3 (.tmp 28), none⟩,
    ⟨some 30, .makeSlice 47 (.tmp 29) (.tmp 29), none⟩,
    ⟨some 7, .assign (.tmp 30), none⟩]
@[reducible] def q95_7 : SCode := .region [⟨some 31, .move (.tmp 7), none⟩,
    ⟨some 32, .move (.tmp 0), none⟩,
    ⟨some 33, .call { callee := .builtin .copy, args := #[.tmp 31, .tmp 32], argTypes := #[47, 47] }, none⟩,
    ⟨some 8, .assign (.tmp 33), none⟩]
@[reducible] def q95_8 : SCode := .region [⟨some 34, .move (.tmp 8), none⟩,
    ⟨some 35, .move (.tmp 7), none⟩,
    ⟨some 36, .call { callee := .builtin .len, args := #[.tmp 35], argTypes := #[47] }, none⟩,
    ⟨some 37, .binOp .lss 3 (.tmp 34) (.tmp 36) 3, none⟩]
def q95_9 : SCode := .draw [⟨some 38, .move (.tmp 8), none⟩,
    ⟨some 39, .move (.tmp 7), none⟩,
    ⟨some 40, .move (.tmp 8), none⟩,
    ⟨some 41, .slice 47 (.tmp 39) (some (.tmp 40)) none none, none⟩,
    ⟨some 42, .move (.tmp 7), none⟩,
    ⟨some 43, .move (.tmp 8), none⟩,
    ⟨some 44, .slice 47 (.tmp 42) none (some (.tmp 43)) none, none⟩,
    ⟨some 45, .call { callee := .builtin .copy, args := #[.tmp 41, .tmp 44], argTypes := #[47, 47] }, none⟩,
    ⟨some 46, .binOp .add 3 (.tmp 38) (.tmp 45) 3, none⟩,
    ⟨some 8, .assign (.tmp 46), none⟩]
   [[], [], [], [1, 2], [], [], [4, 5], [3, 6], [0, 7], [8, 7, 0, 1, 2, 3, 4, 5, 6, 7, 8]]
def l95_0 : SCode := (.seq (.seq q95_8 (.cond (.tmp 37) .skip (.exit 0))) (.block 1 q95_9))
@[reducible] def q95_10 : SCode := .region [⟨some 47, .move (.tmp 7), none⟩,
    ⟨some 4, .assign (.tmp 47), none⟩]
def s95 : SCode := (.seq q95_0 (.seq (.seq q95_1 (.cond (.tmp 10) q95_2 .skip)) (.seq q95_3 (.seq (.seq q95_4 (.cond (.tmp 26) q95_5 .skip)) (.seq q95_6 (.seq q95_7 (.seq (.block 0 (.loop l95_0)) (.seq q95_10 .ret))))))))
theorem s95_strip : stripC (bodyOf Try.f95) = s95 := by kernel_rfl
theorem s95_ok : codeOK 48 (bodyOf Try.f95) = true := by kernel_rfl
/-! 98: slices.ContainsFunc[[]planchet bets.Bet,planchet bets.Bet] -/
@[reducible] def q98_0 : SCode := .region [⟨some 4, .assign (.const (.bool false)), none⟩]
@[reducible] def q98_1 : SCode := .region [⟨some 5, .move (.tmp 0), none⟩,
    ⟨some 6, .move (.tmp 1), none⟩,
    ⟨some 7, .call { callee := .value (.func 115), args := #[.tmp 5, .tmp 6], argTypes := #[30, 112] }, none⟩,
    ⟨some 8, .binOp .geq 3 (.tmp 7) (.const (.int .i64 0)) 3, none⟩,
    ⟨some 4, .assign (.tmp 8), none⟩]
def s98 : SCode := (.seq q98_0 (.seq q98_1 .ret))
theorem s98_strip : stripC (bodyOf Try.f98) = s98 := by kernel_rfl
theorem s98_ok : codeOK 9 (bodyOf Try.f98) = true := by kernel_rfl
/-! 99: (planchet bets.table).valid$1 -/
@[reducible] def q99_0 : SCode := .region [⟨some 2, .box 92 (.tmp 0), none⟩,
    ⟨some 3, .assign (.const (.bool false)), none⟩]
@[reducible] def q99_1 : SCode := .region [⟨some 4, .fieldAddr 92 (.tmp 2) 0, none⟩,
    ⟨some 5, .load 3 (.tmp 4), none⟩,
    ⟨some 6, .fieldAddr 92 (.tmp 1) 0, none⟩,
    ⟨some 7, .load 3 (.tmp 6), none⟩,
    ⟨some 8, .binOp .eql 3 (.tmp 5) (.tmp 7) 3, none⟩,
    ⟨some 3, .assign (.tmp 8), none⟩]
def s99 : SCode := (.seq q99_0 (.seq q99_1 .ret))
theorem s99_strip : stripC (bodyOf Try.f99) = s99 := by kernel_rfl
theorem s99_ok : codeOK 9 (bodyOf Try.f99) = true := by kernel_rfl
/-! 100: (planchet bets.table).corners$1 -/
@[reducible] def q100_0 : SCode := .region [⟨some 4, .box 26 (.tmp 1), none⟩,
    ⟨some 5, .assign (.const (.slice none 0 0)), none⟩]
@[reducible] def q100_1 : SCode := .region [⟨some 6, .assign (.const (.slice none 0 0)), none⟩]
@[reducible] def q100_2 : SCode := .region [⟨some 9, .load 38 (.tmp 2), none⟩,
    ⟨some 10, .call { callee := .builtin .len, args := #[.tmp 9], argTypes := #[38] }, none⟩,
    ⟨some 11, .move (.const (.int .i64 0)), none⟩]
@[reducible] def q100_3 : SCode := .region [⟨some 12, .binOp .lss 3 (.tmp 11) (.tmp 10) 3, none⟩]
@[reducible] def q100_4 : SCode := .region [⟨some 13, .indexAddr 38 (.tmp 9) (.tmp 11), none⟩,
    ⟨some 14, .load 3 (.tmp 13), none⟩,
    ⟨some 8, .assign (.tmp 14), none⟩]
@[reducible] def q100_5 : SCode := .region [⟨some 15, .move (.tmp 6), none⟩,
    ⟨some 16, .move (.tmp 0), none⟩,
    ⟨some 17, .move (.tmp 8), none⟩,
    ⟨some 18, .binOp .shr 3 (.tmp 16) (.tmp 17) 3, none⟩,
    ⟨some 19, .binOp .and 3 (.tmp 18) (.const (.int .i64 1)) 3, none⟩,
    ⟨some 20, .call { callee := .value (.func 70), args := #[.tmp 19], argTypes := #[3] }, none⟩,
    ⟨some 21, .buildSlice 47 1 #[(0, .tmp 20)], none⟩,
    ⟨some 22, .call { callee := .builtin .append, args := #[.tmp 15, .tmp 21], argTypes := #[47, 47] }, none⟩,
    ⟨some 6, .assign (.tmp 22), none⟩]
@[reducible] def q100_6 : SCode := .region [⟨some 23, .binOp .add 3 (.tmp 11) (.const (.int .i64 1)) 3, none⟩,
    ⟨some 11, .move (.tmp 23), none⟩]
def l100_0 : SCode := (.seq q100_3 (.seq (.cond (.tmp 12) .skip (.exit 0)) (.seq (.block 1 (.seq q100_4 q100_5)) q100_6)))
@[reducible] def q100_7 : SCode := .region [⟨some 24, .move (.tmp 6), none⟩,
    ⟨some 25, .load 26 (.tmp 4), none⟩,
    ⟨some 26, .buildSlice 47 1 #[(0, .tmp 25)], none⟩,
    ⟨some 27, .call { callee := .builtin .append, args := #[.tmp 24, .tmp 26], argTypes := #[47, 47] }, none⟩,
    ⟨some 5, .assign (.tmp 27), none⟩]
def s100 : SCode := (.seq q100_0 (.seq q100_1 (.seq (.seq q100_2 (.block 0 (.loop l100_0))) (.seq q100_7 .ret))))
theorem s100_strip : stripC (bodyOf Try.f100) = s100 := by kernel_rfl
theorem s100_ok : codeOK 28 (bodyOf Try.f100) = true := by kernel_rfl
/-! 111: slices.IndexFunc[planchet bets.equations,[]planchet api.Frac] -/
@[reducible] def q111_0 : SCode := .region [⟨some 4, .assign (.const (.int .i64 0)), none⟩]
@[reducible] def q111_1 : SCode := .region [⟨some 6, .move (.tmp 0), none⟩,
    ⟨some 7, .call { callee := .builtin .len, args := #[.tmp 6], argTypes := #[103] }, none⟩,
    ⟨some 8, .move (.const (.int .i64 0)), none⟩]
@[reducible] def q111_2 : SCode := .region [⟨some 9, .binOp .lss 3 (.tmp 8) (.tmp 7) 3, none⟩]
@[reducible] def q111_3 : SCode := .region [⟨some 10, .move (.tmp 8), none⟩,
    ⟨some 5, .assign (.tmp 10), none⟩]
@[reducible] def q111_4 : SCode := .region [⟨some 11, .move (.tmp 1), none⟩,
    ⟨some 12, .move (.tmp 0), none⟩,
    ⟨some 13, .move (.tmp 5), none⟩,
    ⟨some 14, .indexAddr 103 (.tmp 12) (.tmp 13), none⟩,
    ⟨some 15, .load 47 (.tmp 14), none⟩,
    ⟨some 16, .call { callee := .value (.tmp 11), args := #[.tmp 15], argTypes := #[47] }, none⟩]
@[reducible] def q111_5 : SCode := .region [⟨some 17, .move (.tmp 5), none⟩,
    ⟨some 4, .assign (.tmp 17), none⟩]
@[reducible] def q111_6 : SCode := .region [⟨some 18, .binOp .add 3 (.tmp 8) (.const (.int .i64 1)) 3, none⟩,
    ⟨some 8, .move (.tmp 18), none⟩]
def l111_0 : SCode := (.seq q111_2 (.seq (.cond (.tmp 9) .skip (.exit 0)) (.seq (.block 1 (.seq q111_3 (.seq q111_4 (.cond (.tmp 16) (.seq q111_5 .ret) .skip)))) q111_6)))
@[reducible] def q111_7 : SCode := .region [⟨some 4, .assign (.const (.int .i64 (-1))), none⟩]
def s111 : SCode := (.seq q111_0 (.seq (.seq q111_1 (.block 0 (.loop l111_0))) (.seq q111_7 .ret)))
theorem s111_strip : stripC (bodyOf Try.f111) = s111 := by kernel_rfl
theorem s111_ok : codeOK 19 (bodyOf Try.f111) = true := by kernel_rfl
/-! 112: (planchet bets.equations).solve$1 -/
@[reducible] def q112_0 : SCode := .region [⟨some 3, .assign (.const (.bool false)), none⟩]
@[reducible] def q112_1 : SCode := .region [⟨some 4, .move (.tmp 0), none⟩,
    ⟨some 5, .load 3 (.tmp 1), none⟩,
    ⟨some 6, .indexAddr 47 (.tmp 4) (.tmp 5), none⟩,
    ⟨some 7, .fieldAddr 26 (.tmp 6) 0, none⟩,
    ⟨some 8, .load 3 (.tmp 7), none⟩,
    ⟨some 9, .binOp .neq 3 (.tmp 8) (.const (.int .i64 0)) 3, none⟩,
    ⟨some 3, .assign (.tmp 9), none⟩]
def s112 : SCode := (.seq q112_0 (.seq q112_1 .ret))
theorem s112_strip : stripC (bodyOf Try.f112) = s112 := by kernel_rfl
theorem s112_ok : codeOK 10 (bodyOf Try.f112) = true := by kernel_rfl
/-! 115: slices.IndexFunc[[]planchet bets.Bet,planchet bets.Bet] -/
@[reducible] def q115_0 : SCode := .region [⟨some 4, .assign (.const (.int .i64 0)), none⟩]
@[reducible] def q115_1 : SCode := .region [⟨some 6, .move (.tmp 0), none⟩,
    ⟨some 7, .call { callee := .builtin .len, args := #[.tmp 6], argTypes := #[30] }, none⟩,
    ⟨some 8, .move (.const (.int .i64 0)), none⟩]
@[reducible] def q115_2 : SCode := .region [⟨some 9, .binOp .lss 3 (.tmp 8) (.tmp 7) 3, none⟩]
@[reducible] def q115_3 : SCode := .region [⟨some 10, .move (.tmp 8), none⟩,
    ⟨some 5, .assign (.tmp 10), none⟩]
@[reducible] def q115_4 : SCode := .region [⟨some 11, .move (.tmp 1), none⟩,
    ⟨some 12, .move (.tmp 0), none⟩,
    ⟨some 13, .move (.tmp 5), none⟩,
    ⟨some 14, .indexAddr 30 (.tmp 12) (.tmp 13), none⟩,
    ⟨some 15, .load 92 (.tmp 14), none⟩,
    ⟨some 16, .call { callee := .value (.tmp 11), args := #[.tmp 15], argTypes := #[92] }, none⟩]
@[reducible] def q115_5 : SCode := .region [⟨some 17, .move (.tmp 5), none⟩,
    ⟨some 4, .assign (.tmp 17), none⟩]
@[reducible] def q115_6 : SCode := .region [⟨some 18, .binOp .add 3 (.tmp 8) (.const (.int .i64 1)) 3, none⟩,
    ⟨some 8, .move (.tmp 18), none⟩]
def l115_0 : SCode := (.seq q115_2 (.seq (.cond (.tmp 9) .skip (.exit 0)) (.seq (.block 1 (.seq q115_3 (.seq q115_4 (.cond (.tmp 16) (.seq q115_5 .ret) .skip)))) q115_6)))
@[reducible] def q115_7 : SCode := .region [⟨some 4, .assign (.const (.int .i64 (-1))), none⟩]
def s115 : SCode := (.seq q115_0 (.seq (.seq q115_1 (.block 0 (.loop l115_0))) (.seq q115_7 .ret)))
theorem s115_strip : stripC (bodyOf Try.f115) = s115 := by kernel_rfl
theorem s115_ok : codeOK 19 (bodyOf Try.f115) = true := by kernel_rfl
/-! 114: math bits.Mul -/
@[reducible] def q114_0 : SCode := .region [⟨some 4, .assign (.const (.int .u64 0)), none⟩,
    ⟨some 5, .assign (.const (.int .u64 0)), none⟩]
@[reducible] def q114_1 : SCode := .region [⟨some 11, .move (.tmp 0), none⟩,
    ⟨some 12, .convert 67 126 (.tmp 11), none⟩,
    ⟨some 13, .move (.tmp 1), none⟩,
    ⟨some 14, .convert 67 126 (.tmp 13), none⟩,
    ⟨some 15, .call { callee := .value (.func 122), args := #[.tmp 12, .tmp 14], argTypes := #[126, 126] }, none⟩,
    ⟨some 10, .move (.tmp 15), none⟩,
    ⟨some 16, .extract (.tmp 10) 0, none⟩,
    ⟨some 17, .extract (.tmp 10) 1, none⟩,
    ⟨some 6, .assign (.tmp 16), none⟩,
    ⟨some 7, .assign (.tmp 17), none⟩]
@[reducible] def q114_2 : SCode := .region [⟨some 18, .move (.tmp 6), none⟩,
    ⟨some 19, .convert 126 67 (.tmp 18), none⟩,
    ⟨some 20, .move (.tmp 7), none⟩,
    ⟨some 21, .convert 126 67 (.tmp 20), none⟩,
    ⟨some 4, .assign (.tmp 19), none⟩,
    ⟨some 5, .assign (.tmp 21), none⟩]
@[reducible] def q114_3 : SCode := .region [⟨some 23, .move (.tmp 0), none⟩,
    ⟨some 24, .move (.tmp 1), none⟩,
    ⟨some 25, .call { callee := .value (.func 123), args := #[.tmp 23, .tmp 24], argTypes := #[129, 129] }, none⟩,
    ⟨some 22, .move (.tmp 25), none⟩,
    ⟨some 26, .extract (.tmp 22) 0, none⟩,
    ⟨some 27, .extract (.tmp 22) 1, none⟩,
    ⟨some 8, .assign (.tmp 26), none⟩,
    ⟨some 9, .assign (.tmp 27), none⟩]
@[reducible] def q114_4 : SCode := .region [⟨some 28, .move (.tmp 8), none⟩,
    ⟨some 29, .move (.tmp 9), none⟩,
    ⟨some 4, .assign (.tmp 28), none⟩,
    ⟨some 5, .assign (.tmp 29), none⟩]
def s114 : SCode := (.seq q114_0 (.seq (.cond (.const (.bool false)) (.seq q114_1 (.seq q114_2 .ret)) .skip) (.seq q114_3 (.seq q114_4 .ret))))
theorem s114_strip : stripC (bodyOf Try.f114) = s114 := by kernel_rfl
theorem s114_ok : codeOK 30 (bodyOf Try.f114) = true := by kernel_rfl
/-! 123: math bits.Mul64 -/
@[reducible] def q123_0 : SCode := .region [⟨some 4, .assign (.const (.int .u64 0)), none⟩,
    ⟨some 5, .assign (.const (.int .u64 0)), none⟩]
@[reducible] def q123_1 : SCode := .region [⟨some 14, .move (.tmp 0), none⟩,
    ⟨some 15, .binOp .and 129 (.tmp 14) (.const (.int .u64 4294967295)) 129, none⟩,
    ⟨some 6, .assign (.tmp 15), none⟩]
@[reducible] def q123_2 : SCode := .region [⟨some 16, .move (.tmp 0), none⟩,
    ⟨some 17, .binOp .shr 129 (.tmp 16) (.const (.int .u64 32)) 67, none⟩,
    ⟨some 7, .assign (.tmp 17), none⟩]
@[reducible] def q123_3 : SCode := .region [⟨some 18, .move (.tmp 1), none⟩,
    ⟨some 19, .binOp .and 129 (.tmp 18) (.const (.int .u64 4294967295)) 129, none⟩,
    ⟨some 8, .assign (.tmp 19), none⟩]
@[reducible] def q123_4 : SCode := .region [⟨some 20, .move (.tmp 1), none⟩,
    ⟨some 21, .binOp .shr 129 (.tmp 20) (.const (.int .u64 32)) 67, none⟩,
    ⟨some 9, .assign (.tmp 21), none⟩]
@[reducible] def q123_5 : SCode := .region [⟨some 22, .move (.tmp 6), none⟩,
    ⟨some 23, .move (.tmp 8), none⟩,
    ⟨some 24, .binOp .mul 129 (.tmp 22) (.tmp 23) 129, none⟩,
    ⟨some 10, .assign (.tmp 24), none⟩]
@[reducible] def q123_6 : SCode := .region [⟨some 25, .move (.tmp 7), none⟩,
    ⟨some 26, .move (.tmp 8), none⟩,
    ⟨some 27, .binOp .mul 129 (.tmp 25) (.tmp 26) 129, none⟩,
    ⟨some 28, .move (.tmp 10), none⟩,
    ⟨some 29, .binOp .shr 129 (.tmp 28) (.const (.int .u64 32)) 67, none⟩,
    ⟨some 30, .binOp .add 129 (.tmp 27) (.tmp 29) 129, none⟩,
    ⟨some 11, .assign (.tmp 30), none⟩]
@[reducible] def q123_7 : SCode := .region [⟨some 31, .move (.tmp 11), none⟩,
    ⟨some 32, .binOp .and 129 (.tmp 31) (.const (.int .u64 4294967295)) 129, none⟩,
    ⟨some 12, .assign (.tmp 32), none⟩]
@[reducible] def q123_8 : SCode := .region [⟨some 33, .move (.tmp 11), none⟩,
    ⟨some 34, .binOp .shr 129 (.tmp 33) (.const (.int .u64 32)) 67, none⟩,
    ⟨some 13, .assign (.tmp 34), none⟩]
@[reducible] def q123_9 : SCode := .region [⟨some 35, .move (.tmp 12), none⟩,
    ⟨some 36, .move (.tmp 6), none⟩,
    ⟨some 37, .move (.tmp 9), none⟩,
    ⟨some 38, .binOp .mul 129 (.tmp 36) (.tmp 37) 129, none⟩,
    ⟨some 39, .binOp .add 129 (.tmp 35) (.tmp 38) 129, none⟩,
    ⟨some 12, .assign (.tmp 39), none⟩]
@[reducible] def q123_10 : SCode := .region [⟨some 40, .move (.tmp 7), none⟩,
    ⟨some 41, .move (.tmp 9), none⟩,
    ⟨some 42, .binOp .mul 129 (.tmp 40) (.tmp 41) 129, none⟩,
    ⟨some 43, .move (.tmp 13), none⟩,
    ⟨some 44, .binOp .add 129 (.tmp 42) (.tmp 43) 129, none⟩,
    ⟨some 45, .move (.tmp 12), none⟩,
    ⟨some 46, .binOp .shr 129 (.tmp 45) (.const (.int .u64 32)) 67, none⟩,
    ⟨some 47, .binOp .add 129 (.tmp 44) (.tmp 46) 129, none⟩,
    ⟨some 4, .assign (.tmp 47), none⟩]
@[reducible] def q123_11 : SCode := .region [⟨some 48, .move (.tmp 0), none⟩,
    ⟨some 49, .move (.tmp 1), none⟩,
    ⟨some 50, .binOp .mul 129 (.tmp 48) (.tmp 49) 129, none⟩,
    ⟨some 5, .assign (.tmp 50), none⟩]
def s123 : SCode := (.seq q123_0 (.seq q123_1 (.seq q123_2 (.seq q123_3 (.seq q123_4 (.seq q123_5 (.seq q123_6 (.seq q123_7 (.seq q123_8 (.seq q123_9 (.seq q123_10 (.seq q123_11 .ret))))))))))))
theorem s123_strip : stripC (bodyOf Try.f123) = s123 := by kernel_rfl
theorem s123_ok : codeOK 51 (bodyOf Try.f123) = true := by kernel_rfl
end Go.Proofs.Try.Am

namespace Go.Proofs.Try.Am
open Go.Am Bq
set_option maxRecDepth 100000
set_option maxHeartbeats 1000000

/-- A row's fractions. -/
def rowC (T : SysT) (k i : Nat) : List (Int × Int) := (List.range (k + 1)).map fun c => ofQ (T i c)
theorem rowC_len (T : SysT) (k i : Nat) : (rowC T k i).length = k + 1 := by simp [rowC]
theorem rowC_get (T : SysT) {k i c : Nat} (hc : c ≤ k) : (rowC T k i).getD c (0, 0) = ofQ (T i c) := by
  simp [rowC, List.getD, show c < k + 1 by omega]
def upd (T : SysT) (i c : Nat) (x : Rat) : SysT := fun a d => if a = i ∧ d = c then x else T a d
theorem rowC_upd (T : SysT) {k i c : Nat} (hc : c ≤ k) (x : Rat) : (rowC T k i).set c (ofQ x) = rowC (upd T i c x) k i := by
  apply List.ext_getElem?
  intro d
  rw [List.getElem?_set, rowC_len]
  by_cases h : c = d
  · subst h
    rw [if_pos rfl, if_pos (by omega)]
    simp [rowC, show c < k + 1 by omega, upd]
  · rw [if_neg h]
    simp only [rowC, List.getElem?_map]
    by_cases hd : d < k + 1
    · simp [hd, upd, Ne.symm h]
    · rw [List.getElem?_eq_none (by simp; omega)]; rfl
theorem rowC_congr {T T' : SysT} {k i : Nat} (h : ∀ c, c ≤ k → T i c = T' i c) : rowC T k i = rowC T' k i :=
  List.map_congr_left fun c hc => by rw [h c (by have := List.mem_range.1 hc; omega)]
theorem rowC_other (T : SysT) {k i i' c : Nat} (hi : i' ≠ i) (x : Rat) : rowC (upd T i c x) k i' = rowC T k i' := rowC_congr fun d _ => by simp [upd, hi]

/-- Equations: the slice's block, the rows' blocks. -/
structure Mat (h : Heap) (B m k : Nat) (w : Nat → Value) (bk : Nat → Nat) (T : SysT) : Prop where
  outer : ∃ us, h[B]? = some (.cells ((List.range m).map w ++ us) 47 false)
  row : ∀ i, i < m → ∃ c xs, w i = .slice (some ⟨bk i, 0, some 0⟩) (k + 1) c ∧ k + 1 ≤ c ∧ h[bk i]? = some (.ints (flatP (rowC T k i) ++ xs) 26 false)
  inj : ∀ i j, i < m → j < m → bk i = bk j → i = j
  sep : ∀ i, i < m → bk i ≠ B
section
variable {h h' : Heap} {B m k C : Nat} {w : Nat → Value} {bk : Nat → Nat} {T T' : SysT}
theorem Mat.lt (M : Mat h B m k w bk T) {i : Nat} (hi : i < m) : bk i < h.length := by
  obtain ⟨c, xs, _, _, h3⟩ := M.row i hi; exact get_lt h3
theorem Mat.blt (M : Mat h B m k w bk T) : B < h.length := by
  obtain ⟨us, h1⟩ := M.outer; exact get_lt h1
theorem Mat.ext (M : Mat h B m k w bk T) (hE : Ext (fun _ => False) h h') : Mat h' B m k w bk T where
  outer := by
    obtain ⟨us, h1⟩ := M.outer
    exact ⟨us, (hE.2 _ (get_lt h1) id).trans h1⟩
  row i hi := by
    obtain ⟨c, xs, h1, h2, h3⟩ := M.row i hi
    exact ⟨c, xs, h1, h2, (hE.2 _ (get_lt h3) id).trans h3⟩
  inj := M.inj
  sep := M.sep
theorem Mat.congr (M : Mat h B m k w bk T) (hT : ∀ i c, i < m → c ≤ k → T i c = T' i c) : Mat h B m k w bk T' where
  outer := M.outer
  row i hi := by
    obtain ⟨c, xs, h1, h2, h3⟩ := M.row i hi
    exact ⟨c, xs, h1, h2, by rw [← rowC_congr fun c hc => hT i c hi hc]; exact h3⟩
  inj := M.inj
  sep := M.sep
theorem Mat.idx (i : Nat) (hi : i < m) {K : Value → Prop} : idxAddrK prog 103 (.slice (some ⟨B, 0, some 0⟩) m C) (vint (i : Nat)) K = K (.pointer (some ⟨B, i, none⟩)) := by
  simp only [idxAddrK, el_103, esz_47, Int.natCast_nonneg, Int.toNat_natCast, Nat.mul_one, Nat.zero_add, true_and, Int.ofNat_lt.2 hi]
theorem Mat.loadRow (M : Mat h B m k w bk T) {i : Nat} (hi : i < m) {K : Value → Prop} : loadK prog h 47 (.pointer (some ⟨B, i, none⟩)) K = K (w i) := by
  obtain ⟨us, h1⟩ := M.outer
  refine loadC h1 shp_47 ?_
  rw [List.getElem?_append_left (by simpa using hi)]
  simp [hi]
theorem Mat.lenR (M : Mat h B m k w bk T) {i : Nat} (hi : i < m) {K : Value → Prop} : lenK (w i) K = K (vint ((k + 1 : Nat) : Int)) := by
  obtain ⟨c, xs, h1, h2, h3⟩ := M.row i hi
  rw [h1]; rfl
theorem Mat.idxR (M : Mat h B m k w bk T) {i c : Nat} (hi : i < m) (hc : c ≤ k) {K : Value → Prop} : idxAddrK prog 47 (w i) (vint (c : Nat)) K = K (.pointer (some ⟨bk i, c * 2, none⟩)) := by
  obtain ⟨cc, xs, h1, h2, h3⟩ := M.row i hi
  rw [h1]
  simp only [idxAddrK, el_47, esz_26, Int.natCast_nonneg, Int.toNat_natCast, Nat.zero_add, true_and, show ((c : Nat) : Int) < ((k + 1 : Nat) : Int) by omega]
theorem flat_two (ps : List (Int × Int)) (ys : List Int) {i : Nat} (hi : i < ps.length) : ((flatP ps ++ ys).drop (i * 2)).take 2 = [(ps.getD i (0, 0)).1, (ps.getD i (0, 0)).2] ∧ i * 2 + 2 ≤ (flatP ps ++ ys).length ∧ (flatP ps ++ ys).getD (i * 2) 0 = (ps.getD i (0, 0)).1 := by
  obtain ⟨h1, h2⟩ := flatP_get ps i hi
  have hl := flatP_len ps
  have g1 : (flatP ps ++ ys)[i * 2]? = some (ps.getD i (0, 0)).1 := by rw [List.getElem?_append_left (by omega)]; exact h1
  have g2 : (flatP ps ++ ys)[i * 2 + 1]? = some (ps.getD i (0, 0)).2 := by rw [List.getElem?_append_left (by omega)]; exact h2
  refine ⟨?_, by rw [List.length_append]; omega, by rw [List.getD, g1]; rfl⟩
  obtain ⟨l1, e1⟩ := List.getElem?_eq_some_iff.1 g1
  obtain ⟨l2, e2⟩ := List.getElem?_eq_some_iff.1 g2
  rw [List.drop_eq_getElem_cons l1, List.take_succ_cons, List.drop_eq_getElem_cons l2, List.take_succ_cons, List.take_zero, e1, e2]
theorem Mat.loadE (M : Mat h B m k w bk T) {i c : Nat} (hi : i < m) (hc : c ≤ k) {K : Value → Prop} : loadK prog h 26 (.pointer (some ⟨bk i, c * 2, none⟩)) K = K (qV (T i c)) := by
  obtain ⟨cc, xs, h1, h2, h3⟩ := M.row i hi
  obtain ⟨f1, f2, f3⟩ := flat_two (rowC T k i) xs (show c < (rowC T k i).length by rw [rowC_len]; omega)
  rw [rowC_get T hc] at f1
  simp only [loadK, shp_26, cellsK, h3, f1, f2, true_and]
  rfl
theorem Mat.loadN (M : Mat h B m k w bk T) {i c : Nat} (hi : i < m) (hc : c ≤ k) {K : Value → Prop} : loadK prog h 3 (.pointer (some ⟨bk i, c * 2, none⟩)) K = K (vint (T i c).num) := by
  obtain ⟨cc, xs, h1, h2, h3⟩ := M.row i hi
  obtain ⟨f1, f2, f3⟩ := flat_two (rowC T k i) xs (show c < (rowC T k i).length by rw [rowC_len]; omega)
  rw [rowC_get T hc] at f3
  simp only [loadK, shp_3, cellK, h3, f3, show c * 2 < (flatP (rowC T k i) ++ xs).length by omega, true_and]
  rfl
theorem fA0o {b o : Nat} {K : Value → Prop} : fieldAddrK prog 26 (.pointer (some ⟨b, o, none⟩)) 0 K = K (.pointer (some ⟨b, o, none⟩)) := by
  simp [fieldAddrK, fld_26_0, esz_3]
/-- A number is written. -/
theorem Mat.storeE (M : Mat h B m k w bk T) {i c : Nat} (hi : i < m) (hc : c ≤ k) (x : Rat) : ∃ h', (∀ K : Heap → Prop, storeK prog h 26 (.pointer (some ⟨bk i, c * 2, none⟩)) (qV x) K = K h') ∧ Mat h' B m k w bk (upd T i c x) ∧ Ext (fun b => b = bk i) h h' ∧ ∀ b, b ≠ bk i → h'[b]? = h[b]? := by
  obtain ⟨cc, xs, h1, h2, h3⟩ := M.row i hi
  refine ⟨h.set (bk i) (.ints (flatP (rowC (upd T i c x) k i) ++ xs) 26 false), fun K => ?_, ⟨?_, ?_, M.inj, M.sep⟩, Ext.set _ rfl, fun b hb => List.getElem?_set_ne (Ne.symm hb)⟩
  · rw [← rowC_upd T hc x]
    exact storePI h3 shp_26 (by rw [rowC_len]; omega)
  · obtain ⟨us, g1⟩ := M.outer
    exact ⟨us, by rw [List.getElem?_set_ne (M.sep i hi)]; exact g1⟩
  · intro j hj
    by_cases hji : j = i
    · subst hji
      exact ⟨cc, xs, h1, h2, get_set (M.lt hj) _⟩
    · obtain ⟨c2, xs2, g1, g2, g3⟩ := M.row j hj
      refine ⟨c2, xs2, g1, g2, ?_⟩
      rw [List.getElem?_set_ne (fun he => hji (M.inj _ _ hj hi he.symm)), rowC_other T hji]
      exact g3
def swp {α : Type} (a p : Nat) (w : Nat → α) : Nat → α := fun i => if i = a then w p else if i = p then w a else w i
theorem set_range {α : Type} (w : Nat → α) {m i : Nat} (us : List α) (x : α) (hi : i < m) : ((List.range m).map w ++ us).set i x = (List.range m).map (fun j => if j = i then x else w j) ++ us := by
  rw [List.set_append_left _ _ (by simpa using hi)]
  congr 1
  apply List.ext_getElem?
  intro j
  rw [List.getElem?_set, List.length_map, List.length_range]
  by_cases h : i = j
  · subst h; simp [hi]
  · rw [if_neg h, List.getElem?_map, List.getElem?_map]
    by_cases hj : j < m
    · simp [hj, Ne.symm h]
    · rw [List.getElem?_eq_none (by simp; omega)]; rfl
/-- Two rows change places. -/
theorem Mat.swap (M : Mat h B m k w bk T) {a p : Nat} (ha : a < m) (hp : p < m) : ∃ h1 h2, (∀ K : Heap → Prop, storeK prog h 47 (.pointer (some ⟨B, a, none⟩)) (w p) K = K h1) ∧ (∀ K : Heap → Prop, storeK prog h1 47 (.pointer (some ⟨B, p, none⟩)) (w a) K = K h2) ∧
    Mat h2 B m k (swp a p w) (swp a p bk) (swapT a p T) ∧ Ext (fun b => b = B) h h2 ∧ ∀ b, b ≠ B → h2[b]? = h[b]? := by
  obtain ⟨us, g1⟩ := M.outer
  have one_w : ∀ i, i < m → one (w i) = true := fun i hi => by
    obtain ⟨c, xs, e1, _⟩ := M.row i hi
    rw [e1]; rfl
  have hl : ∀ i, i < m → i < ((List.range m).map w ++ us).length := fun i hi => by simp; omega
  have s1 : ∀ K : Heap → Prop, storeK prog h 47 (.pointer (some ⟨B, a, none⟩)) (w p) K = K (h.set B (.cells ((List.range m).map (fun j => if j = a then w p else w j) ++ us) 47 false)) := fun K => by
    rw [storeC g1 shp_47 (one_w p hp) (hl a ha), set_range w us _ ha]
  have g2 : (h.set B (.cells ((List.range m).map (fun j => if j = a then w p else w j) ++ us) 47 false))[B]? = some (.cells ((List.range m).map (fun j => if j = a then w p else w j) ++ us) 47 false) := get_set M.blt _
  have s2 : ∀ K : Heap → Prop, storeK prog (h.set B (.cells ((List.range m).map (fun j => if j = a then w p else w j) ++ us) 47 false)) 47 (.pointer (some ⟨B, p, none⟩)) (w a) K =
      K (h.set B (.cells ((List.range m).map (swp a p w) ++ us) 47 false)) := fun K => by
    rw [storeC g2 shp_47 (one_w a ha) (by simp; omega), set_range _ us _ hp, List.set_set]
    have : (fun j => if j = p then w a else if j = a then w p else w j) = swp a p w := by
      funext j
      simp only [swp]
      by_cases h1 : j = p
      · subst h1
        by_cases h2 : j = a
        · subst h2; simp
        · simp [h2]
      · simp [h1]
    rw [this]
  have hcase : ∀ i, i < m → ∃ i', i' < m ∧ swp a p w i = w i' ∧ swp a p bk i = bk i' ∧ swapT a p T i = T i' ∧ i' = swp a p id i := fun i hi => by
    by_cases h1 : i = a
    · exact ⟨p, hp, by simp [swp, h1], by simp [swp, h1], by simp [swapT, h1], by simp [swp, h1]⟩
    · by_cases h2 : i = p
      · subst h2; exact ⟨a, ha, by simp [swp, h1], by simp [swp, h1], by simp [swapT, h1], by simp [swp, h1]⟩
      · exact ⟨i, hi, by simp [swp, h1, h2], by simp [swp, h1, h2], by simp [swapT, h1, h2], by simp [swp, h1, h2]⟩
  refine ⟨_, _, s1, s2, ⟨⟨us, get_set M.blt _⟩, fun i hi => ?_, fun i j hi hj he => ?_, fun i hi => ?_⟩, Ext.set _ rfl, fun b hb => List.getElem?_set_ne (Ne.symm hb)⟩
  · obtain ⟨i', q1, q2, q3, q4, _⟩ := hcase i hi
    obtain ⟨c, xs, e1, e2, e3⟩ := M.row i' q1
    refine ⟨c, xs, by rw [q2, q3]; exact e1, e2, ?_⟩
    rw [q3, List.getElem?_set_ne (fun he => M.sep i' q1 he.symm), show rowC (swapT a p T) k i = rowC T k i' by simp only [rowC, q4]]
    exact e3
  · obtain ⟨i', q1, _, q3, _, q5⟩ := hcase i hi
    obtain ⟨j', r1, _, r3, _, r5⟩ := hcase j hj
    rw [q3, r3] at he
    have := M.inj _ _ q1 r1 he
    rw [q5, r5] at this
    simp only [swp, id] at this
    grind
  · obtain ⟨i', q1, _, q3, _⟩ := hcase i hi
    rw [q3]; exact M.sep i' q1
/-- The rows from one on. -/
theorem Mat.tail (M : Mat h B m k w bk T) {a : Nat} (ha : a < m) (hC : m ≤ C) {K : Value → Prop} (hk : ∀ v, ValSl h v ((List.range (m - a)).map fun i => w (a + i)) → K v) : sliceK prog 103 (.slice (some ⟨B, 0, some 0⟩) m C) (some (vint (a : Nat))) none none K := by
  obtain ⟨us, g1⟩ := M.outer
  have hv : view h B = some ((List.range m).map w ++ us, 47, false) := by simp [view, g1, Blk.view]
  have e1 : (((List.range m).map w ++ us).drop a).take (m - a) = (List.range (m - a)).map fun i => w (a + i) := by
    apply List.ext_getElem?
    intro i
    rw [List.getElem?_take]
    by_cases hi : i < m - a
    · rw [if_pos hi, List.getElem?_drop, List.getElem?_append_left (by simp; omega)]
      simp [hi, show a + i < m by omega]
    · rw [if_neg hi, List.getElem?_eq_none (by simp; omega)]
  have key : ∀ v, v = .slice (some ⟨B, a, some 0⟩) (m - a) (C - a) → K v := fun v hv' => hk v (.inr ⟨B, a, some 0, C - a, _, _, _, by rw [hv']; simp, by simp; omega, hv, by simp only [List.length_map, List.length_range]; exact e1⟩)
  simp only [sliceK, el_103, esz_47, bnd, Option.bind_some, Option.isSome_some]
  refine ⟨by omega, by omega, by omega, fun h0 => by simp at h0, fun _ => ?_⟩
  rcases Nat.eq_zero_or_pos a with h0 | h0
  · subst h0
    exact .inl ⟨rfl, key _ (by simp)⟩
  · refine .inr ⟨by omega, .inl ⟨by omega, by decide, key _ ?_⟩⟩
    have e2 : ((m : Int) - (a : Int)).toNat = m - a := by omega
    have e3 : C - ((a : Int)).toNat = C - a := by omega
    simp [e2]
end

/-- The first one, as a number; less than 0: there is none. -/
def fstI (n : Nat) (F : Nat → Bool) : Int := match (List.range n).find? F with | some i => (i : Int) | none => -1

theorem s111_callW [Tabs Try.prog] {args : List Value} {h : Heap} {Q : Value → Heap → Prop} (hsz : args.length ≤ 19) (hk : AWS Try.prog 19 s111 (aPost Try.prog [.tmp 4] Q) (argEnv 0 args) h) : ACall Try.prog 111 args h Q :=
  acall_w Try.func111 rfl (enters_of Try.func111 (by kernel_rfl) rfl) rfl rfl (by decide) s111_strip s111_ok hsz hk
theorem idxRow_call [Tabs prog] {h : Heap} {v : Value} {ws : List Value} {g : FuncId} {cap : Array Value} {F : Nat → Bool} (hv : ValSl h v ws) (hl : ws.length < 9223372036854775808)
    (hc : ∀ i, i < ws.length → APure prog g ([ws.getD i undef] ++ cap.toList) h (.bool (F i))) : APure prog 111 [v, .func (.func g) #[] cap] h (vint (fstI ws.length F)) := by
  refine s111_callW (by simp) ?_
  simp only [s111]
  refine aws_cut fun N1 hN1 => ?_
  simp (maxSteps := 2000000) only [s111, ↓aw_region, ↓aw_skip, ↓aw_seq, ↓aw_block, ↓aw_exit, ↓aw_ret, ↓sops_nil, ↓sops_go, ↓dops_nil, ↓dopsX_nil, ↓dopsR_nil, ↓vdn, vup, extr_20, extr_21, extr_30, extr_31, extr_32, List.map_cons, List.map_nil, cond_true, cond_false, aop, aThen, aBlock, argEnv, ev, sput, sputO, binK, binI, unK, builtinK, pickK, Nat.reduceBEq, Nat.reduceAdd, Int.reduceBEq, Int.reduceBNe, Int.reduceLT, aPost, resK, tup, tyf]
  refine hN1 [(0, v), (1, .func (.func g) #[] cap), (4, .int .i64 0)] _ _ ?_ (by simp (maxSteps := 2000000) only [↓aw_region, ↓aw_skip, ↓aw_seq, ↓aw_block, ↓aw_exit, ↓aw_ret, ↓sops_nil, ↓sops_go, ↓dops_nil, ↓dopsX_nil, ↓dopsR_nil, ↓vdn, vup, extr_20, extr_21, extr_30, extr_31, extr_32, List.map_cons, List.map_nil, cond_true, cond_false, aop, aThen, aBlock, argEnv, ev, sput, sputO, binK, binI, unK, builtinK, pickK, Nat.reduceBEq, Nat.reduceAdd, Int.reduceBEq, Int.reduceBNe, Int.reduceLT, aPost, resK, tup, tyf])
  clear hN1
  try clear N1
  refine aws_cutW fun Z hZ => ?_
  refine aws_cut fun N2 hN2 => ?_
  simp (maxSteps := 2000000) only [s111, ↓aw_region, ↓aw_skip, ↓aw_seq, ↓aw_block, ↓aw_exit, ↓aw_ret, ↓sops_nil, ↓sops_go, ↓dops_nil, ↓dopsX_nil, ↓dopsR_nil, ↓vdn, vup, extr_20, extr_21, extr_30, extr_31, extr_32, List.map_cons, List.map_nil, cond_true, cond_false, aop, aThen, aBlock, argEnv, ev, sput, sputO, binK, binI, unK, builtinK, pickK, Nat.reduceBEq, Nat.reduceAdd, Int.reduceBEq, Int.reduceBNe, Int.reduceLT, aPost, resK, tup, tyf, hv.len]
  refine hN2 [(0, v), (1, .func (.func g) #[] cap), (4, .int .i64 0), (6, v), (7, vint ws.length), (8, .int .i64 0)] _ _ ?_ (by simp (maxSteps := 2000000) only [↓aw_region, ↓aw_skip, ↓aw_seq, ↓aw_block, ↓aw_exit, ↓aw_ret, ↓sops_nil, ↓sops_go, ↓dops_nil, ↓dopsX_nil, ↓dopsR_nil, ↓vdn, vup, extr_20, extr_21, extr_30, extr_31, extr_32, List.map_cons, List.map_nil, cond_true, cond_false, aop, aThen, aBlock, argEnv, ev, sput, sputO, binK, binI, unK, builtinK, pickK, Nat.reduceBEq, Nat.reduceAdd, Int.reduceBEq, Int.reduceBNe, Int.reduceLT, aPost, resK, tup, tyf])
  clear hN2
  try clear N2
  refine aws_block ?_
  refine aws_hide fun Q hQ => ?_
  refine aw_loopW (γ := Nat) (fun k => k ≤ ws.length ∧ ∀ i, i < k → F i = false)
    (fun k => ([(0, v), (1, .func (.func g) #[] cap), (4, .int .i64 0), (6, v), (7, vint ws.length), (8, vint (k : Nat))], h)) (fun k => ws.length - k) 0 ⟨Nat.zero_le _, fun i hi => by omega⟩ (by simp (maxSteps := 2000000) only [↓aw_region, ↓aw_skip, ↓aw_seq, ↓aw_block, ↓aw_exit, ↓aw_ret, ↓sops_nil, ↓sops_go, ↓dops_nil, ↓dopsX_nil, ↓dopsR_nil, ↓vdn, vup, extr_20, extr_21, extr_30, extr_31, extr_32, List.map_cons, List.map_nil, cond_true, cond_false, aop, aThen, aBlock, argEnv, ev, sput, sputO, binK, binI, unK, builtinK, pickK, Nat.reduceBEq, Nat.reduceAdd, Int.reduceBEq, Int.reduceBNe, Int.reduceLT, aPost, resK, tup, tyf, Int.natCast_zero]) rfl ?_
  rintro k ⟨hk, hall⟩
  refine aws_hide fun Q2 hQ2 => ?_
  simp only [l111_0]
  by_cases hin : (k : Int) < ws.length
  · have hk' : k < ws.length := by omega
    refine aws_cut fun N3 hN3 => ?_
    simp (maxSteps := 2000000) only [s111, ↓aw_region, ↓aw_skip, ↓aw_seq, ↓aw_block, ↓aw_exit, ↓aw_ret, ↓sops_nil, ↓sops_go, ↓dops_nil, ↓dopsX_nil, ↓dopsR_nil, ↓vdn, vup, extr_20, extr_21, extr_30, extr_31, extr_32, List.map_cons, List.map_nil, cond_true, cond_false, aop, aThen, aBlock, argEnv, ev, sput, sputO, binK, binI, unK, builtinK, pickK, Nat.reduceBEq, Nat.reduceAdd, Int.reduceBEq, Int.reduceBNe, Int.reduceLT, aPost, resK, tup, tyf, hin]
    refine hN3 [(0, v), (1, .func (.func g) #[] cap), (4, .int .i64 0), (6, v), (7, vint ws.length), (8, vint (k : Nat)), (9, .bool true)] _ _ ?_ (by simp (maxSteps := 2000000) only [↓aw_region, ↓aw_skip, ↓aw_seq, ↓aw_block, ↓aw_exit, ↓aw_ret, ↓sops_nil, ↓sops_go, ↓dops_nil, ↓dopsX_nil, ↓dopsR_nil, ↓vdn, vup, extr_20, extr_21, extr_30, extr_31, extr_32, List.map_cons, List.map_nil, cond_true, cond_false, aop, aThen, aBlock, argEnv, ev, sput, sputO, binK, binI, unK, builtinK, pickK, Nat.reduceBEq, Nat.reduceAdd, Int.reduceBEq, Int.reduceBNe, Int.reduceLT, aPost, resK, tup, tyf])
    clear hN3
    try clear N3
    refine aws_cut fun N4 hN4 => ?_
    simp (maxSteps := 2000000) only [s111, ↓aw_region, ↓aw_skip, ↓aw_seq, ↓aw_block, ↓aw_exit, ↓aw_ret, ↓sops_nil, ↓sops_go, ↓dops_nil, ↓dopsX_nil, ↓dopsR_nil, ↓vdn, vup, extr_20, extr_21, extr_30, extr_31, extr_32, List.map_cons, List.map_nil, cond_true, cond_false, aop, aThen, aBlock, argEnv, ev, sput, sputO, binK, binI, unK, builtinK, pickK, Nat.reduceBEq, Nat.reduceAdd, Int.reduceBEq, Int.reduceBNe, Int.reduceLT, aPost, resK, tup, tyf]
    refine hN4 [(0, v), (1, .func (.func g) #[] cap), (4, .int .i64 0), (6, v), (7, vint ws.length), (8, vint (k : Nat))] _ _ ?_ (by simp (maxSteps := 2000000) only [↓aw_region, ↓aw_skip, ↓aw_seq, ↓aw_block, ↓aw_exit, ↓aw_ret, ↓sops_nil, ↓sops_go, ↓dops_nil, ↓dopsX_nil, ↓dopsR_nil, ↓vdn, vup, extr_20, extr_21, extr_30, extr_31, extr_32, List.map_cons, List.map_nil, cond_true, cond_false, aop, aThen, aBlock, argEnv, ev, sput, sputO, binK, binI, unK, builtinK, pickK, Nat.reduceBEq, Nat.reduceAdd, Int.reduceBEq, Int.reduceBNe, Int.reduceLT, aPost, resK, tup, tyf])
    clear hN4
    try clear N4
    refine aws_cutW fun B hB => ?_
    refine aws_block ?_
    refine aws_cut fun N5 hN5 => ?_
    simp (maxSteps := 2000000) only [s111, ↓aw_region, ↓aw_skip, ↓aw_seq, ↓aw_block, ↓aw_exit, ↓aw_ret, ↓sops_nil, ↓sops_go, ↓dops_nil, ↓dopsX_nil, ↓dopsR_nil, ↓vdn, vup, extr_20, extr_21, extr_30, extr_31, extr_32, List.map_cons, List.map_nil, cond_true, cond_false, aop, aThen, aBlock, argEnv, ev, sput, sputO, binK, binI, unK, builtinK, pickK, Nat.reduceBEq, Nat.reduceAdd, Int.reduceBEq, Int.reduceBNe, Int.reduceLT, aPost, resK, tup, tyf]
    refine hN5 [(0, v), (1, .func (.func g) #[] cap), (4, .int .i64 0), (5, vint (k : Nat)), (6, v), (7, vint ws.length), (8, vint (k : Nat))] _ _ ?_ (by simp (maxSteps := 2000000) only [↓aw_region, ↓aw_skip, ↓aw_seq, ↓aw_block, ↓aw_exit, ↓aw_ret, ↓sops_nil, ↓sops_go, ↓dops_nil, ↓dopsX_nil, ↓dopsR_nil, ↓vdn, vup, extr_20, extr_21, extr_30, extr_31, extr_32, List.map_cons, List.map_nil, cond_true, cond_false, aop, aThen, aBlock, argEnv, ev, sput, sputO, binK, binI, unK, builtinK, pickK, Nat.reduceBEq, Nat.reduceAdd, Int.reduceBEq, Int.reduceBNe, Int.reduceLT, aPost, resK, tup, tyf])
    clear hN5
    try clear N5
    refine aws_cut fun N6 hN6 => ?_
    simp (maxSteps := 2000000) only [s111, ↓aw_region, ↓aw_skip, ↓aw_seq, ↓aw_block, ↓aw_exit, ↓aw_ret, ↓sops_nil, ↓sops_go, ↓dops_nil, ↓dopsX_nil, ↓dopsR_nil, ↓vdn, vup, extr_20, extr_21, extr_30, extr_31, extr_32, List.map_cons, List.map_nil, cond_true, cond_false, aop, aThen, aBlock, argEnv, ev, sput, sputO, binK, binI, unK, builtinK, pickK, Nat.reduceBEq, Nat.reduceAdd, Int.reduceBEq, Int.reduceBNe, Int.reduceLT, aPost, resK, tup, tyf, hv.idx el_103 esz_47 hk', hv.load shp_47 hk', callK, List.nil_append, List.append_nil]
    refine (hc k hk').mono ?_
    rintro _ h ⟨rfl, rfl⟩
    refine hN6 [(0, v), (1, .func (.func g) #[] cap), (4, .int .i64 0), (5, vint (k : Nat)), (6, v), (7, vint ws.length), (8, vint (k : Nat)), (16, .bool (F k))] _ _ ?_ (by simp (maxSteps := 2000000) only [↓aw_region, ↓aw_skip, ↓aw_seq, ↓aw_block, ↓aw_exit, ↓aw_ret, ↓sops_nil, ↓sops_go, ↓dops_nil, ↓dopsX_nil, ↓dopsR_nil, ↓vdn, vup, extr_20, extr_21, extr_30, extr_31, extr_32, List.map_cons, List.map_nil, cond_true, cond_false, aop, aThen, aBlock, argEnv, ev, sput, sputO, binK, binI, unK, builtinK, pickK, Nat.reduceBEq, Nat.reduceAdd, Int.reduceBEq, Int.reduceBNe, Int.reduceLT, aPost, resK, tup, tyf])
    clear hN6
    try clear N6
    refine aw_aws ?_
    cases hf : F k with
    | true =>
      simp (maxSteps := 2000000) only [s111, ↓aw_region, ↓aw_skip, ↓aw_seq, ↓aw_block, ↓aw_exit, ↓aw_ret, ↓sops_nil, ↓sops_go, ↓dops_nil, ↓dopsX_nil, ↓dopsR_nil, ↓vdn, vup, extr_20, extr_21, extr_30, extr_31, extr_32, List.map_cons, List.map_nil, cond_true, cond_false, aop, aThen, aBlock, argEnv, ev, sput, sputO, binK, binI, unK, builtinK, pickK, Nat.reduceBEq, Nat.reduceAdd, Int.reduceBEq, Int.reduceBNe, Int.reduceLT, aPost, resK, tup, tyf]
      refine hQ2 _ _ _ (hQ _ _ _ ?_)
      have e : fstI ws.length F = (k : Int) := by rw [fstI, find_spec hk' hf hall]
      simp (maxSteps := 2000000) only [s111, ↓aw_region, ↓aw_skip, ↓aw_seq, ↓aw_block, ↓aw_exit, ↓aw_ret, ↓sops_nil, ↓sops_go, ↓dops_nil, ↓dopsX_nil, ↓dopsR_nil, ↓vdn, vup, extr_20, extr_21, extr_30, extr_31, extr_32, List.map_cons, List.map_nil, cond_true, cond_false, aop, aThen, aBlock, argEnv, ev, sput, sputO, binK, binI, unK, builtinK, pickK, Nat.reduceBEq, Nat.reduceAdd, Int.reduceBEq, Int.reduceBNe, Int.reduceLT, aPost, resK, tup, tyf, e]
    | false =>
      simp (maxSteps := 2000000) only [s111, ↓aw_region, ↓aw_skip, ↓aw_seq, ↓aw_block, ↓aw_exit, ↓aw_ret, ↓sops_nil, ↓sops_go, ↓dops_nil, ↓dopsX_nil, ↓dopsR_nil, ↓vdn, vup, extr_20, extr_21, extr_30, extr_31, extr_32, List.map_cons, List.map_nil, cond_true, cond_false, aop, aThen, aBlock, argEnv, ev, sput, sputO, binK, binI, unK, builtinK, pickK, Nat.reduceBEq, Nat.reduceAdd, Int.reduceBEq, Int.reduceBNe, Int.reduceLT, aPost, resK, tup, tyf]
      refine hB [(0, v), (1, .func (.func g) #[] cap), (4, .int .i64 0), (6, v), (7, vint ws.length), (8, vint (k : Nat))] _ _ ?_ (by simp (maxSteps := 2000000) only [↓aw_region, ↓aw_skip, ↓aw_seq, ↓aw_block, ↓aw_exit, ↓aw_ret, ↓sops_nil, ↓sops_go, ↓dops_nil, ↓dopsX_nil, ↓dopsR_nil, ↓vdn, vup, extr_20, extr_21, extr_30, extr_31, extr_32, List.map_cons, List.map_nil, cond_true, cond_false, aop, aThen, aBlock, argEnv, ev, sput, sputO, binK, binI, unK, builtinK, pickK, Nat.reduceBEq, Nat.reduceAdd, Int.reduceBEq, Int.reduceBNe, Int.reduceLT, aPost, resK, tup, tyf])
      clear hB
      try clear B
      refine aw_aws ?_
      simp (maxSteps := 2000000) only [s111, ↓aw_region, ↓aw_skip, ↓aw_seq, ↓aw_block, ↓aw_exit, ↓aw_ret, ↓sops_nil, ↓sops_go, ↓dops_nil, ↓dopsX_nil, ↓dopsR_nil, ↓vdn, vup, extr_20, extr_21, extr_30, extr_31, extr_32, List.map_cons, List.map_nil, cond_true, cond_false, aop, aThen, aBlock, argEnv, ev, sput, sputO, binK, binI, unK, builtinK, pickK, Nat.reduceBEq, Nat.reduceAdd, Int.reduceBEq, Int.reduceBNe, Int.reduceLT, aPost, resK, tup, tyf, add1 (show k < 9223372036854775807 by omega)]
      refine hQ2 _ _ _ ⟨k + 1, ⟨hk', fun i hi => ?_⟩, by omega, by simp (maxSteps := 2000000) only [↓aw_region, ↓aw_skip, ↓aw_seq, ↓aw_block, ↓aw_exit, ↓aw_ret, ↓sops_nil, ↓sops_go, ↓dops_nil, ↓dopsX_nil, ↓dopsR_nil, ↓vdn, vup, extr_20, extr_21, extr_30, extr_31, extr_32, List.map_cons, List.map_nil, cond_true, cond_false, aop, aThen, aBlock, argEnv, ev, sput, sputO, binK, binI, unK, builtinK, pickK, Nat.reduceBEq, Nat.reduceAdd, Int.reduceBEq, Int.reduceBNe, Int.reduceLT, aPost, resK, tup, tyf], rfl⟩
      rcases Nat.lt_or_ge i k with h1 | h1
      · exact hall i h1
      · rw [show i = k by omega]; exact hf
  · obtain rfl : k = ws.length := by omega
    refine aws_cut fun N7 hN7 => ?_
    simp (maxSteps := 2000000) only [s111, ↓aw_region, ↓aw_skip, ↓aw_seq, ↓aw_block, ↓aw_exit, ↓aw_ret, ↓sops_nil, ↓sops_go, ↓dops_nil, ↓dopsX_nil, ↓dopsR_nil, ↓vdn, vup, extr_20, extr_21, extr_30, extr_31, extr_32, List.map_cons, List.map_nil, cond_true, cond_false, aop, aThen, aBlock, argEnv, ev, sput, sputO, binK, binI, unK, builtinK, pickK, Nat.reduceBEq, Nat.reduceAdd, Int.reduceBEq, Int.reduceBNe, Int.reduceLT, aPost, resK, tup, tyf, hin]
    refine hN7 [(0, v), (1, .func (.func g) #[] cap), (4, .int .i64 0), (6, v), (7, vint ws.length), (8, vint ws.length), (9, .bool false)] _ _ ?_ (by simp (maxSteps := 2000000) only [↓aw_region, ↓aw_skip, ↓aw_seq, ↓aw_block, ↓aw_exit, ↓aw_ret, ↓sops_nil, ↓sops_go, ↓dops_nil, ↓dopsX_nil, ↓dopsR_nil, ↓vdn, vup, extr_20, extr_21, extr_30, extr_31, extr_32, List.map_cons, List.map_nil, cond_true, cond_false, aop, aThen, aBlock, argEnv, ev, sput, sputO, binK, binI, unK, builtinK, pickK, Nat.reduceBEq, Nat.reduceAdd, Int.reduceBEq, Int.reduceBNe, Int.reduceLT, aPost, resK, tup, tyf])
    clear hN7
    try clear N7
    refine aws_cut fun N8 hN8 => ?_
    simp (maxSteps := 2000000) only [s111, ↓aw_region, ↓aw_skip, ↓aw_seq, ↓aw_block, ↓aw_exit, ↓aw_ret, ↓sops_nil, ↓sops_go, ↓dops_nil, ↓dopsX_nil, ↓dopsR_nil, ↓vdn, vup, extr_20, extr_21, extr_30, extr_31, extr_32, List.map_cons, List.map_nil, cond_true, cond_false, aop, aThen, aBlock, argEnv, ev, sput, sputO, binK, binI, unK, builtinK, pickK, Nat.reduceBEq, Nat.reduceAdd, Int.reduceBEq, Int.reduceBNe, Int.reduceLT, aPost, resK, tup, tyf]
    refine hQ2 _ _ _ (hQ _ _ _ ?_)
    simp (maxSteps := 2000000) only [s111, ↓aw_region, ↓aw_skip, ↓aw_seq, ↓aw_block, ↓aw_exit, ↓aw_ret, ↓sops_nil, ↓sops_go, ↓dops_nil, ↓dopsX_nil, ↓dopsR_nil, ↓vdn, vup, extr_20, extr_21, extr_30, extr_31, extr_32, List.map_cons, List.map_nil, cond_true, cond_false, aop, aThen, aBlock, argEnv, ev, sput, sputO, binK, binI, unK, builtinK, pickK, Nat.reduceBEq, Nat.reduceAdd, Int.reduceBEq, Int.reduceBNe, Int.reduceLT, aPost, resK, tup, tyf, if_true]
    refine hZ [(0, v), (1, .func (.func g) #[] cap), (4, .int .i64 0), (6, v), (7, vint ws.length), (8, vint ws.length), (9, .bool false)] _ _ ?_ (by simp (maxSteps := 2000000) only [↓aw_region, ↓aw_skip, ↓aw_seq, ↓aw_block, ↓aw_exit, ↓aw_ret, ↓sops_nil, ↓sops_go, ↓dops_nil, ↓dopsX_nil, ↓dopsR_nil, ↓vdn, vup, extr_20, extr_21, extr_30, extr_31, extr_32, List.map_cons, List.map_nil, cond_true, cond_false, aop, aThen, aBlock, argEnv, ev, sput, sputO, binK, binI, unK, builtinK, pickK, Nat.reduceBEq, Nat.reduceAdd, Int.reduceBEq, Int.reduceBNe, Int.reduceLT, aPost, resK, tup, tyf])
    clear hZ
    try clear Z
    refine aw_aws ?_
    have e : fstI ws.length F = -1 := by rw [fstI, find_none hall]
    simp (maxSteps := 2000000) only [s111, ↓aw_region, ↓aw_skip, ↓aw_seq, ↓aw_block, ↓aw_exit, ↓aw_ret, ↓sops_nil, ↓sops_go, ↓dops_nil, ↓dopsX_nil, ↓dopsR_nil, ↓vdn, vup, extr_20, extr_21, extr_30, extr_31, extr_32, List.map_cons, List.map_nil, cond_true, cond_false, aop, aThen, aBlock, argEnv, ev, sput, sputO, binK, binI, unK, builtinK, pickK, Nat.reduceBEq, Nat.reduceAdd, Int.reduceBEq, Int.reduceBNe, Int.reduceLT, aPost, resK, tup, tyf, e]

theorem s112_callW [Tabs Try.prog] {args : List Value} {h : Heap} {Q : Value → Heap → Prop} (hsz : args.length ≤ 10) (hk : AWS Try.prog 10 s112 (aPost Try.prog [.tmp 3] Q) (argEnv 0 args) h) : ACall Try.prog 112 args h Q :=
  acall_w Try.func112 rfl (enters_of Try.func112 (by kernel_rfl) rfl) rfl rfl (by decide) s112_strip s112_ok hsz hk
theorem nonzero_call [Tabs prog] {h : Heap} {B m k b a i : Nat} {w : Nat → Value} {bk : Nat → Nat} {T : SysT} (M : Mat h B m k w bk T) (hb : h[b]? = some (.cells [vint (a : Nat)] 3 false)) (hi : i < m) (ha : a ≤ k) :
    APure prog 112 [w i, .pointer (some ⟨b, 0, none⟩)] h (.bool (decide (T i a ≠ 0))) := by
  refine s112_callW (by simp) ?_
  refine aw_aws ?_
  have e : (((T i a).num) != 0) = decide (T i a ≠ 0) := by
    rw [Bool.eq_iff_iff]
    simp [Rat.num_eq_zero]
  simp (maxSteps := 2000000) only [s112, ↓aw_region, ↓aw_skip, ↓aw_seq, ↓aw_block, ↓aw_exit, ↓aw_ret, ↓sops_nil, ↓sops_go, ↓dops_nil, ↓dopsX_nil, ↓dopsR_nil, ↓vdn, vup, extr_20, extr_21, extr_30, extr_31, extr_32, List.map_cons, List.map_nil, cond_true, cond_false, aop, aThen, aBlock, argEnv, ev, sput, sputO, binK, binI, unK, builtinK, pickK, Nat.reduceBEq, Nat.reduceAdd, Int.reduceBEq, Int.reduceBNe, Int.reduceLT, aPost, resK, tup, tyf, load1 hb shp_3, M.idxR hi ha, fA0o, M.loadN hi ha, e]
end Go.Proofs.Try.Am

namespace Go.Proofs.Try.Am
open Go.Am Bq
set_option maxRecDepth 100000
set_option maxHeartbeats 1000000

theorem small_and : ∀ y : Nat, y < 6 → bitsV .and .u64 (y : Int) 4294967295 = (y : Int) ∧ shrV .u64 (y : Int) 32 = 0 ∧ mulV .u64 1 (y : Int) = (y : Int) ∧ mulV .u64 0 (y : Int) = 0 ∧ addV .u64 (y : Int) 0 = (y : Int) := by decide
theorem s123_callW [Tabs Try.prog] {args : List Value} {h : Heap} {Q : Value → Heap → Prop} (hsz : args.length ≤ 51) (hk : AWS Try.prog 51 s123 (aPost Try.prog [.tmp 4, .tmp 5] Q) (argEnv 0 args) h) : ACall Try.prog 123 args h Q :=
  acall_w Try.func123 rfl (enters_of Try.func123 (by kernel_rfl) rfl) rfl rfl (by decide) s123_strip s123_ok hsz hk
theorem mul64_call [Tabs prog] {h : Heap} {y : Nat} (hy : y < 6) : APure prog 123 [.int .u64 1, .int .u64 (y : Int)] h (.tuple #[.int .u64 0, .int .u64 (y : Int)]) := by
  obtain ⟨a1, a2, a3, a4, a5⟩ := small_and y hy
  have b1 : bitsV .and .u64 1 4294967295 = 1 := by decide
  have b2 : shrV .u64 1 32 = 0 := by decide
  have b3 : mulV .u64 1 0 = 0 := by decide
  have b4 : mulV .u64 0 0 = 0 := by decide
  have b5 : addV .u64 0 0 = 0 := by decide
  have b6 : bitsV .and .u64 0 4294967295 = 0 := by decide
  have b7 : shrV .u64 0 32 = 0 := by decide
  have b8 : (0 : Int) ≤ 32 := by decide
  refine s123_callW (by simp) ?_
  refine aw_aws ?_
  simp (maxSteps := 2000000) only [s123, ↓aw_region, ↓aw_skip, ↓aw_seq, ↓aw_block, ↓aw_exit, ↓aw_ret, ↓sops_nil, ↓sops_go, ↓dops_nil, ↓dopsX_nil, ↓dopsR_nil, ↓vdn, vup, extr_20, extr_21, extr_30, extr_31, extr_32, List.map_cons, List.map_nil, cond_true, cond_false, aop, aThen, aBlock, argEnv, ev, sput, sputO, binK, binI, unK, builtinK, pickK, Nat.reduceBEq, Nat.reduceAdd, Int.reduceBEq, Int.reduceBNe, Int.reduceLT, aPost, resK, tup, tyf, a1, a2, a3, a4, a5, b1, b2, b3, b4, b5, b6, b7, b8, true_and]

theorem s114_callW [Tabs Try.prog] {args : List Value} {h : Heap} {Q : Value → Heap → Prop} (hsz : args.length ≤ 30) (hk : AWS Try.prog 30 s114 (aPost Try.prog [.tmp 4, .tmp 5] Q) (argEnv 0 args) h) : ACall Try.prog 114 args h Q :=
  acall_w Try.func114 rfl (enters_of Try.func114 (by kernel_rfl) rfl) rfl rfl (by decide) s114_strip s114_ok hsz hk
theorem mul_call [Tabs prog] {h : Heap} {y : Nat} (hy : y < 6) : APure prog 114 [.int .u64 1, .int .u64 (y : Int)] h (.tuple #[.int .u64 0, .int .u64 (y : Int)]) := by
  refine s114_callW (by simp) ?_
  simp only [s114]
  refine aws_cut fun N1 hN1 => ?_
  simp (maxSteps := 2000000) only [s114, ↓aw_region, ↓aw_skip, ↓aw_seq, ↓aw_block, ↓aw_exit, ↓aw_ret, ↓sops_nil, ↓sops_go, ↓dops_nil, ↓dopsX_nil, ↓dopsR_nil, ↓vdn, vup, extr_20, extr_21, extr_30, extr_31, extr_32, List.map_cons, List.map_nil, cond_true, cond_false, aop, aThen, aBlock, argEnv, ev, sput, sputO, binK, binI, unK, builtinK, pickK, Nat.reduceBEq, Nat.reduceAdd, Int.reduceBEq, Int.reduceBNe, Int.reduceLT, aPost, resK, tup, tyf]
  refine hN1 [(0, .int .u64 1), (1, .int .u64 (y : Int)), (4, .int .u64 0), (5, .int .u64 0)] _ _ ?_ (by simp (maxSteps := 2000000) only [↓aw_region, ↓aw_skip, ↓aw_seq, ↓aw_block, ↓aw_exit, ↓aw_ret, ↓sops_nil, ↓sops_go, ↓dops_nil, ↓dopsX_nil, ↓dopsR_nil, ↓vdn, vup, extr_20, extr_21, extr_30, extr_31, extr_32, List.map_cons, List.map_nil, cond_true, cond_false, aop, aThen, aBlock, argEnv, ev, sput, sputO, binK, binI, unK, builtinK, pickK, Nat.reduceBEq, Nat.reduceAdd, Int.reduceBEq, Int.reduceBNe, Int.reduceLT, aPost, resK, tup, tyf])
  clear hN1
  try clear N1
  refine aws_cutW fun Z hZ => ?_
  refine aws_false rfl ?_
  refine aw_aws ?_
  simp (maxSteps := 2000000) only [s114, ↓aw_region, ↓aw_skip, ↓aw_seq, ↓aw_block, ↓aw_exit, ↓aw_ret, ↓sops_nil, ↓sops_go, ↓dops_nil, ↓dopsX_nil, ↓dopsR_nil, ↓vdn, vup, extr_20, extr_21, extr_30, extr_31, extr_32, List.map_cons, List.map_nil, cond_true, cond_false, aop, aThen, aBlock, argEnv, ev, sput, sputO, binK, binI, unK, builtinK, pickK, Nat.reduceBEq, Nat.reduceAdd, Int.reduceBEq, Int.reduceBNe, Int.reduceLT, aPost, resK, tup, tyf]
  refine hZ [(0, .int .u64 1), (1, .int .u64 (y : Int)), (4, .int .u64 0), (5, .int .u64 0)] _ _ ?_ (by simp (maxSteps := 2000000) only [↓aw_region, ↓aw_skip, ↓aw_seq, ↓aw_block, ↓aw_exit, ↓aw_ret, ↓sops_nil, ↓sops_go, ↓dops_nil, ↓dopsX_nil, ↓dopsR_nil, ↓vdn, vup, extr_20, extr_21, extr_30, extr_31, extr_32, List.map_cons, List.map_nil, cond_true, cond_false, aop, aThen, aBlock, argEnv, ev, sput, sputO, binK, binI, unK, builtinK, pickK, Nat.reduceBEq, Nat.reduceAdd, Int.reduceBEq, Int.reduceBNe, Int.reduceLT, aPost, resK, tup, tyf])
  clear hZ
  try clear Z
  refine aw_aws ?_
  simp (maxSteps := 2000000) only [s114, ↓aw_region, ↓aw_skip, ↓aw_seq, ↓aw_block, ↓aw_exit, ↓aw_ret, ↓sops_nil, ↓sops_go, ↓dops_nil, ↓dopsX_nil, ↓dopsR_nil, ↓vdn, vup, extr_20, extr_21, extr_30, extr_31, extr_32, List.map_cons, List.map_nil, cond_true, cond_false, aop, aThen, aBlock, argEnv, ev, sput, sputO, binK, binI, unK, builtinK, pickK, Nat.reduceBEq, Nat.reduceAdd, Int.reduceBEq, Int.reduceBNe, Int.reduceLT, aPost, resK, tup, tyf, callK, List.nil_append, List.append_nil, List.toList_toArray, List.cons_append]
  refine (mul64_call hy).mono ?_
  rintro _ h ⟨rfl, rfl⟩
  simp (maxSteps := 2000000) only [s114, ↓aw_region, ↓aw_skip, ↓aw_seq, ↓aw_block, ↓aw_exit, ↓aw_ret, ↓sops_nil, ↓sops_go, ↓dops_nil, ↓dopsX_nil, ↓dopsR_nil, ↓vdn, vup, extr_20, extr_21, extr_30, extr_31, extr_32, List.map_cons, List.map_nil, cond_true, cond_false, aop, aThen, aBlock, argEnv, ev, sput, sputO, binK, binI, unK, builtinK, pickK, Nat.reduceBEq, Nat.reduceAdd, Int.reduceBEq, Int.reduceBNe, Int.reduceLT, aPost, resK, tup, tyf]

theorem conv_u : ∀ y : Nat, y < 6 → IntKind.u64.wrap (y : Int) = (y : Int) ∧ IntKind.i64.wrap (y : Int) = (y : Int) := by decide
theorem litF [Tabs prog] {h : Heap} {x y : Int} (K : Value → Heap → Prop) : buildSliceK prog h 47 1 [(0, .agg #[vint x, vint y])] K = K (.slice (some ⟨h.length, 0, none⟩) 1 1) (h ++ [.ints [x, y] 26 false]) := by
  simp only [buildSliceK, el_47, zero_26, esz_26, reps, fillL, mkb, notTuple, cellsOf, List.toList_toArray, List.length_cons, List.length_nil, Nat.zero_add, Nat.zero_mul, splice]
  refine propext ⟨fun h => ?_, fun h => ⟨trivial, by decide, by decide, ?_⟩⟩
  · simpa [intsOf] using h.2.2.2
  · simpa [intsOf] using h

theorem flatP_take : ∀ (L : List (Int × Int)) (o : Nat), flatP (L.take o) = (flatP L).take (o * 2)
  | [], o => by simp [flatP]
  | p :: L, 0 => by simp [flatP]
  | p :: L, o + 1 => by
    have e : ∀ l : List (Int × Int), flatP (p :: l) = p.1 :: p.2 :: flatP l := fun l => rfl
    rw [List.take_succ_cons, e, e, flatP_take L o, show (o + 1) * 2 = o * 2 + 1 + 1 by omega, List.take_succ_cons, List.take_succ_cons]
theorem flatP_drop : ∀ (L : List (Int × Int)) (o : Nat), flatP (L.drop o) = (flatP L).drop (o * 2)
  | [], o => by simp [flatP]
  | p :: L, 0 => by simp
  | p :: L, o + 1 => by
    have e : ∀ l : List (Int × Int), flatP (p :: l) = p.1 :: p.2 :: flatP l := fun l => rfl
    rw [List.drop_succ_cons, e, flatP_drop L o, show (o + 1) * 2 = o * 2 + 1 + 1 by omega, List.drop_succ_cons, List.drop_succ_cons]
theorem flatP_splice {L S : List (Int × Int)} {o : Nat} : flatP (splice L o S) = splice (flatP L) (o * 2) (flatP S) := by
  simp only [splice, flatP_app, flatP_take, flatP_drop, flatP_len, Nat.add_mul]
theorem storesP {h : Heap} {b o : Nat} {L S : List (Int × Int)} {e : TypeId} (hb : h[b]? = some (.cells ((flatP L).map vint) e false)) (ho : o + S.length ≤ L.length) (K : Heap → Prop)
    (hk : K (h.set b (.cells ((flatP (splice L o S)).map vint) e false))) : storesK h b (o * 2) ((flatP S).map vint) K := by
  simp only [storesK, hb, ← splice_map]
  refine ⟨?_, ?_, ?_⟩
  · rw [List.all_eq_true]
    intro v hv
    obtain ⟨n, _, rfl⟩ := List.mem_map.1 hv
    rfl
  · simp only [List.length_map, flatP_len]; omega
  · rw [← flatP_splice]; exact hk
theorem cellsP {h : Heap} {b o s : Nat} {L : List (Int × Int)} {e : TypeId} {ro : Bool} (hb : h[b]? = some (.cells ((flatP L).map vint) e ro)) (ho : o + s ≤ L.length) (K : List Value → Prop)
    (hk : K ((flatP ((L.drop o).take s)).map vint)) : cellsK h b (o * 2) (s * 2) K := by
  simp only [cellsK, hb]
  refine ⟨by simp only [List.length_map, flatP_len]; omega, ?_⟩
  rw [flatP_take, flatP_drop, List.map_take, List.map_drop] at hk
  exact hk
/-- So many alike, then none. -/
def repL (x y : Int) (n c : Nat) : List (Int × Int) := List.replicate c (x, y) ++ List.replicate (n - c) (0, 0)
theorem repL_len {x y : Int} {n c : Nat} (h : c ≤ n) : (repL x y n c).length = n := by simp [repL]; omega
theorem repL_next {x y : Int} {n c : Nat} (h : c ≤ n) : splice (repL x y n c) c (((repL x y n c).drop 0).take (min c (n - c))) = repL x y n (c + min c (n - c)) := by
  have e1 : ((repL x y n c).drop 0).take (min c (n - c)) = List.replicate (min c (n - c)) (x, y) := by
    rw [List.drop_zero, repL, List.take_append_of_le_length (by simp; omega), List.take_replicate, Nat.min_eq_left (Nat.min_le_left _ _)]
  rw [e1, splice, repL, List.take_append_of_le_length (by simp), List.take_of_length_le (by simp), List.drop_append, List.length_replicate, List.length_replicate, List.drop_of_length_le (by simp), List.nil_append, List.drop_replicate, List.replicate_append_replicate, repL]
  congr 2
  omega

theorem s95_callW [Tabs Try.prog] {args : List Value} {h : Heap} {Q : Value → Heap → Prop} (hsz : args.length ≤ 48) (hk : AWS Try.prog 48 s95 (aPost Try.prog [.tmp 4] Q) (argEnv 0 args) h) : ACall Try.prog 95 args h Q :=
  acall_w Try.func95 rfl (enters_of Try.func95 (by kernel_rfl) rfl) rfl rfl (by decide) s95_strip s95_ok hsz hk
theorem repeat_call [Tabs prog] {h : Heap} {b0 n : Nat} {x y : Int} (hb : h[b0]? = some (.ints [x, y] 26 false)) (hn : 1 ≤ n) (hn5 : n < 6) :
    ADet prog 95 [.slice (some ⟨b0, 0, none⟩) 1 1, vint (n : Nat)] h (.slice (some ⟨h.length, 0, none⟩) n n) (h ++ [.cells ((flatP (List.replicate n (x, y))).map vint) 26 false]) := by
  obtain ⟨cu, ci⟩ := conv_u n hn5
  have cu1 : IntKind.u64.wrap 1 = 1 := by decide
  have hneg : ¬ ((n : Nat) : Int) < 0 := by omega
  have hbig : ¬ ((n : Nat) : Int) > 9223372036854775807 := by omega
  have h00 : ¬ (0 : Int) > 0 := by decide
  refine s95_callW (by simp) ?_
  simp only [s95]
  refine aws_cut fun N2 hN2 => ?_
  simp (maxSteps := 2000000) only [s95, ↓aw_region, ↓aw_skip, ↓aw_seq, ↓aw_block, ↓aw_exit, ↓aw_ret, ↓sops_nil, ↓sops_go, ↓dops_nil, ↓dopsX_nil, ↓dopsR_nil, ↓vdn, vup, extr_20, extr_21, extr_30, extr_31, extr_32, List.map_cons, List.map_nil, cond_true, cond_false, aop, aThen, aBlock, argEnv, ev, sput, sputO, binK, binI, unK, builtinK, pickK, Nat.reduceBEq, Nat.reduceAdd, Int.reduceBEq, Int.reduceBNe, Int.reduceLT, aPost, resK, tup, tyf]
  refine hN2 [(0, .slice (some ⟨b0, 0, none⟩) 1 1), (1, vint (n : Nat)), (4, .slice none 0 0)] _ _ ?_ (by simp (maxSteps := 2000000) only [↓aw_region, ↓aw_skip, ↓aw_seq, ↓aw_block, ↓aw_exit, ↓aw_ret, ↓sops_nil, ↓sops_go, ↓dops_nil, ↓dopsX_nil, ↓dopsR_nil, ↓vdn, vup, extr_20, extr_21, extr_30, extr_31, extr_32, List.map_cons, List.map_nil, cond_true, cond_false, aop, aThen, aBlock, argEnv, ev, sput, sputO, binK, binI, unK, builtinK, pickK, Nat.reduceBEq, Nat.reduceAdd, Int.reduceBEq, Int.reduceBNe, Int.reduceLT, aPost, resK, tup, tyf])
  clear hN2
  try clear N2
  refine aws_cut fun N3 hN3 => ?_
  simp (maxSteps := 2000000) only [s95, ↓aw_region, ↓aw_skip, ↓aw_seq, ↓aw_block, ↓aw_exit, ↓aw_ret, ↓sops_nil, ↓sops_go, ↓dops_nil, ↓dopsX_nil, ↓dopsR_nil, ↓vdn, vup, extr_20, extr_21, extr_30, extr_31, extr_32, List.map_cons, List.map_nil, cond_true, cond_false, aop, aThen, aBlock, argEnv, ev, sput, sputO, binK, binI, unK, builtinK, pickK, Nat.reduceBEq, Nat.reduceAdd, Int.reduceBEq, Int.reduceBNe, Int.reduceLT, aPost, resK, tup, tyf, hneg]
  refine hN3 [(0, .slice (some ⟨b0, 0, none⟩) 1 1), (1, vint (n : Nat)), (4, .slice none 0 0)] _ _ ?_ (by simp (maxSteps := 2000000) only [↓aw_region, ↓aw_skip, ↓aw_seq, ↓aw_block, ↓aw_exit, ↓aw_ret, ↓sops_nil, ↓sops_go, ↓dops_nil, ↓dopsX_nil, ↓dopsR_nil, ↓vdn, vup, extr_20, extr_21, extr_30, extr_31, extr_32, List.map_cons, List.map_nil, cond_true, cond_false, aop, aThen, aBlock, argEnv, ev, sput, sputO, binK, binI, unK, builtinK, pickK, Nat.reduceBEq, Nat.reduceAdd, Int.reduceBEq, Int.reduceBNe, Int.reduceLT, aPost, resK, tup, tyf])
  clear hN3
  try clear N3
  refine aws_cut fun N4 hN4 => ?_
  simp (maxSteps := 2000000) only [s95, ↓aw_region, ↓aw_skip, ↓aw_seq, ↓aw_block, ↓aw_exit, ↓aw_ret, ↓sops_nil, ↓sops_go, ↓dops_nil, ↓dopsX_nil, ↓dopsR_nil, ↓vdn, vup, extr_20, extr_21, extr_30, extr_31, extr_32, List.map_cons, List.map_nil, cond_true, cond_false, aop, aThen, aBlock, argEnv, ev, sput, sputO, binK, binI, unK, builtinK, pickK, Nat.reduceBEq, Nat.reduceAdd, Int.reduceBEq, Int.reduceBNe, Int.reduceLT, aPost, resK, tup, tyf, lenK, Int.natCast_one, convK, und_3, und_67, cu, cu1]
  simp (maxSteps := 2000000) only [s95, ↓aw_region, ↓aw_skip, ↓aw_seq, ↓aw_block, ↓aw_exit, ↓aw_ret, ↓sops_nil, ↓sops_go, ↓dops_nil, ↓dopsX_nil, ↓dopsR_nil, ↓vdn, vup, extr_20, extr_21, extr_30, extr_31, extr_32, List.map_cons, List.map_nil, cond_true, cond_false, aop, aThen, aBlock, argEnv, ev, sput, sputO, binK, binI, unK, builtinK, pickK, Nat.reduceBEq, Nat.reduceAdd, Int.reduceBEq, Int.reduceBNe, Int.reduceLT, aPost, resK, tup, tyf, callK, List.nil_append, List.append_nil, List.toList_toArray, List.cons_append]
  refine (mul_call hn5).mono ?_
  rintro _ h ⟨rfl, rfl⟩
  simp (maxSteps := 2000000) only [s95, ↓aw_region, ↓aw_skip, ↓aw_seq, ↓aw_block, ↓aw_exit, ↓aw_ret, ↓sops_nil, ↓sops_go, ↓dops_nil, ↓dopsX_nil, ↓dopsR_nil, ↓vdn, vup, extr_20, extr_21, extr_30, extr_31, extr_32, List.map_cons, List.map_nil, cond_true, cond_false, aop, aThen, aBlock, argEnv, ev, sput, sputO, binK, binI, unK, builtinK, pickK, Nat.reduceBEq, Nat.reduceAdd, Int.reduceBEq, Int.reduceBNe, Int.reduceLT, aPost, resK, tup, tyf]
  refine hN4 [(0, .slice (some ⟨b0, 0, none⟩) 1 1), (1, vint (n : Nat)), (4, .slice none 0 0), (5, .int .u64 0), (6, .int .u64 (n : Int))] _ _ ?_ (by simp (maxSteps := 2000000) only [↓aw_region, ↓aw_skip, ↓aw_seq, ↓aw_block, ↓aw_exit, ↓aw_ret, ↓sops_nil, ↓sops_go, ↓dops_nil, ↓dopsX_nil, ↓dopsR_nil, ↓vdn, vup, extr_20, extr_21, extr_30, extr_31, extr_32, List.map_cons, List.map_nil, cond_true, cond_false, aop, aThen, aBlock, argEnv, ev, sput, sputO, binK, binI, unK, builtinK, pickK, Nat.reduceBEq, Nat.reduceAdd, Int.reduceBEq, Int.reduceBNe, Int.reduceLT, aPost, resK, tup, tyf])
  clear hN4
  try clear N4
  refine aws_cut fun N5 hN5 => ?_
  simp (maxSteps := 2000000) only [s95, ↓aw_region, ↓aw_skip, ↓aw_seq, ↓aw_block, ↓aw_exit, ↓aw_ret, ↓sops_nil, ↓sops_go, ↓dops_nil, ↓dopsX_nil, ↓dopsR_nil, ↓vdn, vup, extr_20, extr_21, extr_30, extr_31, extr_32, List.map_cons, List.map_nil, cond_true, cond_false, aop, aThen, aBlock, argEnv, ev, sput, sputO, binK, binI, unK, builtinK, pickK, Nat.reduceBEq, Nat.reduceAdd, Int.reduceBEq, Int.reduceBNe, Int.reduceLT, aPost, resK, tup, tyf, h00, hbig]
  refine hN5 [(0, .slice (some ⟨b0, 0, none⟩) 1 1), (1, vint (n : Nat)), (4, .slice none 0 0), (5, .int .u64 0), (6, .int .u64 (n : Int))] _ _ ?_ (by simp (maxSteps := 2000000) only [↓aw_region, ↓aw_skip, ↓aw_seq, ↓aw_block, ↓aw_exit, ↓aw_ret, ↓sops_nil, ↓sops_go, ↓dops_nil, ↓dopsX_nil, ↓dopsR_nil, ↓vdn, vup, extr_20, extr_21, extr_30, extr_31, extr_32, List.map_cons, List.map_nil, cond_true, cond_false, aop, aThen, aBlock, argEnv, ev, sput, sputO, binK, binI, unK, builtinK, pickK, Nat.reduceBEq, Nat.reduceAdd, Int.reduceBEq, Int.reduceBNe, Int.reduceLT, aPost, resK, tup, tyf])
  clear hN5
  try clear N5
  have hmk : ∀ {K : Value → Heap → Prop}, makeK prog h 47 (vint (n : Nat)) (vint (n : Nat)) K = K (.slice (some ⟨h.length, 0, none⟩) n n) (h ++ [.cells ((flatP (List.replicate n (0, 0))).map vint) 26 false]) := fun {K} => makeP el_47 zero_26 info_26 rfl (by omega)
  refine aws_cut fun N6 hN6 => ?_
  simp (maxSteps := 2000000) only [s95, ↓aw_region, ↓aw_skip, ↓aw_seq, ↓aw_block, ↓aw_exit, ↓aw_ret, ↓sops_nil, ↓sops_go, ↓dops_nil, ↓dopsX_nil, ↓dopsR_nil, ↓vdn, vup, extr_20, extr_21, extr_30, extr_31, extr_32, List.map_cons, List.map_nil, cond_true, cond_false, aop, aThen, aBlock, argEnv, ev, sput, sputO, binK, binI, unK, builtinK, pickK, Nat.reduceBEq, Nat.reduceAdd, Int.reduceBEq, Int.reduceBNe, Int.reduceLT, aPost, resK, tup, tyf, convK, und_3, und_67, ci, hmk]
  refine hN6 [(0, .slice (some ⟨b0, 0, none⟩) 1 1), (1, vint (n : Nat)), (4, .slice none 0 0), (7, .slice (some ⟨h.length, 0, none⟩) n n)] _ _ ?_ (by simp (maxSteps := 2000000) only [↓aw_region, ↓aw_skip, ↓aw_seq, ↓aw_block, ↓aw_exit, ↓aw_ret, ↓sops_nil, ↓sops_go, ↓dops_nil, ↓dopsX_nil, ↓dopsR_nil, ↓vdn, vup, extr_20, extr_21, extr_30, extr_31, extr_32, List.map_cons, List.map_nil, cond_true, cond_false, aop, aThen, aBlock, argEnv, ev, sput, sputO, binK, binI, unK, builtinK, pickK, Nat.reduceBEq, Nat.reduceAdd, Int.reduceBEq, Int.reduceBNe, Int.reduceLT, aPost, resK, tup, tyf])
  clear hN6
  try clear N6
  obtain ⟨H, hH⟩ : ∃ H : Nat → Heap, H = fun c => h ++ [.cells ((flatP (repL x y n c)).map vint) 26 false] := ⟨_, rfl⟩
  have hHc : ∀ c, (H c)[h.length]? = some (.cells ((flatP (repL x y n c)).map vint) 26 false) := fun c => by rw [hH]; exact get_new _ _
  have hset : ∀ c d, (H c).set h.length (.cells ((flatP (repL x y n d)).map vint) 26 false) = H d := fun c d => by simp only [hH]; rw [set_new]
  have hH0 : h ++ [.cells ((flatP (List.replicate n ((0 : Int), (0 : Int)))).map vint) 26 false] = H 0 := by rw [hH]; simp [repL]
  rw [hH0]
  have hb0 : (H 0)[b0]? = some (.ints [x, y] 26 false) := by rw [hH]; exact get_old hb _
  have hcp : ∀ {K : Value → Heap → Prop}, K (vint 1) (H 1) → copyK prog (H 0) 47 (.slice (some ⟨h.length, 0, none⟩) n n) (.slice (some ⟨b0, 0, none⟩) 1 1) K := fun {K} hK => by
    simp only [copyK, el_47, esz_26]
    have e1 : min 1 n = 1 := by omega
    rw [e1]
    simp only [cellsK, hb0]
    refine ⟨by simp, ?_⟩
    rw [show min ((1 : Nat) : Int) ((n : Nat) : Int) = 1 by omega]
    have st := storesP (S := [(x, y)]) (o := 0) (hHc 0) (by rw [repL_len (by omega)]; simp; omega) (fun h' => K (vint 1) h') (by
      have e2 : splice (repL x y n 0) 0 [(x, y)] = repL x y n 1 := by
        rw [repL, repL, List.replicate_zero, List.nil_append, show n - 0 = (n - 1) + 1 by omega, List.replicate_succ]
        simp [splice]
      rw [e2, hset]; exact hK)
    exact st
  refine aws_cut fun N7 hN7 => ?_
  simp (maxSteps := 2000000) only [s95, ↓aw_region, ↓aw_skip, ↓aw_seq, ↓aw_block, ↓aw_exit, ↓aw_ret, ↓sops_nil, ↓sops_go, ↓dops_nil, ↓dopsX_nil, ↓dopsR_nil, ↓vdn, vup, extr_20, extr_21, extr_30, extr_31, extr_32, List.map_cons, List.map_nil, cond_true, cond_false, aop, aThen, aBlock, argEnv, ev, sput, sputO, binK, binI, unK, builtinK, pickK, Nat.reduceBEq, Nat.reduceAdd, Int.reduceBEq, Int.reduceBNe, Int.reduceLT, aPost, resK, tup, tyf]
  refine hcp ?_
  refine hN7 [(0, .slice (some ⟨b0, 0, none⟩) 1 1), (1, vint (n : Nat)), (4, .slice none 0 0), (7, .slice (some ⟨h.length, 0, none⟩) n n), (8, .int .i64 1)] _ _ ?_ (by simp (maxSteps := 2000000) only [↓aw_region, ↓aw_skip, ↓aw_seq, ↓aw_block, ↓aw_exit, ↓aw_ret, ↓sops_nil, ↓sops_go, ↓dops_nil, ↓dopsX_nil, ↓dopsR_nil, ↓vdn, vup, extr_20, extr_21, extr_30, extr_31, extr_32, List.map_cons, List.map_nil, cond_true, cond_false, aop, aThen, aBlock, argEnv, ev, sput, sputO, binK, binI, unK, builtinK, pickK, Nat.reduceBEq, Nat.reduceAdd, Int.reduceBEq, Int.reduceBNe, Int.reduceLT, aPost, resK, tup, tyf])
  clear hN7
  try clear N7
  refine aws_cutW fun Z hZ => ?_
  refine aws_block ?_
  refine aws_hide fun Q hQ => ?_
  refine aw_loopW (γ := Nat) (fun c => 1 ≤ c ∧ c ≤ n) (fun c => ([(0, .slice (some ⟨b0, 0, none⟩) 1 1), (1, vint (n : Nat)), (4, .slice none 0 0), (7, .slice (some ⟨h.length, 0, none⟩) n n), (8, vint (c : Nat))], H c)) (fun c => n - c) 1 ⟨Nat.le_refl _, hn⟩ (by simp (maxSteps := 2000000) only [↓aw_region, ↓aw_skip, ↓aw_seq, ↓aw_block, ↓aw_exit, ↓aw_ret, ↓sops_nil, ↓sops_go, ↓dops_nil, ↓dopsX_nil, ↓dopsR_nil, ↓vdn, vup, extr_20, extr_21, extr_30, extr_31, extr_32, List.map_cons, List.map_nil, cond_true, cond_false, aop, aThen, aBlock, argEnv, ev, sput, sputO, binK, binI, unK, builtinK, pickK, Nat.reduceBEq, Nat.reduceAdd, Int.reduceBEq, Int.reduceBNe, Int.reduceLT, aPost, resK, tup, tyf, Int.natCast_one]) rfl ?_
  rintro c ⟨hc1, hc⟩
  refine aws_hide fun Q2 hQ2 => ?_
  simp only [l95_0]
  by_cases hin : (c : Int) < n
  · have hcn : c < n := by omega
    refine aws_cut fun N8 hN8 => ?_
    simp (maxSteps := 2000000) only [s95, ↓aw_region, ↓aw_skip, ↓aw_seq, ↓aw_block, ↓aw_exit, ↓aw_ret, ↓sops_nil, ↓sops_go, ↓dops_nil, ↓dopsX_nil, ↓dopsR_nil, ↓vdn, vup, extr_20, extr_21, extr_30, extr_31, extr_32, List.map_cons, List.map_nil, cond_true, cond_false, aop, aThen, aBlock, argEnv, ev, sput, sputO, binK, binI, unK, builtinK, pickK, Nat.reduceBEq, Nat.reduceAdd, Int.reduceBEq, Int.reduceBNe, Int.reduceLT, aPost, resK, tup, tyf, lenK, hin]
    refine hN8 [(0, .slice (some ⟨b0, 0, none⟩) 1 1), (1, vint (n : Nat)), (4, .slice none 0 0), (7, .slice (some ⟨h.length, 0, none⟩) n n), (8, vint (c : Nat))] _ _ ?_ (by simp (maxSteps := 2000000) only [↓aw_region, ↓aw_skip, ↓aw_seq, ↓aw_block, ↓aw_exit, ↓aw_ret, ↓sops_nil, ↓sops_go, ↓dops_nil, ↓dopsX_nil, ↓dopsR_nil, ↓vdn, vup, extr_20, extr_21, extr_30, extr_31, extr_32, List.map_cons, List.map_nil, cond_true, cond_false, aop, aThen, aBlock, argEnv, ev, sput, sputO, binK, binI, unK, builtinK, pickK, Nat.reduceBEq, Nat.reduceAdd, Int.reduceBEq, Int.reduceBNe, Int.reduceLT, aPost, resK, tup, tyf])
    clear hN8
    try clear N8
    refine aw_aws ?_
    simp only [q95_9, aw_block]
    refine aw_drawX [] (by kernel_rfl) (by kernel_rfl) (by kernel_rfl) (by kernel_rfl) ?_
    have hs1 : ∀ {K : Value → Prop}, K (.slice (some ⟨h.length, c * 2, none⟩) (n - c) (n - c)) → sliceK prog 47 (.slice (some ⟨h.length, 0, none⟩) n n) (some (vint (c : Nat))) none none K := fun {K} hK => by
      simp only [sliceK, el_47, esz_26, bnd]
      refine ⟨by omega, by omega, by omega, fun _ => ?_, fun h0 => absurd rfl h0⟩
      rw [if_neg (by omega), show ((n : Int) - (c : Int)).toNat = n - c by omega, Int.toNat_natCast, Nat.zero_add]
      exact hK
    have hs2 : ∀ {K : Value → Prop}, K (.slice (some ⟨h.length, 0, none⟩) c n) → sliceK prog 47 (.slice (some ⟨h.length, 0, none⟩) n n) none (some (vint (c : Nat))) none K := fun {K} hK => by
      simp only [sliceK, el_47, esz_26, bnd]
      refine ⟨by omega, by omega, by omega, fun _ => ?_, fun h0 => absurd rfl h0⟩
      rw [if_neg (by omega)]
      simpa using hK
    have hcp2 : ∀ {K : Value → Heap → Prop}, K (vint (min c (n - c) : Nat)) (H (c + min c (n - c))) → copyK prog (H c) 47 (.slice (some ⟨h.length, c * 2, none⟩) (n - c) (n - c)) (.slice (some ⟨h.length, 0, none⟩) c n) K := fun {K} hK => by
      simp only [copyK, el_47, esz_26]
      refine cellsP (o := 0) (hHc c) (by rw [repL_len (by omega)]; omega) _ ?_
      refine storesP (hHc c) (by rw [List.length_take, List.length_drop, repL_len (by omega)]; omega) _ ?_
      rw [repL_next (by omega), hset, show min ((c : Nat) : Int) ((n - c : Nat) : Int) = ((min c (n - c) : Nat) : Int) by omega]
      exact hK
    simp (maxSteps := 2000000) only [s95, ↓aw_region, ↓aw_skip, ↓aw_seq, ↓aw_block, ↓aw_exit, ↓aw_ret, ↓sops_nil, ↓sops_go, ↓dops_nil, ↓dopsX_nil, ↓dopsR_nil, ↓vdn, vup, extr_20, extr_21, extr_30, extr_31, extr_32, List.map_cons, List.map_nil, cond_true, cond_false, aop, aThen, aBlock, argEnv, ev, sput, sputO, binK, binI, unK, builtinK, pickK, Nat.reduceBEq, Nat.reduceAdd, Int.reduceBEq, Int.reduceBNe, Int.reduceLT, aPost, resK, tup, tyf, Option.map_some, Option.map_none]
    refine hs1 ?_
    refine hs2 ?_
    refine hcp2 ?_
    have ha : addV .i64 (c : Int) ((min c (n - c) : Nat) : Int) = ((c + min c (n - c) : Nat) : Int) := by rw [addN (by omega)]; push_cast; rfl
    simp (maxSteps := 2000000) only [s95, ↓aw_region, ↓aw_skip, ↓aw_seq, ↓aw_block, ↓aw_exit, ↓aw_ret, ↓sops_nil, ↓sops_go, ↓dops_nil, ↓dopsX_nil, ↓dopsR_nil, ↓vdn, vup, extr_20, extr_21, extr_30, extr_31, extr_32, List.map_cons, List.map_nil, cond_true, cond_false, aop, aThen, aBlock, argEnv, ev, sput, sputO, binK, binI, unK, builtinK, pickK, Nat.reduceBEq, Nat.reduceAdd, Int.reduceBEq, Int.reduceBNe, Int.reduceLT, aPost, resK, tup, tyf, ha]
    exact hQ2 _ _ _ ⟨c + min c (n - c), ⟨by omega, by omega⟩, by omega, by simp (maxSteps := 2000000) only [↓aw_region, ↓aw_skip, ↓aw_seq, ↓aw_block, ↓aw_exit, ↓aw_ret, ↓sops_nil, ↓sops_go, ↓dops_nil, ↓dopsX_nil, ↓dopsR_nil, ↓vdn, vup, extr_20, extr_21, extr_30, extr_31, extr_32, List.map_cons, List.map_nil, cond_true, cond_false, aop, aThen, aBlock, argEnv, ev, sput, sputO, binK, binI, unK, builtinK, pickK, Nat.reduceBEq, Nat.reduceAdd, Int.reduceBEq, Int.reduceBNe, Int.reduceLT, aPost, resK, tup, tyf], rfl⟩
  · have hcn : n = c := by omega
    subst hcn
    refine aws_cut fun N9 hN9 => ?_
    simp (maxSteps := 2000000) only [s95, ↓aw_region, ↓aw_skip, ↓aw_seq, ↓aw_block, ↓aw_exit, ↓aw_ret, ↓sops_nil, ↓sops_go, ↓dops_nil, ↓dopsX_nil, ↓dopsR_nil, ↓vdn, vup, extr_20, extr_21, extr_30, extr_31, extr_32, List.map_cons, List.map_nil, cond_true, cond_false, aop, aThen, aBlock, argEnv, ev, sput, sputO, binK, binI, unK, builtinK, pickK, Nat.reduceBEq, Nat.reduceAdd, Int.reduceBEq, Int.reduceBNe, Int.reduceLT, aPost, resK, tup, tyf, lenK, hin]
    refine hQ2 _ _ _ (hQ _ _ _ ?_)
    simp (maxSteps := 2000000) only [s95, ↓aw_region, ↓aw_skip, ↓aw_seq, ↓aw_block, ↓aw_exit, ↓aw_ret, ↓sops_nil, ↓sops_go, ↓dops_nil, ↓dopsX_nil, ↓dopsR_nil, ↓vdn, vup, extr_20, extr_21, extr_30, extr_31, extr_32, List.map_cons, List.map_nil, cond_true, cond_false, aop, aThen, aBlock, argEnv, ev, sput, sputO, binK, binI, unK, builtinK, pickK, Nat.reduceBEq, Nat.reduceAdd, Int.reduceBEq, Int.reduceBNe, Int.reduceLT, aPost, resK, tup, tyf, if_true]
    refine hZ [(0, .slice (some ⟨b0, 0, none⟩) 1 1), (1, vint (n : Nat)), (4, .slice none 0 0), (7, .slice (some ⟨h.length, 0, none⟩) n n), (8, vint (n : Nat))] _ _ ?_ (by simp (maxSteps := 2000000) only [↓aw_region, ↓aw_skip, ↓aw_seq, ↓aw_block, ↓aw_exit, ↓aw_ret, ↓sops_nil, ↓sops_go, ↓dops_nil, ↓dopsX_nil, ↓dopsR_nil, ↓vdn, vup, extr_20, extr_21, extr_30, extr_31, extr_32, List.map_cons, List.map_nil, cond_true, cond_false, aop, aThen, aBlock, argEnv, ev, sput, sputO, binK, binI, unK, builtinK, pickK, Nat.reduceBEq, Nat.reduceAdd, Int.reduceBEq, Int.reduceBNe, Int.reduceLT, aPost, resK, tup, tyf])
    clear hZ
    try clear Z
    refine aw_aws ?_
    simp (maxSteps := 2000000) only [s95, ↓aw_region, ↓aw_skip, ↓aw_seq, ↓aw_block, ↓aw_exit, ↓aw_ret, ↓sops_nil, ↓sops_go, ↓dops_nil, ↓dopsX_nil, ↓dopsR_nil, ↓vdn, vup, extr_20, extr_21, extr_30, extr_31, extr_32, List.map_cons, List.map_nil, cond_true, cond_false, aop, aThen, aBlock, argEnv, ev, sput, sputO, binK, binI, unK, builtinK, pickK, Nat.reduceBEq, Nat.reduceAdd, Int.reduceBEq, Int.reduceBNe, Int.reduceLT, aPost, resK, tup, tyf]
    rw [hH]; simp [repL]
end Go.Proofs.Try.Am

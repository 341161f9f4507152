/-
  Printed by gen.py: the code of some functions, without what no step looks at; held against the program's own by the kernel.
  bets: slices.Repeat of one fraction.
  bets: elimination, as the program does it: what it comes to. Plain Lean, no program.
  bets: corners, as the program finds them. Plain Lean, no program.
  bets: a row of equations; bets that are valid.
  bets: bets that are valid, in the program.
-/
import Derived.Test.YtcmindinomacbaaPk3
import Derived.Test.YtcmindinomacbaaProg
import Derived.KernelRfl
import Derived.Shelf.Abstract
import Derived.Test.YtcmindinomacbaaPk6
import Derived.Test.YtcmindinomacbaaPk5
set_option linter.all false
namespace Go.Proofs.Try.Am
open Go.Am
set_option maxRecDepth 100000
/-! 36: planchet bets.Sound -/
@[reducible] def q36_0 : SCode := .region [⟨some 4, .assign (.const (.slice none 0 0)), none⟩,
    ⟨some 5, .assign (.const (.int .i64 0)), none⟩]
@[reducible] def q36_1 : SCode := .region [⟨some 8, .move (.tmp 0), none⟩,
    ⟨some 9, .move (.tmp 1), none⟩,
    ⟨some 10, .build 86 #[(0, .tmp 8), (1, .tmp 9)], none⟩,
    ⟨some 6, .alloc 86, none⟩,
    ⟨none, .store 86 (.tmp 6) (.tmp 10), none⟩]
@[reducible] def q36_2 : SCode := .region [⟨some 11, .load 86 (.tmp 6), none⟩,
    ⟨some 12, .call { callee := .value (.func 58), args := #[.tmp 11], argTypes := #[86] }, none⟩,
    ⟨some 13, .unOp .not 4 (.tmp 12), none⟩]
@[reducible] def q36_3 : SCode := .region [⟨some 4, .assign (.const (.slice none 0 0)), none⟩,
    ⟨some 5, .assign (.const (.int .i64 2)), none⟩]
@[reducible] def q36_4 : SCode := .region [⟨some 14, .load 86 (.tmp 6), none⟩,
    ⟨some 15, .call { callee := .value (.func 60), args := #[.tmp 14], argTypes := #[86] }, none⟩,
    ⟨some 7, .assign (.tmp 15), none⟩]
@[reducible] def q36_5 : SCode := .region [⟨some 16, .move (.tmp 7), none⟩,
    ⟨some 17, .call { callee := .builtin .len, args := #[.tmp 16], argTypes := #[88] }, none⟩,
    ⟨some 18, .binOp .eql 3 (.tmp 17) (.const (.int .i64 0)) 3, none⟩]
@[reducible] def q36_6 : SCode := .region [⟨some 4, .assign (.const (.slice none 0 0)), none⟩,
    ⟨some 5, .assign (.const (.int .i64 5)), none⟩]
@[reducible] def q36_7 : SCode := .region [⟨some 19, .move (.tmp 7), none⟩,
    ⟨some 20, .indexAddr 88 (.tmp 19) (.const (.int .i64 0)), none⟩,
    ⟨some 21, .load 90 (.tmp 20), none⟩,
    ⟨some 4, .assign (.tmp 21), none⟩,
    ⟨some 5, .assign (.const (.int .i64 0)), none⟩]
def s36 : SCode := (.seq q36_0 (.seq q36_1 (.seq (.seq q36_2 (.cond (.tmp 13) (.seq q36_3 .ret) .skip)) (.seq q36_4 (.seq (.seq q36_5 (.cond (.tmp 18) (.seq q36_6 .ret) .skip)) (.seq q36_7 .ret))))))
theorem s36_strip : Ya (Zv Try.f36) = s36 := by kernel_rfl
theorem s36_ok : Yp 22 (Zv Try.f36) = true := by kernel_rfl
/-! 58: (planchet bets.table).valid -/
@[reducible] def q58_0 : SCode := .region [⟨some 1, .box 86 (.tmp 0), none⟩,
    ⟨some 2, .assign (.const (.bool false)), none⟩]
@[reducible] def q58_1 : SCode := .region [⟨some 5, .fieldAddr 86 (.tmp 1) 0, none⟩,
    ⟨some 6, .load 3 (.tmp 5), none⟩,
    ⟨some 7, .binOp .lss 3 (.tmp 6) (.const (.int .i64 2)) 3, none⟩,
    ⟨some 8, .move (.tmp 7), none⟩,
    ⟨some 9, .fieldAddr 86 (.tmp 1) 0, some (8, false)⟩,
    ⟨some 10, .load 3 (.tmp 9), some (8, false)⟩,
    ⟨some 11, .binOp .gtr 3 (.tmp 10) (.const (.int .i64 5)) 3, some (8, false)⟩,
    ⟨some 12, .pick (.tmp 8) (.const (.bool true)) (.tmp 11), none⟩,
    ⟨some 13, .move (.tmp 12), none⟩,
    ⟨some 14, .fieldAddr 86 (.tmp 1) 1, some (13, false)⟩,
    ⟨some 15, .load 30 (.tmp 14), some (13, false)⟩,
    ⟨some 16, .call { callee := .builtin .len, args := #[.tmp 15], argTypes := #[30] }, some (13, false)⟩,
    ⟨some 17, .binOp .lss 3 (.tmp 16) (.const (.int .i64 1)) 3, some (13, false)⟩,
    ⟨some 18, .pick (.tmp 13) (.const (.bool true)) (.tmp 17), none⟩,
    ⟨some 19, .move (.tmp 18), none⟩,
    ⟨some 20, .fieldAddr 86 (.tmp 1) 1, some (19, false)⟩,
    ⟨some 21, .load 30 (.tmp 20), some (19, false)⟩,
    ⟨some 22, .call { callee := .builtin .len, args := #[.tmp 21], argTypes := #[30] }, some (19, false)⟩,
    ⟨some 23, .binOp .gtr 3 (.tmp 22) (.const (.int .i64 6)) 3, some (19, false)⟩,
    ⟨some 24, .pick (.tmp 19) (.const (.bool true)) (.tmp 23), none⟩]
@[reducible] def q58_2 : SCode := .region [⟨some 2, .assign (.const (.bool false)), none⟩]
@[reducible] def q58_3 : SCode := .region [⟨some 25, .fieldAddr 86 (.tmp 1) 1, none⟩,
    ⟨some 26, .load 30 (.tmp 25), none⟩,
    ⟨some 27, .call { callee := .builtin .len, args := #[.tmp 26], argTypes := #[30] }, none⟩,
    ⟨some 28, .move (.const (.int .i64 0)), none⟩]
@[reducible] def q58_4 : SCode := .region [⟨some 29, .binOp .lss 3 (.tmp 28) (.tmp 27) 3, none⟩]
@[reducible] def q58_5 : SCode := .region [⟨some 30, .move (.tmp 28), none⟩,
    ⟨some 31, .indexAddr 30 (.tmp 26) (.tmp 28), none⟩,
    ⟨some 32, .load 92 (.tmp 31), none⟩,
    ⟨some 4, .alloc 92, none⟩,
    ⟨some 3, .assign (.tmp 30), none⟩,
    ⟨none, .store 92 (.tmp 4) (.tmp 32), none⟩]
def q58_6 : SCode := .draw [⟨some 33, .fieldAddr 92 (.tmp 4) 0, none⟩,
    ⟨some 34, .load 3 (.tmp 33), none⟩,
    ⟨some 35, .binOp .lss 3 (.tmp 34) (.const (.int .i64 0)) 3, none⟩,
    ⟨some 36, .move (.tmp 35), none⟩,
    ⟨some 37, .fieldAddr 92 (.tmp 4) 0, some (36, false)⟩,
    ⟨some 38, .load 3 (.tmp 37), some (36, false)⟩,
    ⟨some 39, .fieldAddr 86 (.tmp 1) 0, some (36, false)⟩,
    ⟨some 40, .load 3 (.tmp 39), some (36, false)⟩,
    ⟨some 41, .binOp .shl 3 (.const (.int .i64 1)) (.tmp 40) 3, some (36, false)⟩,
    ⟨some 42, .binOp .geq 3 (.tmp 38) (.tmp 41) 3, some (36, false)⟩,
    ⟨some 43, .pick (.tmp 36) (.const (.bool true)) (.tmp 42), none⟩,
    ⟨some 44, .move (.tmp 43), none⟩,
    ⟨some 45, .fieldAddr 92 (.tmp 4) 1, some (44, false)⟩,
    ⟨some 46, .load 3 (.tmp 45), some (44, false)⟩,
    ⟨some 47, .binOp .lss 3 (.tmp 46) (.const (.int .i64 0)) 3, some (44, false)⟩,
    ⟨some 48, .pick (.tmp 44) (.const (.bool true)) (.tmp 47), none⟩,
    ⟨some 49, .move (.tmp 48), none⟩,
    ⟨some 50, .fieldAddr 92 (.tmp 4) 1, some (49, false)⟩,
    ⟨some 51, .load 3 (.tmp 50), some (49, false)⟩,
    ⟨some 52, .binOp .gtr 3 (.tmp 51) (.const (.int .i64 12)) 3, some (49, false)⟩,
    ⟨some 53, .pick (.tmp 49) (.const (.bool true)) (.tmp 52), none⟩]
   [[], [0], [1], [2], [3], [4, 3], [3], [6, 3], [7, 3], [5, 8, 3], [3, 9], [10, 3], [11], [12, 11], [13, 11], [11, 14], [15, 11], [16], [17, 16], [18, 16], [16, 19]]
@[reducible] def q58_7 : SCode := .region [⟨some 2, .assign (.const (.bool false)), none⟩]
@[reducible] def q58_8 : SCode := .region [⟨some 54, .fieldAddr 86 (.tmp 1) 1, none⟩,
    ⟨some 55, .load 30 (.tmp 54), none⟩,
    ⟨some 56, .move (.tmp 3), none⟩,
    ⟨some 57, .slice 30 (.tmp 55) none (some (.tmp 56)) none, none⟩,
    ⟨some 58, .makeFunc (.func 99) #[] #[.tmp 4], none⟩,
    ⟨some 59, .call { callee := .value (.func 98), args := #[.tmp 57, .tmp 58], argTypes := #[30, 112] }, none⟩]
@[reducible] def q58_9 : SCode := .region [⟨some 2, .assign (.const (.bool false)), none⟩]
@[reducible] def q58_10 : SCode := .region [⟨some 60, .binOp .add 3 (.tmp 28) (.const (.int .i64 1)) 3, none⟩,
    ⟨some 28, .move (.tmp 60), none⟩]
def l58_0 : SCode := (.seq q58_4 (.seq (.cond (.tmp 29) .skip (.exit 0)) (.seq (.block 1 (.seq q58_5 (.seq (.seq q58_6 (.cond (.tmp 53) (.seq q58_7 .ret) .skip)) (.seq q58_8 (.cond (.tmp 59) (.seq q58_9 .ret) .skip))))) q58_10)))
@[reducible] def q58_11 : SCode := .region [⟨some 2, .assign (.const (.bool true)), none⟩]
def s58 : SCode := (.seq q58_0 (.seq (.seq q58_1 (.cond (.tmp 24) (.seq q58_2 .ret) .skip)) (.seq (.seq q58_3 (.block 0 (.loop l58_0))) (.seq q58_11 .ret))))
theorem s58_strip : Ya (Zv Try.f58) = s58 := by kernel_rfl
theorem s58_ok : Yp 61 (Zv Try.f58) = true := by kernel_rfl
/-! 60: (planchet bets.table).corners -/
@[reducible] def q60_0 : SCode := .region [⟨some 1, .box 86 (.tmp 0), none⟩,
    ⟨some 2, .assign (.const (.slice none 0 0)), none⟩]
@[reducible] def q60_1 : SCode := .region [⟨some 3, .assign (.const (.slice none 0 0)), none⟩]
@[reducible] def q60_2 : SCode := .region [⟨some 4, .assign (.const (.int .i64 1)), none⟩]
@[reducible] def q60_3 : SCode := .region [⟨some 16, .move (.tmp 4), none⟩,
    ⟨some 17, .fieldAddr 86 (.tmp 1) 0, none⟩,
    ⟨some 18, .load 3 (.tmp 17), none⟩,
    ⟨some 19, .binOp .shl 3 (.const (.int .i64 1)) (.tmp 18) 3, none⟩,
    ⟨some 20, .binOp .lss 3 (.tmp 16) (.tmp 19) 3, none⟩]
@[reducible] def q60_5 : SCode := .region [⟨some 5, .alloc 38, none⟩]
@[reducible] def q60_6 : SCode := .region [⟨some 23, .fieldAddr 86 (.tmp 1) 0, none⟩,
    ⟨some 24, .load 3 (.tmp 23), none⟩,
    ⟨some 25, .move (.const (.int .i64 0)), none⟩]
@[reducible] def q60_7 : SCode := .region [⟨some 26, .binOp .lss 3 (.tmp 25) (.tmp 24) 3, none⟩]
@[reducible] def q60_8 : SCode := .region [⟨some 27, .move (.tmp 25), none⟩,
    ⟨some 6, .assign (.tmp 27), none⟩]
@[reducible] def q60_9 : SCode := .region [⟨some 28, .move (.tmp 4), none⟩,
    ⟨some 29, .move (.tmp 6), none⟩,
    ⟨some 30, .binOp .shr 3 (.tmp 28) (.tmp 29) 3, none⟩,
    ⟨some 31, .binOp .and 3 (.tmp 30) (.const (.int .i64 1)) 3, none⟩,
    ⟨some 32, .binOp .eql 3 (.tmp 31) (.const (.int .i64 1)) 3, none⟩]
@[reducible] def q60_10 : SCode := .region [⟨some 33, .load 38 (.tmp 5), none⟩,
    ⟨some 34, .move (.tmp 6), none⟩,
    ⟨some 35, .buildSlice 38 1 #[(0, .tmp 34)], none⟩,
    ⟨some 36, .call { callee := .builtin .append, args := #[.tmp 33, .tmp 35], argTypes := #[38, 38] }, none⟩,
    ⟨none, .store 38 (.tmp 5) (.tmp 36), none⟩]
@[reducible] def q60_11 : SCode := .region [⟨some 37, .binOp .add 3 (.tmp 25) (.const (.int .i64 1)) 3, none⟩,
    ⟨some 25, .move (.tmp 37), none⟩]
def l60_0 : SCode := (.seq q60_7 (.seq (.cond (.tmp 26) .skip (.exit 2)) (.seq (.block 3 (.seq q60_8 (.seq q60_9 (.cond (.tmp 32) q60_10 .skip)))) q60_11)))
@[reducible] def q60_12 : SCode := .region [⟨some 38, .makeFunc (.func 100) #[] #[.tmp 5], none⟩,
    ⟨some 7, .assign (.tmp 38), none⟩]
def q60_13 : SCode := .draw [⟨some 39, .move (.tmp 7), none⟩,
    ⟨some 40, .fieldAddr 86 (.tmp 1) 0, none⟩,
    ⟨some 41, .load 3 (.tmp 40), none⟩,
    ⟨some 42, .binOp .shl 3 (.const (.int .i64 1)) (.tmp 41) 3, none⟩,
    ⟨some 43, .binOp .sub 3 (.tmp 42) (.const (.int .i64 1)) 3, none⟩,
    ⟨some 44, .call { callee := .value (.func 70), args := #[.const (.int .i64 1)], argTypes := #[3] }, none⟩,
    ⟨some 45, .call { callee := .value (.tmp 39), args := #[.tmp 43, .tmp 44], argTypes := #[3, 26] }, none⟩,
    ⟨some 46, .buildSlice 103 1 #[(0, .tmp 45)], none⟩,
    ⟨some 8, .assign (.tmp 46), none⟩]
   [[], [], [1], [2], [3], [], [0, 4, 5, 5], [6], [7, 6, 0, 1, 2, 3, 4, 5, 6, 7]]
@[reducible] def q60_14 : SCode := .region [⟨some 47, .fieldAddr 86 (.tmp 1) 1, none⟩,
    ⟨some 48, .load 30 (.tmp 47), none⟩,
    ⟨some 49, .call { callee := .builtin .len, args := #[.tmp 48], argTypes := #[30] }, none⟩,
    ⟨some 50, .move (.const (.int .i64 0)), none⟩]
@[reducible] def q60_15 : SCode := .region [⟨some 51, .binOp .lss 3 (.tmp 50) (.tmp 49) 3, none⟩]
@[reducible] def q60_16 : SCode := .region [⟨some 52, .indexAddr 30 (.tmp 48) (.tmp 50), none⟩,
    ⟨some 53, .load 92 (.tmp 52), none⟩,
    ⟨some 10, .alloc 92, none⟩,
    ⟨none, .store 92 (.tmp 10) (.tmp 53), none⟩]
def q60_17 : SCode := .draw [⟨some 54, .move (.tmp 8), none⟩,
    ⟨some 55, .move (.tmp 7), none⟩,
    ⟨some 56, .fieldAddr 92 (.tmp 10) 0, none⟩,
    ⟨some 57, .load 3 (.tmp 56), none⟩,
    ⟨some 58, .fieldAddr 92 (.tmp 10) 1, none⟩,
    ⟨some 59, .load 3 (.tmp 58), none⟩,
    ⟨some 60, .call { callee := .value (.func 64), args := #[.tmp 59, .const (.int .i64 12)], argTypes := #[3, 3] }, none⟩,
    ⟨some 61, .call { callee := .value (.tmp 55), args := #[.tmp 57, .tmp 60], argTypes := #[3, 26] }, none⟩,
    ⟨some 62, .buildSlice 103 1 #[(0, .tmp 61)], none⟩,
    ⟨some 63, .call { callee := .builtin .append, args := #[.tmp 54, .tmp 62], argTypes := #[103, 103] }, none⟩,
    ⟨some 8, .assign (.tmp 63), none⟩]
   [[], [], [], [2], [], [4], [5], [1, 3, 6, 6], [7], [0, 8, 7], [9, 9, 0, 1, 2, 3, 4, 5, 6, 7, 8, 9]]
@[reducible] def q60_18 : SCode := .region [⟨some 64, .binOp .add 3 (.tmp 50) (.const (.int .i64 1)) 3, none⟩,
    ⟨some 50, .move (.tmp 64), none⟩]
def l60_1 : SCode := (.seq q60_15 (.seq (.cond (.tmp 51) .skip (.exit 4)) (.seq (.block 5 (.seq q60_16 q60_17)) q60_18)))
@[reducible] def q60_19 : SCode := .region [⟨some 66, .move (.tmp 8), none⟩,
    ⟨some 67, .load 38 (.tmp 5), none⟩,
    ⟨some 68, .call { callee := .builtin .len, args := #[.tmp 67], argTypes := #[38] }, none⟩,
    ⟨some 69, .call { callee := .value (.func 87), args := #[.tmp 66, .tmp 68], argTypes := #[103, 3] }, none⟩,
    ⟨some 65, .move (.tmp 69), none⟩,
    ⟨some 70, .extract (.tmp 65) 0, none⟩,
    ⟨some 71, .extract (.tmp 65) 1, none⟩,
    ⟨some 11, .assign (.tmp 70), none⟩,
    ⟨some 12, .assign (.tmp 71), none⟩]
@[reducible] def q60_20 : SCode := .region [⟨some 72, .move (.tmp 12), none⟩,
    ⟨some 73, .unOp .not 4 (.tmp 72), none⟩,
    ⟨some 74, .move (.tmp 73), none⟩,
    ⟨some 75, .move (.tmp 11), some (74, false)⟩,
    ⟨some 76, .call { callee := .value (.func 101), args := #[.tmp 75, .func 102], argTypes := #[47, 35] }, some (74, false)⟩,
    ⟨some 77, .pick (.tmp 74) (.const (.bool true)) (.tmp 76), none⟩]
def q60_21 : SCode := .draw [⟨some 78, .call { callee := .value (.func 70), args := #[.const (.int .i64 0)], argTypes := #[3] }, none⟩,
    ⟨some 79, .buildSlice 47 1 #[(0, .tmp 78)], none⟩,
    ⟨some 80, .fieldAddr 86 (.tmp 1) 0, none⟩,
    ⟨some 81, .load 3 (.tmp 80), none⟩,
    ⟨some 82, .call { callee := .value (.func 95), args := #[.tmp 79, .tmp 81], argTypes := #[47, 3] }, none⟩,
    ⟨some 13, .assign (.tmp 82), none⟩]
   [[], [0], [], [2], [1, 3, 0], [4, 4, 0, 1, 2, 3, 4]]
@[reducible] def q60_22 : SCode := .region [⟨some 83, .load 38 (.tmp 5), none⟩,
    ⟨some 84, .call { callee := .builtin .len, args := #[.tmp 83], argTypes := #[38] }, none⟩,
    ⟨some 85, .move (.const (.int .i64 0)), none⟩]
@[reducible] def q60_23 : SCode := .region [⟨some 86, .binOp .lss 3 (.tmp 85) (.tmp 84) 3, none⟩]
@[reducible] def q60_24 : SCode := .region [⟨some 87, .move (.tmp 85), none⟩,
    ⟨some 88, .indexAddr 38 (.tmp 83) (.tmp 85), none⟩,
    ⟨some 89, .load 3 (.tmp 88), none⟩,
    ⟨some 14, .assign (.tmp 87), none⟩,
    ⟨some 15, .assign (.tmp 89), none⟩]
@[reducible] def q60_25 : SCode := .region [⟨some 90, .move (.tmp 13), none⟩,
    ⟨some 91, .move (.tmp 15), none⟩,
    ⟨some 92, .move (.tmp 11), none⟩,
    ⟨some 93, .move (.tmp 14), none⟩,
    ⟨some 94, .indexAddr 47 (.tmp 92) (.tmp 93), none⟩,
    ⟨some 95, .load 26 (.tmp 94), none⟩,
    ⟨some 96, .indexAddr 90 (.tmp 90) (.tmp 91), none⟩,
    ⟨none, .store 26 (.tmp 96) (.tmp 95), none⟩]
@[reducible] def q60_26 : SCode := .region [⟨some 97, .binOp .add 3 (.tmp 85) (.const (.int .i64 1)) 3, none⟩,
    ⟨some 85, .move (.tmp 97), none⟩]
def l60_2 : SCode := (.seq q60_23 (.seq (.cond (.tmp 86) .skip (.exit 6)) (.seq (.block 7 (.seq q60_24 q60_25)) q60_26)))
@[reducible] def q60_27 : SCode := .region [⟨some 98, .move (.tmp 3), none⟩,
    ⟨some 99, .move (.tmp 13), none⟩,
    ⟨some 100, .buildSlice 88 1 #[(0, .tmp 99)], none⟩,
    ⟨some 101, .call { callee := .builtin .append, args := #[.tmp 98, .tmp 100], argTypes := #[88, 88] }, none⟩,
    ⟨some 3, .assign (.tmp 101), none⟩]
@[reducible] def q60_4 : SCode := .region [⟨some 21, .move (.tmp 4), none⟩,
    ⟨some 22, .binOp .add 3 (.tmp 21) (.const (.int .i64 1)) 3, none⟩,
    ⟨some 4, .assign (.tmp 22), none⟩]
def l60_3 : SCode := (.seq (.seq q60_3 (.cond (.tmp 20) .skip (.exit 0))) (.seq (.block 1 (.seq q60_5 (.seq (.seq q60_6 (.block 2 (.loop l60_0))) (.seq q60_12 (.seq q60_13 (.seq (.seq q60_14 (.block 4 (.loop l60_1))) (.seq q60_19 (.seq (.seq q60_20 (.cond (.tmp 77) (.exit 1) .skip)) (.seq q60_21 (.seq (.seq q60_22 (.block 6 (.loop l60_2))) q60_27)))))))))) q60_4))
@[reducible] def q60_28 : SCode := .region [⟨some 102, .move (.tmp 3), none⟩,
    ⟨some 2, .assign (.tmp 102), none⟩]
def s60 : SCode := (.seq q60_0 (.seq q60_1 (.seq (.seq q60_2 (.block 0 (.loop l60_3))) (.seq q60_28 .ret))))
theorem s60_strip : Ya (Zv Try.f60) = s60 := by kernel_rfl
theorem s60_ok : Yp 103 (Zv Try.f60) = true := by kernel_rfl
/-! 87: (planchet bets.equations).solve -/
@[reducible] def q87_0 : SCode := .region [⟨some 4, .assign (.const (.slice none 0 0)), none⟩,
    ⟨some 5, .assign (.const (.bool false)), none⟩]
@[reducible] def q87_1 : SCode := .region [⟨some 6, .assign (.const (.int .i64 0)), none⟩]
@[reducible] def q87_2 : SCode := .region [⟨some 18, .move (.tmp 1), none⟩,
    ⟨some 19, .move (.const (.int .i64 0)), none⟩]
@[reducible] def q87_3 : SCode := .region [⟨some 20, .binOp .lss 3 (.tmp 19) (.tmp 18) 3, none⟩]
@[reducible] def q87_4 : SCode := .region [⟨some 21, .move (.tmp 19), none⟩,
    ⟨some 7, .alloc 3, none⟩,
    ⟨none, .store 3 (.tmp 7) (.tmp 21), none⟩]
@[reducible] def q87_5 : SCode := .region [⟨some 22, .move (.tmp 0), none⟩,
    ⟨some 23, .move (.tmp 6), none⟩,
    ⟨some 24, .slice 103 (.tmp 22) (some (.tmp 23)) none none, none⟩,
    ⟨some 25, .makeFunc (.func 112) #[] #[.tmp 7], none⟩,
    ⟨some 26, .call { callee := .value (.func 111), args := #[.tmp 24, .tmp 25], argTypes := #[103, 51] }, none⟩,
    ⟨some 8, .assign (.tmp 26), none⟩]
@[reducible] def q87_6 : SCode := .region [⟨some 27, .move (.tmp 8), none⟩,
    ⟨some 28, .binOp .lss 3 (.tmp 27) (.const (.int .i64 0)) 3, none⟩]
@[reducible] def q87_7 : SCode := .region [⟨some 4, .assign (.const (.slice none 0 0)), none⟩,
    ⟨some 5, .assign (.const (.bool false)), none⟩]
def q87_8 : SCode := .draw [⟨some 29, .move (.tmp 0), none⟩,
    ⟨some 30, .move (.tmp 6), none⟩,
    ⟨some 31, .move (.tmp 0), none⟩,
    ⟨some 32, .move (.tmp 6), none⟩,
    ⟨some 33, .move (.tmp 8), none⟩,
    ⟨some 34, .binOp .add 3 (.tmp 32) (.tmp 33) 3, none⟩,
    ⟨some 35, .move (.tmp 0), none⟩,
    ⟨some 36, .move (.tmp 6), none⟩,
    ⟨some 37, .move (.tmp 8), none⟩,
    ⟨some 38, .binOp .add 3 (.tmp 36) (.tmp 37) 3, none⟩,
    ⟨some 39, .indexAddr 103 (.tmp 35) (.tmp 38), none⟩,
    ⟨some 40, .load 47 (.tmp 39), none⟩,
    ⟨some 41, .move (.tmp 0), none⟩,
    ⟨some 42, .move (.tmp 6), none⟩,
    ⟨some 43, .indexAddr 103 (.tmp 41) (.tmp 42), none⟩,
    ⟨some 44, .load 47 (.tmp 43), none⟩,
    ⟨some 45, .indexAddr 103 (.tmp 29) (.tmp 30), none⟩,
    ⟨none, .store 47 (.tmp 45) (.tmp 40), none⟩,
    ⟨some 46, .indexAddr 103 (.tmp 31) (.tmp 34), none⟩,
    ⟨none, .store 47 (.tmp 46) (.tmp 44), none⟩]
   [[], [], [], [], [], [3, 4], [], [], [], [7, 8], [6, 9], [10], [], [], [12, 13], [14], [0, 1, 0, 1, 6, 7, 8, 9, 10, 11, 15], [16, 11, 0, 1, 6, 7, 8, 9, 10, 11, 15], [2, 5, 0, 1, 2, 3, 4, 5, 6, 7, 8, 9, 10, 11, 12, 13, 14, 15, 16, 17], [18, 15, 17, 0, 1, 2, 3, 4, 5, 6, 7, 8, 9, 10, 11, 12, 13, 14, 15, 16, 17]]
def q87_9 : SCode := .draw [⟨some 47, .move (.tmp 0), none⟩,
    ⟨some 48, .move (.tmp 6), none⟩,
    ⟨some 49, .indexAddr 103 (.tmp 47) (.tmp 48), none⟩,
    ⟨some 50, .load 47 (.tmp 49), none⟩,
    ⟨some 51, .load 3 (.tmp 7), none⟩,
    ⟨some 52, .indexAddr 47 (.tmp 50) (.tmp 51), none⟩,
    ⟨some 53, .load 26 (.tmp 52), none⟩,
    ⟨some 9, .alloc 26, none⟩,
    ⟨none, .store 26 (.tmp 9) (.tmp 53), none⟩]
   [[], [], [0, 1], [2], [], [3, 4], [5], [], [7, 6, 0, 1, 2, 3, 4, 5, 6, 7]]
@[reducible] def q87_10 : SCode := .region [⟨some 54, .move (.tmp 0), none⟩,
    ⟨some 55, .move (.tmp 6), none⟩,
    ⟨some 56, .indexAddr 103 (.tmp 54) (.tmp 55), none⟩,
    ⟨some 57, .load 47 (.tmp 56), none⟩,
    ⟨some 58, .call { callee := .builtin .len, args := #[.tmp 57], argTypes := #[47] }, none⟩,
    ⟨some 59, .move (.const (.int .i64 0)), none⟩]
@[reducible] def q87_11 : SCode := .region [⟨some 60, .binOp .lss 3 (.tmp 59) (.tmp 58) 3, none⟩]
@[reducible] def q87_12 : SCode := .region [⟨some 61, .move (.tmp 59), none⟩,
    ⟨some 10, .assign (.tmp 61), none⟩]
def q87_13 : SCode := .draw [⟨some 62, .move (.tmp 0), none⟩,
    ⟨some 63, .move (.tmp 6), none⟩,
    ⟨some 64, .indexAddr 103 (.tmp 62) (.tmp 63), none⟩,
    ⟨some 65, .load 47 (.tmp 64), none⟩,
    ⟨some 66, .move (.tmp 10), none⟩,
    ⟨some 67, .move (.tmp 0), none⟩,
    ⟨some 68, .move (.tmp 6), none⟩,
    ⟨some 69, .indexAddr 103 (.tmp 67) (.tmp 68), none⟩,
    ⟨some 70, .load 47 (.tmp 69), none⟩,
    ⟨some 71, .move (.tmp 10), none⟩,
    ⟨some 72, .indexAddr 47 (.tmp 70) (.tmp 71), none⟩,
    ⟨some 73, .load 26 (.tmp 72), none⟩,
    ⟨some 74, .load 26 (.tmp 9), none⟩,
    ⟨some 75, .call { callee := .value (.func 94), args := #[.tmp 73, .tmp 74], argTypes := #[26, 26] }, none⟩,
    ⟨some 76, .indexAddr 47 (.tmp 65) (.tmp 66), none⟩,
    ⟨none, .store 26 (.tmp 76) (.tmp 75), none⟩]
   [[], [], [0, 1], [2], [], [], [], [5, 6], [7], [], [8, 9], [10], [], [11, 12], [3, 4, 0, 1, 2, 3, 4, 5, 6, 7, 8, 9, 10, 11, 12, 13], [14, 13, 13, 0, 1, 2, 3, 4, 5, 6, 7, 8, 9, 10, 11, 12, 13]]
@[reducible] def q87_14 : SCode := .region [⟨some 77, .binOp .add 3 (.tmp 59) (.const (.int .i64 1)) 3, none⟩,
    ⟨some 59, .move (.tmp 77), none⟩]
def l87_0 : SCode := (.seq q87_11 (.seq (.cond (.tmp 60) .skip (.exit 2)) (.seq (.block 3 (.seq q87_12 q87_13)) q87_14)))
@[reducible] def q87_15 : SCode := .region [⟨some 78, .move (.tmp 0), none⟩,
    ⟨some 79, .call { callee := .builtin .len, args := #[.tmp 78], argTypes := #[103] }, none⟩,
    ⟨some 80, .move (.const (.int .i64 0)), none⟩]
@[reducible] def q87_16 : SCode := .region [⟨some 81, .binOp .lss 3 (.tmp 80) (.tmp 79) 3, none⟩]
@[reducible] def q87_17 : SCode := .region [⟨some 82, .move (.tmp 80), none⟩,
    ⟨some 11, .assign (.tmp 82), none⟩]
def q87_18 : SCode := .draw [⟨some 83, .move (.tmp 0), none⟩,
    ⟨some 84, .move (.tmp 11), none⟩,
    ⟨some 85, .indexAddr 103 (.tmp 83) (.tmp 84), none⟩,
    ⟨some 86, .load 47 (.tmp 85), none⟩,
    ⟨some 87, .load 3 (.tmp 7), none⟩,
    ⟨some 88, .indexAddr 47 (.tmp 86) (.tmp 87), none⟩,
    ⟨some 89, .load 26 (.tmp 88), none⟩,
    ⟨some 12, .alloc 26, none⟩,
    ⟨none, .store 26 (.tmp 12) (.tmp 89), none⟩]
   [[], [], [0, 1], [2], [], [3, 4], [5], [], [7, 6, 0, 1, 2, 3, 4, 5, 6, 7]]
@[reducible] def q87_19 : SCode := .region [⟨some 90, .move (.tmp 11), none⟩,
    ⟨some 91, .move (.tmp 6), none⟩,
    ⟨some 92, .binOp .neq 3 (.tmp 90) (.tmp 91) 3, none⟩,
    ⟨some 93, .move (.tmp 92), none⟩,
    ⟨some 94, .fieldAddr 26 (.tmp 12) 0, some (93, true)⟩,
    ⟨some 95, .load 3 (.tmp 94), some (93, true)⟩,
    ⟨some 96, .binOp .neq 3 (.tmp 95) (.const (.int .i64 0)) 3, some (93, true)⟩,
    ⟨some 97, .pick (.tmp 93) (.tmp 96) (.const (.bool false)), none⟩]
@[reducible] def q87_20 : SCode := .region [⟨some 98, .move (.tmp 0), none⟩,
    ⟨some 99, .move (.tmp 11), none⟩,
    ⟨some 100, .indexAddr 103 (.tmp 98) (.tmp 99), none⟩,
    ⟨some 101, .load 47 (.tmp 100), none⟩,
    ⟨some 102, .call { callee := .builtin .len, args := #[.tmp 101], argTypes := #[47] }, none⟩,
    ⟨some 103, .move (.const (.int .i64 0)), none⟩]
@[reducible] def q87_21 : SCode := .region [⟨some 104, .binOp .lss 3 (.tmp 103) (.tmp 102) 3, none⟩]
@[reducible] def q87_22 : SCode := .region [⟨some 105, .move (.tmp 103), none⟩,
    ⟨some 13, .assign (.tmp 105), none⟩]
def q87_23 : SCode := .draw [⟨some 106, .move (.tmp 0), none⟩,
    ⟨some 107, .move (.tmp 11), none⟩,
    ⟨some 108, .indexAddr 103 (.tmp 106) (.tmp 107), none⟩,
    ⟨some 109, .load 47 (.tmp 108), none⟩,
    ⟨some 110, .move (.tmp 13), none⟩,
    ⟨some 111, .move (.tmp 0), none⟩,
    ⟨some 112, .move (.tmp 11), none⟩,
    ⟨some 113, .indexAddr 103 (.tmp 111) (.tmp 112), none⟩,
    ⟨some 114, .load 47 (.tmp 113), none⟩,
    ⟨some 115, .move (.tmp 13), none⟩,
    ⟨some 116, .indexAddr 47 (.tmp 114) (.tmp 115), none⟩,
    ⟨some 117, .load 26 (.tmp 116), none⟩,
    ⟨some 118, .load 26 (.tmp 12), none⟩,
    ⟨some 119, .move (.tmp 0), none⟩,
    ⟨some 120, .move (.tmp 6), none⟩,
    ⟨some 121, .indexAddr 103 (.tmp 119) (.tmp 120), none⟩,
    ⟨some 122, .load 47 (.tmp 121), none⟩,
    ⟨some 123, .move (.tmp 13), none⟩,
    ⟨some 124, .indexAddr 47 (.tmp 122) (.tmp 123), none⟩,
    ⟨some 125, .load 26 (.tmp 124), none⟩,
    ⟨some 126, .call { callee := .value (.func 72), args := #[.tmp 118, .tmp 125], argTypes := #[26, 26] }, none⟩,
    ⟨some 127, .call { callee := .value (.func 71), args := #[.tmp 117, .const (.int .i64 (-1)), .tmp 126], argTypes := #[26, 3, 26] }, none⟩,
    ⟨some 128, .indexAddr 47 (.tmp 109) (.tmp 110), none⟩,
    ⟨none, .store 26 (.tmp 128) (.tmp 127), none⟩]
   [[], [], [0, 1], [2], [], [], [], [5, 6], [7], [], [8, 9], [10], [], [], [], [13, 14], [15], [], [16, 17], [18], [12, 19], [11, 20, 20], [3, 4, 0, 1, 2, 3, 4, 5, 6, 7, 8, 9, 10, 11, 12, 13, 14, 15, 16, 17, 18, 19, 20, 21], [22, 21, 21, 0, 1, 2, 3, 4, 5, 6, 7, 8, 9, 10, 11, 12, 13, 14, 15, 16, 17, 18, 19, 20, 21]]
@[reducible] def q87_24 : SCode := .region [⟨some 129, .binOp .add 3 (.tmp 103) (.const (.int .i64 1)) 3, none⟩,
    ⟨some 103, .move (.tmp 129), none⟩]
def l87_1 : SCode := (.seq q87_21 (.seq (.cond (.tmp 104) .skip (.exit 6)) (.seq (.block 7 (.seq q87_22 q87_23)) q87_24)))
@[reducible] def q87_25 : SCode := .region [⟨some 130, .binOp .add 3 (.tmp 80) (.const (.int .i64 1)) 3, none⟩,
    ⟨some 80, .move (.tmp 130), none⟩]
def l87_2 : SCode := (.seq q87_16 (.seq (.cond (.tmp 81) .skip (.exit 4)) (.seq (.block 5 (.seq q87_17 (.seq q87_18 (.seq q87_19 (.cond (.tmp 97) (.seq q87_20 (.block 6 (.loop l87_1))) .skip))))) q87_25)))
@[reducible] def q87_26 : SCode := .region [⟨some 131, .move (.tmp 6), none⟩,
    ⟨some 132, .binOp .add 3 (.tmp 131) (.const (.int .i64 1)) 3, none⟩,
    ⟨some 6, .assign (.tmp 132), none⟩]
@[reducible] def q87_27 : SCode := .region [⟨some 133, .move (.tmp 6), none⟩,
    ⟨some 134, .move (.tmp 0), none⟩,
    ⟨some 135, .call { callee := .builtin .len, args := #[.tmp 134], argTypes := #[103] }, none⟩,
    ⟨some 136, .binOp .eql 3 (.tmp 133) (.tmp 135) 3, none⟩,
    ⟨some 137, .move (.tmp 136), none⟩,
    ⟨some 138, .load 3 (.tmp 7), some (137, true)⟩,
    ⟨some 139, .binOp .add 3 (.tmp 138) (.const (.int .i64 1)) 3, some (137, true)⟩,
    ⟨some 140, .move (.tmp 1), some (137, true)⟩,
    ⟨some 141, .binOp .lss 3 (.tmp 139) (.tmp 140) 3, some (137, true)⟩,
    ⟨some 142, .pick (.tmp 137) (.tmp 141) (.const (.bool false)), none⟩]
@[reducible] def q87_28 : SCode := .region [⟨some 4, .assign (.const (.slice none 0 0)), none⟩,
    ⟨some 5, .assign (.const (.bool false)), none⟩]
@[reducible] def q87_29 : SCode := .region [⟨some 143, .binOp .add 3 (.tmp 19) (.const (.int .i64 1)) 3, none⟩,
    ⟨some 19, .move (.tmp 143), none⟩]
def l87_3 : SCode := (.seq q87_3 (.seq (.cond (.tmp 20) .skip (.exit 0)) (.seq (.block 1 (.seq q87_4 (.seq q87_5 (.seq (.seq q87_6 (.cond (.tmp 28) (.seq q87_7 .ret) .skip)) (.seq q87_8 (.seq q87_9 (.seq (.seq q87_10 (.block 2 (.loop l87_0))) (.seq (.seq q87_15 (.block 4 (.loop l87_2))) (.seq q87_26 (.seq q87_27 (.cond (.tmp 142) (.seq q87_28 .ret) .skip))))))))))) q87_29)))
@[reducible] def q87_30 : SCode := .region [⟨some 144, .move (.tmp 0), none⟩,
    ⟨some 145, .move (.tmp 6), none⟩,
    ⟨some 146, .slice 103 (.tmp 144) (some (.tmp 145)) none none, none⟩,
    ⟨some 147, .call { callee := .builtin .len, args := #[.tmp 146], argTypes := #[103] }, none⟩,
    ⟨some 148, .move (.const (.int .i64 0)), none⟩]
@[reducible] def q87_31 : SCode := .region [⟨some 149, .binOp .lss 3 (.tmp 148) (.tmp 147) 3, none⟩]
@[reducible] def q87_32 : SCode := .region [⟨some 150, .indexAddr 103 (.tmp 146) (.tmp 148), none⟩,
    ⟨some 151, .load 47 (.tmp 150), none⟩,
    ⟨some 15, .assign (.tmp 151), none⟩]
@[reducible] def q87_33 : SCode := .region [⟨some 152, .move (.tmp 15), none⟩,
    ⟨some 153, .move (.tmp 1), none⟩,
    ⟨some 154, .indexAddr 47 (.tmp 152) (.tmp 153), none⟩,
    ⟨some 155, .fieldAddr 26 (.tmp 154) 0, none⟩,
    ⟨some 156, .load 3 (.tmp 155), none⟩,
    ⟨some 157, .binOp .neq 3 (.tmp 156) (.const (.int .i64 0)) 3, none⟩]
@[reducible] def q87_34 : SCode := .region [⟨some 4, .assign (.const (.slice none 0 0)), none⟩,
    ⟨some 5, .assign (.const (.bool false)), none⟩]
@[reducible] def q87_35 : SCode := .region [⟨some 158, .binOp .add 3 (.tmp 148) (.const (.int .i64 1)) 3, none⟩,
    ⟨some 148, .move (.tmp 158), none⟩]
def l87_4 : SCode := (.seq q87_31 (.seq (.cond (.tmp 149) .skip (.exit 8)) (.seq (.block 9 (.seq q87_32 (.seq q87_33 (.cond (.tmp 157) (.seq q87_34 .ret) .skip)))) q87_35)))
@[reducible] def q87_36 : SCode := .region [⟨some 159, .move (.tmp 0), none⟩,
    ⟨some 160, .move (.tmp 6), none⟩,
    ⟨some 161, .slice 103 (.tmp 159) none (some (.tmp 160)) none, none⟩,
    ⟨some 162, .call { callee := .builtin .len, args := #[.tmp 161], argTypes := #[103] }, none⟩,
    ⟨some 163, .move (.const (.int .i64 0)), none⟩]
@[reducible] def q87_37 : SCode := .region [⟨some 164, .binOp .lss 3 (.tmp 163) (.tmp 162) 3, none⟩]
@[reducible] def q87_38 : SCode := .region [⟨some 165, .indexAddr 103 (.tmp 161) (.tmp 163), none⟩,
    ⟨some 166, .load 47 (.tmp 165), none⟩,
    ⟨some 17, .assign (.tmp 166), none⟩]
@[reducible] def q87_39 : SCode := .region [⟨some 167, .move (.tmp 4), none⟩,
    ⟨some 168, .move (.tmp 17), none⟩,
    ⟨some 169, .move (.tmp 1), none⟩,
    ⟨some 170, .indexAddr 47 (.tmp 168) (.tmp 169), none⟩,
    ⟨some 171, .load 26 (.tmp 170), none⟩,
    ⟨some 172, .buildSlice 47 1 #[(0, .tmp 171)], none⟩,
    ⟨some 173, .call { callee := .builtin .append, args := #[.tmp 167, .tmp 172], argTypes := #[47, 47] }, none⟩,
    ⟨some 4, .assign (.tmp 173), none⟩]
@[reducible] def q87_40 : SCode := .region [⟨some 174, .binOp .add 3 (.tmp 163) (.const (.int .i64 1)) 3, none⟩,
    ⟨some 163, .move (.tmp 174), none⟩]
def l87_5 : SCode := (.seq q87_37 (.seq (.cond (.tmp 164) .skip (.exit 10)) (.seq (.block 11 (.seq q87_38 q87_39)) q87_40)))
@[reducible] def q87_41 : SCode := .region [⟨some 175, .move (.tmp 4), none⟩,
    ⟨some 4, .assign (.tmp 175), none⟩,
    ⟨some 5, .assign (.const (.bool true)), none⟩]
def s87 : SCode := (.seq q87_0 (.seq q87_1 (.seq (.seq q87_2 (.block 0 (.loop l87_3))) (.seq (.seq q87_30 (.block 8 (.loop l87_4))) (.seq (.seq q87_36 (.block 10 (.loop l87_5))) (.seq q87_41 .ret))))))
theorem s87_strip : Ya (Zv Try.f87) = s87 := by kernel_rfl
theorem s87_ok : Yp 176 (Zv Try.f87) = true := by kernel_rfl
/-! 95: slices.Repeat[[]planchet api.Frac,planchet api.Frac] -/
@[reducible] def q95_0 : SCode := .region [⟨some 4, .assign (.const (.slice none 0 0)), none⟩]
@[reducible] def q95_1 : SCode := .region [⟨some 9, .move (.tmp 1), none⟩,
    ⟨some 10, .binOp .lss 3 (.tmp 9) (.const (.int .i64 0)) 3, none⟩]
@[reducible] def q95_2 : SCode := .region [⟨some 11, .makeInterface 9 (.const (.string { data := #[99, 97, 110, 110, 111, 116, 32, 98, 101, 32, 110, 101, 103, 97, 116, 105, 118, 101] })), none⟩,
    ⟨none, .panic (.tmp 11), none⟩]
@[reducible] def q95_3 : SCode := .region [⟨some 13, .move (.tmp 0), none⟩,
    ⟨some 14, .call { callee := .builtin .len, args := #[.tmp 13], argTypes := #[47] }, none⟩,
    ⟨some 15, .convert 3 67 (.tmp 14), none⟩,
    ⟨some 16, .move (.tmp 1), none⟩,
    ⟨some 17, .convert 3 67 (.tmp 16), none⟩,
    ⟨some 18, .call { callee := .value (.func 114), args := #[.tmp 15, .tmp 17], argTypes := #[67, 67] }, none⟩,
    ⟨some 12, .move (.tmp 18), none⟩,
    ⟨some 19, .extract (.tmp 12) 0, none⟩,
    ⟨some 20, .extract (.tmp 12) 1, none⟩,
    ⟨some 5, .assign (.tmp 19), none⟩,
    ⟨some 6, .assign (.tmp 20), none⟩]
@[reducible] def q95_4 : SCode := .region [⟨some 21, .move (.tmp 5), none⟩,
    ⟨some 22, .binOp .gtr 67 (.tmp 21) (.const (.int .u64 0)) 67, none⟩,
    ⟨some 23, .move (.tmp 22), none⟩,
    ⟨some 24, .move (.tmp 6), some (23, false)⟩,
    ⟨some 25, .binOp .gtr 67 (.tmp 24) (.const (.int .u64 9223372036854775807)) 67, some (23, false)⟩,
    ⟨some 26, .pick (.tmp 23) (.const (.bool true)) (.tmp 25), none⟩]
@[reducible] def q95_5 : SCode := .region [⟨some 27, .makeInterface 9 (.const (.string { data := #[116, 104, 101, 32, 114, 101, 115, 117, 108, 116, 32, 111, 102, 32, 40, 108, 101, 110, 40, 120, 41, 32, 42, 32, 99, 111, 117, 110, 116, 41, 32, 111, 118, 101, 114, 102, 108, 111, 119, 115] })), none⟩,
    ⟨none, .panic (.tmp 27), none⟩]
@[reducible] def q95_6 : SCode := .region [⟨some 28, .move (.tmp 6), none⟩,
    ⟨some 29, .convert 67 3 (.tmp 28), none⟩,
    ⟨some 30, .makeSlice 47 (.tmp 29) (.tmp 29), none⟩,
    ⟨some 7, .assign (.tmp 30), none⟩]
@[reducible] def q95_7 : SCode := .region [⟨some 31, .move (.tmp 7), none⟩,
    ⟨some 32, .move (.tmp 0), none⟩,
    ⟨some 33, .call { callee := .builtin .copy, args := #[.tmp 31, .tmp 32], argTypes := #[47, 47] }, none⟩,
    ⟨some 8, .assign (.tmp 33), none⟩]
@[reducible] def q95_8 : SCode := .region [⟨some 34, .move (.tmp 8), none⟩,
    ⟨some 35, .move (.tmp 7), none⟩,
    ⟨some 36, .call { callee := .builtin .len, args := #[.tmp 35], argTypes := #[47] }, none⟩,
    ⟨some 37, .binOp .lss 3 (.tmp 34) (.tmp 36) 3, none⟩]
def q95_9 : SCode := .draw [⟨some 38, .move (.tmp 8), none⟩,
    ⟨some 39, .move (.tmp 7), none⟩,
    ⟨some 40, .move (.tmp 8), none⟩,
    ⟨some 41, .slice 47 (.tmp 39) (some (.tmp 40)) none none, none⟩,
    ⟨some 42, .move (.tmp 7), none⟩,
    ⟨some 43, .move (.tmp 8), none⟩,
    ⟨some 44, .slice 47 (.tmp 42) none (some (.tmp 43)) none, none⟩,
    ⟨some 45, .call { callee := .builtin .copy, args := #[.tmp 41, .tmp 44], argTypes := #[47, 47] }, none⟩,
    ⟨some 46, .binOp .add 3 (.tmp 38) (.tmp 45) 3, none⟩,
    ⟨some 8, .assign (.tmp 46), none⟩]
   [[], [], [], [1, 2], [], [], [4, 5], [3, 6], [0, 7], [8, 7, 0, 1, 2, 3, 4, 5, 6, 7, 8]]
def l95_0 : SCode := (.seq (.seq q95_8 (.cond (.tmp 37) .skip (.exit 0))) (.block 1 q95_9))
@[reducible] def q95_10 : SCode := .region [⟨some 47, .move (.tmp 7), none⟩,
    ⟨some 4, .assign (.tmp 47), none⟩]
def s95 : SCode := (.seq q95_0 (.seq (.seq q95_1 (.cond (.tmp 10) q95_2 .skip)) (.seq q95_3 (.seq (.seq q95_4 (.cond (.tmp 26) q95_5 .skip)) (.seq q95_6 (.seq q95_7 (.seq (.block 0 (.loop l95_0)) (.seq q95_10 .ret))))))))
theorem s95_strip : Ya (Zv Try.f95) = s95 := by kernel_rfl
theorem s95_ok : Yp 48 (Zv Try.f95) = true := by kernel_rfl
/-! 98: slices.ContainsFunc[[]planchet bets.Bet,planchet bets.Bet] -/
@[reducible] def q98_0 : SCode := .region [⟨some 4, .assign (.const (.bool false)), none⟩]
@[reducible] def q98_1 : SCode := .region [⟨some 5, .move (.tmp 0), none⟩,
    ⟨some 6, .move (.tmp 1), none⟩,
    ⟨some 7, .call { callee := .value (.func 115), args := #[.tmp 5, .tmp 6], argTypes := #[30, 112] }, none⟩,
    ⟨some 8, .binOp .geq 3 (.tmp 7) (.const (.int .i64 0)) 3, none⟩,
    ⟨some 4, .assign (.tmp 8), none⟩]
def s98 : SCode := (.seq q98_0 (.seq q98_1 .ret))
theorem s98_strip : Ya (Zv Try.f98) = s98 := by kernel_rfl
theorem s98_ok : Yp 9 (Zv Try.f98) = true := by kernel_rfl
/-! 99: (planchet bets.table).valid$1 -/
@[reducible] def q99_0 : SCode := .region [⟨some 2, .box 92 (.tmp 0), none⟩,
    ⟨some 3, .assign (.const (.bool false)), none⟩]
@[reducible] def q99_1 : SCode := .region [⟨some 4, .fieldAddr 92 (.tmp 2) 0, none⟩,
    ⟨some 5, .load 3 (.tmp 4), none⟩,
    ⟨some 6, .fieldAddr 92 (.tmp 1) 0, none⟩,
    ⟨some 7, .load 3 (.tmp 6), none⟩,
    ⟨some 8, .binOp .eql 3 (.tmp 5) (.tmp 7) 3, none⟩,
    ⟨some 3, .assign (.tmp 8), none⟩]
def s99 : SCode := (.seq q99_0 (.seq q99_1 .ret))
theorem s99_strip : Ya (Zv Try.f99) = s99 := by kernel_rfl
theorem s99_ok : Yp 9 (Zv Try.f99) = true := by kernel_rfl
/-! 100: (planchet bets.table).corners$1 -/
@[reducible] def q100_0 : SCode := .region [⟨some 4, .box 26 (.tmp 1), none⟩,
    ⟨some 5, .assign (.const (.slice none 0 0)), none⟩]
@[reducible] def q100_1 : SCode := .region [⟨some 6, .assign (.const (.slice none 0 0)), none⟩]
@[reducible] def q100_2 : SCode := .region [⟨some 9, .load 38 (.tmp 2), none⟩,
    ⟨some 10, .call { callee := .builtin .len, args := #[.tmp 9], argTypes := #[38] }, none⟩,
    ⟨some 11, .move (.const (.int .i64 0)), none⟩]
@[reducible] def q100_3 : SCode := .region [⟨some 12, .binOp .lss 3 (.tmp 11) (.tmp 10) 3, none⟩]
@[reducible] def q100_4 : SCode := .region [⟨some 13, .indexAddr 38 (.tmp 9) (.tmp 11), none⟩,
    ⟨some 14, .load 3 (.tmp 13), none⟩,
    ⟨some 8, .assign (.tmp 14), none⟩]
@[reducible] def q100_5 : SCode := .region [⟨some 15, .move (.tmp 6), none⟩,
    ⟨some 16, .move (.tmp 0), none⟩,
    ⟨some 17, .move (.tmp 8), none⟩,
    ⟨some 18, .binOp .shr 3 (.tmp 16) (.tmp 17) 3, none⟩,
    ⟨some 19, .binOp .and 3 (.tmp 18) (.const (.int .i64 1)) 3, none⟩,
    ⟨some 20, .call { callee := .value (.func 70), args := #[.tmp 19], argTypes := #[3] }, none⟩,
    ⟨some 21, .buildSlice 47 1 #[(0, .tmp 20)], none⟩,
    ⟨some 22, .call { callee := .builtin .append, args := #[.tmp 15, .tmp 21], argTypes := #[47, 47] }, none⟩,
    ⟨some 6, .assign (.tmp 22), none⟩]
@[reducible] def q100_6 : SCode := .region [⟨some 23, .binOp .add 3 (.tmp 11) (.const (.int .i64 1)) 3, none⟩,
    ⟨some 11, .move (.tmp 23), none⟩]
def l100_0 : SCode := (.seq q100_3 (.seq (.cond (.tmp 12) .skip (.exit 0)) (.seq (.block 1 (.seq q100_4 q100_5)) q100_6)))
@[reducible] def q100_7 : SCode := .region [⟨some 24, .move (.tmp 6), none⟩,
    ⟨some 25, .load 26 (.tmp 4), none⟩,
    ⟨some 26, .buildSlice 47 1 #[(0, .tmp 25)], none⟩,
    ⟨some 27, .call { callee := .builtin .append, args := #[.tmp 24, .tmp 26], argTypes := #[47, 47] }, none⟩,
    ⟨some 5, .assign (.tmp 27), none⟩]
def s100 : SCode := (.seq q100_0 (.seq q100_1 (.seq (.seq q100_2 (.block 0 (.loop l100_0))) (.seq q100_7 .ret))))
theorem s100_strip : Ya (Zv Try.f100) = s100 := by kernel_rfl
theorem s100_ok : Yp 28 (Zv Try.f100) = true := by kernel_rfl
/-! 111: slices.IndexFunc[planchet bets.equations,[]planchet api.Frac] -/
@[reducible] def q111_0 : SCode := .region [⟨some 4, .assign (.const (.int .i64 0)), none⟩]
@[reducible] def q111_1 : SCode := .region [⟨some 6, .move (.tmp 0), none⟩,
    ⟨some 7, .call { callee := .builtin .len, args := #[.tmp 6], argTypes := #[103] }, none⟩,
    ⟨some 8, .move (.const (.int .i64 0)), none⟩]
@[reducible] def q111_2 : SCode := .region [⟨some 9, .binOp .lss 3 (.tmp 8) (.tmp 7) 3, none⟩]
@[reducible] def q111_3 : SCode := .region [⟨some 10, .move (.tmp 8), none⟩,
    ⟨some 5, .assign (.tmp 10), none⟩]
@[reducible] def q111_4 : SCode := .region [⟨some 11, .move (.tmp 1), none⟩,
    ⟨some 12, .move (.tmp 0), none⟩,
    ⟨some 13, .move (.tmp 5), none⟩,
    ⟨some 14, .indexAddr 103 (.tmp 12) (.tmp 13), none⟩,
    ⟨some 15, .load 47 (.tmp 14), none⟩,
    ⟨some 16, .call { callee := .value (.tmp 11), args := #[.tmp 15], argTypes := #[47] }, none⟩]
@[reducible] def q111_5 : SCode := .region [⟨some 17, .move (.tmp 5), none⟩,
    ⟨some 4, .assign (.tmp 17), none⟩]
@[reducible] def q111_6 : SCode := .region [⟨some 18, .binOp .add 3 (.tmp 8) (.const (.int .i64 1)) 3, none⟩,
    ⟨some 8, .move (.tmp 18), none⟩]
def l111_0 : SCode := (.seq q111_2 (.seq (.cond (.tmp 9) .skip (.exit 0)) (.seq (.block 1 (.seq q111_3 (.seq q111_4 (.cond (.tmp 16) (.seq q111_5 .ret) .skip)))) q111_6)))
@[reducible] def q111_7 : SCode := .region [⟨some 4, .assign (.const (.int .i64 (-1))), none⟩]
def s111 : SCode := (.seq q111_0 (.seq (.seq q111_1 (.block 0 (.loop l111_0))) (.seq q111_7 .ret)))
theorem s111_strip : Ya (Zv Try.f111) = s111 := by kernel_rfl
theorem s111_ok : Yp 19 (Zv Try.f111) = true := by kernel_rfl
/-! 112: (planchet bets.equations).solve$1 -/
@[reducible] def q112_0 : SCode := .region [⟨some 3, .assign (.const (.bool false)), none⟩]
@[reducible] def q112_1 : SCode := .region [⟨some 4, .move (.tmp 0), none⟩,
    ⟨some 5, .load 3 (.tmp 1), none⟩,
    ⟨some 6, .indexAddr 47 (.tmp 4) (.tmp 5), none⟩,
    ⟨some 7, .fieldAddr 26 (.tmp 6) 0, none⟩,
    ⟨some 8, .load 3 (.tmp 7), none⟩,
    ⟨some 9, .binOp .neq 3 (.tmp 8) (.const (.int .i64 0)) 3, none⟩,
    ⟨some 3, .assign (.tmp 9), none⟩]
def s112 : SCode := (.seq q112_0 (.seq q112_1 .ret))
theorem s112_strip : Ya (Zv Try.f112) = s112 := by kernel_rfl
theorem s112_ok : Yp 10 (Zv Try.f112) = true := by kernel_rfl
/-! 115: slices.IndexFunc[[]planchet bets.Bet,planchet bets.Bet] -/
@[reducible] def q115_0 : SCode := .region [⟨some 4, .assign (.const (.int .i64 0)), none⟩]
@[reducible] def q115_1 : SCode := .region [⟨some 6, .move (.tmp 0), none⟩,
    ⟨some 7, .call { callee := .builtin .len, args := #[.tmp 6], argTypes := #[30] }, none⟩,
    ⟨some 8, .move (.const (.int .i64 0)), none⟩]
@[reducible] def q115_2 : SCode := .region [⟨some 9, .binOp .lss 3 (.tmp 8) (.tmp 7) 3, none⟩]
@[reducible] def q115_3 : SCode := .region [⟨some 10, .move (.tmp 8), none⟩,
    ⟨some 5, .assign (.tmp 10), none⟩]
@[reducible] def q115_4 : SCode := .region [⟨some 11, .move (.tmp 1), none⟩,
    ⟨some 12, .move (.tmp 0), none⟩,
    ⟨some 13, .move (.tmp 5), none⟩,
    ⟨some 14, .indexAddr 30 (.tmp 12) (.tmp 13), none⟩,
    ⟨some 15, .load 92 (.tmp 14), none⟩,
    ⟨some 16, .call { callee := .value (.tmp 11), args := #[.tmp 15], argTypes := #[92] }, none⟩]
@[reducible] def q115_5 : SCode := .region [⟨some 17, .move (.tmp 5), none⟩,
    ⟨some 4, .assign (.tmp 17), none⟩]
@[reducible] def q115_6 : SCode := .region [⟨some 18, .binOp .add 3 (.tmp 8) (.const (.int .i64 1)) 3, none⟩,
    ⟨some 8, .move (.tmp 18), none⟩]
def l115_0 : SCode := (.seq q115_2 (.seq (.cond (.tmp 9) .skip (.exit 0)) (.seq (.block 1 (.seq q115_3 (.seq q115_4 (.cond (.tmp 16) (.seq q115_5 .ret) .skip)))) q115_6)))
@[reducible] def q115_7 : SCode := .region [⟨some 4, .assign (.const (.int .i64 (-1))), none⟩]
def s115 : SCode := (.seq q115_0 (.seq (.seq q115_1 (.block 0 (.loop l115_0))) (.seq q115_7 .ret)))
theorem s115_strip : Ya (Zv Try.f115) = s115 := by kernel_rfl
theorem s115_ok : Yp 19 (Zv Try.f115) = true := by kernel_rfl
/-! 114: math bits.Mul -/
@[reducible] def q114_0 : SCode := .region [⟨some 4, .assign (.const (.int .u64 0)), none⟩,
    ⟨some 5, .assign (.const (.int .u64 0)), none⟩]
@[reducible] def q114_1 : SCode := .region [⟨some 11, .move (.tmp 0), none⟩,
    ⟨some 12, .convert 67 126 (.tmp 11), none⟩,
    ⟨some 13, .move (.tmp 1), none⟩,
    ⟨some 14, .convert 67 126 (.tmp 13), none⟩,
    ⟨some 15, .call { callee := .value (.func 122), args := #[.tmp 12, .tmp 14], argTypes := #[126, 126] }, none⟩,
    ⟨some 10, .move (.tmp 15), none⟩,
    ⟨some 16, .extract (.tmp 10) 0, none⟩,
    ⟨some 17, .extract (.tmp 10) 1, none⟩,
    ⟨some 6, .assign (.tmp 16), none⟩,
    ⟨some 7, .assign (.tmp 17), none⟩]
@[reducible] def q114_2 : SCode := .region [⟨some 18, .move (.tmp 6), none⟩,
    ⟨some 19, .convert 126 67 (.tmp 18), none⟩,
    ⟨some 20, .move (.tmp 7), none⟩,
    ⟨some 21, .convert 126 67 (.tmp 20), none⟩,
    ⟨some 4, .assign (.tmp 19), none⟩,
    ⟨some 5, .assign (.tmp 21), none⟩]
@[reducible] def q114_3 : SCode := .region [⟨some 23, .move (.tmp 0), none⟩,
    ⟨some 24, .move (.tmp 1), none⟩,
    ⟨some 25, .call { callee := .value (.func 123), args := #[.tmp 23, .tmp 24], argTypes := #[129, 129] }, none⟩,
    ⟨some 22, .move (.tmp 25), none⟩,
    ⟨some 26, .extract (.tmp 22) 0, none⟩,
    ⟨some 27, .extract (.tmp 22) 1, none⟩,
    ⟨some 8, .assign (.tmp 26), none⟩,
    ⟨some 9, .assign (.tmp 27), none⟩]
@[reducible] def q114_4 : SCode := .region [⟨some 28, .move (.tmp 8), none⟩,
    ⟨some 29, .move (.tmp 9), none⟩,
    ⟨some 4, .assign (.tmp 28), none⟩,
    ⟨some 5, .assign (.tmp 29), none⟩]
def s114 : SCode := (.seq q114_0 (.seq (.cond (.const (.bool false)) (.seq q114_1 (.seq q114_2 .ret)) .skip) (.seq q114_3 (.seq q114_4 .ret))))
theorem s114_strip : Ya (Zv Try.f114) = s114 := by kernel_rfl
theorem s114_ok : Yp 30 (Zv Try.f114) = true := by kernel_rfl
/-! 123: math bits.Mul64 -/
@[reducible] def q123_0 : SCode := .region [⟨some 4, .assign (.const (.int .u64 0)), none⟩,
    ⟨some 5, .assign (.const (.int .u64 0)), none⟩]
@[reducible] def q123_1 : SCode := .region [⟨some 14, .move (.tmp 0), none⟩,
    ⟨some 15, .binOp .and 129 (.tmp 14) (.const (.int .u64 4294967295)) 129, none⟩,
    ⟨some 6, .assign (.tmp 15), none⟩]
@[reducible] def q123_2 : SCode := .region [⟨some 16, .move (.tmp 0), none⟩,
    ⟨some 17, .binOp .shr 129 (.tmp 16) (.const (.int .u64 32)) 67, none⟩,
    ⟨some 7, .assign (.tmp 17), none⟩]
@[reducible] def q123_3 : SCode := .region [⟨some 18, .move (.tmp 1), none⟩,
    ⟨some 19, .binOp .and 129 (.tmp 18) (.const (.int .u64 4294967295)) 129, none⟩,
    ⟨some 8, .assign (.tmp 19), none⟩]
@[reducible] def q123_4 : SCode := .region [⟨some 20, .move (.tmp 1), none⟩,
    ⟨some 21, .binOp .shr 129 (.tmp 20) (.const (.int .u64 32)) 67, none⟩,
    ⟨some 9, .assign (.tmp 21), none⟩]
@[reducible] def q123_5 : SCode := .region [⟨some 22, .move (.tmp 6), none⟩,
    ⟨some 23, .move (.tmp 8), none⟩,
    ⟨some 24, .binOp .mul 129 (.tmp 22) (.tmp 23) 129, none⟩,
    ⟨some 10, .assign (.tmp 24), none⟩]
@[reducible] def q123_6 : SCode := .region [⟨some 25, .move (.tmp 7), none⟩,
    ⟨some 26, .move (.tmp 8), none⟩,
    ⟨some 27, .binOp .mul 129 (.tmp 25) (.tmp 26) 129, none⟩,
    ⟨some 28, .move (.tmp 10), none⟩,
    ⟨some 29, .binOp .shr 129 (.tmp 28) (.const (.int .u64 32)) 67, none⟩,
    ⟨some 30, .binOp .add 129 (.tmp 27) (.tmp 29) 129, none⟩,
    ⟨some 11, .assign (.tmp 30), none⟩]
@[reducible] def q123_7 : SCode := .region [⟨some 31, .move (.tmp 11), none⟩,
    ⟨some 32, .binOp .and 129 (.tmp 31) (.const (.int .u64 4294967295)) 129, none⟩,
    ⟨some 12, .assign (.tmp 32), none⟩]
@[reducible] def q123_8 : SCode := .region [⟨some 33, .move (.tmp 11), none⟩,
    ⟨some 34, .binOp .shr 129 (.tmp 33) (.const (.int .u64 32)) 67, none⟩,
    ⟨some 13, .assign (.tmp 34), none⟩]
@[reducible] def q123_9 : SCode := .region [⟨some 35, .move (.tmp 12), none⟩,
    ⟨some 36, .move (.tmp 6), none⟩,
    ⟨some 37, .move (.tmp 9), none⟩,
    ⟨some 38, .binOp .mul 129 (.tmp 36) (.tmp 37) 129, none⟩,
    ⟨some 39, .binOp .add 129 (.tmp 35) (.tmp 38) 129, none⟩,
    ⟨some 12, .assign (.tmp 39), none⟩]
@[reducible] def q123_10 : SCode := .region [⟨some 40, .move (.tmp 7), none⟩,
    ⟨some 41, .move (.tmp 9), none⟩,
    ⟨some 42, .binOp .mul 129 (.tmp 40) (.tmp 41) 129, none⟩,
    ⟨some 43, .move (.tmp 13), none⟩,
    ⟨some 44, .binOp .add 129 (.tmp 42) (.tmp 43) 129, none⟩,
    ⟨some 45, .move (.tmp 12), none⟩,
    ⟨some 46, .binOp .shr 129 (.tmp 45) (.const (.int .u64 32)) 67, none⟩,
    ⟨some 47, .binOp .add 129 (.tmp 44) (.tmp 46) 129, none⟩,
    ⟨some 4, .assign (.tmp 47), none⟩]
@[reducible] def q123_11 : SCode := .region [⟨some 48, .move (.tmp 0), none⟩,
    ⟨some 49, .move (.tmp 1), none⟩,
    ⟨some 50, .binOp .mul 129 (.tmp 48) (.tmp 49) 129, none⟩,
    ⟨some 5, .assign (.tmp 50), none⟩]
def s123 : SCode := (.seq q123_0 (.seq q123_1 (.seq q123_2 (.seq q123_3 (.seq q123_4 (.seq q123_5 (.seq q123_6 (.seq q123_7 (.seq q123_8 (.seq q123_9 (.seq q123_10 (.seq q123_11 .ret))))))))))))
theorem s123_strip : Ya (Zv Try.f123) = s123 := by kernel_rfl
theorem s123_ok : Yp 51 (Zv Try.f123) = true := by kernel_rfl
end Go.Proofs.Try.Am

namespace Go.Proofs.Try.Am
open Go.Am Bq
set_option maxRecDepth 100000
set_option maxHeartbeats 1000000

theorem small_and : ∀ y : Nat, y < 6 → bitsV .and .u64 (y : Int) 4294967295 = (y : Int) ∧ shrV .u64 (y : Int) 32 = 0 ∧ mulV .u64 1 (y : Int) = (y : Int) ∧ mulV .u64 0 (y : Int) = 0 ∧ addV .u64 (y : Int) 0 = (y : Int) := by decide
theorem s123_callW [Tabs Try.prog] {args : List Value} {h : Zh} {Q : Value → Zh → Prop} (hsz : args.length ≤ 51) (hk : AWS Try.prog 51 s123 (Zu Try.prog [.tmp 4, .tmp 5] Q) (Zp 0 args) h) : ACall Try.prog 123 args h Q :=
  Yv Try.func123 rfl (enters_of Try.func123 (by kernel_rfl) rfl) rfl rfl (by decide) s123_strip s123_ok hsz hk
theorem mul64_call [Tabs prog] {h : Zh} {y : Nat} (hy : y < 6) : Xm prog 123 [.int .u64 1, .int .u64 (y : Int)] h (.tuple #[.int .u64 0, .int .u64 (y : Int)]) := by
  obtain ⟨a1, a2, a3, a4, a5⟩ := small_and y hy
  have b1 : bitsV .and .u64 1 4294967295 = 1 := by decide
  have b2 : shrV .u64 1 32 = 0 := by decide
  have b3 : mulV .u64 1 0 = 0 := by decide
  have b4 : mulV .u64 0 0 = 0 := by decide
  have b5 : addV .u64 0 0 = 0 := by decide
  have b6 : bitsV .and .u64 0 4294967295 = 0 := by decide
  have b7 : shrV .u64 0 32 = 0 := by decide
  have b8 : (0 : Int) ≤ 32 := by decide
  refine s123_callW (by simp) ?_
  refine Zi ?_
  simp (maxSteps := 2000000) only [s123, ↓Za, ↓Zw, ↓Zz, ↓Zb, ↓Zc, vup, cond_true, cond_false, aop, Zg, Zp, ev, sput, Zf, Yk, Yl, Nat.reduceBEq, Nat.reduceAdd, Zu, Xx, tup, a1, a2, a3, a4, b1, b2, b3, b4, b5, b6, b7, b8]

theorem s114_callW [Tabs Try.prog] {args : List Value} {h : Zh} {Q : Value → Zh → Prop} (hsz : args.length ≤ 30) (hk : AWS Try.prog 30 s114 (Zu Try.prog [.tmp 4, .tmp 5] Q) (Zp 0 args) h) : ACall Try.prog 114 args h Q :=
  Yv Try.func114 rfl (enters_of Try.func114 (by kernel_rfl) rfl) rfl rfl (by decide) s114_strip s114_ok hsz hk
theorem mul_call [Tabs prog] {h : Zh} {y : Nat} (hy : y < 6) : Xm prog 114 [.int .u64 1, .int .u64 (y : Int)] h (.tuple #[.int .u64 0, .int .u64 (y : Int)]) := by
  refine s114_callW (by simp) ?_
  simp only [s114]
  refine Ze fun N1 hN1 => ?_
  simp (maxSteps := 2000000) only [↓Za, ↓Zb, ↓Zc, vup, cond_false, aop, Zg, Zp, ev, sput, Zf, Nat.reduceBEq, Nat.reduceAdd]
  refine hN1 [(0, .int .u64 1), (1, .int .u64 (y : Int)), (4, .int .u64 0), (5, .int .u64 0)] _ _ ?_ (by simp (maxSteps := 2000000) only [vup, cond_true, cond_false, Nat.reduceBEq])
  clear hN1
  try clear N1
  refine Zl fun Z hZ => ?_
  refine Yz rfl ?_
  refine Zi ?_
  simp (maxSteps := 2000000) only [↓Zs, Zg]
  refine hZ [(0, .int .u64 1), (1, .int .u64 (y : Int)), (4, .int .u64 0), (5, .int .u64 0)] _ _ ?_ (by simp (maxSteps := 2000000) only [vup, cond_true, cond_false, Nat.reduceBEq])
  clear hZ
  try clear Z
  refine Zi ?_
  simp (maxSteps := 2000000) only [↓Za, ↓Zw, ↓Zz, ↓Zb, ↓Zc, vup, List.map_cons, List.map_nil, cond_true, cond_false, aop, Zg, ev, sput, Zf, Nat.reduceBEq, Zu, Xx, tup, Yr, List.nil_append, List.append_nil]
  refine (mul64_call hy).mono ?_
  rintro _ h ⟨rfl, rfl⟩
  simp (maxSteps := 2000000) only [vup, extr_20, extr_21]

theorem conv_u : ∀ y : Nat, y < 6 → IntKind.u64.wrap (y : Int) = (y : Int) ∧ IntKind.i64.wrap (y : Int) = (y : Int) := by decide
theorem litF [Tabs prog] {h : Zh} {x y : Int} (K : Value → Zh → Prop) : Yj prog h 47 1 [(0, .agg #[Zd x, Zd y])] K = K (.slice (some ⟨h.length, 0, none⟩) 1 1) (h ++ [.ints [x, y] 26 false]) := by
  simp only [Yj, el_47, zero_26, esz_26, reps, fillL, mkb, Wd, cellsOf, List.length_cons, List.length_nil, Nat.zero_add, Nat.zero_mul, Yc]
  refine propext ⟨fun h => ?_, fun h => ⟨trivial, by decide, by decide, ?_⟩⟩
  · simpa [Xa] using h.2.2.2
  · simpa [Xa] using h

theorem flatP_take : ∀ (L : List (Int × Int)) (o : Nat), Zx (L.take o) = (Zx L).take (o * 2)
  | [], o => by simp [Zx]
  | p :: L, 0 => by simp [Zx]
  | p :: L, o + 1 => by
    have e : ∀ l : List (Int × Int), Zx (p :: l) = p.1 :: p.2 :: Zx l := fun l => rfl
    rw [List.take_succ_cons, e, e, flatP_take L o, show (o + 1) * 2 = o * 2 + 1 + 1 by omega, List.take_succ_cons, List.take_succ_cons]
theorem flatP_drop : ∀ (L : List (Int × Int)) (o : Nat), Zx (L.drop o) = (Zx L).drop (o * 2)
  | [], o => by simp [Zx]
  | p :: L, 0 => by simp
  | p :: L, o + 1 => by
    have e : ∀ l : List (Int × Int), Zx (p :: l) = p.1 :: p.2 :: Zx l := fun l => rfl
    rw [List.drop_succ_cons, e, flatP_drop L o, show (o + 1) * 2 = o * 2 + 1 + 1 by omega, List.drop_succ_cons, List.drop_succ_cons]
theorem flatP_splice {L S : List (Int × Int)} {o : Nat} : Zx (Yc L o S) = Yc (Zx L) (o * 2) (Zx S) := by
  simp only [Yc, flatP_app, flatP_take, flatP_drop, Xf, Nat.add_mul]
theorem storesP {h : Zh} {b o : Nat} {L S : List (Int × Int)} {e : TypeId} (hb : h[b]? = some (.cells ((Zx L).map Zd) e false)) (ho : o + S.length ≤ L.length) (K : Zh → Prop)
    (hk : K (h.set b (.cells ((Zx (Yc L o S)).map Zd) e false))) : storesK h b (o * 2) ((Zx S).map Zd) K := by
  simp only [storesK, hb, ← splice_map]
  refine ⟨?_, ?_, ?_⟩
  · rw [List.all_eq_true]
    intro v hv
    obtain ⟨n, _, rfl⟩ := List.mem_map.1 hv
    rfl
  · simp only [List.length_map, Xf]; omega
  · rw [← flatP_splice]; exact hk
theorem cellsP {h : Zh} {b o s : Nat} {L : List (Int × Int)} {e : TypeId} {ro : Bool} (hb : h[b]? = some (.cells ((Zx L).map Zd) e ro)) (ho : o + s ≤ L.length) (K : List Value → Prop)
    (hk : K ((Zx ((L.drop o).take s)).map Zd)) : Xi h b (o * 2) (s * 2) K := by
  simp only [Xi, hb]
  refine ⟨by simp only [List.length_map, Xf]; omega, ?_⟩
  rw [flatP_take, flatP_drop, List.map_take, List.map_drop] at hk
  exact hk
/-- So many alike, then none. -/
def repL (x y : Int) (n c : Nat) : List (Int × Int) := List.replicate c (x, y) ++ List.replicate (n - c) (0, 0)
theorem repL_len {x y : Int} {n c : Nat} (h : c ≤ n) : (repL x y n c).length = n := by simp [repL]; omega
theorem repL_next {x y : Int} {n c : Nat} (h : c ≤ n) : Yc (repL x y n c) c (((repL x y n c).drop 0).take (min c (n - c))) = repL x y n (c + min c (n - c)) := by
  have e1 : ((repL x y n c).drop 0).take (min c (n - c)) = List.replicate (min c (n - c)) (x, y) := by
    rw [List.drop_zero, repL, List.take_append_of_le_length (by simp; omega), List.take_replicate, Nat.min_eq_left (Nat.min_le_left _ _)]
  rw [e1, Yc, repL, List.take_append_of_le_length (by simp), List.take_of_length_le (by simp), List.drop_append, List.length_replicate, List.length_replicate, List.drop_of_length_le (by simp), List.nil_append, List.drop_replicate, List.replicate_append_replicate, repL]
  congr 2
  omega

theorem s95_callW [Tabs Try.prog] {args : List Value} {h : Zh} {Q : Value → Zh → Prop} (hsz : args.length ≤ 48) (hk : AWS Try.prog 48 s95 (Zu Try.prog [.tmp 4] Q) (Zp 0 args) h) : ACall Try.prog 95 args h Q :=
  Yv Try.func95 rfl (enters_of Try.func95 (by kernel_rfl) rfl) rfl rfl (by decide) s95_strip s95_ok hsz hk
theorem repeat_call [Tabs prog] {h : Zh} {b0 n : Nat} {x y : Int} (hb : h[b0]? = some (.ints [x, y] 26 false)) (hn : 1 ≤ n) (hn5 : n < 6) :
    ADet prog 95 [.slice (some ⟨b0, 0, none⟩) 1 1, Zd (n : Nat)] h (.slice (some ⟨h.length, 0, none⟩) n n) (h ++ [.cells ((Zx (List.replicate n (x, y))).map Zd) 26 false]) := by
  obtain ⟨cu, ci⟩ := conv_u n hn5
  have cu1 : IntKind.u64.wrap 1 = 1 := by decide
  have hneg : ¬ ((n : Nat) : Int) < 0 := by omega
  have hbig : ¬ ((n : Nat) : Int) > 9223372036854775807 := by omega
  have h00 : ¬ (0 : Int) > 0 := by decide
  refine s95_callW (by simp) ?_
  simp only [s95]
  refine Ze fun N2 hN2 => ?_
  simp (maxSteps := 2000000) only [↓Za, ↓Zb, ↓Zc, vup, cond_false, aop, Zg, Zp, ev, sput, Zf, Nat.reduceBEq, Nat.reduceAdd]
  refine hN2 [(0, .slice (some ⟨b0, 0, none⟩) 1 1), (1, Zd (n : Nat)), (4, .slice none 0 0)] _ _ ?_ (by simp (maxSteps := 2000000) only [vup, cond_true, cond_false, Nat.reduceBEq])
  clear hN2
  try clear N2
  refine Ze fun N3 hN3 => ?_
  simp (maxSteps := 2000000) only [↓Za, ↓Zs, ↓Zw, ↓Zb, ↓Zc, ↓vdn, vup, cond_true, cond_false, aop, Zg, ev, sput, Zf, Yk, Yl, Nat.reduceBEq, hneg]
  refine hN3 [(0, .slice (some ⟨b0, 0, none⟩) 1 1), (1, Zd (n : Nat)), (4, .slice none 0 0)] _ _ ?_ (by simp (maxSteps := 2000000) only [vup, cond_true, cond_false, Nat.reduceBEq])
  clear hN3
  try clear N3
  refine Ze fun N4 hN4 => ?_
  simp (maxSteps := 2000000) only [↓Za, ↓Zb, ↓Zc, vup, List.map_cons, List.map_nil, cond_true, cond_false, aop, Zg, ev, sput, Zf, Zk, Nat.reduceBEq, tyf, lenK, Int.natCast_one, convK, cu, cu1]
  simp (maxSteps := 2000000) only [Yr, List.nil_append, List.append_nil]
  refine (mul_call hn5).mono ?_
  rintro _ h ⟨rfl, rfl⟩
  simp (maxSteps := 2000000) only [extr_20, extr_21]
  refine hN4 [(0, .slice (some ⟨b0, 0, none⟩) 1 1), (1, Zd (n : Nat)), (4, .slice none 0 0), (5, .int .u64 0), (6, .int .u64 (n : Int))] _ _ ?_ (by simp (maxSteps := 2000000) only [vup, cond_true, cond_false, Nat.reduceBEq])
  clear hN4
  try clear N4
  refine Ze fun N5 hN5 => ?_
  simp (maxSteps := 2000000) only [↓Za, ↓Zs, ↓Zw, ↓Zb, ↓Zc, ↓vdn, vup, cond_true, cond_false, aop, Zg, ev, sput, Zf, Yk, Yl, Nat.reduceBEq, h00, hbig]
  refine hN5 [(0, .slice (some ⟨b0, 0, none⟩) 1 1), (1, Zd (n : Nat)), (4, .slice none 0 0), (5, .int .u64 0), (6, .int .u64 (n : Int))] _ _ ?_ (by simp (maxSteps := 2000000) only [vup, cond_true, cond_false, Nat.reduceBEq])
  clear hN5
  try clear N5
  have hmk : ∀ {K : Value → Zh → Prop}, makeK prog h 47 (Zd (n : Nat)) (Zd (n : Nat)) K = K (.slice (some ⟨h.length, 0, none⟩) n n) (h ++ [.cells ((Zx (List.replicate n (0, 0))).map Zd) 26 false]) := fun {K} => makeP el_47 zero_26 info_26 rfl (by omega)
  refine Ze fun N6 hN6 => ?_
  simp (maxSteps := 2000000) only [↓Za, ↓Zb, ↓Zc, vup, cond_true, cond_false, aop, Zg, ev, sput, Zf, Nat.reduceBEq, tyf, convK, ci, hmk]
  refine hN6 [(0, .slice (some ⟨b0, 0, none⟩) 1 1), (1, Zd (n : Nat)), (4, .slice none 0 0), (7, .slice (some ⟨h.length, 0, none⟩) n n)] _ _ ?_ (by simp (maxSteps := 2000000) only [vup, cond_true, cond_false, Nat.reduceBEq])
  clear hN6
  try clear N6
  obtain ⟨H, hH⟩ : ∃ H : Nat → Zh, H = fun c => h ++ [.cells ((Zx (repL x y n c)).map Zd) 26 false] := ⟨_, rfl⟩
  have hHc : ∀ c, (H c)[h.length]? = some (.cells ((Zx (repL x y n c)).map Zd) 26 false) := fun c => by rw [hH]; exact Yh _ _
  have hset : ∀ c d, (H c).set h.length (.cells ((Zx (repL x y n d)).map Zd) 26 false) = H d := fun c d => by simp only [hH]; rw [Xy]
  have hH0 : h ++ [.cells ((Zx (List.replicate n ((0 : Int), (0 : Int)))).map Zd) 26 false] = H 0 := by rw [hH]; simp [repL]
  rw [hH0]
  have hb0 : (H 0)[b0]? = some (.ints [x, y] 26 false) := by rw [hH]; exact Xp hb _
  have hcp : ∀ {K : Value → Zh → Prop}, K (Zd 1) (H 1) → copyK prog (H 0) 47 (.slice (some ⟨h.length, 0, none⟩) n n) (.slice (some ⟨b0, 0, none⟩) 1 1) K := fun {K} hK => by
    simp only [copyK, el_47, esz_26]
    have e1 : min 1 n = 1 := by omega
    rw [e1]
    simp only [Xi, hb0]
    refine ⟨by simp, ?_⟩
    rw [show min ((1 : Nat) : Int) ((n : Nat) : Int) = 1 by omega]
    have st := storesP (S := [(x, y)]) (o := 0) (hHc 0) (by rw [repL_len (by omega)]; simp; omega) (fun h' => K (Zd 1) h') (by
      have e2 : Yc (repL x y n 0) 0 [(x, y)] = repL x y n 1 := by
        rw [repL, repL, List.replicate_zero, List.nil_append, show n - 0 = (n - 1) + 1 by omega, List.replicate_succ]
        simp [Yc]
      rw [e2, hset]; exact hK)
    exact st
  refine Ze fun N7 hN7 => ?_
  simp (maxSteps := 2000000) only [↓Za, ↓Zb, ↓Zc, vup, List.map_cons, List.map_nil, cond_true, cond_false, aop, Zg, ev, sput, Zf, Zk, Nat.reduceBEq]
  refine hcp ?_
  refine hN7 [(0, .slice (some ⟨b0, 0, none⟩) 1 1), (1, Zd (n : Nat)), (4, .slice none 0 0), (7, .slice (some ⟨h.length, 0, none⟩) n n), (8, .int .i64 1)] _ _ ?_ (by simp (maxSteps := 2000000) only [vup, cond_true, cond_false, Nat.reduceBEq])
  clear hN7
  try clear N7
  refine Zl fun Z hZ => ?_
  refine Zn ?_
  refine Zy fun Q hQ => ?_
  refine Xd (γ := Nat) (fun c => 1 ≤ c ∧ c ≤ n) (fun c => ([(0, .slice (some ⟨b0, 0, none⟩) 1 1), (1, Zd (n : Nat)), (4, .slice none 0 0), (7, .slice (some ⟨h.length, 0, none⟩) n n), (8, Zd (c : Nat))], H c)) (fun c => n - c) 1 ⟨Nat.le_refl _, hn⟩ (by simp (maxSteps := 2000000) only [vup, cond_true, cond_false, Nat.reduceBEq, Int.natCast_one]) rfl ?_
  rintro c ⟨hc1, hc⟩
  refine Zy fun Q2 hQ2 => ?_
  simp only [l95_0]
  by_cases hin : (c : Int) < n
  · have hcn : c < n := by omega
    refine Ze fun N8 hN8 => ?_
    simp (maxSteps := 2000000) only [↓Za, ↓Zs, ↓Zw, ↓Zb, ↓Zc, ↓vdn, vup, List.map_cons, List.map_nil, cond_true, cond_false, aop, Zg, ev, sput, Zf, Yk, Yl, Zk, Nat.reduceBEq, tyf, lenK, hin]
    refine hN8 [(0, .slice (some ⟨b0, 0, none⟩) 1 1), (1, Zd (n : Nat)), (4, .slice none 0 0), (7, .slice (some ⟨h.length, 0, none⟩) n n), (8, Zd (c : Nat))] _ _ ?_ (by simp (maxSteps := 2000000) only [vup, cond_true, cond_false, Nat.reduceBEq])
    clear hN8
    try clear N8
    refine Zi ?_
    simp only [q95_9, aw_block]
    refine Wl [] (by kernel_rfl) (by kernel_rfl) (by kernel_rfl) (by kernel_rfl) ?_
    have hs1 : ∀ {K : Value → Prop}, K (.slice (some ⟨h.length, c * 2, none⟩) (n - c) (n - c)) → Xg prog 47 (.slice (some ⟨h.length, 0, none⟩) n n) (some (Zd (c : Nat))) none none K := fun {K} hK => by
      simp only [Xg, el_47, esz_26, bnd]
      refine ⟨by omega, by omega, by omega, fun _ => ?_, fun h0 => absurd rfl h0⟩
      rw [if_neg (by omega), show ((n : Int) - (c : Int)).toNat = n - c by omega, Int.toNat_natCast, Nat.zero_add]
      exact hK
    have hs2 : ∀ {K : Value → Prop}, K (.slice (some ⟨h.length, 0, none⟩) c n) → Xg prog 47 (.slice (some ⟨h.length, 0, none⟩) n n) none (some (Zd (c : Nat))) none K := fun {K} hK => by
      simp only [Xg, el_47, esz_26, bnd]
      refine ⟨by omega, by omega, by omega, fun _ => ?_, fun h0 => absurd rfl h0⟩
      rw [if_neg (by omega)]
      simpa using hK
    have hcp2 : ∀ {K : Value → Zh → Prop}, K (Zd (min c (n - c) : Nat)) (H (c + min c (n - c))) → copyK prog (H c) 47 (.slice (some ⟨h.length, c * 2, none⟩) (n - c) (n - c)) (.slice (some ⟨h.length, 0, none⟩) c n) K := fun {K} hK => by
      simp only [copyK, el_47, esz_26]
      refine cellsP (o := 0) (hHc c) (by rw [repL_len (by omega)]; omega) _ ?_
      refine storesP (hHc c) (by rw [List.length_take, List.length_drop, repL_len (by omega)]; omega) _ ?_
      rw [repL_next (by omega), hset, show min ((c : Nat) : Int) ((n - c : Nat) : Int) = ((min c (n - c) : Nat) : Int) by omega]
      exact hK
    simp (maxSteps := 2000000) only [↓Xj, ↓vdn, vup, List.map_cons, List.map_nil, cond_true, cond_false, aop, Zo, ev, sput, Zf, Yk, Yl, Zk, Nat.reduceBEq, tyf, Option.map_some, Option.map_none]
    refine hs1 ?_
    refine hs2 ?_
    refine hcp2 ?_
    have ha : addV .i64 (c : Int) ((min c (n - c) : Nat) : Int) = ((c + min c (n - c) : Nat) : Int) := by rw [addN (by omega)]; push_cast; rfl
    simp (maxSteps := 2000000) only [vup, ha]
    exact hQ2 _ _ _ ⟨c + min c (n - c), ⟨by omega, by omega⟩, by omega, by simp (maxSteps := 2000000) only [vup, cond_true, cond_false, Nat.reduceBEq], rfl⟩
  · have hcn : n = c := by omega
    subst hcn
    refine Ze fun N9 hN9 => ?_
    simp (maxSteps := 2000000) only [↓Za, ↓Zw, ↓Xl, ↓Zb, ↓Zc, ↓vdn, vup, List.map_cons, List.map_nil, cond_true, cond_false, aop, Zg, ev, sput, Zf, Yk, Yl, Zk, Nat.reduceBEq, tyf, lenK, hin]
    refine hQ2 _ _ _ (hQ _ _ _ ?_)
    simp (maxSteps := 2000000) only [Zg, Zo, Zu, if_true]
    refine hZ [(0, .slice (some ⟨b0, 0, none⟩) 1 1), (1, Zd (n : Nat)), (4, .slice none 0 0), (7, .slice (some ⟨h.length, 0, none⟩) n n), (8, Zd (n : Nat))] _ _ ?_ (by simp (maxSteps := 2000000) only [vup, cond_true, cond_false, Nat.reduceBEq])
    clear hZ
    try clear Z
    refine Zi ?_
    simp (maxSteps := 2000000) only [↓Za, ↓Zw, ↓Zz, ↓Zb, ↓Zc, vup, cond_true, cond_false, aop, Zg, ev, sput, Zf, Nat.reduceBEq, Zu, Xx, tup]
    rw [hH]; simp [repL]
end Go.Proofs.Try.Am

namespace Bq

/-- A system: rows of numbers, the right side last. -/
abbrev Xv := Nat → Nat → Rat
def Vd (a p : Nat) (T : Xv) : Xv := fun i => if i = a then T p else if i = p then T a else T i
def normT (a : Nat) (T : Xv) : Xv := fun i c => if i = a then T a c / T a a else T i c
def elimT (a : Nat) (T : Xv) : Xv := fun i c => if i = a then T a c else T i c - T i a * T a c
/-- The first row from a on with a number in column a. -/
def findP (m a : Nat) (T : Xv) : Option Nat := (List.range m).find? fun p => decide (a ≤ p) && decide (T p a ≠ 0)
def Wp (m a : Nat) (T : Xv) : Option Xv := (findP m a T).map fun p => elimT a (normT a (Vd a p T))
def Xk (m : Nat) (T : Xv) : Nat → Option Xv
  | 0 => some T
  | j + 1 => (Xk m T j).bind (Wp m j)
/-- Whether a row from k on is left. -/
def restT (m k : Nat) (T : Xv) : Bool := (List.range m).any fun i => decide (k ≤ i) && decide (T i k ≠ 0)
def Wz (m k : Nat) (T : Xv) : Option (List Rat) := (Xk m T k).bind fun S => if restT m k S then none else some ((List.range k).map fun i => S i k)

/-- All numbers are parts of one number, neither great. -/
def Tame (m k : Nat) (T : Xv) : Prop := ∃ D : Nat, 0 < D ∧ D ≤ 1073741824 ∧ ∀ i c, i < m → c ≤ k → ∃ x : Int, Rp D x (T i c) ∧ x.natAbs ≤ 1073741824
theorem find_spec {n : Nat} {F : Nat → Bool} {k : Nat} (hk : k < n) (hF : F k = true) (hlo : ∀ i, i < k → F i = false) : (List.range n).find? F = some k := by
  rw [List.find?_eq_some_iff_append]
  refine ⟨hF, List.range k, (List.range' (k + 1) (n - (k + 1))), ?_, fun a ha => by simp [hlo a (List.mem_range.1 ha)]⟩
  apply List.ext_getElem?
  intro i
  rw [List.getElem?_append, List.length_range]
  by_cases h : i < k
  · simp [h, show i < n by omega]
  · rw [if_neg h]
    rcases Nat.eq_or_lt_of_le (Nat.not_lt.1 h) with h1 | h1
    · subst h1; simp [hk]
    · rw [show i - k = (i - (k + 1)) + 1 by omega, List.getElem?_cons_succ]
      by_cases h2 : i < n
      · rw [List.getElem?_range h2, List.getElem?_range' (by omega)]; congr 1; omega
      · rw [List.getElem?_eq_none (by simp; omega), List.getElem?_eq_none (by simp; omega)]
theorem find_none {n : Nat} {F : Nat → Bool} (h : ∀ i, i < n → F i = false) : (List.range n).find? F = none := by
  rw [List.find?_eq_none]
  intro x hx
  simp [h x (List.mem_range.1 hx)]
theorem find_some {n : Nat} {F : Nat → Bool} {k : Nat} (h : (List.range n).find? F = some k) : k < n ∧ F k = true ∧ ∀ i, i < k → F i = false := by
  have h1 := List.find?_some h
  have h2 := List.mem_of_find?_eq_some h
  refine ⟨List.mem_range.1 h2, h1, fun i hi => ?_⟩
  cases hF : F i with
  | false => rfl
  | true =>
    exfalso
    have hin := List.mem_range.1 h2
    have key : ∀ i, i < k → F i = true → (∀ j, j < i → F j = false) → False := fun i hi hF hlo => by
      have := find_spec (show i < n by omega) hF hlo
      rw [h] at this; cases this; omega
    induction i using Nat.strongRecOn with
    | _ i ih =>
      exact key i hi hF fun j hj => by
        cases hb : F j with
        | false => rfl
        | true => exact (ih j hj (by omega) hb).elim
theorem findP_some {m a p : Nat} {T : Xv} (h : findP m a T = some p) : p < m ∧ a ≤ p ∧ T p a ≠ 0 ∧ ∀ i, a ≤ i → i < p → T i a = 0 := by
  obtain ⟨h1, h2, h3⟩ := find_some h
  simp only [Bool.and_eq_true, decide_eq_true_eq] at h2
  refine ⟨h1, h2.1, h2.2, fun i ha hi => ?_⟩
  have := h3 i hi
  simp only [Bool.and_eq_false_iff, decide_eq_false_iff_not] at this
  rcases this with h4 | h4
  · omega
  · exact Decidable.not_not.1 h4
end Bq

namespace Bq

def bitQ (e w : Nat) : Rat := if e.testBit w then 1 else 0
def Yd (set k : Nat) : List Nat := (List.range k).filter fun w => set.testBit w
def Yi (n set : Nat) : List Nat := Yd set n
theorem Wf (set k : Nat) : Yd set (k + 1) = Yd set k ++ if set.testBit k then [k] else [] := by
  rw [Yd, List.range_succ, List.filter_append]
  simp only [List.filter_cons, List.filter_nil, Yd]
theorem worldsTo_le (set k : Nat) : (Yd set k).length ≤ k := by
  have := List.length_filter_le (fun w => set.testBit w) (List.range k)
  rwa [List.length_range] at this
theorem worldsTo_lt {set k w : Nat} (h : w ∈ Yd set k) : w < k ∧ set.testBit w = true := by
  obtain ⟨h1, h2⟩ := List.mem_filter.1 h
  exact ⟨List.mem_range.1 h1, h2⟩
theorem worldsN_pos {n set : Nat} (h1 : 1 ≤ set) (h2 : set < 2 ^ n) : 1 ≤ (Yi n set).length := by
  rcases Nat.eq_zero_or_pos (Yi n set).length with h | h
  · exfalso
    have h0 := List.eq_nil_of_length_eq_zero h
    have : set = 0 := by
      apply Nat.eq_of_testBit_eq
      intro i
      rw [Nat.zero_testBit]
      cases hb : set.testBit i with
      | false => rfl
      | true =>
        have hi : i < n := by
          rcases Nat.lt_or_ge i n with h | h
          · exact h
          · rw [Nat.testBit_lt_two_pow (Nat.lt_of_lt_of_le h2 (Nat.pow_le_pow_right (by decide) h))] at hb; cases hb
        have hm : i ∈ Yi n set := List.mem_filter.2 ⟨List.mem_range.2 hi, hb⟩
        rw [h0] at hm; cases hm
    omega
  · exact h

/-- The system: all chances sum to one; those of each bet's event to its price. -/
def sysB (n : Nat) (l : List (Int × Int)) (ws : List Nat) : Xv := fun i c =>
  if i = 0 then (if c < ws.length then bitQ (2 ^ n - 1) (ws.getD c 0) else 1)
  else (if c < ws.length then bitQ (l.getD (i - 1) (0, 0)).1.toNat (ws.getD c 0) else Rat.divInt (l.getD (i - 1) (0, 0)).2 12)
/-- Chances put where their worlds are. -/
def Xt (n : Nat) (ws : List Nat) (x : List Rat) : Nat → List Rat
  | 0 => List.replicate n 0
  | k + 1 => (Xt n ws x k).set (ws.getD k 0) (x.getD k 0)
theorem Vi (n : Nat) (ws : List Nat) (x : List Rat) : ∀ k, (Xt n ws x k).length = n
  | 0 => by simp [Xt]
  | k + 1 => by rw [Xt, List.length_set]; exact Vi n ws x k
def Vb (n : Nat) (l : List (Int × Int)) (set : Nat) : Option (List Rat) :=
  (Wz (l.length + 1) (Yi n set).length (sysB n l (Yi n set))).bind fun x => if x.any (fun q => decide (q < 0)) then none else some (Xt n (Yi n set) x (Yi n set).length)
/-- Those of the sets from 1 to s. -/
def Wh (n : Nat) (l : List (Int × Int)) : Nat → List (List Rat)
  | 0 => []
  | s + 1 => Wh n l s ++ (Vb n l (s + 1)).toList
def Yb (n : Nat) (l : List (Int × Int)) : List (List Rat) := Wh n l (2 ^ n - 1)
theorem cornersTo_len (n : Nat) (l : List (Int × Int)) : ∀ s, (Wh n l s).length ≤ s
  | 0 => Nat.le_refl _
  | s + 1 => by
    have := cornersTo_len n l s
    rw [Wh, List.length_append]
    cases Vb n l (s + 1) <;> simp <;> omega
theorem solveT_len {m k : Nat} {T : Xv} {x : List Rat} (h : Wz m k T = some x) : x.length = k := by
  rw [Wz] at h
  cases hr : Xk m T k with
  | none => rw [hr] at h; cases h
  | some S =>
    rw [hr] at h
    simp only [Option.bind_some] at h
    split at h
    · cases h
    · cases h; simp
/-- No system met on the way is wild. -/
def TameAll (n : Nat) (l : List (Int × Int)) : Prop := ∀ set, 1 ≤ set → set < 2 ^ n → ∀ j S, j ≤ (Yi n set).length → Xk (l.length + 1) (sysB n l (Yi n set)) j = some S → Tame (l.length + 1) (Yi n set).length S
/-! A decision, for one input. -/
def tameB (D m k : Nat) (T : Xv) : Bool := (List.range m).all fun i => (List.range (k + 1)).all fun c => decide ((T i c).den ∣ D) && decide ((T i c).num.natAbs * (D / (T i c).den) ≤ 1073741824)
theorem tame_of {D m k : Nat} {T : Xv} (hD : 0 < D) (hD2 : D ≤ 1073741824) (h : tameB D m k T = true) : Tame m k T := by
  refine ⟨D, hD, hD2, fun i c hi hc => ?_⟩
  rw [tameB, List.all_eq_true] at h
  have h1 := h i (List.mem_range.2 hi)
  rw [List.all_eq_true] at h1
  have h2 := h1 c (List.mem_range.2 (by omega))
  simp only [Bool.and_eq_true, decide_eq_true_eq] at h2
  refine ⟨_, Rp.up' (Rp.own _) h2.1 hD, ?_⟩
  rw [Int.natAbs_mul, Int.natAbs_natCast]
  exact h2.2
def tameRun (D m k : Nat) (T : Xv) (j : Nat) : Bool := match Xk m T j with | none => true | some S => tameB D m k S
def tameAllB (D n : Nat) (l : List (Int × Int)) : Bool := (List.range (2 ^ n)).all fun set => decide (set = 0) || (List.range ((Yi n set).length + 1)).all fun j => tameRun D (l.length + 1) (Yi n set).length (sysB n l (Yi n set)) j
theorem tameAll_of {D n : Nat} {l : List (Int × Int)} (hD : 0 < D) (hD2 : D ≤ 1073741824) (h : tameAllB D n l = true) : TameAll n l := by
  intro set h1 h2 j S hj hS
  rw [tameAllB, List.all_eq_true] at h
  have h3 := h set (List.mem_range.2 h2)
  simp only [show set ≠ 0 by omega, decide_false, Bool.false_or] at h3
  rw [List.all_eq_true] at h3
  have h4 := h3 j (List.mem_range.2 (by omega))
  rw [tameRun, hS] at h4
  exact tame_of hD hD2 h4
theorem tame_awake : TameAll 2 [(1, 6)] := tameAll_of (D := 2) (by decide) (by decide) (by decide +kernel)
theorem corners_awake : Yb 2 [(1, 6)] = [[1 / 2, 1 / 2]] := by decide +kernel
end Bq

namespace Go.Proofs.Try.Am
open Go.Am Bq
set_option maxRecDepth 100000
set_option maxHeartbeats 1000000

def Ww (ws : List Nat) : List Int := ws.map fun (w : Nat) => (w : Int)
/-- What stands for some worlds, and the right side. -/
def rowL (e : Nat) (ws : List Nat) (q : Rat) : List (Int × Int) := (ws.map fun w => ofQ (bitQ e w)) ++ [ofQ q]
theorem castI_len (ws : List Nat) : (Ww ws).length = ws.length := by simp [Ww]
theorem castI_getD (ws : List Nat) (k : Nat) : (Ww ws).getD k 0 = ((ws.getD k 0 : Nat) : Int) := by
  by_cases h : k < ws.length
  · simp [Ww, List.getD, h]
  · simp [Ww, List.getD, List.getElem?_eq_none (show ws.length ≤ k by omega)]
/-- A heap that grew, and a slice that may be appended to in place. -/
theorem ext_app {h hp H' h' : Zh} {w : Value} (hE : Ext (fun _ => False) h hp) (hl : hp.length ≤ H'.length) (hk : ∀ q, q < h.length → H'[q]? = hp[q]?) (hb : ∀ b, Yf w = some b → h.length ≤ b) (hE' : Ext (fun i => Yf w = some i) H' h') : Ext (fun _ => False) h h' := by
  refine ⟨by have := hE.1; have := hE'.1; omega, fun q hq _ => ?_⟩
  have l1 := hE.1
  rw [hE'.2 q (by omega) (fun hb0 => by have := hb q hb0; omega), hk q hq]
  exact hE.2 q hq id

theorem s100_callW [Tabs Try.prog] {args : List Value} {h : Zh} {Q : Value → Zh → Prop} (hsz : args.length ≤ 28) (hk : AWS Try.prog 28 s100 (Zu Try.prog [.tmp 5] Q) (Zp 0 args) h) : ACall Try.prog 100 args h Q :=
  Yv Try.func100 rfl (enters_of Try.func100 (by kernel_rfl) rfl) rfl rfl (by decide) s100_strip s100_ok hsz hk
theorem row_call [Tabs prog] {h : Zh} {e bw : Nat} {q : Rat} {wv : Value} {ws : List Nat} (hb : h[bw]? = some (.cells [wv] 38 false)) (hw : IntSl h wv (Ww ws)) (hl : ws.length ≤ 100) (he : e < 9223372036854775808) :
    ACall prog 100 [Zd (e : Nat), qV q, .pointer (some ⟨bw, 0, none⟩)] h fun r h' => Ext (fun _ => False) h h' ∧ OwnP 26 h' r (rowL e ws q) ∧ ∀ b, Yf r = some b → h.length ≤ b := by
  obtain ⟨H, hH⟩ : ∃ H, H = h ++ [fC q.num q.den] := ⟨_, rfl⟩
  have hE : Ext (fun _ => False) h H := by rw [hH]; exact Ext.app _ _ _
  have b2 : H[bw]? = some (.cells [wv] 38 false) := by rw [hH]; exact Xp hb _
  have b4 : H[h.length]? = some (fC q.num q.den) := by rw [hH]; exact Yh _ _
  have hwH : IntSl H wv (Ww ws) := by rw [hH]; exact hw.grow _
  have hlc := castI_len ws
  refine s100_callW (by simp) ?_
  simp only [s100]
  refine Ze fun N1 hN1 => ?_
  simp (maxSteps := 2000000) only [↓Za, ↓Zb, ↓Zc, vup, cond_true, cond_false, aop, Zg, Zp, ev, sput, Zf, Nat.reduceBEq, Nat.reduceAdd, qV, frV, boxF, Yx]
  rw [← hH]
  refine hN1 [(0, Zd (e : Nat)), (2, .pointer (some ⟨bw, 0, none⟩)), (4, .pointer (some ⟨h.length, 0, none⟩)), (5, .slice none 0 0)] _ _ ?_ (by simp (maxSteps := 2000000) only [vup, cond_true, cond_false, Nat.reduceBEq])
  clear hN1
  try clear N1
  refine Ze fun N2 hN2 => ?_
  simp (maxSteps := 2000000) only [↓Za, ↓Zb, ↓Zc, vup, cond_false, aop, Zg, ev, sput, Zf, Nat.reduceBEq]
  refine hN2 [(0, Zd (e : Nat)), (2, .pointer (some ⟨bw, 0, none⟩)), (4, .pointer (some ⟨h.length, 0, none⟩)), (5, .slice none 0 0), (6, .slice none 0 0)] _ _ ?_ (by simp (maxSteps := 2000000) only [vup, cond_true, cond_false, Nat.reduceBEq])
  clear hN2
  try clear N2
  refine Zl fun Z hZ => ?_
  refine Ze fun N3 hN3 => ?_
  simp (maxSteps := 2000000) only [↓Za, ↓Zb, ↓Zc, vup, List.map_cons, List.map_nil, cond_true, cond_false, aop, Zg, ev, sput, Zf, Zk, Nat.reduceBEq, tyf, load1 b2 shp_38, hwH.len, hlc]
  refine hN3 [(0, Zd (e : Nat)), (2, .pointer (some ⟨bw, 0, none⟩)), (4, .pointer (some ⟨h.length, 0, none⟩)), (5, .slice none 0 0), (6, .slice none 0 0), (9, wv), (10, Zd ws.length), (11, .int .i64 0)] _ _ ?_ (by simp (maxSteps := 2000000) only [vup, cond_true, cond_false, Nat.reduceBEq])
  clear hN3
  try clear N3
  refine Zn ?_
  refine Zy fun Q hQ => ?_
  refine Xd (γ := Nat × Value × Zh) (fun s => s.1 ≤ ws.length ∧ OwnP 26 s.2.2 s.2.1 ((ws.take s.1).map fun w => ofQ (bitQ e w)) ∧ Ext (fun _ => False) H s.2.2 ∧ ∀ b, Yf s.2.1 = some b → h.length ≤ b)
    (fun s => ([(0, Zd (e : Nat)), (2, .pointer (some ⟨bw, 0, none⟩)), (4, .pointer (some ⟨h.length, 0, none⟩)), (5, .slice none 0 0), (6, s.2.1), (9, wv), (10, Zd ws.length), (11, Zd (s.1 : Nat))], s.2.2)) (fun s => ws.length - s.1) (0, .slice none 0 0, H) ⟨Nat.zero_le _, .inl ⟨rfl, by simp⟩, Ext.refl _ _, fun b hb => by cases hb⟩ (by simp (maxSteps := 2000000) only [vup, cond_true, cond_false, Nat.reduceBEq, Int.natCast_zero]) rfl ?_
  rintro ⟨k, x, hp⟩ ⟨hk, ho, hEp, hbx⟩
  simp only at hk ho hEp hbx
  refine Zy fun Q2 hQ2 => ?_
  simp only [l100_0]
  have hwp : IntSl hp wv (Ww ws) := hwH.same fun b hb => hEp.2 b (hwH.lt hb) id
  by_cases hin : (k : Int) < ws.length
  · have hk' : k < ws.length := by omega
    have hkc : k < (Ww ws).length := by omega
    have ht := testV (y := ws.getD k 0) he
    have wc : ∀ h', Xm prog 70 [Zd (if e.testBit (ws.getD k 0) then (1 : Int) else 0)] h' (qV (bitQ e (ws.getD k 0))) := fun h' => by
      have e1 : (((if e.testBit (ws.getD k 0) then (1 : Int) else 0 : Int)) : Rat) = bitQ e (ws.getD k 0) := by
        rw [bitQ]; split <;> rfl
      rw [← e1]; exact whole_call
    refine Ze fun N4 hN4 => ?_
    simp (maxSteps := 2000000) only [↓Za, ↓Zb, ↓Zc, vup, cond_true, cond_false, aop, Zg, ev, sput, Zf, Yk, Yl, Nat.reduceBEq, hin]
    refine hN4 [(0, Zd (e : Nat)), (2, .pointer (some ⟨bw, 0, none⟩)), (4, .pointer (some ⟨h.length, 0, none⟩)), (5, .slice none 0 0), (6, x), (9, wv), (10, Zd ws.length), (11, Zd (k : Nat)), (12, .bool true)] _ _ ?_ (by simp (maxSteps := 2000000) only [vup, cond_true, cond_false, Nat.reduceBEq])
    clear hN4
    try clear N4
    refine Ze fun N5 hN5 => ?_
    simp (maxSteps := 2000000) only [↓Zs, ↓vdn, vup, cond_true, cond_false, Zg, ev, Nat.reduceBEq]
    refine hN5 [(0, Zd (e : Nat)), (2, .pointer (some ⟨bw, 0, none⟩)), (4, .pointer (some ⟨h.length, 0, none⟩)), (5, .slice none 0 0), (6, x), (9, wv), (10, Zd ws.length), (11, Zd (k : Nat))] _ _ ?_ (by simp (maxSteps := 2000000) only [vup, cond_true, cond_false, Nat.reduceBEq])
    clear hN5
    try clear N5
    refine Zl fun B hB => ?_
    refine Zn ?_
    refine Ze fun N6 hN6 => ?_
    simp (maxSteps := 2000000) only [↓Za, ↓Zb, ↓Zc, vup, cond_true, cond_false, aop, Zg, ev, sput, Zf, Nat.reduceBEq, hwp.idx el_38 esz_3 hkc, hwp.load shp_3 hkc, castI_getD]
    refine hN6 [(0, Zd (e : Nat)), (2, .pointer (some ⟨bw, 0, none⟩)), (4, .pointer (some ⟨h.length, 0, none⟩)), (5, .slice none 0 0), (6, x), (8, Zd (ws.getD k 0 : Nat)), (9, wv), (10, Zd ws.length), (11, Zd (k : Nat))] _ _ ?_ (by simp (maxSteps := 2000000) only [vup, cond_true, cond_false, Nat.reduceBEq])
    clear hN6
    try clear N6
    refine Zi ?_
    simp (maxSteps := 2000000) only [↓Za, ↓Zb, ↓Zc, vup, List.map_cons, List.map_nil, cond_true, cond_false, aop, Zg, Zo, ev, sput, Zf, Yk, Yl, Zk, Nat.reduceBEq, Yr, List.nil_append, List.append_nil, ht, Int.natCast_nonneg]
    refine (wc hp).mono ?_
    rintro _ hp ⟨rfl, rfl⟩
    simp (maxSteps := 2000000) only [qV, frV, litF]
    refine OwnP.append (x := (bitQ e (ws.getD k 0)).num) (y := (bitQ e (ws.getD k 0)).den) (ho.ext (Ext.app _ _ _)) app_47_47 (by simp; omega) (Yh _ _) ?_
    intro x' h' ho' hE' hb'
    have hnx : ((ws.take k).map fun w => ofQ (bitQ e w)) ++ [((bitQ e (ws.getD k 0)).num, ((bitQ e (ws.getD k 0)).den : Int))] = (ws.take (k + 1)).map fun w => ofQ (bitQ e w) := by
      rw [take_snoc (d := (0 : Nat)) hk', List.map_append]; rfl
    rw [hnx] at ho'
    have hEn := ext_app (hE.trans hEp) (H' := hp ++ [Blk.ints [(bitQ e (ws.getD k 0)).num, ((bitQ e (ws.getD k 0)).den : Int)] 26 false]) (by simp) (fun q hq => List.getElem?_append_left (by have := hE.1; have := hEp.1; omega)) hbx hE'
    have hEn2 : Ext (fun _ => False) H h' := by
      have hl' := hE'.1
      have l0 := hE.1
      have l1 := hEp.1
      rw [List.length_append] at hl'
      refine ⟨by omega, fun q hq _ => ?_⟩
      by_cases hqh : q < h.length
      · rw [hEn.2 q hqh id, hE.2 q hqh id]
      · rw [hE'.2 q (by rw [List.length_append]; omega) (fun hb0 => ?_), List.getElem?_append_left (by omega)]
        · exact hEp.2 q hq id
        · obtain ⟨rfl⟩ : q = h.length := by rw [hH] at hq; simp at hq; omega
          rcases ho with ⟨rfl, _⟩ | ⟨b, ys, rfl, hbb⟩
          · cases hb0
          · cases hb0
            rw [hEp.2 _ hq id, b4] at hbb; cases hbb
    refine hB [(0, Zd (e : Nat)), (2, .pointer (some ⟨bw, 0, none⟩)), (4, .pointer (some ⟨h.length, 0, none⟩)), (5, .slice none 0 0), (6, x'), (9, wv), (10, Zd ws.length), (11, Zd (k : Nat))] _ _ ?_ (by simp (maxSteps := 2000000) only [vup, cond_true, cond_false, Nat.reduceBEq])
    clear hB
    try clear B
    refine Zi ?_
    simp (maxSteps := 2000000) only [↓Za, ↓Zb, ↓Zc, vup, cond_true, cond_false, aop, ev, sput, Zf, Yk, Yl, Nat.reduceBEq, add1 (show k < 9223372036854775807 by omega)]
    refine hQ2 _ _ _ ⟨(k + 1, x', h'), ⟨hk', ho', hEn2, fun b hb0 => ?_⟩, by simp only; omega, by simp (maxSteps := 2000000) only [vup, cond_true, cond_false, Nat.reduceBEq], rfl⟩
    simp only at hb0
    rcases hb' with hb' | ⟨b', hb1, hb2⟩
    · exact hbx b (hb' ▸ hb0)
    · rw [hb1] at hb0; cases hb0
      rw [List.length_append] at hb2
      have := hE.1; have := hEp.1; omega
  · have hkk : ws.length = k := by omega
    refine Ze fun N7 hN7 => ?_
    simp (maxSteps := 2000000) only [↓Za, ↓Zb, ↓Zc, vup, cond_true, cond_false, aop, Zg, ev, sput, Zf, Yk, Yl, Nat.reduceBEq, hin]
    refine hN7 [(0, Zd (e : Nat)), (2, .pointer (some ⟨bw, 0, none⟩)), (4, .pointer (some ⟨h.length, 0, none⟩)), (5, .slice none 0 0), (6, x), (9, wv), (10, Zd ws.length), (11, Zd (k : Nat)), (12, .bool false)] _ _ ?_ (by simp (maxSteps := 2000000) only [vup, cond_true, cond_false, Nat.reduceBEq])
    clear hN7
    try clear N7
    refine Ze fun N8 hN8 => ?_
    simp (maxSteps := 2000000) only [↓Xl, ↓vdn, vup, cond_true, cond_false, Zg, ev, Nat.reduceBEq]
    refine hQ2 _ _ _ (hQ _ _ _ ?_)
    simp (maxSteps := 2000000) only [Zg, Zo, Zu, if_true]
    refine hZ [(0, Zd (e : Nat)), (2, .pointer (some ⟨bw, 0, none⟩)), (4, .pointer (some ⟨h.length, 0, none⟩)), (5, .slice none 0 0), (6, x), (12, .bool false)] _ _ ?_ (by simp (maxSteps := 2000000) only [vup, cond_true, cond_false, Nat.reduceBEq])
    clear hZ
    try clear Z
    have b4p : hp[h.length]? = some (fC q.num q.den) := (hEp.2 _ (Yn b4) id).trans b4
    refine Zi ?_
    simp (maxSteps := 2000000) only [↓Za, ↓Zw, ↓Zz, ↓Zb, ↓Zc, vup, List.map_cons, List.map_nil, cond_true, cond_false, aop, Zg, ev, sput, Zf, Zk, Nat.reduceBEq, Zu, Xx, tup, Xz b4p, litF]
    refine OwnP.append (x := q.num) (y := q.den) (ho.ext (Ext.app _ _ _)) app_47_47 (by simp; omega) (Yh _ _) ?_
    intro x' h' ho' hE' hb'
    rw [← hkk, List.take_length] at ho'
    refine ⟨ext_app (hE.trans hEp) (H' := hp ++ [Blk.ints [q.num, (q.den : Int)] 26 false]) (by simp) (fun z hz => List.getElem?_append_left (by have := hE.1; have := hEp.1; omega)) hbx hE', ho', fun b hb0 => ?_⟩
    rcases hb' with hb' | ⟨b', hb1, hb2⟩
    · exact hbx b (hb' ▸ hb0)
    · rw [hb1] at hb0; cases hb0
      rw [List.length_append] at hb2
      have := hE.1; have := hEp.1; omega

theorem s102_callW [Tabs Try.prog] {args : List Value} {h : Zh} {Q : Value → Zh → Prop} (hsz : args.length ≤ 6) (hk : AWS Try.prog 6 s102 (Zu Try.prog [.tmp 2] Q) (Zp 0 args) h) : ACall Try.prog 102 args h Q :=
  Yv Try.func102 rfl (enters_of Try.func102 (by kernel_rfl) rfl) rfl rfl (by decide) s102_strip s102_ok hsz hk
theorem neg_call [Tabs prog] {h : Zh} {x y : Int} : Xm prog 102 [frV x y] h (.bool (decide (x < 0))) := by
  refine ACall.forget (Low.bool _) ?_
  refine s102_callW (by simp) ?_
  refine Zi ?_
  simp (maxSteps := 2000000) only [s102, ↓Za, ↓Zw, ↓Zz, ↓Zb, ↓Zc, vup, cond_true, cond_false, aop, Zg, Zp, ev, sput, Zf, Yk, Yl, Nat.reduceBEq, Zu, Xx, tup, tyf, frV, boxF, Yx, fA0, loadF0 (Yh h _)]
  exact Ext.app _ _ _
end Go.Proofs.Try.Am

namespace Go.Proofs.Try.Am
open Go.Am Bq
set_option maxRecDepth 100000
set_option maxHeartbeats 1000000

abbrev bB (x y : Int) : Blk := .cells [Zd x, Zd y] 92 false
abbrev zB : Blk := .cells [.int .i64 0, .int .i64 0] 92 false
theorem storeBt {h : Zh} {b : Nat} {x y : Int} {e : TypeId} {c : List Value} {K : Zh → Prop} (hb : h[b]? = some (.cells c e false)) (hc : c.length = 2) : Xh prog h 92 (.pointer (some ⟨b, 0, none⟩)) (.agg #[Zd x, Zd y]) K = K (h.set b (.cells [Zd x, Zd y] e false)) :=
  storeA (vs := [Zd x, Zd y]) hb (by rw [shp_92]; rfl) rfl (by rw [hc]; rfl)
theorem bA0 {b : Nat} {K : Value → Prop} : Yy prog 92 (.pointer (some ⟨b, 0, none⟩)) 0 K = K (.pointer (some ⟨b, 0, none⟩)) := fldA fld_92_0 esz_3
theorem bA1 {b : Nat} {K : Value → Prop} : Yy prog 92 (.pointer (some ⟨b, 0, none⟩)) 1 K = K (.pointer (some ⟨b, 1, none⟩)) := fldA fld_92_1 esz_3
theorem tA0 {b : Nat} {K : Value → Prop} : Yy prog 86 (.pointer (some ⟨b, 0, none⟩)) 0 K = K (.pointer (some ⟨b, 0, none⟩)) := fldA fld_86_0 esz_3
theorem tA1 {b : Nat} {K : Value → Prop} : Yy prog 86 (.pointer (some ⟨b, 0, none⟩)) 1 K = K (.pointer (some ⟨b, 1, none⟩)) := fldA fld_86_1 esz_30
theorem boxB {h : Zh} {x y : Int} {K : Value → Zh → Prop} : boxK prog h 92 (.agg #[Zd x, Zd y]) K = K (Yx h) (h ++ [bB x y]) := by
  simp [boxK, esz_92, Yx, cellsOf]
theorem boxT {h : Zh} {n : Int} {v : Value} {K : Value → Zh → Prop} : boxK prog h 86 (.agg #[Zd n, v]) K = K (Yx h) (h ++ [.cells [Zd n, v] 86 false]) := by
  simp [boxK, esz_86, Yx, cellsOf]
theorem Vn {h : Zh} {b : Nat} {n : Int} {v : Value} {K : Value → Prop} (hb : h[b]? = some (.cells [Zd n, v] 86 false)) : Xu prog h 3 (.pointer (some ⟨b, 0, none⟩)) K = K (Zd n) := loadC hb shp_3 rfl
theorem loadT1 {h : Zh} {b : Nat} {n : Int} {v : Value} {K : Value → Prop} (hb : h[b]? = some (.cells [Zd n, v] 86 false)) : Xu prog h 30 (.pointer (some ⟨b, 1, none⟩)) K = K v := loadC hb shp_30 rfl
theorem loadB0 {h : Zh} {b : Nat} {x y : Int} {K : Value → Prop} (hb : h[b]? = some (bB x y)) : Xu prog h 3 (.pointer (some ⟨b, 0, none⟩)) K = K (Zd x) := loadC hb shp_3 rfl
theorem loadB1 {h : Zh} {b : Nat} {x y : Int} {K : Value → Prop} (hb : h[b]? = some (bB x y)) : Xu prog h 3 (.pointer (some ⟨b, 1, none⟩)) K = K (Zd y) := loadC hb shp_3 rfl

theorem s115_callW [Tabs Try.prog] {args : List Value} {h : Zh} {Q : Value → Zh → Prop} (hsz : args.length ≤ 19) (hk : AWS Try.prog 19 s115 (Zu Try.prog [.tmp 4] Q) (Zp 0 args) h) : ACall Try.prog 115 args h Q :=
  Yv Try.func115 rfl (enters_of Try.func115 (by kernel_rfl) rfl) rfl rfl (by decide) s115_strip s115_ok hsz hk
theorem idxB_call [Tabs prog] {h : Zh} {v : Value} {ps : List (Int × Int)} {g : FuncId} {cap : Array Value} {f : Int × Int → Bool} (hv : PairSl h v ps) (hl : ps.length < 9223372036854775808)
    (hc : ∀ h', Ext (fun _ => False) h h' → ∀ p ∈ ps, Xm prog g ([.agg #[Zd p.1, Zd p.2]] ++ cap.toList) h' (.bool (f p))) : ACall prog 115 [v, .func (.func g) #[] cap] h fun r h' => h' = h ∧ ∃ i : Int, r = Zd i ∧ decide (0 ≤ i) = ps.any f := by
  refine s115_callW (by simp) ?_
  simp only [s115]
  refine Ze fun N1 hN1 => ?_
  simp (maxSteps := 2000000) only [↓Za, ↓Zb, ↓Zc, vup, cond_false, aop, Zg, Zp, ev, sput, Zf, Nat.reduceBEq, Nat.reduceAdd]
  refine hN1 [(0, v), (1, .func (.func g) #[] cap), (4, .int .i64 0)] _ _ ?_ (by simp (maxSteps := 2000000) only [vup, cond_true, cond_false, Nat.reduceBEq])
  clear hN1
  try clear N1
  refine Zl fun Z hZ => ?_
  refine Ze fun N2 hN2 => ?_
  simp (maxSteps := 2000000) only [↓Za, ↓Zb, ↓Zc, vup, List.map_cons, List.map_nil, cond_true, cond_false, aop, Zg, ev, sput, Zf, Zk, Nat.reduceBEq, tyf, hv.len]
  refine hN2 [(0, v), (1, .func (.func g) #[] cap), (4, .int .i64 0), (6, v), (7, Zd ps.length), (8, .int .i64 0)] _ _ ?_ (by simp (maxSteps := 2000000) only [vup, cond_true, cond_false, Nat.reduceBEq])
  clear hN2
  try clear N2
  refine Zn ?_
  refine Zy fun Q hQ => ?_
  refine Xd (γ := Nat) (fun k => k ≤ ps.length ∧ ∀ p ∈ ps.take k, f p = false)
    (fun k => ([(0, v), (1, .func (.func g) #[] cap), (4, .int .i64 0), (6, v), (7, Zd ps.length), (8, Zd (k : Nat))], h)) (fun k => ps.length - k) 0 ⟨Nat.zero_le _, by simp⟩ (by simp (maxSteps := 2000000) only [vup, cond_true, cond_false, Nat.reduceBEq, Int.natCast_zero]) rfl ?_
  rintro k ⟨hk, hall⟩
  refine Zy fun Q2 hQ2 => ?_
  simp only [l115_0]
  by_cases hin : (k : Int) < ps.length
  · have hk' : k < ps.length := by omega
    obtain ⟨⟨x, y⟩, hxy⟩ : ∃ p, ps.getD k (0, 0) = p := ⟨_, rfl⟩
    have hmem : (x, y) ∈ ps := hxy ▸ getD_mem hk'
    refine Ze fun N3 hN3 => ?_
    simp (maxSteps := 2000000) only [↓Za, ↓Zb, ↓Zc, vup, cond_true, cond_false, aop, Zg, ev, sput, Zf, Yk, Yl, Nat.reduceBEq, hin]
    refine hN3 [(0, v), (1, .func (.func g) #[] cap), (4, .int .i64 0), (6, v), (7, Zd ps.length), (8, Zd (k : Nat)), (9, .bool true)] _ _ ?_ (by simp (maxSteps := 2000000) only [vup, cond_true, cond_false, Nat.reduceBEq])
    clear hN3
    try clear N3
    refine Ze fun N4 hN4 => ?_
    simp (maxSteps := 2000000) only [↓Zs, ↓vdn, vup, cond_true, cond_false, Zg, ev, Nat.reduceBEq]
    refine hN4 [(0, v), (1, .func (.func g) #[] cap), (4, .int .i64 0), (6, v), (7, Zd ps.length), (8, Zd (k : Nat))] _ _ ?_ (by simp (maxSteps := 2000000) only [vup, cond_true, cond_false, Nat.reduceBEq])
    clear hN4
    try clear N4
    refine Zl fun B hB => ?_
    refine Zn ?_
    refine Ze fun N5 hN5 => ?_
    simp (maxSteps := 2000000) only [↓Za, ↓Zb, ↓Zc, vup, cond_true, cond_false, aop, Zg, ev, sput, Zf, Nat.reduceBEq]
    refine hN5 [(0, v), (1, .func (.func g) #[] cap), (4, .int .i64 0), (5, Zd (k : Nat)), (6, v), (7, Zd ps.length), (8, Zd (k : Nat))] _ _ ?_ (by simp (maxSteps := 2000000) only [vup, cond_true, cond_false, Nat.reduceBEq])
    clear hN5
    try clear N5
    refine Ze fun N6 hN6 => ?_
    simp (maxSteps := 2000000) only [↓Za, ↓Zb, ↓Zc, vup, List.map_cons, List.map_nil, cond_true, cond_false, aop, Zg, ev, sput, Zf, Nat.reduceBEq, hv.idx el_30 esz_92 hk', hv.load shp_92 hk', hxy, Yr, List.nil_append]
    refine (show Xm prog g ([.agg #[Zd x, Zd y]] ++ cap.toList) h (.bool (f (x, y))) from hc h (Ext.refl _ _) _ hmem).mono ?_
    rintro _ h ⟨rfl, rfl⟩
    refine hN6 [(0, v), (1, .func (.func g) #[] cap), (4, .int .i64 0), (5, Zd (k : Nat)), (6, v), (7, Zd ps.length), (8, Zd (k : Nat)), (16, .bool (f (x, y)))] _ _ ?_ (by simp (maxSteps := 2000000) only [vup, cond_true, cond_false, Nat.reduceBEq])
    clear hN6
    try clear N6
    refine Zi ?_
    cases hf : f (x, y) with
    | true =>
      simp (maxSteps := 2000000) only [↓Za, ↓Zw, ↓Zz, ↓Zb, ↓Zc, ↓vdn, vup, cond_true, cond_false, aop, Zg, Zo, ev, sput, Zf, Nat.reduceBEq]
      refine hQ2 _ _ _ (hQ _ _ _ ?_)
      simp (maxSteps := 2000000) only [vup, cond_true, cond_false, Zg, Zo, Nat.reduceBEq, Zu, Xx, tup]
      exact ⟨_, rfl, by rw [show ps.any f = true from List.any_eq_true.2 ⟨_, hmem, hf⟩]; simp⟩
    | false =>
      simp (maxSteps := 2000000) only [↓Zs, ↓vdn, vup, cond_true, cond_false, Zg, Zo, ev, Nat.reduceBEq]
      refine hB [(0, v), (1, .func (.func g) #[] cap), (4, .int .i64 0), (6, v), (7, Zd ps.length), (8, Zd (k : Nat))] _ _ ?_ (by simp (maxSteps := 2000000) only [vup, cond_true, cond_false, Nat.reduceBEq])
      clear hB
      try clear B
      refine Zi ?_
      simp (maxSteps := 2000000) only [↓Za, ↓Zb, ↓Zc, vup, cond_true, cond_false, aop, ev, sput, Zf, Yk, Yl, Nat.reduceBEq, add1 (show k < 9223372036854775807 by omega)]
      refine hQ2 _ _ _ ⟨k + 1, ⟨hk', fun p hp => ?_⟩, by omega, by simp (maxSteps := 2000000) only [vup, cond_true, cond_false, Nat.reduceBEq], rfl⟩
      rw [take_snoc (d := ((0, 0) : Int × Int)) hk', hxy] at hp
      rcases List.mem_append.1 hp with h3 | h3
      · exact hall p h3
      · simp at h3; subst h3; exact hf
  · obtain rfl : k = ps.length := by omega
    refine Ze fun N7 hN7 => ?_
    simp (maxSteps := 2000000) only [↓Za, ↓Zb, ↓Zc, vup, cond_true, cond_false, aop, Zg, ev, sput, Zf, Yk, Yl, Nat.reduceBEq, hin]
    refine hN7 [(0, v), (1, .func (.func g) #[] cap), (4, .int .i64 0), (6, v), (7, Zd ps.length), (8, Zd ps.length), (9, .bool false)] _ _ ?_ (by simp (maxSteps := 2000000) only [vup, cond_true, cond_false, Nat.reduceBEq])
    clear hN7
    try clear N7
    refine Ze fun N8 hN8 => ?_
    simp (maxSteps := 2000000) only [↓Xl, ↓vdn, vup, cond_true, cond_false, Zg, ev, Nat.reduceBEq]
    refine hQ2 _ _ _ (hQ _ _ _ ?_)
    simp (maxSteps := 2000000) only [Zg, Zo, Zu, if_true]
    refine hZ [(0, v), (1, .func (.func g) #[] cap), (4, .int .i64 0), (6, v), (7, Zd ps.length), (8, Zd ps.length), (9, .bool false)] _ _ ?_ (by simp (maxSteps := 2000000) only [vup, cond_true, cond_false, Nat.reduceBEq])
    clear hZ
    try clear Z
    refine Zi ?_
    simp (maxSteps := 2000000) only [↓Za, ↓Zw, ↓Zz, ↓Zb, ↓Zc, vup, cond_true, cond_false, aop, Zg, ev, sput, Zf, Nat.reduceBEq, Zu, Xx, tup]
    rw [List.take_length] at hall
    exact ⟨_, rfl, by rw [show ps.any f = false from List.any_eq_false.2 fun p hp => by simp [hall p hp]]; decide⟩

theorem s98_callW [Tabs Try.prog] {args : List Value} {h : Zh} {Q : Value → Zh → Prop} (hsz : args.length ≤ 9) (hk : AWS Try.prog 9 s98 (Zu Try.prog [.tmp 4] Q) (Zp 0 args) h) : ACall Try.prog 98 args h Q :=
  Yv Try.func98 rfl (enters_of Try.func98 (by kernel_rfl) rfl) rfl rfl (by decide) s98_strip s98_ok hsz hk
theorem hasB_call [Tabs prog] {h : Zh} {v : Value} {ps : List (Int × Int)} {g : FuncId} {cap : Array Value} {f : Int × Int → Bool} (hv : PairSl h v ps) (hl : ps.length < 9223372036854775808)
    (hc : ∀ h', Ext (fun _ => False) h h' → ∀ p ∈ ps, Xm prog g ([.agg #[Zd p.1, Zd p.2]] ++ cap.toList) h' (.bool (f p))) : Xm prog 98 [v, .func (.func g) #[] cap] h (.bool (ps.any f)) := by
  refine s98_callW (by simp) ?_
  refine Zi ?_
  simp (maxSteps := 2000000) only [s98, ↓Za, ↓Zw, ↓Zz, ↓Zb, ↓Zc, vup, List.map_cons, List.map_nil, cond_true, cond_false, aop, Zg, Zp, ev, sput, Zf, Yk, Yl, Nat.reduceBEq, Nat.reduceAdd, Zu, Xx, tup, tyf, Yr, List.nil_append, List.append_nil]
  refine (idxB_call hv hl hc).mono ?_
  rintro _ h1 ⟨rfl, i, rfl, hi⟩
  simp (maxSteps := 2000000) only [vup, hi]

theorem s99_callW [Tabs Try.prog] {args : List Value} {h : Zh} {Q : Value → Zh → Prop} (hsz : args.length ≤ 9) (hk : AWS Try.prog 9 s99 (Zu Try.prog [.tmp 3] Q) (Zp 0 args) h) : ACall Try.prog 99 args h Q :=
  Yv Try.func99 rfl (enters_of Try.func99 (by kernel_rfl) rfl) rfl rfl (by decide) s99_strip s99_ok hsz hk
theorem sameB_call [Tabs prog] {h : Zh} {b : Nat} {x y e c : Int} (hb : h[b]? = some (bB e c)) : Xm prog 99 [.agg #[Zd x, Zd y], .pointer (some ⟨b, 0, none⟩)] h (.bool (x == e)) := by
  refine ACall.forget (Low.bool _) ?_
  refine s99_callW (by simp) ?_
  refine Zi ?_
  simp (maxSteps := 2000000) only [s99, ↓Za, ↓Zw, ↓Zz, ↓Zb, ↓Zc, vup, cond_true, cond_false, aop, Zg, Zp, ev, sput, Zf, Yk, Yl, Nat.reduceBEq, Nat.reduceAdd, Zu, Xx, tup, tyf, boxB, Yx, bA0, loadB0 (Yh h _), loadB0 (Xp hb _)]
  exact Ext.app _ _ _

/-- A bet on n worlds. -/
def okB (n : Nat) (p : Int × Int) : Bool := decide (0 ≤ p.1) && (decide (p.1 < 2 ^ n) && (decide (0 ≤ p.2) && decide (p.2 ≤ 12)))
/-- Each is a bet, none ahead is on the same event. -/
def Vc (n : Nat) (l : List (Int × Int)) (k : Nat) : Bool := (List.range k).all fun i => okB n (l.getD i (0, 0)) && !(l.take i).any fun x => x.1 == (l.getD i (0, 0)).1
def Yu (n : Int) (l : List (Int × Int)) : Bool := decide (2 ≤ n) && (decide (n ≤ 5) && (decide (1 ≤ l.length) && (decide (l.length ≤ 6) && Vc n.toNat l l.length)))
theorem validTo_succ (n : Nat) (l : List (Int × Int)) (k : Nat) : Vc n l (k + 1) = (Vc n l k && (okB n (l.getD k (0, 0)) && !(l.take k).any fun x => x.1 == (l.getD k (0, 0)).1)) := by
  rw [Vc, List.range_succ, List.all_append]; simp [Vc]
theorem validTo_false {n : Nat} {l : List (Int × Int)} {k : Nat} (hk : k < l.length) (h : (okB n (l.getD k (0, 0)) && !(l.take k).any fun x => x.1 == (l.getD k (0, 0)).1) = false) : Vc n l l.length = false := by
  rw [Vc, List.all_eq_false]
  exact ⟨k, List.mem_range.2 hk, by simp only [h]; decide⟩

set_option maxHeartbeats 2000000
theorem s58_callW [Tabs Try.prog] {args : List Value} {h : Zh} {Q : Value → Zh → Prop} (hsz : args.length ≤ 61) (hk : AWS Try.prog 61 s58 (Zu Try.prog [.tmp 2] Q) (Zp 0 args) h) : ACall Try.prog 58 args h Q :=
  Yv Try.func58 rfl (enters_of Try.func58 (by kernel_rfl) rfl) rfl rfl (by decide) s58_strip s58_ok hsz hk
theorem valid_call [Tabs prog] {h : Zh} {n : Int} {v : Value} {l : List (Int × Int)} (hv : PairSl h v l) (hl : l.length < 9223372036854775808) : Xm prog 58 [.agg #[Zd n, v]] h (.bool (Yu n l)) := by
  obtain ⟨H, hH⟩ : ∃ H, H = h ++ [Blk.cells [Zd n, v] 86 false] := ⟨_, rfl⟩
  have hE : Ext (fun _ => False) h H := by rw [hH]; exact Ext.app _ _ _
  have b1 : H[h.length]? = some (.cells [Zd n, v] 86 false) := by rw [hH]; exact Yh _ _
  have hvH := hv.ext hE
  refine ACall.forget (Low.bool _) ?_
  refine s58_callW (by simp) ?_
  simp only [s58]
  refine Ze fun N9 hN9 => ?_
  simp (maxSteps := 2000000) only [↓Za, ↓Zb, ↓Zc, vup, cond_true, cond_false, aop, Zg, Zp, ev, sput, Zf, Nat.reduceBEq, boxT, Yx]
  rw [← hH]
  refine hN9 [(1, .pointer (some ⟨h.length, 0, none⟩)), (2, .bool false)] _ _ ?_ (by simp (maxSteps := 2000000) only [vup, cond_true, cond_false, Nat.reduceBEq])
  clear hN9
  try clear N9
  by_cases h1 : n < 2
  · refine Zi ?_
    simp (maxSteps := 2000000) only [↓Za, ↓Zw, ↓Zz, ↓Zb, ↓Zc, ↓vdn, vup, cond_true, cond_false, aop, Zg, ev, sput, Zf, Yk, Yl, Nat.reduceBEq, Zu, Xx, tup, tyf, tA0, Vn b1, h1]
    rw [Yu, show decide (2 ≤ n) = false by simp; omega, Bool.false_and]
    exact ⟨rfl, hE⟩
  by_cases h2 : n > 5
  · refine Zi ?_
    simp (maxSteps := 2000000) only [↓Za, ↓Zw, ↓Zz, ↓Zb, ↓Zc, ↓vdn, vup, cond_true, cond_false, aop, Zg, ev, sput, Zf, Yk, Yl, Nat.reduceBEq, Zu, Xx, tup, tyf, tA0, Vn b1, h1, h2]
    rw [Yu, show decide (n ≤ 5) = false by simp; omega, Bool.false_and, Bool.and_false]
    exact ⟨rfl, hE⟩
  by_cases h3 : (l.length : Int) < 1
  · refine Zi ?_
    simp (maxSteps := 2000000) only [↓Za, ↓Zw, ↓Zz, ↓Zb, ↓Zc, ↓vdn, vup, List.map_cons, List.map_nil, cond_true, cond_false, aop, Zg, ev, sput, Zf, Yk, Yl, Zk, Nat.reduceBEq, Zu, Xx, tup, tyf, tA0, tA1, Vn b1, loadT1 b1, h1, h2, hvH.len, h3]
    rw [Yu, show decide (1 ≤ l.length) = false by rw [decide_eq_false_iff_not]; omega, Bool.false_and, Bool.and_false, Bool.and_false]
    exact ⟨rfl, hE⟩
  by_cases h4 : (l.length : Int) > 6
  · refine Zi ?_
    simp (maxSteps := 2000000) only [↓Za, ↓Zw, ↓Zz, ↓Zb, ↓Zc, ↓vdn, vup, List.map_cons, List.map_nil, cond_true, cond_false, aop, Zg, ev, sput, Zf, Yk, Yl, Zk, Nat.reduceBEq, Zu, Xx, tup, tyf, tA0, tA1, Vn b1, loadT1 b1, h1, h2, hvH.len, h3, h4]
    rw [Yu, show decide (l.length ≤ 6) = false by simp; omega, Bool.false_and, Bool.and_false, Bool.and_false, Bool.and_false]
    exact ⟨rfl, hE⟩
  obtain ⟨m, rfl⟩ : ∃ m : Nat, n = m := ⟨n.toNat, by omega⟩
  have hval : Yu m l = Vc m l l.length := by
    rw [Yu, show decide ((2 : Int) ≤ m) = true by simp; omega, show decide ((m : Int) ≤ 5) = true by simp; omega, show decide (1 ≤ l.length) = true by rw [decide_eq_true_eq]; omega, show decide (l.length ≤ 6) = true by simp; omega]
    simp
  rw [hval]
  have hpm : (2 : Nat) ^ m ≤ 2 ^ 5 := Nat.pow_le_pow_right (by decide) (by omega)
  refine Zl fun Y hY => ?_
  refine Ze fun N10 hN10 => ?_
  simp (maxSteps := 2000000) only [↓Za, ↓Zb, ↓Zc, ↓vdn, vup, List.map_cons, List.map_nil, cond_true, cond_false, aop, Zg, ev, sput, Zf, Yk, Yl, Zk, Nat.reduceBEq, tyf, tA0, tA1, Vn b1, loadT1 b1, h1, h2, hvH.len, h3, h4]
  refine hN10 [(1, .pointer (some ⟨h.length, 0, none⟩)), (2, .bool false), (24, .bool false)] _ _ ?_ (by simp (maxSteps := 2000000) only [vup, cond_true, cond_false, Nat.reduceBEq])
  clear hN10
  try clear N10
  refine Yz rfl ?_
  refine Zi ?_
  simp (maxSteps := 2000000) only [↓Zs, Zg]
  refine hY [(1, .pointer (some ⟨h.length, 0, none⟩)), (2, .bool false), (24, .bool false)] _ _ ?_ (by simp (maxSteps := 2000000) only [vup, cond_true, cond_false, Nat.reduceBEq])
  clear hY
  try clear Y
  refine Zl fun Z hZ => ?_
  refine Ze fun N11 hN11 => ?_
  simp (maxSteps := 2000000) only [↓Za, ↓Zb, ↓Zc, vup, List.map_cons, List.map_nil, cond_true, cond_false, aop, Zg, ev, sput, Zf, Zk, Nat.reduceBEq, tyf, tA1, loadT1 b1, hvH.len]
  refine hN11 [(1, .pointer (some ⟨h.length, 0, none⟩)), (2, .bool false), (24, .bool false), (26, v), (27, Zd l.length), (28, .int .i64 0)] _ _ ?_ (by simp (maxSteps := 2000000) only [vup, cond_true, cond_false, Nat.reduceBEq])
  clear hN11
  try clear N11
  refine Zn ?_
  refine Zy fun Q hQ => ?_
  refine Xd (γ := Nat × Zh) (fun s => s.1 ≤ l.length ∧ Vc m l s.1 = true ∧ Ext (fun _ => False) H s.2)
    (fun s => ([(1, .pointer (some ⟨h.length, 0, none⟩)), (2, .bool false), (24, .bool false), (26, v), (27, Zd l.length), (28, Zd (s.1 : Nat))], s.2)) (fun s => l.length - s.1) (0, H) ⟨Nat.zero_le _, rfl, Ext.refl _ _⟩ (by simp (maxSteps := 2000000) only [vup, cond_true, cond_false, Nat.reduceBEq, Int.natCast_zero]) rfl ?_
  rintro ⟨k, hp⟩ ⟨hk, hall, hEp⟩
  simp only at hk hall hEp
  refine Zy fun Q2 hQ2 => ?_
  simp only [l58_0]
  by_cases hin : (k : Int) < l.length
  · have hk' : k < l.length := by omega
    have hvp := hvH.ext hEp
    obtain ⟨⟨x, y⟩, hxy⟩ : ∃ p, l.getD k (0, 0) = p := ⟨_, rfl⟩
    have hmem : (x, y) ∈ l := hxy ▸ getD_mem hk'
    obtain ⟨G, hG⟩ : ∃ G, G = hp ++ [bB x y] := ⟨_, rfl⟩
    have c4 : G[hp.length]? = some (bB x y) := by rw [hG]; exact Yh _ _
    have hEG : Ext (fun _ => False) H G := by rw [hG]; exact hEp.trans (Ext.app _ _ _)
    have c1 : G[h.length]? = some (.cells [Zd (m : Int), v] 86 false) := (hEG.2 _ (Yn b1) id).trans b1
    have hvG := hvH.ext hEG
    have vfalse : (okB m (x, y) && !(l.take k).any fun z => z.1 == x) = false → Vc m l l.length = false := fun hf => validTo_false hk' (by rw [hxy]; exact hf)
    have ret0 : (okB m (x, y) && !(l.take k).any fun z => z.1 == x) = false → ∀ e, sget e 2 = .bool false → Q2 .ret e G := by
      intro hf e he
      refine hQ2 _ _ _ (hQ _ _ _ ?_)
      simp (maxSteps := 2000000) only [vup, Zg, Zo, Zu, Xx, tup, he, vfalse hf]
      exact hE.trans hEG
    have hsh : shlV .i64 1 (m : Int) = 2 ^ m := shl1 (by omega)
    refine Ze fun N12 hN12 => ?_
    simp (maxSteps := 2000000) only [↓Za, ↓Zb, ↓Zc, vup, cond_true, cond_false, aop, Zg, ev, sput, Zf, Yk, Yl, Nat.reduceBEq, hin]
    refine hN12 [(1, .pointer (some ⟨h.length, 0, none⟩)), (2, .bool false), (24, .bool false), (26, v), (27, Zd l.length), (28, Zd (k : Nat)), (29, .bool true)] _ _ ?_ (by simp (maxSteps := 2000000) only [vup, cond_true, cond_false, Nat.reduceBEq])
    clear hN12
    try clear N12
    refine Ze fun N13 hN13 => ?_
    simp (maxSteps := 2000000) only [↓Zs, ↓vdn, vup, cond_true, cond_false, Zg, ev, Nat.reduceBEq]
    refine hN13 [(1, .pointer (some ⟨h.length, 0, none⟩)), (2, .bool false), (24, .bool false), (26, v), (27, Zd l.length), (28, Zd (k : Nat))] _ _ ?_ (by simp (maxSteps := 2000000) only [vup, cond_true, cond_false, Nat.reduceBEq])
    clear hN13
    try clear N13
    refine Zl fun B hB => ?_
    refine Zn ?_
    refine Ze fun N14 hN14 => ?_
    simp (maxSteps := 2000000) only [↓Za, ↓Zb, ↓Zc, vup, cond_true, cond_false, aop, Zg, ev, sput, Zf, Nat.reduceBEq, tyf, hvp.idx el_30 esz_92 hk', hvp.load shp_92 hk', hxy, Xn, Yx, storeBt (Yh hp zB) rfl, Xy]
    rw [← hG]
    refine hN14 [(1, .pointer (some ⟨h.length, 0, none⟩)), (2, .bool false), (3, Zd (k : Nat)), (4, .pointer (some ⟨hp.length, 0, none⟩)), (24, .bool false), (26, v), (27, Zd l.length), (28, Zd (k : Nat))] _ _ ?_ (by simp (maxSteps := 2000000) only [vup, cond_true, cond_false, Nat.reduceBEq])
    clear hN14
    try clear N14
    refine Zl fun C hC => ?_
    refine Ze fun N15 hN15 => ?_
    simp only [q58_6]
    refine Wl [] (by kernel_rfl) (by kernel_rfl) (by kernel_rfl) (by kernel_rfl) ?_
    by_cases g1 : x < 0
    · simp (maxSteps := 2000000) only [↓Xj, ↓vdn, vup, cond_true, cond_false, aop, Zg, ev, sput, Zf, Yk, Yl, pickK, Nat.reduceBEq, Nat.reduceAdd, tyf, bA0, loadB0 c4, g1]
      refine hN15 [(1, .pointer (some ⟨h.length, 0, none⟩)), (2, .bool false), (3, Zd (k : Nat)), (4, .pointer (some ⟨hp.length, 0, none⟩)), (24, .bool false), (26, v), (27, Zd l.length), (28, Zd (k : Nat)), (53, .bool true)] _ _ ?_ (by simp (maxSteps := 2000000) only [vup, cond_true, cond_false, Nat.reduceBEq])
      clear hN15
      try clear N15
      refine Zi ?_
      simp (maxSteps := 2000000) only [↓Za, ↓Zw, ↓Zz, ↓Zb, ↓Zc, ↓vdn, vup, cond_true, cond_false, aop, Zg, Zo, ev, sput, Zf, Nat.reduceBEq]
      exact ret0 (by simp [okB]; omega) _ rfl
    by_cases g2 : x ≥ 2 ^ m
    · simp (maxSteps := 2000000) only [↓Xj, ↓vdn, vup, cond_true, cond_false, aop, Zg, ev, sput, Zf, Yk, Yl, pickK, Nat.reduceBEq, Nat.reduceAdd, tyf, bA0, loadB0 c4, g1, tA0, Vn c1, hsh, Int.natCast_nonneg, g2]
      refine hN15 [(1, .pointer (some ⟨h.length, 0, none⟩)), (2, .bool false), (3, Zd (k : Nat)), (4, .pointer (some ⟨hp.length, 0, none⟩)), (24, .bool false), (26, v), (27, Zd l.length), (28, Zd (k : Nat)), (53, .bool true)] _ _ ?_ (by simp (maxSteps := 2000000) only [vup, cond_true, cond_false, Nat.reduceBEq])
      clear hN15
      try clear N15
      refine Zi ?_
      simp (maxSteps := 2000000) only [↓Za, ↓Zw, ↓Zz, ↓Zb, ↓Zc, ↓vdn, vup, cond_true, cond_false, aop, Zg, Zo, ev, sput, Zf, Nat.reduceBEq]
      exact ret0 (by simp [okB]; omega) _ rfl
    by_cases g3 : y < 0
    · simp (maxSteps := 2000000) only [↓Xj, ↓vdn, vup, cond_true, cond_false, aop, Zg, ev, sput, Zf, Yk, Yl, pickK, Nat.reduceBEq, Nat.reduceAdd, tyf, bA0, bA1, loadB0 c4, loadB1 c4, g1, tA0, Vn c1, hsh, Int.natCast_nonneg, g2, g3]
      refine hN15 [(1, .pointer (some ⟨h.length, 0, none⟩)), (2, .bool false), (3, Zd (k : Nat)), (4, .pointer (some ⟨hp.length, 0, none⟩)), (24, .bool false), (26, v), (27, Zd l.length), (28, Zd (k : Nat)), (53, .bool true)] _ _ ?_ (by simp (maxSteps := 2000000) only [vup, cond_true, cond_false, Nat.reduceBEq])
      clear hN15
      try clear N15
      refine Zi ?_
      simp (maxSteps := 2000000) only [↓Za, ↓Zw, ↓Zz, ↓Zb, ↓Zc, ↓vdn, vup, cond_true, cond_false, aop, Zg, Zo, ev, sput, Zf, Nat.reduceBEq]
      exact ret0 (by simp [okB]; omega) _ rfl
    by_cases g4 : y > 12
    · simp (maxSteps := 2000000) only [↓Xj, ↓vdn, vup, cond_true, cond_false, aop, Zg, ev, sput, Zf, Yk, Yl, pickK, Nat.reduceBEq, Nat.reduceAdd, tyf, bA0, bA1, loadB0 c4, loadB1 c4, g1, tA0, Vn c1, hsh, Int.natCast_nonneg, g2, g3, g4]
      refine hN15 [(1, .pointer (some ⟨h.length, 0, none⟩)), (2, .bool false), (3, Zd (k : Nat)), (4, .pointer (some ⟨hp.length, 0, none⟩)), (24, .bool false), (26, v), (27, Zd l.length), (28, Zd (k : Nat)), (53, .bool true)] _ _ ?_ (by simp (maxSteps := 2000000) only [vup, cond_true, cond_false, Nat.reduceBEq])
      clear hN15
      try clear N15
      refine Zi ?_
      simp (maxSteps := 2000000) only [↓Za, ↓Zw, ↓Zz, ↓Zb, ↓Zc, ↓vdn, vup, cond_true, cond_false, aop, Zg, Zo, ev, sput, Zf, Nat.reduceBEq]
      exact ret0 (by simp [okB]; omega) _ rfl
    simp (maxSteps := 2000000) only [↓Xj, ↓vdn, vup, cond_true, cond_false, aop, Zg, ev, sput, Zf, Yk, Yl, pickK, Nat.reduceBEq, Nat.reduceAdd, tyf, bA0, bA1, loadB0 c4, loadB1 c4, g1, tA0, Vn c1, hsh, Int.natCast_nonneg, g2, g3, g4]
    refine hN15 [(1, .pointer (some ⟨h.length, 0, none⟩)), (2, .bool false), (3, Zd (k : Nat)), (4, .pointer (some ⟨hp.length, 0, none⟩)), (24, .bool false), (26, v), (27, Zd l.length), (28, Zd (k : Nat)), (53, .bool false)] _ _ ?_ (by simp (maxSteps := 2000000) only [vup, cond_true, cond_false, Nat.reduceBEq])
    clear hN15
    try clear N15
    refine Zi ?_
    simp (maxSteps := 2000000) only [↓Zs, ↓vdn, vup, cond_true, cond_false, Zg, ev, Nat.reduceBEq]
    refine hC [(1, .pointer (some ⟨h.length, 0, none⟩)), (2, .bool false), (3, Zd (k : Nat)), (4, .pointer (some ⟨hp.length, 0, none⟩)), (24, .bool false), (26, v), (27, Zd l.length), (28, Zd (k : Nat))] _ _ ?_ (by simp (maxSteps := 2000000) only [vup, cond_true, cond_false, Nat.reduceBEq])
    clear hC
    try clear C
    have hok : okB m (x, y) = true := by simp [okB]; omega
    refine Ze fun N16 hN16 => ?_
    simp (maxSteps := 2000000) only [↓Za, ↓Zb, ↓Zc, vup, List.map_cons, List.map_nil, cond_true, cond_false, aop, Zg, ev, sput, Zf, Nat.reduceBEq, tA1, loadT1 c1, Option.map_some, Option.map_none]
    refine hvG.pre el_30 esz_92 (show k ≤ l.length by omega) fun v' hv' => ?_
    have hs := hasB_call (g := 99) (cap := #[.pointer (some ⟨hp.length, 0, none⟩)]) (f := fun z => z.1 == x) hv' (by rw [List.length_take]; omega) (fun h' hx p _ => sameB_call ((hx.2 _ (Yn c4) id).trans c4))
    simp (maxSteps := 2000000) only [vup, List.map_cons, List.map_nil, cond_true, cond_false, ev, Nat.reduceBEq, Yr, List.nil_append, List.append_nil, List.map_toArray]
    refine (hs).mono ?_
    rintro _ G ⟨rfl, rfl⟩
    refine hN16 [(1, .pointer (some ⟨h.length, 0, none⟩)), (2, .bool false), (3, Zd (k : Nat)), (4, .pointer (some ⟨hp.length, 0, none⟩)), (24, .bool false), (26, v), (27, Zd l.length), (28, Zd (k : Nat)), (59, .bool ((l.take k).any fun z => z.1 == x))] _ _ ?_ (by simp (maxSteps := 2000000) only [vup, cond_true, cond_false, Nat.reduceBEq])
    clear hN16
    try clear N16
    refine Zi ?_
    cases hany : (l.take k).any fun z => z.1 == x with
    | true =>
      simp (maxSteps := 2000000) only [↓Za, ↓Zw, ↓Zz, ↓Zb, ↓Zc, ↓vdn, vup, cond_true, cond_false, aop, Zg, Zo, ev, sput, Zf, Nat.reduceBEq]
      exact ret0 (by rw [hany]; simp) _ rfl
    | false =>
      simp (maxSteps := 2000000) only [↓Zs, ↓vdn, vup, cond_true, cond_false, Zg, Zo, ev, Nat.reduceBEq]
      refine hB [(1, .pointer (some ⟨h.length, 0, none⟩)), (2, .bool false), (24, .bool false), (26, v), (27, Zd l.length), (28, Zd (k : Nat))] _ _ ?_ (by simp (maxSteps := 2000000) only [vup, cond_true, cond_false, Nat.reduceBEq])
      clear hB
      try clear B
      refine Zi ?_
      simp (maxSteps := 2000000) only [↓Za, ↓Zb, ↓Zc, vup, cond_true, cond_false, aop, ev, sput, Zf, Yk, Yl, Nat.reduceBEq, add1 (show k < 9223372036854775807 by omega)]
      refine hQ2 _ _ _ ⟨(k + 1, G), ⟨hk', ?_, hEG⟩, by simp only; omega, by simp (maxSteps := 2000000) only [vup, cond_true, cond_false, Nat.reduceBEq], rfl⟩
      simp only [validTo_succ, hall, hxy, hok, hany]; rfl
  · obtain rfl : k = l.length := by omega
    refine Ze fun N17 hN17 => ?_
    simp (maxSteps := 2000000) only [↓Za, ↓Zb, ↓Zc, vup, cond_true, cond_false, aop, Zg, ev, sput, Zf, Yk, Yl, Nat.reduceBEq, hin]
    refine hN17 [(1, .pointer (some ⟨h.length, 0, none⟩)), (2, .bool false), (24, .bool false), (26, v), (27, Zd l.length), (28, Zd l.length), (29, .bool false)] _ _ ?_ (by simp (maxSteps := 2000000) only [vup, cond_true, cond_false, Nat.reduceBEq])
    clear hN17
    try clear N17
    refine Ze fun N18 hN18 => ?_
    simp (maxSteps := 2000000) only [↓Xl, ↓vdn, vup, cond_true, cond_false, Zg, ev, Nat.reduceBEq]
    refine hQ2 _ _ _ (hQ _ _ _ ?_)
    simp (maxSteps := 2000000) only [Zg, Zo, Zu, if_true]
    refine hZ [(1, .pointer (some ⟨h.length, 0, none⟩)), (2, .bool false), (24, .bool false), (26, v), (27, Zd l.length), (28, Zd l.length), (29, .bool false)] _ _ ?_ (by simp (maxSteps := 2000000) only [vup, cond_true, cond_false, Nat.reduceBEq])
    clear hZ
    try clear Z
    refine Zi ?_
    simp (maxSteps := 2000000) only [↓Za, ↓Zw, ↓Zz, ↓Zb, ↓Zc, vup, cond_true, cond_false, aop, Zg, ev, sput, Zf, Nat.reduceBEq, Zu, Xx, tup, hall]
    exact hE.trans hEp
end Go.Proofs.Try.Am

/-
  Printed by gen.py: the code of some functions, without what no step looks at; held against the program's own by the kernel.
  bets: law Sound.
  bets: the bounds of an event.
  bets: bounds and prices.
  bets: bounds and prices, in the reference.
-/
import Derived.Test.YtcmindinomacbaaPk3
import Derived.Test.YtcmindinomacbaaProg
import Derived.KernelRfl
import Derived.Shelf.Abstract
import Derived.Test.YtcmindinomacbaaPk9
import Derived.Test.YtcmindinomacbaaPk10
set_option linter.all false
namespace Go.Proofs.Try.Am
open Go.Am
set_option maxRecDepth 100000
/-! 3: planchet planchetlaw09.BetsMore -/
@[reducible] def q3_0 : SCode := .region [⟨some 6, .box 24 (.tmp 2), none⟩,
    ⟨some 8, .assign (.const (.bool false)), none⟩]
@[reducible] def q3_1 : SCode := .region [⟨some 17, .move (.tmp 0), none⟩,
    ⟨some 18, .move (.tmp 1), none⟩,
    ⟨some 19, .call { callee := .value (.func 18), args := #[.tmp 18], argTypes := #[22] }, none⟩,
    ⟨some 20, .move (.tmp 3), none⟩,
    ⟨some 21, .call { callee := .value (.func 17), args := #[.tmp 17, .tmp 19, .tmp 20], argTypes := #[3, 30, 3] }, none⟩,
    ⟨some 16, .move (.tmp 21), none⟩,
    ⟨some 22, .extract (.tmp 16) 0, none⟩,
    ⟨some 23, .extract (.tmp 16) 1, none⟩,
    ⟨some 24, .extract (.tmp 16) 2, none⟩,
    ⟨some 9, .alloc 26, none⟩,
    ⟨some 10, .alloc 26, none⟩,
    ⟨none, .store 26 (.tmp 9) (.tmp 22), none⟩,
    ⟨none, .store 26 (.tmp 10) (.tmp 23), none⟩,
    ⟨some 11, .assign (.tmp 24), none⟩]
def q3_2 : SCode := .draw [⟨some 25, .move (.tmp 1), none⟩,
    ⟨some 26, .call { callee := .value (.func 19), args := #[.tmp 25], argTypes := #[22] }, none⟩,
    ⟨some 27, .load 24 (.tmp 6), none⟩,
    ⟨some 28, .buildSlice 22 1 #[(0, .tmp 27)], none⟩,
    ⟨some 29, .call { callee := .builtin .append, args := #[.tmp 26, .tmp 28], argTypes := #[22, 22] }, none⟩,
    ⟨some 12, .assign (.tmp 29), none⟩]
   [[], [0], [], [2], [1, 3, 1], [4, 4, 0, 1, 2, 3, 4]]
@[reducible] def q3_3 : SCode := .region [⟨some 31, .move (.tmp 0), none⟩,
    ⟨some 32, .move (.tmp 12), none⟩,
    ⟨some 33, .call { callee := .value (.func 18), args := #[.tmp 32], argTypes := #[22] }, none⟩,
    ⟨some 34, .move (.tmp 3), none⟩,
    ⟨some 35, .call { callee := .value (.func 17), args := #[.tmp 31, .tmp 33, .tmp 34], argTypes := #[3, 30, 3] }, none⟩,
    ⟨some 30, .move (.tmp 35), none⟩,
    ⟨some 36, .extract (.tmp 30) 0, none⟩,
    ⟨some 37, .extract (.tmp 30) 1, none⟩,
    ⟨some 38, .extract (.tmp 30) 2, none⟩,
    ⟨some 13, .alloc 26, none⟩,
    ⟨some 14, .alloc 26, none⟩,
    ⟨none, .store 26 (.tmp 13) (.tmp 36), none⟩,
    ⟨none, .store 26 (.tmp 14) (.tmp 37), none⟩,
    ⟨some 15, .assign (.tmp 38), none⟩]
@[reducible] def q3_4 : SCode := .region [⟨some 39, .move (.tmp 0), none⟩,
    ⟨some 40, .move (.tmp 1), none⟩,
    ⟨some 41, .call { callee := .value (.func 20), args := #[.tmp 39, .tmp 40], argTypes := #[3, 22] }, none⟩,
    ⟨some 42, .unOp .not 4 (.tmp 41), none⟩]
@[reducible] def q3_5 : SCode := .region [⟨some 43, .move (.tmp 11), none⟩,
    ⟨some 44, .binOp .eql 27 (.tmp 43) (.const (.int .i64 2)) 27, none⟩,
    ⟨some 45, .move (.tmp 44), none⟩,
    ⟨some 46, .call { callee := .value (.func 21), args := #[], argTypes := #[] }, some (45, true)⟩,
    ⟨some 47, .pick (.tmp 45) (.tmp 46) (.const (.bool false)), none⟩,
    ⟨some 8, .assign (.tmp 47), none⟩]
@[reducible] def q3_6 : SCode := .region [⟨some 48, .move (.tmp 11), none⟩,
    ⟨some 49, .binOp .neq 27 (.tmp 48) (.const (.int .i64 0)) 27, none⟩,
    ⟨some 50, .move (.tmp 49), none⟩,
    ⟨some 51, .move (.tmp 15), some (50, false)⟩,
    ⟨some 52, .binOp .neq 27 (.tmp 51) (.const (.int .i64 0)) 27, some (50, false)⟩,
    ⟨some 53, .pick (.tmp 50) (.const (.bool true)) (.tmp 52), none⟩,
    ⟨some 54, .move (.tmp 53), none⟩,
    ⟨some 55, .move (.tmp 0), some (54, false)⟩,
    ⟨some 56, .move (.tmp 12), some (54, false)⟩,
    ⟨some 57, .call { callee := .value (.func 20), args := #[.tmp 55, .tmp 56], argTypes := #[3, 22] }, some (54, false)⟩,
    ⟨some 58, .unOp .not 4 (.tmp 57), some (54, false)⟩,
    ⟨some 59, .pick (.tmp 54) (.const (.bool true)) (.tmp 58), none⟩]
@[reducible] def q3_7 : SCode := .region [⟨some 60, .move (.tmp 11), none⟩,
    ⟨some 61, .binOp .eql 27 (.tmp 60) (.const (.int .i64 0)) 27, none⟩,
    ⟨some 62, .move (.tmp 61), none⟩,
    ⟨some 63, .move (.tmp 11), some (62, false)⟩,
    ⟨some 64, .binOp .eql 27 (.tmp 63) (.const (.int .i64 2)) 27, some (62, false)⟩,
    ⟨some 65, .pick (.tmp 62) (.const (.bool true)) (.tmp 64), none⟩,
    ⟨some 66, .move (.tmp 65), none⟩,
    ⟨some 67, .move (.tmp 11), some (66, false)⟩,
    ⟨some 68, .binOp .eql 27 (.tmp 67) (.const (.int .i64 5)) 27, some (66, false)⟩,
    ⟨some 69, .pick (.tmp 66) (.const (.bool true)) (.tmp 68), none⟩,
    ⟨some 70, .move (.tmp 69), none⟩,
    ⟨some 71, .move (.tmp 15), some (70, true)⟩,
    ⟨some 72, .binOp .eql 27 (.tmp 71) (.const (.int .i64 2)) 27, some (70, true)⟩,
    ⟨some 73, .move (.tmp 72), some (70, true)⟩,
    ⟨some 74, .move (.tmp 15), some (73, false)⟩,
    ⟨some 75, .binOp .eql 27 (.tmp 74) (.const (.int .i64 5)) 27, some (73, false)⟩,
    ⟨some 76, .pick (.tmp 73) (.const (.bool true)) (.tmp 75), some (70, true)⟩,
    ⟨some 77, .pick (.tmp 70) (.tmp 76) (.const (.bool false)), none⟩,
    ⟨some 78, .move (.tmp 77), none⟩,
    ⟨some 79, .call { callee := .value (.func 21), args := #[], argTypes := #[] }, some (78, true)⟩,
    ⟨some 80, .pick (.tmp 78) (.tmp 79) (.const (.bool false)), none⟩,
    ⟨some 8, .assign (.tmp 80), none⟩]
@[reducible] def q3_8 : SCode := .region [⟨some 81, .load 26 (.tmp 9), none⟩,
    ⟨some 82, .call { callee := .value (.func 22), args := #[.tmp 81], argTypes := #[26] }, none⟩,
    ⟨some 83, .move (.tmp 82), none⟩,
    ⟨some 84, .load 26 (.tmp 10), some (83, true)⟩,
    ⟨some 85, .call { callee := .value (.func 22), args := #[.tmp 84], argTypes := #[26] }, some (83, true)⟩,
    ⟨some 86, .pick (.tmp 83) (.tmp 85) (.const (.bool false)), none⟩,
    ⟨some 87, .move (.tmp 86), none⟩,
    ⟨some 88, .load 26 (.tmp 13), some (87, true)⟩,
    ⟨some 89, .call { callee := .value (.func 22), args := #[.tmp 88], argTypes := #[26] }, some (87, true)⟩,
    ⟨some 90, .pick (.tmp 87) (.tmp 89) (.const (.bool false)), none⟩,
    ⟨some 91, .move (.tmp 90), none⟩,
    ⟨some 92, .load 26 (.tmp 14), some (91, true)⟩,
    ⟨some 93, .call { callee := .value (.func 22), args := #[.tmp 92], argTypes := #[26] }, some (91, true)⟩,
    ⟨some 94, .pick (.tmp 91) (.tmp 93) (.const (.bool false)), none⟩,
    ⟨some 95, .move (.tmp 94), none⟩,
    ⟨some 96, .load 26 (.tmp 13), some (95, true)⟩,
    ⟨some 97, .load 26 (.tmp 9), some (95, true)⟩,
    ⟨some 98, .call { callee := .value (.func 23), args := #[.tmp 96, .tmp 97], argTypes := #[26, 26] }, some (95, true)⟩,
    ⟨some 99, .unOp .not 4 (.tmp 98), some (95, true)⟩,
    ⟨some 100, .pick (.tmp 95) (.tmp 99) (.const (.bool false)), none⟩,
    ⟨some 101, .move (.tmp 100), none⟩,
    ⟨some 102, .load 26 (.tmp 10), some (101, true)⟩,
    ⟨some 103, .load 26 (.tmp 14), some (101, true)⟩,
    ⟨some 104, .call { callee := .value (.func 23), args := #[.tmp 102, .tmp 103], argTypes := #[26, 26] }, some (101, true)⟩,
    ⟨some 105, .unOp .not 4 (.tmp 104), some (101, true)⟩,
    ⟨some 106, .pick (.tmp 101) (.tmp 105) (.const (.bool false)), none⟩,
    ⟨some 107, .move (.tmp 106), none⟩,
    ⟨some 108, .call { callee := .value (.func 21), args := #[], argTypes := #[] }, some (107, true)⟩,
    ⟨some 109, .pick (.tmp 107) (.tmp 108) (.const (.bool false)), none⟩,
    ⟨some 8, .assign (.tmp 109), none⟩]
def s3 : SCode := (.seq q3_0 (.seq q3_1 (.seq q3_2 (.seq q3_3 (.seq (.seq q3_4 (.cond (.tmp 42) (.seq q3_5 .ret) .skip)) (.seq (.seq q3_6 (.cond (.tmp 59) (.seq q3_7 .ret) .skip)) (.seq q3_8 .ret)))))))
/-! 4: planchet planchetlaw09.BetsBounds -/
@[reducible] def q4_0 : SCode := .region [⟨some 6, .assign (.const (.bool false)), none⟩]
@[reducible] def q4_1 : SCode := .region [⟨some 15, .move (.tmp 0), none⟩,
    ⟨some 16, .move (.tmp 1), none⟩,
    ⟨some 17, .call { callee := .value (.func 18), args := #[.tmp 16], argTypes := #[22] }, none⟩,
    ⟨some 18, .move (.tmp 2), none⟩,
    ⟨some 19, .call { callee := .value (.func 17), args := #[.tmp 15, .tmp 17, .tmp 18], argTypes := #[3, 30, 3] }, none⟩,
    ⟨some 14, .move (.tmp 19), none⟩,
    ⟨some 20, .extract (.tmp 14) 0, none⟩,
    ⟨some 21, .extract (.tmp 14) 1, none⟩,
    ⟨some 22, .extract (.tmp 14) 2, none⟩,
    ⟨some 7, .alloc 26, none⟩,
    ⟨some 8, .alloc 26, none⟩,
    ⟨none, .store 26 (.tmp 7) (.tmp 20), none⟩,
    ⟨none, .store 26 (.tmp 8) (.tmp 21), none⟩,
    ⟨some 9, .assign (.tmp 22), none⟩]
@[reducible] def q4_2 : SCode := .region [⟨some 24, .move (.tmp 0), none⟩,
    ⟨some 25, .move (.tmp 1), none⟩,
    ⟨some 26, .call { callee := .value (.func 18), args := #[.tmp 25], argTypes := #[22] }, none⟩,
    ⟨some 27, .move (.tmp 2), none⟩,
    ⟨some 28, .call { callee := .value (.func 24), args := #[.tmp 24, .tmp 26, .tmp 27], argTypes := #[3, 30, 3] }, none⟩,
    ⟨some 23, .move (.tmp 28), none⟩,
    ⟨some 29, .extract (.tmp 23) 0, none⟩,
    ⟨some 30, .extract (.tmp 23) 1, none⟩,
    ⟨some 10, .assign (.tmp 29), none⟩,
    ⟨some 11, .assign (.tmp 30), none⟩]
@[reducible] def q4_3 : SCode := .region [⟨some 31, .move (.tmp 0), none⟩,
    ⟨some 32, .move (.tmp 1), none⟩,
    ⟨some 33, .call { callee := .value (.func 20), args := #[.tmp 31, .tmp 32], argTypes := #[3, 22] }, none⟩,
    ⟨some 34, .unOp .not 4 (.tmp 33), none⟩,
    ⟨some 35, .move (.tmp 34), none⟩,
    ⟨some 36, .move (.tmp 0), some (35, false)⟩,
    ⟨some 37, .move (.tmp 2), some (35, false)⟩,
    ⟨some 38, .call { callee := .value (.func 25), args := #[.tmp 36, .tmp 37], argTypes := #[3, 3] }, some (35, false)⟩,
    ⟨some 39, .unOp .not 4 (.tmp 38), some (35, false)⟩,
    ⟨some 40, .pick (.tmp 35) (.const (.bool true)) (.tmp 39), none⟩]
@[reducible] def q4_4 : SCode := .region [⟨some 41, .load 26 (.tmp 7), none⟩,
    ⟨some 42, .call { callee := .value (.func 26), args := #[.tmp 41], argTypes := #[26] }, none⟩,
    ⟨some 43, .move (.tmp 42), none⟩,
    ⟨some 44, .load 26 (.tmp 8), some (43, true)⟩,
    ⟨some 45, .call { callee := .value (.func 26), args := #[.tmp 44], argTypes := #[26] }, some (43, true)⟩,
    ⟨some 46, .pick (.tmp 43) (.tmp 45) (.const (.bool false)), none⟩,
    ⟨some 47, .move (.tmp 46), none⟩,
    ⟨some 48, .move (.tmp 10), some (47, true)⟩,
    ⟨some 49, .call { callee := .builtin .len, args := #[.tmp 48], argTypes := #[38] }, some (47, true)⟩,
    ⟨some 50, .binOp .eql 3 (.tmp 49) (.const (.int .i64 0)) 3, some (47, true)⟩,
    ⟨some 51, .pick (.tmp 47) (.tmp 50) (.const (.bool false)), none⟩,
    ⟨some 52, .move (.tmp 51), none⟩,
    ⟨some 53, .move (.tmp 9), some (52, true)⟩,
    ⟨some 54, .binOp .eql 27 (.tmp 53) (.const (.int .i64 2)) 27, some (52, true)⟩,
    ⟨some 55, .pick (.tmp 52) (.tmp 54) (.const (.bool false)), none⟩,
    ⟨some 56, .move (.tmp 55), none⟩,
    ⟨some 57, .move (.tmp 11), some (56, true)⟩,
    ⟨some 58, .binOp .eql 27 (.tmp 57) (.const (.int .i64 2)) 27, some (56, true)⟩,
    ⟨some 59, .pick (.tmp 56) (.tmp 58) (.const (.bool false)), none⟩,
    ⟨some 60, .move (.tmp 59), none⟩,
    ⟨some 61, .call { callee := .value (.func 21), args := #[], argTypes := #[] }, some (60, true)⟩,
    ⟨some 62, .pick (.tmp 60) (.tmp 61) (.const (.bool false)), none⟩,
    ⟨some 6, .assign (.tmp 62), none⟩]
@[reducible] def q4_5 : SCode := .region [⟨some 63, .move (.tmp 0), none⟩,
    ⟨some 64, .move (.tmp 1), none⟩,
    ⟨some 65, .call { callee := .value (.func 27), args := #[.tmp 63, .tmp 64], argTypes := #[3, 22] }, none⟩,
    ⟨some 66, .unOp .not 4 (.tmp 65), none⟩]
@[reducible] def q4_6 : SCode := .region [⟨some 67, .load 26 (.tmp 7), none⟩,
    ⟨some 68, .call { callee := .value (.func 26), args := #[.tmp 67], argTypes := #[26] }, none⟩,
    ⟨some 69, .move (.tmp 68), none⟩,
    ⟨some 70, .load 26 (.tmp 8), some (69, true)⟩,
    ⟨some 71, .call { callee := .value (.func 26), args := #[.tmp 70], argTypes := #[26] }, some (69, true)⟩,
    ⟨some 72, .pick (.tmp 69) (.tmp 71) (.const (.bool false)), none⟩,
    ⟨some 73, .move (.tmp 72), none⟩,
    ⟨some 74, .move (.tmp 10), some (73, true)⟩,
    ⟨some 75, .call { callee := .builtin .len, args := #[.tmp 74], argTypes := #[38] }, some (73, true)⟩,
    ⟨some 76, .binOp .eql 3 (.tmp 75) (.const (.int .i64 0)) 3, some (73, true)⟩,
    ⟨some 77, .pick (.tmp 73) (.tmp 76) (.const (.bool false)), none⟩,
    ⟨some 78, .move (.tmp 77), none⟩,
    ⟨some 79, .move (.tmp 9), some (78, true)⟩,
    ⟨some 80, .binOp .eql 27 (.tmp 79) (.const (.int .i64 5)) 27, some (78, true)⟩,
    ⟨some 81, .pick (.tmp 78) (.tmp 80) (.const (.bool false)), none⟩,
    ⟨some 82, .move (.tmp 81), none⟩,
    ⟨some 83, .move (.tmp 11), some (82, true)⟩,
    ⟨some 84, .binOp .eql 27 (.tmp 83) (.const (.int .i64 5)) 27, some (82, true)⟩,
    ⟨some 85, .pick (.tmp 82) (.tmp 84) (.const (.bool false)), none⟩,
    ⟨some 86, .move (.tmp 85), none⟩,
    ⟨some 87, .call { callee := .value (.func 21), args := #[], argTypes := #[] }, some (86, true)⟩,
    ⟨some 88, .pick (.tmp 86) (.tmp 87) (.const (.bool false)), none⟩,
    ⟨some 6, .assign (.tmp 88), none⟩]
@[reducible] def q4_7 : SCode := .region [⟨some 90, .move (.tmp 0), none⟩,
    ⟨some 91, .move (.tmp 1), none⟩,
    ⟨some 92, .move (.tmp 2), none⟩,
    ⟨some 93, .call { callee := .value (.func 28), args := #[.tmp 90, .tmp 91, .tmp 92], argTypes := #[3, 22, 3] }, none⟩,
    ⟨some 89, .move (.tmp 93), none⟩,
    ⟨some 94, .extract (.tmp 89) 0, none⟩,
    ⟨some 95, .extract (.tmp 89) 1, none⟩,
    ⟨some 12, .alloc 26, none⟩,
    ⟨some 13, .alloc 26, none⟩,
    ⟨none, .store 26 (.tmp 12) (.tmp 94), none⟩,
    ⟨none, .store 26 (.tmp 13) (.tmp 95), none⟩]
@[reducible] def q4_8 : SCode := .region [⟨some 96, .load 26 (.tmp 7), none⟩,
    ⟨some 97, .load 26 (.tmp 12), none⟩,
    ⟨some 98, .binOp .eql 26 (.tmp 96) (.tmp 97) 26, none⟩,
    ⟨some 99, .move (.tmp 98), none⟩,
    ⟨some 100, .load 26 (.tmp 8), some (99, true)⟩,
    ⟨some 101, .load 26 (.tmp 13), some (99, true)⟩,
    ⟨some 102, .binOp .eql 26 (.tmp 100) (.tmp 101) 26, some (99, true)⟩,
    ⟨some 103, .pick (.tmp 99) (.tmp 102) (.const (.bool false)), none⟩,
    ⟨some 104, .move (.tmp 103), none⟩,
    ⟨some 105, .move (.tmp 9), some (104, true)⟩,
    ⟨some 106, .binOp .eql 27 (.tmp 105) (.const (.int .i64 0)) 27, some (104, true)⟩,
    ⟨some 107, .pick (.tmp 104) (.tmp 106) (.const (.bool false)), none⟩,
    ⟨some 108, .move (.tmp 107), none⟩,
    ⟨some 109, .move (.tmp 10), some (108, true)⟩,
    ⟨some 110, .move (.tmp 0), some (108, true)⟩,
    ⟨some 111, .move (.tmp 1), some (108, true)⟩,
    ⟨some 112, .move (.tmp 2), some (108, true)⟩,
    ⟨some 113, .call { callee := .value (.func 30), args := #[.tmp 110, .tmp 111, .tmp 112], argTypes := #[3, 22, 3] }, some (108, true)⟩,
    ⟨some 114, .call { callee := .value (.func 29), args := #[.tmp 109, .tmp 113], argTypes := #[38, 38] }, some (108, true)⟩,
    ⟨some 115, .pick (.tmp 108) (.tmp 114) (.const (.bool false)), none⟩,
    ⟨some 116, .move (.tmp 115), none⟩,
    ⟨some 117, .move (.tmp 11), some (116, true)⟩,
    ⟨some 118, .binOp .eql 27 (.tmp 117) (.const (.int .i64 0)) 27, some (116, true)⟩,
    ⟨some 119, .pick (.tmp 116) (.tmp 118) (.const (.bool false)), none⟩,
    ⟨some 120, .move (.tmp 119), none⟩,
    ⟨some 121, .call { callee := .value (.func 21), args := #[], argTypes := #[] }, some (120, true)⟩,
    ⟨some 122, .pick (.tmp 120) (.tmp 121) (.const (.bool false)), none⟩,
    ⟨some 6, .assign (.tmp 122), none⟩]
def s4 : SCode := (.seq q4_0 (.seq q4_1 (.seq q4_2 (.seq (.seq q4_3 (.cond (.tmp 40) (.seq q4_4 .ret) .skip)) (.seq (.seq q4_5 (.cond (.tmp 66) (.seq q4_6 .ret) .skip)) (.seq q4_7 (.seq q4_8 .ret)))))))
theorem s4_strip : Ya (Zt Try.f4) = s4 := by kernel_rfl
theorem s4_ok : Yr 123 (Zt Try.f4) = true := by kernel_rfl
/-! 6: planchet planchetlaw09.BetsSound -/
@[reducible] def q6_0 : SCode := .region [⟨some 6, .assign (.const (.bool false)), none⟩]
@[reducible] def q6_1 : SCode := .region [⟨some 12, .move (.tmp 0), none⟩,
    ⟨some 13, .move (.tmp 1), none⟩,
    ⟨some 14, .call { callee := .value (.func 18), args := #[.tmp 13], argTypes := #[22] }, none⟩,
    ⟨some 15, .call { callee := .value (.func 36), args := #[.tmp 12, .tmp 14], argTypes := #[3, 30] }, none⟩,
    ⟨some 11, .move (.tmp 15), none⟩,
    ⟨some 16, .extract (.tmp 11) 0, none⟩,
    ⟨some 17, .extract (.tmp 11) 1, none⟩,
    ⟨some 7, .assign (.tmp 16), none⟩,
    ⟨some 8, .assign (.tmp 17), none⟩]
@[reducible] def q6_2 : SCode := .region [⟨some 19, .move (.tmp 0), none⟩,
    ⟨some 20, .move (.tmp 1), none⟩,
    ⟨some 21, .call { callee := .value (.func 18), args := #[.tmp 20], argTypes := #[22] }, none⟩,
    ⟨some 22, .move (.tmp 2), none⟩,
    ⟨some 23, .call { callee := .value (.func 32), args := #[.tmp 22], argTypes := #[47] }, none⟩,
    ⟨some 24, .call { callee := .value (.func 37), args := #[.tmp 19, .tmp 21, .tmp 23], argTypes := #[3, 30, 47] }, none⟩,
    ⟨some 18, .move (.tmp 24), none⟩,
    ⟨some 25, .extract (.tmp 18) 0, none⟩,
    ⟨some 26, .extract (.tmp 18) 1, none⟩,
    ⟨some 9, .assign (.tmp 25), none⟩,
    ⟨some 10, .assign (.tmp 26), none⟩]
@[reducible] def q6_3 : SCode := .region [⟨some 27, .move (.tmp 0), none⟩,
    ⟨some 28, .move (.tmp 1), none⟩,
    ⟨some 29, .call { callee := .value (.func 20), args := #[.tmp 27, .tmp 28], argTypes := #[3, 22] }, none⟩,
    ⟨some 30, .unOp .not 4 (.tmp 29), none⟩]
@[reducible] def q6_4 : SCode := .region [⟨some 31, .move (.tmp 7), none⟩,
    ⟨some 32, .call { callee := .builtin .len, args := #[.tmp 31], argTypes := #[47] }, none⟩,
    ⟨some 33, .binOp .eql 3 (.tmp 32) (.const (.int .i64 0)) 3, none⟩,
    ⟨some 34, .move (.tmp 33), none⟩,
    ⟨some 35, .move (.tmp 9), some (34, true)⟩,
    ⟨some 36, .unOp .not 4 (.tmp 35), some (34, true)⟩,
    ⟨some 37, .pick (.tmp 34) (.tmp 36) (.const (.bool false)), none⟩,
    ⟨some 38, .move (.tmp 37), none⟩,
    ⟨some 39, .move (.tmp 8), some (38, true)⟩,
    ⟨some 40, .binOp .eql 27 (.tmp 39) (.const (.int .i64 2)) 27, some (38, true)⟩,
    ⟨some 41, .pick (.tmp 38) (.tmp 40) (.const (.bool false)), none⟩,
    ⟨some 42, .move (.tmp 41), none⟩,
    ⟨some 43, .move (.tmp 10), some (42, true)⟩,
    ⟨some 44, .binOp .eql 27 (.tmp 43) (.const (.int .i64 2)) 27, some (42, true)⟩,
    ⟨some 45, .pick (.tmp 42) (.tmp 44) (.const (.bool false)), none⟩,
    ⟨some 46, .move (.tmp 45), none⟩,
    ⟨some 47, .call { callee := .value (.func 21), args := #[], argTypes := #[] }, some (46, true)⟩,
    ⟨some 48, .pick (.tmp 46) (.tmp 47) (.const (.bool false)), none⟩,
    ⟨some 6, .assign (.tmp 48), none⟩]
@[reducible] def q6_5 : SCode := .region [⟨some 49, .move (.tmp 0), none⟩,
    ⟨some 50, .move (.tmp 1), none⟩,
    ⟨some 51, .call { callee := .value (.func 27), args := #[.tmp 49, .tmp 50], argTypes := #[3, 22] }, none⟩]
@[reducible] def q6_6 : SCode := .region [⟨some 52, .move (.tmp 8), none⟩,
    ⟨some 53, .binOp .neq 27 (.tmp 52) (.const (.int .i64 0)) 27, none⟩,
    ⟨some 54, .move (.tmp 53), none⟩,
    ⟨some 55, .move (.tmp 0), some (54, false)⟩,
    ⟨some 56, .move (.tmp 7), some (54, false)⟩,
    ⟨some 57, .call { callee := .value (.func 38), args := #[.tmp 55, .tmp 56], argTypes := #[3, 47] }, some (54, false)⟩,
    ⟨some 58, .unOp .not 4 (.tmp 57), some (54, false)⟩,
    ⟨some 59, .pick (.tmp 54) (.const (.bool true)) (.tmp 58), none⟩,
    ⟨some 60, .move (.tmp 59), none⟩,
    ⟨some 61, .move (.tmp 0), some (60, false)⟩,
    ⟨some 62, .move (.tmp 1), some (60, false)⟩,
    ⟨some 63, .move (.tmp 7), some (60, false)⟩,
    ⟨some 64, .call { callee := .value (.func 39), args := #[.tmp 61, .tmp 62, .tmp 63], argTypes := #[3, 22, 47] }, some (60, false)⟩,
    ⟨some 65, .unOp .not 4 (.tmp 64), some (60, false)⟩,
    ⟨some 66, .pick (.tmp 60) (.const (.bool true)) (.tmp 65), none⟩]
@[reducible] def q6_7 : SCode := .region [⟨some 6, .assign (.const (.bool false)), none⟩]
@[reducible] def q6_8 : SCode := .region [⟨some 67, .move (.tmp 7), none⟩,
    ⟨some 68, .call { callee := .builtin .len, args := #[.tmp 67], argTypes := #[47] }, none⟩,
    ⟨some 69, .binOp .neq 3 (.tmp 68) (.const (.int .i64 0)) 3, none⟩,
    ⟨some 70, .move (.tmp 69), none⟩,
    ⟨some 71, .move (.tmp 8), some (70, false)⟩,
    ⟨some 72, .binOp .neq 27 (.tmp 71) (.const (.int .i64 5)) 27, some (70, false)⟩,
    ⟨some 73, .pick (.tmp 70) (.const (.bool true)) (.tmp 72), none⟩]
@[reducible] def q6_9 : SCode := .region [⟨some 6, .assign (.const (.bool false)), none⟩]
@[reducible] def q6_10 : SCode := .region [⟨some 74, .move (.tmp 0), none⟩,
    ⟨some 75, .move (.tmp 2), none⟩,
    ⟨some 76, .call { callee := .value (.func 38), args := #[.tmp 74, .tmp 75], argTypes := #[3, 47] }, none⟩,
    ⟨some 77, .unOp .not 4 (.tmp 76), none⟩]
@[reducible] def q6_11 : SCode := .region [⟨some 78, .move (.tmp 9), none⟩,
    ⟨some 79, .unOp .not 4 (.tmp 78), none⟩,
    ⟨some 80, .move (.tmp 79), none⟩,
    ⟨some 81, .move (.tmp 10), some (80, true)⟩,
    ⟨some 82, .binOp .eql 27 (.tmp 81) (.const (.int .i64 2)) 27, some (80, true)⟩,
    ⟨some 83, .pick (.tmp 80) (.tmp 82) (.const (.bool false)), none⟩,
    ⟨some 84, .move (.tmp 83), none⟩,
    ⟨some 85, .call { callee := .value (.func 21), args := #[], argTypes := #[] }, some (84, true)⟩,
    ⟨some 86, .pick (.tmp 84) (.tmp 85) (.const (.bool false)), none⟩,
    ⟨some 6, .assign (.tmp 86), none⟩]
@[reducible] def q6_12 : SCode := .region [⟨some 87, .move (.tmp 9), none⟩,
    ⟨some 88, .move (.tmp 0), none⟩,
    ⟨some 89, .move (.tmp 1), none⟩,
    ⟨some 90, .move (.tmp 2), none⟩,
    ⟨some 91, .call { callee := .value (.func 39), args := #[.tmp 88, .tmp 89, .tmp 90], argTypes := #[3, 22, 47] }, none⟩,
    ⟨some 92, .binOp .eql 4 (.tmp 87) (.tmp 91) 4, none⟩,
    ⟨some 93, .move (.tmp 92), none⟩,
    ⟨some 94, .move (.tmp 10), some (93, true)⟩,
    ⟨some 95, .binOp .eql 27 (.tmp 94) (.const (.int .i64 0)) 27, some (93, true)⟩,
    ⟨some 96, .pick (.tmp 93) (.tmp 95) (.const (.bool false)), none⟩,
    ⟨some 97, .move (.tmp 96), none⟩,
    ⟨some 98, .call { callee := .value (.func 21), args := #[], argTypes := #[] }, some (97, true)⟩,
    ⟨some 99, .pick (.tmp 97) (.tmp 98) (.const (.bool false)), none⟩,
    ⟨some 6, .assign (.tmp 99), none⟩]
def s6 : SCode := (.seq q6_0 (.seq q6_1 (.seq q6_2 (.seq (.seq q6_3 (.cond (.tmp 30) (.seq q6_4 .ret) .skip)) (.seq (.seq q6_5 (.cond (.tmp 51) (.seq q6_6 (.cond (.tmp 66) (.seq q6_7 .ret) .skip)) (.seq q6_8 (.cond (.tmp 73) (.seq q6_9 .ret) .skip)))) (.seq (.seq q6_10 (.cond (.tmp 77) (.seq q6_11 .ret) .skip)) (.seq q6_12 .ret)))))))
end Go.Proofs.Try.Am

namespace Go.Proofs.Try.Am
open Go.Am Bq
set_option maxRecDepth 100000
set_option maxHeartbeats 4000000

theorem valid_take (n : Int) (l : List (Int × Int)) : Xb n (l.take 9) = Xb n l := by
  by_cases h : l.length ≤ 9
  · rw [List.take_of_length_le h]
  · have h1 : (l.take 9).length = 9 := by rw [List.length_take]; omega
    rw [Xb, Xb, h1, show decide (9 ≤ 6) = false by decide, show decide (l.length ≤ 6) = false by simp; omega]
    simp
theorem inEv_bit (f : Nat → Rat) (e n : Nat) : Zv (inEv f e) n = evq n f e := Zw fun w hw => by
  rw [inEv, bitQ]
  split
  · rw [Rat.one_mul]
  · rw [Rat.zero_mul]
theorem fq_map {b : List Rat} {w : Nat} (hw : w < b.length) : fq (b.map ofQ) w = b.getD w 0 := by
  rw [fq, List.getD, List.getElem?_map, List.getElem?_eq_getElem hw, List.getD, List.getElem?_eq_getElem hw]; exact toQ_ofQ _
theorem mulTo_dvd' {N : Nat} (hN : 0 < N) (hB : N ≤ 10000000000) : ∀ (ps : List (Int × Int)) (m : Nat), 0 < m → m ∣ N → (∀ p ∈ ps, okP p = true ∧ p.2.natAbs ∣ N) → mulTo ps m ≠ 0 ∧ mulTo ps m ∣ N
  | [], m, h0, h1, _ => ⟨by rw [mulTo]; omega, by rw [mulTo]; exact h1⟩
  | p :: ps, m, h0, h1, h => by
    obtain ⟨k1, k2⟩ := h p (by simp)
    have hl : Nat.lcm m p.2.natAbs ∣ N := Nat.lcm_dvd h1 k2
    have hlN := Nat.le_of_dvd hN hl
    have hp0 : 0 < p.2.natAbs := Nat.pos_of_dvd_of_pos k2 hN
    rw [mulTo, if_pos ⟨k1, by omega⟩]
    exact mulTo_dvd' hN hB ps _ (Nat.lcm_pos h0 hp0) hl fun q hq => h q (by simp [hq])
theorem okP_of' {q : Rat} (h0 : 0 ≤ q) (hd : q.den ≤ 10000000000) : okP (ofQ q) = true := by
  have h1 : 0 ≤ q.num := Rat.num_nonneg.2 h0
  have h2 := q.den_pos
  have h3 := q.reduced
  simp only [okP, ofQ, Bool.and_eq_true, beq_iff_eq]
  refine ⟨⟨⟨decide_eq_true (by omega), decide_eq_true (by omega)⟩, decide_eq_true h1⟩, ?_⟩
  rw [Int.natAbs_natCast]; exact h3
/-- A corner, as it is handed out. -/
theorem Vt {n : Nat} {l : List (Int × Int)} {b : List Rat} (hval : Xb n l = true) (hb : b ∈ Yd n l) :
    b.length = n ∧ Feas n l (fun w => b.getD w 0) ∧ (∀ w, w < n → b.getD w 0 ≤ 1) ∧ (∃ D, 0 < D ∧ D ≤ 720 ∧ mult (b.map ofQ) ∣ D) ∧ Chn (b.map ofQ) ∧ agB l (b.map ofQ) = true := by
  obtain ⟨hn2, hn5, hl1, hl6, hok⟩ := Wf hval
  obtain ⟨set, h1, h2, h3⟩ := mem_corners.1 hb
  obtain ⟨hl, hf⟩ := corner_feas h3
  obtain ⟨D, d1, d2, d3⟩ := corner_den hn5 (cts_of hval) h3
  have hle : ∀ w, w < n → b.getD w 0 ≤ 1 := fun w hw => by
    have := sumTo_one (g := fun w => b.getD w 0) hw hf.nn
    rw [hf.one] at this; exact this
  have hmem : ∀ p ∈ b.map ofQ, ∃ w, w < n ∧ p = ofQ (b.getD w 0) := fun p hp => by
    obtain ⟨q, hq, rfl⟩ := List.mem_map.1 hp
    obtain ⟨w, hw, rfl⟩ := List.getElem_of_mem hq
    exact ⟨w, by omega, by rw [List.getD, List.getElem?_eq_getElem hw]; rfl⟩
  have hmul := mulTo_dvd' d1 (by omega) (b.map ofQ) 1 (by decide) (Nat.one_dvd _) fun p hp => by
    obtain ⟨w, hw, rfl⟩ := hmem p hp
    have hd := d3 w hw
    have := Nat.le_of_dvd d1 hd
    exact ⟨okP_of' (hf.nn w hw) (by omega), by rw [ofQ]; exact hd⟩
  have hc : Chn (b.map ofQ) := ⟨hmul.1, fun p hp => by
    obtain ⟨w, hw, rfl⟩ := hmem p hp
    have := hle w hw
    rw [Rat.le_iff] at this
    simpa [ofQ] using this⟩
  refine ⟨hl, hf, hle, ⟨D, d1, d2, hmul.2⟩, hc, ?_⟩
  rw [agB, List.length_map, hl, Bool.and_eq_true, decide_eq_true_eq, List.all_eq_true]
  refine ⟨by rw [Zw fun w hw => fq_map (show w < b.length by omega)]; exact hf.one, fun p hp => ?_⟩
  obtain ⟨i, hi, hip⟩ := List.getElem_of_mem hp
  have h4 := hf.bet i hi
  have hgi : l.getD i (0, 0) = p := by rw [List.getD, List.getElem?_eq_getElem hi]; exact hip
  rw [hgi] at h4
  rw [decide_eq_true_eq, inEv_bit, ← h4]
  exact Zw fun w hw => by rw [fq_map (by omega)]
end Go.Proofs.Try.Am

namespace Go.Proofs.Try.Am
open Go.Am Bq
set_option maxRecDepth 100000
set_option maxHeartbeats 4000000

def minL : Rat → List Rat → Rat
  | a, [] => a
  | a, f :: fs => minL (if f < a then f else a) fs
def maxL : Rat → List Rat → Rat
  | a, [] => a
  | a, f :: fs => maxL (if a < f then f else a) fs
theorem minL_spec : ∀ (vs : List Rat) (a : Rat), (minL a vs = a ∨ minL a vs ∈ vs) ∧ minL a vs ≤ a ∧ ∀ v ∈ vs, minL a vs ≤ v
  | [], a => ⟨.inl rfl, Rat.le_refl, fun v hv => by cases hv⟩
  | f :: fs, a => by
    obtain ⟨h1, h2, h3⟩ := minL_spec fs (if f < a then f else a)
    rw [minL]
    have h4 : minL (if f < a then f else a) fs ≤ a ∧ minL (if f < a then f else a) fs ≤ f := by
      split at h2
      · next h => rw [if_pos h]; exact ⟨Rat.le_trans h2 (Rat.le_of_lt h), h2⟩
      · next h => rw [if_neg h]; exact ⟨h2, Rat.le_trans h2 (Rat.not_lt.1 h)⟩
    refine ⟨?_, h4.1, fun v hv => ?_⟩
    · rcases h1 with h1 | h1
      · split at h1
        · next h => rw [if_pos h]; exact .inr (by rw [h1]; simp)
        · next h => rw [if_neg h]; exact .inl h1
      · exact .inr (List.mem_cons_of_mem _ h1)
    · rcases List.mem_cons.1 hv with rfl | hv
      · exact h4.2
      · exact h3 v hv
theorem maxL_spec : ∀ (vs : List Rat) (a : Rat), (maxL a vs = a ∨ maxL a vs ∈ vs) ∧ a ≤ maxL a vs ∧ ∀ v ∈ vs, v ≤ maxL a vs
  | [], a => ⟨.inl rfl, Rat.le_refl, fun v hv => by cases hv⟩
  | f :: fs, a => by
    obtain ⟨h1, h2, h3⟩ := maxL_spec fs (if a < f then f else a)
    rw [maxL]
    have h4 : a ≤ maxL (if a < f then f else a) fs ∧ f ≤ maxL (if a < f then f else a) fs := by
      split at h2
      · next h => rw [if_pos h]; exact ⟨Rat.le_trans (Rat.le_of_lt h) h2, h2⟩
      · next h => rw [if_neg h]; exact ⟨h2, Rat.le_trans (Rat.not_lt.1 h) h2⟩
    refine ⟨?_, h4.1, fun v hv => ?_⟩
    · rcases h1 with h1 | h1
      · split at h1
        · next h => rw [if_pos h]; exact .inr (by rw [h1]; simp)
        · next h => rw [if_neg h]; exact .inl h1
      · exact .inr (List.mem_cons_of_mem _ h1)
    · rcases List.mem_cons.1 hv with rfl | hv
      · exact h4.2
      · exact h3 v hv
theorem minL_start {vs : List Rat} {v : Rat} (hv : v ∈ vs) {a : Rat} (ha : ∀ u ∈ vs, u ≤ a) : minL a vs = minL v vs := by
  obtain ⟨h1, h2, h3⟩ := minL_spec vs a
  obtain ⟨g1, g2, g3⟩ := minL_spec vs v
  refine Rat.le_antisymm ?_ ?_
  · rcases g1 with g | g
    · rw [g]; exact h3 v hv
    · exact h3 _ g
  · rcases h1 with h | h
    · rw [h]; exact Rat.le_trans g2 (ha v hv)
    · exact g3 _ h
theorem maxL_start {vs : List Rat} {v : Rat} (hv : v ∈ vs) {a : Rat} (ha : ∀ u ∈ vs, a ≤ u) : maxL a vs = maxL v vs := by
  obtain ⟨h1, h2, h3⟩ := maxL_spec vs a
  obtain ⟨g1, g2, g3⟩ := maxL_spec vs v
  refine Rat.le_antisymm ?_ ?_
  · rcases h1 with h | h
    · rw [h]; exact Rat.le_trans (ha v hv) g2
    · exact g3 _ h
  · rcases g1 with g | g
    · rw [g]; exact h3 v hv
    · exact h3 _ g
theorem minL_snoc (vs : List Rat) (f : Rat) : ∀ a, minL a (vs ++ [f]) = if f < minL a vs then f else minL a vs := by
  induction vs with
  | nil => intro a; rfl
  | cons g gs ih => intro a; rw [List.cons_append, minL, minL, ih]
theorem maxL_snoc (vs : List Rat) (f : Rat) : ∀ a, maxL a (vs ++ [f]) = if maxL a vs < f then f else maxL a vs := by
  induction vs with
  | nil => intro a; rfl
  | cons g gs ih => intro a; rw [List.cons_append, maxL, maxL, ih]

/-- Small numbers. -/
def SmQ (q : Rat) : Prop := 0 ≤ q ∧ q ≤ 1 ∧ q.den ≤ 720
theorem SmQ.num {q : Rat} (h : SmQ q) : 0 ≤ q.num ∧ q.num ≤ 720 := by
  have h0 := Rat.num_nonneg.2 h.1
  have h1 := h.2.1
  rw [Rat.le_iff] at h1
  have h2 := h.2.2
  have h3 : q.num ≤ (q.den : Int) := by simpa using h1
  omega
theorem SmQ.less [Tabs prog] {a b : Rat} (ha : SmQ a) (hb : SmQ b) (h : Zh) : Xi prog 62 [qV a, qV b] h (.bool (decide (a < b))) := by
  have na := ha.num
  have nb := hb.num
  have r1 := (Rp.own a).up b.den b.den_pos
  have r2 := (Rp.own b).up a.den a.den_pos
  rw [Nat.mul_comm b.den] at r2
  have x1 : (a.num * (b.den : Int)).natAbs ≤ 720 * 720 := by rw [Int.natAbs_mul, Int.natAbs_natCast]; exact Nat.mul_le_mul (by omega) hb.2.2
  have x2 : (b.num * (a.den : Int)).natAbs ≤ 720 * 720 := by rw [Int.natAbs_mul, Int.natAbs_natCast]; exact Nat.mul_le_mul (by omega) ha.2.2
  have x3 : a.den * b.den ≤ 720 * 720 := Nat.mul_le_mul ha.2.2 hb.2.2
  exact less_call r1 r2 (by omega) (by omega)
theorem SmQ.rless [Tabs prog] {a b : Rat} (ha : SmQ a) (hb : SmQ b) (h : Zh) : Xi prog 23 [qV a, qV b] h (.bool (decide (a < b))) := by
  have na := ha.num
  have nb := hb.num
  have x1 : (a.num * (b.den : Int)).natAbs ≤ 720 * 720 := by rw [Int.natAbs_mul, Int.natAbs_natCast]; exact Nat.mul_le_mul (by omega) hb.2.2
  have x2 : (b.num * (a.den : Int)).natAbs ≤ 720 * 720 := by rw [Int.natAbs_mul, Int.natAbs_natCast]; exact Nat.mul_le_mul (by omega) ha.2.2
  exact rless_call (by omega) (by omega)
/-- The chance of an event at a corner. -/
def cvq (n e : Nat) (b : List Rat) : Rat := evq n (fun w => b.getD w 0) e
theorem evq_bounds {n : Nat} {p : Nat → Rat} (h0 : ∀ w, w < n → 0 ≤ p w) (h1 : Zv p n = 1) (e : Nat) : 0 ≤ evq n p e ∧ evq n p e ≤ 1 := by
  constructor
  · refine sumTo_nonneg fun w hw => ?_
    rcases bitQ_01 e w with h | h <;> rw [h]
    · rw [Rat.zero_mul]; exact Rat.le_refl
    · rw [Rat.one_mul]; exact h0 w hw
  · rw [← h1]
    refine sumTo_le fun w hw => ?_
    rcases bitQ_01 e w with h | h <;> rw [h]
    · rw [Rat.zero_mul]; exact h0 w hw
    · rw [Rat.one_mul]; exact Rat.le_refl
theorem part_dvd {n : Nat} {p : Nat → Rat} {D : Nat} (hD : 0 < D) (h : ∀ w, w < n → (p w).den ∣ D) (e : Nat) : (evq n p e).den ∣ D := by
  refine sumTo_den hD fun w hw => ?_
  rcases bitQ_01 e w with h1 | h1 <;> rw [h1]
  · rw [Rat.zero_mul]; exact Nat.one_dvd _
  · rw [Rat.one_mul]; exact h w hw
theorem corner_den' {n : Nat} {l : List (Int × Int)} {b : List Rat} (hval : Xb n l = true) (hb : b ∈ Yd n l) : ∃ D, 0 < D ∧ D ≤ 720 ∧ ∀ w, w < n → (b.getD w 0).den ∣ D := by
  obtain ⟨set, h1, h2, h3⟩ := mem_corners.1 hb
  exact corner_den (Wf hval).2.1 (cts_of hval) h3
theorem corner_sm {n : Nat} {l : List (Int × Int)} {b : List Rat} (hval : Xb n l = true) (hb : b ∈ Yd n l) (e : Nat) : SmQ (cvq n e b) := by
  obtain ⟨_, hf, _, _, _, _⟩ := Vt hval hb
  obtain ⟨D, d1, d2, d3⟩ := corner_den' hval hb
  obtain ⟨h1, h2⟩ := evq_bounds hf.nn hf.one e
  exact ⟨h1, h2, Nat.le_trans (Nat.le_of_dvd d1 (part_dvd d1 d3 e)) d2⟩
theorem corner_of [Tabs prog] {h : Zh} {n e : Nat} {l : List (Int × Int)} {b : List Rat} {w : Value} (hval : Xb n l = true) (hb : b ∈ Yd n l) (hw : BelAt h w b) (he : e < 9223372036854775808) : Xi prog 61 [w, Zc (e : Nat)] h (qV (cvq n e b)) := by
  obtain ⟨hl, hf, hle, _, hc, _⟩ := Vt hval hb
  obtain ⟨D, d1, d2, d3⟩ := corner_den' hval hb
  have hn5 := (Wf hval).2.1
  obtain ⟨bl, rfl, hbl⟩ := hw
  have px := Vb hbl
  rw [List.length_map] at px
  have key := of_call (evt := e) (N := D) px (by rw [List.length_map]; omega) hc.vld he d1 (by omega) (fun k hk => by
    rw [List.length_map] at hk
    rw [fq_map hk]
    exact ⟨hf.nn k (by omega), hle k (by omega), d3 k (by omega)⟩)
  rw [List.length_map, hl, inEv_bit] at key
  rw [hl, cvq, ← show evq n (fq (b.map ofQ)) e = evq n (fun w => b.getD w 0) e from Zw fun w hw => by rw [fq_map (by omega)]]
  exact key

theorem s59_callW [Tabs Try.prog] {args : List Value} {h : Zh} {Q : Value → Zh → Prop} (hsz : args.length ≤ 14) (hk : AWS Try.prog 14 s59 (Zs Try.prog [.tmp 4] Q) (Zr 0 args) h) : ACall Try.prog 59 args h Q :=
  Ys Try.func59 rfl (enters_of Try.func59 (by kernel_rfl) rfl) rfl rfl (by decide) s59_strip s59_ok hsz hk
theorem isEvent_call [Tabs prog] {h : Zh} {n : Nat} {e : Int} {v : Value} (hn : n ≤ 62) : Xi prog 59 [.agg #[Zc (n : Nat), v], Zc e] h (.bool (decide (0 ≤ e) && decide (e < 2 ^ n))) := by
  refine ACall.forget (Low.bool _) ?_
  refine s59_callW (by simp) ?_
  refine Zi ?_
  have hsh : shlV .i64 1 (n : Int) = 2 ^ n := shl1 hn
  have t1 : (h ++ [Blk.cells [Zc (n : Nat), v] 86 false])[h.length]? = some (.cells [Zc (n : Nat), v] 86 false) := Zy _ _
  by_cases h1 : e ≥ 0
  · have e1 : decide (0 ≤ e) = true := by simpa using h1
    by_cases h2 : e < 2 ^ n
    · simp (maxSteps := 2000000) only [s59, ↓Za, ↓Zu, ↓Zz, ↓Zb, ↓Zd, ↓vdn, vup, cond_true, cond_false, aop, Zg, Zr, ev, sput, Zf, Yb, Ye, Nat.reduceBEq, Nat.reduceAdd, Zs, Wd, tup, tyf, boxT, Yp, h1, tA0, Ua t1, Int.natCast_nonneg, hsh, h2, Bool.true_and]
      exact Ext.app _ _ _
    · simp (maxSteps := 2000000) only [s59, ↓Za, ↓Zu, ↓Zz, ↓Zb, ↓Zd, ↓vdn, vup, cond_true, cond_false, aop, Zg, Zr, ev, sput, Zf, Yb, Ye, Nat.reduceBEq, Nat.reduceAdd, Zs, Wd, tup, tyf, boxT, Yp, h1, tA0, Ua t1, Int.natCast_nonneg, hsh, h2, Bool.true_and]
      exact Ext.app _ _ _
  · have e1 : decide (0 ≤ e) = false := by simpa using h1
    simp (maxSteps := 2000000) only [s59, ↓Za, ↓Zu, ↓Zz, ↓Zb, ↓Zd, ↓vdn, vup, cond_true, cond_false, aop, Zg, Zr, ev, sput, Zf, Yb, Ye, Nat.reduceBEq, Nat.reduceAdd, Zs, Wd, tup, boxT, h1, Bool.false_and]
    exact Ext.app _ _ _

/-- Where there are bounds. -/
def evB (n : Int) (e : Int) : Bool := decide (0 ≤ e) && decide (e < 2 ^ n.toNat)
def loQ (n e : Nat) (l : List (Int × Int)) : Rat := minL (cvq n e ((Yd n l).headD [])) ((Yd n l).map (cvq n e))
def hiQ (n e : Nat) (l : List (Int × Int)) : Rat := maxL (cvq n e ((Yd n l).headD [])) ((Yd n l).map (cvq n e))
def bndV (n e : Int) (l : List (Int × Int)) : Value :=
  if Xb n l = true ∧ evB n e = true then (if Yd n.toNat l = [] then .tuple #[frV 0 0, frV 0 0, .int .i64 5] else .tuple #[qV (loQ n.toNat e.toNat l), qV (hiQ n.toNat e.toNat l), .int .i64 0]) else .tuple #[frV 0 0, frV 0 0, .int .i64 2]
theorem BelAt.ext {h h' : Zh} {w : Value} {b : List Rat} (hb : BelAt h w b) (hE : Ext (fun _ => False) h h') : BelAt h' w b := by
  obtain ⟨bl, h1, h2⟩ := hb
  exact ⟨bl, h1, (hE.2 _ (Yc h2) id).trans h2⟩

theorem s17_callW [Tabs Try.prog] {args : List Value} {h : Zh} {Q : Value → Zh → Prop} (hsz : args.length ≤ 65) (hk : AWS Try.prog 65 s17 (Zs Try.prog [.cell 6 26, .cell 7 26, .tmp 8] Q) (Zr 0 args) h) : ACall Try.prog 17 args h Q :=
  Ys Try.func17 rfl (enters_of Try.func17 (by kernel_rfl) rfl) rfl rfl (by decide) s17_strip s17_ok hsz hk
theorem progBounds_call [Tabs prog] {h : Zh} {n e : Int} {v : Value} {l : List (Int × Int)} (hv : PairSl h v l) (hl : l.length < 9223372036854775808) :
    ACall prog 17 [Zc n, v, Zc e] h fun r h' => Ext (fun _ => False) h h' ∧ r = bndV n e l := by
  obtain ⟨p, m, c, rfl⟩ := pairSl_shape hv
  obtain ⟨R, hR⟩ : ∃ R, bndV n e l = R := ⟨_, rfl⟩
  rw [hR]
  obtain ⟨H0, hH0⟩ : ∃ H, H = h ++ [z0] ++ [z0] := ⟨_, rfl⟩
  have hE0 : Ext (fun _ => False) h H0 := by rw [hH0]; exact e2 ..
  have a6 : H0[h.length]? = some z0 := by rw [hH0]; exact b2_0 ..
  have a7 : H0[h.length + 1]? = some z0 := by rw [hH0]; exact b2_1 ..
  have hl0 : H0.length = h.length + 2 := by rw [hH0]; simp
  obtain ⟨H, hH⟩ : ∃ H, H = H0 ++ [Blk.cells [Zc n, .slice p m c] 86 false] := ⟨_, rfl⟩
  have hE1 : Ext (fun _ => False) H0 H := by rw [hH]; exact Ext.app _ _ _
  have hE := hE0.trans hE1
  have b9 : H[H0.length]? = some (.cells [Zc n, .slice p m c] 86 false) := by rw [hH]; exact Zy _ _
  have b6 : H[h.length]? = some z0 := (hE1.2 _ (Yc a6) id).trans a6
  have b7 : H[h.length + 1]? = some z0 := (hE1.2 _ (Yc a7) id).trans a7
  have hvH := hv.ext hE
  refine s17_callW (by simp) ?_
  simp only [s17]
  refine Ze fun N1 hN1 => ?_
  simp (maxSteps := 2000000) only [↓Za, ↓Zb, ↓Zd, vup, cond_false, aop, Zg, Zr, ev, sput, Zf, Nat.reduceBEq, Nat.reduceAdd, tyf, Xg, Yp, List.length_append, List.length_singleton]
  rw [← hH0]
  refine hN1 [(0, Zc n), (1, .slice p m c), (2, Zc e), (6, .pointer (some ⟨h.length, 0, none⟩)), (7, .pointer (some ⟨h.length + 1, 0, none⟩)), (8, .int .i64 0)] _ _ ?_ (by simp (maxSteps := 2000000) only [vup, cond_true, cond_false, Nat.reduceBEq])
  clear hN1
  try clear N1
  refine Ze fun N2 hN2 => ?_
  simp (maxSteps := 2000000) only [↓Za, ↓Zb, ↓Zd, vup, List.map_cons, List.map_nil, cond_true, cond_false, aop, Zg, ev, sput, Zf, Nat.reduceBEq, tyf, bldT, Xg, Yp, storeT (Zy H0 (.cells [.int .i64 0, .slice none 0 0] 86 false)) rfl, Xm]
  rw [← hH]
  refine hN2 [(2, Zc e), (6, .pointer (some ⟨h.length, 0, none⟩)), (7, .pointer (some ⟨h.length + 1, 0, none⟩)), (8, .int .i64 0), (9, .pointer (some ⟨H0.length, 0, none⟩))] _ _ ?_ (by simp (maxSteps := 2000000) only [vup, cond_true, cond_false, Nat.reduceBEq])
  clear hN2
  try clear N2
  -- a refusal
  have refuse : ∀ (G : Zh) (k : Int), Ext (fun _ => False) H G → G[h.length]? = some z0 → G[h.length + 1]? = some z0 → ∀ K : Zh → Prop, (∀ G', Ext (fun _ => False) h G' → G'[h.length]? = some (fC 0 0) → G'[h.length + 1]? = some (fC 0 0) → K G') → Xf prog G 26 (.pointer (some ⟨h.length, 0, none⟩)) (.agg #[Zc 0, Zc 0]) fun G1 => Xf prog G1 26 (.pointer (some ⟨h.length + 1, 0, none⟩)) (.agg #[Zc 0, Zc 0]) K := by
    intro G k hG g6 g7 K hK
    rw [Xk g6 rfl]
    have g7' : (G.set h.length (fC 0 0))[h.length + 1]? = some z0 := by rw [List.getElem?_set_ne (by omega)]; exact g7
    rw [Xk g7' rfl]
    refine hK _ (((hE.trans hG).set_ge (Nat.le_refl _) _).set_ge (by omega) _) ?_ (Xt (Yc g7') _)
    rw [List.getElem?_set_ne (by omega)]; exact Xt (Yc g6) _
  refine Zk fun M hM => ?_
  refine Ze fun N3 hN3 => ?_
  have bad : ¬ (Xb n l = true ∧ evB n e = true) → ∀ e', ELe e' [(2, Zc e), (6, .pointer (some ⟨h.length, 0, none⟩)), (7, .pointer (some ⟨h.length + 1, 0, none⟩)), (8, .int .i64 0), (9, .pointer (some ⟨H0.length, 0, none⟩)), (25, .bool true)] → N3 e' H := by
    intro hb e' he
    refine hN3 _ _ _ ?_ he
    refine Yx rfl ?_
    refine Zi ?_
    simp (maxSteps := 2000000) only [↓Za, ↓Zu, ↓Zz, ↓Zb, ↓Zd, vup, List.map_nil, cond_true, cond_false, aop, Zg, ev, sput, Zf, Nat.reduceBEq, Zs, Wd, tup, bldF0]
    refine refuse H 2 (Ext.refl _ _) b6 b7 _ fun G' g1 g2 g3 => ?_
    simp (maxSteps := 2000000) only [Xe g2, Xe g3]
    rw [← hR, bndV, if_neg hb]
    exact ⟨g1, rfl⟩
  simp (maxSteps := 2000000) only [↓Za, ↓Zd, vup, List.map_cons, List.map_nil, cond_true, cond_false, aop, ev, sput, Zf, unK, Nat.reduceBEq, Yn, List.nil_append, List.append_nil, loadT b9]
  refine (valid_call hvH hl).mono ?_
  rintro _ H ⟨rfl, rfl⟩
  cases hval : Xb n l with
  | false =>
    simp (maxSteps := 2000000) only [↓Zb, ↓vdn, vup, cond_true, cond_false, Zg, ev, sput, Zf, Nat.reduceBEq]
    exact bad (by rw [hval]; simp) _ (by simp (maxSteps := 2000000) only [vup, cond_true, cond_false, Nat.reduceBEq])
  | true =>
    obtain ⟨k, hk⟩ : ∃ k : Nat, n = k := ⟨n.toNat, by simp only [Xb, Bool.and_eq_true, decide_eq_true_eq] at hval; omega⟩
    subst hk
    obtain ⟨hn2, hn5, hl1, hl6, hok⟩ := Wf hval
    have ie := isEvent_call (h := H) (n := k) (e := e) (v := .slice p m c) (by omega)
    have hevB : evB k e = (decide (0 ≤ e) && decide (e < 2 ^ k)) := by rw [evB, Int.toNat_natCast]
    rw [← hevB] at ie
    simp (maxSteps := 2000000) only [↓Zb, ↓Zd, ↓vdn, vup, List.map_cons, List.map_nil, cond_true, cond_false, aop, Zg, ev, sput, Zf, unK, Nat.reduceBEq, loadT b9, Yn, List.nil_append, List.append_nil]
    refine ie.mono ?_
    rintro _ H ⟨rfl, rfl⟩
    cases hev : evB k e with
    | false =>
      simp (maxSteps := 2000000) only [vup]
      exact bad (by rw [hev]; simp) _ (by simp (maxSteps := 2000000) only [vup, cond_true, cond_false, Nat.reduceBEq])
    | true =>
      clear bad
      simp (maxSteps := 2000000) only [vup]
      refine hN3 [(2, Zc e), (6, .pointer (some ⟨h.length, 0, none⟩)), (7, .pointer (some ⟨h.length + 1, 0, none⟩)), (8, .int .i64 0), (9, .pointer (some ⟨H0.length, 0, none⟩)), (25, .bool false)] _ _ ?_ (by simp (maxSteps := 2000000) only [vup, cond_true, cond_false, Nat.reduceBEq])
      clear hN3
      try clear N3
      refine Yi rfl ?_
      refine Zi ?_
      simp (maxSteps := 2000000) only [↓Zo, Zg]
      refine hM [(2, Zc e), (6, .pointer (some ⟨h.length, 0, none⟩)), (7, .pointer (some ⟨h.length + 1, 0, none⟩)), (8, .int .i64 0), (9, .pointer (some ⟨H0.length, 0, none⟩))] _ _ ?_ (by simp (maxSteps := 2000000) only [vup, cond_true, cond_false, Nat.reduceBEq])
      clear hM
      try clear M
      have hev' := hev
      rw [hevB, Bool.and_eq_true, decide_eq_true_eq, decide_eq_true_eq] at hev'
      obtain ⟨ee, hee⟩ : ∃ ee : Nat, e = ee := ⟨e.toNat, by omega⟩
      subst hee
      have hee2 : ee < 2 ^ k := by
        have := hev'.2
        exact_mod_cast this
      have hpk := pow_le (show k ≤ 62 by omega)
      have hbnd : bndV k ee l = if Yd k l = [] then .tuple #[frV 0 0, frV 0 0, .int .i64 5] else .tuple #[qV (loQ k ee l), qV (hiQ k ee l), .int .i64 0] := by
        rw [bndV, if_pos ⟨hval, hev⟩, Int.toNat_natCast, Int.toNat_natCast]
      have hcor := corners_call (n := k) hvH hval (tame_all hn5 (cts_of hval))
      refine Ze fun N4 hN4 => ?_
      simp (maxSteps := 2000000) only [↓Za, ↓Zb, ↓Zd, vup, List.map_cons, List.map_nil, cond_true, cond_false, aop, Zg, ev, sput, Zf, Nat.reduceBEq, Yn, List.nil_append, List.append_nil, loadT b9]
      refine (hcor).mono ?_
      rintro r H1 ⟨hEc, ⟨ws, hor, heach⟩, hb⟩
      refine hN4 [(2, Zc (ee : Nat)), (6, .pointer (some ⟨h.length, 0, none⟩)), (7, .pointer (some ⟨h.length + 1, 0, none⟩)), (8, .int .i64 0), (9, .pointer (some ⟨H0.length, 0, none⟩)), (10, r)] _ _ ?_ (by simp (maxSteps := 2000000) only [vup, cond_true, cond_false, Nat.reduceBEq])
      clear hN4
      try clear N4
      have c6 : H1[h.length]? = some z0 := (hEc.2 _ (Yc b6) id).trans b6
      have c7 : H1[h.length + 1]? = some z0 := (hEc.2 _ (Yc b7) id).trans b7
      have hlen := heach.len
      have hclen := Vf k l (2 ^ k - 1)
      have hp32 : (2 : Nat) ^ k ≤ 2 ^ 5 := Nat.pow_le_pow_right (by decide) hn5
      obtain ⟨cs, hcs⟩ : ∃ cs, Yd k l = cs := ⟨_, rfl⟩
      have hcm : ∀ b ∈ cs, b ∈ Yd k l := fun b hb => by rw [hcs]; exact hb
      have hcl : cs.length ≤ 32 := by
        rw [← hcs]
        have : (Yd k l).length ≤ 2 ^ k - 1 := hclen
        omega
      rw [hcs] at hlen heach hbnd
      refine Zk fun M hM => ?_
      by_cases hnil : cs = []
      · subst hnil
        have h0 : (((ws.length : Nat) : Int) == 0) = true := by simp [hlen]
        refine Ze fun N5 hN5 => ?_
        simp (maxSteps := 2000000) only [↓Za, ↓Zb, ↓Zd, vup, List.map_cons, List.map_nil, cond_true, cond_false, aop, Zg, ev, sput, Zf, Yb, Ye, Zj, Nat.reduceBEq, tyf, hor.val.len, h0]
        refine hN5 [(2, Zc (ee : Nat)), (6, .pointer (some ⟨h.length, 0, none⟩)), (7, .pointer (some ⟨h.length + 1, 0, none⟩)), (8, .int .i64 0), (9, .pointer (some ⟨H0.length, 0, none⟩)), (10, r), (32, .bool true)] _ _ ?_ (by simp (maxSteps := 2000000) only [vup, cond_true, cond_false, Nat.reduceBEq])
        clear hN5
        try clear N5
        refine Yx rfl ?_
        refine Zi ?_
        simp (maxSteps := 2000000) only [↓Za, ↓Zu, ↓Zz, ↓Zb, ↓Zd, vup, List.map_nil, cond_true, cond_false, aop, Zg, ev, sput, Zf, Nat.reduceBEq, Zs, Wd, tup, bldF0]
        refine refuse H1 5 hEc c6 c7 _ fun G' g1 g2 g3 => ?_
        simp (maxSteps := 2000000) only [Xe g2, Xe g3]
        rw [← hR, hbnd, if_pos rfl]
        exact ⟨g1, rfl⟩
      have hpos : 0 < ws.length := by
        rw [hlen]; exact List.length_pos_iff.2 hnil
      have h0 : (((ws.length : Nat) : Int) == 0) = false := beq_eq_false_iff_ne.2 (by omega)
      refine Ze fun N6 hN6 => ?_
      simp (maxSteps := 2000000) only [↓Za, ↓Zb, ↓Zd, vup, List.map_cons, List.map_nil, cond_true, cond_false, aop, Zg, ev, sput, Zf, Yb, Ye, Zj, Nat.reduceBEq, tyf, hor.val.len, h0]
      refine hN6 [(2, Zc (ee : Nat)), (6, .pointer (some ⟨h.length, 0, none⟩)), (7, .pointer (some ⟨h.length + 1, 0, none⟩)), (8, .int .i64 0), (9, .pointer (some ⟨H0.length, 0, none⟩)), (10, r), (32, .bool false)] _ _ ?_ (by simp (maxSteps := 2000000) only [vup, cond_true, cond_false, Nat.reduceBEq])
      clear hN6
      try clear N6
      refine Yi rfl ?_
      refine Zi ?_
      simp (maxSteps := 2000000) only [↓Zo, Zg]
      refine hM [(2, Zc (ee : Nat)), (6, .pointer (some ⟨h.length, 0, none⟩)), (7, .pointer (some ⟨h.length + 1, 0, none⟩)), (8, .int .i64 0), (9, .pointer (some ⟨H0.length, 0, none⟩)), (10, r)] _ _ ?_ (by simp (maxSteps := 2000000) only [vup, cond_true, cond_false, Nat.reduceBEq])
      clear hM
      try clear M
      clear refuse
      -- the first one
      obtain ⟨v0, hv0⟩ : ∃ v0, cvq k ee (cs.headD []) = v0 := ⟨_, rfl⟩
      have hhead : ∀ i, i < ws.length → BelAt H1 (ws.getD i undef) (cs.getD i []) := fun i hi => heach.get undef [] (by omega)
      have hmemi : ∀ i, i < ws.length → cs.getD i [] ∈ cs := fun i hi => by
        rw [List.getD, List.getElem?_eq_getElem (show i < cs.length by omega)]; exact List.getElem_mem _
      have hcs0 : cs.headD [] = cs.getD 0 [] := by cases cs <;> rfl
      have of0 : Xi prog 61 [ws.getD 0 undef, Zc (ee : Nat)] H1 (qV v0) := by
        rw [← hv0, hcs0]
        exact corner_of hval (hcm _ (hmemi 0 hpos)) (hhead 0 hpos) (by omega)
      have hi0 : ∀ K : Value → Prop, Xa prog 88 r (.int .i64 0) K = K (Vi r 1 0) := fun K => by
        have := hor.val.idx el_88 esz_90 (k := .i64) hpos K
        simpa using this
      obtain ⟨F, hF⟩ : ∃ F : Rat → Rat → Zh, F = fun a b => (H1.set h.length (fC a.num a.den)).set (h.length + 1) (fC b.num b.den) := ⟨_, rfl⟩
      have l1 : h.length + 1 < H1.length := Yc c7
      have F6 : ∀ a b, (F a b)[h.length]? = some (fC a.num a.den) := fun a b => by
        simp only [hF]; rw [List.getElem?_set_ne (by omega)]; exact Xt (Yc c6) _
      have F7 : ∀ a b, (F a b)[h.length + 1]? = some (fC b.num b.den) := fun a b => by
        simp only [hF]; exact Xt (by rw [List.length_set]; exact l1) _
      have FE : ∀ a b, Ext (fun _ => False) h (F a b) := fun a b => by
        simp only [hF]; exact (((hE.trans hEc).set_ge (Nat.le_refl _) _).set_ge (by omega) _)
      have FS : ∀ a b, Ext (fun i => i = h.length ∨ i = h.length + 1) H1 (F a b) := fun a b => by
        simp only [hF]; exact (Ext.set _ (.inl rfl)).trans (Ext.set _ (.inr rfl))
      have st6 : ∀ {K : Zh → Prop}, Xf prog H1 26 (.pointer (some ⟨h.length, 0, none⟩)) (.agg #[Zc v0.num, Zc v0.den]) K = K (H1.set h.length (fC v0.num v0.den)) := fun {K} => Xk c6 rfl
      have st7 : ∀ {K : Zh → Prop}, Xf prog (H1.set h.length (fC v0.num v0.den)) 26 (.pointer (some ⟨h.length + 1, 0, none⟩)) (.agg #[Zc v0.num, Zc v0.den]) K = K (F v0 v0) := fun {K} => by
        rw [Xk (show (H1.set h.length (fC v0.num v0.den))[h.length + 1]? = some z0 by rw [List.getElem?_set_ne (by omega)]; exact c7) rfl, hF]
      refine Ze fun N7 hN7 => ?_
      simp only [q17_7]
      refine Wc [(4, 1), (9, 1)] (by kernel_rfl) (by kernel_rfl) (by kernel_rfl) (by kernel_rfl) ?_
      refine dops_cut 5 rfl fun N1 hN1 => ?_
      simp (maxSteps := 2000000) only [↓Yz, ↓vdn, vup, List.map_cons, List.map_nil, cond_true, cond_false, aop, ev, sput, Zf, Nat.reduceBEq, Nat.reduceAdd, List.take_succ_cons, List.take_zero, hi0, hor.val.load shp_90 hpos, Yn, List.nil_append, List.append_nil]
      refine ⟨_, _, of0, rfl, ?_⟩
      refine hN1 _ _ ?_
      clear hN1 N1
      refine dops_cut 5 rfl fun N1 hN1 => ?_
      simp (maxSteps := 2000000) only [↓Yz, ↓vdn, vup, List.map_cons, List.map_nil, cond_true, cond_false, aop, ev, sput, Zf, Nat.reduceBEq, Nat.reduceAdd, List.drop_succ_cons, List.drop_zero, List.take_succ_cons, List.take_zero, hi0, hor.val.load shp_90 hpos, Yn, List.nil_append, List.append_nil]
      refine ⟨_, _, of0, rfl, ?_⟩
      refine hN1 _ _ ?_
      clear hN1 N1
      simp (maxSteps := 2000000) only [↓Yz, ↓vdn, vup, cond_true, cond_false, aop, Zg, ev, Zf, Nat.reduceBEq, Nat.reduceAdd, List.drop_succ_cons, List.drop_zero, qV, frV, st6, st7]
      refine hN7 [(2, Zc (ee : Nat)), (6, .pointer (some ⟨h.length, 0, none⟩)), (7, .pointer (some ⟨h.length + 1, 0, none⟩)), (8, .int .i64 0), (9, .pointer (some ⟨H0.length, 0, none⟩)), (10, r)] _ _ ?_ (by simp (maxSteps := 2000000) only [vup, cond_true, cond_false, Nat.reduceBEq])
      clear hN7
      try clear N7
      -- all of them
      have hsm : ∀ i, i < ws.length → SmQ (cvq k ee (cs.getD i [])) := fun i hi => corner_sm hval (hcm _ (hmemi i hi)) ee
      have hsv0 : SmQ v0 := by rw [← hv0, hcs0]; exact hsm 0 hpos
      obtain ⟨vs, hvs⟩ : ∃ vs, cs.map (cvq k ee) = vs := ⟨_, rfl⟩
      have hvl : vs.length = ws.length := by rw [← hvs, List.length_map, hlen]
      have hvg : ∀ i, i < ws.length → vs.take i ++ [cvq k ee (cs.getD i [])] = vs.take (i + 1) := fun i hi => by
        have e : vs.getD i 0 = cvq k ee (cs.getD i []) := by
          rw [← hvs, List.getD, List.getElem?_map, List.getElem?_eq_getElem (show i < cs.length by omega), List.getD, List.getElem?_eq_getElem (show i < cs.length by omega)]; rfl
        rw [← e]; exact (Vw (by omega)).symm
      have hmm : ∀ i, i ≤ ws.length → SmQ (minL v0 (vs.take i)) ∧ SmQ (maxL v0 (vs.take i)) ∧ minL v0 (vs.take i) ≤ maxL v0 (vs.take i) := fun i hi => by
        have hall : ∀ v ∈ vs.take i, SmQ v := fun v hv => by
          have := List.mem_of_mem_take hv
          rw [← hvs] at this
          obtain ⟨b, hb, rfl⟩ := List.mem_map.1 this
          exact corner_sm hval (hcm b hb) ee
        obtain ⟨g1, g2, g3⟩ := minL_spec (vs.take i) v0
        obtain ⟨f1, f2, f3⟩ := maxL_spec (vs.take i) v0
        refine ⟨?_, ?_, Rat.le_trans g2 f2⟩
        · rcases g1 with g | g
          · rw [g]; exact hsv0
          · exact hall _ g
        · rcases f1 with g | g
          · rw [g]; exact hsv0
          · exact hall _ g
      refine Zk fun Z hZ => ?_
      refine Ze fun N8 hN8 => ?_
      simp (maxSteps := 2000000) only [↓Za, ↓Zb, ↓Zd, vup, List.map_cons, List.map_nil, cond_true, cond_false, aop, Zg, ev, sput, Zf, Zj, Nat.reduceBEq, tyf, hor.val.len]
      refine hN8 [(2, Zc (ee : Nat)), (6, .pointer (some ⟨h.length, 0, none⟩)), (7, .pointer (some ⟨h.length + 1, 0, none⟩)), (8, .int .i64 0), (9, .pointer (some ⟨H0.length, 0, none⟩)), (10, r), (45, r), (46, Zc (ws.length : Nat)), (47, .int .i64 0)] _ _ ?_ (by simp (maxSteps := 2000000) only [vup, cond_true, cond_false, Nat.reduceBEq])
      clear hN8
      try clear N8
      refine Zl ?_
      refine Zn fun Q hQ => ?_
      refine Yk (γ := Nat × Zh) (fun s => s.1 ≤ ws.length ∧ Ext (fun i => i = h.length ∨ i = h.length + 1) H1 s.2 ∧ Ext (fun _ => False) h s.2 ∧ s.2[h.length]? = some (fC (minL v0 (vs.take s.1)).num (minL v0 (vs.take s.1)).den) ∧ s.2[h.length + 1]? = some (fC (maxL v0 (vs.take s.1)).num (maxL v0 (vs.take s.1)).den))
        (fun s => ([(2, Zc (ee : Nat)), (6, .pointer (some ⟨h.length, 0, none⟩)), (7, .pointer (some ⟨h.length + 1, 0, none⟩)), (8, .int .i64 0), (9, .pointer (some ⟨H0.length, 0, none⟩)), (10, r), (45, r), (46, Zc (ws.length : Nat)), (47, Zc (s.1 : Nat))], s.2)) (fun s => ws.length - s.1) (0, F v0 v0) ⟨Nat.zero_le _, FS _ _, FE _ _, F6 _ _, F7 _ _⟩ (by simp (maxSteps := 2000000) only [vup, cond_true, cond_false, Nat.reduceBEq, Int.natCast_zero]) rfl ?_
      rintro ⟨i, G⟩ ⟨hi, hGS, hGE, g6, g7⟩
      simp only at hi hGS hGE g6 g7
      refine Zn fun Q2 hQ2 => ?_
      simp only [l17_0]
      have horG : OwnV 88 G r ws ∨ True := .inr trivial
      by_cases hin : (i : Int) < ws.length
      · have hi' : i < ws.length := by omega
        obtain ⟨sm1, sm2, smle⟩ := hmm i hi
        have smf := hsm i hi'
        have hsn := hvg i hi'
        have hBel := hhead i hi'
        obtain ⟨f, hf⟩ : ∃ f, cvq k ee (cs.getD i []) = f := ⟨_, rfl⟩
        rw [hf] at smf hsn
        have hmin := minL_snoc (vs.take i) f v0
        have hmax := maxL_snoc (vs.take i) f v0
        rw [hsn] at hmin hmax
        obtain ⟨A, hA⟩ : ∃ A, minL v0 (vs.take i) = A := ⟨_, rfl⟩
        obtain ⟨B, hB⟩ : ∃ A, maxL v0 (vs.take i) = A := ⟨_, rfl⟩
        rw [hA] at sm1 smle hmin g6
        rw [hB] at sm2 smle hmax g7
        have hkeepB : ∀ b x, H1[b]? = some x → b ≠ h.length → b ≠ h.length + 1 → G[b]? = some x := fun b x hb n1 n2 => (hGS.2 b (Yc hb) (by omega)).trans hb
        have hws : ValSl G r ws := hor.val.same fun b hb => hGS.2 b (hor.lt hb) (by
          rintro (h1 | h1)
          · obtain ⟨c', hc'⟩ := hor.blk hb; rw [h1, c6] at hc'; exact absurd (Blk.cells.inj (Option.some.inj hc')).2.1 (by decide)
          · obtain ⟨c', hc'⟩ := hor.blk hb; rw [h1, c7] at hc'; exact absurd (Blk.cells.inj (Option.some.inj hc')).2.1 (by decide))
        have hBelG : BelAt G (ws.getD i undef) (cs.getD i []) := by
          obtain ⟨bl, e1, e2⟩ := hBel
          have hlc := (Vt hval (hcm _ (hmemi i hi'))).1
          refine ⟨bl, e1, hkeepB bl _ e2 (fun hc => ?_) (fun hc => ?_)⟩
          · rw [hc, c6] at e2
            have := congrArg List.length (Blk.cells.inj (Option.some.inj e2)).1
            simp only [List.length_map, Wb, hlc, List.length_cons, List.length_nil] at this
            omega
          · rw [hc, c7] at e2
            have := congrArg List.length (Blk.cells.inj (Option.some.inj e2)).1
            simp only [List.length_map, Wb, hlc, List.length_cons, List.length_nil] at this
            omega
        have ofi : Xi prog 61 [ws.getD i undef, Zc (ee : Nat)] G (qV f) := by
          rw [← hf]
          exact corner_of hval (hcm _ (hmemi i hi')) hBelG (by omega)
        obtain ⟨hh, hhe⟩ : ∃ hh, hh = G ++ [fC f.num f.den] := ⟨_, rfl⟩
        have g13 : hh[G.length]? = some (fC f.num f.den) := by rw [hhe]; exact Zy _ _
        have g6' : hh[h.length]? = some (fC A.num A.den) := by rw [hhe]; exact Xr g6 _
        have g7' : hh[h.length + 1]? = some (fC B.num B.den) := by rw [hhe]; exact Xr g7 _
        have hES : Ext (fun i => i = h.length ∨ i = h.length + 1) H1 hh := by rw [hhe]; exact hGS.trans (Ext.app _ _ _)
        have hEE : Ext (fun _ => False) h hh := by rw [hhe]; exact hGE.trans (Ext.app _ _ _)
        refine Ze fun N9 hN9 => ?_
        simp (maxSteps := 2000000) only [↓Za, ↓Zb, ↓Zd, vup, cond_true, cond_false, aop, Zg, ev, sput, Zf, Yb, Ye, Nat.reduceBEq, hin]
        refine hN9 [(2, Zc (ee : Nat)), (6, .pointer (some ⟨h.length, 0, none⟩)), (7, .pointer (some ⟨h.length + 1, 0, none⟩)), (8, .int .i64 0), (9, .pointer (some ⟨H0.length, 0, none⟩)), (10, r), (45, r), (46, Zc (ws.length : Nat)), (47, Zc (i : Nat)), (48, .bool true)] _ _ ?_ (by simp (maxSteps := 2000000) only [vup, cond_true, cond_false, Nat.reduceBEq])
        clear hN9
        try clear N9
        refine Ze fun N10 hN10 => ?_
        simp (maxSteps := 2000000) only [↓Zo, ↓vdn, vup, cond_true, cond_false, Zg, ev, Nat.reduceBEq]
        refine hN10 [(2, Zc (ee : Nat)), (6, .pointer (some ⟨h.length, 0, none⟩)), (7, .pointer (some ⟨h.length + 1, 0, none⟩)), (8, .int .i64 0), (9, .pointer (some ⟨H0.length, 0, none⟩)), (10, r), (45, r), (46, Zc (ws.length : Nat)), (47, Zc (i : Nat))] _ _ ?_ (by simp (maxSteps := 2000000) only [vup, cond_true, cond_false, Nat.reduceBEq])
        clear hN10
        try clear N10
        refine Zk fun D hD => ?_
        refine Zl ?_
        have fin : ∀ e' G' (a b : Rat), minL v0 (vs.take (i + 1)) = a → maxL v0 (vs.take (i + 1)) = b → Ext (fun i => i = h.length ∨ i = h.length + 1) H1 G' → Ext (fun _ => False) h G' → G'[h.length]? = some (fC a.num a.den) → G'[h.length + 1]? = some (fC b.num b.den) → ELe e' [(2, Zc (ee : Nat)), (6, .pointer (some ⟨h.length, 0, none⟩)), (7, .pointer (some ⟨h.length + 1, 0, none⟩)), (8, .int .i64 0), (9, .pointer (some ⟨H0.length, 0, none⟩)), (10, r), (45, r), (46, Zc (ws.length : Nat)), (47, Zc (i : Nat))] → D e' G' := by
          intro e' G' a b e1 e2 e3 e4 e5 e6 he
          subst e1
          subst e2
          refine hD _ _ _ ?_ he
          refine Zi ?_
          simp (maxSteps := 2000000) only [↓Za, ↓Zb, ↓Zd, vup, cond_true, cond_false, aop, ev, sput, Zf, Yb, Ye, Nat.reduceBEq, Vx (show i < 9223372036854775807 by omega)]
          exact hQ2 _ _ _ ⟨(i + 1, G'), ⟨hi', e3, e4, e5, e6⟩, by simp only; omega, by simp (maxSteps := 2000000) only [vup, cond_true, cond_false, Nat.reduceBEq], rfl⟩
        refine Ze fun N11 hN11 => ?_
        simp (maxSteps := 2000000) only [↓Za, ↓Zb, ↓Zd, vup, cond_true, cond_false, aop, Zg, ev, sput, Zf, Nat.reduceBEq, hws.idx el_88 esz_90 hi', hws.load shp_90 hi']
        refine hN11 [(2, Zc (ee : Nat)), (6, .pointer (some ⟨h.length, 0, none⟩)), (7, .pointer (some ⟨h.length + 1, 0, none⟩)), (8, .int .i64 0), (9, .pointer (some ⟨H0.length, 0, none⟩)), (10, r), (12, ws.getD i undef), (45, r), (46, Zc (ws.length : Nat)), (47, Zc (i : Nat))] _ _ ?_ (by simp (maxSteps := 2000000) only [vup, cond_true, cond_false, Nat.reduceBEq])
        clear hN11
        try clear N11
        refine Ze fun N12 hN12 => ?_
        simp (maxSteps := 2000000) only [↓Za, ↓Zb, ↓Zd, vup, List.map_cons, List.map_nil, cond_true, cond_false, aop, Zg, ev, sput, Zf, Nat.reduceBEq, Yn, List.nil_append, List.append_nil]
        refine (ofi).mono ?_
        rintro _ G ⟨rfl, rfl⟩
        simp (maxSteps := 2000000) only [tyf, qV, frV, Xg, Yp, Xk (Zy G z0) rfl, Xm]
        rw [← hhe]
        refine hN12 [(2, Zc (ee : Nat)), (6, .pointer (some ⟨h.length, 0, none⟩)), (7, .pointer (some ⟨h.length + 1, 0, none⟩)), (8, .int .i64 0), (9, .pointer (some ⟨H0.length, 0, none⟩)), (10, r), (12, ws.getD i undef), (13, .pointer (some ⟨G.length, 0, none⟩)), (45, r), (46, Zc (ws.length : Nat)), (47, Zc (i : Nat))] _ _ ?_ (by simp (maxSteps := 2000000) only [vup, cond_true, cond_false, Nat.reduceBEq])
        clear hN12
        try clear N12
        refine Ze fun N13 hN13 => ?_
        simp (maxSteps := 2000000) only [↓Za, ↓Zb, ↓Zd, vup, List.map_cons, List.map_nil, cond_true, cond_false, aop, Zg, ev, sput, Zf, Nat.reduceBEq, Yn, List.nil_append, List.append_nil, Xe g13, Xe g6']
        refine ((smf.less sm1 hh)).mono ?_
        rintro _ hh ⟨rfl, rfl⟩
        refine hN13 [(2, Zc (ee : Nat)), (6, .pointer (some ⟨h.length, 0, none⟩)), (7, .pointer (some ⟨h.length + 1, 0, none⟩)), (8, .int .i64 0), (9, .pointer (some ⟨H0.length, 0, none⟩)), (10, r), (12, ws.getD i undef), (13, .pointer (some ⟨G.length, 0, none⟩)), (45, r), (46, Zc (ws.length : Nat)), (47, Zc (i : Nat)), (56, .bool (decide (f < A)))] _ _ ?_ (by simp (maxSteps := 2000000) only [vup, cond_true, cond_false, Nat.reduceBEq])
        clear hN13
        try clear N13
        by_cases h1 : f < A
        · have nb : ¬ B < f := Rat.not_lt.2 (Rat.le_trans (Rat.le_of_lt h1) smle)
          rw [if_pos h1] at hmin
          rw [if_neg nb] at hmax
          rw [decide_eq_true h1]
          refine Yx rfl ?_
          refine Zi ?_
          simp (maxSteps := 2000000) only [↓Za, ↓Zb, ↓Zd, vup, cond_true, cond_false, aop, Zg, Zm, ev, sput, Zf, Nat.reduceBEq, Xe g13, Xk g6' rfl]
          refine fin _ _ f B hmin hmax (hES.trans (Ext.set _ (.inl rfl))) (hEE.set_ge (Nat.le_refl _) _) (Xt (Yc g6') _) ?_ (by simp (maxSteps := 2000000) only [vup, cond_true, cond_false, Nat.reduceBEq])
          rw [List.getElem?_set_ne (by omega)]; exact g7'
        · rw [if_neg h1] at hmin
          rw [decide_eq_false h1]
          refine Yi rfl ?_
          refine Ze fun N14 hN14 => ?_
          simp (maxSteps := 2000000) only [↓Za, ↓Zb, ↓Zd, vup, List.map_cons, List.map_nil, cond_true, cond_false, aop, Zg, ev, sput, Zf, Nat.reduceBEq, Yn, List.nil_append, List.append_nil, Xe g13, Xe g7']
          refine ((sm2.less smf hh)).mono ?_
          rintro _ hh ⟨rfl, rfl⟩
          refine hN14 [(2, Zc (ee : Nat)), (6, .pointer (some ⟨h.length, 0, none⟩)), (7, .pointer (some ⟨h.length + 1, 0, none⟩)), (8, .int .i64 0), (9, .pointer (some ⟨H0.length, 0, none⟩)), (10, r), (12, ws.getD i undef), (13, .pointer (some ⟨G.length, 0, none⟩)), (45, r), (46, Zc (ws.length : Nat)), (47, Zc (i : Nat)), (56, .bool false), (60, .bool (decide (B < f)))] _ _ ?_ (by simp (maxSteps := 2000000) only [vup, cond_true, cond_false, Nat.reduceBEq])
          clear hN14
          try clear N14
          by_cases h2 : B < f
          · rw [if_pos h2] at hmax
            rw [decide_eq_true h2]
            refine Yx rfl ?_
            refine Zi ?_
            simp (maxSteps := 2000000) only [↓Za, ↓Zb, ↓Zd, vup, cond_true, cond_false, aop, Zg, Zm, ev, sput, Zf, Nat.reduceBEq, Xe g13, Xk g7' rfl]
            refine fin _ _ A f hmin hmax (hES.trans (Ext.set _ (.inr rfl))) (hEE.set_ge (by omega) _) ?_ (Xt (Yc g7') _) (by simp (maxSteps := 2000000) only [vup, cond_true, cond_false, Nat.reduceBEq])
            rw [List.getElem?_set_ne (by omega)]; exact g6'
          · rw [if_neg h2] at hmax
            rw [decide_eq_false h2]
            refine Yi rfl ?_
            refine Zi ?_
            simp (maxSteps := 2000000) only [↓Zo, Zg, Zm]
            exact fin _ _ A B hmin hmax hES hEE g6' g7' (by simp (maxSteps := 2000000) only [vup, cond_true, cond_false, Nat.reduceBEq])
      · obtain rfl : i = ws.length := by omega
        refine Ze fun N15 hN15 => ?_
        simp (maxSteps := 2000000) only [↓Za, ↓Zb, ↓Zd, vup, cond_true, cond_false, aop, Zg, ev, sput, Zf, Yb, Ye, Nat.reduceBEq, hin]
        refine hN15 [(2, Zc (ee : Nat)), (6, .pointer (some ⟨h.length, 0, none⟩)), (7, .pointer (some ⟨h.length + 1, 0, none⟩)), (8, .int .i64 0), (9, .pointer (some ⟨H0.length, 0, none⟩)), (10, r), (45, r), (46, Zc (ws.length : Nat)), (47, Zc ws.length), (48, .bool false)] _ _ ?_ (by simp (maxSteps := 2000000) only [vup, cond_true, cond_false, Nat.reduceBEq])
        clear hN15
        try clear N15
        refine Ze fun N16 hN16 => ?_
        simp (maxSteps := 2000000) only [↓Yq, ↓vdn, vup, cond_true, cond_false, Zg, ev, Nat.reduceBEq]
        refine hQ2 _ _ _ (hQ _ _ _ ?_)
        simp (maxSteps := 2000000) only [Zg, Zm, Zs, if_true]
        refine hZ [(2, Zc (ee : Nat)), (6, .pointer (some ⟨h.length, 0, none⟩)), (7, .pointer (some ⟨h.length + 1, 0, none⟩)), (8, .int .i64 0), (9, .pointer (some ⟨H0.length, 0, none⟩)), (10, r), (48, .bool false)] _ _ ?_ (by simp (maxSteps := 2000000) only [vup, cond_true, cond_false, Nat.reduceBEq])
        clear hZ
        try clear Z
        have htk : vs.take ws.length = vs := List.take_of_length_le (by omega)
        rw [htk] at g6 g7
        obtain ⟨A, hA⟩ : ∃ A, minL v0 vs = A := ⟨_, rfl⟩
        obtain ⟨B, hB⟩ : ∃ A, maxL v0 vs = A := ⟨_, rfl⟩
        rw [hA] at g6
        rw [hB] at g7
        have s6 : ∀ {K : Zh → Prop}, Xf prog G 26 (.pointer (some ⟨h.length, 0, none⟩)) (.agg #[Zc A.num, Zc A.den]) K = K G := fun {K} => by
          rw [Xk g6 rfl]
          obtain ⟨x1, x2⟩ := List.getElem?_eq_some_iff.1 g6
          rw [show G.set h.length (fC A.num A.den) = G by rw [← x2]; exact List.set_getElem_self x1]
        have s7 : ∀ {K : Zh → Prop}, Xf prog G 26 (.pointer (some ⟨h.length + 1, 0, none⟩)) (.agg #[Zc B.num, Zc B.den]) K = K G := fun {K} => by
          rw [Xk g7 rfl]
          obtain ⟨x1, x2⟩ := List.getElem?_eq_some_iff.1 g7
          rw [show G.set (h.length + 1) (fC B.num B.den) = G by rw [← x2]; exact List.set_getElem_self x1]
        refine Ze fun N17 hN17 => ?_
        simp only [q17_17]
        refine aw_drawR (fun z => z[h.length + 1]? = some (fC B.num B.den)) [(1, 5)] (by kernel_rfl) (by kernel_rfl) (by kernel_rfl) (by kernel_rfl) g7 ?_
        simp (maxSteps := 2000000) only [↓dopsR_nil, ↓vdn, vup, cond_true, cond_false, aop, Zg, ev, sput, Zf, Nat.reduceBEq, Nat.reduceAdd, Xe g6, s6]
        refine ⟨.agg #[Zc B.num, Zc (B.den : Int)], fun z hz => by simp only [Xe hz], g7, ?_⟩
        rw [s7]
        refine ⟨g7, ?_⟩
        refine hN17 [(2, Zc (ee : Nat)), (6, .pointer (some ⟨h.length, 0, none⟩)), (7, .pointer (some ⟨h.length + 1, 0, none⟩)), (8, .int .i64 0), (9, .pointer (some ⟨H0.length, 0, none⟩)), (10, r), (48, .bool false)] _ _ ?_ (by simp (maxSteps := 2000000) only [vup, cond_true, cond_false, Nat.reduceBEq])
        clear hN17
        try clear N17
        refine Zi ?_
        simp (maxSteps := 2000000) only [↓Zz, vup, cond_true, cond_false, Nat.reduceBEq, Zs, Wd, tup, Xe g6, Xe g7]
        rw [← hR, hbnd, if_neg hnil, loQ, hiQ, hcs, hvs, hv0, hA, hB]
        exact ⟨hGE, rfl⟩
end Go.Proofs.Try.Am

namespace Go.Proofs.Try.Am
open Go.Am Bq
set_option maxRecDepth 100000
set_option maxHeartbeats 4000000

/-- The prices between bounds. -/
def prF (lo hi : Rat) (c : Nat) : Bool := !decide (Rat.divInt (c : Int) 12 < lo) && !decide (hi < Rat.divInt (c : Int) 12)
def prTo (lo hi : Rat) (k : Nat) : List Nat := (List.range k).filter (prF lo hi)
theorem prTo_succ (lo hi : Rat) (k : Nat) : prTo lo hi (k + 1) = prTo lo hi k ++ if prF lo hi k then [k] else [] := by
  rw [prTo, List.range_succ, List.filter_append]
  simp only [List.filter_cons, List.filter_nil, prTo]
theorem prTo_le (lo hi : Rat) (k : Nat) : (prTo lo hi k).length ≤ k := by
  have := List.length_filter_le (prF lo hi) (List.range k)
  rwa [List.length_range] at this
theorem cent_sm (c : Nat) (hc : c < 13) : SmQ (Rat.divInt (c : Int) 12) := by
  have r := Rp.of_frac (N := 12) (by decide) (c : Int)
  have z : Rp 12 0 (0 : Rat) := ⟨by decide, by simp⟩
  have o : Rp 12 12 (1 : Rat) := ⟨by decide, by decide +kernel⟩
  refine ⟨?_, ?_, Nat.le_trans r.den_le (by decide)⟩
  · rw [← Rat.not_lt]; intro h; have := (r.lt z).1 h; omega
  · rw [← Rat.not_lt]; intro h; have := (o.lt r).1 h; omega
theorem bnd_sm {n e : Nat} {l : List (Int × Int)} (hval : Xb n l = true) (hne : Yd n l ≠ []) : SmQ (loQ n e l) ∧ SmQ (hiQ n e l) := by
  have hall : ∀ v ∈ (Yd n l).map (cvq n e), SmQ v := fun v hv => by
    obtain ⟨b, hb, rfl⟩ := List.mem_map.1 hv
    exact corner_sm hval hb e
  have h0 : SmQ (cvq n e ((Yd n l).headD [])) := by
    cases hc : Yd n l with
    | nil => exact absurd hc hne
    | cons c cs => exact corner_sm hval (by rw [hc]; simp) e
  constructor
  · rcases (minL_spec ((Yd n l).map (cvq n e)) (cvq n e ((Yd n l).headD []))).1 with g | g
    · rw [loQ, g]; exact h0
    · exact hall _ g
  · rcases (maxL_spec ((Yd n l).map (cvq n e)) (cvq n e ((Yd n l).headD []))).1 with g | g
    · rw [hiQ, g]; exact h0
    · exact hall _ g
/-- What Price hands back. -/
def PriceIs (n e : Int) (l : List (Int × Int)) (h' : Zh) (x : Value) (f : Int) : Prop :=
  if Xb n l = true ∧ evB n e = true then (if Yd n.toNat l = [] then x = .slice none 0 0 ∧ f = 5 else IntSl h' x (Wm (prTo (loQ n.toNat e.toNat l) (hiQ n.toNat e.toNat l) 13)) ∧ f = 0) else x = .slice none 0 0 ∧ f = 2

theorem s24_callW [Tabs Try.prog] {args : List Value} {h : Zh} {Q : Value → Zh → Prop} (hsz : args.length ≤ 46) (hk : AWS Try.prog 46 s24 (Zs Try.prog [.tmp 6, .tmp 7] Q) (Zr 0 args) h) : ACall Try.prog 24 args h Q :=
  Ys Try.func24 rfl (enters_of Try.func24 (by kernel_rfl) rfl) rfl rfl (by decide) s24_strip s24_ok hsz hk
theorem progPrice_call [Tabs prog] {h : Zh} {n e : Int} {v : Value} {l : List (Int × Int)} (hv : PairSl h v l) (hl : l.length < 9223372036854775808) :
    ACall prog 24 [Zc n, v, Zc e] h fun r h' => Ext (fun _ => False) h h' ∧ ∃ x f, r = .tuple #[x, .int .i64 f] ∧ PriceIs n e l h' x f := by
  refine s24_callW (by simp) ?_
  simp only [s24]
  refine Ze fun N1 hN1 => ?_
  simp (maxSteps := 2000000) only [↓Za, ↓Zb, ↓Zd, vup, cond_false, aop, Zg, Zr, ev, sput, Zf, Nat.reduceBEq, Nat.reduceAdd]
  refine hN1 [(0, Zc n), (1, v), (2, Zc e), (6, .slice none 0 0), (7, .int .i64 0)] _ _ ?_ (by simp (maxSteps := 2000000) only [vup, cond_true, cond_false, Nat.reduceBEq])
  clear hN1
  try clear N1
  refine Ze fun N2 hN2 => ?_
  simp (maxSteps := 2000000) only [↓Za, ↓Zb, ↓Zd, vup, List.map_cons, List.map_nil, cond_true, cond_false, aop, Zg, ev, sput, Zf, Nat.reduceBEq, Yn, List.nil_append, List.append_nil]
  refine (progBounds_call hv hl).mono ?_
  rintro _ H ⟨hE, hr⟩
  rw [hr]
  have st8 : ∀ {a b c d : Int} {K : Zh → Prop}, Xf prog (H ++ [z0] ++ [z0]) 26 (.pointer (some ⟨H.length, 0, none⟩)) (.agg #[Zc a, Zc b]) K = K (H ++ [fC a b] ++ [z0]) := fun {a b c d K} => by
    rw [Xk (b2_0 ..) rfl, List.set_append_left _ _ (by simp), Xm]
  have st9 : ∀ {a b c d : Int} {K : Zh → Prop}, Xf prog (H ++ [fC a b] ++ [z0]) 26 (.pointer (some ⟨H.length + 1, 0, none⟩)) (.agg #[Zc c, Zc d]) K = K (H ++ [fC a b] ++ [fC c d]) := fun {a b c d K} => by
    have := Xm (H ++ [fC a b]) z0 (fC c d)
    simp only [List.length_append, List.length_singleton] at this
    rw [Xk (b2_1 ..) rfl, this]
  by_cases hgood : Xb n l = true ∧ evB n e = true
  case neg =>
    have hb : bndV n e l = .tuple #[frV 0 0, frV 0 0, .int .i64 2] := by rw [bndV, if_neg hgood]
    have e20 : ((2 : Int) != 0) = true := rfl
    rw [hb]
    simp (maxSteps := 2000000) only [extr_30, extr_31, extr_32, tyf, frV, Xg, Yp, List.length_append, List.length_singleton]
    rw [st8 (c := 0) (d := 0)]
    rw [st9]
    refine hN2 [(0, Zc n), (1, v), (2, Zc e), (6, .slice none 0 0), (7, .int .i64 0), (8, .pointer (some ⟨H.length, 0, none⟩)), (9, .pointer (some ⟨H.length + 1, 0, none⟩)), (10, .int .i64 2)] _ _ ?_ (by simp (maxSteps := 2000000) only [vup, cond_true, cond_false, Nat.reduceBEq])
    clear hN2
    try clear N2
    refine Zk fun M hM => ?_
    refine Ze fun N3 hN3 => ?_
    simp (maxSteps := 2000000) only [↓Za, ↓Zb, ↓Zd, vup, cond_true, cond_false, aop, Zg, ev, sput, Zf, Yb, Ye, Nat.reduceBEq, e20]
    refine hN3 [(0, Zc n), (1, v), (2, Zc e), (6, .slice none 0 0), (7, .int .i64 0), (8, .pointer (some ⟨H.length, 0, none⟩)), (9, .pointer (some ⟨H.length + 1, 0, none⟩)), (10, .int .i64 2), (23, .bool true)] _ _ ?_ (by simp (maxSteps := 2000000) only [vup, cond_true, cond_false, Nat.reduceBEq])
    clear hN3
    try clear N3
    refine Yx rfl ?_
    refine Zi ?_
    simp (maxSteps := 2000000) only [↓Za, ↓Zu, ↓Zz, ↓Zb, ↓Zd, vup, cond_true, cond_false, aop, Zg, ev, sput, Zf, Nat.reduceBEq, Zs, Wd, tup]
    exact ⟨hE.trans (e2 ..), _, _, rfl, by rw [PriceIs, if_neg hgood]; exact ⟨rfl, rfl⟩⟩
  case pos =>
  obtain ⟨hval, hev⟩ := hgood
  obtain ⟨k, hk⟩ : ∃ k : Nat, n = k := ⟨n.toNat, by simp only [Xb, Bool.and_eq_true, decide_eq_true_eq] at hval; omega⟩
  obtain ⟨ee, hee⟩ : ∃ ee : Nat, e = ee := ⟨e.toNat, by simp only [evB, Bool.and_eq_true, decide_eq_true_eq] at hev; omega⟩
  subst hk
  subst hee
  by_cases hnil : Yd k l = []
  · have hb : bndV k ee l = .tuple #[frV 0 0, frV 0 0, .int .i64 5] := by rw [bndV, if_pos ⟨hval, hev⟩, Int.toNat_natCast, if_pos hnil]
    have e50 : ((5 : Int) != 0) = true := rfl
    rw [hb]
    simp (maxSteps := 2000000) only [extr_30, extr_31, extr_32, tyf, frV, Xg, Yp, List.length_append, List.length_singleton]
    rw [st8 (c := 0) (d := 0)]
    rw [st9]
    refine hN2 [(0, Zc (k : Nat)), (1, v), (2, Zc (ee : Nat)), (6, .slice none 0 0), (7, .int .i64 0), (8, .pointer (some ⟨H.length, 0, none⟩)), (9, .pointer (some ⟨H.length + 1, 0, none⟩)), (10, .int .i64 5)] _ _ ?_ (by simp (maxSteps := 2000000) only [vup, cond_true, cond_false, Nat.reduceBEq])
    clear hN2
    try clear N2
    refine Zk fun M hM => ?_
    refine Ze fun N4 hN4 => ?_
    simp (maxSteps := 2000000) only [↓Za, ↓Zb, ↓Zd, vup, cond_true, cond_false, aop, Zg, ev, sput, Zf, Yb, Ye, Nat.reduceBEq, e50]
    refine hN4 [(0, Zc (k : Nat)), (1, v), (2, Zc (ee : Nat)), (6, .slice none 0 0), (7, .int .i64 0), (8, .pointer (some ⟨H.length, 0, none⟩)), (9, .pointer (some ⟨H.length + 1, 0, none⟩)), (10, .int .i64 5), (23, .bool true)] _ _ ?_ (by simp (maxSteps := 2000000) only [vup, cond_true, cond_false, Nat.reduceBEq])
    clear hN4
    try clear N4
    refine Yx rfl ?_
    refine Zi ?_
    simp (maxSteps := 2000000) only [↓Za, ↓Zu, ↓Zz, ↓Zb, ↓Zd, vup, cond_true, cond_false, aop, Zg, ev, sput, Zf, Nat.reduceBEq, Zs, Wd, tup]
    exact ⟨hE.trans (e2 ..), _, _, rfl, by rw [PriceIs, if_pos ⟨hval, hev⟩, Int.toNat_natCast, if_pos hnil]; exact ⟨rfl, rfl⟩⟩
  have hb : bndV k ee l = .tuple #[qV (loQ k ee l), qV (hiQ k ee l), .int .i64 0] := by rw [bndV, if_pos ⟨hval, hev⟩, Int.toNat_natCast, Int.toNat_natCast, if_neg hnil]
  have hpis : ∀ h' x f, PriceIs k ee l h' x f ↔ IntSl h' x (Wm (prTo (loQ k ee l) (hiQ k ee l) 13)) ∧ f = 0 := fun h' x f => by
    rw [PriceIs, if_pos ⟨hval, hev⟩, Int.toNat_natCast, Int.toNat_natCast, if_neg hnil]
  obtain ⟨sl, sh⟩ := bnd_sm (e := ee) hval hnil
  obtain ⟨lo, hlo⟩ : ∃ x, loQ k ee l = x := ⟨_, rfl⟩
  obtain ⟨hi, hhi⟩ : ∃ x, hiQ k ee l = x := ⟨_, rfl⟩
  rw [hlo] at hb sl hpis
  rw [hhi] at hb sh hpis
  have e00 : ((0 : Int) != 0) = false := rfl
  rw [hb]
  simp (maxSteps := 2000000) only [extr_30, extr_31, extr_32, tyf, qV, frV, Xg, Yp, List.length_append, List.length_singleton]
  rw [st8 (c := 0) (d := 0)]
  rw [st9]
  obtain ⟨G, hG⟩ : ∃ G, G = H ++ [fC lo.num lo.den] ++ [fC hi.num hi.den] := ⟨_, rfl⟩
  have hEG : Ext (fun _ => False) H G := by rw [hG]; exact e2 ..
  have b8 : G[H.length]? = some (fC lo.num lo.den) := by rw [hG]; exact b2_0 ..
  have b9 : G[H.length + 1]? = some (fC hi.num hi.den) := by rw [hG]; exact b2_1 ..
  rw [← hG]
  refine hN2 [(0, Zc (k : Nat)), (1, v), (2, Zc (ee : Nat)), (6, .slice none 0 0), (7, .int .i64 0), (8, .pointer (some ⟨H.length, 0, none⟩)), (9, .pointer (some ⟨H.length + 1, 0, none⟩)), (10, .int .i64 0)] _ _ ?_ (by simp (maxSteps := 2000000) only [vup, cond_true, cond_false, Nat.reduceBEq])
  clear hN2
  try clear N2
  refine Zk fun M hM => ?_
  refine Ze fun N5 hN5 => ?_
  simp (maxSteps := 2000000) only [↓Za, ↓Zb, ↓Zd, vup, cond_true, cond_false, aop, Zg, ev, sput, Zf, Yb, Ye, Nat.reduceBEq, e00]
  refine hN5 [(0, Zc (k : Nat)), (1, v), (2, Zc (ee : Nat)), (6, .slice none 0 0), (7, .int .i64 0), (8, .pointer (some ⟨H.length, 0, none⟩)), (9, .pointer (some ⟨H.length + 1, 0, none⟩)), (10, .int .i64 0), (23, .bool false)] _ _ ?_ (by simp (maxSteps := 2000000) only [vup, cond_true, cond_false, Nat.reduceBEq])
  clear hN5
  try clear N5
  refine Yi rfl ?_
  refine Zi ?_
  simp (maxSteps := 2000000) only [↓Zo, Zg]
  refine hM [(0, Zc (k : Nat)), (1, v), (2, Zc (ee : Nat)), (6, .slice none 0 0), (7, .int .i64 0), (8, .pointer (some ⟨H.length, 0, none⟩)), (9, .pointer (some ⟨H.length + 1, 0, none⟩)), (10, .int .i64 0)] _ _ ?_ (by simp (maxSteps := 2000000) only [vup, cond_true, cond_false, Nat.reduceBEq])
  clear hM
  try clear M
  refine Ze fun N6 hN6 => ?_
  simp (maxSteps := 2000000) only [↓Za, ↓Zb, ↓Zd, vup, cond_false, aop, Zg, ev, sput, Zf, Nat.reduceBEq]
  refine hN6 [(0, Zc (k : Nat)), (1, v), (2, Zc (ee : Nat)), (6, .slice none 0 0), (7, .int .i64 0), (8, .pointer (some ⟨H.length, 0, none⟩)), (9, .pointer (some ⟨H.length + 1, 0, none⟩)), (10, .int .i64 0), (11, .slice none 0 0)] _ _ ?_ (by simp (maxSteps := 2000000) only [vup, cond_true, cond_false, Nat.reduceBEq])
  clear hN6
  try clear N6
  refine Zk fun Z hZ => ?_
  refine Ze fun N7 hN7 => ?_
  simp (maxSteps := 2000000) only [↓Za, ↓Zb, ↓Zd, vup, cond_false, aop, Zg, ev, sput, Zf, Nat.reduceBEq]
  refine hN7 [(0, Zc (k : Nat)), (1, v), (2, Zc (ee : Nat)), (6, .slice none 0 0), (7, .int .i64 0), (8, .pointer (some ⟨H.length, 0, none⟩)), (9, .pointer (some ⟨H.length + 1, 0, none⟩)), (10, .int .i64 0), (11, .slice none 0 0), (25, .int .i64 0)] _ _ ?_ (by simp (maxSteps := 2000000) only [vup, cond_true, cond_false, Nat.reduceBEq])
  clear hN7
  try clear N7
  refine Zl ?_
  refine Zn fun Q hQ => ?_
  refine Yk (γ := Nat × Value × Zh) (fun s => s.1 ≤ 13 ∧ OwnSl 3 s.2.2 s.2.1 (Wm (prTo lo hi s.1)) ∧ Ext (fun _ => False) G s.2.2 ∧ ∀ b, Yh s.2.1 = some b → G.length ≤ b)
    (fun s => ([(0, Zc (k : Nat)), (1, v), (2, Zc (ee : Nat)), (6, .slice none 0 0), (7, .int .i64 0), (8, .pointer (some ⟨H.length, 0, none⟩)), (9, .pointer (some ⟨H.length + 1, 0, none⟩)), (10, .int .i64 0), (11, s.2.1), (25, Zc (s.1 : Nat))], s.2.2)) (fun s => 13 - s.1) (0, .slice none 0 0, G) ⟨Nat.zero_le _, .inl ⟨rfl, rfl⟩, Ext.refl _ _, fun b hb => by cases hb⟩ (by simp (maxSteps := 2000000) only [vup, cond_true, cond_false, Nat.reduceBEq, Int.natCast_zero]) rfl ?_
  rintro ⟨c, x, F⟩ ⟨hc, ho, hEF, hbx⟩
  simp only at hc ho hEF hbx
  refine Zn fun Q2 hQ2 => ?_
  simp only [l24_0]
  by_cases hin : (c : Int) < 13
  · have hc' : c < 13 := by omega
    have sc := cent_sm c hc'
    have f8 := (hEF.2 _ (Yc b8) id).trans b8
    have f9 := (hEF.2 _ (Yc b9) id).trans b9
    have hps := prTo_succ lo hi c
    have fr := frac_call (h := F) (a := (c : Int)) (b := 12) (by decide) (by omega) (by decide)
    rw [prF] at hps
    obtain ⟨q, hq⟩ : ∃ q, Rat.divInt (c : Int) 12 = q := ⟨_, rfl⟩
    rw [hq] at sc hps fr
    obtain ⟨F2, hF2⟩ : ∃ F2, F2 = F ++ [fC q.num q.den] := ⟨_, rfl⟩
    have g13 : F2[F.length]? = some (fC q.num q.den) := by rw [hF2]; exact Zy _ _
    have g8 : F2[H.length]? = some (fC lo.num lo.den) := by rw [hF2]; exact Xr f8 _
    have g9 : F2[H.length + 1]? = some (fC hi.num hi.den) := by rw [hF2]; exact Xr f9 _
    have hE2 : Ext (fun _ => False) F F2 := by rw [hF2]; exact Ext.app _ _ _
    refine Ze fun N8 hN8 => ?_
    simp (maxSteps := 2000000) only [↓Za, ↓Zb, ↓Zd, vup, cond_true, cond_false, aop, Zg, ev, sput, Zf, Yb, Ye, Nat.reduceBEq, hin]
    refine hN8 [(0, Zc (k : Nat)), (1, v), (2, Zc (ee : Nat)), (6, .slice none 0 0), (7, .int .i64 0), (8, .pointer (some ⟨H.length, 0, none⟩)), (9, .pointer (some ⟨H.length + 1, 0, none⟩)), (10, .int .i64 0), (11, x), (25, Zc (c : Nat)), (26, .bool true)] _ _ ?_ (by simp (maxSteps := 2000000) only [vup, cond_true, cond_false, Nat.reduceBEq])
    clear hN8
    try clear N8
    refine Ze fun N9 hN9 => ?_
    simp (maxSteps := 2000000) only [↓Zo, ↓vdn, vup, cond_true, cond_false, Zg, ev, Nat.reduceBEq]
    refine hN9 [(0, Zc (k : Nat)), (1, v), (2, Zc (ee : Nat)), (6, .slice none 0 0), (7, .int .i64 0), (8, .pointer (some ⟨H.length, 0, none⟩)), (9, .pointer (some ⟨H.length + 1, 0, none⟩)), (10, .int .i64 0), (11, x), (25, Zc (c : Nat))] _ _ ?_ (by simp (maxSteps := 2000000) only [vup, cond_true, cond_false, Nat.reduceBEq])
    clear hN9
    try clear N9
    refine Zk fun B hB => ?_
    refine Zl ?_
    refine Ze fun N10 hN10 => ?_
    simp (maxSteps := 2000000) only [↓Za, ↓Zb, ↓Zd, vup, cond_true, cond_false, aop, Zg, ev, sput, Zf, Nat.reduceBEq]
    refine hN10 [(0, Zc (k : Nat)), (1, v), (2, Zc (ee : Nat)), (6, .slice none 0 0), (7, .int .i64 0), (8, .pointer (some ⟨H.length, 0, none⟩)), (9, .pointer (some ⟨H.length + 1, 0, none⟩)), (10, .int .i64 0), (11, x), (12, Zc (c : Nat)), (25, Zc (c : Nat))] _ _ ?_ (by simp (maxSteps := 2000000) only [vup, cond_true, cond_false, Nat.reduceBEq])
    clear hN10
    try clear N10
    refine Ze fun N11 hN11 => ?_
    simp (maxSteps := 2000000) only [↓Za, ↓Zb, ↓Zd, vup, List.map_cons, List.map_nil, cond_true, cond_false, aop, Zg, ev, sput, Zf, Nat.reduceBEq, Yn, List.nil_append, List.append_nil]
    refine (fr).mono ?_
    rintro _ F ⟨rfl, rfl⟩
    simp (maxSteps := 2000000) only [tyf, qV, frV, Xg, Yp, Xk (Zy F z0) rfl, Xm]
    rw [← hF2]
    refine hN11 [(0, Zc (k : Nat)), (1, v), (2, Zc (ee : Nat)), (6, .slice none 0 0), (7, .int .i64 0), (8, .pointer (some ⟨H.length, 0, none⟩)), (9, .pointer (some ⟨H.length + 1, 0, none⟩)), (10, .int .i64 0), (11, x), (12, Zc (c : Nat)), (13, .pointer (some ⟨F.length, 0, none⟩)), (25, Zc (c : Nat))] _ _ ?_ (by simp (maxSteps := 2000000) only [vup, cond_true, cond_false, Nat.reduceBEq])
    clear hN11
    try clear N11
    have fin : ∀ e' x' F', OwnSl 3 F' x' (Wm (prTo lo hi (c + 1))) → Ext (fun _ => False) G F' → (∀ b, Yh x' = some b → G.length ≤ b) → ELe e' [(0, Zc (k : Nat)), (1, v), (2, Zc (ee : Nat)), (6, .slice none 0 0), (7, .int .i64 0), (8, .pointer (some ⟨H.length, 0, none⟩)), (9, .pointer (some ⟨H.length + 1, 0, none⟩)), (10, .int .i64 0), (11, x'), (25, Zc (c : Nat))] → B e' F' := by
      intro e' x' F' f1 f2 f3 he
      refine hB _ _ _ ?_ he
      refine Zi ?_
      simp (maxSteps := 2000000) only [↓Za, ↓Zb, ↓Zd, vup, cond_true, cond_false, aop, ev, sput, Zf, Yb, Ye, Nat.reduceBEq, Vx (show c < 9223372036854775807 by omega)]
      exact hQ2 _ _ _ ⟨(c + 1, x', F'), ⟨hc', f1, f2, f3⟩, by simp only; omega, by simp (maxSteps := 2000000) only [vup, cond_true, cond_false, Nat.reduceBEq], rfl⟩
    have l1 := sc.less sl F2
    have l2 := sh.less sc F2
    by_cases h1 : q < lo
    · rw [decide_eq_true h1] at hps l1
      simp only [Bool.not_true, Bool.false_and, Bool.false_eq_true, if_false, List.append_nil] at hps
      refine Ze fun N12 hN12 => ?_
      simp (maxSteps := 2000000) only [↓Za, ↓Zd, vup, List.map_cons, List.map_nil, cond_true, cond_false, aop, ev, sput, Zf, unK, Nat.reduceBEq, Yn, List.nil_append, List.append_nil, Xe g13, Xe g8]
      refine (l1).mono ?_
      rintro _ F2 ⟨rfl, rfl⟩
      simp (maxSteps := 2000000) only [↓Zb, ↓vdn, vup, cond_true, cond_false, Zg, ev, sput, Zf, Nat.reduceBEq]
      refine hN12 [(0, Zc (k : Nat)), (1, v), (2, Zc (ee : Nat)), (6, .slice none 0 0), (7, .int .i64 0), (8, .pointer (some ⟨H.length, 0, none⟩)), (9, .pointer (some ⟨H.length + 1, 0, none⟩)), (10, .int .i64 0), (11, x), (12, Zc (c : Nat)), (13, .pointer (some ⟨F.length, 0, none⟩)), (25, Zc (c : Nat)), (39, .bool false)] _ _ ?_ (by simp (maxSteps := 2000000) only [vup, cond_true, cond_false, Nat.reduceBEq])
      clear hN12
      try clear N12
      refine Yi rfl ?_
      refine Zi ?_
      simp (maxSteps := 2000000) only [↓Zo, Zg, Zm]
      exact fin _ x F2 (by rw [hps]; exact ho.ext (S := fun _ => False) hE2 (fun _ _ => id)) (hEF.trans hE2) hbx (by simp (maxSteps := 2000000) only [vup, cond_true, cond_false, Nat.reduceBEq])
    rw [decide_eq_false h1] at hps l1
    by_cases h2 : hi < q
    · rw [decide_eq_true h2] at hps l2
      simp only [Bool.not_false, Bool.not_true, Bool.true_and, Bool.false_eq_true, if_false, List.append_nil] at hps
      refine Ze fun N13 hN13 => ?_
      simp (maxSteps := 2000000) only [↓Za, ↓Zd, vup, List.map_cons, List.map_nil, cond_true, cond_false, aop, ev, sput, Zf, unK, Nat.reduceBEq, Yn, List.nil_append, List.append_nil, Xe g13, Xe g8]
      refine (l1).mono ?_
      rintro _ F2 ⟨rfl, rfl⟩
      simp (maxSteps := 2000000) only [↓Zb, ↓Zd, ↓vdn, vup, List.map_cons, List.map_nil, cond_true, cond_false, aop, Zg, ev, sput, Zf, unK, Nat.reduceBEq, Xe g9, Xe g13, Yn, List.nil_append, List.append_nil]
      refine l2.mono ?_
      rintro _ F2 ⟨rfl, rfl⟩
      simp (maxSteps := 2000000) only [vup]
      refine hN13 [(0, Zc (k : Nat)), (1, v), (2, Zc (ee : Nat)), (6, .slice none 0 0), (7, .int .i64 0), (8, .pointer (some ⟨H.length, 0, none⟩)), (9, .pointer (some ⟨H.length + 1, 0, none⟩)), (10, .int .i64 0), (11, x), (12, Zc (c : Nat)), (13, .pointer (some ⟨F.length, 0, none⟩)), (25, Zc (c : Nat)), (39, .bool false)] _ _ ?_ (by simp (maxSteps := 2000000) only [vup, cond_true, cond_false, Nat.reduceBEq])
      clear hN13
      try clear N13
      refine Yi rfl ?_
      refine Zi ?_
      simp (maxSteps := 2000000) only [↓Zo, Zg, Zm]
      exact fin _ x F2 (by rw [hps]; exact ho.ext (S := fun _ => False) hE2 (fun _ _ => id)) (hEF.trans hE2) hbx (by simp (maxSteps := 2000000) only [vup, cond_true, cond_false, Nat.reduceBEq])
    rw [decide_eq_false h2] at hps l2
    simp only [Bool.not_false, Bool.true_and, if_true] at hps
    refine Ze fun N14 hN14 => ?_
    simp (maxSteps := 2000000) only [↓Za, ↓Zd, vup, List.map_cons, List.map_nil, cond_true, cond_false, aop, ev, sput, Zf, unK, Nat.reduceBEq, Yn, List.nil_append, List.append_nil, Xe g13, Xe g8]
    refine (l1).mono ?_
    rintro _ F2 ⟨rfl, rfl⟩
    simp (maxSteps := 2000000) only [↓Zb, ↓Zd, ↓vdn, vup, List.map_cons, List.map_nil, cond_true, cond_false, aop, Zg, ev, sput, Zf, unK, Nat.reduceBEq, Xe g9, Xe g13, Yn, List.nil_append, List.append_nil]
    refine l2.mono ?_
    rintro _ F2 ⟨rfl, rfl⟩
    simp (maxSteps := 2000000) only [vup]
    refine hN14 [(0, Zc (k : Nat)), (1, v), (2, Zc (ee : Nat)), (6, .slice none 0 0), (7, .int .i64 0), (8, .pointer (some ⟨H.length, 0, none⟩)), (9, .pointer (some ⟨H.length + 1, 0, none⟩)), (10, .int .i64 0), (11, x), (12, Zc (c : Nat)), (13, .pointer (some ⟨F.length, 0, none⟩)), (25, Zc (c : Nat)), (39, .bool true)] _ _ ?_ (by simp (maxSteps := 2000000) only [vup, cond_true, cond_false, Nat.reduceBEq])
    clear hN14
    try clear N14
    refine Yx rfl ?_
    refine Zi ?_
    simp (maxSteps := 2000000) only [↓Za, ↓Zb, ↓Zd, vup, List.map_cons, List.map_nil, cond_true, cond_false, aop, Zg, Zm, ev, sput, Zf, Zj, Nat.reduceBEq, litI1]
    have hpl := prTo_le lo hi c
    refine OwnSl.append (x := (c : Int)) ((ho.ext (S := fun _ => False) hE2 (fun _ _ => id)).ext (S := fun _ => False) (Ext.app _ _ _) (fun _ _ => id)) app_38_38 (by rw [Wx]; omega) (Zy _ _) ?_
    intro x' h' ho' hE' hb'
    rw [← castI_snoc, ← hps] at ho'
    obtain ⟨hEn, hbn⟩ := oExt (H' := F2) (hEF.trans hE2) hbx _ hE' hb'
    exact fin _ x' h' ho' hEn hbn (by simp (maxSteps := 2000000) only [vup, cond_true, cond_false, Nat.reduceBEq])
  · obtain rfl : c = 13 := by omega
    refine Ze fun N15 hN15 => ?_
    simp (maxSteps := 2000000) only [↓Za, ↓Zb, ↓Zd, vup, cond_true, cond_false, aop, Zg, ev, sput, Zf, Yb, Ye, Nat.reduceBEq, hin]
    refine hN15 [(0, Zc (k : Nat)), (1, v), (2, Zc (ee : Nat)), (6, .slice none 0 0), (7, .int .i64 0), (8, .pointer (some ⟨H.length, 0, none⟩)), (9, .pointer (some ⟨H.length + 1, 0, none⟩)), (10, .int .i64 0), (11, x), (25, Zc (13 : Nat)), (26, .bool false)] _ _ ?_ (by simp (maxSteps := 2000000) only [vup, cond_true, cond_false, Nat.reduceBEq])
    clear hN15
    try clear N15
    refine Ze fun N16 hN16 => ?_
    simp (maxSteps := 2000000) only [↓Yq, ↓vdn, vup, cond_true, cond_false, Zg, ev, Nat.reduceBEq]
    refine hQ2 _ _ _ (hQ _ _ _ ?_)
    simp (maxSteps := 2000000) only [Zg, Zm, Zs, if_true]
    refine hZ [(0, Zc (k : Nat)), (1, v), (2, Zc (ee : Nat)), (6, .slice none 0 0), (7, .int .i64 0), (8, .pointer (some ⟨H.length, 0, none⟩)), (9, .pointer (some ⟨H.length + 1, 0, none⟩)), (10, .int .i64 0), (11, x), (26, .bool false)] _ _ ?_ (by simp (maxSteps := 2000000) only [vup, cond_true, cond_false, Nat.reduceBEq])
    clear hZ
    try clear Z
    refine Zi ?_
    simp (maxSteps := 2000000) only [↓Za, ↓Zu, ↓Zz, ↓Zb, ↓Zd, vup, cond_true, cond_false, aop, Zg, ev, sput, Zf, Nat.reduceBEq, Zs, Wd, tup]
    exact ⟨hE.trans (hEG.trans hEF), _, _, rfl, (hpis _ _ _).2 ⟨ho.int, rfl⟩⟩
end Go.Proofs.Try.Am

namespace Go.Proofs.Try.Am
open Go.Am Bq
set_option maxRecDepth 100000
set_option maxHeartbeats 4000000

theorem s28_callW [Tabs Try.prog] {args : List Value} {h : Zh} {Q : Value → Zh → Prop} (hsz : args.length ≤ 53) (hk : AWS Try.prog 53 s28 (Zs Try.prog [.cell 6 26, .cell 7 26] Q) (Zr 0 args) h) : ACall Try.prog 28 args h Q :=
  Ys Try.func28 rfl (enters_of Try.func28 (by kernel_rfl) rfl) rfl rfl (by decide) s28_strip s28_ok hsz hk
theorem rbounds_call [Tabs prog] {h : Zh} {n e : Nat} {v : Value} {l : List (Int × Int)} (hv : PairSl h v l) (hval : Xb n l = true) (he : e < 2 ^ n) (hne : Yd n l ≠ []) :
    ACall prog 28 [Zc (n : Nat), v, Zc (e : Nat)] h fun r h' => Ext (fun _ => False) h h' ∧ r = .tuple #[qV (loQ n e l), qV (hiQ n e l)] := by
  obtain ⟨hn2, hn5, hl1, hl6, hok⟩ := Wf hval
  have hpk := pow_le (show n ≤ 62 by omega)
  have hp32 : (2 : Nat) ^ n ≤ 2 ^ 5 := Nat.pow_le_pow_right (by decide) hn5
  obtain ⟨H0, hH0⟩ : ∃ H, H = h ++ [z0] ++ [z0] := ⟨_, rfl⟩
  have hE0 : Ext (fun _ => False) h H0 := by rw [hH0]; exact e2 ..
  have a6 : H0[h.length]? = some z0 := by rw [hH0]; exact b2_0 ..
  have a7 : H0[h.length + 1]? = some z0 := by rw [hH0]; exact b2_1 ..
  have hl0 : H0.length = h.length + 2 := by rw [hH0]; simp
  obtain ⟨H, hH⟩ : ∃ H, H = H0 ++ [fC 1 1] ++ [fC 0 1] := ⟨_, rfl⟩
  have hE1 : Ext (fun _ => False) H0 H := by rw [hH]; exact e2 ..
  have b8 : H[H0.length]? = some (fC 1 1) := by rw [hH]; exact b2_0 ..
  have b9 : H[H0.length + 1]? = some (fC 0 1) := by rw [hH]; exact b2_1 ..
  have b6 : H[h.length]? = some z0 := (hE1.2 _ (Yc a6) id).trans a6
  have b7 : H[h.length + 1]? = some z0 := (hE1.2 _ (Yc a7) id).trans a7
  have hE := hE0.trans hE1
  have hvH := hv.ext hE
  have w1 : Xi prog 66 [Zc 1] H0 (qV (((1 : Int)) : Rat)) := Wq
  have w0 : Xi prog 66 [Zc 0] H0 (qV (((0 : Int)) : Rat)) := Wq
  have q1 : qV (((1 : Int)) : Rat) = .agg #[Zc 1, Zc 1] := rfl
  have q0 : qV (((0 : Int)) : Rat) = .agg #[Zc 0, Zc 1] := rfl
  have st8 : ∀ {K : Zh → Prop}, Xf prog (H0 ++ [z0] ++ [z0]) 26 (.pointer (some ⟨H0.length, 0, none⟩)) (.agg #[Zc 1, Zc 1]) K = K (H0 ++ [fC 1 1] ++ [z0]) := fun {K} => by
    rw [Xk (b2_0 ..) rfl, List.set_append_left _ _ (by simp), Xm]
  have st9 : ∀ {K : Zh → Prop}, Xf prog (H0 ++ [fC 1 1] ++ [z0]) 26 (.pointer (some ⟨H0.length + 1, 0, none⟩)) (.agg #[Zc 0, Zc 1]) K = K H := fun {K} => by
    have := Xm (H0 ++ [fC 1 1]) z0 (fC 0 1)
    simp only [List.length_append, List.length_singleton] at this
    rw [Xk (b2_1 ..) rfl, this, hH]
  refine s28_callW (by simp) ?_
  simp only [s28]
  refine Ze fun N1 hN1 => ?_
  simp (maxSteps := 2000000) only [↓Za, ↓Zb, ↓Zd, vup, cond_false, aop, Zg, Zr, sput, Zf, Nat.reduceBEq, Nat.reduceAdd, tyf, Xg, Yp, List.length_append, List.length_singleton]
  rw [← hH0]
  refine hN1 [(0, Zc (n : Nat)), (1, v), (2, Zc (e : Nat)), (6, .pointer (some ⟨h.length, 0, none⟩)), (7, .pointer (some ⟨h.length + 1, 0, none⟩))] _ _ ?_ (by simp (maxSteps := 2000000) only [vup, cond_true, cond_false, Nat.reduceBEq])
  clear hN1
  try clear N1
  refine Ze fun N2 hN2 => ?_
  simp (maxSteps := 2000000) only [↓Za, ↓Zb, ↓Zd, vup, List.map_cons, List.map_nil, cond_true, cond_false, aop, Zg, ev, sput, Zf, Nat.reduceBEq, Yn, List.nil_append, List.append_nil]
  refine (w1).mono ?_
  rintro _ H0 ⟨rfl, rfl⟩
  refine w0.mono ?_
  rintro _ H0 ⟨rfl, rfl⟩
  simp (maxSteps := 2000000) only [tyf, q1, q0, Xg, Yp, List.length_append, List.length_singleton, st8, st9]
  refine hN2 [(0, Zc (n : Nat)), (1, v), (2, Zc (e : Nat)), (6, .pointer (some ⟨h.length, 0, none⟩)), (7, .pointer (some ⟨h.length + 1, 0, none⟩)), (8, .pointer (some ⟨H0.length, 0, none⟩)), (9, .pointer (some ⟨H0.length + 1, 0, none⟩))] _ _ ?_ (by simp (maxSteps := 2000000) only [vup, cond_true, cond_false, Nat.reduceBEq])
  clear hN2
  try clear N2
  clear st8 st9 w1 w0
  refine Zk fun Z hZ => ?_
  refine Ze fun N3 hN3 => ?_
  simp (maxSteps := 2000000) only [↓Za, ↓Zb, ↓Zd, vup, List.map_cons, List.map_nil, cond_true, cond_false, aop, Zg, ev, sput, Zf, Zj, Nat.reduceBEq, tyf, Yn, List.nil_append, List.append_nil]
  refine (rcorners_call hvH hval).mono ?_
  rintro r H1 ⟨hEc, ws, hor, heach⟩
  simp (maxSteps := 2000000) only [hor.val.len]
  refine hN3 [(0, Zc (n : Nat)), (1, v), (2, Zc (e : Nat)), (6, .pointer (some ⟨h.length, 0, none⟩)), (7, .pointer (some ⟨h.length + 1, 0, none⟩)), (8, .pointer (some ⟨H0.length, 0, none⟩)), (9, .pointer (some ⟨H0.length + 1, 0, none⟩)), (19, r), (20, Zc (ws.length : Nat)), (21, .int .i64 0)] _ _ ?_ (by simp (maxSteps := 2000000) only [vup, cond_true, cond_false, Nat.reduceBEq])
  clear hN3
  try clear N3
  have hlen := heach.len
  have hclen := Vf n l (2 ^ n - 1)
  obtain ⟨cs, hcs⟩ : ∃ cs, Yd n l = cs := ⟨_, rfl⟩
  have hcm : ∀ b ∈ cs, b ∈ Yd n l := fun b hb => by rw [hcs]; exact hb
  have hcl : cs.length ≤ 32 := by
    rw [← hcs]
    have : (Yd n l).length ≤ 2 ^ n - 1 := hclen
    omega
  rw [hcs] at hlen heach hne
  have hpos : 0 < ws.length := by rw [hlen]; exact List.length_pos_iff.2 hne
  have hmemi : ∀ i, i < ws.length → cs.getD i [] ∈ cs := fun i hi => by
    rw [List.getD, List.getElem?_eq_getElem (show i < cs.length by omega)]; exact List.getElem_mem _
  have hsm : ∀ i, i < ws.length → SmQ (cvq n e (cs.getD i [])) := fun i hi => corner_sm hval (hcm _ (hmemi i hi)) e
  obtain ⟨vs, hvs⟩ : ∃ vs, cs.map (cvq n e) = vs := ⟨_, rfl⟩
  have hvl : vs.length = ws.length := by rw [← hvs, List.length_map, hlen]
  have hvg : ∀ i, i < ws.length → vs.take i ++ [cvq n e (cs.getD i [])] = vs.take (i + 1) := fun i hi => by
    have e : vs.getD i 0 = cvq n e (cs.getD i []) := by
      rw [← hvs, List.getD, List.getElem?_map, List.getElem?_eq_getElem (show i < cs.length by omega), List.getD, List.getElem?_eq_getElem (show i < cs.length by omega)]; rfl
    rw [← e]; exact (Vw (by omega)).symm
  have hallv : ∀ v ∈ vs, SmQ v := fun v hv => by
    rw [← hvs] at hv
    obtain ⟨b, hb, rfl⟩ := List.mem_map.1 hv
    exact corner_sm hval (hcm b hb) e
  have s1 : SmQ 1 := ⟨by decide +kernel, by decide +kernel, by decide⟩
  have s0 : SmQ 0 := ⟨by decide +kernel, by decide +kernel, by decide⟩
  have hmm : ∀ i, SmQ (minL 1 (vs.take i)) ∧ SmQ (maxL 0 (vs.take i)) := fun i => by
    constructor
    · rcases (minL_spec (vs.take i) 1).1 with g | g
      · rw [g]; exact s1
      · exact hallv _ (List.mem_of_mem_take g)
    · rcases (maxL_spec (vs.take i) 0).1 with g | g
      · rw [g]; exact s0
      · exact hallv _ (List.mem_of_mem_take g)
  have hlo : loQ n e l = minL 1 vs := by
    rw [loQ, hcs, hvs]
    refine (minL_start ?_ fun u hu => (hallv u hu).2.1).symm
    rw [← hvs]
    cases cs with
    | nil => exact absurd rfl hne
    | cons c cs => exact List.mem_map.2 ⟨c, by simp, rfl⟩
  have hhi : hiQ n e l = maxL 0 vs := by
    rw [hiQ, hcs, hvs]
    refine (maxL_start ?_ fun u hu => (hallv u hu).1).symm
    rw [← hvs]
    cases cs with
    | nil => exact absurd rfl hne
    | cons c cs => exact List.mem_map.2 ⟨c, by simp, rfl⟩
  have c8 := (hEc.2 _ (Yc b8) id).trans b8
  have c9 := (hEc.2 _ (Yc b9) id).trans b9
  have c6 := (hEc.2 _ (Yc b6) id).trans b6
  have c7 := (hEc.2 _ (Yc b7) id).trans b7
  refine Zl ?_
  refine Zn fun Q hQ => ?_
  refine Yk (γ := Nat × Zh) (fun s => s.1 ≤ ws.length ∧ Ext (fun i => i = H0.length ∨ i = H0.length + 1) H1 s.2 ∧ s.2[H0.length]? = some (fC (minL 1 (vs.take s.1)).num (minL 1 (vs.take s.1)).den) ∧ s.2[H0.length + 1]? = some (fC (maxL 0 (vs.take s.1)).num (maxL 0 (vs.take s.1)).den))
    (fun s => ([(0, Zc (n : Nat)), (1, v), (2, Zc (e : Nat)), (6, .pointer (some ⟨h.length, 0, none⟩)), (7, .pointer (some ⟨h.length + 1, 0, none⟩)), (8, .pointer (some ⟨H0.length, 0, none⟩)), (9, .pointer (some ⟨H0.length + 1, 0, none⟩)), (19, r), (20, Zc (ws.length : Nat)), (21, Zc (s.1 : Nat))], s.2)) (fun s => ws.length - s.1) (0, H1) ⟨Nat.zero_le _, Ext.refl _ _, c8, c9⟩ (by simp (maxSteps := 2000000) only [vup, cond_true, cond_false, Nat.reduceBEq, Int.natCast_zero]) rfl ?_
  rintro ⟨i, G⟩ ⟨hi, hGS, g8, g9⟩
  simp only at hi hGS g8 g9
  refine Zn fun Q2 hQ2 => ?_
  simp only [l28_1]
  by_cases hin : (i : Int) < ws.length
  · have hi' : i < ws.length := by omega
    obtain ⟨sm1, sm2⟩ := hmm i
    have smf := hsm i hi'
    have hsn := hvg i hi'
    obtain ⟨b, hbe⟩ : ∃ b, cs.getD i [] = b := ⟨_, rfl⟩
    have hBel : BelAt H1 (ws.getD i undef) b := by rw [← hbe]; exact heach.get undef [] (by omega)
    have hbm : b ∈ Yd n l := by rw [← hbe]; exact hcm _ (hmemi i hi')
    rw [hbe] at smf hsn
    obtain ⟨hbl, hbf, hble, _, hbc, _⟩ := Vt hval hbm
    obtain ⟨DD, d1, d2, d3⟩ := corner_den' hval hbm
    obtain ⟨f, hf⟩ : ∃ f, cvq n e b = f := ⟨_, rfl⟩
    rw [hf] at smf hsn
    have hmin := minL_snoc (vs.take i) f 1
    have hmax := maxL_snoc (vs.take i) f 0
    rw [hsn] at hmin hmax
    obtain ⟨A, hA⟩ : ∃ A, minL 1 (vs.take i) = A := ⟨_, rfl⟩
    obtain ⟨B, hB⟩ : ∃ A, maxL 0 (vs.take i) = A := ⟨_, rfl⟩
    rw [hA] at sm1 hmin g8
    rw [hB] at sm2 hmax g9
    have hkeepB : ∀ b x, H1[b]? = some x → b ≠ H0.length → b ≠ H0.length + 1 → G[b]? = some x := fun b x hb n1 n2 => (hGS.2 b (Yc hb) (by omega)).trans hb
    have hws : ValSl G r ws := hor.val.same fun b hb => hGS.2 b (hor.lt hb) (by
      rintro (h1 | h1)
      · obtain ⟨c', hc'⟩ := hor.blk hb; rw [h1, c8] at hc'; exact absurd (Blk.cells.inj (Option.some.inj hc')).2.1 (by decide)
      · obtain ⟨c', hc'⟩ := hor.blk hb; rw [h1, c9] at hc'; exact absurd (Blk.cells.inj (Option.some.inj hc')).2.1 (by decide))
    obtain ⟨bl, hw1, hw2⟩ := hBel
    have hlen2 : ∀ x y : Int, (Blk.cells ((Ym (b.map ofQ)).map Zc) 26 false) ≠ fC x y := fun x y hc => by
      have := congrArg List.length (Blk.cells.inj hc).1
      simp only [List.length_map, Wb, hbl, List.length_cons, List.length_nil] at this
      omega
    have hw2G : G[bl]? = some (.cells ((Ym (b.map ofQ)).map Zc) 26 false) := hkeepB bl _ hw2 (fun hc => by rw [hc, c8] at hw2; exact hlen2 _ _ (Option.some.inj hw2).symm) (fun hc => by rw [hc, c9] at hw2; exact hlen2 _ _ (Option.some.inj hw2).symm)
    refine Ze fun N4 hN4 => ?_
    simp (maxSteps := 2000000) only [↓Za, ↓Zb, ↓Zd, vup, cond_true, cond_false, aop, Zg, ev, sput, Zf, Yb, Ye, Nat.reduceBEq, hin]
    refine hN4 [(0, Zc (n : Nat)), (1, v), (2, Zc (e : Nat)), (6, .pointer (some ⟨h.length, 0, none⟩)), (7, .pointer (some ⟨h.length + 1, 0, none⟩)), (8, .pointer (some ⟨H0.length, 0, none⟩)), (9, .pointer (some ⟨H0.length + 1, 0, none⟩)), (19, r), (20, Zc (ws.length : Nat)), (21, Zc (i : Nat)), (22, .bool true)] _ _ ?_ (by simp (maxSteps := 2000000) only [vup, cond_true, cond_false, Nat.reduceBEq])
    clear hN4
    try clear N4
    refine Ze fun N5 hN5 => ?_
    simp (maxSteps := 2000000) only [↓Zo, ↓vdn, vup, cond_true, cond_false, Zg, ev, Nat.reduceBEq]
    refine hN5 [(0, Zc (n : Nat)), (1, v), (2, Zc (e : Nat)), (6, .pointer (some ⟨h.length, 0, none⟩)), (7, .pointer (some ⟨h.length + 1, 0, none⟩)), (8, .pointer (some ⟨H0.length, 0, none⟩)), (9, .pointer (some ⟨H0.length + 1, 0, none⟩)), (19, r), (20, Zc (ws.length : Nat)), (21, Zc (i : Nat))] _ _ ?_ (by simp (maxSteps := 2000000) only [vup, cond_true, cond_false, Nat.reduceBEq])
    clear hN5
    try clear N5
    refine Zk fun D hD => ?_
    refine Zl ?_
    have fin : ∀ e' G' (a c : Rat), minL 1 (vs.take (i + 1)) = a → maxL 0 (vs.take (i + 1)) = c → Ext (fun i => i = H0.length ∨ i = H0.length + 1) H1 G' → G'[H0.length]? = some (fC a.num a.den) → G'[H0.length + 1]? = some (fC c.num c.den) → ELe e' [(0, Zc (n : Nat)), (1, v), (2, Zc (e : Nat)), (6, .pointer (some ⟨h.length, 0, none⟩)), (7, .pointer (some ⟨h.length + 1, 0, none⟩)), (8, .pointer (some ⟨H0.length, 0, none⟩)), (9, .pointer (some ⟨H0.length + 1, 0, none⟩)), (19, r), (20, Zc (ws.length : Nat)), (21, Zc (i : Nat))] → D e' G' := by
      intro e' G' a c e1 e2 e3 e4 e5 he
      subst e1
      subst e2
      refine hD _ _ _ ?_ he
      refine Zi ?_
      simp (maxSteps := 2000000) only [↓Za, ↓Zb, ↓Zd, vup, cond_true, cond_false, aop, ev, sput, Zf, Yb, Ye, Nat.reduceBEq, Vx (show i < 9223372036854775807 by omega)]
      exact hQ2 _ _ _ ⟨(i + 1, G'), ⟨hi', e3, e4, e5⟩, by simp only; omega, by simp (maxSteps := 2000000) only [vup, cond_true, cond_false, Nat.reduceBEq], rfl⟩
    refine Ze fun N6 hN6 => ?_
    simp (maxSteps := 2000000) only [↓Za, ↓Zb, ↓Zd, vup, cond_true, cond_false, aop, Zg, ev, sput, Zf, Nat.reduceBEq, hws.idx el_94 Ub hi', hws.load shp_47 hi', hw1]
    refine hN6 [(0, Zc (n : Nat)), (1, v), (2, Zc (e : Nat)), (6, .pointer (some ⟨h.length, 0, none⟩)), (7, .pointer (some ⟨h.length + 1, 0, none⟩)), (8, .pointer (some ⟨H0.length, 0, none⟩)), (9, .pointer (some ⟨H0.length + 1, 0, none⟩)), (11, .slice (some ⟨bl, 0, none⟩) b.length b.length), (19, r), (20, Zc (ws.length : Nat)), (21, Zc (i : Nat))] _ _ ?_ (by simp (maxSteps := 2000000) only [vup, cond_true, cond_false, Nat.reduceBEq])
    clear hN6
    try clear N6
    obtain ⟨J, hJ⟩ : ∃ J, J = G ++ [fC 0 1] := ⟨_, rfl⟩
    have j12 : J[G.length]? = some (fC 0 1) := by rw [hJ]; exact Zy _ _
    have hEJ : Ext (fun _ => False) G J := by rw [hJ]; exact Ext.app _ _ _
    refine Ze fun N7 hN7 => ?_
    simp (maxSteps := 2000000) only [↓Za, ↓Zb, ↓Zd, vup, List.map_cons, List.map_nil, cond_true, cond_false, aop, Zg, ev, sput, Zf, Nat.reduceBEq, Yn, List.nil_append, List.append_nil]
    refine ((show Xi prog 66 [.int .i64 0] G (qV (((0 : Int)) : Rat)) from Wq)).mono ?_
    rintro _ G ⟨rfl, rfl⟩
    simp (maxSteps := 2000000) only [tyf, q0, Xg, Yp, Xk (Zy G z0) rfl, Xm]
    rw [← hJ]
    refine hN7 [(0, Zc (n : Nat)), (1, v), (2, Zc (e : Nat)), (6, .pointer (some ⟨h.length, 0, none⟩)), (7, .pointer (some ⟨h.length + 1, 0, none⟩)), (8, .pointer (some ⟨H0.length, 0, none⟩)), (9, .pointer (some ⟨H0.length + 1, 0, none⟩)), (11, .slice (some ⟨bl, 0, none⟩) b.length b.length), (12, .pointer (some ⟨G.length, 0, none⟩)), (19, r), (20, Zc (ws.length : Nat)), (21, Zc (i : Nat))] _ _ ?_ (by simp (maxSteps := 2000000) only [vup, cond_true, cond_false, Nat.reduceBEq])
    clear hN7
    try clear N7
    have px := Vb hw2G
    rw [List.length_map, hbl] at px
    rw [hbl]
    refine Zk fun Y hY => ?_
    refine Ze fun N8 hN8 => ?_
    simp (maxSteps := 2000000) only [↓Za, ↓Zb, ↓Zd, vup, List.map_cons, List.map_nil, cond_true, cond_false, aop, Zg, ev, sput, Zf, Zj, Nat.reduceBEq, tyf, lenK]
    refine hN8 [(0, Zc (n : Nat)), (1, v), (2, Zc (e : Nat)), (6, .pointer (some ⟨h.length, 0, none⟩)), (7, .pointer (some ⟨h.length + 1, 0, none⟩)), (8, .pointer (some ⟨H0.length, 0, none⟩)), (9, .pointer (some ⟨H0.length + 1, 0, none⟩)), (11, .slice (some ⟨bl, 0, none⟩) n n), (12, .pointer (some ⟨G.length, 0, none⟩)), (19, r), (20, Zc (ws.length : Nat)), (21, Zc (i : Nat)), (26, .slice (some ⟨bl, 0, none⟩) n n), (27, Zc (n : Nat)), (28, .int .i64 0)] _ _ ?_ (by simp (maxSteps := 2000000) only [vup, cond_true, cond_false, Nat.reduceBEq])
    clear hN8
    try clear N8
    refine Zl ?_
    refine Zn fun Qa hQa => ?_
    obtain ⟨g, hg⟩ : ∃ g : Nat → Rat, g = fun w => bitQ e w * b.getD w 0 := ⟨_, rfl⟩
    have hgs : ∀ k, k ≤ n → SmQ (Zv g k) := fun k hk => by
      have hb0 : ∀ w, w < n → 0 ≤ g w ∧ g w ≤ b.getD w 0 ∧ (g w).den ∣ DD := fun w hw => by
        rw [hg]
        simp only
        rcases bitQ_01 e w with h1 | h1 <;> rw [h1]
        · rw [Rat.zero_mul]; exact ⟨Rat.le_refl, hbf.nn w hw, Nat.one_dvd _⟩
        · rw [Rat.one_mul]; exact ⟨hbf.nn w hw, Rat.le_refl, d3 w hw⟩
      refine ⟨sumTo_nonneg fun w hw => (hb0 w (by omega)).1, ?_, Nat.le_trans (Nat.le_of_dvd d1 (sumTo_den d1 fun w hw => (hb0 w (by omega)).2.2)) d2⟩
      refine Rat.le_trans (sumTo_mono hk fun w hw => (hb0 w hw).1) ?_
      rw [← hbf.one]
      exact sumTo_le fun w hw => (hb0 w hw).2.1
    have g0 : fC (Zv g 0).num ((Zv g 0).den : Int) = fC 0 1 := rfl
    refine Yk (γ := Nat × Zh) (fun s => s.1 ≤ n ∧ Ext (fun i => i = G.length) J s.2 ∧ s.2[G.length]? = some (fC (Zv g s.1).num (Zv g s.1).den))
      (fun s => ([(0, Zc (n : Nat)), (1, v), (2, Zc (e : Nat)), (6, .pointer (some ⟨h.length, 0, none⟩)), (7, .pointer (some ⟨h.length + 1, 0, none⟩)), (8, .pointer (some ⟨H0.length, 0, none⟩)), (9, .pointer (some ⟨H0.length + 1, 0, none⟩)), (11, .slice (some ⟨bl, 0, none⟩) n n), (12, .pointer (some ⟨G.length, 0, none⟩)), (19, r), (20, Zc (ws.length : Nat)), (21, Zc (i : Nat)), (26, .slice (some ⟨bl, 0, none⟩) n n), (27, Zc (n : Nat)), (28, Zc (s.1 : Nat))], s.2)) (fun s => n - s.1) (0, J) ⟨Nat.zero_le _, Ext.refl _ _, by simp only; rw [g0]; exact j12⟩ (by simp (maxSteps := 2000000) only [vup, cond_true, cond_false, Nat.reduceBEq, Int.natCast_zero]) rfl ?_
    rintro ⟨w, F⟩ ⟨hw, hFJ, f12⟩
    simp only at hw hFJ f12
    refine Zn fun Qb hQb => ?_
    simp only [l28_0]
    have hlGJ : G.length < J.length := Yc j12
    have hGF : Ext (fun _ => False) G F := ⟨by have := hFJ.1; have := hEJ.1; omega, fun z hz _ => (hFJ.2 z (by omega) (by omega)).trans (hEJ.2 z hz id)⟩
    by_cases hwin : (w : Int) < n
    · have hw' : w < n := by omega
      have hwl : w < (b.map ofQ).length := by rw [List.length_map, hbl]; exact hw'
      have pF := px.ext hGF
      have hgw : (b.map ofQ).getD w (0, 0) = ((b.getD w 0).num, ((b.getD w 0).den : Int)) := by
        rw [List.getD, List.getElem?_map, List.getElem?_eq_getElem (show w < b.length by omega), List.getD, List.getElem?_eq_getElem (show w < b.length by omega)]; rfl
      obtain ⟨q, hq⟩ : ∃ q, b.getD w 0 = q := ⟨_, rfl⟩
      have hq01 : 0 ≤ q ∧ q ≤ 1 ∧ q.den ≤ 720 := by rw [← hq]; exact ⟨hbf.nn w hw', hble w hw', Nat.le_trans (Nat.le_of_dvd d1 (d3 w hw')) d2⟩
      rw [hq] at hgw
      have ht := testV (y := w) (show e < 9223372036854775808 by omega)
      obtain ⟨F2, hF2⟩ : ∃ F2, F2 = F ++ [fC q.num q.den] := ⟨_, rfl⟩
      have g14 : F2[F.length]? = some (fC q.num q.den) := by rw [hF2]; exact Zy _ _
      have g12 : F2[G.length]? = some (fC (Zv g w).num (Zv g w).den) := by rw [hF2]; exact Xr f12 _
      have hFJ2 : Ext (fun i => i = G.length) J F2 := by rw [hF2]; exact hFJ.trans (Ext.app _ _ _)
      refine Ze fun N9 hN9 => ?_
      simp (maxSteps := 2000000) only [↓Za, ↓Zb, ↓Zd, vup, cond_true, cond_false, aop, Zg, ev, sput, Zf, Yb, Ye, Nat.reduceBEq, hwin]
      refine hN9 [(0, Zc (n : Nat)), (1, v), (2, Zc (e : Nat)), (6, .pointer (some ⟨h.length, 0, none⟩)), (7, .pointer (some ⟨h.length + 1, 0, none⟩)), (8, .pointer (some ⟨H0.length, 0, none⟩)), (9, .pointer (some ⟨H0.length + 1, 0, none⟩)), (11, .slice (some ⟨bl, 0, none⟩) n n), (12, .pointer (some ⟨G.length, 0, none⟩)), (19, r), (20, Zc (ws.length : Nat)), (21, Zc (i : Nat)), (26, .slice (some ⟨bl, 0, none⟩) n n), (27, Zc (n : Nat)), (28, Zc (w : Nat)), (29, .bool true)] _ _ ?_ (by simp (maxSteps := 2000000) only [vup, cond_true, cond_false, Nat.reduceBEq])
      clear hN9
      try clear N9
      refine Ze fun N10 hN10 => ?_
      simp (maxSteps := 2000000) only [↓Zo, ↓vdn, vup, cond_true, cond_false, Zg, ev, Nat.reduceBEq]
      refine hN10 [(0, Zc (n : Nat)), (1, v), (2, Zc (e : Nat)), (6, .pointer (some ⟨h.length, 0, none⟩)), (7, .pointer (some ⟨h.length + 1, 0, none⟩)), (8, .pointer (some ⟨H0.length, 0, none⟩)), (9, .pointer (some ⟨H0.length + 1, 0, none⟩)), (11, .slice (some ⟨bl, 0, none⟩) n n), (12, .pointer (some ⟨G.length, 0, none⟩)), (19, r), (20, Zc (ws.length : Nat)), (21, Zc (i : Nat)), (26, .slice (some ⟨bl, 0, none⟩) n n), (27, Zc (n : Nat)), (28, Zc (w : Nat))] _ _ ?_ (by simp (maxSteps := 2000000) only [vup, cond_true, cond_false, Nat.reduceBEq])
      clear hN10
      try clear N10
      refine Zk fun C hC => ?_
      refine Zl ?_
      refine Ze fun N11 hN11 => ?_
      simp (maxSteps := 2000000) only [↓Za, ↓Zb, ↓Zd, vup, cond_true, cond_false, aop, Zg, ev, sput, Zf, Nat.reduceBEq, tyf, pF.idx el_47 Vj hwl, pF.load shp_26 hwl, hgw, Xg, Yp, Xk (Zy F z0) rfl, Xm]
      rw [← hF2]
      refine hN11 [(0, Zc (n : Nat)), (1, v), (2, Zc (e : Nat)), (6, .pointer (some ⟨h.length, 0, none⟩)), (7, .pointer (some ⟨h.length + 1, 0, none⟩)), (8, .pointer (some ⟨H0.length, 0, none⟩)), (9, .pointer (some ⟨H0.length + 1, 0, none⟩)), (11, .slice (some ⟨bl, 0, none⟩) n n), (12, .pointer (some ⟨G.length, 0, none⟩)), (13, Zc (w : Nat)), (14, .pointer (some ⟨F.length, 0, none⟩)), (19, r), (20, Zc (ws.length : Nat)), (21, Zc (i : Nat)), (26, .slice (some ⟨bl, 0, none⟩) n n), (27, Zc (n : Nat)), (28, Zc (w : Nat))] _ _ ?_ (by simp (maxSteps := 2000000) only [vup, cond_true, cond_false, Nat.reduceBEq])
      clear hN11
      try clear N11
      refine Ze fun N12 hN12 => ?_
      simp (maxSteps := 2000000) only [↓Za, ↓Zb, ↓Zd, vup, cond_true, cond_false, aop, Zg, ev, sput, Zf, Yb, Ye, Nat.reduceBEq, ht, beq1, Int.natCast_nonneg]
      refine hN12 [(0, Zc (n : Nat)), (1, v), (2, Zc (e : Nat)), (6, .pointer (some ⟨h.length, 0, none⟩)), (7, .pointer (some ⟨h.length + 1, 0, none⟩)), (8, .pointer (some ⟨H0.length, 0, none⟩)), (9, .pointer (some ⟨H0.length + 1, 0, none⟩)), (11, .slice (some ⟨bl, 0, none⟩) n n), (12, .pointer (some ⟨G.length, 0, none⟩)), (13, Zc (w : Nat)), (14, .pointer (some ⟨F.length, 0, none⟩)), (19, r), (20, Zc (ws.length : Nat)), (21, Zc (i : Nat)), (26, .slice (some ⟨bl, 0, none⟩) n n), (27, Zc (n : Nat)), (28, Zc (w : Nat)), (37, .bool (e.testBit w))] _ _ ?_ (by simp (maxSteps := 2000000) only [vup, cond_true, cond_false, Nat.reduceBEq])
      clear hN12
      try clear N12
      have hnx : Zv g (w + 1) = Zv g w + g w := rfl
      have hgw2 : g w = bitQ e w * q := by rw [hg]; simp only [hq]
      cases hbit : e.testBit w with
      | false =>
        have : Zv g (w + 1) = Zv g w := by rw [hnx, hgw2, bitQ, hbit, if_neg (by simp), Rat.zero_mul, Rat.add_zero]
        refine Yi rfl ?_
        refine Zi ?_
        simp (maxSteps := 2000000) only [↓Zo, Zg, Zm]
        refine hC [(0, Zc (n : Nat)), (1, v), (2, Zc (e : Nat)), (6, .pointer (some ⟨h.length, 0, none⟩)), (7, .pointer (some ⟨h.length + 1, 0, none⟩)), (8, .pointer (some ⟨H0.length, 0, none⟩)), (9, .pointer (some ⟨H0.length + 1, 0, none⟩)), (11, .slice (some ⟨bl, 0, none⟩) n n), (12, .pointer (some ⟨G.length, 0, none⟩)), (19, r), (20, Zc (ws.length : Nat)), (21, Zc (i : Nat)), (26, .slice (some ⟨bl, 0, none⟩) n n), (27, Zc (n : Nat)), (28, Zc (w : Nat))] _ _ ?_ (by simp (maxSteps := 2000000) only [vup, cond_true, cond_false, Nat.reduceBEq])
        clear hC
        try clear C
        refine Zi ?_
        simp (maxSteps := 2000000) only [↓Za, ↓Zb, ↓Zd, vup, cond_true, cond_false, aop, ev, sput, Zf, Yb, Ye, Nat.reduceBEq, Vx (show w < 9223372036854775807 by omega)]
        exact hQb _ _ _ ⟨(w + 1, F2), ⟨hw', hFJ2, by simp only; rw [this]; exact g12⟩, by simp only; omega, by simp (maxSteps := 2000000) only [vup, cond_true, cond_false, Nat.reduceBEq], rfl⟩
      | true =>
        have hnx2 : Zv g (w + 1) = Zv g w + q := by rw [hnx, hgw2, bitQ, hbit, if_pos rfl, Rat.one_mul]
        have sS := hgs w (by omega)
        have nS := sS.num
        have nq := SmQ.num hq01
        have rp : Xi prog 67 [qV (Zv g w), qV q] F2 (qV (Zv g w + q)) := by
          have x1 : ((Zv g w).num * (q.den : Int)).natAbs ≤ 720 * 720 := by rw [Int.natAbs_mul, Int.natAbs_natCast]; exact Nat.mul_le_mul (by omega) hq01.2.2
          have x2 : (q.num * ((Zv g w).den : Int)).natAbs ≤ 720 * 720 := by rw [Int.natAbs_mul, Int.natAbs_natCast]; exact Nat.mul_le_mul (by omega) sS.2.2
          have x3 : (Zv g w).den * q.den ≤ 720 * 720 := Nat.mul_le_mul sS.2.2 hq01.2.2
          exact rplus_call (by omega) (by omega)
        rw [← hnx2] at rp
        obtain ⟨S, hS⟩ : ∃ S, Zv g w = S := ⟨_, rfl⟩
        obtain ⟨S', hS'⟩ : ∃ S, Zv g (w + 1) = S := ⟨_, rfl⟩
        rw [hS] at rp g12
        rw [hS'] at rp
        refine Yx rfl ?_
        refine Zi ?_
        simp (maxSteps := 2000000) only [↓Za, ↓Zb, ↓Zd, vup, List.map_cons, List.map_nil, cond_true, cond_false, aop, Zg, Zm, ev, sput, Zf, Nat.reduceBEq, Yn, List.nil_append, List.append_nil, Xe g12, Xe g14]
        refine (rp).mono ?_
        rintro _ F2 ⟨rfl, rfl⟩
        simp (maxSteps := 2000000) only [qV, frV, Xk g12 rfl]
        refine hC [(0, Zc (n : Nat)), (1, v), (2, Zc (e : Nat)), (6, .pointer (some ⟨h.length, 0, none⟩)), (7, .pointer (some ⟨h.length + 1, 0, none⟩)), (8, .pointer (some ⟨H0.length, 0, none⟩)), (9, .pointer (some ⟨H0.length + 1, 0, none⟩)), (11, .slice (some ⟨bl, 0, none⟩) n n), (12, .pointer (some ⟨G.length, 0, none⟩)), (19, r), (20, Zc (ws.length : Nat)), (21, Zc (i : Nat)), (26, .slice (some ⟨bl, 0, none⟩) n n), (27, Zc (n : Nat)), (28, Zc (w : Nat))] _ _ ?_ (by simp (maxSteps := 2000000) only [vup, cond_true, cond_false, Nat.reduceBEq])
        clear hC
        try clear C
        refine Zi ?_
        simp (maxSteps := 2000000) only [↓Za, ↓Zb, ↓Zd, vup, cond_true, cond_false, aop, ev, sput, Zf, Yb, Ye, Nat.reduceBEq, Vx (show w < 9223372036854775807 by omega)]
        exact hQb _ _ _ ⟨(w + 1, F2.set G.length (fC S'.num S'.den)), ⟨hw', hFJ2.trans (Ext.set _ rfl), by simp only; rw [hS']; exact Xt (Yc g12) _⟩, by simp only; omega, by simp (maxSteps := 2000000) only [vup, cond_true, cond_false, Nat.reduceBEq], rfl⟩
    · obtain rfl : n = w := by omega
      refine Ze fun N13 hN13 => ?_
      simp (maxSteps := 2000000) only [↓Za, ↓Zb, ↓Zd, vup, cond_true, cond_false, aop, Zg, ev, sput, Zf, Yb, Ye, Nat.reduceBEq, hwin]
      refine hN13 [(0, Zc (n : Nat)), (1, v), (2, Zc (e : Nat)), (6, .pointer (some ⟨h.length, 0, none⟩)), (7, .pointer (some ⟨h.length + 1, 0, none⟩)), (8, .pointer (some ⟨H0.length, 0, none⟩)), (9, .pointer (some ⟨H0.length + 1, 0, none⟩)), (11, .slice (some ⟨bl, 0, none⟩) n n), (12, .pointer (some ⟨G.length, 0, none⟩)), (19, r), (20, Zc (ws.length : Nat)), (21, Zc (i : Nat)), (26, .slice (some ⟨bl, 0, none⟩) n n), (27, Zc (n : Nat)), (28, Zc (n : Nat)), (29, .bool false)] _ _ ?_ (by simp (maxSteps := 2000000) only [vup, cond_true, cond_false, Nat.reduceBEq])
      clear hN13
      try clear N13
      refine Ze fun N14 hN14 => ?_
      simp (maxSteps := 2000000) only [↓Yq, ↓vdn, vup, cond_true, cond_false, Zg, ev, Nat.reduceBEq]
      refine hQb _ _ _ (hQa _ _ _ ?_)
      simp (maxSteps := 2000000) only [Zg, Zm, if_true]
      refine hY [(0, Zc (n : Nat)), (1, v), (2, Zc (e : Nat)), (6, .pointer (some ⟨h.length, 0, none⟩)), (7, .pointer (some ⟨h.length + 1, 0, none⟩)), (8, .pointer (some ⟨H0.length, 0, none⟩)), (9, .pointer (some ⟨H0.length + 1, 0, none⟩)), (11, .slice (some ⟨bl, 0, none⟩) n n), (12, .pointer (some ⟨G.length, 0, none⟩)), (19, r), (20, Zc (ws.length : Nat)), (21, Zc (i : Nat))] _ _ ?_ (by simp (maxSteps := 2000000) only [vup, cond_true, cond_false, Nat.reduceBEq])
      clear hY
      try clear Y
      have hgf : Zv g n = f := by rw [← hf, hg]; rfl
      rw [hgf] at f12
      have k8 := (hGF.2 _ (Yc g8) id).trans g8
      have k9 := (hGF.2 _ (Yc g9) id).trans g9
      have hKS : Ext (fun i => i = H0.length ∨ i = H0.length + 1) H1 F := hGS.trans (hGF.mono fun _ h => h.elim)
      have hn12 : H0.length + 1 < G.length := Yc g9
      refine Zk fun X hX => ?_
      refine Ze fun N15 hN15 => ?_
      simp (maxSteps := 2000000) only [↓Za, ↓Zb, ↓Zd, vup, List.map_cons, List.map_nil, cond_true, cond_false, aop, Zg, ev, sput, Zf, Nat.reduceBEq, Yn, List.nil_append, List.append_nil, Xe f12, Xe k8]
      refine ((SmQ.rless smf sm1 F)).mono ?_
      rintro _ F ⟨rfl, rfl⟩
      refine hN15 [(0, Zc (n : Nat)), (1, v), (2, Zc (e : Nat)), (6, .pointer (some ⟨h.length, 0, none⟩)), (7, .pointer (some ⟨h.length + 1, 0, none⟩)), (8, .pointer (some ⟨H0.length, 0, none⟩)), (9, .pointer (some ⟨H0.length + 1, 0, none⟩)), (11, .slice (some ⟨bl, 0, none⟩) n n), (12, .pointer (some ⟨G.length, 0, none⟩)), (19, r), (20, Zc (ws.length : Nat)), (21, Zc (i : Nat)), (44, .bool (decide (f < A)))] _ _ ?_ (by simp (maxSteps := 2000000) only [vup, cond_true, cond_false, Nat.reduceBEq])
      clear hN15
      try clear N15
      obtain ⟨A', hA'⟩ : ∃ A', minL 1 (vs.take (i + 1)) = A' := ⟨_, rfl⟩
      have next : ∀ F', F'[H0.length]? = some (fC A'.num A'.den) → F'[H0.length + 1]? = some (fC B.num B.den) → F'[G.length]? = some (fC f.num f.den) → Ext (fun i => i = H0.length ∨ i = H0.length + 1) H1 F' → ∀ e', ELe e' [(0, Zc (n : Nat)), (1, v), (2, Zc (e : Nat)), (6, .pointer (some ⟨h.length, 0, none⟩)), (7, .pointer (some ⟨h.length + 1, 0, none⟩)), (8, .pointer (some ⟨H0.length, 0, none⟩)), (9, .pointer (some ⟨H0.length + 1, 0, none⟩)), (11, .slice (some ⟨bl, 0, none⟩) n n), (12, .pointer (some ⟨G.length, 0, none⟩)), (19, r), (20, Zc (ws.length : Nat)), (21, Zc (i : Nat))] → X e' F' := by
        intro F' y8 y9 y12 yE e' he'
        refine hX _ _ _ ?_ he'
        refine Ze fun N16 hN16 => ?_
        simp (maxSteps := 2000000) only [↓Za, ↓Zb, ↓Zd, vup, List.map_cons, List.map_nil, cond_true, cond_false, aop, Zg, ev, sput, Zf, Nat.reduceBEq, Yn, List.nil_append, List.append_nil, Xe y9, Xe y12]
        refine ((SmQ.rless sm2 smf F')).mono ?_
        rintro _ F' ⟨rfl, rfl⟩
        refine hN16 [(0, Zc (n : Nat)), (1, v), (2, Zc (e : Nat)), (6, .pointer (some ⟨h.length, 0, none⟩)), (7, .pointer (some ⟨h.length + 1, 0, none⟩)), (8, .pointer (some ⟨H0.length, 0, none⟩)), (9, .pointer (some ⟨H0.length + 1, 0, none⟩)), (11, .slice (some ⟨bl, 0, none⟩) n n), (12, .pointer (some ⟨G.length, 0, none⟩)), (19, r), (20, Zc (ws.length : Nat)), (21, Zc (i : Nat)), (48, .bool (decide (B < f)))] _ _ ?_ (by simp (maxSteps := 2000000) only [vup, cond_true, cond_false, Nat.reduceBEq])
        clear hN16
        try clear N16
        by_cases h2 : B < f
        · rw [if_pos h2] at hmax
          rw [decide_eq_true h2]
          refine Yx rfl ?_
          refine Zi ?_
          simp (maxSteps := 2000000) only [↓Za, ↓Zb, ↓Zd, vup, cond_true, cond_false, aop, Zg, Zm, ev, sput, Zf, Nat.reduceBEq, Xe y12, Xk y9 rfl]
          refine fin _ _ A' f hA' hmax (yE.trans (Ext.set _ (.inr rfl))) ?_ (Xt (Yc y9) _) (by simp (maxSteps := 2000000) only [vup, cond_true, cond_false, Nat.reduceBEq])
          rw [List.getElem?_set_ne (by omega)]; exact y8
        · rw [if_neg h2] at hmax
          rw [decide_eq_false h2]
          refine Yi rfl ?_
          refine Zi ?_
          simp (maxSteps := 2000000) only [↓Zo, Zg, Zm]
          exact fin _ _ A' B hA' hmax yE y8 y9 (by simp (maxSteps := 2000000) only [vup, cond_true, cond_false, Nat.reduceBEq])
      by_cases h1 : f < A
      · rw [if_pos h1, hA'] at hmin
        subst hmin
        rw [decide_eq_true h1]
        refine Yx rfl ?_
        refine Zi ?_
        simp (maxSteps := 2000000) only [↓Za, ↓Zb, ↓Zd, vup, cond_true, cond_false, aop, Zg, ev, sput, Zf, Nat.reduceBEq, Xe f12, Xk k8 rfl]
        refine next _ (Xt (Yc k8) _) ?_ ?_ (hKS.trans (Ext.set _ (.inl rfl))) _ (by simp (maxSteps := 2000000) only [vup, cond_true, cond_false, Nat.reduceBEq])
        · rw [List.getElem?_set_ne (by omega)]; exact k9
        · rw [List.getElem?_set_ne (by omega)]; exact f12
      · rw [if_neg h1, hA'] at hmin
        subst hmin
        rw [decide_eq_false h1]
        refine Yi rfl ?_
        refine Zi ?_
        simp (maxSteps := 2000000) only [↓Zo, Zg]
        exact next _ k8 k9 f12 hKS _ (by simp (maxSteps := 2000000) only [vup, cond_true, cond_false, Nat.reduceBEq])
  · obtain rfl : i = ws.length := by omega
    refine Ze fun N17 hN17 => ?_
    simp (maxSteps := 2000000) only [↓Za, ↓Zb, ↓Zd, vup, cond_true, cond_false, aop, Zg, ev, sput, Zf, Yb, Ye, Nat.reduceBEq, hin]
    refine hN17 [(0, Zc (n : Nat)), (1, v), (2, Zc (e : Nat)), (6, .pointer (some ⟨h.length, 0, none⟩)), (7, .pointer (some ⟨h.length + 1, 0, none⟩)), (8, .pointer (some ⟨H0.length, 0, none⟩)), (9, .pointer (some ⟨H0.length + 1, 0, none⟩)), (19, r), (20, Zc (ws.length : Nat)), (21, Zc ws.length), (22, .bool false)] _ _ ?_ (by simp (maxSteps := 2000000) only [vup, cond_true, cond_false, Nat.reduceBEq])
    clear hN17
    try clear N17
    refine Ze fun N18 hN18 => ?_
    simp (maxSteps := 2000000) only [↓Yq, ↓vdn, vup, cond_true, cond_false, Zg, ev, Nat.reduceBEq]
    refine hQ2 _ _ _ (hQ _ _ _ ?_)
    simp (maxSteps := 2000000) only [Zg, Zm, Zs, if_true]
    refine hZ [(0, Zc (n : Nat)), (1, v), (2, Zc (e : Nat)), (6, .pointer (some ⟨h.length, 0, none⟩)), (7, .pointer (some ⟨h.length + 1, 0, none⟩)), (8, .pointer (some ⟨H0.length, 0, none⟩)), (9, .pointer (some ⟨H0.length + 1, 0, none⟩)), (22, .bool false)] _ _ ?_ (by simp (maxSteps := 2000000) only [vup, cond_true, cond_false, Nat.reduceBEq])
    clear hZ
    try clear Z
    have htk : vs.take ws.length = vs := List.take_of_length_le (by omega)
    rw [htk] at g8 g9
    rw [hlo, hhi]
    obtain ⟨A, hA⟩ : ∃ A, minL 1 vs = A := ⟨_, rfl⟩
    obtain ⟨B, hB⟩ : ∃ A, maxL 0 vs = A := ⟨_, rfl⟩
    rw [hA] at g8 ⊢
    rw [hB] at g9 ⊢
    have lh : h.length + 1 < H0.length := Yc a7
    have k6 : G[h.length]? = some z0 := (hGS.2 _ (Yc c6) (by omega)).trans c6
    have k7 : G[h.length + 1]? = some z0 := (hGS.2 _ (Yc c7) (by omega)).trans c7
    obtain ⟨G2, hG2⟩ : ∃ G2, G2 = G.set h.length (fC A.num A.den) := ⟨_, rfl⟩
    have k7' : G2[h.length + 1]? = some z0 := by rw [hG2, List.getElem?_set_ne (by omega)]; exact k7
    obtain ⟨G3, hG3⟩ : ∃ G3, G3 = G2.set (h.length + 1) (fC B.num B.den) := ⟨_, rfl⟩
    have y9 : G2[H0.length + 1]? = some (fC B.num B.den) := by rw [hG2, List.getElem?_set_ne (by omega)]; exact g9
    have y6 : G3[h.length]? = some (fC A.num A.den) := by rw [hG3, List.getElem?_set_ne (by omega), hG2]; exact Xt (Yc k6) _
    have y7 : G3[h.length + 1]? = some (fC B.num B.den) := by rw [hG3]; exact Xt (Yc k7') _
    have s6 : ∀ {K : Zh → Prop}, Xf prog G 26 (.pointer (some ⟨h.length, 0, none⟩)) (.agg #[Zc A.num, Zc A.den]) K = K G2 := fun {K} => by rw [Xk k6 rfl, hG2]
    have s7 : ∀ {K : Zh → Prop}, Xf prog G2 26 (.pointer (some ⟨h.length + 1, 0, none⟩)) (.agg #[Zc B.num, Zc B.den]) K = K G3 := fun {K} => by rw [Xk k7' rfl, hG3]
    have hEG : Ext (fun _ => False) h G3 := by
      have l1 := hE.1
      have l2 := hEc.1
      have l3 := hGS.1
      refine ⟨by rw [hG3, hG2, List.length_set, List.length_set]; omega, fun z hz _ => ?_⟩
      rw [hG3, List.getElem?_set_ne (by omega), hG2, List.getElem?_set_ne (by omega), hGS.2 z (by omega) (by omega), hEc.2 z (by omega) id]
      exact hE.2 z hz id
    refine Ze fun N19 hN19 => ?_
    simp only [q28_17]
    refine aw_drawR (fun z => z[H0.length + 1]? = some (fC B.num B.den)) [(1, 5)] (by kernel_rfl) (by kernel_rfl) (by kernel_rfl) (by kernel_rfl) g9 ?_
    simp (maxSteps := 2000000) only [↓dopsR_nil, ↓vdn, vup, cond_true, cond_false, aop, Zg, ev, sput, Zf, Nat.reduceBEq, Nat.reduceAdd, Xe g8, s6]
    refine ⟨.agg #[Zc B.num, Zc (B.den : Int)], fun z hz => by simp only [Xe hz], y9, ?_⟩
    rw [s7]
    refine ⟨by rw [hG3, List.getElem?_set_ne (by omega)]; exact y9, ?_⟩
    refine hN19 [(0, Zc (n : Nat)), (1, v), (2, Zc (e : Nat)), (6, .pointer (some ⟨h.length, 0, none⟩)), (7, .pointer (some ⟨h.length + 1, 0, none⟩)), (8, .pointer (some ⟨H0.length, 0, none⟩)), (9, .pointer (some ⟨H0.length + 1, 0, none⟩)), (22, .bool false)] _ _ ?_ (by simp (maxSteps := 2000000) only [vup, cond_true, cond_false, Nat.reduceBEq])
    clear hN19
    try clear N19
    refine Zi ?_
    simp (maxSteps := 2000000) only [↓Zz, vup, cond_true, cond_false, Nat.reduceBEq, Zs, Wd, tup, Xe y6, Xe y7]
    exact ⟨hEG, rfl⟩
end Go.Proofs.Try.Am

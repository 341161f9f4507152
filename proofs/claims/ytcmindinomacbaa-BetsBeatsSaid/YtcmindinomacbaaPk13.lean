/-
  Printed by gen.py: the code of some functions, without what no step looks at; held against the program's own by the kernel.
  bets: law Sound.
  bets: laws Beats and Either.
-/
import Derived.Test.YtcmindinomacbaaPk3
import Derived.Test.YtcmindinomacbaaProg
import Derived.KernelRfl
import Derived.Shelf.Abstract
import Derived.Test.YtcmindinomacbaaPk9
import Derived.Test.YtcmindinomacbaaPk12
set_option linter.all false
namespace Go.Proofs.Try.Am
open Go.Am
set_option maxRecDepth 100000
/-! 3: planchet planchetlaw09.BetsMore -/
@[reducible] def q3_0 : SCode := .region [⟨some 6, .box 24 (.tmp 2), none⟩,
    ⟨some 8, .assign (.const (.bool false)), none⟩]
@[reducible] def q3_1 : SCode := .region [⟨some 17, .move (.tmp 0), none⟩,
    ⟨some 18, .move (.tmp 1), none⟩,
    ⟨some 19, .call { callee := .value (.func 18), args := #[.tmp 18], argTypes := #[22] }, none⟩,
    ⟨some 20, .move (.tmp 3), none⟩,
    ⟨some 21, .call { callee := .value (.func 17), args := #[.tmp 17, .tmp 19, .tmp 20], argTypes := #[3, 30, 3] }, none⟩,
    ⟨some 16, .move (.tmp 21), none⟩,
    ⟨some 22, .extract (.tmp 16) 0, none⟩,
    ⟨some 23, .extract (.tmp 16) 1, none⟩,
    ⟨some 24, .extract (.tmp 16) 2, none⟩,
    ⟨some 9, .alloc 26, none⟩,
    ⟨some 10, .alloc 26, none⟩,
    ⟨none, .store 26 (.tmp 9) (.tmp 22), none⟩,
    ⟨none, .store 26 (.tmp 10) (.tmp 23), none⟩,
    ⟨some 11, .assign (.tmp 24), none⟩]
def q3_2 : SCode := .draw [⟨some 25, .move (.tmp 1), none⟩,
    ⟨some 26, .call { callee := .value (.func 19), args := #[.tmp 25], argTypes := #[22] }, none⟩,
    ⟨some 27, .load 24 (.tmp 6), none⟩,
    ⟨some 28, .buildSlice 22 1 #[(0, .tmp 27)], none⟩,
    ⟨some 29, .call { callee := .builtin .append, args := #[.tmp 26, .tmp 28], argTypes := #[22, 22] }, none⟩,
    ⟨some 12, .assign (.tmp 29), none⟩]
   [[], [0], [], [2], [1, 3, 1], [4, 4, 0, 1, 2, 3, 4]]
@[reducible] def q3_3 : SCode := .region [⟨some 31, .move (.tmp 0), none⟩,
    ⟨some 32, .move (.tmp 12), none⟩,
    ⟨some 33, .call { callee := .value (.func 18), args := #[.tmp 32], argTypes := #[22] }, none⟩,
    ⟨some 34, .move (.tmp 3), none⟩,
    ⟨some 35, .call { callee := .value (.func 17), args := #[.tmp 31, .tmp 33, .tmp 34], argTypes := #[3, 30, 3] }, none⟩,
    ⟨some 30, .move (.tmp 35), none⟩,
    ⟨some 36, .extract (.tmp 30) 0, none⟩,
    ⟨some 37, .extract (.tmp 30) 1, none⟩,
    ⟨some 38, .extract (.tmp 30) 2, none⟩,
    ⟨some 13, .alloc 26, none⟩,
    ⟨some 14, .alloc 26, none⟩,
    ⟨none, .store 26 (.tmp 13) (.tmp 36), none⟩,
    ⟨none, .store 26 (.tmp 14) (.tmp 37), none⟩,
    ⟨some 15, .assign (.tmp 38), none⟩]
@[reducible] def q3_4 : SCode := .region [⟨some 39, .move (.tmp 0), none⟩,
    ⟨some 40, .move (.tmp 1), none⟩,
    ⟨some 41, .call { callee := .value (.func 20), args := #[.tmp 39, .tmp 40], argTypes := #[3, 22] }, none⟩,
    ⟨some 42, .unOp .not 4 (.tmp 41), none⟩]
@[reducible] def q3_5 : SCode := .region [⟨some 43, .move (.tmp 11), none⟩,
    ⟨some 44, .binOp .eql 27 (.tmp 43) (.const (.int .i64 2)) 27, none⟩,
    ⟨some 45, .move (.tmp 44), none⟩,
    ⟨some 46, .call { callee := .value (.func 21), args := #[], argTypes := #[] }, some (45, true)⟩,
    ⟨some 47, .pick (.tmp 45) (.tmp 46) (.const (.bool false)), none⟩,
    ⟨some 8, .assign (.tmp 47), none⟩]
@[reducible] def q3_6 : SCode := .region [⟨some 48, .move (.tmp 11), none⟩,
    ⟨some 49, .binOp .neq 27 (.tmp 48) (.const (.int .i64 0)) 27, none⟩,
    ⟨some 50, .move (.tmp 49), none⟩,
    ⟨some 51, .move (.tmp 15), some (50, false)⟩,
    ⟨some 52, .binOp .neq 27 (.tmp 51) (.const (.int .i64 0)) 27, some (50, false)⟩,
    ⟨some 53, .pick (.tmp 50) (.const (.bool true)) (.tmp 52), none⟩,
    ⟨some 54, .move (.tmp 53), none⟩,
    ⟨some 55, .move (.tmp 0), some (54, false)⟩,
    ⟨some 56, .move (.tmp 12), some (54, false)⟩,
    ⟨some 57, .call { callee := .value (.func 20), args := #[.tmp 55, .tmp 56], argTypes := #[3, 22] }, some (54, false)⟩,
    ⟨some 58, .unOp .not 4 (.tmp 57), some (54, false)⟩,
    ⟨some 59, .pick (.tmp 54) (.const (.bool true)) (.tmp 58), none⟩]
@[reducible] def q3_7 : SCode := .region [⟨some 60, .move (.tmp 11), none⟩,
    ⟨some 61, .binOp .eql 27 (.tmp 60) (.const (.int .i64 0)) 27, none⟩,
    ⟨some 62, .move (.tmp 61), none⟩,
    ⟨some 63, .move (.tmp 11), some (62, false)⟩,
    ⟨some 64, .binOp .eql 27 (.tmp 63) (.const (.int .i64 2)) 27, some (62, false)⟩,
    ⟨some 65, .pick (.tmp 62) (.const (.bool true)) (.tmp 64), none⟩,
    ⟨some 66, .move (.tmp 65), none⟩,
    ⟨some 67, .move (.tmp 11), some (66, false)⟩,
    ⟨some 68, .binOp .eql 27 (.tmp 67) (.const (.int .i64 5)) 27, some (66, false)⟩,
    ⟨some 69, .pick (.tmp 66) (.const (.bool true)) (.tmp 68), none⟩,
    ⟨some 70, .move (.tmp 69), none⟩,
    ⟨some 71, .move (.tmp 15), some (70, true)⟩,
    ⟨some 72, .binOp .eql 27 (.tmp 71) (.const (.int .i64 2)) 27, some (70, true)⟩,
    ⟨some 73, .move (.tmp 72), some (70, true)⟩,
    ⟨some 74, .move (.tmp 15), some (73, false)⟩,
    ⟨some 75, .binOp .eql 27 (.tmp 74) (.const (.int .i64 5)) 27, some (73, false)⟩,
    ⟨some 76, .pick (.tmp 73) (.const (.bool true)) (.tmp 75), some (70, true)⟩,
    ⟨some 77, .pick (.tmp 70) (.tmp 76) (.const (.bool false)), none⟩,
    ⟨some 78, .move (.tmp 77), none⟩,
    ⟨some 79, .call { callee := .value (.func 21), args := #[], argTypes := #[] }, some (78, true)⟩,
    ⟨some 80, .pick (.tmp 78) (.tmp 79) (.const (.bool false)), none⟩,
    ⟨some 8, .assign (.tmp 80), none⟩]
@[reducible] def q3_8 : SCode := .region [⟨some 81, .load 26 (.tmp 9), none⟩,
    ⟨some 82, .call { callee := .value (.func 22), args := #[.tmp 81], argTypes := #[26] }, none⟩,
    ⟨some 83, .move (.tmp 82), none⟩,
    ⟨some 84, .load 26 (.tmp 10), some (83, true)⟩,
    ⟨some 85, .call { callee := .value (.func 22), args := #[.tmp 84], argTypes := #[26] }, some (83, true)⟩,
    ⟨some 86, .pick (.tmp 83) (.tmp 85) (.const (.bool false)), none⟩,
    ⟨some 87, .move (.tmp 86), none⟩,
    ⟨some 88, .load 26 (.tmp 13), some (87, true)⟩,
    ⟨some 89, .call { callee := .value (.func 22), args := #[.tmp 88], argTypes := #[26] }, some (87, true)⟩,
    ⟨some 90, .pick (.tmp 87) (.tmp 89) (.const (.bool false)), none⟩,
    ⟨some 91, .move (.tmp 90), none⟩,
    ⟨some 92, .load 26 (.tmp 14), some (91, true)⟩,
    ⟨some 93, .call { callee := .value (.func 22), args := #[.tmp 92], argTypes := #[26] }, some (91, true)⟩,
    ⟨some 94, .pick (.tmp 91) (.tmp 93) (.const (.bool false)), none⟩,
    ⟨some 95, .move (.tmp 94), none⟩,
    ⟨some 96, .load 26 (.tmp 13), some (95, true)⟩,
    ⟨some 97, .load 26 (.tmp 9), some (95, true)⟩,
    ⟨some 98, .call { callee := .value (.func 23), args := #[.tmp 96, .tmp 97], argTypes := #[26, 26] }, some (95, true)⟩,
    ⟨some 99, .unOp .not 4 (.tmp 98), some (95, true)⟩,
    ⟨some 100, .pick (.tmp 95) (.tmp 99) (.const (.bool false)), none⟩,
    ⟨some 101, .move (.tmp 100), none⟩,
    ⟨some 102, .load 26 (.tmp 10), some (101, true)⟩,
    ⟨some 103, .load 26 (.tmp 14), some (101, true)⟩,
    ⟨some 104, .call { callee := .value (.func 23), args := #[.tmp 102, .tmp 103], argTypes := #[26, 26] }, some (101, true)⟩,
    ⟨some 105, .unOp .not 4 (.tmp 104), some (101, true)⟩,
    ⟨some 106, .pick (.tmp 101) (.tmp 105) (.const (.bool false)), none⟩,
    ⟨some 107, .move (.tmp 106), none⟩,
    ⟨some 108, .call { callee := .value (.func 21), args := #[], argTypes := #[] }, some (107, true)⟩,
    ⟨some 109, .pick (.tmp 107) (.tmp 108) (.const (.bool false)), none⟩,
    ⟨some 8, .assign (.tmp 109), none⟩]
def s3 : SCode := (.seq q3_0 (.seq q3_1 (.seq q3_2 (.seq q3_3 (.seq (.seq q3_4 (.cond (.tmp 42) (.seq q3_5 .ret) .skip)) (.seq (.seq q3_6 (.cond (.tmp 59) (.seq q3_7 .ret) .skip)) (.seq q3_8 .ret)))))))
/-! 4: planchet planchetlaw09.BetsBounds -/
@[reducible] def q4_0 : SCode := .region [⟨some 6, .assign (.const (.bool false)), none⟩]
@[reducible] def q4_1 : SCode := .region [⟨some 15, .move (.tmp 0), none⟩,
    ⟨some 16, .move (.tmp 1), none⟩,
    ⟨some 17, .call { callee := .value (.func 18), args := #[.tmp 16], argTypes := #[22] }, none⟩,
    ⟨some 18, .move (.tmp 2), none⟩,
    ⟨some 19, .call { callee := .value (.func 17), args := #[.tmp 15, .tmp 17, .tmp 18], argTypes := #[3, 30, 3] }, none⟩,
    ⟨some 14, .move (.tmp 19), none⟩,
    ⟨some 20, .extract (.tmp 14) 0, none⟩,
    ⟨some 21, .extract (.tmp 14) 1, none⟩,
    ⟨some 22, .extract (.tmp 14) 2, none⟩,
    ⟨some 7, .alloc 26, none⟩,
    ⟨some 8, .alloc 26, none⟩,
    ⟨none, .store 26 (.tmp 7) (.tmp 20), none⟩,
    ⟨none, .store 26 (.tmp 8) (.tmp 21), none⟩,
    ⟨some 9, .assign (.tmp 22), none⟩]
@[reducible] def q4_2 : SCode := .region [⟨some 24, .move (.tmp 0), none⟩,
    ⟨some 25, .move (.tmp 1), none⟩,
    ⟨some 26, .call { callee := .value (.func 18), args := #[.tmp 25], argTypes := #[22] }, none⟩,
    ⟨some 27, .move (.tmp 2), none⟩,
    ⟨some 28, .call { callee := .value (.func 24), args := #[.tmp 24, .tmp 26, .tmp 27], argTypes := #[3, 30, 3] }, none⟩,
    ⟨some 23, .move (.tmp 28), none⟩,
    ⟨some 29, .extract (.tmp 23) 0, none⟩,
    ⟨some 30, .extract (.tmp 23) 1, none⟩,
    ⟨some 10, .assign (.tmp 29), none⟩,
    ⟨some 11, .assign (.tmp 30), none⟩]
@[reducible] def q4_3 : SCode := .region [⟨some 31, .move (.tmp 0), none⟩,
    ⟨some 32, .move (.tmp 1), none⟩,
    ⟨some 33, .call { callee := .value (.func 20), args := #[.tmp 31, .tmp 32], argTypes := #[3, 22] }, none⟩,
    ⟨some 34, .unOp .not 4 (.tmp 33), none⟩,
    ⟨some 35, .move (.tmp 34), none⟩,
    ⟨some 36, .move (.tmp 0), some (35, false)⟩,
    ⟨some 37, .move (.tmp 2), some (35, false)⟩,
    ⟨some 38, .call { callee := .value (.func 25), args := #[.tmp 36, .tmp 37], argTypes := #[3, 3] }, some (35, false)⟩,
    ⟨some 39, .unOp .not 4 (.tmp 38), some (35, false)⟩,
    ⟨some 40, .pick (.tmp 35) (.const (.bool true)) (.tmp 39), none⟩]
@[reducible] def q4_4 : SCode := .region [⟨some 41, .load 26 (.tmp 7), none⟩,
    ⟨some 42, .call { callee := .value (.func 26), args := #[.tmp 41], argTypes := #[26] }, none⟩,
    ⟨some 43, .move (.tmp 42), none⟩,
    ⟨some 44, .load 26 (.tmp 8), some (43, true)⟩,
    ⟨some 45, .call { callee := .value (.func 26), args := #[.tmp 44], argTypes := #[26] }, some (43, true)⟩,
    ⟨some 46, .pick (.tmp 43) (.tmp 45) (.const (.bool false)), none⟩,
    ⟨some 47, .move (.tmp 46), none⟩,
    ⟨some 48, .move (.tmp 10), some (47, true)⟩,
    ⟨some 49, .call { callee := .builtin .len, args := #[.tmp 48], argTypes := #[38] }, some (47, true)⟩,
    ⟨some 50, .binOp .eql 3 (.tmp 49) (.const (.int .i64 0)) 3, some (47, true)⟩,
    ⟨some 51, .pick (.tmp 47) (.tmp 50) (.const (.bool false)), none⟩,
    ⟨some 52, .move (.tmp 51), none⟩,
    ⟨some 53, .move (.tmp 9), some (52, true)⟩,
    ⟨some 54, .binOp .eql 27 (.tmp 53) (.const (.int .i64 2)) 27, some (52, true)⟩,
    ⟨some 55, .pick (.tmp 52) (.tmp 54) (.const (.bool false)), none⟩,
    ⟨some 56, .move (.tmp 55), none⟩,
    ⟨some 57, .move (.tmp 11), some (56, true)⟩,
    ⟨some 58, .binOp .eql 27 (.tmp 57) (.const (.int .i64 2)) 27, some (56, true)⟩,
    ⟨some 59, .pick (.tmp 56) (.tmp 58) (.const (.bool false)), none⟩,
    ⟨some 60, .move (.tmp 59), none⟩,
    ⟨some 61, .call { callee := .value (.func 21), args := #[], argTypes := #[] }, some (60, true)⟩,
    ⟨some 62, .pick (.tmp 60) (.tmp 61) (.const (.bool false)), none⟩,
    ⟨some 6, .assign (.tmp 62), none⟩]
@[reducible] def q4_5 : SCode := .region [⟨some 63, .move (.tmp 0), none⟩,
    ⟨some 64, .move (.tmp 1), none⟩,
    ⟨some 65, .call { callee := .value (.func 27), args := #[.tmp 63, .tmp 64], argTypes := #[3, 22] }, none⟩,
    ⟨some 66, .unOp .not 4 (.tmp 65), none⟩]
@[reducible] def q4_6 : SCode := .region [⟨some 67, .load 26 (.tmp 7), none⟩,
    ⟨some 68, .call { callee := .value (.func 26), args := #[.tmp 67], argTypes := #[26] }, none⟩,
    ⟨some 69, .move (.tmp 68), none⟩,
    ⟨some 70, .load 26 (.tmp 8), some (69, true)⟩,
    ⟨some 71, .call { callee := .value (.func 26), args := #[.tmp 70], argTypes := #[26] }, some (69, true)⟩,
    ⟨some 72, .pick (.tmp 69) (.tmp 71) (.const (.bool false)), none⟩,
    ⟨some 73, .move (.tmp 72), none⟩,
    ⟨some 74, .move (.tmp 10), some (73, true)⟩,
    ⟨some 75, .call { callee := .builtin .len, args := #[.tmp 74], argTypes := #[38] }, some (73, true)⟩,
    ⟨some 76, .binOp .eql 3 (.tmp 75) (.const (.int .i64 0)) 3, some (73, true)⟩,
    ⟨some 77, .pick (.tmp 73) (.tmp 76) (.const (.bool false)), none⟩,
    ⟨some 78, .move (.tmp 77), none⟩,
    ⟨some 79, .move (.tmp 9), some (78, true)⟩,
    ⟨some 80, .binOp .eql 27 (.tmp 79) (.const (.int .i64 5)) 27, some (78, true)⟩,
    ⟨some 81, .pick (.tmp 78) (.tmp 80) (.const (.bool false)), none⟩,
    ⟨some 82, .move (.tmp 81), none⟩,
    ⟨some 83, .move (.tmp 11), some (82, true)⟩,
    ⟨some 84, .binOp .eql 27 (.tmp 83) (.const (.int .i64 5)) 27, some (82, true)⟩,
    ⟨some 85, .pick (.tmp 82) (.tmp 84) (.const (.bool false)), none⟩,
    ⟨some 86, .move (.tmp 85), none⟩,
    ⟨some 87, .call { callee := .value (.func 21), args := #[], argTypes := #[] }, some (86, true)⟩,
    ⟨some 88, .pick (.tmp 86) (.tmp 87) (.const (.bool false)), none⟩,
    ⟨some 6, .assign (.tmp 88), none⟩]
@[reducible] def q4_7 : SCode := .region [⟨some 90, .move (.tmp 0), none⟩,
    ⟨some 91, .move (.tmp 1), none⟩,
    ⟨some 92, .move (.tmp 2), none⟩,
    ⟨some 93, .call { callee := .value (.func 28), args := #[.tmp 90, .tmp 91, .tmp 92], argTypes := #[3, 22, 3] }, none⟩,
    ⟨some 89, .move (.tmp 93), none⟩,
    ⟨some 94, .extract (.tmp 89) 0, none⟩,
    ⟨some 95, .extract (.tmp 89) 1, none⟩,
    ⟨some 12, .alloc 26, none⟩,
    ⟨some 13, .alloc 26, none⟩,
    ⟨none, .store 26 (.tmp 12) (.tmp 94), none⟩,
    ⟨none, .store 26 (.tmp 13) (.tmp 95), none⟩]
@[reducible] def q4_8 : SCode := .region [⟨some 96, .load 26 (.tmp 7), none⟩,
    ⟨some 97, .load 26 (.tmp 12), none⟩,
    ⟨some 98, .binOp .eql 26 (.tmp 96) (.tmp 97) 26, none⟩,
    ⟨some 99, .move (.tmp 98), none⟩,
    ⟨some 100, .load 26 (.tmp 8), some (99, true)⟩,
    ⟨some 101, .load 26 (.tmp 13), some (99, true)⟩,
    ⟨some 102, .binOp .eql 26 (.tmp 100) (.tmp 101) 26, some (99, true)⟩,
    ⟨some 103, .pick (.tmp 99) (.tmp 102) (.const (.bool false)), none⟩,
    ⟨some 104, .move (.tmp 103), none⟩,
    ⟨some 105, .move (.tmp 9), some (104, true)⟩,
    ⟨some 106, .binOp .eql 27 (.tmp 105) (.const (.int .i64 0)) 27, some (104, true)⟩,
    ⟨some 107, .pick (.tmp 104) (.tmp 106) (.const (.bool false)), none⟩,
    ⟨some 108, .move (.tmp 107), none⟩,
    ⟨some 109, .move (.tmp 10), some (108, true)⟩,
    ⟨some 110, .move (.tmp 0), some (108, true)⟩,
    ⟨some 111, .move (.tmp 1), some (108, true)⟩,
    ⟨some 112, .move (.tmp 2), some (108, true)⟩,
    ⟨some 113, .call { callee := .value (.func 30), args := #[.tmp 110, .tmp 111, .tmp 112], argTypes := #[3, 22, 3] }, some (108, true)⟩,
    ⟨some 114, .call { callee := .value (.func 29), args := #[.tmp 109, .tmp 113], argTypes := #[38, 38] }, some (108, true)⟩,
    ⟨some 115, .pick (.tmp 108) (.tmp 114) (.const (.bool false)), none⟩,
    ⟨some 116, .move (.tmp 115), none⟩,
    ⟨some 117, .move (.tmp 11), some (116, true)⟩,
    ⟨some 118, .binOp .eql 27 (.tmp 117) (.const (.int .i64 0)) 27, some (116, true)⟩,
    ⟨some 119, .pick (.tmp 116) (.tmp 118) (.const (.bool false)), none⟩,
    ⟨some 120, .move (.tmp 119), none⟩,
    ⟨some 121, .call { callee := .value (.func 21), args := #[], argTypes := #[] }, some (120, true)⟩,
    ⟨some 122, .pick (.tmp 120) (.tmp 121) (.const (.bool false)), none⟩,
    ⟨some 6, .assign (.tmp 122), none⟩]
def s4 : SCode := (.seq q4_0 (.seq q4_1 (.seq q4_2 (.seq (.seq q4_3 (.cond (.tmp 40) (.seq q4_4 .ret) .skip)) (.seq (.seq q4_5 (.cond (.tmp 66) (.seq q4_6 .ret) .skip)) (.seq q4_7 (.seq q4_8 .ret)))))))
/-! 12: planchet planchetlaw09.BetsBeats -/
@[reducible] def q12_0 : SCode := .region [⟨some 5, .box 75 (.tmp 2), none⟩,
    ⟨some 6, .assign (.const (.bool false)), none⟩]
@[reducible] def q12_1 : SCode := .region [⟨some 12, .move (.tmp 0), none⟩,
    ⟨some 13, .move (.tmp 1), none⟩,
    ⟨some 14, .call { callee := .value (.func 18), args := #[.tmp 13], argTypes := #[22] }, none⟩,
    ⟨some 15, .call { callee := .value (.func 50), args := #[.tmp 12, .tmp 14], argTypes := #[3, 30] }, none⟩,
    ⟨some 11, .move (.tmp 15), none⟩,
    ⟨some 16, .extract (.tmp 11) 0, none⟩,
    ⟨some 17, .extract (.tmp 11) 1, none⟩,
    ⟨some 7, .alloc 76, none⟩,
    ⟨none, .store 76 (.tmp 7) (.tmp 16), none⟩,
    ⟨some 8, .assign (.tmp 17), none⟩]
def q12_2 : SCode := .draw [⟨some 19, .move (.tmp 0), none⟩,
    ⟨some 20, .move (.tmp 1), none⟩,
    ⟨some 21, .call { callee := .value (.func 18), args := #[.tmp 20], argTypes := #[22] }, none⟩,
    ⟨some 22, .load 75 (.tmp 5), none⟩,
    ⟨some 23, .call { callee := .value (.func 52), args := #[.tmp 22], argTypes := #[75] }, none⟩,
    ⟨some 24, .call { callee := .value (.func 51), args := #[.tmp 19, .tmp 21, .tmp 23], argTypes := #[3, 30, 76] }, none⟩,
    ⟨some 18, .move (.tmp 24), none⟩,
    ⟨some 25, .extract (.tmp 18) 0, none⟩,
    ⟨some 26, .extract (.tmp 18) 1, none⟩,
    ⟨some 9, .assign (.tmp 25), none⟩,
    ⟨some 10, .assign (.tmp 26), none⟩]
   [[], [], [1], [], [3, 2], [0, 2, 4, 4], [5], [6], [6], [7, 5, 0, 1, 2, 3, 4, 5, 6, 7], [8, 9, 0, 1, 2, 3, 4, 5, 6, 7, 8, 9]]
@[reducible] def q12_3 : SCode := .region [⟨some 27, .move (.tmp 0), none⟩,
    ⟨some 28, .move (.tmp 1), none⟩,
    ⟨some 29, .call { callee := .value (.func 20), args := #[.tmp 27, .tmp 28], argTypes := #[3, 22] }, none⟩,
    ⟨some 30, .unOp .not 4 (.tmp 29), none⟩]
@[reducible] def q12_4 : SCode := .region [⟨some 31, .fieldAddr 76 (.tmp 7) 0, none⟩,
    ⟨some 32, .load 38 (.tmp 31), none⟩,
    ⟨some 33, .call { callee := .builtin .len, args := #[.tmp 32], argTypes := #[38] }, none⟩,
    ⟨some 34, .binOp .eql 3 (.tmp 33) (.const (.int .i64 0)) 3, none⟩,
    ⟨some 35, .move (.tmp 34), none⟩,
    ⟨some 36, .move (.tmp 9), some (35, true)⟩,
    ⟨some 37, .unOp .not 4 (.tmp 36), some (35, true)⟩,
    ⟨some 38, .pick (.tmp 35) (.tmp 37) (.const (.bool false)), none⟩,
    ⟨some 39, .move (.tmp 38), none⟩,
    ⟨some 40, .move (.tmp 8), some (39, true)⟩,
    ⟨some 41, .binOp .eql 27 (.tmp 40) (.const (.int .i64 2)) 27, some (39, true)⟩,
    ⟨some 42, .pick (.tmp 39) (.tmp 41) (.const (.bool false)), none⟩,
    ⟨some 43, .move (.tmp 42), none⟩,
    ⟨some 44, .move (.tmp 10), some (43, true)⟩,
    ⟨some 45, .binOp .eql 27 (.tmp 44) (.const (.int .i64 2)) 27, some (43, true)⟩,
    ⟨some 46, .pick (.tmp 43) (.tmp 45) (.const (.bool false)), none⟩,
    ⟨some 47, .move (.tmp 46), none⟩,
    ⟨some 48, .call { callee := .value (.func 21), args := #[], argTypes := #[] }, some (47, true)⟩,
    ⟨some 49, .pick (.tmp 47) (.tmp 48) (.const (.bool false)), none⟩,
    ⟨some 6, .assign (.tmp 49), none⟩]
@[reducible] def q12_5 : SCode := .region [⟨some 50, .move (.tmp 0), none⟩,
    ⟨some 51, .move (.tmp 1), none⟩,
    ⟨some 52, .call { callee := .value (.func 27), args := #[.tmp 50, .tmp 51], argTypes := #[3, 22] }, none⟩]
@[reducible] def q12_6 : SCode := .region [⟨some 53, .fieldAddr 76 (.tmp 7) 0, none⟩,
    ⟨some 54, .load 38 (.tmp 53), none⟩,
    ⟨some 55, .call { callee := .builtin .len, args := #[.tmp 54], argTypes := #[38] }, none⟩,
    ⟨some 56, .binOp .neq 3 (.tmp 55) (.const (.int .i64 0)) 3, none⟩,
    ⟨some 57, .move (.tmp 56), none⟩,
    ⟨some 58, .move (.tmp 8), some (57, false)⟩,
    ⟨some 59, .binOp .neq 27 (.tmp 58) (.const (.int .i64 4)) 27, some (57, false)⟩,
    ⟨some 60, .pick (.tmp 57) (.const (.bool true)) (.tmp 59), none⟩]
@[reducible] def q12_7 : SCode := .region [⟨some 6, .assign (.const (.bool false)), none⟩]
@[reducible] def q12_8 : SCode := .region [⟨some 61, .move (.tmp 8), none⟩,
    ⟨some 62, .binOp .neq 27 (.tmp 61) (.const (.int .i64 0)) 27, none⟩,
    ⟨some 63, .move (.tmp 62), none⟩,
    ⟨some 64, .move (.tmp 0), some (63, false)⟩,
    ⟨some 65, .move (.tmp 1), some (63, false)⟩,
    ⟨some 66, .load 76 (.tmp 7), some (63, false)⟩,
    ⟨some 67, .call { callee := .value (.func 54), args := #[.tmp 66], argTypes := #[76] }, some (63, false)⟩,
    ⟨some 68, .call { callee := .value (.func 53), args := #[.tmp 64, .tmp 65, .tmp 67], argTypes := #[3, 22, 75] }, some (63, false)⟩,
    ⟨some 69, .unOp .not 4 (.tmp 68), some (63, false)⟩,
    ⟨some 70, .pick (.tmp 63) (.const (.bool true)) (.tmp 69), none⟩]
@[reducible] def q12_9 : SCode := .region [⟨some 6, .assign (.const (.bool false)), none⟩]
@[reducible] def q12_10 : SCode := .region [⟨some 71, .move (.tmp 9), none⟩,
    ⟨some 72, .move (.tmp 0), none⟩,
    ⟨some 73, .move (.tmp 1), none⟩,
    ⟨some 74, .load 75 (.tmp 5), none⟩,
    ⟨some 75, .call { callee := .value (.func 53), args := #[.tmp 72, .tmp 73, .tmp 74], argTypes := #[3, 22, 75] }, none⟩,
    ⟨some 76, .binOp .eql 4 (.tmp 71) (.tmp 75) 4, none⟩,
    ⟨some 77, .move (.tmp 76), none⟩,
    ⟨some 78, .move (.tmp 10), some (77, true)⟩,
    ⟨some 79, .binOp .eql 27 (.tmp 78) (.const (.int .i64 0)) 27, some (77, true)⟩,
    ⟨some 80, .pick (.tmp 77) (.tmp 79) (.const (.bool false)), none⟩,
    ⟨some 81, .move (.tmp 80), none⟩,
    ⟨some 82, .call { callee := .value (.func 21), args := #[], argTypes := #[] }, some (81, true)⟩,
    ⟨some 83, .pick (.tmp 81) (.tmp 82) (.const (.bool false)), none⟩,
    ⟨some 6, .assign (.tmp 83), none⟩]
def s12 : SCode := (.seq q12_0 (.seq q12_1 (.seq q12_2 (.seq (.seq q12_3 (.cond (.tmp 30) (.seq q12_4 .ret) .skip)) (.seq (.seq q12_5 (.cond (.tmp 52) (.seq q12_6 (.cond (.tmp 60) (.seq q12_7 .ret) .skip)) (.seq q12_8 (.cond (.tmp 70) (.seq q12_9 .ret) .skip)))) (.seq q12_10 .ret))))))
theorem s12_strip : Yc (Zw Try.f12) = s12 := by kernel_rfl
theorem s12_ok : Yp 84 (Zw Try.f12) = true := by kernel_rfl
end Go.Proofs.Try.Am

namespace Go.Proofs.Try.Am
open Go.Am Bq
set_option maxRecDepth 100000
set_option maxHeartbeats 4000000

theorem valid_take (n : Int) (l : List (Int × Int)) : Xg n (l.take 9) = Xg n l := by
  by_cases h : l.length ≤ 9
  · rw [List.take_of_length_le h]
  · have h1 : (l.take 9).length = 9 := by rw [List.length_take]; omega
    rw [Xg, Xg, h1, show decide (9 ≤ 6) = false by decide, show decide (l.length ≤ 6) = false by simp; omega]
    simp
end Go.Proofs.Try.Am

namespace Go.Proofs.Try.Am
open Go.Am Bq
set_option maxRecDepth 100000
set_option maxHeartbeats 4000000

theorem beatIs_shape {n : Int} {l : List (Int × Int)} {h : Zh} {x : Value} {e : Int} (hb : BeatIs n l h x e) : ∃ p m c, x = .slice p m c := by
  rw [BeatIs] at hb
  split at hb
  · split at hb
    · obtain ⟨_, ss, _, _, _, hx⟩ := hb
      obtain ⟨p, m, c, h1, _⟩ := Wr hx
      exact ⟨p, m, c, h1⟩
    · exact ⟨_, _, _, hb.1⟩
  · exact ⟨_, _, _, hb.1⟩
theorem smB_of {ss : List Int} (hs : SmS ss) : smB ss = true := List.all_eq_true.2 fun s hm => by
  obtain ⟨i, hi, rfl⟩ := List.mem_iff_getElem.1 hm
  have := hs i
  rw [List.getD, List.getElem?_eq_getElem hi, Option.getD_some] at this
  simp only [Bool.and_eq_true, decide_eq_true_eq]
  omega
theorem btB_take {n : Nat} {l : List (Int × Int)} {ss : List Int} (hl : l.length ≤ 6) : btB n l (ss.take 9) = btB n l ss := by
  by_cases h : ss.length ≤ 9
  · rw [List.take_of_length_le h]
  · rw [btB, btB, List.length_take, decide_eq_false (show ¬ min 9 ss.length = l.length by omega), decide_eq_false (show ¬ ss.length = l.length by omega), Bool.false_and, Bool.false_and]
theorem beat_valid {k : Nat} {l : List (Int × Int)} {h : Zh} {x : Value} {e : Int} (hval : Xg k l = true) (hb : BeatIs (k : Int) l h x e) : (Xq k l = [] ∧ e = 0 ∧ ∃ ss, ss.length = l.length ∧ SmS ss ∧ Vq k l ss = true ∧ IntSl h x ss) ∨ (Xq k l ≠ [] ∧ x = .slice none 0 0 ∧ e = 4) := by
  rw [BeatIs, if_pos hval, Int.toNat_natCast] at hb
  by_cases hc : Xq k l = []
  · rw [if_pos hc] at hb; exact .inl ⟨hc, hb⟩
  · rw [if_neg hc] at hb; exact .inr ⟨hc, hb⟩

theorem s12_callW [Tabs Try.prog] {args : List Value} {h : Zh} {Q : Value → Zh → Prop} (hsz : args.length ≤ 84) (hk : AWS Try.prog 84 s12 (Zs Try.prog [.tmp 6] Q) (Zt 0 args) h) : ACall Try.prog 12 args h Q :=
  Ys Try.func12 rfl (enters_of Try.func12 (by kernel_rfl) rfl) rfl rfl (by decide) s12_strip s12_ok hsz hk
theorem law_beats [Tabs prog] {h : Zh} {v u : Value} {l : List (Int × Int)} {ss : List Int} (n : Int) (hv : PairSl h v l) (hl : l.length < 9223372036854775808) (hxl : InR l) (hu : IntSl h u ss) (hls : ss.length < 9223372036854775808) (hxs : ∀ x ∈ ss, -(2 ^ 63) ≤ x ∧ x < 2 ^ 63) :
    ACall prog 12 [Zc n, v, .agg #[u]] h fun r _ => r = .bool true := by
  obtain ⟨p, m, c, rfl, -⟩ := Wr hu
  obtain ⟨H0, hH0⟩ : ∃ H, H = h ++ [Blk.cells [.slice p m c] 75 false] := ⟨_, rfl⟩
  have hE0 : Ext (fun _ => False) h H0 := by rw [hH0]; exact Ext.app _ _ _
  have b5 : H0[h.length]? = some (.cells [.slice p m c] 75 false) := by rw [hH0]; exact Zz _ _
  have hbx : ∀ {K : Value → Zh → Prop}, boxK prog h 75 (.agg #[.slice p m c]) K = K (Yn h) H0 := fun {K} => by
    rw [hH0]; simp [boxK, esz_75, Yn, cellsOf]
  have ld75 : ∀ {z : Zh} {K : Value → Prop}, z[h.length]? = some (.cells [.slice p m c] 75 false) → Xj prog z 75 (.pointer (some ⟨h.length, 0, none⟩)) K = K (.agg #[.slice p m c]) := fun {z K} hz => loadA hz (by rw [shp_75]; rfl)
  refine s12_callW (by simp) ?_
  simp only [s12]
  refine Ze fun N1 hN1 => ?_
  simp (maxSteps := 2000000) only [↓Za, ↓Zb, ↓Zd, vup, cond_true, cond_false, aop, Zf, Zt, ev, sput, Zg, Nat.reduceBEq, Nat.reduceAdd, hbx, Yn]
  refine hN1 [(0, Zc n), (1, v), (5, .pointer (some ⟨h.length, 0, none⟩)), (6, .bool false)] _ _ ?_ (by simp (maxSteps := 2000000) only [vup, cond_true, cond_false, Nat.reduceBEq])
  clear hN1
  try clear N1
  refine Ze fun N2 hN2 => ?_
  simp (maxSteps := 2000000) only [↓Za, ↓Zb, ↓Zd, vup, List.map_cons, List.map_nil, cond_true, cond_false, aop, Zf, ev, sput, Zg, Nat.reduceBEq, Yy, List.nil_append, List.append_nil]
  refine (of_copy (hv.ext hE0) hl).mono ?_
  rintro u1 h1 ⟨hu1, hE1⟩
  refine (beat_call (n := n) hu1 (by rw [List.length_take]; omega)).mono ?_
  rintro _ h2 ⟨hE2, x, e, rfl, his⟩
  obtain ⟨px, mx, cx, rfl⟩ := beatIs_shape his
  obtain ⟨H2, hH2⟩ : ∃ H, H = h2 ++ [Blk.cells [.slice px mx cx] 76 false] := ⟨_, rfl⟩
  have hEH2 : Ext (fun _ => False) h2 H2 := by rw [hH2]; exact Ext.app _ _ _
  have b7 : H2[h2.length]? = some (.cells [.slice px mx cx] 76 false) := by rw [hH2]; exact Zz _ _
  simp (maxSteps := 2000000) only [Ui, Uj, tyf, Xo, Yn, storeK1 (Zz h2 (.cells [.slice none 0 0] 76 false)) rfl, Wi]
  rw [← hH2]
  refine hN2 [(0, Zc n), (1, v), (5, .pointer (some ⟨h.length, 0, none⟩)), (6, .bool false), (7, .pointer (some ⟨h2.length, 0, none⟩)), (8, .int .i64 e)] _ _ ?_ (by simp (maxSteps := 2000000) only [vup, cond_true, cond_false, Nat.reduceBEq])
  clear hN2
  try clear N2
  have hE02 := ((hE1.trans hE2).trans hEH2)
  have c5 := (hE02.2 _ (Yg b5) id).trans b5
  have hv2 := (hv.ext hE0).ext hE02
  have hu2 := iExt (iExt hu hE0) hE02
  obtain ⟨u3, g3, hof, hu3⟩ := of_det hv2 hl
  have hE3 : Ext (fun _ => False) H2 (H2 ++ g3) := Ext.app _ _ _
  obtain ⟨h3, hh3⟩ : ∃ z, z = H2 ++ g3 := ⟨_, rfl⟩
  rw [← hh3] at hof hu3 hE3
  have d5 := (hE3.2 _ (Yg c5) id).trans c5
  refine Ze fun N3 hN3 => ?_
  simp only [q12_2]
  refine aw_drawR (fun z => z[h.length]? = some (.cells [.slice p m c] 75 false)) [(3, 5), (4, 4), (5, 4)] (by kernel_rfl) (by kernel_rfl) (by kernel_rfl) (by kernel_rfl) c5 ?_
  try simp (maxSteps := 2000000) only [↓Uh, ↓vdn, vup, List.map_cons, List.map_nil, cond_true, cond_false, aop, Zf, ev, sput, Zg, Nat.reduceBEq, Nat.reduceAdd, Nat.reduceLT, Bool.false_or, Bool.true_or, Yy, List.nil_append, List.append_nil]
  refine ⟨_, _, hof, by exact d5, ?_⟩
  try simp (maxSteps := 2000000) only [s12, ↓Za, ↓Zr, ↓Zu, ↓aw_block, ↓Ym, ↓Zx, ↓Zb, ↓Zd, ↓dops_nil, ↓Yt, ↓Uh, ↓vdn, vup, Ui, Uj, extr_30, extr_31, extr_32, List.map_cons, List.map_nil, cond_true, cond_false, aop, Zf, Zp, Zt, ev, sput, Zg, Yb, Ye, unK, Zk, pickK, Nat.reduceBEq, Nat.reduceAdd, Int.reduceBEq, Int.reduceBNe, Int.reduceLT, Zs, Wc, tup, tyf, Nat.reduceLT, Bool.false_or, Bool.true_or, Yy, List.nil_append, List.append_nil, List.toList_toArray, List.cons_append]
  refine ⟨.agg #[.slice p m c], fun z hz => by simp only [ld75 hz], ?_⟩
  try simp (maxSteps := 2000000) only [s12, ↓Za, ↓Zr, ↓Zu, ↓aw_block, ↓Ym, ↓Zx, ↓Zb, ↓Zd, ↓dops_nil, ↓Yt, ↓Uh, ↓vdn, vup, Ui, Uj, extr_30, extr_31, extr_32, List.map_cons, List.map_nil, cond_true, cond_false, aop, Zf, Zp, Zt, ev, sput, Zg, Yb, Ye, unK, Zk, pickK, Nat.reduceBEq, Nat.reduceAdd, Int.reduceBEq, Int.reduceBNe, Int.reduceLT, Zs, Wc, tup, tyf, Nat.reduceLT, Bool.false_or, Bool.true_or, Yy, List.nil_append, List.append_nil, List.toList_toArray, List.cons_append]
  refine (book_call (iExt hu2 hE3)).mono ?_
  rintro _ h4 ⟨hE4, u4, rfl, hu4⟩
  refine ⟨(hE4.2 _ (Yg d5) id).trans d5, ?_⟩
  try simp (maxSteps := 2000000) only [s12, ↓Za, ↓Zr, ↓Zu, ↓aw_block, ↓Ym, ↓Zx, ↓Zb, ↓Zd, ↓dops_nil, ↓Yt, ↓Uh, ↓vdn, vup, Ui, Uj, extr_30, extr_31, extr_32, List.map_cons, List.map_nil, cond_true, cond_false, aop, Zf, Zp, Zt, ev, sput, Zg, Yb, Ye, unK, Zk, pickK, Nat.reduceBEq, Nat.reduceAdd, Int.reduceBEq, Int.reduceBNe, Int.reduceLT, Zs, Wc, tup, tyf, Nat.reduceLT, Bool.false_or, Bool.true_or, Yy, List.nil_append, List.append_nil, List.toList_toArray, List.cons_append]
  refine (progBeats_call (n := n) (hu3.ext hE4) (by rw [List.length_take]; omega) hu4 (by rw [List.length_take]; omega)).mono ?_
  rintro _ H ⟨hE5, hr⟩
  refine ⟨(hE5.2 _ (Yg ((hE4.2 _ (Yg d5) id).trans d5)) id).trans ((hE4.2 _ (Yg d5) id).trans d5), ?_⟩
  have hEx : Ext (fun _ => False) H2 H := (hE3.trans hE4).trans hE5
  have hvH := hv2.ext hEx
  have huH := iExt hu2 hEx
  have b5H := (hEx.2 _ (Yg c5) id).trans c5
  have b7H := (hEx.2 _ (Yg b7) id).trans b7
  rw [valid_take] at hr
  have e00 : ((0 : Int) != 0) = false := rfl
  have z00 : ((0 : Int) == 0) = true := rfl
  have e22 : ((2 : Int) == 2) = true := rfl
  have e44 : ((4 : Int) != 4) = false := rfl
  have l0 : (((0 : Nat) : Int) == 0) = true := rfl
  have l0' : (((0 : Nat) : Int) != 0) = false := rfl
  have f7 : ∀ {K : Value → Prop}, Yh prog 76 (.pointer (some ⟨h2.length, 0, none⟩)) 0 K = K (.pointer (some ⟨h2.length, 0, none⟩)) := fun {K} => fldA fld_76_0 esz_38
  cases hval : Xg n l with
  | false =>
    rw [hval, if_neg (by simp)] at hr
    rw [BeatIs, valid_take, hval, if_neg (by simp)] at his
    obtain ⟨hx, rfl⟩ := his
    rw [hr]
    cases hx
    have l7 : ∀ {K : Value → Prop}, Xj prog H 38 (.pointer (some ⟨h2.length, 0, none⟩)) K = K (.slice none 0 0) := fun {K} => loadC b7H Wv rfl
    try simp (maxSteps := 2000000) only [Ui, Uj]
    refine hN3 [(0, Zc n), (1, v), (5, .pointer (some ⟨h.length, 0, none⟩)), (6, .bool false), (7, .pointer (some ⟨h2.length, 0, none⟩)), (8, .int .i64 2), (9, .bool false), (10, .int .i64 2)] _ _ ?_ (by simp (maxSteps := 2000000) only [vup, cond_true, cond_false, Nat.reduceBEq])
    clear hN3
    try clear N3
    refine Zl fun M hM => ?_
    refine Ze fun N4 hN4 => ?_
    simp (maxSteps := 2000000) only [↓Za, ↓Zb, ↓Zd, vup, List.map_cons, List.map_nil, cond_true, cond_false, aop, Zf, ev, sput, Zg, unK, Nat.reduceBEq, Yy, List.nil_append, List.append_nil]
    refine (rbets_call hvH hl).mono ?_
    rintro _ H ⟨rfl, rfl⟩
    rw [hval]
    simp (maxSteps := 2000000) only [vup]
    refine hN4 [(0, Zc n), (1, v), (5, .pointer (some ⟨h.length, 0, none⟩)), (6, .bool false), (7, .pointer (some ⟨h2.length, 0, none⟩)), (8, .int .i64 2), (9, .bool false), (10, .int .i64 2), (30, .bool true)] _ _ ?_ (by simp (maxSteps := 2000000) only [vup, cond_true, cond_false, Nat.reduceBEq])
    clear hN4
    try clear N4
    refine Yu rfl ?_
    refine Ze fun N5 hN5 => ?_
    simp only [q12_4]
    refine Wz 8 fun N1 hN1 => ?_
    simp (maxSteps := 2000000) only [↓Za, ↓Zb, ↓Zd, ↓vdn, vup, List.map_cons, List.map_nil, cond_true, cond_false, aop, ev, sput, Zg, Yb, Ye, unK, Zk, Nat.reduceBEq, Int.reduceBEq, tyf, List.take_succ_cons, List.take_zero, f7, l7, lenK, l0]
    refine hN1 _ _ ?_
    clear hN1 N1
    simp only [List.drop_succ_cons, List.drop_zero]
    refine Wz 4 fun N1 hN1 => ?_
    simp (maxSteps := 2000000) only [↓Za, ↓Zb, ↓Zd, ↓vdn, vup, cond_true, cond_false, aop, ev, sput, Zg, Yb, Ye, Nat.reduceBEq, List.take_succ_cons, List.take_zero, e22]
    refine hN1 _ _ ?_
    clear hN1 N1
    simp only [List.drop_succ_cons, List.drop_zero]
    refine Wz 4 fun N1 hN1 => ?_
    simp (maxSteps := 2000000) only [↓Za, ↓Zb, ↓Zd, ↓vdn, vup, cond_true, cond_false, aop, ev, sput, Zg, Yb, Ye, Nat.reduceBEq, List.take_succ_cons, List.take_zero, e22]
    refine hN1 _ _ ?_
    clear hN1 N1
    simp only [List.drop_succ_cons, List.drop_zero]
    simp (maxSteps := 2000000) only [↓Za, ↓Zb, ↓Zd, ↓vdn, vup, List.map_nil, cond_true, cond_false, aop, Zf, ev, sput, Zg, Nat.reduceBEq, Yy, List.append_nil]
    refine (awake_call).mono ?_
    rintro _ H ⟨rfl, hE9⟩
    refine hN5 [(0, Zc n), (1, v), (5, .pointer (some ⟨h.length, 0, none⟩)), (6, .bool true), (7, .pointer (some ⟨h2.length, 0, none⟩)), (8, .int .i64 2), (9, .bool false), (10, .int .i64 2), (30, .bool true)] _ _ ?_ (by simp (maxSteps := 2000000) only [vup, cond_true, cond_false, Nat.reduceBEq])
    clear hN5
    try clear N5
    refine Zi ?_
    simp (maxSteps := 2000000) only [↓Zx, vup, cond_true, cond_false, Zf, Nat.reduceBEq, Zs, Wc, tup]
  | true =>
    obtain ⟨k, hk⟩ : ∃ k : Nat, n = k := ⟨n.toNat, by simp only [Xg, Bool.and_eq_true, decide_eq_true_eq] at hval; omega⟩
    subst hk
    obtain ⟨hn2, hn5, hl1, hl6, hok⟩ := Wg hval
    have t1 : l.take 9 = l := List.take_of_length_le (by omega)
    rw [hval, if_pos rfl, t1, Int.toNat_natCast, btB_take hl6] at hr
    rw [t1] at his
    have hbc := beat_valid hval his
    obtain ⟨A, hA⟩ : ∃ A, btB k l ss = A := ⟨_, rfl⟩
    rw [hA] at hr
    rw [hr]
    try simp (maxSteps := 2000000) only [Ui, Uj]
    refine hN3 [(0, Zc (k : Nat)), (1, v), (5, .pointer (some ⟨h.length, 0, none⟩)), (6, .bool false), (7, .pointer (some ⟨h2.length, 0, none⟩)), (8, .int .i64 e), (9, .bool A), (10, .int .i64 0)] _ _ ?_ (by simp (maxSteps := 2000000) only [vup, cond_true, cond_false, Nat.reduceBEq])
    clear hN3
    try clear N3
    clear hr his
    refine Zl fun M hM => ?_
    refine Ze fun N6 hN6 => ?_
    simp (maxSteps := 2000000) only [↓Za, ↓Zb, ↓Zd, vup, List.map_cons, List.map_nil, cond_true, cond_false, aop, Zf, ev, sput, Zg, unK, Nat.reduceBEq, Yy, List.nil_append, List.append_nil]
    refine (rbets_call hvH hl).mono ?_
    rintro _ H ⟨rfl, rfl⟩
    rw [hval]
    simp (maxSteps := 2000000) only [vup]
    refine hN6 [(0, Zc (k : Nat)), (1, v), (5, .pointer (some ⟨h.length, 0, none⟩)), (6, .bool false), (7, .pointer (some ⟨h2.length, 0, none⟩)), (8, .int .i64 e), (9, .bool A), (10, .int .i64 0), (30, .bool false)] _ _ ?_ (by simp (maxSteps := 2000000) only [vup, cond_true, cond_false, Nat.reduceBEq])
    clear hN6
    try clear N6
    refine Yf rfl ?_
    refine Zi ?_
    simp (maxSteps := 2000000) only [↓Zr, Zf]
    refine hM [(0, Zc (k : Nat)), (1, v), (5, .pointer (some ⟨h.length, 0, none⟩)), (6, .bool false), (7, .pointer (some ⟨h2.length, 0, none⟩)), (8, .int .i64 e), (9, .bool A), (10, .int .i64 0)] _ _ ?_ (by simp (maxSteps := 2000000) only [vup, cond_true, cond_false, Nat.reduceBEq])
    clear hM
    try clear M
    refine Zl fun M hM => ?_
    have last : ∀ e' G, Ext (fun _ => False) H G → ELe e' [(0, Zc (k : Nat)), (1, v), (5, .pointer (some ⟨h.length, 0, none⟩)), (6, .bool false), (7, .pointer (some ⟨h2.length, 0, none⟩)), (9, .bool A), (10, .int .i64 0)] → M e' G := by
      intro e' G hEG he
      refine hM _ _ _ ?_ he
      have g5 := (hEG.2 _ (Yg b5H) id).trans b5H
      have rb := rbeats_call (h := G) (hvH.ext hEG) (iExt huH hEG) hval hls
      rw [hA] at rb
      have hBB : (A == A) = true := by simp
      refine Ze fun N7 hN7 => ?_
      simp only [q12_10]
      refine Wz 6 fun N1 hN1 => ?_
      simp (maxSteps := 2000000) only [↓Za, ↓Zb, ↓Zd, vup, List.map_cons, List.map_nil, cond_true, cond_false, aop, ev, sput, Zg, Yb, Ye, Nat.reduceBEq, tyf, Yy, List.nil_append, List.append_nil, List.take_succ_cons, List.take_zero, ld75 g5]
      refine (rb).mono ?_
      rintro _ G ⟨rfl, rfl⟩
      simp (maxSteps := 2000000) only [hBB]
      refine hN1 _ _ ?_
      clear hN1 N1
      simp only [List.drop_succ_cons, List.drop_zero]
      refine Wz 4 fun N1 hN1 => ?_
      simp (maxSteps := 2000000) only [↓Za, ↓Zb, ↓Zd, ↓vdn, vup, cond_true, cond_false, aop, ev, sput, Zg, Yb, Ye, Nat.reduceBEq, List.take_succ_cons, List.take_zero, z00]
      refine hN1 _ _ ?_
      clear hN1 N1
      simp only [List.drop_succ_cons, List.drop_zero]
      simp (maxSteps := 2000000) only [↓Za, ↓Zb, ↓Zd, ↓vdn, vup, List.map_nil, cond_true, cond_false, aop, Zf, ev, sput, Zg, Nat.reduceBEq, Yy, List.append_nil]
      refine (awake_call).mono ?_
      rintro _ G ⟨rfl, hE9⟩
      refine hN7 [(0, Zc (k : Nat)), (1, v), (5, .pointer (some ⟨h.length, 0, none⟩)), (6, .bool true), (7, .pointer (some ⟨h2.length, 0, none⟩)), (9, .bool A), (10, .int .i64 0)] _ _ ?_ (by simp (maxSteps := 2000000) only [vup, cond_true, cond_false, Nat.reduceBEq])
      clear hN7
      try clear N7
      refine Zi ?_
      simp (maxSteps := 2000000) only [↓Zx, vup, cond_true, cond_false, Nat.reduceBEq, Zs, Wc, tup]
    have rsc := rsound_call (h := H) hvH hval
    rcases hbc with ⟨hcs, rfl, ss', hsl, hsm, hbt, hx2⟩ | ⟨hcs, hx, rfl⟩
    · rw [hcs] at rsc
      refine Ze fun N8 hN8 => ?_
      simp (maxSteps := 2000000) only [↓Za, ↓Zb, ↓Zd, vup, List.map_cons, List.map_nil, cond_true, cond_false, aop, Zf, ev, sput, Zg, Nat.reduceBEq, Yy, List.nil_append, List.append_nil]
      refine (rsc).mono ?_
      rintro _ H ⟨rfl, rfl⟩
      simp (maxSteps := 2000000) only [vup, List.isEmpty_nil]
      refine hN8 [(0, Zc (k : Nat)), (1, v), (5, .pointer (some ⟨h.length, 0, none⟩)), (6, .bool false), (7, .pointer (some ⟨h2.length, 0, none⟩)), (8, .int .i64 0), (9, .bool A), (10, .int .i64 0), (52, .bool false)] _ _ ?_ (by simp (maxSteps := 2000000) only [vup, cond_true, cond_false, Nat.reduceBEq])
      clear hN8
      try clear N8
      refine Yf rfl ?_
      have hxH := iExt hx2 (hEH2.trans hEx)
      refine Ze fun N9 hN9 => ?_
      simp only [q12_8]
      refine Wz 3 fun N1 hN1 => ?_
      simp (maxSteps := 2000000) only [↓Za, ↓Zb, ↓Zd, vup, cond_true, cond_false, aop, ev, sput, Zg, Yb, Ye, Nat.reduceBEq, List.take_succ_cons, List.take_zero, e00]
      refine hN1 _ _ ?_
      clear hN1 N1
      simp only [List.drop_succ_cons, List.drop_zero]
      refine Wz 4 fun N1 hN1 => ?_
      simp (maxSteps := 2000000) only [↓Za, ↓Zb, ↓Zd, ↓vdn, vup, List.map_cons, List.map_nil, cond_true, cond_false, aop, ev, sput, Zg, Nat.reduceBEq, List.take_succ_cons, List.take_zero, loadK1 b7H, Yy, List.nil_append, List.append_nil]
      refine (own_call hxH).mono ?_
      rintro _ G ⟨hEG, rfl⟩
      refine hN1 _ _ ?_
      clear hN1 N1
      simp only [List.drop_succ_cons, List.drop_zero]
      have rb2 := rbeats_call (h := G) (hvH.ext hEG) (iExt hxH hEG) hval (by omega)
      have hb2 : btB k l ss' = true := by rw [btB, decide_eq_true hsl, smB_of hsm, hbt]; rfl
      rw [hb2] at rb2
      simp (maxSteps := 2000000) only [↓Za, ↓Zb, ↓Zd, ↓vdn, vup, List.map_cons, List.map_nil, cond_true, cond_false, aop, Zf, ev, sput, Zg, unK, Nat.reduceBEq, Yy, List.nil_append, List.append_nil]
      refine (rb2).mono ?_
      rintro _ G ⟨rfl, rfl⟩
      simp (maxSteps := 2000000) only [vup]
      refine hN9 [(0, Zc (k : Nat)), (1, v), (5, .pointer (some ⟨h.length, 0, none⟩)), (6, .bool false), (7, .pointer (some ⟨h2.length, 0, none⟩)), (8, .int .i64 0), (9, .bool A), (10, .int .i64 0), (52, .bool false), (70, .bool false)] _ _ ?_ (by simp (maxSteps := 2000000) only [vup, cond_true, cond_false, Nat.reduceBEq])
      clear hN9
      try clear N9
      refine Yf rfl ?_
      refine Zi ?_
      simp (maxSteps := 2000000) only [↓Zr, Zf]
      exact last _ G hEG (by simp (maxSteps := 2000000) only [vup, cond_true, cond_false, Nat.reduceBEq])
    · cases hx
      have hne : (Xq k l).isEmpty = false := by
        cases hcc : Xq k l with
        | nil => exact absurd hcc hcs
        | cons a b => rfl
      rw [hne] at rsc
      have l7 : ∀ {K : Value → Prop}, Xj prog H 38 (.pointer (some ⟨h2.length, 0, none⟩)) K = K (.slice none 0 0) := fun {K} => loadC b7H Wv rfl
      refine Ze fun N10 hN10 => ?_
      simp (maxSteps := 2000000) only [↓Za, ↓Zb, ↓Zd, vup, List.map_cons, List.map_nil, cond_true, cond_false, aop, Zf, ev, sput, Zg, Nat.reduceBEq, Yy, List.nil_append, List.append_nil]
      refine (rsc).mono ?_
      rintro _ H ⟨rfl, rfl⟩
      simp (maxSteps := 2000000) only [vup]
      refine hN10 [(0, Zc (k : Nat)), (1, v), (5, .pointer (some ⟨h.length, 0, none⟩)), (6, .bool false), (7, .pointer (some ⟨h2.length, 0, none⟩)), (8, .int .i64 4), (9, .bool A), (10, .int .i64 0), (52, .bool true)] _ _ ?_ (by simp (maxSteps := 2000000) only [vup, cond_true, cond_false, Nat.reduceBEq])
      clear hN10
      try clear N10
      refine Yu rfl ?_
      refine Ze fun N11 hN11 => ?_
      simp (maxSteps := 2000000) only [↓Za, ↓Zb, ↓Zd, ↓vdn, vup, List.map_cons, List.map_nil, cond_true, cond_false, aop, Zf, ev, sput, Zg, Yb, Ye, Zk, Nat.reduceBEq, Int.reduceBNe, tyf, f7, l7, lenK, l0', e44]
      refine hN11 [(0, Zc (k : Nat)), (1, v), (5, .pointer (some ⟨h.length, 0, none⟩)), (6, .bool false), (7, .pointer (some ⟨h2.length, 0, none⟩)), (8, .int .i64 4), (9, .bool A), (10, .int .i64 0), (52, .bool true), (60, .bool false)] _ _ ?_ (by simp (maxSteps := 2000000) only [vup, cond_true, cond_false, Nat.reduceBEq])
      clear hN11
      try clear N11
      refine Yf rfl ?_
      refine Zi ?_
      simp (maxSteps := 2000000) only [↓Zr, Zf]
      exact last _ H (Ext.refl _ _) (by simp (maxSteps := 2000000) only [vup, cond_true, cond_false, Nat.reduceBEq])
end Go.Proofs.Try.Am

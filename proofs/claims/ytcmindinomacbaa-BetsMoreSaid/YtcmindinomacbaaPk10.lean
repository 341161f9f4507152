/-
  Printed by gen.py: the code of some functions, without what no step looks at; held against the program's own by the kernel.
  bets: law Sound.
  bets: the bounds of an event.
  bets: bounds and prices.
  bets: bounds and prices, in the reference.
  bets: bets cloned and one more; small numbers told; the bounds and a belief.
  bets: law More.
-/
import Derived.Test.YtcmindinomacbaaPk3
import Derived.Test.YtcmindinomacbaaProg
import Derived.KernelRfl
import Derived.Shelf.Abstract
import Derived.Test.YtcmindinomacbaaPk9
import Derived.Test.YtcmindinomacbaaPk5
set_option linter.all false
namespace Go.Proofs.Try.Am
open Go.Am
set_option maxRecDepth 100000
/-! 3: planchet planchetlaw09.BetsMore -/
@[reducible] def q3_0 : SCode := .region [⟨some 6, .box 24 (.tmp 2), none⟩,
    ⟨some 8, .assign (.const (.bool false)), none⟩]
@[reducible] def q3_1 : SCode := .region [⟨some 17, .move (.tmp 0), none⟩,
    ⟨some 18, .move (.tmp 1), none⟩,
    ⟨some 19, .call { callee := .value (.func 18), args := #[.tmp 18], argTypes := #[22] }, none⟩,
    ⟨some 20, .move (.tmp 3), none⟩,
    ⟨some 21, .call { callee := .value (.func 17), args := #[.tmp 17, .tmp 19, .tmp 20], argTypes := #[3, 30, 3] }, none⟩,
    ⟨some 16, .move (.tmp 21), none⟩,
    ⟨some 22, .extract (.tmp 16) 0, none⟩,
    ⟨some 23, .extract (.tmp 16) 1, none⟩,
    ⟨some 24, .extract (.tmp 16) 2, none⟩,
    ⟨some 9, .alloc 26, none⟩,
    ⟨some 10, .alloc 26, none⟩,
    ⟨none, .store 26 (.tmp 9) (.tmp 22), none⟩,
    ⟨none, .store 26 (.tmp 10) (.tmp 23), none⟩,
    ⟨some 11, .assign (.tmp 24), none⟩]
def q3_2 : SCode := .draw [⟨some 25, .move (.tmp 1), none⟩,
    ⟨some 26, .call { callee := .value (.func 19), args := #[.tmp 25], argTypes := #[22] }, none⟩,
    ⟨some 27, .load 24 (.tmp 6), none⟩,
    ⟨some 28, .buildSlice 22 1 #[(0, .tmp 27)], none⟩,
    ⟨some 29, .call { callee := .builtin .append, args := #[.tmp 26, .tmp 28], argTypes := #[22, 22] }, none⟩,
    ⟨some 12, .assign (.tmp 29), none⟩]
   [[], [0], [], [2], [1, 3, 1], [4, 4, 0, 1, 2, 3, 4]]
@[reducible] def q3_3 : SCode := .region [⟨some 31, .move (.tmp 0), none⟩,
    ⟨some 32, .move (.tmp 12), none⟩,
    ⟨some 33, .call { callee := .value (.func 18), args := #[.tmp 32], argTypes := #[22] }, none⟩,
    ⟨some 34, .move (.tmp 3), none⟩,
    ⟨some 35, .call { callee := .value (.func 17), args := #[.tmp 31, .tmp 33, .tmp 34], argTypes := #[3, 30, 3] }, none⟩,
    ⟨some 30, .move (.tmp 35), none⟩,
    ⟨some 36, .extract (.tmp 30) 0, none⟩,
    ⟨some 37, .extract (.tmp 30) 1, none⟩,
    ⟨some 38, .extract (.tmp 30) 2, none⟩,
    ⟨some 13, .alloc 26, none⟩,
    ⟨some 14, .alloc 26, none⟩,
    ⟨none, .store 26 (.tmp 13) (.tmp 36), none⟩,
    ⟨none, .store 26 (.tmp 14) (.tmp 37), none⟩,
    ⟨some 15, .assign (.tmp 38), none⟩]
@[reducible] def q3_4 : SCode := .region [⟨some 39, .move (.tmp 0), none⟩,
    ⟨some 40, .move (.tmp 1), none⟩,
    ⟨some 41, .call { callee := .value (.func 20), args := #[.tmp 39, .tmp 40], argTypes := #[3, 22] }, none⟩,
    ⟨some 42, .unOp .not 4 (.tmp 41), none⟩]
@[reducible] def q3_5 : SCode := .region [⟨some 43, .move (.tmp 11), none⟩,
    ⟨some 44, .binOp .eql 27 (.tmp 43) (.const (.int .i64 2)) 27, none⟩,
    ⟨some 45, .move (.tmp 44), none⟩,
    ⟨some 46, .call { callee := .value (.func 21), args := #[], argTypes := #[] }, some (45, true)⟩,
    ⟨some 47, .pick (.tmp 45) (.tmp 46) (.const (.bool false)), none⟩,
    ⟨some 8, .assign (.tmp 47), none⟩]
@[reducible] def q3_6 : SCode := .region [⟨some 48, .move (.tmp 11), none⟩,
    ⟨some 49, .binOp .neq 27 (.tmp 48) (.const (.int .i64 0)) 27, none⟩,
    ⟨some 50, .move (.tmp 49), none⟩,
    ⟨some 51, .move (.tmp 15), some (50, false)⟩,
    ⟨some 52, .binOp .neq 27 (.tmp 51) (.const (.int .i64 0)) 27, some (50, false)⟩,
    ⟨some 53, .pick (.tmp 50) (.const (.bool true)) (.tmp 52), none⟩,
    ⟨some 54, .move (.tmp 53), none⟩,
    ⟨some 55, .move (.tmp 0), some (54, false)⟩,
    ⟨some 56, .move (.tmp 12), some (54, false)⟩,
    ⟨some 57, .call { callee := .value (.func 20), args := #[.tmp 55, .tmp 56], argTypes := #[3, 22] }, some (54, false)⟩,
    ⟨some 58, .unOp .not 4 (.tmp 57), some (54, false)⟩,
    ⟨some 59, .pick (.tmp 54) (.const (.bool true)) (.tmp 58), none⟩]
@[reducible] def q3_7 : SCode := .region [⟨some 60, .move (.tmp 11), none⟩,
    ⟨some 61, .binOp .eql 27 (.tmp 60) (.const (.int .i64 0)) 27, none⟩,
    ⟨some 62, .move (.tmp 61), none⟩,
    ⟨some 63, .move (.tmp 11), some (62, false)⟩,
    ⟨some 64, .binOp .eql 27 (.tmp 63) (.const (.int .i64 2)) 27, some (62, false)⟩,
    ⟨some 65, .pick (.tmp 62) (.const (.bool true)) (.tmp 64), none⟩,
    ⟨some 66, .move (.tmp 65), none⟩,
    ⟨some 67, .move (.tmp 11), some (66, false)⟩,
    ⟨some 68, .binOp .eql 27 (.tmp 67) (.const (.int .i64 5)) 27, some (66, false)⟩,
    ⟨some 69, .pick (.tmp 66) (.const (.bool true)) (.tmp 68), none⟩,
    ⟨some 70, .move (.tmp 69), none⟩,
    ⟨some 71, .move (.tmp 15), some (70, true)⟩,
    ⟨some 72, .binOp .eql 27 (.tmp 71) (.const (.int .i64 2)) 27, some (70, true)⟩,
    ⟨some 73, .move (.tmp 72), some (70, true)⟩,
    ⟨some 74, .move (.tmp 15), some (73, false)⟩,
    ⟨some 75, .binOp .eql 27 (.tmp 74) (.const (.int .i64 5)) 27, some (73, false)⟩,
    ⟨some 76, .pick (.tmp 73) (.const (.bool true)) (.tmp 75), some (70, true)⟩,
    ⟨some 77, .pick (.tmp 70) (.tmp 76) (.const (.bool false)), none⟩,
    ⟨some 78, .move (.tmp 77), none⟩,
    ⟨some 79, .call { callee := .value (.func 21), args := #[], argTypes := #[] }, some (78, true)⟩,
    ⟨some 80, .pick (.tmp 78) (.tmp 79) (.const (.bool false)), none⟩,
    ⟨some 8, .assign (.tmp 80), none⟩]
@[reducible] def q3_8 : SCode := .region [⟨some 81, .load 26 (.tmp 9), none⟩,
    ⟨some 82, .call { callee := .value (.func 22), args := #[.tmp 81], argTypes := #[26] }, none⟩,
    ⟨some 83, .move (.tmp 82), none⟩,
    ⟨some 84, .load 26 (.tmp 10), some (83, true)⟩,
    ⟨some 85, .call { callee := .value (.func 22), args := #[.tmp 84], argTypes := #[26] }, some (83, true)⟩,
    ⟨some 86, .pick (.tmp 83) (.tmp 85) (.const (.bool false)), none⟩,
    ⟨some 87, .move (.tmp 86), none⟩,
    ⟨some 88, .load 26 (.tmp 13), some (87, true)⟩,
    ⟨some 89, .call { callee := .value (.func 22), args := #[.tmp 88], argTypes := #[26] }, some (87, true)⟩,
    ⟨some 90, .pick (.tmp 87) (.tmp 89) (.const (.bool false)), none⟩,
    ⟨some 91, .move (.tmp 90), none⟩,
    ⟨some 92, .load 26 (.tmp 14), some (91, true)⟩,
    ⟨some 93, .call { callee := .value (.func 22), args := #[.tmp 92], argTypes := #[26] }, some (91, true)⟩,
    ⟨some 94, .pick (.tmp 91) (.tmp 93) (.const (.bool false)), none⟩,
    ⟨some 95, .move (.tmp 94), none⟩,
    ⟨some 96, .load 26 (.tmp 13), some (95, true)⟩,
    ⟨some 97, .load 26 (.tmp 9), some (95, true)⟩,
    ⟨some 98, .call { callee := .value (.func 23), args := #[.tmp 96, .tmp 97], argTypes := #[26, 26] }, some (95, true)⟩,
    ⟨some 99, .unOp .not 4 (.tmp 98), some (95, true)⟩,
    ⟨some 100, .pick (.tmp 95) (.tmp 99) (.const (.bool false)), none⟩,
    ⟨some 101, .move (.tmp 100), none⟩,
    ⟨some 102, .load 26 (.tmp 10), some (101, true)⟩,
    ⟨some 103, .load 26 (.tmp 14), some (101, true)⟩,
    ⟨some 104, .call { callee := .value (.func 23), args := #[.tmp 102, .tmp 103], argTypes := #[26, 26] }, some (101, true)⟩,
    ⟨some 105, .unOp .not 4 (.tmp 104), some (101, true)⟩,
    ⟨some 106, .pick (.tmp 101) (.tmp 105) (.const (.bool false)), none⟩,
    ⟨some 107, .move (.tmp 106), none⟩,
    ⟨some 108, .call { callee := .value (.func 21), args := #[], argTypes := #[] }, some (107, true)⟩,
    ⟨some 109, .pick (.tmp 107) (.tmp 108) (.const (.bool false)), none⟩,
    ⟨some 8, .assign (.tmp 109), none⟩]
def s3 : SCode := (.seq q3_0 (.seq q3_1 (.seq q3_2 (.seq q3_3 (.seq (.seq q3_4 (.cond (.tmp 42) (.seq q3_5 .ret) .skip)) (.seq (.seq q3_6 (.cond (.tmp 59) (.seq q3_7 .ret) .skip)) (.seq q3_8 .ret)))))))
theorem s3_strip : Zy (Yb Try.f3) = s3 := by kernel_rfl
theorem s3_ok : Yt 110 (Yb Try.f3) = true := by kernel_rfl
/-! 4: planchet planchetlaw09.BetsBounds -/
@[reducible] def q4_0 : SCode := .region [⟨some 6, .assign (.const (.bool false)), none⟩]
@[reducible] def q4_1 : SCode := .region [⟨some 15, .move (.tmp 0), none⟩,
    ⟨some 16, .move (.tmp 1), none⟩,
    ⟨some 17, .call { callee := .value (.func 18), args := #[.tmp 16], argTypes := #[22] }, none⟩,
    ⟨some 18, .move (.tmp 2), none⟩,
    ⟨some 19, .call { callee := .value (.func 17), args := #[.tmp 15, .tmp 17, .tmp 18], argTypes := #[3, 30, 3] }, none⟩,
    ⟨some 14, .move (.tmp 19), none⟩,
    ⟨some 20, .extract (.tmp 14) 0, none⟩,
    ⟨some 21, .extract (.tmp 14) 1, none⟩,
    ⟨some 22, .extract (.tmp 14) 2, none⟩,
    ⟨some 7, .alloc 26, none⟩,
    ⟨some 8, .alloc 26, none⟩,
    ⟨none, .store 26 (.tmp 7) (.tmp 20), none⟩,
    ⟨none, .store 26 (.tmp 8) (.tmp 21), none⟩,
    ⟨some 9, .assign (.tmp 22), none⟩]
@[reducible] def q4_2 : SCode := .region [⟨some 24, .move (.tmp 0), none⟩,
    ⟨some 25, .move (.tmp 1), none⟩,
    ⟨some 26, .call { callee := .value (.func 18), args := #[.tmp 25], argTypes := #[22] }, none⟩,
    ⟨some 27, .move (.tmp 2), none⟩,
    ⟨some 28, .call { callee := .value (.func 24), args := #[.tmp 24, .tmp 26, .tmp 27], argTypes := #[3, 30, 3] }, none⟩,
    ⟨some 23, .move (.tmp 28), none⟩,
    ⟨some 29, .extract (.tmp 23) 0, none⟩,
    ⟨some 30, .extract (.tmp 23) 1, none⟩,
    ⟨some 10, .assign (.tmp 29), none⟩,
    ⟨some 11, .assign (.tmp 30), none⟩]
@[reducible] def q4_3 : SCode := .region [⟨some 31, .move (.tmp 0), none⟩,
    ⟨some 32, .move (.tmp 1), none⟩,
    ⟨some 33, .call { callee := .value (.func 20), args := #[.tmp 31, .tmp 32], argTypes := #[3, 22] }, none⟩,
    ⟨some 34, .unOp .not 4 (.tmp 33), none⟩,
    ⟨some 35, .move (.tmp 34), none⟩,
    ⟨some 36, .move (.tmp 0), some (35, false)⟩,
    ⟨some 37, .move (.tmp 2), some (35, false)⟩,
    ⟨some 38, .call { callee := .value (.func 25), args := #[.tmp 36, .tmp 37], argTypes := #[3, 3] }, some (35, false)⟩,
    ⟨some 39, .unOp .not 4 (.tmp 38), some (35, false)⟩,
    ⟨some 40, .pick (.tmp 35) (.const (.bool true)) (.tmp 39), none⟩]
@[reducible] def q4_4 : SCode := .region [⟨some 41, .load 26 (.tmp 7), none⟩,
    ⟨some 42, .call { callee := .value (.func 26), args := #[.tmp 41], argTypes := #[26] }, none⟩,
    ⟨some 43, .move (.tmp 42), none⟩,
    ⟨some 44, .load 26 (.tmp 8), some (43, true)⟩,
    ⟨some 45, .call { callee := .value (.func 26), args := #[.tmp 44], argTypes := #[26] }, some (43, true)⟩,
    ⟨some 46, .pick (.tmp 43) (.tmp 45) (.const (.bool false)), none⟩,
    ⟨some 47, .move (.tmp 46), none⟩,
    ⟨some 48, .move (.tmp 10), some (47, true)⟩,
    ⟨some 49, .call { callee := .builtin .len, args := #[.tmp 48], argTypes := #[38] }, some (47, true)⟩,
    ⟨some 50, .binOp .eql 3 (.tmp 49) (.const (.int .i64 0)) 3, some (47, true)⟩,
    ⟨some 51, .pick (.tmp 47) (.tmp 50) (.const (.bool false)), none⟩,
    ⟨some 52, .move (.tmp 51), none⟩,
    ⟨some 53, .move (.tmp 9), some (52, true)⟩,
    ⟨some 54, .binOp .eql 27 (.tmp 53) (.const (.int .i64 2)) 27, some (52, true)⟩,
    ⟨some 55, .pick (.tmp 52) (.tmp 54) (.const (.bool false)), none⟩,
    ⟨some 56, .move (.tmp 55), none⟩,
    ⟨some 57, .move (.tmp 11), some (56, true)⟩,
    ⟨some 58, .binOp .eql 27 (.tmp 57) (.const (.int .i64 2)) 27, some (56, true)⟩,
    ⟨some 59, .pick (.tmp 56) (.tmp 58) (.const (.bool false)), none⟩,
    ⟨some 60, .move (.tmp 59), none⟩,
    ⟨some 61, .call { callee := .value (.func 21), args := #[], argTypes := #[] }, some (60, true)⟩,
    ⟨some 62, .pick (.tmp 60) (.tmp 61) (.const (.bool false)), none⟩,
    ⟨some 6, .assign (.tmp 62), none⟩]
@[reducible] def q4_5 : SCode := .region [⟨some 63, .move (.tmp 0), none⟩,
    ⟨some 64, .move (.tmp 1), none⟩,
    ⟨some 65, .call { callee := .value (.func 27), args := #[.tmp 63, .tmp 64], argTypes := #[3, 22] }, none⟩,
    ⟨some 66, .unOp .not 4 (.tmp 65), none⟩]
@[reducible] def q4_6 : SCode := .region [⟨some 67, .load 26 (.tmp 7), none⟩,
    ⟨some 68, .call { callee := .value (.func 26), args := #[.tmp 67], argTypes := #[26] }, none⟩,
    ⟨some 69, .move (.tmp 68), none⟩,
    ⟨some 70, .load 26 (.tmp 8), some (69, true)⟩,
    ⟨some 71, .call { callee := .value (.func 26), args := #[.tmp 70], argTypes := #[26] }, some (69, true)⟩,
    ⟨some 72, .pick (.tmp 69) (.tmp 71) (.const (.bool false)), none⟩,
    ⟨some 73, .move (.tmp 72), none⟩,
    ⟨some 74, .move (.tmp 10), some (73, true)⟩,
    ⟨some 75, .call { callee := .builtin .len, args := #[.tmp 74], argTypes := #[38] }, some (73, true)⟩,
    ⟨some 76, .binOp .eql 3 (.tmp 75) (.const (.int .i64 0)) 3, some (73, true)⟩,
    ⟨some 77, .pick (.tmp 73) (.tmp 76) (.const (.bool false)), none⟩,
    ⟨some 78, .move (.tmp 77), none⟩,
    ⟨some 79, .move (.tmp 9), some (78, true)⟩,
    ⟨some 80, .binOp .eql 27 (.tmp 79) (.const (.int .i64 5)) 27, some (78, true)⟩,
    ⟨some 81, .pick (.tmp 78) (.tmp 80) (.const (.bool false)), none⟩,
    ⟨some 82, .move (.tmp 81), none⟩,
    ⟨some 83, .move (.tmp 11), some (82, true)⟩,
    ⟨some 84, .binOp .eql 27 (.tmp 83) (.const (.int .i64 5)) 27, some (82, true)⟩,
    ⟨some 85, .pick (.tmp 82) (.tmp 84) (.const (.bool false)), none⟩,
    ⟨some 86, .move (.tmp 85), none⟩,
    ⟨some 87, .call { callee := .value (.func 21), args := #[], argTypes := #[] }, some (86, true)⟩,
    ⟨some 88, .pick (.tmp 86) (.tmp 87) (.const (.bool false)), none⟩,
    ⟨some 6, .assign (.tmp 88), none⟩]
@[reducible] def q4_7 : SCode := .region [⟨some 90, .move (.tmp 0), none⟩,
    ⟨some 91, .move (.tmp 1), none⟩,
    ⟨some 92, .move (.tmp 2), none⟩,
    ⟨some 93, .call { callee := .value (.func 28), args := #[.tmp 90, .tmp 91, .tmp 92], argTypes := #[3, 22, 3] }, none⟩,
    ⟨some 89, .move (.tmp 93), none⟩,
    ⟨some 94, .extract (.tmp 89) 0, none⟩,
    ⟨some 95, .extract (.tmp 89) 1, none⟩,
    ⟨some 12, .alloc 26, none⟩,
    ⟨some 13, .alloc 26, none⟩,
    ⟨none, .store 26 (.tmp 12) (.tmp 94), none⟩,
    ⟨none, .store 26 (.tmp 13) (.tmp 95), none⟩]
@[reducible] def q4_8 : SCode := .region [⟨some 96, .load 26 (.tmp 7), none⟩,
    ⟨some 97, .load 26 (.tmp 12), none⟩,
    ⟨some 98, .binOp .eql 26 (.tmp 96) (.tmp 97) 26, none⟩,
    ⟨some 99, .move (.tmp 98), none⟩,
    ⟨some 100, .load 26 (.tmp 8), some (99, true)⟩,
    ⟨some 101, .load 26 (.tmp 13), some (99, true)⟩,
    ⟨some 102, .binOp .eql 26 (.tmp 100) (.tmp 101) 26, some (99, true)⟩,
    ⟨some 103, .pick (.tmp 99) (.tmp 102) (.const (.bool false)), none⟩,
    ⟨some 104, .move (.tmp 103), none⟩,
    ⟨some 105, .move (.tmp 9), some (104, true)⟩,
    ⟨some 106, .binOp .eql 27 (.tmp 105) (.const (.int .i64 0)) 27, some (104, true)⟩,
    ⟨some 107, .pick (.tmp 104) (.tmp 106) (.const (.bool false)), none⟩,
    ⟨some 108, .move (.tmp 107), none⟩,
    ⟨some 109, .move (.tmp 10), some (108, true)⟩,
    ⟨some 110, .move (.tmp 0), some (108, true)⟩,
    ⟨some 111, .move (.tmp 1), some (108, true)⟩,
    ⟨some 112, .move (.tmp 2), some (108, true)⟩,
    ⟨some 113, .call { callee := .value (.func 30), args := #[.tmp 110, .tmp 111, .tmp 112], argTypes := #[3, 22, 3] }, some (108, true)⟩,
    ⟨some 114, .call { callee := .value (.func 29), args := #[.tmp 109, .tmp 113], argTypes := #[38, 38] }, some (108, true)⟩,
    ⟨some 115, .pick (.tmp 108) (.tmp 114) (.const (.bool false)), none⟩,
    ⟨some 116, .move (.tmp 115), none⟩,
    ⟨some 117, .move (.tmp 11), some (116, true)⟩,
    ⟨some 118, .binOp .eql 27 (.tmp 117) (.const (.int .i64 0)) 27, some (116, true)⟩,
    ⟨some 119, .pick (.tmp 116) (.tmp 118) (.const (.bool false)), none⟩,
    ⟨some 120, .move (.tmp 119), none⟩,
    ⟨some 121, .call { callee := .value (.func 21), args := #[], argTypes := #[] }, some (120, true)⟩,
    ⟨some 122, .pick (.tmp 120) (.tmp 121) (.const (.bool false)), none⟩,
    ⟨some 6, .assign (.tmp 122), none⟩]
def s4 : SCode := (.seq q4_0 (.seq q4_1 (.seq q4_2 (.seq (.seq q4_3 (.cond (.tmp 40) (.seq q4_4 .ret) .skip)) (.seq (.seq q4_5 (.cond (.tmp 66) (.seq q4_6 .ret) .skip)) (.seq q4_7 (.seq q4_8 .ret)))))))
/-! 6: planchet planchetlaw09.BetsSound -/
@[reducible] def q6_0 : SCode := .region [⟨some 6, .assign (.const (.bool false)), none⟩]
@[reducible] def q6_1 : SCode := .region [⟨some 12, .move (.tmp 0), none⟩,
    ⟨some 13, .move (.tmp 1), none⟩,
    ⟨some 14, .call { callee := .value (.func 18), args := #[.tmp 13], argTypes := #[22] }, none⟩,
    ⟨some 15, .call { callee := .value (.func 36), args := #[.tmp 12, .tmp 14], argTypes := #[3, 30] }, none⟩,
    ⟨some 11, .move (.tmp 15), none⟩,
    ⟨some 16, .extract (.tmp 11) 0, none⟩,
    ⟨some 17, .extract (.tmp 11) 1, none⟩,
    ⟨some 7, .assign (.tmp 16), none⟩,
    ⟨some 8, .assign (.tmp 17), none⟩]
@[reducible] def q6_2 : SCode := .region [⟨some 19, .move (.tmp 0), none⟩,
    ⟨some 20, .move (.tmp 1), none⟩,
    ⟨some 21, .call { callee := .value (.func 18), args := #[.tmp 20], argTypes := #[22] }, none⟩,
    ⟨some 22, .move (.tmp 2), none⟩,
    ⟨some 23, .call { callee := .value (.func 32), args := #[.tmp 22], argTypes := #[47] }, none⟩,
    ⟨some 24, .call { callee := .value (.func 37), args := #[.tmp 19, .tmp 21, .tmp 23], argTypes := #[3, 30, 47] }, none⟩,
    ⟨some 18, .move (.tmp 24), none⟩,
    ⟨some 25, .extract (.tmp 18) 0, none⟩,
    ⟨some 26, .extract (.tmp 18) 1, none⟩,
    ⟨some 9, .assign (.tmp 25), none⟩,
    ⟨some 10, .assign (.tmp 26), none⟩]
@[reducible] def q6_3 : SCode := .region [⟨some 27, .move (.tmp 0), none⟩,
    ⟨some 28, .move (.tmp 1), none⟩,
    ⟨some 29, .call { callee := .value (.func 20), args := #[.tmp 27, .tmp 28], argTypes := #[3, 22] }, none⟩,
    ⟨some 30, .unOp .not 4 (.tmp 29), none⟩]
@[reducible] def q6_4 : SCode := .region [⟨some 31, .move (.tmp 7), none⟩,
    ⟨some 32, .call { callee := .builtin .len, args := #[.tmp 31], argTypes := #[47] }, none⟩,
    ⟨some 33, .binOp .eql 3 (.tmp 32) (.const (.int .i64 0)) 3, none⟩,
    ⟨some 34, .move (.tmp 33), none⟩,
    ⟨some 35, .move (.tmp 9), some (34, true)⟩,
    ⟨some 36, .unOp .not 4 (.tmp 35), some (34, true)⟩,
    ⟨some 37, .pick (.tmp 34) (.tmp 36) (.const (.bool false)), none⟩,
    ⟨some 38, .move (.tmp 37), none⟩,
    ⟨some 39, .move (.tmp 8), some (38, true)⟩,
    ⟨some 40, .binOp .eql 27 (.tmp 39) (.const (.int .i64 2)) 27, some (38, true)⟩,
    ⟨some 41, .pick (.tmp 38) (.tmp 40) (.const (.bool false)), none⟩,
    ⟨some 42, .move (.tmp 41), none⟩,
    ⟨some 43, .move (.tmp 10), some (42, true)⟩,
    ⟨some 44, .binOp .eql 27 (.tmp 43) (.const (.int .i64 2)) 27, some (42, true)⟩,
    ⟨some 45, .pick (.tmp 42) (.tmp 44) (.const (.bool false)), none⟩,
    ⟨some 46, .move (.tmp 45), none⟩,
    ⟨some 47, .call { callee := .value (.func 21), args := #[], argTypes := #[] }, some (46, true)⟩,
    ⟨some 48, .pick (.tmp 46) (.tmp 47) (.const (.bool false)), none⟩,
    ⟨some 6, .assign (.tmp 48), none⟩]
@[reducible] def q6_5 : SCode := .region [⟨some 49, .move (.tmp 0), none⟩,
    ⟨some 50, .move (.tmp 1), none⟩,
    ⟨some 51, .call { callee := .value (.func 27), args := #[.tmp 49, .tmp 50], argTypes := #[3, 22] }, none⟩]
@[reducible] def q6_6 : SCode := .region [⟨some 52, .move (.tmp 8), none⟩,
    ⟨some 53, .binOp .neq 27 (.tmp 52) (.const (.int .i64 0)) 27, none⟩,
    ⟨some 54, .move (.tmp 53), none⟩,
    ⟨some 55, .move (.tmp 0), some (54, false)⟩,
    ⟨some 56, .move (.tmp 7), some (54, false)⟩,
    ⟨some 57, .call { callee := .value (.func 38), args := #[.tmp 55, .tmp 56], argTypes := #[3, 47] }, some (54, false)⟩,
    ⟨some 58, .unOp .not 4 (.tmp 57), some (54, false)⟩,
    ⟨some 59, .pick (.tmp 54) (.const (.bool true)) (.tmp 58), none⟩,
    ⟨some 60, .move (.tmp 59), none⟩,
    ⟨some 61, .move (.tmp 0), some (60, false)⟩,
    ⟨some 62, .move (.tmp 1), some (60, false)⟩,
    ⟨some 63, .move (.tmp 7), some (60, false)⟩,
    ⟨some 64, .call { callee := .value (.func 39), args := #[.tmp 61, .tmp 62, .tmp 63], argTypes := #[3, 22, 47] }, some (60, false)⟩,
    ⟨some 65, .unOp .not 4 (.tmp 64), some (60, false)⟩,
    ⟨some 66, .pick (.tmp 60) (.const (.bool true)) (.tmp 65), none⟩]
@[reducible] def q6_7 : SCode := .region [⟨some 6, .assign (.const (.bool false)), none⟩]
@[reducible] def q6_8 : SCode := .region [⟨some 67, .move (.tmp 7), none⟩,
    ⟨some 68, .call { callee := .builtin .len, args := #[.tmp 67], argTypes := #[47] }, none⟩,
    ⟨some 69, .binOp .neq 3 (.tmp 68) (.const (.int .i64 0)) 3, none⟩,
    ⟨some 70, .move (.tmp 69), none⟩,
    ⟨some 71, .move (.tmp 8), some (70, false)⟩,
    ⟨some 72, .binOp .neq 27 (.tmp 71) (.const (.int .i64 5)) 27, some (70, false)⟩,
    ⟨some 73, .pick (.tmp 70) (.const (.bool true)) (.tmp 72), none⟩]
@[reducible] def q6_9 : SCode := .region [⟨some 6, .assign (.const (.bool false)), none⟩]
@[reducible] def q6_10 : SCode := .region [⟨some 74, .move (.tmp 0), none⟩,
    ⟨some 75, .move (.tmp 2), none⟩,
    ⟨some 76, .call { callee := .value (.func 38), args := #[.tmp 74, .tmp 75], argTypes := #[3, 47] }, none⟩,
    ⟨some 77, .unOp .not 4 (.tmp 76), none⟩]
@[reducible] def q6_11 : SCode := .region [⟨some 78, .move (.tmp 9), none⟩,
    ⟨some 79, .unOp .not 4 (.tmp 78), none⟩,
    ⟨some 80, .move (.tmp 79), none⟩,
    ⟨some 81, .move (.tmp 10), some (80, true)⟩,
    ⟨some 82, .binOp .eql 27 (.tmp 81) (.const (.int .i64 2)) 27, some (80, true)⟩,
    ⟨some 83, .pick (.tmp 80) (.tmp 82) (.const (.bool false)), none⟩,
    ⟨some 84, .move (.tmp 83), none⟩,
    ⟨some 85, .call { callee := .value (.func 21), args := #[], argTypes := #[] }, some (84, true)⟩,
    ⟨some 86, .pick (.tmp 84) (.tmp 85) (.const (.bool false)), none⟩,
    ⟨some 6, .assign (.tmp 86), none⟩]
@[reducible] def q6_12 : SCode := .region [⟨some 87, .move (.tmp 9), none⟩,
    ⟨some 88, .move (.tmp 0), none⟩,
    ⟨some 89, .move (.tmp 1), none⟩,
    ⟨some 90, .move (.tmp 2), none⟩,
    ⟨some 91, .call { callee := .value (.func 39), args := #[.tmp 88, .tmp 89, .tmp 90], argTypes := #[3, 22, 47] }, none⟩,
    ⟨some 92, .binOp .eql 4 (.tmp 87) (.tmp 91) 4, none⟩,
    ⟨some 93, .move (.tmp 92), none⟩,
    ⟨some 94, .move (.tmp 10), some (93, true)⟩,
    ⟨some 95, .binOp .eql 27 (.tmp 94) (.const (.int .i64 0)) 27, some (93, true)⟩,
    ⟨some 96, .pick (.tmp 93) (.tmp 95) (.const (.bool false)), none⟩,
    ⟨some 97, .move (.tmp 96), none⟩,
    ⟨some 98, .call { callee := .value (.func 21), args := #[], argTypes := #[] }, some (97, true)⟩,
    ⟨some 99, .pick (.tmp 97) (.tmp 98) (.const (.bool false)), none⟩,
    ⟨some 6, .assign (.tmp 99), none⟩]
def s6 : SCode := (.seq q6_0 (.seq q6_1 (.seq q6_2 (.seq (.seq q6_3 (.cond (.tmp 30) (.seq q6_4 .ret) .skip)) (.seq (.seq q6_5 (.cond (.tmp 51) (.seq q6_6 (.cond (.tmp 66) (.seq q6_7 .ret) .skip)) (.seq q6_8 (.cond (.tmp 73) (.seq q6_9 .ret) .skip)))) (.seq (.seq q6_10 (.cond (.tmp 77) (.seq q6_11 .ret) .skip)) (.seq q6_12 .ret)))))))
/-! 19: slices.Clone[[]planchet planchetref09.Bet,planchet planchetref09.Bet] -/
@[reducible] def q19_0 : SCode := .region [⟨some 2, .assign (.const (.slice none 0 0)), none⟩]
@[reducible] def q19_1 : SCode := .region [⟨some 3, .move (.tmp 0), none⟩,
    ⟨some 4, .binOp .eql 22 (.tmp 3) (.const (.slice none 0 0)) 22, none⟩]
@[reducible] def q19_2 : SCode := .region [⟨some 2, .assign (.const (.slice none 0 0)), none⟩]
@[reducible] def q19_3 : SCode := .region [⟨some 5, .buildSlice 22 0 #[], none⟩,
    ⟨some 6, .move (.tmp 0), none⟩,
    ⟨some 7, .call { callee := .builtin .append, args := #[.tmp 5, .tmp 6], argTypes := #[22, 22] }, none⟩,
    ⟨some 2, .assign (.tmp 7), none⟩]
def s19 : SCode := (.seq q19_0 (.seq (.seq q19_1 (.cond (.tmp 4) (.seq q19_2 .ret) .skip)) (.seq q19_3 .ret)))
theorem s19_strip : Zy (Yb Try.f19) = s19 := by kernel_rfl
theorem s19_ok : Yt 8 (Yb Try.f19) = true := by kernel_rfl
theorem s19_call [Tabs Try.prog] {args : List Value} {h : Zh} {Q : Value → Zh → Prop} (hsz : args.length ≤ 8) (hk : aw Try.prog 8 s19 (Zw Try.prog [.tmp 2] Q) (Zt 0 args) h) : ACall Try.prog 19 args h Q :=
  acall_s Try.func19 rfl (enters_of Try.func19 (by kernel_rfl) rfl) rfl rfl (by decide) s19_strip s19_ok hsz hk

end Go.Proofs.Try.Am

namespace Go.Proofs.Try.Am
open Go.Am Bq
set_option maxRecDepth 100000
set_option maxHeartbeats 4000000

theorem valid_take (n : Int) (l : List (Int × Int)) : Yu n (l.take 9) = Yu n l := by
  by_cases h : l.length ≤ 9
  · rw [List.take_of_length_le h]
  · have h1 : (l.take 9).length = 9 := by rw [List.length_take]; omega
    rw [Yu, Yu, h1, show decide (9 ≤ 6) = false by decide, show decide (l.length ≤ 6) = false by simp; omega]
    simp
theorem inEv_bit (f : Nat → Rat) (e n : Nat) : Zn (inEv f e) n = evq n f e := Zk fun w hw => by
  rw [inEv, bitQ]
  split
  · rw [Rat.one_mul]
  · rw [Rat.zero_mul]
theorem fq_map {b : List Rat} {w : Nat} (hw : w < b.length) : fq (b.map ofQ) w = b.getD w 0 := by
  rw [fq, List.getD, List.getElem?_map, List.getElem?_eq_getElem hw, List.getD, List.getElem?_eq_getElem hw]; exact toQ_ofQ _
theorem mulTo_dvd' {N : Nat} (hN : 0 < N) (hB : N ≤ 10000000000) : ∀ (ps : List (Int × Int)) (m : Nat), 0 < m → m ∣ N → (∀ p ∈ ps, okP p = true ∧ p.2.natAbs ∣ N) → mulTo ps m ≠ 0 ∧ mulTo ps m ∣ N
  | [], m, h0, h1, _ => ⟨by rw [mulTo]; omega, by rw [mulTo]; exact h1⟩
  | p :: ps, m, h0, h1, h => by
    obtain ⟨k1, k2⟩ := h p (by simp)
    have hl : Nat.lcm m p.2.natAbs ∣ N := Nat.lcm_dvd h1 k2
    have hlN := Nat.le_of_dvd hN hl
    have hp0 : 0 < p.2.natAbs := Nat.pos_of_dvd_of_pos k2 hN
    rw [mulTo, if_pos ⟨k1, by omega⟩]
    exact mulTo_dvd' hN hB ps _ (Nat.lcm_pos h0 hp0) hl fun q hq => h q (by simp [hq])
theorem okP_of' {q : Rat} (h0 : 0 ≤ q) (hd : q.den ≤ 10000000000) : okP (ofQ q) = true := by
  have h1 : 0 ≤ q.num := Rat.num_nonneg.2 h0
  have h2 := q.den_pos
  have h3 := q.reduced
  simp only [okP, ofQ, Bool.and_eq_true, beq_iff_eq]
  refine ⟨⟨⟨decide_eq_true (by omega), decide_eq_true (by omega)⟩, decide_eq_true h1⟩, ?_⟩
  rw [Int.natAbs_natCast]; exact h3
/-- A corner, as it is handed out. -/
theorem corner_facts {n : Nat} {l : List (Int × Int)} {b : List Rat} (hval : Yu n l = true) (hb : b ∈ Zz n l) :
    b.length = n ∧ Feas n l (fun w => b.getD w 0) ∧ (∀ w, w < n → b.getD w 0 ≤ 1) ∧ (∃ D, 0 < D ∧ D ≤ 720 ∧ mult (b.map ofQ) ∣ D) ∧ Chn (b.map ofQ) ∧ agB l (b.map ofQ) = true := by
  obtain ⟨hn2, hn5, hl1, hl6, hok⟩ := valid_spec hval
  obtain ⟨set, h1, h2, h3⟩ := mem_corners.1 hb
  obtain ⟨hl, hf⟩ := corner_feas h3
  obtain ⟨D, d1, d2, d3⟩ := corner_den hn5 (cts_of hval) h3
  have hle : ∀ w, w < n → b.getD w 0 ≤ 1 := fun w hw => by
    have := sumTo_one (g := fun w => b.getD w 0) hw hf.nn
    rw [hf.one] at this; exact this
  have hmem : ∀ p ∈ b.map ofQ, ∃ w, w < n ∧ p = ofQ (b.getD w 0) := fun p hp => by
    obtain ⟨q, hq, rfl⟩ := List.mem_map.1 hp
    obtain ⟨w, hw, rfl⟩ := List.getElem_of_mem hq
    exact ⟨w, by omega, by rw [List.getD, List.getElem?_eq_getElem hw]; rfl⟩
  have hmul := mulTo_dvd' d1 (by omega) (b.map ofQ) 1 (by decide) (Nat.one_dvd _) fun p hp => by
    obtain ⟨w, hw, rfl⟩ := hmem p hp
    have hd := d3 w hw
    have := Nat.le_of_dvd d1 hd
    exact ⟨okP_of' (hf.nn w hw) (by omega), by rw [ofQ]; exact hd⟩
  have hc : Chn (b.map ofQ) := ⟨hmul.1, fun p hp => by
    obtain ⟨w, hw, rfl⟩ := hmem p hp
    have := hle w hw
    rw [Rat.le_iff] at this
    simpa [ofQ] using this⟩
  refine ⟨hl, hf, hle, ⟨D, d1, d2, hmul.2⟩, hc, ?_⟩
  rw [agB, List.length_map, hl, Bool.and_eq_true, decide_eq_true_eq, List.all_eq_true]
  refine ⟨by rw [Zk fun w hw => fq_map (show w < b.length by omega)]; exact hf.one, fun p hp => ?_⟩
  obtain ⟨i, hi, hip⟩ := List.getElem_of_mem hp
  have h4 := hf.bet i hi
  have hgi : l.getD i (0, 0) = p := by rw [List.getD, List.getElem?_eq_getElem hi]; exact hip
  rw [hgi] at h4
  rw [decide_eq_true_eq, inEv_bit, ← h4]
  exact Zk fun w hw => by rw [fq_map (by omega)]
end Go.Proofs.Try.Am

namespace Go.Proofs.Try.Am
open Go.Am Bq
set_option maxRecDepth 100000
set_option maxHeartbeats 4000000

def minL : Rat → List Rat → Rat
  | a, [] => a
  | a, f :: fs => minL (if f < a then f else a) fs
def maxL : Rat → List Rat → Rat
  | a, [] => a
  | a, f :: fs => maxL (if a < f then f else a) fs
theorem minL_spec : ∀ (vs : List Rat) (a : Rat), (minL a vs = a ∨ minL a vs ∈ vs) ∧ minL a vs ≤ a ∧ ∀ v ∈ vs, minL a vs ≤ v
  | [], a => ⟨.inl rfl, Rat.le_refl, fun v hv => by cases hv⟩
  | f :: fs, a => by
    obtain ⟨h1, h2, h3⟩ := minL_spec fs (if f < a then f else a)
    rw [minL]
    have h4 : minL (if f < a then f else a) fs ≤ a ∧ minL (if f < a then f else a) fs ≤ f := by
      split at h2
      · next h => rw [if_pos h]; exact ⟨Rat.le_trans h2 (Rat.le_of_lt h), h2⟩
      · next h => rw [if_neg h]; exact ⟨h2, Rat.le_trans h2 (Rat.not_lt.1 h)⟩
    refine ⟨?_, h4.1, fun v hv => ?_⟩
    · rcases h1 with h1 | h1
      · split at h1
        · next h => rw [if_pos h]; exact .inr (by rw [h1]; simp)
        · next h => rw [if_neg h]; exact .inl h1
      · exact .inr (List.mem_cons_of_mem _ h1)
    · rcases List.mem_cons.1 hv with rfl | hv
      · exact h4.2
      · exact h3 v hv
theorem maxL_spec : ∀ (vs : List Rat) (a : Rat), (maxL a vs = a ∨ maxL a vs ∈ vs) ∧ a ≤ maxL a vs ∧ ∀ v ∈ vs, v ≤ maxL a vs
  | [], a => ⟨.inl rfl, Rat.le_refl, fun v hv => by cases hv⟩
  | f :: fs, a => by
    obtain ⟨h1, h2, h3⟩ := maxL_spec fs (if a < f then f else a)
    rw [maxL]
    have h4 : a ≤ maxL (if a < f then f else a) fs ∧ f ≤ maxL (if a < f then f else a) fs := by
      split at h2
      · next h => rw [if_pos h]; exact ⟨Rat.le_trans (Rat.le_of_lt h) h2, h2⟩
      · next h => rw [if_neg h]; exact ⟨h2, Rat.le_trans (Rat.not_lt.1 h) h2⟩
    refine ⟨?_, h4.1, fun v hv => ?_⟩
    · rcases h1 with h1 | h1
      · split at h1
        · next h => rw [if_pos h]; exact .inr (by rw [h1]; simp)
        · next h => rw [if_neg h]; exact .inl h1
      · exact .inr (List.mem_cons_of_mem _ h1)
    · rcases List.mem_cons.1 hv with rfl | hv
      · exact h4.2
      · exact h3 v hv
theorem minL_snoc (vs : List Rat) (f : Rat) : ∀ a, minL a (vs ++ [f]) = if f < minL a vs then f else minL a vs := by
  induction vs with
  | nil => intro a; rfl
  | cons g gs ih => intro a; rw [List.cons_append, minL, minL, ih]
theorem maxL_snoc (vs : List Rat) (f : Rat) : ∀ a, maxL a (vs ++ [f]) = if maxL a vs < f then f else maxL a vs := by
  induction vs with
  | nil => intro a; rfl
  | cons g gs ih => intro a; rw [List.cons_append, maxL, maxL, ih]

/-- Small numbers. -/
def SmQ (q : Rat) : Prop := 0 ≤ q ∧ q ≤ 1 ∧ q.den ≤ 720
theorem SmQ.num {q : Rat} (h : SmQ q) : 0 ≤ q.num ∧ q.num ≤ 720 := by
  have h0 := Rat.num_nonneg.2 h.1
  have h1 := h.2.1
  rw [Rat.le_iff] at h1
  have h2 := h.2.2
  have h3 : q.num ≤ (q.den : Int) := by simpa using h1
  omega
theorem SmQ.less [Tabs prog] {a b : Rat} (ha : SmQ a) (hb : SmQ b) (h : Zh) : Xl prog 62 [qV a, qV b] h (.bool (decide (a < b))) := by
  have na := ha.num
  have nb := hb.num
  have r1 := (Rp.own a).up b.den b.den_pos
  have r2 := (Rp.own b).up a.den a.den_pos
  rw [Nat.mul_comm b.den] at r2
  have x1 : (a.num * (b.den : Int)).natAbs ≤ 720 * 720 := by rw [Int.natAbs_mul, Int.natAbs_natCast]; exact Nat.mul_le_mul (by omega) hb.2.2
  have x2 : (b.num * (a.den : Int)).natAbs ≤ 720 * 720 := by rw [Int.natAbs_mul, Int.natAbs_natCast]; exact Nat.mul_le_mul (by omega) ha.2.2
  have x3 : a.den * b.den ≤ 720 * 720 := Nat.mul_le_mul ha.2.2 hb.2.2
  exact less_call r1 r2 (by omega) (by omega)
theorem SmQ.rless [Tabs prog] {a b : Rat} (ha : SmQ a) (hb : SmQ b) (h : Zh) : Xl prog 23 [qV a, qV b] h (.bool (decide (a < b))) := by
  have na := ha.num
  have nb := hb.num
  have x1 : (a.num * (b.den : Int)).natAbs ≤ 720 * 720 := by rw [Int.natAbs_mul, Int.natAbs_natCast]; exact Nat.mul_le_mul (by omega) hb.2.2
  have x2 : (b.num * (a.den : Int)).natAbs ≤ 720 * 720 := by rw [Int.natAbs_mul, Int.natAbs_natCast]; exact Nat.mul_le_mul (by omega) ha.2.2
  exact rless_call (by omega) (by omega)
/-- The chance of an event at a corner. -/
def cvq (n e : Nat) (b : List Rat) : Rat := evq n (fun w => b.getD w 0) e
theorem evq_bounds {n : Nat} {p : Nat → Rat} (h0 : ∀ w, w < n → 0 ≤ p w) (h1 : Zn p n = 1) (e : Nat) : 0 ≤ evq n p e ∧ evq n p e ≤ 1 := by
  constructor
  · refine sumTo_nonneg fun w hw => ?_
    rcases bitQ_01 e w with h | h <;> rw [h]
    · rw [Rat.zero_mul]; exact Rat.le_refl
    · rw [Rat.one_mul]; exact h0 w hw
  · rw [← h1]
    refine sumTo_le fun w hw => ?_
    rcases bitQ_01 e w with h | h <;> rw [h]
    · rw [Rat.zero_mul]; exact h0 w hw
    · rw [Rat.one_mul]; exact Rat.le_refl
theorem part_dvd {n : Nat} {p : Nat → Rat} {D : Nat} (hD : 0 < D) (h : ∀ w, w < n → (p w).den ∣ D) (e : Nat) : (evq n p e).den ∣ D := by
  refine sumTo_den hD fun w hw => ?_
  rcases bitQ_01 e w with h1 | h1 <;> rw [h1]
  · rw [Rat.zero_mul]; exact Nat.one_dvd _
  · rw [Rat.one_mul]; exact h w hw
theorem corner_den' {n : Nat} {l : List (Int × Int)} {b : List Rat} (hval : Yu n l = true) (hb : b ∈ Zz n l) : ∃ D, 0 < D ∧ D ≤ 720 ∧ ∀ w, w < n → (b.getD w 0).den ∣ D := by
  obtain ⟨set, h1, h2, h3⟩ := mem_corners.1 hb
  exact corner_den (valid_spec hval).2.1 (cts_of hval) h3
theorem corner_sm {n : Nat} {l : List (Int × Int)} {b : List Rat} (hval : Yu n l = true) (hb : b ∈ Zz n l) (e : Nat) : SmQ (cvq n e b) := by
  obtain ⟨_, hf, _, _, _, _⟩ := corner_facts hval hb
  obtain ⟨D, d1, d2, d3⟩ := corner_den' hval hb
  obtain ⟨h1, h2⟩ := evq_bounds hf.nn hf.one e
  exact ⟨h1, h2, Nat.le_trans (Nat.le_of_dvd d1 (part_dvd d1 d3 e)) d2⟩
theorem corner_of [Tabs prog] {h : Zh} {n e : Nat} {l : List (Int × Int)} {b : List Rat} {w : Value} (hval : Yu n l = true) (hb : b ∈ Zz n l) (hw : BelAt h w b) (he : e < 9223372036854775808) : Xl prog 61 [w, Zd (e : Nat)] h (qV (cvq n e b)) := by
  obtain ⟨hl, hf, hle, _, hc, _⟩ := corner_facts hval hb
  obtain ⟨D, d1, d2, d3⟩ := corner_den' hval hb
  have hn5 := (valid_spec hval).2.1
  obtain ⟨bl, rfl, hbl⟩ := hw
  have px := pairSl_cells hbl
  rw [List.length_map] at px
  have key := of_call (evt := e) (N := D) px (by rw [List.length_map]; omega) hc.vld he d1 (by omega) (fun k hk => by
    rw [List.length_map] at hk
    rw [fq_map hk]
    exact ⟨hf.nn k (by omega), hle k (by omega), d3 k (by omega)⟩)
  rw [List.length_map, hl, inEv_bit] at key
  rw [hl, cvq, ← show evq n (fq (b.map ofQ)) e = evq n (fun w => b.getD w 0) e from Zk fun w hw => by rw [fq_map (by omega)]]
  exact key

theorem s59_callW [Tabs Try.prog] {args : List Value} {h : Zh} {Q : Value → Zh → Prop} (hsz : args.length ≤ 14) (hk : AWS Try.prog 14 s59 (Zw Try.prog [.tmp 4] Q) (Zt 0 args) h) : ACall Try.prog 59 args h Q :=
  Xa Try.func59 rfl (enters_of Try.func59 (by kernel_rfl) rfl) rfl rfl (by decide) s59_strip s59_ok hsz hk
theorem isEvent_call [Tabs prog] {h : Zh} {n : Nat} {e : Int} {v : Value} (hn : n ≤ 62) : Xl prog 59 [.agg #[Zd (n : Nat), v], Zd e] h (.bool (decide (0 ≤ e) && decide (e < 2 ^ n))) := by
  refine ACall.forget (Low.bool _) ?_
  refine s59_callW (by simp) ?_
  refine Zj ?_
  have hsh : shlV .i64 1 (n : Int) = 2 ^ n := shl1 hn
  have t1 : (h ++ [Blk.cells [Zd (n : Nat), v] 86 false])[h.length]? = some (.cells [Zd (n : Nat), v] 86 false) := Yk _ _
  by_cases h1 : e ≥ 0
  · have e1 : decide (0 ≤ e) = true := by simpa using h1
    by_cases h2 : e < 2 ^ n
    · simp (maxSteps := 2000000) only [s59, ↓Za, ↓Zx, ↓Yc, ↓Zb, ↓Zc, ↓vdn, vup, cond_true, cond_false, aop, Zg, Zt, ev, sput, Ze, Ym, Yr, Nat.reduceBEq, Nat.reduceAdd, Zw, Wa, tup, tyf, boxT, Yv, h1, tA0, Vm t1, Int.natCast_nonneg, hsh, h2, Bool.true_and]
      exact Ext.app _ _ _
    · simp (maxSteps := 2000000) only [s59, ↓Za, ↓Zx, ↓Yc, ↓Zb, ↓Zc, ↓vdn, vup, cond_true, cond_false, aop, Zg, Zt, ev, sput, Ze, Ym, Yr, Nat.reduceBEq, Nat.reduceAdd, Zw, Wa, tup, tyf, boxT, Yv, h1, tA0, Vm t1, Int.natCast_nonneg, hsh, h2, Bool.true_and]
      exact Ext.app _ _ _
  · have e1 : decide (0 ≤ e) = false := by simpa using h1
    simp (maxSteps := 2000000) only [s59, ↓Za, ↓Zx, ↓Yc, ↓Zb, ↓Zc, ↓vdn, vup, cond_true, cond_false, aop, Zg, Zt, ev, sput, Ze, Ym, Yr, Nat.reduceBEq, Nat.reduceAdd, Zw, Wa, tup, boxT, h1, Bool.false_and]
    exact Ext.app _ _ _

/-- Where there are bounds. -/
def evB (n : Int) (e : Int) : Bool := decide (0 ≤ e) && decide (e < 2 ^ n.toNat)
def loQ (n e : Nat) (l : List (Int × Int)) : Rat := minL (cvq n e ((Zz n l).headD [])) ((Zz n l).map (cvq n e))
def hiQ (n e : Nat) (l : List (Int × Int)) : Rat := maxL (cvq n e ((Zz n l).headD [])) ((Zz n l).map (cvq n e))
def bndV (n e : Int) (l : List (Int × Int)) : Value :=
  if Yu n l = true ∧ evB n e = true then (if Zz n.toNat l = [] then .tuple #[frV 0 0, frV 0 0, .int .i64 5] else .tuple #[qV (loQ n.toNat e.toNat l), qV (hiQ n.toNat e.toNat l), .int .i64 0]) else .tuple #[frV 0 0, frV 0 0, .int .i64 2]
theorem BelAt.ext {h h' : Zh} {w : Value} {b : List Rat} (hb : BelAt h w b) (hE : Ext (fun _ => False) h h') : BelAt h' w b := by
  obtain ⟨bl, h1, h2⟩ := hb
  exact ⟨bl, h1, (hE.2 _ (Yl h2) id).trans h2⟩

theorem s17_callW [Tabs Try.prog] {args : List Value} {h : Zh} {Q : Value → Zh → Prop} (hsz : args.length ≤ 65) (hk : AWS Try.prog 65 s17 (Zw Try.prog [.cell 6 26, .cell 7 26, .tmp 8] Q) (Zt 0 args) h) : ACall Try.prog 17 args h Q :=
  Xa Try.func17 rfl (enters_of Try.func17 (by kernel_rfl) rfl) rfl rfl (by decide) s17_strip s17_ok hsz hk
theorem progBounds_call [Tabs prog] {h : Zh} {n e : Int} {v : Value} {l : List (Int × Int)} (hv : PairSl h v l) (hl : l.length < 9223372036854775808) :
    ACall prog 17 [Zd n, v, Zd e] h fun r h' => Ext (fun _ => False) h h' ∧ r = bndV n e l := by
  obtain ⟨p, m, c, rfl⟩ := pairSl_shape hv
  obtain ⟨R, hR⟩ : ∃ R, bndV n e l = R := ⟨_, rfl⟩
  rw [hR]
  obtain ⟨H0, hH0⟩ : ∃ H, H = h ++ [z0] ++ [z0] := ⟨_, rfl⟩
  have hE0 : Ext (fun _ => False) h H0 := by rw [hH0]; exact e2 ..
  have a6 : H0[h.length]? = some z0 := by rw [hH0]; exact b2_0 ..
  have a7 : H0[h.length + 1]? = some z0 := by rw [hH0]; exact b2_1 ..
  have hl0 : H0.length = h.length + 2 := by rw [hH0]; simp
  obtain ⟨H, hH⟩ : ∃ H, H = H0 ++ [Blk.cells [Zd n, .slice p m c] 86 false] := ⟨_, rfl⟩
  have hE1 : Ext (fun _ => False) H0 H := by rw [hH]; exact Ext.app _ _ _
  have hE := hE0.trans hE1
  have b9 : H[H0.length]? = some (.cells [Zd n, .slice p m c] 86 false) := by rw [hH]; exact Yk _ _
  have b6 : H[h.length]? = some z0 := (hE1.2 _ (Yl a6) id).trans a6
  have b7 : H[h.length + 1]? = some z0 := (hE1.2 _ (Yl a7) id).trans a7
  have hvH := hv.ext hE
  refine s17_callW (by simp) ?_
  simp only [s17]
  refine Zf fun N1 hN1 => ?_
  simp (maxSteps := 2000000) only [↓Za, ↓Zb, ↓Zc, vup, cond_false, aop, Zg, Zt, ev, sput, Ze, Nat.reduceBEq, Nat.reduceAdd, tyf, Xp, Yv, List.length_append, List.length_singleton]
  rw [← hH0]
  refine hN1 [(0, Zd n), (1, .slice p m c), (2, Zd e), (6, .pointer (some ⟨h.length, 0, none⟩)), (7, .pointer (some ⟨h.length + 1, 0, none⟩)), (8, .int .i64 0)] _ _ ?_ (by simp (maxSteps := 2000000) only [vup, cond_true, cond_false, Nat.reduceBEq])
  clear hN1
  try clear N1
  refine Zf fun N2 hN2 => ?_
  simp (maxSteps := 2000000) only [↓Za, ↓Zb, ↓Zc, vup, List.map_cons, List.map_nil, cond_true, cond_false, aop, Zg, ev, sput, Ze, Nat.reduceBEq, tyf, bldT, Xp, Yv, storeT (Yk H0 (.cells [.int .i64 0, .slice none 0 0] 86 false)) rfl, Wl]
  rw [← hH]
  refine hN2 [(2, Zd e), (6, .pointer (some ⟨h.length, 0, none⟩)), (7, .pointer (some ⟨h.length + 1, 0, none⟩)), (8, .int .i64 0), (9, .pointer (some ⟨H0.length, 0, none⟩))] _ _ ?_ (by simp (maxSteps := 2000000) only [vup, cond_true, cond_false, Nat.reduceBEq])
  clear hN2
  try clear N2
  -- a refusal
  have refuse : ∀ (G : Zh) (k : Int), Ext (fun _ => False) H G → G[h.length]? = some z0 → G[h.length + 1]? = some z0 → ∀ K : Zh → Prop, (∀ G', Ext (fun _ => False) h G' → G'[h.length]? = some (fC 0 0) → G'[h.length + 1]? = some (fC 0 0) → K G') → Xh prog G 26 (.pointer (some ⟨h.length, 0, none⟩)) (.agg #[Zd 0, Zd 0]) fun G1 => Xh prog G1 26 (.pointer (some ⟨h.length + 1, 0, none⟩)) (.agg #[Zd 0, Zd 0]) K := by
    intro G k hG g6 g7 K hK
    rw [Wd g6 rfl]
    have g7' : (G.set h.length (fC 0 0))[h.length + 1]? = some z0 := by rw [List.getElem?_set_ne (by omega)]; exact g7
    rw [Wd g7' rfl]
    refine hK _ (((hE.trans hG).set_ge (Nat.le_refl _) _).set_ge (by omega) _) ?_ (Xv (Yl g7') _)
    rw [List.getElem?_set_ne (by omega)]; exact Xv (Yl g6) _
  refine Zs fun M hM => ?_
  refine Zf fun N3 hN3 => ?_
  have bad : ¬ (Yu n l = true ∧ evB n e = true) → ∀ e', ELe e' [(2, Zd e), (6, .pointer (some ⟨h.length, 0, none⟩)), (7, .pointer (some ⟨h.length + 1, 0, none⟩)), (8, .int .i64 0), (9, .pointer (some ⟨H0.length, 0, none⟩)), (25, .bool true)] → N3 e' H := by
    intro hb e' he
    refine hN3 _ _ _ ?_ he
    refine Wu rfl ?_
    refine Zj ?_
    simp (maxSteps := 2000000) only [↓Za, ↓Zx, ↓Yc, ↓Zb, ↓Zc, vup, List.map_nil, cond_true, cond_false, aop, Zg, ev, sput, Ze, Nat.reduceBEq, Zw, Wa, tup, bldF0]
    refine refuse H 2 (Ext.refl _ _) b6 b7 _ fun G' g1 g2 g3 => ?_
    simp (maxSteps := 2000000) only [Wf g2, Wf g3]
    rw [← hR, bndV, if_neg hb]
    exact ⟨g1, rfl⟩
  simp (maxSteps := 2000000) only [↓Za, ↓Zc, vup, List.map_cons, List.map_nil, cond_true, cond_false, aop, ev, sput, Ze, unK, Nat.reduceBEq, Yx, List.nil_append, List.append_nil, loadT b9]
  refine (valid_call hvH hl).mono ?_
  rintro _ H ⟨rfl, rfl⟩
  cases hval : Yu n l with
  | false =>
    simp (maxSteps := 2000000) only [↓Zb, ↓vdn, vup, cond_true, cond_false, Zg, ev, sput, Ze, Nat.reduceBEq]
    exact bad (by rw [hval]; simp) _ (by simp (maxSteps := 2000000) only [vup, cond_true, cond_false, Nat.reduceBEq])
  | true =>
    obtain ⟨k, hk⟩ : ∃ k : Nat, n = k := ⟨n.toNat, by simp only [Yu, Bool.and_eq_true, decide_eq_true_eq] at hval; omega⟩
    subst hk
    obtain ⟨hn2, hn5, hl1, hl6, hok⟩ := valid_spec hval
    have ie := isEvent_call (h := H) (n := k) (e := e) (v := .slice p m c) (by omega)
    have hevB : evB k e = (decide (0 ≤ e) && decide (e < 2 ^ k)) := by rw [evB, Int.toNat_natCast]
    rw [← hevB] at ie
    simp (maxSteps := 2000000) only [↓Zb, ↓Zc, ↓vdn, vup, List.map_cons, List.map_nil, cond_true, cond_false, aop, Zg, ev, sput, Ze, unK, Nat.reduceBEq, loadT b9, Yx, List.nil_append, List.append_nil]
    refine ie.mono ?_
    rintro _ H ⟨rfl, rfl⟩
    cases hev : evB k e with
    | false =>
      simp (maxSteps := 2000000) only [vup]
      exact bad (by rw [hev]; simp) _ (by simp (maxSteps := 2000000) only [vup, cond_true, cond_false, Nat.reduceBEq])
    | true =>
      clear bad
      simp (maxSteps := 2000000) only [vup]
      refine hN3 [(2, Zd e), (6, .pointer (some ⟨h.length, 0, none⟩)), (7, .pointer (some ⟨h.length + 1, 0, none⟩)), (8, .int .i64 0), (9, .pointer (some ⟨H0.length, 0, none⟩)), (25, .bool false)] _ _ ?_ (by simp (maxSteps := 2000000) only [vup, cond_true, cond_false, Nat.reduceBEq])
      clear hN3
      try clear N3
      refine Xu rfl ?_
      refine Zj ?_
      simp (maxSteps := 2000000) only [↓Ya, Zg]
      refine hM [(2, Zd e), (6, .pointer (some ⟨h.length, 0, none⟩)), (7, .pointer (some ⟨h.length + 1, 0, none⟩)), (8, .int .i64 0), (9, .pointer (some ⟨H0.length, 0, none⟩))] _ _ ?_ (by simp (maxSteps := 2000000) only [vup, cond_true, cond_false, Nat.reduceBEq])
      clear hM
      try clear M
      have hev' := hev
      rw [hevB, Bool.and_eq_true, decide_eq_true_eq, decide_eq_true_eq] at hev'
      obtain ⟨ee, hee⟩ : ∃ ee : Nat, e = ee := ⟨e.toNat, by omega⟩
      subst hee
      have hee2 : ee < 2 ^ k := by
        have := hev'.2
        exact_mod_cast this
      have hpk := pow_le (show k ≤ 62 by omega)
      have hbnd : bndV k ee l = if Zz k l = [] then .tuple #[frV 0 0, frV 0 0, .int .i64 5] else .tuple #[qV (loQ k ee l), qV (hiQ k ee l), .int .i64 0] := by
        rw [bndV, if_pos ⟨hval, hev⟩, Int.toNat_natCast, Int.toNat_natCast]
      have hcor := corners_call (n := k) hvH hval (tame_all hn5 (cts_of hval))
      refine Zf fun N4 hN4 => ?_
      simp (maxSteps := 2000000) only [↓Za, ↓Zb, ↓Zc, vup, List.map_cons, List.map_nil, cond_true, cond_false, aop, Zg, ev, sput, Ze, Nat.reduceBEq, Yx, List.nil_append, List.append_nil, loadT b9]
      refine (hcor).mono ?_
      rintro r H1 ⟨hEc, ⟨ws, hor, heach⟩, hb⟩
      refine hN4 [(2, Zd (ee : Nat)), (6, .pointer (some ⟨h.length, 0, none⟩)), (7, .pointer (some ⟨h.length + 1, 0, none⟩)), (8, .int .i64 0), (9, .pointer (some ⟨H0.length, 0, none⟩)), (10, r)] _ _ ?_ (by simp (maxSteps := 2000000) only [vup, cond_true, cond_false, Nat.reduceBEq])
      clear hN4
      try clear N4
      have c6 : H1[h.length]? = some z0 := (hEc.2 _ (Yl b6) id).trans b6
      have c7 : H1[h.length + 1]? = some z0 := (hEc.2 _ (Yl b7) id).trans b7
      have hlen := heach.len
      have hclen := cornersTo_len k l (2 ^ k - 1)
      have hp32 : (2 : Nat) ^ k ≤ 2 ^ 5 := Nat.pow_le_pow_right (by decide) hn5
      obtain ⟨cs, hcs⟩ : ∃ cs, Zz k l = cs := ⟨_, rfl⟩
      have hcm : ∀ b ∈ cs, b ∈ Zz k l := fun b hb => by rw [hcs]; exact hb
      have hcl : cs.length ≤ 32 := by
        rw [← hcs]
        have : (Zz k l).length ≤ 2 ^ k - 1 := hclen
        omega
      rw [hcs] at hlen heach hbnd
      refine Zs fun M hM => ?_
      by_cases hnil : cs = []
      · subst hnil
        have h0 : (((ws.length : Nat) : Int) == 0) = true := by simp [hlen]
        refine Zf fun N5 hN5 => ?_
        simp (maxSteps := 2000000) only [↓Za, ↓Zb, ↓Zc, vup, List.map_cons, List.map_nil, cond_true, cond_false, aop, Zg, ev, sput, Ze, Ym, Yr, Zm, Nat.reduceBEq, tyf, hor.val.len, h0]
        refine hN5 [(2, Zd (ee : Nat)), (6, .pointer (some ⟨h.length, 0, none⟩)), (7, .pointer (some ⟨h.length + 1, 0, none⟩)), (8, .int .i64 0), (9, .pointer (some ⟨H0.length, 0, none⟩)), (10, r), (32, .bool true)] _ _ ?_ (by simp (maxSteps := 2000000) only [vup, cond_true, cond_false, Nat.reduceBEq])
        clear hN5
        try clear N5
        refine Wu rfl ?_
        refine Zj ?_
        simp (maxSteps := 2000000) only [↓Za, ↓Zx, ↓Yc, ↓Zb, ↓Zc, vup, List.map_nil, cond_true, cond_false, aop, Zg, ev, sput, Ze, Nat.reduceBEq, Zw, Wa, tup, bldF0]
        refine refuse H1 5 hEc c6 c7 _ fun G' g1 g2 g3 => ?_
        simp (maxSteps := 2000000) only [Wf g2, Wf g3]
        rw [← hR, hbnd, if_pos rfl]
        exact ⟨g1, rfl⟩
      have hpos : 0 < ws.length := by
        rw [hlen]; exact List.length_pos_iff.2 hnil
      have h0 : (((ws.length : Nat) : Int) == 0) = false := beq_eq_false_iff_ne.2 (by omega)
      refine Zf fun N6 hN6 => ?_
      simp (maxSteps := 2000000) only [↓Za, ↓Zb, ↓Zc, vup, List.map_cons, List.map_nil, cond_true, cond_false, aop, Zg, ev, sput, Ze, Ym, Yr, Zm, Nat.reduceBEq, tyf, hor.val.len, h0]
      refine hN6 [(2, Zd (ee : Nat)), (6, .pointer (some ⟨h.length, 0, none⟩)), (7, .pointer (some ⟨h.length + 1, 0, none⟩)), (8, .int .i64 0), (9, .pointer (some ⟨H0.length, 0, none⟩)), (10, r), (32, .bool false)] _ _ ?_ (by simp (maxSteps := 2000000) only [vup, cond_true, cond_false, Nat.reduceBEq])
      clear hN6
      try clear N6
      refine Xu rfl ?_
      refine Zj ?_
      simp (maxSteps := 2000000) only [↓Ya, Zg]
      refine hM [(2, Zd (ee : Nat)), (6, .pointer (some ⟨h.length, 0, none⟩)), (7, .pointer (some ⟨h.length + 1, 0, none⟩)), (8, .int .i64 0), (9, .pointer (some ⟨H0.length, 0, none⟩)), (10, r)] _ _ ?_ (by simp (maxSteps := 2000000) only [vup, cond_true, cond_false, Nat.reduceBEq])
      clear hM
      try clear M
      clear refuse
      -- the first one
      obtain ⟨v0, hv0⟩ : ∃ v0, cvq k ee (cs.headD []) = v0 := ⟨_, rfl⟩
      have hhead : ∀ i, i < ws.length → BelAt H1 (ws.getD i undef) (cs.getD i []) := fun i hi => heach.get undef [] (by omega)
      have hmemi : ∀ i, i < ws.length → cs.getD i [] ∈ cs := fun i hi => by
        rw [List.getD, List.getElem?_eq_getElem (show i < cs.length by omega)]; exact List.getElem_mem _
      have hcs0 : cs.headD [] = cs.getD 0 [] := by cases cs <;> rfl
      have of0 : Xl prog 61 [ws.getD 0 undef, Zd (ee : Nat)] H1 (qV v0) := by
        rw [← hv0, hcs0]
        exact corner_of hval (hcm _ (hmemi 0 hpos)) (hhead 0 hpos) (by omega)
      have hi0 : ∀ K : Value → Prop, Xb prog 88 r (.int .i64 0) K = K (Vi r 1 0) := fun K => by
        have := hor.val.idx el_88 esz_90 (k := .i64) hpos K
        simpa using this
      obtain ⟨F, hF⟩ : ∃ F : Rat → Rat → Zh, F = fun a b => (H1.set h.length (fC a.num a.den)).set (h.length + 1) (fC b.num b.den) := ⟨_, rfl⟩
      have l1 : h.length + 1 < H1.length := Yl c7
      have F6 : ∀ a b, (F a b)[h.length]? = some (fC a.num a.den) := fun a b => by
        simp only [hF]; rw [List.getElem?_set_ne (by omega)]; exact Xv (Yl c6) _
      have F7 : ∀ a b, (F a b)[h.length + 1]? = some (fC b.num b.den) := fun a b => by
        simp only [hF]; exact Xv (by rw [List.length_set]; exact l1) _
      have FE : ∀ a b, Ext (fun _ => False) h (F a b) := fun a b => by
        simp only [hF]; exact (((hE.trans hEc).set_ge (Nat.le_refl _) _).set_ge (by omega) _)
      have FS : ∀ a b, Ext (fun i => i = h.length ∨ i = h.length + 1) H1 (F a b) := fun a b => by
        simp only [hF]; exact (Ext.set _ (.inl rfl)).trans (Ext.set _ (.inr rfl))
      have st6 : ∀ {K : Zh → Prop}, Xh prog H1 26 (.pointer (some ⟨h.length, 0, none⟩)) (.agg #[Zd v0.num, Zd v0.den]) K = K (H1.set h.length (fC v0.num v0.den)) := fun {K} => Wd c6 rfl
      have st7 : ∀ {K : Zh → Prop}, Xh prog (H1.set h.length (fC v0.num v0.den)) 26 (.pointer (some ⟨h.length + 1, 0, none⟩)) (.agg #[Zd v0.num, Zd v0.den]) K = K (F v0 v0) := fun {K} => by
        rw [Wd (show (H1.set h.length (fC v0.num v0.den))[h.length + 1]? = some z0 by rw [List.getElem?_set_ne (by omega)]; exact c7) rfl, hF]
      refine Zf fun N7 hN7 => ?_
      simp only [q17_7]
      refine Wo [(4, 1), (9, 1)] (by kernel_rfl) (by kernel_rfl) (by kernel_rfl) (by kernel_rfl) ?_
      refine dops_cut 5 rfl fun N1 hN1 => ?_
      simp (maxSteps := 2000000) only [↓Xi, ↓vdn, vup, List.map_cons, List.map_nil, cond_true, cond_false, aop, ev, sput, Ze, Nat.reduceBEq, Nat.reduceAdd, List.take_succ_cons, List.take_zero, hi0, hor.val.load shp_90 hpos, Yx, List.nil_append, List.append_nil]
      refine ⟨_, _, of0, rfl, ?_⟩
      refine hN1 _ _ ?_
      clear hN1 N1
      refine dops_cut 5 rfl fun N1 hN1 => ?_
      simp (maxSteps := 2000000) only [↓Xi, ↓vdn, vup, List.map_cons, List.map_nil, cond_true, cond_false, aop, ev, sput, Ze, Nat.reduceBEq, Nat.reduceAdd, List.drop_succ_cons, List.drop_zero, List.take_succ_cons, List.take_zero, hi0, hor.val.load shp_90 hpos, Yx, List.nil_append, List.append_nil]
      refine ⟨_, _, of0, rfl, ?_⟩
      refine hN1 _ _ ?_
      clear hN1 N1
      simp (maxSteps := 2000000) only [↓Xi, ↓vdn, vup, cond_true, cond_false, aop, Zg, ev, Ze, Nat.reduceBEq, Nat.reduceAdd, List.drop_succ_cons, List.drop_zero, qV, frV, st6, st7]
      refine hN7 [(2, Zd (ee : Nat)), (6, .pointer (some ⟨h.length, 0, none⟩)), (7, .pointer (some ⟨h.length + 1, 0, none⟩)), (8, .int .i64 0), (9, .pointer (some ⟨H0.length, 0, none⟩)), (10, r)] _ _ ?_ (by simp (maxSteps := 2000000) only [vup, cond_true, cond_false, Nat.reduceBEq])
      clear hN7
      try clear N7
      -- all of them
      have hsm : ∀ i, i < ws.length → SmQ (cvq k ee (cs.getD i [])) := fun i hi => corner_sm hval (hcm _ (hmemi i hi)) ee
      have hsv0 : SmQ v0 := by rw [← hv0, hcs0]; exact hsm 0 hpos
      obtain ⟨vs, hvs⟩ : ∃ vs, cs.map (cvq k ee) = vs := ⟨_, rfl⟩
      have hvl : vs.length = ws.length := by rw [← hvs, List.length_map, hlen]
      have hvg : ∀ i, i < ws.length → vs.take i ++ [cvq k ee (cs.getD i [])] = vs.take (i + 1) := fun i hi => by
        have e : vs.getD i 0 = cvq k ee (cs.getD i []) := by
          rw [← hvs, List.getD, List.getElem?_map, List.getElem?_eq_getElem (show i < cs.length by omega), List.getD, List.getElem?_eq_getElem (show i < cs.length by omega)]; rfl
        rw [← e]; exact (take_snoc (by omega)).symm
      have hmm : ∀ i, i ≤ ws.length → SmQ (minL v0 (vs.take i)) ∧ SmQ (maxL v0 (vs.take i)) ∧ minL v0 (vs.take i) ≤ maxL v0 (vs.take i) := fun i hi => by
        have hall : ∀ v ∈ vs.take i, SmQ v := fun v hv => by
          have := List.mem_of_mem_take hv
          rw [← hvs] at this
          obtain ⟨b, hb, rfl⟩ := List.mem_map.1 this
          exact corner_sm hval (hcm b hb) ee
        obtain ⟨g1, g2, g3⟩ := minL_spec (vs.take i) v0
        obtain ⟨f1, f2, f3⟩ := maxL_spec (vs.take i) v0
        refine ⟨?_, ?_, Rat.le_trans g2 f2⟩
        · rcases g1 with g | g
          · rw [g]; exact hsv0
          · exact hall _ g
        · rcases f1 with g | g
          · rw [g]; exact hsv0
          · exact hall _ g
      refine Zs fun Z hZ => ?_
      refine Zf fun N8 hN8 => ?_
      simp (maxSteps := 2000000) only [↓Za, ↓Zb, ↓Zc, vup, List.map_cons, List.map_nil, cond_true, cond_false, aop, Zg, ev, sput, Ze, Zm, Nat.reduceBEq, tyf, hor.val.len]
      refine hN8 [(2, Zd (ee : Nat)), (6, .pointer (some ⟨h.length, 0, none⟩)), (7, .pointer (some ⟨h.length + 1, 0, none⟩)), (8, .int .i64 0), (9, .pointer (some ⟨H0.length, 0, none⟩)), (10, r), (45, r), (46, Zd (ws.length : Nat)), (47, .int .i64 0)] _ _ ?_ (by simp (maxSteps := 2000000) only [vup, cond_true, cond_false, Nat.reduceBEq])
      clear hN8
      try clear N8
      refine Zu ?_
      refine Yf fun Q hQ => ?_
      refine Xj (γ := Nat × Zh) (fun s => s.1 ≤ ws.length ∧ Ext (fun i => i = h.length ∨ i = h.length + 1) H1 s.2 ∧ Ext (fun _ => False) h s.2 ∧ s.2[h.length]? = some (fC (minL v0 (vs.take s.1)).num (minL v0 (vs.take s.1)).den) ∧ s.2[h.length + 1]? = some (fC (maxL v0 (vs.take s.1)).num (maxL v0 (vs.take s.1)).den))
        (fun s => ([(2, Zd (ee : Nat)), (6, .pointer (some ⟨h.length, 0, none⟩)), (7, .pointer (some ⟨h.length + 1, 0, none⟩)), (8, .int .i64 0), (9, .pointer (some ⟨H0.length, 0, none⟩)), (10, r), (45, r), (46, Zd (ws.length : Nat)), (47, Zd (s.1 : Nat))], s.2)) (fun s => ws.length - s.1) (0, F v0 v0) ⟨Nat.zero_le _, FS _ _, FE _ _, F6 _ _, F7 _ _⟩ (by simp (maxSteps := 2000000) only [vup, cond_true, cond_false, Nat.reduceBEq, Int.natCast_zero]) rfl ?_
      rintro ⟨i, G⟩ ⟨hi, hGS, hGE, g6, g7⟩
      simp only at hi hGS hGE g6 g7
      refine Yf fun Q2 hQ2 => ?_
      simp only [l17_0]
      have horG : OwnV 88 G r ws ∨ True := .inr trivial
      by_cases hin : (i : Int) < ws.length
      · have hi' : i < ws.length := by omega
        obtain ⟨sm1, sm2, smle⟩ := hmm i hi
        have smf := hsm i hi'
        have hsn := hvg i hi'
        have hBel := hhead i hi'
        obtain ⟨f, hf⟩ : ∃ f, cvq k ee (cs.getD i []) = f := ⟨_, rfl⟩
        rw [hf] at smf hsn
        have hmin := minL_snoc (vs.take i) f v0
        have hmax := maxL_snoc (vs.take i) f v0
        rw [hsn] at hmin hmax
        obtain ⟨A, hA⟩ : ∃ A, minL v0 (vs.take i) = A := ⟨_, rfl⟩
        obtain ⟨B, hB⟩ : ∃ A, maxL v0 (vs.take i) = A := ⟨_, rfl⟩
        rw [hA] at sm1 smle hmin g6
        rw [hB] at sm2 smle hmax g7
        have hkeepB : ∀ b x, H1[b]? = some x → b ≠ h.length → b ≠ h.length + 1 → G[b]? = some x := fun b x hb n1 n2 => (hGS.2 b (Yl hb) (by omega)).trans hb
        have hws : ValSl G r ws := hor.val.same fun b hb => hGS.2 b (hor.lt hb) (by
          rintro (h1 | h1)
          · obtain ⟨c', hc'⟩ := hor.blk hb; rw [h1, c6] at hc'; exact absurd (Blk.cells.inj (Option.some.inj hc')).2.1 (by decide)
          · obtain ⟨c', hc'⟩ := hor.blk hb; rw [h1, c7] at hc'; exact absurd (Blk.cells.inj (Option.some.inj hc')).2.1 (by decide))
        have hBelG : BelAt G (ws.getD i undef) (cs.getD i []) := by
          obtain ⟨bl, e1, e2⟩ := hBel
          have hlc := (corner_facts hval (hcm _ (hmemi i hi'))).1
          refine ⟨bl, e1, hkeepB bl _ e2 (fun hc => ?_) (fun hc => ?_)⟩
          · rw [hc, c6] at e2
            have := congrArg List.length (Blk.cells.inj (Option.some.inj e2)).1
            simp only [List.length_map, Xc, hlc, List.length_cons, List.length_nil] at this
            omega
          · rw [hc, c7] at e2
            have := congrArg List.length (Blk.cells.inj (Option.some.inj e2)).1
            simp only [List.length_map, Xc, hlc, List.length_cons, List.length_nil] at this
            omega
        have ofi : Xl prog 61 [ws.getD i undef, Zd (ee : Nat)] G (qV f) := by
          rw [← hf]
          exact corner_of hval (hcm _ (hmemi i hi')) hBelG (by omega)
        obtain ⟨hh, hhe⟩ : ∃ hh, hh = G ++ [fC f.num f.den] := ⟨_, rfl⟩
        have g13 : hh[G.length]? = some (fC f.num f.den) := by rw [hhe]; exact Yk _ _
        have g6' : hh[h.length]? = some (fC A.num A.den) := by rw [hhe]; exact Xn g6 _
        have g7' : hh[h.length + 1]? = some (fC B.num B.den) := by rw [hhe]; exact Xn g7 _
        have hES : Ext (fun i => i = h.length ∨ i = h.length + 1) H1 hh := by rw [hhe]; exact hGS.trans (Ext.app _ _ _)
        have hEE : Ext (fun _ => False) h hh := by rw [hhe]; exact hGE.trans (Ext.app _ _ _)
        refine Zf fun N9 hN9 => ?_
        simp (maxSteps := 2000000) only [↓Za, ↓Zb, ↓Zc, vup, cond_true, cond_false, aop, Zg, ev, sput, Ze, Ym, Yr, Nat.reduceBEq, hin]
        refine hN9 [(2, Zd (ee : Nat)), (6, .pointer (some ⟨h.length, 0, none⟩)), (7, .pointer (some ⟨h.length + 1, 0, none⟩)), (8, .int .i64 0), (9, .pointer (some ⟨H0.length, 0, none⟩)), (10, r), (45, r), (46, Zd (ws.length : Nat)), (47, Zd (i : Nat)), (48, .bool true)] _ _ ?_ (by simp (maxSteps := 2000000) only [vup, cond_true, cond_false, Nat.reduceBEq])
        clear hN9
        try clear N9
        refine Zf fun N10 hN10 => ?_
        simp (maxSteps := 2000000) only [↓Ya, ↓vdn, vup, cond_true, cond_false, Zg, ev, Nat.reduceBEq]
        refine hN10 [(2, Zd (ee : Nat)), (6, .pointer (some ⟨h.length, 0, none⟩)), (7, .pointer (some ⟨h.length + 1, 0, none⟩)), (8, .int .i64 0), (9, .pointer (some ⟨H0.length, 0, none⟩)), (10, r), (45, r), (46, Zd (ws.length : Nat)), (47, Zd (i : Nat))] _ _ ?_ (by simp (maxSteps := 2000000) only [vup, cond_true, cond_false, Nat.reduceBEq])
        clear hN10
        try clear N10
        refine Zs fun D hD => ?_
        refine Zu ?_
        have fin : ∀ e' G' (a b : Rat), minL v0 (vs.take (i + 1)) = a → maxL v0 (vs.take (i + 1)) = b → Ext (fun i => i = h.length ∨ i = h.length + 1) H1 G' → Ext (fun _ => False) h G' → G'[h.length]? = some (fC a.num a.den) → G'[h.length + 1]? = some (fC b.num b.den) → ELe e' [(2, Zd (ee : Nat)), (6, .pointer (some ⟨h.length, 0, none⟩)), (7, .pointer (some ⟨h.length + 1, 0, none⟩)), (8, .int .i64 0), (9, .pointer (some ⟨H0.length, 0, none⟩)), (10, r), (45, r), (46, Zd (ws.length : Nat)), (47, Zd (i : Nat))] → D e' G' := by
          intro e' G' a b e1 e2 e3 e4 e5 e6 he
          subst e1
          subst e2
          refine hD _ _ _ ?_ he
          refine Zj ?_
          simp (maxSteps := 2000000) only [↓Za, ↓Zb, ↓Zc, vup, cond_true, cond_false, aop, ev, sput, Ze, Ym, Yr, Nat.reduceBEq, add1 (show i < 9223372036854775807 by omega)]
          exact hQ2 _ _ _ ⟨(i + 1, G'), ⟨hi', e3, e4, e5, e6⟩, by simp only; omega, by simp (maxSteps := 2000000) only [vup, cond_true, cond_false, Nat.reduceBEq], rfl⟩
        refine Zf fun N11 hN11 => ?_
        simp (maxSteps := 2000000) only [↓Za, ↓Zb, ↓Zc, vup, cond_true, cond_false, aop, Zg, ev, sput, Ze, Nat.reduceBEq, hws.idx el_88 esz_90 hi', hws.load shp_90 hi']
        refine hN11 [(2, Zd (ee : Nat)), (6, .pointer (some ⟨h.length, 0, none⟩)), (7, .pointer (some ⟨h.length + 1, 0, none⟩)), (8, .int .i64 0), (9, .pointer (some ⟨H0.length, 0, none⟩)), (10, r), (12, ws.getD i undef), (45, r), (46, Zd (ws.length : Nat)), (47, Zd (i : Nat))] _ _ ?_ (by simp (maxSteps := 2000000) only [vup, cond_true, cond_false, Nat.reduceBEq])
        clear hN11
        try clear N11
        refine Zf fun N12 hN12 => ?_
        simp (maxSteps := 2000000) only [↓Za, ↓Zb, ↓Zc, vup, List.map_cons, List.map_nil, cond_true, cond_false, aop, Zg, ev, sput, Ze, Nat.reduceBEq, Yx, List.nil_append, List.append_nil]
        refine (ofi).mono ?_
        rintro _ G ⟨rfl, rfl⟩
        simp (maxSteps := 2000000) only [tyf, qV, frV, Xp, Yv, Wd (Yk G z0) rfl, Wl]
        rw [← hhe]
        refine hN12 [(2, Zd (ee : Nat)), (6, .pointer (some ⟨h.length, 0, none⟩)), (7, .pointer (some ⟨h.length + 1, 0, none⟩)), (8, .int .i64 0), (9, .pointer (some ⟨H0.length, 0, none⟩)), (10, r), (12, ws.getD i undef), (13, .pointer (some ⟨G.length, 0, none⟩)), (45, r), (46, Zd (ws.length : Nat)), (47, Zd (i : Nat))] _ _ ?_ (by simp (maxSteps := 2000000) only [vup, cond_true, cond_false, Nat.reduceBEq])
        clear hN12
        try clear N12
        refine Zf fun N13 hN13 => ?_
        simp (maxSteps := 2000000) only [↓Za, ↓Zb, ↓Zc, vup, List.map_cons, List.map_nil, cond_true, cond_false, aop, Zg, ev, sput, Ze, Nat.reduceBEq, Yx, List.nil_append, List.append_nil, Wf g13, Wf g6']
        refine ((smf.less sm1 hh)).mono ?_
        rintro _ hh ⟨rfl, rfl⟩
        refine hN13 [(2, Zd (ee : Nat)), (6, .pointer (some ⟨h.length, 0, none⟩)), (7, .pointer (some ⟨h.length + 1, 0, none⟩)), (8, .int .i64 0), (9, .pointer (some ⟨H0.length, 0, none⟩)), (10, r), (12, ws.getD i undef), (13, .pointer (some ⟨G.length, 0, none⟩)), (45, r), (46, Zd (ws.length : Nat)), (47, Zd (i : Nat)), (56, .bool (decide (f < A)))] _ _ ?_ (by simp (maxSteps := 2000000) only [vup, cond_true, cond_false, Nat.reduceBEq])
        clear hN13
        try clear N13
        by_cases h1 : f < A
        · have nb : ¬ B < f := Rat.not_lt.2 (Rat.le_trans (Rat.le_of_lt h1) smle)
          rw [if_pos h1] at hmin
          rw [if_neg nb] at hmax
          rw [decide_eq_true h1]
          refine Wu rfl ?_
          refine Zj ?_
          simp (maxSteps := 2000000) only [↓Za, ↓Zb, ↓Zc, vup, cond_true, cond_false, aop, Zg, Zv, ev, sput, Ze, Nat.reduceBEq, Wf g13, Wd g6' rfl]
          refine fin _ _ f B hmin hmax (hES.trans (Ext.set _ (.inl rfl))) (hEE.set_ge (Nat.le_refl _) _) (Xv (Yl g6') _) ?_ (by simp (maxSteps := 2000000) only [vup, cond_true, cond_false, Nat.reduceBEq])
          rw [List.getElem?_set_ne (by omega)]; exact g7'
        · rw [if_neg h1] at hmin
          rw [decide_eq_false h1]
          refine Xu rfl ?_
          refine Zf fun N14 hN14 => ?_
          simp (maxSteps := 2000000) only [↓Za, ↓Zb, ↓Zc, vup, List.map_cons, List.map_nil, cond_true, cond_false, aop, Zg, ev, sput, Ze, Nat.reduceBEq, Yx, List.nil_append, List.append_nil, Wf g13, Wf g7']
          refine ((sm2.less smf hh)).mono ?_
          rintro _ hh ⟨rfl, rfl⟩
          refine hN14 [(2, Zd (ee : Nat)), (6, .pointer (some ⟨h.length, 0, none⟩)), (7, .pointer (some ⟨h.length + 1, 0, none⟩)), (8, .int .i64 0), (9, .pointer (some ⟨H0.length, 0, none⟩)), (10, r), (12, ws.getD i undef), (13, .pointer (some ⟨G.length, 0, none⟩)), (45, r), (46, Zd (ws.length : Nat)), (47, Zd (i : Nat)), (56, .bool false), (60, .bool (decide (B < f)))] _ _ ?_ (by simp (maxSteps := 2000000) only [vup, cond_true, cond_false, Nat.reduceBEq])
          clear hN14
          try clear N14
          by_cases h2 : B < f
          · rw [if_pos h2] at hmax
            rw [decide_eq_true h2]
            refine Wu rfl ?_
            refine Zj ?_
            simp (maxSteps := 2000000) only [↓Za, ↓Zb, ↓Zc, vup, cond_true, cond_false, aop, Zg, Zv, ev, sput, Ze, Nat.reduceBEq, Wf g13, Wd g7' rfl]
            refine fin _ _ A f hmin hmax (hES.trans (Ext.set _ (.inr rfl))) (hEE.set_ge (by omega) _) ?_ (Xv (Yl g7') _) (by simp (maxSteps := 2000000) only [vup, cond_true, cond_false, Nat.reduceBEq])
            rw [List.getElem?_set_ne (by omega)]; exact g6'
          · rw [if_neg h2] at hmax
            rw [decide_eq_false h2]
            refine Xu rfl ?_
            refine Zj ?_
            simp (maxSteps := 2000000) only [↓Ya, Zg, Zv]
            exact fin _ _ A B hmin hmax hES hEE g6' g7' (by simp (maxSteps := 2000000) only [vup, cond_true, cond_false, Nat.reduceBEq])
      · obtain rfl : i = ws.length := by omega
        refine Zf fun N15 hN15 => ?_
        simp (maxSteps := 2000000) only [↓Za, ↓Zb, ↓Zc, vup, cond_true, cond_false, aop, Zg, ev, sput, Ze, Ym, Yr, Nat.reduceBEq, hin]
        refine hN15 [(2, Zd (ee : Nat)), (6, .pointer (some ⟨h.length, 0, none⟩)), (7, .pointer (some ⟨h.length + 1, 0, none⟩)), (8, .int .i64 0), (9, .pointer (some ⟨H0.length, 0, none⟩)), (10, r), (45, r), (46, Zd (ws.length : Nat)), (47, Zd ws.length), (48, .bool false)] _ _ ?_ (by simp (maxSteps := 2000000) only [vup, cond_true, cond_false, Nat.reduceBEq])
        clear hN15
        try clear N15
        refine Zf fun N16 hN16 => ?_
        simp (maxSteps := 2000000) only [↓Xo, ↓vdn, vup, cond_true, cond_false, Zg, ev, Nat.reduceBEq]
        refine hQ2 _ _ _ (hQ _ _ _ ?_)
        simp (maxSteps := 2000000) only [Zg, Zv, Zw, if_true]
        refine hZ [(2, Zd (ee : Nat)), (6, .pointer (some ⟨h.length, 0, none⟩)), (7, .pointer (some ⟨h.length + 1, 0, none⟩)), (8, .int .i64 0), (9, .pointer (some ⟨H0.length, 0, none⟩)), (10, r), (48, .bool false)] _ _ ?_ (by simp (maxSteps := 2000000) only [vup, cond_true, cond_false, Nat.reduceBEq])
        clear hZ
        try clear Z
        have htk : vs.take ws.length = vs := List.take_of_length_le (by omega)
        rw [htk] at g6 g7
        obtain ⟨A, hA⟩ : ∃ A, minL v0 vs = A := ⟨_, rfl⟩
        obtain ⟨B, hB⟩ : ∃ A, maxL v0 vs = A := ⟨_, rfl⟩
        rw [hA] at g6
        rw [hB] at g7
        have s6 : ∀ {K : Zh → Prop}, Xh prog G 26 (.pointer (some ⟨h.length, 0, none⟩)) (.agg #[Zd A.num, Zd A.den]) K = K G := fun {K} => by
          rw [Wd g6 rfl]
          obtain ⟨x1, x2⟩ := List.getElem?_eq_some_iff.1 g6
          rw [show G.set h.length (fC A.num A.den) = G by rw [← x2]; exact List.set_getElem_self x1]
        have s7 : ∀ {K : Zh → Prop}, Xh prog G 26 (.pointer (some ⟨h.length + 1, 0, none⟩)) (.agg #[Zd B.num, Zd B.den]) K = K G := fun {K} => by
          rw [Wd g7 rfl]
          obtain ⟨x1, x2⟩ := List.getElem?_eq_some_iff.1 g7
          rw [show G.set (h.length + 1) (fC B.num B.den) = G by rw [← x2]; exact List.set_getElem_self x1]
        refine Zf fun N17 hN17 => ?_
        simp only [q17_17]
        refine aw_drawR (fun z => z[h.length + 1]? = some (fC B.num B.den)) [(1, 5)] (by kernel_rfl) (by kernel_rfl) (by kernel_rfl) (by kernel_rfl) g7 ?_
        simp (maxSteps := 2000000) only [↓dopsR_nil, ↓vdn, vup, cond_true, cond_false, aop, Zg, ev, sput, Ze, Nat.reduceBEq, Nat.reduceAdd, Wf g6, s6]
        refine ⟨.agg #[Zd B.num, Zd (B.den : Int)], fun z hz => by simp only [Wf hz], g7, ?_⟩
        rw [s7]
        refine ⟨g7, ?_⟩
        refine hN17 [(2, Zd (ee : Nat)), (6, .pointer (some ⟨h.length, 0, none⟩)), (7, .pointer (some ⟨h.length + 1, 0, none⟩)), (8, .int .i64 0), (9, .pointer (some ⟨H0.length, 0, none⟩)), (10, r), (48, .bool false)] _ _ ?_ (by simp (maxSteps := 2000000) only [vup, cond_true, cond_false, Nat.reduceBEq])
        clear hN17
        try clear N17
        refine Zj ?_
        simp (maxSteps := 2000000) only [↓Yc, vup, cond_true, cond_false, Nat.reduceBEq, Zw, Wa, tup, Wf g6, Wf g7]
        rw [← hR, hbnd, if_neg hnil, loQ, hiQ, hcs, hvs, hv0, hA, hB]
        exact ⟨hGE, rfl⟩
end Go.Proofs.Try.Am

namespace Go.Proofs.Try.Am
open Go.Am Bq
set_option maxRecDepth 100000
set_option maxHeartbeats 4000000

theorem bnd_sm {n e : Nat} {l : List (Int × Int)} (hval : Yu n l = true) (hne : Zz n l ≠ []) : SmQ (loQ n e l) ∧ SmQ (hiQ n e l) := by
  have hall : ∀ v ∈ (Zz n l).map (cvq n e), SmQ v := fun v hv => by
    obtain ⟨b, hb, rfl⟩ := List.mem_map.1 hv
    exact corner_sm hval hb e
  have h0 : SmQ (cvq n e ((Zz n l).headD [])) := by
    cases hc : Zz n l with
    | nil => exact absurd hc hne
    | cons c cs => exact corner_sm hval (by rw [hc]; simp) e
  constructor
  · rcases (minL_spec ((Zz n l).map (cvq n e)) (cvq n e ((Zz n l).headD []))).1 with g | g
    · rw [loQ, g]; exact h0
    · exact hall _ g
  · rcases (maxL_spec ((Zz n l).map (cvq n e)) (cvq n e ((Zz n l).headD []))).1 with g | g
    · rw [hiQ, g]; exact h0
    · exact hall _ g
end Go.Proofs.Try.Am

namespace Go.Proofs.Try.Am
open Go.Am Bq
set_option maxRecDepth 100000
set_option maxHeartbeats 4000000

end Go.Proofs.Try.Am

namespace Go.Proofs.Try.Am
open Go.Am Bq
set_option maxRecDepth 100000
set_option maxHeartbeats 4000000

/-- What may be appended to. -/
def ClS (h : Zh) (r : Value) (l : List (Int × Int)) : Prop := OwnP 24 h r l ∨ (l = [] ∧ ∃ b, r = .slice (some ⟨b, 0, none⟩) 0 0 ∧ h[b]? = some (.ints [] 24 false))
theorem ClS.ext {h h' : Zh} {r : Value} {l : List (Int × Int)} (c : ClS h r l) (hE : Ext (fun _ => False) h h') : ClS h' r l := by
  rcases c with c | ⟨rfl, b, rfl, hb⟩
  · exact .inl (c.ext hE)
  · exact .inr ⟨rfl, b, rfl, (hE.2 _ (Yl hb) id).trans hb⟩
theorem ClS.app [Tabs prog] {h : Zh} {r : Value} {l : List (Int × Int)} {x y : Int} {b2 c2 : Nat} {c : Bool} (hc : ClS h r l) (hl : l.length * 16 ≤ 140737488351232) (hb2 : h[b2]? = some (.ints [x, y] 24 c)) {h0 : Nat} (hb : ∀ b, Yj r = some b → h0 ≤ b) {K : Value → Zh → Prop}
    (hk : ∀ v' h', OwnP 24 h' v' (l ++ [(x, y)]) → Ext (fun b => h0 ≤ b) h h' → K v' h') : Yo prog h 22 22 r (.slice (some ⟨b2, 0, none⟩) 1 c2) K := by
  rcases hc with hc | ⟨rfl, b, rfl, hb0⟩
  · exact OwnP.appendW hc app_22_22 (by omega) hb2 fun v' h' ho hE _ => hk v' h' ho (hE.mono fun b hbb => hb b hbb)
  · exact appendE app_22_22 hb0 hb2 fun v' h' ho hE => hk v' h' ho (hE.mono fun _ hf => hf.elim)

theorem cloneR_det [Tabs prog] {h : Zh} {v : Value} {l : List (Int × Int)} (hv : PairSl h v l) (hl : l.length * 16 ≤ 140737488351232) :
    ∃ r h', ADet prog 19 [v] h r h' ∧ Ext (fun _ => False) h h' ∧ ClS h' r l ∧ ∀ b, Yj r = some b → h.length ≤ b := by
  have hv' := hv
  rcases hv with ⟨rfl, rfl⟩ | ⟨b, o, sp, cap, c, e, ro, rfl, hc, hb, hx⟩
  · refine ⟨.slice none 0 0, h, ?_, Ext.refl _ _, .inl (.inl ⟨rfl, rfl⟩), fun b hb => by cases hb⟩
    refine s19_call (by simp) ?_
    simp (maxSteps := 2000000) only [s19, ↓Za, ↓Zx, ↓Yc, ↓Zb, ↓Zc, ↓vdn, vup, cond_true, cond_false, aop, Zg, Zt, ev, sput, Ze, Ym, Nat.reduceBEq, Zw, Wa, tup, tyf, Option.isSome_some]
  · by_cases hnil : l = []
    · subst hnil
      refine ⟨.slice (some ⟨h.length, 0, none⟩) 0 0, h ++ [.ints [] 24 false], ?_, Ext.app _ _ _, .inr ⟨rfl, _, rfl, Yk _ _⟩, fun b hb => by cases hb; exact Nat.le_refl _⟩
      refine s19_call (by simp) ?_
      simp (maxSteps := 2000000) only [s19, ↓Za, ↓Ya, ↓Zx, ↓Yc, ↓Zb, ↓Zc, ↓vdn, vup, List.map_cons, List.map_nil, cond_true, cond_false, aop, Zg, Zt, ev, sput, Ze, Ym, Zm, Nat.reduceBEq, Zw, Wa, tup, tyf, Option.isSome_some]
      simp only [Yg, el_22, zero_24, esz_24, reps, fillL, mkb, Yz]
      refine And.intro rfl (And.intro (by decide) (And.intro (Nat.zero_le _) ?_))
      refine (hv'.grow [.ints [] 24 false]).copyE app_22_22 ?_
      exact ⟨rfl, rfl⟩
    · refine ⟨.slice (some ⟨h.length + 1, 0, some 0⟩) l.length l.length, h ++ [.ints [] 24 false] ++ [.ints (Zr l) 24 false], ?_, by rw [List.append_assoc]; exact Ext.app _ _ _, .inl (.inr ⟨h.length + 1, [], by simp, ?_⟩), fun b hb => by cases hb; omega⟩
      · refine s19_call (by simp) ?_
        simp (maxSteps := 2000000) only [s19, ↓Za, ↓Ya, ↓Zx, ↓Yc, ↓Zb, ↓Zc, ↓vdn, vup, List.map_cons, List.map_nil, cond_true, cond_false, aop, Zg, Zt, ev, sput, Ze, Ym, Zm, Nat.reduceBEq, Zw, Wa, tup, tyf, Option.isSome_some]
        simp only [Yg, el_22, zero_24, esz_24, reps, fillL, mkb, Yz]
        refine And.intro rfl (And.intro (by decide) (And.intro (Nat.zero_le _) ?_))
        refine (hv'.grow [.ints [] 24 false]).copyD hnil app_22_22 (by omega) (by rw [List.getElem?_append_right (Nat.le_refl _)]; simp) ?_
        simp only [List.length_append, List.length_singleton]
        exact ⟨trivial, trivial⟩
      · have := Yk (h ++ [Blk.ints [] 24 false]) (Blk.ints (Zr l) 24 false)
        rw [List.length_append, List.length_singleton] at this
        rw [this]; simp [Zr]

theorem s22_callW [Tabs Try.prog] {args : List Value} {h : Zh} {Q : Value → Zh → Prop} (hsz : args.length ≤ 23) (hk : AWS Try.prog 23 s22 (Zw Try.prog [.tmp 2] Q) (Zt 0 args) h) : ACall Try.prog 22 args h Q :=
  Xa Try.func22 rfl (enters_of Try.func22 (by kernel_rfl) rfl) rfl rfl (by decide) s22_strip s22_ok hsz hk
theorem unit_call [Tabs prog] {h : Zh} {q : Rat} (hq : SmQ q) : Xl prog 22 [qV q] h (.bool true) := by
  have hn := hq.num
  have hd := q.den_pos
  have h3 := hq.2.2
  have hle : q.num ≤ (q.den : Int) := by
    have := hq.2.1
    rw [Rat.le_iff] at this
    simpa using this
  obtain ⟨x, hx⟩ : ∃ x, q.num = x := ⟨_, rfl⟩
  obtain ⟨y, hy⟩ : ∃ y : Int, (q.den : Int) = y := ⟨_, rfl⟩
  have g1 : y ≥ 1 := by omega
  have g2 : y ≤ 1000 := by omega
  have g3 : x ≥ 0 := by omega
  have g4 : x ≤ y := by omega
  rw [qV, frV, hx, hy]
  refine ACall.forget (Low.bool _) ?_
  refine s22_callW (by simp) ?_
  simp only [s22]
  obtain ⟨H, hH⟩ : ∃ H, H = h ++ [fC x y] := ⟨_, rfl⟩
  have hE : Ext (fun _ => False) h H := by rw [hH]; exact Ext.app _ _ _
  have b1 : H[h.length]? = some (fC x y) := by rw [hH]; exact Yk _ _
  refine Zf fun N1 hN1 => ?_
  simp (maxSteps := 2000000) only [↓Za, ↓Zb, ↓Zc, vup, cond_true, cond_false, aop, Zg, Zt, ev, sput, Ze, Nat.reduceBEq, boxF, Yv]
  rw [← hH]
  refine hN1 [(1, .pointer (some ⟨h.length, 0, none⟩)), (2, .bool false)] _ _ ?_ (by simp (maxSteps := 2000000) only [vup, cond_true, cond_false, Nat.reduceBEq])
  clear hN1
  try clear N1
  refine Zf fun N2 hN2 => ?_
  simp only [q22_1]
  refine Xt 8 fun N1 hN1 => ?_
  simp (maxSteps := 2000000) only [↓Za, ↓Zb, ↓Zc, ↓vdn, vup, cond_true, cond_false, aop, ev, sput, Ze, Ym, Yr, Nat.reduceBEq, tyf, List.take_succ_cons, List.take_zero, fA1, loadF1 b1, g1, g2]
  refine hN1 _ _ ?_
  clear hN1 N1
  simp only [List.drop_succ_cons, List.drop_zero]
  refine Xt 5 fun N1 hN1 => ?_
  simp (maxSteps := 2000000) only [↓Za, ↓Zb, ↓Zc, ↓vdn, vup, cond_true, cond_false, aop, ev, sput, Ze, Ym, Yr, Nat.reduceBEq, tyf, List.take_succ_cons, List.take_zero, fA0, loadF0 b1, g3]
  refine hN1 _ _ ?_
  clear hN1 N1
  simp only [List.drop_succ_cons, List.drop_zero]
  simp (maxSteps := 2000000) only [↓Za, ↓Zb, ↓Zc, ↓vdn, vup, cond_true, cond_false, aop, Zg, ev, sput, Ze, Ym, Yr, Nat.reduceBEq, tyf, fA0, fA1, loadF0 b1, loadF1 b1, g4]
  refine hN2 [(1, .pointer (some ⟨h.length, 0, none⟩)), (2, .bool true)] _ _ ?_ (by simp (maxSteps := 2000000) only [vup, cond_true, cond_false, Nat.reduceBEq])
  clear hN2
  try clear N2
  refine Zj ?_
  simp (maxSteps := 2000000) only [↓Yc, vup, cond_true, cond_false, Nat.reduceBEq, Zw, Wa, tup]
  exact hE

/-- The bounds hold for each belief that agrees. -/
theorem lo_hi_feas {n e : Nat} {l : List (Int × Int)} {p : Nat → Rat} (hf : Feas n l p) : loQ n e l ≤ evq n p e ∧ evq n p e ≤ hiQ n e l := by
  constructor
  · obtain ⟨b, hb, h⟩ := vertex (fun w => bitQ e w) _ p (Nat.le_refl _) hf
    exact Rat.le_trans ((minL_spec _ _).2.2 _ (List.mem_map.2 ⟨b, hb, rfl⟩)) h
  · obtain ⟨b, hb, h⟩ := vertex (fun w => -1 * bitQ e w) _ p (Nat.le_refl _) hf
    rw [Zk (g := fun w => -1 * (bitQ e w * b.getD w 0)) fun w hw => by grind, Xm, Zk (f := fun w => -1 * bitQ e w * p w) (g := fun w => -1 * (bitQ e w * p w)) fun w hw => by grind, Xm] at h
    have h2 : evq n p e ≤ cvq n e b := by
      rw [evq, cvq, evq]
      generalize Zn (fun w => bitQ e w * p w) n = A at *
      generalize Zn (fun w => bitQ e w * b.getD w 0) n = B at *
      grind
    exact Rat.le_trans h2 ((maxL_spec _ _).2.2 _ (List.mem_map.2 ⟨b, hb, rfl⟩))
/-- They are taken. -/
theorem lo_hi_taken {n e : Nat} {l : List (Int × Int)} (hne : Zz n l ≠ []) : (∃ b ∈ Zz n l, loQ n e l = cvq n e b) ∧ ∃ b ∈ Zz n l, hiQ n e l = cvq n e b := by
  have h0 : ∃ b ∈ Zz n l, cvq n e ((Zz n l).headD []) = cvq n e b := by
    cases hc : Zz n l with
    | nil => exact absurd hc hne
    | cons c cs => exact ⟨c, by simp, rfl⟩
  constructor
  · rcases (minL_spec ((Zz n l).map (cvq n e)) (cvq n e ((Zz n l).headD []))).1 with g | g
    · obtain ⟨b, hb, h⟩ := h0
      exact ⟨b, hb, by rw [loQ, g, h]⟩
    · obtain ⟨b, hb, h⟩ := List.mem_map.1 g
      exact ⟨b, hb, h.symm⟩
  · rcases (maxL_spec ((Zz n l).map (cvq n e)) (cvq n e ((Zz n l).headD []))).1 with g | g
    · obtain ⟨b, hb, h⟩ := h0
      exact ⟨b, hb, by rw [hiQ, g, h]⟩
    · obtain ⟨b, hb, h⟩ := List.mem_map.1 g
      exact ⟨b, hb, h.symm⟩
theorem feas_less {n : Nat} {l : List (Int × Int)} {x : Int × Int} {p : Nat → Rat} (hf : Feas n (l ++ [x]) p) : Feas n l p := ⟨hf.nn, hf.one, fun i hi => by
  have := hf.bet i (by rw [List.length_append]; omega)
  rw [List.getD, List.getElem?_append_left hi] at this
  exact this⟩
theorem corner_feas' {n : Nat} {l : List (Int × Int)} {b : List Rat} (hb : b ∈ Zz n l) : Feas n l (fun w => b.getD w 0) := by
  obtain ⟨set, _, _, h⟩ := mem_corners.1 hb
  exact (corner_feas h).2
theorem bound_less {n e : Nat} {l : List (Int × Int)} {x : Int × Int} (hne : Zz n (l ++ [x]) ≠ []) : loQ n e l ≤ loQ n e (l ++ [x]) ∧ hiQ n e (l ++ [x]) ≤ hiQ n e l := by
  obtain ⟨⟨b, hb, h1⟩, c, hc, h2⟩ := lo_hi_taken (e := e) hne
  rw [h1, h2]
  exact ⟨(lo_hi_feas (feas_less (corner_feas' hb))).1, (lo_hi_feas (feas_less (corner_feas' hc))).2⟩
end Go.Proofs.Try.Am

namespace Go.Proofs.Try.Am
open Go.Am Bq
set_option maxRecDepth 100000
set_option maxHeartbeats 4000000

theorem bndV_take9 (n e : Int) (l : List (Int × Int)) : bndV n e (l.take 9) = bndV n e l := by
  cases hval : Yu n l with
  | false => rw [bndV, bndV, valid_take, hval, if_neg (by simp), if_neg (by simp)]
  | true =>
    rw [List.take_of_length_le]
    simp only [Yu, Bool.and_eq_true, decide_eq_true_eq] at hval; omega
/-- What Bounds tells, case by case. -/
theorem bnd_cases (n e : Int) (l : List (Int × Int)) :
    (¬ (Yu n l = true ∧ evB n e = true) ∧ bndV n e l = .tuple #[frV 0 0, frV 0 0, .int .i64 2]) ∨
    (Yu n l = true ∧ evB n e = true ∧ Zz n.toNat l = [] ∧ bndV n e l = .tuple #[frV 0 0, frV 0 0, .int .i64 5]) ∨
    (Yu n l = true ∧ evB n e = true ∧ Zz n.toNat l ≠ [] ∧ bndV n e l = .tuple #[qV (loQ n.toNat e.toNat l), qV (hiQ n.toNat e.toNat l), .int .i64 0]) := by
  rw [bndV]
  by_cases h : Yu n l = true ∧ evB n e = true
  · rw [if_pos h]
    by_cases h2 : Zz n.toNat l = []
    · rw [if_pos h2]; exact .inr (.inl ⟨h.1, h.2, h2, rfl⟩)
    · rw [if_neg h2]; exact .inr (.inr ⟨h.1, h.2, h2, rfl⟩)
  · rw [if_neg h]; exact .inl ⟨h, rfl⟩
theorem s3_callW [Tabs Try.prog] {args : List Value} {h : Zh} {Q : Value → Zh → Prop} (hsz : args.length ≤ 110) (hk : AWS Try.prog 110 s3 (Zw Try.prog [.tmp 8] Q) (Zt 0 args) h) : ACall Try.prog 3 args h Q :=
  Xa Try.func3 rfl (enters_of Try.func3 (by kernel_rfl) rfl) rfl rfl (by decide) s3_strip s3_ok hsz hk
theorem law_more [Tabs prog] {h : Zh} {v : Value} {l : List (Int × Int)} (n : Int) (hv : PairSl h v l) (hl : l.length < 9223372036854775808) (hxl : InR l) (hl16 : l.length * 16 ≤ 140737488351232) (bx by' : Int) (e : Int) :
    ACall prog 3 [Zd n, v, .agg #[Zd bx, Zd by'], Zd e] h fun r _ => r = .bool true := by
  obtain ⟨H0, hH0⟩ : ∃ H, H = h ++ [rB bx by'] := ⟨_, rfl⟩
  have hE0 : Ext (fun _ => False) h H0 := by rw [hH0]; exact Ext.app _ _ _
  have b6 : H0[h.length]? = some (rB bx by') := by rw [hH0]; exact Yk _ _
  have hv0 := hv.ext hE0
  refine s3_callW (by simp) ?_
  simp only [s3]
  have hbx : ∀ {K : Value → Zh → Prop}, boxK prog h 24 (.agg #[Zd bx, Zd by']) K = K (Yv h) H0 := fun {K} => by
    rw [hH0]; simp [boxK, esz_24, Yv, cellsOf]
  refine Zf fun N1 hN1 => ?_
  simp (maxSteps := 2000000) only [↓Za, ↓Zb, ↓Zc, vup, cond_true, cond_false, aop, Zg, Zt, ev, sput, Ze, Nat.reduceBEq, Nat.reduceAdd, hbx, Yv]
  refine hN1 [(0, Zd n), (1, v), (3, Zd e), (6, .pointer (some ⟨h.length, 0, none⟩)), (8, .bool false)] _ _ ?_ (by simp (maxSteps := 2000000) only [vup, cond_true, cond_false, Nat.reduceBEq])
  clear hN1
  try clear N1
  refine Zf fun N2 hN2 => ?_
  simp (maxSteps := 2000000) only [↓Za, ↓Zb, ↓Zc, vup, List.map_cons, List.map_nil, cond_true, cond_false, aop, Zg, ev, sput, Ze, Nat.reduceBEq, Yx, List.nil_append, List.append_nil]
  refine (of_copy hv0 hl).mono ?_
  rintro u1 h1 ⟨hu1, hE1⟩
  refine (progBounds_call (n := n) (e := e) hu1 (by rw [List.length_take]; omega)).mono ?_
  rintro _ H ⟨hE2, hr⟩
  rw [hr, bndV_take9]
  clear hr
  have hEH := hE1.trans hE2
  have st7 : ∀ {H : Zh} {a b : Int} {K : Zh → Prop}, Xh prog (H ++ [z0] ++ [z0]) 26 (.pointer (some ⟨H.length, 0, none⟩)) (.agg #[Zd a, Zd b]) K = K (H ++ [fC a b] ++ [z0]) := fun {H a b K} => by
    rw [Wd (b2_0 ..) rfl, List.set_append_left _ _ (by simp), Wl]
  have st8 : ∀ {H : Zh} {a b c d : Int} {K : Zh → Prop}, Xh prog (H ++ [fC a b] ++ [z0]) 26 (.pointer (some ⟨H.length + 1, 0, none⟩)) (.agg #[Zd c, Zd d]) K = K (H ++ [fC a b] ++ [fC c d]) := fun {H a b c d K} => by
    have := Wl (H ++ [fC a b]) z0 (fC c d)
    simp only [List.length_append, List.length_singleton] at this
    rw [Wd (b2_1 ..) rfl, this]
  obtain ⟨a, b, c, d, f, hb⟩ : ∃ a b c d f : Int, bndV n e l = .tuple #[frV a b, frV c d, .int .i64 f] := by
    rcases bnd_cases n e l with ⟨_, h⟩ | ⟨_, _, _, h⟩ | ⟨_, _, _, h⟩ <;> exact ⟨_, _, _, _, _, h⟩
  rw [hb]
  simp (maxSteps := 2000000) only [extr_30, extr_31, extr_32, tyf, frV, Xp, Yv, List.length_append, List.length_singleton]
  rw [st7, st8]
  obtain ⟨G, hG⟩ : ∃ G, G = H ++ [fC a b] ++ [fC c d] := ⟨_, rfl⟩
  have hEG : Ext (fun _ => False) H G := by rw [hG]; exact e2 ..
  have b9 : G[H.length]? = some (fC a b) := by rw [hG]; exact b2_0 ..
  have b10 : G[H.length + 1]? = some (fC c d) := by rw [hG]; exact b2_1 ..
  rw [← hG]
  refine hN2 [(0, Zd n), (1, v), (3, Zd e), (6, .pointer (some ⟨h.length, 0, none⟩)), (8, .bool false), (9, .pointer (some ⟨H.length, 0, none⟩)), (10, .pointer (some ⟨H.length + 1, 0, none⟩)), (11, .int .i64 f)] _ _ ?_ (by simp (maxSteps := 2000000) only [vup, cond_true, cond_false, Nat.reduceBEq])
  clear hN2
  try clear N2
  have hv1 := hv0.ext (hEH.trans hEG)
  have g6 : G[h.length]? = some (rB bx by') := ((hEH.trans hEG).2 _ (Yl b6) id).trans b6
  -- one more
  obtain ⟨r, G1, hdet, hE3, hcl, hfr⟩ := cloneR_det hv1 hl16
  have g6' : G1[h.length]? = some (rB bx by') := (hE3.2 _ (Yl g6) id).trans g6
  have loadRt : ∀ {K : Value → Prop} {z : Zh}, z[h.length]? = some (rB bx by') → Xq prog z 24 (.pointer (some ⟨h.length, 0, none⟩)) K = K (.agg #[Zd bx, Zd by']) := fun {K z} hz => loadA hz (by rw [shp_24]; rfl)
  have lit : ∀ {z : Zh} {K : Value → Zh → Prop}, Yg prog z 22 1 [(0, .agg #[Zd bx, Zd by'])] K = K (.slice (some ⟨z.length, 0, none⟩) 1 1) (z ++ [.ints [bx, by'] 24 false]) := fun {z K} => by
    simp only [Yg, el_22, zero_24, esz_24, reps, fillL, mkb, Wh, cellsOf, List.length_cons, List.length_nil, Nat.zero_add, Nat.zero_mul, Yd]
    refine propext ⟨fun h => ?_, fun h => ⟨trivial, by decide, by decide, ?_⟩⟩
    · simpa [Yz] using h.2.2.2
    · simpa [Yz] using h
  refine Zf fun N3 hN3 => ?_
  simp only [q3_2]
  refine aw_drawL (fun z => z[h.length]? = some (rB bx by')) [(2, 5)] 3 28 27 [1] (by kernel_rfl) (by kernel_rfl) (by kernel_rfl) (by kernel_rfl) (by kernel_rfl) (by rfl) g6 ?_
  simp (maxSteps := 2000000) only [↓dopsR_nil, ↓vdn, vup, List.map_cons, List.map_nil, cond_true, cond_false, aop, Zg, ev, sput, Ze, Zm, Nat.reduceBEq, Nat.reduceAdd, Yx, List.nil_append, List.append_nil]
  refine ⟨r, G1, hdet, g6', .agg #[Zd bx, Zd by'], fun z hz => by rw [loadRt hz], ?_⟩
  rw [lit]
  refine ⟨Xn g6' _, ?_⟩
  refine (hcl.ext (Ext.app _ _ _)).app hl16 (Yk _ _) (h0 := G.length) hfr fun m G2 hm hE4 => ?_
  have hEG2 : Ext (fun _ => False) G G2 := by
    have l1 := hE3.1
    have l2 := hE4.1
    rw [List.length_append] at l2
    refine ⟨by omega, fun z hz _ => ?_⟩
    rw [hE4.2 z (by rw [List.length_append]; omega) (by omega), List.getElem?_append_left (by omega)]
    exact hE3.2 z hz id
  refine ⟨(hEG2.2 _ (Yl g6) id).trans g6, ?_⟩
  refine hN3 [(0, Zd n), (1, v), (3, Zd e), (6, .pointer (some ⟨h.length, 0, none⟩)), (8, .bool false), (9, .pointer (some ⟨H.length, 0, none⟩)), (10, .pointer (some ⟨H.length + 1, 0, none⟩)), (11, .int .i64 f), (12, m)] _ _ ?_ (by simp (maxSteps := 2000000) only [vup, cond_true, cond_false, Nat.reduceBEq])
  clear hN3
  try clear N3
  clear lit loadRt hdet hcl hfr g6' hE4 hE3
  have hmp := hm.pair
  have hml : (l ++ [(bx, by')]).length < 9223372036854775808 := by rw [List.length_append, List.length_singleton]; omega
  refine Zf fun N4 hN4 => ?_
  simp (maxSteps := 2000000) only [↓Za, ↓Zb, ↓Zc, vup, List.map_cons, List.map_nil, cond_true, cond_false, aop, Zg, ev, sput, Ze, Nat.reduceBEq, Yx, List.nil_append, List.append_nil]
  refine (of_copy hmp hml).mono ?_
  rintro u2 h3 ⟨hu2, hE5⟩
  refine (progBounds_call (n := n) (e := e) hu2 (by rw [List.length_take]; omega)).mono ?_
  rintro _ J ⟨hE6, hr⟩
  rw [hr, bndV_take9]
  clear hr
  have hEJ := hEG2.trans (hE5.trans hE6)
  obtain ⟨a2, c2, d2, d3, f2, hb2⟩ : ∃ a b c d f : Int, bndV n e (l ++ [(bx, by')]) = .tuple #[frV a b, frV c d, .int .i64 f] := by
    rcases bnd_cases n e (l ++ [(bx, by')]) with ⟨_, h⟩ | ⟨_, _, _, h⟩ | ⟨_, _, _, h⟩ <;> exact ⟨_, _, _, _, _, h⟩
  rw [hb2]
  simp (maxSteps := 2000000) only [extr_30, extr_31, extr_32, tyf, frV, Xp, Yv, List.length_append, List.length_singleton]
  rw [st7, st8]
  obtain ⟨F, hF⟩ : ∃ G, G = J ++ [fC a2 c2] ++ [fC d2 d3] := ⟨_, rfl⟩
  have hEF : Ext (fun _ => False) J F := by rw [hF]; exact e2 ..
  have b13 : F[J.length]? = some (fC a2 c2) := by rw [hF]; exact b2_0 ..
  have b14 : F[J.length + 1]? = some (fC d2 d3) := by rw [hF]; exact b2_1 ..
  rw [← hF]
  refine hN4 [(0, Zd n), (1, v), (3, Zd e), (6, .pointer (some ⟨h.length, 0, none⟩)), (8, .bool false), (9, .pointer (some ⟨H.length, 0, none⟩)), (10, .pointer (some ⟨H.length + 1, 0, none⟩)), (11, .int .i64 f), (12, m), (13, .pointer (some ⟨J.length, 0, none⟩)), (14, .pointer (some ⟨J.length + 1, 0, none⟩)), (15, .int .i64 f2)] _ _ ?_ (by simp (maxSteps := 2000000) only [vup, cond_true, cond_false, Nat.reduceBEq])
  clear hN4
  try clear N4
  have hGF := hEJ.trans hEF
  have c9 := (hGF.2 _ (Yl b9) id).trans b9
  have c10 := (hGF.2 _ (Yl b10) id).trans b10
  have hvF := hv1.ext hGF
  have hmF := hmp.ext ((hE5.trans hE6).trans hEF)
  clear st7 st8
  -- what is told of both
  have inj3 : ∀ {a b c d f a' b' c' d' f' : Int}, Value.tuple #[frV a b, frV c d, .int .i64 f] = .tuple #[frV a' b', frV c' d', .int .i64 f'] → a = a' ∧ b = b' ∧ c = c' ∧ d = d' ∧ f = f' := fun {a b c d f a' b' c' d' f'} h => by
    simp only [frV, Value.tuple.injEq, Array.mk.injEq, List.cons.injEq, Value.agg.injEq, Value.int.injEq, and_true, true_and] at h
    obtain ⟨⟨h1, h2⟩, ⟨h3, h4⟩, h5⟩ := h
    exact ⟨h1, h2, h3, h4, h5⟩
  have rbc := rbets_call (h := F) (n := n) hvF hl
  have rbm := rbets_call (h := F) (n := n) hmF hml
  have aw1 : ∀ z : Zh, Xl prog 21 [] z (.bool true) := fun z => awake_call
  have e22 : ((2 : Int) == 2) = true := rfl
  cases hval : Yu n l with
  | false =>
    have hf2 : f = 2 := by
      rcases bnd_cases n e l with ⟨_, h⟩ | ⟨h0, _⟩ | ⟨h0, _⟩
      · exact (inj3 (hb.symm.trans h)).2.2.2.2
      · rw [hval] at h0; cases h0
      · rw [hval] at h0; cases h0
    subst hf2
    rw [hval] at rbc
    refine Zs fun M hM => ?_
    refine Zf fun N5 hN5 => ?_
    simp (maxSteps := 2000000) only [↓Za, ↓Zb, ↓Zc, vup, List.map_cons, List.map_nil, cond_true, cond_false, aop, Zg, ev, sput, Ze, unK, Nat.reduceBEq, Yx, List.nil_append, List.append_nil]
    refine (rbc).mono ?_
    rintro _ F ⟨rfl, rfl⟩
    simp (maxSteps := 2000000) only [vup]
    refine hN5 [(0, Zd n), (1, v), (3, Zd e), (6, .pointer (some ⟨h.length, 0, none⟩)), (8, .bool false), (9, .pointer (some ⟨H.length, 0, none⟩)), (10, .pointer (some ⟨H.length + 1, 0, none⟩)), (11, .int .i64 2), (12, m), (13, .pointer (some ⟨J.length, 0, none⟩)), (14, .pointer (some ⟨J.length + 1, 0, none⟩)), (15, .int .i64 f2), (42, .bool true)] _ _ ?_ (by simp (maxSteps := 2000000) only [vup, cond_true, cond_false, Nat.reduceBEq])
    clear hN5
    try clear N5
    refine Wu rfl ?_
    refine Zj ?_
    simp (maxSteps := 2000000) only [↓Za, ↓Zx, ↓Yc, ↓Zb, ↓Zc, ↓vdn, vup, List.map_nil, cond_true, cond_false, aop, Zg, ev, sput, Ze, Ym, Yr, Nat.reduceBEq, Zw, Wa, tup, Yx, List.append_nil, e22]
    refine ((aw1 F)).mono ?_
    rintro _ F ⟨rfl, hE9⟩
    simp (maxSteps := 2000000) only []
  | true =>
  have hl1 : 1 ≤ l.length := by
    simp only [Yu, Bool.and_eq_true, decide_eq_true_eq] at hval; omega
  rw [hval] at rbc
  refine Zs fun M hM => ?_
  refine Zf fun N6 hN6 => ?_
  simp (maxSteps := 2000000) only [↓Za, ↓Zb, ↓Zc, vup, List.map_cons, List.map_nil, cond_true, cond_false, aop, Zg, ev, sput, Ze, unK, Nat.reduceBEq, Yx, List.nil_append, List.append_nil]
  refine (rbc).mono ?_
  rintro _ F ⟨rfl, rfl⟩
  simp (maxSteps := 2000000) only [vup]
  refine hN6 [(0, Zd n), (1, v), (3, Zd e), (6, .pointer (some ⟨h.length, 0, none⟩)), (8, .bool false), (9, .pointer (some ⟨H.length, 0, none⟩)), (10, .pointer (some ⟨H.length + 1, 0, none⟩)), (11, .int .i64 f), (12, m), (13, .pointer (some ⟨J.length, 0, none⟩)), (14, .pointer (some ⟨J.length + 1, 0, none⟩)), (15, .int .i64 f2), (42, .bool false)] _ _ ?_ (by simp (maxSteps := 2000000) only [vup, cond_true, cond_false, Nat.reduceBEq])
  clear hN6
  try clear N6
  refine Xu rfl ?_
  refine Zj ?_
  simp (maxSteps := 2000000) only [↓Ya, Zg]
  refine hM [(0, Zd n), (1, v), (3, Zd e), (6, .pointer (some ⟨h.length, 0, none⟩)), (8, .bool false), (9, .pointer (some ⟨H.length, 0, none⟩)), (10, .pointer (some ⟨H.length + 1, 0, none⟩)), (11, .int .i64 f), (12, m), (13, .pointer (some ⟨J.length, 0, none⟩)), (14, .pointer (some ⟨J.length + 1, 0, none⟩)), (15, .int .i64 f2)] _ _ ?_ (by simp (maxSteps := 2000000) only [vup, cond_true, cond_false, Nat.reduceBEq])
  clear hM
  try clear M
  have hf : f = 0 ∨ f = 2 ∨ f = 5 := by
    rcases bnd_cases n e l with ⟨_, h⟩ | ⟨_, _, _, h⟩ | ⟨_, _, _, h⟩
    · exact .inr (.inl (inj3 (hb.symm.trans h)).2.2.2.2)
    · exact .inr (.inr (inj3 (hb.symm.trans h)).2.2.2.2)
    · exact .inl (inj3 (hb.symm.trans h)).2.2.2.2
  refine Zs fun M hM => ?_
  refine Zf fun N7 hN7 => ?_
  -- the second one is not told
  have part : f2 = 2 ∨ f2 = 5 → ∀ e', ELe e' [(0, Zd n), (1, v), (3, Zd e), (6, .pointer (some ⟨h.length, 0, none⟩)), (8, .bool false), (9, .pointer (some ⟨H.length, 0, none⟩)), (10, .pointer (some ⟨H.length + 1, 0, none⟩)), (11, .int .i64 f), (12, m), (13, .pointer (some ⟨J.length, 0, none⟩)), (14, .pointer (some ⟨J.length + 1, 0, none⟩)), (15, .int .i64 f2), (59, .bool true)] → N7 e' F := by
    intro hf2 e' he
    refine hN7 _ _ _ ?_ he
    refine Wu rfl ?_
    refine Zf fun N8 hN8 => ?_
    simp only [q3_7]
    have r22 : ((2 : Int) == 2) = true := rfl
    have r20 : ((2 : Int) == 0) = false := rfl
    have r50 : ((5 : Int) == 0) = false := rfl
    have r52 : ((5 : Int) == 2) = false := rfl
    have r55 : ((5 : Int) == 5) = true := rfl
    have r00 : ((0 : Int) == 0) = true := rfl
    refine Xt 10 fun N1 hN1 => ?_
    have p1 : ∀ K : Prop, K → K := fun _ h => h
    rcases hf with rfl | rfl | rfl
    all_goals rcases hf2 with rfl | rfl
    · have _t : True := trivial
      simp (maxSteps := 2000000) only [↓Za, ↓Zb, ↓Zc, ↓vdn, vup, cond_true, cond_false, aop, ev, sput, Ze, Ym, Yr, Nat.reduceBEq, List.take_succ_cons, List.take_zero, r00]
      refine hN1 _ _ ?_
      clear hN1 N1
      simp only [List.drop_succ_cons, List.drop_zero]
      refine Xt 8 fun N1 hN1 => ?_
      simp (maxSteps := 2000000) only [↓Za, ↓Zb, ↓Zc, ↓vdn, vup, cond_true, cond_false, aop, ev, sput, Ze, Ym, Yr, Nat.reduceBEq, List.take_succ_cons, List.take_zero, r22]
      refine hN1 _ _ ?_
      clear hN1 N1
      simp only [List.drop_succ_cons, List.drop_zero]
      simp (maxSteps := 2000000) only [↓Za, ↓Zb, ↓Zc, ↓vdn, vup, List.map_nil, cond_true, cond_false, aop, Zg, ev, sput, Ze, Nat.reduceBEq, Yx, List.append_nil]
      refine ((aw1 F)).mono ?_
      rintro _ F ⟨rfl, hE9⟩
      refine hN8 [(0, Zd n), (1, v), (3, Zd e), (6, .pointer (some ⟨h.length, 0, none⟩)), (8, .bool true), (9, .pointer (some ⟨H.length, 0, none⟩)), (10, .pointer (some ⟨H.length + 1, 0, none⟩)), (11, .int .i64 0), (12, m), (13, .pointer (some ⟨J.length, 0, none⟩)), (14, .pointer (some ⟨J.length + 1, 0, none⟩)), (15, .int .i64 2), (59, .bool true)] _ _ ?_ (by simp (maxSteps := 2000000) only [vup, cond_true, cond_false, Nat.reduceBEq])
      clear hN8
      try clear N8
      refine Zj ?_
      simp (maxSteps := 2000000) only [↓Yc, vup, cond_true, cond_false, Zg, Nat.reduceBEq, Zw, Wa, tup]
    · have _t : True := trivial
      simp (maxSteps := 2000000) only [↓Za, ↓Zb, ↓Zc, ↓vdn, vup, cond_true, cond_false, aop, ev, sput, Ze, Ym, Yr, Nat.reduceBEq, List.take_succ_cons, List.take_zero, r00]
      refine hN1 _ _ ?_
      clear hN1 N1
      simp only [List.drop_succ_cons, List.drop_zero]
      refine Xt 8 fun N1 hN1 => ?_
      simp (maxSteps := 2000000) only [↓Za, ↓Zb, ↓Zc, ↓vdn, vup, cond_true, cond_false, aop, ev, sput, Ze, Ym, Yr, Nat.reduceBEq, List.take_succ_cons, List.take_zero, r52, r55]
      refine hN1 _ _ ?_
      clear hN1 N1
      simp only [List.drop_succ_cons, List.drop_zero]
      simp (maxSteps := 2000000) only [↓Za, ↓Zb, ↓Zc, ↓vdn, vup, List.map_nil, cond_true, cond_false, aop, Zg, ev, sput, Ze, Nat.reduceBEq, Yx, List.append_nil]
      refine ((aw1 F)).mono ?_
      rintro _ F ⟨rfl, hE9⟩
      refine hN8 [(0, Zd n), (1, v), (3, Zd e), (6, .pointer (some ⟨h.length, 0, none⟩)), (8, .bool true), (9, .pointer (some ⟨H.length, 0, none⟩)), (10, .pointer (some ⟨H.length + 1, 0, none⟩)), (11, .int .i64 0), (12, m), (13, .pointer (some ⟨J.length, 0, none⟩)), (14, .pointer (some ⟨J.length + 1, 0, none⟩)), (15, .int .i64 5), (59, .bool true)] _ _ ?_ (by simp (maxSteps := 2000000) only [vup, cond_true, cond_false, Nat.reduceBEq])
      clear hN8
      try clear N8
      refine Zj ?_
      simp (maxSteps := 2000000) only [↓Yc, vup, cond_true, cond_false, Zg, Nat.reduceBEq, Zw, Wa, tup]
    · have _t : True := trivial
      simp (maxSteps := 2000000) only [↓Za, ↓Zb, ↓Zc, ↓vdn, vup, cond_true, cond_false, aop, ev, sput, Ze, Ym, Yr, Nat.reduceBEq, List.take_succ_cons, List.take_zero, r20, r22]
      refine hN1 _ _ ?_
      clear hN1 N1
      simp only [List.drop_succ_cons, List.drop_zero]
      refine Xt 8 fun N1 hN1 => ?_
      simp (maxSteps := 2000000) only [↓Za, ↓Zb, ↓Zc, ↓vdn, vup, cond_true, cond_false, aop, ev, sput, Ze, Ym, Yr, Nat.reduceBEq, List.take_succ_cons, List.take_zero, r22]
      refine hN1 _ _ ?_
      clear hN1 N1
      simp only [List.drop_succ_cons, List.drop_zero]
      simp (maxSteps := 2000000) only [↓Za, ↓Zb, ↓Zc, ↓vdn, vup, List.map_nil, cond_true, cond_false, aop, Zg, ev, sput, Ze, Nat.reduceBEq, Yx, List.append_nil]
      refine ((aw1 F)).mono ?_
      rintro _ F ⟨rfl, hE9⟩
      refine hN8 [(0, Zd n), (1, v), (3, Zd e), (6, .pointer (some ⟨h.length, 0, none⟩)), (8, .bool true), (9, .pointer (some ⟨H.length, 0, none⟩)), (10, .pointer (some ⟨H.length + 1, 0, none⟩)), (11, .int .i64 2), (12, m), (13, .pointer (some ⟨J.length, 0, none⟩)), (14, .pointer (some ⟨J.length + 1, 0, none⟩)), (15, .int .i64 2), (59, .bool true)] _ _ ?_ (by simp (maxSteps := 2000000) only [vup, cond_true, cond_false, Nat.reduceBEq])
      clear hN8
      try clear N8
      refine Zj ?_
      simp (maxSteps := 2000000) only [↓Yc, vup, cond_true, cond_false, Zg, Nat.reduceBEq, Zw, Wa, tup]
    · have _t : True := trivial
      simp (maxSteps := 2000000) only [↓Za, ↓Zb, ↓Zc, ↓vdn, vup, cond_true, cond_false, aop, ev, sput, Ze, Ym, Yr, Nat.reduceBEq, List.take_succ_cons, List.take_zero, r20, r22]
      refine hN1 _ _ ?_
      clear hN1 N1
      simp only [List.drop_succ_cons, List.drop_zero]
      refine Xt 8 fun N1 hN1 => ?_
      simp (maxSteps := 2000000) only [↓Za, ↓Zb, ↓Zc, ↓vdn, vup, cond_true, cond_false, aop, ev, sput, Ze, Ym, Yr, Nat.reduceBEq, List.take_succ_cons, List.take_zero, r52, r55]
      refine hN1 _ _ ?_
      clear hN1 N1
      simp only [List.drop_succ_cons, List.drop_zero]
      simp (maxSteps := 2000000) only [↓Za, ↓Zb, ↓Zc, ↓vdn, vup, List.map_nil, cond_true, cond_false, aop, Zg, ev, sput, Ze, Nat.reduceBEq, Yx, List.append_nil]
      refine ((aw1 F)).mono ?_
      rintro _ F ⟨rfl, hE9⟩
      refine hN8 [(0, Zd n), (1, v), (3, Zd e), (6, .pointer (some ⟨h.length, 0, none⟩)), (8, .bool true), (9, .pointer (some ⟨H.length, 0, none⟩)), (10, .pointer (some ⟨H.length + 1, 0, none⟩)), (11, .int .i64 2), (12, m), (13, .pointer (some ⟨J.length, 0, none⟩)), (14, .pointer (some ⟨J.length + 1, 0, none⟩)), (15, .int .i64 5), (59, .bool true)] _ _ ?_ (by simp (maxSteps := 2000000) only [vup, cond_true, cond_false, Nat.reduceBEq])
      clear hN8
      try clear N8
      refine Zj ?_
      simp (maxSteps := 2000000) only [↓Yc, vup, cond_true, cond_false, Zg, Nat.reduceBEq, Zw, Wa, tup]
    · have _t : True := trivial
      simp (maxSteps := 2000000) only [↓Za, ↓Zb, ↓Zc, ↓vdn, vup, cond_true, cond_false, aop, ev, sput, Ze, Ym, Yr, Nat.reduceBEq, List.take_succ_cons, List.take_zero, r50, r52, r55]
      refine hN1 _ _ ?_
      clear hN1 N1
      simp only [List.drop_succ_cons, List.drop_zero]
      refine Xt 8 fun N1 hN1 => ?_
      simp (maxSteps := 2000000) only [↓Za, ↓Zb, ↓Zc, ↓vdn, vup, cond_true, cond_false, aop, ev, sput, Ze, Ym, Yr, Nat.reduceBEq, List.take_succ_cons, List.take_zero, r22]
      refine hN1 _ _ ?_
      clear hN1 N1
      simp only [List.drop_succ_cons, List.drop_zero]
      simp (maxSteps := 2000000) only [↓Za, ↓Zb, ↓Zc, ↓vdn, vup, List.map_nil, cond_true, cond_false, aop, Zg, ev, sput, Ze, Nat.reduceBEq, Yx, List.append_nil]
      refine ((aw1 F)).mono ?_
      rintro _ F ⟨rfl, hE9⟩
      refine hN8 [(0, Zd n), (1, v), (3, Zd e), (6, .pointer (some ⟨h.length, 0, none⟩)), (8, .bool true), (9, .pointer (some ⟨H.length, 0, none⟩)), (10, .pointer (some ⟨H.length + 1, 0, none⟩)), (11, .int .i64 5), (12, m), (13, .pointer (some ⟨J.length, 0, none⟩)), (14, .pointer (some ⟨J.length + 1, 0, none⟩)), (15, .int .i64 2), (59, .bool true)] _ _ ?_ (by simp (maxSteps := 2000000) only [vup, cond_true, cond_false, Nat.reduceBEq])
      clear hN8
      try clear N8
      refine Zj ?_
      simp (maxSteps := 2000000) only [↓Yc, vup, cond_true, cond_false, Zg, Nat.reduceBEq, Zw, Wa, tup]
    · have _t : True := trivial
      simp (maxSteps := 2000000) only [↓Za, ↓Zb, ↓Zc, ↓vdn, vup, cond_true, cond_false, aop, ev, sput, Ze, Ym, Yr, Nat.reduceBEq, List.take_succ_cons, List.take_zero, r50, r52, r55]
      refine hN1 _ _ ?_
      clear hN1 N1
      simp only [List.drop_succ_cons, List.drop_zero]
      refine Xt 8 fun N1 hN1 => ?_
      simp (maxSteps := 2000000) only [↓Za, ↓Zb, ↓Zc, ↓vdn, vup, cond_true, cond_false, aop, ev, sput, Ze, Ym, Yr, Nat.reduceBEq, List.take_succ_cons, List.take_zero, r52, r55]
      refine hN1 _ _ ?_
      clear hN1 N1
      simp only [List.drop_succ_cons, List.drop_zero]
      simp (maxSteps := 2000000) only [↓Za, ↓Zb, ↓Zc, ↓vdn, vup, List.map_nil, cond_true, cond_false, aop, Zg, ev, sput, Ze, Nat.reduceBEq, Yx, List.append_nil]
      refine ((aw1 F)).mono ?_
      rintro _ F ⟨rfl, hE9⟩
      refine hN8 [(0, Zd n), (1, v), (3, Zd e), (6, .pointer (some ⟨h.length, 0, none⟩)), (8, .bool true), (9, .pointer (some ⟨H.length, 0, none⟩)), (10, .pointer (some ⟨H.length + 1, 0, none⟩)), (11, .int .i64 5), (12, m), (13, .pointer (some ⟨J.length, 0, none⟩)), (14, .pointer (some ⟨J.length + 1, 0, none⟩)), (15, .int .i64 5), (59, .bool true)] _ _ ?_ (by simp (maxSteps := 2000000) only [vup, cond_true, cond_false, Nat.reduceBEq])
      clear hN8
      try clear N8
      refine Zj ?_
      simp (maxSteps := 2000000) only [↓Yc, vup, cond_true, cond_false, Zg, Nat.reduceBEq, Zw, Wa, tup]
  have n00 : ((0 : Int) != 0) = false := rfl
  have n20 : ((2 : Int) != 0) = true := rfl
  have n50 : ((5 : Int) != 0) = true := rfl
  have hrel : (f2 = 2 ∨ f2 = 5) ∨ (f2 = 0 ∧ f = 0 ∧ Yu n (l ++ [(bx, by')]) = true ∧ Zz n.toNat (l ++ [(bx, by')]) ≠ [] ∧ Zz n.toNat l ≠ [] ∧ bndV n e l = .tuple #[qV (loQ n.toNat e.toNat l), qV (hiQ n.toNat e.toNat l), .int .i64 0] ∧ bndV n e (l ++ [(bx, by')]) = .tuple #[qV (loQ n.toNat e.toNat (l ++ [(bx, by')])), qV (hiQ n.toNat e.toNat (l ++ [(bx, by')])), .int .i64 0]) := by
    rcases bnd_cases n e (l ++ [(bx, by')]) with ⟨_, h⟩ | ⟨_, _, _, h⟩ | ⟨v1, v2, v3, h⟩
    · exact .inl (.inl (inj3 (hb2.symm.trans h)).2.2.2.2)
    · exact .inl (.inr (inj3 (hb2.symm.trans h)).2.2.2.2)
    · refine .inr ⟨(inj3 (hb2.symm.trans h)).2.2.2.2, ?_⟩
      have hne : Zz n.toNat l ≠ [] := by
        obtain ⟨q, hq⟩ := sound_iff.1 v3
        exact sound_iff.2 ⟨q, feas_less hq⟩
      rcases bnd_cases n e l with ⟨h0, _⟩ | ⟨_, _, h0, _⟩ | ⟨_, _, _, h4⟩
      · exact absurd ⟨hval, v2⟩ h0
      · exact absurd h0 hne
      · exact ⟨(inj3 (hb.symm.trans h4)).2.2.2.2, v1, v3, hne, h4, h⟩
  rcases hrel with hf2 | ⟨rfl, rfl, hvm, hnm, hnl, h4, h5⟩
  · have hgo := part hf2
    rcases hf with rfl | rfl | rfl
    · rcases hf2 with rfl | rfl
      · have _t : True := trivial
        simp (maxSteps := 2000000) only [↓Za, ↓Zb, ↓Zc, ↓vdn, vup, cond_true, cond_false, aop, Zg, ev, sput, Ze, Ym, Yr, Nat.reduceBEq, n00, n20]
        exact hgo _ (by simp (maxSteps := 2000000) only [vup, cond_true, cond_false, Nat.reduceBEq])
      · have _t : True := trivial
        simp (maxSteps := 2000000) only [↓Za, ↓Zb, ↓Zc, ↓vdn, vup, cond_true, cond_false, aop, Zg, ev, sput, Ze, Ym, Yr, Nat.reduceBEq, n00, n50]
        exact hgo _ (by simp (maxSteps := 2000000) only [vup, cond_true, cond_false, Nat.reduceBEq])
    · have _t : True := trivial
      simp (maxSteps := 2000000) only [↓Za, ↓Zb, ↓Zc, ↓vdn, vup, cond_true, cond_false, aop, Zg, ev, sput, Ze, Ym, Yr, Nat.reduceBEq, n20]
      exact hgo _ (by simp (maxSteps := 2000000) only [vup, cond_true, cond_false, Nat.reduceBEq])
    · have _t : True := trivial
      simp (maxSteps := 2000000) only [↓Za, ↓Zb, ↓Zc, ↓vdn, vup, cond_true, cond_false, aop, Zg, ev, sput, Ze, Ym, Yr, Nat.reduceBEq, n50]
      exact hgo _ (by simp (maxSteps := 2000000) only [vup, cond_true, cond_false, Nat.reduceBEq])
  clear part
  rw [hvm] at rbm
  have hvl : Yu ((n.toNat : Nat) : Int) l = true := by
    have : n = ((n.toNat : Nat) : Int) := by simp only [Yu, Bool.and_eq_true, decide_eq_true_eq] at hval; omega
    rw [← this]; exact hval
  have hvm2 : Yu ((n.toNat : Nat) : Int) (l ++ [(bx, by')]) = true := by
    have : n = ((n.toNat : Nat) : Int) := by simp only [Yu, Bool.and_eq_true, decide_eq_true_eq] at hval; omega
    rw [← this]; exact hvm
  obtain ⟨s1, s2⟩ := bnd_sm (e := e.toNat) hvl hnl
  obtain ⟨s3, s4⟩ := bnd_sm (e := e.toNat) hvm2 hnm
  obtain ⟨le1, le2⟩ := bound_less (e := e.toNat) hnm
  rw [h4] at hb
  rw [h5] at hb2
  obtain ⟨lo, hlo⟩ : ∃ x, loQ n.toNat e.toNat l = x := ⟨_, rfl⟩
  obtain ⟨hi, hhi⟩ : ∃ x, hiQ n.toNat e.toNat l = x := ⟨_, rfl⟩
  obtain ⟨lo2, hlo2⟩ : ∃ x, loQ n.toNat e.toNat (l ++ [(bx, by')]) = x := ⟨_, rfl⟩
  obtain ⟨hi2, hhi2⟩ : ∃ x, hiQ n.toNat e.toNat (l ++ [(bx, by')]) = x := ⟨_, rfl⟩
  rw [hlo] at hb s1 le1
  rw [hhi] at hb s2 le2
  rw [hlo2] at hb2 s3 le1
  rw [hhi2] at hb2 s4 le2
  obtain ⟨rfl, rfl, rfl, rfl, _⟩ := inj3 hb
  obtain ⟨rfl, rfl, rfl, rfl, _⟩ := inj3 hb2
  have u1 := fun z => unit_call (h := z) s1
  have u2 := fun z => unit_call (h := z) s2
  have u3 := fun z => unit_call (h := z) s3
  have u4 := fun z => unit_call (h := z) s4
  have r1 := fun z => SmQ.rless s3 s1 z
  have r2 := fun z => SmQ.rless s2 s4 z
  rw [decide_eq_false (Rat.not_lt.2 le1)] at r1
  rw [decide_eq_false (Rat.not_lt.2 le2)] at r2
  simp (maxSteps := 2000000) only [↓Za, ↓Zb, ↓Zc, ↓vdn, vup, List.map_cons, List.map_nil, cond_true, cond_false, aop, Zg, ev, sput, Ze, Ym, Yr, unK, Nat.reduceBEq, Yx, List.nil_append, List.append_nil, n00]
  refine (rbm).mono ?_
  rintro _ F ⟨rfl, rfl⟩
  simp (maxSteps := 2000000) only [vup]
  refine hN7 [(0, Zd n), (1, v), (3, Zd e), (6, .pointer (some ⟨h.length, 0, none⟩)), (8, .bool false), (9, .pointer (some ⟨H.length, 0, none⟩)), (10, .pointer (some ⟨H.length + 1, 0, none⟩)), (11, .int .i64 0), (12, m), (13, .pointer (some ⟨J.length, 0, none⟩)), (14, .pointer (some ⟨J.length + 1, 0, none⟩)), (15, .int .i64 0), (59, .bool false)] _ _ ?_ (by simp (maxSteps := 2000000) only [vup, cond_true, cond_false, Nat.reduceBEq])
  clear hN7
  try clear N7
  refine Xu rfl ?_
  refine Zj ?_
  simp (maxSteps := 2000000) only [↓Ya, Zg]
  refine hM [(0, Zd n), (1, v), (3, Zd e), (6, .pointer (some ⟨h.length, 0, none⟩)), (8, .bool false), (9, .pointer (some ⟨H.length, 0, none⟩)), (10, .pointer (some ⟨H.length + 1, 0, none⟩)), (11, .int .i64 0), (12, m), (13, .pointer (some ⟨J.length, 0, none⟩)), (14, .pointer (some ⟨J.length + 1, 0, none⟩)), (15, .int .i64 0)] _ _ ?_ (by simp (maxSteps := 2000000) only [vup, cond_true, cond_false, Nat.reduceBEq])
  clear hM
  try clear M
  refine Zf fun N9 hN9 => ?_
  simp only [q3_8]
  refine Xt 6 fun N1 hN1 => ?_
  simp (maxSteps := 2000000) only [↓Za, ↓Zc, vup, List.map_cons, List.map_nil, cond_true, cond_false, aop, ev, sput, Ze, Nat.reduceBEq, Yx, List.nil_append, List.append_nil, List.take_succ_cons, List.take_zero, Wf c9]
  refine ((u1 F)).mono ?_
  rintro _ F ⟨rfl, rfl⟩
  simp (maxSteps := 2000000) only [↓Zb, ↓Zc, ↓vdn, vup, List.map_cons, List.map_nil, cond_true, cond_false, aop, ev, sput, Ze, Nat.reduceBEq, Wf c10, Yx, List.nil_append, List.append_nil]
  refine (u2 F).mono ?_
  rintro _ F ⟨rfl, rfl⟩
  refine hN1 _ _ ?_
  clear hN1 N1
  simp only [List.drop_succ_cons, List.drop_zero]
  refine Xt 4 fun N1 hN1 => ?_
  simp (maxSteps := 2000000) only [↓Za, ↓Zb, ↓Zc, ↓vdn, vup, List.map_cons, List.map_nil, cond_true, cond_false, aop, ev, sput, Ze, Nat.reduceBEq, Yx, List.nil_append, List.append_nil, List.take_succ_cons, List.take_zero, Wf b13]
  refine ((u3 F)).mono ?_
  rintro _ F ⟨rfl, rfl⟩
  refine hN1 _ _ ?_
  clear hN1 N1
  simp only [List.drop_succ_cons, List.drop_zero]
  refine Xt 4 fun N1 hN1 => ?_
  simp (maxSteps := 2000000) only [↓Za, ↓Zb, ↓Zc, ↓vdn, vup, List.map_cons, List.map_nil, cond_true, cond_false, aop, ev, sput, Ze, Nat.reduceBEq, Yx, List.nil_append, List.append_nil, List.take_succ_cons, List.take_zero, Wf b14]
  refine ((u4 F)).mono ?_
  rintro _ F ⟨rfl, rfl⟩
  refine hN1 _ _ ?_
  clear hN1 N1
  simp only [List.drop_succ_cons, List.drop_zero]
  refine Xt 6 fun N1 hN1 => ?_
  simp (maxSteps := 2000000) only [↓Za, ↓Zb, ↓Zc, ↓vdn, vup, List.map_cons, List.map_nil, cond_true, cond_false, aop, ev, sput, Ze, unK, Nat.reduceBEq, Yx, List.nil_append, List.append_nil, List.take_succ_cons, List.take_zero, Wf b13, Wf c9]
  refine ((r1 F)).mono ?_
  rintro _ F ⟨rfl, rfl⟩
  simp (maxSteps := 2000000) only [vup]
  refine hN1 _ _ ?_
  clear hN1 N1
  simp only [List.drop_succ_cons, List.drop_zero]
  refine Xt 6 fun N1 hN1 => ?_
  simp (maxSteps := 2000000) only [↓Za, ↓Zb, ↓Zc, ↓vdn, vup, List.map_cons, List.map_nil, cond_true, cond_false, aop, ev, sput, Ze, unK, Nat.reduceBEq, Yx, List.nil_append, List.append_nil, List.take_succ_cons, List.take_zero, Wf c10, Wf b14]
  refine ((r2 F)).mono ?_
  rintro _ F ⟨rfl, rfl⟩
  simp (maxSteps := 2000000) only [vup]
  refine hN1 _ _ ?_
  clear hN1 N1
  simp only [List.drop_succ_cons, List.drop_zero]
  simp (maxSteps := 2000000) only [↓Za, ↓Zb, ↓Zc, ↓vdn, vup, List.map_nil, cond_true, cond_false, aop, Zg, ev, sput, Ze, Nat.reduceBEq, Yx, List.append_nil]
  refine ((aw1 F)).mono ?_
  rintro _ F ⟨rfl, hE9⟩
  refine hN9 [(0, Zd n), (1, v), (3, Zd e), (6, .pointer (some ⟨h.length, 0, none⟩)), (8, .bool true), (9, .pointer (some ⟨H.length, 0, none⟩)), (10, .pointer (some ⟨H.length + 1, 0, none⟩)), (11, .int .i64 0), (12, m), (13, .pointer (some ⟨J.length, 0, none⟩)), (14, .pointer (some ⟨J.length + 1, 0, none⟩)), (15, .int .i64 0)] _ _ ?_ (by simp (maxSteps := 2000000) only [vup, cond_true, cond_false, Nat.reduceBEq])
  clear hN9
  try clear N9
  refine Zj ?_
  simp (maxSteps := 2000000) only [↓Yc, vup, cond_true, cond_false, Nat.reduceBEq, Zw, Wa, tup]
end Go.Proofs.Try.Am

/-
  Printed by gen.py: the code of some functions, without what no step looks at; held against the program's own by the kernel.
  bets, plain: either weights of some rows come to nothing, or one can be had that all rows gain from (Gordan); a gain that stands on few columns and rows.
  bets, plain: bets that are not sound are beaten by stakes that a square system of gains gives; sound ones by none.
  Printed by gen.py: the code of some functions, without what no step looks at; held against the program's own by the kernel.
  bets: races.
  bets: least and greatest.
  bets: what a ticket gains; whether stakes beat bets.
  bets: all sets of numbers below n, as long as a function wants more.
  bets, plain: what a forecast loses against the belief.
  bets: law Proper.
-/
import Derived.Test.YtcmindinomacbaaPk3
import Derived.Test.YtcmindinomacbaaProg
import Derived.KernelRfl
import Derived.Shelf.Abstract
import Derived.Test.YtcmindinomacbaaPk9
import Derived.Test.YtcmindinomacbaaPk6
import Derived.Test.YtcmindinomacbaaPk8
import Derived.Test.YtcmindinomacbaaPk5
set_option linter.all false
namespace Go.Proofs.Try.Am
open Go.Am
set_option maxRecDepth 100000
/-! 50: planchet bets.Beat -/
@[reducible] def q50_0 : SCode := .region [⟨some 2, .box 3 (.tmp 0), none⟩,
    ⟨some 3, .box 30 (.tmp 1), none⟩,
    ⟨some 4, .alloc 76, none⟩,
    ⟨some 5, .assign (.const (.int .i64 0)), none⟩]
@[reducible] def q50_1 : SCode := .region [⟨some 8, .load 3 (.tmp 2), none⟩,
    ⟨some 9, .load 30 (.tmp 3), none⟩,
    ⟨some 10, .build 86 #[(0, .tmp 8), (1, .tmp 9)], none⟩,
    ⟨some 6, .alloc 86, none⟩,
    ⟨none, .store 86 (.tmp 6) (.tmp 10), none⟩]
@[reducible] def q50_2 : SCode := .region [⟨some 11, .load 86 (.tmp 6), none⟩,
    ⟨some 12, .call { callee := .value (.func 58), args := #[.tmp 11], argTypes := #[86] }, none⟩,
    ⟨some 13, .unOp .not 4 (.tmp 12), none⟩]
@[reducible] def q50_3 : SCode := .region [⟨some 14, .build 76 #[], none⟩,
    ⟨none, .store 76 (.tmp 4) (.tmp 14), none⟩,
    ⟨some 5, .assign (.const (.int .i64 2)), none⟩]
@[reducible] def q50_4 : SCode := .region [⟨some 7, .alloc 38, none⟩]
@[reducible] def q50_5 : SCode := .region [⟨some 15, .load 30 (.tmp 3), none⟩,
    ⟨some 16, .call { callee := .builtin .len, args := #[.tmp 15], argTypes := #[30] }, none⟩,
    ⟨some 17, .makeFunc (.func 84) #[] #[.tmp 2, .tmp 3, .tmp 6, .tmp 7], none⟩,
    ⟨some 18, .call { callee := .value (.func 83), args := #[.tmp 16, .tmp 17], argTypes := #[3, 68] }, none⟩]
@[reducible] def q50_6 : SCode := .region [⟨some 19, .load 38 (.tmp 7), none⟩,
    ⟨some 20, .binOp .eql 38 (.tmp 19) (.const (.slice none 0 0)) 38, none⟩]
@[reducible] def q50_7 : SCode := .region [⟨some 21, .build 76 #[], none⟩,
    ⟨none, .store 76 (.tmp 4) (.tmp 21), none⟩,
    ⟨some 5, .assign (.const (.int .i64 4)), none⟩]
@[reducible] def q50_8 : SCode := .region [⟨some 22, .load 38 (.tmp 7), none⟩,
    ⟨some 23, .build 76 #[(0, .tmp 22)], none⟩,
    ⟨none, .store 76 (.tmp 4) (.tmp 23), none⟩,
    ⟨some 5, .assign (.const (.int .i64 0)), none⟩]
def s50 : SCode := (.seq q50_0 (.seq q50_1 (.seq (.seq q50_2 (.cond (.tmp 13) (.seq q50_3 .ret) .skip)) (.seq q50_4 (.seq q50_5 (.seq (.seq q50_6 (.cond (.tmp 20) (.seq q50_7 .ret) .skip)) (.seq q50_8 .ret)))))))
theorem s50_strip : Yb (Zx Try.f50) = s50 := by kernel_rfl
theorem s50_ok : Ym 24 (Zx Try.f50) = true := by kernel_rfl
/-! 51: planchet bets.Beats -/
@[reducible] def q51_0 : SCode := .region [⟨some 5, .box 76 (.tmp 2), none⟩,
    ⟨some 6, .assign (.const (.bool false)), none⟩,
    ⟨some 7, .assign (.const (.int .i64 0)), none⟩]
@[reducible] def q51_1 : SCode := .region [⟨some 9, .move (.tmp 0), none⟩,
    ⟨some 10, .move (.tmp 1), none⟩,
    ⟨some 11, .build 86 #[(0, .tmp 9), (1, .tmp 10)], none⟩,
    ⟨some 8, .alloc 86, none⟩,
    ⟨none, .store 86 (.tmp 8) (.tmp 11), none⟩]
@[reducible] def q51_2 : SCode := .region [⟨some 12, .load 86 (.tmp 8), none⟩,
    ⟨some 13, .call { callee := .value (.func 58), args := #[.tmp 12], argTypes := #[86] }, none⟩,
    ⟨some 14, .unOp .not 4 (.tmp 13), none⟩]
@[reducible] def q51_3 : SCode := .region [⟨some 6, .assign (.const (.bool false)), none⟩,
    ⟨some 7, .assign (.const (.int .i64 2)), none⟩]
@[reducible] def q51_4 : SCode := .region [⟨some 15, .fieldAddr 76 (.tmp 5) 0, none⟩,
    ⟨some 16, .load 38 (.tmp 15), none⟩,
    ⟨some 17, .call { callee := .builtin .len, args := #[.tmp 16], argTypes := #[38] }, none⟩,
    ⟨some 18, .move (.tmp 1), none⟩,
    ⟨some 19, .call { callee := .builtin .len, args := #[.tmp 18], argTypes := #[30] }, none⟩,
    ⟨some 20, .binOp .neq 3 (.tmp 17) (.tmp 19) 3, none⟩,
    ⟨some 21, .move (.tmp 20), none⟩,
    ⟨some 22, .fieldAddr 76 (.tmp 5) 0, some (21, false)⟩,
    ⟨some 23, .load 38 (.tmp 22), some (21, false)⟩,
    ⟨some 24, .call { callee := .value (.func 90), args := #[.tmp 23], argTypes := #[38] }, some (21, false)⟩,
    ⟨some 25, .binOp .lss 3 (.tmp 24) (.const (.int .i64 (-1000000000))) 3, some (21, false)⟩,
    ⟨some 26, .pick (.tmp 21) (.const (.bool true)) (.tmp 25), none⟩,
    ⟨some 27, .move (.tmp 26), none⟩,
    ⟨some 28, .fieldAddr 76 (.tmp 5) 0, some (27, false)⟩,
    ⟨some 29, .load 38 (.tmp 28), some (27, false)⟩,
    ⟨some 30, .call { callee := .value (.func 91), args := #[.tmp 29], argTypes := #[38] }, some (27, false)⟩,
    ⟨some 31, .binOp .gtr 3 (.tmp 30) (.const (.int .i64 1000000000)) 3, some (27, false)⟩,
    ⟨some 32, .pick (.tmp 27) (.const (.bool true)) (.tmp 31), none⟩]
@[reducible] def q51_5 : SCode := .region [⟨some 6, .assign (.const (.bool false)), none⟩,
    ⟨some 7, .assign (.const (.int .i64 0)), none⟩]
@[reducible] def q51_6 : SCode := .region [⟨some 33, .load 86 (.tmp 8), none⟩,
    ⟨some 34, .fieldAddr 76 (.tmp 5) 0, none⟩,
    ⟨some 35, .load 38 (.tmp 34), none⟩,
    ⟨some 36, .call { callee := .value (.func 89), args := #[.tmp 33, .tmp 35], argTypes := #[86, 38] }, none⟩,
    ⟨some 6, .assign (.tmp 36), none⟩,
    ⟨some 7, .assign (.const (.int .i64 0)), none⟩]
def s51 : SCode := (.seq q51_0 (.seq q51_1 (.seq (.seq q51_2 (.cond (.tmp 14) (.seq q51_3 .ret) .skip)) (.seq (.seq q51_4 (.cond (.tmp 32) (.seq q51_5 .ret) .skip)) (.seq q51_6 .ret)))))
theorem s51_strip : Yb (Zx Try.f51) = s51 := by kernel_rfl
theorem s51_ok : Ym 37 (Zx Try.f51) = true := by kernel_rfl
/-! 83: planchet bets.chosen -/
@[reducible] def q83_0 : SCode := .region [⟨some 4, .assign (.const (.int .i64 1)), none⟩]
@[reducible] def q83_1 : SCode := .region [⟨some 7, .move (.tmp 4), none⟩,
    ⟨some 8, .move (.tmp 0), none⟩,
    ⟨some 9, .binOp .shl 3 (.const (.int .i64 1)) (.tmp 8) 3, none⟩,
    ⟨some 10, .binOp .lss 3 (.tmp 7) (.tmp 9) 3, none⟩]
@[reducible] def q83_3 : SCode := .region [⟨some 5, .assign (.const (.slice none 0 0)), none⟩]
@[reducible] def q83_4 : SCode := .region [⟨some 13, .move (.tmp 0), none⟩,
    ⟨some 14, .move (.const (.int .i64 0)), none⟩]
@[reducible] def q83_5 : SCode := .region [⟨some 15, .binOp .lss 3 (.tmp 14) (.tmp 13) 3, none⟩]
@[reducible] def q83_6 : SCode := .region [⟨some 16, .move (.tmp 14), none⟩,
    ⟨some 6, .assign (.tmp 16), none⟩]
@[reducible] def q83_7 : SCode := .region [⟨some 17, .move (.tmp 4), none⟩,
    ⟨some 18, .move (.tmp 6), none⟩,
    ⟨some 19, .binOp .shr 3 (.tmp 17) (.tmp 18) 3, none⟩,
    ⟨some 20, .binOp .and 3 (.tmp 19) (.const (.int .i64 1)) 3, none⟩,
    ⟨some 21, .binOp .eql 3 (.tmp 20) (.const (.int .i64 1)) 3, none⟩]
@[reducible] def q83_8 : SCode := .region [⟨some 22, .move (.tmp 5), none⟩,
    ⟨some 23, .move (.tmp 6), none⟩,
    ⟨some 24, .buildSlice 38 1 #[(0, .tmp 23)], none⟩,
    ⟨some 25, .call { callee := .builtin .append, args := #[.tmp 22, .tmp 24], argTypes := #[38, 38] }, none⟩,
    ⟨some 5, .assign (.tmp 25), none⟩]
@[reducible] def q83_9 : SCode := .region [⟨some 26, .binOp .add 3 (.tmp 14) (.const (.int .i64 1)) 3, none⟩,
    ⟨some 14, .move (.tmp 26), none⟩]
def l83_0 : SCode := (.seq q83_5 (.seq (.cond (.tmp 15) .skip (.exit 2)) (.seq (.block 3 (.seq q83_6 (.seq q83_7 (.cond (.tmp 21) q83_8 .skip)))) q83_9)))
@[reducible] def q83_10 : SCode := .region [⟨some 27, .move (.tmp 1), none⟩,
    ⟨some 28, .move (.tmp 5), none⟩,
    ⟨some 29, .call { callee := .value (.tmp 27), args := #[.tmp 28], argTypes := #[38] }, none⟩,
    ⟨some 30, .unOp .not 4 (.tmp 29), none⟩]
@[reducible] def q83_2 : SCode := .region [⟨some 11, .move (.tmp 4), none⟩,
    ⟨some 12, .binOp .add 3 (.tmp 11) (.const (.int .i64 1)) 3, none⟩,
    ⟨some 4, .assign (.tmp 12), none⟩]
def l83_1 : SCode := (.seq (.seq q83_1 (.cond (.tmp 10) .skip (.exit 0))) (.seq (.block 1 (.seq q83_3 (.seq (.seq q83_4 (.block 2 (.loop l83_0))) (.seq q83_10 (.cond (.tmp 30) .ret .skip))))) q83_2))
def s83 : SCode := (.seq q83_0 (.block 0 (.loop l83_1)))
theorem s83_strip : Yb (Zx Try.f83) = s83 := by kernel_rfl
theorem s83_ok : Ym 31 (Zx Try.f83) = true := by kernel_rfl
/-! 84: planchet bets.Beat$1 -/
@[reducible] def q84_0 : SCode := .region [⟨some 5, .box 38 (.tmp 0), none⟩,
    ⟨some 6, .assign (.const (.bool false)), none⟩]
@[reducible] def q84_1 : SCode := .region [⟨some 7, .load 3 (.tmp 1), none⟩,
    ⟨some 8, .makeFunc (.func 85) #[] #[.tmp 5, .tmp 2, .tmp 3, .tmp 4], none⟩,
    ⟨some 9, .call { callee := .value (.func 83), args := #[.tmp 7, .tmp 8], argTypes := #[3, 68] }, none⟩]
@[reducible] def q84_2 : SCode := .region [⟨some 10, .load 38 (.tmp 4), none⟩,
    ⟨some 11, .binOp .eql 38 (.tmp 10) (.const (.slice none 0 0)) 38, none⟩,
    ⟨some 6, .assign (.tmp 11), none⟩]
def s84 : SCode := (.seq q84_0 (.seq q84_1 (.seq q84_2 .ret)))
theorem s84_strip : Yb (Zx Try.f84) = s84 := by kernel_rfl
theorem s84_ok : Ym 12 (Zx Try.f84) = true := by kernel_rfl
/-! 85: planchet bets.Beat$1$1 -/
@[reducible] def q85_0 : SCode := .region [⟨some 6, .assign (.const (.bool false)), none⟩]
@[reducible] def q85_1 : SCode := .region [⟨some 21, .load 38 (.tmp 1), none⟩,
    ⟨some 22, .call { callee := .builtin .len, args := #[.tmp 21], argTypes := #[38] }, none⟩,
    ⟨some 23, .move (.tmp 0), none⟩,
    ⟨some 24, .call { callee := .builtin .len, args := #[.tmp 23], argTypes := #[38] }, none⟩,
    ⟨some 25, .binOp .neq 3 (.tmp 22) (.tmp 24) 3, none⟩]
@[reducible] def q85_2 : SCode := .region [⟨some 6, .assign (.const (.bool true)), none⟩]
@[reducible] def q85_3 : SCode := .region [⟨some 7, .assign (.const (.slice none 0 0)), none⟩]
@[reducible] def q85_4 : SCode := .region [⟨some 26, .move (.tmp 0), none⟩,
    ⟨some 27, .call { callee := .builtin .len, args := #[.tmp 26], argTypes := #[38] }, none⟩,
    ⟨some 28, .move (.const (.int .i64 0)), none⟩]
@[reducible] def q85_5 : SCode := .region [⟨some 29, .binOp .lss 3 (.tmp 28) (.tmp 27) 3, none⟩]
@[reducible] def q85_6 : SCode := .region [⟨some 30, .indexAddr 38 (.tmp 26) (.tmp 28), none⟩,
    ⟨some 31, .load 3 (.tmp 30), none⟩,
    ⟨some 9, .assign (.tmp 31), none⟩]
@[reducible] def q85_7 : SCode := .region [⟨some 10, .assign (.const (.slice none 0 0)), none⟩]
@[reducible] def q85_8 : SCode := .region [⟨some 32, .load 38 (.tmp 1), none⟩,
    ⟨some 33, .call { callee := .builtin .len, args := #[.tmp 32], argTypes := #[38] }, none⟩,
    ⟨some 34, .move (.const (.int .i64 0)), none⟩]
@[reducible] def q85_9 : SCode := .region [⟨some 35, .binOp .lss 3 (.tmp 34) (.tmp 33) 3, none⟩]
@[reducible] def q85_10 : SCode := .region [⟨some 36, .indexAddr 38 (.tmp 32) (.tmp 34), none⟩,
    ⟨some 37, .load 3 (.tmp 36), none⟩,
    ⟨some 12, .assign (.tmp 37), none⟩]
@[reducible] def q85_11 : SCode := .region [⟨some 38, .move (.tmp 10), none⟩,
    ⟨some 39, .load 30 (.tmp 2), none⟩,
    ⟨some 40, .move (.tmp 12), none⟩,
    ⟨some 41, .indexAddr 30 (.tmp 39) (.tmp 40), none⟩,
    ⟨some 42, .load 92 (.tmp 41), none⟩,
    ⟨some 43, .move (.tmp 9), none⟩,
    ⟨some 44, .call { callee := .value (.func 86), args := #[.tmp 42, .tmp 43], argTypes := #[92, 3] }, none⟩,
    ⟨some 45, .call { callee := .value (.func 70), args := #[.tmp 44], argTypes := #[3] }, none⟩,
    ⟨some 46, .buildSlice 47 1 #[(0, .tmp 45)], none⟩,
    ⟨some 47, .call { callee := .builtin .append, args := #[.tmp 38, .tmp 46], argTypes := #[47, 47] }, none⟩,
    ⟨some 10, .assign (.tmp 47), none⟩]
@[reducible] def q85_12 : SCode := .region [⟨some 48, .binOp .add 3 (.tmp 34) (.const (.int .i64 1)) 3, none⟩,
    ⟨some 34, .move (.tmp 48), none⟩]
def l85_0 : SCode := (.seq q85_9 (.seq (.cond (.tmp 35) .skip (.exit 2)) (.seq (.block 3 (.seq q85_10 q85_11)) q85_12)))
@[reducible] def q85_13 : SCode := .region [⟨some 49, .move (.tmp 7), none⟩,
    ⟨some 50, .move (.tmp 10), none⟩,
    ⟨some 51, .call { callee := .value (.func 70), args := #[.const (.int .i64 1)], argTypes := #[3] }, none⟩,
    ⟨some 52, .buildSlice 47 1 #[(0, .tmp 51)], none⟩,
    ⟨some 53, .call { callee := .builtin .append, args := #[.tmp 50, .tmp 52], argTypes := #[47, 47] }, none⟩,
    ⟨some 54, .buildSlice 103 1 #[(0, .tmp 53)], none⟩,
    ⟨some 55, .call { callee := .builtin .append, args := #[.tmp 49, .tmp 54], argTypes := #[103, 103] }, none⟩,
    ⟨some 7, .assign (.tmp 55), none⟩]
@[reducible] def q85_14 : SCode := .region [⟨some 56, .binOp .add 3 (.tmp 28) (.const (.int .i64 1)) 3, none⟩,
    ⟨some 28, .move (.tmp 56), none⟩]
def l85_1 : SCode := (.seq q85_5 (.seq (.cond (.tmp 29) .skip (.exit 0)) (.seq (.block 1 (.seq q85_6 (.seq q85_7 (.seq (.seq q85_8 (.block 2 (.loop l85_0))) q85_13)))) q85_14)))
@[reducible] def q85_15 : SCode := .region [⟨some 58, .move (.tmp 7), none⟩,
    ⟨some 59, .load 38 (.tmp 1), none⟩,
    ⟨some 60, .call { callee := .builtin .len, args := #[.tmp 59], argTypes := #[38] }, none⟩,
    ⟨some 61, .call { callee := .value (.func 87), args := #[.tmp 58, .tmp 60], argTypes := #[103, 3] }, none⟩,
    ⟨some 57, .move (.tmp 61), none⟩,
    ⟨some 62, .extract (.tmp 57) 0, none⟩,
    ⟨some 63, .extract (.tmp 57) 1, none⟩,
    ⟨some 13, .assign (.tmp 62), none⟩,
    ⟨some 14, .assign (.tmp 63), none⟩]
@[reducible] def q85_16 : SCode := .region [⟨some 64, .move (.tmp 14), none⟩,
    ⟨some 65, .unOp .not 4 (.tmp 64), none⟩]
@[reducible] def q85_17 : SCode := .region [⟨some 6, .assign (.const (.bool true)), none⟩]
@[reducible] def q85_18 : SCode := .region [⟨some 15, .assign (.const (.int .i64 1)), none⟩]
@[reducible] def q85_19 : SCode := .region [⟨some 66, .move (.tmp 13), none⟩,
    ⟨some 67, .call { callee := .builtin .len, args := #[.tmp 66], argTypes := #[47] }, none⟩,
    ⟨some 68, .move (.const (.int .i64 0)), none⟩]
@[reducible] def q85_20 : SCode := .region [⟨some 69, .binOp .lss 3 (.tmp 68) (.tmp 67) 3, none⟩]
@[reducible] def q85_21 : SCode := .region [⟨some 70, .indexAddr 47 (.tmp 66) (.tmp 68), none⟩,
    ⟨some 71, .load 26 (.tmp 70), none⟩,
    ⟨some 17, .alloc 26, none⟩,
    ⟨none, .store 26 (.tmp 17) (.tmp 71), none⟩]
def q85_22 : SCode := .draw [⟨some 72, .move (.tmp 15), none⟩,
    ⟨some 73, .move (.tmp 15), none⟩,
    ⟨some 74, .fieldAddr 26 (.tmp 17) 1, none⟩,
    ⟨some 75, .load 3 (.tmp 74), none⟩,
    ⟨some 76, .call { callee := .value (.func 88), args := #[.tmp 73, .tmp 75], argTypes := #[3, 3] }, none⟩,
    ⟨some 77, .binOp .quo 3 (.tmp 72) (.tmp 76) 3, none⟩,
    ⟨some 78, .fieldAddr 26 (.tmp 17) 1, none⟩,
    ⟨some 79, .load 3 (.tmp 78), none⟩,
    ⟨some 80, .binOp .mul 3 (.tmp 77) (.tmp 79) 3, none⟩,
    ⟨some 15, .assign (.tmp 80), none⟩]
   [[], [], [], [2], [1, 3], [0, 4], [], [6], [5, 7], [8, 4, 0, 1, 2, 3, 4, 5, 6, 7, 8]]
@[reducible] def q85_23 : SCode := .region [⟨some 81, .binOp .add 3 (.tmp 68) (.const (.int .i64 1)) 3, none⟩,
    ⟨some 68, .move (.tmp 81), none⟩]
def l85_2 : SCode := (.seq q85_20 (.seq (.cond (.tmp 69) .skip (.exit 4)) (.seq (.block 5 (.seq q85_21 q85_22)) q85_23)))
@[reducible] def q85_24 : SCode := .region [⟨some 82, .load 30 (.tmp 2), none⟩,
    ⟨some 83, .call { callee := .builtin .len, args := #[.tmp 82], argTypes := #[30] }, none⟩,
    ⟨some 84, .makeSlice 38 (.tmp 83) (.tmp 83), none⟩,
    ⟨some 18, .assign (.tmp 84), none⟩]
@[reducible] def q85_25 : SCode := .region [⟨some 85, .load 38 (.tmp 1), none⟩,
    ⟨some 86, .call { callee := .builtin .len, args := #[.tmp 85], argTypes := #[38] }, none⟩,
    ⟨some 87, .move (.const (.int .i64 0)), none⟩]
@[reducible] def q85_26 : SCode := .region [⟨some 88, .binOp .lss 3 (.tmp 87) (.tmp 86) 3, none⟩]
@[reducible] def q85_27 : SCode := .region [⟨some 89, .move (.tmp 87), none⟩,
    ⟨some 90, .indexAddr 38 (.tmp 85) (.tmp 87), none⟩,
    ⟨some 91, .load 3 (.tmp 90), none⟩,
    ⟨some 19, .assign (.tmp 89), none⟩,
    ⟨some 20, .assign (.tmp 91), none⟩]
def q85_28 : SCode := .draw [⟨some 92, .move (.tmp 18), none⟩,
    ⟨some 93, .move (.tmp 20), none⟩,
    ⟨some 94, .move (.tmp 13), none⟩,
    ⟨some 95, .move (.tmp 19), none⟩,
    ⟨some 96, .indexAddr 47 (.tmp 94) (.tmp 95), none⟩,
    ⟨some 97, .fieldAddr 26 (.tmp 96) 0, none⟩,
    ⟨some 98, .load 3 (.tmp 97), none⟩,
    ⟨some 99, .move (.tmp 15), none⟩,
    ⟨some 100, .move (.tmp 13), none⟩,
    ⟨some 101, .move (.tmp 19), none⟩,
    ⟨some 102, .indexAddr 47 (.tmp 100) (.tmp 101), none⟩,
    ⟨some 103, .fieldAddr 26 (.tmp 102) 1, none⟩,
    ⟨some 104, .load 3 (.tmp 103), none⟩,
    ⟨some 105, .binOp .quo 3 (.tmp 99) (.tmp 104) 3, none⟩,
    ⟨some 106, .binOp .mul 3 (.tmp 98) (.tmp 105) 3, none⟩,
    ⟨some 107, .indexAddr 38 (.tmp 92) (.tmp 93), none⟩,
    ⟨none, .store 3 (.tmp 107) (.tmp 106), none⟩]
   [[], [], [], [], [2, 3], [4], [5], [], [], [], [8, 9], [10], [11], [7, 12], [6, 13], [0, 1, 0, 1, 2, 3, 4, 5, 6, 7, 8, 9, 10, 11, 12, 13, 14], [15, 14, 0, 1, 2, 3, 4, 5, 6, 7, 8, 9, 10, 11, 12, 13, 14]]
@[reducible] def q85_29 : SCode := .region [⟨some 108, .binOp .add 3 (.tmp 87) (.const (.int .i64 1)) 3, none⟩,
    ⟨some 87, .move (.tmp 108), none⟩]
def l85_3 : SCode := (.seq q85_26 (.seq (.cond (.tmp 88) .skip (.exit 6)) (.seq (.block 7 (.seq q85_27 q85_28)) q85_29)))
@[reducible] def q85_30 : SCode := .region [⟨some 109, .load 86 (.tmp 3), none⟩,
    ⟨some 110, .move (.tmp 18), none⟩,
    ⟨some 111, .call { callee := .value (.func 89), args := #[.tmp 109, .tmp 110], argTypes := #[86, 38] }, none⟩]
@[reducible] def q85_31 : SCode := .region [⟨some 112, .move (.tmp 18), none⟩,
    ⟨none, .store 38 (.tmp 4) (.tmp 112), none⟩]
@[reducible] def q85_32 : SCode := .region [⟨some 113, .load 38 (.tmp 4), none⟩,
    ⟨some 114, .binOp .eql 38 (.tmp 113) (.const (.slice none 0 0)) 38, none⟩,
    ⟨some 6, .assign (.tmp 114), none⟩]
def s85 : SCode := (.seq q85_0 (.seq (.seq q85_1 (.cond (.tmp 25) (.seq q85_2 .ret) .skip)) (.seq q85_3 (.seq (.seq q85_4 (.block 0 (.loop l85_1))) (.seq q85_15 (.seq (.seq q85_16 (.cond (.tmp 65) (.seq q85_17 .ret) .skip)) (.seq q85_18 (.seq (.seq q85_19 (.block 4 (.loop l85_2))) (.seq q85_24 (.seq (.seq q85_25 (.block 6 (.loop l85_3))) (.seq (.seq q85_30 (.cond (.tmp 111) q85_31 .skip)) (.seq q85_32 .ret))))))))))))
theorem s85_strip : Yb (Zx Try.f85) = s85 := by kernel_rfl
theorem s85_ok : Ym 115 (Zx Try.f85) = true := by kernel_rfl
/-! 86: (planchet bets.Bet).gain -/
@[reducible] def q86_0 : SCode := .region [⟨some 2, .box 92 (.tmp 0), none⟩,
    ⟨some 4, .assign (.const (.int .i64 0)), none⟩]
def q86_1 : SCode := .draw [⟨some 5, .fieldAddr 92 (.tmp 2) 0, none⟩,
    ⟨some 6, .load 3 (.tmp 5), none⟩,
    ⟨some 7, .move (.tmp 1), none⟩,
    ⟨some 8, .binOp .shr 3 (.tmp 6) (.tmp 7) 3, none⟩,
    ⟨some 9, .binOp .and 3 (.tmp 8) (.const (.int .i64 1)) 3, none⟩,
    ⟨some 10, .binOp .mul 3 (.tmp 9) (.const (.int .i64 12)) 3, none⟩,
    ⟨some 11, .fieldAddr 92 (.tmp 2) 1, none⟩,
    ⟨some 12, .load 3 (.tmp 11), none⟩,
    ⟨some 13, .binOp .sub 3 (.tmp 10) (.tmp 12) 3, none⟩,
    ⟨some 4, .assign (.tmp 13), none⟩]
   [[], [0], [], [1, 2], [3], [4], [], [6], [5, 7], [8, 0, 1, 2, 3, 4, 5, 6, 7, 8]]
def s86 : SCode := (.seq q86_0 (.seq q86_1 .ret))
theorem s86_strip : Yb (Zx Try.f86) = s86 := by kernel_rfl
theorem s86_ok : Ym 14 (Zx Try.f86) = true := by kernel_rfl
/-! 89: (planchet bets.table).beats -/
@[reducible] def q89_0 : SCode := .region [⟨some 2, .box 86 (.tmp 0), none⟩,
    ⟨some 4, .assign (.const (.bool false)), none⟩]
@[reducible] def q89_1 : SCode := .region [⟨some 9, .fieldAddr 86 (.tmp 2) 0, none⟩,
    ⟨some 10, .load 3 (.tmp 9), none⟩,
    ⟨some 11, .move (.const (.int .i64 0)), none⟩]
@[reducible] def q89_2 : SCode := .region [⟨some 12, .binOp .lss 3 (.tmp 11) (.tmp 10) 3, none⟩]
@[reducible] def q89_3 : SCode := .region [⟨some 13, .move (.tmp 11), none⟩,
    ⟨some 5, .assign (.tmp 13), none⟩]
@[reducible] def q89_4 : SCode := .region [⟨some 6, .assign (.const (.int .i64 0)), none⟩]
@[reducible] def q89_5 : SCode := .region [⟨some 14, .fieldAddr 86 (.tmp 2) 1, none⟩,
    ⟨some 15, .load 30 (.tmp 14), none⟩,
    ⟨some 16, .call { callee := .builtin .len, args := #[.tmp 15], argTypes := #[30] }, none⟩,
    ⟨some 17, .move (.const (.int .i64 0)), none⟩]
@[reducible] def q89_6 : SCode := .region [⟨some 18, .binOp .lss 3 (.tmp 17) (.tmp 16) 3, none⟩]
@[reducible] def q89_7 : SCode := .region [⟨some 19, .move (.tmp 17), none⟩,
    ⟨some 20, .indexAddr 30 (.tmp 15) (.tmp 17), none⟩,
    ⟨some 21, .load 92 (.tmp 20), none⟩,
    ⟨some 8, .alloc 92, none⟩,
    ⟨some 7, .assign (.tmp 19), none⟩,
    ⟨none, .store 92 (.tmp 8) (.tmp 21), none⟩]
def q89_8 : SCode := .draw [⟨some 22, .move (.tmp 6), none⟩,
    ⟨some 23, .move (.tmp 1), none⟩,
    ⟨some 24, .move (.tmp 7), none⟩,
    ⟨some 25, .indexAddr 38 (.tmp 23) (.tmp 24), none⟩,
    ⟨some 26, .load 3 (.tmp 25), none⟩,
    ⟨some 27, .load 92 (.tmp 8), none⟩,
    ⟨some 28, .move (.tmp 5), none⟩,
    ⟨some 29, .call { callee := .value (.func 86), args := #[.tmp 27, .tmp 28], argTypes := #[92, 3] }, none⟩,
    ⟨some 30, .binOp .mul 3 (.tmp 26) (.tmp 29) 3, none⟩,
    ⟨some 31, .binOp .add 3 (.tmp 22) (.tmp 30) 3, none⟩,
    ⟨some 6, .assign (.tmp 31), none⟩]
   [[], [], [], [1, 2], [3], [], [], [5, 6], [4, 7], [0, 8], [9, 7, 0, 1, 2, 3, 4, 5, 6, 7, 8, 9]]
@[reducible] def q89_9 : SCode := .region [⟨some 32, .binOp .add 3 (.tmp 17) (.const (.int .i64 1)) 3, none⟩,
    ⟨some 17, .move (.tmp 32), none⟩]
def l89_0 : SCode := (.seq q89_6 (.seq (.cond (.tmp 18) .skip (.exit 2)) (.seq (.block 3 (.seq q89_7 q89_8)) q89_9)))
@[reducible] def q89_10 : SCode := .region [⟨some 33, .move (.tmp 6), none⟩,
    ⟨some 34, .binOp .leq 3 (.tmp 33) (.const (.int .i64 0)) 3, none⟩]
@[reducible] def q89_11 : SCode := .region [⟨some 4, .assign (.const (.bool false)), none⟩]
@[reducible] def q89_12 : SCode := .region [⟨some 35, .binOp .add 3 (.tmp 11) (.const (.int .i64 1)) 3, none⟩,
    ⟨some 11, .move (.tmp 35), none⟩]
def l89_1 : SCode := (.seq q89_2 (.seq (.cond (.tmp 12) .skip (.exit 0)) (.seq (.block 1 (.seq q89_3 (.seq q89_4 (.seq (.seq q89_5 (.block 2 (.loop l89_0))) (.seq q89_10 (.cond (.tmp 34) (.seq q89_11 .ret) .skip)))))) q89_12)))
@[reducible] def q89_13 : SCode := .region [⟨some 4, .assign (.const (.bool true)), none⟩]
def s89 : SCode := (.seq q89_0 (.seq (.seq q89_1 (.block 0 (.loop l89_1))) (.seq q89_13 .ret)))
theorem s89_strip : Yb (Zx Try.f89) = s89 := by kernel_rfl
theorem s89_ok : Ym 36 (Zx Try.f89) = true := by kernel_rfl
end Go.Proofs.Try.Am

namespace Bq

theorem sum_gt {n w : Nat} {g : Nat → Rat} (hw : w < n) (h : ∀ i, i < n → 0 ≤ g i) (hp : 0 < g w) : 0 < Zo g n := by
  have := sumTo_one hw h
  grind
theorem pos_of_sum {n : Nat} {p : Nat → Rat} (h : ∀ w, w < n → 0 ≤ p w) (h1 : Zo p n = 1) : ∃ w, w < n ∧ 0 < p w := by
  refine Classical.byContradiction fun hc => ?_
  have h2 : Zo p n = 0 := Xp fun i hi => by
    refine Rat.le_antisymm ?_ (h i hi)
    rw [← Rat.not_lt]
    exact fun hp => hc ⟨i, hi, hp⟩
  rw [h1] at h2
  exact absurd h2 (by decide +kernel)
theorem step_ex {n : Nat} (hn : 0 < n) {x a : Nat → Rat} {b c : Rat} (ha : ∀ w, w < n → 0 < a w) (hb : 0 ≤ b) (h : ∀ w, w < n → 0 < b * x w + a w * c) : ∃ t : Rat, (∀ w, w < n → 0 < x w + t * a w) ∧ 0 < c - t * b := by
  obtain ⟨w, hw, _, hmin⟩ := least_of (fun _ => True) (fun w => x w / a w) n ⟨0, hn, trivial⟩
  obtain ⟨ρ, hρ⟩ : ∃ ρ, x w / a w = ρ := ⟨_, rfl⟩
  have hx : ∀ v, v < n → ρ * a v ≤ x v := fun v hv => by
    have h1 := hmin v hv trivial
    rw [hρ] at h1
    have h2 := Rat.mul_le_mul_of_nonneg_right h1 (Rat.le_of_lt (ha v hv))
    rwa [Rat.div_mul_cancel (by have := ha v hv; grind)] at h2
  have hxw : x w = ρ * a w := by
    rw [← hρ, Rat.div_mul_cancel (by have := ha w hw; grind)]
  have hk : 0 < a w * (b * ρ + c) := by
    have := h w hw
    rw [hxw] at this
    have e : b * (ρ * a w) + a w * c = a w * (b * ρ + c) := by grind
    rwa [e] at this
  have hk2 : 0 < b * ρ + c := by
    rw [← Rat.not_le]
    intro hc
    have := Rat.mul_nonneg (Rat.le_of_lt (ha w hw)) (show 0 ≤ -(b * ρ + c) by grind)
    grind
  rcases Decidable.em (b = 0) with rfl | hb0
  · refine ⟨1 - ρ, fun v hv => ?_, by grind⟩
    have h1 := hx v hv
    have h2 := ha v hv
    grind
  · have hbp : 0 < b := by grind
    -- t = -ρ + (bρ + c) / (2b)
    obtain ⟨z, hz⟩ : ∃ z, (b * ρ + c) / (2 * b) = z := ⟨_, rfl⟩
    have hz2 : z * (2 * b) = b * ρ + c := by rw [← hz]; exact Rat.div_mul_cancel (by grind)
    have hz0 : 0 < z := by
      rw [← Rat.not_le]
      intro hc
      have := Rat.mul_nonneg (show 0 ≤ -z by grind) (show 0 ≤ 2 * b by grind)
      grind
    refine ⟨z - ρ, fun v hv => ?_, ?_⟩
    · have h1 := hx v hv
      have h2 := Rat.mul_pos hz0 (ha v hv)
      grind
    · have h2 := Rat.mul_pos hz0 hbp
      grind

def Wh (m : Nat) (G : Nat → Nat → Rat) (s : Nat → Rat) (w : Nat) : Rat := Zo (fun i => G w i * s i) m
theorem dotG_add (m : Nat) (G : Nat → Nat → Rat) (s d : Nat → Rat) (t : Rat) (w : Nat) : Wh m G (fun i => s i + t * d i) w = Wh m G s w + t * Wh m G d w := by
  rw [Wh, Zj (g := fun i => G w i * s i + t * (G w i * d i)) fun i hi => by grind, Wa, Ys, Wh, Wh]

theorem gordan (m : Nat) : ∀ (n : Nat) (G : Nat → Nat → Rat), (∃ s, ∀ w, w < n → 0 < Wh m G s w) ∨ ∃ p, (∀ w, w < n → 0 ≤ p w) ∧ Zo p n = 1 ∧ ∀ i, i < m → Zo (fun w => p w * G w i) n = 0
  | 0, G => .inl ⟨fun _ => 0, fun w hw => by omega⟩
  | 1, G => by
    by_cases hz : ∀ i, i < m → G 0 i = 0
    · refine .inr ⟨fun _ => 1, fun _ _ => by show (0 : Rat) ≤ 1; decide +kernel, by rw [Zo, Zo]; decide +kernel, fun i hi => ?_⟩
      rw [Zo, Zo, hz i hi]; decide +kernel
    · obtain ⟨i, hi⟩ := Classical.not_forall.1 hz
      simp only [Classical.not_imp] at hi
      refine .inl ⟨G 0, fun w hw => ?_⟩
      obtain rfl : w = 0 := by omega
      have hsq : ∀ x : Rat, 0 ≤ x * x := fun x => by
        rcases Rat.le_total (a := 0) (b := x) with h | h
        · exact Rat.mul_nonneg h h
        · have := Rat.mul_nonneg (show 0 ≤ -x by grind) (show 0 ≤ -x by grind)
          grind
      refine sum_gt hi.1 (fun j _ => hsq _) ?_
      have h1 := hsq (G 0 i)
      have h2 : G 0 i * G 0 i ≠ 0 := fun hc => by
        rcases Rat.mul_eq_zero.1 hc with h | h <;> exact hi.2 h
      grind
  | n + 2, G => by
    rcases gordan m (n + 1) G with ⟨s0, hs0⟩ | ⟨p, hp0, hp1, hpG⟩
    · by_cases hb : 0 < Wh m G s0 (n + 1)
      · refine .inl ⟨s0, fun w hw => ?_⟩
        rcases Nat.lt_or_ge w (n + 1) with h | h
        · exact hs0 w h
        · obtain rfl : w = n + 1 := by omega
          exact hb
      · have hb0 : 0 ≤ -Wh m G s0 (n + 1) := by grind
        obtain ⟨b, hbe⟩ : ∃ b, -Wh m G s0 (n + 1) = b := ⟨_, rfl⟩
        rw [hbe] at hb0
        rcases gordan m (n + 1) (fun w i => b * G w i + Wh m G s0 w * G (n + 1) i) with ⟨s1, hs1⟩ | ⟨p, hp0, hp1, hpG⟩
        · have hU : ∀ w, w < n + 1 → 0 < b * Wh m G s1 w + Wh m G s0 w * Wh m G s1 (n + 1) := fun w hw => by
            have := hs1 w hw
            rw [Wh, Zj (g := fun i => b * (G w i * s1 i) + Wh m G s0 w * (G (n + 1) i * s1 i)) fun i hi => by grind, Wa, Ys, Ys] at this
            exact this
          obtain ⟨t, h1, h2⟩ := step_ex (show 0 < n + 1 by omega) hs0 hb0 hU
          refine .inl ⟨fun i => s1 i + t * s0 i, fun w hw => ?_⟩
          rw [dotG_add]
          rcases Nat.lt_or_ge w (n + 1) with h | h
          · exact h1 w h
          · obtain rfl : w = n + 1 := by omega
            rw [← hbe] at h2
            grind
        · right
          have hA : 0 < Zo (fun w => p w * Wh m G s0 w) (n + 1) := by
            obtain ⟨w, hw, hpw⟩ := pos_of_sum hp0 hp1
            exact sum_gt hw (fun i hi => Rat.mul_nonneg (hp0 i hi) (Rat.le_of_lt (hs0 i hi))) (Rat.mul_pos hpw (hs0 w hw))
          obtain ⟨A, hAe⟩ : ∃ A, Zo (fun w => p w * Wh m G s0 w) (n + 1) = A := ⟨_, rfl⟩
          rw [hAe] at hA
          have hT : 0 < b + A := by grind
          have hTi : (b + A)⁻¹ * (b + A) = 1 := Rat.inv_mul_cancel _ (by grind)
          have hTp : 0 < (b + A)⁻¹ := Rat.inv_pos.2 hT
          obtain ⟨r, hr⟩ : ∃ r, (b + A)⁻¹ = r := ⟨_, rfl⟩
          rw [hr] at hTi hTp
          have key : ∀ (f : Nat → Rat), Zo (fun w => (if w < n + 1 then r * (b * p w) else r * A) * f w) (n + 2) = r * (b * Zo (fun w => p w * f w) (n + 1) + A * f (n + 1)) := fun f => by
            rw [Zo, Zj (g := fun w => (r * b) * (p w * f w)) fun w hw => by rw [if_pos hw]; grind, Ys, if_neg (by omega)]
            grind
          refine ⟨fun w => if w < n + 1 then r * (b * p w) else r * A, fun w hw => ?_, ?_, fun i hi => ?_⟩
          · simp only
            split
            · exact Rat.mul_nonneg (Rat.le_of_lt hTp) (Rat.mul_nonneg hb0 (hp0 w (by assumption)))
            · exact Rat.mul_nonneg (Rat.le_of_lt hTp) (Rat.le_of_lt hA)
          · have := key fun _ => 1
            rw [Zj (g := fun w => if w < n + 1 then r * (b * p w) else r * A) fun w hw => by rw [Rat.mul_one], Zj (f := fun w => p w * 1) (g := p) fun w hw => by rw [Rat.mul_one], hp1] at this
            rw [this]; grind
          · rw [key fun w => G w i]
            have := hpG i hi
            rw [Zj (g := fun w => b * (p w * G w i) + G (n + 1) i * (p w * Wh m G s0 w)) fun w hw => by grind, Wa, Ys, Ys, hAe] at this
            rw [show A * G (n + 1) i = G (n + 1) i * A from Rat.mul_comm .., this, Rat.mul_zero]
    · right
      have key : ∀ (f : Nat → Rat), Zo (fun w => (if w < n + 1 then p w else 0) * f w) (n + 2) = Zo (fun w => p w * f w) (n + 1) := fun f => by
        rw [Zo, Zj (g := fun w => p w * f w) fun w hw => by rw [if_pos hw], if_neg (by omega), Rat.zero_mul, Rat.add_zero]
      refine ⟨fun w => if w < n + 1 then p w else 0, fun w hw => ?_, ?_, fun i hi => ?_⟩
      · simp only
        split
        · exact hp0 w (by assumption)
        · exact Rat.le_refl
      · have := key fun _ => 1
        rw [Zj (g := fun w => if w < n + 1 then p w else 0) fun w hw => by rw [Rat.mul_one], Zj (f := fun w => p w * 1) (g := p) fun w hw => by rw [Rat.mul_one]] at this
        rw [this, hp1]
      · rw [key fun w => G w i, hpG i hi]

def Stuck (m n : Nat) (G : Nat → Nat → Rat) (s : Nat → Rat) : Prop := ∀ d, (∀ i, i < m → d i ≠ 0 → s i ≠ 0) → (∀ w, w < n → Wh m G s w = 1 → Wh m G d w = 0) → ∀ i, i < m → d i = 0
theorem sq_le_one {u : Rat} (h : u * u ≤ 1) : u ≤ 1 := by
  rw [← Rat.not_lt]
  intro hc
  have := Rat.mul_pos (show 0 < u - 1 by grind) (show 0 < u + 1 by grind)
  grind
theorem stuck_ex {m n : Nat} {G : Nat → Nat → Rat} : ∀ (N : Nat) (s : Nat → Rat), cntN s m + cntN (fun w => Wh m G s w - 1) n ≤ N → (∀ w, w < n → 1 ≤ Wh m G s w) → ∃ s, (∀ w, w < n → 1 ≤ Wh m G s w) ∧ Stuck m n G s := by
  intro N
  induction N with
  | zero =>
    intro s hN hs
    refine ⟨s, hs, fun d hd _ i hi => Classical.byContradiction fun hdi => ?_⟩
    have h0 : cntN s m = 0 := by omega
    have := (cntN_lt (p := s) (q := fun _ => 0) (w := i) m fun v _ h => absurd rfl h).1 hi ⟨rfl, hd i hi hdi⟩
    omega
  | succ N ih =>
    intro s hN hs
    by_cases hst : Stuck m n G s
    · exact ⟨s, hs, hst⟩
    · obtain ⟨d, hst⟩ := Classical.not_forall.1 hst
      simp only [Classical.not_imp, Classical.not_forall] at hst
      obtain ⟨hd, hz, i0, hi0, hdi0⟩ := hst
      -- the events
      obtain ⟨t, ht⟩ : ∃ t : Nat → Rat, ∀ j, t j = if j < m then -(s j / d j) else (1 - Wh m G s (j - m)) / Wh m G d (j - m) := ⟨_, fun j => rfl⟩
      obtain ⟨P, hP⟩ : ∃ P : Nat → Prop, ∀ j, P j ↔ if j < m then d j ≠ 0 else Wh m G d (j - m) ≠ 0 := ⟨_, fun j => Iff.rfl⟩
      obtain ⟨j, hj, hPj, hmin⟩ := least_of P (fun j => t j * t j) (m + n) ⟨i0, by omega, (hP i0).2 (by rw [if_pos hi0]; exact hdi0)⟩
      have hfe : ∀ w, w < n → 1 ≤ Wh m G (fun i => s i + t j * d i) w := fun w hw => by
        rw [dotG_add]
        rcases Decidable.em (Wh m G d w = 0) with h0 | h0
        · rw [h0, Rat.mul_zero, Rat.add_zero]; exact hs w hw
        · have h1 := hmin (m + w) (by omega) ((hP _).2 (by rw [if_neg (by omega), Nat.add_sub_cancel_left]; exact h0))
          have h2 := ht (m + w)
          rw [if_neg (by omega), Nat.add_sub_cancel_left] at h2
          have hy : Wh m G s w ≠ 1 := fun h => h0 (hz w hw h)
          have hy1 := hs w hw
          obtain ⟨y, hye⟩ : ∃ y, Wh m G s w = y := ⟨_, rfl⟩
          obtain ⟨z, hze⟩ : ∃ z, Wh m G d w = z := ⟨_, rfl⟩
          rw [hye] at h2 hy hy1
          rw [hze] at h2 h0
          rw [hye, hze]
          obtain ⟨tw, htw⟩ : ∃ tw, t (m + w) = tw := ⟨_, rfl⟩
          rw [htw] at h1 h2
          have h3 : tw * z = 1 - y := by rw [h2]; exact Rat.div_mul_cancel h0
          have h4 : tw ≠ 0 := fun h => by rw [h, Rat.zero_mul] at h3; grind
          have hq : 0 < tw * tw := by
            rcases Rat.le_total (a := 0) (b := tw) with h | h
            · exact Rat.mul_pos (by grind) (by grind)
            · have := Rat.mul_pos (show 0 < -tw by grind) (show 0 < -tw by grind); grind
          obtain ⟨u, hu⟩ : ∃ u, t j / tw = u := ⟨_, rfl⟩
          have h5 : t j = u * tw := by rw [← hu]; exact (Rat.div_mul_cancel h4).symm
          rw [h5] at h1 ⊢
          have h6 : u * u ≤ 1 := by
            refine Rat.le_of_mul_le_mul_right (c := tw * tw) ?_ hq
            have e : u * u * (tw * tw) = u * tw * (u * tw) := by grind
            rw [e]; grind
          have h7 := Rat.mul_nonneg (show 0 ≤ y - 1 by grind) (show 0 ≤ 1 - u by have := sq_le_one h6; grind)
          have e : y + u * tw * z = 1 + (y - 1) * (1 - u) := by
            have : u * tw * z = u * (tw * z) := by grind
            rw [this, h3]; grind
          rw [e]; grind
      refine ih (fun i => s i + t j * d i) ?_ hfe
      have hsup : ∀ v, v < m → s v + t j * d v ≠ 0 → s v ≠ 0 := fun v hv h hc => by
        have : d v = 0 := Classical.byContradiction fun h1 => hd v hv h1 hc
        rw [hc, this] at h
        exact h (by grind)
      have htight : ∀ w, w < n → Wh m G (fun i => s i + t j * d i) w - 1 ≠ 0 → Wh m G s w - 1 ≠ 0 := fun w hw h hc => by
        have h1 : Wh m G s w = 1 := by grind
        rw [dotG_add, h1, hz w hw h1] at h
        exact h (by grind)
      have c1 := cntN_lt (p := s) (q := fun i => s i + t j * d i) (w := j) m hsup
      have c2 := cntN_lt (p := fun w => Wh m G s w - 1) (q := fun w => Wh m G (fun i => s i + t j * d i) w - 1) (w := j - m) n htight
      have htj := ht j
      have hPj' := (hP j).1 hPj
      rcases Nat.lt_or_ge j m with hjm | hjm
      · rw [if_pos hjm] at htj hPj'
        have := c1.1 hjm ⟨by
          have h1 : s j / d j * d j = s j := Rat.div_mul_cancel hPj'
          show s j + t j * d j = 0
          rw [htj]; grind, hd j hjm hPj'⟩
        have := c2.2
        omega
      · rw [if_neg (by omega)] at htj hPj'
        have hjn : j - m < n := by omega
        have := c2.1 hjn ⟨by
          show Wh m G (fun i => s i + t j * d i) (j - m) - 1 = 0
          have h1 : t j * Wh m G d (j - m) = 1 - Wh m G s (j - m) := by rw [htj]; exact Rat.div_mul_cancel hPj'
          rw [dotG_add, h1]; grind, fun hc => hPj' (hz _ hjn (by grind))⟩
        have := c1.2
        omega

theorem dot_spr (m : Nat) (G : Nat → Nat → Rat) (set : Nat) (δ : Nat → Rat) (w : Nat) : Wh m G (spr set δ) w = Zo (fun c => G w ((Zi set m).getD c 0) * δ c) (Zi set m).length := by
  rw [ws_sum set (fun c i => G w i * δ c) m, Wh]
  refine Zj fun i hi => ?_
  rw [spr]
  split
  · rfl
  · rw [Rat.mul_zero]
theorem spr_get {set n c : Nat} (δ : Nat → Rat) (hc : c < (Zi set n).length) : spr set δ ((Zi set n).getD c 0) = δ c := by
  obtain ⟨h1, h2, h3⟩ := Xe hc
  rw [spr, if_pos h3, h1]
theorem ker_wide {m k : Nat} (h : m < k) (A : Nat → Nat → Rat) : ∃ δ : Nat → Rat, (∀ r, r < m → Zo (fun c => A r c * δ c) k = 0) ∧ ∃ c, c < k ∧ δ c ≠ 0 := by
  have h1 := solve_wide (T := fun r c => if c < k then A r c else 0) h
  have hA : ∀ (y : Nat → Rat) r, Zo (fun c => (if c < k then A r c else 0) * y c) k = Zo (fun c => A r c * y c) k := fun y r => Zj fun c hc => by rw [if_pos hc]
  rcases solve_none h1 with h2 | ⟨δ, hδ, hc⟩
  · refine absurd ?_ (h2 fun _ => 0)
    intro i hi
    rw [hA]
    show _ = if k < k then A i k else 0
    rw [if_neg (by omega)]
    exact Xp fun c _ => Rat.mul_zero _
  · refine ⟨δ, fun r hr => ?_, hc⟩
    rw [← hA]
    exact hδ r hr

def Inj (m n : Nat) (G : Nat → Nat → Rat) (s : Nat → Rat) (χ : Nat → Rat) : Prop := ∀ d, (∀ i, i < m → d i ≠ 0 → s i ≠ 0) → (∀ w, w < n → χ w ≠ 0 → Wh m G d w = 0) → ∀ i, i < m → d i = 0
theorem inj_min {m n : Nat} {G : Nat → Nat → Rat} {s : Nat → Rat} : ∀ (N : Nat) (χ : Nat → Rat), cntN χ n ≤ N → Inj m n G s χ → ∃ χ', (∀ w, w < n → χ' w ≠ 0 → χ w ≠ 0) ∧ Inj m n G s χ' ∧ ∀ w0, w0 < n → χ' w0 ≠ 0 → ¬ Inj m n G s fun w => if w = w0 then 0 else χ' w := by
  intro N
  induction N with
  | zero =>
    intro χ hN hI
    refine ⟨χ, fun _ _ h => h, hI, fun w0 hw0 h0 => ?_⟩
    have := (cntN_lt (p := χ) (q := fun _ => 0) (w := w0) n fun v _ h => absurd rfl h).1 hw0 ⟨rfl, h0⟩
    omega
  | succ N ih =>
    intro χ hN hI
    by_cases hex : ∃ w0, w0 < n ∧ χ w0 ≠ 0 ∧ Inj m n G s fun w => if w = w0 then 0 else χ w
    · obtain ⟨w0, hw0, h0, h1⟩ := hex
      have hsub : ∀ v, v < n → (if v = w0 then (0 : Rat) else χ v) ≠ 0 → χ v ≠ 0 := fun v _ h => by
        split at h
        · exact absurd rfl h
        · exact h
      have hlt := (cntN_lt (p := χ) (q := fun w => if w = w0 then 0 else χ w) (w := w0) n hsub).1 hw0 ⟨by simp, h0⟩
      obtain ⟨χ', g1, g2, g3⟩ := ih _ (by omega) h1
      exact ⟨χ', fun w hw h => hsub w hw (g1 w hw h), g2, g3⟩
    · exact ⟨χ, fun _ _ h => h, hI, fun w0 hw0 h0 h1 => hex ⟨w0, hw0, h0, h1⟩⟩

theorem rows_ex {m n : Nat} {G : Nat → Nat → Rat} {s : Nat → Rat} (hst : Stuck m n G s) : ∃ set, set < 2 ^ n ∧ (∀ w, set.testBit w = true → w < n ∧ Wh m G s w = 1) ∧ (Zi set n).length = (Zi (msk s m) m).length ∧
    ∀ d, (∀ i, i < m → d i ≠ 0 → s i ≠ 0) → (∀ w, set.testBit w = true → Wh m G d w = 0) → ∀ i, i < m → d i = 0 := by
  have h0 : Inj m n G s fun w => if Wh m G s w = 1 then 1 else 0 := fun d hd hw => hst d hd fun w hwn h1 => hw w hwn (by show (if Wh m G s w = 1 then (1 : Rat) else 0) ≠ 0; rw [if_pos h1]; decide +kernel)
  obtain ⟨χ, c1, c2, c3⟩ := inj_min _ _ (Nat.le_refl _) h0
  obtain ⟨set, hset⟩ : ∃ x, msk χ n = x := ⟨_, rfl⟩
  obtain ⟨on, hon⟩ : ∃ x, msk s m = x := ⟨_, rfl⟩
  have hb : ∀ w, set.testBit w = true ↔ w < n ∧ χ w ≠ 0 := fun w => by rw [← hset]; exact msk_bit χ w n
  have hbi : ∀ i, on.testBit i = true ↔ i < m ∧ s i ≠ 0 := fun i => by rw [← hon]; exact msk_bit s i m
  have hinj : ∀ d, (∀ i, i < m → d i ≠ 0 → s i ≠ 0) → (∀ w, set.testBit w = true → Wh m G d w = 0) → ∀ i, i < m → d i = 0 := fun d hd hw => c2 d hd fun w hwn h => hw w ((hb w).2 ⟨hwn, h⟩)
  have hsup : ∀ (δ : Nat → Rat) i, i < m → spr on δ i ≠ 0 → s i ≠ 0 := fun δ i hi h => by
    rw [spr] at h
    split at h
    · exact ((hbi i).1 (by assumption)).2
    · exact absurd rfl h
  refine ⟨set, by rw [← hset]; exact msk_lt χ n, fun w hw => ?_, ?_, hinj⟩
  · obtain ⟨h1, h2⟩ := (hb w).1 hw
    refine ⟨h1, ?_⟩
    have := c1 w h1 h2
    split at this
    · assumption
    · exact absurd rfl this
  rw [hon]
  rcases Nat.lt_trichotomy (Zi set n).length (Zi on m).length with h | h | h
  · -- too few rows
    exfalso
    obtain ⟨δ, hδ, c, hc, hne⟩ := ker_wide h fun r c => G ((Zi set n).getD r 0) ((Zi on m).getD c 0)
    have hz := hinj (spr on δ) (hsup δ) fun w hw => by
      have hw1 := ((hb w).1 hw).1
      have hr := Yw hw1 hw
      have := hδ _ hr
      rw [Wi hw1 hw] at this
      rw [dot_spr]; exact this
    obtain ⟨g1, g2, g3⟩ := Xe hc
    have := hz _ g2
    rw [spr_get δ hc] at this
    exact hne this
  · exact h
  · -- too many
    exfalso
    have hex : ∀ w, ∃ d : Nat → Rat, set.testBit w = true → (∀ i, i < m → d i ≠ 0 → s i ≠ 0) ∧ (∀ v, set.testBit v = true → v ≠ w → Wh m G d v = 0) ∧ Wh m G d w ≠ 0 := fun w => by
      by_cases hw : set.testBit w = true
      · obtain ⟨hwn, hχ⟩ := (hb w).1 hw
        have := c3 w hwn hχ
        obtain ⟨d, hd⟩ := Classical.not_forall.1 this
        simp only [Classical.not_imp, Classical.not_forall] at hd
        obtain ⟨d1, d2, i, hi, hdi⟩ := hd
        have hoth : ∀ v, set.testBit v = true → v ≠ w → Wh m G d v = 0 := fun v hv hvw => by
          obtain ⟨h1, h2⟩ := (hb v).1 hv
          exact d2 v h1 (by simpa [hvw] using h2)
        refine ⟨d, fun _ => ⟨d1, hoth, fun hz => hdi (hinj d d1 (fun v hv => ?_) i hi)⟩⟩
        by_cases hvw : v = w
        · rw [hvw]; exact hz
        · exact hoth v hv hvw
      · exact ⟨fun _ => 0, fun h => absurd h hw⟩
    obtain ⟨D, hD⟩ := Classical.skolem.1 hex
    obtain ⟨α, hα, c, hc, hne⟩ := ker_wide h fun r c => D ((Zi set n).getD c 0) ((Zi on m).getD r 0)
    obtain ⟨g1, g2, g3⟩ := Xe hc
    obtain ⟨w0, hw0⟩ : ∃ x, (Zi set n).getD c 0 = x := ⟨_, rfl⟩
    rw [hw0] at g1 g2 g3
    have hall : ∀ i, i < m → Zo (fun c => D ((Zi set n).getD c 0) i * α c) (Zi set n).length = 0 := fun i hi => by
      by_cases hbit : on.testBit i = true
      · have hr := Yw hi hbit
        have := hα _ hr
        rw [Wi hi hbit] at this
        exact this
      · refine Xp fun c' hc' => ?_
        obtain ⟨_, _, q3⟩ := Xe hc'
        have hz : D ((Zi set n).getD c' 0) i = 0 := Classical.byContradiction fun hnz => hbit ((hbi i).2 ⟨hi, (hD _ q3).1 i hi hnz⟩)
        rw [hz, Rat.zero_mul]
    have hsum : Zo (fun i => G w0 i * Zo (fun c => D ((Zi set n).getD c 0) i * α c) (Zi set n).length) m = Zo (fun c => α c * Wh m G (D ((Zi set n).getD c 0)) w0) (Zi set n).length := by
      rw [Zj (g := fun i => Zo (fun c => G w0 i * (D ((Zi set n).getD c 0) i * α c)) (Zi set n).length) fun i hi => (Ys _ _ _).symm, sumTo_swap]
      refine Zj fun c' _ => ?_
      rw [Wh, ← Ys]
      exact Zj fun i _ => by grind
    rw [Xp fun i hi => by rw [hall i hi, Rat.mul_zero]] at hsum
    have hpick : Zo (fun c' => α c' * Wh m G (D ((Zi set n).getD c' 0)) w0) (Zi set n).length = α c * Wh m G (D w0) w0 := by
      rw [← hw0, ← sumTo_pick (fun c' => α c' * Wh m G (D ((Zi set n).getD c' 0)) ((Zi set n).getD c 0)) hc, hw0]
      refine Zj fun c' hc' => ?_
      split
      · rfl
      · rename_i hcc
        obtain ⟨q1, q2, q3⟩ := Xe hc'
        have hne2 : w0 ≠ (Zi set n).getD c' 0 := fun he => hcc (by rw [← q1, ← he, g1])
        rw [(hD _ q3).2.1 w0 g3 hne2, Rat.mul_zero]
    rw [hpick] at hsum
    rcases Rat.mul_eq_zero.1 hsum.symm with h1 | h1
    · exact hne h1
    · exact (hD w0 g3).2.2 h1
end Bq

namespace Bq

def gnI (l : List (Int × Int)) (w i : Nat) : Int := (if (l.getD i (0, 0)).1.toNat.testBit w then 12 else 0) - (l.getD i (0, 0)).2
def gnQ (l : List (Int × Int)) (w i : Nat) : Rat := (gnI l w i : Rat)
def sysG (l : List (Int × Int)) (ws is : List Nat) : Xx := fun r c => if c < is.length then gnQ l (ws.getD r 0) (is.getD c 0) else 1
def gnTo (l : List (Int × Int)) (ss : List Int) (w : Nat) : Nat → Int
  | 0 => 0
  | k + 1 => gnTo l ss w k + ss.getD k 0 * gnI l w k
def Vx (n : Nat) (l : List (Int × Int)) (ss : List Int) : Bool := (List.range n).all fun w => decide (0 < gnTo l ss w l.length)
theorem beatsB_iff {n : Nat} {l : List (Int × Int)} {ss : List Int} : Vx n l ss = true ↔ ∀ w, w < n → 0 < gnTo l ss w l.length := by
  simp only [Vx, List.all_eq_true, List.mem_range, decide_eq_true_eq]
theorem gnTo_rat (l : List (Int × Int)) (ss : List Int) (w : Nat) : ∀ k, ((gnTo l ss w k : Int) : Rat) = Wh k (gnQ l) (fun i => ((ss.getD i 0 : Int) : Rat)) w
  | 0 => rfl
  | k + 1 => by
    rw [gnTo, Rat.intCast_add, Rat.intCast_mul, gnTo_rat l ss w k, Wh, Wh, Zo, gnQ, Rat.mul_comm (ss.getD k 0 : Rat)]
theorem gnQ_eq (l : List (Int × Int)) (w i : Nat) : gnQ l w i = 12 * (if (l.getD i (0, 0)).1.toNat.testBit w then (1 : Rat) else 0) - ((l.getD i (0, 0)).2 : Rat) := by
  rw [gnQ, gnI, Rat.intCast_sub]
  split
  · rw [Rat.mul_one]; rfl
  · rw [Rat.mul_zero]; rfl
theorem gain_mean {n : Nat} {l : List (Int × Int)} {p : Nat → Rat} {i : Nat} (he : (l.getD i (0, 0)).1.toNat < 2 ^ n) : Zo (fun w => p w * gnQ l w i) n = 12 * evq n p (l.getD i (0, 0)).1.toNat - ((l.getD i (0, 0)).2 : Rat) * Zo p n := by
  rw [Zj (g := fun w => 12 * (bitQ (l.getD i (0, 0)).1.toNat w * p w) + -((l.getD i (0, 0)).2 : Rat) * p w) fun w hw => ?_, Wa, Ys, Ys, evq]
  · grind
  · rw [gnQ_eq, bitQ]
    split <;> grind
def Evs (n : Nat) (l : List (Int × Int)) : Prop := ∀ i, i < l.length → (l.getD i (0, 0)).1.toNat < 2 ^ n

theorem cents_eq {q : Rat} {c : Int} : q = Rat.divInt c 12 ↔ 12 * q - (c : Rat) = 0 := by
  have h := divInt_mul (x := c) (y := 12) (by decide)
  have e : ((12 : Int) : Rat) = 12 := rfl
  rw [e] at h
  constructor
  · rintro rfl; grind
  · intro h2; grind
theorem beats_unsound {n : Nat} {l : List (Int × Int)} {ss : List Int} (he : Evs n l) (hb : Vx n l ss = true) : Xt n l = [] := by
  refine Classical.byContradiction fun hne => ?_
  obtain ⟨p, hp⟩ := sound_iff.1 hne
  have hg := beatsB_iff.1 hb
  have h1 : 0 < Zo (fun w => p w * Wh l.length (gnQ l) (fun i => ((ss.getD i 0 : Int) : Rat)) w) n := by
    obtain ⟨w, hw, hpw⟩ := pos_of_sum hp.nn hp.one
    have hpos : ∀ v, v < n → 0 < Wh l.length (gnQ l) (fun i => ((ss.getD i 0 : Int) : Rat)) v := fun v hv => by
      rw [← gnTo_rat]
      exact_mod_cast hg v hv
    exact sum_gt hw (fun i hi => Rat.mul_nonneg (hp.nn i hi) (Rat.le_of_lt (hpos i hi))) (Rat.mul_pos hpw (hpos w hw))
  have h2 : Zo (fun w => p w * Wh l.length (gnQ l) (fun i => ((ss.getD i 0 : Int) : Rat)) w) n = 0 := by
    rw [Zj (g := fun w => Zo (fun i => ((ss.getD i 0 : Int) : Rat) * (p w * gnQ l w i)) l.length) fun w hw => by
      rw [Wh, ← Ys]; exact Zj fun i hi => by grind, sumTo_swap]
    refine Xp fun i hi => ?_
    rw [Ys, gain_mean (he i hi), hp.one, hp.bet i hi]
    have := cents_eq.1 (rfl : Rat.divInt (l.getD i (0, 0)).2 12 = _)
    rw [Rat.mul_one, this, Rat.mul_zero]
  rw [h2] at h1
  exact absurd h1 (by decide +kernel)

/-! ### Stakes out of a solution -/
def Vw (xs : List Rat) : Nat → Nat
  | 0 => 1
  | k + 1 => Vw xs k / Nat.gcd (Vw xs k) (xs.getD k 0).den * (xs.getD k 0).den
theorem byTo_lcm (xs : List Rat) (k : Nat) : Vw xs (k + 1) = Nat.lcm (Vw xs k) (xs.getD k 0).den := by
  rw [Vw, Nat.lcm, Nat.mul_comm, Nat.mul_div_assoc _ (Nat.gcd_dvd_left _ _) |>.symm, Nat.mul_comm]
theorem byTo_pos (xs : List Rat) : ∀ k, 0 < Vw xs k
  | 0 => Nat.one_pos
  | k + 1 => by rw [byTo_lcm]; exact Nat.lcm_pos (byTo_pos xs k) (xs.getD k 0).den_pos
theorem byTo_dvd (xs : List Rat) : ∀ {k i : Nat}, i < k → (xs.getD i 0).den ∣ Vw xs k
  | k + 1, i, h => by
    rw [byTo_lcm]
    by_cases hi : i = k
    · subst hi; exact Nat.dvd_lcm_right _ _
    · exact Nat.dvd_trans (byTo_dvd xs (show i < k by omega)) (Nat.dvd_lcm_left _ _)
theorem byTo_le (xs : List Rat) {D : Nat} : ∀ k, (∀ i, i < k → (xs.getD i 0).den ∣ D) → Vw xs k ∣ D
  | 0, _ => Nat.one_dvd _
  | k + 1, h => by
    rw [byTo_lcm]
    exact Nat.lcm_dvd (byTo_le xs k fun i hi => h i (by omega)) (h k (by omega))
def stkI (on : Nat) (xs : List Rat) (i : Nat) : Int := if on.testBit i then (xs.getD (Zi on i).length 0).num * ((Vw xs xs.length / (xs.getD (Zi on i).length 0).den : Nat) : Int) else 0
theorem num_up (q : Rat) {N : Nat} (h : q.den ∣ N) (hN : 0 < N) : ((q.num * ((N / q.den : Nat) : Int) : Int) : Rat) = q * (N : Rat) := by
  exact ((Rp.own q).up' h hN).2.symm
theorem stk_rat {on m : Nat} {xs : List Rat} (hx : xs.length = (Zi on m).length) {i : Nat} (hi : i < m) : ((stkI on xs i : Int) : Rat) = spr on (fun c => xs.getD c 0) i * ((Vw xs xs.length : Nat) : Rat) := by
  rw [stkI, spr]
  split
  · rename_i hb
    have := Yw hi hb
    exact num_up _ (byTo_dvd xs (by omega)) (byTo_pos _ _)
  · rw [Rat.zero_mul]; rfl
def stkL (on : Nat) (xs : List Rat) (m : Nat) : List Int := (List.range m).map (stkI on xs)
theorem stkL_get {on m : Nat} {xs : List Rat} {i : Nat} (hi : i < m) : (stkL on xs m).getD i 0 = stkI on xs i := by
  rw [stkL, List.getD, List.getElem?_map, List.getElem?_eq_getElem (by simpa using hi)]; simp
theorem stk_gain {n : Nat} {l : List (Int × Int)} {on : Nat} {xs : List Rat} (hx : xs.length = (Zi on l.length).length) : Vx n l (stkL on xs l.length) = true ↔ ∀ w, w < n → 0 < Wh l.length (gnQ l) (spr on fun c => xs.getD c 0) w := by
  rw [beatsB_iff]
  have h0 : (0 : Rat) < ((Vw xs xs.length : Nat) : Rat) := by exact_mod_cast byTo_pos _ _
  have key : ∀ w, ((gnTo l (stkL on xs l.length) w l.length : Int) : Rat) = ((Vw xs xs.length : Nat) : Rat) * Wh l.length (gnQ l) (spr on fun c => xs.getD c 0) w := fun w => by
    rw [gnTo_rat, Wh, Wh, ← Ys]
    refine Zj fun i hi => ?_
    rw [stkL_get hi, stk_rat hx hi]; grind
  constructor
  · intro h w hw
    have h1 : (0 : Rat) < ((gnTo l (stkL on xs l.length) w l.length : Int) : Rat) := by exact_mod_cast h w hw
    rw [key] at h1
    rw [← Rat.not_le]
    intro hc
    have := Rat.mul_nonneg (Rat.le_of_lt h0) (show 0 ≤ -Wh l.length (gnQ l) (spr on fun c => xs.getD c 0) w by grind)
    grind
  · intro h w hw
    have h1 := Rat.mul_pos h0 (h w hw)
    rw [← key] at h1
    exact_mod_cast h1

theorem beat_ex {n : Nat} {l : List (Int × Int)} (hn : 0 < n) (he : Evs n l) (h : Xt n l = []) : ∃ on set xs, 1 ≤ on ∧ on < 2 ^ l.length ∧ 1 ≤ set ∧ set < 2 ^ n ∧ (Zi set n).length = (Zi on l.length).length ∧
    Wc (Zi set n).length (Zi on l.length).length (sysG l (Zi set n) (Zi on l.length)) = some xs ∧ Vx n l (stkL on xs l.length) = true := by
  have hg : ∃ s, ∀ w, w < n → 1 ≤ Wh l.length (gnQ l) s w := by
    rcases gordan l.length n (gnQ l) with ⟨s, hs⟩ | ⟨p, hp0, hp1, hpG⟩
    · obtain ⟨w, hw, _, hmin⟩ := least_of (fun _ => True) (Wh l.length (gnQ l) s) n ⟨0, hn, trivial⟩
      obtain ⟨μ, hμ⟩ : ∃ μ, Wh l.length (gnQ l) s w = μ := ⟨_, rfl⟩
      have hμp := hs w hw
      rw [hμ] at hμp hmin
      have hi : μ⁻¹ * μ = 1 := Rat.inv_mul_cancel _ (by grind)
      have hip : 0 < μ⁻¹ := Rat.inv_pos.2 hμp
      refine ⟨fun i => μ⁻¹ * s i, fun v hv => ?_⟩
      have h1 : Wh l.length (gnQ l) (fun i => μ⁻¹ * s i) v = μ⁻¹ * Wh l.length (gnQ l) s v := by
        rw [Wh, Wh, ← Ys]; exact Zj fun i _ => by grind
      rw [h1, ← hi]
      exact Rat.mul_le_mul_of_nonneg_left (hmin v hv trivial) (Rat.le_of_lt hip)
    · exfalso
      refine (sound_iff (n := n) (l := l)).2 ⟨p, hp0, hp1, fun i hi => ?_⟩ h
      have := hpG i hi
      rw [gain_mean (he i hi), hp1, Rat.mul_one] at this
      exact cents_eq.2 this
  obtain ⟨s0, hs0⟩ := hg
  obtain ⟨s, hs, hst⟩ := stuck_ex _ s0 (Nat.le_refl _) hs0
  obtain ⟨set, hsn, hset, hlen, hinj⟩ := rows_ex hst
  obtain ⟨on, hon⟩ : ∃ x, msk s l.length = x := ⟨_, rfl⟩
  have hbi : ∀ i, on.testBit i = true ↔ i < l.length ∧ s i ≠ 0 := fun i => by rw [← hon]; exact msk_bit s i l.length
  rw [hon] at hlen
  have hK : 0 < (Zi on l.length).length := by
    rcases Nat.eq_zero_or_pos (Zi on l.length).length with hz | hp
    · exfalso
      have h0 : ∀ i, i < l.length → s i = 0 := fun i hi => Classical.byContradiction fun hne => by
        have := Yw hi ((hbi i).2 ⟨hi, hne⟩)
        omega
      have h1 := hs 0 hn
      rw [Wh, Xp fun i hi => by rw [h0 i hi, Rat.mul_zero]] at h1
      exact absurd h1 (by decide +kernel)
    · exact hp
  have nz : ∀ {a k : Nat}, 0 < (Zi a k).length → 1 ≤ a := fun {a k} hk => by
    rcases Nat.eq_zero_or_pos a with rfl | h
    · obtain ⟨_, _, h3⟩ := Xe hk
      rw [Nat.zero_testBit] at h3; cases h3
    · exact h
  -- rows of the system
  have hrow : ∀ (δ : Nat → Rat) r, Zo (fun c => sysG l (Zi set n) (Zi on l.length) r c * δ c) (Zi on l.length).length = Wh l.length (gnQ l) (spr on δ) ((Zi set n).getD r 0) := fun δ r => by
    rw [dot_spr]
    refine Zj fun c hc => ?_
    rw [sysG, if_pos hc]
  have hright : ∀ r, sysG l (Zi set n) (Zi on l.length) r (Zi on l.length).length = 1 := fun r => by
    rw [sysG, if_neg (by omega)]
  have hspr : ∀ w, Wh l.length (gnQ l) (spr on fun c => s ((Zi on l.length).getD c 0)) w = Wh l.length (gnQ l) s w := fun w => by
    refine Zj fun i hi => ?_
    rw [spr]
    split
    · rename_i hb
      rw [Wi hi hb]
    · rename_i hb
      have : s i = 0 := Classical.byContradiction fun hne => hb ((hbi i).2 ⟨hi, hne⟩)
      rw [this]
  have hsol : Sol (Zi set n).length (Zi on l.length).length (sysG l (Zi set n) (Zi on l.length)) fun c => s ((Zi on l.length).getD c 0) := fun r hr => by
    rw [hrow, hspr, hright]
    exact (hset _ (Xe hr).2.2).2
  cases hx : Wc (Zi set n).length (Zi on l.length).length (sysG l (Zi set n) (Zi on l.length)) with
  | none =>
    exfalso
    rcases solve_none hx with h1 | ⟨δ, hδ, c, hc, hne⟩
    · exact h1 _ hsol
    · have hz := hinj (spr on δ) (fun i hi hd => by
        rw [spr] at hd
        split at hd
        · exact ((hbi i).1 (by assumption)).2
        · exact absurd rfl hd) fun w hw => by
          have hw1 := (hset w hw).1
          have hr := Yw hw1 hw
          have := hδ _ hr
          rw [hrow, Wi hw1 hw] at this
          exact this
      have := hz _ (Xe hc).2.1
      rw [spr_get δ hc] at this
      exact hne this
  | some xs =>
    obtain ⟨hxl, hxy⟩ := solve_some hx
    have heq := (hxy _).1 hsol
    refine ⟨on, set, xs, nz hK, by rw [← hon]; exact msk_lt s _, nz (a := set) (k := n) (by omega), hsn, hlen, hx, (stk_gain hxl).2 fun w hw => ?_⟩
    have : Wh l.length (gnQ l) (spr on fun c => xs.getD c 0) w = Wh l.length (gnQ l) s w := by
      rw [← hspr]
      refine Zj fun i hi => ?_
      rw [spr, spr]
      split
      · rename_i hb
        rw [heq _ (Yw hi hb)]
      · rfl
    rw [this]
    have := hs w hw
    have e1 : (0 : Rat) < 1 := by decide +kernel
    grind

/-! ### Sizes -/
theorem gnI_le {l : List (Int × Int)} (hl : Cts l) {w i : Nat} (hi : i < l.length) : (gnI l w i).natAbs ≤ 12 := by
  have := hl i hi
  rw [gnI]
  split <;> omega
theorem fac12 : ∀ n, n ≤ 5 → facB 12 n * 1 ≤ 179159040 ∧ (n + 1) * (1 * facB 12 n) ≤ 179159040 ∧ facB 12 n ≤ 29859840 := by decide
theorem sysG_parts {l : List (Int × Int)} (hl : Cts l) {ws is : List Nat} (his : is.length ≤ 5) (hin : ∀ c, c < is.length → is.getD c 0 < l.length) {j : Nat} {S : Xx} (hj : j ≤ is.length) (hr : Xd ws.length (sysG l ws is) j = some S) :
    ∃ D, 0 < D ∧ D ≤ 29859840 ∧ ∀ i c, i < ws.length → c ≤ is.length → ∃ x : Int, Rp D x (S i c) ∧ x.natAbs ≤ 179159040 := by
  obtain ⟨π, g⟩ := elim_gi hr
  obtain ⟨D, h1, h2, h3⟩ := g.parts (P := Zq 12) (F := facB 12) (fun n M h => det_fac n h) (k := is.length) (N := 1) (B := 1) (X := 179159040) hj (by decide)
    (fun i c hi hc => by rw [sysG, if_pos hc]; exact ⟨_, rfl, gnI_le hl (hin c hc)⟩) (fun i hi => by rw [sysG, if_neg (by omega)]; exact ⟨1, by decide +kernel, by decide⟩)
    (fun n hn => (fac12 n (by omega)).1) (fun n hn => (fac12 n (by omega)).2.1)
  refine ⟨D, h1, ?_, h3⟩
  have := (fac12 j (by omega)).2.2
  omega
theorem sysG_tame {l : List (Int × Int)} (hl : Cts l) {ws is : List Nat} (his : is.length ≤ 5) (hin : ∀ c, c < is.length → is.getD c 0 < l.length) {j : Nat} {S : Xx} (hj : j ≤ is.length) (hr : Xd ws.length (sysG l ws is) j = some S) : Tame ws.length is.length S := by
  obtain ⟨D, h1, h2, h3⟩ := sysG_parts hl his hin hj hr
  refine ⟨D, h1, by omega, fun i c hi hc => ?_⟩
  obtain ⟨x, h4, h5⟩ := h3 i c hi hc
  exact ⟨x, h4, by omega⟩
theorem sol_small {l : List (Int × Int)} (hl : Cts l) {ws is : List Nat} (his : is.length ≤ 5) (hin : ∀ c, c < is.length → is.getD c 0 < l.length) (hle : is.length ≤ ws.length) {xs : List Rat} (h : Wc ws.length is.length (sysG l ws is) = some xs) :
    xs.length = is.length ∧ (∀ k, k ≤ is.length → Vw xs k ≤ 29859840) ∧ ∀ i, i < is.length → ((xs.getD i 0).num * ((Vw xs xs.length / (xs.getD i 0).den : Nat) : Int)).natAbs ≤ 179159040 := by
  have hxl := (solve_some h).1
  rw [Wc] at h
  cases hr : Xd ws.length (sysG l ws is) is.length with
  | none => rw [hr] at h; cases h
  | some S =>
    rw [hr] at h
    simp only [Option.bind_some] at h
    split at h
    · cases h
    · cases h
      obtain ⟨D, h1, h2, h3⟩ := sysG_parts hl his hin (Nat.le_refl _) hr
      have hget : ∀ i, i < is.length → ((List.range is.length).map fun i => S i is.length).getD i 0 = S i is.length := fun i hi => by
        rw [List.getD, List.getElem?_map, List.getElem?_eq_getElem (by simpa using hi)]; simp
      have hd : ∀ k, k ≤ is.length → ∀ i, i < k → (((List.range is.length).map fun i => S i is.length).getD i 0).den ∣ D := fun k hk i hi => by
        rw [hget i (by omega)]
        obtain ⟨x, h4, _⟩ := h3 i is.length (by omega) (Nat.le_refl _)
        exact h4.dvd
      refine ⟨hxl, fun k hk => Nat.le_trans (Nat.le_of_dvd h1 (byTo_le _ k (hd k hk))) h2, fun i hi => ?_⟩
      rw [hxl]
      obtain ⟨x, h4, h5⟩ := h3 i is.length (by omega) (Nat.le_refl _)
      have hby := byTo_dvd ((List.range is.length).map fun i => S i is.length) hi
      obtain ⟨t, ht⟩ := byTo_le _ is.length (hd _ (Nat.le_refl _))
      obtain ⟨Y, hY⟩ : ∃ Y, Vw ((List.range is.length).map fun i => S i is.length) is.length = Y := ⟨_, rfl⟩
      have hYp := byTo_pos ((List.range is.length).map fun i => S i is.length) is.length
      rw [hget i hi] at hby ⊢
      rw [hY] at hby ht hYp ⊢
      have htp : 0 < t := Nat.pos_of_mul_pos_left (ht ▸ h1)
      have r := ((Rp.own (S i is.length)).up' hby hYp).up t htp
      rw [← ht] at r
      have e := Rat.intCast_inj.1 (r.2.symm.trans h4.2)
      have h6 : ((S i is.length).num * ((Y / (S i is.length).den : Nat) : Int)).natAbs * t = x.natAbs := by
        have h7 := Int.natAbs_mul ((S i is.length).num * ((Y / (S i is.length).den : Nat) : Int)) ((t : Nat) : Int)
        rw [Int.natAbs_natCast] at h7
        rw [← e]; exact h7.symm
      have := Nat.le_mul_of_pos_right ((S i is.length).num * ((Y / (S i is.length).den : Nat) : Int)).natAbs htp
      omega

/-! ### The stakes as they are written -/
def stkP (on : Nat) (xs : List Rat) (m k : Nat) : List Int := (List.range m).map fun i => if (Zi on i).length < k then stkI on xs i else 0
theorem stkP_len (on : Nat) (xs : List Rat) (m k : Nat) : (stkP on xs m k).length = m := by simp [stkP]
theorem stkP_zero (on : Nat) (xs : List Rat) (m : Nat) : stkP on xs m 0 = List.replicate m 0 := by
  refine List.ext_getElem (by simp [stkP]) fun i h1 h2 => ?_
  simp [stkP]
theorem stkP_full (on : Nat) (xs : List Rat) (m : Nat) : stkP on xs m (Zi on m).length = stkL on xs m := by
  refine List.map_congr_left fun i hi => ?_
  by_cases hb : on.testBit i = true
  · rw [if_pos (Yw (List.mem_range.1 hi) hb)]
  · rw [stkI, if_neg hb]; simp
theorem stkP_step {on m : Nat} (xs : List Rat) {k : Nat} (hk : k < (Zi on m).length) : (stkP on xs m k).set ((Zi on m).getD k 0) (stkI on xs ((Zi on m).getD k 0)) = stkP on xs m (k + 1) := by
  obtain ⟨g1, g2, g3⟩ := Xe hk
  refine List.ext_getElem (by simp [stkP]) fun j h1 h2 => ?_
  rw [List.getElem_set]
  by_cases hj : (Zi on m).getD k 0 = j
  · rw [if_pos hj]
    subst hj
    simp only [stkP, List.getElem_map, List.getElem_range]
    rw [if_pos (by omega)]
  · rw [if_neg hj]
    simp only [stkP, List.getElem_map, List.getElem_range]
    have hjm : j < m := by simpa [stkP] using h2
    by_cases hlt : (Zi on j).length < k
    · rw [if_pos hlt, if_pos (by omega)]
    · rw [if_neg hlt]
      by_cases hlt2 : (Zi on j).length < k + 1
      · rw [if_pos hlt2]
        have hjk : (Zi on j).length = k := by omega
        by_cases hb : on.testBit j = true
        · have := Wi hjm hb
          rw [hjk] at this
          exact absurd this hj
        · rw [stkI, if_neg hb]
      · rw [if_neg hlt2]
theorem stkI_at {on m : Nat} (xs : List Rat) {k : Nat} (hk : k < (Zi on m).length) : stkI on xs ((Zi on m).getD k 0) = (xs.getD k 0).num * ((Vw xs xs.length / (xs.getD k 0).den : Nat) : Int) := by
  obtain ⟨g1, g2, g3⟩ := Xe hk
  rw [stkI, if_pos g3, g1]
end Bq

namespace Go.Proofs.Try.Am
open Go.Am
set_option maxRecDepth 100000
end Go.Proofs.Try.Am

namespace Go.Proofs.Try.Am
open Go.Am
set_option maxRecDepth 100000
set_option maxHeartbeats 4000000

def pSum (xs : List Int) : Nat → Int
  | 0 => 0
  | k + 1 => pSum xs k + xs.getD k 0
structure RaceP (xs ys : List Int) : Prop where
  len : 2 ≤ xs.length ∧ xs.length ≤ 5
  eq : ys.length = xs.length
  a : ∀ i, i < xs.length → 0 ≤ xs.getD i 0 ∧ xs.getD i 0 ≤ 12
  b : ∀ i, i < ys.length → 1 ≤ ys.getD i 0 ∧ ys.getD i 0 ≤ 12
  sum : pSum xs xs.length = 12
end Go.Proofs.Try.Am

namespace Go.Proofs.Try.Am
open Go.Am
set_option maxRecDepth 100000
set_option maxHeartbeats 4000000

def minTo (xs : List Int) : Nat → Int
  | 0 => xs.getD 0 0
  | k + 1 => if xs.getD (k + 1) 0 < minTo xs k then xs.getD (k + 1) 0 else minTo xs k
theorem minTo_spec (xs : List Int) : ∀ k, (∀ i, i ≤ k → minTo xs k ≤ xs.getD i 0) ∧ ∃ i, i ≤ k ∧ minTo xs k = xs.getD i 0
  | 0 => ⟨fun i hi => by obtain rfl : i = 0 := by omega
                         rw [minTo]; exact Int.le_refl _, 0, Nat.le_refl _, rfl⟩
  | k + 1 => by
    obtain ⟨h1, j, hj, h2⟩ := minTo_spec xs k
    rw [minTo]
    by_cases h : xs.getD (k + 1) 0 < minTo xs k
    · rw [if_pos h]
      refine ⟨fun i hi => ?_, k + 1, Nat.le_refl _, rfl⟩
      by_cases hik : i = k + 1
      · subst hik; exact Int.le_refl _
      · have := h1 i (by omega); omega
    · rw [if_neg h]
      refine ⟨fun i hi => ?_, j, by omega, h2⟩
      by_cases hik : i = k + 1
      · subst hik; omega
      · exact h1 i (by omega)
theorem s90_callW [Tabs Try.prog] {args : List Value} {h : Zh} {Q : Value → Zh → Prop} (hsz : args.length ≤ 25) (hk : AWS Try.prog 25 s90 (Zv Try.prog [.tmp 2] Q) (Zt 0 args) h) : ACall Try.prog 90 args h Q :=
  Yn Try.func90 rfl (enters_of Try.func90 (by kernel_rfl) rfl) rfl rfl (by decide) s90_strip s90_ok hsz hk
theorem min_call [Tabs prog] {h : Zh} {u : Value} {xs : List Int} (hu : IntSl h u xs) (h0 : 0 < xs.length) (hl : xs.length < 9223372036854775808) : Xi prog 90 [u] h (Zd (minTo xs (xs.length - 1))) := by
  refine s90_callW (by simp) ?_
  simp only [s90]
  refine Ze fun N1 hN1 => ?_
  simp (maxSteps := 2000000) only [↓Za, ↓Zb, ↓Zc, vup, cond_false, aop, Zg, Zt, ev, sput, Zf, Nat.reduceBEq]
  refine hN1 [(0, u), (2, .int .i64 0)] _ _ ?_ (by simp (maxSteps := 2000000) only [vup, cond_true, cond_false, Nat.reduceBEq])
  clear hN1
  try clear N1
  have h1 : ¬ (xs.length : Int) < 1 := by omega
  refine Zm fun M hM => ?_
  refine Ze fun N2 hN2 => ?_
  simp (maxSteps := 2000000) only [↓Za, ↓Zb, ↓Zc, vup, List.map_cons, List.map_nil, cond_true, cond_false, aop, Zg, ev, sput, Zf, Yg, Yl, Zl, Nat.reduceBEq, tyf, hu.len, h1]
  refine hN2 [(0, u), (2, .int .i64 0), (7, .bool false)] _ _ ?_ (by simp (maxSteps := 2000000) only [vup, cond_true, cond_false, Nat.reduceBEq])
  clear hN2
  try clear N2
  refine Xb rfl ?_
  refine Zk ?_
  simp (maxSteps := 2000000) only [↓Zu, Zg]
  refine hM [(0, u), (2, .int .i64 0)] _ _ ?_ (by simp (maxSteps := 2000000) only [vup, cond_true, cond_false, Nat.reduceBEq])
  clear hM
  try clear M
  have hi0 := fun K => hu.idx el_38 esz_3 (k := .i64) h0 K
  rw [Int.natCast_zero] at hi0
  refine Ze fun N3 hN3 => ?_
  simp (maxSteps := 2000000) only [↓Za, ↓Zb, ↓Zc, vup, cond_true, cond_false, aop, Zg, ev, sput, Zf, Nat.reduceBEq, hi0, hu.load Wy h0]
  refine hN3 [(0, u), (2, .int .i64 0), (3, Zd (xs.getD 0 0))] _ _ ?_ (by simp (maxSteps := 2000000) only [vup, cond_true, cond_false, Nat.reduceBEq])
  clear hN3
  try clear N3
  refine Zm fun Z hZ => ?_
  refine Ze fun N4 hN4 => ?_
  simp (maxSteps := 2000000) only [↓Za, ↓Zb, ↓Zc, vup, cond_false, aop, Zg, ev, sput, Zf, Nat.reduceBEq]
  refine hN4 [(0, u), (2, .int .i64 0), (3, Zd (xs.getD 0 0)), (4, .int .i64 1)] _ _ ?_ (by simp (maxSteps := 2000000) only [vup, cond_true, cond_false, Nat.reduceBEq])
  clear hN4
  try clear N4
  refine Zn ?_
  refine Zs fun Q hQ => ?_
  refine Yu (γ := Nat) (fun k => k < xs.length)
    (fun k => ([(0, u), (2, .int .i64 0), (3, Zd (minTo xs k)), (4, Zd ((k + 1 : Nat) : Int))], h)) (fun k => xs.length - k) 0 h0 (by simp (maxSteps := 2000000) only [vup, cond_true, cond_false, Nat.reduceBEq, minTo, Nat.zero_add, Int.natCast_one]) rfl ?_
  rintro k hk
  refine Zs fun Q2 hQ2 => ?_
  simp only [l90_0]
  obtain ⟨j, hj⟩ : ∃ j, k + 1 = j := ⟨_, rfl⟩
  rw [hj]
  by_cases hin : (j : Int) < xs.length
  · have hk' : j < xs.length := by omega
    refine Zm fun C hC => ?_
    refine Ze fun N5 hN5 => ?_
    simp (maxSteps := 2000000) only [↓Za, ↓Zb, ↓Zc, vup, List.map_cons, List.map_nil, cond_true, cond_false, aop, Zg, ev, sput, Zf, Yg, Yl, Zl, Nat.reduceBEq, tyf, hu.len, hin]
    refine hN5 [(0, u), (2, .int .i64 0), (3, Zd (minTo xs k)), (4, Zd (j : Nat)), (15, .bool true)] _ _ ?_ (by simp (maxSteps := 2000000) only [vup, cond_true, cond_false, Nat.reduceBEq])
    clear hN5
    try clear N5
    refine Zk ?_
    simp (maxSteps := 2000000) only [↓Zu, ↓vdn, vup, cond_true, cond_false, Zg, ev, Nat.reduceBEq]
    refine hC [(0, u), (2, .int .i64 0), (3, Zd (minTo xs k)), (4, Zd (j : Nat))] _ _ ?_ (by simp (maxSteps := 2000000) only [vup, cond_true, cond_false, Nat.reduceBEq])
    clear hC
    try clear C
    refine Zm fun B hB => ?_
    refine Zn ?_
    refine Zk ?_
    have hm : (if xs.getD j 0 < minTo xs k then xs.getD j 0 else minTo xs k) = minTo xs j := by
      rw [← hj, minTo]
    simp (maxSteps := 2000000) only [↓Za, ↓Zb, ↓Zc, vup, List.map_cons, List.map_nil, cond_true, cond_false, aop, Zg, Zr, ev, sput, Zf, Zl, Nat.reduceBEq, hu.idx el_38 esz_3 hk', hu.load Wy hk', mmK, Bool.false_eq_true, if_false, gt_iff_lt, hm]
    refine hB [(0, u), (2, .int .i64 0), (3, Zd (minTo xs j)), (4, Zd (j : Nat))] _ _ ?_ (by simp (maxSteps := 2000000) only [vup, cond_true, cond_false, Nat.reduceBEq])
    clear hB
    try clear B
    refine Zk ?_
    simp (maxSteps := 2000000) only [↓Za, ↓Zb, ↓Zc, vup, cond_true, cond_false, aop, ev, sput, Zf, Yg, Yl, Nat.reduceBEq, add1 (show j < 9223372036854775807 by omega)]
    exact hQ2 _ _ _ ⟨j, hk', by omega, by simp (maxSteps := 2000000) only [vup, cond_true, cond_false, Nat.reduceBEq], rfl⟩
  · refine Ze fun N6 hN6 => ?_
    simp (maxSteps := 2000000) only [↓Za, ↓Zw, ↓Xa, ↓Zb, ↓Zc, ↓vdn, vup, List.map_cons, List.map_nil, cond_true, cond_false, aop, Zg, ev, sput, Zf, Yg, Yl, Zl, Nat.reduceBEq, tyf, hu.len, hin]
    refine hQ2 _ _ _ (hQ _ _ _ ?_)
    simp (maxSteps := 2000000) only [Zg, Zr, Zv, if_true]
    refine hZ [(0, u), (2, .int .i64 0), (3, Zd (minTo xs k))] _ _ ?_ (by simp (maxSteps := 2000000) only [vup, cond_true, cond_false, Nat.reduceBEq])
    clear hZ
    try clear Z
    have hn : xs.length - 1 = k := by omega
    rw [hn]
    refine Zk ?_
    simp (maxSteps := 2000000) only [↓Za, ↓Zw, ↓Zz, ↓Zb, ↓Zc, vup, cond_true, cond_false, aop, Zg, ev, sput, Zf, Nat.reduceBEq, Zv, Xw, tup]

def maxTo (xs : List Int) : Nat → Int
  | 0 => xs.getD 0 0
  | k + 1 => if xs.getD (k + 1) 0 > maxTo xs k then xs.getD (k + 1) 0 else maxTo xs k
theorem maxTo_spec (xs : List Int) : ∀ k, (∀ i, i ≤ k → xs.getD i 0 ≤ maxTo xs k) ∧ ∃ i, i ≤ k ∧ maxTo xs k = xs.getD i 0
  | 0 => ⟨fun i hi => by obtain rfl : i = 0 := by omega
                         rw [maxTo]; exact Int.le_refl _, 0, Nat.le_refl _, rfl⟩
  | k + 1 => by
    obtain ⟨h1, j, hj, h2⟩ := maxTo_spec xs k
    rw [maxTo]
    by_cases h : xs.getD (k + 1) 0 > maxTo xs k
    · rw [if_pos h]
      refine ⟨fun i hi => ?_, k + 1, Nat.le_refl _, rfl⟩
      by_cases hik : i = k + 1
      · subst hik; exact Int.le_refl _
      · have := h1 i (by omega); omega
    · rw [if_neg h]
      refine ⟨fun i hi => ?_, j, by omega, h2⟩
      by_cases hik : i = k + 1
      · subst hik; omega
      · exact h1 i (by omega)
theorem s91_callW [Tabs Try.prog] {args : List Value} {h : Zh} {Q : Value → Zh → Prop} (hsz : args.length ≤ 25) (hk : AWS Try.prog 25 s91 (Zv Try.prog [.tmp 2] Q) (Zt 0 args) h) : ACall Try.prog 91 args h Q :=
  Yn Try.func91 rfl (enters_of Try.func91 (by kernel_rfl) rfl) rfl rfl (by decide) s91_strip s91_ok hsz hk
theorem max_call [Tabs prog] {h : Zh} {u : Value} {xs : List Int} (hu : IntSl h u xs) (h0 : 0 < xs.length) (hl : xs.length < 9223372036854775808) : Xi prog 91 [u] h (Zd (maxTo xs (xs.length - 1))) := by
  refine s91_callW (by simp) ?_
  simp only [s91]
  refine Ze fun N7 hN7 => ?_
  simp (maxSteps := 2000000) only [↓Za, ↓Zb, ↓Zc, vup, cond_false, aop, Zg, Zt, ev, sput, Zf, Nat.reduceBEq]
  refine hN7 [(0, u), (2, .int .i64 0)] _ _ ?_ (by simp (maxSteps := 2000000) only [vup, cond_true, cond_false, Nat.reduceBEq])
  clear hN7
  try clear N7
  have h1 : ¬ (xs.length : Int) < 1 := by omega
  refine Zm fun M hM => ?_
  refine Ze fun N8 hN8 => ?_
  simp (maxSteps := 2000000) only [↓Za, ↓Zb, ↓Zc, vup, List.map_cons, List.map_nil, cond_true, cond_false, aop, Zg, ev, sput, Zf, Yg, Yl, Zl, Nat.reduceBEq, tyf, hu.len, h1]
  refine hN8 [(0, u), (2, .int .i64 0), (7, .bool false)] _ _ ?_ (by simp (maxSteps := 2000000) only [vup, cond_true, cond_false, Nat.reduceBEq])
  clear hN8
  try clear N8
  refine Xb rfl ?_
  refine Zk ?_
  simp (maxSteps := 2000000) only [↓Zu, Zg]
  refine hM [(0, u), (2, .int .i64 0)] _ _ ?_ (by simp (maxSteps := 2000000) only [vup, cond_true, cond_false, Nat.reduceBEq])
  clear hM
  try clear M
  have hi0 := fun K => hu.idx el_38 esz_3 (k := .i64) h0 K
  rw [Int.natCast_zero] at hi0
  refine Ze fun N9 hN9 => ?_
  simp (maxSteps := 2000000) only [↓Za, ↓Zb, ↓Zc, vup, cond_true, cond_false, aop, Zg, ev, sput, Zf, Nat.reduceBEq, hi0, hu.load Wy h0]
  refine hN9 [(0, u), (2, .int .i64 0), (3, Zd (xs.getD 0 0))] _ _ ?_ (by simp (maxSteps := 2000000) only [vup, cond_true, cond_false, Nat.reduceBEq])
  clear hN9
  try clear N9
  refine Zm fun Z hZ => ?_
  refine Ze fun N10 hN10 => ?_
  simp (maxSteps := 2000000) only [↓Za, ↓Zb, ↓Zc, vup, cond_false, aop, Zg, ev, sput, Zf, Nat.reduceBEq]
  refine hN10 [(0, u), (2, .int .i64 0), (3, Zd (xs.getD 0 0)), (4, .int .i64 1)] _ _ ?_ (by simp (maxSteps := 2000000) only [vup, cond_true, cond_false, Nat.reduceBEq])
  clear hN10
  try clear N10
  refine Zn ?_
  refine Zs fun Q hQ => ?_
  refine Yu (γ := Nat) (fun k => k < xs.length)
    (fun k => ([(0, u), (2, .int .i64 0), (3, Zd (maxTo xs k)), (4, Zd ((k + 1 : Nat) : Int))], h)) (fun k => xs.length - k) 0 h0 (by simp (maxSteps := 2000000) only [vup, cond_true, cond_false, Nat.reduceBEq, maxTo, Nat.zero_add, Int.natCast_one]) rfl ?_
  rintro k hk
  refine Zs fun Q2 hQ2 => ?_
  simp only [l91_0]
  obtain ⟨j, hj⟩ : ∃ j, k + 1 = j := ⟨_, rfl⟩
  rw [hj]
  by_cases hin : (j : Int) < xs.length
  · have hk' : j < xs.length := by omega
    refine Zm fun C hC => ?_
    refine Ze fun N11 hN11 => ?_
    simp (maxSteps := 2000000) only [↓Za, ↓Zb, ↓Zc, vup, List.map_cons, List.map_nil, cond_true, cond_false, aop, Zg, ev, sput, Zf, Yg, Yl, Zl, Nat.reduceBEq, tyf, hu.len, hin]
    refine hN11 [(0, u), (2, .int .i64 0), (3, Zd (maxTo xs k)), (4, Zd (j : Nat)), (15, .bool true)] _ _ ?_ (by simp (maxSteps := 2000000) only [vup, cond_true, cond_false, Nat.reduceBEq])
    clear hN11
    try clear N11
    refine Zk ?_
    simp (maxSteps := 2000000) only [↓Zu, ↓vdn, vup, cond_true, cond_false, Zg, ev, Nat.reduceBEq]
    refine hC [(0, u), (2, .int .i64 0), (3, Zd (maxTo xs k)), (4, Zd (j : Nat))] _ _ ?_ (by simp (maxSteps := 2000000) only [vup, cond_true, cond_false, Nat.reduceBEq])
    clear hC
    try clear C
    refine Zm fun B hB => ?_
    refine Zn ?_
    refine Zk ?_
    have hm : (if xs.getD j 0 > maxTo xs k then xs.getD j 0 else maxTo xs k) = maxTo xs j := by
      rw [← hj, maxTo]
    simp (maxSteps := 2000000) only [↓Za, ↓Zb, ↓Zc, vup, List.map_cons, List.map_nil, cond_true, cond_false, aop, Zg, Zr, ev, sput, Zf, Zl, Nat.reduceBEq, hu.idx el_38 esz_3 hk', hu.load Wy hk', mmK, if_true, gt_iff_lt, hm]
    refine hB [(0, u), (2, .int .i64 0), (3, Zd (maxTo xs j)), (4, Zd (j : Nat))] _ _ ?_ (by simp (maxSteps := 2000000) only [vup, cond_true, cond_false, Nat.reduceBEq])
    clear hB
    try clear B
    refine Zk ?_
    simp (maxSteps := 2000000) only [↓Za, ↓Zb, ↓Zc, vup, cond_true, cond_false, aop, ev, sput, Zf, Yg, Yl, Nat.reduceBEq, add1 (show j < 9223372036854775807 by omega)]
    exact hQ2 _ _ _ ⟨j, hk', by omega, by simp (maxSteps := 2000000) only [vup, cond_true, cond_false, Nat.reduceBEq], rfl⟩
  · refine Ze fun N12 hN12 => ?_
    simp (maxSteps := 2000000) only [↓Za, ↓Zw, ↓Xa, ↓Zb, ↓Zc, ↓vdn, vup, List.map_cons, List.map_nil, cond_true, cond_false, aop, Zg, ev, sput, Zf, Yg, Yl, Zl, Nat.reduceBEq, tyf, hu.len, hin]
    refine hQ2 _ _ _ (hQ _ _ _ ?_)
    simp (maxSteps := 2000000) only [Zg, Zr, Zv, if_true]
    refine hZ [(0, u), (2, .int .i64 0), (3, Zd (maxTo xs k))] _ _ ?_ (by simp (maxSteps := 2000000) only [vup, cond_true, cond_false, Nat.reduceBEq])
    clear hZ
    try clear Z
    have hn : xs.length - 1 = k := by omega
    rw [hn]
    refine Zk ?_
    simp (maxSteps := 2000000) only [↓Za, ↓Zw, ↓Zz, ↓Zb, ↓Zc, vup, cond_true, cond_false, aop, Zg, ev, sput, Zf, Nat.reduceBEq, Zv, Xw, tup]

end Go.Proofs.Try.Am

namespace Go.Proofs.Try.Am
open Go.Am Bq
set_option maxRecDepth 100000
set_option maxHeartbeats 4000000

theorem s86_callW [Tabs Try.prog] {args : List Value} {h : Zh} {Q : Value → Zh → Prop} (hsz : args.length ≤ 14) (hk : AWS Try.prog 14 s86 (Zv Try.prog [.tmp 4] Q) (Zt 0 args) h) : ACall Try.prog 86 args h Q :=
  Yn Try.func86 rfl (enters_of Try.func86 (by kernel_rfl) rfl) rfl rfl (by decide) s86_strip s86_ok hsz hk
theorem gain_call [Tabs prog] {h : Zh} {x w : Nat} {y : Int} (hx : x < 4294967296) (hy : 0 ≤ y ∧ y ≤ 12) : Xi prog 86 [.agg #[Zd (x : Nat), Zd y], Zd (w : Nat)] h (Zd ((if x.testBit w then 12 else 0) - y)) := by
  refine ACall.forget (Low.int _ _) ?_
  obtain ⟨H, hH⟩ : ∃ H, H = h ++ [bB (x : Nat) y] := ⟨_, rfl⟩
  have hE : Ext (fun _ => False) h H := by rw [hH]; exact Ext.app _ _ _
  have b2 : H[h.length]? = some (bB (x : Nat) y) := by rw [hH]; exact Zy _ _
  have hbx : ∀ {K : Value → Zh → Prop}, boxK prog h 92 (.agg #[Zd (x : Nat), Zd y]) K = K (Yi h) H := fun {K} => by
    rw [hH]; simp [boxK, esz_92, Yi, cellsOf]
  have l0 : ∀ {K : Value → Prop}, Xn prog H 3 (.pointer (some ⟨h.length, 0, none⟩)) K = K (Zd (x : Nat)) := fun {K} => loadC b2 Wy rfl
  have l1 : ∀ {K : Value → Prop}, Xn prog H 3 (.pointer (some ⟨h.length, 1, none⟩)) K = K (Zd y) := fun {K} => loadC b2 Wy rfl
  have ht := testV (a := x) (y := w) (by omega)
  have m1 : mulV .i64 (if x.testBit w = true then 1 else 0) 12 = if x.testBit w = true then 12 else 0 := by cases x.testBit w <;> rfl
  have m2 : subV .i64 (if x.testBit w = true then 12 else 0) y = (if x.testBit w = true then 12 else 0) - y := by
    rw [subV_id]
    · split <;> omega
    · split <;> omega
  refine s86_callW (by simp) ?_
  simp only [s86]
  refine Ze fun N1 hN1 => ?_
  simp (maxSteps := 2000000) only [↓Za, ↓Zb, ↓Zc, vup, cond_true, cond_false, aop, Zg, Zt, ev, sput, Zf, Nat.reduceBEq, Nat.reduceAdd, hbx, Yi]
  refine hN1 [(0, .agg #[Zd (x : Nat), Zd y]), (1, Zd (w : Nat)), (2, .pointer (some ⟨h.length, 0, none⟩)), (4, .int .i64 0)] _ _ ?_ (by simp (maxSteps := 2000000) only [vup, cond_true, cond_false, Nat.reduceBEq])
  clear hN1
  try clear N1
  refine Ze fun N2 hN2 => ?_
  simp only [q86_1]
  refine Xv [] (by kernel_rfl) (by kernel_rfl) (by kernel_rfl) (by kernel_rfl) ?_
  simp (maxSteps := 2000000) only [↓Yr, ↓vdn, vup, cond_true, cond_false, aop, Zg, ev, sput, Zf, Yg, Yl, Nat.reduceBEq, Nat.reduceAdd, tyf, bA0, bA1, l0, l1, ht, m1, m2]
  refine hN2 [(0, .agg #[Zd (x : Nat), Zd y]), (1, Zd (w : Nat)), (2, .pointer (some ⟨h.length, 0, none⟩)), (4, Zd ((if x.testBit w = true then 12 else 0) - y))] _ _ ?_ (by simp (maxSteps := 2000000) only [vup, cond_true, cond_false, Nat.reduceBEq])
  clear hN2
  try clear N2
  refine Zk ?_
  simp (maxSteps := 2000000) only [↓Zz, vup, cond_true, cond_false, Nat.reduceBEq, Zv, Xw, tup]
  exact hE

def SmS (ss : List Int) : Prop := ∀ i, (ss.getD i 0).natAbs ≤ 1000000000
theorem gnTo_le {l : List (Int × Int)} {ss : List Int} (hl : Cts l) (hs : SmS ss) (w : Nat) : ∀ k, k ≤ l.length → (gnTo l ss w k).natAbs ≤ k * 12000000000 ∧ (∀ i, i < k → (ss.getD i 0 * gnI l w i).natAbs ≤ 12000000000)
  | 0, _ => ⟨by rw [gnTo]; decide, fun i hi => by omega⟩
  | k + 1, hk => by
    obtain ⟨h1, h2⟩ := gnTo_le hl hs w k (by omega)
    have h3 := gnI_le hl (w := w) (show k < l.length by omega)
    have h4 : (ss.getD k 0 * gnI l w k).natAbs ≤ 12000000000 := by
      rw [Int.natAbs_mul]
      exact Nat.le_trans (Nat.mul_le_mul (hs k) h3) (by decide)
    refine ⟨by rw [gnTo]; omega, fun i hi => ?_⟩
    by_cases hik : i = k
    · rw [hik]; exact h4
    · exact h2 i (by omega)
theorem beatsTo_false {n : Nat} {l : List (Int × Int)} {ss : List Int} {w : Nat} (hw : w < n) (h : ¬ 0 < gnTo l ss w l.length) : Vx n l ss = false := by
  rw [← Bool.not_eq_true, beatsB_iff]
  exact fun hc => h (hc w hw)

theorem s89_callW [Tabs Try.prog] {args : List Value} {h : Zh} {Q : Value → Zh → Prop} (hsz : args.length ≤ 36) (hk : AWS Try.prog 36 s89 (Zv Try.prog [.tmp 4] Q) (Zt 0 args) h) : ACall Try.prog 89 args h Q :=
  Yn Try.func89 rfl (enters_of Try.func89 (by kernel_rfl) rfl) rfl rfl (by decide) s89_strip s89_ok hsz hk
theorem beats_call [Tabs prog] {h : Zh} {n : Nat} {v u : Value} {l : List (Int × Int)} {ss : List Int} (hv : PairSl h v l) (hu : IntSl h u ss) (hval : Yz n l = true) (hlen : ss.length = l.length) (hs : SmS ss) :
    Xi prog 89 [.agg #[Zd (n : Nat), v], u] h (.bool (Vx n l ss)) := by
  refine ACall.forget (Low.bool _) ?_
  obtain ⟨hn2, hn5, hl1, hl6, hok⟩ := We hval
  have hct := cts_of hval
  obtain ⟨p, m, c, rfl⟩ := Vu hv
  obtain ⟨H, hH⟩ : ∃ H, H = h ++ [Blk.cells [Zd (n : Nat), .slice p m c] 86 false] := ⟨_, rfl⟩
  have hE : Ext (fun _ => False) h H := by rw [hH]; exact Ext.app _ _ _
  have b2 : H[h.length]? = some (.cells [Zd (n : Nat), .slice p m c] 86 false) := by rw [hH]; exact Zy _ _
  have hvH := hv.ext hE
  refine s89_callW (by simp) ?_
  simp only [s89]
  refine Ze fun N3 hN3 => ?_
  simp (maxSteps := 2000000) only [↓Za, ↓Zb, ↓Zc, vup, cond_true, cond_false, aop, Zg, Zt, ev, sput, Zf, Nat.reduceBEq, Nat.reduceAdd, boxT, Yi]
  rw [← hH]
  refine hN3 [(0, .agg #[Zd (n : Nat), .slice p m c]), (1, u), (2, .pointer (some ⟨h.length, 0, none⟩)), (4, .bool false)] _ _ ?_ (by simp (maxSteps := 2000000) only [vup, cond_true, cond_false, Nat.reduceBEq])
  clear hN3
  try clear N3
  refine Zm fun Z hZ => ?_
  refine Ze fun N4 hN4 => ?_
  simp (maxSteps := 2000000) only [↓Za, ↓Zb, ↓Zc, vup, cond_true, cond_false, aop, Zg, ev, sput, Zf, Nat.reduceBEq, tA0, Vz b2]
  refine hN4 [(0, .agg #[Zd (n : Nat), .slice p m c]), (1, u), (2, .pointer (some ⟨h.length, 0, none⟩)), (4, .bool false), (9, .pointer (some ⟨h.length, 0, none⟩)), (10, Zd (n : Nat)), (11, .int .i64 0)] _ _ ?_ (by simp (maxSteps := 2000000) only [vup, cond_true, cond_false, Nat.reduceBEq])
  clear hN4
  try clear N4
  refine Zn ?_
  refine Zs fun Q hQ => ?_
  refine Yu (γ := Nat × Zh) (fun s => s.1 ≤ n ∧ (∀ w, w < s.1 → 0 < gnTo l ss w l.length) ∧ Ext (fun _ => False) H s.2)
    (fun s => ([(0, .agg #[Zd (n : Nat), .slice p m c]), (1, u), (2, .pointer (some ⟨h.length, 0, none⟩)), (4, .bool false), (9, .pointer (some ⟨h.length, 0, none⟩)), (10, Zd (n : Nat)), (11, Zd (s.1 : Nat))], s.2)) (fun s => n - s.1) (0, H) ⟨Nat.zero_le _, fun w hw => absurd hw (Nat.not_lt_zero w), Ext.refl _ _⟩ (by simp (maxSteps := 2000000) only [vup, cond_true, cond_false, Nat.reduceBEq, Int.natCast_zero]) rfl ?_
  rintro ⟨w, hp⟩ ⟨hk, hall, hEp⟩
  simp only at hk hall hEp
  refine Zs fun Q2 hQ2 => ?_
  simp only [l89_1]
  by_cases hin : (w : Int) < (n : Nat)
  · have hw : w < n := by omega
    have c2 := (hEp.2 _ (Yh b2) id).trans b2
    have hvp := hvH.ext hEp
    refine Ze fun N5 hN5 => ?_
    simp (maxSteps := 2000000) only [↓Za, ↓Zb, ↓Zc, vup, cond_true, cond_false, aop, Zg, ev, sput, Zf, Yg, Yl, Nat.reduceBEq, hin]
    refine hN5 [(0, .agg #[Zd (n : Nat), .slice p m c]), (1, u), (2, .pointer (some ⟨h.length, 0, none⟩)), (4, .bool false), (9, .pointer (some ⟨h.length, 0, none⟩)), (10, Zd (n : Nat)), (11, Zd (w : Nat)), (12, .bool true)] _ _ ?_ (by simp (maxSteps := 2000000) only [vup, cond_true, cond_false, Nat.reduceBEq])
    clear hN5
    try clear N5
    refine Ze fun N6 hN6 => ?_
    simp (maxSteps := 2000000) only [↓Zu, ↓vdn, vup, cond_true, cond_false, Zg, ev, Nat.reduceBEq]
    refine hN6 [(0, .agg #[Zd (n : Nat), .slice p m c]), (1, u), (2, .pointer (some ⟨h.length, 0, none⟩)), (4, .bool false), (9, .pointer (some ⟨h.length, 0, none⟩)), (10, Zd (n : Nat)), (11, Zd (w : Nat))] _ _ ?_ (by simp (maxSteps := 2000000) only [vup, cond_true, cond_false, Nat.reduceBEq])
    clear hN6
    try clear N6
    refine Zm fun B hB => ?_
    refine Zn ?_
    refine Ze fun N7 hN7 => ?_
    simp (maxSteps := 2000000) only [↓Za, ↓Zb, ↓Zc, vup, cond_true, cond_false, aop, Zg, ev, sput, Zf, Nat.reduceBEq]
    refine hN7 [(0, .agg #[Zd (n : Nat), .slice p m c]), (1, u), (2, .pointer (some ⟨h.length, 0, none⟩)), (4, .bool false), (5, Zd (w : Nat)), (9, .pointer (some ⟨h.length, 0, none⟩)), (10, Zd (n : Nat)), (11, Zd (w : Nat))] _ _ ?_ (by simp (maxSteps := 2000000) only [vup, cond_true, cond_false, Nat.reduceBEq])
    clear hN7
    try clear N7
    refine Ze fun N8 hN8 => ?_
    simp (maxSteps := 2000000) only [↓Za, ↓Zb, ↓Zc, vup, cond_false, aop, Zg, ev, sput, Zf, Nat.reduceBEq]
    refine hN8 [(0, .agg #[Zd (n : Nat), .slice p m c]), (1, u), (2, .pointer (some ⟨h.length, 0, none⟩)), (4, .bool false), (5, Zd (w : Nat)), (6, .int .i64 0), (9, .pointer (some ⟨h.length, 0, none⟩)), (10, Zd (n : Nat)), (11, Zd (w : Nat))] _ _ ?_ (by simp (maxSteps := 2000000) only [vup, cond_true, cond_false, Nat.reduceBEq])
    clear hN8
    try clear N8
    refine Zm fun Y hY => ?_
    refine Ze fun N9 hN9 => ?_
    simp (maxSteps := 2000000) only [↓Za, ↓Zb, ↓Zc, vup, List.map_cons, List.map_nil, cond_true, cond_false, aop, Zg, ev, sput, Zf, Zl, Nat.reduceBEq, tyf, tA1, loadT1 c2, hvp.len]
    refine hN9 [(0, .agg #[Zd (n : Nat), .slice p m c]), (1, u), (2, .pointer (some ⟨h.length, 0, none⟩)), (4, .bool false), (5, Zd (w : Nat)), (6, .int .i64 0), (9, .pointer (some ⟨h.length, 0, none⟩)), (10, Zd (n : Nat)), (11, Zd (w : Nat)), (14, .pointer (some ⟨h.length, 1, none⟩)), (15, .slice p m c), (16, Zd l.length), (17, .int .i64 0)] _ _ ?_ (by simp (maxSteps := 2000000) only [vup, cond_true, cond_false, Nat.reduceBEq])
    clear hN9
    try clear N9
    refine Zn ?_
    refine Zs fun Q3 hQ3 => ?_
    refine Yu (γ := Nat × Zh) (fun s => s.1 ≤ l.length ∧ Ext (fun _ => False) H s.2)
      (fun s => ([(0, .agg #[Zd (n : Nat), .slice p m c]), (1, u), (2, .pointer (some ⟨h.length, 0, none⟩)), (4, .bool false), (5, Zd (w : Nat)), (6, Zd (gnTo l ss w s.1)), (9, .pointer (some ⟨h.length, 0, none⟩)), (10, Zd (n : Nat)), (11, Zd (w : Nat)), (14, .pointer (some ⟨h.length, 1, none⟩)), (15, .slice p m c), (16, Zd l.length), (17, Zd (s.1 : Nat))], s.2)) (fun s => l.length - s.1) (0, hp) ⟨Nat.zero_le _, hEp⟩ (by simp (maxSteps := 2000000) only [vup, cond_true, cond_false, Nat.reduceBEq, Int.natCast_zero, gnTo]) rfl ?_
    rintro ⟨i, hq⟩ ⟨hi, hEq⟩
    simp only at hi hEq
    refine Zs fun Q4 hQ4 => ?_
    simp only [l89_0]
    by_cases hin2 : (i : Int) < l.length
    · have hi' : i < l.length := by omega
      have hi2 : i < ss.length := by omega
      have hvq := hvH.ext hEq
      obtain ⟨⟨x, y⟩, hxy⟩ : ∃ p, l.getD i (0, 0) = p := ⟨_, rfl⟩
      have hb := hok i hi'
      rw [hxy] at hb
      simp only [okB, Bool.and_eq_true, decide_eq_true_eq] at hb
      obtain ⟨e, he⟩ : ∃ e : Nat, x = e := ⟨x.toNat, by omega⟩
      subst he
      have hpow : (2 : Int) ^ n ≤ 32 := by
        have h1 : (2 : Nat) ^ n ≤ 2 ^ 5 := Nat.pow_le_pow_right (by decide) hn5
        exact_mod_cast h1
      obtain ⟨G, hG⟩ : ∃ G, G = hq ++ [bB e y] := ⟨_, rfl⟩
      have c8 : G[hq.length]? = some (bB e y) := by rw [hG]; exact Zy _ _
      have hEG : Ext (fun _ => False) H G := by rw [hG]; exact hEq.trans (Ext.app _ _ _)
      have huG : IntSl G u ss := hu.same fun b hb => (hE.trans hEG).2 b (hu.lt hb) id
      refine Ze fun N10 hN10 => ?_
      simp (maxSteps := 2000000) only [↓Za, ↓Zb, ↓Zc, vup, cond_true, cond_false, aop, Zg, ev, sput, Zf, Yg, Yl, Nat.reduceBEq, hin2]
      refine hN10 [(0, .agg #[Zd (n : Nat), .slice p m c]), (1, u), (2, .pointer (some ⟨h.length, 0, none⟩)), (4, .bool false), (5, Zd (w : Nat)), (6, Zd (gnTo l ss w i)), (9, .pointer (some ⟨h.length, 0, none⟩)), (10, Zd (n : Nat)), (11, Zd (w : Nat)), (14, .pointer (some ⟨h.length, 1, none⟩)), (15, .slice p m c), (16, Zd l.length), (17, Zd (i : Nat)), (18, .bool true)] _ _ ?_ (by simp (maxSteps := 2000000) only [vup, cond_true, cond_false, Nat.reduceBEq])
      clear hN10
      try clear N10
      refine Ze fun N11 hN11 => ?_
      simp (maxSteps := 2000000) only [↓Zu, ↓vdn, vup, cond_true, cond_false, Zg, ev, Nat.reduceBEq]
      refine hN11 [(0, .agg #[Zd (n : Nat), .slice p m c]), (1, u), (2, .pointer (some ⟨h.length, 0, none⟩)), (4, .bool false), (5, Zd (w : Nat)), (6, Zd (gnTo l ss w i)), (9, .pointer (some ⟨h.length, 0, none⟩)), (10, Zd (n : Nat)), (11, Zd (w : Nat)), (14, .pointer (some ⟨h.length, 1, none⟩)), (15, .slice p m c), (16, Zd l.length), (17, Zd (i : Nat))] _ _ ?_ (by simp (maxSteps := 2000000) only [vup, cond_true, cond_false, Nat.reduceBEq])
      clear hN11
      try clear N11
      refine Zm fun C hC => ?_
      refine Zn ?_
      refine Ze fun N12 hN12 => ?_
      simp (maxSteps := 2000000) only [↓Za, ↓Zb, ↓Zc, vup, cond_true, cond_false, aop, Zg, ev, sput, Zf, Nat.reduceBEq, tyf, hvq.idx el_30 esz_92 hi', hvq.load shp_92 hi', hxy, Xm, Yi, storeBt (Zy hq zB) rfl, Wf]
      rw [← hG]
      refine hN12 [(0, .agg #[Zd (n : Nat), .slice p m c]), (1, u), (2, .pointer (some ⟨h.length, 0, none⟩)), (4, .bool false), (5, Zd (w : Nat)), (6, Zd (gnTo l ss w i)), (7, Zd (i : Nat)), (8, .pointer (some ⟨hq.length, 0, none⟩)), (9, .pointer (some ⟨h.length, 0, none⟩)), (10, Zd (n : Nat)), (11, Zd (w : Nat)), (14, .pointer (some ⟨h.length, 1, none⟩)), (15, .slice p m c), (16, Zd l.length), (17, Zd (i : Nat))] _ _ ?_ (by simp (maxSteps := 2000000) only [vup, cond_true, cond_false, Nat.reduceBEq])
      clear hN12
      try clear N12
      refine Zk ?_
      obtain ⟨g1, g2⟩ := gnTo_le hct hs w (i + 1) (by omega)
      have g3 := (gnTo_le hct hs w i (by omega)).1
      have g4 := g2 i (by omega)
      have hgn : gnI l w i = (if e.testBit w then 12 else 0) - y := by rw [gnI, hxy, Int.toNat_natCast]
      rw [hgn] at g4
      have gc := gain_call (h := G) (x := e) (w := w) (y := y) (by omega) (by omega)
      have m1 : mulV .i64 (ss.getD i 0) ((if e.testBit w = true then 12 else 0) - y) = ss.getD i 0 * ((if e.testBit w = true then 12 else 0) - y) := mulN (by omega)
      have a1 : addV .i64 (gnTo l ss w i) (ss.getD i 0 * ((if e.testBit w = true then 12 else 0) - y)) = gnTo l ss w (i + 1) := by
        rw [addN (by omega), gnTo, hgn]
      simp only [q89_8]
      refine Xv [(7, 1)] (by kernel_rfl) (by kernel_rfl) (by kernel_rfl) (by kernel_rfl) ?_
      simp (maxSteps := 2000000) only [↓Yr, ↓vdn, vup, List.map_cons, List.map_nil, cond_true, cond_false, aop, Zg, Zr, ev, sput, Zf, Yg, Yl, Nat.reduceBEq, Nat.reduceAdd, tyf, huG.idx el_38 esz_3 hi2, huG.load Wy hi2, loadBt c8, Yv, List.nil_append, List.append_nil]
      refine ⟨_, _, gc, rfl, ?_⟩
      simp (maxSteps := 2000000) only [vup, m1, a1]
      refine hC [(0, .agg #[Zd (n : Nat), .slice p m c]), (1, u), (2, .pointer (some ⟨h.length, 0, none⟩)), (4, .bool false), (5, Zd (w : Nat)), (6, Zd (gnTo l ss w (i + 1))), (9, .pointer (some ⟨h.length, 0, none⟩)), (10, Zd (n : Nat)), (11, Zd (w : Nat)), (14, .pointer (some ⟨h.length, 1, none⟩)), (15, .slice p m c), (16, Zd l.length), (17, Zd (i : Nat))] _ _ ?_ (by simp (maxSteps := 2000000) only [vup, cond_true, cond_false, Nat.reduceBEq])
      clear hC
      try clear C
      refine Zk ?_
      simp (maxSteps := 2000000) only [↓Za, ↓Zb, ↓Zc, vup, cond_true, cond_false, aop, ev, sput, Zf, Yg, Yl, Nat.reduceBEq, add1 (show i < 9223372036854775807 by omega)]
      exact hQ4 _ _ _ ⟨(i + 1, G), ⟨hi', hEG⟩, by simp only; omega, by simp (maxSteps := 2000000) only [vup, cond_true, cond_false, Nat.reduceBEq], rfl⟩
    · obtain rfl : i = l.length := by omega
      refine Ze fun N13 hN13 => ?_
      simp (maxSteps := 2000000) only [↓Za, ↓Zb, ↓Zc, vup, cond_true, cond_false, aop, Zg, ev, sput, Zf, Yg, Yl, Nat.reduceBEq, hin2]
      refine hN13 [(0, .agg #[Zd (n : Nat), .slice p m c]), (1, u), (2, .pointer (some ⟨h.length, 0, none⟩)), (4, .bool false), (5, Zd (w : Nat)), (6, Zd (gnTo l ss w l.length)), (9, .pointer (some ⟨h.length, 0, none⟩)), (10, Zd (n : Nat)), (11, Zd (w : Nat)), (14, .pointer (some ⟨h.length, 1, none⟩)), (15, .slice p m c), (16, Zd l.length), (17, Zd l.length), (18, .bool false)] _ _ ?_ (by simp (maxSteps := 2000000) only [vup, cond_true, cond_false, Nat.reduceBEq])
      clear hN13
      try clear N13
      refine Ze fun N14 hN14 => ?_
      simp (maxSteps := 2000000) only [↓Xa, ↓vdn, vup, cond_true, cond_false, Zg, ev, Nat.reduceBEq]
      refine hQ4 _ _ _ (hQ3 _ _ _ ?_)
      simp (maxSteps := 2000000) only [Zg, Zr, if_true]
      refine hY [(0, .agg #[Zd (n : Nat), .slice p m c]), (1, u), (2, .pointer (some ⟨h.length, 0, none⟩)), (4, .bool false), (5, Zd (w : Nat)), (6, Zd (gnTo l ss w l.length)), (9, .pointer (some ⟨h.length, 0, none⟩)), (10, Zd (n : Nat)), (11, Zd (w : Nat))] _ _ ?_ (by simp (maxSteps := 2000000) only [vup, cond_true, cond_false, Nat.reduceBEq])
      clear hY
      try clear Y
      by_cases hg : gnTo l ss w l.length ≤ 0
      · refine Ze fun N15 hN15 => ?_
        simp (maxSteps := 2000000) only [↓Za, ↓Zb, ↓Zc, vup, cond_true, cond_false, aop, Zg, ev, sput, Zf, Yg, Yl, Nat.reduceBEq, hg]
        refine hN15 [(0, .agg #[Zd (n : Nat), .slice p m c]), (1, u), (2, .pointer (some ⟨h.length, 0, none⟩)), (4, .bool false), (5, Zd (w : Nat)), (6, Zd (gnTo l ss w l.length)), (9, .pointer (some ⟨h.length, 0, none⟩)), (10, Zd (n : Nat)), (11, Zd (w : Nat)), (34, .bool true)] _ _ ?_ (by simp (maxSteps := 2000000) only [vup, cond_true, cond_false, Nat.reduceBEq])
        clear hN15
        try clear N15
        refine Xl rfl ?_
        refine Zk ?_
        simp (maxSteps := 2000000) only [↓Za, ↓Zw, ↓Zz, ↓Zb, ↓Zc, vup, cond_true, cond_false, aop, Zg, Zr, ev, sput, Zf, Nat.reduceBEq]
        refine hQ2 _ _ _ (hQ _ _ _ ?_)
        simp (maxSteps := 2000000) only [vup, cond_true, cond_false, Zg, Zr, Nat.reduceBEq, Zv, Xw, tup, beatsTo_false hw (show ¬ 0 < gnTo l ss w l.length by omega)]
        exact hE.trans hEq
      · refine Ze fun N16 hN16 => ?_
        simp (maxSteps := 2000000) only [↓Za, ↓Zb, ↓Zc, vup, cond_true, cond_false, aop, Zg, ev, sput, Zf, Yg, Yl, Nat.reduceBEq, hg]
        refine hN16 [(0, .agg #[Zd (n : Nat), .slice p m c]), (1, u), (2, .pointer (some ⟨h.length, 0, none⟩)), (4, .bool false), (5, Zd (w : Nat)), (6, Zd (gnTo l ss w l.length)), (9, .pointer (some ⟨h.length, 0, none⟩)), (10, Zd (n : Nat)), (11, Zd (w : Nat)), (34, .bool false)] _ _ ?_ (by simp (maxSteps := 2000000) only [vup, cond_true, cond_false, Nat.reduceBEq])
        clear hN16
        try clear N16
        refine Xb rfl ?_
        refine Zk ?_
        simp (maxSteps := 2000000) only [↓Zu, Zg, Zr]
        refine hB [(0, .agg #[Zd (n : Nat), .slice p m c]), (1, u), (2, .pointer (some ⟨h.length, 0, none⟩)), (4, .bool false), (9, .pointer (some ⟨h.length, 0, none⟩)), (10, Zd (n : Nat)), (11, Zd (w : Nat))] _ _ ?_ (by simp (maxSteps := 2000000) only [vup, cond_true, cond_false, Nat.reduceBEq])
        clear hB
        try clear B
        refine Zk ?_
        simp (maxSteps := 2000000) only [↓Za, ↓Zb, ↓Zc, vup, cond_true, cond_false, aop, ev, sput, Zf, Yg, Yl, Nat.reduceBEq, add1 (show w < 9223372036854775807 by omega)]
        refine hQ2 _ _ _ ⟨(w + 1, hq), ⟨hw, fun v hv => ?_, hEq⟩, by simp only; omega, by simp (maxSteps := 2000000) only [vup, cond_true, cond_false, Nat.reduceBEq], rfl⟩
        by_cases hvw : v = w
        · rw [hvw]; omega
        · exact hall v (by omega)
  · obtain rfl : n = w := by omega
    refine Ze fun N17 hN17 => ?_
    simp (maxSteps := 2000000) only [↓Za, ↓Zb, ↓Zc, vup, cond_true, cond_false, aop, Zg, ev, sput, Zf, Yg, Yl, Nat.reduceBEq, hin]
    refine hN17 [(0, .agg #[Zd (n : Nat), .slice p m c]), (1, u), (2, .pointer (some ⟨h.length, 0, none⟩)), (4, .bool false), (9, .pointer (some ⟨h.length, 0, none⟩)), (10, Zd (n : Nat)), (11, Zd (n : Nat)), (12, .bool false)] _ _ ?_ (by simp (maxSteps := 2000000) only [vup, cond_true, cond_false, Nat.reduceBEq])
    clear hN17
    try clear N17
    refine Ze fun N18 hN18 => ?_
    simp (maxSteps := 2000000) only [↓Xa, ↓vdn, vup, cond_true, cond_false, Zg, ev, Nat.reduceBEq]
    refine hQ2 _ _ _ (hQ _ _ _ ?_)
    simp (maxSteps := 2000000) only [Zg, Zr, Zv, if_true]
    refine hZ [(0, .agg #[Zd (n : Nat), .slice p m c]), (1, u), (2, .pointer (some ⟨h.length, 0, none⟩)), (4, .bool false)] _ _ ?_ (by simp (maxSteps := 2000000) only [vup, cond_true, cond_false, Nat.reduceBEq])
    clear hZ
    try clear Z
    refine Zk ?_
    simp (maxSteps := 2000000) only [↓Za, ↓Zw, ↓Zz, ↓Zb, ↓Zc, vup, cond_true, cond_false, aop, Zg, ev, sput, Zf, Nat.reduceBEq, Zv, Xw, tup]
    exact ⟨by rw [beatsB_iff.2 hall], hE.trans hEp⟩

def smB (ss : List Int) : Bool := ss.all fun s => decide (-1000000000 ≤ s) && decide (s ≤ 1000000000)
def btB (n : Nat) (l : List (Int × Int)) (ss : List Int) : Bool := decide (ss.length = l.length) && (smB ss && Vx n l ss)
theorem smB_sms {ss : List Int} (h : smB ss = true) : SmS ss := fun i => by
  rcases Nat.lt_or_ge i ss.length with hi | hi
  · have hm : ss.getD i 0 ∈ ss := by rw [List.getD, List.getElem?_eq_getElem hi]; exact List.getElem_mem hi
    have := List.all_eq_true.1 h _ hm
    simp only [Bool.and_eq_true, decide_eq_true_eq] at this
    omega
  · rw [List.getD, List.getElem?_eq_none hi]; decide
theorem smB_mm {ss : List Int} (h0 : 0 < ss.length) : smB ss = (!decide (minTo ss (ss.length - 1) < -1000000000) && !decide (1000000000 < maxTo ss (ss.length - 1))) := by
  obtain ⟨a1, i, hi, a2⟩ := minTo_spec ss (ss.length - 1)
  obtain ⟨b1, j, hj, b2⟩ := maxTo_spec ss (ss.length - 1)
  have gm : ∀ k, k < ss.length → ss.getD k 0 ∈ ss := fun k hk => by rw [List.getD, List.getElem?_eq_getElem hk]; exact List.getElem_mem hk
  rw [Bool.eq_iff_iff, Bool.and_eq_true, Bool.not_eq_true', Bool.not_eq_true', decide_eq_false_iff_not, decide_eq_false_iff_not]
  constructor
  · intro h
    have c1 := List.all_eq_true.1 h _ (gm i (by omega))
    have c2 := List.all_eq_true.1 h _ (gm j (by omega))
    simp only [Bool.and_eq_true, decide_eq_true_eq] at c1 c2
    rw [a2, b2]
    omega
  · rintro ⟨h1, h2⟩
    refine List.all_eq_true.2 fun x hx => ?_
    obtain ⟨k, hk, rfl⟩ := List.mem_iff_getElem.1 hx
    have c1 := a1 k (by omega)
    have c2 := b1 k (by omega)
    rw [List.getD, List.getElem?_eq_getElem hk, Option.getD_some] at c1 c2
    simp only [Bool.and_eq_true, decide_eq_true_eq]
    omega

theorem s51_callW [Tabs Try.prog] {args : List Value} {h : Zh} {Q : Value → Zh → Prop} (hsz : args.length ≤ 37) (hk : AWS Try.prog 37 s51 (Zv Try.prog [.tmp 6, .tmp 7] Q) (Zt 0 args) h) : ACall Try.prog 51 args h Q :=
  Yn Try.func51 rfl (enters_of Try.func51 (by kernel_rfl) rfl) rfl rfl (by decide) s51_strip s51_ok hsz hk
theorem progBeats_call [Tabs prog] {h : Zh} {n : Int} {v u : Value} {l : List (Int × Int)} {ss : List Int} (hv : PairSl h v l) (hl : l.length < 9223372036854775808) (hu : IntSl h u ss) (hls : ss.length < 9223372036854775808) :
    ACall prog 51 [Zd n, v, .agg #[u]] h fun r h' => Ext (fun _ => False) h h' ∧ r = if Yz n l = true then .tuple #[.bool (btB n.toNat l ss), .int .i64 0] else .tuple #[.bool false, .int .i64 2] := by
  obtain ⟨p, m, c, rfl⟩ := Vu hv
  obtain ⟨H, hH⟩ : ∃ H, H = h ++ [Blk.cells [u] 76 false] ++ [Blk.cells [Zd n, .slice p m c] 86 false] := ⟨_, rfl⟩
  have hE : Ext (fun _ => False) h H := by rw [hH]; exact e2 ..
  have b5 : H[h.length]? = some (Blk.cells [u] 76 false) := by rw [hH]; exact b2_0 ..
  have b8 : H[h.length + 1]? = some (.cells [Zd n, .slice p m c] 86 false) := by rw [hH]; exact b2_1 ..
  have hvH := hv.ext hE
  have huH : IntSl H u ss := hu.same fun b hb => hE.2 b (hu.lt hb) id
  have hbx : ∀ {K : Value → Zh → Prop}, boxK prog h 76 (.agg #[u]) K = K (Yi h) (h ++ [Blk.cells [u] 76 false]) := fun {K} => by
    simp [boxK, esz_76, Yi, cellsOf]
  have l5 : ∀ {K : Value → Prop}, Xn prog H 38 (.pointer (some ⟨h.length, 0, none⟩)) K = K u := fun {K} => loadC b5 Vb rfl
  have f5 : ∀ {K : Value → Prop}, Yq prog 76 (.pointer (some ⟨h.length, 0, none⟩)) 0 K = K (.pointer (some ⟨h.length, 0, none⟩)) := fun {K} => fldA fld_76_0 esz_38
  refine s51_callW (by simp) ?_
  simp only [s51]
  refine Ze fun N19 hN19 => ?_
  simp (maxSteps := 2000000) only [↓Za, ↓Zb, ↓Zc, vup, cond_true, cond_false, aop, Zg, Zt, ev, sput, Zf, Nat.reduceBEq, Nat.reduceAdd, hbx, Yi]
  refine hN19 [(0, Zd n), (1, .slice p m c), (2, .agg #[u]), (5, .pointer (some ⟨h.length, 0, none⟩)), (6, .bool false), (7, .int .i64 0)] _ _ ?_ (by simp (maxSteps := 2000000) only [vup, cond_true, cond_false, Nat.reduceBEq])
  clear hN19
  try clear N19
  refine Ze fun N20 hN20 => ?_
  simp (maxSteps := 2000000) only [↓Za, ↓Zb, ↓Zc, vup, List.map_cons, List.map_nil, cond_true, cond_false, aop, Zg, ev, sput, Zf, Nat.reduceBEq, tyf, bldT, Xm, Yi, storeT (Zy (h ++ [Blk.cells [u] 76 false]) (.cells [.int .i64 0, .slice none 0 0] 86 false)) rfl, Wf]
  rw [← hH]
  simp only [List.length_append, List.length_singleton]
  refine hN20 [(0, Zd n), (1, .slice p m c), (2, .agg #[u]), (5, .pointer (some ⟨h.length, 0, none⟩)), (6, .bool false), (7, .int .i64 0), (8, .pointer (some ⟨h.length + 1, 0, none⟩))] _ _ ?_ (by simp (maxSteps := 2000000) only [vup, cond_true, cond_false, Nat.reduceBEq])
  clear hN20
  try clear N20
  refine Zm fun M hM => ?_
  refine Ze fun N21 hN21 => ?_
  simp (maxSteps := 2000000) only [↓Za, ↓Zb, ↓Zc, vup, List.map_cons, List.map_nil, cond_true, cond_false, aop, Zg, ev, sput, Zf, unK, Nat.reduceBEq, Yv, List.nil_append, List.append_nil, loadT b8]
  refine (valid_call hvH hl).mono ?_
  rintro _ H ⟨rfl, rfl⟩
  refine hN21 [(0, Zd n), (1, .slice p m c), (2, .agg #[u]), (5, .pointer (some ⟨h.length, 0, none⟩)), (6, .bool false), (7, .int .i64 0), (8, .pointer (some ⟨h.length + 1, 0, none⟩)), (14, .bool (!Yz n l))] _ _ ?_ (by simp (maxSteps := 2000000) only [vup, cond_true, cond_false, Nat.reduceBEq])
  clear hN21
  try clear N21
  cases hval : Yz n l with
  | false =>
    refine Xl rfl ?_
    refine Zk ?_
    simp (maxSteps := 2000000) only [↓Za, ↓Zw, ↓Zz, ↓Zb, ↓Zc, vup, cond_true, cond_false, aop, Zg, ev, sput, Zf, Nat.reduceBEq, Zv, Xw, tup]
    exact ⟨hE, by rw [if_neg (by simp)]⟩
  | true =>
  refine Xb rfl ?_
  refine Zk ?_
  simp (maxSteps := 2000000) only [↓Zu, vup, Zg]
  refine hM [(0, Zd n), (1, .slice p m c), (2, .agg #[u]), (5, .pointer (some ⟨h.length, 0, none⟩)), (6, .bool false), (7, .int .i64 0), (8, .pointer (some ⟨h.length + 1, 0, none⟩))] _ _ ?_ (by simp (maxSteps := 2000000) only [vup, cond_true, cond_false, Nat.reduceBEq])
  clear hM
  try clear M
  obtain ⟨k, hk⟩ : ∃ k : Nat, n = k := ⟨n.toNat, by simp only [Yz, Bool.and_eq_true, decide_eq_true_eq] at hval; omega⟩
  subst hk
  simp only [hval, if_true, Int.toNat_natCast]
  obtain ⟨hn2, hn5, hl1, hl6, hok⟩ := We hval
  refine Zm fun M hM => ?_
  refine Ze fun N22 hN22 => ?_
  by_cases hlen : ss.length = l.length
  · have hne : (((ss.length : Nat) : Int) != ((l.length : Nat) : Int)) = false := by rw [hlen]; simp
    have h0 : 0 < ss.length := by omega
    have mm := smB_mm h0
    have mnc := fun z (hz : IntSl z u ss) => min_call hz h0 hls
    have mxc := fun z (hz : IntSl z u ss) => max_call hz h0 hls
    have bad : smB ss = false → ∀ e, ELe e [(0, Zd (k : Nat)), (1, .slice p m c), (2, .agg #[u]), (5, .pointer (some ⟨h.length, 0, none⟩)), (6, .bool false), (7, .int .i64 0), (8, .pointer (some ⟨h.length + 1, 0, none⟩)), (32, .bool true)] → N22 e H := by
      intro hf e he
      refine hN22 _ _ _ ?_ he
      refine Xl rfl ?_
      refine Zk ?_
      simp (maxSteps := 2000000) only [↓Za, ↓Zw, ↓Zz, ↓Zb, ↓Zc, vup, cond_true, cond_false, aop, Zg, ev, sput, Zf, Nat.reduceBEq, Zv, Xw, tup]
      exact ⟨hE, by rw [btB, hf]; simp⟩
    have good : smB ss = true → ∀ e, ELe e [(0, Zd (k : Nat)), (1, .slice p m c), (2, .agg #[u]), (5, .pointer (some ⟨h.length, 0, none⟩)), (6, .bool false), (7, .int .i64 0), (8, .pointer (some ⟨h.length + 1, 0, none⟩)), (32, .bool false)] → N22 e H := by
      intro hs e he
      refine hN22 _ _ _ ?_ he
      refine Xb rfl ?_
      refine Zk ?_
      simp (maxSteps := 2000000) only [↓Zu, Zg]
      refine hM [(0, Zd (k : Nat)), (1, .slice p m c), (2, .agg #[u]), (5, .pointer (some ⟨h.length, 0, none⟩)), (6, .bool false), (7, .int .i64 0), (8, .pointer (some ⟨h.length + 1, 0, none⟩))] _ _ ?_ (by simp (maxSteps := 2000000) only [vup, cond_true, cond_false, Nat.reduceBEq])
      clear hM
      try clear M
      refine Ze fun N23 hN23 => ?_
      simp (maxSteps := 2000000) only [↓Za, ↓Zb, ↓Zc, vup, List.map_cons, List.map_nil, cond_true, cond_false, aop, Zg, ev, sput, Zf, Nat.reduceBEq, Yv, List.nil_append, List.append_nil, loadT b8, f5, l5]
      refine ((beats_call hvH huH hval hlen (smB_sms hs))).mono ?_
      rintro _ H ⟨rfl, rfl⟩
      refine hN23 [(0, Zd (k : Nat)), (1, .slice p m c), (2, .agg #[u]), (5, .pointer (some ⟨h.length, 0, none⟩)), (6, .bool (Vx k l ss)), (7, .int .i64 0), (8, .pointer (some ⟨h.length + 1, 0, none⟩))] _ _ ?_ (by simp (maxSteps := 2000000) only [vup, cond_true, cond_false, Nat.reduceBEq])
      clear hN23
      try clear N23
      refine Zk ?_
      simp (maxSteps := 2000000) only [↓Zz, vup, cond_true, cond_false, Nat.reduceBEq, Zv, Xw, tup]
      exact ⟨hE, by rw [btB, hs, decide_eq_true hlen]; simp⟩
    simp only [q51_4]
    refine Vg 7 fun N1 hN1 => ?_
    simp (maxSteps := 2000000) only [↓Za, ↓Zb, ↓Zc, vup, List.map_cons, List.map_nil, cond_true, cond_false, aop, ev, sput, Zf, Yg, Yl, Zl, Nat.reduceBEq, tyf, List.take_succ_cons, List.take_zero, f5, l5, huH.len, hvH.len, hne]
    refine hN1 _ _ ?_
    clear hN1 N1
    simp only [List.drop_succ_cons, List.drop_zero]
    refine Vg 5 fun N1 hN1 => ?_
    simp (maxSteps := 2000000) only [↓Za, ↓Zb, ↓Zc, ↓vdn, vup, List.map_cons, List.map_nil, cond_true, cond_false, aop, ev, sput, Zf, Yg, Yl, Nat.reduceBEq, tyf, Yv, List.nil_append, List.append_nil, List.take_succ_cons, List.take_zero, f5, l5]
    refine ((mnc H huH)).mono ?_
    rintro _ H ⟨rfl, rfl⟩
    cases hA : decide (minTo ss (ss.length - 1) < -1000000000) with
    | true =>
      simp (maxSteps := 2000000) only [vup, hA]
      refine hN1 _ _ ?_
      clear hN1 N1
      simp only [List.drop_succ_cons, List.drop_zero]
      simp (maxSteps := 2000000) only [↓Za, ↓Zb, ↓Zc, ↓vdn, vup, cond_true, cond_false, aop, Zg, ev, sput, Zf, Nat.reduceBEq]
      exact bad (by rw [mm, hA]; rfl) _ (by simp (maxSteps := 2000000) only [vup, cond_true, cond_false, Nat.reduceBEq])
    | false =>
      simp (maxSteps := 2000000) only [vup, hA]
      refine hN1 _ _ ?_
      clear hN1 N1
      simp only [List.drop_succ_cons, List.drop_zero]
      simp (maxSteps := 2000000) only [↓Za, ↓Zb, ↓Zc, ↓vdn, vup, List.map_cons, List.map_nil, cond_true, cond_false, aop, Zg, ev, sput, Zf, Yg, Yl, Nat.reduceBEq, tyf, Yv, List.nil_append, List.append_nil, f5, l5]
      refine ((mxc H huH)).mono ?_
      rintro _ H ⟨rfl, rfl⟩
      cases hB : decide (1000000000 < maxTo ss (ss.length - 1)) with
      | true =>
        simp (maxSteps := 2000000) only [vup, hB]
        exact bad (by rw [mm, hA, hB]; rfl) _ (by simp (maxSteps := 2000000) only [vup, cond_true, cond_false, Nat.reduceBEq])
      | false =>
        simp (maxSteps := 2000000) only [vup, hB]
        exact good (by rw [mm, hA, hB]; rfl) _ (by simp (maxSteps := 2000000) only [vup, cond_true, cond_false, Nat.reduceBEq])
  · have hne : (((ss.length : Nat) : Int) != ((l.length : Nat) : Int)) = true := by simp; omega
    simp only [q51_4]
    refine Vg 7 fun N1 hN1 => ?_
    simp (maxSteps := 2000000) only [↓Za, ↓Zb, ↓Zc, vup, List.map_cons, List.map_nil, cond_true, cond_false, aop, ev, sput, Zf, Yg, Yl, Zl, Nat.reduceBEq, tyf, List.take_succ_cons, List.take_zero, f5, l5, huH.len, hvH.len, hne]
    refine hN1 _ _ ?_
    clear hN1 N1
    simp only [List.drop_succ_cons, List.drop_zero]
    simp (maxSteps := 2000000) only [↓Za, ↓Zb, ↓Zc, ↓vdn, vup, cond_true, cond_false, aop, Zg, ev, sput, Zf, Nat.reduceBEq]
    refine hN22 [(0, Zd (k : Nat)), (1, .slice p m c), (2, .agg #[u]), (5, .pointer (some ⟨h.length, 0, none⟩)), (6, .bool false), (7, .int .i64 0), (8, .pointer (some ⟨h.length + 1, 0, none⟩)), (32, .bool true)] _ _ ?_ (by simp (maxSteps := 2000000) only [vup, cond_true, cond_false, Nat.reduceBEq])
    clear hN22
    try clear N22
    refine Xl rfl ?_
    refine Zk ?_
    simp (maxSteps := 2000000) only [↓Za, ↓Zw, ↓Zz, ↓Zb, ↓Zc, vup, cond_true, cond_false, aop, Zg, ev, sput, Zf, Nat.reduceBEq, Zv, Xw, tup]
    exact ⟨hE, by rw [btB, decide_eq_false hlen]; simp⟩
end Go.Proofs.Try.Am

namespace Go.Proofs.Try.Am
open Go.Am Bq
set_option maxRecDepth 100000
set_option maxHeartbeats 4000000

theorem s83_callW [Tabs Try.prog] {args : List Value} {h : Zh} {Q : Value → Zh → Prop} (hsz : args.length ≤ 31) (hk : AWS Try.prog 31 s83 (Zv Try.prog [] Q) (Zt 0 args) h) : ACall Try.prog 83 args h Q :=
  Yn Try.func83 rfl (enters_of Try.func83 (by kernel_rfl) rfl) rfl rfl (by decide) s83_strip s83_ok hsz hk
theorem chosen_call [Tabs prog] {h : Zh} {n : Nat} {fn : Nat} {cap : Array Value} (hn : n ≤ 6) (I : Nat → Zh → Prop) (J : Zh → Prop)
    (hext : ∀ k h h', I k h → Ext (fun _ => False) h h' → I k h')
    (step : ∀ set, 1 ≤ set → set < 2 ^ n → ∀ (h1 : Zh) (u : Value), I set h1 → IntSl h1 u (Wu (Zi set n)) → h.length ≤ h1.length →
      ACall prog fn (([] : List Value) ++ [u] ++ cap.toList) h1 fun r h2 => h1.length ≤ h2.length ∧ ∃ b, r = .bool b ∧ (b = true → I (set + 1) h2) ∧ (b = false → J h2))
    (h0 : I 1 h) : ACall prog 83 [Zd (n : Nat), .func (.func fn) #[] cap] h fun _ h' => h.length ≤ h'.length ∧ (I (2 ^ n) h' ∨ J h') := by
  have hpw : (2 : Nat) ^ n ≤ 2 ^ 6 := Nat.pow_le_pow_right (by decide) hn
  have hpp : 1 ≤ 2 ^ n := Nat.one_le_two_pow
  have hsh : shlV .i64 1 ((n : Nat) : Int) = ((2 ^ n : Nat) : Int) := by rw [shl1 (by omega), pow_cast]
  refine s83_callW (by simp) ?_
  simp only [s83]
  refine Ze fun N1 hN1 => ?_
  simp (maxSteps := 2000000) only [↓Za, ↓Zb, ↓Zc, vup, cond_false, aop, Zg, Zt, ev, sput, Zf, Nat.reduceBEq, Nat.reduceAdd]
  refine hN1 [(0, Zd (n : Nat)), (1, .func (.func fn) #[] cap), (4, .int .i64 1)] _ _ ?_ (by simp (maxSteps := 2000000) only [vup, cond_true, cond_false, Nat.reduceBEq])
  clear hN1
  try clear N1
  refine Zn ?_
  refine Zs fun Q hQ => ?_
  refine Yu (γ := Nat × Zh) (fun s => 1 ≤ s.1 ∧ s.1 ≤ 2 ^ n ∧ I s.1 s.2 ∧ h.length ≤ s.2.length)
    (fun s => ([(0, Zd (n : Nat)), (1, .func (.func fn) #[] cap), (4, Zd (s.1 : Nat))], s.2)) (fun s => 2 ^ n - s.1) (1, h) ⟨Nat.le_refl _, hpp, h0, Nat.le_refl _⟩ (by simp (maxSteps := 2000000) only [vup, cond_true, cond_false, Nat.reduceBEq, Int.natCast_one]) rfl ?_
  rintro ⟨s, hp⟩ ⟨hs1, hs, hI, hlen⟩
  simp only at hs1 hs hI hlen
  refine Zs fun Q2 hQ2 => ?_
  simp only [l83_1]
  by_cases hin : (s : Int) < ((2 ^ n : Nat) : Int)
  · have hs' : s < 2 ^ n := by omega
    refine Zm fun C hC => ?_
    refine Ze fun N2 hN2 => ?_
    simp (maxSteps := 2000000) only [↓Za, ↓Zb, ↓Zc, vup, cond_true, cond_false, aop, Zg, ev, sput, Zf, Yg, Yl, Nat.reduceBEq, Int.natCast_nonneg, hsh, hin]
    refine hN2 [(0, Zd (n : Nat)), (1, .func (.func fn) #[] cap), (4, Zd (s : Nat)), (10, .bool true)] _ _ ?_ (by simp (maxSteps := 2000000) only [vup, cond_true, cond_false, Nat.reduceBEq])
    clear hN2
    try clear N2
    refine Xl rfl ?_
    refine Zk ?_
    simp (maxSteps := 2000000) only [↓Zu, Zg]
    refine hC [(0, Zd (n : Nat)), (1, .func (.func fn) #[] cap), (4, Zd (s : Nat))] _ _ ?_ (by simp (maxSteps := 2000000) only [vup, cond_true, cond_false, Nat.reduceBEq])
    clear hC
    try clear C
    refine Zm fun Y hY => ?_
    refine Zn ?_
    refine Ze fun N3 hN3 => ?_
    simp (maxSteps := 2000000) only [↓Za, ↓Zb, ↓Zc, vup, cond_false, aop, Zg, ev, sput, Zf, Nat.reduceBEq]
    refine hN3 [(0, Zd (n : Nat)), (1, .func (.func fn) #[] cap), (4, Zd (s : Nat)), (5, .slice none 0 0)] _ _ ?_ (by simp (maxSteps := 2000000) only [vup, cond_true, cond_false, Nat.reduceBEq])
    clear hN3
    try clear N3
    refine Zm fun X hX => ?_
    refine Ze fun N4 hN4 => ?_
    simp (maxSteps := 2000000) only [↓Za, ↓Zb, ↓Zc, vup, cond_true, cond_false, aop, Zg, ev, sput, Zf, Nat.reduceBEq]
    refine hN4 [(0, Zd (n : Nat)), (1, .func (.func fn) #[] cap), (4, Zd (s : Nat)), (5, .slice none 0 0), (13, Zd (n : Nat)), (14, .int .i64 0)] _ _ ?_ (by simp (maxSteps := 2000000) only [vup, cond_true, cond_false, Nat.reduceBEq])
    clear hN4
    try clear N4
    refine Zn ?_
    refine Zs fun Qa hQa => ?_
    refine Yu (γ := Nat × Value × Zh) (fun g => g.1 ≤ n ∧ OwnSl 3 g.2.2 g.2.1 (Wu (Zi s g.1)) ∧ Ext (fun _ => False) hp g.2.2 ∧ (∀ b, Yf g.2.1 = some b → hp.length ≤ b))
      (fun g => ([(0, Zd (n : Nat)), (1, .func (.func fn) #[] cap), (4, Zd (s : Nat)), (5, g.2.1), (13, Zd (n : Nat)), (14, Zd (g.1 : Nat))], g.2.2)) (fun g => n - g.1) (0, .slice none 0 0, hp) ⟨Nat.zero_le _, .inl ⟨rfl, rfl⟩, Ext.refl _ _, fun b hb => by cases hb⟩ (by simp (maxSteps := 2000000) only [vup, cond_true, cond_false, Nat.reduceBEq, Int.natCast_zero]) rfl ?_
    rintro ⟨k, wv, G⟩ ⟨hk, how, hEG, hbw⟩
    simp only at hk how hEG hbw
    refine Zs fun Qb hQb => ?_
    simp only [l83_0]
    by_cases hkin : (k : Int) < n
    · have hk' : k < n := by omega
      have ht := testV (y := k) (show s < 9223372036854775808 by omega)
      have hnx := Wd s k
      refine Ze fun N5 hN5 => ?_
      simp (maxSteps := 2000000) only [↓Za, ↓Zb, ↓Zc, vup, cond_true, cond_false, aop, Zg, ev, sput, Zf, Yg, Yl, Nat.reduceBEq, hkin]
      refine hN5 [(0, Zd (n : Nat)), (1, .func (.func fn) #[] cap), (4, Zd (s : Nat)), (5, wv), (13, Zd (n : Nat)), (14, Zd (k : Nat)), (15, .bool true)] _ _ ?_ (by simp (maxSteps := 2000000) only [vup, cond_true, cond_false, Nat.reduceBEq])
      clear hN5
      try clear N5
      refine Ze fun N6 hN6 => ?_
      simp (maxSteps := 2000000) only [↓Zu, ↓vdn, vup, cond_true, cond_false, Zg, ev, Nat.reduceBEq]
      refine hN6 [(0, Zd (n : Nat)), (1, .func (.func fn) #[] cap), (4, Zd (s : Nat)), (5, wv), (13, Zd (n : Nat)), (14, Zd (k : Nat))] _ _ ?_ (by simp (maxSteps := 2000000) only [vup, cond_true, cond_false, Nat.reduceBEq])
      clear hN6
      try clear N6
      refine Zm fun B hB => ?_
      refine Zn ?_
      refine Ze fun N7 hN7 => ?_
      simp (maxSteps := 2000000) only [↓Za, ↓Zb, ↓Zc, vup, cond_true, cond_false, aop, Zg, ev, sput, Zf, Nat.reduceBEq]
      refine hN7 [(0, Zd (n : Nat)), (1, .func (.func fn) #[] cap), (4, Zd (s : Nat)), (5, wv), (6, Zd (k : Nat)), (13, Zd (n : Nat)), (14, Zd (k : Nat))] _ _ ?_ (by simp (maxSteps := 2000000) only [vup, cond_true, cond_false, Nat.reduceBEq])
      clear hN7
      try clear N7
      refine Ze fun N8 hN8 => ?_
      simp (maxSteps := 2000000) only [↓Za, ↓Zb, ↓Zc, vup, cond_true, cond_false, aop, Zg, ev, sput, Zf, Yg, Yl, Nat.reduceBEq, ht, beq1, Int.natCast_nonneg]
      refine hN8 [(0, Zd (n : Nat)), (1, .func (.func fn) #[] cap), (4, Zd (s : Nat)), (5, wv), (6, Zd (k : Nat)), (13, Zd (n : Nat)), (14, Zd (k : Nat)), (21, .bool (s.testBit k))] _ _ ?_ (by simp (maxSteps := 2000000) only [vup, cond_true, cond_false, Nat.reduceBEq])
      clear hN8
      try clear N8
      cases hbit : s.testBit k with
      | false =>
        rw [hbit, if_neg (by decide), List.append_nil] at hnx
        refine Xb rfl ?_
        refine Zk ?_
        simp (maxSteps := 2000000) only [↓Zu, Zg, Zr]
        refine hB [(0, Zd (n : Nat)), (1, .func (.func fn) #[] cap), (4, Zd (s : Nat)), (5, wv), (13, Zd (n : Nat)), (14, Zd (k : Nat))] _ _ ?_ (by simp (maxSteps := 2000000) only [vup, cond_true, cond_false, Nat.reduceBEq])
        clear hB
        try clear B
        refine Zk ?_
        simp (maxSteps := 2000000) only [↓Za, ↓Zb, ↓Zc, vup, cond_true, cond_false, aop, ev, sput, Zf, Yg, Yl, Nat.reduceBEq, add1 (show k < 9223372036854775807 by omega)]
        exact hQb _ _ _ ⟨(k + 1, wv, G), ⟨hk', by simp only; rw [hnx]; exact how, hEG, hbw⟩, by simp only; omega, by simp (maxSteps := 2000000) only [vup, cond_true, cond_false, Nat.reduceBEq], rfl⟩
      | true =>
        rw [hbit, if_pos rfl] at hnx
        refine Xl rfl ?_
        refine Zk ?_
        simp (maxSteps := 2000000) only [↓Za, ↓Zb, ↓Zc, vup, List.map_cons, List.map_nil, cond_true, cond_false, aop, Zg, Zr, ev, sput, Zf, Zl, Nat.reduceBEq, litI1]
        have hwl := Va s k
        refine OwnSl.append (x := (k : Int)) (how.ext (S := fun _ => False) (Ext.app _ _ _) (fun _ _ => id)) app_38_38 (by rw [castI_len]; omega) (Zy _ _) ?_
        intro wv' G' ho' hE' hb'
        rw [← castI_snoc, ← hnx] at ho'
        have hE2 : Ext (fun _ => False) hp G' := ext_app hEG (H' := G ++ [Blk.ints [(k : Int)] 3 false]) (by simp) (fun q hq => List.getElem?_append_left (by have := hEG.1; omega)) (fun b hb => hbw b hb) hE'
        have hbw' : ∀ b, Yf wv' = some b → hp.length ≤ b := fun b hb => by
          rcases hb' with h1 | ⟨b', h1, h2⟩
          · exact hbw b (h1 ▸ hb)
          · rw [h1] at hb; cases hb
            rw [List.length_append] at h2
            have := hEG.1; omega
        refine hB [(0, Zd (n : Nat)), (1, .func (.func fn) #[] cap), (4, Zd (s : Nat)), (5, wv'), (13, Zd (n : Nat)), (14, Zd (k : Nat))] _ _ ?_ (by simp (maxSteps := 2000000) only [vup, cond_true, cond_false, Nat.reduceBEq])
        clear hB
        try clear B
        refine Zk ?_
        simp (maxSteps := 2000000) only [↓Za, ↓Zb, ↓Zc, vup, cond_true, cond_false, aop, ev, sput, Zf, Yg, Yl, Nat.reduceBEq, add1 (show k < 9223372036854775807 by omega)]
        exact hQb _ _ _ ⟨(k + 1, wv', G'), ⟨hk', ho', hE2, hbw'⟩, by simp only; omega, by simp (maxSteps := 2000000) only [vup, cond_true, cond_false, Nat.reduceBEq], rfl⟩
    · have hkn := loopEnd hkin hk
      subst hkn
      refine Ze fun N9 hN9 => ?_
      simp (maxSteps := 2000000) only [↓Za, ↓Zb, ↓Zc, vup, cond_true, cond_false, aop, Zg, ev, sput, Zf, Yg, Yl, Nat.reduceBEq, hkin]
      refine hN9 [(0, Zd (n : Nat)), (1, .func (.func fn) #[] cap), (4, Zd (s : Nat)), (5, wv), (13, Zd (n : Nat)), (14, Zd (n : Nat)), (15, .bool false)] _ _ ?_ (by simp (maxSteps := 2000000) only [vup, cond_true, cond_false, Nat.reduceBEq])
      clear hN9
      try clear N9
      refine Ze fun N10 hN10 => ?_
      simp (maxSteps := 2000000) only [↓Xa, ↓vdn, vup, cond_true, cond_false, Zg, ev, Nat.reduceBEq]
      refine hQb _ _ _ (hQa _ _ _ ?_)
      simp (maxSteps := 2000000) only [Zg, Zr, if_true]
      refine hX [(0, Zd (n : Nat)), (1, .func (.func fn) #[] cap), (4, Zd (s : Nat)), (5, wv)] _ _ ?_ (by simp (maxSteps := 2000000) only [vup, cond_true, cond_false, Nat.reduceBEq])
      clear hX
      try clear X
      have st := step s hs1 hs' G wv (hext _ _ _ hI hEG) how.int (by have := hEG.1; omega)
      refine Ze fun N11 hN11 => ?_
      simp (maxSteps := 2000000) only [↓Za, ↓Zb, ↓Zc, vup, List.map_cons, List.map_nil, cond_true, cond_false, aop, Zg, ev, sput, Zf, unK, Nat.reduceBEq, Yv]
      refine st.mono ?_
      rintro _ G2 ⟨hl2, b, rfl, hbt, hbf⟩
      have hEGl := hEG.1
      cases b with
      | true =>
        simp (maxSteps := 2000000) only [vup]
        refine hN11 [(0, Zd (n : Nat)), (1, .func (.func fn) #[] cap), (4, Zd (s : Nat)), (5, wv), (30, .bool false)] _ _ ?_ (by simp (maxSteps := 2000000) only [vup, cond_true, cond_false, Nat.reduceBEq])
        clear hN11
        try clear N11
        refine Xb rfl ?_
        refine Zk ?_
        simp (maxSteps := 2000000) only [↓Zu, Zg, Zr]
        refine hY [(0, Zd (n : Nat)), (1, .func (.func fn) #[] cap), (4, Zd (s : Nat))] _ _ ?_ (by simp (maxSteps := 2000000) only [vup, cond_true, cond_false, Nat.reduceBEq])
        clear hY
        try clear Y
        refine Zk ?_
        simp (maxSteps := 2000000) only [↓Za, ↓Zb, ↓Zc, vup, cond_true, cond_false, aop, ev, sput, Zf, Yg, Yl, Nat.reduceBEq, add1 (show s < 9223372036854775807 by omega)]
        exact hQ2 _ _ _ ⟨(s + 1, G2), ⟨by show 1 ≤ s + 1; omega, hs', hbt rfl, by show h.length ≤ G2.length; omega⟩, by simp only; omega, by simp (maxSteps := 2000000) only [vup, cond_true, cond_false, Nat.reduceBEq], rfl⟩
      | false =>
        simp (maxSteps := 2000000) only [vup]
        refine hN11 [(0, Zd (n : Nat)), (1, .func (.func fn) #[] cap), (4, Zd (s : Nat)), (5, wv), (30, .bool true)] _ _ ?_ (by simp (maxSteps := 2000000) only [vup, cond_true, cond_false, Nat.reduceBEq])
        clear hN11
        try clear N11
        refine Xl rfl ?_
        refine Zk ?_
        simp (maxSteps := 2000000) only [↓Zz, Zg, Zr]
        refine hQ2 _ _ _ (hQ _ _ _ ?_)
        simp (maxSteps := 2000000) only [Zr, Zv, Xw]
        exact ⟨by omega, .inr (hbf rfl)⟩
  · obtain rfl : s = 2 ^ n := by omega
    refine Zm fun C hC => ?_
    refine Ze fun N12 hN12 => ?_
    simp (maxSteps := 2000000) only [↓Za, ↓Zb, ↓Zc, vup, cond_true, cond_false, aop, Zg, ev, sput, Zf, Yg, Yl, Nat.reduceBEq, Int.natCast_nonneg, hsh, hin]
    refine hN12 [(0, Zd (n : Nat)), (1, .func (.func fn) #[] cap), (4, Zd ((2 ^ n : Nat) : Nat)), (10, .bool false)] _ _ ?_ (by simp (maxSteps := 2000000) only [vup, cond_true, cond_false, Nat.reduceBEq])
    clear hN12
    try clear N12
    refine Xb rfl ?_
    refine Zk ?_
    simp (maxSteps := 2000000) only [↓Xa, Zg]
    refine hQ2 _ _ _ (hQ _ _ _ ?_)
    simp (maxSteps := 2000000) only [Zr, Zv, Xw, if_true]
    exact ⟨hlen, .inl hI⟩
end Go.Proofs.Try.Am

namespace Bq
section
variable {f b : List (Int × Int)} (c : Chn (f ++ b)) (hl : f.length = b.length)
include c hl
end
end Bq

namespace Go.Proofs.Try.Am
open Go.Am Bq
set_option maxRecDepth 100000
set_option maxHeartbeats 4000000

theorem InR.app {f b : List (Int × Int)} (h1 : InR f) (h2 : InR b) : InR (f ++ b) := fun p hp => (List.mem_append.1 hp).elim (h1 p) (h2 p)

theorem fA1o {b o : Nat} {K : Value → Prop} : Yq prog 26 (.pointer (some ⟨b, o, none⟩)) 1 K = K (.pointer (some ⟨b, o + 1, none⟩)) := by
  simp [Yq, fld_26_1, esz_3]
theorem pairFlds {h : Zh} {v : Value} {ps : List (Int × Int)} {i : Nat} (hv : PairSl h v ps) (hi : i < ps.length) : ∃ p0 p1 : Value, (∀ K : Value → Prop, Xf prog 47 v (Zd (i : Nat)) K = K p0) ∧ (∀ K : Value → Prop, Yq prog 26 p0 0 K = K p0) ∧ (∀ K : Value → Prop, Yq prog 26 p0 1 K = K p1) ∧
    (∀ K : Value → Prop, Xn prog h 3 p0 K = K (Zd (ps.getD i (0, 0)).1)) ∧ (∀ K : Value → Prop, Xn prog h 3 p1 K = K (Zd (ps.getD i (0, 0)).2)) := by
  have hidx := fun K => hv.idx el_47 Vk (k := .i64) hi K
  rcases hv with ⟨rfl, rfl⟩ | ⟨b, o, sp, cap, c, e', ro, rfl, _, hvw, hc⟩
  · simp at hi
  · obtain ⟨h1, h2⟩ := hc i hi
    refine ⟨.pointer (some ⟨b, o + i * 2, none⟩), .pointer (some ⟨b, o + i * 2 + 1, none⟩), hidx, fun K => fA0o, fun K => fA1o, fun K => ?_, fun K => ?_⟩
    · simp only [Xn, Wy]; exact view_cell hvw h1
    · simp only [Xn, Wy]; exact view_cell hvw h2
end Go.Proofs.Try.Am

/-
  Printed by gen.py: the code of some functions, without what no step looks at; held against the program's own by the kernel.
  bets: the common multiple of fractions.
  Printed by gen.py: the code of some functions, without what no step looks at; held against the program's own by the kernel.
  bets: chances: their checks, sums over an event, parts.
  Printed by gen.py: the code of some functions, without what no step looks at; held against the program's own by the kernel.
  Printed by gen.py: the code of some functions, without what no step looks at; held against the program's own by the kernel.
  bets: parts as numbers; a slice of parts; the program's checks of chances; the chance of an event.
-/
import Derived.Test.YtcmindinomacbaaPk3
import Derived.Test.YtcmindinomacbaaProg
import Derived.KernelRfl
import Derived.Shelf.Abstract
import Derived.Test.YtcmindinomacbaaPk8
set_option linter.all false
namespace Go.Proofs.Try.Am
open Go.Am
set_option maxRecDepth 100000
/-! 31: planchet bets.Mean -/
@[reducible] def q31_0 : SCode := .region [⟨some 4, .alloc 26, none⟩,
    ⟨some 5, .assign (.const (.int .i64 0)), none⟩]
@[reducible] def q31_1 : SCode := .region [⟨some 9, .move (.tmp 0), none⟩,
    ⟨some 10, .call { callee := .value (.func 69), args := #[.tmp 9], argTypes := #[47] }, none⟩,
    ⟨some 11, .unOp .not 4 (.tmp 10), none⟩,
    ⟨some 12, .move (.tmp 11), none⟩,
    ⟨some 13, .move (.tmp 1), some (12, false)⟩,
    ⟨some 14, .call { callee := .value (.func 69), args := #[.tmp 13], argTypes := #[47] }, some (12, false)⟩,
    ⟨some 15, .unOp .not 4 (.tmp 14), some (12, false)⟩,
    ⟨some 16, .pick (.tmp 12) (.const (.bool true)) (.tmp 15), none⟩,
    ⟨some 17, .move (.tmp 16), none⟩,
    ⟨some 18, .move (.tmp 0), some (17, false)⟩,
    ⟨some 19, .call { callee := .builtin .len, args := #[.tmp 18], argTypes := #[47] }, some (17, false)⟩,
    ⟨some 20, .move (.tmp 1), some (17, false)⟩,
    ⟨some 21, .call { callee := .builtin .len, args := #[.tmp 20], argTypes := #[47] }, some (17, false)⟩,
    ⟨some 22, .binOp .neq 3 (.tmp 19) (.tmp 21) 3, some (17, false)⟩,
    ⟨some 23, .pick (.tmp 17) (.const (.bool true)) (.tmp 22), none⟩]
@[reducible] def q31_2 : SCode := .region [⟨some 24, .build 26 #[], none⟩,
    ⟨none, .store 26 (.tmp 4) (.tmp 24), none⟩,
    ⟨some 5, .assign (.const (.int .i64 2)), none⟩]
@[reducible] def q31_3 : SCode := .region [⟨some 25, .call { callee := .value (.func 70), args := #[.const (.int .i64 0)], argTypes := #[3] }, none⟩,
    ⟨some 6, .alloc 26, none⟩,
    ⟨none, .store 26 (.tmp 6) (.tmp 25), none⟩]
@[reducible] def q31_4 : SCode := .region [⟨some 26, .move (.tmp 1), none⟩,
    ⟨some 27, .call { callee := .builtin .len, args := #[.tmp 26], argTypes := #[47] }, none⟩,
    ⟨some 28, .move (.const (.int .i64 0)), none⟩]
@[reducible] def q31_5 : SCode := .region [⟨some 29, .binOp .lss 3 (.tmp 28) (.tmp 27) 3, none⟩]
@[reducible] def q31_6 : SCode := .region [⟨some 30, .move (.tmp 28), none⟩,
    ⟨some 31, .indexAddr 47 (.tmp 26) (.tmp 28), none⟩,
    ⟨some 32, .load 26 (.tmp 31), none⟩,
    ⟨some 8, .alloc 26, none⟩,
    ⟨some 7, .assign (.tmp 30), none⟩,
    ⟨none, .store 26 (.tmp 8) (.tmp 32), none⟩]
def q31_7 : SCode := .draw [⟨some 33, .load 26 (.tmp 6), none⟩,
    ⟨some 34, .load 26 (.tmp 8), none⟩,
    ⟨some 35, .move (.tmp 0), none⟩,
    ⟨some 36, .move (.tmp 7), none⟩,
    ⟨some 37, .call { callee := .value (.func 73), args := #[.tmp 35, .tmp 36], argTypes := #[47, 3] }, none⟩,
    ⟨some 38, .call { callee := .value (.func 72), args := #[.tmp 34, .tmp 37], argTypes := #[26, 26] }, none⟩,
    ⟨some 39, .call { callee := .value (.func 71), args := #[.tmp 33, .const (.int .i64 1), .tmp 38], argTypes := #[26, 3, 26] }, none⟩,
    ⟨none, .store 26 (.tmp 6) (.tmp 39), none⟩]
   [[], [], [], [], [2, 3], [1, 4, 4], [0, 5, 5], [6, 6, 0, 1, 2, 3, 4, 5, 6]]
@[reducible] def q31_8 : SCode := .region [⟨some 40, .binOp .add 3 (.tmp 28) (.const (.int .i64 1)) 3, none⟩,
    ⟨some 28, .move (.tmp 40), none⟩]
def l31_0 : SCode := (.seq q31_5 (.seq (.cond (.tmp 29) .skip (.exit 0)) (.seq (.block 1 (.seq q31_6 q31_7)) q31_8)))
@[reducible] def q31_9 : SCode := .region [⟨some 41, .load 26 (.tmp 6), none⟩,
    ⟨none, .store 26 (.tmp 4) (.tmp 41), none⟩,
    ⟨some 5, .assign (.const (.int .i64 0)), none⟩]
def s31 : SCode := (.seq q31_0 (.seq (.seq q31_1 (.cond (.tmp 23) (.seq q31_2 .ret) .skip)) (.seq q31_3 (.seq (.seq q31_4 (.block 0 (.loop l31_0))) (.seq q31_9 .ret)))))
theorem s31_strip : stripC (bodyOf Try.f31) = s31 := by kernel_rfl
theorem s31_ok : codeOK 42 (bodyOf Try.f31) = true := by kernel_rfl
/-! 69: planchet bets.isForecast -/
@[reducible] def q69_0 : SCode := .region [⟨some 2, .assign (.const (.bool false)), none⟩]
@[reducible] def q69_1 : SCode := .region [⟨some 3, .move (.tmp 0), none⟩,
    ⟨some 4, .call { callee := .builtin .len, args := #[.tmp 3], argTypes := #[47] }, none⟩,
    ⟨some 5, .binOp .lss 3 (.tmp 4) (.const (.int .i64 2)) 3, none⟩,
    ⟨some 6, .move (.tmp 5), none⟩,
    ⟨some 7, .move (.tmp 0), some (6, false)⟩,
    ⟨some 8, .call { callee := .builtin .len, args := #[.tmp 7], argTypes := #[47] }, some (6, false)⟩,
    ⟨some 9, .binOp .gtr 3 (.tmp 8) (.const (.int .i64 5)) 3, some (6, false)⟩,
    ⟨some 10, .pick (.tmp 6) (.const (.bool true)) (.tmp 9), none⟩,
    ⟨some 11, .move (.tmp 10), none⟩,
    ⟨some 12, .move (.tmp 0), some (11, false)⟩,
    ⟨some 13, .call { callee := .value (.func 105), args := #[.tmp 12, .func 106], argTypes := #[47, 35] }, some (11, false)⟩,
    ⟨some 14, .unOp .not 4 (.tmp 13), some (11, false)⟩,
    ⟨some 15, .pick (.tmp 11) (.const (.bool true)) (.tmp 14), none⟩]
@[reducible] def q69_2 : SCode := .region [⟨some 2, .assign (.const (.bool false)), none⟩]
@[reducible] def q69_3 : SCode := .region [⟨some 16, .move (.tmp 0), none⟩,
    ⟨some 17, .move (.tmp 0), none⟩,
    ⟨some 18, .call { callee := .builtin .len, args := #[.tmp 17], argTypes := #[47] }, none⟩,
    ⟨some 19, .binOp .shl 3 (.const (.int .i64 1)) (.tmp 18) 3, none⟩,
    ⟨some 20, .binOp .sub 3 (.tmp 19) (.const (.int .i64 1)) 3, none⟩,
    ⟨some 21, .call { callee := .value (.func 61), args := #[.tmp 16, .tmp 20], argTypes := #[90, 3] }, none⟩,
    ⟨some 22, .call { callee := .value (.func 70), args := #[.const (.int .i64 1)], argTypes := #[3] }, none⟩,
    ⟨some 23, .binOp .eql 26 (.tmp 21) (.tmp 22) 26, none⟩,
    ⟨some 2, .assign (.tmp 23), none⟩]
def s69 : SCode := (.seq q69_0 (.seq (.seq q69_1 (.cond (.tmp 15) (.seq q69_2 .ret) .skip)) (.seq q69_3 .ret)))
theorem s69_strip : stripC (bodyOf Try.f69) = s69 := by kernel_rfl
theorem s69_ok : codeOK 24 (bodyOf Try.f69) = true := by kernel_rfl
/-! 73: planchet bets.score -/
@[reducible] def q73_0 : SCode := .region [⟨some 4, .alloc 26, none⟩]
def q73_1 : SCode := .draw [⟨some 8, .call { callee := .value (.func 70), args := #[.const (.int .i64 2)], argTypes := #[3] }, none⟩,
    ⟨some 9, .move (.tmp 0), none⟩,
    ⟨some 10, .move (.tmp 1), none⟩,
    ⟨some 11, .indexAddr 47 (.tmp 9) (.tmp 10), none⟩,
    ⟨some 12, .load 26 (.tmp 11), none⟩,
    ⟨some 13, .call { callee := .value (.func 72), args := #[.tmp 8, .tmp 12], argTypes := #[26, 26] }, none⟩,
    ⟨some 5, .alloc 26, none⟩,
    ⟨none, .store 26 (.tmp 5) (.tmp 13), none⟩]
   [[], [], [], [1, 2], [3], [0, 4, 0], [], [6, 5, 5, 0, 1, 2, 3, 4, 5, 6]]
@[reducible] def q73_2 : SCode := .region [⟨some 14, .move (.tmp 0), none⟩,
    ⟨some 15, .call { callee := .builtin .len, args := #[.tmp 14], argTypes := #[47] }, none⟩,
    ⟨some 16, .move (.const (.int .i64 0)), none⟩]
@[reducible] def q73_3 : SCode := .region [⟨some 17, .binOp .lss 3 (.tmp 16) (.tmp 15) 3, none⟩]
@[reducible] def q73_4 : SCode := .region [⟨some 18, .indexAddr 47 (.tmp 14) (.tmp 16), none⟩,
    ⟨some 19, .load 26 (.tmp 18), none⟩,
    ⟨some 7, .alloc 26, none⟩,
    ⟨none, .store 26 (.tmp 7) (.tmp 19), none⟩]
def q73_5 : SCode := .draw [⟨some 20, .load 26 (.tmp 5), none⟩,
    ⟨some 21, .load 26 (.tmp 7), none⟩,
    ⟨some 22, .load 26 (.tmp 7), none⟩,
    ⟨some 23, .call { callee := .value (.func 72), args := #[.tmp 21, .tmp 22], argTypes := #[26, 26] }, none⟩,
    ⟨some 24, .call { callee := .value (.func 71), args := #[.tmp 20, .const (.int .i64 (-1)), .tmp 23], argTypes := #[26, 3, 26] }, none⟩,
    ⟨none, .store 26 (.tmp 5) (.tmp 24), none⟩]
   [[], [], [], [1, 2], [0, 3, 3], [4, 4, 0, 1, 2, 3, 4]]
@[reducible] def q73_6 : SCode := .region [⟨some 25, .binOp .add 3 (.tmp 16) (.const (.int .i64 1)) 3, none⟩,
    ⟨some 16, .move (.tmp 25), none⟩]
def l73_0 : SCode := (.seq q73_3 (.seq (.cond (.tmp 17) .skip (.exit 0)) (.seq (.block 1 (.seq q73_4 q73_5)) q73_6)))
@[reducible] def q73_7 : SCode := .region [⟨some 26, .load 26 (.tmp 5), none⟩,
    ⟨none, .store 26 (.tmp 4) (.tmp 26), none⟩]
def s73 : SCode := (.seq q73_0 (.seq q73_1 (.seq (.seq q73_2 (.block 0 (.loop l73_0))) (.seq q73_7 .ret))))
theorem s73_strip : stripC (bodyOf Try.f73) = s73 := by kernel_rfl
theorem s73_ok : codeOK 27 (bodyOf Try.f73) = true := by kernel_rfl
/-! 105: planchet bets.every[planchet api.Frac] -/
@[reducible] def q105_0 : SCode := .region [⟨some 3, .box 35 (.tmp 1), none⟩,
    ⟨some 4, .assign (.const (.bool false)), none⟩]
@[reducible] def q105_1 : SCode := .region [⟨some 5, .move (.tmp 0), none⟩,
    ⟨some 6, .makeFunc (.func 117) #[] #[.tmp 3], none⟩,
    ⟨some 7, .call { callee := .value (.func 101), args := #[.tmp 5, .tmp 6], argTypes := #[47, 35] }, none⟩,
    ⟨some 8, .unOp .not 4 (.tmp 7), none⟩,
    ⟨some 4, .assign (.tmp 8), none⟩]
def s105 : SCode := (.seq q105_0 (.seq q105_1 .ret))
theorem s105_strip : stripC (bodyOf Try.f105) = s105 := by kernel_rfl
theorem s105_ok : codeOK 9 (bodyOf Try.f105) = true := by kernel_rfl
/-! 106: planchet bets.isForecast$1 -/
@[reducible] def q106_0 : SCode := .region [⟨some 1, .box 26 (.tmp 0), none⟩,
    ⟨some 2, .assign (.const (.bool false)), none⟩]
@[reducible] def q106_1 : SCode := .region [⟨some 3, .load 26 (.tmp 1), none⟩,
    ⟨some 4, .call { callee := .value (.func 107), args := #[.tmp 3, .const (.int .i64 60)], argTypes := #[26, 3] }, none⟩,
    ⟨some 2, .assign (.tmp 4), none⟩]
def s106 : SCode := (.seq q106_0 (.seq q106_1 .ret))
theorem s106_strip : stripC (bodyOf Try.f106) = s106 := by kernel_rfl
theorem s106_ok : codeOK 5 (bodyOf Try.f106) = true := by kernel_rfl
/-! 117: planchet bets.every[planchet api.Frac]$1 -/
@[reducible] def q117_0 : SCode := .region [⟨some 2, .box 26 (.tmp 0), none⟩,
    ⟨some 3, .assign (.const (.bool false)), none⟩]
@[reducible] def q117_1 : SCode := .region [⟨some 4, .load 35 (.tmp 1), none⟩,
    ⟨some 5, .load 26 (.tmp 2), none⟩,
    ⟨some 6, .call { callee := .value (.tmp 4), args := #[.tmp 5], argTypes := #[26] }, none⟩,
    ⟨some 7, .unOp .not 4 (.tmp 6), none⟩,
    ⟨some 3, .assign (.tmp 7), none⟩]
def s117 : SCode := (.seq q117_0 (.seq q117_1 .ret))
theorem s117_strip : stripC (bodyOf Try.f117) = s117 := by kernel_rfl
theorem s117_ok : codeOK 8 (bodyOf Try.f117) = true := by kernel_rfl
/-! 116: slices.IndexFunc[[]planchet api.Frac,planchet api.Frac] -/
@[reducible] def q116_0 : SCode := .region [⟨some 4, .assign (.const (.int .i64 0)), none⟩]
@[reducible] def q116_1 : SCode := .region [⟨some 6, .move (.tmp 0), none⟩,
    ⟨some 7, .call { callee := .builtin .len, args := #[.tmp 6], argTypes := #[47] }, none⟩,
    ⟨some 8, .move (.const (.int .i64 0)), none⟩]
@[reducible] def q116_2 : SCode := .region [⟨some 9, .binOp .lss 3 (.tmp 8) (.tmp 7) 3, none⟩]
@[reducible] def q116_3 : SCode := .region [⟨some 10, .move (.tmp 8), none⟩,
    ⟨some 5, .assign (.tmp 10), none⟩]
@[reducible] def q116_4 : SCode := .region [⟨some 11, .move (.tmp 1), none⟩,
    ⟨some 12, .move (.tmp 0), none⟩,
    ⟨some 13, .move (.tmp 5), none⟩,
    ⟨some 14, .indexAddr 47 (.tmp 12) (.tmp 13), none⟩,
    ⟨some 15, .load 26 (.tmp 14), none⟩,
    ⟨some 16, .call { callee := .value (.tmp 11), args := #[.tmp 15], argTypes := #[26] }, none⟩]
@[reducible] def q116_5 : SCode := .region [⟨some 17, .move (.tmp 5), none⟩,
    ⟨some 4, .assign (.tmp 17), none⟩]
@[reducible] def q116_6 : SCode := .region [⟨some 18, .binOp .add 3 (.tmp 8) (.const (.int .i64 1)) 3, none⟩,
    ⟨some 8, .move (.tmp 18), none⟩]
def l116_0 : SCode := (.seq q116_2 (.seq (.cond (.tmp 9) .skip (.exit 0)) (.seq (.block 1 (.seq q116_3 (.seq q116_4 (.cond (.tmp 16) (.seq q116_5 .ret) .skip)))) q116_6)))
@[reducible] def q116_7 : SCode := .region [⟨some 4, .assign (.const (.int .i64 (-1))), none⟩]
def s116 : SCode := (.seq q116_0 (.seq (.seq q116_1 (.block 0 (.loop l116_0))) (.seq q116_7 .ret)))
theorem s116_strip : stripC (bodyOf Try.f116) = s116 := by kernel_rfl
theorem s116_ok : codeOK 19 (bodyOf Try.f116) = true := by kernel_rfl
/-! 33: planchet planchetref09.Forecast -/
@[reducible] def q33_0 : SCode := .region [⟨some 2, .assign (.const (.bool false)), none⟩]
@[reducible] def q33_1 : SCode := .region [⟨some 5, .move (.tmp 0), none⟩,
    ⟨some 6, .call { callee := .builtin .len, args := #[.tmp 5], argTypes := #[47] }, none⟩,
    ⟨some 7, .binOp .lss 3 (.tmp 6) (.const (.int .i64 2)) 3, none⟩,
    ⟨some 8, .move (.tmp 7), none⟩,
    ⟨some 9, .move (.tmp 0), some (8, false)⟩,
    ⟨some 10, .call { callee := .builtin .len, args := #[.tmp 9], argTypes := #[47] }, some (8, false)⟩,
    ⟨some 11, .binOp .gtr 3 (.tmp 10) (.const (.int .i64 5)) 3, some (8, false)⟩,
    ⟨some 12, .pick (.tmp 8) (.const (.bool true)) (.tmp 11), none⟩,
    ⟨some 13, .move (.tmp 12), none⟩,
    ⟨some 14, .move (.tmp 0), some (13, false)⟩,
    ⟨some 15, .call { callee := .builtin .len, args := #[.tmp 14], argTypes := #[47] }, some (13, false)⟩,
    ⟨some 16, .move (.tmp 0), some (13, false)⟩,
    ⟨some 17, .call { callee := .value (.func 38), args := #[.tmp 15, .tmp 16], argTypes := #[3, 47] }, some (13, false)⟩,
    ⟨some 18, .unOp .not 4 (.tmp 17), some (13, false)⟩,
    ⟨some 19, .pick (.tmp 13) (.const (.bool true)) (.tmp 18), none⟩]
@[reducible] def q33_2 : SCode := .region [⟨some 2, .assign (.const (.bool false)), none⟩]
@[reducible] def q33_3 : SCode := .region [⟨some 20, .move (.tmp 0), none⟩,
    ⟨some 21, .call { callee := .builtin .len, args := #[.tmp 20], argTypes := #[47] }, none⟩,
    ⟨some 22, .move (.const (.int .i64 0)), none⟩]
@[reducible] def q33_4 : SCode := .region [⟨some 23, .binOp .lss 3 (.tmp 22) (.tmp 21) 3, none⟩]
@[reducible] def q33_5 : SCode := .region [⟨some 24, .indexAddr 47 (.tmp 20) (.tmp 22), none⟩,
    ⟨some 25, .load 26 (.tmp 24), none⟩,
    ⟨some 4, .alloc 26, none⟩,
    ⟨none, .store 26 (.tmp 4) (.tmp 25), none⟩]
@[reducible] def q33_6 : SCode := .region [⟨some 26, .fieldAddr 26 (.tmp 4) 1, none⟩,
    ⟨some 27, .load 3 (.tmp 26), none⟩,
    ⟨some 28, .binOp .gtr 3 (.tmp 27) (.const (.int .i64 60)) 3, none⟩]
@[reducible] def q33_7 : SCode := .region [⟨some 2, .assign (.const (.bool false)), none⟩]
@[reducible] def q33_8 : SCode := .region [⟨some 29, .binOp .add 3 (.tmp 22) (.const (.int .i64 1)) 3, none⟩,
    ⟨some 22, .move (.tmp 29), none⟩]
def l33_0 : SCode := (.seq q33_4 (.seq (.cond (.tmp 23) .skip (.exit 0)) (.seq (.block 1 (.seq q33_5 (.seq q33_6 (.cond (.tmp 28) (.seq q33_7 .ret) .skip)))) q33_8)))
@[reducible] def q33_9 : SCode := .region [⟨some 30, .move (.tmp 0), none⟩,
    ⟨some 31, .move (.tmp 0), none⟩,
    ⟨some 32, .call { callee := .builtin .len, args := #[.tmp 31], argTypes := #[47] }, none⟩,
    ⟨some 33, .binOp .shl 3 (.const (.int .i64 1)) (.tmp 32) 3, none⟩,
    ⟨some 34, .binOp .sub 3 (.tmp 33) (.const (.int .i64 1)) 3, none⟩,
    ⟨some 35, .call { callee := .value (.func 74), args := #[.tmp 30, .tmp 34], argTypes := #[47, 3] }, none⟩,
    ⟨some 36, .move (.tmp 0), none⟩,
    ⟨some 37, .call { callee := .value (.func 34), args := #[.tmp 36], argTypes := #[47] }, none⟩,
    ⟨some 38, .binOp .eql 3 (.tmp 35) (.tmp 37) 3, none⟩,
    ⟨some 2, .assign (.tmp 38), none⟩]
def s33 : SCode := (.seq q33_0 (.seq (.seq q33_1 (.cond (.tmp 19) (.seq q33_2 .ret) .skip)) (.seq (.seq q33_3 (.block 0 (.loop l33_0))) (.seq q33_9 .ret))))
theorem s33_strip : stripC (bodyOf Try.f33) = s33 := by kernel_rfl
theorem s33_ok : codeOK 39 (bodyOf Try.f33) = true := by kernel_rfl
/-! 34: planchet planchetref09.Multiple -/
@[reducible] def q34_0 : SCode := .region [⟨some 2, .assign (.const (.int .i64 0)), none⟩]
@[reducible] def q34_1 : SCode := .region [⟨some 3, .assign (.const (.int .i64 1)), none⟩]
@[reducible] def q34_2 : SCode := .region [⟨some 8, .move (.tmp 0), none⟩,
    ⟨some 9, .call { callee := .builtin .len, args := #[.tmp 8], argTypes := #[47] }, none⟩,
    ⟨some 10, .move (.const (.int .i64 0)), none⟩]
@[reducible] def q34_3 : SCode := .region [⟨some 11, .binOp .lss 3 (.tmp 10) (.tmp 9) 3, none⟩]
@[reducible] def q34_4 : SCode := .region [⟨some 12, .indexAddr 47 (.tmp 8) (.tmp 10), none⟩,
    ⟨some 13, .load 26 (.tmp 12), none⟩,
    ⟨some 5, .alloc 26, none⟩,
    ⟨none, .store 26 (.tmp 5) (.tmp 13), none⟩]
def q34_5 : SCode := .draw [⟨some 14, .fieldAddr 26 (.tmp 5) 1, none⟩,
    ⟨some 15, .load 3 (.tmp 14), none⟩,
    ⟨some 16, .binOp .lss 3 (.tmp 15) (.const (.int .i64 1)) 3, none⟩,
    ⟨some 17, .move (.tmp 16), none⟩,
    ⟨some 18, .fieldAddr 26 (.tmp 5) 1, some (17, false)⟩,
    ⟨some 19, .load 3 (.tmp 18), some (17, false)⟩,
    ⟨some 20, .binOp .gtr 3 (.tmp 19) (.const (.int .i64 10000000000)) 3, some (17, false)⟩,
    ⟨some 21, .pick (.tmp 17) (.const (.bool true)) (.tmp 20), none⟩,
    ⟨some 22, .move (.tmp 21), none⟩,
    ⟨some 23, .fieldAddr 26 (.tmp 5) 0, some (22, false)⟩,
    ⟨some 24, .load 3 (.tmp 23), some (22, false)⟩,
    ⟨some 25, .binOp .lss 3 (.tmp 24) (.const (.int .i64 0)) 3, some (22, false)⟩,
    ⟨some 26, .pick (.tmp 22) (.const (.bool true)) (.tmp 25), none⟩,
    ⟨some 27, .move (.tmp 26), none⟩,
    ⟨some 28, .fieldAddr 26 (.tmp 5) 0, some (27, false)⟩,
    ⟨some 29, .load 3 (.tmp 28), some (27, false)⟩,
    ⟨some 30, .fieldAddr 26 (.tmp 5) 1, some (27, false)⟩,
    ⟨some 31, .load 3 (.tmp 30), some (27, false)⟩,
    ⟨some 32, .call { callee := .value (.func 68), args := #[.tmp 29, .tmp 31], argTypes := #[3, 3] }, some (27, false)⟩,
    ⟨some 33, .load 26 (.tmp 5), some (27, false)⟩,
    ⟨some 34, .binOp .neq 26 (.tmp 32) (.tmp 33) 26, some (27, false)⟩,
    ⟨some 35, .pick (.tmp 27) (.const (.bool true)) (.tmp 34), none⟩]
   [[], [0], [1], [2], [3], [4, 3], [5, 3], [3, 6], [7, 3], [8], [9, 8], [10, 8], [8, 11], [12, 8], [13], [14, 13], [13], [16, 13], [15, 17, 13, 13], [13], [18, 19, 13], [13, 20]]
@[reducible] def q34_6 : SCode := .region [⟨some 2, .assign (.const (.int .i64 0)), none⟩]
def q34_7 : SCode := .draw [⟨some 36, .move (.tmp 3), none⟩,
    ⟨some 37, .fieldAddr 26 (.tmp 5) 1, none⟩,
    ⟨some 38, .load 3 (.tmp 37), none⟩,
    ⟨some 6, .assign (.tmp 36), none⟩,
    ⟨some 7, .assign (.tmp 38), none⟩]
   [[], [], [1], [0, 0], [2, 3, 0, 1, 2, 3]]
@[reducible] def q34_8 : SCode := .region [⟨some 39, .move (.tmp 7), none⟩,
    ⟨some 40, .binOp .neq 3 (.tmp 39) (.const (.int .i64 0)) 3, none⟩]
def q34_9 : SCode := .draw [⟨some 41, .move (.tmp 7), none⟩,
    ⟨some 42, .move (.tmp 6), none⟩,
    ⟨some 43, .move (.tmp 7), none⟩,
    ⟨some 44, .binOp .rem 3 (.tmp 42) (.tmp 43) 3, none⟩,
    ⟨some 6, .assign (.tmp 41), none⟩,
    ⟨some 7, .assign (.tmp 44), none⟩]
   [[], [], [], [1, 2], [0, 0, 1], [3, 4, 0, 1, 2, 3, 4]]
def l34_0 : SCode := (.seq (.seq q34_8 (.cond (.tmp 40) .skip (.exit 2))) (.block 3 q34_9))
def q34_10 : SCode := .draw [⟨some 45, .move (.tmp 3), none⟩,
    ⟨some 46, .move (.tmp 6), none⟩,
    ⟨some 47, .binOp .quo 3 (.tmp 45) (.tmp 46) 3, none⟩,
    ⟨some 48, .fieldAddr 26 (.tmp 5) 1, none⟩,
    ⟨some 49, .load 3 (.tmp 48), none⟩,
    ⟨some 50, .binOp .quo 3 (.const (.int .i64 10000000000)) (.tmp 49) 3, none⟩,
    ⟨some 51, .binOp .gtr 3 (.tmp 47) (.tmp 50) 3, none⟩]
   [[], [], [0, 1], [], [3], [4], [2, 5]]
@[reducible] def q34_11 : SCode := .region [⟨some 2, .assign (.const (.int .i64 0)), none⟩]
def q34_12 : SCode := .draw [⟨some 52, .move (.tmp 3), none⟩,
    ⟨some 53, .move (.tmp 6), none⟩,
    ⟨some 54, .binOp .quo 3 (.tmp 52) (.tmp 53) 3, none⟩,
    ⟨some 55, .fieldAddr 26 (.tmp 5) 1, none⟩,
    ⟨some 56, .load 3 (.tmp 55), none⟩,
    ⟨some 57, .binOp .mul 3 (.tmp 54) (.tmp 56) 3, none⟩,
    ⟨some 3, .assign (.tmp 57), none⟩]
   [[], [], [0, 1], [], [3], [2, 4], [5, 0, 1, 2, 3, 4, 5]]
@[reducible] def q34_13 : SCode := .region [⟨some 58, .binOp .add 3 (.tmp 10) (.const (.int .i64 1)) 3, none⟩,
    ⟨some 10, .move (.tmp 58), none⟩]
def l34_1 : SCode := (.seq q34_3 (.seq (.cond (.tmp 11) .skip (.exit 0)) (.seq (.block 1 (.seq q34_4 (.seq (.seq q34_5 (.cond (.tmp 35) (.seq q34_6 .ret) .skip)) (.seq q34_7 (.seq (.block 2 (.loop l34_0)) (.seq (.seq q34_10 (.cond (.tmp 51) (.seq q34_11 .ret) .skip)) q34_12)))))) q34_13)))
@[reducible] def q34_14 : SCode := .region [⟨some 59, .move (.tmp 3), none⟩,
    ⟨some 2, .assign (.tmp 59), none⟩]
def s34 : SCode := (.seq q34_0 (.seq q34_1 (.seq (.seq q34_2 (.block 0 (.loop l34_1))) (.seq q34_14 .ret))))
theorem s34_strip : stripC (bodyOf Try.f34) = s34 := by kernel_rfl
theorem s34_ok : codeOK 60 (bodyOf Try.f34) = true := by kernel_rfl
/-! 38: planchet planchetref09.Chances -/
@[reducible] def q38_0 : SCode := .region [⟨some 4, .assign (.const (.bool false)), none⟩]
@[reducible] def q38_1 : SCode := .region [⟨some 7, .move (.tmp 1), none⟩,
    ⟨some 8, .call { callee := .builtin .len, args := #[.tmp 7], argTypes := #[47] }, none⟩,
    ⟨some 9, .move (.tmp 0), none⟩,
    ⟨some 10, .binOp .neq 3 (.tmp 8) (.tmp 9) 3, none⟩,
    ⟨some 11, .move (.tmp 10), none⟩,
    ⟨some 12, .move (.tmp 1), some (11, false)⟩,
    ⟨some 13, .call { callee := .value (.func 34), args := #[.tmp 12], argTypes := #[47] }, some (11, false)⟩,
    ⟨some 14, .binOp .eql 3 (.tmp 13) (.const (.int .i64 0)) 3, some (11, false)⟩,
    ⟨some 15, .pick (.tmp 11) (.const (.bool true)) (.tmp 14), none⟩]
@[reducible] def q38_2 : SCode := .region [⟨some 4, .assign (.const (.bool false)), none⟩]
@[reducible] def q38_3 : SCode := .region [⟨some 16, .move (.tmp 1), none⟩,
    ⟨some 17, .call { callee := .builtin .len, args := #[.tmp 16], argTypes := #[47] }, none⟩,
    ⟨some 18, .move (.const (.int .i64 0)), none⟩]
@[reducible] def q38_4 : SCode := .region [⟨some 19, .binOp .lss 3 (.tmp 18) (.tmp 17) 3, none⟩]
@[reducible] def q38_5 : SCode := .region [⟨some 20, .indexAddr 47 (.tmp 16) (.tmp 18), none⟩,
    ⟨some 21, .load 26 (.tmp 20), none⟩,
    ⟨some 6, .alloc 26, none⟩,
    ⟨none, .store 26 (.tmp 6) (.tmp 21), none⟩]
@[reducible] def q38_6 : SCode := .region [⟨some 22, .fieldAddr 26 (.tmp 6) 0, none⟩,
    ⟨some 23, .load 3 (.tmp 22), none⟩,
    ⟨some 24, .fieldAddr 26 (.tmp 6) 1, none⟩,
    ⟨some 25, .load 3 (.tmp 24), none⟩,
    ⟨some 26, .binOp .gtr 3 (.tmp 23) (.tmp 25) 3, none⟩]
@[reducible] def q38_7 : SCode := .region [⟨some 4, .assign (.const (.bool false)), none⟩]
@[reducible] def q38_8 : SCode := .region [⟨some 27, .binOp .add 3 (.tmp 18) (.const (.int .i64 1)) 3, none⟩,
    ⟨some 18, .move (.tmp 27), none⟩]
def l38_0 : SCode := (.seq q38_4 (.seq (.cond (.tmp 19) .skip (.exit 0)) (.seq (.block 1 (.seq q38_5 (.seq q38_6 (.cond (.tmp 26) (.seq q38_7 .ret) .skip)))) q38_8)))
@[reducible] def q38_9 : SCode := .region [⟨some 4, .assign (.const (.bool true)), none⟩]
def s38 : SCode := (.seq q38_0 (.seq (.seq q38_1 (.cond (.tmp 15) (.seq q38_2 .ret) .skip)) (.seq (.seq q38_3 (.block 0 (.loop l38_0))) (.seq q38_9 .ret))))
theorem s38_strip : stripC (bodyOf Try.f38) = s38 := by kernel_rfl
theorem s38_ok : codeOK 28 (bodyOf Try.f38) = true := by kernel_rfl
/-! 74: planchet planchetref09.part -/
@[reducible] def q74_0 : SCode := .region [⟨some 4, .assign (.const (.int .i64 0)), none⟩]
@[reducible] def q74_1 : SCode := .region [⟨some 9, .move (.tmp 0), none⟩,
    ⟨some 10, .call { callee := .value (.func 34), args := #[.tmp 9], argTypes := #[47] }, none⟩,
    ⟨some 5, .assign (.tmp 10), none⟩,
    ⟨some 6, .assign (.const (.int .i64 0)), none⟩]
@[reducible] def q74_2 : SCode := .region [⟨some 11, .move (.tmp 0), none⟩,
    ⟨some 12, .call { callee := .builtin .len, args := #[.tmp 11], argTypes := #[47] }, none⟩,
    ⟨some 13, .move (.const (.int .i64 0)), none⟩]
@[reducible] def q74_3 : SCode := .region [⟨some 14, .binOp .lss 3 (.tmp 13) (.tmp 12) 3, none⟩]
@[reducible] def q74_4 : SCode := .region [⟨some 15, .move (.tmp 13), none⟩,
    ⟨some 16, .indexAddr 47 (.tmp 11) (.tmp 13), none⟩,
    ⟨some 17, .load 26 (.tmp 16), none⟩,
    ⟨some 8, .alloc 26, none⟩,
    ⟨some 7, .assign (.tmp 15), none⟩,
    ⟨none, .store 26 (.tmp 8) (.tmp 17), none⟩]
@[reducible] def q74_5 : SCode := .region [⟨some 18, .move (.tmp 1), none⟩,
    ⟨some 19, .move (.tmp 7), none⟩,
    ⟨some 20, .binOp .shr 3 (.tmp 18) (.tmp 19) 3, none⟩,
    ⟨some 21, .binOp .and 3 (.tmp 20) (.const (.int .i64 1)) 3, none⟩,
    ⟨some 22, .binOp .eql 3 (.tmp 21) (.const (.int .i64 1)) 3, none⟩]
def q74_6 : SCode := .draw [⟨some 23, .move (.tmp 6), none⟩,
    ⟨some 24, .move (.tmp 5), none⟩,
    ⟨some 25, .fieldAddr 26 (.tmp 8) 1, none⟩,
    ⟨some 26, .load 3 (.tmp 25), none⟩,
    ⟨some 27, .binOp .quo 3 (.tmp 24) (.tmp 26) 3, none⟩,
    ⟨some 28, .fieldAddr 26 (.tmp 8) 0, none⟩,
    ⟨some 29, .load 3 (.tmp 28), none⟩,
    ⟨some 30, .binOp .mul 3 (.tmp 27) (.tmp 29) 3, none⟩,
    ⟨some 31, .binOp .add 3 (.tmp 23) (.tmp 30) 3, none⟩,
    ⟨some 6, .assign (.tmp 31), none⟩]
   [[], [], [], [2], [1, 3], [], [5], [4, 6], [0, 7], [8, 0, 1, 2, 3, 4, 5, 6, 7, 8]]
@[reducible] def q74_7 : SCode := .region [⟨some 32, .binOp .add 3 (.tmp 13) (.const (.int .i64 1)) 3, none⟩,
    ⟨some 13, .move (.tmp 32), none⟩]
def l74_0 : SCode := (.seq q74_3 (.seq (.cond (.tmp 14) .skip (.exit 0)) (.seq (.block 1 (.seq q74_4 (.seq q74_5 (.cond (.tmp 22) q74_6 .skip)))) q74_7)))
@[reducible] def q74_8 : SCode := .region [⟨some 33, .move (.tmp 6), none⟩,
    ⟨some 4, .assign (.tmp 33), none⟩]
def s74 : SCode := (.seq q74_0 (.seq q74_1 (.seq (.seq q74_2 (.block 0 (.loop l74_0))) (.seq q74_8 .ret))))
theorem s74_strip : stripC (bodyOf Try.f74) = s74 := by kernel_rfl
theorem s74_ok : codeOK 34 (bodyOf Try.f74) = true := by kernel_rfl
end Go.Proofs.Try.Am

namespace Go.Proofs.Try.Am
open Go.Am Bq
set_option maxRecDepth 100000
set_option maxHeartbeats 1000000

/-- Fractions within the range of ints. -/
def InR (ps : List (Int × Int)) : Prop := ∀ p ∈ ps, (-(2 ^ 63) ≤ p.1 ∧ p.1 < 2 ^ 63) ∧ -(2 ^ 63) ≤ p.2 ∧ p.2 < 2 ^ 63
theorem drop_getD {ps : List (Int × Int)} {k : Nat} (hk : k < ps.length) : ps.drop k = ps.getD k (0, 0) :: ps.drop (k + 1) := by
  rw [List.getD, List.getElem?_eq_getElem hk]; exact List.drop_eq_getElem_cons hk
theorem mulTo_no {p : Int × Int} {ps : List (Int × Int)} {m : Nat} (h : okP p = false) : mulTo (p :: ps) m = 0 := by rw [mulTo, h]; simp
theorem neq_frac {x y : Int} (h1 : 1 ≤ y) : (([(Rat.divInt x y).num, ((Rat.divInt x y).den : Int)] : List Int) != [x, y]) = !(Nat.gcd x.natAbs y.natAbs == 1) := by
  obtain ⟨n, rfl⟩ : ∃ n : Nat, y = n := ⟨y.toNat, by omega⟩
  have hn : 0 < n := by omega
  obtain ⟨t1, t2⟩ := terms (x := x) hn
  rw [bne, Int.natAbs_natCast]
  congr 1
  rw [Bool.eq_iff_iff, beq_iff_eq, beq_iff_eq, List.cons.injEq, List.cons.injEq]
  constructor
  · rintro ⟨_, h3, _⟩
    have h4 : n / Nat.gcd x.natAbs n = n := by rw [← t2] at h3; omega
    rcases Nat.lt_or_ge 1 (Nat.gcd x.natAbs n) with h5 | h5
    · have := Nat.div_lt_self hn h5; omega
    · have := Nat.gcd_pos_of_pos_right x.natAbs hn; omega
  · intro h3
    rw [← t1, ← t2, h3]; simp

/-- Whether what is common is too great. -/
theorem lcm_gt {m n : Nat} (hm : 0 < m) (hn : 0 < n) : (10000000000 / n < m / Nat.gcd m n) ↔ 10000000000 < Nat.lcm m n := by
  have e : Nat.lcm m n = m / Nat.gcd m n * n := by rw [Nat.lcm, Nat.div_mul_right_comm (Nat.gcd_dvd_left _ _)]
  rw [e]; exact Nat.div_lt_iff_lt_mul hn
theorem s34_callW [Tabs Try.prog] {args : List Value} {h : Heap} {Q : Value → Heap → Prop} (hsz : args.length ≤ 60) (hk : AWS Try.prog 60 s34 (aPost Try.prog [.tmp 2] Q) (argEnv 0 args) h) : ACall Try.prog 34 args h Q :=
  acall_w Try.func34 rfl (enters_of Try.func34 (by kernel_rfl) rfl) rfl rfl (by decide) s34_strip s34_ok hsz hk
theorem mult_call [Tabs prog] {h : Heap} {v : Value} {ps : List (Int × Int)} (hv : PairSl h v ps) (hl : ps.length < 9223372036854775808) (hx : InR ps) : APure prog 34 [v] h (vint (mult ps : Nat)) := by
  refine ACall.forget (Low.int _ _) ?_
  refine s34_callW (by simp) ?_
  simp only [s34]
  refine aws_cut fun N1 hN1 => ?_
  simp (maxSteps := 2000000) only [s34, ↓aw_region, ↓aw_skip, ↓aw_seq, ↓aw_block, ↓aw_exit, ↓aw_ret, ↓sops_nil, ↓sops_go, ↓dops_nil, ↓dopsX_nil, ↓dopsR_nil, ↓vdn, vup, extr_20, extr_21, extr_30, extr_31, extr_32, List.map_cons, List.map_nil, cond_true, cond_false, aop, aThen, aBlock, argEnv, ev, sput, sputO, binK, binI, unK, builtinK, pickK, Nat.reduceBEq, Nat.reduceAdd, Int.reduceBEq, Int.reduceBNe, Int.reduceLT, aPost, resK, tup, tyf]
  refine hN1 [(0, v), (2, .int .i64 0)] _ _ ?_ (by simp (maxSteps := 2000000) only [↓aw_region, ↓aw_skip, ↓aw_seq, ↓aw_block, ↓aw_exit, ↓aw_ret, ↓sops_nil, ↓sops_go, ↓dops_nil, ↓dopsX_nil, ↓dopsR_nil, ↓vdn, vup, extr_20, extr_21, extr_30, extr_31, extr_32, List.map_cons, List.map_nil, cond_true, cond_false, aop, aThen, aBlock, argEnv, ev, sput, sputO, binK, binI, unK, builtinK, pickK, Nat.reduceBEq, Nat.reduceAdd, Int.reduceBEq, Int.reduceBNe, Int.reduceLT, aPost, resK, tup, tyf])
  clear hN1
  try clear N1
  refine aws_cut fun N2 hN2 => ?_
  simp (maxSteps := 2000000) only [s34, ↓aw_region, ↓aw_skip, ↓aw_seq, ↓aw_block, ↓aw_exit, ↓aw_ret, ↓sops_nil, ↓sops_go, ↓dops_nil, ↓dopsX_nil, ↓dopsR_nil, ↓vdn, vup, extr_20, extr_21, extr_30, extr_31, extr_32, List.map_cons, List.map_nil, cond_true, cond_false, aop, aThen, aBlock, argEnv, ev, sput, sputO, binK, binI, unK, builtinK, pickK, Nat.reduceBEq, Nat.reduceAdd, Int.reduceBEq, Int.reduceBNe, Int.reduceLT, aPost, resK, tup, tyf]
  refine hN2 [(0, v), (2, .int .i64 0), (3, .int .i64 1)] _ _ ?_ (by simp (maxSteps := 2000000) only [↓aw_region, ↓aw_skip, ↓aw_seq, ↓aw_block, ↓aw_exit, ↓aw_ret, ↓sops_nil, ↓sops_go, ↓dops_nil, ↓dopsX_nil, ↓dopsR_nil, ↓vdn, vup, extr_20, extr_21, extr_30, extr_31, extr_32, List.map_cons, List.map_nil, cond_true, cond_false, aop, aThen, aBlock, argEnv, ev, sput, sputO, binK, binI, unK, builtinK, pickK, Nat.reduceBEq, Nat.reduceAdd, Int.reduceBEq, Int.reduceBNe, Int.reduceLT, aPost, resK, tup, tyf])
  clear hN2
  try clear N2
  refine aws_cutW fun M hM => ?_
  refine aws_cut fun N3 hN3 => ?_
  simp (maxSteps := 2000000) only [s34, ↓aw_region, ↓aw_skip, ↓aw_seq, ↓aw_block, ↓aw_exit, ↓aw_ret, ↓sops_nil, ↓sops_go, ↓dops_nil, ↓dopsX_nil, ↓dopsR_nil, ↓vdn, vup, extr_20, extr_21, extr_30, extr_31, extr_32, List.map_cons, List.map_nil, cond_true, cond_false, aop, aThen, aBlock, argEnv, ev, sput, sputO, binK, binI, unK, builtinK, pickK, Nat.reduceBEq, Nat.reduceAdd, Int.reduceBEq, Int.reduceBNe, Int.reduceLT, aPost, resK, tup, tyf, hv.len]
  refine hN3 [(0, v), (2, .int .i64 0), (3, .int .i64 1), (8, v), (9, vint ps.length), (10, .int .i64 0)] _ _ ?_ (by simp (maxSteps := 2000000) only [↓aw_region, ↓aw_skip, ↓aw_seq, ↓aw_block, ↓aw_exit, ↓aw_ret, ↓sops_nil, ↓sops_go, ↓dops_nil, ↓dopsX_nil, ↓dopsR_nil, ↓vdn, vup, extr_20, extr_21, extr_30, extr_31, extr_32, List.map_cons, List.map_nil, cond_true, cond_false, aop, aThen, aBlock, argEnv, ev, sput, sputO, binK, binI, unK, builtinK, pickK, Nat.reduceBEq, Nat.reduceAdd, Int.reduceBEq, Int.reduceBNe, Int.reduceLT, aPost, resK, tup, tyf])
  clear hN3
  try clear N3
  refine aws_block ?_
  refine aws_hide fun Q hQ => ?_
  refine aw_loopW (γ := Nat × Nat × Heap) (fun s => s.1 ≤ ps.length ∧ 0 < s.2.1 ∧ s.2.1 ≤ 10000000000 ∧ mulTo (ps.drop s.1) s.2.1 = mult ps ∧ Ext (fun _ => False) h s.2.2)
    (fun s => ([(0, v), (2, .int .i64 0), (3, vint (s.2.1 : Nat)), (8, v), (9, vint ps.length), (10, vint (s.1 : Nat))], s.2.2)) (fun s => ps.length - s.1) (0, 1, h) ⟨Nat.zero_le _, Nat.one_pos, (by decide : (1 : Nat) ≤ 10000000000), rfl, Ext.refl _ _⟩ (by simp (maxSteps := 2000000) only [↓aw_region, ↓aw_skip, ↓aw_seq, ↓aw_block, ↓aw_exit, ↓aw_ret, ↓sops_nil, ↓sops_go, ↓dops_nil, ↓dopsX_nil, ↓dopsR_nil, ↓vdn, vup, extr_20, extr_21, extr_30, extr_31, extr_32, List.map_cons, List.map_nil, cond_true, cond_false, aop, aThen, aBlock, argEnv, ev, sput, sputO, binK, binI, unK, builtinK, pickK, Nat.reduceBEq, Nat.reduceAdd, Int.reduceBEq, Int.reduceBNe, Int.reduceLT, aPost, resK, tup, tyf, Int.natCast_zero, Int.natCast_one]) rfl ?_
  rintro ⟨k, m, hp⟩ ⟨hk, hm0, hm, hmul, hE⟩
  simp only at hk hm0 hm hmul hE
  refine aws_hide fun Q2 hQ2 => ?_
  simp only [l34_1]
  by_cases hin : (k : Int) < ps.length
  · have hk' : k < ps.length := by omega
    have hvp := hv.ext hE
    obtain ⟨⟨x, y⟩, hxy⟩ : ∃ p, ps.getD k (0, 0) = p := ⟨_, rfl⟩
    have hmem : (x, y) ∈ ps := hxy ▸ getD_mem hk'
    have hr := hx _ hmem
    simp only at hr
    have hdr := drop_getD hk'
    rw [hxy] at hdr
    rw [hdr] at hmul
    refine aws_cut fun N4 hN4 => ?_
    simp (maxSteps := 2000000) only [s34, ↓aw_region, ↓aw_skip, ↓aw_seq, ↓aw_block, ↓aw_exit, ↓aw_ret, ↓sops_nil, ↓sops_go, ↓dops_nil, ↓dopsX_nil, ↓dopsR_nil, ↓vdn, vup, extr_20, extr_21, extr_30, extr_31, extr_32, List.map_cons, List.map_nil, cond_true, cond_false, aop, aThen, aBlock, argEnv, ev, sput, sputO, binK, binI, unK, builtinK, pickK, Nat.reduceBEq, Nat.reduceAdd, Int.reduceBEq, Int.reduceBNe, Int.reduceLT, aPost, resK, tup, tyf, hin]
    refine hN4 [(0, v), (2, .int .i64 0), (3, vint (m : Nat)), (8, v), (9, vint ps.length), (10, vint (k : Nat)), (11, .bool true)] _ _ ?_ (by simp (maxSteps := 2000000) only [↓aw_region, ↓aw_skip, ↓aw_seq, ↓aw_block, ↓aw_exit, ↓aw_ret, ↓sops_nil, ↓sops_go, ↓dops_nil, ↓dopsX_nil, ↓dopsR_nil, ↓vdn, vup, extr_20, extr_21, extr_30, extr_31, extr_32, List.map_cons, List.map_nil, cond_true, cond_false, aop, aThen, aBlock, argEnv, ev, sput, sputO, binK, binI, unK, builtinK, pickK, Nat.reduceBEq, Nat.reduceAdd, Int.reduceBEq, Int.reduceBNe, Int.reduceLT, aPost, resK, tup, tyf])
    clear hN4
    try clear N4
    refine aws_cut fun N5 hN5 => ?_
    simp (maxSteps := 2000000) only [s34, ↓aw_region, ↓aw_skip, ↓aw_seq, ↓aw_block, ↓aw_exit, ↓aw_ret, ↓sops_nil, ↓sops_go, ↓dops_nil, ↓dopsX_nil, ↓dopsR_nil, ↓vdn, vup, extr_20, extr_21, extr_30, extr_31, extr_32, List.map_cons, List.map_nil, cond_true, cond_false, aop, aThen, aBlock, argEnv, ev, sput, sputO, binK, binI, unK, builtinK, pickK, Nat.reduceBEq, Nat.reduceAdd, Int.reduceBEq, Int.reduceBNe, Int.reduceLT, aPost, resK, tup, tyf]
    refine hN5 [(0, v), (2, .int .i64 0), (3, vint (m : Nat)), (8, v), (9, vint ps.length), (10, vint (k : Nat))] _ _ ?_ (by simp (maxSteps := 2000000) only [↓aw_region, ↓aw_skip, ↓aw_seq, ↓aw_block, ↓aw_exit, ↓aw_ret, ↓sops_nil, ↓sops_go, ↓dops_nil, ↓dopsX_nil, ↓dopsR_nil, ↓vdn, vup, extr_20, extr_21, extr_30, extr_31, extr_32, List.map_cons, List.map_nil, cond_true, cond_false, aop, aThen, aBlock, argEnv, ev, sput, sputO, binK, binI, unK, builtinK, pickK, Nat.reduceBEq, Nat.reduceAdd, Int.reduceBEq, Int.reduceBNe, Int.reduceLT, aPost, resK, tup, tyf])
    clear hN5
    try clear N5
    obtain ⟨H, hH⟩ : ∃ H, H = hp ++ [fC x y] := ⟨_, rfl⟩
    have c5 : H[hp.length]? = some (fC x y) := by rw [hH]; exact get_new _ _
    have hEH : Ext (fun _ => False) h H := by rw [hH]; exact hE.trans (Ext.app _ _ _)
    refine aws_cutW fun B hB => ?_
    refine aws_block ?_
    refine aws_cut fun N6 hN6 => ?_
    simp (maxSteps := 2000000) only [s34, ↓aw_region, ↓aw_skip, ↓aw_seq, ↓aw_block, ↓aw_exit, ↓aw_ret, ↓sops_nil, ↓sops_go, ↓dops_nil, ↓dopsX_nil, ↓dopsR_nil, ↓vdn, vup, extr_20, extr_21, extr_30, extr_31, extr_32, List.map_cons, List.map_nil, cond_true, cond_false, aop, aThen, aBlock, argEnv, ev, sput, sputO, binK, binI, unK, builtinK, pickK, Nat.reduceBEq, Nat.reduceAdd, Int.reduceBEq, Int.reduceBNe, Int.reduceLT, aPost, resK, tup, tyf, hvp.idx el_47 esz_26 hk', hvp.load shp_26 hk', hxy, allocK, newPtr, zero_26, storeF (get_new hp z0) rfl, set_new]
    rw [← hH]
    refine hN6 [(0, v), (2, .int .i64 0), (3, vint (m : Nat)), (5, .pointer (some ⟨hp.length, 0, none⟩)), (8, v), (9, vint ps.length), (10, vint (k : Nat))] _ _ ?_ (by simp (maxSteps := 2000000) only [↓aw_region, ↓aw_skip, ↓aw_seq, ↓aw_block, ↓aw_exit, ↓aw_ret, ↓sops_nil, ↓sops_go, ↓dops_nil, ↓dopsX_nil, ↓dopsR_nil, ↓vdn, vup, extr_20, extr_21, extr_30, extr_31, extr_32, List.map_cons, List.map_nil, cond_true, cond_false, aop, aThen, aBlock, argEnv, ev, sput, sputO, binK, binI, unK, builtinK, pickK, Nat.reduceBEq, Nat.reduceAdd, Int.reduceBEq, Int.reduceBNe, Int.reduceLT, aPost, resK, tup, tyf])
    clear hN6
    try clear N6
    have none0 : mult ps = 0 → ∀ e, sget e 2 = .int .i64 0 → Q2 .ret e H := by
      intro h0 e he
      refine hQ2 _ _ _ (hQ _ _ _ ?_)
      simp (maxSteps := 2000000) only [s34, ↓aw_region, ↓aw_skip, ↓aw_seq, ↓aw_block, ↓aw_exit, ↓aw_ret, ↓sops_nil, ↓sops_go, ↓dops_nil, ↓dopsX_nil, ↓dopsR_nil, ↓vdn, vup, extr_20, extr_21, extr_30, extr_31, extr_32, List.map_cons, List.map_nil, cond_true, cond_false, aop, aThen, aBlock, argEnv, ev, sput, sputO, binK, binI, unK, builtinK, pickK, Nat.reduceBEq, Nat.reduceAdd, Int.reduceBEq, Int.reduceBNe, Int.reduceLT, aPost, resK, tup, tyf, he, h0, Int.natCast_zero]
      exact hEH
    refine aws_cut fun C hC => ?_
    simp only [q34_5]
    refine aw_cut fun D hD => ?_
    refine aw_drawX [(18, 1)] (by kernel_rfl) (by kernel_rfl) (by kernel_rfl) (by kernel_rfl) ?_
    have bad : okP (x, y) = false → ∀ e, sget e 35 = .bool true → D e H := by
      intro hok e he
      have h0 : mult ps = 0 := by rw [← hmul, mulTo_no hok]
      refine hD _ _ ?_
      simp (maxSteps := 2000000) only [s34, ↓aw_region, ↓aw_skip, ↓aw_seq, ↓aw_block, ↓aw_exit, ↓aw_ret, ↓sops_nil, ↓sops_go, ↓dops_nil, ↓dopsX_nil, ↓dopsR_nil, ↓vdn, vup, extr_20, extr_21, extr_30, extr_31, extr_32, List.map_cons, List.map_nil, cond_true, cond_false, aop, aThen, aBlock, argEnv, ev, sput, sputO, binK, binI, unK, builtinK, pickK, Nat.reduceBEq, Nat.reduceAdd, Int.reduceBEq, Int.reduceBNe, Int.reduceLT, aPost, resK, tup, tyf, he]
      exact none0 h0 _ (by simp [sget_sput])
    by_cases h1 : y < 1
    · simp (maxSteps := 2000000) only [s34, ↓aw_region, ↓aw_skip, ↓aw_seq, ↓aw_block, ↓aw_exit, ↓aw_ret, ↓sops_nil, ↓sops_go, ↓dops_nil, ↓dopsX_nil, ↓dopsR_nil, ↓vdn, vup, extr_20, extr_21, extr_30, extr_31, extr_32, List.map_cons, List.map_nil, cond_true, cond_false, aop, aThen, aBlock, argEnv, ev, sput, sputO, binK, binI, unK, builtinK, pickK, Nat.reduceBEq, Nat.reduceAdd, Int.reduceBEq, Int.reduceBNe, Int.reduceLT, aPost, resK, tup, tyf, fA1, loadF1 c5, h1]
      exact bad (by simp [okP]; omega) _ rfl
    by_cases h2 : y > 10000000000
    · simp (maxSteps := 2000000) only [s34, ↓aw_region, ↓aw_skip, ↓aw_seq, ↓aw_block, ↓aw_exit, ↓aw_ret, ↓sops_nil, ↓sops_go, ↓dops_nil, ↓dopsX_nil, ↓dopsR_nil, ↓vdn, vup, extr_20, extr_21, extr_30, extr_31, extr_32, List.map_cons, List.map_nil, cond_true, cond_false, aop, aThen, aBlock, argEnv, ev, sput, sputO, binK, binI, unK, builtinK, pickK, Nat.reduceBEq, Nat.reduceAdd, Int.reduceBEq, Int.reduceBNe, Int.reduceLT, aPost, resK, tup, tyf, fA1, loadF1 c5, h1, h2]
      exact bad (by simp [okP]; omega) _ rfl
    by_cases h3 : x < 0
    · simp (maxSteps := 2000000) only [s34, ↓aw_region, ↓aw_skip, ↓aw_seq, ↓aw_block, ↓aw_exit, ↓aw_ret, ↓sops_nil, ↓sops_go, ↓dops_nil, ↓dopsX_nil, ↓dopsR_nil, ↓vdn, vup, extr_20, extr_21, extr_30, extr_31, extr_32, List.map_cons, List.map_nil, cond_true, cond_false, aop, aThen, aBlock, argEnv, ev, sput, sputO, binK, binI, unK, builtinK, pickK, Nat.reduceBEq, Nat.reduceAdd, Int.reduceBEq, Int.reduceBNe, Int.reduceLT, aPost, resK, tup, tyf, fA1, fA0, loadF1 c5, loadF0 c5, h1, h2, h3]
      exact bad (by simp [okP]; omega) _ rfl
    have rf := rfrac_call (h := H) (a := x) (b := y) (by omega) (by omega) (by omega)
    simp (maxSteps := 2000000) only [s34, ↓aw_region, ↓aw_skip, ↓aw_seq, ↓aw_block, ↓aw_exit, ↓aw_ret, ↓sops_nil, ↓sops_go, ↓dops_nil, ↓dopsX_nil, ↓dopsR_nil, ↓vdn, vup, extr_20, extr_21, extr_30, extr_31, extr_32, List.map_cons, List.map_nil, cond_true, cond_false, aop, aThen, aBlock, argEnv, ev, sput, sputO, binK, binI, unK, builtinK, pickK, Nat.reduceBEq, Nat.reduceAdd, Int.reduceBEq, Int.reduceBNe, Int.reduceLT, aPost, resK, tup, tyf, fA1, fA0, loadF1 c5, loadF0 c5, h1, h2, h3, callK, List.nil_append, List.append_nil, List.toList_toArray, List.cons_append]
    refine ⟨_, _, rf, rfl, ?_⟩
    simp (maxSteps := 2000000) only [s34, ↓aw_region, ↓aw_skip, ↓aw_seq, ↓aw_block, ↓aw_exit, ↓aw_ret, ↓sops_nil, ↓sops_go, ↓dops_nil, ↓dopsX_nil, ↓dopsR_nil, ↓vdn, vup, extr_20, extr_21, extr_30, extr_31, extr_32, List.map_cons, List.map_nil, cond_true, cond_false, aop, aThen, aBlock, argEnv, ev, sput, sputO, binK, binI, unK, builtinK, pickK, Nat.reduceBEq, Nat.reduceAdd, Int.reduceBEq, Int.reduceBNe, Int.reduceLT, aPost, resK, tup, tyf, qV, frV, loadF c5, intsOf, Option.map_some, List.length_cons, List.length_nil, Nat.zero_add, eqF, neq_frac (show 1 ≤ y by omega)]
    cases hg : (Nat.gcd x.natAbs y.natAbs == 1) with
    | false => exact bad (by simp [okP, hg]) _ rfl
    | true =>
      refine hD _ _ ?_
      have hok : okP (x, y) = true := by simp [okP, hg]; omega
      obtain ⟨n, hn⟩ : ∃ n : Nat, y = n := ⟨y.toNat, by omega⟩
      subst hn
      have hn0 : 0 < n := by omega
      simp (maxSteps := 2000000) only [s34, ↓aw_region, ↓aw_skip, ↓aw_seq, ↓aw_block, ↓aw_exit, ↓aw_ret, ↓sops_nil, ↓sops_go, ↓dops_nil, ↓dopsX_nil, ↓dopsR_nil, ↓vdn, vup, extr_20, extr_21, extr_30, extr_31, extr_32, List.map_cons, List.map_nil, cond_true, cond_false, aop, aThen, aBlock, argEnv, ev, sput, sputO, binK, binI, unK, builtinK, pickK, Nat.reduceBEq, Nat.reduceAdd, Int.reduceBEq, Int.reduceBNe, Int.reduceLT, aPost, resK, tup, tyf]
      refine hC [(0, v), (2, .int .i64 0), (3, vint (m : Nat)), (5, .pointer (some ⟨hp.length, 0, none⟩)), (8, v), (9, vint ps.length), (10, vint (k : Nat))] _ _ ?_ (by simp (maxSteps := 2000000) only [↓aw_region, ↓aw_skip, ↓aw_seq, ↓aw_block, ↓aw_exit, ↓aw_ret, ↓sops_nil, ↓sops_go, ↓dops_nil, ↓dopsX_nil, ↓dopsR_nil, ↓vdn, vup, extr_20, extr_21, extr_30, extr_31, extr_32, List.map_cons, List.map_nil, cond_true, cond_false, aop, aThen, aBlock, argEnv, ev, sput, sputO, binK, binI, unK, builtinK, pickK, Nat.reduceBEq, Nat.reduceAdd, Int.reduceBEq, Int.reduceBNe, Int.reduceLT, aPost, resK, tup, tyf])
      clear hC
      try clear C
      refine aws_cut fun N7 hN7 => ?_
      simp only [q34_7]
      refine aw_drawX [] (by kernel_rfl) (by kernel_rfl) (by kernel_rfl) (by kernel_rfl) ?_
      simp (maxSteps := 2000000) only [s34, ↓aw_region, ↓aw_skip, ↓aw_seq, ↓aw_block, ↓aw_exit, ↓aw_ret, ↓sops_nil, ↓sops_go, ↓dops_nil, ↓dopsX_nil, ↓dopsR_nil, ↓vdn, vup, extr_20, extr_21, extr_30, extr_31, extr_32, List.map_cons, List.map_nil, cond_true, cond_false, aop, aThen, aBlock, argEnv, ev, sput, sputO, binK, binI, unK, builtinK, pickK, Nat.reduceBEq, Nat.reduceAdd, Int.reduceBEq, Int.reduceBNe, Int.reduceLT, aPost, resK, tup, tyf, fA1, loadF1 c5]
      refine hN7 [(0, v), (2, .int .i64 0), (3, vint (m : Nat)), (5, .pointer (some ⟨hp.length, 0, none⟩)), (6, vint (m : Nat)), (7, vint (n : Nat)), (8, v), (9, vint ps.length), (10, vint (k : Nat))] _ _ ?_ (by simp (maxSteps := 2000000) only [↓aw_region, ↓aw_skip, ↓aw_seq, ↓aw_block, ↓aw_exit, ↓aw_ret, ↓sops_nil, ↓sops_go, ↓dops_nil, ↓dopsX_nil, ↓dopsR_nil, ↓vdn, vup, extr_20, extr_21, extr_30, extr_31, extr_32, List.map_cons, List.map_nil, cond_true, cond_false, aop, aThen, aBlock, argEnv, ev, sput, sputO, binK, binI, unK, builtinK, pickK, Nat.reduceBEq, Nat.reduceAdd, Int.reduceBEq, Int.reduceBNe, Int.reduceLT, aPost, resK, tup, tyf])
      clear hN7
      try clear N7
      refine aws_cutW fun G hG => ?_
      refine aws_block ?_
      refine aws_hide fun Q3 hQ3 => ?_
      refine aw_loopW (γ := Nat × Nat) (fun s => Nat.gcd s.1 s.2 = Nat.gcd m n ∧ s.1 < 9223372036854775808 ∧ s.2 < 9223372036854775808)
        (fun s => ([(0, v), (2, .int .i64 0), (3, vint (m : Nat)), (5, .pointer (some ⟨hp.length, 0, none⟩)), (6, vint (s.1 : Nat)), (7, vint (s.2 : Nat)), (8, v), (9, vint ps.length), (10, vint (k : Nat))], H)) (fun s => s.2) (m, n) ⟨rfl, by simp only; omega, by simp only; omega⟩ (by simp (maxSteps := 2000000) only [↓aw_region, ↓aw_skip, ↓aw_seq, ↓aw_block, ↓aw_exit, ↓aw_ret, ↓sops_nil, ↓sops_go, ↓dops_nil, ↓dopsX_nil, ↓dopsR_nil, ↓vdn, vup, extr_20, extr_21, extr_30, extr_31, extr_32, List.map_cons, List.map_nil, cond_true, cond_false, aop, aThen, aBlock, argEnv, ev, sput, sputO, binK, binI, unK, builtinK, pickK, Nat.reduceBEq, Nat.reduceAdd, Int.reduceBEq, Int.reduceBNe, Int.reduceLT, aPost, resK, tup, tyf]) rfl ?_
      rintro ⟨u, w⟩ ⟨huw, hu, hw⟩
      simp only at huw hu hw
      refine aws_hide fun Q4 hQ4 => ?_
      simp only [l34_0]
      by_cases hw0 : w = 0
      · subst hw0
        have e0 : (((0 : Nat) : Int) != 0) = false := rfl
        rw [Nat.gcd_zero_right] at huw
        subst huw
        refine aws_cut fun N8 hN8 => ?_
        simp (maxSteps := 2000000) only [s34, ↓aw_region, ↓aw_skip, ↓aw_seq, ↓aw_block, ↓aw_exit, ↓aw_ret, ↓sops_nil, ↓sops_go, ↓dops_nil, ↓dopsX_nil, ↓dopsR_nil, ↓vdn, vup, extr_20, extr_21, extr_30, extr_31, extr_32, List.map_cons, List.map_nil, cond_true, cond_false, aop, aThen, aBlock, argEnv, ev, sput, sputO, binK, binI, unK, builtinK, pickK, Nat.reduceBEq, Nat.reduceAdd, Int.reduceBEq, Int.reduceBNe, Int.reduceLT, aPost, resK, tup, tyf, e0]
        refine hQ4 _ _ _ (hQ3 _ _ _ ?_)
        simp (maxSteps := 2000000) only [s34, ↓aw_region, ↓aw_skip, ↓aw_seq, ↓aw_block, ↓aw_exit, ↓aw_ret, ↓sops_nil, ↓sops_go, ↓dops_nil, ↓dopsX_nil, ↓dopsR_nil, ↓vdn, vup, extr_20, extr_21, extr_30, extr_31, extr_32, List.map_cons, List.map_nil, cond_true, cond_false, aop, aThen, aBlock, argEnv, ev, sput, sputO, binK, binI, unK, builtinK, pickK, Nat.reduceBEq, Nat.reduceAdd, Int.reduceBEq, Int.reduceBNe, Int.reduceLT, aPost, resK, tup, tyf, if_true]
        refine hG [(0, v), (2, .int .i64 0), (3, vint (m : Nat)), (5, .pointer (some ⟨hp.length, 0, none⟩)), (6, vint (Nat.gcd m n : Nat)), (8, v), (9, vint ps.length), (10, vint (k : Nat))] _ _ ?_ (by simp (maxSteps := 2000000) only [↓aw_region, ↓aw_skip, ↓aw_seq, ↓aw_block, ↓aw_exit, ↓aw_ret, ↓sops_nil, ↓sops_go, ↓dops_nil, ↓dopsX_nil, ↓dopsR_nil, ↓vdn, vup, extr_20, extr_21, extr_30, extr_31, extr_32, List.map_cons, List.map_nil, cond_true, cond_false, aop, aThen, aBlock, argEnv, ev, sput, sputO, binK, binI, unK, builtinK, pickK, Nat.reduceBEq, Nat.reduceAdd, Int.reduceBEq, Int.reduceBNe, Int.reduceLT, aPost, resK, tup, tyf])
        clear hG
        try clear G
        have hgp := Nat.gcd_pos_of_pos_left n hm0
        have hg0 : ¬ ((Nat.gcd m n : Nat) : Int) = 0 := by omega
        have q1 := quoD (x := m) (show m < 9223372036854775808 by omega) (Nat.gcd_dvd_left m n)
        have q2 : quoV .i64 10000000000 ((n : Nat) : Int) = ((10000000000 / n : Nat) : Int) := by
          have h5 : (10000000000 : Int).tdiv ((n : Nat) : Int) = ((10000000000 / n : Nat) : Int) := by rw [Int.tdiv_eq_ediv_of_nonneg (by omega)]; rfl
          have h6 := Nat.div_le_self 10000000000 n
          rw [quoV, h5]
          generalize 10000000000 / n = z at h6 ⊢
          exact wrap_id (by omega) (by omega)
        have hn0' : ¬ ((n : Nat) : Int) = 0 := by omega
        have el : Nat.lcm m n = m / Nat.gcd m n * n := by rw [Nat.lcm, Nat.div_mul_right_comm (Nat.gcd_dvd_left _ _)]
        have hgt := lcm_gt hm0 hn0
        rw [mulTo] at hmul
        refine aws_cut fun K hK => ?_
        simp only [q34_10]
        refine aw_cut fun D hD => ?_
        refine aw_drawX [] (by kernel_rfl) (by kernel_rfl) (by kernel_rfl) (by kernel_rfl) ?_
        by_cases hbig : 10000000000 < Nat.lcm m n
        · have hb2 : ((m / Nat.gcd m n : Nat) : Int) > ((10000000000 / n : Nat) : Int) := by have := hgt.2 hbig; omega
          rw [if_neg (by rw [Int.natAbs_natCast]; omega)] at hmul
          simp (maxSteps := 2000000) only [s34, ↓aw_region, ↓aw_skip, ↓aw_seq, ↓aw_block, ↓aw_exit, ↓aw_ret, ↓sops_nil, ↓sops_go, ↓dops_nil, ↓dopsX_nil, ↓dopsR_nil, ↓vdn, vup, extr_20, extr_21, extr_30, extr_31, extr_32, List.map_cons, List.map_nil, cond_true, cond_false, aop, aThen, aBlock, argEnv, ev, sput, sputO, binK, binI, unK, builtinK, pickK, Nat.reduceBEq, Nat.reduceAdd, Int.reduceBEq, Int.reduceBNe, Int.reduceLT, aPost, resK, tup, tyf, fA1, loadF1 c5, ne_eq, hg0, hn0', not_false_eq_true, q1, q2, hb2]
          refine hD _ _ ?_
          simp (maxSteps := 2000000) only [s34, ↓aw_region, ↓aw_skip, ↓aw_seq, ↓aw_block, ↓aw_exit, ↓aw_ret, ↓sops_nil, ↓sops_go, ↓dops_nil, ↓dopsX_nil, ↓dopsR_nil, ↓vdn, vup, extr_20, extr_21, extr_30, extr_31, extr_32, List.map_cons, List.map_nil, cond_true, cond_false, aop, aThen, aBlock, argEnv, ev, sput, sputO, binK, binI, unK, builtinK, pickK, Nat.reduceBEq, Nat.reduceAdd, Int.reduceBEq, Int.reduceBNe, Int.reduceLT, aPost, resK, tup, tyf]
          exact none0 hmul.symm _ rfl
        · have hb2 : ¬ ((m / Nat.gcd m n : Nat) : Int) > ((10000000000 / n : Nat) : Int) := by
            intro hc
            exact hbig (hgt.1 (by omega))
          rw [if_pos ⟨hok, by rw [Int.natAbs_natCast]; omega⟩, Int.natAbs_natCast] at hmul
          simp (maxSteps := 2000000) only [s34, ↓aw_region, ↓aw_skip, ↓aw_seq, ↓aw_block, ↓aw_exit, ↓aw_ret, ↓sops_nil, ↓sops_go, ↓dops_nil, ↓dopsX_nil, ↓dopsR_nil, ↓vdn, vup, extr_20, extr_21, extr_30, extr_31, extr_32, List.map_cons, List.map_nil, cond_true, cond_false, aop, aThen, aBlock, argEnv, ev, sput, sputO, binK, binI, unK, builtinK, pickK, Nat.reduceBEq, Nat.reduceAdd, Int.reduceBEq, Int.reduceBNe, Int.reduceLT, aPost, resK, tup, tyf, fA1, loadF1 c5, ne_eq, hg0, hn0', not_false_eq_true, q1, q2, hb2]
          refine hD _ _ ?_
          simp (maxSteps := 2000000) only [s34, ↓aw_region, ↓aw_skip, ↓aw_seq, ↓aw_block, ↓aw_exit, ↓aw_ret, ↓sops_nil, ↓sops_go, ↓dops_nil, ↓dopsX_nil, ↓dopsR_nil, ↓vdn, vup, extr_20, extr_21, extr_30, extr_31, extr_32, List.map_cons, List.map_nil, cond_true, cond_false, aop, aThen, aBlock, argEnv, ev, sput, sputO, binK, binI, unK, builtinK, pickK, Nat.reduceBEq, Nat.reduceAdd, Int.reduceBEq, Int.reduceBNe, Int.reduceLT, aPost, resK, tup, tyf]
          refine hK [(0, v), (2, .int .i64 0), (3, vint (m : Nat)), (5, .pointer (some ⟨hp.length, 0, none⟩)), (6, vint (Nat.gcd m n : Nat)), (8, v), (9, vint ps.length), (10, vint (k : Nat))] _ _ ?_ (by simp (maxSteps := 2000000) only [↓aw_region, ↓aw_skip, ↓aw_seq, ↓aw_block, ↓aw_exit, ↓aw_ret, ↓sops_nil, ↓sops_go, ↓dops_nil, ↓dopsX_nil, ↓dopsR_nil, ↓vdn, vup, extr_20, extr_21, extr_30, extr_31, extr_32, List.map_cons, List.map_nil, cond_true, cond_false, aop, aThen, aBlock, argEnv, ev, sput, sputO, binK, binI, unK, builtinK, pickK, Nat.reduceBEq, Nat.reduceAdd, Int.reduceBEq, Int.reduceBNe, Int.reduceLT, aPost, resK, tup, tyf])
          clear hK
          try clear K
          have m1 : mulV .i64 ((m / Nat.gcd m n : Nat) : Int) (n : Int) = ((Nat.lcm m n : Nat) : Int) := by
            rw [mulN (by rw [← Int.natCast_mul, ← el]; omega), el, Int.natCast_mul]
          refine aw_aws ?_
          simp only [q34_12]
          refine aw_drawX [] (by kernel_rfl) (by kernel_rfl) (by kernel_rfl) (by kernel_rfl) ?_
          simp (maxSteps := 2000000) only [s34, ↓aw_region, ↓aw_skip, ↓aw_seq, ↓aw_block, ↓aw_exit, ↓aw_ret, ↓sops_nil, ↓sops_go, ↓dops_nil, ↓dopsX_nil, ↓dopsR_nil, ↓vdn, vup, extr_20, extr_21, extr_30, extr_31, extr_32, List.map_cons, List.map_nil, cond_true, cond_false, aop, aThen, aBlock, argEnv, ev, sput, sputO, binK, binI, unK, builtinK, pickK, Nat.reduceBEq, Nat.reduceAdd, Int.reduceBEq, Int.reduceBNe, Int.reduceLT, aPost, resK, tup, tyf, fA1, loadF1 c5, ne_eq, hg0, not_false_eq_true, q1, m1]
          refine hB [(0, v), (2, .int .i64 0), (3, vint (Nat.lcm m n : Nat)), (8, v), (9, vint ps.length), (10, vint (k : Nat))] _ _ ?_ (by simp (maxSteps := 2000000) only [↓aw_region, ↓aw_skip, ↓aw_seq, ↓aw_block, ↓aw_exit, ↓aw_ret, ↓sops_nil, ↓sops_go, ↓dops_nil, ↓dopsX_nil, ↓dopsR_nil, ↓vdn, vup, extr_20, extr_21, extr_30, extr_31, extr_32, List.map_cons, List.map_nil, cond_true, cond_false, aop, aThen, aBlock, argEnv, ev, sput, sputO, binK, binI, unK, builtinK, pickK, Nat.reduceBEq, Nat.reduceAdd, Int.reduceBEq, Int.reduceBNe, Int.reduceLT, aPost, resK, tup, tyf])
          clear hB
          try clear B
          refine aw_aws ?_
          simp (maxSteps := 2000000) only [s34, ↓aw_region, ↓aw_skip, ↓aw_seq, ↓aw_block, ↓aw_exit, ↓aw_ret, ↓sops_nil, ↓sops_go, ↓dops_nil, ↓dopsX_nil, ↓dopsR_nil, ↓vdn, vup, extr_20, extr_21, extr_30, extr_31, extr_32, List.map_cons, List.map_nil, cond_true, cond_false, aop, aThen, aBlock, argEnv, ev, sput, sputO, binK, binI, unK, builtinK, pickK, Nat.reduceBEq, Nat.reduceAdd, Int.reduceBEq, Int.reduceBNe, Int.reduceLT, aPost, resK, tup, tyf, add1 (show k < 9223372036854775807 by omega)]
          exact hQ2 _ _ _ ⟨(k + 1, Nat.lcm m n, H), ⟨hk', Nat.lcm_pos hm0 hn0, by simp only; omega, hmul, hEH⟩, by simp only; omega, by simp (maxSteps := 2000000) only [↓aw_region, ↓aw_skip, ↓aw_seq, ↓aw_block, ↓aw_exit, ↓aw_ret, ↓sops_nil, ↓sops_go, ↓dops_nil, ↓dopsX_nil, ↓dopsR_nil, ↓vdn, vup, extr_20, extr_21, extr_30, extr_31, extr_32, List.map_cons, List.map_nil, cond_true, cond_false, aop, aThen, aBlock, argEnv, ev, sput, sputO, binK, binI, unK, builtinK, pickK, Nat.reduceBEq, Nat.reduceAdd, Int.reduceBEq, Int.reduceBNe, Int.reduceLT, aPost, resK, tup, tyf], rfl⟩
      · have e0 : (((w : Nat) : Int) != 0) = true := by
          have : ((w : Nat) : Int) ≠ 0 := by omega
          simpa using this
        have e1 : ¬ ((w : Nat) : Int) = 0 := by omega
        have etm : ((u : Nat) : Int).tmod ((w : Nat) : Int) = ((u % w : Nat) : Int) := by rw [Int.tmod_eq_emod_of_nonneg (by omega)]; rfl
        have hlt := Nat.mod_lt u (show w > 0 by omega)
        refine aws_cut fun N9 hN9 => ?_
        simp (maxSteps := 2000000) only [s34, ↓aw_region, ↓aw_skip, ↓aw_seq, ↓aw_block, ↓aw_exit, ↓aw_ret, ↓sops_nil, ↓sops_go, ↓dops_nil, ↓dopsX_nil, ↓dopsR_nil, ↓vdn, vup, extr_20, extr_21, extr_30, extr_31, extr_32, List.map_cons, List.map_nil, cond_true, cond_false, aop, aThen, aBlock, argEnv, ev, sput, sputO, binK, binI, unK, builtinK, pickK, Nat.reduceBEq, Nat.reduceAdd, Int.reduceBEq, Int.reduceBNe, Int.reduceLT, aPost, resK, tup, tyf, e0]
        refine hN9 [(0, v), (2, .int .i64 0), (3, vint (m : Nat)), (5, .pointer (some ⟨hp.length, 0, none⟩)), (6, vint (u : Nat)), (7, vint (w : Nat)), (8, v), (9, vint ps.length), (10, vint (k : Nat))] _ _ ?_ (by simp (maxSteps := 2000000) only [↓aw_region, ↓aw_skip, ↓aw_seq, ↓aw_block, ↓aw_exit, ↓aw_ret, ↓sops_nil, ↓sops_go, ↓dops_nil, ↓dopsX_nil, ↓dopsR_nil, ↓vdn, vup, extr_20, extr_21, extr_30, extr_31, extr_32, List.map_cons, List.map_nil, cond_true, cond_false, aop, aThen, aBlock, argEnv, ev, sput, sputO, binK, binI, unK, builtinK, pickK, Nat.reduceBEq, Nat.reduceAdd, Int.reduceBEq, Int.reduceBNe, Int.reduceLT, aPost, resK, tup, tyf])
        clear hN9
        try clear N9
        refine aw_aws ?_
        simp only [q34_9, aw_block]
        refine aw_drawX [] (by kernel_rfl) (by kernel_rfl) (by kernel_rfl) (by kernel_rfl) ?_
        simp (maxSteps := 2000000) only [s34, ↓aw_region, ↓aw_skip, ↓aw_seq, ↓aw_block, ↓aw_exit, ↓aw_ret, ↓sops_nil, ↓sops_go, ↓dops_nil, ↓dopsX_nil, ↓dopsR_nil, ↓vdn, vup, extr_20, extr_21, extr_30, extr_31, extr_32, List.map_cons, List.map_nil, cond_true, cond_false, aop, aThen, aBlock, argEnv, ev, sput, sputO, binK, binI, unK, builtinK, pickK, Nat.reduceBEq, Nat.reduceAdd, Int.reduceBEq, Int.reduceBNe, Int.reduceLT, aPost, resK, tup, tyf, ne_eq, e1, not_false_eq_true, etm]
        refine hQ4 _ _ _ ⟨(w, u % w), ⟨?_, hw, by simp only; omega⟩, hlt, by simp (maxSteps := 2000000) only [↓aw_region, ↓aw_skip, ↓aw_seq, ↓aw_block, ↓aw_exit, ↓aw_ret, ↓sops_nil, ↓sops_go, ↓dops_nil, ↓dopsX_nil, ↓dopsR_nil, ↓vdn, vup, extr_20, extr_21, extr_30, extr_31, extr_32, List.map_cons, List.map_nil, cond_true, cond_false, aop, aThen, aBlock, argEnv, ev, sput, sputO, binK, binI, unK, builtinK, pickK, Nat.reduceBEq, Nat.reduceAdd, Int.reduceBEq, Int.reduceBNe, Int.reduceLT, aPost, resK, tup, tyf], rfl⟩
        simp only
        rw [← huw, Nat.gcd_comm u w, Nat.gcd_rec w u, Nat.gcd_comm]
  · obtain rfl : k = ps.length := by omega
    rw [List.drop_length, mulTo] at hmul
    refine aws_cut fun N10 hN10 => ?_
    simp (maxSteps := 2000000) only [s34, ↓aw_region, ↓aw_skip, ↓aw_seq, ↓aw_block, ↓aw_exit, ↓aw_ret, ↓sops_nil, ↓sops_go, ↓dops_nil, ↓dopsX_nil, ↓dopsR_nil, ↓vdn, vup, extr_20, extr_21, extr_30, extr_31, extr_32, List.map_cons, List.map_nil, cond_true, cond_false, aop, aThen, aBlock, argEnv, ev, sput, sputO, binK, binI, unK, builtinK, pickK, Nat.reduceBEq, Nat.reduceAdd, Int.reduceBEq, Int.reduceBNe, Int.reduceLT, aPost, resK, tup, tyf, hin]
    refine hN10 [(0, v), (2, .int .i64 0), (3, vint (m : Nat)), (8, v), (9, vint ps.length), (10, vint ps.length), (11, .bool false)] _ _ ?_ (by simp (maxSteps := 2000000) only [↓aw_region, ↓aw_skip, ↓aw_seq, ↓aw_block, ↓aw_exit, ↓aw_ret, ↓sops_nil, ↓sops_go, ↓dops_nil, ↓dopsX_nil, ↓dopsR_nil, ↓vdn, vup, extr_20, extr_21, extr_30, extr_31, extr_32, List.map_cons, List.map_nil, cond_true, cond_false, aop, aThen, aBlock, argEnv, ev, sput, sputO, binK, binI, unK, builtinK, pickK, Nat.reduceBEq, Nat.reduceAdd, Int.reduceBEq, Int.reduceBNe, Int.reduceLT, aPost, resK, tup, tyf])
    clear hN10
    try clear N10
    refine aws_cut fun N11 hN11 => ?_
    simp (maxSteps := 2000000) only [s34, ↓aw_region, ↓aw_skip, ↓aw_seq, ↓aw_block, ↓aw_exit, ↓aw_ret, ↓sops_nil, ↓sops_go, ↓dops_nil, ↓dopsX_nil, ↓dopsR_nil, ↓vdn, vup, extr_20, extr_21, extr_30, extr_31, extr_32, List.map_cons, List.map_nil, cond_true, cond_false, aop, aThen, aBlock, argEnv, ev, sput, sputO, binK, binI, unK, builtinK, pickK, Nat.reduceBEq, Nat.reduceAdd, Int.reduceBEq, Int.reduceBNe, Int.reduceLT, aPost, resK, tup, tyf]
    refine hQ2 _ _ _ (hQ _ _ _ ?_)
    simp (maxSteps := 2000000) only [s34, ↓aw_region, ↓aw_skip, ↓aw_seq, ↓aw_block, ↓aw_exit, ↓aw_ret, ↓sops_nil, ↓sops_go, ↓dops_nil, ↓dopsX_nil, ↓dopsR_nil, ↓vdn, vup, extr_20, extr_21, extr_30, extr_31, extr_32, List.map_cons, List.map_nil, cond_true, cond_false, aop, aThen, aBlock, argEnv, ev, sput, sputO, binK, binI, unK, builtinK, pickK, Nat.reduceBEq, Nat.reduceAdd, Int.reduceBEq, Int.reduceBNe, Int.reduceLT, aPost, resK, tup, tyf, if_true]
    refine hM [(0, v), (2, .int .i64 0), (3, vint (m : Nat)), (8, v), (9, vint ps.length), (10, vint ps.length), (11, .bool false)] _ _ ?_ (by simp (maxSteps := 2000000) only [↓aw_region, ↓aw_skip, ↓aw_seq, ↓aw_block, ↓aw_exit, ↓aw_ret, ↓sops_nil, ↓sops_go, ↓dops_nil, ↓dopsX_nil, ↓dopsR_nil, ↓vdn, vup, extr_20, extr_21, extr_30, extr_31, extr_32, List.map_cons, List.map_nil, cond_true, cond_false, aop, aThen, aBlock, argEnv, ev, sput, sputO, binK, binI, unK, builtinK, pickK, Nat.reduceBEq, Nat.reduceAdd, Int.reduceBEq, Int.reduceBNe, Int.reduceLT, aPost, resK, tup, tyf])
    clear hM
    try clear M
    refine aw_aws ?_
    simp (maxSteps := 2000000) only [s34, ↓aw_region, ↓aw_skip, ↓aw_seq, ↓aw_block, ↓aw_exit, ↓aw_ret, ↓sops_nil, ↓sops_go, ↓dops_nil, ↓dopsX_nil, ↓dopsR_nil, ↓vdn, vup, extr_20, extr_21, extr_30, extr_31, extr_32, List.map_cons, List.map_nil, cond_true, cond_false, aop, aThen, aBlock, argEnv, ev, sput, sputO, binK, binI, unK, builtinK, pickK, Nat.reduceBEq, Nat.reduceAdd, Int.reduceBEq, Int.reduceBNe, Int.reduceLT, aPost, resK, tup, tyf, hmul]
    exact hE
end Go.Proofs.Try.Am

namespace Go.Proofs.Try.Am
open Go.Am
set_option maxRecDepth 100000
/-! 61: (planchet bets.belief).of -/
@[reducible] def q61_0 : SCode := .region [⟨some 4, .alloc 26, none⟩]
@[reducible] def q61_1 : SCode := .region [⟨some 8, .call { callee := .value (.func 70), args := #[.const (.int .i64 0)], argTypes := #[3] }, none⟩,
    ⟨some 5, .alloc 26, none⟩,
    ⟨none, .store 26 (.tmp 5) (.tmp 8), none⟩]
@[reducible] def q61_2 : SCode := .region [⟨some 9, .move (.tmp 0), none⟩,
    ⟨some 10, .call { callee := .builtin .len, args := #[.tmp 9], argTypes := #[90] }, none⟩,
    ⟨some 11, .move (.const (.int .i64 0)), none⟩]
@[reducible] def q61_3 : SCode := .region [⟨some 12, .binOp .lss 3 (.tmp 11) (.tmp 10) 3, none⟩]
@[reducible] def q61_4 : SCode := .region [⟨some 13, .move (.tmp 11), none⟩,
    ⟨some 14, .indexAddr 90 (.tmp 9) (.tmp 11), none⟩,
    ⟨some 15, .load 26 (.tmp 14), none⟩,
    ⟨some 7, .alloc 26, none⟩,
    ⟨some 6, .assign (.tmp 13), none⟩,
    ⟨none, .store 26 (.tmp 7) (.tmp 15), none⟩]
@[reducible] def q61_5 : SCode := .region [⟨some 16, .move (.tmp 1), none⟩,
    ⟨some 17, .move (.tmp 6), none⟩,
    ⟨some 18, .binOp .shr 3 (.tmp 16) (.tmp 17) 3, none⟩,
    ⟨some 19, .binOp .and 3 (.tmp 18) (.const (.int .i64 1)) 3, none⟩,
    ⟨some 20, .binOp .eql 3 (.tmp 19) (.const (.int .i64 1)) 3, none⟩]
@[reducible] def q61_6 : SCode := .region [⟨some 21, .load 26 (.tmp 5), none⟩,
    ⟨some 22, .load 26 (.tmp 7), none⟩,
    ⟨some 23, .call { callee := .value (.func 71), args := #[.tmp 21, .const (.int .i64 1), .tmp 22], argTypes := #[26, 3, 26] }, none⟩,
    ⟨none, .store 26 (.tmp 5) (.tmp 23), none⟩]
@[reducible] def q61_7 : SCode := .region [⟨some 24, .binOp .add 3 (.tmp 11) (.const (.int .i64 1)) 3, none⟩,
    ⟨some 11, .move (.tmp 24), none⟩]
def l61_0 : SCode := (.seq q61_3 (.seq (.cond (.tmp 12) .skip (.exit 0)) (.seq (.block 1 (.seq q61_4 (.seq q61_5 (.cond (.tmp 20) q61_6 .skip)))) q61_7)))
@[reducible] def q61_8 : SCode := .region [⟨some 25, .load 26 (.tmp 5), none⟩,
    ⟨none, .store 26 (.tmp 4) (.tmp 25), none⟩]
def s61 : SCode := (.seq q61_0 (.seq q61_1 (.seq (.seq q61_2 (.block 0 (.loop l61_0))) (.seq q61_8 .ret))))
theorem s61_strip : stripC (bodyOf Try.f61) = s61 := by kernel_rfl
theorem s61_ok : codeOK 26 (bodyOf Try.f61) = true := by kernel_rfl
end Go.Proofs.Try.Am

namespace Go.Proofs.Try.Am
open Go.Am Bq
set_option maxRecDepth 100000
set_option maxHeartbeats 1000000

/-- Whether fractions are n chances. -/
def chances (n : Int) (ps : List (Int × Int)) : Bool := decide ((ps.length : Int) = n) && (decide (mult ps ≠ 0) && ps.all fun p => decide (p.1 ≤ p.2))

theorem s38_callW [Tabs Try.prog] {args : List Value} {h : Heap} {Q : Value → Heap → Prop} (hsz : args.length ≤ 28) (hk : AWS Try.prog 28 s38 (aPost Try.prog [.tmp 4] Q) (argEnv 0 args) h) : ACall Try.prog 38 args h Q :=
  acall_w Try.func38 rfl (enters_of Try.func38 (by kernel_rfl) rfl) rfl rfl (by decide) s38_strip s38_ok hsz hk
theorem chances_call [Tabs prog] {h : Heap} {v : Value} {n : Int} {ps : List (Int × Int)} (hv : PairSl h v ps) (hl : ps.length < 9223372036854775808) (hx : InR ps) : APure prog 38 [vint n, v] h (.bool (chances n ps)) := by
  refine ACall.forget (Low.bool _) ?_
  refine s38_callW (by simp) ?_
  simp only [s38]
  refine aws_cut fun N1 hN1 => ?_
  simp (maxSteps := 2000000) only [s38, ↓aw_region, ↓aw_skip, ↓aw_seq, ↓aw_block, ↓aw_exit, ↓aw_ret, ↓sops_nil, ↓sops_go, ↓dops_nil, ↓dopsX_nil, ↓dopsR_nil, ↓vdn, vup, extr_20, extr_21, extr_30, extr_31, extr_32, List.map_cons, List.map_nil, cond_true, cond_false, aop, aThen, aBlock, argEnv, ev, sput, sputO, binK, binI, unK, builtinK, pickK, Nat.reduceBEq, Nat.reduceAdd, Int.reduceBEq, Int.reduceBNe, Int.reduceLT, aPost, resK, tup, tyf]
  refine hN1 [(0, vint n), (1, v), (4, .bool false)] _ _ ?_ (by simp (maxSteps := 2000000) only [↓aw_region, ↓aw_skip, ↓aw_seq, ↓aw_block, ↓aw_exit, ↓aw_ret, ↓sops_nil, ↓sops_go, ↓dops_nil, ↓dopsX_nil, ↓dopsR_nil, ↓vdn, vup, extr_20, extr_21, extr_30, extr_31, extr_32, List.map_cons, List.map_nil, cond_true, cond_false, aop, aThen, aBlock, argEnv, ev, sput, sputO, binK, binI, unK, builtinK, pickK, Nat.reduceBEq, Nat.reduceAdd, Int.reduceBEq, Int.reduceBNe, Int.reduceLT, aPost, resK, tup, tyf])
  clear hN1
  try clear N1
  by_cases hn : (ps.length : Int) = n
  · have hne : (((ps.length : Nat) : Int) != n) = false := by simp [bne, hn]
    have e0 : chances n ps = (decide (mult ps ≠ 0) && ps.all fun p => decide (p.1 ≤ p.2)) := by rw [chances, hn]; simp
    refine aws_cut fun M hM => ?_
    simp (maxSteps := 2000000) only [s38, ↓aw_region, ↓aw_skip, ↓aw_seq, ↓aw_block, ↓aw_exit, ↓aw_ret, ↓sops_nil, ↓sops_go, ↓dops_nil, ↓dopsX_nil, ↓dopsR_nil, ↓vdn, vup, extr_20, extr_21, extr_30, extr_31, extr_32, List.map_cons, List.map_nil, cond_true, cond_false, aop, aThen, aBlock, argEnv, ev, sput, sputO, binK, binI, unK, builtinK, pickK, Nat.reduceBEq, Nat.reduceAdd, Int.reduceBEq, Int.reduceBNe, Int.reduceLT, aPost, resK, tup, tyf, hv.len, hne, callK, List.nil_append, List.append_nil, List.toList_toArray, List.cons_append]
    refine (mult_call hv hl hx).mono ?_
    rintro _ h ⟨rfl, rfl⟩
    by_cases hm : mult ps = 0
    · have h1 : (((mult ps : Nat) : Int) == 0) = true := by simp [hm]
      simp (maxSteps := 2000000) only [s38, ↓aw_region, ↓aw_skip, ↓aw_seq, ↓aw_block, ↓aw_exit, ↓aw_ret, ↓sops_nil, ↓sops_go, ↓dops_nil, ↓dopsX_nil, ↓dopsR_nil, ↓vdn, vup, extr_20, extr_21, extr_30, extr_31, extr_32, List.map_cons, List.map_nil, cond_true, cond_false, aop, aThen, aBlock, argEnv, ev, sput, sputO, binK, binI, unK, builtinK, pickK, Nat.reduceBEq, Nat.reduceAdd, Int.reduceBEq, Int.reduceBNe, Int.reduceLT, aPost, resK, tup, tyf, h1]
      rw [e0, hm]
      exact ⟨by simp, Ext.refl _ _⟩
    · have h1 : (((mult ps : Nat) : Int) == 0) = false := by simp; omega
      simp (maxSteps := 2000000) only [s38, ↓aw_region, ↓aw_skip, ↓aw_seq, ↓aw_block, ↓aw_exit, ↓aw_ret, ↓sops_nil, ↓sops_go, ↓dops_nil, ↓dopsX_nil, ↓dopsR_nil, ↓vdn, vup, extr_20, extr_21, extr_30, extr_31, extr_32, List.map_cons, List.map_nil, cond_true, cond_false, aop, aThen, aBlock, argEnv, ev, sput, sputO, binK, binI, unK, builtinK, pickK, Nat.reduceBEq, Nat.reduceAdd, Int.reduceBEq, Int.reduceBNe, Int.reduceLT, aPost, resK, tup, tyf, h1]
      refine hM [(0, vint n), (1, v), (4, .bool false)] _ _ ?_ (by simp (maxSteps := 2000000) only [↓aw_region, ↓aw_skip, ↓aw_seq, ↓aw_block, ↓aw_exit, ↓aw_ret, ↓sops_nil, ↓sops_go, ↓dops_nil, ↓dopsX_nil, ↓dopsR_nil, ↓vdn, vup, extr_20, extr_21, extr_30, extr_31, extr_32, List.map_cons, List.map_nil, cond_true, cond_false, aop, aThen, aBlock, argEnv, ev, sput, sputO, binK, binI, unK, builtinK, pickK, Nat.reduceBEq, Nat.reduceAdd, Int.reduceBEq, Int.reduceBNe, Int.reduceLT, aPost, resK, tup, tyf])
      clear hM
      try clear M
      refine aws_cutW fun Z hZ => ?_
      refine aws_cut fun N2 hN2 => ?_
      simp (maxSteps := 2000000) only [s38, ↓aw_region, ↓aw_skip, ↓aw_seq, ↓aw_block, ↓aw_exit, ↓aw_ret, ↓sops_nil, ↓sops_go, ↓dops_nil, ↓dopsX_nil, ↓dopsR_nil, ↓vdn, vup, extr_20, extr_21, extr_30, extr_31, extr_32, List.map_cons, List.map_nil, cond_true, cond_false, aop, aThen, aBlock, argEnv, ev, sput, sputO, binK, binI, unK, builtinK, pickK, Nat.reduceBEq, Nat.reduceAdd, Int.reduceBEq, Int.reduceBNe, Int.reduceLT, aPost, resK, tup, tyf, hv.len]
      refine hN2 [(0, vint n), (1, v), (4, .bool false), (16, v), (17, vint ps.length), (18, .int .i64 0)] _ _ ?_ (by simp (maxSteps := 2000000) only [↓aw_region, ↓aw_skip, ↓aw_seq, ↓aw_block, ↓aw_exit, ↓aw_ret, ↓sops_nil, ↓sops_go, ↓dops_nil, ↓dopsX_nil, ↓dopsR_nil, ↓vdn, vup, extr_20, extr_21, extr_30, extr_31, extr_32, List.map_cons, List.map_nil, cond_true, cond_false, aop, aThen, aBlock, argEnv, ev, sput, sputO, binK, binI, unK, builtinK, pickK, Nat.reduceBEq, Nat.reduceAdd, Int.reduceBEq, Int.reduceBNe, Int.reduceLT, aPost, resK, tup, tyf])
      clear hN2
      try clear N2
      refine aws_block ?_
      refine aws_hide fun Q hQ => ?_
      refine aw_loopW (γ := Nat × Heap) (fun s => s.1 ≤ ps.length ∧ (∀ p ∈ ps.take s.1, p.1 ≤ p.2) ∧ Ext (fun _ => False) h s.2)
        (fun s => ([(0, vint n), (1, v), (4, .bool false), (16, v), (17, vint ps.length), (18, vint (s.1 : Nat))], s.2)) (fun s => ps.length - s.1) (0, h) ⟨Nat.zero_le _, by simp, Ext.refl _ _⟩ (by simp (maxSteps := 2000000) only [↓aw_region, ↓aw_skip, ↓aw_seq, ↓aw_block, ↓aw_exit, ↓aw_ret, ↓sops_nil, ↓sops_go, ↓dops_nil, ↓dopsX_nil, ↓dopsR_nil, ↓vdn, vup, extr_20, extr_21, extr_30, extr_31, extr_32, List.map_cons, List.map_nil, cond_true, cond_false, aop, aThen, aBlock, argEnv, ev, sput, sputO, binK, binI, unK, builtinK, pickK, Nat.reduceBEq, Nat.reduceAdd, Int.reduceBEq, Int.reduceBNe, Int.reduceLT, aPost, resK, tup, tyf, Int.natCast_zero]) rfl ?_
      rintro ⟨k, hp⟩ ⟨hk, hall, hE⟩
      simp only at hk hall hE
      refine aws_hide fun Q2 hQ2 => ?_
      simp only [l38_0]
      by_cases hin : (k : Int) < ps.length
      · have hk' : k < ps.length := by omega
        have hvp := hv.ext hE
        obtain ⟨⟨x, y⟩, hxy⟩ : ∃ p, ps.getD k (0, 0) = p := ⟨_, rfl⟩
        have hmem : (x, y) ∈ ps := hxy ▸ getD_mem hk'
        obtain ⟨H, hH⟩ : ∃ H, H = hp ++ [fC x y] := ⟨_, rfl⟩
        have c5 : H[hp.length]? = some (fC x y) := by rw [hH]; exact get_new _ _
        have hEH : Ext (fun _ => False) h H := by rw [hH]; exact hE.trans (Ext.app _ _ _)
        refine aws_cut fun N3 hN3 => ?_
        simp (maxSteps := 2000000) only [s38, ↓aw_region, ↓aw_skip, ↓aw_seq, ↓aw_block, ↓aw_exit, ↓aw_ret, ↓sops_nil, ↓sops_go, ↓dops_nil, ↓dopsX_nil, ↓dopsR_nil, ↓vdn, vup, extr_20, extr_21, extr_30, extr_31, extr_32, List.map_cons, List.map_nil, cond_true, cond_false, aop, aThen, aBlock, argEnv, ev, sput, sputO, binK, binI, unK, builtinK, pickK, Nat.reduceBEq, Nat.reduceAdd, Int.reduceBEq, Int.reduceBNe, Int.reduceLT, aPost, resK, tup, tyf, hin]
        refine hN3 [(0, vint n), (1, v), (4, .bool false), (16, v), (17, vint ps.length), (18, vint (k : Nat)), (19, .bool true)] _ _ ?_ (by simp (maxSteps := 2000000) only [↓aw_region, ↓aw_skip, ↓aw_seq, ↓aw_block, ↓aw_exit, ↓aw_ret, ↓sops_nil, ↓sops_go, ↓dops_nil, ↓dopsX_nil, ↓dopsR_nil, ↓vdn, vup, extr_20, extr_21, extr_30, extr_31, extr_32, List.map_cons, List.map_nil, cond_true, cond_false, aop, aThen, aBlock, argEnv, ev, sput, sputO, binK, binI, unK, builtinK, pickK, Nat.reduceBEq, Nat.reduceAdd, Int.reduceBEq, Int.reduceBNe, Int.reduceLT, aPost, resK, tup, tyf])
        clear hN3
        try clear N3
        refine aws_cut fun N4 hN4 => ?_
        simp (maxSteps := 2000000) only [s38, ↓aw_region, ↓aw_skip, ↓aw_seq, ↓aw_block, ↓aw_exit, ↓aw_ret, ↓sops_nil, ↓sops_go, ↓dops_nil, ↓dopsX_nil, ↓dopsR_nil, ↓vdn, vup, extr_20, extr_21, extr_30, extr_31, extr_32, List.map_cons, List.map_nil, cond_true, cond_false, aop, aThen, aBlock, argEnv, ev, sput, sputO, binK, binI, unK, builtinK, pickK, Nat.reduceBEq, Nat.reduceAdd, Int.reduceBEq, Int.reduceBNe, Int.reduceLT, aPost, resK, tup, tyf]
        refine hN4 [(0, vint n), (1, v), (4, .bool false), (16, v), (17, vint ps.length), (18, vint (k : Nat))] _ _ ?_ (by simp (maxSteps := 2000000) only [↓aw_region, ↓aw_skip, ↓aw_seq, ↓aw_block, ↓aw_exit, ↓aw_ret, ↓sops_nil, ↓sops_go, ↓dops_nil, ↓dopsX_nil, ↓dopsR_nil, ↓vdn, vup, extr_20, extr_21, extr_30, extr_31, extr_32, List.map_cons, List.map_nil, cond_true, cond_false, aop, aThen, aBlock, argEnv, ev, sput, sputO, binK, binI, unK, builtinK, pickK, Nat.reduceBEq, Nat.reduceAdd, Int.reduceBEq, Int.reduceBNe, Int.reduceLT, aPost, resK, tup, tyf])
        clear hN4
        try clear N4
        refine aws_cutW fun B hB => ?_
        refine aws_block ?_
        refine aws_cut fun N5 hN5 => ?_
        simp (maxSteps := 2000000) only [s38, ↓aw_region, ↓aw_skip, ↓aw_seq, ↓aw_block, ↓aw_exit, ↓aw_ret, ↓sops_nil, ↓sops_go, ↓dops_nil, ↓dopsX_nil, ↓dopsR_nil, ↓vdn, vup, extr_20, extr_21, extr_30, extr_31, extr_32, List.map_cons, List.map_nil, cond_true, cond_false, aop, aThen, aBlock, argEnv, ev, sput, sputO, binK, binI, unK, builtinK, pickK, Nat.reduceBEq, Nat.reduceAdd, Int.reduceBEq, Int.reduceBNe, Int.reduceLT, aPost, resK, tup, tyf, hvp.idx el_47 esz_26 hk', hvp.load shp_26 hk', hxy, allocK, newPtr, zero_26, storeF (get_new hp z0) rfl, set_new]
        rw [← hH]
        refine hN5 [(0, vint n), (1, v), (4, .bool false), (6, .pointer (some ⟨hp.length, 0, none⟩)), (16, v), (17, vint ps.length), (18, vint (k : Nat))] _ _ ?_ (by simp (maxSteps := 2000000) only [↓aw_region, ↓aw_skip, ↓aw_seq, ↓aw_block, ↓aw_exit, ↓aw_ret, ↓sops_nil, ↓sops_go, ↓dops_nil, ↓dopsX_nil, ↓dopsR_nil, ↓vdn, vup, extr_20, extr_21, extr_30, extr_31, extr_32, List.map_cons, List.map_nil, cond_true, cond_false, aop, aThen, aBlock, argEnv, ev, sput, sputO, binK, binI, unK, builtinK, pickK, Nat.reduceBEq, Nat.reduceAdd, Int.reduceBEq, Int.reduceBNe, Int.reduceLT, aPost, resK, tup, tyf])
        clear hN5
        try clear N5
        refine aw_aws ?_
        by_cases hgt : x > y
        · simp (maxSteps := 2000000) only [s38, ↓aw_region, ↓aw_skip, ↓aw_seq, ↓aw_block, ↓aw_exit, ↓aw_ret, ↓sops_nil, ↓sops_go, ↓dops_nil, ↓dopsX_nil, ↓dopsR_nil, ↓vdn, vup, extr_20, extr_21, extr_30, extr_31, extr_32, List.map_cons, List.map_nil, cond_true, cond_false, aop, aThen, aBlock, argEnv, ev, sput, sputO, binK, binI, unK, builtinK, pickK, Nat.reduceBEq, Nat.reduceAdd, Int.reduceBEq, Int.reduceBNe, Int.reduceLT, aPost, resK, tup, tyf, fA0, fA1, loadF0 c5, loadF1 c5, hgt]
          refine hQ2 _ _ _ (hQ _ _ _ ?_)
          have h2 : (ps.all fun p => decide (p.1 ≤ p.2)) = false := by
            rw [List.all_eq_false]; exact ⟨_, hmem, by simp; omega⟩
          simp (maxSteps := 2000000) only [s38, ↓aw_region, ↓aw_skip, ↓aw_seq, ↓aw_block, ↓aw_exit, ↓aw_ret, ↓sops_nil, ↓sops_go, ↓dops_nil, ↓dopsX_nil, ↓dopsR_nil, ↓vdn, vup, extr_20, extr_21, extr_30, extr_31, extr_32, List.map_cons, List.map_nil, cond_true, cond_false, aop, aThen, aBlock, argEnv, ev, sput, sputO, binK, binI, unK, builtinK, pickK, Nat.reduceBEq, Nat.reduceAdd, Int.reduceBEq, Int.reduceBNe, Int.reduceLT, aPost, resK, tup, tyf, e0, h2, Bool.and_false]
          exact hEH
        · simp (maxSteps := 2000000) only [s38, ↓aw_region, ↓aw_skip, ↓aw_seq, ↓aw_block, ↓aw_exit, ↓aw_ret, ↓sops_nil, ↓sops_go, ↓dops_nil, ↓dopsX_nil, ↓dopsR_nil, ↓vdn, vup, extr_20, extr_21, extr_30, extr_31, extr_32, List.map_cons, List.map_nil, cond_true, cond_false, aop, aThen, aBlock, argEnv, ev, sput, sputO, binK, binI, unK, builtinK, pickK, Nat.reduceBEq, Nat.reduceAdd, Int.reduceBEq, Int.reduceBNe, Int.reduceLT, aPost, resK, tup, tyf, fA0, fA1, loadF0 c5, loadF1 c5, hgt]
          refine hB [(0, vint n), (1, v), (4, .bool false), (16, v), (17, vint ps.length), (18, vint (k : Nat))] _ _ ?_ (by simp (maxSteps := 2000000) only [↓aw_region, ↓aw_skip, ↓aw_seq, ↓aw_block, ↓aw_exit, ↓aw_ret, ↓sops_nil, ↓sops_go, ↓dops_nil, ↓dopsX_nil, ↓dopsR_nil, ↓vdn, vup, extr_20, extr_21, extr_30, extr_31, extr_32, List.map_cons, List.map_nil, cond_true, cond_false, aop, aThen, aBlock, argEnv, ev, sput, sputO, binK, binI, unK, builtinK, pickK, Nat.reduceBEq, Nat.reduceAdd, Int.reduceBEq, Int.reduceBNe, Int.reduceLT, aPost, resK, tup, tyf])
          clear hB
          try clear B
          refine aw_aws ?_
          simp (maxSteps := 2000000) only [s38, ↓aw_region, ↓aw_skip, ↓aw_seq, ↓aw_block, ↓aw_exit, ↓aw_ret, ↓sops_nil, ↓sops_go, ↓dops_nil, ↓dopsX_nil, ↓dopsR_nil, ↓vdn, vup, extr_20, extr_21, extr_30, extr_31, extr_32, List.map_cons, List.map_nil, cond_true, cond_false, aop, aThen, aBlock, argEnv, ev, sput, sputO, binK, binI, unK, builtinK, pickK, Nat.reduceBEq, Nat.reduceAdd, Int.reduceBEq, Int.reduceBNe, Int.reduceLT, aPost, resK, tup, tyf, add1 (show k < 9223372036854775807 by omega)]
          refine hQ2 _ _ _ ⟨(k + 1, H), ⟨hk', ?_, hEH⟩, by simp only; omega, by simp (maxSteps := 2000000) only [↓aw_region, ↓aw_skip, ↓aw_seq, ↓aw_block, ↓aw_exit, ↓aw_ret, ↓sops_nil, ↓sops_go, ↓dops_nil, ↓dopsX_nil, ↓dopsR_nil, ↓vdn, vup, extr_20, extr_21, extr_30, extr_31, extr_32, List.map_cons, List.map_nil, cond_true, cond_false, aop, aThen, aBlock, argEnv, ev, sput, sputO, binK, binI, unK, builtinK, pickK, Nat.reduceBEq, Nat.reduceAdd, Int.reduceBEq, Int.reduceBNe, Int.reduceLT, aPost, resK, tup, tyf], rfl⟩
          intro p hp'
          simp only [List.take_succ] at hp'
          rw [List.getD, List.getElem?_eq_getElem hk', Option.getD_some] at hxy
          rw [List.getElem?_eq_getElem hk', hxy] at hp'
          rcases List.mem_append.1 hp' with h3 | h3
          · exact hall p h3
          · simp at h3; subst h3; simp only; omega
      · obtain rfl : k = ps.length := by omega
        refine aws_cut fun N6 hN6 => ?_
        simp (maxSteps := 2000000) only [s38, ↓aw_region, ↓aw_skip, ↓aw_seq, ↓aw_block, ↓aw_exit, ↓aw_ret, ↓sops_nil, ↓sops_go, ↓dops_nil, ↓dopsX_nil, ↓dopsR_nil, ↓vdn, vup, extr_20, extr_21, extr_30, extr_31, extr_32, List.map_cons, List.map_nil, cond_true, cond_false, aop, aThen, aBlock, argEnv, ev, sput, sputO, binK, binI, unK, builtinK, pickK, Nat.reduceBEq, Nat.reduceAdd, Int.reduceBEq, Int.reduceBNe, Int.reduceLT, aPost, resK, tup, tyf, hin]
        refine hN6 [(0, vint n), (1, v), (4, .bool false), (16, v), (17, vint ps.length), (18, vint ps.length), (19, .bool false)] _ _ ?_ (by simp (maxSteps := 2000000) only [↓aw_region, ↓aw_skip, ↓aw_seq, ↓aw_block, ↓aw_exit, ↓aw_ret, ↓sops_nil, ↓sops_go, ↓dops_nil, ↓dopsX_nil, ↓dopsR_nil, ↓vdn, vup, extr_20, extr_21, extr_30, extr_31, extr_32, List.map_cons, List.map_nil, cond_true, cond_false, aop, aThen, aBlock, argEnv, ev, sput, sputO, binK, binI, unK, builtinK, pickK, Nat.reduceBEq, Nat.reduceAdd, Int.reduceBEq, Int.reduceBNe, Int.reduceLT, aPost, resK, tup, tyf])
        clear hN6
        try clear N6
        refine aws_cut fun N7 hN7 => ?_
        simp (maxSteps := 2000000) only [s38, ↓aw_region, ↓aw_skip, ↓aw_seq, ↓aw_block, ↓aw_exit, ↓aw_ret, ↓sops_nil, ↓sops_go, ↓dops_nil, ↓dopsX_nil, ↓dopsR_nil, ↓vdn, vup, extr_20, extr_21, extr_30, extr_31, extr_32, List.map_cons, List.map_nil, cond_true, cond_false, aop, aThen, aBlock, argEnv, ev, sput, sputO, binK, binI, unK, builtinK, pickK, Nat.reduceBEq, Nat.reduceAdd, Int.reduceBEq, Int.reduceBNe, Int.reduceLT, aPost, resK, tup, tyf]
        refine hQ2 _ _ _ (hQ _ _ _ ?_)
        simp (maxSteps := 2000000) only [s38, ↓aw_region, ↓aw_skip, ↓aw_seq, ↓aw_block, ↓aw_exit, ↓aw_ret, ↓sops_nil, ↓sops_go, ↓dops_nil, ↓dopsX_nil, ↓dopsR_nil, ↓vdn, vup, extr_20, extr_21, extr_30, extr_31, extr_32, List.map_cons, List.map_nil, cond_true, cond_false, aop, aThen, aBlock, argEnv, ev, sput, sputO, binK, binI, unK, builtinK, pickK, Nat.reduceBEq, Nat.reduceAdd, Int.reduceBEq, Int.reduceBNe, Int.reduceLT, aPost, resK, tup, tyf, if_true]
        refine hZ [(0, vint n), (1, v), (4, .bool false), (16, v), (17, vint ps.length), (18, vint ps.length), (19, .bool false)] _ _ ?_ (by simp (maxSteps := 2000000) only [↓aw_region, ↓aw_skip, ↓aw_seq, ↓aw_block, ↓aw_exit, ↓aw_ret, ↓sops_nil, ↓sops_go, ↓dops_nil, ↓dopsX_nil, ↓dopsR_nil, ↓vdn, vup, extr_20, extr_21, extr_30, extr_31, extr_32, List.map_cons, List.map_nil, cond_true, cond_false, aop, aThen, aBlock, argEnv, ev, sput, sputO, binK, binI, unK, builtinK, pickK, Nat.reduceBEq, Nat.reduceAdd, Int.reduceBEq, Int.reduceBNe, Int.reduceLT, aPost, resK, tup, tyf])
        clear hZ
        try clear Z
        refine aw_aws ?_
        have h2 : (ps.all fun p => decide (p.1 ≤ p.2)) = true := by
          rw [List.take_length] at hall
          rw [List.all_eq_true]; exact fun p hp => by simp [hall p hp]
        simp (maxSteps := 2000000) only [s38, ↓aw_region, ↓aw_skip, ↓aw_seq, ↓aw_block, ↓aw_exit, ↓aw_ret, ↓sops_nil, ↓sops_go, ↓dops_nil, ↓dopsX_nil, ↓dopsR_nil, ↓vdn, vup, extr_20, extr_21, extr_30, extr_31, extr_32, List.map_cons, List.map_nil, cond_true, cond_false, aop, aThen, aBlock, argEnv, ev, sput, sputO, binK, binI, unK, builtinK, pickK, Nat.reduceBEq, Nat.reduceAdd, Int.reduceBEq, Int.reduceBNe, Int.reduceLT, aPost, resK, tup, tyf]
        rw [e0, h2]
        exact ⟨by simp [hm], hE⟩
  · have hne : (((ps.length : Nat) : Int) != n) = true := by simpa [bne] using hn
    refine aw_aws ?_
    simp (maxSteps := 2000000) only [s38, ↓aw_region, ↓aw_skip, ↓aw_seq, ↓aw_block, ↓aw_exit, ↓aw_ret, ↓sops_nil, ↓sops_go, ↓dops_nil, ↓dopsX_nil, ↓dopsR_nil, ↓vdn, vup, extr_20, extr_21, extr_30, extr_31, extr_32, List.map_cons, List.map_nil, cond_true, cond_false, aop, aThen, aBlock, argEnv, ev, sput, sputO, binK, binI, unK, builtinK, pickK, Nat.reduceBEq, Nat.reduceAdd, Int.reduceBEq, Int.reduceBNe, Int.reduceLT, aPost, resK, tup, tyf, hv.len, hne]
    exact ⟨by simp [chances, hn], Ext.refl _ _⟩

/-- The parts of the first ones in an event. -/
def partTo (m : Nat) (ps : List (Int × Int)) (evt : Nat) : Nat → Int
  | 0 => 0
  | k + 1 => partTo m ps evt k + if evt.testBit k then (m : Int) / (ps.getD k (0, 0)).2 * (ps.getD k (0, 0)).1 else 0
theorem chances_chn {n : Int} {ps : List (Int × Int)} (h : chances n ps = true) : Chn ps ∧ (ps.length : Int) = n := by
  simp only [chances, Bool.and_eq_true, decide_eq_true_eq, List.all_eq_true] at h
  exact ⟨⟨h.2.1, h.2.2⟩, h.1⟩
theorem partTo_bound {ps : List (Int × Int)} (c : Chn ps) (evt : Nat) : ∀ k, k ≤ ps.length → 0 ≤ partTo (mult ps) ps evt k ∧ partTo (mult ps) ps evt k ≤ k * mult ps
  | 0, _ => ⟨Int.le_refl _, by simp [partTo]⟩
  | k + 1, hk => by
    obtain ⟨h1, h2⟩ := partTo_bound c evt k (by omega)
    obtain ⟨-, h3, h4, -⟩ := c.rp (getD_mem (show k < ps.length by omega))
    have e : ((k + 1 : Nat) : Int) * (mult ps : Int) = k * mult ps + mult ps := by push_cast; grind
    rw [e, partTo]
    split <;> omega

theorem s74_callW [Tabs Try.prog] {args : List Value} {h : Heap} {Q : Value → Heap → Prop} (hsz : args.length ≤ 34) (hk : AWS Try.prog 34 s74 (aPost Try.prog [.tmp 4] Q) (argEnv 0 args) h) : ACall Try.prog 74 args h Q :=
  acall_w Try.func74 rfl (enters_of Try.func74 (by kernel_rfl) rfl) rfl rfl (by decide) s74_strip s74_ok hsz hk
theorem part_call [Tabs prog] {h : Heap} {v : Value} {evt : Nat} {ps : List (Int × Int)} (hv : PairSl h v ps) (hl : ps.length ≤ 100) (hx : InR ps) (c : Chn ps) (hev : evt < 9223372036854775808) : APure prog 74 [v, vint (evt : Nat)] h (vint (partTo (mult ps) ps evt ps.length)) := by
  have hm10 := (mult_spec c.m).2.2
  refine ACall.forget (Low.int _ _) ?_
  refine s74_callW (by simp) ?_
  simp only [s74]
  refine aws_cut fun N8 hN8 => ?_
  simp (maxSteps := 2000000) only [s74, ↓aw_region, ↓aw_skip, ↓aw_seq, ↓aw_block, ↓aw_exit, ↓aw_ret, ↓sops_nil, ↓sops_go, ↓dops_nil, ↓dopsX_nil, ↓dopsR_nil, ↓vdn, vup, extr_20, extr_21, extr_30, extr_31, extr_32, List.map_cons, List.map_nil, cond_true, cond_false, aop, aThen, aBlock, argEnv, ev, sput, sputO, binK, binI, unK, builtinK, pickK, Nat.reduceBEq, Nat.reduceAdd, Int.reduceBEq, Int.reduceBNe, Int.reduceLT, aPost, resK, tup, tyf]
  refine hN8 [(0, v), (1, vint (evt : Nat)), (4, .int .i64 0)] _ _ ?_ (by simp (maxSteps := 2000000) only [↓aw_region, ↓aw_skip, ↓aw_seq, ↓aw_block, ↓aw_exit, ↓aw_ret, ↓sops_nil, ↓sops_go, ↓dops_nil, ↓dopsX_nil, ↓dopsR_nil, ↓vdn, vup, extr_20, extr_21, extr_30, extr_31, extr_32, List.map_cons, List.map_nil, cond_true, cond_false, aop, aThen, aBlock, argEnv, ev, sput, sputO, binK, binI, unK, builtinK, pickK, Nat.reduceBEq, Nat.reduceAdd, Int.reduceBEq, Int.reduceBNe, Int.reduceLT, aPost, resK, tup, tyf])
  clear hN8
  try clear N8
  refine aws_cut fun N9 hN9 => ?_
  simp (maxSteps := 2000000) only [s74, ↓aw_region, ↓aw_skip, ↓aw_seq, ↓aw_block, ↓aw_exit, ↓aw_ret, ↓sops_nil, ↓sops_go, ↓dops_nil, ↓dopsX_nil, ↓dopsR_nil, ↓vdn, vup, extr_20, extr_21, extr_30, extr_31, extr_32, List.map_cons, List.map_nil, cond_true, cond_false, aop, aThen, aBlock, argEnv, ev, sput, sputO, binK, binI, unK, builtinK, pickK, Nat.reduceBEq, Nat.reduceAdd, Int.reduceBEq, Int.reduceBNe, Int.reduceLT, aPost, resK, tup, tyf, callK, List.nil_append, List.append_nil, List.toList_toArray, List.cons_append]
  refine (mult_call hv (by omega) hx).mono ?_
  rintro _ h ⟨rfl, rfl⟩
  refine hN9 [(0, v), (1, vint (evt : Nat)), (4, .int .i64 0), (5, vint (mult ps : Nat)), (6, .int .i64 0)] _ _ ?_ (by simp (maxSteps := 2000000) only [↓aw_region, ↓aw_skip, ↓aw_seq, ↓aw_block, ↓aw_exit, ↓aw_ret, ↓sops_nil, ↓sops_go, ↓dops_nil, ↓dopsX_nil, ↓dopsR_nil, ↓vdn, vup, extr_20, extr_21, extr_30, extr_31, extr_32, List.map_cons, List.map_nil, cond_true, cond_false, aop, aThen, aBlock, argEnv, ev, sput, sputO, binK, binI, unK, builtinK, pickK, Nat.reduceBEq, Nat.reduceAdd, Int.reduceBEq, Int.reduceBNe, Int.reduceLT, aPost, resK, tup, tyf])
  clear hN9
  try clear N9
  refine aws_cutW fun Z hZ => ?_
  refine aws_cut fun N10 hN10 => ?_
  simp (maxSteps := 2000000) only [s74, ↓aw_region, ↓aw_skip, ↓aw_seq, ↓aw_block, ↓aw_exit, ↓aw_ret, ↓sops_nil, ↓sops_go, ↓dops_nil, ↓dopsX_nil, ↓dopsR_nil, ↓vdn, vup, extr_20, extr_21, extr_30, extr_31, extr_32, List.map_cons, List.map_nil, cond_true, cond_false, aop, aThen, aBlock, argEnv, ev, sput, sputO, binK, binI, unK, builtinK, pickK, Nat.reduceBEq, Nat.reduceAdd, Int.reduceBEq, Int.reduceBNe, Int.reduceLT, aPost, resK, tup, tyf, hv.len]
  refine hN10 [(0, v), (1, vint (evt : Nat)), (4, .int .i64 0), (5, vint (mult ps : Nat)), (6, .int .i64 0), (11, v), (12, vint ps.length), (13, .int .i64 0)] _ _ ?_ (by simp (maxSteps := 2000000) only [↓aw_region, ↓aw_skip, ↓aw_seq, ↓aw_block, ↓aw_exit, ↓aw_ret, ↓sops_nil, ↓sops_go, ↓dops_nil, ↓dopsX_nil, ↓dopsR_nil, ↓vdn, vup, extr_20, extr_21, extr_30, extr_31, extr_32, List.map_cons, List.map_nil, cond_true, cond_false, aop, aThen, aBlock, argEnv, ev, sput, sputO, binK, binI, unK, builtinK, pickK, Nat.reduceBEq, Nat.reduceAdd, Int.reduceBEq, Int.reduceBNe, Int.reduceLT, aPost, resK, tup, tyf])
  clear hN10
  try clear N10
  refine aws_block ?_
  refine aws_hide fun Q hQ => ?_
  refine aw_loopW (γ := Nat × Heap) (fun s => s.1 ≤ ps.length ∧ Ext (fun _ => False) h s.2)
    (fun s => ([(0, v), (1, vint (evt : Nat)), (4, .int .i64 0), (5, vint (mult ps : Nat)), (6, vint (partTo (mult ps) ps evt s.1)), (11, v), (12, vint ps.length), (13, vint (s.1 : Nat))], s.2)) (fun s => ps.length - s.1) (0, h) ⟨Nat.zero_le _, Ext.refl _ _⟩ (by simp (maxSteps := 2000000) only [↓aw_region, ↓aw_skip, ↓aw_seq, ↓aw_block, ↓aw_exit, ↓aw_ret, ↓sops_nil, ↓sops_go, ↓dops_nil, ↓dopsX_nil, ↓dopsR_nil, ↓vdn, vup, extr_20, extr_21, extr_30, extr_31, extr_32, List.map_cons, List.map_nil, cond_true, cond_false, aop, aThen, aBlock, argEnv, ev, sput, sputO, binK, binI, unK, builtinK, pickK, Nat.reduceBEq, Nat.reduceAdd, Int.reduceBEq, Int.reduceBNe, Int.reduceLT, aPost, resK, tup, tyf, Int.natCast_zero, partTo]) rfl ?_
  rintro ⟨k, hp⟩ ⟨hk, hE⟩
  simp only at hk hE
  refine aws_hide fun Q2 hQ2 => ?_
  simp only [l74_0]
  by_cases hin : (k : Int) < ps.length
  · have hk' : k < ps.length := by omega
    have hvp := hv.ext hE
    obtain ⟨⟨x, y⟩, hxy⟩ : ∃ p, ps.getD k (0, 0) = p := ⟨_, rfl⟩
    obtain ⟨r1, r2, r3, r4, r5, r6⟩ := c.rp (getD_mem hk')
    obtain ⟨b1, b2⟩ := partTo_bound c evt k hk
    have ht := testV (y := k) hev
    have hnext : partTo (mult ps) ps evt (k + 1) = partTo (mult ps) ps evt k + if evt.testBit k then (mult ps : Int) / y * x else 0 := by rw [partTo, hxy]
    rw [hxy] at r1 r2 r3 r4 r5 r6
    simp only at r1 r2 r3 r4 r5 r6
    have hbm : (k : Int) * (mult ps : Int) ≤ 100 * (mult ps : Int) := Int.mul_le_mul_of_nonneg_right (by omega) (by omega)
    obtain ⟨H, hH⟩ : ∃ H, H = hp ++ [fC x y] := ⟨_, rfl⟩
    have c5 : H[hp.length]? = some (fC x y) := by rw [hH]; exact get_new _ _
    have hEH : Ext (fun _ => False) h H := by rw [hH]; exact hE.trans (Ext.app _ _ _)
    refine aws_cut fun N11 hN11 => ?_
    simp (maxSteps := 2000000) only [s74, ↓aw_region, ↓aw_skip, ↓aw_seq, ↓aw_block, ↓aw_exit, ↓aw_ret, ↓sops_nil, ↓sops_go, ↓dops_nil, ↓dopsX_nil, ↓dopsR_nil, ↓vdn, vup, extr_20, extr_21, extr_30, extr_31, extr_32, List.map_cons, List.map_nil, cond_true, cond_false, aop, aThen, aBlock, argEnv, ev, sput, sputO, binK, binI, unK, builtinK, pickK, Nat.reduceBEq, Nat.reduceAdd, Int.reduceBEq, Int.reduceBNe, Int.reduceLT, aPost, resK, tup, tyf, hin]
    refine hN11 [(0, v), (1, vint (evt : Nat)), (4, .int .i64 0), (5, vint (mult ps : Nat)), (6, vint (partTo (mult ps) ps evt k)), (11, v), (12, vint ps.length), (13, vint (k : Nat)), (14, .bool true)] _ _ ?_ (by simp (maxSteps := 2000000) only [↓aw_region, ↓aw_skip, ↓aw_seq, ↓aw_block, ↓aw_exit, ↓aw_ret, ↓sops_nil, ↓sops_go, ↓dops_nil, ↓dopsX_nil, ↓dopsR_nil, ↓vdn, vup, extr_20, extr_21, extr_30, extr_31, extr_32, List.map_cons, List.map_nil, cond_true, cond_false, aop, aThen, aBlock, argEnv, ev, sput, sputO, binK, binI, unK, builtinK, pickK, Nat.reduceBEq, Nat.reduceAdd, Int.reduceBEq, Int.reduceBNe, Int.reduceLT, aPost, resK, tup, tyf])
    clear hN11
    try clear N11
    refine aws_cut fun N12 hN12 => ?_
    simp (maxSteps := 2000000) only [s74, ↓aw_region, ↓aw_skip, ↓aw_seq, ↓aw_block, ↓aw_exit, ↓aw_ret, ↓sops_nil, ↓sops_go, ↓dops_nil, ↓dopsX_nil, ↓dopsR_nil, ↓vdn, vup, extr_20, extr_21, extr_30, extr_31, extr_32, List.map_cons, List.map_nil, cond_true, cond_false, aop, aThen, aBlock, argEnv, ev, sput, sputO, binK, binI, unK, builtinK, pickK, Nat.reduceBEq, Nat.reduceAdd, Int.reduceBEq, Int.reduceBNe, Int.reduceLT, aPost, resK, tup, tyf]
    refine hN12 [(0, v), (1, vint (evt : Nat)), (4, .int .i64 0), (5, vint (mult ps : Nat)), (6, vint (partTo (mult ps) ps evt k)), (11, v), (12, vint ps.length), (13, vint (k : Nat))] _ _ ?_ (by simp (maxSteps := 2000000) only [↓aw_region, ↓aw_skip, ↓aw_seq, ↓aw_block, ↓aw_exit, ↓aw_ret, ↓sops_nil, ↓sops_go, ↓dops_nil, ↓dopsX_nil, ↓dopsR_nil, ↓vdn, vup, extr_20, extr_21, extr_30, extr_31, extr_32, List.map_cons, List.map_nil, cond_true, cond_false, aop, aThen, aBlock, argEnv, ev, sput, sputO, binK, binI, unK, builtinK, pickK, Nat.reduceBEq, Nat.reduceAdd, Int.reduceBEq, Int.reduceBNe, Int.reduceLT, aPost, resK, tup, tyf])
    clear hN12
    try clear N12
    refine aws_cutW fun B hB => ?_
    refine aws_block ?_
    refine aws_cut fun N13 hN13 => ?_
    simp (maxSteps := 2000000) only [s74, ↓aw_region, ↓aw_skip, ↓aw_seq, ↓aw_block, ↓aw_exit, ↓aw_ret, ↓sops_nil, ↓sops_go, ↓dops_nil, ↓dopsX_nil, ↓dopsR_nil, ↓vdn, vup, extr_20, extr_21, extr_30, extr_31, extr_32, List.map_cons, List.map_nil, cond_true, cond_false, aop, aThen, aBlock, argEnv, ev, sput, sputO, binK, binI, unK, builtinK, pickK, Nat.reduceBEq, Nat.reduceAdd, Int.reduceBEq, Int.reduceBNe, Int.reduceLT, aPost, resK, tup, tyf, hvp.idx el_47 esz_26 hk', hvp.load shp_26 hk', hxy, allocK, newPtr, zero_26, storeF (get_new hp z0) rfl, set_new]
    rw [← hH]
    refine hN13 [(0, v), (1, vint (evt : Nat)), (4, .int .i64 0), (5, vint (mult ps : Nat)), (6, vint (partTo (mult ps) ps evt k)), (7, vint (k : Nat)), (8, .pointer (some ⟨hp.length, 0, none⟩)), (11, v), (12, vint ps.length), (13, vint (k : Nat))] _ _ ?_ (by simp (maxSteps := 2000000) only [↓aw_region, ↓aw_skip, ↓aw_seq, ↓aw_block, ↓aw_exit, ↓aw_ret, ↓sops_nil, ↓sops_go, ↓dops_nil, ↓dopsX_nil, ↓dopsR_nil, ↓vdn, vup, extr_20, extr_21, extr_30, extr_31, extr_32, List.map_cons, List.map_nil, cond_true, cond_false, aop, aThen, aBlock, argEnv, ev, sput, sputO, binK, binI, unK, builtinK, pickK, Nat.reduceBEq, Nat.reduceAdd, Int.reduceBEq, Int.reduceBNe, Int.reduceLT, aPost, resK, tup, tyf])
    clear hN13
    try clear N13
    have fin : ∀ e z, z = partTo (mult ps) ps evt (k + 1) → ELe e [(0, v), (1, vint (evt : Nat)), (4, .int .i64 0), (5, vint (mult ps : Nat)), (6, vint z), (11, v), (12, vint ps.length), (13, vint (k : Nat))] → B e H := by
      intro e z hz he
      subst hz
      refine hB _ _ _ ?_ he
      refine aw_aws ?_
      simp (maxSteps := 2000000) only [s74, ↓aw_region, ↓aw_skip, ↓aw_seq, ↓aw_block, ↓aw_exit, ↓aw_ret, ↓sops_nil, ↓sops_go, ↓dops_nil, ↓dopsX_nil, ↓dopsR_nil, ↓vdn, vup, extr_20, extr_21, extr_30, extr_31, extr_32, List.map_cons, List.map_nil, cond_true, cond_false, aop, aThen, aBlock, argEnv, ev, sput, sputO, binK, binI, unK, builtinK, pickK, Nat.reduceBEq, Nat.reduceAdd, Int.reduceBEq, Int.reduceBNe, Int.reduceLT, aPost, resK, tup, tyf, add1 (show k < 9223372036854775807 by omega)]
      exact hQ2 _ _ _ ⟨(k + 1, H), ⟨hk', hEH⟩, by simp only; omega, by simp (maxSteps := 2000000) only [↓aw_region, ↓aw_skip, ↓aw_seq, ↓aw_block, ↓aw_exit, ↓aw_ret, ↓sops_nil, ↓sops_go, ↓dops_nil, ↓dopsX_nil, ↓dopsR_nil, ↓vdn, vup, extr_20, extr_21, extr_30, extr_31, extr_32, List.map_cons, List.map_nil, cond_true, cond_false, aop, aThen, aBlock, argEnv, ev, sput, sputO, binK, binI, unK, builtinK, pickK, Nat.reduceBEq, Nat.reduceAdd, Int.reduceBEq, Int.reduceBNe, Int.reduceLT, aPost, resK, tup, tyf], rfl⟩
    refine aws_cut fun N14 hN14 => ?_
    simp (maxSteps := 2000000) only [s74, ↓aw_region, ↓aw_skip, ↓aw_seq, ↓aw_block, ↓aw_exit, ↓aw_ret, ↓sops_nil, ↓sops_go, ↓dops_nil, ↓dopsX_nil, ↓dopsR_nil, ↓vdn, vup, extr_20, extr_21, extr_30, extr_31, extr_32, List.map_cons, List.map_nil, cond_true, cond_false, aop, aThen, aBlock, argEnv, ev, sput, sputO, binK, binI, unK, builtinK, pickK, Nat.reduceBEq, Nat.reduceAdd, Int.reduceBEq, Int.reduceBNe, Int.reduceLT, aPost, resK, tup, tyf, ht, beq1]
    refine hN14 [(0, v), (1, vint (evt : Nat)), (4, .int .i64 0), (5, vint (mult ps : Nat)), (6, vint (partTo (mult ps) ps evt k)), (7, vint (k : Nat)), (8, .pointer (some ⟨hp.length, 0, none⟩)), (11, v), (12, vint ps.length), (13, vint (k : Nat)), (22, .bool (evt.testBit k))] _ _ ?_ (by simp (maxSteps := 2000000) only [↓aw_region, ↓aw_skip, ↓aw_seq, ↓aw_block, ↓aw_exit, ↓aw_ret, ↓sops_nil, ↓sops_go, ↓dops_nil, ↓dopsX_nil, ↓dopsR_nil, ↓vdn, vup, extr_20, extr_21, extr_30, extr_31, extr_32, List.map_cons, List.map_nil, cond_true, cond_false, aop, aThen, aBlock, argEnv, ev, sput, sputO, binK, binI, unK, builtinK, pickK, Nat.reduceBEq, Nat.reduceAdd, Int.reduceBEq, Int.reduceBNe, Int.reduceLT, aPost, resK, tup, tyf])
    clear hN14
    try clear N14
    refine aw_aws ?_
    have hy0 : ¬ y = 0 := by omega
    have q1 : quoV .i64 ((mult ps : Nat) : Int) y = (mult ps : Int) / y := quo_dvd (by omega) r6
    have m1 : mulV .i64 ((mult ps : Int) / y) x = (mult ps : Int) / y * x := mulN (by omega)
    have a1 : addV .i64 (partTo (mult ps) ps evt k) ((mult ps : Int) / y * x) = partTo (mult ps) ps evt k + (mult ps : Int) / y * x := addN (by omega)
    cases hbit : evt.testBit k with
    | false =>
      simp (maxSteps := 2000000) only [s74, ↓aw_region, ↓aw_skip, ↓aw_seq, ↓aw_block, ↓aw_exit, ↓aw_ret, ↓sops_nil, ↓sops_go, ↓dops_nil, ↓dopsX_nil, ↓dopsR_nil, ↓vdn, vup, extr_20, extr_21, extr_30, extr_31, extr_32, List.map_cons, List.map_nil, cond_true, cond_false, aop, aThen, aBlock, argEnv, ev, sput, sputO, binK, binI, unK, builtinK, pickK, Nat.reduceBEq, Nat.reduceAdd, Int.reduceBEq, Int.reduceBNe, Int.reduceLT, aPost, resK, tup, tyf, hbit]
      exact fin _ (partTo (mult ps) ps evt k) (by rw [hnext, hbit]; simp) (by simp (maxSteps := 2000000) only [↓aw_region, ↓aw_skip, ↓aw_seq, ↓aw_block, ↓aw_exit, ↓aw_ret, ↓sops_nil, ↓sops_go, ↓dops_nil, ↓dopsX_nil, ↓dopsR_nil, ↓vdn, vup, extr_20, extr_21, extr_30, extr_31, extr_32, List.map_cons, List.map_nil, cond_true, cond_false, aop, aThen, aBlock, argEnv, ev, sput, sputO, binK, binI, unK, builtinK, pickK, Nat.reduceBEq, Nat.reduceAdd, Int.reduceBEq, Int.reduceBNe, Int.reduceLT, aPost, resK, tup, tyf])
    | true =>
      simp (maxSteps := 2000000) only [s74, ↓aw_region, ↓aw_skip, ↓aw_seq, ↓aw_block, ↓aw_exit, ↓aw_ret, ↓sops_nil, ↓sops_go, ↓dops_nil, ↓dopsX_nil, ↓dopsR_nil, ↓vdn, vup, extr_20, extr_21, extr_30, extr_31, extr_32, List.map_cons, List.map_nil, cond_true, cond_false, aop, aThen, aBlock, argEnv, ev, sput, sputO, binK, binI, unK, builtinK, pickK, Nat.reduceBEq, Nat.reduceAdd, Int.reduceBEq, Int.reduceBNe, Int.reduceLT, aPost, resK, tup, tyf, hbit]
      refine aw_drawX [] (by kernel_rfl) (by kernel_rfl) (by kernel_rfl) (by kernel_rfl) ?_
      simp (maxSteps := 2000000) only [s74, ↓aw_region, ↓aw_skip, ↓aw_seq, ↓aw_block, ↓aw_exit, ↓aw_ret, ↓sops_nil, ↓sops_go, ↓dops_nil, ↓dopsX_nil, ↓dopsR_nil, ↓vdn, vup, extr_20, extr_21, extr_30, extr_31, extr_32, List.map_cons, List.map_nil, cond_true, cond_false, aop, aThen, aBlock, argEnv, ev, sput, sputO, binK, binI, unK, builtinK, pickK, Nat.reduceBEq, Nat.reduceAdd, Int.reduceBEq, Int.reduceBNe, Int.reduceLT, aPost, resK, tup, tyf, fA0, fA1, loadF0 c5, loadF1 c5, ne_eq, hy0, not_false_eq_true, q1, m1, a1]
      exact fin _ (partTo (mult ps) ps evt k + (mult ps : Int) / y * x) (by rw [hnext, hbit]; simp) (by simp (maxSteps := 2000000) only [↓aw_region, ↓aw_skip, ↓aw_seq, ↓aw_block, ↓aw_exit, ↓aw_ret, ↓sops_nil, ↓sops_go, ↓dops_nil, ↓dopsX_nil, ↓dopsR_nil, ↓vdn, vup, extr_20, extr_21, extr_30, extr_31, extr_32, List.map_cons, List.map_nil, cond_true, cond_false, aop, aThen, aBlock, argEnv, ev, sput, sputO, binK, binI, unK, builtinK, pickK, Nat.reduceBEq, Nat.reduceAdd, Int.reduceBEq, Int.reduceBNe, Int.reduceLT, aPost, resK, tup, tyf])
  · obtain rfl : k = ps.length := by omega
    refine aws_cut fun N15 hN15 => ?_
    simp (maxSteps := 2000000) only [s74, ↓aw_region, ↓aw_skip, ↓aw_seq, ↓aw_block, ↓aw_exit, ↓aw_ret, ↓sops_nil, ↓sops_go, ↓dops_nil, ↓dopsX_nil, ↓dopsR_nil, ↓vdn, vup, extr_20, extr_21, extr_30, extr_31, extr_32, List.map_cons, List.map_nil, cond_true, cond_false, aop, aThen, aBlock, argEnv, ev, sput, sputO, binK, binI, unK, builtinK, pickK, Nat.reduceBEq, Nat.reduceAdd, Int.reduceBEq, Int.reduceBNe, Int.reduceLT, aPost, resK, tup, tyf, hin]
    refine hN15 [(0, v), (1, vint (evt : Nat)), (4, .int .i64 0), (5, vint (mult ps : Nat)), (6, vint (partTo (mult ps) ps evt ps.length)), (11, v), (12, vint ps.length), (13, vint ps.length), (14, .bool false)] _ _ ?_ (by simp (maxSteps := 2000000) only [↓aw_region, ↓aw_skip, ↓aw_seq, ↓aw_block, ↓aw_exit, ↓aw_ret, ↓sops_nil, ↓sops_go, ↓dops_nil, ↓dopsX_nil, ↓dopsR_nil, ↓vdn, vup, extr_20, extr_21, extr_30, extr_31, extr_32, List.map_cons, List.map_nil, cond_true, cond_false, aop, aThen, aBlock, argEnv, ev, sput, sputO, binK, binI, unK, builtinK, pickK, Nat.reduceBEq, Nat.reduceAdd, Int.reduceBEq, Int.reduceBNe, Int.reduceLT, aPost, resK, tup, tyf])
    clear hN15
    try clear N15
    refine aws_cut fun N16 hN16 => ?_
    simp (maxSteps := 2000000) only [s74, ↓aw_region, ↓aw_skip, ↓aw_seq, ↓aw_block, ↓aw_exit, ↓aw_ret, ↓sops_nil, ↓sops_go, ↓dops_nil, ↓dopsX_nil, ↓dopsR_nil, ↓vdn, vup, extr_20, extr_21, extr_30, extr_31, extr_32, List.map_cons, List.map_nil, cond_true, cond_false, aop, aThen, aBlock, argEnv, ev, sput, sputO, binK, binI, unK, builtinK, pickK, Nat.reduceBEq, Nat.reduceAdd, Int.reduceBEq, Int.reduceBNe, Int.reduceLT, aPost, resK, tup, tyf]
    refine hQ2 _ _ _ (hQ _ _ _ ?_)
    simp (maxSteps := 2000000) only [s74, ↓aw_region, ↓aw_skip, ↓aw_seq, ↓aw_block, ↓aw_exit, ↓aw_ret, ↓sops_nil, ↓sops_go, ↓dops_nil, ↓dopsX_nil, ↓dopsR_nil, ↓vdn, vup, extr_20, extr_21, extr_30, extr_31, extr_32, List.map_cons, List.map_nil, cond_true, cond_false, aop, aThen, aBlock, argEnv, ev, sput, sputO, binK, binI, unK, builtinK, pickK, Nat.reduceBEq, Nat.reduceAdd, Int.reduceBEq, Int.reduceBNe, Int.reduceLT, aPost, resK, tup, tyf, if_true]
    refine hZ [(0, v), (1, vint (evt : Nat)), (4, .int .i64 0), (5, vint (mult ps : Nat)), (6, vint (partTo (mult ps) ps evt ps.length)), (11, v), (12, vint ps.length), (13, vint ps.length), (14, .bool false)] _ _ ?_ (by simp (maxSteps := 2000000) only [↓aw_region, ↓aw_skip, ↓aw_seq, ↓aw_block, ↓aw_exit, ↓aw_ret, ↓sops_nil, ↓sops_go, ↓dops_nil, ↓dopsX_nil, ↓dopsR_nil, ↓vdn, vup, extr_20, extr_21, extr_30, extr_31, extr_32, List.map_cons, List.map_nil, cond_true, cond_false, aop, aThen, aBlock, argEnv, ev, sput, sputO, binK, binI, unK, builtinK, pickK, Nat.reduceBEq, Nat.reduceAdd, Int.reduceBEq, Int.reduceBNe, Int.reduceLT, aPost, resK, tup, tyf])
    clear hZ
    try clear Z
    refine aw_aws ?_
    simp (maxSteps := 2000000) only [s74, ↓aw_region, ↓aw_skip, ↓aw_seq, ↓aw_block, ↓aw_exit, ↓aw_ret, ↓sops_nil, ↓sops_go, ↓dops_nil, ↓dopsX_nil, ↓dopsR_nil, ↓vdn, vup, extr_20, extr_21, extr_30, extr_31, extr_32, List.map_cons, List.map_nil, cond_true, cond_false, aop, aThen, aBlock, argEnv, ev, sput, sputO, binK, binI, unK, builtinK, pickK, Nat.reduceBEq, Nat.reduceAdd, Int.reduceBEq, Int.reduceBNe, Int.reduceLT, aPost, resK, tup, tyf]
    exact hE
end Go.Proofs.Try.Am

namespace Go.Proofs.Try.Am
open Go.Am
set_option maxRecDepth 100000
end Go.Proofs.Try.Am

namespace Go.Proofs.Try.Am
open Go.Am
set_option maxRecDepth 100000
/-! 35: slices.Equal[[]planchet api.Frac,planchet api.Frac] -/
@[reducible] def q35_0 : SCode := .region [⟨some 4, .assign (.const (.bool false)), none⟩]
@[reducible] def q35_1 : SCode := .region [⟨some 6, .move (.tmp 0), none⟩,
    ⟨some 7, .call { callee := .builtin .len, args := #[.tmp 6], argTypes := #[47] }, none⟩,
    ⟨some 8, .move (.tmp 1), none⟩,
    ⟨some 9, .call { callee := .builtin .len, args := #[.tmp 8], argTypes := #[47] }, none⟩,
    ⟨some 10, .binOp .neq 3 (.tmp 7) (.tmp 9) 3, none⟩]
@[reducible] def q35_2 : SCode := .region [⟨some 4, .assign (.const (.bool false)), none⟩]
@[reducible] def q35_3 : SCode := .region [⟨some 11, .move (.tmp 0), none⟩,
    ⟨some 12, .call { callee := .builtin .len, args := #[.tmp 11], argTypes := #[47] }, none⟩,
    ⟨some 13, .move (.const (.int .i64 0)), none⟩]
@[reducible] def q35_4 : SCode := .region [⟨some 14, .binOp .lss 3 (.tmp 13) (.tmp 12) 3, none⟩]
@[reducible] def q35_5 : SCode := .region [⟨some 15, .move (.tmp 13), none⟩,
    ⟨some 5, .assign (.tmp 15), none⟩]
def q35_6 : SCode := .draw [⟨some 16, .move (.tmp 0), none⟩,
    ⟨some 17, .move (.tmp 5), none⟩,
    ⟨some 18, .indexAddr 47 (.tmp 16) (.tmp 17), none⟩,
    ⟨some 19, .load 26 (.tmp 18), none⟩,
    ⟨some 20, .move (.tmp 1), none⟩,
    ⟨some 21, .move (.tmp 5), none⟩,
    ⟨some 22, .indexAddr 47 (.tmp 20) (.tmp 21), none⟩,
    ⟨some 23, .load 26 (.tmp 22), none⟩,
    ⟨some 24, .binOp .neq 26 (.tmp 19) (.tmp 23) 26, none⟩]
   [[], [], [0, 1], [2], [], [], [4, 5], [6], [3, 7]]
@[reducible] def q35_7 : SCode := .region [⟨some 4, .assign (.const (.bool false)), none⟩]
@[reducible] def q35_8 : SCode := .region [⟨some 25, .binOp .add 3 (.tmp 13) (.const (.int .i64 1)) 3, none⟩,
    ⟨some 13, .move (.tmp 25), none⟩]
def l35_0 : SCode := (.seq q35_4 (.seq (.cond (.tmp 14) .skip (.exit 0)) (.seq (.block 1 (.seq q35_5 (.seq q35_6 (.cond (.tmp 24) (.seq q35_7 .ret) .skip)))) q35_8)))
@[reducible] def q35_9 : SCode := .region [⟨some 4, .assign (.const (.bool true)), none⟩]
def s35 : SCode := (.seq q35_0 (.seq (.seq q35_1 (.cond (.tmp 10) (.seq q35_2 .ret) .skip)) (.seq (.seq q35_3 (.block 0 (.loop l35_0))) (.seq q35_9 .ret))))
theorem s35_strip : stripC (bodyOf Try.f35) = s35 := by kernel_rfl
theorem s35_ok : codeOK 26 (bodyOf Try.f35) = true := by kernel_rfl
/-! 101: slices.ContainsFunc[[]planchet api.Frac,planchet api.Frac] -/
@[reducible] def q101_0 : SCode := .region [⟨some 4, .assign (.const (.bool false)), none⟩]
@[reducible] def q101_1 : SCode := .region [⟨some 5, .move (.tmp 0), none⟩,
    ⟨some 6, .move (.tmp 1), none⟩,
    ⟨some 7, .call { callee := .value (.func 116), args := #[.tmp 5, .tmp 6], argTypes := #[47, 35] }, none⟩,
    ⟨some 8, .binOp .geq 3 (.tmp 7) (.const (.int .i64 0)) 3, none⟩,
    ⟨some 4, .assign (.tmp 8), none⟩]
def s101 : SCode := (.seq q101_0 (.seq q101_1 .ret))
theorem s101_strip : stripC (bodyOf Try.f101) = s101 := by kernel_rfl
theorem s101_ok : codeOK 9 (bodyOf Try.f101) = true := by kernel_rfl
/-! 102: (planchet bets.table).corners$2 -/
@[reducible] def q102_0 : SCode := .region [⟨some 1, .box 26 (.tmp 0), none⟩,
    ⟨some 2, .assign (.const (.bool false)), none⟩]
@[reducible] def q102_1 : SCode := .region [⟨some 3, .fieldAddr 26 (.tmp 1) 0, none⟩,
    ⟨some 4, .load 3 (.tmp 3), none⟩,
    ⟨some 5, .binOp .lss 3 (.tmp 4) (.const (.int .i64 0)) 3, none⟩,
    ⟨some 2, .assign (.tmp 5), none⟩]
def s102 : SCode := (.seq q102_0 (.seq q102_1 .ret))
theorem s102_strip : stripC (bodyOf Try.f102) = s102 := by kernel_rfl
theorem s102_ok : codeOK 6 (bodyOf Try.f102) = true := by kernel_rfl
end Go.Proofs.Try.Am

namespace Go.Proofs.Try.Am
open Go.Am Bq
set_option maxRecDepth 100000
set_option maxHeartbeats 1000000

/-- The chance of an event, of the first worlds. -/
def inEv (f : Nat → Rat) (evt : Nat) (w : Nat) : Rat := if evt.testBit w then f w else 0
theorem partTo_rp {ps : List (Int × Int)} (c : Chn ps) (evt : Nat) : ∀ k, k ≤ ps.length → Rp (mult ps) (partTo (mult ps) ps evt k) (sumTo (inEv (fq ps) evt) k)
  | 0, _ => ⟨Nat.pos_of_ne_zero c.m, by simp [sumTo, partTo]⟩
  | k + 1, hk => by
    have ih := partTo_rp c evt k (by omega)
    obtain ⟨r, _⟩ := c.rp (getD_mem (show k < ps.length by omega))
    rw [partTo, sumTo, inEv]
    split
    · have := ih.plus r 1
      have e : (((1 : Int)) : Rat) = 1 := rfl
      rw [e, Rat.one_mul, Int.one_mul] at this
      exact this
    · rw [Rat.add_zero, Int.add_zero]; exact ih

theorem litI1 [Tabs prog] {h : Heap} {x : Int} (K : Value → Heap → Prop) : buildSliceK prog h 38 1 [(0, vint x)] K = K (.slice (some ⟨h.length, 0, none⟩) 1 1) (h ++ [.ints [x] 3 false]) := by
  simp only [buildSliceK, el_38, zero_3, esz_3, reps, fillL, mkb, intsOf, notTuple, cellsOf, List.length_singleton, Nat.mul_one, Nat.zero_mul, Nat.zero_add]
  exact propext ⟨fun h => h.2.2.2, fun h => ⟨trivial, by decide, by decide, h⟩⟩

theorem take_snoc {α : Type} {l : List α} {k : Nat} {d : α} (hk : k < l.length) : l.take (k + 1) = l.take k ++ [l.getD k d] := by
  rw [List.take_succ, List.getElem?_eq_getElem hk, List.getD, List.getElem?_eq_getElem hk]; rfl

end Go.Proofs.Try.Am

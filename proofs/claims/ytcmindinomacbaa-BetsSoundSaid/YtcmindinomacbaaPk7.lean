/-
  Printed by gen.py: the code of some functions, without what no step looks at; held against the program's own by the kernel.
  bets: chances: their checks, sums over an event, parts.
  Printed by gen.py: the code of some functions, without what no step looks at; held against the program's own by the kernel.
  Printed by gen.py: the code of some functions, without what no step looks at; held against the program's own by the kernel.
  bets: parts as numbers; a slice of parts; the program's checks of chances; the chance of an event.
  bets: the program's forecasts: checks over all elements, the chance of an event.
  bets: forecasts, in the program and in the reference.
-/
import Derived.Test.YtcmindinomacbaaPk3
import Derived.Test.YtcmindinomacbaaProg
import Derived.KernelRfl
import Derived.Shelf.Abstract
import Derived.Test.YtcmindinomacbaaPk6
set_option linter.all false
namespace Go.Proofs.Try.Am
open Go.Am
set_option maxRecDepth 100000
/-! 18: planchet planchetlaw09.Of -/
@[reducible] def q18_0 : SCode := .region [⟨some 2, .assign (.const (.slice none 0 0)), none⟩]
@[reducible] def q18_1 : SCode := .region [⟨some 3, .assign (.const (.slice none 0 0)), none⟩]
@[reducible] def q18_2 : SCode := .region [⟨some 6, .move (.tmp 0), none⟩,
    ⟨some 7, .call { callee := .builtin .len, args := #[.tmp 6], argTypes := #[22] }, none⟩,
    ⟨some 8, .move (.const (.int .i64 0)), none⟩]
@[reducible] def q18_3 : SCode := .region [⟨some 9, .binOp .lss 3 (.tmp 8) (.tmp 7) 3, none⟩]
@[reducible] def q18_4 : SCode := .region [⟨some 10, .move (.tmp 8), none⟩,
    ⟨some 11, .indexAddr 22 (.tmp 6) (.tmp 8), none⟩,
    ⟨some 12, .load 24 (.tmp 11), none⟩,
    ⟨some 5, .alloc 24, none⟩,
    ⟨some 4, .assign (.tmp 10), none⟩,
    ⟨none, .store 24 (.tmp 5) (.tmp 12), none⟩]
@[reducible] def q18_5 : SCode := .region [⟨some 13, .move (.tmp 4), none⟩,
    ⟨some 14, .binOp .lss 3 (.tmp 13) (.const (.int .i64 9)) 3, none⟩]
@[reducible] def q18_6 : SCode := .region [⟨some 15, .move (.tmp 3), none⟩,
    ⟨some 16, .fieldAddr 24 (.tmp 5) 0, none⟩,
    ⟨some 17, .load 3 (.tmp 16), none⟩,
    ⟨some 18, .fieldAddr 24 (.tmp 5) 1, none⟩,
    ⟨some 19, .load 3 (.tmp 18), none⟩,
    ⟨some 20, .build 92 #[(0, .tmp 17), (1, .tmp 19)], none⟩,
    ⟨some 21, .buildSlice 30 1 #[(0, .tmp 20)], none⟩,
    ⟨some 22, .call { callee := .builtin .append, args := #[.tmp 15, .tmp 21], argTypes := #[30, 30] }, none⟩,
    ⟨some 3, .assign (.tmp 22), none⟩]
@[reducible] def q18_7 : SCode := .region [⟨some 23, .binOp .add 3 (.tmp 8) (.const (.int .i64 1)) 3, none⟩,
    ⟨some 8, .move (.tmp 23), none⟩]
def l18_0 : SCode := (.seq q18_3 (.seq (.cond (.tmp 9) .skip (.exit 0)) (.seq (.block 1 (.seq q18_4 (.seq q18_5 (.cond (.tmp 14) q18_6 .skip)))) q18_7)))
@[reducible] def q18_8 : SCode := .region [⟨some 24, .move (.tmp 3), none⟩,
    ⟨some 2, .assign (.tmp 24), none⟩]
def s18 : SCode := (.seq q18_0 (.seq q18_1 (.seq (.seq q18_2 (.block 0 (.loop l18_0))) (.seq q18_8 .ret))))
theorem s18_strip : Zz (Zu Try.f18) = s18 := by kernel_rfl
theorem s18_ok : Yl 25 (Zu Try.f18) = true := by kernel_rfl
/-! 20: planchet planchetref09.Bets -/
@[reducible] def q20_0 : SCode := .region [⟨some 4, .assign (.const (.bool false)), none⟩]
@[reducible] def q20_1 : SCode := .region [⟨some 9, .move (.tmp 0), none⟩,
    ⟨some 10, .call { callee := .value (.func 63), args := #[.tmp 9], argTypes := #[3] }, none⟩,
    ⟨some 11, .unOp .not 4 (.tmp 10), none⟩,
    ⟨some 12, .move (.tmp 11), none⟩,
    ⟨some 13, .move (.tmp 1), some (12, false)⟩,
    ⟨some 14, .call { callee := .builtin .len, args := #[.tmp 13], argTypes := #[22] }, some (12, false)⟩,
    ⟨some 15, .binOp .lss 3 (.tmp 14) (.const (.int .i64 1)) 3, some (12, false)⟩,
    ⟨some 16, .pick (.tmp 12) (.const (.bool true)) (.tmp 15), none⟩,
    ⟨some 17, .move (.tmp 16), none⟩,
    ⟨some 18, .move (.tmp 1), some (17, false)⟩,
    ⟨some 19, .call { callee := .builtin .len, args := #[.tmp 18], argTypes := #[22] }, some (17, false)⟩,
    ⟨some 20, .binOp .gtr 3 (.tmp 19) (.const (.int .i64 6)) 3, some (17, false)⟩,
    ⟨some 21, .pick (.tmp 17) (.const (.bool true)) (.tmp 20), none⟩]
@[reducible] def q20_2 : SCode := .region [⟨some 4, .assign (.const (.bool false)), none⟩]
@[reducible] def q20_3 : SCode := .region [⟨some 22, .move (.tmp 1), none⟩,
    ⟨some 23, .call { callee := .builtin .len, args := #[.tmp 22], argTypes := #[22] }, none⟩,
    ⟨some 24, .move (.const (.int .i64 0)), none⟩]
@[reducible] def q20_4 : SCode := .region [⟨some 25, .binOp .lss 3 (.tmp 24) (.tmp 23) 3, none⟩]
@[reducible] def q20_5 : SCode := .region [⟨some 26, .move (.tmp 24), none⟩,
    ⟨some 27, .indexAddr 22 (.tmp 22) (.tmp 24), none⟩,
    ⟨some 28, .load 24 (.tmp 27), none⟩,
    ⟨some 6, .alloc 24, none⟩,
    ⟨some 5, .assign (.tmp 26), none⟩,
    ⟨none, .store 24 (.tmp 6) (.tmp 28), none⟩]
@[reducible] def q20_6 : SCode := .region [⟨some 29, .move (.tmp 0), none⟩,
    ⟨some 30, .fieldAddr 24 (.tmp 6) 0, none⟩,
    ⟨some 31, .load 3 (.tmp 30), none⟩,
    ⟨some 32, .call { callee := .value (.func 25), args := #[.tmp 29, .tmp 31], argTypes := #[3, 3] }, none⟩,
    ⟨some 33, .unOp .not 4 (.tmp 32), none⟩,
    ⟨some 34, .move (.tmp 33), none⟩,
    ⟨some 35, .fieldAddr 24 (.tmp 6) 1, some (34, false)⟩,
    ⟨some 36, .load 3 (.tmp 35), some (34, false)⟩,
    ⟨some 37, .binOp .lss 3 (.tmp 36) (.const (.int .i64 0)) 3, some (34, false)⟩,
    ⟨some 38, .pick (.tmp 34) (.const (.bool true)) (.tmp 37), none⟩,
    ⟨some 39, .move (.tmp 38), none⟩,
    ⟨some 40, .fieldAddr 24 (.tmp 6) 1, some (39, false)⟩,
    ⟨some 41, .load 3 (.tmp 40), some (39, false)⟩,
    ⟨some 42, .binOp .gtr 3 (.tmp 41) (.const (.int .i64 12)) 3, some (39, false)⟩,
    ⟨some 43, .pick (.tmp 39) (.const (.bool true)) (.tmp 42), none⟩]
@[reducible] def q20_7 : SCode := .region [⟨some 4, .assign (.const (.bool false)), none⟩]
@[reducible] def q20_8 : SCode := .region [⟨some 44, .move (.tmp 1), none⟩,
    ⟨some 45, .move (.tmp 5), none⟩,
    ⟨some 46, .slice 22 (.tmp 44) none (some (.tmp 45)) none, none⟩,
    ⟨some 47, .call { callee := .builtin .len, args := #[.tmp 46], argTypes := #[22] }, none⟩,
    ⟨some 48, .move (.const (.int .i64 0)), none⟩]
@[reducible] def q20_9 : SCode := .region [⟨some 49, .binOp .lss 3 (.tmp 48) (.tmp 47) 3, none⟩]
@[reducible] def q20_10 : SCode := .region [⟨some 50, .indexAddr 22 (.tmp 46) (.tmp 48), none⟩,
    ⟨some 51, .load 24 (.tmp 50), none⟩,
    ⟨some 8, .alloc 24, none⟩,
    ⟨none, .store 24 (.tmp 8) (.tmp 51), none⟩]
@[reducible] def q20_11 : SCode := .region [⟨some 52, .fieldAddr 24 (.tmp 6) 0, none⟩,
    ⟨some 53, .load 3 (.tmp 52), none⟩,
    ⟨some 54, .fieldAddr 24 (.tmp 8) 0, none⟩,
    ⟨some 55, .load 3 (.tmp 54), none⟩,
    ⟨some 56, .binOp .eql 3 (.tmp 53) (.tmp 55) 3, none⟩]
@[reducible] def q20_12 : SCode := .region [⟨some 4, .assign (.const (.bool false)), none⟩]
@[reducible] def q20_13 : SCode := .region [⟨some 57, .binOp .add 3 (.tmp 48) (.const (.int .i64 1)) 3, none⟩,
    ⟨some 48, .move (.tmp 57), none⟩]
def l20_0 : SCode := (.seq q20_9 (.seq (.cond (.tmp 49) .skip (.exit 2)) (.seq (.block 3 (.seq q20_10 (.seq q20_11 (.cond (.tmp 56) (.seq q20_12 .ret) .skip)))) q20_13)))
@[reducible] def q20_14 : SCode := .region [⟨some 58, .binOp .add 3 (.tmp 24) (.const (.int .i64 1)) 3, none⟩,
    ⟨some 24, .move (.tmp 58), none⟩]
def l20_1 : SCode := (.seq q20_4 (.seq (.cond (.tmp 25) .skip (.exit 0)) (.seq (.block 1 (.seq q20_5 (.seq (.seq q20_6 (.cond (.tmp 43) (.seq q20_7 .ret) .skip)) (.seq q20_8 (.block 2 (.loop l20_0)))))) q20_14)))
@[reducible] def q20_15 : SCode := .region [⟨some 4, .assign (.const (.bool true)), none⟩]
def s20 : SCode := (.seq q20_0 (.seq (.seq q20_1 (.cond (.tmp 21) (.seq q20_2 .ret) .skip)) (.seq (.seq q20_3 (.block 0 (.loop l20_1))) (.seq q20_15 .ret))))
theorem s20_strip : Zz (Zu Try.f20) = s20 := by kernel_rfl
theorem s20_ok : Yl 59 (Zu Try.f20) = true := by kernel_rfl
/-! 25: planchet planchetref09.Event -/
@[reducible] def q25_0 : SCode := .region [⟨some 4, .assign (.const (.bool false)), none⟩]
@[reducible] def q25_1 : SCode := .region [⟨some 5, .move (.tmp 1), none⟩,
    ⟨some 6, .binOp .geq 3 (.tmp 5) (.const (.int .i64 0)) 3, none⟩,
    ⟨some 7, .move (.tmp 6), none⟩,
    ⟨some 8, .move (.tmp 1), some (7, true)⟩,
    ⟨some 9, .move (.tmp 0), some (7, true)⟩,
    ⟨some 10, .binOp .shl 3 (.const (.int .i64 1)) (.tmp 9) 3, some (7, true)⟩,
    ⟨some 11, .binOp .lss 3 (.tmp 8) (.tmp 10) 3, some (7, true)⟩,
    ⟨some 12, .pick (.tmp 7) (.tmp 11) (.const (.bool false)), none⟩,
    ⟨some 4, .assign (.tmp 12), none⟩]
def s25 : SCode := (.seq q25_0 (.seq q25_1 .ret))
theorem s25_strip : Zz (Zu Try.f25) = s25 := by kernel_rfl
theorem s25_ok : Yl 13 (Zu Try.f25) = true := by kernel_rfl
/-! 27: planchet planchetref09.Sound -/
@[reducible] def q27_0 : SCode := .region [⟨some 4, .assign (.const (.bool false)), none⟩]
@[reducible] def q27_1 : SCode := .region [⟨some 5, .move (.tmp 0), none⟩,
    ⟨some 6, .move (.tmp 1), none⟩,
    ⟨some 7, .call { callee := .value (.func 65), args := #[.tmp 5, .tmp 6], argTypes := #[3, 22] }, none⟩,
    ⟨some 8, .call { callee := .builtin .len, args := #[.tmp 7], argTypes := #[94] }, none⟩,
    ⟨some 9, .binOp .gtr 3 (.tmp 8) (.const (.int .i64 0)) 3, none⟩,
    ⟨some 4, .assign (.tmp 9), none⟩]
def s27 : SCode := (.seq q27_0 (.seq q27_1 .ret))
theorem s27_strip : Zz (Zu Try.f27) = s27 := by kernel_rfl
theorem s27_ok : Yl 10 (Zu Try.f27) = true := by kernel_rfl
/-! 61: (planchet bets.belief).of -/
@[reducible] def q61_0 : SCode := .region [⟨some 4, .alloc 26, none⟩]
@[reducible] def q61_1 : SCode := .region [⟨some 8, .call { callee := .value (.func 70), args := #[.const (.int .i64 0)], argTypes := #[3] }, none⟩,
    ⟨some 5, .alloc 26, none⟩,
    ⟨none, .store 26 (.tmp 5) (.tmp 8), none⟩]
@[reducible] def q61_2 : SCode := .region [⟨some 9, .move (.tmp 0), none⟩,
    ⟨some 10, .call { callee := .builtin .len, args := #[.tmp 9], argTypes := #[90] }, none⟩,
    ⟨some 11, .move (.const (.int .i64 0)), none⟩]
@[reducible] def q61_3 : SCode := .region [⟨some 12, .binOp .lss 3 (.tmp 11) (.tmp 10) 3, none⟩]
@[reducible] def q61_4 : SCode := .region [⟨some 13, .move (.tmp 11), none⟩,
    ⟨some 14, .indexAddr 90 (.tmp 9) (.tmp 11), none⟩,
    ⟨some 15, .load 26 (.tmp 14), none⟩,
    ⟨some 7, .alloc 26, none⟩,
    ⟨some 6, .assign (.tmp 13), none⟩,
    ⟨none, .store 26 (.tmp 7) (.tmp 15), none⟩]
@[reducible] def q61_5 : SCode := .region [⟨some 16, .move (.tmp 1), none⟩,
    ⟨some 17, .move (.tmp 6), none⟩,
    ⟨some 18, .binOp .shr 3 (.tmp 16) (.tmp 17) 3, none⟩,
    ⟨some 19, .binOp .and 3 (.tmp 18) (.const (.int .i64 1)) 3, none⟩,
    ⟨some 20, .binOp .eql 3 (.tmp 19) (.const (.int .i64 1)) 3, none⟩]
@[reducible] def q61_6 : SCode := .region [⟨some 21, .load 26 (.tmp 5), none⟩,
    ⟨some 22, .load 26 (.tmp 7), none⟩,
    ⟨some 23, .call { callee := .value (.func 71), args := #[.tmp 21, .const (.int .i64 1), .tmp 22], argTypes := #[26, 3, 26] }, none⟩,
    ⟨none, .store 26 (.tmp 5) (.tmp 23), none⟩]
@[reducible] def q61_7 : SCode := .region [⟨some 24, .binOp .add 3 (.tmp 11) (.const (.int .i64 1)) 3, none⟩,
    ⟨some 11, .move (.tmp 24), none⟩]
def l61_0 : SCode := (.seq q61_3 (.seq (.cond (.tmp 12) .skip (.exit 0)) (.seq (.block 1 (.seq q61_4 (.seq q61_5 (.cond (.tmp 20) q61_6 .skip)))) q61_7)))
@[reducible] def q61_8 : SCode := .region [⟨some 25, .load 26 (.tmp 5), none⟩,
    ⟨none, .store 26 (.tmp 4) (.tmp 25), none⟩]
def s61 : SCode := (.seq q61_0 (.seq q61_1 (.seq (.seq q61_2 (.block 0 (.loop l61_0))) (.seq q61_8 .ret))))
theorem s61_strip : Zz (Zu Try.f61) = s61 := by kernel_rfl
theorem s61_ok : Yl 26 (Zu Try.f61) = true := by kernel_rfl
/-! 65: planchet planchetref09.Corners -/
@[reducible] def q65_0 : SCode := .region [⟨some 4, .assign (.const (.slice none 0 0)), none⟩]
@[reducible] def q65_1 : SCode := .region [⟨some 5, .assign (.const (.slice none 0 0)), none⟩]
@[reducible] def q65_2 : SCode := .region [⟨some 6, .assign (.const (.int .i64 1)), none⟩]
@[reducible] def q65_3 : SCode := .region [⟨some 9, .move (.tmp 6), none⟩,
    ⟨some 10, .move (.tmp 0), none⟩,
    ⟨some 11, .binOp .shl 3 (.const (.int .i64 1)) (.tmp 10) 3, none⟩,
    ⟨some 12, .binOp .lss 3 (.tmp 9) (.tmp 11) 3, none⟩]
@[reducible] def q65_5 : SCode := .region [⟨some 15, .move (.tmp 0), none⟩,
    ⟨some 16, .move (.tmp 6), none⟩,
    ⟨some 17, .call { callee := .value (.func 103), args := #[.tmp 15, .tmp 16], argTypes := #[3, 3] }, none⟩,
    ⟨some 18, .call { callee := .builtin .len, args := #[.tmp 17], argTypes := #[38] }, none⟩,
    ⟨some 19, .move (.tmp 1), none⟩,
    ⟨some 20, .call { callee := .builtin .len, args := #[.tmp 19], argTypes := #[22] }, none⟩,
    ⟨some 21, .binOp .add 3 (.tmp 20) (.const (.int .i64 1)) 3, none⟩,
    ⟨some 22, .binOp .gtr 3 (.tmp 18) (.tmp 21) 3, none⟩]
@[reducible] def q65_6 : SCode := .region [⟨some 24, .move (.tmp 0), none⟩,
    ⟨some 25, .move (.tmp 1), none⟩,
    ⟨some 26, .move (.tmp 6), none⟩,
    ⟨some 27, .call { callee := .value (.func 104), args := #[.tmp 24, .tmp 25, .tmp 26], argTypes := #[3, 22, 3] }, none⟩,
    ⟨some 23, .move (.tmp 27), none⟩,
    ⟨some 28, .extract (.tmp 23) 0, none⟩,
    ⟨some 29, .extract (.tmp 23) 1, none⟩,
    ⟨some 7, .assign (.tmp 28), none⟩,
    ⟨some 8, .assign (.tmp 29), none⟩]
@[reducible] def q65_7 : SCode := .region [⟨some 30, .move (.tmp 8), none⟩]
@[reducible] def q65_8 : SCode := .region [⟨some 31, .move (.tmp 5), none⟩,
    ⟨some 32, .move (.tmp 7), none⟩,
    ⟨some 33, .buildSlice 94 1 #[(0, .tmp 32)], none⟩,
    ⟨some 34, .call { callee := .builtin .append, args := #[.tmp 31, .tmp 33], argTypes := #[94, 94] }, none⟩,
    ⟨some 5, .assign (.tmp 34), none⟩]
@[reducible] def q65_4 : SCode := .region [⟨some 13, .move (.tmp 6), none⟩,
    ⟨some 14, .binOp .add 3 (.tmp 13) (.const (.int .i64 1)) 3, none⟩,
    ⟨some 6, .assign (.tmp 14), none⟩]
def l65_0 : SCode := (.seq (.seq q65_3 (.cond (.tmp 12) .skip (.exit 0))) (.seq (.block 1 (.seq (.seq q65_5 (.cond (.tmp 22) (.exit 1) .skip)) (.seq q65_6 (.seq q65_7 (.cond (.tmp 30) q65_8 .skip))))) q65_4))
@[reducible] def q65_9 : SCode := .region [⟨some 35, .move (.tmp 5), none⟩,
    ⟨some 4, .assign (.tmp 35), none⟩]
def s65 : SCode := (.seq q65_0 (.seq q65_1 (.seq (.seq q65_2 (.block 0 (.loop l65_0))) (.seq q65_9 .ret))))
theorem s65_strip : Zz (Zu Try.f65) = s65 := by kernel_rfl
theorem s65_ok : Yl 36 (Zu Try.f65) = true := by kernel_rfl
/-! 103: planchet planchetref09.worldsOf -/
@[reducible] def q103_0 : SCode := .region [⟨some 4, .assign (.const (.slice none 0 0)), none⟩]
@[reducible] def q103_1 : SCode := .region [⟨some 5, .assign (.const (.slice none 0 0)), none⟩]
@[reducible] def q103_2 : SCode := .region [⟨some 7, .move (.tmp 0), none⟩,
    ⟨some 8, .move (.const (.int .i64 0)), none⟩]
@[reducible] def q103_3 : SCode := .region [⟨some 9, .binOp .lss 3 (.tmp 8) (.tmp 7) 3, none⟩]
@[reducible] def q103_4 : SCode := .region [⟨some 10, .move (.tmp 8), none⟩,
    ⟨some 6, .assign (.tmp 10), none⟩]
@[reducible] def q103_5 : SCode := .region [⟨some 11, .move (.tmp 1), none⟩,
    ⟨some 12, .move (.tmp 6), none⟩,
    ⟨some 13, .binOp .shr 3 (.tmp 11) (.tmp 12) 3, none⟩,
    ⟨some 14, .binOp .and 3 (.tmp 13) (.const (.int .i64 1)) 3, none⟩,
    ⟨some 15, .binOp .eql 3 (.tmp 14) (.const (.int .i64 1)) 3, none⟩]
@[reducible] def q103_6 : SCode := .region [⟨some 16, .move (.tmp 5), none⟩,
    ⟨some 17, .move (.tmp 6), none⟩,
    ⟨some 18, .buildSlice 38 1 #[(0, .tmp 17)], none⟩,
    ⟨some 19, .call { callee := .builtin .append, args := #[.tmp 16, .tmp 18], argTypes := #[38, 38] }, none⟩,
    ⟨some 5, .assign (.tmp 19), none⟩]
@[reducible] def q103_7 : SCode := .region [⟨some 20, .binOp .add 3 (.tmp 8) (.const (.int .i64 1)) 3, none⟩,
    ⟨some 8, .move (.tmp 20), none⟩]
def l103_0 : SCode := (.seq q103_3 (.seq (.cond (.tmp 9) .skip (.exit 0)) (.seq (.block 1 (.seq q103_4 (.seq q103_5 (.cond (.tmp 15) q103_6 .skip)))) q103_7)))
@[reducible] def q103_8 : SCode := .region [⟨some 21, .move (.tmp 5), none⟩,
    ⟨some 4, .assign (.tmp 21), none⟩]
def s103 : SCode := (.seq q103_0 (.seq q103_1 (.seq (.seq q103_2 (.block 0 (.loop l103_0))) (.seq q103_8 .ret))))
theorem s103_strip : Zz (Zu Try.f103) = s103 := by kernel_rfl
theorem s103_ok : Yl 22 (Zu Try.f103) = true := by kernel_rfl
/-! 104: planchet planchetref09.corner -/
@[reducible] def q104_0 : SCode := .region [⟨some 6, .assign (.const (.slice none 0 0)), none⟩,
    ⟨some 7, .assign (.const (.bool false)), none⟩]
@[reducible] def q104_1 : SCode := .region [⟨some 8, .assign (.const (.slice none 0 0)), none⟩]
@[reducible] def q104_2 : SCode := .region [⟨some 30, .move (.tmp 0), none⟩,
    ⟨some 31, .move (.const (.int .i64 0)), none⟩]
@[reducible] def q104_3 : SCode := .region [⟨some 32, .binOp .lss 3 (.tmp 31) (.tmp 30) 3, none⟩]
@[reducible] def q104_4 : SCode := .region [⟨some 33, .move (.tmp 31), none⟩,
    ⟨some 9, .assign (.tmp 33), none⟩]
@[reducible] def q104_5 : SCode := .region [⟨some 34, .move (.tmp 2), none⟩,
    ⟨some 35, .move (.tmp 9), none⟩,
    ⟨some 36, .binOp .shr 3 (.tmp 34) (.tmp 35) 3, none⟩,
    ⟨some 37, .binOp .and 3 (.tmp 36) (.const (.int .i64 1)) 3, none⟩,
    ⟨some 38, .binOp .eql 3 (.tmp 37) (.const (.int .i64 1)) 3, none⟩]
@[reducible] def q104_6 : SCode := .region [⟨some 39, .move (.tmp 8), none⟩,
    ⟨some 40, .move (.tmp 9), none⟩,
    ⟨some 41, .buildSlice 38 1 #[(0, .tmp 40)], none⟩,
    ⟨some 42, .call { callee := .builtin .append, args := #[.tmp 39, .tmp 41], argTypes := #[38, 38] }, none⟩,
    ⟨some 8, .assign (.tmp 42), none⟩]
@[reducible] def q104_7 : SCode := .region [⟨some 43, .binOp .add 3 (.tmp 31) (.const (.int .i64 1)) 3, none⟩,
    ⟨some 31, .move (.tmp 43), none⟩]
def l104_0 : SCode := (.seq q104_3 (.seq (.cond (.tmp 32) .skip (.exit 0)) (.seq (.block 1 (.seq q104_4 (.seq q104_5 (.cond (.tmp 38) q104_6 .skip)))) q104_7)))
@[reducible] def q104_8 : SCode := .region [⟨some 10, .assign (.const (.slice none 0 0)), none⟩]
@[reducible] def q104_9 : SCode := .region [⟨some 44, .move (.tmp 1), none⟩,
    ⟨some 45, .call { callee := .builtin .len, args := #[.tmp 44], argTypes := #[22] }, none⟩,
    ⟨some 46, .binOp .add 3 (.tmp 45) (.const (.int .i64 1)) 3, none⟩,
    ⟨some 47, .move (.const (.int .i64 0)), none⟩]
@[reducible] def q104_10 : SCode := .region [⟨some 48, .binOp .lss 3 (.tmp 47) (.tmp 46) 3, none⟩]
@[reducible] def q104_11 : SCode := .region [⟨some 49, .move (.tmp 47), none⟩,
    ⟨some 11, .assign (.tmp 49), none⟩]
@[reducible] def q104_12 : SCode := .region [⟨some 12, .assign (.const (.slice none 0 0)), none⟩]
@[reducible] def q104_13 : SCode := .region [⟨some 50, .move (.tmp 8), none⟩,
    ⟨some 51, .call { callee := .builtin .len, args := #[.tmp 50], argTypes := #[38] }, none⟩,
    ⟨some 52, .move (.const (.int .i64 0)), none⟩]
@[reducible] def q104_14 : SCode := .region [⟨some 53, .binOp .lss 3 (.tmp 52) (.tmp 51) 3, none⟩]
@[reducible] def q104_15 : SCode := .region [⟨some 54, .indexAddr 38 (.tmp 50) (.tmp 52), none⟩,
    ⟨some 55, .load 3 (.tmp 54), none⟩,
    ⟨some 14, .assign (.tmp 55), none⟩]
@[reducible] def q104_16 : SCode := .region [⟨some 56, .move (.tmp 11), none⟩,
    ⟨some 57, .move (.tmp 1), none⟩,
    ⟨some 58, .call { callee := .builtin .len, args := #[.tmp 57], argTypes := #[22] }, none⟩,
    ⟨some 59, .binOp .eql 3 (.tmp 56) (.tmp 58) 3, none⟩,
    ⟨some 60, .move (.tmp 59), none⟩,
    ⟨some 61, .move (.tmp 1), some (60, false)⟩,
    ⟨some 62, .move (.tmp 11), some (60, false)⟩,
    ⟨some 63, .indexAddr 22 (.tmp 61) (.tmp 62), some (60, false)⟩,
    ⟨some 64, .fieldAddr 24 (.tmp 63) 0, some (60, false)⟩,
    ⟨some 65, .load 3 (.tmp 64), some (60, false)⟩,
    ⟨some 66, .move (.tmp 14), some (60, false)⟩,
    ⟨some 67, .binOp .shr 3 (.tmp 65) (.tmp 66) 3, some (60, false)⟩,
    ⟨some 68, .binOp .and 3 (.tmp 67) (.const (.int .i64 1)) 3, some (60, false)⟩,
    ⟨some 69, .binOp .eql 3 (.tmp 68) (.const (.int .i64 1)) 3, some (60, false)⟩,
    ⟨some 70, .pick (.tmp 60) (.const (.bool true)) (.tmp 69), none⟩]
@[reducible] def q104_17 : SCode := .region [⟨some 71, .move (.tmp 12), none⟩,
    ⟨some 72, .call { callee := .value (.func 66), args := #[.const (.int .i64 1)], argTypes := #[3] }, none⟩,
    ⟨some 73, .buildSlice 47 1 #[(0, .tmp 72)], none⟩,
    ⟨some 74, .call { callee := .builtin .append, args := #[.tmp 71, .tmp 73], argTypes := #[47, 47] }, none⟩,
    ⟨some 12, .assign (.tmp 74), none⟩]
@[reducible] def q104_18 : SCode := .region [⟨some 75, .move (.tmp 12), none⟩,
    ⟨some 76, .call { callee := .value (.func 66), args := #[.const (.int .i64 0)], argTypes := #[3] }, none⟩,
    ⟨some 77, .buildSlice 47 1 #[(0, .tmp 76)], none⟩,
    ⟨some 78, .call { callee := .builtin .append, args := #[.tmp 75, .tmp 77], argTypes := #[47, 47] }, none⟩,
    ⟨some 12, .assign (.tmp 78), none⟩]
@[reducible] def q104_19 : SCode := .region [⟨some 79, .binOp .add 3 (.tmp 52) (.const (.int .i64 1)) 3, none⟩,
    ⟨some 52, .move (.tmp 79), none⟩]
def l104_1 : SCode := (.seq q104_14 (.seq (.cond (.tmp 53) .skip (.exit 4)) (.seq (.block 5 (.seq q104_15 (.seq q104_16 (.cond (.tmp 70) q104_17 q104_18)))) q104_19)))
@[reducible] def q104_20 : SCode := .region [⟨some 80, .move (.tmp 11), none⟩,
    ⟨some 81, .move (.tmp 1), none⟩,
    ⟨some 82, .call { callee := .builtin .len, args := #[.tmp 81], argTypes := #[22] }, none⟩,
    ⟨some 83, .binOp .eql 3 (.tmp 80) (.tmp 82) 3, none⟩]
@[reducible] def q104_21 : SCode := .region [⟨some 84, .move (.tmp 12), none⟩,
    ⟨some 85, .call { callee := .value (.func 66), args := #[.const (.int .i64 1)], argTypes := #[3] }, none⟩,
    ⟨some 86, .buildSlice 47 1 #[(0, .tmp 85)], none⟩,
    ⟨some 87, .call { callee := .builtin .append, args := #[.tmp 84, .tmp 86], argTypes := #[47, 47] }, none⟩,
    ⟨some 12, .assign (.tmp 87), none⟩]
@[reducible] def q104_22 : SCode := .region [⟨some 88, .move (.tmp 12), none⟩,
    ⟨some 89, .move (.tmp 1), none⟩,
    ⟨some 90, .move (.tmp 11), none⟩,
    ⟨some 91, .indexAddr 22 (.tmp 89) (.tmp 90), none⟩,
    ⟨some 92, .fieldAddr 24 (.tmp 91) 1, none⟩,
    ⟨some 93, .load 3 (.tmp 92), none⟩,
    ⟨some 94, .call { callee := .value (.func 68), args := #[.tmp 93, .const (.int .i64 12)], argTypes := #[3, 3] }, none⟩,
    ⟨some 95, .buildSlice 47 1 #[(0, .tmp 94)], none⟩,
    ⟨some 96, .call { callee := .builtin .append, args := #[.tmp 88, .tmp 95], argTypes := #[47, 47] }, none⟩,
    ⟨some 12, .assign (.tmp 96), none⟩]
@[reducible] def q104_23 : SCode := .region [⟨some 97, .move (.tmp 10), none⟩,
    ⟨some 98, .move (.tmp 12), none⟩,
    ⟨some 99, .buildSlice 94 1 #[(0, .tmp 98)], none⟩,
    ⟨some 100, .call { callee := .builtin .append, args := #[.tmp 97, .tmp 99], argTypes := #[94, 94] }, none⟩,
    ⟨some 10, .assign (.tmp 100), none⟩]
@[reducible] def q104_24 : SCode := .region [⟨some 101, .binOp .add 3 (.tmp 47) (.const (.int .i64 1)) 3, none⟩,
    ⟨some 47, .move (.tmp 101), none⟩]
def l104_2 : SCode := (.seq q104_10 (.seq (.cond (.tmp 48) .skip (.exit 2)) (.seq (.block 3 (.seq q104_11 (.seq q104_12 (.seq (.seq q104_13 (.block 4 (.loop l104_1))) (.seq (.seq q104_20 (.cond (.tmp 83) q104_21 q104_22)) q104_23))))) q104_24)))
@[reducible] def q104_25 : SCode := .region [⟨some 102, .move (.tmp 8), none⟩,
    ⟨some 103, .call { callee := .builtin .len, args := #[.tmp 102], argTypes := #[38] }, none⟩,
    ⟨some 15, .assign (.tmp 103), none⟩]
@[reducible] def q104_26 : SCode := .region [⟨some 104, .move (.tmp 15), none⟩,
    ⟨some 105, .move (.const (.int .i64 0)), none⟩]
@[reducible] def q104_27 : SCode := .region [⟨some 106, .binOp .lss 3 (.tmp 105) (.tmp 104) 3, none⟩]
@[reducible] def q104_28 : SCode := .region [⟨some 107, .move (.tmp 105), none⟩,
    ⟨some 16, .assign (.tmp 107), none⟩]
@[reducible] def q104_29 : SCode := .region [⟨some 108, .move (.tmp 16), none⟩,
    ⟨some 17, .assign (.tmp 108), none⟩]
@[reducible] def q104_30 : SCode := .region [⟨some 109, .move (.tmp 17), none⟩,
    ⟨some 110, .move (.tmp 10), none⟩,
    ⟨some 111, .call { callee := .builtin .len, args := #[.tmp 110], argTypes := #[94] }, none⟩,
    ⟨some 112, .binOp .lss 3 (.tmp 109) (.tmp 111) 3, none⟩,
    ⟨some 113, .move (.tmp 112), none⟩,
    ⟨some 114, .move (.tmp 10), some (113, true)⟩,
    ⟨some 115, .move (.tmp 17), some (113, true)⟩,
    ⟨some 116, .indexAddr 94 (.tmp 114) (.tmp 115), some (113, true)⟩,
    ⟨some 117, .load 47 (.tmp 116), some (113, true)⟩,
    ⟨some 118, .move (.tmp 16), some (113, true)⟩,
    ⟨some 119, .indexAddr 47 (.tmp 117) (.tmp 118), some (113, true)⟩,
    ⟨some 120, .fieldAddr 26 (.tmp 119) 0, some (113, true)⟩,
    ⟨some 121, .load 3 (.tmp 120), some (113, true)⟩,
    ⟨some 122, .binOp .eql 3 (.tmp 121) (.const (.int .i64 0)) 3, some (113, true)⟩,
    ⟨some 123, .pick (.tmp 113) (.tmp 122) (.const (.bool false)), none⟩]
@[reducible] def q104_31 : SCode := .region [⟨some 124, .move (.tmp 17), none⟩,
    ⟨some 125, .binOp .add 3 (.tmp 124) (.const (.int .i64 1)) 3, none⟩,
    ⟨some 17, .assign (.tmp 125), none⟩]
def l104_3 : SCode := (.seq (.seq q104_30 (.cond (.tmp 123) .skip (.exit 8))) (.block 9 q104_31))
@[reducible] def q104_32 : SCode := .region [⟨some 126, .move (.tmp 17), none⟩,
    ⟨some 127, .move (.tmp 10), none⟩,
    ⟨some 128, .call { callee := .builtin .len, args := #[.tmp 127], argTypes := #[94] }, none⟩,
    ⟨some 129, .binOp .eql 3 (.tmp 126) (.tmp 128) 3, none⟩]
@[reducible] def q104_33 : SCode := .region [⟨some 6, .assign (.const (.slice none 0 0)), none⟩,
    ⟨some 7, .assign (.const (.bool false)), none⟩]
@[reducible] def q104_34 : SCode := .region [⟨some 130, .move (.tmp 10), none⟩,
    ⟨some 131, .move (.tmp 17), none⟩,
    ⟨some 132, .indexAddr 94 (.tmp 130) (.tmp 131), none⟩,
    ⟨some 133, .load 47 (.tmp 132), none⟩,
    ⟨some 18, .assign (.tmp 133), none⟩]
@[reducible] def q104_35 : SCode := .region [⟨some 134, .move (.tmp 10), none⟩,
    ⟨some 135, .move (.tmp 17), none⟩,
    ⟨some 136, .move (.tmp 10), none⟩,
    ⟨some 137, .move (.tmp 16), none⟩,
    ⟨some 138, .indexAddr 94 (.tmp 136) (.tmp 137), none⟩,
    ⟨some 139, .load 47 (.tmp 138), none⟩,
    ⟨some 140, .indexAddr 94 (.tmp 134) (.tmp 135), none⟩,
    ⟨none, .store 47 (.tmp 140) (.tmp 139), none⟩]
@[reducible] def q104_36 : SCode := .region [⟨some 141, .move (.tmp 10), none⟩,
    ⟨some 142, .move (.tmp 16), none⟩,
    ⟨some 143, .move (.tmp 18), none⟩,
    ⟨some 144, .indexAddr 94 (.tmp 141) (.tmp 142), none⟩,
    ⟨none, .store 47 (.tmp 144) (.tmp 143), none⟩]
@[reducible] def q104_37 : SCode := .region [⟨some 145, .move (.tmp 18), none⟩,
    ⟨some 146, .move (.tmp 16), none⟩,
    ⟨some 147, .indexAddr 47 (.tmp 145) (.tmp 146), none⟩,
    ⟨some 148, .load 26 (.tmp 147), none⟩,
    ⟨some 19, .alloc 26, none⟩,
    ⟨none, .store 26 (.tmp 19) (.tmp 148), none⟩]
@[reducible] def q104_38 : SCode := .region [⟨some 149, .move (.tmp 18), none⟩,
    ⟨some 150, .call { callee := .builtin .len, args := #[.tmp 149], argTypes := #[47] }, none⟩,
    ⟨some 151, .move (.const (.int .i64 0)), none⟩]
@[reducible] def q104_39 : SCode := .region [⟨some 152, .binOp .lss 3 (.tmp 151) (.tmp 150) 3, none⟩]
@[reducible] def q104_40 : SCode := .region [⟨some 153, .move (.tmp 151), none⟩,
    ⟨some 20, .assign (.tmp 153), none⟩]
def q104_41 : SCode := .draw [⟨some 154, .move (.tmp 18), none⟩,
    ⟨some 155, .move (.tmp 20), none⟩,
    ⟨some 156, .move (.tmp 18), none⟩,
    ⟨some 157, .move (.tmp 20), none⟩,
    ⟨some 158, .indexAddr 47 (.tmp 156) (.tmp 157), none⟩,
    ⟨some 159, .load 26 (.tmp 158), none⟩,
    ⟨some 160, .load 26 (.tmp 19), none⟩,
    ⟨some 161, .call { callee := .value (.func 96), args := #[.tmp 159, .tmp 160], argTypes := #[26, 26] }, none⟩,
    ⟨some 162, .indexAddr 47 (.tmp 154) (.tmp 155), none⟩,
    ⟨none, .store 26 (.tmp 162) (.tmp 161), none⟩]
   [[], [], [], [], [2, 3], [4], [], [5, 6], [0, 1, 0, 1, 2, 3, 4, 5, 6, 7], [8, 7, 7, 0, 1, 2, 3, 4, 5, 6, 7]]
@[reducible] def q104_42 : SCode := .region [⟨some 163, .binOp .add 3 (.tmp 151) (.const (.int .i64 1)) 3, none⟩,
    ⟨some 151, .move (.tmp 163), none⟩]
def l104_4 : SCode := (.seq q104_39 (.seq (.cond (.tmp 152) .skip (.exit 10)) (.seq (.block 11 (.seq q104_40 q104_41)) q104_42)))
@[reducible] def q104_43 : SCode := .region [⟨some 164, .move (.tmp 10), none⟩,
    ⟨some 165, .call { callee := .builtin .len, args := #[.tmp 164], argTypes := #[94] }, none⟩,
    ⟨some 166, .move (.const (.int .i64 0)), none⟩]
@[reducible] def q104_44 : SCode := .region [⟨some 167, .binOp .lss 3 (.tmp 166) (.tmp 165) 3, none⟩]
@[reducible] def q104_45 : SCode := .region [⟨some 168, .move (.tmp 166), none⟩,
    ⟨some 21, .assign (.tmp 168), none⟩]
@[reducible] def q104_46 : SCode := .region [⟨some 169, .move (.tmp 10), none⟩,
    ⟨some 170, .move (.tmp 21), none⟩,
    ⟨some 171, .indexAddr 94 (.tmp 169) (.tmp 170), none⟩,
    ⟨some 172, .load 47 (.tmp 171), none⟩,
    ⟨some 173, .move (.tmp 16), none⟩,
    ⟨some 174, .indexAddr 47 (.tmp 172) (.tmp 173), none⟩,
    ⟨some 175, .load 26 (.tmp 174), none⟩,
    ⟨some 22, .alloc 26, none⟩,
    ⟨none, .store 26 (.tmp 22) (.tmp 175), none⟩]
@[reducible] def q104_47 : SCode := .region [⟨some 176, .move (.tmp 18), none⟩,
    ⟨some 177, .call { callee := .builtin .len, args := #[.tmp 176], argTypes := #[47] }, none⟩,
    ⟨some 178, .move (.const (.int .i64 0)), none⟩]
@[reducible] def q104_48 : SCode := .region [⟨some 179, .binOp .lss 3 (.tmp 178) (.tmp 177) 3, none⟩]
@[reducible] def q104_49 : SCode := .region [⟨some 180, .move (.tmp 178), none⟩,
    ⟨some 23, .assign (.tmp 180), none⟩]
@[reducible] def q104_50 : SCode := .region [⟨some 181, .move (.tmp 21), none⟩,
    ⟨some 182, .move (.tmp 16), none⟩,
    ⟨some 183, .binOp .neq 3 (.tmp 181) (.tmp 182) 3, none⟩]
def q104_51 : SCode := .draw [⟨some 184, .move (.tmp 10), none⟩,
    ⟨some 185, .move (.tmp 21), none⟩,
    ⟨some 186, .indexAddr 94 (.tmp 184) (.tmp 185), none⟩,
    ⟨some 187, .load 47 (.tmp 186), none⟩,
    ⟨some 188, .move (.tmp 23), none⟩,
    ⟨some 189, .move (.tmp 10), none⟩,
    ⟨some 190, .move (.tmp 21), none⟩,
    ⟨some 191, .indexAddr 94 (.tmp 189) (.tmp 190), none⟩,
    ⟨some 192, .load 47 (.tmp 191), none⟩,
    ⟨some 193, .move (.tmp 23), none⟩,
    ⟨some 194, .indexAddr 47 (.tmp 192) (.tmp 193), none⟩,
    ⟨some 195, .load 26 (.tmp 194), none⟩,
    ⟨some 196, .call { callee := .value (.func 66), args := #[.const (.int .i64 (-1))], argTypes := #[3] }, none⟩,
    ⟨some 197, .load 26 (.tmp 22), none⟩,
    ⟨some 198, .move (.tmp 18), none⟩,
    ⟨some 199, .move (.tmp 23), none⟩,
    ⟨some 200, .indexAddr 47 (.tmp 198) (.tmp 199), none⟩,
    ⟨some 201, .load 26 (.tmp 200), none⟩,
    ⟨some 202, .call { callee := .value (.func 97), args := #[.tmp 197, .tmp 201], argTypes := #[26, 26] }, none⟩,
    ⟨some 203, .call { callee := .value (.func 97), args := #[.tmp 196, .tmp 202], argTypes := #[26, 26] }, none⟩,
    ⟨some 204, .call { callee := .value (.func 67), args := #[.tmp 195, .tmp 203], argTypes := #[26, 26] }, none⟩,
    ⟨some 205, .indexAddr 47 (.tmp 187) (.tmp 188), none⟩,
    ⟨none, .store 26 (.tmp 205) (.tmp 204), none⟩]
   [[], [], [0, 1], [2], [], [], [], [5, 6], [7], [], [8, 9], [10], [], [], [], [], [14, 15], [16], [13, 17, 12], [12, 18, 18], [11, 19, 19], [3, 4, 0, 1, 2, 3, 4, 5, 6, 7, 8, 9, 10, 11, 12, 13, 14, 15, 16, 17, 18, 19, 20], [21, 20, 20, 0, 1, 2, 3, 4, 5, 6, 7, 8, 9, 10, 11, 12, 13, 14, 15, 16, 17, 18, 19, 20]]
@[reducible] def q104_52 : SCode := .region [⟨some 206, .binOp .add 3 (.tmp 178) (.const (.int .i64 1)) 3, none⟩,
    ⟨some 178, .move (.tmp 206), none⟩]
def l104_5 : SCode := (.seq q104_48 (.seq (.cond (.tmp 179) .skip (.exit 14)) (.seq (.block 15 (.seq q104_49 (.seq q104_50 (.cond (.tmp 183) q104_51 .skip)))) q104_52)))
@[reducible] def q104_53 : SCode := .region [⟨some 207, .binOp .add 3 (.tmp 166) (.const (.int .i64 1)) 3, none⟩,
    ⟨some 166, .move (.tmp 207), none⟩]
def l104_6 : SCode := (.seq q104_44 (.seq (.cond (.tmp 167) .skip (.exit 12)) (.seq (.block 13 (.seq q104_45 (.seq q104_46 (.seq q104_47 (.block 14 (.loop l104_5)))))) q104_53)))
@[reducible] def q104_54 : SCode := .region [⟨some 208, .binOp .add 3 (.tmp 105) (.const (.int .i64 1)) 3, none⟩,
    ⟨some 105, .move (.tmp 208), none⟩]
def l104_7 : SCode := (.seq q104_27 (.seq (.cond (.tmp 106) .skip (.exit 6)) (.seq (.block 7 (.seq q104_28 (.seq q104_29 (.seq (.block 8 (.loop l104_3)) (.seq (.seq q104_32 (.cond (.tmp 129) (.seq q104_33 .ret) .skip)) (.seq q104_34 (.seq q104_35 (.seq q104_36 (.seq q104_37 (.seq (.seq q104_38 (.block 10 (.loop l104_4))) (.seq q104_43 (.block 12 (.loop l104_6))))))))))))) q104_54)))
@[reducible] def q104_55 : SCode := .region [⟨some 209, .move (.tmp 10), none⟩,
    ⟨some 210, .move (.tmp 15), none⟩,
    ⟨some 211, .slice 94 (.tmp 209) (some (.tmp 210)) none none, none⟩,
    ⟨some 212, .call { callee := .builtin .len, args := #[.tmp 211], argTypes := #[94] }, none⟩,
    ⟨some 213, .move (.const (.int .i64 0)), none⟩]
@[reducible] def q104_56 : SCode := .region [⟨some 214, .binOp .lss 3 (.tmp 213) (.tmp 212) 3, none⟩]
@[reducible] def q104_57 : SCode := .region [⟨some 215, .indexAddr 94 (.tmp 211) (.tmp 213), none⟩,
    ⟨some 216, .load 47 (.tmp 215), none⟩,
    ⟨some 25, .assign (.tmp 216), none⟩]
@[reducible] def q104_58 : SCode := .region [⟨some 217, .move (.tmp 25), none⟩,
    ⟨some 218, .move (.tmp 15), none⟩,
    ⟨some 219, .indexAddr 47 (.tmp 217) (.tmp 218), none⟩,
    ⟨some 220, .fieldAddr 26 (.tmp 219) 0, none⟩,
    ⟨some 221, .load 3 (.tmp 220), none⟩,
    ⟨some 222, .binOp .neq 3 (.tmp 221) (.const (.int .i64 0)) 3, none⟩]
@[reducible] def q104_59 : SCode := .region [⟨some 6, .assign (.const (.slice none 0 0)), none⟩,
    ⟨some 7, .assign (.const (.bool false)), none⟩]
@[reducible] def q104_60 : SCode := .region [⟨some 223, .binOp .add 3 (.tmp 213) (.const (.int .i64 1)) 3, none⟩,
    ⟨some 213, .move (.tmp 223), none⟩]
def l104_8 : SCode := (.seq q104_56 (.seq (.cond (.tmp 214) .skip (.exit 16)) (.seq (.block 17 (.seq q104_57 (.seq q104_58 (.cond (.tmp 222) (.seq q104_59 .ret) .skip)))) q104_60)))
@[reducible] def q104_61 : SCode := .region [⟨some 224, .move (.tmp 0), none⟩,
    ⟨some 225, .makeSlice 47 (.tmp 224) (.tmp 224), none⟩,
    ⟨some 26, .assign (.tmp 225), none⟩]
@[reducible] def q104_62 : SCode := .region [⟨some 226, .move (.tmp 26), none⟩,
    ⟨some 227, .call { callee := .builtin .len, args := #[.tmp 226], argTypes := #[47] }, none⟩,
    ⟨some 228, .move (.const (.int .i64 0)), none⟩]
@[reducible] def q104_63 : SCode := .region [⟨some 229, .binOp .lss 3 (.tmp 228) (.tmp 227) 3, none⟩]
@[reducible] def q104_64 : SCode := .region [⟨some 230, .move (.tmp 228), none⟩,
    ⟨some 27, .assign (.tmp 230), none⟩]
@[reducible] def q104_65 : SCode := .region [⟨some 231, .move (.tmp 26), none⟩,
    ⟨some 232, .move (.tmp 27), none⟩,
    ⟨some 233, .call { callee := .value (.func 66), args := #[.const (.int .i64 0)], argTypes := #[3] }, none⟩,
    ⟨some 234, .indexAddr 47 (.tmp 231) (.tmp 232), none⟩,
    ⟨none, .store 26 (.tmp 234) (.tmp 233), none⟩]
@[reducible] def q104_66 : SCode := .region [⟨some 235, .binOp .add 3 (.tmp 228) (.const (.int .i64 1)) 3, none⟩,
    ⟨some 228, .move (.tmp 235), none⟩]
def l104_9 : SCode := (.seq q104_63 (.seq (.cond (.tmp 229) .skip (.exit 18)) (.seq (.block 19 (.seq q104_64 q104_65)) q104_66)))
@[reducible] def q104_67 : SCode := .region [⟨some 236, .move (.tmp 8), none⟩,
    ⟨some 237, .call { callee := .builtin .len, args := #[.tmp 236], argTypes := #[38] }, none⟩,
    ⟨some 238, .move (.const (.int .i64 0)), none⟩]
@[reducible] def q104_68 : SCode := .region [⟨some 239, .binOp .lss 3 (.tmp 238) (.tmp 237) 3, none⟩]
@[reducible] def q104_69 : SCode := .region [⟨some 240, .move (.tmp 238), none⟩,
    ⟨some 241, .indexAddr 38 (.tmp 236) (.tmp 238), none⟩,
    ⟨some 242, .load 3 (.tmp 241), none⟩,
    ⟨some 28, .assign (.tmp 240), none⟩,
    ⟨some 29, .assign (.tmp 242), none⟩]
@[reducible] def q104_70 : SCode := .region [⟨some 243, .move (.tmp 10), none⟩,
    ⟨some 244, .move (.tmp 28), none⟩,
    ⟨some 245, .indexAddr 94 (.tmp 243) (.tmp 244), none⟩,
    ⟨some 246, .load 47 (.tmp 245), none⟩,
    ⟨some 247, .move (.tmp 15), none⟩,
    ⟨some 248, .indexAddr 47 (.tmp 246) (.tmp 247), none⟩,
    ⟨some 249, .fieldAddr 26 (.tmp 248) 0, none⟩,
    ⟨some 250, .load 3 (.tmp 249), none⟩,
    ⟨some 251, .binOp .lss 3 (.tmp 250) (.const (.int .i64 0)) 3, none⟩]
@[reducible] def q104_71 : SCode := .region [⟨some 6, .assign (.const (.slice none 0 0)), none⟩,
    ⟨some 7, .assign (.const (.bool false)), none⟩]
@[reducible] def q104_72 : SCode := .region [⟨some 252, .move (.tmp 26), none⟩,
    ⟨some 253, .move (.tmp 29), none⟩,
    ⟨some 254, .move (.tmp 10), none⟩,
    ⟨some 255, .move (.tmp 28), none⟩,
    ⟨some 256, .indexAddr 94 (.tmp 254) (.tmp 255), none⟩,
    ⟨some 257, .load 47 (.tmp 256), none⟩,
    ⟨some 258, .move (.tmp 15), none⟩,
    ⟨some 259, .indexAddr 47 (.tmp 257) (.tmp 258), none⟩,
    ⟨some 260, .load 26 (.tmp 259), none⟩,
    ⟨some 261, .indexAddr 47 (.tmp 252) (.tmp 253), none⟩,
    ⟨none, .store 26 (.tmp 261) (.tmp 260), none⟩]
@[reducible] def q104_73 : SCode := .region [⟨some 262, .binOp .add 3 (.tmp 238) (.const (.int .i64 1)) 3, none⟩,
    ⟨some 238, .move (.tmp 262), none⟩]
def l104_10 : SCode := (.seq q104_68 (.seq (.cond (.tmp 239) .skip (.exit 20)) (.seq (.block 21 (.seq q104_69 (.seq (.seq q104_70 (.cond (.tmp 251) (.seq q104_71 .ret) .skip)) q104_72))) q104_73)))
@[reducible] def q104_74 : SCode := .region [⟨some 263, .move (.tmp 26), none⟩,
    ⟨some 6, .assign (.tmp 263), none⟩,
    ⟨some 7, .assign (.const (.bool true)), none⟩]
def s104 : SCode := (.seq q104_0 (.seq q104_1 (.seq (.seq q104_2 (.block 0 (.loop l104_0))) (.seq q104_8 (.seq (.seq q104_9 (.block 2 (.loop l104_2))) (.seq q104_25 (.seq (.seq q104_26 (.block 6 (.loop l104_7))) (.seq (.seq q104_55 (.block 16 (.loop l104_8))) (.seq q104_61 (.seq (.seq q104_62 (.block 18 (.loop l104_9))) (.seq (.seq q104_67 (.block 20 (.loop l104_10))) (.seq q104_74 .ret))))))))))))
theorem s104_strip : Zz (Zu Try.f104) = s104 := by kernel_rfl
theorem s104_ok : Yl 264 (Zu Try.f104) = true := by kernel_rfl
end Go.Proofs.Try.Am

namespace Go.Proofs.Try.Am
open Go.Am Bq
set_option maxRecDepth 100000
set_option maxHeartbeats 1000000

/-- Whether fractions are n Xs. -/
def Xs (n : Int) (ps : List (Int × Int)) : Bool := decide ((ps.length : Int) = n) && (decide (Xv ps ≠ 0) && ps.all fun p => decide (p.1 ≤ p.2))

theorem s38_callW [Tabs Try.prog] {args : List Value} {h : Zh} {Q : Value → Zh → Prop} (hsz : args.length ≤ 28) (hk : AWS Try.prog 28 s38 (Zs Try.prog [.tmp 4] Q) (Zp 0 args) h) : ACall Try.prog 38 args h Q :=
  Ym Try.func38 rfl (enters_of Try.func38 (by kernel_rfl) rfl) rfl rfl (by decide) s38_strip s38_ok hsz hk
theorem chances_call [Tabs prog] {h : Zh} {v : Value} {n : Int} {ps : List (Int × Int)} (hv : PairSl h v ps) (hl : ps.length < 9223372036854775808) (hx : InR ps) : Xc prog 38 [Zc n, v] h (.bool (Xs n ps)) := by
  refine ACall.forget (Low.bool _) ?_
  refine s38_callW (by simp) ?_
  simp only [s38]
  refine Ze fun N1 hN1 => ?_
  simp (maxSteps := 2000000) only [↓Za, ↓Zb, ↓Zd, vup, cond_false, aop, Zf, Zp, ev, sput, Zg, Nat.reduceBEq, Nat.reduceAdd]
  refine hN1 [(0, Zc n), (1, v), (4, .bool false)] _ _ ?_ (by simp (maxSteps := 2000000) only [vup, cond_true, cond_false, Nat.reduceBEq])
  clear hN1
  try clear N1
  by_cases hn : (ps.length : Int) = n
  · have hne : (((ps.length : Nat) : Int) != n) = false := by simp [bne, hn]
    have e0 : Xs n ps = (decide (Xv ps ≠ 0) && ps.all fun p => decide (p.1 ≤ p.2)) := by rw [Xs, hn]; simp
    refine Ze fun M hM => ?_
    simp (maxSteps := 2000000) only [↓Za, ↓Zo, ↓Zr, ↓Zv, ↓Zb, ↓Zd, ↓vdn, vup, List.map_cons, List.map_nil, cond_true, cond_false, aop, Zf, ev, sput, Zg, Yb, Yd, Zj, Nat.reduceBEq, Zs, Xw, tup, tyf, hv.len, hne, Yr, List.nil_append, List.append_nil]
    refine (mult_call hv hl hx).mono ?_
    rintro _ h ⟨rfl, rfl⟩
    by_cases hm : Xv ps = 0
    · have h1 : (((Xv ps : Nat) : Int) == 0) = true := by simp [hm]
      simp (maxSteps := 2000000) only [↓Za, ↓Zr, ↓Zv, ↓Zb, ↓Zd, ↓vdn, vup, cond_true, cond_false, aop, Zf, ev, sput, Zg, Nat.reduceBEq, Zs, Xw, tup, h1]
      rw [e0, hm]
      exact ⟨by simp, Ext.refl _ _⟩
    · have h1 : (((Xv ps : Nat) : Int) == 0) = false := by simp; omega
      simp (maxSteps := 2000000) only [↓Zo, ↓vdn, vup, cond_true, cond_false, Zf, ev, Nat.reduceBEq, h1]
      refine hM [(0, Zc n), (1, v), (4, .bool false)] _ _ ?_ (by simp (maxSteps := 2000000) only [vup, cond_true, cond_false, Nat.reduceBEq])
      clear hM
      try clear M
      refine Zk fun Z hZ => ?_
      refine Ze fun N2 hN2 => ?_
      simp (maxSteps := 2000000) only [↓Za, ↓Zb, ↓Zd, vup, List.map_cons, List.map_nil, cond_true, cond_false, aop, Zf, ev, sput, Zg, Zj, Nat.reduceBEq, tyf, hv.len]
      refine hN2 [(0, Zc n), (1, v), (4, .bool false), (16, v), (17, Zc ps.length), (18, .int .i64 0)] _ _ ?_ (by simp (maxSteps := 2000000) only [vup, cond_true, cond_false, Nat.reduceBEq])
      clear hN2
      try clear N2
      refine Zl ?_
      refine Zn fun Q hQ => ?_
      refine Yj (γ := Nat × Zh) (fun s => s.1 ≤ ps.length ∧ (∀ p ∈ ps.take s.1, p.1 ≤ p.2) ∧ Ext (fun _ => False) h s.2)
        (fun s => ([(0, Zc n), (1, v), (4, .bool false), (16, v), (17, Zc ps.length), (18, Zc (s.1 : Nat))], s.2)) (fun s => ps.length - s.1) (0, h) ⟨Nat.zero_le _, by simp, Ext.refl _ _⟩ (by simp (maxSteps := 2000000) only [vup, cond_true, cond_false, Nat.reduceBEq, Int.natCast_zero]) rfl ?_
      rintro ⟨k, hp⟩ ⟨hk, hall, hE⟩
      simp only at hk hall hE
      refine Zn fun Q2 hQ2 => ?_
      simp only [l38_0]
      by_cases hin : (k : Int) < ps.length
      · have hk' : k < ps.length := by omega
        have hvp := hv.ext hE
        obtain ⟨⟨x, y⟩, hxy⟩ : ∃ p, ps.getD k (0, 0) = p := ⟨_, rfl⟩
        have hmem : (x, y) ∈ ps := hxy ▸ We hk'
        obtain ⟨H, hH⟩ : ∃ H, H = hp ++ [fC x y] := ⟨_, rfl⟩
        have c5 : H[hp.length]? = some (fC x y) := by rw [hH]; exact Zw _ _
        have hEH : Ext (fun _ => False) h H := by rw [hH]; exact hE.trans (Ext.app _ _ _)
        refine Ze fun N3 hN3 => ?_
        simp (maxSteps := 2000000) only [↓Za, ↓Zb, ↓Zd, vup, cond_true, cond_false, aop, Zf, ev, sput, Zg, Yb, Yd, Nat.reduceBEq, hin]
        refine hN3 [(0, Zc n), (1, v), (4, .bool false), (16, v), (17, Zc ps.length), (18, Zc (k : Nat)), (19, .bool true)] _ _ ?_ (by simp (maxSteps := 2000000) only [vup, cond_true, cond_false, Nat.reduceBEq])
        clear hN3
        try clear N3
        refine Ze fun N4 hN4 => ?_
        simp (maxSteps := 2000000) only [↓Zo, ↓vdn, vup, cond_true, cond_false, Zf, ev, Nat.reduceBEq]
        refine hN4 [(0, Zc n), (1, v), (4, .bool false), (16, v), (17, Zc ps.length), (18, Zc (k : Nat))] _ _ ?_ (by simp (maxSteps := 2000000) only [vup, cond_true, cond_false, Nat.reduceBEq])
        clear hN4
        try clear N4
        refine Zk fun B hB => ?_
        refine Zl ?_
        refine Ze fun N5 hN5 => ?_
        simp (maxSteps := 2000000) only [↓Za, ↓Zb, ↓Zd, vup, cond_true, cond_false, aop, Zf, ev, sput, Zg, Nat.reduceBEq, tyf, hvp.idx el_47 Wr hk', hvp.load Vu hk', hxy, Xm, Yq, Wl (Zw hp z0) rfl, Wb]
        rw [← hH]
        refine hN5 [(0, Zc n), (1, v), (4, .bool false), (6, .pointer (some ⟨hp.length, 0, none⟩)), (16, v), (17, Zc ps.length), (18, Zc (k : Nat))] _ _ ?_ (by simp (maxSteps := 2000000) only [vup, cond_true, cond_false, Nat.reduceBEq])
        clear hN5
        try clear N5
        refine Zi ?_
        by_cases hgt : x > y
        · simp (maxSteps := 2000000) only [↓Za, ↓Zr, ↓Zv, ↓Zb, ↓Zd, ↓vdn, vup, cond_true, cond_false, aop, Zf, Zm, ev, sput, Zg, Yb, Yd, Nat.reduceBEq, tyf, fA0, fA1, Wo c5, Wa c5, hgt]
          refine hQ2 _ _ _ (hQ _ _ _ ?_)
          have h2 : (ps.all fun p => decide (p.1 ≤ p.2)) = false := by
            rw [List.all_eq_false]; exact ⟨_, hmem, by simp; omega⟩
          simp (maxSteps := 2000000) only [vup, cond_true, cond_false, Zf, Zm, Nat.reduceBEq, Zs, Xw, tup, e0, h2, Bool.and_false]
          exact hEH
        · simp (maxSteps := 2000000) only [↓Za, ↓Zo, ↓Zr, ↓Zb, ↓Zd, ↓vdn, vup, cond_true, cond_false, aop, Zf, Zm, ev, sput, Zg, Yb, Yd, Nat.reduceBEq, tyf, fA0, fA1, Wo c5, Wa c5, hgt]
          refine hB [(0, Zc n), (1, v), (4, .bool false), (16, v), (17, Zc ps.length), (18, Zc (k : Nat))] _ _ ?_ (by simp (maxSteps := 2000000) only [vup, cond_true, cond_false, Nat.reduceBEq])
          clear hB
          try clear B
          refine Zi ?_
          simp (maxSteps := 2000000) only [↓Za, ↓Zb, ↓Zd, vup, cond_true, cond_false, aop, ev, sput, Zg, Yb, Yd, Nat.reduceBEq, add1 (show k < 9223372036854775807 by omega)]
          refine hQ2 _ _ _ ⟨(k + 1, H), ⟨hk', ?_, hEH⟩, by simp only; omega, by simp (maxSteps := 2000000) only [vup, cond_true, cond_false, Nat.reduceBEq], rfl⟩
          intro p hp'
          simp only [List.take_succ] at hp'
          rw [List.getD, List.getElem?_eq_getElem hk', Option.getD_some] at hxy
          rw [List.getElem?_eq_getElem hk', hxy] at hp'
          rcases List.mem_append.1 hp' with h3 | h3
          · exact hall p h3
          · simp at h3; subst h3; simp only; omega
      · obtain rfl : k = ps.length := by omega
        refine Ze fun N6 hN6 => ?_
        simp (maxSteps := 2000000) only [↓Za, ↓Zb, ↓Zd, vup, cond_true, cond_false, aop, Zf, ev, sput, Zg, Yb, Yd, Nat.reduceBEq, hin]
        refine hN6 [(0, Zc n), (1, v), (4, .bool false), (16, v), (17, Zc ps.length), (18, Zc ps.length), (19, .bool false)] _ _ ?_ (by simp (maxSteps := 2000000) only [vup, cond_true, cond_false, Nat.reduceBEq])
        clear hN6
        try clear N6
        refine Ze fun N7 hN7 => ?_
        simp (maxSteps := 2000000) only [↓Yo, ↓vdn, vup, cond_true, cond_false, Zf, ev, Nat.reduceBEq]
        refine hQ2 _ _ _ (hQ _ _ _ ?_)
        simp (maxSteps := 2000000) only [Zf, Zm, Zs, if_true]
        refine hZ [(0, Zc n), (1, v), (4, .bool false), (16, v), (17, Zc ps.length), (18, Zc ps.length), (19, .bool false)] _ _ ?_ (by simp (maxSteps := 2000000) only [vup, cond_true, cond_false, Nat.reduceBEq])
        clear hZ
        try clear Z
        refine Zi ?_
        have h2 : (ps.all fun p => decide (p.1 ≤ p.2)) = true := by
          rw [List.take_length] at hall
          rw [List.all_eq_true]; exact fun p hp => by simp [hall p hp]
        simp (maxSteps := 2000000) only [↓Za, ↓Zr, ↓Zv, ↓Zb, ↓Zd, vup, cond_true, cond_false, aop, Zf, ev, sput, Zg, Nat.reduceBEq, Zs, Xw, tup]
        rw [e0, h2]
        exact ⟨by simp [hm], hE⟩
  · have hne : (((ps.length : Nat) : Int) != n) = true := by simpa [bne] using hn
    refine Zi ?_
    simp (maxSteps := 2000000) only [↓Za, ↓Zo, ↓Zr, ↓aw_block, ↓Zv, ↓Zb, ↓Zd, ↓vdn, vup, List.map_cons, List.map_nil, cond_true, cond_false, aop, Zf, ev, sput, Zg, Yb, Yd, Zj, Nat.reduceBEq, Zs, Xw, tup, tyf, hv.len, hne]
    exact ⟨by simp [Xs, hn], Ext.refl _ _⟩

/-- The parts of the first ones in an event. -/
def Wc (m : Nat) (ps : List (Int × Int)) (evt : Nat) : Nat → Int
  | 0 => 0
  | k + 1 => Wc m ps evt k + if evt.testBit k then (m : Int) / (ps.getD k (0, 0)).2 * (ps.getD k (0, 0)).1 else 0
theorem chances_chn {n : Int} {ps : List (Int × Int)} (h : Xs n ps = true) : Chn ps ∧ (ps.length : Int) = n := by
  simp only [Xs, Bool.and_eq_true, decide_eq_true_eq, List.all_eq_true] at h
  exact ⟨⟨h.2.1, h.2.2⟩, h.1⟩
theorem partTo_bound {ps : List (Int × Int)} (c : Chn ps) (evt : Nat) : ∀ k, k ≤ ps.length → 0 ≤ Wc (Xv ps) ps evt k ∧ Wc (Xv ps) ps evt k ≤ k * Xv ps
  | 0, _ => ⟨Int.le_refl _, by simp [Wc]⟩
  | k + 1, hk => by
    obtain ⟨h1, h2⟩ := partTo_bound c evt k (by omega)
    obtain ⟨-, h3, h4, -⟩ := c.rp (We (show k < ps.length by omega))
    have e : ((k + 1 : Nat) : Int) * (Xv ps : Int) = k * Xv ps + Xv ps := by push_cast; grind
    rw [e, Wc]
    split <;> omega

theorem s74_callW [Tabs Try.prog] {args : List Value} {h : Zh} {Q : Value → Zh → Prop} (hsz : args.length ≤ 34) (hk : AWS Try.prog 34 s74 (Zs Try.prog [.tmp 4] Q) (Zp 0 args) h) : ACall Try.prog 74 args h Q :=
  Ym Try.func74 rfl (enters_of Try.func74 (by kernel_rfl) rfl) rfl rfl (by decide) s74_strip s74_ok hsz hk
theorem part_call [Tabs prog] {h : Zh} {v : Value} {evt : Nat} {ps : List (Int × Int)} (hv : PairSl h v ps) (hl : ps.length ≤ 100) (hx : InR ps) (c : Chn ps) (hev : evt < 9223372036854775808) : Xc prog 74 [v, Zc (evt : Nat)] h (Zc (Wc (Xv ps) ps evt ps.length)) := by
  have hm10 := (mult_spec c.m).2.2
  refine ACall.forget (Low.int _ _) ?_
  refine s74_callW (by simp) ?_
  simp only [s74]
  refine Ze fun N8 hN8 => ?_
  simp (maxSteps := 2000000) only [↓Za, ↓Zb, ↓Zd, vup, cond_false, aop, Zf, Zp, ev, sput, Zg, Nat.reduceBEq, Nat.reduceAdd]
  refine hN8 [(0, v), (1, Zc (evt : Nat)), (4, .int .i64 0)] _ _ ?_ (by simp (maxSteps := 2000000) only [vup, cond_true, cond_false, Nat.reduceBEq])
  clear hN8
  try clear N8
  refine Ze fun N9 hN9 => ?_
  simp (maxSteps := 2000000) only [↓Za, ↓Zb, ↓Zd, vup, List.map_cons, List.map_nil, cond_true, cond_false, aop, Zf, ev, sput, Zg, Nat.reduceBEq, Yr, List.nil_append, List.append_nil]
  refine (mult_call hv (by omega) hx).mono ?_
  rintro _ h ⟨rfl, rfl⟩
  refine hN9 [(0, v), (1, Zc (evt : Nat)), (4, .int .i64 0), (5, Zc (Xv ps : Nat)), (6, .int .i64 0)] _ _ ?_ (by simp (maxSteps := 2000000) only [vup, cond_true, cond_false, Nat.reduceBEq])
  clear hN9
  try clear N9
  refine Zk fun Z hZ => ?_
  refine Ze fun N10 hN10 => ?_
  simp (maxSteps := 2000000) only [↓Za, ↓Zb, ↓Zd, vup, List.map_cons, List.map_nil, cond_true, cond_false, aop, Zf, ev, sput, Zg, Zj, Nat.reduceBEq, tyf, hv.len]
  refine hN10 [(0, v), (1, Zc (evt : Nat)), (4, .int .i64 0), (5, Zc (Xv ps : Nat)), (6, .int .i64 0), (11, v), (12, Zc ps.length), (13, .int .i64 0)] _ _ ?_ (by simp (maxSteps := 2000000) only [vup, cond_true, cond_false, Nat.reduceBEq])
  clear hN10
  try clear N10
  refine Zl ?_
  refine Zn fun Q hQ => ?_
  refine Yj (γ := Nat × Zh) (fun s => s.1 ≤ ps.length ∧ Ext (fun _ => False) h s.2)
    (fun s => ([(0, v), (1, Zc (evt : Nat)), (4, .int .i64 0), (5, Zc (Xv ps : Nat)), (6, Zc (Wc (Xv ps) ps evt s.1)), (11, v), (12, Zc ps.length), (13, Zc (s.1 : Nat))], s.2)) (fun s => ps.length - s.1) (0, h) ⟨Nat.zero_le _, Ext.refl _ _⟩ (by simp (maxSteps := 2000000) only [vup, cond_true, cond_false, Nat.reduceBEq, Int.natCast_zero, Wc]) rfl ?_
  rintro ⟨k, hp⟩ ⟨hk, hE⟩
  simp only at hk hE
  refine Zn fun Q2 hQ2 => ?_
  simp only [l74_0]
  by_cases hin : (k : Int) < ps.length
  · have hk' : k < ps.length := by omega
    have hvp := hv.ext hE
    obtain ⟨⟨x, y⟩, hxy⟩ : ∃ p, ps.getD k (0, 0) = p := ⟨_, rfl⟩
    obtain ⟨r1, r2, r3, r4, r5, r6⟩ := c.rp (We hk')
    obtain ⟨b1, b2⟩ := partTo_bound c evt k hk
    have ht := testV (y := k) hev
    have hnext : Wc (Xv ps) ps evt (k + 1) = Wc (Xv ps) ps evt k + if evt.testBit k then (Xv ps : Int) / y * x else 0 := by rw [Wc, hxy]
    rw [hxy] at r1 r2 r3 r4 r5 r6
    simp only at r1 r2 r3 r4 r5 r6
    have hbm : (k : Int) * (Xv ps : Int) ≤ 100 * (Xv ps : Int) := Int.mul_le_mul_of_nonneg_right (by omega) (by omega)
    obtain ⟨H, hH⟩ : ∃ H, H = hp ++ [fC x y] := ⟨_, rfl⟩
    have c5 : H[hp.length]? = some (fC x y) := by rw [hH]; exact Zw _ _
    have hEH : Ext (fun _ => False) h H := by rw [hH]; exact hE.trans (Ext.app _ _ _)
    refine Ze fun N11 hN11 => ?_
    simp (maxSteps := 2000000) only [↓Za, ↓Zb, ↓Zd, vup, cond_true, cond_false, aop, Zf, ev, sput, Zg, Yb, Yd, Nat.reduceBEq, hin]
    refine hN11 [(0, v), (1, Zc (evt : Nat)), (4, .int .i64 0), (5, Zc (Xv ps : Nat)), (6, Zc (Wc (Xv ps) ps evt k)), (11, v), (12, Zc ps.length), (13, Zc (k : Nat)), (14, .bool true)] _ _ ?_ (by simp (maxSteps := 2000000) only [vup, cond_true, cond_false, Nat.reduceBEq])
    clear hN11
    try clear N11
    refine Ze fun N12 hN12 => ?_
    simp (maxSteps := 2000000) only [↓Zo, ↓vdn, vup, cond_true, cond_false, Zf, ev, Nat.reduceBEq]
    refine hN12 [(0, v), (1, Zc (evt : Nat)), (4, .int .i64 0), (5, Zc (Xv ps : Nat)), (6, Zc (Wc (Xv ps) ps evt k)), (11, v), (12, Zc ps.length), (13, Zc (k : Nat))] _ _ ?_ (by simp (maxSteps := 2000000) only [vup, cond_true, cond_false, Nat.reduceBEq])
    clear hN12
    try clear N12
    refine Zk fun B hB => ?_
    refine Zl ?_
    refine Ze fun N13 hN13 => ?_
    simp (maxSteps := 2000000) only [↓Za, ↓Zb, ↓Zd, vup, cond_true, cond_false, aop, Zf, ev, sput, Zg, Nat.reduceBEq, tyf, hvp.idx el_47 Wr hk', hvp.load Vu hk', hxy, Xm, Yq, Wl (Zw hp z0) rfl, Wb]
    rw [← hH]
    refine hN13 [(0, v), (1, Zc (evt : Nat)), (4, .int .i64 0), (5, Zc (Xv ps : Nat)), (6, Zc (Wc (Xv ps) ps evt k)), (7, Zc (k : Nat)), (8, .pointer (some ⟨hp.length, 0, none⟩)), (11, v), (12, Zc ps.length), (13, Zc (k : Nat))] _ _ ?_ (by simp (maxSteps := 2000000) only [vup, cond_true, cond_false, Nat.reduceBEq])
    clear hN13
    try clear N13
    have fin : ∀ e z, z = Wc (Xv ps) ps evt (k + 1) → ELe e [(0, v), (1, Zc (evt : Nat)), (4, .int .i64 0), (5, Zc (Xv ps : Nat)), (6, Zc z), (11, v), (12, Zc ps.length), (13, Zc (k : Nat))] → B e H := by
      intro e z hz he
      subst hz
      refine hB _ _ _ ?_ he
      refine Zi ?_
      simp (maxSteps := 2000000) only [↓Za, ↓Zb, ↓Zd, vup, cond_true, cond_false, aop, ev, sput, Zg, Yb, Yd, Nat.reduceBEq, add1 (show k < 9223372036854775807 by omega)]
      exact hQ2 _ _ _ ⟨(k + 1, H), ⟨hk', hEH⟩, by simp only; omega, by simp (maxSteps := 2000000) only [vup, cond_true, cond_false, Nat.reduceBEq], rfl⟩
    refine Ze fun N14 hN14 => ?_
    simp (maxSteps := 2000000) only [↓Za, ↓Zb, ↓Zd, vup, cond_true, cond_false, aop, Zf, ev, sput, Zg, Yb, Yd, Nat.reduceBEq, ht, beq1]
    refine hN14 [(0, v), (1, Zc (evt : Nat)), (4, .int .i64 0), (5, Zc (Xv ps : Nat)), (6, Zc (Wc (Xv ps) ps evt k)), (7, Zc (k : Nat)), (8, .pointer (some ⟨hp.length, 0, none⟩)), (11, v), (12, Zc ps.length), (13, Zc (k : Nat)), (22, .bool (evt.testBit k))] _ _ ?_ (by simp (maxSteps := 2000000) only [vup, cond_true, cond_false, Nat.reduceBEq])
    clear hN14
    try clear N14
    refine Zi ?_
    have hy0 : ¬ y = 0 := by omega
    have q1 : quoV .i64 ((Xv ps : Nat) : Int) y = (Xv ps : Int) / y := quo_dvd (by omega) r6
    have m1 : mulV .i64 ((Xv ps : Int) / y) x = (Xv ps : Int) / y * x := mulN (by omega)
    have a1 : addV .i64 (Wc (Xv ps) ps evt k) ((Xv ps : Int) / y * x) = Wc (Xv ps) ps evt k + (Xv ps : Int) / y * x := addN (by omega)
    cases hbit : evt.testBit k with
    | false =>
      simp (maxSteps := 2000000) only [↓Zo, ↓vdn, vup, cond_true, cond_false, Zf, Zm, ev, Nat.reduceBEq]
      exact fin _ (Wc (Xv ps) ps evt k) (by rw [hnext, hbit]; simp) (by simp (maxSteps := 2000000) only [vup, cond_true, cond_false, Nat.reduceBEq])
    | true =>
      simp (maxSteps := 2000000) only [↓vdn, vup, cond_true, cond_false, ev, Nat.reduceBEq]
      refine Xg [] (by kernel_rfl) (by kernel_rfl) (by kernel_rfl) (by kernel_rfl) ?_
      simp (maxSteps := 2000000) only [↓Yc, ↓vdn, vup, cond_true, cond_false, aop, Zf, Zm, ev, sput, Zg, Yb, Yd, Nat.reduceBEq, Nat.reduceAdd, tyf, fA0, fA1, Wo c5, Wa c5, ne_eq, hy0, not_false_eq_true, q1, m1, a1]
      exact fin _ (Wc (Xv ps) ps evt k + (Xv ps : Int) / y * x) (by rw [hnext, hbit]; simp) (by simp (maxSteps := 2000000) only [vup, cond_true, cond_false, Nat.reduceBEq])
  · obtain rfl : k = ps.length := by omega
    refine Ze fun N15 hN15 => ?_
    simp (maxSteps := 2000000) only [↓Za, ↓Zb, ↓Zd, vup, cond_true, cond_false, aop, Zf, ev, sput, Zg, Yb, Yd, Nat.reduceBEq, hin]
    refine hN15 [(0, v), (1, Zc (evt : Nat)), (4, .int .i64 0), (5, Zc (Xv ps : Nat)), (6, Zc (Wc (Xv ps) ps evt ps.length)), (11, v), (12, Zc ps.length), (13, Zc ps.length), (14, .bool false)] _ _ ?_ (by simp (maxSteps := 2000000) only [vup, cond_true, cond_false, Nat.reduceBEq])
    clear hN15
    try clear N15
    refine Ze fun N16 hN16 => ?_
    simp (maxSteps := 2000000) only [↓Yo, ↓vdn, vup, cond_true, cond_false, Zf, ev, Nat.reduceBEq]
    refine hQ2 _ _ _ (hQ _ _ _ ?_)
    simp (maxSteps := 2000000) only [Zf, Zm, Zs, if_true]
    refine hZ [(0, v), (1, Zc (evt : Nat)), (4, .int .i64 0), (5, Zc (Xv ps : Nat)), (6, Zc (Wc (Xv ps) ps evt ps.length)), (11, v), (12, Zc ps.length), (13, Zc ps.length), (14, .bool false)] _ _ ?_ (by simp (maxSteps := 2000000) only [vup, cond_true, cond_false, Nat.reduceBEq])
    clear hZ
    try clear Z
    refine Zi ?_
    simp (maxSteps := 2000000) only [↓Za, ↓Zr, ↓Zv, ↓Zb, ↓Zd, vup, cond_true, cond_false, aop, Zf, ev, sput, Zg, Nat.reduceBEq, Zs, Xw, tup]
    exact hE
end Go.Proofs.Try.Am

namespace Go.Proofs.Try.Am
open Go.Am
set_option maxRecDepth 100000
/-! 37: planchet bets.Agrees -/
@[reducible] def q37_0 : SCode := .region [⟨some 6, .assign (.const (.bool false)), none⟩,
    ⟨some 7, .assign (.const (.int .i64 0)), none⟩]
@[reducible] def q37_1 : SCode := .region [⟨some 9, .move (.tmp 0), none⟩,
    ⟨some 10, .move (.tmp 1), none⟩,
    ⟨some 11, .build 86 #[(0, .tmp 9), (1, .tmp 10)], none⟩,
    ⟨some 8, .alloc 86, none⟩,
    ⟨none, .store 86 (.tmp 8) (.tmp 11), none⟩]
@[reducible] def q37_2 : SCode := .region [⟨some 12, .load 86 (.tmp 8), none⟩,
    ⟨some 13, .call { callee := .value (.func 58), args := #[.tmp 12], argTypes := #[86] }, none⟩,
    ⟨some 14, .unOp .not 4 (.tmp 13), none⟩,
    ⟨some 15, .move (.tmp 14), none⟩,
    ⟨some 16, .move (.tmp 2), some (15, false)⟩,
    ⟨some 17, .call { callee := .builtin .len, args := #[.tmp 16], argTypes := #[47] }, some (15, false)⟩,
    ⟨some 18, .move (.tmp 0), some (15, false)⟩,
    ⟨some 19, .binOp .neq 3 (.tmp 17) (.tmp 18) 3, some (15, false)⟩,
    ⟨some 20, .pick (.tmp 15) (.const (.bool true)) (.tmp 19), none⟩,
    ⟨some 21, .move (.tmp 20), none⟩,
    ⟨some 22, .move (.tmp 2), some (21, false)⟩,
    ⟨some 23, .call { callee := .value (.func 75), args := #[.tmp 22], argTypes := #[47] }, some (21, false)⟩,
    ⟨some 24, .unOp .not 4 (.tmp 23), some (21, false)⟩,
    ⟨some 25, .pick (.tmp 21) (.const (.bool true)) (.tmp 24), none⟩]
@[reducible] def q37_3 : SCode := .region [⟨some 6, .assign (.const (.bool false)), none⟩,
    ⟨some 7, .assign (.const (.int .i64 2)), none⟩]
@[reducible] def q37_4 : SCode := .region [⟨some 26, .load 86 (.tmp 8), none⟩,
    ⟨some 27, .move (.tmp 2), none⟩,
    ⟨some 28, .call { callee := .value (.func 76), args := #[.tmp 26, .tmp 27], argTypes := #[86, 90] }, none⟩,
    ⟨some 6, .assign (.tmp 28), none⟩,
    ⟨some 7, .assign (.const (.int .i64 0)), none⟩]
def s37 : SCode := (.seq q37_0 (.seq q37_1 (.seq (.seq q37_2 (.cond (.tmp 25) (.seq q37_3 .ret) .skip)) (.seq q37_4 .ret))))
theorem s37_strip : Zz (Zu Try.f37) = s37 := by kernel_rfl
theorem s37_ok : Yl 29 (Zu Try.f37) = true := by kernel_rfl
/-! 39: planchet planchetref09.Agrees -/
@[reducible] def q39_0 : SCode := .region [⟨some 6, .assign (.const (.bool false)), none⟩]
@[reducible] def q39_1 : SCode := .region [⟨some 10, .move (.tmp 2), none⟩,
    ⟨some 11, .call { callee := .value (.func 34), args := #[.tmp 10], argTypes := #[47] }, none⟩,
    ⟨some 7, .assign (.tmp 11), none⟩]
@[reducible] def q39_2 : SCode := .region [⟨some 12, .move (.tmp 1), none⟩,
    ⟨some 13, .call { callee := .builtin .len, args := #[.tmp 12], argTypes := #[22] }, none⟩,
    ⟨some 14, .move (.const (.int .i64 0)), none⟩]
@[reducible] def q39_3 : SCode := .region [⟨some 15, .binOp .lss 3 (.tmp 14) (.tmp 13) 3, none⟩]
@[reducible] def q39_4 : SCode := .region [⟨some 16, .indexAddr 22 (.tmp 12) (.tmp 14), none⟩,
    ⟨some 17, .load 24 (.tmp 16), none⟩,
    ⟨some 9, .alloc 24, none⟩,
    ⟨none, .store 24 (.tmp 9) (.tmp 17), none⟩]
def q39_5 : SCode := .draw [⟨some 18, .move (.tmp 2), none⟩,
    ⟨some 19, .fieldAddr 24 (.tmp 9) 0, none⟩,
    ⟨some 20, .load 3 (.tmp 19), none⟩,
    ⟨some 21, .call { callee := .value (.func 74), args := #[.tmp 18, .tmp 20], argTypes := #[47, 3] }, none⟩,
    ⟨some 22, .binOp .mul 3 (.const (.int .i64 12)) (.tmp 21) 3, none⟩,
    ⟨some 23, .fieldAddr 24 (.tmp 9) 1, none⟩,
    ⟨some 24, .load 3 (.tmp 23), none⟩,
    ⟨some 25, .move (.tmp 7), none⟩,
    ⟨some 26, .binOp .mul 3 (.tmp 24) (.tmp 25) 3, none⟩,
    ⟨some 27, .binOp .neq 3 (.tmp 22) (.tmp 26) 3, none⟩]
   [[], [], [1], [0, 2], [3], [], [5], [], [6, 7], [4, 8]]
@[reducible] def q39_6 : SCode := .region [⟨some 6, .assign (.const (.bool false)), none⟩]
@[reducible] def q39_7 : SCode := .region [⟨some 28, .binOp .add 3 (.tmp 14) (.const (.int .i64 1)) 3, none⟩,
    ⟨some 14, .move (.tmp 28), none⟩]
def l39_0 : SCode := (.seq q39_3 (.seq (.cond (.tmp 15) .skip (.exit 0)) (.seq (.block 1 (.seq q39_4 (.seq q39_5 (.cond (.tmp 27) (.seq q39_6 .ret) .skip)))) q39_7)))
@[reducible] def q39_8 : SCode := .region [⟨some 29, .move (.tmp 2), none⟩,
    ⟨some 30, .move (.tmp 0), none⟩,
    ⟨some 31, .binOp .shl 3 (.const (.int .i64 1)) (.tmp 30) 3, none⟩,
    ⟨some 32, .binOp .sub 3 (.tmp 31) (.const (.int .i64 1)) 3, none⟩,
    ⟨some 33, .call { callee := .value (.func 74), args := #[.tmp 29, .tmp 32], argTypes := #[47, 3] }, none⟩,
    ⟨some 34, .move (.tmp 7), none⟩,
    ⟨some 35, .binOp .eql 3 (.tmp 33) (.tmp 34) 3, none⟩,
    ⟨some 6, .assign (.tmp 35), none⟩]
def s39 : SCode := (.seq q39_0 (.seq q39_1 (.seq (.seq q39_2 (.block 0 (.loop l39_0))) (.seq q39_8 .ret))))
theorem s39_strip : Zz (Zu Try.f39) = s39 := by kernel_rfl
theorem s39_ok : Yl 36 (Zu Try.f39) = true := by kernel_rfl
/-! 76: (planchet bets.table).agrees -/
@[reducible] def q76_0 : SCode := .region [⟨some 2, .box 86 (.tmp 0), none⟩,
    ⟨some 3, .box 90 (.tmp 1), none⟩,
    ⟨some 4, .assign (.const (.bool false)), none⟩]
def q76_1 : SCode := .draw [⟨some 5, .load 90 (.tmp 3), none⟩,
    ⟨some 6, .fieldAddr 86 (.tmp 2) 0, none⟩,
    ⟨some 7, .load 3 (.tmp 6), none⟩,
    ⟨some 8, .binOp .shl 3 (.const (.int .i64 1)) (.tmp 7) 3, none⟩,
    ⟨some 9, .binOp .sub 3 (.tmp 8) (.const (.int .i64 1)) 3, none⟩,
    ⟨some 10, .call { callee := .value (.func 61), args := #[.tmp 5, .tmp 9], argTypes := #[90, 3] }, none⟩,
    ⟨some 11, .call { callee := .value (.func 70), args := #[.const (.int .i64 1)], argTypes := #[3] }, none⟩,
    ⟨some 12, .binOp .neq 26 (.tmp 10) (.tmp 11) 26, none⟩]
   [[], [], [1], [2], [3], [0, 4], [5], [5, 6]]
@[reducible] def q76_2 : SCode := .region [⟨some 4, .assign (.const (.bool false)), none⟩]
@[reducible] def q76_3 : SCode := .region [⟨some 13, .fieldAddr 86 (.tmp 2) 1, none⟩,
    ⟨some 14, .load 30 (.tmp 13), none⟩,
    ⟨some 15, .makeFunc (.func 109) #[] #[.tmp 3], none⟩,
    ⟨some 16, .call { callee := .value (.func 108), args := #[.tmp 14, .tmp 15], argTypes := #[30, 112] }, none⟩,
    ⟨some 4, .assign (.tmp 16), none⟩]
def s76 : SCode := (.seq q76_0 (.seq (.seq q76_1 (.cond (.tmp 12) (.seq q76_2 .ret) .skip)) (.seq q76_3 .ret)))
theorem s76_strip : Zz (Zu Try.f76) = s76 := by kernel_rfl
theorem s76_ok : Yl 17 (Zu Try.f76) = true := by kernel_rfl
/-! 108: planchet bets.every[planchet bets.Bet] -/
@[reducible] def q108_0 : SCode := .region [⟨some 3, .box 112 (.tmp 1), none⟩,
    ⟨some 4, .assign (.const (.bool false)), none⟩]
@[reducible] def q108_1 : SCode := .region [⟨some 5, .move (.tmp 0), none⟩,
    ⟨some 6, .makeFunc (.func 119) #[] #[.tmp 3], none⟩,
    ⟨some 7, .call { callee := .value (.func 98), args := #[.tmp 5, .tmp 6], argTypes := #[30, 112] }, none⟩,
    ⟨some 8, .unOp .not 4 (.tmp 7), none⟩,
    ⟨some 4, .assign (.tmp 8), none⟩]
def s108 : SCode := (.seq q108_0 (.seq q108_1 .ret))
theorem s108_strip : Zz (Zu Try.f108) = s108 := by kernel_rfl
theorem s108_ok : Yl 9 (Zu Try.f108) = true := by kernel_rfl
/-! 109: (planchet bets.table).agrees$1 -/
@[reducible] def q109_0 : SCode := .region [⟨some 2, .box 92 (.tmp 0), none⟩,
    ⟨some 3, .assign (.const (.bool false)), none⟩]
def q109_1 : SCode := .draw [⟨some 4, .load 90 (.tmp 1), none⟩,
    ⟨some 5, .fieldAddr 92 (.tmp 2) 0, none⟩,
    ⟨some 6, .load 3 (.tmp 5), none⟩,
    ⟨some 7, .call { callee := .value (.func 61), args := #[.tmp 4, .tmp 6], argTypes := #[90, 3] }, none⟩,
    ⟨some 8, .fieldAddr 92 (.tmp 2) 1, none⟩,
    ⟨some 9, .load 3 (.tmp 8), none⟩,
    ⟨some 10, .call { callee := .value (.func 64), args := #[.tmp 9, .const (.int .i64 12)], argTypes := #[3, 3] }, none⟩,
    ⟨some 11, .binOp .eql 26 (.tmp 7) (.tmp 10) 26, none⟩,
    ⟨some 3, .assign (.tmp 11), none⟩]
   [[], [], [1], [0, 2], [], [4], [5, 3], [3, 6], [7, 6, 0, 1, 2, 3, 4, 5, 6, 7]]
def s109 : SCode := (.seq q109_0 (.seq q109_1 .ret))
theorem s109_strip : Zz (Zu Try.f109) = s109 := by kernel_rfl
theorem s109_ok : Yl 12 (Zu Try.f109) = true := by kernel_rfl
/-! 119: planchet bets.every[planchet bets.Bet]$1 -/
@[reducible] def q119_0 : SCode := .region [⟨some 2, .box 92 (.tmp 0), none⟩,
    ⟨some 3, .assign (.const (.bool false)), none⟩]
@[reducible] def q119_1 : SCode := .region [⟨some 4, .load 112 (.tmp 1), none⟩,
    ⟨some 5, .load 92 (.tmp 2), none⟩,
    ⟨some 6, .call { callee := .value (.tmp 4), args := #[.tmp 5], argTypes := #[92] }, none⟩,
    ⟨some 7, .unOp .not 4 (.tmp 6), none⟩,
    ⟨some 3, .assign (.tmp 7), none⟩]
def s119 : SCode := (.seq q119_0 (.seq q119_1 .ret))
theorem s119_strip : Zz (Zu Try.f119) = s119 := by kernel_rfl
theorem s119_ok : Yl 8 (Zu Try.f119) = true := by kernel_rfl
end Go.Proofs.Try.Am

namespace Go.Proofs.Try.Am
open Go.Am
set_option maxRecDepth 100000
/-! 35: slices.Equal[[]planchet api.Frac,planchet api.Frac] -/
@[reducible] def q35_0 : SCode := .region [⟨some 4, .assign (.const (.bool false)), none⟩]
@[reducible] def q35_1 : SCode := .region [⟨some 6, .move (.tmp 0), none⟩,
    ⟨some 7, .call { callee := .builtin .len, args := #[.tmp 6], argTypes := #[47] }, none⟩,
    ⟨some 8, .move (.tmp 1), none⟩,
    ⟨some 9, .call { callee := .builtin .len, args := #[.tmp 8], argTypes := #[47] }, none⟩,
    ⟨some 10, .binOp .neq 3 (.tmp 7) (.tmp 9) 3, none⟩]
@[reducible] def q35_2 : SCode := .region [⟨some 4, .assign (.const (.bool false)), none⟩]
@[reducible] def q35_3 : SCode := .region [⟨some 11, .move (.tmp 0), none⟩,
    ⟨some 12, .call { callee := .builtin .len, args := #[.tmp 11], argTypes := #[47] }, none⟩,
    ⟨some 13, .move (.const (.int .i64 0)), none⟩]
@[reducible] def q35_4 : SCode := .region [⟨some 14, .binOp .lss 3 (.tmp 13) (.tmp 12) 3, none⟩]
@[reducible] def q35_5 : SCode := .region [⟨some 15, .move (.tmp 13), none⟩,
    ⟨some 5, .assign (.tmp 15), none⟩]
def q35_6 : SCode := .draw [⟨some 16, .move (.tmp 0), none⟩,
    ⟨some 17, .move (.tmp 5), none⟩,
    ⟨some 18, .indexAddr 47 (.tmp 16) (.tmp 17), none⟩,
    ⟨some 19, .load 26 (.tmp 18), none⟩,
    ⟨some 20, .move (.tmp 1), none⟩,
    ⟨some 21, .move (.tmp 5), none⟩,
    ⟨some 22, .indexAddr 47 (.tmp 20) (.tmp 21), none⟩,
    ⟨some 23, .load 26 (.tmp 22), none⟩,
    ⟨some 24, .binOp .neq 26 (.tmp 19) (.tmp 23) 26, none⟩]
   [[], [], [0, 1], [2], [], [], [4, 5], [6], [3, 7]]
@[reducible] def q35_7 : SCode := .region [⟨some 4, .assign (.const (.bool false)), none⟩]
@[reducible] def q35_8 : SCode := .region [⟨some 25, .binOp .add 3 (.tmp 13) (.const (.int .i64 1)) 3, none⟩,
    ⟨some 13, .move (.tmp 25), none⟩]
def l35_0 : SCode := (.seq q35_4 (.seq (.cond (.tmp 14) .skip (.exit 0)) (.seq (.block 1 (.seq q35_5 (.seq q35_6 (.cond (.tmp 24) (.seq q35_7 .ret) .skip)))) q35_8)))
@[reducible] def q35_9 : SCode := .region [⟨some 4, .assign (.const (.bool true)), none⟩]
def s35 : SCode := (.seq q35_0 (.seq (.seq q35_1 (.cond (.tmp 10) (.seq q35_2 .ret) .skip)) (.seq (.seq q35_3 (.block 0 (.loop l35_0))) (.seq q35_9 .ret))))
theorem s35_strip : Zz (Zu Try.f35) = s35 := by kernel_rfl
theorem s35_ok : Yl 26 (Zu Try.f35) = true := by kernel_rfl
/-! 101: slices.ContainsFunc[[]planchet api.Frac,planchet api.Frac] -/
@[reducible] def q101_0 : SCode := .region [⟨some 4, .assign (.const (.bool false)), none⟩]
@[reducible] def q101_1 : SCode := .region [⟨some 5, .move (.tmp 0), none⟩,
    ⟨some 6, .move (.tmp 1), none⟩,
    ⟨some 7, .call { callee := .value (.func 116), args := #[.tmp 5, .tmp 6], argTypes := #[47, 35] }, none⟩,
    ⟨some 8, .binOp .geq 3 (.tmp 7) (.const (.int .i64 0)) 3, none⟩,
    ⟨some 4, .assign (.tmp 8), none⟩]
def s101 : SCode := (.seq q101_0 (.seq q101_1 .ret))
theorem s101_strip : Zz (Zu Try.f101) = s101 := by kernel_rfl
theorem s101_ok : Yl 9 (Zu Try.f101) = true := by kernel_rfl
/-! 102: (planchet bets.table).corners$2 -/
@[reducible] def q102_0 : SCode := .region [⟨some 1, .box 26 (.tmp 0), none⟩,
    ⟨some 2, .assign (.const (.bool false)), none⟩]
@[reducible] def q102_1 : SCode := .region [⟨some 3, .fieldAddr 26 (.tmp 1) 0, none⟩,
    ⟨some 4, .load 3 (.tmp 3), none⟩,
    ⟨some 5, .binOp .lss 3 (.tmp 4) (.const (.int .i64 0)) 3, none⟩,
    ⟨some 2, .assign (.tmp 5), none⟩]
def s102 : SCode := (.seq q102_0 (.seq q102_1 .ret))
theorem s102_strip : Zz (Zu Try.f102) = s102 := by kernel_rfl
theorem s102_ok : Yl 6 (Zu Try.f102) = true := by kernel_rfl
end Go.Proofs.Try.Am

namespace Go.Proofs.Try.Am
open Go.Am Bq
set_option maxRecDepth 100000
set_option maxHeartbeats 1000000

/-- The chance of an event, of the first worlds. -/
def inEv (f : Nat → Rat) (evt : Nat) (w : Nat) : Rat := if evt.testBit w then f w else 0
theorem partTo_rp {ps : List (Int × Int)} (c : Chn ps) (evt : Nat) : ∀ k, k ≤ ps.length → Rp (Xv ps) (Wc (Xv ps) ps evt k) (Ya (inEv (fq ps) evt) k)
  | 0, _ => ⟨Nat.pos_of_ne_zero c.m, by simp [Ya, Wc]⟩
  | k + 1, hk => by
    have ih := partTo_rp c evt k (by omega)
    obtain ⟨r, _⟩ := c.rp (We (show k < ps.length by omega))
    rw [Wc, Ya, inEv]
    split
    · have := ih.plus r 1
      have e : (((1 : Int)) : Rat) = 1 := rfl
      rw [e, Rat.one_mul, Int.one_mul] at this
      exact this
    · rw [Rat.add_zero, Int.add_zero]; exact ih

theorem litI1 [Tabs prog] {h : Zh} {x : Int} (K : Value → Zh → Prop) : Yp prog h 38 1 [(0, Zc x)] K = K (.slice (some ⟨h.length, 0, none⟩) 1 1) (h ++ [.ints [x] 3 false]) := by
  simp only [Yp, el_38, zero_3, esz_3, reps, fillL, mkb, Wt, cellsOf, List.length_singleton, Nat.mul_one, Nat.zero_add]
  exact propext ⟨fun h => h.2.2.2, fun h => ⟨trivial, by decide, by decide, h⟩⟩

theorem take_snoc {α : Type} {l : List α} {k : Nat} {d : α} (hk : k < l.length) : l.take (k + 1) = l.take k ++ [l.getD k d] := by
  rw [List.take_succ, List.getElem?_eq_getElem hk, List.getD, List.getElem?_eq_getElem hk]; rfl

theorem s75_callW [Tabs Try.prog] {args : List Value} {h : Zh} {Q : Value → Zh → Prop} (hsz : args.length ≤ 31) (hk : AWS Try.prog 31 s75 (Zs Try.prog [.tmp 2] Q) (Zp 0 args) h) : ACall Try.prog 75 args h Q :=
  Ym Try.func75 rfl (enters_of Try.func75 (by kernel_rfl) rfl) rfl rfl (by decide) s75_strip s75_ok hsz hk
theorem common_call [Tabs prog] {h : Zh} {v : Value} {ps : List (Int × Int)} (hv : PairSl h v ps) (hl : ps.length < 9223372036854775808) (hx : InR ps) : Xc prog 75 [v] h (.bool (decide (Xv ps ≠ 0) && ps.all fun p => decide (p.1 ≤ p.2))) := by
  refine ACall.forget (Low.bool _) ?_
  refine s75_callW (by simp) ?_
  simp only [s75]
  refine Ze fun N10 hN10 => ?_
  simp (maxSteps := 2000000) only [↓Za, ↓Zb, ↓Zd, vup, cond_false, aop, Zf, Zp, ev, sput, Zg, Nat.reduceBEq]
  refine hN10 [(0, v), (2, .bool false)] _ _ ?_ (by simp (maxSteps := 2000000) only [vup, cond_true, cond_false, Nat.reduceBEq])
  clear hN10
  try clear N10
  refine Ze fun N11 hN11 => ?_
  simp (maxSteps := 2000000) only [↓Za, ↓Zb, ↓Zd, vup, cond_false, aop, Zf, ev, sput, Zg, Nat.reduceBEq]
  refine hN11 [(0, v), (2, .bool false), (3, .int .i64 1)] _ _ ?_ (by simp (maxSteps := 2000000) only [vup, cond_true, cond_false, Nat.reduceBEq])
  clear hN11
  try clear N11
  refine Zk fun M hM => ?_
  refine Ze fun N12 hN12 => ?_
  simp (maxSteps := 2000000) only [↓Za, ↓Zb, ↓Zd, vup, List.map_cons, List.map_nil, cond_true, cond_false, aop, Zf, ev, sput, Zg, Zj, Nat.reduceBEq, tyf, hv.len]
  refine hN12 [(0, v), (2, .bool false), (3, .int .i64 1), (7, v), (8, Zc ps.length), (9, .int .i64 0)] _ _ ?_ (by simp (maxSteps := 2000000) only [vup, cond_true, cond_false, Nat.reduceBEq])
  clear hN12
  try clear N12
  refine Zl ?_
  refine Zn fun Q hQ => ?_
  refine Yj (γ := Nat × Nat × Zh) (fun s => s.1 ≤ ps.length ∧ 0 < s.2.1 ∧ s.2.1 ≤ 10000000000 ∧ mulTo (ps.drop s.1) s.2.1 = Xv ps ∧ (∀ p ∈ ps.take s.1, p.1 ≤ p.2) ∧ Ext (fun _ => False) h s.2.2)
    (fun s => ([(0, v), (2, .bool false), (3, Zc (s.2.1 : Nat)), (7, v), (8, Zc ps.length), (9, Zc (s.1 : Nat))], s.2.2)) (fun s => ps.length - s.1) (0, 1, h) ⟨Nat.zero_le _, Nat.one_pos, (by decide : (1 : Nat) ≤ 10000000000), rfl, by simp, Ext.refl _ _⟩ (by simp (maxSteps := 2000000) only [vup, cond_true, cond_false, Nat.reduceBEq, Int.natCast_zero, Int.natCast_one]) rfl ?_
  rintro ⟨k, m, hp⟩ ⟨hk, hm0, hm, hmul, hall, hE⟩
  simp only at hk hm0 hm hmul hall hE
  refine Zn fun Q2 hQ2 => ?_
  simp only [l75_0]
  by_cases hin : (k : Int) < ps.length
  · have hk' : k < ps.length := by omega
    have hvp := hv.ext hE
    obtain ⟨⟨x, y⟩, hxy⟩ : ∃ p, ps.getD k (0, 0) = p := ⟨_, rfl⟩
    have hmem : (x, y) ∈ ps := hxy ▸ We hk'
    have hr := hx _ hmem
    simp only at hr
    have hdr := drop_getD hk'
    rw [hxy] at hdr
    rw [hdr] at hmul
    obtain ⟨H, hH⟩ : ∃ H, H = hp ++ [fC x y] := ⟨_, rfl⟩
    have c5 : H[hp.length]? = some (fC x y) := by rw [hH]; exact Zw _ _
    have hEH : Ext (fun _ => False) h H := by rw [hH]; exact hE.trans (Ext.app _ _ _)
    refine Ze fun N13 hN13 => ?_
    simp (maxSteps := 2000000) only [↓Za, ↓Zb, ↓Zd, vup, cond_true, cond_false, aop, Zf, ev, sput, Zg, Yb, Yd, Nat.reduceBEq, hin]
    refine hN13 [(0, v), (2, .bool false), (3, Zc (m : Nat)), (7, v), (8, Zc ps.length), (9, Zc (k : Nat)), (10, .bool true)] _ _ ?_ (by simp (maxSteps := 2000000) only [vup, cond_true, cond_false, Nat.reduceBEq])
    clear hN13
    try clear N13
    refine Ze fun N14 hN14 => ?_
    simp (maxSteps := 2000000) only [↓Zo, ↓vdn, vup, cond_true, cond_false, Zf, ev, Nat.reduceBEq]
    refine hN14 [(0, v), (2, .bool false), (3, Zc (m : Nat)), (7, v), (8, Zc ps.length), (9, Zc (k : Nat))] _ _ ?_ (by simp (maxSteps := 2000000) only [vup, cond_true, cond_false, Nat.reduceBEq])
    clear hN14
    try clear N14
    refine Zk fun B hB => ?_
    refine Zl ?_
    refine Ze fun N15 hN15 => ?_
    simp (maxSteps := 2000000) only [↓Za, ↓Zb, ↓Zd, vup, cond_true, cond_false, aop, Zf, ev, sput, Zg, Nat.reduceBEq, tyf, hvp.idx el_47 Wr hk', hvp.load Vu hk', hxy, Xm, Yq, Wl (Zw hp z0) rfl, Wb]
    rw [← hH]
    refine hN15 [(0, v), (2, .bool false), (3, Zc (m : Nat)), (5, .pointer (some ⟨hp.length, 0, none⟩)), (7, v), (8, Zc ps.length), (9, Zc (k : Nat))] _ _ ?_ (by simp (maxSteps := 2000000) only [vup, cond_true, cond_false, Nat.reduceBEq])
    clear hN15
    try clear N15
    have none0 : (decide (Xv ps ≠ 0) && ps.all fun p => decide (p.1 ≤ p.2)) = false → ∀ e, sget e 2 = .bool false → Q2 .ret e H := by
      intro h0 e he
      refine hQ2 _ _ _ (hQ _ _ _ ?_)
      simp (maxSteps := 2000000) only [Zf, Zm, Zs, Xw, tup, he]
      rw [h0]
      exact ⟨rfl, hEH⟩
    have cc : Xc prog 107 [.agg #[Zc x, Zc y], .int .i64 10000000000] H (.bool (chB 10000000000 (x, y))) := chance_call (by decide)
    refine Zk fun C hC => ?_
    refine Ze fun N16 hN16 => ?_
    simp (maxSteps := 2000000) only [↓Za, ↓Zb, ↓Zd, vup, List.map_cons, List.map_nil, cond_true, cond_false, aop, Zf, ev, sput, Zg, unK, Nat.reduceBEq, Yr, List.nil_append, List.append_nil, loadF c5]
    refine (cc).mono ?_
    rintro _ H2 ⟨rfl, rfl⟩
    refine hN16 [(0, v), (2, .bool false), (3, Zc (m : Nat)), (5, .pointer (some ⟨hp.length, 0, none⟩)), (7, v), (8, Zc ps.length), (9, Zc (k : Nat)), (15, .bool (!chB 10000000000 (x, y)))] _ _ ?_ (by simp (maxSteps := 2000000) only [vup, cond_true, cond_false, Nat.reduceBEq])
    clear hN16
    try clear N16
    refine Zi ?_
    cases hch : chB 10000000000 (x, y) with
    | false =>
      simp (maxSteps := 2000000) only [↓Za, ↓Zr, ↓Zv, ↓Zb, ↓Zd, ↓vdn, vup, cond_true, cond_false, aop, Zf, Zm, ev, sput, Zg, Nat.reduceBEq]
      refine none0 ?_ _ rfl
      rw [chB_okP] at hch
      rcases Bool.and_eq_false_iff.1 hch with h1 | h1
      · rw [← hmul, mulTo_no h1]; rfl
      · have h2 : (ps.all fun p => decide (p.1 ≤ p.2)) = false := by
          rw [List.all_eq_false]; exact ⟨_, hmem, by simpa using h1⟩
        rw [h2, Bool.and_false]
    | true =>
      simp (maxSteps := 2000000) only [↓Zo, ↓vdn, vup, cond_true, cond_false, Zf, ev, Nat.reduceBEq]
      rw [chB_okP, Bool.and_eq_true] at hch
      obtain ⟨hok, hxy1⟩ := hch
      have hxy2 : x ≤ y := by simpa using hxy1
      have hok' := hok
      simp only [okP, Bool.and_eq_true, decide_eq_true_eq] at hok'
      obtain ⟨n, hn⟩ : ∃ n : Nat, y = n := ⟨y.toNat, by omega⟩
      subst hn
      have hn0 : 0 < n := by omega
      have hgp := Nat.gcd_pos_of_pos_left n hm0
      have hg0 : ¬ ((Nat.gcd m n : Nat) : Int) = 0 := by omega
      have q1 := quoD (x := n) (show n < 9223372036854775808 by omega) (Nat.gcd_dvd_right m n)
      have hd0 : 0 < n / Nat.gcd m n := Nat.div_pos (Nat.le_of_dvd hn0 (Nat.gcd_dvd_right _ _)) hgp
      have hd0' : ¬ ((n / Nat.gcd m n : Nat) : Int) = 0 := by omega
      have q2 : quoV .i64 10000000000 ((n / Nat.gcd m n : Nat) : Int) = ((10000000000 / (n / Nat.gcd m n) : Nat) : Int) := by
        generalize n / Nat.gcd m n = d
        have h5 : (10000000000 : Int).tdiv ((d : Nat) : Int) = ((10000000000 / d : Nat) : Int) := by rw [Int.tdiv_eq_ediv_of_nonneg (by omega)]; rfl
        have h6 := Nat.div_le_self 10000000000 d
        rw [quoV, h5]
        generalize 10000000000 / d = z at h6 ⊢
        exact wrap_id (by omega) (by omega)
      have el : Nat.lcm m n = m * (n / Nat.gcd m n) := by rw [Nat.lcm, Nat.mul_div_assoc _ (Nat.gcd_dvd_right _ _)]
      have hgt := lcm_gt' hm0 hn0
      have gc : Xc prog 88 [Zc (m : Nat), Zc (n : Nat)] H2 _ := gcd_call (a := (m : Int)) (b := (n : Int)) (.inl (by omega)) (by omega)
      rw [Int.natAbs_natCast, Int.natAbs_natCast] at gc
      rw [mulTo] at hmul
      refine hC [(0, v), (2, .bool false), (3, Zc (m : Nat)), (5, .pointer (some ⟨hp.length, 0, none⟩)), (7, v), (8, Zc ps.length), (9, Zc (k : Nat))] _ _ ?_ (by simp (maxSteps := 2000000) only [vup, cond_true, cond_false, Nat.reduceBEq])
      clear hC
      try clear C
      refine Ze fun N17 hN17 => ?_
      simp only [q75_7]
      refine Xg [(5, 1)] (by kernel_rfl) (by kernel_rfl) (by kernel_rfl) (by kernel_rfl) ?_
      simp (maxSteps := 2000000) only [↓Yc, ↓vdn, vup, List.map_cons, List.map_nil, cond_true, cond_false, aop, Zf, ev, sput, Zg, Yb, Yd, Nat.reduceBEq, Nat.reduceAdd, tyf, fA1, Wa c5, Yr, List.nil_append, List.append_nil]
      refine ⟨_, _, gc, rfl, ?_⟩
      simp (maxSteps := 2000000) only [vup, ne_eq, hg0, not_false_eq_true, q1]
      refine hN17 [(0, v), (2, .bool false), (3, Zc (m : Nat)), (5, .pointer (some ⟨hp.length, 0, none⟩)), (6, Zc (n / Nat.gcd m n : Nat)), (7, v), (8, Zc ps.length), (9, Zc (k : Nat))] _ _ ?_ (by simp (maxSteps := 2000000) only [vup, cond_true, cond_false, Nat.reduceBEq])
      clear hN17
      try clear N17
      refine Ze fun N18 hN18 => ?_
      by_cases hbig : 10000000000 < Nat.lcm m n
      · have hb2 : (m : Int) > ((10000000000 / (n / Nat.gcd m n) : Nat) : Int) := by have := hgt.2 hbig; omega
        rw [if_neg (by rw [Int.natAbs_natCast]; omega)] at hmul
        simp (maxSteps := 2000000) only [↓Za, ↓Zr, ↓Zv, ↓Zb, ↓Zd, ↓vdn, vup, cond_true, cond_false, aop, Zf, Zm, ev, sput, Zg, Yb, Yd, Nat.reduceBEq, ne_eq, hd0', not_false_eq_true, q2, hb2]
        exact none0 (by rw [← hmul]; rfl) _ rfl
      · have hb2 : ¬ (m : Int) > ((10000000000 / (n / Nat.gcd m n) : Nat) : Int) := by
          intro hc
          exact hbig (hgt.1 (by omega))
        rw [if_pos ⟨hok, by rw [Int.natAbs_natCast]; omega⟩, Int.natAbs_natCast] at hmul
        have m1 : mulV .i64 (m : Int) ((n / Nat.gcd m n : Nat) : Int) = ((Nat.lcm m n : Nat) : Int) := by
          rw [mulN (by rw [← Int.natCast_mul, ← el]; omega), el, Int.natCast_mul]
        simp (maxSteps := 2000000) only [↓Za, ↓Zo, ↓Zr, ↓Zb, ↓Zd, ↓vdn, vup, cond_true, cond_false, aop, Zf, ev, sput, Zg, Yb, Yd, Nat.reduceBEq, ne_eq, hd0', not_false_eq_true, q2, hb2]
        refine hN18 [(0, v), (2, .bool false), (3, Zc (m : Nat)), (5, .pointer (some ⟨hp.length, 0, none⟩)), (6, Zc (n / Nat.gcd m n : Nat)), (7, v), (8, Zc ps.length), (9, Zc (k : Nat))] _ _ ?_ (by simp (maxSteps := 2000000) only [vup, cond_true, cond_false, Nat.reduceBEq])
        clear hN18
        try clear N18
        refine Zi ?_
        simp (maxSteps := 2000000) only [↓Za, ↓Zb, ↓Zd, vup, cond_true, cond_false, aop, Zf, Zm, ev, sput, Zg, Yb, Yd, Nat.reduceBEq, m1]
        refine hB [(0, v), (2, .bool false), (3, Zc (Nat.lcm m n : Nat)), (6, Zc (n / Nat.gcd m n : Nat)), (7, v), (8, Zc ps.length), (9, Zc (k : Nat))] _ _ ?_ (by simp (maxSteps := 2000000) only [vup, cond_true, cond_false, Nat.reduceBEq])
        clear hB
        try clear B
        refine Zi ?_
        simp (maxSteps := 2000000) only [↓Za, ↓Zb, ↓Zd, vup, cond_true, cond_false, aop, ev, sput, Zg, Yb, Yd, Nat.reduceBEq, add1 (show k < 9223372036854775807 by omega)]
        refine hQ2 _ _ _ ⟨(k + 1, Nat.lcm m n, H2), ⟨hk', Nat.lcm_pos hm0 hn0, by simp only; omega, hmul, ?_, hEH⟩, by simp only; omega, by simp (maxSteps := 2000000) only [vup, cond_true, cond_false, Nat.reduceBEq], rfl⟩
        intro p hp'
        simp only [take_snoc (d := ((0, 0) : Int × Int)) hk', hxy] at hp'
        rcases List.mem_append.1 hp' with h3 | h3
        · exact hall p h3
        · simp at h3; subst h3; simp only; omega
  · obtain rfl : k = ps.length := by omega
    rw [List.drop_length, mulTo] at hmul
    rw [List.take_length] at hall
    refine Ze fun N19 hN19 => ?_
    simp (maxSteps := 2000000) only [↓Za, ↓Zb, ↓Zd, vup, cond_true, cond_false, aop, Zf, ev, sput, Zg, Yb, Yd, Nat.reduceBEq, hin]
    refine hN19 [(0, v), (2, .bool false), (3, Zc (m : Nat)), (7, v), (8, Zc ps.length), (9, Zc ps.length), (10, .bool false)] _ _ ?_ (by simp (maxSteps := 2000000) only [vup, cond_true, cond_false, Nat.reduceBEq])
    clear hN19
    try clear N19
    refine Ze fun N20 hN20 => ?_
    simp (maxSteps := 2000000) only [↓Yo, ↓vdn, vup, cond_true, cond_false, Zf, ev, Nat.reduceBEq]
    refine hQ2 _ _ _ (hQ _ _ _ ?_)
    simp (maxSteps := 2000000) only [Zf, Zm, Zs, if_true]
    refine hM [(0, v), (2, .bool false), (3, Zc (m : Nat)), (7, v), (8, Zc ps.length), (9, Zc ps.length), (10, .bool false)] _ _ ?_ (by simp (maxSteps := 2000000) only [vup, cond_true, cond_false, Nat.reduceBEq])
    clear hM
    try clear M
    refine Zi ?_
    simp (maxSteps := 2000000) only [↓Za, ↓Zr, ↓Zv, ↓Zb, ↓Zd, vup, cond_true, cond_false, aop, Zf, ev, sput, Zg, Nat.reduceBEq, Zs, Xw, tup]
    refine ⟨?_, hE⟩
    have h2 : (ps.all fun p => decide (p.1 ≤ p.2)) = true := by
      rw [List.all_eq_true]; exact fun p hp => by simp [hall p hp]
    rw [h2, ← hmul]
    simp; omega
end Go.Proofs.Try.Am

namespace Go.Proofs.Try.Am
open Go.Am Bq
set_option maxRecDepth 100000
set_option maxHeartbeats 1000000

/-- A fraction as a number's value. -/
theorem frV_q {p : Int × Int} (h : ofQ (toQ p) = p) : frV p.1 p.2 = qV (toQ p) := by
  conv => lhs; rw [← h]
  rfl
/-- A sum that fits. -/
theorem plus_fits [Tabs prog] {h : Zh} {a b : Rat} {k : Int} {N A B : Nat} (hN : 0 < N) (hN2 : N < 9223372036854775808) (da : a.den ∣ N) (db : b.den ∣ N) (a1 : -(A : Rat) ≤ a) (a2 : a ≤ A) (b1 : -(B : Rat) ≤ b) (b2 : b ≤ B)
    (hh : (A + k.natAbs * B) * N < 9223372036854775808) : Xc prog 71 [qV a, Zc k, qV b] h (qV (a + k * b)) := by
  obtain ⟨x, hx⟩ := rp_of hN da
  obtain ⟨y, hy⟩ := rp_of hN db
  have h1 := hx.bound a1 a2
  have h2 := hy.bound b1 b2
  refine plus_call hx hy ?_ hN2
  rw [Int.natAbs_mul]
  have h3 : k.natAbs * y.natAbs ≤ k.natAbs * (B * N) := Nat.mul_le_mul_left _ h2
  rw [Nat.add_mul, Nat.mul_assoc] at hh
  omega

section
theorem s116_callW [Tabs Try.prog] {args : List Value} {h : Zh} {Q : Value → Zh → Prop} (hsz : args.length ≤ 19) (hk : AWS Try.prog 19 s116 (Zs Try.prog [.tmp 4] Q) (Zp 0 args) h) : ACall Try.prog 116 args h Q :=
  Ym Try.func116 rfl (enters_of Try.func116 (by kernel_rfl) rfl) rfl rfl (by decide) s116_strip s116_ok hsz hk
theorem idxF_call [Tabs prog] {h : Zh} {v : Value} {ps : List (Int × Int)} {g : FuncId} {cap : Array Value} {f : Int × Int → Bool} (hv : PairSl h v ps) (hl : ps.length < 9223372036854775808)
    (hc : ∀ h', Ext (fun _ => False) h h' → ∀ p ∈ ps, Xc prog g ([frV p.1 p.2] ++ cap.toList) h' (.bool (f p))) : ACall prog 116 [v, .func (.func g) #[] cap] h fun r h' => h' = h ∧ ∃ i : Int, r = Zc i ∧ decide (0 ≤ i) = ps.any f := by
  refine s116_callW (by simp) ?_
  simp only [s116]
  refine Ze fun N1 hN1 => ?_
  simp (maxSteps := 2000000) only [↓Za, ↓Zb, ↓Zd, vup, cond_false, aop, Zf, Zp, ev, sput, Zg, Nat.reduceBEq, Nat.reduceAdd]
  refine hN1 [(0, v), (1, .func (.func g) #[] cap), (4, .int .i64 0)] _ _ ?_ (by simp (maxSteps := 2000000) only [vup, cond_true, cond_false, Nat.reduceBEq])
  clear hN1
  try clear N1
  refine Zk fun Z hZ => ?_
  refine Ze fun N2 hN2 => ?_
  simp (maxSteps := 2000000) only [↓Za, ↓Zb, ↓Zd, vup, List.map_cons, List.map_nil, cond_true, cond_false, aop, Zf, ev, sput, Zg, Zj, Nat.reduceBEq, tyf, hv.len]
  refine hN2 [(0, v), (1, .func (.func g) #[] cap), (4, .int .i64 0), (6, v), (7, Zc ps.length), (8, .int .i64 0)] _ _ ?_ (by simp (maxSteps := 2000000) only [vup, cond_true, cond_false, Nat.reduceBEq])
  clear hN2
  try clear N2
  refine Zl ?_
  refine Zn fun Q hQ => ?_
  refine Yj (γ := Nat) (fun k => k ≤ ps.length ∧ ∀ p ∈ ps.take k, f p = false)
    (fun k => ([(0, v), (1, .func (.func g) #[] cap), (4, .int .i64 0), (6, v), (7, Zc ps.length), (8, Zc (k : Nat))], h)) (fun k => ps.length - k) 0 ⟨Nat.zero_le _, by simp⟩ (by simp (maxSteps := 2000000) only [vup, cond_true, cond_false, Nat.reduceBEq, Int.natCast_zero]) rfl ?_
  rintro k ⟨hk, hall⟩
  refine Zn fun Q2 hQ2 => ?_
  simp only [l116_0]
  by_cases hin : (k : Int) < ps.length
  · have hk' : k < ps.length := by omega
    obtain ⟨⟨x, y⟩, hxy⟩ : ∃ p, ps.getD k (0, 0) = p := ⟨_, rfl⟩
    have hmem : (x, y) ∈ ps := hxy ▸ We hk'
    refine Ze fun N3 hN3 => ?_
    simp (maxSteps := 2000000) only [↓Za, ↓Zb, ↓Zd, vup, cond_true, cond_false, aop, Zf, ev, sput, Zg, Yb, Yd, Nat.reduceBEq, hin]
    refine hN3 [(0, v), (1, .func (.func g) #[] cap), (4, .int .i64 0), (6, v), (7, Zc ps.length), (8, Zc (k : Nat)), (9, .bool true)] _ _ ?_ (by simp (maxSteps := 2000000) only [vup, cond_true, cond_false, Nat.reduceBEq])
    clear hN3
    try clear N3
    refine Ze fun N4 hN4 => ?_
    simp (maxSteps := 2000000) only [↓Zo, ↓vdn, vup, cond_true, cond_false, Zf, ev, Nat.reduceBEq]
    refine hN4 [(0, v), (1, .func (.func g) #[] cap), (4, .int .i64 0), (6, v), (7, Zc ps.length), (8, Zc (k : Nat))] _ _ ?_ (by simp (maxSteps := 2000000) only [vup, cond_true, cond_false, Nat.reduceBEq])
    clear hN4
    try clear N4
    refine Zk fun B hB => ?_
    refine Zl ?_
    refine Ze fun N5 hN5 => ?_
    simp (maxSteps := 2000000) only [↓Za, ↓Zb, ↓Zd, vup, cond_true, cond_false, aop, Zf, ev, sput, Zg, Nat.reduceBEq]
    refine hN5 [(0, v), (1, .func (.func g) #[] cap), (4, .int .i64 0), (5, Zc (k : Nat)), (6, v), (7, Zc ps.length), (8, Zc (k : Nat))] _ _ ?_ (by simp (maxSteps := 2000000) only [vup, cond_true, cond_false, Nat.reduceBEq])
    clear hN5
    try clear N5
    refine Ze fun N6 hN6 => ?_
    simp (maxSteps := 2000000) only [↓Za, ↓Zb, ↓Zd, vup, List.map_cons, List.map_nil, cond_true, cond_false, aop, Zf, ev, sput, Zg, Nat.reduceBEq, hv.idx el_47 Wr hk', hv.load Vu hk', hxy, Yr, List.nil_append]
    refine (show Xc prog g ([.agg #[Zc x, Zc y]] ++ cap.toList) h (.bool (f (x, y))) from hc h (Ext.refl _ _) _ hmem).mono ?_
    rintro _ h ⟨rfl, rfl⟩
    refine hN6 [(0, v), (1, .func (.func g) #[] cap), (4, .int .i64 0), (5, Zc (k : Nat)), (6, v), (7, Zc ps.length), (8, Zc (k : Nat)), (16, .bool (f (x, y)))] _ _ ?_ (by simp (maxSteps := 2000000) only [vup, cond_true, cond_false, Nat.reduceBEq])
    clear hN6
    try clear N6
    refine Zi ?_
    cases hf : f (x, y) with
    | true =>
      simp (maxSteps := 2000000) only [↓Za, ↓Zr, ↓Zv, ↓Zb, ↓Zd, ↓vdn, vup, cond_true, cond_false, aop, Zf, Zm, ev, sput, Zg, Nat.reduceBEq]
      refine hQ2 _ _ _ (hQ _ _ _ ?_)
      simp (maxSteps := 2000000) only [vup, cond_true, cond_false, Zf, Zm, Nat.reduceBEq, Zs, Xw, tup]
      exact ⟨_, rfl, by rw [show ps.any f = true from List.any_eq_true.2 ⟨_, hmem, hf⟩]; simp⟩
    | false =>
      simp (maxSteps := 2000000) only [↓Zo, ↓vdn, vup, cond_true, cond_false, Zf, Zm, ev, Nat.reduceBEq]
      refine hB [(0, v), (1, .func (.func g) #[] cap), (4, .int .i64 0), (6, v), (7, Zc ps.length), (8, Zc (k : Nat))] _ _ ?_ (by simp (maxSteps := 2000000) only [vup, cond_true, cond_false, Nat.reduceBEq])
      clear hB
      try clear B
      refine Zi ?_
      simp (maxSteps := 2000000) only [↓Za, ↓Zb, ↓Zd, vup, cond_true, cond_false, aop, ev, sput, Zg, Yb, Yd, Nat.reduceBEq, add1 (show k < 9223372036854775807 by omega)]
      refine hQ2 _ _ _ ⟨k + 1, ⟨hk', fun p hp => ?_⟩, by omega, by simp (maxSteps := 2000000) only [vup, cond_true, cond_false, Nat.reduceBEq], rfl⟩
      rw [take_snoc (d := ((0, 0) : Int × Int)) hk', hxy] at hp
      rcases List.mem_append.1 hp with h3 | h3
      · exact hall p h3
      · simp at h3; subst h3; exact hf
  · obtain rfl : k = ps.length := by omega
    refine Ze fun N7 hN7 => ?_
    simp (maxSteps := 2000000) only [↓Za, ↓Zb, ↓Zd, vup, cond_true, cond_false, aop, Zf, ev, sput, Zg, Yb, Yd, Nat.reduceBEq, hin]
    refine hN7 [(0, v), (1, .func (.func g) #[] cap), (4, .int .i64 0), (6, v), (7, Zc ps.length), (8, Zc ps.length), (9, .bool false)] _ _ ?_ (by simp (maxSteps := 2000000) only [vup, cond_true, cond_false, Nat.reduceBEq])
    clear hN7
    try clear N7
    refine Ze fun N8 hN8 => ?_
    simp (maxSteps := 2000000) only [↓Yo, ↓vdn, vup, cond_true, cond_false, Zf, ev, Nat.reduceBEq]
    refine hQ2 _ _ _ (hQ _ _ _ ?_)
    simp (maxSteps := 2000000) only [Zf, Zm, Zs, if_true]
    refine hZ [(0, v), (1, .func (.func g) #[] cap), (4, .int .i64 0), (6, v), (7, Zc ps.length), (8, Zc ps.length), (9, .bool false)] _ _ ?_ (by simp (maxSteps := 2000000) only [vup, cond_true, cond_false, Nat.reduceBEq])
    clear hZ
    try clear Z
    refine Zi ?_
    simp (maxSteps := 2000000) only [↓Za, ↓Zr, ↓Zv, ↓Zb, ↓Zd, vup, cond_true, cond_false, aop, Zf, ev, sput, Zg, Nat.reduceBEq, Zs, Xw, tup]
    rw [List.take_length] at hall
    exact ⟨_, rfl, by rw [show ps.any f = false from List.any_eq_false.2 fun p hp => by simp [hall p hp]]; decide⟩
end

theorem s101_callW [Tabs Try.prog] {args : List Value} {h : Zh} {Q : Value → Zh → Prop} (hsz : args.length ≤ 9) (hk : AWS Try.prog 9 s101 (Zs Try.prog [.tmp 4] Q) (Zp 0 args) h) : ACall Try.prog 101 args h Q :=
  Ym Try.func101 rfl (enters_of Try.func101 (by kernel_rfl) rfl) rfl rfl (by decide) s101_strip s101_ok hsz hk
theorem hasF_call [Tabs prog] {h : Zh} {v : Value} {ps : List (Int × Int)} {g : FuncId} {cap : Array Value} {f : Int × Int → Bool} (hv : PairSl h v ps) (hl : ps.length < 9223372036854775808)
    (hc : ∀ h', Ext (fun _ => False) h h' → ∀ p ∈ ps, Xc prog g ([frV p.1 p.2] ++ cap.toList) h' (.bool (f p))) : Xc prog 101 [v, .func (.func g) #[] cap] h (.bool (ps.any f)) := by
  refine s101_callW (by simp) ?_
  refine Zi ?_
  simp (maxSteps := 2000000) only [s101, ↓Za, ↓Zr, ↓Zv, ↓Zb, ↓Zd, vup, List.map_cons, List.map_nil, cond_true, cond_false, aop, Zf, Zp, ev, sput, Zg, Yb, Yd, Nat.reduceBEq, Nat.reduceAdd, Zs, Xw, tup, tyf, Yr, List.nil_append, List.append_nil]
  refine (idxF_call hv hl hc).mono ?_
  rintro _ h1 ⟨rfl, i, rfl, hi⟩
  simp (maxSteps := 2000000) only [vup, hi]

theorem any_not (f : Int × Int → Bool) (ps : List (Int × Int)) : (!ps.any fun p => !f p) = ps.all f := by
  rw [List.all_eq_not_any_not]
theorem s61_callW [Tabs Try.prog] {args : List Value} {h : Zh} {Q : Value → Zh → Prop} (hsz : args.length ≤ 26) (hk : AWS Try.prog 26 s61 (Zs Try.prog [.cell 4 26] Q) (Zp 0 args) h) : ACall Try.prog 61 args h Q :=
  Ym Try.func61 rfl (enters_of Try.func61 (by kernel_rfl) rfl) rfl rfl (by decide) s61_strip s61_ok hsz hk
theorem of_call [Tabs prog] {h : Zh} {v : Value} {evt N : Nat} {ps : List (Int × Int)} (hv : PairSl h v ps) (hl : ps.length ≤ 100) (hvl : Vld ps) (hev : evt < 9223372036854775808) (hN : 0 < N) (hN2 : N ≤ 10000000000000)
    (hq : ∀ k, k < ps.length → 0 ≤ fq ps k ∧ fq ps k ≤ 1 ∧ (fq ps k).den ∣ N) : Xc prog 61 [v, Zc (evt : Nat)] h (qV (Ya (inEv (fq ps) evt) ps.length)) := by
  have hq2 : ∀ k, k < ps.length → 0 ≤ inEv (fq ps) evt k ∧ inEv (fq ps) evt k ≤ 1 ∧ (inEv (fq ps) evt k).den ∣ N := fun k hk => by
    rw [inEv]; split
    · exact hq k hk
    · exact ⟨Rat.le_refl, by decide, Nat.one_dvd _⟩
  have hs : ∀ k, k ≤ ps.length → 0 ≤ Ya (inEv (fq ps) evt) k ∧ Ya (inEv (fq ps) evt) k ≤ (100 : Nat) ∧ (Ya (inEv (fq ps) evt) k).den ∣ N := fun k hk => by
    refine ⟨sumTo_nonneg fun i hi => (hq2 i (by omega)).1, ?_, sumTo_den hN fun i hi => (hq2 i (by omega)).2.2⟩
    have : ∀ j, j ≤ k → Ya (inEv (fq ps) evt) j ≤ (j : Nat) := by
      intro j
      induction j with
      | zero => intro _; exact Rat.le_refl
      | succ j ih =>
        intro hj
        have h1 := ih (by omega)
        have h2 := (hq2 j (by omega)).2.1
        rw [Ya]; push_cast; grind
    refine Rat.le_trans (this k (Nat.le_refl _)) ?_
    exact_mod_cast (show k ≤ 100 by omega)
  refine ACall.forget (low_frV _ _) ?_
  refine s61_callW (by simp) ?_
  simp only [s61]
  refine Ze fun N9 hN9 => ?_
  simp (maxSteps := 2000000) only [↓Za, ↓Zb, ↓Zd, vup, cond_false, aop, Zf, Zp, sput, Zg, Nat.reduceBEq, Nat.reduceAdd, tyf, Xm, Yq]
  refine hN9 [(0, v), (1, Zc (evt : Nat)), (4, .pointer (some ⟨h.length, 0, none⟩))] _ _ ?_ (by simp (maxSteps := 2000000) only [vup, cond_true, cond_false, Nat.reduceBEq])
  clear hN9
  try clear N9
  refine Ze fun N10 hN10 => ?_
  simp (maxSteps := 2000000) only [↓Za, ↓Zb, ↓Zd, vup, List.map_cons, List.map_nil, cond_true, cond_false, aop, Zf, ev, sput, Zg, Nat.reduceBEq, Yr, List.nil_append, List.append_nil]
  refine ((show Xc prog 70 [.int .i64 0] (h ++ [z0]) (qV ((0 : Int) : Rat)) from whole_call)).mono ?_
  rintro _ H1 ⟨rfl, hH1⟩
  have h1l : H1.length = h.length + 1 := by rw [hH1]; simp
  have q0 : qV ((0 : Int) : Rat) = .agg #[Zc 0, Zc 1] := rfl
  have n5 : (H1 ++ [Blk.cells [.int .i64 0, .int .i64 0] 26 false])[H1.length]? = some z0 := Zw _ _
  simp (maxSteps := 2000000) only [tyf, Xm, Yq, q0, Wl n5 rfl, Wb]
  rw [h1l]
  obtain ⟨H0, hH0⟩ : ∃ H0, H0 = H1 ++ [fC 0 1] := ⟨_, rfl⟩
  have d4 : H0[h.length]? = some z0 := by rw [hH0, hH1]; exact b2_0 ..
  have d5 : H0[h.length + 1]? = some (fC 0 1) := by rw [hH0, hH1]; exact b2_1 ..
  have dE : Ext (fun _ => False) h H0 := by rw [hH0, hH1]; exact e2 ..
  rw [← hH0]
  refine hN10 [(0, v), (1, Zc (evt : Nat)), (4, .pointer (some ⟨h.length, 0, none⟩)), (5, .pointer (some ⟨h.length + 1, 0, none⟩))] _ _ ?_ (by simp (maxSteps := 2000000) only [vup, cond_true, cond_false, Nat.reduceBEq])
  clear hN10
  try clear N10
  refine Zk fun Z hZ => ?_
  refine Ze fun N11 hN11 => ?_
  simp (maxSteps := 2000000) only [↓Za, ↓Zb, ↓Zd, vup, List.map_cons, List.map_nil, cond_true, cond_false, aop, Zf, ev, sput, Zg, Zj, Nat.reduceBEq, tyf, hv.len]
  refine hN11 [(0, v), (1, Zc (evt : Nat)), (4, .pointer (some ⟨h.length, 0, none⟩)), (5, .pointer (some ⟨h.length + 1, 0, none⟩)), (9, v), (10, Zc ps.length), (11, .int .i64 0)] _ _ ?_ (by simp (maxSteps := 2000000) only [vup, cond_true, cond_false, Nat.reduceBEq])
  clear hN11
  try clear N11
  refine Zl ?_
  refine Zn fun Q hQ => ?_
  refine Yj (γ := Nat × Zh) (fun s => s.1 ≤ ps.length ∧ Ext (fun _ => False) h s.2 ∧ s.2[h.length]? = some z0 ∧ s.2[h.length + 1]? = some (fC (Ya (inEv (fq ps) evt) s.1).num (Ya (inEv (fq ps) evt) s.1).den))
    (fun s => ([(0, v), (1, Zc (evt : Nat)), (4, .pointer (some ⟨h.length, 0, none⟩)), (5, .pointer (some ⟨h.length + 1, 0, none⟩)), (9, v), (10, Zc ps.length), (11, Zc (s.1 : Nat))], s.2)) (fun s => ps.length - s.1) (0, H0) ⟨Nat.zero_le _, dE, d4, d5⟩ (by simp (maxSteps := 2000000) only [vup, cond_true, cond_false, Nat.reduceBEq, Int.natCast_zero]) rfl ?_
  rintro ⟨k, hp⟩ ⟨hk, hE, k4, k5⟩
  simp only at hk hE k4 k5
  refine Zn fun Q2 hQ2 => ?_
  simp only [l61_0]
  by_cases hin : (k : Int) < ps.length
  · have hk' : k < ps.length := by omega
    have hvp := hv.ext hE
    obtain ⟨⟨x, y⟩, hxy⟩ : ∃ p, ps.getD k (0, 0) = p := ⟨_, rfl⟩
    have hmem : (x, y) ∈ ps := hxy ▸ We hk'
    have hxq := frV_q (hvl _ hmem)
    have hfq : fq ps k = toQ (x, y) := by rw [fq, hxy]
    have ht := testV (y := k) hev
    obtain ⟨s1, s2, s3⟩ := hs k hk
    obtain ⟨t1, t2, t3⟩ := hq k hk'
    have hnext : Ya (inEv (fq ps) evt) (k + 1) = Ya (inEv (fq ps) evt) k + if evt.testBit k then fq ps k else 0 := rfl
    obtain ⟨H, hH⟩ : ∃ H, H = hp ++ [fC x y] := ⟨_, rfl⟩
    have c7 : H[hp.length]? = some (fC x y) := by rw [hH]; exact Zw _ _
    have c4 : H[h.length]? = some z0 := by rw [hH]; exact Xy k4 _
    have c5 : H[h.length + 1]? = some (fC (Ya (inEv (fq ps) evt) k).num (Ya (inEv (fq ps) evt) k).den) := by rw [hH]; exact Xy k5 _
    have hEH : Ext (fun _ => False) h H := by rw [hH]; exact hE.trans (Ext.app _ _ _)
    refine Ze fun N12 hN12 => ?_
    simp (maxSteps := 2000000) only [↓Za, ↓Zb, ↓Zd, vup, cond_true, cond_false, aop, Zf, ev, sput, Zg, Yb, Yd, Nat.reduceBEq, hin]
    refine hN12 [(0, v), (1, Zc (evt : Nat)), (4, .pointer (some ⟨h.length, 0, none⟩)), (5, .pointer (some ⟨h.length + 1, 0, none⟩)), (9, v), (10, Zc ps.length), (11, Zc (k : Nat)), (12, .bool true)] _ _ ?_ (by simp (maxSteps := 2000000) only [vup, cond_true, cond_false, Nat.reduceBEq])
    clear hN12
    try clear N12
    refine Ze fun N13 hN13 => ?_
    simp (maxSteps := 2000000) only [↓Zo, ↓vdn, vup, cond_true, cond_false, Zf, ev, Nat.reduceBEq]
    refine hN13 [(0, v), (1, Zc (evt : Nat)), (4, .pointer (some ⟨h.length, 0, none⟩)), (5, .pointer (some ⟨h.length + 1, 0, none⟩)), (9, v), (10, Zc ps.length), (11, Zc (k : Nat))] _ _ ?_ (by simp (maxSteps := 2000000) only [vup, cond_true, cond_false, Nat.reduceBEq])
    clear hN13
    try clear N13
    refine Zk fun B hB => ?_
    refine Zl ?_
    refine Ze fun N14 hN14 => ?_
    simp (maxSteps := 2000000) only [↓Za, ↓Zb, ↓Zd, vup, cond_true, cond_false, aop, Zf, ev, sput, Zg, Nat.reduceBEq, tyf, hvp.idx el_90 Wr hk', hvp.load Vu hk', hxy, Xm, Yq, Wl (Zw hp z0) rfl, Wb]
    rw [← hH]
    refine hN14 [(0, v), (1, Zc (evt : Nat)), (4, .pointer (some ⟨h.length, 0, none⟩)), (5, .pointer (some ⟨h.length + 1, 0, none⟩)), (6, Zc (k : Nat)), (7, .pointer (some ⟨hp.length, 0, none⟩)), (9, v), (10, Zc ps.length), (11, Zc (k : Nat))] _ _ ?_ (by simp (maxSteps := 2000000) only [vup, cond_true, cond_false, Nat.reduceBEq])
    clear hN14
    try clear N14
    have fin : ∀ e h2, Ext (fun _ => False) h h2 → h2[h.length]? = some z0 → h2[h.length + 1]? = some (fC (Ya (inEv (fq ps) evt) (k + 1)).num (Ya (inEv (fq ps) evt) (k + 1)).den) → ELe e [(0, v), (1, Zc (evt : Nat)), (4, .pointer (some ⟨h.length, 0, none⟩)), (5, .pointer (some ⟨h.length + 1, 0, none⟩)), (9, v), (10, Zc ps.length), (11, Zc (k : Nat))] → B e h2 := by
      intro e h2 g1 g2 g3 he
      refine hB _ _ _ ?_ he
      refine Zi ?_
      simp (maxSteps := 2000000) only [↓Za, ↓Zb, ↓Zd, vup, cond_true, cond_false, aop, ev, sput, Zg, Yb, Yd, Nat.reduceBEq, add1 (show k < 9223372036854775807 by omega)]
      exact hQ2 _ _ _ ⟨(k + 1, h2), ⟨hk', g1, g2, g3⟩, by simp only; omega, by simp (maxSteps := 2000000) only [vup, cond_true, cond_false, Nat.reduceBEq], rfl⟩
    refine Ze fun N15 hN15 => ?_
    simp (maxSteps := 2000000) only [↓Za, ↓Zb, ↓Zd, vup, cond_true, cond_false, aop, Zf, ev, sput, Zg, Yb, Yd, Nat.reduceBEq, ht, beq1]
    refine hN15 [(0, v), (1, Zc (evt : Nat)), (4, .pointer (some ⟨h.length, 0, none⟩)), (5, .pointer (some ⟨h.length + 1, 0, none⟩)), (6, Zc (k : Nat)), (7, .pointer (some ⟨hp.length, 0, none⟩)), (9, v), (10, Zc ps.length), (11, Zc (k : Nat)), (20, .bool (evt.testBit k))] _ _ ?_ (by simp (maxSteps := 2000000) only [vup, cond_true, cond_false, Nat.reduceBEq])
    clear hN15
    try clear N15
    refine Zi ?_
    cases hbit : evt.testBit k with
    | false =>
      rw [hbit, if_neg (by decide), Rat.add_zero] at hnext
      simp (maxSteps := 2000000) only [↓Zo, ↓vdn, vup, cond_true, cond_false, Zf, Zm, ev, Nat.reduceBEq]
      exact fin _ _ hEH c4 (by rw [hnext]; exact c5) (by simp (maxSteps := 2000000) only [vup, cond_true, cond_false, Nat.reduceBEq])
    | true =>
      rw [hbit, if_pos rfl] at hnext
      have pl := plus_fits (h := H) (k := 1) (A := 100) (B := 1) hN (by omega) s3 t3 (Rat.le_trans (by decide) s1) s2 (Rat.le_trans (by decide) t1) t2 (by simp; omega)
      rw [show (((1 : Int)) : Rat) = 1 from rfl, Rat.one_mul, ← hnext, hfq, ← hxq] at pl
      obtain ⟨q, hqq⟩ : ∃ q, Ya (inEv (fq ps) evt) (k + 1) = q := ⟨_, rfl⟩
      rw [hqq] at pl fin
      obtain ⟨s, hss⟩ : ∃ s, Ya (inEv (fq ps) evt) k = s := ⟨_, rfl⟩
      rw [hss] at pl c5
      simp (maxSteps := 2000000) only [↓Za, ↓Zb, ↓Zd, ↓vdn, vup, List.map_cons, List.map_nil, cond_true, cond_false, aop, Zf, Zm, ev, sput, Zg, Nat.reduceBEq, loadF c5, loadF c7, Yr, List.nil_append, List.append_nil]
      refine (show Xc prog 71 [.agg #[Zc s.num, Zc s.den], Zc 1, .agg #[Zc x, Zc y]] H (qV q) from pl).mono ?_
      rintro _ H ⟨rfl, rfl⟩
      simp (maxSteps := 2000000) only [qV, frV, Wl c5 rfl]
      refine fin _ _ (hEH.set_ge (by omega) _) (by rw [List.getElem?_set_ne (by omega)]; exact c4) (Wn (Xa c5) _) (by simp (maxSteps := 2000000) only [vup, cond_true, cond_false, Nat.reduceBEq])
  · obtain rfl : k = ps.length := by omega
    refine Ze fun N16 hN16 => ?_
    simp (maxSteps := 2000000) only [↓Za, ↓Zb, ↓Zd, vup, cond_true, cond_false, aop, Zf, ev, sput, Zg, Yb, Yd, Nat.reduceBEq, hin]
    refine hN16 [(0, v), (1, Zc (evt : Nat)), (4, .pointer (some ⟨h.length, 0, none⟩)), (5, .pointer (some ⟨h.length + 1, 0, none⟩)), (9, v), (10, Zc ps.length), (11, Zc ps.length), (12, .bool false)] _ _ ?_ (by simp (maxSteps := 2000000) only [vup, cond_true, cond_false, Nat.reduceBEq])
    clear hN16
    try clear N16
    refine Ze fun N17 hN17 => ?_
    simp (maxSteps := 2000000) only [↓Yo, ↓vdn, vup, cond_true, cond_false, Zf, ev, Nat.reduceBEq]
    refine hQ2 _ _ _ (hQ _ _ _ ?_)
    simp (maxSteps := 2000000) only [Zf, Zm, Zs, if_true]
    refine hZ [(0, v), (1, Zc (evt : Nat)), (4, .pointer (some ⟨h.length, 0, none⟩)), (5, .pointer (some ⟨h.length + 1, 0, none⟩)), (9, v), (10, Zc ps.length), (11, Zc ps.length), (12, .bool false)] _ _ ?_ (by simp (maxSteps := 2000000) only [vup, cond_true, cond_false, Nat.reduceBEq])
    clear hZ
    try clear Z
    obtain ⟨q, hqq⟩ : ∃ q, Ya (inEv (fq ps) evt) ps.length = q := ⟨_, rfl⟩
    rw [hqq] at k5 ⊢
    refine Zi ?_
    simp (maxSteps := 2000000) only [↓Za, ↓Zr, ↓Zv, ↓Zb, ↓Zd, vup, cond_true, cond_false, aop, Zf, ev, sput, Zg, Nat.reduceBEq, Zs, Xw, tup, loadF k5, Wl k4 rfl, loadF (Wn (Xa k4) _)]
    exact ⟨rfl, hE.set_ge (Nat.le_refl _) _⟩
end Go.Proofs.Try.Am

namespace Go.Proofs.Try.Am
open Go.Am Bq
set_option maxRecDepth 100000
set_option maxHeartbeats 1000000

theorem qeq (a b : Rat) : (([a.num, (a.den : Int)] : List Int) == [b.num, (b.den : Int)]) = decide (a = b) := by
  rw [Bool.eq_iff_iff, beq_iff_eq, decide_eq_true_eq, List.cons.injEq, List.cons.injEq]
  constructor
  · rintro ⟨h1, h2, _⟩; exact Rat.ext h1 (by omega)
  · rintro rfl; exact ⟨rfl, rfl, rfl⟩
theorem shl1 {n : Nat} (h : n ≤ 62) : shlV .i64 1 n = 2 ^ n := by
  have h2 : 2 ^ n ≤ 2 ^ 62 := Nat.pow_le_pow_right (by decide) h
  have := shlV_nat (a := 1) (y := n) (by omega) (by omega)
  simpa using this
theorem pow_cast (n : Nat) : ((2 ^ n : Nat) : Int) = 2 ^ n := by simp
theorem pow_le {n : Nat} (h : n ≤ 62) : 2 ^ n ≤ 4611686018427387904 := Nat.pow_le_pow_right (n := 2) (j := 62) (by decide) h
/-- All worlds. -/
theorem all_worlds {n : Nat} (h : n ≤ 62) : subV .i64 (2 ^ n) 1 = ((2 ^ n - 1 : Nat) : Int) := by
  have := pow_le h
  have := Nat.two_pow_pos n
  rw [← pow_cast, subV_id (by omega) (by omega)]; omega
theorem inEv_all {f : Nat → Rat} {n : Nat} : Ya (inEv f (2 ^ n - 1)) n = Ya f n := Zy fun i hi => by
  rw [inEv, Nat.testBit_two_pow_sub_one]; simp [hi]
end Go.Proofs.Try.Am

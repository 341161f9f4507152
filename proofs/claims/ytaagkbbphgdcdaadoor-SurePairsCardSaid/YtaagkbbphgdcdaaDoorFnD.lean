/- Printed by gen.py: the code of some functions, without what no step looks at; held against the program's own by the kernel. -/
import Derived.Test.YtaagkbbphgdcdaaDoorAmO
import Derived.Test.YtaagkbbphgdcdaaDoorProg
import Derived.KernelRfl
import Derived.Shelf.Abstract
set_option linter.all false
namespace Go.Proofs.Tryd.Am
open Go.Am
set_option maxRecDepth 100000
/-! 6: planchet planchetlaw05.SureJoins -/
@[reducible] def q6_0 : SCode := .region [⟨some 4, .assign (.const (.bool false)), none⟩]
@[reducible] def q6_1 : SCode := .region [⟨some 10, .move (.tmp 0), none⟩,
    ⟨some 11, .call { callee := .value (.func 18), args := #[.tmp 10], argTypes := #[22] }, none⟩,
    ⟨some 12, .move (.tmp 1), none⟩,
    ⟨some 13, .call { callee := .value (.func 18), args := #[.tmp 12], argTypes := #[22] }, none⟩,
    ⟨some 14, .call { callee := .value (.func 31), args := #[.tmp 11, .tmp 13], argTypes := #[22, 22] }, none⟩,
    ⟨some 9, .move (.tmp 14), none⟩,
    ⟨some 15, .extract (.tmp 9) 0, none⟩,
    ⟨some 16, .extract (.tmp 9) 1, none⟩,
    ⟨some 5, .assign (.tmp 15), none⟩,
    ⟨some 6, .assign (.tmp 16), none⟩]
@[reducible] def q6_2 : SCode := .region [⟨some 18, .move (.tmp 0), none⟩,
    ⟨some 19, .call { callee := .value (.func 18), args := #[.tmp 18], argTypes := #[22] }, none⟩,
    ⟨some 20, .move (.tmp 1), none⟩,
    ⟨some 21, .call { callee := .value (.func 18), args := #[.tmp 20], argTypes := #[22] }, none⟩,
    ⟨some 22, .call { callee := .value (.func 32), args := #[.tmp 19, .tmp 21], argTypes := #[22, 22] }, none⟩,
    ⟨some 17, .move (.tmp 22), none⟩,
    ⟨some 23, .extract (.tmp 17) 0, none⟩,
    ⟨some 24, .extract (.tmp 17) 1, none⟩,
    ⟨some 7, .assign (.tmp 23), none⟩,
    ⟨some 8, .assign (.tmp 24), none⟩]
@[reducible] def q6_3 : SCode := .region [⟨some 25, .move (.tmp 0), none⟩,
    ⟨some 26, .call { callee := .value (.func 20), args := #[.tmp 25], argTypes := #[22] }, none⟩,
    ⟨some 27, .unOp .not 4 (.tmp 26), none⟩,
    ⟨some 28, .move (.tmp 27), none⟩,
    ⟨some 29, .move (.tmp 1), some (28, false)⟩,
    ⟨some 30, .call { callee := .value (.func 20), args := #[.tmp 29], argTypes := #[22] }, some (28, false)⟩,
    ⟨some 31, .unOp .not 4 (.tmp 30), some (28, false)⟩,
    ⟨some 32, .pick (.tmp 28) (.const (.bool true)) (.tmp 31), none⟩]
@[reducible] def q6_4 : SCode := .region [⟨some 33, .move (.tmp 5), none⟩,
    ⟨some 34, .call { callee := .builtin .len, args := #[.tmp 33], argTypes := #[22] }, none⟩,
    ⟨some 35, .move (.tmp 7), none⟩,
    ⟨some 36, .call { callee := .builtin .len, args := #[.tmp 35], argTypes := #[22] }, none⟩,
    ⟨some 37, .binOp .add 3 (.tmp 34) (.tmp 36) 3, none⟩,
    ⟨some 38, .binOp .eql 3 (.tmp 37) (.const (.int .i64 0)) 3, none⟩,
    ⟨some 39, .move (.tmp 38), none⟩,
    ⟨some 40, .move (.tmp 6), some (39, true)⟩,
    ⟨some 41, .binOp .eql 23 (.tmp 40) (.const (.int .i64 2)) 23, some (39, true)⟩,
    ⟨some 42, .pick (.tmp 39) (.tmp 41) (.const (.bool false)), none⟩,
    ⟨some 43, .move (.tmp 42), none⟩,
    ⟨some 44, .move (.tmp 8), some (43, true)⟩,
    ⟨some 45, .binOp .eql 23 (.tmp 44) (.const (.int .i64 2)) 23, some (43, true)⟩,
    ⟨some 46, .pick (.tmp 43) (.tmp 45) (.const (.bool false)), none⟩,
    ⟨some 47, .move (.tmp 46), none⟩,
    ⟨some 48, .call { callee := .value (.func 21), args := #[], argTypes := #[] }, some (47, true)⟩,
    ⟨some 49, .pick (.tmp 47) (.tmp 48) (.const (.bool false)), none⟩,
    ⟨some 4, .assign (.tmp 49), none⟩]
@[reducible] def q6_5 : SCode := .region [⟨some 50, .move (.tmp 0), none⟩,
    ⟨some 51, .call { callee := .builtin .len, args := #[.tmp 50], argTypes := #[22] }, none⟩,
    ⟨some 52, .move (.tmp 1), none⟩,
    ⟨some 53, .call { callee := .builtin .len, args := #[.tmp 52], argTypes := #[22] }, none⟩,
    ⟨some 54, .binOp .mul 3 (.tmp 51) (.tmp 53) 3, none⟩,
    ⟨some 55, .binOp .gtr 3 (.tmp 54) (.const (.int .i64 6)) 3, none⟩]
@[reducible] def q6_6 : SCode := .region [⟨some 56, .move (.tmp 5), none⟩,
    ⟨some 57, .call { callee := .builtin .len, args := #[.tmp 56], argTypes := #[22] }, none⟩,
    ⟨some 58, .binOp .neq 3 (.tmp 57) (.const (.int .i64 0)) 3, none⟩,
    ⟨some 59, .move (.tmp 58), none⟩,
    ⟨some 60, .move (.tmp 6), some (59, false)⟩,
    ⟨some 61, .binOp .neq 23 (.tmp 60) (.const (.int .i64 6)) 23, some (59, false)⟩,
    ⟨some 62, .pick (.tmp 59) (.const (.bool true)) (.tmp 61), none⟩]
@[reducible] def q6_7 : SCode := .region [⟨some 4, .assign (.const (.bool false)), none⟩]
@[reducible] def q6_8 : SCode := .region [⟨some 63, .move (.tmp 5), none⟩,
    ⟨some 64, .move (.tmp 0), none⟩,
    ⟨some 65, .move (.tmp 1), none⟩,
    ⟨some 66, .call { callee := .value (.func 33), args := #[.tmp 64, .tmp 65], argTypes := #[22, 22] }, none⟩,
    ⟨some 67, .call { callee := .value (.func 24), args := #[.tmp 63, .tmp 66], argTypes := #[22, 22] }, none⟩,
    ⟨some 68, .unOp .not 4 (.tmp 67), none⟩,
    ⟨some 69, .move (.tmp 68), none⟩,
    ⟨some 70, .move (.tmp 6), some (69, false)⟩,
    ⟨some 71, .binOp .neq 23 (.tmp 70) (.const (.int .i64 0)) 23, some (69, false)⟩,
    ⟨some 72, .pick (.tmp 69) (.const (.bool true)) (.tmp 71), none⟩]
@[reducible] def q6_9 : SCode := .region [⟨some 4, .assign (.const (.bool false)), none⟩]
@[reducible] def q6_10 : SCode := .region [⟨some 73, .move (.tmp 0), none⟩,
    ⟨some 74, .call { callee := .builtin .len, args := #[.tmp 73], argTypes := #[22] }, none⟩,
    ⟨some 75, .move (.tmp 1), none⟩,
    ⟨some 76, .call { callee := .builtin .len, args := #[.tmp 75], argTypes := #[22] }, none⟩,
    ⟨some 77, .binOp .add 3 (.tmp 74) (.tmp 76) 3, none⟩,
    ⟨some 78, .binOp .gtr 3 (.tmp 77) (.const (.int .i64 6)) 3, none⟩]
@[reducible] def q6_11 : SCode := .region [⟨some 79, .move (.tmp 7), none⟩,
    ⟨some 80, .call { callee := .builtin .len, args := #[.tmp 79], argTypes := #[22] }, none⟩,
    ⟨some 81, .binOp .eql 3 (.tmp 80) (.const (.int .i64 0)) 3, none⟩,
    ⟨some 82, .move (.tmp 81), none⟩,
    ⟨some 83, .move (.tmp 8), some (82, true)⟩,
    ⟨some 84, .binOp .eql 23 (.tmp 83) (.const (.int .i64 6)) 23, some (82, true)⟩,
    ⟨some 85, .pick (.tmp 82) (.tmp 84) (.const (.bool false)), none⟩,
    ⟨some 86, .move (.tmp 85), none⟩,
    ⟨some 87, .call { callee := .value (.func 21), args := #[], argTypes := #[] }, some (86, true)⟩,
    ⟨some 88, .pick (.tmp 86) (.tmp 87) (.const (.bool false)), none⟩,
    ⟨some 4, .assign (.tmp 88), none⟩]
@[reducible] def q6_12 : SCode := .region [⟨some 89, .move (.tmp 7), none⟩,
    ⟨some 90, .move (.tmp 0), none⟩,
    ⟨some 91, .move (.tmp 1), none⟩,
    ⟨some 92, .call { callee := .value (.func 34), args := #[.tmp 90, .tmp 91], argTypes := #[22, 22] }, none⟩,
    ⟨some 93, .call { callee := .value (.func 24), args := #[.tmp 89, .tmp 92], argTypes := #[22, 22] }, none⟩,
    ⟨some 94, .move (.tmp 93), none⟩,
    ⟨some 95, .move (.tmp 8), some (94, true)⟩,
    ⟨some 96, .binOp .eql 23 (.tmp 95) (.const (.int .i64 0)) 23, some (94, true)⟩,
    ⟨some 97, .pick (.tmp 94) (.tmp 96) (.const (.bool false)), none⟩,
    ⟨some 98, .move (.tmp 97), none⟩,
    ⟨some 99, .call { callee := .value (.func 21), args := #[], argTypes := #[] }, some (98, true)⟩,
    ⟨some 100, .pick (.tmp 98) (.tmp 99) (.const (.bool false)), none⟩,
    ⟨some 4, .assign (.tmp 100), none⟩]
def s6 : SCode := (.seq q6_0 (.seq q6_1 (.seq q6_2 (.seq (.seq q6_3 (.cond (.tmp 32) (.seq q6_4 .ret) .skip)) (.seq (.seq q6_5 (.cond (.tmp 55) (.seq q6_6 (.cond (.tmp 62) (.seq q6_7 .ret) .skip)) (.seq q6_8 (.cond (.tmp 72) (.seq q6_9 .ret) .skip)))) (.seq (.seq q6_10 (.cond (.tmp 78) (.seq q6_11 .ret) .skip)) (.seq q6_12 .ret)))))))
theorem s6_strip : stripC (bodyOf Tryd.f6) = s6 := by kernel_rfl
theorem s6_ok : codeOK 101 (bodyOf Tryd.f6) = true := by kernel_rfl
theorem s6_call [Tabs Tryd.prog] {args : List Value} {h : Heap} {Q : Value → Heap → Prop} (hsz : args.length ≤ 101) (hk : aw Tryd.prog 101 s6 (aPost Tryd.prog [.tmp 4] Q) (argEnv 0 args) h) : ACall Tryd.prog 6 args h Q :=
  acall_s Tryd.func6 rfl (enters_of Tryd.func6 (by kernel_rfl) rfl) rfl rfl (by decide) s6_strip s6_ok hsz hk

/-! 31: planchet sure.Join -/
@[reducible] def q31_0 : SCode := .region [⟨some 4, .assign (.const (.slice none 0 0)), none⟩,
    ⟨some 5, .assign (.const (.int .i64 0)), none⟩]
@[reducible] def q31_1 : SCode := .region [⟨some 10, .move (.tmp 0), none⟩,
    ⟨some 11, .move (.tmp 1), none⟩,
    ⟨some 6, .alloc 56, none⟩,
    ⟨some 7, .alloc 56, none⟩,
    ⟨none, .store 56 (.tmp 6) (.tmp 10), none⟩,
    ⟨none, .store 56 (.tmp 7) (.tmp 11), none⟩]
@[reducible] def q31_2 : SCode := .region [⟨some 13, .load 56 (.tmp 6), none⟩,
    ⟨some 14, .call { callee := .value (.func 51), args := #[.tmp 13], argTypes := #[56] }, none⟩,
    ⟨some 15, .unOp .not 4 (.tmp 14), none⟩,
    ⟨some 16, .move (.tmp 15), none⟩,
    ⟨some 17, .load 56 (.tmp 7), some (16, false)⟩,
    ⟨some 18, .call { callee := .value (.func 51), args := #[.tmp 17], argTypes := #[56] }, some (16, false)⟩,
    ⟨some 19, .unOp .not 4 (.tmp 18), some (16, false)⟩,
    ⟨some 20, .pick (.tmp 16) (.const (.bool true)) (.tmp 19), none⟩,
    ⟨some 12, .assign (.tmp 20), none⟩]
@[reducible] def q31_3 : SCode := .region [⟨some 4, .assign (.const (.slice none 0 0)), none⟩,
    ⟨some 5, .assign (.const (.int .i64 2)), none⟩]
@[reducible] def q31_4 : SCode := .region [⟨some 22, .move (.tmp 0), none⟩,
    ⟨some 23, .call { callee := .builtin .len, args := #[.tmp 22], argTypes := #[22] }, none⟩,
    ⟨some 24, .move (.tmp 1), none⟩,
    ⟨some 25, .call { callee := .builtin .len, args := #[.tmp 24], argTypes := #[22] }, none⟩,
    ⟨some 26, .binOp .mul 3 (.tmp 23) (.tmp 25) 3, none⟩,
    ⟨some 27, .binOp .gtr 3 (.tmp 26) (.const (.int .i64 6)) 3, none⟩,
    ⟨some 21, .assign (.tmp 27), none⟩]
@[reducible] def q31_5 : SCode := .region [⟨some 4, .assign (.const (.slice none 0 0)), none⟩,
    ⟨some 5, .assign (.const (.int .i64 6)), none⟩]
@[reducible] def q31_6 : SCode := .region [⟨some 28, .move (.tmp 1), none⟩,
    ⟨some 29, .call { callee := .builtin .len, args := #[.tmp 28], argTypes := #[22] }, none⟩,
    ⟨some 8, .alloc 3, none⟩,
    ⟨none, .store 3 (.tmp 8) (.tmp 29), none⟩]
@[reducible] def q31_7 : SCode := .region [⟨some 9, .alloc 68, none⟩,
    ⟨none, .store 68 (.tmp 9) (.func 58), none⟩]
@[reducible] def q31_8 : SCode := .region [⟨some 30, .move (.tmp 0), none⟩,
    ⟨some 31, .call { callee := .builtin .len, args := #[.tmp 30], argTypes := #[22] }, none⟩,
    ⟨some 32, .load 3 (.tmp 8), none⟩,
    ⟨some 33, .binOp .mul 3 (.tmp 31) (.tmp 32) 3, none⟩,
    ⟨some 34, .makeFunc (.func 60) #[] #[.tmp 9, .tmp 6, .tmp 8, .tmp 7], none⟩,
    ⟨some 35, .call { callee := .value (.func 59), args := #[.tmp 33, .tmp 34], argTypes := #[3, 70] }, none⟩,
    ⟨some 4, .assign (.tmp 35), none⟩,
    ⟨some 5, .assign (.const (.int .i64 0)), none⟩]
def s31 : SCode := (.seq q31_0 (.seq q31_1 (.seq (.block 0 (.seq q31_2 (.cond (.tmp 12) (.seq q31_3 .ret) (.seq q31_4 (.cond (.tmp 21) (.seq q31_5 .ret) .skip))))) (.seq q31_6 (.seq q31_7 (.seq q31_8 .ret))))))
theorem s31_strip : stripC (bodyOf Tryd.f31) = s31 := by kernel_rfl
theorem s31_ok : codeOK 36 (bodyOf Tryd.f31) = true := by kernel_rfl
theorem s31_call [Tabs Tryd.prog] {args : List Value} {h : Heap} {Q : Value → Heap → Prop} (hsz : args.length ≤ 36) (hk : aw Tryd.prog 36 s31 (aPost Tryd.prog [.tmp 4, .tmp 5] Q) (argEnv 0 args) h) : ACall Tryd.prog 31 args h Q :=
  acall_s Tryd.func31 rfl (enters_of Tryd.func31 (by kernel_rfl) rfl) rfl rfl (by decide) s31_strip s31_ok hsz hk

/-! 32: planchet sure.Sum -/
@[reducible] def q32_0 : SCode := .region [⟨some 4, .assign (.const (.slice none 0 0)), none⟩,
    ⟨some 5, .assign (.const (.int .i64 0)), none⟩]
@[reducible] def q32_1 : SCode := .region [⟨some 10, .move (.tmp 0), none⟩,
    ⟨some 11, .call { callee := .value (.func 51), args := #[.tmp 10], argTypes := #[56] }, none⟩,
    ⟨some 12, .unOp .not 4 (.tmp 11), none⟩,
    ⟨some 13, .move (.tmp 12), none⟩,
    ⟨some 14, .move (.tmp 1), some (13, false)⟩,
    ⟨some 15, .call { callee := .value (.func 51), args := #[.tmp 14], argTypes := #[56] }, some (13, false)⟩,
    ⟨some 16, .unOp .not 4 (.tmp 15), some (13, false)⟩,
    ⟨some 17, .pick (.tmp 13) (.const (.bool true)) (.tmp 16), none⟩,
    ⟨some 9, .assign (.tmp 17), none⟩]
@[reducible] def q32_2 : SCode := .region [⟨some 4, .assign (.const (.slice none 0 0)), none⟩,
    ⟨some 5, .assign (.const (.int .i64 2)), none⟩]
@[reducible] def q32_3 : SCode := .region [⟨some 19, .move (.tmp 0), none⟩,
    ⟨some 20, .call { callee := .builtin .len, args := #[.tmp 19], argTypes := #[22] }, none⟩,
    ⟨some 21, .move (.tmp 1), none⟩,
    ⟨some 22, .call { callee := .builtin .len, args := #[.tmp 21], argTypes := #[22] }, none⟩,
    ⟨some 23, .binOp .add 3 (.tmp 20) (.tmp 22) 3, none⟩,
    ⟨some 24, .binOp .gtr 3 (.tmp 23) (.const (.int .i64 6)) 3, none⟩,
    ⟨some 18, .assign (.tmp 24), none⟩]
@[reducible] def q32_4 : SCode := .region [⟨some 4, .assign (.const (.slice none 0 0)), none⟩,
    ⟨some 5, .assign (.const (.int .i64 6)), none⟩]
@[reducible] def q32_5 : SCode := .region [⟨some 25, .move (.tmp 0), none⟩,
    ⟨some 26, .call { callee := .value (.func 26), args := #[.tmp 25], argTypes := #[22] }, none⟩,
    ⟨some 6, .assign (.tmp 26), none⟩]
@[reducible] def q32_6 : SCode := .region [⟨some 27, .move (.tmp 1), none⟩,
    ⟨some 28, .call { callee := .builtin .len, args := #[.tmp 27], argTypes := #[22] }, none⟩,
    ⟨some 29, .move (.const (.int .i64 0)), none⟩]
@[reducible] def q32_7 : SCode := .region [⟨some 30, .binOp .lss 3 (.tmp 29) (.tmp 28) 3, none⟩]
@[reducible] def q32_8 : SCode := .region [⟨some 31, .indexAddr 22 (.tmp 27) (.tmp 29), none⟩,
    ⟨some 32, .load 3 (.tmp 31), none⟩,
    ⟨some 8, .assign (.tmp 32), none⟩]
@[reducible] def q32_9 : SCode := .region [⟨some 33, .move (.tmp 6), none⟩,
    ⟨some 34, .move (.tmp 8), none⟩,
    ⟨some 35, .move (.tmp 0), none⟩,
    ⟨some 36, .call { callee := .builtin .len, args := #[.tmp 35], argTypes := #[22] }, none⟩,
    ⟨some 37, .binOp .shl 3 (.tmp 34) (.tmp 36) 3, none⟩,
    ⟨some 38, .buildSlice 22 1 #[(0, .tmp 37)], none⟩,
    ⟨some 39, .call { callee := .builtin .append, args := #[.tmp 33, .tmp 38], argTypes := #[22, 22] }, none⟩,
    ⟨some 6, .assign (.tmp 39), none⟩]
@[reducible] def q32_10 : SCode := .region [⟨some 40, .binOp .add 3 (.tmp 29) (.const (.int .i64 1)) 3, none⟩,
    ⟨some 29, .move (.tmp 40), none⟩]
def l32_0 : SCode := (.seq q32_7 (.seq (.cond (.tmp 30) .skip (.exit 1)) (.seq (.block 2 (.seq q32_8 q32_9)) q32_10)))
@[reducible] def q32_11 : SCode := .region [⟨some 41, .move (.tmp 6), none⟩,
    ⟨some 4, .assign (.tmp 41), none⟩,
    ⟨some 5, .assign (.const (.int .i64 0)), none⟩]
def s32 : SCode := (.seq q32_0 (.seq (.block 0 (.seq q32_1 (.cond (.tmp 9) (.seq q32_2 .ret) (.seq q32_3 (.cond (.tmp 18) (.seq q32_4 .ret) .skip))))) (.seq q32_5 (.seq (.seq q32_6 (.block 1 (.loop l32_0))) (.seq q32_11 .ret)))))
theorem s32_strip : stripC (bodyOf Tryd.f32) = s32 := by kernel_rfl
theorem s32_ok : codeOK 42 (bodyOf Tryd.f32) = true := by kernel_rfl
theorem s32_call [Tabs Tryd.prog] {args : List Value} {h : Heap} {Q : Value → Heap → Prop} (hsz : args.length ≤ 42) (hk : aw Tryd.prog 42 s32 (aPost Tryd.prog [.tmp 4, .tmp 5] Q) (argEnv 0 args) h) : ACall Tryd.prog 32 args h Q :=
  acall_s Tryd.func32 rfl (enters_of Tryd.func32 (by kernel_rfl) rfl) rfl rfl (by decide) s32_strip s32_ok hsz hk

/-! 33: planchet planchetref05.Join -/
@[reducible] def q33_0 : SCode := .region [⟨some 4, .assign (.const (.slice none 0 0)), none⟩]
@[reducible] def q33_1 : SCode := .region [⟨some 13, .move (.tmp 1), none⟩,
    ⟨some 14, .call { callee := .builtin .len, args := #[.tmp 13], argTypes := #[22] }, none⟩,
    ⟨some 5, .assign (.tmp 14), none⟩]
@[reducible] def q33_2 : SCode := .region [⟨some 15, .move (.tmp 0), none⟩,
    ⟨some 16, .call { callee := .builtin .len, args := #[.tmp 15], argTypes := #[22] }, none⟩,
    ⟨some 17, .move (.tmp 5), none⟩,
    ⟨some 18, .binOp .mul 3 (.tmp 16) (.tmp 17) 3, none⟩,
    ⟨some 19, .makeSlice 22 (.tmp 18) (.tmp 18), none⟩,
    ⟨some 6, .assign (.tmp 19), none⟩]
@[reducible] def q33_3 : SCode := .region [⟨some 20, .move (.tmp 6), none⟩,
    ⟨some 21, .call { callee := .builtin .len, args := #[.tmp 20], argTypes := #[22] }, none⟩,
    ⟨some 22, .move (.const (.int .i64 0)), none⟩]
@[reducible] def q33_4 : SCode := .region [⟨some 23, .binOp .lss 3 (.tmp 22) (.tmp 21) 3, none⟩]
@[reducible] def q33_5 : SCode := .region [⟨some 24, .move (.tmp 22), none⟩,
    ⟨some 7, .assign (.tmp 24), none⟩]
@[reducible] def q33_6 : SCode := .region [⟨some 25, .move (.tmp 6), none⟩,
    ⟨some 26, .call { callee := .builtin .len, args := #[.tmp 25], argTypes := #[22] }, none⟩,
    ⟨some 27, .move (.const (.int .i64 0)), none⟩]
@[reducible] def q33_7 : SCode := .region [⟨some 28, .binOp .lss 3 (.tmp 27) (.tmp 26) 3, none⟩]
@[reducible] def q33_8 : SCode := .region [⟨some 29, .move (.tmp 27), none⟩,
    ⟨some 8, .assign (.tmp 29), none⟩]
def q33_9 : SCode := .draw [⟨some 30, .move (.tmp 7), none⟩,
    ⟨some 31, .move (.tmp 5), none⟩,
    ⟨some 32, .binOp .quo 3 (.tmp 30) (.tmp 31) 3, none⟩,
    ⟨some 33, .move (.tmp 8), none⟩,
    ⟨some 34, .move (.tmp 5), none⟩,
    ⟨some 35, .binOp .quo 3 (.tmp 33) (.tmp 34) 3, none⟩,
    ⟨some 36, .move (.tmp 7), none⟩,
    ⟨some 37, .move (.tmp 5), none⟩,
    ⟨some 38, .binOp .rem 3 (.tmp 36) (.tmp 37) 3, none⟩,
    ⟨some 39, .move (.tmp 8), none⟩,
    ⟨some 40, .move (.tmp 5), none⟩,
    ⟨some 41, .binOp .rem 3 (.tmp 39) (.tmp 40) 3, none⟩,
    ⟨some 9, .assign (.tmp 32), none⟩,
    ⟨some 10, .assign (.tmp 35), none⟩,
    ⟨some 11, .assign (.tmp 38), none⟩,
    ⟨some 12, .assign (.tmp 41), none⟩]
   [[], [], [0, 1], [], [], [3, 4], [], [], [6, 7], [], [], [9, 10], [2, 0, 1, 2], [5, 12, 0, 1, 2, 3, 4, 5, 12], [8, 13, 0, 1, 2, 3, 4, 5, 6, 7, 8, 12, 13], [11, 14, 0, 1, 2, 3, 4, 5, 6, 7, 8, 9, 10, 11, 12, 13, 14]]
@[reducible] def q33_10 : SCode := .region [⟨some 42, .move (.tmp 7), none⟩,
    ⟨some 43, .move (.tmp 8), none⟩,
    ⟨some 44, .binOp .neq 3 (.tmp 42) (.tmp 43) 3, none⟩,
    ⟨some 45, .move (.tmp 44), none⟩,
    ⟨some 46, .move (.tmp 9), some (45, true)⟩,
    ⟨some 47, .move (.tmp 10), some (45, true)⟩,
    ⟨some 48, .binOp .eql 3 (.tmp 46) (.tmp 47) 3, some (45, true)⟩,
    ⟨some 49, .move (.tmp 48), some (45, true)⟩,
    ⟨some 50, .move (.tmp 0), some (49, false)⟩,
    ⟨some 51, .move (.tmp 9), some (49, false)⟩,
    ⟨some 52, .indexAddr 22 (.tmp 50) (.tmp 51), some (49, false)⟩,
    ⟨some 53, .load 3 (.tmp 52), some (49, false)⟩,
    ⟨some 54, .move (.tmp 10), some (49, false)⟩,
    ⟨some 55, .binOp .shr 3 (.tmp 53) (.tmp 54) 3, some (49, false)⟩,
    ⟨some 56, .binOp .and 3 (.tmp 55) (.const (.int .i64 1)) 3, some (49, false)⟩,
    ⟨some 57, .binOp .eql 3 (.tmp 56) (.const (.int .i64 1)) 3, some (49, false)⟩,
    ⟨some 58, .pick (.tmp 49) (.const (.bool true)) (.tmp 57), some (45, true)⟩,
    ⟨some 59, .pick (.tmp 45) (.tmp 58) (.const (.bool false)), none⟩,
    ⟨some 60, .move (.tmp 59), none⟩,
    ⟨some 61, .move (.tmp 11), some (60, true)⟩,
    ⟨some 62, .move (.tmp 12), some (60, true)⟩,
    ⟨some 63, .binOp .eql 3 (.tmp 61) (.tmp 62) 3, some (60, true)⟩,
    ⟨some 64, .move (.tmp 63), some (60, true)⟩,
    ⟨some 65, .move (.tmp 1), some (64, false)⟩,
    ⟨some 66, .move (.tmp 11), some (64, false)⟩,
    ⟨some 67, .indexAddr 22 (.tmp 65) (.tmp 66), some (64, false)⟩,
    ⟨some 68, .load 3 (.tmp 67), some (64, false)⟩,
    ⟨some 69, .move (.tmp 12), some (64, false)⟩,
    ⟨some 70, .binOp .shr 3 (.tmp 68) (.tmp 69) 3, some (64, false)⟩,
    ⟨some 71, .binOp .and 3 (.tmp 70) (.const (.int .i64 1)) 3, some (64, false)⟩,
    ⟨some 72, .binOp .eql 3 (.tmp 71) (.const (.int .i64 1)) 3, some (64, false)⟩,
    ⟨some 73, .pick (.tmp 64) (.const (.bool true)) (.tmp 72), some (60, true)⟩,
    ⟨some 74, .pick (.tmp 60) (.tmp 73) (.const (.bool false)), none⟩]
def q33_11 : SCode := .draw [⟨some 75, .move (.tmp 6), none⟩,
    ⟨some 76, .move (.tmp 7), none⟩,
    ⟨some 77, .indexAddr 22 (.tmp 75) (.tmp 76), none⟩,
    ⟨some 78, .load 3 (.tmp 77), none⟩,
    ⟨some 79, .move (.tmp 8), none⟩,
    ⟨some 80, .binOp .shl 3 (.const (.int .i64 1)) (.tmp 79) 3, none⟩,
    ⟨some 81, .binOp .or 3 (.tmp 78) (.tmp 80) 3, none⟩,
    ⟨some 82, .indexAddr 22 (.tmp 75) (.tmp 76), none⟩,
    ⟨none, .store 3 (.tmp 82) (.tmp 81), none⟩]
   [[], [], [0, 1], [2], [], [4], [3, 5], [0, 1, 0, 1, 2, 3, 4, 5, 6], [7, 6, 0, 1, 2, 3, 4, 5, 6]]
@[reducible] def q33_12 : SCode := .region [⟨some 83, .binOp .add 3 (.tmp 27) (.const (.int .i64 1)) 3, none⟩,
    ⟨some 27, .move (.tmp 83), none⟩]
def l33_0 : SCode := (.seq q33_7 (.seq (.cond (.tmp 28) .skip (.exit 2)) (.seq (.block 3 (.seq q33_8 (.seq q33_9 (.seq q33_10 (.cond (.tmp 74) q33_11 .skip))))) q33_12)))
@[reducible] def q33_13 : SCode := .region [⟨some 84, .binOp .add 3 (.tmp 22) (.const (.int .i64 1)) 3, none⟩,
    ⟨some 22, .move (.tmp 84), none⟩]
def l33_1 : SCode := (.seq q33_4 (.seq (.cond (.tmp 23) .skip (.exit 0)) (.seq (.block 1 (.seq q33_5 (.seq q33_6 (.block 2 (.loop l33_0))))) q33_13)))
@[reducible] def q33_14 : SCode := .region [⟨some 85, .move (.tmp 6), none⟩,
    ⟨some 4, .assign (.tmp 85), none⟩]
def s33 : SCode := (.seq q33_0 (.seq q33_1 (.seq q33_2 (.seq (.seq q33_3 (.block 0 (.loop l33_1))) (.seq q33_14 .ret)))))
theorem s33_strip : stripC (bodyOf Tryd.f33) = s33 := by kernel_rfl
theorem s33_ok : codeOK 86 (bodyOf Tryd.f33) = true := by kernel_rfl
theorem s33_call [Tabs Tryd.prog] {args : List Value} {h : Heap} {Q : Value → Heap → Prop} (hsz : args.length ≤ 86) (hk : aw Tryd.prog 86 s33 (aPost Tryd.prog [.tmp 4] Q) (argEnv 0 args) h) : ACall Tryd.prog 33 args h Q :=
  acall_s Tryd.func33 rfl (enters_of Tryd.func33 (by kernel_rfl) rfl) rfl rfl (by decide) s33_strip s33_ok hsz hk

/-! 34: planchet planchetref05.Sum -/
@[reducible] def q34_0 : SCode := .region [⟨some 4, .assign (.const (.slice none 0 0)), none⟩]
@[reducible] def q34_1 : SCode := .region [⟨some 8, .buildSlice 22 0 #[], none⟩,
    ⟨some 9, .move (.tmp 0), none⟩,
    ⟨some 10, .call { callee := .builtin .append, args := #[.tmp 8, .tmp 9], argTypes := #[22, 22] }, none⟩,
    ⟨some 5, .assign (.tmp 10), none⟩]
@[reducible] def q34_2 : SCode := .region [⟨some 11, .move (.tmp 1), none⟩,
    ⟨some 12, .call { callee := .builtin .len, args := #[.tmp 11], argTypes := #[22] }, none⟩,
    ⟨some 13, .move (.const (.int .i64 0)), none⟩]
@[reducible] def q34_3 : SCode := .region [⟨some 14, .binOp .lss 3 (.tmp 13) (.tmp 12) 3, none⟩]
@[reducible] def q34_4 : SCode := .region [⟨some 15, .indexAddr 22 (.tmp 11) (.tmp 13), none⟩,
    ⟨some 16, .load 3 (.tmp 15), none⟩,
    ⟨some 7, .assign (.tmp 16), none⟩]
@[reducible] def q34_5 : SCode := .region [⟨some 17, .move (.tmp 5), none⟩,
    ⟨some 18, .move (.tmp 7), none⟩,
    ⟨some 19, .move (.tmp 0), none⟩,
    ⟨some 20, .call { callee := .builtin .len, args := #[.tmp 19], argTypes := #[22] }, none⟩,
    ⟨some 21, .binOp .shl 3 (.tmp 18) (.tmp 20) 3, none⟩,
    ⟨some 22, .buildSlice 22 1 #[(0, .tmp 21)], none⟩,
    ⟨some 23, .call { callee := .builtin .append, args := #[.tmp 17, .tmp 22], argTypes := #[22, 22] }, none⟩,
    ⟨some 5, .assign (.tmp 23), none⟩]
@[reducible] def q34_6 : SCode := .region [⟨some 24, .binOp .add 3 (.tmp 13) (.const (.int .i64 1)) 3, none⟩,
    ⟨some 13, .move (.tmp 24), none⟩]
def l34_0 : SCode := (.seq q34_3 (.seq (.cond (.tmp 14) .skip (.exit 0)) (.seq (.block 1 (.seq q34_4 q34_5)) q34_6)))
@[reducible] def q34_7 : SCode := .region [⟨some 25, .move (.tmp 5), none⟩,
    ⟨some 4, .assign (.tmp 25), none⟩]
def s34 : SCode := (.seq q34_0 (.seq q34_1 (.seq (.seq q34_2 (.block 0 (.loop l34_0))) (.seq q34_7 .ret))))
theorem s34_strip : stripC (bodyOf Tryd.f34) = s34 := by kernel_rfl
theorem s34_ok : codeOK 26 (bodyOf Tryd.f34) = true := by kernel_rfl
theorem s34_call [Tabs Tryd.prog] {args : List Value} {h : Heap} {Q : Value → Heap → Prop} (hsz : args.length ≤ 26) (hk : aw Tryd.prog 26 s34 (aPost Tryd.prog [.tmp 4] Q) (argEnv 0 args) h) : ACall Tryd.prog 34 args h Q :=
  acall_s Tryd.func34 rfl (enters_of Tryd.func34 (by kernel_rfl) rfl) rfl rfl (by decide) s34_strip s34_ok hsz hk

/-! 58: planchet sure.Join$1 -/
@[reducible] def q58_0 : SCode := .region [⟨some 6, .assign (.const (.bool false)), none⟩]
@[reducible] def q58_1 : SCode := .region [⟨some 7, .move (.tmp 1), none⟩,
    ⟨some 8, .move (.tmp 2), none⟩,
    ⟨some 9, .binOp .eql 3 (.tmp 7) (.tmp 8) 3, none⟩,
    ⟨some 10, .move (.tmp 9), none⟩,
    ⟨some 11, .move (.tmp 0), some (10, false)⟩,
    ⟨some 12, .move (.tmp 1), some (10, false)⟩,
    ⟨some 13, .indexAddr 56 (.tmp 11) (.tmp 12), some (10, false)⟩,
    ⟨some 14, .load 3 (.tmp 13), some (10, false)⟩,
    ⟨some 15, .move (.tmp 2), some (10, false)⟩,
    ⟨some 16, .binOp .shr 3 (.tmp 14) (.tmp 15) 3, some (10, false)⟩,
    ⟨some 17, .binOp .and 3 (.tmp 16) (.const (.int .i64 1)) 3, some (10, false)⟩,
    ⟨some 18, .binOp .eql 3 (.tmp 17) (.const (.int .i64 1)) 3, some (10, false)⟩,
    ⟨some 19, .pick (.tmp 10) (.const (.bool true)) (.tmp 18), none⟩,
    ⟨some 6, .assign (.tmp 19), none⟩]
def s58 : SCode := (.seq q58_0 (.seq q58_1 .ret))
theorem s58_strip : stripC (bodyOf Tryd.f58) = s58 := by kernel_rfl
theorem s58_ok : codeOK 20 (bodyOf Tryd.f58) = true := by kernel_rfl
theorem s58_call [Tabs Tryd.prog] {args : List Value} {h : Heap} {Q : Value → Heap → Prop} (hsz : args.length ≤ 20) (hk : aw Tryd.prog 20 s58 (aPost Tryd.prog [.tmp 6] Q) (argEnv 0 args) h) : ACall Tryd.prog 58 args h Q :=
  acall_s Tryd.func58 rfl (enters_of Tryd.func58 (by kernel_rfl) rfl) rfl rfl (by decide) s58_strip s58_ok hsz hk

/-! 59: planchet sure.made -/
@[reducible] def q59_0 : SCode := .region [⟨some 4, .assign (.const (.slice none 0 0)), none⟩]
@[reducible] def q59_1 : SCode := .region [⟨some 8, .move (.tmp 0), none⟩,
    ⟨some 9, .makeSlice 56 (.tmp 8) (.tmp 8), none⟩,
    ⟨some 5, .assign (.tmp 9), none⟩]
@[reducible] def q59_2 : SCode := .region [⟨some 10, .move (.tmp 0), none⟩,
    ⟨some 11, .move (.const (.int .i64 0)), none⟩]
@[reducible] def q59_3 : SCode := .region [⟨some 12, .binOp .lss 3 (.tmp 11) (.tmp 10) 3, none⟩]
@[reducible] def q59_4 : SCode := .region [⟨some 13, .move (.tmp 11), none⟩,
    ⟨some 6, .assign (.tmp 13), none⟩]
@[reducible] def q59_5 : SCode := .region [⟨some 14, .move (.tmp 0), none⟩,
    ⟨some 15, .move (.const (.int .i64 0)), none⟩]
@[reducible] def q59_6 : SCode := .region [⟨some 16, .binOp .lss 3 (.tmp 15) (.tmp 14) 3, none⟩]
@[reducible] def q59_7 : SCode := .region [⟨some 17, .move (.tmp 15), none⟩,
    ⟨some 7, .assign (.tmp 17), none⟩]
@[reducible] def q59_8 : SCode := .region [⟨some 18, .move (.tmp 6), none⟩,
    ⟨some 19, .move (.tmp 7), none⟩,
    ⟨some 20, .binOp .neq 3 (.tmp 18) (.tmp 19) 3, none⟩,
    ⟨some 21, .move (.tmp 20), none⟩,
    ⟨some 22, .move (.tmp 1), some (21, true)⟩,
    ⟨some 23, .move (.tmp 6), some (21, true)⟩,
    ⟨some 24, .move (.tmp 7), some (21, true)⟩,
    ⟨some 25, .call { callee := .value (.tmp 22), args := #[.tmp 23, .tmp 24], argTypes := #[3, 3] }, some (21, true)⟩,
    ⟨some 26, .pick (.tmp 21) (.tmp 25) (.const (.bool false)), none⟩]
def q59_9 : SCode := .draw [⟨some 27, .move (.tmp 5), none⟩,
    ⟨some 28, .move (.tmp 6), none⟩,
    ⟨some 29, .indexAddr 56 (.tmp 27) (.tmp 28), none⟩,
    ⟨some 30, .load 3 (.tmp 29), none⟩,
    ⟨some 31, .move (.tmp 7), none⟩,
    ⟨some 32, .binOp .shl 3 (.const (.int .i64 1)) (.tmp 31) 3, none⟩,
    ⟨some 33, .binOp .or 3 (.tmp 30) (.tmp 32) 3, none⟩,
    ⟨some 34, .indexAddr 56 (.tmp 27) (.tmp 28), none⟩,
    ⟨none, .store 3 (.tmp 34) (.tmp 33), none⟩]
   [[], [], [0, 1], [2], [], [4], [3, 5], [0, 1, 0, 1, 2, 3, 4, 5, 6], [7, 6, 0, 1, 2, 3, 4, 5, 6]]
@[reducible] def q59_10 : SCode := .region [⟨some 35, .binOp .add 3 (.tmp 15) (.const (.int .i64 1)) 3, none⟩,
    ⟨some 15, .move (.tmp 35), none⟩]
def l59_0 : SCode := (.seq q59_6 (.seq (.cond (.tmp 16) .skip (.exit 2)) (.seq (.block 3 (.seq q59_7 (.seq q59_8 (.cond (.tmp 26) q59_9 .skip)))) q59_10)))
@[reducible] def q59_11 : SCode := .region [⟨some 36, .binOp .add 3 (.tmp 11) (.const (.int .i64 1)) 3, none⟩,
    ⟨some 11, .move (.tmp 36), none⟩]
def l59_1 : SCode := (.seq q59_3 (.seq (.cond (.tmp 12) .skip (.exit 0)) (.seq (.block 1 (.seq q59_4 (.seq q59_5 (.block 2 (.loop l59_0))))) q59_11)))
@[reducible] def q59_12 : SCode := .region [⟨some 37, .move (.tmp 5), none⟩,
    ⟨some 4, .assign (.tmp 37), none⟩]
def s59 : SCode := (.seq q59_0 (.seq q59_1 (.seq (.seq q59_2 (.block 0 (.loop l59_1))) (.seq q59_12 .ret))))
theorem s59_strip : stripC (bodyOf Tryd.f59) = s59 := by kernel_rfl
theorem s59_ok : codeOK 38 (bodyOf Tryd.f59) = true := by kernel_rfl
theorem s59_call [Tabs Tryd.prog] {args : List Value} {h : Heap} {Q : Value → Heap → Prop} (hsz : args.length ≤ 38) (hk : aw Tryd.prog 38 s59 (aPost Tryd.prog [.tmp 4] Q) (argEnv 0 args) h) : ACall Tryd.prog 59 args h Q :=
  acall_s Tryd.func59 rfl (enters_of Tryd.func59 (by kernel_rfl) rfl) rfl rfl (by decide) s59_strip s59_ok hsz hk

/-! 60: planchet sure.Join$2 -/
@[reducible] def q60_0 : SCode := .region [⟨some 8, .assign (.const (.bool false)), none⟩]
def q60_1 : SCode := .draw [⟨some 9, .load 68 (.tmp 2), none⟩,
    ⟨some 10, .load 56 (.tmp 3), none⟩,
    ⟨some 11, .move (.tmp 0), none⟩,
    ⟨some 12, .load 3 (.tmp 4), none⟩,
    ⟨some 13, .binOp .quo 3 (.tmp 11) (.tmp 12) 3, none⟩,
    ⟨some 14, .move (.tmp 1), none⟩,
    ⟨some 15, .load 3 (.tmp 4), none⟩,
    ⟨some 16, .binOp .quo 3 (.tmp 14) (.tmp 15) 3, none⟩,
    ⟨some 17, .call { callee := .value (.tmp 9), args := #[.tmp 10, .tmp 13, .tmp 16], argTypes := #[56, 3, 3] }, none⟩,
    ⟨some 18, .move (.tmp 17), none⟩,
    ⟨some 19, .load 68 (.tmp 2), some (18, true)⟩,
    ⟨some 20, .load 56 (.tmp 5), some (18, true)⟩,
    ⟨some 21, .move (.tmp 0), some (18, true)⟩,
    ⟨some 22, .load 3 (.tmp 4), some (18, true)⟩,
    ⟨some 23, .binOp .rem 3 (.tmp 21) (.tmp 22) 3, some (18, true)⟩,
    ⟨some 24, .move (.tmp 1), some (18, true)⟩,
    ⟨some 25, .load 3 (.tmp 4), some (18, true)⟩,
    ⟨some 26, .binOp .rem 3 (.tmp 24) (.tmp 25) 3, some (18, true)⟩,
    ⟨some 27, .call { callee := .value (.tmp 19), args := #[.tmp 20, .tmp 23, .tmp 26], argTypes := #[56, 3, 3] }, some (18, true)⟩,
    ⟨some 28, .pick (.tmp 18) (.tmp 27) (.const (.bool false)), none⟩,
    ⟨some 8, .assign (.tmp 28), none⟩]
   [[], [], [], [], [2, 3], [], [], [5, 6], [0, 1, 4, 7], [8, 8], [9], [9], [9], [9], [12, 13, 9], [9], [9], [15, 16, 9], [10, 11, 14, 17, 9, 9], [9, 18], [19, 18, 0, 1, 2, 3, 4, 5, 6, 7, 8, 9, 10, 11, 12, 13, 14, 15, 16, 17, 18, 19]]
def s60 : SCode := (.seq q60_0 (.seq q60_1 .ret))
theorem s60_strip : stripC (bodyOf Tryd.f60) = s60 := by kernel_rfl
theorem s60_ok : codeOK 29 (bodyOf Tryd.f60) = true := by kernel_rfl
theorem s60_call [Tabs Tryd.prog] {args : List Value} {h : Heap} {Q : Value → Heap → Prop} (hsz : args.length ≤ 29) (hk : aw Tryd.prog 29 s60 (aPost Tryd.prog [.tmp 8] Q) (argEnv 0 args) h) : ACall Tryd.prog 60 args h Q :=
  acall_s Tryd.func60 rfl (enters_of Tryd.func60 (by kernel_rfl) rfl) rfl rfl (by decide) s60_strip s60_ok hsz hk

end Go.Proofs.Tryd.Am

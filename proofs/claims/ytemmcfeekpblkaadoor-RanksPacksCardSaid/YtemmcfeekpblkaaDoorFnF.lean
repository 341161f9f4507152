/- Printed by gen.py: the code of some functions, without what no step looks at; held against the program's own by the kernel. -/
import Derived.Test.YtemmcfeekpblkaaDoorAmO
import Derived.Test.YtemmcfeekpblkaaDoorProg
import Derived.KernelRfl
import Derived.Shelf.Abstract
set_option linter.all false
namespace Go.Proofs.Tryd.Am
open Go.Am
set_option maxRecDepth 100000
/-! 6: planchet planchetlaw02.RanksPacks -/
@[reducible] def q6_0 : SCode := .region [⟨some 2, .assign (.const (.bool false)), none⟩]
@[reducible] def q6_1 : SCode := .region [⟨some 8, .move (.tmp 0), none⟩,
    ⟨some 9, .call { callee := .value (.func 19), args := #[.tmp 8], argTypes := #[22] }, none⟩,
    ⟨some 10, .call { callee := .value (.func 30), args := #[.tmp 9], argTypes := #[22] }, none⟩,
    ⟨some 7, .move (.tmp 10), none⟩,
    ⟨some 11, .extract (.tmp 7) 0, none⟩,
    ⟨some 12, .extract (.tmp 7) 1, none⟩,
    ⟨some 3, .assign (.tmp 11), none⟩,
    ⟨some 4, .assign (.tmp 12), none⟩]
@[reducible] def q6_2 : SCode := .region [⟨some 14, .move (.tmp 0), none⟩,
    ⟨some 15, .call { callee := .value (.func 19), args := #[.tmp 14], argTypes := #[22] }, none⟩,
    ⟨some 16, .call { callee := .value (.func 31), args := #[.tmp 15], argTypes := #[22] }, none⟩,
    ⟨some 13, .move (.tmp 16), none⟩,
    ⟨some 17, .extract (.tmp 13) 0, none⟩,
    ⟨some 18, .extract (.tmp 13) 1, none⟩,
    ⟨some 5, .assign (.tmp 17), none⟩,
    ⟨some 6, .assign (.tmp 18), none⟩]
@[reducible] def q6_3 : SCode := .region [⟨some 19, .move (.tmp 0), none⟩,
    ⟨some 20, .call { callee := .value (.func 20), args := #[.tmp 19], argTypes := #[22] }, none⟩,
    ⟨some 21, .unOp .not 4 (.tmp 20), none⟩]
@[reducible] def q6_4 : SCode := .region [⟨some 22, .move (.tmp 3), none⟩,
    ⟨some 23, .call { callee := .builtin .len, args := #[.tmp 22], argTypes := #[36] }, none⟩,
    ⟨some 24, .move (.tmp 5), none⟩,
    ⟨some 25, .call { callee := .builtin .len, args := #[.tmp 24], argTypes := #[36] }, none⟩,
    ⟨some 26, .binOp .add 3 (.tmp 23) (.tmp 25) 3, none⟩,
    ⟨some 27, .binOp .eql 3 (.tmp 26) (.const (.int .i64 0)) 3, none⟩,
    ⟨some 28, .move (.tmp 27), none⟩,
    ⟨some 29, .move (.tmp 4), some (28, true)⟩,
    ⟨some 30, .binOp .eql 23 (.tmp 29) (.const (.int .i64 2)) 23, some (28, true)⟩,
    ⟨some 31, .pick (.tmp 28) (.tmp 30) (.const (.bool false)), none⟩,
    ⟨some 32, .move (.tmp 31), none⟩,
    ⟨some 33, .move (.tmp 6), some (32, true)⟩,
    ⟨some 34, .binOp .eql 23 (.tmp 33) (.const (.int .i64 2)) 23, some (32, true)⟩,
    ⟨some 35, .pick (.tmp 32) (.tmp 34) (.const (.bool false)), none⟩,
    ⟨some 36, .move (.tmp 35), none⟩,
    ⟨some 37, .call { callee := .value (.func 21), args := #[], argTypes := #[] }, some (36, true)⟩,
    ⟨some 38, .pick (.tmp 36) (.tmp 37) (.const (.bool false)), none⟩,
    ⟨some 2, .assign (.tmp 38), none⟩]
@[reducible] def q6_5 : SCode := .region [⟨some 39, .move (.tmp 3), none⟩,
    ⟨some 40, .move (.tmp 0), none⟩,
    ⟨some 41, .call { callee := .value (.func 33), args := #[.tmp 40], argTypes := #[22] }, none⟩,
    ⟨some 42, .call { callee := .value (.func 32), args := #[.tmp 39, .tmp 41], argTypes := #[36, 36] }, none⟩,
    ⟨some 43, .move (.tmp 42), none⟩,
    ⟨some 44, .move (.tmp 4), some (43, true)⟩,
    ⟨some 45, .binOp .eql 23 (.tmp 44) (.const (.int .i64 0)) 23, some (43, true)⟩,
    ⟨some 46, .pick (.tmp 43) (.tmp 45) (.const (.bool false)), none⟩,
    ⟨some 47, .move (.tmp 46), none⟩,
    ⟨some 48, .move (.tmp 0), some (47, true)⟩,
    ⟨some 49, .move (.tmp 5), some (47, true)⟩,
    ⟨some 50, .call { callee := .value (.func 34), args := #[.tmp 48, .tmp 49], argTypes := #[22, 36] }, some (47, true)⟩,
    ⟨some 51, .pick (.tmp 47) (.tmp 50) (.const (.bool false)), none⟩,
    ⟨some 52, .move (.tmp 51), none⟩,
    ⟨some 53, .move (.tmp 5), some (52, true)⟩,
    ⟨some 54, .call { callee := .builtin .len, args := #[.tmp 53], argTypes := #[36] }, some (52, true)⟩,
    ⟨some 55, .move (.tmp 0), some (52, true)⟩,
    ⟨some 56, .call { callee := .value (.func 35), args := #[.tmp 55], argTypes := #[22] }, some (52, true)⟩,
    ⟨some 57, .binOp .eql 3 (.tmp 54) (.tmp 56) 3, some (52, true)⟩,
    ⟨some 58, .pick (.tmp 52) (.tmp 57) (.const (.bool false)), none⟩,
    ⟨some 59, .move (.tmp 58), none⟩,
    ⟨some 60, .move (.tmp 6), some (59, true)⟩,
    ⟨some 61, .binOp .eql 23 (.tmp 60) (.const (.int .i64 0)) 23, some (59, true)⟩,
    ⟨some 62, .pick (.tmp 59) (.tmp 61) (.const (.bool false)), none⟩,
    ⟨some 63, .move (.tmp 62), none⟩,
    ⟨some 64, .call { callee := .value (.func 21), args := #[], argTypes := #[] }, some (63, true)⟩,
    ⟨some 65, .pick (.tmp 63) (.tmp 64) (.const (.bool false)), none⟩,
    ⟨some 2, .assign (.tmp 65), none⟩]
def s6 : SCode := (.seq q6_0 (.seq q6_1 (.seq q6_2 (.seq (.seq q6_3 (.cond (.tmp 21) (.seq q6_4 .ret) .skip)) (.seq q6_5 .ret)))))
theorem s6_strip : stripC (bodyOf Tryd.f6) = s6 := by kernel_rfl
theorem s6_ok : codeOK 66 (bodyOf Tryd.f6) = true := by kernel_rfl
theorem s6_call [Tabs Tryd.prog] {args : List Value} {h : Heap} {Q : Value → Heap → Prop} (hsz : args.length ≤ 66) (hk : aw Tryd.prog 66 s6 (aPost Tryd.prog [.tmp 2] Q) (argEnv 0 args) h) : ACall Tryd.prog 6 args h Q :=
  acall_s Tryd.func6 rfl (enters_of Tryd.func6 (by kernel_rfl) rfl) rfl rfl (by decide) s6_strip s6_ok hsz hk

/-! 31: planchet ranks.Pack -/
@[reducible] def q31_0 : SCode := .region [⟨some 2, .assign (.const (.slice none 0 0)), none⟩,
    ⟨some 3, .assign (.const (.int .i64 0)), none⟩]
@[reducible] def q31_1 : SCode := .region [⟨some 8, .move (.tmp 0), none⟩,
    ⟨some 9, .call { callee := .value (.func 56), args := #[.tmp 8], argTypes := #[55] }, none⟩,
    ⟨some 10, .unOp .not 4 (.tmp 9), none⟩]
@[reducible] def q31_2 : SCode := .region [⟨some 2, .assign (.const (.slice none 0 0)), none⟩,
    ⟨some 3, .assign (.const (.int .i64 2)), none⟩]
@[reducible] def q31_3 : SCode := .region [⟨some 11, .move (.tmp 0), none⟩,
    ⟨some 12, .call { callee := .value (.func 64), args := #[.tmp 11], argTypes := #[55] }, none⟩,
    ⟨some 4, .alloc 36, none⟩,
    ⟨none, .store 36 (.tmp 4) (.tmp 12), none⟩]
@[reducible] def q31_4 : SCode := .region [⟨some 5, .alloc 36, none⟩,
    ⟨some 6, .alloc 36, none⟩]
@[reducible] def q31_5 : SCode := .region [⟨some 7, .alloc 63, none⟩]
@[reducible] def q31_6 : SCode := .region [⟨some 13, .makeFunc (.func 65) #[] #[.tmp 6, .tmp 5, .tmp 4, .tmp 7], none⟩,
    ⟨none, .store 63 (.tmp 7) (.tmp 13), none⟩]
@[reducible] def q31_7 : SCode := .region [⟨some 14, .load 63 (.tmp 7), none⟩,
    ⟨some 15, .call { callee := .value (.tmp 14), args := #[.const (.int .i64 0)], argTypes := #[3] }, none⟩]
@[reducible] def q31_8 : SCode := .region [⟨some 16, .load 36 (.tmp 5), none⟩,
    ⟨some 2, .assign (.tmp 16), none⟩,
    ⟨some 3, .assign (.const (.int .i64 0)), none⟩]
def s31 : SCode := (.seq q31_0 (.seq (.seq q31_1 (.cond (.tmp 10) (.seq q31_2 .ret) .skip)) (.seq q31_3 (.seq q31_4 (.seq q31_5 (.seq q31_6 (.seq q31_7 (.seq q31_8 .ret))))))))
theorem s31_strip : stripC (bodyOf Tryd.f31) = s31 := by kernel_rfl
theorem s31_ok : codeOK 17 (bodyOf Tryd.f31) = true := by kernel_rfl
theorem s31_call [Tabs Tryd.prog] {args : List Value} {h : Heap} {Q : Value → Heap → Prop} (hsz : args.length ≤ 17) (hk : aw Tryd.prog 17 s31 (aPost Tryd.prog [.tmp 2, .tmp 3] Q) (argEnv 0 args) h) : ACall Tryd.prog 31 args h Q :=
  acall_s Tryd.func31 rfl (enters_of Tryd.func31 (by kernel_rfl) rfl) rfl rfl (by decide) s31_strip s31_ok hsz hk

/-! 32: slices.Equal[[][3]int,[3]int] -/
@[reducible] def q32_0 : SCode := .region [⟨some 4, .assign (.const (.bool false)), none⟩]
@[reducible] def q32_1 : SCode := .region [⟨some 6, .move (.tmp 0), none⟩,
    ⟨some 7, .call { callee := .builtin .len, args := #[.tmp 6], argTypes := #[36] }, none⟩,
    ⟨some 8, .move (.tmp 1), none⟩,
    ⟨some 9, .call { callee := .builtin .len, args := #[.tmp 8], argTypes := #[36] }, none⟩,
    ⟨some 10, .binOp .neq 3 (.tmp 7) (.tmp 9) 3, none⟩]
@[reducible] def q32_2 : SCode := .region [⟨some 4, .assign (.const (.bool false)), none⟩]
@[reducible] def q32_3 : SCode := .region [⟨some 11, .move (.tmp 0), none⟩,
    ⟨some 12, .call { callee := .builtin .len, args := #[.tmp 11], argTypes := #[36] }, none⟩,
    ⟨some 13, .move (.const (.int .i64 0)), none⟩]
@[reducible] def q32_4 : SCode := .region [⟨some 14, .binOp .lss 3 (.tmp 13) (.tmp 12) 3, none⟩]
@[reducible] def q32_5 : SCode := .region [⟨some 15, .move (.tmp 13), none⟩,
    ⟨some 5, .assign (.tmp 15), none⟩]
def q32_6 : SCode := .draw [⟨some 16, .move (.tmp 0), none⟩,
    ⟨some 17, .move (.tmp 5), none⟩,
    ⟨some 18, .indexAddr 36 (.tmp 16) (.tmp 17), none⟩,
    ⟨some 19, .load 40 (.tmp 18), none⟩,
    ⟨some 20, .move (.tmp 1), none⟩,
    ⟨some 21, .move (.tmp 5), none⟩,
    ⟨some 22, .indexAddr 36 (.tmp 20) (.tmp 21), none⟩,
    ⟨some 23, .load 40 (.tmp 22), none⟩,
    ⟨some 24, .binOp .neq 40 (.tmp 19) (.tmp 23) 40, none⟩]
   [[], [], [0, 1], [2], [], [], [4, 5], [6], [3, 7]]
@[reducible] def q32_7 : SCode := .region [⟨some 4, .assign (.const (.bool false)), none⟩]
@[reducible] def q32_8 : SCode := .region [⟨some 25, .binOp .add 3 (.tmp 13) (.const (.int .i64 1)) 3, none⟩,
    ⟨some 13, .move (.tmp 25), none⟩]
def l32_0 : SCode := (.seq q32_4 (.seq (.cond (.tmp 14) .skip (.exit 0)) (.seq (.block 1 (.seq q32_5 (.seq q32_6 (.cond (.tmp 24) (.seq q32_7 .ret) .skip)))) q32_8)))
@[reducible] def q32_9 : SCode := .region [⟨some 4, .assign (.const (.bool true)), none⟩]
def s32 : SCode := (.seq q32_0 (.seq (.seq q32_1 (.cond (.tmp 10) (.seq q32_2 .ret) .skip)) (.seq (.seq q32_3 (.block 0 (.loop l32_0))) (.seq q32_9 .ret))))
theorem s32_strip : stripC (bodyOf Tryd.f32) = s32 := by kernel_rfl
theorem s32_ok : codeOK 26 (bodyOf Tryd.f32) = true := by kernel_rfl
theorem s32_call [Tabs Tryd.prog] {args : List Value} {h : Heap} {Q : Value → Heap → Prop} (hsz : args.length ≤ 26) (hk : aw Tryd.prog 26 s32 (aPost Tryd.prog [.tmp 4] Q) (argEnv 0 args) h) : ACall Tryd.prog 32 args h Q :=
  acall_s Tryd.func32 rfl (enters_of Tryd.func32 (by kernel_rfl) rfl) rfl rfl (by decide) s32_strip s32_ok hsz hk

/-! 34: planchet planchetref02.Packed -/
@[reducible] def q34_0 : SCode := .region [⟨some 4, .assign (.const (.bool false)), none⟩]
@[reducible] def q34_1 : SCode := .region [⟨some 5, .assign (.const (.int .i64 0)), none⟩]
@[reducible] def q34_2 : SCode := .region [⟨some 12, .move (.tmp 0), none⟩,
    ⟨some 13, .call { callee := .value (.func 33), args := #[.tmp 12], argTypes := #[22] }, none⟩,
    ⟨some 14, .call { callee := .builtin .len, args := #[.tmp 13], argTypes := #[36] }, none⟩,
    ⟨some 15, .move (.const (.int .i64 0)), none⟩]
@[reducible] def q34_3 : SCode := .region [⟨some 16, .binOp .lss 3 (.tmp 15) (.tmp 14) 3, none⟩]
@[reducible] def q34_4 : SCode := .region [⟨some 17, .indexAddr 36 (.tmp 13) (.tmp 15), none⟩,
    ⟨some 18, .load 40 (.tmp 17), none⟩,
    ⟨some 7, .alloc 40, none⟩,
    ⟨none, .store 40 (.tmp 7) (.tmp 18), none⟩]
def q34_5 : SCode := .draw [⟨some 19, .move (.tmp 5), none⟩,
    ⟨some 20, .move (.tmp 1), none⟩,
    ⟨some 21, .call { callee := .builtin .len, args := #[.tmp 20], argTypes := #[36] }, none⟩,
    ⟨some 22, .binOp .lss 3 (.tmp 19) (.tmp 21) 3, none⟩,
    ⟨some 23, .move (.tmp 22), none⟩,
    ⟨some 24, .load 40 (.tmp 7), some (23, true)⟩,
    ⟨some 25, .move (.tmp 1), some (23, true)⟩,
    ⟨some 26, .move (.tmp 5), some (23, true)⟩,
    ⟨some 27, .indexAddr 36 (.tmp 25) (.tmp 26), some (23, true)⟩,
    ⟨some 28, .load 40 (.tmp 27), some (23, true)⟩,
    ⟨some 29, .binOp .eql 40 (.tmp 24) (.tmp 28) 40, some (23, true)⟩,
    ⟨some 30, .pick (.tmp 23) (.tmp 29) (.const (.bool false)), none⟩]
   [[], [], [1], [0, 2], [3], [4], [4], [4], [6, 7, 4], [8, 4], [5, 9, 4], [4, 10]]
@[reducible] def q34_6 : SCode := .region [⟨some 31, .move (.tmp 5), none⟩,
    ⟨some 32, .binOp .add 3 (.tmp 31) (.const (.int .i64 1)) 3, none⟩,
    ⟨some 5, .assign (.tmp 32), none⟩]
@[reducible] def q34_7 : SCode := .region [⟨some 33, .binOp .add 3 (.tmp 15) (.const (.int .i64 1)) 3, none⟩,
    ⟨some 15, .move (.tmp 33), none⟩]
def l34_0 : SCode := (.seq q34_3 (.seq (.cond (.tmp 16) .skip (.exit 0)) (.seq (.block 1 (.seq q34_4 (.seq q34_5 (.cond (.tmp 30) q34_6 .skip)))) q34_7)))
@[reducible] def q34_8 : SCode := .region [⟨some 34, .move (.tmp 1), none⟩,
    ⟨some 35, .call { callee := .builtin .len, args := #[.tmp 34], argTypes := #[36] }, none⟩,
    ⟨some 36, .move (.const (.int .i64 0)), none⟩]
@[reducible] def q34_9 : SCode := .region [⟨some 37, .binOp .lss 3 (.tmp 36) (.tmp 35) 3, none⟩]
@[reducible] def q34_10 : SCode := .region [⟨some 38, .move (.tmp 36), none⟩,
    ⟨some 39, .indexAddr 36 (.tmp 34) (.tmp 36), none⟩,
    ⟨some 40, .load 40 (.tmp 39), none⟩,
    ⟨some 9, .alloc 40, none⟩,
    ⟨some 8, .assign (.tmp 38), none⟩,
    ⟨none, .store 40 (.tmp 9) (.tmp 40), none⟩]
@[reducible] def q34_11 : SCode := .region [⟨some 41, .move (.tmp 1), none⟩,
    ⟨some 42, .move (.tmp 8), none⟩,
    ⟨some 43, .slice 36 (.tmp 41) none (some (.tmp 42)) none, none⟩,
    ⟨some 44, .call { callee := .builtin .len, args := #[.tmp 43], argTypes := #[36] }, none⟩,
    ⟨some 45, .move (.const (.int .i64 0)), none⟩]
@[reducible] def q34_12 : SCode := .region [⟨some 46, .binOp .lss 3 (.tmp 45) (.tmp 44) 3, none⟩]
@[reducible] def q34_13 : SCode := .region [⟨some 47, .indexAddr 36 (.tmp 43) (.tmp 45), none⟩,
    ⟨some 48, .load 40 (.tmp 47), none⟩,
    ⟨some 11, .alloc 40, none⟩,
    ⟨none, .store 40 (.tmp 11) (.tmp 48), none⟩]
@[reducible] def q34_14 : SCode := .region [⟨some 49, .load 40 (.tmp 9), none⟩,
    ⟨some 50, .load 40 (.tmp 11), none⟩,
    ⟨some 51, .call { callee := .value (.func 70), args := #[.tmp 49, .tmp 50], argTypes := #[40, 40] }, none⟩,
    ⟨some 52, .binOp .gtr 3 (.tmp 51) (.const (.int .i64 1)) 3, none⟩]
@[reducible] def q34_15 : SCode := .region [⟨some 4, .assign (.const (.bool false)), none⟩]
@[reducible] def q34_16 : SCode := .region [⟨some 53, .binOp .add 3 (.tmp 45) (.const (.int .i64 1)) 3, none⟩,
    ⟨some 45, .move (.tmp 53), none⟩]
def l34_1 : SCode := (.seq q34_12 (.seq (.cond (.tmp 46) .skip (.exit 4)) (.seq (.block 5 (.seq q34_13 (.seq q34_14 (.cond (.tmp 52) (.seq q34_15 .ret) .skip)))) q34_16)))
@[reducible] def q34_17 : SCode := .region [⟨some 54, .binOp .add 3 (.tmp 36) (.const (.int .i64 1)) 3, none⟩,
    ⟨some 36, .move (.tmp 54), none⟩]
def l34_2 : SCode := (.seq q34_9 (.seq (.cond (.tmp 37) .skip (.exit 2)) (.seq (.block 3 (.seq q34_10 (.seq q34_11 (.block 4 (.loop l34_1))))) q34_17)))
@[reducible] def q34_18 : SCode := .region [⟨some 55, .move (.tmp 5), none⟩,
    ⟨some 56, .move (.tmp 1), none⟩,
    ⟨some 57, .call { callee := .builtin .len, args := #[.tmp 56], argTypes := #[36] }, none⟩,
    ⟨some 58, .binOp .eql 3 (.tmp 55) (.tmp 57) 3, none⟩,
    ⟨some 4, .assign (.tmp 58), none⟩]
def s34 : SCode := (.seq q34_0 (.seq q34_1 (.seq (.seq q34_2 (.block 0 (.loop l34_0))) (.seq (.seq q34_8 (.block 2 (.loop l34_2))) (.seq q34_18 .ret)))))
theorem s34_strip : stripC (bodyOf Tryd.f34) = s34 := by kernel_rfl
theorem s34_ok : codeOK 59 (bodyOf Tryd.f34) = true := by kernel_rfl
theorem s34_call [Tabs Tryd.prog] {args : List Value} {h : Heap} {Q : Value → Heap → Prop} (hsz : args.length ≤ 59) (hk : aw Tryd.prog 59 s34 (aPost Tryd.prog [.tmp 4] Q) (argEnv 0 args) h) : ACall Tryd.prog 34 args h Q :=
  acall_s Tryd.func34 rfl (enters_of Tryd.func34 (by kernel_rfl) rfl) rfl rfl (by decide) s34_strip s34_ok hsz hk

/-! 35: planchet planchetref02.Most -/
@[reducible] def q35_0 : SCode := .region [⟨some 2, .assign (.const (.int .i64 0)), none⟩]
@[reducible] def q35_1 : SCode := .region [⟨some 3, .move (.tmp 0), none⟩,
    ⟨some 4, .call { callee := .value (.func 33), args := #[.tmp 3], argTypes := #[22] }, none⟩,
    ⟨some 5, .call { callee := .value (.func 71), args := #[.tmp 4, .const (.slice none 0 0), .const (.int .i64 0)], argTypes := #[36, 36, 3] }, none⟩,
    ⟨some 2, .assign (.tmp 5), none⟩]
def s35 : SCode := (.seq q35_0 (.seq q35_1 .ret))
theorem s35_strip : stripC (bodyOf Tryd.f35) = s35 := by kernel_rfl
theorem s35_ok : codeOK 6 (bodyOf Tryd.f35) = true := by kernel_rfl
theorem s35_call [Tabs Tryd.prog] {args : List Value} {h : Heap} {Q : Value → Heap → Prop} (hsz : args.length ≤ 6) (hk : aw Tryd.prog 6 s35 (aPost Tryd.prog [.tmp 2] Q) (argEnv 0 args) h) : ACall Tryd.prog 35 args h Q :=
  acall_s Tryd.func35 rfl (enters_of Tryd.func35 (by kernel_rfl) rfl) rfl rfl (by decide) s35_strip s35_ok hsz hk

/-! 65: planchet ranks.Pack$1 -/
@[reducible] def q65_0 : SCode := .region [⟨some 7, .load 36 (.tmp 1), none⟩,
    ⟨some 8, .call { callee := .builtin .len, args := #[.tmp 7], argTypes := #[36] }, none⟩,
    ⟨some 9, .load 36 (.tmp 2), none⟩,
    ⟨some 10, .call { callee := .builtin .len, args := #[.tmp 9], argTypes := #[36] }, none⟩,
    ⟨some 11, .binOp .gtr 3 (.tmp 8) (.tmp 10) 3, none⟩]
@[reducible] def q65_1 : SCode := .region [⟨some 12, .load 36 (.tmp 1), none⟩,
    ⟨some 13, .call { callee := .value (.func 66), args := #[.tmp 12], argTypes := #[36] }, none⟩,
    ⟨none, .store 36 (.tmp 2) (.tmp 13), none⟩]
@[reducible] def q65_2 : SCode := .region [⟨some 14, .load 36 (.tmp 1), none⟩,
    ⟨some 15, .call { callee := .builtin .len, args := #[.tmp 14], argTypes := #[36] }, none⟩,
    ⟨some 16, .load 36 (.tmp 3), none⟩,
    ⟨some 17, .call { callee := .builtin .len, args := #[.tmp 16], argTypes := #[36] }, none⟩,
    ⟨some 18, .binOp .add 3 (.tmp 15) (.tmp 17) 3, none⟩,
    ⟨some 19, .move (.tmp 0), none⟩,
    ⟨some 20, .binOp .sub 3 (.tmp 18) (.tmp 19) 3, none⟩,
    ⟨some 21, .load 36 (.tmp 2), none⟩,
    ⟨some 22, .call { callee := .builtin .len, args := #[.tmp 21], argTypes := #[36] }, none⟩,
    ⟨some 23, .binOp .leq 3 (.tmp 20) (.tmp 22) 3, none⟩]
@[reducible] def q65_3 : SCode := .region [⟨some 24, .move (.tmp 0), none⟩,
    ⟨some 6, .alloc 3, none⟩,
    ⟨none, .store 3 (.tmp 6) (.tmp 24), none⟩]
@[reducible] def q65_4 : SCode := .region [⟨some 25, .load 3 (.tmp 6), none⟩,
    ⟨some 26, .load 36 (.tmp 3), none⟩,
    ⟨some 27, .call { callee := .builtin .len, args := #[.tmp 26], argTypes := #[36] }, none⟩,
    ⟨some 28, .binOp .lss 3 (.tmp 25) (.tmp 27) 3, none⟩]
@[reducible] def q65_6 : SCode := .region [⟨some 31, .load 36 (.tmp 1), none⟩,
    ⟨some 32, .makeFunc (.func 68) #[] #[.tmp 3, .tmp 6], none⟩,
    ⟨some 33, .call { callee := .value (.func 67), args := #[.tmp 31, .tmp 32], argTypes := #[36, 67] }, none⟩,
    ⟨some 34, .unOp .not 4 (.tmp 33), none⟩]
def q65_7 : SCode := .draw [⟨some 35, .load 36 (.tmp 1), none⟩,
    ⟨some 36, .load 36 (.tmp 3), none⟩,
    ⟨some 37, .load 3 (.tmp 6), none⟩,
    ⟨some 38, .indexAddr 36 (.tmp 36) (.tmp 37), none⟩,
    ⟨some 39, .load 40 (.tmp 38), none⟩,
    ⟨some 40, .buildSlice 36 1 #[(0, .tmp 39)], none⟩,
    ⟨some 41, .call { callee := .builtin .append, args := #[.tmp 35, .tmp 40], argTypes := #[36, 36] }, none⟩,
    ⟨none, .store 36 (.tmp 1) (.tmp 41), none⟩]
   [[], [], [], [1, 2], [3], [4], [0, 5], [6, 6, 0, 1, 2, 3, 4, 5, 6]]
@[reducible] def q65_8 : SCode := .region [⟨some 42, .load 63 (.tmp 4), none⟩,
    ⟨some 43, .load 3 (.tmp 6), none⟩,
    ⟨some 44, .binOp .add 3 (.tmp 43) (.const (.int .i64 1)) 3, none⟩,
    ⟨some 45, .call { callee := .value (.tmp 42), args := #[.tmp 44], argTypes := #[3] }, none⟩]
@[reducible] def q65_9 : SCode := .region [⟨some 46, .load 36 (.tmp 1), none⟩,
    ⟨some 47, .load 36 (.tmp 1), none⟩,
    ⟨some 48, .call { callee := .builtin .len, args := #[.tmp 47], argTypes := #[36] }, none⟩,
    ⟨some 49, .binOp .sub 3 (.tmp 48) (.const (.int .i64 1)) 3, none⟩,
    ⟨some 50, .slice 36 (.tmp 46) none (some (.tmp 49)) none, none⟩,
    ⟨none, .store 36 (.tmp 1) (.tmp 50), none⟩]
@[reducible] def q65_10 : SCode := .region [⟨some 51, .load 3 (.tmp 6), none⟩]
@[reducible] def q65_11 : SCode := .region [⟨some 6, .alloc 3, none⟩,
    ⟨none, .store 3 (.tmp 6) (.tmp 51), none⟩]
@[reducible] def q65_5 : SCode := .region [⟨some 29, .load 3 (.tmp 6), none⟩,
    ⟨some 30, .binOp .add 3 (.tmp 29) (.const (.int .i64 1)) 3, none⟩,
    ⟨none, .store 3 (.tmp 6) (.tmp 30), none⟩]
def l65_0 : SCode := (.seq (.seq q65_4 (.cond (.tmp 28) .skip (.exit 0))) (.seq (.block 1 (.seq q65_6 (.cond (.tmp 34) (.seq q65_7 (.seq q65_8 q65_9)) .skip))) (.seq (.seq q65_10 q65_11) q65_5)))
def s65 : SCode := (.seq (.seq q65_0 (.cond (.tmp 11) q65_1 .skip)) (.seq (.seq q65_2 (.cond (.tmp 23) .ret .skip)) (.seq q65_3 (.block 0 (.loop l65_0)))))
theorem s65_strip : stripC (bodyOf Tryd.f65) = s65 := by kernel_rfl
theorem s65_ok : codeOK 52 (bodyOf Tryd.f65) = true := by kernel_rfl
theorem s65_call [Tabs Tryd.prog] {args : List Value} {h : Heap} {Q : Value → Heap → Prop} (hsz : args.length ≤ 52) (hk : aw Tryd.prog 52 s65 (aPost Tryd.prog [] Q) (argEnv 0 args) h) : ACall Tryd.prog 65 args h Q :=
  acall_s Tryd.func65 rfl (enters_of Tryd.func65 (by kernel_rfl) rfl) rfl rfl (by decide) s65_strip s65_ok hsz hk

/-! 66: slices.Clone[[][3]int,[3]int] -/
@[reducible] def q66_0 : SCode := .region [⟨some 2, .assign (.const (.slice none 0 0)), none⟩]
@[reducible] def q66_1 : SCode := .region [⟨some 3, .move (.tmp 0), none⟩,
    ⟨some 4, .binOp .eql 36 (.tmp 3) (.const (.slice none 0 0)) 36, none⟩]
@[reducible] def q66_2 : SCode := .region [⟨some 2, .assign (.const (.slice none 0 0)), none⟩]
@[reducible] def q66_3 : SCode := .region [⟨some 5, .buildSlice 36 0 #[], none⟩,
    ⟨some 6, .move (.tmp 0), none⟩,
    ⟨some 7, .call { callee := .builtin .append, args := #[.tmp 5, .tmp 6], argTypes := #[36, 36] }, none⟩,
    ⟨some 2, .assign (.tmp 7), none⟩]
def s66 : SCode := (.seq q66_0 (.seq (.seq q66_1 (.cond (.tmp 4) (.seq q66_2 .ret) .skip)) (.seq q66_3 .ret)))
theorem s66_strip : stripC (bodyOf Tryd.f66) = s66 := by kernel_rfl
theorem s66_ok : codeOK 8 (bodyOf Tryd.f66) = true := by kernel_rfl
theorem s66_call [Tabs Tryd.prog] {args : List Value} {h : Heap} {Q : Value → Heap → Prop} (hsz : args.length ≤ 8) (hk : aw Tryd.prog 8 s66 (aPost Tryd.prog [.tmp 2] Q) (argEnv 0 args) h) : ACall Tryd.prog 66 args h Q :=
  acall_s Tryd.func66 rfl (enters_of Tryd.func66 (by kernel_rfl) rfl) rfl rfl (by decide) s66_strip s66_ok hsz hk

/-! 68: planchet ranks.Pack$1$1 -/
@[reducible] def q68_0 : SCode := .region [⟨some 3, .box 40 (.tmp 0), none⟩,
    ⟨some 4, .assign (.const (.bool false)), none⟩]
def q68_1 : SCode := .draw [⟨some 5, .load 40 (.tmp 3), none⟩,
    ⟨some 6, .load 36 (.tmp 1), none⟩,
    ⟨some 7, .load 3 (.tmp 2), none⟩,
    ⟨some 8, .indexAddr 36 (.tmp 6) (.tmp 7), none⟩,
    ⟨some 9, .load 40 (.tmp 8), none⟩,
    ⟨some 10, .call { callee := .value (.func 69), args := #[.tmp 5, .tmp 9], argTypes := #[40, 40] }, none⟩,
    ⟨some 11, .binOp .gtr 3 (.tmp 10) (.const (.int .i64 1)) 3, none⟩,
    ⟨some 4, .assign (.tmp 11), none⟩]
   [[], [], [], [1, 2], [3], [0, 4], [5], [6, 5, 0, 1, 2, 3, 4, 5, 6]]
def s68 : SCode := (.seq q68_0 (.seq q68_1 .ret))
theorem s68_strip : stripC (bodyOf Tryd.f68) = s68 := by kernel_rfl
theorem s68_ok : codeOK 12 (bodyOf Tryd.f68) = true := by kernel_rfl
theorem s68_call [Tabs Tryd.prog] {args : List Value} {h : Heap} {Q : Value → Heap → Prop} (hsz : args.length ≤ 12) (hk : aw Tryd.prog 12 s68 (aPost Tryd.prog [.tmp 4] Q) (argEnv 0 args) h) : ACall Tryd.prog 68 args h Q :=
  acall_s Tryd.func68 rfl (enters_of Tryd.func68 (by kernel_rfl) rfl) rfl rfl (by decide) s68_strip s68_ok hsz hk

/-! 69: planchet ranks.common -/
@[reducible] def q69_0 : SCode := .region [⟨some 2, .box 40 (.tmp 0), none⟩,
    ⟨some 3, .box 40 (.tmp 1), none⟩,
    ⟨some 4, .assign (.const (.int .i64 0)), none⟩]
@[reducible] def q69_1 : SCode := .region [⟨some 5, .assign (.const (.int .i64 0)), none⟩]
@[reducible] def q69_2 : SCode := .region [⟨some 8, .load 40 (.tmp 2), none⟩,
    ⟨some 9, .move (.const (.int .i64 0)), none⟩]
@[reducible] def q69_3 : SCode := .region [⟨some 10, .binOp .lss 3 (.tmp 9) (.const (.int .i64 3)) 3, none⟩]
@[reducible] def q69_4 : SCode := .region [⟨some 11, .index 40 (.tmp 8) (.tmp 9), none⟩,
    ⟨some 7, .assign (.tmp 11), none⟩]
@[reducible] def q69_5 : SCode := .region [⟨some 12, .slice 40 (.tmp 3) none none none, none⟩,
    ⟨some 13, .move (.tmp 7), none⟩,
    ⟨some 14, .call { callee := .value (.func 96), args := #[.tmp 12, .tmp 13], argTypes := #[22, 3] }, none⟩]
@[reducible] def q69_6 : SCode := .region [⟨some 15, .move (.tmp 5), none⟩,
    ⟨some 16, .binOp .add 3 (.tmp 15) (.const (.int .i64 1)) 3, none⟩,
    ⟨some 5, .assign (.tmp 16), none⟩]
@[reducible] def q69_7 : SCode := .region [⟨some 17, .binOp .add 3 (.tmp 9) (.const (.int .i64 1)) 3, none⟩,
    ⟨some 9, .move (.tmp 17), none⟩]
def l69_0 : SCode := (.seq q69_3 (.seq (.cond (.tmp 10) .skip (.exit 0)) (.seq (.block 1 (.seq q69_4 (.seq q69_5 (.cond (.tmp 14) q69_6 .skip)))) q69_7)))
@[reducible] def q69_8 : SCode := .region [⟨some 18, .move (.tmp 5), none⟩,
    ⟨some 4, .assign (.tmp 18), none⟩]
def s69 : SCode := (.seq q69_0 (.seq q69_1 (.seq (.seq q69_2 (.block 0 (.loop l69_0))) (.seq q69_8 .ret))))
theorem s69_strip : stripC (bodyOf Tryd.f69) = s69 := by kernel_rfl
theorem s69_ok : codeOK 19 (bodyOf Tryd.f69) = true := by kernel_rfl
theorem s69_call [Tabs Tryd.prog] {args : List Value} {h : Heap} {Q : Value → Heap → Prop} (hsz : args.length ≤ 19) (hk : aw Tryd.prog 19 s69 (aPost Tryd.prog [.tmp 4] Q) (argEnv 0 args) h) : ACall Tryd.prog 69 args h Q :=
  acall_s Tryd.func69 rfl (enters_of Tryd.func69 (by kernel_rfl) rfl) rfl rfl (by decide) s69_strip s69_ok hsz hk

/-! 70: planchet planchetref02.common -/
@[reducible] def q70_0 : SCode := .region [⟨some 2, .box 40 (.tmp 0), none⟩,
    ⟨some 3, .box 40 (.tmp 1), none⟩,
    ⟨some 4, .assign (.const (.int .i64 0)), none⟩]
@[reducible] def q70_1 : SCode := .region [⟨some 5, .assign (.const (.int .i64 0)), none⟩]
@[reducible] def q70_2 : SCode := .region [⟨some 10, .load 40 (.tmp 2), none⟩,
    ⟨some 11, .move (.const (.int .i64 0)), none⟩]
@[reducible] def q70_3 : SCode := .region [⟨some 12, .binOp .lss 3 (.tmp 11) (.const (.int .i64 3)) 3, none⟩]
@[reducible] def q70_4 : SCode := .region [⟨some 13, .index 40 (.tmp 10) (.tmp 11), none⟩,
    ⟨some 7, .assign (.tmp 13), none⟩]
@[reducible] def q70_5 : SCode := .region [⟨some 14, .load 40 (.tmp 3), none⟩,
    ⟨some 15, .move (.const (.int .i64 0)), none⟩]
@[reducible] def q70_6 : SCode := .region [⟨some 16, .binOp .lss 3 (.tmp 15) (.const (.int .i64 3)) 3, none⟩]
@[reducible] def q70_7 : SCode := .region [⟨some 17, .index 40 (.tmp 14) (.tmp 15), none⟩,
    ⟨some 9, .assign (.tmp 17), none⟩]
@[reducible] def q70_8 : SCode := .region [⟨some 18, .move (.tmp 7), none⟩,
    ⟨some 19, .move (.tmp 9), none⟩,
    ⟨some 20, .binOp .eql 3 (.tmp 18) (.tmp 19) 3, none⟩]
@[reducible] def q70_9 : SCode := .region [⟨some 21, .move (.tmp 5), none⟩,
    ⟨some 22, .binOp .add 3 (.tmp 21) (.const (.int .i64 1)) 3, none⟩,
    ⟨some 5, .assign (.tmp 22), none⟩]
@[reducible] def q70_10 : SCode := .region [⟨some 23, .binOp .add 3 (.tmp 15) (.const (.int .i64 1)) 3, none⟩,
    ⟨some 15, .move (.tmp 23), none⟩]
def l70_0 : SCode := (.seq q70_6 (.seq (.cond (.tmp 16) .skip (.exit 2)) (.seq (.block 3 (.seq q70_7 (.seq q70_8 (.cond (.tmp 20) q70_9 .skip)))) q70_10)))
@[reducible] def q70_11 : SCode := .region [⟨some 24, .binOp .add 3 (.tmp 11) (.const (.int .i64 1)) 3, none⟩,
    ⟨some 11, .move (.tmp 24), none⟩]
def l70_1 : SCode := (.seq q70_3 (.seq (.cond (.tmp 12) .skip (.exit 0)) (.seq (.block 1 (.seq q70_4 (.seq q70_5 (.block 2 (.loop l70_0))))) q70_11)))
@[reducible] def q70_12 : SCode := .region [⟨some 25, .move (.tmp 5), none⟩,
    ⟨some 4, .assign (.tmp 25), none⟩]
def s70 : SCode := (.seq q70_0 (.seq q70_1 (.seq (.seq q70_2 (.block 0 (.loop l70_1))) (.seq q70_12 .ret))))
theorem s70_strip : stripC (bodyOf Tryd.f70) = s70 := by kernel_rfl
theorem s70_ok : codeOK 26 (bodyOf Tryd.f70) = true := by kernel_rfl
theorem s70_call [Tabs Tryd.prog] {args : List Value} {h : Heap} {Q : Value → Heap → Prop} (hsz : args.length ≤ 26) (hk : aw Tryd.prog 26 s70 (aPost Tryd.prog [.tmp 4] Q) (argEnv 0 args) h) : ACall Tryd.prog 70 args h Q :=
  acall_s Tryd.func70 rfl (enters_of Tryd.func70 (by kernel_rfl) rfl) rfl rfl (by decide) s70_strip s70_ok hsz hk

/-! 71: planchet planchetref02.most -/
@[reducible] def q71_0 : SCode := .region [⟨some 6, .assign (.const (.int .i64 0)), none⟩]
@[reducible] def q71_1 : SCode := .region [⟨some 10, .move (.tmp 2), none⟩,
    ⟨some 11, .move (.tmp 1), none⟩,
    ⟨some 12, .call { callee := .builtin .len, args := #[.tmp 11], argTypes := #[36] }, none⟩,
    ⟨some 13, .call { callee := .builtin .max, args := #[.tmp 10, .tmp 12], argTypes := #[3, 3] }, none⟩,
    ⟨some 2, .assign (.tmp 13), none⟩]
@[reducible] def q71_2 : SCode := .region [⟨some 14, .move (.tmp 0), none⟩,
    ⟨some 15, .call { callee := .builtin .len, args := #[.tmp 14], argTypes := #[36] }, none⟩,
    ⟨some 16, .binOp .eql 3 (.tmp 15) (.const (.int .i64 0)) 3, none⟩,
    ⟨some 17, .move (.tmp 16), none⟩,
    ⟨some 18, .move (.tmp 1), some (17, false)⟩,
    ⟨some 19, .call { callee := .builtin .len, args := #[.tmp 18], argTypes := #[36] }, some (17, false)⟩,
    ⟨some 20, .move (.tmp 0), some (17, false)⟩,
    ⟨some 21, .call { callee := .builtin .len, args := #[.tmp 20], argTypes := #[36] }, some (17, false)⟩,
    ⟨some 22, .binOp .add 3 (.tmp 19) (.tmp 21) 3, some (17, false)⟩,
    ⟨some 23, .move (.tmp 2), some (17, false)⟩,
    ⟨some 24, .binOp .leq 3 (.tmp 22) (.tmp 23) 3, some (17, false)⟩,
    ⟨some 25, .pick (.tmp 17) (.const (.bool true)) (.tmp 24), none⟩]
@[reducible] def q71_3 : SCode := .region [⟨some 26, .move (.tmp 2), none⟩,
    ⟨some 6, .assign (.tmp 26), none⟩]
@[reducible] def q71_4 : SCode := .region [⟨some 7, .assign (.const (.slice none 0 0)), none⟩]
@[reducible] def q71_5 : SCode := .region [⟨some 27, .move (.tmp 0), none⟩,
    ⟨some 28, .slice 36 (.tmp 27) (some (.const (.int .i64 1))) none none, none⟩,
    ⟨some 29, .call { callee := .builtin .len, args := #[.tmp 28], argTypes := #[36] }, none⟩,
    ⟨some 30, .move (.const (.int .i64 0)), none⟩]
@[reducible] def q71_6 : SCode := .region [⟨some 31, .binOp .lss 3 (.tmp 30) (.tmp 29) 3, none⟩]
@[reducible] def q71_7 : SCode := .region [⟨some 32, .indexAddr 36 (.tmp 28) (.tmp 30), none⟩,
    ⟨some 33, .load 40 (.tmp 32), none⟩,
    ⟨some 9, .alloc 40, none⟩,
    ⟨none, .store 40 (.tmp 9) (.tmp 33), none⟩]
def q71_8 : SCode := .draw [⟨some 34, .load 40 (.tmp 9), none⟩,
    ⟨some 35, .move (.tmp 0), none⟩,
    ⟨some 36, .indexAddr 36 (.tmp 35) (.const (.int .i64 0)), none⟩,
    ⟨some 37, .load 40 (.tmp 36), none⟩,
    ⟨some 38, .call { callee := .value (.func 70), args := #[.tmp 34, .tmp 37], argTypes := #[40, 40] }, none⟩,
    ⟨some 39, .binOp .lss 3 (.tmp 38) (.const (.int .i64 2)) 3, none⟩]
   [[], [], [1], [2], [0, 3], [4]]
@[reducible] def q71_9 : SCode := .region [⟨some 40, .move (.tmp 7), none⟩,
    ⟨some 41, .load 40 (.tmp 9), none⟩,
    ⟨some 42, .buildSlice 36 1 #[(0, .tmp 41)], none⟩,
    ⟨some 43, .call { callee := .builtin .append, args := #[.tmp 40, .tmp 42], argTypes := #[36, 36] }, none⟩,
    ⟨some 7, .assign (.tmp 43), none⟩]
@[reducible] def q71_10 : SCode := .region [⟨some 44, .binOp .add 3 (.tmp 30) (.const (.int .i64 1)) 3, none⟩,
    ⟨some 30, .move (.tmp 44), none⟩]
def l71_0 : SCode := (.seq q71_6 (.seq (.cond (.tmp 31) .skip (.exit 0)) (.seq (.block 1 (.seq q71_7 (.seq q71_8 (.cond (.tmp 39) q71_9 .skip)))) q71_10)))
def q71_11 : SCode := .draw [⟨some 45, .move (.tmp 7), none⟩,
    ⟨some 46, .move (.tmp 1), none⟩,
    ⟨some 47, .move (.tmp 1), none⟩,
    ⟨some 48, .call { callee := .builtin .len, args := #[.tmp 47], argTypes := #[36] }, none⟩,
    ⟨some 49, .move (.tmp 1), none⟩,
    ⟨some 50, .call { callee := .builtin .len, args := #[.tmp 49], argTypes := #[36] }, none⟩,
    ⟨some 51, .slice 36 (.tmp 46) none (some (.tmp 48)) (some (.tmp 50)), none⟩,
    ⟨some 52, .move (.tmp 0), none⟩,
    ⟨some 53, .indexAddr 36 (.tmp 52) (.const (.int .i64 0)), none⟩,
    ⟨some 54, .load 40 (.tmp 53), none⟩,
    ⟨some 55, .buildSlice 36 1 #[(0, .tmp 54)], none⟩,
    ⟨some 56, .call { callee := .builtin .append, args := #[.tmp 51, .tmp 55], argTypes := #[36, 36] }, none⟩,
    ⟨some 57, .move (.tmp 2), none⟩,
    ⟨some 58, .call { callee := .value (.func 71), args := #[.tmp 45, .tmp 56, .tmp 57], argTypes := #[36, 36, 3] }, none⟩,
    ⟨some 2, .assign (.tmp 58), none⟩]
   [[], [], [], [2], [], [4], [1, 3, 5], [], [7], [8], [9], [6, 10], [], [0, 11, 12, 11], [13, 13, 0, 1, 2, 3, 4, 5, 6, 7, 8, 9, 10, 11, 12, 13]]
@[reducible] def q71_12 : SCode := .region [⟨some 59, .move (.tmp 0), none⟩,
    ⟨some 60, .slice 36 (.tmp 59) (some (.const (.int .i64 1))) none none, none⟩,
    ⟨some 61, .move (.tmp 1), none⟩,
    ⟨some 62, .move (.tmp 2), none⟩,
    ⟨some 63, .call { callee := .value (.func 71), args := #[.tmp 60, .tmp 61, .tmp 62], argTypes := #[36, 36, 3] }, none⟩,
    ⟨some 6, .assign (.tmp 63), none⟩]
def s71 : SCode := (.seq q71_0 (.seq q71_1 (.seq (.seq q71_2 (.cond (.tmp 25) (.seq q71_3 .ret) .skip)) (.seq q71_4 (.seq (.seq q71_5 (.block 0 (.loop l71_0))) (.seq q71_11 (.seq q71_12 .ret)))))))
theorem s71_strip : stripC (bodyOf Tryd.f71) = s71 := by kernel_rfl
theorem s71_ok : codeOK 64 (bodyOf Tryd.f71) = true := by kernel_rfl
theorem s71_call [Tabs Tryd.prog] {args : List Value} {h : Heap} {Q : Value → Heap → Prop} (hsz : args.length ≤ 64) (hk : aw Tryd.prog 64 s71 (aPost Tryd.prog [.tmp 6] Q) (argEnv 0 args) h) : ACall Tryd.prog 71 args h Q :=
  acall_s Tryd.func71 rfl (enters_of Tryd.func71 (by kernel_rfl) rfl) rfl rfl (by decide) s71_strip s71_ok hsz hk

/-! 96: slices.Contains[[]int,int] -/
@[reducible] def q96_0 : SCode := .region [⟨some 4, .assign (.const (.bool false)), none⟩]
@[reducible] def q96_1 : SCode := .region [⟨some 5, .move (.tmp 0), none⟩,
    ⟨some 6, .move (.tmp 1), none⟩,
    ⟨some 7, .call { callee := .value (.func 107), args := #[.tmp 5, .tmp 6], argTypes := #[22, 3] }, none⟩,
    ⟨some 8, .binOp .geq 3 (.tmp 7) (.const (.int .i64 0)) 3, none⟩,
    ⟨some 4, .assign (.tmp 8), none⟩]
def s96 : SCode := (.seq q96_0 (.seq q96_1 .ret))
theorem s96_strip : stripC (bodyOf Tryd.f96) = s96 := by kernel_rfl
theorem s96_ok : codeOK 9 (bodyOf Tryd.f96) = true := by kernel_rfl
theorem s96_call [Tabs Tryd.prog] {args : List Value} {h : Heap} {Q : Value → Heap → Prop} (hsz : args.length ≤ 9) (hk : aw Tryd.prog 9 s96 (aPost Tryd.prog [.tmp 4] Q) (argEnv 0 args) h) : ACall Tryd.prog 96 args h Q :=
  acall_s Tryd.func96 rfl (enters_of Tryd.func96 (by kernel_rfl) rfl) rfl rfl (by decide) s96_strip s96_ok hsz hk

/-! 107: slices.Index[[]int,int] -/
@[reducible] def q107_0 : SCode := .region [⟨some 4, .assign (.const (.int .i64 0)), none⟩]
@[reducible] def q107_1 : SCode := .region [⟨some 6, .move (.tmp 0), none⟩,
    ⟨some 7, .call { callee := .builtin .len, args := #[.tmp 6], argTypes := #[22] }, none⟩,
    ⟨some 8, .move (.const (.int .i64 0)), none⟩]
@[reducible] def q107_2 : SCode := .region [⟨some 9, .binOp .lss 3 (.tmp 8) (.tmp 7) 3, none⟩]
@[reducible] def q107_3 : SCode := .region [⟨some 10, .move (.tmp 8), none⟩,
    ⟨some 5, .assign (.tmp 10), none⟩]
@[reducible] def q107_4 : SCode := .region [⟨some 11, .move (.tmp 1), none⟩,
    ⟨some 12, .move (.tmp 0), none⟩,
    ⟨some 13, .move (.tmp 5), none⟩,
    ⟨some 14, .indexAddr 22 (.tmp 12) (.tmp 13), none⟩,
    ⟨some 15, .load 3 (.tmp 14), none⟩,
    ⟨some 16, .binOp .eql 3 (.tmp 11) (.tmp 15) 3, none⟩]
@[reducible] def q107_5 : SCode := .region [⟨some 17, .move (.tmp 5), none⟩,
    ⟨some 4, .assign (.tmp 17), none⟩]
@[reducible] def q107_6 : SCode := .region [⟨some 18, .binOp .add 3 (.tmp 8) (.const (.int .i64 1)) 3, none⟩,
    ⟨some 8, .move (.tmp 18), none⟩]
def l107_0 : SCode := (.seq q107_2 (.seq (.cond (.tmp 9) .skip (.exit 0)) (.seq (.block 1 (.seq q107_3 (.seq q107_4 (.cond (.tmp 16) (.seq q107_5 .ret) .skip)))) q107_6)))
@[reducible] def q107_7 : SCode := .region [⟨some 4, .assign (.const (.int .i64 (-1))), none⟩]
def s107 : SCode := (.seq q107_0 (.seq (.seq q107_1 (.block 0 (.loop l107_0))) (.seq q107_7 .ret)))
theorem s107_strip : stripC (bodyOf Tryd.f107) = s107 := by kernel_rfl
theorem s107_ok : codeOK 19 (bodyOf Tryd.f107) = true := by kernel_rfl
theorem s107_call [Tabs Tryd.prog] {args : List Value} {h : Heap} {Q : Value → Heap → Prop} (hsz : args.length ≤ 19) (hk : aw Tryd.prog 19 s107 (aPost Tryd.prog [.tmp 4] Q) (argEnv 0 args) h) : ACall Tryd.prog 107 args h Q :=
  acall_s Tryd.func107 rfl (enters_of Tryd.func107 (by kernel_rfl) rfl) rfl rfl (by decide) s107_strip s107_ok hsz hk

end Go.Proofs.Tryd.Am

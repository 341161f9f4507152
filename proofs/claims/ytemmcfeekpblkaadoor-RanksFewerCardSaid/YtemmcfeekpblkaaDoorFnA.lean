/- Printed by gen.py: the code of some functions, without what no step looks at; held against the program's own by the kernel. -/
import Derived.Test.YtemmcfeekpblkaaDoorAmO
import Derived.Test.YtemmcfeekpblkaaDoorProg
import Derived.KernelRfl
import Derived.Shelf.Abstract
set_option linter.all false
namespace Go.Proofs.Tryd.Am
open Go.Am
set_option maxRecDepth 100000
/-! 4: planchet planchetlaw02.RanksWays -/
@[reducible] def q4_0 : SCode := .region [⟨some 4, .assign (.const (.bool false)), none⟩]
@[reducible] def q4_1 : SCode := .region [⟨some 12, .move (.tmp 0), none⟩,
    ⟨some 13, .call { callee := .value (.func 19), args := #[.tmp 12], argTypes := #[22] }, none⟩,
    ⟨some 14, .call { callee := .value (.func 18), args := #[.tmp 13], argTypes := #[22] }, none⟩,
    ⟨some 11, .move (.tmp 14), none⟩,
    ⟨some 15, .extract (.tmp 11) 0, none⟩,
    ⟨some 16, .extract (.tmp 11) 1, none⟩,
    ⟨some 5, .assign (.tmp 15), none⟩,
    ⟨some 6, .assign (.tmp 16), none⟩]
@[reducible] def q4_2 : SCode := .region [⟨some 18, .move (.tmp 0), none⟩,
    ⟨some 19, .call { callee := .value (.func 19), args := #[.tmp 18], argTypes := #[22] }, none⟩,
    ⟨some 20, .move (.tmp 1), none⟩,
    ⟨some 21, .call { callee := .value (.func 24), args := #[.tmp 19, .tmp 20], argTypes := #[22, 3] }, none⟩,
    ⟨some 17, .move (.tmp 21), none⟩,
    ⟨some 22, .extract (.tmp 17) 0, none⟩,
    ⟨some 23, .extract (.tmp 17) 1, none⟩,
    ⟨some 7, .assign (.tmp 22), none⟩,
    ⟨some 8, .assign (.tmp 23), none⟩]
@[reducible] def q4_3 : SCode := .region [⟨some 24, .move (.tmp 0), none⟩,
    ⟨some 25, .call { callee := .value (.func 20), args := #[.tmp 24], argTypes := #[22] }, none⟩,
    ⟨some 26, .unOp .not 4 (.tmp 25), none⟩]
@[reducible] def q4_4 : SCode := .region [⟨some 27, .move (.tmp 5), none⟩,
    ⟨some 28, .call { callee := .builtin .len, args := #[.tmp 27], argTypes := #[22] }, none⟩,
    ⟨some 29, .move (.tmp 7), none⟩,
    ⟨some 30, .call { callee := .builtin .len, args := #[.tmp 29], argTypes := #[22] }, none⟩,
    ⟨some 31, .binOp .add 3 (.tmp 28) (.tmp 30) 3, none⟩,
    ⟨some 32, .binOp .eql 3 (.tmp 31) (.const (.int .i64 0)) 3, none⟩,
    ⟨some 33, .move (.tmp 32), none⟩,
    ⟨some 34, .move (.tmp 6), some (33, true)⟩,
    ⟨some 35, .binOp .eql 23 (.tmp 34) (.const (.int .i64 2)) 23, some (33, true)⟩,
    ⟨some 36, .pick (.tmp 33) (.tmp 35) (.const (.bool false)), none⟩,
    ⟨some 37, .move (.tmp 36), none⟩,
    ⟨some 38, .move (.tmp 8), some (37, true)⟩,
    ⟨some 39, .binOp .eql 23 (.tmp 38) (.const (.int .i64 2)) 23, some (37, true)⟩,
    ⟨some 40, .pick (.tmp 37) (.tmp 39) (.const (.bool false)), none⟩,
    ⟨some 41, .move (.tmp 40), none⟩,
    ⟨some 42, .call { callee := .value (.func 21), args := #[], argTypes := #[] }, some (41, true)⟩,
    ⟨some 43, .pick (.tmp 41) (.tmp 42) (.const (.bool false)), none⟩,
    ⟨some 4, .assign (.tmp 43), none⟩]
@[reducible] def q4_5 : SCode := .region [⟨some 44, .move (.tmp 5), none⟩,
    ⟨some 45, .move (.tmp 0), none⟩,
    ⟨some 46, .call { callee := .value (.func 26), args := #[.tmp 45], argTypes := #[22] }, none⟩,
    ⟨some 47, .call { callee := .value (.func 25), args := #[.tmp 44, .tmp 46], argTypes := #[22, 22] }, none⟩,
    ⟨some 48, .unOp .not 4 (.tmp 47), none⟩,
    ⟨some 49, .move (.tmp 48), none⟩,
    ⟨some 50, .move (.tmp 6), some (49, false)⟩,
    ⟨some 51, .binOp .neq 23 (.tmp 50) (.const (.int .i64 0)) 23, some (49, false)⟩,
    ⟨some 52, .pick (.tmp 49) (.const (.bool true)) (.tmp 51), none⟩,
    ⟨some 53, .move (.tmp 52), none⟩,
    ⟨some 54, .call { callee := .value (.func 21), args := #[], argTypes := #[] }, some (53, false)⟩,
    ⟨some 55, .unOp .not 4 (.tmp 54), some (53, false)⟩,
    ⟨some 56, .pick (.tmp 53) (.const (.bool true)) (.tmp 55), none⟩]
@[reducible] def q4_6 : SCode := .region [⟨some 4, .assign (.const (.bool false)), none⟩]
@[reducible] def q4_7 : SCode := .region [⟨some 57, .move (.tmp 1), none⟩,
    ⟨some 58, .binOp .lss 3 (.tmp 57) (.const (.int .i64 3)) 3, none⟩,
    ⟨some 59, .move (.tmp 58), none⟩,
    ⟨some 60, .move (.tmp 1), some (59, false)⟩,
    ⟨some 61, .move (.tmp 0), some (59, false)⟩,
    ⟨some 62, .call { callee := .builtin .len, args := #[.tmp 61], argTypes := #[22] }, some (59, false)⟩,
    ⟨some 63, .binOp .gtr 3 (.tmp 60) (.tmp 62) 3, some (59, false)⟩,
    ⟨some 64, .pick (.tmp 59) (.const (.bool true)) (.tmp 63), none⟩]
@[reducible] def q4_8 : SCode := .region [⟨some 65, .move (.tmp 7), none⟩,
    ⟨some 66, .call { callee := .builtin .len, args := #[.tmp 65], argTypes := #[22] }, none⟩,
    ⟨some 67, .binOp .eql 3 (.tmp 66) (.const (.int .i64 0)) 3, none⟩,
    ⟨some 68, .move (.tmp 67), none⟩,
    ⟨some 69, .move (.tmp 8), some (68, true)⟩,
    ⟨some 70, .binOp .eql 23 (.tmp 69) (.const (.int .i64 2)) 23, some (68, true)⟩,
    ⟨some 71, .pick (.tmp 68) (.tmp 70) (.const (.bool false)), none⟩,
    ⟨some 4, .assign (.tmp 71), none⟩]
@[reducible] def q4_9 : SCode := .region [⟨some 73, .move (.tmp 0), none⟩,
    ⟨some 74, .move (.tmp 1), none⟩,
    ⟨some 75, .call { callee := .value (.func 27), args := #[.tmp 73, .tmp 74], argTypes := #[22, 3] }, none⟩,
    ⟨some 72, .move (.tmp 75), none⟩,
    ⟨some 76, .extract (.tmp 72) 0, none⟩,
    ⟨some 77, .extract (.tmp 72) 1, none⟩,
    ⟨some 9, .assign (.tmp 76), none⟩,
    ⟨some 10, .assign (.tmp 77), none⟩]
@[reducible] def q4_10 : SCode := .region [⟨some 78, .move (.tmp 7), none⟩,
    ⟨some 79, .move (.tmp 9), none⟩,
    ⟨some 80, .call { callee := .value (.func 25), args := #[.tmp 78, .tmp 79], argTypes := #[22, 22] }, none⟩,
    ⟨some 81, .move (.tmp 80), none⟩,
    ⟨some 82, .move (.tmp 8), some (81, true)⟩,
    ⟨some 83, .move (.tmp 10), some (81, true)⟩,
    ⟨some 84, .binOp .eql 23 (.tmp 82) (.tmp 83) 23, some (81, true)⟩,
    ⟨some 85, .pick (.tmp 81) (.tmp 84) (.const (.bool false)), none⟩,
    ⟨some 4, .assign (.tmp 85), none⟩]
def s4 : SCode := (.seq q4_0 (.seq q4_1 (.seq q4_2 (.seq (.seq q4_3 (.cond (.tmp 26) (.seq q4_4 .ret) .skip)) (.seq (.seq q4_5 (.cond (.tmp 56) (.seq q4_6 .ret) .skip)) (.seq (.seq q4_7 (.cond (.tmp 64) (.seq q4_8 .ret) .skip)) (.seq q4_9 (.seq q4_10 .ret))))))))
theorem s4_strip : stripC (bodyOf Tryd.f4) = s4 := by kernel_rfl
theorem s4_ok : codeOK 86 (bodyOf Tryd.f4) = true := by kernel_rfl
theorem s4_call [Tabs Tryd.prog] {args : List Value} {h : Heap} {Q : Value → Heap → Prop} (hsz : args.length ≤ 86) (hk : aw Tryd.prog 86 s4 (aPost Tryd.prog [.tmp 4] Q) (argEnv 0 args) h) : ACall Tryd.prog 4 args h Q :=
  acall_s Tryd.func4 rfl (enters_of Tryd.func4 (by kernel_rfl) rfl) rfl rfl (by decide) s4_strip s4_ok hsz hk

/-! 18: planchet ranks.Way -/
@[reducible] def q18_0 : SCode := .region [⟨some 2, .assign (.const (.slice none 0 0)), none⟩,
    ⟨some 3, .assign (.const (.int .i64 0)), none⟩]
@[reducible] def q18_1 : SCode := .region [⟨some 5, .move (.tmp 0), none⟩,
    ⟨some 4, .assign (.tmp 5), none⟩]
@[reducible] def q18_2 : SCode := .region [⟨some 6, .move (.tmp 4), none⟩,
    ⟨some 7, .call { callee := .value (.func 56), args := #[.tmp 6], argTypes := #[55] }, none⟩,
    ⟨some 8, .unOp .not 4 (.tmp 7), none⟩]
@[reducible] def q18_3 : SCode := .region [⟨some 2, .assign (.const (.slice none 0 0)), none⟩,
    ⟨some 3, .assign (.const (.int .i64 2)), none⟩]
@[reducible] def q18_4 : SCode := .region [⟨some 9, .move (.tmp 4), none⟩,
    ⟨some 10, .move (.tmp 0), none⟩,
    ⟨some 11, .call { callee := .builtin .len, args := #[.tmp 10], argTypes := #[22] }, none⟩,
    ⟨some 12, .call { callee := .value (.func 57), args := #[.tmp 9, .tmp 11, .func 58], argTypes := #[55, 3, 27] }, none⟩,
    ⟨some 2, .assign (.tmp 12), none⟩,
    ⟨some 3, .assign (.const (.int .i64 0)), none⟩]
def s18 : SCode := (.seq q18_0 (.seq q18_1 (.seq (.seq q18_2 (.cond (.tmp 8) (.seq q18_3 .ret) .skip)) (.seq q18_4 .ret))))
theorem s18_strip : stripC (bodyOf Tryd.f18) = s18 := by kernel_rfl
theorem s18_ok : codeOK 13 (bodyOf Tryd.f18) = true := by kernel_rfl
theorem s18_call [Tabs Tryd.prog] {args : List Value} {h : Heap} {Q : Value → Heap → Prop} (hsz : args.length ≤ 13) (hk : aw Tryd.prog 13 s18 (aPost Tryd.prog [.tmp 2, .tmp 3] Q) (argEnv 0 args) h) : ACall Tryd.prog 18 args h Q :=
  acall_s Tryd.func18 rfl (enters_of Tryd.func18 (by kernel_rfl) rfl) rfl rfl (by decide) s18_strip s18_ok hsz hk

/-! 19: planchet planchetlaw02.list -/
@[reducible] def q19_0 : SCode := .region [⟨some 2, .assign (.const (.slice none 0 0)), none⟩]
@[reducible] def q19_1 : SCode := .region [⟨some 3, .move (.tmp 0), none⟩,
    ⟨some 4, .move (.tmp 0), none⟩,
    ⟨some 5, .call { callee := .builtin .len, args := #[.tmp 4], argTypes := #[22] }, none⟩,
    ⟨some 6, .call { callee := .builtin .min, args := #[.tmp 5, .const (.int .i64 11)], argTypes := #[3, 3] }, none⟩,
    ⟨some 7, .slice 22 (.tmp 3) none (some (.tmp 6)) none, none⟩,
    ⟨some 8, .call { callee := .value (.func 46), args := #[.tmp 7], argTypes := #[22] }, none⟩,
    ⟨some 2, .assign (.tmp 8), none⟩]
def s19 : SCode := (.seq q19_0 (.seq q19_1 .ret))
theorem s19_strip : stripC (bodyOf Tryd.f19) = s19 := by kernel_rfl
theorem s19_ok : codeOK 9 (bodyOf Tryd.f19) = true := by kernel_rfl
theorem s19_call [Tabs Tryd.prog] {args : List Value} {h : Heap} {Q : Value → Heap → Prop} (hsz : args.length ≤ 9) (hk : aw Tryd.prog 9 s19 (aPost Tryd.prog [.tmp 2] Q) (argEnv 0 args) h) : ACall Tryd.prog 19 args h Q :=
  acall_s Tryd.func19 rfl (enters_of Tryd.func19 (by kernel_rfl) rfl) rfl rfl (by decide) s19_strip s19_ok hsz hk

/-! 20: planchet planchetref02.Valid -/
@[reducible] def q20_0 : SCode := .region [⟨some 2, .assign (.const (.bool false)), none⟩]
@[reducible] def q20_1 : SCode := .region [⟨some 7, .move (.tmp 0), none⟩,
    ⟨some 8, .call { callee := .builtin .len, args := #[.tmp 7], argTypes := #[22] }, none⟩,
    ⟨some 3, .assign (.tmp 8), none⟩]
@[reducible] def q20_2 : SCode := .region [⟨some 9, .move (.tmp 3), none⟩,
    ⟨some 10, .binOp .lss 3 (.tmp 9) (.const (.int .i64 1)) 3, none⟩,
    ⟨some 11, .move (.tmp 10), none⟩,
    ⟨some 12, .move (.tmp 3), some (11, false)⟩,
    ⟨some 13, .binOp .gtr 3 (.tmp 12) (.const (.int .i64 8)) 3, some (11, false)⟩,
    ⟨some 14, .pick (.tmp 11) (.const (.bool true)) (.tmp 13), none⟩]
@[reducible] def q20_3 : SCode := .region [⟨some 2, .assign (.const (.bool false)), none⟩]
@[reducible] def q20_4 : SCode := .region [⟨some 15, .move (.tmp 0), none⟩,
    ⟨some 16, .call { callee := .builtin .len, args := #[.tmp 15], argTypes := #[22] }, none⟩,
    ⟨some 17, .move (.const (.int .i64 0)), none⟩]
@[reducible] def q20_5 : SCode := .region [⟨some 18, .binOp .lss 3 (.tmp 17) (.tmp 16) 3, none⟩]
@[reducible] def q20_6 : SCode := .region [⟨some 19, .move (.tmp 17), none⟩,
    ⟨some 20, .indexAddr 22 (.tmp 15) (.tmp 17), none⟩,
    ⟨some 21, .load 3 (.tmp 20), none⟩,
    ⟨some 4, .assign (.tmp 19), none⟩,
    ⟨some 5, .assign (.tmp 21), none⟩]
@[reducible] def q20_7 : SCode := .region [⟨some 22, .move (.tmp 5), none⟩,
    ⟨some 23, .binOp .lss 3 (.tmp 22) (.const (.int .i64 0)) 3, none⟩,
    ⟨some 24, .move (.tmp 23), none⟩,
    ⟨some 25, .move (.tmp 5), some (24, false)⟩,
    ⟨some 26, .move (.tmp 3), some (24, false)⟩,
    ⟨some 27, .binOp .shl 3 (.const (.int .i64 1)) (.tmp 26) 3, some (24, false)⟩,
    ⟨some 28, .binOp .geq 3 (.tmp 25) (.tmp 27) 3, some (24, false)⟩,
    ⟨some 29, .pick (.tmp 24) (.const (.bool true)) (.tmp 28), none⟩,
    ⟨some 30, .move (.tmp 29), none⟩,
    ⟨some 31, .move (.tmp 5), some (30, false)⟩,
    ⟨some 32, .move (.tmp 4), some (30, false)⟩,
    ⟨some 33, .binOp .shr 3 (.tmp 31) (.tmp 32) 3, some (30, false)⟩,
    ⟨some 34, .binOp .and 3 (.tmp 33) (.const (.int .i64 1)) 3, some (30, false)⟩,
    ⟨some 35, .binOp .eql 3 (.tmp 34) (.const (.int .i64 1)) 3, some (30, false)⟩,
    ⟨some 36, .pick (.tmp 30) (.const (.bool true)) (.tmp 35), none⟩]
@[reducible] def q20_8 : SCode := .region [⟨some 2, .assign (.const (.bool false)), none⟩]
@[reducible] def q20_9 : SCode := .region [⟨some 37, .move (.tmp 4), none⟩,
    ⟨some 38, .move (.const (.int .i64 0)), none⟩]
@[reducible] def q20_10 : SCode := .region [⟨some 39, .binOp .lss 3 (.tmp 38) (.tmp 37) 3, none⟩]
@[reducible] def q20_11 : SCode := .region [⟨some 40, .move (.tmp 38), none⟩,
    ⟨some 6, .assign (.tmp 40), none⟩]
def q20_12 : SCode := .draw [⟨some 41, .move (.tmp 5), none⟩,
    ⟨some 42, .move (.tmp 6), none⟩,
    ⟨some 43, .binOp .shr 3 (.tmp 41) (.tmp 42) 3, none⟩,
    ⟨some 44, .binOp .and 3 (.tmp 43) (.const (.int .i64 1)) 3, none⟩,
    ⟨some 45, .move (.tmp 0), none⟩,
    ⟨some 46, .move (.tmp 6), none⟩,
    ⟨some 47, .indexAddr 22 (.tmp 45) (.tmp 46), none⟩,
    ⟨some 48, .load 3 (.tmp 47), none⟩,
    ⟨some 49, .move (.tmp 4), none⟩,
    ⟨some 50, .binOp .shr 3 (.tmp 48) (.tmp 49) 3, none⟩,
    ⟨some 51, .binOp .and 3 (.tmp 50) (.const (.int .i64 1)) 3, none⟩,
    ⟨some 52, .binOp .eql 3 (.tmp 44) (.tmp 51) 3, none⟩]
   [[], [], [0, 1], [2], [], [], [4, 5], [6], [], [7, 8], [9], [3, 10]]
@[reducible] def q20_13 : SCode := .region [⟨some 2, .assign (.const (.bool false)), none⟩]
@[reducible] def q20_14 : SCode := .region [⟨some 53, .binOp .add 3 (.tmp 38) (.const (.int .i64 1)) 3, none⟩,
    ⟨some 38, .move (.tmp 53), none⟩]
def l20_0 : SCode := (.seq q20_10 (.seq (.cond (.tmp 39) .skip (.exit 2)) (.seq (.block 3 (.seq q20_11 (.seq q20_12 (.cond (.tmp 52) (.seq q20_13 .ret) .skip)))) q20_14)))
@[reducible] def q20_15 : SCode := .region [⟨some 54, .binOp .add 3 (.tmp 17) (.const (.int .i64 1)) 3, none⟩,
    ⟨some 17, .move (.tmp 54), none⟩]
def l20_1 : SCode := (.seq q20_5 (.seq (.cond (.tmp 18) .skip (.exit 0)) (.seq (.block 1 (.seq q20_6 (.seq (.seq q20_7 (.cond (.tmp 36) (.seq q20_8 .ret) .skip)) (.seq q20_9 (.block 2 (.loop l20_0)))))) q20_15)))
@[reducible] def q20_16 : SCode := .region [⟨some 2, .assign (.const (.bool true)), none⟩]
def s20 : SCode := (.seq q20_0 (.seq q20_1 (.seq (.seq q20_2 (.cond (.tmp 14) (.seq q20_3 .ret) .skip)) (.seq (.seq q20_4 (.block 0 (.loop l20_1))) (.seq q20_16 .ret)))))
theorem s20_strip : stripC (bodyOf Tryd.f20) = s20 := by kernel_rfl
theorem s20_ok : codeOK 55 (bodyOf Tryd.f20) = true := by kernel_rfl
theorem s20_call [Tabs Tryd.prog] {args : List Value} {h : Heap} {Q : Value → Heap → Prop} (hsz : args.length ≤ 55) (hk : aw Tryd.prog 55 s20 (aPost Tryd.prog [.tmp 2] Q) (argEnv 0 args) h) : ACall Tryd.prog 20 args h Q :=
  acall_s Tryd.func20 rfl (enters_of Tryd.func20 (by kernel_rfl) rfl) rfl rfl (by decide) s20_strip s20_ok hsz hk

/-! 21: planchet planchetlaw02.awake -/
@[reducible] def q21_0 : SCode := .region [⟨some 0, .assign (.const (.bool false)), none⟩]
@[reducible] def q21_1 : SCode := .region [⟨some 4, .buildSlice 22 2 #[(0, .const (.int .i64 0)), (1, .const (.int .i64 1))], none⟩,
    ⟨some 5, .call { callee := .value (.func 18), args := #[.tmp 4], argTypes := #[22] }, none⟩,
    ⟨some 3, .move (.tmp 5), none⟩,
    ⟨some 6, .extract (.tmp 3) 0, none⟩,
    ⟨some 7, .extract (.tmp 3) 1, none⟩,
    ⟨some 1, .assign (.tmp 6), none⟩,
    ⟨some 2, .assign (.tmp 7), none⟩]
@[reducible] def q21_2 : SCode := .region [⟨some 8, .move (.tmp 2), none⟩,
    ⟨some 9, .binOp .eql 23 (.tmp 8) (.const (.int .i64 0)) 23, none⟩,
    ⟨some 10, .move (.tmp 9), none⟩,
    ⟨some 11, .move (.tmp 1), some (10, true)⟩,
    ⟨some 12, .buildSlice 22 2 #[(0, .const (.int .i64 1)), (1, .const (.int .i64 0))], some (10, true)⟩,
    ⟨some 13, .call { callee := .value (.func 25), args := #[.tmp 11, .tmp 12], argTypes := #[22, 22] }, some (10, true)⟩,
    ⟨some 14, .pick (.tmp 10) (.tmp 13) (.const (.bool false)), none⟩,
    ⟨some 0, .assign (.tmp 14), none⟩]
def s21 : SCode := (.seq q21_0 (.seq q21_1 (.seq q21_2 .ret)))
theorem s21_strip : stripC (bodyOf Tryd.f21) = s21 := by kernel_rfl
theorem s21_ok : codeOK 15 (bodyOf Tryd.f21) = true := by kernel_rfl
theorem s21_call [Tabs Tryd.prog] {args : List Value} {h : Heap} {Q : Value → Heap → Prop} (hsz : args.length ≤ 15) (hk : aw Tryd.prog 15 s21 (aPost Tryd.prog [.tmp 0] Q) (argEnv 0 args) h) : ACall Tryd.prog 21 args h Q :=
  acall_s Tryd.func21 rfl (enters_of Tryd.func21 (by kernel_rfl) rfl) rfl rfl (by decide) s21_strip s21_ok hsz hk

/-! 24: planchet ranks.Round -/
@[reducible] def q24_0 : SCode := .region [⟨some 3, .box 3 (.tmp 1), none⟩,
    ⟨some 4, .assign (.const (.slice none 0 0)), none⟩,
    ⟨some 5, .assign (.const (.int .i64 0)), none⟩]
@[reducible] def q24_1 : SCode := .region [⟨some 8, .move (.tmp 0), none⟩,
    ⟨some 6, .alloc 55, none⟩,
    ⟨none, .store 55 (.tmp 6) (.tmp 8), none⟩]
@[reducible] def q24_2 : SCode := .region [⟨some 9, .load 55 (.tmp 6), none⟩,
    ⟨some 10, .call { callee := .value (.func 56), args := #[.tmp 9], argTypes := #[55] }, none⟩,
    ⟨some 11, .unOp .not 4 (.tmp 10), none⟩,
    ⟨some 12, .move (.tmp 11), none⟩,
    ⟨some 13, .load 3 (.tmp 3), some (12, false)⟩,
    ⟨some 14, .binOp .lss 3 (.tmp 13) (.const (.int .i64 3)) 3, some (12, false)⟩,
    ⟨some 15, .pick (.tmp 12) (.const (.bool true)) (.tmp 14), none⟩,
    ⟨some 16, .move (.tmp 15), none⟩,
    ⟨some 17, .load 3 (.tmp 3), some (16, false)⟩,
    ⟨some 18, .move (.tmp 0), some (16, false)⟩,
    ⟨some 19, .call { callee := .builtin .len, args := #[.tmp 18], argTypes := #[22] }, some (16, false)⟩,
    ⟨some 20, .binOp .gtr 3 (.tmp 17) (.tmp 19) 3, some (16, false)⟩,
    ⟨some 21, .pick (.tmp 16) (.const (.bool true)) (.tmp 20), none⟩]
@[reducible] def q24_3 : SCode := .region [⟨some 4, .assign (.const (.slice none 0 0)), none⟩,
    ⟨some 5, .assign (.const (.int .i64 2)), none⟩]
@[reducible] def q24_4 : SCode := .region [⟨some 22, .load 55 (.tmp 6), none⟩,
    ⟨some 23, .load 3 (.tmp 3), none⟩,
    ⟨some 24, .makeFunc (.func 59) #[] #[.tmp 6, .tmp 3], none⟩,
    ⟨some 25, .call { callee := .value (.func 57), args := #[.tmp 22, .tmp 23, .tmp 24], argTypes := #[55, 3, 27] }, none⟩,
    ⟨some 7, .assign (.tmp 25), none⟩]
@[reducible] def q24_5 : SCode := .region [⟨some 26, .move (.tmp 7), none⟩,
    ⟨some 27, .binOp .eql 22 (.tmp 26) (.const (.slice none 0 0)) 22, none⟩]
@[reducible] def q24_6 : SCode := .region [⟨some 4, .assign (.const (.slice none 0 0)), none⟩,
    ⟨some 5, .assign (.const (.int .i64 4)), none⟩]
@[reducible] def q24_7 : SCode := .region [⟨some 28, .move (.tmp 7), none⟩,
    ⟨some 4, .assign (.tmp 28), none⟩,
    ⟨some 5, .assign (.const (.int .i64 0)), none⟩]
def s24 : SCode := (.seq q24_0 (.seq q24_1 (.seq (.seq q24_2 (.cond (.tmp 21) (.seq q24_3 .ret) .skip)) (.seq q24_4 (.seq (.seq q24_5 (.cond (.tmp 27) (.seq q24_6 .ret) .skip)) (.seq q24_7 .ret))))))
theorem s24_strip : stripC (bodyOf Tryd.f24) = s24 := by kernel_rfl
theorem s24_ok : codeOK 29 (bodyOf Tryd.f24) = true := by kernel_rfl
theorem s24_call [Tabs Tryd.prog] {args : List Value} {h : Heap} {Q : Value → Heap → Prop} (hsz : args.length ≤ 29) (hk : aw Tryd.prog 29 s24 (aPost Tryd.prog [.tmp 4, .tmp 5] Q) (argEnv 0 args) h) : ACall Tryd.prog 24 args h Q :=
  acall_s Tryd.func24 rfl (enters_of Tryd.func24 (by kernel_rfl) rfl) rfl rfl (by decide) s24_strip s24_ok hsz hk

/-! 25: slices.Equal[[]int,int] -/
@[reducible] def q25_0 : SCode := .region [⟨some 4, .assign (.const (.bool false)), none⟩]
@[reducible] def q25_1 : SCode := .region [⟨some 6, .move (.tmp 0), none⟩,
    ⟨some 7, .call { callee := .builtin .len, args := #[.tmp 6], argTypes := #[22] }, none⟩,
    ⟨some 8, .move (.tmp 1), none⟩,
    ⟨some 9, .call { callee := .builtin .len, args := #[.tmp 8], argTypes := #[22] }, none⟩,
    ⟨some 10, .binOp .neq 3 (.tmp 7) (.tmp 9) 3, none⟩]
@[reducible] def q25_2 : SCode := .region [⟨some 4, .assign (.const (.bool false)), none⟩]
@[reducible] def q25_3 : SCode := .region [⟨some 11, .move (.tmp 0), none⟩,
    ⟨some 12, .call { callee := .builtin .len, args := #[.tmp 11], argTypes := #[22] }, none⟩,
    ⟨some 13, .move (.const (.int .i64 0)), none⟩]
@[reducible] def q25_4 : SCode := .region [⟨some 14, .binOp .lss 3 (.tmp 13) (.tmp 12) 3, none⟩]
@[reducible] def q25_5 : SCode := .region [⟨some 15, .move (.tmp 13), none⟩,
    ⟨some 5, .assign (.tmp 15), none⟩]
def q25_6 : SCode := .draw [⟨some 16, .move (.tmp 0), none⟩,
    ⟨some 17, .move (.tmp 5), none⟩,
    ⟨some 18, .indexAddr 22 (.tmp 16) (.tmp 17), none⟩,
    ⟨some 19, .load 3 (.tmp 18), none⟩,
    ⟨some 20, .move (.tmp 1), none⟩,
    ⟨some 21, .move (.tmp 5), none⟩,
    ⟨some 22, .indexAddr 22 (.tmp 20) (.tmp 21), none⟩,
    ⟨some 23, .load 3 (.tmp 22), none⟩,
    ⟨some 24, .binOp .neq 3 (.tmp 19) (.tmp 23) 3, none⟩]
   [[], [], [0, 1], [2], [], [], [4, 5], [6], [3, 7]]
@[reducible] def q25_7 : SCode := .region [⟨some 4, .assign (.const (.bool false)), none⟩]
@[reducible] def q25_8 : SCode := .region [⟨some 25, .binOp .add 3 (.tmp 13) (.const (.int .i64 1)) 3, none⟩,
    ⟨some 13, .move (.tmp 25), none⟩]
def l25_0 : SCode := (.seq q25_4 (.seq (.cond (.tmp 14) .skip (.exit 0)) (.seq (.block 1 (.seq q25_5 (.seq q25_6 (.cond (.tmp 24) (.seq q25_7 .ret) .skip)))) q25_8)))
@[reducible] def q25_9 : SCode := .region [⟨some 4, .assign (.const (.bool true)), none⟩]
def s25 : SCode := (.seq q25_0 (.seq (.seq q25_1 (.cond (.tmp 10) (.seq q25_2 .ret) .skip)) (.seq (.seq q25_3 (.block 0 (.loop l25_0))) (.seq q25_9 .ret))))
theorem s25_strip : stripC (bodyOf Tryd.f25) = s25 := by kernel_rfl
theorem s25_ok : codeOK 26 (bodyOf Tryd.f25) = true := by kernel_rfl
theorem s25_call [Tabs Tryd.prog] {args : List Value} {h : Heap} {Q : Value → Heap → Prop} (hsz : args.length ≤ 26) (hk : aw Tryd.prog 26 s25 (aPost Tryd.prog [.tmp 4] Q) (argEnv 0 args) h) : ACall Tryd.prog 25 args h Q :=
  acall_s Tryd.func25 rfl (enters_of Tryd.func25 (by kernel_rfl) rfl) rfl rfl (by decide) s25_strip s25_ok hsz hk

/-! 26: planchet planchetref02.Way -/
@[reducible] def q26_0 : SCode := .region [⟨some 2, .assign (.const (.slice none 0 0)), none⟩]
@[reducible] def q26_1 : SCode := .region [⟨some 3, .move (.tmp 0), none⟩,
    ⟨some 4, .move (.tmp 0), none⟩,
    ⟨some 5, .call { callee := .builtin .len, args := #[.tmp 4], argTypes := #[22] }, none⟩,
    ⟨some 6, .call { callee := .value (.func 61), args := #[.tmp 3, .tmp 5, .const (.slice none 0 0), .const (.int .i64 0), .const (.bool false)], argTypes := #[22, 3, 22, 3, 4] }, none⟩,
    ⟨some 2, .assign (.tmp 6), none⟩]
def s26 : SCode := (.seq q26_0 (.seq q26_1 .ret))
theorem s26_strip : stripC (bodyOf Tryd.f26) = s26 := by kernel_rfl
theorem s26_ok : codeOK 7 (bodyOf Tryd.f26) = true := by kernel_rfl
theorem s26_call [Tabs Tryd.prog] {args : List Value} {h : Heap} {Q : Value → Heap → Prop} (hsz : args.length ≤ 7) (hk : aw Tryd.prog 7 s26 (aPost Tryd.prog [.tmp 2] Q) (argEnv 0 args) h) : ACall Tryd.prog 26 args h Q :=
  acall_s Tryd.func26 rfl (enters_of Tryd.func26 (by kernel_rfl) rfl) rfl rfl (by decide) s26_strip s26_ok hsz hk

/-! 27: planchet planchetref02.Round -/
@[reducible] def q27_0 : SCode := .region [⟨some 4, .assign (.const (.slice none 0 0)), none⟩,
    ⟨some 5, .assign (.const (.int .i64 0)), none⟩]
@[reducible] def q27_1 : SCode := .region [⟨some 7, .move (.tmp 0), none⟩,
    ⟨some 8, .move (.tmp 1), none⟩,
    ⟨some 9, .call { callee := .value (.func 61), args := #[.tmp 7, .tmp 8, .const (.slice none 0 0), .const (.int .i64 0), .const (.bool true)], argTypes := #[22, 3, 22, 3, 4] }, none⟩,
    ⟨some 6, .assign (.tmp 9), none⟩]
@[reducible] def q27_2 : SCode := .region [⟨some 10, .move (.tmp 6), none⟩,
    ⟨some 11, .binOp .neq 22 (.tmp 10) (.const (.slice none 0 0)) 22, none⟩]
@[reducible] def q27_3 : SCode := .region [⟨some 12, .move (.tmp 6), none⟩,
    ⟨some 4, .assign (.tmp 12), none⟩,
    ⟨some 5, .assign (.const (.int .i64 0)), none⟩]
@[reducible] def q27_4 : SCode := .region [⟨some 4, .assign (.const (.slice none 0 0)), none⟩,
    ⟨some 5, .assign (.const (.int .i64 4)), none⟩]
def s27 : SCode := (.seq q27_0 (.seq (.seq q27_1 (.seq q27_2 (.cond (.tmp 11) (.seq q27_3 .ret) .skip))) (.seq q27_4 .ret)))
theorem s27_strip : stripC (bodyOf Tryd.f27) = s27 := by kernel_rfl
theorem s27_ok : codeOK 13 (bodyOf Tryd.f27) = true := by kernel_rfl
theorem s27_call [Tabs Tryd.prog] {args : List Value} {h : Heap} {Q : Value → Heap → Prop} (hsz : args.length ≤ 13) (hk : aw Tryd.prog 13 s27 (aPost Tryd.prog [.tmp 4, .tmp 5] Q) (argEnv 0 args) h) : ACall Tryd.prog 27 args h Q :=
  acall_s Tryd.func27 rfl (enters_of Tryd.func27 (by kernel_rfl) rfl) rfl rfl (by decide) s27_strip s27_ok hsz hk

/-! 46: slices.Clone[[]int,int] -/
@[reducible] def q46_0 : SCode := .region [⟨some 2, .assign (.const (.slice none 0 0)), none⟩]
@[reducible] def q46_1 : SCode := .region [⟨some 3, .move (.tmp 0), none⟩,
    ⟨some 4, .binOp .eql 22 (.tmp 3) (.const (.slice none 0 0)) 22, none⟩]
@[reducible] def q46_2 : SCode := .region [⟨some 2, .assign (.const (.slice none 0 0)), none⟩]
@[reducible] def q46_3 : SCode := .region [⟨some 5, .buildSlice 22 0 #[], none⟩,
    ⟨some 6, .move (.tmp 0), none⟩,
    ⟨some 7, .call { callee := .builtin .append, args := #[.tmp 5, .tmp 6], argTypes := #[22, 22] }, none⟩,
    ⟨some 2, .assign (.tmp 7), none⟩]
def s46 : SCode := (.seq q46_0 (.seq (.seq q46_1 (.cond (.tmp 4) (.seq q46_2 .ret) .skip)) (.seq q46_3 .ret)))
theorem s46_strip : stripC (bodyOf Tryd.f46) = s46 := by kernel_rfl
theorem s46_ok : codeOK 8 (bodyOf Tryd.f46) = true := by kernel_rfl
theorem s46_call [Tabs Tryd.prog] {args : List Value} {h : Heap} {Q : Value → Heap → Prop} (hsz : args.length ≤ 8) (hk : aw Tryd.prog 8 s46 (aPost Tryd.prog [.tmp 2] Q) (argEnv 0 args) h) : ACall Tryd.prog 46 args h Q :=
  acall_s Tryd.func46 rfl (enters_of Tryd.func46 (by kernel_rfl) rfl) rfl rfl (by decide) s46_strip s46_ok hsz hk

/-! 56: (planchet ranks.tournament).valid -/
@[reducible] def q56_0 : SCode := .region [⟨some 2, .assign (.const (.bool false)), none⟩]
@[reducible] def q56_1 : SCode := .region [⟨some 7, .move (.tmp 0), none⟩,
    ⟨some 8, .call { callee := .builtin .len, args := #[.tmp 7], argTypes := #[55] }, none⟩,
    ⟨some 3, .assign (.tmp 8), none⟩]
@[reducible] def q56_2 : SCode := .region [⟨some 9, .move (.tmp 3), none⟩,
    ⟨some 10, .binOp .lss 3 (.tmp 9) (.const (.int .i64 1)) 3, none⟩,
    ⟨some 11, .move (.tmp 10), none⟩,
    ⟨some 12, .move (.tmp 3), some (11, false)⟩,
    ⟨some 13, .binOp .gtr 3 (.tmp 12) (.const (.int .i64 8)) 3, some (11, false)⟩,
    ⟨some 14, .pick (.tmp 11) (.const (.bool true)) (.tmp 13), none⟩]
@[reducible] def q56_3 : SCode := .region [⟨some 2, .assign (.const (.bool false)), none⟩]
@[reducible] def q56_4 : SCode := .region [⟨some 15, .move (.tmp 0), none⟩,
    ⟨some 16, .call { callee := .builtin .len, args := #[.tmp 15], argTypes := #[55] }, none⟩,
    ⟨some 17, .move (.const (.int .i64 0)), none⟩]
@[reducible] def q56_5 : SCode := .region [⟨some 18, .binOp .lss 3 (.tmp 17) (.tmp 16) 3, none⟩]
@[reducible] def q56_6 : SCode := .region [⟨some 19, .move (.tmp 17), none⟩,
    ⟨some 20, .indexAddr 55 (.tmp 15) (.tmp 17), none⟩,
    ⟨some 21, .load 3 (.tmp 20), none⟩,
    ⟨some 4, .assign (.tmp 19), none⟩,
    ⟨some 5, .assign (.tmp 21), none⟩]
@[reducible] def q56_7 : SCode := .region [⟨some 22, .move (.tmp 5), none⟩,
    ⟨some 23, .binOp .lss 3 (.tmp 22) (.const (.int .i64 0)) 3, none⟩,
    ⟨some 24, .move (.tmp 23), none⟩,
    ⟨some 25, .move (.tmp 5), some (24, false)⟩,
    ⟨some 26, .move (.tmp 3), some (24, false)⟩,
    ⟨some 27, .binOp .shl 3 (.const (.int .i64 1)) (.tmp 26) 3, some (24, false)⟩,
    ⟨some 28, .binOp .geq 3 (.tmp 25) (.tmp 27) 3, some (24, false)⟩,
    ⟨some 29, .pick (.tmp 24) (.const (.bool true)) (.tmp 28), none⟩,
    ⟨some 30, .move (.tmp 29), none⟩,
    ⟨some 31, .move (.tmp 5), some (30, false)⟩,
    ⟨some 32, .move (.tmp 4), some (30, false)⟩,
    ⟨some 33, .binOp .shr 3 (.tmp 31) (.tmp 32) 3, some (30, false)⟩,
    ⟨some 34, .binOp .and 3 (.tmp 33) (.const (.int .i64 1)) 3, some (30, false)⟩,
    ⟨some 35, .binOp .eql 3 (.tmp 34) (.const (.int .i64 1)) 3, some (30, false)⟩,
    ⟨some 36, .pick (.tmp 30) (.const (.bool true)) (.tmp 35), none⟩]
@[reducible] def q56_8 : SCode := .region [⟨some 2, .assign (.const (.bool false)), none⟩]
@[reducible] def q56_9 : SCode := .region [⟨some 37, .move (.tmp 4), none⟩,
    ⟨some 38, .move (.const (.int .i64 0)), none⟩]
@[reducible] def q56_10 : SCode := .region [⟨some 39, .binOp .lss 3 (.tmp 38) (.tmp 37) 3, none⟩]
@[reducible] def q56_11 : SCode := .region [⟨some 40, .move (.tmp 38), none⟩,
    ⟨some 6, .assign (.tmp 40), none⟩]
def q56_12 : SCode := .draw [⟨some 41, .move (.tmp 5), none⟩,
    ⟨some 42, .move (.tmp 6), none⟩,
    ⟨some 43, .binOp .shr 3 (.tmp 41) (.tmp 42) 3, none⟩,
    ⟨some 44, .binOp .and 3 (.tmp 43) (.const (.int .i64 1)) 3, none⟩,
    ⟨some 45, .move (.tmp 0), none⟩,
    ⟨some 46, .move (.tmp 6), none⟩,
    ⟨some 47, .indexAddr 55 (.tmp 45) (.tmp 46), none⟩,
    ⟨some 48, .load 3 (.tmp 47), none⟩,
    ⟨some 49, .move (.tmp 4), none⟩,
    ⟨some 50, .binOp .shr 3 (.tmp 48) (.tmp 49) 3, none⟩,
    ⟨some 51, .binOp .and 3 (.tmp 50) (.const (.int .i64 1)) 3, none⟩,
    ⟨some 52, .binOp .eql 3 (.tmp 44) (.tmp 51) 3, none⟩]
   [[], [], [0, 1], [2], [], [], [4, 5], [6], [], [7, 8], [9], [3, 10]]
@[reducible] def q56_13 : SCode := .region [⟨some 2, .assign (.const (.bool false)), none⟩]
@[reducible] def q56_14 : SCode := .region [⟨some 53, .binOp .add 3 (.tmp 38) (.const (.int .i64 1)) 3, none⟩,
    ⟨some 38, .move (.tmp 53), none⟩]
def l56_0 : SCode := (.seq q56_10 (.seq (.cond (.tmp 39) .skip (.exit 2)) (.seq (.block 3 (.seq q56_11 (.seq q56_12 (.cond (.tmp 52) (.seq q56_13 .ret) .skip)))) q56_14)))
@[reducible] def q56_15 : SCode := .region [⟨some 54, .binOp .add 3 (.tmp 17) (.const (.int .i64 1)) 3, none⟩,
    ⟨some 17, .move (.tmp 54), none⟩]
def l56_1 : SCode := (.seq q56_5 (.seq (.cond (.tmp 18) .skip (.exit 0)) (.seq (.block 1 (.seq q56_6 (.seq (.seq q56_7 (.cond (.tmp 36) (.seq q56_8 .ret) .skip)) (.seq q56_9 (.block 2 (.loop l56_0)))))) q56_15)))
@[reducible] def q56_16 : SCode := .region [⟨some 2, .assign (.const (.bool true)), none⟩]
def s56 : SCode := (.seq q56_0 (.seq q56_1 (.seq (.seq q56_2 (.cond (.tmp 14) (.seq q56_3 .ret) .skip)) (.seq (.seq q56_4 (.block 0 (.loop l56_1))) (.seq q56_16 .ret)))))
theorem s56_strip : stripC (bodyOf Tryd.f56) = s56 := by kernel_rfl
theorem s56_ok : codeOK 55 (bodyOf Tryd.f56) = true := by kernel_rfl
theorem s56_call [Tabs Tryd.prog] {args : List Value} {h : Heap} {Q : Value → Heap → Prop} (hsz : args.length ≤ 55) (hk : aw Tryd.prog 55 s56 (aPost Tryd.prog [.tmp 2] Q) (argEnv 0 args) h) : ACall Tryd.prog 56 args h Q :=
  acall_s Tryd.func56 rfl (enters_of Tryd.func56 (by kernel_rfl) rfl) rfl rfl (by decide) s56_strip s56_ok hsz hk

/-! 57: (planchet ranks.tournament).walk -/
@[reducible] def q57_0 : SCode := .region [⟨some 3, .box 55 (.tmp 0), none⟩,
    ⟨some 4, .box 3 (.tmp 1), none⟩,
    ⟨some 5, .box 27 (.tmp 2), none⟩,
    ⟨some 6, .assign (.const (.slice none 0 0)), none⟩]
@[reducible] def q57_1 : SCode := .region [⟨some 7, .alloc 22, none⟩]
@[reducible] def q57_2 : SCode := .region [⟨some 8, .alloc 79, none⟩]
@[reducible] def q57_3 : SCode := .region [⟨some 9, .makeFunc (.func 92) #[] #[.tmp 7, .tmp 4, .tmp 5, .tmp 3, .tmp 8], none⟩,
    ⟨none, .store 79 (.tmp 8) (.tmp 9), none⟩]
def q57_4 : SCode := .draw [⟨some 10, .load 79 (.tmp 8), none⟩,
    ⟨some 11, .load 55 (.tmp 3), none⟩,
    ⟨some 12, .call { callee := .value (.func 63), args := #[.tmp 11], argTypes := #[55] }, none⟩,
    ⟨some 13, .call { callee := .value (.tmp 10), args := #[.tmp 12], argTypes := #[3] }, none⟩,
    ⟨some 14, .unOp .not 4 (.tmp 13), none⟩]
   [[], [], [1], [0, 2, 2], [3]]
@[reducible] def q57_5 : SCode := .region [⟨some 6, .assign (.const (.slice none 0 0)), none⟩]
@[reducible] def q57_6 : SCode := .region [⟨some 15, .load 22 (.tmp 7), none⟩,
    ⟨some 6, .assign (.tmp 15), none⟩]
def s57 : SCode := (.seq q57_0 (.seq q57_1 (.seq q57_2 (.seq q57_3 (.seq (.seq q57_4 (.cond (.tmp 14) (.seq q57_5 .ret) .skip)) (.seq q57_6 .ret))))))
theorem s57_strip : stripC (bodyOf Tryd.f57) = s57 := by kernel_rfl
theorem s57_ok : codeOK 16 (bodyOf Tryd.f57) = true := by kernel_rfl
theorem s57_call [Tabs Tryd.prog] {args : List Value} {h : Heap} {Q : Value → Heap → Prop} (hsz : args.length ≤ 16) (hk : aw Tryd.prog 16 s57 (aPost Tryd.prog [.tmp 6] Q) (argEnv 0 args) h) : ACall Tryd.prog 57 args h Q :=
  acall_s Tryd.func57 rfl (enters_of Tryd.func57 (by kernel_rfl) rfl) rfl rfl (by decide) s57_strip s57_ok hsz hk

/-! 58: planchet ranks.Way$1 -/
@[reducible] def q58_0 : SCode := .region [⟨some 2, .assign (.const (.bool false)), none⟩]
@[reducible] def q58_1 : SCode := .region [⟨some 2, .assign (.const (.bool true)), none⟩]
def s58 : SCode := (.seq q58_0 (.seq q58_1 .ret))
theorem s58_strip : stripC (bodyOf Tryd.f58) = s58 := by kernel_rfl
theorem s58_ok : codeOK 3 (bodyOf Tryd.f58) = true := by kernel_rfl
theorem s58_call [Tabs Tryd.prog] {args : List Value} {h : Heap} {Q : Value → Heap → Prop} (hsz : args.length ≤ 3) (hk : aw Tryd.prog 3 s58 (aPost Tryd.prog [.tmp 2] Q) (argEnv 0 args) h) : ACall Tryd.prog 58 args h Q :=
  acall_s Tryd.func58 rfl (enters_of Tryd.func58 (by kernel_rfl) rfl) rfl rfl (by decide) s58_strip s58_ok hsz hk

/-! 59: planchet ranks.Round$1 -/
@[reducible] def q59_0 : SCode := .region [⟨some 4, .assign (.const (.bool false)), none⟩]
def q59_1 : SCode := .draw [⟨some 5, .load 55 (.tmp 1), none⟩,
    ⟨some 6, .move (.tmp 0), none⟩,
    ⟨some 7, .load 3 (.tmp 2), none⟩,
    ⟨some 8, .binOp .sub 3 (.tmp 7) (.const (.int .i64 1)) 3, none⟩,
    ⟨some 9, .indexAddr 22 (.tmp 6) (.tmp 8), none⟩,
    ⟨some 10, .load 3 (.tmp 9), none⟩,
    ⟨some 11, .move (.tmp 0), none⟩,
    ⟨some 12, .indexAddr 22 (.tmp 11) (.const (.int .i64 0)), none⟩,
    ⟨some 13, .load 3 (.tmp 12), none⟩,
    ⟨some 14, .call { callee := .value (.func 60), args := #[.tmp 5, .tmp 10, .tmp 13], argTypes := #[55, 3, 3] }, none⟩,
    ⟨some 4, .assign (.tmp 14), none⟩]
   [[], [], [], [2], [1, 3], [4], [], [6], [7], [0, 5, 8], [9, 9, 0, 1, 2, 3, 4, 5, 6, 7, 8, 9]]
def s59 : SCode := (.seq q59_0 (.seq q59_1 .ret))
theorem s59_strip : stripC (bodyOf Tryd.f59) = s59 := by kernel_rfl
theorem s59_ok : codeOK 15 (bodyOf Tryd.f59) = true := by kernel_rfl
theorem s59_call [Tabs Tryd.prog] {args : List Value} {h : Heap} {Q : Value → Heap → Prop} (hsz : args.length ≤ 15) (hk : aw Tryd.prog 15 s59 (aPost Tryd.prog [.tmp 4] Q) (argEnv 0 args) h) : ACall Tryd.prog 59 args h Q :=
  acall_s Tryd.func59 rfl (enters_of Tryd.func59 (by kernel_rfl) rfl) rfl rfl (by decide) s59_strip s59_ok hsz hk

/-! 60: (planchet ranks.tournament).beats -/
@[reducible] def q60_0 : SCode := .region [⟨some 6, .assign (.const (.bool false)), none⟩]
@[reducible] def q60_1 : SCode := .region [⟨some 7, .move (.tmp 0), none⟩,
    ⟨some 8, .move (.tmp 1), none⟩,
    ⟨some 9, .indexAddr 55 (.tmp 7) (.tmp 8), none⟩,
    ⟨some 10, .load 3 (.tmp 9), none⟩,
    ⟨some 11, .move (.tmp 2), none⟩,
    ⟨some 12, .binOp .shr 3 (.tmp 10) (.tmp 11) 3, none⟩,
    ⟨some 13, .binOp .and 3 (.tmp 12) (.const (.int .i64 1)) 3, none⟩,
    ⟨some 14, .binOp .eql 3 (.tmp 13) (.const (.int .i64 1)) 3, none⟩,
    ⟨some 6, .assign (.tmp 14), none⟩]
def s60 : SCode := (.seq q60_0 (.seq q60_1 .ret))
theorem s60_strip : stripC (bodyOf Tryd.f60) = s60 := by kernel_rfl
theorem s60_ok : codeOK 15 (bodyOf Tryd.f60) = true := by kernel_rfl
theorem s60_call [Tabs Tryd.prog] {args : List Value} {h : Heap} {Q : Value → Heap → Prop} (hsz : args.length ≤ 15) (hk : aw Tryd.prog 15 s60 (aPost Tryd.prog [.tmp 6] Q) (argEnv 0 args) h) : ACall Tryd.prog 60 args h Q :=
  acall_s Tryd.func60 rfl (enters_of Tryd.func60 (by kernel_rfl) rfl) rfl rfl (by decide) s60_strip s60_ok hsz hk

/-! 61: planchet planchetref02.way -/
@[reducible] def q61_0 : SCode := .region [⟨some 10, .assign (.const (.slice none 0 0)), none⟩]
@[reducible] def q61_1 : SCode := .region [⟨some 14, .move (.tmp 2), none⟩,
    ⟨some 15, .call { callee := .builtin .len, args := #[.tmp 14], argTypes := #[22] }, none⟩,
    ⟨some 11, .assign (.tmp 15), none⟩]
@[reducible] def q61_2 : SCode := .region [⟨some 16, .move (.tmp 11), none⟩,
    ⟨some 17, .move (.tmp 1), none⟩,
    ⟨some 18, .binOp .eql 3 (.tmp 16) (.tmp 17) 3, none⟩]
def q61_3 : SCode := .draw [⟨some 19, .move (.tmp 4), none⟩,
    ⟨some 20, .move (.tmp 19), none⟩,
    ⟨some 21, .move (.tmp 0), some (20, true)⟩,
    ⟨some 22, .move (.tmp 2), some (20, true)⟩,
    ⟨some 23, .move (.tmp 1), some (20, true)⟩,
    ⟨some 24, .binOp .sub 3 (.tmp 23) (.const (.int .i64 1)) 3, some (20, true)⟩,
    ⟨some 25, .indexAddr 22 (.tmp 22) (.tmp 24), some (20, true)⟩,
    ⟨some 26, .load 3 (.tmp 25), some (20, true)⟩,
    ⟨some 27, .indexAddr 22 (.tmp 21) (.tmp 26), some (20, true)⟩,
    ⟨some 28, .load 3 (.tmp 27), some (20, true)⟩,
    ⟨some 29, .move (.tmp 2), some (20, true)⟩,
    ⟨some 30, .indexAddr 22 (.tmp 29) (.const (.int .i64 0)), some (20, true)⟩,
    ⟨some 31, .load 3 (.tmp 30), some (20, true)⟩,
    ⟨some 32, .binOp .shr 3 (.tmp 28) (.tmp 31) 3, some (20, true)⟩,
    ⟨some 33, .binOp .and 3 (.tmp 32) (.const (.int .i64 1)) 3, some (20, true)⟩,
    ⟨some 34, .binOp .eql 3 (.tmp 33) (.const (.int .i64 0)) 3, some (20, true)⟩,
    ⟨some 35, .pick (.tmp 20) (.tmp 34) (.const (.bool false)), none⟩]
   [[], [0], [1], [1], [1], [4, 1], [3, 5, 1], [6, 1], [2, 7, 1], [8, 1], [1], [10, 1], [11, 1], [9, 12, 1], [13, 1], [14, 1], [1, 15]]
@[reducible] def q61_4 : SCode := .region [⟨some 10, .assign (.const (.slice none 0 0)), none⟩]
@[reducible] def q61_5 : SCode := .region [⟨some 36, .move (.tmp 2), none⟩,
    ⟨some 10, .assign (.tmp 36), none⟩]
@[reducible] def q61_6 : SCode := .region [⟨some 37, .move (.tmp 0), none⟩,
    ⟨some 38, .call { callee := .builtin .len, args := #[.tmp 37], argTypes := #[22] }, none⟩,
    ⟨some 39, .move (.const (.int .i64 0)), none⟩]
@[reducible] def q61_7 : SCode := .region [⟨some 40, .binOp .lss 3 (.tmp 39) (.tmp 38) 3, none⟩]
@[reducible] def q61_8 : SCode := .region [⟨some 41, .move (.tmp 39), none⟩,
    ⟨some 12, .assign (.tmp 41), none⟩]
@[reducible] def q61_9 : SCode := .region [⟨some 42, .move (.tmp 3), none⟩,
    ⟨some 43, .move (.tmp 12), none⟩,
    ⟨some 44, .binOp .shr 3 (.tmp 42) (.tmp 43) 3, none⟩,
    ⟨some 45, .binOp .and 3 (.tmp 44) (.const (.int .i64 1)) 3, none⟩,
    ⟨some 46, .binOp .eql 3 (.tmp 45) (.const (.int .i64 1)) 3, none⟩,
    ⟨some 47, .move (.tmp 46), none⟩,
    ⟨some 48, .move (.tmp 11), some (47, false)⟩,
    ⟨some 49, .binOp .gtr 3 (.tmp 48) (.const (.int .i64 0)) 3, some (47, false)⟩,
    ⟨some 50, .move (.tmp 49), some (47, false)⟩,
    ⟨some 51, .move (.tmp 0), some (50, true)⟩,
    ⟨some 52, .move (.tmp 2), some (50, true)⟩,
    ⟨some 53, .move (.tmp 11), some (50, true)⟩,
    ⟨some 54, .binOp .sub 3 (.tmp 53) (.const (.int .i64 1)) 3, some (50, true)⟩,
    ⟨some 55, .indexAddr 22 (.tmp 52) (.tmp 54), some (50, true)⟩,
    ⟨some 56, .load 3 (.tmp 55), some (50, true)⟩,
    ⟨some 57, .indexAddr 22 (.tmp 51) (.tmp 56), some (50, true)⟩,
    ⟨some 58, .load 3 (.tmp 57), some (50, true)⟩,
    ⟨some 59, .move (.tmp 12), some (50, true)⟩,
    ⟨some 60, .binOp .shr 3 (.tmp 58) (.tmp 59) 3, some (50, true)⟩,
    ⟨some 61, .binOp .and 3 (.tmp 60) (.const (.int .i64 1)) 3, some (50, true)⟩,
    ⟨some 62, .binOp .eql 3 (.tmp 61) (.const (.int .i64 0)) 3, some (50, true)⟩,
    ⟨some 63, .pick (.tmp 50) (.tmp 62) (.const (.bool false)), some (47, false)⟩,
    ⟨some 64, .pick (.tmp 47) (.const (.bool true)) (.tmp 63), none⟩]
def q61_10 : SCode := .draw [⟨some 65, .move (.tmp 0), none⟩,
    ⟨some 66, .move (.tmp 1), none⟩,
    ⟨some 67, .move (.tmp 2), none⟩,
    ⟨some 68, .move (.tmp 11), none⟩,
    ⟨some 69, .move (.tmp 11), none⟩,
    ⟨some 70, .slice 22 (.tmp 67) none (some (.tmp 68)) (some (.tmp 69)), none⟩,
    ⟨some 71, .move (.tmp 12), none⟩,
    ⟨some 72, .buildSlice 22 1 #[(0, .tmp 71)], none⟩,
    ⟨some 73, .call { callee := .builtin .append, args := #[.tmp 70, .tmp 72], argTypes := #[22, 22] }, none⟩,
    ⟨some 74, .move (.tmp 3), none⟩,
    ⟨some 75, .move (.tmp 12), none⟩,
    ⟨some 76, .binOp .shl 3 (.const (.int .i64 1)) (.tmp 75) 3, none⟩,
    ⟨some 77, .binOp .or 3 (.tmp 74) (.tmp 76) 3, none⟩,
    ⟨some 78, .move (.tmp 4), none⟩,
    ⟨some 79, .call { callee := .value (.func 61), args := #[.tmp 65, .tmp 66, .tmp 73, .tmp 77, .tmp 78], argTypes := #[22, 3, 22, 3, 4] }, none⟩,
    ⟨some 13, .assign (.tmp 79), none⟩]
   [[], [], [], [], [], [2, 3, 4], [], [6], [5, 7], [], [], [10], [9, 11], [], [0, 1, 8, 12, 13, 8], [14, 14, 0, 1, 2, 3, 4, 5, 6, 7, 8, 9, 10, 11, 12, 13, 14]]
@[reducible] def q61_11 : SCode := .region [⟨some 80, .move (.tmp 13), none⟩,
    ⟨some 81, .binOp .neq 22 (.tmp 80) (.const (.slice none 0 0)) 22, none⟩]
@[reducible] def q61_12 : SCode := .region [⟨some 82, .move (.tmp 13), none⟩,
    ⟨some 10, .assign (.tmp 82), none⟩]
@[reducible] def q61_13 : SCode := .region [⟨some 83, .binOp .add 3 (.tmp 39) (.const (.int .i64 1)) 3, none⟩,
    ⟨some 39, .move (.tmp 83), none⟩]
def l61_0 : SCode := (.seq q61_7 (.seq (.cond (.tmp 40) .skip (.exit 0)) (.seq (.block 1 (.seq q61_8 (.seq (.seq q61_9 (.cond (.tmp 64) (.exit 1) .skip)) (.seq q61_10 (.seq q61_11 (.cond (.tmp 81) (.seq q61_12 .ret) .skip)))))) q61_13)))
@[reducible] def q61_14 : SCode := .region [⟨some 10, .assign (.const (.slice none 0 0)), none⟩]
def s61 : SCode := (.seq q61_0 (.seq q61_1 (.seq (.seq q61_2 (.cond (.tmp 18) (.seq (.seq q61_3 (.cond (.tmp 35) (.seq q61_4 .ret) .skip)) (.seq q61_5 .ret)) .skip)) (.seq (.seq q61_6 (.block 0 (.loop l61_0))) (.seq q61_14 .ret)))))
theorem s61_strip : stripC (bodyOf Tryd.f61) = s61 := by kernel_rfl
theorem s61_ok : codeOK 84 (bodyOf Tryd.f61) = true := by kernel_rfl
theorem s61_call [Tabs Tryd.prog] {args : List Value} {h : Heap} {Q : Value → Heap → Prop} (hsz : args.length ≤ 84) (hk : aw Tryd.prog 84 s61 (aPost Tryd.prog [.tmp 10] Q) (argEnv 0 args) h) : ACall Tryd.prog 61 args h Q :=
  acall_s Tryd.func61 rfl (enters_of Tryd.func61 (by kernel_rfl) rfl) rfl rfl (by decide) s61_strip s61_ok hsz hk

/-! 62: planchet ranks.players -/
@[reducible] def q62_0 : SCode := .region [⟨some 1, .box 3 (.tmp 0), none⟩,
    ⟨some 2, .assign (.const .nilFunc), none⟩]
@[reducible] def q62_1 : SCode := .region [⟨some 3, .makeFunc (.func 93) #[] #[.tmp 1], none⟩,
    ⟨some 2, .assign (.tmp 3), none⟩]
def s62 : SCode := (.seq q62_0 (.seq q62_1 .ret))
theorem s62_strip : stripC (bodyOf Tryd.f62) = s62 := by kernel_rfl
theorem s62_ok : codeOK 4 (bodyOf Tryd.f62) = true := by kernel_rfl
theorem s62_call [Tabs Tryd.prog] {args : List Value} {h : Heap} {Q : Value → Heap → Prop} (hsz : args.length ≤ 4) (hk : aw Tryd.prog 4 s62 (aPost Tryd.prog [.tmp 2] Q) (argEnv 0 args) h) : ACall Tryd.prog 62 args h Q :=
  acall_s Tryd.func62 rfl (enters_of Tryd.func62 (by kernel_rfl) rfl) rfl rfl (by decide) s62_strip s62_ok hsz hk

/-! 63: (planchet ranks.tournament).all -/
@[reducible] def q63_0 : SCode := .region [⟨some 2, .assign (.const (.int .i64 0)), none⟩]
@[reducible] def q63_1 : SCode := .region [⟨some 3, .move (.tmp 0), none⟩,
    ⟨some 4, .call { callee := .builtin .len, args := #[.tmp 3], argTypes := #[55] }, none⟩,
    ⟨some 5, .binOp .shl 3 (.const (.int .i64 1)) (.tmp 4) 3, none⟩,
    ⟨some 6, .binOp .sub 3 (.tmp 5) (.const (.int .i64 1)) 3, none⟩,
    ⟨some 2, .assign (.tmp 6), none⟩]
def s63 : SCode := (.seq q63_0 (.seq q63_1 .ret))
theorem s63_strip : stripC (bodyOf Tryd.f63) = s63 := by kernel_rfl
theorem s63_ok : codeOK 7 (bodyOf Tryd.f63) = true := by kernel_rfl
theorem s63_call [Tabs Tryd.prog] {args : List Value} {h : Heap} {Q : Value → Heap → Prop} (hsz : args.length ≤ 7) (hk : aw Tryd.prog 7 s63 (aPost Tryd.prog [.tmp 2] Q) (argEnv 0 args) h) : ACall Tryd.prog 63 args h Q :=
  acall_s Tryd.func63 rfl (enters_of Tryd.func63 (by kernel_rfl) rfl) rfl rfl (by decide) s63_strip s63_ok hsz hk

/-! 92: (planchet ranks.tournament).walk$1 -/
@[reducible] def q92_0 : SCode := .region [⟨some 6, .box 3 (.tmp 0), none⟩,
    ⟨some 7, .alloc 4, none⟩]
@[reducible] def q92_1 : SCode := .region [⟨some 9, .load 22 (.tmp 1), none⟩,
    ⟨some 10, .call { callee := .builtin .len, args := #[.tmp 9], argTypes := #[22] }, none⟩,
    ⟨some 11, .load 3 (.tmp 2), none⟩,
    ⟨some 12, .binOp .eql 3 (.tmp 10) (.tmp 11) 3, none⟩]
@[reducible] def q92_2 : SCode := .region [⟨some 13, .load 27 (.tmp 3), none⟩,
    ⟨some 14, .load 22 (.tmp 1), none⟩,
    ⟨some 15, .call { callee := .value (.tmp 13), args := #[.tmp 14], argTypes := #[22] }, none⟩,
    ⟨none, .store 4 (.tmp 7) (.tmp 15), none⟩]
@[reducible] def q92_3 : SCode := .region [⟨some 16, .load 3 (.tmp 6), none⟩,
    ⟨some 17, .call { callee := .value (.func 62), args := #[.tmp 16], argTypes := #[3] }, none⟩]
@[reducible] def q92_4 : SCode := .region [⟨some 8, .assign (.tmp 18), none⟩]
def q92_5 : SCode := .draw [⟨some 19, .load 22 (.tmp 1), none⟩,
    ⟨some 20, .call { callee := .builtin .len, args := #[.tmp 19], argTypes := #[22] }, none⟩,
    ⟨some 21, .binOp .gtr 3 (.tmp 20) (.const (.int .i64 0)) 3, none⟩,
    ⟨some 22, .move (.tmp 21), none⟩,
    ⟨some 23, .load 55 (.tmp 4), some (22, true)⟩,
    ⟨some 24, .load 22 (.tmp 1), some (22, true)⟩,
    ⟨some 25, .load 22 (.tmp 1), some (22, true)⟩,
    ⟨some 26, .call { callee := .builtin .len, args := #[.tmp 25], argTypes := #[22] }, some (22, true)⟩,
    ⟨some 27, .binOp .sub 3 (.tmp 26) (.const (.int .i64 1)) 3, some (22, true)⟩,
    ⟨some 28, .indexAddr 22 (.tmp 24) (.tmp 27), some (22, true)⟩,
    ⟨some 29, .load 3 (.tmp 28), some (22, true)⟩,
    ⟨some 30, .move (.tmp 8), some (22, true)⟩,
    ⟨some 31, .call { callee := .value (.func 60), args := #[.tmp 23, .tmp 29, .tmp 30], argTypes := #[55, 3, 3] }, some (22, true)⟩,
    ⟨some 32, .unOp .not 4 (.tmp 31), some (22, true)⟩,
    ⟨some 33, .pick (.tmp 22) (.tmp 32) (.const (.bool false)), none⟩]
   [[], [0], [1], [2], [3], [3], [3], [6, 3], [7, 3], [5, 8, 3], [9, 3], [3], [4, 10, 11, 3, 3], [12, 3], [3, 13]]
@[reducible] def q92_6 : SCode := .region [⟨some 34, .load 22 (.tmp 1), none⟩,
    ⟨some 35, .move (.tmp 8), none⟩,
    ⟨some 36, .buildSlice 22 1 #[(0, .tmp 35)], none⟩,
    ⟨some 37, .call { callee := .builtin .append, args := #[.tmp 34, .tmp 36], argTypes := #[22, 22] }, none⟩,
    ⟨none, .store 22 (.tmp 1) (.tmp 37), none⟩]
def q92_7 : SCode := .draw [⟨some 38, .load 79 (.tmp 5), none⟩,
    ⟨some 39, .load 3 (.tmp 6), none⟩,
    ⟨some 40, .move (.tmp 8), none⟩,
    ⟨some 41, .binOp .shl 3 (.const (.int .i64 1)) (.tmp 40) 3, none⟩,
    ⟨some 42, .binOp .andNot 3 (.tmp 39) (.tmp 41) 3, none⟩,
    ⟨some 43, .call { callee := .value (.tmp 38), args := #[.tmp 42], argTypes := #[3] }, none⟩]
   [[], [], [], [2], [1, 3], [0, 4]]
@[reducible] def q92_8 : SCode := .region [⟨none, .store 4 (.tmp 7) (.const (.bool true)), none⟩]
@[reducible] def q92_9 : SCode := .region [⟨some 44, .load 22 (.tmp 1), none⟩,
    ⟨some 45, .load 22 (.tmp 1), none⟩,
    ⟨some 46, .call { callee := .builtin .len, args := #[.tmp 45], argTypes := #[22] }, none⟩,
    ⟨some 47, .binOp .sub 3 (.tmp 46) (.const (.int .i64 1)) 3, none⟩,
    ⟨some 48, .slice 22 (.tmp 44) none (some (.tmp 47)) none, none⟩,
    ⟨none, .store 22 (.tmp 1) (.tmp 48), none⟩]
def r92_0_a : SCode := q92_4
def r92_0_b : SCode := (.block 1 (.seq (.seq q92_5 (.cond (.tmp 33) (.exit 1) .skip)) (.seq q92_6 (.seq (.seq q92_7 (.cond (.tmp 43) (.seq q92_8 .ret) .skip)) q92_9))))
@[reducible] def q92_10 : SCode := .region [⟨none, .store 4 (.tmp 7) (.const (.bool false)), none⟩]
def s92 : SCode := (.seq q92_0 (.seq (.seq q92_1 (.cond (.tmp 12) (.seq q92_2 .ret) .skip)) (.seq (.seq q92_3 (.block 0 (.range (.tmp 17) [18] r92_0_a r92_0_b))) (.seq q92_10 .ret))))
theorem s92_strip : stripC (bodyOf Tryd.f92) = s92 := by kernel_rfl
theorem s92_ok : codeOK 49 (bodyOf Tryd.f92) = true := by kernel_rfl
theorem s92_call [Tabs Tryd.prog] {args : List Value} {h : Heap} {Q : Value → Heap → Prop} (hsz : args.length ≤ 49) (hk : aw Tryd.prog 49 s92 (aPost Tryd.prog [.cell 7 4] Q) (argEnv 0 args) h) : ACall Tryd.prog 92 args h Q :=
  acall_s Tryd.func92 rfl (enters_of Tryd.func92 (by kernel_rfl) rfl) rfl rfl (by decide) s92_strip s92_ok hsz hk

end Go.Proofs.Tryd.Am

/- Printed by gen.py: the code of some functions, without what no step looks at; held against the program's own by the kernel. -/
import Derived.Test.YtnjacpfahhjpiaaDoorAmO
import Derived.Test.YtnjacpfahhjpiaaDoorProg
import Derived.KernelRfl
import Derived.Shelf.Abstract
set_option linter.all false
namespace Go.Proofs.Tryd.Am
open Go.Am
set_option maxRecDepth 100000
/-! 17: planchet order.Count -/
@[reducible] def q17_0 : SCode := .region [⟨some 2, .assign (.const (.int .i64 0)), none⟩,
    ⟨some 3, .assign (.const (.int .i64 0)), none⟩]
@[reducible] def q17_1 : SCode := .region [⟨some 7, .move (.tmp 0), none⟩,
    ⟨some 8, .call { callee := .value (.func 64), args := #[.tmp 7], argTypes := #[22] }, none⟩,
    ⟨some 6, .move (.tmp 8), none⟩,
    ⟨some 9, .extract (.tmp 6) 0, none⟩,
    ⟨some 10, .extract (.tmp 6) 1, none⟩,
    ⟨some 4, .alloc 77, none⟩,
    ⟨none, .store 77 (.tmp 4) (.tmp 9), none⟩,
    ⟨some 5, .assign (.tmp 10), none⟩]
@[reducible] def q17_2 : SCode := .region [⟨some 11, .move (.tmp 5), none⟩,
    ⟨some 12, .unOp .not 4 (.tmp 11), none⟩]
@[reducible] def q17_3 : SCode := .region [⟨some 2, .assign (.const (.int .i64 0)), none⟩,
    ⟨some 3, .assign (.const (.int .i64 2)), none⟩]
@[reducible] def q17_4 : SCode := .region [⟨some 13, .load 77 (.tmp 4), none⟩,
    ⟨some 14, .call { callee := .value (.func 65), args := #[.tmp 13], argTypes := #[77] }, none⟩,
    ⟨some 2, .assign (.tmp 14), none⟩,
    ⟨some 3, .assign (.const (.int .i64 0)), none⟩]
def s17 : SCode := (.seq q17_0 (.seq q17_1 (.seq (.seq q17_2 (.cond (.tmp 12) (.seq q17_3 .ret) .skip)) (.seq q17_4 .ret))))
theorem s17_strip : stripC (bodyOf Tryd.f17) = s17 := by kernel_rfl
theorem s17_ok : codeOK 15 (bodyOf Tryd.f17) = true := by kernel_rfl
theorem s17_call [Tabs Tryd.prog] {args : List Value} {h : Heap} {Q : Value → Heap → Prop} (hsz : args.length ≤ 15) (hk : aw Tryd.prog 15 s17 (aPost Tryd.prog [.tmp 2, .tmp 3] Q) (argEnv 0 args) h) : ACall Tryd.prog 17 args h Q :=
  acall_s Tryd.func17 rfl (enters_of Tryd.func17 (by kernel_rfl) rfl) rfl rfl (by decide) s17_strip s17_ok hsz hk

/-! 18: planchet planchetlaw07.list -/
@[reducible] def q18_0 : SCode := .region [⟨some 2, .assign (.const (.slice none 0 0)), none⟩]
@[reducible] def q18_1 : SCode := .region [⟨some 3, .move (.tmp 0), none⟩,
    ⟨some 4, .move (.tmp 0), none⟩,
    ⟨some 5, .call { callee := .builtin .len, args := #[.tmp 4], argTypes := #[22] }, none⟩,
    ⟨some 6, .call { callee := .builtin .min, args := #[.tmp 5, .const (.int .i64 9)], argTypes := #[3, 3] }, none⟩,
    ⟨some 7, .slice 22 (.tmp 3) none (some (.tmp 6)) none, none⟩,
    ⟨some 8, .call { callee := .value (.func 66), args := #[.tmp 7], argTypes := #[22] }, none⟩,
    ⟨some 2, .assign (.tmp 8), none⟩]
def s18 : SCode := (.seq q18_0 (.seq q18_1 .ret))
theorem s18_strip : stripC (bodyOf Tryd.f18) = s18 := by kernel_rfl
theorem s18_ok : codeOK 9 (bodyOf Tryd.f18) = true := by kernel_rfl
theorem s18_call [Tabs Tryd.prog] {args : List Value} {h : Heap} {Q : Value → Heap → Prop} (hsz : args.length ≤ 9) (hk : aw Tryd.prog 9 s18 (aPost Tryd.prog [.tmp 2] Q) (argEnv 0 args) h) : ACall Tryd.prog 18 args h Q :=
  acall_s Tryd.func18 rfl (enters_of Tryd.func18 (by kernel_rfl) rfl) rfl rfl (by decide) s18_strip s18_ok hsz hk

/-! 19: planchet planchetref07.Order -/
@[reducible] def q19_0 : SCode := .region [⟨some 2, .assign (.const (.bool false)), none⟩]
@[reducible] def q19_1 : SCode := .region [⟨some 6, .move (.tmp 0), none⟩,
    ⟨some 7, .call { callee := .builtin .len, args := #[.tmp 6], argTypes := #[22] }, none⟩,
    ⟨some 8, .binOp .lss 3 (.tmp 7) (.const (.int .i64 1)) 3, none⟩,
    ⟨some 9, .move (.tmp 8), none⟩,
    ⟨some 10, .move (.tmp 0), some (9, false)⟩,
    ⟨some 11, .call { callee := .builtin .len, args := #[.tmp 10], argTypes := #[22] }, some (9, false)⟩,
    ⟨some 12, .binOp .gtr 3 (.tmp 11) (.const (.int .i64 6)) 3, some (9, false)⟩,
    ⟨some 13, .pick (.tmp 9) (.const (.bool true)) (.tmp 12), none⟩]
@[reducible] def q19_2 : SCode := .region [⟨some 2, .assign (.const (.bool false)), none⟩]
@[reducible] def q19_3 : SCode := .region [⟨some 14, .move (.tmp 0), none⟩,
    ⟨some 15, .call { callee := .builtin .len, args := #[.tmp 14], argTypes := #[22] }, none⟩,
    ⟨some 16, .move (.const (.int .i64 0)), none⟩]
@[reducible] def q19_4 : SCode := .region [⟨some 17, .binOp .lss 3 (.tmp 16) (.tmp 15) 3, none⟩]
@[reducible] def q19_5 : SCode := .region [⟨some 18, .move (.tmp 16), none⟩,
    ⟨some 19, .indexAddr 22 (.tmp 14) (.tmp 16), none⟩,
    ⟨some 20, .load 3 (.tmp 19), none⟩,
    ⟨some 3, .assign (.tmp 18), none⟩,
    ⟨some 4, .assign (.tmp 20), none⟩]
@[reducible] def q19_6 : SCode := .region [⟨some 21, .move (.tmp 4), none⟩,
    ⟨some 22, .binOp .lss 3 (.tmp 21) (.const (.int .i64 0)) 3, none⟩,
    ⟨some 23, .move (.tmp 22), none⟩,
    ⟨some 24, .move (.tmp 4), some (23, false)⟩,
    ⟨some 25, .move (.tmp 0), some (23, false)⟩,
    ⟨some 26, .call { callee := .builtin .len, args := #[.tmp 25], argTypes := #[22] }, some (23, false)⟩,
    ⟨some 27, .binOp .shl 3 (.const (.int .i64 1)) (.tmp 26) 3, some (23, false)⟩,
    ⟨some 28, .binOp .geq 3 (.tmp 24) (.tmp 27) 3, some (23, false)⟩,
    ⟨some 29, .pick (.tmp 23) (.const (.bool true)) (.tmp 28), none⟩,
    ⟨some 30, .move (.tmp 29), none⟩,
    ⟨some 31, .move (.tmp 4), some (30, false)⟩,
    ⟨some 32, .move (.tmp 3), some (30, false)⟩,
    ⟨some 33, .binOp .shr 3 (.tmp 31) (.tmp 32) 3, some (30, false)⟩,
    ⟨some 34, .binOp .and 3 (.tmp 33) (.const (.int .i64 1)) 3, some (30, false)⟩,
    ⟨some 35, .binOp .eql 3 (.tmp 34) (.const (.int .i64 1)) 3, some (30, false)⟩,
    ⟨some 36, .pick (.tmp 30) (.const (.bool true)) (.tmp 35), none⟩]
@[reducible] def q19_7 : SCode := .region [⟨some 2, .assign (.const (.bool false)), none⟩]
@[reducible] def q19_8 : SCode := .region [⟨some 37, .move (.tmp 0), none⟩,
    ⟨some 38, .call { callee := .builtin .len, args := #[.tmp 37], argTypes := #[22] }, none⟩,
    ⟨some 39, .move (.const (.int .i64 0)), none⟩]
@[reducible] def q19_9 : SCode := .region [⟨some 40, .binOp .lss 3 (.tmp 39) (.tmp 38) 3, none⟩]
@[reducible] def q19_10 : SCode := .region [⟨some 41, .move (.tmp 39), none⟩,
    ⟨some 5, .assign (.tmp 41), none⟩]
@[reducible] def q19_11 : SCode := .region [⟨some 42, .move (.tmp 4), none⟩,
    ⟨some 43, .move (.tmp 5), none⟩,
    ⟨some 44, .binOp .shr 3 (.tmp 42) (.tmp 43) 3, none⟩,
    ⟨some 45, .binOp .and 3 (.tmp 44) (.const (.int .i64 1)) 3, none⟩,
    ⟨some 46, .binOp .eql 3 (.tmp 45) (.const (.int .i64 1)) 3, none⟩,
    ⟨some 47, .move (.tmp 46), none⟩,
    ⟨some 48, .move (.tmp 0), some (47, true)⟩,
    ⟨some 49, .move (.tmp 5), some (47, true)⟩,
    ⟨some 50, .indexAddr 22 (.tmp 48) (.tmp 49), some (47, true)⟩,
    ⟨some 51, .load 3 (.tmp 50), some (47, true)⟩,
    ⟨some 52, .move (.tmp 4), some (47, true)⟩,
    ⟨some 53, .binOp .andNot 3 (.tmp 51) (.tmp 52) 3, some (47, true)⟩,
    ⟨some 54, .binOp .neq 3 (.tmp 53) (.const (.int .i64 0)) 3, some (47, true)⟩,
    ⟨some 55, .pick (.tmp 47) (.tmp 54) (.const (.bool false)), none⟩]
@[reducible] def q19_12 : SCode := .region [⟨some 2, .assign (.const (.bool false)), none⟩]
@[reducible] def q19_13 : SCode := .region [⟨some 56, .binOp .add 3 (.tmp 39) (.const (.int .i64 1)) 3, none⟩,
    ⟨some 39, .move (.tmp 56), none⟩]
def l19_0 : SCode := (.seq q19_9 (.seq (.cond (.tmp 40) .skip (.exit 2)) (.seq (.block 3 (.seq q19_10 (.seq q19_11 (.cond (.tmp 55) (.seq q19_12 .ret) .skip)))) q19_13)))
@[reducible] def q19_14 : SCode := .region [⟨some 57, .binOp .add 3 (.tmp 16) (.const (.int .i64 1)) 3, none⟩,
    ⟨some 16, .move (.tmp 57), none⟩]
def l19_1 : SCode := (.seq q19_4 (.seq (.cond (.tmp 17) .skip (.exit 0)) (.seq (.block 1 (.seq q19_5 (.seq (.seq q19_6 (.cond (.tmp 36) (.seq q19_7 .ret) .skip)) (.seq q19_8 (.block 2 (.loop l19_0)))))) q19_14)))
@[reducible] def q19_15 : SCode := .region [⟨some 2, .assign (.const (.bool true)), none⟩]
def s19 : SCode := (.seq q19_0 (.seq (.seq q19_1 (.cond (.tmp 13) (.seq q19_2 .ret) .skip)) (.seq (.seq q19_3 (.block 0 (.loop l19_1))) (.seq q19_15 .ret))))
theorem s19_strip : stripC (bodyOf Tryd.f19) = s19 := by kernel_rfl
theorem s19_ok : codeOK 58 (bodyOf Tryd.f19) = true := by kernel_rfl
theorem s19_call [Tabs Tryd.prog] {args : List Value} {h : Heap} {Q : Value → Heap → Prop} (hsz : args.length ≤ 58) (hk : aw Tryd.prog 58 s19 (aPost Tryd.prog [.tmp 2] Q) (argEnv 0 args) h) : ACall Tryd.prog 19 args h Q :=
  acall_s Tryd.func19 rfl (enters_of Tryd.func19 (by kernel_rfl) rfl) rfl rfl (by decide) s19_strip s19_ok hsz hk

/-! 20: planchet planchetlaw07.awake -/
@[reducible] def q20_0 : SCode := .region [⟨some 0, .assign (.const (.bool false)), none⟩]
@[reducible] def q20_1 : SCode := .region [⟨some 4, .buildSlice 22 2 #[(0, .const (.int .i64 0)), (1, .const (.int .i64 0))], none⟩,
    ⟨some 5, .call { callee := .value (.func 17), args := #[.tmp 4], argTypes := #[22] }, none⟩,
    ⟨some 3, .move (.tmp 5), none⟩,
    ⟨some 6, .extract (.tmp 3) 0, none⟩,
    ⟨some 7, .extract (.tmp 3) 1, none⟩,
    ⟨some 1, .assign (.tmp 6), none⟩,
    ⟨some 2, .assign (.tmp 7), none⟩]
@[reducible] def q20_2 : SCode := .region [⟨some 8, .move (.tmp 1), none⟩,
    ⟨some 9, .binOp .eql 3 (.tmp 8) (.const (.int .i64 2)) 3, none⟩,
    ⟨some 10, .move (.tmp 9), none⟩,
    ⟨some 11, .move (.tmp 2), some (10, true)⟩,
    ⟨some 12, .binOp .eql 23 (.tmp 11) (.const (.int .i64 0)) 23, some (10, true)⟩,
    ⟨some 13, .pick (.tmp 10) (.tmp 12) (.const (.bool false)), none⟩,
    ⟨some 0, .assign (.tmp 13), none⟩]
def s20 : SCode := (.seq q20_0 (.seq q20_1 (.seq q20_2 .ret)))
theorem s20_strip : stripC (bodyOf Tryd.f20) = s20 := by kernel_rfl
theorem s20_ok : codeOK 14 (bodyOf Tryd.f20) = true := by kernel_rfl
theorem s20_call [Tabs Tryd.prog] {args : List Value} {h : Heap} {Q : Value → Heap → Prop} (hsz : args.length ≤ 14) (hk : aw Tryd.prog 14 s20 (aPost Tryd.prog [.tmp 0] Q) (argEnv 0 args) h) : ACall Tryd.prog 20 args h Q :=
  acall_s Tryd.func20 rfl (enters_of Tryd.func20 (by kernel_rfl) rfl) rfl rfl (by decide) s20_strip s20_ok hsz hk

/-! 21: planchet order.Add -/
@[reducible] def q21_0 : SCode := .region [⟨some 6, .assign (.const (.slice none 0 0)), none⟩,
    ⟨some 7, .assign (.const (.int .i64 0)), none⟩]
@[reducible] def q21_1 : SCode := .region [⟨some 11, .move (.tmp 0), none⟩,
    ⟨some 12, .call { callee := .value (.func 64), args := #[.tmp 11], argTypes := #[22] }, none⟩,
    ⟨some 10, .move (.tmp 12), none⟩,
    ⟨some 13, .extract (.tmp 10) 0, none⟩,
    ⟨some 14, .extract (.tmp 10) 1, none⟩,
    ⟨some 8, .alloc 77, none⟩,
    ⟨none, .store 77 (.tmp 8) (.tmp 13), none⟩,
    ⟨some 9, .assign (.tmp 14), none⟩]
@[reducible] def q21_2 : SCode := .region [⟨some 16, .move (.tmp 9), none⟩,
    ⟨some 17, .unOp .not 4 (.tmp 16), none⟩,
    ⟨some 18, .move (.tmp 17), none⟩,
    ⟨some 19, .load 77 (.tmp 8), some (18, false)⟩,
    ⟨some 20, .move (.tmp 1), some (18, false)⟩,
    ⟨some 21, .call { callee := .value (.func 67), args := #[.tmp 19, .tmp 20], argTypes := #[77, 3] }, some (18, false)⟩,
    ⟨some 22, .unOp .not 4 (.tmp 21), some (18, false)⟩,
    ⟨some 23, .pick (.tmp 18) (.const (.bool true)) (.tmp 22), none⟩,
    ⟨some 24, .move (.tmp 23), none⟩,
    ⟨some 25, .load 77 (.tmp 8), some (24, false)⟩,
    ⟨some 26, .move (.tmp 2), some (24, false)⟩,
    ⟨some 27, .call { callee := .value (.func 67), args := #[.tmp 25, .tmp 26], argTypes := #[77, 3] }, some (24, false)⟩,
    ⟨some 28, .unOp .not 4 (.tmp 27), some (24, false)⟩,
    ⟨some 29, .pick (.tmp 24) (.const (.bool true)) (.tmp 28), none⟩,
    ⟨some 15, .assign (.tmp 29), none⟩]
@[reducible] def q21_3 : SCode := .region [⟨some 6, .assign (.const (.slice none 0 0)), none⟩,
    ⟨some 7, .assign (.const (.int .i64 2)), none⟩]
@[reducible] def q21_4 : SCode := .region [⟨some 31, .load 77 (.tmp 8), none⟩,
    ⟨some 32, .move (.tmp 1), none⟩,
    ⟨some 33, .move (.tmp 2), none⟩,
    ⟨some 34, .call { callee := .value (.func 68), args := #[.tmp 31, .tmp 32, .tmp 33], argTypes := #[77, 3, 3] }, none⟩,
    ⟨some 35, .unOp .not 4 (.tmp 34), none⟩,
    ⟨some 30, .assign (.tmp 35), none⟩]
@[reducible] def q21_5 : SCode := .region [⟨some 6, .assign (.const (.slice none 0 0)), none⟩,
    ⟨some 7, .assign (.const (.int .i64 5)), none⟩]
@[reducible] def q21_6 : SCode := .region [⟨some 36, .load 77 (.tmp 8), none⟩,
    ⟨some 37, .move (.tmp 1), none⟩,
    ⟨some 38, .move (.tmp 2), none⟩,
    ⟨some 39, .call { callee := .value (.func 69), args := #[.tmp 36, .tmp 37, .tmp 38], argTypes := #[77, 3, 3] }, none⟩,
    ⟨some 40, .call { callee := .value (.func 70), args := #[.tmp 39], argTypes := #[77] }, none⟩,
    ⟨some 6, .assign (.tmp 40), none⟩,
    ⟨some 7, .assign (.const (.int .i64 0)), none⟩]
def s21 : SCode := (.seq q21_0 (.seq q21_1 (.seq (.block 0 (.seq q21_2 (.cond (.tmp 15) (.seq q21_3 .ret) (.seq q21_4 (.cond (.tmp 30) (.seq q21_5 .ret) .skip))))) (.seq q21_6 .ret))))
theorem s21_strip : stripC (bodyOf Tryd.f21) = s21 := by kernel_rfl
theorem s21_ok : codeOK 41 (bodyOf Tryd.f21) = true := by kernel_rfl
theorem s21_call [Tabs Tryd.prog] {args : List Value} {h : Heap} {Q : Value → Heap → Prop} (hsz : args.length ≤ 41) (hk : aw Tryd.prog 41 s21 (aPost Tryd.prog [.tmp 6, .tmp 7] Q) (argEnv 0 args) h) : ACall Tryd.prog 21 args h Q :=
  acall_s Tryd.func21 rfl (enters_of Tryd.func21 (by kernel_rfl) rfl) rfl rfl (by decide) s21_strip s21_ok hsz hk

/-! 22: planchet planchetref07.Free -/
@[reducible] def q22_0 : SCode := .region [⟨some 6, .assign (.const (.bool false)), none⟩]
@[reducible] def q22_1 : SCode := .region [⟨some 7, .move (.tmp 1), none⟩,
    ⟨some 8, .move (.tmp 2), none⟩,
    ⟨some 9, .binOp .neq 3 (.tmp 7) (.tmp 8) 3, none⟩,
    ⟨some 10, .move (.tmp 9), none⟩,
    ⟨some 11, .move (.tmp 0), some (10, true)⟩,
    ⟨some 12, .move (.tmp 1), some (10, true)⟩,
    ⟨some 13, .move (.tmp 2), some (10, true)⟩,
    ⟨some 14, .call { callee := .value (.func 71), args := #[.tmp 11, .tmp 12, .tmp 13], argTypes := #[22, 3, 3] }, some (10, true)⟩,
    ⟨some 15, .unOp .not 4 (.tmp 14), some (10, true)⟩,
    ⟨some 16, .pick (.tmp 10) (.tmp 15) (.const (.bool false)), none⟩,
    ⟨some 17, .move (.tmp 16), none⟩,
    ⟨some 18, .move (.tmp 0), some (17, true)⟩,
    ⟨some 19, .move (.tmp 2), some (17, true)⟩,
    ⟨some 20, .move (.tmp 1), some (17, true)⟩,
    ⟨some 21, .call { callee := .value (.func 71), args := #[.tmp 18, .tmp 19, .tmp 20], argTypes := #[22, 3, 3] }, some (17, true)⟩,
    ⟨some 22, .unOp .not 4 (.tmp 21), some (17, true)⟩,
    ⟨some 23, .pick (.tmp 17) (.tmp 22) (.const (.bool false)), none⟩,
    ⟨some 6, .assign (.tmp 23), none⟩]
def s22 : SCode := (.seq q22_0 (.seq q22_1 .ret))
theorem s22_strip : stripC (bodyOf Tryd.f22) = s22 := by kernel_rfl
theorem s22_ok : codeOK 24 (bodyOf Tryd.f22) = true := by kernel_rfl
theorem s22_call [Tabs Tryd.prog] {args : List Value} {h : Heap} {Q : Value → Heap → Prop} (hsz : args.length ≤ 24) (hk : aw Tryd.prog 24 s22 (aPost Tryd.prog [.tmp 6] Q) (argEnv 0 args) h) : ACall Tryd.prog 22 args h Q :=
  acall_s Tryd.func22 rfl (enters_of Tryd.func22 (by kernel_rfl) rfl) rfl rfl (by decide) s22_strip s22_ok hsz hk

/-! 64: planchet order.read -/
@[reducible] def q64_0 : SCode := .region [⟨some 1, .box 22 (.tmp 0), none⟩,
    ⟨some 2, .alloc 77, none⟩,
    ⟨some 3, .alloc 4, none⟩]
@[reducible] def q64_1 : SCode := .region [⟨some 8, .load 22 (.tmp 1), none⟩,
    ⟨some 9, .call { callee := .builtin .len, args := #[.tmp 8], argTypes := #[22] }, none⟩,
    ⟨some 10, .build 77 #[(0, .tmp 9)], none⟩,
    ⟨some 4, .alloc 77, none⟩,
    ⟨none, .store 77 (.tmp 4) (.tmp 10), none⟩]
@[reducible] def q64_2 : SCode := .region [⟨some 11, .load 22 (.tmp 1), none⟩,
    ⟨some 12, .call { callee := .builtin .len, args := #[.tmp 11], argTypes := #[22] }, none⟩,
    ⟨some 13, .binOp .lss 3 (.tmp 12) (.const (.int .i64 1)) 3, none⟩,
    ⟨some 14, .move (.tmp 13), none⟩,
    ⟨some 15, .load 22 (.tmp 1), some (14, false)⟩,
    ⟨some 16, .call { callee := .builtin .len, args := #[.tmp 15], argTypes := #[22] }, some (14, false)⟩,
    ⟨some 17, .binOp .gtr 3 (.tmp 16) (.const (.int .i64 6)) 3, some (14, false)⟩,
    ⟨some 18, .pick (.tmp 14) (.const (.bool true)) (.tmp 17), none⟩]
@[reducible] def q64_3 : SCode := .region [⟨some 19, .load 77 (.tmp 4), none⟩,
    ⟨none, .store 77 (.tmp 2) (.tmp 19), none⟩,
    ⟨none, .store 4 (.tmp 3) (.const (.bool false)), none⟩]
def q64_4 : SCode := .draw [⟨some 20, .fieldAddr 77 (.tmp 4) 1, none⟩,
    ⟨some 21, .slice 75 (.tmp 20) none none none, none⟩,
    ⟨some 22, .load 22 (.tmp 1), none⟩,
    ⟨some 23, .call { callee := .builtin .copy, args := #[.tmp 21, .tmp 22], argTypes := #[22, 22] }, none⟩]
   [[], [0], [], [1, 2]]
@[reducible] def q64_5 : SCode := .region [⟨some 24, .load 22 (.tmp 1), none⟩,
    ⟨some 25, .call { callee := .builtin .len, args := #[.tmp 24], argTypes := #[22] }, none⟩,
    ⟨some 26, .move (.const (.int .i64 0)), none⟩]
@[reducible] def q64_6 : SCode := .region [⟨some 27, .binOp .lss 3 (.tmp 26) (.tmp 25) 3, none⟩]
@[reducible] def q64_7 : SCode := .region [⟨some 28, .move (.tmp 26), none⟩,
    ⟨some 29, .indexAddr 22 (.tmp 24) (.tmp 26), none⟩,
    ⟨some 30, .load 3 (.tmp 29), none⟩,
    ⟨some 6, .alloc 3, none⟩,
    ⟨some 5, .assign (.tmp 28), none⟩,
    ⟨none, .store 3 (.tmp 6) (.tmp 30), none⟩]
def q64_8 : SCode := .draw [⟨some 31, .load 3 (.tmp 6), none⟩,
    ⟨some 32, .binOp .lss 3 (.tmp 31) (.const (.int .i64 0)) 3, none⟩,
    ⟨some 33, .move (.tmp 32), none⟩,
    ⟨some 34, .load 3 (.tmp 6), some (33, false)⟩,
    ⟨some 35, .load 22 (.tmp 1), some (33, false)⟩,
    ⟨some 36, .call { callee := .builtin .len, args := #[.tmp 35], argTypes := #[22] }, some (33, false)⟩,
    ⟨some 37, .binOp .shl 3 (.const (.int .i64 1)) (.tmp 36) 3, some (33, false)⟩,
    ⟨some 38, .binOp .geq 3 (.tmp 34) (.tmp 37) 3, some (33, false)⟩,
    ⟨some 39, .pick (.tmp 33) (.const (.bool true)) (.tmp 38), none⟩,
    ⟨some 40, .move (.tmp 39), none⟩,
    ⟨some 41, .load 3 (.tmp 6), some (40, false)⟩,
    ⟨some 42, .move (.tmp 5), some (40, false)⟩,
    ⟨some 43, .binOp .shr 3 (.tmp 41) (.tmp 42) 3, some (40, false)⟩,
    ⟨some 44, .binOp .and 3 (.tmp 43) (.const (.int .i64 1)) 3, some (40, false)⟩,
    ⟨some 45, .binOp .eql 3 (.tmp 44) (.const (.int .i64 1)) 3, some (40, false)⟩,
    ⟨some 46, .pick (.tmp 40) (.const (.bool true)) (.tmp 45), none⟩]
   [[], [0], [1], [2], [2], [4, 2], [5, 2], [3, 6, 2], [2, 7], [8, 2], [9], [9], [10, 11, 9], [12, 9], [13, 9], [9, 14]]
@[reducible] def q64_9 : SCode := .region [⟨some 47, .load 77 (.tmp 4), none⟩,
    ⟨none, .store 77 (.tmp 2) (.tmp 47), none⟩,
    ⟨none, .store 4 (.tmp 3) (.const (.bool false)), none⟩]
@[reducible] def q64_10 : SCode := .region [⟨some 48, .load 3 (.tmp 6), none⟩,
    ⟨some 49, .call { callee := .value (.func 101), args := #[.tmp 48], argTypes := #[3] }, none⟩]
@[reducible] def q64_11 : SCode := .region [⟨some 7, .assign (.tmp 50), none⟩]
def q64_12 : SCode := .draw [⟨some 51, .load 22 (.tmp 1), none⟩,
    ⟨some 52, .move (.tmp 7), none⟩,
    ⟨some 53, .indexAddr 22 (.tmp 51) (.tmp 52), none⟩,
    ⟨some 54, .load 3 (.tmp 53), none⟩,
    ⟨some 55, .load 3 (.tmp 6), none⟩,
    ⟨some 56, .binOp .andNot 3 (.tmp 54) (.tmp 55) 3, none⟩,
    ⟨some 57, .binOp .neq 3 (.tmp 56) (.const (.int .i64 0)) 3, none⟩]
   [[], [], [0, 1], [2], [], [3, 4], [5]]
@[reducible] def q64_13 : SCode := .region [⟨some 58, .load 77 (.tmp 4), none⟩,
    ⟨none, .store 77 (.tmp 2) (.tmp 58), none⟩,
    ⟨none, .store 4 (.tmp 3) (.const (.bool false)), none⟩]
def r64_0_a : SCode := q64_11
def r64_0_b : SCode := (.block 3 (.seq q64_12 (.cond (.tmp 57) (.seq q64_13 .ret) .skip)))
@[reducible] def q64_14 : SCode := .region [⟨some 59, .binOp .add 3 (.tmp 26) (.const (.int .i64 1)) 3, none⟩,
    ⟨some 26, .move (.tmp 59), none⟩]
def l64_1 : SCode := (.seq q64_6 (.seq (.cond (.tmp 27) .skip (.exit 0)) (.seq (.block 1 (.seq q64_7 (.seq (.seq q64_8 (.cond (.tmp 46) (.seq q64_9 .ret) .skip)) (.seq q64_10 (.block 2 (.range (.tmp 49) [50] r64_0_a r64_0_b)))))) q64_14)))
@[reducible] def q64_15 : SCode := .region [⟨some 60, .load 77 (.tmp 4), none⟩,
    ⟨none, .store 77 (.tmp 2) (.tmp 60), none⟩,
    ⟨none, .store 4 (.tmp 3) (.const (.bool true)), none⟩]
def s64 : SCode := (.seq q64_0 (.seq q64_1 (.seq (.seq q64_2 (.cond (.tmp 18) (.seq q64_3 .ret) .skip)) (.seq q64_4 (.seq (.seq q64_5 (.block 0 (.loop l64_1))) (.seq q64_15 .ret))))))
theorem s64_strip : stripC (bodyOf Tryd.f64) = s64 := by kernel_rfl
theorem s64_ok : codeOK 61 (bodyOf Tryd.f64) = true := by kernel_rfl
theorem s64_call [Tabs Tryd.prog] {args : List Value} {h : Heap} {Q : Value → Heap → Prop} (hsz : args.length ≤ 61) (hk : aw Tryd.prog 61 s64 (aPost Tryd.prog [.cell 2 77, .cell 3 4] Q) (argEnv 0 args) h) : ACall Tryd.prog 64 args h Q :=
  acall_s Tryd.func64 rfl (enters_of Tryd.func64 (by kernel_rfl) rfl) rfl rfl (by decide) s64_strip s64_ok hsz hk

/-! 65: (planchet order.order).counted -/
@[reducible] def q65_0 : SCode := .region [⟨some 1, .box 77 (.tmp 0), none⟩,
    ⟨some 2, .assign (.const (.int .i64 0)), none⟩]
@[reducible] def q65_1 : SCode := .region [⟨some 6, .load 77 (.tmp 1), none⟩,
    ⟨some 7, .call { callee := .value (.func 98), args := #[.tmp 6], argTypes := #[77] }, none⟩,
    ⟨some 8, .binOp .add 3 (.tmp 7) (.const (.int .i64 1)) 3, none⟩,
    ⟨some 9, .makeSlice 22 (.tmp 8) (.tmp 8), none⟩,
    ⟨some 3, .alloc 22, none⟩,
    ⟨none, .store 22 (.tmp 3) (.tmp 9), none⟩]
@[reducible] def q65_2 : SCode := .region [⟨some 10, .load 22 (.tmp 3), none⟩,
    ⟨some 11, .indexAddr 22 (.tmp 10) (.const (.int .i64 0)), none⟩,
    ⟨none, .store 3 (.tmp 11) (.const (.int .i64 1)), none⟩]
@[reducible] def q65_3 : SCode := .region [⟨some 4, .alloc 3, none⟩,
    ⟨none, .store 3 (.tmp 4) (.const (.int .i64 1)), none⟩]
def q65_4 : SCode := .draw [⟨some 12, .load 3 (.tmp 4), none⟩,
    ⟨some 13, .load 77 (.tmp 1), none⟩,
    ⟨some 14, .call { callee := .value (.func 98), args := #[.tmp 13], argTypes := #[77] }, none⟩,
    ⟨some 15, .binOp .leq 3 (.tmp 12) (.tmp 14) 3, none⟩]
   [[], [], [1], [0, 2]]
@[reducible] def q65_6 : SCode := .region [⟨some 18, .load 3 (.tmp 4), none⟩,
    ⟨some 19, .call { callee := .value (.func 101), args := #[.tmp 18], argTypes := #[3] }, none⟩]
@[reducible] def q65_7 : SCode := .region [⟨some 5, .assign (.tmp 20), none⟩]
def q65_8 : SCode := .draw [⟨some 21, .load 77 (.tmp 1), none⟩,
    ⟨some 22, .move (.tmp 5), none⟩,
    ⟨some 23, .call { callee := .value (.func 81), args := #[.tmp 21, .tmp 22], argTypes := #[77, 3] }, none⟩,
    ⟨some 24, .load 3 (.tmp 4), none⟩,
    ⟨some 25, .binOp .andNot 3 (.tmp 23) (.tmp 24) 3, none⟩,
    ⟨some 26, .binOp .eql 3 (.tmp 25) (.const (.int .i64 0)) 3, none⟩,
    ⟨some 27, .move (.tmp 26), none⟩,
    ⟨some 28, .move (.tmp 5), some (27, true)⟩,
    ⟨some 29, .fieldAddr 77 (.tmp 1) 1, some (27, true)⟩,
    ⟨some 30, .indexAddr 75 (.tmp 29) (.tmp 28), some (27, true)⟩,
    ⟨some 31, .load 3 (.tmp 30), some (27, true)⟩,
    ⟨some 32, .load 3 (.tmp 4), some (27, true)⟩,
    ⟨some 33, .binOp .and 3 (.tmp 31) (.tmp 32) 3, some (27, true)⟩,
    ⟨some 34, .binOp .eql 3 (.tmp 33) (.const (.int .i64 0)) 3, some (27, true)⟩,
    ⟨some 35, .pick (.tmp 27) (.tmp 34) (.const (.bool false)), none⟩]
   [[], [], [0, 1], [], [2, 3], [4], [5, 2], [6], [6], [8, 7, 6], [9, 6], [6], [10, 11, 6], [12, 6], [6, 13]]
def q65_9 : SCode := .draw [⟨some 36, .load 22 (.tmp 3), none⟩,
    ⟨some 37, .load 3 (.tmp 4), none⟩,
    ⟨some 38, .indexAddr 22 (.tmp 36) (.tmp 37), none⟩,
    ⟨some 39, .load 3 (.tmp 38), none⟩,
    ⟨some 40, .load 22 (.tmp 3), none⟩,
    ⟨some 41, .load 3 (.tmp 4), none⟩,
    ⟨some 42, .move (.tmp 5), none⟩,
    ⟨some 43, .binOp .shl 3 (.const (.int .i64 1)) (.tmp 42) 3, none⟩,
    ⟨some 44, .binOp .andNot 3 (.tmp 41) (.tmp 43) 3, none⟩,
    ⟨some 45, .indexAddr 22 (.tmp 40) (.tmp 44), none⟩,
    ⟨some 46, .load 3 (.tmp 45), none⟩,
    ⟨some 47, .binOp .add 3 (.tmp 39) (.tmp 46) 3, none⟩,
    ⟨some 48, .indexAddr 22 (.tmp 36) (.tmp 37), none⟩,
    ⟨none, .store 3 (.tmp 48) (.tmp 47), none⟩]
   [[], [], [0, 1], [2], [], [], [], [6], [5, 7], [4, 8], [9], [3, 10], [0, 1, 0, 1, 2, 3, 4, 5, 6, 7, 8, 9, 10, 11], [12, 11, 0, 1, 2, 3, 4, 5, 6, 7, 8, 9, 10, 11]]
def r65_0_a : SCode := q65_7
def r65_0_b : SCode := (.block 3 (.seq q65_8 (.cond (.tmp 35) q65_9 .skip)))
@[reducible] def q65_10 : SCode := .region [⟨some 49, .load 3 (.tmp 4), none⟩]
@[reducible] def q65_11 : SCode := .region [⟨some 4, .alloc 3, none⟩,
    ⟨none, .store 3 (.tmp 4) (.tmp 49), none⟩]
@[reducible] def q65_5 : SCode := .region [⟨some 16, .load 3 (.tmp 4), none⟩,
    ⟨some 17, .binOp .add 3 (.tmp 16) (.const (.int .i64 1)) 3, none⟩,
    ⟨none, .store 3 (.tmp 4) (.tmp 17), none⟩]
def l65_1 : SCode := (.seq (.seq q65_4 (.cond (.tmp 15) .skip (.exit 0))) (.seq (.block 1 (.seq q65_6 (.block 2 (.range (.tmp 19) [20] r65_0_a r65_0_b)))) (.seq (.seq q65_10 q65_11) q65_5)))
def q65_12 : SCode := .draw [⟨some 50, .load 22 (.tmp 3), none⟩,
    ⟨some 51, .load 77 (.tmp 1), none⟩,
    ⟨some 52, .call { callee := .value (.func 98), args := #[.tmp 51], argTypes := #[77] }, none⟩,
    ⟨some 53, .indexAddr 22 (.tmp 50) (.tmp 52), none⟩,
    ⟨some 54, .load 3 (.tmp 53), none⟩,
    ⟨some 2, .assign (.tmp 54), none⟩]
   [[], [], [1], [0, 2], [3], [4, 2, 0, 1, 2, 3, 4]]
def s65 : SCode := (.seq q65_0 (.seq q65_1 (.seq q65_2 (.seq (.seq q65_3 (.block 0 (.loop l65_1))) (.seq q65_12 .ret)))))
theorem s65_strip : stripC (bodyOf Tryd.f65) = s65 := by kernel_rfl
theorem s65_ok : codeOK 55 (bodyOf Tryd.f65) = true := by kernel_rfl
theorem s65_call [Tabs Tryd.prog] {args : List Value} {h : Heap} {Q : Value → Heap → Prop} (hsz : args.length ≤ 55) (hk : aw Tryd.prog 55 s65 (aPost Tryd.prog [.tmp 2] Q) (argEnv 0 args) h) : ACall Tryd.prog 65 args h Q :=
  acall_s Tryd.func65 rfl (enters_of Tryd.func65 (by kernel_rfl) rfl) rfl rfl (by decide) s65_strip s65_ok hsz hk

/-! 66: slices.Clone[[]int,int] -/
@[reducible] def q66_0 : SCode := .region [⟨some 2, .assign (.const (.slice none 0 0)), none⟩]
@[reducible] def q66_1 : SCode := .region [⟨some 3, .move (.tmp 0), none⟩,
    ⟨some 4, .binOp .eql 22 (.tmp 3) (.const (.slice none 0 0)) 22, none⟩]
@[reducible] def q66_2 : SCode := .region [⟨some 2, .assign (.const (.slice none 0 0)), none⟩]
@[reducible] def q66_3 : SCode := .region [⟨some 5, .buildSlice 22 0 #[], none⟩,
    ⟨some 6, .move (.tmp 0), none⟩,
    ⟨some 7, .call { callee := .builtin .append, args := #[.tmp 5, .tmp 6], argTypes := #[22, 22] }, none⟩,
    ⟨some 2, .assign (.tmp 7), none⟩]
def s66 : SCode := (.seq q66_0 (.seq (.seq q66_1 (.cond (.tmp 4) (.seq q66_2 .ret) .skip)) (.seq q66_3 .ret)))
theorem s66_strip : stripC (bodyOf Tryd.f66) = s66 := by kernel_rfl
theorem s66_ok : codeOK 8 (bodyOf Tryd.f66) = true := by kernel_rfl
theorem s66_call [Tabs Tryd.prog] {args : List Value} {h : Heap} {Q : Value → Heap → Prop} (hsz : args.length ≤ 8) (hk : aw Tryd.prog 8 s66 (aPost Tryd.prog [.tmp 2] Q) (argEnv 0 args) h) : ACall Tryd.prog 66 args h Q :=
  acall_s Tryd.func66 rfl (enters_of Tryd.func66 (by kernel_rfl) rfl) rfl rfl (by decide) s66_strip s66_ok hsz hk

/-! 67: (planchet order.order).element -/
@[reducible] def q67_0 : SCode := .region [⟨some 2, .box 77 (.tmp 0), none⟩,
    ⟨some 4, .assign (.const (.bool false)), none⟩]
@[reducible] def q67_1 : SCode := .region [⟨some 5, .move (.tmp 1), none⟩,
    ⟨some 6, .binOp .geq 3 (.tmp 5) (.const (.int .i64 0)) 3, none⟩,
    ⟨some 7, .move (.tmp 6), none⟩,
    ⟨some 8, .move (.tmp 1), some (7, true)⟩,
    ⟨some 9, .fieldAddr 77 (.tmp 2) 0, some (7, true)⟩,
    ⟨some 10, .load 3 (.tmp 9), some (7, true)⟩,
    ⟨some 11, .binOp .lss 3 (.tmp 8) (.tmp 10) 3, some (7, true)⟩,
    ⟨some 12, .pick (.tmp 7) (.tmp 11) (.const (.bool false)), none⟩,
    ⟨some 4, .assign (.tmp 12), none⟩]
def s67 : SCode := (.seq q67_0 (.seq q67_1 .ret))
theorem s67_strip : stripC (bodyOf Tryd.f67) = s67 := by kernel_rfl
theorem s67_ok : codeOK 13 (bodyOf Tryd.f67) = true := by kernel_rfl
theorem s67_call [Tabs Tryd.prog] {args : List Value} {h : Heap} {Q : Value → Heap → Prop} (hsz : args.length ≤ 13) (hk : aw Tryd.prog 13 s67 (aPost Tryd.prog [.tmp 4] Q) (argEnv 0 args) h) : ACall Tryd.prog 67 args h Q :=
  acall_s Tryd.func67 rfl (enters_of Tryd.func67 (by kernel_rfl) rfl) rfl rfl (by decide) s67_strip s67_ok hsz hk

/-! 68: (planchet order.order).free -/
@[reducible] def q68_0 : SCode := .region [⟨some 3, .box 77 (.tmp 0), none⟩,
    ⟨some 6, .assign (.const (.bool false)), none⟩]
@[reducible] def q68_1 : SCode := .region [⟨some 7, .move (.tmp 1), none⟩,
    ⟨some 8, .move (.tmp 2), none⟩,
    ⟨some 9, .binOp .neq 3 (.tmp 7) (.tmp 8) 3, none⟩,
    ⟨some 10, .move (.tmp 9), none⟩,
    ⟨some 11, .move (.tmp 1), some (10, true)⟩,
    ⟨some 12, .fieldAddr 77 (.tmp 3) 1, some (10, true)⟩,
    ⟨some 13, .indexAddr 75 (.tmp 12) (.tmp 11), some (10, true)⟩,
    ⟨some 14, .load 3 (.tmp 13), some (10, true)⟩,
    ⟨some 15, .move (.tmp 2), some (10, true)⟩,
    ⟨some 16, .binOp .shr 3 (.tmp 14) (.tmp 15) 3, some (10, true)⟩,
    ⟨some 17, .binOp .and 3 (.tmp 16) (.const (.int .i64 1)) 3, some (10, true)⟩,
    ⟨some 18, .binOp .eql 3 (.tmp 17) (.const (.int .i64 0)) 3, some (10, true)⟩,
    ⟨some 19, .pick (.tmp 10) (.tmp 18) (.const (.bool false)), none⟩,
    ⟨some 20, .move (.tmp 19), none⟩,
    ⟨some 21, .move (.tmp 2), some (20, true)⟩,
    ⟨some 22, .fieldAddr 77 (.tmp 3) 1, some (20, true)⟩,
    ⟨some 23, .indexAddr 75 (.tmp 22) (.tmp 21), some (20, true)⟩,
    ⟨some 24, .load 3 (.tmp 23), some (20, true)⟩,
    ⟨some 25, .move (.tmp 1), some (20, true)⟩,
    ⟨some 26, .binOp .shr 3 (.tmp 24) (.tmp 25) 3, some (20, true)⟩,
    ⟨some 27, .binOp .and 3 (.tmp 26) (.const (.int .i64 1)) 3, some (20, true)⟩,
    ⟨some 28, .binOp .eql 3 (.tmp 27) (.const (.int .i64 0)) 3, some (20, true)⟩,
    ⟨some 29, .pick (.tmp 20) (.tmp 28) (.const (.bool false)), none⟩,
    ⟨some 6, .assign (.tmp 29), none⟩]
def s68 : SCode := (.seq q68_0 (.seq q68_1 .ret))
theorem s68_strip : stripC (bodyOf Tryd.f68) = s68 := by kernel_rfl
theorem s68_ok : codeOK 30 (bodyOf Tryd.f68) = true := by kernel_rfl
theorem s68_call [Tabs Tryd.prog] {args : List Value} {h : Heap} {Q : Value → Heap → Prop} (hsz : args.length ≤ 30) (hk : aw Tryd.prog 30 s68 (aPost Tryd.prog [.tmp 6] Q) (argEnv 0 args) h) : ACall Tryd.prog 68 args h Q :=
  acall_s Tryd.func68 rfl (enters_of Tryd.func68 (by kernel_rfl) rfl) rfl rfl (by decide) s68_strip s68_ok hsz hk

/-! 69: (planchet order.order).add -/
@[reducible] def q69_0 : SCode := .region [⟨some 3, .box 77 (.tmp 0), none⟩,
    ⟨some 6, .alloc 77, none⟩]
def q69_1 : SCode := .draw [⟨some 9, .move (.tmp 2), none⟩,
    ⟨some 10, .fieldAddr 77 (.tmp 3) 1, none⟩,
    ⟨some 11, .indexAddr 75 (.tmp 10) (.tmp 9), none⟩,
    ⟨some 12, .load 3 (.tmp 11), none⟩,
    ⟨some 13, .move (.tmp 2), none⟩,
    ⟨some 14, .binOp .shl 3 (.const (.int .i64 1)) (.tmp 13) 3, none⟩,
    ⟨some 15, .binOp .or 3 (.tmp 12) (.tmp 14) 3, none⟩,
    ⟨some 7, .alloc 3, none⟩,
    ⟨none, .store 3 (.tmp 7) (.tmp 15), none⟩]
   [[], [], [1, 0], [2], [], [4], [3, 5], [], [7, 6, 0, 1, 2, 3, 4, 5, 6, 7]]
def q69_2 : SCode := .draw [⟨some 16, .load 77 (.tmp 3), none⟩,
    ⟨some 17, .move (.tmp 1), none⟩,
    ⟨some 18, .call { callee := .value (.func 81), args := #[.tmp 16, .tmp 17], argTypes := #[77, 3] }, none⟩,
    ⟨some 19, .move (.tmp 1), none⟩,
    ⟨some 20, .binOp .shl 3 (.const (.int .i64 1)) (.tmp 19) 3, none⟩,
    ⟨some 21, .binOp .or 3 (.tmp 18) (.tmp 20) 3, none⟩,
    ⟨some 22, .call { callee := .value (.func 101), args := #[.tmp 21], argTypes := #[3] }, none⟩]
   [[], [], [0, 1], [], [3], [2, 4], [5, 2]]
@[reducible] def q69_3 : SCode := .region [⟨some 8, .assign (.tmp 23), none⟩]
def q69_4 : SCode := .draw [⟨some 24, .move (.tmp 8), none⟩,
    ⟨some 25, .fieldAddr 77 (.tmp 3) 1, none⟩,
    ⟨some 26, .indexAddr 75 (.tmp 25) (.tmp 24), none⟩,
    ⟨some 27, .load 3 (.tmp 26), none⟩,
    ⟨some 28, .load 3 (.tmp 7), none⟩,
    ⟨some 29, .binOp .or 3 (.tmp 27) (.tmp 28) 3, none⟩,
    ⟨some 30, .fieldAddr 77 (.tmp 3) 1, none⟩,
    ⟨some 31, .indexAddr 75 (.tmp 30) (.tmp 24), none⟩,
    ⟨none, .store 3 (.tmp 31) (.tmp 29), none⟩]
   [[], [], [1, 0], [2], [], [3, 4], [], [6, 0, 0, 1, 2, 3, 4, 5], [7, 5, 0, 1, 2, 3, 4, 5]]
def r69_0_a : SCode := q69_3
def r69_0_b : SCode := (.block 1 q69_4)
@[reducible] def q69_5 : SCode := .region [⟨some 32, .load 77 (.tmp 3), none⟩,
    ⟨none, .store 77 (.tmp 6) (.tmp 32), none⟩]
def s69 : SCode := (.seq q69_0 (.seq q69_1 (.seq (.seq q69_2 (.block 0 (.range (.tmp 22) [23] r69_0_a r69_0_b))) (.seq q69_5 .ret))))
theorem s69_strip : stripC (bodyOf Tryd.f69) = s69 := by kernel_rfl
theorem s69_ok : codeOK 33 (bodyOf Tryd.f69) = true := by kernel_rfl
theorem s69_call [Tabs Tryd.prog] {args : List Value} {h : Heap} {Q : Value → Heap → Prop} (hsz : args.length ≤ 33) (hk : aw Tryd.prog 33 s69 (aPost Tryd.prog [.cell 6 77] Q) (argEnv 0 args) h) : ACall Tryd.prog 69 args h Q :=
  acall_s Tryd.func69 rfl (enters_of Tryd.func69 (by kernel_rfl) rfl) rfl rfl (by decide) s69_strip s69_ok hsz hk

/-! 70: (planchet order.order).slice -/
@[reducible] def q70_0 : SCode := .region [⟨some 1, .box 77 (.tmp 0), none⟩,
    ⟨some 2, .assign (.const (.slice none 0 0)), none⟩]
@[reducible] def q70_1 : SCode := .region [⟨some 3, .fieldAddr 77 (.tmp 1) 1, none⟩,
    ⟨some 4, .fieldAddr 77 (.tmp 1) 0, none⟩,
    ⟨some 5, .load 3 (.tmp 4), none⟩,
    ⟨some 6, .slice 75 (.tmp 3) none (some (.tmp 5)) none, none⟩,
    ⟨some 7, .call { callee := .value (.func 66), args := #[.tmp 6], argTypes := #[22] }, none⟩,
    ⟨some 2, .assign (.tmp 7), none⟩]
def s70 : SCode := (.seq q70_0 (.seq q70_1 .ret))
theorem s70_strip : stripC (bodyOf Tryd.f70) = s70 := by kernel_rfl
theorem s70_ok : codeOK 8 (bodyOf Tryd.f70) = true := by kernel_rfl
theorem s70_call [Tabs Tryd.prog] {args : List Value} {h : Heap} {Q : Value → Heap → Prop} (hsz : args.length ≤ 8) (hk : aw Tryd.prog 8 s70 (aPost Tryd.prog [.tmp 2] Q) (argEnv 0 args) h) : ACall Tryd.prog 70 args h Q :=
  acall_s Tryd.func70 rfl (enters_of Tryd.func70 (by kernel_rfl) rfl) rfl rfl (by decide) s70_strip s70_ok hsz hk

/-! 71: planchet planchetref07.above -/
@[reducible] def q71_0 : SCode := .region [⟨some 6, .assign (.const (.bool false)), none⟩]
@[reducible] def q71_1 : SCode := .region [⟨some 7, .move (.tmp 0), none⟩,
    ⟨some 8, .move (.tmp 1), none⟩,
    ⟨some 9, .indexAddr 22 (.tmp 7) (.tmp 8), none⟩,
    ⟨some 10, .load 3 (.tmp 9), none⟩,
    ⟨some 11, .move (.tmp 2), none⟩,
    ⟨some 12, .binOp .shr 3 (.tmp 10) (.tmp 11) 3, none⟩,
    ⟨some 13, .binOp .and 3 (.tmp 12) (.const (.int .i64 1)) 3, none⟩,
    ⟨some 14, .binOp .eql 3 (.tmp 13) (.const (.int .i64 1)) 3, none⟩,
    ⟨some 6, .assign (.tmp 14), none⟩]
def s71 : SCode := (.seq q71_0 (.seq q71_1 .ret))
theorem s71_strip : stripC (bodyOf Tryd.f71) = s71 := by kernel_rfl
theorem s71_ok : codeOK 15 (bodyOf Tryd.f71) = true := by kernel_rfl
theorem s71_call [Tabs Tryd.prog] {args : List Value} {h : Heap} {Q : Value → Heap → Prop} (hsz : args.length ≤ 15) (hk : aw Tryd.prog 15 s71 (aPost Tryd.prog [.tmp 6] Q) (argEnv 0 args) h) : ACall Tryd.prog 71 args h Q :=
  acall_s Tryd.func71 rfl (enters_of Tryd.func71 (by kernel_rfl) rfl) rfl rfl (by decide) s71_strip s71_ok hsz hk

/-! 81: (planchet order.order).below -/
@[reducible] def q81_0 : SCode := .region [⟨some 2, .box 77 (.tmp 0), none⟩,
    ⟨some 4, .assign (.const (.int .i64 0)), none⟩]
@[reducible] def q81_1 : SCode := .region [⟨some 5, .assign (.const (.int .i64 0)), none⟩]
@[reducible] def q81_2 : SCode := .region [⟨some 7, .fieldAddr 77 (.tmp 2) 0, none⟩,
    ⟨some 8, .load 3 (.tmp 7), none⟩,
    ⟨some 9, .move (.const (.int .i64 0)), none⟩]
@[reducible] def q81_3 : SCode := .region [⟨some 10, .binOp .lss 3 (.tmp 9) (.tmp 8) 3, none⟩]
@[reducible] def q81_4 : SCode := .region [⟨some 11, .move (.tmp 9), none⟩,
    ⟨some 6, .assign (.tmp 11), none⟩]
@[reducible] def q81_5 : SCode := .region [⟨some 12, .move (.tmp 5), none⟩,
    ⟨some 13, .move (.tmp 6), none⟩,
    ⟨some 14, .fieldAddr 77 (.tmp 2) 1, none⟩,
    ⟨some 15, .indexAddr 75 (.tmp 14) (.tmp 13), none⟩,
    ⟨some 16, .load 3 (.tmp 15), none⟩,
    ⟨some 17, .move (.tmp 1), none⟩,
    ⟨some 18, .binOp .shr 3 (.tmp 16) (.tmp 17) 3, none⟩,
    ⟨some 19, .binOp .and 3 (.tmp 18) (.const (.int .i64 1)) 3, none⟩,
    ⟨some 20, .move (.tmp 6), none⟩,
    ⟨some 21, .binOp .shl 3 (.tmp 19) (.tmp 20) 3, none⟩,
    ⟨some 22, .binOp .or 3 (.tmp 12) (.tmp 21) 3, none⟩,
    ⟨some 5, .assign (.tmp 22), none⟩]
@[reducible] def q81_6 : SCode := .region [⟨some 23, .binOp .add 3 (.tmp 9) (.const (.int .i64 1)) 3, none⟩,
    ⟨some 9, .move (.tmp 23), none⟩]
def l81_0 : SCode := (.seq q81_3 (.seq (.cond (.tmp 10) .skip (.exit 0)) (.seq (.block 1 (.seq q81_4 q81_5)) q81_6)))
@[reducible] def q81_7 : SCode := .region [⟨some 24, .move (.tmp 5), none⟩,
    ⟨some 4, .assign (.tmp 24), none⟩]
def s81 : SCode := (.seq q81_0 (.seq q81_1 (.seq (.seq q81_2 (.block 0 (.loop l81_0))) (.seq q81_7 .ret))))
theorem s81_strip : stripC (bodyOf Tryd.f81) = s81 := by kernel_rfl
theorem s81_ok : codeOK 25 (bodyOf Tryd.f81) = true := by kernel_rfl
theorem s81_call [Tabs Tryd.prog] {args : List Value} {h : Heap} {Q : Value → Heap → Prop} (hsz : args.length ≤ 25) (hk : aw Tryd.prog 25 s81 (aPost Tryd.prog [.tmp 4] Q) (argEnv 0 args) h) : ACall Tryd.prog 81 args h Q :=
  acall_s Tryd.func81 rfl (enters_of Tryd.func81 (by kernel_rfl) rfl) rfl rfl (by decide) s81_strip s81_ok hsz hk

/-! 98: (planchet order.order).all -/
@[reducible] def q98_0 : SCode := .region [⟨some 1, .box 77 (.tmp 0), none⟩,
    ⟨some 2, .assign (.const (.int .i64 0)), none⟩]
@[reducible] def q98_1 : SCode := .region [⟨some 3, .fieldAddr 77 (.tmp 1) 0, none⟩,
    ⟨some 4, .load 3 (.tmp 3), none⟩,
    ⟨some 5, .binOp .shl 3 (.const (.int .i64 1)) (.tmp 4) 3, none⟩,
    ⟨some 6, .binOp .sub 3 (.tmp 5) (.const (.int .i64 1)) 3, none⟩,
    ⟨some 2, .assign (.tmp 6), none⟩]
def s98 : SCode := (.seq q98_0 (.seq q98_1 .ret))
theorem s98_strip : stripC (bodyOf Tryd.f98) = s98 := by kernel_rfl
theorem s98_ok : codeOK 7 (bodyOf Tryd.f98) = true := by kernel_rfl
theorem s98_call [Tabs Tryd.prog] {args : List Value} {h : Heap} {Q : Value → Heap → Prop} (hsz : args.length ≤ 7) (hk : aw Tryd.prog 7 s98 (aPost Tryd.prog [.tmp 2] Q) (argEnv 0 args) h) : ACall Tryd.prog 98 args h Q :=
  acall_s Tryd.func98 rfl (enters_of Tryd.func98 (by kernel_rfl) rfl) rfl rfl (by decide) s98_strip s98_ok hsz hk

/-! 101: planchet order.elements -/
@[reducible] def q101_0 : SCode := .region [⟨some 1, .box 3 (.tmp 0), none⟩,
    ⟨some 2, .assign (.const .nilFunc), none⟩]
@[reducible] def q101_1 : SCode := .region [⟨some 3, .makeFunc (.func 114) #[] #[.tmp 1], none⟩,
    ⟨some 2, .assign (.tmp 3), none⟩]
def s101 : SCode := (.seq q101_0 (.seq q101_1 .ret))
theorem s101_strip : stripC (bodyOf Tryd.f101) = s101 := by kernel_rfl
theorem s101_ok : codeOK 4 (bodyOf Tryd.f101) = true := by kernel_rfl
theorem s101_call [Tabs Tryd.prog] {args : List Value} {h : Heap} {Q : Value → Heap → Prop} (hsz : args.length ≤ 4) (hk : aw Tryd.prog 4 s101 (aPost Tryd.prog [.tmp 2] Q) (argEnv 0 args) h) : ACall Tryd.prog 101 args h Q :=
  acall_s Tryd.func101 rfl (enters_of Tryd.func101 (by kernel_rfl) rfl) rfl rfl (by decide) s101_strip s101_ok hsz hk

end Go.Proofs.Tryd.Am

/- Printed by gen.py: the code of some functions, without what no step looks at; held against the program's own by the kernel. -/
import Derived.Test.YtaagkbbphgdcdaaDoorAmO
import Derived.Test.YtaagkbbphgdcdaaDoorProg
import Derived.KernelRfl
import Derived.Shelf.Abstract
set_option linter.all false
namespace Go.Proofs.Tryd.Am
open Go.Am
set_option maxRecDepth 100000
/-! 17: planchet sure.Codes -/
@[reducible] def q17_0 : SCode := .region [⟨some 6, .assign (.const (.bool false)), none⟩,
    ⟨some 7, .assign (.const (.int .i64 0)), none⟩]
@[reducible] def q17_1 : SCode := .region [⟨some 14, .move (.tmp 0), none⟩,
    ⟨some 15, .call { callee := .value (.func 51), args := #[.tmp 14], argTypes := #[56] }, none⟩,
    ⟨some 16, .unOp .not 4 (.tmp 15), none⟩,
    ⟨some 17, .move (.tmp 16), none⟩,
    ⟨some 18, .move (.tmp 1), some (17, false)⟩,
    ⟨some 19, .binOp .lss 3 (.tmp 18) (.const (.int .i64 1)) 3, some (17, false)⟩,
    ⟨some 20, .pick (.tmp 17) (.const (.bool true)) (.tmp 19), none⟩,
    ⟨some 21, .move (.tmp 20), none⟩,
    ⟨some 22, .move (.tmp 1), some (21, false)⟩,
    ⟨some 23, .binOp .gtr 3 (.tmp 22) (.const (.int .i64 3)) 3, some (21, false)⟩,
    ⟨some 24, .pick (.tmp 21) (.const (.bool true)) (.tmp 23), none⟩]
@[reducible] def q17_2 : SCode := .region [⟨some 6, .assign (.const (.bool false)), none⟩,
    ⟨some 7, .assign (.const (.int .i64 2)), none⟩]
@[reducible] def q17_3 : SCode := .region [⟨some 26, .move (.tmp 0), none⟩,
    ⟨some 27, .move (.tmp 1), none⟩,
    ⟨some 28, .call { callee := .value (.func 52), args := #[.tmp 26, .tmp 27], argTypes := #[56, 3] }, none⟩,
    ⟨some 25, .move (.tmp 28), none⟩,
    ⟨some 29, .extract (.tmp 25) 0, none⟩,
    ⟨some 30, .extract (.tmp 25) 1, none⟩,
    ⟨some 8, .assign (.tmp 29), none⟩,
    ⟨some 9, .assign (.tmp 30), none⟩]
@[reducible] def q17_4 : SCode := .region [⟨some 31, .move (.tmp 9), none⟩,
    ⟨some 32, .unOp .not 4 (.tmp 31), none⟩]
@[reducible] def q17_5 : SCode := .region [⟨some 6, .assign (.const (.bool false)), none⟩,
    ⟨some 7, .assign (.const (.int .i64 6)), none⟩]
@[reducible] def q17_6 : SCode := .region [⟨some 33, .move (.tmp 2), none⟩,
    ⟨some 34, .call { callee := .builtin .len, args := #[.tmp 33], argTypes := #[22] }, none⟩,
    ⟨some 35, .move (.const (.int .i64 0)), none⟩]
@[reducible] def q17_7 : SCode := .region [⟨some 36, .binOp .lss 3 (.tmp 35) (.tmp 34) 3, none⟩]
@[reducible] def q17_8 : SCode := .region [⟨some 37, .move (.tmp 35), none⟩,
    ⟨some 38, .indexAddr 22 (.tmp 33) (.tmp 35), none⟩,
    ⟨some 39, .load 3 (.tmp 38), none⟩,
    ⟨some 10, .assign (.tmp 37), none⟩,
    ⟨some 11, .assign (.tmp 39), none⟩]
@[reducible] def q17_9 : SCode := .region [⟨some 40, .move (.tmp 11), none⟩,
    ⟨some 41, .binOp .lss 3 (.tmp 40) (.const (.int .i64 0)) 3, none⟩,
    ⟨some 42, .move (.tmp 41), none⟩,
    ⟨some 43, .move (.tmp 11), some (42, false)⟩,
    ⟨some 44, .move (.tmp 8), some (42, false)⟩,
    ⟨some 45, .nilCheck (.tmp 44), some (42, false)⟩,
    ⟨some 46, .fieldAddr 62 (.tmp 45) 0, some (42, false)⟩,
    ⟨some 47, .load 3 (.tmp 46), some (42, false)⟩,
    ⟨some 48, .binOp .geq 3 (.tmp 43) (.tmp 47) 3, some (42, false)⟩,
    ⟨some 49, .pick (.tmp 42) (.const (.bool true)) (.tmp 48), none⟩,
    ⟨some 50, .move (.tmp 49), none⟩,
    ⟨some 51, .move (.tmp 10), some (50, false)⟩,
    ⟨some 52, .binOp .gtr 3 (.tmp 51) (.const (.int .i64 0)) 3, some (50, false)⟩,
    ⟨some 53, .move (.tmp 52), some (50, false)⟩,
    ⟨some 54, .move (.tmp 2), some (53, true)⟩,
    ⟨some 55, .move (.tmp 10), some (53, true)⟩,
    ⟨some 56, .binOp .sub 3 (.tmp 55) (.const (.int .i64 1)) 3, some (53, true)⟩,
    ⟨some 57, .indexAddr 22 (.tmp 54) (.tmp 56), some (53, true)⟩,
    ⟨some 58, .load 3 (.tmp 57), some (53, true)⟩,
    ⟨some 59, .move (.tmp 11), some (53, true)⟩,
    ⟨some 60, .binOp .geq 3 (.tmp 58) (.tmp 59) 3, some (53, true)⟩,
    ⟨some 61, .pick (.tmp 53) (.tmp 60) (.const (.bool false)), some (50, false)⟩,
    ⟨some 62, .pick (.tmp 50) (.const (.bool true)) (.tmp 61), none⟩]
@[reducible] def q17_10 : SCode := .region [⟨some 6, .assign (.const (.bool false)), none⟩,
    ⟨some 7, .assign (.const (.int .i64 0)), none⟩]
@[reducible] def q17_11 : SCode := .region [⟨some 63, .move (.tmp 2), none⟩,
    ⟨some 64, .move (.tmp 10), none⟩,
    ⟨some 65, .slice 22 (.tmp 63) none (some (.tmp 64)) none, none⟩,
    ⟨some 66, .call { callee := .builtin .len, args := #[.tmp 65], argTypes := #[22] }, none⟩,
    ⟨some 67, .move (.const (.int .i64 0)), none⟩]
@[reducible] def q17_12 : SCode := .region [⟨some 68, .binOp .lss 3 (.tmp 67) (.tmp 66) 3, none⟩]
@[reducible] def q17_13 : SCode := .region [⟨some 69, .indexAddr 22 (.tmp 65) (.tmp 67), none⟩,
    ⟨some 70, .load 3 (.tmp 69), none⟩,
    ⟨some 13, .assign (.tmp 70), none⟩]
@[reducible] def q17_14 : SCode := .region [⟨some 71, .move (.tmp 8), none⟩,
    ⟨some 72, .nilCheck (.tmp 71), none⟩,
    ⟨some 73, .fieldAddr 62 (.tmp 72) 1, none⟩,
    ⟨some 74, .load 60 (.tmp 73), none⟩,
    ⟨some 75, .move (.tmp 11), none⟩,
    ⟨some 76, .indexAddr 60 (.tmp 74) (.tmp 75), none⟩,
    ⟨some 77, .load 63 (.tmp 76), none⟩,
    ⟨some 78, .move (.tmp 13), none⟩,
    ⟨some 79, .binOp .shr 63 (.tmp 77) (.tmp 78) 3, none⟩,
    ⟨some 80, .binOp .and 63 (.tmp 79) (.const (.int .u64 1)) 63, none⟩,
    ⟨some 81, .binOp .eql 63 (.tmp 80) (.const (.int .u64 1)) 63, none⟩]
@[reducible] def q17_15 : SCode := .region [⟨some 6, .assign (.const (.bool false)), none⟩,
    ⟨some 7, .assign (.const (.int .i64 0)), none⟩]
@[reducible] def q17_16 : SCode := .region [⟨some 82, .binOp .add 3 (.tmp 67) (.const (.int .i64 1)) 3, none⟩,
    ⟨some 67, .move (.tmp 82), none⟩]
def l17_0 : SCode := (.seq q17_12 (.seq (.cond (.tmp 68) .skip (.exit 2)) (.seq (.block 3 (.seq q17_13 (.seq q17_14 (.cond (.tmp 81) (.seq q17_15 .ret) .skip)))) q17_16)))
@[reducible] def q17_17 : SCode := .region [⟨some 83, .binOp .add 3 (.tmp 35) (.const (.int .i64 1)) 3, none⟩,
    ⟨some 35, .move (.tmp 83), none⟩]
def l17_1 : SCode := (.seq q17_7 (.seq (.cond (.tmp 36) .skip (.exit 0)) (.seq (.block 1 (.seq q17_8 (.seq (.seq q17_9 (.cond (.tmp 62) (.seq q17_10 .ret) .skip)) (.seq q17_11 (.block 2 (.loop l17_0)))))) q17_17)))
@[reducible] def q17_18 : SCode := .region [⟨some 6, .assign (.const (.bool true)), none⟩,
    ⟨some 7, .assign (.const (.int .i64 0)), none⟩]
def s17 : SCode := (.seq q17_0 (.seq (.seq q17_1 (.cond (.tmp 24) (.seq q17_2 .ret) .skip)) (.seq q17_3 (.seq (.seq q17_4 (.cond (.tmp 32) (.seq q17_5 .ret) .skip)) (.seq (.seq q17_6 (.block 0 (.loop l17_1))) (.seq q17_18 .ret))))))
theorem s17_strip : stripC (bodyOf Tryd.f17) = s17 := by kernel_rfl
theorem s17_ok : codeOK 84 (bodyOf Tryd.f17) = true := by kernel_rfl
theorem s17_call [Tabs Tryd.prog] {args : List Value} {h : Heap} {Q : Value → Heap → Prop} (hsz : args.length ≤ 84) (hk : aw Tryd.prog 84 s17 (aPost Tryd.prog [.tmp 6, .tmp 7] Q) (argEnv 0 args) h) : ACall Tryd.prog 17 args h Q :=
  acall_s Tryd.func17 rfl (enters_of Tryd.func17 (by kernel_rfl) rfl) rfl rfl (by decide) s17_strip s17_ok hsz hk

/-! 18: planchet planchetlaw05.list -/
@[reducible] def q18_0 : SCode := .region [⟨some 2, .assign (.const (.slice none 0 0)), none⟩]
@[reducible] def q18_1 : SCode := .region [⟨some 3, .move (.tmp 0), none⟩,
    ⟨some 4, .move (.tmp 0), none⟩,
    ⟨some 5, .call { callee := .builtin .len, args := #[.tmp 4], argTypes := #[22] }, none⟩,
    ⟨some 6, .call { callee := .builtin .min, args := #[.tmp 5, .const (.int .i64 80)], argTypes := #[3, 3] }, none⟩,
    ⟨some 7, .slice 22 (.tmp 3) none (some (.tmp 6)) none, none⟩,
    ⟨some 8, .call { callee := .value (.func 26), args := #[.tmp 7], argTypes := #[22] }, none⟩,
    ⟨some 2, .assign (.tmp 8), none⟩]
def s18 : SCode := (.seq q18_0 (.seq q18_1 .ret))
theorem s18_strip : stripC (bodyOf Tryd.f18) = s18 := by kernel_rfl
theorem s18_ok : codeOK 9 (bodyOf Tryd.f18) = true := by kernel_rfl
theorem s18_call [Tabs Tryd.prog] {args : List Value} {h : Heap} {Q : Value → Heap → Prop} (hsz : args.length ≤ 9) (hk : aw Tryd.prog 9 s18 (aPost Tryd.prog [.tmp 2] Q) (argEnv 0 args) h) : ACall Tryd.prog 18 args h Q :=
  acall_s Tryd.func18 rfl (enters_of Tryd.func18 (by kernel_rfl) rfl) rfl rfl (by decide) s18_strip s18_ok hsz hk

/-! 19: planchet sure.Code -/
@[reducible] def q19_0 : SCode := .region [⟨some 4, .assign (.const (.slice none 0 0)), none⟩,
    ⟨some 5, .assign (.const (.int .i64 0)), none⟩]
@[reducible] def q19_1 : SCode := .region [⟨some 13, .move (.tmp 0), none⟩,
    ⟨some 14, .call { callee := .value (.func 51), args := #[.tmp 13], argTypes := #[56] }, none⟩,
    ⟨some 15, .unOp .not 4 (.tmp 14), none⟩,
    ⟨some 16, .move (.tmp 15), none⟩,
    ⟨some 17, .move (.tmp 1), some (16, false)⟩,
    ⟨some 18, .binOp .lss 3 (.tmp 17) (.const (.int .i64 1)) 3, some (16, false)⟩,
    ⟨some 19, .pick (.tmp 16) (.const (.bool true)) (.tmp 18), none⟩,
    ⟨some 20, .move (.tmp 19), none⟩,
    ⟨some 21, .move (.tmp 1), some (20, false)⟩,
    ⟨some 22, .binOp .gtr 3 (.tmp 21) (.const (.int .i64 3)) 3, some (20, false)⟩,
    ⟨some 23, .pick (.tmp 20) (.const (.bool true)) (.tmp 22), none⟩]
@[reducible] def q19_2 : SCode := .region [⟨some 4, .assign (.const (.slice none 0 0)), none⟩,
    ⟨some 5, .assign (.const (.int .i64 2)), none⟩]
@[reducible] def q19_3 : SCode := .region [⟨some 25, .move (.tmp 0), none⟩,
    ⟨some 26, .move (.tmp 1), none⟩,
    ⟨some 27, .call { callee := .value (.func 52), args := #[.tmp 25, .tmp 26], argTypes := #[56, 3] }, none⟩,
    ⟨some 24, .move (.tmp 27), none⟩,
    ⟨some 28, .extract (.tmp 24) 0, none⟩,
    ⟨some 29, .extract (.tmp 24) 1, none⟩,
    ⟨some 6, .assign (.tmp 28), none⟩,
    ⟨some 7, .assign (.tmp 29), none⟩]
@[reducible] def q19_4 : SCode := .region [⟨some 30, .move (.tmp 7), none⟩,
    ⟨some 31, .unOp .not 4 (.tmp 30), none⟩]
@[reducible] def q19_5 : SCode := .region [⟨some 4, .assign (.const (.slice none 0 0)), none⟩,
    ⟨some 5, .assign (.const (.int .i64 6)), none⟩]
@[reducible] def q19_6 : SCode := .region [⟨some 32, .move (.tmp 6), none⟩,
    ⟨some 33, .nilCheck (.tmp 32), none⟩,
    ⟨some 34, .fieldAddr 62 (.tmp 33) 0, none⟩,
    ⟨some 35, .load 3 (.tmp 34), none⟩,
    ⟨some 36, .binOp .sub 3 (.const (.int .i64 64)) (.tmp 35) 3, none⟩,
    ⟨some 37, .binOp .shr 63 (.const (.int .u64 18446744073709551615)) (.tmp 36) 3, none⟩,
    ⟨some 8, .assign (.tmp 37), none⟩]
@[reducible] def q19_7 : SCode := .region [⟨some 38, .move (.tmp 6), none⟩,
    ⟨some 39, .move (.tmp 8), none⟩,
    ⟨some 40, .call { callee := .value (.func 53), args := #[.tmp 38, .tmp 39], argTypes := #[57, 63] }, none⟩,
    ⟨some 9, .assign (.tmp 40), none⟩]
@[reducible] def q19_8 : SCode := .region [⟨some 10, .assign (.const (.slice none 0 0)), none⟩]
@[reducible] def q19_9 : SCode := .region [⟨some 41, .move (.tmp 6), none⟩,
    ⟨some 42, .nilCheck (.tmp 41), none⟩,
    ⟨some 43, .fieldAddr 62 (.tmp 42) 0, none⟩,
    ⟨some 44, .load 3 (.tmp 43), none⟩,
    ⟨some 45, .move (.const (.int .i64 0)), none⟩]
@[reducible] def q19_10 : SCode := .region [⟨some 46, .binOp .lss 3 (.tmp 45) (.tmp 44) 3, none⟩]
@[reducible] def q19_11 : SCode := .region [⟨some 47, .move (.tmp 45), none⟩,
    ⟨some 11, .assign (.tmp 47), none⟩]
@[reducible] def q19_12 : SCode := .region [⟨some 48, .move (.tmp 8), none⟩,
    ⟨some 49, .move (.tmp 11), none⟩,
    ⟨some 50, .binOp .shr 63 (.tmp 48) (.tmp 49) 3, none⟩,
    ⟨some 51, .binOp .and 63 (.tmp 50) (.const (.int .u64 1)) 63, none⟩,
    ⟨some 52, .binOp .eql 63 (.tmp 51) (.const (.int .u64 0)) 63, none⟩]
@[reducible] def q19_13 : SCode := .region [⟨some 53, .move (.tmp 8), none⟩,
    ⟨some 54, .move (.tmp 11), none⟩,
    ⟨some 55, .binOp .shl 63 (.const (.int .u64 1)) (.tmp 54) 3, none⟩,
    ⟨some 56, .binOp .andNot 63 (.tmp 53) (.tmp 55) 63, none⟩,
    ⟨some 8, .assign (.tmp 56), none⟩]
@[reducible] def q19_14 : SCode := .region [⟨some 57, .move (.tmp 8), none⟩,
    ⟨some 58, .move (.tmp 6), none⟩,
    ⟨some 59, .nilCheck (.tmp 58), none⟩,
    ⟨some 60, .fieldAddr 62 (.tmp 59) 1, none⟩,
    ⟨some 61, .load 60 (.tmp 60), none⟩,
    ⟨some 62, .move (.tmp 11), none⟩,
    ⟨some 63, .indexAddr 60 (.tmp 61) (.tmp 62), none⟩,
    ⟨some 64, .load 63 (.tmp 63), none⟩,
    ⟨some 65, .binOp .andNot 63 (.tmp 57) (.tmp 64) 63, none⟩,
    ⟨some 12, .assign (.tmp 65), none⟩]
@[reducible] def q19_15 : SCode := .region [⟨some 66, .move (.tmp 6), none⟩,
    ⟨some 67, .move (.tmp 12), none⟩,
    ⟨some 68, .call { callee := .value (.func 53), args := #[.tmp 66, .tmp 67], argTypes := #[57, 63] }, none⟩,
    ⟨some 69, .binOp .add 3 (.const (.int .i64 1)) (.tmp 68) 3, none⟩,
    ⟨some 70, .move (.tmp 9), none⟩,
    ⟨some 71, .binOp .eql 3 (.tmp 69) (.tmp 70) 3, none⟩]
@[reducible] def q19_16 : SCode := .region [⟨some 72, .move (.tmp 10), none⟩,
    ⟨some 73, .move (.tmp 11), none⟩,
    ⟨some 74, .buildSlice 22 1 #[(0, .tmp 73)], none⟩,
    ⟨some 75, .call { callee := .builtin .append, args := #[.tmp 72, .tmp 74], argTypes := #[22, 22] }, none⟩,
    ⟨some 10, .assign (.tmp 75), none⟩]
@[reducible] def q19_17 : SCode := .region [⟨some 76, .move (.tmp 12), none⟩,
    ⟨some 8, .assign (.tmp 76), none⟩]
@[reducible] def q19_18 : SCode := .region [⟨some 77, .move (.tmp 9), none⟩,
    ⟨some 78, .binOp .sub 3 (.tmp 77) (.const (.int .i64 1)) 3, none⟩,
    ⟨some 9, .assign (.tmp 78), none⟩]
@[reducible] def q19_19 : SCode := .region [⟨some 79, .binOp .add 3 (.tmp 45) (.const (.int .i64 1)) 3, none⟩,
    ⟨some 45, .move (.tmp 79), none⟩]
def l19_0 : SCode := (.seq q19_10 (.seq (.cond (.tmp 46) .skip (.exit 0)) (.seq (.block 1 (.seq q19_11 (.seq (.seq q19_12 (.cond (.tmp 52) (.exit 1) .skip)) (.seq q19_13 (.seq q19_14 (.seq q19_15 (.cond (.tmp 71) (.seq q19_16 (.seq q19_17 q19_18)) .skip))))))) q19_19)))
@[reducible] def q19_20 : SCode := .region [⟨some 80, .move (.tmp 10), none⟩,
    ⟨some 4, .assign (.tmp 80), none⟩,
    ⟨some 5, .assign (.const (.int .i64 0)), none⟩]
def s19 : SCode := (.seq q19_0 (.seq (.seq q19_1 (.cond (.tmp 23) (.seq q19_2 .ret) .skip)) (.seq q19_3 (.seq (.seq q19_4 (.cond (.tmp 31) (.seq q19_5 .ret) .skip)) (.seq q19_6 (.seq q19_7 (.seq q19_8 (.seq (.seq q19_9 (.block 0 (.loop l19_0))) (.seq q19_20 .ret)))))))))
theorem s19_strip : stripC (bodyOf Tryd.f19) = s19 := by kernel_rfl
theorem s19_ok : codeOK 81 (bodyOf Tryd.f19) = true := by kernel_rfl
theorem s19_call [Tabs Tryd.prog] {args : List Value} {h : Heap} {Q : Value → Heap → Prop} (hsz : args.length ≤ 81) (hk : aw Tryd.prog 81 s19 (aPost Tryd.prog [.tmp 4, .tmp 5] Q) (argEnv 0 args) h) : ACall Tryd.prog 19 args h Q :=
  acall_s Tryd.func19 rfl (enters_of Tryd.func19 (by kernel_rfl) rfl) rfl rfl (by decide) s19_strip s19_ok hsz hk

/-! 20: planchet planchetref05.Graph -/
@[reducible] def q20_0 : SCode := .region [⟨some 2, .assign (.const (.bool false)), none⟩]
@[reducible] def q20_1 : SCode := .region [⟨some 6, .move (.tmp 0), none⟩,
    ⟨some 7, .call { callee := .builtin .len, args := #[.tmp 6], argTypes := #[22] }, none⟩,
    ⟨some 8, .binOp .lss 3 (.tmp 7) (.const (.int .i64 1)) 3, none⟩,
    ⟨some 9, .move (.tmp 8), none⟩,
    ⟨some 10, .move (.tmp 0), some (9, false)⟩,
    ⟨some 11, .call { callee := .builtin .len, args := #[.tmp 10], argTypes := #[22] }, some (9, false)⟩,
    ⟨some 12, .binOp .gtr 3 (.tmp 11) (.const (.int .i64 6)) 3, some (9, false)⟩,
    ⟨some 13, .pick (.tmp 9) (.const (.bool true)) (.tmp 12), none⟩]
@[reducible] def q20_2 : SCode := .region [⟨some 2, .assign (.const (.bool false)), none⟩]
@[reducible] def q20_3 : SCode := .region [⟨some 14, .move (.tmp 0), none⟩,
    ⟨some 15, .call { callee := .builtin .len, args := #[.tmp 14], argTypes := #[22] }, none⟩,
    ⟨some 16, .move (.const (.int .i64 0)), none⟩]
@[reducible] def q20_4 : SCode := .region [⟨some 17, .binOp .lss 3 (.tmp 16) (.tmp 15) 3, none⟩]
@[reducible] def q20_5 : SCode := .region [⟨some 18, .move (.tmp 16), none⟩,
    ⟨some 19, .indexAddr 22 (.tmp 14) (.tmp 16), none⟩,
    ⟨some 20, .load 3 (.tmp 19), none⟩,
    ⟨some 3, .assign (.tmp 18), none⟩,
    ⟨some 4, .assign (.tmp 20), none⟩]
@[reducible] def q20_6 : SCode := .region [⟨some 21, .move (.tmp 4), none⟩,
    ⟨some 22, .binOp .lss 3 (.tmp 21) (.const (.int .i64 0)) 3, none⟩,
    ⟨some 23, .move (.tmp 22), none⟩,
    ⟨some 24, .move (.tmp 4), some (23, false)⟩,
    ⟨some 25, .move (.tmp 0), some (23, false)⟩,
    ⟨some 26, .call { callee := .builtin .len, args := #[.tmp 25], argTypes := #[22] }, some (23, false)⟩,
    ⟨some 27, .binOp .shl 3 (.const (.int .i64 1)) (.tmp 26) 3, some (23, false)⟩,
    ⟨some 28, .binOp .geq 3 (.tmp 24) (.tmp 27) 3, some (23, false)⟩,
    ⟨some 29, .pick (.tmp 23) (.const (.bool true)) (.tmp 28), none⟩,
    ⟨some 30, .move (.tmp 29), none⟩,
    ⟨some 31, .move (.tmp 4), some (30, false)⟩,
    ⟨some 32, .move (.tmp 3), some (30, false)⟩,
    ⟨some 33, .binOp .shr 3 (.tmp 31) (.tmp 32) 3, some (30, false)⟩,
    ⟨some 34, .binOp .and 3 (.tmp 33) (.const (.int .i64 1)) 3, some (30, false)⟩,
    ⟨some 35, .binOp .eql 3 (.tmp 34) (.const (.int .i64 1)) 3, some (30, false)⟩,
    ⟨some 36, .pick (.tmp 30) (.const (.bool true)) (.tmp 35), none⟩]
@[reducible] def q20_7 : SCode := .region [⟨some 2, .assign (.const (.bool false)), none⟩]
@[reducible] def q20_8 : SCode := .region [⟨some 37, .move (.tmp 3), none⟩,
    ⟨some 38, .move (.const (.int .i64 0)), none⟩]
@[reducible] def q20_9 : SCode := .region [⟨some 39, .binOp .lss 3 (.tmp 38) (.tmp 37) 3, none⟩]
@[reducible] def q20_10 : SCode := .region [⟨some 40, .move (.tmp 38), none⟩,
    ⟨some 5, .assign (.tmp 40), none⟩]
def q20_11 : SCode := .draw [⟨some 41, .move (.tmp 4), none⟩,
    ⟨some 42, .move (.tmp 5), none⟩,
    ⟨some 43, .binOp .shr 3 (.tmp 41) (.tmp 42) 3, none⟩,
    ⟨some 44, .binOp .and 3 (.tmp 43) (.const (.int .i64 1)) 3, none⟩,
    ⟨some 45, .move (.tmp 0), none⟩,
    ⟨some 46, .move (.tmp 5), none⟩,
    ⟨some 47, .indexAddr 22 (.tmp 45) (.tmp 46), none⟩,
    ⟨some 48, .load 3 (.tmp 47), none⟩,
    ⟨some 49, .move (.tmp 3), none⟩,
    ⟨some 50, .binOp .shr 3 (.tmp 48) (.tmp 49) 3, none⟩,
    ⟨some 51, .binOp .and 3 (.tmp 50) (.const (.int .i64 1)) 3, none⟩,
    ⟨some 52, .binOp .neq 3 (.tmp 44) (.tmp 51) 3, none⟩]
   [[], [], [0, 1], [2], [], [], [4, 5], [6], [], [7, 8], [9], [3, 10]]
@[reducible] def q20_12 : SCode := .region [⟨some 2, .assign (.const (.bool false)), none⟩]
@[reducible] def q20_13 : SCode := .region [⟨some 53, .binOp .add 3 (.tmp 38) (.const (.int .i64 1)) 3, none⟩,
    ⟨some 38, .move (.tmp 53), none⟩]
def l20_0 : SCode := (.seq q20_9 (.seq (.cond (.tmp 39) .skip (.exit 2)) (.seq (.block 3 (.seq q20_10 (.seq q20_11 (.cond (.tmp 52) (.seq q20_12 .ret) .skip)))) q20_13)))
@[reducible] def q20_14 : SCode := .region [⟨some 54, .binOp .add 3 (.tmp 16) (.const (.int .i64 1)) 3, none⟩,
    ⟨some 16, .move (.tmp 54), none⟩]
def l20_1 : SCode := (.seq q20_4 (.seq (.cond (.tmp 17) .skip (.exit 0)) (.seq (.block 1 (.seq q20_5 (.seq (.seq q20_6 (.cond (.tmp 36) (.seq q20_7 .ret) .skip)) (.seq q20_8 (.block 2 (.loop l20_0)))))) q20_14)))
@[reducible] def q20_15 : SCode := .region [⟨some 2, .assign (.const (.bool true)), none⟩]
def s20 : SCode := (.seq q20_0 (.seq (.seq q20_1 (.cond (.tmp 13) (.seq q20_2 .ret) .skip)) (.seq (.seq q20_3 (.block 0 (.loop l20_1))) (.seq q20_15 .ret))))
theorem s20_strip : stripC (bodyOf Tryd.f20) = s20 := by kernel_rfl
theorem s20_ok : codeOK 55 (bodyOf Tryd.f20) = true := by kernel_rfl
theorem s20_call [Tabs Tryd.prog] {args : List Value} {h : Heap} {Q : Value → Heap → Prop} (hsz : args.length ≤ 55) (hk : aw Tryd.prog 55 s20 (aPost Tryd.prog [.tmp 2] Q) (argEnv 0 args) h) : ACall Tryd.prog 20 args h Q :=
  acall_s Tryd.func20 rfl (enters_of Tryd.func20 (by kernel_rfl) rfl) rfl rfl (by decide) s20_strip s20_ok hsz hk

/-! 21: planchet planchetlaw05.awake -/
@[reducible] def q21_0 : SCode := .region [⟨some 0, .assign (.const (.bool false)), none⟩]
@[reducible] def q21_1 : SCode := .region [⟨some 4, .buildSlice 22 2 #[(0, .const (.int .i64 2)), (1, .const (.int .i64 1))], none⟩,
    ⟨some 5, .call { callee := .value (.func 19), args := #[.tmp 4, .const (.int .i64 1)], argTypes := #[22, 3] }, none⟩,
    ⟨some 3, .move (.tmp 5), none⟩,
    ⟨some 6, .extract (.tmp 3) 0, none⟩,
    ⟨some 7, .extract (.tmp 3) 1, none⟩,
    ⟨some 1, .assign (.tmp 6), none⟩,
    ⟨some 2, .assign (.tmp 7), none⟩]
@[reducible] def q21_2 : SCode := .region [⟨some 8, .move (.tmp 2), none⟩,
    ⟨some 9, .binOp .eql 23 (.tmp 8) (.const (.int .i64 0)) 23, none⟩,
    ⟨some 10, .move (.tmp 9), none⟩,
    ⟨some 11, .move (.tmp 1), some (10, true)⟩,
    ⟨some 12, .buildSlice 22 1 #[(0, .const (.int .i64 0))], some (10, true)⟩,
    ⟨some 13, .call { callee := .value (.func 24), args := #[.tmp 11, .tmp 12], argTypes := #[22, 22] }, some (10, true)⟩,
    ⟨some 14, .pick (.tmp 10) (.tmp 13) (.const (.bool false)), none⟩,
    ⟨some 0, .assign (.tmp 14), none⟩]
def s21 : SCode := (.seq q21_0 (.seq q21_1 (.seq q21_2 .ret)))
theorem s21_strip : stripC (bodyOf Tryd.f21) = s21 := by kernel_rfl
theorem s21_ok : codeOK 15 (bodyOf Tryd.f21) = true := by kernel_rfl
theorem s21_call [Tabs Tryd.prog] {args : List Value} {h : Heap} {Q : Value → Heap → Prop} (hsz : args.length ≤ 15) (hk : aw Tryd.prog 15 s21 (aPost Tryd.prog [.tmp 0] Q) (argEnv 0 args) h) : ACall Tryd.prog 21 args h Q :=
  acall_s Tryd.func21 rfl (enters_of Tryd.func21 (by kernel_rfl) rfl) rfl rfl (by decide) s21_strip s21_ok hsz hk

/-! 22: planchet planchetref05.Words -/
@[reducible] def q22_0 : SCode := .region [⟨some 4, .assign (.const (.int .i64 0)), none⟩]
@[reducible] def q22_1 : SCode := .region [⟨some 5, .assign (.const (.int .i64 1)), none⟩]
@[reducible] def q22_2 : SCode := .region [⟨some 6, .move (.tmp 1), none⟩,
    ⟨some 7, .move (.const (.int .i64 0)), none⟩]
@[reducible] def q22_3 : SCode := .region [⟨some 8, .binOp .lss 3 (.tmp 7) (.tmp 6) 3, none⟩]
@[reducible] def q22_4 : SCode := .region [⟨some 9, .move (.tmp 5), none⟩,
    ⟨some 10, .move (.tmp 0), none⟩,
    ⟨some 11, .call { callee := .builtin .len, args := #[.tmp 10], argTypes := #[22] }, none⟩,
    ⟨some 12, .binOp .mul 3 (.tmp 9) (.tmp 11) 3, none⟩,
    ⟨some 5, .assign (.tmp 12), none⟩]
@[reducible] def q22_5 : SCode := .region [⟨some 13, .binOp .add 3 (.tmp 7) (.const (.int .i64 1)) 3, none⟩,
    ⟨some 7, .move (.tmp 13), none⟩]
def l22_0 : SCode := (.seq q22_3 (.seq (.cond (.tmp 8) .skip (.exit 0)) (.seq (.block 1 q22_4) q22_5)))
@[reducible] def q22_6 : SCode := .region [⟨some 14, .move (.tmp 5), none⟩,
    ⟨some 4, .assign (.tmp 14), none⟩]
def s22 : SCode := (.seq q22_0 (.seq q22_1 (.seq (.seq q22_2 (.block 0 (.loop l22_0))) (.seq q22_6 .ret))))
theorem s22_strip : stripC (bodyOf Tryd.f22) = s22 := by kernel_rfl
theorem s22_ok : codeOK 15 (bodyOf Tryd.f22) = true := by kernel_rfl
theorem s22_call [Tabs Tryd.prog] {args : List Value} {h : Heap} {Q : Value → Heap → Prop} (hsz : args.length ≤ 15) (hk : aw Tryd.prog 15 s22 (aPost Tryd.prog [.tmp 4] Q) (argEnv 0 args) h) : ACall Tryd.prog 22 args h Q :=
  acall_s Tryd.func22 rfl (enters_of Tryd.func22 (by kernel_rfl) rfl) rfl rfl (by decide) s22_strip s22_ok hsz hk

/-! 23: planchet planchetref05.Codes -/
@[reducible] def q23_0 : SCode := .region [⟨some 6, .assign (.const (.bool false)), none⟩]
@[reducible] def q23_1 : SCode := .region [⟨some 11, .move (.tmp 2), none⟩,
    ⟨some 12, .call { callee := .builtin .len, args := #[.tmp 11], argTypes := #[22] }, none⟩,
    ⟨some 13, .move (.const (.int .i64 0)), none⟩]
@[reducible] def q23_2 : SCode := .region [⟨some 14, .binOp .lss 3 (.tmp 13) (.tmp 12) 3, none⟩]
@[reducible] def q23_3 : SCode := .region [⟨some 15, .move (.tmp 13), none⟩,
    ⟨some 16, .indexAddr 22 (.tmp 11) (.tmp 13), none⟩,
    ⟨some 17, .load 3 (.tmp 16), none⟩,
    ⟨some 7, .assign (.tmp 15), none⟩,
    ⟨some 8, .assign (.tmp 17), none⟩]
@[reducible] def q23_4 : SCode := .region [⟨some 18, .move (.tmp 8), none⟩,
    ⟨some 19, .binOp .lss 3 (.tmp 18) (.const (.int .i64 0)) 3, none⟩,
    ⟨some 20, .move (.tmp 19), none⟩,
    ⟨some 21, .move (.tmp 8), some (20, false)⟩,
    ⟨some 22, .move (.tmp 0), some (20, false)⟩,
    ⟨some 23, .move (.tmp 1), some (20, false)⟩,
    ⟨some 24, .call { callee := .value (.func 22), args := #[.tmp 22, .tmp 23], argTypes := #[22, 3] }, some (20, false)⟩,
    ⟨some 25, .binOp .geq 3 (.tmp 21) (.tmp 24) 3, some (20, false)⟩,
    ⟨some 26, .pick (.tmp 20) (.const (.bool true)) (.tmp 25), none⟩,
    ⟨some 27, .move (.tmp 26), none⟩,
    ⟨some 28, .move (.tmp 7), some (27, false)⟩,
    ⟨some 29, .binOp .gtr 3 (.tmp 28) (.const (.int .i64 0)) 3, some (27, false)⟩,
    ⟨some 30, .move (.tmp 29), some (27, false)⟩,
    ⟨some 31, .move (.tmp 2), some (30, true)⟩,
    ⟨some 32, .move (.tmp 7), some (30, true)⟩,
    ⟨some 33, .binOp .sub 3 (.tmp 32) (.const (.int .i64 1)) 3, some (30, true)⟩,
    ⟨some 34, .indexAddr 22 (.tmp 31) (.tmp 33), some (30, true)⟩,
    ⟨some 35, .load 3 (.tmp 34), some (30, true)⟩,
    ⟨some 36, .move (.tmp 8), some (30, true)⟩,
    ⟨some 37, .binOp .geq 3 (.tmp 35) (.tmp 36) 3, some (30, true)⟩,
    ⟨some 38, .pick (.tmp 30) (.tmp 37) (.const (.bool false)), some (27, false)⟩,
    ⟨some 39, .pick (.tmp 27) (.const (.bool true)) (.tmp 38), none⟩]
@[reducible] def q23_5 : SCode := .region [⟨some 6, .assign (.const (.bool false)), none⟩]
@[reducible] def q23_6 : SCode := .region [⟨some 40, .move (.tmp 2), none⟩,
    ⟨some 41, .move (.tmp 7), none⟩,
    ⟨some 42, .slice 22 (.tmp 40) none (some (.tmp 41)) none, none⟩,
    ⟨some 43, .call { callee := .builtin .len, args := #[.tmp 42], argTypes := #[22] }, none⟩,
    ⟨some 44, .move (.const (.int .i64 0)), none⟩]
@[reducible] def q23_7 : SCode := .region [⟨some 45, .binOp .lss 3 (.tmp 44) (.tmp 43) 3, none⟩]
@[reducible] def q23_8 : SCode := .region [⟨some 46, .indexAddr 22 (.tmp 42) (.tmp 44), none⟩,
    ⟨some 47, .load 3 (.tmp 46), none⟩,
    ⟨some 10, .assign (.tmp 47), none⟩]
@[reducible] def q23_9 : SCode := .region [⟨some 48, .move (.tmp 0), none⟩,
    ⟨some 49, .move (.tmp 1), none⟩,
    ⟨some 50, .move (.tmp 8), none⟩,
    ⟨some 51, .move (.tmp 10), none⟩,
    ⟨some 52, .call { callee := .value (.func 54), args := #[.tmp 48, .tmp 49, .tmp 50, .tmp 51], argTypes := #[22, 3, 3, 3] }, none⟩]
@[reducible] def q23_10 : SCode := .region [⟨some 6, .assign (.const (.bool false)), none⟩]
@[reducible] def q23_11 : SCode := .region [⟨some 53, .binOp .add 3 (.tmp 44) (.const (.int .i64 1)) 3, none⟩,
    ⟨some 44, .move (.tmp 53), none⟩]
def l23_0 : SCode := (.seq q23_7 (.seq (.cond (.tmp 45) .skip (.exit 2)) (.seq (.block 3 (.seq q23_8 (.seq q23_9 (.cond (.tmp 52) (.seq q23_10 .ret) .skip)))) q23_11)))
@[reducible] def q23_12 : SCode := .region [⟨some 54, .binOp .add 3 (.tmp 13) (.const (.int .i64 1)) 3, none⟩,
    ⟨some 13, .move (.tmp 54), none⟩]
def l23_1 : SCode := (.seq q23_2 (.seq (.cond (.tmp 14) .skip (.exit 0)) (.seq (.block 1 (.seq q23_3 (.seq (.seq q23_4 (.cond (.tmp 39) (.seq q23_5 .ret) .skip)) (.seq q23_6 (.block 2 (.loop l23_0)))))) q23_12)))
@[reducible] def q23_13 : SCode := .region [⟨some 6, .assign (.const (.bool true)), none⟩]
def s23 : SCode := (.seq q23_0 (.seq (.seq q23_1 (.block 0 (.loop l23_1))) (.seq q23_13 .ret)))
theorem s23_strip : stripC (bodyOf Tryd.f23) = s23 := by kernel_rfl
theorem s23_ok : codeOK 55 (bodyOf Tryd.f23) = true := by kernel_rfl
theorem s23_call [Tabs Tryd.prog] {args : List Value} {h : Heap} {Q : Value → Heap → Prop} (hsz : args.length ≤ 55) (hk : aw Tryd.prog 55 s23 (aPost Tryd.prog [.tmp 6] Q) (argEnv 0 args) h) : ACall Tryd.prog 23 args h Q :=
  acall_s Tryd.func23 rfl (enters_of Tryd.func23 (by kernel_rfl) rfl) rfl rfl (by decide) s23_strip s23_ok hsz hk

/-! 24: slices.Equal[[]int,int] -/
@[reducible] def q24_0 : SCode := .region [⟨some 4, .assign (.const (.bool false)), none⟩]
@[reducible] def q24_1 : SCode := .region [⟨some 6, .move (.tmp 0), none⟩,
    ⟨some 7, .call { callee := .builtin .len, args := #[.tmp 6], argTypes := #[22] }, none⟩,
    ⟨some 8, .move (.tmp 1), none⟩,
    ⟨some 9, .call { callee := .builtin .len, args := #[.tmp 8], argTypes := #[22] }, none⟩,
    ⟨some 10, .binOp .neq 3 (.tmp 7) (.tmp 9) 3, none⟩]
@[reducible] def q24_2 : SCode := .region [⟨some 4, .assign (.const (.bool false)), none⟩]
@[reducible] def q24_3 : SCode := .region [⟨some 11, .move (.tmp 0), none⟩,
    ⟨some 12, .call { callee := .builtin .len, args := #[.tmp 11], argTypes := #[22] }, none⟩,
    ⟨some 13, .move (.const (.int .i64 0)), none⟩]
@[reducible] def q24_4 : SCode := .region [⟨some 14, .binOp .lss 3 (.tmp 13) (.tmp 12) 3, none⟩]
@[reducible] def q24_5 : SCode := .region [⟨some 15, .move (.tmp 13), none⟩,
    ⟨some 5, .assign (.tmp 15), none⟩]
def q24_6 : SCode := .draw [⟨some 16, .move (.tmp 0), none⟩,
    ⟨some 17, .move (.tmp 5), none⟩,
    ⟨some 18, .indexAddr 22 (.tmp 16) (.tmp 17), none⟩,
    ⟨some 19, .load 3 (.tmp 18), none⟩,
    ⟨some 20, .move (.tmp 1), none⟩,
    ⟨some 21, .move (.tmp 5), none⟩,
    ⟨some 22, .indexAddr 22 (.tmp 20) (.tmp 21), none⟩,
    ⟨some 23, .load 3 (.tmp 22), none⟩,
    ⟨some 24, .binOp .neq 3 (.tmp 19) (.tmp 23) 3, none⟩]
   [[], [], [0, 1], [2], [], [], [4, 5], [6], [3, 7]]
@[reducible] def q24_7 : SCode := .region [⟨some 4, .assign (.const (.bool false)), none⟩]
@[reducible] def q24_8 : SCode := .region [⟨some 25, .binOp .add 3 (.tmp 13) (.const (.int .i64 1)) 3, none⟩,
    ⟨some 13, .move (.tmp 25), none⟩]
def l24_0 : SCode := (.seq q24_4 (.seq (.cond (.tmp 14) .skip (.exit 0)) (.seq (.block 1 (.seq q24_5 (.seq q24_6 (.cond (.tmp 24) (.seq q24_7 .ret) .skip)))) q24_8)))
@[reducible] def q24_9 : SCode := .region [⟨some 4, .assign (.const (.bool true)), none⟩]
def s24 : SCode := (.seq q24_0 (.seq (.seq q24_1 (.cond (.tmp 10) (.seq q24_2 .ret) .skip)) (.seq (.seq q24_3 (.block 0 (.loop l24_0))) (.seq q24_9 .ret))))
theorem s24_strip : stripC (bodyOf Tryd.f24) = s24 := by kernel_rfl
theorem s24_ok : codeOK 26 (bodyOf Tryd.f24) = true := by kernel_rfl
theorem s24_call [Tabs Tryd.prog] {args : List Value} {h : Heap} {Q : Value → Heap → Prop} (hsz : args.length ≤ 26) (hk : aw Tryd.prog 26 s24 (aPost Tryd.prog [.tmp 4] Q) (argEnv 0 args) h) : ACall Tryd.prog 24 args h Q :=
  acall_s Tryd.func24 rfl (enters_of Tryd.func24 (by kernel_rfl) rfl) rfl rfl (by decide) s24_strip s24_ok hsz hk

/-! 25: planchet planchetref05.Code -/
@[reducible] def q25_0 : SCode := .region [⟨some 4, .assign (.const (.slice none 0 0)), none⟩]
@[reducible] def q25_1 : SCode := .region [⟨some 13, .move (.tmp 0), none⟩,
    ⟨some 14, .move (.tmp 1), none⟩,
    ⟨some 15, .call { callee := .value (.func 22), args := #[.tmp 13, .tmp 14], argTypes := #[22, 3] }, none⟩,
    ⟨some 5, .assign (.tmp 15), none⟩]
@[reducible] def q25_2 : SCode := .region [⟨some 16, .move (.tmp 5), none⟩,
    ⟨some 17, .makeSlice 60 (.tmp 16) (.tmp 16), none⟩,
    ⟨some 6, .assign (.tmp 17), none⟩]
@[reducible] def q25_3 : SCode := .region [⟨some 7, .assign (.const (.int .u64 0)), none⟩]
@[reducible] def q25_4 : SCode := .region [⟨some 18, .move (.tmp 5), none⟩,
    ⟨some 19, .move (.const (.int .i64 0)), none⟩]
@[reducible] def q25_5 : SCode := .region [⟨some 20, .binOp .lss 3 (.tmp 19) (.tmp 18) 3, none⟩]
@[reducible] def q25_6 : SCode := .region [⟨some 21, .move (.tmp 19), none⟩,
    ⟨some 8, .assign (.tmp 21), none⟩]
@[reducible] def q25_7 : SCode := .region [⟨some 22, .move (.tmp 7), none⟩,
    ⟨some 23, .move (.tmp 8), none⟩,
    ⟨some 24, .binOp .shl 63 (.const (.int .u64 1)) (.tmp 23) 3, none⟩,
    ⟨some 25, .binOp .or 63 (.tmp 22) (.tmp 24) 63, none⟩,
    ⟨some 7, .assign (.tmp 25), none⟩]
@[reducible] def q25_8 : SCode := .region [⟨some 26, .move (.tmp 5), none⟩,
    ⟨some 27, .move (.const (.int .i64 0)), none⟩]
@[reducible] def q25_9 : SCode := .region [⟨some 28, .binOp .lss 3 (.tmp 27) (.tmp 26) 3, none⟩]
@[reducible] def q25_10 : SCode := .region [⟨some 29, .move (.tmp 27), none⟩,
    ⟨some 9, .assign (.tmp 29), none⟩]
@[reducible] def q25_11 : SCode := .region [⟨some 30, .move (.tmp 0), none⟩,
    ⟨some 31, .move (.tmp 1), none⟩,
    ⟨some 32, .move (.tmp 8), none⟩,
    ⟨some 33, .move (.tmp 9), none⟩,
    ⟨some 34, .call { callee := .value (.func 54), args := #[.tmp 30, .tmp 31, .tmp 32, .tmp 33], argTypes := #[22, 3, 3, 3] }, none⟩]
def q25_12 : SCode := .draw [⟨some 35, .move (.tmp 6), none⟩,
    ⟨some 36, .move (.tmp 8), none⟩,
    ⟨some 37, .indexAddr 60 (.tmp 35) (.tmp 36), none⟩,
    ⟨some 38, .load 63 (.tmp 37), none⟩,
    ⟨some 39, .move (.tmp 9), none⟩,
    ⟨some 40, .binOp .shl 63 (.const (.int .u64 1)) (.tmp 39) 3, none⟩,
    ⟨some 41, .binOp .or 63 (.tmp 38) (.tmp 40) 63, none⟩,
    ⟨some 42, .indexAddr 60 (.tmp 35) (.tmp 36), none⟩,
    ⟨none, .store 63 (.tmp 42) (.tmp 41), none⟩]
   [[], [], [0, 1], [2], [], [4], [3, 5], [0, 1, 0, 1, 2, 3, 4, 5, 6], [7, 6, 0, 1, 2, 3, 4, 5, 6]]
@[reducible] def q25_13 : SCode := .region [⟨some 43, .binOp .add 3 (.tmp 27) (.const (.int .i64 1)) 3, none⟩,
    ⟨some 27, .move (.tmp 43), none⟩]
def l25_0 : SCode := (.seq q25_9 (.seq (.cond (.tmp 28) .skip (.exit 2)) (.seq (.block 3 (.seq q25_10 (.seq q25_11 (.cond (.tmp 34) q25_12 .skip)))) q25_13)))
@[reducible] def q25_14 : SCode := .region [⟨some 44, .binOp .add 3 (.tmp 19) (.const (.int .i64 1)) 3, none⟩,
    ⟨some 19, .move (.tmp 44), none⟩]
def l25_1 : SCode := (.seq q25_5 (.seq (.cond (.tmp 20) .skip (.exit 0)) (.seq (.block 1 (.seq q25_6 (.seq q25_7 (.seq q25_8 (.block 2 (.loop l25_0)))))) q25_14)))
@[reducible] def q25_15 : SCode := .region [⟨some 10, .assign (.const (.slice none 0 0)), none⟩]
@[reducible] def q25_16 : SCode := .region [⟨some 45, .move (.tmp 6), none⟩,
    ⟨some 46, .move (.tmp 7), none⟩,
    ⟨some 47, .call { callee := .value (.func 55), args := #[.tmp 45, .tmp 46], argTypes := #[60, 63] }, none⟩,
    ⟨some 11, .assign (.tmp 47), none⟩]
@[reducible] def q25_17 : SCode := .region [⟨some 48, .move (.tmp 5), none⟩,
    ⟨some 49, .move (.const (.int .i64 0)), none⟩]
@[reducible] def q25_18 : SCode := .region [⟨some 50, .binOp .lss 3 (.tmp 49) (.tmp 48) 3, none⟩]
@[reducible] def q25_19 : SCode := .region [⟨some 51, .move (.tmp 49), none⟩,
    ⟨some 12, .assign (.tmp 51), none⟩]
@[reducible] def q25_20 : SCode := .region [⟨some 52, .move (.tmp 7), none⟩,
    ⟨some 53, .move (.tmp 12), none⟩,
    ⟨some 54, .binOp .shr 63 (.tmp 52) (.tmp 53) 3, none⟩,
    ⟨some 55, .binOp .and 63 (.tmp 54) (.const (.int .u64 1)) 63, none⟩,
    ⟨some 56, .binOp .eql 63 (.tmp 55) (.const (.int .u64 1)) 63, none⟩,
    ⟨some 57, .move (.tmp 56), none⟩,
    ⟨some 58, .move (.tmp 11), some (57, true)⟩,
    ⟨some 59, .binOp .gtr 3 (.tmp 58) (.const (.int .i64 0)) 3, some (57, true)⟩,
    ⟨some 60, .pick (.tmp 57) (.tmp 59) (.const (.bool false)), none⟩,
    ⟨some 61, .move (.tmp 60), none⟩,
    ⟨some 62, .move (.tmp 6), some (61, true)⟩,
    ⟨some 63, .move (.tmp 7), some (61, true)⟩,
    ⟨some 64, .move (.tmp 6), some (61, true)⟩,
    ⟨some 65, .move (.tmp 12), some (61, true)⟩,
    ⟨some 66, .indexAddr 60 (.tmp 64) (.tmp 65), some (61, true)⟩,
    ⟨some 67, .load 63 (.tmp 66), some (61, true)⟩,
    ⟨some 68, .binOp .andNot 63 (.tmp 63) (.tmp 67) 63, some (61, true)⟩,
    ⟨some 69, .call { callee := .value (.func 55), args := #[.tmp 62, .tmp 68], argTypes := #[60, 63] }, some (61, true)⟩,
    ⟨some 70, .binOp .add 3 (.const (.int .i64 1)) (.tmp 69) 3, some (61, true)⟩,
    ⟨some 71, .move (.tmp 11), some (61, true)⟩,
    ⟨some 72, .binOp .eql 3 (.tmp 70) (.tmp 71) 3, some (61, true)⟩,
    ⟨some 73, .pick (.tmp 61) (.tmp 72) (.const (.bool false)), none⟩]
@[reducible] def q25_21 : SCode := .region [⟨some 74, .move (.tmp 10), none⟩,
    ⟨some 75, .move (.tmp 12), none⟩,
    ⟨some 76, .buildSlice 22 1 #[(0, .tmp 75)], none⟩,
    ⟨some 77, .call { callee := .builtin .append, args := #[.tmp 74, .tmp 76], argTypes := #[22, 22] }, none⟩,
    ⟨some 10, .assign (.tmp 77), none⟩]
@[reducible] def q25_22 : SCode := .region [⟨some 78, .move (.tmp 7), none⟩,
    ⟨some 79, .move (.tmp 6), none⟩,
    ⟨some 80, .move (.tmp 12), none⟩,
    ⟨some 81, .indexAddr 60 (.tmp 79) (.tmp 80), none⟩,
    ⟨some 82, .load 63 (.tmp 81), none⟩,
    ⟨some 83, .binOp .andNot 63 (.tmp 78) (.tmp 82) 63, none⟩,
    ⟨some 7, .assign (.tmp 83), none⟩]
@[reducible] def q25_23 : SCode := .region [⟨some 84, .move (.tmp 11), none⟩,
    ⟨some 85, .binOp .sub 3 (.tmp 84) (.const (.int .i64 1)) 3, none⟩,
    ⟨some 11, .assign (.tmp 85), none⟩]
@[reducible] def q25_24 : SCode := .region [⟨some 86, .move (.tmp 7), none⟩,
    ⟨some 87, .move (.tmp 12), none⟩,
    ⟨some 88, .binOp .shl 63 (.const (.int .u64 1)) (.tmp 87) 3, none⟩,
    ⟨some 89, .binOp .andNot 63 (.tmp 86) (.tmp 88) 63, none⟩,
    ⟨some 7, .assign (.tmp 89), none⟩]
@[reducible] def q25_25 : SCode := .region [⟨some 90, .binOp .add 3 (.tmp 49) (.const (.int .i64 1)) 3, none⟩,
    ⟨some 49, .move (.tmp 90), none⟩]
def l25_2 : SCode := (.seq q25_18 (.seq (.cond (.tmp 50) .skip (.exit 4)) (.seq (.block 5 (.seq q25_19 (.seq q25_20 (.cond (.tmp 73) (.seq q25_21 (.seq q25_22 q25_23)) q25_24)))) q25_25)))
@[reducible] def q25_26 : SCode := .region [⟨some 91, .move (.tmp 10), none⟩,
    ⟨some 4, .assign (.tmp 91), none⟩]
def s25 : SCode := (.seq q25_0 (.seq q25_1 (.seq q25_2 (.seq q25_3 (.seq (.seq q25_4 (.block 0 (.loop l25_1))) (.seq q25_15 (.seq q25_16 (.seq (.seq q25_17 (.block 4 (.loop l25_2))) (.seq q25_26 .ret)))))))))
theorem s25_strip : stripC (bodyOf Tryd.f25) = s25 := by kernel_rfl
theorem s25_ok : codeOK 92 (bodyOf Tryd.f25) = true := by kernel_rfl
theorem s25_call [Tabs Tryd.prog] {args : List Value} {h : Heap} {Q : Value → Heap → Prop} (hsz : args.length ≤ 92) (hk : aw Tryd.prog 92 s25 (aPost Tryd.prog [.tmp 4] Q) (argEnv 0 args) h) : ACall Tryd.prog 25 args h Q :=
  acall_s Tryd.func25 rfl (enters_of Tryd.func25 (by kernel_rfl) rfl) rfl rfl (by decide) s25_strip s25_ok hsz hk

/-! 26: slices.Clone[[]int,int] -/
@[reducible] def q26_0 : SCode := .region [⟨some 2, .assign (.const (.slice none 0 0)), none⟩]
@[reducible] def q26_1 : SCode := .region [⟨some 3, .move (.tmp 0), none⟩,
    ⟨some 4, .binOp .eql 22 (.tmp 3) (.const (.slice none 0 0)) 22, none⟩]
@[reducible] def q26_2 : SCode := .region [⟨some 2, .assign (.const (.slice none 0 0)), none⟩]
@[reducible] def q26_3 : SCode := .region [⟨some 5, .buildSlice 22 0 #[], none⟩,
    ⟨some 6, .move (.tmp 0), none⟩,
    ⟨some 7, .call { callee := .builtin .append, args := #[.tmp 5, .tmp 6], argTypes := #[22, 22] }, none⟩,
    ⟨some 2, .assign (.tmp 7), none⟩]
def s26 : SCode := (.seq q26_0 (.seq (.seq q26_1 (.cond (.tmp 4) (.seq q26_2 .ret) .skip)) (.seq q26_3 .ret)))
theorem s26_strip : stripC (bodyOf Tryd.f26) = s26 := by kernel_rfl
theorem s26_ok : codeOK 8 (bodyOf Tryd.f26) = true := by kernel_rfl
theorem s26_call [Tabs Tryd.prog] {args : List Value} {h : Heap} {Q : Value → Heap → Prop} (hsz : args.length ≤ 8) (hk : aw Tryd.prog 8 s26 (aPost Tryd.prog [.tmp 2] Q) (argEnv 0 args) h) : ACall Tryd.prog 26 args h Q :=
  acall_s Tryd.func26 rfl (enters_of Tryd.func26 (by kernel_rfl) rfl) rfl rfl (by decide) s26_strip s26_ok hsz hk

/-! 51: (planchet sure.graph).valid -/
@[reducible] def q51_0 : SCode := .region [⟨some 2, .assign (.const (.bool false)), none⟩]
@[reducible] def q51_1 : SCode := .region [⟨some 7, .move (.tmp 0), none⟩,
    ⟨some 8, .call { callee := .builtin .len, args := #[.tmp 7], argTypes := #[56] }, none⟩,
    ⟨some 3, .assign (.tmp 8), none⟩]
@[reducible] def q51_2 : SCode := .region [⟨some 9, .move (.tmp 3), none⟩,
    ⟨some 10, .binOp .lss 3 (.tmp 9) (.const (.int .i64 1)) 3, none⟩,
    ⟨some 11, .move (.tmp 10), none⟩,
    ⟨some 12, .move (.tmp 3), some (11, false)⟩,
    ⟨some 13, .binOp .gtr 3 (.tmp 12) (.const (.int .i64 6)) 3, some (11, false)⟩,
    ⟨some 14, .pick (.tmp 11) (.const (.bool true)) (.tmp 13), none⟩]
@[reducible] def q51_3 : SCode := .region [⟨some 2, .assign (.const (.bool false)), none⟩]
@[reducible] def q51_4 : SCode := .region [⟨some 15, .move (.tmp 0), none⟩,
    ⟨some 16, .call { callee := .builtin .len, args := #[.tmp 15], argTypes := #[56] }, none⟩,
    ⟨some 17, .move (.const (.int .i64 0)), none⟩]
@[reducible] def q51_5 : SCode := .region [⟨some 18, .binOp .lss 3 (.tmp 17) (.tmp 16) 3, none⟩]
@[reducible] def q51_6 : SCode := .region [⟨some 19, .move (.tmp 17), none⟩,
    ⟨some 20, .indexAddr 56 (.tmp 15) (.tmp 17), none⟩,
    ⟨some 21, .load 3 (.tmp 20), none⟩,
    ⟨some 4, .assign (.tmp 19), none⟩,
    ⟨some 5, .assign (.tmp 21), none⟩]
@[reducible] def q51_7 : SCode := .region [⟨some 22, .move (.tmp 5), none⟩,
    ⟨some 23, .binOp .lss 3 (.tmp 22) (.const (.int .i64 0)) 3, none⟩,
    ⟨some 24, .move (.tmp 23), none⟩,
    ⟨some 25, .move (.tmp 5), some (24, false)⟩,
    ⟨some 26, .move (.tmp 3), some (24, false)⟩,
    ⟨some 27, .binOp .shl 3 (.const (.int .i64 1)) (.tmp 26) 3, some (24, false)⟩,
    ⟨some 28, .binOp .geq 3 (.tmp 25) (.tmp 27) 3, some (24, false)⟩,
    ⟨some 29, .pick (.tmp 24) (.const (.bool true)) (.tmp 28), none⟩,
    ⟨some 30, .move (.tmp 29), none⟩,
    ⟨some 31, .move (.tmp 5), some (30, false)⟩,
    ⟨some 32, .move (.tmp 4), some (30, false)⟩,
    ⟨some 33, .binOp .shr 3 (.tmp 31) (.tmp 32) 3, some (30, false)⟩,
    ⟨some 34, .binOp .and 3 (.tmp 33) (.const (.int .i64 1)) 3, some (30, false)⟩,
    ⟨some 35, .binOp .eql 3 (.tmp 34) (.const (.int .i64 1)) 3, some (30, false)⟩,
    ⟨some 36, .pick (.tmp 30) (.const (.bool true)) (.tmp 35), none⟩]
@[reducible] def q51_8 : SCode := .region [⟨some 2, .assign (.const (.bool false)), none⟩]
@[reducible] def q51_9 : SCode := .region [⟨some 37, .move (.tmp 3), none⟩,
    ⟨some 38, .move (.const (.int .i64 0)), none⟩]
@[reducible] def q51_10 : SCode := .region [⟨some 39, .binOp .lss 3 (.tmp 38) (.tmp 37) 3, none⟩]
@[reducible] def q51_11 : SCode := .region [⟨some 40, .move (.tmp 38), none⟩,
    ⟨some 6, .assign (.tmp 40), none⟩]
def q51_12 : SCode := .draw [⟨some 41, .move (.tmp 5), none⟩,
    ⟨some 42, .move (.tmp 6), none⟩,
    ⟨some 43, .binOp .shr 3 (.tmp 41) (.tmp 42) 3, none⟩,
    ⟨some 44, .binOp .and 3 (.tmp 43) (.const (.int .i64 1)) 3, none⟩,
    ⟨some 45, .move (.tmp 0), none⟩,
    ⟨some 46, .move (.tmp 6), none⟩,
    ⟨some 47, .indexAddr 56 (.tmp 45) (.tmp 46), none⟩,
    ⟨some 48, .load 3 (.tmp 47), none⟩,
    ⟨some 49, .move (.tmp 4), none⟩,
    ⟨some 50, .binOp .shr 3 (.tmp 48) (.tmp 49) 3, none⟩,
    ⟨some 51, .binOp .and 3 (.tmp 50) (.const (.int .i64 1)) 3, none⟩,
    ⟨some 52, .binOp .neq 3 (.tmp 44) (.tmp 51) 3, none⟩]
   [[], [], [0, 1], [2], [], [], [4, 5], [6], [], [7, 8], [9], [3, 10]]
@[reducible] def q51_13 : SCode := .region [⟨some 2, .assign (.const (.bool false)), none⟩]
@[reducible] def q51_14 : SCode := .region [⟨some 53, .binOp .add 3 (.tmp 38) (.const (.int .i64 1)) 3, none⟩,
    ⟨some 38, .move (.tmp 53), none⟩]
def l51_0 : SCode := (.seq q51_10 (.seq (.cond (.tmp 39) .skip (.exit 2)) (.seq (.block 3 (.seq q51_11 (.seq q51_12 (.cond (.tmp 52) (.seq q51_13 .ret) .skip)))) q51_14)))
@[reducible] def q51_15 : SCode := .region [⟨some 54, .binOp .add 3 (.tmp 17) (.const (.int .i64 1)) 3, none⟩,
    ⟨some 17, .move (.tmp 54), none⟩]
def l51_1 : SCode := (.seq q51_5 (.seq (.cond (.tmp 18) .skip (.exit 0)) (.seq (.block 1 (.seq q51_6 (.seq (.seq q51_7 (.cond (.tmp 36) (.seq q51_8 .ret) .skip)) (.seq q51_9 (.block 2 (.loop l51_0)))))) q51_15)))
@[reducible] def q51_16 : SCode := .region [⟨some 2, .assign (.const (.bool true)), none⟩]
def s51 : SCode := (.seq q51_0 (.seq q51_1 (.seq (.seq q51_2 (.cond (.tmp 14) (.seq q51_3 .ret) .skip)) (.seq (.seq q51_4 (.block 0 (.loop l51_1))) (.seq q51_16 .ret)))))
theorem s51_strip : stripC (bodyOf Tryd.f51) = s51 := by kernel_rfl
theorem s51_ok : codeOK 55 (bodyOf Tryd.f51) = true := by kernel_rfl
theorem s51_call [Tabs Tryd.prog] {args : List Value} {h : Heap} {Q : Value → Heap → Prop} (hsz : args.length ≤ 55) (hk : aw Tryd.prog 55 s51 (aPost Tryd.prog [.tmp 2] Q) (argEnv 0 args) h) : ACall Tryd.prog 51 args h Q :=
  acall_s Tryd.func51 rfl (enters_of Tryd.func51 (by kernel_rfl) rfl) rfl rfl (by decide) s51_strip s51_ok hsz hk

/-! 52: (planchet sure.graph).words -/
@[reducible] def q52_0 : SCode := .region [⟨some 4, .assign (.const (.pointer none)), none⟩,
    ⟨some 5, .assign (.const (.bool false)), none⟩]
@[reducible] def q52_1 : SCode := .region [⟨some 10, .build 62 #[(0, .const (.int .i64 1))], none⟩,
    ⟨some 11, .box 62 (.tmp 10), none⟩,
    ⟨some 6, .assign (.tmp 11), none⟩]
@[reducible] def q52_2 : SCode := .region [⟨some 12, .move (.tmp 1), none⟩,
    ⟨some 13, .move (.const (.int .i64 0)), none⟩]
@[reducible] def q52_3 : SCode := .region [⟨some 14, .binOp .lss 3 (.tmp 13) (.tmp 12) 3, none⟩]
@[reducible] def q52_4 : SCode := .region [⟨some 15, .move (.tmp 6), none⟩,
    ⟨some 16, .nilCheck (.tmp 15), none⟩,
    ⟨some 17, .fieldAddr 62 (.tmp 16) 0, none⟩,
    ⟨some 18, .load 3 (.tmp 17), none⟩,
    ⟨some 19, .move (.tmp 0), none⟩,
    ⟨some 20, .call { callee := .builtin .len, args := #[.tmp 19], argTypes := #[56] }, none⟩,
    ⟨some 21, .binOp .mul 3 (.tmp 18) (.tmp 20) 3, none⟩,
    ⟨some 22, .nilCheck (.tmp 15), none⟩,
    ⟨some 23, .fieldAddr 62 (.tmp 22) 0, none⟩,
    ⟨none, .store 3 (.tmp 23) (.tmp 21), none⟩]
@[reducible] def q52_5 : SCode := .region [⟨some 24, .move (.tmp 6), none⟩,
    ⟨some 25, .nilCheck (.tmp 24), none⟩,
    ⟨some 26, .fieldAddr 62 (.tmp 25) 0, none⟩,
    ⟨some 27, .load 3 (.tmp 26), none⟩,
    ⟨some 28, .binOp .gtr 3 (.tmp 27) (.const (.int .i64 64)) 3, none⟩]
@[reducible] def q52_6 : SCode := .region [⟨some 4, .assign (.const (.pointer none)), none⟩,
    ⟨some 5, .assign (.const (.bool false)), none⟩]
@[reducible] def q52_7 : SCode := .region [⟨some 29, .binOp .add 3 (.tmp 13) (.const (.int .i64 1)) 3, none⟩,
    ⟨some 13, .move (.tmp 29), none⟩]
def l52_0 : SCode := (.seq q52_3 (.seq (.cond (.tmp 14) .skip (.exit 0)) (.seq (.block 1 (.seq q52_4 (.seq q52_5 (.cond (.tmp 28) (.seq q52_6 .ret) .skip)))) q52_7)))
@[reducible] def q52_8 : SCode := .region [⟨some 30, .move (.tmp 6), none⟩,
    ⟨some 31, .nilCheck (.tmp 30), none⟩,
    ⟨some 32, .fieldAddr 62 (.tmp 31) 0, none⟩,
    ⟨some 33, .load 3 (.tmp 32), none⟩,
    ⟨some 34, .move (.const (.int .i64 0)), none⟩]
@[reducible] def q52_9 : SCode := .region [⟨some 35, .binOp .lss 3 (.tmp 34) (.tmp 33) 3, none⟩]
@[reducible] def q52_10 : SCode := .region [⟨some 36, .move (.tmp 34), none⟩,
    ⟨some 7, .assign (.tmp 36), none⟩]
@[reducible] def q52_11 : SCode := .region [⟨some 8, .assign (.const (.int .u64 0)), none⟩]
@[reducible] def q52_12 : SCode := .region [⟨some 37, .move (.tmp 6), none⟩,
    ⟨some 38, .nilCheck (.tmp 37), none⟩,
    ⟨some 39, .fieldAddr 62 (.tmp 38) 0, none⟩,
    ⟨some 40, .load 3 (.tmp 39), none⟩,
    ⟨some 41, .move (.const (.int .i64 0)), none⟩]
@[reducible] def q52_13 : SCode := .region [⟨some 42, .binOp .lss 3 (.tmp 41) (.tmp 40) 3, none⟩]
@[reducible] def q52_14 : SCode := .region [⟨some 43, .move (.tmp 41), none⟩,
    ⟨some 9, .assign (.tmp 43), none⟩]
@[reducible] def q52_15 : SCode := .region [⟨some 44, .move (.tmp 7), none⟩,
    ⟨some 45, .move (.tmp 9), none⟩,
    ⟨some 46, .binOp .neq 3 (.tmp 44) (.tmp 45) 3, none⟩,
    ⟨some 47, .move (.tmp 46), none⟩,
    ⟨some 48, .move (.tmp 0), some (47, true)⟩,
    ⟨some 49, .move (.tmp 7), some (47, true)⟩,
    ⟨some 50, .move (.tmp 9), some (47, true)⟩,
    ⟨some 51, .move (.tmp 1), some (47, true)⟩,
    ⟨some 52, .call { callee := .value (.func 77), args := #[.tmp 48, .tmp 49, .tmp 50, .tmp 51], argTypes := #[56, 3, 3, 3] }, some (47, true)⟩,
    ⟨some 53, .pick (.tmp 47) (.tmp 52) (.const (.bool false)), none⟩]
@[reducible] def q52_16 : SCode := .region [⟨some 54, .move (.tmp 8), none⟩,
    ⟨some 55, .move (.tmp 9), none⟩,
    ⟨some 56, .binOp .shl 63 (.const (.int .u64 1)) (.tmp 55) 3, none⟩,
    ⟨some 57, .binOp .or 63 (.tmp 54) (.tmp 56) 63, none⟩,
    ⟨some 8, .assign (.tmp 57), none⟩]
@[reducible] def q52_17 : SCode := .region [⟨some 58, .binOp .add 3 (.tmp 41) (.const (.int .i64 1)) 3, none⟩,
    ⟨some 41, .move (.tmp 58), none⟩]
def l52_1 : SCode := (.seq q52_13 (.seq (.cond (.tmp 42) .skip (.exit 4)) (.seq (.block 5 (.seq q52_14 (.seq q52_15 (.cond (.tmp 53) q52_16 .skip)))) q52_17)))
@[reducible] def q52_18 : SCode := .region [⟨some 59, .move (.tmp 6), none⟩,
    ⟨some 60, .move (.tmp 6), none⟩,
    ⟨some 61, .nilCheck (.tmp 60), none⟩,
    ⟨some 62, .fieldAddr 62 (.tmp 61) 1, none⟩,
    ⟨some 63, .load 60 (.tmp 62), none⟩,
    ⟨some 64, .move (.tmp 8), none⟩,
    ⟨some 65, .buildSlice 60 1 #[(0, .tmp 64)], none⟩,
    ⟨some 66, .call { callee := .builtin .append, args := #[.tmp 63, .tmp 65], argTypes := #[60, 60] }, none⟩,
    ⟨some 67, .nilCheck (.tmp 59), none⟩,
    ⟨some 68, .fieldAddr 62 (.tmp 67) 1, none⟩,
    ⟨none, .store 60 (.tmp 68) (.tmp 66), none⟩]
@[reducible] def q52_19 : SCode := .region [⟨some 69, .binOp .add 3 (.tmp 34) (.const (.int .i64 1)) 3, none⟩,
    ⟨some 34, .move (.tmp 69), none⟩]
def l52_2 : SCode := (.seq q52_9 (.seq (.cond (.tmp 35) .skip (.exit 2)) (.seq (.block 3 (.seq q52_10 (.seq q52_11 (.seq (.seq q52_12 (.block 4 (.loop l52_1))) q52_18)))) q52_19)))
@[reducible] def q52_20 : SCode := .region [⟨some 70, .move (.tmp 6), none⟩,
    ⟨some 4, .assign (.tmp 70), none⟩,
    ⟨some 5, .assign (.const (.bool true)), none⟩]
def s52 : SCode := (.seq q52_0 (.seq q52_1 (.seq (.seq q52_2 (.block 0 (.loop l52_0))) (.seq (.seq q52_8 (.block 2 (.loop l52_2))) (.seq q52_20 .ret)))))
theorem s52_strip : stripC (bodyOf Tryd.f52) = s52 := by kernel_rfl
theorem s52_ok : codeOK 71 (bodyOf Tryd.f52) = true := by kernel_rfl
theorem s52_call [Tabs Tryd.prog] {args : List Value} {h : Heap} {Q : Value → Heap → Prop} (hsz : args.length ≤ 71) (hk : aw Tryd.prog 71 s52 (aPost Tryd.prog [.tmp 4, .tmp 5] Q) (argEnv 0 args) h) : ACall Tryd.prog 52 args h Q :=
  acall_s Tryd.func52 rfl (enters_of Tryd.func52 (by kernel_rfl) rfl) rfl rfl (by decide) s52_strip s52_ok hsz hk

/-! 53: (planchet sure.words).most -/
@[reducible] def q53_0 : SCode := .region [⟨some 4, .assign (.const (.int .i64 0)), none⟩]
@[reducible] def q53_1 : SCode := .region [⟨some 5, .assign (.const (.int .i64 0)), none⟩]
@[reducible] def q53_2 : SCode := .region [⟨some 11, .move (.tmp 1), none⟩,
    ⟨some 12, .binOp .neq 63 (.tmp 11) (.const (.int .u64 0)) 63, none⟩]
@[reducible] def q53_3 : SCode := .region [⟨some 6, .assign (.const (.int .i64 (-1))), none⟩,
    ⟨some 7, .assign (.const (.int .i64 (-1))), none⟩]
@[reducible] def q53_4 : SCode := .region [⟨some 13, .move (.tmp 1), none⟩,
    ⟨some 8, .assign (.tmp 13), none⟩]
@[reducible] def q53_5 : SCode := .region [⟨some 14, .move (.tmp 8), none⟩,
    ⟨some 15, .binOp .neq 63 (.tmp 14) (.const (.int .u64 0)) 63, none⟩]
@[reducible] def q53_7 : SCode := .region [⟨some 20, .move (.tmp 8), none⟩,
    ⟨some 21, .call { callee := .value (.func 78), args := #[.tmp 20], argTypes := #[63] }, none⟩,
    ⟨some 9, .assign (.tmp 21), none⟩]
@[reducible] def q53_8 : SCode := .region [⟨some 22, .move (.tmp 0), none⟩,
    ⟨some 23, .nilCheck (.tmp 22), none⟩,
    ⟨some 24, .fieldAddr 62 (.tmp 23) 1, none⟩,
    ⟨some 25, .load 60 (.tmp 24), none⟩,
    ⟨some 26, .move (.tmp 9), none⟩,
    ⟨some 27, .indexAddr 60 (.tmp 25) (.tmp 26), none⟩,
    ⟨some 28, .load 63 (.tmp 27), none⟩,
    ⟨some 29, .move (.tmp 1), none⟩,
    ⟨some 30, .binOp .and 63 (.tmp 28) (.tmp 29) 63, none⟩,
    ⟨some 31, .call { callee := .value (.func 79), args := #[.tmp 30], argTypes := #[63] }, none⟩,
    ⟨some 10, .assign (.tmp 31), none⟩]
@[reducible] def q53_9 : SCode := .region [⟨some 32, .move (.tmp 10), none⟩,
    ⟨some 33, .binOp .leq 3 (.tmp 32) (.const (.int .i64 1)) 3, none⟩]
@[reducible] def q53_10 : SCode := .region [⟨some 34, .move (.tmp 9), none⟩,
    ⟨some 35, .move (.tmp 10), none⟩,
    ⟨some 6, .assign (.tmp 34), none⟩,
    ⟨some 7, .assign (.tmp 35), none⟩]
@[reducible] def q53_11 : SCode := .region [⟨some 36, .move (.tmp 10), none⟩,
    ⟨some 37, .move (.tmp 7), none⟩,
    ⟨some 38, .binOp .gtr 3 (.tmp 36) (.tmp 37) 3, none⟩]
@[reducible] def q53_12 : SCode := .region [⟨some 39, .move (.tmp 9), none⟩,
    ⟨some 40, .move (.tmp 10), none⟩,
    ⟨some 6, .assign (.tmp 39), none⟩,
    ⟨some 7, .assign (.tmp 40), none⟩]
@[reducible] def q53_6 : SCode := .region [⟨some 16, .move (.tmp 8), none⟩,
    ⟨some 17, .move (.tmp 8), none⟩,
    ⟨some 18, .binOp .sub 63 (.tmp 17) (.const (.int .u64 1)) 63, none⟩,
    ⟨some 19, .binOp .and 63 (.tmp 16) (.tmp 18) 63, none⟩,
    ⟨some 8, .assign (.tmp 19), none⟩]
def l53_0 : SCode := (.seq (.seq q53_5 (.cond (.tmp 15) .skip (.exit 2))) (.seq (.block 3 (.seq q53_7 (.seq q53_8 (.seq (.seq q53_9 (.cond (.tmp 33) (.seq q53_10 (.exit 2)) .skip)) (.seq q53_11 (.cond (.tmp 38) q53_12 .skip)))))) q53_6))
@[reducible] def q53_13 : SCode := .region [⟨some 41, .move (.tmp 7), none⟩,
    ⟨some 42, .binOp .gtr 3 (.tmp 41) (.const (.int .i64 1)) 3, none⟩]
def q53_14 : SCode := .draw [⟨some 43, .move (.tmp 5), none⟩,
    ⟨some 44, .move (.tmp 0), none⟩,
    ⟨some 45, .move (.tmp 1), none⟩,
    ⟨some 46, .move (.tmp 0), none⟩,
    ⟨some 47, .nilCheck (.tmp 46), none⟩,
    ⟨some 48, .fieldAddr 62 (.tmp 47) 1, none⟩,
    ⟨some 49, .load 60 (.tmp 48), none⟩,
    ⟨some 50, .move (.tmp 6), none⟩,
    ⟨some 51, .indexAddr 60 (.tmp 49) (.tmp 50), none⟩,
    ⟨some 52, .load 63 (.tmp 51), none⟩,
    ⟨some 53, .binOp .andNot 63 (.tmp 45) (.tmp 52) 63, none⟩,
    ⟨some 54, .move (.tmp 6), none⟩,
    ⟨some 55, .binOp .shl 63 (.const (.int .u64 1)) (.tmp 54) 3, none⟩,
    ⟨some 56, .binOp .andNot 63 (.tmp 53) (.tmp 55) 63, none⟩,
    ⟨some 57, .call { callee := .value (.func 53), args := #[.tmp 44, .tmp 56], argTypes := #[57, 63] }, none⟩,
    ⟨some 58, .binOp .add 3 (.const (.int .i64 1)) (.tmp 57) 3, none⟩,
    ⟨some 59, .move (.tmp 0), none⟩,
    ⟨some 60, .move (.tmp 1), none⟩,
    ⟨some 61, .move (.tmp 6), none⟩,
    ⟨some 62, .binOp .shl 63 (.const (.int .u64 1)) (.tmp 61) 3, none⟩,
    ⟨some 63, .binOp .andNot 63 (.tmp 60) (.tmp 62) 63, none⟩,
    ⟨some 64, .call { callee := .value (.func 53), args := #[.tmp 59, .tmp 63], argTypes := #[57, 63] }, none⟩,
    ⟨some 65, .call { callee := .builtin .max, args := #[.tmp 58, .tmp 64], argTypes := #[3, 3] }, none⟩,
    ⟨some 66, .binOp .add 3 (.tmp 43) (.tmp 65) 3, none⟩,
    ⟨some 4, .assign (.tmp 66), none⟩]
   [[], [], [], [], [3], [4], [5], [], [6, 7], [8], [2, 9], [], [11], [10, 12], [1, 13], [14], [], [], [], [18], [17, 19], [16, 20, 14], [15, 21], [0, 22], [23, 21, 0, 1, 2, 3, 4, 5, 6, 7, 8, 9, 10, 11, 12, 13, 14, 15, 16, 17, 18, 19, 20, 21, 22, 23]]
@[reducible] def q53_15 : SCode := .region [⟨some 67, .move (.tmp 5), none⟩,
    ⟨some 68, .binOp .add 3 (.tmp 67) (.const (.int .i64 1)) 3, none⟩,
    ⟨some 5, .assign (.tmp 68), none⟩]
def q53_16 : SCode := .draw [⟨some 69, .move (.tmp 1), none⟩,
    ⟨some 70, .move (.tmp 0), none⟩,
    ⟨some 71, .nilCheck (.tmp 70), none⟩,
    ⟨some 72, .fieldAddr 62 (.tmp 71) 1, none⟩,
    ⟨some 73, .load 60 (.tmp 72), none⟩,
    ⟨some 74, .move (.tmp 6), none⟩,
    ⟨some 75, .indexAddr 60 (.tmp 73) (.tmp 74), none⟩,
    ⟨some 76, .load 63 (.tmp 75), none⟩,
    ⟨some 77, .move (.tmp 6), none⟩,
    ⟨some 78, .binOp .shl 63 (.const (.int .u64 1)) (.tmp 77) 3, none⟩,
    ⟨some 79, .binOp .or 63 (.tmp 76) (.tmp 78) 63, none⟩,
    ⟨some 80, .binOp .andNot 63 (.tmp 69) (.tmp 79) 63, none⟩,
    ⟨some 1, .assign (.tmp 80), none⟩]
   [[], [], [1], [2], [3], [], [4, 5], [6], [], [8], [7, 9], [0, 10], [11, 0, 1, 2, 3, 4, 5, 6, 7, 8, 9, 10, 11]]
def l53_1 : SCode := (.seq (.seq q53_2 (.cond (.tmp 12) .skip (.exit 0))) (.block 1 (.seq q53_3 (.seq (.seq q53_4 (.block 2 (.loop l53_0))) (.seq (.seq q53_13 (.cond (.tmp 42) (.seq q53_14 .ret) .skip)) (.seq q53_15 q53_16))))))
@[reducible] def q53_17 : SCode := .region [⟨some 81, .move (.tmp 5), none⟩,
    ⟨some 4, .assign (.tmp 81), none⟩]
def s53 : SCode := (.seq q53_0 (.seq q53_1 (.seq (.block 0 (.loop l53_1)) (.seq q53_17 .ret))))
theorem s53_strip : stripC (bodyOf Tryd.f53) = s53 := by kernel_rfl
theorem s53_ok : codeOK 82 (bodyOf Tryd.f53) = true := by kernel_rfl
theorem s53_call [Tabs Tryd.prog] {args : List Value} {h : Heap} {Q : Value → Heap → Prop} (hsz : args.length ≤ 82) (hk : aw Tryd.prog 82 s53 (aPost Tryd.prog [.tmp 4] Q) (argEnv 0 args) h) : ACall Tryd.prog 53 args h Q :=
  acall_s Tryd.func53 rfl (enters_of Tryd.func53 (by kernel_rfl) rfl) rfl rfl (by decide) s53_strip s53_ok hsz hk

/-! 54: planchet planchetref05.near -/
@[reducible] def q54_0 : SCode := .region [⟨some 8, .assign (.const (.bool false)), none⟩]
@[reducible] def q54_1 : SCode := .region [⟨some 11, .move (.tmp 1), none⟩,
    ⟨some 12, .move (.const (.int .i64 0)), none⟩]
@[reducible] def q54_2 : SCode := .region [⟨some 13, .binOp .lss 3 (.tmp 12) (.tmp 11) 3, none⟩]
def q54_3 : SCode := .draw [⟨some 14, .move (.tmp 2), none⟩,
    ⟨some 15, .move (.tmp 0), none⟩,
    ⟨some 16, .call { callee := .builtin .len, args := #[.tmp 15], argTypes := #[22] }, none⟩,
    ⟨some 17, .binOp .rem 3 (.tmp 14) (.tmp 16) 3, none⟩,
    ⟨some 18, .move (.tmp 3), none⟩,
    ⟨some 19, .move (.tmp 0), none⟩,
    ⟨some 20, .call { callee := .builtin .len, args := #[.tmp 19], argTypes := #[22] }, none⟩,
    ⟨some 21, .binOp .rem 3 (.tmp 18) (.tmp 20) 3, none⟩,
    ⟨some 9, .assign (.tmp 17), none⟩,
    ⟨some 10, .assign (.tmp 21), none⟩]
   [[], [], [1], [0, 2], [], [], [5], [4, 6], [3, 0, 1, 2, 3], [7, 8, 0, 1, 2, 3, 4, 5, 6, 7, 8]]
@[reducible] def q54_4 : SCode := .region [⟨some 22, .move (.tmp 9), none⟩,
    ⟨some 23, .move (.tmp 10), none⟩,
    ⟨some 24, .binOp .neq 3 (.tmp 22) (.tmp 23) 3, none⟩,
    ⟨some 25, .move (.tmp 24), none⟩,
    ⟨some 26, .move (.tmp 0), some (25, true)⟩,
    ⟨some 27, .move (.tmp 9), some (25, true)⟩,
    ⟨some 28, .indexAddr 22 (.tmp 26) (.tmp 27), some (25, true)⟩,
    ⟨some 29, .load 3 (.tmp 28), some (25, true)⟩,
    ⟨some 30, .move (.tmp 10), some (25, true)⟩,
    ⟨some 31, .binOp .shr 3 (.tmp 29) (.tmp 30) 3, some (25, true)⟩,
    ⟨some 32, .binOp .and 3 (.tmp 31) (.const (.int .i64 1)) 3, some (25, true)⟩,
    ⟨some 33, .binOp .eql 3 (.tmp 32) (.const (.int .i64 0)) 3, some (25, true)⟩,
    ⟨some 34, .pick (.tmp 25) (.tmp 33) (.const (.bool false)), none⟩]
@[reducible] def q54_5 : SCode := .region [⟨some 8, .assign (.const (.bool false)), none⟩]
@[reducible] def q54_6 : SCode := .region [⟨some 35, .move (.tmp 2), none⟩,
    ⟨some 36, .move (.tmp 0), none⟩,
    ⟨some 37, .call { callee := .builtin .len, args := #[.tmp 36], argTypes := #[22] }, none⟩,
    ⟨some 38, .binOp .quo 3 (.tmp 35) (.tmp 37) 3, none⟩,
    ⟨some 2, .assign (.tmp 38), none⟩]
@[reducible] def q54_7 : SCode := .region [⟨some 39, .move (.tmp 3), none⟩,
    ⟨some 40, .move (.tmp 0), none⟩,
    ⟨some 41, .call { callee := .builtin .len, args := #[.tmp 40], argTypes := #[22] }, none⟩,
    ⟨some 42, .binOp .quo 3 (.tmp 39) (.tmp 41) 3, none⟩,
    ⟨some 3, .assign (.tmp 42), none⟩]
@[reducible] def q54_8 : SCode := .region [⟨some 43, .binOp .add 3 (.tmp 12) (.const (.int .i64 1)) 3, none⟩,
    ⟨some 12, .move (.tmp 43), none⟩]
def l54_0 : SCode := (.seq q54_2 (.seq (.cond (.tmp 13) .skip (.exit 0)) (.seq (.block 1 (.seq q54_3 (.seq (.seq q54_4 (.cond (.tmp 34) (.seq q54_5 .ret) .skip)) (.seq q54_6 q54_7)))) q54_8)))
@[reducible] def q54_9 : SCode := .region [⟨some 8, .assign (.const (.bool true)), none⟩]
def s54 : SCode := (.seq q54_0 (.seq (.seq q54_1 (.block 0 (.loop l54_0))) (.seq q54_9 .ret)))
theorem s54_strip : stripC (bodyOf Tryd.f54) = s54 := by kernel_rfl
theorem s54_ok : codeOK 44 (bodyOf Tryd.f54) = true := by kernel_rfl
theorem s54_call [Tabs Tryd.prog] {args : List Value} {h : Heap} {Q : Value → Heap → Prop} (hsz : args.length ≤ 44) (hk : aw Tryd.prog 44 s54 (aPost Tryd.prog [.tmp 8] Q) (argEnv 0 args) h) : ACall Tryd.prog 54 args h Q :=
  acall_s Tryd.func54 rfl (enters_of Tryd.func54 (by kernel_rfl) rfl) rfl rfl (by decide) s54_strip s54_ok hsz hk

/-! 55: planchet planchetref05.most -/
@[reducible] def q55_0 : SCode := .region [⟨some 4, .assign (.const (.int .i64 0)), none⟩]
@[reducible] def q55_1 : SCode := .region [⟨some 5, .assign (.const (.int .i64 0)), none⟩]
@[reducible] def q55_2 : SCode := .region [⟨some 15, .move (.tmp 1), none⟩,
    ⟨some 16, .binOp .neq 63 (.tmp 15) (.const (.int .u64 0)) 63, none⟩]
@[reducible] def q55_3 : SCode := .region [⟨some 6, .assign (.const (.int .i64 (-1))), none⟩,
    ⟨some 7, .assign (.const (.int .i64 0)), none⟩]
@[reducible] def q55_4 : SCode := .region [⟨some 17, .move (.tmp 0), none⟩,
    ⟨some 18, .call { callee := .builtin .len, args := #[.tmp 17], argTypes := #[60] }, none⟩,
    ⟨some 19, .move (.const (.int .i64 0)), none⟩]
@[reducible] def q55_5 : SCode := .region [⟨some 20, .binOp .lss 3 (.tmp 19) (.tmp 18) 3, none⟩]
@[reducible] def q55_6 : SCode := .region [⟨some 21, .move (.tmp 19), none⟩,
    ⟨some 22, .indexAddr 60 (.tmp 17) (.tmp 19), none⟩,
    ⟨some 23, .load 63 (.tmp 22), none⟩,
    ⟨some 8, .assign (.tmp 21), none⟩,
    ⟨some 9, .assign (.tmp 23), none⟩]
@[reducible] def q55_7 : SCode := .region [⟨some 24, .move (.tmp 1), none⟩,
    ⟨some 25, .move (.tmp 8), none⟩,
    ⟨some 26, .binOp .shr 63 (.tmp 24) (.tmp 25) 3, none⟩,
    ⟨some 27, .binOp .and 63 (.tmp 26) (.const (.int .u64 1)) 63, none⟩,
    ⟨some 28, .binOp .eql 63 (.tmp 27) (.const (.int .u64 1)) 63, none⟩]
@[reducible] def q55_8 : SCode := .region [⟨some 29, .move (.tmp 1), none⟩,
    ⟨some 30, .move (.tmp 9), none⟩,
    ⟨some 31, .binOp .and 63 (.tmp 29) (.tmp 30) 63, none⟩,
    ⟨some 32, .call { callee := .value (.func 80), args := #[.tmp 31], argTypes := #[63] }, none⟩,
    ⟨some 10, .assign (.tmp 32), none⟩]
@[reducible] def q55_9 : SCode := .region [⟨some 33, .move (.tmp 10), none⟩,
    ⟨some 34, .move (.tmp 7), none⟩,
    ⟨some 35, .binOp .gtr 3 (.tmp 33) (.tmp 34) 3, none⟩]
@[reducible] def q55_10 : SCode := .region [⟨some 36, .move (.tmp 8), none⟩,
    ⟨some 37, .move (.tmp 10), none⟩,
    ⟨some 6, .assign (.tmp 36), none⟩,
    ⟨some 7, .assign (.tmp 37), none⟩]
@[reducible] def q55_11 : SCode := .region [⟨some 38, .binOp .add 3 (.tmp 19) (.const (.int .i64 1)) 3, none⟩,
    ⟨some 19, .move (.tmp 38), none⟩]
def l55_0 : SCode := (.seq q55_5 (.seq (.cond (.tmp 20) .skip (.exit 2)) (.seq (.block 3 (.seq q55_6 (.seq q55_7 (.cond (.tmp 28) (.seq q55_8 (.seq q55_9 (.cond (.tmp 35) q55_10 .skip))) .skip)))) q55_11)))
@[reducible] def q55_12 : SCode := .region [⟨some 39, .move (.tmp 7), none⟩,
    ⟨some 40, .binOp .leq 3 (.tmp 39) (.const (.int .i64 2)) 3, none⟩]
@[reducible] def q55_13 : SCode := .region [⟨some 41, .move (.tmp 0), none⟩,
    ⟨some 42, .call { callee := .builtin .len, args := #[.tmp 41], argTypes := #[60] }, none⟩,
    ⟨some 43, .move (.const (.int .i64 0)), none⟩]
@[reducible] def q55_14 : SCode := .region [⟨some 44, .binOp .lss 3 (.tmp 43) (.tmp 42) 3, none⟩]
@[reducible] def q55_15 : SCode := .region [⟨some 45, .move (.tmp 43), none⟩,
    ⟨some 46, .indexAddr 60 (.tmp 41) (.tmp 43), none⟩,
    ⟨some 47, .load 63 (.tmp 46), none⟩,
    ⟨some 11, .assign (.tmp 45), none⟩,
    ⟨some 12, .assign (.tmp 47), none⟩]
@[reducible] def q55_16 : SCode := .region [⟨some 48, .move (.tmp 1), none⟩,
    ⟨some 49, .move (.tmp 11), none⟩,
    ⟨some 50, .binOp .shr 63 (.tmp 48) (.tmp 49) 3, none⟩,
    ⟨some 51, .binOp .and 63 (.tmp 50) (.const (.int .u64 1)) 63, none⟩,
    ⟨some 52, .binOp .eql 63 (.tmp 51) (.const (.int .u64 1)) 63, none⟩]
@[reducible] def q55_17 : SCode := .region [⟨some 53, .move (.tmp 1), none⟩,
    ⟨some 54, .move (.tmp 12), none⟩,
    ⟨some 55, .binOp .andNot 63 (.tmp 53) (.tmp 54) 63, none⟩,
    ⟨some 1, .assign (.tmp 55), none⟩]
@[reducible] def q55_18 : SCode := .region [⟨some 56, .move (.tmp 5), none⟩,
    ⟨some 57, .binOp .add 3 (.tmp 56) (.const (.int .i64 1)) 3, none⟩,
    ⟨some 5, .assign (.tmp 57), none⟩]
@[reducible] def q55_19 : SCode := .region [⟨some 58, .binOp .add 3 (.tmp 43) (.const (.int .i64 1)) 3, none⟩,
    ⟨some 43, .move (.tmp 58), none⟩]
def l55_1 : SCode := (.seq q55_14 (.seq (.cond (.tmp 44) .skip (.exit 4)) (.seq (.block 5 (.seq q55_15 (.seq q55_16 (.cond (.tmp 52) (.seq q55_17 q55_18) .skip)))) q55_19)))
@[reducible] def q55_20 : SCode := .region [⟨some 59, .move (.tmp 5), none⟩,
    ⟨some 4, .assign (.tmp 59), none⟩]
@[reducible] def q55_21 : SCode := .region [⟨some 60, .move (.tmp 0), none⟩,
    ⟨some 61, .move (.tmp 1), none⟩,
    ⟨some 62, .move (.tmp 6), none⟩,
    ⟨some 63, .binOp .shl 63 (.const (.int .u64 1)) (.tmp 62) 3, none⟩,
    ⟨some 64, .binOp .andNot 63 (.tmp 61) (.tmp 63) 63, none⟩,
    ⟨some 65, .call { callee := .value (.func 55), args := #[.tmp 60, .tmp 64], argTypes := #[60, 63] }, none⟩,
    ⟨some 13, .assign (.tmp 65), none⟩]
@[reducible] def q55_22 : SCode := .region [⟨some 66, .move (.tmp 0), none⟩,
    ⟨some 67, .move (.tmp 1), none⟩,
    ⟨some 68, .move (.tmp 0), none⟩,
    ⟨some 69, .move (.tmp 6), none⟩,
    ⟨some 70, .indexAddr 60 (.tmp 68) (.tmp 69), none⟩,
    ⟨some 71, .load 63 (.tmp 70), none⟩,
    ⟨some 72, .binOp .andNot 63 (.tmp 67) (.tmp 71) 63, none⟩,
    ⟨some 73, .call { callee := .value (.func 55), args := #[.tmp 66, .tmp 72], argTypes := #[60, 63] }, none⟩,
    ⟨some 74, .binOp .add 3 (.const (.int .i64 1)) (.tmp 73) 3, none⟩,
    ⟨some 14, .assign (.tmp 74), none⟩]
@[reducible] def q55_23 : SCode := .region [⟨some 75, .move (.tmp 5), none⟩,
    ⟨some 76, .move (.tmp 14), none⟩,
    ⟨some 77, .move (.tmp 13), none⟩,
    ⟨some 78, .call { callee := .builtin .max, args := #[.tmp 76, .tmp 77], argTypes := #[3, 3] }, none⟩,
    ⟨some 79, .binOp .add 3 (.tmp 75) (.tmp 78) 3, none⟩,
    ⟨some 4, .assign (.tmp 79), none⟩]
def l55_2 : SCode := (.seq (.seq q55_2 (.cond (.tmp 16) .skip (.exit 0))) (.block 1 (.seq q55_3 (.seq (.seq q55_4 (.block 2 (.loop l55_0))) (.seq (.seq q55_12 (.cond (.tmp 40) (.seq (.seq q55_13 (.block 4 (.loop l55_1))) (.seq q55_20 .ret)) .skip)) (.seq q55_21 (.seq q55_22 (.seq q55_23 .ret))))))))
@[reducible] def q55_24 : SCode := .region [⟨some 80, .move (.tmp 5), none⟩,
    ⟨some 4, .assign (.tmp 80), none⟩]
def s55 : SCode := (.seq q55_0 (.seq q55_1 (.seq (.block 0 (.loop l55_2)) (.seq q55_24 .ret))))
theorem s55_strip : stripC (bodyOf Tryd.f55) = s55 := by kernel_rfl
theorem s55_ok : codeOK 81 (bodyOf Tryd.f55) = true := by kernel_rfl
theorem s55_call [Tabs Tryd.prog] {args : List Value} {h : Heap} {Q : Value → Heap → Prop} (hsz : args.length ≤ 81) (hk : aw Tryd.prog 81 s55 (aPost Tryd.prog [.tmp 4] Q) (argEnv 0 args) h) : ACall Tryd.prog 55 args h Q :=
  acall_s Tryd.func55 rfl (enters_of Tryd.func55 (by kernel_rfl) rfl) rfl rfl (by decide) s55_strip s55_ok hsz hk

/-! 77: (planchet sure.graph).confused -/
@[reducible] def q77_0 : SCode := .region [⟨some 8, .assign (.const (.bool false)), none⟩]
@[reducible] def q77_1 : SCode := .region [⟨some 11, .move (.tmp 3), none⟩,
    ⟨some 12, .move (.const (.int .i64 0)), none⟩]
@[reducible] def q77_2 : SCode := .region [⟨some 13, .binOp .lss 3 (.tmp 12) (.tmp 11) 3, none⟩]
def q77_3 : SCode := .draw [⟨some 14, .move (.tmp 1), none⟩,
    ⟨some 15, .move (.tmp 0), none⟩,
    ⟨some 16, .call { callee := .builtin .len, args := #[.tmp 15], argTypes := #[56] }, none⟩,
    ⟨some 17, .binOp .rem 3 (.tmp 14) (.tmp 16) 3, none⟩,
    ⟨some 18, .move (.tmp 2), none⟩,
    ⟨some 19, .move (.tmp 0), none⟩,
    ⟨some 20, .call { callee := .builtin .len, args := #[.tmp 19], argTypes := #[56] }, none⟩,
    ⟨some 21, .binOp .rem 3 (.tmp 18) (.tmp 20) 3, none⟩,
    ⟨some 9, .assign (.tmp 17), none⟩,
    ⟨some 10, .assign (.tmp 21), none⟩]
   [[], [], [1], [0, 2], [], [], [5], [4, 6], [3, 0, 1, 2, 3], [7, 8, 0, 1, 2, 3, 4, 5, 6, 7, 8]]
@[reducible] def q77_4 : SCode := .region [⟨some 22, .move (.tmp 9), none⟩,
    ⟨some 23, .move (.tmp 10), none⟩,
    ⟨some 24, .binOp .neq 3 (.tmp 22) (.tmp 23) 3, none⟩,
    ⟨some 25, .move (.tmp 24), none⟩,
    ⟨some 26, .move (.tmp 0), some (25, true)⟩,
    ⟨some 27, .move (.tmp 9), some (25, true)⟩,
    ⟨some 28, .indexAddr 56 (.tmp 26) (.tmp 27), some (25, true)⟩,
    ⟨some 29, .load 3 (.tmp 28), some (25, true)⟩,
    ⟨some 30, .move (.tmp 10), some (25, true)⟩,
    ⟨some 31, .binOp .shr 3 (.tmp 29) (.tmp 30) 3, some (25, true)⟩,
    ⟨some 32, .binOp .and 3 (.tmp 31) (.const (.int .i64 1)) 3, some (25, true)⟩,
    ⟨some 33, .binOp .eql 3 (.tmp 32) (.const (.int .i64 0)) 3, some (25, true)⟩,
    ⟨some 34, .pick (.tmp 25) (.tmp 33) (.const (.bool false)), none⟩]
@[reducible] def q77_5 : SCode := .region [⟨some 8, .assign (.const (.bool false)), none⟩]
def q77_6 : SCode := .draw [⟨some 35, .move (.tmp 1), none⟩,
    ⟨some 36, .move (.tmp 0), none⟩,
    ⟨some 37, .call { callee := .builtin .len, args := #[.tmp 36], argTypes := #[56] }, none⟩,
    ⟨some 38, .binOp .quo 3 (.tmp 35) (.tmp 37) 3, none⟩,
    ⟨some 39, .move (.tmp 2), none⟩,
    ⟨some 40, .move (.tmp 0), none⟩,
    ⟨some 41, .call { callee := .builtin .len, args := #[.tmp 40], argTypes := #[56] }, none⟩,
    ⟨some 42, .binOp .quo 3 (.tmp 39) (.tmp 41) 3, none⟩,
    ⟨some 1, .assign (.tmp 38), none⟩,
    ⟨some 2, .assign (.tmp 42), none⟩]
   [[], [], [1], [0, 2], [], [], [5], [4, 6], [3, 0, 1, 2, 3], [7, 8, 0, 1, 2, 3, 4, 5, 6, 7, 8]]
@[reducible] def q77_7 : SCode := .region [⟨some 43, .binOp .add 3 (.tmp 12) (.const (.int .i64 1)) 3, none⟩,
    ⟨some 12, .move (.tmp 43), none⟩]
def l77_0 : SCode := (.seq q77_2 (.seq (.cond (.tmp 13) .skip (.exit 0)) (.seq (.block 1 (.seq (.seq q77_3 (.seq q77_4 (.cond (.tmp 34) (.seq q77_5 .ret) .skip))) q77_6)) q77_7)))
@[reducible] def q77_8 : SCode := .region [⟨some 8, .assign (.const (.bool true)), none⟩]
def s77 : SCode := (.seq q77_0 (.seq (.seq q77_1 (.block 0 (.loop l77_0))) (.seq q77_8 .ret)))
theorem s77_strip : stripC (bodyOf Tryd.f77) = s77 := by kernel_rfl
theorem s77_ok : codeOK 44 (bodyOf Tryd.f77) = true := by kernel_rfl
theorem s77_call [Tabs Tryd.prog] {args : List Value} {h : Heap} {Q : Value → Heap → Prop} (hsz : args.length ≤ 44) (hk : aw Tryd.prog 44 s77 (aPost Tryd.prog [.tmp 8] Q) (argEnv 0 args) h) : ACall Tryd.prog 77 args h Q :=
  acall_s Tryd.func77 rfl (enters_of Tryd.func77 (by kernel_rfl) rfl) rfl rfl (by decide) s77_strip s77_ok hsz hk

/-! 79: math bits.OnesCount64 -/
@[reducible] def q79_0 : SCode := .region [⟨some 2, .assign (.const (.int .i64 0)), none⟩]
@[reducible] def q79_1 : SCode := .region [⟨some 3, .move (.tmp 0), none⟩,
    ⟨some 4, .binOp .shr 63 (.tmp 3) (.const (.int .u64 1)) 42, none⟩,
    ⟨some 5, .binOp .and 63 (.tmp 4) (.const (.int .u64 6148914691236517205)) 63, none⟩,
    ⟨some 6, .move (.tmp 0), none⟩,
    ⟨some 7, .binOp .and 63 (.tmp 6) (.const (.int .u64 6148914691236517205)) 63, none⟩,
    ⟨some 8, .binOp .add 63 (.tmp 5) (.tmp 7) 63, none⟩,
    ⟨some 0, .assign (.tmp 8), none⟩]
@[reducible] def q79_2 : SCode := .region [⟨some 9, .move (.tmp 0), none⟩,
    ⟨some 10, .binOp .shr 63 (.tmp 9) (.const (.int .u64 2)) 42, none⟩,
    ⟨some 11, .binOp .and 63 (.tmp 10) (.const (.int .u64 3689348814741910323)) 63, none⟩,
    ⟨some 12, .move (.tmp 0), none⟩,
    ⟨some 13, .binOp .and 63 (.tmp 12) (.const (.int .u64 3689348814741910323)) 63, none⟩,
    ⟨some 14, .binOp .add 63 (.tmp 11) (.tmp 13) 63, none⟩,
    ⟨some 0, .assign (.tmp 14), none⟩]
@[reducible] def q79_3 : SCode := .region [⟨some 15, .move (.tmp 0), none⟩,
    ⟨some 16, .binOp .shr 63 (.tmp 15) (.const (.int .u64 4)) 42, none⟩,
    ⟨some 17, .move (.tmp 0), none⟩,
    ⟨some 18, .binOp .add 63 (.tmp 16) (.tmp 17) 63, none⟩,
    ⟨some 19, .binOp .and 63 (.tmp 18) (.const (.int .u64 1085102592571150095)) 63, none⟩,
    ⟨some 0, .assign (.tmp 19), none⟩]
@[reducible] def q79_4 : SCode := .region [⟨some 20, .move (.tmp 0), none⟩,
    ⟨some 21, .move (.tmp 0), none⟩,
    ⟨some 22, .binOp .shr 63 (.tmp 21) (.const (.int .u64 8)) 42, none⟩,
    ⟨some 23, .binOp .add 63 (.tmp 20) (.tmp 22) 63, none⟩,
    ⟨some 0, .assign (.tmp 23), none⟩]
@[reducible] def q79_5 : SCode := .region [⟨some 24, .move (.tmp 0), none⟩,
    ⟨some 25, .move (.tmp 0), none⟩,
    ⟨some 26, .binOp .shr 63 (.tmp 25) (.const (.int .u64 16)) 42, none⟩,
    ⟨some 27, .binOp .add 63 (.tmp 24) (.tmp 26) 63, none⟩,
    ⟨some 0, .assign (.tmp 27), none⟩]
@[reducible] def q79_6 : SCode := .region [⟨some 28, .move (.tmp 0), none⟩,
    ⟨some 29, .move (.tmp 0), none⟩,
    ⟨some 30, .binOp .shr 63 (.tmp 29) (.const (.int .u64 32)) 42, none⟩,
    ⟨some 31, .binOp .add 63 (.tmp 28) (.tmp 30) 63, none⟩,
    ⟨some 0, .assign (.tmp 31), none⟩]
@[reducible] def q79_7 : SCode := .region [⟨some 32, .move (.tmp 0), none⟩,
    ⟨some 33, .convert 63 3 (.tmp 32), none⟩,
    ⟨some 34, .binOp .and 3 (.tmp 33) (.const (.int .i64 127)) 3, none⟩,
    ⟨some 2, .assign (.tmp 34), none⟩]
def s79 : SCode := (.seq q79_0 (.seq q79_1 (.seq q79_2 (.seq q79_3 (.seq q79_4 (.seq q79_5 (.seq q79_6 (.seq q79_7 .ret))))))))
theorem s79_strip : stripC (bodyOf Tryd.f79) = s79 := by kernel_rfl
theorem s79_ok : codeOK 35 (bodyOf Tryd.f79) = true := by kernel_rfl
theorem s79_call [Tabs Tryd.prog] {args : List Value} {h : Heap} {Q : Value → Heap → Prop} (hsz : args.length ≤ 35) (hk : aw Tryd.prog 35 s79 (aPost Tryd.prog [.tmp 2] Q) (argEnv 0 args) h) : ACall Tryd.prog 79 args h Q :=
  acall_s Tryd.func79 rfl (enters_of Tryd.func79 (by kernel_rfl) rfl) rfl rfl (by decide) s79_strip s79_ok hsz hk

/-! 80: planchet planchetref05.count -/
@[reducible] def q80_0 : SCode := .region [⟨some 2, .assign (.const (.int .i64 0)), none⟩]
@[reducible] def q80_1 : SCode := .region [⟨some 3, .assign (.const (.int .i64 0)), none⟩]
@[reducible] def q80_2 : SCode := .region [⟨some 4, .move (.tmp 0), none⟩,
    ⟨some 5, .binOp .gtr 63 (.tmp 4) (.const (.int .u64 0)) 63, none⟩]
@[reducible] def q80_4 : SCode := .region [⟨some 10, .move (.tmp 3), none⟩,
    ⟨some 11, .binOp .add 3 (.tmp 10) (.const (.int .i64 1)) 3, none⟩,
    ⟨some 3, .assign (.tmp 11), none⟩]
@[reducible] def q80_3 : SCode := .region [⟨some 6, .move (.tmp 0), none⟩,
    ⟨some 7, .move (.tmp 0), none⟩,
    ⟨some 8, .binOp .sub 63 (.tmp 7) (.const (.int .u64 1)) 63, none⟩,
    ⟨some 9, .binOp .and 63 (.tmp 6) (.tmp 8) 63, none⟩,
    ⟨some 0, .assign (.tmp 9), none⟩]
def l80_0 : SCode := (.seq (.seq q80_2 (.cond (.tmp 5) .skip (.exit 0))) (.seq (.block 1 q80_4) q80_3))
@[reducible] def q80_5 : SCode := .region [⟨some 12, .move (.tmp 3), none⟩,
    ⟨some 2, .assign (.tmp 12), none⟩]
def s80 : SCode := (.seq q80_0 (.seq q80_1 (.seq (.block 0 (.loop l80_0)) (.seq q80_5 .ret))))
theorem s80_strip : stripC (bodyOf Tryd.f80) = s80 := by kernel_rfl
theorem s80_ok : codeOK 13 (bodyOf Tryd.f80) = true := by kernel_rfl
theorem s80_call [Tabs Tryd.prog] {args : List Value} {h : Heap} {Q : Value → Heap → Prop} (hsz : args.length ≤ 13) (hk : aw Tryd.prog 13 s80 (aPost Tryd.prog [.tmp 2] Q) (argEnv 0 args) h) : ACall Tryd.prog 80 args h Q :=
  acall_s Tryd.func80 rfl (enters_of Tryd.func80 (by kernel_rfl) rfl) rfl rfl (by decide) s80_strip s80_ok hsz hk

end Go.Proofs.Tryd.Am

/- Printed by gen.py: the code of some functions, without what no step looks at; held against the program's own by the kernel. -/
import Derived.Test.YtaagkbbphgdcdaaDoorAmO
import Derived.Test.YtaagkbbphgdcdaaDoorProg
import Derived.KernelRfl
import Derived.Shelf.Abstract
set_option linter.all false
namespace Go.Proofs.Tryd.Am
open Go.Am
set_option maxRecDepth 100000
/-! 5: planchet planchetlaw05.SureCliques -/
@[reducible] def q5_0 : SCode := .region [⟨some 2, .assign (.const (.bool false)), none⟩]
@[reducible] def q5_1 : SCode := .region [⟨some 8, .move (.tmp 0), none⟩,
    ⟨some 9, .call { callee := .value (.func 18), args := #[.tmp 8], argTypes := #[22] }, none⟩,
    ⟨some 10, .call { callee := .value (.func 27), args := #[.tmp 9], argTypes := #[22] }, none⟩,
    ⟨some 7, .move (.tmp 10), none⟩,
    ⟨some 11, .extract (.tmp 7) 0, none⟩,
    ⟨some 12, .extract (.tmp 7) 1, none⟩,
    ⟨some 3, .assign (.tmp 11), none⟩,
    ⟨some 4, .assign (.tmp 12), none⟩]
@[reducible] def q5_2 : SCode := .region [⟨some 14, .move (.tmp 0), none⟩,
    ⟨some 15, .call { callee := .value (.func 18), args := #[.tmp 14], argTypes := #[22] }, none⟩,
    ⟨some 16, .call { callee := .value (.func 28), args := #[.tmp 15], argTypes := #[22] }, none⟩,
    ⟨some 13, .move (.tmp 16), none⟩,
    ⟨some 17, .extract (.tmp 13) 0, none⟩,
    ⟨some 18, .extract (.tmp 13) 1, none⟩,
    ⟨some 5, .assign (.tmp 17), none⟩,
    ⟨some 6, .assign (.tmp 18), none⟩]
@[reducible] def q5_3 : SCode := .region [⟨some 19, .move (.tmp 0), none⟩,
    ⟨some 20, .call { callee := .value (.func 20), args := #[.tmp 19], argTypes := #[22] }, none⟩,
    ⟨some 21, .unOp .not 4 (.tmp 20), none⟩]
@[reducible] def q5_4 : SCode := .region [⟨some 22, .move (.tmp 3), none⟩,
    ⟨some 23, .call { callee := .builtin .len, args := #[.tmp 22], argTypes := #[22] }, none⟩,
    ⟨some 24, .binOp .eql 3 (.tmp 23) (.const (.int .i64 0)) 3, none⟩,
    ⟨some 25, .move (.tmp 24), none⟩,
    ⟨some 26, .move (.tmp 5), some (25, true)⟩,
    ⟨some 27, .binOp .eql 3 (.tmp 26) (.const (.int .i64 0)) 3, some (25, true)⟩,
    ⟨some 28, .pick (.tmp 25) (.tmp 27) (.const (.bool false)), none⟩,
    ⟨some 29, .move (.tmp 28), none⟩,
    ⟨some 30, .move (.tmp 4), some (29, true)⟩,
    ⟨some 31, .binOp .eql 23 (.tmp 30) (.const (.int .i64 2)) 23, some (29, true)⟩,
    ⟨some 32, .pick (.tmp 29) (.tmp 31) (.const (.bool false)), none⟩,
    ⟨some 33, .move (.tmp 32), none⟩,
    ⟨some 34, .move (.tmp 6), some (33, true)⟩,
    ⟨some 35, .binOp .eql 23 (.tmp 34) (.const (.int .i64 2)) 23, some (33, true)⟩,
    ⟨some 36, .pick (.tmp 33) (.tmp 35) (.const (.bool false)), none⟩,
    ⟨some 37, .move (.tmp 36), none⟩,
    ⟨some 38, .call { callee := .value (.func 21), args := #[], argTypes := #[] }, some (37, true)⟩,
    ⟨some 39, .pick (.tmp 37) (.tmp 38) (.const (.bool false)), none⟩,
    ⟨some 2, .assign (.tmp 39), none⟩]
@[reducible] def q5_5 : SCode := .region [⟨some 40, .move (.tmp 3), none⟩,
    ⟨some 41, .move (.tmp 0), none⟩,
    ⟨some 42, .call { callee := .value (.func 29), args := #[.tmp 41], argTypes := #[22] }, none⟩,
    ⟨some 43, .call { callee := .value (.func 24), args := #[.tmp 40, .tmp 42], argTypes := #[22, 22] }, none⟩,
    ⟨some 44, .move (.tmp 43), none⟩,
    ⟨some 45, .move (.tmp 5), some (44, true)⟩,
    ⟨some 46, .move (.tmp 0), some (44, true)⟩,
    ⟨some 47, .call { callee := .value (.func 30), args := #[.tmp 46], argTypes := #[22] }, some (44, true)⟩,
    ⟨some 48, .binOp .eql 3 (.tmp 45) (.tmp 47) 3, some (44, true)⟩,
    ⟨some 49, .pick (.tmp 44) (.tmp 48) (.const (.bool false)), none⟩,
    ⟨some 50, .move (.tmp 49), none⟩,
    ⟨some 51, .move (.tmp 4), some (50, true)⟩,
    ⟨some 52, .binOp .eql 23 (.tmp 51) (.const (.int .i64 0)) 23, some (50, true)⟩,
    ⟨some 53, .pick (.tmp 50) (.tmp 52) (.const (.bool false)), none⟩,
    ⟨some 54, .move (.tmp 53), none⟩,
    ⟨some 55, .move (.tmp 6), some (54, true)⟩,
    ⟨some 56, .binOp .eql 23 (.tmp 55) (.const (.int .i64 0)) 23, some (54, true)⟩,
    ⟨some 57, .pick (.tmp 54) (.tmp 56) (.const (.bool false)), none⟩,
    ⟨some 58, .move (.tmp 57), none⟩,
    ⟨some 59, .call { callee := .value (.func 21), args := #[], argTypes := #[] }, some (58, true)⟩,
    ⟨some 60, .pick (.tmp 58) (.tmp 59) (.const (.bool false)), none⟩,
    ⟨some 2, .assign (.tmp 60), none⟩]
def s5 : SCode := (.seq q5_0 (.seq q5_1 (.seq q5_2 (.seq (.seq q5_3 (.cond (.tmp 21) (.seq q5_4 .ret) .skip)) (.seq q5_5 .ret)))))
theorem s5_strip : stripC (bodyOf Tryd.f5) = s5 := by kernel_rfl
theorem s5_ok : codeOK 61 (bodyOf Tryd.f5) = true := by kernel_rfl
theorem s5_call [Tabs Tryd.prog] {args : List Value} {h : Heap} {Q : Value → Heap → Prop} (hsz : args.length ≤ 61) (hk : aw Tryd.prog 61 s5 (aPost Tryd.prog [.tmp 2] Q) (argEnv 0 args) h) : ACall Tryd.prog 5 args h Q :=
  acall_s Tryd.func5 rfl (enters_of Tryd.func5 (by kernel_rfl) rfl) rfl rfl (by decide) s5_strip s5_ok hsz hk

/-! 27: planchet sure.Cliques -/
@[reducible] def q27_0 : SCode := .region [⟨some 2, .assign (.const (.slice none 0 0)), none⟩,
    ⟨some 3, .assign (.const (.int .i64 0)), none⟩]
@[reducible] def q27_1 : SCode := .region [⟨some 4, .move (.tmp 0), none⟩,
    ⟨some 5, .call { callee := .value (.func 51), args := #[.tmp 4], argTypes := #[56] }, none⟩,
    ⟨some 6, .unOp .not 4 (.tmp 5), none⟩]
@[reducible] def q27_2 : SCode := .region [⟨some 2, .assign (.const (.slice none 0 0)), none⟩,
    ⟨some 3, .assign (.const (.int .i64 2)), none⟩]
@[reducible] def q27_3 : SCode := .region [⟨some 7, .move (.tmp 0), none⟩,
    ⟨some 8, .call { callee := .value (.func 56), args := #[.tmp 7], argTypes := #[56] }, none⟩,
    ⟨some 2, .assign (.tmp 8), none⟩,
    ⟨some 3, .assign (.const (.int .i64 0)), none⟩]
def s27 : SCode := (.seq q27_0 (.seq (.seq q27_1 (.cond (.tmp 6) (.seq q27_2 .ret) .skip)) (.seq q27_3 .ret)))
theorem s27_strip : stripC (bodyOf Tryd.f27) = s27 := by kernel_rfl
theorem s27_ok : codeOK 9 (bodyOf Tryd.f27) = true := by kernel_rfl
theorem s27_call [Tabs Tryd.prog] {args : List Value} {h : Heap} {Q : Value → Heap → Prop} (hsz : args.length ≤ 9) (hk : aw Tryd.prog 9 s27 (aPost Tryd.prog [.tmp 2, .tmp 3] Q) (argEnv 0 args) h) : ACall Tryd.prog 27 args h Q :=
  acall_s Tryd.func27 rfl (enters_of Tryd.func27 (by kernel_rfl) rfl) rfl rfl (by decide) s27_strip s27_ok hsz hk

/-! 28: planchet sure.Cover -/
@[reducible] def q28_0 : SCode := .region [⟨some 2, .assign (.const (.int .i64 0)), none⟩,
    ⟨some 3, .assign (.const (.int .i64 0)), none⟩]
@[reducible] def q28_1 : SCode := .region [⟨some 9, .move (.tmp 0), none⟩,
    ⟨some 4, .assign (.tmp 9), none⟩]
@[reducible] def q28_2 : SCode := .region [⟨some 10, .move (.tmp 4), none⟩,
    ⟨some 11, .call { callee := .value (.func 51), args := #[.tmp 10], argTypes := #[56] }, none⟩,
    ⟨some 12, .unOp .not 4 (.tmp 11), none⟩]
@[reducible] def q28_3 : SCode := .region [⟨some 2, .assign (.const (.int .i64 0)), none⟩,
    ⟨some 3, .assign (.const (.int .i64 2)), none⟩]
@[reducible] def q28_4 : SCode := .region [⟨some 13, .move (.tmp 4), none⟩,
    ⟨some 14, .call { callee := .value (.func 57), args := #[.tmp 13], argTypes := #[56] }, none⟩,
    ⟨some 15, .binOp .add 3 (.tmp 14) (.const (.int .i64 1)) 3, none⟩,
    ⟨some 16, .makeSlice 22 (.tmp 15) (.tmp 15), none⟩,
    ⟨some 5, .assign (.tmp 16), none⟩]
@[reducible] def q28_5 : SCode := .region [⟨some 6, .assign (.const (.int .i64 1)), none⟩]
@[reducible] def q28_6 : SCode := .region [⟨some 17, .move (.tmp 6), none⟩,
    ⟨some 18, .move (.tmp 4), none⟩,
    ⟨some 19, .call { callee := .value (.func 57), args := #[.tmp 18], argTypes := #[56] }, none⟩,
    ⟨some 20, .binOp .leq 3 (.tmp 17) (.tmp 19) 3, none⟩]
@[reducible] def q28_8 : SCode := .region [⟨some 23, .move (.tmp 5), none⟩,
    ⟨some 24, .move (.tmp 6), none⟩,
    ⟨some 25, .move (.tmp 0), none⟩,
    ⟨some 26, .call { callee := .builtin .len, args := #[.tmp 25], argTypes := #[22] }, none⟩,
    ⟨some 27, .indexAddr 22 (.tmp 23) (.tmp 24), none⟩,
    ⟨none, .store 3 (.tmp 27) (.tmp 26), none⟩]
@[reducible] def q28_9 : SCode := .region [⟨some 28, .move (.tmp 4), none⟩,
    ⟨some 29, .call { callee := .value (.func 56), args := #[.tmp 28], argTypes := #[56] }, none⟩,
    ⟨some 30, .call { callee := .builtin .len, args := #[.tmp 29], argTypes := #[22] }, none⟩,
    ⟨some 31, .move (.const (.int .i64 0)), none⟩]
@[reducible] def q28_10 : SCode := .region [⟨some 32, .binOp .lss 3 (.tmp 31) (.tmp 30) 3, none⟩]
@[reducible] def q28_11 : SCode := .region [⟨some 33, .indexAddr 22 (.tmp 29) (.tmp 31), none⟩,
    ⟨some 34, .load 3 (.tmp 33), none⟩,
    ⟨some 8, .assign (.tmp 34), none⟩]
@[reducible] def q28_12 : SCode := .region [⟨some 35, .move (.tmp 8), none⟩,
    ⟨some 36, .move (.tmp 6), none⟩,
    ⟨some 37, .binOp .and 3 (.tmp 35) (.tmp 36) 3, none⟩,
    ⟨some 38, .binOp .neq 3 (.tmp 37) (.const (.int .i64 0)) 3, none⟩]
def q28_13 : SCode := .draw [⟨some 39, .move (.tmp 5), none⟩,
    ⟨some 40, .move (.tmp 6), none⟩,
    ⟨some 41, .move (.tmp 5), none⟩,
    ⟨some 42, .move (.tmp 6), none⟩,
    ⟨some 43, .indexAddr 22 (.tmp 41) (.tmp 42), none⟩,
    ⟨some 44, .load 3 (.tmp 43), none⟩,
    ⟨some 45, .move (.tmp 5), none⟩,
    ⟨some 46, .move (.tmp 6), none⟩,
    ⟨some 47, .move (.tmp 8), none⟩,
    ⟨some 48, .binOp .andNot 3 (.tmp 46) (.tmp 47) 3, none⟩,
    ⟨some 49, .indexAddr 22 (.tmp 45) (.tmp 48), none⟩,
    ⟨some 50, .load 3 (.tmp 49), none⟩,
    ⟨some 51, .binOp .add 3 (.const (.int .i64 1)) (.tmp 50) 3, none⟩,
    ⟨some 52, .call { callee := .builtin .min, args := #[.tmp 44, .tmp 51], argTypes := #[3, 3] }, none⟩,
    ⟨some 53, .indexAddr 22 (.tmp 39) (.tmp 40), none⟩,
    ⟨none, .store 3 (.tmp 53) (.tmp 52), none⟩]
   [[], [], [], [], [2, 3], [4], [], [], [], [7, 8], [6, 9], [10], [11], [5, 12], [0, 1, 0, 1, 2, 3, 4, 5, 6, 7, 8, 9, 10, 11, 12, 13], [14, 13, 0, 1, 2, 3, 4, 5, 6, 7, 8, 9, 10, 11, 12, 13]]
@[reducible] def q28_14 : SCode := .region [⟨some 54, .binOp .add 3 (.tmp 31) (.const (.int .i64 1)) 3, none⟩,
    ⟨some 31, .move (.tmp 54), none⟩]
def l28_0 : SCode := (.seq q28_10 (.seq (.cond (.tmp 32) .skip (.exit 2)) (.seq (.block 3 (.seq q28_11 (.seq q28_12 (.cond (.tmp 38) q28_13 .skip)))) q28_14)))
@[reducible] def q28_7 : SCode := .region [⟨some 21, .move (.tmp 6), none⟩,
    ⟨some 22, .binOp .add 3 (.tmp 21) (.const (.int .i64 1)) 3, none⟩,
    ⟨some 6, .assign (.tmp 22), none⟩]
def l28_1 : SCode := (.seq (.seq q28_6 (.cond (.tmp 20) .skip (.exit 0))) (.seq (.block 1 (.seq q28_8 (.seq q28_9 (.block 2 (.loop l28_0))))) q28_7))
@[reducible] def q28_15 : SCode := .region [⟨some 55, .move (.tmp 5), none⟩,
    ⟨some 56, .move (.tmp 4), none⟩,
    ⟨some 57, .call { callee := .value (.func 57), args := #[.tmp 56], argTypes := #[56] }, none⟩,
    ⟨some 58, .indexAddr 22 (.tmp 55) (.tmp 57), none⟩,
    ⟨some 59, .load 3 (.tmp 58), none⟩,
    ⟨some 2, .assign (.tmp 59), none⟩,
    ⟨some 3, .assign (.const (.int .i64 0)), none⟩]
def s28 : SCode := (.seq q28_0 (.seq q28_1 (.seq (.seq q28_2 (.cond (.tmp 12) (.seq q28_3 .ret) .skip)) (.seq q28_4 (.seq (.seq q28_5 (.block 0 (.loop l28_1))) (.seq q28_15 .ret))))))
theorem s28_strip : stripC (bodyOf Tryd.f28) = s28 := by kernel_rfl
theorem s28_ok : codeOK 60 (bodyOf Tryd.f28) = true := by kernel_rfl
theorem s28_call [Tabs Tryd.prog] {args : List Value} {h : Heap} {Q : Value → Heap → Prop} (hsz : args.length ≤ 60) (hk : aw Tryd.prog 60 s28 (aPost Tryd.prog [.tmp 2, .tmp 3] Q) (argEnv 0 args) h) : ACall Tryd.prog 28 args h Q :=
  acall_s Tryd.func28 rfl (enters_of Tryd.func28 (by kernel_rfl) rfl) rfl rfl (by decide) s28_strip s28_ok hsz hk

/-! 29: planchet planchetref05.Cliques -/
@[reducible] def q29_0 : SCode := .region [⟨some 2, .assign (.const (.slice none 0 0)), none⟩]
@[reducible] def q29_1 : SCode := .region [⟨some 3, .assign (.const (.slice none 0 0)), none⟩]
@[reducible] def q29_2 : SCode := .region [⟨some 4, .assign (.const (.int .i64 1)), none⟩]
@[reducible] def q29_3 : SCode := .region [⟨some 8, .move (.tmp 4), none⟩,
    ⟨some 9, .move (.tmp 0), none⟩,
    ⟨some 10, .call { callee := .builtin .len, args := #[.tmp 9], argTypes := #[22] }, none⟩,
    ⟨some 11, .binOp .shl 3 (.const (.int .i64 1)) (.tmp 10) 3, none⟩,
    ⟨some 12, .binOp .lss 3 (.tmp 8) (.tmp 11) 3, none⟩]
@[reducible] def q29_5 : SCode := .region [⟨some 5, .assign (.const (.bool true)), none⟩]
@[reducible] def q29_6 : SCode := .region [⟨some 15, .move (.tmp 0), none⟩,
    ⟨some 16, .call { callee := .builtin .len, args := #[.tmp 15], argTypes := #[22] }, none⟩,
    ⟨some 17, .move (.const (.int .i64 0)), none⟩]
@[reducible] def q29_7 : SCode := .region [⟨some 18, .binOp .lss 3 (.tmp 17) (.tmp 16) 3, none⟩]
@[reducible] def q29_8 : SCode := .region [⟨some 19, .move (.tmp 17), none⟩,
    ⟨some 20, .indexAddr 22 (.tmp 15) (.tmp 17), none⟩,
    ⟨some 21, .load 3 (.tmp 20), none⟩,
    ⟨some 6, .assign (.tmp 19), none⟩,
    ⟨some 7, .assign (.tmp 21), none⟩]
@[reducible] def q29_9 : SCode := .region [⟨some 22, .move (.tmp 5), none⟩,
    ⟨some 23, .move (.tmp 22), none⟩,
    ⟨some 24, .move (.tmp 4), some (23, true)⟩,
    ⟨some 25, .move (.tmp 6), some (23, true)⟩,
    ⟨some 26, .binOp .shr 3 (.tmp 24) (.tmp 25) 3, some (23, true)⟩,
    ⟨some 27, .binOp .and 3 (.tmp 26) (.const (.int .i64 1)) 3, some (23, true)⟩,
    ⟨some 28, .binOp .eql 3 (.tmp 27) (.const (.int .i64 0)) 3, some (23, true)⟩,
    ⟨some 29, .move (.tmp 28), some (23, true)⟩,
    ⟨some 30, .move (.tmp 4), some (29, false)⟩,
    ⟨some 31, .move (.tmp 7), some (29, false)⟩,
    ⟨some 32, .binOp .andNot 3 (.tmp 30) (.tmp 31) 3, some (29, false)⟩,
    ⟨some 33, .move (.tmp 6), some (29, false)⟩,
    ⟨some 34, .binOp .shl 3 (.const (.int .i64 1)) (.tmp 33) 3, some (29, false)⟩,
    ⟨some 35, .binOp .eql 3 (.tmp 32) (.tmp 34) 3, some (29, false)⟩,
    ⟨some 36, .pick (.tmp 29) (.const (.bool true)) (.tmp 35), some (23, true)⟩,
    ⟨some 37, .pick (.tmp 23) (.tmp 36) (.const (.bool false)), none⟩,
    ⟨some 5, .assign (.tmp 37), none⟩]
@[reducible] def q29_10 : SCode := .region [⟨some 38, .binOp .add 3 (.tmp 17) (.const (.int .i64 1)) 3, none⟩,
    ⟨some 17, .move (.tmp 38), none⟩]
def l29_0 : SCode := (.seq q29_7 (.seq (.cond (.tmp 18) .skip (.exit 2)) (.seq (.block 3 (.seq q29_8 q29_9)) q29_10)))
@[reducible] def q29_11 : SCode := .region [⟨some 39, .move (.tmp 5), none⟩]
@[reducible] def q29_12 : SCode := .region [⟨some 40, .move (.tmp 3), none⟩,
    ⟨some 41, .move (.tmp 4), none⟩,
    ⟨some 42, .buildSlice 22 1 #[(0, .tmp 41)], none⟩,
    ⟨some 43, .call { callee := .builtin .append, args := #[.tmp 40, .tmp 42], argTypes := #[22, 22] }, none⟩,
    ⟨some 3, .assign (.tmp 43), none⟩]
@[reducible] def q29_4 : SCode := .region [⟨some 13, .move (.tmp 4), none⟩,
    ⟨some 14, .binOp .add 3 (.tmp 13) (.const (.int .i64 1)) 3, none⟩,
    ⟨some 4, .assign (.tmp 14), none⟩]
def l29_1 : SCode := (.seq (.seq q29_3 (.cond (.tmp 12) .skip (.exit 0))) (.seq (.block 1 (.seq q29_5 (.seq (.seq q29_6 (.block 2 (.loop l29_0))) (.seq q29_11 (.cond (.tmp 39) q29_12 .skip))))) q29_4))
@[reducible] def q29_13 : SCode := .region [⟨some 44, .move (.tmp 3), none⟩,
    ⟨some 2, .assign (.tmp 44), none⟩]
def s29 : SCode := (.seq q29_0 (.seq q29_1 (.seq (.seq q29_2 (.block 0 (.loop l29_1))) (.seq q29_13 .ret))))
theorem s29_strip : stripC (bodyOf Tryd.f29) = s29 := by kernel_rfl
theorem s29_ok : codeOK 45 (bodyOf Tryd.f29) = true := by kernel_rfl
theorem s29_call [Tabs Tryd.prog] {args : List Value} {h : Heap} {Q : Value → Heap → Prop} (hsz : args.length ≤ 45) (hk : aw Tryd.prog 45 s29 (aPost Tryd.prog [.tmp 2] Q) (argEnv 0 args) h) : ACall Tryd.prog 29 args h Q :=
  acall_s Tryd.func29 rfl (enters_of Tryd.func29 (by kernel_rfl) rfl) rfl rfl (by decide) s29_strip s29_ok hsz hk

/-! 30: planchet planchetref05.Cover -/
@[reducible] def q30_0 : SCode := .region [⟨some 2, .assign (.const (.int .i64 0)), none⟩]
@[reducible] def q30_1 : SCode := .region [⟨some 7, .move (.tmp 0), none⟩,
    ⟨some 8, .call { callee := .builtin .len, args := #[.tmp 7], argTypes := #[22] }, none⟩,
    ⟨some 9, .binOp .shl 3 (.const (.int .i64 1)) (.tmp 8) 3, none⟩,
    ⟨some 10, .makeSlice 22 (.tmp 9) (.tmp 9), none⟩,
    ⟨some 3, .assign (.tmp 10), none⟩]
@[reducible] def q30_2 : SCode := .region [⟨some 4, .assign (.const (.int .i64 1)), none⟩]
@[reducible] def q30_3 : SCode := .region [⟨some 11, .move (.tmp 4), none⟩,
    ⟨some 12, .move (.tmp 0), none⟩,
    ⟨some 13, .call { callee := .builtin .len, args := #[.tmp 12], argTypes := #[22] }, none⟩,
    ⟨some 14, .binOp .shl 3 (.const (.int .i64 1)) (.tmp 13) 3, none⟩,
    ⟨some 15, .binOp .lss 3 (.tmp 11) (.tmp 14) 3, none⟩]
@[reducible] def q30_5 : SCode := .region [⟨some 18, .move (.tmp 3), none⟩,
    ⟨some 19, .move (.tmp 4), none⟩,
    ⟨some 20, .move (.tmp 0), none⟩,
    ⟨some 21, .call { callee := .builtin .len, args := #[.tmp 20], argTypes := #[22] }, none⟩,
    ⟨some 22, .indexAddr 22 (.tmp 18) (.tmp 19), none⟩,
    ⟨none, .store 3 (.tmp 22) (.tmp 21), none⟩]
@[reducible] def q30_6 : SCode := .region [⟨some 23, .move (.tmp 0), none⟩,
    ⟨some 24, .call { callee := .value (.func 29), args := #[.tmp 23], argTypes := #[22] }, none⟩,
    ⟨some 25, .call { callee := .builtin .len, args := #[.tmp 24], argTypes := #[22] }, none⟩,
    ⟨some 26, .move (.const (.int .i64 0)), none⟩]
@[reducible] def q30_7 : SCode := .region [⟨some 27, .binOp .lss 3 (.tmp 26) (.tmp 25) 3, none⟩]
@[reducible] def q30_8 : SCode := .region [⟨some 28, .indexAddr 22 (.tmp 24) (.tmp 26), none⟩,
    ⟨some 29, .load 3 (.tmp 28), none⟩,
    ⟨some 6, .assign (.tmp 29), none⟩]
@[reducible] def q30_9 : SCode := .region [⟨some 30, .move (.tmp 6), none⟩,
    ⟨some 31, .move (.tmp 4), none⟩,
    ⟨some 32, .binOp .and 3 (.tmp 30) (.tmp 31) 3, none⟩,
    ⟨some 33, .binOp .neq 3 (.tmp 32) (.const (.int .i64 0)) 3, none⟩]
def q30_10 : SCode := .draw [⟨some 34, .move (.tmp 3), none⟩,
    ⟨some 35, .move (.tmp 4), none⟩,
    ⟨some 36, .move (.tmp 3), none⟩,
    ⟨some 37, .move (.tmp 4), none⟩,
    ⟨some 38, .indexAddr 22 (.tmp 36) (.tmp 37), none⟩,
    ⟨some 39, .load 3 (.tmp 38), none⟩,
    ⟨some 40, .move (.tmp 3), none⟩,
    ⟨some 41, .move (.tmp 4), none⟩,
    ⟨some 42, .move (.tmp 6), none⟩,
    ⟨some 43, .binOp .andNot 3 (.tmp 41) (.tmp 42) 3, none⟩,
    ⟨some 44, .indexAddr 22 (.tmp 40) (.tmp 43), none⟩,
    ⟨some 45, .load 3 (.tmp 44), none⟩,
    ⟨some 46, .binOp .add 3 (.const (.int .i64 1)) (.tmp 45) 3, none⟩,
    ⟨some 47, .call { callee := .builtin .min, args := #[.tmp 39, .tmp 46], argTypes := #[3, 3] }, none⟩,
    ⟨some 48, .indexAddr 22 (.tmp 34) (.tmp 35), none⟩,
    ⟨none, .store 3 (.tmp 48) (.tmp 47), none⟩]
   [[], [], [], [], [2, 3], [4], [], [], [], [7, 8], [6, 9], [10], [11], [5, 12], [0, 1, 0, 1, 2, 3, 4, 5, 6, 7, 8, 9, 10, 11, 12, 13], [14, 13, 0, 1, 2, 3, 4, 5, 6, 7, 8, 9, 10, 11, 12, 13]]
@[reducible] def q30_11 : SCode := .region [⟨some 49, .binOp .add 3 (.tmp 26) (.const (.int .i64 1)) 3, none⟩,
    ⟨some 26, .move (.tmp 49), none⟩]
def l30_0 : SCode := (.seq q30_7 (.seq (.cond (.tmp 27) .skip (.exit 2)) (.seq (.block 3 (.seq q30_8 (.seq q30_9 (.cond (.tmp 33) q30_10 .skip)))) q30_11)))
@[reducible] def q30_4 : SCode := .region [⟨some 16, .move (.tmp 4), none⟩,
    ⟨some 17, .binOp .add 3 (.tmp 16) (.const (.int .i64 1)) 3, none⟩,
    ⟨some 4, .assign (.tmp 17), none⟩]
def l30_1 : SCode := (.seq (.seq q30_3 (.cond (.tmp 15) .skip (.exit 0))) (.seq (.block 1 (.seq q30_5 (.seq q30_6 (.block 2 (.loop l30_0))))) q30_4))
@[reducible] def q30_12 : SCode := .region [⟨some 50, .move (.tmp 3), none⟩,
    ⟨some 51, .move (.tmp 0), none⟩,
    ⟨some 52, .call { callee := .builtin .len, args := #[.tmp 51], argTypes := #[22] }, none⟩,
    ⟨some 53, .binOp .shl 3 (.const (.int .i64 1)) (.tmp 52) 3, none⟩,
    ⟨some 54, .binOp .sub 3 (.tmp 53) (.const (.int .i64 1)) 3, none⟩,
    ⟨some 55, .indexAddr 22 (.tmp 50) (.tmp 54), none⟩,
    ⟨some 56, .load 3 (.tmp 55), none⟩,
    ⟨some 2, .assign (.tmp 56), none⟩]
def s30 : SCode := (.seq q30_0 (.seq q30_1 (.seq (.seq q30_2 (.block 0 (.loop l30_1))) (.seq q30_12 .ret))))
theorem s30_strip : stripC (bodyOf Tryd.f30) = s30 := by kernel_rfl
theorem s30_ok : codeOK 57 (bodyOf Tryd.f30) = true := by kernel_rfl
theorem s30_call [Tabs Tryd.prog] {args : List Value} {h : Heap} {Q : Value → Heap → Prop} (hsz : args.length ≤ 57) (hk : aw Tryd.prog 57 s30 (aPost Tryd.prog [.tmp 2] Q) (argEnv 0 args) h) : ACall Tryd.prog 30 args h Q :=
  acall_s Tryd.func30 rfl (enters_of Tryd.func30 (by kernel_rfl) rfl) rfl rfl (by decide) s30_strip s30_ok hsz hk

/-! 56: (planchet sure.graph).cliques -/
@[reducible] def q56_0 : SCode := .region [⟨some 2, .assign (.const (.slice none 0 0)), none⟩]
@[reducible] def q56_1 : SCode := .region [⟨some 3, .assign (.const (.slice none 0 0)), none⟩]
@[reducible] def q56_2 : SCode := .region [⟨some 4, .assign (.const (.int .i64 1)), none⟩]
@[reducible] def q56_3 : SCode := .region [⟨some 6, .move (.tmp 4), none⟩,
    ⟨some 7, .move (.tmp 0), none⟩,
    ⟨some 8, .call { callee := .value (.func 57), args := #[.tmp 7], argTypes := #[56] }, none⟩,
    ⟨some 9, .binOp .leq 3 (.tmp 6) (.tmp 8) 3, none⟩]
@[reducible] def q56_5 : SCode := .region [⟨some 12, .move (.tmp 0), none⟩,
    ⟨some 13, .call { callee := .builtin .len, args := #[.tmp 12], argTypes := #[56] }, none⟩,
    ⟨some 14, .move (.const (.int .i64 0)), none⟩]
@[reducible] def q56_6 : SCode := .region [⟨some 15, .binOp .lss 3 (.tmp 14) (.tmp 13) 3, none⟩]
@[reducible] def q56_7 : SCode := .region [⟨some 16, .move (.tmp 14), none⟩,
    ⟨some 5, .assign (.tmp 16), none⟩]
def q56_8 : SCode := .draw [⟨some 17, .move (.tmp 4), none⟩,
    ⟨some 18, .move (.tmp 5), none⟩,
    ⟨some 19, .binOp .shr 3 (.tmp 17) (.tmp 18) 3, none⟩,
    ⟨some 20, .binOp .and 3 (.tmp 19) (.const (.int .i64 1)) 3, none⟩,
    ⟨some 21, .binOp .eql 3 (.tmp 20) (.const (.int .i64 1)) 3, none⟩,
    ⟨some 22, .move (.tmp 21), none⟩,
    ⟨some 23, .move (.tmp 4), some (22, true)⟩,
    ⟨some 24, .move (.tmp 0), some (22, true)⟩,
    ⟨some 25, .move (.tmp 5), some (22, true)⟩,
    ⟨some 26, .indexAddr 56 (.tmp 24) (.tmp 25), some (22, true)⟩,
    ⟨some 27, .load 3 (.tmp 26), some (22, true)⟩,
    ⟨some 28, .binOp .andNot 3 (.tmp 23) (.tmp 27) 3, some (22, true)⟩,
    ⟨some 29, .move (.tmp 5), some (22, true)⟩,
    ⟨some 30, .binOp .shl 3 (.const (.int .i64 1)) (.tmp 29) 3, some (22, true)⟩,
    ⟨some 31, .binOp .neq 3 (.tmp 28) (.tmp 30) 3, some (22, true)⟩,
    ⟨some 32, .pick (.tmp 22) (.tmp 31) (.const (.bool false)), none⟩]
   [[], [], [0, 1], [2], [3], [4], [5], [5], [5], [7, 8, 5], [9, 5], [6, 10, 5], [5], [12, 5], [11, 13, 5], [5, 14]]
@[reducible] def q56_9 : SCode := .region [⟨some 33, .binOp .add 3 (.tmp 14) (.const (.int .i64 1)) 3, none⟩,
    ⟨some 14, .move (.tmp 33), none⟩]
def l56_0 : SCode := (.seq q56_6 (.seq (.cond (.tmp 15) .skip (.exit 2)) (.seq (.block 3 (.seq q56_7 (.seq q56_8 (.cond (.tmp 32) (.exit 1) .skip)))) q56_9)))
@[reducible] def q56_10 : SCode := .region [⟨some 34, .move (.tmp 3), none⟩,
    ⟨some 35, .move (.tmp 4), none⟩,
    ⟨some 36, .buildSlice 22 1 #[(0, .tmp 35)], none⟩,
    ⟨some 37, .call { callee := .builtin .append, args := #[.tmp 34, .tmp 36], argTypes := #[22, 22] }, none⟩,
    ⟨some 3, .assign (.tmp 37), none⟩]
@[reducible] def q56_4 : SCode := .region [⟨some 10, .move (.tmp 4), none⟩,
    ⟨some 11, .binOp .add 3 (.tmp 10) (.const (.int .i64 1)) 3, none⟩,
    ⟨some 4, .assign (.tmp 11), none⟩]
def l56_1 : SCode := (.seq (.seq q56_3 (.cond (.tmp 9) .skip (.exit 0))) (.seq (.block 1 (.seq (.seq q56_5 (.block 2 (.loop l56_0))) q56_10)) q56_4))
@[reducible] def q56_11 : SCode := .region [⟨some 38, .move (.tmp 3), none⟩,
    ⟨some 2, .assign (.tmp 38), none⟩]
def s56 : SCode := (.seq q56_0 (.scope (.seq q56_1 (.seq .skip (.seq (.seq q56_2 (.block 0 (.loop l56_1))) (.seq q56_11 .ret))))))
theorem s56_strip : stripC (bodyOf Tryd.f56) = s56 := by kernel_rfl
theorem s56_ok : codeOK 39 (bodyOf Tryd.f56) = true := by kernel_rfl
theorem s56_call [Tabs Tryd.prog] {args : List Value} {h : Heap} {Q : Value → Heap → Prop} (hsz : args.length ≤ 39) (hk : aw Tryd.prog 39 s56 (aPost Tryd.prog [.tmp 2] Q) (argEnv 0 args) h) : ACall Tryd.prog 56 args h Q :=
  acall_s Tryd.func56 rfl (enters_of Tryd.func56 (by kernel_rfl) rfl) rfl rfl (by decide) s56_strip s56_ok hsz hk

/-! 57: (planchet sure.graph).all -/
@[reducible] def q57_0 : SCode := .region [⟨some 2, .assign (.const (.int .i64 0)), none⟩]
@[reducible] def q57_1 : SCode := .region [⟨some 3, .move (.tmp 0), none⟩,
    ⟨some 4, .call { callee := .builtin .len, args := #[.tmp 3], argTypes := #[56] }, none⟩,
    ⟨some 5, .binOp .shl 3 (.const (.int .i64 1)) (.tmp 4) 3, none⟩,
    ⟨some 6, .binOp .sub 3 (.tmp 5) (.const (.int .i64 1)) 3, none⟩,
    ⟨some 2, .assign (.tmp 6), none⟩]
def s57 : SCode := (.seq q57_0 (.seq q57_1 .ret))
theorem s57_strip : stripC (bodyOf Tryd.f57) = s57 := by kernel_rfl
theorem s57_ok : codeOK 7 (bodyOf Tryd.f57) = true := by kernel_rfl
theorem s57_call [Tabs Tryd.prog] {args : List Value} {h : Heap} {Q : Value → Heap → Prop} (hsz : args.length ≤ 7) (hk : aw Tryd.prog 7 s57 (aPost Tryd.prog [.tmp 2] Q) (argEnv 0 args) h) : ACall Tryd.prog 57 args h Q :=
  acall_s Tryd.func57 rfl (enters_of Tryd.func57 (by kernel_rfl) rfl) rfl rfl (by decide) s57_strip s57_ok hsz hk

/-! 72: slices.Contains[[]int,int] -/
@[reducible] def q72_0 : SCode := .region [⟨some 4, .assign (.const (.bool false)), none⟩]
@[reducible] def q72_1 : SCode := .region [⟨some 5, .move (.tmp 0), none⟩,
    ⟨some 6, .move (.tmp 1), none⟩,
    ⟨some 7, .call { callee := .value (.func 94), args := #[.tmp 5, .tmp 6], argTypes := #[22, 3] }, none⟩,
    ⟨some 8, .binOp .geq 3 (.tmp 7) (.const (.int .i64 0)) 3, none⟩,
    ⟨some 4, .assign (.tmp 8), none⟩]
def s72 : SCode := (.seq q72_0 (.seq q72_1 .ret))
theorem s72_strip : stripC (bodyOf Tryd.f72) = s72 := by kernel_rfl
theorem s72_ok : codeOK 9 (bodyOf Tryd.f72) = true := by kernel_rfl
theorem s72_call [Tabs Tryd.prog] {args : List Value} {h : Heap} {Q : Value → Heap → Prop} (hsz : args.length ≤ 9) (hk : aw Tryd.prog 9 s72 (aPost Tryd.prog [.tmp 4] Q) (argEnv 0 args) h) : ACall Tryd.prog 72 args h Q :=
  acall_s Tryd.func72 rfl (enters_of Tryd.func72 (by kernel_rfl) rfl) rfl rfl (by decide) s72_strip s72_ok hsz hk

/-! 94: slices.Index[[]int,int] -/
@[reducible] def q94_0 : SCode := .region [⟨some 4, .assign (.const (.int .i64 0)), none⟩]
@[reducible] def q94_1 : SCode := .region [⟨some 6, .move (.tmp 0), none⟩,
    ⟨some 7, .call { callee := .builtin .len, args := #[.tmp 6], argTypes := #[22] }, none⟩,
    ⟨some 8, .move (.const (.int .i64 0)), none⟩]
@[reducible] def q94_2 : SCode := .region [⟨some 9, .binOp .lss 3 (.tmp 8) (.tmp 7) 3, none⟩]
@[reducible] def q94_3 : SCode := .region [⟨some 10, .move (.tmp 8), none⟩,
    ⟨some 5, .assign (.tmp 10), none⟩]
@[reducible] def q94_4 : SCode := .region [⟨some 11, .move (.tmp 1), none⟩,
    ⟨some 12, .move (.tmp 0), none⟩,
    ⟨some 13, .move (.tmp 5), none⟩,
    ⟨some 14, .indexAddr 22 (.tmp 12) (.tmp 13), none⟩,
    ⟨some 15, .load 3 (.tmp 14), none⟩,
    ⟨some 16, .binOp .eql 3 (.tmp 11) (.tmp 15) 3, none⟩]
@[reducible] def q94_5 : SCode := .region [⟨some 17, .move (.tmp 5), none⟩,
    ⟨some 4, .assign (.tmp 17), none⟩]
@[reducible] def q94_6 : SCode := .region [⟨some 18, .binOp .add 3 (.tmp 8) (.const (.int .i64 1)) 3, none⟩,
    ⟨some 8, .move (.tmp 18), none⟩]
def l94_0 : SCode := (.seq q94_2 (.seq (.cond (.tmp 9) .skip (.exit 0)) (.seq (.block 1 (.seq q94_3 (.seq q94_4 (.cond (.tmp 16) (.seq q94_5 .ret) .skip)))) q94_6)))
@[reducible] def q94_7 : SCode := .region [⟨some 4, .assign (.const (.int .i64 (-1))), none⟩]
def s94 : SCode := (.seq q94_0 (.seq (.seq q94_1 (.block 0 (.loop l94_0))) (.seq q94_7 .ret)))
theorem s94_strip : stripC (bodyOf Tryd.f94) = s94 := by kernel_rfl
theorem s94_ok : codeOK 19 (bodyOf Tryd.f94) = true := by kernel_rfl
theorem s94_call [Tabs Tryd.prog] {args : List Value} {h : Heap} {Q : Value → Heap → Prop} (hsz : args.length ≤ 19) (hk : aw Tryd.prog 19 s94 (aPost Tryd.prog [.tmp 4] Q) (argEnv 0 args) h) : ACall Tryd.prog 94 args h Q :=
  acall_s Tryd.func94 rfl (enters_of Tryd.func94 (by kernel_rfl) rfl) rfl rfl (by decide) s94_strip s94_ok hsz hk

end Go.Proofs.Tryd.Am

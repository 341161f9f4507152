/- Printed by gen.py: the code of some functions, without what no step looks at; held against the program's own by the kernel. -/
import Derived.Test.YtemmcfeekpblkaaDoorAmO
import Derived.Test.YtemmcfeekpblkaaDoorProg
import Derived.KernelRfl
import Derived.Shelf.Abstract
set_option linter.all false
namespace Go.Proofs.Tryd.Am
open Go.Am
set_option maxRecDepth 100000
/-! 8: planchet planchetlaw02.RanksOrders -/
@[reducible] def q8_0 : SCode := .region [⟨some 4, .assign (.const (.bool false)), none⟩]
@[reducible] def q8_1 : SCode := .region [⟨some 10, .move (.tmp 0), none⟩,
    ⟨some 11, .call { callee := .value (.func 19), args := #[.tmp 10], argTypes := #[22] }, none⟩,
    ⟨some 12, .move (.tmp 1), none⟩,
    ⟨some 13, .call { callee := .value (.func 19), args := #[.tmp 12], argTypes := #[22] }, none⟩,
    ⟨some 14, .call { callee := .value (.func 37), args := #[.tmp 11, .tmp 13], argTypes := #[22, 22] }, none⟩,
    ⟨some 9, .move (.tmp 14), none⟩,
    ⟨some 15, .extract (.tmp 9) 0, none⟩,
    ⟨some 16, .extract (.tmp 9) 1, none⟩,
    ⟨some 5, .assign (.tmp 15), none⟩,
    ⟨some 6, .assign (.tmp 16), none⟩]
@[reducible] def q8_2 : SCode := .region [⟨some 18, .move (.tmp 0), none⟩,
    ⟨some 19, .call { callee := .value (.func 19), args := #[.tmp 18], argTypes := #[22] }, none⟩,
    ⟨some 20, .call { callee := .value (.func 38), args := #[.tmp 19], argTypes := #[22] }, none⟩,
    ⟨some 17, .move (.tmp 20), none⟩,
    ⟨some 21, .extract (.tmp 17) 0, none⟩,
    ⟨some 22, .extract (.tmp 17) 1, none⟩,
    ⟨some 7, .assign (.tmp 21), none⟩,
    ⟨some 8, .assign (.tmp 22), none⟩]
@[reducible] def q8_3 : SCode := .region [⟨some 23, .move (.tmp 0), none⟩,
    ⟨some 24, .call { callee := .value (.func 20), args := #[.tmp 23], argTypes := #[22] }, none⟩,
    ⟨some 25, .unOp .not 4 (.tmp 24), none⟩]
@[reducible] def q8_4 : SCode := .region [⟨some 26, .move (.tmp 5), none⟩,
    ⟨some 27, .binOp .eql 3 (.tmp 26) (.const (.int .i64 0)) 3, none⟩,
    ⟨some 28, .move (.tmp 27), none⟩,
    ⟨some 29, .move (.tmp 7), some (28, true)⟩,
    ⟨some 30, .call { callee := .builtin .len, args := #[.tmp 29], argTypes := #[22] }, some (28, true)⟩,
    ⟨some 31, .binOp .eql 3 (.tmp 30) (.const (.int .i64 0)) 3, some (28, true)⟩,
    ⟨some 32, .pick (.tmp 28) (.tmp 31) (.const (.bool false)), none⟩,
    ⟨some 33, .move (.tmp 32), none⟩,
    ⟨some 34, .move (.tmp 6), some (33, true)⟩,
    ⟨some 35, .binOp .eql 23 (.tmp 34) (.const (.int .i64 2)) 23, some (33, true)⟩,
    ⟨some 36, .pick (.tmp 33) (.tmp 35) (.const (.bool false)), none⟩,
    ⟨some 37, .move (.tmp 36), none⟩,
    ⟨some 38, .move (.tmp 8), some (37, true)⟩,
    ⟨some 39, .binOp .eql 23 (.tmp 38) (.const (.int .i64 2)) 23, some (37, true)⟩,
    ⟨some 40, .pick (.tmp 37) (.tmp 39) (.const (.bool false)), none⟩,
    ⟨some 41, .move (.tmp 40), none⟩,
    ⟨some 42, .call { callee := .value (.func 21), args := #[], argTypes := #[] }, some (41, true)⟩,
    ⟨some 43, .pick (.tmp 41) (.tmp 42) (.const (.bool false)), none⟩,
    ⟨some 4, .assign (.tmp 43), none⟩]
@[reducible] def q8_5 : SCode := .region [⟨some 44, .move (.tmp 7), none⟩,
    ⟨some 45, .move (.tmp 0), none⟩,
    ⟨some 46, .call { callee := .value (.func 39), args := #[.tmp 45], argTypes := #[22] }, none⟩,
    ⟨some 47, .call { callee := .value (.func 25), args := #[.tmp 44, .tmp 46], argTypes := #[22, 22] }, none⟩,
    ⟨some 48, .unOp .not 4 (.tmp 47), none⟩,
    ⟨some 49, .move (.tmp 48), none⟩,
    ⟨some 50, .move (.tmp 8), some (49, false)⟩,
    ⟨some 51, .binOp .neq 23 (.tmp 50) (.const (.int .i64 0)) 23, some (49, false)⟩,
    ⟨some 52, .pick (.tmp 49) (.const (.bool true)) (.tmp 51), none⟩,
    ⟨some 53, .move (.tmp 52), none⟩,
    ⟨some 54, .call { callee := .value (.func 21), args := #[], argTypes := #[] }, some (53, false)⟩,
    ⟨some 55, .unOp .not 4 (.tmp 54), some (53, false)⟩,
    ⟨some 56, .pick (.tmp 53) (.const (.bool true)) (.tmp 55), none⟩]
@[reducible] def q8_6 : SCode := .region [⟨some 4, .assign (.const (.bool false)), none⟩]
@[reducible] def q8_7 : SCode := .region [⟨some 57, .move (.tmp 0), none⟩,
    ⟨some 58, .move (.tmp 1), none⟩,
    ⟨some 59, .call { callee := .value (.func 22), args := #[.tmp 57, .tmp 58], argTypes := #[22, 22] }, none⟩,
    ⟨some 60, .unOp .not 4 (.tmp 59), none⟩]
@[reducible] def q8_8 : SCode := .region [⟨some 61, .move (.tmp 5), none⟩,
    ⟨some 62, .binOp .eql 3 (.tmp 61) (.const (.int .i64 0)) 3, none⟩,
    ⟨some 63, .move (.tmp 62), none⟩,
    ⟨some 64, .move (.tmp 6), some (63, true)⟩,
    ⟨some 65, .binOp .eql 23 (.tmp 64) (.const (.int .i64 2)) 23, some (63, true)⟩,
    ⟨some 66, .pick (.tmp 63) (.tmp 65) (.const (.bool false)), none⟩,
    ⟨some 4, .assign (.tmp 66), none⟩]
@[reducible] def q8_9 : SCode := .region [⟨some 67, .move (.tmp 5), none⟩,
    ⟨some 68, .move (.tmp 0), none⟩,
    ⟨some 69, .move (.tmp 1), none⟩,
    ⟨some 70, .call { callee := .value (.func 40), args := #[.tmp 68, .tmp 69], argTypes := #[22, 22] }, none⟩,
    ⟨some 71, .binOp .eql 3 (.tmp 67) (.tmp 70) 3, none⟩,
    ⟨some 72, .move (.tmp 71), none⟩,
    ⟨some 73, .move (.tmp 6), some (72, true)⟩,
    ⟨some 74, .binOp .eql 23 (.tmp 73) (.const (.int .i64 0)) 23, some (72, true)⟩,
    ⟨some 75, .pick (.tmp 72) (.tmp 74) (.const (.bool false)), none⟩,
    ⟨some 4, .assign (.tmp 75), none⟩]
def s8 : SCode := (.seq q8_0 (.seq q8_1 (.seq q8_2 (.seq (.seq q8_3 (.cond (.tmp 25) (.seq q8_4 .ret) .skip)) (.seq (.seq q8_5 (.cond (.tmp 56) (.seq q8_6 .ret) .skip)) (.seq (.seq q8_7 (.cond (.tmp 60) (.seq q8_8 .ret) .skip)) (.seq q8_9 .ret)))))))
theorem s8_strip : stripC (bodyOf Tryd.f8) = s8 := by kernel_rfl
theorem s8_ok : codeOK 76 (bodyOf Tryd.f8) = true := by kernel_rfl
theorem s8_call [Tabs Tryd.prog] {args : List Value} {h : Heap} {Q : Value → Heap → Prop} (hsz : args.length ≤ 76) (hk : aw Tryd.prog 76 s8 (aPost Tryd.prog [.tmp 4] Q) (argEnv 0 args) h) : ACall Tryd.prog 8 args h Q :=
  acall_s Tryd.func8 rfl (enters_of Tryd.func8 (by kernel_rfl) rfl) rfl rfl (by decide) s8_strip s8_ok hsz hk

/-! 37: planchet ranks.Against -/
@[reducible] def q37_0 : SCode := .region [⟨some 4, .assign (.const (.int .i64 0)), none⟩,
    ⟨some 5, .assign (.const (.int .i64 0)), none⟩]
@[reducible] def q37_1 : SCode := .region [⟨some 11, .move (.tmp 0), none⟩,
    ⟨some 6, .assign (.tmp 11), none⟩]
@[reducible] def q37_2 : SCode := .region [⟨some 12, .move (.tmp 6), none⟩,
    ⟨some 13, .call { callee := .value (.func 56), args := #[.tmp 12], argTypes := #[55] }, none⟩,
    ⟨some 14, .unOp .not 4 (.tmp 13), none⟩,
    ⟨some 15, .move (.tmp 14), none⟩,
    ⟨some 16, .move (.tmp 6), some (15, false)⟩,
    ⟨some 17, .move (.tmp 1), some (15, false)⟩,
    ⟨some 18, .call { callee := .value (.func 74), args := #[.tmp 16, .tmp 17], argTypes := #[55, 22] }, some (15, false)⟩,
    ⟨some 19, .unOp .not 4 (.tmp 18), some (15, false)⟩,
    ⟨some 20, .pick (.tmp 15) (.const (.bool true)) (.tmp 19), none⟩]
@[reducible] def q37_3 : SCode := .region [⟨some 4, .assign (.const (.int .i64 0)), none⟩,
    ⟨some 5, .assign (.const (.int .i64 2)), none⟩]
@[reducible] def q37_4 : SCode := .region [⟨some 7, .assign (.const (.int .i64 0)), none⟩,
    ⟨some 8, .assign (.const (.int .i64 0)), none⟩]
@[reducible] def q37_5 : SCode := .region [⟨some 21, .move (.tmp 1), none⟩,
    ⟨some 22, .call { callee := .builtin .len, args := #[.tmp 21], argTypes := #[22] }, none⟩,
    ⟨some 23, .move (.const (.int .i64 0)), none⟩]
@[reducible] def q37_6 : SCode := .region [⟨some 24, .binOp .lss 3 (.tmp 23) (.tmp 22) 3, none⟩]
@[reducible] def q37_7 : SCode := .region [⟨some 25, .indexAddr 22 (.tmp 21) (.tmp 23), none⟩,
    ⟨some 26, .load 3 (.tmp 25), none⟩,
    ⟨some 10, .assign (.tmp 26), none⟩]
@[reducible] def q37_8 : SCode := .region [⟨some 27, .move (.tmp 7), none⟩,
    ⟨some 28, .move (.tmp 0), none⟩,
    ⟨some 29, .move (.tmp 10), none⟩,
    ⟨some 30, .indexAddr 22 (.tmp 28) (.tmp 29), none⟩,
    ⟨some 31, .load 3 (.tmp 30), none⟩,
    ⟨some 32, .move (.tmp 8), none⟩,
    ⟨some 33, .binOp .and 3 (.tmp 31) (.tmp 32) 3, none⟩,
    ⟨some 34, .call { callee := .value (.func 73), args := #[.tmp 33], argTypes := #[3] }, none⟩,
    ⟨some 35, .binOp .add 3 (.tmp 27) (.tmp 34) 3, none⟩,
    ⟨some 7, .assign (.tmp 35), none⟩]
@[reducible] def q37_9 : SCode := .region [⟨some 36, .move (.tmp 8), none⟩,
    ⟨some 37, .move (.tmp 10), none⟩,
    ⟨some 38, .binOp .shl 3 (.const (.int .i64 1)) (.tmp 37) 3, none⟩,
    ⟨some 39, .binOp .or 3 (.tmp 36) (.tmp 38) 3, none⟩,
    ⟨some 8, .assign (.tmp 39), none⟩]
@[reducible] def q37_10 : SCode := .region [⟨some 40, .binOp .add 3 (.tmp 23) (.const (.int .i64 1)) 3, none⟩,
    ⟨some 23, .move (.tmp 40), none⟩]
def l37_0 : SCode := (.seq q37_6 (.seq (.cond (.tmp 24) .skip (.exit 0)) (.seq (.block 1 (.seq q37_7 (.seq q37_8 q37_9))) q37_10)))
@[reducible] def q37_11 : SCode := .region [⟨some 41, .move (.tmp 7), none⟩,
    ⟨some 4, .assign (.tmp 41), none⟩,
    ⟨some 5, .assign (.const (.int .i64 0)), none⟩]
def s37 : SCode := (.seq q37_0 (.seq q37_1 (.seq (.seq q37_2 (.cond (.tmp 20) (.seq q37_3 .ret) .skip)) (.seq q37_4 (.seq (.seq q37_5 (.block 0 (.loop l37_0))) (.seq q37_11 .ret))))))
theorem s37_strip : stripC (bodyOf Tryd.f37) = s37 := by kernel_rfl
theorem s37_ok : codeOK 42 (bodyOf Tryd.f37) = true := by kernel_rfl
theorem s37_call [Tabs Tryd.prog] {args : List Value} {h : Heap} {Q : Value → Heap → Prop} (hsz : args.length ≤ 42) (hk : aw Tryd.prog 42 s37 (aPost Tryd.prog [.tmp 4, .tmp 5] Q) (argEnv 0 args) h) : ACall Tryd.prog 37 args h Q :=
  acall_s Tryd.func37 rfl (enters_of Tryd.func37 (by kernel_rfl) rfl) rfl rfl (by decide) s37_strip s37_ok hsz hk

/-! 38: planchet ranks.Order -/
@[reducible] def q38_0 : SCode := .region [⟨some 1, .box 22 (.tmp 0), none⟩,
    ⟨some 2, .assign (.const (.slice none 0 0)), none⟩,
    ⟨some 3, .assign (.const (.int .i64 0)), none⟩]
@[reducible] def q38_1 : SCode := .region [⟨some 12, .load 22 (.tmp 1), none⟩,
    ⟨some 4, .assign (.tmp 12), none⟩]
@[reducible] def q38_2 : SCode := .region [⟨some 13, .move (.tmp 4), none⟩,
    ⟨some 14, .call { callee := .value (.func 56), args := #[.tmp 13], argTypes := #[55] }, none⟩,
    ⟨some 15, .unOp .not 4 (.tmp 14), none⟩]
@[reducible] def q38_3 : SCode := .region [⟨some 2, .assign (.const (.slice none 0 0)), none⟩,
    ⟨some 3, .assign (.const (.int .i64 2)), none⟩]
@[reducible] def q38_4 : SCode := .region [⟨some 16, .load 22 (.tmp 1), none⟩,
    ⟨some 17, .call { callee := .builtin .len, args := #[.tmp 16], argTypes := #[22] }, none⟩,
    ⟨some 18, .binOp .shl 3 (.const (.int .i64 1)) (.tmp 17) 3, none⟩,
    ⟨some 19, .makeSlice 22 (.tmp 18) (.tmp 18), none⟩,
    ⟨some 5, .alloc 22, none⟩,
    ⟨none, .store 22 (.tmp 5) (.tmp 19), none⟩]
@[reducible] def q38_5 : SCode := .region [⟨some 20, .makeFunc (.func 75) #[] #[.tmp 1, .tmp 5], none⟩,
    ⟨some 6, .alloc 69, none⟩,
    ⟨none, .store 69 (.tmp 6) (.tmp 20), none⟩]
@[reducible] def q38_6 : SCode := .region [⟨some 21, .move (.tmp 4), none⟩,
    ⟨some 22, .call { callee := .value (.func 63), args := #[.tmp 21], argTypes := #[55] }, none⟩,
    ⟨some 23, .binOp .sub 3 (.tmp 22) (.const (.int .i64 1)) 3, none⟩,
    ⟨some 7, .alloc 3, none⟩,
    ⟨none, .store 3 (.tmp 7) (.tmp 23), none⟩]
@[reducible] def q38_7 : SCode := .region [⟨some 24, .load 3 (.tmp 7), none⟩,
    ⟨some 25, .binOp .geq 3 (.tmp 24) (.const (.int .i64 0)) 3, none⟩]
@[reducible] def q38_9 : SCode := .region [⟨some 28, .load 22 (.tmp 5), none⟩,
    ⟨some 29, .load 3 (.tmp 7), none⟩,
    ⟨some 30, .load 22 (.tmp 1), none⟩,
    ⟨some 31, .call { callee := .builtin .len, args := #[.tmp 30], argTypes := #[22] }, none⟩,
    ⟨some 32, .load 22 (.tmp 1), none⟩,
    ⟨some 33, .call { callee := .builtin .len, args := #[.tmp 32], argTypes := #[22] }, none⟩,
    ⟨some 34, .binOp .mul 3 (.tmp 31) (.tmp 33) 3, none⟩,
    ⟨some 35, .indexAddr 22 (.tmp 28) (.tmp 29), none⟩,
    ⟨none, .store 3 (.tmp 35) (.tmp 34), none⟩]
def q38_10 : SCode := .draw [⟨some 36, .move (.tmp 4), none⟩,
    ⟨some 37, .call { callee := .value (.func 63), args := #[.tmp 36], argTypes := #[55] }, none⟩,
    ⟨some 38, .load 3 (.tmp 7), none⟩,
    ⟨some 39, .binOp .andNot 3 (.tmp 37) (.tmp 38) 3, none⟩,
    ⟨some 40, .call { callee := .value (.func 62), args := #[.tmp 39], argTypes := #[3] }, none⟩]
   [[], [0], [], [1, 2], [3, 1]]
@[reducible] def q38_11 : SCode := .region [⟨some 8, .assign (.tmp 41), none⟩]
def q38_12 : SCode := .draw [⟨some 42, .load 22 (.tmp 5), none⟩,
    ⟨some 43, .load 3 (.tmp 7), none⟩,
    ⟨some 44, .load 22 (.tmp 5), none⟩,
    ⟨some 45, .load 3 (.tmp 7), none⟩,
    ⟨some 46, .indexAddr 22 (.tmp 44) (.tmp 45), none⟩,
    ⟨some 47, .load 3 (.tmp 46), none⟩,
    ⟨some 48, .load 69 (.tmp 6), none⟩,
    ⟨some 49, .load 3 (.tmp 7), none⟩,
    ⟨some 50, .move (.tmp 8), none⟩,
    ⟨some 51, .call { callee := .value (.tmp 48), args := #[.tmp 49, .tmp 50], argTypes := #[3, 3] }, none⟩,
    ⟨some 52, .call { callee := .builtin .min, args := #[.tmp 47, .tmp 51], argTypes := #[3, 3] }, none⟩,
    ⟨some 53, .indexAddr 22 (.tmp 42) (.tmp 43), none⟩,
    ⟨none, .store 3 (.tmp 53) (.tmp 52), none⟩]
   [[], [], [], [], [2, 3], [4], [], [], [], [6, 7, 8], [5, 9], [0, 1, 0, 1, 2, 3, 4, 5, 6, 7, 8, 9, 10], [11, 10, 9, 0, 1, 2, 3, 4, 5, 6, 7, 8, 9, 10]]
def r38_0_a : SCode := q38_11
def r38_0_b : SCode := (.block 3 q38_12)
@[reducible] def q38_13 : SCode := .region [⟨some 54, .load 3 (.tmp 7), none⟩]
@[reducible] def q38_14 : SCode := .region [⟨some 7, .alloc 3, none⟩,
    ⟨none, .store 3 (.tmp 7) (.tmp 54), none⟩]
@[reducible] def q38_8 : SCode := .region [⟨some 26, .load 3 (.tmp 7), none⟩,
    ⟨some 27, .binOp .sub 3 (.tmp 26) (.const (.int .i64 1)) 3, none⟩,
    ⟨none, .store 3 (.tmp 7) (.tmp 27), none⟩]
def l38_1 : SCode := (.seq (.seq q38_7 (.cond (.tmp 25) .skip (.exit 0))) (.seq (.block 1 (.seq q38_9 (.seq q38_10 (.block 2 (.range (.tmp 40) [41] r38_0_a r38_0_b))))) (.seq (.seq q38_13 q38_14) q38_8)))
@[reducible] def q38_15 : SCode := .region [⟨some 9, .alloc 22, none⟩]
@[reducible] def q38_16 : SCode := .region [⟨some 10, .alloc 3, none⟩,
    ⟨none, .store 3 (.tmp 10) (.const (.int .i64 0)), none⟩]
def q38_17 : SCode := .draw [⟨some 55, .load 3 (.tmp 10), none⟩,
    ⟨some 56, .move (.tmp 4), none⟩,
    ⟨some 57, .call { callee := .value (.func 63), args := #[.tmp 56], argTypes := #[55] }, none⟩,
    ⟨some 58, .binOp .neq 3 (.tmp 55) (.tmp 57) 3, none⟩]
   [[], [], [1], [0, 2]]
def q38_18 : SCode := .draw [⟨some 59, .move (.tmp 4), none⟩,
    ⟨some 60, .call { callee := .value (.func 63), args := #[.tmp 59], argTypes := #[55] }, none⟩,
    ⟨some 61, .load 3 (.tmp 10), none⟩,
    ⟨some 62, .binOp .andNot 3 (.tmp 60) (.tmp 61) 3, none⟩,
    ⟨some 63, .call { callee := .value (.func 62), args := #[.tmp 62], argTypes := #[3] }, none⟩]
   [[], [0], [], [1, 2], [3, 1]]
@[reducible] def q38_19 : SCode := .region [⟨some 11, .assign (.tmp 64), none⟩]
def q38_20 : SCode := .draw [⟨some 65, .load 69 (.tmp 6), none⟩,
    ⟨some 66, .load 3 (.tmp 10), none⟩,
    ⟨some 67, .move (.tmp 11), none⟩,
    ⟨some 68, .call { callee := .value (.tmp 65), args := #[.tmp 66, .tmp 67], argTypes := #[3, 3] }, none⟩,
    ⟨some 69, .load 22 (.tmp 5), none⟩,
    ⟨some 70, .load 3 (.tmp 10), none⟩,
    ⟨some 71, .indexAddr 22 (.tmp 69) (.tmp 70), none⟩,
    ⟨some 72, .load 3 (.tmp 71), none⟩,
    ⟨some 73, .binOp .eql 3 (.tmp 68) (.tmp 72) 3, none⟩]
   [[], [], [], [0, 1, 2], [], [], [4, 5], [6], [3, 7]]
@[reducible] def q38_21 : SCode := .region [⟨some 74, .load 22 (.tmp 9), none⟩,
    ⟨some 75, .move (.tmp 11), none⟩,
    ⟨some 76, .buildSlice 22 1 #[(0, .tmp 75)], none⟩,
    ⟨some 77, .call { callee := .builtin .append, args := #[.tmp 74, .tmp 76], argTypes := #[22, 22] }, none⟩,
    ⟨none, .store 22 (.tmp 9) (.tmp 77), none⟩]
def q38_22 : SCode := .draw [⟨some 78, .load 3 (.tmp 10), none⟩,
    ⟨some 79, .move (.tmp 11), none⟩,
    ⟨some 80, .binOp .shl 3 (.const (.int .i64 1)) (.tmp 79) 3, none⟩,
    ⟨some 81, .binOp .or 3 (.tmp 78) (.tmp 80) 3, none⟩,
    ⟨none, .store 3 (.tmp 10) (.tmp 81), none⟩]
   [[], [], [1], [0, 2], [3, 0, 1, 2, 3]]
def r38_2_a : SCode := q38_19
def r38_2_b : SCode := (.block 7 (.seq q38_20 (.cond (.tmp 73) (.seq q38_21 (.seq q38_22 (.exit 6))) .skip)))
@[reducible] def q38_23 : SCode := .region [⟨some 82, .load 3 (.tmp 10), none⟩]
@[reducible] def q38_24 : SCode := .region [⟨some 10, .alloc 3, none⟩,
    ⟨none, .store 3 (.tmp 10) (.tmp 82), none⟩]
def l38_3 : SCode := (.seq (.seq q38_17 (.cond (.tmp 58) .skip (.exit 4))) (.seq (.block 5 (.seq q38_18 (.block 6 (.range (.tmp 63) [64] r38_2_a r38_2_b)))) (.seq q38_23 q38_24)))
@[reducible] def q38_25 : SCode := .region [⟨some 83, .load 22 (.tmp 9), none⟩,
    ⟨some 2, .assign (.tmp 83), none⟩,
    ⟨some 3, .assign (.const (.int .i64 0)), none⟩]
def s38 : SCode := (.seq q38_0 (.seq q38_1 (.seq (.seq q38_2 (.cond (.tmp 15) (.seq q38_3 .ret) .skip)) (.seq q38_4 (.seq q38_5 (.seq (.seq q38_6 (.block 0 (.loop l38_1))) (.seq q38_15 (.seq (.seq q38_16 (.block 4 (.loop l38_3))) (.seq q38_25 .ret)))))))))
theorem s38_strip : stripC (bodyOf Tryd.f38) = s38 := by kernel_rfl
theorem s38_ok : codeOK 84 (bodyOf Tryd.f38) = true := by kernel_rfl
theorem s38_call [Tabs Tryd.prog] {args : List Value} {h : Heap} {Q : Value → Heap → Prop} (hsz : args.length ≤ 84) (hk : aw Tryd.prog 84 s38 (aPost Tryd.prog [.tmp 2, .tmp 3] Q) (argEnv 0 args) h) : ACall Tryd.prog 38 args h Q :=
  acall_s Tryd.func38 rfl (enters_of Tryd.func38 (by kernel_rfl) rfl) rfl rfl (by decide) s38_strip s38_ok hsz hk

/-! 39: planchet planchetref02.Order -/
@[reducible] def q39_0 : SCode := .region [⟨some 2, .assign (.const (.slice none 0 0)), none⟩]
@[reducible] def q39_1 : SCode := .region [⟨some 3, .alloc 3, none⟩,
    ⟨none, .store 3 (.tmp 3) (.const (.int .i64 29)), none⟩]
@[reducible] def q39_2 : SCode := .region [⟨some 4, .alloc 22, none⟩]
@[reducible] def q39_3 : SCode := .region [⟨some 5, .move (.tmp 0), none⟩,
    ⟨some 6, .call { callee := .value (.func 76), args := #[.tmp 5, .const (.slice none 0 0), .const (.int .i64 0), .const (.int .i64 0), .tmp 3, .tmp 4], argTypes := #[22, 22, 3, 3, 71, 72] }, none⟩]
@[reducible] def q39_4 : SCode := .region [⟨some 7, .load 22 (.tmp 4), none⟩,
    ⟨some 2, .assign (.tmp 7), none⟩]
def s39 : SCode := (.seq q39_0 (.seq q39_1 (.seq q39_2 (.seq q39_3 (.seq q39_4 .ret)))))
theorem s39_strip : stripC (bodyOf Tryd.f39) = s39 := by kernel_rfl
theorem s39_ok : codeOK 8 (bodyOf Tryd.f39) = true := by kernel_rfl
theorem s39_call [Tabs Tryd.prog] {args : List Value} {h : Heap} {Q : Value → Heap → Prop} (hsz : args.length ≤ 8) (hk : aw Tryd.prog 8 s39 (aPost Tryd.prog [.tmp 2] Q) (argEnv 0 args) h) : ACall Tryd.prog 39 args h Q :=
  acall_s Tryd.func39 rfl (enters_of Tryd.func39 (by kernel_rfl) rfl) rfl rfl (by decide) s39_strip s39_ok hsz hk

/-! 40: planchet planchetref02.Against -/
@[reducible] def q40_0 : SCode := .region [⟨some 4, .assign (.const (.int .i64 0)), none⟩]
@[reducible] def q40_1 : SCode := .region [⟨some 5, .assign (.const (.int .i64 0)), none⟩]
@[reducible] def q40_2 : SCode := .region [⟨some 10, .move (.tmp 1), none⟩,
    ⟨some 11, .call { callee := .builtin .len, args := #[.tmp 10], argTypes := #[22] }, none⟩,
    ⟨some 12, .move (.const (.int .i64 0)), none⟩]
@[reducible] def q40_3 : SCode := .region [⟨some 13, .binOp .lss 3 (.tmp 12) (.tmp 11) 3, none⟩]
@[reducible] def q40_4 : SCode := .region [⟨some 14, .move (.tmp 12), none⟩,
    ⟨some 15, .indexAddr 22 (.tmp 10) (.tmp 12), none⟩,
    ⟨some 16, .load 3 (.tmp 15), none⟩,
    ⟨some 6, .assign (.tmp 14), none⟩,
    ⟨some 7, .assign (.tmp 16), none⟩]
@[reducible] def q40_5 : SCode := .region [⟨some 17, .move (.tmp 1), none⟩,
    ⟨some 18, .move (.tmp 6), none⟩,
    ⟨some 19, .slice 22 (.tmp 17) none (some (.tmp 18)) none, none⟩,
    ⟨some 20, .call { callee := .builtin .len, args := #[.tmp 19], argTypes := #[22] }, none⟩,
    ⟨some 21, .move (.const (.int .i64 0)), none⟩]
@[reducible] def q40_6 : SCode := .region [⟨some 22, .binOp .lss 3 (.tmp 21) (.tmp 20) 3, none⟩]
@[reducible] def q40_7 : SCode := .region [⟨some 23, .indexAddr 22 (.tmp 19) (.tmp 21), none⟩,
    ⟨some 24, .load 3 (.tmp 23), none⟩,
    ⟨some 9, .assign (.tmp 24), none⟩]
@[reducible] def q40_8 : SCode := .region [⟨some 25, .move (.tmp 5), none⟩,
    ⟨some 26, .move (.tmp 0), none⟩,
    ⟨some 27, .move (.tmp 7), none⟩,
    ⟨some 28, .indexAddr 22 (.tmp 26) (.tmp 27), none⟩,
    ⟨some 29, .load 3 (.tmp 28), none⟩,
    ⟨some 30, .move (.tmp 9), none⟩,
    ⟨some 31, .binOp .shr 3 (.tmp 29) (.tmp 30) 3, none⟩,
    ⟨some 32, .binOp .and 3 (.tmp 31) (.const (.int .i64 1)) 3, none⟩,
    ⟨some 33, .binOp .add 3 (.tmp 25) (.tmp 32) 3, none⟩,
    ⟨some 5, .assign (.tmp 33), none⟩]
@[reducible] def q40_9 : SCode := .region [⟨some 34, .binOp .add 3 (.tmp 21) (.const (.int .i64 1)) 3, none⟩,
    ⟨some 21, .move (.tmp 34), none⟩]
def l40_0 : SCode := (.seq q40_6 (.seq (.cond (.tmp 22) .skip (.exit 2)) (.seq (.block 3 (.seq q40_7 q40_8)) q40_9)))
@[reducible] def q40_10 : SCode := .region [⟨some 35, .binOp .add 3 (.tmp 12) (.const (.int .i64 1)) 3, none⟩,
    ⟨some 12, .move (.tmp 35), none⟩]
def l40_1 : SCode := (.seq q40_3 (.seq (.cond (.tmp 13) .skip (.exit 0)) (.seq (.block 1 (.seq q40_4 (.seq q40_5 (.block 2 (.loop l40_0))))) q40_10)))
@[reducible] def q40_11 : SCode := .region [⟨some 36, .move (.tmp 5), none⟩,
    ⟨some 4, .assign (.tmp 36), none⟩]
def s40 : SCode := (.seq q40_0 (.seq q40_1 (.seq (.seq q40_2 (.block 0 (.loop l40_1))) (.seq q40_11 .ret))))
theorem s40_strip : stripC (bodyOf Tryd.f40) = s40 := by kernel_rfl
theorem s40_ok : codeOK 37 (bodyOf Tryd.f40) = true := by kernel_rfl
theorem s40_call [Tabs Tryd.prog] {args : List Value} {h : Heap} {Q : Value → Heap → Prop} (hsz : args.length ≤ 37) (hk : aw Tryd.prog 37 s40 (aPost Tryd.prog [.tmp 4] Q) (argEnv 0 args) h) : ACall Tryd.prog 40 args h Q :=
  acall_s Tryd.func40 rfl (enters_of Tryd.func40 (by kernel_rfl) rfl) rfl rfl (by decide) s40_strip s40_ok hsz hk

/-! 74: (planchet ranks.tournament).isOrder -/
@[reducible] def q74_0 : SCode := .region [⟨some 4, .assign (.const (.bool false)), none⟩]
@[reducible] def q74_1 : SCode := .region [⟨some 5, .assign (.const (.int .i64 0)), none⟩]
@[reducible] def q74_2 : SCode := .region [⟨some 8, .move (.tmp 1), none⟩,
    ⟨some 9, .call { callee := .builtin .len, args := #[.tmp 8], argTypes := #[22] }, none⟩,
    ⟨some 10, .move (.const (.int .i64 0)), none⟩]
@[reducible] def q74_3 : SCode := .region [⟨some 11, .binOp .lss 3 (.tmp 10) (.tmp 9) 3, none⟩]
@[reducible] def q74_4 : SCode := .region [⟨some 12, .indexAddr 22 (.tmp 8) (.tmp 10), none⟩,
    ⟨some 13, .load 3 (.tmp 12), none⟩,
    ⟨some 7, .assign (.tmp 13), none⟩]
@[reducible] def q74_5 : SCode := .region [⟨some 14, .move (.tmp 7), none⟩,
    ⟨some 15, .binOp .lss 3 (.tmp 14) (.const (.int .i64 0)) 3, none⟩,
    ⟨some 16, .move (.tmp 15), none⟩,
    ⟨some 17, .move (.tmp 7), some (16, false)⟩,
    ⟨some 18, .move (.tmp 0), some (16, false)⟩,
    ⟨some 19, .call { callee := .builtin .len, args := #[.tmp 18], argTypes := #[55] }, some (16, false)⟩,
    ⟨some 20, .binOp .geq 3 (.tmp 17) (.tmp 19) 3, some (16, false)⟩,
    ⟨some 21, .pick (.tmp 16) (.const (.bool true)) (.tmp 20), none⟩]
@[reducible] def q74_6 : SCode := .region [⟨some 4, .assign (.const (.bool false)), none⟩]
@[reducible] def q74_7 : SCode := .region [⟨some 22, .move (.tmp 5), none⟩,
    ⟨some 23, .move (.tmp 7), none⟩,
    ⟨some 24, .binOp .shl 3 (.const (.int .i64 1)) (.tmp 23) 3, none⟩,
    ⟨some 25, .binOp .or 3 (.tmp 22) (.tmp 24) 3, none⟩,
    ⟨some 5, .assign (.tmp 25), none⟩]
@[reducible] def q74_8 : SCode := .region [⟨some 26, .binOp .add 3 (.tmp 10) (.const (.int .i64 1)) 3, none⟩,
    ⟨some 10, .move (.tmp 26), none⟩]
def l74_0 : SCode := (.seq q74_3 (.seq (.cond (.tmp 11) .skip (.exit 0)) (.seq (.block 1 (.seq q74_4 (.seq (.seq q74_5 (.cond (.tmp 21) (.seq q74_6 .ret) .skip)) q74_7))) q74_8)))
@[reducible] def q74_9 : SCode := .region [⟨some 27, .move (.tmp 1), none⟩,
    ⟨some 28, .call { callee := .builtin .len, args := #[.tmp 27], argTypes := #[22] }, none⟩,
    ⟨some 29, .move (.tmp 0), none⟩,
    ⟨some 30, .call { callee := .builtin .len, args := #[.tmp 29], argTypes := #[55] }, none⟩,
    ⟨some 31, .binOp .eql 3 (.tmp 28) (.tmp 30) 3, none⟩,
    ⟨some 32, .move (.tmp 31), none⟩,
    ⟨some 33, .move (.tmp 5), some (32, true)⟩,
    ⟨some 34, .move (.tmp 0), some (32, true)⟩,
    ⟨some 35, .call { callee := .value (.func 63), args := #[.tmp 34], argTypes := #[55] }, some (32, true)⟩,
    ⟨some 36, .binOp .eql 3 (.tmp 33) (.tmp 35) 3, some (32, true)⟩,
    ⟨some 37, .pick (.tmp 32) (.tmp 36) (.const (.bool false)), none⟩,
    ⟨some 4, .assign (.tmp 37), none⟩]
def s74 : SCode := (.seq q74_0 (.seq q74_1 (.seq (.seq q74_2 (.block 0 (.loop l74_0))) (.seq q74_9 .ret))))
theorem s74_strip : stripC (bodyOf Tryd.f74) = s74 := by kernel_rfl
theorem s74_ok : codeOK 38 (bodyOf Tryd.f74) = true := by kernel_rfl
theorem s74_call [Tabs Tryd.prog] {args : List Value} {h : Heap} {Q : Value → Heap → Prop} (hsz : args.length ≤ 38) (hk : aw Tryd.prog 38 s74 (aPost Tryd.prog [.tmp 4] Q) (argEnv 0 args) h) : ACall Tryd.prog 74 args h Q :=
  acall_s Tryd.func74 rfl (enters_of Tryd.func74 (by kernel_rfl) rfl) rfl rfl (by decide) s74_strip s74_ok hsz hk

/-! 75: planchet ranks.Order$1 -/
@[reducible] def q75_0 : SCode := .region [⟨some 6, .assign (.const (.int .i64 0)), none⟩]
def q75_1 : SCode := .draw [⟨some 7, .load 22 (.tmp 2), none⟩,
    ⟨some 8, .move (.tmp 1), none⟩,
    ⟨some 9, .indexAddr 22 (.tmp 7) (.tmp 8), none⟩,
    ⟨some 10, .load 3 (.tmp 9), none⟩,
    ⟨some 11, .move (.tmp 0), none⟩,
    ⟨some 12, .binOp .and 3 (.tmp 10) (.tmp 11) 3, none⟩,
    ⟨some 13, .call { callee := .value (.func 73), args := #[.tmp 12], argTypes := #[3] }, none⟩,
    ⟨some 14, .load 22 (.tmp 3), none⟩,
    ⟨some 15, .move (.tmp 0), none⟩,
    ⟨some 16, .move (.tmp 1), none⟩,
    ⟨some 17, .binOp .shl 3 (.const (.int .i64 1)) (.tmp 16) 3, none⟩,
    ⟨some 18, .binOp .or 3 (.tmp 15) (.tmp 17) 3, none⟩,
    ⟨some 19, .indexAddr 22 (.tmp 14) (.tmp 18), none⟩,
    ⟨some 20, .load 3 (.tmp 19), none⟩,
    ⟨some 21, .binOp .add 3 (.tmp 13) (.tmp 20) 3, none⟩,
    ⟨some 6, .assign (.tmp 21), none⟩]
   [[], [], [0, 1], [2], [], [3, 4], [5], [], [], [], [9], [8, 10], [7, 11], [12], [6, 13], [14, 6, 0, 1, 2, 3, 4, 5, 6, 7, 8, 9, 10, 11, 12, 13, 14]]
def s75 : SCode := (.seq q75_0 (.seq q75_1 .ret))
theorem s75_strip : stripC (bodyOf Tryd.f75) = s75 := by kernel_rfl
theorem s75_ok : codeOK 22 (bodyOf Tryd.f75) = true := by kernel_rfl
theorem s75_call [Tabs Tryd.prog] {args : List Value} {h : Heap} {Q : Value → Heap → Prop} (hsz : args.length ≤ 22) (hk : aw Tryd.prog 22 s75 (aPost Tryd.prog [.tmp 6] Q) (argEnv 0 args) h) : ACall Tryd.prog 75 args h Q :=
  acall_s Tryd.func75 rfl (enters_of Tryd.func75 (by kernel_rfl) rfl) rfl rfl (by decide) s75_strip s75_ok hsz hk

/-! 76: planchet planchetref02.order -/
@[reducible] def q76_0 : SCode := .region [⟨some 15, .move (.tmp 3), none⟩,
    ⟨some 16, .move (.tmp 4), none⟩,
    ⟨some 17, .nilCheck (.tmp 16), none⟩,
    ⟨some 18, .load 3 (.tmp 17), none⟩,
    ⟨some 19, .binOp .geq 3 (.tmp 15) (.tmp 18) 3, none⟩]
@[reducible] def q76_1 : SCode := .region [⟨some 20, .move (.tmp 1), none⟩,
    ⟨some 21, .call { callee := .builtin .len, args := #[.tmp 20], argTypes := #[22] }, none⟩,
    ⟨some 12, .assign (.tmp 21), none⟩]
@[reducible] def q76_2 : SCode := .region [⟨some 22, .move (.tmp 12), none⟩,
    ⟨some 23, .move (.tmp 0), none⟩,
    ⟨some 24, .call { callee := .builtin .len, args := #[.tmp 23], argTypes := #[22] }, none⟩,
    ⟨some 25, .binOp .eql 3 (.tmp 22) (.tmp 24) 3, none⟩]
@[reducible] def q76_3 : SCode := .region [⟨some 26, .move (.tmp 4), none⟩,
    ⟨some 27, .move (.tmp 3), none⟩,
    ⟨some 28, .nilCheck (.tmp 26), none⟩,
    ⟨none, .store 3 (.tmp 28) (.tmp 27), none⟩]
@[reducible] def q76_4 : SCode := .region [⟨some 29, .move (.tmp 5), none⟩,
    ⟨some 30, .move (.tmp 1), none⟩,
    ⟨some 31, .nilCheck (.tmp 29), none⟩,
    ⟨none, .store 22 (.tmp 31) (.tmp 30), none⟩]
@[reducible] def q76_5 : SCode := .region [⟨some 32, .move (.tmp 0), none⟩,
    ⟨some 33, .call { callee := .builtin .len, args := #[.tmp 32], argTypes := #[22] }, none⟩,
    ⟨some 34, .move (.const (.int .i64 0)), none⟩]
@[reducible] def q76_6 : SCode := .region [⟨some 35, .binOp .lss 3 (.tmp 34) (.tmp 33) 3, none⟩]
@[reducible] def q76_7 : SCode := .region [⟨some 36, .move (.tmp 34), none⟩,
    ⟨some 37, .indexAddr 22 (.tmp 32) (.tmp 34), none⟩,
    ⟨some 38, .load 3 (.tmp 37), none⟩,
    ⟨some 13, .assign (.tmp 36), none⟩,
    ⟨some 14, .assign (.tmp 38), none⟩]
@[reducible] def q76_8 : SCode := .region [⟨some 39, .move (.tmp 2), none⟩,
    ⟨some 40, .move (.tmp 13), none⟩,
    ⟨some 41, .binOp .shr 3 (.tmp 39) (.tmp 40) 3, none⟩,
    ⟨some 42, .binOp .and 3 (.tmp 41) (.const (.int .i64 1)) 3, none⟩,
    ⟨some 43, .binOp .eql 3 (.tmp 42) (.const (.int .i64 0)) 3, none⟩]
def q76_9 : SCode := .draw [⟨some 44, .move (.tmp 0), none⟩,
    ⟨some 45, .move (.tmp 1), none⟩,
    ⟨some 46, .move (.tmp 12), none⟩,
    ⟨some 47, .move (.tmp 12), none⟩,
    ⟨some 48, .slice 22 (.tmp 45) none (some (.tmp 46)) (some (.tmp 47)), none⟩,
    ⟨some 49, .move (.tmp 13), none⟩,
    ⟨some 50, .buildSlice 22 1 #[(0, .tmp 49)], none⟩,
    ⟨some 51, .call { callee := .builtin .append, args := #[.tmp 48, .tmp 50], argTypes := #[22, 22] }, none⟩,
    ⟨some 52, .move (.tmp 2), none⟩,
    ⟨some 53, .move (.tmp 13), none⟩,
    ⟨some 54, .binOp .shl 3 (.const (.int .i64 1)) (.tmp 53) 3, none⟩,
    ⟨some 55, .binOp .or 3 (.tmp 52) (.tmp 54) 3, none⟩,
    ⟨some 56, .move (.tmp 3), none⟩,
    ⟨some 57, .move (.tmp 14), none⟩,
    ⟨some 58, .move (.tmp 2), none⟩,
    ⟨some 59, .binOp .and 3 (.tmp 57) (.tmp 58) 3, none⟩,
    ⟨some 60, .call { callee := .value (.func 79), args := #[.tmp 59], argTypes := #[3] }, none⟩,
    ⟨some 61, .binOp .add 3 (.tmp 56) (.tmp 60) 3, none⟩,
    ⟨some 62, .move (.tmp 4), none⟩,
    ⟨some 63, .move (.tmp 5), none⟩,
    ⟨some 64, .call { callee := .value (.func 76), args := #[.tmp 44, .tmp 51, .tmp 55, .tmp 61, .tmp 62, .tmp 63], argTypes := #[22, 22, 3, 3, 71, 72] }, none⟩]
   [[], [], [], [], [1, 2, 3], [], [5], [4, 6], [], [], [9], [8, 10], [], [], [], [13, 14], [15, 7], [12, 16], [], [], [0, 7, 11, 17, 18, 19, 16]]
@[reducible] def q76_10 : SCode := .region [⟨some 65, .binOp .add 3 (.tmp 34) (.const (.int .i64 1)) 3, none⟩,
    ⟨some 34, .move (.tmp 65), none⟩]
def l76_0 : SCode := (.seq q76_6 (.seq (.cond (.tmp 35) .skip (.exit 0)) (.seq (.block 1 (.seq q76_7 (.seq q76_8 (.cond (.tmp 43) q76_9 .skip)))) q76_10)))
def s76 : SCode := (.seq (.seq q76_0 (.cond (.tmp 19) .ret .skip)) (.seq q76_1 (.seq (.seq q76_2 (.cond (.tmp 25) (.seq q76_3 (.seq q76_4 .ret)) .skip)) (.seq q76_5 (.block 0 (.loop l76_0))))))
theorem s76_strip : stripC (bodyOf Tryd.f76) = s76 := by kernel_rfl
theorem s76_ok : codeOK 66 (bodyOf Tryd.f76) = true := by kernel_rfl
theorem s76_call [Tabs Tryd.prog] {args : List Value} {h : Heap} {Q : Value → Heap → Prop} (hsz : args.length ≤ 66) (hk : aw Tryd.prog 66 s76 (aPost Tryd.prog [] Q) (argEnv 0 args) h) : ACall Tryd.prog 76 args h Q :=
  acall_s Tryd.func76 rfl (enters_of Tryd.func76 (by kernel_rfl) rfl) rfl rfl (by decide) s76_strip s76_ok hsz hk

end Go.Proofs.Tryd.Am

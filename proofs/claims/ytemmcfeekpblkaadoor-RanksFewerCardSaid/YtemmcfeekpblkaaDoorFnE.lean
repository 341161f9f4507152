/- Printed by gen.py: the code of some functions, without what no step looks at; held against the program's own by the kernel. -/
import Derived.Test.YtemmcfeekpblkaaDoorAmO
import Derived.Test.YtemmcfeekpblkaaDoorProg
import Derived.KernelRfl
import Derived.Shelf.Abstract
set_option linter.all false
namespace Go.Proofs.Tryd.Am
open Go.Am
set_option maxRecDepth 100000
/-! 9: planchet planchetlaw02.RanksTurns -/
@[reducible] def q9_0 : SCode := .region [⟨some 4, .assign (.const (.bool false)), none⟩]
@[reducible] def q9_1 : SCode := .region [⟨some 10, .move (.tmp 0), none⟩,
    ⟨some 11, .call { callee := .value (.func 19), args := #[.tmp 10], argTypes := #[22] }, none⟩,
    ⟨some 12, .move (.tmp 1), none⟩,
    ⟨some 13, .call { callee := .value (.func 42), args := #[.tmp 12], argTypes := #[46] }, none⟩,
    ⟨some 14, .call { callee := .value (.func 41), args := #[.tmp 11, .tmp 13], argTypes := #[22, 46] }, none⟩,
    ⟨some 9, .move (.tmp 14), none⟩,
    ⟨some 15, .extract (.tmp 9) 0, none⟩,
    ⟨some 16, .extract (.tmp 9) 1, none⟩,
    ⟨some 5, .assign (.tmp 15), none⟩,
    ⟨some 6, .assign (.tmp 16), none⟩]
@[reducible] def q9_2 : SCode := .region [⟨some 18, .move (.tmp 0), none⟩,
    ⟨some 19, .call { callee := .value (.func 19), args := #[.tmp 18], argTypes := #[22] }, none⟩,
    ⟨some 20, .call { callee := .value (.func 36), args := #[.tmp 19], argTypes := #[22] }, none⟩,
    ⟨some 17, .move (.tmp 20), none⟩,
    ⟨some 21, .extract (.tmp 17) 0, none⟩,
    ⟨some 22, .extract (.tmp 17) 1, none⟩,
    ⟨some 7, .assign (.tmp 21), none⟩,
    ⟨some 8, .assign (.tmp 22), none⟩]
@[reducible] def q9_3 : SCode := .region [⟨some 23, .move (.tmp 0), none⟩,
    ⟨some 24, .call { callee := .value (.func 20), args := #[.tmp 23], argTypes := #[22] }, none⟩,
    ⟨some 25, .unOp .not 4 (.tmp 24), none⟩]
@[reducible] def q9_4 : SCode := .region [⟨some 26, .move (.tmp 5), none⟩,
    ⟨some 27, .call { callee := .builtin .len, args := #[.tmp 26], argTypes := #[22] }, none⟩,
    ⟨some 28, .binOp .eql 3 (.tmp 27) (.const (.int .i64 0)) 3, none⟩,
    ⟨some 29, .move (.tmp 28), none⟩,
    ⟨some 30, .move (.tmp 7), some (29, true)⟩,
    ⟨some 31, .binOp .eql 3 (.tmp 30) (.const (.int .i64 0)) 3, some (29, true)⟩,
    ⟨some 32, .pick (.tmp 29) (.tmp 31) (.const (.bool false)), none⟩,
    ⟨some 33, .move (.tmp 32), none⟩,
    ⟨some 34, .move (.tmp 6), some (33, true)⟩,
    ⟨some 35, .binOp .eql 23 (.tmp 34) (.const (.int .i64 2)) 23, some (33, true)⟩,
    ⟨some 36, .pick (.tmp 33) (.tmp 35) (.const (.bool false)), none⟩,
    ⟨some 37, .move (.tmp 36), none⟩,
    ⟨some 38, .move (.tmp 8), some (37, true)⟩,
    ⟨some 39, .binOp .eql 23 (.tmp 38) (.const (.int .i64 2)) 23, some (37, true)⟩,
    ⟨some 40, .pick (.tmp 37) (.tmp 39) (.const (.bool false)), none⟩,
    ⟨some 41, .move (.tmp 40), none⟩,
    ⟨some 42, .call { callee := .value (.func 21), args := #[], argTypes := #[] }, some (41, true)⟩,
    ⟨some 43, .pick (.tmp 41) (.tmp 42) (.const (.bool false)), none⟩,
    ⟨some 4, .assign (.tmp 43), none⟩]
@[reducible] def q9_5 : SCode := .region [⟨some 44, .move (.tmp 7), none⟩,
    ⟨some 45, .move (.tmp 0), none⟩,
    ⟨some 46, .call { callee := .value (.func 43), args := #[.tmp 45], argTypes := #[22] }, none⟩,
    ⟨some 47, .binOp .neq 3 (.tmp 44) (.tmp 46) 3, none⟩,
    ⟨some 48, .move (.tmp 47), none⟩,
    ⟨some 49, .move (.tmp 8), some (48, false)⟩,
    ⟨some 50, .binOp .neq 23 (.tmp 49) (.const (.int .i64 0)) 23, some (48, false)⟩,
    ⟨some 51, .pick (.tmp 48) (.const (.bool true)) (.tmp 50), none⟩,
    ⟨some 52, .move (.tmp 51), none⟩,
    ⟨some 53, .call { callee := .value (.func 21), args := #[], argTypes := #[] }, some (52, false)⟩,
    ⟨some 54, .unOp .not 4 (.tmp 53), some (52, false)⟩,
    ⟨some 55, .pick (.tmp 52) (.const (.bool true)) (.tmp 54), none⟩]
@[reducible] def q9_6 : SCode := .region [⟨some 4, .assign (.const (.bool false)), none⟩]
@[reducible] def q9_7 : SCode := .region [⟨some 56, .move (.tmp 0), none⟩,
    ⟨some 57, .call { callee := .builtin .len, args := #[.tmp 56], argTypes := #[22] }, none⟩,
    ⟨some 58, .move (.tmp 1), none⟩,
    ⟨some 59, .call { callee := .value (.func 44), args := #[.tmp 57, .tmp 58], argTypes := #[3, 46] }, none⟩,
    ⟨some 60, .unOp .not 4 (.tmp 59), none⟩]
@[reducible] def q9_8 : SCode := .region [⟨some 61, .move (.tmp 5), none⟩,
    ⟨some 62, .call { callee := .builtin .len, args := #[.tmp 61], argTypes := #[22] }, none⟩,
    ⟨some 63, .binOp .eql 3 (.tmp 62) (.const (.int .i64 0)) 3, none⟩,
    ⟨some 64, .move (.tmp 63), none⟩,
    ⟨some 65, .move (.tmp 6), some (64, true)⟩,
    ⟨some 66, .binOp .eql 23 (.tmp 65) (.const (.int .i64 2)) 23, some (64, true)⟩,
    ⟨some 67, .pick (.tmp 64) (.tmp 66) (.const (.bool false)), none⟩,
    ⟨some 4, .assign (.tmp 67), none⟩]
@[reducible] def q9_9 : SCode := .region [⟨some 68, .move (.tmp 5), none⟩,
    ⟨some 69, .move (.tmp 0), none⟩,
    ⟨some 70, .move (.tmp 1), none⟩,
    ⟨some 71, .call { callee := .value (.func 45), args := #[.tmp 69, .tmp 70], argTypes := #[22, 46] }, none⟩,
    ⟨some 72, .call { callee := .value (.func 25), args := #[.tmp 68, .tmp 71], argTypes := #[22, 22] }, none⟩,
    ⟨some 73, .move (.tmp 72), none⟩,
    ⟨some 74, .move (.tmp 6), some (73, true)⟩,
    ⟨some 75, .binOp .eql 23 (.tmp 74) (.const (.int .i64 0)) 23, some (73, true)⟩,
    ⟨some 76, .pick (.tmp 73) (.tmp 75) (.const (.bool false)), none⟩,
    ⟨some 4, .assign (.tmp 76), none⟩]
def s9 : SCode := (.seq q9_0 (.seq q9_1 (.seq q9_2 (.seq (.seq q9_3 (.cond (.tmp 25) (.seq q9_4 .ret) .skip)) (.seq (.seq q9_5 (.cond (.tmp 55) (.seq q9_6 .ret) .skip)) (.seq (.seq q9_7 (.cond (.tmp 60) (.seq q9_8 .ret) .skip)) (.seq q9_9 .ret)))))))
theorem s9_strip : stripC (bodyOf Tryd.f9) = s9 := by kernel_rfl
theorem s9_ok : codeOK 77 (bodyOf Tryd.f9) = true := by kernel_rfl
theorem s9_call [Tabs Tryd.prog] {args : List Value} {h : Heap} {Q : Value → Heap → Prop} (hsz : args.length ≤ 77) (hk : aw Tryd.prog 77 s9 (aPost Tryd.prog [.tmp 4] Q) (argEnv 0 args) h) : ACall Tryd.prog 9 args h Q :=
  acall_s Tryd.func9 rfl (enters_of Tryd.func9 (by kernel_rfl) rfl) rfl rfl (by decide) s9_strip s9_ok hsz hk

/-! 33: planchet planchetref02.Cycles -/
@[reducible] def q33_0 : SCode := .region [⟨some 2, .assign (.const (.slice none 0 0)), none⟩]
@[reducible] def q33_1 : SCode := .region [⟨some 3, .assign (.const (.slice none 0 0)), none⟩]
@[reducible] def q33_2 : SCode := .region [⟨some 7, .move (.tmp 0), none⟩,
    ⟨some 8, .call { callee := .builtin .len, args := #[.tmp 7], argTypes := #[22] }, none⟩,
    ⟨some 9, .move (.const (.int .i64 0)), none⟩]
@[reducible] def q33_3 : SCode := .region [⟨some 10, .binOp .lss 3 (.tmp 9) (.tmp 8) 3, none⟩]
@[reducible] def q33_4 : SCode := .region [⟨some 11, .move (.tmp 9), none⟩,
    ⟨some 4, .assign (.tmp 11), none⟩]
@[reducible] def q33_5 : SCode := .region [⟨some 12, .move (.tmp 0), none⟩,
    ⟨some 13, .call { callee := .builtin .len, args := #[.tmp 12], argTypes := #[22] }, none⟩,
    ⟨some 14, .move (.const (.int .i64 0)), none⟩]
@[reducible] def q33_6 : SCode := .region [⟨some 15, .binOp .lss 3 (.tmp 14) (.tmp 13) 3, none⟩]
@[reducible] def q33_7 : SCode := .region [⟨some 16, .move (.tmp 14), none⟩,
    ⟨some 5, .assign (.tmp 16), none⟩]
@[reducible] def q33_8 : SCode := .region [⟨some 17, .move (.tmp 0), none⟩,
    ⟨some 18, .call { callee := .builtin .len, args := #[.tmp 17], argTypes := #[22] }, none⟩,
    ⟨some 19, .move (.const (.int .i64 0)), none⟩]
@[reducible] def q33_9 : SCode := .region [⟨some 20, .binOp .lss 3 (.tmp 19) (.tmp 18) 3, none⟩]
@[reducible] def q33_10 : SCode := .region [⟨some 21, .move (.tmp 19), none⟩,
    ⟨some 6, .assign (.tmp 21), none⟩]
@[reducible] def q33_11 : SCode := .region [⟨some 22, .move (.tmp 4), none⟩,
    ⟨some 23, .move (.tmp 5), none⟩,
    ⟨some 24, .binOp .lss 3 (.tmp 22) (.tmp 23) 3, none⟩,
    ⟨some 25, .move (.tmp 24), none⟩,
    ⟨some 26, .move (.tmp 4), some (25, true)⟩,
    ⟨some 27, .move (.tmp 6), some (25, true)⟩,
    ⟨some 28, .binOp .lss 3 (.tmp 26) (.tmp 27) 3, some (25, true)⟩,
    ⟨some 29, .pick (.tmp 25) (.tmp 28) (.const (.bool false)), none⟩,
    ⟨some 30, .move (.tmp 29), none⟩,
    ⟨some 31, .move (.tmp 0), some (30, true)⟩,
    ⟨some 32, .move (.tmp 4), some (30, true)⟩,
    ⟨some 33, .indexAddr 22 (.tmp 31) (.tmp 32), some (30, true)⟩,
    ⟨some 34, .load 3 (.tmp 33), some (30, true)⟩,
    ⟨some 35, .move (.tmp 5), some (30, true)⟩,
    ⟨some 36, .binOp .shr 3 (.tmp 34) (.tmp 35) 3, some (30, true)⟩,
    ⟨some 37, .binOp .and 3 (.tmp 36) (.const (.int .i64 1)) 3, some (30, true)⟩,
    ⟨some 38, .binOp .eql 3 (.tmp 37) (.const (.int .i64 1)) 3, some (30, true)⟩,
    ⟨some 39, .pick (.tmp 30) (.tmp 38) (.const (.bool false)), none⟩,
    ⟨some 40, .move (.tmp 39), none⟩,
    ⟨some 41, .move (.tmp 0), some (40, true)⟩,
    ⟨some 42, .move (.tmp 5), some (40, true)⟩,
    ⟨some 43, .indexAddr 22 (.tmp 41) (.tmp 42), some (40, true)⟩,
    ⟨some 44, .load 3 (.tmp 43), some (40, true)⟩,
    ⟨some 45, .move (.tmp 6), some (40, true)⟩,
    ⟨some 46, .binOp .shr 3 (.tmp 44) (.tmp 45) 3, some (40, true)⟩,
    ⟨some 47, .binOp .and 3 (.tmp 46) (.const (.int .i64 1)) 3, some (40, true)⟩,
    ⟨some 48, .binOp .eql 3 (.tmp 47) (.const (.int .i64 1)) 3, some (40, true)⟩,
    ⟨some 49, .pick (.tmp 40) (.tmp 48) (.const (.bool false)), none⟩,
    ⟨some 50, .move (.tmp 49), none⟩,
    ⟨some 51, .move (.tmp 0), some (50, true)⟩,
    ⟨some 52, .move (.tmp 6), some (50, true)⟩,
    ⟨some 53, .indexAddr 22 (.tmp 51) (.tmp 52), some (50, true)⟩,
    ⟨some 54, .load 3 (.tmp 53), some (50, true)⟩,
    ⟨some 55, .move (.tmp 4), some (50, true)⟩,
    ⟨some 56, .binOp .shr 3 (.tmp 54) (.tmp 55) 3, some (50, true)⟩,
    ⟨some 57, .binOp .and 3 (.tmp 56) (.const (.int .i64 1)) 3, some (50, true)⟩,
    ⟨some 58, .binOp .eql 3 (.tmp 57) (.const (.int .i64 1)) 3, some (50, true)⟩,
    ⟨some 59, .pick (.tmp 50) (.tmp 58) (.const (.bool false)), none⟩]
@[reducible] def q33_12 : SCode := .region [⟨some 60, .move (.tmp 3), none⟩,
    ⟨some 61, .move (.tmp 4), none⟩,
    ⟨some 62, .move (.tmp 5), none⟩,
    ⟨some 63, .move (.tmp 6), none⟩,
    ⟨some 64, .build 40 #[(0, .tmp 61), (1, .tmp 62), (2, .tmp 63)], none⟩,
    ⟨some 65, .buildSlice 36 1 #[(0, .tmp 64)], none⟩,
    ⟨some 66, .call { callee := .builtin .append, args := #[.tmp 60, .tmp 65], argTypes := #[36, 36] }, none⟩,
    ⟨some 3, .assign (.tmp 66), none⟩]
@[reducible] def q33_13 : SCode := .region [⟨some 67, .binOp .add 3 (.tmp 19) (.const (.int .i64 1)) 3, none⟩,
    ⟨some 19, .move (.tmp 67), none⟩]
def l33_0 : SCode := (.seq q33_9 (.seq (.cond (.tmp 20) .skip (.exit 4)) (.seq (.block 5 (.seq q33_10 (.seq q33_11 (.cond (.tmp 59) q33_12 .skip)))) q33_13)))
@[reducible] def q33_14 : SCode := .region [⟨some 68, .binOp .add 3 (.tmp 14) (.const (.int .i64 1)) 3, none⟩,
    ⟨some 14, .move (.tmp 68), none⟩]
def l33_1 : SCode := (.seq q33_6 (.seq (.cond (.tmp 15) .skip (.exit 2)) (.seq (.block 3 (.seq q33_7 (.seq q33_8 (.block 4 (.loop l33_0))))) q33_14)))
@[reducible] def q33_15 : SCode := .region [⟨some 69, .binOp .add 3 (.tmp 9) (.const (.int .i64 1)) 3, none⟩,
    ⟨some 9, .move (.tmp 69), none⟩]
def l33_2 : SCode := (.seq q33_3 (.seq (.cond (.tmp 10) .skip (.exit 0)) (.seq (.block 1 (.seq q33_4 (.seq q33_5 (.block 2 (.loop l33_1))))) q33_15)))
@[reducible] def q33_16 : SCode := .region [⟨some 70, .move (.tmp 3), none⟩,
    ⟨some 2, .assign (.tmp 70), none⟩]
def s33 : SCode := (.seq q33_0 (.seq q33_1 (.seq (.seq q33_2 (.block 0 (.loop l33_2))) (.seq q33_16 .ret))))
theorem s33_strip : stripC (bodyOf Tryd.f33) = s33 := by kernel_rfl
theorem s33_ok : codeOK 71 (bodyOf Tryd.f33) = true := by kernel_rfl
theorem s33_call [Tabs Tryd.prog] {args : List Value} {h : Heap} {Q : Value → Heap → Prop} (hsz : args.length ≤ 71) (hk : aw Tryd.prog 71 s33 (aPost Tryd.prog [.tmp 2] Q) (argEnv 0 args) h) : ACall Tryd.prog 33 args h Q :=
  acall_s Tryd.func33 rfl (enters_of Tryd.func33 (by kernel_rfl) rfl) rfl rfl (by decide) s33_strip s33_ok hsz hk

/-! 41: planchet ranks.Turn -/
@[reducible] def q41_0 : SCode := .region [⟨some 4, .assign (.const (.slice none 0 0)), none⟩,
    ⟨some 5, .assign (.const (.int .i64 0)), none⟩]
@[reducible] def q41_1 : SCode := .region [⟨some 11, .move (.tmp 0), none⟩,
    ⟨some 12, .call { callee := .value (.func 56), args := #[.tmp 11], argTypes := #[55] }, none⟩,
    ⟨some 13, .unOp .not 4 (.tmp 12), none⟩,
    ⟨some 14, .move (.tmp 13), none⟩,
    ⟨some 15, .move (.tmp 1), some (14, false)⟩,
    ⟨some 16, .call { callee := .builtin .len, args := #[.tmp 15], argTypes := #[46] }, some (14, false)⟩,
    ⟨some 17, .binOp .gtr 3 (.tmp 16) (.const (.int .i64 28)) 3, some (14, false)⟩,
    ⟨some 18, .pick (.tmp 14) (.const (.bool true)) (.tmp 17), none⟩]
@[reducible] def q41_2 : SCode := .region [⟨some 4, .assign (.const (.slice none 0 0)), none⟩,
    ⟨some 5, .assign (.const (.int .i64 2)), none⟩]
@[reducible] def q41_3 : SCode := .region [⟨some 19, .move (.tmp 0), none⟩,
    ⟨some 20, .call { callee := .value (.func 46), args := #[.tmp 19], argTypes := #[22] }, none⟩,
    ⟨some 6, .assign (.tmp 20), none⟩]
@[reducible] def q41_4 : SCode := .region [⟨some 21, .move (.tmp 1), none⟩,
    ⟨some 22, .call { callee := .builtin .len, args := #[.tmp 21], argTypes := #[46] }, none⟩,
    ⟨some 23, .move (.const (.int .i64 0)), none⟩]
@[reducible] def q41_5 : SCode := .region [⟨some 24, .binOp .lss 3 (.tmp 23) (.tmp 22) 3, none⟩]
@[reducible] def q41_6 : SCode := .region [⟨some 25, .move (.tmp 23), none⟩,
    ⟨some 26, .indexAddr 46 (.tmp 21) (.tmp 23), none⟩,
    ⟨some 27, .load 52 (.tmp 26), none⟩,
    ⟨some 8, .alloc 52, none⟩,
    ⟨some 7, .assign (.tmp 25), none⟩,
    ⟨none, .store 52 (.tmp 8) (.tmp 27), none⟩]
def q41_7 : SCode := .draw [⟨some 28, .indexAddr 52 (.tmp 8) (.const (.int .i64 0)), none⟩,
    ⟨some 29, .load 3 (.tmp 28), none⟩,
    ⟨some 30, .indexAddr 52 (.tmp 8) (.const (.int .i64 1)), none⟩,
    ⟨some 31, .load 3 (.tmp 30), none⟩,
    ⟨some 9, .assign (.tmp 29), none⟩,
    ⟨some 10, .assign (.tmp 31), none⟩]
   [[], [0], [], [2], [1, 0, 1], [3, 4, 0, 1, 2, 3, 4]]
def q41_8 : SCode := .draw [⟨some 32, .move (.tmp 9), none⟩,
    ⟨some 33, .binOp .lss 3 (.tmp 32) (.const (.int .i64 0)) 3, none⟩,
    ⟨some 34, .move (.tmp 33), none⟩,
    ⟨some 35, .move (.tmp 9), some (34, false)⟩,
    ⟨some 36, .move (.tmp 10), some (34, false)⟩,
    ⟨some 37, .binOp .geq 3 (.tmp 35) (.tmp 36) 3, some (34, false)⟩,
    ⟨some 38, .pick (.tmp 34) (.const (.bool true)) (.tmp 37), none⟩,
    ⟨some 39, .move (.tmp 38), none⟩,
    ⟨some 40, .move (.tmp 10), some (39, false)⟩,
    ⟨some 41, .move (.tmp 0), some (39, false)⟩,
    ⟨some 42, .call { callee := .builtin .len, args := #[.tmp 41], argTypes := #[22] }, some (39, false)⟩,
    ⟨some 43, .binOp .geq 3 (.tmp 40) (.tmp 42) 3, some (39, false)⟩,
    ⟨some 44, .pick (.tmp 39) (.const (.bool true)) (.tmp 43), none⟩,
    ⟨some 45, .move (.tmp 44), none⟩,
    ⟨some 46, .move (.tmp 1), some (45, false)⟩,
    ⟨some 47, .move (.tmp 7), some (45, false)⟩,
    ⟨some 48, .slice 46 (.tmp 46) none (some (.tmp 47)) none, some (45, false)⟩,
    ⟨some 49, .load 52 (.tmp 8), some (45, false)⟩,
    ⟨some 50, .call { callee := .value (.func 77), args := #[.tmp 48, .tmp 49], argTypes := #[46, 52] }, some (45, false)⟩,
    ⟨some 51, .pick (.tmp 45) (.const (.bool true)) (.tmp 50), none⟩]
   [[], [0], [1], [2], [2], [3, 4, 2], [2, 5], [6, 2], [7], [7], [9, 7], [8, 10, 7], [7, 11], [12, 7], [13], [13], [14, 15, 13], [13], [16, 17, 13, 13], [13, 18]]
@[reducible] def q41_9 : SCode := .region [⟨some 4, .assign (.const (.slice none 0 0)), none⟩,
    ⟨some 5, .assign (.const (.int .i64 2)), none⟩]
def q41_10 : SCode := .draw [⟨some 52, .move (.tmp 6), none⟩,
    ⟨some 53, .move (.tmp 9), none⟩,
    ⟨some 54, .indexAddr 22 (.tmp 52) (.tmp 53), none⟩,
    ⟨some 55, .load 3 (.tmp 54), none⟩,
    ⟨some 56, .move (.tmp 10), none⟩,
    ⟨some 57, .binOp .shl 3 (.const (.int .i64 1)) (.tmp 56) 3, none⟩,
    ⟨some 58, .binOp .xor 3 (.tmp 55) (.tmp 57) 3, none⟩,
    ⟨some 59, .indexAddr 22 (.tmp 52) (.tmp 53), none⟩,
    ⟨none, .store 3 (.tmp 59) (.tmp 58), none⟩]
   [[], [], [0, 1], [2], [], [4], [3, 5], [0, 1, 0, 1, 2, 3, 4, 5, 6], [7, 6, 0, 1, 2, 3, 4, 5, 6]]
def q41_11 : SCode := .draw [⟨some 60, .move (.tmp 6), none⟩,
    ⟨some 61, .move (.tmp 10), none⟩,
    ⟨some 62, .indexAddr 22 (.tmp 60) (.tmp 61), none⟩,
    ⟨some 63, .load 3 (.tmp 62), none⟩,
    ⟨some 64, .move (.tmp 9), none⟩,
    ⟨some 65, .binOp .shl 3 (.const (.int .i64 1)) (.tmp 64) 3, none⟩,
    ⟨some 66, .binOp .xor 3 (.tmp 63) (.tmp 65) 3, none⟩,
    ⟨some 67, .indexAddr 22 (.tmp 60) (.tmp 61), none⟩,
    ⟨none, .store 3 (.tmp 67) (.tmp 66), none⟩]
   [[], [], [0, 1], [2], [], [4], [3, 5], [0, 1, 0, 1, 2, 3, 4, 5, 6], [7, 6, 0, 1, 2, 3, 4, 5, 6]]
@[reducible] def q41_12 : SCode := .region [⟨some 68, .binOp .add 3 (.tmp 23) (.const (.int .i64 1)) 3, none⟩,
    ⟨some 23, .move (.tmp 68), none⟩]
def l41_0 : SCode := (.seq q41_5 (.seq (.cond (.tmp 24) .skip (.exit 0)) (.seq (.block 1 (.seq q41_6 (.seq q41_7 (.seq (.seq q41_8 (.cond (.tmp 51) (.seq q41_9 .ret) .skip)) (.seq q41_10 q41_11))))) q41_12)))
@[reducible] def q41_13 : SCode := .region [⟨some 69, .move (.tmp 6), none⟩,
    ⟨some 4, .assign (.tmp 69), none⟩,
    ⟨some 5, .assign (.const (.int .i64 0)), none⟩]
def s41 : SCode := (.seq q41_0 (.seq (.seq q41_1 (.cond (.tmp 18) (.seq q41_2 .ret) .skip)) (.seq q41_3 (.seq (.seq q41_4 (.block 0 (.loop l41_0))) (.seq q41_13 .ret)))))
theorem s41_strip : stripC (bodyOf Tryd.f41) = s41 := by kernel_rfl
theorem s41_ok : codeOK 70 (bodyOf Tryd.f41) = true := by kernel_rfl
theorem s41_call [Tabs Tryd.prog] {args : List Value} {h : Heap} {Q : Value → Heap → Prop} (hsz : args.length ≤ 70) (hk : aw Tryd.prog 70 s41 (aPost Tryd.prog [.tmp 4, .tmp 5] Q) (argEnv 0 args) h) : ACall Tryd.prog 41 args h Q :=
  acall_s Tryd.func41 rfl (enters_of Tryd.func41 (by kernel_rfl) rfl) rfl rfl (by decide) s41_strip s41_ok hsz hk

/-! 42: planchet planchetlaw02.pairs -/
@[reducible] def q42_0 : SCode := .region [⟨some 2, .assign (.const (.slice none 0 0)), none⟩]
@[reducible] def q42_1 : SCode := .region [⟨some 3, .move (.tmp 0), none⟩,
    ⟨some 4, .move (.tmp 0), none⟩,
    ⟨some 5, .call { callee := .builtin .len, args := #[.tmp 4], argTypes := #[46] }, none⟩,
    ⟨some 6, .call { callee := .builtin .min, args := #[.tmp 5, .const (.int .i64 32)], argTypes := #[3, 3] }, none⟩,
    ⟨some 7, .slice 46 (.tmp 3) none (some (.tmp 6)) none, none⟩,
    ⟨some 8, .call { callee := .value (.func 78), args := #[.tmp 7], argTypes := #[46] }, none⟩,
    ⟨some 2, .assign (.tmp 8), none⟩]
def s42 : SCode := (.seq q42_0 (.seq q42_1 .ret))
theorem s42_strip : stripC (bodyOf Tryd.f42) = s42 := by kernel_rfl
theorem s42_ok : codeOK 9 (bodyOf Tryd.f42) = true := by kernel_rfl
theorem s42_call [Tabs Tryd.prog] {args : List Value} {h : Heap} {Q : Value → Heap → Prop} (hsz : args.length ≤ 9) (hk : aw Tryd.prog 9 s42 (aPost Tryd.prog [.tmp 2] Q) (argEnv 0 args) h) : ACall Tryd.prog 42 args h Q :=
  acall_s Tryd.func42 rfl (enters_of Tryd.func42 (by kernel_rfl) rfl) rfl rfl (by decide) s42_strip s42_ok hsz hk

/-! 43: planchet planchetref02.Clear -/
@[reducible] def q43_0 : SCode := .region [⟨some 2, .assign (.const (.int .i64 0)), none⟩]
@[reducible] def q43_1 : SCode := .region [⟨some 3, .assign (.const (.int .i64 0)), none⟩]
@[reducible] def q43_2 : SCode := .region [⟨some 8, .move (.tmp 0), none⟩,
    ⟨some 9, .call { callee := .builtin .len, args := #[.tmp 8], argTypes := #[22] }, none⟩,
    ⟨some 10, .binOp .shl 3 (.const (.int .i64 1)) (.tmp 9) 3, none⟩,
    ⟨some 11, .move (.const (.int .i64 0)), none⟩]
@[reducible] def q43_3 : SCode := .region [⟨some 12, .binOp .lss 3 (.tmp 11) (.tmp 10) 3, none⟩]
@[reducible] def q43_4 : SCode := .region [⟨some 13, .move (.tmp 11), none⟩,
    ⟨some 4, .assign (.tmp 13), none⟩]
@[reducible] def q43_5 : SCode := .region [⟨some 5, .assign (.const (.bool true)), none⟩]
@[reducible] def q43_6 : SCode := .region [⟨some 14, .move (.tmp 0), none⟩,
    ⟨some 15, .call { callee := .value (.func 33), args := #[.tmp 14], argTypes := #[22] }, none⟩,
    ⟨some 16, .call { callee := .builtin .len, args := #[.tmp 15], argTypes := #[36] }, none⟩,
    ⟨some 17, .move (.const (.int .i64 0)), none⟩]
@[reducible] def q43_7 : SCode := .region [⟨some 18, .binOp .lss 3 (.tmp 17) (.tmp 16) 3, none⟩]
@[reducible] def q43_8 : SCode := .region [⟨some 19, .indexAddr 36 (.tmp 15) (.tmp 17), none⟩,
    ⟨some 20, .load 40 (.tmp 19), none⟩,
    ⟨some 7, .alloc 40, none⟩,
    ⟨none, .store 40 (.tmp 7) (.tmp 20), none⟩]
@[reducible] def q43_9 : SCode := .region [⟨some 21, .move (.tmp 5), none⟩,
    ⟨some 22, .move (.tmp 21), none⟩,
    ⟨some 23, .move (.tmp 4), some (22, true)⟩,
    ⟨some 24, .indexAddr 40 (.tmp 7) (.const (.int .i64 0)), some (22, true)⟩,
    ⟨some 25, .load 3 (.tmp 24), some (22, true)⟩,
    ⟨some 26, .binOp .shr 3 (.tmp 23) (.tmp 25) 3, some (22, true)⟩,
    ⟨some 27, .binOp .and 3 (.tmp 26) (.const (.int .i64 1)) 3, some (22, true)⟩,
    ⟨some 28, .binOp .eql 3 (.tmp 27) (.const (.int .i64 0)) 3, some (22, true)⟩,
    ⟨some 29, .move (.tmp 28), some (22, true)⟩,
    ⟨some 30, .move (.tmp 4), some (29, false)⟩,
    ⟨some 31, .indexAddr 40 (.tmp 7) (.const (.int .i64 1)), some (29, false)⟩,
    ⟨some 32, .load 3 (.tmp 31), some (29, false)⟩,
    ⟨some 33, .binOp .shr 3 (.tmp 30) (.tmp 32) 3, some (29, false)⟩,
    ⟨some 34, .binOp .and 3 (.tmp 33) (.const (.int .i64 1)) 3, some (29, false)⟩,
    ⟨some 35, .binOp .eql 3 (.tmp 34) (.const (.int .i64 0)) 3, some (29, false)⟩,
    ⟨some 36, .pick (.tmp 29) (.const (.bool true)) (.tmp 35), some (22, true)⟩,
    ⟨some 37, .move (.tmp 36), some (22, true)⟩,
    ⟨some 38, .move (.tmp 4), some (37, false)⟩,
    ⟨some 39, .indexAddr 40 (.tmp 7) (.const (.int .i64 2)), some (37, false)⟩,
    ⟨some 40, .load 3 (.tmp 39), some (37, false)⟩,
    ⟨some 41, .binOp .shr 3 (.tmp 38) (.tmp 40) 3, some (37, false)⟩,
    ⟨some 42, .binOp .and 3 (.tmp 41) (.const (.int .i64 1)) 3, some (37, false)⟩,
    ⟨some 43, .binOp .eql 3 (.tmp 42) (.const (.int .i64 0)) 3, some (37, false)⟩,
    ⟨some 44, .pick (.tmp 37) (.const (.bool true)) (.tmp 43), some (22, true)⟩,
    ⟨some 45, .pick (.tmp 22) (.tmp 44) (.const (.bool false)), none⟩,
    ⟨some 5, .assign (.tmp 45), none⟩]
@[reducible] def q43_10 : SCode := .region [⟨some 46, .binOp .add 3 (.tmp 17) (.const (.int .i64 1)) 3, none⟩,
    ⟨some 17, .move (.tmp 46), none⟩]
def l43_0 : SCode := (.seq q43_7 (.seq (.cond (.tmp 18) .skip (.exit 2)) (.seq (.block 3 (.seq q43_8 q43_9)) q43_10)))
@[reducible] def q43_11 : SCode := .region [⟨some 47, .move (.tmp 5), none⟩]
@[reducible] def q43_12 : SCode := .region [⟨some 48, .move (.tmp 3), none⟩,
    ⟨some 49, .move (.tmp 4), none⟩,
    ⟨some 50, .call { callee := .value (.func 79), args := #[.tmp 49], argTypes := #[3] }, none⟩,
    ⟨some 51, .call { callee := .builtin .max, args := #[.tmp 48, .tmp 50], argTypes := #[3, 3] }, none⟩,
    ⟨some 3, .assign (.tmp 51), none⟩]
@[reducible] def q43_13 : SCode := .region [⟨some 52, .binOp .add 3 (.tmp 11) (.const (.int .i64 1)) 3, none⟩,
    ⟨some 11, .move (.tmp 52), none⟩]
def l43_1 : SCode := (.seq q43_3 (.seq (.cond (.tmp 12) .skip (.exit 0)) (.seq (.block 1 (.seq q43_4 (.seq q43_5 (.seq (.seq q43_6 (.block 2 (.loop l43_0))) (.seq q43_11 (.cond (.tmp 47) q43_12 .skip)))))) q43_13)))
@[reducible] def q43_14 : SCode := .region [⟨some 53, .move (.tmp 3), none⟩,
    ⟨some 2, .assign (.tmp 53), none⟩]
def s43 : SCode := (.seq q43_0 (.seq q43_1 (.seq (.seq q43_2 (.block 0 (.loop l43_1))) (.seq q43_14 .ret))))
theorem s43_strip : stripC (bodyOf Tryd.f43) = s43 := by kernel_rfl
theorem s43_ok : codeOK 54 (bodyOf Tryd.f43) = true := by kernel_rfl
theorem s43_call [Tabs Tryd.prog] {args : List Value} {h : Heap} {Q : Value → Heap → Prop} (hsz : args.length ≤ 54) (hk : aw Tryd.prog 54 s43 (aPost Tryd.prog [.tmp 2] Q) (argEnv 0 args) h) : ACall Tryd.prog 43 args h Q :=
  acall_s Tryd.func43 rfl (enters_of Tryd.func43 (by kernel_rfl) rfl) rfl rfl (by decide) s43_strip s43_ok hsz hk

/-! 44: planchet planchetref02.IsPairs -/
@[reducible] def q44_0 : SCode := .region [⟨some 4, .assign (.const (.bool false)), none⟩]
@[reducible] def q44_1 : SCode := .region [⟨some 9, .move (.tmp 1), none⟩,
    ⟨some 10, .call { callee := .builtin .len, args := #[.tmp 9], argTypes := #[46] }, none⟩,
    ⟨some 11, .move (.const (.int .i64 0)), none⟩]
@[reducible] def q44_2 : SCode := .region [⟨some 12, .binOp .lss 3 (.tmp 11) (.tmp 10) 3, none⟩]
@[reducible] def q44_3 : SCode := .region [⟨some 13, .move (.tmp 11), none⟩,
    ⟨some 14, .indexAddr 46 (.tmp 9) (.tmp 11), none⟩,
    ⟨some 15, .load 52 (.tmp 14), none⟩,
    ⟨some 6, .alloc 52, none⟩,
    ⟨some 5, .assign (.tmp 13), none⟩,
    ⟨none, .store 52 (.tmp 6) (.tmp 15), none⟩]
@[reducible] def q44_4 : SCode := .region [⟨some 16, .indexAddr 52 (.tmp 6) (.const (.int .i64 0)), none⟩,
    ⟨some 17, .load 3 (.tmp 16), none⟩,
    ⟨some 18, .binOp .lss 3 (.tmp 17) (.const (.int .i64 0)) 3, none⟩,
    ⟨some 19, .move (.tmp 18), none⟩,
    ⟨some 20, .indexAddr 52 (.tmp 6) (.const (.int .i64 0)), some (19, false)⟩,
    ⟨some 21, .load 3 (.tmp 20), some (19, false)⟩,
    ⟨some 22, .indexAddr 52 (.tmp 6) (.const (.int .i64 1)), some (19, false)⟩,
    ⟨some 23, .load 3 (.tmp 22), some (19, false)⟩,
    ⟨some 24, .binOp .geq 3 (.tmp 21) (.tmp 23) 3, some (19, false)⟩,
    ⟨some 25, .pick (.tmp 19) (.const (.bool true)) (.tmp 24), none⟩,
    ⟨some 26, .move (.tmp 25), none⟩,
    ⟨some 27, .indexAddr 52 (.tmp 6) (.const (.int .i64 1)), some (26, false)⟩,
    ⟨some 28, .load 3 (.tmp 27), some (26, false)⟩,
    ⟨some 29, .move (.tmp 0), some (26, false)⟩,
    ⟨some 30, .binOp .geq 3 (.tmp 28) (.tmp 29) 3, some (26, false)⟩,
    ⟨some 31, .pick (.tmp 26) (.const (.bool true)) (.tmp 30), none⟩]
@[reducible] def q44_5 : SCode := .region [⟨some 4, .assign (.const (.bool false)), none⟩]
@[reducible] def q44_6 : SCode := .region [⟨some 32, .move (.tmp 1), none⟩,
    ⟨some 33, .move (.tmp 5), none⟩,
    ⟨some 34, .slice 46 (.tmp 32) none (some (.tmp 33)) none, none⟩,
    ⟨some 35, .call { callee := .builtin .len, args := #[.tmp 34], argTypes := #[46] }, none⟩,
    ⟨some 36, .move (.const (.int .i64 0)), none⟩]
@[reducible] def q44_7 : SCode := .region [⟨some 37, .binOp .lss 3 (.tmp 36) (.tmp 35) 3, none⟩]
@[reducible] def q44_8 : SCode := .region [⟨some 38, .indexAddr 46 (.tmp 34) (.tmp 36), none⟩,
    ⟨some 39, .load 52 (.tmp 38), none⟩,
    ⟨some 8, .alloc 52, none⟩,
    ⟨none, .store 52 (.tmp 8) (.tmp 39), none⟩]
@[reducible] def q44_9 : SCode := .region [⟨some 40, .load 52 (.tmp 6), none⟩,
    ⟨some 41, .load 52 (.tmp 8), none⟩,
    ⟨some 42, .binOp .eql 52 (.tmp 40) (.tmp 41) 52, none⟩]
@[reducible] def q44_10 : SCode := .region [⟨some 4, .assign (.const (.bool false)), none⟩]
@[reducible] def q44_11 : SCode := .region [⟨some 43, .binOp .add 3 (.tmp 36) (.const (.int .i64 1)) 3, none⟩,
    ⟨some 36, .move (.tmp 43), none⟩]
def l44_0 : SCode := (.seq q44_7 (.seq (.cond (.tmp 37) .skip (.exit 2)) (.seq (.block 3 (.seq q44_8 (.seq q44_9 (.cond (.tmp 42) (.seq q44_10 .ret) .skip)))) q44_11)))
@[reducible] def q44_12 : SCode := .region [⟨some 44, .binOp .add 3 (.tmp 11) (.const (.int .i64 1)) 3, none⟩,
    ⟨some 11, .move (.tmp 44), none⟩]
def l44_1 : SCode := (.seq q44_2 (.seq (.cond (.tmp 12) .skip (.exit 0)) (.seq (.block 1 (.seq q44_3 (.seq (.seq q44_4 (.cond (.tmp 31) (.seq q44_5 .ret) .skip)) (.seq q44_6 (.block 2 (.loop l44_0)))))) q44_12)))
@[reducible] def q44_13 : SCode := .region [⟨some 45, .move (.tmp 1), none⟩,
    ⟨some 46, .call { callee := .builtin .len, args := #[.tmp 45], argTypes := #[46] }, none⟩,
    ⟨some 47, .binOp .leq 3 (.tmp 46) (.const (.int .i64 28)) 3, none⟩,
    ⟨some 4, .assign (.tmp 47), none⟩]
def s44 : SCode := (.seq q44_0 (.seq (.seq q44_1 (.block 0 (.loop l44_1))) (.seq q44_13 .ret)))
theorem s44_strip : stripC (bodyOf Tryd.f44) = s44 := by kernel_rfl
theorem s44_ok : codeOK 48 (bodyOf Tryd.f44) = true := by kernel_rfl
theorem s44_call [Tabs Tryd.prog] {args : List Value} {h : Heap} {Q : Value → Heap → Prop} (hsz : args.length ≤ 48) (hk : aw Tryd.prog 48 s44 (aPost Tryd.prog [.tmp 4] Q) (argEnv 0 args) h) : ACall Tryd.prog 44 args h Q :=
  acall_s Tryd.func44 rfl (enters_of Tryd.func44 (by kernel_rfl) rfl) rfl rfl (by decide) s44_strip s44_ok hsz hk

/-! 45: planchet planchetref02.Turn -/
@[reducible] def q45_0 : SCode := .region [⟨some 4, .assign (.const (.slice none 0 0)), none⟩]
@[reducible] def q45_1 : SCode := .region [⟨some 8, .buildSlice 22 0 #[], none⟩,
    ⟨some 9, .move (.tmp 0), none⟩,
    ⟨some 10, .call { callee := .builtin .append, args := #[.tmp 8, .tmp 9], argTypes := #[22, 22] }, none⟩,
    ⟨some 5, .assign (.tmp 10), none⟩]
@[reducible] def q45_2 : SCode := .region [⟨some 11, .move (.tmp 1), none⟩,
    ⟨some 12, .call { callee := .builtin .len, args := #[.tmp 11], argTypes := #[46] }, none⟩,
    ⟨some 13, .move (.const (.int .i64 0)), none⟩]
@[reducible] def q45_3 : SCode := .region [⟨some 14, .binOp .lss 3 (.tmp 13) (.tmp 12) 3, none⟩]
@[reducible] def q45_4 : SCode := .region [⟨some 15, .indexAddr 46 (.tmp 11) (.tmp 13), none⟩,
    ⟨some 16, .load 52 (.tmp 15), none⟩,
    ⟨some 7, .alloc 52, none⟩,
    ⟨none, .store 52 (.tmp 7) (.tmp 16), none⟩]
def q45_5 : SCode := .draw [⟨some 17, .move (.tmp 5), none⟩,
    ⟨some 18, .indexAddr 52 (.tmp 7) (.const (.int .i64 0)), none⟩,
    ⟨some 19, .load 3 (.tmp 18), none⟩,
    ⟨some 20, .indexAddr 22 (.tmp 17) (.tmp 19), none⟩,
    ⟨some 21, .load 3 (.tmp 20), none⟩,
    ⟨some 22, .indexAddr 52 (.tmp 7) (.const (.int .i64 1)), none⟩,
    ⟨some 23, .load 3 (.tmp 22), none⟩,
    ⟨some 24, .binOp .shl 3 (.const (.int .i64 1)) (.tmp 23) 3, none⟩,
    ⟨some 25, .binOp .xor 3 (.tmp 21) (.tmp 24) 3, none⟩,
    ⟨some 26, .indexAddr 22 (.tmp 17) (.tmp 19), none⟩,
    ⟨none, .store 3 (.tmp 26) (.tmp 25), none⟩]
   [[], [], [1], [0, 2], [3], [], [5], [6], [4, 7], [0, 2, 0, 1, 2, 3, 4, 5, 6, 7, 8], [9, 8, 0, 1, 2, 3, 4, 5, 6, 7, 8]]
def q45_6 : SCode := .draw [⟨some 27, .move (.tmp 5), none⟩,
    ⟨some 28, .indexAddr 52 (.tmp 7) (.const (.int .i64 1)), none⟩,
    ⟨some 29, .load 3 (.tmp 28), none⟩,
    ⟨some 30, .indexAddr 22 (.tmp 27) (.tmp 29), none⟩,
    ⟨some 31, .load 3 (.tmp 30), none⟩,
    ⟨some 32, .indexAddr 52 (.tmp 7) (.const (.int .i64 0)), none⟩,
    ⟨some 33, .load 3 (.tmp 32), none⟩,
    ⟨some 34, .binOp .shl 3 (.const (.int .i64 1)) (.tmp 33) 3, none⟩,
    ⟨some 35, .binOp .xor 3 (.tmp 31) (.tmp 34) 3, none⟩,
    ⟨some 36, .indexAddr 22 (.tmp 27) (.tmp 29), none⟩,
    ⟨none, .store 3 (.tmp 36) (.tmp 35), none⟩]
   [[], [], [1], [0, 2], [3], [], [5], [6], [4, 7], [0, 2, 0, 1, 2, 3, 4, 5, 6, 7, 8], [9, 8, 0, 1, 2, 3, 4, 5, 6, 7, 8]]
@[reducible] def q45_7 : SCode := .region [⟨some 37, .binOp .add 3 (.tmp 13) (.const (.int .i64 1)) 3, none⟩,
    ⟨some 13, .move (.tmp 37), none⟩]
def l45_0 : SCode := (.seq q45_3 (.seq (.cond (.tmp 14) .skip (.exit 0)) (.seq (.block 1 (.seq q45_4 (.seq q45_5 q45_6))) q45_7)))
@[reducible] def q45_8 : SCode := .region [⟨some 38, .move (.tmp 5), none⟩,
    ⟨some 4, .assign (.tmp 38), none⟩]
def s45 : SCode := (.seq q45_0 (.seq q45_1 (.seq (.seq q45_2 (.block 0 (.loop l45_0))) (.seq q45_8 .ret))))
theorem s45_strip : stripC (bodyOf Tryd.f45) = s45 := by kernel_rfl
theorem s45_ok : codeOK 39 (bodyOf Tryd.f45) = true := by kernel_rfl
theorem s45_call [Tabs Tryd.prog] {args : List Value} {h : Heap} {Q : Value → Heap → Prop} (hsz : args.length ≤ 39) (hk : aw Tryd.prog 39 s45 (aPost Tryd.prog [.tmp 4] Q) (argEnv 0 args) h) : ACall Tryd.prog 45 args h Q :=
  acall_s Tryd.func45 rfl (enters_of Tryd.func45 (by kernel_rfl) rfl) rfl rfl (by decide) s45_strip s45_ok hsz hk

/-! 77: slices.Contains[[][2]int,[2]int] -/
@[reducible] def q77_0 : SCode := .region [⟨some 3, .box 52 (.tmp 1), none⟩,
    ⟨some 4, .assign (.const (.bool false)), none⟩]
@[reducible] def q77_1 : SCode := .region [⟨some 5, .move (.tmp 0), none⟩,
    ⟨some 6, .load 52 (.tmp 3), none⟩,
    ⟨some 7, .call { callee := .value (.func 98), args := #[.tmp 5, .tmp 6], argTypes := #[46, 52] }, none⟩,
    ⟨some 8, .binOp .geq 3 (.tmp 7) (.const (.int .i64 0)) 3, none⟩,
    ⟨some 4, .assign (.tmp 8), none⟩]
def s77 : SCode := (.seq q77_0 (.seq q77_1 .ret))
theorem s77_strip : stripC (bodyOf Tryd.f77) = s77 := by kernel_rfl
theorem s77_ok : codeOK 9 (bodyOf Tryd.f77) = true := by kernel_rfl
theorem s77_call [Tabs Tryd.prog] {args : List Value} {h : Heap} {Q : Value → Heap → Prop} (hsz : args.length ≤ 9) (hk : aw Tryd.prog 9 s77 (aPost Tryd.prog [.tmp 4] Q) (argEnv 0 args) h) : ACall Tryd.prog 77 args h Q :=
  acall_s Tryd.func77 rfl (enters_of Tryd.func77 (by kernel_rfl) rfl) rfl rfl (by decide) s77_strip s77_ok hsz hk

/-! 78: slices.Clone[[][2]int,[2]int] -/
@[reducible] def q78_0 : SCode := .region [⟨some 2, .assign (.const (.slice none 0 0)), none⟩]
@[reducible] def q78_1 : SCode := .region [⟨some 3, .move (.tmp 0), none⟩,
    ⟨some 4, .binOp .eql 46 (.tmp 3) (.const (.slice none 0 0)) 46, none⟩]
@[reducible] def q78_2 : SCode := .region [⟨some 2, .assign (.const (.slice none 0 0)), none⟩]
@[reducible] def q78_3 : SCode := .region [⟨some 5, .buildSlice 46 0 #[], none⟩,
    ⟨some 6, .move (.tmp 0), none⟩,
    ⟨some 7, .call { callee := .builtin .append, args := #[.tmp 5, .tmp 6], argTypes := #[46, 46] }, none⟩,
    ⟨some 2, .assign (.tmp 7), none⟩]
def s78 : SCode := (.seq q78_0 (.seq (.seq q78_1 (.cond (.tmp 4) (.seq q78_2 .ret) .skip)) (.seq q78_3 .ret)))
theorem s78_strip : stripC (bodyOf Tryd.f78) = s78 := by kernel_rfl
theorem s78_ok : codeOK 8 (bodyOf Tryd.f78) = true := by kernel_rfl
theorem s78_call [Tabs Tryd.prog] {args : List Value} {h : Heap} {Q : Value → Heap → Prop} (hsz : args.length ≤ 8) (hk : aw Tryd.prog 8 s78 (aPost Tryd.prog [.tmp 2] Q) (argEnv 0 args) h) : ACall Tryd.prog 78 args h Q :=
  acall_s Tryd.func78 rfl (enters_of Tryd.func78 (by kernel_rfl) rfl) rfl rfl (by decide) s78_strip s78_ok hsz hk

/-! 79: planchet planchetref02.size -/
@[reducible] def q79_0 : SCode := .region [⟨some 2, .assign (.const (.int .i64 0)), none⟩]
@[reducible] def q79_1 : SCode := .region [⟨some 3, .assign (.const (.int .i64 0)), none⟩]
@[reducible] def q79_2 : SCode := .region [⟨some 4, .move (.tmp 0), none⟩,
    ⟨some 5, .binOp .gtr 3 (.tmp 4) (.const (.int .i64 0)) 3, none⟩]
@[reducible] def q79_4 : SCode := .region [⟨some 10, .move (.tmp 3), none⟩,
    ⟨some 11, .binOp .add 3 (.tmp 10) (.const (.int .i64 1)) 3, none⟩,
    ⟨some 3, .assign (.tmp 11), none⟩]
@[reducible] def q79_3 : SCode := .region [⟨some 6, .move (.tmp 0), none⟩,
    ⟨some 7, .move (.tmp 0), none⟩,
    ⟨some 8, .binOp .sub 3 (.tmp 7) (.const (.int .i64 1)) 3, none⟩,
    ⟨some 9, .binOp .and 3 (.tmp 6) (.tmp 8) 3, none⟩,
    ⟨some 0, .assign (.tmp 9), none⟩]
def l79_0 : SCode := (.seq (.seq q79_2 (.cond (.tmp 5) .skip (.exit 0))) (.seq (.block 1 q79_4) q79_3))
@[reducible] def q79_5 : SCode := .region [⟨some 12, .move (.tmp 3), none⟩,
    ⟨some 2, .assign (.tmp 12), none⟩]
def s79 : SCode := (.seq q79_0 (.seq q79_1 (.seq (.block 0 (.loop l79_0)) (.seq q79_5 .ret))))
theorem s79_strip : stripC (bodyOf Tryd.f79) = s79 := by kernel_rfl
theorem s79_ok : codeOK 13 (bodyOf Tryd.f79) = true := by kernel_rfl
theorem s79_call [Tabs Tryd.prog] {args : List Value} {h : Heap} {Q : Value → Heap → Prop} (hsz : args.length ≤ 13) (hk : aw Tryd.prog 13 s79 (aPost Tryd.prog [.tmp 2] Q) (argEnv 0 args) h) : ACall Tryd.prog 79 args h Q :=
  acall_s Tryd.func79 rfl (enters_of Tryd.func79 (by kernel_rfl) rfl) rfl rfl (by decide) s79_strip s79_ok hsz hk

/-! 98: slices.Index[[][2]int,[2]int] -/
@[reducible] def q98_0 : SCode := .region [⟨some 3, .box 52 (.tmp 1), none⟩,
    ⟨some 4, .assign (.const (.int .i64 0)), none⟩]
@[reducible] def q98_1 : SCode := .region [⟨some 6, .move (.tmp 0), none⟩,
    ⟨some 7, .call { callee := .builtin .len, args := #[.tmp 6], argTypes := #[46] }, none⟩,
    ⟨some 8, .move (.const (.int .i64 0)), none⟩]
@[reducible] def q98_2 : SCode := .region [⟨some 9, .binOp .lss 3 (.tmp 8) (.tmp 7) 3, none⟩]
@[reducible] def q98_3 : SCode := .region [⟨some 10, .move (.tmp 8), none⟩,
    ⟨some 5, .assign (.tmp 10), none⟩]
def q98_4 : SCode := .draw [⟨some 11, .load 52 (.tmp 3), none⟩,
    ⟨some 12, .move (.tmp 0), none⟩,
    ⟨some 13, .move (.tmp 5), none⟩,
    ⟨some 14, .indexAddr 46 (.tmp 12) (.tmp 13), none⟩,
    ⟨some 15, .load 52 (.tmp 14), none⟩,
    ⟨some 16, .binOp .eql 52 (.tmp 11) (.tmp 15) 52, none⟩]
   [[], [], [], [1, 2], [3], [0, 4]]
@[reducible] def q98_5 : SCode := .region [⟨some 17, .move (.tmp 5), none⟩,
    ⟨some 4, .assign (.tmp 17), none⟩]
@[reducible] def q98_6 : SCode := .region [⟨some 18, .binOp .add 3 (.tmp 8) (.const (.int .i64 1)) 3, none⟩,
    ⟨some 8, .move (.tmp 18), none⟩]
def l98_0 : SCode := (.seq q98_2 (.seq (.cond (.tmp 9) .skip (.exit 0)) (.seq (.block 1 (.seq q98_3 (.seq q98_4 (.cond (.tmp 16) (.seq q98_5 .ret) .skip)))) q98_6)))
@[reducible] def q98_7 : SCode := .region [⟨some 4, .assign (.const (.int .i64 (-1))), none⟩]
def s98 : SCode := (.seq q98_0 (.seq (.seq q98_1 (.block 0 (.loop l98_0))) (.seq q98_7 .ret)))
theorem s98_strip : stripC (bodyOf Tryd.f98) = s98 := by kernel_rfl
theorem s98_ok : codeOK 19 (bodyOf Tryd.f98) = true := by kernel_rfl
theorem s98_call [Tabs Tryd.prog] {args : List Value} {h : Heap} {Q : Value → Heap → Prop} (hsz : args.length ≤ 19) (hk : aw Tryd.prog 19 s98 (aPost Tryd.prog [.tmp 4] Q) (argEnv 0 args) h) : ACall Tryd.prog 98 args h Q :=
  acall_s Tryd.func98 rfl (enters_of Tryd.func98 (by kernel_rfl) rfl) rfl rfl (by decide) s98_strip s98_ok hsz hk

end Go.Proofs.Tryd.Am

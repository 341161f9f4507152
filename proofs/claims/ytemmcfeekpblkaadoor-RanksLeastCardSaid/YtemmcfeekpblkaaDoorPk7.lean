/-
  Printed by gen.py: the code of some functions, without what no step looks at; held against the program's own by the kernel.
  ranks: how many elements a set has, by the library.
  ranks: Clear and Cycles.
  ranks: slices of pairs: copies, whether a pair is in one.
  ranks: Turn.
  Printed by gen.py: the code of some functions, without what no step looks at; held against the program's own by the kernel.
  ranks: how many pairs an order goes against, by the program and by the reference.
  ranks: the first best order, as the reference finds it.
  ranks: what the orders and the turned results are, plain.
  ranks: results turned, bit by bit; the law RanksFewer's plain part.
  ranks: a packing has no more cycles than an order goes against pairs; the best order's neighbours; the first of the best.
-/
import Derived.Test.YtemmcfeekpblkaaDoorPk3
import Derived.Test.YtemmcfeekpblkaaDoorProg
import Derived.KernelRfl
import Derived.Shelf.Abstract
import Derived.Test.YtemmcfeekpblkaaDoorPk5
import Derived.Test.YtemmcfeekpblkaaDoorPk6
import Derived.Test.YtemmcfeekpblkaaDoorPk4
set_option linter.all false
namespace Go.Proofs.Tryd.Am
open Go.Am
set_option maxRecDepth 100000
/-! 9: planchet planchetlaw02.RanksTurns -/
@[reducible] def q9_0 : SCode := .region [⟨some 4, .assign (.const (.bool false)), none⟩]
@[reducible] def q9_1 : SCode := .region [⟨some 10, .move (.tmp 0), none⟩,
    ⟨some 11, .call { callee := .value (.func 19), args := #[.tmp 10], argTypes := #[22] }, none⟩,
    ⟨some 12, .move (.tmp 1), none⟩,
    ⟨some 13, .call { callee := .value (.func 42), args := #[.tmp 12], argTypes := #[46] }, none⟩,
    ⟨some 14, .call { callee := .value (.func 41), args := #[.tmp 11, .tmp 13], argTypes := #[22, 46] }, none⟩,
    ⟨some 9, .move (.tmp 14), none⟩,
    ⟨some 15, .extract (.tmp 9) 0, none⟩,
    ⟨some 16, .extract (.tmp 9) 1, none⟩,
    ⟨some 5, .assign (.tmp 15), none⟩,
    ⟨some 6, .assign (.tmp 16), none⟩]
@[reducible] def q9_2 : SCode := .region [⟨some 18, .move (.tmp 0), none⟩,
    ⟨some 19, .call { callee := .value (.func 19), args := #[.tmp 18], argTypes := #[22] }, none⟩,
    ⟨some 20, .call { callee := .value (.func 36), args := #[.tmp 19], argTypes := #[22] }, none⟩,
    ⟨some 17, .move (.tmp 20), none⟩,
    ⟨some 21, .extract (.tmp 17) 0, none⟩,
    ⟨some 22, .extract (.tmp 17) 1, none⟩,
    ⟨some 7, .assign (.tmp 21), none⟩,
    ⟨some 8, .assign (.tmp 22), none⟩]
@[reducible] def q9_3 : SCode := .region [⟨some 23, .move (.tmp 0), none⟩,
    ⟨some 24, .call { callee := .value (.func 20), args := #[.tmp 23], argTypes := #[22] }, none⟩,
    ⟨some 25, .unOp .not 4 (.tmp 24), none⟩]
@[reducible] def q9_4 : SCode := .region [⟨some 26, .move (.tmp 5), none⟩,
    ⟨some 27, .call { callee := .builtin .len, args := #[.tmp 26], argTypes := #[22] }, none⟩,
    ⟨some 28, .binOp .eql 3 (.tmp 27) (.const (.int .i64 0)) 3, none⟩,
    ⟨some 29, .move (.tmp 28), none⟩,
    ⟨some 30, .move (.tmp 7), some (29, true)⟩,
    ⟨some 31, .binOp .eql 3 (.tmp 30) (.const (.int .i64 0)) 3, some (29, true)⟩,
    ⟨some 32, .pick (.tmp 29) (.tmp 31) (.const (.bool false)), none⟩,
    ⟨some 33, .move (.tmp 32), none⟩,
    ⟨some 34, .move (.tmp 6), some (33, true)⟩,
    ⟨some 35, .binOp .eql 23 (.tmp 34) (.const (.int .i64 2)) 23, some (33, true)⟩,
    ⟨some 36, .pick (.tmp 33) (.tmp 35) (.const (.bool false)), none⟩,
    ⟨some 37, .move (.tmp 36), none⟩,
    ⟨some 38, .move (.tmp 8), some (37, true)⟩,
    ⟨some 39, .binOp .eql 23 (.tmp 38) (.const (.int .i64 2)) 23, some (37, true)⟩,
    ⟨some 40, .pick (.tmp 37) (.tmp 39) (.const (.bool false)), none⟩,
    ⟨some 41, .move (.tmp 40), none⟩,
    ⟨some 42, .call { callee := .value (.func 21), args := #[], argTypes := #[] }, some (41, true)⟩,
    ⟨some 43, .pick (.tmp 41) (.tmp 42) (.const (.bool false)), none⟩,
    ⟨some 4, .assign (.tmp 43), none⟩]
@[reducible] def q9_5 : SCode := .region [⟨some 44, .move (.tmp 7), none⟩,
    ⟨some 45, .move (.tmp 0), none⟩,
    ⟨some 46, .call { callee := .value (.func 43), args := #[.tmp 45], argTypes := #[22] }, none⟩,
    ⟨some 47, .binOp .neq 3 (.tmp 44) (.tmp 46) 3, none⟩,
    ⟨some 48, .move (.tmp 47), none⟩,
    ⟨some 49, .move (.tmp 8), some (48, false)⟩,
    ⟨some 50, .binOp .neq 23 (.tmp 49) (.const (.int .i64 0)) 23, some (48, false)⟩,
    ⟨some 51, .pick (.tmp 48) (.const (.bool true)) (.tmp 50), none⟩,
    ⟨some 52, .move (.tmp 51), none⟩,
    ⟨some 53, .call { callee := .value (.func 21), args := #[], argTypes := #[] }, some (52, false)⟩,
    ⟨some 54, .unOp .not 4 (.tmp 53), some (52, false)⟩,
    ⟨some 55, .pick (.tmp 52) (.const (.bool true)) (.tmp 54), none⟩]
@[reducible] def q9_6 : SCode := .region [⟨some 4, .assign (.const (.bool false)), none⟩]
@[reducible] def q9_7 : SCode := .region [⟨some 56, .move (.tmp 0), none⟩,
    ⟨some 57, .call { callee := .builtin .len, args := #[.tmp 56], argTypes := #[22] }, none⟩,
    ⟨some 58, .move (.tmp 1), none⟩,
    ⟨some 59, .call { callee := .value (.func 44), args := #[.tmp 57, .tmp 58], argTypes := #[3, 46] }, none⟩,
    ⟨some 60, .unOp .not 4 (.tmp 59), none⟩]
@[reducible] def q9_8 : SCode := .region [⟨some 61, .move (.tmp 5), none⟩,
    ⟨some 62, .call { callee := .builtin .len, args := #[.tmp 61], argTypes := #[22] }, none⟩,
    ⟨some 63, .binOp .eql 3 (.tmp 62) (.const (.int .i64 0)) 3, none⟩,
    ⟨some 64, .move (.tmp 63), none⟩,
    ⟨some 65, .move (.tmp 6), some (64, true)⟩,
    ⟨some 66, .binOp .eql 23 (.tmp 65) (.const (.int .i64 2)) 23, some (64, true)⟩,
    ⟨some 67, .pick (.tmp 64) (.tmp 66) (.const (.bool false)), none⟩,
    ⟨some 4, .assign (.tmp 67), none⟩]
@[reducible] def q9_9 : SCode := .region [⟨some 68, .move (.tmp 5), none⟩,
    ⟨some 69, .move (.tmp 0), none⟩,
    ⟨some 70, .move (.tmp 1), none⟩,
    ⟨some 71, .call { callee := .value (.func 45), args := #[.tmp 69, .tmp 70], argTypes := #[22, 46] }, none⟩,
    ⟨some 72, .call { callee := .value (.func 25), args := #[.tmp 68, .tmp 71], argTypes := #[22, 22] }, none⟩,
    ⟨some 73, .move (.tmp 72), none⟩,
    ⟨some 74, .move (.tmp 6), some (73, true)⟩,
    ⟨some 75, .binOp .eql 23 (.tmp 74) (.const (.int .i64 0)) 23, some (73, true)⟩,
    ⟨some 76, .pick (.tmp 73) (.tmp 75) (.const (.bool false)), none⟩,
    ⟨some 4, .assign (.tmp 76), none⟩]
def s9 : SCode := (.seq q9_0 (.seq q9_1 (.seq q9_2 (.seq (.seq q9_3 (.cond (.tmp 25) (.seq q9_4 .ret) .skip)) (.seq (.seq q9_5 (.cond (.tmp 55) (.seq q9_6 .ret) .skip)) (.seq (.seq q9_7 (.cond (.tmp 60) (.seq q9_8 .ret) .skip)) (.seq q9_9 .ret)))))))
/-! 33: planchet planchetref02.Cycles -/
@[reducible] def q33_0 : SCode := .region [⟨some 2, .assign (.const (.slice none 0 0)), none⟩]
@[reducible] def q33_1 : SCode := .region [⟨some 3, .assign (.const (.slice none 0 0)), none⟩]
@[reducible] def q33_2 : SCode := .region [⟨some 7, .move (.tmp 0), none⟩,
    ⟨some 8, .call { callee := .builtin .len, args := #[.tmp 7], argTypes := #[22] }, none⟩,
    ⟨some 9, .move (.const (.int .i64 0)), none⟩]
@[reducible] def q33_3 : SCode := .region [⟨some 10, .binOp .lss 3 (.tmp 9) (.tmp 8) 3, none⟩]
@[reducible] def q33_4 : SCode := .region [⟨some 11, .move (.tmp 9), none⟩,
    ⟨some 4, .assign (.tmp 11), none⟩]
@[reducible] def q33_5 : SCode := .region [⟨some 12, .move (.tmp 0), none⟩,
    ⟨some 13, .call { callee := .builtin .len, args := #[.tmp 12], argTypes := #[22] }, none⟩,
    ⟨some 14, .move (.const (.int .i64 0)), none⟩]
@[reducible] def q33_6 : SCode := .region [⟨some 15, .binOp .lss 3 (.tmp 14) (.tmp 13) 3, none⟩]
@[reducible] def q33_7 : SCode := .region [⟨some 16, .move (.tmp 14), none⟩,
    ⟨some 5, .assign (.tmp 16), none⟩]
@[reducible] def q33_8 : SCode := .region [⟨some 17, .move (.tmp 0), none⟩,
    ⟨some 18, .call { callee := .builtin .len, args := #[.tmp 17], argTypes := #[22] }, none⟩,
    ⟨some 19, .move (.const (.int .i64 0)), none⟩]
@[reducible] def q33_9 : SCode := .region [⟨some 20, .binOp .lss 3 (.tmp 19) (.tmp 18) 3, none⟩]
@[reducible] def q33_10 : SCode := .region [⟨some 21, .move (.tmp 19), none⟩,
    ⟨some 6, .assign (.tmp 21), none⟩]
@[reducible] def q33_11 : SCode := .region [⟨some 22, .move (.tmp 4), none⟩,
    ⟨some 23, .move (.tmp 5), none⟩,
    ⟨some 24, .binOp .lss 3 (.tmp 22) (.tmp 23) 3, none⟩,
    ⟨some 25, .move (.tmp 24), none⟩,
    ⟨some 26, .move (.tmp 4), some (25, true)⟩,
    ⟨some 27, .move (.tmp 6), some (25, true)⟩,
    ⟨some 28, .binOp .lss 3 (.tmp 26) (.tmp 27) 3, some (25, true)⟩,
    ⟨some 29, .pick (.tmp 25) (.tmp 28) (.const (.bool false)), none⟩,
    ⟨some 30, .move (.tmp 29), none⟩,
    ⟨some 31, .move (.tmp 0), some (30, true)⟩,
    ⟨some 32, .move (.tmp 4), some (30, true)⟩,
    ⟨some 33, .indexAddr 22 (.tmp 31) (.tmp 32), some (30, true)⟩,
    ⟨some 34, .load 3 (.tmp 33), some (30, true)⟩,
    ⟨some 35, .move (.tmp 5), some (30, true)⟩,
    ⟨some 36, .binOp .shr 3 (.tmp 34) (.tmp 35) 3, some (30, true)⟩,
    ⟨some 37, .binOp .and 3 (.tmp 36) (.const (.int .i64 1)) 3, some (30, true)⟩,
    ⟨some 38, .binOp .eql 3 (.tmp 37) (.const (.int .i64 1)) 3, some (30, true)⟩,
    ⟨some 39, .pick (.tmp 30) (.tmp 38) (.const (.bool false)), none⟩,
    ⟨some 40, .move (.tmp 39), none⟩,
    ⟨some 41, .move (.tmp 0), some (40, true)⟩,
    ⟨some 42, .move (.tmp 5), some (40, true)⟩,
    ⟨some 43, .indexAddr 22 (.tmp 41) (.tmp 42), some (40, true)⟩,
    ⟨some 44, .load 3 (.tmp 43), some (40, true)⟩,
    ⟨some 45, .move (.tmp 6), some (40, true)⟩,
    ⟨some 46, .binOp .shr 3 (.tmp 44) (.tmp 45) 3, some (40, true)⟩,
    ⟨some 47, .binOp .and 3 (.tmp 46) (.const (.int .i64 1)) 3, some (40, true)⟩,
    ⟨some 48, .binOp .eql 3 (.tmp 47) (.const (.int .i64 1)) 3, some (40, true)⟩,
    ⟨some 49, .pick (.tmp 40) (.tmp 48) (.const (.bool false)), none⟩,
    ⟨some 50, .move (.tmp 49), none⟩,
    ⟨some 51, .move (.tmp 0), some (50, true)⟩,
    ⟨some 52, .move (.tmp 6), some (50, true)⟩,
    ⟨some 53, .indexAddr 22 (.tmp 51) (.tmp 52), some (50, true)⟩,
    ⟨some 54, .load 3 (.tmp 53), some (50, true)⟩,
    ⟨some 55, .move (.tmp 4), some (50, true)⟩,
    ⟨some 56, .binOp .shr 3 (.tmp 54) (.tmp 55) 3, some (50, true)⟩,
    ⟨some 57, .binOp .and 3 (.tmp 56) (.const (.int .i64 1)) 3, some (50, true)⟩,
    ⟨some 58, .binOp .eql 3 (.tmp 57) (.const (.int .i64 1)) 3, some (50, true)⟩,
    ⟨some 59, .pick (.tmp 50) (.tmp 58) (.const (.bool false)), none⟩]
@[reducible] def q33_12 : SCode := .region [⟨some 60, .move (.tmp 3), none⟩,
    ⟨some 61, .move (.tmp 4), none⟩,
    ⟨some 62, .move (.tmp 5), none⟩,
    ⟨some 63, .move (.tmp 6), none⟩,
    ⟨some 64, .build 40 #[(0, .tmp 61), (1, .tmp 62), (2, .tmp 63)], none⟩,
    ⟨some 65, .buildSlice 36 1 #[(0, .tmp 64)], none⟩,
    ⟨some 66, .call { callee := .builtin .append, args := #[.tmp 60, .tmp 65], argTypes := #[36, 36] }, none⟩,
    ⟨some 3, .assign (.tmp 66), none⟩]
@[reducible] def q33_13 : SCode := .region [⟨some 67, .binOp .add 3 (.tmp 19) (.const (.int .i64 1)) 3, none⟩,
    ⟨some 19, .move (.tmp 67), none⟩]
def l33_0 : SCode := (.seq q33_9 (.seq (.cond (.tmp 20) .skip (.exit 4)) (.seq (.block 5 (.seq q33_10 (.seq q33_11 (.cond (.tmp 59) q33_12 .skip)))) q33_13)))
@[reducible] def q33_14 : SCode := .region [⟨some 68, .binOp .add 3 (.tmp 14) (.const (.int .i64 1)) 3, none⟩,
    ⟨some 14, .move (.tmp 68), none⟩]
def l33_1 : SCode := (.seq q33_6 (.seq (.cond (.tmp 15) .skip (.exit 2)) (.seq (.block 3 (.seq q33_7 (.seq q33_8 (.block 4 (.loop l33_0))))) q33_14)))
@[reducible] def q33_15 : SCode := .region [⟨some 69, .binOp .add 3 (.tmp 9) (.const (.int .i64 1)) 3, none⟩,
    ⟨some 9, .move (.tmp 69), none⟩]
def l33_2 : SCode := (.seq q33_3 (.seq (.cond (.tmp 10) .skip (.exit 0)) (.seq (.block 1 (.seq q33_4 (.seq q33_5 (.block 2 (.loop l33_1))))) q33_15)))
@[reducible] def q33_16 : SCode := .region [⟨some 70, .move (.tmp 3), none⟩,
    ⟨some 2, .assign (.tmp 70), none⟩]
def s33 : SCode := (.seq q33_0 (.seq q33_1 (.seq (.seq q33_2 (.block 0 (.loop l33_2))) (.seq q33_16 .ret))))
theorem s33_strip : stripC (bodyOf Tryd.f33) = s33 := by kernel_rfl
theorem s33_ok : codeOK 71 (bodyOf Tryd.f33) = true := by kernel_rfl
theorem s33_call [Tabs Tryd.prog] {args : List Value} {h : Heap} {Q : Value → Heap → Prop} (hsz : args.length ≤ 71) (hk : aw Tryd.prog 71 s33 (aPost Tryd.prog [.tmp 2] Q) (argEnv 0 args) h) : ACall Tryd.prog 33 args h Q :=
  acall_s Tryd.func33 rfl (enters_of Tryd.func33 (by kernel_rfl) rfl) rfl rfl (by decide) s33_strip s33_ok hsz hk

/-! 41: planchet ranks.Turn -/
@[reducible] def q41_0 : SCode := .region [⟨some 4, .assign (.const (.slice none 0 0)), none⟩,
    ⟨some 5, .assign (.const (.int .i64 0)), none⟩]
@[reducible] def q41_1 : SCode := .region [⟨some 11, .move (.tmp 0), none⟩,
    ⟨some 12, .call { callee := .value (.func 56), args := #[.tmp 11], argTypes := #[55] }, none⟩,
    ⟨some 13, .unOp .not 4 (.tmp 12), none⟩,
    ⟨some 14, .move (.tmp 13), none⟩,
    ⟨some 15, .move (.tmp 1), some (14, false)⟩,
    ⟨some 16, .call { callee := .builtin .len, args := #[.tmp 15], argTypes := #[46] }, some (14, false)⟩,
    ⟨some 17, .binOp .gtr 3 (.tmp 16) (.const (.int .i64 28)) 3, some (14, false)⟩,
    ⟨some 18, .pick (.tmp 14) (.const (.bool true)) (.tmp 17), none⟩]
@[reducible] def q41_2 : SCode := .region [⟨some 4, .assign (.const (.slice none 0 0)), none⟩,
    ⟨some 5, .assign (.const (.int .i64 2)), none⟩]
@[reducible] def q41_3 : SCode := .region [⟨some 19, .move (.tmp 0), none⟩,
    ⟨some 20, .call { callee := .value (.func 46), args := #[.tmp 19], argTypes := #[22] }, none⟩,
    ⟨some 6, .assign (.tmp 20), none⟩]
@[reducible] def q41_4 : SCode := .region [⟨some 21, .move (.tmp 1), none⟩,
    ⟨some 22, .call { callee := .builtin .len, args := #[.tmp 21], argTypes := #[46] }, none⟩,
    ⟨some 23, .move (.const (.int .i64 0)), none⟩]
@[reducible] def q41_5 : SCode := .region [⟨some 24, .binOp .lss 3 (.tmp 23) (.tmp 22) 3, none⟩]
@[reducible] def q41_6 : SCode := .region [⟨some 25, .move (.tmp 23), none⟩,
    ⟨some 26, .indexAddr 46 (.tmp 21) (.tmp 23), none⟩,
    ⟨some 27, .load 52 (.tmp 26), none⟩,
    ⟨some 8, .alloc 52, none⟩,
    ⟨some 7, .assign (.tmp 25), none⟩,
    ⟨none, .store 52 (.tmp 8) (.tmp 27), none⟩]
def q41_7 : SCode := .draw [⟨some 28, .indexAddr 52 (.tmp 8) (.const (.int .i64 0)), none⟩,
    ⟨some 29, .load 3 (.tmp 28), none⟩,
    ⟨some 30, .indexAddr 52 (.tmp 8) (.const (.int .i64 1)), none⟩,
    ⟨some 31, .load 3 (.tmp 30), none⟩,
    ⟨some 9, .assign (.tmp 29), none⟩,
    ⟨some 10, .assign (.tmp 31), none⟩]
   [[], [0], [], [2], [1, 0, 1], [3, 4, 0, 1, 2, 3, 4]]
def q41_8 : SCode := .draw [⟨some 32, .move (.tmp 9), none⟩,
    ⟨some 33, .binOp .lss 3 (.tmp 32) (.const (.int .i64 0)) 3, none⟩,
    ⟨some 34, .move (.tmp 33), none⟩,
    ⟨some 35, .move (.tmp 9), some (34, false)⟩,
    ⟨some 36, .move (.tmp 10), some (34, false)⟩,
    ⟨some 37, .binOp .geq 3 (.tmp 35) (.tmp 36) 3, some (34, false)⟩,
    ⟨some 38, .pick (.tmp 34) (.const (.bool true)) (.tmp 37), none⟩,
    ⟨some 39, .move (.tmp 38), none⟩,
    ⟨some 40, .move (.tmp 10), some (39, false)⟩,
    ⟨some 41, .move (.tmp 0), some (39, false)⟩,
    ⟨some 42, .call { callee := .builtin .len, args := #[.tmp 41], argTypes := #[22] }, some (39, false)⟩,
    ⟨some 43, .binOp .geq 3 (.tmp 40) (.tmp 42) 3, some (39, false)⟩,
    ⟨some 44, .pick (.tmp 39) (.const (.bool true)) (.tmp 43), none⟩,
    ⟨some 45, .move (.tmp 44), none⟩,
    ⟨some 46, .move (.tmp 1), some (45, false)⟩,
    ⟨some 47, .move (.tmp 7), some (45, false)⟩,
    ⟨some 48, .slice 46 (.tmp 46) none (some (.tmp 47)) none, some (45, false)⟩,
    ⟨some 49, .load 52 (.tmp 8), some (45, false)⟩,
    ⟨some 50, .call { callee := .value (.func 77), args := #[.tmp 48, .tmp 49], argTypes := #[46, 52] }, some (45, false)⟩,
    ⟨some 51, .pick (.tmp 45) (.const (.bool true)) (.tmp 50), none⟩]
   [[], [0], [1], [2], [2], [3, 4, 2], [2, 5], [6, 2], [7], [7], [9, 7], [8, 10, 7], [7, 11], [12, 7], [13], [13], [14, 15, 13], [13], [16, 17, 13, 13], [13, 18]]
@[reducible] def q41_9 : SCode := .region [⟨some 4, .assign (.const (.slice none 0 0)), none⟩,
    ⟨some 5, .assign (.const (.int .i64 2)), none⟩]
def q41_10 : SCode := .draw [⟨some 52, .move (.tmp 6), none⟩,
    ⟨some 53, .move (.tmp 9), none⟩,
    ⟨some 54, .indexAddr 22 (.tmp 52) (.tmp 53), none⟩,
    ⟨some 55, .load 3 (.tmp 54), none⟩,
    ⟨some 56, .move (.tmp 10), none⟩,
    ⟨some 57, .binOp .shl 3 (.const (.int .i64 1)) (.tmp 56) 3, none⟩,
    ⟨some 58, .binOp .xor 3 (.tmp 55) (.tmp 57) 3, none⟩,
    ⟨some 59, .indexAddr 22 (.tmp 52) (.tmp 53), none⟩,
    ⟨none, .store 3 (.tmp 59) (.tmp 58), none⟩]
   [[], [], [0, 1], [2], [], [4], [3, 5], [0, 1, 0, 1, 2, 3, 4, 5, 6], [7, 6, 0, 1, 2, 3, 4, 5, 6]]
def q41_11 : SCode := .draw [⟨some 60, .move (.tmp 6), none⟩,
    ⟨some 61, .move (.tmp 10), none⟩,
    ⟨some 62, .indexAddr 22 (.tmp 60) (.tmp 61), none⟩,
    ⟨some 63, .load 3 (.tmp 62), none⟩,
    ⟨some 64, .move (.tmp 9), none⟩,
    ⟨some 65, .binOp .shl 3 (.const (.int .i64 1)) (.tmp 64) 3, none⟩,
    ⟨some 66, .binOp .xor 3 (.tmp 63) (.tmp 65) 3, none⟩,
    ⟨some 67, .indexAddr 22 (.tmp 60) (.tmp 61), none⟩,
    ⟨none, .store 3 (.tmp 67) (.tmp 66), none⟩]
   [[], [], [0, 1], [2], [], [4], [3, 5], [0, 1, 0, 1, 2, 3, 4, 5, 6], [7, 6, 0, 1, 2, 3, 4, 5, 6]]
@[reducible] def q41_12 : SCode := .region [⟨some 68, .binOp .add 3 (.tmp 23) (.const (.int .i64 1)) 3, none⟩,
    ⟨some 23, .move (.tmp 68), none⟩]
def l41_0 : SCode := (.seq q41_5 (.seq (.cond (.tmp 24) .skip (.exit 0)) (.seq (.block 1 (.seq q41_6 (.seq q41_7 (.seq (.seq q41_8 (.cond (.tmp 51) (.seq q41_9 .ret) .skip)) (.seq q41_10 q41_11))))) q41_12)))
@[reducible] def q41_13 : SCode := .region [⟨some 69, .move (.tmp 6), none⟩,
    ⟨some 4, .assign (.tmp 69), none⟩,
    ⟨some 5, .assign (.const (.int .i64 0)), none⟩]
def s41 : SCode := (.seq q41_0 (.seq (.seq q41_1 (.cond (.tmp 18) (.seq q41_2 .ret) .skip)) (.seq q41_3 (.seq (.seq q41_4 (.block 0 (.loop l41_0))) (.seq q41_13 .ret)))))
theorem s41_strip : stripC (bodyOf Tryd.f41) = s41 := by kernel_rfl
theorem s41_ok : codeOK 70 (bodyOf Tryd.f41) = true := by kernel_rfl
theorem s41_call [Tabs Tryd.prog] {args : List Value} {h : Heap} {Q : Value → Heap → Prop} (hsz : args.length ≤ 70) (hk : aw Tryd.prog 70 s41 (aPost Tryd.prog [.tmp 4, .tmp 5] Q) (argEnv 0 args) h) : ACall Tryd.prog 41 args h Q :=
  acall_s Tryd.func41 rfl (enters_of Tryd.func41 (by kernel_rfl) rfl) rfl rfl (by decide) s41_strip s41_ok hsz hk

/-! 77: slices.Contains[[][2]int,[2]int] -/
@[reducible] def q77_0 : SCode := .region [⟨some 3, .box 52 (.tmp 1), none⟩,
    ⟨some 4, .assign (.const (.bool false)), none⟩]
@[reducible] def q77_1 : SCode := .region [⟨some 5, .move (.tmp 0), none⟩,
    ⟨some 6, .load 52 (.tmp 3), none⟩,
    ⟨some 7, .call { callee := .value (.func 98), args := #[.tmp 5, .tmp 6], argTypes := #[46, 52] }, none⟩,
    ⟨some 8, .binOp .geq 3 (.tmp 7) (.const (.int .i64 0)) 3, none⟩,
    ⟨some 4, .assign (.tmp 8), none⟩]
def s77 : SCode := (.seq q77_0 (.seq q77_1 .ret))
theorem s77_strip : stripC (bodyOf Tryd.f77) = s77 := by kernel_rfl
theorem s77_ok : codeOK 9 (bodyOf Tryd.f77) = true := by kernel_rfl
theorem s77_call [Tabs Tryd.prog] {args : List Value} {h : Heap} {Q : Value → Heap → Prop} (hsz : args.length ≤ 9) (hk : aw Tryd.prog 9 s77 (aPost Tryd.prog [.tmp 4] Q) (argEnv 0 args) h) : ACall Tryd.prog 77 args h Q :=
  acall_s Tryd.func77 rfl (enters_of Tryd.func77 (by kernel_rfl) rfl) rfl rfl (by decide) s77_strip s77_ok hsz hk

/-! 98: slices.Index[[][2]int,[2]int] -/
@[reducible] def q98_0 : SCode := .region [⟨some 3, .box 52 (.tmp 1), none⟩,
    ⟨some 4, .assign (.const (.int .i64 0)), none⟩]
@[reducible] def q98_1 : SCode := .region [⟨some 6, .move (.tmp 0), none⟩,
    ⟨some 7, .call { callee := .builtin .len, args := #[.tmp 6], argTypes := #[46] }, none⟩,
    ⟨some 8, .move (.const (.int .i64 0)), none⟩]
@[reducible] def q98_2 : SCode := .region [⟨some 9, .binOp .lss 3 (.tmp 8) (.tmp 7) 3, none⟩]
@[reducible] def q98_3 : SCode := .region [⟨some 10, .move (.tmp 8), none⟩,
    ⟨some 5, .assign (.tmp 10), none⟩]
def q98_4 : SCode := .draw [⟨some 11, .load 52 (.tmp 3), none⟩,
    ⟨some 12, .move (.tmp 0), none⟩,
    ⟨some 13, .move (.tmp 5), none⟩,
    ⟨some 14, .indexAddr 46 (.tmp 12) (.tmp 13), none⟩,
    ⟨some 15, .load 52 (.tmp 14), none⟩,
    ⟨some 16, .binOp .eql 52 (.tmp 11) (.tmp 15) 52, none⟩]
   [[], [], [], [1, 2], [3], [0, 4]]
@[reducible] def q98_5 : SCode := .region [⟨some 17, .move (.tmp 5), none⟩,
    ⟨some 4, .assign (.tmp 17), none⟩]
@[reducible] def q98_6 : SCode := .region [⟨some 18, .binOp .add 3 (.tmp 8) (.const (.int .i64 1)) 3, none⟩,
    ⟨some 8, .move (.tmp 18), none⟩]
def l98_0 : SCode := (.seq q98_2 (.seq (.cond (.tmp 9) .skip (.exit 0)) (.seq (.block 1 (.seq q98_3 (.seq q98_4 (.cond (.tmp 16) (.seq q98_5 .ret) .skip)))) q98_6)))
@[reducible] def q98_7 : SCode := .region [⟨some 4, .assign (.const (.int .i64 (-1))), none⟩]
def s98 : SCode := (.seq q98_0 (.seq (.seq q98_1 (.block 0 (.loop l98_0))) (.seq q98_7 .ret)))
theorem s98_strip : stripC (bodyOf Tryd.f98) = s98 := by kernel_rfl
theorem s98_ok : codeOK 19 (bodyOf Tryd.f98) = true := by kernel_rfl
theorem s98_call [Tabs Tryd.prog] {args : List Value} {h : Heap} {Q : Value → Heap → Prop} (hsz : args.length ≤ 19) (hk : aw Tryd.prog 19 s98 (aPost Tryd.prog [.tmp 4] Q) (argEnv 0 args) h) : ACall Tryd.prog 98 args h Q :=
  acall_s Tryd.func98 rfl (enters_of Tryd.func98 (by kernel_rfl) rfl) rfl rfl (by decide) s98_strip s98_ok hsz hk

end Go.Proofs.Tryd.Am

namespace Go.Proofs.Tryd.Am
open Go.Am
set_option maxRecDepth 100000
set_option maxHeartbeats 1000000

/-! How many elements a set has, as the library counts. -/
def oc1 (x : Int) : Int := addV .u64 (bitsV .and .u64 (shrV .u64 x 1) 6148914691236517205) (bitsV .and .u64 x 6148914691236517205)
def oc2 (x : Int) : Int := addV .u64 (bitsV .and .u64 (shrV .u64 x 2) 3689348814741910323) (bitsV .and .u64 x 3689348814741910323)
def oc3 (x : Int) : Int := bitsV .and .u64 (addV .u64 (shrV .u64 x 4) x) 1085102592571150095
def oc4 (x : Int) : Int := addV .u64 x (shrV .u64 x 8)
def oc5 (x : Int) : Int := addV .u64 x (shrV .u64 x 16)
def oc6 (x : Int) : Int := addV .u64 x (shrV .u64 x 32)
def ocA (x : Int) : Int := bitsV .and .i64 (IntKind.i64.wrap (oc6 (oc5 (oc4 (oc3 (oc2 (oc1 x))))))) 127
theorem oc_tab : (List.range 256).all (fun x => decide (ocA (x : Int) = (((Am.bits x).length : Nat) : Int))) = true := by kernel_rfl
theorem ones_call [Tabs prog] {h : Heap} {x : Nat} (hx : x < 256) : APure prog 109 [.int .u64 (x : Int)] h (vint ((Am.bits x).length : Nat)) := by
  have hoc : ocA (x : Int) = (((Am.bits x).length : Nat) : Int) := of_decide_eq_true (List.all_eq_true.1 oc_tab x (List.mem_range.2 hx))
  refine s109_call (by simp) ?_
  simp (maxSteps := 2000000) only [s109, ↓aw_region, ↓aw_skip, ↓aw_seq, ↓aw_block, ↓aw_exit, ↓aw_ret, ↓sops_nil, ↓sops_go, ↓dops_nil, ↓dopsX_nil, ↓dopsR_nil, ↓vdn, vup, extr_20, extr_21, extr_30, extr_31, extr_32, List.map_cons, List.map_nil, cond_true, cond_false, aop, aThen, aBlock, argEnv, ev, sput, sputO, binK, binI, unK, builtinK, pickK, Nat.reduceBEq, Nat.reduceAdd, Int.reduceBEq, Int.reduceBNe, Int.reduceLT, aPost, resK, tup, tyf, convK, und_89, und_3, Int.reduceLE, true_and]
  exact congrArg (fun z : Int => vint z) hoc
theorem count_call [Tabs prog] {h : Heap} {x : Nat} (hx : x < 256) : APure prog 73 [vint x] h (vint ((Am.bits x).length : Nat)) := by
  have hw : IntKind.u64.wrap ((x : Nat) : Int) = (x : Int) := by simp [IntKind.wrap, IntKind.signed, IntKind.bits]; omega
  refine s73_call (by simp) ?_
  simp (maxSteps := 2000000) only [s73, ↓aw_region, ↓aw_skip, ↓aw_seq, ↓aw_block, ↓aw_exit, ↓aw_ret, ↓sops_nil, ↓sops_go, ↓dops_nil, ↓dopsX_nil, ↓dopsR_nil, ↓vdn, vup, extr_20, extr_21, extr_30, extr_31, extr_32, List.map_cons, List.map_nil, cond_true, cond_false, aop, aThen, aBlock, argEnv, ev, sput, sputO, binK, binI, unK, builtinK, pickK, Nat.reduceBEq, Nat.reduceAdd, Int.reduceBEq, Int.reduceBNe, Int.reduceLT, aPost, resK, tup, tyf, convK, und_3, und_53, hw, callK, List.nil_append, List.append_nil, List.toList_toArray, List.cons_append]
  refine s97_call (by simp) ?_
  simp (maxSteps := 2000000) only [s97, ↓aw_region, ↓aw_skip, ↓aw_seq, ↓aw_block, ↓aw_exit, ↓aw_ret, ↓sops_nil, ↓sops_go, ↓dops_nil, ↓dopsX_nil, ↓dopsR_nil, ↓vdn, vup, extr_20, extr_21, extr_30, extr_31, extr_32, List.map_cons, List.map_nil, cond_true, cond_false, aop, aThen, aBlock, argEnv, ev, sput, sputO, binK, binI, unK, builtinK, pickK, Nat.reduceBEq, Nat.reduceAdd, Int.reduceBEq, Int.reduceBNe, Int.reduceLT, aPost, resK, tup, tyf]
  refine ⟨false, rfl, fun h => (by cases h), fun _ => ?_⟩
  simp (maxSteps := 2000000) only [s97, ↓aw_region, ↓aw_skip, ↓aw_seq, ↓aw_block, ↓aw_exit, ↓aw_ret, ↓sops_nil, ↓sops_go, ↓dops_nil, ↓dopsX_nil, ↓dopsR_nil, ↓vdn, vup, extr_20, extr_21, extr_30, extr_31, extr_32, List.map_cons, List.map_nil, cond_true, cond_false, aop, aThen, aBlock, argEnv, ev, sput, sputO, binK, binI, unK, builtinK, pickK, Nat.reduceBEq, Nat.reduceAdd, Int.reduceBEq, Int.reduceBNe, Int.reduceLT, aPost, resK, tup, tyf, callK, List.nil_append, List.append_nil, List.toList_toArray, List.cons_append]
  refine (ones_call hx).mono ?_
  rintro _ h ⟨rfl, rfl⟩
  simp (maxSteps := 2000000) only [s97, ↓aw_region, ↓aw_skip, ↓aw_seq, ↓aw_block, ↓aw_exit, ↓aw_ret, ↓sops_nil, ↓sops_go, ↓dops_nil, ↓dopsX_nil, ↓dopsR_nil, ↓vdn, vup, extr_20, extr_21, extr_30, extr_31, extr_32, List.map_cons, List.map_nil, cond_true, cond_false, aop, aThen, aBlock, argEnv, ev, sput, sputO, binK, binI, unK, builtinK, pickK, Nat.reduceBEq, Nat.reduceAdd, Int.reduceBEq, Int.reduceBNe, Int.reduceLT, aPost, resK, tup, tyf]

end Go.Proofs.Tryd.Am

namespace Go.Proofs.Tryd.Am
open Go.Am
set_option maxRecDepth 100000
set_option maxHeartbeats 1000000

theorem index_call [Tabs prog] {h : Heap} {v : Value} {ts : List T3} {g : FuncId} {cap : Array Value} {p : Nat → Bool} (hv : TripSl h v ts) (hl : ts.length < 9223372036854775807) (hp : ∀ i, i < ts.length → APure prog g ([tV (ts.getD i Go.Am.t0)] ++ cap.toList) h (.bool (p i))) :
    ACall prog 95 [v, .func (.func g) #[] cap] h fun r h' => h' = h ∧ ∃ z : Int, r = .int .i64 z ∧ decide (0 ≤ z) = (List.range ts.length).any p := by
  refine s95_call (by simp) ?_
  simp (maxSteps := 2000000) only [s95, ↓aw_region, ↓aw_skip, ↓aw_seq, ↓aw_block, ↓aw_exit, ↓aw_ret, ↓sops_nil, ↓sops_go, ↓dops_nil, ↓dopsX_nil, ↓dopsR_nil, ↓vdn, vup, extr_20, extr_21, extr_30, extr_31, extr_32, List.map_cons, List.map_nil, cond_true, cond_false, aop, aThen, aBlock, argEnv, ev, sput, sputO, binK, binI, unK, builtinK, pickK, Nat.reduceBEq, Nat.reduceAdd, Int.reduceBEq, Int.reduceBNe, Int.reduceLT, aPost, resK, tup, tyf, hv.len, ↓aw_loop_eq]
  refine aws_hide fun Q hQ => ?_
  refine aw_loop (γ := Nat) (fun i => i ≤ ts.length ∧ ∀ k, k < i → p k = false)
    (fun i => ([(0, v), (1, .func (.func g) #[] cap), (7, vint ts.length), (8, vint i)], h)) (fun i => ts.length - i) 0 ⟨Nat.zero_le _, fun _ hk => by omega⟩ (by simp (maxSteps := 2000000) only [↓aw_region, ↓aw_skip, ↓aw_seq, ↓aw_block, ↓aw_exit, ↓aw_ret, ↓sops_nil, ↓sops_go, ↓dops_nil, ↓dopsX_nil, ↓dopsR_nil, ↓vdn, vup, extr_20, extr_21, extr_30, extr_31, extr_32, List.map_cons, List.map_nil, cond_true, cond_false, aop, aThen, aBlock, argEnv, ev, sput, sputO, binK, binI, unK, builtinK, pickK, Nat.reduceBEq, Nat.reduceAdd, Int.reduceBEq, Int.reduceBNe, Int.reduceLT, aPost, resK, tup, tyf, Int.natCast_zero]) rfl ?_
  rintro i ⟨hi, hno⟩
  refine aw_hide fun Q2 hQ2 => ?_
  by_cases hin : (i : Int) < ts.length
  · have h1 : i < ts.length := by omega
    have hgo := hp i h1
    simp (maxSteps := 2000000) only [s95, ↓aw_region, ↓aw_skip, ↓aw_seq, ↓aw_block, ↓aw_exit, ↓aw_ret, ↓sops_nil, ↓sops_go, ↓dops_nil, ↓dopsX_nil, ↓dopsR_nil, ↓vdn, vup, extr_20, extr_21, extr_30, extr_31, extr_32, List.map_cons, List.map_nil, cond_true, cond_false, aop, aThen, aBlock, argEnv, ev, sput, sputO, binK, binI, unK, builtinK, pickK, Nat.reduceBEq, Nat.reduceAdd, Int.reduceBEq, Int.reduceBNe, Int.reduceLT, aPost, resK, tup, tyf, l95_0, hin, hv.idx el_36 esz_40 h1, hv.load shp_40 h1, callK, List.nil_append, List.append_nil, List.toList_toArray, List.cons_append]
    refine hgo.mono ?_
    rintro _ h ⟨rfl, rfl⟩
    cases hpi : p i with
    | false =>
      simp (maxSteps := 2000000) only [s95, ↓aw_region, ↓aw_skip, ↓aw_seq, ↓aw_block, ↓aw_exit, ↓aw_ret, ↓sops_nil, ↓sops_go, ↓dops_nil, ↓dopsX_nil, ↓dopsR_nil, ↓vdn, vup, extr_20, extr_21, extr_30, extr_31, extr_32, List.map_cons, List.map_nil, cond_true, cond_false, aop, aThen, aBlock, argEnv, ev, sput, sputO, binK, binI, unK, builtinK, pickK, Nat.reduceBEq, Nat.reduceAdd, Int.reduceBEq, Int.reduceBNe, Int.reduceLT, aPost, resK, tup, tyf, hpi, add1 (show i < 9223372036854775807 by omega)]
      refine hQ2 _ _ _ ⟨i + 1, ⟨by omega, fun k hk => ?_⟩, by omega, by simp (maxSteps := 2000000) only [↓aw_region, ↓aw_skip, ↓aw_seq, ↓aw_block, ↓aw_exit, ↓aw_ret, ↓sops_nil, ↓sops_go, ↓dops_nil, ↓dopsX_nil, ↓dopsR_nil, ↓vdn, vup, extr_20, extr_21, extr_30, extr_31, extr_32, List.map_cons, List.map_nil, cond_true, cond_false, aop, aThen, aBlock, argEnv, ev, sput, sputO, binK, binI, unK, builtinK, pickK, Nat.reduceBEq, Nat.reduceAdd, Int.reduceBEq, Int.reduceBNe, Int.reduceLT, aPost, resK, tup, tyf], rfl⟩
      by_cases hki : k = i
      · rw [hki]; exact hpi
      · exact hno k (by omega)
    | true =>
      simp (maxSteps := 2000000) only [s95, ↓aw_region, ↓aw_skip, ↓aw_seq, ↓aw_block, ↓aw_exit, ↓aw_ret, ↓sops_nil, ↓sops_go, ↓dops_nil, ↓dopsX_nil, ↓dopsR_nil, ↓vdn, vup, extr_20, extr_21, extr_30, extr_31, extr_32, List.map_cons, List.map_nil, cond_true, cond_false, aop, aThen, aBlock, argEnv, ev, sput, sputO, binK, binI, unK, builtinK, pickK, Nat.reduceBEq, Nat.reduceAdd, Int.reduceBEq, Int.reduceBNe, Int.reduceLT, aPost, resK, tup, tyf, hpi]
      refine hQ2 _ _ _ (hQ _ _ _ ?_)
      simp (maxSteps := 2000000) only [s95, ↓aw_region, ↓aw_skip, ↓aw_seq, ↓aw_block, ↓aw_exit, ↓aw_ret, ↓sops_nil, ↓sops_go, ↓dops_nil, ↓dopsX_nil, ↓dopsR_nil, ↓vdn, vup, extr_20, extr_21, extr_30, extr_31, extr_32, List.map_cons, List.map_nil, cond_true, cond_false, aop, aThen, aBlock, argEnv, ev, sput, sputO, binK, binI, unK, builtinK, pickK, Nat.reduceBEq, Nat.reduceAdd, Int.reduceBEq, Int.reduceBNe, Int.reduceLT, aPost, resK, tup, tyf]
      refine ⟨_, rfl, ?_⟩
      rw [decide_eq_true (Int.natCast_nonneg i)]
      exact (List.any_eq_true.2 ⟨i, List.mem_range.2 h1, hpi⟩).symm
  · obtain rfl : i = ts.length := by omega
    simp (maxSteps := 2000000) only [s95, ↓aw_region, ↓aw_skip, ↓aw_seq, ↓aw_block, ↓aw_exit, ↓aw_ret, ↓sops_nil, ↓sops_go, ↓dops_nil, ↓dopsX_nil, ↓dopsR_nil, ↓vdn, vup, extr_20, extr_21, extr_30, extr_31, extr_32, List.map_cons, List.map_nil, cond_true, cond_false, aop, aThen, aBlock, argEnv, ev, sput, sputO, binK, binI, unK, builtinK, pickK, Nat.reduceBEq, Nat.reduceAdd, Int.reduceBEq, Int.reduceBNe, Int.reduceLT, aPost, resK, tup, tyf, l95_0, Int.lt_irrefl]
    refine hQ2 _ _ _ (hQ _ _ _ ?_)
    simp (maxSteps := 2000000) only [s95, ↓aw_region, ↓aw_skip, ↓aw_seq, ↓aw_block, ↓aw_exit, ↓aw_ret, ↓sops_nil, ↓sops_go, ↓dops_nil, ↓dopsX_nil, ↓dopsR_nil, ↓vdn, vup, extr_20, extr_21, extr_30, extr_31, extr_32, List.map_cons, List.map_nil, cond_true, cond_false, aop, aThen, aBlock, argEnv, ev, sput, sputO, binK, binI, unK, builtinK, pickK, Nat.reduceBEq, Nat.reduceAdd, Int.reduceBEq, Int.reduceBNe, Int.reduceLT, aPost, resK, tup, tyf, if_true]
    refine ⟨_, rfl, ?_⟩
    rw [decide_eq_false (by decide)]
    exact (List.any_eq_false.2 fun k hk => by rw [hno k (List.mem_range.1 hk)]; decide).symm
theorem contains_call [Tabs prog] {h : Heap} {v : Value} {ts : List T3} {g : FuncId} {cap : Array Value} {p : Nat → Bool} (hv : TripSl h v ts) (hl : ts.length < 9223372036854775807) (hp : ∀ i, i < ts.length → APure prog g ([tV (ts.getD i Go.Am.t0)] ++ cap.toList) h (.bool (p i))) :
    APure prog 67 [v, .func (.func g) #[] cap] h (.bool ((List.range ts.length).any p)) := by
  refine s67_call (by simp) ?_
  simp (maxSteps := 2000000) only [s67, ↓aw_region, ↓aw_skip, ↓aw_seq, ↓aw_block, ↓aw_exit, ↓aw_ret, ↓sops_nil, ↓sops_go, ↓dops_nil, ↓dopsX_nil, ↓dopsR_nil, ↓vdn, vup, extr_20, extr_21, extr_30, extr_31, extr_32, List.map_cons, List.map_nil, cond_true, cond_false, aop, aThen, aBlock, argEnv, ev, sput, sputO, binK, binI, unK, builtinK, pickK, Nat.reduceBEq, Nat.reduceAdd, Int.reduceBEq, Int.reduceBNe, Int.reduceLT, aPost, resK, tup, tyf, callK, List.nil_append, List.append_nil, List.toList_toArray, List.cons_append]
  refine (index_call hv hl hp).mono ?_
  rintro _ h ⟨rfl, z, rfl, hz⟩
  simp (maxSteps := 2000000) only [s67, ↓aw_region, ↓aw_skip, ↓aw_seq, ↓aw_block, ↓aw_exit, ↓aw_ret, ↓sops_nil, ↓sops_go, ↓dops_nil, ↓dopsX_nil, ↓dopsR_nil, ↓vdn, vup, extr_20, extr_21, extr_30, extr_31, extr_32, List.map_cons, List.map_nil, cond_true, cond_false, aop, aThen, aBlock, argEnv, ev, sput, sputO, binK, binI, unK, builtinK, pickK, Nat.reduceBEq, Nat.reduceAdd, Int.reduceBEq, Int.reduceBNe, Int.reduceLT, aPost, resK, tup, tyf, ge_iff_le, hz]

/-- What Cycles hands back. -/
theorem cycles30_call [BitTab prog 1] {h : Heap} {v : Value} {xs : List Int} (hv : IntSl h v xs) (hl : xs.length < 9223372036854775808) (hx : ∀ x ∈ xs, -9223372036854775808 ≤ x ∧ x < 9223372036854775808) :
    ACall prog 30 [v] h fun r h' => Ext (fun _ => False) h h' ∧ if trn xs = true then ∃ w, r = .tuple #[w, .int .i64 0] ∧ OwnT 40 h' w (cA xs xs.length) else r = .tuple #[.slice none 0 0, .int .i64 2] := by
  refine s30_call (by simp) ?_
  simp (maxSteps := 2000000) only [s30, ↓aw_region, ↓aw_skip, ↓aw_seq, ↓aw_block, ↓aw_exit, ↓aw_ret, ↓sops_nil, ↓sops_go, ↓dops_nil, ↓dopsX_nil, ↓dopsR_nil, ↓vdn, vup, extr_20, extr_21, extr_30, extr_31, extr_32, List.map_cons, List.map_nil, cond_true, cond_false, aop, aThen, aBlock, argEnv, ev, sput, sputO, binK, binI, unK, builtinK, pickK, Nat.reduceBEq, Nat.reduceAdd, Int.reduceBEq, Int.reduceBNe, Int.reduceLT, aPost, resK, tup, tyf, callK, List.nil_append, List.append_nil, List.toList_toArray, List.cons_append]
  refine (valid_call hv hl hx).mono ?_
  rintro _ h ⟨rfl, rfl⟩
  cases ht : trn xs with
  | false =>
    simp (maxSteps := 2000000) only [s30, ↓aw_region, ↓aw_skip, ↓aw_seq, ↓aw_block, ↓aw_exit, ↓aw_ret, ↓sops_nil, ↓sops_go, ↓dops_nil, ↓dopsX_nil, ↓dopsR_nil, ↓vdn, vup, extr_20, extr_21, extr_30, extr_31, extr_32, List.map_cons, List.map_nil, cond_true, cond_false, aop, aThen, aBlock, argEnv, ev, sput, sputO, binK, binI, unK, builtinK, pickK, Nat.reduceBEq, Nat.reduceAdd, Int.reduceBEq, Int.reduceBNe, Int.reduceLT, aPost, resK, tup, tyf, ht, Bool.false_eq_true, if_false]
    exact Ext.refl _ _
  | true =>
    simp (maxSteps := 2000000) only [s30, ↓aw_region, ↓aw_skip, ↓aw_seq, ↓aw_block, ↓aw_exit, ↓aw_ret, ↓sops_nil, ↓sops_go, ↓dops_nil, ↓dopsX_nil, ↓dopsR_nil, ↓vdn, vup, extr_20, extr_21, extr_30, extr_31, extr_32, List.map_cons, List.map_nil, cond_true, cond_false, aop, aThen, aBlock, argEnv, ev, sput, sputO, binK, binI, unK, builtinK, pickK, Nat.reduceBEq, Nat.reduceAdd, Int.reduceBEq, Int.reduceBNe, Int.reduceLT, aPost, resK, tup, tyf, ht, callK, List.nil_append, List.append_nil, List.toList_toArray, List.cons_append]
    refine (cycles_call hv ht).mono ?_
    rintro r h' ⟨hr, hE⟩
    simp (maxSteps := 2000000) only [s30, ↓aw_region, ↓aw_skip, ↓aw_seq, ↓aw_block, ↓aw_exit, ↓aw_ret, ↓sops_nil, ↓sops_go, ↓dops_nil, ↓dopsX_nil, ↓dopsR_nil, ↓vdn, vup, extr_20, extr_21, extr_30, extr_31, extr_32, List.map_cons, List.map_nil, cond_true, cond_false, aop, aThen, aBlock, argEnv, ev, sput, sputO, binK, binI, unK, builtinK, pickK, Nat.reduceBEq, Nat.reduceAdd, Int.reduceBEq, Int.reduceBNe, Int.reduceLT, aPost, resK, tup, tyf, if_true]
    exact ⟨hE, r, rfl, hr⟩

theorem range_any {α : Type} {p : α → Bool} {d : α} : ∀ l : List α, ((List.range l.length).any fun i => p (l.getD i d)) = l.any p := fun l => by
  rw [Bool.eq_iff_iff, List.any_eq_true, List.any_eq_true]
  constructor
  · rintro ⟨i, hi, h⟩
    have hi' := List.mem_range.1 hi
    rw [List.getD, List.getElem?_eq_getElem hi'] at h
    exact ⟨_, List.getElem_mem hi', h⟩
  · rintro ⟨x, hx, h⟩
    obtain ⟨i, hi, rfl⟩ := List.mem_iff_getElem.1 hx
    exact ⟨i, List.mem_range.2 hi, by rw [List.getD, List.getElem?_eq_getElem hi]; exact h⟩
end Go.Proofs.Tryd.Am

namespace Go.Proofs.Tryd.Am
open Go.Am
set_option maxRecDepth 100000
set_option maxHeartbeats 1000000

/-- A pair as a value. -/
def pV (p : Int × Int) : Value := .agg #[vint p.1, vint p.2]
theorem boxP {h : Heap} {p : Int × Int} {K : Value → Heap → Prop} : boxK prog h 52 (pV p) K = K (newPtr h) (h ++ [.cells [vint p.1, vint p.2] 52 false]) := by
  simp [boxK, esz_52, newPtr, cellsOf, pV]
theorem loadP {h : Heap} {b : Nat} {p : Int × Int} {e : TypeId} {ro : Bool} {K : Value → Prop} (hb : h[b]? = some (.cells [vint p.1, vint p.2] e ro)) : loadK prog h 52 (.pointer (some ⟨b, 0, none⟩)) K = K (pV p) := loadA hb (by rw [shp_52]; rfl)
theorem storeP {h : Heap} {b : Nat} {p : Int × Int} {e : TypeId} {c : List Value} {K : Heap → Prop} (hb : h[b]? = some (.cells c e false)) (hc : c.length = 2) : storeK prog h 52 (.pointer (some ⟨b, 0, none⟩)) (pV p) K = K (h.set b (.cells [vint p.1, vint p.2] e false)) :=
  storeA (vs := [vint p.1, vint p.2]) hb (by rw [shp_52]; rfl) rfl (by rw [hc]; rfl)
theorem pidx0 {b : Nat} {K : Value → Prop} : idxAddrK prog 52 (.pointer (some ⟨b, 0, none⟩)) (.int .i64 0) K = K (.pointer (some ⟨b, 0, none⟩)) := idxA (k := 0) und_52 esz_3 (by decide)
theorem pidx1 {b : Nat} {K : Value → Prop} : idxAddrK prog 52 (.pointer (some ⟨b, 0, none⟩)) (.int .i64 1) K = K (.pointer (some ⟨b, 1, none⟩)) := idxA (k := 1) und_52 esz_3 (by decide)
theorem pl0 {h : Heap} {b : Nat} {x y : Value} {e : TypeId} {ro : Bool} {K : Value → Prop} (hb : h[b]? = some (.cells [x, y] e ro)) : loadK prog h 3 (.pointer (some ⟨b, 0, none⟩)) K = K x := loadC (o := 0) hb shp_3 rfl
theorem pl1 {h : Heap} {b : Nat} {x y : Value} {e : TypeId} {ro : Bool} {K : Value → Prop} (hb : h[b]? = some (.cells [x, y] e ro)) : loadK prog h 3 (.pointer (some ⟨b, 1, none⟩)) K = K y := loadC (o := 1) hb shp_3 rfl
theorem eqP [Tabs prog] : EqT prog 52 2 := eqT_array und_52 und_3 esz_3 (by kernel_rfl)
theorem pair_eq (p q : Int × Int) : (([p.1, p.2] : List Int) == [q.1, q.2]) = decide (p = q) := by
  rw [Bool.eq_iff_iff, beq_iff_eq, decide_eq_true_eq]
  constructor
  · intro h; simp at h; exact Prod.ext h.1 h.2
  · rintro rfl; rfl
theorem pindex_call [Tabs prog] {h : Heap} {v : Value} {ps : List (Int × Int)} {p : Int × Int} (hv : PairSl h v ps) (hl : ps.length < 9223372036854775807) : ∃ z : Int, APure prog 98 [v, pV p] h (.int .i64 z) ∧ decide (0 ≤ z) = ps.contains p := by
  have hq : EqT prog 52 2 := eqP
  by_cases hc : ps.contains p = true
  · -- the first place
    have hm : p ∈ ps := by simpa using hc
    refine ⟨((ps.idxOf p : Nat) : Int), ?_, by rw [hc]; exact decide_eq_true (Int.natCast_nonneg _)⟩
    have hil := List.idxOf_lt_length_of_mem hm
    refine ACall.forget (Low.int _ _) ?_
    refine s98_call (by simp) ?_
    simp (maxSteps := 2000000) only [s98, ↓aw_region, ↓aw_skip, ↓aw_seq, ↓aw_block, ↓aw_exit, ↓aw_ret, ↓sops_nil, ↓sops_go, ↓dops_nil, ↓dopsX_nil, ↓dopsR_nil, ↓vdn, vup, extr_20, extr_21, extr_30, extr_31, extr_32, List.map_cons, List.map_nil, cond_true, cond_false, aop, aThen, aBlock, argEnv, ev, sput, sputO, binK, binI, unK, builtinK, pickK, Nat.reduceBEq, Nat.reduceAdd, Int.reduceBEq, Int.reduceBNe, Int.reduceLT, aPost, resK, tup, tyf, boxP, newPtr, hv.len, ↓aw_loop_eq]
    have c0 := get_new h (Blk.cells [vint p.1, vint p.2] 52 false)
    have hv1 := hv.grow [Blk.cells [vint p.1, vint p.2] 52 false]
    have hE : Ext (fun _ => False) h (h ++ [Blk.cells [vint p.1, vint p.2] 52 false]) := Ext.app _ _ _
    generalize h ++ [Blk.cells [vint p.1, vint p.2] 52 false] = h1 at c0 hv1 hE ⊢
    refine aws_hide fun Q hQ => ?_
    refine aw_loop (γ := Nat) (fun i => i ≤ ps.idxOf p)
      (fun i => ([(0, v), (3, .pointer (some ⟨h.length, 0, none⟩)), (7, vint ps.length), (8, vint i)], h1)) (fun i => ps.length - i) 0 (Nat.zero_le _) (by simp (maxSteps := 2000000) only [↓aw_region, ↓aw_skip, ↓aw_seq, ↓aw_block, ↓aw_exit, ↓aw_ret, ↓sops_nil, ↓sops_go, ↓dops_nil, ↓dopsX_nil, ↓dopsR_nil, ↓vdn, vup, extr_20, extr_21, extr_30, extr_31, extr_32, List.map_cons, List.map_nil, cond_true, cond_false, aop, aThen, aBlock, argEnv, ev, sput, sputO, binK, binI, unK, builtinK, pickK, Nat.reduceBEq, Nat.reduceAdd, Int.reduceBEq, Int.reduceBNe, Int.reduceLT, aPost, resK, tup, tyf, Int.natCast_zero]) rfl ?_
    intro i hi
    refine aw_hide fun Q2 hQ2 => ?_
    have hin : (i : Int) < ps.length := by omega
    have h1' : i < ps.length := by omega
    simp (maxSteps := 2000000) only [s98, ↓aw_region, ↓aw_skip, ↓aw_seq, ↓aw_block, ↓aw_exit, ↓aw_ret, ↓sops_nil, ↓sops_go, ↓dops_nil, ↓dopsX_nil, ↓dopsR_nil, ↓vdn, vup, extr_20, extr_21, extr_30, extr_31, extr_32, List.map_cons, List.map_nil, cond_true, cond_false, aop, aThen, aBlock, argEnv, ev, sput, sputO, binK, binI, unK, builtinK, pickK, Nat.reduceBEq, Nat.reduceAdd, Int.reduceBEq, Int.reduceBNe, Int.reduceLT, aPost, resK, tup, tyf, l98_0, hin]
    refine aw_drawX [] (by kernel_rfl) (by kernel_rfl) (by kernel_rfl) (by kernel_rfl) ?_
    have hld : ∀ {K : Value → Prop}, loadK prog h1 52 (elemP v 2 i) K = K (pV (ps.getD i (0, 0))) := fun {K} => hv1.load shp_52 h1' K
    by_cases hii : i = ps.idxOf p
    · have he : ps.getD i (0, 0) = p := by
        rw [hii, List.getD, List.getElem?_eq_getElem hil]; exact List.getElem_idxOf hil
      have hd : decide (p = ps.getD i (0, 0)) = true := by rw [he]; exact decide_eq_true rfl
      simp (maxSteps := 2000000) only [s98, ↓aw_region, ↓aw_skip, ↓aw_seq, ↓aw_block, ↓aw_exit, ↓aw_ret, ↓sops_nil, ↓sops_go, ↓dops_nil, ↓dopsX_nil, ↓dopsR_nil, ↓vdn, vup, extr_20, extr_21, extr_30, extr_31, extr_32, List.map_cons, List.map_nil, cond_true, cond_false, aop, aThen, aBlock, argEnv, ev, sput, sputO, binK, binI, unK, builtinK, pickK, Nat.reduceBEq, Nat.reduceAdd, Int.reduceBEq, Int.reduceBNe, Int.reduceLT, aPost, resK, tup, tyf, loadP c0, hv1.idx el_46 esz_52 h1', hld, pV, List.toList_toArray, intsOf, Option.map_some, List.length_cons, List.length_nil, Nat.zero_add, hq, pair_eq, hd]
      refine hQ2 _ _ _ (hQ _ _ _ ?_)
      simp (maxSteps := 2000000) only [s98, ↓aw_region, ↓aw_skip, ↓aw_seq, ↓aw_block, ↓aw_exit, ↓aw_ret, ↓sops_nil, ↓sops_go, ↓dops_nil, ↓dopsX_nil, ↓dopsR_nil, ↓vdn, vup, extr_20, extr_21, extr_30, extr_31, extr_32, List.map_cons, List.map_nil, cond_true, cond_false, aop, aThen, aBlock, argEnv, ev, sput, sputO, binK, binI, unK, builtinK, pickK, Nat.reduceBEq, Nat.reduceAdd, Int.reduceBEq, Int.reduceBNe, Int.reduceLT, aPost, resK, tup, tyf, hii]
      exact hE
    · have he : ¬ p = ps.getD i (0, 0) := fun he => by
        have h2 := List.not_of_lt_findIdx (xs := ps) (p := (· == p)) (i := i) (by have : ps.idxOf p = ps.findIdx (· == p) := rfl; omega)
        rw [List.getD, List.getElem?_eq_getElem h1'] at he
        simp only [Option.getD_some] at he
        rw [← he] at h2; simp at h2
      have hd : decide (p = ps.getD i (0, 0)) = false := decide_eq_false he
      simp (maxSteps := 2000000) only [s98, ↓aw_region, ↓aw_skip, ↓aw_seq, ↓aw_block, ↓aw_exit, ↓aw_ret, ↓sops_nil, ↓sops_go, ↓dops_nil, ↓dopsX_nil, ↓dopsR_nil, ↓vdn, vup, extr_20, extr_21, extr_30, extr_31, extr_32, List.map_cons, List.map_nil, cond_true, cond_false, aop, aThen, aBlock, argEnv, ev, sput, sputO, binK, binI, unK, builtinK, pickK, Nat.reduceBEq, Nat.reduceAdd, Int.reduceBEq, Int.reduceBNe, Int.reduceLT, aPost, resK, tup, tyf, loadP c0, hv1.idx el_46 esz_52 h1', hld, pV, List.toList_toArray, intsOf, Option.map_some, List.length_cons, List.length_nil, Nat.zero_add, hq, pair_eq, hd, add1 (show i < 9223372036854775807 by omega)]
      exact hQ2 _ _ _ ⟨i + 1, by omega, by omega, by simp (maxSteps := 2000000) only [↓aw_region, ↓aw_skip, ↓aw_seq, ↓aw_block, ↓aw_exit, ↓aw_ret, ↓sops_nil, ↓sops_go, ↓dops_nil, ↓dopsX_nil, ↓dopsR_nil, ↓vdn, vup, extr_20, extr_21, extr_30, extr_31, extr_32, List.map_cons, List.map_nil, cond_true, cond_false, aop, aThen, aBlock, argEnv, ev, sput, sputO, binK, binI, unK, builtinK, pickK, Nat.reduceBEq, Nat.reduceAdd, Int.reduceBEq, Int.reduceBNe, Int.reduceLT, aPost, resK, tup, tyf], rfl⟩
  · have hno : ∀ i, i < ps.length → ¬ p = ps.getD i (0, 0) := fun i hi he => hc (by
      rw [List.getD, List.getElem?_eq_getElem hi] at he
      have : p ∈ ps := by rw [he]; exact List.getElem_mem _
      simpa using this)
    refine ⟨-1, ?_, by rw [Bool.not_eq_true] at hc; rw [hc]; exact decide_eq_false (by decide)⟩
    refine ACall.forget (Low.int _ _) ?_
    refine s98_call (by simp) ?_
    simp (maxSteps := 2000000) only [s98, ↓aw_region, ↓aw_skip, ↓aw_seq, ↓aw_block, ↓aw_exit, ↓aw_ret, ↓sops_nil, ↓sops_go, ↓dops_nil, ↓dopsX_nil, ↓dopsR_nil, ↓vdn, vup, extr_20, extr_21, extr_30, extr_31, extr_32, List.map_cons, List.map_nil, cond_true, cond_false, aop, aThen, aBlock, argEnv, ev, sput, sputO, binK, binI, unK, builtinK, pickK, Nat.reduceBEq, Nat.reduceAdd, Int.reduceBEq, Int.reduceBNe, Int.reduceLT, aPost, resK, tup, tyf, boxP, newPtr, hv.len, ↓aw_loop_eq]
    have c0 := get_new h (Blk.cells [vint p.1, vint p.2] 52 false)
    have hv1 := hv.grow [Blk.cells [vint p.1, vint p.2] 52 false]
    have hE : Ext (fun _ => False) h (h ++ [Blk.cells [vint p.1, vint p.2] 52 false]) := Ext.app _ _ _
    generalize h ++ [Blk.cells [vint p.1, vint p.2] 52 false] = h1 at c0 hv1 hE ⊢
    refine aws_hide fun Q hQ => ?_
    refine aw_loop (γ := Nat) (fun i => i ≤ ps.length)
      (fun i => ([(0, v), (3, .pointer (some ⟨h.length, 0, none⟩)), (7, vint ps.length), (8, vint i)], h1)) (fun i => ps.length - i) 0 (Nat.zero_le _) (by simp (maxSteps := 2000000) only [↓aw_region, ↓aw_skip, ↓aw_seq, ↓aw_block, ↓aw_exit, ↓aw_ret, ↓sops_nil, ↓sops_go, ↓dops_nil, ↓dopsX_nil, ↓dopsR_nil, ↓vdn, vup, extr_20, extr_21, extr_30, extr_31, extr_32, List.map_cons, List.map_nil, cond_true, cond_false, aop, aThen, aBlock, argEnv, ev, sput, sputO, binK, binI, unK, builtinK, pickK, Nat.reduceBEq, Nat.reduceAdd, Int.reduceBEq, Int.reduceBNe, Int.reduceLT, aPost, resK, tup, tyf, Int.natCast_zero]) rfl ?_
    intro i hi
    refine aw_hide fun Q2 hQ2 => ?_
    by_cases hin : (i : Int) < ps.length
    · have h1' : i < ps.length := by omega
      simp (maxSteps := 2000000) only [s98, ↓aw_region, ↓aw_skip, ↓aw_seq, ↓aw_block, ↓aw_exit, ↓aw_ret, ↓sops_nil, ↓sops_go, ↓dops_nil, ↓dopsX_nil, ↓dopsR_nil, ↓vdn, vup, extr_20, extr_21, extr_30, extr_31, extr_32, List.map_cons, List.map_nil, cond_true, cond_false, aop, aThen, aBlock, argEnv, ev, sput, sputO, binK, binI, unK, builtinK, pickK, Nat.reduceBEq, Nat.reduceAdd, Int.reduceBEq, Int.reduceBNe, Int.reduceLT, aPost, resK, tup, tyf, l98_0, hin]
      refine aw_drawX [] (by kernel_rfl) (by kernel_rfl) (by kernel_rfl) (by kernel_rfl) ?_
      have hld : ∀ {K : Value → Prop}, loadK prog h1 52 (elemP v 2 i) K = K (pV (ps.getD i (0, 0))) := fun {K} => hv1.load shp_52 h1' K
      have hd : decide (p = ps.getD i (0, 0)) = false := decide_eq_false (hno i h1')
      simp (maxSteps := 2000000) only [s98, ↓aw_region, ↓aw_skip, ↓aw_seq, ↓aw_block, ↓aw_exit, ↓aw_ret, ↓sops_nil, ↓sops_go, ↓dops_nil, ↓dopsX_nil, ↓dopsR_nil, ↓vdn, vup, extr_20, extr_21, extr_30, extr_31, extr_32, List.map_cons, List.map_nil, cond_true, cond_false, aop, aThen, aBlock, argEnv, ev, sput, sputO, binK, binI, unK, builtinK, pickK, Nat.reduceBEq, Nat.reduceAdd, Int.reduceBEq, Int.reduceBNe, Int.reduceLT, aPost, resK, tup, tyf, loadP c0, hv1.idx el_46 esz_52 h1', hld, pV, List.toList_toArray, intsOf, Option.map_some, List.length_cons, List.length_nil, Nat.zero_add, hq, pair_eq, hd, add1 (show i < 9223372036854775807 by omega)]
      exact hQ2 _ _ _ ⟨i + 1, by omega, by omega, by simp (maxSteps := 2000000) only [↓aw_region, ↓aw_skip, ↓aw_seq, ↓aw_block, ↓aw_exit, ↓aw_ret, ↓sops_nil, ↓sops_go, ↓dops_nil, ↓dopsX_nil, ↓dopsR_nil, ↓vdn, vup, extr_20, extr_21, extr_30, extr_31, extr_32, List.map_cons, List.map_nil, cond_true, cond_false, aop, aThen, aBlock, argEnv, ev, sput, sputO, binK, binI, unK, builtinK, pickK, Nat.reduceBEq, Nat.reduceAdd, Int.reduceBEq, Int.reduceBNe, Int.reduceLT, aPost, resK, tup, tyf], rfl⟩
    · obtain rfl : i = ps.length := by omega
      simp (maxSteps := 2000000) only [s98, ↓aw_region, ↓aw_skip, ↓aw_seq, ↓aw_block, ↓aw_exit, ↓aw_ret, ↓sops_nil, ↓sops_go, ↓dops_nil, ↓dopsX_nil, ↓dopsR_nil, ↓vdn, vup, extr_20, extr_21, extr_30, extr_31, extr_32, List.map_cons, List.map_nil, cond_true, cond_false, aop, aThen, aBlock, argEnv, ev, sput, sputO, binK, binI, unK, builtinK, pickK, Nat.reduceBEq, Nat.reduceAdd, Int.reduceBEq, Int.reduceBNe, Int.reduceLT, aPost, resK, tup, tyf, l98_0, Int.lt_irrefl]
      refine hQ2 _ _ _ (hQ _ _ _ ?_)
      simp (maxSteps := 2000000) only [s98, ↓aw_region, ↓aw_skip, ↓aw_seq, ↓aw_block, ↓aw_exit, ↓aw_ret, ↓sops_nil, ↓sops_go, ↓dops_nil, ↓dopsX_nil, ↓dopsR_nil, ↓vdn, vup, extr_20, extr_21, extr_30, extr_31, extr_32, List.map_cons, List.map_nil, cond_true, cond_false, aop, aThen, aBlock, argEnv, ev, sput, sputO, binK, binI, unK, builtinK, pickK, Nat.reduceBEq, Nat.reduceAdd, Int.reduceBEq, Int.reduceBNe, Int.reduceLT, aPost, resK, tup, tyf, if_true]
      exact hE
theorem pcontains_call [Tabs prog] {h : Heap} {v : Value} {ps : List (Int × Int)} {p : Int × Int} (hv : PairSl h v ps) (hl : ps.length < 9223372036854775807) : APure prog 77 [v, pV p] h (.bool (ps.contains p)) := by
  refine ACall.forget (Low.bool _) ?_
  refine s77_call (by simp) ?_
  simp (maxSteps := 2000000) only [s77, ↓aw_region, ↓aw_skip, ↓aw_seq, ↓aw_block, ↓aw_exit, ↓aw_ret, ↓sops_nil, ↓sops_go, ↓dops_nil, ↓dopsX_nil, ↓dopsR_nil, ↓vdn, vup, extr_20, extr_21, extr_30, extr_31, extr_32, List.map_cons, List.map_nil, cond_true, cond_false, aop, aThen, aBlock, argEnv, ev, sput, sputO, binK, binI, unK, builtinK, pickK, Nat.reduceBEq, Nat.reduceAdd, Int.reduceBEq, Int.reduceBNe, Int.reduceLT, aPost, resK, tup, tyf, boxP, newPtr]
  have c0 := get_new h (Blk.cells [vint p.1, vint p.2] 52 false)
  obtain ⟨z, hz, hz2⟩ := pindex_call (p := p) (hv.grow [Blk.cells [vint p.1, vint p.2] 52 false]) hl
  simp (maxSteps := 2000000) only [s77, ↓aw_region, ↓aw_skip, ↓aw_seq, ↓aw_block, ↓aw_exit, ↓aw_ret, ↓sops_nil, ↓sops_go, ↓dops_nil, ↓dopsX_nil, ↓dopsR_nil, ↓vdn, vup, extr_20, extr_21, extr_30, extr_31, extr_32, List.map_cons, List.map_nil, cond_true, cond_false, aop, aThen, aBlock, argEnv, ev, sput, sputO, binK, binI, unK, builtinK, pickK, Nat.reduceBEq, Nat.reduceAdd, Int.reduceBEq, Int.reduceBNe, Int.reduceLT, aPost, resK, tup, tyf, loadP c0, callK, List.nil_append, List.append_nil, List.toList_toArray, List.cons_append]
  refine hz.mono ?_
  rintro _ h1 ⟨rfl, rfl⟩
  simp (maxSteps := 2000000) only [s77, ↓aw_region, ↓aw_skip, ↓aw_seq, ↓aw_block, ↓aw_exit, ↓aw_ret, ↓sops_nil, ↓sops_go, ↓dops_nil, ↓dopsX_nil, ↓dopsR_nil, ↓vdn, vup, extr_20, extr_21, extr_30, extr_31, extr_32, List.map_cons, List.map_nil, cond_true, cond_false, aop, aThen, aBlock, argEnv, ev, sput, sputO, binK, binI, unK, builtinK, pickK, Nat.reduceBEq, Nat.reduceAdd, Int.reduceBEq, Int.reduceBNe, Int.reduceLT, aPost, resK, tup, tyf, ge_iff_le, hz2]
  exact Ext.app _ _ _
end Go.Proofs.Tryd.Am

namespace Go.Proofs.Tryd.Am
open Go.Am
set_option maxRecDepth 100000
set_option maxHeartbeats 1000000

/-- A result turned in a player's set. -/
def xI (a : Int) (m : Nat) : Int := ((a.toNat ^^^ 2 ^ m : Nat) : Int)
def half (t : List Int) (i j : Nat) : List Int := t.set i (xI (t.getD i 0) j)
def stepT (t : List Int) (p : Int × Int) : List Int := half (half t p.1.toNat p.2.toNat) p.2.toNat p.1.toNat
def turnTo (xs : List Int) (ps : List (Int × Int)) : Nat → List Int
  | 0 => xs
  | k + 1 => stepT (turnTo xs ps k) (ps.getD k (0, 0))
def okPr (n : Nat) (p : Int × Int) : Bool := decide (0 ≤ p.1) && decide (p.1 < p.2) && decide (p.2 < n)
def okK (n : Nat) (ps : List (Int × Int)) (k : Nat) : Bool := okPr n (ps.getD k (0, 0)) && !(ps.take k).contains (ps.getD k (0, 0))
def okPs (n : Nat) (ps : List (Int × Int)) : Bool := (List.range ps.length).all (okK n ps) && decide (ps.length ≤ 28)
def Sm (n : Nat) (t : List Int) : Prop := t.length = n ∧ ∀ i, i < n → 0 ≤ t.getD i 0 ∧ t.getD i 0 < 256
theorem half_sm {n : Nat} {t : List Int} (h : Sm n t) {i j : Nat} (hi : i < n) (hj : j < n) (hn : n ≤ 8) : Sm n (half t i j) := by
  refine ⟨by rw [half, List.length_set]; exact h.1, fun k hk => ?_⟩
  by_cases hki : k = i
  · subst hki
    have e : (half t k j).getD k 0 = xI (t.getD k 0) j := by
      rw [half, List.getD, List.getElem?_set_self (by rw [h.1]; exact hk)]; rfl
    have h1 := h.2 k hk
    have h2 : (t.getD k 0).toNat ^^^ 2 ^ j < 2 ^ 8 := Nat.xor_lt_two_pow (by omega) (Nat.pow_lt_pow_right (by decide) (by omega))
    rw [e, xI]; omega
  · have e : (half t i j).getD k 0 = t.getD k 0 := by rw [half, List.getD, List.getElem?_set_ne (Ne.symm hki)]; rfl
    rw [e]; exact h.2 k hk
theorem okPr_nat {n : Nat} {p : Int × Int} (h : okPr n p = true) : ∃ i j : Nat, p = ((i : Int), (j : Int)) ∧ i < j ∧ j < n := by
  simp only [okPr, Bool.and_eq_true, decide_eq_true_eq] at h
  exact ⟨p.1.toNat, p.2.toNat, Prod.ext (by simp; omega) (by simp; omega), by omega, by omega⟩
theorem turn_sm {xs : List Int} {ps : List (Int × Int)} (h0 : Sm xs.length xs) (hn : xs.length ≤ 8) : ∀ k, (∀ i, i < k → okPr xs.length (ps.getD i (0, 0)) = true) → Sm xs.length (turnTo xs ps k)
  | 0, _ => h0
  | k + 1, h => by
    have ih := turn_sm h0 hn k fun i hi => h i (by omega)
    obtain ⟨i, j, hp, hij, hj⟩ := okPr_nat (h k (by omega))
    rw [turnTo, stepT, hp]
    exact half_sm (half_sm ih (by simp; omega) (by simpa using hj) hn) (by simpa using hj) (by simp; omega) hn
theorem trn_sm {xs : List Int} (h : trn xs = true) : Sm xs.length xs := ⟨rfl, fun i hi => by
  have hl := trn_len h
  have := trn_nat h hi
  have : 2 ^ xs.length ≤ 2 ^ 8 := Nat.pow_le_pow_right (by decide) hl.2
  omega⟩
theorem xor_half {n : Nat} {t : List Int} (h : Sm n t) {i j : Nat} (hi : i < n) (hj : j < n) (hn : n ≤ 8) : bitsV .xor .i64 (t.getD i 0) (shlV .i64 1 ((j : Nat) : Int)) = xI (t.getD i 0) j := by
  have h1 := h.2 i hi
  obtain ⟨a, ha⟩ : ∃ a : Nat, t.getD i 0 = (a : Int) := ⟨(t.getD i 0).toNat, by omega⟩
  have h2 : 2 ^ j < 2 ^ 8 := Nat.pow_lt_pow_right (by decide) (by omega)
  rw [ha] at h1 ⊢
  rw [shl1 (by omega)]
  have := bitsV_xor (a := a) (b := 2 ^ j) (by omega) (by omega)
  rw [xI, Int.toNat_natCast, ← this]; simp
section
variable {h : Heap} {t e : TypeId} {b o n c k : Nat} {xs : List Int} {ro : Bool}
theorem idxW {K : Value → Prop} (hk : k < n) : idxAddrK prog 22 (.slice (some ⟨b, 0, some 0⟩) n c) (vint (k : Nat)) K = K (.pointer (some ⟨b, k, none⟩)) := by
  simp only [idxAddrK, el_22, esz_3, Int.natCast_nonneg, Int.toNat_natCast, Nat.mul_one, Nat.zero_add, true_and, Int.ofNat_lt.2 hk]
theorem loadX {K : Value → Prop} (hb : h[b]? = some (.ints xs e ro)) (ho : o < xs.length) : loadK prog h 3 (.pointer (some ⟨b, o, none⟩)) K = K (vint (xs.getD o 0)) := by
  simp only [loadK, shp_3, cellK, hb, ho, true_and]
theorem storeX {K : Heap → Prop} {x : Int} (hb : h[b]? = some (.ints xs e false)) (ho : o < xs.length) : storeK prog h 3 (.pointer (some ⟨b, o, none⟩)) (vint x) K = K (h.set b (.ints (xs.set o x) e false)) := by
  simp only [storeK, shp_3, hb, ho, true_and]
end
/-- A copy of a list, in a block of its own. -/
def Fresh (h : Heap) (xs : List Int) (r : Value) (h' : Heap) : Prop := ∃ b, r = .slice (some ⟨b, 0, some 0⟩) xs.length xs.length ∧ h'[b]? = some (.ints xs 3 false) ∧ h.length ≤ b ∧ Ext (fun _ => False) h h'
theorem lit0I {h : Heap} (K : Value → Heap → Prop) : buildSliceK prog h 22 0 [] K = K (.slice (some ⟨h.length, 0, none⟩) 0 0) (h ++ [.ints [] 3 false]) := by
  simp only [buildSliceK, el_22, zero_3, esz_3, reps, fillL, mkb, intsOf, List.length_cons, List.length_nil, Nat.mul_one, Nat.zero_mul]
  exact propext ⟨fun h => h.2.2.2, fun h => ⟨trivial, by decide, by decide, h⟩⟩
theorem appFresh {h : Heap} {v : Value} {xs : List Int} (hv : IntSl h v xs) (hx : xs ≠ []) (hl : xs.length < 1099511627776) {K : Value → Heap → Prop} (hk : ∀ r h', Fresh h xs r h' → K r h') :
    appendK prog (h ++ [.ints [] 3 false]) 22 22 (.slice (some ⟨h.length, 0, none⟩) 0 0) v K := by
  refine (hv.grow [.ints [] 3 false]).copyOwn hx app_22_22 hl (by rw [List.getElem?_append_right (Nat.le_refl _)]; simp) ?_
  refine hk _ _ ⟨h.length + 1, ?_, ?_, by omega, by rw [List.append_assoc]; exact Ext.app _ _ _⟩
  · simp
  · rw [List.getElem?_append_right (by simp)]; simp
theorem clone_fresh [Tabs prog] {h : Heap} {v : Value} {xs : List Int} (hv : IntSl h v xs) (hx : xs ≠ []) (hl : xs.length < 1099511627776) : ACall prog 46 [v] h fun r h' => Fresh h xs r h' := by
  refine s46_call (by simp) ?_
  have hv' := hv
  rcases hv with ⟨rfl, rfl⟩ | ⟨b, o, sp, cap, c, e, ro, rfl, hc, hb, _⟩
  · exact absurd rfl hx
  · simp (maxSteps := 2000000) only [s46, ↓aw_region, ↓aw_skip, ↓aw_seq, ↓aw_block, ↓aw_exit, ↓aw_ret, ↓sops_nil, ↓sops_go, ↓dops_nil, ↓dopsX_nil, ↓dopsR_nil, ↓vdn, vup, extr_20, extr_21, extr_30, extr_31, extr_32, List.map_cons, List.map_nil, cond_true, cond_false, aop, aThen, aBlock, argEnv, ev, sput, sputO, binK, binI, unK, builtinK, pickK, Nat.reduceBEq, Nat.reduceAdd, Int.reduceBEq, Int.reduceBNe, Int.reduceLT, aPost, resK, tup, tyf, Option.isSome_some, List.toList_toArray, lit0I]
    refine appFresh hv' hx hl fun r h' hf => ?_
    exact hf

theorem turn_call [BitTab prog 1] {h : Heap} {v pv : Value} {xs : List Int} {ps : List (Int × Int)} (hv : IntSl h v xs) (hp : PairSl h pv ps) (hl : xs.length < 9223372036854775808) (hx : ∀ x ∈ xs, -9223372036854775808 ≤ x ∧ x < 9223372036854775808) (hpl : ps.length < 9223372036854775807) :
    ACall prog 41 [v, pv] h fun r h' => Ext (fun _ => False) h h' ∧ if trn xs = true ∧ okPs xs.length ps = true then ∃ w, r = .tuple #[w, .int .i64 0] ∧ IntSl h' w (turnTo xs ps ps.length) else r = .tuple #[.slice none 0 0, .int .i64 2] := by
  refine s41_call (by simp) ?_
  simp only [s41]
  refine aw_cut fun N hN => ?_
  simp (maxSteps := 2000000) only [s41, ↓aw_region, ↓aw_skip, ↓aw_seq, ↓aw_block, ↓aw_exit, ↓aw_ret, ↓sops_nil, ↓sops_go, ↓dops_nil, ↓dopsX_nil, ↓dopsR_nil, ↓vdn, vup, extr_20, extr_21, extr_30, extr_31, extr_32, List.map_cons, List.map_nil, cond_true, cond_false, aop, aThen, aBlock, argEnv, ev, sput, sputO, binK, binI, unK, builtinK, pickK, Nat.reduceBEq, Nat.reduceAdd, Int.reduceBEq, Int.reduceBNe, Int.reduceLT, aPost, resK, tup, tyf]
  refine hN _ _ ?_
  clear hN N
  refine aw_cut fun N hN => ?_
  simp (maxSteps := 2000000) only [s41, ↓aw_region, ↓aw_skip, ↓aw_seq, ↓aw_block, ↓aw_exit, ↓aw_ret, ↓sops_nil, ↓sops_go, ↓dops_nil, ↓dopsX_nil, ↓dopsR_nil, ↓vdn, vup, extr_20, extr_21, extr_30, extr_31, extr_32, List.map_cons, List.map_nil, cond_true, cond_false, aop, aThen, aBlock, argEnv, ev, sput, sputO, binK, binI, unK, builtinK, pickK, Nat.reduceBEq, Nat.reduceAdd, Int.reduceBEq, Int.reduceBNe, Int.reduceLT, aPost, resK, tup, tyf, callK, List.nil_append, List.append_nil, List.toList_toArray, List.cons_append]
  refine (valid_call hv hl hx).mono ?_
  rintro _ h ⟨rfl, rfl⟩
  cases ht : trn xs with
  | false =>
    simp (maxSteps := 2000000) only [s41, ↓aw_region, ↓aw_skip, ↓aw_seq, ↓aw_block, ↓aw_exit, ↓aw_ret, ↓sops_nil, ↓sops_go, ↓dops_nil, ↓dopsX_nil, ↓dopsR_nil, ↓vdn, vup, extr_20, extr_21, extr_30, extr_31, extr_32, List.map_cons, List.map_nil, cond_true, cond_false, aop, aThen, aBlock, argEnv, ev, sput, sputO, binK, binI, unK, builtinK, pickK, Nat.reduceBEq, Nat.reduceAdd, Int.reduceBEq, Int.reduceBNe, Int.reduceLT, aPost, resK, tup, tyf, ht, Bool.false_eq_true, false_and, if_false]
    exact Ext.refl _ _
  | true =>
    by_cases h28 : ps.length ≤ 28
    rotate_left
    · have hgt : (28 : Int) < ((ps.length : Nat) : Int) := by omega
      have hno : okPs xs.length ps = false := by rw [okPs, decide_eq_false h28, Bool.and_false]
      simp (maxSteps := 2000000) only [s41, ↓aw_region, ↓aw_skip, ↓aw_seq, ↓aw_block, ↓aw_exit, ↓aw_ret, ↓sops_nil, ↓sops_go, ↓dops_nil, ↓dopsX_nil, ↓dopsR_nil, ↓vdn, vup, extr_20, extr_21, extr_30, extr_31, extr_32, List.map_cons, List.map_nil, cond_true, cond_false, aop, aThen, aBlock, argEnv, ev, sput, sputO, binK, binI, unK, builtinK, pickK, Nat.reduceBEq, Nat.reduceAdd, Int.reduceBEq, Int.reduceBNe, Int.reduceLT, aPost, resK, tup, tyf, ht, hp.len, gt_iff_lt, hgt, hno, Bool.false_eq_true, and_false, if_false]
      exact Ext.refl _ _
    have hgt : ¬ (28 : Int) < ((ps.length : Nat) : Int) := by omega
    have hlen := trn_len ht
    have hne : xs ≠ [] := by rintro rfl; simp at hlen
    have hsm0 := trn_sm ht
    simp (maxSteps := 2000000) only [s41, ↓aw_region, ↓aw_skip, ↓aw_seq, ↓aw_block, ↓aw_exit, ↓aw_ret, ↓sops_nil, ↓sops_go, ↓dops_nil, ↓dopsX_nil, ↓dopsR_nil, ↓vdn, vup, extr_20, extr_21, extr_30, extr_31, extr_32, List.map_cons, List.map_nil, cond_true, cond_false, aop, aThen, aBlock, argEnv, ev, sput, sputO, binK, binI, unK, builtinK, pickK, Nat.reduceBEq, Nat.reduceAdd, Int.reduceBEq, Int.reduceBNe, Int.reduceLT, aPost, resK, tup, tyf, ht, hp.len, gt_iff_lt, hgt]
    refine hN _ _ ?_
    clear hN N
    refine aw_cut fun N hN => ?_
    simp (maxSteps := 2000000) only [s41, ↓aw_region, ↓aw_skip, ↓aw_seq, ↓aw_block, ↓aw_exit, ↓aw_ret, ↓sops_nil, ↓sops_go, ↓dops_nil, ↓dopsX_nil, ↓dopsR_nil, ↓vdn, vup, extr_20, extr_21, extr_30, extr_31, extr_32, List.map_cons, List.map_nil, cond_true, cond_false, aop, aThen, aBlock, argEnv, ev, sput, sputO, binK, binI, unK, builtinK, pickK, Nat.reduceBEq, Nat.reduceAdd, Int.reduceBEq, Int.reduceBNe, Int.reduceLT, aPost, resK, tup, tyf, callK, List.nil_append, List.append_nil, List.toList_toArray, List.cons_append]
    refine (clone_fresh hv hne (by omega)).mono ?_
    rintro _ h1 ⟨b, rfl, hb1, hbl, hE1⟩
    refine hN _ _ ?_
    clear hN N
    simp (maxSteps := 2000000) only [s41, ↓aw_region, ↓aw_skip, ↓aw_seq, ↓aw_block, ↓aw_exit, ↓aw_ret, ↓sops_nil, ↓sops_go, ↓dops_nil, ↓dopsX_nil, ↓dopsR_nil, ↓vdn, vup, extr_20, extr_21, extr_30, extr_31, extr_32, List.map_cons, List.map_nil, cond_true, cond_false, aop, aThen, aBlock, argEnv, ev, sput, sputO, binK, binI, unK, builtinK, pickK, Nat.reduceBEq, Nat.reduceAdd, Int.reduceBEq, Int.reduceBNe, Int.reduceLT, aPost, resK, tup, tyf, hp.len, ↓aw_loop_eq]
    refine aws_hide fun Q hQ => ?_
    refine aw_loop (γ := Nat × Heap) (fun s => s.1 ≤ ps.length ∧ s.2[b]? = some (.ints (turnTo xs ps s.1) 3 false) ∧ Ext (fun _ => False) h s.2 ∧ ∀ i, i < s.1 → okK xs.length ps i = true)
      (fun s => ([(0, v), (1, pv), (6, .slice (some ⟨b, 0, some 0⟩) xs.length xs.length), (21, pv), (22, vint ps.length), (23, vint s.1)], s.2)) (fun s => ps.length - s.1) (0, h1) ⟨Nat.zero_le _, hb1, hE1, fun _ h => by omega⟩ (by simp (maxSteps := 2000000) only [↓aw_region, ↓aw_skip, ↓aw_seq, ↓aw_block, ↓aw_exit, ↓aw_ret, ↓sops_nil, ↓sops_go, ↓dops_nil, ↓dopsX_nil, ↓dopsR_nil, ↓vdn, vup, extr_20, extr_21, extr_30, extr_31, extr_32, List.map_cons, List.map_nil, cond_true, cond_false, aop, aThen, aBlock, argEnv, ev, sput, sputO, binK, binI, unK, builtinK, pickK, Nat.reduceBEq, Nat.reduceAdd, Int.reduceBEq, Int.reduceBNe, Int.reduceLT, aPost, resK, tup, tyf, Int.natCast_zero]) rfl ?_
    rintro ⟨k, hq⟩ ⟨hk, hbq, hE, hok⟩
    simp only at hk hbq hE hok
    refine aw_hide fun Q2 hQ2 => ?_
    by_cases hin : (k : Int) < ps.length
    · have hk' : k < ps.length := by omega
      have hvq := IntSl_ext hv hE
      have hpq := hp.ext hE
      obtain ⟨p, hpe⟩ : ∃ p, p = ps.getD k (0, 0) := ⟨_, rfl⟩
      have hld : ∀ {K : Value → Prop}, loadK prog hq 52 (elemP pv 2 k) K = K (pV p) := fun {K} => by rw [hpe]; exact hpq.load shp_52 hk' K
      have c0 := get_new hq (Blk.cells [.int .i64 0, .int .i64 0] 52 false)
      have hst : ∀ {K : Heap → Prop}, storeK prog (hq ++ [Blk.cells [.int .i64 0, .int .i64 0] 52 false]) 52 (.pointer (some ⟨hq.length, 0, none⟩)) (pV p) K = K ((hq ++ [Blk.cells [.int .i64 0, .int .i64 0] 52 false]).set hq.length (.cells [vint p.1, vint p.2] 52 false)) := fun {K} => storeP c0 rfl
      have c1 : ((hq ++ [Blk.cells [.int .i64 0, .int .i64 0] 52 false]).set hq.length (.cells [vint p.1, vint p.2] 52 false))[hq.length]? = some (.cells [vint p.1, vint p.2] 52 false) := get_set (by simp) _
      have hE2 : Ext (fun _ => False) hq ((hq ++ [Blk.cells [.int .i64 0, .int .i64 0] 52 false]).set hq.length (.cells [vint p.1, vint p.2] 52 false)) := ⟨by simp, fun j hj _ => by rw [List.getElem?_set_ne (by omega), List.getElem?_append_left hj]⟩
      simp only [l41_0]
      simp (maxSteps := 2000000) only [s41, ↓aw_region, ↓aw_skip, ↓aw_seq, ↓aw_block, ↓aw_exit, ↓aw_ret, ↓sops_nil, ↓sops_go, ↓dops_nil, ↓dopsX_nil, ↓dopsR_nil, ↓vdn, vup, extr_20, extr_21, extr_30, extr_31, extr_32, List.map_cons, List.map_nil, cond_true, cond_false, aop, aThen, aBlock, argEnv, ev, sput, sputO, binK, binI, unK, builtinK, pickK, Nat.reduceBEq, Nat.reduceAdd, Int.reduceBEq, Int.reduceBNe, Int.reduceLT, aPost, resK, tup, tyf, hin, hpq.idx el_46 esz_52 hk', hld, allocK, newPtr, zero_52, hst]
      have hb2 := (hE2.2 _ (get_lt hbq) id).trans hbq
      have hbn : b ≠ hq.length := by have := get_lt hbq; omega
      generalize (hq ++ [Blk.cells [.int .i64 0, .int .i64 0] 52 false]).set hq.length (.cells [vint p.1, vint p.2] 52 false) = h2 at c1 hE2 hb2 ⊢
      generalize hq.length = bp at c1 hbn ⊢
      have hEh := hE.trans hE2
      have hv2 := IntSl_ext hv hEh
      have hp2 := hp.ext hEh
      refine aw_drawX [] (by kernel_rfl) (by kernel_rfl) (by kernel_rfl) (by kernel_rfl) ?_
      simp (maxSteps := 2000000) only [s41, ↓aw_region, ↓aw_skip, ↓aw_seq, ↓aw_block, ↓aw_exit, ↓aw_ret, ↓sops_nil, ↓sops_go, ↓dops_nil, ↓dopsX_nil, ↓dopsR_nil, ↓vdn, vup, extr_20, extr_21, extr_30, extr_31, extr_32, List.map_cons, List.map_nil, cond_true, cond_false, aop, aThen, aBlock, argEnv, ev, sput, sputO, binK, binI, unK, builtinK, pickK, Nat.reduceBEq, Nat.reduceAdd, Int.reduceBEq, Int.reduceBNe, Int.reduceLT, aPost, resK, tup, tyf, pidx0, pidx1, pl0 c1, pl1 c1]
      -- what makes an end
      have stop : okK xs.length ps k = false → ¬ (trn xs = true ∧ okPs xs.length ps = true) := fun h1 h2 => by
        have h3 := h2.2
        rw [okPs, Bool.and_eq_true, List.all_eq_true] at h3
        have := h3.1 k (List.mem_range.2 hk')
        rw [h1] at this; cases this
      have hno : ∀ {K : Prop}, okK xs.length ps k = false → K → K := fun _ h => h
      by_cases ha : p.1 < 0
      · have hf : okK xs.length ps k = false := by
          rw [okK, ← hpe, okPr, decide_eq_false (show ¬ 0 ≤ p.1 by omega)]; rfl
        refine aw_drawX [(18, 1)] (by kernel_rfl) (by kernel_rfl) (by kernel_rfl) (by kernel_rfl) ?_
        simp (maxSteps := 2000000) only [s41, ↓aw_region, ↓aw_skip, ↓aw_seq, ↓aw_block, ↓aw_exit, ↓aw_ret, ↓sops_nil, ↓sops_go, ↓dops_nil, ↓dopsX_nil, ↓dopsR_nil, ↓vdn, vup, extr_20, extr_21, extr_30, extr_31, extr_32, List.map_cons, List.map_nil, cond_true, cond_false, aop, aThen, aBlock, argEnv, ev, sput, sputO, binK, binI, unK, builtinK, pickK, Nat.reduceBEq, Nat.reduceAdd, Int.reduceBEq, Int.reduceBNe, Int.reduceLT, aPost, resK, tup, tyf, ha]
        refine hQ2 _ _ _ (hQ _ _ _ ?_)
        simp (maxSteps := 2000000) only [s41, ↓aw_region, ↓aw_skip, ↓aw_seq, ↓aw_block, ↓aw_exit, ↓aw_ret, ↓sops_nil, ↓sops_go, ↓dops_nil, ↓dopsX_nil, ↓dopsR_nil, ↓vdn, vup, extr_20, extr_21, extr_30, extr_31, extr_32, List.map_cons, List.map_nil, cond_true, cond_false, aop, aThen, aBlock, argEnv, ev, sput, sputO, binK, binI, unK, builtinK, pickK, Nat.reduceBEq, Nat.reduceAdd, Int.reduceBEq, Int.reduceBNe, Int.reduceLT, aPost, resK, tup, tyf]
        rw [if_neg (stop hf)]
        exact ⟨hEh, trivial⟩
      by_cases hab : p.2 ≤ p.1
      · have hf : okK xs.length ps k = false := by
          rw [okK, ← hpe, okPr, decide_eq_false (show ¬ p.1 < p.2 by omega), Bool.and_false]; rfl
        refine aw_drawX [(18, 1)] (by kernel_rfl) (by kernel_rfl) (by kernel_rfl) (by kernel_rfl) ?_
        simp (maxSteps := 2000000) only [s41, ↓aw_region, ↓aw_skip, ↓aw_seq, ↓aw_block, ↓aw_exit, ↓aw_ret, ↓sops_nil, ↓sops_go, ↓dops_nil, ↓dopsX_nil, ↓dopsR_nil, ↓vdn, vup, extr_20, extr_21, extr_30, extr_31, extr_32, List.map_cons, List.map_nil, cond_true, cond_false, aop, aThen, aBlock, argEnv, ev, sput, sputO, binK, binI, unK, builtinK, pickK, Nat.reduceBEq, Nat.reduceAdd, Int.reduceBEq, Int.reduceBNe, Int.reduceLT, aPost, resK, tup, tyf, ha, ge_iff_le, hab]
        refine hQ2 _ _ _ (hQ _ _ _ ?_)
        simp (maxSteps := 2000000) only [s41, ↓aw_region, ↓aw_skip, ↓aw_seq, ↓aw_block, ↓aw_exit, ↓aw_ret, ↓sops_nil, ↓sops_go, ↓dops_nil, ↓dopsX_nil, ↓dopsR_nil, ↓vdn, vup, extr_20, extr_21, extr_30, extr_31, extr_32, List.map_cons, List.map_nil, cond_true, cond_false, aop, aThen, aBlock, argEnv, ev, sput, sputO, binK, binI, unK, builtinK, pickK, Nat.reduceBEq, Nat.reduceAdd, Int.reduceBEq, Int.reduceBNe, Int.reduceLT, aPost, resK, tup, tyf]
        rw [if_neg (stop hf)]
        exact ⟨hEh, trivial⟩
      by_cases hbb : ((xs.length : Nat) : Int) ≤ p.2
      · have hf : okK xs.length ps k = false := by
          rw [okK, ← hpe, okPr, decide_eq_false (show ¬ p.2 < xs.length by omega), Bool.and_false]; rfl
        refine aw_drawX [(18, 1)] (by kernel_rfl) (by kernel_rfl) (by kernel_rfl) (by kernel_rfl) ?_
        simp (maxSteps := 2000000) only [s41, ↓aw_region, ↓aw_skip, ↓aw_seq, ↓aw_block, ↓aw_exit, ↓aw_ret, ↓sops_nil, ↓sops_go, ↓dops_nil, ↓dopsX_nil, ↓dopsR_nil, ↓vdn, vup, extr_20, extr_21, extr_30, extr_31, extr_32, List.map_cons, List.map_nil, cond_true, cond_false, aop, aThen, aBlock, argEnv, ev, sput, sputO, binK, binI, unK, builtinK, pickK, Nat.reduceBEq, Nat.reduceAdd, Int.reduceBEq, Int.reduceBNe, Int.reduceLT, aPost, resK, tup, tyf, ha, ge_iff_le, hab, hv2.len, hbb]
        refine hQ2 _ _ _ (hQ _ _ _ ?_)
        simp (maxSteps := 2000000) only [s41, ↓aw_region, ↓aw_skip, ↓aw_seq, ↓aw_block, ↓aw_exit, ↓aw_ret, ↓sops_nil, ↓sops_go, ↓dops_nil, ↓dopsX_nil, ↓dopsR_nil, ↓vdn, vup, extr_20, extr_21, extr_30, extr_31, extr_32, List.map_cons, List.map_nil, cond_true, cond_false, aop, aThen, aBlock, argEnv, ev, sput, sputO, binK, binI, unK, builtinK, pickK, Nat.reduceBEq, Nat.reduceAdd, Int.reduceBEq, Int.reduceBNe, Int.reduceLT, aPost, resK, tup, tyf]
        rw [if_neg (stop hf)]
        exact ⟨hEh, trivial⟩
      have hpr : okPr xs.length p = true := by
        rw [okPr, decide_eq_true (show 0 ≤ p.1 by omega), decide_eq_true (show p.1 < p.2 by omega), decide_eq_true (show p.2 < xs.length by omega)]; rfl
      refine aw_drawX [(18, 1)] (by kernel_rfl) (by kernel_rfl) (by kernel_rfl) (by kernel_rfl) ?_
      simp (maxSteps := 2000000) only [s41, ↓aw_region, ↓aw_skip, ↓aw_seq, ↓aw_block, ↓aw_exit, ↓aw_ret, ↓sops_nil, ↓sops_go, ↓dops_nil, ↓dopsX_nil, ↓dopsR_nil, ↓vdn, vup, extr_20, extr_21, extr_30, extr_31, extr_32, List.map_cons, List.map_nil, cond_true, cond_false, aop, aThen, aBlock, argEnv, ev, sput, sputO, binK, binI, unK, builtinK, pickK, Nat.reduceBEq, Nat.reduceAdd, Int.reduceBEq, Int.reduceBNe, Int.reduceLT, aPost, resK, tup, tyf, ha, ge_iff_le, hab, hv2.len, hbb, Option.map_none, Option.map_some]
      refine hp2.pre el_46 esz_52 (m := k) (by omega) ?_
      intro tv htv
      have htl : (ps.take k).length ≤ 28 := by simp; omega
      simp (maxSteps := 2000000) only [s41, ↓aw_region, ↓aw_skip, ↓aw_seq, ↓aw_block, ↓aw_exit, ↓aw_ret, ↓sops_nil, ↓sops_go, ↓dops_nil, ↓dopsX_nil, ↓dopsR_nil, ↓vdn, vup, extr_20, extr_21, extr_30, extr_31, extr_32, List.map_cons, List.map_nil, cond_true, cond_false, aop, aThen, aBlock, argEnv, ev, sput, sputO, binK, binI, unK, builtinK, pickK, Nat.reduceBEq, Nat.reduceAdd, Int.reduceBEq, Int.reduceBNe, Int.reduceLT, aPost, resK, tup, tyf, loadP c1, callK, List.nil_append, List.append_nil, List.toList_toArray, List.cons_append]
      refine ⟨_, _, pcontains_call (p := p) htv (by omega), rfl, ?_⟩
      cases hct : (ps.take k).contains p with
      | true =>
        have hf : okK xs.length ps k = false := by rw [okK, ← hpe, hct, Bool.not_true, Bool.and_false]
        simp (maxSteps := 2000000) only [s41, ↓aw_region, ↓aw_skip, ↓aw_seq, ↓aw_block, ↓aw_exit, ↓aw_ret, ↓sops_nil, ↓sops_go, ↓dops_nil, ↓dopsX_nil, ↓dopsR_nil, ↓vdn, vup, extr_20, extr_21, extr_30, extr_31, extr_32, List.map_cons, List.map_nil, cond_true, cond_false, aop, aThen, aBlock, argEnv, ev, sput, sputO, binK, binI, unK, builtinK, pickK, Nat.reduceBEq, Nat.reduceAdd, Int.reduceBEq, Int.reduceBNe, Int.reduceLT, aPost, resK, tup, tyf]
        refine hQ2 _ _ _ (hQ _ _ _ ?_)
        simp (maxSteps := 2000000) only [s41, ↓aw_region, ↓aw_skip, ↓aw_seq, ↓aw_block, ↓aw_exit, ↓aw_ret, ↓sops_nil, ↓sops_go, ↓dops_nil, ↓dopsX_nil, ↓dopsR_nil, ↓vdn, vup, extr_20, extr_21, extr_30, extr_31, extr_32, List.map_cons, List.map_nil, cond_true, cond_false, aop, aThen, aBlock, argEnv, ev, sput, sputO, binK, binI, unK, builtinK, pickK, Nat.reduceBEq, Nat.reduceAdd, Int.reduceBEq, Int.reduceBNe, Int.reduceLT, aPost, resK, tup, tyf]
        rw [if_neg (stop hf)]
        exact ⟨hEh, trivial⟩
      | false =>
        have hyes : okK xs.length ps k = true := by rw [okK, ← hpe, hct, hpr]; rfl
        simp (maxSteps := 2000000) only [s41, ↓aw_region, ↓aw_skip, ↓aw_seq, ↓aw_block, ↓aw_exit, ↓aw_ret, ↓sops_nil, ↓sops_go, ↓dops_nil, ↓dopsX_nil, ↓dopsR_nil, ↓vdn, vup, extr_20, extr_21, extr_30, extr_31, extr_32, List.map_cons, List.map_nil, cond_true, cond_false, aop, aThen, aBlock, argEnv, ev, sput, sputO, binK, binI, unK, builtinK, pickK, Nat.reduceBEq, Nat.reduceAdd, Int.reduceBEq, Int.reduceBNe, Int.reduceLT, aPost, resK, tup, tyf]
        obtain ⟨i, j, rfl, hij, hj⟩ := okPr_nat hpr
        have hi : i < xs.length := by omega
        have hsm := turn_sm (ps := ps) hsm0 hlen.2 k fun i hi => by
          have := hok i hi
          rw [okK, Bool.and_eq_true] at this
          exact this.1
        have hstep : turnTo xs ps (k + 1) = half (half (turnTo xs ps k) i j) j i := by rw [turnTo, ← hpe]; rfl
        generalize turnTo xs ps k = t at hsm hb2 hstep ⊢
        have hit : i < t.length := by rw [hsm.1]; exact hi
        have x1 := xor_half hsm hi hj hlen.2
        have hsm2 := half_sm hsm hi hj hlen.2
        have x2 := xor_half hsm2 hj hi hlen.2
        refine aw_drawX [] (by kernel_rfl) (by kernel_rfl) (by kernel_rfl) (by kernel_rfl) ?_
        simp (maxSteps := 2000000) only [s41, ↓aw_region, ↓aw_skip, ↓aw_seq, ↓aw_block, ↓aw_exit, ↓aw_ret, ↓sops_nil, ↓sops_go, ↓dops_nil, ↓dopsX_nil, ↓dopsR_nil, ↓vdn, vup, extr_20, extr_21, extr_30, extr_31, extr_32, List.map_cons, List.map_nil, cond_true, cond_false, aop, aThen, aBlock, argEnv, ev, sput, sputO, binK, binI, unK, builtinK, pickK, Nat.reduceBEq, Nat.reduceAdd, Int.reduceBEq, Int.reduceBNe, Int.reduceLT, aPost, resK, tup, tyf, idxW hi, loadX hb2 hit, x1, storeX hb2 hit]
        have hb3 : (h2.set b (.ints (t.set i (xI (t.getD i 0) j)) 3 false))[b]? = some (.ints (half t i j) 3 false) := get_set (get_lt hb2) _
        have hE3 : Ext (fun _ => False) h (h2.set b (.ints (t.set i (xI (t.getD i 0) j)) 3 false)) := ⟨by simp; exact hEh.1, fun q hq _ => by rw [List.getElem?_set_ne (by omega)]; exact hEh.2 q hq id⟩
        generalize h2.set b (.ints (t.set i (xI (t.getD i 0) j)) 3 false) = h3 at hb3 hE3 ⊢
        have hjt : j < (half t i j).length := by rw [hsm2.1]; exact hj
        refine aw_drawX [] (by kernel_rfl) (by kernel_rfl) (by kernel_rfl) (by kernel_rfl) ?_
        simp (maxSteps := 2000000) only [s41, ↓aw_region, ↓aw_skip, ↓aw_seq, ↓aw_block, ↓aw_exit, ↓aw_ret, ↓sops_nil, ↓sops_go, ↓dops_nil, ↓dopsX_nil, ↓dopsR_nil, ↓vdn, vup, extr_20, extr_21, extr_30, extr_31, extr_32, List.map_cons, List.map_nil, cond_true, cond_false, aop, aThen, aBlock, argEnv, ev, sput, sputO, binK, binI, unK, builtinK, pickK, Nat.reduceBEq, Nat.reduceAdd, Int.reduceBEq, Int.reduceBNe, Int.reduceLT, aPost, resK, tup, tyf, idxW hj, loadX hb3 hjt, x2, storeX hb3 hjt]
        have hb4 : (h3.set b (.ints ((half t i j).set j (xI ((half t i j).getD j 0) i)) 3 false))[b]? = some (.ints (half (half t i j) j i) 3 false) := get_set (get_lt hb3) _
        have hE4 : Ext (fun _ => False) h (h3.set b (.ints ((half t i j).set j (xI ((half t i j).getD j 0) i)) 3 false)) := ⟨by simp; exact hE3.1, fun q hq _ => by rw [List.getElem?_set_ne (by omega)]; exact hE3.2 q hq id⟩
        generalize h3.set b (.ints ((half t i j).set j (xI ((half t i j).getD j 0) i)) 3 false) = h4 at hb4 hE4 ⊢
        simp (maxSteps := 2000000) only [s41, ↓aw_region, ↓aw_skip, ↓aw_seq, ↓aw_block, ↓aw_exit, ↓aw_ret, ↓sops_nil, ↓sops_go, ↓dops_nil, ↓dopsX_nil, ↓dopsR_nil, ↓vdn, vup, extr_20, extr_21, extr_30, extr_31, extr_32, List.map_cons, List.map_nil, cond_true, cond_false, aop, aThen, aBlock, argEnv, ev, sput, sputO, binK, binI, unK, builtinK, pickK, Nat.reduceBEq, Nat.reduceAdd, Int.reduceBEq, Int.reduceBNe, Int.reduceLT, aPost, resK, tup, tyf, add1 (show k < 9223372036854775807 by omega)]
        refine hQ2 _ _ _ ⟨(k + 1, h4), ⟨by simp only; omega, by simp only; rw [hstep]; exact hb4, hE4, fun q hq => ?_⟩, by simp only; omega, by simp (maxSteps := 2000000) only [↓aw_region, ↓aw_skip, ↓aw_seq, ↓aw_block, ↓aw_exit, ↓aw_ret, ↓sops_nil, ↓sops_go, ↓dops_nil, ↓dopsX_nil, ↓dopsR_nil, ↓vdn, vup, extr_20, extr_21, extr_30, extr_31, extr_32, List.map_cons, List.map_nil, cond_true, cond_false, aop, aThen, aBlock, argEnv, ev, sput, sputO, binK, binI, unK, builtinK, pickK, Nat.reduceBEq, Nat.reduceAdd, Int.reduceBEq, Int.reduceBNe, Int.reduceLT, aPost, resK, tup, tyf], rfl⟩
        simp only at hq
        by_cases hqk : q = k
        · rw [hqk]; exact hyes
        · exact hok q (by omega)
    · obtain rfl : k = ps.length := by omega
      have hyes : okPs xs.length ps = true := by
        rw [okPs, Bool.and_eq_true, List.all_eq_true, decide_eq_true_eq]
        exact ⟨fun i hi => hok i (List.mem_range.1 hi), h28⟩
      simp (maxSteps := 2000000) only [s41, ↓aw_region, ↓aw_skip, ↓aw_seq, ↓aw_block, ↓aw_exit, ↓aw_ret, ↓sops_nil, ↓sops_go, ↓dops_nil, ↓dopsX_nil, ↓dopsR_nil, ↓vdn, vup, extr_20, extr_21, extr_30, extr_31, extr_32, List.map_cons, List.map_nil, cond_true, cond_false, aop, aThen, aBlock, argEnv, ev, sput, sputO, binK, binI, unK, builtinK, pickK, Nat.reduceBEq, Nat.reduceAdd, Int.reduceBEq, Int.reduceBNe, Int.reduceLT, aPost, resK, tup, tyf, l41_0, Int.lt_irrefl]
      refine hQ2 _ _ _ (hQ _ _ _ ?_)
      simp (maxSteps := 2000000) only [s41, ↓aw_region, ↓aw_skip, ↓aw_seq, ↓aw_block, ↓aw_exit, ↓aw_ret, ↓sops_nil, ↓sops_go, ↓dops_nil, ↓dopsX_nil, ↓dopsR_nil, ↓vdn, vup, extr_20, extr_21, extr_30, extr_31, extr_32, List.map_cons, List.map_nil, cond_true, cond_false, aop, aThen, aBlock, argEnv, ev, sput, sputO, binK, binI, unK, builtinK, pickK, Nat.reduceBEq, Nat.reduceAdd, Int.reduceBEq, Int.reduceBNe, Int.reduceLT, aPost, resK, tup, tyf, if_true, ht, hyes, and_self]
      have hsm := turn_sm (ps := ps) hsm0 hlen.2 ps.length fun i hi => by
        have := hok i hi
        rw [okK, Bool.and_eq_true] at this
        exact this.1
      refine ⟨hE, _, rfl, .inr ⟨b, 0, some 0, xs.length, (turnTo xs ps ps.length).map vint, 3, false, by rw [hsm.1], by rw [hsm.1]; exact Nat.le_refl _, by simp [view, hbq, Blk.view], fun i hi => ?_⟩⟩
      simp [List.getD, hi]
end Go.Proofs.Tryd.Am

namespace Go.Proofs.Tryd.Am
open Go.Am
set_option maxRecDepth 100000
/-! 37: planchet ranks.Against -/
@[reducible] def q37_0 : SCode := .region [⟨some 4, .assign (.const (.int .i64 0)), none⟩,
    ⟨some 5, .assign (.const (.int .i64 0)), none⟩]
@[reducible] def q37_1 : SCode := .region [⟨some 11, .move (.tmp 0), none⟩,
    ⟨some 6, .assign (.tmp 11), none⟩]
@[reducible] def q37_2 : SCode := .region [⟨some 12, .move (.tmp 6), none⟩,
    ⟨some 13, .call { callee := .value (.func 56), args := #[.tmp 12], argTypes := #[55] }, none⟩,
    ⟨some 14, .unOp .not 4 (.tmp 13), none⟩,
    ⟨some 15, .move (.tmp 14), none⟩,
    ⟨some 16, .move (.tmp 6), some (15, false)⟩,
    ⟨some 17, .move (.tmp 1), some (15, false)⟩,
    ⟨some 18, .call { callee := .value (.func 74), args := #[.tmp 16, .tmp 17], argTypes := #[55, 22] }, some (15, false)⟩,
    ⟨some 19, .unOp .not 4 (.tmp 18), some (15, false)⟩,
    ⟨some 20, .pick (.tmp 15) (.const (.bool true)) (.tmp 19), none⟩]
@[reducible] def q37_3 : SCode := .region [⟨some 4, .assign (.const (.int .i64 0)), none⟩,
    ⟨some 5, .assign (.const (.int .i64 2)), none⟩]
@[reducible] def q37_4 : SCode := .region [⟨some 7, .assign (.const (.int .i64 0)), none⟩,
    ⟨some 8, .assign (.const (.int .i64 0)), none⟩]
@[reducible] def q37_5 : SCode := .region [⟨some 21, .move (.tmp 1), none⟩,
    ⟨some 22, .call { callee := .builtin .len, args := #[.tmp 21], argTypes := #[22] }, none⟩,
    ⟨some 23, .move (.const (.int .i64 0)), none⟩]
@[reducible] def q37_6 : SCode := .region [⟨some 24, .binOp .lss 3 (.tmp 23) (.tmp 22) 3, none⟩]
@[reducible] def q37_7 : SCode := .region [⟨some 25, .indexAddr 22 (.tmp 21) (.tmp 23), none⟩,
    ⟨some 26, .load 3 (.tmp 25), none⟩,
    ⟨some 10, .assign (.tmp 26), none⟩]
@[reducible] def q37_8 : SCode := .region [⟨some 27, .move (.tmp 7), none⟩,
    ⟨some 28, .move (.tmp 0), none⟩,
    ⟨some 29, .move (.tmp 10), none⟩,
    ⟨some 30, .indexAddr 22 (.tmp 28) (.tmp 29), none⟩,
    ⟨some 31, .load 3 (.tmp 30), none⟩,
    ⟨some 32, .move (.tmp 8), none⟩,
    ⟨some 33, .binOp .and 3 (.tmp 31) (.tmp 32) 3, none⟩,
    ⟨some 34, .call { callee := .value (.func 73), args := #[.tmp 33], argTypes := #[3] }, none⟩,
    ⟨some 35, .binOp .add 3 (.tmp 27) (.tmp 34) 3, none⟩,
    ⟨some 7, .assign (.tmp 35), none⟩]
@[reducible] def q37_9 : SCode := .region [⟨some 36, .move (.tmp 8), none⟩,
    ⟨some 37, .move (.tmp 10), none⟩,
    ⟨some 38, .binOp .shl 3 (.const (.int .i64 1)) (.tmp 37) 3, none⟩,
    ⟨some 39, .binOp .or 3 (.tmp 36) (.tmp 38) 3, none⟩,
    ⟨some 8, .assign (.tmp 39), none⟩]
@[reducible] def q37_10 : SCode := .region [⟨some 40, .binOp .add 3 (.tmp 23) (.const (.int .i64 1)) 3, none⟩,
    ⟨some 23, .move (.tmp 40), none⟩]
def l37_0 : SCode := (.seq q37_6 (.seq (.cond (.tmp 24) .skip (.exit 0)) (.seq (.block 1 (.seq q37_7 (.seq q37_8 q37_9))) q37_10)))
@[reducible] def q37_11 : SCode := .region [⟨some 41, .move (.tmp 7), none⟩,
    ⟨some 4, .assign (.tmp 41), none⟩,
    ⟨some 5, .assign (.const (.int .i64 0)), none⟩]
def s37 : SCode := (.seq q37_0 (.seq q37_1 (.seq (.seq q37_2 (.cond (.tmp 20) (.seq q37_3 .ret) .skip)) (.seq q37_4 (.seq (.seq q37_5 (.block 0 (.loop l37_0))) (.seq q37_11 .ret))))))
theorem s37_strip : stripC (bodyOf Tryd.f37) = s37 := by kernel_rfl
theorem s37_ok : codeOK 42 (bodyOf Tryd.f37) = true := by kernel_rfl
/-! 38: planchet ranks.Order -/
@[reducible] def q38_0 : SCode := .region [⟨some 1, .box 22 (.tmp 0), none⟩,
    ⟨some 2, .assign (.const (.slice none 0 0)), none⟩,
    ⟨some 3, .assign (.const (.int .i64 0)), none⟩]
@[reducible] def q38_1 : SCode := .region [⟨some 12, .load 22 (.tmp 1), none⟩,
    ⟨some 4, .assign (.tmp 12), none⟩]
@[reducible] def q38_2 : SCode := .region [⟨some 13, .move (.tmp 4), none⟩,
    ⟨some 14, .call { callee := .value (.func 56), args := #[.tmp 13], argTypes := #[55] }, none⟩,
    ⟨some 15, .unOp .not 4 (.tmp 14), none⟩]
@[reducible] def q38_3 : SCode := .region [⟨some 2, .assign (.const (.slice none 0 0)), none⟩,
    ⟨some 3, .assign (.const (.int .i64 2)), none⟩]
@[reducible] def q38_4 : SCode := .region [⟨some 16, .load 22 (.tmp 1), none⟩,
    ⟨some 17, .call { callee := .builtin .len, args := #[.tmp 16], argTypes := #[22] }, none⟩,
    ⟨some 18, .binOp .shl 3 (.const (.int .i64 1)) (.tmp 17) 3, none⟩,
    ⟨some 19, .makeSlice 22 (.tmp 18) (.tmp 18), none⟩,
    ⟨some 5, .alloc 22, none⟩,
    ⟨none, .store 22 (.tmp 5) (.tmp 19), none⟩]
@[reducible] def q38_5 : SCode := .region [⟨some 20, .makeFunc (.func 75) #[] #[.tmp 1, .tmp 5], none⟩,
    ⟨some 6, .alloc 69, none⟩,
    ⟨none, .store 69 (.tmp 6) (.tmp 20), none⟩]
@[reducible] def q38_6 : SCode := .region [⟨some 21, .move (.tmp 4), none⟩,
    ⟨some 22, .call { callee := .value (.func 63), args := #[.tmp 21], argTypes := #[55] }, none⟩,
    ⟨some 23, .binOp .sub 3 (.tmp 22) (.const (.int .i64 1)) 3, none⟩,
    ⟨some 7, .alloc 3, none⟩,
    ⟨none, .store 3 (.tmp 7) (.tmp 23), none⟩]
@[reducible] def q38_7 : SCode := .region [⟨some 24, .load 3 (.tmp 7), none⟩,
    ⟨some 25, .binOp .geq 3 (.tmp 24) (.const (.int .i64 0)) 3, none⟩]
@[reducible] def q38_9 : SCode := .region [⟨some 28, .load 22 (.tmp 5), none⟩,
    ⟨some 29, .load 3 (.tmp 7), none⟩,
    ⟨some 30, .load 22 (.tmp 1), none⟩,
    ⟨some 31, .call { callee := .builtin .len, args := #[.tmp 30], argTypes := #[22] }, none⟩,
    ⟨some 32, .load 22 (.tmp 1), none⟩,
    ⟨some 33, .call { callee := .builtin .len, args := #[.tmp 32], argTypes := #[22] }, none⟩,
    ⟨some 34, .binOp .mul 3 (.tmp 31) (.tmp 33) 3, none⟩,
    ⟨some 35, .indexAddr 22 (.tmp 28) (.tmp 29), none⟩,
    ⟨none, .store 3 (.tmp 35) (.tmp 34), none⟩]
def q38_10 : SCode := .draw [⟨some 36, .move (.tmp 4), none⟩,
    ⟨some 37, .call { callee := .value (.func 63), args := #[.tmp 36], argTypes := #[55] }, none⟩,
    ⟨some 38, .load 3 (.tmp 7), none⟩,
    ⟨some 39, .binOp .andNot 3 (.tmp 37) (.tmp 38) 3, none⟩,
    ⟨some 40, .call { callee := .value (.func 62), args := #[.tmp 39], argTypes := #[3] }, none⟩]
   [[], [0], [], [1, 2], [3, 1]]
@[reducible] def q38_11 : SCode := .region [⟨some 8, .assign (.tmp 41), none⟩]
def q38_12 : SCode := .draw [⟨some 42, .load 22 (.tmp 5), none⟩,
    ⟨some 43, .load 3 (.tmp 7), none⟩,
    ⟨some 44, .load 22 (.tmp 5), none⟩,
    ⟨some 45, .load 3 (.tmp 7), none⟩,
    ⟨some 46, .indexAddr 22 (.tmp 44) (.tmp 45), none⟩,
    ⟨some 47, .load 3 (.tmp 46), none⟩,
    ⟨some 48, .load 69 (.tmp 6), none⟩,
    ⟨some 49, .load 3 (.tmp 7), none⟩,
    ⟨some 50, .move (.tmp 8), none⟩,
    ⟨some 51, .call { callee := .value (.tmp 48), args := #[.tmp 49, .tmp 50], argTypes := #[3, 3] }, none⟩,
    ⟨some 52, .call { callee := .builtin .min, args := #[.tmp 47, .tmp 51], argTypes := #[3, 3] }, none⟩,
    ⟨some 53, .indexAddr 22 (.tmp 42) (.tmp 43), none⟩,
    ⟨none, .store 3 (.tmp 53) (.tmp 52), none⟩]
   [[], [], [], [], [2, 3], [4], [], [], [], [6, 7, 8], [5, 9], [0, 1, 0, 1, 2, 3, 4, 5, 6, 7, 8, 9, 10], [11, 10, 9, 0, 1, 2, 3, 4, 5, 6, 7, 8, 9, 10]]
def r38_0_a : SCode := q38_11
def r38_0_b : SCode := (.block 3 q38_12)
@[reducible] def q38_13 : SCode := .region [⟨some 54, .load 3 (.tmp 7), none⟩]
@[reducible] def q38_14 : SCode := .region [⟨some 7, .alloc 3, none⟩,
    ⟨none, .store 3 (.tmp 7) (.tmp 54), none⟩]
@[reducible] def q38_8 : SCode := .region [⟨some 26, .load 3 (.tmp 7), none⟩,
    ⟨some 27, .binOp .sub 3 (.tmp 26) (.const (.int .i64 1)) 3, none⟩,
    ⟨none, .store 3 (.tmp 7) (.tmp 27), none⟩]
def l38_1 : SCode := (.seq (.seq q38_7 (.cond (.tmp 25) .skip (.exit 0))) (.seq (.block 1 (.seq q38_9 (.seq q38_10 (.block 2 (.range (.tmp 40) [41] r38_0_a r38_0_b))))) (.seq (.seq q38_13 q38_14) q38_8)))
@[reducible] def q38_15 : SCode := .region [⟨some 9, .alloc 22, none⟩]
@[reducible] def q38_16 : SCode := .region [⟨some 10, .alloc 3, none⟩,
    ⟨none, .store 3 (.tmp 10) (.const (.int .i64 0)), none⟩]
def q38_17 : SCode := .draw [⟨some 55, .load 3 (.tmp 10), none⟩,
    ⟨some 56, .move (.tmp 4), none⟩,
    ⟨some 57, .call { callee := .value (.func 63), args := #[.tmp 56], argTypes := #[55] }, none⟩,
    ⟨some 58, .binOp .neq 3 (.tmp 55) (.tmp 57) 3, none⟩]
   [[], [], [1], [0, 2]]
def q38_18 : SCode := .draw [⟨some 59, .move (.tmp 4), none⟩,
    ⟨some 60, .call { callee := .value (.func 63), args := #[.tmp 59], argTypes := #[55] }, none⟩,
    ⟨some 61, .load 3 (.tmp 10), none⟩,
    ⟨some 62, .binOp .andNot 3 (.tmp 60) (.tmp 61) 3, none⟩,
    ⟨some 63, .call { callee := .value (.func 62), args := #[.tmp 62], argTypes := #[3] }, none⟩]
   [[], [0], [], [1, 2], [3, 1]]
@[reducible] def q38_19 : SCode := .region [⟨some 11, .assign (.tmp 64), none⟩]
def q38_20 : SCode := .draw [⟨some 65, .load 69 (.tmp 6), none⟩,
    ⟨some 66, .load 3 (.tmp 10), none⟩,
    ⟨some 67, .move (.tmp 11), none⟩,
    ⟨some 68, .call { callee := .value (.tmp 65), args := #[.tmp 66, .tmp 67], argTypes := #[3, 3] }, none⟩,
    ⟨some 69, .load 22 (.tmp 5), none⟩,
    ⟨some 70, .load 3 (.tmp 10), none⟩,
    ⟨some 71, .indexAddr 22 (.tmp 69) (.tmp 70), none⟩,
    ⟨some 72, .load 3 (.tmp 71), none⟩,
    ⟨some 73, .binOp .eql 3 (.tmp 68) (.tmp 72) 3, none⟩]
   [[], [], [], [0, 1, 2], [], [], [4, 5], [6], [3, 7]]
@[reducible] def q38_21 : SCode := .region [⟨some 74, .load 22 (.tmp 9), none⟩,
    ⟨some 75, .move (.tmp 11), none⟩,
    ⟨some 76, .buildSlice 22 1 #[(0, .tmp 75)], none⟩,
    ⟨some 77, .call { callee := .builtin .append, args := #[.tmp 74, .tmp 76], argTypes := #[22, 22] }, none⟩,
    ⟨none, .store 22 (.tmp 9) (.tmp 77), none⟩]
def q38_22 : SCode := .draw [⟨some 78, .load 3 (.tmp 10), none⟩,
    ⟨some 79, .move (.tmp 11), none⟩,
    ⟨some 80, .binOp .shl 3 (.const (.int .i64 1)) (.tmp 79) 3, none⟩,
    ⟨some 81, .binOp .or 3 (.tmp 78) (.tmp 80) 3, none⟩,
    ⟨none, .store 3 (.tmp 10) (.tmp 81), none⟩]
   [[], [], [1], [0, 2], [3, 0, 1, 2, 3]]
def r38_2_a : SCode := q38_19
def r38_2_b : SCode := (.block 7 (.seq q38_20 (.cond (.tmp 73) (.seq q38_21 (.seq q38_22 (.exit 6))) .skip)))
@[reducible] def q38_23 : SCode := .region [⟨some 82, .load 3 (.tmp 10), none⟩]
@[reducible] def q38_24 : SCode := .region [⟨some 10, .alloc 3, none⟩,
    ⟨none, .store 3 (.tmp 10) (.tmp 82), none⟩]
def l38_3 : SCode := (.seq (.seq q38_17 (.cond (.tmp 58) .skip (.exit 4))) (.seq (.block 5 (.seq q38_18 (.block 6 (.range (.tmp 63) [64] r38_2_a r38_2_b)))) (.seq q38_23 q38_24)))
@[reducible] def q38_25 : SCode := .region [⟨some 83, .load 22 (.tmp 9), none⟩,
    ⟨some 2, .assign (.tmp 83), none⟩,
    ⟨some 3, .assign (.const (.int .i64 0)), none⟩]
def s38 : SCode := (.seq q38_0 (.seq q38_1 (.seq (.seq q38_2 (.cond (.tmp 15) (.seq q38_3 .ret) .skip)) (.seq q38_4 (.seq q38_5 (.seq (.seq q38_6 (.block 0 (.loop l38_1))) (.seq q38_15 (.seq (.seq q38_16 (.block 4 (.loop l38_3))) (.seq q38_25 .ret)))))))))
theorem s38_strip : stripC (bodyOf Tryd.f38) = s38 := by kernel_rfl
theorem s38_ok : codeOK 84 (bodyOf Tryd.f38) = true := by kernel_rfl
/-! 74: (planchet ranks.tournament).isOrder -/
@[reducible] def q74_0 : SCode := .region [⟨some 4, .assign (.const (.bool false)), none⟩]
@[reducible] def q74_1 : SCode := .region [⟨some 5, .assign (.const (.int .i64 0)), none⟩]
@[reducible] def q74_2 : SCode := .region [⟨some 8, .move (.tmp 1), none⟩,
    ⟨some 9, .call { callee := .builtin .len, args := #[.tmp 8], argTypes := #[22] }, none⟩,
    ⟨some 10, .move (.const (.int .i64 0)), none⟩]
@[reducible] def q74_3 : SCode := .region [⟨some 11, .binOp .lss 3 (.tmp 10) (.tmp 9) 3, none⟩]
@[reducible] def q74_4 : SCode := .region [⟨some 12, .indexAddr 22 (.tmp 8) (.tmp 10), none⟩,
    ⟨some 13, .load 3 (.tmp 12), none⟩,
    ⟨some 7, .assign (.tmp 13), none⟩]
@[reducible] def q74_5 : SCode := .region [⟨some 14, .move (.tmp 7), none⟩,
    ⟨some 15, .binOp .lss 3 (.tmp 14) (.const (.int .i64 0)) 3, none⟩,
    ⟨some 16, .move (.tmp 15), none⟩,
    ⟨some 17, .move (.tmp 7), some (16, false)⟩,
    ⟨some 18, .move (.tmp 0), some (16, false)⟩,
    ⟨some 19, .call { callee := .builtin .len, args := #[.tmp 18], argTypes := #[55] }, some (16, false)⟩,
    ⟨some 20, .binOp .geq 3 (.tmp 17) (.tmp 19) 3, some (16, false)⟩,
    ⟨some 21, .pick (.tmp 16) (.const (.bool true)) (.tmp 20), none⟩]
@[reducible] def q74_6 : SCode := .region [⟨some 4, .assign (.const (.bool false)), none⟩]
@[reducible] def q74_7 : SCode := .region [⟨some 22, .move (.tmp 5), none⟩,
    ⟨some 23, .move (.tmp 7), none⟩,
    ⟨some 24, .binOp .shl 3 (.const (.int .i64 1)) (.tmp 23) 3, none⟩,
    ⟨some 25, .binOp .or 3 (.tmp 22) (.tmp 24) 3, none⟩,
    ⟨some 5, .assign (.tmp 25), none⟩]
@[reducible] def q74_8 : SCode := .region [⟨some 26, .binOp .add 3 (.tmp 10) (.const (.int .i64 1)) 3, none⟩,
    ⟨some 10, .move (.tmp 26), none⟩]
def l74_0 : SCode := (.seq q74_3 (.seq (.cond (.tmp 11) .skip (.exit 0)) (.seq (.block 1 (.seq q74_4 (.seq (.seq q74_5 (.cond (.tmp 21) (.seq q74_6 .ret) .skip)) q74_7))) q74_8)))
@[reducible] def q74_9 : SCode := .region [⟨some 27, .move (.tmp 1), none⟩,
    ⟨some 28, .call { callee := .builtin .len, args := #[.tmp 27], argTypes := #[22] }, none⟩,
    ⟨some 29, .move (.tmp 0), none⟩,
    ⟨some 30, .call { callee := .builtin .len, args := #[.tmp 29], argTypes := #[55] }, none⟩,
    ⟨some 31, .binOp .eql 3 (.tmp 28) (.tmp 30) 3, none⟩,
    ⟨some 32, .move (.tmp 31), none⟩,
    ⟨some 33, .move (.tmp 5), some (32, true)⟩,
    ⟨some 34, .move (.tmp 0), some (32, true)⟩,
    ⟨some 35, .call { callee := .value (.func 63), args := #[.tmp 34], argTypes := #[55] }, some (32, true)⟩,
    ⟨some 36, .binOp .eql 3 (.tmp 33) (.tmp 35) 3, some (32, true)⟩,
    ⟨some 37, .pick (.tmp 32) (.tmp 36) (.const (.bool false)), none⟩,
    ⟨some 4, .assign (.tmp 37), none⟩]
def s74 : SCode := (.seq q74_0 (.seq q74_1 (.seq (.seq q74_2 (.block 0 (.loop l74_0))) (.seq q74_9 .ret))))
theorem s74_strip : stripC (bodyOf Tryd.f74) = s74 := by kernel_rfl
theorem s74_ok : codeOK 38 (bodyOf Tryd.f74) = true := by kernel_rfl
/-! 75: planchet ranks.Order$1 -/
@[reducible] def q75_0 : SCode := .region [⟨some 6, .assign (.const (.int .i64 0)), none⟩]
def q75_1 : SCode := .draw [⟨some 7, .load 22 (.tmp 2), none⟩,
    ⟨some 8, .move (.tmp 1), none⟩,
    ⟨some 9, .indexAddr 22 (.tmp 7) (.tmp 8), none⟩,
    ⟨some 10, .load 3 (.tmp 9), none⟩,
    ⟨some 11, .move (.tmp 0), none⟩,
    ⟨some 12, .binOp .and 3 (.tmp 10) (.tmp 11) 3, none⟩,
    ⟨some 13, .call { callee := .value (.func 73), args := #[.tmp 12], argTypes := #[3] }, none⟩,
    ⟨some 14, .load 22 (.tmp 3), none⟩,
    ⟨some 15, .move (.tmp 0), none⟩,
    ⟨some 16, .move (.tmp 1), none⟩,
    ⟨some 17, .binOp .shl 3 (.const (.int .i64 1)) (.tmp 16) 3, none⟩,
    ⟨some 18, .binOp .or 3 (.tmp 15) (.tmp 17) 3, none⟩,
    ⟨some 19, .indexAddr 22 (.tmp 14) (.tmp 18), none⟩,
    ⟨some 20, .load 3 (.tmp 19), none⟩,
    ⟨some 21, .binOp .add 3 (.tmp 13) (.tmp 20) 3, none⟩,
    ⟨some 6, .assign (.tmp 21), none⟩]
   [[], [], [0, 1], [2], [], [3, 4], [5], [], [], [], [9], [8, 10], [7, 11], [12], [6, 13], [14, 6, 0, 1, 2, 3, 4, 5, 6, 7, 8, 9, 10, 11, 12, 13, 14]]
def s75 : SCode := (.seq q75_0 (.seq q75_1 .ret))
theorem s75_strip : stripC (bodyOf Tryd.f75) = s75 := by kernel_rfl
theorem s75_ok : codeOK 22 (bodyOf Tryd.f75) = true := by kernel_rfl
end Go.Proofs.Tryd.Am

namespace Go.Proofs.Tryd.Am
open Go.Am Redei Rb
set_option maxRecDepth 100000
set_option maxHeartbeats 1000000

theorem pow8N {n : Nat} (h : n ≤ 8) : 2 ^ n ≤ 256 := Nat.pow_le_pow_right (n := 2) (by decide) h
theorem shlI1 {n : Nat} (h : n ≤ 62) : shlV .i64 1 (n : Int) = ((2 ^ n : Nat) : Int) := by
  have h2 : 2 ^ n ≤ 2 ^ 62 := Nat.pow_le_pow_right (by decide) h
  have := shlV_nat (a := 1) (y := n) (by omega) (by omega)
  simpa using this
theorem beqN {a b : Nat} : (((a : Nat) : Int) == ((b : Nat) : Int)) = (a == b) := by
  rw [Bool.eq_iff_iff, beq_iff_eq, beq_iff_eq]; omega
theorem getD_rng' {xs : List Int} (hx : ∀ x ∈ xs, -9223372036854775808 ≤ x ∧ x < 9223372036854775808) {i : Nat} (hi : i < xs.length) : -9223372036854775808 ≤ xs.getD i 0 ∧ xs.getD i 0 < 9223372036854775808 :=
  hx (xs.getD i 0) (by rw [List.getD, List.getElem?_eq_getElem hi]; exact List.getElem_mem hi)

theorem s74_callW [Tabs Tryd.prog] {args : List Value} {h : Heap} {Q : Value → Heap → Prop} (hsz : args.length ≤ 38) (hk : AWS Tryd.prog 38 s74 (aPost Tryd.prog [.tmp 4] Q) (argEnv 0 args) h) : ACall Tryd.prog 74 args h Q :=
  acall_w Tryd.func74 rfl (enters_of Tryd.func74 (by kernel_rfl) rfl) rfl rfl (by decide) s74_strip s74_ok hsz hk
theorem isOrder_call [Tabs prog] {h : Heap} {v cv : Value} {xs os : List Int} (hv : IntSl h v xs) (hl8 : xs.length ≤ 8) (hc : IntSl h cv os) (hcl : os.length < 9223372036854775808) (hcx : ∀ x ∈ os, -9223372036854775808 ≤ x ∧ x < 9223372036854775808) :
    APure prog 74 [v, cv] h (.bool (isOrd xs.length os)) := by
  have hnn : ∀ i : Nat, (0 : Int) ≤ (i : Int) := Int.natCast_nonneg
  have h256 := pow8N hl8
  refine s74_callW (by simp) ?_
  simp only [s74]
  refine aws_cut fun N1 hN1 => ?_
  simp (maxSteps := 2000000) only [s74, ↓aw_region, ↓aw_skip, ↓aw_seq, ↓aw_block, ↓aw_exit, ↓aw_ret, ↓sops_nil, ↓sops_go, ↓dops_nil, ↓dopsX_nil, ↓dopsR_nil, ↓vdn, vup, extr_20, extr_21, extr_30, extr_31, extr_32, List.map_cons, List.map_nil, cond_true, cond_false, aop, aThen, aBlock, argEnv, ev, sput, sputO, binK, binI, unK, builtinK, pickK, Nat.reduceBEq, Nat.reduceAdd, Int.reduceBEq, Int.reduceBNe, Int.reduceLT, aPost, resK, tup, tyf]
  refine hN1 [(0, v), (1, cv), (4, .bool false)] _ _ ?_ (by simp (maxSteps := 2000000) only [↓aw_region, ↓aw_skip, ↓aw_seq, ↓aw_block, ↓aw_exit, ↓aw_ret, ↓sops_nil, ↓sops_go, ↓dops_nil, ↓dopsX_nil, ↓dopsR_nil, ↓vdn, vup, extr_20, extr_21, extr_30, extr_31, extr_32, List.map_cons, List.map_nil, cond_true, cond_false, aop, aThen, aBlock, argEnv, ev, sput, sputO, binK, binI, unK, builtinK, pickK, Nat.reduceBEq, Nat.reduceAdd, Int.reduceBEq, Int.reduceBNe, Int.reduceLT, aPost, resK, tup, tyf])
  clear hN1
  try clear N1
  refine aws_cut fun N2 hN2 => ?_
  simp (maxSteps := 2000000) only [s74, ↓aw_region, ↓aw_skip, ↓aw_seq, ↓aw_block, ↓aw_exit, ↓aw_ret, ↓sops_nil, ↓sops_go, ↓dops_nil, ↓dopsX_nil, ↓dopsR_nil, ↓vdn, vup, extr_20, extr_21, extr_30, extr_31, extr_32, List.map_cons, List.map_nil, cond_true, cond_false, aop, aThen, aBlock, argEnv, ev, sput, sputO, binK, binI, unK, builtinK, pickK, Nat.reduceBEq, Nat.reduceAdd, Int.reduceBEq, Int.reduceBNe, Int.reduceLT, aPost, resK, tup, tyf]
  refine hN2 [(0, v), (1, cv), (4, .bool false), (5, .int .i64 0)] _ _ ?_ (by simp (maxSteps := 2000000) only [↓aw_region, ↓aw_skip, ↓aw_seq, ↓aw_block, ↓aw_exit, ↓aw_ret, ↓sops_nil, ↓sops_go, ↓dops_nil, ↓dopsX_nil, ↓dopsR_nil, ↓vdn, vup, extr_20, extr_21, extr_30, extr_31, extr_32, List.map_cons, List.map_nil, cond_true, cond_false, aop, aThen, aBlock, argEnv, ev, sput, sputO, binK, binI, unK, builtinK, pickK, Nat.reduceBEq, Nat.reduceAdd, Int.reduceBEq, Int.reduceBNe, Int.reduceLT, aPost, resK, tup, tyf])
  clear hN2
  try clear N2
  refine aws_cut fun Z hZ => ?_
  simp (maxSteps := 2000000) only [s74, ↓aw_region, ↓aw_skip, ↓aw_seq, ↓aw_block, ↓aw_exit, ↓aw_ret, ↓sops_nil, ↓sops_go, ↓dops_nil, ↓dopsX_nil, ↓dopsR_nil, ↓vdn, vup, extr_20, extr_21, extr_30, extr_31, extr_32, List.map_cons, List.map_nil, cond_true, cond_false, aop, aThen, aBlock, argEnv, ev, sput, sputO, binK, binI, unK, builtinK, pickK, Nat.reduceBEq, Nat.reduceAdd, Int.reduceBEq, Int.reduceBNe, Int.reduceLT, aPost, resK, tup, tyf, hc.len, ↓aw_loop_eq]
  refine aws_hide fun Q hQ => ?_
  refine aw_loop (γ := Nat) (fun i => i ≤ os.length ∧ ∀ k, k < i → inRg xs.length os k)
    (fun i => ([(0, v), (1, cv), (4, .bool false), (5, vint (setOf (os.take i) : Nat)), (8, cv), (9, vint os.length), (10, vint i)], h)) (fun i => os.length - i) 0 ⟨Nat.zero_le _, fun _ h => by omega⟩ (by simp (maxSteps := 2000000) only [↓aw_region, ↓aw_skip, ↓aw_seq, ↓aw_block, ↓aw_exit, ↓aw_ret, ↓sops_nil, ↓sops_go, ↓dops_nil, ↓dopsX_nil, ↓dopsR_nil, ↓vdn, vup, extr_20, extr_21, extr_30, extr_31, extr_32, List.map_cons, List.map_nil, cond_true, cond_false, aop, aThen, aBlock, argEnv, ev, sput, sputO, binK, binI, unK, builtinK, pickK, Nat.reduceBEq, Nat.reduceAdd, Int.reduceBEq, Int.reduceBNe, Int.reduceLT, aPost, resK, tup, tyf, Int.natCast_zero, List.take_zero, setOf, List.foldl_nil]) rfl ?_
  rintro i ⟨hi, hok⟩
  refine aw_hide fun Q2 hQ2 => ?_
  have hs := setOf_lt' i hi hok
  by_cases hin : (i : Int) < os.length
  · have hi' : i < os.length := by omega
    obtain ⟨r1, r2⟩ := getD_rng' hcx hi'
    by_cases hneg : os.getD i 0 < 0
    · have hf := ord_no hi' (fun h : inRg xs.length os i => by have := h.1; omega)
      simp (maxSteps := 2000000) only [s74, ↓aw_region, ↓aw_skip, ↓aw_seq, ↓aw_block, ↓aw_exit, ↓aw_ret, ↓sops_nil, ↓sops_go, ↓dops_nil, ↓dopsX_nil, ↓dopsR_nil, ↓vdn, vup, extr_20, extr_21, extr_30, extr_31, extr_32, List.map_cons, List.map_nil, cond_true, cond_false, aop, aThen, aBlock, argEnv, ev, sput, sputO, binK, binI, unK, builtinK, pickK, Nat.reduceBEq, Nat.reduceAdd, Int.reduceBEq, Int.reduceBNe, Int.reduceLT, aPost, resK, tup, tyf, l74_0, hin, hc.idx el_22 esz_3 hi', hc.load shp_3 hi', hneg]
      refine hQ2 _ _ _ (hQ _ _ _ ?_)
      simp (maxSteps := 2000000) only [↓aw_region, ↓aw_skip, ↓aw_seq, ↓aw_block, ↓aw_exit, ↓aw_ret, ↓sops_nil, ↓sops_go, ↓dops_nil, ↓dopsX_nil, ↓dopsR_nil, ↓vdn, vup, extr_20, extr_21, extr_30, extr_31, extr_32, List.map_cons, List.map_nil, cond_true, cond_false, aop, aThen, aBlock, argEnv, ev, sput, sputO, binK, binI, unK, builtinK, pickK, Nat.reduceBEq, Nat.reduceAdd, Int.reduceBEq, Int.reduceBNe, Int.reduceLT, aPost, resK, tup, tyf, hf]
    by_cases hbig : (xs.length : Int) ≤ os.getD i 0
    · have hf := ord_no hi' (fun h : inRg xs.length os i => by have := h.2; omega)
      simp (maxSteps := 2000000) only [s74, ↓aw_region, ↓aw_skip, ↓aw_seq, ↓aw_block, ↓aw_exit, ↓aw_ret, ↓sops_nil, ↓sops_go, ↓dops_nil, ↓dopsX_nil, ↓dopsR_nil, ↓vdn, vup, extr_20, extr_21, extr_30, extr_31, extr_32, List.map_cons, List.map_nil, cond_true, cond_false, aop, aThen, aBlock, argEnv, ev, sput, sputO, binK, binI, unK, builtinK, pickK, Nat.reduceBEq, Nat.reduceAdd, Int.reduceBEq, Int.reduceBNe, Int.reduceLT, aPost, resK, tup, tyf, l74_0, hin, hc.idx el_22 esz_3 hi', hc.load shp_3 hi', hneg, hv.len, ge_iff_le, hbig]
      refine hQ2 _ _ _ (hQ _ _ _ ?_)
      simp (maxSteps := 2000000) only [↓aw_region, ↓aw_skip, ↓aw_seq, ↓aw_block, ↓aw_exit, ↓aw_ret, ↓sops_nil, ↓sops_go, ↓dops_nil, ↓dopsX_nil, ↓dopsR_nil, ↓vdn, vup, extr_20, extr_21, extr_30, extr_31, extr_32, List.map_cons, List.map_nil, cond_true, cond_false, aop, aThen, aBlock, argEnv, ev, sput, sputO, binK, binI, unK, builtinK, pickK, Nat.reduceBEq, Nat.reduceAdd, Int.reduceBEq, Int.reduceBNe, Int.reduceLT, aPost, resK, tup, tyf, hf]
    obtain ⟨a, ha⟩ : ∃ a : Nat, os.getD i 0 = (a : Int) := ⟨(os.getD i 0).toNat, by omega⟩
    have ha8 : a < 8 := by omega
    have p2 : 2 ^ a ≤ 2 ^ 8 := Nat.pow_le_pow_right (by decide) (by omega)
    have hor : bitsV .or .i64 ((setOf (os.take i) : Nat) : Int) ((2 ^ a : Nat) : Int) = ((setOf (os.take (i + 1)) : Nat) : Int) := by
      rw [bitsV_or (by omega) (by omega), take_snoc hi', setOf_snoc, ha, Int.toNat_natCast]
    rw [ha] at hneg hbig
    simp (maxSteps := 2000000) only [s74, ↓aw_region, ↓aw_skip, ↓aw_seq, ↓aw_block, ↓aw_exit, ↓aw_ret, ↓sops_nil, ↓sops_go, ↓dops_nil, ↓dopsX_nil, ↓dopsR_nil, ↓vdn, vup, extr_20, extr_21, extr_30, extr_31, extr_32, List.map_cons, List.map_nil, cond_true, cond_false, aop, aThen, aBlock, argEnv, ev, sput, sputO, binK, binI, unK, builtinK, pickK, Nat.reduceBEq, Nat.reduceAdd, Int.reduceBEq, Int.reduceBNe, Int.reduceLT, aPost, resK, tup, tyf, l74_0, hin, hc.idx el_22 esz_3 hi', hc.load shp_3 hi', ha, hneg, hv.len, ge_iff_le, hbig, hnn, shlI1 (show a ≤ 62 by omega), hor, add1 (show i < 9223372036854775807 by omega)]
    refine hQ2 _ _ _ ⟨i + 1, ⟨by omega, fun k hk => ?_⟩, by omega, by simp (maxSteps := 2000000) only [↓aw_region, ↓aw_skip, ↓aw_seq, ↓aw_block, ↓aw_exit, ↓aw_ret, ↓sops_nil, ↓sops_go, ↓dops_nil, ↓dopsX_nil, ↓dopsR_nil, ↓vdn, vup, extr_20, extr_21, extr_30, extr_31, extr_32, List.map_cons, List.map_nil, cond_true, cond_false, aop, aThen, aBlock, argEnv, ev, sput, sputO, binK, binI, unK, builtinK, pickK, Nat.reduceBEq, Nat.reduceAdd, Int.reduceBEq, Int.reduceBNe, Int.reduceLT, aPost, resK, tup, tyf], rfl⟩
    by_cases hki : k = i
    · subst hki; exact ⟨by omega, by omega⟩
    · exact hok k (by omega)
  · obtain rfl : i = os.length := by omega
    simp (maxSteps := 2000000) only [s74, ↓aw_region, ↓aw_skip, ↓aw_seq, ↓aw_block, ↓aw_exit, ↓aw_ret, ↓sops_nil, ↓sops_go, ↓dops_nil, ↓dopsX_nil, ↓dopsR_nil, ↓vdn, vup, extr_20, extr_21, extr_30, extr_31, extr_32, List.map_cons, List.map_nil, cond_true, cond_false, aop, aThen, aBlock, argEnv, ev, sput, sputO, binK, binI, unK, builtinK, pickK, Nat.reduceBEq, Nat.reduceAdd, Int.reduceBEq, Int.reduceBNe, Int.reduceLT, aPost, resK, tup, tyf, l74_0, Int.lt_irrefl]
    refine hQ2 _ _ _ (hQ _ _ _ ?_)
    simp (maxSteps := 2000000) only [s74, ↓aw_region, ↓aw_skip, ↓aw_seq, ↓aw_block, ↓aw_exit, ↓aw_ret, ↓sops_nil, ↓sops_go, ↓dops_nil, ↓dopsX_nil, ↓dopsR_nil, ↓vdn, vup, extr_20, extr_21, extr_30, extr_31, extr_32, List.map_cons, List.map_nil, cond_true, cond_false, aop, aThen, aBlock, argEnv, ev, sput, sputO, binK, binI, unK, builtinK, pickK, Nat.reduceBEq, Nat.reduceAdd, Int.reduceBEq, Int.reduceBNe, Int.reduceLT, aPost, resK, tup, tyf, if_true]
    rw [List.take_length] at hs ⊢
    refine hZ [(0, v), (1, cv), (4, .bool false), (5, vint (setOf os : Nat))] _ _ ?_ (by simp (maxSteps := 2000000) only [↓aw_region, ↓aw_skip, ↓aw_seq, ↓aw_block, ↓aw_exit, ↓aw_ret, ↓sops_nil, ↓sops_go, ↓dops_nil, ↓dopsX_nil, ↓dopsR_nil, ↓vdn, vup, extr_20, extr_21, extr_30, extr_31, extr_32, List.map_cons, List.map_nil, cond_true, cond_false, aop, aThen, aBlock, argEnv, ev, sput, sputO, binK, binI, unK, builtinK, pickK, Nat.reduceBEq, Nat.reduceAdd, Int.reduceBEq, Int.reduceBNe, Int.reduceLT, aPost, resK, tup, tyf])
    clear hZ
    try clear Z
    have ho := ord_iff hl8 hok
    refine aw_aws ?_
    cases hle : (os.length == xs.length) with
    | false =>
      rw [decide_eq_false (beq_eq_false_iff_ne.1 hle), Bool.false_and] at ho
      simp (maxSteps := 2000000) only [s74, ↓aw_region, ↓aw_skip, ↓aw_seq, ↓aw_block, ↓aw_exit, ↓aw_ret, ↓sops_nil, ↓sops_go, ↓dops_nil, ↓dopsX_nil, ↓dopsR_nil, ↓vdn, vup, extr_20, extr_21, extr_30, extr_31, extr_32, List.map_cons, List.map_nil, cond_true, cond_false, aop, aThen, aBlock, argEnv, ev, sput, sputO, binK, binI, unK, builtinK, pickK, Nat.reduceBEq, Nat.reduceAdd, Int.reduceBEq, Int.reduceBNe, Int.reduceLT, aPost, resK, tup, tyf, hc.len, hv.len, beqN, hle, ho]
    | true =>
      rw [decide_eq_true (beq_iff_eq.1 hle), Bool.true_and] at ho
      have he : (setOf os == 2 ^ xs.length - 1) = isOrd xs.length os := by rw [ho, Bool.eq_iff_iff, beq_iff_eq, decide_eq_true_eq]
      simp (maxSteps := 2000000) only [s74, ↓aw_region, ↓aw_skip, ↓aw_seq, ↓aw_block, ↓aw_exit, ↓aw_ret, ↓sops_nil, ↓sops_go, ↓dops_nil, ↓dopsX_nil, ↓dopsR_nil, ↓vdn, vup, extr_20, extr_21, extr_30, extr_31, extr_32, List.map_cons, List.map_nil, cond_true, cond_false, aop, aThen, aBlock, argEnv, ev, sput, sputO, binK, binI, unK, builtinK, pickK, Nat.reduceBEq, Nat.reduceAdd, Int.reduceBEq, Int.reduceBNe, Int.reduceLT, aPost, resK, tup, tyf, callK, List.nil_append, List.append_nil, List.toList_toArray, List.cons_append, hc.len, hv.len, beqN, hle]
      refine (all_call hv hl8).mono ?_
      rintro _ h ⟨rfl, rfl⟩
      simp (maxSteps := 2000000) only [s74, ↓aw_region, ↓aw_skip, ↓aw_seq, ↓aw_block, ↓aw_exit, ↓aw_ret, ↓sops_nil, ↓sops_go, ↓dops_nil, ↓dopsX_nil, ↓dopsR_nil, ↓vdn, vup, extr_20, extr_21, extr_30, extr_31, extr_32, List.map_cons, List.map_nil, cond_true, cond_false, aop, aThen, aBlock, argEnv, ev, sput, sputO, binK, binI, unK, builtinK, pickK, Nat.reduceBEq, Nat.reduceAdd, Int.reduceBEq, Int.reduceBNe, Int.reduceLT, aPost, resK, tup, tyf, beqN, he]

theorem agTo_rng {xs os : List Int} (h : isOrd xs.length os = true) {i : Nat} (hi : i < os.length) : ∃ a : Nat, os.getD i 0 = (a : Int) ∧ a < xs.length := by
  obtain ⟨p, q⟩ := ((ord_rng h).2 i hi).1
  exact ⟨(os.getD i 0).toNat, by omega, by omega⟩
theorem setOf_lt8 {xs os : List Int} (h : isOrd xs.length os = true) {i : Nat} (hi : i ≤ os.length) : setOf (os.take i) < 2 ^ xs.length :=
  setOf_lt' i hi fun k hk => ((ord_rng h).2 k (by omega)).1

theorem s37_callW [Tabs Tryd.prog] {args : List Value} {h : Heap} {Q : Value → Heap → Prop} (hsz : args.length ≤ 42) (hk : AWS Tryd.prog 42 s37 (aPost Tryd.prog [.tmp 4, .tmp 5] Q) (argEnv 0 args) h) : ACall Tryd.prog 37 args h Q :=
  acall_w Tryd.func37 rfl (enters_of Tryd.func37 (by kernel_rfl) rfl) rfl rfl (by decide) s37_strip s37_ok hsz hk
theorem against_call [Tabs prog] {h : Heap} {v cv : Value} {xs os : List Int} (hv : IntSl h v xs) (hl : xs.length < 9223372036854775808) (hx : ∀ x ∈ xs, -9223372036854775808 ≤ x ∧ x < 9223372036854775808) (hc : IntSl h cv os) (hcl : os.length < 9223372036854775808)
    (hcx : ∀ x ∈ os, -9223372036854775808 ≤ x ∧ x < 9223372036854775808) :
    APure prog 37 [v, cv] h (if trn xs = true ∧ isOrd xs.length os = true then .tuple #[vint (agTo xs os os.length : Nat), .int .i64 0] else .tuple #[.int .i64 0, .int .i64 2]) := by
  have hnn : ∀ i : Nat, (0 : Int) ≤ (i : Int) := Int.natCast_nonneg
  refine s37_callW (by simp) ?_
  simp only [s37]
  refine aws_cut fun N3 hN3 => ?_
  simp (maxSteps := 2000000) only [s37, ↓aw_region, ↓aw_skip, ↓aw_seq, ↓aw_block, ↓aw_exit, ↓aw_ret, ↓sops_nil, ↓sops_go, ↓dops_nil, ↓dopsX_nil, ↓dopsR_nil, ↓vdn, vup, extr_20, extr_21, extr_30, extr_31, extr_32, List.map_cons, List.map_nil, cond_true, cond_false, aop, aThen, aBlock, argEnv, ev, sput, sputO, binK, binI, unK, builtinK, pickK, Nat.reduceBEq, Nat.reduceAdd, Int.reduceBEq, Int.reduceBNe, Int.reduceLT, aPost, resK, tup, tyf]
  refine hN3 [(0, v), (1, cv), (4, .int .i64 0), (5, .int .i64 0)] _ _ ?_ (by simp (maxSteps := 2000000) only [↓aw_region, ↓aw_skip, ↓aw_seq, ↓aw_block, ↓aw_exit, ↓aw_ret, ↓sops_nil, ↓sops_go, ↓dops_nil, ↓dopsX_nil, ↓dopsR_nil, ↓vdn, vup, extr_20, extr_21, extr_30, extr_31, extr_32, List.map_cons, List.map_nil, cond_true, cond_false, aop, aThen, aBlock, argEnv, ev, sput, sputO, binK, binI, unK, builtinK, pickK, Nat.reduceBEq, Nat.reduceAdd, Int.reduceBEq, Int.reduceBNe, Int.reduceLT, aPost, resK, tup, tyf])
  clear hN3
  try clear N3
  refine aws_cut fun N4 hN4 => ?_
  simp (maxSteps := 2000000) only [s37, ↓aw_region, ↓aw_skip, ↓aw_seq, ↓aw_block, ↓aw_exit, ↓aw_ret, ↓sops_nil, ↓sops_go, ↓dops_nil, ↓dopsX_nil, ↓dopsR_nil, ↓vdn, vup, extr_20, extr_21, extr_30, extr_31, extr_32, List.map_cons, List.map_nil, cond_true, cond_false, aop, aThen, aBlock, argEnv, ev, sput, sputO, binK, binI, unK, builtinK, pickK, Nat.reduceBEq, Nat.reduceAdd, Int.reduceBEq, Int.reduceBNe, Int.reduceLT, aPost, resK, tup, tyf]
  refine hN4 [(0, v), (1, cv), (4, .int .i64 0), (5, .int .i64 0), (6, v)] _ _ ?_ (by simp (maxSteps := 2000000) only [↓aw_region, ↓aw_skip, ↓aw_seq, ↓aw_block, ↓aw_exit, ↓aw_ret, ↓sops_nil, ↓sops_go, ↓dops_nil, ↓dopsX_nil, ↓dopsR_nil, ↓vdn, vup, extr_20, extr_21, extr_30, extr_31, extr_32, List.map_cons, List.map_nil, cond_true, cond_false, aop, aThen, aBlock, argEnv, ev, sput, sputO, binK, binI, unK, builtinK, pickK, Nat.reduceBEq, Nat.reduceAdd, Int.reduceBEq, Int.reduceBNe, Int.reduceLT, aPost, resK, tup, tyf])
  clear hN4
  try clear N4
  refine aws_cut fun N5 hN5 => ?_
  simp (maxSteps := 2000000) only [s37, ↓aw_region, ↓aw_skip, ↓aw_seq, ↓aw_block, ↓aw_exit, ↓aw_ret, ↓sops_nil, ↓sops_go, ↓dops_nil, ↓dopsX_nil, ↓dopsR_nil, ↓vdn, vup, extr_20, extr_21, extr_30, extr_31, extr_32, List.map_cons, List.map_nil, cond_true, cond_false, aop, aThen, aBlock, argEnv, ev, sput, sputO, binK, binI, unK, builtinK, pickK, Nat.reduceBEq, Nat.reduceAdd, Int.reduceBEq, Int.reduceBNe, Int.reduceLT, aPost, resK, tup, tyf, callK, List.nil_append, List.append_nil, List.toList_toArray, List.cons_append]
  refine (valid_call hv hl hx).mono ?_
  rintro _ h ⟨rfl, rfl⟩
  cases ht : trn xs with
  | false =>
    simp (maxSteps := 2000000) only [s37, ↓aw_region, ↓aw_skip, ↓aw_seq, ↓aw_block, ↓aw_exit, ↓aw_ret, ↓sops_nil, ↓sops_go, ↓dops_nil, ↓dopsX_nil, ↓dopsR_nil, ↓vdn, vup, extr_20, extr_21, extr_30, extr_31, extr_32, List.map_cons, List.map_nil, cond_true, cond_false, aop, aThen, aBlock, argEnv, ev, sput, sputO, binK, binI, unK, builtinK, pickK, Nat.reduceBEq, Nat.reduceAdd, Int.reduceBEq, Int.reduceBNe, Int.reduceLT, aPost, resK, tup, tyf, Bool.not_false]
    simp
  | true =>
  have hxl : 1 ≤ xs.length ∧ xs.length ≤ 8 := by simp only [trn, Bool.and_eq_true, decide_eq_true_eq] at ht; omega
  have h256 := pow8N hxl.2
  simp (maxSteps := 2000000) only [s37, ↓aw_region, ↓aw_skip, ↓aw_seq, ↓aw_block, ↓aw_exit, ↓aw_ret, ↓sops_nil, ↓sops_go, ↓dops_nil, ↓dopsX_nil, ↓dopsR_nil, ↓vdn, vup, extr_20, extr_21, extr_30, extr_31, extr_32, List.map_cons, List.map_nil, cond_true, cond_false, aop, aThen, aBlock, argEnv, ev, sput, sputO, binK, binI, unK, builtinK, pickK, Nat.reduceBEq, Nat.reduceAdd, Int.reduceBEq, Int.reduceBNe, Int.reduceLT, aPost, resK, tup, tyf, callK, List.nil_append, List.append_nil, List.toList_toArray, List.cons_append, Bool.not_true]
  refine (isOrder_call hv hxl.2 hc hcl hcx).mono ?_
  rintro _ h ⟨rfl, rfl⟩
  cases hio : isOrd xs.length os with
  | false =>
    simp (maxSteps := 2000000) only [s37, ↓aw_region, ↓aw_skip, ↓aw_seq, ↓aw_block, ↓aw_exit, ↓aw_ret, ↓sops_nil, ↓sops_go, ↓dops_nil, ↓dopsX_nil, ↓dopsR_nil, ↓vdn, vup, extr_20, extr_21, extr_30, extr_31, extr_32, List.map_cons, List.map_nil, cond_true, cond_false, aop, aThen, aBlock, argEnv, ev, sput, sputO, binK, binI, unK, builtinK, pickK, Nat.reduceBEq, Nat.reduceAdd, Int.reduceBEq, Int.reduceBNe, Int.reduceLT, aPost, resK, tup, tyf, Bool.not_false]
    simp
  | true =>
  simp (maxSteps := 2000000) only [s37, ↓aw_region, ↓aw_skip, ↓aw_seq, ↓aw_block, ↓aw_exit, ↓aw_ret, ↓sops_nil, ↓sops_go, ↓dops_nil, ↓dopsX_nil, ↓dopsR_nil, ↓vdn, vup, extr_20, extr_21, extr_30, extr_31, extr_32, List.map_cons, List.map_nil, cond_true, cond_false, aop, aThen, aBlock, argEnv, ev, sput, sputO, binK, binI, unK, builtinK, pickK, Nat.reduceBEq, Nat.reduceAdd, Int.reduceBEq, Int.reduceBNe, Int.reduceLT, aPost, resK, tup, tyf, Bool.not_true]
  refine hN5 [(0, v), (1, cv), (4, .int .i64 0), (5, .int .i64 0), (6, v)] _ _ ?_ (by simp (maxSteps := 2000000) only [↓aw_region, ↓aw_skip, ↓aw_seq, ↓aw_block, ↓aw_exit, ↓aw_ret, ↓sops_nil, ↓sops_go, ↓dops_nil, ↓dopsX_nil, ↓dopsR_nil, ↓vdn, vup, extr_20, extr_21, extr_30, extr_31, extr_32, List.map_cons, List.map_nil, cond_true, cond_false, aop, aThen, aBlock, argEnv, ev, sput, sputO, binK, binI, unK, builtinK, pickK, Nat.reduceBEq, Nat.reduceAdd, Int.reduceBEq, Int.reduceBNe, Int.reduceLT, aPost, resK, tup, tyf])
  clear hN5
  try clear N5
  have hol := (ord_rng hio).1
  refine aws_cut fun N6 hN6 => ?_
  simp (maxSteps := 2000000) only [s37, ↓aw_region, ↓aw_skip, ↓aw_seq, ↓aw_block, ↓aw_exit, ↓aw_ret, ↓sops_nil, ↓sops_go, ↓dops_nil, ↓dopsX_nil, ↓dopsR_nil, ↓vdn, vup, extr_20, extr_21, extr_30, extr_31, extr_32, List.map_cons, List.map_nil, cond_true, cond_false, aop, aThen, aBlock, argEnv, ev, sput, sputO, binK, binI, unK, builtinK, pickK, Nat.reduceBEq, Nat.reduceAdd, Int.reduceBEq, Int.reduceBNe, Int.reduceLT, aPost, resK, tup, tyf]
  refine hN6 [(0, v), (1, cv), (4, .int .i64 0), (5, .int .i64 0), (6, v), (7, .int .i64 0), (8, .int .i64 0)] _ _ ?_ (by simp (maxSteps := 2000000) only [↓aw_region, ↓aw_skip, ↓aw_seq, ↓aw_block, ↓aw_exit, ↓aw_ret, ↓sops_nil, ↓sops_go, ↓dops_nil, ↓dopsX_nil, ↓dopsR_nil, ↓vdn, vup, extr_20, extr_21, extr_30, extr_31, extr_32, List.map_cons, List.map_nil, cond_true, cond_false, aop, aThen, aBlock, argEnv, ev, sput, sputO, binK, binI, unK, builtinK, pickK, Nat.reduceBEq, Nat.reduceAdd, Int.reduceBEq, Int.reduceBNe, Int.reduceLT, aPost, resK, tup, tyf])
  clear hN6
  try clear N6
  refine aws_cut fun Z hZ => ?_
  simp (maxSteps := 2000000) only [s37, ↓aw_region, ↓aw_skip, ↓aw_seq, ↓aw_block, ↓aw_exit, ↓aw_ret, ↓sops_nil, ↓sops_go, ↓dops_nil, ↓dopsX_nil, ↓dopsR_nil, ↓vdn, vup, extr_20, extr_21, extr_30, extr_31, extr_32, List.map_cons, List.map_nil, cond_true, cond_false, aop, aThen, aBlock, argEnv, ev, sput, sputO, binK, binI, unK, builtinK, pickK, Nat.reduceBEq, Nat.reduceAdd, Int.reduceBEq, Int.reduceBNe, Int.reduceLT, aPost, resK, tup, tyf, hc.len, ↓aw_loop_eq]
  refine aws_hide fun Q hQ => ?_
  refine aw_loop (γ := Nat) (fun i => i ≤ os.length)
    (fun i => ([(0, v), (1, cv), (4, .int .i64 0), (5, .int .i64 0), (6, v), (7, vint (agTo xs os i : Nat)), (8, vint (setOf (os.take i) : Nat)), (21, cv), (22, vint os.length), (23, vint i)], h)) (fun i => os.length - i) 0 (Nat.zero_le _) (by simp (maxSteps := 2000000) only [↓aw_region, ↓aw_skip, ↓aw_seq, ↓aw_block, ↓aw_exit, ↓aw_ret, ↓sops_nil, ↓sops_go, ↓dops_nil, ↓dopsX_nil, ↓dopsR_nil, ↓vdn, vup, extr_20, extr_21, extr_30, extr_31, extr_32, List.map_cons, List.map_nil, cond_true, cond_false, aop, aThen, aBlock, argEnv, ev, sput, sputO, binK, binI, unK, builtinK, pickK, Nat.reduceBEq, Nat.reduceAdd, Int.reduceBEq, Int.reduceBNe, Int.reduceLT, aPost, resK, tup, tyf, Int.natCast_zero, List.take_zero, setOf, List.foldl_nil, agTo]) rfl ?_
  intro i hi
  refine aw_hide fun Q2 hQ2 => ?_
  by_cases hin : (i : Int) < os.length
  · have hi' : i < os.length := by omega
    obtain ⟨a, ha, hax⟩ := agTo_rng hio hi'
    have hs := setOf_lt8 hio hi
    obtain ⟨hX, hXl⟩ := trn_nat ht hax
    have p2 : 2 ^ a ≤ 2 ^ 8 := Nat.pow_le_pow_right (by decide) (by omega)
    have hor : bitsV .or .i64 ((setOf (os.take i) : Nat) : Int) ((2 ^ a : Nat) : Int) = ((setOf (os.take (i + 1)) : Nat) : Int) := by
      rw [bitsV_or (by omega) (by omega), take_snoc hi', setOf_snoc, ha, Int.toNat_natCast]
    have hand : bitsV .and .i64 (xs.getD a 0) ((setOf (os.take i) : Nat) : Int) = (((xs.getD a 0).toNat &&& setOf (os.take i) : Nat) : Int) := by
      have := bitsV_and (a := (xs.getD a 0).toNat) (b := setOf (os.take i)) (by omega) (by omega)
      rw [← hX] at this; exact this
    have hal : (xs.getD a 0).toNat &&& setOf (os.take i) < 256 := Nat.lt_of_le_of_lt Nat.and_le_right (by omega)
    have hag := agTo_le hxl.2 (fun k hk => ((ord_rng hio).2 k hk).1) i hi
    have hcl8 : (Am.bits ((xs.getD a 0).toNat &&& setOf (os.take i))).length ≤ 64 := by
      rw [bitsLen]
      have := List.countP_le_length (p := ((xs.getD a 0).toNat &&& setOf (os.take i)).testBit) (l := List.range 64)
      rw [List.length_range] at this; exact this
    have hadd : addV .i64 ((agTo xs os i : Nat) : Int) (((Am.bits ((xs.getD a 0).toNat &&& setOf (os.take i))).length : Nat) : Int) = ((agTo xs os (i + 1) : Nat) : Int) := by
      rw [addV_id (by omega) (by omega), agTo, cst, ha, Int.toNat_natCast]; omega
    simp (maxSteps := 2000000) only [s37, ↓aw_region, ↓aw_skip, ↓aw_seq, ↓aw_block, ↓aw_exit, ↓aw_ret, ↓sops_nil, ↓sops_go, ↓dops_nil, ↓dopsX_nil, ↓dopsR_nil, ↓vdn, vup, extr_20, extr_21, extr_30, extr_31, extr_32, List.map_cons, List.map_nil, cond_true, cond_false, aop, aThen, aBlock, argEnv, ev, sput, sputO, binK, binI, unK, builtinK, pickK, Nat.reduceBEq, Nat.reduceAdd, Int.reduceBEq, Int.reduceBNe, Int.reduceLT, aPost, resK, tup, tyf, callK, List.nil_append, List.append_nil, List.toList_toArray, List.cons_append, l37_0, hin, hc.idx el_22 esz_3 hi', hc.load shp_3 hi', ha, hv.idx el_22 esz_3 hax, hv.load shp_3 hax, hand]
    refine (count_call hal).mono ?_
    rintro _ h ⟨rfl, rfl⟩
    simp (maxSteps := 2000000) only [s37, ↓aw_region, ↓aw_skip, ↓aw_seq, ↓aw_block, ↓aw_exit, ↓aw_ret, ↓sops_nil, ↓sops_go, ↓dops_nil, ↓dopsX_nil, ↓dopsR_nil, ↓vdn, vup, extr_20, extr_21, extr_30, extr_31, extr_32, List.map_cons, List.map_nil, cond_true, cond_false, aop, aThen, aBlock, argEnv, ev, sput, sputO, binK, binI, unK, builtinK, pickK, Nat.reduceBEq, Nat.reduceAdd, Int.reduceBEq, Int.reduceBNe, Int.reduceLT, aPost, resK, tup, tyf, hadd, hnn, shlI1 (show a ≤ 62 by omega), hor, add1 (show i < 9223372036854775807 by omega)]
    exact hQ2 _ _ _ ⟨i + 1, by omega, by omega, by simp (maxSteps := 2000000) only [↓aw_region, ↓aw_skip, ↓aw_seq, ↓aw_block, ↓aw_exit, ↓aw_ret, ↓sops_nil, ↓sops_go, ↓dops_nil, ↓dopsX_nil, ↓dopsR_nil, ↓vdn, vup, extr_20, extr_21, extr_30, extr_31, extr_32, List.map_cons, List.map_nil, cond_true, cond_false, aop, aThen, aBlock, argEnv, ev, sput, sputO, binK, binI, unK, builtinK, pickK, Nat.reduceBEq, Nat.reduceAdd, Int.reduceBEq, Int.reduceBNe, Int.reduceLT, aPost, resK, tup, tyf], rfl⟩
  · obtain rfl : i = os.length := by omega
    simp (maxSteps := 2000000) only [s37, ↓aw_region, ↓aw_skip, ↓aw_seq, ↓aw_block, ↓aw_exit, ↓aw_ret, ↓sops_nil, ↓sops_go, ↓dops_nil, ↓dopsX_nil, ↓dopsR_nil, ↓vdn, vup, extr_20, extr_21, extr_30, extr_31, extr_32, List.map_cons, List.map_nil, cond_true, cond_false, aop, aThen, aBlock, argEnv, ev, sput, sputO, binK, binI, unK, builtinK, pickK, Nat.reduceBEq, Nat.reduceAdd, Int.reduceBEq, Int.reduceBNe, Int.reduceLT, aPost, resK, tup, tyf, l37_0, Int.lt_irrefl]
    refine hQ2 _ _ _ (hQ _ _ _ ?_)
    simp (maxSteps := 2000000) only [s37, ↓aw_region, ↓aw_skip, ↓aw_seq, ↓aw_block, ↓aw_exit, ↓aw_ret, ↓sops_nil, ↓sops_go, ↓dops_nil, ↓dopsX_nil, ↓dopsR_nil, ↓vdn, vup, extr_20, extr_21, extr_30, extr_31, extr_32, List.map_cons, List.map_nil, cond_true, cond_false, aop, aThen, aBlock, argEnv, ev, sput, sputO, binK, binI, unK, builtinK, pickK, Nat.reduceBEq, Nat.reduceAdd, Int.reduceBEq, Int.reduceBNe, Int.reduceLT, aPost, resK, tup, tyf, if_true]
    refine hZ [(7, vint (agTo xs os os.length : Nat))] _ _ ?_ (by simp (maxSteps := 2000000) only [↓aw_region, ↓aw_skip, ↓aw_seq, ↓aw_block, ↓aw_exit, ↓aw_ret, ↓sops_nil, ↓sops_go, ↓dops_nil, ↓dopsX_nil, ↓dopsR_nil, ↓vdn, vup, extr_20, extr_21, extr_30, extr_31, extr_32, List.map_cons, List.map_nil, cond_true, cond_false, aop, aThen, aBlock, argEnv, ev, sput, sputO, binK, binI, unK, builtinK, pickK, Nat.reduceBEq, Nat.reduceAdd, Int.reduceBEq, Int.reduceBNe, Int.reduceLT, aPost, resK, tup, tyf])
    clear hZ
    try clear Z
    refine aw_aws ?_
    simp (maxSteps := 2000000) only [s37, ↓aw_region, ↓aw_skip, ↓aw_seq, ↓aw_block, ↓aw_exit, ↓aw_ret, ↓sops_nil, ↓sops_go, ↓dops_nil, ↓dopsX_nil, ↓dopsR_nil, ↓vdn, vup, extr_20, extr_21, extr_30, extr_31, extr_32, List.map_cons, List.map_nil, cond_true, cond_false, aop, aThen, aBlock, argEnv, ev, sput, sputO, binK, binI, unK, builtinK, pickK, Nat.reduceBEq, Nat.reduceAdd, Int.reduceBEq, Int.reduceBNe, Int.reduceLT, aPost, resK, tup, tyf]
    simp [ht, hio]

end Go.Proofs.Tryd.Am

namespace Go.Proofs.Tryd.Am
open Go.Am Redei Rb
set_option maxRecDepth 100000
set_option maxHeartbeats 1000000

theorem setLast (g : Heap) (B C : Blk) : (g ++ [B]).set g.length C = g ++ [C] := by rw [List.set_append_right _ _ (Nat.le_refl _), Nat.sub_self]; rfl
abbrev pt (b : Nat) : Value := .pointer (some ⟨b, 0, none⟩)
abbrev iL (L : List Nat) : List Int := L.map Int.ofNat
theorem iL_len (L : List Nat) : (iL L).length = L.length := by simp
theorem iL_snoc (L : List Nat) (i : Nat) : iL L ++ [(i : Int)] = iL (L ++ [i]) := by simp [iL]
/-- The two boxes of the search. -/
structure BO (h : Heap) (bb bo : Nat) (st : Nat × List Nat) : Prop where
  b : h[bb]? = some (.cells [vint st.1] 3 false)
  o : ∃ ov, h[bo]? = some (.cells [ov] 22 false) ∧ OwnSl 3 h ov (iL st.2)
  ne : bb ≠ bo
abbrev EB (bb bo : Nat) : Heap → Heap → Prop := Ext fun i => i = bb ∨ i = bo
theorem own_ne {h : Heap} {v : Value} {xs : List Int} (ho : OwnSl 3 h v xs) {b : Nat} {c : List Value} {e : TypeId} (hb : h[b]? = some (.cells c e false)) : blkOf v ≠ some b := fun hv => by
  obtain ⟨ys, h1⟩ := ho.ints hv
  rw [hb] at h1; cases h1
theorem BO.own {h h' : Heap} {bb bo : Nat} {st : Nat × List Nat} (B : BO h bb bo st) {v : Value} {xs : List Int} (ho : OwnSl 3 h v xs) (hE : EB bb bo h h') : OwnSl 3 h' v xs := by
  obtain ⟨ov, h1, _⟩ := B.o
  refine ho.ext hE fun b hb hx => ?_
  rcases hx with rfl | rfl
  · exact own_ne ho B.b hb
  · exact own_ne ho h1 hb
theorem BO.ext {h h' : Heap} {bb bo : Nat} {st : Nat × List Nat} (B : BO h bb bo st) (hE : Ext (fun _ => False) h h') : BO h' bb bo st := by
  obtain ⟨ov, h1, h2⟩ := B.o
  exact ⟨(hE.2 _ (get_lt B.b) id).trans B.b, ⟨ov, (hE.2 _ (get_lt h1) id).trans h1, h2.ext hE fun _ _ => id⟩, B.ne⟩
theorem own_one {h : Heap} {v : Value} {xs : List Int} (ho : OwnSl 3 h v xs) : one v = true := ho.notI.2

theorem litI1 {h : Heap} {x : Int} (K : Value → Heap → Prop) : buildSliceK prog h 22 1 [(0, vint x)] K = K (.slice (some ⟨h.length, 0, none⟩) 1 1) (h ++ [.ints [x] 3 false]) := by
  simp only [buildSliceK, el_22, zero_3, esz_3, reps, fillL, mkb, intsOf, notTuple, cellsOf, List.length_singleton, Nat.mul_one, Nat.zero_mul, Nat.zero_add]
  exact propext ⟨fun h => h.2.2.2, fun h => ⟨trivial, by decide, by decide, h⟩⟩
end Go.Proofs.Tryd.Am

namespace Go.Proofs.Tryd.Am
open Go.Am Rb
set_option maxRecDepth 100000
set_option maxHeartbeats 1000000

abbrev nl (os : List Int) : List Nat := os.map Int.toNat
theorem setOf_nl (os : List Int) : setOf os = Clr.setL (nl os) := by rw [setOf, Clr.setL, nl, List.foldl_map]
theorem setOf_bit (os : List Int) (w : Nat) : (setOf os).testBit w = true ↔ w ∈ nl os := by rw [setOf_nl]; exact Clr.setL_bit _ _
theorem isOrd_iff {n : Nat} {os : List Int} : isOrd n os = true ↔ os.length = n ∧ (∀ x ∈ os, 0 ≤ x ∧ x < n) ∧ (nl os).Nodup := by
  have gd : ∀ {k : Nat} (hk : k < os.length), os.getD k 0 = os[k] := fun {k} hk => by rw [List.getD, List.getElem?_eq_getElem hk, Option.getD_some]
  rw [isOrd, Bool.and_eq_true, List.all_eq_true, decide_eq_true_eq]
  constructor
  · rintro ⟨h1, h2⟩
    have h3 : ∀ k, (hk : k < os.length) → (0 ≤ os[k] ∧ os[k] < n) ∧ (os[k].toNat ∉ nl (os.take k)) := fun k hk => by
      have := h1 k (List.mem_range.2 hk)
      rw [newAt, gd hk] at this
      simp only [Bool.and_eq_true, decide_eq_true_eq, Bool.not_eq_true'] at this
      refine ⟨this.1, fun h => ?_⟩
      rw [(setOf_bit _ _).2 h] at this
      exact absurd this.2 (by decide)
    refine ⟨h2, fun x hx => ?_, ?_⟩
    · obtain ⟨k, hk, rfl⟩ := List.getElem_of_mem hx
      exact (h3 k hk).1
    · refine List.pairwise_iff_getElem.2 fun i j hi hj hij e => ?_
      have hi' : i < os.length := by simpa using hi
      have hj' : j < os.length := by simpa using hj
      refine (h3 j hj').2 ?_
      rw [List.getElem_map, List.getElem_map] at e
      rw [← e]
      refine List.mem_map.2 ⟨os[i], ?_, rfl⟩
      have hit : i < (os.take j).length := by rw [List.length_take]; omega
      have : (os.take j)[i] = os[i] := by rw [List.getElem_take]
      rw [← this]; exact List.getElem_mem _
  · rintro ⟨h1, h2, h3⟩
    refine ⟨fun k hk => ?_, h1⟩
    have hk := List.mem_range.1 hk
    rw [newAt, gd hk]
    have := h2 os[k] (List.getElem_mem _)
    have hno : (setOf (os.take k)).testBit os[k].toNat = false := by
      rw [Bool.eq_false_iff]
      intro h
      obtain ⟨x, hx, e⟩ := List.mem_map.1 ((setOf_bit _ _).1 h)
      obtain ⟨i, hi, rfl⟩ := List.getElem_of_mem hx
      rw [List.getElem_take] at e
      have hik : i < k := by rw [List.length_take] at hi; omega
      have := (List.pairwise_iff_getElem.1 h3) i k (by rw [List.length_map]; omega) (by rw [List.length_map]; omega) hik
      rw [List.getElem_map, List.getElem_map] at this
      exact this e
    rw [decide_eq_true this.1, decide_eq_true this.2, hno]; rfl
theorem cst_count {xs : List Int} (i : Nat) {l : List Nat} (hd : l.Nodup) (hl : ∀ x ∈ l, x < 64) : cst xs i (Clr.setL l) = l.countP (bb xs i) := by
  rw [cst, List.countP_eq_length_filter]
  refine (Clr.perm_of_nodup (Clr.bits_nodup _) (hd.filter _) fun x => ?_).length_eq
  rw [mem_bits, List.mem_filter, Nat.testBit_and, Bool.and_eq_true, Clr.setL_bit]
  constructor
  · rintro ⟨h1, h2, h3⟩; exact ⟨h3, h2⟩
  · rintro ⟨h1, h2⟩; exact ⟨hl x h1, h2, h1⟩
theorem agTo_back {xs os : List Int} (hn : xs.length ≤ 8) (h : isOrd xs.length os = true) : agTo xs os os.length = back (bb xs) [] (nl os) ∧ agTo xs os os.length = cost (cst xs) 0 (nl os) := by
  obtain ⟨h1, h2, h3⟩ := isOrd_iff.1 h
  have key : ∀ (l pre : List Int), pre ++ l = os → agTo xs os pre.length + back (bb xs) (nl pre) (nl l) = agTo xs os os.length ∧ agTo xs os pre.length + cost (cst xs) (setOf pre) (nl l) = agTo xs os os.length := by
    intro l
    induction l with
    | nil => intro pre e; rw [List.append_nil] at e; subst e; exact ⟨rfl, rfl⟩
    | cons x l ih =>
      intro pre e
      have := ih (pre ++ [x]) (by rw [← e]; simp)
      rw [List.length_append, List.length_singleton, agTo] at this
      have e1 : os.getD pre.length 0 = x := by rw [← e]; simp
      have e2 : os.take pre.length = pre := by rw [← e]; simp
      have hdp : (nl pre).Nodup := by
        rw [← e, nl, List.map_append] at h3
        exact (List.nodup_append.1 h3).1
      have hlt : ∀ y ∈ nl pre, y < 64 := fun y hy => by
        obtain ⟨z, hz, rfl⟩ := List.mem_map.1 hy
        have := h2 z (by rw [← e]; simp [hz])
        omega
      have e3 : cst xs x.toNat (setOf pre) = (nl pre).countP (bb xs x.toNat) := by rw [setOf_nl]; exact cst_count _ hdp hlt
      rw [e1, e2, setOf_snoc] at this
      rw [show nl (x :: l) = x.toNat :: nl l from rfl, back, cost]
      rw [show nl (pre ++ [x]) = nl pre ++ [x.toNat] by simp [nl]] at this
      rw [← e3]
      omega
  have := key os [] rfl
  rw [show ([] : List Int).length = 0 from rfl, agTo, Nat.zero_add, Nat.zero_add] at this
  exact ⟨this.1.symm, this.2.symm⟩
theorem nl_iL (l : List Nat) : nl (iL l) = l := by
  rw [nl, iL, List.map_map]
  exact (List.map_congr_left fun x _ => Int.toNat_natCast x).trans (List.map_id _)
theorem iL_ord {n : Nat} {l : List Nat} (h1 : l.length = n) (h2 : l.Nodup) (h3 : ∀ x ∈ l, x < n) : isOrd n (iL l) = true :=
  isOrd_iff.2 ⟨by rw [iL_len, h1], fun x hx => by
    obtain ⟨y, hy, rfl⟩ := List.mem_map.1 hx
    have := h3 y hy
    exact ⟨Int.natCast_nonneg _, Int.ofNat_lt.2 this⟩, by rw [nl_iL]; exact h2⟩
theorem fr_zero (n : Nat) : fr n 0 = List.range n := by
  rw [fr]
  exact List.filter_eq_self.2 fun x _ => by rw [Nat.zero_testBit]; rfl
/-- The best order: one, and none goes against fewer. -/
theorem gr_best {xs : List Int} (hn : xs.length ≤ 8) : isOrd xs.length (iL (gr (cst xs) xs.length xs.length 0)) = true ∧
    ∀ os, isOrd xs.length os = true → agTo xs (iL (gr (cst xs) xs.length xs.length 0)) (iL (gr (cst xs) xs.length xs.length 0)).length ≤ agTo xs os os.length := by
  obtain ⟨h1, h2, h3, h4⟩ := gr_ok (cst_few hn) hn xs.length 0 (Nat.two_pow_pos _) (by rw [fr_zero, List.length_range])
  have ho := iL_ord h1 h2 fun x hx => (mem_fr.1 (h3 x hx)).1
  refine ⟨ho, fun os h => ?_⟩
  obtain ⟨o1, o2, o3⟩ := isOrd_iff.1 h
  rw [(agTo_back hn ho).2, nl_iL, h4, (agTo_back hn h).2]
  have := rst_min (c := cst xs) (n := xs.length) (nl os) 0 o3 fun x hx => by
    obtain ⟨y, hy, rfl⟩ := List.mem_map.1 hx
    have := o2 y hy
    exact mem_fr.2 ⟨by omega, Nat.zero_testBit _⟩
  rw [List.length_map, o1] at this
  exact this
end Go.Proofs.Tryd.Am

namespace Go.Proofs.Tryd.Am
open Go.Am Rb
set_option maxRecDepth 100000
set_option maxHeartbeats 1000000

def hit (i j x y : Nat) : Bool := decide (x = i ∧ y = j) ^^ decide (x = j ∧ y = i)
theorem half_bb {t : List Int} {i j : Nat} (hi : i < t.length) (x y : Nat) : bb (half t i j) x y = (bb t x y ^^ decide (x = i ∧ y = j)) := by
  by_cases hx : x = i
  · subst hx
    have e : (half t x j).getD x 0 = xI (t.getD x 0) j := by rw [half, List.getD, List.getElem?_set_self hi]; rfl
    rw [bb, bb, bitI, bitI, e, xI, Int.toNat_natCast, Nat.testBit_xor, Nat.testBit_two_pow]
    congr 1
    exact decide_eq_decide.2 ⟨fun h => ⟨rfl, h.symm⟩, fun h => h.2.symm⟩
  · have e : (half t i j).getD x 0 = t.getD x 0 := by rw [half, List.getD, List.getElem?_set_ne (Ne.symm hx)]; rfl
    rw [bb, bb, e, decide_eq_false (fun h => hx h.1), Bool.xor_false]
theorem step_bb {t : List Int} {i j : Nat} (hi : i < t.length) (hj : j < t.length) (x y : Nat) : bb (stepT t ((i : Int), (j : Int))) x y = (bb t x y ^^ hit i j x y) := by
  rw [stepT, Int.toNat_natCast, Int.toNat_natCast, half_bb (by rw [half, List.length_set]; exact hj), half_bb hi, hit, Bool.xor_assoc]
def par (ps : List (Int × Int)) (x y : Nat) : Nat → Bool
  | 0 => false
  | k + 1 => par ps x y k ^^ hit (ps.getD k (0, 0)).1.toNat (ps.getD k (0, 0)).2.toNat x y
theorem turn_len (xs : List Int) (ps : List (Int × Int)) : ∀ k, (turnTo xs ps k).length = xs.length
  | 0 => rfl
  | k + 1 => by rw [turnTo, stepT, half, half, List.length_set, List.length_set, turn_len xs ps k]
theorem turn_bb {xs : List Int} {ps : List (Int × Int)} (x y : Nat) : ∀ k, (∀ i, i < k → okPr xs.length (ps.getD i (0, 0)) = true) → bb (turnTo xs ps k) x y = (bb xs x y ^^ par ps x y k)
  | 0, _ => by rw [turnTo, par, Bool.xor_false]
  | k + 1, h => by
    obtain ⟨i, j, hp, hij, hj⟩ := okPr_nat (h k (by omega))
    rw [turnTo, par, hp, step_bb (by rw [turn_len]; omega) (by rw [turn_len]; exact hj), turn_bb x y k fun i hi => h i (by omega), Bool.xor_assoc]
    rfl
theorem hit_comm (i j x y : Nat) : hit i j x y = hit i j y x := by
  rw [hit, hit, Bool.xor_comm]
  congr 1 <;> exact decide_eq_decide.2 ⟨fun h => ⟨h.2, h.1⟩, fun h => ⟨h.2, h.1⟩⟩
theorem trn_iff {xs : List Int} : trn xs = true ↔ (1 ≤ xs.length ∧ xs.length ≤ 8) ∧ ∀ i, i < xs.length → 0 ≤ xs.getD i 0 ∧ xs.getD i 0 < 2 ^ xs.length ∧ bb xs i i = false ∧ ∀ j, j < i → bb xs i j ≠ bb xs j i := by
  simp only [trn, okAt, Bool.and_eq_true, decide_eq_true_eq, List.all_eq_true, List.mem_range, Bool.not_eq_true', bne_iff_ne, bb, and_assoc]
theorem turn_trn {xs : List Int} {ps : List (Int × Int)} (ht : trn xs = true) {k : Nat} (h : ∀ i, i < k → okPr xs.length (ps.getD i (0, 0)) = true) : trn (turnTo xs ps k) = true := by
  have hl := trn_len ht
  have hb := fun x y => turn_bb (xs := xs) (ps := ps) x y k h
  have hsm := turn_sm (trn_sm ht) hl.2 k h
  have hpar : ∀ (x y : Nat) (m : Nat), m ≤ k → par ps x y m = par ps y x m := by
    intro x y m
    induction m with
    | zero => intro _; rfl
    | succ m ih => intro hm; rw [par, par, ih (by omega), hit_comm]
  have hself : ∀ (x : Nat) (m : Nat), m ≤ k → par ps x x m = false := by
    intro x m
    induction m with
    | zero => intro _; rfl
    | succ m ih =>
      intro hm
      obtain ⟨i, j, hp, hij, hj⟩ := okPr_nat (h m (by omega))
      rw [par, ih (by omega), hp, hit, decide_eq_false (fun e => by have := e.1; have := e.2; simp at *; omega), decide_eq_false (fun e => by have := e.1; have := e.2; simp at *; omega)]; rfl
  have h0 := trn_iff.1 ht
  refine trn_iff.2 ⟨by rw [turn_len]; exact hl, fun i hi => ?_⟩
  rw [turn_len] at hi ⊢
  obtain ⟨a1, a2, a3, a4⟩ := h0.2 i hi
  have hs := hsm.2 i hi
  refine ⟨hs.1, ?_, by rw [hb, a3, hself i k (Nat.le_refl _)]; rfl, fun j hj => ?_⟩
  · have hlt : ((turnTo xs ps k).getD i 0).toNat < 2 ^ xs.length := by
      refine Nat.lt_pow_two_of_testBit _ fun y hy => ?_
      have e := hb i y
      rw [bb, bitI] at e
      rw [e]
      have e1 : bb xs i y = false := by
        rw [bb, bitI]
        exact Nat.testBit_lt_two_pow (Nat.lt_of_lt_of_le (trn_nat ht hi).2 (Nat.pow_le_pow_right (by decide) hy))
      have e2 : ∀ m, m ≤ k → par ps i y m = false := by
        intro m
        induction m with
        | zero => intro _; rfl
        | succ m ih =>
          intro hm
          obtain ⟨a, c, hp, hac, hc⟩ := okPr_nat (h m (by omega))
          rw [par, ih (by omega), hp, hit, decide_eq_false (fun e => by have := e.2; simp at this; omega), decide_eq_false (fun e => by have := e.2; simp at this; omega)]; rfl
      rw [e1, e2 k (Nat.le_refl _)]; rfl
    have e5 : ((2 ^ xs.length : Nat) : Int) = (2 : Int) ^ xs.length := by simp
    rw [← e5]
    generalize 2 ^ xs.length = m at hlt
    omega
  · rw [hb, hb, hpar j i k (Nat.le_refl _)]
    intro e
    exact a4 j hj (by revert e; cases bb xs i j <;> cases bb xs j i <;> cases par ps i j k <;> simp)
end Go.Proofs.Tryd.Am

namespace Go.Proofs.Tryd.Am
open Go.Am Rb
set_option maxRecDepth 100000
set_option maxHeartbeats 1000000

theorem bk_or (l : List Nat) (a x c : Nat) : bk l (a, x, c) = (a, x) ∨ bk l (a, x, c) = (x, c) ∨ bk l (a, x, c) = (c, a) := by
  rw [bk]
  split
  · exact .inl rfl
  · split
    · exact .inr (.inl rfl)
    · exact .inr (.inr rfl)
theorem cm_two {a x c a' x' c' : Nat} (l : List Nat)
    (e : bk l (a, x, c) = bk l (a', x', c')) : Pck.okT (cI (a, x, c)) (cI (a', x', c')) = false := by
  rw [Pck.okT, decide_eq_false_iff_not]
  simp only [Pck.cm, cI]
  rcases bk_or l a x c with h1 | h1 | h1 <;> rcases bk_or l a' x' c' with h2 | h2 | h2 <;>
  · rw [h1, h2] at e
    injection e with e1 e2
    subst e1; subst e2
    simp only [if_pos]
    omega
theorem cA_mem {xs : List Int} (ht : trn xs = true) {t : T3} (h : t ∈ cA xs xs.length) : ∃ a x c : Nat, t = cI (a, x, c) ∧ a < xs.length ∧ x < xs.length ∧ c < xs.length ∧ bb xs a x = true ∧ bb xs x c = true ∧ bb xs c a = true ∧ a ≠ x ∧ x ≠ c ∧ c ≠ a := by
  rw [cA_all ht] at h
  obtain ⟨⟨a, x, c⟩, hm, rfl⟩ := List.mem_map.1 h
  obtain ⟨h1, h2, h3, h4, h5, h6, h7, h8⟩ := Clr.mem_cycles.1 hm
  refine ⟨a, x, c, rfl, h1, h2, h3, h4, h5, h6, by omega, fun e => ?_, by omega⟩
  rw [e, (trn_clr ht).2 c h3] at h5; cases h5
theorem ord_mem {n : Nat} {os : List Int} (h : isOrd n os = true) {x : Nat} (hx : x < n) : x ∈ nl os := by
  obtain ⟨h1, h2, h3⟩ := isOrd_iff.1 h
  apply Classical.byContradiction
  intro hno
  have := Clr.len_le (n := n) (l := x :: nl os) (fun y hy => by
    rcases List.mem_cons.1 hy with rfl | hy
    · exact hx
    · obtain ⟨z, hz, rfl⟩ := List.mem_map.1 hy
      have := h2 z hz
      omega) (List.nodup_cons.2 ⟨hno, h3⟩)
  rw [List.length_cons, List.length_map] at this; omega
theorem pack_le {xs os : List Int} (ht : trn xs = true) (ho : isOrd xs.length os = true) : (Pck.go Pck.okT (cA xs xs.length) [] []).length ≤ agTo xs os os.length := by
  obtain ⟨hsub, hpw⟩ := Pck.go_good (ok := Pck.okT) (cA xs xs.length)
  have hl := trn_len ht
  rw [(agTo_back hl.2 ho).1, ← bp_len]
  let f : T3 → Nat × Nat := fun t => bk (nl os) (t.1.toNat, t.2.1.toNat, t.2.2.toNat)
  have hf : ∀ a x c : Nat, f (cI (a, x, c)) = bk (nl os) (a, x, c) := fun a x c => by simp only [f, cI, Int.toNat_natCast]
  rw [← List.length_map f]
  refine nodup_le ?_ ?_
  · refine List.pairwise_map.2 (hpw.imp_of_mem fun {t u} h1 h2 h3 e => ?_)
    obtain ⟨a, x, c, rfl, _⟩ := cA_mem ht (hsub.subset h1)
    obtain ⟨a', x', c', rfl, _⟩ := cA_mem ht (hsub.subset h2)
    rw [hf, hf] at e
    rw [cm_two _ e] at h3
    cases h3
  · intro p hp
    obtain ⟨t, h1, rfl⟩ := List.mem_map.1 hp
    obtain ⟨a, x, c, rfl, ha, hx, hc, b1, b2, b3, n1, n2, n3⟩ := cA_mem ht (hsub.subset h1)
    rw [hf]
    exact bk_in (ord_mem ho ha) (ord_mem ho hx) (ord_mem ho hc) b1 b2 b3 n1 n2 n3
/-- Where an order goes against none there is no cycle. -/
theorem cA_none {xs os : List Int} (ht : trn xs = true) (ho : isOrd xs.length os = true) (h : back (bb xs) [] (nl os) = 0) : cA xs xs.length = [] := by
  apply Classical.byContradiction
  intro hne
  obtain ⟨t, hm⟩ := List.exists_mem_of_ne_nil _ hne
  obtain ⟨a, x, c, rfl, ha, hx, hc, b1, b2, b3, n1, n2, n3⟩ := cA_mem ht hm
  have := bk_in (ord_mem ho ha) (ord_mem ho hx) (ord_mem ho hc) b1 b2 b3 n1 n2 n3
  have := List.length_pos_of_mem this
  rw [bp_len] at this; omega
/-- In the best order each one beats the next. -/
theorem gr_next {xs : List Int} (ht : trn xs = true) {p m : List Nat} {x y : Nat} (h : gr (cst xs) xs.length xs.length 0 = p ++ x :: y :: m) : bb xs x y = true := by
  have hl := trn_len ht
  obtain ⟨ho, hbest⟩ := gr_best (xs := xs) hl.2
  obtain ⟨h1, h2, h3⟩ := isOrd_iff.1 ho
  rw [nl_iL, h] at h3
  rw [h, iL_len] at h1
  have hin : ∀ z ∈ p ++ x :: y :: m, z < xs.length := fun z hz => by
    have := h2 (z : Int) (by rw [h]; exact List.mem_map.2 ⟨z, hz, rfl⟩)
    omega
  have hperm : (p ++ y :: x :: m).Perm (p ++ x :: y :: m) := (List.Perm.swap x y m).append_left p
  have ho2 : isOrd xs.length (iL (p ++ y :: x :: m)) = true := iL_ord (by rw [hperm.length_eq]; exact h1) (hperm.nodup_iff.2 h3) fun z hz => hin z (hperm.mem_iff.1 hz)
  have hb := hbest _ ho2
  rw [(agTo_back hl.2 ho).1, (agTo_back hl.2 ho2).1, nl_iL, nl_iL, h] at hb
  have hxy : x ≠ y := fun e => by
    have := (List.nodup_append.1 h3).2.1
    rw [e] at this
    exact (List.nodup_cons.1 this).1 (by simp)
  have htr := (trn_clr ht).1 x y (hin x (by simp)) (hin y (by simp)) hxy
  cases hc : bb xs x y with
  | true => rfl
  | false =>
    rw [hc] at htr
    have := back_swap hc (by simpa using htr) [] p m
    omega
/-- Of those that go against as few it stands first. -/
theorem gr_lex {xs os : List Int} (ht : trn xs = true) (ho : isOrd xs.length os = true) (he : agTo xs os os.length ≤ agTo xs (iL (gr (cst xs) xs.length xs.length 0)) (iL (gr (cst xs) xs.length xs.length 0)).length) :
    lexL (gr (cst xs) xs.length xs.length 0) (nl os) := by
  have hl := trn_len ht
  obtain ⟨ho2, hbest⟩ := gr_best (xs := xs) hl.2
  have hb := hbest os ho
  obtain ⟨h1, h2, h3, h4⟩ := gr_ok (cst_few hl.2) hl.2 xs.length 0 (Nat.two_pow_pos _) (by rw [fr_zero, List.length_range])
  obtain ⟨o1, o2, o3⟩ := isOrd_iff.1 ho
  rw [(agTo_back hl.2 ho2).2, (agTo_back hl.2 ho).2, nl_iL, h4] at he hb
  have := gr_first (cst_few hl.2) hl.2 (nl os) 0 (Nat.two_pow_pos _) (by rw [fr_zero, List.length_range, List.length_map, o1]) o3 (fun x hx => by
    obtain ⟨y, hy, rfl⟩ := List.mem_map.1 hx
    have := o2 y hy
    exact mem_fr.2 ⟨by omega, Nat.zero_testBit _⟩) (by rw [List.length_map, o1]; omega)
  rw [List.length_map, o1] at this
  exact this
end Go.Proofs.Tryd.Am

/- Printed by gen.py: the code of some functions, without what no step looks at; held against the program's own by the kernel. -/
import Derived.Test.YtemmcfeekpblkaaDoorAmO
import Derived.Test.YtemmcfeekpblkaaDoorProg
import Derived.KernelRfl
import Derived.Shelf.Abstract
set_option linter.all false
namespace Go.Proofs.Tryd.Am
open Go.Am
set_option maxRecDepth 100000
/-! 7: planchet planchetlaw02.RanksClear -/
@[reducible] def q7_0 : SCode := .region [⟨some 2, .assign (.const (.bool false)), none⟩]
@[reducible] def q7_1 : SCode := .region [⟨some 13, .move (.tmp 0), none⟩,
    ⟨some 14, .call { callee := .value (.func 19), args := #[.tmp 13], argTypes := #[22] }, none⟩,
    ⟨some 15, .call { callee := .value (.func 36), args := #[.tmp 14], argTypes := #[22] }, none⟩,
    ⟨some 12, .move (.tmp 15), none⟩,
    ⟨some 16, .extract (.tmp 12) 0, none⟩,
    ⟨some 17, .extract (.tmp 12) 1, none⟩,
    ⟨some 3, .assign (.tmp 16), none⟩,
    ⟨some 4, .assign (.tmp 17), none⟩]
@[reducible] def q7_2 : SCode := .region [⟨some 18, .move (.tmp 4), none⟩,
    ⟨some 19, .binOp .neq 23 (.tmp 18) (.const (.int .i64 0)) 23, none⟩,
    ⟨some 20, .move (.tmp 19), none⟩,
    ⟨some 21, .move (.tmp 0), some (20, false)⟩,
    ⟨some 22, .call { callee := .value (.func 20), args := #[.tmp 21], argTypes := #[22] }, some (20, false)⟩,
    ⟨some 23, .unOp .not 4 (.tmp 22), some (20, false)⟩,
    ⟨some 24, .pick (.tmp 20) (.const (.bool true)) (.tmp 23), none⟩]
@[reducible] def q7_3 : SCode := .region [⟨some 25, .move (.tmp 4), none⟩,
    ⟨some 26, .binOp .eql 23 (.tmp 25) (.const (.int .i64 2)) 23, none⟩,
    ⟨some 27, .move (.tmp 26), none⟩,
    ⟨some 28, .call { callee := .value (.func 21), args := #[], argTypes := #[] }, some (27, true)⟩,
    ⟨some 29, .pick (.tmp 27) (.tmp 28) (.const (.bool false)), none⟩,
    ⟨some 2, .assign (.tmp 29), none⟩]
@[reducible] def q7_4 : SCode := .region [⟨some 31, .move (.tmp 0), none⟩,
    ⟨some 32, .call { callee := .value (.func 19), args := #[.tmp 31], argTypes := #[22] }, none⟩,
    ⟨some 33, .call { callee := .value (.func 30), args := #[.tmp 32], argTypes := #[22] }, none⟩,
    ⟨some 30, .move (.tmp 33), none⟩,
    ⟨some 34, .extract (.tmp 30) 0, none⟩,
    ⟨some 35, .extract (.tmp 30) 1, none⟩,
    ⟨some 5, .assign (.tmp 34), none⟩,
    ⟨some 6, .assign (.tmp 35), none⟩]
@[reducible] def q7_5 : SCode := .region [⟨some 36, .move (.tmp 6), none⟩,
    ⟨some 37, .binOp .neq 23 (.tmp 36) (.const (.int .i64 0)) 23, none⟩,
    ⟨some 38, .move (.tmp 37), none⟩,
    ⟨some 39, .move (.tmp 3), some (38, false)⟩,
    ⟨some 40, .move (.tmp 0), some (38, false)⟩,
    ⟨some 41, .call { callee := .builtin .len, args := #[.tmp 40], argTypes := #[22] }, some (38, false)⟩,
    ⟨some 42, .call { callee := .builtin .min, args := #[.tmp 41, .const (.int .i64 2)], argTypes := #[3, 3] }, some (38, false)⟩,
    ⟨some 43, .binOp .lss 3 (.tmp 39) (.tmp 42) 3, some (38, false)⟩,
    ⟨some 44, .pick (.tmp 38) (.const (.bool true)) (.tmp 43), none⟩,
    ⟨some 45, .move (.tmp 44), none⟩,
    ⟨some 46, .move (.tmp 3), some (45, false)⟩,
    ⟨some 47, .move (.tmp 0), some (45, false)⟩,
    ⟨some 48, .call { callee := .builtin .len, args := #[.tmp 47], argTypes := #[22] }, some (45, false)⟩,
    ⟨some 49, .binOp .gtr 3 (.tmp 46) (.tmp 48) 3, some (45, false)⟩,
    ⟨some 50, .pick (.tmp 45) (.const (.bool true)) (.tmp 49), none⟩,
    ⟨some 51, .move (.tmp 50), none⟩,
    ⟨some 52, .move (.tmp 0), some (51, false)⟩,
    ⟨some 53, .call { callee := .builtin .len, args := #[.tmp 52], argTypes := #[22] }, some (51, false)⟩,
    ⟨some 54, .binOp .geq 3 (.tmp 53) (.const (.int .i64 4)) 3, some (51, false)⟩,
    ⟨some 55, .move (.tmp 54), some (51, false)⟩,
    ⟨some 56, .move (.tmp 3), some (55, true)⟩,
    ⟨some 57, .binOp .lss 3 (.tmp 56) (.const (.int .i64 3)) 3, some (55, true)⟩,
    ⟨some 58, .pick (.tmp 55) (.tmp 57) (.const (.bool false)), some (51, false)⟩,
    ⟨some 59, .pick (.tmp 51) (.const (.bool true)) (.tmp 58), none⟩,
    ⟨some 60, .move (.tmp 59), none⟩,
    ⟨some 61, .move (.tmp 0), some (60, false)⟩,
    ⟨some 62, .call { callee := .builtin .len, args := #[.tmp 61], argTypes := #[22] }, some (60, false)⟩,
    ⟨some 63, .binOp .geq 3 (.tmp 62) (.const (.int .i64 8)) 3, some (60, false)⟩,
    ⟨some 64, .move (.tmp 63), some (60, false)⟩,
    ⟨some 65, .move (.tmp 3), some (64, true)⟩,
    ⟨some 66, .binOp .lss 3 (.tmp 65) (.const (.int .i64 4)) 3, some (64, true)⟩,
    ⟨some 67, .pick (.tmp 64) (.tmp 66) (.const (.bool false)), some (60, false)⟩,
    ⟨some 68, .pick (.tmp 60) (.const (.bool true)) (.tmp 67), none⟩,
    ⟨some 69, .move (.tmp 68), none⟩,
    ⟨some 70, .move (.tmp 3), some (69, false)⟩,
    ⟨some 71, .move (.tmp 0), some (69, false)⟩,
    ⟨some 72, .call { callee := .builtin .len, args := #[.tmp 71], argTypes := #[22] }, some (69, false)⟩,
    ⟨some 73, .binOp .eql 3 (.tmp 70) (.tmp 72) 3, some (69, false)⟩,
    ⟨some 74, .move (.tmp 5), some (69, false)⟩,
    ⟨some 75, .call { callee := .builtin .len, args := #[.tmp 74], argTypes := #[36] }, some (69, false)⟩,
    ⟨some 76, .binOp .eql 3 (.tmp 75) (.const (.int .i64 0)) 3, some (69, false)⟩,
    ⟨some 77, .binOp .neq 4 (.tmp 73) (.tmp 76) 4, some (69, false)⟩,
    ⟨some 78, .pick (.tmp 69) (.const (.bool true)) (.tmp 77), none⟩]
@[reducible] def q7_6 : SCode := .region [⟨some 2, .assign (.const (.bool false)), none⟩]
@[reducible] def q7_7 : SCode := .region [⟨some 79, .move (.tmp 0), none⟩,
    ⟨some 80, .call { callee := .builtin .len, args := #[.tmp 79], argTypes := #[22] }, none⟩,
    ⟨some 81, .binOp .eql 3 (.tmp 80) (.const (.int .i64 1)) 3, none⟩]
@[reducible] def q7_8 : SCode := .region [⟨some 82, .call { callee := .value (.func 21), args := #[], argTypes := #[] }, none⟩,
    ⟨some 2, .assign (.tmp 82), none⟩]
@[reducible] def q7_9 : SCode := .region [⟨some 7, .assign (.const (.slice none 0 0)), none⟩]
@[reducible] def q7_10 : SCode := .region [⟨some 83, .move (.tmp 0), none⟩,
    ⟨some 84, .call { callee := .builtin .len, args := #[.tmp 83], argTypes := #[22] }, none⟩,
    ⟨some 85, .binOp .sub 3 (.tmp 84) (.const (.int .i64 1)) 3, none⟩,
    ⟨some 8, .assign (.tmp 85), none⟩]
@[reducible] def q7_11 : SCode := .region [⟨some 86, .move (.tmp 0), none⟩,
    ⟨some 87, .move (.tmp 8), none⟩,
    ⟨some 88, .slice 22 (.tmp 86) none (some (.tmp 87)) none, none⟩,
    ⟨some 89, .call { callee := .builtin .len, args := #[.tmp 88], argTypes := #[22] }, none⟩,
    ⟨some 90, .move (.const (.int .i64 0)), none⟩]
@[reducible] def q7_12 : SCode := .region [⟨some 91, .binOp .lss 3 (.tmp 90) (.tmp 89) 3, none⟩]
@[reducible] def q7_13 : SCode := .region [⟨some 92, .indexAddr 22 (.tmp 88) (.tmp 90), none⟩,
    ⟨some 93, .load 3 (.tmp 92), none⟩,
    ⟨some 10, .assign (.tmp 93), none⟩]
@[reducible] def q7_14 : SCode := .region [⟨some 94, .move (.tmp 7), none⟩,
    ⟨some 95, .move (.tmp 10), none⟩,
    ⟨some 96, .move (.tmp 8), none⟩,
    ⟨some 97, .binOp .shl 3 (.const (.int .i64 1)) (.tmp 96) 3, none⟩,
    ⟨some 98, .binOp .sub 3 (.tmp 97) (.const (.int .i64 1)) 3, none⟩,
    ⟨some 99, .binOp .and 3 (.tmp 95) (.tmp 98) 3, none⟩,
    ⟨some 100, .buildSlice 22 1 #[(0, .tmp 99)], none⟩,
    ⟨some 101, .call { callee := .builtin .append, args := #[.tmp 94, .tmp 100], argTypes := #[22, 22] }, none⟩,
    ⟨some 7, .assign (.tmp 101), none⟩]
@[reducible] def q7_15 : SCode := .region [⟨some 102, .binOp .add 3 (.tmp 90) (.const (.int .i64 1)) 3, none⟩,
    ⟨some 90, .move (.tmp 102), none⟩]
def l7_0 : SCode := (.seq q7_12 (.seq (.cond (.tmp 91) .skip (.exit 0)) (.seq (.block 1 (.seq q7_13 q7_14)) q7_15)))
@[reducible] def q7_16 : SCode := .region [⟨some 104, .move (.tmp 7), none⟩,
    ⟨some 105, .call { callee := .value (.func 36), args := #[.tmp 104], argTypes := #[22] }, none⟩,
    ⟨some 103, .move (.tmp 105), none⟩,
    ⟨some 106, .extract (.tmp 103) 0, none⟩,
    ⟨some 107, .extract (.tmp 103) 1, none⟩,
    ⟨some 11, .assign (.tmp 106), none⟩,
    ⟨some 6, .assign (.tmp 107), none⟩]
@[reducible] def q7_17 : SCode := .region [⟨some 108, .move (.tmp 6), none⟩,
    ⟨some 109, .binOp .eql 23 (.tmp 108) (.const (.int .i64 0)) 23, none⟩,
    ⟨some 110, .move (.tmp 109), none⟩,
    ⟨some 111, .move (.tmp 11), some (110, true)⟩,
    ⟨some 112, .move (.tmp 3), some (110, true)⟩,
    ⟨some 113, .binOp .eql 3 (.tmp 111) (.tmp 112) 3, some (110, true)⟩,
    ⟨some 114, .move (.tmp 113), some (110, true)⟩,
    ⟨some 115, .move (.tmp 11), some (114, false)⟩,
    ⟨some 116, .move (.tmp 3), some (114, false)⟩,
    ⟨some 117, .binOp .sub 3 (.tmp 116) (.const (.int .i64 1)) 3, some (114, false)⟩,
    ⟨some 118, .binOp .eql 3 (.tmp 115) (.tmp 117) 3, some (114, false)⟩,
    ⟨some 119, .pick (.tmp 114) (.const (.bool true)) (.tmp 118), some (110, true)⟩,
    ⟨some 120, .pick (.tmp 110) (.tmp 119) (.const (.bool false)), none⟩,
    ⟨some 121, .move (.tmp 120), none⟩,
    ⟨some 122, .call { callee := .value (.func 21), args := #[], argTypes := #[] }, some (121, true)⟩,
    ⟨some 123, .pick (.tmp 121) (.tmp 122) (.const (.bool false)), none⟩,
    ⟨some 2, .assign (.tmp 123), none⟩]
def s7 : SCode := (.seq q7_0 (.seq q7_1 (.seq (.seq q7_2 (.cond (.tmp 24) (.seq q7_3 .ret) .skip)) (.seq q7_4 (.seq (.seq q7_5 (.cond (.tmp 78) (.seq q7_6 .ret) .skip)) (.seq (.seq q7_7 (.cond (.tmp 81) (.seq q7_8 .ret) .skip)) (.seq q7_9 (.seq q7_10 (.seq (.seq q7_11 (.block 0 (.loop l7_0))) (.seq q7_16 (.seq q7_17 .ret)))))))))))
theorem s7_strip : stripC (bodyOf Tryd.f7) = s7 := by kernel_rfl
theorem s7_ok : codeOK 124 (bodyOf Tryd.f7) = true := by kernel_rfl
theorem s7_call [Tabs Tryd.prog] {args : List Value} {h : Heap} {Q : Value → Heap → Prop} (hsz : args.length ≤ 124) (hk : aw Tryd.prog 124 s7 (aPost Tryd.prog [.tmp 2] Q) (argEnv 0 args) h) : ACall Tryd.prog 7 args h Q :=
  acall_s Tryd.func7 rfl (enters_of Tryd.func7 (by kernel_rfl) rfl) rfl rfl (by decide) s7_strip s7_ok hsz hk

/-! 30: planchet ranks.Cycles -/
@[reducible] def q30_0 : SCode := .region [⟨some 2, .assign (.const (.slice none 0 0)), none⟩,
    ⟨some 3, .assign (.const (.int .i64 0)), none⟩]
@[reducible] def q30_1 : SCode := .region [⟨some 4, .move (.tmp 0), none⟩,
    ⟨some 5, .call { callee := .value (.func 56), args := #[.tmp 4], argTypes := #[55] }, none⟩,
    ⟨some 6, .unOp .not 4 (.tmp 5), none⟩]
@[reducible] def q30_2 : SCode := .region [⟨some 2, .assign (.const (.slice none 0 0)), none⟩,
    ⟨some 3, .assign (.const (.int .i64 2)), none⟩]
@[reducible] def q30_3 : SCode := .region [⟨some 7, .move (.tmp 0), none⟩,
    ⟨some 8, .call { callee := .value (.func 64), args := #[.tmp 7], argTypes := #[55] }, none⟩,
    ⟨some 2, .assign (.tmp 8), none⟩,
    ⟨some 3, .assign (.const (.int .i64 0)), none⟩]
def s30 : SCode := (.seq q30_0 (.seq (.seq q30_1 (.cond (.tmp 6) (.seq q30_2 .ret) .skip)) (.seq q30_3 .ret)))
theorem s30_strip : stripC (bodyOf Tryd.f30) = s30 := by kernel_rfl
theorem s30_ok : codeOK 9 (bodyOf Tryd.f30) = true := by kernel_rfl
theorem s30_call [Tabs Tryd.prog] {args : List Value} {h : Heap} {Q : Value → Heap → Prop} (hsz : args.length ≤ 9) (hk : aw Tryd.prog 9 s30 (aPost Tryd.prog [.tmp 2, .tmp 3] Q) (argEnv 0 args) h) : ACall Tryd.prog 30 args h Q :=
  acall_s Tryd.func30 rfl (enters_of Tryd.func30 (by kernel_rfl) rfl) rfl rfl (by decide) s30_strip s30_ok hsz hk

/-! 36: planchet ranks.Clear -/
@[reducible] def q36_0 : SCode := .region [⟨some 2, .assign (.const (.int .i64 0)), none⟩,
    ⟨some 3, .assign (.const (.int .i64 0)), none⟩]
@[reducible] def q36_1 : SCode := .region [⟨some 8, .move (.tmp 0), none⟩,
    ⟨some 4, .assign (.tmp 8), none⟩]
@[reducible] def q36_2 : SCode := .region [⟨some 9, .move (.tmp 4), none⟩,
    ⟨some 10, .call { callee := .value (.func 56), args := #[.tmp 9], argTypes := #[55] }, none⟩,
    ⟨some 11, .unOp .not 4 (.tmp 10), none⟩]
@[reducible] def q36_3 : SCode := .region [⟨some 2, .assign (.const (.int .i64 0)), none⟩,
    ⟨some 3, .assign (.const (.int .i64 2)), none⟩]
@[reducible] def q36_4 : SCode := .region [⟨some 5, .assign (.const (.int .i64 0)), none⟩]
@[reducible] def q36_5 : SCode := .region [⟨some 12, .move (.tmp 0), none⟩,
    ⟨some 13, .call { callee := .builtin .len, args := #[.tmp 12], argTypes := #[22] }, none⟩,
    ⟨some 14, .binOp .shl 3 (.const (.int .i64 1)) (.tmp 13) 3, none⟩,
    ⟨some 15, .move (.const (.int .i64 0)), none⟩]
@[reducible] def q36_6 : SCode := .region [⟨some 16, .binOp .lss 3 (.tmp 15) (.tmp 14) 3, none⟩]
@[reducible] def q36_7 : SCode := .region [⟨some 17, .move (.tmp 15), none⟩,
    ⟨some 6, .alloc 3, none⟩,
    ⟨none, .store 3 (.tmp 6) (.tmp 17), none⟩]
@[reducible] def q36_8 : SCode := .region [⟨some 18, .move (.tmp 4), none⟩,
    ⟨some 19, .call { callee := .value (.func 64), args := #[.tmp 18], argTypes := #[55] }, none⟩,
    ⟨some 20, .makeFunc (.func 72) #[] #[.tmp 6], none⟩,
    ⟨some 21, .call { callee := .value (.func 67), args := #[.tmp 19, .tmp 20], argTypes := #[36, 67] }, none⟩,
    ⟨some 22, .unOp .not 4 (.tmp 21), none⟩,
    ⟨some 7, .assign (.tmp 22), none⟩]
@[reducible] def q36_9 : SCode := .region [⟨some 23, .move (.tmp 7), none⟩]
@[reducible] def q36_10 : SCode := .region [⟨some 24, .move (.tmp 5), none⟩,
    ⟨some 25, .load 3 (.tmp 6), none⟩,
    ⟨some 26, .call { callee := .value (.func 73), args := #[.tmp 25], argTypes := #[3] }, none⟩,
    ⟨some 27, .call { callee := .builtin .max, args := #[.tmp 24, .tmp 26], argTypes := #[3, 3] }, none⟩,
    ⟨some 5, .assign (.tmp 27), none⟩]
@[reducible] def q36_11 : SCode := .region [⟨some 28, .binOp .add 3 (.tmp 15) (.const (.int .i64 1)) 3, none⟩,
    ⟨some 15, .move (.tmp 28), none⟩]
def l36_0 : SCode := (.seq q36_6 (.seq (.cond (.tmp 16) .skip (.exit 0)) (.seq (.block 1 (.seq q36_7 (.seq q36_8 (.seq q36_9 (.cond (.tmp 23) q36_10 .skip))))) q36_11)))
@[reducible] def q36_12 : SCode := .region [⟨some 29, .move (.tmp 5), none⟩,
    ⟨some 2, .assign (.tmp 29), none⟩,
    ⟨some 3, .assign (.const (.int .i64 0)), none⟩]
def s36 : SCode := (.seq q36_0 (.seq q36_1 (.seq (.seq q36_2 (.cond (.tmp 11) (.seq q36_3 .ret) .skip)) (.seq q36_4 (.seq (.seq q36_5 (.block 0 (.loop l36_0))) (.seq q36_12 .ret))))))
theorem s36_strip : stripC (bodyOf Tryd.f36) = s36 := by kernel_rfl
theorem s36_ok : codeOK 30 (bodyOf Tryd.f36) = true := by kernel_rfl
theorem s36_call [Tabs Tryd.prog] {args : List Value} {h : Heap} {Q : Value → Heap → Prop} (hsz : args.length ≤ 30) (hk : aw Tryd.prog 30 s36 (aPost Tryd.prog [.tmp 2, .tmp 3] Q) (argEnv 0 args) h) : ACall Tryd.prog 36 args h Q :=
  acall_s Tryd.func36 rfl (enters_of Tryd.func36 (by kernel_rfl) rfl) rfl rfl (by decide) s36_strip s36_ok hsz hk

/-! 64: (planchet ranks.tournament).cycles -/
@[reducible] def q64_0 : SCode := .region [⟨some 1, .box 55 (.tmp 0), none⟩,
    ⟨some 2, .assign (.const (.slice none 0 0)), none⟩]
@[reducible] def q64_1 : SCode := .region [⟨some 3, .alloc 36, none⟩]
@[reducible] def q64_2 : SCode := .region [⟨some 7, .load 55 (.tmp 1), none⟩,
    ⟨some 8, .call { callee := .builtin .len, args := #[.tmp 7], argTypes := #[55] }, none⟩,
    ⟨some 9, .move (.const (.int .i64 0)), none⟩]
@[reducible] def q64_3 : SCode := .region [⟨some 10, .binOp .lss 3 (.tmp 9) (.tmp 8) 3, none⟩]
@[reducible] def q64_4 : SCode := .region [⟨some 11, .move (.tmp 9), none⟩,
    ⟨some 4, .alloc 3, none⟩,
    ⟨none, .store 3 (.tmp 4) (.tmp 11), none⟩]
@[reducible] def q64_5 : SCode := .region [⟨some 12, .load 55 (.tmp 1), none⟩,
    ⟨some 13, .load 3 (.tmp 4), none⟩,
    ⟨some 14, .indexAddr 55 (.tmp 12) (.tmp 13), none⟩,
    ⟨some 15, .load 3 (.tmp 14), none⟩,
    ⟨some 16, .call { callee := .value (.func 62), args := #[.tmp 15], argTypes := #[3] }, none⟩]
@[reducible] def q64_6 : SCode := .region [⟨some 5, .alloc 3, none⟩,
    ⟨none, .store 3 (.tmp 5) (.tmp 17), none⟩]
@[reducible] def q64_7 : SCode := .region [⟨some 18, .load 55 (.tmp 1), none⟩,
    ⟨some 19, .load 3 (.tmp 5), none⟩,
    ⟨some 20, .indexAddr 55 (.tmp 18) (.tmp 19), none⟩,
    ⟨some 21, .load 3 (.tmp 20), none⟩,
    ⟨some 22, .call { callee := .value (.func 62), args := #[.tmp 21], argTypes := #[3] }, none⟩]
@[reducible] def q64_8 : SCode := .region [⟨some 6, .assign (.tmp 23), none⟩]
@[reducible] def q64_9 : SCode := .region [⟨some 24, .load 3 (.tmp 4), none⟩,
    ⟨some 25, .load 3 (.tmp 5), none⟩,
    ⟨some 26, .binOp .lss 3 (.tmp 24) (.tmp 25) 3, none⟩,
    ⟨some 27, .move (.tmp 26), none⟩,
    ⟨some 28, .load 3 (.tmp 4), some (27, true)⟩,
    ⟨some 29, .move (.tmp 6), some (27, true)⟩,
    ⟨some 30, .binOp .lss 3 (.tmp 28) (.tmp 29) 3, some (27, true)⟩,
    ⟨some 31, .pick (.tmp 27) (.tmp 30) (.const (.bool false)), none⟩,
    ⟨some 32, .move (.tmp 31), none⟩,
    ⟨some 33, .load 55 (.tmp 1), some (32, true)⟩,
    ⟨some 34, .move (.tmp 6), some (32, true)⟩,
    ⟨some 35, .load 3 (.tmp 4), some (32, true)⟩,
    ⟨some 36, .call { callee := .value (.func 60), args := #[.tmp 33, .tmp 34, .tmp 35], argTypes := #[55, 3, 3] }, some (32, true)⟩,
    ⟨some 37, .pick (.tmp 32) (.tmp 36) (.const (.bool false)), none⟩]
@[reducible] def q64_10 : SCode := .region [⟨some 38, .load 36 (.tmp 3), none⟩,
    ⟨some 39, .load 3 (.tmp 4), none⟩,
    ⟨some 40, .load 3 (.tmp 5), none⟩,
    ⟨some 41, .move (.tmp 6), none⟩,
    ⟨some 42, .build 40 #[(0, .tmp 39), (1, .tmp 40), (2, .tmp 41)], none⟩,
    ⟨some 43, .buildSlice 36 1 #[(0, .tmp 42)], none⟩,
    ⟨some 44, .call { callee := .builtin .append, args := #[.tmp 38, .tmp 43], argTypes := #[36, 36] }, none⟩,
    ⟨none, .store 36 (.tmp 3) (.tmp 44), none⟩]
def r64_0_a : SCode := q64_8
def r64_0_b : SCode := (.block 5 (.seq q64_9 (.cond (.tmp 37) q64_10 .skip)))
def r64_1_a : SCode := q64_6
def r64_1_b : SCode := (.block 3 (.seq q64_7 (.block 4 (.range (.tmp 22) [23] r64_0_a r64_0_b))))
@[reducible] def q64_11 : SCode := .region [⟨some 45, .binOp .add 3 (.tmp 9) (.const (.int .i64 1)) 3, none⟩,
    ⟨some 9, .move (.tmp 45), none⟩]
def l64_2 : SCode := (.seq q64_3 (.seq (.cond (.tmp 10) .skip (.exit 0)) (.seq (.block 1 (.seq q64_4 (.seq q64_5 (.block 2 (.range (.tmp 16) [17] r64_1_a r64_1_b))))) q64_11)))
@[reducible] def q64_12 : SCode := .region [⟨some 46, .load 36 (.tmp 3), none⟩,
    ⟨some 2, .assign (.tmp 46), none⟩]
def s64 : SCode := (.seq q64_0 (.seq q64_1 (.seq (.seq q64_2 (.block 0 (.loop l64_2))) (.seq q64_12 .ret))))
theorem s64_strip : stripC (bodyOf Tryd.f64) = s64 := by kernel_rfl
theorem s64_ok : codeOK 47 (bodyOf Tryd.f64) = true := by kernel_rfl
theorem s64_call [Tabs Tryd.prog] {args : List Value} {h : Heap} {Q : Value → Heap → Prop} (hsz : args.length ≤ 47) (hk : aw Tryd.prog 47 s64 (aPost Tryd.prog [.tmp 2] Q) (argEnv 0 args) h) : ACall Tryd.prog 64 args h Q :=
  acall_s Tryd.func64 rfl (enters_of Tryd.func64 (by kernel_rfl) rfl) rfl rfl (by decide) s64_strip s64_ok hsz hk

/-! 67: slices.ContainsFunc[[][3]int,[3]int] -/
@[reducible] def q67_0 : SCode := .region [⟨some 4, .assign (.const (.bool false)), none⟩]
@[reducible] def q67_1 : SCode := .region [⟨some 5, .move (.tmp 0), none⟩,
    ⟨some 6, .move (.tmp 1), none⟩,
    ⟨some 7, .call { callee := .value (.func 95), args := #[.tmp 5, .tmp 6], argTypes := #[36, 67] }, none⟩,
    ⟨some 8, .binOp .geq 3 (.tmp 7) (.const (.int .i64 0)) 3, none⟩,
    ⟨some 4, .assign (.tmp 8), none⟩]
def s67 : SCode := (.seq q67_0 (.seq q67_1 .ret))
theorem s67_strip : stripC (bodyOf Tryd.f67) = s67 := by kernel_rfl
theorem s67_ok : codeOK 9 (bodyOf Tryd.f67) = true := by kernel_rfl
theorem s67_call [Tabs Tryd.prog] {args : List Value} {h : Heap} {Q : Value → Heap → Prop} (hsz : args.length ≤ 9) (hk : aw Tryd.prog 9 s67 (aPost Tryd.prog [.tmp 4] Q) (argEnv 0 args) h) : ACall Tryd.prog 67 args h Q :=
  acall_s Tryd.func67 rfl (enters_of Tryd.func67 (by kernel_rfl) rfl) rfl rfl (by decide) s67_strip s67_ok hsz hk

/-! 72: planchet ranks.Clear$1 -/
@[reducible] def q72_0 : SCode := .region [⟨some 2, .box 40 (.tmp 0), none⟩,
    ⟨some 3, .assign (.const (.bool false)), none⟩]
@[reducible] def q72_1 : SCode := .region [⟨some 4, .load 3 (.tmp 1), none⟩,
    ⟨some 5, .indexAddr 40 (.tmp 2) (.const (.int .i64 0)), none⟩,
    ⟨some 6, .load 3 (.tmp 5), none⟩,
    ⟨some 7, .binOp .shr 3 (.tmp 4) (.tmp 6) 3, none⟩,
    ⟨some 8, .binOp .and 3 (.tmp 7) (.const (.int .i64 1)) 3, none⟩,
    ⟨some 9, .binOp .eql 3 (.tmp 8) (.const (.int .i64 1)) 3, none⟩,
    ⟨some 10, .move (.tmp 9), none⟩,
    ⟨some 11, .load 3 (.tmp 1), some (10, true)⟩,
    ⟨some 12, .indexAddr 40 (.tmp 2) (.const (.int .i64 1)), some (10, true)⟩,
    ⟨some 13, .load 3 (.tmp 12), some (10, true)⟩,
    ⟨some 14, .binOp .shr 3 (.tmp 11) (.tmp 13) 3, some (10, true)⟩,
    ⟨some 15, .binOp .and 3 (.tmp 14) (.const (.int .i64 1)) 3, some (10, true)⟩,
    ⟨some 16, .binOp .eql 3 (.tmp 15) (.const (.int .i64 1)) 3, some (10, true)⟩,
    ⟨some 17, .pick (.tmp 10) (.tmp 16) (.const (.bool false)), none⟩,
    ⟨some 18, .move (.tmp 17), none⟩,
    ⟨some 19, .load 3 (.tmp 1), some (18, true)⟩,
    ⟨some 20, .indexAddr 40 (.tmp 2) (.const (.int .i64 2)), some (18, true)⟩,
    ⟨some 21, .load 3 (.tmp 20), some (18, true)⟩,
    ⟨some 22, .binOp .shr 3 (.tmp 19) (.tmp 21) 3, some (18, true)⟩,
    ⟨some 23, .binOp .and 3 (.tmp 22) (.const (.int .i64 1)) 3, some (18, true)⟩,
    ⟨some 24, .binOp .eql 3 (.tmp 23) (.const (.int .i64 1)) 3, some (18, true)⟩,
    ⟨some 25, .pick (.tmp 18) (.tmp 24) (.const (.bool false)), none⟩,
    ⟨some 3, .assign (.tmp 25), none⟩]
def s72 : SCode := (.seq q72_0 (.seq q72_1 .ret))
theorem s72_strip : stripC (bodyOf Tryd.f72) = s72 := by kernel_rfl
theorem s72_ok : codeOK 26 (bodyOf Tryd.f72) = true := by kernel_rfl
theorem s72_call [Tabs Tryd.prog] {args : List Value} {h : Heap} {Q : Value → Heap → Prop} (hsz : args.length ≤ 26) (hk : aw Tryd.prog 26 s72 (aPost Tryd.prog [.tmp 3] Q) (argEnv 0 args) h) : ACall Tryd.prog 72 args h Q :=
  acall_s Tryd.func72 rfl (enters_of Tryd.func72 (by kernel_rfl) rfl) rfl rfl (by decide) s72_strip s72_ok hsz hk

/-! 95: slices.IndexFunc[[][3]int,[3]int] -/
@[reducible] def q95_0 : SCode := .region [⟨some 4, .assign (.const (.int .i64 0)), none⟩]
@[reducible] def q95_1 : SCode := .region [⟨some 6, .move (.tmp 0), none⟩,
    ⟨some 7, .call { callee := .builtin .len, args := #[.tmp 6], argTypes := #[36] }, none⟩,
    ⟨some 8, .move (.const (.int .i64 0)), none⟩]
@[reducible] def q95_2 : SCode := .region [⟨some 9, .binOp .lss 3 (.tmp 8) (.tmp 7) 3, none⟩]
@[reducible] def q95_3 : SCode := .region [⟨some 10, .move (.tmp 8), none⟩,
    ⟨some 5, .assign (.tmp 10), none⟩]
@[reducible] def q95_4 : SCode := .region [⟨some 11, .move (.tmp 1), none⟩,
    ⟨some 12, .move (.tmp 0), none⟩,
    ⟨some 13, .move (.tmp 5), none⟩,
    ⟨some 14, .indexAddr 36 (.tmp 12) (.tmp 13), none⟩,
    ⟨some 15, .load 40 (.tmp 14), none⟩,
    ⟨some 16, .call { callee := .value (.tmp 11), args := #[.tmp 15], argTypes := #[40] }, none⟩]
@[reducible] def q95_5 : SCode := .region [⟨some 17, .move (.tmp 5), none⟩,
    ⟨some 4, .assign (.tmp 17), none⟩]
@[reducible] def q95_6 : SCode := .region [⟨some 18, .binOp .add 3 (.tmp 8) (.const (.int .i64 1)) 3, none⟩,
    ⟨some 8, .move (.tmp 18), none⟩]
def l95_0 : SCode := (.seq q95_2 (.seq (.cond (.tmp 9) .skip (.exit 0)) (.seq (.block 1 (.seq q95_3 (.seq q95_4 (.cond (.tmp 16) (.seq q95_5 .ret) .skip)))) q95_6)))
@[reducible] def q95_7 : SCode := .region [⟨some 4, .assign (.const (.int .i64 (-1))), none⟩]
def s95 : SCode := (.seq q95_0 (.seq (.seq q95_1 (.block 0 (.loop l95_0))) (.seq q95_7 .ret)))
theorem s95_strip : stripC (bodyOf Tryd.f95) = s95 := by kernel_rfl
theorem s95_ok : codeOK 19 (bodyOf Tryd.f95) = true := by kernel_rfl
theorem s95_call [Tabs Tryd.prog] {args : List Value} {h : Heap} {Q : Value → Heap → Prop} (hsz : args.length ≤ 19) (hk : aw Tryd.prog 19 s95 (aPost Tryd.prog [.tmp 4] Q) (argEnv 0 args) h) : ACall Tryd.prog 95 args h Q :=
  acall_s Tryd.func95 rfl (enters_of Tryd.func95 (by kernel_rfl) rfl) rfl rfl (by decide) s95_strip s95_ok hsz hk

end Go.Proofs.Tryd.Am

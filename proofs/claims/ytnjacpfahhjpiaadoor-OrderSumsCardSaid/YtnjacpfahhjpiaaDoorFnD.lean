/- Printed by gen.py: the code of some functions, without what no step looks at; held against the program's own by the kernel. -/
import Derived.Test.YtnjacpfahhjpiaaDoorAmO
import Derived.Test.YtnjacpfahhjpiaaDoorProg
import Derived.KernelRfl
import Derived.Shelf.Abstract
set_option linter.all false
namespace Go.Proofs.Tryd.Am
open Go.Am
set_option maxRecDepth 100000
/-! 5: planchet planchetlaw07.OrderChances -/
@[reducible] def q5_0 : SCode := .region [⟨some 6, .assign (.const (.bool false)), none⟩]
@[reducible] def q5_1 : SCode := .region [⟨some 12, .move (.tmp 0), none⟩,
    ⟨some 13, .call { callee := .value (.func 18), args := #[.tmp 12], argTypes := #[22] }, none⟩,
    ⟨some 14, .move (.tmp 1), none⟩,
    ⟨some 15, .move (.tmp 2), none⟩,
    ⟨some 16, .call { callee := .value (.func 25), args := #[.tmp 13, .tmp 14, .tmp 15], argTypes := #[22, 3, 3] }, none⟩,
    ⟨some 11, .move (.tmp 16), none⟩,
    ⟨some 17, .extract (.tmp 11) 0, none⟩,
    ⟨some 18, .extract (.tmp 11) 1, none⟩,
    ⟨some 7, .alloc 37, none⟩,
    ⟨none, .store 37 (.tmp 7) (.tmp 17), none⟩,
    ⟨some 8, .assign (.tmp 18), none⟩]
@[reducible] def q5_2 : SCode := .region [⟨some 20, .move (.tmp 0), none⟩,
    ⟨some 21, .call { callee := .value (.func 18), args := #[.tmp 20], argTypes := #[22] }, none⟩,
    ⟨some 22, .move (.tmp 1), none⟩,
    ⟨some 23, .call { callee := .value (.func 26), args := #[.tmp 21, .tmp 22], argTypes := #[22, 3] }, none⟩,
    ⟨some 19, .move (.tmp 23), none⟩,
    ⟨some 24, .extract (.tmp 19) 0, none⟩,
    ⟨some 25, .extract (.tmp 19) 1, none⟩,
    ⟨some 9, .alloc 37, none⟩,
    ⟨none, .store 37 (.tmp 9) (.tmp 24), none⟩,
    ⟨some 10, .assign (.tmp 25), none⟩]
@[reducible] def q5_3 : SCode := .region [⟨some 26, .move (.tmp 0), none⟩,
    ⟨some 27, .call { callee := .value (.func 19), args := #[.tmp 26], argTypes := #[22] }, none⟩,
    ⟨some 28, .unOp .not 4 (.tmp 27), none⟩,
    ⟨some 29, .move (.tmp 28), none⟩,
    ⟨some 30, .move (.tmp 0), some (29, false)⟩,
    ⟨some 31, .move (.tmp 1), some (29, false)⟩,
    ⟨some 32, .call { callee := .value (.func 27), args := #[.tmp 30, .tmp 31], argTypes := #[22, 3] }, some (29, false)⟩,
    ⟨some 33, .unOp .not 4 (.tmp 32), some (29, false)⟩,
    ⟨some 34, .pick (.tmp 29) (.const (.bool true)) (.tmp 33), none⟩]
@[reducible] def q5_4 : SCode := .region [⟨some 35, .load 37 (.tmp 7), none⟩,
    ⟨some 36, .call { callee := .value (.func 28), args := #[.tmp 35], argTypes := #[37] }, none⟩,
    ⟨some 37, .move (.tmp 36), none⟩,
    ⟨some 38, .load 37 (.tmp 9), some (37, true)⟩,
    ⟨some 39, .call { callee := .value (.func 28), args := #[.tmp 38], argTypes := #[37] }, some (37, true)⟩,
    ⟨some 40, .pick (.tmp 37) (.tmp 39) (.const (.bool false)), none⟩,
    ⟨some 41, .move (.tmp 40), none⟩,
    ⟨some 42, .move (.tmp 8), some (41, true)⟩,
    ⟨some 43, .binOp .eql 23 (.tmp 42) (.const (.int .i64 2)) 23, some (41, true)⟩,
    ⟨some 44, .pick (.tmp 41) (.tmp 43) (.const (.bool false)), none⟩,
    ⟨some 45, .move (.tmp 44), none⟩,
    ⟨some 46, .move (.tmp 10), some (45, true)⟩,
    ⟨some 47, .binOp .eql 23 (.tmp 46) (.const (.int .i64 2)) 23, some (45, true)⟩,
    ⟨some 48, .pick (.tmp 45) (.tmp 47) (.const (.bool false)), none⟩,
    ⟨some 49, .move (.tmp 48), none⟩,
    ⟨some 50, .call { callee := .value (.func 20), args := #[], argTypes := #[] }, some (49, true)⟩,
    ⟨some 51, .pick (.tmp 49) (.tmp 50) (.const (.bool false)), none⟩,
    ⟨some 6, .assign (.tmp 51), none⟩]
def q5_5 : SCode := .draw [⟨some 52, .load 37 (.tmp 9), none⟩,
    ⟨some 53, .move (.tmp 0), none⟩,
    ⟨some 54, .move (.tmp 1), none⟩,
    ⟨some 55, .call { callee := .value (.func 29), args := #[.tmp 53, .tmp 54], argTypes := #[22, 3] }, none⟩,
    ⟨some 56, .binOp .neq 37 (.tmp 52) (.tmp 55) 37, none⟩,
    ⟨some 57, .move (.tmp 56), none⟩,
    ⟨some 58, .move (.tmp 10), some (57, false)⟩,
    ⟨some 59, .binOp .neq 23 (.tmp 58) (.const (.int .i64 0)) 23, some (57, false)⟩,
    ⟨some 60, .pick (.tmp 57) (.const (.bool true)) (.tmp 59), none⟩,
    ⟨some 61, .move (.tmp 60), none⟩,
    ⟨some 62, .call { callee := .value (.func 20), args := #[], argTypes := #[] }, some (61, false)⟩,
    ⟨some 63, .unOp .not 4 (.tmp 62), some (61, false)⟩,
    ⟨some 64, .pick (.tmp 61) (.const (.bool true)) (.tmp 63), none⟩]
   [[], [], [], [1, 2], [0, 3], [4, 3], [5], [6, 5], [5, 7], [8, 5], [9, 9], [10, 9], [9, 11]]
@[reducible] def q5_6 : SCode := .region [⟨some 6, .assign (.const (.bool false)), none⟩]
@[reducible] def q5_7 : SCode := .region [⟨some 65, .move (.tmp 0), none⟩,
    ⟨some 66, .move (.tmp 2), none⟩,
    ⟨some 67, .call { callee := .value (.func 27), args := #[.tmp 65, .tmp 66], argTypes := #[22, 3] }, none⟩,
    ⟨some 68, .unOp .not 4 (.tmp 67), none⟩,
    ⟨some 69, .move (.tmp 68), none⟩,
    ⟨some 70, .move (.tmp 1), some (69, false)⟩,
    ⟨some 71, .move (.tmp 2), some (69, false)⟩,
    ⟨some 72, .binOp .eql 3 (.tmp 70) (.tmp 71) 3, some (69, false)⟩,
    ⟨some 73, .pick (.tmp 69) (.const (.bool true)) (.tmp 72), none⟩]
@[reducible] def q5_8 : SCode := .region [⟨some 74, .load 37 (.tmp 7), none⟩,
    ⟨some 75, .call { callee := .value (.func 28), args := #[.tmp 74], argTypes := #[37] }, none⟩,
    ⟨some 76, .move (.tmp 75), none⟩,
    ⟨some 77, .move (.tmp 8), some (76, true)⟩,
    ⟨some 78, .binOp .eql 23 (.tmp 77) (.const (.int .i64 2)) 23, some (76, true)⟩,
    ⟨some 79, .pick (.tmp 76) (.tmp 78) (.const (.bool false)), none⟩,
    ⟨some 6, .assign (.tmp 79), none⟩]
def q5_9 : SCode := .draw [⟨some 80, .load 37 (.tmp 7), none⟩,
    ⟨some 81, .move (.tmp 0), none⟩,
    ⟨some 82, .move (.tmp 1), none⟩,
    ⟨some 83, .move (.tmp 2), none⟩,
    ⟨some 84, .call { callee := .value (.func 30), args := #[.tmp 81, .tmp 82, .tmp 83], argTypes := #[22, 3, 3] }, none⟩,
    ⟨some 85, .binOp .eql 37 (.tmp 80) (.tmp 84) 37, none⟩,
    ⟨some 86, .move (.tmp 85), none⟩,
    ⟨some 87, .move (.tmp 8), some (86, true)⟩,
    ⟨some 88, .binOp .eql 23 (.tmp 87) (.const (.int .i64 0)) 23, some (86, true)⟩,
    ⟨some 89, .pick (.tmp 86) (.tmp 88) (.const (.bool false)), none⟩,
    ⟨some 6, .assign (.tmp 89), none⟩]
   [[], [], [], [], [1, 2, 3], [0, 4], [5, 4], [6], [7, 6], [6, 8], [9, 6, 0, 1, 2, 3, 4, 5, 6, 7, 8, 9]]
def s5 : SCode := (.seq q5_0 (.seq q5_1 (.seq q5_2 (.seq (.seq q5_3 (.cond (.tmp 34) (.seq q5_4 .ret) .skip)) (.seq (.seq q5_5 (.cond (.tmp 64) (.seq q5_6 .ret) .skip)) (.seq (.seq q5_7 (.cond (.tmp 73) (.seq q5_8 .ret) .skip)) (.seq q5_9 .ret)))))))
theorem s5_strip : stripC (bodyOf Tryd.f5) = s5 := by kernel_rfl
theorem s5_ok : codeOK 90 (bodyOf Tryd.f5) = true := by kernel_rfl
theorem s5_call [Tabs Tryd.prog] {args : List Value} {h : Heap} {Q : Value → Heap → Prop} (hsz : args.length ≤ 90) (hk : aw Tryd.prog 90 s5 (aPost Tryd.prog [.tmp 6] Q) (argEnv 0 args) h) : ACall Tryd.prog 5 args h Q :=
  acall_s Tryd.func5 rfl (enters_of Tryd.func5 (by kernel_rfl) rfl) rfl rfl (by decide) s5_strip s5_ok hsz hk

/-! 6: planchet planchetlaw07.OrderLines -/
@[reducible] def q6_0 : SCode := .region [⟨some 2, .assign (.const (.bool false)), none⟩]
@[reducible] def q6_1 : SCode := .region [⟨some 8, .move (.tmp 0), none⟩,
    ⟨some 9, .call { callee := .value (.func 18), args := #[.tmp 8], argTypes := #[22] }, none⟩,
    ⟨some 10, .call { callee := .value (.func 31), args := #[.tmp 9], argTypes := #[22] }, none⟩,
    ⟨some 7, .move (.tmp 10), none⟩,
    ⟨some 11, .extract (.tmp 7) 0, none⟩,
    ⟨some 12, .extract (.tmp 7) 1, none⟩,
    ⟨some 3, .assign (.tmp 11), none⟩,
    ⟨some 4, .assign (.tmp 12), none⟩]
@[reducible] def q6_2 : SCode := .region [⟨some 14, .move (.tmp 0), none⟩,
    ⟨some 15, .call { callee := .value (.func 18), args := #[.tmp 14], argTypes := #[22] }, none⟩,
    ⟨some 16, .call { callee := .value (.func 17), args := #[.tmp 15], argTypes := #[22] }, none⟩,
    ⟨some 13, .move (.tmp 16), none⟩,
    ⟨some 17, .extract (.tmp 13) 0, none⟩,
    ⟨some 18, .extract (.tmp 13) 1, none⟩,
    ⟨some 5, .assign (.tmp 17), none⟩,
    ⟨some 6, .assign (.tmp 18), none⟩]
@[reducible] def q6_3 : SCode := .region [⟨some 19, .move (.tmp 0), none⟩,
    ⟨some 20, .call { callee := .value (.func 19), args := #[.tmp 19], argTypes := #[22] }, none⟩,
    ⟨some 21, .unOp .not 4 (.tmp 20), none⟩]
@[reducible] def q6_4 : SCode := .region [⟨some 22, .move (.tmp 3), none⟩,
    ⟨some 23, .call { callee := .builtin .len, args := #[.tmp 22], argTypes := #[45] }, none⟩,
    ⟨some 24, .binOp .eql 3 (.tmp 23) (.const (.int .i64 0)) 3, none⟩,
    ⟨some 25, .move (.tmp 24), none⟩,
    ⟨some 26, .move (.tmp 5), some (25, true)⟩,
    ⟨some 27, .binOp .eql 3 (.tmp 26) (.const (.int .i64 0)) 3, some (25, true)⟩,
    ⟨some 28, .pick (.tmp 25) (.tmp 27) (.const (.bool false)), none⟩,
    ⟨some 29, .move (.tmp 28), none⟩,
    ⟨some 30, .move (.tmp 4), some (29, true)⟩,
    ⟨some 31, .binOp .eql 23 (.tmp 30) (.const (.int .i64 2)) 23, some (29, true)⟩,
    ⟨some 32, .pick (.tmp 29) (.tmp 31) (.const (.bool false)), none⟩,
    ⟨some 33, .move (.tmp 32), none⟩,
    ⟨some 34, .move (.tmp 6), some (33, true)⟩,
    ⟨some 35, .binOp .eql 23 (.tmp 34) (.const (.int .i64 2)) 23, some (33, true)⟩,
    ⟨some 36, .pick (.tmp 33) (.tmp 35) (.const (.bool false)), none⟩,
    ⟨some 37, .move (.tmp 36), none⟩,
    ⟨some 38, .call { callee := .value (.func 20), args := #[], argTypes := #[] }, some (37, true)⟩,
    ⟨some 39, .pick (.tmp 37) (.tmp 38) (.const (.bool false)), none⟩,
    ⟨some 2, .assign (.tmp 39), none⟩]
@[reducible] def q6_5 : SCode := .region [⟨some 40, .move (.tmp 3), none⟩,
    ⟨some 41, .move (.tmp 0), none⟩,
    ⟨some 42, .call { callee := .value (.func 33), args := #[.tmp 41], argTypes := #[22] }, none⟩,
    ⟨some 43, .call { callee := .value (.func 32), args := #[.tmp 40, .tmp 42, .func 34], argTypes := #[45, 45, 50] }, none⟩,
    ⟨some 44, .move (.tmp 43), none⟩,
    ⟨some 45, .move (.tmp 4), some (44, true)⟩,
    ⟨some 46, .binOp .eql 23 (.tmp 45) (.const (.int .i64 0)) 23, some (44, true)⟩,
    ⟨some 47, .pick (.tmp 44) (.tmp 46) (.const (.bool false)), none⟩,
    ⟨some 48, .move (.tmp 47), none⟩,
    ⟨some 49, .move (.tmp 5), some (48, true)⟩,
    ⟨some 50, .move (.tmp 0), some (48, true)⟩,
    ⟨some 51, .call { callee := .value (.func 35), args := #[.tmp 50], argTypes := #[22] }, some (48, true)⟩,
    ⟨some 52, .binOp .eql 3 (.tmp 49) (.tmp 51) 3, some (48, true)⟩,
    ⟨some 53, .pick (.tmp 48) (.tmp 52) (.const (.bool false)), none⟩,
    ⟨some 54, .move (.tmp 53), none⟩,
    ⟨some 55, .move (.tmp 6), some (54, true)⟩,
    ⟨some 56, .binOp .eql 23 (.tmp 55) (.const (.int .i64 0)) 23, some (54, true)⟩,
    ⟨some 57, .pick (.tmp 54) (.tmp 56) (.const (.bool false)), none⟩,
    ⟨some 58, .move (.tmp 57), none⟩,
    ⟨some 59, .call { callee := .value (.func 20), args := #[], argTypes := #[] }, some (58, true)⟩,
    ⟨some 60, .pick (.tmp 58) (.tmp 59) (.const (.bool false)), none⟩,
    ⟨some 2, .assign (.tmp 60), none⟩]
def s6 : SCode := (.seq q6_0 (.seq q6_1 (.seq q6_2 (.seq (.seq q6_3 (.cond (.tmp 21) (.seq q6_4 .ret) .skip)) (.seq q6_5 .ret)))))
theorem s6_strip : stripC (bodyOf Tryd.f6) = s6 := by kernel_rfl
theorem s6_ok : codeOK 61 (bodyOf Tryd.f6) = true := by kernel_rfl
theorem s6_call [Tabs Tryd.prog] {args : List Value} {h : Heap} {Q : Value → Heap → Prop} (hsz : args.length ≤ 61) (hk : aw Tryd.prog 61 s6 (aPost Tryd.prog [.tmp 2] Q) (argEnv 0 args) h) : ACall Tryd.prog 6 args h Q :=
  acall_s Tryd.func6 rfl (enters_of Tryd.func6 (by kernel_rfl) rfl) rfl rfl (by decide) s6_strip s6_ok hsz hk

/-! 25: planchet order.Chance -/
@[reducible] def q25_0 : SCode := .region [⟨some 6, .alloc 37, none⟩,
    ⟨some 7, .assign (.const (.int .i64 0)), none⟩]
@[reducible] def q25_1 : SCode := .region [⟨some 11, .move (.tmp 0), none⟩,
    ⟨some 12, .call { callee := .value (.func 64), args := #[.tmp 11], argTypes := #[22] }, none⟩,
    ⟨some 10, .move (.tmp 12), none⟩,
    ⟨some 13, .extract (.tmp 10) 0, none⟩,
    ⟨some 14, .extract (.tmp 10) 1, none⟩,
    ⟨some 8, .alloc 77, none⟩,
    ⟨none, .store 77 (.tmp 8) (.tmp 13), none⟩,
    ⟨some 9, .assign (.tmp 14), none⟩]
@[reducible] def q25_2 : SCode := .region [⟨some 15, .move (.tmp 9), none⟩,
    ⟨some 16, .unOp .not 4 (.tmp 15), none⟩,
    ⟨some 17, .move (.tmp 16), none⟩,
    ⟨some 18, .load 77 (.tmp 8), some (17, false)⟩,
    ⟨some 19, .move (.tmp 1), some (17, false)⟩,
    ⟨some 20, .call { callee := .value (.func 67), args := #[.tmp 18, .tmp 19], argTypes := #[77, 3] }, some (17, false)⟩,
    ⟨some 21, .unOp .not 4 (.tmp 20), some (17, false)⟩,
    ⟨some 22, .pick (.tmp 17) (.const (.bool true)) (.tmp 21), none⟩,
    ⟨some 23, .move (.tmp 22), none⟩,
    ⟨some 24, .load 77 (.tmp 8), some (23, false)⟩,
    ⟨some 25, .move (.tmp 2), some (23, false)⟩,
    ⟨some 26, .call { callee := .value (.func 67), args := #[.tmp 24, .tmp 25], argTypes := #[77, 3] }, some (23, false)⟩,
    ⟨some 27, .unOp .not 4 (.tmp 26), some (23, false)⟩,
    ⟨some 28, .pick (.tmp 23) (.const (.bool true)) (.tmp 27), none⟩,
    ⟨some 29, .move (.tmp 28), none⟩,
    ⟨some 30, .move (.tmp 1), some (29, false)⟩,
    ⟨some 31, .move (.tmp 2), some (29, false)⟩,
    ⟨some 32, .binOp .eql 3 (.tmp 30) (.tmp 31) 3, some (29, false)⟩,
    ⟨some 33, .pick (.tmp 29) (.const (.bool true)) (.tmp 32), none⟩]
@[reducible] def q25_3 : SCode := .region [⟨some 34, .build 37 #[], none⟩,
    ⟨none, .store 37 (.tmp 6) (.tmp 34), none⟩,
    ⟨some 7, .assign (.const (.int .i64 2)), none⟩]
def q25_4 : SCode := .draw [⟨some 35, .load 77 (.tmp 8), none⟩,
    ⟨some 36, .move (.tmp 1), none⟩,
    ⟨some 37, .move (.tmp 2), none⟩,
    ⟨some 38, .call { callee := .value (.func 72), args := #[.tmp 35, .tmp 36, .tmp 37], argTypes := #[77, 3, 3] }, none⟩,
    ⟨some 39, .load 77 (.tmp 8), none⟩,
    ⟨some 40, .call { callee := .value (.func 65), args := #[.tmp 39], argTypes := #[77] }, none⟩,
    ⟨some 41, .call { callee := .value (.func 73), args := #[.tmp 38, .tmp 40], argTypes := #[3, 3] }, none⟩,
    ⟨none, .store 37 (.tmp 6) (.tmp 41), none⟩,
    ⟨some 7, .assign (.const (.int .i64 0)), none⟩]
   [[], [], [], [0, 1, 2], [], [4, 3], [3, 5, 5], [6, 6, 0, 1, 2, 3, 4, 5, 6], [7, 0, 1, 2, 3, 4, 5, 6, 7]]
def s25 : SCode := (.seq q25_0 (.seq q25_1 (.seq (.seq q25_2 (.cond (.tmp 33) (.seq q25_3 .ret) .skip)) (.seq q25_4 .ret))))
theorem s25_strip : stripC (bodyOf Tryd.f25) = s25 := by kernel_rfl
theorem s25_ok : codeOK 42 (bodyOf Tryd.f25) = true := by kernel_rfl
theorem s25_call [Tabs Tryd.prog] {args : List Value} {h : Heap} {Q : Value → Heap → Prop} (hsz : args.length ≤ 42) (hk : aw Tryd.prog 42 s25 (aPost Tryd.prog [.cell 6 37, .tmp 7] Q) (argEnv 0 args) h) : ACall Tryd.prog 25 args h Q :=
  acall_s Tryd.func25 rfl (enters_of Tryd.func25 (by kernel_rfl) rfl) rfl rfl (by decide) s25_strip s25_ok hsz hk

/-! 26: planchet order.Height -/
@[reducible] def q26_0 : SCode := .region [⟨some 4, .alloc 37, none⟩,
    ⟨some 5, .assign (.const (.int .i64 0)), none⟩]
@[reducible] def q26_1 : SCode := .region [⟨some 11, .move (.tmp 0), none⟩,
    ⟨some 12, .call { callee := .value (.func 64), args := #[.tmp 11], argTypes := #[22] }, none⟩,
    ⟨some 10, .move (.tmp 12), none⟩,
    ⟨some 13, .extract (.tmp 10) 0, none⟩,
    ⟨some 14, .extract (.tmp 10) 1, none⟩,
    ⟨some 6, .alloc 77, none⟩,
    ⟨none, .store 77 (.tmp 6) (.tmp 13), none⟩,
    ⟨some 7, .assign (.tmp 14), none⟩]
@[reducible] def q26_2 : SCode := .region [⟨some 15, .move (.tmp 7), none⟩,
    ⟨some 16, .unOp .not 4 (.tmp 15), none⟩,
    ⟨some 17, .move (.tmp 16), none⟩,
    ⟨some 18, .load 77 (.tmp 6), some (17, false)⟩,
    ⟨some 19, .move (.tmp 1), some (17, false)⟩,
    ⟨some 20, .call { callee := .value (.func 67), args := #[.tmp 18, .tmp 19], argTypes := #[77, 3] }, some (17, false)⟩,
    ⟨some 21, .unOp .not 4 (.tmp 20), some (17, false)⟩,
    ⟨some 22, .pick (.tmp 17) (.const (.bool true)) (.tmp 21), none⟩]
@[reducible] def q26_3 : SCode := .region [⟨some 23, .build 37 #[], none⟩,
    ⟨none, .store 37 (.tmp 4) (.tmp 23), none⟩,
    ⟨some 5, .assign (.const (.int .i64 2)), none⟩]
@[reducible] def q26_4 : SCode := .region [⟨some 8, .assign (.const (.int .i64 0)), none⟩]
@[reducible] def q26_5 : SCode := .region [⟨some 24, .fieldAddr 77 (.tmp 6) 0, none⟩,
    ⟨some 25, .load 3 (.tmp 24), none⟩,
    ⟨some 26, .move (.const (.int .i64 0)), none⟩]
@[reducible] def q26_6 : SCode := .region [⟨some 27, .binOp .lss 3 (.tmp 26) (.tmp 25) 3, none⟩]
@[reducible] def q26_7 : SCode := .region [⟨some 28, .move (.tmp 26), none⟩,
    ⟨some 9, .assign (.tmp 28), none⟩]
@[reducible] def q26_8 : SCode := .region [⟨some 29, .move (.tmp 9), none⟩,
    ⟨some 30, .move (.tmp 1), none⟩,
    ⟨some 31, .binOp .neq 3 (.tmp 29) (.tmp 30) 3, none⟩]
@[reducible] def q26_9 : SCode := .region [⟨some 32, .move (.tmp 8), none⟩,
    ⟨some 33, .load 77 (.tmp 6), none⟩,
    ⟨some 34, .move (.tmp 9), none⟩,
    ⟨some 35, .move (.tmp 1), none⟩,
    ⟨some 36, .call { callee := .value (.func 72), args := #[.tmp 33, .tmp 34, .tmp 35], argTypes := #[77, 3, 3] }, none⟩,
    ⟨some 37, .binOp .add 3 (.tmp 32) (.tmp 36) 3, none⟩,
    ⟨some 8, .assign (.tmp 37), none⟩]
@[reducible] def q26_10 : SCode := .region [⟨some 38, .binOp .add 3 (.tmp 26) (.const (.int .i64 1)) 3, none⟩,
    ⟨some 26, .move (.tmp 38), none⟩]
def l26_0 : SCode := (.seq q26_6 (.seq (.cond (.tmp 27) .skip (.exit 0)) (.seq (.block 1 (.seq q26_7 (.seq q26_8 (.cond (.tmp 31) q26_9 .skip)))) q26_10)))
@[reducible] def q26_11 : SCode := .region [⟨some 39, .move (.tmp 8), none⟩,
    ⟨some 40, .load 77 (.tmp 6), none⟩,
    ⟨some 41, .call { callee := .value (.func 65), args := #[.tmp 40], argTypes := #[77] }, none⟩,
    ⟨some 42, .call { callee := .value (.func 73), args := #[.tmp 39, .tmp 41], argTypes := #[3, 3] }, none⟩,
    ⟨none, .store 37 (.tmp 4) (.tmp 42), none⟩,
    ⟨some 5, .assign (.const (.int .i64 0)), none⟩]
def s26 : SCode := (.seq q26_0 (.seq q26_1 (.seq (.seq q26_2 (.cond (.tmp 22) (.seq q26_3 .ret) .skip)) (.seq q26_4 (.seq (.seq q26_5 (.block 0 (.loop l26_0))) (.seq q26_11 .ret))))))
theorem s26_strip : stripC (bodyOf Tryd.f26) = s26 := by kernel_rfl
theorem s26_ok : codeOK 43 (bodyOf Tryd.f26) = true := by kernel_rfl
theorem s26_call [Tabs Tryd.prog] {args : List Value} {h : Heap} {Q : Value → Heap → Prop} (hsz : args.length ≤ 43) (hk : aw Tryd.prog 43 s26 (aPost Tryd.prog [.cell 4 37, .tmp 5] Q) (argEnv 0 args) h) : ACall Tryd.prog 26 args h Q :=
  acall_s Tryd.func26 rfl (enters_of Tryd.func26 (by kernel_rfl) rfl) rfl rfl (by decide) s26_strip s26_ok hsz hk

/-! 28: planchet planchetlaw07.none -/
@[reducible] def q28_0 : SCode := .region [⟨some 1, .box 37 (.tmp 0), none⟩,
    ⟨some 2, .assign (.const (.bool false)), none⟩]
@[reducible] def q28_1 : SCode := .region [⟨some 3, .load 37 (.tmp 1), none⟩,
    ⟨some 4, .build 37 #[], none⟩,
    ⟨some 5, .binOp .eql 37 (.tmp 3) (.tmp 4) 37, none⟩,
    ⟨some 2, .assign (.tmp 5), none⟩]
def s28 : SCode := (.seq q28_0 (.seq q28_1 .ret))
theorem s28_strip : stripC (bodyOf Tryd.f28) = s28 := by kernel_rfl
theorem s28_ok : codeOK 6 (bodyOf Tryd.f28) = true := by kernel_rfl
theorem s28_call [Tabs Tryd.prog] {args : List Value} {h : Heap} {Q : Value → Heap → Prop} (hsz : args.length ≤ 6) (hk : aw Tryd.prog 6 s28 (aPost Tryd.prog [.tmp 2] Q) (argEnv 0 args) h) : ACall Tryd.prog 28 args h Q :=
  acall_s Tryd.func28 rfl (enters_of Tryd.func28 (by kernel_rfl) rfl) rfl rfl (by decide) s28_strip s28_ok hsz hk

/-! 29: planchet planchetref07.Height -/
@[reducible] def q29_0 : SCode := .region [⟨some 4, .alloc 37, none⟩]
@[reducible] def q29_1 : SCode := .region [⟨some 5, .assign (.const (.int .i64 0)), none⟩]
@[reducible] def q29_2 : SCode := .region [⟨some 11, .move (.tmp 0), none⟩,
    ⟨some 12, .call { callee := .value (.func 33), args := #[.tmp 11], argTypes := #[22] }, none⟩,
    ⟨some 6, .assign (.tmp 12), none⟩]
@[reducible] def q29_3 : SCode := .region [⟨some 13, .move (.tmp 6), none⟩,
    ⟨some 14, .call { callee := .builtin .len, args := #[.tmp 13], argTypes := #[45] }, none⟩,
    ⟨some 15, .move (.const (.int .i64 0)), none⟩]
@[reducible] def q29_4 : SCode := .region [⟨some 16, .binOp .lss 3 (.tmp 15) (.tmp 14) 3, none⟩]
@[reducible] def q29_5 : SCode := .region [⟨some 17, .indexAddr 45 (.tmp 13) (.tmp 15), none⟩,
    ⟨some 18, .load 22 (.tmp 17), none⟩,
    ⟨some 8, .assign (.tmp 18), none⟩]
@[reducible] def q29_6 : SCode := .region [⟨some 19, .move (.tmp 8), none⟩,
    ⟨some 20, .call { callee := .builtin .len, args := #[.tmp 19], argTypes := #[22] }, none⟩,
    ⟨some 21, .move (.const (.int .i64 0)), none⟩]
@[reducible] def q29_7 : SCode := .region [⟨some 22, .binOp .lss 3 (.tmp 21) (.tmp 20) 3, none⟩]
@[reducible] def q29_8 : SCode := .region [⟨some 23, .move (.tmp 21), none⟩,
    ⟨some 24, .indexAddr 22 (.tmp 19) (.tmp 21), none⟩,
    ⟨some 25, .load 3 (.tmp 24), none⟩,
    ⟨some 9, .assign (.tmp 23), none⟩,
    ⟨some 10, .assign (.tmp 25), none⟩]
@[reducible] def q29_9 : SCode := .region [⟨some 26, .move (.tmp 10), none⟩,
    ⟨some 27, .move (.tmp 1), none⟩,
    ⟨some 28, .binOp .eql 3 (.tmp 26) (.tmp 27) 3, none⟩]
@[reducible] def q29_10 : SCode := .region [⟨some 29, .move (.tmp 5), none⟩,
    ⟨some 30, .move (.tmp 9), none⟩,
    ⟨some 31, .binOp .add 3 (.tmp 29) (.tmp 30) 3, none⟩,
    ⟨some 5, .assign (.tmp 31), none⟩]
@[reducible] def q29_11 : SCode := .region [⟨some 32, .binOp .add 3 (.tmp 21) (.const (.int .i64 1)) 3, none⟩,
    ⟨some 21, .move (.tmp 32), none⟩]
def l29_0 : SCode := (.seq q29_7 (.seq (.cond (.tmp 22) .skip (.exit 2)) (.seq (.block 3 (.seq q29_8 (.seq q29_9 (.cond (.tmp 28) q29_10 .skip)))) q29_11)))
@[reducible] def q29_12 : SCode := .region [⟨some 33, .binOp .add 3 (.tmp 15) (.const (.int .i64 1)) 3, none⟩,
    ⟨some 15, .move (.tmp 33), none⟩]
def l29_1 : SCode := (.seq q29_4 (.seq (.cond (.tmp 16) .skip (.exit 0)) (.seq (.block 1 (.seq q29_5 (.seq q29_6 (.block 2 (.loop l29_0))))) q29_12)))
@[reducible] def q29_13 : SCode := .region [⟨some 34, .move (.tmp 5), none⟩,
    ⟨some 35, .move (.tmp 6), none⟩,
    ⟨some 36, .call { callee := .builtin .len, args := #[.tmp 35], argTypes := #[45] }, none⟩,
    ⟨some 37, .call { callee := .value (.func 74), args := #[.tmp 34, .tmp 36], argTypes := #[3, 3] }, none⟩,
    ⟨none, .store 37 (.tmp 4) (.tmp 37), none⟩]
def s29 : SCode := (.seq q29_0 (.seq q29_1 (.seq q29_2 (.seq (.seq q29_3 (.block 0 (.loop l29_1))) (.seq q29_13 .ret)))))
theorem s29_strip : stripC (bodyOf Tryd.f29) = s29 := by kernel_rfl
theorem s29_ok : codeOK 38 (bodyOf Tryd.f29) = true := by kernel_rfl
theorem s29_call [Tabs Tryd.prog] {args : List Value} {h : Heap} {Q : Value → Heap → Prop} (hsz : args.length ≤ 38) (hk : aw Tryd.prog 38 s29 (aPost Tryd.prog [.cell 4 37] Q) (argEnv 0 args) h) : ACall Tryd.prog 29 args h Q :=
  acall_s Tryd.func29 rfl (enters_of Tryd.func29 (by kernel_rfl) rfl) rfl rfl (by decide) s29_strip s29_ok hsz hk

/-! 30: planchet planchetref07.Chance -/
@[reducible] def q30_0 : SCode := .region [⟨some 6, .alloc 37, none⟩]
@[reducible] def q30_1 : SCode := .region [⟨some 8, .move (.tmp 0), none⟩,
    ⟨some 9, .move (.tmp 1), none⟩,
    ⟨some 10, .move (.tmp 2), none⟩,
    ⟨some 11, .call { callee := .value (.func 71), args := #[.tmp 8, .tmp 9, .tmp 10], argTypes := #[22, 3, 3] }, none⟩,
    ⟨some 7, .assign (.tmp 11), none⟩]
@[reducible] def q30_2 : SCode := .region [⟨some 12, .build 37 #[(0, .const (.int .i64 1)), (1, .const (.int .i64 1))], none⟩,
    ⟨none, .store 37 (.tmp 6) (.tmp 12), none⟩]
@[reducible] def q30_3 : SCode := .region [⟨some 14, .move (.tmp 0), none⟩,
    ⟨some 15, .move (.tmp 2), none⟩,
    ⟨some 16, .move (.tmp 1), none⟩,
    ⟨some 17, .call { callee := .value (.func 71), args := #[.tmp 14, .tmp 15, .tmp 16], argTypes := #[22, 3, 3] }, none⟩,
    ⟨some 13, .assign (.tmp 17), none⟩]
@[reducible] def q30_4 : SCode := .region [⟨some 18, .build 37 #[(1, .const (.int .i64 1))], none⟩,
    ⟨none, .store 37 (.tmp 6) (.tmp 18), none⟩]
@[reducible] def q30_5 : SCode := .region [⟨some 19, .move (.tmp 0), none⟩,
    ⟨some 20, .move (.tmp 1), none⟩,
    ⟨some 21, .move (.tmp 2), none⟩,
    ⟨some 22, .call { callee := .value (.func 40), args := #[.tmp 19, .tmp 20, .tmp 21], argTypes := #[22, 3, 3] }, none⟩,
    ⟨some 23, .call { callee := .value (.func 35), args := #[.tmp 22], argTypes := #[22] }, none⟩,
    ⟨some 24, .move (.tmp 0), none⟩,
    ⟨some 25, .call { callee := .value (.func 35), args := #[.tmp 24], argTypes := #[22] }, none⟩,
    ⟨some 26, .call { callee := .value (.func 74), args := #[.tmp 23, .tmp 25], argTypes := #[3, 3] }, none⟩,
    ⟨none, .store 37 (.tmp 6) (.tmp 26), none⟩]
def s30 : SCode := (.seq q30_0 (.seq (.block 0 (.seq q30_1 (.cond (.tmp 7) (.seq q30_2 .ret) (.seq q30_3 (.cond (.tmp 13) (.seq q30_4 .ret) .skip))))) (.seq q30_5 .ret)))
theorem s30_strip : stripC (bodyOf Tryd.f30) = s30 := by kernel_rfl
theorem s30_ok : codeOK 27 (bodyOf Tryd.f30) = true := by kernel_rfl
theorem s30_call [Tabs Tryd.prog] {args : List Value} {h : Heap} {Q : Value → Heap → Prop} (hsz : args.length ≤ 27) (hk : aw Tryd.prog 27 s30 (aPost Tryd.prog [.cell 6 37] Q) (argEnv 0 args) h) : ACall Tryd.prog 30 args h Q :=
  acall_s Tryd.func30 rfl (enters_of Tryd.func30 (by kernel_rfl) rfl) rfl rfl (by decide) s30_strip s30_ok hsz hk

/-! 31: planchet order.Lines -/
@[reducible] def q31_0 : SCode := .region [⟨some 2, .assign (.const (.slice none 0 0)), none⟩,
    ⟨some 3, .assign (.const (.int .i64 0)), none⟩]
@[reducible] def q31_1 : SCode := .region [⟨some 7, .move (.tmp 0), none⟩,
    ⟨some 8, .call { callee := .value (.func 64), args := #[.tmp 7], argTypes := #[22] }, none⟩,
    ⟨some 6, .move (.tmp 8), none⟩,
    ⟨some 9, .extract (.tmp 6) 0, none⟩,
    ⟨some 10, .extract (.tmp 6) 1, none⟩,
    ⟨some 4, .alloc 77, none⟩,
    ⟨none, .store 77 (.tmp 4) (.tmp 9), none⟩,
    ⟨some 5, .assign (.tmp 10), none⟩]
@[reducible] def q31_2 : SCode := .region [⟨some 11, .move (.tmp 5), none⟩,
    ⟨some 12, .unOp .not 4 (.tmp 11), none⟩]
@[reducible] def q31_3 : SCode := .region [⟨some 2, .assign (.const (.slice none 0 0)), none⟩,
    ⟨some 3, .assign (.const (.int .i64 2)), none⟩]
@[reducible] def q31_4 : SCode := .region [⟨some 13, .load 77 (.tmp 4), none⟩,
    ⟨some 14, .call { callee := .value (.func 75), args := #[.tmp 13], argTypes := #[77] }, none⟩,
    ⟨some 2, .assign (.tmp 14), none⟩,
    ⟨some 3, .assign (.const (.int .i64 0)), none⟩]
def s31 : SCode := (.seq q31_0 (.seq q31_1 (.seq (.seq q31_2 (.cond (.tmp 12) (.seq q31_3 .ret) .skip)) (.seq q31_4 .ret))))
theorem s31_strip : stripC (bodyOf Tryd.f31) = s31 := by kernel_rfl
theorem s31_ok : codeOK 15 (bodyOf Tryd.f31) = true := by kernel_rfl
theorem s31_call [Tabs Tryd.prog] {args : List Value} {h : Heap} {Q : Value → Heap → Prop} (hsz : args.length ≤ 15) (hk : aw Tryd.prog 15 s31 (aPost Tryd.prog [.tmp 2, .tmp 3] Q) (argEnv 0 args) h) : ACall Tryd.prog 31 args h Q :=
  acall_s Tryd.func31 rfl (enters_of Tryd.func31 (by kernel_rfl) rfl) rfl rfl (by decide) s31_strip s31_ok hsz hk

/-! 32: slices.EqualFunc[[][]int,[][]int,[]int,[]int] -/
@[reducible] def q32_0 : SCode := .region [⟨some 6, .assign (.const (.bool false)), none⟩]
@[reducible] def q32_1 : SCode := .region [⟨some 10, .move (.tmp 0), none⟩,
    ⟨some 11, .call { callee := .builtin .len, args := #[.tmp 10], argTypes := #[45] }, none⟩,
    ⟨some 12, .move (.tmp 1), none⟩,
    ⟨some 13, .call { callee := .builtin .len, args := #[.tmp 12], argTypes := #[45] }, none⟩,
    ⟨some 14, .binOp .neq 3 (.tmp 11) (.tmp 13) 3, none⟩]
@[reducible] def q32_2 : SCode := .region [⟨some 6, .assign (.const (.bool false)), none⟩]
@[reducible] def q32_3 : SCode := .region [⟨some 15, .move (.tmp 0), none⟩,
    ⟨some 16, .call { callee := .builtin .len, args := #[.tmp 15], argTypes := #[45] }, none⟩,
    ⟨some 17, .move (.const (.int .i64 0)), none⟩]
@[reducible] def q32_4 : SCode := .region [⟨some 18, .binOp .lss 3 (.tmp 17) (.tmp 16) 3, none⟩]
@[reducible] def q32_5 : SCode := .region [⟨some 19, .move (.tmp 17), none⟩,
    ⟨some 20, .indexAddr 45 (.tmp 15) (.tmp 17), none⟩,
    ⟨some 21, .load 22 (.tmp 20), none⟩,
    ⟨some 7, .assign (.tmp 19), none⟩,
    ⟨some 8, .assign (.tmp 21), none⟩]
@[reducible] def q32_6 : SCode := .region [⟨some 22, .move (.tmp 1), none⟩,
    ⟨some 23, .move (.tmp 7), none⟩,
    ⟨some 24, .indexAddr 45 (.tmp 22) (.tmp 23), none⟩,
    ⟨some 25, .load 22 (.tmp 24), none⟩,
    ⟨some 9, .assign (.tmp 25), none⟩]
@[reducible] def q32_7 : SCode := .region [⟨some 26, .move (.tmp 2), none⟩,
    ⟨some 27, .move (.tmp 8), none⟩,
    ⟨some 28, .move (.tmp 9), none⟩,
    ⟨some 29, .call { callee := .value (.tmp 26), args := #[.tmp 27, .tmp 28], argTypes := #[22, 22] }, none⟩,
    ⟨some 30, .unOp .not 4 (.tmp 29), none⟩]
@[reducible] def q32_8 : SCode := .region [⟨some 6, .assign (.const (.bool false)), none⟩]
@[reducible] def q32_9 : SCode := .region [⟨some 31, .binOp .add 3 (.tmp 17) (.const (.int .i64 1)) 3, none⟩,
    ⟨some 17, .move (.tmp 31), none⟩]
def l32_0 : SCode := (.seq q32_4 (.seq (.cond (.tmp 18) .skip (.exit 0)) (.seq (.block 1 (.seq q32_5 (.seq q32_6 (.seq q32_7 (.cond (.tmp 30) (.seq q32_8 .ret) .skip))))) q32_9)))
@[reducible] def q32_10 : SCode := .region [⟨some 6, .assign (.const (.bool true)), none⟩]
def s32 : SCode := (.seq q32_0 (.seq (.seq q32_1 (.cond (.tmp 14) (.seq q32_2 .ret) .skip)) (.seq (.seq q32_3 (.block 0 (.loop l32_0))) (.seq q32_10 .ret))))
theorem s32_strip : stripC (bodyOf Tryd.f32) = s32 := by kernel_rfl
theorem s32_ok : codeOK 32 (bodyOf Tryd.f32) = true := by kernel_rfl
theorem s32_call [Tabs Tryd.prog] {args : List Value} {h : Heap} {Q : Value → Heap → Prop} (hsz : args.length ≤ 32) (hk : aw Tryd.prog 32 s32 (aPost Tryd.prog [.tmp 6] Q) (argEnv 0 args) h) : ACall Tryd.prog 32 args h Q :=
  acall_s Tryd.func32 rfl (enters_of Tryd.func32 (by kernel_rfl) rfl) rfl rfl (by decide) s32_strip s32_ok hsz hk

/-! 33: planchet planchetref07.Lines -/
@[reducible] def q33_0 : SCode := .region [⟨some 2, .assign (.const (.slice none 0 0)), none⟩]
@[reducible] def q33_1 : SCode := .region [⟨some 3, .move (.tmp 0), none⟩,
    ⟨some 4, .call { callee := .value (.func 76), args := #[.tmp 3, .const (.int .i64 0), .const (.slice none 0 0)], argTypes := #[22, 3, 22] }, none⟩,
    ⟨some 2, .assign (.tmp 4), none⟩]
def s33 : SCode := (.seq q33_0 (.seq q33_1 .ret))
theorem s33_strip : stripC (bodyOf Tryd.f33) = s33 := by kernel_rfl
theorem s33_ok : codeOK 5 (bodyOf Tryd.f33) = true := by kernel_rfl
theorem s33_call [Tabs Tryd.prog] {args : List Value} {h : Heap} {Q : Value → Heap → Prop} (hsz : args.length ≤ 5) (hk : aw Tryd.prog 5 s33 (aPost Tryd.prog [.tmp 2] Q) (argEnv 0 args) h) : ACall Tryd.prog 33 args h Q :=
  acall_s Tryd.func33 rfl (enters_of Tryd.func33 (by kernel_rfl) rfl) rfl rfl (by decide) s33_strip s33_ok hsz hk

/-! 73: planchet order.frac -/
@[reducible] def q73_0 : SCode := .region [⟨some 4, .alloc 37, none⟩]
@[reducible] def q73_1 : SCode := .region [⟨some 7, .move (.tmp 0), none⟩,
    ⟨some 8, .move (.tmp 1), none⟩,
    ⟨some 5, .assign (.tmp 7), none⟩,
    ⟨some 6, .assign (.tmp 8), none⟩]
@[reducible] def q73_2 : SCode := .region [⟨some 9, .move (.tmp 6), none⟩,
    ⟨some 10, .binOp .neq 3 (.tmp 9) (.const (.int .i64 0)) 3, none⟩]
def q73_3 : SCode := .draw [⟨some 11, .move (.tmp 6), none⟩,
    ⟨some 12, .move (.tmp 5), none⟩,
    ⟨some 13, .move (.tmp 6), none⟩,
    ⟨some 14, .binOp .rem 3 (.tmp 12) (.tmp 13) 3, none⟩,
    ⟨some 5, .assign (.tmp 11), none⟩,
    ⟨some 6, .assign (.tmp 14), none⟩]
   [[], [], [], [1, 2], [0, 0, 1], [3, 4, 0, 1, 2, 3, 4]]
def l73_0 : SCode := (.seq (.seq q73_2 (.cond (.tmp 10) .skip (.exit 0))) (.block 1 q73_3))
def q73_4 : SCode := .draw [⟨some 15, .move (.tmp 0), none⟩,
    ⟨some 16, .move (.tmp 5), none⟩,
    ⟨some 17, .binOp .quo 3 (.tmp 15) (.tmp 16) 3, none⟩,
    ⟨some 18, .move (.tmp 1), none⟩,
    ⟨some 19, .move (.tmp 5), none⟩,
    ⟨some 20, .binOp .quo 3 (.tmp 18) (.tmp 19) 3, none⟩,
    ⟨some 21, .build 37 #[(0, .tmp 17), (1, .tmp 20)], none⟩,
    ⟨none, .store 37 (.tmp 4) (.tmp 21), none⟩]
   [[], [], [0, 1], [], [], [3, 4], [2, 5], [6, 0, 1, 2, 3, 4, 5, 6]]
def s73 : SCode := (.seq q73_0 (.seq q73_1 (.seq (.block 0 (.loop l73_0)) (.seq q73_4 .ret))))
theorem s73_strip : stripC (bodyOf Tryd.f73) = s73 := by kernel_rfl
theorem s73_ok : codeOK 22 (bodyOf Tryd.f73) = true := by kernel_rfl
theorem s73_call [Tabs Tryd.prog] {args : List Value} {h : Heap} {Q : Value → Heap → Prop} (hsz : args.length ≤ 22) (hk : aw Tryd.prog 22 s73 (aPost Tryd.prog [.cell 4 37] Q) (argEnv 0 args) h) : ACall Tryd.prog 73 args h Q :=
  acall_s Tryd.func73 rfl (enters_of Tryd.func73 (by kernel_rfl) rfl) rfl rfl (by decide) s73_strip s73_ok hsz hk

/-! 74: planchet planchetref07.frac -/
@[reducible] def q74_0 : SCode := .region [⟨some 4, .alloc 37, none⟩]
@[reducible] def q74_1 : SCode := .region [⟨some 7, .move (.tmp 0), none⟩,
    ⟨some 8, .move (.tmp 1), none⟩,
    ⟨some 5, .assign (.tmp 7), none⟩,
    ⟨some 6, .assign (.tmp 8), none⟩]
@[reducible] def q74_2 : SCode := .region [⟨some 9, .move (.tmp 6), none⟩,
    ⟨some 10, .binOp .neq 3 (.tmp 9) (.const (.int .i64 0)) 3, none⟩]
def q74_3 : SCode := .draw [⟨some 11, .move (.tmp 6), none⟩,
    ⟨some 12, .move (.tmp 5), none⟩,
    ⟨some 13, .move (.tmp 6), none⟩,
    ⟨some 14, .binOp .rem 3 (.tmp 12) (.tmp 13) 3, none⟩,
    ⟨some 5, .assign (.tmp 11), none⟩,
    ⟨some 6, .assign (.tmp 14), none⟩]
   [[], [], [], [1, 2], [0, 0, 1], [3, 4, 0, 1, 2, 3, 4]]
def l74_0 : SCode := (.seq (.seq q74_2 (.cond (.tmp 10) .skip (.exit 0))) (.block 1 q74_3))
def q74_4 : SCode := .draw [⟨some 15, .move (.tmp 0), none⟩,
    ⟨some 16, .move (.tmp 5), none⟩,
    ⟨some 17, .binOp .quo 3 (.tmp 15) (.tmp 16) 3, none⟩,
    ⟨some 18, .move (.tmp 1), none⟩,
    ⟨some 19, .move (.tmp 5), none⟩,
    ⟨some 20, .binOp .quo 3 (.tmp 18) (.tmp 19) 3, none⟩,
    ⟨some 21, .build 37 #[(0, .tmp 17), (1, .tmp 20)], none⟩,
    ⟨none, .store 37 (.tmp 4) (.tmp 21), none⟩]
   [[], [], [0, 1], [], [], [3, 4], [2, 5], [6, 0, 1, 2, 3, 4, 5, 6]]
def s74 : SCode := (.seq q74_0 (.seq q74_1 (.seq (.block 0 (.loop l74_0)) (.seq q74_4 .ret))))
theorem s74_strip : stripC (bodyOf Tryd.f74) = s74 := by kernel_rfl
theorem s74_ok : codeOK 22 (bodyOf Tryd.f74) = true := by kernel_rfl
theorem s74_call [Tabs Tryd.prog] {args : List Value} {h : Heap} {Q : Value → Heap → Prop} (hsz : args.length ≤ 22) (hk : aw Tryd.prog 22 s74 (aPost Tryd.prog [.cell 4 37] Q) (argEnv 0 args) h) : ACall Tryd.prog 74 args h Q :=
  acall_s Tryd.func74 rfl (enters_of Tryd.func74 (by kernel_rfl) rfl) rfl rfl (by decide) s74_strip s74_ok hsz hk

/-! 75: (planchet order.order).lines -/
@[reducible] def q75_0 : SCode := .region [⟨some 1, .box 77 (.tmp 0), none⟩,
    ⟨some 2, .assign (.const (.slice none 0 0)), none⟩]
@[reducible] def q75_1 : SCode := .region [⟨some 3, .alloc 45, none⟩]
@[reducible] def q75_2 : SCode := .region [⟨some 4, .alloc 22, none⟩]
@[reducible] def q75_3 : SCode := .region [⟨some 5, .alloc 118, none⟩]
@[reducible] def q75_4 : SCode := .region [⟨some 6, .makeFunc (.func 103) #[] #[.tmp 3, .tmp 4, .tmp 1, .tmp 5], none⟩,
    ⟨none, .store 118 (.tmp 5) (.tmp 6), none⟩]
def q75_5 : SCode := .draw [⟨some 7, .load 118 (.tmp 5), none⟩,
    ⟨some 8, .load 77 (.tmp 1), none⟩,
    ⟨some 9, .call { callee := .value (.func 98), args := #[.tmp 8], argTypes := #[77] }, none⟩,
    ⟨some 10, .call { callee := .value (.tmp 7), args := #[.tmp 9], argTypes := #[3] }, none⟩]
   [[], [], [1], [0, 2, 2]]
@[reducible] def q75_6 : SCode := .region [⟨some 11, .load 45 (.tmp 3), none⟩,
    ⟨some 2, .assign (.tmp 11), none⟩]
def s75 : SCode := (.seq q75_0 (.seq q75_1 (.seq q75_2 (.seq q75_3 (.seq q75_4 (.seq q75_5 (.seq q75_6 .ret)))))))
theorem s75_strip : stripC (bodyOf Tryd.f75) = s75 := by kernel_rfl
theorem s75_ok : codeOK 12 (bodyOf Tryd.f75) = true := by kernel_rfl
theorem s75_call [Tabs Tryd.prog] {args : List Value} {h : Heap} {Q : Value → Heap → Prop} (hsz : args.length ≤ 12) (hk : aw Tryd.prog 12 s75 (aPost Tryd.prog [.tmp 2] Q) (argEnv 0 args) h) : ACall Tryd.prog 75 args h Q :=
  acall_s Tryd.func75 rfl (enters_of Tryd.func75 (by kernel_rfl) rfl) rfl rfl (by decide) s75_strip s75_ok hsz hk

/-! 76: planchet planchetref07.lines -/
@[reducible] def q76_0 : SCode := .region [⟨some 6, .assign (.const (.slice none 0 0)), none⟩]
@[reducible] def q76_1 : SCode := .region [⟨some 12, .move (.tmp 2), none⟩,
    ⟨some 13, .call { callee := .builtin .len, args := #[.tmp 12], argTypes := #[22] }, none⟩,
    ⟨some 7, .assign (.tmp 13), none⟩]
@[reducible] def q76_2 : SCode := .region [⟨some 14, .move (.tmp 7), none⟩,
    ⟨some 15, .move (.tmp 0), none⟩,
    ⟨some 16, .call { callee := .builtin .len, args := #[.tmp 15], argTypes := #[22] }, none⟩,
    ⟨some 17, .binOp .eql 3 (.tmp 14) (.tmp 16) 3, none⟩]
@[reducible] def q76_3 : SCode := .region [⟨some 18, .move (.tmp 2), none⟩,
    ⟨some 19, .buildSlice 45 1 #[(0, .tmp 18)], none⟩,
    ⟨some 6, .assign (.tmp 19), none⟩]
@[reducible] def q76_4 : SCode := .region [⟨some 8, .assign (.const (.slice none 0 0)), none⟩]
@[reducible] def q76_5 : SCode := .region [⟨some 20, .move (.tmp 0), none⟩,
    ⟨some 21, .call { callee := .builtin .len, args := #[.tmp 20], argTypes := #[22] }, none⟩,
    ⟨some 22, .move (.const (.int .i64 0)), none⟩]
@[reducible] def q76_6 : SCode := .region [⟨some 23, .binOp .lss 3 (.tmp 22) (.tmp 21) 3, none⟩]
@[reducible] def q76_7 : SCode := .region [⟨some 24, .move (.tmp 22), none⟩,
    ⟨some 9, .assign (.tmp 24), none⟩]
@[reducible] def q76_8 : SCode := .region [⟨some 25, .move (.tmp 1), none⟩,
    ⟨some 26, .move (.tmp 9), none⟩,
    ⟨some 27, .binOp .shr 3 (.tmp 25) (.tmp 26) 3, none⟩,
    ⟨some 28, .binOp .and 3 (.tmp 27) (.const (.int .i64 1)) 3, none⟩,
    ⟨some 29, .binOp .eql 3 (.tmp 28) (.const (.int .i64 0)) 3, none⟩,
    ⟨some 10, .assign (.tmp 29), none⟩]
@[reducible] def q76_9 : SCode := .region [⟨some 30, .move (.tmp 0), none⟩,
    ⟨some 31, .call { callee := .builtin .len, args := #[.tmp 30], argTypes := #[22] }, none⟩,
    ⟨some 32, .move (.const (.int .i64 0)), none⟩]
@[reducible] def q76_10 : SCode := .region [⟨some 33, .binOp .lss 3 (.tmp 32) (.tmp 31) 3, none⟩]
@[reducible] def q76_11 : SCode := .region [⟨some 34, .move (.tmp 32), none⟩,
    ⟨some 11, .assign (.tmp 34), none⟩]
@[reducible] def q76_12 : SCode := .region [⟨some 35, .move (.tmp 10), none⟩,
    ⟨some 36, .move (.tmp 35), none⟩,
    ⟨some 37, .move (.tmp 1), some (36, true)⟩,
    ⟨some 38, .move (.tmp 11), some (36, true)⟩,
    ⟨some 39, .binOp .shr 3 (.tmp 37) (.tmp 38) 3, some (36, true)⟩,
    ⟨some 40, .binOp .and 3 (.tmp 39) (.const (.int .i64 1)) 3, some (36, true)⟩,
    ⟨some 41, .binOp .eql 3 (.tmp 40) (.const (.int .i64 1)) 3, some (36, true)⟩,
    ⟨some 42, .move (.tmp 41), some (36, true)⟩,
    ⟨some 43, .move (.tmp 0), some (42, false)⟩,
    ⟨some 44, .move (.tmp 11), some (42, false)⟩,
    ⟨some 45, .move (.tmp 9), some (42, false)⟩,
    ⟨some 46, .call { callee := .value (.func 71), args := #[.tmp 43, .tmp 44, .tmp 45], argTypes := #[22, 3, 3] }, some (42, false)⟩,
    ⟨some 47, .unOp .not 4 (.tmp 46), some (42, false)⟩,
    ⟨some 48, .pick (.tmp 42) (.const (.bool true)) (.tmp 47), some (36, true)⟩,
    ⟨some 49, .pick (.tmp 36) (.tmp 48) (.const (.bool false)), none⟩,
    ⟨some 10, .assign (.tmp 49), none⟩]
@[reducible] def q76_13 : SCode := .region [⟨some 50, .binOp .add 3 (.tmp 32) (.const (.int .i64 1)) 3, none⟩,
    ⟨some 32, .move (.tmp 50), none⟩]
def l76_0 : SCode := (.seq q76_10 (.seq (.cond (.tmp 33) .skip (.exit 2)) (.seq (.block 3 (.seq q76_11 q76_12)) q76_13)))
@[reducible] def q76_14 : SCode := .region [⟨some 51, .move (.tmp 10), none⟩]
def q76_15 : SCode := .draw [⟨some 52, .move (.tmp 8), none⟩,
    ⟨some 53, .move (.tmp 0), none⟩,
    ⟨some 54, .move (.tmp 1), none⟩,
    ⟨some 55, .move (.tmp 9), none⟩,
    ⟨some 56, .binOp .shl 3 (.const (.int .i64 1)) (.tmp 55) 3, none⟩,
    ⟨some 57, .binOp .or 3 (.tmp 54) (.tmp 56) 3, none⟩,
    ⟨some 58, .move (.tmp 2), none⟩,
    ⟨some 59, .move (.tmp 7), none⟩,
    ⟨some 60, .move (.tmp 7), none⟩,
    ⟨some 61, .slice 22 (.tmp 58) none (some (.tmp 59)) (some (.tmp 60)), none⟩,
    ⟨some 62, .move (.tmp 9), none⟩,
    ⟨some 63, .buildSlice 22 1 #[(0, .tmp 62)], none⟩,
    ⟨some 64, .call { callee := .builtin .append, args := #[.tmp 61, .tmp 63], argTypes := #[22, 22] }, none⟩,
    ⟨some 65, .call { callee := .value (.func 76), args := #[.tmp 53, .tmp 57, .tmp 64], argTypes := #[22, 3, 22] }, none⟩,
    ⟨some 66, .call { callee := .builtin .append, args := #[.tmp 52, .tmp 65], argTypes := #[45, 45] }, none⟩,
    ⟨some 8, .assign (.tmp 66), none⟩]
   [[], [], [], [], [3], [2, 4], [], [], [], [6, 7, 8], [], [10], [9, 11], [1, 5, 12, 12], [0, 13, 13], [14, 14, 0, 1, 2, 3, 4, 5, 6, 7, 8, 9, 10, 11, 12, 13, 14]]
@[reducible] def q76_16 : SCode := .region [⟨some 67, .binOp .add 3 (.tmp 22) (.const (.int .i64 1)) 3, none⟩,
    ⟨some 22, .move (.tmp 67), none⟩]
def l76_1 : SCode := (.seq q76_6 (.seq (.cond (.tmp 23) .skip (.exit 0)) (.seq (.block 1 (.seq q76_7 (.seq q76_8 (.seq (.seq q76_9 (.block 2 (.loop l76_0))) (.seq q76_14 (.cond (.tmp 51) q76_15 .skip)))))) q76_16)))
@[reducible] def q76_17 : SCode := .region [⟨some 68, .move (.tmp 8), none⟩,
    ⟨some 6, .assign (.tmp 68), none⟩]
def s76 : SCode := (.seq q76_0 (.seq q76_1 (.seq (.seq q76_2 (.cond (.tmp 17) (.seq q76_3 .ret) .skip)) (.seq q76_4 (.seq (.seq q76_5 (.block 0 (.loop l76_1))) (.seq q76_17 .ret))))))
theorem s76_strip : stripC (bodyOf Tryd.f76) = s76 := by kernel_rfl
theorem s76_ok : codeOK 69 (bodyOf Tryd.f76) = true := by kernel_rfl
theorem s76_call [Tabs Tryd.prog] {args : List Value} {h : Heap} {Q : Value → Heap → Prop} (hsz : args.length ≤ 69) (hk : aw Tryd.prog 69 s76 (aPost Tryd.prog [.tmp 6] Q) (argEnv 0 args) h) : ACall Tryd.prog 76 args h Q :=
  acall_s Tryd.func76 rfl (enters_of Tryd.func76 (by kernel_rfl) rfl) rfl rfl (by decide) s76_strip s76_ok hsz hk

/-! 103: (planchet order.order).lines$1 -/
@[reducible] def q103_0 : SCode := .region [⟨some 5, .box 3 (.tmp 0), none⟩]
@[reducible] def q103_1 : SCode := .region [⟨some 7, .load 3 (.tmp 5), none⟩,
    ⟨some 8, .binOp .eql 3 (.tmp 7) (.const (.int .i64 0)) 3, none⟩]
def q103_2 : SCode := .draw [⟨some 9, .load 45 (.tmp 1), none⟩,
    ⟨some 10, .load 22 (.tmp 2), none⟩,
    ⟨some 11, .call { callee := .value (.func 66), args := #[.tmp 10], argTypes := #[22] }, none⟩,
    ⟨some 12, .buildSlice 45 1 #[(0, .tmp 11)], none⟩,
    ⟨some 13, .call { callee := .builtin .append, args := #[.tmp 9, .tmp 12], argTypes := #[45, 45] }, none⟩,
    ⟨none, .store 45 (.tmp 1) (.tmp 13), none⟩]
   [[], [], [1], [2], [0, 3, 2], [4, 4, 0, 1, 2, 3, 4]]
@[reducible] def q103_3 : SCode := .region [⟨some 14, .load 3 (.tmp 5), none⟩,
    ⟨some 15, .call { callee := .value (.func 101), args := #[.tmp 14], argTypes := #[3] }, none⟩]
@[reducible] def q103_4 : SCode := .region [⟨some 6, .assign (.tmp 16), none⟩]
def q103_5 : SCode := .draw [⟨some 17, .load 77 (.tmp 3), none⟩,
    ⟨some 18, .move (.tmp 6), none⟩,
    ⟨some 19, .call { callee := .value (.func 81), args := #[.tmp 17, .tmp 18], argTypes := #[77, 3] }, none⟩,
    ⟨some 20, .load 3 (.tmp 5), none⟩,
    ⟨some 21, .binOp .and 3 (.tmp 19) (.tmp 20) 3, none⟩,
    ⟨some 22, .binOp .eql 3 (.tmp 21) (.const (.int .i64 0)) 3, none⟩]
   [[], [], [0, 1], [], [2, 3], [4]]
@[reducible] def q103_6 : SCode := .region [⟨some 23, .load 22 (.tmp 2), none⟩,
    ⟨some 24, .move (.tmp 6), none⟩,
    ⟨some 25, .buildSlice 22 1 #[(0, .tmp 24)], none⟩,
    ⟨some 26, .call { callee := .builtin .append, args := #[.tmp 23, .tmp 25], argTypes := #[22, 22] }, none⟩,
    ⟨none, .store 22 (.tmp 2) (.tmp 26), none⟩]
def q103_7 : SCode := .draw [⟨some 27, .load 118 (.tmp 4), none⟩,
    ⟨some 28, .load 3 (.tmp 5), none⟩,
    ⟨some 29, .move (.tmp 6), none⟩,
    ⟨some 30, .binOp .shl 3 (.const (.int .i64 1)) (.tmp 29) 3, none⟩,
    ⟨some 31, .binOp .andNot 3 (.tmp 28) (.tmp 30) 3, none⟩,
    ⟨some 32, .call { callee := .value (.tmp 27), args := #[.tmp 31], argTypes := #[3] }, none⟩]
   [[], [], [], [2], [1, 3], [0, 4]]
@[reducible] def q103_8 : SCode := .region [⟨some 33, .load 22 (.tmp 2), none⟩,
    ⟨some 34, .load 22 (.tmp 2), none⟩,
    ⟨some 35, .call { callee := .builtin .len, args := #[.tmp 34], argTypes := #[22] }, none⟩,
    ⟨some 36, .binOp .sub 3 (.tmp 35) (.const (.int .i64 1)) 3, none⟩,
    ⟨some 37, .slice 22 (.tmp 33) none (some (.tmp 36)) none, none⟩,
    ⟨none, .store 22 (.tmp 2) (.tmp 37), none⟩]
def r103_0_a : SCode := q103_4
def r103_0_b : SCode := (.block 1 (.seq q103_5 (.cond (.tmp 22) (.seq q103_6 (.seq q103_7 q103_8)) .skip)))
def s103 : SCode := (.seq q103_0 (.seq (.seq q103_1 (.cond (.tmp 8) q103_2 .skip)) (.seq q103_3 (.block 0 (.range (.tmp 15) [16] r103_0_a r103_0_b)))))
theorem s103_strip : stripC (bodyOf Tryd.f103) = s103 := by kernel_rfl
theorem s103_ok : codeOK 38 (bodyOf Tryd.f103) = true := by kernel_rfl
theorem s103_call [Tabs Tryd.prog] {args : List Value} {h : Heap} {Q : Value → Heap → Prop} (hsz : args.length ≤ 38) (hk : aw Tryd.prog 38 s103 (aPost Tryd.prog [] Q) (argEnv 0 args) h) : ACall Tryd.prog 103 args h Q :=
  acall_s Tryd.func103 rfl (enters_of Tryd.func103 (by kernel_rfl) rfl) rfl rfl (by decide) s103_strip s103_ok hsz hk

end Go.Proofs.Tryd.Am

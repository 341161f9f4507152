/- Printed by gen.py: the code of some functions, without what no step looks at; held against the program's own by the kernel. -/
import Derived.Test.YtaagkbbphgdcdaaDoorAmO
import Derived.Test.YtaagkbbphgdcdaaDoorProg
import Derived.KernelRfl
import Derived.Shelf.Abstract
set_option linter.all false
namespace Go.Proofs.Tryd.Am
open Go.Am
set_option maxRecDepth 100000
/-! 7: planchet planchetlaw05.SurePairs -/
@[reducible] def q7_0 : SCode := .region [⟨some 4, .assign (.const (.bool false)), none⟩]
@[reducible] def q7_1 : SCode := .region [⟨some 16, .move (.tmp 0), none⟩,
    ⟨some 17, .call { callee := .value (.func 18), args := #[.tmp 16], argTypes := #[22] }, none⟩,
    ⟨some 18, .move (.tmp 0), none⟩,
    ⟨some 19, .call { callee := .value (.func 18), args := #[.tmp 18], argTypes := #[22] }, none⟩,
    ⟨some 20, .call { callee := .value (.func 31), args := #[.tmp 17, .tmp 19], argTypes := #[22, 22] }, none⟩,
    ⟨some 15, .move (.tmp 20), none⟩,
    ⟨some 21, .extract (.tmp 15) 0, none⟩,
    ⟨some 22, .extract (.tmp 15) 1, none⟩,
    ⟨some 5, .assign (.tmp 21), none⟩,
    ⟨some 6, .assign (.tmp 22), none⟩]
@[reducible] def q7_2 : SCode := .region [⟨some 23, .move (.tmp 6), none⟩,
    ⟨some 24, .binOp .neq 23 (.tmp 23) (.const (.int .i64 0)) 23, none⟩]
@[reducible] def q7_3 : SCode := .region [⟨some 25, .move (.tmp 6), none⟩,
    ⟨some 26, .binOp .eql 23 (.tmp 25) (.const (.int .i64 2)) 23, none⟩,
    ⟨some 27, .move (.tmp 26), none⟩,
    ⟨some 28, .move (.tmp 6), some (27, false)⟩,
    ⟨some 29, .binOp .eql 23 (.tmp 28) (.const (.int .i64 6)) 23, some (27, false)⟩,
    ⟨some 30, .pick (.tmp 27) (.const (.bool true)) (.tmp 29), none⟩,
    ⟨some 31, .move (.tmp 30), none⟩,
    ⟨some 32, .call { callee := .value (.func 21), args := #[], argTypes := #[] }, some (31, true)⟩,
    ⟨some 33, .pick (.tmp 31) (.tmp 32) (.const (.bool false)), none⟩,
    ⟨some 4, .assign (.tmp 33), none⟩]
@[reducible] def q7_4 : SCode := .region [⟨some 35, .move (.tmp 0), none⟩,
    ⟨some 36, .call { callee := .value (.func 18), args := #[.tmp 35], argTypes := #[22] }, none⟩,
    ⟨some 37, .call { callee := .value (.func 19), args := #[.tmp 36, .const (.int .i64 2)], argTypes := #[22, 3] }, none⟩,
    ⟨some 34, .move (.tmp 37), none⟩,
    ⟨some 38, .extract (.tmp 34) 0, none⟩,
    ⟨some 39, .extract (.tmp 34) 1, none⟩,
    ⟨some 7, .assign (.tmp 38), none⟩,
    ⟨some 8, .assign (.tmp 39), none⟩]
@[reducible] def q7_5 : SCode := .region [⟨some 41, .move (.tmp 5), none⟩,
    ⟨some 42, .call { callee := .value (.func 26), args := #[.tmp 41], argTypes := #[22] }, none⟩,
    ⟨some 43, .call { callee := .value (.func 19), args := #[.tmp 42, .const (.int .i64 1)], argTypes := #[22, 3] }, none⟩,
    ⟨some 40, .move (.tmp 43), none⟩,
    ⟨some 44, .extract (.tmp 40) 0, none⟩,
    ⟨some 45, .extract (.tmp 40) 1, none⟩,
    ⟨some 9, .assign (.tmp 44), none⟩,
    ⟨some 10, .assign (.tmp 45), none⟩]
@[reducible] def q7_6 : SCode := .region [⟨some 47, .move (.tmp 0), none⟩,
    ⟨some 48, .call { callee := .value (.func 18), args := #[.tmp 47], argTypes := #[22] }, none⟩,
    ⟨some 49, .move (.tmp 1), none⟩,
    ⟨some 50, .call { callee := .value (.func 18), args := #[.tmp 49], argTypes := #[22] }, none⟩,
    ⟨some 51, .call { callee := .value (.func 17), args := #[.tmp 48, .const (.int .i64 2), .tmp 50], argTypes := #[22, 3, 22] }, none⟩,
    ⟨some 46, .move (.tmp 51), none⟩,
    ⟨some 52, .extract (.tmp 46) 0, none⟩,
    ⟨some 53, .extract (.tmp 46) 1, none⟩,
    ⟨some 11, .assign (.tmp 52), none⟩,
    ⟨some 12, .assign (.tmp 53), none⟩]
@[reducible] def q7_7 : SCode := .region [⟨some 55, .move (.tmp 5), none⟩,
    ⟨some 56, .move (.tmp 1), none⟩,
    ⟨some 57, .call { callee := .value (.func 18), args := #[.tmp 56], argTypes := #[22] }, none⟩,
    ⟨some 58, .call { callee := .value (.func 17), args := #[.tmp 55, .const (.int .i64 1), .tmp 57], argTypes := #[22, 3, 22] }, none⟩,
    ⟨some 54, .move (.tmp 58), none⟩,
    ⟨some 59, .extract (.tmp 54) 0, none⟩,
    ⟨some 60, .extract (.tmp 54) 1, none⟩,
    ⟨some 13, .assign (.tmp 59), none⟩,
    ⟨some 14, .assign (.tmp 60), none⟩]
@[reducible] def q7_8 : SCode := .region [⟨some 61, .move (.tmp 8), none⟩,
    ⟨some 62, .binOp .eql 23 (.tmp 61) (.const (.int .i64 0)) 23, none⟩,
    ⟨some 63, .move (.tmp 62), none⟩,
    ⟨some 64, .move (.tmp 10), some (63, true)⟩,
    ⟨some 65, .binOp .eql 23 (.tmp 64) (.const (.int .i64 0)) 23, some (63, true)⟩,
    ⟨some 66, .pick (.tmp 63) (.tmp 65) (.const (.bool false)), none⟩,
    ⟨some 67, .move (.tmp 66), none⟩,
    ⟨some 68, .move (.tmp 12), some (67, true)⟩,
    ⟨some 69, .binOp .eql 23 (.tmp 68) (.const (.int .i64 0)) 23, some (67, true)⟩,
    ⟨some 70, .pick (.tmp 67) (.tmp 69) (.const (.bool false)), none⟩,
    ⟨some 71, .move (.tmp 70), none⟩,
    ⟨some 72, .move (.tmp 14), some (71, true)⟩,
    ⟨some 73, .binOp .eql 23 (.tmp 72) (.const (.int .i64 0)) 23, some (71, true)⟩,
    ⟨some 74, .pick (.tmp 71) (.tmp 73) (.const (.bool false)), none⟩,
    ⟨some 75, .move (.tmp 74), none⟩,
    ⟨some 76, .move (.tmp 7), some (75, true)⟩,
    ⟨some 77, .move (.tmp 9), some (75, true)⟩,
    ⟨some 78, .call { callee := .value (.func 24), args := #[.tmp 76, .tmp 77], argTypes := #[22, 22] }, some (75, true)⟩,
    ⟨some 79, .pick (.tmp 75) (.tmp 78) (.const (.bool false)), none⟩,
    ⟨some 80, .move (.tmp 79), none⟩,
    ⟨some 81, .move (.tmp 11), some (80, true)⟩,
    ⟨some 82, .move (.tmp 13), some (80, true)⟩,
    ⟨some 83, .binOp .eql 4 (.tmp 81) (.tmp 82) 4, some (80, true)⟩,
    ⟨some 84, .pick (.tmp 80) (.tmp 83) (.const (.bool false)), none⟩,
    ⟨some 85, .move (.tmp 84), none⟩,
    ⟨some 86, .call { callee := .value (.func 21), args := #[], argTypes := #[] }, some (85, true)⟩,
    ⟨some 87, .pick (.tmp 85) (.tmp 86) (.const (.bool false)), none⟩,
    ⟨some 4, .assign (.tmp 87), none⟩]
def s7 : SCode := (.seq q7_0 (.seq q7_1 (.seq (.seq q7_2 (.cond (.tmp 24) (.seq q7_3 .ret) .skip)) (.seq q7_4 (.seq q7_5 (.seq q7_6 (.seq q7_7 (.seq q7_8 .ret))))))))
theorem s7_strip : stripC (bodyOf Tryd.f7) = s7 := by kernel_rfl
theorem s7_ok : codeOK 88 (bodyOf Tryd.f7) = true := by kernel_rfl
theorem s7_call [Tabs Tryd.prog] {args : List Value} {h : Heap} {Q : Value → Heap → Prop} (hsz : args.length ≤ 88) (hk : aw Tryd.prog 88 s7 (aPost Tryd.prog [.tmp 4] Q) (argEnv 0 args) h) : ACall Tryd.prog 7 args h Q :=
  acall_s Tryd.func7 rfl (enters_of Tryd.func7 (by kernel_rfl) rfl) rfl rfl (by decide) s7_strip s7_ok hsz hk

end Go.Proofs.Tryd.Am

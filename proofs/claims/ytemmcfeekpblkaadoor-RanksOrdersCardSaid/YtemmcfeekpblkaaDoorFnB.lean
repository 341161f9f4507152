/- Printed by gen.py: the code of some functions, without what no step looks at; held against the program's own by the kernel. -/
import Derived.Test.YtemmcfeekpblkaaDoorAmO
import Derived.Test.YtemmcfeekpblkaaDoorProg
import Derived.KernelRfl
import Derived.Shelf.Abstract
set_option linter.all false
namespace Go.Proofs.Tryd.Am
open Go.Am
set_option maxRecDepth 100000
/-! 3: planchet planchetlaw02.RanksRedei -/
@[reducible] def q3_0 : SCode := .region [⟨some 2, .assign (.const (.bool false)), none⟩]
@[reducible] def q3_1 : SCode := .region [⟨some 7, .move (.tmp 0), none⟩,
    ⟨some 8, .call { callee := .value (.func 19), args := #[.tmp 7], argTypes := #[22] }, none⟩,
    ⟨some 9, .call { callee := .value (.func 18), args := #[.tmp 8], argTypes := #[22] }, none⟩,
    ⟨some 6, .move (.tmp 9), none⟩,
    ⟨some 10, .extract (.tmp 6) 0, none⟩,
    ⟨some 11, .extract (.tmp 6) 1, none⟩,
    ⟨some 3, .assign (.tmp 10), none⟩,
    ⟨some 4, .assign (.tmp 11), none⟩]
@[reducible] def q3_2 : SCode := .region [⟨some 12, .move (.tmp 4), none⟩,
    ⟨some 13, .binOp .neq 23 (.tmp 12) (.const (.int .i64 0)) 23, none⟩,
    ⟨some 14, .move (.tmp 13), none⟩,
    ⟨some 15, .move (.tmp 0), some (14, false)⟩,
    ⟨some 16, .call { callee := .value (.func 20), args := #[.tmp 15], argTypes := #[22] }, some (14, false)⟩,
    ⟨some 17, .unOp .not 4 (.tmp 16), some (14, false)⟩,
    ⟨some 18, .pick (.tmp 14) (.const (.bool true)) (.tmp 17), none⟩]
@[reducible] def q3_3 : SCode := .region [⟨some 19, .move (.tmp 4), none⟩,
    ⟨some 20, .binOp .eql 23 (.tmp 19) (.const (.int .i64 2)) 23, none⟩,
    ⟨some 21, .move (.tmp 20), none⟩,
    ⟨some 22, .call { callee := .value (.func 21), args := #[], argTypes := #[] }, some (21, true)⟩,
    ⟨some 23, .pick (.tmp 21) (.tmp 22) (.const (.bool false)), none⟩,
    ⟨some 2, .assign (.tmp 23), none⟩]
@[reducible] def q3_4 : SCode := .region [⟨some 24, .move (.tmp 0), none⟩,
    ⟨some 25, .move (.tmp 3), none⟩,
    ⟨some 26, .call { callee := .value (.func 22), args := #[.tmp 24, .tmp 25], argTypes := #[22, 22] }, none⟩,
    ⟨some 27, .unOp .not 4 (.tmp 26), none⟩]
@[reducible] def q3_5 : SCode := .region [⟨some 2, .assign (.const (.bool false)), none⟩]
@[reducible] def q3_6 : SCode := .region [⟨some 5, .assign (.const (.int .i64 1)), none⟩]
@[reducible] def q3_7 : SCode := .region [⟨some 28, .move (.tmp 5), none⟩,
    ⟨some 29, .move (.tmp 3), none⟩,
    ⟨some 30, .call { callee := .builtin .len, args := #[.tmp 29], argTypes := #[22] }, none⟩,
    ⟨some 31, .binOp .lss 3 (.tmp 28) (.tmp 30) 3, none⟩]
def q3_9 : SCode := .draw [⟨some 34, .move (.tmp 0), none⟩,
    ⟨some 35, .move (.tmp 3), none⟩,
    ⟨some 36, .move (.tmp 5), none⟩,
    ⟨some 37, .binOp .sub 3 (.tmp 36) (.const (.int .i64 1)) 3, none⟩,
    ⟨some 38, .indexAddr 22 (.tmp 35) (.tmp 37), none⟩,
    ⟨some 39, .load 3 (.tmp 38), none⟩,
    ⟨some 40, .indexAddr 22 (.tmp 34) (.tmp 39), none⟩,
    ⟨some 41, .load 3 (.tmp 40), none⟩,
    ⟨some 42, .move (.tmp 3), none⟩,
    ⟨some 43, .move (.tmp 5), none⟩,
    ⟨some 44, .indexAddr 22 (.tmp 42) (.tmp 43), none⟩,
    ⟨some 45, .load 3 (.tmp 44), none⟩,
    ⟨some 46, .binOp .shr 3 (.tmp 41) (.tmp 45) 3, none⟩,
    ⟨some 47, .binOp .and 3 (.tmp 46) (.const (.int .i64 1)) 3, none⟩,
    ⟨some 48, .binOp .eql 3 (.tmp 47) (.const (.int .i64 0)) 3, none⟩]
   [[], [], [], [2], [1, 3], [4], [0, 5], [6], [], [], [8, 9], [10], [7, 11], [12], [13]]
@[reducible] def q3_10 : SCode := .region [⟨some 2, .assign (.const (.bool false)), none⟩]
@[reducible] def q3_8 : SCode := .region [⟨some 32, .move (.tmp 5), none⟩,
    ⟨some 33, .binOp .add 3 (.tmp 32) (.const (.int .i64 1)) 3, none⟩,
    ⟨some 5, .assign (.tmp 33), none⟩]
def l3_0 : SCode := (.seq (.seq q3_7 (.cond (.tmp 31) .skip (.exit 0))) (.seq (.block 1 (.seq q3_9 (.cond (.tmp 48) (.seq q3_10 .ret) .skip))) q3_8))
@[reducible] def q3_11 : SCode := .region [⟨some 49, .move (.tmp 0), none⟩,
    ⟨some 50, .call { callee := .value (.func 23), args := #[.tmp 49, .const (.int .i64 (-1)), .const (.int .i64 0)], argTypes := #[22, 3, 3] }, none⟩,
    ⟨some 51, .binOp .rem 3 (.tmp 50) (.const (.int .i64 2)) 3, none⟩,
    ⟨some 52, .binOp .eql 3 (.tmp 51) (.const (.int .i64 1)) 3, none⟩,
    ⟨some 53, .move (.tmp 52), none⟩,
    ⟨some 54, .call { callee := .value (.func 21), args := #[], argTypes := #[] }, some (53, true)⟩,
    ⟨some 55, .pick (.tmp 53) (.tmp 54) (.const (.bool false)), none⟩,
    ⟨some 2, .assign (.tmp 55), none⟩]
def s3 : SCode := (.seq q3_0 (.seq q3_1 (.seq (.seq q3_2 (.cond (.tmp 18) (.seq q3_3 .ret) .skip)) (.seq (.seq q3_4 (.cond (.tmp 27) (.seq q3_5 .ret) .skip)) (.seq (.seq q3_6 (.block 0 (.loop l3_0))) (.seq q3_11 .ret))))))
theorem s3_strip : stripC (bodyOf Tryd.f3) = s3 := by kernel_rfl
theorem s3_ok : codeOK 56 (bodyOf Tryd.f3) = true := by kernel_rfl
theorem s3_call [Tabs Tryd.prog] {args : List Value} {h : Heap} {Q : Value → Heap → Prop} (hsz : args.length ≤ 56) (hk : aw Tryd.prog 56 s3 (aPost Tryd.prog [.tmp 2] Q) (argEnv 0 args) h) : ACall Tryd.prog 3 args h Q :=
  acall_s Tryd.func3 rfl (enters_of Tryd.func3 (by kernel_rfl) rfl) rfl rfl (by decide) s3_strip s3_ok hsz hk

/-! 22: planchet planchetref02.IsOrder -/
@[reducible] def q22_0 : SCode := .region [⟨some 4, .assign (.const (.bool false)), none⟩]
@[reducible] def q22_1 : SCode := .region [⟨some 5, .assign (.const (.int .i64 0)), none⟩]
@[reducible] def q22_2 : SCode := .region [⟨some 8, .move (.tmp 1), none⟩,
    ⟨some 9, .call { callee := .builtin .len, args := #[.tmp 8], argTypes := #[22] }, none⟩,
    ⟨some 10, .move (.const (.int .i64 0)), none⟩]
@[reducible] def q22_3 : SCode := .region [⟨some 11, .binOp .lss 3 (.tmp 10) (.tmp 9) 3, none⟩]
@[reducible] def q22_4 : SCode := .region [⟨some 12, .indexAddr 22 (.tmp 8) (.tmp 10), none⟩,
    ⟨some 13, .load 3 (.tmp 12), none⟩,
    ⟨some 7, .assign (.tmp 13), none⟩]
@[reducible] def q22_5 : SCode := .region [⟨some 14, .move (.tmp 7), none⟩,
    ⟨some 15, .binOp .lss 3 (.tmp 14) (.const (.int .i64 0)) 3, none⟩,
    ⟨some 16, .move (.tmp 15), none⟩,
    ⟨some 17, .move (.tmp 7), some (16, false)⟩,
    ⟨some 18, .move (.tmp 0), some (16, false)⟩,
    ⟨some 19, .call { callee := .builtin .len, args := #[.tmp 18], argTypes := #[22] }, some (16, false)⟩,
    ⟨some 20, .binOp .geq 3 (.tmp 17) (.tmp 19) 3, some (16, false)⟩,
    ⟨some 21, .pick (.tmp 16) (.const (.bool true)) (.tmp 20), none⟩,
    ⟨some 22, .move (.tmp 21), none⟩,
    ⟨some 23, .move (.tmp 5), some (22, false)⟩,
    ⟨some 24, .move (.tmp 7), some (22, false)⟩,
    ⟨some 25, .binOp .shr 3 (.tmp 23) (.tmp 24) 3, some (22, false)⟩,
    ⟨some 26, .binOp .and 3 (.tmp 25) (.const (.int .i64 1)) 3, some (22, false)⟩,
    ⟨some 27, .binOp .eql 3 (.tmp 26) (.const (.int .i64 1)) 3, some (22, false)⟩,
    ⟨some 28, .pick (.tmp 22) (.const (.bool true)) (.tmp 27), none⟩]
@[reducible] def q22_6 : SCode := .region [⟨some 4, .assign (.const (.bool false)), none⟩]
@[reducible] def q22_7 : SCode := .region [⟨some 29, .move (.tmp 5), none⟩,
    ⟨some 30, .move (.tmp 7), none⟩,
    ⟨some 31, .binOp .shl 3 (.const (.int .i64 1)) (.tmp 30) 3, none⟩,
    ⟨some 32, .binOp .or 3 (.tmp 29) (.tmp 31) 3, none⟩,
    ⟨some 5, .assign (.tmp 32), none⟩]
@[reducible] def q22_8 : SCode := .region [⟨some 33, .binOp .add 3 (.tmp 10) (.const (.int .i64 1)) 3, none⟩,
    ⟨some 10, .move (.tmp 33), none⟩]
def l22_0 : SCode := (.seq q22_3 (.seq (.cond (.tmp 11) .skip (.exit 0)) (.seq (.block 1 (.seq q22_4 (.seq (.seq q22_5 (.cond (.tmp 28) (.seq q22_6 .ret) .skip)) q22_7))) q22_8)))
@[reducible] def q22_9 : SCode := .region [⟨some 34, .move (.tmp 1), none⟩,
    ⟨some 35, .call { callee := .builtin .len, args := #[.tmp 34], argTypes := #[22] }, none⟩,
    ⟨some 36, .move (.tmp 0), none⟩,
    ⟨some 37, .call { callee := .builtin .len, args := #[.tmp 36], argTypes := #[22] }, none⟩,
    ⟨some 38, .binOp .eql 3 (.tmp 35) (.tmp 37) 3, none⟩,
    ⟨some 4, .assign (.tmp 38), none⟩]
def s22 : SCode := (.seq q22_0 (.seq q22_1 (.seq (.seq q22_2 (.block 0 (.loop l22_0))) (.seq q22_9 .ret))))
theorem s22_strip : stripC (bodyOf Tryd.f22) = s22 := by kernel_rfl
theorem s22_ok : codeOK 39 (bodyOf Tryd.f22) = true := by kernel_rfl
theorem s22_call [Tabs Tryd.prog] {args : List Value} {h : Heap} {Q : Value → Heap → Prop} (hsz : args.length ≤ 39) (hk : aw Tryd.prog 39 s22 (aPost Tryd.prog [.tmp 4] Q) (argEnv 0 args) h) : ACall Tryd.prog 22 args h Q :=
  acall_s Tryd.func22 rfl (enters_of Tryd.func22 (by kernel_rfl) rfl) rfl rfl (by decide) s22_strip s22_ok hsz hk

/-! 23: planchet planchetref02.Ways -/
@[reducible] def q23_0 : SCode := .region [⟨some 6, .assign (.const (.int .i64 0)), none⟩]
@[reducible] def q23_1 : SCode := .region [⟨some 9, .move (.tmp 2), none⟩,
    ⟨some 10, .move (.tmp 0), none⟩,
    ⟨some 11, .call { callee := .builtin .len, args := #[.tmp 10], argTypes := #[22] }, none⟩,
    ⟨some 12, .binOp .shl 3 (.const (.int .i64 1)) (.tmp 11) 3, none⟩,
    ⟨some 13, .binOp .sub 3 (.tmp 12) (.const (.int .i64 1)) 3, none⟩,
    ⟨some 14, .binOp .eql 3 (.tmp 9) (.tmp 13) 3, none⟩]
@[reducible] def q23_2 : SCode := .region [⟨some 6, .assign (.const (.int .i64 1)), none⟩]
@[reducible] def q23_3 : SCode := .region [⟨some 7, .assign (.const (.int .i64 0)), none⟩]
@[reducible] def q23_4 : SCode := .region [⟨some 15, .move (.tmp 0), none⟩,
    ⟨some 16, .call { callee := .builtin .len, args := #[.tmp 15], argTypes := #[22] }, none⟩,
    ⟨some 17, .move (.const (.int .i64 0)), none⟩]
@[reducible] def q23_5 : SCode := .region [⟨some 18, .binOp .lss 3 (.tmp 17) (.tmp 16) 3, none⟩]
@[reducible] def q23_6 : SCode := .region [⟨some 19, .move (.tmp 17), none⟩,
    ⟨some 8, .assign (.tmp 19), none⟩]
@[reducible] def q23_7 : SCode := .region [⟨some 20, .move (.tmp 2), none⟩,
    ⟨some 21, .move (.tmp 8), none⟩,
    ⟨some 22, .binOp .shr 3 (.tmp 20) (.tmp 21) 3, none⟩,
    ⟨some 23, .binOp .and 3 (.tmp 22) (.const (.int .i64 1)) 3, none⟩,
    ⟨some 24, .binOp .eql 3 (.tmp 23) (.const (.int .i64 0)) 3, none⟩,
    ⟨some 25, .move (.tmp 24), none⟩,
    ⟨some 26, .move (.tmp 1), some (25, true)⟩,
    ⟨some 27, .binOp .lss 3 (.tmp 26) (.const (.int .i64 0)) 3, some (25, true)⟩,
    ⟨some 28, .move (.tmp 27), some (25, true)⟩,
    ⟨some 29, .move (.tmp 0), some (28, false)⟩,
    ⟨some 30, .move (.tmp 1), some (28, false)⟩,
    ⟨some 31, .indexAddr 22 (.tmp 29) (.tmp 30), some (28, false)⟩,
    ⟨some 32, .load 3 (.tmp 31), some (28, false)⟩,
    ⟨some 33, .move (.tmp 8), some (28, false)⟩,
    ⟨some 34, .binOp .shr 3 (.tmp 32) (.tmp 33) 3, some (28, false)⟩,
    ⟨some 35, .binOp .and 3 (.tmp 34) (.const (.int .i64 1)) 3, some (28, false)⟩,
    ⟨some 36, .binOp .eql 3 (.tmp 35) (.const (.int .i64 1)) 3, some (28, false)⟩,
    ⟨some 37, .pick (.tmp 28) (.const (.bool true)) (.tmp 36), some (25, true)⟩,
    ⟨some 38, .pick (.tmp 25) (.tmp 37) (.const (.bool false)), none⟩]
@[reducible] def q23_8 : SCode := .region [⟨some 39, .move (.tmp 7), none⟩,
    ⟨some 40, .move (.tmp 0), none⟩,
    ⟨some 41, .move (.tmp 8), none⟩,
    ⟨some 42, .move (.tmp 2), none⟩,
    ⟨some 43, .move (.tmp 8), none⟩,
    ⟨some 44, .binOp .shl 3 (.const (.int .i64 1)) (.tmp 43) 3, none⟩,
    ⟨some 45, .binOp .or 3 (.tmp 42) (.tmp 44) 3, none⟩,
    ⟨some 46, .call { callee := .value (.func 23), args := #[.tmp 40, .tmp 41, .tmp 45], argTypes := #[22, 3, 3] }, none⟩,
    ⟨some 47, .binOp .add 3 (.tmp 39) (.tmp 46) 3, none⟩,
    ⟨some 7, .assign (.tmp 47), none⟩]
@[reducible] def q23_9 : SCode := .region [⟨some 48, .binOp .add 3 (.tmp 17) (.const (.int .i64 1)) 3, none⟩,
    ⟨some 17, .move (.tmp 48), none⟩]
def l23_0 : SCode := (.seq q23_5 (.seq (.cond (.tmp 18) .skip (.exit 0)) (.seq (.block 1 (.seq q23_6 (.seq q23_7 (.cond (.tmp 38) q23_8 .skip)))) q23_9)))
@[reducible] def q23_10 : SCode := .region [⟨some 49, .move (.tmp 7), none⟩,
    ⟨some 6, .assign (.tmp 49), none⟩]
def s23 : SCode := (.seq q23_0 (.seq (.seq q23_1 (.cond (.tmp 14) (.seq q23_2 .ret) .skip)) (.seq q23_3 (.seq (.seq q23_4 (.block 0 (.loop l23_0))) (.seq q23_10 .ret)))))
theorem s23_strip : stripC (bodyOf Tryd.f23) = s23 := by kernel_rfl
theorem s23_ok : codeOK 50 (bodyOf Tryd.f23) = true := by kernel_rfl
theorem s23_call [Tabs Tryd.prog] {args : List Value} {h : Heap} {Q : Value → Heap → Prop} (hsz : args.length ≤ 50) (hk : aw Tryd.prog 50 s23 (aPost Tryd.prog [.tmp 6] Q) (argEnv 0 args) h) : ACall Tryd.prog 23 args h Q :=
  acall_s Tryd.func23 rfl (enters_of Tryd.func23 (by kernel_rfl) rfl) rfl rfl (by decide) s23_strip s23_ok hsz hk

end Go.Proofs.Tryd.Am

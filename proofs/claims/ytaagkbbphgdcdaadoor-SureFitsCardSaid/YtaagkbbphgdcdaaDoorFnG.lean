/- Printed by gen.py: the code of some functions, without what no step looks at; held against the program's own by the kernel. -/
import Derived.Test.YtaagkbbphgdcdaaDoorAmO
import Derived.Test.YtaagkbbphgdcdaaDoorProg
import Derived.KernelRfl
import Derived.Shelf.Abstract
set_option linter.all false
namespace Go.Proofs.Tryd.Am
open Go.Am
set_option maxRecDepth 100000
/-! 14: planchet planchetlaw05.SureFits -/
@[reducible] def q14_0 : SCode := .region [⟨some 2, .assign (.const (.bool false)), none⟩]
@[reducible] def q14_1 : SCode := .region [⟨some 6, .move (.tmp 0), none⟩,
    ⟨some 7, .call { callee := .value (.func 18), args := #[.tmp 6], argTypes := #[22] }, none⟩,
    ⟨some 8, .call { callee := .value (.func 49), args := #[.tmp 7], argTypes := #[22] }, none⟩,
    ⟨some 5, .move (.tmp 8), none⟩,
    ⟨some 9, .extract (.tmp 5) 0, none⟩,
    ⟨some 10, .extract (.tmp 5) 1, none⟩,
    ⟨some 3, .assign (.tmp 9), none⟩,
    ⟨some 4, .assign (.tmp 10), none⟩]
@[reducible] def q14_2 : SCode := .region [⟨some 11, .move (.tmp 0), none⟩,
    ⟨some 12, .call { callee := .value (.func 20), args := #[.tmp 11], argTypes := #[22] }, none⟩,
    ⟨some 13, .unOp .not 4 (.tmp 12), none⟩,
    ⟨some 14, .move (.tmp 13), none⟩,
    ⟨some 15, .move (.tmp 0), some (14, false)⟩,
    ⟨some 16, .call { callee := .builtin .len, args := #[.tmp 15], argTypes := #[22] }, some (14, false)⟩,
    ⟨some 17, .binOp .gtr 3 (.tmp 16) (.const (.int .i64 5)) 3, some (14, false)⟩,
    ⟨some 18, .pick (.tmp 14) (.const (.bool true)) (.tmp 17), none⟩]
@[reducible] def q14_3 : SCode := .region [⟨some 19, .move (.tmp 3), none⟩,
    ⟨some 20, .binOp .eql 3 (.tmp 19) (.const (.int .i64 0)) 3, none⟩,
    ⟨some 21, .move (.tmp 20), none⟩,
    ⟨some 22, .move (.tmp 4), some (21, true)⟩,
    ⟨some 23, .binOp .eql 23 (.tmp 22) (.const (.int .i64 2)) 23, some (21, true)⟩,
    ⟨some 24, .pick (.tmp 21) (.tmp 23) (.const (.bool false)), none⟩,
    ⟨some 25, .move (.tmp 24), none⟩,
    ⟨some 26, .call { callee := .value (.func 21), args := #[], argTypes := #[] }, some (25, true)⟩,
    ⟨some 27, .pick (.tmp 25) (.tmp 26) (.const (.bool false)), none⟩,
    ⟨some 2, .assign (.tmp 27), none⟩]
@[reducible] def q14_4 : SCode := .region [⟨some 28, .move (.tmp 3), none⟩,
    ⟨some 29, .move (.tmp 0), none⟩,
    ⟨some 30, .call { callee := .value (.func 50), args := #[.tmp 29], argTypes := #[22] }, none⟩,
    ⟨some 31, .binOp .eql 3 (.tmp 28) (.tmp 30) 3, none⟩,
    ⟨some 32, .move (.tmp 31), none⟩,
    ⟨some 33, .move (.tmp 4), some (32, true)⟩,
    ⟨some 34, .binOp .eql 23 (.tmp 33) (.const (.int .i64 0)) 23, some (32, true)⟩,
    ⟨some 35, .pick (.tmp 32) (.tmp 34) (.const (.bool false)), none⟩,
    ⟨some 36, .move (.tmp 35), none⟩,
    ⟨some 37, .call { callee := .value (.func 21), args := #[], argTypes := #[] }, some (36, true)⟩,
    ⟨some 38, .pick (.tmp 36) (.tmp 37) (.const (.bool false)), none⟩,
    ⟨some 2, .assign (.tmp 38), none⟩]
def s14 : SCode := (.seq q14_0 (.seq q14_1 (.seq (.seq q14_2 (.cond (.tmp 18) (.seq q14_3 .ret) .skip)) (.seq q14_4 .ret))))
theorem s14_strip : stripC (bodyOf Tryd.f14) = s14 := by kernel_rfl
theorem s14_ok : codeOK 39 (bodyOf Tryd.f14) = true := by kernel_rfl
theorem s14_call [Tabs Tryd.prog] {args : List Value} {h : Heap} {Q : Value → Heap → Prop} (hsz : args.length ≤ 39) (hk : aw Tryd.prog 39 s14 (aPost Tryd.prog [.tmp 2] Q) (argEnv 0 args) h) : ACall Tryd.prog 14 args h Q :=
  acall_s Tryd.func14 rfl (enters_of Tryd.func14 (by kernel_rfl) rfl) rfl rfl (by decide) s14_strip s14_ok hsz hk

/-! 49: planchet sure.Fit -/
@[reducible] def q49_0 : SCode := .region [⟨some 1, .box 22 (.tmp 0), none⟩,
    ⟨some 2, .assign (.const (.int .i64 0)), none⟩,
    ⟨some 3, .assign (.const (.int .i64 0)), none⟩]
@[reducible] def q49_1 : SCode := .region [⟨some 7, .load 22 (.tmp 1), none⟩,
    ⟨some 4, .alloc 56, none⟩,
    ⟨none, .store 56 (.tmp 4) (.tmp 7), none⟩]
@[reducible] def q49_2 : SCode := .region [⟨some 8, .load 56 (.tmp 4), none⟩,
    ⟨some 9, .call { callee := .value (.func 51), args := #[.tmp 8], argTypes := #[56] }, none⟩,
    ⟨some 10, .unOp .not 4 (.tmp 9), none⟩,
    ⟨some 11, .move (.tmp 10), none⟩,
    ⟨some 12, .load 22 (.tmp 1), some (11, false)⟩,
    ⟨some 13, .call { callee := .builtin .len, args := #[.tmp 12], argTypes := #[22] }, some (11, false)⟩,
    ⟨some 14, .binOp .gtr 3 (.tmp 13) (.const (.int .i64 5)) 3, some (11, false)⟩,
    ⟨some 15, .pick (.tmp 11) (.const (.bool true)) (.tmp 14), none⟩]
@[reducible] def q49_3 : SCode := .region [⟨some 2, .assign (.const (.int .i64 0)), none⟩,
    ⟨some 3, .assign (.const (.int .i64 2)), none⟩]
@[reducible] def q49_4 : SCode := .region [⟨some 16, .load 22 (.tmp 1), none⟩,
    ⟨some 17, .call { callee := .builtin .len, args := #[.tmp 16], argTypes := #[22] }, none⟩,
    ⟨some 5, .alloc 3, none⟩,
    ⟨none, .store 3 (.tmp 5) (.tmp 17), none⟩]
@[reducible] def q49_5 : SCode := .region [⟨some 6, .alloc 75, none⟩]
@[reducible] def q49_6 : SCode := .region [⟨some 18, .makeFunc (.func 74) #[] #[.tmp 5, .tmp 1, .tmp 4, .tmp 6], none⟩,
    ⟨none, .store 75 (.tmp 6) (.tmp 18), none⟩]
@[reducible] def q49_7 : SCode := .region [⟨some 19, .load 75 (.tmp 6), none⟩,
    ⟨some 20, .call { callee := .value (.tmp 19), args := #[.const (.int .i64 0), .const (.slice none 0 0)], argTypes := #[3, 22] }, none⟩]
@[reducible] def q49_8 : SCode := .region [⟨some 21, .load 3 (.tmp 5), none⟩,
    ⟨some 2, .assign (.tmp 21), none⟩,
    ⟨some 3, .assign (.const (.int .i64 0)), none⟩]
def s49 : SCode := (.seq q49_0 (.seq q49_1 (.seq (.seq q49_2 (.cond (.tmp 15) (.seq q49_3 .ret) .skip)) (.seq q49_4 (.seq q49_5 (.seq q49_6 (.seq q49_7 (.seq q49_8 .ret))))))))
theorem s49_strip : stripC (bodyOf Tryd.f49) = s49 := by kernel_rfl
theorem s49_ok : codeOK 22 (bodyOf Tryd.f49) = true := by kernel_rfl
theorem s49_call [Tabs Tryd.prog] {args : List Value} {h : Heap} {Q : Value → Heap → Prop} (hsz : args.length ≤ 22) (hk : aw Tryd.prog 22 s49 (aPost Tryd.prog [.tmp 2, .tmp 3] Q) (argEnv 0 args) h) : ACall Tryd.prog 49 args h Q :=
  acall_s Tryd.func49 rfl (enters_of Tryd.func49 (by kernel_rfl) rfl) rfl rfl (by decide) s49_strip s49_ok hsz hk

/-! 50: planchet planchetref05.Fit -/
@[reducible] def q50_0 : SCode := .region [⟨some 2, .assign (.const (.int .i64 0)), none⟩]
@[reducible] def q50_1 : SCode := .region [⟨some 3, .move (.tmp 0), none⟩,
    ⟨some 4, .build 77 #[], none⟩,
    ⟨some 5, .move (.tmp 0), none⟩,
    ⟨some 6, .call { callee := .builtin .len, args := #[.tmp 5], argTypes := #[22] }, none⟩,
    ⟨some 7, .call { callee := .value (.func 76), args := #[.tmp 3, .tmp 4, .const (.int .i64 0), .tmp 6], argTypes := #[22, 77, 3, 3] }, none⟩,
    ⟨some 2, .assign (.tmp 7), none⟩]
def s50 : SCode := (.seq q50_0 (.seq q50_1 .ret))
theorem s50_strip : stripC (bodyOf Tryd.f50) = s50 := by kernel_rfl
theorem s50_ok : codeOK 8 (bodyOf Tryd.f50) = true := by kernel_rfl
theorem s50_call [Tabs Tryd.prog] {args : List Value} {h : Heap} {Q : Value → Heap → Prop} (hsz : args.length ≤ 8) (hk : aw Tryd.prog 8 s50 (aPost Tryd.prog [.tmp 2] Q) (argEnv 0 args) h) : ACall Tryd.prog 50 args h Q :=
  acall_s Tryd.func50 rfl (enters_of Tryd.func50 (by kernel_rfl) rfl) rfl rfl (by decide) s50_strip s50_ok hsz hk

/-! 74: planchet sure.Fit$1 -/
@[reducible] def q74_0 : SCode := .region [⟨some 9, .move (.tmp 1), none⟩,
    ⟨some 10, .call { callee := .builtin .len, args := #[.tmp 9], argTypes := #[22] }, none⟩,
    ⟨some 11, .load 3 (.tmp 2), none⟩,
    ⟨some 12, .binOp .geq 3 (.tmp 10) (.tmp 11) 3, none⟩]
@[reducible] def q74_1 : SCode := .region [⟨some 13, .move (.tmp 0), none⟩,
    ⟨some 14, .load 22 (.tmp 3), none⟩,
    ⟨some 15, .call { callee := .builtin .len, args := #[.tmp 14], argTypes := #[22] }, none⟩,
    ⟨some 16, .binOp .eql 3 (.tmp 13) (.tmp 15) 3, none⟩]
@[reducible] def q74_2 : SCode := .region [⟨some 17, .move (.tmp 1), none⟩,
    ⟨some 18, .call { callee := .builtin .len, args := #[.tmp 17], argTypes := #[22] }, none⟩,
    ⟨none, .store 3 (.tmp 2) (.tmp 18), none⟩]
@[reducible] def q74_3 : SCode := .region [⟨some 19, .load 56 (.tmp 4), none⟩,
    ⟨some 20, .call { callee := .value (.func 57), args := #[.tmp 19], argTypes := #[56] }, none⟩,
    ⟨some 21, .binOp .add 3 (.tmp 20) (.const (.int .i64 1)) 3, none⟩,
    ⟨some 22, .move (.const (.int .i64 0)), none⟩]
@[reducible] def q74_4 : SCode := .region [⟨some 23, .binOp .lss 3 (.tmp 22) (.tmp 21) 3, none⟩]
@[reducible] def q74_5 : SCode := .region [⟨some 24, .move (.tmp 22), none⟩,
    ⟨some 8, .assign (.tmp 24), none⟩]
def q74_6 : SCode := .draw [⟨some 25, .move (.tmp 8), none⟩,
    ⟨some 26, .move (.tmp 0), none⟩,
    ⟨some 27, .binOp .shr 3 (.tmp 25) (.tmp 26) 3, none⟩,
    ⟨some 28, .binOp .and 3 (.tmp 27) (.const (.int .i64 1)) 3, none⟩,
    ⟨some 29, .binOp .eql 3 (.tmp 28) (.const (.int .i64 1)) 3, none⟩,
    ⟨some 30, .move (.tmp 29), none⟩,
    ⟨some 31, .move (.tmp 8), some (30, true)⟩,
    ⟨some 32, .move (.tmp 0), some (30, true)⟩,
    ⟨some 33, .binOp .shl 3 (.const (.int .i64 1)) (.tmp 32) 3, some (30, true)⟩,
    ⟨some 34, .binOp .andNot 3 (.tmp 31) (.tmp 33) 3, some (30, true)⟩,
    ⟨some 35, .load 22 (.tmp 3), some (30, true)⟩,
    ⟨some 36, .move (.tmp 0), some (30, true)⟩,
    ⟨some 37, .indexAddr 22 (.tmp 35) (.tmp 36), some (30, true)⟩,
    ⟨some 38, .load 3 (.tmp 37), some (30, true)⟩,
    ⟨some 39, .binOp .andNot 3 (.tmp 34) (.tmp 38) 3, some (30, true)⟩,
    ⟨some 40, .binOp .eql 3 (.tmp 39) (.const (.int .i64 0)) 3, some (30, true)⟩,
    ⟨some 41, .pick (.tmp 30) (.tmp 40) (.const (.bool false)), none⟩]
   [[], [], [0, 1], [2], [3], [4], [5], [5], [7, 5], [6, 8, 5], [5], [5], [10, 11, 5], [12, 5], [9, 13, 5], [14, 5], [5, 15]]
def q74_7 : SCode := .draw [⟨some 42, .load 75 (.tmp 5), none⟩,
    ⟨some 43, .move (.tmp 0), none⟩,
    ⟨some 44, .binOp .add 3 (.tmp 43) (.const (.int .i64 1)) 3, none⟩,
    ⟨some 45, .move (.tmp 1), none⟩,
    ⟨some 46, .move (.tmp 8), none⟩,
    ⟨some 47, .call { callee := .value (.func 75), args := #[.tmp 45, .tmp 46], argTypes := #[22, 3] }, none⟩,
    ⟨some 48, .call { callee := .value (.tmp 42), args := #[.tmp 44, .tmp 47], argTypes := #[3, 22] }, none⟩]
   [[], [], [1], [], [], [3, 4], [0, 2, 5, 5]]
@[reducible] def q74_8 : SCode := .region [⟨some 49, .binOp .add 3 (.tmp 22) (.const (.int .i64 1)) 3, none⟩,
    ⟨some 22, .move (.tmp 49), none⟩]
def l74_0 : SCode := (.seq q74_4 (.seq (.cond (.tmp 23) .skip (.exit 0)) (.seq (.block 1 (.seq q74_5 (.seq q74_6 (.cond (.tmp 41) q74_7 .skip)))) q74_8)))
def s74 : SCode := (.seq (.seq q74_0 (.cond (.tmp 12) .ret .skip)) (.seq (.seq q74_1 (.cond (.tmp 16) (.seq q74_2 .ret) .skip)) (.seq q74_3 (.block 0 (.loop l74_0)))))
theorem s74_strip : stripC (bodyOf Tryd.f74) = s74 := by kernel_rfl
theorem s74_ok : codeOK 50 (bodyOf Tryd.f74) = true := by kernel_rfl
theorem s74_call [Tabs Tryd.prog] {args : List Value} {h : Heap} {Q : Value → Heap → Prop} (hsz : args.length ≤ 50) (hk : aw Tryd.prog 50 s74 (aPost Tryd.prog [] Q) (argEnv 0 args) h) : ACall Tryd.prog 74 args h Q :=
  acall_s Tryd.func74 rfl (enters_of Tryd.func74 (by kernel_rfl) rfl) rfl rfl (by decide) s74_strip s74_ok hsz hk

/-! 75: planchet sure.spanned -/
@[reducible] def q75_0 : SCode := .region [⟨some 4, .assign (.const (.slice none 0 0)), none⟩]
@[reducible] def q75_1 : SCode := .region [⟨some 8, .move (.tmp 0), none⟩,
    ⟨some 9, .call { callee := .builtin .len, args := #[.tmp 8], argTypes := #[22] }, none⟩,
    ⟨some 10, .move (.const (.int .i64 0)), none⟩]
@[reducible] def q75_2 : SCode := .region [⟨some 11, .binOp .lss 3 (.tmp 10) (.tmp 9) 3, none⟩]
@[reducible] def q75_3 : SCode := .region [⟨some 12, .indexAddr 22 (.tmp 8) (.tmp 10), none⟩,
    ⟨some 13, .load 3 (.tmp 12), none⟩,
    ⟨some 6, .assign (.tmp 13), none⟩]
@[reducible] def q75_4 : SCode := .region [⟨some 14, .move (.tmp 1), none⟩,
    ⟨some 15, .move (.tmp 1), none⟩,
    ⟨some 16, .move (.tmp 6), none⟩,
    ⟨some 17, .binOp .xor 3 (.tmp 15) (.tmp 16) 3, none⟩,
    ⟨some 18, .call { callee := .builtin .min, args := #[.tmp 14, .tmp 17], argTypes := #[3, 3] }, none⟩,
    ⟨some 1, .assign (.tmp 18), none⟩]
@[reducible] def q75_5 : SCode := .region [⟨some 19, .binOp .add 3 (.tmp 10) (.const (.int .i64 1)) 3, none⟩,
    ⟨some 10, .move (.tmp 19), none⟩]
def l75_0 : SCode := (.seq q75_2 (.seq (.cond (.tmp 11) .skip (.exit 0)) (.seq (.block 1 (.seq q75_3 q75_4)) q75_5)))
@[reducible] def q75_6 : SCode := .region [⟨some 20, .move (.tmp 1), none⟩,
    ⟨some 21, .binOp .eql 3 (.tmp 20) (.const (.int .i64 0)) 3, none⟩]
@[reducible] def q75_7 : SCode := .region [⟨some 22, .move (.tmp 0), none⟩,
    ⟨some 4, .assign (.tmp 22), none⟩]
@[reducible] def q75_8 : SCode := .region [⟨some 23, .move (.tmp 0), none⟩,
    ⟨some 24, .call { callee := .value (.func 26), args := #[.tmp 23], argTypes := #[22] }, none⟩,
    ⟨some 25, .move (.tmp 1), none⟩,
    ⟨some 26, .buildSlice 22 1 #[(0, .tmp 25)], none⟩,
    ⟨some 27, .call { callee := .builtin .append, args := #[.tmp 24, .tmp 26], argTypes := #[22, 22] }, none⟩,
    ⟨some 7, .assign (.tmp 27), none⟩]
@[reducible] def q75_9 : SCode := .region [⟨some 28, .move (.tmp 7), none⟩,
    ⟨some 29, .call { callee := .value (.func 95), args := #[.tmp 28, .func 96], argTypes := #[22, 88] }, none⟩]
@[reducible] def q75_10 : SCode := .region [⟨some 30, .move (.tmp 7), none⟩,
    ⟨some 4, .assign (.tmp 30), none⟩]
def s75 : SCode := (.seq q75_0 (.seq (.seq q75_1 (.block 0 (.loop l75_0))) (.seq (.seq q75_6 (.cond (.tmp 21) (.seq q75_7 .ret) .skip)) (.seq q75_8 (.seq q75_9 (.seq q75_10 .ret))))))
theorem s75_strip : stripC (bodyOf Tryd.f75) = s75 := by kernel_rfl
theorem s75_ok : codeOK 31 (bodyOf Tryd.f75) = true := by kernel_rfl
theorem s75_call [Tabs Tryd.prog] {args : List Value} {h : Heap} {Q : Value → Heap → Prop} (hsz : args.length ≤ 31) (hk : aw Tryd.prog 31 s75 (aPost Tryd.prog [.tmp 4] Q) (argEnv 0 args) h) : ACall Tryd.prog 75 args h Q :=
  acall_s Tryd.func75 rfl (enters_of Tryd.func75 (by kernel_rfl) rfl) rfl rfl (by decide) s75_strip s75_ok hsz hk

/-! 76: planchet planchetref05.fit -/
@[reducible] def q76_0 : SCode := .region [⟨some 5, .box 77 (.tmp 1), none⟩,
    ⟨some 8, .assign (.const (.int .i64 0)), none⟩]
@[reducible] def q76_1 : SCode := .region [⟨some 10, .move (.tmp 2), none⟩,
    ⟨some 11, .move (.tmp 0), none⟩,
    ⟨some 12, .call { callee := .builtin .len, args := #[.tmp 11], argTypes := #[22] }, none⟩,
    ⟨some 13, .binOp .eql 3 (.tmp 10) (.tmp 12) 3, none⟩]
@[reducible] def q76_2 : SCode := .region [⟨some 14, .move (.tmp 3), none⟩,
    ⟨some 15, .load 77 (.tmp 5), none⟩,
    ⟨some 16, .move (.tmp 0), none⟩,
    ⟨some 17, .call { callee := .builtin .len, args := #[.tmp 16], argTypes := #[22] }, none⟩,
    ⟨some 18, .call { callee := .value (.func 97), args := #[.tmp 15, .tmp 17], argTypes := #[77, 3] }, none⟩,
    ⟨some 19, .call { callee := .builtin .min, args := #[.tmp 14, .tmp 18], argTypes := #[3, 3] }, none⟩,
    ⟨some 8, .assign (.tmp 19), none⟩]
@[reducible] def q76_3 : SCode := .region [⟨some 20, .move (.tmp 0), none⟩,
    ⟨some 21, .call { callee := .builtin .len, args := #[.tmp 20], argTypes := #[22] }, none⟩,
    ⟨some 22, .binOp .shl 3 (.const (.int .i64 1)) (.tmp 21) 3, none⟩,
    ⟨some 23, .move (.const (.int .i64 0)), none⟩]
@[reducible] def q76_4 : SCode := .region [⟨some 24, .binOp .lss 3 (.tmp 23) (.tmp 22) 3, none⟩]
@[reducible] def q76_5 : SCode := .region [⟨some 25, .move (.tmp 23), none⟩,
    ⟨some 9, .assign (.tmp 25), none⟩]
@[reducible] def q76_6 : SCode := .region [⟨some 26, .move (.tmp 9), none⟩,
    ⟨some 27, .move (.tmp 0), none⟩,
    ⟨some 28, .move (.tmp 2), none⟩,
    ⟨some 29, .indexAddr 22 (.tmp 27) (.tmp 28), none⟩,
    ⟨some 30, .load 3 (.tmp 29), none⟩,
    ⟨some 31, .binOp .andNot 3 (.tmp 26) (.tmp 30) 3, none⟩,
    ⟨some 32, .binOp .eql 3 (.tmp 31) (.const (.int .i64 0)) 3, none⟩]
@[reducible] def q76_7 : SCode := .region [⟨some 33, .move (.tmp 2), none⟩,
    ⟨some 34, .move (.tmp 9), none⟩,
    ⟨some 35, .move (.tmp 2), none⟩,
    ⟨some 36, .binOp .shl 3 (.const (.int .i64 1)) (.tmp 35) 3, none⟩,
    ⟨some 37, .binOp .or 3 (.tmp 34) (.tmp 36) 3, none⟩,
    ⟨some 38, .indexAddr 77 (.tmp 5) (.tmp 33), none⟩,
    ⟨none, .store 3 (.tmp 38) (.tmp 37), none⟩]
@[reducible] def q76_8 : SCode := .region [⟨some 39, .move (.tmp 0), none⟩,
    ⟨some 40, .load 77 (.tmp 5), none⟩,
    ⟨some 41, .move (.tmp 2), none⟩,
    ⟨some 42, .binOp .add 3 (.tmp 41) (.const (.int .i64 1)) 3, none⟩,
    ⟨some 43, .move (.tmp 3), none⟩,
    ⟨some 44, .call { callee := .value (.func 76), args := #[.tmp 39, .tmp 40, .tmp 42, .tmp 43], argTypes := #[22, 77, 3, 3] }, none⟩,
    ⟨some 3, .assign (.tmp 44), none⟩]
@[reducible] def q76_9 : SCode := .region [⟨some 45, .binOp .add 3 (.tmp 23) (.const (.int .i64 1)) 3, none⟩,
    ⟨some 23, .move (.tmp 45), none⟩]
def l76_0 : SCode := (.seq q76_4 (.seq (.cond (.tmp 24) .skip (.exit 0)) (.seq (.block 1 (.seq q76_5 (.seq q76_6 (.cond (.tmp 32) (.seq q76_7 q76_8) .skip)))) q76_9)))
@[reducible] def q76_10 : SCode := .region [⟨some 46, .move (.tmp 3), none⟩,
    ⟨some 8, .assign (.tmp 46), none⟩]
def s76 : SCode := (.seq q76_0 (.seq (.seq q76_1 (.cond (.tmp 13) (.seq q76_2 .ret) .skip)) (.seq (.seq q76_3 (.block 0 (.loop l76_0))) (.seq q76_10 .ret))))
theorem s76_strip : stripC (bodyOf Tryd.f76) = s76 := by kernel_rfl
theorem s76_ok : codeOK 47 (bodyOf Tryd.f76) = true := by kernel_rfl
theorem s76_call [Tabs Tryd.prog] {args : List Value} {h : Heap} {Q : Value → Heap → Prop} (hsz : args.length ≤ 47) (hk : aw Tryd.prog 47 s76 (aPost Tryd.prog [.tmp 8] Q) (argEnv 0 args) h) : ACall Tryd.prog 76 args h Q :=
  acall_s Tryd.func76 rfl (enters_of Tryd.func76 (by kernel_rfl) rfl) rfl rfl (by decide) s76_strip s76_ok hsz hk

/-! 95: slices.SortFunc[[]int,int] -/
@[reducible] def q95_0 : SCode := .region [⟨some 5, .move (.tmp 0), none⟩,
    ⟨some 6, .call { callee := .builtin .len, args := #[.tmp 5], argTypes := #[22] }, none⟩,
    ⟨some 4, .assign (.tmp 6), none⟩]
@[reducible] def q95_1 : SCode := .region [⟨some 7, .move (.tmp 0), none⟩,
    ⟨some 8, .move (.tmp 4), none⟩,
    ⟨some 9, .move (.tmp 4), none⟩,
    ⟨some 10, .convert 3 42 (.tmp 9), none⟩,
    ⟨some 11, .call { callee := .value (.func 101), args := #[.tmp 10], argTypes := #[42] }, none⟩,
    ⟨some 12, .move (.tmp 1), none⟩,
    ⟨some 13, .call { callee := .value (.func 100), args := #[.tmp 7, .const (.int .i64 0), .tmp 8, .tmp 11, .tmp 12], argTypes := #[22, 3, 3, 3, 88] }, none⟩]
def s95 : SCode := (.seq q95_0 q95_1)
theorem s95_strip : stripC (bodyOf Tryd.f95) = s95 := by kernel_rfl
theorem s95_ok : codeOK 14 (bodyOf Tryd.f95) = true := by kernel_rfl
theorem s95_call [Tabs Tryd.prog] {args : List Value} {h : Heap} {Q : Value → Heap → Prop} (hsz : args.length ≤ 14) (hk : aw Tryd.prog 14 s95 (aPost Tryd.prog [] Q) (argEnv 0 args) h) : ACall Tryd.prog 95 args h Q :=
  acall_s Tryd.func95 rfl (enters_of Tryd.func95 (by kernel_rfl) rfl) rfl rfl (by decide) s95_strip s95_ok hsz hk

/-! 96: planchet sure.spanned$1 -/
@[reducible] def q96_0 : SCode := .region [⟨some 4, .assign (.const (.int .i64 0)), none⟩]
@[reducible] def q96_1 : SCode := .region [⟨some 5, .move (.tmp 1), none⟩,
    ⟨some 6, .move (.tmp 0), none⟩,
    ⟨some 7, .binOp .sub 3 (.tmp 5) (.tmp 6) 3, none⟩,
    ⟨some 4, .assign (.tmp 7), none⟩]
def s96 : SCode := (.seq q96_0 (.seq q96_1 .ret))
theorem s96_strip : stripC (bodyOf Tryd.f96) = s96 := by kernel_rfl
theorem s96_ok : codeOK 8 (bodyOf Tryd.f96) = true := by kernel_rfl
theorem s96_call [Tabs Tryd.prog] {args : List Value} {h : Heap} {Q : Value → Heap → Prop} (hsz : args.length ≤ 8) (hk : aw Tryd.prog 8 s96 (aPost Tryd.prog [.tmp 4] Q) (argEnv 0 args) h) : ACall Tryd.prog 96 args h Q :=
  acall_s Tryd.func96 rfl (enters_of Tryd.func96 (by kernel_rfl) rfl) rfl rfl (by decide) s96_strip s96_ok hsz hk

/-! 97: planchet planchetref05.rank2 -/
@[reducible] def q97_0 : SCode := .region [⟨some 2, .box 77 (.tmp 0), none⟩,
    ⟨some 4, .assign (.const (.int .i64 0)), none⟩]
@[reducible] def q97_1 : SCode := .region [⟨some 5, .assign (.const (.int .i64 0)), none⟩]
@[reducible] def q97_2 : SCode := .region [⟨some 10, .move (.tmp 1), none⟩,
    ⟨some 11, .move (.const (.int .i64 0)), none⟩]
@[reducible] def q97_3 : SCode := .region [⟨some 12, .binOp .lss 3 (.tmp 11) (.tmp 10) 3, none⟩]
@[reducible] def q97_4 : SCode := .region [⟨some 13, .move (.tmp 11), none⟩,
    ⟨some 6, .assign (.tmp 13), none⟩]
@[reducible] def q97_5 : SCode := .region [⟨some 14, .move (.tmp 5), none⟩,
    ⟨some 7, .assign (.tmp 14), none⟩]
@[reducible] def q97_6 : SCode := .region [⟨some 15, .move (.tmp 7), none⟩,
    ⟨some 16, .move (.tmp 1), none⟩,
    ⟨some 17, .binOp .lss 3 (.tmp 15) (.tmp 16) 3, none⟩,
    ⟨some 18, .move (.tmp 17), none⟩,
    ⟨some 19, .move (.tmp 7), some (18, true)⟩,
    ⟨some 20, .indexAddr 77 (.tmp 2) (.tmp 19), some (18, true)⟩,
    ⟨some 21, .load 3 (.tmp 20), some (18, true)⟩,
    ⟨some 22, .move (.tmp 6), some (18, true)⟩,
    ⟨some 23, .binOp .shr 3 (.tmp 21) (.tmp 22) 3, some (18, true)⟩,
    ⟨some 24, .binOp .and 3 (.tmp 23) (.const (.int .i64 1)) 3, some (18, true)⟩,
    ⟨some 25, .binOp .eql 3 (.tmp 24) (.const (.int .i64 0)) 3, some (18, true)⟩,
    ⟨some 26, .pick (.tmp 18) (.tmp 25) (.const (.bool false)), none⟩]
@[reducible] def q97_7 : SCode := .region [⟨some 27, .move (.tmp 7), none⟩,
    ⟨some 28, .binOp .add 3 (.tmp 27) (.const (.int .i64 1)) 3, none⟩,
    ⟨some 7, .assign (.tmp 28), none⟩]
def l97_0 : SCode := (.seq (.seq q97_6 (.cond (.tmp 26) .skip (.exit 2))) (.block 3 q97_7))
@[reducible] def q97_8 : SCode := .region [⟨some 29, .move (.tmp 7), none⟩,
    ⟨some 30, .move (.tmp 1), none⟩,
    ⟨some 31, .binOp .eql 3 (.tmp 29) (.tmp 30) 3, none⟩]
@[reducible] def q97_9 : SCode := .region [⟨some 32, .move (.tmp 7), none⟩,
    ⟨some 33, .indexAddr 77 (.tmp 2) (.tmp 32), none⟩,
    ⟨some 34, .load 3 (.tmp 33), none⟩,
    ⟨some 8, .assign (.tmp 34), none⟩]
@[reducible] def q97_10 : SCode := .region [⟨some 35, .move (.tmp 7), none⟩,
    ⟨some 36, .move (.tmp 5), none⟩,
    ⟨some 37, .indexAddr 77 (.tmp 2) (.tmp 36), none⟩,
    ⟨some 38, .load 3 (.tmp 37), none⟩,
    ⟨some 39, .indexAddr 77 (.tmp 2) (.tmp 35), none⟩,
    ⟨none, .store 3 (.tmp 39) (.tmp 38), none⟩]
@[reducible] def q97_11 : SCode := .region [⟨some 40, .move (.tmp 5), none⟩,
    ⟨some 41, .move (.tmp 8), none⟩,
    ⟨some 42, .indexAddr 77 (.tmp 2) (.tmp 40), none⟩,
    ⟨none, .store 3 (.tmp 42) (.tmp 41), none⟩]
@[reducible] def q97_12 : SCode := .region [⟨some 43, .move (.tmp 1), none⟩,
    ⟨some 44, .move (.const (.int .i64 0)), none⟩]
@[reducible] def q97_13 : SCode := .region [⟨some 45, .binOp .lss 3 (.tmp 44) (.tmp 43) 3, none⟩]
@[reducible] def q97_14 : SCode := .region [⟨some 46, .move (.tmp 44), none⟩,
    ⟨some 9, .assign (.tmp 46), none⟩]
@[reducible] def q97_15 : SCode := .region [⟨some 47, .move (.tmp 9), none⟩,
    ⟨some 48, .move (.tmp 5), none⟩,
    ⟨some 49, .binOp .neq 3 (.tmp 47) (.tmp 48) 3, none⟩,
    ⟨some 50, .move (.tmp 49), none⟩,
    ⟨some 51, .move (.tmp 9), some (50, true)⟩,
    ⟨some 52, .indexAddr 77 (.tmp 2) (.tmp 51), some (50, true)⟩,
    ⟨some 53, .load 3 (.tmp 52), some (50, true)⟩,
    ⟨some 54, .move (.tmp 6), some (50, true)⟩,
    ⟨some 55, .binOp .shr 3 (.tmp 53) (.tmp 54) 3, some (50, true)⟩,
    ⟨some 56, .binOp .and 3 (.tmp 55) (.const (.int .i64 1)) 3, some (50, true)⟩,
    ⟨some 57, .binOp .eql 3 (.tmp 56) (.const (.int .i64 1)) 3, some (50, true)⟩,
    ⟨some 58, .pick (.tmp 50) (.tmp 57) (.const (.bool false)), none⟩]
@[reducible] def q97_16 : SCode := .region [⟨some 59, .move (.tmp 9), none⟩,
    ⟨some 60, .indexAddr 77 (.tmp 2) (.tmp 59), none⟩,
    ⟨some 61, .load 3 (.tmp 60), none⟩,
    ⟨some 62, .move (.tmp 8), none⟩,
    ⟨some 63, .binOp .xor 3 (.tmp 61) (.tmp 62) 3, none⟩,
    ⟨some 64, .indexAddr 77 (.tmp 2) (.tmp 59), none⟩,
    ⟨none, .store 3 (.tmp 64) (.tmp 63), none⟩]
@[reducible] def q97_17 : SCode := .region [⟨some 65, .binOp .add 3 (.tmp 44) (.const (.int .i64 1)) 3, none⟩,
    ⟨some 44, .move (.tmp 65), none⟩]
def l97_1 : SCode := (.seq q97_13 (.seq (.cond (.tmp 45) .skip (.exit 4)) (.seq (.block 5 (.seq q97_14 (.seq q97_15 (.cond (.tmp 58) q97_16 .skip)))) q97_17)))
@[reducible] def q97_18 : SCode := .region [⟨some 66, .move (.tmp 5), none⟩,
    ⟨some 67, .binOp .add 3 (.tmp 66) (.const (.int .i64 1)) 3, none⟩,
    ⟨some 5, .assign (.tmp 67), none⟩]
@[reducible] def q97_19 : SCode := .region [⟨some 68, .binOp .add 3 (.tmp 11) (.const (.int .i64 1)) 3, none⟩,
    ⟨some 11, .move (.tmp 68), none⟩]
def l97_2 : SCode := (.seq q97_3 (.seq (.cond (.tmp 12) .skip (.exit 0)) (.seq (.block 1 (.seq q97_4 (.seq q97_5 (.seq (.block 2 (.loop l97_0)) (.seq (.seq q97_8 (.cond (.tmp 31) (.exit 1) .skip)) (.seq q97_9 (.seq q97_10 (.seq q97_11 (.seq (.seq q97_12 (.block 4 (.loop l97_1))) q97_18))))))))) q97_19)))
@[reducible] def q97_20 : SCode := .region [⟨some 69, .move (.tmp 5), none⟩,
    ⟨some 4, .assign (.tmp 69), none⟩]
def s97 : SCode := (.seq q97_0 (.seq q97_1 (.seq (.seq q97_2 (.block 0 (.loop l97_2))) (.seq q97_20 .ret))))
theorem s97_strip : stripC (bodyOf Tryd.f97) = s97 := by kernel_rfl
theorem s97_ok : codeOK 70 (bodyOf Tryd.f97) = true := by kernel_rfl
theorem s97_call [Tabs Tryd.prog] {args : List Value} {h : Heap} {Q : Value → Heap → Prop} (hsz : args.length ≤ 70) (hk : aw Tryd.prog 70 s97 (aPost Tryd.prog [.tmp 4] Q) (argEnv 0 args) h) : ACall Tryd.prog 97 args h Q :=
  acall_s Tryd.func97 rfl (enters_of Tryd.func97 (by kernel_rfl) rfl) rfl rfl (by decide) s97_strip s97_ok hsz hk

/-! 100: slices.pdqsortCmpFunc[int] -/
@[reducible] def q100_0 : SCode := .region [⟨some 10, .assign (.const (.bool true)), none⟩]
@[reducible] def q100_1 : SCode := .region [⟨some 11, .assign (.const (.bool true)), none⟩]
@[reducible] def q100_2 : SCode := .region [⟨some 21, .move (.tmp 2), none⟩,
    ⟨some 22, .move (.tmp 1), none⟩,
    ⟨some 23, .binOp .sub 3 (.tmp 21) (.tmp 22) 3, none⟩,
    ⟨some 12, .assign (.tmp 23), none⟩]
@[reducible] def q100_3 : SCode := .region [⟨some 24, .move (.tmp 12), none⟩,
    ⟨some 25, .binOp .leq 3 (.tmp 24) (.const (.int .i64 12)) 3, none⟩]
@[reducible] def q100_4 : SCode := .region [⟨some 26, .move (.tmp 0), none⟩,
    ⟨some 27, .move (.tmp 1), none⟩,
    ⟨some 28, .move (.tmp 2), none⟩,
    ⟨some 29, .move (.tmp 4), none⟩,
    ⟨some 30, .call { callee := .value (.func 102), args := #[.tmp 26, .tmp 27, .tmp 28, .tmp 29], argTypes := #[22, 3, 3, 88] }, none⟩]
@[reducible] def q100_5 : SCode := .region [⟨some 31, .move (.tmp 3), none⟩,
    ⟨some 32, .binOp .eql 3 (.tmp 31) (.const (.int .i64 0)) 3, none⟩]
@[reducible] def q100_6 : SCode := .region [⟨some 33, .move (.tmp 0), none⟩,
    ⟨some 34, .move (.tmp 1), none⟩,
    ⟨some 35, .move (.tmp 2), none⟩,
    ⟨some 36, .move (.tmp 4), none⟩,
    ⟨some 37, .call { callee := .value (.func 103), args := #[.tmp 33, .tmp 34, .tmp 35, .tmp 36], argTypes := #[22, 3, 3, 88] }, none⟩]
@[reducible] def q100_7 : SCode := .region [⟨some 38, .move (.tmp 10), none⟩,
    ⟨some 39, .unOp .not 4 (.tmp 38), none⟩]
@[reducible] def q100_8 : SCode := .region [⟨some 40, .move (.tmp 0), none⟩,
    ⟨some 41, .move (.tmp 1), none⟩,
    ⟨some 42, .move (.tmp 2), none⟩,
    ⟨some 43, .move (.tmp 4), none⟩,
    ⟨some 44, .call { callee := .value (.func 104), args := #[.tmp 40, .tmp 41, .tmp 42, .tmp 43], argTypes := #[22, 3, 3, 88] }, none⟩]
@[reducible] def q100_9 : SCode := .region [⟨some 45, .move (.tmp 3), none⟩,
    ⟨some 46, .binOp .sub 3 (.tmp 45) (.const (.int .i64 1)) 3, none⟩,
    ⟨some 3, .assign (.tmp 46), none⟩]
@[reducible] def q100_10 : SCode := .region [⟨some 48, .move (.tmp 0), none⟩,
    ⟨some 49, .move (.tmp 1), none⟩,
    ⟨some 50, .move (.tmp 2), none⟩,
    ⟨some 51, .move (.tmp 4), none⟩,
    ⟨some 52, .call { callee := .value (.func 105), args := #[.tmp 48, .tmp 49, .tmp 50, .tmp 51], argTypes := #[22, 3, 3, 88] }, none⟩,
    ⟨some 47, .move (.tmp 52), none⟩,
    ⟨some 53, .extract (.tmp 47) 0, none⟩,
    ⟨some 54, .extract (.tmp 47) 1, none⟩,
    ⟨some 13, .assign (.tmp 53), none⟩,
    ⟨some 14, .assign (.tmp 54), none⟩]
@[reducible] def q100_11 : SCode := .region [⟨some 55, .move (.tmp 14), none⟩,
    ⟨some 56, .binOp .eql 99 (.tmp 55) (.const (.int .i64 2)) 99, none⟩]
@[reducible] def q100_12 : SCode := .region [⟨some 57, .move (.tmp 0), none⟩,
    ⟨some 58, .move (.tmp 1), none⟩,
    ⟨some 59, .move (.tmp 2), none⟩,
    ⟨some 60, .move (.tmp 4), none⟩,
    ⟨some 61, .call { callee := .value (.func 106), args := #[.tmp 57, .tmp 58, .tmp 59, .tmp 60], argTypes := #[22, 3, 3, 88] }, none⟩]
@[reducible] def q100_13 : SCode := .region [⟨some 62, .move (.tmp 2), none⟩,
    ⟨some 63, .binOp .sub 3 (.tmp 62) (.const (.int .i64 1)) 3, none⟩,
    ⟨some 64, .move (.tmp 13), none⟩,
    ⟨some 65, .move (.tmp 1), none⟩,
    ⟨some 66, .binOp .sub 3 (.tmp 64) (.tmp 65) 3, none⟩,
    ⟨some 67, .binOp .sub 3 (.tmp 63) (.tmp 66) 3, none⟩,
    ⟨some 13, .assign (.tmp 67), none⟩]
@[reducible] def q100_14 : SCode := .region [⟨some 14, .assign (.const (.int .i64 1)), none⟩]
@[reducible] def q100_15 : SCode := .region [⟨some 68, .move (.tmp 10), none⟩,
    ⟨some 69, .move (.tmp 68), none⟩,
    ⟨some 70, .move (.tmp 11), some (69, true)⟩,
    ⟨some 71, .pick (.tmp 69) (.tmp 70) (.const (.bool false)), none⟩,
    ⟨some 72, .move (.tmp 71), none⟩,
    ⟨some 73, .move (.tmp 14), some (72, true)⟩,
    ⟨some 74, .binOp .eql 99 (.tmp 73) (.const (.int .i64 1)) 99, some (72, true)⟩,
    ⟨some 75, .pick (.tmp 72) (.tmp 74) (.const (.bool false)), none⟩]
@[reducible] def q100_16 : SCode := .region [⟨some 76, .move (.tmp 0), none⟩,
    ⟨some 77, .move (.tmp 1), none⟩,
    ⟨some 78, .move (.tmp 2), none⟩,
    ⟨some 79, .move (.tmp 4), none⟩,
    ⟨some 80, .call { callee := .value (.func 107), args := #[.tmp 76, .tmp 77, .tmp 78, .tmp 79], argTypes := #[22, 3, 3, 88] }, none⟩]
def q100_17 : SCode := .draw [⟨some 81, .move (.tmp 1), none⟩,
    ⟨some 82, .binOp .gtr 3 (.tmp 81) (.const (.int .i64 0)) 3, none⟩,
    ⟨some 83, .move (.tmp 82), none⟩,
    ⟨some 84, .move (.tmp 4), some (83, true)⟩,
    ⟨some 85, .move (.tmp 0), some (83, true)⟩,
    ⟨some 86, .move (.tmp 1), some (83, true)⟩,
    ⟨some 87, .binOp .sub 3 (.tmp 86) (.const (.int .i64 1)) 3, some (83, true)⟩,
    ⟨some 88, .indexAddr 22 (.tmp 85) (.tmp 87), some (83, true)⟩,
    ⟨some 89, .load 3 (.tmp 88), some (83, true)⟩,
    ⟨some 90, .move (.tmp 0), some (83, true)⟩,
    ⟨some 91, .move (.tmp 13), some (83, true)⟩,
    ⟨some 92, .indexAddr 22 (.tmp 90) (.tmp 91), some (83, true)⟩,
    ⟨some 93, .load 3 (.tmp 92), some (83, true)⟩,
    ⟨some 94, .call { callee := .value (.tmp 84), args := #[.tmp 89, .tmp 93], argTypes := #[3, 3] }, some (83, true)⟩,
    ⟨some 95, .binOp .lss 3 (.tmp 94) (.const (.int .i64 0)) 3, some (83, true)⟩,
    ⟨some 96, .unOp .not 4 (.tmp 95), some (83, true)⟩,
    ⟨some 97, .pick (.tmp 83) (.tmp 96) (.const (.bool false)), none⟩]
   [[], [0], [1], [2], [2], [2], [5, 2], [4, 6, 2], [7, 2], [2], [2], [9, 10, 2], [11, 2], [3, 8, 12, 2, 2], [13, 2], [14, 2], [2, 15]]
@[reducible] def q100_18 : SCode := .region [⟨some 98, .move (.tmp 0), none⟩,
    ⟨some 99, .move (.tmp 1), none⟩,
    ⟨some 100, .move (.tmp 2), none⟩,
    ⟨some 101, .move (.tmp 13), none⟩,
    ⟨some 102, .move (.tmp 4), none⟩,
    ⟨some 103, .call { callee := .value (.func 108), args := #[.tmp 98, .tmp 99, .tmp 100, .tmp 101, .tmp 102], argTypes := #[22, 3, 3, 3, 88] }, none⟩,
    ⟨some 15, .assign (.tmp 103), none⟩]
@[reducible] def q100_19 : SCode := .region [⟨some 104, .move (.tmp 15), none⟩,
    ⟨some 1, .assign (.tmp 104), none⟩]
@[reducible] def q100_20 : SCode := .region [⟨some 106, .move (.tmp 0), none⟩,
    ⟨some 107, .move (.tmp 1), none⟩,
    ⟨some 108, .move (.tmp 2), none⟩,
    ⟨some 109, .move (.tmp 13), none⟩,
    ⟨some 110, .move (.tmp 4), none⟩,
    ⟨some 111, .call { callee := .value (.func 109), args := #[.tmp 106, .tmp 107, .tmp 108, .tmp 109, .tmp 110], argTypes := #[22, 3, 3, 3, 88] }, none⟩,
    ⟨some 105, .move (.tmp 111), none⟩,
    ⟨some 112, .extract (.tmp 105) 0, none⟩,
    ⟨some 113, .extract (.tmp 105) 1, none⟩,
    ⟨some 16, .assign (.tmp 112), none⟩,
    ⟨some 17, .assign (.tmp 113), none⟩]
@[reducible] def q100_21 : SCode := .region [⟨some 114, .move (.tmp 17), none⟩,
    ⟨some 11, .assign (.tmp 114), none⟩]
@[reducible] def q100_22 : SCode := .region [⟨some 115, .move (.tmp 16), none⟩,
    ⟨some 116, .move (.tmp 1), none⟩,
    ⟨some 117, .binOp .sub 3 (.tmp 115) (.tmp 116) 3, none⟩,
    ⟨some 118, .move (.tmp 2), none⟩,
    ⟨some 119, .move (.tmp 16), none⟩,
    ⟨some 120, .binOp .sub 3 (.tmp 118) (.tmp 119) 3, none⟩,
    ⟨some 18, .assign (.tmp 117), none⟩,
    ⟨some 19, .assign (.tmp 120), none⟩]
@[reducible] def q100_23 : SCode := .region [⟨some 121, .move (.tmp 12), none⟩,
    ⟨some 122, .binOp .quo 3 (.tmp 121) (.const (.int .i64 8)) 3, none⟩,
    ⟨some 20, .assign (.tmp 122), none⟩]
@[reducible] def q100_24 : SCode := .region [⟨some 123, .move (.tmp 18), none⟩,
    ⟨some 124, .move (.tmp 19), none⟩,
    ⟨some 125, .binOp .lss 3 (.tmp 123) (.tmp 124) 3, none⟩]
@[reducible] def q100_25 : SCode := .region [⟨some 126, .move (.tmp 18), none⟩,
    ⟨some 127, .move (.tmp 20), none⟩,
    ⟨some 128, .binOp .geq 3 (.tmp 126) (.tmp 127) 3, none⟩,
    ⟨some 10, .assign (.tmp 128), none⟩]
@[reducible] def q100_26 : SCode := .region [⟨some 129, .move (.tmp 0), none⟩,
    ⟨some 130, .move (.tmp 1), none⟩,
    ⟨some 131, .move (.tmp 16), none⟩,
    ⟨some 132, .move (.tmp 3), none⟩,
    ⟨some 133, .move (.tmp 4), none⟩,
    ⟨some 134, .call { callee := .value (.func 100), args := #[.tmp 129, .tmp 130, .tmp 131, .tmp 132, .tmp 133], argTypes := #[22, 3, 3, 3, 88] }, none⟩]
@[reducible] def q100_27 : SCode := .region [⟨some 135, .move (.tmp 16), none⟩,
    ⟨some 136, .binOp .add 3 (.tmp 135) (.const (.int .i64 1)) 3, none⟩,
    ⟨some 1, .assign (.tmp 136), none⟩]
@[reducible] def q100_28 : SCode := .region [⟨some 137, .move (.tmp 19), none⟩,
    ⟨some 138, .move (.tmp 20), none⟩,
    ⟨some 139, .binOp .geq 3 (.tmp 137) (.tmp 138) 3, none⟩,
    ⟨some 10, .assign (.tmp 139), none⟩]
@[reducible] def q100_29 : SCode := .region [⟨some 140, .move (.tmp 0), none⟩,
    ⟨some 141, .move (.tmp 16), none⟩,
    ⟨some 142, .binOp .add 3 (.tmp 141) (.const (.int .i64 1)) 3, none⟩,
    ⟨some 143, .move (.tmp 2), none⟩,
    ⟨some 144, .move (.tmp 3), none⟩,
    ⟨some 145, .move (.tmp 4), none⟩,
    ⟨some 146, .call { callee := .value (.func 100), args := #[.tmp 140, .tmp 142, .tmp 143, .tmp 144, .tmp 145], argTypes := #[22, 3, 3, 3, 88] }, none⟩]
@[reducible] def q100_30 : SCode := .region [⟨some 147, .move (.tmp 16), none⟩,
    ⟨some 2, .assign (.tmp 147), none⟩]
def l100_0 : SCode := (.block 1 (.seq q100_2 (.seq (.seq q100_3 (.cond (.tmp 25) (.seq q100_4 .ret) .skip)) (.seq (.seq q100_5 (.cond (.tmp 32) (.seq q100_6 .ret) .skip)) (.seq (.seq q100_7 (.cond (.tmp 39) (.seq q100_8 q100_9) .skip)) (.seq q100_10 (.seq (.seq q100_11 (.cond (.tmp 56) (.seq q100_12 (.seq q100_13 q100_14)) .skip)) (.seq (.seq q100_15 (.cond (.tmp 75) (.seq q100_16 (.cond (.tmp 80) .ret .skip)) .skip)) (.seq (.seq q100_17 (.cond (.tmp 97) (.seq q100_18 (.seq q100_19 (.exit 1))) .skip)) (.seq q100_20 (.seq q100_21 (.seq q100_22 (.seq q100_23 (.seq q100_24 (.cond (.tmp 125) (.seq q100_25 (.seq q100_26 q100_27)) (.seq q100_28 (.seq q100_29 q100_30)))))))))))))))))
def s100 : SCode := (.seq q100_0 (.seq q100_1 (.block 0 (.loop l100_0))))
theorem s100_strip : stripC (bodyOf Tryd.f100) = s100 := by kernel_rfl
theorem s100_ok : codeOK 148 (bodyOf Tryd.f100) = true := by kernel_rfl
theorem s100_call [Tabs Tryd.prog] {args : List Value} {h : Heap} {Q : Value → Heap → Prop} (hsz : args.length ≤ 148) (hk : aw Tryd.prog 148 s100 (aPost Tryd.prog [] Q) (argEnv 0 args) h) : ACall Tryd.prog 100 args h Q :=
  acall_s Tryd.func100 rfl (enters_of Tryd.func100 (by kernel_rfl) rfl) rfl rfl (by decide) s100_strip s100_ok hsz hk

/-! 101: math bits.Len -/
@[reducible] def q101_0 : SCode := .region [⟨some 2, .assign (.const (.int .i64 0)), none⟩]
@[reducible] def q101_1 : SCode := .region [⟨some 3, .move (.tmp 0), none⟩,
    ⟨some 4, .convert 42 107 (.tmp 3), none⟩,
    ⟨some 5, .call { callee := .value (.func 110), args := #[.tmp 4], argTypes := #[107] }, none⟩,
    ⟨some 2, .assign (.tmp 5), none⟩]
@[reducible] def q101_2 : SCode := .region [⟨some 6, .move (.tmp 0), none⟩,
    ⟨some 7, .call { callee := .value (.func 111), args := #[.tmp 6], argTypes := #[63] }, none⟩,
    ⟨some 2, .assign (.tmp 7), none⟩]
def s101 : SCode := (.seq q101_0 (.seq (.cond (.const (.bool false)) (.seq q101_1 .ret) .skip) (.seq q101_2 .ret)))
theorem s101_strip : stripC (bodyOf Tryd.f101) = s101 := by kernel_rfl
theorem s101_ok : codeOK 8 (bodyOf Tryd.f101) = true := by kernel_rfl
theorem s101_call [Tabs Tryd.prog] {args : List Value} {h : Heap} {Q : Value → Heap → Prop} (hsz : args.length ≤ 8) (hk : aw Tryd.prog 8 s101 (aPost Tryd.prog [.tmp 2] Q) (argEnv 0 args) h) : ACall Tryd.prog 101 args h Q :=
  acall_s Tryd.func101 rfl (enters_of Tryd.func101 (by kernel_rfl) rfl) rfl rfl (by decide) s101_strip s101_ok hsz hk

/-! 102: slices.insertionSortCmpFunc[int] -/
@[reducible] def q102_0 : SCode := .region [⟨some 10, .move (.tmp 1), none⟩,
    ⟨some 11, .binOp .add 3 (.tmp 10) (.const (.int .i64 1)) 3, none⟩,
    ⟨some 8, .assign (.tmp 11), none⟩]
@[reducible] def q102_1 : SCode := .region [⟨some 12, .move (.tmp 8), none⟩,
    ⟨some 13, .move (.tmp 2), none⟩,
    ⟨some 14, .binOp .lss 3 (.tmp 12) (.tmp 13) 3, none⟩]
@[reducible] def q102_3 : SCode := .region [⟨some 17, .move (.tmp 8), none⟩,
    ⟨some 9, .assign (.tmp 17), none⟩]
def q102_4 : SCode := .draw [⟨some 18, .move (.tmp 9), none⟩,
    ⟨some 19, .move (.tmp 1), none⟩,
    ⟨some 20, .binOp .gtr 3 (.tmp 18) (.tmp 19) 3, none⟩,
    ⟨some 21, .move (.tmp 20), none⟩,
    ⟨some 22, .move (.tmp 3), some (21, true)⟩,
    ⟨some 23, .move (.tmp 0), some (21, true)⟩,
    ⟨some 24, .move (.tmp 9), some (21, true)⟩,
    ⟨some 25, .indexAddr 22 (.tmp 23) (.tmp 24), some (21, true)⟩,
    ⟨some 26, .load 3 (.tmp 25), some (21, true)⟩,
    ⟨some 27, .move (.tmp 0), some (21, true)⟩,
    ⟨some 28, .move (.tmp 9), some (21, true)⟩,
    ⟨some 29, .binOp .sub 3 (.tmp 28) (.const (.int .i64 1)) 3, some (21, true)⟩,
    ⟨some 30, .indexAddr 22 (.tmp 27) (.tmp 29), some (21, true)⟩,
    ⟨some 31, .load 3 (.tmp 30), some (21, true)⟩,
    ⟨some 32, .call { callee := .value (.tmp 22), args := #[.tmp 26, .tmp 31], argTypes := #[3, 3] }, some (21, true)⟩,
    ⟨some 33, .binOp .lss 3 (.tmp 32) (.const (.int .i64 0)) 3, some (21, true)⟩,
    ⟨some 34, .pick (.tmp 21) (.tmp 33) (.const (.bool false)), none⟩]
   [[], [], [0, 1], [2], [3], [3], [3], [5, 6, 3], [7, 3], [3], [3], [10, 3], [9, 11, 3], [12, 3], [4, 8, 13, 3, 3], [14, 3], [3, 15]]
def q102_6 : SCode := .draw [⟨some 37, .move (.tmp 0), none⟩,
    ⟨some 38, .move (.tmp 9), none⟩,
    ⟨some 39, .move (.tmp 0), none⟩,
    ⟨some 40, .move (.tmp 9), none⟩,
    ⟨some 41, .binOp .sub 3 (.tmp 40) (.const (.int .i64 1)) 3, none⟩,
    ⟨some 42, .move (.tmp 0), none⟩,
    ⟨some 43, .move (.tmp 9), none⟩,
    ⟨some 44, .binOp .sub 3 (.tmp 43) (.const (.int .i64 1)) 3, none⟩,
    ⟨some 45, .indexAddr 22 (.tmp 42) (.tmp 44), none⟩,
    ⟨some 46, .load 3 (.tmp 45), none⟩,
    ⟨some 47, .move (.tmp 0), none⟩,
    ⟨some 48, .move (.tmp 9), none⟩,
    ⟨some 49, .indexAddr 22 (.tmp 47) (.tmp 48), none⟩,
    ⟨some 50, .load 3 (.tmp 49), none⟩,
    ⟨some 51, .indexAddr 22 (.tmp 37) (.tmp 38), none⟩,
    ⟨none, .store 3 (.tmp 51) (.tmp 46), none⟩,
    ⟨some 52, .indexAddr 22 (.tmp 39) (.tmp 41), none⟩,
    ⟨none, .store 3 (.tmp 52) (.tmp 50), none⟩]
   [[], [], [], [], [3], [], [], [6], [5, 7], [8], [], [], [10, 11], [12], [0, 1, 0, 1, 5, 6, 7, 8, 9, 13], [14, 9, 0, 1, 5, 6, 7, 8, 9, 13], [2, 4, 0, 1, 2, 3, 4, 5, 6, 7, 8, 9, 10, 11, 12, 13, 14, 15], [16, 13, 15, 0, 1, 2, 3, 4, 5, 6, 7, 8, 9, 10, 11, 12, 13, 14, 15]]
@[reducible] def q102_5 : SCode := .region [⟨some 35, .move (.tmp 9), none⟩,
    ⟨some 36, .binOp .sub 3 (.tmp 35) (.const (.int .i64 1)) 3, none⟩,
    ⟨some 9, .assign (.tmp 36), none⟩]
def l102_0 : SCode := (.seq (.seq q102_4 (.cond (.tmp 34) .skip (.exit 2))) (.seq (.block 3 q102_6) q102_5))
@[reducible] def q102_2 : SCode := .region [⟨some 15, .move (.tmp 8), none⟩,
    ⟨some 16, .binOp .add 3 (.tmp 15) (.const (.int .i64 1)) 3, none⟩,
    ⟨some 8, .assign (.tmp 16), none⟩]
def l102_1 : SCode := (.seq (.seq q102_1 (.cond (.tmp 14) .skip (.exit 0))) (.seq (.block 1 (.seq q102_3 (.block 2 (.loop l102_0)))) q102_2))
def s102 : SCode := (.seq q102_0 (.block 0 (.loop l102_1)))
theorem s102_strip : stripC (bodyOf Tryd.f102) = s102 := by kernel_rfl
theorem s102_ok : codeOK 53 (bodyOf Tryd.f102) = true := by kernel_rfl
theorem s102_call [Tabs Tryd.prog] {args : List Value} {h : Heap} {Q : Value → Heap → Prop} (hsz : args.length ≤ 53) (hk : aw Tryd.prog 53 s102 (aPost Tryd.prog [] Q) (argEnv 0 args) h) : ACall Tryd.prog 102 args h Q :=
  acall_s Tryd.func102 rfl (enters_of Tryd.func102 (by kernel_rfl) rfl) rfl rfl (by decide) s102_strip s102_ok hsz hk

/-! 111: math bits.Len64 -/
@[reducible] def q111_0 : SCode := .region [⟨some 2, .assign (.const (.int .i64 0)), none⟩]
@[reducible] def q111_1 : SCode := .region [⟨some 3, .move (.tmp 0), none⟩,
    ⟨some 4, .binOp .geq 63 (.tmp 3) (.const (.int .u64 4294967296)) 63, none⟩]
@[reducible] def q111_2 : SCode := .region [⟨some 5, .move (.tmp 0), none⟩,
    ⟨some 6, .binOp .shr 63 (.tmp 5) (.const (.int .u64 32)) 42, none⟩,
    ⟨some 0, .assign (.tmp 6), none⟩]
@[reducible] def q111_3 : SCode := .region [⟨some 2, .assign (.const (.int .i64 32)), none⟩]
@[reducible] def q111_4 : SCode := .region [⟨some 7, .move (.tmp 0), none⟩,
    ⟨some 8, .binOp .geq 63 (.tmp 7) (.const (.int .u64 65536)) 63, none⟩]
@[reducible] def q111_5 : SCode := .region [⟨some 9, .move (.tmp 0), none⟩,
    ⟨some 10, .binOp .shr 63 (.tmp 9) (.const (.int .u64 16)) 42, none⟩,
    ⟨some 0, .assign (.tmp 10), none⟩]
@[reducible] def q111_6 : SCode := .region [⟨some 11, .move (.tmp 2), none⟩,
    ⟨some 12, .binOp .add 3 (.tmp 11) (.const (.int .i64 16)) 3, none⟩,
    ⟨some 2, .assign (.tmp 12), none⟩]
@[reducible] def q111_7 : SCode := .region [⟨some 13, .move (.tmp 0), none⟩,
    ⟨some 14, .binOp .geq 63 (.tmp 13) (.const (.int .u64 256)) 63, none⟩]
@[reducible] def q111_8 : SCode := .region [⟨some 15, .move (.tmp 0), none⟩,
    ⟨some 16, .binOp .shr 63 (.tmp 15) (.const (.int .u64 8)) 42, none⟩,
    ⟨some 0, .assign (.tmp 16), none⟩]
@[reducible] def q111_9 : SCode := .region [⟨some 17, .move (.tmp 2), none⟩,
    ⟨some 18, .binOp .add 3 (.tmp 17) (.const (.int .i64 8)) 3, none⟩,
    ⟨some 2, .assign (.tmp 18), none⟩]
@[reducible] def q111_10 : SCode := .region [⟨some 19, .move (.tmp 2), none⟩,
    ⟨some 20, .move (.tmp 0), none⟩,
    ⟨some 21, .convert 63 5 (.tmp 20), none⟩,
    ⟨some 22, .index 9 (.const (.string { data := #[0, 1, 2, 2, 3, 3, 3, 3, 4, 4, 4, 4, 4, 4, 4, 4, 5, 5, 5, 5, 5, 5, 5, 5, 5, 5, 5, 5, 5, 5, 5, 5, 6, 6, 6, 6, 6, 6, 6, 6, 6, 6, 6, 6, 6, 6, 6, 6, 6, 6, 6, 6, 6, 6, 6, 6, 6, 6, 6, 6, 6, 6, 6, 6, 7, 7, 7, 7, 7, 7, 7, 7, 7, 7, 7, 7, 7, 7, 7, 7, 7, 7, 7, 7, 7, 7, 7, 7, 7, 7, 7, 7, 7, 7, 7, 7, 7, 7, 7, 7, 7, 7, 7, 7, 7, 7, 7, 7, 7, 7, 7, 7, 7, 7, 7, 7, 7, 7, 7, 7, 7, 7, 7, 7, 7, 7, 7, 7, 8, 8, 8, 8, 8, 8, 8, 8, 8, 8, 8, 8, 8, 8, 8, 8, 8, 8, 8, 8, 8, 8, 8, 8, 8, 8, 8, 8, 8, 8, 8, 8, 8, 8, 8, 8, 8, 8, 8, 8, 8, 8, 8, 8, 8, 8, 8, 8, 8, 8, 8, 8, 8, 8, 8, 8, 8, 8, 8, 8, 8, 8, 8, 8, 8, 8, 8, 8, 8, 8, 8, 8, 8, 8, 8, 8, 8, 8, 8, 8, 8, 8, 8, 8, 8, 8, 8, 8, 8, 8, 8, 8, 8, 8, 8, 8, 8, 8, 8, 8, 8, 8, 8, 8, 8, 8, 8, 8, 8, 8, 8, 8, 8, 8, 8, 8, 8, 8, 8, 8, 8, 8, 8, 8, 8, 8, 8, 8] })) (.tmp 21), none⟩,
    ⟨some 23, .convert 5 3 (.tmp 22), none⟩,
    ⟨some 24, .binOp .add 3 (.tmp 19) (.tmp 23) 3, none⟩,
    ⟨some 2, .assign (.tmp 24), none⟩]
def s111 : SCode := (.seq q111_0 (.seq (.seq q111_1 (.cond (.tmp 4) (.seq q111_2 q111_3) .skip)) (.seq (.seq q111_4 (.cond (.tmp 8) (.seq q111_5 q111_6) .skip)) (.seq (.seq q111_7 (.cond (.tmp 14) (.seq q111_8 q111_9) .skip)) (.seq q111_10 .ret)))))
theorem s111_strip : stripC (bodyOf Tryd.f111) = s111 := by kernel_rfl
theorem s111_ok : codeOK 25 (bodyOf Tryd.f111) = true := by kernel_rfl
theorem s111_call [Tabs Tryd.prog] {args : List Value} {h : Heap} {Q : Value → Heap → Prop} (hsz : args.length ≤ 25) (hk : aw Tryd.prog 25 s111 (aPost Tryd.prog [.tmp 2] Q) (argEnv 0 args) h) : ACall Tryd.prog 111 args h Q :=
  acall_s Tryd.func111 rfl (enters_of Tryd.func111 (by kernel_rfl) rfl) rfl rfl (by decide) s111_strip s111_ok hsz hk

end Go.Proofs.Tryd.Am

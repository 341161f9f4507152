/- Printed by gen.py: the code of some functions, without what no step looks at; held against the program's own by the kernel. -/
import Derived.Test.YtemmcfeekpblkaaDoorAmO
import Derived.Test.YtemmcfeekpblkaaDoorProg
import Derived.KernelRfl
import Derived.Shelf.Abstract
set_option linter.all false
namespace Go.Proofs.Tryd.Am
open Go.Am
set_option maxRecDepth 100000
/-! 5: planchet planchetlaw02.RanksCrowned -/
@[reducible] def q5_0 : SCode := .region [⟨some 2, .assign (.const (.bool false)), none⟩]
@[reducible] def q5_1 : SCode := .region [⟨some 12, .move (.tmp 0), none⟩,
    ⟨some 13, .call { callee := .value (.func 19), args := #[.tmp 12], argTypes := #[22] }, none⟩,
    ⟨some 14, .call { callee := .value (.func 28), args := #[.tmp 13], argTypes := #[22] }, none⟩,
    ⟨some 11, .move (.tmp 14), none⟩,
    ⟨some 15, .extract (.tmp 11) 0, none⟩,
    ⟨some 16, .extract (.tmp 11) 1, none⟩,
    ⟨some 3, .assign (.tmp 15), none⟩,
    ⟨some 4, .assign (.tmp 16), none⟩]
@[reducible] def q5_2 : SCode := .region [⟨some 17, .move (.tmp 4), none⟩,
    ⟨some 18, .binOp .neq 23 (.tmp 17) (.const (.int .i64 0)) 23, none⟩,
    ⟨some 19, .move (.tmp 18), none⟩,
    ⟨some 20, .move (.tmp 0), some (19, false)⟩,
    ⟨some 21, .call { callee := .value (.func 20), args := #[.tmp 20], argTypes := #[22] }, some (19, false)⟩,
    ⟨some 22, .unOp .not 4 (.tmp 21), some (19, false)⟩,
    ⟨some 23, .pick (.tmp 19) (.const (.bool true)) (.tmp 22), none⟩]
@[reducible] def q5_3 : SCode := .region [⟨some 24, .move (.tmp 4), none⟩,
    ⟨some 25, .binOp .eql 23 (.tmp 24) (.const (.int .i64 2)) 23, none⟩,
    ⟨some 26, .move (.tmp 25), none⟩,
    ⟨some 27, .call { callee := .value (.func 21), args := #[], argTypes := #[] }, some (26, true)⟩,
    ⟨some 28, .pick (.tmp 26) (.tmp 27) (.const (.bool false)), none⟩,
    ⟨some 2, .assign (.tmp 28), none⟩]
@[reducible] def q5_4 : SCode := .region [⟨some 5, .assign (.const (.int .i64 0)), none⟩,
    ⟨some 6, .assign (.const (.bool false)), none⟩]
@[reducible] def q5_5 : SCode := .region [⟨some 29, .move (.tmp 0), none⟩,
    ⟨some 30, .call { callee := .builtin .len, args := #[.tmp 29], argTypes := #[22] }, none⟩,
    ⟨some 31, .move (.const (.int .i64 0)), none⟩]
@[reducible] def q5_6 : SCode := .region [⟨some 32, .binOp .lss 3 (.tmp 31) (.tmp 30) 3, none⟩]
@[reducible] def q5_7 : SCode := .region [⟨some 33, .indexAddr 22 (.tmp 29) (.tmp 31), none⟩,
    ⟨some 34, .load 3 (.tmp 33), none⟩,
    ⟨some 8, .assign (.tmp 34), none⟩]
@[reducible] def q5_8 : SCode := .region [⟨some 35, .move (.tmp 5), none⟩,
    ⟨some 36, .move (.tmp 8), none⟩,
    ⟨some 37, .call { callee := .value (.func 29), args := #[.tmp 36], argTypes := #[3] }, none⟩,
    ⟨some 38, .call { callee := .builtin .max, args := #[.tmp 35, .tmp 37], argTypes := #[3, 3] }, none⟩,
    ⟨some 5, .assign (.tmp 38), none⟩]
@[reducible] def q5_9 : SCode := .region [⟨some 39, .binOp .add 3 (.tmp 31) (.const (.int .i64 1)) 3, none⟩,
    ⟨some 31, .move (.tmp 39), none⟩]
def l5_0 : SCode := (.seq q5_6 (.seq (.cond (.tmp 32) .skip (.exit 0)) (.seq (.block 1 (.seq q5_7 q5_8)) q5_9)))
@[reducible] def q5_10 : SCode := .region [⟨some 40, .move (.tmp 0), none⟩,
    ⟨some 41, .call { callee := .builtin .len, args := #[.tmp 40], argTypes := #[22] }, none⟩,
    ⟨some 42, .move (.const (.int .i64 0)), none⟩]
@[reducible] def q5_11 : SCode := .region [⟨some 43, .binOp .lss 3 (.tmp 42) (.tmp 41) 3, none⟩]
@[reducible] def q5_12 : SCode := .region [⟨some 44, .move (.tmp 42), none⟩,
    ⟨some 45, .indexAddr 22 (.tmp 40) (.tmp 42), none⟩,
    ⟨some 46, .load 3 (.tmp 45), none⟩,
    ⟨some 9, .assign (.tmp 44), none⟩,
    ⟨some 10, .assign (.tmp 46), none⟩]
@[reducible] def q5_13 : SCode := .region [⟨some 47, .move (.tmp 10), none⟩,
    ⟨some 48, .call { callee := .value (.func 29), args := #[.tmp 47], argTypes := #[3] }, none⟩,
    ⟨some 49, .move (.tmp 5), none⟩,
    ⟨some 50, .binOp .eql 3 (.tmp 48) (.tmp 49) 3, none⟩,
    ⟨some 51, .move (.tmp 50), none⟩,
    ⟨some 52, .move (.tmp 3), some (51, true)⟩,
    ⟨some 53, .move (.tmp 9), some (51, true)⟩,
    ⟨some 54, .binOp .shr 3 (.tmp 52) (.tmp 53) 3, some (51, true)⟩,
    ⟨some 55, .binOp .and 3 (.tmp 54) (.const (.int .i64 1)) 3, some (51, true)⟩,
    ⟨some 56, .binOp .eql 3 (.tmp 55) (.const (.int .i64 0)) 3, some (51, true)⟩,
    ⟨some 57, .pick (.tmp 51) (.tmp 56) (.const (.bool false)), none⟩]
@[reducible] def q5_14 : SCode := .region [⟨some 2, .assign (.const (.bool false)), none⟩]
@[reducible] def q5_15 : SCode := .region [⟨some 58, .move (.tmp 6), none⟩,
    ⟨some 59, .move (.tmp 58), none⟩,
    ⟨some 60, .move (.tmp 10), some (59, false)⟩,
    ⟨some 61, .call { callee := .value (.func 29), args := #[.tmp 60], argTypes := #[3] }, some (59, false)⟩,
    ⟨some 62, .move (.tmp 0), some (59, false)⟩,
    ⟨some 63, .call { callee := .builtin .len, args := #[.tmp 62], argTypes := #[22] }, some (59, false)⟩,
    ⟨some 64, .binOp .sub 3 (.tmp 63) (.const (.int .i64 1)) 3, some (59, false)⟩,
    ⟨some 65, .binOp .eql 3 (.tmp 61) (.tmp 64) 3, some (59, false)⟩,
    ⟨some 66, .pick (.tmp 59) (.const (.bool true)) (.tmp 65), none⟩,
    ⟨some 6, .assign (.tmp 66), none⟩]
@[reducible] def q5_16 : SCode := .region [⟨some 67, .binOp .add 3 (.tmp 42) (.const (.int .i64 1)) 3, none⟩,
    ⟨some 42, .move (.tmp 67), none⟩]
def l5_1 : SCode := (.seq q5_11 (.seq (.cond (.tmp 43) .skip (.exit 2)) (.seq (.block 3 (.seq q5_12 (.seq (.seq q5_13 (.cond (.tmp 57) (.seq q5_14 .ret) .skip)) q5_15))) q5_16)))
@[reducible] def q5_17 : SCode := .region [⟨some 68, .move (.tmp 3), none⟩,
    ⟨some 69, .binOp .gtr 3 (.tmp 68) (.const (.int .i64 0)) 3, none⟩,
    ⟨some 70, .move (.tmp 69), none⟩,
    ⟨some 71, .move (.tmp 3), some (70, true)⟩,
    ⟨some 72, .move (.tmp 0), some (70, true)⟩,
    ⟨some 73, .call { callee := .builtin .len, args := #[.tmp 72], argTypes := #[22] }, some (70, true)⟩,
    ⟨some 74, .binOp .shl 3 (.const (.int .i64 1)) (.tmp 73) 3, some (70, true)⟩,
    ⟨some 75, .binOp .lss 3 (.tmp 71) (.tmp 74) 3, some (70, true)⟩,
    ⟨some 76, .pick (.tmp 70) (.tmp 75) (.const (.bool false)), none⟩,
    ⟨some 77, .move (.tmp 76), none⟩,
    ⟨some 78, .move (.tmp 3), some (77, true)⟩,
    ⟨some 79, .call { callee := .value (.func 29), args := #[.tmp 78], argTypes := #[3] }, some (77, true)⟩,
    ⟨some 80, .binOp .eql 3 (.tmp 79) (.const (.int .i64 1)) 3, some (77, true)⟩,
    ⟨some 81, .move (.tmp 6), some (77, true)⟩,
    ⟨some 82, .binOp .eql 4 (.tmp 80) (.tmp 81) 4, some (77, true)⟩,
    ⟨some 83, .pick (.tmp 77) (.tmp 82) (.const (.bool false)), none⟩,
    ⟨some 84, .move (.tmp 83), none⟩,
    ⟨some 85, .move (.tmp 6), some (84, true)⟩,
    ⟨some 86, .move (.tmp 85), some (84, true)⟩,
    ⟨some 87, .move (.tmp 3), some (86, false)⟩,
    ⟨some 88, .call { callee := .value (.func 29), args := #[.tmp 87], argTypes := #[3] }, some (86, false)⟩,
    ⟨some 89, .binOp .geq 3 (.tmp 88) (.const (.int .i64 3)) 3, some (86, false)⟩,
    ⟨some 90, .pick (.tmp 86) (.const (.bool true)) (.tmp 89), some (84, true)⟩,
    ⟨some 91, .pick (.tmp 84) (.tmp 90) (.const (.bool false)), none⟩,
    ⟨some 92, .move (.tmp 91), none⟩,
    ⟨some 93, .call { callee := .value (.func 21), args := #[], argTypes := #[] }, some (92, true)⟩,
    ⟨some 94, .pick (.tmp 92) (.tmp 93) (.const (.bool false)), none⟩,
    ⟨some 2, .assign (.tmp 94), none⟩]
def s5 : SCode := (.seq q5_0 (.seq q5_1 (.seq (.seq q5_2 (.cond (.tmp 23) (.seq q5_3 .ret) .skip)) (.seq q5_4 (.seq (.seq q5_5 (.block 0 (.loop l5_0))) (.seq (.seq q5_10 (.block 2 (.loop l5_1))) (.seq q5_17 .ret)))))))
theorem s5_strip : stripC (bodyOf Tryd.f5) = s5 := by kernel_rfl
theorem s5_ok : codeOK 95 (bodyOf Tryd.f5) = true := by kernel_rfl
theorem s5_call [Tabs Tryd.prog] {args : List Value} {h : Heap} {Q : Value → Heap → Prop} (hsz : args.length ≤ 95) (hk : aw Tryd.prog 95 s5 (aPost Tryd.prog [.tmp 2] Q) (argEnv 0 args) h) : ACall Tryd.prog 5 args h Q :=
  acall_s Tryd.func5 rfl (enters_of Tryd.func5 (by kernel_rfl) rfl) rfl rfl (by decide) s5_strip s5_ok hsz hk

/-! 28: planchet ranks.Kings -/
@[reducible] def q28_0 : SCode := .region [⟨some 1, .box 22 (.tmp 0), none⟩,
    ⟨some 2, .assign (.const (.int .i64 0)), none⟩,
    ⟨some 3, .assign (.const (.int .i64 0)), none⟩]
@[reducible] def q28_1 : SCode := .region [⟨some 10, .load 22 (.tmp 1), none⟩,
    ⟨some 4, .assign (.tmp 10), none⟩]
@[reducible] def q28_2 : SCode := .region [⟨some 11, .move (.tmp 4), none⟩,
    ⟨some 12, .call { callee := .value (.func 56), args := #[.tmp 11], argTypes := #[55] }, none⟩,
    ⟨some 13, .unOp .not 4 (.tmp 12), none⟩]
@[reducible] def q28_3 : SCode := .region [⟨some 2, .assign (.const (.int .i64 0)), none⟩,
    ⟨some 3, .assign (.const (.int .i64 2)), none⟩]
@[reducible] def q28_4 : SCode := .region [⟨some 5, .assign (.const (.int .i64 0)), none⟩]
@[reducible] def q28_5 : SCode := .region [⟨some 14, .load 22 (.tmp 1), none⟩,
    ⟨some 15, .call { callee := .builtin .len, args := #[.tmp 14], argTypes := #[22] }, none⟩,
    ⟨some 16, .move (.const (.int .i64 0)), none⟩]
@[reducible] def q28_6 : SCode := .region [⟨some 17, .binOp .lss 3 (.tmp 16) (.tmp 15) 3, none⟩]
@[reducible] def q28_7 : SCode := .region [⟨some 18, .move (.tmp 16), none⟩,
    ⟨some 19, .indexAddr 22 (.tmp 14) (.tmp 16), none⟩,
    ⟨some 20, .load 3 (.tmp 19), none⟩,
    ⟨some 6, .assign (.tmp 18), none⟩,
    ⟨some 7, .assign (.tmp 20), none⟩]
@[reducible] def q28_8 : SCode := .region [⟨some 21, .move (.tmp 7), none⟩,
    ⟨some 22, .move (.tmp 6), none⟩,
    ⟨some 23, .binOp .shl 3 (.const (.int .i64 1)) (.tmp 22) 3, none⟩,
    ⟨some 24, .binOp .or 3 (.tmp 21) (.tmp 23) 3, none⟩,
    ⟨some 8, .alloc 3, none⟩,
    ⟨none, .store 3 (.tmp 8) (.tmp 24), none⟩]
@[reducible] def q28_9 : SCode := .region [⟨some 25, .move (.tmp 7), none⟩,
    ⟨some 26, .call { callee := .value (.func 62), args := #[.tmp 25], argTypes := #[3] }, none⟩]
@[reducible] def q28_10 : SCode := .region [⟨some 9, .assign (.tmp 27), none⟩]
def q28_11 : SCode := .draw [⟨some 28, .load 3 (.tmp 8), none⟩,
    ⟨some 29, .load 22 (.tmp 1), none⟩,
    ⟨some 30, .move (.tmp 9), none⟩,
    ⟨some 31, .indexAddr 22 (.tmp 29) (.tmp 30), none⟩,
    ⟨some 32, .load 3 (.tmp 31), none⟩,
    ⟨some 33, .binOp .or 3 (.tmp 28) (.tmp 32) 3, none⟩,
    ⟨none, .store 3 (.tmp 8) (.tmp 33), none⟩]
   [[], [], [], [1, 2], [3], [0, 4], [5, 0, 1, 2, 3, 4, 5]]
def r28_0_a : SCode := q28_10
def r28_0_b : SCode := (.block 3 q28_11)
def q28_12 : SCode := .draw [⟨some 34, .load 3 (.tmp 8), none⟩,
    ⟨some 35, .move (.tmp 4), none⟩,
    ⟨some 36, .call { callee := .value (.func 63), args := #[.tmp 35], argTypes := #[55] }, none⟩,
    ⟨some 37, .binOp .eql 3 (.tmp 34) (.tmp 36) 3, none⟩]
   [[], [], [1], [0, 2]]
@[reducible] def q28_13 : SCode := .region [⟨some 38, .move (.tmp 5), none⟩,
    ⟨some 39, .move (.tmp 6), none⟩,
    ⟨some 40, .binOp .shl 3 (.const (.int .i64 1)) (.tmp 39) 3, none⟩,
    ⟨some 41, .binOp .or 3 (.tmp 38) (.tmp 40) 3, none⟩,
    ⟨some 5, .assign (.tmp 41), none⟩]
@[reducible] def q28_14 : SCode := .region [⟨some 42, .binOp .add 3 (.tmp 16) (.const (.int .i64 1)) 3, none⟩,
    ⟨some 16, .move (.tmp 42), none⟩]
def l28_1 : SCode := (.seq q28_6 (.seq (.cond (.tmp 17) .skip (.exit 0)) (.seq (.block 1 (.seq q28_7 (.seq q28_8 (.seq (.seq q28_9 (.block 2 (.range (.tmp 26) [27] r28_0_a r28_0_b))) (.seq q28_12 (.cond (.tmp 37) q28_13 .skip)))))) q28_14)))
@[reducible] def q28_15 : SCode := .region [⟨some 43, .move (.tmp 5), none⟩,
    ⟨some 2, .assign (.tmp 43), none⟩,
    ⟨some 3, .assign (.const (.int .i64 0)), none⟩]
def s28 : SCode := (.seq q28_0 (.seq q28_1 (.seq (.seq q28_2 (.cond (.tmp 13) (.seq q28_3 .ret) .skip)) (.seq q28_4 (.seq (.seq q28_5 (.block 0 (.loop l28_1))) (.seq q28_15 .ret))))))
theorem s28_strip : stripC (bodyOf Tryd.f28) = s28 := by kernel_rfl
theorem s28_ok : codeOK 44 (bodyOf Tryd.f28) = true := by kernel_rfl
theorem s28_call [Tabs Tryd.prog] {args : List Value} {h : Heap} {Q : Value → Heap → Prop} (hsz : args.length ≤ 44) (hk : aw Tryd.prog 44 s28 (aPost Tryd.prog [.tmp 2, .tmp 3] Q) (argEnv 0 args) h) : ACall Tryd.prog 28 args h Q :=
  acall_s Tryd.func28 rfl (enters_of Tryd.func28 (by kernel_rfl) rfl) rfl rfl (by decide) s28_strip s28_ok hsz hk

/-! 29: planchet planchetlaw02.size -/
@[reducible] def q29_0 : SCode := .region [⟨some 2, .assign (.const (.int .i64 0)), none⟩]
@[reducible] def q29_1 : SCode := .region [⟨some 3, .assign (.const (.int .i64 0)), none⟩]
@[reducible] def q29_2 : SCode := .region [⟨some 4, .move (.tmp 0), none⟩,
    ⟨some 5, .binOp .gtr 3 (.tmp 4) (.const (.int .i64 0)) 3, none⟩]
@[reducible] def q29_4 : SCode := .region [⟨some 10, .move (.tmp 3), none⟩,
    ⟨some 11, .binOp .add 3 (.tmp 10) (.const (.int .i64 1)) 3, none⟩,
    ⟨some 3, .assign (.tmp 11), none⟩]
@[reducible] def q29_3 : SCode := .region [⟨some 6, .move (.tmp 0), none⟩,
    ⟨some 7, .move (.tmp 0), none⟩,
    ⟨some 8, .binOp .sub 3 (.tmp 7) (.const (.int .i64 1)) 3, none⟩,
    ⟨some 9, .binOp .and 3 (.tmp 6) (.tmp 8) 3, none⟩,
    ⟨some 0, .assign (.tmp 9), none⟩]
def l29_0 : SCode := (.seq (.seq q29_2 (.cond (.tmp 5) .skip (.exit 0))) (.seq (.block 1 q29_4) q29_3))
@[reducible] def q29_5 : SCode := .region [⟨some 12, .move (.tmp 3), none⟩,
    ⟨some 2, .assign (.tmp 12), none⟩]
def s29 : SCode := (.seq q29_0 (.seq q29_1 (.seq (.block 0 (.loop l29_0)) (.seq q29_5 .ret))))
theorem s29_strip : stripC (bodyOf Tryd.f29) = s29 := by kernel_rfl
theorem s29_ok : codeOK 13 (bodyOf Tryd.f29) = true := by kernel_rfl
theorem s29_call [Tabs Tryd.prog] {args : List Value} {h : Heap} {Q : Value → Heap → Prop} (hsz : args.length ≤ 13) (hk : aw Tryd.prog 13 s29 (aPost Tryd.prog [.tmp 2] Q) (argEnv 0 args) h) : ACall Tryd.prog 29 args h Q :=
  acall_s Tryd.func29 rfl (enters_of Tryd.func29 (by kernel_rfl) rfl) rfl rfl (by decide) s29_strip s29_ok hsz hk

/-! 73: planchet ranks.count -/
@[reducible] def q73_0 : SCode := .region [⟨some 2, .assign (.const (.int .i64 0)), none⟩]
@[reducible] def q73_1 : SCode := .region [⟨some 3, .move (.tmp 0), none⟩,
    ⟨some 4, .convert 3 53 (.tmp 3), none⟩,
    ⟨some 5, .call { callee := .value (.func 97), args := #[.tmp 4], argTypes := #[53] }, none⟩,
    ⟨some 2, .assign (.tmp 5), none⟩]
def s73 : SCode := (.seq q73_0 (.seq q73_1 .ret))
theorem s73_strip : stripC (bodyOf Tryd.f73) = s73 := by kernel_rfl
theorem s73_ok : codeOK 6 (bodyOf Tryd.f73) = true := by kernel_rfl
theorem s73_call [Tabs Tryd.prog] {args : List Value} {h : Heap} {Q : Value → Heap → Prop} (hsz : args.length ≤ 6) (hk : aw Tryd.prog 6 s73 (aPost Tryd.prog [.tmp 2] Q) (argEnv 0 args) h) : ACall Tryd.prog 73 args h Q :=
  acall_s Tryd.func73 rfl (enters_of Tryd.func73 (by kernel_rfl) rfl) rfl rfl (by decide) s73_strip s73_ok hsz hk

/-! 97: math bits.OnesCount -/
@[reducible] def q97_0 : SCode := .region [⟨some 2, .assign (.const (.int .i64 0)), none⟩]
@[reducible] def q97_1 : SCode := .region [⟨some 3, .move (.tmp 0), none⟩,
    ⟨some 4, .convert 53 87 (.tmp 3), none⟩,
    ⟨some 5, .call { callee := .value (.func 108), args := #[.tmp 4], argTypes := #[87] }, none⟩,
    ⟨some 2, .assign (.tmp 5), none⟩]
@[reducible] def q97_2 : SCode := .region [⟨some 6, .move (.tmp 0), none⟩,
    ⟨some 7, .call { callee := .value (.func 109), args := #[.tmp 6], argTypes := #[89] }, none⟩,
    ⟨some 2, .assign (.tmp 7), none⟩]
def s97 : SCode := (.seq q97_0 (.seq (.cond (.const (.bool false)) (.seq q97_1 .ret) .skip) (.seq q97_2 .ret)))
theorem s97_strip : stripC (bodyOf Tryd.f97) = s97 := by kernel_rfl
theorem s97_ok : codeOK 8 (bodyOf Tryd.f97) = true := by kernel_rfl
theorem s97_call [Tabs Tryd.prog] {args : List Value} {h : Heap} {Q : Value → Heap → Prop} (hsz : args.length ≤ 8) (hk : aw Tryd.prog 8 s97 (aPost Tryd.prog [.tmp 2] Q) (argEnv 0 args) h) : ACall Tryd.prog 97 args h Q :=
  acall_s Tryd.func97 rfl (enters_of Tryd.func97 (by kernel_rfl) rfl) rfl rfl (by decide) s97_strip s97_ok hsz hk

/-! 109: math bits.OnesCount64 -/
@[reducible] def q109_0 : SCode := .region [⟨some 2, .assign (.const (.int .i64 0)), none⟩]
@[reducible] def q109_1 : SCode := .region [⟨some 3, .move (.tmp 0), none⟩,
    ⟨some 4, .binOp .shr 89 (.tmp 3) (.const (.int .u64 1)) 53, none⟩,
    ⟨some 5, .binOp .and 89 (.tmp 4) (.const (.int .u64 6148914691236517205)) 89, none⟩,
    ⟨some 6, .move (.tmp 0), none⟩,
    ⟨some 7, .binOp .and 89 (.tmp 6) (.const (.int .u64 6148914691236517205)) 89, none⟩,
    ⟨some 8, .binOp .add 89 (.tmp 5) (.tmp 7) 89, none⟩,
    ⟨some 0, .assign (.tmp 8), none⟩]
@[reducible] def q109_2 : SCode := .region [⟨some 9, .move (.tmp 0), none⟩,
    ⟨some 10, .binOp .shr 89 (.tmp 9) (.const (.int .u64 2)) 53, none⟩,
    ⟨some 11, .binOp .and 89 (.tmp 10) (.const (.int .u64 3689348814741910323)) 89, none⟩,
    ⟨some 12, .move (.tmp 0), none⟩,
    ⟨some 13, .binOp .and 89 (.tmp 12) (.const (.int .u64 3689348814741910323)) 89, none⟩,
    ⟨some 14, .binOp .add 89 (.tmp 11) (.tmp 13) 89, none⟩,
    ⟨some 0, .assign (.tmp 14), none⟩]
@[reducible] def q109_3 : SCode := .region [⟨some 15, .move (.tmp 0), none⟩,
    ⟨some 16, .binOp .shr 89 (.tmp 15) (.const (.int .u64 4)) 53, none⟩,
    ⟨some 17, .move (.tmp 0), none⟩,
    ⟨some 18, .binOp .add 89 (.tmp 16) (.tmp 17) 89, none⟩,
    ⟨some 19, .binOp .and 89 (.tmp 18) (.const (.int .u64 1085102592571150095)) 89, none⟩,
    ⟨some 0, .assign (.tmp 19), none⟩]
@[reducible] def q109_4 : SCode := .region [⟨some 20, .move (.tmp 0), none⟩,
    ⟨some 21, .move (.tmp 0), none⟩,
    ⟨some 22, .binOp .shr 89 (.tmp 21) (.const (.int .u64 8)) 53, none⟩,
    ⟨some 23, .binOp .add 89 (.tmp 20) (.tmp 22) 89, none⟩,
    ⟨some 0, .assign (.tmp 23), none⟩]
@[reducible] def q109_5 : SCode := .region [⟨some 24, .move (.tmp 0), none⟩,
    ⟨some 25, .move (.tmp 0), none⟩,
    ⟨some 26, .binOp .shr 89 (.tmp 25) (.const (.int .u64 16)) 53, none⟩,
    ⟨some 27, .binOp .add 89 (.tmp 24) (.tmp 26) 89, none⟩,
    ⟨some 0, .assign (.tmp 27), none⟩]
@[reducible] def q109_6 : SCode := .region [⟨some 28, .move (.tmp 0), none⟩,
    ⟨some 29, .move (.tmp 0), none⟩,
    ⟨some 30, .binOp .shr 89 (.tmp 29) (.const (.int .u64 32)) 53, none⟩,
    ⟨some 31, .binOp .add 89 (.tmp 28) (.tmp 30) 89, none⟩,
    ⟨some 0, .assign (.tmp 31), none⟩]
@[reducible] def q109_7 : SCode := .region [⟨some 32, .move (.tmp 0), none⟩,
    ⟨some 33, .convert 89 3 (.tmp 32), none⟩,
    ⟨some 34, .binOp .and 3 (.tmp 33) (.const (.int .i64 127)) 3, none⟩,
    ⟨some 2, .assign (.tmp 34), none⟩]
def s109 : SCode := (.seq q109_0 (.seq q109_1 (.seq q109_2 (.seq q109_3 (.seq q109_4 (.seq q109_5 (.seq q109_6 (.seq q109_7 .ret))))))))
theorem s109_strip : stripC (bodyOf Tryd.f109) = s109 := by kernel_rfl
theorem s109_ok : codeOK 35 (bodyOf Tryd.f109) = true := by kernel_rfl
theorem s109_call [Tabs Tryd.prog] {args : List Value} {h : Heap} {Q : Value → Heap → Prop} (hsz : args.length ≤ 35) (hk : aw Tryd.prog 35 s109 (aPost Tryd.prog [.tmp 2] Q) (argEnv 0 args) h) : ACall Tryd.prog 109 args h Q :=
  acall_s Tryd.func109 rfl (enters_of Tryd.func109 (by kernel_rfl) rfl) rfl rfl (by decide) s109_strip s109_ok hsz hk

end Go.Proofs.Tryd.Am

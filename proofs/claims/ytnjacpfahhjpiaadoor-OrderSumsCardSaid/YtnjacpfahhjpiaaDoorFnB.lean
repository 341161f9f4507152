/- Printed by gen.py: the code of some functions, without what no step looks at; held against the program's own by the kernel. -/
import Derived.Test.YtnjacpfahhjpiaaDoorAmO
import Derived.Test.YtnjacpfahhjpiaaDoorProg
import Derived.KernelRfl
import Derived.Shelf.Abstract
set_option linter.all false
namespace Go.Proofs.Tryd.Am
open Go.Am
set_option maxRecDepth 100000
/-! 3: planchet planchetlaw07.OrderCounts -/
@[reducible] def q3_0 : SCode := .region [⟨some 6, .assign (.const (.bool false)), none⟩]
@[reducible] def q3_1 : SCode := .region [⟨some 27, .move (.tmp 0), none⟩,
    ⟨some 28, .call { callee := .value (.func 18), args := #[.tmp 27], argTypes := #[22] }, none⟩,
    ⟨some 29, .call { callee := .value (.func 17), args := #[.tmp 28], argTypes := #[22] }, none⟩,
    ⟨some 26, .move (.tmp 29), none⟩,
    ⟨some 30, .extract (.tmp 26) 0, none⟩,
    ⟨some 31, .extract (.tmp 26) 1, none⟩,
    ⟨some 7, .assign (.tmp 30), none⟩,
    ⟨some 8, .assign (.tmp 31), none⟩]
@[reducible] def q3_2 : SCode := .region [⟨some 32, .move (.tmp 8), none⟩,
    ⟨some 33, .binOp .neq 23 (.tmp 32) (.const (.int .i64 0)) 23, none⟩,
    ⟨some 34, .move (.tmp 33), none⟩,
    ⟨some 35, .move (.tmp 0), some (34, false)⟩,
    ⟨some 36, .call { callee := .value (.func 19), args := #[.tmp 35], argTypes := #[22] }, some (34, false)⟩,
    ⟨some 37, .unOp .not 4 (.tmp 36), some (34, false)⟩,
    ⟨some 38, .pick (.tmp 34) (.const (.bool true)) (.tmp 37), none⟩]
@[reducible] def q3_3 : SCode := .region [⟨some 39, .move (.tmp 8), none⟩,
    ⟨some 40, .binOp .eql 23 (.tmp 39) (.const (.int .i64 2)) 23, none⟩,
    ⟨some 41, .move (.tmp 40), none⟩,
    ⟨some 42, .call { callee := .value (.func 20), args := #[], argTypes := #[] }, some (41, true)⟩,
    ⟨some 43, .pick (.tmp 41) (.tmp 42) (.const (.bool false)), none⟩,
    ⟨some 6, .assign (.tmp 43), none⟩]
@[reducible] def q3_4 : SCode := .region [⟨some 9, .assign (.const (.int .i64 0)), none⟩]
@[reducible] def q3_5 : SCode := .region [⟨some 44, .move (.tmp 0), none⟩,
    ⟨some 45, .call { callee := .builtin .len, args := #[.tmp 44], argTypes := #[22] }, none⟩,
    ⟨some 46, .move (.const (.int .i64 0)), none⟩]
@[reducible] def q3_6 : SCode := .region [⟨some 47, .binOp .lss 3 (.tmp 46) (.tmp 45) 3, none⟩]
@[reducible] def q3_7 : SCode := .region [⟨some 48, .move (.tmp 46), none⟩,
    ⟨some 10, .assign (.tmp 48), none⟩]
@[reducible] def q3_8 : SCode := .region [⟨some 11, .assign (.const (.bool true)), none⟩]
@[reducible] def q3_9 : SCode := .region [⟨some 49, .move (.tmp 0), none⟩,
    ⟨some 50, .call { callee := .builtin .len, args := #[.tmp 49], argTypes := #[22] }, none⟩,
    ⟨some 51, .move (.const (.int .i64 0)), none⟩]
@[reducible] def q3_10 : SCode := .region [⟨some 52, .binOp .lss 3 (.tmp 51) (.tmp 50) 3, none⟩]
@[reducible] def q3_11 : SCode := .region [⟨some 53, .indexAddr 22 (.tmp 49) (.tmp 51), none⟩,
    ⟨some 54, .load 3 (.tmp 53), none⟩,
    ⟨some 13, .assign (.tmp 54), none⟩]
@[reducible] def q3_12 : SCode := .region [⟨some 55, .move (.tmp 11), none⟩,
    ⟨some 56, .move (.tmp 55), none⟩,
    ⟨some 57, .move (.tmp 13), some (56, true)⟩,
    ⟨some 58, .move (.tmp 10), some (56, true)⟩,
    ⟨some 59, .binOp .shr 3 (.tmp 57) (.tmp 58) 3, some (56, true)⟩,
    ⟨some 60, .binOp .and 3 (.tmp 59) (.const (.int .i64 1)) 3, some (56, true)⟩,
    ⟨some 61, .binOp .eql 3 (.tmp 60) (.const (.int .i64 0)) 3, some (56, true)⟩,
    ⟨some 62, .pick (.tmp 56) (.tmp 61) (.const (.bool false)), none⟩,
    ⟨some 11, .assign (.tmp 62), none⟩]
@[reducible] def q3_13 : SCode := .region [⟨some 63, .binOp .add 3 (.tmp 51) (.const (.int .i64 1)) 3, none⟩,
    ⟨some 51, .move (.tmp 63), none⟩]
def l3_0 : SCode := (.seq q3_10 (.seq (.cond (.tmp 52) .skip (.exit 2)) (.seq (.block 3 (.seq q3_11 q3_12)) q3_13)))
@[reducible] def q3_14 : SCode := .region [⟨some 64, .move (.tmp 11), none⟩,
    ⟨some 65, .unOp .not 4 (.tmp 64), none⟩]
@[reducible] def q3_15 : SCode := .region [⟨some 66, .move (.tmp 0), none⟩,
    ⟨some 67, .call { callee := .builtin .len, args := #[.tmp 66], argTypes := #[22] }, none⟩,
    ⟨some 68, .binOp .eql 3 (.tmp 67) (.const (.int .i64 1)) 3, none⟩]
@[reducible] def q3_16 : SCode := .region [⟨some 69, .move (.tmp 9), none⟩,
    ⟨some 70, .binOp .add 3 (.tmp 69) (.const (.int .i64 1)) 3, none⟩,
    ⟨some 9, .assign (.tmp 70), none⟩]
@[reducible] def q3_17 : SCode := .region [⟨some 14, .assign (.const (.slice none 0 0)), none⟩]
@[reducible] def q3_18 : SCode := .region [⟨some 71, .move (.tmp 0), none⟩,
    ⟨some 72, .call { callee := .builtin .len, args := #[.tmp 71], argTypes := #[22] }, none⟩,
    ⟨some 73, .move (.const (.int .i64 0)), none⟩]
@[reducible] def q3_19 : SCode := .region [⟨some 74, .binOp .lss 3 (.tmp 73) (.tmp 72) 3, none⟩]
@[reducible] def q3_20 : SCode := .region [⟨some 75, .move (.tmp 73), none⟩,
    ⟨some 76, .indexAddr 22 (.tmp 71) (.tmp 73), none⟩,
    ⟨some 77, .load 3 (.tmp 76), none⟩,
    ⟨some 15, .assign (.tmp 75), none⟩,
    ⟨some 16, .assign (.tmp 77), none⟩]
@[reducible] def q3_21 : SCode := .region [⟨some 78, .move (.tmp 15), none⟩,
    ⟨some 79, .move (.tmp 10), none⟩,
    ⟨some 80, .binOp .neq 3 (.tmp 78) (.tmp 79) 3, none⟩]
def q3_22 : SCode := .draw [⟨some 81, .move (.tmp 14), none⟩,
    ⟨some 82, .move (.tmp 16), none⟩,
    ⟨some 83, .move (.tmp 10), none⟩,
    ⟨some 84, .binOp .shl 3 (.const (.int .i64 1)) (.tmp 83) 3, none⟩,
    ⟨some 85, .binOp .sub 3 (.tmp 84) (.const (.int .i64 1)) 3, none⟩,
    ⟨some 86, .binOp .and 3 (.tmp 82) (.tmp 85) 3, none⟩,
    ⟨some 87, .move (.tmp 16), none⟩,
    ⟨some 88, .move (.tmp 10), none⟩,
    ⟨some 89, .binOp .add 3 (.tmp 88) (.const (.int .i64 1)) 3, none⟩,
    ⟨some 90, .binOp .shr 3 (.tmp 87) (.tmp 89) 3, none⟩,
    ⟨some 91, .move (.tmp 10), none⟩,
    ⟨some 92, .binOp .shl 3 (.tmp 90) (.tmp 91) 3, none⟩,
    ⟨some 93, .binOp .or 3 (.tmp 86) (.tmp 92) 3, none⟩,
    ⟨some 94, .buildSlice 22 1 #[(0, .tmp 93)], none⟩,
    ⟨some 95, .call { callee := .builtin .append, args := #[.tmp 81, .tmp 94], argTypes := #[22, 22] }, none⟩,
    ⟨some 14, .assign (.tmp 95), none⟩]
   [[], [], [], [2], [3], [1, 4], [], [], [7], [6, 8], [], [9, 10], [5, 11], [12], [0, 13], [14, 14, 0, 1, 2, 3, 4, 5, 6, 7, 8, 9, 10, 11, 12, 13, 14]]
@[reducible] def q3_23 : SCode := .region [⟨some 96, .binOp .add 3 (.tmp 73) (.const (.int .i64 1)) 3, none⟩,
    ⟨some 73, .move (.tmp 96), none⟩]
def l3_1 : SCode := (.seq q3_19 (.seq (.cond (.tmp 74) .skip (.exit 4)) (.seq (.block 5 (.seq q3_20 (.seq q3_21 (.cond (.tmp 80) q3_22 .skip)))) q3_23)))
@[reducible] def q3_24 : SCode := .region [⟨some 98, .move (.tmp 14), none⟩,
    ⟨some 99, .call { callee := .value (.func 17), args := #[.tmp 98], argTypes := #[22] }, none⟩,
    ⟨some 97, .move (.tmp 99), none⟩,
    ⟨some 100, .extract (.tmp 97) 0, none⟩,
    ⟨some 101, .extract (.tmp 97) 1, none⟩,
    ⟨some 17, .assign (.tmp 100), none⟩,
    ⟨some 18, .assign (.tmp 101), none⟩]
@[reducible] def q3_25 : SCode := .region [⟨some 102, .move (.tmp 18), none⟩,
    ⟨some 103, .binOp .neq 23 (.tmp 102) (.const (.int .i64 0)) 23, none⟩]
@[reducible] def q3_26 : SCode := .region [⟨some 6, .assign (.const (.bool false)), none⟩]
@[reducible] def q3_27 : SCode := .region [⟨some 104, .move (.tmp 9), none⟩,
    ⟨some 105, .move (.tmp 17), none⟩,
    ⟨some 106, .binOp .add 3 (.tmp 104) (.tmp 105) 3, none⟩,
    ⟨some 9, .assign (.tmp 106), none⟩]
@[reducible] def q3_28 : SCode := .region [⟨some 107, .binOp .add 3 (.tmp 46) (.const (.int .i64 1)) 3, none⟩,
    ⟨some 46, .move (.tmp 107), none⟩]
def l3_2 : SCode := (.seq q3_6 (.seq (.cond (.tmp 47) .skip (.exit 0)) (.seq (.block 1 (.seq q3_7 (.seq q3_8 (.seq (.seq q3_9 (.block 2 (.loop l3_0))) (.seq (.seq q3_14 (.cond (.tmp 65) (.exit 1) .skip)) (.seq (.seq q3_15 (.cond (.tmp 68) (.seq q3_16 (.exit 1)) .skip)) (.seq q3_17 (.seq (.seq q3_18 (.block 4 (.loop l3_1))) (.seq q3_24 (.seq (.seq q3_25 (.cond (.tmp 103) (.seq q3_26 .ret) .skip)) q3_27)))))))))) q3_28)))
@[reducible] def q3_29 : SCode := .region [⟨some 108, .move (.tmp 9), none⟩,
    ⟨some 109, .move (.tmp 7), none⟩,
    ⟨some 110, .binOp .neq 3 (.tmp 108) (.tmp 109) 3, none⟩]
@[reducible] def q3_30 : SCode := .region [⟨some 6, .assign (.const (.bool false)), none⟩]
def q3_31 : SCode := .draw [⟨some 111, .move (.tmp 1), none⟩,
    ⟨some 112, .convert 3 29 (.tmp 111), none⟩,
    ⟨some 113, .move (.tmp 0), none⟩,
    ⟨some 114, .call { callee := .builtin .len, args := #[.tmp 113], argTypes := #[22] }, none⟩,
    ⟨some 115, .convert 3 29 (.tmp 114), none⟩,
    ⟨some 116, .binOp .rem 29 (.tmp 112) (.tmp 115) 29, none⟩,
    ⟨some 117, .convert 29 3 (.tmp 116), none⟩,
    ⟨some 118, .move (.tmp 2), none⟩,
    ⟨some 119, .convert 3 29 (.tmp 118), none⟩,
    ⟨some 120, .move (.tmp 0), none⟩,
    ⟨some 121, .call { callee := .builtin .len, args := #[.tmp 120], argTypes := #[22] }, none⟩,
    ⟨some 122, .convert 3 29 (.tmp 121), none⟩,
    ⟨some 123, .binOp .rem 29 (.tmp 119) (.tmp 122) 29, none⟩,
    ⟨some 124, .convert 29 3 (.tmp 123), none⟩,
    ⟨some 1, .assign (.tmp 117), none⟩,
    ⟨some 2, .assign (.tmp 124), none⟩]
   [[], [0], [], [2], [3], [1, 4], [5], [], [7], [], [9], [10], [8, 11], [12], [6, 0, 1, 2, 3, 4, 5, 6], [13, 14, 0, 1, 2, 3, 4, 5, 6, 7, 8, 9, 10, 11, 12, 13, 14]]
@[reducible] def q3_32 : SCode := .region [⟨some 126, .move (.tmp 0), none⟩,
    ⟨some 127, .call { callee := .value (.func 18), args := #[.tmp 126], argTypes := #[22] }, none⟩,
    ⟨some 128, .move (.tmp 1), none⟩,
    ⟨some 129, .move (.tmp 2), none⟩,
    ⟨some 130, .call { callee := .value (.func 21), args := #[.tmp 127, .tmp 128, .tmp 129], argTypes := #[22, 3, 3] }, none⟩,
    ⟨some 125, .move (.tmp 130), none⟩,
    ⟨some 131, .extract (.tmp 125) 0, none⟩,
    ⟨some 132, .extract (.tmp 125) 1, none⟩,
    ⟨some 19, .assign (.tmp 131), none⟩,
    ⟨some 8, .assign (.tmp 132), none⟩]
@[reducible] def q3_33 : SCode := .region [⟨some 134, .move (.tmp 0), none⟩,
    ⟨some 135, .call { callee := .value (.func 18), args := #[.tmp 134], argTypes := #[22] }, none⟩,
    ⟨some 136, .move (.tmp 2), none⟩,
    ⟨some 137, .move (.tmp 1), none⟩,
    ⟨some 138, .call { callee := .value (.func 21), args := #[.tmp 135, .tmp 136, .tmp 137], argTypes := #[22, 3, 3] }, none⟩,
    ⟨some 133, .move (.tmp 138), none⟩,
    ⟨some 139, .extract (.tmp 133) 0, none⟩,
    ⟨some 140, .extract (.tmp 133) 1, none⟩,
    ⟨some 20, .assign (.tmp 139), none⟩,
    ⟨some 21, .assign (.tmp 140), none⟩]
@[reducible] def q3_34 : SCode := .region [⟨some 141, .move (.tmp 8), none⟩,
    ⟨some 142, .binOp .neq 23 (.tmp 141) (.const (.int .i64 0)) 23, none⟩]
@[reducible] def q3_35 : SCode := .region [⟨some 143, .move (.tmp 8), none⟩,
    ⟨some 144, .binOp .eql 23 (.tmp 143) (.const (.int .i64 5)) 23, none⟩,
    ⟨some 145, .move (.tmp 144), none⟩,
    ⟨some 146, .move (.tmp 21), some (145, true)⟩,
    ⟨some 147, .move (.tmp 8), some (145, true)⟩,
    ⟨some 148, .binOp .eql 23 (.tmp 146) (.tmp 147) 23, some (145, true)⟩,
    ⟨some 149, .pick (.tmp 145) (.tmp 148) (.const (.bool false)), none⟩,
    ⟨some 150, .move (.tmp 149), none⟩,
    ⟨some 151, .move (.tmp 0), some (150, true)⟩,
    ⟨some 152, .move (.tmp 1), some (150, true)⟩,
    ⟨some 153, .move (.tmp 2), some (150, true)⟩,
    ⟨some 154, .call { callee := .value (.func 22), args := #[.tmp 151, .tmp 152, .tmp 153], argTypes := #[22, 3, 3] }, some (150, true)⟩,
    ⟨some 155, .unOp .not 4 (.tmp 154), some (150, true)⟩,
    ⟨some 156, .pick (.tmp 150) (.tmp 155) (.const (.bool false)), none⟩,
    ⟨some 157, .move (.tmp 156), none⟩,
    ⟨some 158, .call { callee := .value (.func 20), args := #[], argTypes := #[] }, some (157, true)⟩,
    ⟨some 159, .pick (.tmp 157) (.tmp 158) (.const (.bool false)), none⟩,
    ⟨some 6, .assign (.tmp 159), none⟩]
@[reducible] def q3_36 : SCode := .region [⟨some 161, .move (.tmp 19), none⟩,
    ⟨some 162, .call { callee := .value (.func 17), args := #[.tmp 161], argTypes := #[22] }, none⟩,
    ⟨some 160, .move (.tmp 162), none⟩,
    ⟨some 163, .extract (.tmp 160) 0, none⟩,
    ⟨some 164, .extract (.tmp 160) 1, none⟩,
    ⟨some 22, .assign (.tmp 163), none⟩,
    ⟨some 23, .assign (.tmp 164), none⟩]
@[reducible] def q3_37 : SCode := .region [⟨some 166, .move (.tmp 20), none⟩,
    ⟨some 167, .call { callee := .value (.func 17), args := #[.tmp 166], argTypes := #[22] }, none⟩,
    ⟨some 165, .move (.tmp 167), none⟩,
    ⟨some 168, .extract (.tmp 165) 0, none⟩,
    ⟨some 169, .extract (.tmp 165) 1, none⟩,
    ⟨some 24, .assign (.tmp 168), none⟩,
    ⟨some 25, .assign (.tmp 169), none⟩]
@[reducible] def q3_38 : SCode := .region [⟨some 170, .move (.tmp 21), none⟩,
    ⟨some 171, .binOp .eql 23 (.tmp 170) (.const (.int .i64 0)) 23, none⟩,
    ⟨some 172, .move (.tmp 171), none⟩,
    ⟨some 173, .move (.tmp 23), some (172, true)⟩,
    ⟨some 174, .binOp .eql 23 (.tmp 173) (.const (.int .i64 0)) 23, some (172, true)⟩,
    ⟨some 175, .pick (.tmp 172) (.tmp 174) (.const (.bool false)), none⟩,
    ⟨some 176, .move (.tmp 175), none⟩,
    ⟨some 177, .move (.tmp 25), some (176, true)⟩,
    ⟨some 178, .binOp .eql 23 (.tmp 177) (.const (.int .i64 0)) 23, some (176, true)⟩,
    ⟨some 179, .pick (.tmp 176) (.tmp 178) (.const (.bool false)), none⟩,
    ⟨some 180, .move (.tmp 179), none⟩,
    ⟨some 181, .move (.tmp 22), some (180, true)⟩,
    ⟨some 182, .move (.tmp 24), some (180, true)⟩,
    ⟨some 183, .binOp .add 3 (.tmp 181) (.tmp 182) 3, some (180, true)⟩,
    ⟨some 184, .move (.tmp 7), some (180, true)⟩,
    ⟨some 185, .binOp .eql 3 (.tmp 183) (.tmp 184) 3, some (180, true)⟩,
    ⟨some 186, .pick (.tmp 180) (.tmp 185) (.const (.bool false)), none⟩,
    ⟨some 187, .move (.tmp 186), none⟩,
    ⟨some 188, .move (.tmp 22), some (187, true)⟩,
    ⟨some 189, .binOp .gtr 3 (.tmp 188) (.const (.int .i64 0)) 3, some (187, true)⟩,
    ⟨some 190, .pick (.tmp 187) (.tmp 189) (.const (.bool false)), none⟩,
    ⟨some 191, .move (.tmp 190), none⟩,
    ⟨some 192, .move (.tmp 24), some (191, true)⟩,
    ⟨some 193, .binOp .gtr 3 (.tmp 192) (.const (.int .i64 0)) 3, some (191, true)⟩,
    ⟨some 194, .pick (.tmp 191) (.tmp 193) (.const (.bool false)), none⟩,
    ⟨some 195, .move (.tmp 194), none⟩,
    ⟨some 196, .call { callee := .value (.func 20), args := #[], argTypes := #[] }, some (195, true)⟩,
    ⟨some 197, .pick (.tmp 195) (.tmp 196) (.const (.bool false)), none⟩,
    ⟨some 6, .assign (.tmp 197), none⟩]
def s3 : SCode := (.seq q3_0 (.seq q3_1 (.seq (.seq q3_2 (.cond (.tmp 38) (.seq q3_3 .ret) .skip)) (.seq q3_4 (.seq (.seq q3_5 (.block 0 (.loop l3_2))) (.seq (.seq q3_29 (.cond (.tmp 110) (.seq q3_30 .ret) .skip)) (.seq q3_31 (.seq q3_32 (.seq q3_33 (.seq (.seq q3_34 (.cond (.tmp 142) (.seq q3_35 .ret) .skip)) (.seq q3_36 (.seq q3_37 (.seq q3_38 .ret)))))))))))))
theorem s3_strip : stripC (bodyOf Tryd.f3) = s3 := by kernel_rfl
theorem s3_ok : codeOK 198 (bodyOf Tryd.f3) = true := by kernel_rfl
theorem s3_call [Tabs Tryd.prog] {args : List Value} {h : Heap} {Q : Value → Heap → Prop} (hsz : args.length ≤ 198) (hk : aw Tryd.prog 198 s3 (aPost Tryd.prog [.tmp 6] Q) (argEnv 0 args) h) : ACall Tryd.prog 3 args h Q :=
  acall_s Tryd.func3 rfl (enters_of Tryd.func3 (by kernel_rfl) rfl) rfl rfl (by decide) s3_strip s3_ok hsz hk

/-! 4: planchet planchetlaw07.OrderEven -/
@[reducible] def q4_0 : SCode := .region [⟨some 2, .assign (.const (.bool false)), none⟩]
@[reducible] def q4_1 : SCode := .region [⟨some 8, .move (.tmp 0), none⟩,
    ⟨some 9, .call { callee := .value (.func 18), args := #[.tmp 8], argTypes := #[22] }, none⟩,
    ⟨some 10, .call { callee := .value (.func 23), args := #[.tmp 9], argTypes := #[22] }, none⟩,
    ⟨some 7, .move (.tmp 10), none⟩,
    ⟨some 11, .extract (.tmp 7) 0, none⟩,
    ⟨some 12, .extract (.tmp 7) 1, none⟩,
    ⟨some 3, .alloc 33, none⟩,
    ⟨none, .store 33 (.tmp 3) (.tmp 11), none⟩,
    ⟨some 4, .assign (.tmp 12), none⟩]
@[reducible] def q4_2 : SCode := .region [⟨some 13, .move (.tmp 0), none⟩,
    ⟨some 14, .call { callee := .value (.func 19), args := #[.tmp 13], argTypes := #[22] }, none⟩,
    ⟨some 15, .unOp .not 4 (.tmp 14), none⟩]
@[reducible] def q4_3 : SCode := .region [⟨some 16, .load 33 (.tmp 3), none⟩,
    ⟨some 17, .build 33 #[], none⟩,
    ⟨some 18, .binOp .eql 33 (.tmp 16) (.tmp 17) 33, none⟩,
    ⟨some 19, .move (.tmp 18), none⟩,
    ⟨some 20, .move (.tmp 4), some (19, true)⟩,
    ⟨some 21, .binOp .eql 23 (.tmp 20) (.const (.int .i64 2)) 23, some (19, true)⟩,
    ⟨some 22, .pick (.tmp 19) (.tmp 21) (.const (.bool false)), none⟩,
    ⟨some 23, .move (.tmp 22), none⟩,
    ⟨some 24, .call { callee := .value (.func 20), args := #[], argTypes := #[] }, some (23, true)⟩,
    ⟨some 25, .pick (.tmp 23) (.tmp 24) (.const (.bool false)), none⟩,
    ⟨some 2, .assign (.tmp 25), none⟩]
@[reducible] def q4_4 : SCode := .region [⟨some 27, .move (.tmp 0), none⟩,
    ⟨some 28, .call { callee := .value (.func 24), args := #[.tmp 27], argTypes := #[22] }, none⟩,
    ⟨some 26, .move (.tmp 28), none⟩,
    ⟨some 29, .extract (.tmp 26) 0, none⟩,
    ⟨some 30, .extract (.tmp 26) 1, none⟩,
    ⟨some 5, .alloc 33, none⟩,
    ⟨none, .store 33 (.tmp 5) (.tmp 29), none⟩,
    ⟨some 6, .assign (.tmp 30), none⟩]
@[reducible] def q4_5 : SCode := .region [⟨some 31, .load 33 (.tmp 3), none⟩,
    ⟨some 32, .load 33 (.tmp 5), none⟩,
    ⟨some 33, .binOp .eql 33 (.tmp 31) (.tmp 32) 33, none⟩,
    ⟨some 34, .move (.tmp 33), none⟩,
    ⟨some 35, .move (.tmp 4), some (34, true)⟩,
    ⟨some 36, .move (.tmp 6), some (34, true)⟩,
    ⟨some 37, .binOp .eql 23 (.tmp 35) (.tmp 36) 23, some (34, true)⟩,
    ⟨some 38, .pick (.tmp 34) (.tmp 37) (.const (.bool false)), none⟩,
    ⟨some 39, .move (.tmp 38), none⟩,
    ⟨some 40, .call { callee := .value (.func 20), args := #[], argTypes := #[] }, some (39, true)⟩,
    ⟨some 41, .pick (.tmp 39) (.tmp 40) (.const (.bool false)), none⟩,
    ⟨some 2, .assign (.tmp 41), none⟩]
def s4 : SCode := (.seq q4_0 (.seq q4_1 (.seq (.seq q4_2 (.cond (.tmp 15) (.seq q4_3 .ret) .skip)) (.seq q4_4 (.seq q4_5 .ret)))))
theorem s4_strip : stripC (bodyOf Tryd.f4) = s4 := by kernel_rfl
theorem s4_ok : codeOK 42 (bodyOf Tryd.f4) = true := by kernel_rfl
theorem s4_call [Tabs Tryd.prog] {args : List Value} {h : Heap} {Q : Value → Heap → Prop} (hsz : args.length ≤ 42) (hk : aw Tryd.prog 42 s4 (aPost Tryd.prog [.tmp 2] Q) (argEnv 0 args) h) : ACall Tryd.prog 4 args h Q :=
  acall_s Tryd.func4 rfl (enters_of Tryd.func4 (by kernel_rfl) rfl) rfl rfl (by decide) s4_strip s4_ok hsz hk

/-! 23: planchet order.Even -/
@[reducible] def q23_0 : SCode := .region [⟨some 2, .alloc 33, none⟩,
    ⟨some 3, .assign (.const (.int .i64 0)), none⟩]
@[reducible] def q23_1 : SCode := .region [⟨some 12, .move (.tmp 0), none⟩,
    ⟨some 13, .call { callee := .value (.func 64), args := #[.tmp 12], argTypes := #[22] }, none⟩,
    ⟨some 11, .move (.tmp 13), none⟩,
    ⟨some 14, .extract (.tmp 11) 0, none⟩,
    ⟨some 15, .extract (.tmp 11) 1, none⟩,
    ⟨some 4, .alloc 77, none⟩,
    ⟨none, .store 77 (.tmp 4) (.tmp 14), none⟩,
    ⟨some 5, .assign (.tmp 15), none⟩]
@[reducible] def q23_2 : SCode := .region [⟨some 16, .move (.tmp 5), none⟩,
    ⟨some 17, .unOp .not 4 (.tmp 16), none⟩]
@[reducible] def q23_3 : SCode := .region [⟨some 18, .build 33 #[], none⟩,
    ⟨none, .store 33 (.tmp 2) (.tmp 18), none⟩,
    ⟨some 3, .assign (.const (.int .i64 2)), none⟩]
@[reducible] def q23_4 : SCode := .region [⟨some 6, .alloc 33, none⟩]
@[reducible] def q23_5 : SCode := .region [⟨some 7, .assign (.const (.int .i64 (-1))), none⟩]
@[reducible] def q23_6 : SCode := .region [⟨some 19, .fieldAddr 77 (.tmp 4) 0, none⟩,
    ⟨some 20, .load 3 (.tmp 19), none⟩,
    ⟨some 21, .move (.const (.int .i64 0)), none⟩]
@[reducible] def q23_7 : SCode := .region [⟨some 22, .binOp .lss 3 (.tmp 21) (.tmp 20) 3, none⟩]
@[reducible] def q23_8 : SCode := .region [⟨some 23, .move (.tmp 21), none⟩,
    ⟨some 8, .assign (.tmp 23), none⟩]
@[reducible] def q23_9 : SCode := .region [⟨some 24, .move (.tmp 8), none⟩,
    ⟨some 25, .binOp .add 3 (.tmp 24) (.const (.int .i64 1)) 3, none⟩,
    ⟨some 9, .assign (.tmp 25), none⟩]
@[reducible] def q23_10 : SCode := .region [⟨some 26, .move (.tmp 9), none⟩,
    ⟨some 27, .fieldAddr 77 (.tmp 4) 0, none⟩,
    ⟨some 28, .load 3 (.tmp 27), none⟩,
    ⟨some 29, .binOp .lss 3 (.tmp 26) (.tmp 28) 3, none⟩]
@[reducible] def q23_12 : SCode := .region [⟨some 32, .load 77 (.tmp 4), none⟩,
    ⟨some 33, .move (.tmp 8), none⟩,
    ⟨some 34, .move (.tmp 9), none⟩,
    ⟨some 35, .call { callee := .value (.func 68), args := #[.tmp 32, .tmp 33, .tmp 34], argTypes := #[77, 3, 3] }, none⟩,
    ⟨some 36, .unOp .not 4 (.tmp 35), none⟩]
def q23_13 : SCode := .draw [⟨some 37, .load 77 (.tmp 4), none⟩,
    ⟨some 38, .move (.tmp 8), none⟩,
    ⟨some 39, .move (.tmp 9), none⟩,
    ⟨some 40, .call { callee := .value (.func 72), args := #[.tmp 37, .tmp 38, .tmp 39], argTypes := #[77, 3, 3] }, none⟩,
    ⟨some 41, .binOp .mul 3 (.const (.int .i64 2)) (.tmp 40) 3, none⟩,
    ⟨some 42, .load 77 (.tmp 4), none⟩,
    ⟨some 43, .call { callee := .value (.func 65), args := #[.tmp 42], argTypes := #[77] }, none⟩,
    ⟨some 44, .binOp .sub 3 (.tmp 41) (.tmp 43) 3, none⟩,
    ⟨some 10, .assign (.tmp 44), none⟩]
   [[], [], [], [0, 1, 2], [3], [], [5, 3], [4, 6], [7, 6, 0, 1, 2, 3, 4, 5, 6, 7]]
@[reducible] def q23_14 : SCode := .region [⟨some 45, .move (.tmp 10), none⟩,
    ⟨some 46, .move (.tmp 10), none⟩,
    ⟨some 47, .unOp .neg 3 (.tmp 46), none⟩,
    ⟨some 48, .call { callee := .builtin .max, args := #[.tmp 45, .tmp 47], argTypes := #[3, 3] }, none⟩,
    ⟨some 10, .assign (.tmp 48), none⟩]
@[reducible] def q23_15 : SCode := .region [⟨some 49, .move (.tmp 7), none⟩,
    ⟨some 50, .binOp .lss 3 (.tmp 49) (.const (.int .i64 0)) 3, none⟩,
    ⟨some 51, .move (.tmp 50), none⟩,
    ⟨some 52, .move (.tmp 10), some (51, false)⟩,
    ⟨some 53, .move (.tmp 7), some (51, false)⟩,
    ⟨some 54, .binOp .lss 3 (.tmp 52) (.tmp 53) 3, some (51, false)⟩,
    ⟨some 55, .pick (.tmp 51) (.const (.bool true)) (.tmp 54), none⟩]
@[reducible] def q23_16 : SCode := .region [⟨some 56, .move (.tmp 8), none⟩,
    ⟨some 57, .move (.tmp 9), none⟩,
    ⟨some 58, .build 33 #[(0, .tmp 56), (1, .tmp 57)], none⟩,
    ⟨some 59, .move (.tmp 10), none⟩,
    ⟨none, .store 33 (.tmp 6) (.tmp 58), none⟩,
    ⟨some 7, .assign (.tmp 59), none⟩]
@[reducible] def q23_11 : SCode := .region [⟨some 30, .move (.tmp 9), none⟩,
    ⟨some 31, .binOp .add 3 (.tmp 30) (.const (.int .i64 1)) 3, none⟩,
    ⟨some 9, .assign (.tmp 31), none⟩]
def l23_0 : SCode := (.seq (.seq q23_10 (.cond (.tmp 29) .skip (.exit 2))) (.seq (.block 3 (.seq (.seq q23_12 (.cond (.tmp 36) (.exit 3) .skip)) (.seq q23_13 (.seq q23_14 (.seq q23_15 (.cond (.tmp 55) q23_16 .skip)))))) q23_11))
@[reducible] def q23_17 : SCode := .region [⟨some 60, .binOp .add 3 (.tmp 21) (.const (.int .i64 1)) 3, none⟩,
    ⟨some 21, .move (.tmp 60), none⟩]
def l23_1 : SCode := (.seq q23_7 (.seq (.cond (.tmp 22) .skip (.exit 0)) (.seq (.block 1 (.seq q23_8 (.seq q23_9 (.block 2 (.loop l23_0))))) q23_17)))
@[reducible] def q23_18 : SCode := .region [⟨some 61, .move (.tmp 7), none⟩,
    ⟨some 62, .binOp .lss 3 (.tmp 61) (.const (.int .i64 0)) 3, none⟩]
@[reducible] def q23_19 : SCode := .region [⟨some 63, .build 33 #[], none⟩,
    ⟨none, .store 33 (.tmp 2) (.tmp 63), none⟩,
    ⟨some 3, .assign (.const (.int .i64 4)), none⟩]
@[reducible] def q23_20 : SCode := .region [⟨some 64, .load 33 (.tmp 6), none⟩,
    ⟨none, .store 33 (.tmp 2) (.tmp 64), none⟩,
    ⟨some 3, .assign (.const (.int .i64 0)), none⟩]
def s23 : SCode := (.seq q23_0 (.seq q23_1 (.seq (.seq q23_2 (.cond (.tmp 17) (.seq q23_3 .ret) .skip)) (.seq q23_4 (.seq q23_5 (.seq (.seq q23_6 (.block 0 (.loop l23_1))) (.seq (.seq q23_18 (.cond (.tmp 62) (.seq q23_19 .ret) .skip)) (.seq q23_20 .ret))))))))
theorem s23_strip : stripC (bodyOf Tryd.f23) = s23 := by kernel_rfl
theorem s23_ok : codeOK 65 (bodyOf Tryd.f23) = true := by kernel_rfl
theorem s23_call [Tabs Tryd.prog] {args : List Value} {h : Heap} {Q : Value → Heap → Prop} (hsz : args.length ≤ 65) (hk : aw Tryd.prog 65 s23 (aPost Tryd.prog [.cell 2 33, .tmp 3] Q) (argEnv 0 args) h) : ACall Tryd.prog 23 args h Q :=
  acall_s Tryd.func23 rfl (enters_of Tryd.func23 (by kernel_rfl) rfl) rfl rfl (by decide) s23_strip s23_ok hsz hk

/-! 24: planchet planchetref07.Even -/
@[reducible] def q24_0 : SCode := .region [⟨some 2, .alloc 33, none⟩,
    ⟨some 3, .assign (.const (.int .i64 0)), none⟩]
@[reducible] def q24_1 : SCode := .region [⟨some 10, .move (.tmp 0), none⟩,
    ⟨some 11, .call { callee := .value (.func 35), args := #[.tmp 10], argTypes := #[22] }, none⟩,
    ⟨some 4, .assign (.tmp 11), none⟩]
@[reducible] def q24_2 : SCode := .region [⟨some 12, .move (.tmp 4), none⟩,
    ⟨some 13, .binOp .add 3 (.tmp 12) (.const (.int .i64 1)) 3, none⟩,
    ⟨some 5, .assign (.tmp 13), none⟩]
@[reducible] def q24_3 : SCode := .region [⟨some 6, .alloc 33, none⟩]
@[reducible] def q24_4 : SCode := .region [⟨some 14, .move (.tmp 0), none⟩,
    ⟨some 15, .call { callee := .builtin .len, args := #[.tmp 14], argTypes := #[22] }, none⟩,
    ⟨some 16, .move (.const (.int .i64 0)), none⟩]
@[reducible] def q24_5 : SCode := .region [⟨some 17, .binOp .lss 3 (.tmp 16) (.tmp 15) 3, none⟩]
@[reducible] def q24_6 : SCode := .region [⟨some 18, .move (.tmp 16), none⟩,
    ⟨some 7, .assign (.tmp 18), none⟩]
@[reducible] def q24_7 : SCode := .region [⟨some 19, .move (.tmp 7), none⟩,
    ⟨some 20, .binOp .add 3 (.tmp 19) (.const (.int .i64 1)) 3, none⟩,
    ⟨some 8, .assign (.tmp 20), none⟩]
@[reducible] def q24_8 : SCode := .region [⟨some 21, .move (.tmp 8), none⟩,
    ⟨some 22, .move (.tmp 0), none⟩,
    ⟨some 23, .call { callee := .builtin .len, args := #[.tmp 22], argTypes := #[22] }, none⟩,
    ⟨some 24, .binOp .lss 3 (.tmp 21) (.tmp 23) 3, none⟩]
@[reducible] def q24_10 : SCode := .region [⟨some 27, .move (.tmp 0), none⟩,
    ⟨some 28, .move (.tmp 7), none⟩,
    ⟨some 29, .move (.tmp 8), none⟩,
    ⟨some 30, .call { callee := .value (.func 22), args := #[.tmp 27, .tmp 28, .tmp 29], argTypes := #[22, 3, 3] }, none⟩,
    ⟨some 31, .unOp .not 4 (.tmp 30), none⟩]
@[reducible] def q24_11 : SCode := .region [⟨some 32, .move (.tmp 0), none⟩,
    ⟨some 33, .move (.tmp 7), none⟩,
    ⟨some 34, .move (.tmp 8), none⟩,
    ⟨some 35, .call { callee := .value (.func 40), args := #[.tmp 32, .tmp 33, .tmp 34], argTypes := #[22, 3, 3] }, none⟩,
    ⟨some 36, .call { callee := .value (.func 35), args := #[.tmp 35], argTypes := #[22] }, none⟩,
    ⟨some 37, .binOp .mul 3 (.const (.int .i64 2)) (.tmp 36) 3, none⟩,
    ⟨some 38, .move (.tmp 4), none⟩,
    ⟨some 39, .binOp .sub 3 (.tmp 37) (.tmp 38) 3, none⟩,
    ⟨some 9, .assign (.tmp 39), none⟩]
@[reducible] def q24_12 : SCode := .region [⟨some 40, .move (.tmp 9), none⟩,
    ⟨some 41, .move (.tmp 9), none⟩,
    ⟨some 42, .unOp .neg 3 (.tmp 41), none⟩,
    ⟨some 43, .call { callee := .builtin .max, args := #[.tmp 40, .tmp 42], argTypes := #[3, 3] }, none⟩,
    ⟨some 9, .assign (.tmp 43), none⟩]
@[reducible] def q24_13 : SCode := .region [⟨some 44, .move (.tmp 9), none⟩,
    ⟨some 45, .move (.tmp 5), none⟩,
    ⟨some 46, .binOp .lss 3 (.tmp 44) (.tmp 45) 3, none⟩]
@[reducible] def q24_14 : SCode := .region [⟨some 47, .move (.tmp 9), none⟩,
    ⟨some 5, .assign (.tmp 47), none⟩]
@[reducible] def q24_15 : SCode := .region [⟨some 48, .move (.tmp 7), none⟩,
    ⟨some 49, .move (.tmp 8), none⟩,
    ⟨some 50, .build 33 #[(0, .tmp 48), (1, .tmp 49)], none⟩,
    ⟨none, .store 33 (.tmp 6) (.tmp 50), none⟩]
@[reducible] def q24_9 : SCode := .region [⟨some 25, .move (.tmp 8), none⟩,
    ⟨some 26, .binOp .add 3 (.tmp 25) (.const (.int .i64 1)) 3, none⟩,
    ⟨some 8, .assign (.tmp 26), none⟩]
def l24_0 : SCode := (.seq (.seq q24_8 (.cond (.tmp 24) .skip (.exit 2))) (.seq (.block 3 (.seq (.seq q24_10 (.cond (.tmp 31) (.exit 3) .skip)) (.seq q24_11 (.seq q24_12 (.seq q24_13 (.cond (.tmp 46) (.seq q24_14 q24_15) .skip)))))) q24_9))
@[reducible] def q24_16 : SCode := .region [⟨some 51, .binOp .add 3 (.tmp 16) (.const (.int .i64 1)) 3, none⟩,
    ⟨some 16, .move (.tmp 51), none⟩]
def l24_1 : SCode := (.seq q24_5 (.seq (.cond (.tmp 17) .skip (.exit 0)) (.seq (.block 1 (.seq q24_6 (.seq q24_7 (.block 2 (.loop l24_0))))) q24_16)))
@[reducible] def q24_17 : SCode := .region [⟨some 52, .move (.tmp 5), none⟩,
    ⟨some 53, .move (.tmp 4), none⟩,
    ⟨some 54, .binOp .gtr 3 (.tmp 52) (.tmp 53) 3, none⟩]
@[reducible] def q24_18 : SCode := .region [⟨some 55, .load 33 (.tmp 6), none⟩,
    ⟨none, .store 33 (.tmp 2) (.tmp 55), none⟩,
    ⟨some 3, .assign (.const (.int .i64 4)), none⟩]
@[reducible] def q24_19 : SCode := .region [⟨some 56, .load 33 (.tmp 6), none⟩,
    ⟨none, .store 33 (.tmp 2) (.tmp 56), none⟩,
    ⟨some 3, .assign (.const (.int .i64 0)), none⟩]
def s24 : SCode := (.seq q24_0 (.seq q24_1 (.seq q24_2 (.seq q24_3 (.seq (.seq q24_4 (.block 0 (.loop l24_1))) (.seq (.seq q24_17 (.cond (.tmp 54) (.seq q24_18 .ret) .skip)) (.seq q24_19 .ret)))))))
theorem s24_strip : stripC (bodyOf Tryd.f24) = s24 := by kernel_rfl
theorem s24_ok : codeOK 57 (bodyOf Tryd.f24) = true := by kernel_rfl
theorem s24_call [Tabs Tryd.prog] {args : List Value} {h : Heap} {Q : Value → Heap → Prop} (hsz : args.length ≤ 57) (hk : aw Tryd.prog 57 s24 (aPost Tryd.prog [.cell 2 33, .tmp 3] Q) (argEnv 0 args) h) : ACall Tryd.prog 24 args h Q :=
  acall_s Tryd.func24 rfl (enters_of Tryd.func24 (by kernel_rfl) rfl) rfl rfl (by decide) s24_strip s24_ok hsz hk

/-! 72: (planchet order.order).before -/
@[reducible] def q72_0 : SCode := .region [⟨some 3, .box 77 (.tmp 0), none⟩,
    ⟨some 6, .assign (.const (.int .i64 0)), none⟩]
@[reducible] def q72_1 : SCode := .region [⟨some 8, .move (.tmp 1), none⟩,
    ⟨some 9, .fieldAddr 77 (.tmp 3) 1, none⟩,
    ⟨some 10, .indexAddr 75 (.tmp 9) (.tmp 8), none⟩,
    ⟨some 11, .load 3 (.tmp 10), none⟩,
    ⟨some 12, .move (.tmp 2), none⟩,
    ⟨some 13, .binOp .shr 3 (.tmp 11) (.tmp 12) 3, none⟩,
    ⟨some 14, .binOp .and 3 (.tmp 13) (.const (.int .i64 1)) 3, none⟩,
    ⟨some 15, .binOp .eql 3 (.tmp 14) (.const (.int .i64 1)) 3, none⟩,
    ⟨some 7, .assign (.tmp 15), none⟩]
@[reducible] def q72_2 : SCode := .region [⟨some 16, .load 77 (.tmp 3), none⟩,
    ⟨some 17, .call { callee := .value (.func 65), args := #[.tmp 16], argTypes := #[77] }, none⟩,
    ⟨some 6, .assign (.tmp 17), none⟩]
@[reducible] def q72_3 : SCode := .region [⟨some 19, .load 77 (.tmp 3), none⟩,
    ⟨some 20, .move (.tmp 1), none⟩,
    ⟨some 21, .move (.tmp 2), none⟩,
    ⟨some 22, .call { callee := .value (.func 68), args := #[.tmp 19, .tmp 20, .tmp 21], argTypes := #[77, 3, 3] }, none⟩,
    ⟨some 23, .unOp .not 4 (.tmp 22), none⟩,
    ⟨some 18, .assign (.tmp 23), none⟩]
@[reducible] def q72_4 : SCode := .region [⟨some 6, .assign (.const (.int .i64 0)), none⟩]
@[reducible] def q72_5 : SCode := .region [⟨some 24, .load 77 (.tmp 3), none⟩,
    ⟨some 25, .move (.tmp 1), none⟩,
    ⟨some 26, .move (.tmp 2), none⟩,
    ⟨some 27, .call { callee := .value (.func 69), args := #[.tmp 24, .tmp 25, .tmp 26], argTypes := #[77, 3, 3] }, none⟩,
    ⟨some 28, .call { callee := .value (.func 65), args := #[.tmp 27], argTypes := #[77] }, none⟩,
    ⟨some 6, .assign (.tmp 28), none⟩]
def s72 : SCode := (.seq q72_0 (.seq (.block 0 (.seq q72_1 (.cond (.tmp 7) (.seq q72_2 .ret) (.seq q72_3 (.cond (.tmp 18) (.seq q72_4 .ret) .skip))))) (.seq q72_5 .ret)))
theorem s72_strip : stripC (bodyOf Tryd.f72) = s72 := by kernel_rfl
theorem s72_ok : codeOK 29 (bodyOf Tryd.f72) = true := by kernel_rfl
theorem s72_call [Tabs Tryd.prog] {args : List Value} {h : Heap} {Q : Value → Heap → Prop} (hsz : args.length ≤ 29) (hk : aw Tryd.prog 29 s72 (aPost Tryd.prog [.tmp 6] Q) (argEnv 0 args) h) : ACall Tryd.prog 72 args h Q :=
  acall_s Tryd.func72 rfl (enters_of Tryd.func72 (by kernel_rfl) rfl) rfl rfl (by decide) s72_strip s72_ok hsz hk

/-! 35: planchet planchetref07.Count -/
@[reducible] def q35_0 : SCode := .region [⟨some 2, .assign (.const (.int .i64 0)), none⟩]
@[reducible] def q35_1 : SCode := .region [⟨some 3, .move (.tmp 0), none⟩,
    ⟨some 4, .call { callee := .value (.func 77), args := #[.tmp 3, .const (.int .i64 0)], argTypes := #[22, 3] }, none⟩,
    ⟨some 2, .assign (.tmp 4), none⟩]
def s35 : SCode := (.seq q35_0 (.seq q35_1 .ret))
theorem s35_strip : stripC (bodyOf Tryd.f35) = s35 := by kernel_rfl
theorem s35_ok : codeOK 5 (bodyOf Tryd.f35) = true := by kernel_rfl
theorem s35_call [Tabs Tryd.prog] {args : List Value} {h : Heap} {Q : Value → Heap → Prop} (hsz : args.length ≤ 5) (hk : aw Tryd.prog 5 s35 (aPost Tryd.prog [.tmp 2] Q) (argEnv 0 args) h) : ACall Tryd.prog 35 args h Q :=
  acall_s Tryd.func35 rfl (enters_of Tryd.func35 (by kernel_rfl) rfl) rfl rfl (by decide) s35_strip s35_ok hsz hk

/-! 77: planchet planchetref07.counted -/
@[reducible] def q77_0 : SCode := .region [⟨some 4, .assign (.const (.int .i64 0)), none⟩]
@[reducible] def q77_1 : SCode := .region [⟨some 9, .move (.tmp 1), none⟩,
    ⟨some 10, .move (.tmp 0), none⟩,
    ⟨some 11, .call { callee := .builtin .len, args := #[.tmp 10], argTypes := #[22] }, none⟩,
    ⟨some 12, .binOp .shl 3 (.const (.int .i64 1)) (.tmp 11) 3, none⟩,
    ⟨some 13, .binOp .sub 3 (.tmp 12) (.const (.int .i64 1)) 3, none⟩,
    ⟨some 14, .binOp .eql 3 (.tmp 9) (.tmp 13) 3, none⟩]
@[reducible] def q77_2 : SCode := .region [⟨some 4, .assign (.const (.int .i64 1)), none⟩]
@[reducible] def q77_3 : SCode := .region [⟨some 5, .assign (.const (.int .i64 0)), none⟩]
@[reducible] def q77_4 : SCode := .region [⟨some 15, .move (.tmp 0), none⟩,
    ⟨some 16, .call { callee := .builtin .len, args := #[.tmp 15], argTypes := #[22] }, none⟩,
    ⟨some 17, .move (.const (.int .i64 0)), none⟩]
@[reducible] def q77_5 : SCode := .region [⟨some 18, .binOp .lss 3 (.tmp 17) (.tmp 16) 3, none⟩]
@[reducible] def q77_6 : SCode := .region [⟨some 19, .move (.tmp 17), none⟩,
    ⟨some 6, .assign (.tmp 19), none⟩]
@[reducible] def q77_7 : SCode := .region [⟨some 20, .move (.tmp 1), none⟩,
    ⟨some 21, .move (.tmp 6), none⟩,
    ⟨some 22, .binOp .shr 3 (.tmp 20) (.tmp 21) 3, none⟩,
    ⟨some 23, .binOp .and 3 (.tmp 22) (.const (.int .i64 1)) 3, none⟩,
    ⟨some 24, .binOp .eql 3 (.tmp 23) (.const (.int .i64 0)) 3, none⟩,
    ⟨some 7, .assign (.tmp 24), none⟩]
@[reducible] def q77_8 : SCode := .region [⟨some 25, .move (.tmp 0), none⟩,
    ⟨some 26, .call { callee := .builtin .len, args := #[.tmp 25], argTypes := #[22] }, none⟩,
    ⟨some 27, .move (.const (.int .i64 0)), none⟩]
@[reducible] def q77_9 : SCode := .region [⟨some 28, .binOp .lss 3 (.tmp 27) (.tmp 26) 3, none⟩]
@[reducible] def q77_10 : SCode := .region [⟨some 29, .move (.tmp 27), none⟩,
    ⟨some 8, .assign (.tmp 29), none⟩]
@[reducible] def q77_11 : SCode := .region [⟨some 30, .move (.tmp 7), none⟩,
    ⟨some 31, .move (.tmp 30), none⟩,
    ⟨some 32, .move (.tmp 1), some (31, true)⟩,
    ⟨some 33, .move (.tmp 8), some (31, true)⟩,
    ⟨some 34, .binOp .shr 3 (.tmp 32) (.tmp 33) 3, some (31, true)⟩,
    ⟨some 35, .binOp .and 3 (.tmp 34) (.const (.int .i64 1)) 3, some (31, true)⟩,
    ⟨some 36, .binOp .eql 3 (.tmp 35) (.const (.int .i64 1)) 3, some (31, true)⟩,
    ⟨some 37, .move (.tmp 36), some (31, true)⟩,
    ⟨some 38, .move (.tmp 0), some (37, false)⟩,
    ⟨some 39, .move (.tmp 8), some (37, false)⟩,
    ⟨some 40, .move (.tmp 6), some (37, false)⟩,
    ⟨some 41, .call { callee := .value (.func 71), args := #[.tmp 38, .tmp 39, .tmp 40], argTypes := #[22, 3, 3] }, some (37, false)⟩,
    ⟨some 42, .unOp .not 4 (.tmp 41), some (37, false)⟩,
    ⟨some 43, .pick (.tmp 37) (.const (.bool true)) (.tmp 42), some (31, true)⟩,
    ⟨some 44, .pick (.tmp 31) (.tmp 43) (.const (.bool false)), none⟩,
    ⟨some 7, .assign (.tmp 44), none⟩]
@[reducible] def q77_12 : SCode := .region [⟨some 45, .binOp .add 3 (.tmp 27) (.const (.int .i64 1)) 3, none⟩,
    ⟨some 27, .move (.tmp 45), none⟩]
def l77_0 : SCode := (.seq q77_9 (.seq (.cond (.tmp 28) .skip (.exit 2)) (.seq (.block 3 (.seq q77_10 q77_11)) q77_12)))
@[reducible] def q77_13 : SCode := .region [⟨some 46, .move (.tmp 7), none⟩]
@[reducible] def q77_14 : SCode := .region [⟨some 47, .move (.tmp 5), none⟩,
    ⟨some 48, .move (.tmp 0), none⟩,
    ⟨some 49, .move (.tmp 1), none⟩,
    ⟨some 50, .move (.tmp 6), none⟩,
    ⟨some 51, .binOp .shl 3 (.const (.int .i64 1)) (.tmp 50) 3, none⟩,
    ⟨some 52, .binOp .or 3 (.tmp 49) (.tmp 51) 3, none⟩,
    ⟨some 53, .call { callee := .value (.func 77), args := #[.tmp 48, .tmp 52], argTypes := #[22, 3] }, none⟩,
    ⟨some 54, .binOp .add 3 (.tmp 47) (.tmp 53) 3, none⟩,
    ⟨some 5, .assign (.tmp 54), none⟩]
@[reducible] def q77_15 : SCode := .region [⟨some 55, .binOp .add 3 (.tmp 17) (.const (.int .i64 1)) 3, none⟩,
    ⟨some 17, .move (.tmp 55), none⟩]
def l77_1 : SCode := (.seq q77_5 (.seq (.cond (.tmp 18) .skip (.exit 0)) (.seq (.block 1 (.seq q77_6 (.seq q77_7 (.seq (.seq q77_8 (.block 2 (.loop l77_0))) (.seq q77_13 (.cond (.tmp 46) q77_14 .skip)))))) q77_15)))
@[reducible] def q77_16 : SCode := .region [⟨some 56, .move (.tmp 5), none⟩,
    ⟨some 4, .assign (.tmp 56), none⟩]
def s77 : SCode := (.seq q77_0 (.seq (.seq q77_1 (.cond (.tmp 14) (.seq q77_2 .ret) .skip)) (.seq q77_3 (.seq (.seq q77_4 (.block 0 (.loop l77_1))) (.seq q77_16 .ret)))))
theorem s77_strip : stripC (bodyOf Tryd.f77) = s77 := by kernel_rfl
theorem s77_ok : codeOK 57 (bodyOf Tryd.f77) = true := by kernel_rfl
theorem s77_call [Tabs Tryd.prog] {args : List Value} {h : Heap} {Q : Value → Heap → Prop} (hsz : args.length ≤ 57) (hk : aw Tryd.prog 57 s77 (aPost Tryd.prog [.tmp 4] Q) (argEnv 0 args) h) : ACall Tryd.prog 77 args h Q :=
  acall_s Tryd.func77 rfl (enters_of Tryd.func77 (by kernel_rfl) rfl) rfl rfl (by decide) s77_strip s77_ok hsz hk

/-! 40: planchet planchetref07.Add -/
@[reducible] def q40_0 : SCode := .region [⟨some 6, .assign (.const (.slice none 0 0)), none⟩]
@[reducible] def q40_1 : SCode := .region [⟨some 9, .buildSlice 22 0 #[], none⟩,
    ⟨some 10, .move (.tmp 0), none⟩,
    ⟨some 11, .call { callee := .builtin .append, args := #[.tmp 9, .tmp 10], argTypes := #[22, 22] }, none⟩,
    ⟨some 7, .assign (.tmp 11), none⟩]
@[reducible] def q40_2 : SCode := .region [⟨some 12, .move (.tmp 0), none⟩,
    ⟨some 13, .call { callee := .builtin .len, args := #[.tmp 12], argTypes := #[22] }, none⟩,
    ⟨some 14, .move (.const (.int .i64 0)), none⟩]
@[reducible] def q40_3 : SCode := .region [⟨some 15, .binOp .lss 3 (.tmp 14) (.tmp 13) 3, none⟩]
@[reducible] def q40_4 : SCode := .region [⟨some 16, .move (.tmp 14), none⟩,
    ⟨some 8, .assign (.tmp 16), none⟩]
@[reducible] def q40_5 : SCode := .region [⟨some 17, .move (.tmp 8), none⟩,
    ⟨some 18, .move (.tmp 1), none⟩,
    ⟨some 19, .binOp .eql 3 (.tmp 17) (.tmp 18) 3, none⟩,
    ⟨some 20, .move (.tmp 19), none⟩,
    ⟨some 21, .move (.tmp 0), some (20, false)⟩,
    ⟨some 22, .move (.tmp 8), some (20, false)⟩,
    ⟨some 23, .move (.tmp 1), some (20, false)⟩,
    ⟨some 24, .call { callee := .value (.func 71), args := #[.tmp 21, .tmp 22, .tmp 23], argTypes := #[22, 3, 3] }, some (20, false)⟩,
    ⟨some 25, .pick (.tmp 20) (.const (.bool true)) (.tmp 24), none⟩]
def q40_6 : SCode := .draw [⟨some 26, .move (.tmp 7), none⟩,
    ⟨some 27, .move (.tmp 8), none⟩,
    ⟨some 28, .indexAddr 22 (.tmp 26) (.tmp 27), none⟩,
    ⟨some 29, .load 3 (.tmp 28), none⟩,
    ⟨some 30, .move (.tmp 0), none⟩,
    ⟨some 31, .move (.tmp 2), none⟩,
    ⟨some 32, .indexAddr 22 (.tmp 30) (.tmp 31), none⟩,
    ⟨some 33, .load 3 (.tmp 32), none⟩,
    ⟨some 34, .move (.tmp 2), none⟩,
    ⟨some 35, .binOp .shl 3 (.const (.int .i64 1)) (.tmp 34) 3, none⟩,
    ⟨some 36, .binOp .or 3 (.tmp 33) (.tmp 35) 3, none⟩,
    ⟨some 37, .binOp .or 3 (.tmp 29) (.tmp 36) 3, none⟩,
    ⟨some 38, .indexAddr 22 (.tmp 26) (.tmp 27), none⟩,
    ⟨none, .store 3 (.tmp 38) (.tmp 37), none⟩]
   [[], [], [0, 1], [2], [], [], [4, 5], [6], [], [8], [7, 9], [3, 10], [0, 1, 0, 1, 2, 3, 4, 5, 6, 7, 8, 9, 10, 11], [12, 11, 0, 1, 2, 3, 4, 5, 6, 7, 8, 9, 10, 11]]
@[reducible] def q40_7 : SCode := .region [⟨some 39, .binOp .add 3 (.tmp 14) (.const (.int .i64 1)) 3, none⟩,
    ⟨some 14, .move (.tmp 39), none⟩]
def l40_0 : SCode := (.seq q40_3 (.seq (.cond (.tmp 15) .skip (.exit 0)) (.seq (.block 1 (.seq q40_4 (.seq q40_5 (.cond (.tmp 25) q40_6 .skip)))) q40_7)))
@[reducible] def q40_8 : SCode := .region [⟨some 40, .move (.tmp 7), none⟩,
    ⟨some 6, .assign (.tmp 40), none⟩]
def s40 : SCode := (.seq q40_0 (.seq q40_1 (.seq (.seq q40_2 (.block 0 (.loop l40_0))) (.seq q40_8 .ret))))
theorem s40_strip : stripC (bodyOf Tryd.f40) = s40 := by kernel_rfl
theorem s40_ok : codeOK 41 (bodyOf Tryd.f40) = true := by kernel_rfl
theorem s40_call [Tabs Tryd.prog] {args : List Value} {h : Heap} {Q : Value → Heap → Prop} (hsz : args.length ≤ 41) (hk : aw Tryd.prog 41 s40 (aPost Tryd.prog [.tmp 6] Q) (argEnv 0 args) h) : ACall Tryd.prog 40 args h Q :=
  acall_s Tryd.func40 rfl (enters_of Tryd.func40 (by kernel_rfl) rfl) rfl rfl (by decide) s40_strip s40_ok hsz hk

end Go.Proofs.Tryd.Am

/- Printed by gen.py: the code of some functions, without what no step looks at; held against the program's own by the kernel. -/
import Derived.Test.YtnjacpfahhjpiaaDoorAmO
import Derived.Test.YtnjacpfahhjpiaaDoorProg
import Derived.KernelRfl
import Derived.Shelf.Abstract
set_option linter.all false
namespace Go.Proofs.Tryd.Am
open Go.Am
set_option maxRecDepth 100000
/-! 9: planchet planchetlaw07.OrderSums -/
@[reducible] def q9_0 : SCode := .region [⟨some 6, .assign (.const (.bool false)), none⟩]
@[reducible] def q9_1 : SCode := .region [⟨some 26, .move (.tmp 0), none⟩,
    ⟨some 27, .call { callee := .value (.func 19), args := #[.tmp 26], argTypes := #[22] }, none⟩,
    ⟨some 28, .unOp .not 4 (.tmp 27), none⟩]
@[reducible] def q9_2 : SCode := .region [⟨some 30, .move (.tmp 0), none⟩,
    ⟨some 31, .call { callee := .value (.func 18), args := #[.tmp 30], argTypes := #[22] }, none⟩,
    ⟨some 32, .call { callee := .value (.func 26), args := #[.tmp 31, .const (.int .i64 0)], argTypes := #[22, 3] }, none⟩,
    ⟨some 29, .move (.tmp 32), none⟩,
    ⟨some 33, .extract (.tmp 29) 0, none⟩,
    ⟨some 34, .extract (.tmp 29) 1, none⟩,
    ⟨some 7, .alloc 37, none⟩,
    ⟨none, .store 37 (.tmp 7) (.tmp 33), none⟩,
    ⟨some 8, .assign (.tmp 34), none⟩]
@[reducible] def q9_3 : SCode := .region [⟨some 35, .move (.tmp 8), none⟩,
    ⟨some 36, .binOp .eql 23 (.tmp 35) (.const (.int .i64 2)) 23, none⟩,
    ⟨some 37, .move (.tmp 36), none⟩,
    ⟨some 38, .call { callee := .value (.func 20), args := #[], argTypes := #[] }, some (37, true)⟩,
    ⟨some 39, .pick (.tmp 37) (.tmp 38) (.const (.bool false)), none⟩,
    ⟨some 6, .assign (.tmp 39), none⟩]
@[reducible] def q9_4 : SCode := .region [⟨some 40, .move (.tmp 0), none⟩,
    ⟨some 41, .call { callee := .builtin .len, args := #[.tmp 40], argTypes := #[22] }, none⟩,
    ⟨some 9, .assign (.tmp 41), none⟩]
def q9_5 : SCode := .draw [⟨some 42, .move (.tmp 1), none⟩,
    ⟨some 43, .convert 3 29 (.tmp 42), none⟩,
    ⟨some 44, .move (.tmp 9), none⟩,
    ⟨some 45, .convert 3 29 (.tmp 44), none⟩,
    ⟨some 46, .binOp .rem 29 (.tmp 43) (.tmp 45) 29, none⟩,
    ⟨some 47, .convert 29 3 (.tmp 46), none⟩,
    ⟨some 48, .move (.tmp 2), none⟩,
    ⟨some 49, .convert 3 29 (.tmp 48), none⟩,
    ⟨some 50, .move (.tmp 9), none⟩,
    ⟨some 51, .convert 3 29 (.tmp 50), none⟩,
    ⟨some 52, .binOp .rem 29 (.tmp 49) (.tmp 51) 29, none⟩,
    ⟨some 53, .convert 29 3 (.tmp 52), none⟩,
    ⟨some 1, .assign (.tmp 47), none⟩,
    ⟨some 2, .assign (.tmp 53), none⟩]
   [[], [0], [], [2], [1, 3], [4], [], [6], [], [8], [7, 9], [10], [5, 0, 1, 2, 3, 4, 5], [11, 12, 0, 1, 2, 3, 4, 5, 6, 7, 8, 9, 10, 11, 12]]
@[reducible] def q9_6 : SCode := .region [⟨some 54, .move (.tmp 1), none⟩,
    ⟨some 55, .move (.tmp 2), none⟩,
    ⟨some 56, .binOp .neq 3 (.tmp 54) (.tmp 55) 3, none⟩]
@[reducible] def q9_7 : SCode := .region [⟨some 58, .move (.tmp 0), none⟩,
    ⟨some 59, .call { callee := .value (.func 18), args := #[.tmp 58], argTypes := #[22] }, none⟩,
    ⟨some 60, .move (.tmp 1), none⟩,
    ⟨some 61, .move (.tmp 2), none⟩,
    ⟨some 62, .call { callee := .value (.func 25), args := #[.tmp 59, .tmp 60, .tmp 61], argTypes := #[22, 3, 3] }, none⟩,
    ⟨some 57, .move (.tmp 62), none⟩,
    ⟨some 63, .extract (.tmp 57) 0, none⟩,
    ⟨some 64, .extract (.tmp 57) 1, none⟩,
    ⟨some 10, .alloc 37, none⟩,
    ⟨none, .store 37 (.tmp 10) (.tmp 63), none⟩,
    ⟨some 11, .assign (.tmp 64), none⟩]
@[reducible] def q9_8 : SCode := .region [⟨some 66, .move (.tmp 0), none⟩,
    ⟨some 67, .call { callee := .value (.func 18), args := #[.tmp 66], argTypes := #[22] }, none⟩,
    ⟨some 68, .move (.tmp 2), none⟩,
    ⟨some 69, .move (.tmp 1), none⟩,
    ⟨some 70, .call { callee := .value (.func 25), args := #[.tmp 67, .tmp 68, .tmp 69], argTypes := #[22, 3, 3] }, none⟩,
    ⟨some 65, .move (.tmp 70), none⟩,
    ⟨some 71, .extract (.tmp 65) 0, none⟩,
    ⟨some 72, .extract (.tmp 65) 1, none⟩,
    ⟨some 12, .alloc 37, none⟩,
    ⟨none, .store 37 (.tmp 12) (.tmp 71), none⟩,
    ⟨some 13, .assign (.tmp 72), none⟩]
def q9_9 : SCode := .draw [⟨some 73, .move (.tmp 11), none⟩,
    ⟨some 74, .binOp .neq 23 (.tmp 73) (.const (.int .i64 0)) 23, none⟩,
    ⟨some 75, .move (.tmp 74), none⟩,
    ⟨some 76, .move (.tmp 13), some (75, false)⟩,
    ⟨some 77, .binOp .neq 23 (.tmp 76) (.const (.int .i64 0)) 23, some (75, false)⟩,
    ⟨some 78, .pick (.tmp 75) (.const (.bool true)) (.tmp 77), none⟩,
    ⟨some 79, .move (.tmp 78), none⟩,
    ⟨some 80, .load 37 (.tmp 10), some (79, false)⟩,
    ⟨some 81, .call { callee := .value (.func 42), args := #[.tmp 80, .const (.int .i64 1)], argTypes := #[37, 3] }, some (79, false)⟩,
    ⟨some 82, .unOp .not 4 (.tmp 81), some (79, false)⟩,
    ⟨some 83, .pick (.tmp 79) (.const (.bool true)) (.tmp 82), none⟩,
    ⟨some 84, .move (.tmp 83), none⟩,
    ⟨some 85, .load 37 (.tmp 12), some (84, false)⟩,
    ⟨some 86, .call { callee := .value (.func 42), args := #[.tmp 85, .const (.int .i64 1)], argTypes := #[37, 3] }, some (84, false)⟩,
    ⟨some 87, .unOp .not 4 (.tmp 86), some (84, false)⟩,
    ⟨some 88, .pick (.tmp 84) (.const (.bool true)) (.tmp 87), none⟩,
    ⟨some 89, .move (.tmp 88), none⟩,
    ⟨some 90, .fieldAddr 37 (.tmp 10) 0, some (89, false)⟩,
    ⟨some 91, .load 3 (.tmp 90), some (89, false)⟩,
    ⟨some 92, .fieldAddr 37 (.tmp 12) 1, some (89, false)⟩,
    ⟨some 93, .load 3 (.tmp 92), some (89, false)⟩,
    ⟨some 94, .binOp .mul 3 (.tmp 91) (.tmp 93) 3, some (89, false)⟩,
    ⟨some 95, .fieldAddr 37 (.tmp 12) 0, some (89, false)⟩,
    ⟨some 96, .load 3 (.tmp 95), some (89, false)⟩,
    ⟨some 97, .fieldAddr 37 (.tmp 10) 1, some (89, false)⟩,
    ⟨some 98, .load 3 (.tmp 97), some (89, false)⟩,
    ⟨some 99, .binOp .mul 3 (.tmp 96) (.tmp 98) 3, some (89, false)⟩,
    ⟨some 100, .binOp .add 3 (.tmp 94) (.tmp 99) 3, some (89, false)⟩,
    ⟨some 101, .fieldAddr 37 (.tmp 10) 1, some (89, false)⟩,
    ⟨some 102, .load 3 (.tmp 101), some (89, false)⟩,
    ⟨some 103, .fieldAddr 37 (.tmp 12) 1, some (89, false)⟩,
    ⟨some 104, .load 3 (.tmp 103), some (89, false)⟩,
    ⟨some 105, .binOp .mul 3 (.tmp 102) (.tmp 104) 3, some (89, false)⟩,
    ⟨some 106, .binOp .neq 3 (.tmp 100) (.tmp 105) 3, some (89, false)⟩,
    ⟨some 107, .pick (.tmp 89) (.const (.bool true)) (.tmp 106), none⟩,
    ⟨some 108, .move (.tmp 107), none⟩,
    ⟨some 109, .fieldAddr 37 (.tmp 10) 0, some (108, false)⟩,
    ⟨some 110, .load 3 (.tmp 109), some (108, false)⟩,
    ⟨some 111, .fieldAddr 37 (.tmp 10) 1, some (108, false)⟩,
    ⟨some 112, .load 3 (.tmp 111), some (108, false)⟩,
    ⟨some 113, .binOp .eql 3 (.tmp 110) (.tmp 112) 3, some (108, false)⟩,
    ⟨some 114, .move (.tmp 0), some (108, false)⟩,
    ⟨some 115, .move (.tmp 1), some (108, false)⟩,
    ⟨some 116, .indexAddr 22 (.tmp 114) (.tmp 115), some (108, false)⟩,
    ⟨some 117, .load 3 (.tmp 116), some (108, false)⟩,
    ⟨some 118, .move (.tmp 2), some (108, false)⟩,
    ⟨some 119, .binOp .shr 3 (.tmp 117) (.tmp 118) 3, some (108, false)⟩,
    ⟨some 120, .binOp .and 3 (.tmp 119) (.const (.int .i64 1)) 3, some (108, false)⟩,
    ⟨some 121, .binOp .eql 3 (.tmp 120) (.const (.int .i64 1)) 3, some (108, false)⟩,
    ⟨some 122, .binOp .neq 4 (.tmp 113) (.tmp 121) 4, some (108, false)⟩,
    ⟨some 123, .pick (.tmp 108) (.const (.bool true)) (.tmp 122), none⟩]
   [[], [0], [1], [2], [3, 2], [2, 4], [5, 2], [6], [7, 6, 6], [8, 6], [6, 9], [10, 8], [11], [12, 11, 11], [13, 11], [11, 14], [15, 13], [16], [17, 16], [16], [19, 16], [18, 20, 16], [16], [22, 16], [16], [24, 16], [23, 25, 16], [21, 26, 16], [16], [28, 16], [16], [30, 16], [29, 31, 16], [27, 32, 16], [16, 33], [34, 16], [35], [36, 35], [35], [38, 35], [37, 39, 35], [35], [35], [41, 42, 35], [43, 35], [35], [44, 45, 35], [46, 35], [47, 35], [40, 48, 35], [35, 49]]
@[reducible] def q9_10 : SCode := .region [⟨some 6, .assign (.const (.bool false)), none⟩]
@[reducible] def q9_11 : SCode := .region [⟨some 14, .assign (.const (.int .i64 0)), none⟩,
    ⟨some 15, .assign (.const (.int .i64 1)), none⟩]
@[reducible] def q9_12 : SCode := .region [⟨some 124, .move (.tmp 9), none⟩,
    ⟨some 125, .move (.const (.int .i64 0)), none⟩]
@[reducible] def q9_13 : SCode := .region [⟨some 126, .binOp .lss 3 (.tmp 125) (.tmp 124) 3, none⟩]
@[reducible] def q9_14 : SCode := .region [⟨some 127, .move (.tmp 125), none⟩,
    ⟨some 16, .assign (.tmp 127), none⟩]
@[reducible] def q9_15 : SCode := .region [⟨some 129, .move (.tmp 0), none⟩,
    ⟨some 130, .call { callee := .value (.func 18), args := #[.tmp 129], argTypes := #[22] }, none⟩,
    ⟨some 131, .move (.tmp 16), none⟩,
    ⟨some 132, .call { callee := .value (.func 26), args := #[.tmp 130, .tmp 131], argTypes := #[22, 3] }, none⟩,
    ⟨some 128, .move (.tmp 132), none⟩,
    ⟨some 133, .extract (.tmp 128) 0, none⟩,
    ⟨some 134, .extract (.tmp 128) 1, none⟩,
    ⟨some 17, .alloc 37, none⟩,
    ⟨none, .store 37 (.tmp 17) (.tmp 133), none⟩,
    ⟨some 18, .assign (.tmp 134), none⟩]
@[reducible] def q9_16 : SCode := .region [⟨some 135, .move (.tmp 18), none⟩,
    ⟨some 136, .binOp .neq 23 (.tmp 135) (.const (.int .i64 0)) 23, none⟩,
    ⟨some 137, .move (.tmp 136), none⟩,
    ⟨some 138, .load 37 (.tmp 17), some (137, false)⟩,
    ⟨some 139, .move (.tmp 9), some (137, false)⟩,
    ⟨some 140, .call { callee := .value (.func 42), args := #[.tmp 138, .tmp 139], argTypes := #[37, 3] }, some (137, false)⟩,
    ⟨some 141, .unOp .not 4 (.tmp 140), some (137, false)⟩,
    ⟨some 142, .pick (.tmp 137) (.const (.bool true)) (.tmp 141), none⟩]
@[reducible] def q9_17 : SCode := .region [⟨some 6, .assign (.const (.bool false)), none⟩]
def q9_18 : SCode := .draw [⟨some 143, .move (.tmp 14), none⟩,
    ⟨some 144, .fieldAddr 37 (.tmp 17) 1, none⟩,
    ⟨some 145, .load 3 (.tmp 144), none⟩,
    ⟨some 146, .binOp .mul 3 (.tmp 143) (.tmp 145) 3, none⟩,
    ⟨some 147, .fieldAddr 37 (.tmp 17) 0, none⟩,
    ⟨some 148, .load 3 (.tmp 147), none⟩,
    ⟨some 149, .move (.tmp 15), none⟩,
    ⟨some 150, .binOp .mul 3 (.tmp 148) (.tmp 149) 3, none⟩,
    ⟨some 151, .binOp .add 3 (.tmp 146) (.tmp 150) 3, none⟩,
    ⟨some 152, .move (.tmp 15), none⟩,
    ⟨some 153, .fieldAddr 37 (.tmp 17) 1, none⟩,
    ⟨some 154, .load 3 (.tmp 153), none⟩,
    ⟨some 155, .binOp .mul 3 (.tmp 152) (.tmp 154) 3, none⟩,
    ⟨some 14, .assign (.tmp 151), none⟩,
    ⟨some 15, .assign (.tmp 155), none⟩]
   [[], [], [1], [0, 2], [], [4], [], [5, 6], [3, 7], [], [], [10], [9, 11], [8, 0, 1, 2, 3, 4, 5, 6, 7, 8], [12, 13, 0, 1, 2, 3, 4, 5, 6, 7, 8, 9, 10, 11, 12, 13]]
@[reducible] def q9_19 : SCode := .region [⟨some 156, .move (.tmp 14), none⟩,
    ⟨some 157, .move (.tmp 15), none⟩,
    ⟨some 19, .assign (.tmp 156), none⟩,
    ⟨some 20, .assign (.tmp 157), none⟩]
@[reducible] def q9_20 : SCode := .region [⟨some 158, .move (.tmp 20), none⟩,
    ⟨some 159, .binOp .neq 3 (.tmp 158) (.const (.int .i64 0)) 3, none⟩]
def q9_21 : SCode := .draw [⟨some 160, .move (.tmp 20), none⟩,
    ⟨some 161, .move (.tmp 19), none⟩,
    ⟨some 162, .move (.tmp 20), none⟩,
    ⟨some 163, .binOp .rem 3 (.tmp 161) (.tmp 162) 3, none⟩,
    ⟨some 19, .assign (.tmp 160), none⟩,
    ⟨some 20, .assign (.tmp 163), none⟩]
   [[], [], [], [1, 2], [0, 0, 1], [3, 4, 0, 1, 2, 3, 4]]
def l9_0 : SCode := (.seq (.seq q9_20 (.cond (.tmp 159) .skip (.exit 2))) (.block 3 q9_21))
def q9_22 : SCode := .draw [⟨some 164, .move (.tmp 14), none⟩,
    ⟨some 165, .move (.tmp 19), none⟩,
    ⟨some 166, .binOp .quo 3 (.tmp 164) (.tmp 165) 3, none⟩,
    ⟨some 167, .move (.tmp 15), none⟩,
    ⟨some 168, .move (.tmp 19), none⟩,
    ⟨some 169, .binOp .quo 3 (.tmp 167) (.tmp 168) 3, none⟩,
    ⟨some 14, .assign (.tmp 166), none⟩,
    ⟨some 15, .assign (.tmp 169), none⟩]
   [[], [], [0, 1], [], [], [3, 4], [2, 0, 1, 2], [5, 6, 0, 1, 2, 3, 4, 5, 6]]
@[reducible] def q9_23 : SCode := .region [⟨some 170, .binOp .add 3 (.tmp 125) (.const (.int .i64 1)) 3, none⟩,
    ⟨some 125, .move (.tmp 170), none⟩]
def l9_1 : SCode := (.seq q9_13 (.seq (.cond (.tmp 126) .skip (.exit 0)) (.seq (.block 1 (.seq q9_14 (.seq q9_15 (.seq (.seq q9_16 (.cond (.tmp 142) (.seq q9_17 .ret) .skip)) (.seq q9_18 (.seq q9_19 (.seq (.block 2 (.loop l9_0)) q9_22))))))) q9_23)))
@[reducible] def q9_24 : SCode := .region [⟨some 171, .move (.tmp 14), none⟩,
    ⟨some 172, .binOp .mul 3 (.const (.int .i64 2)) (.tmp 171) 3, none⟩,
    ⟨some 173, .move (.tmp 9), none⟩,
    ⟨some 174, .move (.tmp 9), none⟩,
    ⟨some 175, .binOp .sub 3 (.tmp 174) (.const (.int .i64 1)) 3, none⟩,
    ⟨some 176, .binOp .mul 3 (.tmp 173) (.tmp 175) 3, none⟩,
    ⟨some 177, .move (.tmp 15), none⟩,
    ⟨some 178, .binOp .mul 3 (.tmp 176) (.tmp 177) 3, none⟩,
    ⟨some 179, .binOp .neq 3 (.tmp 172) (.tmp 178) 3, none⟩]
@[reducible] def q9_25 : SCode := .region [⟨some 6, .assign (.const (.bool false)), none⟩]
@[reducible] def q9_26 : SCode := .region [⟨some 181, .move (.tmp 0), none⟩,
    ⟨some 182, .call { callee := .value (.func 18), args := #[.tmp 181], argTypes := #[22] }, none⟩,
    ⟨some 183, .call { callee := .value (.func 23), args := #[.tmp 182], argTypes := #[22] }, none⟩,
    ⟨some 180, .move (.tmp 183), none⟩,
    ⟨some 184, .extract (.tmp 180) 0, none⟩,
    ⟨some 185, .extract (.tmp 180) 1, none⟩,
    ⟨some 21, .alloc 33, none⟩,
    ⟨none, .store 33 (.tmp 21) (.tmp 184), none⟩,
    ⟨some 22, .assign (.tmp 185), none⟩]
@[reducible] def q9_27 : SCode := .region [⟨some 187, .move (.tmp 0), none⟩,
    ⟨some 188, .call { callee := .value (.func 18), args := #[.tmp 187], argTypes := #[22] }, none⟩,
    ⟨some 189, .call { callee := .value (.func 17), args := #[.tmp 188], argTypes := #[22] }, none⟩,
    ⟨some 186, .move (.tmp 189), none⟩,
    ⟨some 190, .extract (.tmp 186) 0, none⟩,
    ⟨some 191, .extract (.tmp 186) 1, none⟩,
    ⟨some 23, .assign (.tmp 190), none⟩,
    ⟨some 24, .assign (.tmp 191), none⟩]
@[reducible] def q9_28 : SCode := .region [⟨some 192, .move (.tmp 24), none⟩,
    ⟨some 193, .binOp .neq 23 (.tmp 192) (.const (.int .i64 0)) 23, none⟩,
    ⟨some 194, .move (.tmp 193), none⟩,
    ⟨some 195, .move (.tmp 22), some (194, false)⟩,
    ⟨some 196, .binOp .eql 23 (.tmp 195) (.const (.int .i64 0)) 23, some (194, false)⟩,
    ⟨some 197, .move (.tmp 23), some (194, false)⟩,
    ⟨some 198, .binOp .gtr 3 (.tmp 197) (.const (.int .i64 1)) 3, some (194, false)⟩,
    ⟨some 199, .binOp .neq 4 (.tmp 196) (.tmp 198) 4, some (194, false)⟩,
    ⟨some 200, .pick (.tmp 194) (.const (.bool true)) (.tmp 199), none⟩,
    ⟨some 201, .move (.tmp 200), none⟩,
    ⟨some 202, .move (.tmp 22), some (201, false)⟩,
    ⟨some 203, .binOp .neq 23 (.tmp 202) (.const (.int .i64 0)) 23, some (201, false)⟩,
    ⟨some 204, .move (.tmp 203), some (201, false)⟩,
    ⟨some 205, .move (.tmp 22), some (204, true)⟩,
    ⟨some 206, .binOp .neq 23 (.tmp 205) (.const (.int .i64 4)) 23, some (204, true)⟩,
    ⟨some 207, .pick (.tmp 204) (.tmp 206) (.const (.bool false)), some (201, false)⟩,
    ⟨some 208, .pick (.tmp 201) (.const (.bool true)) (.tmp 207), none⟩]
@[reducible] def q9_29 : SCode := .region [⟨some 6, .assign (.const (.bool false)), none⟩]
@[reducible] def q9_30 : SCode := .region [⟨some 209, .move (.tmp 22), none⟩,
    ⟨some 210, .binOp .neq 23 (.tmp 209) (.const (.int .i64 0)) 23, none⟩]
@[reducible] def q9_31 : SCode := .region [⟨some 211, .call { callee := .value (.func 20), args := #[], argTypes := #[] }, none⟩,
    ⟨some 6, .assign (.tmp 211), none⟩]
def q9_32 : SCode := .draw [⟨some 213, .move (.tmp 0), none⟩,
    ⟨some 214, .call { callee := .value (.func 18), args := #[.tmp 213], argTypes := #[22] }, none⟩,
    ⟨some 215, .indexAddr 33 (.tmp 21) (.const (.int .i64 0)), none⟩,
    ⟨some 216, .load 3 (.tmp 215), none⟩,
    ⟨some 217, .indexAddr 33 (.tmp 21) (.const (.int .i64 1)), none⟩,
    ⟨some 218, .load 3 (.tmp 217), none⟩,
    ⟨some 219, .call { callee := .value (.func 25), args := #[.tmp 214, .tmp 216, .tmp 218], argTypes := #[22, 3, 3] }, none⟩,
    ⟨some 212, .move (.tmp 219), none⟩,
    ⟨some 220, .extract (.tmp 212) 0, none⟩,
    ⟨some 221, .extract (.tmp 212) 1, none⟩,
    ⟨some 25, .alloc 37, none⟩,
    ⟨none, .store 37 (.tmp 25) (.tmp 220), none⟩,
    ⟨some 22, .assign (.tmp 221), none⟩]
   [[], [0], [], [2], [], [4], [1, 3, 5, 1], [6], [7], [7], [], [10, 8, 6, 0, 1, 2, 3, 4, 5, 6, 7, 8, 10], [9, 11, 0, 1, 2, 3, 4, 5, 6, 7, 8, 9, 10, 11]]
@[reducible] def q9_33 : SCode := .region [⟨some 222, .move (.tmp 22), none⟩,
    ⟨some 223, .binOp .eql 23 (.tmp 222) (.const (.int .i64 0)) 23, none⟩,
    ⟨some 224, .move (.tmp 223), none⟩,
    ⟨some 225, .load 37 (.tmp 25), some (224, true)⟩,
    ⟨some 226, .call { callee := .value (.func 42), args := #[.tmp 225, .const (.int .i64 1)], argTypes := #[37, 3] }, some (224, true)⟩,
    ⟨some 227, .pick (.tmp 224) (.tmp 226) (.const (.bool false)), none⟩,
    ⟨some 228, .move (.tmp 227), none⟩,
    ⟨some 229, .indexAddr 33 (.tmp 21) (.const (.int .i64 0)), some (228, true)⟩,
    ⟨some 230, .load 3 (.tmp 229), some (228, true)⟩,
    ⟨some 231, .indexAddr 33 (.tmp 21) (.const (.int .i64 1)), some (228, true)⟩,
    ⟨some 232, .load 3 (.tmp 231), some (228, true)⟩,
    ⟨some 233, .binOp .lss 3 (.tmp 230) (.tmp 232) 3, some (228, true)⟩,
    ⟨some 234, .pick (.tmp 228) (.tmp 233) (.const (.bool false)), none⟩,
    ⟨some 235, .move (.tmp 234), none⟩,
    ⟨some 236, .fieldAddr 37 (.tmp 25) 0, some (235, true)⟩,
    ⟨some 237, .load 3 (.tmp 236), some (235, true)⟩,
    ⟨some 238, .binOp .mul 3 (.const (.int .i64 3)) (.tmp 237) 3, some (235, true)⟩,
    ⟨some 239, .fieldAddr 37 (.tmp 25) 1, some (235, true)⟩,
    ⟨some 240, .load 3 (.tmp 239), some (235, true)⟩,
    ⟨some 241, .binOp .geq 3 (.tmp 238) (.tmp 240) 3, some (235, true)⟩,
    ⟨some 242, .pick (.tmp 235) (.tmp 241) (.const (.bool false)), none⟩,
    ⟨some 243, .move (.tmp 242), none⟩,
    ⟨some 244, .fieldAddr 37 (.tmp 25) 0, some (243, true)⟩,
    ⟨some 245, .load 3 (.tmp 244), some (243, true)⟩,
    ⟨some 246, .binOp .mul 3 (.const (.int .i64 3)) (.tmp 245) 3, some (243, true)⟩,
    ⟨some 247, .fieldAddr 37 (.tmp 25) 1, some (243, true)⟩,
    ⟨some 248, .load 3 (.tmp 247), some (243, true)⟩,
    ⟨some 249, .binOp .mul 3 (.const (.int .i64 2)) (.tmp 248) 3, some (243, true)⟩,
    ⟨some 250, .binOp .leq 3 (.tmp 246) (.tmp 249) 3, some (243, true)⟩,
    ⟨some 251, .pick (.tmp 243) (.tmp 250) (.const (.bool false)), none⟩,
    ⟨some 252, .move (.tmp 251), none⟩,
    ⟨some 253, .call { callee := .value (.func 20), args := #[], argTypes := #[] }, some (252, true)⟩,
    ⟨some 254, .pick (.tmp 252) (.tmp 253) (.const (.bool false)), none⟩,
    ⟨some 6, .assign (.tmp 254), none⟩]
def s9 : SCode := (.seq q9_0 (.seq (.seq q9_1 (.cond (.tmp 28) (.seq q9_2 (.seq q9_3 .ret)) .skip)) (.seq q9_4 (.seq q9_5 (.seq (.seq q9_6 (.cond (.tmp 56) (.seq q9_7 (.seq q9_8 (.seq q9_9 (.cond (.tmp 123) (.seq q9_10 .ret) .skip)))) .skip)) (.seq q9_11 (.seq (.seq q9_12 (.block 0 (.loop l9_1))) (.seq (.seq q9_24 (.cond (.tmp 179) (.seq q9_25 .ret) .skip)) (.seq q9_26 (.seq q9_27 (.seq (.seq q9_28 (.cond (.tmp 208) (.seq q9_29 .ret) .skip)) (.seq (.seq q9_30 (.cond (.tmp 210) (.seq q9_31 .ret) .skip)) (.seq q9_32 (.seq q9_33 .ret))))))))))))))
theorem s9_strip : stripC (bodyOf Tryd.f9) = s9 := by kernel_rfl
theorem s9_ok : codeOK 255 (bodyOf Tryd.f9) = true := by kernel_rfl
theorem s9_call [Tabs Tryd.prog] {args : List Value} {h : Heap} {Q : Value → Heap → Prop} (hsz : args.length ≤ 255) (hk : aw Tryd.prog 255 s9 (aPost Tryd.prog [.tmp 6] Q) (argEnv 0 args) h) : ACall Tryd.prog 9 args h Q :=
  acall_s Tryd.func9 rfl (enters_of Tryd.func9 (by kernel_rfl) rfl) rfl rfl (by decide) s9_strip s9_ok hsz hk

/-! 42: planchet planchetlaw07.right -/
@[reducible] def q42_0 : SCode := .region [⟨some 2, .box 37 (.tmp 0), none⟩,
    ⟨some 4, .assign (.const (.bool false)), none⟩]
@[reducible] def q42_1 : SCode := .region [⟨some 5, .fieldAddr 37 (.tmp 2) 1, none⟩,
    ⟨some 6, .load 3 (.tmp 5), none⟩,
    ⟨some 7, .binOp .geq 3 (.tmp 6) (.const (.int .i64 1)) 3, none⟩,
    ⟨some 8, .move (.tmp 7), none⟩,
    ⟨some 9, .fieldAddr 37 (.tmp 2) 1, some (8, true)⟩,
    ⟨some 10, .load 3 (.tmp 9), some (8, true)⟩,
    ⟨some 11, .binOp .leq 3 (.tmp 10) (.const (.int .i64 720)) 3, some (8, true)⟩,
    ⟨some 12, .pick (.tmp 8) (.tmp 11) (.const (.bool false)), none⟩,
    ⟨some 13, .move (.tmp 12), none⟩,
    ⟨some 14, .fieldAddr 37 (.tmp 2) 0, some (13, true)⟩,
    ⟨some 15, .load 3 (.tmp 14), some (13, true)⟩,
    ⟨some 16, .binOp .geq 3 (.tmp 15) (.const (.int .i64 0)) 3, some (13, true)⟩,
    ⟨some 17, .pick (.tmp 13) (.tmp 16) (.const (.bool false)), none⟩,
    ⟨some 18, .move (.tmp 17), none⟩,
    ⟨some 19, .fieldAddr 37 (.tmp 2) 0, some (18, true)⟩,
    ⟨some 20, .load 3 (.tmp 19), some (18, true)⟩,
    ⟨some 21, .move (.tmp 1), some (18, true)⟩,
    ⟨some 22, .fieldAddr 37 (.tmp 2) 1, some (18, true)⟩,
    ⟨some 23, .load 3 (.tmp 22), some (18, true)⟩,
    ⟨some 24, .binOp .mul 3 (.tmp 21) (.tmp 23) 3, some (18, true)⟩,
    ⟨some 25, .binOp .leq 3 (.tmp 20) (.tmp 24) 3, some (18, true)⟩,
    ⟨some 26, .pick (.tmp 18) (.tmp 25) (.const (.bool false)), none⟩,
    ⟨some 4, .assign (.tmp 26), none⟩]
def s42 : SCode := (.seq q42_0 (.seq q42_1 .ret))
theorem s42_strip : stripC (bodyOf Tryd.f42) = s42 := by kernel_rfl
theorem s42_ok : codeOK 27 (bodyOf Tryd.f42) = true := by kernel_rfl
theorem s42_call [Tabs Tryd.prog] {args : List Value} {h : Heap} {Q : Value → Heap → Prop} (hsz : args.length ≤ 27) (hk : aw Tryd.prog 27 s42 (aPost Tryd.prog [.tmp 4] Q) (argEnv 0 args) h) : ACall Tryd.prog 42 args h Q :=
  acall_s Tryd.func42 rfl (enters_of Tryd.func42 (by kernel_rfl) rfl) rfl rfl (by decide) s42_strip s42_ok hsz hk

end Go.Proofs.Tryd.Am

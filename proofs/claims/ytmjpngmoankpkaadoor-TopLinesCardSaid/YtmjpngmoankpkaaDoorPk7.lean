/-
  Printed by gen.py: the code of some functions, without what no step looks at; held against the program's own by the kernel.
  Printed by gen.py: facts on the types of this seat, asked of the kernel.
  bets: fractions as rational numbers: parts of a common multiple. Plain Lean, no program.
  bets: fractions: the program's arithmetic, and the reference's.
  bets: fractions: sums, products, quotients.
  bets: the common multiple of fractions that sum to one: its square divides the product. Plain Lean, no program.
  bets: fractions as they are handed in; their common multiple; a forecast's is small. Plain Lean, no program.
  bets: forecasts as numbers. Plain Lean, no program.
  bets: elimination, as the program does it: what it comes to. Plain Lean, no program.
  bets: equations as they lie in memory.
-/
import Derived.Test.YtmjpngmoankpkaaDoorPk3
import Derived.Test.YtmjpngmoankpkaaDoorProg
import Derived.KernelRfl
import Derived.Shelf.Abstract
import Derived.Test.YtmjpngmoankpkaaDoorPk5
import Derived.Test.YtmjpngmoankpkaaDoorPk6
set_option linter.all false
namespace Go.Proofs.Tryd.Am
open Go.Am
set_option maxRecDepth 100000
/-! 72: planchet bets.whole -/
@[reducible] def q72_0:SCode:=.region [⟨some 2,.alloc 45,none⟩]
@[reducible] def q72_1:SCode:=.region [⟨some 3,.move (.tmp 0),none⟩,
  ⟨some 4,.build 45 #[(0,.tmp 3),(1,.const (.int .i64 1))],none⟩,
  ⟨none,.store 45 (.tmp 2) (.tmp 4),none⟩]
def s72:SCode:=(.seq q72_0 (.seq q72_1 .ret))
theorem s72_strip:Yd (Zw Tryd.f72)=s72:=by kernel_rfl
theorem s72_ok:Yl 5 (Zw Tryd.f72)=true:=by kernel_rfl
/-! 73: (planchet bets.Bet).gain -/
@[reducible] def q73_0:SCode:=.region [⟨some 2,.box 51 (.tmp 0),none⟩,
  ⟨some 4,.assign (.const (.int .i64 0)),none⟩]
def q73_1:SCode:=.draw [⟨some 5,.fieldAddr 51 (.tmp 2) 0,none⟩,
    ⟨some 6,.load 3 (.tmp 5),none⟩,
    ⟨some 7,.move (.tmp 1),none⟩,
    ⟨some 8,.binOp .shr 3 (.tmp 6) (.tmp 7) 3,none⟩,
    ⟨some 9,.binOp .and 3 (.tmp 8) (.const (.int .i64 1)) 3,none⟩,
    ⟨some 10,.binOp .mul 3 (.tmp 9) (.const (.int .i64 12)) 3,none⟩,
    ⟨some 11,.fieldAddr 51 (.tmp 2) 1,none⟩,
    ⟨some 12,.load 3 (.tmp 11),none⟩,
    ⟨some 13,.binOp .sub 3 (.tmp 10) (.tmp 12) 3,none⟩,
    ⟨some 4,.assign (.tmp 13),none⟩]
  [[],[0],[],[1,2],[3],[4],[],[6],[5,7],[8,0,1,2,3,4,5,6,7,8]]
def s73:SCode:=(.seq q73_0 (.seq q73_1 .ret))
theorem s73_strip:Yd (Zw Tryd.f73)=s73:=by kernel_rfl
theorem s73_ok:Yl 14 (Zw Tryd.f73)=true:=by kernel_rfl
/-! 74: (planchet bets.equations).solve -/
@[reducible] def q74_0:SCode:=.region [⟨some 4,.assign (.const (.slice none 0 0)),none⟩,
  ⟨some 5,.assign (.const (.bool false)),none⟩]
@[reducible] def q74_1:SCode:=.region [⟨some 6,.assign (.const (.int .i64 0)),none⟩]
@[reducible] def q74_2:SCode:=.region [⟨some 18,.move (.tmp 1),none⟩,
  ⟨some 19,.move (.const (.int .i64 0)),none⟩]
@[reducible] def q74_3:SCode:=.region [⟨some 20,.binOp .lss 3 (.tmp 19) (.tmp 18) 3,none⟩]
@[reducible] def q74_4:SCode:=.region [⟨some 21,.move (.tmp 19),none⟩,
  ⟨some 7,.alloc 3,none⟩,
  ⟨none,.store 3 (.tmp 7) (.tmp 21),none⟩]
@[reducible] def q74_5:SCode:=.region [⟨some 22,.move (.tmp 0),none⟩,
  ⟨some 23,.move (.tmp 6),none⟩,
  ⟨some 24,.slice 125 (.tmp 22) (some (.tmp 23)) none none,none⟩,
  ⟨some 25,.makeFunc (.func 122) #[] #[.tmp 7],none⟩,
  ⟨some 26,.call { callee:=.value (.func 121),args:=#[.tmp 24,.tmp 25],argTypes:=#[125,118] },none⟩,
  ⟨some 8,.assign (.tmp 26),none⟩]
@[reducible] def q74_6:SCode:=.region [⟨some 27,.move (.tmp 8),none⟩,
  ⟨some 28,.binOp .lss 3 (.tmp 27) (.const (.int .i64 0)) 3,none⟩]
@[reducible] def q74_7:SCode:=.region [⟨some 4,.assign (.const (.slice none 0 0)),none⟩,
  ⟨some 5,.assign (.const (.bool false)),none⟩]
def q74_8:SCode:=.draw [⟨some 29,.move (.tmp 0),none⟩,
    ⟨some 30,.move (.tmp 6),none⟩,
    ⟨some 31,.move (.tmp 0),none⟩,
    ⟨some 32,.move (.tmp 6),none⟩,
    ⟨some 33,.move (.tmp 8),none⟩,
    ⟨some 34,.binOp .add 3 (.tmp 32) (.tmp 33) 3,none⟩,
    ⟨some 35,.move (.tmp 0),none⟩,
    ⟨some 36,.move (.tmp 6),none⟩,
    ⟨some 37,.move (.tmp 8),none⟩,
    ⟨some 38,.binOp .add 3 (.tmp 36) (.tmp 37) 3,none⟩,
    ⟨some 39,.indexAddr 125 (.tmp 35) (.tmp 38),none⟩,
    ⟨some 40,.load 43 (.tmp 39),none⟩,
    ⟨some 41,.move (.tmp 0),none⟩,
    ⟨some 42,.move (.tmp 6),none⟩,
    ⟨some 43,.indexAddr 125 (.tmp 41) (.tmp 42),none⟩,
    ⟨some 44,.load 43 (.tmp 43),none⟩,
    ⟨some 45,.indexAddr 125 (.tmp 29) (.tmp 30),none⟩,
    ⟨none,.store 43 (.tmp 45) (.tmp 40),none⟩,
    ⟨some 46,.indexAddr 125 (.tmp 31) (.tmp 34),none⟩,
    ⟨none,.store 43 (.tmp 46) (.tmp 44),none⟩]
  [[],[],[],[],[],[3,4],[],[],[],[7,8],[6,9],[10],[],[],[12,13],[14],[0,1,0,1,6,7,8,9,10,11,15],[16,11,0,1,6,7,8,9,10,11,15],[2,5,0,1,2,3,4,5,6,7,8,9,10,11,12,13,14,15,16,17],[18,15,17,0,1,2,3,4,5,6,7,8,9,10,11,12,13,14,15,16,17]]
def q74_9:SCode:=.draw [⟨some 47,.move (.tmp 0),none⟩,
    ⟨some 48,.move (.tmp 6),none⟩,
    ⟨some 49,.indexAddr 125 (.tmp 47) (.tmp 48),none⟩,
    ⟨some 50,.load 43 (.tmp 49),none⟩,
    ⟨some 51,.load 3 (.tmp 7),none⟩,
    ⟨some 52,.indexAddr 43 (.tmp 50) (.tmp 51),none⟩,
    ⟨some 53,.load 45 (.tmp 52),none⟩,
    ⟨some 9,.alloc 45,none⟩,
    ⟨none,.store 45 (.tmp 9) (.tmp 53),none⟩]
  [[],[],[0,1],[2],[],[3,4],[5],[],[7,6,0,1,2,3,4,5,6,7]]
@[reducible] def q74_10:SCode:=.region [⟨some 54,.move (.tmp 0),none⟩,
  ⟨some 55,.move (.tmp 6),none⟩,
  ⟨some 56,.indexAddr 125 (.tmp 54) (.tmp 55),none⟩,
  ⟨some 57,.load 43 (.tmp 56),none⟩,
  ⟨some 58,.call { callee:=.builtin .len,args:=#[.tmp 57],argTypes:=#[43] },none⟩,
  ⟨some 59,.move (.const (.int .i64 0)),none⟩]
@[reducible] def q74_11:SCode:=.region [⟨some 60,.binOp .lss 3 (.tmp 59) (.tmp 58) 3,none⟩]
@[reducible] def q74_12:SCode:=.region [⟨some 61,.move (.tmp 59),none⟩,
  ⟨some 10,.assign (.tmp 61),none⟩]
def q74_13:SCode:=.draw [⟨some 62,.move (.tmp 0),none⟩,
    ⟨some 63,.move (.tmp 6),none⟩,
    ⟨some 64,.indexAddr 125 (.tmp 62) (.tmp 63),none⟩,
    ⟨some 65,.load 43 (.tmp 64),none⟩,
    ⟨some 66,.move (.tmp 10),none⟩,
    ⟨some 67,.move (.tmp 0),none⟩,
    ⟨some 68,.move (.tmp 6),none⟩,
    ⟨some 69,.indexAddr 125 (.tmp 67) (.tmp 68),none⟩,
    ⟨some 70,.load 43 (.tmp 69),none⟩,
    ⟨some 71,.move (.tmp 10),none⟩,
    ⟨some 72,.indexAddr 43 (.tmp 70) (.tmp 71),none⟩,
    ⟨some 73,.load 45 (.tmp 72),none⟩,
    ⟨some 74,.load 45 (.tmp 9),none⟩,
    ⟨some 75,.call { callee:=.value (.func 123),args:=#[.tmp 73,.tmp 74],argTypes:=#[45,45] },none⟩,
    ⟨some 76,.indexAddr 43 (.tmp 65) (.tmp 66),none⟩,
    ⟨none,.store 45 (.tmp 76) (.tmp 75),none⟩]
  [[],[],[0,1],[2],[],[],[],[5,6],[7],[],[8,9],[10],[],[11,12],[3,4,0,1,2,3,4,5,6,7,8,9,10,11,12,13],[14,13,13,0,1,2,3,4,5,6,7,8,9,10,11,12,13]]
@[reducible] def q74_14:SCode:=.region [⟨some 77,.binOp .add 3 (.tmp 59) (.const (.int .i64 1)) 3,none⟩,
  ⟨some 59,.move (.tmp 77),none⟩]
def l74_0:SCode:=(.seq q74_11 (.seq (.cond (.tmp 60) .skip (.exit 2)) (.seq (.block 3 (.seq q74_12 q74_13)) q74_14)))
@[reducible] def q74_15:SCode:=.region [⟨some 78,.move (.tmp 0),none⟩,
  ⟨some 79,.call { callee:=.builtin .len,args:=#[.tmp 78],argTypes:=#[125] },none⟩,
  ⟨some 80,.move (.const (.int .i64 0)),none⟩]
@[reducible] def q74_16:SCode:=.region [⟨some 81,.binOp .lss 3 (.tmp 80) (.tmp 79) 3,none⟩]
@[reducible] def q74_17:SCode:=.region [⟨some 82,.move (.tmp 80),none⟩,
  ⟨some 11,.assign (.tmp 82),none⟩]
def q74_18:SCode:=.draw [⟨some 83,.move (.tmp 0),none⟩,
    ⟨some 84,.move (.tmp 11),none⟩,
    ⟨some 85,.indexAddr 125 (.tmp 83) (.tmp 84),none⟩,
    ⟨some 86,.load 43 (.tmp 85),none⟩,
    ⟨some 87,.load 3 (.tmp 7),none⟩,
    ⟨some 88,.indexAddr 43 (.tmp 86) (.tmp 87),none⟩,
    ⟨some 89,.load 45 (.tmp 88),none⟩,
    ⟨some 12,.alloc 45,none⟩,
    ⟨none,.store 45 (.tmp 12) (.tmp 89),none⟩]
  [[],[],[0,1],[2],[],[3,4],[5],[],[7,6,0,1,2,3,4,5,6,7]]
@[reducible] def q74_19:SCode:=.region [⟨some 90,.move (.tmp 11),none⟩,
  ⟨some 91,.move (.tmp 6),none⟩,
  ⟨some 92,.binOp .neq 3 (.tmp 90) (.tmp 91) 3,none⟩,
  ⟨some 93,.move (.tmp 92),none⟩,
  ⟨some 94,.fieldAddr 45 (.tmp 12) 0,some (93,true)⟩,
  ⟨some 95,.load 3 (.tmp 94),some (93,true)⟩,
  ⟨some 96,.binOp .neq 3 (.tmp 95) (.const (.int .i64 0)) 3,some (93,true)⟩,
  ⟨some 97,.pick (.tmp 93) (.tmp 96) (.const (.bool false)),none⟩]
@[reducible] def q74_20:SCode:=.region [⟨some 98,.move (.tmp 0),none⟩,
  ⟨some 99,.move (.tmp 11),none⟩,
  ⟨some 100,.indexAddr 125 (.tmp 98) (.tmp 99),none⟩,
  ⟨some 101,.load 43 (.tmp 100),none⟩,
  ⟨some 102,.call { callee:=.builtin .len,args:=#[.tmp 101],argTypes:=#[43] },none⟩,
  ⟨some 103,.move (.const (.int .i64 0)),none⟩]
@[reducible] def q74_21:SCode:=.region [⟨some 104,.binOp .lss 3 (.tmp 103) (.tmp 102) 3,none⟩]
@[reducible] def q74_22:SCode:=.region [⟨some 105,.move (.tmp 103),none⟩,
  ⟨some 13,.assign (.tmp 105),none⟩]
def q74_23:SCode:=.draw [⟨some 106,.move (.tmp 0),none⟩,
    ⟨some 107,.move (.tmp 11),none⟩,
    ⟨some 108,.indexAddr 125 (.tmp 106) (.tmp 107),none⟩,
    ⟨some 109,.load 43 (.tmp 108),none⟩,
    ⟨some 110,.move (.tmp 13),none⟩,
    ⟨some 111,.move (.tmp 0),none⟩,
    ⟨some 112,.move (.tmp 11),none⟩,
    ⟨some 113,.indexAddr 125 (.tmp 111) (.tmp 112),none⟩,
    ⟨some 114,.load 43 (.tmp 113),none⟩,
    ⟨some 115,.move (.tmp 13),none⟩,
    ⟨some 116,.indexAddr 43 (.tmp 114) (.tmp 115),none⟩,
    ⟨some 117,.load 45 (.tmp 116),none⟩,
    ⟨some 118,.load 45 (.tmp 12),none⟩,
    ⟨some 119,.move (.tmp 0),none⟩,
    ⟨some 120,.move (.tmp 6),none⟩,
    ⟨some 121,.indexAddr 125 (.tmp 119) (.tmp 120),none⟩,
    ⟨some 122,.load 43 (.tmp 121),none⟩,
    ⟨some 123,.move (.tmp 13),none⟩,
    ⟨some 124,.indexAddr 43 (.tmp 122) (.tmp 123),none⟩,
    ⟨some 125,.load 45 (.tmp 124),none⟩,
    ⟨some 126,.call { callee:=.value (.func 125),args:=#[.tmp 118,.tmp 125],argTypes:=#[45,45] },none⟩,
    ⟨some 127,.call { callee:=.value (.func 124),args:=#[.tmp 117,.const (.int .i64 (-1)),.tmp 126],argTypes:=#[45,3,45] },none⟩,
    ⟨some 128,.indexAddr 43 (.tmp 109) (.tmp 110),none⟩,
    ⟨none,.store 45 (.tmp 128) (.tmp 127),none⟩]
  [[],[],[0,1],[2],[],[],[],[5,6],[7],[],[8,9],[10],[],[],[],[13,14],[15],[],[16,17],[18],[12,19],[11,20,20],[3,4,0,1,2,3,4,5,6,7,8,9,10,11,12,13,14,15,16,17,18,19,20,21],[22,21,21,0,1,2,3,4,5,6,7,8,9,10,11,12,13,14,15,16,17,18,19,20,21]]
@[reducible] def q74_24:SCode:=.region [⟨some 129,.binOp .add 3 (.tmp 103) (.const (.int .i64 1)) 3,none⟩,
  ⟨some 103,.move (.tmp 129),none⟩]
def l74_1:SCode:=(.seq q74_21 (.seq (.cond (.tmp 104) .skip (.exit 6)) (.seq (.block 7 (.seq q74_22 q74_23)) q74_24)))
@[reducible] def q74_25:SCode:=.region [⟨some 130,.binOp .add 3 (.tmp 80) (.const (.int .i64 1)) 3,none⟩,
  ⟨some 80,.move (.tmp 130),none⟩]
def l74_2:SCode:=(.seq q74_16 (.seq (.cond (.tmp 81) .skip (.exit 4)) (.seq (.block 5 (.seq q74_17 (.seq q74_18 (.seq q74_19 (.cond (.tmp 97) (.seq q74_20 (.block 6 (.loop l74_1))) .skip))))) q74_25)))
@[reducible] def q74_26:SCode:=.region [⟨some 131,.move (.tmp 6),none⟩,
  ⟨some 132,.binOp .add 3 (.tmp 131) (.const (.int .i64 1)) 3,none⟩,
  ⟨some 6,.assign (.tmp 132),none⟩]
@[reducible] def q74_27:SCode:=.region [⟨some 133,.move (.tmp 6),none⟩,
  ⟨some 134,.move (.tmp 0),none⟩,
  ⟨some 135,.call { callee:=.builtin .len,args:=#[.tmp 134],argTypes:=#[125] },none⟩,
  ⟨some 136,.binOp .eql 3 (.tmp 133) (.tmp 135) 3,none⟩,
  ⟨some 137,.move (.tmp 136),none⟩,
  ⟨some 138,.load 3 (.tmp 7),some (137,true)⟩,
  ⟨some 139,.binOp .add 3 (.tmp 138) (.const (.int .i64 1)) 3,some (137,true)⟩,
  ⟨some 140,.move (.tmp 1),some (137,true)⟩,
  ⟨some 141,.binOp .lss 3 (.tmp 139) (.tmp 140) 3,some (137,true)⟩,
  ⟨some 142,.pick (.tmp 137) (.tmp 141) (.const (.bool false)),none⟩]
@[reducible] def q74_28:SCode:=.region [⟨some 4,.assign (.const (.slice none 0 0)),none⟩,
  ⟨some 5,.assign (.const (.bool false)),none⟩]
@[reducible] def q74_29:SCode:=.region [⟨some 143,.binOp .add 3 (.tmp 19) (.const (.int .i64 1)) 3,none⟩,
  ⟨some 19,.move (.tmp 143),none⟩]
def l74_3:SCode:=(.seq q74_3 (.seq (.cond (.tmp 20) .skip (.exit 0)) (.seq (.block 1 (.seq q74_4 (.seq q74_5 (.seq (.seq q74_6 (.cond (.tmp 28) (.seq q74_7 .ret) .skip)) (.seq q74_8 (.seq q74_9 (.seq (.seq q74_10 (.block 2 (.loop l74_0))) (.seq (.seq q74_15 (.block 4 (.loop l74_2))) (.seq q74_26 (.seq q74_27 (.cond (.tmp 142) (.seq q74_28 .ret) .skip))))))))))) q74_29)))
@[reducible] def q74_30:SCode:=.region [⟨some 144,.move (.tmp 0),none⟩,
  ⟨some 145,.move (.tmp 6),none⟩,
  ⟨some 146,.slice 125 (.tmp 144) (some (.tmp 145)) none none,none⟩,
  ⟨some 147,.call { callee:=.builtin .len,args:=#[.tmp 146],argTypes:=#[125] },none⟩,
  ⟨some 148,.move (.const (.int .i64 0)),none⟩]
@[reducible] def q74_31:SCode:=.region [⟨some 149,.binOp .lss 3 (.tmp 148) (.tmp 147) 3,none⟩]
@[reducible] def q74_32:SCode:=.region [⟨some 150,.indexAddr 125 (.tmp 146) (.tmp 148),none⟩,
  ⟨some 151,.load 43 (.tmp 150),none⟩,
  ⟨some 15,.assign (.tmp 151),none⟩]
@[reducible] def q74_33:SCode:=.region [⟨some 152,.move (.tmp 15),none⟩,
  ⟨some 153,.move (.tmp 1),none⟩,
  ⟨some 154,.indexAddr 43 (.tmp 152) (.tmp 153),none⟩,
  ⟨some 155,.fieldAddr 45 (.tmp 154) 0,none⟩,
  ⟨some 156,.load 3 (.tmp 155),none⟩,
  ⟨some 157,.binOp .neq 3 (.tmp 156) (.const (.int .i64 0)) 3,none⟩]
@[reducible] def q74_34:SCode:=.region [⟨some 4,.assign (.const (.slice none 0 0)),none⟩,
  ⟨some 5,.assign (.const (.bool false)),none⟩]
@[reducible] def q74_35:SCode:=.region [⟨some 158,.binOp .add 3 (.tmp 148) (.const (.int .i64 1)) 3,none⟩,
  ⟨some 148,.move (.tmp 158),none⟩]
def l74_4:SCode:=(.seq q74_31 (.seq (.cond (.tmp 149) .skip (.exit 8)) (.seq (.block 9 (.seq q74_32 (.seq q74_33 (.cond (.tmp 157) (.seq q74_34 .ret) .skip)))) q74_35)))
@[reducible] def q74_36:SCode:=.region [⟨some 159,.move (.tmp 0),none⟩,
  ⟨some 160,.move (.tmp 6),none⟩,
  ⟨some 161,.slice 125 (.tmp 159) none (some (.tmp 160)) none,none⟩,
  ⟨some 162,.call { callee:=.builtin .len,args:=#[.tmp 161],argTypes:=#[125] },none⟩,
  ⟨some 163,.move (.const (.int .i64 0)),none⟩]
@[reducible] def q74_37:SCode:=.region [⟨some 164,.binOp .lss 3 (.tmp 163) (.tmp 162) 3,none⟩]
@[reducible] def q74_38:SCode:=.region [⟨some 165,.indexAddr 125 (.tmp 161) (.tmp 163),none⟩,
  ⟨some 166,.load 43 (.tmp 165),none⟩,
  ⟨some 17,.assign (.tmp 166),none⟩]
@[reducible] def q74_39:SCode:=.region [⟨some 167,.move (.tmp 4),none⟩,
  ⟨some 168,.move (.tmp 17),none⟩,
  ⟨some 169,.move (.tmp 1),none⟩,
  ⟨some 170,.indexAddr 43 (.tmp 168) (.tmp 169),none⟩,
  ⟨some 171,.load 45 (.tmp 170),none⟩,
  ⟨some 172,.buildSlice 43 1 #[(0,.tmp 171)],none⟩,
  ⟨some 173,.call { callee:=.builtin .append,args:=#[.tmp 167,.tmp 172],argTypes:=#[43,43] },none⟩,
  ⟨some 4,.assign (.tmp 173),none⟩]
@[reducible] def q74_40:SCode:=.region [⟨some 174,.binOp .add 3 (.tmp 163) (.const (.int .i64 1)) 3,none⟩,
  ⟨some 163,.move (.tmp 174),none⟩]
def l74_5:SCode:=(.seq q74_37 (.seq (.cond (.tmp 164) .skip (.exit 10)) (.seq (.block 11 (.seq q74_38 q74_39)) q74_40)))
@[reducible] def q74_41:SCode:=.region [⟨some 175,.move (.tmp 4),none⟩,
  ⟨some 4,.assign (.tmp 175),none⟩,
  ⟨some 5,.assign (.const (.bool true)),none⟩]
def s74:SCode:=(.seq q74_0 (.seq q74_1 (.seq (.seq q74_2 (.block 0 (.loop l74_3))) (.seq (.seq q74_30 (.block 8 (.loop l74_4))) (.seq (.seq q74_36 (.block 10 (.loop l74_5))) (.seq q74_41 .ret))))))
theorem s74_strip:Yd (Zw Tryd.f74)=s74:=by kernel_rfl
theorem s74_ok:Yl 176 (Zw Tryd.f74)=true:=by kernel_rfl
/-! 75: planchet bets.gcd -/
@[reducible] def q75_0:SCode:=.region [⟨some 4,.assign (.const (.int .i64 0)),none⟩]
@[reducible] def q75_1:SCode:=.region [⟨some 5,.move (.tmp 1),none⟩,
  ⟨some 6,.binOp .neq 3 (.tmp 5) (.const (.int .i64 0)) 3,none⟩]
def q75_2:SCode:=.draw [⟨some 7,.move (.tmp 1),none⟩,
    ⟨some 8,.move (.tmp 0),none⟩,
    ⟨some 9,.move (.tmp 1),none⟩,
    ⟨some 10,.binOp .rem 3 (.tmp 8) (.tmp 9) 3,none⟩,
    ⟨some 0,.assign (.tmp 7),none⟩,
    ⟨some 1,.assign (.tmp 10),none⟩]
  [[],[],[],[1,2],[0,0,1],[3,4,0,1,2,3,4]]
def l75_0:SCode:=(.seq (.seq q75_1 (.cond (.tmp 6) .skip (.exit 0))) (.block 1 q75_2))
@[reducible] def q75_3:SCode:=.region [⟨some 11,.move (.tmp 0),none⟩,
  ⟨some 12,.move (.tmp 0),none⟩,
  ⟨some 13,.unOp .neg 3 (.tmp 12),none⟩,
  ⟨some 14,.call { callee:=.builtin .max,args:=#[.tmp 11,.tmp 13],argTypes:=#[3,3] },none⟩,
  ⟨some 4,.assign (.tmp 14),none⟩]
def s75:SCode:=(.seq q75_0 (.seq (.block 0 (.loop l75_0)) (.seq q75_3 .ret)))
theorem s75_strip:Yd (Zw Tryd.f75)=s75:=by kernel_rfl
theorem s75_ok:Yl 15 (Zw Tryd.f75)=true:=by kernel_rfl
theorem s75_call [Tabs Tryd.prog] {args:List Value} {h:Zh} {Q:Value→Zh→Prop} (hsz:args.length≤15) (hk:aw Tryd.prog 15 s75 (Zs Tryd.prog [.tmp 4] Q) (Zp 0 args) h):ACall Tryd.prog 75 args h Q :=
 Wq Tryd.func75 rfl (enters_of Tryd.func75 (by kernel_rfl) rfl) rfl rfl (by decide) s75_strip s75_ok hsz hk
/-! 76: (planchet bets.table).beats -/
@[reducible] def q76_0:SCode:=.region [⟨some 2,.box 117 (.tmp 0),none⟩,
  ⟨some 4,.assign (.const (.bool false)),none⟩]
@[reducible] def q76_1:SCode:=.region [⟨some 9,.fieldAddr 117 (.tmp 2) 0,none⟩,
  ⟨some 10,.load 3 (.tmp 9),none⟩,
  ⟨some 11,.move (.const (.int .i64 0)),none⟩]
@[reducible] def q76_2:SCode:=.region [⟨some 12,.binOp .lss 3 (.tmp 11) (.tmp 10) 3,none⟩]
@[reducible] def q76_3:SCode:=.region [⟨some 13,.move (.tmp 11),none⟩,
  ⟨some 5,.assign (.tmp 13),none⟩]
@[reducible] def q76_4:SCode:=.region [⟨some 6,.assign (.const (.int .i64 0)),none⟩]
@[reducible] def q76_5:SCode:=.region [⟨some 14,.fieldAddr 117 (.tmp 2) 1,none⟩,
  ⟨some 15,.load 46 (.tmp 14),none⟩,
  ⟨some 16,.call { callee:=.builtin .len,args:=#[.tmp 15],argTypes:=#[46] },none⟩,
  ⟨some 17,.move (.const (.int .i64 0)),none⟩]
@[reducible] def q76_6:SCode:=.region [⟨some 18,.binOp .lss 3 (.tmp 17) (.tmp 16) 3,none⟩]
@[reducible] def q76_7:SCode:=.region [⟨some 19,.move (.tmp 17),none⟩,
  ⟨some 20,.indexAddr 46 (.tmp 15) (.tmp 17),none⟩,
  ⟨some 21,.load 51 (.tmp 20),none⟩,
  ⟨some 8,.alloc 51,none⟩,
  ⟨some 7,.assign (.tmp 19),none⟩,
  ⟨none,.store 51 (.tmp 8) (.tmp 21),none⟩]
def q76_8:SCode:=.draw [⟨some 22,.move (.tmp 6),none⟩,
    ⟨some 23,.move (.tmp 1),none⟩,
    ⟨some 24,.move (.tmp 7),none⟩,
    ⟨some 25,.indexAddr 27 (.tmp 23) (.tmp 24),none⟩,
    ⟨some 26,.load 3 (.tmp 25),none⟩,
    ⟨some 27,.load 51 (.tmp 8),none⟩,
    ⟨some 28,.move (.tmp 5),none⟩,
    ⟨some 29,.call { callee:=.value (.func 73),args:=#[.tmp 27,.tmp 28],argTypes:=#[51,3] },none⟩,
    ⟨some 30,.binOp .mul 3 (.tmp 26) (.tmp 29) 3,none⟩,
    ⟨some 31,.binOp .add 3 (.tmp 22) (.tmp 30) 3,none⟩,
    ⟨some 6,.assign (.tmp 31),none⟩]
  [[],[],[],[1,2],[3],[],[],[5,6],[4,7],[0,8],[9,7,0,1,2,3,4,5,6,7,8,9]]
@[reducible] def q76_9:SCode:=.region [⟨some 32,.binOp .add 3 (.tmp 17) (.const (.int .i64 1)) 3,none⟩,
  ⟨some 17,.move (.tmp 32),none⟩]
def l76_0:SCode:=(.seq q76_6 (.seq (.cond (.tmp 18) .skip (.exit 2)) (.seq (.block 3 (.seq q76_7 q76_8)) q76_9)))
@[reducible] def q76_10:SCode:=.region [⟨some 33,.move (.tmp 6),none⟩,
  ⟨some 34,.binOp .leq 3 (.tmp 33) (.const (.int .i64 0)) 3,none⟩]
@[reducible] def q76_11:SCode:=.region [⟨some 4,.assign (.const (.bool false)),none⟩]
@[reducible] def q76_12:SCode:=.region [⟨some 35,.binOp .add 3 (.tmp 11) (.const (.int .i64 1)) 3,none⟩,
  ⟨some 11,.move (.tmp 35),none⟩]
def l76_1:SCode:=(.seq q76_2 (.seq (.cond (.tmp 12) .skip (.exit 0)) (.seq (.block 1 (.seq q76_3 (.seq q76_4 (.seq (.seq q76_5 (.block 2 (.loop l76_0))) (.seq q76_10 (.cond (.tmp 34) (.seq q76_11 .ret) .skip)))))) q76_12)))
@[reducible] def q76_13:SCode:=.region [⟨some 4,.assign (.const (.bool true)),none⟩]
def s76:SCode:=(.seq q76_0 (.seq (.seq q76_1 (.block 0 (.loop l76_1))) (.seq q76_13 .ret)))
theorem s76_strip:Yd (Zw Tryd.f76)=s76:=by kernel_rfl
theorem s76_ok:Yl 36 (Zw Tryd.f76)=true:=by kernel_rfl
/-! 111: (planchet bets.table).valid$1 -/
@[reducible] def q111_0:SCode:=.region [⟨some 2,.box 51 (.tmp 0),none⟩,
  ⟨some 3,.assign (.const (.bool false)),none⟩]
@[reducible] def q111_1:SCode:=.region [⟨some 4,.fieldAddr 51 (.tmp 2) 0,none⟩,
  ⟨some 5,.load 3 (.tmp 4),none⟩,
  ⟨some 6,.fieldAddr 51 (.tmp 1) 0,none⟩,
  ⟨some 7,.load 3 (.tmp 6),none⟩,
  ⟨some 8,.binOp .eql 3 (.tmp 5) (.tmp 7) 3,none⟩,
  ⟨some 3,.assign (.tmp 8),none⟩]
def s111:SCode:=(.seq q111_0 (.seq q111_1 .ret))
theorem s111_strip:Yd (Zw Tryd.f111)=s111:=by kernel_rfl
theorem s111_ok:Yl 9 (Zw Tryd.f111)=true:=by kernel_rfl
/-! 112: planchet bets.chance -/
@[reducible] def q112_0:SCode:=.region [⟨some 2,.box 45 (.tmp 0),none⟩,
  ⟨some 4,.assign (.const (.bool false)),none⟩]
@[reducible] def q112_1:SCode:=.region [⟨some 5,.load 45 (.tmp 2),none⟩,
  ⟨some 6,.move (.tmp 1),none⟩,
  ⟨some 7,.call { callee:=.value (.func 144),args:=#[.tmp 5,.tmp 6],argTypes:=#[45,3] },none⟩,
  ⟨some 8,.move (.tmp 7),none⟩,
  ⟨some 9,.fieldAddr 45 (.tmp 2) 0,some (8,true)⟩,
  ⟨some 10,.load 3 (.tmp 9),some (8,true)⟩,
  ⟨some 11,.binOp .geq 3 (.tmp 10) (.const (.int .i64 0)) 3,some (8,true)⟩,
  ⟨some 12,.pick (.tmp 8) (.tmp 11) (.const (.bool false)),none⟩,
  ⟨some 13,.move (.tmp 12),none⟩,
  ⟨some 14,.fieldAddr 45 (.tmp 2) 0,some (13,true)⟩,
  ⟨some 15,.load 3 (.tmp 14),some (13,true)⟩,
  ⟨some 16,.fieldAddr 45 (.tmp 2) 1,some (13,true)⟩,
  ⟨some 17,.load 3 (.tmp 16),some (13,true)⟩,
  ⟨some 18,.binOp .leq 3 (.tmp 15) (.tmp 17) 3,some (13,true)⟩,
  ⟨some 19,.pick (.tmp 13) (.tmp 18) (.const (.bool false)),none⟩,
  ⟨some 4,.assign (.tmp 19),none⟩]
def s112:SCode:=(.seq q112_0 (.seq q112_1 .ret))
theorem s112_strip:Yd (Zw Tryd.f112)=s112:=by kernel_rfl
theorem s112_ok:Yl 20 (Zw Tryd.f112)=true:=by kernel_rfl
/-! 113: (planchet bets.belief).of -/
@[reducible] def q113_0:SCode:=.region [⟨some 4,.alloc 45,none⟩]
@[reducible] def q113_1:SCode:=.region [⟨some 8,.call { callee:=.value (.func 72),args:=#[.const (.int .i64 0)],argTypes:=#[3] },none⟩,
  ⟨some 5,.alloc 45,none⟩,
  ⟨none,.store 45 (.tmp 5) (.tmp 8),none⟩]
@[reducible] def q113_2:SCode:=.region [⟨some 9,.move (.tmp 0),none⟩,
  ⟨some 10,.call { callee:=.builtin .len,args:=#[.tmp 9],argTypes:=#[122] },none⟩,
  ⟨some 11,.move (.const (.int .i64 0)),none⟩]
@[reducible] def q113_3:SCode:=.region [⟨some 12,.binOp .lss 3 (.tmp 11) (.tmp 10) 3,none⟩]
@[reducible] def q113_4:SCode:=.region [⟨some 13,.move (.tmp 11),none⟩,
  ⟨some 14,.indexAddr 122 (.tmp 9) (.tmp 11),none⟩,
  ⟨some 15,.load 45 (.tmp 14),none⟩,
  ⟨some 7,.alloc 45,none⟩,
  ⟨some 6,.assign (.tmp 13),none⟩,
  ⟨none,.store 45 (.tmp 7) (.tmp 15),none⟩]
@[reducible] def q113_5:SCode:=.region [⟨some 16,.move (.tmp 1),none⟩,
  ⟨some 17,.move (.tmp 6),none⟩,
  ⟨some 18,.binOp .shr 3 (.tmp 16) (.tmp 17) 3,none⟩,
  ⟨some 19,.binOp .and 3 (.tmp 18) (.const (.int .i64 1)) 3,none⟩,
  ⟨some 20,.binOp .eql 3 (.tmp 19) (.const (.int .i64 1)) 3,none⟩]
@[reducible] def q113_6:SCode:=.region [⟨some 21,.load 45 (.tmp 5),none⟩,
  ⟨some 22,.load 45 (.tmp 7),none⟩,
  ⟨some 23,.call { callee:=.value (.func 124),args:=#[.tmp 21,.const (.int .i64 1),.tmp 22],argTypes:=#[45,3,45] },none⟩,
  ⟨none,.store 45 (.tmp 5) (.tmp 23),none⟩]
@[reducible] def q113_7:SCode:=.region [⟨some 24,.binOp .add 3 (.tmp 11) (.const (.int .i64 1)) 3,none⟩,
  ⟨some 11,.move (.tmp 24),none⟩]
def l113_0:SCode:=(.seq q113_3 (.seq (.cond (.tmp 12) .skip (.exit 0)) (.seq (.block 1 (.seq q113_4 (.seq q113_5 (.cond (.tmp 20) q113_6 .skip)))) q113_7)))
@[reducible] def q113_8:SCode:=.region [⟨some 25,.load 45 (.tmp 5),none⟩,
  ⟨none,.store 45 (.tmp 4) (.tmp 25),none⟩]
def s113:SCode:=(.seq q113_0 (.seq q113_1 (.seq (.seq q113_2 (.block 0 (.loop l113_0))) (.seq q113_8 .ret))))
theorem s113_strip:Yd (Zw Tryd.f113)=s113:=by kernel_rfl
theorem s113_ok:Yl 26 (Zw Tryd.f113)=true:=by kernel_rfl
/-! 114: planchet bets.every[planchet bets.Bet] -/
@[reducible] def q114_0:SCode:=.region [⟨some 3,.box 53 (.tmp 1),none⟩,
  ⟨some 4,.assign (.const (.bool false)),none⟩]
@[reducible] def q114_1:SCode:=.region [⟨some 5,.move (.tmp 0),none⟩,
  ⟨some 6,.makeFunc (.func 145) #[] #[.tmp 3],none⟩,
  ⟨some 7,.call { callee:=.value (.func 25),args:=#[.tmp 5,.tmp 6],argTypes:=#[46,53] },none⟩,
  ⟨some 8,.unOp .not 4 (.tmp 7),none⟩,
  ⟨some 4,.assign (.tmp 8),none⟩]
def s114:SCode:=(.seq q114_0 (.seq q114_1 .ret))
theorem s114_strip:Yd (Zw Tryd.f114)=s114:=by kernel_rfl
theorem s114_ok:Yl 9 (Zw Tryd.f114)=true:=by kernel_rfl
/-! 115: (planchet bets.table).agrees$1 -/
@[reducible] def q115_0:SCode:=.region [⟨some 2,.box 51 (.tmp 0),none⟩,
  ⟨some 3,.assign (.const (.bool false)),none⟩]
def q115_1:SCode:=.draw [⟨some 4,.load 122 (.tmp 1),none⟩,
    ⟨some 5,.fieldAddr 51 (.tmp 2) 0,none⟩,
    ⟨some 6,.load 3 (.tmp 5),none⟩,
    ⟨some 7,.call { callee:=.value (.func 113),args:=#[.tmp 4,.tmp 6],argTypes:=#[122,3] },none⟩,
    ⟨some 8,.fieldAddr 51 (.tmp 2) 1,none⟩,
    ⟨some 9,.load 3 (.tmp 8),none⟩,
    ⟨some 10,.call { callee:=.value (.func 116),args:=#[.tmp 9,.const (.int .i64 12)],argTypes:=#[3,3] },none⟩,
    ⟨some 11,.binOp .eql 45 (.tmp 7) (.tmp 10) 45,none⟩,
    ⟨some 3,.assign (.tmp 11),none⟩]
  [[],[],[1],[0,2],[],[4],[5,3],[3,6],[7,6,0,1,2,3,4,5,6,7]]
def s115:SCode:=(.seq q115_0 (.seq q115_1 .ret))
theorem s115_strip:Yd (Zw Tryd.f115)=s115:=by kernel_rfl
theorem s115_ok:Yl 12 (Zw Tryd.f115)=true:=by kernel_rfl
/-! 116: planchet bets.frac -/
@[reducible] def q116_0:SCode:=.region [⟨some 4,.alloc 45,none⟩]
@[reducible] def q116_1:SCode:=.region [⟨some 6,.move (.tmp 1),none⟩,
  ⟨some 7,.binOp .lss 3 (.tmp 6) (.const (.int .i64 0)) 3,none⟩]
@[reducible] def q116_2:SCode:=.region [⟨some 8,.move (.tmp 0),none⟩,
  ⟨some 9,.unOp .neg 3 (.tmp 8),none⟩,
  ⟨some 10,.move (.tmp 1),none⟩,
  ⟨some 11,.unOp .neg 3 (.tmp 10),none⟩,
  ⟨some 0,.assign (.tmp 9),none⟩,
  ⟨some 1,.assign (.tmp 11),none⟩]
@[reducible] def q116_3:SCode:=.region [⟨some 12,.move (.tmp 0),none⟩,
  ⟨some 13,.move (.tmp 1),none⟩,
  ⟨some 14,.call { callee:=.value (.func 75),args:=#[.tmp 12,.tmp 13],argTypes:=#[3,3] },none⟩,
  ⟨some 5,.assign (.tmp 14),none⟩]
def q116_4:SCode:=.draw [⟨some 15,.move (.tmp 0),none⟩,
    ⟨some 16,.move (.tmp 5),none⟩,
    ⟨some 17,.binOp .quo 3 (.tmp 15) (.tmp 16) 3,none⟩,
    ⟨some 18,.move (.tmp 1),none⟩,
    ⟨some 19,.move (.tmp 5),none⟩,
    ⟨some 20,.binOp .quo 3 (.tmp 18) (.tmp 19) 3,none⟩,
    ⟨some 21,.build 45 #[(0,.tmp 17),(1,.tmp 20)],none⟩,
    ⟨none,.store 45 (.tmp 4) (.tmp 21),none⟩]
  [[],[],[0,1],[],[],[3,4],[2,5],[6,0,1,2,3,4,5,6]]
def s116:SCode:=(.seq q116_0 (.seq (.seq q116_1 (.cond (.tmp 7) q116_2 .skip)) (.seq q116_3 (.seq q116_4 .ret))))
theorem s116_strip:Yd (Zw Tryd.f116)=s116:=by kernel_rfl
theorem s116_ok:Yl 22 (Zw Tryd.f116)=true:=by kernel_rfl
/-! 117: (planchet bets.table).corners$1 -/
@[reducible] def q117_0:SCode:=.region [⟨some 4,.box 45 (.tmp 1),none⟩,
  ⟨some 5,.assign (.const (.slice none 0 0)),none⟩]
@[reducible] def q117_1:SCode:=.region [⟨some 6,.assign (.const (.slice none 0 0)),none⟩]
@[reducible] def q117_2:SCode:=.region [⟨some 9,.load 27 (.tmp 2),none⟩,
  ⟨some 10,.call { callee:=.builtin .len,args:=#[.tmp 9],argTypes:=#[27] },none⟩,
  ⟨some 11,.move (.const (.int .i64 0)),none⟩]
@[reducible] def q117_3:SCode:=.region [⟨some 12,.binOp .lss 3 (.tmp 11) (.tmp 10) 3,none⟩]
@[reducible] def q117_4:SCode:=.region [⟨some 13,.indexAddr 27 (.tmp 9) (.tmp 11),none⟩,
  ⟨some 14,.load 3 (.tmp 13),none⟩,
  ⟨some 8,.assign (.tmp 14),none⟩]
@[reducible] def q117_5:SCode:=.region [⟨some 15,.move (.tmp 6),none⟩,
  ⟨some 16,.move (.tmp 0),none⟩,
  ⟨some 17,.move (.tmp 8),none⟩,
  ⟨some 18,.binOp .shr 3 (.tmp 16) (.tmp 17) 3,none⟩,
  ⟨some 19,.binOp .and 3 (.tmp 18) (.const (.int .i64 1)) 3,none⟩,
  ⟨some 20,.call { callee:=.value (.func 72),args:=#[.tmp 19],argTypes:=#[3] },none⟩,
  ⟨some 21,.buildSlice 43 1 #[(0,.tmp 20)],none⟩,
  ⟨some 22,.call { callee:=.builtin .append,args:=#[.tmp 15,.tmp 21],argTypes:=#[43,43] },none⟩,
  ⟨some 6,.assign (.tmp 22),none⟩]
@[reducible] def q117_6:SCode:=.region [⟨some 23,.binOp .add 3 (.tmp 11) (.const (.int .i64 1)) 3,none⟩,
  ⟨some 11,.move (.tmp 23),none⟩]
def l117_0:SCode:=(.seq q117_3 (.seq (.cond (.tmp 12) .skip (.exit 0)) (.seq (.block 1 (.seq q117_4 q117_5)) q117_6)))
@[reducible] def q117_7:SCode:=.region [⟨some 24,.move (.tmp 6),none⟩,
  ⟨some 25,.load 45 (.tmp 4),none⟩,
  ⟨some 26,.buildSlice 43 1 #[(0,.tmp 25)],none⟩,
  ⟨some 27,.call { callee:=.builtin .append,args:=#[.tmp 24,.tmp 26],argTypes:=#[43,43] },none⟩,
  ⟨some 5,.assign (.tmp 27),none⟩]
def s117:SCode:=(.seq q117_0 (.seq q117_1 (.seq (.seq q117_2 (.block 0 (.loop l117_0))) (.seq q117_7 .ret))))
theorem s117_strip:Yd (Zw Tryd.f117)=s117:=by kernel_rfl
theorem s117_ok:Yl 28 (Zw Tryd.f117)=true:=by kernel_rfl
/-! 118: slices.ContainsFunc[[]planchet api.Frac,planchet api.Frac] -/
@[reducible] def q118_0:SCode:=.region [⟨some 4,.assign (.const (.bool false)),none⟩]
@[reducible] def q118_1:SCode:=.region [⟨some 5,.move (.tmp 0),none⟩,
  ⟨some 6,.move (.tmp 1),none⟩,
  ⟨some 7,.call { callee:=.value (.func 146),args:=#[.tmp 5,.tmp 6],argTypes:=#[43,157] },none⟩,
  ⟨some 8,.binOp .geq 3 (.tmp 7) (.const (.int .i64 0)) 3,none⟩,
  ⟨some 4,.assign (.tmp 8),none⟩]
def s118:SCode:=(.seq q118_0 (.seq q118_1 .ret))
theorem s118_strip:Yd (Zw Tryd.f118)=s118:=by kernel_rfl
theorem s118_ok:Yl 9 (Zw Tryd.f118)=true:=by kernel_rfl
/-! 119: (planchet bets.table).corners$2 -/
@[reducible] def q119_0:SCode:=.region [⟨some 1,.box 45 (.tmp 0),none⟩,
  ⟨some 2,.assign (.const (.bool false)),none⟩]
@[reducible] def q119_1:SCode:=.region [⟨some 3,.fieldAddr 45 (.tmp 1) 0,none⟩,
  ⟨some 4,.load 3 (.tmp 3),none⟩,
  ⟨some 5,.binOp .lss 3 (.tmp 4) (.const (.int .i64 0)) 3,none⟩,
  ⟨some 2,.assign (.tmp 5),none⟩]
def s119:SCode:=(.seq q119_0 (.seq q119_1 .ret))
theorem s119_strip:Yd (Zw Tryd.f119)=s119:=by kernel_rfl
theorem s119_ok:Yl 6 (Zw Tryd.f119)=true:=by kernel_rfl
/-! 120: slices.Repeat[[]planchet api.Frac,planchet api.Frac] -/
@[reducible] def q120_0:SCode:=.region [⟨some 4,.assign (.const (.slice none 0 0)),none⟩]
@[reducible] def q120_1:SCode:=.region [⟨some 9,.move (.tmp 1),none⟩,
  ⟨some 10,.binOp .lss 3 (.tmp 9) (.const (.int .i64 0)) 3,none⟩]
@[reducible] def q120_2:SCode:=.region [⟨some 11,.makeInterface 9 (.const (.string { data:=#[99,97,110,110,111,116,32,98,101,32,110,101,103,97,116,105,118,101] })),none⟩,
  ⟨none,.panic (.tmp 11),none⟩]
@[reducible] def q120_3:SCode:=.region [⟨some 13,.move (.tmp 0),none⟩,
  ⟨some 14,.call { callee:=.builtin .len,args:=#[.tmp 13],argTypes:=#[43] },none⟩,
  ⟨some 15,.convert 3 57 (.tmp 14),none⟩,
  ⟨some 16,.move (.tmp 1),none⟩,
  ⟨some 17,.convert 3 57 (.tmp 16),none⟩,
  ⟨some 18,.call { callee:=.value (.func 147),args:=#[.tmp 15,.tmp 17],argTypes:=#[57,57] },none⟩,
  ⟨some 12,.move (.tmp 18),none⟩,
  ⟨some 19,.extract (.tmp 12) 0,none⟩,
  ⟨some 20,.extract (.tmp 12) 1,none⟩,
  ⟨some 5,.assign (.tmp 19),none⟩,
  ⟨some 6,.assign (.tmp 20),none⟩]
@[reducible] def q120_4:SCode:=.region [⟨some 21,.move (.tmp 5),none⟩,
  ⟨some 22,.binOp .gtr 57 (.tmp 21) (.const (.int .u64 0)) 57,none⟩,
  ⟨some 23,.move (.tmp 22),none⟩,
  ⟨some 24,.move (.tmp 6),some (23,false)⟩,
  ⟨some 25,.binOp .gtr 57 (.tmp 24) (.const (.int .u64 9223372036854775807)) 57,some (23,false)⟩,
  ⟨some 26,.pick (.tmp 23) (.const (.bool true)) (.tmp 25),none⟩]
@[reducible] def q120_5:SCode:=.region [⟨some 27,.makeInterface 9 (.const (.string { data:=#[116,104,101,32,114,101,115,117,108,116,32,111,102,32,40,108,101,110,40,120,41,32,42,32,99,111,117,110,116,41,32,111,118,101,114,102,108,111,119,115] })),none⟩,
  ⟨none,.panic (.tmp 27),none⟩]
@[reducible] def q120_6:SCode:=.region [⟨some 28,.move (.tmp 6),none⟩,
  ⟨some 29,.convert 57 3 (.tmp 28),none⟩,
  ⟨some 30,.makeSlice 43 (.tmp 29) (.tmp 29),none⟩,
  ⟨some 7,.assign (.tmp 30),none⟩]
@[reducible] def q120_7:SCode:=.region [⟨some 31,.move (.tmp 7),none⟩,
  ⟨some 32,.move (.tmp 0),none⟩,
  ⟨some 33,.call { callee:=.builtin .copy,args:=#[.tmp 31,.tmp 32],argTypes:=#[43,43] },none⟩,
  ⟨some 8,.assign (.tmp 33),none⟩]
@[reducible] def q120_8:SCode:=.region [⟨some 34,.move (.tmp 8),none⟩,
  ⟨some 35,.move (.tmp 7),none⟩,
  ⟨some 36,.call { callee:=.builtin .len,args:=#[.tmp 35],argTypes:=#[43] },none⟩,
  ⟨some 37,.binOp .lss 3 (.tmp 34) (.tmp 36) 3,none⟩]
def q120_9:SCode:=.draw [⟨some 38,.move (.tmp 8),none⟩,
    ⟨some 39,.move (.tmp 7),none⟩,
    ⟨some 40,.move (.tmp 8),none⟩,
    ⟨some 41,.slice 43 (.tmp 39) (some (.tmp 40)) none none,none⟩,
    ⟨some 42,.move (.tmp 7),none⟩,
    ⟨some 43,.move (.tmp 8),none⟩,
    ⟨some 44,.slice 43 (.tmp 42) none (some (.tmp 43)) none,none⟩,
    ⟨some 45,.call { callee:=.builtin .copy,args:=#[.tmp 41,.tmp 44],argTypes:=#[43,43] },none⟩,
    ⟨some 46,.binOp .add 3 (.tmp 38) (.tmp 45) 3,none⟩,
    ⟨some 8,.assign (.tmp 46),none⟩]
  [[],[],[],[1,2],[],[],[4,5],[3,6],[0,7],[8,7,0,1,2,3,4,5,6,7,8]]
def l120_0:SCode:=(.seq (.seq q120_8 (.cond (.tmp 37) .skip (.exit 0))) (.block 1 q120_9))
@[reducible] def q120_10:SCode:=.region [⟨some 47,.move (.tmp 7),none⟩,
  ⟨some 4,.assign (.tmp 47),none⟩]
def s120:SCode:=(.seq q120_0 (.seq (.seq q120_1 (.cond (.tmp 10) q120_2 .skip)) (.seq q120_3 (.seq (.seq q120_4 (.cond (.tmp 26) q120_5 .skip)) (.seq q120_6 (.seq q120_7 (.seq (.block 0 (.loop l120_0)) (.seq q120_10 .ret))))))))
theorem s120_strip:Yd (Zw Tryd.f120)=s120:=by kernel_rfl
theorem s120_ok:Yl 48 (Zw Tryd.f120)=true:=by kernel_rfl
/-! 121: slices.IndexFunc[planchet bets.equations,[]planchet api.Frac] -/
@[reducible] def q121_0:SCode:=.region [⟨some 4,.assign (.const (.int .i64 0)),none⟩]
@[reducible] def q121_1:SCode:=.region [⟨some 6,.move (.tmp 0),none⟩,
  ⟨some 7,.call { callee:=.builtin .len,args:=#[.tmp 6],argTypes:=#[125] },none⟩,
  ⟨some 8,.move (.const (.int .i64 0)),none⟩]
@[reducible] def q121_2:SCode:=.region [⟨some 9,.binOp .lss 3 (.tmp 8) (.tmp 7) 3,none⟩]
@[reducible] def q121_3:SCode:=.region [⟨some 10,.move (.tmp 8),none⟩,
  ⟨some 5,.assign (.tmp 10),none⟩]
@[reducible] def q121_4:SCode:=.region [⟨some 11,.move (.tmp 1),none⟩,
  ⟨some 12,.move (.tmp 0),none⟩,
  ⟨some 13,.move (.tmp 5),none⟩,
  ⟨some 14,.indexAddr 125 (.tmp 12) (.tmp 13),none⟩,
  ⟨some 15,.load 43 (.tmp 14),none⟩,
  ⟨some 16,.call { callee:=.value (.tmp 11),args:=#[.tmp 15],argTypes:=#[43] },none⟩]
@[reducible] def q121_5:SCode:=.region [⟨some 17,.move (.tmp 5),none⟩,
  ⟨some 4,.assign (.tmp 17),none⟩]
@[reducible] def q121_6:SCode:=.region [⟨some 18,.binOp .add 3 (.tmp 8) (.const (.int .i64 1)) 3,none⟩,
  ⟨some 8,.move (.tmp 18),none⟩]
def l121_0:SCode:=(.seq q121_2 (.seq (.cond (.tmp 9) .skip (.exit 0)) (.seq (.block 1 (.seq q121_3 (.seq q121_4 (.cond (.tmp 16) (.seq q121_5 .ret) .skip)))) q121_6)))
@[reducible] def q121_7:SCode:=.region [⟨some 4,.assign (.const (.int .i64 (-1))),none⟩]
def s121:SCode:=(.seq q121_0 (.seq (.seq q121_1 (.block 0 (.loop l121_0))) (.seq q121_7 .ret)))
theorem s121_strip:Yd (Zw Tryd.f121)=s121:=by kernel_rfl
theorem s121_ok:Yl 19 (Zw Tryd.f121)=true:=by kernel_rfl
/-! 122: (planchet bets.equations).solve$1 -/
@[reducible] def q122_0:SCode:=.region [⟨some 3,.assign (.const (.bool false)),none⟩]
@[reducible] def q122_1:SCode:=.region [⟨some 4,.move (.tmp 0),none⟩,
  ⟨some 5,.load 3 (.tmp 1),none⟩,
  ⟨some 6,.indexAddr 43 (.tmp 4) (.tmp 5),none⟩,
  ⟨some 7,.fieldAddr 45 (.tmp 6) 0,none⟩,
  ⟨some 8,.load 3 (.tmp 7),none⟩,
  ⟨some 9,.binOp .neq 3 (.tmp 8) (.const (.int .i64 0)) 3,none⟩,
  ⟨some 3,.assign (.tmp 9),none⟩]
def s122:SCode:=(.seq q122_0 (.seq q122_1 .ret))
theorem s122_strip:Yd (Zw Tryd.f122)=s122:=by kernel_rfl
theorem s122_ok:Yl 10 (Zw Tryd.f122)=true:=by kernel_rfl
/-! 123: planchet bets.over -/
@[reducible] def q123_0:SCode:=.region [⟨some 2,.box 45 (.tmp 0),none⟩,
  ⟨some 3,.box 45 (.tmp 1),none⟩,
  ⟨some 4,.alloc 45,none⟩]
def q123_1:SCode:=.draw [⟨some 5,.load 45 (.tmp 2),none⟩,
    ⟨some 6,.fieldAddr 45 (.tmp 3) 1,none⟩,
    ⟨some 7,.load 3 (.tmp 6),none⟩,
    ⟨some 8,.fieldAddr 45 (.tmp 3) 0,none⟩,
    ⟨some 9,.load 3 (.tmp 8),none⟩,
    ⟨some 10,.call { callee:=.value (.func 116),args:=#[.tmp 7,.tmp 9],argTypes:=#[3,3] },none⟩,
    ⟨some 11,.call { callee:=.value (.func 125),args:=#[.tmp 5,.tmp 10],argTypes:=#[45,45] },none⟩,
    ⟨none,.store 45 (.tmp 4) (.tmp 11),none⟩]
  [[],[],[1],[],[3],[2,4],[0,5,5],[6,6,0,1,2,3,4,5,6]]
def s123:SCode:=(.seq q123_0 (.seq q123_1 .ret))
theorem s123_strip:Yd (Zw Tryd.f123)=s123:=by kernel_rfl
theorem s123_ok:Yl 12 (Zw Tryd.f123)=true:=by kernel_rfl
/-! 124: planchet bets.plus -/
@[reducible] def q124_0:SCode:=.region [⟨some 3,.box 45 (.tmp 0),none⟩,
  ⟨some 5,.box 45 (.tmp 2),none⟩,
  ⟨some 6,.alloc 45,none⟩]
@[reducible] def q124_1:SCode:=.region [⟨some 8,.fieldAddr 45 (.tmp 3) 1,none⟩,
  ⟨some 9,.load 3 (.tmp 8),none⟩,
  ⟨some 10,.fieldAddr 45 (.tmp 5) 1,none⟩,
  ⟨some 11,.load 3 (.tmp 10),none⟩,
  ⟨some 12,.call { callee:=.value (.func 75),args:=#[.tmp 9,.tmp 11],argTypes:=#[3,3] },none⟩,
  ⟨some 7,.assign (.tmp 12),none⟩]
def q124_2:SCode:=.draw [⟨some 13,.fieldAddr 45 (.tmp 3) 0,none⟩,
    ⟨some 14,.load 3 (.tmp 13),none⟩,
    ⟨some 15,.fieldAddr 45 (.tmp 5) 1,none⟩,
    ⟨some 16,.load 3 (.tmp 15),none⟩,
    ⟨some 17,.move (.tmp 7),none⟩,
    ⟨some 18,.binOp .quo 3 (.tmp 16) (.tmp 17) 3,none⟩,
    ⟨some 19,.binOp .mul 3 (.tmp 14) (.tmp 18) 3,none⟩,
    ⟨some 20,.move (.tmp 1),none⟩,
    ⟨some 21,.fieldAddr 45 (.tmp 5) 0,none⟩,
    ⟨some 22,.load 3 (.tmp 21),none⟩,
    ⟨some 23,.binOp .mul 3 (.tmp 20) (.tmp 22) 3,none⟩,
    ⟨some 24,.fieldAddr 45 (.tmp 3) 1,none⟩,
    ⟨some 25,.load 3 (.tmp 24),none⟩,
    ⟨some 26,.move (.tmp 7),none⟩,
    ⟨some 27,.binOp .quo 3 (.tmp 25) (.tmp 26) 3,none⟩,
    ⟨some 28,.binOp .mul 3 (.tmp 23) (.tmp 27) 3,none⟩,
    ⟨some 29,.binOp .add 3 (.tmp 19) (.tmp 28) 3,none⟩,
    ⟨some 30,.fieldAddr 45 (.tmp 3) 1,none⟩,
    ⟨some 31,.load 3 (.tmp 30),none⟩,
    ⟨some 32,.move (.tmp 7),none⟩,
    ⟨some 33,.binOp .quo 3 (.tmp 31) (.tmp 32) 3,none⟩,
    ⟨some 34,.fieldAddr 45 (.tmp 5) 1,none⟩,
    ⟨some 35,.load 3 (.tmp 34),none⟩,
    ⟨some 36,.binOp .mul 3 (.tmp 33) (.tmp 35) 3,none⟩,
    ⟨some 37,.call { callee:=.value (.func 116),args:=#[.tmp 29,.tmp 36],argTypes:=#[3,3] },none⟩,
    ⟨none,.store 45 (.tmp 6) (.tmp 37),none⟩]
  [[],[0],[],[2],[],[3,4],[1,5],[],[],[8],[7,9],[],[11],[],[12,13],[10,14],[6,15],[],[17],[],[18,19],[],[21],[20,22],[16,23],[24,24,0,1,2,3,4,5,6,7,8,9,10,11,12,13,14,15,16,17,18,19,20,21,22,23,24]]
def s124:SCode:=(.seq q124_0 (.seq q124_1 (.seq q124_2 .ret)))
theorem s124_strip:Yd (Zw Tryd.f124)=s124:=by kernel_rfl
theorem s124_ok:Yl 38 (Zw Tryd.f124)=true:=by kernel_rfl
/-! 125: planchet bets.times -/
@[reducible] def q125_0:SCode:=.region [⟨some 2,.box 45 (.tmp 0),none⟩,
  ⟨some 3,.box 45 (.tmp 1),none⟩,
  ⟨some 4,.alloc 45,none⟩]
def q125_1:SCode:=.draw [⟨some 7,.fieldAddr 45 (.tmp 2) 0,none⟩,
    ⟨some 8,.load 3 (.tmp 7),none⟩,
    ⟨some 9,.fieldAddr 45 (.tmp 3) 1,none⟩,
    ⟨some 10,.load 3 (.tmp 9),none⟩,
    ⟨some 11,.call { callee:=.value (.func 116),args:=#[.tmp 8,.tmp 10],argTypes:=#[3,3] },none⟩,
    ⟨some 12,.fieldAddr 45 (.tmp 3) 0,none⟩,
    ⟨some 13,.load 3 (.tmp 12),none⟩,
    ⟨some 14,.fieldAddr 45 (.tmp 2) 1,none⟩,
    ⟨some 15,.load 3 (.tmp 14),none⟩,
    ⟨some 16,.call { callee:=.value (.func 116),args:=#[.tmp 13,.tmp 15],argTypes:=#[3,3] },none⟩,
    ⟨some 5,.alloc 45,none⟩,
    ⟨some 6,.alloc 45,none⟩,
    ⟨none,.store 45 (.tmp 5) (.tmp 11),none⟩,
    ⟨none,.store 45 (.tmp 6) (.tmp 16),none⟩]
  [[],[0],[],[2],[1,3],[],[5],[],[7],[6,8,4],[],[],[10,4,9,0,1,2,3,4,10,11],[11,9,12,0,1,2,3,4,5,6,7,8,9,10,11,12]]
@[reducible] def q125_2:SCode:=.region [⟨some 17,.fieldAddr 45 (.tmp 5) 0,none⟩,
  ⟨some 18,.load 3 (.tmp 17),none⟩,
  ⟨some 19,.fieldAddr 45 (.tmp 6) 0,none⟩,
  ⟨some 20,.load 3 (.tmp 19),none⟩,
  ⟨some 21,.binOp .mul 3 (.tmp 18) (.tmp 20) 3,none⟩,
  ⟨some 22,.fieldAddr 45 (.tmp 5) 1,none⟩,
  ⟨some 23,.load 3 (.tmp 22),none⟩,
  ⟨some 24,.fieldAddr 45 (.tmp 6) 1,none⟩,
  ⟨some 25,.load 3 (.tmp 24),none⟩,
  ⟨some 26,.binOp .mul 3 (.tmp 23) (.tmp 25) 3,none⟩,
  ⟨some 27,.build 45 #[(0,.tmp 21),(1,.tmp 26)],none⟩,
  ⟨none,.store 45 (.tmp 4) (.tmp 27),none⟩]
def s125:SCode:=(.seq q125_0 (.seq q125_1 (.seq q125_2 .ret)))
theorem s125_strip:Yd (Zw Tryd.f125)=s125:=by kernel_rfl
theorem s125_ok:Yl 28 (Zw Tryd.f125)=true:=by kernel_rfl
/-! 144: planchet bets.lowest -/
@[reducible] def q144_0:SCode:=.region [⟨some 2,.box 45 (.tmp 0),none⟩,
  ⟨some 4,.assign (.const (.bool false)),none⟩]
@[reducible] def q144_1:SCode:=.region [⟨some 5,.fieldAddr 45 (.tmp 2) 1,none⟩,
  ⟨some 6,.load 3 (.tmp 5),none⟩,
  ⟨some 7,.binOp .geq 3 (.tmp 6) (.const (.int .i64 1)) 3,none⟩,
  ⟨some 8,.move (.tmp 7),none⟩,
  ⟨some 9,.fieldAddr 45 (.tmp 2) 1,some (8,true)⟩,
  ⟨some 10,.load 3 (.tmp 9),some (8,true)⟩,
  ⟨some 11,.move (.tmp 1),some (8,true)⟩,
  ⟨some 12,.binOp .leq 3 (.tmp 10) (.tmp 11) 3,some (8,true)⟩,
  ⟨some 13,.pick (.tmp 8) (.tmp 12) (.const (.bool false)),none⟩,
  ⟨some 14,.move (.tmp 13),none⟩,
  ⟨some 15,.fieldAddr 45 (.tmp 2) 0,some (14,true)⟩,
  ⟨some 16,.load 3 (.tmp 15),some (14,true)⟩,
  ⟨some 17,.fieldAddr 45 (.tmp 2) 1,some (14,true)⟩,
  ⟨some 18,.load 3 (.tmp 17),some (14,true)⟩,
  ⟨some 19,.call { callee:=.value (.func 75),args:=#[.tmp 16,.tmp 18],argTypes:=#[3,3] },some (14,true)⟩,
  ⟨some 20,.binOp .eql 3 (.tmp 19) (.const (.int .i64 1)) 3,some (14,true)⟩,
  ⟨some 21,.pick (.tmp 14) (.tmp 20) (.const (.bool false)),none⟩,
  ⟨some 4,.assign (.tmp 21),none⟩]
def s144:SCode:=(.seq q144_0 (.seq q144_1 .ret))
theorem s144_strip:Yd (Zw Tryd.f144)=s144:=by kernel_rfl
theorem s144_ok:Yl 22 (Zw Tryd.f144)=true:=by kernel_rfl
/-! 145: planchet bets.every[planchet bets.Bet]$1 -/
@[reducible] def q145_0:SCode:=.region [⟨some 2,.box 51 (.tmp 0),none⟩,
  ⟨some 3,.assign (.const (.bool false)),none⟩]
@[reducible] def q145_1:SCode:=.region [⟨some 4,.load 53 (.tmp 1),none⟩,
  ⟨some 5,.load 51 (.tmp 2),none⟩,
  ⟨some 6,.call { callee:=.value (.tmp 4),args:=#[.tmp 5],argTypes:=#[51] },none⟩,
  ⟨some 7,.unOp .not 4 (.tmp 6),none⟩,
  ⟨some 3,.assign (.tmp 7),none⟩]
def s145:SCode:=(.seq q145_0 (.seq q145_1 .ret))
theorem s145_strip:Yd (Zw Tryd.f145)=s145:=by kernel_rfl
theorem s145_ok:Yl 8 (Zw Tryd.f145)=true:=by kernel_rfl
/-! 146: slices.IndexFunc[[]planchet api.Frac,planchet api.Frac] -/
@[reducible] def q146_0:SCode:=.region [⟨some 4,.assign (.const (.int .i64 0)),none⟩]
@[reducible] def q146_1:SCode:=.region [⟨some 6,.move (.tmp 0),none⟩,
  ⟨some 7,.call { callee:=.builtin .len,args:=#[.tmp 6],argTypes:=#[43] },none⟩,
  ⟨some 8,.move (.const (.int .i64 0)),none⟩]
@[reducible] def q146_2:SCode:=.region [⟨some 9,.binOp .lss 3 (.tmp 8) (.tmp 7) 3,none⟩]
@[reducible] def q146_3:SCode:=.region [⟨some 10,.move (.tmp 8),none⟩,
  ⟨some 5,.assign (.tmp 10),none⟩]
@[reducible] def q146_4:SCode:=.region [⟨some 11,.move (.tmp 1),none⟩,
  ⟨some 12,.move (.tmp 0),none⟩,
  ⟨some 13,.move (.tmp 5),none⟩,
  ⟨some 14,.indexAddr 43 (.tmp 12) (.tmp 13),none⟩,
  ⟨some 15,.load 45 (.tmp 14),none⟩,
  ⟨some 16,.call { callee:=.value (.tmp 11),args:=#[.tmp 15],argTypes:=#[45] },none⟩]
@[reducible] def q146_5:SCode:=.region [⟨some 17,.move (.tmp 5),none⟩,
  ⟨some 4,.assign (.tmp 17),none⟩]
@[reducible] def q146_6:SCode:=.region [⟨some 18,.binOp .add 3 (.tmp 8) (.const (.int .i64 1)) 3,none⟩,
  ⟨some 8,.move (.tmp 18),none⟩]
def l146_0:SCode:=(.seq q146_2 (.seq (.cond (.tmp 9) .skip (.exit 0)) (.seq (.block 1 (.seq q146_3 (.seq q146_4 (.cond (.tmp 16) (.seq q146_5 .ret) .skip)))) q146_6)))
@[reducible] def q146_7:SCode:=.region [⟨some 4,.assign (.const (.int .i64 (-1))),none⟩]
def s146:SCode:=(.seq q146_0 (.seq (.seq q146_1 (.block 0 (.loop l146_0))) (.seq q146_7 .ret)))
theorem s146_strip:Yd (Zw Tryd.f146)=s146:=by kernel_rfl
theorem s146_ok:Yl 19 (Zw Tryd.f146)=true:=by kernel_rfl
/-! 147: math bits.Mul -/
@[reducible] def q147_0:SCode:=.region [⟨some 4,.assign (.const (.int .u64 0)),none⟩,
  ⟨some 5,.assign (.const (.int .u64 0)),none⟩]
@[reducible] def q147_1:SCode:=.region [⟨some 11,.move (.tmp 0),none⟩,
  ⟨some 12,.convert 57 170 (.tmp 11),none⟩,
  ⟨some 13,.move (.tmp 1),none⟩,
  ⟨some 14,.convert 57 170 (.tmp 13),none⟩,
  ⟨some 15,.call { callee:=.value (.func 165),args:=#[.tmp 12,.tmp 14],argTypes:=#[170,170] },none⟩,
  ⟨some 10,.move (.tmp 15),none⟩,
  ⟨some 16,.extract (.tmp 10) 0,none⟩,
  ⟨some 17,.extract (.tmp 10) 1,none⟩,
  ⟨some 6,.assign (.tmp 16),none⟩,
  ⟨some 7,.assign (.tmp 17),none⟩]
@[reducible] def q147_2:SCode:=.region [⟨some 18,.move (.tmp 6),none⟩,
  ⟨some 19,.convert 170 57 (.tmp 18),none⟩,
  ⟨some 20,.move (.tmp 7),none⟩,
  ⟨some 21,.convert 170 57 (.tmp 20),none⟩,
  ⟨some 4,.assign (.tmp 19),none⟩,
  ⟨some 5,.assign (.tmp 21),none⟩]
@[reducible] def q147_3:SCode:=.region [⟨some 23,.move (.tmp 0),none⟩,
  ⟨some 24,.move (.tmp 1),none⟩,
  ⟨some 25,.call { callee:=.value (.func 166),args:=#[.tmp 23,.tmp 24],argTypes:=#[88,88] },none⟩,
  ⟨some 22,.move (.tmp 25),none⟩,
  ⟨some 26,.extract (.tmp 22) 0,none⟩,
  ⟨some 27,.extract (.tmp 22) 1,none⟩,
  ⟨some 8,.assign (.tmp 26),none⟩,
  ⟨some 9,.assign (.tmp 27),none⟩]
@[reducible] def q147_4:SCode:=.region [⟨some 28,.move (.tmp 8),none⟩,
  ⟨some 29,.move (.tmp 9),none⟩,
  ⟨some 4,.assign (.tmp 28),none⟩,
  ⟨some 5,.assign (.tmp 29),none⟩]
def s147:SCode:=(.seq q147_0 (.seq (.cond (.const (.bool false)) (.seq q147_1 (.seq q147_2 .ret)) .skip) (.seq q147_3 (.seq q147_4 .ret))))
theorem s147_strip:Yd (Zw Tryd.f147)=s147:=by kernel_rfl
theorem s147_ok:Yl 30 (Zw Tryd.f147)=true:=by kernel_rfl
/-! 166: math bits.Mul64 -/
@[reducible] def q166_0:SCode:=.region [⟨some 4,.assign (.const (.int .u64 0)),none⟩,
  ⟨some 5,.assign (.const (.int .u64 0)),none⟩]
@[reducible] def q166_1:SCode:=.region [⟨some 14,.move (.tmp 0),none⟩,
  ⟨some 15,.binOp .and 88 (.tmp 14) (.const (.int .u64 4294967295)) 88,none⟩,
  ⟨some 6,.assign (.tmp 15),none⟩]
@[reducible] def q166_2:SCode:=.region [⟨some 16,.move (.tmp 0),none⟩,
  ⟨some 17,.binOp .shr 88 (.tmp 16) (.const (.int .u64 32)) 57,none⟩,
  ⟨some 7,.assign (.tmp 17),none⟩]
@[reducible] def q166_3:SCode:=.region [⟨some 18,.move (.tmp 1),none⟩,
  ⟨some 19,.binOp .and 88 (.tmp 18) (.const (.int .u64 4294967295)) 88,none⟩,
  ⟨some 8,.assign (.tmp 19),none⟩]
@[reducible] def q166_4:SCode:=.region [⟨some 20,.move (.tmp 1),none⟩,
  ⟨some 21,.binOp .shr 88 (.tmp 20) (.const (.int .u64 32)) 57,none⟩,
  ⟨some 9,.assign (.tmp 21),none⟩]
@[reducible] def q166_5:SCode:=.region [⟨some 22,.move (.tmp 6),none⟩,
  ⟨some 23,.move (.tmp 8),none⟩,
  ⟨some 24,.binOp .mul 88 (.tmp 22) (.tmp 23) 88,none⟩,
  ⟨some 10,.assign (.tmp 24),none⟩]
@[reducible] def q166_6:SCode:=.region [⟨some 25,.move (.tmp 7),none⟩,
  ⟨some 26,.move (.tmp 8),none⟩,
  ⟨some 27,.binOp .mul 88 (.tmp 25) (.tmp 26) 88,none⟩,
  ⟨some 28,.move (.tmp 10),none⟩,
  ⟨some 29,.binOp .shr 88 (.tmp 28) (.const (.int .u64 32)) 57,none⟩,
  ⟨some 30,.binOp .add 88 (.tmp 27) (.tmp 29) 88,none⟩,
  ⟨some 11,.assign (.tmp 30),none⟩]
@[reducible] def q166_7:SCode:=.region [⟨some 31,.move (.tmp 11),none⟩,
  ⟨some 32,.binOp .and 88 (.tmp 31) (.const (.int .u64 4294967295)) 88,none⟩,
  ⟨some 12,.assign (.tmp 32),none⟩]
@[reducible] def q166_8:SCode:=.region [⟨some 33,.move (.tmp 11),none⟩,
  ⟨some 34,.binOp .shr 88 (.tmp 33) (.const (.int .u64 32)) 57,none⟩,
  ⟨some 13,.assign (.tmp 34),none⟩]
@[reducible] def q166_9:SCode:=.region [⟨some 35,.move (.tmp 12),none⟩,
  ⟨some 36,.move (.tmp 6),none⟩,
  ⟨some 37,.move (.tmp 9),none⟩,
  ⟨some 38,.binOp .mul 88 (.tmp 36) (.tmp 37) 88,none⟩,
  ⟨some 39,.binOp .add 88 (.tmp 35) (.tmp 38) 88,none⟩,
  ⟨some 12,.assign (.tmp 39),none⟩]
@[reducible] def q166_10:SCode:=.region [⟨some 40,.move (.tmp 7),none⟩,
  ⟨some 41,.move (.tmp 9),none⟩,
  ⟨some 42,.binOp .mul 88 (.tmp 40) (.tmp 41) 88,none⟩,
  ⟨some 43,.move (.tmp 13),none⟩,
  ⟨some 44,.binOp .add 88 (.tmp 42) (.tmp 43) 88,none⟩,
  ⟨some 45,.move (.tmp 12),none⟩,
  ⟨some 46,.binOp .shr 88 (.tmp 45) (.const (.int .u64 32)) 57,none⟩,
  ⟨some 47,.binOp .add 88 (.tmp 44) (.tmp 46) 88,none⟩,
  ⟨some 4,.assign (.tmp 47),none⟩]
@[reducible] def q166_11:SCode:=.region [⟨some 48,.move (.tmp 0),none⟩,
  ⟨some 49,.move (.tmp 1),none⟩,
  ⟨some 50,.binOp .mul 88 (.tmp 48) (.tmp 49) 88,none⟩,
  ⟨some 5,.assign (.tmp 50),none⟩]
def s166:SCode:=(.seq q166_0 (.seq q166_1 (.seq q166_2 (.seq q166_3 (.seq q166_4 (.seq q166_5 (.seq q166_6 (.seq q166_7 (.seq q166_8 (.seq q166_9 (.seq q166_10 (.seq q166_11 .ret))))))))))))
theorem s166_strip:Yd (Zw Tryd.f166)=s166:=by kernel_rfl
theorem s166_ok:Yl 51 (Zw Tryd.f166)=true:=by kernel_rfl
end Go.Proofs.Tryd.Am
namespace Go.Proofs.Tryd.Am
open Go.Am
set_option maxRecDepth 100000
theorem app_120_120:appT Tryd.prog 120 120=some (122,1,24):=by kernel_rfl
theorem app_125_125:appT Tryd.prog 125 125=some (43,1,24):=by kernel_rfl
theorem app_22_22:appT Tryd.prog 22 22=some (27,1,24):=by kernel_rfl
theorem app_27_27:appT Tryd.prog 27 27=some (3,1,8):=by kernel_rfl
theorem app_43_43:appT Tryd.prog 43 43=some (45,2,16):=by kernel_rfl
theorem app_46_46:appT Tryd.prog 46 46=some (51,2,16):=by kernel_rfl
theorem app_66_66:appT Tryd.prog 66 66=some (163,3,24):=by kernel_rfl
theorem el_120:elemOf' Tryd.prog 120=some 122:=by kernel_rfl
theorem el_122:elemOf' Tryd.prog 122=some 45:=by kernel_rfl
theorem el_125:elemOf' Tryd.prog 125=some 43:=by kernel_rfl
theorem el_131:elemOf' Tryd.prog 131=some 3:=by kernel_rfl
theorem el_22:elemOf' Tryd.prog 22=some 27:=by kernel_rfl
theorem Vy:elemOf' Tryd.prog 27=some 3:=by kernel_rfl
theorem el_43:elemOf' Tryd.prog 43=some 45:=by kernel_rfl
theorem el_46:elemOf' Tryd.prog 46=some 51:=by kernel_rfl
theorem el_66:elemOf' Tryd.prog 66=some 163:=by kernel_rfl
theorem esz_117:esz Tryd.prog 117=some 2:=by kernel_rfl
theorem esz_122:esz Tryd.prog 122=some 1:=by kernel_rfl
theorem esz_131:esz Tryd.prog 131=some 1:=by kernel_rfl
theorem esz_163:esz Tryd.prog 163=some 3:=by kernel_rfl
theorem esz_27:esz Tryd.prog 27=some 1:=by kernel_rfl
theorem Wm:esz Tryd.prog 3=some 1:=by kernel_rfl
theorem esz_43:esz Tryd.prog 43=some 1:=by kernel_rfl
theorem Ub:esz Tryd.prog 45=some 2:=by kernel_rfl
theorem esz_46:esz Tryd.prog 46=some 1:=by kernel_rfl
theorem esz_51:esz Tryd.prog 51=some 2:=by kernel_rfl
theorem esz_53:esz Tryd.prog 53=some 1:=by kernel_rfl
theorem esz_61:esz Tryd.prog 61=some 1:=by kernel_rfl
theorem esz_95:esz Tryd.prog 95=some 6:=by kernel_rfl
theorem esz_97:esz Tryd.prog 97=some 7:=by kernel_rfl
theorem fld_117_0:fldOf Tryd.prog 117 0=some (3,0):=by kernel_rfl
theorem fld_117_1:fldOf Tryd.prog 117 1=some (46,1):=by kernel_rfl
theorem fld_45_0:fldOf Tryd.prog 45 0=some (3,0):=by kernel_rfl
theorem fld_45_1:fldOf Tryd.prog 45 1=some (3,1):=by kernel_rfl
theorem fld_51_0:fldOf Tryd.prog 51 0=some (3,0):=by kernel_rfl
theorem fld_51_1:fldOf Tryd.prog 51 1=some (3,1):=by kernel_rfl
theorem fld_61_0:fldOf Tryd.prog 61 0=some (27,0):=by kernel_rfl
theorem fld_97_0:fldOf Tryd.prog 97 0=some (3,0):=by kernel_rfl
theorem Ua:fldOf Tryd.prog 97 1=some (95,1):=by kernel_rfl
theorem info_3:(Tryd.prog.info? 3).map (fun i=>(i.size,i.bytes))=some (1,8):=by kernel_rfl
theorem info_45:(Tryd.prog.info? 45).map (fun i=>(i.size,i.bytes))=some (2,16):=by kernel_rfl
theorem isl_120:isSl Tryd.prog 120=true:=by kernel_rfl
theorem isl_122:isSl Tryd.prog 122=true:=by kernel_rfl
theorem isl_125:isSl Tryd.prog 125=true:=by kernel_rfl
theorem isl_131:isSl Tryd.prog 131=true:=by kernel_rfl
theorem isl_22:isSl Tryd.prog 22=true:=by kernel_rfl
theorem isl_27:isSl Tryd.prog 27=true:=by kernel_rfl
theorem isl_43:isSl Tryd.prog 43=true:=by kernel_rfl
theorem isl_46:isSl Tryd.prog 46=true:=by kernel_rfl
theorem isl_66:isSl Tryd.prog 66=true:=by kernel_rfl
theorem pl_117_0:Vr Tryd.prog 117 0=some (0,1):=by kernel_rfl
theorem pl_117_1:Vr Tryd.prog 117 1=some (1,1):=by kernel_rfl
theorem pl_163_0:Vr Tryd.prog 163 0=some (0,1):=by kernel_rfl
theorem pl_163_1:Vr Tryd.prog 163 1=some (1,1):=by kernel_rfl
theorem pl_163_2:Vr Tryd.prog 163 2=some (2,1):=by kernel_rfl
theorem pl_45_0:Vr Tryd.prog 45 0=some (0,1):=by kernel_rfl
theorem pl_45_1:Vr Tryd.prog 45 1=some (1,1):=by kernel_rfl
theorem pl_51_0:Vr Tryd.prog 51 0=some (0,1):=by kernel_rfl
theorem pl_51_1:Vr Tryd.prog 51 1=some (1,1):=by kernel_rfl
theorem pl_61_0:Vr Tryd.prog 61 0=some (0,1):=by kernel_rfl
theorem pl_97_0:Vr Tryd.prog 97 0=some (0,1):=by kernel_rfl
theorem pl_97_1:Vr Tryd.prog 97 1=some (1,6):=by kernel_rfl
theorem shp_117:shp Tryd.prog 117=some (some 2):=by kernel_rfl
theorem shp_122:shp Tryd.prog 122=some none:=by kernel_rfl
theorem shp_131:shp Tryd.prog 131=some none:=by kernel_rfl
theorem shp_22:shp Tryd.prog 22=some none:=by kernel_rfl
theorem Xy:shp Tryd.prog 27=some none:=by kernel_rfl
theorem Yy:shp Tryd.prog 3=some none:=by kernel_rfl
theorem shp_4:shp Tryd.prog 4=some none:=by kernel_rfl
theorem shp_43:shp Tryd.prog 43=some none:=by kernel_rfl
theorem Je:shp Tryd.prog 45=some (some 2):=by kernel_rfl
theorem shp_46:shp Tryd.prog 46=some none:=by kernel_rfl
theorem shp_51:shp Tryd.prog 51=some (some 2):=by kernel_rfl
theorem shp_53:shp Tryd.prog 53=some none:=by kernel_rfl
theorem shp_61:shp Tryd.prog 61=some (some 1):=by kernel_rfl
theorem shp_66:shp Tryd.prog 66=some none:=by kernel_rfl
theorem shp_72:shp Tryd.prog 72=some none:=by kernel_rfl
theorem shp_95:shp Tryd.prog 95=some (some 6):=by kernel_rfl
theorem Xx:shp Tryd.prog 97=some (some 7):=by kernel_rfl
theorem und_120:Program.underlying Tryd.prog 120=some (.slice 122):=by kernel_rfl
theorem und_122:Program.underlying Tryd.prog 122=some (.slice 45):=by kernel_rfl
theorem und_125:Program.underlying Tryd.prog 125=some (.slice 43):=by kernel_rfl
theorem und_131:Program.underlying Tryd.prog 131=some (.slice 3):=by kernel_rfl
theorem und_135:Program.underlying Tryd.prog 135=some (.map 3 3):=by kernel_rfl
theorem und_163:Program.underlying Tryd.prog 163=some (.array 3 3):=by kernel_rfl
theorem und_170:Program.underlying Tryd.prog 170=some (.int .u32):=by kernel_rfl
theorem und_22:Program.underlying Tryd.prog 22=some (.slice 27):=by kernel_rfl
theorem und_27:Program.underlying Tryd.prog 27=some (.slice 3):=by kernel_rfl
theorem und_3:Program.underlying Tryd.prog 3=some (.int .i64):=by kernel_rfl
theorem und_4:Program.underlying Tryd.prog 4=some (.bool):=by kernel_rfl
theorem und_43:Program.underlying Tryd.prog 43=some (.slice 45):=by kernel_rfl
theorem und_46:Program.underlying Tryd.prog 46=some (.slice 51):=by kernel_rfl
theorem und_5:Program.underlying Tryd.prog 5=some (.int .u8):=by kernel_rfl
theorem und_57:Program.underlying Tryd.prog 57=some (.int .u64):=by kernel_rfl
theorem und_88:Program.underlying Tryd.prog 88=some (.int .u64):=by kernel_rfl
theorem und_9:Program.underlying Tryd.prog 9=some (.string):=by kernel_rfl
theorem und_95:Program.underlying Tryd.prog 95=some (.array 6 3):=by kernel_rfl
theorem zero_117:Wn Tryd.prog 117=some [.int .i64 0,.slice none 0 0]:=by kernel_rfl
theorem zero_122:Wn Tryd.prog 122=some [.slice none 0 0]:=by kernel_rfl
theorem zero_163:Wn Tryd.prog 163=some [.int .i64 0,.int .i64 0,.int .i64 0]:=by kernel_rfl
theorem zero_22:Wn Tryd.prog 22=some [.slice none 0 0]:=by kernel_rfl
theorem zero_27:Wn Tryd.prog 27=some [.slice none 0 0]:=by kernel_rfl
theorem zero_3:Wn Tryd.prog 3=some [.int .i64 0]:=by kernel_rfl
theorem zero_4:Wn Tryd.prog 4=some [.bool false]:=by kernel_rfl
theorem zero_43:Wn Tryd.prog 43=some [.slice none 0 0]:=by kernel_rfl
theorem zero_45:Wn Tryd.prog 45=some [.int .i64 0,.int .i64 0]:=by kernel_rfl
theorem zero_51:Wn Tryd.prog 51=some [.int .i64 0,.int .i64 0]:=by kernel_rfl
theorem zero_61:Wn Tryd.prog 61=some [.slice none 0 0]:=by kernel_rfl
theorem zero_66:Wn Tryd.prog 66=some [.slice none 0 0]:=by kernel_rfl
theorem zero_72:Wn Tryd.prog 72=some [.nilFunc]:=by kernel_rfl
theorem zero_97:Wn Tryd.prog 97=some [.int .i64 0,.int .i64 0,.int .i64 0,.int .i64 0,.int .i64 0,.int .i64 0,.int .i64 0]:=by kernel_rfl
theorem zv_3:zeroV Tryd.prog 3=some (.int .i64 0):=by kernel_rfl
def tyf:=(And.intro (And.intro (And.intro (And.intro (And.intro (And.intro (And.intro @app_120_120 @app_125_125) (And.intro @app_22_22 @app_27_27)) (And.intro (And.intro @app_43_43 @app_46_46) @app_66_66)) (And.intro (And.intro (And.intro @el_120 @el_122) (And.intro @el_125 @el_131)) (And.intro (And.intro @el_22 @Vy) @el_43))) (And.intro (And.intro (And.intro (And.intro @el_46 @el_66) (And.intro @esz_117 @esz_122)) (And.intro (And.intro @esz_131 @esz_163) @esz_27)) (And.intro (And.intro (And.intro @Wm @esz_43) (And.intro @Ub @esz_46)) (And.intro (And.intro @esz_51 @esz_53) @esz_61)))) (And.intro (And.intro (And.intro (And.intro (And.intro @esz_95 @esz_97) (And.intro @fld_117_0 @fld_117_1)) (And.intro (And.intro @fld_45_0 @fld_45_1) @fld_51_0)) (And.intro (And.intro (And.intro @fld_51_1 @fld_61_0) (And.intro @fld_97_0 @Ua)) (And.intro (And.intro @info_3 @info_45) @isl_120))) (And.intro (And.intro (And.intro (And.intro @isl_122 @isl_125) (And.intro @isl_131 @isl_22)) (And.intro (And.intro @isl_27 @isl_43) @isl_46)) (And.intro (And.intro (And.intro @isl_66 @pl_117_0) (And.intro @pl_117_1 @pl_163_0)) (And.intro (And.intro @pl_163_1 @pl_163_2) @pl_45_0))))) (And.intro (And.intro (And.intro (And.intro (And.intro (And.intro @pl_45_1 @pl_51_0) (And.intro @pl_51_1 @pl_61_0)) (And.intro (And.intro @pl_97_0 @pl_97_1) @shp_117)) (And.intro (And.intro (And.intro @shp_122 @shp_131) (And.intro @shp_22 @Xy)) (And.intro (And.intro @Yy @shp_4) @shp_43))) (And.intro (And.intro (And.intro (And.intro @Je @shp_46) (And.intro @shp_51 @shp_53)) (And.intro (And.intro @shp_61 @shp_66) @shp_72)) (And.intro (And.intro (And.intro @shp_95 @Xx) (And.intro @und_120 @und_122)) (And.intro (And.intro @und_125 @und_131) @und_135)))) (And.intro (And.intro (And.intro (And.intro (And.intro @und_163 @und_170) (And.intro @und_22 @und_27)) (And.intro (And.intro @und_3 @und_4) @und_43)) (And.intro (And.intro (And.intro @und_46 @und_5) (And.intro @und_57 @und_88)) (And.intro (And.intro @und_9 @und_95) @zero_117))) (And.intro (And.intro (And.intro (And.intro @zero_122 @zero_163) (And.intro @zero_22 @zero_27)) (And.intro (And.intro @zero_3 @zero_4) @zero_43)) (And.intro (And.intro (And.intro @zero_45 @zero_51) (And.intro @zero_61 @zero_66)) (And.intro (And.intro @zero_72 @zero_97) @zv_3))))))
end Go.Proofs.Tryd.Am
namespace Bq
theorem mul_den (q:Rat):q*(q.den:Rat)=(q.num:Rat):=by
 have h:=Rat.num_divInt_den q
 rw [Rat.divInt_eq_div] at h
 have h0:(q.den:Rat)≠0:=by
  have:=q.den_nz
  intro hc
  exact this (by exact_mod_cast hc)
 conv=>lhs; lhs; rw [← h]
 rw [Rat.intCast_natCast]
 exact Rat.div_mul_cancel h0
theorem eq_of_mul {a b c:Rat} (hc:c≠0) (h:a*c=b*c):a=b:=by
 rw [← Rat.mul_div_cancel (a:=a) hc,h,Rat.mul_div_cancel hc]
theorem divInt_of_mul {x y:Int} {q:Rat} (hy:y≠0) (h:q*(y:Rat)=(x:Rat)):Rat.divInt x y=q:=by
 have h0:(y:Rat)≠0:=fun hc=>hy (by exact_mod_cast hc)
 rw [Rat.divInt_eq_div,← h]
 exact Rat.mul_div_cancel h0
theorem divInt_mul {x y:Int} (hy:y≠0):Rat.divInt x y*(y:Rat)=(x:Rat):=by
 have h0:(y:Rat)≠0:=fun hc=>hy (by exact_mod_cast hc)
 rw [Rat.divInt_eq_div]
 exact Rat.div_mul_cancel h0
def Rp (N:Nat) (x:Int) (q:Rat):Prop:=0<N∧q*(N:Rat)=(x:Rat)
section
variable {N M:Nat} {x y k:Int} {a b q:Rat}
theorem Rp.pos (h:Rp N x q):0<N:=h.1
theorem Rp.int (h:Rp N x q):q.num*N=x*q.den:=by
 have h1:=h.2
 have h2:=mul_den q
 have:(q.num:Rat)*(N:Rat)=(x:Rat)*(q.den:Rat):=by grind
 exact_mod_cast this
theorem Rp.dvd (h:Rp N x q):q.den∣N:=by
 have h1:=h.int
 have h2:(q.den:Int)∣q.num*(N:Int):=⟨x,by rw [h1,Int.mul_comm]⟩
 have h3:q.den∣q.num.natAbs*N:=by
  have:=Int.natAbs_dvd_natAbs.2 h2
  simpa [Int.natAbs_mul] using this
 exact Nat.Coprime.dvd_of_dvd_mul_left (Nat.Coprime.symm q.reduced) h3
theorem Rp.num (h:Rp N x q):q.num*((N / q.den:Nat):Int)=x:=by
 obtain ⟨t,ht⟩:=h.dvd
 have hd:0<q.den:=q.den_pos
 have h1:=h.int
 have e:N / q.den=t:=by rw [ht]; exact Nat.mul_div_cancel_left _ hd
 rw [e]
 have h2:(q.den:Int)*(q.num*t)=q.den*x:=by
  rw [Int.mul_comm (q.den:Int) x,← h1,ht]
  push_cast
  grind
 exact Int.eq_of_mul_eq_mul_left (by omega) h2
theorem Rp.le (h:Rp N x q):q.num.natAbs≤x.natAbs:=by
 rw [← h.num,Int.natAbs_mul,Int.natAbs_natCast]
 refine Nat.le_mul_of_pos_right _ ?_
 exact Nat.div_pos (Nat.le_of_dvd h.pos h.dvd) q.den_pos
theorem Rp.den_le (h:Rp N x q):q.den≤N:=Nat.le_of_dvd h.pos h.dvd
theorem Rp.own (q:Rat):Rp q.den q.num q:=⟨q.den_pos,mul_den q⟩
theorem Rp.up (h:Rp N x q) (t:Nat) (ht:0<t):Rp (N*t) (x*t) q:=⟨Nat.mul_pos h.1 ht,by have:=h.2; push_cast; grind⟩
theorem Rp.up' (h:Rp N x q) (hd:N∣M) (hM:0<M):Rp M (x*((M / N:Nat):Int)) q:=by
 obtain ⟨t,rfl⟩:=hd
 have ht:0<t:=Nat.pos_of_mul_pos_left hM
 rw [Nat.mul_div_cancel_left _ h.1]
 exact h.up t ht
theorem Rp.plus (ha:Rp N x a) (hb:Rp N y b) (k:Int):Rp N (x+k*y) (a+k*b):=⟨ha.1,by have:=ha.2; have:=hb.2; push_cast; grind⟩
theorem Rp.mul (ha:Rp N x a) (hb:Rp M y b):Rp (N*M) (x*y) (a*b):=⟨Nat.mul_pos ha.1 hb.1,by have:=ha.2; have:=hb.2; push_cast; grind⟩
theorem Rp.of_frac (hN:0<N) (x:Int):Rp N x (Rat.divInt x N):=⟨hN,by have:=divInt_mul (x:=x) (y:=(N:Int)) (by omega); rwa [Rat.intCast_natCast] at this⟩
theorem Rp.lt (ha:Rp N x a) (hb:Rp N y b):a<b↔x<y:=by
 have h0:(0:Rat)<N:=by exact_mod_cast ha.1
 rw [← Rat.mul_lt_mul_right h0,ha.2,hb.2]
 exact Rat.intCast_lt_intCast
end
theorem plus_eq (a b:Rat) (k:Int):Rat.divInt (a.num*((b.den / Nat.gcd a.den b.den:Nat):Int)+k*b.num*((a.den / Nat.gcd a.den b.den:Nat):Int)) (((a.den / Nat.gcd a.den b.den:Nat):Int)*b.den)=a+k*b:=by
 have hg:0<Nat.gcd a.den b.den:=Nat.gcd_pos_of_pos_left _ a.den_pos
 obtain ⟨A,hA⟩:=Nat.gcd_dvd_left a.den b.den
 obtain ⟨B,hB⟩:=Nat.gcd_dvd_right a.den b.den
 generalize hgd:Nat.gcd a.den b.den=g at hg hA hB
 have eA:a.den / g=A:=by rw [hA]; exact Nat.mul_div_cancel_left _ hg
 have eB:b.den / g=B:=by rw [hB]; exact Nat.mul_div_cancel_left _ hg
 rw [eA,eB]
 have hA0:A≠0:=fun h=>by rw [h,Nat.mul_zero] at hA; exact a.den_nz hA
 refine divInt_of_mul ?_ ?_
 · have:=b.den_nz
   exact Int.mul_ne_zero (by omega) (by omega)
 · have h1:=mul_den a
   have h2:=mul_den b
   rw [hA] at h1
   rw [hB] at h2 ⊢
   push_cast at h1 h2 ⊢
   grind
theorem plus_bound {N:Nat} {x y k:Int} {a b:Rat} (ha:Rp N x a) (hb:Rp N y b) :
  (a.num*((b.den / Nat.gcd a.den b.den:Nat):Int)).natAbs≤x.natAbs∧(k*b.num).natAbs≤(k*y).natAbs∧(k*b.num*((a.den / Nat.gcd a.den b.den:Nat):Int)).natAbs≤(k*y).natAbs∧a.den / Nat.gcd a.den b.den*b.den≤N∧0<a.den / Nat.gcd a.den b.den*b.den:=by
 have hg:0<Nat.gcd a.den b.den:=Nat.gcd_pos_of_pos_left _ a.den_pos
 have hl:a.den / Nat.gcd a.den b.den*b.den=Nat.lcm a.den b.den:=by
  rw [Nat.lcm,Nat.div_mul_right_comm (Nat.gcd_dvd_left _ _)]
 have hl2:b.den / Nat.gcd a.den b.den*a.den=Nat.lcm a.den b.den:=by
  rw [Nat.lcm,Nat.mul_comm a.den b.den,Nat.div_mul_right_comm (Nat.gcd_dvd_right _ _)]
 have hdvd:Nat.lcm a.den b.den∣N:=Nat.lcm_dvd ha.dvd hb.dvd
 obtain ⟨t,ht⟩:=hdvd
 have hN:=ha.pos
 have ht0:0<t:=Nat.pos_of_ne_zero fun h=>by rw [h,Nat.mul_zero] at ht; omega
 have hx:x=a.num*((b.den / Nat.gcd a.den b.den:Nat):Int)*t:=by
  rw [← ha.num]
  have:N / a.den=b.den / Nat.gcd a.den b.den*t:=by
   rw [ht,← hl2]
   rw [show b.den / Nat.gcd a.den b.den*a.den*t=a.den*(b.den / Nat.gcd a.den b.den*t) by rw [Nat.mul_comm _ a.den,Nat.mul_assoc]]
   exact Nat.mul_div_cancel_left _ a.den_pos
  rw [this]; push_cast; rw [Int.mul_assoc]
 have hy:y=b.num*((a.den / Nat.gcd a.den b.den:Nat):Int)*t:=by
  rw [← hb.num]
  have:N / b.den=a.den / Nat.gcd a.den b.den*t:=by
   rw [ht,← hl]
   rw [show a.den / Nat.gcd a.den b.den*b.den*t=b.den*(a.den / Nat.gcd a.den b.den*t) by rw [Nat.mul_comm _ b.den,Nat.mul_assoc]]
   exact Nat.mul_div_cancel_left _ b.den_pos
  rw [this]; push_cast; rw [Int.mul_assoc]
 have hag:0<a.den / Nat.gcd a.den b.den:=Nat.div_pos (Nat.le_of_dvd a.den_pos (Nat.gcd_dvd_left _ _)) hg
 refine ⟨?_,?_,?_,?_,?_⟩
 · rw [hx,Int.natAbs_mul _ (t:Int),Int.natAbs_natCast]; exact Nat.le_mul_of_pos_right _ ht0
 · rw [Int.natAbs_mul,Int.natAbs_mul]; exact Nat.mul_le_mul_left _ hb.le
 · rw [hy,← Int.mul_assoc,← Int.mul_assoc,Int.natAbs_mul _ (t:Int),Int.natAbs_natCast]; exact Nat.le_mul_of_pos_right _ ht0
 · rw [hl]; exact Nat.le_of_dvd hN ⟨t,ht⟩
 · exact Nat.mul_pos hag b.den_pos
theorem times_eq (a b:Rat):(Rat.divInt a.num b.den).num*(Rat.divInt b.num a.den).num=(a*b).num∧(Rat.divInt a.num b.den).den*(Rat.divInt b.num a.den).den=(a*b).den:=by
 have hb0:(b.den:Int)≠0:=by have:=b.den_nz; omega
 have ha0:(a.den:Int)≠0:=by have:=a.den_nz; omega
 have h1:=divInt_mul (x:=a.num) hb0
 have h2:=divInt_mul (x:=b.num) ha0
 have d1:(Rat.divInt a.num b.den).num∣a.num:=by
  have:Rp b.den a.num (Rat.divInt a.num b.den):=Rp.of_frac b.den_pos _
  exact ⟨_,this.num.symm⟩
 have d2:(Rat.divInt b.num a.den).num∣b.num:=by
  have:Rp a.den b.num (Rat.divInt b.num a.den):=Rp.of_frac a.den_pos _
  exact ⟨_,this.num.symm⟩
 have e1:(Rat.divInt a.num b.den).den∣b.den:=(Rp.of_frac b.den_pos a.num).dvd
 have e2:(Rat.divInt b.num a.den).den∣a.den:=(Rp.of_frac a.den_pos b.num).dvd
 generalize hu:Rat.divInt a.num b.den=u at *
 generalize hv:Rat.divInt b.num a.den=v at *
 have hc:Nat.Coprime (u.num*v.num).natAbs (u.den*v.den):=by
  rw [Int.natAbs_mul]
  have c1:Nat.Coprime u.num.natAbs v.den:=Nat.Coprime.coprime_dvd_left (Int.natAbs_dvd_natAbs.2 d1) (Nat.Coprime.coprime_dvd_right e2 a.reduced)
  have c2:Nat.Coprime v.num.natAbs u.den:=Nat.Coprime.coprime_dvd_left (Int.natAbs_dvd_natAbs.2 d2) (Nat.Coprime.coprime_dvd_right e1 b.reduced)
  exact Nat.Coprime.mul_left (Nat.Coprime.mul_right u.reduced c1) (Nat.Coprime.mul_right c2 v.reduced)
 have hd:u.den*v.den≠0:=Nat.mul_ne_zero u.den_nz v.den_nz
 have key:(⟨u.num*v.num,u.den*v.den,hd,hc⟩:Rat)=a*b:=by
  have k1:(⟨u.num*v.num,u.den*v.den,hd,hc⟩:Rat)=u*v:=by
   have:=mul_den (⟨u.num*v.num,u.den*v.den,hd,hc⟩:Rat)
   simp only at this
   have hu2:=mul_den u
   have hv2:=mul_den v
   have hn:((u.den*v.den:Nat):Rat)≠0:=fun h=>hd (by exact_mod_cast h)
   have k2:(⟨u.num*v.num,u.den*v.den,hd,hc⟩:Rat)*((u.den*v.den:Nat):Rat)=u*v*((u.den*v.den:Nat):Rat):=by
    rw [this]; push_cast; grind
   exact eq_of_mul hn k2
  rw [k1]
  have ha2:=mul_den a
  have hb2:=mul_den b
  have hn:((a.den*b.den:Nat):Rat)≠0:=fun h=>Nat.mul_ne_zero a.den_nz b.den_nz (by exact_mod_cast h)
  have k2:u*v*((a.den*b.den:Nat):Rat)=a*b*((a.den*b.den:Nat):Rat):=by
   rw [Rat.intCast_natCast] at h1 h2
   push_cast; grind
  exact eq_of_mul hn k2
 exact ⟨by rw [← key],by rw [← key]⟩
end Bq
namespace Go.Proofs.Tryd.Am.Be
open Go.Proofs.Tryd.Am
open Go.Am Bq
set_option maxRecDepth 100000
set_option maxHeartbeats 1000000
theorem set_new (h:Zh) (A B:Blk):(h++[A]).set h.length B=h++[B]:=by
 rw [List.set_append_right _ _ (Nat.le_refl _)]; simp
def frV (x y:Int):Value:=.agg #[Zd x,Zd y]
def qV (q:Rat):Value:=frV q.num q.den
theorem low_frV (x y:Int):Low (frV x y):=.agg fun w hw=>by
 simp at hw; rcases hw with rfl | rfl <;> exact .int _ _
theorem loadF {h:Zh} {b:Nat} {x y:Int} {e:TypeId} {ro:Bool} {K:Value→Prop} (hb:h[b]? = some (.cells [Zd x,Zd y] e ro)):Xs prog h 45 (.pointer (some ⟨b,0,none⟩)) K=K (.agg #[Zd x,Zd y]) :=
 loadA hb (by rw [Je]; rfl)
theorem loadF0 {h:Zh} {b:Nat} {x y:Int} {e:TypeId} {ro:Bool} {K:Value→Prop} (hb:h[b]? = some (.cells [Zd x,Zd y] e ro)):Xs prog h 3 (.pointer (some ⟨b,0,none⟩)) K=K (Zd x):=loadC hb Yy rfl
theorem loadF1 {h:Zh} {b:Nat} {x y:Int} {e:TypeId} {ro:Bool} {K:Value→Prop} (hb:h[b]? = some (.cells [Zd x,Zd y] e ro)):Xs prog h 3 (.pointer (some ⟨b,1,none⟩)) K=K (Zd y):=loadC hb Yy rfl
theorem storeF {h:Zh} {b:Nat} {x y:Int} {e:TypeId} {c:List Value} {K:Zh→Prop} (hb:h[b]? = some (.cells c e false)) (hc:c.length=2):Xq prog h 45 (.pointer (some ⟨b,0,none⟩)) (.agg #[Zd x,Zd y]) K=K (h.set b (.cells [Zd x,Zd y] e false)) :=
 storeA (vs:=[Zd x,Zd y]) hb (by rw [Je]; rfl) rfl (by rw [hc]; rfl)
theorem bldF {x y:Int} {K:Value→Prop}:Wv prog 45 [(0,Zd x),(1,Zd y)] K=K (.agg #[Zd x,Zd y]):=by
 simp [Wv,zero_45,Vx,pl_45_0,pl_45_1,Wk,cellsOf,Yk]
theorem boxF {h:Zh} {x y:Int} {K:Value→Zh→Prop}:boxK prog h 45 (.agg #[Zd x,Zd y]) K=K (Yg h) (h++[.cells [Zd x,Zd y] 45 false]):=by
 simp [boxK,Ub,Yg,cellsOf]
theorem fA0 {b:Nat} {K:Value→Prop}:Yt prog 45 (.pointer (some ⟨b,0,none⟩)) 0 K=K (.pointer (some ⟨b,0,none⟩)):=fldA fld_45_0 Wm
theorem fA1 {b:Nat} {K:Value→Prop}:Yt prog 45 (.pointer (some ⟨b,0,none⟩)) 1 K=K (.pointer (some ⟨b,1,none⟩)):=fldA fld_45_1 Wm
noncomputable def okF (p:Field×Nat):Bool:=p.1.name != "_" && (match prog.underlying p.1.type with | some (.int .i64)=>true | _=>false)&&p.1.offset==p.2
theorem eqF [Tabs prog]:EqT prog 45 2:=eqT_struct (by kernel_rfl) (by kernel_rfl) (by kernel_rfl) (fun j f hf=>by
 have h4:(prog.fieldsOf 45).toList.zipIdx.all okF=true:=by kernel_rfl
 have h5:=List.all_eq_true.1 h4 (f,j) (by rw [List.mem_zipIdx_iff_getElem?]; exact hf)
 simp only [okF,Bool.and_eq_true,bne_iff_ne,beq_iff_eq] at h5
 refine ⟨h5.1.1,?_,h5.2⟩
 have h6:=h5.1.2
 split at h6
 · assumption
 · cases h6) (by kernel_rfl)
theorem quo_dvd {x y:Int} (hx:x.natAbs<9223372036854775808) (hd:y∣x):quoV .i64 x y=x / y:=by
 rw [quoV,Int.tdiv_eq_ediv_of_dvd hd]
 have h1:(x / y).natAbs≤x.natAbs:=by
  obtain ⟨t,rfl⟩:=hd
  rcases Int.lt_trichotomy y 0 with h | h | h
  · rw [Int.mul_ediv_cancel_left _ (by omega),Int.natAbs_mul]; exact Nat.le_mul_of_pos_left _ (by omega)
  · subst h; simp
  · rw [Int.mul_ediv_cancel_left _ (by omega),Int.natAbs_mul]; exact Nat.le_mul_of_pos_left _ (by omega)
 exact Uh (by omega) (by omega)
theorem tmod_abs (x:Int) {y:Int} (hy:y≠0):(x.tmod y).natAbs<y.natAbs:=by
 rw [Int.natAbs_tmod]; exact Nat.mod_lt _ (by omega)
theorem gcd_tmod (x y:Int):Nat.gcd y.natAbs (x.tmod y).natAbs=Nat.gcd x.natAbs y.natAbs:=by
 rw [Int.natAbs_tmod,Nat.gcd_comm y.natAbs,← Nat.gcd_rec,Nat.gcd_comm]
theorem max_abs {x:Int} (hx:x.natAbs<9223372036854775808):(if subV .i64 0 x > x then subV .i64 0 x else x)=(x.natAbs:Int):=by
 rw [subV_id (by omega) (by omega)]; split <;> omega
theorem gcd_call [Tabs prog] {h:Zh} {a b:Int} (ha:a.natAbs<9223372036854775808∨b≠0) (hb2:b.natAbs<9223372036854775808):Xj prog 75 [Zd a,Zd b] h (Zd (Nat.gcd a.natAbs b.natAbs:Nat)):=by
 refine s75_call (by simp) ?_
 simp only [s75]
 simp (maxSteps:=2000000) only [↓Za,↓Zl,↓Yr,↓Zb,↓Zc,vup,cond_false,aop,Zf,Zp,ev,sput,Ze,Nat.reduceBEq,Nat.reduceAdd,↓Ui]
 refine Zy fun Q hQ=>?_
 refine aw_loop (γ:=Int×Int) (fun s=>Nat.gcd s.1.natAbs s.2.natAbs=Nat.gcd a.natAbs b.natAbs∧(s.1.natAbs<9223372036854775808∨s.2≠0)∧s.2.natAbs<9223372036854775808)
  (fun s=>([(0,Zd s.1),(1,Zd s.2),(4,.int .i64 0)],h)) (fun s=>s.2.natAbs) (a,b) ⟨rfl,ha,hb2⟩ (by simp (maxSteps:=2000000) only [vup,cond_true,cond_false,Nat.reduceBEq]) rfl ?_
 rintro ⟨x,y⟩ ⟨hxy,hx,hy⟩
 simp only at hxy hx hy
 refine aw_hide fun Q2 hQ2=>?_
 by_cases hy0:y=0
 · subst hy0
   have e0:((0:Int) != 0)=false:=rfl
   rw [Int.natAbs_zero,Nat.gcd_zero_right] at hxy
   have hx' : x.natAbs<9223372036854775808:=hx.resolve_right (by simp)
   simp (maxSteps:=2000000) only [↓Za,↓Zl,↓Yo,↓Zb,↓Zc,↓vdn,vup,cond_true,cond_false,aop,Zf,ev,sput,Ze,Yf,Yi,Nat.reduceBEq,l75_0,e0]
   refine hQ2 _ _ _ (hQ _ _ _ ?_)
   simp (maxSteps:=2000000) only [↓Za,↓Zl,↓Zu,↓Zb,↓Zc,vup,List.map_cons,List.map_nil,cond_true,cond_false,aop,Zf,Zo,ev,sput,Ze,unK,Zi,Nat.reduceBEq,Zs,Xn,tup,if_true,mmK,max_abs hx',hxy]
 · have e0:(y != 0)=true:=by simpa using hy0
   simp (maxSteps:=2000000) only [↓Za,↓Zn,↓Zl,↓Yr,↓Zb,↓Zc,↓vdn,vup,cond_true,cond_false,aop,Zf,ev,sput,Ze,Yf,Yi,Nat.reduceBEq,l75_0,e0]
   refine Yx [] (by kernel_rfl) (by kernel_rfl) (by kernel_rfl) (by kernel_rfl) ?_
   simp (maxSteps:=2000000) only [↓Zz,↓vdn,vup,cond_true,cond_false,aop,Zo,ev,sput,Ze,Yf,Yi,Nat.reduceBEq,ne_eq,hy0,not_false_eq_true]
   have hlt:=tmod_abs x hy0
   exact hQ2 _ _ _ ⟨(y,x.tmod y),⟨by simp only; rw [gcd_tmod,hxy],.inl hy,by simp only; omega⟩,hlt,by simp (maxSteps:=2000000) only [vup,cond_true,cond_false,Nat.reduceBEq],rfl⟩
theorem terms {x:Int} {n:Nat} (hn:0<n):x / ((Nat.gcd x.natAbs n:Nat):Int)=(Rat.divInt x n).num∧((n / Nat.gcd x.natAbs n:Nat):Int)=(Rat.divInt x n).den:=by
 rw [Rat.divInt_ofNat,Rat.num_mkRat,Rat.den_mkRat,if_neg (by omega),if_neg (by omega),Nat.gcd_comm n]
 exact ⟨rfl,rfl⟩
theorem gcd_dvd_int (x:Int) (n:Nat):((Nat.gcd x.natAbs n:Nat):Int)∣x:=Int.dvd_natAbs.1 (Int.natCast_dvd_natCast.2 (Nat.gcd_dvd_left _ _))
theorem s116_callW [Tabs Tryd.prog] {args:List Value} {h:Zh} {Q:Value→Zh→Prop} (hsz:args.length≤22) (hk:AWS Tryd.prog 22 s116 (Zs Tryd.prog [.cell 4 45] Q) (Zp 0 args) h):ACall Tryd.prog 116 args h Q :=
 Yz Tryd.func116 rfl (enters_of Tryd.func116 (by kernel_rfl) rfl) rfl rfl (by decide) s116_strip s116_ok hsz hk
theorem Us [Tabs prog] {h:Zh} {a b:Int} (hb:b≠0) (ha:a.natAbs<9223372036854775808) (hb2:b.natAbs<9223372036854775808):Xj prog 116 [Zd a,Zd b] h (qV (Rat.divInt a b)):=by
 have c0:=Zr h (Blk.cells [.int .i64 0,.int .i64 0] 45 false)
 have hE0:Ext (fun _=>False) h (h++[Blk.cells [.int .i64 0,.int .i64 0] 45 false]):=Ext.app _ _ _
 obtain ⟨x,n,hn,hx,hn2,hq,hneg,hpos⟩ : ∃ (x:Int) (n:Nat),0<n∧x.natAbs<9223372036854775808∧n<9223372036854775808∧Rat.divInt x n=Rat.divInt a b∧(b<0→subV .i64 0 a=x∧subV .i64 0 b=n)∧(¬ b<0→a=x∧b=n):=by
  by_cases h0:b<0
  · refine ⟨-a,b.natAbs,by omega,by omega,hb2,?_,fun _=>⟨?_,?_⟩,fun h=>absurd h0 h⟩
    · rw [show ((b.natAbs:Nat):Int) = -b by omega]; exact Rat.neg_divInt_neg a b
    · rw [subV_id (by omega) (by omega)]; omega
    · rw [subV_id (by omega) (by omega)]; omega
  · exact ⟨a,b.natAbs,by omega,ha,hb2,by rw [show ((b.natAbs:Nat):Int)=b by omega],fun h=>absurd h h0,fun _=>⟨rfl,by omega⟩⟩
 refine ACall.forget (low_frV _ _) ?_
 refine s116_callW (by simp) ?_
 simp only [s116]
 refine Zg fun N1 hN1=>?_
 simp (maxSteps:=2000000) only [↓Za,↓Zb,↓Zc,vup,cond_false,aop,Zf,Zp,sput,Ze,Nat.reduceBEq,Nat.reduceAdd,tyf,Xg,Yg]
 refine hN1 [(0,Zd a),(1,Zd b),(4,.pointer (some ⟨h.length,0,none⟩))] _ _ ?_ (by simp (maxSteps:=2000000) only [vup,cond_true,cond_false,Nat.reduceBEq])
 clear hN1
 try clear N1
 refine Zg fun M hM=>?_
 have key : ∀ e,ELe e [(0,Zd x),(1,Zd (n:Int)),(4,.pointer (some ⟨h.length,0,none⟩))]→M e (h++[Blk.cells [.int .i64 0,.int .i64 0] 45 false]):=by
  intro e he
  refine hM [(0,Zd x),(1,Zd (n:Int)),(4,.pointer (some ⟨h.length,0,none⟩))] _ _ ?_ he
  refine Zg fun N2 hN2=>?_
  simp (maxSteps:=2000000) only [↓Za,↓Zb,↓Zc,vup,List.map_cons,List.map_nil,cond_true,cond_false,aop,Zf,ev,sput,Ze,Nat.reduceBEq,Yn,List.nil_append,List.append_nil]
  refine (gcd_call (.inl hx) (by omega)).mono ?_
  rintro _ _ ⟨rfl,rfl⟩
  rw [Int.natAbs_natCast]
  refine hN2 [(0,Zd x),(1,Zd (n:Int)),(4,.pointer (some ⟨h.length,0,none⟩)),(5,Zd (Nat.gcd x.natAbs n:Nat))] _ _ ?_ (by simp (maxSteps:=2000000) only [vup,cond_true,cond_false,Nat.reduceBEq])
  clear hN2
  try clear N2
  have hg : ¬ ((Nat.gcd x.natAbs n:Nat):Int)=0:=by have:=Nat.gcd_pos_of_pos_right x.natAbs hn; omega
  have q1:quoV .i64 x ((Nat.gcd x.natAbs n:Nat):Int)=(Rat.divInt a b).num:=by rw [quo_dvd hx (gcd_dvd_int _ _),(terms hn).1,hq]
  have q2:quoV .i64 (n:Int) ((Nat.gcd x.natAbs n:Nat):Int)=(Rat.divInt a b).den:=by
   rw [quo_dvd (by omega) (Int.natCast_dvd_natCast.2 (Nat.gcd_dvd_right _ _)),← hq,← (terms hn).2,Int.natCast_ediv]
  refine Zm ?_
  simp only [q116_4]
  refine Wt fun N hN=>?_
  refine Yx [] (by kernel_rfl) (by kernel_rfl) (by kernel_rfl) (by kernel_rfl) ?_
  simp (maxSteps:=2000000) only [↓Zz,↓vdn,vup,List.map_cons,List.map_nil,cond_true,cond_false,aop,Zf,ev,sput,Ze,Yf,Yi,Nat.reduceBEq,ne_eq,hg,not_false_eq_true,q1,q2,bldF,storeF c0 rfl]
  refine hN _ _ ?_
  simp (maxSteps:=2000000) only [↓Zu,vup,cond_true,cond_false,Nat.reduceBEq,Zs,Xn,tup,loadF (Xf (h:=h++[Blk.cells [.int .i64 0,.int .i64 0] 45 false]) (b:=h.length) (by simp) _)]
  exact ⟨rfl,hE0.set_ge (Nat.le_refl _) _⟩
 by_cases hb0:b<0
 · simp (maxSteps:=2000000) only [↓Za,↓Zl,↓Zb,↓Zc,↓vdn,vup,cond_true,cond_false,aop,Zf,ev,sput,Ze,Yf,Yi,unK,Nat.reduceBEq,hb0,(hneg hb0).1,(hneg hb0).2]
   exact key _ (by simp (maxSteps:=2000000) only [vup,cond_true,cond_false,Nat.reduceBEq])
 · simp (maxSteps:=2000000) only [↓Za,↓Zn,↓Zl,↓Zb,↓Zc,↓vdn,vup,cond_true,cond_false,aop,Zf,ev,sput,Ze,Yf,Yi,Nat.reduceBEq,hb0]
   exact key _ (by simp (maxSteps:=2000000) only [vup,cond_true,cond_false,Nat.reduceBEq,(hpos hb0).1,(hpos hb0).2])
end Go.Proofs.Tryd.Am.Be
namespace Go.Proofs.Tryd.Am.Be
open Go.Proofs.Tryd.Am
open Go.Am Bq
set_option maxRecDepth 100000
set_option maxHeartbeats 1000000
section
variable (h:Zh) (A B C:Blk)
theorem b2_0:(h++[A]++[B])[h.length]? = some A:=by simp
theorem b2_1:(h++[A]++[B])[h.length+1]? = some B:=by simp
theorem b3_0:(h++[A]++[B]++[C])[h.length]? = some A:=by simp
theorem b3_1:(h++[A]++[B]++[C])[h.length+1]? = some B:=by simp
theorem b3_2:(h++[A]++[B]++[C])[h.length+2]? = some C:=by simp
theorem e2:Ext (fun _=>False) h (h++[A]++[B]):=by rw [List.append_assoc]; exact Ext.app _ _ _
theorem e3:Ext (fun _=>False) h (h++[A]++[B]++[C]):=by rw [List.append_assoc,List.append_assoc]; exact Ext.app _ _ _
end
abbrev fC (x y:Int):Blk:=.cells [Zd x,Zd y] 45 false
abbrev z0:Blk:=.cells [.int .i64 0,.int .i64 0] 45 false
theorem quoD {x y:Nat} (hx:x<9223372036854775808) (hd:y∣x):quoV .i64 (x:Int) (y:Int)=((x / y:Nat):Int):=by
 rw [quo_dvd (by omega) (Int.natCast_dvd_natCast.2 hd),Int.natCast_ediv]
theorem mulN {a b:Int} (h:(a*b).natAbs<9223372036854775808):mulV .i64 a b=a*b:=mulV_id (by omega) (by omega)
theorem addN {a b:Int} (h:a.natAbs+b.natAbs<9223372036854775808):addV .i64 a b=a+b:=addV_id (by omega) (by omega)
theorem subN {a b:Int} (h:a.natAbs+b.natAbs<9223372036854775808):subV .i64 a b=a-b:=subV_id (by omega) (by omega)
theorem s124_callW [Tabs Tryd.prog] {args:List Value} {h:Zh} {Q:Value→Zh→Prop} (hsz:args.length≤38) (hk:AWS Tryd.prog 38 s124 (Zs Tryd.prog [.cell 6 45] Q) (Zp 0 args) h):ACall Tryd.prog 124 args h Q :=
 Yz Tryd.func124 rfl (enters_of Tryd.func124 (by kernel_rfl) rfl) rfl rfl (by decide) s124_strip s124_ok hsz hk
theorem plus_call [Tabs prog] {h:Zh} {a b:Rat} {k x y:Int} {N:Nat} (ha:Rp N x a) (hb:Rp N y b) (hx:x.natAbs+(k*y).natAbs<9223372036854775808) (hN:N<9223372036854775808):Xj prog 124 [qV a,Zd k,qV b] h (qV (a+k*b)):=by
 obtain ⟨p1,p2,p3,p4,p5⟩:=plus_bound (k:=k) ha hb
 have da:=ha.den_le
 have db:=hb.den_le
 have hg:=Nat.gcd_pos_of_pos_left b.den a.den_pos
 have pe:=plus_eq a b k
 obtain ⟨H,hH⟩ : ∃ H,H=h++[fC a.num a.den]++[fC b.num b.den]++[z0]:=⟨_,rfl⟩
 have c3:H[h.length]? = some (fC a.num a.den):=by rw [hH]; exact b3_0 ..
 have c5:H[h.length+1]? = some (fC b.num b.den):=by rw [hH]; exact b3_1 ..
 have c6:H[h.length+2]? = some z0:=by rw [hH]; exact b3_2 ..
 have hE:Ext (fun _=>False) h H:=by rw [hH]; exact e3 ..
 have hg0 : ¬ ((Nat.gcd a.den b.den:Nat):Int)=0:=by omega
 have q1:=quoD (x:=b.den) (show b.den<9223372036854775808 by omega) (Nat.gcd_dvd_right a.den b.den)
 have q2:=quoD (x:=a.den) (show a.den<9223372036854775808 by omega) (Nat.gcd_dvd_left a.den b.den)
 have m1:=mulN (a:=a.num) (b:=((b.den / Nat.gcd a.den b.den:Nat):Int)) (by omega)
 have m2:=mulN (a:=k) (b:=b.num) (by omega)
 have m3:=mulN (a:=k*b.num) (b:=((a.den / Nat.gcd a.den b.den:Nat):Int)) (by omega)
 have m4:=addN (a:=a.num*((b.den / Nat.gcd a.den b.den:Nat):Int)) (b:=k*b.num*((a.den / Nat.gcd a.den b.den:Nat):Int)) (by omega)
 have m5:mulV .i64 ((a.den / Nat.gcd a.den b.den:Nat):Int) (b.den:Int)=((a.den / Nat.gcd a.den b.den*b.den:Nat):Int):=by
  rw [mulN (by rw [← Int.natCast_mul]; omega),Int.natCast_mul]
 have pe' : Rat.divInt (a.num*((b.den / Nat.gcd a.den b.den:Nat):Int)+k*b.num*((a.den / Nat.gcd a.den b.den:Nat):Int)) ((a.den / Nat.gcd a.den b.den*b.den:Nat):Int)=a+k*b:=by
  rw [Int.natCast_mul]; exact pe
 have fc:=Us (h:=H) (a:=a.num*((b.den / Nat.gcd a.den b.den:Nat):Int)+k*b.num*((a.den / Nat.gcd a.den b.den:Nat):Int)) (b:=((a.den / Nat.gcd a.den b.den*b.den:Nat):Int)) (by omega) (by omega) (by omega)
 rw [pe'] at fc
 obtain ⟨q,hq⟩ : ∃ q,a+(k:Rat)*b=q:=⟨_,rfl⟩
 rw [hq] at fc ⊢
 refine ACall.forget (low_frV _ _) ?_
 refine s124_callW (by simp) ?_
 simp only [s124]
 refine Zg fun N1 hN1=>?_
 simp (maxSteps:=2000000) only [↓Za,↓Zb,↓Zc,vup,cond_true,cond_false,aop,Zf,Zp,ev,sput,Ze,Nat.reduceBEq,Nat.reduceAdd,tyf,qV,frV,boxF,Xg,Yg,List.length_append,List.length_singleton,Nat.add_assoc]
 rw [← hH]
 refine hN1 [(1,Zd k),(3,.pointer (some ⟨h.length,0,none⟩)),(5,.pointer (some ⟨h.length+1,0,none⟩)),(6,.pointer (some ⟨h.length+2,0,none⟩))] _ _ ?_ (by simp (maxSteps:=2000000) only [vup,cond_true,cond_false,Nat.reduceBEq])
 clear hN1
 try clear N1
 refine Zg fun N2 hN2=>?_
 simp (maxSteps:=2000000) only [↓Za,↓Zb,↓Zc,vup,List.map_cons,List.map_nil,cond_true,cond_false,aop,Zf,ev,sput,Ze,Nat.reduceBEq,Yn,List.nil_append,List.append_nil,fA1,loadF1 c3,loadF1 c5]
 refine (gcd_call (.inl (by omega)) (by omega)).mono ?_
 rintro _ _ ⟨rfl,rfl⟩
 rw [Int.natAbs_natCast,Int.natAbs_natCast]
 refine hN2 [(1,Zd k),(3,.pointer (some ⟨h.length,0,none⟩)),(5,.pointer (some ⟨h.length+1,0,none⟩)),(6,.pointer (some ⟨h.length+2,0,none⟩)),(7,Zd (Nat.gcd a.den b.den:Nat))] _ _ ?_ (by simp (maxSteps:=2000000) only [vup,cond_true,cond_false,Nat.reduceBEq])
 clear hN2
 try clear N2
 refine Zm ?_
 simp only [q124_2]
 refine Wt fun N hN=>?_
 refine Yx [(24,1)] (by kernel_rfl) (by kernel_rfl) (by kernel_rfl) (by kernel_rfl) ?_
 simp (maxSteps:=2000000) only [↓Zz,↓vdn,vup,List.map_cons,List.map_nil,cond_true,cond_false,aop,Zf,ev,sput,Ze,Yf,Yi,Nat.reduceBEq,Nat.reduceAdd,tyf,fA0,fA1,loadF1 c3,loadF1 c5,loadF0 c3,loadF0 c5,ne_eq,hg0,not_false_eq_true,q1,q2,m1,m2,m3,m4,m5,Yn,List.nil_append,List.append_nil]
 refine ⟨_,_,fc,rfl,?_⟩
 simp (maxSteps:=2000000) only [qV,frV,storeF c6 rfl]
 refine hN _ _ ?_
 simp (maxSteps:=2000000) only [↓Zu,vup,cond_true,cond_false,Nat.reduceBEq,Zs,Xn,tup,loadF (Xf (Yb c6) _)]
 exact ⟨rfl,hE.set_ge (by omega) _⟩
def Fits (q:Rat):Prop:=q.num.natAbs<9223372036854775808∧q.den<9223372036854775808
theorem s125_callW [Tabs Tryd.prog] {args:List Value} {h:Zh} {Q:Value→Zh→Prop} (hsz:args.length≤28) (hk:AWS Tryd.prog 28 s125 (Zs Tryd.prog [.cell 4 45] Q) (Zp 0 args) h):ACall Tryd.prog 125 args h Q :=
 Yz Tryd.func125 rfl (enters_of Tryd.func125 (by kernel_rfl) rfl) rfl rfl (by decide) s125_strip s125_ok hsz hk
theorem times_call [Tabs prog] {h:Zh} {a b:Rat} (ha:Fits a) (hb:Fits b) (hab:Fits (a*b)):Xj prog 125 [qV a,qV b] h (qV (a*b)):=by
 have da:=a.den_nz
 have db:=b.den_nz
 obtain ⟨t1,t2⟩:=times_eq a b
 have f1 : ∀ h:Zh,Xj prog 116 [Zd a.num,Zd b.den] h (qV (Rat.divInt a.num b.den)):=fun h=>Us (by omega) ha.1 (by have:=hb.2; omega)
 have f2 : ∀ h:Zh,Xj prog 116 [Zd b.num,Zd a.den] h (qV (Rat.divInt b.num a.den)):=fun h=>Us (by omega) hb.1 (by have:=ha.2; omega)
 obtain ⟨u,hu⟩ : ∃ u,Rat.divInt a.num b.den=u:=⟨_,rfl⟩
 obtain ⟨v,hv⟩ : ∃ v,Rat.divInt b.num a.den=v:=⟨_,rfl⟩
 rw [hu] at f1 t1 t2
 rw [hv] at f2 t1 t2
 have m1:mulV .i64 u.num v.num=(a*b).num:=by rw [← t1]; exact mulN (by rw [t1]; exact hab.1)
 have m2:mulV .i64 (u.den:Int) (v.den:Int)=((a*b).den:Int):=by
  rw [← t2,Int.natCast_mul]; exact mulN (by rw [← Int.natCast_mul,t2]; have:=hab.2; omega)
 obtain ⟨q,hq⟩ : ∃ q,a*b=q:=⟨_,rfl⟩
 rw [hq] at m1 m2 ⊢
 obtain ⟨H,hH⟩ : ∃ H,H=h++[fC a.num a.den]++[fC b.num b.den]++[z0]:=⟨_,rfl⟩
 have c2:H[h.length]? = some (fC a.num a.den):=by rw [hH]; exact b3_0 ..
 have c3:H[h.length+1]? = some (fC b.num b.den):=by rw [hH]; exact b3_1 ..
 have c4:H[h.length+2]? = some z0:=by rw [hH]; exact b3_2 ..
 have hE:Ext (fun _=>False) h H:=by rw [hH]; exact e3 ..
 have hlen:H.length=h.length+3:=by rw [hH]; simp
 refine ACall.forget (low_frV _ _) ?_
 refine s125_callW (by simp) ?_
 simp only [s125]
 refine Zg fun N3 hN3=>?_
 simp (maxSteps:=2000000) only [↓Za,↓Zb,↓Zc,vup,cond_true,cond_false,aop,Zf,Zp,ev,sput,Ze,Nat.reduceBEq,Nat.reduceAdd,tyf,qV,frV,boxF,Xg,Yg,List.length_append,List.length_singleton,Nat.add_assoc]
 rw [← hH]
 refine hN3 [(2,.pointer (some ⟨h.length,0,none⟩)),(3,.pointer (some ⟨h.length+1,0,none⟩)),(4,.pointer (some ⟨h.length+2,0,none⟩))] _ _ ?_ (by simp (maxSteps:=2000000) only [vup,cond_true,cond_false,Nat.reduceBEq])
 clear hN3
 try clear N3
 refine Zg fun N4 hN4=>?_
 refine aw_drawE (fun hp=>hp[h.length]? = some (fC a.num a.den)∧hp[h.length+1]? = some (fC b.num b.den)) [(1,5),(3,5),(6,5),(8,5),(4,2),(9,2)] 11 6 [10] (by kernel_rfl) (by kernel_rfl) (by kernel_rfl) (by kernel_rfl) (by kernel_rfl) (by rfl) ⟨c2,c3⟩ ?_
 simp (maxSteps:=2000000) only [↓Wa,↓vdn,vup,List.map_cons,List.map_nil,cond_true,cond_false,aop,Zf,ev,sput,Ze,Nat.reduceBEq,Nat.reduceAdd,fA0,fA1,Yn,List.nil_append,List.append_nil]
 refine ⟨Zd a.num,fun _ g=>by rw [loadF0 g.1],Zd b.den,fun _ g=>by rw [loadF1 g.2],qV u,fun _ _=>⟨_,_,f1 _,rfl,rfl⟩,Zd b.num,fun _ g=>by rw [loadF0 g.2],Zd a.den,fun _ g=>by rw [loadF1 g.1],qV v,fun _ _=>⟨_,_,f2 _,rfl,rfl⟩,?_⟩
 have k1:(H++[z0]++[z0])[H.length]? = some z0:=b2_0 ..
 obtain ⟨H2,hH2⟩ : ∃ H2,H2=(H++[z0]++[z0]).set H.length (fC u.num u.den):=⟨_,rfl⟩
 have k2:H2[H.length+1]? = some z0:=by rw [hH2,List.getElem?_set_ne (by omega)]; exact b2_1 ..
 have k3:H2[H.length]? = some (fC u.num u.den):=by rw [hH2]; exact Xf (by simp) _
 have k4:Ext (fun _=>False) h H2:=by rw [hH2]; exact (hE.trans (e2 ..)).set_ge (by omega) _
 have k5:H2[h.length]? = some (fC a.num a.den)∧H2[h.length+1]? = some (fC b.num b.den)∧H2[h.length+2]? = some z0:=by
  rw [hH2,List.getElem?_set_ne (by omega),List.getElem?_set_ne (by omega),List.getElem?_set_ne (by omega)]
  exact ⟨Yp (Yp c2 _) _,Yp (Yp c3 _) _,Yp (Yp c4 _) _⟩
 obtain ⟨H3,hH3⟩ : ∃ H3,H3=H2.set (H.length+1) (fC v.num v.den):=⟨_,rfl⟩
 have l1:H3[H.length+1]? = some (fC v.num v.den):=by rw [hH3]; exact Xf (Yb k2) _
 have l2:H3[H.length]? = some (fC u.num u.den):=by rw [hH3,List.getElem?_set_ne (by omega)]; exact k3
 have l3:H3[h.length+2]? = some z0:=by rw [hH3,List.getElem?_set_ne (by omega)]; exact k5.2.2
 have l4:Ext (fun _=>False) h H3:=by rw [hH3]; exact k4.set_ge (by omega) _
 have l5:H3[h.length]? = some (fC a.num a.den)∧H3[h.length+1]? = some (fC b.num b.den):=by
  rw [hH3,List.getElem?_set_ne (by omega),List.getElem?_set_ne (by omega)]
  exact ⟨k5.1,k5.2.1⟩
 simp (maxSteps:=2000000) only [tyf,Xg,Yg]
 refine ⟨⟨Yp c2 _,Yp c3 _⟩,⟨Yp (Yp c2 _) _,Yp (Yp c3 _) _⟩,?_⟩
 simp only [qV,frV,storeF k1 rfl,List.length_append,List.length_singleton]
 rw [← hH2,storeF k2 rfl,← hH3]
 refine ⟨⟨k5.1,k5.2.1⟩,l5,?_⟩
 refine hN4 [(2,.pointer (some ⟨h.length,0,none⟩)),(3,.pointer (some ⟨h.length+1,0,none⟩)),(4,.pointer (some ⟨h.length+2,0,none⟩)),(5,.pointer (some ⟨H.length,0,none⟩)),(6,.pointer (some ⟨H.length+1,0,none⟩))] _ _ ?_ (by simp (maxSteps:=2000000) only [vup,cond_true,cond_false,Nat.reduceBEq])
 clear hN4
 try clear N4
 refine Zm ?_
 simp (maxSteps:=2000000) only [↓Za,↓Zl,↓Zu,↓Zb,↓Zc,vup,List.map_cons,List.map_nil,cond_true,cond_false,aop,Zf,ev,sput,Ze,Yf,Yi,Nat.reduceBEq,Zs,Xn,tup,tyf,fA0,fA1,loadF0 l1,loadF1 l1,loadF0 l2,loadF1 l2,m1,m2,bldF,storeF l3 rfl,loadF (Xf (Yb l3) _)]
 exact ⟨rfl,l4.set_ge (by omega) _⟩
theorem fits_inv {a b:Rat} (hb:b≠0) (h:Fits b):Rat.divInt b.den b.num=b⁻¹∧Fits b⁻¹:=by
 have hn:b.num≠0:=fun hc=>hb (Rat.num_eq_zero.1 hc)
 refine ⟨(Rat.inv_def b).symm,?_,?_⟩
 · rw [Rat.num_inv,Int.natAbs_mul,Int.natAbs_sign_of_ne_zero hn]
   have:=h.2; simpa using this
 · rw [Rat.den_inv,if_neg hn]; exact h.1
theorem s123_callW [Tabs Tryd.prog] {args:List Value} {h:Zh} {Q:Value→Zh→Prop} (hsz:args.length≤12) (hk:AWS Tryd.prog 12 s123 (Zs Tryd.prog [.cell 4 45] Q) (Zp 0 args) h):ACall Tryd.prog 123 args h Q :=
 Yz Tryd.func123 rfl (enters_of Tryd.func123 (by kernel_rfl) rfl) rfl rfl (by decide) s123_strip s123_ok hsz hk
theorem over_call [Tabs prog] {h:Zh} {a b:Rat} (ha:Fits a) (hb:Fits b) (hb0:b≠0) (hab:Fits (a / b)):Xj prog 123 [qV a,qV b] h (qV (a / b)):=by
 obtain ⟨i1,i2⟩:=fits_inv (a:=a) hb0 hb
 have hn:b.num≠0:=fun hc=>hb0 (Rat.num_eq_zero.1 hc)
 have f1 : ∀ h:Zh,Xj prog 116 [Zd b.den,Zd b.num] h (qV b⁻¹):=fun h=>by
  rw [← i1]; exact Us hn (by have:=hb.2; omega) hb.1
 have f2 : ∀ h:Zh,Xj prog 125 [qV a,qV b⁻¹] h (qV (a / b)):=fun h=>times_call ha i2 hab
 obtain ⟨q,hq⟩ : ∃ q,a / b=q:=⟨_,rfl⟩
 rw [hq] at f2 ⊢
 obtain ⟨H,hH⟩ : ∃ H,H=h++[fC a.num a.den]++[fC b.num b.den]++[z0]:=⟨_,rfl⟩
 have c2:H[h.length]? = some (fC a.num a.den):=by rw [hH]; exact b3_0 ..
 have c3:H[h.length+1]? = some (fC b.num b.den):=by rw [hH]; exact b3_1 ..
 have c4:H[h.length+2]? = some z0:=by rw [hH]; exact b3_2 ..
 have hE:Ext (fun _=>False) h H:=by rw [hH]; exact e3 ..
 refine ACall.forget (low_frV _ _) ?_
 refine s123_callW (by simp) ?_
 simp only [s123]
 refine Zg fun N5 hN5=>?_
 simp (maxSteps:=2000000) only [↓Za,↓Zb,↓Zc,vup,cond_true,cond_false,aop,Zf,Zp,ev,sput,Ze,Nat.reduceBEq,Nat.reduceAdd,tyf,qV,frV,boxF,Xg,Yg,List.length_append,List.length_singleton,Nat.add_assoc]
 rw [← hH]
 refine hN5 [(2,.pointer (some ⟨h.length,0,none⟩)),(3,.pointer (some ⟨h.length+1,0,none⟩)),(4,.pointer (some ⟨h.length+2,0,none⟩))] _ _ ?_ (by simp (maxSteps:=2000000) only [vup,cond_true,cond_false,Nat.reduceBEq])
 clear hN5
 try clear N5
 refine Zm ?_
 simp only [q123_1]
 refine Wt fun N hN=>?_
 refine Yx [(5,1),(6,1)] (by kernel_rfl) (by kernel_rfl) (by kernel_rfl) (by kernel_rfl) ?_
 simp (maxSteps:=2000000) only [↓Zz,↓vdn,vup,List.map_cons,List.map_nil,cond_true,cond_false,aop,Zf,ev,sput,Ze,Nat.reduceBEq,Nat.reduceAdd,fA0,fA1,loadF c2,loadF0 c3,loadF1 c3,Yn,List.nil_append,List.append_nil]
 refine ⟨_,_,f1 _,rfl,?_⟩
 refine ⟨_,_,f2 _,rfl,?_⟩
 simp (maxSteps:=2000000) only [qV,frV,storeF c4 rfl]
 refine hN _ _ ?_
 simp (maxSteps:=2000000) only [↓Zu,vup,cond_true,cond_false,Nat.reduceBEq,Zs,Xn,tup,loadF (Xf (Yb c4) _)]
 exact ⟨rfl,hE.set_ge (by omega) _⟩
theorem s72_callW [Tabs Tryd.prog] {args:List Value} {h:Zh} {Q:Value→Zh→Prop} (hsz:args.length≤5) (hk:AWS Tryd.prog 5 s72 (Zs Tryd.prog [.cell 2 45] Q) (Zp 0 args) h):ACall Tryd.prog 72 args h Q :=
 Yz Tryd.func72 rfl (enters_of Tryd.func72 (by kernel_rfl) rfl) rfl rfl (by decide) s72_strip s72_ok hsz hk
theorem Uo [Tabs prog] {h:Zh} {k:Int}:Xj prog 72 [Zd k] h (qV (k:Rat)):=by
 refine ACall.forget (low_frV _ _) ?_
 refine s72_callW (by simp) ?_
 refine Zm ?_
 simp (maxSteps:=2000000) only [s72,↓Za,↓Zl,↓Zu,↓Zb,↓Zc,vup,List.map_cons,List.map_nil,cond_true,cond_false,aop,Zf,Zp,ev,sput,Ze,Nat.reduceBEq,Zs,Xn,tup,tyf,Xg,Yg,bldF,storeF (Zr h z0) rfl,loadF (Xf (h:=h++[z0]) (b:=h.length) (by simp) _)]
 exact ⟨rfl,(Ext.app _ _ _).set_ge (Nat.le_refl _) _⟩
end Go.Proofs.Tryd.Am.Be
namespace Bq
def lcmL (l:List Nat):Nat:=l.foldl Nat.lcm 1
theorem foldl_lcm_dvd {l:List Nat} {m:Nat}:m∣l.foldl Nat.lcm m:=by
 induction l generalizing m with
 | nil=>exact Nat.dvd_refl _
 | cons d l ih=>exact Nat.dvd_trans (Nat.dvd_lcm_left m d) ih
theorem foldl_lcm_mem {l:List Nat} {m d:Nat} (h:d∈l):d∣l.foldl Nat.lcm m:=by
 induction l generalizing m with
 | nil=>cases h
 | cons e l ih =>
   rcases List.mem_cons.1 h with rfl | h
   · exact Nat.dvd_trans (Nat.dvd_lcm_right m d) foldl_lcm_dvd
   · exact ih h
end Bq
namespace Bq
def okP (p:Int×Int):Bool:=decide (1≤p.2)&&decide (p.2≤10000000000)&&decide (0≤p.1)&&(Nat.gcd p.1.natAbs p.2.natAbs==1)
def mulTo:List (Int×Int)→Nat→Nat
 | [],m=>m
 | p::ps,m=>if okP p=true∧Nat.lcm m p.2.natAbs≤10000000000 then mulTo ps (Nat.lcm m p.2.natAbs) else 0
def mult (ps:List (Int×Int)):Nat:=mulTo ps 1
def toQ (p:Int×Int):Rat:=Rat.divInt p.1 p.2
def ofQ (q:Rat):Int×Int:=(q.num,(q.den:Int))
theorem ofQ_toQ {p:Int×Int} (h1:1≤p.2) (h2:Nat.gcd p.1.natAbs p.2.natAbs=1):ofQ (toQ p)=p:=by
 obtain ⟨x,y⟩:=p
 simp only at h1 h2
 obtain ⟨n,rfl⟩ : ∃ n:Nat,y=n:=⟨y.toNat,by omega⟩
 have hn:n≠0:=by omega
 have e:toQ (x,(n:Int))=⟨x,n,hn,by simpa using h2⟩:=by
  rw [toQ,Rat.divInt_ofNat]
  exact (Rat.mk_eq_mkRat x n hn _).symm
 rw [e]; rfl
theorem okP_ofQ {p:Int×Int} (h:okP p=true):ofQ (toQ p)=p:=by
 simp only [okP,Bool.and_eq_true,decide_eq_true_eq,beq_iff_eq] at h
 exact ofQ_toQ h.1.1.1 h.2
theorem mulTo_spec : ∀ (ps:List (Int×Int)) (m:Nat),mulTo ps m≠0→m≤10000000000→(∀ p∈ps,okP p=true)∧mulTo ps m=(ps.map fun p=>p.2.natAbs).foldl Nat.lcm m∧mulTo ps m≤10000000000
 | [],m,h,hm=>⟨(fun _ h=>by cases h),rfl,hm⟩
 | p::ps,m,h,hm=>by
   rw [mulTo] at h ⊢
   split at h
   · rename_i hc
     rw [if_pos hc]
     obtain ⟨h1,h2,h3⟩:=mulTo_spec ps _ h hc.2
     refine ⟨fun q hq=>?_,h2,h3⟩
     rcases List.mem_cons.1 hq with rfl | hq
     · exact hc.1
     · exact h1 q hq
   · exact absurd rfl h
theorem mult_spec {ps:List (Int×Int)} (h:mult ps≠0):(∀ p∈ps,okP p=true)∧mult ps=lcmL (ps.map fun p=>p.2.natAbs)∧mult ps≤10000000000:=mulTo_spec ps 1 h (by decide)
theorem mult_dvd {ps:List (Int×Int)} (h:mult ps≠0) {p:Int×Int} (hp:p∈ps):(toQ p).den∣mult ps:=by
 obtain ⟨h1,h2,h3⟩:=mult_spec h
 have e:=okP_ofQ (h1 p hp)
 have e2:(toQ p).den=p.2.natAbs:=by
  have:=congrArg Prod.snd e
  simp only [ofQ] at this
  rw [← this]; rfl
 rw [h2,e2]
 exact foldl_lcm_mem (List.mem_map.2 ⟨p,hp,rfl⟩)
theorem okP_pos {p:Int×Int} (h:okP p=true):0≤toQ p:=by
 simp only [okP,Bool.and_eq_true,decide_eq_true_eq] at h
 exact Rat.divInt_nonneg h.1.2 (by omega)
theorem okP_le {p:Int×Int} (h:okP p=true):toQ p≤1↔p.1≤p.2:=by
 have hp:=okP_ofQ h
 have h1:(toQ p).num=p.1:=congrArg Prod.fst hp
 have h2:((toQ p).den:Int)=p.2:=congrArg Prod.snd hp
 rw [Rat.le_iff,h1,h2]
 simp
def Zv (g:Nat→Rat):Nat→Rat
 | 0=>0
 | k+1=>Zv g k+g k
section
variable {g f:Nat→Rat}
theorem sumTo_nonneg {n:Nat} (h : ∀ i,i<n→0≤g i):0≤Zv g n:=by
 induction n with
 | zero=>exact Rat.le_refl
 | succ n ih=>exact Rat.add_nonneg (ih fun i hi=>h i (by omega)) (h n (by omega))
theorem sumTo_mono {k n:Nat} (hk:k≤n) (h : ∀ i,i<n→0≤g i):Zv g k≤Zv g n:=by
 induction n with
 | zero=>rw [Nat.le_zero.1 hk]; exact Rat.le_refl
 | succ n ih =>
   rcases Nat.lt_or_ge n k with h1 | h1
   · rw [show k=n+1 by omega]; exact Rat.le_refl
   · have h2:=ih h1 fun i hi=>h i (by omega)
     have h3:=h n (by omega)
     rw [Zv]; grind
theorem sumTo_one {k n:Nat} (hk:k<n) (h : ∀ i,i<n→0≤g i):g k≤Zv g n:=by
 have h1:=sumTo_mono (show k+1≤n by omega) h
 have h2:=sumTo_nonneg (n:=k) fun i hi=>h i (by omega)
 rw [Zv] at h1; grind
theorem Zk {n:Nat} (h : ∀ i,i<n→f i=g i):Zv f n=Zv g n:=by
 induction n with
 | zero=>rfl
 | succ n ih=>rw [Zv,Zv,ih fun i hi=>h i (by omega),h n (by omega)]
theorem Xw (f g:Nat→Rat) (n:Nat):Zv (fun i=>f i+g i) n=Zv f n+Zv g n:=by
 induction n with
 | zero=>exact (Rat.zero_add _).symm
 | succ n ih=>simp only [Zv,ih]; grind
theorem Yw (c:Rat) (g:Nat→Rat) (n:Nat):Zv (fun i=>c*g i) n=c*Zv g n:=by
 induction n with
 | zero=>exact (Rat.mul_zero _).symm
 | succ n ih=>simp only [Zv,ih]; grind
theorem sumTo_den {N:Nat} {n:Nat} (hN:0<N) (h : ∀ i,i<n→(g i).den∣N):(Zv g n).den∣N:=by
 induction n with
 | zero=>exact Nat.one_dvd _
 | succ n ih =>
   have h1:=ih fun i hi=>h i (by omega)
   have h2:=h n (by omega)
   rw [Zv]
   have e:=Rp.up' (Rp.own (Zv g n)) h1 hN
   have e2:=Rp.up' (Rp.own (g n)) h2 hN
   have:=e.plus e2 1
   have h3:=this.dvd
   have e3:Zv g n+((1:Int):Rat)*g n=Zv g n+g n:=by
    rw [show (((1:Int)):Rat)=1 from rfl,Rat.one_mul]
   rwa [e3] at h3
end
theorem rp_of {N:Nat} {q:Rat} (hN:0<N) (h:q.den∣N) : ∃ x,Rp N x q:=⟨_,Rp.up' (Rp.own q) h hN⟩
theorem Rp.bound {N C:Nat} {x:Int} {q:Rat} (h:Rp N x q) (h1 : -(C:Rat)≤q) (h2:q≤C):x.natAbs≤C*N:=by
 have hN:(0:Rat)≤N:=Rat.natCast_nonneg
 have e:=h.2
 have u1:=Rat.mul_le_mul_of_nonneg_right h2 hN
 have u2:=Rat.mul_le_mul_of_nonneg_right h1 hN
 rw [e] at u1 u2
 have v1:x≤((C*N:Nat):Int):=by
  rw [← Rat.intCast_le_intCast]; push_cast; exact u1
 have v2 : -((C*N:Nat):Int)≤x:=by
  rw [← Rat.intCast_le_intCast]; push_cast
  rw [Rat.neg_mul] at u2; exact u2
 omega
end Bq
namespace Bq
def Vld (ps:List (Int×Int)):Prop:=∀ p∈ps,ofQ (toQ p)=p
def fq (ps:List (Int×Int)) (w:Nat):Rat:=toQ (ps.getD w (0,0))
theorem Ji {ps:List (Int×Int)} {k:Nat} (hk:k<ps.length):ps.getD k (0,0)∈ps:=by
 rw [List.getD,List.getElem?_eq_getElem hk]; exact List.getElem_mem hk
def chB (m:Int) (p:Int×Int):Bool:=(decide (1≤p.2)&&(decide (p.2≤m)&&(Nat.gcd p.1.natAbs p.2.natAbs==1)))&&(decide (0≤p.1)&&decide (p.1≤p.2))
theorem chB_okP (p:Int×Int):chB 10000000000 p=(okP p&&decide (p.1≤p.2)):=by
 rw [chB,okP,Bool.eq_iff_iff]
 simp only [Bool.and_eq_true,decide_eq_true_eq,beq_iff_eq]
 constructor
 · rintro ⟨⟨h1,h2,h3⟩,h4,h5⟩; exact ⟨⟨⟨⟨h1,h2⟩,h4⟩,h3⟩,h5⟩
 · rintro ⟨⟨⟨⟨h1,h2⟩,h4⟩,h3⟩,h5⟩; exact ⟨⟨h1,h2,h3⟩,h4,h5⟩
structure Chn (ps:List (Int×Int)):Prop where
 m:mult ps≠0
 le : ∀ p∈ps,p.1≤p.2
theorem Chn.ok {ps:List (Int×Int)} (c:Chn ps) {p:Int×Int} (hp:p∈ps):okP p=true:=(mult_spec c.m).1 p hp
theorem Chn.vld {ps:List (Int×Int)} (c:Chn ps):Vld ps:=fun p hp=>okP_ofQ (c.ok hp)
theorem Chn.rp {ps:List (Int×Int)} (c:Chn ps) {p:Int×Int} (hp:p∈ps):Rp (mult ps) ((mult ps:Int) / p.2*p.1) (toQ p)∧0≤(mult ps:Int) / p.2*p.1∧(mult ps:Int) / p.2*p.1≤mult ps∧1≤p.2∧0≤p.1∧(p.2∣(mult ps:Int)):=by
 have hok:=c.ok hp
 have hd:=mult_dvd c.m hp
 have e:=okP_ofQ hok
 have e1:(toQ p).num=p.1:=congrArg Prod.fst e
 have e2:((toQ p).den:Int)=p.2:=congrArg Prod.snd e
 have hle:=c.le p hp
 simp only [okP,Bool.and_eq_true,decide_eq_true_eq] at hok
 have r:=Rp.up' (Rp.own (toQ p)) hd (Nat.pos_of_ne_zero c.m)
 have e3:(mult ps:Int) / p.2*p.1=(toQ p).num*((mult ps / (toQ p).den:Nat):Int):=by
  rw [e1,Int.natCast_ediv,e2,Int.mul_comm]
 rw [e3]
 have hn:0≤(toQ p).num*((mult ps / (toQ p).den:Nat):Int):=Int.mul_nonneg (by omega) (Int.natCast_nonneg _)
 refine ⟨r,hn,?_,by omega,by omega,?_⟩
 · have hb:=r.bound (C:=1) (by have:=okP_pos (c.ok hp); have h2:(0:Rat)≤((1:Nat):Rat):=Rat.natCast_nonneg; have : -((1:Nat):Rat)≤0:=by decide
                               exact Rat.le_trans this ‹0≤toQ p›) ((okP_le (c.ok hp)).2 hle)
   omega
 · rw [← e2]; exact Int.natCast_dvd_natCast.2 hd
theorem Chn.unit {ps:List (Int×Int)} (c:Chn ps) {k:Nat} (hk:k<ps.length):0≤fq ps k∧fq ps k≤1∧(fq ps k).den∣mult ps :=
 ⟨okP_pos (c.ok (Ji hk)),(okP_le (c.ok (Ji hk))).2 (c.le _ (Ji hk)),mult_dvd c.m (Ji hk)⟩
structure Fc (ps:List (Int×Int)):Prop where
 len:2≤ps.length∧ps.length≤5
 c:Chn ps
 den : ∀ p∈ps,p.2≤60
 sum:Zv (fq ps) ps.length=1
 small:mult ps≤27885
theorem Fc.unit {ps:List (Int×Int)} (c:Fc ps) {k:Nat} (hk:k<ps.length):0≤fq ps k∧fq ps k≤1:=⟨(c.c.unit hk).1,(c.c.unit hk).2.1⟩
end Bq
namespace Bq
abbrev Wp:=Nat→Nat→Rat
def Vz (a p:Nat) (T:Wp):Wp:=fun i=>if i=a then T p else if i=p then T a else T i
def normT (a:Nat) (T:Wp):Wp:=fun i c=>if i=a then T a c / T a a else T i c
def elimT (a:Nat) (T:Wp):Wp:=fun i c=>if i=a then T a c else T i c-T i a*T a c
def findP (m a:Nat) (T:Wp):Option Nat:=(List.range m).find? fun p=>decide (a≤p)&&decide (T p a≠0)
def Vg (m a:Nat) (T:Wp):Option Wp:=(findP m a T).map fun p=>elimT a (normT a (Vz a p T))
def Xp (m:Nat) (T:Wp):Nat→Option Wp
 | 0=>some T
 | j+1=>(Xp m T j).bind (Vg m j)
def restT (m k:Nat) (T:Wp):Bool:=(List.range m).any fun i=>decide (k≤i)&&decide (T i k≠0)
def Wu (m k:Nat) (T:Wp):Option (List Rat):=(Xp m T k).bind fun S=>if restT m k S then none else some ((List.range k).map fun i=>S i k)
def Tame (m k:Nat) (T:Wp):Prop:=∃ D:Nat,0<D∧D≤1073741824∧∀ i c,i<m→c≤k→∃ x:Int,Rp D x (T i c)∧x.natAbs≤1073741824
theorem find_spec {n:Nat} {F:Nat→Bool} {k:Nat} (hk:k<n) (hF:F k=true) (hlo : ∀ i,i<k→F i=false):(List.range n).find? F=some k:=by
 rw [List.find?_eq_some_iff_append]
 refine ⟨hF,List.range k,(List.range' (k+1) (n-(k+1))),?_,fun a ha=>by simp [hlo a (List.mem_range.1 ha)]⟩
 apply List.ext_getElem?
 intro i
 rw [List.getElem?_append,List.length_range]
 by_cases h:i<k
 · simp [h,show i<n by omega]
 · rw [if_neg h]
   rcases Nat.eq_or_lt_of_le (Nat.not_lt.1 h) with h1 | h1
   · subst h1; simp [hk]
   · rw [show i-k=(i-(k+1))+1 by omega,List.getElem?_cons_succ]
     by_cases h2:i<n
     · rw [List.getElem?_range h2,List.getElem?_range' (by omega)]; congr 1; omega
     · rw [List.getElem?_eq_none (by simp; omega),List.getElem?_eq_none (by simp; omega)]
theorem find_none {n:Nat} {F:Nat→Bool} (h : ∀ i,i<n→F i=false):(List.range n).find? F=none:=by
 rw [List.find?_eq_none]
 intro x hx
 simp [h x (List.mem_range.1 hx)]
theorem find_some {n:Nat} {F:Nat→Bool} {k:Nat} (h:(List.range n).find? F=some k):k<n∧F k=true∧∀ i,i<k→F i=false:=by
 have h1:=List.find?_some h
 have h2:=List.mem_of_find?_eq_some h
 refine ⟨List.mem_range.1 h2,h1,fun i hi=>?_⟩
 cases hF:F i with
 | false=>rfl
 | true =>
   exfalso
   have hin:=List.mem_range.1 h2
   have key : ∀ i,i<k→F i=true→(∀ j,j<i→F j=false)→False:=fun i hi hF hlo=>by
    have:=find_spec (show i<n by omega) hF hlo
    rw [h] at this; cases this; omega
   induction i using Nat.strongRecOn with
   | _ i ih =>
     exact key i hi hF fun j hj=>by
      cases hb:F j with
      | false=>rfl
      | true=>exact (ih j hj (by omega) hb).elim
theorem findP_some {m a p:Nat} {T:Wp} (h:findP m a T=some p):p<m∧a≤p∧T p a≠0∧∀ i,a≤i→i<p→T i a=0:=by
 obtain ⟨h1,h2,h3⟩:=find_some h
 simp only [Bool.and_eq_true,decide_eq_true_eq] at h2
 refine ⟨h1,h2.1,h2.2,fun i ha hi=>?_⟩
 have:=h3 i hi
 simp only [Bool.and_eq_false_iff,decide_eq_false_iff_not] at this
 rcases this with h4 | h4
 · omega
 · exact Decidable.not_not.1 h4
end Bq
namespace Go.Proofs.Tryd.Am.Be
open Go.Proofs.Tryd.Am
open Go.Am Bq
set_option maxRecDepth 100000
set_option maxHeartbeats 1000000
def rowC (T:Wp) (k i:Nat):List (Int×Int):=(List.range (k+1)).map fun c=>ofQ (T i c)
theorem rowC_len (T:Wp) (k i:Nat):(rowC T k i).length=k+1:=by simp [rowC]
theorem rowC_get (T:Wp) {k i c:Nat} (hc:c≤k):(rowC T k i).getD c (0,0)=ofQ (T i c):=by
 simp [rowC,List.getD,show c<k+1 by omega]
def upd (T:Wp) (i c:Nat) (x:Rat):Wp:=fun a d=>if a=i∧d=c then x else T a d
theorem rowC_upd (T:Wp) {k i c:Nat} (hc:c≤k) (x:Rat):(rowC T k i).set c (ofQ x)=rowC (upd T i c x) k i:=by
 apply List.ext_getElem?
 intro d
 rw [List.getElem?_set,rowC_len]
 by_cases h:c=d
 · subst h
   rw [if_pos rfl,if_pos (by omega)]
   simp [rowC,show c<k+1 by omega,upd]
 · rw [if_neg h]
   simp only [rowC,List.getElem?_map]
   by_cases hd:d<k+1
   · simp [hd,upd,Ne.symm h]
   · rw [List.getElem?_eq_none (by simp; omega)]; rfl
theorem rowC_congr {T T' : Wp} {k i:Nat} (h : ∀ c,c≤k→T i c=T' i c):rowC T k i=rowC T' k i :=
 List.map_congr_left fun c hc=>by rw [h c (by have:=List.mem_range.1 hc; omega)]
theorem rowC_other (T:Wp) {k i i' c:Nat} (hi:i'≠i) (x:Rat):rowC (upd T i c x) k i' = rowC T k i':=rowC_congr fun d _=>by simp [upd,hi]
structure Mat (h:Zh) (B m k:Nat) (w:Nat→Value) (bk:Nat→Nat) (T:Wp):Prop where
 outer : ∃ us,h[B]? = some (.cells ((List.range m).map w++us) 43 false)
 row : ∀ i,i<m→∃ c xs,w i = .slice (some ⟨bk i,0,some 0⟩) (k+1) c∧k+1≤c∧h[bk i]? = some (.ints (Ye (rowC T k i)++xs) 45 false)
 inj : ∀ i j,i<m→j<m→bk i=bk j→i=j
 sep : ∀ i,i<m→bk i≠B
section
variable {h h' : Zh} {B m k C:Nat} {w:Nat→Value} {bk:Nat→Nat} {T T' : Wp}
theorem Mat.lt (M:Mat h B m k w bk T) {i:Nat} (hi:i<m):bk i<h.length:=by
 obtain ⟨c,xs,_,_,h3⟩:=M.row i hi; exact Yb h3
theorem Mat.blt (M:Mat h B m k w bk T):B<h.length:=by
 obtain ⟨us,h1⟩:=M.outer; exact Yb h1
theorem Mat.ext (M:Mat h B m k w bk T) (hE:Ext (fun _=>False) h h'):Mat h' B m k w bk T where
 outer:=by
  obtain ⟨us,h1⟩:=M.outer
  exact ⟨us,(hE.2 _ (Yb h1) id).trans h1⟩
 row i hi:=by
  obtain ⟨c,xs,h1,h2,h3⟩:=M.row i hi
  exact ⟨c,xs,h1,h2,(hE.2 _ (Yb h3) id).trans h3⟩
 inj:=M.inj
 sep:=M.sep
theorem Mat.congr (M:Mat h B m k w bk T) (hT : ∀ i c,i<m→c≤k→T i c=T' i c):Mat h B m k w bk T' where
 outer:=M.outer
 row i hi:=by
  obtain ⟨c,xs,h1,h2,h3⟩:=M.row i hi
  exact ⟨c,xs,h1,h2,by rw [← rowC_congr fun c hc=>hT i c hi hc]; exact h3⟩
 inj:=M.inj
 sep:=M.sep
theorem Mat.idx (i:Nat) (hi:i<m) {K:Value→Prop}:Xb prog 125 (.slice (some ⟨B,0,some 0⟩) m C) (Zd (i:Nat)) K=K (.pointer (some ⟨B,i,none⟩)):=by
 simp only [Xb,el_125,esz_43,Int.natCast_nonneg,Int.toNat_natCast,Nat.mul_one,Nat.zero_add,true_and,Int.ofNat_lt.2 hi]
theorem Mat.loadRow (M:Mat h B m k w bk T) {i:Nat} (hi:i<m) {K:Value→Prop}:Xs prog h 43 (.pointer (some ⟨B,i,none⟩)) K=K (w i):=by
 obtain ⟨us,h1⟩:=M.outer
 refine loadC h1 shp_43 ?_
 rw [List.getElem?_append_left (by simpa using hi)]
 simp [hi]
theorem Mat.lenR (M:Mat h B m k w bk T) {i:Nat} (hi:i<m) {K:Value→Prop}:lenK (w i) K=K (Zd ((k+1:Nat):Int)):=by
 obtain ⟨c,xs,h1,h2,h3⟩:=M.row i hi
 rw [h1]; rfl
theorem Mat.idxR (M:Mat h B m k w bk T) {i c:Nat} (hi:i<m) (hc:c≤k) {K:Value→Prop}:Xb prog 43 (w i) (Zd (c:Nat)) K=K (.pointer (some ⟨bk i,c*2,none⟩)):=by
 obtain ⟨cc,xs,h1,h2,h3⟩:=M.row i hi
 rw [h1]
 simp only [Xb,el_43,Ub,Int.natCast_nonneg,Int.toNat_natCast,Nat.zero_add,true_and,show ((c:Nat):Int)<((k+1:Nat):Int) by omega]
theorem flat_two (ps:List (Int×Int)) (ys:List Int) {i:Nat} (hi:i<ps.length):((Ye ps++ys).drop (i*2)).take 2=[(ps.getD i (0,0)).1,(ps.getD i (0,0)).2]∧i*2+2≤(Ye ps++ys).length∧(Ye ps++ys).getD (i*2) 0=(ps.getD i (0,0)).1:=by
 obtain ⟨h1,h2⟩:=flatP_get ps i hi
 have hl:=Xz ps
 have g1:(Ye ps++ys)[i*2]? = some (ps.getD i (0,0)).1:=by rw [List.getElem?_append_left (by omega)]; exact h1
 have g2:(Ye ps++ys)[i*2+1]? = some (ps.getD i (0,0)).2:=by rw [List.getElem?_append_left (by omega)]; exact h2
 refine ⟨?_,by rw [List.length_append]; omega,by rw [List.getD,g1]; rfl⟩
 obtain ⟨l1,e1⟩:=List.getElem?_eq_some_iff.1 g1
 obtain ⟨l2,e2⟩:=List.getElem?_eq_some_iff.1 g2
 rw [List.drop_eq_getElem_cons l1,List.take_succ_cons,List.drop_eq_getElem_cons l2,List.take_succ_cons,List.take_zero,e1,e2]
theorem Mat.loadE (M:Mat h B m k w bk T) {i c:Nat} (hi:i<m) (hc:c≤k) {K:Value→Prop}:Xs prog h 45 (.pointer (some ⟨bk i,c*2,none⟩)) K=K (qV (T i c)):=by
 obtain ⟨cc,xs,h1,h2,h3⟩:=M.row i hi
 obtain ⟨f1,f2,f3⟩:=flat_two (rowC T k i) xs (show c<(rowC T k i).length by rw [rowC_len]; omega)
 rw [rowC_get T hc] at f1
 simp only [Xs,Je,Xr,h3,f1,f2,true_and]
 rfl
theorem Mat.loadN (M:Mat h B m k w bk T) {i c:Nat} (hi:i<m) (hc:c≤k) {K:Value→Prop}:Xs prog h 3 (.pointer (some ⟨bk i,c*2,none⟩)) K=K (Zd (T i c).num):=by
 obtain ⟨cc,xs,h1,h2,h3⟩:=M.row i hi
 obtain ⟨f1,f2,f3⟩:=flat_two (rowC T k i) xs (show c<(rowC T k i).length by rw [rowC_len]; omega)
 rw [rowC_get T hc] at f3
 simp only [Xs,Yy,cellK,h3,f3,show c*2<(Ye (rowC T k i)++xs).length by omega,true_and]
 rfl
theorem fA0o {b o:Nat} {K:Value→Prop}:Yt prog 45 (.pointer (some ⟨b,o,none⟩)) 0 K=K (.pointer (some ⟨b,o,none⟩)):=by
 simp [Yt,fld_45_0,Wm]
theorem Mat.storeE (M:Mat h B m k w bk T) {i c:Nat} (hi:i<m) (hc:c≤k) (x:Rat) : ∃ h',(∀ K:Zh→Prop,Xq prog h 45 (.pointer (some ⟨bk i,c*2,none⟩)) (qV x) K=K h')∧Mat h' B m k w bk (upd T i c x)∧Ext (fun b=>b=bk i) h h'∧∀ b,b≠bk i→h'[b]? = h[b]?:=by
 obtain ⟨cc,xs,h1,h2,h3⟩:=M.row i hi
 refine ⟨h.set (bk i) (.ints (Ye (rowC (upd T i c x) k i)++xs) 45 false),fun K=>?_,⟨?_,?_,M.inj,M.sep⟩,Ext.set _ rfl,fun b hb=>List.getElem?_set_ne (Ne.symm hb)⟩
 · rw [← rowC_upd T hc x]
   exact storePI h3 Je (by rw [rowC_len]; omega)
 · obtain ⟨us,g1⟩:=M.outer
   exact ⟨us,by rw [List.getElem?_set_ne (M.sep i hi)]; exact g1⟩
 · intro j hj
   by_cases hji:j=i
   · subst hji
     exact ⟨cc,xs,h1,h2,Xf (M.lt hj) _⟩
   · obtain ⟨c2,xs2,g1,g2,g3⟩:=M.row j hj
     refine ⟨c2,xs2,g1,g2,?_⟩
     rw [List.getElem?_set_ne (fun he=>hji (M.inj _ _ hj hi he.symm)),rowC_other T hji]
     exact g3
def swp {α:Type} (a p:Nat) (w:Nat→α):Nat→α:=fun i=>if i=a then w p else if i=p then w a else w i
theorem set_range {α:Type} (w:Nat→α) {m i:Nat} (us:List α) (x:α) (hi:i<m):((List.range m).map w++us).set i x=(List.range m).map (fun j=>if j=i then x else w j)++us:=by
 rw [List.set_append_left _ _ (by simpa using hi)]
 congr 1
 apply List.ext_getElem?
 intro j
 rw [List.getElem?_set,List.length_map,List.length_range]
 by_cases h:i=j
 · subst h; simp [hi]
 · rw [if_neg h,List.getElem?_map,List.getElem?_map]
   by_cases hj:j<m
   · simp [hj,Ne.symm h]
   · rw [List.getElem?_eq_none (by simp; omega)]; rfl
theorem Mat.swap (M:Mat h B m k w bk T) {a p:Nat} (ha:a<m) (hp:p<m) : ∃ h1 h2,(∀ K:Zh→Prop,Xq prog h 43 (.pointer (some ⟨B,a,none⟩)) (w p) K=K h1)∧(∀ K:Zh→Prop,Xq prog h1 43 (.pointer (some ⟨B,p,none⟩)) (w a) K=K h2) ∧
  Mat h2 B m k (swp a p w) (swp a p bk) (Vz a p T)∧Ext (fun b=>b=B) h h2∧∀ b,b≠B→h2[b]? = h[b]?:=by
 obtain ⟨us,g1⟩:=M.outer
 have one_w : ∀ i,i<m→one (w i)=true:=fun i hi=>by
  obtain ⟨c,xs,e1,_⟩:=M.row i hi
  rw [e1]; rfl
 have hl : ∀ i,i<m→i<((List.range m).map w++us).length:=fun i hi=>by simp; omega
 have s1 : ∀ K:Zh→Prop,Xq prog h 43 (.pointer (some ⟨B,a,none⟩)) (w p) K=K (h.set B (.cells ((List.range m).map (fun j=>if j=a then w p else w j)++us) 43 false)):=fun K=>by
  rw [storeC g1 shp_43 (one_w p hp) (hl a ha),set_range w us _ ha]
 have g2:(h.set B (.cells ((List.range m).map (fun j=>if j=a then w p else w j)++us) 43 false))[B]? = some (.cells ((List.range m).map (fun j=>if j=a then w p else w j)++us) 43 false):=Xf M.blt _
 have s2 : ∀ K:Zh→Prop,Xq prog (h.set B (.cells ((List.range m).map (fun j=>if j=a then w p else w j)++us) 43 false)) 43 (.pointer (some ⟨B,p,none⟩)) (w a) K =
   K (h.set B (.cells ((List.range m).map (swp a p w)++us) 43 false)):=fun K=>by
  rw [storeC g2 shp_43 (one_w a ha) (by simp; omega),set_range _ us _ hp,List.set_set]
  have:(fun j=>if j=p then w a else if j=a then w p else w j)=swp a p w:=by
   funext j
   simp only [swp]
   by_cases h1:j=p
   · subst h1
     by_cases h2:j=a
     · subst h2; simp
     · simp [h2]
   · simp [h1]
  rw [this]
 have hcase : ∀ i,i<m→∃ i',i' < m∧swp a p w i=w i'∧swp a p bk i=bk i'∧Vz a p T i=T i'∧i' = swp a p id i:=fun i hi=>by
  by_cases h1:i=a
  · exact ⟨p,hp,by simp [swp,h1],by simp [swp,h1],by simp [Vz,h1],by simp [swp,h1]⟩
  · by_cases h2:i=p
    · subst h2; exact ⟨a,ha,by simp [swp,h1],by simp [swp,h1],by simp [Vz,h1],by simp [swp,h1]⟩
    · exact ⟨i,hi,by simp [swp,h1,h2],by simp [swp,h1,h2],by simp [Vz,h1,h2],by simp [swp,h1,h2]⟩
 refine ⟨_,_,s1,s2,⟨⟨us,Xf M.blt _⟩,fun i hi=>?_,fun i j hi hj he=>?_,fun i hi=>?_⟩,Ext.set _ rfl,fun b hb=>List.getElem?_set_ne (Ne.symm hb)⟩
 · obtain ⟨i',q1,q2,q3,q4,_⟩:=hcase i hi
   obtain ⟨c,xs,e1,e2,e3⟩:=M.row i' q1
   refine ⟨c,xs,by rw [q2,q3]; exact e1,e2,?_⟩
   rw [q3,List.getElem?_set_ne (fun he=>M.sep i' q1 he.symm),show rowC (Vz a p T) k i=rowC T k i' by simp only [rowC,q4]]
   exact e3
 · obtain ⟨i',q1,_,q3,_,q5⟩:=hcase i hi
   obtain ⟨j',r1,_,r3,_,r5⟩:=hcase j hj
   rw [q3,r3] at he
   have:=M.inj _ _ q1 r1 he
   rw [q5,r5] at this
   simp only [swp,id] at this
   grind
 · obtain ⟨i',q1,_,q3,_⟩:=hcase i hi
   rw [q3]; exact M.sep i' q1
theorem Mat.tail (M:Mat h B m k w bk T) {a:Nat} (ha:a<m) (hC:m≤C) {K:Value→Prop} (hk : ∀ v,ValSl h v ((List.range (m-a)).map fun i=>w (a+i))→K v):Xv prog 125 (.slice (some ⟨B,0,some 0⟩) m C) (some (Zd (a:Nat))) none none K:=by
 obtain ⟨us,g1⟩:=M.outer
 have hv:view h B=some ((List.range m).map w++us,43,false):=by simp [view,g1,Blk.view]
 have e1:(((List.range m).map w++us).drop a).take (m-a)=(List.range (m-a)).map fun i=>w (a+i):=by
  apply List.ext_getElem?
  intro i
  rw [List.getElem?_take]
  by_cases hi:i<m-a
  · rw [if_pos hi,List.getElem?_drop,List.getElem?_append_left (by simp; omega)]
    simp [hi,show a+i<m by omega]
  · rw [if_neg hi,List.getElem?_eq_none (by simp; omega)]
 have key : ∀ v,v = .slice (some ⟨B,a,some 0⟩) (m-a) (C-a)→K v:=fun v hv'=>hk v (.inr ⟨B,a,some 0,C-a,_,_,_,by rw [hv']; simp,by simp; omega,hv,by simp only [List.length_map,List.length_range]; exact e1⟩)
 simp only [Xv,el_125,esz_43,bnd]
 refine ⟨by omega,by omega,by omega,fun h0=>by simp at h0,fun _=>?_⟩
 rcases Nat.eq_zero_or_pos a with h0 | h0
 · subst h0
   exact .inl ⟨rfl,key _ (by simp)⟩
 · refine .inr ⟨by omega,.inl ⟨by omega,by decide,key _ ?_⟩⟩
   have e2:((m:Int)-(a:Int)).toNat=m-a:=by omega
   have e3:C-((a:Int)).toNat=C-a:=by omega
   simp [e2]
end
def fstI (n:Nat) (F:Nat→Bool):Int:=match (List.range n).find? F with | some i=>(i:Int) | none=>-1
theorem s121_callW [Tabs Tryd.prog] {args:List Value} {h:Zh} {Q:Value→Zh→Prop} (hsz:args.length≤19) (hk:AWS Tryd.prog 19 s121 (Zs Tryd.prog [.tmp 4] Q) (Zp 0 args) h):ACall Tryd.prog 121 args h Q :=
 Yz Tryd.func121 rfl (enters_of Tryd.func121 (by kernel_rfl) rfl) rfl rfl (by decide) s121_strip s121_ok hsz hk
theorem idxRow_call [Tabs prog] {h:Zh} {v:Value} {ws:List Value} {g:FuncId} {cap:Array Value} {F:Nat→Bool} (hv:ValSl h v ws) (hl:ws.length<9223372036854775808)
  (hc : ∀ i,i<ws.length→Xj prog g ([ws.getD i undef]++cap.toList) h (.bool (F i))):Xj prog 121 [v,.func (.func g) #[] cap] h (Zd (fstI ws.length F)):=by
 refine s121_callW (by simp) ?_
 simp only [s121]
 refine Zg fun N1 hN1=>?_
 simp (maxSteps:=2000000) only [↓Za,↓Zb,↓Zc,vup,cond_false,aop,Zf,Zp,ev,sput,Ze,Nat.reduceBEq,Nat.reduceAdd]
 refine hN1 [(0,v),(1,.func (.func g) #[] cap),(4,.int .i64 0)] _ _ ?_ (by simp (maxSteps:=2000000) only [vup,cond_true,cond_false,Nat.reduceBEq])
 clear hN1
 try clear N1
 refine Zt fun Z hZ=>?_
 refine Zg fun N2 hN2=>?_
 simp (maxSteps:=2000000) only [↓Za,↓Zb,↓Zc,vup,List.map_cons,List.map_nil,cond_true,cond_false,aop,Zf,ev,sput,Ze,Zi,Nat.reduceBEq,tyf,hv.len]
 refine hN2 [(0,v),(1,.func (.func g) #[] cap),(4,.int .i64 0),(6,v),(7,Zd ws.length),(8,.int .i64 0)] _ _ ?_ (by simp (maxSteps:=2000000) only [vup,cond_true,cond_false,Nat.reduceBEq])
 clear hN2
 try clear N2
 refine Zx ?_
 refine Zy fun Q hQ=>?_
 refine Xa (γ:=Nat) (fun k=>k≤ws.length∧∀ i,i<k→F i=false)
  (fun k=>([(0,v),(1,.func (.func g) #[] cap),(4,.int .i64 0),(6,v),(7,Zd ws.length),(8,Zd (k:Nat))],h)) (fun k=>ws.length-k) 0 ⟨Nat.zero_le _,fun i hi=>by omega⟩ (by simp (maxSteps:=2000000) only [vup,cond_true,cond_false,Nat.reduceBEq,Int.natCast_zero]) rfl ?_
 rintro k ⟨hk,hall⟩
 refine Zy fun Q2 hQ2=>?_
 simp only [l121_0]
 by_cases hin:(k:Int)<ws.length
 · have hk' : k<ws.length:=by omega
   refine Zg fun N3 hN3=>?_
   simp (maxSteps:=2000000) only [↓Za,↓Zb,↓Zc,vup,cond_true,cond_false,aop,Zf,ev,sput,Ze,Yf,Yi,Nat.reduceBEq,hin]
   refine hN3 [(0,v),(1,.func (.func g) #[] cap),(4,.int .i64 0),(6,v),(7,Zd ws.length),(8,Zd (k:Nat)),(9,.bool true)] _ _ ?_ (by simp (maxSteps:=2000000) only [vup,cond_true,cond_false,Nat.reduceBEq])
   clear hN3
   try clear N3
   refine Zg fun N4 hN4=>?_
   simp (maxSteps:=2000000) only [↓Zn,↓vdn,vup,cond_true,cond_false,Zf,ev,Nat.reduceBEq]
   refine hN4 [(0,v),(1,.func (.func g) #[] cap),(4,.int .i64 0),(6,v),(7,Zd ws.length),(8,Zd (k:Nat))] _ _ ?_ (by simp (maxSteps:=2000000) only [vup,cond_true,cond_false,Nat.reduceBEq])
   clear hN4
   try clear N4
   refine Zt fun B hB=>?_
   refine Zx ?_
   refine Zg fun N5 hN5=>?_
   simp (maxSteps:=2000000) only [↓Za,↓Zb,↓Zc,vup,cond_true,cond_false,aop,Zf,ev,sput,Ze,Nat.reduceBEq]
   refine hN5 [(0,v),(1,.func (.func g) #[] cap),(4,.int .i64 0),(5,Zd (k:Nat)),(6,v),(7,Zd ws.length),(8,Zd (k:Nat))] _ _ ?_ (by simp (maxSteps:=2000000) only [vup,cond_true,cond_false,Nat.reduceBEq])
   clear hN5
   try clear N5
   refine Zg fun N6 hN6=>?_
   simp (maxSteps:=2000000) only [↓Za,↓Zb,↓Zc,vup,List.map_cons,List.map_nil,cond_true,cond_false,aop,Zf,ev,sput,Ze,Nat.reduceBEq,hv.idx el_125 esz_43 hk',hv.load shp_43 hk',Yn,List.nil_append]
   refine (hc k hk').mono ?_
   rintro _ h ⟨rfl,rfl⟩
   refine hN6 [(0,v),(1,.func (.func g) #[] cap),(4,.int .i64 0),(5,Zd (k:Nat)),(6,v),(7,Zd ws.length),(8,Zd (k:Nat)),(16,.bool (F k))] _ _ ?_ (by simp (maxSteps:=2000000) only [vup,cond_true,cond_false,Nat.reduceBEq])
   clear hN6
   try clear N6
   refine Zm ?_
   cases hf:F k with
   | true =>
     simp (maxSteps:=2000000) only [↓Za,↓Zl,↓Zu,↓Zb,↓Zc,↓vdn,vup,cond_true,cond_false,aop,Zf,Zo,ev,sput,Ze,Nat.reduceBEq]
     refine hQ2 _ _ _ (hQ _ _ _ ?_)
     have e:fstI ws.length F=(k:Int):=by rw [fstI,find_spec hk' hf hall]
     simp (maxSteps:=2000000) only [vup,cond_true,cond_false,Zf,Zo,Nat.reduceBEq,Zs,Xn,tup,e]
   | false =>
     simp (maxSteps:=2000000) only [↓Zn,↓vdn,vup,cond_true,cond_false,Zf,Zo,ev,Nat.reduceBEq]
     refine hB [(0,v),(1,.func (.func g) #[] cap),(4,.int .i64 0),(6,v),(7,Zd ws.length),(8,Zd (k:Nat))] _ _ ?_ (by simp (maxSteps:=2000000) only [vup,cond_true,cond_false,Nat.reduceBEq])
     clear hB
     try clear B
     refine Zm ?_
     simp (maxSteps:=2000000) only [↓Za,↓Zb,↓Zc,vup,cond_true,cond_false,aop,ev,sput,Ze,Yf,Yi,Nat.reduceBEq,add1 (show k<9223372036854775807 by omega)]
     refine hQ2 _ _ _ ⟨k+1,⟨hk',fun i hi=>?_⟩,by omega,by simp (maxSteps:=2000000) only [vup,cond_true,cond_false,Nat.reduceBEq],rfl⟩
     rcases Nat.lt_or_ge i k with h1 | h1
     · exact hall i h1
     · rw [show i=k by omega]; exact hf
 · obtain rfl:k=ws.length:=by omega
   refine Zg fun N7 hN7=>?_
   simp (maxSteps:=2000000) only [↓Za,↓Zb,↓Zc,vup,cond_true,cond_false,aop,Zf,ev,sput,Ze,Yf,Yi,Nat.reduceBEq,hin]
   refine hN7 [(0,v),(1,.func (.func g) #[] cap),(4,.int .i64 0),(6,v),(7,Zd ws.length),(8,Zd ws.length),(9,.bool false)] _ _ ?_ (by simp (maxSteps:=2000000) only [vup,cond_true,cond_false,Nat.reduceBEq])
   clear hN7
   try clear N7
   refine Zg fun N8 hN8=>?_
   simp (maxSteps:=2000000) only [↓Yo,↓vdn,vup,cond_true,cond_false,Zf,ev,Nat.reduceBEq]
   refine hQ2 _ _ _ (hQ _ _ _ ?_)
   simp (maxSteps:=2000000) only [Zf,Zo,Zs,if_true]
   refine hZ [(0,v),(1,.func (.func g) #[] cap),(4,.int .i64 0),(6,v),(7,Zd ws.length),(8,Zd ws.length),(9,.bool false)] _ _ ?_ (by simp (maxSteps:=2000000) only [vup,cond_true,cond_false,Nat.reduceBEq])
   clear hZ
   try clear Z
   refine Zm ?_
   have e:fstI ws.length F = -1:=by rw [fstI,find_none hall]
   simp (maxSteps:=2000000) only [↓Za,↓Zl,↓Zu,↓Zb,↓Zc,vup,cond_true,cond_false,aop,Zf,ev,sput,Ze,Nat.reduceBEq,Zs,Xn,tup,e]
theorem s122_callW [Tabs Tryd.prog] {args:List Value} {h:Zh} {Q:Value→Zh→Prop} (hsz:args.length≤10) (hk:AWS Tryd.prog 10 s122 (Zs Tryd.prog [.tmp 3] Q) (Zp 0 args) h):ACall Tryd.prog 122 args h Q :=
 Yz Tryd.func122 rfl (enters_of Tryd.func122 (by kernel_rfl) rfl) rfl rfl (by decide) s122_strip s122_ok hsz hk
theorem nonzero_call [Tabs prog] {h:Zh} {B m k b a i:Nat} {w:Nat→Value} {bk:Nat→Nat} {T:Wp} (M:Mat h B m k w bk T) (hb:h[b]? = some (.cells [Zd (a:Nat)] 3 false)) (hi:i<m) (ha:a≤k) :
  Xj prog 122 [w i,.pointer (some ⟨b,0,none⟩)] h (.bool (decide (T i a≠0))):=by
 refine s122_callW (by simp) ?_
 refine Zm ?_
 have e:(((T i a).num) != 0)=decide (T i a≠0):=by
  rw [Bool.eq_iff_iff]
  simp [Rat.num_eq_zero]
 simp (maxSteps:=2000000) only [s122,↓Za,↓Zl,↓Zu,↓Zb,↓Zc,vup,cond_true,cond_false,aop,Zf,Zp,ev,sput,Ze,Yf,Yi,Nat.reduceBEq,Nat.reduceAdd,Zs,Xn,tup,tyf,Xl hb Yy,M.idxR hi ha,fA0o,M.loadN hi ha,e]
end Go.Proofs.Tryd.Am.Be

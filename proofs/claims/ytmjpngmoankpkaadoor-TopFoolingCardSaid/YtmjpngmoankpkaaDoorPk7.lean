/-
  Printed by gen.py: the code of some functions, without what no step looks at; held against the program's own by the kernel.
  top: tables of rows; whether one is valid.
  top: the entries of a table with a value.
  Printed by gen.py: the code of some functions, without what no step looks at; held against the program's own by the kernel.
  Printed by gen.py: the code of some functions, without what no step looks at; held against the program's own by the kernel.
  Plain theory: the lines of a relation (no program in sight).
  Plain theory: orders as lists of ints; their lines, counted by which sets can come first; an element taken out.
  order: an order as the program holds it; the small functions.
-/
import Derived.Test.YtmjpngmoankpkaaDoorPk3
import Derived.Test.YtmjpngmoankpkaaDoorProg
import Derived.KernelRfl
import Derived.Shelf.Abstract
import Derived.Test.YtmjpngmoankpkaaDoorPk6
import Derived.Test.YtmjpngmoankpkaaDoorPk4
set_option linter.all false
namespace Go.Proofs.Tryd.Am
open Go.Am
set_option maxRecDepth 100000
/-! 3: planchet planchettop.TopFooling -/
@[reducible] def q3_0:SCode:=.region [⟨some 4,.assign (.const (.bool false)),none⟩]
@[reducible] def q3_1:SCode:=.region [⟨some 23,.move (.tmp 0),none⟩,
  ⟨some 24,.call { callee:=.value (.func 7),args:=#[.tmp 23],argTypes:=#[22] },none⟩,
  ⟨some 25,.unOp .not 4 (.tmp 24),none⟩,
  ⟨some 26,.move (.tmp 25),none⟩,
  ⟨some 27,.move (.tmp 1),some (26,false)⟩,
  ⟨some 28,.call { callee:=.value (.func 8),args:=#[.tmp 27],argTypes:=#[3] },some (26,false)⟩,
  ⟨some 29,.unOp .not 4 (.tmp 28),some (26,false)⟩,
  ⟨some 30,.pick (.tmp 26) (.const (.bool true)) (.tmp 29),none⟩]
@[reducible] def q3_2:SCode:=.region [⟨some 31,.call { callee:=.value (.func 9),args:=#[],argTypes:=#[] },none⟩,
  ⟨some 4,.assign (.tmp 31),none⟩]
@[reducible] def q3_3:SCode:=.region [⟨some 5,.assign (.const (.slice none 0 0)),none⟩]
@[reducible] def q3_4:SCode:=.region [⟨some 32,.move (.tmp 0),none⟩,
  ⟨some 33,.call { callee:=.builtin .len,args:=#[.tmp 32],argTypes:=#[22] },none⟩,
  ⟨some 34,.move (.const (.int .i64 0)),none⟩]
@[reducible] def q3_5:SCode:=.region [⟨some 35,.binOp .lss 3 (.tmp 34) (.tmp 33) 3,none⟩]
@[reducible] def q3_6:SCode:=.region [⟨some 36,.move (.tmp 34),none⟩,
  ⟨some 37,.indexAddr 22 (.tmp 32) (.tmp 34),none⟩,
  ⟨some 38,.load 27 (.tmp 37),none⟩,
  ⟨some 6,.assign (.tmp 36),none⟩,
  ⟨some 7,.assign (.tmp 38),none⟩]
@[reducible] def q3_7:SCode:=.region [⟨some 39,.move (.tmp 7),none⟩,
  ⟨some 40,.call { callee:=.builtin .len,args:=#[.tmp 39],argTypes:=#[27] },none⟩,
  ⟨some 41,.move (.const (.int .i64 0)),none⟩]
@[reducible] def q3_8:SCode:=.region [⟨some 42,.binOp .lss 3 (.tmp 41) (.tmp 40) 3,none⟩]
@[reducible] def q3_9:SCode:=.region [⟨some 43,.move (.tmp 41),none⟩,
  ⟨some 44,.indexAddr 27 (.tmp 39) (.tmp 41),none⟩,
  ⟨some 45,.load 3 (.tmp 44),none⟩,
  ⟨some 8,.assign (.tmp 43),none⟩,
  ⟨some 9,.assign (.tmp 45),none⟩]
@[reducible] def q3_10:SCode:=.region [⟨some 46,.move (.tmp 9),none⟩,
  ⟨some 47,.move (.tmp 1),none⟩,
  ⟨some 48,.binOp .eql 3 (.tmp 46) (.tmp 47) 3,none⟩]
@[reducible] def q3_11:SCode:=.region [⟨some 49,.move (.tmp 5),none⟩,
  ⟨some 50,.move (.tmp 6),none⟩,
  ⟨some 51,.move (.tmp 8),none⟩,
  ⟨some 52,.build 28 #[(0,.tmp 50),(1,.tmp 51)],none⟩,
  ⟨some 53,.buildSlice 26 1 #[(0,.tmp 52)],none⟩,
  ⟨some 54,.call { callee:=.builtin .append,args:=#[.tmp 49,.tmp 53],argTypes:=#[26,26] },none⟩,
  ⟨some 5,.assign (.tmp 54),none⟩]
@[reducible] def q3_12:SCode:=.region [⟨some 55,.binOp .add 3 (.tmp 41) (.const (.int .i64 1)) 3,none⟩,
  ⟨some 41,.move (.tmp 55),none⟩]
def l3_0:SCode:=(.seq q3_8 (.seq (.cond (.tmp 42) .skip (.exit 2)) (.seq (.block 3 (.seq q3_9 (.seq q3_10 (.cond (.tmp 48) q3_11 .skip)))) q3_12)))
@[reducible] def q3_13:SCode:=.region [⟨some 56,.binOp .add 3 (.tmp 34) (.const (.int .i64 1)) 3,none⟩,
  ⟨some 34,.move (.tmp 56),none⟩]
def l3_1:SCode:=(.seq q3_5 (.seq (.cond (.tmp 35) .skip (.exit 0)) (.seq (.block 1 (.seq q3_6 (.seq q3_7 (.block 2 (.loop l3_0))))) q3_13)))
@[reducible] def q3_14:SCode:=.region [⟨some 58,.move (.tmp 0),none⟩,
  ⟨some 59,.move (.tmp 1),none⟩,
  ⟨some 60,.call { callee:=.value (.func 10),args:=#[.tmp 58,.tmp 59],argTypes:=#[22,3] },none⟩,
  ⟨some 57,.move (.tmp 60),none⟩,
  ⟨some 61,.extract (.tmp 57) 0,none⟩,
  ⟨some 62,.extract (.tmp 57) 1,none⟩,
  ⟨some 10,.assign (.tmp 61),none⟩,
  ⟨some 11,.assign (.tmp 62),none⟩]
@[reducible] def q3_15:SCode:=.region [⟨some 64,.move (.tmp 0),none⟩,
  ⟨some 65,.move (.tmp 1),none⟩,
  ⟨some 66,.call { callee:=.value (.func 11),args:=#[.tmp 64,.tmp 65],argTypes:=#[22,3] },none⟩,
  ⟨some 63,.move (.tmp 66),none⟩,
  ⟨some 67,.extract (.tmp 63) 0,none⟩,
  ⟨some 68,.extract (.tmp 63) 1,none⟩,
  ⟨some 12,.assign (.tmp 67),none⟩,
  ⟨some 13,.assign (.tmp 68),none⟩]
@[reducible] def q3_16:SCode:=.region [⟨some 69,.move (.tmp 11),none⟩,
  ⟨some 70,.binOp .neq 29 (.tmp 69) (.const (.int .i64 0)) 29,none⟩,
  ⟨some 71,.move (.tmp 70),none⟩,
  ⟨some 72,.move (.tmp 13),some (71,false)⟩,
  ⟨some 73,.binOp .neq 29 (.tmp 72) (.const (.int .i64 0)) 29,some (71,false)⟩,
  ⟨some 74,.pick (.tmp 71) (.const (.bool true)) (.tmp 73),none⟩]
@[reducible] def q3_17:SCode:=.region [⟨some 4,.assign (.const (.bool false)),none⟩]
@[reducible] def q3_18:SCode:=.region [⟨some 75,.move (.tmp 5),none⟩,
  ⟨some 76,.call { callee:=.builtin .len,args:=#[.tmp 75],argTypes:=#[26] },none⟩,
  ⟨some 77,.binOp .lss 3 (.tmp 76) (.const (.int .i64 1)) 3,none⟩,
  ⟨some 78,.move (.tmp 77),none⟩,
  ⟨some 79,.move (.tmp 5),some (78,false)⟩,
  ⟨some 80,.call { callee:=.builtin .len,args:=#[.tmp 79],argTypes:=#[26] },some (78,false)⟩,
  ⟨some 81,.binOp .gtr 3 (.tmp 80) (.const (.int .i64 6)) 3,some (78,false)⟩,
  ⟨some 82,.pick (.tmp 78) (.const (.bool true)) (.tmp 81),none⟩]
@[reducible] def q3_19:SCode:=.region [⟨some 83,.call { callee:=.value (.func 9),args:=#[],argTypes:=#[] },none⟩,
  ⟨some 4,.assign (.tmp 83),none⟩]
@[reducible] def q3_20:SCode:=.region [⟨some 84,.move (.tmp 5),none⟩,
  ⟨some 85,.call { callee:=.builtin .len,args:=#[.tmp 84],argTypes:=#[26] },none⟩,
  ⟨some 86,.makeSlice 27 (.tmp 85) (.tmp 85),none⟩,
  ⟨some 14,.assign (.tmp 86),none⟩]
@[reducible] def q3_21:SCode:=.region [⟨some 87,.move (.tmp 5),none⟩,
  ⟨some 88,.call { callee:=.builtin .len,args:=#[.tmp 87],argTypes:=#[26] },none⟩,
  ⟨some 89,.move (.const (.int .i64 0)),none⟩]
@[reducible] def q3_22:SCode:=.region [⟨some 90,.binOp .lss 3 (.tmp 89) (.tmp 88) 3,none⟩]
@[reducible] def q3_23:SCode:=.region [⟨some 91,.move (.tmp 89),none⟩,
  ⟨some 92,.indexAddr 26 (.tmp 87) (.tmp 89),none⟩,
  ⟨some 93,.load 28 (.tmp 92),none⟩,
  ⟨some 16,.alloc 28,none⟩,
  ⟨some 15,.assign (.tmp 91),none⟩,
  ⟨none,.store 28 (.tmp 16) (.tmp 93),none⟩]
@[reducible] def q3_24:SCode:=.region [⟨some 94,.move (.tmp 5),none⟩,
  ⟨some 95,.call { callee:=.builtin .len,args:=#[.tmp 94],argTypes:=#[26] },none⟩,
  ⟨some 96,.move (.const (.int .i64 0)),none⟩]
@[reducible] def q3_25:SCode:=.region [⟨some 97,.binOp .lss 3 (.tmp 96) (.tmp 95) 3,none⟩]
@[reducible] def q3_26:SCode:=.region [⟨some 98,.move (.tmp 96),none⟩,
  ⟨some 99,.indexAddr 26 (.tmp 94) (.tmp 96),none⟩,
  ⟨some 100,.load 28 (.tmp 99),none⟩,
  ⟨some 18,.alloc 28,none⟩,
  ⟨some 17,.assign (.tmp 98),none⟩,
  ⟨none,.store 28 (.tmp 18) (.tmp 100),none⟩]
def q3_27:SCode:=.draw [⟨some 101,.move (.tmp 15),none⟩,
    ⟨some 102,.move (.tmp 17),none⟩,
    ⟨some 103,.binOp .neq 3 (.tmp 101) (.tmp 102) 3,none⟩,
    ⟨some 104,.move (.tmp 103),none⟩,
    ⟨some 105,.move (.tmp 0),some (104,true)⟩,
    ⟨some 106,.indexAddr 28 (.tmp 16) (.const (.int .i64 0)),some (104,true)⟩,
    ⟨some 107,.load 3 (.tmp 106),some (104,true)⟩,
    ⟨some 108,.indexAddr 22 (.tmp 105) (.tmp 107),some (104,true)⟩,
    ⟨some 109,.load 27 (.tmp 108),some (104,true)⟩,
    ⟨some 110,.indexAddr 28 (.tmp 18) (.const (.int .i64 1)),some (104,true)⟩,
    ⟨some 111,.load 3 (.tmp 110),some (104,true)⟩,
    ⟨some 112,.indexAddr 27 (.tmp 109) (.tmp 111),some (104,true)⟩,
    ⟨some 113,.load 3 (.tmp 112),some (104,true)⟩,
    ⟨some 114,.move (.tmp 1),some (104,true)⟩,
    ⟨some 115,.binOp .eql 3 (.tmp 113) (.tmp 114) 3,some (104,true)⟩,
    ⟨some 116,.pick (.tmp 104) (.tmp 115) (.const (.bool false)),none⟩,
    ⟨some 117,.move (.tmp 116),none⟩,
    ⟨some 118,.move (.tmp 0),some (117,true)⟩,
    ⟨some 119,.indexAddr 28 (.tmp 18) (.const (.int .i64 0)),some (117,true)⟩,
    ⟨some 120,.load 3 (.tmp 119),some (117,true)⟩,
    ⟨some 121,.indexAddr 22 (.tmp 118) (.tmp 120),some (117,true)⟩,
    ⟨some 122,.load 27 (.tmp 121),some (117,true)⟩,
    ⟨some 123,.indexAddr 28 (.tmp 16) (.const (.int .i64 1)),some (117,true)⟩,
    ⟨some 124,.load 3 (.tmp 123),some (117,true)⟩,
    ⟨some 125,.indexAddr 27 (.tmp 122) (.tmp 124),some (117,true)⟩,
    ⟨some 126,.load 3 (.tmp 125),some (117,true)⟩,
    ⟨some 127,.move (.tmp 1),some (117,true)⟩,
    ⟨some 128,.binOp .eql 3 (.tmp 126) (.tmp 127) 3,some (117,true)⟩,
    ⟨some 129,.pick (.tmp 117) (.tmp 128) (.const (.bool false)),none⟩]
  [[],[],[0,1],[2],[3],[3],[5,3],[4,6,3],[7,3],[3],[9,3],[8,10,3],[11,3],[3],[12,13,3],[3,14],[15,3],[16],[16],[18,16],[17,19,16],[20,16],[16],[22,16],[21,23,16],[24,16],[16],[25,26,16],[16,27]]
def q3_28:SCode:=.draw [⟨some 130,.move (.tmp 14),none⟩,
    ⟨some 131,.move (.tmp 15),none⟩,
    ⟨some 132,.indexAddr 27 (.tmp 130) (.tmp 131),none⟩,
    ⟨some 133,.load 3 (.tmp 132),none⟩,
    ⟨some 134,.move (.tmp 17),none⟩,
    ⟨some 135,.binOp .shl 3 (.const (.int .i64 1)) (.tmp 134) 3,none⟩,
    ⟨some 136,.binOp .or 3 (.tmp 133) (.tmp 135) 3,none⟩,
    ⟨some 137,.indexAddr 27 (.tmp 130) (.tmp 131),none⟩,
    ⟨none,.store 3 (.tmp 137) (.tmp 136),none⟩]
  [[],[],[0,1],[2],[],[4],[3,5],[0,1,0,1,2,3,4,5,6],[7,6,0,1,2,3,4,5,6]]
@[reducible] def q3_29:SCode:=.region [⟨some 138,.binOp .add 3 (.tmp 96) (.const (.int .i64 1)) 3,none⟩,
  ⟨some 96,.move (.tmp 138),none⟩]
def l3_2:SCode:=(.seq q3_25 (.seq (.cond (.tmp 97) .skip (.exit 6)) (.seq (.block 7 (.seq q3_26 (.seq q3_27 (.cond (.tmp 129) q3_28 .skip)))) q3_29)))
@[reducible] def q3_30:SCode:=.region [⟨some 139,.binOp .add 3 (.tmp 89) (.const (.int .i64 1)) 3,none⟩,
  ⟨some 89,.move (.tmp 139),none⟩]
def l3_3:SCode:=(.seq q3_22 (.seq (.cond (.tmp 90) .skip (.exit 4)) (.seq (.block 5 (.seq q3_23 (.seq q3_24 (.block 6 (.loop l3_2))))) q3_30)))
@[reducible] def q3_31:SCode:=.region [⟨some 141,.move (.tmp 14),none⟩,
  ⟨some 142,.call { callee:=.value (.func 13),args:=#[.tmp 141],argTypes:=#[27] },none⟩,
  ⟨some 143,.call { callee:=.value (.func 12),args:=#[.tmp 142,.const (.int .i64 1)],argTypes:=#[27,3] },none⟩,
  ⟨some 140,.move (.tmp 143),none⟩,
  ⟨some 144,.extract (.tmp 140) 0,none⟩,
  ⟨some 145,.extract (.tmp 140) 1,none⟩,
  ⟨some 19,.assign (.tmp 144),none⟩,
  ⟨some 11,.assign (.tmp 145),none⟩]
@[reducible] def q3_32:SCode:=.region [⟨some 147,.move (.tmp 14),none⟩,
  ⟨some 148,.call { callee:=.value (.func 14),args:=#[.tmp 147],argTypes:=#[27] },none⟩,
  ⟨some 146,.move (.tmp 148),none⟩,
  ⟨some 149,.extract (.tmp 146) 0,none⟩,
  ⟨some 150,.extract (.tmp 146) 1,none⟩,
  ⟨some 20,.assign (.tmp 149),none⟩,
  ⟨some 13,.assign (.tmp 150),none⟩]
@[reducible] def q3_33:SCode:=.region [⟨some 151,.move (.tmp 11),none⟩,
  ⟨some 152,.binOp .neq 29 (.tmp 151) (.const (.int .i64 0)) 29,none⟩,
  ⟨some 153,.move (.tmp 152),none⟩,
  ⟨some 154,.move (.tmp 13),some (153,false)⟩,
  ⟨some 155,.binOp .neq 29 (.tmp 154) (.const (.int .i64 0)) 29,some (153,false)⟩,
  ⟨some 156,.pick (.tmp 153) (.const (.bool true)) (.tmp 155),none⟩,
  ⟨some 157,.move (.tmp 156),none⟩,
  ⟨some 158,.move (.tmp 19),some (157,false)⟩,
  ⟨some 159,.call { callee:=.builtin .len,args:=#[.tmp 158],argTypes:=#[27] },some (157,false)⟩,
  ⟨some 160,.move (.tmp 10),some (157,false)⟩,
  ⟨some 161,.call { callee:=.builtin .len,args:=#[.tmp 160],argTypes:=#[26] },some (157,false)⟩,
  ⟨some 162,.binOp .neq 3 (.tmp 159) (.tmp 161) 3,some (157,false)⟩,
  ⟨some 163,.pick (.tmp 157) (.const (.bool true)) (.tmp 162),none⟩,
  ⟨some 164,.move (.tmp 163),none⟩,
  ⟨some 165,.move (.tmp 12),some (164,false)⟩,
  ⟨some 166,.call { callee:=.builtin .len,args:=#[.tmp 165],argTypes:=#[26] },some (164,false)⟩,
  ⟨some 167,.move (.tmp 20),some (164,false)⟩,
  ⟨some 168,.binOp .lss 3 (.tmp 166) (.tmp 167) 3,some (164,false)⟩,
  ⟨some 169,.pick (.tmp 164) (.const (.bool true)) (.tmp 168),none⟩]
@[reducible] def q3_34:SCode:=.region [⟨some 4,.assign (.const (.bool false)),none⟩]
@[reducible] def q3_35:SCode:=.region [⟨some 170,.move (.tmp 19),none⟩,
  ⟨some 171,.call { callee:=.builtin .len,args:=#[.tmp 170],argTypes:=#[27] },none⟩,
  ⟨some 172,.move (.const (.int .i64 0)),none⟩]
@[reducible] def q3_36:SCode:=.region [⟨some 173,.binOp .lss 3 (.tmp 172) (.tmp 171) 3,none⟩]
@[reducible] def q3_37:SCode:=.region [⟨some 174,.move (.tmp 172),none⟩,
  ⟨some 175,.indexAddr 27 (.tmp 170) (.tmp 172),none⟩,
  ⟨some 176,.load 3 (.tmp 175),none⟩,
  ⟨some 21,.assign (.tmp 174),none⟩,
  ⟨some 22,.assign (.tmp 176),none⟩]
def q3_38:SCode:=.draw [⟨some 177,.move (.tmp 22),none⟩,
    ⟨some 178,.binOp .lss 3 (.tmp 177) (.const (.int .i64 0)) 3,none⟩,
    ⟨some 179,.move (.tmp 178),none⟩,
    ⟨some 180,.move (.tmp 22),some (179,false)⟩,
    ⟨some 181,.move (.tmp 5),some (179,false)⟩,
    ⟨some 182,.call { callee:=.builtin .len,args:=#[.tmp 181],argTypes:=#[26] },some (179,false)⟩,
    ⟨some 183,.binOp .geq 3 (.tmp 180) (.tmp 182) 3,some (179,false)⟩,
    ⟨some 184,.pick (.tmp 179) (.const (.bool true)) (.tmp 183),none⟩,
    ⟨some 185,.move (.tmp 184),none⟩,
    ⟨some 186,.move (.tmp 5),some (185,false)⟩,
    ⟨some 187,.move (.tmp 22),some (185,false)⟩,
    ⟨some 188,.indexAddr 26 (.tmp 186) (.tmp 187),some (185,false)⟩,
    ⟨some 189,.load 28 (.tmp 188),some (185,false)⟩,
    ⟨some 190,.move (.tmp 10),some (185,false)⟩,
    ⟨some 191,.move (.tmp 21),some (185,false)⟩,
    ⟨some 192,.indexAddr 26 (.tmp 190) (.tmp 191),some (185,false)⟩,
    ⟨some 193,.load 28 (.tmp 192),some (185,false)⟩,
    ⟨some 194,.binOp .neq 28 (.tmp 189) (.tmp 193) 28,some (185,false)⟩,
    ⟨some 195,.pick (.tmp 185) (.const (.bool true)) (.tmp 194),none⟩]
  [[],[0],[1],[2],[2],[4,2],[3,5,2],[2,6],[7,2],[8],[8],[9,10,8],[11,8],[8],[8],[13,14,8],[15,8],[12,16,8],[8,17]]
@[reducible] def q3_39:SCode:=.region [⟨some 4,.assign (.const (.bool false)),none⟩]
@[reducible] def q3_40:SCode:=.region [⟨some 196,.binOp .add 3 (.tmp 172) (.const (.int .i64 1)) 3,none⟩,
  ⟨some 172,.move (.tmp 196),none⟩]
def l3_4:SCode:=(.seq q3_36 (.seq (.cond (.tmp 173) .skip (.exit 8)) (.seq (.block 9 (.seq q3_37 (.seq q3_38 (.cond (.tmp 195) (.seq q3_39 .ret) .skip)))) q3_40)))
@[reducible] def q3_41:SCode:=.region [⟨some 197,.call { callee:=.value (.func 9),args:=#[],argTypes:=#[] },none⟩,
  ⟨some 4,.assign (.tmp 197),none⟩]
def s3:SCode:=(.seq q3_0 (.seq (.seq q3_1 (.cond (.tmp 30) (.seq q3_2 .ret) .skip)) (.seq q3_3 (.seq (.seq q3_4 (.block 0 (.loop l3_1))) (.seq q3_14 (.seq q3_15 (.seq (.seq q3_16 (.cond (.tmp 74) (.seq q3_17 .ret) .skip)) (.seq (.seq q3_18 (.cond (.tmp 82) (.seq q3_19 .ret) .skip)) (.seq q3_20 (.seq (.seq q3_21 (.block 4 (.loop l3_3))) (.seq q3_31 (.seq q3_32 (.seq (.seq q3_33 (.cond (.tmp 169) (.seq q3_34 .ret) .skip)) (.seq (.seq q3_35 (.block 8 (.loop l3_4))) (.seq q3_41 .ret)))))))))))))))
theorem s3_strip:Yi (Yg Tryd.f3)=s3:=by kernel_rfl
theorem s3_ok:Yu 198 (Yg Tryd.f3)=true:=by kernel_rfl
/-! 7: planchet planchetref03.Table -/
@[reducible] def q7_0:SCode:=.region [⟨some 2,.assign (.const (.bool false)),none⟩]
@[reducible] def q7_1:SCode:=.region [⟨some 7,.move (.tmp 0),none⟩,
  ⟨some 8,.call { callee:=.builtin .len,args:=#[.tmp 7],argTypes:=#[22] },none⟩,
  ⟨some 9,.binOp .lss 3 (.tmp 8) (.const (.int .i64 1)) 3,none⟩,
  ⟨some 10,.move (.tmp 9),none⟩,
  ⟨some 11,.move (.tmp 0),some (10,false)⟩,
  ⟨some 12,.call { callee:=.builtin .len,args:=#[.tmp 11],argTypes:=#[22] },some (10,false)⟩,
  ⟨some 13,.binOp .gtr 3 (.tmp 12) (.const (.int .i64 4)) 3,some (10,false)⟩,
  ⟨some 14,.pick (.tmp 10) (.const (.bool true)) (.tmp 13),none⟩,
  ⟨some 15,.move (.tmp 14),none⟩,
  ⟨some 16,.move (.tmp 0),some (15,false)⟩,
  ⟨some 17,.indexAddr 22 (.tmp 16) (.const (.int .i64 0)),some (15,false)⟩,
  ⟨some 18,.load 27 (.tmp 17),some (15,false)⟩,
  ⟨some 19,.call { callee:=.builtin .len,args:=#[.tmp 18],argTypes:=#[27] },some (15,false)⟩,
  ⟨some 20,.binOp .lss 3 (.tmp 19) (.const (.int .i64 1)) 3,some (15,false)⟩,
  ⟨some 21,.pick (.tmp 15) (.const (.bool true)) (.tmp 20),none⟩,
  ⟨some 22,.move (.tmp 21),none⟩,
  ⟨some 23,.move (.tmp 0),some (22,false)⟩,
  ⟨some 24,.indexAddr 22 (.tmp 23) (.const (.int .i64 0)),some (22,false)⟩,
  ⟨some 25,.load 27 (.tmp 24),some (22,false)⟩,
  ⟨some 26,.call { callee:=.builtin .len,args:=#[.tmp 25],argTypes:=#[27] },some (22,false)⟩,
  ⟨some 27,.binOp .gtr 3 (.tmp 26) (.const (.int .i64 4)) 3,some (22,false)⟩,
  ⟨some 28,.pick (.tmp 22) (.const (.bool true)) (.tmp 27),none⟩]
@[reducible] def q7_2:SCode:=.region [⟨some 2,.assign (.const (.bool false)),none⟩]
@[reducible] def q7_3:SCode:=.region [⟨some 29,.move (.tmp 0),none⟩,
  ⟨some 30,.call { callee:=.builtin .len,args:=#[.tmp 29],argTypes:=#[22] },none⟩,
  ⟨some 31,.move (.const (.int .i64 0)),none⟩]
@[reducible] def q7_4:SCode:=.region [⟨some 32,.binOp .lss 3 (.tmp 31) (.tmp 30) 3,none⟩]
@[reducible] def q7_5:SCode:=.region [⟨some 33,.indexAddr 22 (.tmp 29) (.tmp 31),none⟩,
  ⟨some 34,.load 27 (.tmp 33),none⟩,
  ⟨some 4,.assign (.tmp 34),none⟩]
@[reducible] def q7_6:SCode:=.region [⟨some 35,.move (.tmp 4),none⟩,
  ⟨some 36,.call { callee:=.builtin .len,args:=#[.tmp 35],argTypes:=#[27] },none⟩,
  ⟨some 37,.move (.tmp 0),none⟩,
  ⟨some 38,.indexAddr 22 (.tmp 37) (.const (.int .i64 0)),none⟩,
  ⟨some 39,.load 27 (.tmp 38),none⟩,
  ⟨some 40,.call { callee:=.builtin .len,args:=#[.tmp 39],argTypes:=#[27] },none⟩,
  ⟨some 41,.binOp .neq 3 (.tmp 36) (.tmp 40) 3,none⟩]
@[reducible] def q7_7:SCode:=.region [⟨some 2,.assign (.const (.bool false)),none⟩]
@[reducible] def q7_8:SCode:=.region [⟨some 42,.move (.tmp 4),none⟩,
  ⟨some 43,.call { callee:=.builtin .len,args:=#[.tmp 42],argTypes:=#[27] },none⟩,
  ⟨some 44,.move (.const (.int .i64 0)),none⟩]
@[reducible] def q7_9:SCode:=.region [⟨some 45,.binOp .lss 3 (.tmp 44) (.tmp 43) 3,none⟩]
@[reducible] def q7_10:SCode:=.region [⟨some 46,.indexAddr 27 (.tmp 42) (.tmp 44),none⟩,
  ⟨some 47,.load 3 (.tmp 46),none⟩,
  ⟨some 6,.assign (.tmp 47),none⟩]
@[reducible] def q7_11:SCode:=.region [⟨some 48,.move (.tmp 6),none⟩,
  ⟨some 49,.call { callee:=.value (.func 35),args:=#[.tmp 48],argTypes:=#[3] },none⟩,
  ⟨some 50,.unOp .not 4 (.tmp 49),none⟩]
@[reducible] def q7_12:SCode:=.region [⟨some 2,.assign (.const (.bool false)),none⟩]
@[reducible] def q7_13:SCode:=.region [⟨some 51,.binOp .add 3 (.tmp 44) (.const (.int .i64 1)) 3,none⟩,
  ⟨some 44,.move (.tmp 51),none⟩]
def l7_0:SCode:=(.seq q7_9 (.seq (.cond (.tmp 45) .skip (.exit 2)) (.seq (.block 3 (.seq q7_10 (.seq q7_11 (.cond (.tmp 50) (.seq q7_12 .ret) .skip)))) q7_13)))
@[reducible] def q7_14:SCode:=.region [⟨some 52,.binOp .add 3 (.tmp 31) (.const (.int .i64 1)) 3,none⟩,
  ⟨some 31,.move (.tmp 52),none⟩]
def l7_1:SCode:=(.seq q7_4 (.seq (.cond (.tmp 32) .skip (.exit 0)) (.seq (.block 1 (.seq q7_5 (.seq (.seq q7_6 (.cond (.tmp 41) (.seq q7_7 .ret) .skip)) (.seq q7_8 (.block 2 (.loop l7_0)))))) q7_14)))
@[reducible] def q7_15:SCode:=.region [⟨some 2,.assign (.const (.bool true)),none⟩]
def s7:SCode:=(.seq q7_0 (.seq (.seq q7_1 (.cond (.tmp 28) (.seq q7_2 .ret) .skip)) (.seq (.seq q7_3 (.block 0 (.loop l7_1))) (.seq q7_15 .ret))))
theorem s7_strip:Yi (Yg Tryd.f7)=s7:=by kernel_rfl
theorem s7_ok:Yu 53 (Yg Tryd.f7)=true:=by kernel_rfl
/-! 8: planchet planchetref03.Value -/
@[reducible] def q8_0:SCode:=.region [⟨some 2,.assign (.const (.bool false)),none⟩]
@[reducible] def q8_1:SCode:=.region [⟨some 3,.move (.tmp 0),none⟩,
  ⟨some 4,.call { callee:=.value (.func 35),args:=#[.tmp 3],argTypes:=#[3] },none⟩,
  ⟨some 2,.assign (.tmp 4),none⟩]
def s8:SCode:=(.seq q8_0 (.seq q8_1 .ret))
theorem s8_strip:Yi (Yg Tryd.f8)=s8:=by kernel_rfl
theorem s8_ok:Yu 5 (Yg Tryd.f8)=true:=by kernel_rfl
/-! 9: planchet planchettop.parts -/
@[reducible] def q9_0:SCode:=.region [⟨some 0,.assign (.const (.bool false)),none⟩]
@[reducible] def q9_1:SCode:=.region [⟨some 4,.buildSlice 27 2 #[(0,.const (.int .i64 2)),(1,.const (.int .i64 1))],none⟩,
  ⟨some 5,.call { callee:=.value (.func 12),args:=#[.tmp 4,.const (.int .i64 1)],argTypes:=#[27,3] },none⟩,
  ⟨some 3,.move (.tmp 5),none⟩,
  ⟨some 6,.extract (.tmp 3) 0,none⟩,
  ⟨some 7,.extract (.tmp 3) 1,none⟩,
  ⟨some 1,.assign (.tmp 6),none⟩,
  ⟨some 2,.assign (.tmp 7),none⟩]
@[reducible] def q9_2:SCode:=.region [⟨some 8,.move (.tmp 2),none⟩,
  ⟨some 9,.binOp .eql 29 (.tmp 8) (.const (.int .i64 0)) 29,none⟩,
  ⟨some 10,.move (.tmp 9),none⟩,
  ⟨some 11,.move (.tmp 1),some (10,true)⟩,
  ⟨some 12,.buildSlice 27 1 #[(0,.const (.int .i64 0))],some (10,true)⟩,
  ⟨some 13,.call { callee:=.value (.func 36),args:=#[.tmp 11,.tmp 12],argTypes:=#[27,27] },some (10,true)⟩,
  ⟨some 14,.pick (.tmp 10) (.tmp 13) (.const (.bool false)),none⟩,
  ⟨some 0,.assign (.tmp 14),none⟩]
def s9:SCode:=(.seq q9_0 (.seq q9_1 (.seq q9_2 .ret)))
theorem s9_strip:Yi (Yg Tryd.f9)=s9:=by kernel_rfl
theorem s9_ok:Yu 15 (Yg Tryd.f9)=true:=by kernel_rfl
/-! 10: planchet talk.Fool -/
@[reducible] def q10_0:SCode:=.region [⟨some 3,.box 3 (.tmp 1),none⟩,
  ⟨some 4,.assign (.const (.slice none 0 0)),none⟩,
  ⟨some 5,.assign (.const (.int .i64 0)),none⟩]
@[reducible] def q10_1:SCode:=.region [⟨some 11,.move (.tmp 0),none⟩,
  ⟨some 6,.alloc 70,none⟩,
  ⟨none,.store 70 (.tmp 6) (.tmp 11),none⟩]
@[reducible] def q10_2:SCode:=.region [⟨some 12,.load 70 (.tmp 6),none⟩,
  ⟨some 13,.load 3 (.tmp 3),none⟩,
  ⟨some 14,.call { callee:=.value (.func 37),args:=#[.tmp 12,.tmp 13],argTypes:=#[70,3] },none⟩,
  ⟨some 15,.unOp .not 4 (.tmp 14),none⟩]
@[reducible] def q10_3:SCode:=.region [⟨some 4,.assign (.const (.slice none 0 0)),none⟩,
  ⟨some 5,.assign (.const (.int .i64 2)),none⟩]
@[reducible] def q10_4:SCode:=.region [⟨some 16,.load 70 (.tmp 6),none⟩,
  ⟨some 17,.load 3 (.tmp 3),none⟩,
  ⟨some 18,.call { callee:=.value (.func 38),args:=#[.tmp 16,.tmp 17],argTypes:=#[70,3] },none⟩,
  ⟨some 7,.alloc 26,none⟩,
  ⟨none,.store 26 (.tmp 7) (.tmp 18),none⟩]
@[reducible] def q10_5:SCode:=.region [⟨some 8,.alloc 26,none⟩,
  ⟨some 9,.alloc 26,none⟩]
@[reducible] def q10_6:SCode:=.region [⟨some 10,.alloc 72,none⟩]
@[reducible] def q10_7:SCode:=.region [⟨some 19,.makeFunc (.func 39) #[] #[.tmp 9,.tmp 8,.tmp 7,.tmp 6,.tmp 3,.tmp 10],none⟩,
  ⟨none,.store 72 (.tmp 10) (.tmp 19),none⟩]
@[reducible] def q10_8:SCode:=.region [⟨some 20,.load 72 (.tmp 10),none⟩,
  ⟨some 21,.call { callee:=.value (.tmp 20),args:=#[.const (.int .i64 0)],argTypes:=#[3] },none⟩]
@[reducible] def q10_9:SCode:=.region [⟨some 22,.load 26 (.tmp 8),none⟩,
  ⟨some 4,.assign (.tmp 22),none⟩,
  ⟨some 5,.assign (.const (.int .i64 0)),none⟩]
def s10:SCode:=(.seq q10_0 (.seq q10_1 (.seq (.seq q10_2 (.cond (.tmp 15) (.seq q10_3 .ret) .skip)) (.seq q10_4 (.seq q10_5 (.seq q10_6 (.seq q10_7 (.seq q10_8 (.seq q10_9 .ret)))))))))
theorem s10_strip:Yi (Yg Tryd.f10)=s10:=by kernel_rfl
theorem s10_ok:Yu 23 (Yg Tryd.f10)=true:=by kernel_rfl
/-! 35: planchet planchetref03.bit -/
@[reducible] def q35_0:SCode:=.region [⟨some 2,.assign (.const (.bool false)),none⟩]
@[reducible] def q35_1:SCode:=.region [⟨some 3,.move (.tmp 0),none⟩,
  ⟨some 4,.binOp .eql 3 (.tmp 3) (.const (.int .i64 0)) 3,none⟩,
  ⟨some 5,.move (.tmp 4),none⟩,
  ⟨some 6,.move (.tmp 0),some (5,false)⟩,
  ⟨some 7,.binOp .eql 3 (.tmp 6) (.const (.int .i64 1)) 3,some (5,false)⟩,
  ⟨some 8,.pick (.tmp 5) (.const (.bool true)) (.tmp 7),none⟩,
  ⟨some 2,.assign (.tmp 8),none⟩]
def s35:SCode:=(.seq q35_0 (.seq q35_1 .ret))
theorem s35_strip:Yi (Yg Tryd.f35)=s35:=by kernel_rfl
theorem s35_ok:Yu 9 (Yg Tryd.f35)=true:=by kernel_rfl
/-! 37: (planchet talk.table).isValue -/
@[reducible] def q37_0:SCode:=.region [⟨some 4,.assign (.const (.bool false)),none⟩]
@[reducible] def q37_1:SCode:=.region [⟨some 5,.move (.tmp 0),none⟩,
  ⟨some 6,.call { callee:=.value (.func 90),args:=#[.tmp 5],argTypes:=#[70] },none⟩,
  ⟨some 7,.move (.tmp 6),none⟩,
  ⟨some 8,.move (.tmp 1),some (7,true)⟩,
  ⟨some 9,.binOp .eql 3 (.tmp 8) (.const (.int .i64 0)) 3,some (7,true)⟩,
  ⟨some 10,.move (.tmp 9),some (7,true)⟩,
  ⟨some 11,.move (.tmp 1),some (10,false)⟩,
  ⟨some 12,.binOp .eql 3 (.tmp 11) (.const (.int .i64 1)) 3,some (10,false)⟩,
  ⟨some 13,.pick (.tmp 10) (.const (.bool true)) (.tmp 12),some (7,true)⟩,
  ⟨some 14,.pick (.tmp 7) (.tmp 13) (.const (.bool false)),none⟩,
  ⟨some 4,.assign (.tmp 14),none⟩]
def s37:SCode:=(.seq q37_0 (.seq q37_1 .ret))
theorem s37_strip:Yi (Yg Tryd.f37)=s37:=by kernel_rfl
theorem s37_ok:Yu 15 (Yg Tryd.f37)=true:=by kernel_rfl
/-! 38: (planchet talk.table).entries -/
@[reducible] def q38_0:SCode:=.region [⟨some 4,.assign (.const (.slice none 0 0)),none⟩]
@[reducible] def q38_1:SCode:=.region [⟨some 5,.assign (.const (.slice none 0 0)),none⟩]
@[reducible] def q38_2:SCode:=.region [⟨some 10,.move (.tmp 0),none⟩,
  ⟨some 11,.call { callee:=.builtin .len,args:=#[.tmp 10],argTypes:=#[70] },none⟩,
  ⟨some 12,.move (.const (.int .i64 0)),none⟩]
@[reducible] def q38_3:SCode:=.region [⟨some 13,.binOp .lss 3 (.tmp 12) (.tmp 11) 3,none⟩]
@[reducible] def q38_4:SCode:=.region [⟨some 14,.move (.tmp 12),none⟩,
  ⟨some 15,.indexAddr 70 (.tmp 10) (.tmp 12),none⟩,
  ⟨some 16,.load 27 (.tmp 15),none⟩,
  ⟨some 6,.assign (.tmp 14),none⟩,
  ⟨some 7,.assign (.tmp 16),none⟩]
@[reducible] def q38_5:SCode:=.region [⟨some 17,.move (.tmp 7),none⟩,
  ⟨some 18,.call { callee:=.builtin .len,args:=#[.tmp 17],argTypes:=#[27] },none⟩,
  ⟨some 19,.move (.const (.int .i64 0)),none⟩]
@[reducible] def q38_6:SCode:=.region [⟨some 20,.binOp .lss 3 (.tmp 19) (.tmp 18) 3,none⟩]
@[reducible] def q38_7:SCode:=.region [⟨some 21,.move (.tmp 19),none⟩,
  ⟨some 22,.indexAddr 27 (.tmp 17) (.tmp 19),none⟩,
  ⟨some 23,.load 3 (.tmp 22),none⟩,
  ⟨some 8,.assign (.tmp 21),none⟩,
  ⟨some 9,.assign (.tmp 23),none⟩]
@[reducible] def q38_8:SCode:=.region [⟨some 24,.move (.tmp 9),none⟩,
  ⟨some 25,.move (.tmp 1),none⟩,
  ⟨some 26,.binOp .eql 3 (.tmp 24) (.tmp 25) 3,none⟩]
@[reducible] def q38_9:SCode:=.region [⟨some 27,.move (.tmp 5),none⟩,
  ⟨some 28,.move (.tmp 6),none⟩,
  ⟨some 29,.move (.tmp 8),none⟩,
  ⟨some 30,.build 28 #[(0,.tmp 28),(1,.tmp 29)],none⟩,
  ⟨some 31,.buildSlice 26 1 #[(0,.tmp 30)],none⟩,
  ⟨some 32,.call { callee:=.builtin .append,args:=#[.tmp 27,.tmp 31],argTypes:=#[26,26] },none⟩,
  ⟨some 5,.assign (.tmp 32),none⟩]
@[reducible] def q38_10:SCode:=.region [⟨some 33,.binOp .add 3 (.tmp 19) (.const (.int .i64 1)) 3,none⟩,
  ⟨some 19,.move (.tmp 33),none⟩]
def l38_0:SCode:=(.seq q38_6 (.seq (.cond (.tmp 20) .skip (.exit 2)) (.seq (.block 3 (.seq q38_7 (.seq q38_8 (.cond (.tmp 26) q38_9 .skip)))) q38_10)))
@[reducible] def q38_11:SCode:=.region [⟨some 34,.binOp .add 3 (.tmp 12) (.const (.int .i64 1)) 3,none⟩,
  ⟨some 12,.move (.tmp 34),none⟩]
def l38_1:SCode:=(.seq q38_3 (.seq (.cond (.tmp 13) .skip (.exit 0)) (.seq (.block 1 (.seq q38_4 (.seq q38_5 (.block 2 (.loop l38_0))))) q38_11)))
@[reducible] def q38_12:SCode:=.region [⟨some 35,.move (.tmp 5),none⟩,
  ⟨some 4,.assign (.tmp 35),none⟩]
def s38:SCode:=(.seq q38_0 (.seq q38_1 (.seq (.seq q38_2 (.block 0 (.loop l38_1))) (.seq q38_12 .ret))))
theorem s38_strip:Yi (Yg Tryd.f38)=s38:=by kernel_rfl
theorem s38_ok:Yu 36 (Yg Tryd.f38)=true:=by kernel_rfl
/-! 39: planchet talk.Fool$1 -/
@[reducible] def q39_0:SCode:=.region [⟨some 9,.load 26 (.tmp 1),none⟩,
  ⟨some 10,.call { callee:=.builtin .len,args:=#[.tmp 9],argTypes:=#[26] },none⟩,
  ⟨some 11,.load 26 (.tmp 2),none⟩,
  ⟨some 12,.call { callee:=.builtin .len,args:=#[.tmp 11],argTypes:=#[26] },none⟩,
  ⟨some 13,.binOp .gtr 3 (.tmp 10) (.tmp 12) 3,none⟩]
@[reducible] def q39_1:SCode:=.region [⟨some 14,.load 26 (.tmp 1),none⟩,
  ⟨some 15,.call { callee:=.value (.func 40),args:=#[.tmp 14],argTypes:=#[26] },none⟩,
  ⟨none,.store 26 (.tmp 2) (.tmp 15),none⟩]
@[reducible] def q39_2:SCode:=.region [⟨some 16,.move (.tmp 0),none⟩,
  ⟨some 8,.alloc 3,none⟩,
  ⟨none,.store 3 (.tmp 8) (.tmp 16),none⟩]
@[reducible] def q39_3:SCode:=.region [⟨some 17,.load 3 (.tmp 8),none⟩,
  ⟨some 18,.load 26 (.tmp 3),none⟩,
  ⟨some 19,.call { callee:=.builtin .len,args:=#[.tmp 18],argTypes:=#[26] },none⟩,
  ⟨some 20,.binOp .lss 3 (.tmp 17) (.tmp 19) 3,none⟩]
@[reducible] def q39_5:SCode:=.region [⟨some 23,.load 26 (.tmp 1),none⟩,
  ⟨some 24,.makeFunc (.func 42) #[] #[.tmp 4,.tmp 5,.tmp 3,.tmp 8],none⟩,
  ⟨some 25,.call { callee:=.value (.func 41),args:=#[.tmp 23,.tmp 24],argTypes:=#[26,76] },none⟩,
  ⟨some 26,.unOp .not 4 (.tmp 25),none⟩]
def q39_6:SCode:=.draw [⟨some 27,.load 26 (.tmp 1),none⟩,
    ⟨some 28,.load 26 (.tmp 3),none⟩,
    ⟨some 29,.load 3 (.tmp 8),none⟩,
    ⟨some 30,.indexAddr 26 (.tmp 28) (.tmp 29),none⟩,
    ⟨some 31,.load 28 (.tmp 30),none⟩,
    ⟨some 32,.buildSlice 26 1 #[(0,.tmp 31)],none⟩,
    ⟨some 33,.call { callee:=.builtin .append,args:=#[.tmp 27,.tmp 32],argTypes:=#[26,26] },none⟩,
    ⟨none,.store 26 (.tmp 1) (.tmp 33),none⟩]
  [[],[],[],[1,2],[3],[4],[0,5],[6,6,0,1,2,3,4,5,6]]
@[reducible] def q39_7:SCode:=.region [⟨some 34,.load 72 (.tmp 6),none⟩,
  ⟨some 35,.load 3 (.tmp 8),none⟩,
  ⟨some 36,.binOp .add 3 (.tmp 35) (.const (.int .i64 1)) 3,none⟩,
  ⟨some 37,.call { callee:=.value (.tmp 34),args:=#[.tmp 36],argTypes:=#[3] },none⟩]
@[reducible] def q39_8:SCode:=.region [⟨some 38,.load 26 (.tmp 1),none⟩,
  ⟨some 39,.load 26 (.tmp 1),none⟩,
  ⟨some 40,.call { callee:=.builtin .len,args:=#[.tmp 39],argTypes:=#[26] },none⟩,
  ⟨some 41,.binOp .sub 3 (.tmp 40) (.const (.int .i64 1)) 3,none⟩,
  ⟨some 42,.slice 26 (.tmp 38) none (some (.tmp 41)) none,none⟩,
  ⟨none,.store 26 (.tmp 1) (.tmp 42),none⟩]
@[reducible] def q39_9:SCode:=.region [⟨some 43,.load 3 (.tmp 8),none⟩]
@[reducible] def q39_10:SCode:=.region [⟨some 8,.alloc 3,none⟩,
  ⟨none,.store 3 (.tmp 8) (.tmp 43),none⟩]
@[reducible] def q39_4:SCode:=.region [⟨some 21,.load 3 (.tmp 8),none⟩,
  ⟨some 22,.binOp .add 3 (.tmp 21) (.const (.int .i64 1)) 3,none⟩,
  ⟨none,.store 3 (.tmp 8) (.tmp 22),none⟩]
def l39_0:SCode:=(.seq (.seq q39_3 (.cond (.tmp 20) .skip (.exit 0))) (.seq (.block 1 (.seq q39_5 (.cond (.tmp 26) (.seq q39_6 (.seq q39_7 q39_8)) .skip))) (.seq (.seq q39_9 q39_10) q39_4)))
def s39:SCode:=(.seq (.seq q39_0 (.cond (.tmp 13) q39_1 .skip)) (.seq q39_2 (.block 0 (.loop l39_0))))
theorem s39_strip:Yi (Yg Tryd.f39)=s39:=by kernel_rfl
theorem s39_ok:Yu 44 (Yg Tryd.f39)=true:=by kernel_rfl
/-! 40: slices.Clone[[][2]int,[2]int] -/
@[reducible] def q40_0:SCode:=.region [⟨some 2,.assign (.const (.slice none 0 0)),none⟩]
@[reducible] def q40_1:SCode:=.region [⟨some 3,.move (.tmp 0),none⟩,
  ⟨some 4,.binOp .eql 26 (.tmp 3) (.const (.slice none 0 0)) 26,none⟩]
@[reducible] def q40_2:SCode:=.region [⟨some 2,.assign (.const (.slice none 0 0)),none⟩]
@[reducible] def q40_3:SCode:=.region [⟨some 5,.buildSlice 26 0 #[],none⟩,
  ⟨some 6,.move (.tmp 0),none⟩,
  ⟨some 7,.call { callee:=.builtin .append,args:=#[.tmp 5,.tmp 6],argTypes:=#[26,26] },none⟩,
  ⟨some 2,.assign (.tmp 7),none⟩]
def s40:SCode:=(.seq q40_0 (.seq (.seq q40_1 (.cond (.tmp 4) (.seq q40_2 .ret) .skip)) (.seq q40_3 .ret)))
theorem s40_strip:Yi (Yg Tryd.f40)=s40:=by kernel_rfl
theorem s40_ok:Yu 8 (Yg Tryd.f40)=true:=by kernel_rfl
theorem s40_call [Tabs Tryd.prog] {args:List Value} {h:Yc} {Q:Value→Yc→Prop} (hsz:args.length≤8) (hk:aw Tryd.prog 8 s40 (Zu Tryd.prog [.tmp 2] Q) (Zp 0 args) h):ACall Tryd.prog 40 args h Q :=
 Wx Tryd.func40 rfl (enters_of Tryd.func40 (by kernel_rfl) rfl) rfl rfl (by decide) s40_strip s40_ok hsz hk
/-! 41: slices.ContainsFunc[[][2]int,[2]int] -/
@[reducible] def q41_0:SCode:=.region [⟨some 4,.assign (.const (.bool false)),none⟩]
@[reducible] def q41_1:SCode:=.region [⟨some 5,.move (.tmp 0),none⟩,
  ⟨some 6,.move (.tmp 1),none⟩,
  ⟨some 7,.call { callee:=.value (.func 91),args:=#[.tmp 5,.tmp 6],argTypes:=#[26,76] },none⟩,
  ⟨some 8,.binOp .geq 3 (.tmp 7) (.const (.int .i64 0)) 3,none⟩,
  ⟨some 4,.assign (.tmp 8),none⟩]
def s41:SCode:=(.seq q41_0 (.seq q41_1 .ret))
theorem s41_strip:Yi (Yg Tryd.f41)=s41:=by kernel_rfl
theorem s41_ok:Yu 9 (Yg Tryd.f41)=true:=by kernel_rfl
/-! 42: planchet talk.Fool$1$1 -/
@[reducible] def q42_0:SCode:=.region [⟨some 5,.box 28 (.tmp 0),none⟩,
  ⟨some 6,.assign (.const (.bool false)),none⟩]
def q42_1:SCode:=.draw [⟨some 7,.load 70 (.tmp 1),none⟩,
    ⟨some 8,.load 3 (.tmp 2),none⟩,
    ⟨some 9,.load 28 (.tmp 5),none⟩,
    ⟨some 10,.load 26 (.tmp 3),none⟩,
    ⟨some 11,.load 3 (.tmp 4),none⟩,
    ⟨some 12,.indexAddr 26 (.tmp 10) (.tmp 11),none⟩,
    ⟨some 13,.load 28 (.tmp 12),none⟩,
    ⟨some 14,.call { callee:=.value (.func 43),args:=#[.tmp 7,.tmp 8,.tmp 9,.tmp 13],argTypes:=#[70,3,28,28] },none⟩,
    ⟨some 15,.unOp .not 4 (.tmp 14),none⟩,
    ⟨some 6,.assign (.tmp 15),none⟩]
  [[],[],[],[],[],[3,4],[5],[0,1,2,6],[7],[8,7,0,1,2,3,4,5,6,7,8]]
def s42:SCode:=(.seq q42_0 (.seq q42_1 .ret))
theorem s42_strip:Yi (Yg Tryd.f42)=s42:=by kernel_rfl
theorem s42_ok:Yu 16 (Yg Tryd.f42)=true:=by kernel_rfl
/-! 43: (planchet talk.table).fooled -/
@[reducible] def q43_0:SCode:=.region [⟨some 6,.box 28 (.tmp 2),none⟩,
  ⟨some 7,.box 28 (.tmp 3),none⟩,
  ⟨some 8,.assign (.const (.bool false)),none⟩]
def q43_1:SCode:=.draw [⟨some 9,.move (.tmp 0),none⟩,
    ⟨some 10,.indexAddr 28 (.tmp 6) (.const (.int .i64 0)),none⟩,
    ⟨some 11,.load 3 (.tmp 10),none⟩,
    ⟨some 12,.indexAddr 70 (.tmp 9) (.tmp 11),none⟩,
    ⟨some 13,.load 27 (.tmp 12),none⟩,
    ⟨some 14,.indexAddr 28 (.tmp 7) (.const (.int .i64 1)),none⟩,
    ⟨some 15,.load 3 (.tmp 14),none⟩,
    ⟨some 16,.indexAddr 27 (.tmp 13) (.tmp 15),none⟩,
    ⟨some 17,.load 3 (.tmp 16),none⟩,
    ⟨some 18,.move (.tmp 1),none⟩,
    ⟨some 19,.binOp .neq 3 (.tmp 17) (.tmp 18) 3,none⟩,
    ⟨some 20,.move (.tmp 19),none⟩,
    ⟨some 21,.move (.tmp 0),some (20,false)⟩,
    ⟨some 22,.indexAddr 28 (.tmp 7) (.const (.int .i64 0)),some (20,false)⟩,
    ⟨some 23,.load 3 (.tmp 22),some (20,false)⟩,
    ⟨some 24,.indexAddr 70 (.tmp 21) (.tmp 23),some (20,false)⟩,
    ⟨some 25,.load 27 (.tmp 24),some (20,false)⟩,
    ⟨some 26,.indexAddr 28 (.tmp 6) (.const (.int .i64 1)),some (20,false)⟩,
    ⟨some 27,.load 3 (.tmp 26),some (20,false)⟩,
    ⟨some 28,.indexAddr 27 (.tmp 25) (.tmp 27),some (20,false)⟩,
    ⟨some 29,.load 3 (.tmp 28),some (20,false)⟩,
    ⟨some 30,.move (.tmp 1),some (20,false)⟩,
    ⟨some 31,.binOp .neq 3 (.tmp 29) (.tmp 30) 3,some (20,false)⟩,
    ⟨some 32,.pick (.tmp 20) (.const (.bool true)) (.tmp 31),none⟩,
    ⟨some 8,.assign (.tmp 32),none⟩]
  [[],[],[1],[0,2],[3],[],[5],[4,6],[7],[],[8,9],[10],[11],[11],[13,11],[12,14,11],[15,11],[11],[17,11],[16,18,11],[19,11],[11],[20,21,11],[11,22],[23,11,0,1,2,3,4,5,6,7,8,9,10,11,12,13,14,15,16,17,18,19,20,21,22,23]]
def s43:SCode:=(.seq q43_0 (.seq q43_1 .ret))
theorem s43_strip:Yi (Yg Tryd.f43)=s43:=by kernel_rfl
theorem s43_ok:Yu 33 (Yg Tryd.f43)=true:=by kernel_rfl
/-! 90: (planchet talk.table).valid -/
@[reducible] def q90_0:SCode:=.region [⟨some 1,.box 70 (.tmp 0),none⟩,
  ⟨some 2,.assign (.const (.bool false)),none⟩]
@[reducible] def q90_1:SCode:=.region [⟨some 3,.load 70 (.tmp 1),none⟩,
  ⟨some 4,.call { callee:=.builtin .len,args:=#[.tmp 3],argTypes:=#[70] },none⟩,
  ⟨some 5,.binOp .lss 3 (.tmp 4) (.const (.int .i64 1)) 3,none⟩,
  ⟨some 6,.move (.tmp 5),none⟩,
  ⟨some 7,.load 70 (.tmp 1),some (6,false)⟩,
  ⟨some 8,.call { callee:=.builtin .len,args:=#[.tmp 7],argTypes:=#[70] },some (6,false)⟩,
  ⟨some 9,.binOp .gtr 3 (.tmp 8) (.const (.int .i64 4)) 3,some (6,false)⟩,
  ⟨some 10,.pick (.tmp 6) (.const (.bool true)) (.tmp 9),none⟩,
  ⟨some 11,.move (.tmp 10),none⟩,
  ⟨some 12,.load 70 (.tmp 1),some (11,false)⟩,
  ⟨some 13,.indexAddr 70 (.tmp 12) (.const (.int .i64 0)),some (11,false)⟩,
  ⟨some 14,.load 27 (.tmp 13),some (11,false)⟩,
  ⟨some 15,.call { callee:=.builtin .len,args:=#[.tmp 14],argTypes:=#[27] },some (11,false)⟩,
  ⟨some 16,.binOp .lss 3 (.tmp 15) (.const (.int .i64 1)) 3,some (11,false)⟩,
  ⟨some 17,.pick (.tmp 11) (.const (.bool true)) (.tmp 16),none⟩,
  ⟨some 18,.move (.tmp 17),none⟩,
  ⟨some 19,.load 70 (.tmp 1),some (18,false)⟩,
  ⟨some 20,.indexAddr 70 (.tmp 19) (.const (.int .i64 0)),some (18,false)⟩,
  ⟨some 21,.load 27 (.tmp 20),some (18,false)⟩,
  ⟨some 22,.call { callee:=.builtin .len,args:=#[.tmp 21],argTypes:=#[27] },some (18,false)⟩,
  ⟨some 23,.binOp .gtr 3 (.tmp 22) (.const (.int .i64 4)) 3,some (18,false)⟩,
  ⟨some 24,.pick (.tmp 18) (.const (.bool true)) (.tmp 23),none⟩]
@[reducible] def q90_2:SCode:=.region [⟨some 2,.assign (.const (.bool false)),none⟩]
@[reducible] def q90_3:SCode:=.region [⟨some 25,.load 70 (.tmp 1),none⟩,
  ⟨some 26,.makeFunc (.func 133) #[] #[.tmp 1],none⟩,
  ⟨some 27,.call { callee:=.value (.func 132),args:=#[.tmp 25,.tmp 26],argTypes:=#[70,38] },none⟩,
  ⟨some 28,.unOp .not 4 (.tmp 27),none⟩,
  ⟨some 2,.assign (.tmp 28),none⟩]
def s90:SCode:=(.seq q90_0 (.seq (.seq q90_1 (.cond (.tmp 24) (.seq q90_2 .ret) .skip)) (.seq q90_3 .ret)))
theorem s90_strip:Yi (Yg Tryd.f90)=s90:=by kernel_rfl
theorem s90_ok:Yu 29 (Yg Tryd.f90)=true:=by kernel_rfl
/-! 132: slices.ContainsFunc[planchet talk.table,[]int] -/
@[reducible] def q132_0:SCode:=.region [⟨some 4,.assign (.const (.bool false)),none⟩]
@[reducible] def q132_1:SCode:=.region [⟨some 5,.move (.tmp 0),none⟩,
  ⟨some 6,.move (.tmp 1),none⟩,
  ⟨some 7,.call { callee:=.value (.func 160),args:=#[.tmp 5,.tmp 6],argTypes:=#[70,38] },none⟩,
  ⟨some 8,.binOp .geq 3 (.tmp 7) (.const (.int .i64 0)) 3,none⟩,
  ⟨some 4,.assign (.tmp 8),none⟩]
def s132:SCode:=(.seq q132_0 (.seq q132_1 .ret))
theorem s132_strip:Yi (Yg Tryd.f132)=s132:=by kernel_rfl
theorem s132_ok:Yu 9 (Yg Tryd.f132)=true:=by kernel_rfl
/-! 133: (planchet talk.table).valid$1 -/
@[reducible] def q133_0:SCode:=.region [⟨some 3,.assign (.const (.bool false)),none⟩]
@[reducible] def q133_1:SCode:=.region [⟨some 4,.move (.tmp 0),none⟩,
  ⟨some 5,.call { callee:=.builtin .len,args:=#[.tmp 4],argTypes:=#[27] },none⟩,
  ⟨some 6,.load 70 (.tmp 1),none⟩,
  ⟨some 7,.indexAddr 70 (.tmp 6) (.const (.int .i64 0)),none⟩,
  ⟨some 8,.load 27 (.tmp 7),none⟩,
  ⟨some 9,.call { callee:=.builtin .len,args:=#[.tmp 8],argTypes:=#[27] },none⟩,
  ⟨some 10,.binOp .neq 3 (.tmp 5) (.tmp 9) 3,none⟩,
  ⟨some 11,.move (.tmp 10),none⟩,
  ⟨some 12,.move (.tmp 0),some (11,false)⟩,
  ⟨some 13,.call { callee:=.value (.func 77),args:=#[.tmp 12],argTypes:=#[27] },some (11,false)⟩,
  ⟨some 14,.binOp .lss 3 (.tmp 13) (.const (.int .i64 0)) 3,some (11,false)⟩,
  ⟨some 15,.pick (.tmp 11) (.const (.bool true)) (.tmp 14),none⟩,
  ⟨some 16,.move (.tmp 15),none⟩,
  ⟨some 17,.move (.tmp 0),some (16,false)⟩,
  ⟨some 18,.call { callee:=.value (.func 78),args:=#[.tmp 17],argTypes:=#[27] },some (16,false)⟩,
  ⟨some 19,.binOp .gtr 3 (.tmp 18) (.const (.int .i64 1)) 3,some (16,false)⟩,
  ⟨some 20,.pick (.tmp 16) (.const (.bool true)) (.tmp 19),none⟩,
  ⟨some 3,.assign (.tmp 20),none⟩]
def s133:SCode:=(.seq q133_0 (.seq q133_1 .ret))
theorem s133_strip:Yi (Yg Tryd.f133)=s133:=by kernel_rfl
theorem s133_ok:Yu 21 (Yg Tryd.f133)=true:=by kernel_rfl
/-! 134: (planchet talk.table).whole -/
@[reducible] def q134_0:SCode:=.region [⟨some 2,.alloc 81,none⟩]
def q134_1:SCode:=.draw [⟨some 3,.move (.tmp 0),none⟩,
    ⟨some 4,.call { callee:=.builtin .len,args:=#[.tmp 3],argTypes:=#[70] },none⟩,
    ⟨some 5,.binOp .shl 3 (.const (.int .i64 1)) (.tmp 4) 3,none⟩,
    ⟨some 6,.binOp .sub 3 (.tmp 5) (.const (.int .i64 1)) 3,none⟩,
    ⟨some 7,.move (.tmp 0),none⟩,
    ⟨some 8,.indexAddr 70 (.tmp 7) (.const (.int .i64 0)),none⟩,
    ⟨some 9,.load 27 (.tmp 8),none⟩,
    ⟨some 10,.call { callee:=.builtin .len,args:=#[.tmp 9],argTypes:=#[27] },none⟩,
    ⟨some 11,.binOp .shl 3 (.const (.int .i64 1)) (.tmp 10) 3,none⟩,
    ⟨some 12,.binOp .sub 3 (.tmp 11) (.const (.int .i64 1)) 3,none⟩,
    ⟨some 13,.build 81 #[(0,.tmp 6),(1,.tmp 12)],none⟩,
    ⟨none,.store 81 (.tmp 2) (.tmp 13),none⟩]
  [[],[0],[1],[2],[],[4],[5],[6],[7],[8],[3,9],[10,0,1,2,3,4,5,6,7,8,9,10]]
def s134:SCode:=(.seq q134_0 (.seq q134_1 .ret))
theorem s134_strip:Yi (Yg Tryd.f134)=s134:=by kernel_rfl
theorem s134_ok:Yu 14 (Yg Tryd.f134)=true:=by kernel_rfl
/-! 160: slices.IndexFunc[planchet talk.table,[]int] -/
@[reducible] def q160_0:SCode:=.region [⟨some 4,.assign (.const (.int .i64 0)),none⟩]
@[reducible] def q160_1:SCode:=.region [⟨some 6,.move (.tmp 0),none⟩,
  ⟨some 7,.call { callee:=.builtin .len,args:=#[.tmp 6],argTypes:=#[70] },none⟩,
  ⟨some 8,.move (.const (.int .i64 0)),none⟩]
@[reducible] def q160_2:SCode:=.region [⟨some 9,.binOp .lss 3 (.tmp 8) (.tmp 7) 3,none⟩]
@[reducible] def q160_3:SCode:=.region [⟨some 10,.move (.tmp 8),none⟩,
  ⟨some 5,.assign (.tmp 10),none⟩]
@[reducible] def q160_4:SCode:=.region [⟨some 11,.move (.tmp 1),none⟩,
  ⟨some 12,.move (.tmp 0),none⟩,
  ⟨some 13,.move (.tmp 5),none⟩,
  ⟨some 14,.indexAddr 70 (.tmp 12) (.tmp 13),none⟩,
  ⟨some 15,.load 27 (.tmp 14),none⟩,
  ⟨some 16,.call { callee:=.value (.tmp 11),args:=#[.tmp 15],argTypes:=#[27] },none⟩]
@[reducible] def q160_5:SCode:=.region [⟨some 17,.move (.tmp 5),none⟩,
  ⟨some 4,.assign (.tmp 17),none⟩]
@[reducible] def q160_6:SCode:=.region [⟨some 18,.binOp .add 3 (.tmp 8) (.const (.int .i64 1)) 3,none⟩,
  ⟨some 8,.move (.tmp 18),none⟩]
def l160_0:SCode:=(.seq q160_2 (.seq (.cond (.tmp 9) .skip (.exit 0)) (.seq (.block 1 (.seq q160_3 (.seq q160_4 (.cond (.tmp 16) (.seq q160_5 .ret) .skip)))) q160_6)))
@[reducible] def q160_7:SCode:=.region [⟨some 4,.assign (.const (.int .i64 (-1))),none⟩]
def s160:SCode:=(.seq q160_0 (.seq (.seq q160_1 (.block 0 (.loop l160_0))) (.seq q160_7 .ret)))
theorem s160_strip:Yi (Yg Tryd.f160)=s160:=by kernel_rfl
theorem s160_ok:Yu 19 (Yg Tryd.f160)=true:=by kernel_rfl
end Go.Proofs.Tryd.Am
namespace Go.Proofs.Tryd.Am.Tf
open Go.Proofs.Tryd.Am
open Go.Am
set_option maxRecDepth 100000
set_option maxHeartbeats 2000000
abbrev pt (b:Nat):Value:=.pointer (some ⟨b,0,none⟩)
def TabS (h:Yc) (v:Value) (t:List (List Int)):Prop:=∃ ws,ValSl h v ws∧Each (IntSl h) ws t
section
variable {P:Program} {h:Yc} {v:Value} {t:List (List Int)}
theorem TabS.ext {h' : Yc} (ho:TabS h v t) (he:Ext (fun _=>False) h h'):TabS h' v t:=by
 obtain ⟨ws,h1,h2⟩:=ho
 exact ⟨ws,h1.ext he,h2.imp fun w l hw=>hw.same fun b hb=>he.2 b (hw.lt hb) id⟩
theorem TabS.len (ho:TabS h v t) (K:Value→Prop):lenK v K=K (Zx t.length):=by
 obtain ⟨ws,h1,h2⟩:=ho; rw [h1.len,h2.len]
theorem TabS.idx (ho:TabS h v t) {ty e' : TypeId} (he:elemOf' P ty=some e') (hs:esz P e' = some 1) {k:IntKind} {i:Nat} (hi:i<t.length) (K:Value→Prop):Yv P ty v (.int k i) K=K (Wq v 1 i):=by
 obtain ⟨ws,h1,h2⟩:=ho; exact h1.idx he hs (by rw [h2.len]; exact hi) K
theorem TabS.load (ho:TabS h v t) {ty:TypeId} (hs:shp P ty=some none) {i:Nat} (hi:i<t.length) : ∃ w,IntSl h w (t.getD i [])∧∀ K:Value→Prop,Xn P h ty (Wq v 1 i) K=K w:=by
 obtain ⟨ws,h1,h2⟩:=ho
 exact ⟨ws.getD i undef,h2.get undef [] hi,fun K=>h1.load hs (by rw [h2.len]; exact hi) K⟩
end
theorem boxT [Tabs prog] {h:Yc} {v:Value} {t:List (List Int)} (hv:TabS h v t) {K:Value→Yc→Prop}:boxK prog h 70 v K=K (Xd h) (h++[.cells [v] 70 false]):=by
 obtain ⟨ws,h1,_⟩:=hv
 rcases h1 with ⟨rfl,rfl⟩ | ⟨b,o,sp,cap,c,e,ro,rfl,_⟩ <;> simp [boxK,esz_70,Xd,cellsOf]
def wd (t:List (List Int)):Nat:=(t.getD 0 []).length
structure Tab (t:List (List Int)):Prop where
 n1:1≤t.length
 n4:t.length≤4
 w1:1≤wd t
 w4:wd t≤4
 row : ∀ r∈t,r.length=wd t∧∀ x∈r,x=0∨x=1
theorem Tab.get {t:List (List Int)} (ht:Tab t) {i:Nat} (hi:i<t.length):t.getD i []∈t:=by
 rw [List.getD,List.getElem?_eq_getElem hi]; exact List.getElem_mem hi
theorem Tab.at {t:List (List Int)} (ht:Tab t) {r:List Int} (hr:r∈t) (i:Nat):r.getD i 0=0∨r.getD i 0=1:=by
 by_cases hi:i<r.length
 · rw [List.getD,List.getElem?_eq_getElem hi]; exact (ht.row r hr).2 _ (List.getElem_mem hi)
 · rw [List.getD,List.getElem?_eq_none (by omega)]; exact .inl rfl
theorem min_ok {t:List (List Int)} (ht:Tab t) {r:List Int} (hr:r∈t) (k:Nat) : ¬ (Be.minTo r k<0):=by
 obtain ⟨_,i,_,hi⟩:=Be.minTo_spec r k
 rw [hi]; rcases ht.at hr i with e | e <;> omega
theorem max_ok {t:List (List Int)} (ht:Tab t) {r:List Int} (hr:r∈t) (k:Nat) : ¬ (1<Be.maxTo r k):=by
 obtain ⟨_,i,_,hi⟩:=Be.maxTo_spec r k
 rw [hi]; rcases ht.at hr i with e | e <;> omega
theorem s133_callW [Tabs Tryd.prog] {args:List Value} {h:Yc} {Q:Value→Yc→Prop} (hsz:args.length≤21) (hk:AWS Tryd.prog 21 s133 (Zu Tryd.prog [.tmp 3] Q) (Zp 0 args) h):ACall Tryd.prog 133 args h Q :=
 Xg Tryd.func133 rfl (enters_of Tryd.func133 (by kernel_rfl) rfl) rfl rfl (by decide) s133_strip s133_ok hsz hk
theorem row_call [Tabs prog] {h:Yc} {b:Nat} {ro:Bool} {v w:Value} {t:List (List Int)} {r:List Int} (hb:h[b]? = some (.cells [v] 70 ro)) (hv:TabS h v t) (ht:Tab t) (hw:IntSl h w r) (hr:r∈t):APure prog 133 [w,pt b] h (.bool false):=by
 refine s133_callW (by simp) ?_
 simp only [s133]
 refine Yb fun N1 hN1=>?_
 simp (maxSteps:=2000000) only [s133,↓Za,↓Zk,↓Zr,↓Ze,↓Zm,↓Zs,↓Zf,↓Zh,↓Zg,↓Zc,↓Zb,↓vdn,vup,Zn,Zl,Zo,Zi,Zj,List.map_cons,List.map_nil,cond_true,cond_false,aop,Zv,Zq,Zp,ev,sput,Zt,Zy,Ya,unK,Zd,Zw,Nat.reduceBEq,Nat.reduceAdd,Int.reduceBEq,Int.reduceBNe,Int.reduceLT,Zu,Zz,tup,tyf]
 refine hN1 [(0,w),(1,pt b),(3,.bool false)] _ _ ?_ (by simp (maxSteps:=2000000) only [↓Za,↓Zk,↓Zr,↓Ze,↓Zm,↓Zs,↓Zf,↓Zh,↓Zg,↓Zc,↓Zb,↓vdn,vup,Zn,Zl,Zo,Zi,Zj,List.map_cons,List.map_nil,cond_true,cond_false,aop,Zv,Zq,Zp,ev,sput,Zt,Zy,Ya,unK,Zd,Zw,Nat.reduceBEq,Nat.reduceAdd,Int.reduceBEq,Int.reduceBNe,Int.reduceLT,Zu,Zz,tup,tyf])
 clear hN1
 try clear N1
 obtain ⟨w0,hw0,ld0⟩:=hv.load (P:=prog) Wb (i:=0) ht.n1
 have hi0:=hv.idx (P:=prog) el_70 Vb (k:=.i64) (i:=0) ht.n1
 rw [Int.natCast_zero] at hi0
 have e1:r.length=(t.getD 0 []).length:=(ht.row r hr).1
 have hl:=hw.len
 rw [e1] at hl
 have hne:(((t.getD 0 []).length:Int) != ((t.getD 0 []).length:Int))=false:=by simp
 have hr0:0<r.length:=by rw [e1]; exact ht.w1
 have hr4:r.length<9223372036854775808:=by have:=ht.w4; rw [e1]; unfold wd at this; omega
 refine Yb fun N2 hN2=>?_
 simp only [q133_1]
 refine Yl 8 fun N1 hN1=>?_
 simp (maxSteps:=2000000) only [s133,↓Za,↓Zk,↓Zr,↓Ze,↓Zm,↓Zs,↓Zf,↓Zh,↓Zg,↓Zc,↓Zb,↓vdn,vup,Zn,Zl,Zo,Zi,Zj,List.map_cons,List.map_nil,cond_true,cond_false,aop,Zv,Zq,Zp,ev,sput,Zt,Zy,Ya,unK,Zd,Zw,Nat.reduceBEq,Nat.reduceAdd,Int.reduceBEq,Int.reduceBNe,Int.reduceLT,Zu,Zz,tup,tyf,List.take_succ_cons,List.take_zero,hl,Xa hb shp_70,hi0,ld0,hw0.len,hne]
 refine hN1 _ _ ?_
 clear hN1 N1
 simp only [List.drop_succ_cons,List.drop_zero]
 refine Yl 2 fun N1 hN1=>?_
 simp (maxSteps:=2000000) only [s133,↓Za,↓Zk,↓Zr,↓Ze,↓Zm,↓Zs,↓Zf,↓Zh,↓Zg,↓Zc,↓Zb,↓vdn,vup,Zn,Zl,Zo,Zi,Zj,List.map_cons,List.map_nil,cond_true,cond_false,aop,Zv,Zq,Zp,ev,sput,Zt,Zy,Ya,unK,Zd,Zw,Nat.reduceBEq,Nat.reduceAdd,Int.reduceBEq,Int.reduceBNe,Int.reduceLT,Zu,Zz,tup,tyf,Yz,List.nil_append,List.append_nil,List.toList_toArray,List.cons_append,List.take_succ_cons,List.take_zero]
 refine (Be.min_call hw hr0 hr4).mono ?_
 rintro _ h ⟨rfl,rfl⟩
 refine hN1 _ _ ?_
 clear hN1 N1
 simp only [List.drop_succ_cons,List.drop_zero]
 refine Yl 3 fun N1 hN1=>?_
 simp (maxSteps:=2000000) only [s133,↓Za,↓Zk,↓Zr,↓Ze,↓Zm,↓Zs,↓Zf,↓Zh,↓Zg,↓Zc,↓Zb,↓vdn,vup,Zn,Zl,Zo,Zi,Zj,List.map_cons,List.map_nil,cond_true,cond_false,aop,Zv,Zq,Zp,ev,sput,Zt,Zy,Ya,unK,Zd,Zw,Nat.reduceBEq,Nat.reduceAdd,Int.reduceBEq,Int.reduceBNe,Int.reduceLT,Zu,Zz,tup,tyf,List.take_succ_cons,List.take_zero,min_ok ht hr (r.length-1),decide_false]
 refine hN1 _ _ ?_
 clear hN1 N1
 simp only [List.drop_succ_cons,List.drop_zero]
 refine Yl 2 fun N1 hN1=>?_
 simp (maxSteps:=2000000) only [s133,↓Za,↓Zk,↓Zr,↓Ze,↓Zm,↓Zs,↓Zf,↓Zh,↓Zg,↓Zc,↓Zb,↓vdn,vup,Zn,Zl,Zo,Zi,Zj,List.map_cons,List.map_nil,cond_true,cond_false,aop,Zv,Zq,Zp,ev,sput,Zt,Zy,Ya,unK,Zd,Zw,Nat.reduceBEq,Nat.reduceAdd,Int.reduceBEq,Int.reduceBNe,Int.reduceLT,Zu,Zz,tup,tyf,Yz,List.nil_append,List.append_nil,List.toList_toArray,List.cons_append,List.take_succ_cons,List.take_zero]
 refine (Be.max_call hw hr0 hr4).mono ?_
 rintro _ h ⟨rfl,rfl⟩
 refine hN1 _ _ ?_
 clear hN1 N1
 simp only [List.drop_succ_cons,List.drop_zero]
 simp (maxSteps:=2000000) only [s133,↓Za,↓Zk,↓Zr,↓Ze,↓Zm,↓Zs,↓Zf,↓Zh,↓Zg,↓Zc,↓Zb,↓vdn,vup,Zn,Zl,Zo,Zi,Zj,List.map_cons,List.map_nil,cond_true,cond_false,aop,Zv,Zq,Zp,ev,sput,Zt,Zy,Ya,unK,Zd,Zw,Nat.reduceBEq,Nat.reduceAdd,Int.reduceBEq,Int.reduceBNe,Int.reduceLT,Zu,Zz,tup,tyf,gt_iff_lt,max_ok ht hr (r.length-1),decide_false]
 refine hN2 [(0,w),(1,pt b),(3,.bool false)] _ _ ?_ (by simp (maxSteps:=2000000) only [↓Za,↓Zk,↓Zr,↓Ze,↓Zm,↓Zs,↓Zf,↓Zh,↓Zg,↓Zc,↓Zb,↓vdn,vup,Zn,Zl,Zo,Zi,Zj,List.map_cons,List.map_nil,cond_true,cond_false,aop,Zv,Zq,Zp,ev,sput,Zt,Zy,Ya,unK,Zd,Zw,Nat.reduceBEq,Nat.reduceAdd,Int.reduceBEq,Int.reduceBNe,Int.reduceLT,Zu,Zz,tup,tyf])
 clear hN2
 try clear N2
 refine Yd ?_
 simp (maxSteps:=2000000) only [s133,↓Za,↓Zk,↓Zr,↓Ze,↓Zm,↓Zs,↓Zf,↓Zh,↓Zg,↓Zc,↓Zb,↓vdn,vup,Zn,Zl,Zo,Zi,Zj,List.map_cons,List.map_nil,cond_true,cond_false,aop,Zv,Zq,Zp,ev,sput,Zt,Zy,Ya,unK,Zd,Zw,Nat.reduceBEq,Nat.reduceAdd,Int.reduceBEq,Int.reduceBNe,Int.reduceLT,Zu,Zz,tup,tyf]
theorem s160_callW [Tabs Tryd.prog] {args:List Value} {h:Yc} {Q:Value→Yc→Prop} (hsz:args.length≤19) (hk:AWS Tryd.prog 19 s160 (Zu Tryd.prog [.tmp 4] Q) (Zp 0 args) h):ACall Tryd.prog 160 args h Q :=
 Xg Tryd.func160 rfl (enters_of Tryd.func160 (by kernel_rfl) rfl) rfl rfl (by decide) s160_strip s160_ok hsz hk
theorem index_call [Tabs prog] {h:Yc} {b:Nat} {ro:Bool} {v:Value} {t:List (List Int)} (hb:h[b]? = some (.cells [v] 70 ro)) (hv:TabS h v t) (ht:Tab t):APure prog 160 [v,.func (.func 133) #[] #[pt b]] h (.int .i64 (-1)):=by
 refine s160_callW (by simp) ?_
 simp only [s160]
 refine Yb fun N3 hN3=>?_
 simp (maxSteps:=2000000) only [s160,↓Za,↓Zk,↓Zr,↓Ze,↓Zm,↓Zs,↓Zf,↓Zh,↓Zg,↓Zc,↓Zb,↓vdn,vup,Zn,Zl,Zo,Zi,Zj,List.map_cons,List.map_nil,cond_true,cond_false,aop,Zv,Zq,Zp,ev,sput,Zt,Zy,Ya,unK,Zd,Zw,Nat.reduceBEq,Nat.reduceAdd,Int.reduceBEq,Int.reduceBNe,Int.reduceLT,Zu,Zz,tup,tyf]
 refine hN3 [(0,v),(1,.func (.func 133) #[] #[pt b]),(4,.int .i64 0)] _ _ ?_ (by simp (maxSteps:=2000000) only [↓Za,↓Zk,↓Zr,↓Ze,↓Zm,↓Zs,↓Zf,↓Zh,↓Zg,↓Zc,↓Zb,↓vdn,vup,Zn,Zl,Zo,Zi,Zj,List.map_cons,List.map_nil,cond_true,cond_false,aop,Zv,Zq,Zp,ev,sput,Zt,Zy,Ya,unK,Zd,Zw,Nat.reduceBEq,Nat.reduceAdd,Int.reduceBEq,Int.reduceBNe,Int.reduceLT,Zu,Zz,tup,tyf])
 clear hN3
 try clear N3
 refine Ye fun M hM=>?_
 refine Yb fun N4 hN4=>?_
 simp (maxSteps:=2000000) only [s160,↓Za,↓Zk,↓Zr,↓Ze,↓Zm,↓Zs,↓Zf,↓Zh,↓Zg,↓Zc,↓Zb,↓vdn,vup,Zn,Zl,Zo,Zi,Zj,List.map_cons,List.map_nil,cond_true,cond_false,aop,Zv,Zq,Zp,ev,sput,Zt,Zy,Ya,unK,Zd,Zw,Nat.reduceBEq,Nat.reduceAdd,Int.reduceBEq,Int.reduceBNe,Int.reduceLT,Zu,Zz,tup,tyf,hv.len]
 refine hN4 [(0,v),(1,.func (.func 133) #[] #[pt b]),(4,.int .i64 0),(7,Zx t.length),(8,.int .i64 0)] _ _ ?_ (by simp (maxSteps:=2000000) only [↓Za,↓Zk,↓Zr,↓Ze,↓Zm,↓Zs,↓Zf,↓Zh,↓Zg,↓Zc,↓Zb,↓vdn,vup,Zn,Zl,Zo,Zi,Zj,List.map_cons,List.map_nil,cond_true,cond_false,aop,Zv,Zq,Zp,ev,sput,Zt,Zy,Ya,unK,Zd,Zw,Nat.reduceBEq,Nat.reduceAdd,Int.reduceBEq,Int.reduceBNe,Int.reduceLT,Zu,Zz,tup,tyf])
 clear hN4
 try clear N4
 refine Yh ?_
 refine Yf fun Q hQ=>?_
 refine Xh (γ:=Nat) (fun s=>s≤t.length)
  (fun s=>([(0,v),(1,.func (.func 133) #[] #[pt b]),(4,.int .i64 0),(7,Zx t.length),(8,Zx (s:Nat))],h)) (fun s=>t.length-s) 0 (Nat.zero_le _) (by simp (maxSteps:=2000000) only [↓Za,↓Zk,↓Zr,↓Ze,↓Zm,↓Zs,↓Zf,↓Zh,↓Zg,↓Zc,↓Zb,↓vdn,vup,Zn,Zl,Zo,Zi,Zj,List.map_cons,List.map_nil,cond_true,cond_false,aop,Zv,Zq,Zp,ev,sput,Zt,Zy,Ya,unK,Zd,Zw,Nat.reduceBEq,Nat.reduceAdd,Int.reduceBEq,Int.reduceBNe,Int.reduceLT,Zu,Zz,tup,tyf,Int.natCast_zero]) rfl ?_
 rintro k hk
 refine Yf fun Q2 hQ2=>?_
 simp only [l160_0]
 have hn4:=ht.n4
 by_cases hin:(k:Int)<t.length
 · have hk' : k<t.length:=by omega
   obtain ⟨w,hw,ld⟩:=hv.load (P:=prog) Wb hk'
   refine Yb fun N5 hN5=>?_
   simp (maxSteps:=2000000) only [s160,↓Za,↓Zk,↓Zr,↓Ze,↓Zm,↓Zs,↓Zf,↓Zh,↓Zg,↓Zc,↓Zb,↓vdn,vup,Zn,Zl,Zo,Zi,Zj,List.map_cons,List.map_nil,cond_true,cond_false,aop,Zv,Zq,Zp,ev,sput,Zt,Zy,Ya,unK,Zd,Zw,Nat.reduceBEq,Nat.reduceAdd,Int.reduceBEq,Int.reduceBNe,Int.reduceLT,Zu,Zz,tup,tyf,hin]
   refine hN5 [(0,v),(1,.func (.func 133) #[] #[pt b]),(4,.int .i64 0),(7,Zx t.length),(8,Zx (k:Nat)),(9,.bool true)] _ _ ?_ (by simp (maxSteps:=2000000) only [↓Za,↓Zk,↓Zr,↓Ze,↓Zm,↓Zs,↓Zf,↓Zh,↓Zg,↓Zc,↓Zb,↓vdn,vup,Zn,Zl,Zo,Zi,Zj,List.map_cons,List.map_nil,cond_true,cond_false,aop,Zv,Zq,Zp,ev,sput,Zt,Zy,Ya,unK,Zd,Zw,Nat.reduceBEq,Nat.reduceAdd,Int.reduceBEq,Int.reduceBNe,Int.reduceLT,Zu,Zz,tup,tyf])
   clear hN5
   try clear N5
   refine Yb fun N6 hN6=>?_
   simp (maxSteps:=2000000) only [s160,↓Za,↓Zk,↓Zr,↓Ze,↓Zm,↓Zs,↓Zf,↓Zh,↓Zg,↓Zc,↓Zb,↓vdn,vup,Zn,Zl,Zo,Zi,Zj,List.map_cons,List.map_nil,cond_true,cond_false,aop,Zv,Zq,Zp,ev,sput,Zt,Zy,Ya,unK,Zd,Zw,Nat.reduceBEq,Nat.reduceAdd,Int.reduceBEq,Int.reduceBNe,Int.reduceLT,Zu,Zz,tup,tyf]
   refine hN6 [(0,v),(1,.func (.func 133) #[] #[pt b]),(4,.int .i64 0),(7,Zx t.length),(8,Zx (k:Nat))] _ _ ?_ (by simp (maxSteps:=2000000) only [↓Za,↓Zk,↓Zr,↓Ze,↓Zm,↓Zs,↓Zf,↓Zh,↓Zg,↓Zc,↓Zb,↓vdn,vup,Zn,Zl,Zo,Zi,Zj,List.map_cons,List.map_nil,cond_true,cond_false,aop,Zv,Zq,Zp,ev,sput,Zt,Zy,Ya,unK,Zd,Zw,Nat.reduceBEq,Nat.reduceAdd,Int.reduceBEq,Int.reduceBNe,Int.reduceLT,Zu,Zz,tup,tyf])
   clear hN6
   try clear N6
   refine Ye fun B hB=>?_
   refine Yh ?_
   refine Yb fun N7 hN7=>?_
   simp (maxSteps:=2000000) only [s160,↓Za,↓Zk,↓Zr,↓Ze,↓Zm,↓Zs,↓Zf,↓Zh,↓Zg,↓Zc,↓Zb,↓vdn,vup,Zn,Zl,Zo,Zi,Zj,List.map_cons,List.map_nil,cond_true,cond_false,aop,Zv,Zq,Zp,ev,sput,Zt,Zy,Ya,unK,Zd,Zw,Nat.reduceBEq,Nat.reduceAdd,Int.reduceBEq,Int.reduceBNe,Int.reduceLT,Zu,Zz,tup,tyf]
   refine hN7 [(0,v),(1,.func (.func 133) #[] #[pt b]),(4,.int .i64 0),(5,Zx (k:Nat)),(7,Zx t.length),(8,Zx (k:Nat))] _ _ ?_ (by simp (maxSteps:=2000000) only [↓Za,↓Zk,↓Zr,↓Ze,↓Zm,↓Zs,↓Zf,↓Zh,↓Zg,↓Zc,↓Zb,↓vdn,vup,Zn,Zl,Zo,Zi,Zj,List.map_cons,List.map_nil,cond_true,cond_false,aop,Zv,Zq,Zp,ev,sput,Zt,Zy,Ya,unK,Zd,Zw,Nat.reduceBEq,Nat.reduceAdd,Int.reduceBEq,Int.reduceBNe,Int.reduceLT,Zu,Zz,tup,tyf])
   clear hN7
   try clear N7
   refine Yb fun N8 hN8=>?_
   simp (maxSteps:=2000000) only [s160,↓Za,↓Zk,↓Zr,↓Ze,↓Zm,↓Zs,↓Zf,↓Zh,↓Zg,↓Zc,↓Zb,↓vdn,vup,Zn,Zl,Zo,Zi,Zj,List.map_cons,List.map_nil,cond_true,cond_false,aop,Zv,Zq,Zp,ev,sput,Zt,Zy,Ya,unK,Zd,Zw,Nat.reduceBEq,Nat.reduceAdd,Int.reduceBEq,Int.reduceBNe,Int.reduceLT,Zu,Zz,tup,tyf,Yz,List.nil_append,List.append_nil,List.toList_toArray,List.cons_append,hv.idx el_70 Vb hk',ld]
   refine (row_call hb hv ht hw (ht.get hk')).mono ?_
   rintro _ h ⟨rfl,rfl⟩
   refine hN8 [(0,v),(1,.func (.func 133) #[] #[pt b]),(4,.int .i64 0),(5,Zx (k:Nat)),(7,Zx t.length),(8,Zx (k:Nat)),(16,.bool false)] _ _ ?_ (by simp (maxSteps:=2000000) only [↓Za,↓Zk,↓Zr,↓Ze,↓Zm,↓Zs,↓Zf,↓Zh,↓Zg,↓Zc,↓Zb,↓vdn,vup,Zn,Zl,Zo,Zi,Zj,List.map_cons,List.map_nil,cond_true,cond_false,aop,Zv,Zq,Zp,ev,sput,Zt,Zy,Ya,unK,Zd,Zw,Nat.reduceBEq,Nat.reduceAdd,Int.reduceBEq,Int.reduceBNe,Int.reduceLT,Zu,Zz,tup,tyf])
   clear hN8
   try clear N8
   refine Yq rfl ?_
   refine Yd ?_
   simp (maxSteps:=2000000) only [s160,↓Za,↓Zk,↓Zr,↓Ze,↓Zm,↓Zs,↓Zf,↓Zh,↓Zg,↓Zc,↓Zb,↓vdn,vup,Zn,Zl,Zo,Zi,Zj,List.map_cons,List.map_nil,cond_true,cond_false,aop,Zv,Zq,Zp,ev,sput,Zt,Zy,Ya,unK,Zd,Zw,Nat.reduceBEq,Nat.reduceAdd,Int.reduceBEq,Int.reduceBNe,Int.reduceLT,Zu,Zz,tup,tyf]
   refine hB [(0,v),(1,.func (.func 133) #[] #[pt b]),(4,.int .i64 0),(7,Zx t.length),(8,Zx (k:Nat))] _ _ ?_ (by simp (maxSteps:=2000000) only [↓Za,↓Zk,↓Zr,↓Ze,↓Zm,↓Zs,↓Zf,↓Zh,↓Zg,↓Zc,↓Zb,↓vdn,vup,Zn,Zl,Zo,Zi,Zj,List.map_cons,List.map_nil,cond_true,cond_false,aop,Zv,Zq,Zp,ev,sput,Zt,Zy,Ya,unK,Zd,Zw,Nat.reduceBEq,Nat.reduceAdd,Int.reduceBEq,Int.reduceBNe,Int.reduceLT,Zu,Zz,tup,tyf])
   clear hB
   try clear B
   refine Yd ?_
   simp (maxSteps:=2000000) only [s160,↓Za,↓Zk,↓Zr,↓Ze,↓Zm,↓Zs,↓Zf,↓Zh,↓Zg,↓Zc,↓Zb,↓vdn,vup,Zn,Zl,Zo,Zi,Zj,List.map_cons,List.map_nil,cond_true,cond_false,aop,Zv,Zq,Zp,ev,sput,Zt,Zy,Ya,unK,Zd,Zw,Nat.reduceBEq,Nat.reduceAdd,Int.reduceBEq,Int.reduceBNe,Int.reduceLT,Zu,Zz,tup,tyf,Vd (show k<9223372036854775807 by omega)]
   exact hQ2 _ _ _ ⟨k+1,hk',by omega,by simp (maxSteps:=2000000) only [↓Za,↓Zk,↓Zr,↓Ze,↓Zm,↓Zs,↓Zf,↓Zh,↓Zg,↓Zc,↓Zb,↓vdn,vup,Zn,Zl,Zo,Zi,Zj,List.map_cons,List.map_nil,cond_true,cond_false,aop,Zv,Zq,Zp,ev,sput,Zt,Zy,Ya,unK,Zd,Zw,Nat.reduceBEq,Nat.reduceAdd,Int.reduceBEq,Int.reduceBNe,Int.reduceLT,Zu,Zz,tup,tyf],rfl⟩
 · obtain rfl:k=t.length:=by omega
   refine Yb fun N9 hN9=>?_
   simp (maxSteps:=2000000) only [s160,↓Za,↓Zk,↓Zr,↓Ze,↓Zm,↓Zs,↓Zf,↓Zh,↓Zg,↓Zc,↓Zb,↓vdn,vup,Zn,Zl,Zo,Zi,Zj,List.map_cons,List.map_nil,cond_true,cond_false,aop,Zv,Zq,Zp,ev,sput,Zt,Zy,Ya,unK,Zd,Zw,Nat.reduceBEq,Nat.reduceAdd,Int.reduceBEq,Int.reduceBNe,Int.reduceLT,Zu,Zz,tup,tyf,hin]
   refine hN9 [(0,v),(1,.func (.func 133) #[] #[pt b]),(4,.int .i64 0),(7,Zx t.length),(8,Zx (t.length:Nat)),(9,.bool false)] _ _ ?_ (by simp (maxSteps:=2000000) only [↓Za,↓Zk,↓Zr,↓Ze,↓Zm,↓Zs,↓Zf,↓Zh,↓Zg,↓Zc,↓Zb,↓vdn,vup,Zn,Zl,Zo,Zi,Zj,List.map_cons,List.map_nil,cond_true,cond_false,aop,Zv,Zq,Zp,ev,sput,Zt,Zy,Ya,unK,Zd,Zw,Nat.reduceBEq,Nat.reduceAdd,Int.reduceBEq,Int.reduceBNe,Int.reduceLT,Zu,Zz,tup,tyf])
   clear hN9
   try clear N9
   refine Yb fun N10 hN10=>?_
   simp (maxSteps:=2000000) only [s160,↓Za,↓Zk,↓Zr,↓Ze,↓Zm,↓Zs,↓Zf,↓Zh,↓Zg,↓Zc,↓Zb,↓vdn,vup,Zn,Zl,Zo,Zi,Zj,List.map_cons,List.map_nil,cond_true,cond_false,aop,Zv,Zq,Zp,ev,sput,Zt,Zy,Ya,unK,Zd,Zw,Nat.reduceBEq,Nat.reduceAdd,Int.reduceBEq,Int.reduceBNe,Int.reduceLT,Zu,Zz,tup,tyf]
   refine hQ2 _ _ _ (hQ _ _ _ ?_)
   simp (maxSteps:=2000000) only [s160,↓Za,↓Zk,↓Zr,↓Ze,↓Zm,↓Zs,↓Zf,↓Zh,↓Zg,↓Zc,↓Zb,↓vdn,vup,Zn,Zl,Zo,Zi,Zj,List.map_cons,List.map_nil,cond_true,cond_false,aop,Zv,Zq,Zp,ev,sput,Zt,Zy,Ya,unK,Zd,Zw,Nat.reduceBEq,Nat.reduceAdd,Int.reduceBEq,Int.reduceBNe,Int.reduceLT,Zu,Zz,tup,tyf,if_true]
   refine hM [(0,v),(1,.func (.func 133) #[] #[pt b]),(4,.int .i64 0),(7,Zx t.length),(8,Zx (t.length:Nat)),(9,.bool false)] _ _ ?_ (by simp (maxSteps:=2000000) only [↓Za,↓Zk,↓Zr,↓Ze,↓Zm,↓Zs,↓Zf,↓Zh,↓Zg,↓Zc,↓Zb,↓vdn,vup,Zn,Zl,Zo,Zi,Zj,List.map_cons,List.map_nil,cond_true,cond_false,aop,Zv,Zq,Zp,ev,sput,Zt,Zy,Ya,unK,Zd,Zw,Nat.reduceBEq,Nat.reduceAdd,Int.reduceBEq,Int.reduceBNe,Int.reduceLT,Zu,Zz,tup,tyf])
   clear hM
   try clear M
   refine Yd ?_
   simp (maxSteps:=2000000) only [s160,↓Za,↓Zk,↓Zr,↓Ze,↓Zm,↓Zs,↓Zf,↓Zh,↓Zg,↓Zc,↓Zb,↓vdn,vup,Zn,Zl,Zo,Zi,Zj,List.map_cons,List.map_nil,cond_true,cond_false,aop,Zv,Zq,Zp,ev,sput,Zt,Zy,Ya,unK,Zd,Zw,Nat.reduceBEq,Nat.reduceAdd,Int.reduceBEq,Int.reduceBNe,Int.reduceLT,Zu,Zz,tup,tyf]
theorem s132_callW [Tabs Tryd.prog] {args:List Value} {h:Yc} {Q:Value→Yc→Prop} (hsz:args.length≤9) (hk:AWS Tryd.prog 9 s132 (Zu Tryd.prog [.tmp 4] Q) (Zp 0 args) h):ACall Tryd.prog 132 args h Q :=
 Xg Tryd.func132 rfl (enters_of Tryd.func132 (by kernel_rfl) rfl) rfl rfl (by decide) s132_strip s132_ok hsz hk
theorem contains_call [Tabs prog] {h:Yc} {b:Nat} {ro:Bool} {v:Value} {t:List (List Int)} (hb:h[b]? = some (.cells [v] 70 ro)) (hv:TabS h v t) (ht:Tab t):APure prog 132 [v,.func (.func 133) #[] #[pt b]] h (.bool false):=by
 refine s132_callW (by simp) ?_
 simp only [s132]
 refine Yb fun N11 hN11=>?_
 simp (maxSteps:=2000000) only [s132,↓Za,↓Zk,↓Zr,↓Ze,↓Zm,↓Zs,↓Zf,↓Zh,↓Zg,↓Zc,↓Zb,↓vdn,vup,Zn,Zl,Zo,Zi,Zj,List.map_cons,List.map_nil,cond_true,cond_false,aop,Zv,Zq,Zp,ev,sput,Zt,Zy,Ya,unK,Zd,Zw,Nat.reduceBEq,Nat.reduceAdd,Int.reduceBEq,Int.reduceBNe,Int.reduceLT,Zu,Zz,tup,tyf]
 refine hN11 [(0,v),(1,.func (.func 133) #[] #[pt b]),(4,.bool false)] _ _ ?_ (by simp (maxSteps:=2000000) only [↓Za,↓Zk,↓Zr,↓Ze,↓Zm,↓Zs,↓Zf,↓Zh,↓Zg,↓Zc,↓Zb,↓vdn,vup,Zn,Zl,Zo,Zi,Zj,List.map_cons,List.map_nil,cond_true,cond_false,aop,Zv,Zq,Zp,ev,sput,Zt,Zy,Ya,unK,Zd,Zw,Nat.reduceBEq,Nat.reduceAdd,Int.reduceBEq,Int.reduceBNe,Int.reduceLT,Zu,Zz,tup,tyf])
 clear hN11
 try clear N11
 refine Yd ?_
 simp (maxSteps:=2000000) only [s132,↓Za,↓Zk,↓Zr,↓Ze,↓Zm,↓Zs,↓Zf,↓Zh,↓Zg,↓Zc,↓Zb,↓vdn,vup,Zn,Zl,Zo,Zi,Zj,List.map_cons,List.map_nil,cond_true,cond_false,aop,Zv,Zq,Zp,ev,sput,Zt,Zy,Ya,unK,Zd,Zw,Nat.reduceBEq,Nat.reduceAdd,Int.reduceBEq,Int.reduceBNe,Int.reduceLT,Zu,Zz,tup,tyf,Yz,List.nil_append,List.append_nil,List.toList_toArray,List.cons_append]
 refine (index_call hb hv ht).mono ?_
 rintro _ h ⟨rfl,rfl⟩
 simp (maxSteps:=2000000) only [s132,↓Za,↓Zk,↓Zr,↓Ze,↓Zm,↓Zs,↓Zf,↓Zh,↓Zg,↓Zc,↓Zb,↓vdn,vup,Zn,Zl,Zo,Zi,Zj,List.map_cons,List.map_nil,cond_true,cond_false,aop,Zv,Zq,Zp,ev,sput,Zt,Zy,Ya,unK,Zd,Zw,Nat.reduceBEq,Nat.reduceAdd,Int.reduceBEq,Int.reduceBNe,Int.reduceLT,Zu,Zz,tup,tyf,show decide ((-1:Int)≥0)=false from rfl]
theorem s90_callW [Tabs Tryd.prog] {args:List Value} {h:Yc} {Q:Value→Yc→Prop} (hsz:args.length≤29) (hk:AWS Tryd.prog 29 s90 (Zu Tryd.prog [.tmp 2] Q) (Zp 0 args) h):ACall Tryd.prog 90 args h Q :=
 Xg Tryd.func90 rfl (enters_of Tryd.func90 (by kernel_rfl) rfl) rfl rfl (by decide) s90_strip s90_ok hsz hk
theorem valid_call [Tabs prog] {h:Yc} {v:Value} {t:List (List Int)} (hv:TabS h v t) (ht:Tab t):ACall prog 90 [v] h fun r h'=>r = .bool true∧Ext (fun _=>False) h h':=by
 refine s90_callW (by simp) ?_
 simp only [s90]
 refine Yb fun N12 hN12=>?_
 simp (maxSteps:=2000000) only [s90,↓Za,↓Zk,↓Zr,↓Ze,↓Zm,↓Zs,↓Zf,↓Zh,↓Zg,↓Zc,↓Zb,↓vdn,vup,Zn,Zl,Zo,Zi,Zj,List.map_cons,List.map_nil,cond_true,cond_false,aop,Zv,Zq,Zp,ev,sput,Zt,Zy,Ya,unK,Zd,Zw,Nat.reduceBEq,Nat.reduceAdd,Int.reduceBEq,Int.reduceBNe,Int.reduceLT,Zu,Zz,tup,tyf,boxT hv,Xd]
 have hE:Ext (fun _=>False) h (h++[.cells [v] 70 false]):=Ext.app _ _ _
 have hb:=Yj h (.cells [v] 70 false)
 have hv1:=hv.ext hE
 generalize h++[.cells [v] 70 false]=h1 at hE hb hv1 ⊢
 generalize h.length=b at hb ⊢
 refine hN12 [(0,v),(1,pt b),(2,.bool false)] _ _ ?_ (by simp (maxSteps:=2000000) only [↓Za,↓Zk,↓Zr,↓Ze,↓Zm,↓Zs,↓Zf,↓Zh,↓Zg,↓Zc,↓Zb,↓vdn,vup,Zn,Zl,Zo,Zi,Zj,List.map_cons,List.map_nil,cond_true,cond_false,aop,Zv,Zq,Zp,ev,sput,Zt,Zy,Ya,unK,Zd,Zw,Nat.reduceBEq,Nat.reduceAdd,Int.reduceBEq,Int.reduceBNe,Int.reduceLT,Zu,Zz,tup,tyf])
 clear hN12
 try clear N12
 obtain ⟨w0,hw0,ld0⟩:=hv1.load (P:=prog) Wb (i:=0) ht.n1
 have hi0:=hv1.idx (P:=prog) el_70 Vb (k:=.i64) (i:=0) ht.n1
 rw [Int.natCast_zero] at hi0
 have a1 : ¬ ((t.length:Int)<1):=by have:=ht.n1; omega
 have a2 : ¬ ((4:Int)<(t.length:Int)):=by have:=ht.n4; omega
 have a3 : ¬ (((t.getD 0 []).length:Int)<1):=by have:=ht.w1; unfold wd at this; omega
 have a4 : ¬ ((4:Int)<((t.getD 0 []).length:Int)):=by have:=ht.w4; unfold wd at this; omega
 refine Ye fun M hM=>?_
 refine Yb fun N13 hN13=>?_
 simp only [q90_1]
 refine Yl 4 fun N1 hN1=>?_
 simp (maxSteps:=2000000) only [s90,↓Za,↓Zk,↓Zr,↓Ze,↓Zm,↓Zs,↓Zf,↓Zh,↓Zg,↓Zc,↓Zb,↓vdn,vup,Zn,Zl,Zo,Zi,Zj,List.map_cons,List.map_nil,cond_true,cond_false,aop,Zv,Zq,Zp,ev,sput,Zt,Zy,Ya,unK,Zd,Zw,Nat.reduceBEq,Nat.reduceAdd,Int.reduceBEq,Int.reduceBNe,Int.reduceLT,Zu,Zz,tup,tyf,List.take_succ_cons,List.take_zero,Xa hb shp_70,hv1.len,a1,decide_false]
 refine hN1 _ _ ?_
 clear hN1 N1
 simp only [List.drop_succ_cons,List.drop_zero]
 refine Yl 5 fun N1 hN1=>?_
 simp (maxSteps:=2000000) only [s90,↓Za,↓Zk,↓Zr,↓Ze,↓Zm,↓Zs,↓Zf,↓Zh,↓Zg,↓Zc,↓Zb,↓vdn,vup,Zn,Zl,Zo,Zi,Zj,List.map_cons,List.map_nil,cond_true,cond_false,aop,Zv,Zq,Zp,ev,sput,Zt,Zy,Ya,unK,Zd,Zw,Nat.reduceBEq,Nat.reduceAdd,Int.reduceBEq,Int.reduceBNe,Int.reduceLT,Zu,Zz,tup,tyf,List.take_succ_cons,List.take_zero,Xa hb shp_70,hv1.len,gt_iff_lt,a2,decide_false]
 refine hN1 _ _ ?_
 clear hN1 N1
 simp only [List.drop_succ_cons,List.drop_zero]
 refine Yl 7 fun N1 hN1=>?_
 simp (maxSteps:=2000000) only [s90,↓Za,↓Zk,↓Zr,↓Ze,↓Zm,↓Zs,↓Zf,↓Zh,↓Zg,↓Zc,↓Zb,↓vdn,vup,Zn,Zl,Zo,Zi,Zj,List.map_cons,List.map_nil,cond_true,cond_false,aop,Zv,Zq,Zp,ev,sput,Zt,Zy,Ya,unK,Zd,Zw,Nat.reduceBEq,Nat.reduceAdd,Int.reduceBEq,Int.reduceBNe,Int.reduceLT,Zu,Zz,tup,tyf,List.take_succ_cons,List.take_zero,Xa hb shp_70,hi0,ld0,hw0.len,a3,decide_false]
 refine hN1 _ _ ?_
 clear hN1 N1
 simp only [List.drop_succ_cons,List.drop_zero]
 simp (maxSteps:=2000000) only [s90,↓Za,↓Zk,↓Zr,↓Ze,↓Zm,↓Zs,↓Zf,↓Zh,↓Zg,↓Zc,↓Zb,↓vdn,vup,Zn,Zl,Zo,Zi,Zj,List.map_cons,List.map_nil,cond_true,cond_false,aop,Zv,Zq,Zp,ev,sput,Zt,Zy,Ya,unK,Zd,Zw,Nat.reduceBEq,Nat.reduceAdd,Int.reduceBEq,Int.reduceBNe,Int.reduceLT,Zu,Zz,tup,tyf,Xa hb shp_70,hi0,ld0,hw0.len,gt_iff_lt,a4,decide_false]
 refine hN13 [(0,v),(1,pt b),(2,.bool false),(24,.bool false)] _ _ ?_ (by simp (maxSteps:=2000000) only [↓Za,↓Zk,↓Zr,↓Ze,↓Zm,↓Zs,↓Zf,↓Zh,↓Zg,↓Zc,↓Zb,↓vdn,vup,Zn,Zl,Zo,Zi,Zj,List.map_cons,List.map_nil,cond_true,cond_false,aop,Zv,Zq,Zp,ev,sput,Zt,Zy,Ya,unK,Zd,Zw,Nat.reduceBEq,Nat.reduceAdd,Int.reduceBEq,Int.reduceBNe,Int.reduceLT,Zu,Zz,tup,tyf])
 clear hN13
 try clear N13
 refine Yq rfl ?_
 refine Yd ?_
 simp (maxSteps:=2000000) only [s90,↓Za,↓Zk,↓Zr,↓Ze,↓Zm,↓Zs,↓Zf,↓Zh,↓Zg,↓Zc,↓Zb,↓vdn,vup,Zn,Zl,Zo,Zi,Zj,List.map_cons,List.map_nil,cond_true,cond_false,aop,Zv,Zq,Zp,ev,sput,Zt,Zy,Ya,unK,Zd,Zw,Nat.reduceBEq,Nat.reduceAdd,Int.reduceBEq,Int.reduceBNe,Int.reduceLT,Zu,Zz,tup,tyf]
 refine hM [(0,v),(1,pt b),(2,.bool false)] _ _ ?_ (by simp (maxSteps:=2000000) only [↓Za,↓Zk,↓Zr,↓Ze,↓Zm,↓Zs,↓Zf,↓Zh,↓Zg,↓Zc,↓Zb,↓vdn,vup,Zn,Zl,Zo,Zi,Zj,List.map_cons,List.map_nil,cond_true,cond_false,aop,Zv,Zq,Zp,ev,sput,Zt,Zy,Ya,unK,Zd,Zw,Nat.reduceBEq,Nat.reduceAdd,Int.reduceBEq,Int.reduceBNe,Int.reduceLT,Zu,Zz,tup,tyf])
 clear hM
 try clear M
 refine Yd ?_
 simp (maxSteps:=2000000) only [s90,↓Za,↓Zk,↓Zr,↓Ze,↓Zm,↓Zs,↓Zf,↓Zh,↓Zg,↓Zc,↓Zb,↓vdn,vup,Zn,Zl,Zo,Zi,Zj,List.map_cons,List.map_nil,cond_true,cond_false,aop,Zv,Zq,Zp,ev,sput,Zt,Zy,Ya,unK,Zd,Zw,Nat.reduceBEq,Nat.reduceAdd,Int.reduceBEq,Int.reduceBNe,Int.reduceLT,Zu,Zz,tup,tyf,Yz,List.nil_append,List.append_nil,List.toList_toArray,List.cons_append,Xa hb shp_70,List.map_toArray]
 refine (contains_call hb hv1 ht).mono ?_
 rintro _ h1 ⟨rfl,rfl⟩
 simp (maxSteps:=2000000) only [s90,↓Za,↓Zk,↓Zr,↓Ze,↓Zm,↓Zs,↓Zf,↓Zh,↓Zg,↓Zc,↓Zb,↓vdn,vup,Zn,Zl,Zo,Zi,Zj,List.map_cons,List.map_nil,cond_true,cond_false,aop,Zv,Zq,Zp,ev,sput,Zt,Zy,Ya,unK,Zd,Zw,Nat.reduceBEq,Nat.reduceAdd,Int.reduceBEq,Int.reduceBNe,Int.reduceLT,Zu,Zz,tup,tyf,Bool.not_false]
 exact hE
theorem s37_callW [Tabs Tryd.prog] {args:List Value} {h:Yc} {Q:Value→Yc→Prop} (hsz:args.length≤15) (hk:AWS Tryd.prog 15 s37 (Zu Tryd.prog [.tmp 4] Q) (Zp 0 args) h):ACall Tryd.prog 37 args h Q :=
 Xg Tryd.func37 rfl (enters_of Tryd.func37 (by kernel_rfl) rfl) rfl rfl (by decide) s37_strip s37_ok hsz hk
theorem isvalue_call [Tabs prog] {h:Yc} {v:Value} {t:List (List Int)} {x:Int} (hv:TabS h v t) (ht:Tab t) (hx:x=0∨x=1):ACall prog 37 [v,Zx x] h fun r h'=>r = .bool true∧Ext (fun _=>False) h h':=by
 refine s37_callW (by simp) ?_
 simp only [s37]
 refine Yb fun N14 hN14=>?_
 simp (maxSteps:=2000000) only [s37,↓Za,↓Zk,↓Zr,↓Ze,↓Zm,↓Zs,↓Zf,↓Zh,↓Zg,↓Zc,↓Zb,↓vdn,vup,Zn,Zl,Zo,Zi,Zj,List.map_cons,List.map_nil,cond_true,cond_false,aop,Zv,Zq,Zp,ev,sput,Zt,Zy,Ya,unK,Zd,Zw,Nat.reduceBEq,Nat.reduceAdd,Int.reduceBEq,Int.reduceBNe,Int.reduceLT,Zu,Zz,tup,tyf]
 refine hN14 [(0,v),(1,Zx x),(4,.bool false)] _ _ ?_ (by simp (maxSteps:=2000000) only [↓Za,↓Zk,↓Zr,↓Ze,↓Zm,↓Zs,↓Zf,↓Zh,↓Zg,↓Zc,↓Zb,↓vdn,vup,Zn,Zl,Zo,Zi,Zj,List.map_cons,List.map_nil,cond_true,cond_false,aop,Zv,Zq,Zp,ev,sput,Zt,Zy,Ya,unK,Zd,Zw,Nat.reduceBEq,Nat.reduceAdd,Int.reduceBEq,Int.reduceBNe,Int.reduceLT,Zu,Zz,tup,tyf])
 clear hN14
 try clear N14
 refine Yb fun N15 hN15=>?_
 simp only [q37_1]
 refine Yl 2 fun N1 hN1=>?_
 simp (maxSteps:=2000000) only [s37,↓Za,↓Zk,↓Zr,↓Ze,↓Zm,↓Zs,↓Zf,↓Zh,↓Zg,↓Zc,↓Zb,↓vdn,vup,Zn,Zl,Zo,Zi,Zj,List.map_cons,List.map_nil,cond_true,cond_false,aop,Zv,Zq,Zp,ev,sput,Zt,Zy,Ya,unK,Zd,Zw,Nat.reduceBEq,Nat.reduceAdd,Int.reduceBEq,Int.reduceBNe,Int.reduceLT,Zu,Zz,tup,tyf,Yz,List.nil_append,List.append_nil,List.toList_toArray,List.cons_append,List.take_succ_cons,List.take_zero]
 refine (valid_call hv ht).mono ?_
 rintro _ h1 ⟨rfl,hE⟩
 refine hN1 _ _ ?_
 clear hN1 N1
 simp only [List.drop_succ_cons,List.drop_zero]
 rcases hx with rfl | rfl
 · simp (maxSteps:=2000000) only [s37,↓Za,↓Zk,↓Zr,↓Ze,↓Zm,↓Zs,↓Zf,↓Zh,↓Zg,↓Zc,↓Zb,↓vdn,vup,Zn,Zl,Zo,Zi,Zj,List.map_cons,List.map_nil,cond_true,cond_false,aop,Zv,Zq,Zp,ev,sput,Zt,Zy,Ya,unK,Zd,Zw,Nat.reduceBEq,Nat.reduceAdd,Int.reduceBEq,Int.reduceBNe,Int.reduceLT,Zu,Zz,tup,tyf]
   refine hN15 [(0,v),(1,Zx 0),(4,.bool true)] _ _ ?_ (by simp (maxSteps:=2000000) only [↓Za,↓Zk,↓Zr,↓Ze,↓Zm,↓Zs,↓Zf,↓Zh,↓Zg,↓Zc,↓Zb,↓vdn,vup,Zn,Zl,Zo,Zi,Zj,List.map_cons,List.map_nil,cond_true,cond_false,aop,Zv,Zq,Zp,ev,sput,Zt,Zy,Ya,unK,Zd,Zw,Nat.reduceBEq,Nat.reduceAdd,Int.reduceBEq,Int.reduceBNe,Int.reduceLT,Zu,Zz,tup,tyf])
   clear hN15
   try clear N15
   refine Yd ?_
   simp (maxSteps:=2000000) only [s37,↓Za,↓Zk,↓Zr,↓Ze,↓Zm,↓Zs,↓Zf,↓Zh,↓Zg,↓Zc,↓Zb,↓vdn,vup,Zn,Zl,Zo,Zi,Zj,List.map_cons,List.map_nil,cond_true,cond_false,aop,Zv,Zq,Zp,ev,sput,Zt,Zy,Ya,unK,Zd,Zw,Nat.reduceBEq,Nat.reduceAdd,Int.reduceBEq,Int.reduceBNe,Int.reduceLT,Zu,Zz,tup,tyf]
   exact hE
 · simp (maxSteps:=2000000) only [s37,↓Za,↓Zk,↓Zr,↓Ze,↓Zm,↓Zs,↓Zf,↓Zh,↓Zg,↓Zc,↓Zb,↓vdn,vup,Zn,Zl,Zo,Zi,Zj,List.map_cons,List.map_nil,cond_true,cond_false,aop,Zv,Zq,Zp,ev,sput,Zt,Zy,Ya,unK,Zd,Zw,Nat.reduceBEq,Nat.reduceAdd,Int.reduceBEq,Int.reduceBNe,Int.reduceLT,Zu,Zz,tup,tyf]
   refine hN15 [(0,v),(1,Zx 1),(4,.bool true)] _ _ ?_ (by simp (maxSteps:=2000000) only [↓Za,↓Zk,↓Zr,↓Ze,↓Zm,↓Zs,↓Zf,↓Zh,↓Zg,↓Zc,↓Zb,↓vdn,vup,Zn,Zl,Zo,Zi,Zj,List.map_cons,List.map_nil,cond_true,cond_false,aop,Zv,Zq,Zp,ev,sput,Zt,Zy,Ya,unK,Zd,Zw,Nat.reduceBEq,Nat.reduceAdd,Int.reduceBEq,Int.reduceBNe,Int.reduceLT,Zu,Zz,tup,tyf])
   clear hN15
   try clear N15
   refine Yd ?_
   simp (maxSteps:=2000000) only [s37,↓Za,↓Zk,↓Zr,↓Ze,↓Zm,↓Zs,↓Zf,↓Zh,↓Zg,↓Zc,↓Zb,↓vdn,vup,Zn,Zl,Zo,Zi,Zj,List.map_cons,List.map_nil,cond_true,cond_false,aop,Zv,Zq,Zp,ev,sput,Zt,Zy,Ya,unK,Zd,Zw,Nat.reduceBEq,Nat.reduceAdd,Int.reduceBEq,Int.reduceBNe,Int.reduceLT,Zu,Zz,tup,tyf]
   exact hE
end Go.Proofs.Tryd.Am.Tf
namespace Go.Proofs.Tryd.Am.Tf
open Go.Proofs.Tryd.Am
open Go.Am
set_option maxRecDepth 100000
set_option maxHeartbeats 2000000
def erow (i:Nat) (x:Int) (r:List Int):Nat→List (Int×Int)
 | 0=>[]
 | j+1=>if r.getD j 0=x then erow i x r j++[((i:Int),(j:Int))] else erow i x r j
def ents (x:Int) (t:List (List Int)):Nat→List (Int×Int)
 | 0=>[]
 | i+1=>ents x t i++erow i x (t.getD i []) (t.getD i []).length
def entL (t:List (List Int)) (x:Int):List (Int×Int):=ents x t t.length
theorem erow_len (i:Nat) (x:Int) (r:List Int) : ∀ j,(erow i x r j).length≤j
 | 0=>by simp [erow]
 | j+1=>by
   have:=erow_len i x r j
   rw [erow]; split
   · rw [List.length_append,List.length_singleton]; omega
   · omega
theorem Tab.wid {t:List (List Int)} (ht:Tab t) (i:Nat):(t.getD i []).length≤4:=by
 by_cases hi:i<t.length
 · rw [(ht.row _ (ht.get hi)).1]; exact ht.w4
 · rw [List.getD,List.getElem?_eq_none (by omega)]; simp
theorem ents_len {t:List (List Int)} (ht:Tab t) (x:Int) : ∀ i,(ents x t i).length≤i*4
 | 0=>by simp [ents]
 | i+1=>by
   have h1:=ents_len ht x i
   have h2:=erow_len i x (t.getD i []) (t.getD i []).length
   have h3:=ht.wid i
   rw [ents,List.length_append]; omega
theorem erow_mem {i:Nat} {x:Int} {r:List Int} {p:Int×Int} : ∀ {j},p∈erow i x r j→∃ k,k<j∧p=((i:Int),(k:Int))∧r.getD k 0=x
 | 0,h=>by simp [erow] at h
 | j+1,h=>by
   rw [erow] at h
   split at h
   · rename_i hx
     rcases List.mem_append.1 h with h | h
     · obtain ⟨k,h1,h2⟩:=erow_mem h; exact ⟨k,by omega,h2⟩
     · rw [List.mem_singleton] at h; exact ⟨j,by omega,h,hx⟩
   · obtain ⟨k,h1,h2⟩:=erow_mem h; exact ⟨k,by omega,h2⟩
theorem ents_mem {x:Int} {t:List (List Int)} {p:Int×Int} : ∀ {n},p∈ents x t n→∃ i k:Nat,i<n∧k<(t.getD i []).length∧p=((i:Int),(k:Int))∧(t.getD i []).getD k 0=x
 | 0,h=>by simp [ents] at h
 | n+1,h=>by
   rw [ents] at h
   rcases List.mem_append.1 h with h | h
   · obtain ⟨i,k,h1,h2⟩:=ents_mem h; exact ⟨i,k,by omega,h2⟩
   · obtain ⟨k,h1,h2,h3⟩:=erow_mem h; exact ⟨n,k,by omega,h1,h2,h3⟩
structure EN (e:TypeId) (h hp:Yc) (ov:Value) (l:List (Int×Int)):Prop where
 own:OwnP e hp ov l
 ext:Ext (fun _=>False) h hp
 new : ∀ b,Yk ov=some b→h.length≤b
theorem EN.nil (e:TypeId) (h:Yc):EN e h h (.slice none 0 0) []:=⟨.inl ⟨rfl,rfl⟩,Ext.refl _ _,nofun⟩
theorem EN.step {e:TypeId} {h hp h' : Yc} {ov w:Value} {l l' : List (Int×Int)} {g:Yc} (s:EN e h hp ov l) (ho:OwnP e h' w l') (hE:Ext (fun i=>Yk ov=some i) (hp++g) h') (hb:Yk w=Yk ov∨∃ b,Yk w=some b∧(hp++g).length≤b):EN e h h' w l':=by
 have h1:=s.ext.1
 have h2:=hE.1
 rw [List.length_append] at h2
 refine ⟨ho,⟨by omega,fun q hq _=>?_⟩,fun b hb2=>?_⟩
 · rw [hE.2 q (by rw [List.length_append]; omega) (fun hc=>by have:=s.new q hc; omega),List.getElem?_append_left (by omega)]
   exact s.ext.2 q hq id
 · rcases hb with hb | ⟨b',hb,hc⟩
   · exact s.new b (hb▸hb2)
   · rw [hb] at hb2; cases hb2
     rw [List.length_append] at hc; omega
theorem bldP {x y:Int} {K:Value→Prop}:Vv prog 28 [(0,Zx x),(1,Zx y)] K=K (.agg #[Zx x,Zx y]):=by
 simp [Vv,zero_28,fillL,pl_28_0,pl_28_1,Wt,cellsOf,Yt]
theorem litP {h:Yc} {x y:Int} {K:Value→Yc→Prop}:Yx prog h 26 1 [(0,.agg #[Zx x,Zx y])] K=K (.slice (some ⟨h.length,0,none⟩) 1 1) (h++[.ints [x,y] 28 false]):=by
 simp only [Yx,el_26,zero_28,Vk,reps,fillL,mkb,Wt,cellsOf,List.toList_toArray,List.length_cons,List.length_nil,Nat.zero_add,Nat.zero_mul,Yt]
 refine propext ⟨fun h=>?_,fun h=>⟨trivial,by decide,by decide,?_⟩⟩
 · simpa [Xf] using h.2.2.2
 · simpa [Xf] using h
theorem TabS.load2 {P:Program} {h:Yc} {v:Value} {t:List (List Int)} (ho:TabS h v t) {ty:TypeId} (hs:shp P ty=some none) {i:Nat} (hi:i<t.length) : ∃ w,IntSl h w (t.getD i [])∧∀ h',Ext (fun _=>False) h h'→∀ K:Value→Prop,Xn P h' ty (Wq v 1 i) K=K w:=by
 obtain ⟨ws,h1,h2⟩:=ho
 exact ⟨ws.getD i undef,h2.get undef [] hi,fun h' hE K=>(h1.ext hE).load hs (by rw [h2.len]; exact hi) K⟩
theorem intExt {h h' : Yc} {w:Value} {l:List Int} (hw:IntSl h w l) (he:Ext (fun _=>False) h h'):IntSl h' w l:=hw.same fun b hb=>he.2 b (hw.lt hb) id
theorem s38_callW [Tabs Tryd.prog] {args:List Value} {h:Yc} {Q:Value→Yc→Prop} (hsz:args.length≤36) (hk:AWS Tryd.prog 36 s38 (Zu Tryd.prog [.tmp 4] Q) (Zp 0 args) h):ACall Tryd.prog 38 args h Q :=
 Xg Tryd.func38 rfl (enters_of Tryd.func38 (by kernel_rfl) rfl) rfl rfl (by decide) s38_strip s38_ok hsz hk
theorem entries_call [Tabs prog] {h:Yc} {v:Value} {t:List (List Int)} {x:Int} (hv:TabS h v t) (ht:Tab t):ACall prog 38 [v,Zx x] h fun r h'=>EN 28 h h' r (entL t x):=by
 refine s38_callW (by simp) ?_
 simp only [s38]
 have hn4:=ht.n4
 refine Yb fun N1 hN1=>?_
 simp (maxSteps:=2000000) only [s38,↓Za,↓Zk,↓Zr,↓Ze,↓Zm,↓Zs,↓Zf,↓Zh,↓Zg,↓Zc,↓Zb,↓vdn,vup,Zn,Zl,Zo,Zi,Zj,List.map_cons,List.map_nil,cond_true,cond_false,aop,Zv,Zq,Zp,ev,sput,Zt,Zy,Ya,unK,Zd,Zw,Nat.reduceBEq,Nat.reduceAdd,Int.reduceBEq,Int.reduceBNe,Int.reduceLT,Zu,Zz,tup,tyf]
 refine hN1 [(0,v),(1,Zx x),(4,.slice none 0 0)] _ _ ?_ (by simp (maxSteps:=2000000) only [↓Za,↓Zk,↓Zr,↓Ze,↓Zm,↓Zs,↓Zf,↓Zh,↓Zg,↓Zc,↓Zb,↓vdn,vup,Zn,Zl,Zo,Zi,Zj,List.map_cons,List.map_nil,cond_true,cond_false,aop,Zv,Zq,Zp,ev,sput,Zt,Zy,Ya,unK,Zd,Zw,Nat.reduceBEq,Nat.reduceAdd,Int.reduceBEq,Int.reduceBNe,Int.reduceLT,Zu,Zz,tup,tyf])
 clear hN1
 try clear N1
 refine Yb fun N2 hN2=>?_
 simp (maxSteps:=2000000) only [s38,↓Za,↓Zk,↓Zr,↓Ze,↓Zm,↓Zs,↓Zf,↓Zh,↓Zg,↓Zc,↓Zb,↓vdn,vup,Zn,Zl,Zo,Zi,Zj,List.map_cons,List.map_nil,cond_true,cond_false,aop,Zv,Zq,Zp,ev,sput,Zt,Zy,Ya,unK,Zd,Zw,Nat.reduceBEq,Nat.reduceAdd,Int.reduceBEq,Int.reduceBNe,Int.reduceLT,Zu,Zz,tup,tyf]
 refine hN2 [(0,v),(1,Zx x),(4,.slice none 0 0),(5,.slice none 0 0)] _ _ ?_ (by simp (maxSteps:=2000000) only [↓Za,↓Zk,↓Zr,↓Ze,↓Zm,↓Zs,↓Zf,↓Zh,↓Zg,↓Zc,↓Zb,↓vdn,vup,Zn,Zl,Zo,Zi,Zj,List.map_cons,List.map_nil,cond_true,cond_false,aop,Zv,Zq,Zp,ev,sput,Zt,Zy,Ya,unK,Zd,Zw,Nat.reduceBEq,Nat.reduceAdd,Int.reduceBEq,Int.reduceBNe,Int.reduceLT,Zu,Zz,tup,tyf])
 clear hN2
 try clear N2
 refine Ye fun M hM=>?_
 refine Yb fun N3 hN3=>?_
 simp (maxSteps:=2000000) only [s38,↓Za,↓Zk,↓Zr,↓Ze,↓Zm,↓Zs,↓Zf,↓Zh,↓Zg,↓Zc,↓Zb,↓vdn,vup,Zn,Zl,Zo,Zi,Zj,List.map_cons,List.map_nil,cond_true,cond_false,aop,Zv,Zq,Zp,ev,sput,Zt,Zy,Ya,unK,Zd,Zw,Nat.reduceBEq,Nat.reduceAdd,Int.reduceBEq,Int.reduceBNe,Int.reduceLT,Zu,Zz,tup,tyf,hv.len]
 refine hN3 [(0,v),(1,Zx x),(4,.slice none 0 0),(5,.slice none 0 0),(10,v),(11,Zx t.length),(12,.int .i64 0)] _ _ ?_ (by simp (maxSteps:=2000000) only [↓Za,↓Zk,↓Zr,↓Ze,↓Zm,↓Zs,↓Zf,↓Zh,↓Zg,↓Zc,↓Zb,↓vdn,vup,Zn,Zl,Zo,Zi,Zj,List.map_cons,List.map_nil,cond_true,cond_false,aop,Zv,Zq,Zp,ev,sput,Zt,Zy,Ya,unK,Zd,Zw,Nat.reduceBEq,Nat.reduceAdd,Int.reduceBEq,Int.reduceBNe,Int.reduceLT,Zu,Zz,tup,tyf])
 clear hN3
 try clear N3
 refine Yh ?_
 refine Yf fun Q hQ=>?_
 refine Xh (γ:=Nat×Value×Yc) (fun s=>s.1≤t.length∧EN 28 h s.2.2 s.2.1 (ents x t s.1))
  (fun s=>([(0,v),(1,Zx x),(4,.slice none 0 0),(5,s.2.1),(10,v),(11,Zx t.length),(12,Zx (s.1:Nat))],s.2.2)) (fun s=>t.length-s.1) (0,.slice none 0 0,h) ⟨Nat.zero_le _,EN.nil 28 h⟩ (by simp (maxSteps:=2000000) only [↓Za,↓Zk,↓Zr,↓Ze,↓Zm,↓Zs,↓Zf,↓Zh,↓Zg,↓Zc,↓Zb,↓vdn,vup,Zn,Zl,Zo,Zi,Zj,List.map_cons,List.map_nil,cond_true,cond_false,aop,Zv,Zq,Zp,ev,sput,Zt,Zy,Ya,unK,Zd,Zw,Nat.reduceBEq,Nat.reduceAdd,Int.reduceBEq,Int.reduceBNe,Int.reduceLT,Zu,Zz,tup,tyf,Int.natCast_zero]) rfl ?_
 rintro ⟨i,ov,hp⟩ ⟨hi,s⟩
 simp only at hi s
 refine Yf fun Q2 hQ2=>?_
 simp only [l38_1]
 by_cases hin:(i:Int)<t.length
 · have hi' : i<t.length:=by omega
   obtain ⟨w,hw,ld⟩:=hv.load2 (P:=prog) Wb hi'
   have hn:=ents_len ht x i
   have hr4:=ht.wid i
   have hes:ents x t (i+1)=ents x t i++erow i x (t.getD i []) (t.getD i []).length:=rfl
   generalize t.getD i []=r at hw hr4 hes
   refine Yb fun N4 hN4=>?_
   simp (maxSteps:=2000000) only [s38,↓Za,↓Zk,↓Zr,↓Ze,↓Zm,↓Zs,↓Zf,↓Zh,↓Zg,↓Zc,↓Zb,↓vdn,vup,Zn,Zl,Zo,Zi,Zj,List.map_cons,List.map_nil,cond_true,cond_false,aop,Zv,Zq,Zp,ev,sput,Zt,Zy,Ya,unK,Zd,Zw,Nat.reduceBEq,Nat.reduceAdd,Int.reduceBEq,Int.reduceBNe,Int.reduceLT,Zu,Zz,tup,tyf,hin]
   refine hN4 [(0,v),(1,Zx x),(4,.slice none 0 0),(5,ov),(10,v),(11,Zx t.length),(12,Zx (i:Nat)),(13,.bool true)] _ _ ?_ (by simp (maxSteps:=2000000) only [↓Za,↓Zk,↓Zr,↓Ze,↓Zm,↓Zs,↓Zf,↓Zh,↓Zg,↓Zc,↓Zb,↓vdn,vup,Zn,Zl,Zo,Zi,Zj,List.map_cons,List.map_nil,cond_true,cond_false,aop,Zv,Zq,Zp,ev,sput,Zt,Zy,Ya,unK,Zd,Zw,Nat.reduceBEq,Nat.reduceAdd,Int.reduceBEq,Int.reduceBNe,Int.reduceLT,Zu,Zz,tup,tyf])
   clear hN4
   try clear N4
   refine Yb fun N5 hN5=>?_
   simp (maxSteps:=2000000) only [s38,↓Za,↓Zk,↓Zr,↓Ze,↓Zm,↓Zs,↓Zf,↓Zh,↓Zg,↓Zc,↓Zb,↓vdn,vup,Zn,Zl,Zo,Zi,Zj,List.map_cons,List.map_nil,cond_true,cond_false,aop,Zv,Zq,Zp,ev,sput,Zt,Zy,Ya,unK,Zd,Zw,Nat.reduceBEq,Nat.reduceAdd,Int.reduceBEq,Int.reduceBNe,Int.reduceLT,Zu,Zz,tup,tyf]
   refine hN5 [(0,v),(1,Zx x),(4,.slice none 0 0),(5,ov),(10,v),(11,Zx t.length),(12,Zx (i:Nat))] _ _ ?_ (by simp (maxSteps:=2000000) only [↓Za,↓Zk,↓Zr,↓Ze,↓Zm,↓Zs,↓Zf,↓Zh,↓Zg,↓Zc,↓Zb,↓vdn,vup,Zn,Zl,Zo,Zi,Zj,List.map_cons,List.map_nil,cond_true,cond_false,aop,Zv,Zq,Zp,ev,sput,Zt,Zy,Ya,unK,Zd,Zw,Nat.reduceBEq,Nat.reduceAdd,Int.reduceBEq,Int.reduceBNe,Int.reduceLT,Zu,Zz,tup,tyf])
   clear hN5
   try clear N5
   refine Ye fun B hB=>?_
   refine Yh ?_
   refine Yb fun N6 hN6=>?_
   simp (maxSteps:=2000000) only [s38,↓Za,↓Zk,↓Zr,↓Ze,↓Zm,↓Zs,↓Zf,↓Zh,↓Zg,↓Zc,↓Zb,↓vdn,vup,Zn,Zl,Zo,Zi,Zj,List.map_cons,List.map_nil,cond_true,cond_false,aop,Zv,Zq,Zp,ev,sput,Zt,Zy,Ya,unK,Zd,Zw,Nat.reduceBEq,Nat.reduceAdd,Int.reduceBEq,Int.reduceBNe,Int.reduceLT,Zu,Zz,tup,tyf,(hv.ext s.ext).idx el_70 Vb hi',ld _ s.ext]
   refine hN6 [(0,v),(1,Zx x),(4,.slice none 0 0),(5,ov),(6,Zx (i:Nat)),(7,w),(10,v),(11,Zx t.length),(12,Zx (i:Nat))] _ _ ?_ (by simp (maxSteps:=2000000) only [↓Za,↓Zk,↓Zr,↓Ze,↓Zm,↓Zs,↓Zf,↓Zh,↓Zg,↓Zc,↓Zb,↓vdn,vup,Zn,Zl,Zo,Zi,Zj,List.map_cons,List.map_nil,cond_true,cond_false,aop,Zv,Zq,Zp,ev,sput,Zt,Zy,Ya,unK,Zd,Zw,Nat.reduceBEq,Nat.reduceAdd,Int.reduceBEq,Int.reduceBNe,Int.reduceLT,Zu,Zz,tup,tyf])
   clear hN6
   try clear N6
   refine Yb fun N7 hN7=>?_
   simp (maxSteps:=2000000) only [s38,↓Za,↓Zk,↓Zr,↓Ze,↓Zm,↓Zs,↓Zf,↓Zh,↓Zg,↓Zc,↓Zb,↓vdn,vup,Zn,Zl,Zo,Zi,Zj,List.map_cons,List.map_nil,cond_true,cond_false,aop,Zv,Zq,Zp,ev,sput,Zt,Zy,Ya,unK,Zd,Zw,Nat.reduceBEq,Nat.reduceAdd,Int.reduceBEq,Int.reduceBNe,Int.reduceLT,Zu,Zz,tup,tyf,hw.len]
   refine hN7 [(0,v),(1,Zx x),(4,.slice none 0 0),(5,ov),(6,Zx (i:Nat)),(7,w),(10,v),(11,Zx t.length),(12,Zx (i:Nat)),(17,w),(18,Zx r.length),(19,.int .i64 0)] _ _ ?_ (by simp (maxSteps:=2000000) only [↓Za,↓Zk,↓Zr,↓Ze,↓Zm,↓Zs,↓Zf,↓Zh,↓Zg,↓Zc,↓Zb,↓vdn,vup,Zn,Zl,Zo,Zi,Zj,List.map_cons,List.map_nil,cond_true,cond_false,aop,Zv,Zq,Zp,ev,sput,Zt,Zy,Ya,unK,Zd,Zw,Nat.reduceBEq,Nat.reduceAdd,Int.reduceBEq,Int.reduceBNe,Int.reduceLT,Zu,Zz,tup,tyf])
   clear hN7
   try clear N7
   refine Yh ?_
   refine Yf fun Q3 hQ3=>?_
   refine Xh (γ:=Nat×Value×Yc) (fun s=>s.1≤r.length∧EN 28 h s.2.2 s.2.1 (ents x t i++erow i x r s.1))
    (fun s=>([(0,v),(1,Zx x),(4,.slice none 0 0),(5,s.2.1),(6,Zx (i:Nat)),(7,w),(10,v),(11,Zx t.length),(12,Zx (i:Nat)),(17,w),(18,Zx r.length),(19,Zx (s.1:Nat))],s.2.2)) (fun s=>r.length-s.1) (0,ov,hp) ⟨Nat.zero_le _,by simpa [erow] using s⟩ (by simp (maxSteps:=2000000) only [↓Za,↓Zk,↓Zr,↓Ze,↓Zm,↓Zs,↓Zf,↓Zh,↓Zg,↓Zc,↓Zb,↓vdn,vup,Zn,Zl,Zo,Zi,Zj,List.map_cons,List.map_nil,cond_true,cond_false,aop,Zv,Zq,Zp,ev,sput,Zt,Zy,Ya,unK,Zd,Zw,Nat.reduceBEq,Nat.reduceAdd,Int.reduceBEq,Int.reduceBNe,Int.reduceLT,Zu,Zz,tup,tyf,Int.natCast_zero]) rfl ?_
   rintro ⟨j,ov2,hq⟩ ⟨hj,s2⟩
   simp only at hj s2
   refine Yf fun Q4 hQ4=>?_
   simp only [l38_0]
   by_cases hjn:(j:Int)<r.length
   · have hj' : j<r.length:=by omega
     have hwq:=intExt hw s2.ext
     have hel:=erow_len i x r j
     have hej:erow i x r (j+1)=if r.getD j 0=x then erow i x r j++[((i:Int),(j:Int))] else erow i x r j:=rfl
     refine Yb fun N8 hN8=>?_
     simp (maxSteps:=2000000) only [s38,↓Za,↓Zk,↓Zr,↓Ze,↓Zm,↓Zs,↓Zf,↓Zh,↓Zg,↓Zc,↓Zb,↓vdn,vup,Zn,Zl,Zo,Zi,Zj,List.map_cons,List.map_nil,cond_true,cond_false,aop,Zv,Zq,Zp,ev,sput,Zt,Zy,Ya,unK,Zd,Zw,Nat.reduceBEq,Nat.reduceAdd,Int.reduceBEq,Int.reduceBNe,Int.reduceLT,Zu,Zz,tup,tyf,hjn]
     refine hN8 [(0,v),(1,Zx x),(4,.slice none 0 0),(5,ov2),(6,Zx (i:Nat)),(7,w),(10,v),(11,Zx t.length),(12,Zx (i:Nat)),(17,w),(18,Zx r.length),(19,Zx (j:Nat)),(20,.bool true)] _ _ ?_ (by simp (maxSteps:=2000000) only [↓Za,↓Zk,↓Zr,↓Ze,↓Zm,↓Zs,↓Zf,↓Zh,↓Zg,↓Zc,↓Zb,↓vdn,vup,Zn,Zl,Zo,Zi,Zj,List.map_cons,List.map_nil,cond_true,cond_false,aop,Zv,Zq,Zp,ev,sput,Zt,Zy,Ya,unK,Zd,Zw,Nat.reduceBEq,Nat.reduceAdd,Int.reduceBEq,Int.reduceBNe,Int.reduceLT,Zu,Zz,tup,tyf])
     clear hN8
     try clear N8
     refine Yb fun N9 hN9=>?_
     simp (maxSteps:=2000000) only [s38,↓Za,↓Zk,↓Zr,↓Ze,↓Zm,↓Zs,↓Zf,↓Zh,↓Zg,↓Zc,↓Zb,↓vdn,vup,Zn,Zl,Zo,Zi,Zj,List.map_cons,List.map_nil,cond_true,cond_false,aop,Zv,Zq,Zp,ev,sput,Zt,Zy,Ya,unK,Zd,Zw,Nat.reduceBEq,Nat.reduceAdd,Int.reduceBEq,Int.reduceBNe,Int.reduceLT,Zu,Zz,tup,tyf]
     refine hN9 [(0,v),(1,Zx x),(4,.slice none 0 0),(5,ov2),(6,Zx (i:Nat)),(7,w),(10,v),(11,Zx t.length),(12,Zx (i:Nat)),(17,w),(18,Zx r.length),(19,Zx (j:Nat))] _ _ ?_ (by simp (maxSteps:=2000000) only [↓Za,↓Zk,↓Zr,↓Ze,↓Zm,↓Zs,↓Zf,↓Zh,↓Zg,↓Zc,↓Zb,↓vdn,vup,Zn,Zl,Zo,Zi,Zj,List.map_cons,List.map_nil,cond_true,cond_false,aop,Zv,Zq,Zp,ev,sput,Zt,Zy,Ya,unK,Zd,Zw,Nat.reduceBEq,Nat.reduceAdd,Int.reduceBEq,Int.reduceBNe,Int.reduceLT,Zu,Zz,tup,tyf])
     clear hN9
     try clear N9
     refine Ye fun C hC=>?_
     refine Yh ?_
     refine Yb fun N10 hN10=>?_
     simp (maxSteps:=2000000) only [s38,↓Za,↓Zk,↓Zr,↓Ze,↓Zm,↓Zs,↓Zf,↓Zh,↓Zg,↓Zc,↓Zb,↓vdn,vup,Zn,Zl,Zo,Zi,Zj,List.map_cons,List.map_nil,cond_true,cond_false,aop,Zv,Zq,Zp,ev,sput,Zt,Zy,Ya,unK,Zd,Zw,Nat.reduceBEq,Nat.reduceAdd,Int.reduceBEq,Int.reduceBNe,Int.reduceLT,Zu,Zz,tup,tyf,hwq.idx Wp Xk hj',hwq.load Yw hj']
     refine hN10 [(0,v),(1,Zx x),(4,.slice none 0 0),(5,ov2),(6,Zx (i:Nat)),(7,w),(8,Zx (j:Nat)),(9,Zx (r.getD j 0)),(10,v),(11,Zx t.length),(12,Zx (i:Nat)),(17,w),(18,Zx r.length),(19,Zx (j:Nat))] _ _ ?_ (by simp (maxSteps:=2000000) only [↓Za,↓Zk,↓Zr,↓Ze,↓Zm,↓Zs,↓Zf,↓Zh,↓Zg,↓Zc,↓Zb,↓vdn,vup,Zn,Zl,Zo,Zi,Zj,List.map_cons,List.map_nil,cond_true,cond_false,aop,Zv,Zq,Zp,ev,sput,Zt,Zy,Ya,unK,Zd,Zw,Nat.reduceBEq,Nat.reduceAdd,Int.reduceBEq,Int.reduceBNe,Int.reduceLT,Zu,Zz,tup,tyf])
     clear hN10
     try clear N10
     by_cases hx:r.getD j 0=x
     · have hxb:(r.getD j 0==x)=true:=by rw [hx]; exact beq_self_eq_true x
       refine Yb fun N11 hN11=>?_
       simp (maxSteps:=2000000) only [s38,↓Za,↓Zk,↓Zr,↓Ze,↓Zm,↓Zs,↓Zf,↓Zh,↓Zg,↓Zc,↓Zb,↓vdn,vup,Zn,Zl,Zo,Zi,Zj,List.map_cons,List.map_nil,cond_true,cond_false,aop,Zv,Zq,Zp,ev,sput,Zt,Zy,Ya,unK,Zd,Zw,Nat.reduceBEq,Nat.reduceAdd,Int.reduceBEq,Int.reduceBNe,Int.reduceLT,Zu,Zz,tup,tyf,hxb]
       refine hN11 [(0,v),(1,Zx x),(4,.slice none 0 0),(5,ov2),(6,Zx (i:Nat)),(7,w),(8,Zx (j:Nat)),(9,Zx (r.getD j 0)),(10,v),(11,Zx t.length),(12,Zx (i:Nat)),(17,w),(18,Zx r.length),(19,Zx (j:Nat)),(26,.bool true)] _ _ ?_ (by simp (maxSteps:=2000000) only [↓Za,↓Zk,↓Zr,↓Ze,↓Zm,↓Zs,↓Zf,↓Zh,↓Zg,↓Zc,↓Zb,↓vdn,vup,Zn,Zl,Zo,Zi,Zj,List.map_cons,List.map_nil,cond_true,cond_false,aop,Zv,Zq,Zp,ev,sput,Zt,Zy,Ya,unK,Zd,Zw,Nat.reduceBEq,Nat.reduceAdd,Int.reduceBEq,Int.reduceBNe,Int.reduceLT,Zu,Zz,tup,tyf])
       clear hN11
       try clear N11
       refine Xe rfl ?_
       refine Yd ?_
       simp (maxSteps:=2000000) only [s38,↓Za,↓Zk,↓Zr,↓Ze,↓Zm,↓Zs,↓Zf,↓Zh,↓Zg,↓Zc,↓Zb,↓vdn,vup,Zn,Zl,Zo,Zi,Zj,List.map_cons,List.map_nil,cond_true,cond_false,aop,Zv,Zq,Zp,ev,sput,Zt,Zy,Ya,unK,Zd,Zw,Nat.reduceBEq,Nat.reduceAdd,Int.reduceBEq,Int.reduceBNe,Int.reduceLT,Zu,Zz,tup,tyf,bldP,litP]
       refine (s2.own.ext (Ext.app _ _ _)).append app_26_26 (by rw [List.length_append]; omega) (Yj _ _) ?_
       intro w' h' ho hE hb
       refine hC [(0,v),(1,Zx x),(4,.slice none 0 0),(5,w'),(6,Zx (i:Nat)),(7,w),(10,v),(11,Zx t.length),(12,Zx (i:Nat)),(17,w),(18,Zx r.length),(19,Zx (j:Nat))] _ _ ?_ (by simp (maxSteps:=2000000) only [↓Za,↓Zk,↓Zr,↓Ze,↓Zm,↓Zs,↓Zf,↓Zh,↓Zg,↓Zc,↓Zb,↓vdn,vup,Zn,Zl,Zo,Zi,Zj,List.map_cons,List.map_nil,cond_true,cond_false,aop,Zv,Zq,Zp,ev,sput,Zt,Zy,Ya,unK,Zd,Zw,Nat.reduceBEq,Nat.reduceAdd,Int.reduceBEq,Int.reduceBNe,Int.reduceLT,Zu,Zz,tup,tyf])
       clear hC
       try clear C
       refine Yd ?_
       simp (maxSteps:=2000000) only [s38,↓Za,↓Zk,↓Zr,↓Ze,↓Zm,↓Zs,↓Zf,↓Zh,↓Zg,↓Zc,↓Zb,↓vdn,vup,Zn,Zl,Zo,Zi,Zj,List.map_cons,List.map_nil,cond_true,cond_false,aop,Zv,Zq,Zp,ev,sput,Zt,Zy,Ya,unK,Zd,Zw,Nat.reduceBEq,Nat.reduceAdd,Int.reduceBEq,Int.reduceBNe,Int.reduceLT,Zu,Zz,tup,tyf,Vd (show j<9223372036854775807 by omega)]
       exact hQ4 _ _ _ ⟨(j+1,w',h'),⟨hj',by rw [hej,if_pos hx,← List.append_assoc]; exact s2.step ho hE hb⟩,by simp only; omega,by simp (maxSteps:=2000000) only [↓Za,↓Zk,↓Zr,↓Ze,↓Zm,↓Zs,↓Zf,↓Zh,↓Zg,↓Zc,↓Zb,↓vdn,vup,Zn,Zl,Zo,Zi,Zj,List.map_cons,List.map_nil,cond_true,cond_false,aop,Zv,Zq,Zp,ev,sput,Zt,Zy,Ya,unK,Zd,Zw,Nat.reduceBEq,Nat.reduceAdd,Int.reduceBEq,Int.reduceBNe,Int.reduceLT,Zu,Zz,tup,tyf],rfl⟩
     · have hxb:(r.getD j 0==x)=false:=by rw [beq_eq_false_iff_ne]; exact hx
       refine Yb fun N12 hN12=>?_
       simp (maxSteps:=2000000) only [s38,↓Za,↓Zk,↓Zr,↓Ze,↓Zm,↓Zs,↓Zf,↓Zh,↓Zg,↓Zc,↓Zb,↓vdn,vup,Zn,Zl,Zo,Zi,Zj,List.map_cons,List.map_nil,cond_true,cond_false,aop,Zv,Zq,Zp,ev,sput,Zt,Zy,Ya,unK,Zd,Zw,Nat.reduceBEq,Nat.reduceAdd,Int.reduceBEq,Int.reduceBNe,Int.reduceLT,Zu,Zz,tup,tyf,hxb]
       refine hN12 [(0,v),(1,Zx x),(4,.slice none 0 0),(5,ov2),(6,Zx (i:Nat)),(7,w),(8,Zx (j:Nat)),(9,Zx (r.getD j 0)),(10,v),(11,Zx t.length),(12,Zx (i:Nat)),(17,w),(18,Zx r.length),(19,Zx (j:Nat)),(26,.bool false)] _ _ ?_ (by simp (maxSteps:=2000000) only [↓Za,↓Zk,↓Zr,↓Ze,↓Zm,↓Zs,↓Zf,↓Zh,↓Zg,↓Zc,↓Zb,↓vdn,vup,Zn,Zl,Zo,Zi,Zj,List.map_cons,List.map_nil,cond_true,cond_false,aop,Zv,Zq,Zp,ev,sput,Zt,Zy,Ya,unK,Zd,Zw,Nat.reduceBEq,Nat.reduceAdd,Int.reduceBEq,Int.reduceBNe,Int.reduceLT,Zu,Zz,tup,tyf])
       clear hN12
       try clear N12
       refine Yq rfl ?_
       refine Yd ?_
       simp (maxSteps:=2000000) only [s38,↓Za,↓Zk,↓Zr,↓Ze,↓Zm,↓Zs,↓Zf,↓Zh,↓Zg,↓Zc,↓Zb,↓vdn,vup,Zn,Zl,Zo,Zi,Zj,List.map_cons,List.map_nil,cond_true,cond_false,aop,Zv,Zq,Zp,ev,sput,Zt,Zy,Ya,unK,Zd,Zw,Nat.reduceBEq,Nat.reduceAdd,Int.reduceBEq,Int.reduceBNe,Int.reduceLT,Zu,Zz,tup,tyf]
       refine hC [(0,v),(1,Zx x),(4,.slice none 0 0),(5,ov2),(6,Zx (i:Nat)),(7,w),(10,v),(11,Zx t.length),(12,Zx (i:Nat)),(17,w),(18,Zx r.length),(19,Zx (j:Nat))] _ _ ?_ (by simp (maxSteps:=2000000) only [↓Za,↓Zk,↓Zr,↓Ze,↓Zm,↓Zs,↓Zf,↓Zh,↓Zg,↓Zc,↓Zb,↓vdn,vup,Zn,Zl,Zo,Zi,Zj,List.map_cons,List.map_nil,cond_true,cond_false,aop,Zv,Zq,Zp,ev,sput,Zt,Zy,Ya,unK,Zd,Zw,Nat.reduceBEq,Nat.reduceAdd,Int.reduceBEq,Int.reduceBNe,Int.reduceLT,Zu,Zz,tup,tyf])
       clear hC
       try clear C
       refine Yd ?_
       simp (maxSteps:=2000000) only [s38,↓Za,↓Zk,↓Zr,↓Ze,↓Zm,↓Zs,↓Zf,↓Zh,↓Zg,↓Zc,↓Zb,↓vdn,vup,Zn,Zl,Zo,Zi,Zj,List.map_cons,List.map_nil,cond_true,cond_false,aop,Zv,Zq,Zp,ev,sput,Zt,Zy,Ya,unK,Zd,Zw,Nat.reduceBEq,Nat.reduceAdd,Int.reduceBEq,Int.reduceBNe,Int.reduceLT,Zu,Zz,tup,tyf,Vd (show j<9223372036854775807 by omega)]
       exact hQ4 _ _ _ ⟨(j+1,ov2,hq),⟨hj',by rw [hej,if_neg hx]; exact s2⟩,by simp only; omega,by simp (maxSteps:=2000000) only [↓Za,↓Zk,↓Zr,↓Ze,↓Zm,↓Zs,↓Zf,↓Zh,↓Zg,↓Zc,↓Zb,↓vdn,vup,Zn,Zl,Zo,Zi,Zj,List.map_cons,List.map_nil,cond_true,cond_false,aop,Zv,Zq,Zp,ev,sput,Zt,Zy,Ya,unK,Zd,Zw,Nat.reduceBEq,Nat.reduceAdd,Int.reduceBEq,Int.reduceBNe,Int.reduceLT,Zu,Zz,tup,tyf],rfl⟩
   · obtain rfl:j=r.length:=by omega
     refine Yb fun N13 hN13=>?_
     simp (maxSteps:=2000000) only [s38,↓Za,↓Zk,↓Zr,↓Ze,↓Zm,↓Zs,↓Zf,↓Zh,↓Zg,↓Zc,↓Zb,↓vdn,vup,Zn,Zl,Zo,Zi,Zj,List.map_cons,List.map_nil,cond_true,cond_false,aop,Zv,Zq,Zp,ev,sput,Zt,Zy,Ya,unK,Zd,Zw,Nat.reduceBEq,Nat.reduceAdd,Int.reduceBEq,Int.reduceBNe,Int.reduceLT,Zu,Zz,tup,tyf,hjn]
     refine hN13 [(0,v),(1,Zx x),(4,.slice none 0 0),(5,ov2),(6,Zx (i:Nat)),(7,w),(10,v),(11,Zx t.length),(12,Zx (i:Nat)),(17,w),(18,Zx r.length),(19,Zx r.length),(20,.bool false)] _ _ ?_ (by simp (maxSteps:=2000000) only [↓Za,↓Zk,↓Zr,↓Ze,↓Zm,↓Zs,↓Zf,↓Zh,↓Zg,↓Zc,↓Zb,↓vdn,vup,Zn,Zl,Zo,Zi,Zj,List.map_cons,List.map_nil,cond_true,cond_false,aop,Zv,Zq,Zp,ev,sput,Zt,Zy,Ya,unK,Zd,Zw,Nat.reduceBEq,Nat.reduceAdd,Int.reduceBEq,Int.reduceBNe,Int.reduceLT,Zu,Zz,tup,tyf])
     clear hN13
     try clear N13
     refine Yb fun N14 hN14=>?_
     simp (maxSteps:=2000000) only [s38,↓Za,↓Zk,↓Zr,↓Ze,↓Zm,↓Zs,↓Zf,↓Zh,↓Zg,↓Zc,↓Zb,↓vdn,vup,Zn,Zl,Zo,Zi,Zj,List.map_cons,List.map_nil,cond_true,cond_false,aop,Zv,Zq,Zp,ev,sput,Zt,Zy,Ya,unK,Zd,Zw,Nat.reduceBEq,Nat.reduceAdd,Int.reduceBEq,Int.reduceBNe,Int.reduceLT,Zu,Zz,tup,tyf]
     refine hQ4 _ _ _ (hQ3 _ _ _ ?_)
     simp (maxSteps:=2000000) only [s38,↓Za,↓Zk,↓Zr,↓Ze,↓Zm,↓Zs,↓Zf,↓Zh,↓Zg,↓Zc,↓Zb,↓vdn,vup,Zn,Zl,Zo,Zi,Zj,List.map_cons,List.map_nil,cond_true,cond_false,aop,Zv,Zq,Zp,ev,sput,Zt,Zy,Ya,unK,Zd,Zw,Nat.reduceBEq,Nat.reduceAdd,Int.reduceBEq,Int.reduceBNe,Int.reduceLT,Zu,Zz,tup,tyf,if_true]
     refine hB [(0,v),(1,Zx x),(4,.slice none 0 0),(5,ov2),(10,v),(11,Zx t.length),(12,Zx (i:Nat)),(20,.bool false)] _ _ ?_ (by simp (maxSteps:=2000000) only [↓Za,↓Zk,↓Zr,↓Ze,↓Zm,↓Zs,↓Zf,↓Zh,↓Zg,↓Zc,↓Zb,↓vdn,vup,Zn,Zl,Zo,Zi,Zj,List.map_cons,List.map_nil,cond_true,cond_false,aop,Zv,Zq,Zp,ev,sput,Zt,Zy,Ya,unK,Zd,Zw,Nat.reduceBEq,Nat.reduceAdd,Int.reduceBEq,Int.reduceBNe,Int.reduceLT,Zu,Zz,tup,tyf])
     clear hB
     try clear B
     refine Yd ?_
     simp (maxSteps:=2000000) only [s38,↓Za,↓Zk,↓Zr,↓Ze,↓Zm,↓Zs,↓Zf,↓Zh,↓Zg,↓Zc,↓Zb,↓vdn,vup,Zn,Zl,Zo,Zi,Zj,List.map_cons,List.map_nil,cond_true,cond_false,aop,Zv,Zq,Zp,ev,sput,Zt,Zy,Ya,unK,Zd,Zw,Nat.reduceBEq,Nat.reduceAdd,Int.reduceBEq,Int.reduceBNe,Int.reduceLT,Zu,Zz,tup,tyf,Vd (show i<9223372036854775807 by omega)]
     exact hQ2 _ _ _ ⟨(i+1,ov2,hq),⟨hi',by rw [hes]; exact s2⟩,by simp only; omega,by simp (maxSteps:=2000000) only [↓Za,↓Zk,↓Zr,↓Ze,↓Zm,↓Zs,↓Zf,↓Zh,↓Zg,↓Zc,↓Zb,↓vdn,vup,Zn,Zl,Zo,Zi,Zj,List.map_cons,List.map_nil,cond_true,cond_false,aop,Zv,Zq,Zp,ev,sput,Zt,Zy,Ya,unK,Zd,Zw,Nat.reduceBEq,Nat.reduceAdd,Int.reduceBEq,Int.reduceBNe,Int.reduceLT,Zu,Zz,tup,tyf],rfl⟩
 · obtain rfl:i=t.length:=by omega
   refine Yb fun N15 hN15=>?_
   simp (maxSteps:=2000000) only [s38,↓Za,↓Zk,↓Zr,↓Ze,↓Zm,↓Zs,↓Zf,↓Zh,↓Zg,↓Zc,↓Zb,↓vdn,vup,Zn,Zl,Zo,Zi,Zj,List.map_cons,List.map_nil,cond_true,cond_false,aop,Zv,Zq,Zp,ev,sput,Zt,Zy,Ya,unK,Zd,Zw,Nat.reduceBEq,Nat.reduceAdd,Int.reduceBEq,Int.reduceBNe,Int.reduceLT,Zu,Zz,tup,tyf,hin]
   refine hN15 [(0,v),(1,Zx x),(4,.slice none 0 0),(5,ov),(10,v),(11,Zx t.length),(12,Zx t.length),(13,.bool false)] _ _ ?_ (by simp (maxSteps:=2000000) only [↓Za,↓Zk,↓Zr,↓Ze,↓Zm,↓Zs,↓Zf,↓Zh,↓Zg,↓Zc,↓Zb,↓vdn,vup,Zn,Zl,Zo,Zi,Zj,List.map_cons,List.map_nil,cond_true,cond_false,aop,Zv,Zq,Zp,ev,sput,Zt,Zy,Ya,unK,Zd,Zw,Nat.reduceBEq,Nat.reduceAdd,Int.reduceBEq,Int.reduceBNe,Int.reduceLT,Zu,Zz,tup,tyf])
   clear hN15
   try clear N15
   refine Yb fun N16 hN16=>?_
   simp (maxSteps:=2000000) only [s38,↓Za,↓Zk,↓Zr,↓Ze,↓Zm,↓Zs,↓Zf,↓Zh,↓Zg,↓Zc,↓Zb,↓vdn,vup,Zn,Zl,Zo,Zi,Zj,List.map_cons,List.map_nil,cond_true,cond_false,aop,Zv,Zq,Zp,ev,sput,Zt,Zy,Ya,unK,Zd,Zw,Nat.reduceBEq,Nat.reduceAdd,Int.reduceBEq,Int.reduceBNe,Int.reduceLT,Zu,Zz,tup,tyf]
   refine hQ2 _ _ _ (hQ _ _ _ ?_)
   simp (maxSteps:=2000000) only [s38,↓Za,↓Zk,↓Zr,↓Ze,↓Zm,↓Zs,↓Zf,↓Zh,↓Zg,↓Zc,↓Zb,↓vdn,vup,Zn,Zl,Zo,Zi,Zj,List.map_cons,List.map_nil,cond_true,cond_false,aop,Zv,Zq,Zp,ev,sput,Zt,Zy,Ya,unK,Zd,Zw,Nat.reduceBEq,Nat.reduceAdd,Int.reduceBEq,Int.reduceBNe,Int.reduceLT,Zu,Zz,tup,tyf,if_true]
   refine hM [(0,v),(1,Zx x),(4,.slice none 0 0),(5,ov),(13,.bool false)] _ _ ?_ (by simp (maxSteps:=2000000) only [↓Za,↓Zk,↓Zr,↓Ze,↓Zm,↓Zs,↓Zf,↓Zh,↓Zg,↓Zc,↓Zb,↓vdn,vup,Zn,Zl,Zo,Zi,Zj,List.map_cons,List.map_nil,cond_true,cond_false,aop,Zv,Zq,Zp,ev,sput,Zt,Zy,Ya,unK,Zd,Zw,Nat.reduceBEq,Nat.reduceAdd,Int.reduceBEq,Int.reduceBNe,Int.reduceLT,Zu,Zz,tup,tyf])
   clear hM
   try clear M
   refine Yd ?_
   simp (maxSteps:=2000000) only [s38,↓Za,↓Zk,↓Zr,↓Ze,↓Zm,↓Zs,↓Zf,↓Zh,↓Zg,↓Zc,↓Zb,↓vdn,vup,Zn,Zl,Zo,Zi,Zj,List.map_cons,List.map_nil,cond_true,cond_false,aop,Zv,Zq,Zp,ev,sput,Zt,Zy,Ya,unK,Zd,Zw,Nat.reduceBEq,Nat.reduceAdd,Int.reduceBEq,Int.reduceBNe,Int.reduceLT,Zu,Zz,tup,tyf]
   exact s
end Go.Proofs.Tryd.Am.Tf
namespace Go.Proofs.Tryd.Am
open Go.Am
set_option maxRecDepth 100000
/-! 91: slices.IndexFunc[[][2]int,[2]int] -/
@[reducible] def q91_0:SCode:=.region [⟨some 4,.assign (.const (.int .i64 0)),none⟩]
@[reducible] def q91_1:SCode:=.region [⟨some 6,.move (.tmp 0),none⟩,
  ⟨some 7,.call { callee:=.builtin .len,args:=#[.tmp 6],argTypes:=#[26] },none⟩,
  ⟨some 8,.move (.const (.int .i64 0)),none⟩]
@[reducible] def q91_2:SCode:=.region [⟨some 9,.binOp .lss 3 (.tmp 8) (.tmp 7) 3,none⟩]
@[reducible] def q91_3:SCode:=.region [⟨some 10,.move (.tmp 8),none⟩,
  ⟨some 5,.assign (.tmp 10),none⟩]
@[reducible] def q91_4:SCode:=.region [⟨some 11,.move (.tmp 1),none⟩,
  ⟨some 12,.move (.tmp 0),none⟩,
  ⟨some 13,.move (.tmp 5),none⟩,
  ⟨some 14,.indexAddr 26 (.tmp 12) (.tmp 13),none⟩,
  ⟨some 15,.load 28 (.tmp 14),none⟩,
  ⟨some 16,.call { callee:=.value (.tmp 11),args:=#[.tmp 15],argTypes:=#[28] },none⟩]
@[reducible] def q91_5:SCode:=.region [⟨some 17,.move (.tmp 5),none⟩,
  ⟨some 4,.assign (.tmp 17),none⟩]
@[reducible] def q91_6:SCode:=.region [⟨some 18,.binOp .add 3 (.tmp 8) (.const (.int .i64 1)) 3,none⟩,
  ⟨some 8,.move (.tmp 18),none⟩]
def l91_0:SCode:=(.seq q91_2 (.seq (.cond (.tmp 9) .skip (.exit 0)) (.seq (.block 1 (.seq q91_3 (.seq q91_4 (.cond (.tmp 16) (.seq q91_5 .ret) .skip)))) q91_6)))
@[reducible] def q91_7:SCode:=.region [⟨some 4,.assign (.const (.int .i64 (-1))),none⟩]
def s91:SCode:=(.seq q91_0 (.seq (.seq q91_1 (.block 0 (.loop l91_0))) (.seq q91_7 .ret)))
theorem s91_strip:Yi (Yg Tryd.f91)=s91:=by kernel_rfl
theorem s91_ok:Yu 19 (Yg Tryd.f91)=true:=by kernel_rfl
end Go.Proofs.Tryd.Am
namespace Go.Proofs.Tryd.Am
open Go.Am
set_option maxRecDepth 100000
/-! 4: planchet planchettop.TopBits -/
@[reducible] def q4_0:SCode:=.region [⟨some 2,.assign (.const (.bool false)),none⟩]
@[reducible] def q4_1:SCode:=.region [⟨some 11,.move (.tmp 0),none⟩,
  ⟨some 12,.move (.tmp 0),none⟩,
  ⟨some 13,.call { callee:=.builtin .len,args:=#[.tmp 12],argTypes:=#[27] },none⟩,
  ⟨some 14,.call { callee:=.builtin .min,args:=#[.tmp 13,.const (.int .i64 9)],argTypes:=#[3,3] },none⟩,
  ⟨some 15,.slice 27 (.tmp 11) none (some (.tmp 14)) none,none⟩,
  ⟨some 16,.call { callee:=.value (.func 13),args:=#[.tmp 15],argTypes:=#[27] },none⟩,
  ⟨some 17,.call { callee:=.value (.func 15),args:=#[.tmp 16],argTypes:=#[27] },none⟩,
  ⟨some 10,.move (.tmp 17),none⟩,
  ⟨some 18,.extract (.tmp 10) 0,none⟩,
  ⟨some 19,.extract (.tmp 10) 1,none⟩,
  ⟨some 3,.assign (.tmp 18),none⟩,
  ⟨some 4,.assign (.tmp 19),none⟩]
@[reducible] def q4_2:SCode:=.region [⟨some 20,.move (.tmp 4),none⟩,
  ⟨some 21,.binOp .neq 29 (.tmp 20) (.const (.int .i64 0)) 29,none⟩,
  ⟨some 22,.move (.tmp 21),none⟩,
  ⟨some 23,.move (.tmp 0),some (22,false)⟩,
  ⟨some 24,.call { callee:=.value (.func 16),args:=#[.tmp 23],argTypes:=#[27] },some (22,false)⟩,
  ⟨some 25,.unOp .not 4 (.tmp 24),some (22,false)⟩,
  ⟨some 26,.pick (.tmp 22) (.const (.bool true)) (.tmp 25),none⟩]
@[reducible] def q4_3:SCode:=.region [⟨some 27,.move (.tmp 4),none⟩,
  ⟨some 28,.binOp .eql 29 (.tmp 27) (.const (.int .i64 2)) 29,none⟩,
  ⟨some 29,.move (.tmp 28),none⟩,
  ⟨some 30,.call { callee:=.value (.func 17),args:=#[],argTypes:=#[] },some (29,true)⟩,
  ⟨some 31,.pick (.tmp 29) (.tmp 30) (.const (.bool false)),none⟩,
  ⟨some 2,.assign (.tmp 31),none⟩]
@[reducible] def q4_4:SCode:=.region [⟨some 33,.move (.tmp 0),none⟩,
  ⟨some 34,.call { callee:=.value (.func 13),args:=#[.tmp 33],argTypes:=#[27] },none⟩,
  ⟨some 35,.call { callee:=.value (.func 18),args:=#[.tmp 34],argTypes:=#[27] },none⟩,
  ⟨some 32,.move (.tmp 35),none⟩,
  ⟨some 36,.extract (.tmp 32) 0,none⟩,
  ⟨some 37,.extract (.tmp 32) 1,none⟩,
  ⟨some 5,.assign (.tmp 36),none⟩,
  ⟨some 4,.assign (.tmp 37),none⟩]
@[reducible] def q4_5:SCode:=.region [⟨some 38,.move (.tmp 4),none⟩,
  ⟨some 39,.binOp .neq 29 (.tmp 38) (.const (.int .i64 0)) 29,none⟩]
@[reducible] def q4_6:SCode:=.region [⟨some 2,.assign (.const (.bool false)),none⟩]
@[reducible] def q4_7:SCode:=.region [⟨some 6,.assign (.const (.int .i64 0)),none⟩]
@[reducible] def q4_8:SCode:=.region [⟨some 40,.move (.tmp 0),none⟩,
  ⟨some 41,.call { callee:=.builtin .len,args:=#[.tmp 40],argTypes:=#[27] },none⟩,
  ⟨some 42,.move (.const (.int .i64 0)),none⟩]
@[reducible] def q4_9:SCode:=.region [⟨some 43,.binOp .lss 3 (.tmp 42) (.tmp 41) 3,none⟩]
@[reducible] def q4_10:SCode:=.region [⟨some 44,.move (.tmp 42),none⟩,
  ⟨some 7,.assign (.tmp 44),none⟩]
@[reducible] def q4_11:SCode:=.region [⟨some 45,.move (.tmp 7),none⟩,
  ⟨some 46,.move (.const (.int .i64 0)),none⟩]
@[reducible] def q4_12:SCode:=.region [⟨some 47,.binOp .lss 3 (.tmp 46) (.tmp 45) 3,none⟩]
@[reducible] def q4_13:SCode:=.region [⟨some 48,.move (.tmp 46),none⟩,
  ⟨some 8,.assign (.tmp 48),none⟩]
@[reducible] def q4_14:SCode:=.region [⟨some 49,.move (.tmp 0),none⟩,
  ⟨some 50,.move (.tmp 7),none⟩,
  ⟨some 51,.move (.tmp 8),none⟩,
  ⟨some 52,.call { callee:=.value (.func 19),args:=#[.tmp 49,.tmp 50,.tmp 51],argTypes:=#[27,3,3] },none⟩]
@[reducible] def q4_15:SCode:=.region [⟨some 53,.move (.tmp 6),none⟩,
  ⟨some 54,.binOp .add 3 (.tmp 53) (.const (.int .i64 1)) 3,none⟩,
  ⟨some 6,.assign (.tmp 54),none⟩]
@[reducible] def q4_16:SCode:=.region [⟨some 55,.binOp .add 3 (.tmp 46) (.const (.int .i64 1)) 3,none⟩,
  ⟨some 46,.move (.tmp 55),none⟩]
def l4_0:SCode:=(.seq q4_12 (.seq (.cond (.tmp 47) .skip (.exit 2)) (.seq (.block 3 (.seq q4_13 (.seq q4_14 (.cond (.tmp 52) q4_15 .skip)))) q4_16)))
@[reducible] def q4_17:SCode:=.region [⟨some 56,.binOp .add 3 (.tmp 42) (.const (.int .i64 1)) 3,none⟩,
  ⟨some 42,.move (.tmp 56),none⟩]
def l4_1:SCode:=(.seq q4_9 (.seq (.cond (.tmp 43) .skip (.exit 0)) (.seq (.block 1 (.seq q4_10 (.seq q4_11 (.block 2 (.loop l4_0))))) q4_17)))
@[reducible] def q4_18:SCode:=.region [⟨some 57,.move (.tmp 3),none⟩,
  ⟨some 58,.move (.tmp 6),none⟩,
  ⟨some 59,.binOp .gtr 3 (.tmp 57) (.tmp 58) 3,none⟩]
@[reducible] def q4_19:SCode:=.region [⟨some 2,.assign (.const (.bool false)),none⟩]
@[reducible] def q4_20:SCode:=.region [⟨some 61,.move (.tmp 5),none⟩,
  ⟨some 62,.call { callee:=.value (.func 20),args:=#[.tmp 61,.const (.int .i64 0)],argTypes:=#[3,3] },none⟩,
  ⟨some 60,.move (.tmp 62),none⟩,
  ⟨some 63,.extract (.tmp 60) 0,none⟩,
  ⟨some 64,.extract (.tmp 60) 1,none⟩,
  ⟨some 9,.assign (.tmp 63),none⟩,
  ⟨some 4,.assign (.tmp 64),none⟩]
@[reducible] def q4_21:SCode:=.region [⟨some 65,.move (.tmp 4),none⟩,
  ⟨some 66,.binOp .neq 29 (.tmp 65) (.const (.int .i64 0)) 29,none⟩]
@[reducible] def q4_22:SCode:=.region [⟨some 67,.move (.tmp 4),none⟩,
  ⟨some 68,.binOp .eql 29 (.tmp 67) (.const (.int .i64 2)) 29,none⟩,
  ⟨some 69,.move (.tmp 68),none⟩,
  ⟨some 70,.move (.tmp 5),some (69,true)⟩,
  ⟨some 71,.binOp .gtr 3 (.tmp 70) (.const (.int .i64 40)) 3,some (69,true)⟩,
  ⟨some 72,.pick (.tmp 69) (.tmp 71) (.const (.bool false)),none⟩,
  ⟨some 73,.move (.tmp 72),none⟩,
  ⟨some 74,.move (.tmp 3),some (73,true)⟩,
  ⟨some 75,.binOp .geq 3 (.tmp 74) (.const (.int .i64 6)) 3,some (73,true)⟩,
  ⟨some 76,.pick (.tmp 73) (.tmp 75) (.const (.bool false)),none⟩,
  ⟨some 77,.move (.tmp 76),none⟩,
  ⟨some 78,.call { callee:=.value (.func 17),args:=#[],argTypes:=#[] },some (77,true)⟩,
  ⟨some 79,.pick (.tmp 77) (.tmp 78) (.const (.bool false)),none⟩,
  ⟨some 2,.assign (.tmp 79),none⟩]
@[reducible] def q4_23:SCode:=.region [⟨some 80,.move (.tmp 3),none⟩,
  ⟨some 81,.move (.tmp 9),none⟩,
  ⟨some 82,.binOp .geq 3 (.tmp 80) (.tmp 81) 3,none⟩,
  ⟨some 83,.move (.tmp 82),none⟩,
  ⟨some 84,.call { callee:=.value (.func 17),args:=#[],argTypes:=#[] },some (83,true)⟩,
  ⟨some 85,.pick (.tmp 83) (.tmp 84) (.const (.bool false)),none⟩,
  ⟨some 2,.assign (.tmp 85),none⟩]
def s4:SCode:=(.seq q4_0 (.seq q4_1 (.seq (.seq q4_2 (.cond (.tmp 26) (.seq q4_3 .ret) .skip)) (.seq q4_4 (.seq (.seq q4_5 (.cond (.tmp 39) (.seq q4_6 .ret) .skip)) (.seq q4_7 (.seq (.seq q4_8 (.block 0 (.loop l4_1))) (.seq (.seq q4_18 (.cond (.tmp 59) (.seq q4_19 .ret) .skip)) (.seq q4_20 (.seq (.seq q4_21 (.cond (.tmp 66) (.seq q4_22 .ret) .skip)) (.seq q4_23 .ret)))))))))))
end Go.Proofs.Tryd.Am
namespace Ord
theorem perm_of_nodup {α:Type} {l1 l2:List α} (h1:l1.Nodup) (h2:l2.Nodup) (h : ∀ a,a∈l1↔a∈l2):l1.Perm l2:=by
 classical
 induction l1 generalizing l2 with
 | nil =>
   cases l2 with
   | nil=>exact List.Perm.nil
   | cons b l=>exact absurd ((h b).2 (by simp)) (by simp)
 | cons a l ih =>
   have ha:a∈l2:=(h a).1 (by simp)
   obtain ⟨s,t,rfl⟩:=List.append_of_mem ha
   refine List.Perm.trans ?_ (List.perm_middle).symm
   refine List.Perm.cons a (ih (List.nodup_cons.1 h1).2 ?_ ?_)
   · exact (List.nodup_cons.1 ((List.perm_middle).nodup_iff.1 h2)).2
   · intro b
     have hb:=h b
     simp only [List.mem_cons,List.mem_append] at hb ⊢
     have hna:a ∉ l:=(List.nodup_cons.1 h1).1
     have hnt:a ∉ s++t:=(List.nodup_cons.1 ((List.perm_middle).nodup_iff.1 h2)).1
     constructor
     · intro hl
       have hba:b≠a:=fun e=>hna (e▸hl)
       rcases hb.1 (.inr hl) with h | h | h
       · exact .inl h
       · exact absurd h hba
       · exact .inr h
     · intro hst
       have hba:b≠a:=fun e=>hnt (e▸List.mem_append.2 hst)
       rcases hb.2 (hst.elim .inl fun h=>.inr (.inr h)) with h | h
       · exact absurd h hba
       · exact h
def firsts (r:Nat→Nat→Bool) (S:List Nat):List Nat:=S.filter fun i=>S.all fun j=>!r j i
def lines (r:Nat→Nat→Bool):Nat→List Nat→List (List Nat)
 | 0,_=>[[]]
 | k+1,S=>(firsts r S).flatMap fun i=>(lines r k (S.erase i)).map (i :: ·)
def cnt (r:Nat→Nat→Bool):Nat→List Nat→Nat
 | 0,_=>1
 | k+1,S=>((firsts r S).map fun i=>cnt r k (S.erase i)).sum
theorem sum_map_len {α β:Type} (f:α→List β) : ∀ l:List α,(l.flatMap f).length=(l.map fun a=>(f a).length).sum
 | []=>rfl
 | a::l=>by simp [sum_map_len f l]
theorem cnt_len (r:Nat→Nat→Bool) : ∀ k S,(lines r k S).length=cnt r k S
 | 0,_=>rfl
 | k+1,S=>by
   rw [lines,cnt,sum_map_len]
   simp [cnt_len r k]
theorem mem_firsts {r:Nat→Nat→Bool} {S:List Nat} {i:Nat}:i∈firsts r S↔i∈S∧∀ j∈S,r j i=false:=by
 simp [firsts]
theorem mem_lines {r:Nat→Nat→Bool} (hr : ∀ i,r i i=false) : ∀ {k:Nat} {S:List Nat},S.length=k→∀ l,l∈lines r k S↔l.Perm S∧l.Pairwise (fun a b=>r b a=false)
 | 0,S,hS,l=>by
   rw [List.length_eq_zero_iff] at hS
   subst hS
   simp [lines]
   intro h; subst h; exact List.Pairwise.nil
 | k+1,S,hS,l=>by
   simp only [lines,List.mem_flatMap,List.mem_map,mem_firsts]
   constructor
   · rintro ⟨i,⟨hi,hm⟩,l',hl',rfl⟩
     have hlen:(S.erase i).length=k:=by rw [List.length_erase_of_mem hi]; omega
     obtain ⟨hp,hw⟩:=(mem_lines hr hlen l').1 hl'
     refine ⟨(List.Perm.cons i hp).trans (List.perm_cons_erase hi).symm,List.pairwise_cons.2 ⟨fun b hb=>hm b (List.mem_of_mem_erase (hp.mem_iff.1 hb)),hw⟩⟩
   · rintro ⟨hp,hw⟩
     cases l with
     | nil=>have:=hp.length_eq; simp [hS] at this
     | cons i l' =>
       obtain ⟨h1,h2⟩:=List.pairwise_cons.1 hw
       have hi:i∈S:=hp.mem_iff.1 (by simp)
       have hp' : l'.Perm (S.erase i):=(List.perm_cons i).1 (hp.trans (List.perm_cons_erase hi))
       have hlen:(S.erase i).length=k:=by rw [List.length_erase_of_mem hi]; omega
       refine ⟨i,⟨hi,fun j hj=>?_⟩,l',(mem_lines hr hlen l').2 ⟨hp',h2⟩,rfl⟩
       rcases List.mem_cons.1 (hp.mem_iff.2 hj) with rfl | h
       · exact hr j
       · exact h1 j h
theorem nodup_lines {r:Nat→Nat→Bool} : ∀ {k:Nat} {S:List Nat},S.Nodup→(lines r k S).Nodup
 | 0,S,_=>by simp [lines]
 | k+1,S,hS=>by
   rw [lines]
   have hf:(firsts r S).Nodup:=hS.filter _
   generalize firsts r S=F at hf
   induction F with
   | nil=>simp
   | cons i F ih =>
     rw [List.flatMap_cons]
     refine List.nodup_append.2 ⟨?_,ih (List.nodup_cons.1 hf).2,?_⟩
     · refine List.Pairwise.map (R:=(·≠·)) _ (fun a b hab he=>hab (List.cons.inj he).2) (nodup_lines (hS.erase i))
     · intro a ha b hb hab
       subst hab
       obtain ⟨x,-,rfl⟩:=List.mem_map.1 ha
       obtain ⟨j,hj,hx⟩:=List.mem_flatMap.1 hb
       obtain ⟨y,-,he⟩:=List.mem_map.1 hx
       obtain ⟨rfl,-⟩:=List.cons.inj he
       exact (List.nodup_cons.1 hf).1 hj
theorem cnt_flip {r:Nat→Nat→Bool} (hr : ∀ i,r i i=false) {S:List Nat} (hS:S.Nodup):cnt (fun i j=>r j i) S.length S=cnt r S.length S:=by
 rw [← cnt_len,← cnt_len]
 have hp:((lines r S.length S).map List.reverse).Perm (lines (fun i j=>r j i) S.length S):=by
  refine perm_of_nodup ?_ (nodup_lines hS) fun l=>?_
  · exact List.Pairwise.map (R:=(·≠·)) _ (fun a b hab he=>hab (List.reverse_inj.1 he)) (nodup_lines hS)
  · rw [mem_lines (r:=fun i j=>r j i) hr rfl l,List.mem_map]
    constructor
    · rintro ⟨x,hx,rfl⟩
      obtain ⟨h1,h2⟩:=(mem_lines hr rfl x).1 hx
      exact ⟨(List.reverse_perm x).trans h1,List.pairwise_reverse.2 h2⟩
    · rintro ⟨h1,h2⟩
      refine ⟨l.reverse,(mem_lines hr rfl _).2 ⟨(List.reverse_perm l).trans h1,?_⟩,List.reverse_reverse l⟩
      exact List.pairwise_reverse.2 h2
 have:=hp.length_eq
 rw [List.length_map] at this
 exact this.symm
structure Po (r:Nat→Nat→Bool):Prop where
 irr : ∀ i,r i i=false
 tr : ∀ i j k,r i j=true→r j k=true→r i k=true
end Ord
namespace Ord
open Go.Am
def bt (o:List Int) (i:Nat):Nat:=(o.getD i 0).toNat
def ab (o:List Int) (i j:Nat):Bool:=(bt o i).testBit j
def okO (o:List Int) (i:Nat):Bool :=
 decide (0≤o.getD i 0)&&decide (o.getD i 0<2 ^ o.length) && !ab o i i&&(List.range o.length).all fun j=>!ab o i j || (We .andNot .i64 (o.getD j 0) (o.getD i 0)==0)
def ord (o:List Int):Bool:=decide (1≤o.length)&&decide (o.length≤6)&&(List.range o.length).all (okO o)
theorem ord_len {o:List Int} (h:ord o=true):1≤o.length∧o.length≤6:=by
 simp only [ord,Bool.and_eq_true,decide_eq_true_eq] at h; exact h.1
theorem pow6 {n:Nat} (h:n≤6):2 ^ n≤64∧0<2 ^ n:=⟨Nat.pow_le_pow_right (n:=2) (by decide) h,Nat.two_pow_pos n⟩
theorem ord_at {o:List Int} (h:ord o=true) {i:Nat} (hi:i<o.length):okO o i=true:=by
 simp only [ord,Bool.and_eq_true,List.all_eq_true,List.mem_range] at h; exact h.2 i hi
theorem ord_nat {o:List Int} (h:ord o=true) {i:Nat} (hi:i<o.length):o.getD i 0=(bt o i:Int)∧bt o i<2 ^ o.length:=by
 have h2:=ord_at h hi
 simp only [okO,Bool.and_eq_true,decide_eq_true_eq] at h2
 have e:((2 ^ o.length:Nat):Int)=2 ^ o.length:=by simp
 have h3:=h2.1.1.1
 have h4:=h2.1.1.2
 refine ⟨(Int.toNat_of_nonneg h3).symm,?_⟩
 rw [← Int.toNat_of_nonneg h3,← e] at h4
 exact Int.ofNat_lt.1 h4
theorem bt_out {o:List Int} {i:Nat} (hi:o.length≤i):bt o i=0:=by simp [bt,List.getD,List.getElem?_eq_none hi]
theorem ab_lt {o:List Int} (h:ord o=true) {i j:Nat} (hij:ab o i j=true):i<o.length∧j<o.length:=by
 have hi:i<o.length:=by
  rcases Nat.lt_or_ge i o.length with h | h
  · exact h
  · simp [ab,bt_out h] at hij
 refine ⟨hi,?_⟩
 rcases Nat.lt_or_ge j o.length with h' | h'
 · exact h'
 · have:=Nat.testBit_lt_two_pow (Nat.lt_of_lt_of_le (ord_nat h hi).2 (Nat.pow_le_pow_right (by decide) h'))
   rw [ab,this] at hij; cases hij
theorem less_zero {a b:Nat}:Wh a b=0↔∀ k,a.testBit k=true→b.testBit k=true:=by
 constructor
 · intro h k hk
   have:=Yo a b k
   rw [h,hk,Nat.zero_testBit] at this
   cases hb:b.testBit k with
   | true=>rfl
   | false=>rw [hb] at this; cases this
 · intro h
   apply Nat.eq_of_testBit_eq
   intro k
   rw [Yo,Nat.zero_testBit]
   cases ha:a.testBit k with
   | false=>rfl
   | true=>rw [h k ha]; rfl
theorem ord_po {o:List Int} (h:ord o=true):Po (ab o):=by
 have hlen:=ord_len h
 have hp:=pow6 hlen.2
 constructor
 · intro i
   rcases Nat.lt_or_ge i o.length with hi | hi
   · have h2:=ord_at h hi
     simp only [okO,Bool.and_eq_true,Bool.not_eq_true'] at h2
     exact h2.1.2
   · simp [ab,bt_out hi]
 · intro i j k hij hjk
   obtain ⟨hi,hj⟩:=ab_lt h hij
   have h2:=ord_at h hi
   simp only [okO,Bool.and_eq_true,List.all_eq_true,List.mem_range] at h2
   have h3:=h2.2 j hj
   rw [hij,Bool.not_true,Bool.false_or,beq_iff_eq] at h3
   obtain ⟨e1,l1⟩:=ord_nat h hi
   obtain ⟨e2,l2⟩:=ord_nat h hj
   rw [e1,e2,Wc (by omega) (by omega)] at h3
   exact less_zero.1 (Int.ofNat.inj h3) k hjk
def dn (o:List Int) (i:Nat):Nat:=(List.range o.length).foldl (fun s j=>s ||| (if ab o j i then 2 ^ j else 0)) 0
theorem foldl_or_bit {f:Nat→Nat} {w:Nat} : ∀ (l:List Nat) (s:Nat),(l.foldl (fun r j=>r ||| f j) s).testBit w=(s.testBit w || l.any fun j=>(f j).testBit w)
 | [],s=>by simp
 | x::l,s=>by rw [List.foldl_cons,foldl_or_bit l,Nat.testBit_or,List.any_cons,Bool.or_assoc]
theorem dn_bit {o:List Int} {i j:Nat}:(dn o i).testBit j=(decide (j<o.length)&&ab o j i):=by
 rw [dn,foldl_or_bit,Nat.zero_testBit,Bool.false_or,Bool.eq_iff_iff,List.any_eq_true,Bool.and_eq_true,decide_eq_true_eq]
 constructor
 · rintro ⟨x,hx,hb⟩
   cases ha:ab o x i with
   | false=>simp [ha] at hb
   | true =>
     rw [ha,if_pos rfl,Nat.testBit_two_pow,decide_eq_true_eq] at hb
     subst hb
     exact ⟨List.mem_range.1 hx,ha⟩
 · rintro ⟨h1,h2⟩
   exact ⟨j,List.mem_range.2 h1,by rw [h2,if_pos rfl,Nat.testBit_two_pow_self]⟩
theorem dn_bit' {o:List Int} (h:ord o=true) {i j:Nat}:(dn o i).testBit j=ab o j i:=by
 rw [dn_bit]
 cases ha:ab o j i with
 | false=>simp
 | true=>simp [(ab_lt h ha).1]
theorem lt_of_bits {s n:Nat} (h : ∀ j,n≤j→s.testBit j=false):s<2 ^ n:=Nat.lt_pow_two_of_testBit s fun j hj=>h j hj
theorem dn_lt {o:List Int} {i:Nat}:dn o i<2 ^ o.length:=lt_of_bits fun j hj=>by rw [dn_bit,decide_eq_false (by omega)]; rfl
theorem bits_nodup (s:Nat):(bits s).Nodup:=(List.nodup_range).filter _
theorem bits_erase {s i:Nat} (hi:i<64):(bits s).erase i=bits (Wh s (2 ^ i)):=by
 rw [List.Nodup.erase_eq_filter (bits_nodup s),bits,bits,List.filter_filter]
 refine List.filter_congr fun j hj=>?_
 rw [Yo,Nat.testBit_two_pow,Bool.and_comm]
 by_cases h:j=i
 · subst h; simp
 · simp [h,Ne.symm h]
theorem bits_range {s n:Nat} (h:s<2 ^ n) (hn:n≤64):bits s=(List.range n).filter fun i=>s.testBit i:=by
 obtain ⟨d,hd⟩ : ∃ d,64=n+d:=⟨64-n,by omega⟩
 rw [bits,hd,List.range_add,List.filter_append]
 have:(List.map (n + ·) (List.range d)).filter (fun i=>s.testBit i)=[]:=by
  rw [List.filter_eq_nil_iff]
  intro a ha
  obtain ⟨k,-,rfl⟩:=List.mem_map.1 ha
  rw [Nat.testBit_lt_two_pow (Nat.lt_of_lt_of_le h (Nat.pow_le_pow_right (by decide) (Nat.le_add_right n k)))]
  decide
 rw [this,List.append_nil]
theorem bits_all {n:Nat} (hn:n≤64):bits (2 ^ n-1)=List.range n:=by
 rw [bits_range (n:=n) (by have:=Nat.two_pow_pos n; omega) hn,List.filter_eq_self]
 intro i hi
 rw [Nat.testBit_two_pow_sub_one,decide_eq_true (List.mem_range.1 hi)]
def okLast (o:List Int) (s i:Nat):Bool:=decide (Wh (dn o i) s=0)&&decide (bt o i &&& s=0)
def Wf (o:List Int):Nat→Nat→Nat
 | 0,_=>1
 | k+1,s=>(((bits s).filter (okLast o s)).map fun i=>Wf o k (Wh s (2 ^ i))).sum
def W (o:List Int) (s:Nat):Nat:=Wf o (bits s).length s
theorem W_zero (o:List Int):W o 0=1:=by
 have:bits 0=[]:=by decide
 rw [W,this]; rfl
theorem bits_ne {s:Nat} (h0:s≠0) (h:s<2 ^ 63):bits s≠[]:=by rw [bits_step s h h0]; exact List.cons_ne_nil _ _
theorem W_step {o:List Int} {s:Nat} (h0:s≠0) (h:s<2 ^ 63):W o s=(((bits s).filter (okLast o s)).map fun i=>W o (Wh s (2 ^ i))).sum:=by
 have hne:=bits_ne h0 h
 have hl : ∃ k,(bits s).length=k+1:=⟨(bits s).length-1,by have:=List.length_pos_iff.2 hne; omega⟩
 obtain ⟨k,hk⟩:=hl
 rw [W,hk,Wf]
 congr 1
 refine List.map_congr_left fun i hi=>?_
 have hib:=(List.mem_filter.1 hi).1
 rw [W,← bits_erase (Vy.1 hib).1,List.length_erase_of_mem hib,hk]; rfl
theorem Wf_le (o:List Int) : ∀ k s,s<64→Wf o k s≤6 ^ k
 | 0,_,_=>Nat.le_refl _
 | k+1,s,hs=>by
   rw [Wf]
   have hlen:((bits s).filter (okLast o s)).length≤6:=by
    have h1:=List.length_filter_le (okLast o s) (bits s)
    have h2:(bits s).length≤6:=by
     rw [bits_range (n:=6) hs (by decide)]
     have:=List.length_filter_le (fun i=>s.testBit i) (List.range 6)
     rw [List.length_range] at this; exact this
    omega
   have key : ∀ l:List Nat,(l.map fun i=>Wf o k (Wh s (2 ^ i))).sum≤l.length*6 ^ k:=by
    intro l
    induction l with
    | nil=>simp
    | cons a l ih =>
      rw [List.map_cons,List.sum_cons,List.length_cons,Nat.succ_mul]
      have:=Wf_le o k (Wh s (2 ^ a)) (less_lt (n:=6) hs)
      omega
   have h1:=key ((bits s).filter (okLast o s))
   have h2:=Nat.mul_le_mul_right (6 ^ k) hlen
   rw [Nat.pow_succ]
   omega
theorem bits_len6 {s:Nat} (hs:s<64):(bits s).length≤6:=by
 rw [bits_range (n:=6) hs (by decide)]
 have:=List.length_filter_le (fun i=>s.testBit i) (List.range 6)
 rw [List.length_range] at this; exact this
theorem W_le {o:List Int} {s:Nat} (hs:s<64):W o s≤46656 :=
 Nat.le_trans (Wf_le o _ s hs) (Nat.pow_le_pow_right (n:=6) (by decide) (bits_len6 hs))
theorem Wf_cnt {o:List Int} (h:ord o=true) : ∀ k s,(bits s).length=k→(∀ i j,s.testBit j=true→ab o i j=true→s.testBit i=true)→s<64→Wf o k s=cnt (fun i j=>ab o j i) k (bits s)
 | 0,_,_,_,_=>rfl
 | k+1,s,hk,hd,hs=>by
   rw [Wf,cnt]
   have e:(bits s).filter (okLast o s)=firsts (fun i j=>ab o j i) (bits s):=by
    refine List.filter_congr fun i hi=>?_
    rw [okLast,Bool.eq_iff_iff,Bool.and_eq_true,decide_eq_true_eq,decide_eq_true_eq,List.all_eq_true]
    have h1:Wh (dn o i) s=0:=less_zero.2 fun j hj=>hd j i (Vy.1 hi).2 (by rwa [dn_bit' h] at hj)
    constructor
    · rintro ⟨-,h2⟩ j hj
      have:=congrArg (fun x=>x.testBit j) h2
      simp only [Nat.testBit_and,(Vy.1 hj).2,Bool.and_true,Nat.zero_testBit] at this
      show (!ab o i j)=true
      rw [ab,this]; rfl
    · intro H
      refine ⟨h1,?_⟩
      apply Nat.eq_of_testBit_eq
      intro j
      rw [Nat.testBit_and,Nat.zero_testBit]
      cases hj:s.testBit j with
      | false=>simp
      | true =>
        have hj64:j<64:=by
         rcases Nat.lt_or_ge j 64 with h | h
         · exact h
         · rw [Nat.testBit_lt_two_pow (Nat.lt_of_lt_of_le hs (Nat.pow_le_pow_right (n:=2) (i:=6) (by decide) (by omega)))] at hj; cases hj
        have:=H j (Vy.2 ⟨hj64,hj⟩)
        simp only [Bool.not_eq_true',ab] at this
        rw [this]; rfl
   rw [e]
   congr 1
   refine List.map_congr_left fun i hi=>?_
   obtain ⟨hib,hm⟩:=mem_firsts.1 hi
   have hi64:=(Vy.1 hib).1
   rw [bits_erase hi64]
   refine Wf_cnt h k _ ?_ ?_ (less_lt (n:=6) hs)
   · rw [← bits_erase hi64,List.length_erase_of_mem hib]; omega
   · intro a b hb hab
     rw [Yo,Bool.and_eq_true,Nat.testBit_two_pow,Bool.not_eq_true',decide_eq_false_iff_not] at hb ⊢
     have ha:=hd a b hb.1 hab
     refine ⟨ha,fun he=>?_⟩
     subst he
     have hb64:b<64:=by have:=(ab_lt h hab).2; have:=ord_len h; omega
     have:=hm b (Vy.2 ⟨hb64,hb.1⟩)
     rw [hab] at this; cases this
def cn (o:List Int):Nat:=cnt (ab o) o.length (List.range o.length)
theorem cn_len {o:List Int} (h:ord o=true):W o (2 ^ o.length-1)=cn o:=by
 have hlen:=ord_len h
 have hp:=pow6 hlen.2
 have hb:=bits_all (n:=o.length) (by omega)
 rw [W,Wf_cnt h _ _ rfl ?_ (by omega),hb,cn]
 · have:=cnt_flip (ord_po h).irr (S:=List.range o.length) List.nodup_range
   rw [List.length_range] at this
   rw [List.length_range]; exact this
 · intro i j _ hij
   rw [Nat.testBit_two_pow_sub_one,decide_eq_true (ab_lt h hij).1]
def addL (o:List Int) (i j:Nat):List Int:=(List.range o.length).map fun k=>if k=i∨ab o k i=true then ((bt o k ||| (bt o j ||| 2 ^ j):Nat):Int) else o.getD k 0
theorem getD_map {f:Nat→Int} {n k:Nat}:((List.range n).map f).getD k 0=if k<n then f k else 0:=by
 by_cases hk:k<n <;> simp [List.getD,hk]
theorem ord_of {o:List Int} (h1:1≤o.length∧o.length≤6) (hb : ∀ i,i<o.length→∃ s:Nat,o.getD i 0=(s:Int)∧s<2 ^ o.length) (hp:Po (ab o)):ord o=true:=by
 have hp6:=pow6 h1.2
 simp only [ord,Bool.and_eq_true,decide_eq_true_eq,List.all_eq_true,List.mem_range]
 refine ⟨h1,fun i hi=>?_⟩
 obtain ⟨s,hs,hl⟩:=hb i hi
 have e:((2 ^ o.length:Nat):Int)=2 ^ o.length:=by simp
 simp only [okO,Bool.and_eq_true,decide_eq_true_eq,List.all_eq_true,List.mem_range,Bool.not_eq_true']
 refine ⟨⟨⟨by omega,by rw [hs,← e]; exact Int.ofNat_lt.2 hl⟩,hp.irr i⟩,fun j hj=>?_⟩
 obtain ⟨t,ht,hl2⟩:=hb j hj
 cases hij:ab o i j with
 | false=>rfl
 | true =>
   rw [Bool.not_true,Bool.false_or,hs,ht,Wc (by omega) (by omega)]
   have hz:Wh t s=0:=less_zero.2 fun k hk=>by
    have h2:ab o j k=true:=by rw [ab,bt,ht,Int.toNat_natCast]; exact hk
    have:=hp.tr i j k hij h2
    rwa [ab,bt,hs,Int.toNat_natCast] at this
   rw [hz]; rfl
def fr (o:List Int) (i j:Nat):Bool:=decide (i≠j) && !ab o i j && !ab o j i
end Ord
namespace Go.Proofs.Tryd.Am.Or
open Go.Proofs.Tryd.Am
open Go.Am Ord
set_option maxRecDepth 100000
set_option maxHeartbeats 1000000
def sixs (o:List Int):List Int:=o++List.replicate (6-o.length) 0
def Vx (o:List Int):List Value:=Zx o.length::(sixs o).map Zx
def ordV (o:List Int):Value:=.agg (Vx o).toArray
theorem sixs_len {o:List Int} (h:o.length≤6):(sixs o).length=6:=by simp [sixs]; omega
theorem Xw {o:List Int} (h:o.length≤6):(Vx o).length=7:=by simp [Vx,sixs_len h]
theorem ordC_0 {o:List Int}:(Vx o)[0]? = some (Zx o.length):=rfl
theorem ordC_get {o:List Int} (h:o.length≤6) {i:Nat} (hi:i<6):(Vx o)[1+i]? = some (Zx (o.getD i 0)):=by
 rw [Vx,Nat.add_comm,List.getElem?_cons_succ,List.getElem?_map,sixs,List.getElem?_append]
 by_cases hl:i<o.length
 · simp [hl,List.getD]
 · rw [if_neg hl,List.getElem?_replicate,if_pos (by omega)]
   simp [List.getD,List.getElem?_eq_none (show o.length≤i by omega)]
theorem ordC_set {o:List Int} {i:Nat} (hi:i<o.length) (x:Int):(Vx o).set (1+i) (Zx x)=Vx (o.set i x):=by
 rw [Vx,Nat.add_comm,List.set_cons_succ,Vx,sixs,sixs,List.length_set,List.map_append,List.set_append_left _ _ (by simpa using hi),List.map_append,List.map_set]
theorem ordC_one (o:List Int):(Vx o).all one=true:=by
 rw [List.all_eq_true]
 intro x hx
 rcases List.mem_cons.1 hx with rfl | hx
 · rfl
 · obtain ⟨y,-,rfl⟩:=List.mem_map.1 hx; rfl
theorem Low.ordV (o:List Int):Low (ordV o):=.agg fun x hx=>by
 rcases List.mem_cons.1 hx with rfl | hx
 · exact .int _ _
 · obtain ⟨y,-,rfl⟩:=List.mem_map.1 hx; exact .int _ _
section
variable {P:Program} {h:Yc} {t:TypeId} {o o' : List Int} {b n:Nat} {ro:Bool} {e:TypeId}
theorem boxO {K:Value→Yc→Prop} (hs:esz P t=some n):boxK P h t (ordV o) K=K (Xd h) (h++[.cells (Vx o) t false]):=by
 have e1:cellsOf (ordV o)=Vx o:=rfl
 simp only [boxK,ordV,hs,Option.isSome_some,true_and]
 rw [show cellsOf (.agg (Vx o).toArray)=Vx o from rfl]
theorem loadO {K:Value→Prop} (hb:h[b]? = some (.cells (Vx o) e ro)) (hs:shp P t=some (some 7)) (hl:o.length≤6):Xn P h t (.pointer (some ⟨b,0,none⟩)) K=K (ordV o) :=
 loadA hb (by rw [hs,Xw hl])
theorem loadN {K:Value→Prop} (hb:h[b]? = some (.cells (Vx o) e ro)) (hs:shp P t=some none):Xn P h t (.pointer (some ⟨b,0,none⟩)) K=K (Zx o.length):=loadC hb hs ordC_0
theorem loadI {K:Value→Prop} (hb:h[b]? = some (.cells (Vx o) e ro)) (hs:shp P t=some none) (hl:o.length≤6) {i:Nat} (hi:i<6):Xn P h t (.pointer (some ⟨b,1+i,none⟩)) K=K (Zx (o.getD i 0)):=loadC hb hs (ordC_get hl hi)
theorem storeN {K:Yc→Prop} (hb:h[b]? = some (.cells (Vx o) e false)) (hs:shp P t=some none) (hl:o.length≤6) {i:Nat} (hi:i<o.length) (x:Int) :
  Xu P h t (.pointer (some ⟨b,1+i,none⟩)) (Zx x) K=K (h.set b (.cells (Vx (o.set i x)) e false)):=by
 rw [storeC hb hs rfl (by rw [Xw hl]; omega),ordC_set hi]
end
theorem shl1 {n:Nat} (h:n≤62):shlV .i64 1 n=2 ^ n:=by
 have h2:2 ^ n≤2 ^ 62:=Nat.pow_le_pow_right (by decide) h
 have:=shlV_nat (a:=1) (y:=n) (by omega) (by omega)
 simpa using this
theorem pow_cast (n:Nat):((2 ^ n:Nat):Int)=2 ^ n:=by simp
theorem testO {o:List Int} (h:ord o=true) {i:Nat} (hi:i<o.length) (j:Nat):We .and .i64 (shrV .i64 (o.getD i 0) j) 1=if ab o i j then 1 else 0:=by
 have hl:=ord_len h
 have:=pow6 hl.2
 obtain ⟨h1,h2⟩:=ord_nat h hi
 rw [h1]
 exact testV (by omega)
theorem beq1 (b:Bool):((if b then (1:Int) else 0)==1)=b:=by cases b <;> rfl
theorem beq0 (b:Bool):((if b then (1:Int) else 0)==0) = !b:=by cases b <;> rfl
theorem Vq [Tabs prog] {h:Yc} {o:List Int} (hl:o.length≤6):APure prog 103 [ordV o] h (Zx ((2 ^ o.length-1:Nat):Int)):=by
 have hp:=pow6 hl
 have hs:subV .i64 (2 ^ o.length) 1=((2 ^ o.length-1:Nat):Int):=by rw [← pow_cast,subV_id (by omega) (by omega)]; omega
 refine ACall.forget (Low.int _ _) ?_
 refine s103_call (by simp) ?_
 simp (maxSteps:=2000000) only [s103,↓Za,↓Zk,↓Zr,↓Ze,↓Zm,↓Zs,↓Zf,↓Zh,↓Zg,↓Zc,↓Zb,↓vdn,vup,Zn,Zl,Zo,Zi,Zj,List.map_cons,List.map_nil,cond_true,cond_false,aop,Zv,Zq,Zp,ev,sput,Zt,Zy,Ya,unK,Zd,Zw,Nat.reduceBEq,Nat.reduceAdd,Int.reduceBEq,Int.reduceBNe,Int.reduceLT,Zu,Zz,tup,tyf,boxO esz_97,fldA fld_97_0 Xk,loadN (Yj _ _) Yw,shl1 (show o.length≤62 by omega),hs]
 exact Ext.app _ _ _
theorem elements_call [Tabs prog] {h:Yc} {s:Int}:ACall prog 100 [Zx s] h fun r h'=>r = .func (.func 136) #[] #[Xd h]∧h' = h++[.cells [Zx s] 3 false]:=by
 refine s100_call (by simp) ?_
 simp (maxSteps:=2000000) only [s100,↓Za,↓Zk,↓Zr,↓Ze,↓Zm,↓Zs,↓Zf,↓Zh,↓Zg,↓Zc,↓Zb,↓vdn,vup,Zn,Zl,Zo,Zi,Zj,List.map_cons,List.map_nil,cond_true,cond_false,aop,Zv,Zq,Zp,ev,sput,Zt,Zy,Ya,unK,Zd,Zw,Nat.reduceBEq,Nat.reduceAdd,Int.reduceBEq,Int.reduceBNe,Int.reduceLT,Zu,Zz,tup,tyf,boxK,cellsOf,Option.isSome_some,List.map_toArray]
def dnTo (o:List Int) (i:Nat):Nat→Nat
 | 0=>0
 | k+1=>dnTo o i k ||| (if ab o k i then 2 ^ k else 0)
theorem dnTo_all (o:List Int) (i:Nat):dnTo o i o.length=dn o i:=by
 have key : ∀ n,dnTo o i n=(List.range n).foldl (fun s j=>s ||| (if ab o j i then 2 ^ j else 0)) 0:=by
  intro n
  induction n with
  | zero=>rfl
  | succ n ih=>rw [dnTo,ih,List.range_succ,List.foldl_append]; rfl
 exact key _
theorem dnTo_lt (o:List Int) (i:Nat) : ∀ k,dnTo o i k<2 ^ k
 | 0=>by simp [dnTo]
 | k+1=>by
   have:=dnTo_lt o i k
   rw [dnTo]
   refine Nat.or_lt_two_pow (Nat.lt_of_lt_of_le this (Nat.pow_le_pow_right (by decide) (Nat.le_succ k))) ?_
   split
   · exact Nat.pow_lt_pow_right (by decide) (Nat.lt_succ_self k)
   · exact Nat.two_pow_pos _
theorem below_call [Tabs prog] {h:Yc} {o:List Int} (ho:ord o=true) {i:Nat}:APure prog 104 [ordV o,Zx i] h (Zx (dn o i:Nat)):=by
 have hl:=ord_len ho
 refine ACall.forget (Low.int _ _) ?_
 refine s104_call (by simp) ?_
 simp (maxSteps:=2000000) only [s104,↓Za,↓Zk,↓Zr,↓Ze,↓Zm,↓Zs,↓Zf,↓Zh,↓Zg,↓Zc,↓Zb,↓vdn,vup,Zn,Zl,Zo,Zi,Zj,List.map_cons,List.map_nil,cond_true,cond_false,aop,Zv,Zq,Zp,ev,sput,Zt,Zy,Ya,unK,Zd,Zw,Nat.reduceBEq,Nat.reduceAdd,Int.reduceBEq,Int.reduceBNe,Int.reduceLT,Zu,Zz,tup,tyf,boxO esz_97,fldA fld_97_0 Xk,loadN (Yj _ _) Yw,↓Xo]
 refine Yf fun Q hQ=>?_
 refine Ve (γ:=Nat) (fun k=>k≤o.length)
  (fun k=>([(0,ordV o),(1,Zx i),(2,Xd h),(4,.int .i64 0),(5,Zx (dnTo o i k:Nat)),(8,Zx o.length),(9,Zx k)],h++[.cells (Vx o) 97 false])) (fun k=>o.length-k) 0 (Nat.zero_le _) (by simp (maxSteps:=2000000) only [↓Za,↓Zk,↓Zr,↓Ze,↓Zm,↓Zs,↓Zf,↓Zh,↓Zg,↓Zc,↓Zb,↓vdn,vup,Zn,Zl,Zo,Zi,Zj,List.map_cons,List.map_nil,cond_true,cond_false,aop,Zv,Zq,Zp,ev,sput,Zt,Zy,Ya,unK,Zd,Zw,Nat.reduceBEq,Nat.reduceAdd,Int.reduceBEq,Int.reduceBNe,Int.reduceLT,Zu,Zz,tup,tyf,Int.natCast_zero,dnTo]) rfl ?_
 intro k hk
 refine Vi fun Q2 hQ2=>?_
 by_cases hin:(k:Int)<o.length
 · have hin' : k<o.length:=by omega
   have hdl:=dnTo_lt o i k
   have hpk:2 ^ k≤64:=Nat.pow_le_pow_right (n:=2) (j:=6) (by decide) (by omega)
   have hsh:shlV .i64 (if ab o k i=true then (1:Int) else 0) k=((if ab o k i then 2 ^ k else 0:Nat):Int):=by
    split
    · rw [shl1 (by omega),pow_cast]
    · have:=shlV_nat (a:=0) (y:=k) (by omega) (by omega)
      simpa using this
   have hor:We .or .i64 ((dnTo o i k:Nat):Int) ((if ab o k i then 2 ^ k else 0:Nat):Int)=((dnTo o i (k+1):Nat):Int):=by
    rw [dnTo]; exact bitsV_or (by omega) (by split <;> omega)
   simp (maxSteps:=2000000) only [s104,↓Za,↓Zk,↓Zr,↓Ze,↓Zm,↓Zs,↓Zf,↓Zh,↓Zg,↓Zc,↓Zb,↓vdn,vup,Zn,Zl,Zo,Zi,Zj,List.map_cons,List.map_nil,cond_true,cond_false,aop,Zv,Zq,Zp,ev,sput,Zt,Zy,Ya,unK,Zd,Zw,Nat.reduceBEq,Nat.reduceAdd,Int.reduceBEq,Int.reduceBNe,Int.reduceLT,Zu,Zz,tup,tyf,l104_0,hin,fldA fld_97_1 esz_95,idxA und_95 Xk (show k<6 by omega),loadI (Yj _ _) Yw hl.2 (show k<6 by omega),testO ho hin',hsh,hor,Vd (show k<9223372036854775807 by omega)]
   exact hQ2 _ _ _ ⟨k+1,by omega,by omega,by simp (maxSteps:=2000000) only [↓Za,↓Zk,↓Zr,↓Ze,↓Zm,↓Zs,↓Zf,↓Zh,↓Zg,↓Zc,↓Zb,↓vdn,vup,Zn,Zl,Zo,Zi,Zj,List.map_cons,List.map_nil,cond_true,cond_false,aop,Zv,Zq,Zp,ev,sput,Zt,Zy,Ya,unK,Zd,Zw,Nat.reduceBEq,Nat.reduceAdd,Int.reduceBEq,Int.reduceBNe,Int.reduceLT,Zu,Zz,tup,tyf],rfl⟩
 · obtain rfl:k=o.length:=by omega
   simp (maxSteps:=2000000) only [s104,↓Za,↓Zk,↓Zr,↓Ze,↓Zm,↓Zs,↓Zf,↓Zh,↓Zg,↓Zc,↓Zb,↓vdn,vup,Zn,Zl,Zo,Zi,Zj,List.map_cons,List.map_nil,cond_true,cond_false,aop,Zv,Zq,Zp,ev,sput,Zt,Zy,Ya,unK,Zd,Zw,Nat.reduceBEq,Nat.reduceAdd,Int.reduceBEq,Int.reduceBNe,Int.reduceLT,Zu,Zz,tup,tyf,l104_0,Int.lt_irrefl]
   refine hQ2 _ _ _ (hQ _ _ _ ?_)
   simp (maxSteps:=2000000) only [s104,↓Za,↓Zk,↓Zr,↓Ze,↓Zm,↓Zs,↓Zf,↓Zh,↓Zg,↓Zc,↓Zb,↓vdn,vup,Zn,Zl,Zo,Zi,Zj,List.map_cons,List.map_nil,cond_true,cond_false,aop,Zv,Zq,Zp,ev,sput,Zt,Zy,Ya,unK,Zd,Zw,Nat.reduceBEq,Nat.reduceAdd,Int.reduceBEq,Int.reduceBNe,Int.reduceLT,Zu,Zz,tup,tyf,if_true,dnTo_all]
   exact Ext.app _ _ _
end Go.Proofs.Tryd.Am.Or

/-
  Printed by gen.py: the code of some functions, without what no step looks at; held against the program's own by the kernel.
  order: the library's stable sort of a short slice of pairs, by any function: it keeps the pairs.
  Printed by gen.py: the code of some functions, without what no step looks at; held against the program's own by the kernel.
  order: slices of pairs: copies, whether they are pairs of elements.
  order, plain: how many comparisons sort an order.
  order: what a sorter knows; the comparison of pairs by their unevenness.
  order: the trial of a pair; all free pairs.
-/
import Derived.Test.YtnjacpfahhjpiaaDoorPk3
import Derived.Test.YtnjacpfahhjpiaaDoorProg
import Derived.KernelRfl
import Derived.Shelf.Abstract
import Derived.Test.YtnjacpfahhjpiaaDoorPk7
import Derived.Test.YtnjacpfahhjpiaaDoorPk4
set_option linter.all false
namespace Go.Proofs.Tryd.Am
open Go.Am
set_option maxRecDepth 100000
/-! 13: planchet planchetlaw07.OrderNeeds -/
@[reducible] def q13_0:SCode:=.region [⟨some 6,.assign (.const (.bool false)),none⟩]
@[reducible] def q13_1:SCode:=.region [⟨some 22,.move (.tmp 0),none⟩,
  ⟨some 23,.call { callee:=.value (.func 18),args:=#[.tmp 22],argTypes:=#[22] },none⟩,
  ⟨some 24,.call { callee:=.value (.func 50),args:=#[.tmp 23],argTypes:=#[22] },none⟩,
  ⟨some 21,.move (.tmp 24),none⟩,
  ⟨some 25,.extract (.tmp 21) 0,none⟩,
  ⟨some 26,.extract (.tmp 21) 1,none⟩,
  ⟨some 7,.assign (.tmp 25),none⟩,
  ⟨some 8,.assign (.tmp 26),none⟩]
@[reducible] def q13_2:SCode:=.region [⟨some 27,.move (.tmp 8),none⟩,
  ⟨some 28,.binOp .neq 23 (.tmp 27) (.const (.int .i64 0)) 23,none⟩,
  ⟨some 29,.move (.tmp 28),none⟩,
  ⟨some 30,.move (.tmp 0),some (29,false)⟩,
  ⟨some 31,.call { callee:=.value (.func 19),args:=#[.tmp 30],argTypes:=#[22] },some (29,false)⟩,
  ⟨some 32,.unOp .not 4 (.tmp 31),some (29,false)⟩,
  ⟨some 33,.pick (.tmp 29) (.const (.bool true)) (.tmp 32),none⟩]
@[reducible] def q13_3:SCode:=.region [⟨some 34,.move (.tmp 8),none⟩,
  ⟨some 35,.binOp .eql 23 (.tmp 34) (.const (.int .i64 2)) 23,none⟩,
  ⟨some 36,.move (.tmp 35),none⟩,
  ⟨some 37,.call { callee:=.value (.func 20),args:=#[],argTypes:=#[] },some (36,true)⟩,
  ⟨some 38,.pick (.tmp 36) (.tmp 37) (.const (.bool false)),none⟩,
  ⟨some 6,.assign (.tmp 38),none⟩]
@[reducible] def q13_4:SCode:=.region [⟨some 40,.move (.tmp 0),none⟩,
  ⟨some 41,.call { callee:=.value (.func 18),args:=#[.tmp 40],argTypes:=#[22] },none⟩,
  ⟨some 42,.call { callee:=.value (.func 51),args:=#[.tmp 41],argTypes:=#[22] },none⟩,
  ⟨some 39,.move (.tmp 42),none⟩,
  ⟨some 43,.extract (.tmp 39) 0,none⟩,
  ⟨some 44,.extract (.tmp 39) 1,none⟩,
  ⟨some 9,.assign (.tmp 43),none⟩,
  ⟨some 10,.assign (.tmp 44),none⟩]
@[reducible] def q13_5:SCode:=.region [⟨some 46,.move (.tmp 0),none⟩,
  ⟨some 47,.call { callee:=.value (.func 18),args:=#[.tmp 46],argTypes:=#[22] },none⟩,
  ⟨some 48,.move (.tmp 9),none⟩,
  ⟨some 49,.call { callee:=.value (.func 52),args:=#[.tmp 47,.tmp 48],argTypes:=#[22,63] },none⟩,
  ⟨some 45,.move (.tmp 49),none⟩,
  ⟨some 50,.extract (.tmp 45) 0,none⟩,
  ⟨some 51,.extract (.tmp 45) 1,none⟩,
  ⟨some 52,.extract (.tmp 45) 2,none⟩,
  ⟨some 11,.assign (.tmp 50),none⟩,
  ⟨some 12,.assign (.tmp 51),none⟩,
  ⟨some 13,.assign (.tmp 52),none⟩]
@[reducible] def q13_6:SCode:=.region [⟨some 54,.move (.tmp 0),none⟩,
  ⟨some 55,.call { callee:=.value (.func 18),args:=#[.tmp 54],argTypes:=#[22] },none⟩,
  ⟨some 56,.call { callee:=.value (.func 17),args:=#[.tmp 55],argTypes:=#[22] },none⟩,
  ⟨some 53,.move (.tmp 56),none⟩,
  ⟨some 57,.extract (.tmp 53) 0,none⟩,
  ⟨some 58,.extract (.tmp 53) 1,none⟩,
  ⟨some 14,.assign (.tmp 57),none⟩,
  ⟨some 15,.assign (.tmp 58),none⟩]
@[reducible] def q13_7:SCode:=.region [⟨some 59,.move (.tmp 10),none⟩,
  ⟨some 60,.binOp .neq 23 (.tmp 59) (.const (.int .i64 0)) 23,none⟩,
  ⟨some 61,.move (.tmp 60),none⟩,
  ⟨some 62,.move (.tmp 13),some (61,false)⟩,
  ⟨some 63,.binOp .neq 23 (.tmp 62) (.const (.int .i64 0)) 23,some (61,false)⟩,
  ⟨some 64,.pick (.tmp 61) (.const (.bool true)) (.tmp 63),none⟩,
  ⟨some 65,.move (.tmp 64),none⟩,
  ⟨some 66,.move (.tmp 15),some (65,false)⟩,
  ⟨some 67,.binOp .neq 23 (.tmp 66) (.const (.int .i64 0)) 23,some (65,false)⟩,
  ⟨some 68,.pick (.tmp 65) (.const (.bool true)) (.tmp 67),none⟩,
  ⟨some 69,.move (.tmp 68),none⟩,
  ⟨some 70,.move (.tmp 12),some (69,false)⟩,
  ⟨some 71,.unOp .not 4 (.tmp 70),some (69,false)⟩,
  ⟨some 72,.pick (.tmp 69) (.const (.bool true)) (.tmp 71),none⟩,
  ⟨some 73,.move (.tmp 72),none⟩,
  ⟨some 74,.move (.tmp 11),some (73,false)⟩,
  ⟨some 75,.move (.tmp 7),some (73,false)⟩,
  ⟨some 76,.binOp .neq 3 (.tmp 74) (.tmp 75) 3,some (73,false)⟩,
  ⟨some 77,.pick (.tmp 73) (.const (.bool true)) (.tmp 76),none⟩,
  ⟨some 78,.move (.tmp 77),none⟩,
  ⟨some 79,.move (.tmp 7),some (78,false)⟩,
  ⟨some 80,.binOp .lss 3 (.tmp 79) (.const (.int .i64 0)) 3,some (78,false)⟩,
  ⟨some 81,.pick (.tmp 78) (.const (.bool true)) (.tmp 80),none⟩,
  ⟨some 82,.move (.tmp 81),none⟩,
  ⟨some 83,.move (.tmp 7),some (82,false)⟩,
  ⟨some 84,.binOp .gtr 3 (.tmp 83) (.const (.int .i64 15)) 3,some (82,false)⟩,
  ⟨some 85,.pick (.tmp 82) (.const (.bool true)) (.tmp 84),none⟩,
  ⟨some 86,.move (.tmp 85),none⟩,
  ⟨some 87,.move (.tmp 7),some (86,false)⟩,
  ⟨some 88,.binOp .shl 3 (.const (.int .i64 1)) (.tmp 87) 3,some (86,false)⟩,
  ⟨some 89,.move (.tmp 14),some (86,false)⟩,
  ⟨some 90,.binOp .lss 3 (.tmp 88) (.tmp 89) 3,some (86,false)⟩,
  ⟨some 91,.pick (.tmp 86) (.const (.bool true)) (.tmp 90),none⟩,
  ⟨some 92,.move (.tmp 91),none⟩,
  ⟨some 93,.move (.tmp 7),some (92,false)⟩,
  ⟨some 94,.binOp .eql 3 (.tmp 93) (.const (.int .i64 0)) 3,some (92,false)⟩,
  ⟨some 95,.move (.tmp 14),some (92,false)⟩,
  ⟨some 96,.binOp .eql 3 (.tmp 95) (.const (.int .i64 1)) 3,some (92,false)⟩,
  ⟨some 97,.binOp .neq 4 (.tmp 94) (.tmp 96) 4,some (92,false)⟩,
  ⟨some 98,.pick (.tmp 92) (.const (.bool true)) (.tmp 97),none⟩]
@[reducible] def q13_8:SCode:=.region [⟨some 6,.assign (.const (.bool false)),none⟩]
@[reducible] def q13_9:SCode:=.region [⟨some 16,.assign (.const (.bool true)),none⟩]
@[reducible] def q13_10:SCode:=.region [⟨some 99,.move (.tmp 0),none⟩,
  ⟨some 100,.call { callee:=.builtin .len,args:=#[.tmp 99],argTypes:=#[22] },none⟩,
  ⟨some 101,.move (.const (.int .i64 0)),none⟩]
@[reducible] def q13_11:SCode:=.region [⟨some 102,.binOp .lss 3 (.tmp 101) (.tmp 100) 3,none⟩]
@[reducible] def q13_12:SCode:=.region [⟨some 103,.indexAddr 22 (.tmp 99) (.tmp 101),none⟩,
  ⟨some 104,.load 3 (.tmp 103),none⟩,
  ⟨some 18,.assign (.tmp 104),none⟩]
@[reducible] def q13_13:SCode:=.region [⟨some 105,.move (.tmp 16),none⟩,
  ⟨some 106,.move (.tmp 105),none⟩,
  ⟨some 107,.move (.tmp 18),some (106,true)⟩,
  ⟨some 108,.binOp .eql 3 (.tmp 107) (.const (.int .i64 0)) 3,some (106,true)⟩,
  ⟨some 109,.pick (.tmp 106) (.tmp 108) (.const (.bool false)),none⟩,
  ⟨some 16,.assign (.tmp 109),none⟩]
@[reducible] def q13_14:SCode:=.region [⟨some 110,.binOp .add 3 (.tmp 101) (.const (.int .i64 1)) 3,none⟩,
  ⟨some 101,.move (.tmp 110),none⟩]
def l13_0:SCode:=(.seq q13_11 (.seq (.cond (.tmp 102) .skip (.exit 0)) (.seq (.block 1 (.seq q13_12 q13_13)) q13_14)))
@[reducible] def q13_15:SCode:=.region [⟨some 111,.move (.tmp 16),none⟩,
  ⟨some 112,.move (.tmp 111),none⟩,
  ⟨some 113,.move (.tmp 7),some (112,true)⟩,
  ⟨some 114,.build 73 #[(0,.const (.int .i64 0)),(1,.const (.int .i64 0)),(2,.const (.int .i64 1)),(3,.const (.int .i64 3)),(4,.const (.int .i64 5)),(5,.const (.int .i64 7)),(6,.const (.int .i64 10))],some (112,true)⟩,
  ⟨some 115,.move (.tmp 0),some (112,true)⟩,
  ⟨some 116,.call { callee:=.builtin .len,args:=#[.tmp 115],argTypes:=#[22] },some (112,true)⟩,
  ⟨some 117,.index 73 (.tmp 114) (.tmp 116),some (112,true)⟩,
  ⟨some 118,.binOp .neq 3 (.tmp 113) (.tmp 117) 3,some (112,true)⟩,
  ⟨some 119,.pick (.tmp 112) (.tmp 118) (.const (.bool false)),none⟩]
@[reducible] def q13_16:SCode:=.region [⟨some 6,.assign (.const (.bool false)),none⟩]
def q13_17:SCode:=.draw [⟨some 120,.move (.tmp 1),none⟩,
    ⟨some 121,.convert 3 29 (.tmp 120),none⟩,
    ⟨some 122,.move (.tmp 0),none⟩,
    ⟨some 123,.call { callee:=.builtin .len,args:=#[.tmp 122],argTypes:=#[22] },none⟩,
    ⟨some 124,.convert 3 29 (.tmp 123),none⟩,
    ⟨some 125,.binOp .rem 29 (.tmp 121) (.tmp 124) 29,none⟩,
    ⟨some 126,.convert 29 3 (.tmp 125),none⟩,
    ⟨some 127,.move (.tmp 2),none⟩,
    ⟨some 128,.convert 3 29 (.tmp 127),none⟩,
    ⟨some 129,.move (.tmp 0),none⟩,
    ⟨some 130,.call { callee:=.builtin .len,args:=#[.tmp 129],argTypes:=#[22] },none⟩,
    ⟨some 131,.convert 3 29 (.tmp 130),none⟩,
    ⟨some 132,.binOp .rem 29 (.tmp 128) (.tmp 131) 29,none⟩,
    ⟨some 133,.convert 29 3 (.tmp 132),none⟩,
    ⟨some 1,.assign (.tmp 126),none⟩,
    ⟨some 2,.assign (.tmp 133),none⟩]
  [[],[0],[],[2],[3],[1,4],[5],[],[7],[],[9],[10],[8,11],[12],[6,0,1,2,3,4,5,6],[13,14,0,1,2,3,4,5,6,7,8,9,10,11,12,13,14]]
@[reducible] def q13_18:SCode:=.region [⟨some 135,.move (.tmp 0),none⟩,
  ⟨some 136,.call { callee:=.value (.func 18),args:=#[.tmp 135],argTypes:=#[22] },none⟩,
  ⟨some 137,.move (.tmp 1),none⟩,
  ⟨some 138,.move (.tmp 2),none⟩,
  ⟨some 139,.call { callee:=.value (.func 21),args:=#[.tmp 136,.tmp 137,.tmp 138],argTypes:=#[22,3,3] },none⟩,
  ⟨some 134,.move (.tmp 139),none⟩,
  ⟨some 140,.extract (.tmp 134) 0,none⟩,
  ⟨some 141,.extract (.tmp 134) 1,none⟩,
  ⟨some 19,.assign (.tmp 140),none⟩,
  ⟨some 8,.assign (.tmp 141),none⟩]
@[reducible] def q13_19:SCode:=.region [⟨some 142,.move (.tmp 8),none⟩,
  ⟨some 143,.binOp .neq 23 (.tmp 142) (.const (.int .i64 0)) 23,none⟩]
@[reducible] def q13_20:SCode:=.region [⟨some 144,.move (.tmp 8),none⟩,
  ⟨some 145,.binOp .eql 23 (.tmp 144) (.const (.int .i64 5)) 23,none⟩,
  ⟨some 146,.move (.tmp 145),none⟩,
  ⟨some 147,.call { callee:=.value (.func 20),args:=#[],argTypes:=#[] },some (146,true)⟩,
  ⟨some 148,.pick (.tmp 146) (.tmp 147) (.const (.bool false)),none⟩,
  ⟨some 6,.assign (.tmp 148),none⟩]
@[reducible] def q13_21:SCode:=.region [⟨some 150,.move (.tmp 19),none⟩,
  ⟨some 151,.call { callee:=.value (.func 50),args:=#[.tmp 150],argTypes:=#[22] },none⟩,
  ⟨some 149,.move (.tmp 151),none⟩,
  ⟨some 152,.extract (.tmp 149) 0,none⟩,
  ⟨some 153,.extract (.tmp 149) 1,none⟩,
  ⟨some 20,.assign (.tmp 152),none⟩,
  ⟨some 8,.assign (.tmp 153),none⟩]
@[reducible] def q13_22:SCode:=.region [⟨some 154,.move (.tmp 8),none⟩,
  ⟨some 155,.binOp .eql 23 (.tmp 154) (.const (.int .i64 0)) 23,none⟩,
  ⟨some 156,.move (.tmp 155),none⟩,
  ⟨some 157,.move (.tmp 20),some (156,true)⟩,
  ⟨some 158,.move (.tmp 7),some (156,true)⟩,
  ⟨some 159,.binOp .leq 3 (.tmp 157) (.tmp 158) 3,some (156,true)⟩,
  ⟨some 160,.pick (.tmp 156) (.tmp 159) (.const (.bool false)),none⟩,
  ⟨some 161,.move (.tmp 160),none⟩,
  ⟨some 162,.call { callee:=.value (.func 20),args:=#[],argTypes:=#[] },some (161,true)⟩,
  ⟨some 163,.pick (.tmp 161) (.tmp 162) (.const (.bool false)),none⟩,
  ⟨some 6,.assign (.tmp 163),none⟩]
def s13:SCode:=(.seq q13_0 (.seq q13_1 (.seq (.seq q13_2 (.cond (.tmp 33) (.seq q13_3 .ret) .skip)) (.seq q13_4 (.seq q13_5 (.seq q13_6 (.seq (.seq q13_7 (.cond (.tmp 98) (.seq q13_8 .ret) .skip)) (.seq q13_9 (.seq (.seq q13_10 (.block 0 (.loop l13_0))) (.seq (.seq q13_15 (.cond (.tmp 119) (.seq q13_16 .ret) .skip)) (.seq q13_17 (.seq q13_18 (.seq (.seq q13_19 (.cond (.tmp 143) (.seq q13_20 .ret) .skip)) (.seq q13_21 (.seq q13_22 .ret)))))))))))))))
theorem s13_strip:Yh (Yi Tryd.f13)=s13:=by kernel_rfl
theorem s13_ok:Yx 164 (Yi Tryd.f13)=true:=by kernel_rfl
/-! 50: planchet order.Need -/
@[reducible] def q50_0:SCode:=.region [⟨some 2,.assign (.const (.int .i64 0)),none⟩,
  ⟨some 3,.assign (.const (.int .i64 0)),none⟩]
@[reducible] def q50_1:SCode:=.region [⟨some 7,.move (.tmp 0),none⟩,
  ⟨some 8,.call { callee:=.value (.func 64),args:=#[.tmp 7],argTypes:=#[22] },none⟩,
  ⟨some 6,.move (.tmp 8),none⟩,
  ⟨some 9,.extract (.tmp 6) 0,none⟩,
  ⟨some 10,.extract (.tmp 6) 1,none⟩,
  ⟨some 4,.alloc 77,none⟩,
  ⟨none,.store 77 (.tmp 4) (.tmp 9),none⟩,
  ⟨some 5,.assign (.tmp 10),none⟩]
@[reducible] def q50_2:SCode:=.region [⟨some 11,.move (.tmp 5),none⟩,
  ⟨some 12,.unOp .not 4 (.tmp 11),none⟩]
@[reducible] def q50_3:SCode:=.region [⟨some 2,.assign (.const (.int .i64 0)),none⟩,
  ⟨some 3,.assign (.const (.int .i64 2)),none⟩]
@[reducible] def q50_4:SCode:=.region [⟨some 13,.makeMap 98 none,none⟩,
  ⟨some 14,.build 100 #[(0,.tmp 13)],none⟩,
  ⟨some 15,.box 100 (.tmp 14),none⟩,
  ⟨some 16,.load 77 (.tmp 4),none⟩,
  ⟨some 17,.call { callee:=.value (.func 90),args:=#[.tmp 15,.tmp 16],argTypes:=#[97,77] },none⟩,
  ⟨some 2,.assign (.tmp 17),none⟩,
  ⟨some 3,.assign (.const (.int .i64 0)),none⟩]
def s50:SCode:=(.seq q50_0 (.seq q50_1 (.seq (.seq q50_2 (.cond (.tmp 12) (.seq q50_3 .ret) .skip)) (.seq q50_4 .ret))))
theorem s50_strip:Yh (Yi Tryd.f50)=s50:=by kernel_rfl
theorem s50_ok:Yx 18 (Yi Tryd.f50)=true:=by kernel_rfl
/-! 51: planchet order.Sort -/
@[reducible] def q51_0:SCode:=.region [⟨some 2,.assign (.const (.slice none 0 0)),none⟩,
  ⟨some 3,.assign (.const (.int .i64 0)),none⟩]
@[reducible] def q51_1:SCode:=.region [⟨some 10,.move (.tmp 0),none⟩,
  ⟨some 11,.call { callee:=.value (.func 64),args:=#[.tmp 10],argTypes:=#[22] },none⟩,
  ⟨some 9,.move (.tmp 11),none⟩,
  ⟨some 12,.extract (.tmp 9) 0,none⟩,
  ⟨some 13,.extract (.tmp 9) 1,none⟩,
  ⟨some 4,.alloc 77,none⟩,
  ⟨none,.store 77 (.tmp 4) (.tmp 12),none⟩,
  ⟨some 5,.assign (.tmp 13),none⟩]
@[reducible] def q51_2:SCode:=.region [⟨some 14,.move (.tmp 5),none⟩,
  ⟨some 15,.unOp .not 4 (.tmp 14),none⟩]
@[reducible] def q51_3:SCode:=.region [⟨some 2,.assign (.const (.slice none 0 0)),none⟩,
  ⟨some 3,.assign (.const (.int .i64 2)),none⟩]
@[reducible] def q51_4:SCode:=.region [⟨some 16,.makeMap 98 none,none⟩,
  ⟨some 17,.build 100 #[(0,.tmp 16)],none⟩,
  ⟨some 18,.box 100 (.tmp 17),none⟩,
  ⟨some 6,.assign (.tmp 18),none⟩]
def q51_5:SCode:=.draw [⟨some 20,.move (.tmp 6),none⟩,
    ⟨some 21,.load 77 (.tmp 4),none⟩,
    ⟨some 22,.move (.tmp 6),none⟩,
    ⟨some 23,.load 77 (.tmp 4),none⟩,
    ⟨some 24,.call { callee:=.value (.func 90),args:=#[.tmp 22,.tmp 23],argTypes:=#[97,77] },none⟩,
    ⟨some 25,.call { callee:=.value (.func 91),args:=#[.tmp 20,.tmp 21,.tmp 24,.const (.slice none 0 0)],argTypes:=#[97,77,3,63] },none⟩,
    ⟨some 19,.move (.tmp 25),none⟩,
    ⟨some 26,.extract (.tmp 19) 0,none⟩,
    ⟨some 27,.extract (.tmp 19) 1,none⟩,
    ⟨some 7,.assign (.tmp 26),none⟩,
    ⟨some 8,.assign (.tmp 27),none⟩]
  [[],[],[],[],[2,3],[0,1,4,4],[5],[6],[6],[7,5,0,1,2,3,4,5,6,7],[8,9,0,1,2,3,4,5,6,7,8,9]]
@[reducible] def q51_6:SCode:=.region [⟨some 28,.move (.tmp 7),none⟩,
  ⟨some 2,.assign (.tmp 28),none⟩,
  ⟨some 3,.assign (.const (.int .i64 0)),none⟩]
def s51:SCode:=(.seq q51_0 (.seq q51_1 (.seq (.seq q51_2 (.cond (.tmp 15) (.seq q51_3 .ret) .skip)) (.seq q51_4 (.seq q51_5 (.seq q51_6 .ret))))))
theorem s51_strip:Yh (Yi Tryd.f51)=s51:=by kernel_rfl
theorem s51_ok:Yx 29 (Yi Tryd.f51)=true:=by kernel_rfl
/-! 52: planchet order.Check -/
@[reducible] def q52_0:SCode:=.region [⟨some 4,.assign (.const (.int .i64 0)),none⟩,
  ⟨some 5,.assign (.const (.bool false)),none⟩,
  ⟨some 6,.assign (.const (.int .i64 0)),none⟩]
@[reducible] def q52_1:SCode:=.region [⟨some 12,.move (.tmp 0),none⟩,
  ⟨some 13,.call { callee:=.value (.func 64),args:=#[.tmp 12],argTypes:=#[22] },none⟩,
  ⟨some 11,.move (.tmp 13),none⟩,
  ⟨some 14,.extract (.tmp 11) 0,none⟩,
  ⟨some 15,.extract (.tmp 11) 1,none⟩,
  ⟨some 7,.alloc 77,none⟩,
  ⟨none,.store 77 (.tmp 7) (.tmp 14),none⟩,
  ⟨some 8,.assign (.tmp 15),none⟩]
@[reducible] def q52_2:SCode:=.region [⟨some 16,.move (.tmp 8),none⟩,
  ⟨some 17,.unOp .not 4 (.tmp 16),none⟩]
@[reducible] def q52_3:SCode:=.region [⟨some 4,.assign (.const (.int .i64 0)),none⟩,
  ⟨some 5,.assign (.const (.bool false)),none⟩,
  ⟨some 6,.assign (.const (.int .i64 2)),none⟩]
@[reducible] def q52_4:SCode:=.region [⟨some 18,.load 77 (.tmp 7),none⟩,
  ⟨some 19,.move (.tmp 1),none⟩,
  ⟨some 20,.call { callee:=.value (.func 92),args:=#[.tmp 18,.tmp 19],argTypes:=#[77,63] },none⟩,
  ⟨some 21,.unOp .not 4 (.tmp 20),none⟩]
@[reducible] def q52_5:SCode:=.region [⟨some 4,.assign (.const (.int .i64 0)),none⟩,
  ⟨some 5,.assign (.const (.bool false)),none⟩,
  ⟨some 6,.assign (.const (.int .i64 0)),none⟩]
@[reducible] def q52_6:SCode:=.region [⟨some 9,.assign (.const (.int .i64 0)),none⟩]
@[reducible] def q52_7:SCode:=.region [⟨some 22,.move (.tmp 1),none⟩,
  ⟨some 23,.call { callee:=.builtin .len,args:=#[.tmp 22],argTypes:=#[63] },none⟩,
  ⟨some 24,.binOp .eql 3 (.tmp 23) (.const (.int .i64 0)) 3,none⟩]
@[reducible] def q52_8:SCode:=.region [⟨some 9,.assign (.const (.int .i64 (-1))),none⟩]
@[reducible] def q52_9:SCode:=.region [⟨some 26,.load 77 (.tmp 7),none⟩,
  ⟨some 27,.move (.tmp 1),none⟩,
  ⟨some 28,.move (.tmp 9),none⟩,
  ⟨some 29,.call { callee:=.value (.func 93),args:=#[.tmp 26,.tmp 27,.tmp 28],argTypes:=#[77,63,3] },none⟩,
  ⟨some 25,.move (.tmp 29),none⟩,
  ⟨some 30,.extract (.tmp 25) 0,none⟩,
  ⟨some 31,.extract (.tmp 25) 1,none⟩,
  ⟨some 10,.assign (.tmp 30),none⟩,
  ⟨some 8,.assign (.tmp 31),none⟩]
@[reducible] def q52_10:SCode:=.region [⟨some 32,.move (.tmp 8),none⟩,
  ⟨some 33,.unOp .not 4 (.tmp 32),none⟩]
@[reducible] def q52_11:SCode:=.region [⟨some 4,.assign (.const (.int .i64 0)),none⟩,
  ⟨some 5,.assign (.const (.bool false)),none⟩,
  ⟨some 6,.assign (.const (.int .i64 0)),none⟩]
@[reducible] def q52_12:SCode:=.region [⟨some 34,.move (.tmp 10),none⟩,
  ⟨some 4,.assign (.tmp 34),none⟩,
  ⟨some 5,.assign (.const (.bool true)),none⟩,
  ⟨some 6,.assign (.const (.int .i64 0)),none⟩]
def s52:SCode:=(.seq q52_0 (.seq q52_1 (.seq (.seq q52_2 (.cond (.tmp 17) (.seq q52_3 .ret) .skip)) (.seq (.seq q52_4 (.cond (.tmp 21) (.seq q52_5 .ret) .skip)) (.seq q52_6 (.seq (.seq q52_7 (.cond (.tmp 24) q52_8 .skip)) (.seq q52_9 (.seq (.seq q52_10 (.cond (.tmp 33) (.seq q52_11 .ret) .skip)) (.seq q52_12 .ret)))))))))
theorem s52_strip:Yh (Yi Tryd.f52)=s52:=by kernel_rfl
theorem s52_ok:Yx 35 (Yi Tryd.f52)=true:=by kernel_rfl
/-! 90: (planchet order.sorter).need -/
@[reducible] def q90_0:SCode:=.region [⟨some 3,.box 77 (.tmp 1),none⟩,
  ⟨some 4,.assign (.const (.int .i64 0)),none⟩]
@[reducible] def q90_1:SCode:=.region [⟨some 6,.load 77 (.tmp 3),none⟩,
  ⟨some 7,.call { callee:=.value (.func 65),args:=#[.tmp 6],argTypes:=#[77] },none⟩,
  ⟨some 8,.binOp .sub 3 (.tmp 7) (.const (.int .i64 1)) 3,none⟩,
  ⟨some 9,.convert 3 29 (.tmp 8),none⟩,
  ⟨some 10,.call { callee:=.value (.func 108),args:=#[.tmp 9],argTypes:=#[29] },none⟩,
  ⟨some 5,.assign (.tmp 10),none⟩]
@[reducible] def q90_2:SCode:=.region [⟨some 11,.move (.tmp 0),none⟩,
  ⟨some 12,.load 77 (.tmp 3),none⟩,
  ⟨some 13,.move (.tmp 5),none⟩,
  ⟨some 14,.call { callee:=.value (.func 109),args:=#[.tmp 11,.tmp 12,.tmp 13],argTypes:=#[97,77,3] },none⟩,
  ⟨some 15,.unOp .not 4 (.tmp 14),none⟩]
@[reducible] def q90_3:SCode:=.region [⟨some 16,.move (.tmp 5),none⟩,
  ⟨some 17,.binOp .add 3 (.tmp 16) (.const (.int .i64 1)) 3,none⟩,
  ⟨some 5,.assign (.tmp 17),none⟩]
def l90_0:SCode:=(.seq (.seq q90_2 (.cond (.tmp 15) .skip (.exit 0))) (.block 1 q90_3))
@[reducible] def q90_4:SCode:=.region [⟨some 18,.move (.tmp 5),none⟩,
  ⟨some 4,.assign (.tmp 18),none⟩]
def s90:SCode:=(.seq q90_0 (.seq q90_1 (.seq (.block 0 (.loop l90_0)) (.seq q90_4 .ret))))
theorem s90_strip:Yh (Yi Tryd.f90)=s90:=by kernel_rfl
theorem s90_ok:Yx 19 (Yi Tryd.f90)=true:=by kernel_rfl
/-! 91: (planchet order.sorter).plan -/
@[reducible] def q91_0:SCode:=.region [⟨some 5,.box 77 (.tmp 1),none⟩,
  ⟨some 8,.assign (.const (.slice none 0 0)),none⟩,
  ⟨some 9,.assign (.const (.int .i64 0)),none⟩]
@[reducible] def q91_1:SCode:=.region [⟨some 14,.load 77 (.tmp 5),none⟩,
  ⟨some 15,.call { callee:=.value (.func 65),args:=#[.tmp 14],argTypes:=#[77] },none⟩,
  ⟨some 16,.binOp .eql 3 (.tmp 15) (.const (.int .i64 1)) 3,none⟩]
@[reducible] def q91_2:SCode:=.region [⟨some 17,.move (.tmp 3),none⟩,
  ⟨some 8,.assign (.tmp 17),none⟩,
  ⟨some 9,.assign (.const (.int .i64 (-1))),none⟩]
@[reducible] def q91_3:SCode:=.region [⟨some 18,.move (.tmp 3),none⟩,
  ⟨some 19,.call { callee:=.builtin .len,args:=#[.tmp 18],argTypes:=#[63] },none⟩,
  ⟨some 10,.assign (.tmp 19),none⟩]
@[reducible] def q91_4:SCode:=.region [⟨some 21,.move (.tmp 0),none⟩,
  ⟨some 22,.load 77 (.tmp 5),none⟩,
  ⟨some 23,.move (.tmp 2),none⟩,
  ⟨some 24,.call { callee:=.value (.func 110),args:=#[.tmp 21,.tmp 22,.tmp 23],argTypes:=#[97,77,3] },none⟩,
  ⟨some 20,.move (.tmp 24),none⟩,
  ⟨some 25,.extract (.tmp 20) 0,none⟩,
  ⟨some 26,.extract (.tmp 20) 1,none⟩,
  ⟨some 11,.alloc 33,none⟩,
  ⟨none,.store 33 (.tmp 11) (.tmp 25),none⟩,
  ⟨some 12,.assign (.tmp 26),none⟩]
@[reducible] def q91_5:SCode:=.region [⟨some 27,.indexAddr 33 (.tmp 11) (.const (.int .i64 0)),none⟩,
  ⟨some 28,.load 3 (.tmp 27),none⟩,
  ⟨some 29,.indexAddr 33 (.tmp 11) (.const (.int .i64 1)),none⟩,
  ⟨some 30,.load 3 (.tmp 29),none⟩,
  ⟨some 31,.build 108 #[(0,.tmp 28),(1,.tmp 30)],none⟩,
  ⟨some 13,.alloc 108,none⟩,
  ⟨none,.store 108 (.tmp 13) (.tmp 31),none⟩]
def q91_6:SCode:=.draw [⟨some 33,.move (.tmp 0),none⟩,
    ⟨some 34,.load 77 (.tmp 5),none⟩,
    ⟨some 35,.indexAddr 33 (.tmp 11) (.const (.int .i64 0)),none⟩,
    ⟨some 36,.load 3 (.tmp 35),none⟩,
    ⟨some 37,.indexAddr 33 (.tmp 11) (.const (.int .i64 1)),none⟩,
    ⟨some 38,.load 3 (.tmp 37),none⟩,
    ⟨some 39,.call { callee:=.value (.func 69),args:=#[.tmp 34,.tmp 36,.tmp 38],argTypes:=#[77,3,3] },none⟩,
    ⟨some 40,.move (.tmp 2),none⟩,
    ⟨some 41,.binOp .sub 3 (.tmp 40) (.const (.int .i64 1)) 3,none⟩,
    ⟨some 42,.move (.tmp 3),none⟩,
    ⟨some 43,.load 108 (.tmp 13),none⟩,
    ⟨some 44,.buildSlice 63 1 #[(0,.tmp 43)],none⟩,
    ⟨some 45,.call { callee:=.builtin .append,args:=#[.tmp 42,.tmp 44],argTypes:=#[63,63] },none⟩,
    ⟨some 46,.call { callee:=.value (.func 91),args:=#[.tmp 33,.tmp 39,.tmp 41,.tmp 45],argTypes:=#[97,77,3,63] },none⟩,
    ⟨some 32,.move (.tmp 46),none⟩,
    ⟨some 47,.extract (.tmp 32) 0,none⟩,
    ⟨some 48,.extract (.tmp 32) 1,none⟩,
    ⟨some 3,.assign (.tmp 47),none⟩,
    ⟨some 49,.fieldAddr 108 (.tmp 13) 2,none⟩,
    ⟨none,.store 3 (.tmp 49) (.tmp 48),none⟩]
  [[],[],[],[2],[],[4],[1,3,5],[],[7],[],[],[10],[9,11,6],[0,6,8,12,12],[13],[14],[14],[15,13,0,1,2,3,4,5,6,7,8,9,10,11,12,13,14,15],[0,1,2,3,4,5,6,7,8,9,10,11,12,13,14,15,16,17],[18,16,17,0,1,2,3,4,5,6,7,8,9,10,11,12,13,14,15,16,17]]
@[reducible] def q91_7:SCode:=.region [⟨some 51,.move (.tmp 0),none⟩,
  ⟨some 52,.load 77 (.tmp 5),none⟩,
  ⟨some 53,.indexAddr 33 (.tmp 11) (.const (.int .i64 1)),none⟩,
  ⟨some 54,.load 3 (.tmp 53),none⟩,
  ⟨some 55,.indexAddr 33 (.tmp 11) (.const (.int .i64 0)),none⟩,
  ⟨some 56,.load 3 (.tmp 55),none⟩,
  ⟨some 57,.call { callee:=.value (.func 69),args:=#[.tmp 52,.tmp 54,.tmp 56],argTypes:=#[77,3,3] },none⟩,
  ⟨some 58,.move (.tmp 2),none⟩,
  ⟨some 59,.binOp .sub 3 (.tmp 58) (.const (.int .i64 1)) 3,none⟩,
  ⟨some 60,.move (.tmp 3),none⟩,
  ⟨some 61,.call { callee:=.value (.func 91),args:=#[.tmp 51,.tmp 57,.tmp 59,.tmp 60],argTypes:=#[97,77,3,63] },none⟩,
  ⟨some 50,.move (.tmp 61),none⟩,
  ⟨some 62,.extract (.tmp 50) 0,none⟩,
  ⟨some 63,.extract (.tmp 50) 1,none⟩,
  ⟨some 3,.assign (.tmp 62),none⟩,
  ⟨some 64,.fieldAddr 108 (.tmp 13) 3,none⟩,
  ⟨none,.store 3 (.tmp 64) (.tmp 63),none⟩]
@[reducible] def q91_8:SCode:=.region [⟨some 65,.move (.tmp 3),none⟩,
  ⟨some 66,.move (.tmp 10),none⟩,
  ⟨some 67,.load 108 (.tmp 13),none⟩,
  ⟨some 68,.indexAddr 63 (.tmp 65) (.tmp 66),none⟩,
  ⟨none,.store 108 (.tmp 68) (.tmp 67),none⟩]
@[reducible] def q91_9:SCode:=.region [⟨some 69,.move (.tmp 3),none⟩,
  ⟨some 70,.move (.tmp 10),none⟩,
  ⟨some 8,.assign (.tmp 69),none⟩,
  ⟨some 9,.assign (.tmp 70),none⟩]
def s91:SCode:=(.seq q91_0 (.seq (.seq q91_1 (.cond (.tmp 16) (.seq q91_2 .ret) .skip)) (.seq q91_3 (.seq q91_4 (.seq q91_5 (.seq q91_6 (.seq q91_7 (.seq q91_8 (.seq q91_9 .ret)))))))))
theorem s91_strip:Yh (Yi Tryd.f91)=s91:=by kernel_rfl
theorem s91_ok:Yx 71 (Yi Tryd.f91)=true:=by kernel_rfl
/-! 92: (planchet order.order).isPlan -/
@[reducible] def q92_0:SCode:=.region [⟨some 2,.box 77 (.tmp 0),none⟩,
  ⟨some 4,.assign (.const (.bool false)),none⟩]
@[reducible] def q92_1:SCode:=.region [⟨some 9,.move (.tmp 1),none⟩,
  ⟨some 10,.call { callee:=.builtin .len,args:=#[.tmp 9],argTypes:=#[63] },none⟩,
  ⟨some 11,.move (.const (.int .i64 0)),none⟩]
@[reducible] def q92_2:SCode:=.region [⟨some 12,.binOp .lss 3 (.tmp 11) (.tmp 10) 3,none⟩]
@[reducible] def q92_3:SCode:=.region [⟨some 13,.move (.tmp 11),none⟩,
  ⟨some 14,.indexAddr 63 (.tmp 9) (.tmp 11),none⟩,
  ⟨some 15,.load 108 (.tmp 14),none⟩,
  ⟨some 6,.alloc 108,none⟩,
  ⟨some 5,.assign (.tmp 13),none⟩,
  ⟨none,.store 108 (.tmp 6) (.tmp 15),none⟩]
@[reducible] def q92_4:SCode:=.region [⟨some 16,.load 77 (.tmp 2),none⟩,
  ⟨some 17,.fieldAddr 108 (.tmp 6) 0,none⟩,
  ⟨some 18,.load 3 (.tmp 17),none⟩,
  ⟨some 19,.call { callee:=.value (.func 67),args:=#[.tmp 16,.tmp 18],argTypes:=#[77,3] },none⟩,
  ⟨some 20,.unOp .not 4 (.tmp 19),none⟩,
  ⟨some 21,.move (.tmp 20),none⟩,
  ⟨some 22,.load 77 (.tmp 2),some (21,false)⟩,
  ⟨some 23,.fieldAddr 108 (.tmp 6) 1,some (21,false)⟩,
  ⟨some 24,.load 3 (.tmp 23),some (21,false)⟩,
  ⟨some 25,.call { callee:=.value (.func 67),args:=#[.tmp 22,.tmp 24],argTypes:=#[77,3] },some (21,false)⟩,
  ⟨some 26,.unOp .not 4 (.tmp 25),some (21,false)⟩,
  ⟨some 27,.pick (.tmp 21) (.const (.bool true)) (.tmp 26),none⟩,
  ⟨some 28,.move (.tmp 27),none⟩,
  ⟨some 29,.fieldAddr 108 (.tmp 6) 0,some (28,false)⟩,
  ⟨some 30,.load 3 (.tmp 29),some (28,false)⟩,
  ⟨some 31,.fieldAddr 108 (.tmp 6) 1,some (28,false)⟩,
  ⟨some 32,.load 3 (.tmp 31),some (28,false)⟩,
  ⟨some 33,.binOp .eql 3 (.tmp 30) (.tmp 32) 3,some (28,false)⟩,
  ⟨some 34,.pick (.tmp 28) (.const (.bool true)) (.tmp 33),none⟩]
@[reducible] def q92_5:SCode:=.region [⟨some 4,.assign (.const (.bool false)),none⟩]
@[reducible] def q92_6:SCode:=.region [⟨some 35,.fieldAddr 108 (.tmp 6) 2,none⟩,
  ⟨some 36,.load 3 (.tmp 35),none⟩,
  ⟨some 37,.fieldAddr 108 (.tmp 6) 3,none⟩,
  ⟨some 38,.load 3 (.tmp 37),none⟩,
  ⟨some 39,.buildSlice 22 2 #[(0,.tmp 36),(1,.tmp 38)],none⟩,
  ⟨some 40,.call { callee:=.builtin .len,args:=#[.tmp 39],argTypes:=#[22] },none⟩,
  ⟨some 41,.move (.const (.int .i64 0)),none⟩]
@[reducible] def q92_7:SCode:=.region [⟨some 42,.binOp .lss 3 (.tmp 41) (.tmp 40) 3,none⟩]
@[reducible] def q92_8:SCode:=.region [⟨some 43,.indexAddr 22 (.tmp 39) (.tmp 41),none⟩,
  ⟨some 44,.load 3 (.tmp 43),none⟩,
  ⟨some 8,.assign (.tmp 44),none⟩]
@[reducible] def q92_9:SCode:=.region [⟨some 45,.move (.tmp 8),none⟩,
  ⟨some 46,.binOp .neq 3 (.tmp 45) (.const (.int .i64 (-1))) 3,none⟩,
  ⟨some 47,.move (.tmp 46),none⟩,
  ⟨some 48,.move (.tmp 8),some (47,true)⟩,
  ⟨some 49,.move (.tmp 5),some (47,true)⟩,
  ⟨some 50,.binOp .leq 3 (.tmp 48) (.tmp 49) 3,some (47,true)⟩,
  ⟨some 51,.pick (.tmp 47) (.tmp 50) (.const (.bool false)),none⟩,
  ⟨some 52,.move (.tmp 51),none⟩,
  ⟨some 53,.move (.tmp 8),some (52,false)⟩,
  ⟨some 54,.move (.tmp 1),some (52,false)⟩,
  ⟨some 55,.call { callee:=.builtin .len,args:=#[.tmp 54],argTypes:=#[63] },some (52,false)⟩,
  ⟨some 56,.binOp .geq 3 (.tmp 53) (.tmp 55) 3,some (52,false)⟩,
  ⟨some 57,.pick (.tmp 52) (.const (.bool true)) (.tmp 56),none⟩]
@[reducible] def q92_10:SCode:=.region [⟨some 4,.assign (.const (.bool false)),none⟩]
@[reducible] def q92_11:SCode:=.region [⟨some 58,.binOp .add 3 (.tmp 41) (.const (.int .i64 1)) 3,none⟩,
  ⟨some 41,.move (.tmp 58),none⟩]
def l92_0:SCode:=(.seq q92_7 (.seq (.cond (.tmp 42) .skip (.exit 2)) (.seq (.block 3 (.seq q92_8 (.seq q92_9 (.cond (.tmp 57) (.seq q92_10 .ret) .skip)))) q92_11)))
@[reducible] def q92_12:SCode:=.region [⟨some 59,.binOp .add 3 (.tmp 11) (.const (.int .i64 1)) 3,none⟩,
  ⟨some 11,.move (.tmp 59),none⟩]
def l92_1:SCode:=(.seq q92_2 (.seq (.cond (.tmp 12) .skip (.exit 0)) (.seq (.block 1 (.seq q92_3 (.seq (.seq q92_4 (.cond (.tmp 34) (.seq q92_5 .ret) .skip)) (.seq q92_6 (.block 2 (.loop l92_0)))))) q92_12)))
@[reducible] def q92_13:SCode:=.region [⟨some 60,.move (.tmp 1),none⟩,
  ⟨some 61,.call { callee:=.builtin .len,args:=#[.tmp 60],argTypes:=#[63] },none⟩,
  ⟨some 62,.binOp .leq 3 (.tmp 61) (.const (.int .i64 800)) 3,none⟩,
  ⟨some 4,.assign (.tmp 62),none⟩]
def s92:SCode:=(.seq q92_0 (.seq (.seq q92_1 (.block 0 (.loop l92_1))) (.seq q92_13 .ret)))
theorem s92_strip:Yh (Yi Tryd.f92)=s92:=by kernel_rfl
theorem s92_ok:Yx 63 (Yi Tryd.f92)=true:=by kernel_rfl
/-! 93: (planchet order.order).length -/
@[reducible] def q93_0:SCode:=.region [⟨some 3,.box 77 (.tmp 0),none⟩,
  ⟨some 6,.assign (.const (.int .i64 0)),none⟩,
  ⟨some 7,.assign (.const (.bool false)),none⟩]
@[reducible] def q93_1:SCode:=.region [⟨some 13,.load 77 (.tmp 3),none⟩,
  ⟨some 14,.call { callee:=.value (.func 65),args:=#[.tmp 13],argTypes:=#[77] },none⟩,
  ⟨some 15,.binOp .eql 3 (.tmp 14) (.const (.int .i64 1)) 3,none⟩,
  ⟨some 8,.assign (.tmp 15),none⟩]
@[reducible] def q93_2:SCode:=.region [⟨some 16,.move (.tmp 2),none⟩,
  ⟨some 17,.binOp .eql 3 (.tmp 16) (.const (.int .i64 (-1))) 3,none⟩,
  ⟨some 18,.move (.tmp 17),none⟩,
  ⟨some 19,.move (.tmp 8),some (18,false)⟩,
  ⟨some 20,.pick (.tmp 18) (.const (.bool true)) (.tmp 19),none⟩]
@[reducible] def q93_3:SCode:=.region [⟨some 21,.move (.tmp 2),none⟩,
  ⟨some 22,.binOp .eql 3 (.tmp 21) (.const (.int .i64 (-1))) 3,none⟩,
  ⟨some 23,.move (.tmp 22),none⟩,
  ⟨some 24,.move (.tmp 8),some (23,true)⟩,
  ⟨some 25,.pick (.tmp 23) (.tmp 24) (.const (.bool false)),none⟩,
  ⟨some 6,.assign (.const (.int .i64 0)),none⟩,
  ⟨some 7,.assign (.tmp 25),none⟩]
@[reducible] def q93_4:SCode:=.region [⟨some 26,.move (.tmp 1),none⟩,
  ⟨some 27,.move (.tmp 2),none⟩,
  ⟨some 28,.indexAddr 63 (.tmp 26) (.tmp 27),none⟩,
  ⟨some 29,.load 108 (.tmp 28),none⟩,
  ⟨some 9,.alloc 108,none⟩,
  ⟨none,.store 108 (.tmp 9) (.tmp 29),none⟩]
@[reducible] def q93_5:SCode:=.region [⟨some 30,.load 77 (.tmp 3),none⟩,
  ⟨some 31,.fieldAddr 108 (.tmp 9) 0,none⟩,
  ⟨some 32,.load 3 (.tmp 31),none⟩,
  ⟨some 33,.fieldAddr 108 (.tmp 9) 1,none⟩,
  ⟨some 34,.load 3 (.tmp 33),none⟩,
  ⟨some 35,.call { callee:=.value (.func 68),args:=#[.tmp 30,.tmp 32,.tmp 34],argTypes:=#[77,3,3] },none⟩,
  ⟨some 36,.unOp .not 4 (.tmp 35),none⟩]
@[reducible] def q93_6:SCode:=.region [⟨some 6,.assign (.const (.int .i64 0)),none⟩,
  ⟨some 7,.assign (.const (.bool false)),none⟩]
def q93_7:SCode:=.draw [⟨some 38,.load 77 (.tmp 3),none⟩,
    ⟨some 39,.fieldAddr 108 (.tmp 9) 0,none⟩,
    ⟨some 40,.load 3 (.tmp 39),none⟩,
    ⟨some 41,.fieldAddr 108 (.tmp 9) 1,none⟩,
    ⟨some 42,.load 3 (.tmp 41),none⟩,
    ⟨some 43,.call { callee:=.value (.func 69),args:=#[.tmp 38,.tmp 40,.tmp 42],argTypes:=#[77,3,3] },none⟩,
    ⟨some 44,.move (.tmp 1),none⟩,
    ⟨some 45,.fieldAddr 108 (.tmp 9) 2,none⟩,
    ⟨some 46,.load 3 (.tmp 45),none⟩,
    ⟨some 47,.call { callee:=.value (.func 93),args:=#[.tmp 43,.tmp 44,.tmp 46],argTypes:=#[77,63,3] },none⟩,
    ⟨some 37,.move (.tmp 47),none⟩,
    ⟨some 48,.extract (.tmp 37) 0,none⟩,
    ⟨some 49,.extract (.tmp 37) 1,none⟩,
    ⟨some 10,.assign (.tmp 48),none⟩,
    ⟨some 11,.assign (.tmp 49),none⟩]
  [[],[],[1],[],[3],[0,2,4],[],[],[7],[5,6,8,5],[9],[10],[10],[11,9,0,1,2,3,4,5,6,7,8,9,10,11],[12,13,0,1,2,3,4,5,6,7,8,9,10,11,12,13]]
@[reducible] def q93_8:SCode:=.region [⟨some 50,.move (.tmp 11),none⟩,
  ⟨some 51,.unOp .not 4 (.tmp 50),none⟩]
@[reducible] def q93_9:SCode:=.region [⟨some 6,.assign (.const (.int .i64 0)),none⟩,
  ⟨some 7,.assign (.const (.bool false)),none⟩]
def q93_10:SCode:=.draw [⟨some 53,.load 77 (.tmp 3),none⟩,
    ⟨some 54,.fieldAddr 108 (.tmp 9) 1,none⟩,
    ⟨some 55,.load 3 (.tmp 54),none⟩,
    ⟨some 56,.fieldAddr 108 (.tmp 9) 0,none⟩,
    ⟨some 57,.load 3 (.tmp 56),none⟩,
    ⟨some 58,.call { callee:=.value (.func 69),args:=#[.tmp 53,.tmp 55,.tmp 57],argTypes:=#[77,3,3] },none⟩,
    ⟨some 59,.move (.tmp 1),none⟩,
    ⟨some 60,.fieldAddr 108 (.tmp 9) 3,none⟩,
    ⟨some 61,.load 3 (.tmp 60),none⟩,
    ⟨some 62,.call { callee:=.value (.func 93),args:=#[.tmp 58,.tmp 59,.tmp 61],argTypes:=#[77,63,3] },none⟩,
    ⟨some 52,.move (.tmp 62),none⟩,
    ⟨some 63,.extract (.tmp 52) 0,none⟩,
    ⟨some 64,.extract (.tmp 52) 1,none⟩,
    ⟨some 12,.assign (.tmp 63),none⟩,
    ⟨some 11,.assign (.tmp 64),none⟩]
  [[],[],[1],[],[3],[0,2,4],[],[],[7],[5,6,8,5],[9],[10],[10],[11,9,0,1,2,3,4,5,6,7,8,9,10,11],[12,13,0,1,2,3,4,5,6,7,8,9,10,11,12,13]]
@[reducible] def q93_11:SCode:=.region [⟨some 65,.move (.tmp 10),none⟩,
  ⟨some 66,.move (.tmp 12),none⟩,
  ⟨some 67,.call { callee:=.builtin .max,args:=#[.tmp 65,.tmp 66],argTypes:=#[3,3] },none⟩,
  ⟨some 68,.binOp .add 3 (.const (.int .i64 1)) (.tmp 67) 3,none⟩,
  ⟨some 69,.move (.tmp 11),none⟩,
  ⟨some 6,.assign (.tmp 68),none⟩,
  ⟨some 7,.assign (.tmp 69),none⟩]
def s93:SCode:=(.seq q93_0 (.seq q93_1 (.seq (.seq q93_2 (.cond (.tmp 20) (.seq q93_3 .ret) .skip)) (.seq q93_4 (.seq (.seq q93_5 (.cond (.tmp 36) (.seq q93_6 .ret) .skip)) (.seq q93_7 (.seq (.seq q93_8 (.cond (.tmp 51) (.seq q93_9 .ret) .skip)) (.seq q93_10 (.seq q93_11 .ret)))))))))
theorem s93_strip:Yh (Yi Tryd.f93)=s93:=by kernel_rfl
theorem s93_ok:Yx 70 (Yi Tryd.f93)=true:=by kernel_rfl
/-! 109: (planchet order.sorter).sorts -/
@[reducible] def q109_0:SCode:=.region [⟨some 4,.box 77 (.tmp 1),none⟩,
  ⟨some 6,.assign (.const (.bool false)),none⟩]
@[reducible] def q109_1:SCode:=.region [⟨some 10,.load 77 (.tmp 4),none⟩,
  ⟨some 11,.call { callee:=.value (.func 65),args:=#[.tmp 10],argTypes:=#[77] },none⟩,
  ⟨some 7,.assign (.tmp 11),none⟩]
@[reducible] def q109_2:SCode:=.region [⟨some 12,.move (.tmp 7),none⟩,
  ⟨some 13,.binOp .eql 3 (.tmp 12) (.const (.int .i64 1)) 3,none⟩,
  ⟨some 14,.move (.tmp 13),none⟩,
  ⟨some 15,.move (.tmp 2),some (14,false)⟩,
  ⟨some 16,.binOp .eql 3 (.tmp 15) (.const (.int .i64 0)) 3,some (14,false)⟩,
  ⟨some 17,.pick (.tmp 14) (.const (.bool true)) (.tmp 16),none⟩,
  ⟨some 18,.move (.tmp 17),none⟩,
  ⟨some 19,.move (.tmp 7),some (18,false)⟩,
  ⟨some 20,.move (.tmp 2),some (18,false)⟩,
  ⟨some 21,.binOp .shl 3 (.const (.int .i64 1)) (.tmp 20) 3,some (18,false)⟩,
  ⟨some 22,.binOp .gtr 3 (.tmp 19) (.tmp 21) 3,some (18,false)⟩,
  ⟨some 23,.pick (.tmp 18) (.const (.bool true)) (.tmp 22),none⟩]
@[reducible] def q109_3:SCode:=.region [⟨some 24,.move (.tmp 7),none⟩,
  ⟨some 25,.binOp .eql 3 (.tmp 24) (.const (.int .i64 1)) 3,none⟩,
  ⟨some 6,.assign (.tmp 25),none⟩]
def q109_4:SCode:=.draw [⟨some 27,.move (.tmp 0),none⟩,
    ⟨some 28,.nilCheck (.tmp 27),none⟩,
    ⟨some 29,.fieldAddr 100 (.tmp 28) 0,none⟩,
    ⟨some 30,.load 98 (.tmp 29),none⟩,
    ⟨some 31,.load 77 (.tmp 4),none⟩,
    ⟨some 32,.move (.tmp 2),none⟩,
    ⟨some 33,.build 136 #[(0,.tmp 31),(1,.tmp 32)],none⟩,
    ⟨some 34,.lookup 98 (.tmp 30) (.tmp 33) true,none⟩,
    ⟨some 26,.move (.tmp 34),none⟩,
    ⟨some 35,.extract (.tmp 26) 0,none⟩,
    ⟨some 36,.extract (.tmp 26) 1,none⟩,
    ⟨some 8,.assign (.tmp 35),none⟩,
    ⟨some 9,.assign (.tmp 36),none⟩]
  [[],[0],[1],[2],[],[],[4,5],[3,6],[7],[8],[8],[9,0,1,2,3,4,5,6,7,8,9],[10,11,0,1,2,3,4,5,6,7,8,9,10,11]]
@[reducible] def q109_5:SCode:=.region [⟨some 37,.move (.tmp 9),none⟩,
  ⟨some 38,.unOp .not 4 (.tmp 37),none⟩]
@[reducible] def q109_6:SCode:=.region [⟨some 40,.move (.tmp 0),none⟩,
  ⟨some 41,.load 77 (.tmp 4),none⟩,
  ⟨some 42,.move (.tmp 2),none⟩,
  ⟨some 43,.call { callee:=.value (.func 110),args:=#[.tmp 40,.tmp 41,.tmp 42],argTypes:=#[97,77,3] },none⟩,
  ⟨some 39,.move (.tmp 43),none⟩,
  ⟨some 44,.extract (.tmp 39) 0,none⟩,
  ⟨some 45,.extract (.tmp 39) 1,none⟩,
  ⟨some 8,.assign (.tmp 45),none⟩]
def q109_7:SCode:=.draw [⟨some 46,.move (.tmp 0),none⟩,
    ⟨some 47,.nilCheck (.tmp 46),none⟩,
    ⟨some 48,.fieldAddr 100 (.tmp 47) 0,none⟩,
    ⟨some 49,.load 98 (.tmp 48),none⟩,
    ⟨some 50,.load 77 (.tmp 4),none⟩,
    ⟨some 51,.move (.tmp 2),none⟩,
    ⟨some 52,.build 136 #[(0,.tmp 50),(1,.tmp 51)],none⟩,
    ⟨some 53,.move (.tmp 8),none⟩,
    ⟨none,.mapUpdate 98 (.tmp 49) (.tmp 52) (.tmp 53),none⟩]
  [[],[0],[1],[2],[],[],[4,5],[],[3,6,7,0,1,2,3,4,5,6,7]]
@[reducible] def q109_8:SCode:=.region [⟨some 54,.move (.tmp 8),none⟩,
  ⟨some 6,.assign (.tmp 54),none⟩]
def s109:SCode:=(.seq q109_0 (.seq q109_1 (.seq (.seq q109_2 (.cond (.tmp 23) (.seq q109_3 .ret) .skip)) (.seq q109_4 (.seq (.seq q109_5 (.cond (.tmp 38) (.seq q109_6 q109_7) .skip)) (.seq q109_8 .ret))))))
theorem s109_strip:Yh (Yi Tryd.f109)=s109:=by kernel_rfl
theorem s109_ok:Yx 55 (Yi Tryd.f109)=true:=by kernel_rfl
/-! 110: (planchet order.sorter).pair -/
@[reducible] def q110_0:SCode:=.region [⟨some 3,.box 97 (.tmp 0),none⟩,
  ⟨some 4,.box 77 (.tmp 1),none⟩,
  ⟨some 5,.box 3 (.tmp 2),none⟩,
  ⟨some 6,.alloc 33,none⟩,
  ⟨some 7,.assign (.const (.bool false)),none⟩]
@[reducible] def q110_1:SCode:=.region [⟨some 8,.assign (.const (.slice none 0 0)),none⟩]
@[reducible] def q110_2:SCode:=.region [⟨some 16,.load 77 (.tmp 4),none⟩,
  ⟨some 17,.call { callee:=.value (.func 65),args:=#[.tmp 16],argTypes:=#[77] },none⟩,
  ⟨some 9,.assign (.tmp 17),none⟩]
@[reducible] def q110_3:SCode:=.region [⟨some 18,.makeMap 137 none,none⟩,
  ⟨some 10,.alloc 137,none⟩,
  ⟨none,.store 137 (.tmp 10) (.tmp 18),none⟩]
@[reducible] def q110_4:SCode:=.region [⟨some 19,.fieldAddr 77 (.tmp 4) 0,none⟩,
  ⟨some 20,.load 3 (.tmp 19),none⟩,
  ⟨some 21,.move (.const (.int .i64 0)),none⟩]
@[reducible] def q110_5:SCode:=.region [⟨some 22,.binOp .lss 3 (.tmp 21) (.tmp 20) 3,none⟩]
@[reducible] def q110_6:SCode:=.region [⟨some 23,.move (.tmp 21),none⟩,
  ⟨some 11,.assign (.tmp 23),none⟩]
@[reducible] def q110_7:SCode:=.region [⟨some 24,.move (.tmp 11),none⟩,
  ⟨some 25,.binOp .add 3 (.tmp 24) (.const (.int .i64 1)) 3,none⟩,
  ⟨some 12,.assign (.tmp 25),none⟩]
@[reducible] def q110_8:SCode:=.region [⟨some 26,.move (.tmp 12),none⟩,
  ⟨some 27,.fieldAddr 77 (.tmp 4) 0,none⟩,
  ⟨some 28,.load 3 (.tmp 27),none⟩,
  ⟨some 29,.binOp .lss 3 (.tmp 26) (.tmp 28) 3,none⟩]
@[reducible] def q110_10:SCode:=.region [⟨some 32,.load 77 (.tmp 4),none⟩,
  ⟨some 33,.move (.tmp 11),none⟩,
  ⟨some 34,.move (.tmp 12),none⟩,
  ⟨some 35,.call { callee:=.value (.func 68),args:=#[.tmp 32,.tmp 33,.tmp 34],argTypes:=#[77,3,3] },none⟩]
@[reducible] def q110_11:SCode:=.region [⟨some 36,.move (.tmp 11),none⟩,
  ⟨some 37,.move (.tmp 12),none⟩,
  ⟨some 38,.build 33 #[(0,.tmp 36),(1,.tmp 37)],none⟩,
  ⟨some 13,.alloc 33,none⟩,
  ⟨none,.store 33 (.tmp 13) (.tmp 38),none⟩]
@[reducible] def q110_12:SCode:=.region [⟨some 39,.load 77 (.tmp 4),none⟩,
  ⟨some 40,.move (.tmp 11),none⟩,
  ⟨some 41,.move (.tmp 12),none⟩,
  ⟨some 42,.call { callee:=.value (.func 72),args:=#[.tmp 39,.tmp 40,.tmp 41],argTypes:=#[77,3,3] },none⟩,
  ⟨some 43,.binOp .mul 3 (.const (.int .i64 2)) (.tmp 42) 3,none⟩,
  ⟨some 44,.move (.tmp 9),none⟩,
  ⟨some 45,.binOp .sub 3 (.tmp 43) (.tmp 44) 3,none⟩,
  ⟨some 14,.assign (.tmp 45),none⟩]
def q110_13:SCode:=.draw [⟨some 46,.load 137 (.tmp 10),none⟩,
    ⟨some 47,.load 33 (.tmp 13),none⟩,
    ⟨some 48,.move (.tmp 8),none⟩,
    ⟨some 49,.load 33 (.tmp 13),none⟩,
    ⟨some 50,.buildSlice 52 1 #[(0,.tmp 49)],none⟩,
    ⟨some 51,.call { callee:=.builtin .append,args:=#[.tmp 48,.tmp 50],argTypes:=#[52,52] },none⟩,
    ⟨some 52,.move (.tmp 14),none⟩,
    ⟨some 53,.move (.tmp 14),none⟩,
    ⟨some 54,.unOp .neg 3 (.tmp 53),none⟩,
    ⟨some 55,.call { callee:=.builtin .max,args:=#[.tmp 52,.tmp 54],argTypes:=#[3,3] },none⟩,
    ⟨some 8,.assign (.tmp 51),none⟩,
    ⟨none,.mapUpdate 137 (.tmp 46) (.tmp 47) (.tmp 55),none⟩]
  [[],[],[],[],[3],[2,4],[],[],[7],[6,8],[5,5,2,3,4,5],[0,1,9,10,0,1,2,3,4,5,6,7,8,9,10]]
@[reducible] def q110_9:SCode:=.region [⟨some 30,.move (.tmp 12),none⟩,
  ⟨some 31,.binOp .add 3 (.tmp 30) (.const (.int .i64 1)) 3,none⟩,
  ⟨some 12,.assign (.tmp 31),none⟩]
def l110_0:SCode:=(.seq (.seq q110_8 (.cond (.tmp 29) .skip (.exit 2))) (.seq (.block 3 (.seq q110_10 (.cond (.tmp 35) (.seq q110_11 (.seq q110_12 q110_13)) .skip))) q110_9))
@[reducible] def q110_14:SCode:=.region [⟨some 56,.binOp .add 3 (.tmp 21) (.const (.int .i64 1)) 3,none⟩,
  ⟨some 21,.move (.tmp 56),none⟩]
def l110_1:SCode:=(.seq q110_5 (.seq (.cond (.tmp 22) .skip (.exit 0)) (.seq (.block 1 (.seq q110_6 (.seq q110_7 (.block 2 (.loop l110_0))))) q110_14)))
@[reducible] def q110_15:SCode:=.region [⟨some 57,.move (.tmp 8),none⟩,
  ⟨some 58,.makeFunc (.func 121) #[] #[.tmp 10],none⟩,
  ⟨some 59,.call { callee:=.value (.func 120),args:=#[.tmp 57,.tmp 58],argTypes:=#[52,139] },none⟩]
@[reducible] def q110_16:SCode:=.region [⟨some 60,.move (.tmp 8),none⟩,
  ⟨some 61,.makeFunc (.func 122) #[] #[.tmp 3,.tmp 4,.tmp 5],none⟩,
  ⟨some 62,.call { callee:=.value (.func 104),args:=#[.tmp 60,.tmp 61],argTypes:=#[52,91] },none⟩,
  ⟨some 15,.assign (.tmp 62),none⟩]
@[reducible] def q110_17:SCode:=.region [⟨some 63,.move (.tmp 15),none⟩,
  ⟨some 64,.binOp .lss 3 (.tmp 63) (.const (.int .i64 0)) 3,none⟩]
@[reducible] def q110_18:SCode:=.region [⟨some 65,.build 33 #[],none⟩,
  ⟨none,.store 33 (.tmp 6) (.tmp 65),none⟩,
  ⟨some 7,.assign (.const (.bool false)),none⟩]
@[reducible] def q110_19:SCode:=.region [⟨some 66,.move (.tmp 8),none⟩,
  ⟨some 67,.move (.tmp 15),none⟩,
  ⟨some 68,.indexAddr 52 (.tmp 66) (.tmp 67),none⟩,
  ⟨some 69,.load 33 (.tmp 68),none⟩,
  ⟨none,.store 33 (.tmp 6) (.tmp 69),none⟩,
  ⟨some 7,.assign (.const (.bool true)),none⟩]
def s110:SCode:=(.seq q110_0 (.seq q110_1 (.seq q110_2 (.seq q110_3 (.seq (.seq q110_4 (.block 0 (.loop l110_1))) (.seq q110_15 (.seq q110_16 (.seq (.seq q110_17 (.cond (.tmp 64) (.seq q110_18 .ret) .skip)) (.seq q110_19 .ret)))))))))
theorem s110_strip:Yh (Yi Tryd.f110)=s110:=by kernel_rfl
theorem s110_ok:Yx 70 (Yi Tryd.f110)=true:=by kernel_rfl
/-! 120: slices.SortStableFunc[[][2]int,[2]int] -/
@[reducible] def q120_0:SCode:=.region [⟨some 4,.move (.tmp 0),none⟩,
  ⟨some 5,.move (.tmp 0),none⟩,
  ⟨some 6,.call { callee:=.builtin .len,args:=#[.tmp 5],argTypes:=#[52] },none⟩,
  ⟨some 7,.move (.tmp 1),none⟩,
  ⟨some 8,.call { callee:=.value (.func 134),args:=#[.tmp 4,.tmp 6,.tmp 7],argTypes:=#[52,3,139] },none⟩]
def s120:SCode:=q120_0
theorem s120_strip:Yh (Yi Tryd.f120)=s120:=by kernel_rfl
theorem s120_ok:Yx 9 (Yi Tryd.f120)=true:=by kernel_rfl
/-! 121: (planchet order.sorter).pair$1 -/
@[reducible] def q121_0:SCode:=.region [⟨some 3,.box 33 (.tmp 0),none⟩,
  ⟨some 4,.box 33 (.tmp 1),none⟩,
  ⟨some 5,.assign (.const (.int .i64 0)),none⟩]
def q121_1:SCode:=.draw [⟨some 6,.load 137 (.tmp 2),none⟩,
    ⟨some 7,.load 33 (.tmp 3),none⟩,
    ⟨some 8,.lookup 137 (.tmp 6) (.tmp 7) false,none⟩,
    ⟨some 9,.load 137 (.tmp 2),none⟩,
    ⟨some 10,.load 33 (.tmp 4),none⟩,
    ⟨some 11,.lookup 137 (.tmp 9) (.tmp 10) false,none⟩,
    ⟨some 12,.binOp .sub 3 (.tmp 8) (.tmp 11) 3,none⟩,
    ⟨some 5,.assign (.tmp 12),none⟩]
  [[],[],[0,1],[],[],[3,4],[2,5],[6,0,1,2,3,4,5,6]]
def s121:SCode:=(.seq q121_0 (.seq q121_1 .ret))
theorem s121_strip:Yh (Yi Tryd.f121)=s121:=by kernel_rfl
theorem s121_ok:Yx 13 (Yi Tryd.f121)=true:=by kernel_rfl
/-! 122: (planchet order.sorter).pair$2 -/
@[reducible] def q122_0:SCode:=.region [⟨some 4,.box 33 (.tmp 0),none⟩,
  ⟨some 5,.assign (.const (.bool false)),none⟩]
def q122_1:SCode:=.draw [⟨some 6,.load 97 (.tmp 1),none⟩,
    ⟨some 7,.load 77 (.tmp 2),none⟩,
    ⟨some 8,.indexAddr 33 (.tmp 4) (.const (.int .i64 0)),none⟩,
    ⟨some 9,.load 3 (.tmp 8),none⟩,
    ⟨some 10,.indexAddr 33 (.tmp 4) (.const (.int .i64 1)),none⟩,
    ⟨some 11,.load 3 (.tmp 10),none⟩,
    ⟨some 12,.call { callee:=.value (.func 69),args:=#[.tmp 7,.tmp 9,.tmp 11],argTypes:=#[77,3,3] },none⟩,
    ⟨some 13,.load 3 (.tmp 3),none⟩,
    ⟨some 14,.binOp .sub 3 (.tmp 13) (.const (.int .i64 1)) 3,none⟩,
    ⟨some 15,.call { callee:=.value (.func 109),args:=#[.tmp 6,.tmp 12,.tmp 14],argTypes:=#[97,77,3] },none⟩,
    ⟨some 16,.move (.tmp 15),none⟩,
    ⟨some 17,.load 97 (.tmp 1),some (16,true)⟩,
    ⟨some 18,.load 77 (.tmp 2),some (16,true)⟩,
    ⟨some 19,.indexAddr 33 (.tmp 4) (.const (.int .i64 1)),some (16,true)⟩,
    ⟨some 20,.load 3 (.tmp 19),some (16,true)⟩,
    ⟨some 21,.indexAddr 33 (.tmp 4) (.const (.int .i64 0)),some (16,true)⟩,
    ⟨some 22,.load 3 (.tmp 21),some (16,true)⟩,
    ⟨some 23,.call { callee:=.value (.func 69),args:=#[.tmp 18,.tmp 20,.tmp 22],argTypes:=#[77,3,3] },some (16,true)⟩,
    ⟨some 24,.load 3 (.tmp 3),some (16,true)⟩,
    ⟨some 25,.binOp .sub 3 (.tmp 24) (.const (.int .i64 1)) 3,some (16,true)⟩,
    ⟨some 26,.call { callee:=.value (.func 109),args:=#[.tmp 17,.tmp 23,.tmp 25],argTypes:=#[97,77,3] },some (16,true)⟩,
    ⟨some 27,.pick (.tmp 16) (.tmp 26) (.const (.bool false)),none⟩,
    ⟨some 5,.assign (.tmp 27),none⟩]
  [[],[],[],[2],[],[4],[1,3,5],[],[7],[0,6,8,6],[9,9],[10],[10],[10],[13,10],[10],[15,10],[12,14,16,10,10],[10],[18,10],[11,17,19,17,10],[10,20],[21,20,0,1,2,3,4,5,6,7,8,9,10,11,12,13,14,15,16,17,18,19,20,21]]
def s122:SCode:=(.seq q122_0 (.seq q122_1 .ret))
theorem s122_strip:Yh (Yi Tryd.f122)=s122:=by kernel_rfl
theorem s122_ok:Yx 28 (Yi Tryd.f122)=true:=by kernel_rfl
/-! 134: slices.stableCmpFunc[[2]int] -/
@[reducible] def q134_0:SCode:=.region [⟨some 6,.assign (.const (.int .i64 20)),none⟩]
@[reducible] def q134_1:SCode:=.region [⟨some 10,.move (.tmp 6),none⟩,
  ⟨some 7,.assign (.const (.int .i64 0)),none⟩,
  ⟨some 8,.assign (.tmp 10),none⟩]
@[reducible] def q134_2:SCode:=.region [⟨some 11,.move (.tmp 8),none⟩,
  ⟨some 12,.move (.tmp 1),none⟩,
  ⟨some 13,.binOp .leq 3 (.tmp 11) (.tmp 12) 3,none⟩]
@[reducible] def q134_3:SCode:=.region [⟨some 14,.move (.tmp 0),none⟩,
  ⟨some 15,.move (.tmp 7),none⟩,
  ⟨some 16,.move (.tmp 8),none⟩,
  ⟨some 17,.move (.tmp 2),none⟩,
  ⟨some 18,.call { callee:=.value (.func 141),args:=#[.tmp 14,.tmp 15,.tmp 16,.tmp 17],argTypes:=#[52,3,3,139] },none⟩]
@[reducible] def q134_4:SCode:=.region [⟨some 19,.move (.tmp 8),none⟩,
  ⟨some 7,.assign (.tmp 19),none⟩]
@[reducible] def q134_5:SCode:=.region [⟨some 20,.move (.tmp 8),none⟩,
  ⟨some 21,.move (.tmp 6),none⟩,
  ⟨some 22,.binOp .add 3 (.tmp 20) (.tmp 21) 3,none⟩,
  ⟨some 8,.assign (.tmp 22),none⟩]
def l134_0:SCode:=(.seq (.seq q134_2 (.cond (.tmp 13) .skip (.exit 0))) (.block 1 (.seq q134_3 (.seq q134_4 q134_5))))
@[reducible] def q134_6:SCode:=.region [⟨some 23,.move (.tmp 0),none⟩,
  ⟨some 24,.move (.tmp 7),none⟩,
  ⟨some 25,.move (.tmp 1),none⟩,
  ⟨some 26,.move (.tmp 2),none⟩,
  ⟨some 27,.call { callee:=.value (.func 141),args:=#[.tmp 23,.tmp 24,.tmp 25,.tmp 26],argTypes:=#[52,3,3,139] },none⟩]
@[reducible] def q134_7:SCode:=.region [⟨some 28,.move (.tmp 6),none⟩,
  ⟨some 29,.move (.tmp 1),none⟩,
  ⟨some 30,.binOp .lss 3 (.tmp 28) (.tmp 29) 3,none⟩]
@[reducible] def q134_8:SCode:=.region [⟨some 31,.move (.tmp 6),none⟩,
  ⟨some 32,.binOp .mul 3 (.const (.int .i64 2)) (.tmp 31) 3,none⟩,
  ⟨some 7,.assign (.const (.int .i64 0)),none⟩,
  ⟨some 8,.assign (.tmp 32),none⟩]
@[reducible] def q134_9:SCode:=.region [⟨some 33,.move (.tmp 8),none⟩,
  ⟨some 34,.move (.tmp 1),none⟩,
  ⟨some 35,.binOp .leq 3 (.tmp 33) (.tmp 34) 3,none⟩]
@[reducible] def q134_10:SCode:=.region [⟨some 36,.move (.tmp 0),none⟩,
  ⟨some 37,.move (.tmp 7),none⟩,
  ⟨some 38,.move (.tmp 7),none⟩,
  ⟨some 39,.move (.tmp 6),none⟩,
  ⟨some 40,.binOp .add 3 (.tmp 38) (.tmp 39) 3,none⟩,
  ⟨some 41,.move (.tmp 8),none⟩,
  ⟨some 42,.move (.tmp 2),none⟩,
  ⟨some 43,.call { callee:=.value (.func 142),args:=#[.tmp 36,.tmp 37,.tmp 40,.tmp 41,.tmp 42],argTypes:=#[52,3,3,3,139] },none⟩]
@[reducible] def q134_11:SCode:=.region [⟨some 44,.move (.tmp 8),none⟩,
  ⟨some 7,.assign (.tmp 44),none⟩]
@[reducible] def q134_12:SCode:=.region [⟨some 45,.move (.tmp 8),none⟩,
  ⟨some 46,.move (.tmp 6),none⟩,
  ⟨some 47,.binOp .mul 3 (.const (.int .i64 2)) (.tmp 46) 3,none⟩,
  ⟨some 48,.binOp .add 3 (.tmp 45) (.tmp 47) 3,none⟩,
  ⟨some 8,.assign (.tmp 48),none⟩]
def l134_1:SCode:=(.seq (.seq q134_9 (.cond (.tmp 35) .skip (.exit 4))) (.block 5 (.seq q134_10 (.seq q134_11 q134_12))))
@[reducible] def q134_13:SCode:=.region [⟨some 49,.move (.tmp 7),none⟩,
  ⟨some 50,.move (.tmp 6),none⟩,
  ⟨some 51,.binOp .add 3 (.tmp 49) (.tmp 50) 3,none⟩,
  ⟨some 9,.assign (.tmp 51),none⟩]
@[reducible] def q134_14:SCode:=.region [⟨some 52,.move (.tmp 9),none⟩,
  ⟨some 53,.move (.tmp 1),none⟩,
  ⟨some 54,.binOp .lss 3 (.tmp 52) (.tmp 53) 3,none⟩]
@[reducible] def q134_15:SCode:=.region [⟨some 55,.move (.tmp 0),none⟩,
  ⟨some 56,.move (.tmp 7),none⟩,
  ⟨some 57,.move (.tmp 9),none⟩,
  ⟨some 58,.move (.tmp 1),none⟩,
  ⟨some 59,.move (.tmp 2),none⟩,
  ⟨some 60,.call { callee:=.value (.func 142),args:=#[.tmp 55,.tmp 56,.tmp 57,.tmp 58,.tmp 59],argTypes:=#[52,3,3,3,139] },none⟩]
@[reducible] def q134_16:SCode:=.region [⟨some 61,.move (.tmp 6),none⟩,
  ⟨some 62,.binOp .mul 3 (.tmp 61) (.const (.int .i64 2)) 3,none⟩,
  ⟨some 6,.assign (.tmp 62),none⟩]
def l134_2:SCode:=(.seq (.seq q134_7 (.cond (.tmp 30) .skip (.exit 2))) (.block 3 (.seq q134_8 (.seq (.block 4 (.loop l134_1)) (.seq (.seq q134_13 (.seq q134_14 (.cond (.tmp 54) q134_15 .skip))) q134_16)))))
def s134:SCode:=(.seq q134_0 (.seq q134_1 (.seq (.block 0 (.loop l134_0)) (.seq q134_6 (.block 2 (.loop l134_2))))))
theorem s134_strip:Yh (Yi Tryd.f134)=s134:=by kernel_rfl
theorem s134_ok:Yx 63 (Yi Tryd.f134)=true:=by kernel_rfl
/-! 141: slices.insertionSortCmpFunc[[2]int] -/
@[reducible] def q141_0:SCode:=.region [⟨some 10,.move (.tmp 1),none⟩,
  ⟨some 11,.binOp .add 3 (.tmp 10) (.const (.int .i64 1)) 3,none⟩,
  ⟨some 8,.assign (.tmp 11),none⟩]
@[reducible] def q141_1:SCode:=.region [⟨some 12,.move (.tmp 8),none⟩,
  ⟨some 13,.move (.tmp 2),none⟩,
  ⟨some 14,.binOp .lss 3 (.tmp 12) (.tmp 13) 3,none⟩]
@[reducible] def q141_3:SCode:=.region [⟨some 17,.move (.tmp 8),none⟩,
  ⟨some 9,.assign (.tmp 17),none⟩]
def q141_4:SCode:=.draw [⟨some 18,.move (.tmp 9),none⟩,
    ⟨some 19,.move (.tmp 1),none⟩,
    ⟨some 20,.binOp .gtr 3 (.tmp 18) (.tmp 19) 3,none⟩,
    ⟨some 21,.move (.tmp 20),none⟩,
    ⟨some 22,.move (.tmp 3),some (21,true)⟩,
    ⟨some 23,.move (.tmp 0),some (21,true)⟩,
    ⟨some 24,.move (.tmp 9),some (21,true)⟩,
    ⟨some 25,.indexAddr 52 (.tmp 23) (.tmp 24),some (21,true)⟩,
    ⟨some 26,.load 33 (.tmp 25),some (21,true)⟩,
    ⟨some 27,.move (.tmp 0),some (21,true)⟩,
    ⟨some 28,.move (.tmp 9),some (21,true)⟩,
    ⟨some 29,.binOp .sub 3 (.tmp 28) (.const (.int .i64 1)) 3,some (21,true)⟩,
    ⟨some 30,.indexAddr 52 (.tmp 27) (.tmp 29),some (21,true)⟩,
    ⟨some 31,.load 33 (.tmp 30),some (21,true)⟩,
    ⟨some 32,.call { callee:=.value (.tmp 22),args:=#[.tmp 26,.tmp 31],argTypes:=#[33,33] },some (21,true)⟩,
    ⟨some 33,.binOp .lss 3 (.tmp 32) (.const (.int .i64 0)) 3,some (21,true)⟩,
    ⟨some 34,.pick (.tmp 21) (.tmp 33) (.const (.bool false)),none⟩]
  [[],[],[0,1],[2],[3],[3],[3],[5,6,3],[7,3],[3],[3],[10,3],[9,11,3],[12,3],[4,8,13,3,3],[14,3],[3,15]]
def q141_6:SCode:=.draw [⟨some 37,.move (.tmp 0),none⟩,
    ⟨some 38,.move (.tmp 9),none⟩,
    ⟨some 39,.move (.tmp 0),none⟩,
    ⟨some 40,.move (.tmp 9),none⟩,
    ⟨some 41,.binOp .sub 3 (.tmp 40) (.const (.int .i64 1)) 3,none⟩,
    ⟨some 42,.move (.tmp 0),none⟩,
    ⟨some 43,.move (.tmp 9),none⟩,
    ⟨some 44,.binOp .sub 3 (.tmp 43) (.const (.int .i64 1)) 3,none⟩,
    ⟨some 45,.indexAddr 52 (.tmp 42) (.tmp 44),none⟩,
    ⟨some 46,.load 33 (.tmp 45),none⟩,
    ⟨some 47,.move (.tmp 0),none⟩,
    ⟨some 48,.move (.tmp 9),none⟩,
    ⟨some 49,.indexAddr 52 (.tmp 47) (.tmp 48),none⟩,
    ⟨some 50,.load 33 (.tmp 49),none⟩,
    ⟨some 51,.indexAddr 52 (.tmp 37) (.tmp 38),none⟩,
    ⟨none,.store 33 (.tmp 51) (.tmp 46),none⟩,
    ⟨some 52,.indexAddr 52 (.tmp 39) (.tmp 41),none⟩,
    ⟨none,.store 33 (.tmp 52) (.tmp 50),none⟩]
  [[],[],[],[],[3],[],[],[6],[5,7],[8],[],[],[10,11],[12],[0,1,0,1,5,6,7,8,9,13],[14,9,0,1,5,6,7,8,9,13],[2,4,0,1,2,3,4,5,6,7,8,9,10,11,12,13,14,15],[16,13,15,0,1,2,3,4,5,6,7,8,9,10,11,12,13,14,15]]
@[reducible] def q141_5:SCode:=.region [⟨some 35,.move (.tmp 9),none⟩,
  ⟨some 36,.binOp .sub 3 (.tmp 35) (.const (.int .i64 1)) 3,none⟩,
  ⟨some 9,.assign (.tmp 36),none⟩]
def l141_0:SCode:=(.seq (.seq q141_4 (.cond (.tmp 34) .skip (.exit 2))) (.seq (.block 3 q141_6) q141_5))
@[reducible] def q141_2:SCode:=.region [⟨some 15,.move (.tmp 8),none⟩,
  ⟨some 16,.binOp .add 3 (.tmp 15) (.const (.int .i64 1)) 3,none⟩,
  ⟨some 8,.assign (.tmp 16),none⟩]
def l141_1:SCode:=(.seq (.seq q141_1 (.cond (.tmp 14) .skip (.exit 0))) (.seq (.block 1 (.seq q141_3 (.block 2 (.loop l141_0)))) q141_2))
def s141:SCode:=(.seq q141_0 (.block 0 (.loop l141_1)))
theorem s141_strip:Yh (Yi Tryd.f141)=s141:=by kernel_rfl
theorem s141_ok:Yx 53 (Yi Tryd.f141)=true:=by kernel_rfl
end Go.Proofs.Tryd.Am
namespace Go.Proofs.Tryd.Am
open Go.Am Ord
set_option maxRecDepth 100000
set_option maxHeartbeats 1000000
abbrev pV (p:Int×Int):Value:=.agg #[Zx p.1,Zx p.2]
def swP (L:List (Int×Int)) (j:Nat):List (Int×Int):=(L.set j (L.getD (j-1) (0,0))).set (j-1) (L.getD j (0,0))
theorem swP_perm {L:List (Int×Int)} {j:Nat} (h1:1≤j) (h2:j<L.length):(swP L j).Perm L:=by
 have:=Array.swap_perm (xs:=L.toArray) (i:=j) (j:=j-1) (by simpa using h2) (by simp; omega)
 rw [Array.perm_iff_toList_perm,Array.toList_swap] at this
 simpa [swP,List.getD,List.getElem?_eq_getElem h2,List.getElem?_eq_getElem (show j-1<L.length by omega)] using this
abbrev ovP (b n m:Nat):Value:=.slice (some ⟨b,0,some 0⟩) n (n+m)
theorem ovP_own {h:Yb} {b n:Nat} {L ys:List (Int×Int)} (hb:b<h.length) (hn:L.length=n):OwnP 33 (h.set b (.ints (Yw L++Yw ys) 33 false)) (ovP b n ys.length) L :=
 .inr ⟨b,ys,by rw [hn],Xm hb _⟩
theorem elemP_ovP (b n m i:Nat):Vj (ovP b n m) 2 i = .pointer (some ⟨b,i*2,none⟩):=by simp [Vj]
theorem ovP_load {h:Yb} {b n:Nat} {L ys:List (Int×Int)} {i:Nat} (hb:b<h.length) (hn:L.length=n) (hi:i<n) {K:Value→Prop} :
  Xw prog (h.set b (.ints (Yw L++Yw ys) 33 false)) 33 (.pointer (some ⟨b,i*2,none⟩)) K=K (pV (L.getD i (0,0))):=by
 have:=(ovP_own (h:=h) (b:=b) (n:=n) (L:=L) (ys:=ys) hb hn).pair.load shp_33 (i:=i) (by omega) K
 rw [elemP_ovP] at this
 exact this
theorem ovP_store {h:Yb} {b:Nat} {L ys:List (Int×Int)} {i:Nat} {p:Int×Int} (hb:b<h.length) (hi:i<L.length) {K:Yb→Prop} :
  Xv prog (h.set b (.ints (Yw L++Yw ys) 33 false)) 33 (.pointer (some ⟨b,i*2,none⟩)) (pV p) K=K (h.set b (.ints (Yw (L.set i p)++Yw ys) 33 false)):=by
 have:=storePI (P:=prog) (t:=33) (e:=33) (ps:=L) (x:=p.1) (y:=p.2) (i:=i) (ys:=Yw ys) (K:=K) (Xm hb _) shp_33 hi
 rw [List.set_set] at this
 exact this
theorem ovP_idx {b n m i:Nat} (hi:i<n) {K:Value→Prop}:Yq prog 52 (ovP b n m) (Zx (i:Nat)) K=K (.pointer (some ⟨b,i*2,none⟩)):=by
 simp only [Yq,el_52,esz_33,Int.natCast_nonneg,Int.toNat_natCast,Nat.zero_add,true_and,Int.ofNat_lt.2 hi]
theorem s141_callW [Tabs Tryd.prog] {args:List Value} {h:Yb} {Q:Value→Yb→Prop} (hsz:args.length≤53) (hk:AWS Tryd.prog 53 s141 (Zu Tryd.prog [] Q) (Zp 0 args) h):ACall Tryd.prog 141 args h Q :=
 Wn Tryd.func141 rfl (enters_of Tryd.func141 (by kernel_rfl) rfl) rfl rfl (by decide) s141_strip s141_ok hsz hk
theorem isortP_call [Tabs prog] {h:Yb} {b:Nat} {L0 ys:List (Int×Int)} {g:FuncId} {cap:Array Value} (hc : ∀ L x y,x∈L0→y∈L0→∃ r:Int,APure prog g ([pV x,pV y]++cap.toList) (h.set b (.ints (Yw L++Yw ys) 33 false)) (Zx r)) (hb:h[b]? = some (.ints (Yw L0++Yw ys) 33 false)) (hl:L0.length≤15) :
  ACall prog 141 [ovP b L0.length ys.length,.int .i64 0,Zx L0.length,.func (.func g) #[] cap] h fun _ h'=>∃ L:List (Int×Int),L.Perm L0∧h' = h.set b (.ints (Yw L++Yw ys) 33 false):=by
 have hlt:=Yg hb
 have h0:h=h.set b (.ints (Yw L0++Yw ys) 33 false):=by
  apply List.ext_getElem?
  intro i
  by_cases hi:b=i
  · subst hi; rw [Xm hlt,hb]
  · rw [List.getElem?_set_ne hi]
 obtain ⟨n,hn⟩ : ∃ n,L0.length=n:=⟨_,rfl⟩
 rw [hn] at hl ⊢
 refine s141_callW (by simp) ?_
 simp only [s141]
 have e01:addV .i64 0 1=1:=rfl
 refine Yc fun N1 hN1=>?_
 simp (maxSteps:=2000000) only [s141,↓Za,↓Zi,↓Zr,↓Ze,↓Zj,↓Zs,↓Zg,↓Zo,↓Zf,↓Zb,↓Zc,↓vdn,vup,Zm,Zk,Zn,Zl,Zh,List.map_cons,List.map_nil,cond_true,cond_false,aop,Zv,Zq,Zp,ev,sput,Zt,Zy,Ya,unK,Zd,Zw,Nat.reduceBEq,Nat.reduceAdd,Int.reduceBEq,Int.reduceBNe,Int.reduceLT,Zu,Zz,tup,tyf,e01]
 refine hN1 [(0,ovP b n ys.length),(1,.int .i64 0),(2,Zx n),(3,.func (.func g) #[] cap),(8,.int .i64 1)] _ _ ?_ (by simp (maxSteps:=2000000) only [↓Za,↓Zi,↓Zr,↓Ze,↓Zj,↓Zs,↓Zg,↓Zo,↓Zf,↓Zb,↓Zc,↓vdn,vup,Zm,Zk,Zn,Zl,Zh,List.map_cons,List.map_nil,cond_true,cond_false,aop,Zv,Zq,Zp,ev,sput,Zt,Zy,Ya,unK,Zd,Zw,Nat.reduceBEq,Nat.reduceAdd,Int.reduceBEq,Int.reduceBNe,Int.reduceLT,Zu,Zz,tup,tyf])
 clear hN1
 try clear N1
 refine Xp ?_
 refine Xf fun Q hQ=>?_
 refine Vi (γ:=Nat×List (Int×Int)) (fun s=>1≤s.1∧(s.1≤n∨s.1=1)∧s.2.Perm L0)
  (fun s=>([(0,ovP b n ys.length),(1,.int .i64 0),(2,Zx n),(3,.func (.func g) #[] cap),(8,Zx s.1)],h.set b (.ints (Yw s.2++Yw ys) 33 false))) (fun s=>n-s.1) (1,L0) ⟨Nat.le_refl _,.inr rfl,.refl _⟩ (by simp (maxSteps:=2000000) only [↓Za,↓Zi,↓Zr,↓Ze,↓Zj,↓Zs,↓Zg,↓Zo,↓Zf,↓Zb,↓Zc,↓vdn,vup,Zm,Zk,Zn,Zl,Zh,List.map_cons,List.map_nil,cond_true,cond_false,aop,Zv,Zq,Zp,ev,sput,Zt,Zy,Ya,unK,Zd,Zw,Nat.reduceBEq,Nat.reduceAdd,Int.reduceBEq,Int.reduceBNe,Int.reduceLT,Zu,Zz,tup,tyf,Int.natCast_one]) h0 ?_
 rintro ⟨i,L⟩ ⟨hi1,hi,hp⟩
 simp only at hi1 hi hp
 refine Xf fun Q2 hQ2=>?_
 simp only [l141_1]
 by_cases hin:(i:Int)<n
 · have hi' : i<n:=by omega
   refine Yc fun N2 hN2=>?_
   simp (maxSteps:=2000000) only [s141,↓Za,↓Zi,↓Zr,↓Ze,↓Zj,↓Zs,↓Zg,↓Zo,↓Zf,↓Zb,↓Zc,↓vdn,vup,Zm,Zk,Zn,Zl,Zh,List.map_cons,List.map_nil,cond_true,cond_false,aop,Zv,Zq,Zp,ev,sput,Zt,Zy,Ya,unK,Zd,Zw,Nat.reduceBEq,Nat.reduceAdd,Int.reduceBEq,Int.reduceBNe,Int.reduceLT,Zu,Zz,tup,tyf,hin]
   refine hN2 [(0,ovP b n ys.length),(1,.int .i64 0),(2,Zx n),(3,.func (.func g) #[] cap),(8,Zx i)] _ _ ?_ (by simp (maxSteps:=2000000) only [↓Za,↓Zi,↓Zr,↓Ze,↓Zj,↓Zs,↓Zg,↓Zo,↓Zf,↓Zb,↓Zc,↓vdn,vup,Zm,Zk,Zn,Zl,Zh,List.map_cons,List.map_nil,cond_true,cond_false,aop,Zv,Zq,Zp,ev,sput,Zt,Zy,Ya,unK,Zd,Zw,Nat.reduceBEq,Nat.reduceAdd,Int.reduceBEq,Int.reduceBNe,Int.reduceLT,Zu,Zz,tup,tyf])
   clear hN2
   try clear N2
   refine Ym fun M hM=>?_
   refine Xp ?_
   refine Yc fun N3 hN3=>?_
   simp (maxSteps:=2000000) only [s141,↓Za,↓Zi,↓Zr,↓Ze,↓Zj,↓Zs,↓Zg,↓Zo,↓Zf,↓Zb,↓Zc,↓vdn,vup,Zm,Zk,Zn,Zl,Zh,List.map_cons,List.map_nil,cond_true,cond_false,aop,Zv,Zq,Zp,ev,sput,Zt,Zy,Ya,unK,Zd,Zw,Nat.reduceBEq,Nat.reduceAdd,Int.reduceBEq,Int.reduceBNe,Int.reduceLT,Zu,Zz,tup,tyf]
   refine hN3 [(0,ovP b n ys.length),(1,.int .i64 0),(2,Zx n),(3,.func (.func g) #[] cap),(8,Zx i),(9,Zx i)] _ _ ?_ (by simp (maxSteps:=2000000) only [↓Za,↓Zi,↓Zr,↓Ze,↓Zj,↓Zs,↓Zg,↓Zo,↓Zf,↓Zb,↓Zc,↓vdn,vup,Zm,Zk,Zn,Zl,Zh,List.map_cons,List.map_nil,cond_true,cond_false,aop,Zv,Zq,Zp,ev,sput,Zt,Zy,Ya,unK,Zd,Zw,Nat.reduceBEq,Nat.reduceAdd,Int.reduceBEq,Int.reduceBNe,Int.reduceLT,Zu,Zz,tup,tyf])
   clear hN3
   try clear N3
   refine Xp ?_
   refine Xf fun Q3 hQ3=>?_
   refine Vi (γ:=Nat×List (Int×Int)) (fun s=>s.1≤i∧s.2.Perm L0)
    (fun s=>([(0,ovP b n ys.length),(1,.int .i64 0),(2,Zx n),(3,.func (.func g) #[] cap),(8,Zx i),(9,Zx s.1)],h.set b (.ints (Yw s.2++Yw ys) 33 false))) (fun s=>s.1) (i,L) ⟨Nat.le_refl _,hp⟩ (by simp (maxSteps:=2000000) only [↓Za,↓Zi,↓Zr,↓Ze,↓Zj,↓Zs,↓Zg,↓Zo,↓Zf,↓Zb,↓Zc,↓vdn,vup,Zm,Zk,Zn,Zl,Zh,List.map_cons,List.map_nil,cond_true,cond_false,aop,Zv,Zq,Zp,ev,sput,Zt,Zy,Ya,unK,Zd,Zw,Nat.reduceBEq,Nat.reduceAdd,Int.reduceBEq,Int.reduceBNe,Int.reduceLT,Zu,Zz,tup,tyf]) rfl ?_
   clear hp
   rintro ⟨j,L⟩ ⟨hj,hp⟩
   simp only at hj hp
   have hLn:L.length=n:=hp.length_eq.trans hn
   refine Xf fun Q4 hQ4=>?_
   simp only [l141_0]
   have fin : ∀ e,ELe e [(0,ovP b n ys.length),(1,.int .i64 0),(2,Zx n),(3,.func (.func g) #[] cap),(8,Zx i)]→M e (h.set b (.ints (Yw L++Yw ys) 33 false)):=by
    intro e he
    refine hM [(0,ovP b n ys.length),(1,.int .i64 0),(2,Zx n),(3,.func (.func g) #[] cap),(8,Zx i)] _ _ ?_ he
    refine Yf ?_
    simp (maxSteps:=2000000) only [s141,↓Za,↓Zi,↓Zr,↓Ze,↓Zj,↓Zs,↓Zg,↓Zo,↓Zf,↓Zb,↓Zc,↓vdn,vup,Zm,Zk,Zn,Zl,Zh,List.map_cons,List.map_nil,cond_true,cond_false,aop,Zv,Zq,Zp,ev,sput,Zt,Zy,Ya,unK,Zd,Zw,Nat.reduceBEq,Nat.reduceAdd,Int.reduceBEq,Int.reduceBNe,Int.reduceLT,Zu,Zz,tup,tyf,add1 (show i<9223372036854775807 by omega)]
    exact hQ2 _ _ _ ⟨(i+1,L),⟨by simp only; omega,.inl (by simp only; omega),hp⟩,by simp only; omega,by simp (maxSteps:=2000000) only [↓Za,↓Zi,↓Zr,↓Ze,↓Zj,↓Zs,↓Zg,↓Zo,↓Zf,↓Zb,↓Zc,↓vdn,vup,Zm,Zk,Zn,Zl,Zh,List.map_cons,List.map_nil,cond_true,cond_false,aop,Zv,Zq,Zp,ev,sput,Zt,Zy,Ya,unK,Zd,Zw,Nat.reduceBEq,Nat.reduceAdd,Int.reduceBEq,Int.reduceBNe,Int.reduceLT,Zu,Zz,tup,tyf],rfl⟩
   by_cases hj0:j=0
   · subst hj0
     refine Yc fun N4 hN4=>?_
     simp (maxSteps:=2000000) only [s141,↓Za,↓Zi,↓Zr,↓Ze,↓Zj,↓Zs,↓Zg,↓Zo,↓Zf,↓Zb,↓Zc,↓vdn,vup,Zm,Zk,Zn,Zl,Zh,List.map_cons,List.map_nil,cond_true,cond_false,aop,Zv,Zq,Zp,ev,sput,Zt,Zy,Ya,unK,Zd,Zw,Nat.reduceBEq,Nat.reduceAdd,Int.reduceBEq,Int.reduceBNe,Int.reduceLT,Zu,Zz,tup,tyf]
     refine Xs [(14,1)] (by kernel_rfl) (by kernel_rfl) (by kernel_rfl) (by kernel_rfl) ?_
     simp (maxSteps:=2000000) only [s141,↓Za,↓Zi,↓Zr,↓Ze,↓Zj,↓Zs,↓Zg,↓Zo,↓Zf,↓Zb,↓Zc,↓vdn,vup,Zm,Zk,Zn,Zl,Zh,List.map_cons,List.map_nil,cond_true,cond_false,aop,Zv,Zq,Zp,ev,sput,Zt,Zy,Ya,unK,Zd,Zw,Nat.reduceBEq,Nat.reduceAdd,Int.reduceBEq,Int.reduceBNe,Int.reduceLT,Zu,Zz,tup,tyf,gt_iff_lt,Int.natCast_zero,Int.lt_irrefl]
     refine hQ4 _ _ _ (hQ3 _ _ _ ?_)
     simp (maxSteps:=2000000) only [s141,↓Za,↓Zi,↓Zr,↓Ze,↓Zj,↓Zs,↓Zg,↓Zo,↓Zf,↓Zb,↓Zc,↓vdn,vup,Zm,Zk,Zn,Zl,Zh,List.map_cons,List.map_nil,cond_true,cond_false,aop,Zv,Zq,Zp,ev,sput,Zt,Zy,Ya,unK,Zd,Zw,Nat.reduceBEq,Nat.reduceAdd,Int.reduceBEq,Int.reduceBNe,Int.reduceLT,Zu,Zz,tup,tyf,if_true]
     exact fin _ (by simp (maxSteps:=2000000) only [↓Za,↓Zi,↓Zr,↓Ze,↓Zj,↓Zs,↓Zg,↓Zo,↓Zf,↓Zb,↓Zc,↓vdn,vup,Zm,Zk,Zn,Zl,Zh,List.map_cons,List.map_nil,cond_true,cond_false,aop,Zv,Zq,Zp,ev,sput,Zt,Zy,Ya,unK,Zd,Zw,Nat.reduceBEq,Nat.reduceAdd,Int.reduceBEq,Int.reduceBNe,Int.reduceLT,Zu,Zz,tup,tyf])
   · have hjp:(0:Int)<(j:Int):=by omega
     have hin1 : ∀ i,i<n→L.getD i (0,0)∈L0:=fun i hi=>hp.mem_iff.1 (by rw [List.getD,List.getElem?_eq_getElem (by omega),Option.getD_some]; exact List.getElem_mem _)
     obtain ⟨r,c1⟩:=hc L _ _ (hin1 j (by omega)) (hin1 (j-1) (by omega))
     have hsub:subV .i64 (j:Int) 1=((j-1:Nat):Int):=by rw [subV_id (by omega) (by omega)]; omega
     by_cases hneg:r<0
     · refine Yc fun N5 hN5=>?_
       simp (maxSteps:=2000000) only [s141,↓Za,↓Zi,↓Zr,↓Ze,↓Zj,↓Zs,↓Zg,↓Zo,↓Zf,↓Zb,↓Zc,↓vdn,vup,Zm,Zk,Zn,Zl,Zh,List.map_cons,List.map_nil,cond_true,cond_false,aop,Zv,Zq,Zp,ev,sput,Zt,Zy,Ya,unK,Zd,Zw,Nat.reduceBEq,Nat.reduceAdd,Int.reduceBEq,Int.reduceBNe,Int.reduceLT,Zu,Zz,tup,tyf]
       refine Xs [(14,1)] (by kernel_rfl) (by kernel_rfl) (by kernel_rfl) (by kernel_rfl) ?_
       simp (maxSteps:=2000000) only [s141,↓Za,↓Zi,↓Zr,↓Ze,↓Zj,↓Zs,↓Zg,↓Zo,↓Zf,↓Zb,↓Zc,↓vdn,vup,Zm,Zk,Zn,Zl,Zh,List.map_cons,List.map_nil,cond_true,cond_false,aop,Zv,Zq,Zp,ev,sput,Zt,Zy,Ya,unK,Zd,Zw,Nat.reduceBEq,Nat.reduceAdd,Int.reduceBEq,Int.reduceBNe,Int.reduceLT,Zu,Zz,tup,tyf,gt_iff_lt,hjp,hsub,ovP_idx (show j<n by omega),ovP_idx (show j-1<n by omega),ovP_load hlt hLn (show j<n by omega),ovP_load hlt hLn (show j-1<n by omega),Yr,List.nil_append,List.append_nil,List.toList_toArray,List.cons_append]
       refine ⟨_,_,c1,rfl,?_⟩
       simp (maxSteps:=2000000) only [s141,↓Za,↓Zi,↓Zr,↓Ze,↓Zj,↓Zs,↓Zg,↓Zo,↓Zf,↓Zb,↓Zc,↓vdn,vup,Zm,Zk,Zn,Zl,Zh,List.map_cons,List.map_nil,cond_true,cond_false,aop,Zv,Zq,Zp,ev,sput,Zt,Zy,Ya,unK,Zd,Zw,Nat.reduceBEq,Nat.reduceAdd,Int.reduceBEq,Int.reduceBNe,Int.reduceLT,Zu,Zz,tup,tyf,hneg,decide_true,decide_false]
       refine hN5 [(0,ovP b n ys.length),(1,.int .i64 0),(2,Zx n),(3,.func (.func g) #[] cap),(8,Zx i),(9,Zx j)] _ _ ?_ (by simp (maxSteps:=2000000) only [↓Za,↓Zi,↓Zr,↓Ze,↓Zj,↓Zs,↓Zg,↓Zo,↓Zf,↓Zb,↓Zc,↓vdn,vup,Zm,Zk,Zn,Zl,Zh,List.map_cons,List.map_nil,cond_true,cond_false,aop,Zv,Zq,Zp,ev,sput,Zt,Zy,Ya,unK,Zd,Zw,Nat.reduceBEq,Nat.reduceAdd,Int.reduceBEq,Int.reduceBNe,Int.reduceLT,Zu,Zz,tup,tyf])
       clear hN5
       try clear N5
       refine Yf ?_
       simp (maxSteps:=2000000) only [s141,↓Za,↓Zi,↓Zr,↓Ze,↓Zj,↓Zs,↓Zg,↓Zo,↓Zf,↓Zb,↓Zc,↓vdn,vup,Zm,Zk,Zn,Zl,Zh,List.map_cons,List.map_nil,cond_true,cond_false,aop,Zv,Zq,Zp,ev,sput,Zt,Zy,Ya,unK,Zd,Zw,Nat.reduceBEq,Nat.reduceAdd,Int.reduceBEq,Int.reduceBNe,Int.reduceLT,Zu,Zz,tup,tyf]
       refine Xs [] (by kernel_rfl) (by kernel_rfl) (by kernel_rfl) (by kernel_rfl) ?_
       have hjL:j<L.length:=by omega
       simp (maxSteps:=2000000) only [s141,↓Za,↓Zi,↓Zr,↓Ze,↓Zj,↓Zs,↓Zg,↓Zo,↓Zf,↓Zb,↓Zc,↓vdn,vup,Zm,Zk,Zn,Zl,Zh,List.map_cons,List.map_nil,cond_true,cond_false,aop,Zv,Zq,Zp,ev,sput,Zt,Zy,Ya,unK,Zd,Zw,Nat.reduceBEq,Nat.reduceAdd,Int.reduceBEq,Int.reduceBNe,Int.reduceLT,Zu,Zz,tup,tyf,hsub,ovP_idx (show j<n by omega),ovP_idx (show j-1<n by omega),ovP_load hlt hLn (show j<n by omega),ovP_load hlt hLn (show j-1<n by omega),ovP_store hlt hjL,ovP_store hlt (show j-1<(L.set j (L.getD (j-1) (0,0))).length by rw [List.length_set]; omega)]
       refine hQ4 _ _ _ ⟨(j-1,swP L j),⟨by simp only; omega,(swP_perm (by omega) hjL).trans hp⟩,by simp only; omega,by simp (maxSteps:=2000000) only [↓Za,↓Zi,↓Zr,↓Ze,↓Zj,↓Zs,↓Zg,↓Zo,↓Zf,↓Zb,↓Zc,↓vdn,vup,Zm,Zk,Zn,Zl,Zh,List.map_cons,List.map_nil,cond_true,cond_false,aop,Zv,Zq,Zp,ev,sput,Zt,Zy,Ya,unK,Zd,Zw,Nat.reduceBEq,Nat.reduceAdd,Int.reduceBEq,Int.reduceBNe,Int.reduceLT,Zu,Zz,tup,tyf],rfl⟩
     · refine Yc fun N6 hN6=>?_
       simp (maxSteps:=2000000) only [s141,↓Za,↓Zi,↓Zr,↓Ze,↓Zj,↓Zs,↓Zg,↓Zo,↓Zf,↓Zb,↓Zc,↓vdn,vup,Zm,Zk,Zn,Zl,Zh,List.map_cons,List.map_nil,cond_true,cond_false,aop,Zv,Zq,Zp,ev,sput,Zt,Zy,Ya,unK,Zd,Zw,Nat.reduceBEq,Nat.reduceAdd,Int.reduceBEq,Int.reduceBNe,Int.reduceLT,Zu,Zz,tup,tyf]
       refine Xs [(14,1)] (by kernel_rfl) (by kernel_rfl) (by kernel_rfl) (by kernel_rfl) ?_
       simp (maxSteps:=2000000) only [s141,↓Za,↓Zi,↓Zr,↓Ze,↓Zj,↓Zs,↓Zg,↓Zo,↓Zf,↓Zb,↓Zc,↓vdn,vup,Zm,Zk,Zn,Zl,Zh,List.map_cons,List.map_nil,cond_true,cond_false,aop,Zv,Zq,Zp,ev,sput,Zt,Zy,Ya,unK,Zd,Zw,Nat.reduceBEq,Nat.reduceAdd,Int.reduceBEq,Int.reduceBNe,Int.reduceLT,Zu,Zz,tup,tyf,gt_iff_lt,hjp,hsub,ovP_idx (show j<n by omega),ovP_idx (show j-1<n by omega),ovP_load hlt hLn (show j<n by omega),ovP_load hlt hLn (show j-1<n by omega),Yr,List.nil_append,List.append_nil,List.toList_toArray,List.cons_append]
       refine ⟨_,_,c1,rfl,?_⟩
       simp (maxSteps:=2000000) only [s141,↓Za,↓Zi,↓Zr,↓Ze,↓Zj,↓Zs,↓Zg,↓Zo,↓Zf,↓Zb,↓Zc,↓vdn,vup,Zm,Zk,Zn,Zl,Zh,List.map_cons,List.map_nil,cond_true,cond_false,aop,Zv,Zq,Zp,ev,sput,Zt,Zy,Ya,unK,Zd,Zw,Nat.reduceBEq,Nat.reduceAdd,Int.reduceBEq,Int.reduceBNe,Int.reduceLT,Zu,Zz,tup,tyf,hneg,decide_true,decide_false]
       refine hQ4 _ _ _ (hQ3 _ _ _ ?_)
       simp (maxSteps:=2000000) only [s141,↓Za,↓Zi,↓Zr,↓Ze,↓Zj,↓Zs,↓Zg,↓Zo,↓Zf,↓Zb,↓Zc,↓vdn,vup,Zm,Zk,Zn,Zl,Zh,List.map_cons,List.map_nil,cond_true,cond_false,aop,Zv,Zq,Zp,ev,sput,Zt,Zy,Ya,unK,Zd,Zw,Nat.reduceBEq,Nat.reduceAdd,Int.reduceBEq,Int.reduceBNe,Int.reduceLT,Zu,Zz,tup,tyf,if_true]
       exact fin _ (by simp (maxSteps:=2000000) only [↓Za,↓Zi,↓Zr,↓Ze,↓Zj,↓Zs,↓Zg,↓Zo,↓Zf,↓Zb,↓Zc,↓vdn,vup,Zm,Zk,Zn,Zl,Zh,List.map_cons,List.map_nil,cond_true,cond_false,aop,Zv,Zq,Zp,ev,sput,Zt,Zy,Ya,unK,Zd,Zw,Nat.reduceBEq,Nat.reduceAdd,Int.reduceBEq,Int.reduceBNe,Int.reduceLT,Zu,Zz,tup,tyf])
 · refine Yc fun M hM=>?_
   simp (maxSteps:=2000000) only [s141,↓Za,↓Zi,↓Zr,↓Ze,↓Zj,↓Zs,↓Zg,↓Zo,↓Zf,↓Zb,↓Zc,↓vdn,vup,Zm,Zk,Zn,Zl,Zh,List.map_cons,List.map_nil,cond_true,cond_false,aop,Zv,Zq,Zp,ev,sput,Zt,Zy,Ya,unK,Zd,Zw,Nat.reduceBEq,Nat.reduceAdd,Int.reduceBEq,Int.reduceBNe,Int.reduceLT,Zu,Zz,tup,tyf,hin]
   refine hQ2 _ _ _ (hQ _ _ _ ?_)
   simp (maxSteps:=2000000) only [s141,↓Za,↓Zi,↓Zr,↓Ze,↓Zj,↓Zs,↓Zg,↓Zo,↓Zf,↓Zb,↓Zc,↓vdn,vup,Zm,Zk,Zn,Zl,Zh,List.map_cons,List.map_nil,cond_true,cond_false,aop,Zv,Zq,Zp,ev,sput,Zt,Zy,Ya,unK,Zd,Zw,Nat.reduceBEq,Nat.reduceAdd,Int.reduceBEq,Int.reduceBNe,Int.reduceLT,Zu,Zz,tup,tyf,if_true]
   exact ⟨L,hp,rfl⟩
theorem s134_callW [Tabs Tryd.prog] {args:List Value} {h:Yb} {Q:Value→Yb→Prop} (hsz:args.length≤63) (hk:AWS Tryd.prog 63 s134 (Zu Tryd.prog [] Q) (Zp 0 args) h):ACall Tryd.prog 134 args h Q :=
 Wn Tryd.func134 rfl (enters_of Tryd.func134 (by kernel_rfl) rfl) rfl rfl (by decide) s134_strip s134_ok hsz hk
theorem stableP_call [Tabs prog] {h:Yb} {b:Nat} {L0 ys:List (Int×Int)} {g:FuncId} {cap:Array Value} (hc : ∀ L x y,x∈L0→y∈L0→∃ r:Int,APure prog g ([pV x,pV y]++cap.toList) (h.set b (.ints (Yw L++Yw ys) 33 false)) (Zx r)) (hb:h[b]? = some (.ints (Yw L0++Yw ys) 33 false)) (hl:L0.length≤15) :
  ACall prog 134 [ovP b L0.length ys.length,Zx L0.length,.func (.func g) #[] cap] h fun _ h'=>∃ L:List (Int×Int),L.Perm L0∧h' = h.set b (.ints (Yw L++Yw ys) 33 false):=by
 have n20 : ¬ (20:Int)≤(L0.length:Int):=by omega
 have n20' : ¬ (20:Int)<(L0.length:Int):=by omega
 refine s134_callW (by simp) ?_
 simp only [s134]
 refine Yc fun N7 hN7=>?_
 simp (maxSteps:=2000000) only [s134,↓Za,↓Zi,↓Zr,↓Ze,↓Zj,↓Zs,↓Zg,↓Zo,↓Zf,↓Zb,↓Zc,↓vdn,vup,Zm,Zk,Zn,Zl,Zh,List.map_cons,List.map_nil,cond_true,cond_false,aop,Zv,Zq,Zp,ev,sput,Zt,Zy,Ya,unK,Zd,Zw,Nat.reduceBEq,Nat.reduceAdd,Int.reduceBEq,Int.reduceBNe,Int.reduceLT,Zu,Zz,tup,tyf]
 refine hN7 [(0,ovP b L0.length ys.length),(1,Zx L0.length),(2,.func (.func g) #[] cap),(6,.int .i64 20)] _ _ ?_ (by simp (maxSteps:=2000000) only [↓Za,↓Zi,↓Zr,↓Ze,↓Zj,↓Zs,↓Zg,↓Zo,↓Zf,↓Zb,↓Zc,↓vdn,vup,Zm,Zk,Zn,Zl,Zh,List.map_cons,List.map_nil,cond_true,cond_false,aop,Zv,Zq,Zp,ev,sput,Zt,Zy,Ya,unK,Zd,Zw,Nat.reduceBEq,Nat.reduceAdd,Int.reduceBEq,Int.reduceBNe,Int.reduceLT,Zu,Zz,tup,tyf])
 clear hN7
 try clear N7
 refine Yc fun N8 hN8=>?_
 simp (maxSteps:=2000000) only [s134,↓Za,↓Zi,↓Zr,↓Ze,↓Zj,↓Zs,↓Zg,↓Zo,↓Zf,↓Zb,↓Zc,↓vdn,vup,Zm,Zk,Zn,Zl,Zh,List.map_cons,List.map_nil,cond_true,cond_false,aop,Zv,Zq,Zp,ev,sput,Zt,Zy,Ya,unK,Zd,Zw,Nat.reduceBEq,Nat.reduceAdd,Int.reduceBEq,Int.reduceBNe,Int.reduceLT,Zu,Zz,tup,tyf]
 refine hN8 [(0,ovP b L0.length ys.length),(1,Zx L0.length),(2,.func (.func g) #[] cap),(6,.int .i64 20),(7,.int .i64 0),(8,.int .i64 20)] _ _ ?_ (by simp (maxSteps:=2000000) only [↓Za,↓Zi,↓Zr,↓Ze,↓Zj,↓Zs,↓Zg,↓Zo,↓Zf,↓Zb,↓Zc,↓vdn,vup,Zm,Zk,Zn,Zl,Zh,List.map_cons,List.map_nil,cond_true,cond_false,aop,Zv,Zq,Zp,ev,sput,Zt,Zy,Ya,unK,Zd,Zw,Nat.reduceBEq,Nat.reduceAdd,Int.reduceBEq,Int.reduceBNe,Int.reduceLT,Zu,Zz,tup,tyf])
 clear hN8
 try clear N8
 refine Ym fun M hM=>?_
 refine Xp ?_
 refine Xf fun Q hQ=>?_
 refine Vi (γ:=Unit) (fun _=>True) (fun _=>([(0,ovP b L0.length ys.length),(1,Zx L0.length),(2,.func (.func g) #[] cap),(6,.int .i64 20),(7,.int .i64 0),(8,.int .i64 20)],h)) (fun _=>0) () trivial (by simp (maxSteps:=2000000) only [↓Za,↓Zi,↓Zr,↓Ze,↓Zj,↓Zs,↓Zg,↓Zo,↓Zf,↓Zb,↓Zc,↓vdn,vup,Zm,Zk,Zn,Zl,Zh,List.map_cons,List.map_nil,cond_true,cond_false,aop,Zv,Zq,Zp,ev,sput,Zt,Zy,Ya,unK,Zd,Zw,Nat.reduceBEq,Nat.reduceAdd,Int.reduceBEq,Int.reduceBNe,Int.reduceLT,Zu,Zz,tup,tyf]) rfl ?_
 rintro _ _
 refine Xf fun Q2 hQ2=>?_
 simp only [l134_0]
 refine Yc fun N9 hN9=>?_
 simp (maxSteps:=2000000) only [s134,↓Za,↓Zi,↓Zr,↓Ze,↓Zj,↓Zs,↓Zg,↓Zo,↓Zf,↓Zb,↓Zc,↓vdn,vup,Zm,Zk,Zn,Zl,Zh,List.map_cons,List.map_nil,cond_true,cond_false,aop,Zv,Zq,Zp,ev,sput,Zt,Zy,Ya,unK,Zd,Zw,Nat.reduceBEq,Nat.reduceAdd,Int.reduceBEq,Int.reduceBNe,Int.reduceLT,Zu,Zz,tup,tyf,n20]
 refine hQ2 _ _ _ (hQ _ _ _ ?_)
 simp (maxSteps:=2000000) only [s134,↓Za,↓Zi,↓Zr,↓Ze,↓Zj,↓Zs,↓Zg,↓Zo,↓Zf,↓Zb,↓Zc,↓vdn,vup,Zm,Zk,Zn,Zl,Zh,List.map_cons,List.map_nil,cond_true,cond_false,aop,Zv,Zq,Zp,ev,sput,Zt,Zy,Ya,unK,Zd,Zw,Nat.reduceBEq,Nat.reduceAdd,Int.reduceBEq,Int.reduceBNe,Int.reduceLT,Zu,Zz,tup,tyf,if_true]
 refine hM [(0,ovP b L0.length ys.length),(1,Zx L0.length),(2,.func (.func g) #[] cap),(6,.int .i64 20),(7,.int .i64 0),(8,.int .i64 20)] _ _ ?_ (by simp (maxSteps:=2000000) only [↓Za,↓Zi,↓Zr,↓Ze,↓Zj,↓Zs,↓Zg,↓Zo,↓Zf,↓Zb,↓Zc,↓vdn,vup,Zm,Zk,Zn,Zl,Zh,List.map_cons,List.map_nil,cond_true,cond_false,aop,Zv,Zq,Zp,ev,sput,Zt,Zy,Ya,unK,Zd,Zw,Nat.reduceBEq,Nat.reduceAdd,Int.reduceBEq,Int.reduceBNe,Int.reduceLT,Zu,Zz,tup,tyf])
 clear hM
 try clear M
 refine Yc fun N10 hN10=>?_
 simp (maxSteps:=2000000) only [s134,↓Za,↓Zi,↓Zr,↓Ze,↓Zj,↓Zs,↓Zg,↓Zo,↓Zf,↓Zb,↓Zc,↓vdn,vup,Zm,Zk,Zn,Zl,Zh,List.map_cons,List.map_nil,cond_true,cond_false,aop,Zv,Zq,Zp,ev,sput,Zt,Zy,Ya,unK,Zd,Zw,Nat.reduceBEq,Nat.reduceAdd,Int.reduceBEq,Int.reduceBNe,Int.reduceLT,Zu,Zz,tup,tyf,Yr,List.nil_append,List.append_nil,List.toList_toArray,List.cons_append]
 refine (isortP_call hc hb hl).mono ?_
 rintro r h' hr
 refine hN10 [(0,ovP b L0.length ys.length),(1,Zx L0.length),(2,.func (.func g) #[] cap),(6,.int .i64 20),(7,.int .i64 0),(8,.int .i64 20)] _ _ ?_ (by simp (maxSteps:=2000000) only [↓Za,↓Zi,↓Zr,↓Ze,↓Zj,↓Zs,↓Zg,↓Zo,↓Zf,↓Zb,↓Zc,↓vdn,vup,Zm,Zk,Zn,Zl,Zh,List.map_cons,List.map_nil,cond_true,cond_false,aop,Zv,Zq,Zp,ev,sput,Zt,Zy,Ya,unK,Zd,Zw,Nat.reduceBEq,Nat.reduceAdd,Int.reduceBEq,Int.reduceBNe,Int.reduceLT,Zu,Zz,tup,tyf])
 clear hN10
 try clear N10
 refine Xp ?_
 refine Xf fun Q hQ=>?_
 refine Vi (γ:=Unit) (fun _=>True) (fun _=>([(0,ovP b L0.length ys.length),(1,Zx L0.length),(2,.func (.func g) #[] cap),(6,.int .i64 20),(7,.int .i64 0),(8,.int .i64 20)],h')) (fun _=>0) () trivial (by simp (maxSteps:=2000000) only [↓Za,↓Zi,↓Zr,↓Ze,↓Zj,↓Zs,↓Zg,↓Zo,↓Zf,↓Zb,↓Zc,↓vdn,vup,Zm,Zk,Zn,Zl,Zh,List.map_cons,List.map_nil,cond_true,cond_false,aop,Zv,Zq,Zp,ev,sput,Zt,Zy,Ya,unK,Zd,Zw,Nat.reduceBEq,Nat.reduceAdd,Int.reduceBEq,Int.reduceBNe,Int.reduceLT,Zu,Zz,tup,tyf]) rfl ?_
 rintro _ _
 refine Xf fun Q2 hQ2=>?_
 simp only [l134_2]
 refine Yc fun N11 hN11=>?_
 simp (maxSteps:=2000000) only [s134,↓Za,↓Zi,↓Zr,↓Ze,↓Zj,↓Zs,↓Zg,↓Zo,↓Zf,↓Zb,↓Zc,↓vdn,vup,Zm,Zk,Zn,Zl,Zh,List.map_cons,List.map_nil,cond_true,cond_false,aop,Zv,Zq,Zp,ev,sput,Zt,Zy,Ya,unK,Zd,Zw,Nat.reduceBEq,Nat.reduceAdd,Int.reduceBEq,Int.reduceBNe,Int.reduceLT,Zu,Zz,tup,tyf,n20']
 refine hQ2 _ _ _ (hQ _ _ _ ?_)
 simp (maxSteps:=2000000) only [s134,↓Za,↓Zi,↓Zr,↓Ze,↓Zj,↓Zs,↓Zg,↓Zo,↓Zf,↓Zb,↓Zc,↓vdn,vup,Zm,Zk,Zn,Zl,Zh,List.map_cons,List.map_nil,cond_true,cond_false,aop,Zv,Zq,Zp,ev,sput,Zt,Zy,Ya,unK,Zd,Zw,Nat.reduceBEq,Nat.reduceAdd,Int.reduceBEq,Int.reduceBNe,Int.reduceLT,Zu,Zz,tup,tyf,if_true]
 exact hr
theorem s120_callW [Tabs Tryd.prog] {args:List Value} {h:Yb} {Q:Value→Yb→Prop} (hsz:args.length≤9) (hk:AWS Tryd.prog 9 s120 (Zu Tryd.prog [] Q) (Zp 0 args) h):ACall Tryd.prog 120 args h Q :=
 Wn Tryd.func120 rfl (enters_of Tryd.func120 (by kernel_rfl) rfl) rfl rfl (by decide) s120_strip s120_ok hsz hk
theorem sortP_call [Tabs prog] {h:Yb} {b:Nat} {L0 ys:List (Int×Int)} {g:FuncId} {cap:Array Value} (hc : ∀ L x y,x∈L0→y∈L0→∃ r:Int,APure prog g ([pV x,pV y]++cap.toList) (h.set b (.ints (Yw L++Yw ys) 33 false)) (Zx r)) (hb:h[b]? = some (.ints (Yw L0++Yw ys) 33 false)) (hl:L0.length≤15) :
  ACall prog 120 [ovP b L0.length ys.length,.func (.func g) #[] cap] h fun _ h'=>∃ L:List (Int×Int),L.Perm L0∧h' = h.set b (.ints (Yw L++Yw ys) 33 false):=by
 refine s120_callW (by simp) ?_
 refine Yf ?_
 simp (maxSteps:=2000000) only [s120,↓Za,↓Zi,↓Zr,↓Ze,↓Zj,↓Zs,↓Zg,↓Zo,↓Zf,↓Zb,↓Zc,↓vdn,vup,Zm,Zk,Zn,Zl,Zh,List.map_cons,List.map_nil,cond_true,cond_false,aop,Zv,Zq,Zp,ev,sput,Zt,Zy,Ya,unK,Zd,Zw,Nat.reduceBEq,Nat.reduceAdd,Int.reduceBEq,Int.reduceBNe,Int.reduceLT,Zu,Zz,tup,tyf,Yr,List.nil_append,List.append_nil,List.toList_toArray,List.cons_append,lenK]
 refine (stableP_call hc hb hl).mono ?_
 rintro r h' hr
 exact hr
end Go.Proofs.Tryd.Am
namespace Go.Proofs.Tryd.Am
open Go.Am
set_option maxRecDepth 100000
/-! 8: planchet planchetlaw07.OrderClosed -/
@[reducible] def q8_0:SCode:=.region [⟨some 8,.assign (.const (.bool false)),none⟩]
@[reducible] def q8_1:SCode:=.region [⟨some 21,.move (.tmp 0),none⟩,
  ⟨some 22,.move (.tmp 1),none⟩,
  ⟨some 23,.call { callee:=.value (.func 37),args:=#[.tmp 22],argTypes:=#[52] },none⟩,
  ⟨some 24,.call { callee:=.value (.func 36),args:=#[.tmp 21,.tmp 23],argTypes:=#[3,52] },none⟩,
  ⟨some 20,.move (.tmp 24),none⟩,
  ⟨some 25,.extract (.tmp 20) 0,none⟩,
  ⟨some 26,.extract (.tmp 20) 1,none⟩,
  ⟨some 9,.assign (.tmp 25),none⟩,
  ⟨some 10,.assign (.tmp 26),none⟩]
@[reducible] def q8_2:SCode:=.region [⟨some 27,.move (.tmp 10),none⟩,
  ⟨some 28,.binOp .neq 23 (.tmp 27) (.const (.int .i64 0)) 23,none⟩,
  ⟨some 29,.move (.tmp 28),none⟩,
  ⟨some 30,.move (.tmp 0),some (29,false)⟩,
  ⟨some 31,.move (.tmp 1),some (29,false)⟩,
  ⟨some 32,.call { callee:=.value (.func 38),args:=#[.tmp 30,.tmp 31],argTypes:=#[3,52] },some (29,false)⟩,
  ⟨some 33,.unOp .not 4 (.tmp 32),some (29,false)⟩,
  ⟨some 34,.pick (.tmp 29) (.const (.bool true)) (.tmp 33),none⟩]
@[reducible] def q8_3:SCode:=.region [⟨some 35,.move (.tmp 10),none⟩,
  ⟨some 36,.binOp .eql 23 (.tmp 35) (.const (.int .i64 2)) 23,none⟩,
  ⟨some 37,.move (.tmp 36),none⟩,
  ⟨some 38,.move (.tmp 10),some (37,false)⟩,
  ⟨some 39,.binOp .eql 23 (.tmp 38) (.const (.int .i64 4)) 23,some (37,false)⟩,
  ⟨some 40,.pick (.tmp 37) (.const (.bool true)) (.tmp 39),none⟩,
  ⟨some 41,.move (.tmp 40),none⟩,
  ⟨some 42,.call { callee:=.value (.func 20),args:=#[],argTypes:=#[] },some (41,true)⟩,
  ⟨some 43,.pick (.tmp 41) (.tmp 42) (.const (.bool false)),none⟩,
  ⟨some 8,.assign (.tmp 43),none⟩]
@[reducible] def q8_4:SCode:=.region [⟨some 44,.move (.tmp 9),none⟩,
  ⟨some 45,.call { callee:=.value (.func 19),args:=#[.tmp 44],argTypes:=#[22] },none⟩,
  ⟨some 46,.unOp .not 4 (.tmp 45),none⟩,
  ⟨some 47,.move (.tmp 46),none⟩,
  ⟨some 48,.move (.tmp 9),some (47,false)⟩,
  ⟨some 49,.call { callee:=.builtin .len,args:=#[.tmp 48],argTypes:=#[22] },some (47,false)⟩,
  ⟨some 50,.move (.tmp 0),some (47,false)⟩,
  ⟨some 51,.binOp .neq 3 (.tmp 49) (.tmp 50) 3,some (47,false)⟩,
  ⟨some 52,.pick (.tmp 47) (.const (.bool true)) (.tmp 51),none⟩]
@[reducible] def q8_5:SCode:=.region [⟨some 8,.assign (.const (.bool false)),none⟩]
@[reducible] def q8_6:SCode:=.region [⟨some 53,.move (.tmp 1),none⟩,
  ⟨some 54,.call { callee:=.builtin .len,args:=#[.tmp 53],argTypes:=#[52] },none⟩,
  ⟨some 55,.move (.const (.int .i64 0)),none⟩]
@[reducible] def q8_7:SCode:=.region [⟨some 56,.binOp .lss 3 (.tmp 55) (.tmp 54) 3,none⟩]
@[reducible] def q8_8:SCode:=.region [⟨some 57,.indexAddr 52 (.tmp 53) (.tmp 55),none⟩,
  ⟨some 58,.load 33 (.tmp 57),none⟩,
  ⟨some 12,.alloc 33,none⟩,
  ⟨none,.store 33 (.tmp 12) (.tmp 58),none⟩]
def q8_9:SCode:=.draw [⟨some 59,.move (.tmp 9),none⟩,
    ⟨some 60,.indexAddr 33 (.tmp 12) (.const (.int .i64 0)),none⟩,
    ⟨some 61,.load 3 (.tmp 60),none⟩,
    ⟨some 62,.indexAddr 22 (.tmp 59) (.tmp 61),none⟩,
    ⟨some 63,.load 3 (.tmp 62),none⟩,
    ⟨some 64,.indexAddr 33 (.tmp 12) (.const (.int .i64 1)),none⟩,
    ⟨some 65,.load 3 (.tmp 64),none⟩,
    ⟨some 66,.binOp .shr 3 (.tmp 63) (.tmp 65) 3,none⟩,
    ⟨some 67,.binOp .and 3 (.tmp 66) (.const (.int .i64 1)) 3,none⟩,
    ⟨some 68,.binOp .eql 3 (.tmp 67) (.const (.int .i64 0)) 3,none⟩]
  [[],[],[1],[0,2],[3],[],[5],[4,6],[7],[8]]
@[reducible] def q8_10:SCode:=.region [⟨some 8,.assign (.const (.bool false)),none⟩]
@[reducible] def q8_11:SCode:=.region [⟨some 69,.binOp .add 3 (.tmp 55) (.const (.int .i64 1)) 3,none⟩,
  ⟨some 55,.move (.tmp 69),none⟩]
def l8_0:SCode:=(.seq q8_7 (.seq (.cond (.tmp 56) .skip (.exit 0)) (.seq (.block 1 (.seq q8_8 (.seq q8_9 (.cond (.tmp 68) (.seq q8_10 .ret) .skip)))) q8_11)))
@[reducible] def q8_12:SCode:=.region [⟨some 13,.assign (.const (.slice none 0 0)),none⟩]
@[reducible] def q8_13:SCode:=.region [⟨some 70,.move (.tmp 9),none⟩,
  ⟨some 71,.call { callee:=.builtin .len,args:=#[.tmp 70],argTypes:=#[22] },none⟩,
  ⟨some 72,.move (.const (.int .i64 0)),none⟩]
@[reducible] def q8_14:SCode:=.region [⟨some 73,.binOp .lss 3 (.tmp 72) (.tmp 71) 3,none⟩]
@[reducible] def q8_15:SCode:=.region [⟨some 74,.move (.tmp 72),none⟩,
  ⟨some 14,.assign (.tmp 74),none⟩]
@[reducible] def q8_16:SCode:=.region [⟨some 75,.move (.tmp 9),none⟩,
  ⟨some 76,.call { callee:=.builtin .len,args:=#[.tmp 75],argTypes:=#[22] },none⟩,
  ⟨some 77,.move (.const (.int .i64 0)),none⟩]
@[reducible] def q8_17:SCode:=.region [⟨some 78,.binOp .lss 3 (.tmp 77) (.tmp 76) 3,none⟩]
@[reducible] def q8_18:SCode:=.region [⟨some 79,.move (.tmp 77),none⟩,
  ⟨some 15,.assign (.tmp 79),none⟩]
@[reducible] def q8_19:SCode:=.region [⟨some 80,.move (.tmp 9),none⟩,
  ⟨some 81,.move (.tmp 14),none⟩,
  ⟨some 82,.indexAddr 22 (.tmp 80) (.tmp 81),none⟩,
  ⟨some 83,.load 3 (.tmp 82),none⟩,
  ⟨some 84,.move (.tmp 15),none⟩,
  ⟨some 85,.binOp .shr 3 (.tmp 83) (.tmp 84) 3,none⟩,
  ⟨some 86,.binOp .and 3 (.tmp 85) (.const (.int .i64 1)) 3,none⟩,
  ⟨some 87,.binOp .eql 3 (.tmp 86) (.const (.int .i64 1)) 3,none⟩]
@[reducible] def q8_20:SCode:=.region [⟨some 88,.move (.tmp 13),none⟩,
  ⟨some 89,.move (.tmp 14),none⟩,
  ⟨some 90,.move (.tmp 15),none⟩,
  ⟨some 91,.build 33 #[(0,.tmp 89),(1,.tmp 90)],none⟩,
  ⟨some 92,.buildSlice 52 1 #[(0,.tmp 91)],none⟩,
  ⟨some 93,.call { callee:=.builtin .append,args:=#[.tmp 88,.tmp 92],argTypes:=#[52,52] },none⟩,
  ⟨some 13,.assign (.tmp 93),none⟩]
@[reducible] def q8_21:SCode:=.region [⟨some 94,.binOp .add 3 (.tmp 77) (.const (.int .i64 1)) 3,none⟩,
  ⟨some 77,.move (.tmp 94),none⟩]
def l8_1:SCode:=(.seq q8_17 (.seq (.cond (.tmp 78) .skip (.exit 4)) (.seq (.block 5 (.seq q8_18 (.seq q8_19 (.cond (.tmp 87) q8_20 .skip)))) q8_21)))
@[reducible] def q8_22:SCode:=.region [⟨some 95,.binOp .add 3 (.tmp 72) (.const (.int .i64 1)) 3,none⟩,
  ⟨some 72,.move (.tmp 95),none⟩]
def l8_2:SCode:=(.seq q8_14 (.seq (.cond (.tmp 73) .skip (.exit 2)) (.seq (.block 3 (.seq q8_15 (.seq q8_16 (.block 4 (.loop l8_1))))) q8_22)))
@[reducible] def q8_23:SCode:=.region [⟨some 97,.move (.tmp 0),none⟩,
  ⟨some 98,.move (.tmp 13),none⟩,
  ⟨some 99,.call { callee:=.value (.func 41),args:=#[.tmp 98],argTypes:=#[52] },none⟩,
  ⟨some 100,.call { callee:=.value (.func 36),args:=#[.tmp 97,.tmp 99],argTypes:=#[3,52] },none⟩,
  ⟨some 96,.move (.tmp 100),none⟩,
  ⟨some 101,.extract (.tmp 96) 0,none⟩,
  ⟨some 102,.extract (.tmp 96) 1,none⟩,
  ⟨some 16,.assign (.tmp 101),none⟩,
  ⟨some 10,.assign (.tmp 102),none⟩]
@[reducible] def q8_24:SCode:=.region [⟨some 103,.move (.tmp 10),none⟩,
  ⟨some 104,.binOp .neq 23 (.tmp 103) (.const (.int .i64 0)) 23,none⟩,
  ⟨some 105,.move (.tmp 104),none⟩,
  ⟨some 106,.move (.tmp 16),some (105,false)⟩,
  ⟨some 107,.move (.tmp 9),some (105,false)⟩,
  ⟨some 108,.call { callee:=.value (.func 34),args:=#[.tmp 106,.tmp 107],argTypes:=#[22,22] },some (105,false)⟩,
  ⟨some 109,.unOp .not 4 (.tmp 108),some (105,false)⟩,
  ⟨some 110,.pick (.tmp 105) (.const (.bool true)) (.tmp 109),none⟩]
@[reducible] def q8_25:SCode:=.region [⟨some 8,.assign (.const (.bool false)),none⟩]
def q8_26:SCode:=.draw [⟨some 111,.move (.tmp 2),none⟩,
    ⟨some 112,.convert 3 29 (.tmp 111),none⟩,
    ⟨some 113,.move (.tmp 0),none⟩,
    ⟨some 114,.convert 3 29 (.tmp 113),none⟩,
    ⟨some 115,.binOp .rem 29 (.tmp 112) (.tmp 114) 29,none⟩,
    ⟨some 116,.convert 29 3 (.tmp 115),none⟩,
    ⟨some 117,.move (.tmp 3),none⟩,
    ⟨some 118,.convert 3 29 (.tmp 117),none⟩,
    ⟨some 119,.move (.tmp 0),none⟩,
    ⟨some 120,.convert 3 29 (.tmp 119),none⟩,
    ⟨some 121,.binOp .rem 29 (.tmp 118) (.tmp 120) 29,none⟩,
    ⟨some 122,.convert 29 3 (.tmp 121),none⟩,
    ⟨some 2,.assign (.tmp 116),none⟩,
    ⟨some 3,.assign (.tmp 122),none⟩]
  [[],[0],[],[2],[1,3],[4],[],[6],[],[8],[7,9],[10],[5,0,1,2,3,4,5],[11,12,0,1,2,3,4,5,6,7,8,9,10,11,12]]
@[reducible] def q8_27:SCode:=.region [⟨some 124,.move (.tmp 9),none⟩,
  ⟨some 125,.call { callee:=.value (.func 18),args:=#[.tmp 124],argTypes:=#[22] },none⟩,
  ⟨some 126,.move (.tmp 2),none⟩,
  ⟨some 127,.move (.tmp 3),none⟩,
  ⟨some 128,.call { callee:=.value (.func 21),args:=#[.tmp 125,.tmp 126,.tmp 127],argTypes:=#[22,3,3] },none⟩,
  ⟨some 123,.move (.tmp 128),none⟩,
  ⟨some 129,.extract (.tmp 123) 0,none⟩,
  ⟨some 130,.extract (.tmp 123) 1,none⟩,
  ⟨some 17,.assign (.tmp 129),none⟩,
  ⟨some 10,.assign (.tmp 130),none⟩]
@[reducible] def q8_28:SCode:=.region [⟨some 132,.move (.tmp 0),none⟩,
  ⟨some 133,.move (.tmp 13),none⟩,
  ⟨some 134,.move (.tmp 2),none⟩,
  ⟨some 135,.move (.tmp 3),none⟩,
  ⟨some 136,.build 33 #[(0,.tmp 134),(1,.tmp 135)],none⟩,
  ⟨some 137,.buildSlice 52 1 #[(0,.tmp 136)],none⟩,
  ⟨some 138,.call { callee:=.builtin .append,args:=#[.tmp 133,.tmp 137],argTypes:=#[52,52] },none⟩,
  ⟨some 139,.call { callee:=.value (.func 36),args:=#[.tmp 132,.tmp 138],argTypes:=#[3,52] },none⟩,
  ⟨some 131,.move (.tmp 139),none⟩,
  ⟨some 140,.extract (.tmp 131) 0,none⟩,
  ⟨some 141,.extract (.tmp 131) 1,none⟩,
  ⟨some 18,.assign (.tmp 140),none⟩,
  ⟨some 19,.assign (.tmp 141),none⟩]
@[reducible] def q8_29:SCode:=.region [⟨some 142,.move (.tmp 10),none⟩,
  ⟨some 143,.binOp .neq 23 (.tmp 142) (.const (.int .i64 0)) 23,none⟩]
@[reducible] def q8_30:SCode:=.region [⟨some 144,.move (.tmp 10),none⟩,
  ⟨some 145,.binOp .eql 23 (.tmp 144) (.const (.int .i64 5)) 23,none⟩,
  ⟨some 146,.move (.tmp 145),none⟩,
  ⟨some 147,.call { callee:=.value (.func 20),args:=#[],argTypes:=#[] },some (146,true)⟩,
  ⟨some 148,.pick (.tmp 146) (.tmp 147) (.const (.bool false)),none⟩,
  ⟨some 8,.assign (.tmp 148),none⟩]
@[reducible] def q8_31:SCode:=.region [⟨some 149,.move (.tmp 19),none⟩,
  ⟨some 150,.binOp .eql 23 (.tmp 149) (.const (.int .i64 0)) 23,none⟩,
  ⟨some 151,.move (.tmp 150),none⟩,
  ⟨some 152,.move (.tmp 17),some (151,true)⟩,
  ⟨some 153,.move (.tmp 18),some (151,true)⟩,
  ⟨some 154,.call { callee:=.value (.func 34),args:=#[.tmp 152,.tmp 153],argTypes:=#[22,22] },some (151,true)⟩,
  ⟨some 155,.pick (.tmp 151) (.tmp 154) (.const (.bool false)),none⟩,
  ⟨some 156,.move (.tmp 155),none⟩,
  ⟨some 157,.call { callee:=.value (.func 20),args:=#[],argTypes:=#[] },some (156,true)⟩,
  ⟨some 158,.pick (.tmp 156) (.tmp 157) (.const (.bool false)),none⟩,
  ⟨some 8,.assign (.tmp 158),none⟩]
def s8:SCode:=(.seq q8_0 (.seq q8_1 (.seq (.seq q8_2 (.cond (.tmp 34) (.seq q8_3 .ret) .skip)) (.seq (.seq q8_4 (.cond (.tmp 52) (.seq q8_5 .ret) .skip)) (.seq (.seq q8_6 (.block 0 (.loop l8_0))) (.seq q8_12 (.seq (.seq q8_13 (.block 2 (.loop l8_2))) (.seq q8_23 (.seq (.seq q8_24 (.cond (.tmp 110) (.seq q8_25 .ret) .skip)) (.seq q8_26 (.seq q8_27 (.seq q8_28 (.seq (.seq q8_29 (.cond (.tmp 143) (.seq q8_30 .ret) .skip)) (.seq q8_31 .ret))))))))))))))
/-! 104: slices.IndexFunc[[][2]int,[2]int] -/
@[reducible] def q104_0:SCode:=.region [⟨some 4,.assign (.const (.int .i64 0)),none⟩]
@[reducible] def q104_1:SCode:=.region [⟨some 6,.move (.tmp 0),none⟩,
  ⟨some 7,.call { callee:=.builtin .len,args:=#[.tmp 6],argTypes:=#[52] },none⟩,
  ⟨some 8,.move (.const (.int .i64 0)),none⟩]
@[reducible] def q104_2:SCode:=.region [⟨some 9,.binOp .lss 3 (.tmp 8) (.tmp 7) 3,none⟩]
@[reducible] def q104_3:SCode:=.region [⟨some 10,.move (.tmp 8),none⟩,
  ⟨some 5,.assign (.tmp 10),none⟩]
@[reducible] def q104_4:SCode:=.region [⟨some 11,.move (.tmp 1),none⟩,
  ⟨some 12,.move (.tmp 0),none⟩,
  ⟨some 13,.move (.tmp 5),none⟩,
  ⟨some 14,.indexAddr 52 (.tmp 12) (.tmp 13),none⟩,
  ⟨some 15,.load 33 (.tmp 14),none⟩,
  ⟨some 16,.call { callee:=.value (.tmp 11),args:=#[.tmp 15],argTypes:=#[33] },none⟩]
@[reducible] def q104_5:SCode:=.region [⟨some 17,.move (.tmp 5),none⟩,
  ⟨some 4,.assign (.tmp 17),none⟩]
@[reducible] def q104_6:SCode:=.region [⟨some 18,.binOp .add 3 (.tmp 8) (.const (.int .i64 1)) 3,none⟩,
  ⟨some 8,.move (.tmp 18),none⟩]
def l104_0:SCode:=(.seq q104_2 (.seq (.cond (.tmp 9) .skip (.exit 0)) (.seq (.block 1 (.seq q104_3 (.seq q104_4 (.cond (.tmp 16) (.seq q104_5 .ret) .skip)))) q104_6)))
@[reducible] def q104_7:SCode:=.region [⟨some 4,.assign (.const (.int .i64 (-1))),none⟩]
def s104:SCode:=(.seq q104_0 (.seq (.seq q104_1 (.block 0 (.loop l104_0))) (.seq q104_7 .ret)))
theorem s104_strip:Yh (Yi Tryd.f104)=s104:=by kernel_rfl
theorem s104_ok:Yx 19 (Yi Tryd.f104)=true:=by kernel_rfl
end Go.Proofs.Tryd.Am
namespace Go.Proofs.Tryd.Am
open Go.Am Ord
set_option maxRecDepth 100000
set_option maxHeartbeats 1000000
section
variable {h:Yb} {b:Nat} {e:TypeId} {ro:Bool} {x y:Int} {K:Value→Prop}
theorem pidx0 {p:Nat}:Yq prog 33 (.pointer (some ⟨p,0,none⟩)) (.int .i64 0) K=K (.pointer (some ⟨p,0,none⟩)):=idxA (k:=0) und_33 Xk (by decide)
theorem pidx1 {p:Nat}:Yq prog 33 (.pointer (some ⟨p,0,none⟩)) (.int .i64 1) K=K (.pointer (some ⟨p,1,none⟩)):=idxA (k:=1) und_33 Xk (by decide)
theorem pl0 (hb:h[b]? = some (.cells [.int .i64 x,.int .i64 y] e ro)):Xw prog h 3 (.pointer (some ⟨b,0,none⟩)) K=K (.int .i64 x):=loadC hb Xd rfl
theorem pl1 (hb:h[b]? = some (.cells [.int .i64 x,.int .i64 y] e ro)):Xw prog h 3 (.pointer (some ⟨b,1,none⟩)) K=K (.int .i64 y):=loadC hb Xd rfl
theorem pst {c:List Value} {K:Yb→Prop} (hb:h[b]? = some (.cells c e false)) (hc:c.length=2):Xv prog h 33 (.pointer (some ⟨b,0,none⟩)) (.agg #[.int .i64 x,.int .i64 y]) K=K (h.set b (.cells [.int .i64 x,.int .i64 y] e false)) :=
 storeA (vs:=[.int .i64 x,.int .i64 y]) hb (by rw [shp_33]; rfl) rfl (by rw [hc]; rfl)
end
end Go.Proofs.Tryd.Am
namespace Ord
set_option maxRecDepth 100000
def Wv:Nat→List Int→Bool
 | 0,o=>cn o==1
 | n+1,o=>cn o==1 || (decide (cn o≤2 ^ (n+1))&&(List.range o.length).any fun i=>(List.range o.length).any fun j=>decide (i<j)&&(fr o i j&&(Wv n (Wp o i j)&&Wv n (Wp o j i))))
theorem fr_comm (o:List Int) (i j:Nat):fr o i j=fr o j i:=by
 rw [fr,fr,show decide (i≠j)=decide (j≠i) from decide_eq_decide.2 ⟨Ne.symm,Ne.symm⟩,Bool.and_assoc,Bool.and_assoc,Bool.and_comm (!ab o i j)]
theorem fr_out {o:List Int} {i j:Nat} (h:fr o i j=true):i≠j∧ab o i j=false∧ab o j i=false:=by
 simp only [fr,Bool.and_eq_true,decide_eq_true_eq,Bool.not_eq_true'] at h
 exact ⟨h.1.1,h.1.2,h.2⟩
theorem fr_sum {o:List Int} (ho:ord o=true) {i j:Nat} (hi:i<o.length) (hj:j<o.length) (h:fr o i j=true):cn (Wp o i j)+cn (Wp o j i)=cn o:=by
 obtain ⟨h1,h2,h3⟩:=fr_out h
 have:=befN_two ho hi hj h1
 rwa [befN,befN,if_neg (by rw [h2]; decide),if_pos h,if_neg (by rw [h3]; decide),if_pos (by rw [fr_comm]; exact h)] at this
theorem srtb_cn : ∀ {n:Nat} {o:List Int},Wv n o=true→cn o≤2 ^ n
 | 0,o,h=>by rw [Wv,beq_iff_eq] at h; rw [h]; decide
 | n+1,o,h=>by
   rw [Wv,Bool.or_eq_true,Bool.and_eq_true,beq_iff_eq,decide_eq_true_eq] at h
   rcases h with h | h
   · rw [h]; exact Nat.one_le_two_pow
   · exact h.1
theorem srtb_mono : ∀ {n:Nat} {o:List Int},Wv n o=true→Wv (n+1) o=true
 | 0,o,h=>by rw [Wv] at h; rw [Wv,h]; rfl
 | n+1,o,h=>by
   rw [Wv,Bool.or_eq_true,Bool.and_eq_true,decide_eq_true_eq] at h ⊢
   refine h.imp id fun g=>⟨Nat.le_trans g.1 (Nat.pow_le_pow_right (by decide) (by omega)),?_⟩
   obtain ⟨i,hi,g2⟩:=List.any_eq_true.1 g.2
   obtain ⟨j,hj,g3⟩:=List.any_eq_true.1 g2
   rw [Bool.and_eq_true,Bool.and_eq_true,Bool.and_eq_true] at g3
   refine List.any_eq_true.2 ⟨i,hi,List.any_eq_true.2 ⟨j,hj,?_⟩⟩
   rw [Bool.and_eq_true,Bool.and_eq_true,Bool.and_eq_true]
   exact ⟨g3.1,g3.2.1,srtb_mono g3.2.2.1,srtb_mono g3.2.2.2⟩
theorem srtb_le {n m:Nat} {o:List Int} (h:Wv n o=true) (hm:n≤m):Wv m o=true:=by
 obtain ⟨d,rfl⟩ : ∃ d,m=n+d:=⟨m-n,by omega⟩
 clear hm
 induction d with
 | zero=>exact h
 | succ d ih=>exact srtb_mono ih
def prsN (n:Nat):List (Nat×Nat):=(List.range n).flatMap fun i=>((List.range n).filter fun j=>decide (i<j)).map fun j=>(i,j)
theorem mem_prsN {n:Nat} {p:Nat×Nat}:p∈prsN n↔p.1<p.2∧p.2<n:=by
 simp only [prsN,List.mem_flatMap,List.mem_range,List.mem_map,List.mem_filter,decide_eq_true_eq]
 constructor
 · rintro ⟨i,hi,j,⟨hj,hij⟩,rfl⟩; exact ⟨hij,hj⟩
 · rintro ⟨h1,h2⟩; exact ⟨p.1,by omega,p.2,⟨h2,h1⟩,rfl⟩
def frees (o:List Int):Nat:=(prsN o.length).countP fun p=>fr o p.1 p.2
theorem fr_add {o:List Int} (ho:ord o=true) {i j:Nat} (hi:i<o.length) {x y:Nat} (h:fr (Wp o i j) x y=true):fr o x y=true:=by
 obtain ⟨h1,h2,h3⟩:=fr_out h
 rw [addL_ab hi ho,addR,Bool.or_eq_false_iff] at h2 h3
 simp [fr,h1,h2.1,h3.1]
theorem fr_add_self {o:List Int} (ho:ord o=true) {i j:Nat} (hi:i<o.length):fr (Wp o i j) i j=false:=by
 cases h:fr (Wp o i j) i j with
 | false=>rfl
 | true =>
   obtain ⟨_,h2,_⟩:=fr_out h
   rw [addL_ab hi ho,addR] at h2
   simp at h2
theorem cP_lt {α:Type} {p q:α→Bool} : ∀ {l:List α} {x:α},(∀ y∈l,p y=true→q y=true)→x∈l→p x=false→q x=true→l.countP p<l.countP q
 | a::l,x,h,hx,h1,h2=>by
   have hle:l.countP p≤l.countP q:=List.countP_mono_left fun y hy=>h y (by simp [hy])
   rw [List.countP_cons,List.countP_cons]
   rcases List.mem_cons.1 hx with rfl | hx
   · rw [h1,h2]; simp; omega
   · have ih:=cP_lt (fun y hy=>h y (by simp [hy])) hx h1 h2
     have:(if p a=true then 1 else 0)≤if q a=true then 1 else 0:=by
      by_cases ha:p a=true
      · rw [if_pos ha,if_pos (h a (by simp) ha)]; exact Nat.le_refl _
      · rw [if_neg ha]; exact Nat.zero_le _
     omega
theorem frees_add {o:List Int} (ho:ord o=true) {i j:Nat} (hij:i<j) (hj:j<o.length) (h:fr o i j=true):frees (Wp o i j)<frees o∧frees (Wp o j i)<frees o:=by
 rw [frees,frees,frees,Xh,Xh]
 refine ⟨cP_lt (x:=(i,j)) (fun p _ hp=>fr_add ho (by omega) hp) (mem_prsN.2 ⟨hij,hj⟩) (fr_add_self ho (by omega)) h,cP_lt (x:=(i,j)) (fun p _ hp=>fr_add ho hj hp) (mem_prsN.2 ⟨hij,hj⟩) ?_ h⟩
 show fr (Wp o j i) i j=false
 rw [fr_comm]; exact fr_add_self ho hj
theorem one_le1 {α:Type} {l:List α} (hn:l.Nodup) (h : ∀ a∈l,∀ b∈l,a=b):l.length≤1:=by
 match l,hn,h with
 | [],_,_=>exact Nat.zero_le _
 | [a],_,_=>exact Nat.le_refl _
 | a::b::l,hn,h =>
   rw [List.nodup_cons] at hn
   exact absurd (by rw [h a (by simp) b (by simp)]; simp) hn.1
theorem cnt_one {r:Nat→Nat→Bool} : ∀ (k:Nat) (S:List Nat),S.Nodup→(∀ i∈S,∀ j∈S,i≠j→r i j=true∨r j i=true)→cnt r k S≤1
 | 0,_,_,_=>Nat.le_refl _
 | k+1,S,hn,h=>by
   rw [cnt]
   have hf:(Wi r S).length≤1:=one_le1 (List.nodup_iff_pairwise_ne.2 ((List.nodup_iff_pairwise_ne.1 hn).filter _)) fun a ha b hb=>by
    apply Classical.byContradiction
    intro hne
    obtain ⟨a1,a2⟩:=Ve.1 ha
    obtain ⟨b1,b2⟩:=Ve.1 hb
    rcases h a a1 b b1 hne with g | g
    · rw [b2 a a1] at g; cases g
    · rw [a2 b b1] at g; cases g
   match hF:Wi r S,hf with
   | [],_=>simp
   | [x],_ =>
     have:=cnt_one k (S.erase x) (hn.erase x) fun i hi j hj=>h i (List.mem_of_mem_erase hi) j (List.mem_of_mem_erase hj)
     simpa using this
   | _::_::_,hf=>simp at hf
theorem free_pair {o:List Int} (h1:1<cn o) : ∃ i j,i<j∧j<o.length∧fr o i j=true:=by
 apply Classical.byContradiction
 intro hno
 have:=cnt_one (r:=ab o) o.length (List.range o.length) List.nodup_range fun i hi j hj hne=>by
  apply Classical.byContradiction
  intro hc
  have hf:fr o i j=true:=by cases g1:ab o i j <;> cases g2:ab o j i <;> simp_all [fr]
  rcases Nat.lt_or_gt_of_ne hne with g | g
  · exact hno ⟨i,j,g,List.mem_range.1 hj,hf⟩
  · exact hno ⟨j,i,g,List.mem_range.1 hi,by rw [fr_comm]; exact hf⟩
 have:cn o≤1:=this
 omega
theorem srtb_free : ∀ (f:Nat) (o:List Int),ord o=true→frees o≤f→Wv f o=true
 | 0,o,ho,hf=>by
   rw [Wv,beq_iff_eq]
   apply Classical.byContradiction
   intro hne
   have:=cn_pos ho
   obtain ⟨i,j,hij,hj,h⟩:=free_pair (o:=o) (by omega)
   have:=(frees_add ho hij hj h).1
   omega
 | f+1,o,ho,hf=>by
   by_cases h1:cn o=1
   · rw [Wv,h1]; rfl
   · have:=cn_pos ho
     obtain ⟨i,j,hij,hj,h⟩:=free_pair (o:=o) (by omega)
     obtain ⟨g1,g2⟩:=frees_add ho hij hj h
     obtain ⟨k1,k2,k3⟩:=fr_out h
     have s1:=srtb_free f (Wp o i j) (Xu ho (by omega) hj k1 k3) (by omega)
     have s2:=srtb_free f (Wp o j i) (Xu ho hj (by omega) (Ne.symm k1) k2) (by omega)
     have hc:=fr_sum ho (by omega) hj h
     have c1:=srtb_cn s1
     have c2:=srtb_cn s2
     rw [Wv,Bool.or_eq_true,Bool.and_eq_true,decide_eq_true_eq]
     refine .inr ⟨by rw [Nat.pow_succ]; omega,List.any_eq_true.2 ⟨i,List.mem_range.2 (by omega),List.any_eq_true.2 ⟨j,List.mem_range.2 hj,?_⟩⟩⟩
     rw [Bool.and_eq_true,Bool.and_eq_true,Bool.and_eq_true]
     exact ⟨decide_eq_true hij,h,s1,s2⟩
end Ord
namespace Go.Proofs.Tryd.Am
open Go.Am Ord
set_option maxRecDepth 100000
set_option maxHeartbeats 1000000
theorem keyT_33:KeyT Tryd.prog 33 2:=keyT_ints (d:=3) (m:=3) (by kernel_rfl) (by kernel_rfl) (by have:3≤Tryd.prog.types.size+1:=of_decide_eq_true (by kernel_rfl); exact this) (by decide) (by kernel_rfl) (by kernel_rfl) (by kernel_rfl) (by kernel_rfl)
theorem keyT_136:KeyT Tryd.prog 136 8:=keyT_ints (d:=5) (m:=5) (by kernel_rfl) (by kernel_rfl) (by have:5≤Tryd.prog.types.size+1:=of_decide_eq_true (by kernel_rfl); exact this) (by decide) (by kernel_rfl) (by kernel_rfl) (by kernel_rfl) (by kernel_rfl)
theorem zvB:zeroV Tryd.prog 4=some (.bool false):=by kernel_rfl
theorem zvI:zeroV Tryd.prog 3=some (.int .i64 0):=by kernel_rfl
abbrev ptB (b:Nat):Value:=.pointer (some ⟨b,0,none⟩)
def encN (o:List Int) (n:Nat):List Int:=(o.length:Int)::(sixs o++[(n:Int)])
theorem encN_len {o:List Int} (h:o.length≤6) (n:Nat):(encN o n).length=8:=by simp [encN,sixs_len h]
theorem encN_inj {o o' : List Int} {n n' : Nat} (h:o.length≤6) (h' : o'.length≤6) (e:encN o n=encN o' n'):o=o'∧n=n':=by
 simp only [encN,List.cons.injEq] at e
 obtain ⟨e1,e2⟩:=e
 have hl:o.length=o'.length:=by omega
 obtain ⟨e3,e4⟩:=List.append_inj e2 (by rw [sixs_len h,sixs_len h'])
 refine ⟨?_,by have:=(List.cons.inj e4).1; omega⟩
 rw [sixs,sixs] at e3
 exact (List.append_inj e3 hl).1
theorem encN_in {o:List Int} (ho:ord o=true) {n:Nat} (hn:n≤62):inR64 (encN o n):=by
 have hl:=Yz ho
 intro x hx
 rcases List.mem_cons.1 hx with rfl | hx
 · omega
 rcases List.mem_append.1 hx with hx | hx
 · rw [sixs] at hx
   rcases List.mem_append.1 hx with hx | hx
   · obtain ⟨i,hi,rfl⟩:=List.mem_iff_getElem.1 hx
     obtain ⟨h1,h2⟩:=ord_nat ho hi
     have:=pow6 hl.2
     rw [List.getD,List.getElem?_eq_getElem hi,Option.getD_some] at h1
     rw [h1]; omega
   · rw [(List.mem_replicate.1 hx).2]; omega
 · rw [List.mem_singleton.1 hx]; omega
theorem bldT {o:List Int} (h:o.length≤6) {n:Nat} {K:Value→Prop}:Ww prog 136 [(0,ordV o),(1,Zx (n:Nat))] K=K (.agg ((encN o n).map Zx).toArray):=by
 have h7:=Xo h
 have e1:cellsOf (ordV o)=Xt o:=rfl
 have e2:Yj (Yj [Value.int .i64 0,.int .i64 0,.int .i64 0,.int .i64 0,.int .i64 0,.int .i64 0,.int .i64 0,.int .i64 0] 0 (Xt o)) 7 [Zx (n:Nat)]=(encN o n).map Zx:=by
  have e3:(encN o n).map Zx=Xt o++[Zx (n:Nat)]:=by simp [encN,Xt]
  rw [e3]
  generalize Xt o=c at h7 ⊢
  match c,h7 with
  | [a,b,c,d,e,f,g],_=>rfl
 have e4:(Yj [Value.int .i64 0,Value.int .i64 0,Value.int .i64 0,Value.int .i64 0,Value.int .i64 0,Value.int .i64 0,Value.int .i64 0,Value.int .i64 0] 0 (Xt o)).length=8:=by
  clear e1 e2
  generalize Xt o=c at h7 ⊢
  match c,h7 with
  | [a,b,c,d,e,f,g],_=>rfl
 simp only [Ww,zero_136,fillL,pl_136_0,pl_136_1,e1,h7]
 simp [Va,cellsOf,ordV,e2,e4]
def SK (bs bm:Nat) (h:Yb):Prop:=h[bs]? = some (.cells [.map (some bm)] 100 false)∧∃ l:List (List Int×Bool),h[bm]? = some (.map (mA Value.bool l))∧KeysN 8 l∧∀ o n v,ord o=true→aget (encN o n) l=some v→v=Wv n o
theorem SK.ext {bs bm:Nat} {h h' : Yb} (hs:SK bs bm h) (he:Ext (fun _=>False) h h'):SK bs bm h':=by
 obtain ⟨h1,l,h2,h3⟩:=hs
 exact ⟨(he.2 _ (Yg h1) id).trans h1,l,(he.2 _ (Yg h2) id).trans h2,h3⟩
theorem SK.ne {bs bm b:Nat} {h:Yb} (hs:SK bs bm h) {c:List Value} {t:TypeId} {ro:Bool} (hb:h[b]? = some (.cells c t ro)):b≠bm:=by
 obtain ⟨_,l,h2,_⟩:=hs
 rintro rfl
 rw [h2] at hb; cases hb
theorem boxPr {h:Yb} {p:Int×Int} {K:Value→Yb→Prop}:boxK prog h 33 (pV p) K=K (Xj h) (h++[.cells [Zx p.1,Zx p.2] 33 false]):=by
 simp only [boxK,pV,esz_33,Option.isSome_some,true_and,cellsOf]
theorem loadPr {h:Yb} {b:Nat} {ro:Bool} {x y:Int} {K:Value→Prop} (hb:h[b]? = some (.cells [Zx x,Zx y] 33 ro)):Xw prog h 33 (ptB b) K=K (pV (x,y)) :=
 loadA hb (by rw [shp_33]; rfl)
def inR2 (p:Int×Int):Prop:=inR64 [p.1,p.2]
theorem pV_ints (p:Int×Int):Ys (#[Zx p.1,Zx p.2]:Array Value).toList=some [p.1,p.2]:=Wj [p.1,p.2]
theorem s121_callW [Tabs Tryd.prog] {args:List Value} {h:Yb} {Q:Value→Yb→Prop} (hsz:args.length≤13) (hk:AWS Tryd.prog 13 s121 (Zu Tryd.prog [.tmp 5] Q) (Zp 0 args) h):ACall Tryd.prog 121 args h Q :=
 Wn Tryd.func121 rfl (enters_of Tryd.func121 (by kernel_rfl) rfl) rfl rfl (by decide) s121_strip s121_ok hsz hk
theorem uneven_call [Tabs prog] {h:Yb} {bu bm:Nat} {l:List (List Int×Int)} {p q:Int×Int} (hb:h[bu]? = some (.cells [.map (some bm)] 137 false)) (hm:h[bm]? = some (.map (mA Zx l))) (hl:KeysN 2 l) (hp:inR2 p) (hq:inR2 q) :
  ∃ r:Int,APure prog 121 ([pV p,pV q]++[ptB bu]) h (Zx r):=by
 refine ⟨subV .i64 ((aget [p.1,p.2] l).getD 0) ((aget [q.1,q.2] l).getD 0),?_⟩
 have hg : ∀ k:List Int,((aget k l).map Zx).getD (.int .i64 0)=Zx ((aget k l).getD 0):=fun k=>by cases aget k l <;> rfl
 refine ACall.forget (Low.int _ _) ?_
 refine s121_callW (by simp) ?_
 simp only [s121]
 refine Yc fun N1 hN1=>?_
 simp (maxSteps:=2000000) only [s121,↓Za,↓Zi,↓Zr,↓Ze,↓Zj,↓Zs,↓Zg,↓Zo,↓Zf,↓Zb,↓Zc,↓vdn,vup,Zm,Zk,Zn,Zl,Zh,List.map_cons,List.map_nil,cond_true,cond_false,aop,Zv,Zq,Zp,ev,sput,Zt,Zy,Ya,unK,Zd,Zw,Nat.reduceBEq,Nat.reduceAdd,Int.reduceBEq,Int.reduceBNe,Int.reduceLT,Zu,Zz,tup,tyf,Yr,List.nil_append,List.append_nil,List.toList_toArray,List.cons_append,boxPr,Xj]
 have c0:(h++[Blk.cells [Zx p.1,Zx p.2] 33 false]++[Blk.cells [Zx q.1,Zx q.2] 33 false])[h.length]? = some (.cells [Zx p.1,Zx p.2] 33 false):=Yy (Yp _ _) _
 have c1:=Yp (h++[Blk.cells [Zx p.1,Zx p.2] 33 false]) (Blk.cells [Zx q.1,Zx q.2] 33 false)
 have d0:(h++[Blk.cells [Zx p.1,Zx p.2] 33 false]++[Blk.cells [Zx q.1,Zx q.2] 33 false])[bu]? = some (.cells [.map (some bm)] 137 false):=Yy (Yy hb _) _
 have d1:(h++[Blk.cells [Zx p.1,Zx p.2] 33 false]++[Blk.cells [Zx q.1,Zx q.2] 33 false])[bm]? = some (.map (mA Zx l)):=Yy (Yy hm _) _
 have hE:Ext (fun _=>False) h (h++[Blk.cells [Zx p.1,Zx p.2] 33 false]++[Blk.cells [Zx q.1,Zx q.2] 33 false]):=by rw [List.append_assoc]; exact Ext.app _ _ _
 generalize h++[Blk.cells [Zx p.1,Zx p.2] 33 false]++[Blk.cells [Zx q.1,Zx q.2] 33 false]=G at c0 c1 d0 d1 hE ⊢
 generalize (h++[Blk.cells [Zx p.1,Zx p.2] 33 false]).length=b1 at c1 ⊢
 generalize h.length=b0 at c0 ⊢
 refine hN1 [(0,pV p),(1,pV q),(2,ptB bu),(3,ptB b0),(4,ptB b1),(5,.int .i64 0)] _ _ ?_ (by simp (maxSteps:=2000000) only [↓Za,↓Zi,↓Zr,↓Ze,↓Zj,↓Zs,↓Zg,↓Zo,↓Zf,↓Zb,↓Zc,↓vdn,vup,Zm,Zk,Zn,Zl,Zh,List.map_cons,List.map_nil,cond_true,cond_false,aop,Zv,Zq,Zp,ev,sput,Zt,Zy,Ya,unK,Zd,Zw,Nat.reduceBEq,Nat.reduceAdd,Int.reduceBEq,Int.reduceBNe,Int.reduceLT,Zu,Zz,tup,tyf])
 clear hN1
 try clear N1
 refine Yf ?_
 simp (maxSteps:=2000000) only [s121,↓Za,↓Zi,↓Zr,↓Ze,↓Zj,↓Zs,↓Zg,↓Zo,↓Zf,↓Zb,↓Zc,↓vdn,vup,Zm,Zk,Zn,Zl,Zh,List.map_cons,List.map_nil,cond_true,cond_false,aop,Zv,Zq,Zp,ev,sput,Zt,Zy,Ya,unK,Zd,Zw,Nat.reduceBEq,Nat.reduceAdd,Int.reduceBEq,Int.reduceBNe,Int.reduceLT,Zu,Zz,tup,tyf]
 simp only [q121_1]
 refine Xs [] (by kernel_rfl) (by kernel_rfl) (by kernel_rfl) (by kernel_rfl) ?_
 simp (maxSteps:=2000000) only [s121,↓Za,↓Zi,↓Zr,↓Ze,↓Zj,↓Zs,↓Zg,↓Zo,↓Zf,↓Zb,↓Zc,↓vdn,vup,Zm,Zk,Zn,Zl,Zh,List.map_cons,List.map_nil,cond_true,cond_false,aop,Zv,Zq,Zp,ev,sput,Zt,Zy,Ya,unK,Zd,Zw,Nat.reduceBEq,Nat.reduceAdd,Int.reduceBEq,Int.reduceBNe,Int.reduceLT,Zu,Zz,tup,tyf,↓dopsX_lookup,↓Vo,Wa d0 shp_137,loadPr c0,loadPr c1]
 refine lookupA d1 und_137 keyT_33 zvI hl (pV_ints p) rfl hp ?_
 simp (maxSteps:=2000000) only [s121,↓Za,↓Zi,↓Zr,↓Ze,↓Zj,↓Zs,↓Zg,↓Zo,↓Zf,↓Zb,↓Zc,↓vdn,vup,Zm,Zk,Zn,Zl,Zh,List.map_cons,List.map_nil,cond_true,cond_false,aop,Zv,Zq,Zp,ev,sput,Zt,Zy,Ya,unK,Zd,Zw,Nat.reduceBEq,Nat.reduceAdd,Int.reduceBEq,Int.reduceBNe,Int.reduceLT,Zu,Zz,tup,tyf,↓dopsX_lookup,↓Vo,Wa d0 shp_137,loadPr c0,loadPr c1]
 refine lookupA d1 und_137 keyT_33 zvI hl (pV_ints q) rfl hq ?_
 simp (maxSteps:=2000000) only [s121,↓Za,↓Zi,↓Zr,↓Ze,↓Zj,↓Zs,↓Zg,↓Zo,↓Zf,↓Zb,↓Zc,↓vdn,vup,Zm,Zk,Zn,Zl,Zh,List.map_cons,List.map_nil,cond_true,cond_false,aop,Zv,Zq,Zp,ev,sput,Zt,Zy,Ya,unK,Zd,Zw,Nat.reduceBEq,Nat.reduceAdd,Int.reduceBEq,Int.reduceBNe,Int.reduceLT,Zu,Zz,tup,tyf,hg]
 exact hE
theorem s104_callW [Tabs Tryd.prog] {args:List Value} {h:Yb} {Q:Value→Yb→Prop} (hsz:args.length≤19) (hk:AWS Tryd.prog 19 s104 (Zu Tryd.prog [.tmp 4] Q) (Zp 0 args) h):ACall Tryd.prog 104 args h Q :=
 Wn Tryd.func104 rfl (enters_of Tryd.func104 (by kernel_rfl) rfl) rfl rfl (by decide) s104_strip s104_ok hsz hk
theorem indexP_call [Tabs prog] {h:Yb} {v:Value} {ps:List (Int×Int)} {fn:FuncId} {cap:Array Value} (hl:ps.length<9223372036854775808) (I J:Nat→Yb→Prop) (hI : ∀ k hp,I k hp→PairSl hp v ps)
  (step : ∀ k,k<ps.length→∀ hp,I k hp→ACall prog fn (([]:List Value)++[pV (ps.getD k (0,0))]++cap.toList) hp fun r h2=>∃ b,r = .bool b∧(b=true→J k h2)∧(b=false→I (k+1) h2)) (h0:I 0 h) :
  ACall prog 104 [v,.func (.func fn) #[] cap] h fun r h'=>(∃ k,k<ps.length∧r=Zx (k:Nat)∧J k h')∨(r = .int .i64 (-1)∧I ps.length h'):=by
 refine s104_callW (by simp) ?_
 simp only [s104]
 refine Yc fun N2 hN2=>?_
 simp (maxSteps:=2000000) only [s104,↓Za,↓Zi,↓Zr,↓Ze,↓Zj,↓Zs,↓Zg,↓Zo,↓Zf,↓Zb,↓Zc,↓vdn,vup,Zm,Zk,Zn,Zl,Zh,List.map_cons,List.map_nil,cond_true,cond_false,aop,Zv,Zq,Zp,ev,sput,Zt,Zy,Ya,unK,Zd,Zw,Nat.reduceBEq,Nat.reduceAdd,Int.reduceBEq,Int.reduceBNe,Int.reduceLT,Zu,Zz,tup,tyf]
 refine hN2 [(0,v),(1,.func (.func fn) #[] cap),(4,.int .i64 0)] _ _ ?_ (by simp (maxSteps:=2000000) only [↓Za,↓Zi,↓Zr,↓Ze,↓Zj,↓Zs,↓Zg,↓Zo,↓Zf,↓Zb,↓Zc,↓vdn,vup,Zm,Zk,Zn,Zl,Zh,List.map_cons,List.map_nil,cond_true,cond_false,aop,Zv,Zq,Zp,ev,sput,Zt,Zy,Ya,unK,Zd,Zw,Nat.reduceBEq,Nat.reduceAdd,Int.reduceBEq,Int.reduceBNe,Int.reduceLT,Zu,Zz,tup,tyf])
 clear hN2
 try clear N2
 refine Ym fun M hM=>?_
 refine Yc fun N3 hN3=>?_
 simp (maxSteps:=2000000) only [s104,↓Za,↓Zi,↓Zr,↓Ze,↓Zj,↓Zs,↓Zg,↓Zo,↓Zf,↓Zb,↓Zc,↓vdn,vup,Zm,Zk,Zn,Zl,Zh,List.map_cons,List.map_nil,cond_true,cond_false,aop,Zv,Zq,Zp,ev,sput,Zt,Zy,Ya,unK,Zd,Zw,Nat.reduceBEq,Nat.reduceAdd,Int.reduceBEq,Int.reduceBNe,Int.reduceLT,Zu,Zz,tup,tyf,(hI _ _ h0).len]
 refine hN3 [(0,v),(1,.func (.func fn) #[] cap),(4,.int .i64 0),(7,Zx ps.length),(8,.int .i64 0)] _ _ ?_ (by simp (maxSteps:=2000000) only [↓Za,↓Zi,↓Zr,↓Ze,↓Zj,↓Zs,↓Zg,↓Zo,↓Zf,↓Zb,↓Zc,↓vdn,vup,Zm,Zk,Zn,Zl,Zh,List.map_cons,List.map_nil,cond_true,cond_false,aop,Zv,Zq,Zp,ev,sput,Zt,Zy,Ya,unK,Zd,Zw,Nat.reduceBEq,Nat.reduceAdd,Int.reduceBEq,Int.reduceBNe,Int.reduceLT,Zu,Zz,tup,tyf])
 clear hN3
 try clear N3
 refine Xp ?_
 refine Xf fun Q hQ=>?_
 refine Vi (γ:=Nat×Yb) (fun s=>s.1≤ps.length∧I s.1 s.2)
  (fun s=>([(0,v),(1,.func (.func fn) #[] cap),(4,.int .i64 0),(7,Zx ps.length),(8,Zx (s.1:Nat))],s.2)) (fun s=>ps.length-s.1) (0,h) ⟨Nat.zero_le _,h0⟩ (by simp (maxSteps:=2000000) only [↓Za,↓Zi,↓Zr,↓Ze,↓Zj,↓Zs,↓Zg,↓Zo,↓Zf,↓Zb,↓Zc,↓vdn,vup,Zm,Zk,Zn,Zl,Zh,List.map_cons,List.map_nil,cond_true,cond_false,aop,Zv,Zq,Zp,ev,sput,Zt,Zy,Ya,unK,Zd,Zw,Nat.reduceBEq,Nat.reduceAdd,Int.reduceBEq,Int.reduceBNe,Int.reduceLT,Zu,Zz,tup,tyf,Int.natCast_zero]) rfl ?_
 rintro ⟨k,hp⟩ ⟨hk,hik⟩
 simp only at hk hik
 refine Xf fun Q2 hQ2=>?_
 simp only [l104_0]
 have hv:=hI _ _ hik
 by_cases hin:(k:Int)<ps.length
 · have hk' : k<ps.length:=by omega
   refine Yc fun N4 hN4=>?_
   simp (maxSteps:=2000000) only [s104,↓Za,↓Zi,↓Zr,↓Ze,↓Zj,↓Zs,↓Zg,↓Zo,↓Zf,↓Zb,↓Zc,↓vdn,vup,Zm,Zk,Zn,Zl,Zh,List.map_cons,List.map_nil,cond_true,cond_false,aop,Zv,Zq,Zp,ev,sput,Zt,Zy,Ya,unK,Zd,Zw,Nat.reduceBEq,Nat.reduceAdd,Int.reduceBEq,Int.reduceBNe,Int.reduceLT,Zu,Zz,tup,tyf,hin]
   refine hN4 [(0,v),(1,.func (.func fn) #[] cap),(4,.int .i64 0),(7,Zx ps.length),(8,Zx (k:Nat)),(9,.bool true)] _ _ ?_ (by simp (maxSteps:=2000000) only [↓Za,↓Zi,↓Zr,↓Ze,↓Zj,↓Zs,↓Zg,↓Zo,↓Zf,↓Zb,↓Zc,↓vdn,vup,Zm,Zk,Zn,Zl,Zh,List.map_cons,List.map_nil,cond_true,cond_false,aop,Zv,Zq,Zp,ev,sput,Zt,Zy,Ya,unK,Zd,Zw,Nat.reduceBEq,Nat.reduceAdd,Int.reduceBEq,Int.reduceBNe,Int.reduceLT,Zu,Zz,tup,tyf])
   clear hN4
   try clear N4
   refine Yc fun N5 hN5=>?_
   simp (maxSteps:=2000000) only [s104,↓Za,↓Zi,↓Zr,↓Ze,↓Zj,↓Zs,↓Zg,↓Zo,↓Zf,↓Zb,↓Zc,↓vdn,vup,Zm,Zk,Zn,Zl,Zh,List.map_cons,List.map_nil,cond_true,cond_false,aop,Zv,Zq,Zp,ev,sput,Zt,Zy,Ya,unK,Zd,Zw,Nat.reduceBEq,Nat.reduceAdd,Int.reduceBEq,Int.reduceBNe,Int.reduceLT,Zu,Zz,tup,tyf]
   refine hN5 [(0,v),(1,.func (.func fn) #[] cap),(4,.int .i64 0),(7,Zx ps.length),(8,Zx (k:Nat))] _ _ ?_ (by simp (maxSteps:=2000000) only [↓Za,↓Zi,↓Zr,↓Ze,↓Zj,↓Zs,↓Zg,↓Zo,↓Zf,↓Zb,↓Zc,↓vdn,vup,Zm,Zk,Zn,Zl,Zh,List.map_cons,List.map_nil,cond_true,cond_false,aop,Zv,Zq,Zp,ev,sput,Zt,Zy,Ya,unK,Zd,Zw,Nat.reduceBEq,Nat.reduceAdd,Int.reduceBEq,Int.reduceBNe,Int.reduceLT,Zu,Zz,tup,tyf])
   clear hN5
   try clear N5
   refine Ym fun B hB=>?_
   refine Xp ?_
   refine Yc fun N6 hN6=>?_
   simp (maxSteps:=2000000) only [s104,↓Za,↓Zi,↓Zr,↓Ze,↓Zj,↓Zs,↓Zg,↓Zo,↓Zf,↓Zb,↓Zc,↓vdn,vup,Zm,Zk,Zn,Zl,Zh,List.map_cons,List.map_nil,cond_true,cond_false,aop,Zv,Zq,Zp,ev,sput,Zt,Zy,Ya,unK,Zd,Zw,Nat.reduceBEq,Nat.reduceAdd,Int.reduceBEq,Int.reduceBNe,Int.reduceLT,Zu,Zz,tup,tyf]
   refine hN6 [(0,v),(1,.func (.func fn) #[] cap),(4,.int .i64 0),(5,Zx (k:Nat)),(7,Zx ps.length),(8,Zx (k:Nat))] _ _ ?_ (by simp (maxSteps:=2000000) only [↓Za,↓Zi,↓Zr,↓Ze,↓Zj,↓Zs,↓Zg,↓Zo,↓Zf,↓Zb,↓Zc,↓vdn,vup,Zm,Zk,Zn,Zl,Zh,List.map_cons,List.map_nil,cond_true,cond_false,aop,Zv,Zq,Zp,ev,sput,Zt,Zy,Ya,unK,Zd,Zw,Nat.reduceBEq,Nat.reduceAdd,Int.reduceBEq,Int.reduceBNe,Int.reduceLT,Zu,Zz,tup,tyf])
   clear hN6
   try clear N6
   refine Yc fun N7 hN7=>?_
   simp (maxSteps:=2000000) only [s104,↓Za,↓Zi,↓Zr,↓Ze,↓Zj,↓Zs,↓Zg,↓Zo,↓Zf,↓Zb,↓Zc,↓vdn,vup,Zm,Zk,Zn,Zl,Zh,List.map_cons,List.map_nil,cond_true,cond_false,aop,Zv,Zq,Zp,ev,sput,Zt,Zy,Ya,unK,Zd,Zw,Nat.reduceBEq,Nat.reduceAdd,Int.reduceBEq,Int.reduceBNe,Int.reduceLT,Zu,Zz,tup,tyf,Yr,List.nil_append,List.append_nil,List.toList_toArray,List.cons_append,hv.idx el_52 esz_33 hk',hv.load shp_33 hk']
   refine (step k hk' hp hik).mono ?_
   rintro _ h2 ⟨b,rfl,hJ,hI2⟩
   cases b with
   | true =>
     refine hN7 [(0,v),(1,.func (.func fn) #[] cap),(4,.int .i64 0),(5,Zx (k:Nat)),(7,Zx ps.length),(8,Zx (k:Nat)),(16,.bool true)] _ _ ?_ (by simp (maxSteps:=2000000) only [↓Za,↓Zi,↓Zr,↓Ze,↓Zj,↓Zs,↓Zg,↓Zo,↓Zf,↓Zb,↓Zc,↓vdn,vup,Zm,Zk,Zn,Zl,Zh,List.map_cons,List.map_nil,cond_true,cond_false,aop,Zv,Zq,Zp,ev,sput,Zt,Zy,Ya,unK,Zd,Zw,Nat.reduceBEq,Nat.reduceAdd,Int.reduceBEq,Int.reduceBNe,Int.reduceLT,Zu,Zz,tup,tyf])
     clear hN7
     try clear N7
     refine Xb rfl ?_
     refine Yf ?_
     simp (maxSteps:=2000000) only [s104,↓Za,↓Zi,↓Zr,↓Ze,↓Zj,↓Zs,↓Zg,↓Zo,↓Zf,↓Zb,↓Zc,↓vdn,vup,Zm,Zk,Zn,Zl,Zh,List.map_cons,List.map_nil,cond_true,cond_false,aop,Zv,Zq,Zp,ev,sput,Zt,Zy,Ya,unK,Zd,Zw,Nat.reduceBEq,Nat.reduceAdd,Int.reduceBEq,Int.reduceBNe,Int.reduceLT,Zu,Zz,tup,tyf]
     refine hQ2 _ _ _ (hQ _ _ _ ?_)
     simp (maxSteps:=2000000) only [s104,↓Za,↓Zi,↓Zr,↓Ze,↓Zj,↓Zs,↓Zg,↓Zo,↓Zf,↓Zb,↓Zc,↓vdn,vup,Zm,Zk,Zn,Zl,Zh,List.map_cons,List.map_nil,cond_true,cond_false,aop,Zv,Zq,Zp,ev,sput,Zt,Zy,Ya,unK,Zd,Zw,Nat.reduceBEq,Nat.reduceAdd,Int.reduceBEq,Int.reduceBNe,Int.reduceLT,Zu,Zz,tup,tyf]
     exact .inl ⟨k,hk',rfl,hJ rfl⟩
   | false =>
     refine hN7 [(0,v),(1,.func (.func fn) #[] cap),(4,.int .i64 0),(5,Zx (k:Nat)),(7,Zx ps.length),(8,Zx (k:Nat)),(16,.bool false)] _ _ ?_ (by simp (maxSteps:=2000000) only [↓Za,↓Zi,↓Zr,↓Ze,↓Zj,↓Zs,↓Zg,↓Zo,↓Zf,↓Zb,↓Zc,↓vdn,vup,Zm,Zk,Zn,Zl,Zh,List.map_cons,List.map_nil,cond_true,cond_false,aop,Zv,Zq,Zp,ev,sput,Zt,Zy,Ya,unK,Zd,Zw,Nat.reduceBEq,Nat.reduceAdd,Int.reduceBEq,Int.reduceBNe,Int.reduceLT,Zu,Zz,tup,tyf])
     clear hN7
     try clear N7
     refine Xa rfl ?_
     refine Yf ?_
     simp (maxSteps:=2000000) only [s104,↓Za,↓Zi,↓Zr,↓Ze,↓Zj,↓Zs,↓Zg,↓Zo,↓Zf,↓Zb,↓Zc,↓vdn,vup,Zm,Zk,Zn,Zl,Zh,List.map_cons,List.map_nil,cond_true,cond_false,aop,Zv,Zq,Zp,ev,sput,Zt,Zy,Ya,unK,Zd,Zw,Nat.reduceBEq,Nat.reduceAdd,Int.reduceBEq,Int.reduceBNe,Int.reduceLT,Zu,Zz,tup,tyf]
     refine hB [(0,v),(1,.func (.func fn) #[] cap),(4,.int .i64 0),(7,Zx ps.length),(8,Zx (k:Nat))] _ _ ?_ (by simp (maxSteps:=2000000) only [↓Za,↓Zi,↓Zr,↓Ze,↓Zj,↓Zs,↓Zg,↓Zo,↓Zf,↓Zb,↓Zc,↓vdn,vup,Zm,Zk,Zn,Zl,Zh,List.map_cons,List.map_nil,cond_true,cond_false,aop,Zv,Zq,Zp,ev,sput,Zt,Zy,Ya,unK,Zd,Zw,Nat.reduceBEq,Nat.reduceAdd,Int.reduceBEq,Int.reduceBNe,Int.reduceLT,Zu,Zz,tup,tyf])
     clear hB
     try clear B
     refine Yf ?_
     simp (maxSteps:=2000000) only [s104,↓Za,↓Zi,↓Zr,↓Ze,↓Zj,↓Zs,↓Zg,↓Zo,↓Zf,↓Zb,↓Zc,↓vdn,vup,Zm,Zk,Zn,Zl,Zh,List.map_cons,List.map_nil,cond_true,cond_false,aop,Zv,Zq,Zp,ev,sput,Zt,Zy,Ya,unK,Zd,Zw,Nat.reduceBEq,Nat.reduceAdd,Int.reduceBEq,Int.reduceBNe,Int.reduceLT,Zu,Zz,tup,tyf,add1 (show k<9223372036854775807 by omega)]
     exact hQ2 _ _ _ ⟨(k+1,h2),⟨hk',hI2 rfl⟩,by simp only; omega,by simp (maxSteps:=2000000) only [↓Za,↓Zi,↓Zr,↓Ze,↓Zj,↓Zs,↓Zg,↓Zo,↓Zf,↓Zb,↓Zc,↓vdn,vup,Zm,Zk,Zn,Zl,Zh,List.map_cons,List.map_nil,cond_true,cond_false,aop,Zv,Zq,Zp,ev,sput,Zt,Zy,Ya,unK,Zd,Zw,Nat.reduceBEq,Nat.reduceAdd,Int.reduceBEq,Int.reduceBNe,Int.reduceLT,Zu,Zz,tup,tyf],rfl⟩
 · obtain rfl:k=ps.length:=by omega
   refine Yc fun N8 hN8=>?_
   simp (maxSteps:=2000000) only [s104,↓Za,↓Zi,↓Zr,↓Ze,↓Zj,↓Zs,↓Zg,↓Zo,↓Zf,↓Zb,↓Zc,↓vdn,vup,Zm,Zk,Zn,Zl,Zh,List.map_cons,List.map_nil,cond_true,cond_false,aop,Zv,Zq,Zp,ev,sput,Zt,Zy,Ya,unK,Zd,Zw,Nat.reduceBEq,Nat.reduceAdd,Int.reduceBEq,Int.reduceBNe,Int.reduceLT,Zu,Zz,tup,tyf,hin]
   refine hN8 [(0,v),(1,.func (.func fn) #[] cap),(4,.int .i64 0),(7,Zx ps.length),(8,Zx (ps.length:Nat)),(9,.bool false)] _ _ ?_ (by simp (maxSteps:=2000000) only [↓Za,↓Zi,↓Zr,↓Ze,↓Zj,↓Zs,↓Zg,↓Zo,↓Zf,↓Zb,↓Zc,↓vdn,vup,Zm,Zk,Zn,Zl,Zh,List.map_cons,List.map_nil,cond_true,cond_false,aop,Zv,Zq,Zp,ev,sput,Zt,Zy,Ya,unK,Zd,Zw,Nat.reduceBEq,Nat.reduceAdd,Int.reduceBEq,Int.reduceBNe,Int.reduceLT,Zu,Zz,tup,tyf])
   clear hN8
   try clear N8
   refine Yc fun N9 hN9=>?_
   simp (maxSteps:=2000000) only [s104,↓Za,↓Zi,↓Zr,↓Ze,↓Zj,↓Zs,↓Zg,↓Zo,↓Zf,↓Zb,↓Zc,↓vdn,vup,Zm,Zk,Zn,Zl,Zh,List.map_cons,List.map_nil,cond_true,cond_false,aop,Zv,Zq,Zp,ev,sput,Zt,Zy,Ya,unK,Zd,Zw,Nat.reduceBEq,Nat.reduceAdd,Int.reduceBEq,Int.reduceBNe,Int.reduceLT,Zu,Zz,tup,tyf]
   refine hQ2 _ _ _ (hQ _ _ _ ?_)
   simp (maxSteps:=2000000) only [s104,↓Za,↓Zi,↓Zr,↓Ze,↓Zj,↓Zs,↓Zg,↓Zo,↓Zf,↓Zb,↓Zc,↓vdn,vup,Zm,Zk,Zn,Zl,Zh,List.map_cons,List.map_nil,cond_true,cond_false,aop,Zv,Zq,Zp,ev,sput,Zt,Zy,Ya,unK,Zd,Zw,Nat.reduceBEq,Nat.reduceAdd,Int.reduceBEq,Int.reduceBNe,Int.reduceLT,Zu,Zz,tup,tyf,if_true]
   refine hM [(0,v),(1,.func (.func fn) #[] cap),(4,.int .i64 0),(7,Zx ps.length),(8,Zx (ps.length:Nat)),(9,.bool false)] _ _ ?_ (by simp (maxSteps:=2000000) only [↓Za,↓Zi,↓Zr,↓Ze,↓Zj,↓Zs,↓Zg,↓Zo,↓Zf,↓Zb,↓Zc,↓vdn,vup,Zm,Zk,Zn,Zl,Zh,List.map_cons,List.map_nil,cond_true,cond_false,aop,Zv,Zq,Zp,ev,sput,Zt,Zy,Ya,unK,Zd,Zw,Nat.reduceBEq,Nat.reduceAdd,Int.reduceBEq,Int.reduceBNe,Int.reduceLT,Zu,Zz,tup,tyf])
   clear hM
   try clear M
   refine Yf ?_
   simp (maxSteps:=2000000) only [s104,↓Za,↓Zi,↓Zr,↓Ze,↓Zj,↓Zs,↓Zg,↓Zo,↓Zf,↓Zb,↓Zc,↓vdn,vup,Zm,Zk,Zn,Zl,Zh,List.map_cons,List.map_nil,cond_true,cond_false,aop,Zv,Zq,Zp,ev,sput,Zt,Zy,Ya,unK,Zd,Zw,Nat.reduceBEq,Nat.reduceAdd,Int.reduceBEq,Int.reduceBNe,Int.reduceLT,Zu,Zz,tup,tyf]
   exact .inr hik
end Go.Proofs.Tryd.Am
namespace Go.Proofs.Tryd.Am
open Go.Am Ord
set_option maxRecDepth 100000
set_option maxHeartbeats 2000000
def SortsOK [BitTab prog 1] (bs bm m:Nat):Prop:=∀ (h:Yb) (o:List Int),ord o=true→SK bs bm h →
 ACall prog 109 [ptB bs,ordV o,Zx (m:Nat)] h fun r h'=>r = .bool (Wv m o)∧SK bs bm h'∧Ext (fun b=>b=bm) h h'
def bothB (m:Nat) (o:List Int) (i j:Nat):Bool:=Wv m (Wp o i j)&&Wv m (Wp o j i)
theorem s122_callW [Tabs Tryd.prog] {args:List Value} {h:Yb} {Q:Value→Yb→Prop} (hsz:args.length≤28) (hk:AWS Tryd.prog 28 s122 (Zu Tryd.prog [.tmp 5] Q) (Zp 0 args) h):ACall Tryd.prog 122 args h Q :=
 Wn Tryd.func122 rfl (enters_of Tryd.func122 (by kernel_rfl) rfl) rfl rfl (by decide) s122_strip s122_ok hsz hk
theorem try_call [BitTab prog 1] {bs bm m:Nat} (ih:SortsOK bs bm m) (hm:m≤60) {h:Yb} {o:List Int} (ho:ord o=true) (hs:SK bs bm h) {i j:Nat} (hi:i<o.length) (hj:j<o.length) (hf:fr o i j=true) {b3 b4 b5:Nat}
  (h3:h[b3]? = some (.cells [ptB bs] 97 false)) (h4:h[b4]? = some (.cells (Xt o) 77 false)) (h5:h[b5]? = some (.cells [Zx ((m+1:Nat):Int)] 3 false)) :
  ACall prog 122 (([]:List Value)++[pV ((i:Int),(j:Int))]++[ptB b3,ptB b4,ptB b5]) h fun r h'=>r = .bool (bothB m o i j)∧SK bs bm h'∧Ext (fun b=>b=bm) h h':=by
 have hl:=Yz ho
 obtain ⟨f1,f2,f3⟩:=fr_out hf
 have o1:=Xu ho hi hj f1 f3
 have o2:=Xu ho hj hi (Ne.symm f1) f2
 have hsub:subV .i64 ((m+1:Nat):Int) 1=(m:Int):=by rw [subV_id (by omega) (by omega)]; omega
 refine s122_callW (by simp) ?_
 simp only [s122]
 refine Yc fun N1 hN1=>?_
 simp (maxSteps:=2000000) only [s122,↓Za,↓Zi,↓Zr,↓Ze,↓Zj,↓Zs,↓Zg,↓Zo,↓Zf,↓Zb,↓Zc,↓vdn,vup,Zm,Zk,Zn,Zl,Zh,List.map_cons,List.map_nil,cond_true,cond_false,aop,Zv,Zq,Zp,ev,sput,Zt,Zy,Ya,unK,Zd,Zw,Nat.reduceBEq,Nat.reduceAdd,Int.reduceBEq,Int.reduceBNe,Int.reduceLT,Zu,Zz,tup,tyf,Yr,List.nil_append,List.append_nil,List.toList_toArray,List.cons_append,boxPr,Xj]
 have c0:=Yp h (Blk.cells [Zx ((i:Nat):Int),Zx ((j:Nat):Int)] 33 false)
 have hE0:Ext (fun _=>False) h (h++[Blk.cells [Zx ((i:Nat):Int),Zx ((j:Nat):Int)] 33 false]):=Ext.app _ _ _
 have g3:=Yy h3 [Blk.cells [Zx ((i:Nat):Int),Zx ((j:Nat):Int)] 33 false]
 have g4:=Yy h4 [Blk.cells [Zx ((i:Nat):Int),Zx ((j:Nat):Int)] 33 false]
 have g5:=Yy h5 [Blk.cells [Zx ((i:Nat):Int),Zx ((j:Nat):Int)] 33 false]
 have hsG:=hs.ext hE0
 generalize h++[Blk.cells [Zx ((i:Nat):Int),Zx ((j:Nat):Int)] 33 false]=G at c0 hE0 g3 g4 g5 hsG ⊢
 generalize h.length=b0 at c0 ⊢
 refine hN1 [(0,pV ((i:Int),(j:Int))),(1,ptB b3),(2,ptB b4),(3,ptB b5),(4,ptB b0),(5,.bool false)] _ _ ?_ (by simp (maxSteps:=2000000) only [↓Za,↓Zi,↓Zr,↓Ze,↓Zj,↓Zs,↓Zg,↓Zo,↓Zf,↓Zb,↓Zc,↓vdn,vup,Zm,Zk,Zn,Zl,Zh,List.map_cons,List.map_nil,cond_true,cond_false,aop,Zv,Zq,Zp,ev,sput,Zt,Zy,Ya,unK,Zd,Zw,Nat.reduceBEq,Nat.reduceAdd,Int.reduceBEq,Int.reduceBNe,Int.reduceLT,Zu,Zz,tup,tyf])
 clear hN1
 try clear N1
 refine Yf ?_
 simp (maxSteps:=2000000) only [s122,↓Za,↓Zi,↓Zr,↓Ze,↓Zj,↓Zs,↓Zg,↓Zo,↓Zf,↓Zb,↓Zc,↓vdn,vup,Zm,Zk,Zn,Zl,Zh,List.map_cons,List.map_nil,cond_true,cond_false,aop,Zv,Zq,Zp,ev,sput,Zt,Zy,Ya,unK,Zd,Zw,Nat.reduceBEq,Nat.reduceAdd,Int.reduceBEq,Int.reduceBNe,Int.reduceLT,Zu,Zz,tup,tyf]
 refine Xs [(6,1),(9,4),(17,1),(20,4)] (by kernel_rfl) (by kernel_rfl) (by kernel_rfl) (by kernel_rfl) ?_
 simp (maxSteps:=2000000) only [s122,↓Za,↓Zi,↓Zr,↓Ze,↓Zj,↓Zs,↓Zg,↓Zo,↓Zf,↓Zb,↓Zc,↓vdn,vup,Zm,Zk,Zn,Zl,Zh,List.map_cons,List.map_nil,cond_true,cond_false,aop,Zv,Zq,Zp,ev,sput,Zt,Zy,Ya,unK,Zd,Zw,Nat.reduceBEq,Nat.reduceAdd,Int.reduceBEq,Int.reduceBNe,Int.reduceLT,Zu,Zz,tup,tyf,Wa g3 shp_97,Xy g4 Yn hl.2,pidx0,pidx1,pl0 c0,pl1 c0,Yr,List.nil_append,List.append_nil,List.toList_toArray,List.cons_append]
 refine ⟨_,_,add_call ho hi hj,rfl,?_⟩
 simp (maxSteps:=2000000) only [s122,↓Za,↓Zi,↓Zr,↓Ze,↓Zj,↓Zs,↓Zg,↓Zo,↓Zf,↓Zb,↓Zc,↓vdn,vup,Zm,Zk,Zn,Zl,Zh,List.map_cons,List.map_nil,cond_true,cond_false,aop,Zv,Zq,Zp,ev,sput,Zt,Zy,Ya,unK,Zd,Zw,Nat.reduceBEq,Nat.reduceAdd,Int.reduceBEq,Int.reduceBNe,Int.reduceLT,Zu,Zz,tup,tyf,Wa g5 Xd,hsub,Yr,List.nil_append,List.append_nil,List.toList_toArray,List.cons_append]
 refine (ih G _ o1 hsG).mono ?_
 rintro _ G2 ⟨rfl,hs2,hE2⟩
 have k0:=(hE2.2 _ (Yg c0) (hsG.ne c0)).trans c0
 have k3:=(hE2.2 _ (Yg g3) (hsG.ne g3)).trans g3
 have k4:=(hE2.2 _ (Yg g4) (hsG.ne g4)).trans g4
 have k5:=(hE2.2 _ (Yg g5) (hsG.ne g5)).trans g5
 have hE3:Ext (fun b=>b=bm) h G2:=(hE0.mono fun _ h=>h.elim).trans hE2
 cases hb:Wv m (Wp o i j) with
 | false =>
   simp (maxSteps:=2000000) only [s122,↓Za,↓Zi,↓Zr,↓Ze,↓Zj,↓Zs,↓Zg,↓Zo,↓Zf,↓Zb,↓Zc,↓vdn,vup,Zm,Zk,Zn,Zl,Zh,List.map_cons,List.map_nil,cond_true,cond_false,aop,Zv,Zq,Zp,ev,sput,Zt,Zy,Ya,unK,Zd,Zw,Nat.reduceBEq,Nat.reduceAdd,Int.reduceBEq,Int.reduceBNe,Int.reduceLT,Zu,Zz,tup,tyf,hb]
   exact ⟨by rw [bothB,hb]; rfl,hs2,hE3⟩
 | true =>
   simp (maxSteps:=2000000) only [s122,↓Za,↓Zi,↓Zr,↓Ze,↓Zj,↓Zs,↓Zg,↓Zo,↓Zf,↓Zb,↓Zc,↓vdn,vup,Zm,Zk,Zn,Zl,Zh,List.map_cons,List.map_nil,cond_true,cond_false,aop,Zv,Zq,Zp,ev,sput,Zt,Zy,Ya,unK,Zd,Zw,Nat.reduceBEq,Nat.reduceAdd,Int.reduceBEq,Int.reduceBNe,Int.reduceLT,Zu,Zz,tup,tyf,hb,Wa k3 shp_97,Xy k4 Yn hl.2,pidx0,pidx1,pl0 k0,pl1 k0,Yr,List.nil_append,List.append_nil,List.toList_toArray,List.cons_append]
   refine ⟨_,_,add_call ho hj hi,rfl,?_⟩
   simp (maxSteps:=2000000) only [s122,↓Za,↓Zi,↓Zr,↓Ze,↓Zj,↓Zs,↓Zg,↓Zo,↓Zf,↓Zb,↓Zc,↓vdn,vup,Zm,Zk,Zn,Zl,Zh,List.map_cons,List.map_nil,cond_true,cond_false,aop,Zv,Zq,Zp,ev,sput,Zt,Zy,Ya,unK,Zd,Zw,Nat.reduceBEq,Nat.reduceAdd,Int.reduceBEq,Int.reduceBNe,Int.reduceLT,Zu,Zz,tup,tyf,Wa k5 Xd,hsub,Yr,List.nil_append,List.append_nil,List.toList_toArray,List.cons_append]
   refine (ih G2 _ o2 hs2).mono ?_
   rintro _ G4 ⟨rfl,hs4,hE4⟩
   try simp (maxSteps:=2000000) only [s122,↓Za,↓Zi,↓Zr,↓Ze,↓Zj,↓Zs,↓Zg,↓Zo,↓Zf,↓Zb,↓Zc,↓vdn,vup,Zm,Zk,Zn,Zl,Zh,List.map_cons,List.map_nil,cond_true,cond_false,aop,Zv,Zq,Zp,ev,sput,Zt,Zy,Ya,unK,Zd,Zw,Nat.reduceBEq,Nat.reduceAdd,Int.reduceBEq,Int.reduceBNe,Int.reduceLT,Zu,Zz,tup,tyf]
   exact ⟨by rw [bothB,hb]; rfl,hs4,hE3.trans hE4⟩
def rowF (o:List Int) (i j:Nat):List (Nat×Nat):=(((List.range j).filter fun b=>decide (i<b)).filter fun b=>fr o i b).map fun b=>(i,b)
def allF (o:List Int):Nat→List (Nat×Nat)
 | 0=>[]
 | i+1=>allF o i++rowF o i o.length
theorem rowF_le (o:List Int) (i:Nat):(rowF o i (i+1))=[]:=by
 rw [rowF]
 have:(List.range (i+1)).filter (fun b=>decide (i<b))=[]:=by
  rw [List.filter_eq_nil_iff]
  intro b hb
  have:=List.mem_range.1 hb
  simp; omega
 rw [this]; rfl
theorem rowF_succ (o:List Int) {i j:Nat} (h:i<j):rowF o i (j+1)=rowF o i j++if fr o i j=true then [(i,j)] else []:=by
 rw [rowF,List.range_succ,List.filter_append,List.filter_append,List.map_append,rowF]
 simp [h,List.filter_cons]
 split <;> simp
theorem row_len (i:Nat) : ∀ j,((List.range j).filter fun b=>decide (i<b)).length≤j-1-i
 | 0=>by simp
 | j+1=>by
   have:=row_len i j
   rw [List.range_succ,List.filter_append,List.length_append,List.filter_cons]
   by_cases h:i<j
   · rw [if_pos (by simpa using h)]; simp; omega
   · rw [if_neg (by simpa using h)]; simp; omega
theorem rowF_len (o:List Int) (i j:Nat):(rowF o i j).length≤j-1-i:=by
 rw [rowF,List.length_map]
 exact Nat.le_trans (List.length_filter_le _ _) (row_len i j)
def triN (n:Nat):Nat→Nat
 | 0=>0
 | i+1=>triN n i+(n-1-i)
theorem allF_len (o:List Int) : ∀ i,(allF o i).length≤triN o.length i
 | 0=>Nat.le_refl _
 | i+1=>by
   have h1:=allF_len o i
   have h2:=rowF_len o i o.length
   rw [allF,List.length_append,triN]; omega
theorem tri_le : ∀ n,n<7→triN n n≤15:=by decide
theorem allF_15 {o:List Int} (h:o.length≤6):(allF o o.length).length≤15:=Nat.le_trans (allF_len o _) (tri_le _ (by omega))
theorem mem_rowF {o:List Int} {i j:Nat} {p:Nat×Nat}:p∈rowF o i j↔p.1=i∧i<p.2∧p.2<j∧fr o i p.2=true:=by
 simp only [rowF,List.mem_map,List.mem_filter,List.mem_range,decide_eq_true_eq]
 constructor
 · rintro ⟨b,⟨⟨h1,h2⟩,h3⟩,rfl⟩; exact ⟨rfl,h2,h1,h3⟩
 · rintro ⟨rfl,h2,h1,h3⟩; exact ⟨p.2,⟨⟨h1,h2⟩,h3⟩,rfl⟩
theorem mem_allF {o:List Int} {p:Nat×Nat} : ∀ {i},p∈allF o i↔p.1<i∧p.1<p.2∧p.2<o.length∧fr o p.1 p.2=true
 | 0=>by simp [allF]
 | i+1=>by
   rw [allF,List.mem_append,mem_allF,mem_rowF]
   constructor
   · rintro (⟨h1,h2⟩ | ⟨rfl,h2⟩)
     · exact ⟨by omega,h2⟩
     · exact ⟨by omega,h2⟩
   · rintro ⟨h1,h2,h3,h4⟩
     by_cases hp:p.1=i
     · exact .inr ⟨hp,by omega,h3,by rw [← hp]; exact h4⟩
     · exact .inl ⟨by omega,h2,h3,h4⟩
def pairB (m:Nat) (o:List Int):Bool:=(List.range o.length).any fun i=>(List.range o.length).any fun j=>decide (i<j)&&(fr o i j&&(Wv m (Wp o i j)&&Wv m (Wp o j i)))
theorem pairB_true {m:Nat} {o:List Int} {i j:Nat} (hij:i<j) (hj:j<o.length) (hf:fr o i j=true) (hb:bothB m o i j=true):pairB m o=true:=by
 refine List.any_eq_true.2 ⟨i,List.mem_range.2 (by omega),List.any_eq_true.2 ⟨j,List.mem_range.2 hj,?_⟩⟩
 rw [show decide (i<j)=true from decide_eq_true hij,hf]; exact hb
theorem pairB_false {m:Nat} {o:List Int} (h : ∀ i j,i<j→j<o.length→fr o i j=true→bothB m o i j=false):pairB m o=false:=by
 cases hb:pairB m o with
 | false=>rfl
 | true =>
   obtain ⟨i,hi,h1⟩:=List.any_eq_true.1 hb
   obtain ⟨j,hj,h2⟩:=List.any_eq_true.1 h1
   rw [Bool.and_eq_true,Bool.and_eq_true,decide_eq_true_eq] at h2
   have:=h i j h2.1 (List.mem_range.1 hj) h2.2.1
   rw [bothB,h2.2.2] at this; cases this
theorem srtb_succ (m:Nat) (o:List Int):Wv (m+1) o=(cn o==1 || (decide (cn o≤2 ^ (m+1))&&pairB m o)):=rfl
def iPP (l:List (Nat×Nat)):List (Int×Int):=l.map fun p=>((p.1:Int),(p.2:Int))
theorem iPP_len (l:List (Nat×Nat)):(iPP l).length=l.length:=List.length_map _
theorem iPP_app (a b:List (Nat×Nat)):iPP (a++b)=iPP a++iPP b:=List.map_append
theorem mem_iPP {l:List (Nat×Nat)} {p:Int×Int} (h:p∈iPP l) : ∃ a b:Nat,p=((a:Int),(b:Int))∧(a,b)∈l:=by
 obtain ⟨q,hq,rfl⟩:=List.mem_map.1 h
 exact ⟨q.1,q.2,rfl,hq⟩
end Go.Proofs.Tryd.Am

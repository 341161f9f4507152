/-
  Printed by gen.py: the code of some functions, without what no step looks at; held against the program's own by the kernel.
  sure: fractions as weights.
  sure: the simplex method, always by the first number that helps: a turn keeps what is known of a tableau. Plain Lean, no program.
  sure: the simplex method, always by the first number that helps: it ends. Plain Lean, no program.
  sure: the simplex method: all numbers of a tableau are small. Plain Lean, no program.
  sure: the simplex method: all numbers of a tableau are parts of one number, neither great. Plain Lean, no program.
  sure: the simplex method: it ends, at the greatest sum. Plain Lean, no program.
  sure: the reference's fractions: sum, product, quotient.
  sure: rows of fractions in memory; a row taken away from another one.
  sure: the tableau in memory; the first column that helps, and the first row that stops it.
-/
import Derived.Test.YtaagkbbphgdcdaaDoorPk3
import Derived.Test.YtaagkbbphgdcdaaDoorProg
import Derived.KernelRfl
import Derived.Shelf.Abstract
import Derived.Test.YtaagkbbphgdcdaaDoorPk9
import Derived.Test.YtaagkbbphgdcdaaDoorPk5
import Derived.Test.YtaagkbbphgdcdaaDoorPk8
import Derived.Test.YtaagkbbphgdcdaaDoorPk4
set_option linter.all false
namespace Go.Proofs.Tryd.Am
open Go.Am
set_option maxRecDepth 100000
/-! 46: planchet planchetref05.Channel -/
@[reducible] def q46_0:SCode:=.region [⟨some 2,.assign (.const (.bool false)),none⟩]
@[reducible] def q46_1:SCode:=.region [⟨some 5,.move (.tmp 0),none⟩,
  ⟨some 6,.call { callee:=.builtin .len,args:=#[.tmp 5],argTypes:=#[22] },none⟩,
  ⟨some 7,.move (.const (.int .i64 0)),none⟩]
@[reducible] def q46_2:SCode:=.region [⟨some 8,.binOp .lss 3 (.tmp 7) (.tmp 6) 3,none⟩]
@[reducible] def q46_3:SCode:=.region [⟨some 9,.indexAddr 22 (.tmp 5) (.tmp 7),none⟩,
  ⟨some 10,.load 3 (.tmp 9),none⟩,
  ⟨some 4,.assign (.tmp 10),none⟩]
@[reducible] def q46_4:SCode:=.region [⟨some 11,.move (.tmp 4),none⟩,
  ⟨some 12,.binOp .lss 3 (.tmp 11) (.const (.int .i64 1)) 3,none⟩,
  ⟨some 13,.move (.tmp 12),none⟩,
  ⟨some 14,.move (.tmp 4),some (13,false)⟩,
  ⟨some 15,.binOp .gtr 3 (.tmp 14) (.const (.int .i64 255)) 3,some (13,false)⟩,
  ⟨some 16,.pick (.tmp 13) (.const (.bool true)) (.tmp 15),none⟩]
@[reducible] def q46_5:SCode:=.region [⟨some 2,.assign (.const (.bool false)),none⟩]
@[reducible] def q46_6:SCode:=.region [⟨some 17,.binOp .add 3 (.tmp 7) (.const (.int .i64 1)) 3,none⟩,
  ⟨some 7,.move (.tmp 17),none⟩]
def l46_0:SCode:=(.seq q46_2 (.seq (.cond (.tmp 8) .skip (.exit 0)) (.seq (.block 1 (.seq q46_3 (.seq q46_4 (.cond (.tmp 16) (.seq q46_5 .ret) .skip)))) q46_6)))
@[reducible] def q46_7:SCode:=.region [⟨some 18,.move (.tmp 0),none⟩,
  ⟨some 19,.call { callee:=.builtin .len,args:=#[.tmp 18],argTypes:=#[22] },none⟩,
  ⟨some 20,.binOp .geq 3 (.tmp 19) (.const (.int .i64 1)) 3,none⟩,
  ⟨some 21,.move (.tmp 20),none⟩,
  ⟨some 22,.move (.tmp 0),some (21,true)⟩,
  ⟨some 23,.call { callee:=.builtin .len,args:=#[.tmp 22],argTypes:=#[22] },some (21,true)⟩,
  ⟨some 24,.binOp .leq 3 (.tmp 23) (.const (.int .i64 6)) 3,some (21,true)⟩,
  ⟨some 25,.pick (.tmp 21) (.tmp 24) (.const (.bool false)),none⟩,
  ⟨some 2,.assign (.tmp 25),none⟩]
def s46:SCode:=(.seq q46_0 (.seq (.seq q46_1 (.block 0 (.loop l46_0))) (.seq q46_7 .ret)))
theorem s46_strip:Zy (Zw Tryd.f46)=s46:=by kernel_rfl
theorem s46_ok:Yn 26 (Zw Tryd.f46)=true:=by kernel_rfl
/-! 47: planchet planchetref05.Confusions -/
@[reducible] def q47_0:SCode:=.region [⟨some 2,.assign (.const (.slice none 0 0)),none⟩]
@[reducible] def q47_1:SCode:=.region [⟨some 8,.move (.tmp 0),none⟩,
  ⟨some 9,.call { callee:=.builtin .len,args:=#[.tmp 8],argTypes:=#[22] },none⟩,
  ⟨some 10,.makeSlice 22 (.tmp 9) (.tmp 9),none⟩,
  ⟨some 3,.assign (.tmp 10),none⟩]
@[reducible] def q47_2:SCode:=.region [⟨some 11,.move (.tmp 0),none⟩,
  ⟨some 12,.call { callee:=.builtin .len,args:=#[.tmp 11],argTypes:=#[22] },none⟩,
  ⟨some 13,.move (.const (.int .i64 0)),none⟩]
@[reducible] def q47_3:SCode:=.region [⟨some 14,.binOp .lss 3 (.tmp 13) (.tmp 12) 3,none⟩]
@[reducible] def q47_4:SCode:=.region [⟨some 15,.move (.tmp 13),none⟩,
  ⟨some 16,.indexAddr 22 (.tmp 11) (.tmp 13),none⟩,
  ⟨some 17,.load 3 (.tmp 16),none⟩,
  ⟨some 4,.assign (.tmp 15),none⟩,
  ⟨some 5,.assign (.tmp 17),none⟩]
@[reducible] def q47_5:SCode:=.region [⟨some 18,.move (.tmp 0),none⟩,
  ⟨some 19,.call { callee:=.builtin .len,args:=#[.tmp 18],argTypes:=#[22] },none⟩,
  ⟨some 20,.move (.const (.int .i64 0)),none⟩]
@[reducible] def q47_6:SCode:=.region [⟨some 21,.binOp .lss 3 (.tmp 20) (.tmp 19) 3,none⟩]
@[reducible] def q47_7:SCode:=.region [⟨some 22,.move (.tmp 20),none⟩,
  ⟨some 23,.indexAddr 22 (.tmp 18) (.tmp 20),none⟩,
  ⟨some 24,.load 3 (.tmp 23),none⟩,
  ⟨some 6,.assign (.tmp 22),none⟩,
  ⟨some 7,.assign (.tmp 24),none⟩]
@[reducible] def q47_8:SCode:=.region [⟨some 25,.move (.tmp 4),none⟩,
  ⟨some 26,.move (.tmp 6),none⟩,
  ⟨some 27,.binOp .neq 3 (.tmp 25) (.tmp 26) 3,none⟩,
  ⟨some 28,.move (.tmp 27),none⟩,
  ⟨some 29,.move (.tmp 5),some (28,true)⟩,
  ⟨some 30,.move (.tmp 7),some (28,true)⟩,
  ⟨some 31,.binOp .and 3 (.tmp 29) (.tmp 30) 3,some (28,true)⟩,
  ⟨some 32,.binOp .neq 3 (.tmp 31) (.const (.int .i64 0)) 3,some (28,true)⟩,
  ⟨some 33,.pick (.tmp 28) (.tmp 32) (.const (.bool false)),none⟩]
def q47_9:SCode:=.draw [⟨some 34,.move (.tmp 3),none⟩,
    ⟨some 35,.move (.tmp 4),none⟩,
    ⟨some 36,.indexAddr 22 (.tmp 34) (.tmp 35),none⟩,
    ⟨some 37,.load 3 (.tmp 36),none⟩,
    ⟨some 38,.move (.tmp 6),none⟩,
    ⟨some 39,.binOp .shl 3 (.const (.int .i64 1)) (.tmp 38) 3,none⟩,
    ⟨some 40,.binOp .or 3 (.tmp 37) (.tmp 39) 3,none⟩,
    ⟨some 41,.indexAddr 22 (.tmp 34) (.tmp 35),none⟩,
    ⟨none,.store 3 (.tmp 41) (.tmp 40),none⟩]
  [[],[],[0,1],[2],[],[4],[3,5],[0,1,0,1,2,3,4,5,6],[7,6,0,1,2,3,4,5,6]]
@[reducible] def q47_10:SCode:=.region [⟨some 42,.binOp .add 3 (.tmp 20) (.const (.int .i64 1)) 3,none⟩,
  ⟨some 20,.move (.tmp 42),none⟩]
def l47_0:SCode:=(.seq q47_6 (.seq (.cond (.tmp 21) .skip (.exit 2)) (.seq (.block 3 (.seq q47_7 (.seq q47_8 (.cond (.tmp 33) q47_9 .skip)))) q47_10)))
@[reducible] def q47_11:SCode:=.region [⟨some 43,.binOp .add 3 (.tmp 13) (.const (.int .i64 1)) 3,none⟩,
  ⟨some 13,.move (.tmp 43),none⟩]
def l47_1:SCode:=(.seq q47_3 (.seq (.cond (.tmp 14) .skip (.exit 0)) (.seq (.block 1 (.seq q47_4 (.seq q47_5 (.block 2 (.loop l47_0))))) q47_11)))
@[reducible] def q47_12:SCode:=.region [⟨some 44,.move (.tmp 3),none⟩,
  ⟨some 2,.assign (.tmp 44),none⟩]
def s47:SCode:=(.seq q47_0 (.seq q47_1 (.seq (.seq q47_2 (.block 0 (.loop l47_1))) (.seq q47_12 .ret))))
theorem s47_strip:Zy (Zw Tryd.f47)=s47:=by kernel_rfl
theorem s47_ok:Yn 45 (Zw Tryd.f47)=true:=by kernel_rfl
/-! 48: planchet planchetref05.Back -/
@[reducible] def q48_0:SCode:=.region [⟨some 2,.alloc 44,none⟩]
@[reducible] def q48_1:SCode:=.region [⟨some 3,.assign (.const (.slice none 0 0)),none⟩]
@[reducible] def q48_2:SCode:=.region [⟨some 8,.move (.const (.int .i64 0)),none⟩]
@[reducible] def q48_3:SCode:=.region [⟨some 9,.binOp .lss 3 (.tmp 8) (.const (.int .i64 8)) 3,none⟩]
@[reducible] def q48_4:SCode:=.region [⟨some 10,.move (.tmp 8),none⟩,
  ⟨some 4,.assign (.tmp 10),none⟩]
@[reducible] def q48_5:SCode:=.region [⟨some 5,.assign (.const (.int .i64 0)),none⟩]
@[reducible] def q48_6:SCode:=.region [⟨some 11,.move (.tmp 0),none⟩,
  ⟨some 12,.call { callee:=.builtin .len,args:=#[.tmp 11],argTypes:=#[22] },none⟩,
  ⟨some 13,.move (.const (.int .i64 0)),none⟩]
@[reducible] def q48_7:SCode:=.region [⟨some 14,.binOp .lss 3 (.tmp 13) (.tmp 12) 3,none⟩]
@[reducible] def q48_8:SCode:=.region [⟨some 15,.move (.tmp 13),none⟩,
  ⟨some 16,.indexAddr 22 (.tmp 11) (.tmp 13),none⟩,
  ⟨some 17,.load 3 (.tmp 16),none⟩,
  ⟨some 6,.assign (.tmp 15),none⟩,
  ⟨some 7,.assign (.tmp 17),none⟩]
@[reducible] def q48_9:SCode:=.region [⟨some 18,.move (.tmp 5),none⟩,
  ⟨some 19,.move (.tmp 7),none⟩,
  ⟨some 20,.move (.tmp 4),none⟩,
  ⟨some 21,.binOp .shr 3 (.tmp 19) (.tmp 20) 3,none⟩,
  ⟨some 22,.binOp .and 3 (.tmp 21) (.const (.int .i64 1)) 3,none⟩,
  ⟨some 23,.move (.tmp 6),none⟩,
  ⟨some 24,.binOp .shl 3 (.tmp 22) (.tmp 23) 3,none⟩,
  ⟨some 25,.binOp .or 3 (.tmp 18) (.tmp 24) 3,none⟩,
  ⟨some 5,.assign (.tmp 25),none⟩]
@[reducible] def q48_10:SCode:=.region [⟨some 26,.binOp .add 3 (.tmp 13) (.const (.int .i64 1)) 3,none⟩,
  ⟨some 13,.move (.tmp 26),none⟩]
def l48_0:SCode:=(.seq q48_7 (.seq (.cond (.tmp 14) .skip (.exit 2)) (.seq (.block 3 (.seq q48_8 q48_9)) q48_10)))
@[reducible] def q48_11:SCode:=.region [⟨some 27,.move (.tmp 5),none⟩,
  ⟨some 28,.binOp .gtr 3 (.tmp 27) (.const (.int .i64 0)) 3,none⟩]
@[reducible] def q48_12:SCode:=.region [⟨some 29,.move (.tmp 3),none⟩,
  ⟨some 30,.move (.tmp 5),none⟩,
  ⟨some 31,.buildSlice 22 1 #[(0,.tmp 30)],none⟩,
  ⟨some 32,.call { callee:=.builtin .append,args:=#[.tmp 29,.tmp 31],argTypes:=#[22,22] },none⟩,
  ⟨some 3,.assign (.tmp 32),none⟩]
@[reducible] def q48_13:SCode:=.region [⟨some 33,.binOp .add 3 (.tmp 8) (.const (.int .i64 1)) 3,none⟩,
  ⟨some 8,.move (.tmp 33),none⟩]
def l48_1:SCode:=(.seq q48_3 (.seq (.cond (.tmp 9) .skip (.exit 0)) (.seq (.block 1 (.seq q48_4 (.seq q48_5 (.seq (.seq q48_6 (.block 2 (.loop l48_0))) (.seq q48_11 (.cond (.tmp 28) q48_12 .skip)))))) q48_13)))
@[reducible] def q48_14:SCode:=.region [⟨some 34,.build 44 #[(0,.const (.int .i64 1)),(1,.const (.int .i64 1))],none⟩,
  ⟨some 35,.move (.tmp 0),none⟩,
  ⟨some 36,.call { callee:=.builtin .len,args:=#[.tmp 35],argTypes:=#[22] },none⟩,
  ⟨some 37,.move (.tmp 3),none⟩,
  ⟨some 38,.call { callee:=.value (.func 67),args:=#[.tmp 36,.tmp 37],argTypes:=#[3,22] },none⟩,
  ⟨some 39,.call { callee:=.value (.func 73),args:=#[.tmp 34,.tmp 38],argTypes:=#[44,44] },none⟩,
  ⟨none,.store 44 (.tmp 2) (.tmp 39),none⟩]
def s48:SCode:=(.seq q48_0 (.seq q48_1 (.seq (.seq q48_2 (.block 0 (.loop l48_1))) (.seq q48_14 .ret))))
theorem s48_strip:Zy (Zw Tryd.f48)=s48:=by kernel_rfl
theorem s48_ok:Yn 40 (Zw Tryd.f48)=true:=by kernel_rfl
/-! 67: planchet planchetref05.Greatest -/
@[reducible] def q67_0:SCode:=.region [⟨some 4,.alloc 44,none⟩]
@[reducible] def q67_1:SCode:=.region [⟨some 22,.move (.tmp 1),none⟩,
  ⟨some 23,.call { callee:=.builtin .len,args:=#[.tmp 22],argTypes:=#[22] },none⟩,
  ⟨some 5,.assign (.tmp 23),none⟩]
@[reducible] def q67_2:SCode:=.region [⟨some 6,.assign (.const (.slice none 0 0)),none⟩]
@[reducible] def q67_3:SCode:=.region [⟨some 7,.assign (.const (.slice none 0 0)),none⟩]
@[reducible] def q67_4:SCode:=.region [⟨some 24,.move (.tmp 1),none⟩,
  ⟨some 25,.call { callee:=.builtin .len,args:=#[.tmp 24],argTypes:=#[22] },none⟩,
  ⟨some 26,.move (.const (.int .i64 0)),none⟩]
@[reducible] def q67_5:SCode:=.region [⟨some 27,.binOp .lss 3 (.tmp 26) (.tmp 25) 3,none⟩]
@[reducible] def q67_6:SCode:=.region [⟨some 28,.move (.tmp 26),none⟩,
  ⟨some 29,.indexAddr 22 (.tmp 24) (.tmp 26),none⟩,
  ⟨some 30,.load 3 (.tmp 29),none⟩,
  ⟨some 8,.assign (.tmp 28),none⟩,
  ⟨some 9,.assign (.tmp 30),none⟩]
@[reducible] def q67_7:SCode:=.region [⟨some 31,.move (.tmp 0),none⟩,
  ⟨some 32,.move (.tmp 5),none⟩,
  ⟨some 33,.binOp .add 3 (.tmp 31) (.tmp 32) 3,none⟩,
  ⟨some 34,.binOp .add 3 (.tmp 33) (.const (.int .i64 1)) 3,none⟩,
  ⟨some 35,.makeSlice 50 (.tmp 34) (.tmp 34),none⟩,
  ⟨some 10,.assign (.tmp 35),none⟩]
@[reducible] def q67_8:SCode:=.region [⟨some 36,.move (.tmp 10),none⟩,
  ⟨some 37,.call { callee:=.builtin .len,args:=#[.tmp 36],argTypes:=#[50] },none⟩,
  ⟨some 38,.move (.const (.int .i64 0)),none⟩]
@[reducible] def q67_9:SCode:=.region [⟨some 39,.binOp .lss 3 (.tmp 38) (.tmp 37) 3,none⟩]
@[reducible] def q67_10:SCode:=.region [⟨some 40,.move (.tmp 38),none⟩,
  ⟨some 11,.assign (.tmp 40),none⟩]
@[reducible] def q67_11:SCode:=.region [⟨some 41,.move (.tmp 10),none⟩,
  ⟨some 42,.move (.tmp 11),none⟩,
  ⟨some 43,.build 44 #[(1,.const (.int .i64 1))],none⟩,
  ⟨some 44,.indexAddr 50 (.tmp 41) (.tmp 42),none⟩,
  ⟨none,.store 44 (.tmp 44) (.tmp 43),none⟩]
@[reducible] def q67_12:SCode:=.region [⟨some 45,.move (.tmp 11),none⟩,
  ⟨some 46,.move (.tmp 0),none⟩,
  ⟨some 47,.binOp .lss 3 (.tmp 45) (.tmp 46) 3,none⟩,
  ⟨some 48,.move (.tmp 47),none⟩,
  ⟨some 49,.move (.tmp 9),some (48,true)⟩,
  ⟨some 50,.move (.tmp 11),some (48,true)⟩,
  ⟨some 51,.binOp .shr 3 (.tmp 49) (.tmp 50) 3,some (48,true)⟩,
  ⟨some 52,.binOp .and 3 (.tmp 51) (.const (.int .i64 1)) 3,some (48,true)⟩,
  ⟨some 53,.binOp .eql 3 (.tmp 52) (.const (.int .i64 1)) 3,some (48,true)⟩,
  ⟨some 54,.pick (.tmp 48) (.tmp 53) (.const (.bool false)),none⟩,
  ⟨some 55,.move (.tmp 54),none⟩,
  ⟨some 56,.move (.tmp 11),some (55,false)⟩,
  ⟨some 57,.move (.tmp 0),some (55,false)⟩,
  ⟨some 58,.move (.tmp 8),some (55,false)⟩,
  ⟨some 59,.binOp .add 3 (.tmp 57) (.tmp 58) 3,some (55,false)⟩,
  ⟨some 60,.binOp .eql 3 (.tmp 56) (.tmp 59) 3,some (55,false)⟩,
  ⟨some 61,.pick (.tmp 55) (.const (.bool true)) (.tmp 60),none⟩,
  ⟨some 62,.move (.tmp 61),none⟩,
  ⟨some 63,.move (.tmp 11),some (62,false)⟩,
  ⟨some 64,.move (.tmp 0),some (62,false)⟩,
  ⟨some 65,.move (.tmp 5),some (62,false)⟩,
  ⟨some 66,.binOp .add 3 (.tmp 64) (.tmp 65) 3,some (62,false)⟩,
  ⟨some 67,.binOp .eql 3 (.tmp 63) (.tmp 66) 3,some (62,false)⟩,
  ⟨some 68,.pick (.tmp 62) (.const (.bool true)) (.tmp 67),none⟩]
@[reducible] def q67_13:SCode:=.region [⟨some 69,.move (.tmp 10),none⟩,
  ⟨some 70,.move (.tmp 11),none⟩,
  ⟨some 71,.indexAddr 50 (.tmp 69) (.tmp 70),none⟩,
  ⟨some 72,.fieldAddr 44 (.tmp 71) 0,none⟩,
  ⟨none,.store 3 (.tmp 72) (.const (.int .i64 1)),none⟩]
@[reducible] def q67_14:SCode:=.region [⟨some 73,.binOp .add 3 (.tmp 38) (.const (.int .i64 1)) 3,none⟩,
  ⟨some 38,.move (.tmp 73),none⟩]
def l67_0:SCode:=(.seq q67_9 (.seq (.cond (.tmp 39) .skip (.exit 2)) (.seq (.block 3 (.seq q67_10 (.seq q67_11 (.seq q67_12 (.cond (.tmp 68) q67_13 .skip))))) q67_14)))
@[reducible] def q67_15:SCode:=.region [⟨some 74,.move (.tmp 6),none⟩,
  ⟨some 75,.move (.tmp 10),none⟩,
  ⟨some 76,.buildSlice 89 1 #[(0,.tmp 75)],none⟩,
  ⟨some 77,.call { callee:=.builtin .append,args:=#[.tmp 74,.tmp 76],argTypes:=#[89,89] },none⟩,
  ⟨some 6,.assign (.tmp 77),none⟩]
@[reducible] def q67_16:SCode:=.region [⟨some 78,.move (.tmp 7),none⟩,
  ⟨some 79,.move (.tmp 0),none⟩,
  ⟨some 80,.move (.tmp 8),none⟩,
  ⟨some 81,.binOp .add 3 (.tmp 79) (.tmp 80) 3,none⟩,
  ⟨some 82,.buildSlice 22 1 #[(0,.tmp 81)],none⟩,
  ⟨some 83,.call { callee:=.builtin .append,args:=#[.tmp 78,.tmp 82],argTypes:=#[22,22] },none⟩,
  ⟨some 7,.assign (.tmp 83),none⟩]
@[reducible] def q67_17:SCode:=.region [⟨some 84,.binOp .add 3 (.tmp 26) (.const (.int .i64 1)) 3,none⟩,
  ⟨some 26,.move (.tmp 84),none⟩]
def l67_1:SCode:=(.seq q67_5 (.seq (.cond (.tmp 27) .skip (.exit 0)) (.seq (.block 1 (.seq q67_6 (.seq q67_7 (.seq (.seq q67_8 (.block 2 (.loop l67_0))) (.seq q67_15 q67_16))))) q67_17)))
@[reducible] def q67_18:SCode:=.region [⟨some 85,.move (.tmp 0),none⟩,
  ⟨some 86,.move (.tmp 5),none⟩,
  ⟨some 87,.binOp .add 3 (.tmp 85) (.tmp 86) 3,none⟩,
  ⟨some 88,.binOp .add 3 (.tmp 87) (.const (.int .i64 1)) 3,none⟩,
  ⟨some 89,.makeSlice 50 (.tmp 88) (.tmp 88),none⟩,
  ⟨some 12,.assign (.tmp 89),none⟩]
@[reducible] def q67_19:SCode:=.region [⟨some 90,.move (.tmp 12),none⟩,
  ⟨some 91,.call { callee:=.builtin .len,args:=#[.tmp 90],argTypes:=#[50] },none⟩,
  ⟨some 92,.move (.const (.int .i64 0)),none⟩]
@[reducible] def q67_20:SCode:=.region [⟨some 93,.binOp .lss 3 (.tmp 92) (.tmp 91) 3,none⟩]
@[reducible] def q67_21:SCode:=.region [⟨some 94,.move (.tmp 92),none⟩,
  ⟨some 13,.assign (.tmp 94),none⟩]
@[reducible] def q67_22:SCode:=.region [⟨some 95,.move (.tmp 12),none⟩,
  ⟨some 96,.move (.tmp 13),none⟩,
  ⟨some 97,.build 44 #[(1,.const (.int .i64 1))],none⟩,
  ⟨some 98,.indexAddr 50 (.tmp 95) (.tmp 96),none⟩,
  ⟨none,.store 44 (.tmp 98) (.tmp 97),none⟩]
@[reducible] def q67_23:SCode:=.region [⟨some 99,.move (.tmp 13),none⟩,
  ⟨some 100,.move (.tmp 0),none⟩,
  ⟨some 101,.binOp .lss 3 (.tmp 99) (.tmp 100) 3,none⟩]
@[reducible] def q67_24:SCode:=.region [⟨some 102,.move (.tmp 12),none⟩,
  ⟨some 103,.move (.tmp 13),none⟩,
  ⟨some 104,.indexAddr 50 (.tmp 102) (.tmp 103),none⟩,
  ⟨some 105,.fieldAddr 44 (.tmp 104) 0,none⟩,
  ⟨none,.store 3 (.tmp 105) (.const (.int .i64 1)),none⟩]
@[reducible] def q67_25:SCode:=.region [⟨some 106,.binOp .add 3 (.tmp 92) (.const (.int .i64 1)) 3,none⟩,
  ⟨some 92,.move (.tmp 106),none⟩]
def l67_2:SCode:=(.seq q67_20 (.seq (.cond (.tmp 93) .skip (.exit 4)) (.seq (.block 5 (.seq q67_21 (.seq q67_22 (.seq q67_23 (.cond (.tmp 101) q67_24 .skip))))) q67_25)))
@[reducible] def q67_26:SCode:=.region [⟨some 14,.assign (.const (.int .i64 0)),none⟩]
@[reducible] def q67_27:SCode:=.region [⟨some 107,.move (.tmp 14),none⟩,
  ⟨some 108,.move (.tmp 0),none⟩,
  ⟨some 109,.move (.tmp 5),none⟩,
  ⟨some 110,.binOp .add 3 (.tmp 108) (.tmp 109) 3,none⟩,
  ⟨some 111,.binOp .lss 3 (.tmp 107) (.tmp 110) 3,none⟩,
  ⟨some 112,.move (.tmp 111),none⟩,
  ⟨some 113,.move (.tmp 12),some (112,true)⟩,
  ⟨some 114,.move (.tmp 14),some (112,true)⟩,
  ⟨some 115,.indexAddr 50 (.tmp 113) (.tmp 114),some (112,true)⟩,
  ⟨some 116,.fieldAddr 44 (.tmp 115) 0,some (112,true)⟩,
  ⟨some 117,.load 3 (.tmp 116),some (112,true)⟩,
  ⟨some 118,.binOp .leq 3 (.tmp 117) (.const (.int .i64 0)) 3,some (112,true)⟩,
  ⟨some 119,.pick (.tmp 112) (.tmp 118) (.const (.bool false)),none⟩]
@[reducible] def q67_28:SCode:=.region [⟨some 120,.move (.tmp 14),none⟩,
  ⟨some 121,.binOp .add 3 (.tmp 120) (.const (.int .i64 1)) 3,none⟩,
  ⟨some 14,.assign (.tmp 121),none⟩]
def l67_3:SCode:=(.seq (.seq q67_27 (.cond (.tmp 119) .skip (.exit 8))) (.block 9 q67_28))
@[reducible] def q67_29:SCode:=.region [⟨some 122,.move (.tmp 14),none⟩,
  ⟨some 123,.move (.tmp 0),none⟩,
  ⟨some 124,.move (.tmp 5),none⟩,
  ⟨some 125,.binOp .add 3 (.tmp 123) (.tmp 124) 3,none⟩,
  ⟨some 126,.binOp .eql 3 (.tmp 122) (.tmp 125) 3,none⟩]
@[reducible] def q67_30:SCode:=.region [⟨some 127,.build 44 #[(0,.const (.int .i64 (-1))),(1,.const (.int .i64 1))],none⟩,
  ⟨some 128,.move (.tmp 12),none⟩,
  ⟨some 129,.move (.tmp 0),none⟩,
  ⟨some 130,.move (.tmp 5),none⟩,
  ⟨some 131,.binOp .add 3 (.tmp 129) (.tmp 130) 3,none⟩,
  ⟨some 132,.indexAddr 50 (.tmp 128) (.tmp 131),none⟩,
  ⟨some 133,.load 44 (.tmp 132),none⟩,
  ⟨some 134,.call { callee:=.value (.func 91),args:=#[.tmp 127,.tmp 133],argTypes:=#[44,44] },none⟩,
  ⟨none,.store 44 (.tmp 4) (.tmp 134),none⟩]
@[reducible] def q67_31:SCode:=.region [⟨some 15,.assign (.const (.int .i64 (-1))),none⟩]
@[reducible] def q67_32:SCode:=.region [⟨some 16,.alloc 44,none⟩]
@[reducible] def q67_33:SCode:=.region [⟨some 135,.move (.tmp 6),none⟩,
  ⟨some 136,.call { callee:=.builtin .len,args:=#[.tmp 135],argTypes:=#[89] },none⟩,
  ⟨some 137,.move (.const (.int .i64 0)),none⟩]
@[reducible] def q67_34:SCode:=.region [⟨some 138,.binOp .lss 3 (.tmp 137) (.tmp 136) 3,none⟩]
@[reducible] def q67_35:SCode:=.region [⟨some 139,.move (.tmp 137),none⟩,
  ⟨some 17,.assign (.tmp 139),none⟩]
@[reducible] def q67_36:SCode:=.region [⟨some 140,.move (.tmp 6),none⟩,
  ⟨some 141,.move (.tmp 17),none⟩,
  ⟨some 142,.indexAddr 89 (.tmp 140) (.tmp 141),none⟩,
  ⟨some 143,.load 50 (.tmp 142),none⟩,
  ⟨some 144,.move (.tmp 14),none⟩,
  ⟨some 145,.indexAddr 50 (.tmp 143) (.tmp 144),none⟩,
  ⟨some 146,.fieldAddr 44 (.tmp 145) 0,none⟩,
  ⟨some 147,.load 3 (.tmp 146),none⟩,
  ⟨some 148,.binOp .leq 3 (.tmp 147) (.const (.int .i64 0)) 3,none⟩]
def q67_37:SCode:=.draw [⟨some 149,.move (.tmp 6),none⟩,
    ⟨some 150,.move (.tmp 17),none⟩,
    ⟨some 151,.indexAddr 89 (.tmp 149) (.tmp 150),none⟩,
    ⟨some 152,.load 50 (.tmp 151),none⟩,
    ⟨some 153,.move (.tmp 0),none⟩,
    ⟨some 154,.move (.tmp 5),none⟩,
    ⟨some 155,.binOp .add 3 (.tmp 153) (.tmp 154) 3,none⟩,
    ⟨some 156,.indexAddr 50 (.tmp 152) (.tmp 155),none⟩,
    ⟨some 157,.load 44 (.tmp 156),none⟩,
    ⟨some 158,.move (.tmp 6),none⟩,
    ⟨some 159,.move (.tmp 17),none⟩,
    ⟨some 160,.indexAddr 89 (.tmp 158) (.tmp 159),none⟩,
    ⟨some 161,.load 50 (.tmp 160),none⟩,
    ⟨some 162,.move (.tmp 14),none⟩,
    ⟨some 163,.indexAddr 50 (.tmp 161) (.tmp 162),none⟩,
    ⟨some 164,.load 44 (.tmp 163),none⟩,
    ⟨some 165,.call { callee:=.value (.func 73),args:=#[.tmp 157,.tmp 164],argTypes:=#[44,44] },none⟩,
    ⟨some 18,.alloc 44,none⟩,
    ⟨none,.store 44 (.tmp 18) (.tmp 165),none⟩]
  [[],[],[0,1],[2],[],[],[4,5],[3,6],[7],[],[],[9,10],[11],[],[12,13],[14],[8,15],[],[17,16,16,0,1,2,3,4,5,6,7,8,9,10,11,12,13,14,15,16,17]]
def q67_38:SCode:=.draw [⟨some 166,.move (.tmp 15),none⟩,
    ⟨some 167,.binOp .lss 3 (.tmp 166) (.const (.int .i64 0)) 3,none⟩,
    ⟨some 168,.move (.tmp 167),none⟩,
    ⟨some 169,.load 44 (.tmp 18),some (168,false)⟩,
    ⟨some 170,.load 44 (.tmp 16),some (168,false)⟩,
    ⟨some 171,.call { callee:=.value (.func 37),args:=#[.tmp 169,.tmp 170],argTypes:=#[44,44] },some (168,false)⟩,
    ⟨some 172,.pick (.tmp 168) (.const (.bool true)) (.tmp 171),none⟩,
    ⟨some 173,.move (.tmp 172),none⟩,
    ⟨some 174,.load 44 (.tmp 18),some (173,false)⟩,
    ⟨some 175,.load 44 (.tmp 16),some (173,false)⟩,
    ⟨some 176,.binOp .eql 44 (.tmp 174) (.tmp 175) 44,some (173,false)⟩,
    ⟨some 177,.move (.tmp 176),some (173,false)⟩,
    ⟨some 178,.move (.tmp 7),some (177,true)⟩,
    ⟨some 179,.move (.tmp 17),some (177,true)⟩,
    ⟨some 180,.indexAddr 22 (.tmp 178) (.tmp 179),some (177,true)⟩,
    ⟨some 181,.load 3 (.tmp 180),some (177,true)⟩,
    ⟨some 182,.move (.tmp 7),some (177,true)⟩,
    ⟨some 183,.move (.tmp 15),some (177,true)⟩,
    ⟨some 184,.indexAddr 22 (.tmp 182) (.tmp 183),some (177,true)⟩,
    ⟨some 185,.load 3 (.tmp 184),some (177,true)⟩,
    ⟨some 186,.binOp .lss 3 (.tmp 181) (.tmp 185) 3,some (177,true)⟩,
    ⟨some 187,.pick (.tmp 177) (.tmp 186) (.const (.bool false)),some (173,false)⟩,
    ⟨some 188,.pick (.tmp 173) (.const (.bool true)) (.tmp 187),none⟩]
  [[],[0],[1],[2],[2],[3,4,2,2],[2,5],[6,5],[7],[7],[8,9,7],[10,7,7],[11],[11],[12,13,11],[14,11],[11],[11],[16,17,11],[18,11],[15,19,11],[11,20,7],[7,21]]
def q67_39:SCode:=.draw [⟨some 189,.move (.tmp 17),none⟩,
    ⟨some 190,.load 44 (.tmp 18),none⟩,
    ⟨some 15,.assign (.tmp 189),none⟩,
    ⟨none,.store 44 (.tmp 16) (.tmp 190),none⟩]
  [[],[],[0,0],[1,2,0,1,2]]
@[reducible] def q67_40:SCode:=.region [⟨some 191,.binOp .add 3 (.tmp 137) (.const (.int .i64 1)) 3,none⟩,
  ⟨some 137,.move (.tmp 191),none⟩]
def l67_4:SCode:=(.seq q67_34 (.seq (.cond (.tmp 138) .skip (.exit 10)) (.seq (.block 11 (.seq q67_35 (.seq (.seq q67_36 (.cond (.tmp 148) (.exit 11) .skip)) (.seq q67_37 (.seq q67_38 (.cond (.tmp 188) q67_39 .skip)))))) q67_40)))
@[reducible] def q67_41:SCode:=.region [⟨some 192,.move (.tmp 6),none⟩,
  ⟨some 193,.move (.tmp 15),none⟩,
  ⟨some 194,.indexAddr 89 (.tmp 192) (.tmp 193),none⟩,
  ⟨some 195,.load 50 (.tmp 194),none⟩,
  ⟨some 196,.move (.tmp 14),none⟩,
  ⟨some 197,.indexAddr 50 (.tmp 195) (.tmp 196),none⟩,
  ⟨some 198,.load 44 (.tmp 197),none⟩,
  ⟨some 19,.alloc 44,none⟩,
  ⟨none,.store 44 (.tmp 19) (.tmp 198),none⟩]
@[reducible] def q67_42:SCode:=.region [⟨some 199,.move (.tmp 6),none⟩,
  ⟨some 200,.move (.tmp 15),none⟩,
  ⟨some 201,.indexAddr 89 (.tmp 199) (.tmp 200),none⟩,
  ⟨some 202,.load 50 (.tmp 201),none⟩,
  ⟨some 203,.call { callee:=.builtin .len,args:=#[.tmp 202],argTypes:=#[50] },none⟩,
  ⟨some 204,.move (.const (.int .i64 0)),none⟩]
@[reducible] def q67_43:SCode:=.region [⟨some 205,.binOp .lss 3 (.tmp 204) (.tmp 203) 3,none⟩]
@[reducible] def q67_44:SCode:=.region [⟨some 206,.move (.tmp 204),none⟩,
  ⟨some 20,.assign (.tmp 206),none⟩]
def q67_45:SCode:=.draw [⟨some 207,.move (.tmp 6),none⟩,
    ⟨some 208,.move (.tmp 15),none⟩,
    ⟨some 209,.indexAddr 89 (.tmp 207) (.tmp 208),none⟩,
    ⟨some 210,.load 50 (.tmp 209),none⟩,
    ⟨some 211,.move (.tmp 20),none⟩,
    ⟨some 212,.move (.tmp 6),none⟩,
    ⟨some 213,.move (.tmp 15),none⟩,
    ⟨some 214,.indexAddr 89 (.tmp 212) (.tmp 213),none⟩,
    ⟨some 215,.load 50 (.tmp 214),none⟩,
    ⟨some 216,.move (.tmp 20),none⟩,
    ⟨some 217,.indexAddr 50 (.tmp 215) (.tmp 216),none⟩,
    ⟨some 218,.load 44 (.tmp 217),none⟩,
    ⟨some 219,.load 44 (.tmp 19),none⟩,
    ⟨some 220,.call { callee:=.value (.func 73),args:=#[.tmp 218,.tmp 219],argTypes:=#[44,44] },none⟩,
    ⟨some 221,.indexAddr 50 (.tmp 210) (.tmp 211),none⟩,
    ⟨none,.store 44 (.tmp 221) (.tmp 220),none⟩]
  [[],[],[0,1],[2],[],[],[],[5,6],[7],[],[8,9],[10],[],[11,12],[3,4,0,1,2,3,4,5,6,7,8,9,10,11,12,13],[14,13,13,0,1,2,3,4,5,6,7,8,9,10,11,12,13]]
@[reducible] def q67_46:SCode:=.region [⟨some 222,.binOp .add 3 (.tmp 204) (.const (.int .i64 1)) 3,none⟩,
  ⟨some 204,.move (.tmp 222),none⟩]
def l67_5:SCode:=(.seq q67_43 (.seq (.cond (.tmp 205) .skip (.exit 12)) (.seq (.block 13 (.seq q67_44 q67_45)) q67_46)))
@[reducible] def q67_47:SCode:=.region [⟨some 223,.move (.tmp 7),none⟩,
  ⟨some 224,.move (.tmp 15),none⟩,
  ⟨some 225,.move (.tmp 14),none⟩,
  ⟨some 226,.indexAddr 22 (.tmp 223) (.tmp 224),none⟩,
  ⟨none,.store 3 (.tmp 226) (.tmp 225),none⟩]
@[reducible] def q67_48:SCode:=.region [⟨some 227,.move (.tmp 6),none⟩,
  ⟨some 228,.call { callee:=.builtin .len,args:=#[.tmp 227],argTypes:=#[89] },none⟩,
  ⟨some 229,.move (.const (.int .i64 0)),none⟩]
@[reducible] def q67_49:SCode:=.region [⟨some 230,.binOp .lss 3 (.tmp 229) (.tmp 228) 3,none⟩]
@[reducible] def q67_50:SCode:=.region [⟨some 231,.move (.tmp 229),none⟩,
  ⟨some 21,.assign (.tmp 231),none⟩]
@[reducible] def q67_51:SCode:=.region [⟨some 232,.move (.tmp 21),none⟩,
  ⟨some 233,.move (.tmp 15),none⟩,
  ⟨some 234,.binOp .neq 3 (.tmp 232) (.tmp 233) 3,none⟩]
def q67_52:SCode:=.draw [⟨some 235,.move (.tmp 6),none⟩,
    ⟨some 236,.move (.tmp 21),none⟩,
    ⟨some 237,.indexAddr 89 (.tmp 235) (.tmp 236),none⟩,
    ⟨some 238,.load 50 (.tmp 237),none⟩,
    ⟨some 239,.move (.tmp 6),none⟩,
    ⟨some 240,.move (.tmp 15),none⟩,
    ⟨some 241,.indexAddr 89 (.tmp 239) (.tmp 240),none⟩,
    ⟨some 242,.load 50 (.tmp 241),none⟩,
    ⟨some 243,.move (.tmp 14),none⟩,
    ⟨some 244,.call { callee:=.value (.func 92),args:=#[.tmp 238,.tmp 242,.tmp 243],argTypes:=#[50,50,3] },none⟩]
  [[],[],[0,1],[2],[],[],[4,5],[6],[],[3,7,8]]
@[reducible] def q67_53:SCode:=.region [⟨some 245,.binOp .add 3 (.tmp 229) (.const (.int .i64 1)) 3,none⟩,
  ⟨some 229,.move (.tmp 245),none⟩]
def l67_6:SCode:=(.seq q67_49 (.seq (.cond (.tmp 230) .skip (.exit 14)) (.seq (.block 15 (.seq q67_50 (.seq q67_51 (.cond (.tmp 234) q67_52 .skip)))) q67_53)))
@[reducible] def q67_54:SCode:=.region [⟨some 246,.move (.tmp 12),none⟩,
  ⟨some 247,.move (.tmp 6),none⟩,
  ⟨some 248,.move (.tmp 15),none⟩,
  ⟨some 249,.indexAddr 89 (.tmp 247) (.tmp 248),none⟩,
  ⟨some 250,.load 50 (.tmp 249),none⟩,
  ⟨some 251,.move (.tmp 14),none⟩,
  ⟨some 252,.call { callee:=.value (.func 92),args:=#[.tmp 246,.tmp 250,.tmp 251],argTypes:=#[50,50,3] },none⟩]
def l67_7:SCode:=(.block 7 (.seq q67_26 (.seq (.block 8 (.loop l67_3)) (.seq (.seq q67_29 (.cond (.tmp 126) (.seq q67_30 .ret) .skip)) (.seq q67_31 (.seq q67_32 (.seq (.seq q67_33 (.block 10 (.loop l67_4))) (.seq q67_41 (.seq (.seq q67_42 (.block 12 (.loop l67_5))) (.seq q67_47 (.seq (.seq q67_48 (.block 14 (.loop l67_6))) q67_54)))))))))))
def s67:SCode:=(.seq q67_0 (.seq q67_1 (.seq q67_2 (.seq q67_3 (.seq (.seq q67_4 (.block 0 (.loop l67_1))) (.seq q67_18 (.seq (.seq q67_19 (.block 4 (.loop l67_2))) (.block 6 (.loop l67_7)))))))))
theorem s67_strip:Zy (Zw Tryd.f67)=s67:=by kernel_rfl
theorem s67_ok:Yn 253 (Zw Tryd.f67)=true:=by kernel_rfl
/-! 68: planchet planchetref05.frac -/
@[reducible] def q68_0:SCode:=.region [⟨some 4,.alloc 44,none⟩]
@[reducible] def q68_1:SCode:=.region [⟨some 7,.move (.tmp 1),none⟩,
  ⟨some 8,.binOp .lss 3 (.tmp 7) (.const (.int .i64 0)) 3,none⟩]
@[reducible] def q68_2:SCode:=.region [⟨some 9,.move (.tmp 0),none⟩,
  ⟨some 10,.unOp .neg 3 (.tmp 9),none⟩,
  ⟨some 11,.move (.tmp 1),none⟩,
  ⟨some 12,.unOp .neg 3 (.tmp 11),none⟩,
  ⟨some 0,.assign (.tmp 10),none⟩,
  ⟨some 1,.assign (.tmp 12),none⟩]
@[reducible] def q68_3:SCode:=.region [⟨some 13,.move (.tmp 0),none⟩,
  ⟨some 14,.move (.tmp 0),none⟩,
  ⟨some 15,.unOp .neg 3 (.tmp 14),none⟩,
  ⟨some 16,.call { callee:=.builtin .max,args:=#[.tmp 13,.tmp 15],argTypes:=#[3,3] },none⟩,
  ⟨some 17,.move (.tmp 1),none⟩,
  ⟨some 5,.assign (.tmp 16),none⟩,
  ⟨some 6,.assign (.tmp 17),none⟩]
@[reducible] def q68_4:SCode:=.region [⟨some 18,.move (.tmp 6),none⟩,
  ⟨some 19,.binOp .neq 3 (.tmp 18) (.const (.int .i64 0)) 3,none⟩]
def q68_5:SCode:=.draw [⟨some 20,.move (.tmp 6),none⟩,
    ⟨some 21,.move (.tmp 5),none⟩,
    ⟨some 22,.move (.tmp 6),none⟩,
    ⟨some 23,.binOp .rem 3 (.tmp 21) (.tmp 22) 3,none⟩,
    ⟨some 5,.assign (.tmp 20),none⟩,
    ⟨some 6,.assign (.tmp 23),none⟩]
  [[],[],[],[1,2],[0,0,1],[3,4,0,1,2,3,4]]
def l68_0:SCode:=(.seq (.seq q68_4 (.cond (.tmp 19) .skip (.exit 0))) (.block 1 q68_5))
def q68_6:SCode:=.draw [⟨some 24,.move (.tmp 0),none⟩,
    ⟨some 25,.move (.tmp 5),none⟩,
    ⟨some 26,.binOp .quo 3 (.tmp 24) (.tmp 25) 3,none⟩,
    ⟨some 27,.move (.tmp 1),none⟩,
    ⟨some 28,.move (.tmp 5),none⟩,
    ⟨some 29,.binOp .quo 3 (.tmp 27) (.tmp 28) 3,none⟩,
    ⟨some 30,.build 44 #[(0,.tmp 26),(1,.tmp 29)],none⟩,
    ⟨none,.store 44 (.tmp 4) (.tmp 30),none⟩]
  [[],[],[0,1],[],[],[3,4],[2,5],[6,0,1,2,3,4,5,6]]
def s68:SCode:=(.seq q68_0 (.seq (.seq q68_1 (.cond (.tmp 8) q68_2 .skip)) (.seq q68_3 (.seq (.block 0 (.loop l68_0)) (.seq q68_6 .ret)))))
theorem s68_strip:Zy (Zw Tryd.f68)=s68:=by kernel_rfl
theorem s68_ok:Yn 31 (Zw Tryd.f68)=true:=by kernel_rfl
/-! 69: planchet planchetref05.plus -/
@[reducible] def q69_0:SCode:=.region [⟨some 2,.box 44 (.tmp 0),none⟩,
  ⟨some 3,.box 44 (.tmp 1),none⟩,
  ⟨some 4,.alloc 44,none⟩]
@[reducible] def q69_1:SCode:=.region [⟨some 5,.fieldAddr 44 (.tmp 2) 0,none⟩,
  ⟨some 6,.load 3 (.tmp 5),none⟩,
  ⟨some 7,.fieldAddr 44 (.tmp 3) 1,none⟩,
  ⟨some 8,.load 3 (.tmp 7),none⟩,
  ⟨some 9,.binOp .mul 3 (.tmp 6) (.tmp 8) 3,none⟩,
  ⟨some 10,.fieldAddr 44 (.tmp 3) 0,none⟩,
  ⟨some 11,.load 3 (.tmp 10),none⟩,
  ⟨some 12,.fieldAddr 44 (.tmp 2) 1,none⟩,
  ⟨some 13,.load 3 (.tmp 12),none⟩,
  ⟨some 14,.binOp .mul 3 (.tmp 11) (.tmp 13) 3,none⟩,
  ⟨some 15,.binOp .add 3 (.tmp 9) (.tmp 14) 3,none⟩,
  ⟨some 16,.fieldAddr 44 (.tmp 2) 1,none⟩,
  ⟨some 17,.load 3 (.tmp 16),none⟩,
  ⟨some 18,.fieldAddr 44 (.tmp 3) 1,none⟩,
  ⟨some 19,.load 3 (.tmp 18),none⟩,
  ⟨some 20,.binOp .mul 3 (.tmp 17) (.tmp 19) 3,none⟩,
  ⟨some 21,.call { callee:=.value (.func 68),args:=#[.tmp 15,.tmp 20],argTypes:=#[3,3] },none⟩,
  ⟨none,.store 44 (.tmp 4) (.tmp 21),none⟩]
def s69:SCode:=(.seq q69_0 (.seq q69_1 .ret))
theorem s69_strip:Zy (Zw Tryd.f69)=s69:=by kernel_rfl
theorem s69_ok:Yn 22 (Zw Tryd.f69)=true:=by kernel_rfl
/-! 73: planchet planchetref05.over -/
@[reducible] def q73_0:SCode:=.region [⟨some 2,.box 44 (.tmp 0),none⟩,
  ⟨some 3,.box 44 (.tmp 1),none⟩,
  ⟨some 4,.alloc 44,none⟩]
@[reducible] def q73_1:SCode:=.region [⟨some 5,.fieldAddr 44 (.tmp 2) 0,none⟩,
  ⟨some 6,.load 3 (.tmp 5),none⟩,
  ⟨some 7,.fieldAddr 44 (.tmp 3) 1,none⟩,
  ⟨some 8,.load 3 (.tmp 7),none⟩,
  ⟨some 9,.binOp .mul 3 (.tmp 6) (.tmp 8) 3,none⟩,
  ⟨some 10,.fieldAddr 44 (.tmp 2) 1,none⟩,
  ⟨some 11,.load 3 (.tmp 10),none⟩,
  ⟨some 12,.fieldAddr 44 (.tmp 3) 0,none⟩,
  ⟨some 13,.load 3 (.tmp 12),none⟩,
  ⟨some 14,.binOp .mul 3 (.tmp 11) (.tmp 13) 3,none⟩,
  ⟨some 15,.call { callee:=.value (.func 68),args:=#[.tmp 9,.tmp 14],argTypes:=#[3,3] },none⟩,
  ⟨none,.store 44 (.tmp 4) (.tmp 15),none⟩]
def s73:SCode:=(.seq q73_0 (.seq q73_1 .ret))
theorem s73_strip:Zy (Zw Tryd.f73)=s73:=by kernel_rfl
theorem s73_ok:Yn 16 (Zw Tryd.f73)=true:=by kernel_rfl
/-! 91: planchet planchetref05.times -/
@[reducible] def q91_0:SCode:=.region [⟨some 2,.box 44 (.tmp 0),none⟩,
  ⟨some 3,.box 44 (.tmp 1),none⟩,
  ⟨some 4,.alloc 44,none⟩]
@[reducible] def q91_1:SCode:=.region [⟨some 5,.fieldAddr 44 (.tmp 2) 0,none⟩,
  ⟨some 6,.load 3 (.tmp 5),none⟩,
  ⟨some 7,.fieldAddr 44 (.tmp 3) 0,none⟩,
  ⟨some 8,.load 3 (.tmp 7),none⟩,
  ⟨some 9,.binOp .mul 3 (.tmp 6) (.tmp 8) 3,none⟩,
  ⟨some 10,.fieldAddr 44 (.tmp 2) 1,none⟩,
  ⟨some 11,.load 3 (.tmp 10),none⟩,
  ⟨some 12,.fieldAddr 44 (.tmp 3) 1,none⟩,
  ⟨some 13,.load 3 (.tmp 12),none⟩,
  ⟨some 14,.binOp .mul 3 (.tmp 11) (.tmp 13) 3,none⟩,
  ⟨some 15,.call { callee:=.value (.func 68),args:=#[.tmp 9,.tmp 14],argTypes:=#[3,3] },none⟩,
  ⟨none,.store 44 (.tmp 4) (.tmp 15),none⟩]
def s91:SCode:=(.seq q91_0 (.seq q91_1 .ret))
theorem s91_strip:Zy (Zw Tryd.f91)=s91:=by kernel_rfl
theorem s91_ok:Yn 16 (Zw Tryd.f91)=true:=by kernel_rfl
/-! 92: planchet planchetref05.clear -/
@[reducible] def q92_0:SCode:=.region [⟨some 9,.move (.tmp 0),none⟩,
  ⟨some 10,.move (.tmp 2),none⟩,
  ⟨some 11,.indexAddr 50 (.tmp 9) (.tmp 10),none⟩,
  ⟨some 12,.load 44 (.tmp 11),none⟩,
  ⟨some 6,.alloc 44,none⟩,
  ⟨none,.store 44 (.tmp 6) (.tmp 12),none⟩]
@[reducible] def q92_1:SCode:=.region [⟨some 13,.move (.tmp 0),none⟩,
  ⟨some 14,.call { callee:=.builtin .len,args:=#[.tmp 13],argTypes:=#[50] },none⟩,
  ⟨some 15,.move (.const (.int .i64 0)),none⟩]
@[reducible] def q92_2:SCode:=.region [⟨some 16,.binOp .lss 3 (.tmp 15) (.tmp 14) 3,none⟩]
@[reducible] def q92_3:SCode:=.region [⟨some 17,.move (.tmp 15),none⟩,
  ⟨some 7,.assign (.tmp 17),none⟩]
def q92_4:SCode:=.draw [⟨some 18,.load 44 (.tmp 6),none⟩,
    ⟨some 19,.move (.tmp 1),none⟩,
    ⟨some 20,.move (.tmp 7),none⟩,
    ⟨some 21,.indexAddr 50 (.tmp 19) (.tmp 20),none⟩,
    ⟨some 22,.load 44 (.tmp 21),none⟩,
    ⟨some 23,.call { callee:=.value (.func 91),args:=#[.tmp 18,.tmp 22],argTypes:=#[44,44] },none⟩,
    ⟨some 8,.alloc 44,none⟩,
    ⟨none,.store 44 (.tmp 8) (.tmp 23),none⟩]
  [[],[],[],[1,2],[3],[0,4],[],[6,5,5,0,1,2,3,4,5,6]]
def q92_5:SCode:=.draw [⟨some 24,.move (.tmp 0),none⟩,
    ⟨some 25,.move (.tmp 7),none⟩,
    ⟨some 26,.move (.tmp 0),none⟩,
    ⟨some 27,.move (.tmp 7),none⟩,
    ⟨some 28,.indexAddr 50 (.tmp 26) (.tmp 27),none⟩,
    ⟨some 29,.load 44 (.tmp 28),none⟩,
    ⟨some 30,.fieldAddr 44 (.tmp 8) 0,none⟩,
    ⟨some 31,.load 3 (.tmp 30),none⟩,
    ⟨some 32,.unOp .neg 3 (.tmp 31),none⟩,
    ⟨some 33,.fieldAddr 44 (.tmp 8) 1,none⟩,
    ⟨some 34,.load 3 (.tmp 33),none⟩,
    ⟨some 35,.build 44 #[(0,.tmp 32),(1,.tmp 34)],none⟩,
    ⟨some 36,.call { callee:=.value (.func 69),args:=#[.tmp 29,.tmp 35],argTypes:=#[44,44] },none⟩,
    ⟨some 37,.indexAddr 50 (.tmp 24) (.tmp 25),none⟩,
    ⟨none,.store 44 (.tmp 37) (.tmp 36),none⟩]
  [[],[],[],[],[2,3],[4],[],[6],[7],[],[9],[8,10],[5,11],[0,1,0,1,2,3,4,5,6,7,8,9,10,11,12],[13,12,12,0,1,2,3,4,5,6,7,8,9,10,11,12]]
@[reducible] def q92_6:SCode:=.region [⟨some 38,.binOp .add 3 (.tmp 15) (.const (.int .i64 1)) 3,none⟩,
  ⟨some 15,.move (.tmp 38),none⟩]
def l92_0:SCode:=(.seq q92_2 (.seq (.cond (.tmp 16) .skip (.exit 0)) (.seq (.block 1 (.seq q92_3 (.seq q92_4 q92_5))) q92_6)))
def s92:SCode:=(.seq q92_0 (.seq q92_1 (.block 0 (.loop l92_0))))
theorem s92_strip:Zy (Zw Tryd.f92)=s92:=by kernel_rfl
theorem s92_ok:Yn 39 (Zw Tryd.f92)=true:=by kernel_rfl
/-! 93: slices.Max[[]int,int] -/
@[reducible] def q93_0:SCode:=.region [⟨some 2,.assign (.const (.int .i64 0)),none⟩]
@[reducible] def q93_1:SCode:=.region [⟨some 5,.move (.tmp 0),none⟩,
  ⟨some 6,.call { callee:=.builtin .len,args:=#[.tmp 5],argTypes:=#[22] },none⟩,
  ⟨some 7,.binOp .lss 3 (.tmp 6) (.const (.int .i64 1)) 3,none⟩]
@[reducible] def q93_2:SCode:=.region [⟨some 8,.makeInterface 9 (.const (.string { data:=#[115,108,105,99,101,115,46,77,97,120,58,32,101,109,112,116,121,32,108,105,115,116] })),none⟩,
  ⟨none,.panic (.tmp 8),none⟩]
@[reducible] def q93_3:SCode:=.region [⟨some 9,.move (.tmp 0),none⟩,
  ⟨some 10,.indexAddr 22 (.tmp 9) (.const (.int .i64 0)),none⟩,
  ⟨some 11,.load 3 (.tmp 10),none⟩,
  ⟨some 3,.assign (.tmp 11),none⟩]
@[reducible] def q93_4:SCode:=.region [⟨some 4,.assign (.const (.int .i64 1)),none⟩]
@[reducible] def q93_5:SCode:=.region [⟨some 12,.move (.tmp 4),none⟩,
  ⟨some 13,.move (.tmp 0),none⟩,
  ⟨some 14,.call { callee:=.builtin .len,args:=#[.tmp 13],argTypes:=#[22] },none⟩,
  ⟨some 15,.binOp .lss 3 (.tmp 12) (.tmp 14) 3,none⟩]
@[reducible] def q93_7:SCode:=.region [⟨some 18,.move (.tmp 3),none⟩,
  ⟨some 19,.move (.tmp 0),none⟩,
  ⟨some 20,.move (.tmp 4),none⟩,
  ⟨some 21,.indexAddr 22 (.tmp 19) (.tmp 20),none⟩,
  ⟨some 22,.load 3 (.tmp 21),none⟩,
  ⟨some 23,.call { callee:=.builtin .max,args:=#[.tmp 18,.tmp 22],argTypes:=#[3,3] },none⟩,
  ⟨some 3,.assign (.tmp 23),none⟩]
@[reducible] def q93_6:SCode:=.region [⟨some 16,.move (.tmp 4),none⟩,
  ⟨some 17,.binOp .add 3 (.tmp 16) (.const (.int .i64 1)) 3,none⟩,
  ⟨some 4,.assign (.tmp 17),none⟩]
def l93_0:SCode:=(.seq (.seq q93_5 (.cond (.tmp 15) .skip (.exit 0))) (.seq (.block 1 q93_7) q93_6))
@[reducible] def q93_8:SCode:=.region [⟨some 24,.move (.tmp 3),none⟩,
  ⟨some 2,.assign (.tmp 24),none⟩]
def s93:SCode:=(.seq q93_0 (.seq (.seq q93_1 (.cond (.tmp 7) q93_2 .skip)) (.seq q93_3 (.seq (.seq q93_4 (.block 0 (.loop l93_0))) (.seq q93_8 .ret)))))
theorem s93_strip:Zy (Zw Tryd.f93)=s93:=by kernel_rfl
theorem s93_ok:Yn 25 (Zw Tryd.f93)=true:=by kernel_rfl
end Go.Proofs.Tryd.Am
namespace Go.Proofs.Tryd.Am
open Go.Am Sr
set_option maxRecDepth 100000
set_option maxHeartbeats 1000000
abbrev fC (x y:Int):Blk:=.cells [Zd x,Zd y] 44 false
abbrev z0:Blk:=.cells [.int .i64 0,.int .i64 0] 44 false
section
variable (h:Zh) (A B C:Blk)
theorem b3_0:(h++[A]++[B]++[C])[h.length]? = some A:=by simp
theorem b3_1:(h++[A]++[B]++[C])[h.length+1]? = some B:=by simp
theorem b3_2:(h++[A]++[B]++[C])[h.length+2]? = some C:=by simp
theorem e3:Ext (fun _=>False) h (h++[A]++[B]++[C]):=by rw [List.append_assoc,List.append_assoc]; exact Ext.app _ _ _
end
theorem mulZ {a b:Int} (h:(a*b).natAbs<9223372036854775808):mulV .i64 a b=a*b:=mulV_id (by omega) (by omega)
theorem addZ {a b:Int} (h:a.natAbs+b.natAbs<9223372036854775808):addV .i64 a b=a+b:=Wf (by omega) (by omega)
theorem s68_callW [Tabs Tryd.prog] {args:List Value} {h:Zh} {Q:Value→Zh→Prop} (hsz:args.length≤31) (hk:AWS Tryd.prog 31 s68 (Zu Tryd.prog [.cell 4 44] Q) (Zt 0 args) h):ACall Tryd.prog 68 args h Q :=
 Xd Tryd.func68 rfl (enters_of Tryd.func68 (by kernel_rfl) rfl) rfl rfl (by decide) s68_strip s68_ok hsz hk
theorem rfrac_call [Tabs prog] {h:Zh} {a b:Int} (hb:b≠0) (ha:a.natAbs<9223372036854775808) (hb2:b.natAbs<9223372036854775808):Wo prog 68 [Zd a,Zd b] h (qV (Rat.divInt a b)):=by
 have c0:=Yp h z0
 have hE0:Ext (fun _=>False) h (h++[z0]):=Ext.app _ _ _
 obtain ⟨x,n,hn,hx,hn2,hq,hneg,hpos⟩ : ∃ (x:Int) (n:Nat),0<n∧x.natAbs<9223372036854775808∧n<9223372036854775808∧Rat.divInt x n=Rat.divInt a b∧(b<0→subV .i64 0 a=x∧subV .i64 0 b=n)∧(¬ b<0→a=x∧b=n):=by
  by_cases h0:b<0
  · refine ⟨-a,b.natAbs,by omega,by omega,hb2,?_,fun _=>⟨?_,?_⟩,fun h=>absurd h0 h⟩
    · rw [show ((b.natAbs:Nat):Int) = -b by omega]; exact Rat.neg_divInt_neg a b
    · rw [Vk (by omega) (by omega)]; omega
    · rw [Vk (by omega) (by omega)]; omega
  · exact ⟨a,b.natAbs,by omega,ha,hb2,by rw [show ((b.natAbs:Nat):Int)=b by omega],fun h=>absurd h h0,fun _=>⟨rfl,by omega⟩⟩
 refine ACall.forget (low_frV _ _) ?_
 refine s68_callW (by simp) ?_
 simp only [s68]
 refine Ze fun N1 hN1=>?_
 simp (maxSteps:=2000000) only [↓Za,↓Zb,↓Zc,vup,cond_false,aop,Zg,Zt,sput,Zf,Nat.reduceBEq,Nat.reduceAdd,tyf,Xv,Xc]
 refine hN1 [(0,Zd a),(1,Zd b),(4,.pointer (some ⟨h.length,0,none⟩))] _ _ ?_ (by simp (maxSteps:=2000000) only [vup,cond_true,cond_false,Nat.reduceBEq])
 clear hN1
 try clear N1
 refine Ze fun M hM=>?_
 have key : ∀ e,ELe e [(0,Zd x),(1,Zd (n:Int)),(4,.pointer (some ⟨h.length,0,none⟩))]→M e (h++[z0]):=by
  intro e he
  refine hM [(0,Zd x),(1,Zd (n:Int)),(4,.pointer (some ⟨h.length,0,none⟩))] _ _ ?_ he
  refine Ze fun N2 hN2=>?_
  simp (maxSteps:=2000000) only [↓Za,↓Zb,↓Zc,vup,List.map_cons,List.map_nil,cond_true,cond_false,aop,Zg,ev,sput,Zf,unK,Zi,Nat.reduceBEq,mmK,if_true,max_abs hx]
  refine hN2 [(0,Zd x),(1,Zd (n:Int)),(4,.pointer (some ⟨h.length,0,none⟩)),(5,Zd (x.natAbs:Nat)),(6,Zd (n:Int))] _ _ ?_ (by simp (maxSteps:=2000000) only [vup,cond_true,cond_false,Nat.reduceBEq])
  clear hN2
  try clear N2
  refine Zk fun M2 hM2=>?_
  refine Zo ?_
  refine Zm fun Q hQ=>?_
  refine Yl (γ:=Nat×Nat) (fun s=>Nat.gcd s.1 s.2=Nat.gcd x.natAbs n∧s.1<9223372036854775808∧s.2<9223372036854775808)
   (fun s=>([(0,Zd x),(1,Zd (n:Int)),(4,.pointer (some ⟨h.length,0,none⟩)),(5,Zd (s.1:Nat)),(6,Zd (s.2:Nat))],h++[z0])) (fun s=>s.2) (x.natAbs,n) ⟨rfl,hx,hn2⟩ (by simp (maxSteps:=2000000) only [vup,cond_true,cond_false,Nat.reduceBEq]) rfl ?_
  rintro ⟨u,w⟩ ⟨huw,hu,hw⟩
  simp only at huw hu hw
  refine Zm fun Q2 hQ2=>?_
  simp only [l68_0]
  by_cases hw0:w=0
  · subst hw0
    have e0:(((0:Nat):Int) != 0)=false:=rfl
    rw [Nat.gcd_zero_right] at huw
    subst huw
    refine Ze fun N3 hN3=>?_
    simp (maxSteps:=2000000) only [↓Za,↓Zp,↓Yi,↓Zb,↓Zc,↓vdn,vup,cond_true,cond_false,aop,Zg,ev,sput,Zf,Zv,Zx,Nat.reduceBEq,e0]
    refine hQ2 _ _ _ (hQ _ _ _ ?_)
    simp (maxSteps:=2000000) only [Zg,Zl,Zu,if_true]
    refine hM2 [(0,Zd x),(1,Zd (n:Int)),(4,.pointer (some ⟨h.length,0,none⟩)),(5,Zd (Nat.gcd x.natAbs n:Nat))] _ _ ?_ (by simp (maxSteps:=2000000) only [vup,cond_true,cond_false,Nat.reduceBEq])
    clear hM2
    try clear M2
    have hg : ¬ ((Nat.gcd x.natAbs n:Nat):Int)=0:=by have:=Nat.gcd_pos_of_pos_right x.natAbs hn; omega
    have q1:quoV .i64 x ((Nat.gcd x.natAbs n:Nat):Int)=(Rat.divInt a b).num:=by rw [quo_dvd hx (gcd_dvd_int _ _),(terms hn).1,hq]
    have q2:quoV .i64 (n:Int) ((Nat.gcd x.natAbs n:Nat):Int)=(Rat.divInt a b).den:=by
     rw [quo_dvd (by omega) (Int.natCast_dvd_natCast.2 (Nat.gcd_dvd_right _ _)),← hq,← (terms hn).2,Int.natCast_ediv]
    refine Zj ?_
    simp only [q68_6]
    refine aw_cut fun N hN=>?_
    refine Xp [] (by kernel_rfl) (by kernel_rfl) (by kernel_rfl) (by kernel_rfl) ?_
    simp (maxSteps:=2000000) only [↓Yw,↓vdn,vup,List.map_cons,List.map_nil,cond_true,cond_false,aop,Zg,ev,sput,Zf,Zv,Zx,Nat.reduceBEq,ne_eq,hg,not_false_eq_true,q1,q2,bldF,Wy c0 rfl]
    refine hN _ _ ?_
    simp (maxSteps:=2000000) only [↓Ya,vup,cond_true,cond_false,Nat.reduceBEq,Zu,Xu,tup,Vj (Xj (h:=h++[Blk.cells [.int .i64 0,.int .i64 0] 44 false]) (b:=h.length) (by simp) _)]
    exact ⟨rfl,hE0.set_ge (Nat.le_refl _) _⟩
  · have e0:(((w:Nat):Int) != 0)=true:=by
     have:((w:Nat):Int)≠0:=by omega
     simpa using this
    have e1 : ¬ ((w:Nat):Int)=0:=by omega
    have etm:((u:Nat):Int).tmod ((w:Nat):Int)=((u % w:Nat):Int):=by rw [Int.tmod_eq_emod_of_nonneg (by omega)]; rfl
    have hlt:=Nat.mod_lt u (show w > 0 by omega)
    refine Ze fun N4 hN4=>?_
    simp (maxSteps:=2000000) only [↓Za,↓Zn,↓Zp,↓Zb,↓Zc,↓vdn,vup,cond_true,cond_false,aop,Zg,ev,sput,Zf,Zv,Zx,Nat.reduceBEq,e0]
    refine hN4 [(0,Zd x),(1,Zd (n:Int)),(4,.pointer (some ⟨h.length,0,none⟩)),(5,Zd (u:Nat)),(6,Zd (w:Nat))] _ _ ?_ (by simp (maxSteps:=2000000) only [vup,cond_true,cond_false,Nat.reduceBEq])
    clear hN4
    try clear N4
    refine Zj ?_
    simp only [q68_5,Yt]
    refine Xp [] (by kernel_rfl) (by kernel_rfl) (by kernel_rfl) (by kernel_rfl) ?_
    simp (maxSteps:=2000000) only [↓Yw,↓vdn,vup,cond_true,cond_false,aop,Zl,ev,sput,Zf,Zv,Zx,Nat.reduceBEq,ne_eq,e1,not_false_eq_true,etm]
    refine hQ2 _ _ _ ⟨(w,u % w),⟨?_,hw,by simp only; omega⟩,hlt,by simp (maxSteps:=2000000) only [vup,cond_true,cond_false,Nat.reduceBEq],rfl⟩
    simp only
    rw [← huw,Nat.gcd_comm u w,Nat.gcd_rec w u,Nat.gcd_comm]
 by_cases hb0:b<0
 · simp (maxSteps:=2000000) only [↓Za,↓Zp,↓Zb,↓Zc,↓vdn,vup,cond_true,cond_false,aop,Zg,ev,sput,Zf,Zv,Zx,unK,Nat.reduceBEq,hb0,(hneg hb0).1,(hneg hb0).2]
   exact key _ (by simp (maxSteps:=2000000) only [vup,cond_true,cond_false,Nat.reduceBEq])
 · simp (maxSteps:=2000000) only [↓Za,↓Zn,↓Zp,↓Zb,↓Zc,↓vdn,vup,cond_true,cond_false,aop,Zg,ev,sput,Zf,Zv,Zx,Nat.reduceBEq,hb0]
   exact key _ (by simp (maxSteps:=2000000) only [vup,cond_true,cond_false,Nat.reduceBEq,(hpos hb0).1,(hpos hb0).2])
def wq (p:Int×Int):Rat:=Rat.divInt p.1 p.2
theorem wq_parts {p:Int×Int} (h1:1≤p.2) (hg:Nat.gcd p.1.natAbs p.2.natAbs=1):(wq p).num=p.1∧((wq p).den:Int)=p.2:=by
 obtain ⟨t1,t2⟩:=terms (x:=p.1) (n:=p.2.natAbs) (by omega)
 rw [show ((p.2.natAbs:Nat):Int)=p.2 by omega] at t1 t2
 rw [hg] at t1 t2
 refine ⟨?_,?_⟩
 · rw [wq,← t1]; simp
 · rw [wq,← t2,Nat.div_one]; omega
end Go.Proofs.Tryd.Am
namespace Bq
structure Tb where
 t:Nat→Nat→Rat
 g:Nat→Rat
 base:Nat→Nat
def piv (s:Tb) (o e:Nat):Tb where
 t i j:=if i=o then s.t o j / s.t o e else s.t i j-s.t i e*(s.t o j / s.t o e)
 g j:=s.g j-s.g e*(s.t o j / s.t o e)
 base i:=if i=o then e else s.base i
def Cmb (m N:Nat) (A:Nat→Nat→Rat) (v:Nat→Rat):Prop:=∃ u:Nat→Rat,∀ j,j≤N→v j=sumTo (fun k=>u k*A k j) m
section
variable {m N:Nat} {A B:Nat→Nat→Rat} {v w:Nat→Rat}
theorem Cmb.self {k:Nat} (h:k<m):Cmb m N A (A k):=⟨fun i=>if i=k then 1 else 0,fun j _=>(sum_one (fun i=>A i j) h).symm⟩
theorem Cmb.zero:Cmb m N A fun _=>0:=⟨fun _=>0,fun j _=>(Yk fun i _=>Rat.zero_mul _).symm⟩
theorem Cmb.lin (h1:Cmb m N A v) (h2:Cmb m N A w) (s:Rat):Cmb m N A fun j=>v j+s*w j:=by
 obtain ⟨u1,h1⟩:=h1
 obtain ⟨u2,h2⟩:=h2
 refine ⟨fun k=>u1 k+s*u2 k,fun j hj=>?_⟩
 simp only
 rw [h1 j hj,h2 j hj,← Yb,← Xm]
 exact sumTo_congr fun k _=>by grind
theorem Cmb.congr (h:Cmb m N A v) (he : ∀ j,j≤N→w j=v j):Cmb m N A w:=by
 obtain ⟨u,h⟩:=h
 exact ⟨u,fun j hj=>(he j hj).trans (h j hj)⟩
theorem Cmb.mul (h:Cmb m N A v) (s:Rat):Cmb m N A fun j=>s*v j:=(Cmb.zero.lin h s).congr fun j _=>by grind
theorem Cmb.trans (h:Cmb m N A v) (hA : ∀ k,k<m→Cmb m N B (A k)):Cmb m N B v:=by
 obtain ⟨u,hu⟩:=h
 have : ∀ k,∃ x:Nat→Rat,k<m→∀ j,j≤N→A k j=sumTo (fun l=>x l*B l j) m:=fun k=>by
  by_cases hk:k<m
  · obtain ⟨x,hx⟩:=hA k hk
    exact ⟨x,fun _=>hx⟩
  · exact ⟨fun _=>0,fun h=>absurd h hk⟩
 obtain ⟨x,hx⟩:=Classical.axiomOfChoice this
 refine ⟨fun l=>sumTo (fun k=>u k*x k l) m,fun j hj=>?_⟩
 rw [hu j hj]
 have e1:sumTo (fun k=>u k*A k j) m=sumTo (fun k=>sumTo (fun l=>u k*(x k l*B l j)) m) m:=sumTo_congr fun k hk=>by rw [hx k hk j hj,Yb]
 rw [e1,Wd]
 refine sumTo_congr fun l _=>?_
 have:(fun k=>u k*(x k l*B l j))=fun k=>B l j*(u k*x k l):=by funext k; grind
 rw [this,Yb]; grind
end
theorem div_mul {a b:Rat} (h:b≠0):a / b*b=a:=Rat.div_mul_cancel h
theorem ne_of_pos {a:Rat} (h:0<a):a≠0:=fun hc=>by rw [hc] at h; exact absurd h (by decide)
structure Good (m N:Nat) (A:Nat→Nat→Rat) (c:Nat→Rat) (s:Tb):Prop where
 blt : ∀ i,i<m→s.base i<N
 bg : ∀ i,i<m→s.g (s.base i)=0
 bt : ∀ i k,i<m→k<m→s.t k (s.base i)=if k=i then 1 else 0
 nn : ∀ i,i<m→0≤s.t i N
 tA : ∀ i,i<m→Cmb m N A (s.t i)
 At : ∀ k,k<m→Cmb m N s.t (A k)
 gA:Cmb m N A (fun j=>s.g j-c j)
structure Turn (m N:Nat) (s:Tb) (e o:Nat):Prop where
 eN:e<N
 eg:0<s.g e
 el : ∀ j,j<e→s.g j≤0
 om:o<m
 op:0<s.t o e
 ol : ∀ i,i<m→0<s.t i e→s.t o N / s.t o e≤s.t i N / s.t i e∧(s.t o N / s.t o e=s.t i N / s.t i e→s.base o≤s.base i)
section
variable {m N:Nat} {A:Nat→Nat→Rat} {c:Nat→Rat} {s:Tb} {e o:Nat}
theorem Good.inj (G:Good m N A c s) {i k:Nat} (hi:i<m) (hk:k<m) (h:s.base i=s.base k):i=k:=by
 have h1:=G.bt i i hi hi
 rw [h,G.bt k i hk hi,if_pos rfl] at h1
 by_cases hik:i=k
 · exact hik
 · rw [if_neg hik] at h1; exact absurd h1 (by decide)
theorem Turn.nb (G:Good m N A c s) (T:Turn m N s e o) {i:Nat} (hi:i<m):s.base i≠e:=fun h=>by
 have:=T.eg
 rw [← h,G.bg i hi] at this
 exact absurd this (by decide)
theorem piv_old {i:Nat} (h:i≠o) (j:Nat):(piv s o e).t i j=s.t i j-s.t i e*(s.t o j / s.t o e):=if_neg h
theorem piv_own (j:Nat):(piv s o e).t o j=s.t o j / s.t o e:=if_pos rfl
theorem Good.piv (G:Good m N A c s) (T:Turn m N s e o):Good m N A c (piv s o e):=by
 have hp:=ne_of_pos T.op
 have h1:s.t o e / s.t o e=1:=by rw [Rat.div_def]; exact Rat.mul_inv_cancel _ hp
 have hz : ∀ {i},i<m→i≠o→s.t o (s.base i) / s.t o e=0:=fun hi hne=>by
  rw [G.bt _ o hi T.om,if_neg (Ne.symm hne),Rat.div_def,Rat.zero_mul]
 have hrow : ∀ i,i<m→Cmb m N s.t ((Bq.piv s o e).t i):=fun i hi=>by
  by_cases hio:i=o
  · subst hio
    refine ((Cmb.self T.om).mul (s.t i e)⁻¹).congr fun j _=>?_
    rw [piv_own,Rat.div_def,Rat.mul_comm]
  · refine ((Cmb.self hi).lin (Cmb.self T.om) (-(s.t i e*(s.t o e)⁻¹))).congr fun j _=>?_
    rw [piv_old hio,Rat.div_def]; grind
 have hback : ∀ i,i<m→Cmb m N (Bq.piv s o e).t (s.t i):=fun i hi=>by
  by_cases hio:i=o
  · subst hio
    refine ((Cmb.self hi).mul (s.t i e)).congr fun j _=>?_
    rw [piv_own,Rat.mul_comm,div_mul hp]
  · refine ((Cmb.self hi).lin (Cmb.self T.om) (s.t i e)).congr fun j _=>?_
    rw [piv_old hio,piv_own]; grind
 refine ⟨fun i hi=>?_,fun i hi=>?_,fun i k hi hk=>?_,fun i hi=>?_,fun i hi=>(hrow i hi).trans G.tA,fun k hk=>(G.At k hk).trans hback,?_⟩
 · show (if i=o then e else s.base i)<N
   split
   · exact T.eN
   · exact G.blt i hi
 · show s.g (if i=o then e else s.base i)-s.g e*(s.t o (if i=o then e else s.base i) / s.t o e)=0
   by_cases hio:i=o
   · rw [if_pos hio,h1]; grind
   · rw [if_neg hio,hz hi hio,G.bg i hi]; grind
 · show (Bq.piv s o e).t k (if i=o then e else s.base i)=_
   by_cases hio:i=o
   · rw [if_pos hio,hio]
     by_cases hko:k=o
     · rw [hko,piv_own,h1,if_pos rfl]
     · rw [piv_old hko,h1,if_neg hko]; grind
   · rw [if_neg hio]
     by_cases hko:k=o
     · rw [hko,piv_own,hz hi hio,if_neg (Ne.symm hio)]
     · rw [piv_old hko,hz hi hio,G.bt i k hi hk]; grind
 · have hb:0≤s.t o N / s.t o e:=by
    rw [Rat.div_def]; exact Rat.mul_nonneg (G.nn o T.om) (Rat.le_of_lt (Rat.inv_pos.2 T.op))
   by_cases hio:i=o
   · rw [hio,piv_own]; exact hb
   · rw [piv_old hio]
     have hn:=G.nn i hi
     rcases (Rat.le_total (a:=s.t i e) (b:=0)) with h | h
     · have:=Rat.mul_nonneg (show 0≤-s.t i e by grind) hb
       grind
     · by_cases h0:s.t i e=0
       · rw [h0]; grind
       · have hpos:0<s.t i e:=by
          rcases Rat.le_iff_lt_or_eq.1 h with h' | h'
          · exact h'
          · exact absurd h'.symm h0
         have h2:=(T.ol i hi hpos).1
         have h3:=Rat.mul_le_mul_of_nonneg_right h2 h
         rw [div_mul h0] at h3
         grind
 · refine (G.gA.lin (G.tA o T.om) (-(s.g e*(s.t o e)⁻¹))).congr fun j _=>?_
   show s.g j-s.g e*(s.t o j / s.t o e)-c j=_
   rw [Rat.div_def]; grind
end
end Bq
namespace Bq
structure EqD (m N:Nat) (s s' : Tb):Prop where
 t : ∀ i j,i<m→j≤N→s.t i j=s'.t i j
 g : ∀ j,j≤N→s.g j=s'.g j
 b : ∀ i,i<m→s.base i=s'.base i
section
variable {m N:Nat} {A:Nat→Nat→Rat} {c:Nat→Rat} {s s' : Tb} {e o e' o' : Nat}
theorem Turn.uniq (E:EqD m N s s') (G:Good m N A c s) (T:Turn m N s e o) (T' : Turn m N s' e' o'):e=e'∧o=o':=by
 have he:e=e':=by
  rcases Nat.lt_trichotomy e e' with h | h | h
  · have h1:=T'.el e h
    rw [← E.g e (by have:=T.eN; omega)] at h1
    have:=T.eg; grind
  · exact h
  · have h1:=T.el e' h
    rw [E.g e' (by have:=T'.eN; omega)] at h1
    have:=T'.eg; grind
 subst he
 refine ⟨rfl,?_⟩
 have eN:=T.eN
 have a1:=T.ol o' T'.om (by rw [E.t _ _ T'.om (by omega)]; exact T'.op)
 have a2:=T'.ol o T.om (by rw [← E.t _ _ T.om (by omega)]; exact T.op)
 rw [← E.t _ _ T.om (by omega),← E.t _ _ T.om (by omega),← E.t _ _ T'.om (by omega),← E.t _ _ T'.om (by omega),← E.b _ T.om,← E.b _ T'.om] at a2
 have heq:s.t o N / s.t o e=s.t o' N / s.t o' e:=Rat.le_antisymm a1.1 a2.1
 exact G.inj T.om T'.om (Nat.le_antisymm (a1.2 heq) (a2.2 heq.symm))
theorem EqD.piv (E:EqD m N s s') (ho:o<m) (he:e<N):EqD m N (Bq.piv s o e) (Bq.piv s' o e) where
 t i j hi hj:=by
   show (if i=o then _ else _)=(if i=o then _ else _)
   rw [E.t i j hi hj,E.t o j ho hj,E.t o e ho (by omega),E.t i e hi (by omega)]
 g j hj:=by
   show s.g j-s.g e*(s.t o j / s.t o e)=s'.g j-s'.g e*(s'.t o j / s'.t o e)
   rw [E.g j hj,E.g e (by omega),E.t o j ho hj,E.t o e ho (by omega)]
 b i hi:=by
   show (if i=o then _ else _)=(if i=o then _ else _)
   rw [E.b i hi]
end
theorem max_of (P:Nat→Prop) : ∀ n,(∃ v,v<n∧P v)→∃ t,t<n∧P t∧∀ v,v<n→P v→v≤t
 | 0,⟨v,hv,_⟩=>by omega
 | n+1,⟨v,hv,hp⟩=>by
   by_cases hn:P n
   · exact ⟨n,by omega,hn,fun v hv _=>by omega⟩
   · obtain ⟨t,h1,h2,h3⟩:=max_of P n ⟨v,by
      rcases Nat.lt_or_ge v n with h | h
      · exact h
      · obtain rfl:v=n:=by omega
        exact absurd hp hn,hp⟩
     refine ⟨t,by omega,h2,fun w hw hpw=>h3 w ?_ hpw⟩
     rcases Nat.lt_or_ge w n with h | h
     · exact h
     · obtain rfl:w=n:=by omega
       exact absurd hpw hn
theorem neg_term {f:Nat→Rat} : ∀ {n:Nat},sumTo f n<0→∃ k,k<n∧f k<0
 | n,h=>Classical.byContradiction fun hc=>by
   have:0≤sumTo f n:=sumTo_nonneg fun i hi=>by
    rcases (Rat.le_total (a:=0) (b:=f i)) with h1 | h1
    · exact h1
    · by_cases h0:f i=0
      · rw [h0]; exact Rat.le_refl
      · exact absurd ⟨i,hi,Rat.lt_of_le_of_ne h1 h0⟩ hc
   grind
section
variable {m N:Nat} {A:Nat→Nat→Rat} {c:Nat→Rat} {st:Nat→Tb} {e o:Nat→Nat}
structure Run (m N:Nat) (A:Nat→Nat→Rat) (c:Nat→Rat) (st:Nat→Tb) (e o:Nat→Nat):Prop where
 G : ∀ k,Good m N A c (st k)
 T : ∀ k,Turn m N (st k) (e k) (o k)
 s : ∀ k,st (k+1)=piv (st k) (o k) (e k)
theorem Run.no_period (R:Run m N A c st e o) {L:Nat} (hL:0<L) (hp : ∀ k,EqD m N (st k) (st (k+L))∧e (k+L)=e k∧o (k+L)=o k):False:=by
 have hbase : ∀ k i,(st (k+1)).base i=if i=o k then e k else (st k).base i:=fun k i=>by rw [R.s]; rfl
 -- the gain stays
 have hg : ∀ k,(st (k+1)).g N=(st k).g N-(st k).g (e k)*((st k).t (o k) N / (st k).t (o k) (e k)):=fun k=>by rw [R.s]; rfl
 have hq : ∀ k,0≤(st k).t (o k) N / (st k).t (o k) (e k):=fun k=>by
  rw [Rat.div_def]; exact Rat.mul_nonneg ((R.G k).nn _ (R.T k).om) (Rat.le_of_lt (Rat.inv_pos.2 (R.T k).op))
 have hmono : ∀ d k,(st (k+d)).g N≤(st k).g N:=fun d=>by
  induction d with
  | zero=>intro k; exact Rat.le_refl
  | succ d ih =>
    intro k
    have h1:=ih k
    have h2:=hg (k+d)
    have h3:=Rat.mul_nonneg (Rat.le_of_lt (R.T (k+d)).eg) (hq (k+d))
    rw [← Nat.add_assoc,h2]; grind
 have hdeg : ∀ k,(st k).t (o k) N=0:=fun k=>by
  have h1:=(hp k).1.g N (Nat.le_refl _)
  have h2:=hmono (L-1) (k+1)
  rw [show k+1+(L-1)=k+L by omega,← h1,hg k] at h2
  have h3:=Rat.mul_nonneg (Rat.le_of_lt (R.T k).eg) (hq k)
  have h4:(st k).g (e k)*((st k).t (o k) N / (st k).t (o k) (e k))=0:=by grind
  rcases Rat.mul_eq_zero.1 h4 with h | h
  · exact absurd h (ne_of_pos (R.T k).eg)
  · have:=div_mul (a:=(st k).t (o k) N) (ne_of_pos (R.T k).op)
    rw [h] at this
    rw [← this,Rat.zero_mul]
 have hb1 : ∀ k i,(st (k+1)).t i N=(st k).t i N:=fun k i=>by
  rw [R.s]
  by_cases hi:i=o k
  · rw [hi,piv_own,hdeg k,Rat.div_def,Rat.zero_mul]
  · rw [piv_old hi,hdeg k,Rat.div_def,Rat.zero_mul]; grind
 have hb : ∀ d k i,(st (k+d)).t i N=(st k).t i N:=fun d=>by
  induction d with
  | zero=>intro k i; rfl
  | succ d ih=>intro k i; rw [← Nat.add_assoc,hb1,ih]
 -- who leaves
 have leave : ∀ (v k d:Nat),(∃ i,i<m∧(st k).base i=v)→(∀ i,i<m→(st (k+d)).base i≠v)→∃ x,(st x).base (o x)=v:=by
  intro v k d
  induction d with
  | zero=>rintro ⟨i,hi,h1⟩ h2; exact absurd h1 (h2 i hi)
  | succ d ih =>
    intro h1 h2
    by_cases hc : ∃ i,i<m∧(st (k+d)).base i=v
    · obtain ⟨i,hi,hv⟩:=hc
      by_cases hio:i=o (k+d)
      · exact ⟨k+d,by rw [← hio]; exact hv⟩
      · have:=h2 i hi
        rw [← Nat.add_assoc,hbase,if_neg hio] at this
        exact absurd hv this
    · exact ih h1 fun i hi hv=>hc ⟨i,hi,hv⟩
 have enter : ∀ (v k d:Nat),(∀ i,i<m→(st k).base i≠v)→(∃ i,i<m∧(st (k+d)).base i=v)→∃ x,x<d∧e (k+x)=v:=by
  intro v k d
  induction d with
  | zero=>rintro h2 ⟨i,hi,h1⟩; exact absurd h1 (h2 i hi)
  | succ d ih =>
    intro h1 h2
    by_cases hc : ∃ i,i<m∧(st (k+d)).base i=v
    · obtain ⟨x,hx,he⟩:=ih h1 hc
      exact ⟨x,by omega,he⟩
    · obtain ⟨i,hi,hv⟩:=h2
      rw [← Nat.add_assoc,hbase] at hv
      by_cases hio:i=o (k+d)
      · rw [if_pos hio] at hv; exact ⟨d,by omega,hv⟩
      · rw [if_neg hio] at hv; exact absurd ⟨i,hi,hv⟩ hc
 obtain ⟨t,_,⟨p,htp⟩,hmax⟩:=max_of (fun v=>∃ x,(st x).base (o x)=v) N ⟨_,(R.G 0).blt _ (R.T 0).om,0,rfl⟩
 have hmax' : ∀ x,(st x).base (o x)≤t:=fun x=>hmax _ ((R.G x).blt _ (R.T x).om) ⟨x,rfl⟩
 have hom:=(R.T p).om
 have hin1 : ∀ i,i<m→(st (p+1)).base i≠t:=fun i hi h=>by
  rw [hbase] at h
  by_cases hio:i=o p
  · rw [if_pos hio] at h
    exact (R.T p).nb (R.G p) hom (htp.trans h.symm)
  · rw [if_neg hio] at h
    exact hio ((R.G p).inj hi hom (h.trans htp.symm))
 obtain ⟨x,hx,hq1⟩:=enter t (p+1) (L-1) hin1 ⟨o p,hom,by rw [show p+1+(L-1)=p+L by omega,← (hp p).1.b _ hom]; exact htp⟩
 obtain ⟨q,hqe⟩ : ∃ q,q=p+1+x:=⟨_,rfl⟩
 rw [← hqe] at hq1
 have hsnb : ∀ i,i<m→(st p).base i≠e p:=fun i hi=>(R.T p).nb (R.G p) hi
 obtain ⟨y,hy⟩:=leave (e p) (p+1) (L-1) ⟨o p,hom,by rw [hbase,if_pos rfl]⟩ fun i hi=>by
  rw [show p+1+(L-1)=p+L by omega,← (hp p).1.b _ hi]; exact hsnb i hi
 have hst:e p<t:=by
  have h1:=hmax' y
  rw [hy] at h1
  have h2:=hsnb _ hom
  rw [htp] at h2
  omega
 have hTq:=R.T q
 have hgt:=hTq.eg
 have hgl:=hTq.el
 rw [hq1] at hgt hgl
 -- both gains
 have hcmb:Cmb m N (st p).t fun j=>(st q).g j-(st p).g j:=by
  have h1:=(((R.G q).gA.lin (R.G p).gA (-1)).trans (R.G p).At)
  exact h1.congr fun j _=>by grind
 obtain ⟨u,hu0⟩:=hcmb
 have hu : ∀ j,j≤N→(st q).g j-(st p).g j=sumTo (fun k=>u k*(st p).t k j) m:=hu0
 have huk : ∀ k,k<m→u k=(st q).g ((st p).base k):=fun k hk=>by
  have h1:=hu ((st p).base k) (Nat.le_of_lt ((R.G p).blt k hk))
  rw [(R.G p).bg k hk] at h1
  have h2:sumTo (fun i=>u i*(st p).t i ((st p).base k)) m=u k:=by
   rw [← sum_one u hk]
   exact sumTo_congr fun i hi=>by rw [(R.G p).bt k i hk hi]; grind
  rw [h2] at h1; grind
 have hsum:=hu (e p) (Nat.le_of_lt (R.T p).eN)
 have hneg:sumTo (fun k=>u k*(st p).t k (e p)) m<0:=by
  rw [← hsum]
  have h1:=hgl (e p) hst
  have h2:=(R.T p).eg
  grind
 obtain ⟨k,hk,hlt⟩:=neg_term hneg
 rw [huk k hk] at hlt
 have hgne:(st q).g ((st p).base k)≠0:=fun h=>by rw [h,Rat.zero_mul] at hlt; exact absurd hlt (by decide)
 have hnbq : ∀ i,i<m→(st q).base i≠(st p).base k:=fun i hi h=>hgne (by rw [← h]; exact (R.G q).bg i hi)
 have hrt:(st p).base k≤t:=by
  obtain ⟨z,hz⟩:=leave ((st p).base k) p (q-p) ⟨k,hk,rfl⟩ fun i hi=>by rw [show p+(q-p)=q by omega]; exact hnbq i hi
  have:=hmax' z
  rw [hz] at this; exact this
 have hne:(st p).base k≠t:=fun h=>by
  have hko:k=o p:=(R.G p).inj hk hom (h.trans htp.symm)
  rw [h,hko] at hlt
  have:=Rat.mul_pos hgt (R.T p).op
  grind
 have hgk:=hgl ((st p).base k) (by omega)
 have htk:0<(st p).t k (e p):=by
  rcases (Rat.le_total (a:=(st p).t k (e p)) (b:=0)) with h | h
  · have:=Rat.mul_nonneg (show 0≤-(st q).g ((st p).base k) by grind) (show 0≤-(st p).t k (e p) by grind)
    grind
  · by_cases h0:(st p).t k (e p)=0
    · rw [h0,Rat.mul_zero] at hlt; exact absurd hlt (by decide)
    · exact Rat.lt_of_le_of_ne h (Ne.symm h0)
 -- its row was one that stopped
 have hrow : ∃ x,o (p+x)=k:=Classical.byContradiction fun hc=>by
  have keep : ∀ d,(st (p+d)).base k=(st p).base k:=fun d=>by
   induction d with
   | zero=>rfl
   | succ d ih=>rw [← Nat.add_assoc,hbase,if_neg (fun h=>hc ⟨d,h.symm⟩),ih]
  exact hnbq k hk (by rw [show q=p+(q-p) by omega]; exact keep _)
 obtain ⟨x',hx'⟩:=hrow
 have hbk:(st p).t k N=0:=by
  have h1:=hdeg (p+x')
  rw [hx',hb] at h1; exact h1
 have hbo:=hdeg p
 have h9:=((R.T p).ol k hk htk).2 (by rw [hbk,hbo,Rat.div_def,Rat.div_def,Rat.zero_mul,Rat.zero_mul])
 rw [htp] at h9
 omega
end
end Bq
namespace Bq
def smA (n m:Nat) (sets:List Nat) (k j:Nat):Rat:=if j<n then bitQ (sets.getD k 0) j else if j<n+m then (if j=n+k then 1 else 0) else 1
def smC (n j:Nat):Rat:=if j<n then 1 else 0
theorem bitQ_01 (s i:Nat):is01 (bitQ s i):=by
 unfold bitQ
 split
 · exact .inr rfl
 · exact .inl rfl
theorem smA_01 (n m:Nat) (sets:List Nat) (k j:Nat):is01 (smA n m sets k j):=by
 unfold smA
 split
 · exact bitQ_01 _ _
 · split
   · split
     · exact .inr rfl
     · exact .inl rfl
   · exact .inr rfl
theorem smA_lo {n m:Nat} {sets:List Nat} {k j:Nat} (h:j<n):smA n m sets k j=bitQ (sets.getD k 0) j:=if_pos h
theorem smA_mid {n m:Nat} {sets:List Nat} {k r:Nat} (h:r<m):smA n m sets k (n+r)=if r=k then 1 else 0:=by
 unfold smA
 rw [if_neg (by omega),if_pos (by omega)]
 by_cases hk:r=k
 · rw [if_pos hk,if_pos (by omega)]
 · rw [if_neg hk,if_neg (by omega)]
theorem smC_lo {n j:Nat} (h:j<n):smC n j=1:=if_pos h
theorem smC_hi {n j:Nat} (h:n≤j):smC n j=0:=if_neg (by omega)
/-! ### Sums over some of the numbers -/
def flt (p:Nat→Bool) (m:Nat):List Nat:=(List.range m).filter p
theorem flt_succ (p:Nat→Bool) (m:Nat):flt p (m+1)=flt p m++(if p m=true then [m] else []):=by
 rw [flt,List.range_succ,List.filter_append]
 congr 1
 cases h:p m <;> simp [h]
theorem flt_get {p:Nat→Bool} {m k:Nat} (h:k<(flt p m).length):(flt p m).getD k 0<m∧p ((flt p m).getD k 0)=true:=by
 have:(flt p m).getD k 0∈flt p m:=by rw [List.getD,List.getElem?_eq_getElem h]; exact List.getElem_mem h
 rw [flt,List.mem_filter,List.mem_range] at this
 exact this
theorem flt_nodup (p:Nat→Bool) (m:Nat):(flt p m).Nodup:=List.Pairwise.filter _ List.nodup_range
theorem sum_flt (p:Nat→Bool) (f:Nat→Rat) : ∀ m,sumTo f m=sumTo (fun k=>f ((flt p m).getD k 0)) (flt p m).length+sumTo (fun r=>if p r=true then 0 else f r) m
 | 0=>by simp only [sumTo,flt,List.range_zero,List.filter_nil,List.length_nil]; grind
 | m+1=>by
   rw [sumTo,sum_flt p f m,sumTo,flt_succ]
   by_cases h:p m=true
   · rw [if_pos h,if_pos h,List.length_append,List.length_singleton,sumTo]
     have e1:(flt p m++[m]).getD (flt p m).length 0=m:=by rw [List.getD,List.getElem?_append_right (Nat.le_refl _),Nat.sub_self]; rfl
     have e2:sumTo (fun k=>f ((flt p m++[m]).getD k 0)) (flt p m).length=sumTo (fun k=>f ((flt p m).getD k 0)) (flt p m).length:=sumTo_congr fun k hk=>by
      rw [List.getD,List.getElem?_append_left hk,List.getD]
     rw [e1,e2]; grind
   · rw [if_neg h,if_neg h,List.append_nil]; grind
theorem sum_split (f:Nat→Rat) (n:Nat) : ∀ m,sumTo f (n+m)=sumTo f n+sumTo (fun r=>f (n+r)) m
 | 0=>by rw [Nat.add_zero,sumTo]; grind
 | m+1=>by rw [← Nat.add_assoc,sumTo,sum_split f n m,sumTo]; grind
def spreadL (L:List Nat) (y:Nat→Rat) (r:Nat):Rat:=sumTo (fun k=>if L.getD k 0=r then y k else 0) L.length
theorem spreadL_sum {L:List Nat} {m:Nat} (hL : ∀ k,k<L.length→L.getD k 0<m) (y f:Nat→Rat):sumTo (fun r=>spreadL L y r*f r) m=sumTo (fun k=>y k*f (L.getD k 0)) L.length:=by
 have e:(fun r=>spreadL L y r*f r)=fun r=>sumTo (fun k=>if r=L.getD k 0 then y k*f r else 0) L.length:=by
  funext r
  rw [spreadL,Rat.mul_comm,← Yb]
  refine sumTo_congr fun k _=>?_
  by_cases h:L.getD k 0=r
  · rw [if_pos h,if_pos h.symm]; grind
  · rw [if_neg h,if_neg (Ne.symm h)]; grind
 rw [e,Wd]
 exact sumTo_congr fun k hk=>sumTo_pick (fun r=>y k*f r) (hL k hk)
theorem spreadL_at {L:List Nat} (hn:L.Nodup) {k:Nat} (hk:k<L.length) (y:Nat→Rat):spreadL L y (L.getD k 0)=y k:=by
 rw [spreadL,← sumTo_pick y hk]
 refine sumTo_congr fun i hi=>?_
 by_cases h:i=k
 · rw [if_pos h,if_pos (by rw [h])]
 · rw [if_neg h,if_neg fun hc=>h ?_]
   rw [List.getD,List.getD,List.getElem?_eq_getElem hi,List.getElem?_eq_getElem hk,Option.getD_some,Option.getD_some] at hc
   have hp:=List.pairwise_iff_getElem.1 hn
   rcases Nat.lt_trichotomy i k with h1 | h1 | h1
   · exact absurd hc (hp i k hi hk h1)
   · exact h1
   · exact absurd hc.symm (hp k i hk hi h1)
theorem spreadL_no {L:List Nat} {r:Nat} (h:r ∉ L) (y:Nat→Rat):spreadL L y r=0:=Yk fun k hk=>if_neg fun hc=>h (by
 rw [← hc,List.getD,List.getElem?_eq_getElem hk]; exact List.getElem_mem hk)
def isB (m:Nat) (s:Tb) (v:Nat):Bool:=(List.range m).any fun i=>s.base i==v
theorem isB_iff {m:Nat} {s:Tb} {v:Nat}:isB m s v=true↔∃ i,i<m∧s.base i=v:=by
 simp [isB,List.any_eq_true,List.mem_range]
section
variable {n m:Nat} {sets:List Nat} {s:Tb}
theorem Good.row (G:Good m (n+m) (smA n m sets) (smC n) s) {i:Nat} (hi:i<m) {j:Nat} (hj:j≤n+m):s.t i j=sumTo (fun r=>s.t i (n+r)*smA n m sets r j) m:=by
 obtain ⟨u,hu⟩:=G.tA i hi
 rw [hu j hj]
 refine sumTo_congr fun r hr=>?_
 congr 1
 have h1:=hu (n+r) (by omega)
 rw [h1,← sum_one u hr]
 exact sumTo_congr fun k _=>by
  rw [smA_mid hr]
  by_cases hk:k=r
  · rw [if_pos hk,if_pos hk.symm]; grind
  · rw [if_neg hk,if_neg (Ne.symm hk)]; grind
theorem Good.gain (G:Good m (n+m) (smA n m sets) (smC n) s) {j:Nat} (hj:j≤n+m):s.g j=smC n j+sumTo (fun r=>s.g (n+r)*smA n m sets r j) m:=by
 obtain ⟨u,hu0⟩:=G.gA
 have hu : ∀ j,j≤n+m→s.g j-smC n j=sumTo (fun k=>u k*smA n m sets k j) m:=hu0
 have h2:=hu j hj
 have e:sumTo (fun r=>s.g (n+r)*smA n m sets r j) m=sumTo (fun k=>u k*smA n m sets k j) m:=by
  refine sumTo_congr fun r hr=>?_
  congr 1
  have h1:=hu (n+r) (by omega)
  rw [smC_hi (by omega)] at h1
  have h3:sumTo (fun k=>u k*smA n m sets k (n+r)) m=u r:=by
   rw [← sum_one u hr]
   exact sumTo_congr fun k _=>by
    rw [smA_mid hr]
    by_cases hk:k=r
    · rw [if_pos hk,if_pos hk.symm]; grind
    · rw [if_neg hk,if_neg (Ne.symm hk)]; grind
  rw [h3] at h1; grind
 rw [e]; grind
theorem Good.ind1 (G:Good m (n+m) (smA n m sets) (smC n) s) {y:Nat→Rat} (h0 : ∀ r,r<m→isB m s (n+r)=true→y r=0) (h1 : ∀ c,c<n→isB m s c=true→sumTo (fun r=>y r*bitQ (sets.getD r 0) c) m=0) : ∀ r,r<m→y r=0:=by
 have hv:Cmb m (n+m) s.t fun j=>sumTo (fun r=>y r*smA n m sets r j) m:=Cmb.trans ⟨y,fun j _=>rfl⟩ G.At
 obtain ⟨w,hw0⟩:=hv
 have hw : ∀ j,j≤n+m→sumTo (fun r=>y r*smA n m sets r j) m=sumTo (fun k=>w k*s.t k j) m:=hw0
 have hmid : ∀ r,r<m→sumTo (fun k=>y k*smA n m sets k (n+r)) m=y r:=fun r hr=>by
  rw [← sum_one y hr]
  exact sumTo_congr fun k _=>by
   rw [smA_mid hr]
   by_cases hk:k=r
   · rw [if_pos hk,if_pos hk.symm]; grind
   · rw [if_neg hk,if_neg (Ne.symm hk)]; grind
 have hwz : ∀ k,k<m→w k=0:=fun k hk=>by
  have hb:=G.blt k hk
  have h2:=hw (s.base k) (by omega)
  have h3:sumTo (fun i=>w i*s.t i (s.base k)) m=w k:=by
   rw [← sum_one w hk]
   exact sumTo_congr fun i hi=>by rw [G.bt k i hk hi]; grind
  rw [h3] at h2
  rw [← h2]
  rcases Nat.lt_or_ge (s.base k) n with hlt | hge
  · rw [← h1 _ hlt (isB_iff.2 ⟨k,hk,rfl⟩)]
    exact sumTo_congr fun r _=>by rw [smA_lo hlt]
  · obtain ⟨r,hr⟩ : ∃ r,s.base k=n+r:=⟨s.base k-n,by omega⟩
    rw [hr,hmid r (by omega)]
    exact h0 r (by omega) (isB_iff.2 ⟨k,hk,hr⟩)
 intro r hr
 rw [← hmid r hr,hw (n+r) (by omega)]
 exact Yk fun k hk=>by rw [hwz k hk,Rat.zero_mul]
theorem Good.ind2 (G:Good m (n+m) (smA n m sets) (smC n) s) {x:Nat→Rat} (h0 : ∀ c,c<n→isB m s c=false→x c=0) (h1 : ∀ r,r<m→isB m s (n+r)=false→sumTo (fun c=>x c*bitQ (sets.getD r 0) c) n=0) : ∀ c,c<n→x c=0:=by
 obtain ⟨d,hd⟩ : ∃ d:Nat→Rat,d=fun j=>if j<n then x j else-sumTo (fun c=>x c*bitQ (sets.getD (j-n) 0) c) n:=⟨_,rfl⟩
 have hdl : ∀ c,c<n→d c=x c:=fun c hc=>by rw [hd]; exact if_pos hc
 have hdh : ∀ r,d (n+r) = - sumTo (fun c=>x c*bitQ (sets.getD r 0) c) n:=fun r=>by rw [hd]; simp only; rw [if_neg (by omega),Nat.add_sub_cancel_left]
 have hA : ∀ k,k<m→sumTo (fun j=>smA n m sets k j*d j) (n+m)=0:=fun k hk=>by
  rw [sum_split]
  have e1:sumTo (fun j=>smA n m sets k j*d j) n=sumTo (fun c=>x c*bitQ (sets.getD k 0) c) n:=sumTo_congr fun c hc=>by rw [smA_lo hc,hdl c hc,Rat.mul_comm]
  have e2:sumTo (fun r=>smA n m sets k (n+r)*d (n+r)) m=d (n+k):=by
   rw [← sum_one (fun r=>d (n+r)) hk]
   exact sumTo_congr fun r hr=>by rw [smA_mid hr]
  rw [e1,e2,hdh]; grind
 have hT : ∀ i,i<m→sumTo (fun j=>s.t i j*d j) (n+m)=0:=fun i hi=>by
  have e:sumTo (fun j=>s.t i j*d j) (n+m)=sumTo (fun j=>sumTo (fun r=>s.t i (n+r)*(smA n m sets r j*d j)) m) (n+m):=sumTo_congr fun j hj=>by
   rw [G.row hi (show j≤n+m by omega),Rat.mul_comm,← Yb]
   exact sumTo_congr fun r _=>by grind
  rw [e,Wd]
  exact Yk fun r hr=>by rw [Yb,hA r hr,Rat.mul_zero]
 have hB : ∀ i,i<m→d (s.base i)=0:=fun i hi=>by
  have h2:=hT i hi
  have e:sumTo (fun j=>s.t i j*d j) (n+m)=sumTo (fun j=>if j=s.base i then d j else 0) (n+m):=sumTo_congr fun j hj=>by
   by_cases hji:j=s.base i
   · rw [if_pos hji,hji,G.bt i i hi hi,if_pos rfl,Rat.one_mul]
   · rw [if_neg hji]
     cases hb:isB m s j with
     | true =>
       obtain ⟨k,hk,hkj⟩:=isB_iff.1 hb
       rw [← hkj,G.bt k i hk hi,if_neg (fun hik=>hji (by rw [← hkj,hik])),Rat.zero_mul]
     | false =>
       have:d j=0:=by
        rcases Nat.lt_or_ge j n with hlt | hge
        · rw [hdl j hlt,h0 j hlt hb]
        · obtain ⟨r,rfl⟩ : ∃ r,j=n+r:=⟨j-n,by omega⟩
          rw [hdh,h1 r (by omega) hb]; grind
       rw [this,Rat.mul_zero]
  rw [e,sumTo_pick d (G.blt i hi)] at h2
  exact h2
 intro c hc
 cases hb:isB m s c with
 | true =>
   obtain ⟨k,hk,hkc⟩:=isB_iff.1 hb
   rw [← hdl c hc,← hkc]; exact hB k hk
 | false=>exact h0 c hc hb
end
end Bq
namespace Bq
section
variable {n m:Nat} {sets:List Nat} {s:Tb}
def nsL (n m:Nat) (s:Tb):List Nat:=flt (fun r=>!isB m s (n+r)) m
def csL (n m:Nat) (s:Tb):List Nat:=flt (fun c=>isB m s c) n
def sqM (n m:Nat) (sets:List Nat) (s:Tb) (k b:Nat):Rat:=bitQ (sets.getD ((nsL n m s).getD k 0) 0) ((csL n m s).getD b 0)
theorem mem_flt {p:Nat→Bool} {m r:Nat}:r∈flt p m↔r<m∧p r=true:=by rw [flt,List.mem_filter,List.mem_range]
theorem getD_mem' {L:List Nat} {r:Nat} (h:r∈L) : ∃ k,k<L.length∧L.getD k 0=r:=by
 obtain ⟨k,hk,rfl⟩:=List.mem_iff_getElem.1 h
 exact ⟨k,hk,by rw [List.getD,List.getElem?_eq_getElem hk]; rfl⟩
theorem Good.sq1 (G:Good m (n+m) (smA n m sets) (smC n) s) {y:Nat→Rat} (h : ∀ b,b<(csL n m s).length→sumTo (fun k=>y k*sqM n m sets s k b) (nsL n m s).length=0) : ∀ k,k<(nsL n m s).length→y k=0:=by
 have hz:=G.ind1 (y:=spreadL (nsL n m s) y) (fun r hr hb=>spreadL_no (fun hm=>by
  have:=(mem_flt.1 hm).2
  rw [hb] at this; cases this) y) (fun c hc hb=>by
  obtain ⟨b,hb1,hb2⟩:=getD_mem' (L:=csL n m s) (mem_flt.2 ⟨hc,hb⟩)
  rw [spreadL_sum (L:=nsL n m s) (m:=m) (fun k hk=>(flt_get hk).1),← hb2]
  exact h b hb1)
 intro k hk
 rw [← spreadL_at (flt_nodup _ _) hk y]
 exact hz _ (flt_get hk).1
theorem Good.sq2 (G:Good m (n+m) (smA n m sets) (smC n) s) {x:Nat→Rat} (h : ∀ k,k<(nsL n m s).length→sumTo (fun b=>x b*sqM n m sets s k b) (csL n m s).length=0) : ∀ b,b<(csL n m s).length→x b=0:=by
 have hz:=G.ind2 (x:=spreadL (csL n m s) x) (fun c hc hb=>spreadL_no (fun hm=>by
  have:=(mem_flt.1 hm).2
  rw [hb] at this; cases this) x) (fun r hr hb=>by
  obtain ⟨k,hk1,hk2⟩:=getD_mem' (L:=nsL n m s) (mem_flt.2 ⟨hr,by rw [hb]; rfl⟩)
  rw [spreadL_sum (L:=csL n m s) (m:=n) (fun b hb=>(flt_get hb).1),← hk2]
  exact h k hk1)
 intro b hb
 rw [← spreadL_at (flt_nodup _ _) hb x]
 exact hz _ (flt_get hb).1
theorem Good.square (G:Good m (n+m) (smA n m sets) (smC n) s):(nsL n m s).length=(csL n m s).length:=by
 rcases Nat.lt_trichotomy (nsL n m s).length (csL n m s).length with h | h | h
 · obtain ⟨d,⟨b,hb,hd⟩,hk⟩:=wide_ker (fun k b=>sqM n m sets s k b) h
   exact absurd (G.sq2 (x:=d) (fun k hk1=>by rw [← hk k hk1]; exact sumTo_congr fun b _=>Rat.mul_comm _ _) b hb) hd
 · exact h
 · obtain ⟨d,⟨k,hk,hd⟩,hb⟩:=wide_ker (fun b k=>sqM n m sets s k b) h
   exact absurd (G.sq1 (y:=d) (fun b hb1=>by rw [← hb b hb1]; exact sumTo_congr fun k _=>Rat.mul_comm _ _) k hk) hd
theorem csL_le:(csL n m s).length≤n:=by
 have:=List.length_filter_le (fun c=>isB m s c) (List.range n)
 rw [List.length_range] at this
 exact this
theorem Good.detne (G:Good m (n+m) (smA n m sets) (smC n) s):Bq.det (csL n m s).length (fun k b=>sqM n m sets s k b)≠0:=fun h=>by
 obtain ⟨u,⟨r,hr,hu⟩,hc⟩:=left_ker _ _ h
 exact hu (G.sq2 (x:=u) (fun k hk=>hc k (by rw [← G.square]; exact hk)) r hr)
theorem facB_720 : ∀ {k:Nat},k≤6→facB 1 k≤720:=by decide
theorem is01.neg {q:Rat} (h:is01 q):Zq 1 (-q):=by
 rcases h with rfl | rfl
 · exact ⟨0,by decide,by decide⟩
 · exact ⟨-1,by decide,by decide⟩
theorem Good.part (G:Good m (n+m) (smA n m sets) (smC n) s) (h6:n≤6) {y:Nat→Rat} (h : ∀ b,b<(csL n m s).length→Zq 1 (sumTo (fun k=>y k*sqM n m sets s k b) (csL n m s).length)) {k:Nat} (hk:k<(csL n m s).length):Zq 720 (y k*Bq.det (csL n m s).length (fun k b=>sqM n m sets s k b)):=by
 have hle:(csL n m s).length≤6:=Nat.le_trans csL_le h6
 rw [← cramer (b:=fun b=>sumTo (fun k=>y k*sqM n m sets s k b) (csL n m s).length) hk fun r _=>rfl]
 refine Zq.mono (det_fac (b:=1) _ fun c r _ hr=>?_) (facB_720 hle)
 unfold putC
 split
 · exact h r hr
 · exact (bitQ_01 _ _).zq
theorem sum_rows (n:Nat) (f:Nat→Rat):sumTo f m=sumTo (fun k=>f ((nsL n m s).getD k 0)) (nsL n m s).length+sumTo (fun r=>if (!isB m s (n+r))=true then 0 else f r) m:=sum_flt _ f m
theorem Good.extra (G:Good m (n+m) (smA n m sets) (smC n) s) {i:Nat} (hi:i<m) (f:Nat→Rat):sumTo (fun r=>if (!isB m s (n+r))=true then 0 else s.t i (n+r)*f r) m=if n≤s.base i then f (s.base i-n) else 0:=by
 have hlt:=G.blt i hi
 have key : ∀ r,r<m→(if (!isB m s (n+r))=true then (0:Rat) else s.t i (n+r)*f r)=if n+r=s.base i then f r else 0:=fun r hr=>by
  cases hb:isB m s (n+r) with
  | false =>
    rw [if_pos (by decide),if_neg fun hc=>?_]
    rw [isB_iff.2 ⟨i,hi,hc.symm⟩] at hb; cases hb
  | true =>
    rw [if_neg (by decide)]
    obtain ⟨k,hk,hkr⟩:=isB_iff.1 hb
    rw [← hkr,G.bt k i hk hi]
    by_cases hik:i=k
    · rw [if_pos hik,if_pos (by rw [hik]),Rat.one_mul]
    · rw [if_neg hik,if_neg fun hc=>hik (G.inj hi hk hc.symm),Rat.zero_mul]
 rw [sumTo_congr key]
 by_cases hn:n≤s.base i
 · rw [if_pos hn,← sumTo_pick f (show s.base i-n<m by omega)]
   exact sumTo_congr fun r _=>by
    by_cases hr:r=s.base i-n
    · rw [if_pos hr,if_pos (by omega)]
    · rw [if_neg hr,if_neg (by omega)]
 · rw [if_neg hn]
   exact Yk fun r _=>if_neg (by omega)
theorem Zq.comb {κ b:Nat} {y f:Nat→Rat} {D:Rat} (h : ∀ k,k<κ→Zq b (y k*D)) (hf : ∀ k,k<κ→is01 (f k)):Zq (κ*b) (D*sumTo (fun k=>y k*f k) κ):=by
 rw [← Yb]
 refine Zq.sum fun k hk=>?_
 have:=(h k hk).mul (hf k hk).zq
 rw [Nat.mul_one] at this
 rw [show D*(y k*f k)=y k*D*f k by grind]
 exact this
theorem Good.small (G:Good m (n+m) (smA n m sets) (smC n) s) (h6:n≤6) : ∃ z:Int,z≠0∧z.natAbs≤720∧(∀ i j,i<m→j≤n+m→Zq 5040 ((z:Rat)*s.t i j))∧∀ j,j≤n+m→Zq 5040 ((z:Rat)*s.g j):=by
 have hle:(csL n m s).length≤6:=Nat.le_trans csL_le h6
 have hsq:=G.square
 obtain ⟨z,hz,hzb⟩:=Zq.mono (det_fac (b:=1) _ fun c r _ _=>(bitQ_01 _ _).zq:Zq _ (Bq.det (csL n m s).length (fun k b=>sqM n m sets s k b))) (facB_720 hle)
 have hdet:=G.detne
 have hDz:Zq 720 (z:Rat):=⟨z,rfl,hzb⟩
 refine ⟨z,fun hc=>hdet (by rw [hz,hc]; rfl),hzb,fun i j hi hj=>?_,fun j hj=>?_⟩
 · have hp : ∀ k,k<(csL n m s).length→Zq 720 (s.t i (n+(nsL n m s).getD k 0)*(z:Rat)):=fun k hk=>by
    rw [← hz]
    refine G.part h6 (y:=fun k=>s.t i (n+(nsL n m s).getD k 0)) (fun b hb=>?_) hk
    obtain ⟨hc1,hc2⟩:=flt_get hb
    have h1:=G.row hi (j:=(csL n m s).getD b 0) (by unfold csL; omega)
    have e:sumTo (fun r=>s.t i (n+r)*smA n m sets r ((csL n m s).getD b 0)) m=sumTo (fun r=>s.t i (n+r)*bitQ (sets.getD r 0) ((csL n m s).getD b 0)) m:=sumTo_congr fun r _=>by rw [smA_lo (by unfold csL; omega)]
    rw [e,sum_rows n,G.extra hi,hsq] at h1
    obtain ⟨k2,hk2,hkc⟩:=isB_iff.1 hc2
    have h3:s.t i ((csL n m s).getD b 0)=if i=k2 then 1 else 0:=by
     show s.t i ((flt _ _).getD b 0)=_
     rw [← hkc]; exact G.bt k2 i hk2 hi
    have h4:sumTo (fun k=>s.t i (n+(nsL n m s).getD k 0)*sqM n m sets s k b) (csL n m s).length=s.t i ((csL n m s).getD b 0)-if n≤s.base i then bitQ (sets.getD (s.base i-n) 0) ((csL n m s).getD b 0) else 0:=by
     rw [h1]
     show sumTo (fun k=>s.t i (n+(nsL n m s).getD k 0)*bitQ (sets.getD ((nsL n m s).getD k 0) 0) ((csL n m s).getD b 0)) (csL n m s).length=_
     grind
    rw [h4,h3]
    by_cases hn:n≤s.base i
    · rw [if_pos hn,if_neg fun hik=>?_,show (0:Rat)-bitQ (sets.getD (s.base i-n) 0) ((csL n m s).getD b 0) = - bitQ (sets.getD (s.base i-n) 0) ((csL n m s).getD b 0) by grind]
      · exact (bitQ_01 _ _).neg
      · rw [hik,hkc] at hn
        omega
    · rw [if_neg hn,show ∀ q:Rat,q-0=q from fun q=>by grind]
      split
      · exact (is01.zq (.inr rfl))
      · exact (is01.zq (.inl rfl))
   rw [G.row hi hj,sum_rows n,G.extra hi,hsq]
   have hs:=Zq.comb hp fun k _=>smA_01 n m sets ((nsL n m s).getD k 0) j
   have he:Zq 720 ((z:Rat)*if n≤s.base i then smA n m sets (s.base i-n) j else 0):=by
    split
    · have:=hDz.mul (smA_01 n m sets (s.base i-n) j).zq
      rwa [Nat.mul_one] at this
    · rw [Rat.mul_zero]; exact Zq.zero _
   rw [Rat.mul_add]
   exact (hs.add he).mono (Nat.le_trans (Nat.add_le_add_right (Nat.mul_le_mul_right 720 hle) 720) (by decide))
 · have hp : ∀ k,k<(csL n m s).length→Zq 720 (s.g (n+(nsL n m s).getD k 0)*(z:Rat)):=fun k hk=>by
    rw [← hz]
    refine G.part h6 (y:=fun k=>s.g (n+(nsL n m s).getD k 0)) (fun b hb=>?_) hk
    obtain ⟨hc1,hc2⟩:=flt_get hb
    obtain ⟨k2,hk2,hkc⟩:=isB_iff.1 hc2
    have h1:=G.gain (j:=(csL n m s).getD b 0) (by unfold csL; omega)
    have h0:s.g ((csL n m s).getD b 0)=0:=by
     show s.g ((flt _ _).getD b 0)=_
     rw [← hkc]; exact G.bg k2 hk2
    have e:sumTo (fun r=>s.g (n+r)*smA n m sets r ((csL n m s).getD b 0)) m=sumTo (fun r=>s.g (n+r)*bitQ (sets.getD r 0) ((csL n m s).getD b 0)) m:=sumTo_congr fun r _=>by rw [smA_lo (by unfold csL; omega)]
    have e2:sumTo (fun r=>if (!isB m s (n+r))=true then 0 else s.g (n+r)*bitQ (sets.getD r 0) ((csL n m s).getD b 0)) m=0:=Yk fun r hr=>by
     split
     · rfl
     · rename_i hb
       have hb:isB m s (n+r)=true:=by simpa using hb
       obtain ⟨k3,hk3,hkr⟩:=isB_iff.1 hb
       rw [← hkr,G.bg k3 hk3,Rat.zero_mul]
    rw [h0,smC_lo (by unfold csL; omega),e,sum_rows n,e2,hsq] at h1
    have h4:sumTo (fun k=>s.g (n+(nsL n m s).getD k 0)*sqM n m sets s k b) (csL n m s).length = -1:=by
     show sumTo (fun k=>s.g (n+(nsL n m s).getD k 0)*bitQ (sets.getD ((nsL n m s).getD k 0) 0) ((csL n m s).getD b 0)) (csL n m s).length=_
     grind
    rw [h4]
    exact ⟨-1,by decide,by decide⟩
   have e2:sumTo (fun r=>if (!isB m s (n+r))=true then 0 else s.g (n+r)*smA n m sets r j) m=0:=Yk fun r hr=>by
    split
    · rfl
    · rename_i hb
      have hb:isB m s (n+r)=true:=by simpa using hb
      obtain ⟨k3,hk3,hkr⟩:=isB_iff.1 hb
      rw [← hkr,G.bg k3 hk3,Rat.zero_mul]
   rw [G.gain hj,sum_rows n,e2,hsq]
   have hs:=Zq.comb hp fun k _=>smA_01 n m sets ((nsL n m s).getD k 0) j
   have hc:Zq 720 ((z:Rat)*smC n j):=by
    have:is01 (smC n j):=by
     unfold smC; split
     · exact .inr rfl
     · exact .inl rfl
    have:=hDz.mul this.zq
    rwa [Nat.mul_one] at this
   rw [Rat.mul_add,Rat.mul_add,Rat.mul_zero]
   have:=(hc.add hs).mono (b:=5040) (Nat.le_trans (Nat.add_le_add_left (Nat.mul_le_mul_right 720 hle) 720) (by decide))
   rw [show ∀ q:Rat,q+0=q from fun q=>by grind]
   exact this
end
def Sml (q:Rat):Prop:=q.num.natAbs≤5040∧q.den≤720
theorem Zq.sml {z:Int} {q:Rat} (hz:z≠0) (hb:z.natAbs≤720) (h:Zq 5040 ((z:Rat)*q)):Sml q:=by
 obtain ⟨x,hx,hxb⟩:=h
 have hp:0<z.natAbs:=Int.natAbs_pos.2 hz
 rcases Int.natAbs_eq z with e | e
 · have hr:Rp z.natAbs x q:=⟨hp,by rw [← Rat.intCast_natCast,← e,← hx,Rat.mul_comm]⟩
   exact ⟨Nat.le_trans hr.le hxb,Nat.le_trans hr.den_le hb⟩
 · have hr:Rp z.natAbs (-x) q:=⟨hp,by
    have e2:((z.natAbs:Int):Rat) = -(z:Rat):=by rw [← Rat.intCast_neg]; congr 1; omega
    rw [← Rat.intCast_natCast,e2,Rat.intCast_neg,← hx]; grind⟩
   exact ⟨Nat.le_trans hr.le (by omega),Nat.le_trans hr.den_le hb⟩
theorem Good.sml {n m:Nat} {sets:List Nat} {s:Tb} (G:Good m (n+m) (smA n m sets) (smC n) s) (h6:n≤6):(∀ i j,i<m→j≤n+m→Sml (s.t i j))∧∀ j,j≤n+m→Sml (s.g j):=by
 obtain ⟨z,hz,hb,h1,h2⟩:=G.small h6
 exact ⟨fun i j hi hj=>(h1 i j hi hj).sml hz hb,fun j hj=>(h2 j hj).sml hz hb⟩
end Bq
namespace Bq
theorem pigeon {α:Type} : ∀ (l:List α) (f:Nat→α),(∀ k,f k∈l)→∃ a b,a<b∧f a=f b
 | [],f,h=>absurd (h 0) (by simp)
 | x::l,f,h=>by
   by_cases h1 : ∃ k0,f k0=x
   · obtain ⟨k0,hk0⟩:=h1
     by_cases h2 : ∃ k1,k0<k1∧f k1=x
     · obtain ⟨k1,h3,h4⟩:=h2
       exact ⟨k0,k1,h3,hk0.trans h4.symm⟩
     · obtain ⟨a,b,hab,he⟩:=pigeon l (fun k=>f (k0+1+k)) fun k=>by
        rcases List.mem_cons.1 (h (k0+1+k)) with h5 | h5
        · exact absurd ⟨_,by omega,h5⟩ h2
        · exact h5
       exact ⟨k0+1+a,k0+1+b,by omega,he⟩
   · exact pigeon l f fun k=>(List.mem_cons.1 (h k)).resolve_left fun h5=>h1 ⟨k,h5⟩
def listsN (V:List Rat):Nat→List (List Rat)
 | 0=>[[]]
 | n+1=>(listsN V n).flatMap fun l=>V.map fun x=>x::l
theorem mem_listsN {V:List Rat} : ∀ (l:List Rat),(∀ x∈l,x∈V)→l∈listsN V l.length
 | [],_=>by simp [listsN]
 | x::l,h=>by
   rw [List.length_cons,listsN,List.mem_flatMap]
   exact ⟨l,mem_listsN l fun y hy=>h y (List.mem_cons_of_mem _ hy),List.mem_map.2 ⟨x,h x List.mem_cons_self,rfl⟩⟩
def smV:List Rat:=(List.range 10081).flatMap fun (a:Nat)=>(List.range 721).map fun (b:Nat)=>Rat.divInt ((a:Int)-5040) (b:Int)
theorem mem_smV {q:Rat} (h:Sml q):q∈smV:=by
 unfold smV
 rw [List.mem_flatMap]
 have h1:=h.1
 have h2:=h.2
 refine ⟨(q.num+5040).toNat,List.mem_range.2 (by omega),List.mem_map.2 ⟨q.den,List.mem_range.2 (by omega),?_⟩⟩
 rw [show (((q.num+5040).toNat:Int)-5040)=q.num by omega]
 exact Rat.num_divInt_den q
def keyT (m N:Nat) (s:Tb):List Rat:=(List.range (m*(N+1))).map (fun x=>s.t (x / (N+1)) (x % (N+1)))++((List.range (N+1)).map s.g++(List.range m).map fun i=>((s.base i:Nat):Rat))
theorem keyT_len (m N:Nat) (s:Tb):(keyT m N s).length=m*(N+1)+((N+1)+m):=by simp [keyT]
theorem map_range_inj {α:Type} {f g:Nat→α} {n:Nat} (h:(List.range n).map f=(List.range n).map g) {x:Nat} (hx:x<n):f x=g x:=by
 have:=congrArg (·[x]?) h
 simpa [List.getElem?_map,List.getElem?_range hx] using this
theorem keyT_eq {m N:Nat} {s s' : Tb} (h:keyT m N s=keyT m N s'):EqD m N s s':=by
 unfold keyT at h
 obtain ⟨h1,h2⟩:=List.append_inj h (by simp)
 obtain ⟨h3,h4⟩:=List.append_inj h2 (by simp)
 refine ⟨fun i j hi hj=>?_,fun j hj=>map_range_inj h3 (by omega),fun i hi=>?_⟩
 · have hx:(N+1)*i+j<m*(N+1):=by
    have:=Nat.mul_le_mul_left (N+1) (show i+1≤m from hi)
    rw [Nat.mul_succ] at this
    rw [Nat.mul_comm m]; omega
   have:=map_range_inj h1 hx
   rw [Nat.mul_add_div (by omega),Nat.div_eq_of_lt (by omega),Nat.add_zero,Nat.mul_add_mod,Nat.mod_eq_of_lt (by omega)] at this
   exact this
 · have:=map_range_inj h4 hi
   exact_mod_cast this
def Stops (m N:Nat):Nat→Tb→Prop
 | 0,s=>∀ e o,¬ Turn m N s e o
 | k+1,s=>∀ e o,Turn m N s e o→Stops m N k (piv s o e)
theorem EqD.refl (m N:Nat) (s:Tb):EqD m N s s:=⟨fun _ _ _ _=>rfl,fun _ _=>rfl,fun _ _=>rfl⟩
section
variable {n m:Nat} {sets:List Nat} {s:Tb}
theorem Good.ends (G:Good m (n+m) (smA n m sets) (smC n) s) (h6:n≤6) (hm:n+m≤5040) : ∃ k,Stops m (n+m) k s:=Classical.byContradiction fun hno=>by
 have h0 : ∀ k,¬ Stops m (n+m) k s:=fun k hk=>hno ⟨k,hk⟩
 let P:Tb→Prop:=fun s=>Good m (n+m) (smA n m sets) (smC n) s∧∀ k,¬ Stops m (n+m) k s
 have step : ∀ x:{s // P s},∃ eo:Nat×Nat,Turn m (n+m) x.1 eo.1 eo.2∧P (Bq.piv x.1 eo.2 eo.1):=by
  rintro ⟨s,G,h⟩
  have h1 : ∃ e o,Turn m (n+m) s e o:=Classical.byContradiction fun hc=>h 0 fun e o T=>hc ⟨e,o,T⟩
  obtain ⟨e,o,T⟩:=h1
  refine ⟨(e,o),T,G.piv T,fun k hk=>h (k+1) fun e' o' T'=>?_⟩
  obtain ⟨rfl,rfl⟩:=T.uniq (EqD.refl _ _ _) G T'
  exact hk
 obtain ⟨f,hf⟩:=Classical.axiomOfChoice step
 let nxt:{s // P s}→{s // P s}:=fun x=>⟨Bq.piv x.1 (f x).2 (f x).1,(hf x).2⟩
 let sq:Nat→{s // P s}:=fun k=>Nat.rec ⟨s,G,h0⟩ (fun _ x=>nxt x) k
 have R:Run m (n+m) (smA n m sets) (smC n) (fun k=>(sq k).1) (fun k=>(f (sq k)).1) (fun k=>(f (sq k)).2) :=
  ⟨fun k=>(sq k).2.1,fun k=>(hf (sq k)).1,fun k=>rfl⟩
 obtain ⟨a,b,hab,hk⟩:=pigeon (listsN smV (m*((n+m)+1)+(((n+m)+1)+m))) (fun k=>keyT m (n+m) (sq k).1) fun k=>by
  have hG:=(sq k).2.1
  obtain ⟨h1,h2⟩:=hG.sml h6
  have:=mem_listsN (V:=smV) (keyT m (n+m) (sq k).1) fun q hq=>by
   unfold keyT at hq
   rcases List.mem_append.1 hq with hq | hq
   · obtain ⟨x,hx,rfl⟩:=List.mem_map.1 hq
     rw [List.mem_range] at hx
     exact mem_smV (h1 _ _ ((Nat.div_lt_iff_lt_mul (by omega)).2 hx) (by have:=Nat.mod_lt x (show 0<(n+m)+1 by omega); omega))
   · rcases List.mem_append.1 hq with hq | hq
     · obtain ⟨x,hx,rfl⟩:=List.mem_map.1 hq
       rw [List.mem_range] at hx
       exact mem_smV (h2 x (by omega))
     · obtain ⟨x,hx,rfl⟩:=List.mem_map.1 hq
       rw [List.mem_range] at hx
       have hb:=hG.blt x hx
       exact mem_smV ⟨by rw [Rat.num_natCast]; omega,by rw [Rat.den_natCast]; decide⟩
  rwa [keyT_len] at this
 have hE:=keyT_eq hk
 obtain ⟨L,rfl⟩ : ∃ L,b=a+L:=⟨b-a,by omega⟩
 have per : ∀ k,EqD m (n+m) (sq (a+k)).1 (sq (a+k+L)).1:=fun k=>by
  induction k with
  | zero=>exact hE
  | succ k ih =>
    have hu:=(R.T (a+k)).uniq ih (R.G (a+k)) (R.T (a+k+L))
    have h1:=ih.piv (R.T (a+k)).om (R.T (a+k)).eN
    have e1:(sq (a+(k+1))).1=Bq.piv (sq (a+k)).1 (f (sq (a+k))).2 (f (sq (a+k))).1:=rfl
    have e2:(sq (a+(k+1)+L)).1=Bq.piv (sq (a+k+L)).1 (f (sq (a+k+L))).2 (f (sq (a+k+L))).1:=by
     rw [show a+(k+1)+L=(a+k+L)+1 by omega]
    rw [e1,e2,← hu.1,← hu.2]
    exact h1
 refine Run.no_period (st:=fun k=>(sq (a+k)).1) (e:=fun k=>(f (sq (a+k))).1) (o:=fun k=>(f (sq (a+k))).2) (m:=m) (N:=n+m) (A:=smA n m sets) (c:=smC n) ⟨fun k=>R.G (a+k),fun k=>R.T (a+k),fun k=>R.s (a+k)⟩ (L:=L) (by omega) fun k=>?_
 have hu:=(R.T (a+k)).uniq (per k) (R.G (a+k)) (R.T (a+k+L))
 simp only [← Nat.add_assoc]
 exact ⟨per k,hu.1.symm,hu.2.symm⟩
def valB (m N:Nat) (s:Tb) (w:Nat→Rat) (j:Nat):Rat:=sumTo (fun i=>if s.base i=j then w i else 0) m
theorem valB_sum (G:Good m (n+m) (smA n m sets) (smC n) s) (w f:Nat→Rat):sumTo (fun j=>f j*valB m (n+m) s w j) (n+m)=sumTo (fun i=>f (s.base i)*w i) m:=by
 have e:(fun j=>f j*valB m (n+m) s w j)=fun j=>sumTo (fun i=>if j=s.base i then f j*w i else 0) m:=by
  funext j
  rw [valB,← Yb]
  refine sumTo_congr fun i _=>?_
  by_cases h:s.base i=j
  · rw [if_pos h,if_pos h.symm]
  · rw [if_neg h,if_neg (Ne.symm h),Rat.mul_zero]
 rw [e,Wd]
 exact sumTo_congr fun i hi=>sumTo_pick (fun j=>f j*w i) (G.blt i hi)
theorem valB_nn {w:Nat→Rat} {N:Nat} (h : ∀ i,i<m→0≤w i) (j:Nat):0≤valB m N s w j:=sumTo_nonneg fun i hi=>by
 split
 · exact h i hi
 · exact Rat.le_refl
theorem valB_row (G:Good m (n+m) (smA n m sets) (smC n) s) (w:Nat→Rat) {i:Nat} (hi:i<m):sumTo (fun j=>s.t i j*valB m (n+m) s w j) (n+m)=w i:=by
 rw [valB_sum G,← sum_one w hi]
 exact sumTo_congr fun k hk=>by
  rw [G.bt k i hk hi]
  by_cases h:i=k
  · rw [if_pos h,if_pos h.symm]
  · rw [if_neg h,if_neg (Ne.symm h)]
theorem Good.first (G:Good m (n+m) (smA n m sets) (smC n) s) {X b:Nat→Rat} (h : ∀ i,i<m→sumTo (fun j=>s.t i j*X j) (n+m)=b i) {k:Nat} (hk:k<m) : ∃ u:Nat→Rat,(∀ j,j≤n+m→smA n m sets k j=sumTo (fun i=>u i*s.t i j) m)∧sumTo (fun j=>smA n m sets k j*X j) (n+m)=sumTo (fun i=>u i*b i) m:=by
 obtain ⟨u,hu⟩:=G.At k hk
 refine ⟨u,hu,?_⟩
 have e:sumTo (fun j=>smA n m sets k j*X j) (n+m)=sumTo (fun j=>sumTo (fun i=>u i*(s.t i j*X j)) m) (n+m):=sumTo_congr fun j hj=>by
  rw [hu j (by omega),Rat.mul_comm,← Yb]
  exact sumTo_congr fun i _=>by grind
 rw [e,Wd]
 exact sumTo_congr fun i hi=>by rw [Yb,h i hi]
theorem smA_split (X:Nat→Rat) {k:Nat} (hk:k<m):sumTo (fun j=>smA n m sets k j*X j) (n+m)=dot (bitQ (sets.getD k 0)) X n+X (n+k):=by
 rw [sum_split]
 congr 1
 · exact sumTo_congr fun j hj=>by rw [smA_lo hj]
 · rw [← sum_one (fun r=>X (n+r)) hk]
   exact sumTo_congr fun r hr=>by rw [smA_mid hr]
theorem smA_end (k:Nat):smA n m sets k (n+m)=1:=by
 unfold smA
 rw [if_neg (by omega),if_neg (by omega)]
theorem Good.opt (G:Good m (n+m) (smA n m sets) (smC n) s) (hm:sets.length=m) (hg : ∀ j,j<n+m→s.g j≤0):IsOpt n sets (- s.g (n+m)):=by
 have hgN:=G.gain (Nat.le_refl (n+m))
 rw [smC_hi (by omega)] at hgN
 have hgN2:s.g (n+m)=sumTo (fun r=>s.g (n+r)) m:=by
  rw [hgN]
  have:sumTo (fun r=>s.g (n+r)*smA n m sets r (n+m)) m=sumTo (fun r=>s.g (n+r)) m:=sumTo_congr fun r _=>by rw [smA_end,Rat.mul_one]
  rw [this]; grind
 constructor
 · obtain ⟨X,hX⟩ : ∃ X,X=valB m (n+m) s fun i=>s.t i (n+m):=⟨_,rfl⟩
   have hnn : ∀ j,0≤X j:=fun j=>by rw [hX]; exact valB_nn G.nn j
   have hrow : ∀ i,i<m→sumTo (fun j=>s.t i j*X j) (n+m)=s.t i (n+m):=fun i hi=>by rw [hX]; exact valB_row G _ hi
   have hA : ∀ k,k<m→sumTo (fun j=>smA n m sets k j*X j) (n+m)=1:=fun k hk=>by
    obtain ⟨u,hu,he⟩:=G.first hrow hk
    rw [he,← hu _ (Nat.le_refl _),smA_end]
   refine ⟨X,⟨fun i _=>hnn i,fun c hc=>?_⟩,?_⟩
   · obtain ⟨k,hk,rfl⟩:=List.mem_iff_getElem.1 hc
     have h1:=hA k (by omega)
     rw [smA_split X (by omega),List.getD,List.getElem?_eq_getElem hk,Option.getD_some] at h1
     have:=hnn (n+k)
     grind
   · obtain ⟨u,hu0⟩:=G.gA
     have hu : ∀ j,j≤n+m→s.g j-smC n j=sumTo (fun k=>u k*smA n m sets k j) m:=hu0
     have e1:sumTo (fun j=>(s.g j-smC n j)*X j) (n+m)=s.g (n+m):=by
      have e:sumTo (fun j=>(s.g j-smC n j)*X j) (n+m)=sumTo (fun j=>sumTo (fun k=>u k*(smA n m sets k j*X j)) m) (n+m):=sumTo_congr fun j hj=>by
       rw [hu j (by omega),Rat.mul_comm,← Yb]
       exact sumTo_congr fun k _=>by grind
      rw [e,Wd]
      have e2:sumTo (fun k=>sumTo (fun j=>u k*(smA n m sets k j*X j)) (n+m)) m=sumTo (fun k=>u k*smA n m sets k (n+m)) m:=sumTo_congr fun k hk=>by rw [Yb,hA k hk,smA_end]
      rw [e2,← hu _ (Nat.le_refl _),smC_hi (by omega)]; grind
     have e3:sumTo (fun j=>s.g j*X j) (n+m)=0:=by
      rw [hX,valB_sum G]
      exact Yk fun i hi=>by rw [G.bg i hi,Rat.zero_mul]
     have e4:sumTo (fun j=>smC n j*X j) (n+m)=sumTo X n:=by
      rw [sum_split]
      have a1:sumTo (fun j=>smC n j*X j) n=sumTo X n:=sumTo_congr fun j hj=>by rw [smC_lo hj,Rat.one_mul]
      have a2:sumTo (fun r=>smC n (n+r)*X (n+r)) m=0:=Yk fun r _=>by rw [smC_hi (by omega),Rat.zero_mul]
      rw [a1,a2]; grind
     have e5:sumTo (fun j=>s.g j*X j) (n+m)=sumTo (fun j=>(s.g j-smC n j)*X j) (n+m)+sumTo (fun j=>smC n j*X j) (n+m):=by
      rw [← Xm]; exact sumTo_congr fun j _=>by grind
     rw [e3,e1,e4] at e5
     grind
 · intro x hx
   have e1:sumTo x n=sumTo (fun j=>x j*s.g j) n+sumTo (fun r=>(- s.g (n+r))*dot (bitQ (sets.getD r 0)) x n) m:=by
    have h1 : ∀ j,j<n→x j=x j*s.g j+sumTo (fun r=>(- s.g (n+r))*(bitQ (sets.getD r 0) j*x j)) m:=fun j hj=>by
     have h2:=G.gain (show j≤n+m by omega)
     rw [smC_lo hj] at h2
     have h3:sumTo (fun r=>(- s.g (n+r))*(bitQ (sets.getD r 0) j*x j)) m=(- x j)*sumTo (fun r=>s.g (n+r)*smA n m sets r j) m:=by
      rw [← Yb]
      exact sumTo_congr fun r _=>by rw [smA_lo hj]; grind
     rw [h3]
     have h4:sumTo (fun r=>s.g (n+r)*smA n m sets r j) m=s.g j-1:=by rw [h2]; grind
     rw [h4]; grind
    rw [sumTo_congr h1,Xm,Wd]
    congr 1
    exact sumTo_congr fun r _=>by rw [Yb]; rfl
   have e2:sumTo (fun j=>x j*s.g j) n≤0:=by
    have h1:0≤sumTo (fun j=>x j*(- s.g j)) n:=sumTo_nonneg fun j hj=>Rat.mul_nonneg (hx.nn j hj) (by have:=hg j (by omega); grind)
    have h2:sumTo (fun j=>x j*(- s.g j)) n=(-1)*sumTo (fun j=>x j*s.g j) n:=by
     rw [← Yb]; exact sumTo_congr fun j _=>by grind
    grind
   have e3:sumTo (fun r=>(- s.g (n+r))*dot (bitQ (sets.getD r 0)) x n) m≤sumTo (fun r=>- s.g (n+r)) m:=sumTo_le fun r hr=>by
    have h1:=hx.le _ (getD_in (show r<sets.length by omega))
    have h2:=hg (n+r) (by omega)
    have h3:=Rat.mul_le_mul_of_nonneg_left h1 (show 0≤- s.g (n+r) by grind)
    rwa [Rat.mul_one] at h3
   have e4:sumTo (fun r=>- s.g (n+r)) m = - s.g (n+m):=by
    have:sumTo (fun r=>- s.g (n+r)) m=(-1)*sumTo (fun r=>s.g (n+r)) m:=by
     rw [← Yb]; exact sumTo_congr fun j _=>by grind
    rw [this,← hgN2]; grind
   grind
theorem Good.stop (G:Good m (n+m) (smA n m sets) (smC n) s) (hm:sets.length=m) (hc : ∀ i,i<n→∃ c∈sets,c.testBit i=true) {e:Nat} (he:e<n+m) : ∃ i,i<m∧0<s.t i e:=Classical.byContradiction fun hno=>by
 have hle : ∀ i,i<m→0≤- s.t i e:=fun i hi=>by
  rcases (Rat.le_total (a:=s.t i e) (b:=0)) with h | h
  · grind
  · by_cases h0:s.t i e=0
    · rw [h0]; decide
    · exact absurd ⟨i,hi,Rat.lt_of_le_of_ne h (Ne.symm h0)⟩ hno
 obtain ⟨X,hX⟩ : ∃ X:Nat→Rat,X=fun j=>(if j=e then 1 else 0)+valB m (n+m) s (fun i=>- s.t i e) j:=⟨_,rfl⟩
 have hnn : ∀ j,0≤X j:=fun j=>by
  rw [hX]
  have h1:=valB_nn (s:=s) (N:=n+m) hle j
  simp only
  split <;> grind
 have hXe:1≤X e:=by
  rw [hX]
  have h1:=valB_nn (s:=s) (N:=n+m) hle e
  simp only [if_true]
  grind
 have hrow : ∀ i,i<m→sumTo (fun j=>s.t i j*X j) (n+m)=0:=fun i hi=>by
  have e1:sumTo (fun j=>s.t i j*X j) (n+m)=sumTo (fun j=>if j=e then s.t i j else 0) (n+m)+sumTo (fun j=>s.t i j*valB m (n+m) s (fun i=>- s.t i e) j) (n+m):=by
   rw [← Xm]
   exact sumTo_congr fun j _=>by
    rw [hX]
    by_cases h:j=e
    · simp only [if_pos h]; grind
    · simp only [if_neg h]; grind
  rw [e1,sumTo_pick (fun j=>s.t i j) he,valB_row G _ hi]; grind
 have hk : ∃ k,k<m∧smA n m sets k e=1:=by
  rcases Nat.lt_or_ge e n with h | h
  · obtain ⟨c,hc1,hc2⟩:=hc e h
    obtain ⟨k,hk,rfl⟩:=List.mem_iff_getElem.1 hc1
    refine ⟨k,by omega,?_⟩
    rw [smA_lo h,List.getD,List.getElem?_eq_getElem hk,Option.getD_some,bitQ,if_pos hc2]
  · refine ⟨e-n,by omega,?_⟩
    have:=smA_mid (n:=n) (sets:=sets) (k:=e-n) (show e-n<m by omega)
    rw [show n+(e-n)=e by omega,if_pos rfl] at this
    exact this
 obtain ⟨k,hk,h1⟩:=hk
 obtain ⟨u,_,h2⟩:=G.first hrow hk
 have h3:sumTo (fun i=>u i*(0:Rat)) m=0:=Yk fun i _=>Rat.mul_zero _
 rw [h3] at h2
 have h4:=sumTo_one (k:=e) (n:=n+m) (g:=fun j=>smA n m sets k j*X j) he fun j _=>Rat.mul_nonneg (by rcases smA_01 n m sets k j with h | h <;> rw [h] <;> decide) (hnn j)
 simp only [h2,h1] at h4
 grind
def tb0 (n m:Nat) (sets:List Nat):Tb:=⟨smA n m sets,smC n,fun i=>n+i⟩
theorem good0 (n m:Nat) (sets:List Nat):Good m (n+m) (smA n m sets) (smC n) (tb0 n m sets) where
 blt i hi:=by show n+i<n+m; omega
 bg i hi:=smC_hi (show n≤n+i by omega)
 bt i k hi hk:=by
  show smA n m sets k (n+i)=_
  rw [smA_mid hi]
  by_cases h:k=i
  · rw [if_pos h,if_pos h.symm]
  · rw [if_neg h,if_neg (Ne.symm h)]
 nn i _:=by
  show 0≤smA n m sets i (n+m)
  rw [smA_end]; decide
 tA i hi:=Cmb.self hi
 At i hi:=Cmb.self hi
 gA:=Cmb.zero.congr fun j _=>by show smC n j-smC n j=0; grind
end
end Bq
namespace Go.Proofs.Tryd.Am
open Go.Am Sr
set_option maxRecDepth 100000
set_option maxHeartbeats 2000000
theorem el_89:elemOf' prog 89=some 50:=by kernel_rfl
theorem esz_50:esz prog 50=some 1:=by kernel_rfl
theorem shp_50:shp prog 50=some none:=by kernel_rfl
theorem zero_50:Xs prog 50=some [.slice none 0 0]:=by kernel_rfl
theorem app_89_89:appT prog 89 89=some (50,1,24):=by kernel_rfl
theorem isl_89:isSl prog 89=true:=by kernel_rfl
theorem sm_add (a b:Rat):Rat.divInt (a.num*b.den+b.num*a.den) ((a.den*b.den:Nat):Int)=a+b:=by
 rw [Rat.divInt_ofNat,← Rat.add_def']
theorem sm_mul (a b:Rat):Rat.divInt (a.num*b.num) ((a.den*b.den:Nat):Int)=a*b:=by
 rw [Rat.divInt_ofNat,← Rat.mul_def']
theorem sm_div {a b:Rat} (hb:b≠0):Rat.divInt (a.num*b.den) ((a.den:Int)*b.num)=a / b:=by
 have hn:b.num≠0:=fun hc=>hb (Rat.num_eq_zero.1 hc)
 refine Bq.divInt_of_mul (Int.mul_ne_zero (by have:=a.den_nz; omega) hn) ?_
 have h1:=Bq.mul_den a
 have h2:=Bq.mul_den b
 have h3:=Rat.div_mul_cancel (a:=a) hb
 push_cast
 rw [← h1,← h2]
 generalize hc:a / b=c at h3
 grind
theorem s69_callW [Tabs Tryd.prog] {args:List Value} {h:Zh} {Q:Value→Zh→Prop} (hsz:args.length≤22) (hk:AWS Tryd.prog 22 s69 (Zu Tryd.prog [.cell 4 44] Q) (Zt 0 args) h):ACall Tryd.prog 69 args h Q :=
 Xd Tryd.func69 rfl (enters_of Tryd.func69 (by kernel_rfl) rfl) rfl rfl (by decide) s69_strip s69_ok hsz hk
theorem smplus_call [Tabs prog] {h:Zh} {a b:Rat} (h1:(a.num*b.den).natAbs+(b.num*a.den).natAbs<9223372036854775808) (h2:a.den*b.den<9223372036854775808):Wo prog 69 [qV a,qV b] h (qV (a+b)):=by
 obtain ⟨H,hH⟩ : ∃ H,H=h++[fC a.num a.den]++[fC b.num b.den]++[z0]:=⟨_,rfl⟩
 have c2:H[h.length]? = some (fC a.num a.den):=by rw [hH]; exact b3_0 ..
 have c3:H[h.length+1]? = some (fC b.num b.den):=by rw [hH]; exact b3_1 ..
 have c4:H[h.length+2]? = some z0:=by rw [hH]; exact b3_2 ..
 have hE:Ext (fun _=>False) h H:=by rw [hH]; exact e3 ..
 have m1:=mulZ (a:=a.num) (b:=b.den) (by omega)
 have m2:=mulZ (a:=b.num) (b:=a.den) (by omega)
 have m3:=addZ (a:=a.num*b.den) (b:=b.num*a.den) h1
 have m4:mulV .i64 (a.den:Int) (b.den:Int)=((a.den*b.den:Nat):Int):=by rw [mulZ (by rw [← Int.natCast_mul]; omega),Int.natCast_mul]
 have hd:=Nat.mul_pos a.den_pos b.den_pos
 have f:=rfrac_call (h:=H) (a:=a.num*b.den+b.num*a.den) (b:=((a.den*b.den:Nat):Int)) (by omega) (by omega) (by omega)
 rw [sm_add] at f
 obtain ⟨q,hq⟩ : ∃ q,a+b=q:=⟨_,rfl⟩
 rw [hq] at f ⊢
 refine ACall.forget (low_frV _ _) ?_
 refine s69_callW (by simp) ?_
 simp only [s69]
 refine Ze fun N1 hN1=>?_
 simp (maxSteps:=2000000) only [↓Za,↓Zb,↓Zc,vup,cond_true,cond_false,aop,Zg,Zt,ev,sput,Zf,Nat.reduceBEq,Nat.reduceAdd,tyf,qV,frV,boxF,Xv,Xc,List.length_append,List.length_singleton,Nat.add_assoc]
 rw [← hH]
 refine hN1 [(2,.pointer (some ⟨h.length,0,none⟩)),(3,.pointer (some ⟨h.length+1,0,none⟩)),(4,.pointer (some ⟨h.length+2,0,none⟩))] _ _ ?_ (by simp (maxSteps:=2000000) only [vup,cond_true,cond_false,Nat.reduceBEq])
 clear hN1
 try clear N1
 refine Zj ?_
 simp (maxSteps:=2000000) only [↓Za,↓Zp,↓Ya,↓Zb,↓Zc,vup,List.map_cons,List.map_nil,cond_true,cond_false,aop,Zg,ev,sput,Zf,Zv,Zx,Nat.reduceBEq,Zu,Xu,tup,tyf,fA0,fA1,loadF0 c2,loadF1 c2,loadF0 c3,loadF1 c3,m1,m2,m3,m4,Yz,List.nil_append,List.append_nil]
 refine f.mono ?_
 rintro _ _ ⟨rfl,rfl⟩
 simp (maxSteps:=2000000) only [vup,qV,frV,Wy c4 rfl,Vj (Xj (Zz c4) _)]
 exact hE.set_ge (by omega) _
theorem s91_callW [Tabs Tryd.prog] {args:List Value} {h:Zh} {Q:Value→Zh→Prop} (hsz:args.length≤16) (hk:AWS Tryd.prog 16 s91 (Zu Tryd.prog [.cell 4 44] Q) (Zt 0 args) h):ACall Tryd.prog 91 args h Q :=
 Xd Tryd.func91 rfl (enters_of Tryd.func91 (by kernel_rfl) rfl) rfl rfl (by decide) s91_strip s91_ok hsz hk
theorem smtimes_call [Tabs prog] {h:Zh} {a b:Rat} (h1:(a.num*b.num).natAbs<9223372036854775808) (h2:a.den*b.den<9223372036854775808):Wo prog 91 [qV a,qV b] h (qV (a*b)):=by
 obtain ⟨H,hH⟩ : ∃ H,H=h++[fC a.num a.den]++[fC b.num b.den]++[z0]:=⟨_,rfl⟩
 have c2:H[h.length]? = some (fC a.num a.den):=by rw [hH]; exact b3_0 ..
 have c3:H[h.length+1]? = some (fC b.num b.den):=by rw [hH]; exact b3_1 ..
 have c4:H[h.length+2]? = some z0:=by rw [hH]; exact b3_2 ..
 have hE:Ext (fun _=>False) h H:=by rw [hH]; exact e3 ..
 have m1:=mulZ h1
 have m4:mulV .i64 (a.den:Int) (b.den:Int)=((a.den*b.den:Nat):Int):=by rw [mulZ (by rw [← Int.natCast_mul]; omega),Int.natCast_mul]
 have hd:=Nat.mul_pos a.den_pos b.den_pos
 have f:=rfrac_call (h:=H) (a:=a.num*b.num) (b:=((a.den*b.den:Nat):Int)) (by omega) (by omega) (by omega)
 rw [sm_mul] at f
 obtain ⟨q,hq⟩ : ∃ q,a*b=q:=⟨_,rfl⟩
 rw [hq] at f ⊢
 refine ACall.forget (low_frV _ _) ?_
 refine s91_callW (by simp) ?_
 simp only [s91]
 refine Ze fun N2 hN2=>?_
 simp (maxSteps:=2000000) only [↓Za,↓Zb,↓Zc,vup,cond_true,cond_false,aop,Zg,Zt,ev,sput,Zf,Nat.reduceBEq,Nat.reduceAdd,tyf,qV,frV,boxF,Xv,Xc,List.length_append,List.length_singleton,Nat.add_assoc]
 rw [← hH]
 refine hN2 [(2,.pointer (some ⟨h.length,0,none⟩)),(3,.pointer (some ⟨h.length+1,0,none⟩)),(4,.pointer (some ⟨h.length+2,0,none⟩))] _ _ ?_ (by simp (maxSteps:=2000000) only [vup,cond_true,cond_false,Nat.reduceBEq])
 clear hN2
 try clear N2
 refine Zj ?_
 simp (maxSteps:=2000000) only [↓Za,↓Zp,↓Ya,↓Zb,↓Zc,vup,List.map_cons,List.map_nil,cond_true,cond_false,aop,Zg,ev,sput,Zf,Zv,Zx,Nat.reduceBEq,Zu,Xu,tup,tyf,fA0,fA1,loadF0 c2,loadF1 c2,loadF0 c3,loadF1 c3,m1,m4,Yz,List.nil_append,List.append_nil]
 refine f.mono ?_
 rintro _ _ ⟨rfl,rfl⟩
 simp (maxSteps:=2000000) only [vup,qV,frV,Wy c4 rfl,Vj (Xj (Zz c4) _)]
 exact hE.set_ge (by omega) _
theorem s73_callW [Tabs Tryd.prog] {args:List Value} {h:Zh} {Q:Value→Zh→Prop} (hsz:args.length≤16) (hk:AWS Tryd.prog 16 s73 (Zu Tryd.prog [.cell 4 44] Q) (Zt 0 args) h):ACall Tryd.prog 73 args h Q :=
 Xd Tryd.func73 rfl (enters_of Tryd.func73 (by kernel_rfl) rfl) rfl rfl (by decide) s73_strip s73_ok hsz hk
theorem smover_call [Tabs prog] {h:Zh} {a b:Rat} (hb0:b≠0) (h1:(a.num*b.den).natAbs<9223372036854775808) (h2:((a.den:Int)*b.num).natAbs<9223372036854775808):Wo prog 73 [qV a,qV b] h (qV (a / b)):=by
 obtain ⟨H,hH⟩ : ∃ H,H=h++[fC a.num a.den]++[fC b.num b.den]++[z0]:=⟨_,rfl⟩
 have c2:H[h.length]? = some (fC a.num a.den):=by rw [hH]; exact b3_0 ..
 have c3:H[h.length+1]? = some (fC b.num b.den):=by rw [hH]; exact b3_1 ..
 have c4:H[h.length+2]? = some z0:=by rw [hH]; exact b3_2 ..
 have hE:Ext (fun _=>False) h H:=by rw [hH]; exact e3 ..
 have m1:=mulZ h1
 have m4:=mulZ h2
 have hn:b.num≠0:=fun hc=>hb0 (Rat.num_eq_zero.1 hc)
 have f:=rfrac_call (h:=H) (a:=a.num*b.den) (b:=(a.den:Int)*b.num) (Int.mul_ne_zero (by have:=a.den_nz; omega) hn) h1 h2
 rw [sm_div hb0] at f
 obtain ⟨q,hq⟩ : ∃ q,a / b=q:=⟨_,rfl⟩
 rw [hq] at f ⊢
 refine ACall.forget (low_frV _ _) ?_
 refine s73_callW (by simp) ?_
 simp only [s73]
 refine Ze fun N3 hN3=>?_
 simp (maxSteps:=2000000) only [↓Za,↓Zb,↓Zc,vup,cond_true,cond_false,aop,Zg,Zt,ev,sput,Zf,Nat.reduceBEq,Nat.reduceAdd,tyf,qV,frV,boxF,Xv,Xc,List.length_append,List.length_singleton,Nat.add_assoc]
 rw [← hH]
 refine hN3 [(2,.pointer (some ⟨h.length,0,none⟩)),(3,.pointer (some ⟨h.length+1,0,none⟩)),(4,.pointer (some ⟨h.length+2,0,none⟩))] _ _ ?_ (by simp (maxSteps:=2000000) only [vup,cond_true,cond_false,Nat.reduceBEq])
 clear hN3
 try clear N3
 refine Zj ?_
 simp (maxSteps:=2000000) only [↓Za,↓Zp,↓Ya,↓Zb,↓Zc,vup,List.map_cons,List.map_nil,cond_true,cond_false,aop,Zg,ev,sput,Zf,Zv,Zx,Nat.reduceBEq,Zu,Xu,tup,tyf,fA0,fA1,loadF0 c2,loadF1 c2,loadF0 c3,loadF1 c3,m1,m4,Yz,List.nil_append,List.append_nil]
 refine f.mono ?_
 rintro _ _ ⟨rfl,rfl⟩
 simp (maxSteps:=2000000) only [vup,qV,frV,Wy c4 rfl,Vj (Xj (Zz c4) _)]
 exact hE.set_ge (by omega) _
end Go.Proofs.Tryd.Am
namespace Go.Proofs.Tryd.Am
open Go.Am Sr
set_option maxRecDepth 100000
set_option maxHeartbeats 4000000
abbrev smF (q:Rat):Int×Int:=(q.num,(q.den:Int))
def smR (f:Nat→Rat) (W:Nat):List (Int×Int):=(List.range W).map fun j=>smF (f j)
abbrev smB (f:Nat→Rat) (W:Nat):Blk:=.cells ((Yv (smR f W)).map Zd) 44 false
abbrev smV (b W:Nat):Value:=.slice (some ⟨b,0,none⟩) W W
abbrev pT (b:Nat):Value:=.pointer (some ⟨b,0,none⟩)
section
variable {f g:Nat→Rat} {W j b:Nat} {z:Zh}
theorem smR_len:(smR f W).length=W:=by simp [smR]
theorem smR_get (hj:j<W):(smR f W).getD j (0,0)=smF (f j):=by
 rw [smR,List.getD,List.getElem?_map,List.getElem?_range hj]; rfl
theorem smR_congr (h : ∀ j,j<W→f j=g j):smR f W=smR g W:=by
 apply List.ext_getElem (by simp [smR])
 intro i h1 h2
 simp only [smR,List.getElem_map,List.getElem_range]
 rw [h i (by simpa [smR] using h1)]
theorem smR_set (x:Rat) (hj:j<W):(smR f W).set j (smF x)=smR (fun k=>if k=j then x else f k) W:=by
 apply List.ext_getElem (by simp [smR])
 intro i h1 h2
 rw [List.getElem_set]
 simp only [smR,List.getElem_map,List.getElem_range]
 by_cases h:j=i
 · rw [if_pos h,if_pos h.symm]
 · rw [if_neg h,if_neg (Ne.symm h)]
theorem smSl (hb:z[b]? = some (smB f W)):PairSl z (smV b W) (smR f W):=by
 have:=pairSl_cells hb
 rwa [smR_len] at this
theorem smIdx (hb:z[b]? = some (smB f W)) (hj:j<W) (K:Value→Prop):Yy prog 50 (smV b W) (.int .i64 j) K=K (.pointer (some ⟨b,j*2,none⟩)):=by
 rw [(smSl hb).idx el_50 esz_44 (by rw [smR_len]; exact hj),elemP_pair]
theorem smLoad (hb:z[b]? = some (smB f W)) (hj:j<W) (K:Value→Prop):Xq prog z 44 (.pointer (some ⟨b,j*2,none⟩)) K=K (qV (f j)):=by
 have h1:=(smSl hb).load (P:=prog) shp_44 (i:=j) (by rw [smR_len]; exact hj) K
 rw [elemP_pair,smR_get hj] at h1
 exact h1
theorem smFld0 {o:Nat} {K:Value→Prop}:Xk prog 44 (.pointer (some ⟨b,o,none⟩)) 0 K=K (.pointer (some ⟨b,o,none⟩)):=by
 simp only [Xk,fld_44_0,Xe]
 simp
theorem smNum (hb:z[b]? = some (smB f W)) (hj:j<W) (K:Value→Prop):Xq prog z 3 (.pointer (some ⟨b,j*2,none⟩)) K=K (Zd (f j).num):=by
 refine loadC hb Xf ?_
 have h1:=(flatP_get (smR f W) j (by rw [smR_len]; exact hj)).1
 rw [smR_get hj] at h1
 rw [List.getElem?_map,h1]; rfl
theorem smStore (x:Rat) (hb:z[b]? = some (smB f W)) (hj:j<W) (K:Zh→Prop):Xh prog z 44 (.pointer (some ⟨b,j*2,none⟩)) (qV x) K=K (z.set b (smB (fun k=>if k=j then x else f k) W)):=by
 have h1:=storePC (P:=prog) (x:=x.num) (y:=(x.den:Int)) (K:=K) hb shp_44 (i:=j) (by rw [smR_len]; exact hj)
 rw [show ((x.num,(x.den:Int)):Int×Int)=smF x from rfl,smR_set x hj] at h1
 exact h1
end
theorem sm_prod {a b:Rat} (ha:Bq.Sml a) (hb:Bq.Sml b):(a.num*b.num).natAbs≤25401600∧a.den*b.den≤518400∧(a*b).num.natAbs≤25401600∧(a*b).den≤518400:=by
 have h1:(a.num*b.num).natAbs≤25401600:=by
  rw [Int.natAbs_mul]; exact Nat.mul_le_mul ha.1 hb.1
 have h2:a.den*b.den≤518400:=Nat.mul_le_mul ha.2 hb.2
 have hd:=Nat.mul_pos a.den_pos b.den_pos
 have h3:=Bq.natAbs_divInt_num_le (a.num*b.num) (y:=((a.den*b.den:Nat):Int)) (by omega)
 rw [sm_mul,Int.natAbs_natCast] at h3
 exact ⟨h1,h2,Nat.le_trans h3.1 h1,Nat.le_trans h3.2 h2⟩
theorem smtimes [Tabs prog] {h:Zh} {a b:Rat} (ha:Bq.Sml a) (hb:Bq.Sml b):Wo prog 91 [qV a,qV b] h (qV (a*b)):=by
 obtain ⟨h1,h2,_,_⟩:=sm_prod ha hb
 exact smtimes_call (by omega) (by omega)
theorem smover [Tabs prog] {h:Zh} {a b:Rat} (ha:Bq.Sml a) (hb:Bq.Sml b) (h0:b≠0):Wo prog 73 [qV a,qV b] h (qV (a / b)):=by
 have h1:(a.num*(b.den:Int)).natAbs≤5040*720:=by
  rw [Int.natAbs_mul,Int.natAbs_natCast]; exact Nat.mul_le_mul ha.1 hb.2
 have h2:((a.den:Int)*b.num).natAbs≤720*5040:=by
  rw [Int.natAbs_mul,Int.natAbs_natCast]; exact Nat.mul_le_mul ha.2 hb.1
 exact smover_call h0 (by omega) (by omega)
theorem smminus [Tabs prog] {h:Zh} {p a b:Rat} (hp:Bq.Sml p) (ha:Bq.Sml a) (hb:Bq.Sml b):Wo prog 69 [qV p,frV (-(a*b).num) (a*b).den] h (qV (p-a*b)):=by
 obtain ⟨_,_,h3,h4⟩:=sm_prod ha hb
 have e1:qV (-(a*b))=frV (-(a*b).num) (a*b).den:=by rw [qV,Rat.neg_num,Rat.neg_den]
 rw [← e1,show p-a*b=p + -(a*b) by grind]
 have hp1:=hp.1
 have hp2:=hp.2
 have h5:(p.num*((-(a*b)).den:Int)).natAbs≤5040*518400:=by
  rw [Int.natAbs_mul,Int.natAbs_natCast,Rat.neg_den]; exact Nat.mul_le_mul hp1 h4
 have h6:((-(a*b)).num*(p.den:Int)).natAbs≤25401600*720:=by
  rw [Int.natAbs_mul,Int.natAbs_natCast,Rat.neg_num,Int.natAbs_neg]; exact Nat.mul_le_mul h3 hp2
 have h7:p.den*(-(a*b)).den≤720*518400:=by rw [Rat.neg_den]; exact Nat.mul_le_mul hp2 h4
 exact smplus_call (by omega) (by omega)
def mixF (f f' : Nat→Rat) (j:Nat):Nat→Rat:=fun k=>if k<j then f' k else f k
theorem mixF_zero {f f' : Nat→Rat}:mixF f f' 0=f:=by funext k; simp [mixF]
theorem mixF_step {f f' : Nat→Rat} {j:Nat}:(fun k=>if k=j then f' j else mixF f f' j k)=mixF f f' (j+1):=by
 funext k
 simp only [mixF]
 by_cases h:k=j
 · rw [if_pos h,if_pos (by omega),h]
 · rw [if_neg h]
   by_cases h2:k<j
   · rw [if_pos h2,if_pos (by omega)]
   · rw [if_neg h2,if_neg (by omega)]
theorem mixF_at {f f' : Nat→Rat} {j:Nat}:mixF f f' j j=f j:=if_neg (Nat.lt_irrefl j)
theorem mixF_all {f f' : Nat→Rat} {W:Nat}:smR (mixF f f' W) W=smR f' W:=smR_congr fun j hj=>if_pos hj
theorem mixB_all {f f' : Nat→Rat} {W:Nat}:smB (mixF f f' W) W=smB f' W:=by simp only [smB,mixF_all]
theorem s92_callW [Tabs Tryd.prog] {args:List Value} {h:Zh} {Q:Value→Zh→Prop} (hsz:args.length≤39) (hk:AWS Tryd.prog 39 s92 (Zu Tryd.prog [] Q) (Zt 0 args) h):ACall Tryd.prog 92 args h Q :=
 Xd Tryd.func92 rfl (enters_of Tryd.func92 (by kernel_rfl) rfl) rfl rfl (by decide) s92_strip s92_ok hsz hk
theorem smclear_call [Tabs prog] {z:Zh} {b c W a:Nat} {f g:Nat→Rat} (hb:z[b]? = some (smB f W)) (hc:z[c]? = some (smB g W)) (hne:b≠c) (ha:a<W) (hW:W<1099511627776) (hf : ∀ j,j<W→Bq.Sml (f j)) (hg : ∀ j,j<W→Bq.Sml (g j)) :
  ACall prog 92 [smV b W,smV c W,Zd (a:Nat)] z fun _ z'=>z'[b]? = some (smB (fun j=>f j-f a*g j) W)∧Ext (fun i=>i=b) z z':=by
 refine s92_callW (by simp) ?_
 simp only [s92]
 have hst : ∀ (y:Zh) (q:Rat) (K:Zh→Prop),Xh prog (y++[z0]) 44 (.pointer (some ⟨y.length,0,none⟩)) (qV q) K=K (y++[fC q.num q.den]):=fun y q K=>by
  rw [qV,frV,Wy (Yp y z0) rfl,set_new]
 refine Ze fun N1 hN1=>?_
 simp (maxSteps:=2000000) only [↓Za,↓Zb,↓Zc,vup,cond_true,cond_false,aop,Zg,Zt,ev,sput,Zf,Nat.reduceBEq,Nat.reduceAdd,tyf,smIdx hb ha,smLoad hb ha,Xv,Xc,hst]
 have hE0:Ext (fun i=>i=b) z (z++[fC (f a).num (f a).den]):=Ext.app _ _ _
 have c6:=Yp z (fC (f a).num (f a).den)
 have b1:=Vc hb [fC (f a).num (f a).den]
 have c1:=Vc hc [fC (f a).num (f a).den]
 have hbl:=Zz hb
 have hcl:=Zz hc
 have n1:z.length≠b:=by omega
 generalize z++[fC (f a).num (f a).den]=y at hE0 c6 b1 c1 ⊢
 generalize z.length=b6 at c6 n1 ⊢
 refine hN1 [(0,smV b W),(1,smV c W),(2,Zd (a:Nat)),(6,pT b6)] _ _ ?_ (by simp (maxSteps:=2000000) only [vup,cond_true,cond_false,Nat.reduceBEq])
 clear hN1
 try clear N1
 have hl:=(smSl b1).len
 rw [smR_len] at hl
 refine Ze fun N2 hN2=>?_
 simp (maxSteps:=2000000) only [↓Za,↓Zb,↓Zc,vup,List.map_cons,List.map_nil,cond_true,cond_false,aop,Zg,ev,sput,Zf,Zi,Nat.reduceBEq,tyf,hl]
 refine hN2 [(0,smV b W),(1,smV c W),(2,Zd (a:Nat)),(6,pT b6),(13,smV b W),(14,Zd W),(15,.int .i64 0)] _ _ ?_ (by simp (maxSteps:=2000000) only [vup,cond_true,cond_false,Nat.reduceBEq])
 clear hN2
 try clear N2
 refine Zo ?_
 refine Zm fun Q hQ=>?_
 refine Yl (γ:=Nat×Zh) (fun s=>s.1≤W∧s.2[b]? = some (smB (mixF f (fun j=>f j-f a*g j) s.1) W)∧s.2[c]? = some (smB g W)∧s.2[b6]? = some (fC (f a).num (f a).den)∧Ext (fun i=>i=b) z s.2)
  (fun s=>([(0,smV b W),(1,smV c W),(2,Zd (a:Nat)),(6,pT b6),(13,smV b W),(14,Zd W),(15,Zd (s.1:Nat))],s.2)) (fun s=>W-s.1) (0,y) ⟨Nat.zero_le _,by rw [mixF_zero]; exact b1,c1,c6,hE0⟩ (by simp (maxSteps:=2000000) only [vup,cond_true,cond_false,Nat.reduceBEq,Int.natCast_zero]) rfl ?_
 clear b1 c1 c6 hE0 hl
 rintro ⟨j,y⟩ ⟨hj,b1,c1,c6,hE⟩
 simp only at hj b1 c1 c6 hE
 refine Zm fun Q2 hQ2=>?_
 simp only [l92_0]
 by_cases hin:(j:Int)<W
 · have hj' : j<W:=by omega
   refine Ze fun N3 hN3=>?_
   simp (maxSteps:=2000000) only [↓Za,↓Zb,↓Zc,vup,cond_true,cond_false,aop,Zg,ev,sput,Zf,Zv,Zx,Nat.reduceBEq,hin]
   refine hN3 [(0,smV b W),(1,smV c W),(2,Zd (a:Nat)),(6,pT b6),(13,smV b W),(14,Zd W),(15,Zd (j:Nat)),(16,.bool true)] _ _ ?_ (by simp (maxSteps:=2000000) only [vup,cond_true,cond_false,Nat.reduceBEq])
   clear hN3
   try clear N3
   refine Ze fun N4 hN4=>?_
   simp (maxSteps:=2000000) only [↓Zn,↓vdn,vup,cond_true,cond_false,Zg,ev,Nat.reduceBEq]
   refine hN4 [(0,smV b W),(1,smV c W),(2,Zd (a:Nat)),(6,pT b6),(13,smV b W),(14,Zd W),(15,Zd (j:Nat))] _ _ ?_ (by simp (maxSteps:=2000000) only [vup,cond_true,cond_false,Nat.reduceBEq])
   clear hN4
   try clear N4
   refine Zk fun B hB=>?_
   refine Zo ?_
   refine Ze fun N5 hN5=>?_
   simp (maxSteps:=2000000) only [↓Za,↓Zb,↓Zc,vup,cond_true,cond_false,aop,Zg,ev,sput,Zf,Nat.reduceBEq]
   refine hN5 [(0,smV b W),(1,smV c W),(2,Zd (a:Nat)),(6,pT b6),(7,Zd (j:Nat)),(13,smV b W),(14,Zd W),(15,Zd (j:Nat))] _ _ ?_ (by simp (maxSteps:=2000000) only [vup,cond_true,cond_false,Nat.reduceBEq])
   clear hN5
   try clear N5
   refine Ze fun N6 hN6=>?_
   simp only [q92_4]
   refine aw_drawE (fun _=>True) [(5,2)] 6 8 [0,4] (by kernel_rfl) (by kernel_rfl) (by kernel_rfl) (by kernel_rfl) (by kernel_rfl) (by rfl) trivial ?_
   simp (maxSteps:=2000000) only [↓dopsR_nil,↓vdn,vup,List.map_cons,List.map_nil,cond_true,cond_false,aop,Zg,ev,sput,Zf,Nat.reduceBEq,Nat.reduceAdd,Vj c6,smIdx c1 hj',smLoad c1 hj',Yz,List.nil_append,List.append_nil]
   refine ⟨qV (f a*g j),fun _ _=>⟨_,_,smtimes (hf a ha) (hg j hj'),rfl,rfl⟩,?_⟩
   simp (maxSteps:=2000000) only [tyf,Xv,Xc,hst]
   have hE1:Ext (fun _=>False) y (y++[fC (f a*g j).num (f a*g j).den]):=Ext.app _ _ _
   have c8:=Yp y (fC (f a*g j).num (f a*g j).den)
   have b2:=Vc b1 [fC (f a*g j).num (f a*g j).den]
   have d2:=Vc c1 [fC (f a*g j).num (f a*g j).den]
   have e2:=Vc c6 [fC (f a*g j).num (f a*g j).den]
   have n2:y.length≠b:=by have:=Zz b1; omega
   generalize y++[fC (f a*g j).num (f a*g j).den]=y2 at hE1 c8 b2 d2 e2 ⊢
   generalize y.length=b8 at c8 n2 ⊢
   refine hN6 [(0,smV b W),(1,smV c W),(2,Zd (a:Nat)),(6,pT b6),(7,Zd (j:Nat)),(8,pT b8),(13,smV b W),(14,Zd W),(15,Zd (j:Nat))] _ _ ?_ (by simp (maxSteps:=2000000) only [vup,cond_true,cond_false,Nat.reduceBEq])
   clear hN6
   try clear N6
   obtain ⟨_,_,hx1,hx2⟩:=sm_prod (hf a ha) (hg j hj')
   have hneg:subV .i64 0 (f a*g j).num = -(f a*g j).num:=by rw [Vk (by omega) (by omega)]; omega
   have hld:=fun K=>smLoad b2 hj' K
   rw [mixF_at] at hld
   refine Zj ?_
   simp only [q92_5]
   refine Xp [(12,1)] (by kernel_rfl) (by kernel_rfl) (by kernel_rfl) (by kernel_rfl) ?_
   simp (maxSteps:=2000000) only [↓Yw,↓vdn,vup,List.map_cons,List.map_nil,cond_true,cond_false,aop,Zg,Zl,ev,sput,Zf,unK,Nat.reduceBEq,Nat.reduceAdd,smIdx b2 hj',hld,fA0,fA1,loadF0 c8,loadF1 c8,hneg,bldF,Yz,List.nil_append,List.append_nil]
   refine ⟨_,_,smminus (hf j hj') (hf a ha) (hg j hj'),rfl,?_⟩
   have hstr:=fun K=>smStore (f j-f a*g j) b2 hj' K
   rw [mixF_step (f:=f) (f':=fun j=>f j-f a*g j)] at hstr
   simp (maxSteps:=2000000) only [hstr]
   refine hB [(0,smV b W),(1,smV c W),(2,Zd (a:Nat)),(6,pT b6),(13,smV b W),(14,Zd W),(15,Zd (j:Nat))] _ _ ?_ (by simp (maxSteps:=2000000) only [vup,cond_true,cond_false,Nat.reduceBEq])
   clear hB
   try clear B
   refine Zj ?_
   simp (maxSteps:=2000000) only [↓Za,↓Zb,↓Zc,vup,cond_true,cond_false,aop,ev,sput,Zf,Zv,Zx,Nat.reduceBEq,Wx (show j<9223372036854775807 by omega)]
   refine hQ2 _ _ _ ⟨(j+1,y2.set b (smB (mixF f (fun j=>f j-f a*g j) (j+1)) W)),⟨hj',Xj (Zz b2) _,?_,?_,?_⟩,by simp only; omega,by simp (maxSteps:=2000000) only [vup,cond_true,cond_false,Nat.reduceBEq],rfl⟩
   · rw [List.getElem?_set_ne hne]; exact d2
   · rw [List.getElem?_set_ne (Ne.symm n1)]; exact e2
   · exact (hE.trans (hE1.mono fun _ h=>h.elim)).trans (Ext.set _ rfl)
 · obtain rfl:W=j:=by omega
   refine Ze fun N7 hN7=>?_
   simp (maxSteps:=2000000) only [↓Za,↓Zb,↓Zc,vup,cond_true,cond_false,aop,Zg,ev,sput,Zf,Zv,Zx,Nat.reduceBEq,hin]
   refine hN7 [(0,smV b W),(1,smV c W),(2,Zd (a:Nat)),(6,pT b6),(13,smV b W),(14,Zd W),(15,Zd (W:Nat)),(16,.bool false)] _ _ ?_ (by simp (maxSteps:=2000000) only [vup,cond_true,cond_false,Nat.reduceBEq])
   clear hN7
   try clear N7
   refine Ze fun N8 hN8=>?_
   simp (maxSteps:=2000000) only [↓Yi,↓vdn,vup,cond_true,cond_false,Zg,ev,Nat.reduceBEq]
   refine hQ2 _ _ _ (hQ _ _ _ ?_)
   simp (maxSteps:=2000000) only [Zl,Zu,Xu,if_true]
   rw [mixB_all] at b1
   exact ⟨b1,hE⟩
end Go.Proofs.Tryd.Am
namespace Go.Proofs.Tryd.Am
open Go.Am Sr
set_option maxRecDepth 100000
set_option maxHeartbeats 4000000
theorem rnum_le {q:Rat}:q.num≤0↔q≤0:=by rw [Rat.le_iff]; simp
theorem rnum_pos {q:Rat}:0<q.num↔0<q:=by rw [Rat.lt_iff]; simp
structure TM (H z:Zh) (n m:Nat) (tv:Value) (bt bb bg:Nat) (ys:List Int) (rb:Nat→Nat) (t:Nat→Nat→Rat) (g:Nat→Rat) (base:Nat→Nat):Prop where
 ext:Ext (fun _=>False) H z
 tS:ValSl z tv ((List.range m).map fun i=>smV (rb i) (n+m+1))
 bl:Ye tv=some bt
 tb : ∃ c,z[bt]? = some (.cells c 50 false)
 row : ∀ i,i<m→z[rb i]? = some (smB (t i) (n+m+1))
 gn:z[bg]? = some (smB g (n+m+1))
 bs:z[bb]? = some (.ints ((List.range m).map (fun i=>((base i:Nat):Int))++ys) 3 false)
 inj : ∀ i k,i<m→k<m→rb i=rb k→i=k
 rg : ∀ i,i<m→rb i≠bg
 nr : ∀ i,i<m→H.length≤rb i
 ng:H.length≤bg
 nb:H.length≤bb
abbrev bsV (bb m:Nat) (ys:List Int):Value:=.slice (some ⟨bb,0,some 0⟩) m (m+ys.length)
section
variable {H z z1:Zh} {n m:Nat} {tv:Value} {bt bb bg:Nat} {ys:List Int} {rb:Nat→Nat} {t:Nat→Nat→Rat} {g:Nat→Rat} {base:Nat→Nat}
theorem TM.more (s:TM H z n m tv bt bb bg ys rb t g base) (hE:Ext (fun _=>False) z z1):TM H z1 n m tv bt bb bg ys rb t g base:=by
 have o : ∀ {b B},z[b]? = some B→z1[b]? = some B:=fun hb=>(hE.2 _ (Zz hb) id).trans hb
 obtain ⟨c,hc⟩:=s.tb
 exact ⟨s.ext.trans hE,s.tS.ext hE,s.bl,⟨c,o hc⟩,fun i hi=>o (s.row i hi),o s.gn,o s.bs,s.inj,s.rg,s.nr,s.ng,s.nb⟩
theorem TM.set (s:TM H z n m tv bt bb bg ys rb t g base) {b:Nat} (hb:H.length≤b) (hE:Ext (fun i=>i=b) z z1) (hbt:bt≠b) {t' : Nat→Nat→Rat} {g' : Nat→Rat} {base' : Nat→Nat}
  (hr : ∀ i,i<m→z1[rb i]? = some (smB (t' i) (n+m+1))) (hg:z1[bg]? = some (smB g' (n+m+1))) (hs:z1[bb]? = some (.ints ((List.range m).map (fun i=>((base' i:Nat):Int))++ys) 3 false)):TM H z1 n m tv bt bb bg ys rb t' g' base':=by
 obtain ⟨c,hc⟩:=s.tb
 refine ⟨⟨Nat.le_trans s.ext.1 hE.1,fun q hq _=>?_⟩,s.tS.same fun x hx=>?_,s.bl,⟨c,(hE.2 _ (Zz hc) hbt).trans hc⟩,hr,hg,hs,s.inj,s.rg,s.nr,s.ng,s.nb⟩
 · rw [hE.2 q (Nat.lt_of_lt_of_le hq s.ext.1) (by omega)]; exact s.ext.2 q hq id
 · rw [s.bl] at hx
   obtain rfl:bt=x:=Option.some.inj hx
   exact hE.2 _ (Zz hc) hbt
theorem TM.neb (s:TM H z n m tv bt bb bg ys rb t g base) {i:Nat} (hi:i<m):rb i≠bb:=fun h=>by
 have h1:=s.row i hi
 rw [h,s.bs] at h1; cases h1
theorem TM.net (s:TM H z n m tv bt bb bg ys rb t g base) {i:Nat} (hi:i<m):bt≠rb i:=fun h=>by
 obtain ⟨c,hc⟩:=s.tb
 have h1:=s.row i hi
 rw [← h,hc] at h1; cases h1
theorem TM.gnb (s:TM H z n m tv bt bb bg ys rb t g base):bg≠bb:=fun h=>by
 have h1:=s.gn
 rw [h,s.bs] at h1; cases h1
theorem TM.gnt (s:TM H z n m tv bt bb bg ys rb t g base):bt≠bg:=fun h=>by
 obtain ⟨c,hc⟩:=s.tb
 have h1:=s.gn
 rw [← h,hc] at h1; cases h1
theorem TM.bnt (s:TM H z n m tv bt bb bg ys rb t g base):bt≠bb:=fun h=>by
 obtain ⟨c,hc⟩:=s.tb
 have h1:=s.bs
 rw [← h,hc] at h1; cases h1
theorem TM.setR (s:TM H z n m tv bt bb bg ys rb t g base) {i:Nat} (hi:i<m) {f:Nat→Rat} (hf:z1[rb i]? = some (smB f (n+m+1))) (hE:Ext (fun b=>b=rb i) z z1):TM H z1 n m tv bt bb bg ys rb (fun k=>if k=i then f else t k) g base:=by
 refine s.set (s.nr i hi) hE (s.net hi) (fun k hk=>?_) ((hE.2 _ (Zz s.gn) (Ne.symm (s.rg i hi))).trans s.gn) ((hE.2 _ (Zz s.bs) (Ne.symm (s.neb hi))).trans s.bs)
 by_cases hki:k=i
 · subst hki; rw [if_pos rfl]; exact hf
 · rw [if_neg hki]
   exact (hE.2 _ (Zz (s.row k hk)) fun h=>hki (s.inj k i hk hi h)).trans (s.row k hk)
theorem TM.setG (s:TM H z n m tv bt bb bg ys rb t g base) {f:Nat→Rat} (hf:z1[bg]? = some (smB f (n+m+1))) (hE:Ext (fun b=>b=bg) z z1):TM H z1 n m tv bt bb bg ys rb t f base :=
 s.set s.ng hE s.gnt (fun k hk=>(hE.2 _ (Zz (s.row k hk)) (s.rg k hk)).trans (s.row k hk)) hf ((hE.2 _ (Zz s.bs) (Ne.symm s.gnb)).trans s.bs)
theorem TM.congr (s:TM H z n m tv bt bb bg ys rb t g base) {t' : Nat→Nat→Rat} {g' : Nat→Rat} {base' : Nat→Nat} (ht : ∀ i j,i<m→j<n+m+1→t i j=t' i j) (hg : ∀ j,j<n+m+1→g j=g' j) (hb : ∀ i,i<m→base i=base' i):TM H z n m tv bt bb bg ys rb t' g' base':=by
 refine ⟨s.ext,s.tS,s.bl,s.tb,fun i hi=>?_,?_,?_,s.inj,s.rg,s.nr,s.ng,s.nb⟩
 · rw [s.row i hi,smB,smB,smR_congr (ht i · hi)]
 · rw [s.gn,smB,smB,smR_congr hg]
 · rw [s.bs]
   have:(List.range m).map (fun i=>((base i:Nat):Int))=(List.range m).map fun i=>((base' i:Nat):Int):=List.map_congr_left fun i hi=>by rw [hb i (List.mem_range.1 hi)]
   rw [this]
theorem TM.idx (s:TM H z n m tv bt bb bg ys rb t g base) {i:Nat} (hi:i<m) (K:Value→Prop):Yy prog 89 tv (.int .i64 i) K=K (Wb tv 1 i):=s.tS.idx el_89 esz_50 (by simpa using hi) K
theorem TM.ld (s:TM H z n m tv bt bb bg ys rb t g base) {i:Nat} (hi:i<m) (K:Value→Prop):Xq prog z 50 (Wb tv 1 i) K=K (smV (rb i) (n+m+1)):=by
 rw [s.tS.load shp_50 (by simpa using hi),List.getD,List.getElem?_map,List.getElem?_range hi]; rfl
theorem TM.bInt (s:TM H z n m tv bt bb bg ys rb t g base):IntSl z (bsV bb m ys) ((List.range m).map fun i=>((base i:Nat):Int)):=by
 have:OwnSl 3 z (bsV bb m ys) ((List.range m).map fun i=>((base i:Nat):Int)):=.inr ⟨bb,ys,by simp,s.bs⟩
 exact this.int
theorem TM.bIdx (s:TM H z n m tv bt bb bg ys rb t g base) {i:Nat} (hi:i<m) (K:Value→Prop):Yy prog 22 (bsV bb m ys) (.int .i64 i) K=K (.pointer (some ⟨bb,i,none⟩)):=by
 rw [s.bInt.idx Xt Xe (by simpa using hi)]
 simp [Wb]
theorem TM.bLd (s:TM H z n m tv bt bb bg ys rb t g base) {i:Nat} (hi:i<m) (K:Value→Prop):Xq prog z 3 (.pointer (some ⟨bb,i,none⟩)) K=K (Zd (base i:Nat)):=by
 have h1:=s.bInt.load (P:=prog) Xf (i:=i) (by simpa using hi) K
 rw [List.getD,List.getElem?_map,List.getElem?_range hi] at h1
 simpa [Wb] using h1
end
theorem sm_in [Tabs prog] {z:Zh} {n m bg:Nat} {g:Nat→Rat} {e4 e6 e7:Value} (hg:z[bg]? = some (smB g (n+m+1))) (hW:n+m<1099511627776) {N:Env→Zh→Prop} {Q0:Exit→Env→Zh→Prop}
  (hN0 : ∀ e k,k≤n+m→(∀ j,j<k→g j≤0)→(k=n+m∨0<g k)→ELe e [(0,Zd (n:Nat)),(4,e4),(5,Zd (m:Nat)),(6,e6),(7,e7),(12,smV bg (n+m+1)),(14,Zd (k:Nat))]→N e z) :
  AWS prog 253 (.block 8 (.loop l67_3)) (Zg N Q0) [(0,Zd (n:Nat)),(4,e4),(5,Zd (m:Nat)),(6,e6),(7,e7),(12,smV bg (n+m+1)),(14,.int .i64 0)] z:=by
 have hnm:addV .i64 (n:Int) (m:Int)=((n+m:Nat):Int):=by rw [Wf (by omega) (by omega)]; omega
 refine Zo ?_
 refine Zm fun Q hQ=>?_
 refine Yl (γ:=Nat) (fun s=>s≤n+m∧∀ j,j<s→g j≤0)
  (fun s=>([(0,Zd (n:Nat)),(4,e4),(5,Zd (m:Nat)),(6,e6),(7,e7),(12,smV bg (n+m+1)),(14,Zd (s:Nat))],z)) (fun s=>n+m-s) 0 ⟨Nat.zero_le _,fun j hj=>by omega⟩ (by simp (maxSteps:=2000000) only [vup,cond_true,cond_false,Nat.reduceBEq,Int.natCast_zero]) rfl ?_
 rintro k ⟨hk,hl⟩
 refine Zm fun Q2 hQ2=>?_
 simp only [l67_3]
 refine Zk fun A hA=>?_
 by_cases hin:k<n+m
 · have h1:decide ((k:Int)<((n+m:Nat):Int))=true:=decide_eq_true (by omega)
   by_cases hle:(g k).num≤0
   · have h2:decide ((g k).num≤0)=true:=decide_eq_true hle
     refine Ze fun N1 hN1=>?_
     simp (maxSteps:=2000000) only [↓Za,↓Zb,↓Zc,↓vdn,vup,cond_true,cond_false,aop,Zg,ev,sput,Zf,Zv,Zx,Nat.reduceBEq,tyf,hnm,h1,smIdx hg (show k<n+m+1 by omega),smFld0,smNum hg (show k<n+m+1 by omega),h2]
     refine hN1 [(0,Zd (n:Nat)),(4,e4),(5,Zd (m:Nat)),(6,e6),(7,e7),(12,smV bg (n+m+1)),(14,Zd (k:Nat)),(119,.bool true)] _ _ ?_ (by simp (maxSteps:=2000000) only [vup,cond_true,cond_false,Nat.reduceBEq])
     clear hN1
     try clear N1
     refine Yx rfl ?_
     refine Zj ?_
     simp (maxSteps:=2000000) only [↓Zn,Zg]
     refine hA [(0,Zd (n:Nat)),(4,e4),(5,Zd (m:Nat)),(6,e6),(7,e7),(12,smV bg (n+m+1)),(14,Zd (k:Nat))] _ _ ?_ (by simp (maxSteps:=2000000) only [vup,cond_true,cond_false,Nat.reduceBEq])
     clear hA
     try clear A
     refine Zj ?_
     simp (maxSteps:=2000000) only [↓Za,↓Yt,↓Zb,↓Zc,vup,cond_true,cond_false,aop,Zl,ev,sput,Zf,Zv,Zx,Nat.reduceBEq,Wx (show k<9223372036854775807 by omega)]
     exact hQ2 _ _ _ ⟨k+1,⟨hin,fun j hj=>if hjk:j<k then hl j hjk else (show k=j by omega)▸rnum_le.1 hle⟩,by omega,by simp (maxSteps:=2000000) only [vup,cond_true,cond_false,Nat.reduceBEq],rfl⟩
   · have h2:decide ((g k).num≤0)=false:=decide_eq_false hle
     refine Ze fun N2 hN2=>?_
     simp (maxSteps:=2000000) only [↓Za,↓Zb,↓Zc,↓vdn,vup,cond_true,cond_false,aop,Zg,ev,sput,Zf,Zv,Zx,Nat.reduceBEq,tyf,hnm,h1,smIdx hg (show k<n+m+1 by omega),smFld0,smNum hg (show k<n+m+1 by omega),h2]
     refine hN2 [(0,Zd (n:Nat)),(4,e4),(5,Zd (m:Nat)),(6,e6),(7,e7),(12,smV bg (n+m+1)),(14,Zd (k:Nat)),(119,.bool false)] _ _ ?_ (by simp (maxSteps:=2000000) only [vup,cond_true,cond_false,Nat.reduceBEq])
     clear hN2
     try clear N2
     refine Yg rfl ?_
     refine Zj ?_
     simp (maxSteps:=2000000) only [↓Yi,Zg]
     refine hQ2 _ _ _ (hQ _ _ _ ?_)
     simp (maxSteps:=2000000) only [Zg,Zl,if_true]
     exact hN0 _ k hk hl (.inr (rnum_pos.1 (by omega))) (by simp (maxSteps:=2000000) only [vup,cond_true,cond_false,Nat.reduceBEq])
 · have h1:decide ((k:Int)<((n+m:Nat):Int))=false:=decide_eq_false (by omega)
   refine Ze fun N3 hN3=>?_
   simp (maxSteps:=2000000) only [↓Za,↓Zb,↓Zc,↓vdn,vup,cond_true,cond_false,aop,Zg,ev,sput,Zf,Zv,Zx,Nat.reduceBEq,hnm,h1]
   refine hN3 [(0,Zd (n:Nat)),(4,e4),(5,Zd (m:Nat)),(6,e6),(7,e7),(12,smV bg (n+m+1)),(14,Zd (k:Nat)),(119,.bool false)] _ _ ?_ (by simp (maxSteps:=2000000) only [vup,cond_true,cond_false,Nat.reduceBEq])
   clear hN3
   try clear N3
   refine Yg rfl ?_
   refine Zj ?_
   simp (maxSteps:=2000000) only [↓Yi,Zg]
   refine hQ2 _ _ _ (hQ _ _ _ ?_)
   simp (maxSteps:=2000000) only [Zg,Zl,if_true]
   exact hN0 _ k hk hl (.inl (by omega)) (by simp (maxSteps:=2000000) only [vup,cond_true,cond_false,Nat.reduceBEq])
theorem sm_quot {a b:Rat} (ha:Bq.Sml a) (hb:Bq.Sml b) (h0:b≠0):(a / b).num.natAbs≤3628800∧(a / b).den≤3628800:=by
 have hn:b.num≠0:=fun hc=>h0 (Rat.num_eq_zero.1 hc)
 have h3:=Bq.natAbs_divInt_num_le (a.num*b.den) (y:=(a.den:Int)*b.num) (Int.mul_ne_zero (by have:=a.den_nz; omega) hn)
 rw [sm_div h0,Int.natAbs_mul,Int.natAbs_mul,Int.natAbs_natCast,Int.natAbs_natCast] at h3
 exact ⟨Nat.le_trans h3.1 (Nat.mul_le_mul ha.1 hb.2),Nat.le_trans h3.2 (Nat.mul_le_mul ha.2 hb.1)⟩
theorem smless [Tabs prog] {h:Zh} {a b:Rat} (ha:a.num.natAbs≤3628800∧a.den≤3628800) (hb:b.num.natAbs≤3628800∧b.den≤3628800):Wo prog 37 [qV a,qV b] h (.bool (decide (a<b))):=by
 have h1:(a.num*(b.den:Int)).natAbs≤3628800*3628800:=by
  rw [Int.natAbs_mul,Int.natAbs_natCast]; exact Nat.mul_le_mul ha.1 hb.2
 have h2:(b.num*(a.den:Int)).natAbs≤3628800*3628800:=by
  rw [Int.natAbs_mul,Int.natAbs_natCast]; exact Nat.mul_le_mul hb.1 ha.2
 have:=rless_call (h:=h) (a:=a.num) (b:=(a.den:Int)) (c:=b.num) (d:=(b.den:Int)) (by omega) (by omega)
 rwa [← decide_eq_decide.2 (Rat.lt_iff (a:=a) (b:=b))] at this
def BestR (t:Nat→Nat→Rat) (base:Nat→Nat) (N e i:Nat):Option Nat→Prop
 | none=>∀ k,k<i→t k e≤0
 | some o=>o<i∧0<t o e∧∀ k,k<i→0<t k e→t o N / t o e≤t k N / t k e∧(t o N / t o e=t k N / t k e→base o≤base k)
def outI:Option Nat→Int
 | none=>-1
 | some o=>(o:Int)
def takeB (t:Nat→Nat→Rat) (base:Nat→Nat) (N e i:Nat):Option Nat→Bool
 | none=>true
 | some o=>decide (t i N / t i e<t o N / t o e) || (decide (t i N / t i e=t o N / t o e)&&decide (base i<base o))
section
variable {t:Nat→Nat→Rat} {base:Nat→Nat} {N e i:Nat} {o:Option Nat}
theorem BestR.skip (h:BestR t base N e i o) (h0:t i e≤0):BestR t base N e (i+1) o:=by
 cases o with
 | none =>
   intro k hk
   by_cases hki:k<i
   · exact h k hki
   · obtain rfl:k=i:=by omega
     exact h0
 | some o =>
   obtain ⟨h1,h2,h3⟩:=h
   refine ⟨by omega,h2,fun k hk hp=>?_⟩
   by_cases hki:k<i
   · exact h3 k hki hp
   · obtain rfl:k=i:=by omega
     grind
theorem BestR.take (h:BestR t base N e i o) (h0:0<t i e) (ht:takeB t base N e i o=true):BestR t base N e (i+1) (some i):=by
 refine ⟨by omega,h0,fun k hk hp=>?_⟩
 by_cases hki:k<i
 · cases o with
   | none =>
     have:=h k hki
     grind
   | some o =>
     obtain ⟨h1,h2,h3⟩:=h
     obtain ⟨h4,h5⟩:=h3 k hki hp
     simp only [takeB,Bool.or_eq_true,decide_eq_true_eq,Bool.and_eq_true] at ht
     rcases ht with ht | ⟨ht1,ht2⟩
     · exact ⟨by grind,fun hc=>by grind⟩
     · rw [ht1]
       exact ⟨h4,fun hc=>Nat.le_trans (Nat.le_of_lt ht2) (h5 hc)⟩
 · obtain rfl:k=i:=by omega
   exact ⟨Rat.le_refl,fun _=>Nat.le_refl _⟩
theorem BestR.keep {o:Nat} (h:BestR t base N e i (some o)) (ht:takeB t base N e i (some o)=false):BestR t base N e (i+1) (some o):=by
 obtain ⟨h1,h2,h3⟩:=h
 refine ⟨by omega,h2,fun k hk hp=>?_⟩
 by_cases hki:k<i
 · exact h3 k hki hp
 · obtain rfl:k=i:=by omega
   simp only [takeB,Bool.or_eq_false_iff,decide_eq_false_iff_not,Bool.and_eq_false_iff] at ht
   obtain ⟨h4,h5⟩:=ht
   refine ⟨by grind,fun hc=>?_⟩
   rcases h5 with h5 | h5
   · exact absurd hc.symm h5
   · omega
end
end Go.Proofs.Tryd.Am

/-
  top: the table of math/bits, out of what the statement grants.
  Printed by gen.py: the code of some functions, without what no step looks at; held against the program's own by the kernel.
  Printed by gen.py: the code of some functions, without what no step looks at; held against the program's own by the kernel.
  Printed by gen.py: the code of some functions, without what no step looks at; held against the program's own by the kernel.
  Printed by gen.py: the code of some functions, without what no step looks at; held against the program's own by the kernel.
  Printed by gen.py: facts on the types of this seat, asked of the kernel.
  bets: fractions as rational numbers: parts of a common multiple. Plain Lean, no program.
  bets: fractions: the program's arithmetic, and the reference's.
  bets: least and greatest.
-/
import Derived.Test.YtmjpngmoankpkaaDoorPk4
import Derived.Test.YtmjpngmoankpkaaDoorRows
import Derived.Test.YtmjpngmoankpkaaDoorProg
import Derived.MakeChecks
import Derived.Test.YtmjpngmoankpkaaDoorPk3
import Derived.KernelRfl
import Derived.Shelf.Abstract
set_option linter.all false
namespace Go.Proofs.YtmjpngmoankpkaaDoor
open Go Go.Am Go.ChangeShapes Go.WideShapes Go.ChangeAt Go.WideMaps Go.WideElems Go.RowKit
theorem row_bytes {H:Type} {enc:TypeId×Value→H} {P:Program} {w:World} {base:Nat} {spare:Nat→Bool} {held:Bool} {fuel:Nat} {t e:TypeId} {n:Nat} {cs:List Value} {ns:List Nat} {p:List MemPlace}
  (ht:P.underlying t=some (.array n e)) (he:P.underlying e=some (.int .u8)) (hc:P.cellsOf e=1) (hct:P.cellsOf t=n) (h:DataW.trod enc P w base spare held fuel t cs=some (.agg (ns.map fun (k:Nat)=>.lit (.int .u8 k)),p)):cs=ns.map fun (k:Nat)=>Value.int .u8 k:=by
 obtain ⟨xs,m,rfl,hx,hlen,hn,hel⟩:=DataW.trod_array ht h
 simp only [Prod.mk.injEq,DataW.agg.injEq] at hx
 have hns:ns.length=n:=by rw [← hn,← List.length_map (f:=fun (x:DataW H×List MemPlace)=>x.1),← hx.1,List.length_map]
 apply List.ext_getElem (by rw [hlen,hct,List.length_map,hns])
 intro i h1 h2
 have hi:i<n:=by rw [hlen,hct] at h1; exact h1
 have h3:=hel i hi
 rw [hc,Nat.mul_one,List.getElem?_eq_getElem (by omega)] at h3
 obtain ⟨k,g1,g2,_⟩:=DataW.trod_int he h3
 have h4:(xs.map (·.1))[i]? = some (xs[i]'(by omega)).1:=by simp [List.getElem?_map,List.getElem?_eq_getElem (show i<xs.length by omega)]
 rw [← hx.1,g2] at h4
 rw [List.drop_eq_getElem_cons h1,List.take_succ_cons,List.take_zero] at g1
 have g1:=(List.cons.inj g1).1
 simp at h4
 obtain ⟨a,ha,hk⟩:=h4
 rw [g1,List.getElem_map]
 have:ns[i]'(by omega)=a:=by
  rw [List.getElem?_eq_getElem (show i<ns.length by omega)] at ha; exact Option.some.inj ha
 rw [this,← hk]
abbrev laid1:List (String×DataW Unit):=[("math/bits.deBruijn64tab",Rows.laid_math_bits_deBruijn64tab)]
theorem tab_of {W:World} (h:laidMetH Tryd.prog laid1 W) : ∃ e fr,W.heap[0]? = some (.cells (Lib.deBruijn64tab.map fun (n:Nat)=>Value.int .u8 n).toArray e fr):=by
 rw [MakeChecks.laidMetH_plain _ _ _ (by kernel_rfl)] at h
 obtain ⟨ps,⟨g1,t1,cs1,f1,p1,q1,hg1,ht1,hv1,hd1,_,_⟩,_,_⟩:=h
 obtain rfl:=Option.some.inj ((show Tryd.prog.globalNamed "math/bits.deBruijn64tab" = some 0 by kernel_rfl).symm.trans hg1)
 obtain rfl:=Option.some.inj ((show (Tryd.prog.globals[0]?).map (·.type)=some 168 by kernel_rfl).symm.trans ht1)
 have hrow:=row_bytes (ns:=Lib.deBruijn64tab) Tryd.underlying168 Tryd.underlying5 (by kernel_rfl) (by kernel_rfl) hd1
 simp only [World.var?,hg1,Option.bind_some] at hv1
 split at hv1
 · rename_i cs e fr hh
   cases hv1
   exact ⟨e,fr,by rw [hh,← hrow]⟩
 · cases hv1
end Go.Proofs.YtmjpngmoankpkaaDoor
namespace Go.Proofs.Tryd.Am
open Go.Am
set_option maxRecDepth 100000
/-! 6: planchet planchettop.TopScores -/
@[reducible] def q6_0:SCode:=.region [⟨some 2,.assign (.const (.bool false)),none⟩]
@[reducible] def q6_1:SCode:=.region [⟨some 12,.move (.tmp 0),none⟩,
  ⟨some 13,.convert 3 57 (.tmp 12),none⟩,
  ⟨some 14,.binOp .rem 57 (.tmp 13) (.const (.int .u64 7)) 57,none⟩,
  ⟨some 15,.convert 57 3 (.tmp 14),none⟩,
  ⟨some 16,.binOp .add 3 (.const (.int .i64 1)) (.tmp 15) 3,none⟩,
  ⟨some 0,.assign (.tmp 16),none⟩]
@[reducible] def q6_2:SCode:=.region [⟨some 3,.assign (.const (.slice none 0 0)),none⟩,
  ⟨some 4,.assign (.const (.slice none 0 0)),none⟩]
@[reducible] def q6_3:SCode:=.region [⟨some 17,.move (.tmp 0),none⟩,
  ⟨some 18,.move (.const (.int .i64 0)),none⟩]
@[reducible] def q6_4:SCode:=.region [⟨some 19,.binOp .lss 3 (.tmp 18) (.tmp 17) 3,none⟩]
@[reducible] def q6_5:SCode:=.region [⟨some 20,.move (.tmp 18),none⟩,
  ⟨some 5,.assign (.tmp 20),none⟩]
@[reducible] def q6_6:SCode:=.region [⟨some 21,.move (.tmp 3),none⟩,
  ⟨some 22,.move (.tmp 5),none⟩,
  ⟨some 23,.buildSlice 27 1 #[(0,.tmp 22)],none⟩,
  ⟨some 24,.call { callee:=.builtin .append,args:=#[.tmp 21,.tmp 23],argTypes:=#[27,27] },none⟩,
  ⟨some 25,.move (.tmp 4),none⟩,
  ⟨some 26,.move (.tmp 0),none⟩,
  ⟨some 27,.binOp .sub 3 (.tmp 26) (.const (.int .i64 1)) 3,none⟩,
  ⟨some 28,.binOp .quo 3 (.tmp 27) (.const (.int .i64 2)) 3,none⟩,
  ⟨some 29,.buildSlice 27 1 #[(0,.tmp 28)],none⟩,
  ⟨some 30,.call { callee:=.builtin .append,args:=#[.tmp 25,.tmp 29],argTypes:=#[27,27] },none⟩,
  ⟨some 3,.assign (.tmp 24),none⟩,
  ⟨some 4,.assign (.tmp 30),none⟩]
@[reducible] def q6_7:SCode:=.region [⟨some 31,.binOp .add 3 (.tmp 18) (.const (.int .i64 1)) 3,none⟩,
  ⟨some 18,.move (.tmp 31),none⟩]
def l6_0:SCode:=(.seq q6_4 (.seq (.cond (.tmp 19) .skip (.exit 0)) (.seq (.block 1 (.seq q6_5 q6_6)) q6_7)))
@[reducible] def q6_8:SCode:=.region [⟨some 33,.move (.tmp 3),none⟩,
  ⟨some 34,.call { callee:=.value (.func 32),args:=#[.tmp 33],argTypes:=#[27] },none⟩,
  ⟨some 32,.move (.tmp 34),none⟩,
  ⟨some 35,.extract (.tmp 32) 0,none⟩,
  ⟨some 36,.extract (.tmp 32) 1,none⟩,
  ⟨some 6,.assign (.tmp 35),none⟩,
  ⟨some 7,.assign (.tmp 36),none⟩]
@[reducible] def q6_9:SCode:=.region [⟨some 37,.move (.tmp 7),none⟩,
  ⟨some 38,.binOp .neq 29 (.tmp 37) (.const (.int .i64 0)) 29,none⟩]
@[reducible] def q6_10:SCode:=.region [⟨some 2,.assign (.const (.bool false)),none⟩]
@[reducible] def q6_11:SCode:=.region [⟨some 40,.move (.tmp 6),none⟩,
  ⟨some 41,.call { callee:=.value (.func 13),args:=#[.tmp 40],argTypes:=#[27] },none⟩,
  ⟨some 42,.call { callee:=.value (.func 33),args:=#[.tmp 41],argTypes:=#[27] },none⟩,
  ⟨some 39,.move (.tmp 42),none⟩,
  ⟨some 43,.extract (.tmp 39) 0,none⟩,
  ⟨some 44,.extract (.tmp 39) 1,none⟩,
  ⟨some 8,.assign (.tmp 43),none⟩,
  ⟨some 7,.assign (.tmp 44),none⟩]
@[reducible] def q6_12:SCode:=.region [⟨some 46,.move (.tmp 6),none⟩,
  ⟨some 47,.call { callee:=.value (.func 34),args:=#[.tmp 46],argTypes:=#[27] },none⟩,
  ⟨some 45,.move (.tmp 47),none⟩,
  ⟨some 48,.extract (.tmp 45) 0,none⟩,
  ⟨some 49,.extract (.tmp 45) 1,none⟩,
  ⟨some 9,.assign (.tmp 48),none⟩,
  ⟨some 10,.assign (.tmp 49),none⟩]
@[reducible] def q6_13:SCode:=.region [⟨some 50,.move (.tmp 7),none⟩,
  ⟨some 51,.binOp .neq 29 (.tmp 50) (.const (.int .i64 0)) 29,none⟩,
  ⟨some 52,.move (.tmp 51),none⟩,
  ⟨some 53,.move (.tmp 10),some (52,false)⟩,
  ⟨some 54,.binOp .neq 29 (.tmp 53) (.const (.int .i64 0)) 29,some (52,false)⟩,
  ⟨some 55,.pick (.tmp 52) (.const (.bool true)) (.tmp 54),none⟩,
  ⟨some 56,.move (.tmp 55),none⟩,
  ⟨some 57,.move (.tmp 8),some (56,false)⟩,
  ⟨some 58,.call { callee:=.builtin .len,args:=#[.tmp 57],argTypes:=#[66] },some (56,false)⟩,
  ⟨some 59,.binOp .neq 3 (.tmp 58) (.const (.int .i64 0)) 3,some (56,false)⟩,
  ⟨some 60,.pick (.tmp 56) (.const (.bool true)) (.tmp 59),none⟩,
  ⟨some 61,.move (.tmp 60),none⟩,
  ⟨some 62,.move (.tmp 9),some (61,false)⟩,
  ⟨some 63,.call { callee:=.builtin .len,args:=#[.tmp 62],argTypes:=#[27] },some (61,false)⟩,
  ⟨some 64,.move (.tmp 0),some (61,false)⟩,
  ⟨some 65,.binOp .neq 3 (.tmp 63) (.tmp 64) 3,some (61,false)⟩,
  ⟨some 66,.pick (.tmp 61) (.const (.bool true)) (.tmp 65),none⟩]
@[reducible] def q6_14:SCode:=.region [⟨some 2,.assign (.const (.bool false)),none⟩]
@[reducible] def q6_15:SCode:=.region [⟨some 68,.move (.tmp 4),none⟩,
  ⟨some 69,.call { callee:=.value (.func 32),args:=#[.tmp 68],argTypes:=#[27] },none⟩,
  ⟨some 67,.move (.tmp 69),none⟩,
  ⟨some 70,.extract (.tmp 67) 0,none⟩,
  ⟨some 71,.extract (.tmp 67) 1,none⟩,
  ⟨some 11,.assign (.tmp 70),none⟩,
  ⟨some 7,.assign (.tmp 71),none⟩]
@[reducible] def q6_16:SCode:=.region [⟨some 72,.move (.tmp 0),none⟩,
  ⟨some 73,.binOp .rem 3 (.tmp 72) (.const (.int .i64 2)) 3,none⟩,
  ⟨some 74,.binOp .eql 3 (.tmp 73) (.const (.int .i64 0)) 3,none⟩]
@[reducible] def q6_17:SCode:=.region [⟨some 75,.move (.tmp 7),none⟩,
  ⟨some 76,.binOp .eql 29 (.tmp 75) (.const (.int .i64 4)) 29,none⟩,
  ⟨some 77,.move (.tmp 76),none⟩,
  ⟨some 78,.call { callee:=.value (.func 17),args:=#[],argTypes:=#[] },some (77,true)⟩,
  ⟨some 79,.pick (.tmp 77) (.tmp 78) (.const (.bool false)),none⟩,
  ⟨some 2,.assign (.tmp 79),none⟩]
@[reducible] def q6_18:SCode:=.region [⟨some 81,.move (.tmp 11),none⟩,
  ⟨some 82,.call { callee:=.value (.func 34),args:=#[.tmp 81],argTypes:=#[27] },none⟩,
  ⟨some 80,.move (.tmp 82),none⟩,
  ⟨some 83,.extract (.tmp 80) 0,none⟩,
  ⟨some 84,.extract (.tmp 80) 1,none⟩,
  ⟨some 9,.assign (.tmp 83),none⟩,
  ⟨some 10,.assign (.tmp 84),none⟩]
@[reducible] def q6_19:SCode:=.region [⟨some 85,.move (.tmp 7),none⟩,
  ⟨some 86,.binOp .eql 29 (.tmp 85) (.const (.int .i64 0)) 29,none⟩,
  ⟨some 87,.move (.tmp 86),none⟩,
  ⟨some 88,.move (.tmp 10),some (87,true)⟩,
  ⟨some 89,.binOp .eql 29 (.tmp 88) (.const (.int .i64 0)) 29,some (87,true)⟩,
  ⟨some 90,.pick (.tmp 87) (.tmp 89) (.const (.bool false)),none⟩,
  ⟨some 91,.move (.tmp 90),none⟩,
  ⟨some 92,.move (.tmp 9),some (91,true)⟩,
  ⟨some 93,.call { callee:=.builtin .len,args:=#[.tmp 92],argTypes:=#[27] },some (91,true)⟩,
  ⟨some 94,.binOp .eql 3 (.tmp 93) (.const (.int .i64 1)) 3,some (91,true)⟩,
  ⟨some 95,.pick (.tmp 91) (.tmp 94) (.const (.bool false)),none⟩,
  ⟨some 96,.move (.tmp 95),none⟩,
  ⟨some 97,.call { callee:=.value (.func 17),args:=#[],argTypes:=#[] },some (96,true)⟩,
  ⟨some 98,.pick (.tmp 96) (.tmp 97) (.const (.bool false)),none⟩,
  ⟨some 2,.assign (.tmp 98),none⟩]
def s6:SCode:=(.seq q6_0 (.seq q6_1 (.seq q6_2 (.seq (.seq q6_3 (.block 0 (.loop l6_0))) (.seq q6_8 (.seq (.seq q6_9 (.cond (.tmp 38) (.seq q6_10 .ret) .skip)) (.seq q6_11 (.seq q6_12 (.seq (.seq q6_13 (.cond (.tmp 66) (.seq q6_14 .ret) .skip)) (.seq q6_15 (.seq (.seq q6_16 (.cond (.tmp 74) (.seq q6_17 .ret) .skip)) (.seq q6_18 (.seq q6_19 .ret)))))))))))))
/-! 13: slices.Clone[[]int,int] -/
@[reducible] def q13_0:SCode:=.region [⟨some 2,.assign (.const (.slice none 0 0)),none⟩]
@[reducible] def q13_1:SCode:=.region [⟨some 3,.move (.tmp 0),none⟩,
  ⟨some 4,.binOp .eql 27 (.tmp 3) (.const (.slice none 0 0)) 27,none⟩]
@[reducible] def q13_2:SCode:=.region [⟨some 2,.assign (.const (.slice none 0 0)),none⟩]
@[reducible] def q13_3:SCode:=.region [⟨some 5,.buildSlice 27 0 #[],none⟩,
  ⟨some 6,.move (.tmp 0),none⟩,
  ⟨some 7,.call { callee:=.builtin .append,args:=#[.tmp 5,.tmp 6],argTypes:=#[27,27] },none⟩,
  ⟨some 2,.assign (.tmp 7),none⟩]
def s13:SCode:=(.seq q13_0 (.seq (.seq q13_1 (.cond (.tmp 4) (.seq q13_2 .ret) .skip)) (.seq q13_3 .ret)))
theorem s13_strip:Yi (Yg Tryd.f13)=s13:=by kernel_rfl
theorem s13_ok:Yu 8 (Yg Tryd.f13)=true:=by kernel_rfl
theorem s13_call [Tabs Tryd.prog] {args:List Value} {h:Yc} {Q:Value→Yc→Prop} (hsz:args.length≤8) (hk:aw Tryd.prog 8 s13 (Zu Tryd.prog [.tmp 2] Q) (Zp 0 args) h):ACall Tryd.prog 13 args h Q :=
 Wx Tryd.func13 rfl (enters_of Tryd.func13 (by kernel_rfl) rfl) rfl rfl (by decide) s13_strip s13_ok hsz hk
/-! 17: planchet planchettop.stands -/
@[reducible] def q17_0:SCode:=.region [⟨some 0,.assign (.const (.bool false)),none⟩]
@[reducible] def q17_1:SCode:=.region [⟨some 4,.buildSlice 27 2 #[(0,.const (.int .i64 0)),(1,.const (.int .i64 0))],none⟩,
  ⟨some 5,.call { callee:=.value (.func 18),args:=#[.tmp 4],argTypes:=#[27] },none⟩,
  ⟨some 3,.move (.tmp 5),none⟩,
  ⟨some 6,.extract (.tmp 3) 0,none⟩,
  ⟨some 7,.extract (.tmp 3) 1,none⟩,
  ⟨some 1,.assign (.tmp 6),none⟩,
  ⟨some 2,.assign (.tmp 7),none⟩]
@[reducible] def q17_2:SCode:=.region [⟨some 8,.move (.tmp 1),none⟩,
  ⟨some 9,.binOp .eql 3 (.tmp 8) (.const (.int .i64 2)) 3,none⟩,
  ⟨some 10,.move (.tmp 9),none⟩,
  ⟨some 11,.move (.tmp 2),some (10,true)⟩,
  ⟨some 12,.binOp .eql 29 (.tmp 11) (.const (.int .i64 0)) 29,some (10,true)⟩,
  ⟨some 13,.pick (.tmp 10) (.tmp 12) (.const (.bool false)),none⟩,
  ⟨some 0,.assign (.tmp 13),none⟩]
def s17:SCode:=(.seq q17_0 (.seq q17_1 (.seq q17_2 .ret)))
theorem s17_strip:Yi (Yg Tryd.f17)=s17:=by kernel_rfl
theorem s17_ok:Yu 14 (Yg Tryd.f17)=true:=by kernel_rfl
theorem s17_call [Tabs Tryd.prog] {args:List Value} {h:Yc} {Q:Value→Yc→Prop} (hsz:args.length≤14) (hk:aw Tryd.prog 14 s17 (Zu Tryd.prog [.tmp 0] Q) (Zp 0 args) h):ACall Tryd.prog 17 args h Q :=
 Wx Tryd.func17 rfl (enters_of Tryd.func17 (by kernel_rfl) rfl) rfl rfl (by decide) s17_strip s17_ok hsz hk
/-! 18: planchet order.Count -/
@[reducible] def q18_0:SCode:=.region [⟨some 2,.assign (.const (.int .i64 0)),none⟩,
  ⟨some 3,.assign (.const (.int .i64 0)),none⟩]
@[reducible] def q18_1:SCode:=.region [⟨some 7,.move (.tmp 0),none⟩,
  ⟨some 8,.call { callee:=.value (.func 54),args:=#[.tmp 7],argTypes:=#[27] },none⟩,
  ⟨some 6,.move (.tmp 8),none⟩,
  ⟨some 9,.extract (.tmp 6) 0,none⟩,
  ⟨some 10,.extract (.tmp 6) 1,none⟩,
  ⟨some 4,.alloc 97,none⟩,
  ⟨none,.store 97 (.tmp 4) (.tmp 9),none⟩,
  ⟨some 5,.assign (.tmp 10),none⟩]
@[reducible] def q18_2:SCode:=.region [⟨some 11,.move (.tmp 5),none⟩,
  ⟨some 12,.unOp .not 4 (.tmp 11),none⟩]
@[reducible] def q18_3:SCode:=.region [⟨some 2,.assign (.const (.int .i64 0)),none⟩,
  ⟨some 3,.assign (.const (.int .i64 2)),none⟩]
@[reducible] def q18_4:SCode:=.region [⟨some 13,.load 97 (.tmp 4),none⟩,
  ⟨some 14,.call { callee:=.value (.func 56),args:=#[.tmp 13],argTypes:=#[97] },none⟩,
  ⟨some 2,.assign (.tmp 14),none⟩,
  ⟨some 3,.assign (.const (.int .i64 0)),none⟩]
def s18:SCode:=(.seq q18_0 (.seq q18_1 (.seq (.seq q18_2 (.cond (.tmp 12) (.seq q18_3 .ret) .skip)) (.seq q18_4 .ret))))
theorem s18_strip:Yi (Yg Tryd.f18)=s18:=by kernel_rfl
theorem s18_ok:Yu 15 (Yg Tryd.f18)=true:=by kernel_rfl
theorem s18_call [Tabs Tryd.prog] {args:List Value} {h:Yc} {Q:Value→Yc→Prop} (hsz:args.length≤15) (hk:aw Tryd.prog 15 s18 (Zu Tryd.prog [.tmp 2,.tmp 3] Q) (Zp 0 args) h):ACall Tryd.prog 18 args h Q :=
 Wx Tryd.func18 rfl (enters_of Tryd.func18 (by kernel_rfl) rfl) rfl rfl (by decide) s18_strip s18_ok hsz hk
/-! 36: slices.Equal[[]int,int] -/
@[reducible] def q36_0:SCode:=.region [⟨some 4,.assign (.const (.bool false)),none⟩]
@[reducible] def q36_1:SCode:=.region [⟨some 6,.move (.tmp 0),none⟩,
  ⟨some 7,.call { callee:=.builtin .len,args:=#[.tmp 6],argTypes:=#[27] },none⟩,
  ⟨some 8,.move (.tmp 1),none⟩,
  ⟨some 9,.call { callee:=.builtin .len,args:=#[.tmp 8],argTypes:=#[27] },none⟩,
  ⟨some 10,.binOp .neq 3 (.tmp 7) (.tmp 9) 3,none⟩]
@[reducible] def q36_2:SCode:=.region [⟨some 4,.assign (.const (.bool false)),none⟩]
@[reducible] def q36_3:SCode:=.region [⟨some 11,.move (.tmp 0),none⟩,
  ⟨some 12,.call { callee:=.builtin .len,args:=#[.tmp 11],argTypes:=#[27] },none⟩,
  ⟨some 13,.move (.const (.int .i64 0)),none⟩]
@[reducible] def q36_4:SCode:=.region [⟨some 14,.binOp .lss 3 (.tmp 13) (.tmp 12) 3,none⟩]
@[reducible] def q36_5:SCode:=.region [⟨some 15,.move (.tmp 13),none⟩,
  ⟨some 5,.assign (.tmp 15),none⟩]
def q36_6:SCode:=.draw [⟨some 16,.move (.tmp 0),none⟩,
    ⟨some 17,.move (.tmp 5),none⟩,
    ⟨some 18,.indexAddr 27 (.tmp 16) (.tmp 17),none⟩,
    ⟨some 19,.load 3 (.tmp 18),none⟩,
    ⟨some 20,.move (.tmp 1),none⟩,
    ⟨some 21,.move (.tmp 5),none⟩,
    ⟨some 22,.indexAddr 27 (.tmp 20) (.tmp 21),none⟩,
    ⟨some 23,.load 3 (.tmp 22),none⟩,
    ⟨some 24,.binOp .neq 3 (.tmp 19) (.tmp 23) 3,none⟩]
  [[],[],[0,1],[2],[],[],[4,5],[6],[3,7]]
@[reducible] def q36_7:SCode:=.region [⟨some 4,.assign (.const (.bool false)),none⟩]
@[reducible] def q36_8:SCode:=.region [⟨some 25,.binOp .add 3 (.tmp 13) (.const (.int .i64 1)) 3,none⟩,
  ⟨some 13,.move (.tmp 25),none⟩]
def l36_0:SCode:=(.seq q36_4 (.seq (.cond (.tmp 14) .skip (.exit 0)) (.seq (.block 1 (.seq q36_5 (.seq q36_6 (.cond (.tmp 24) (.seq q36_7 .ret) .skip)))) q36_8)))
@[reducible] def q36_9:SCode:=.region [⟨some 4,.assign (.const (.bool true)),none⟩]
def s36:SCode:=(.seq q36_0 (.seq (.seq q36_1 (.cond (.tmp 10) (.seq q36_2 .ret) .skip)) (.seq (.seq q36_3 (.block 0 (.loop l36_0))) (.seq q36_9 .ret))))
theorem s36_strip:Yi (Yg Tryd.f36)=s36:=by kernel_rfl
theorem s36_ok:Yu 26 (Yg Tryd.f36)=true:=by kernel_rfl
theorem s36_call [Tabs Tryd.prog] {args:List Value} {h:Yc} {Q:Value→Yc→Prop} (hsz:args.length≤26) (hk:aw Tryd.prog 26 s36 (Zu Tryd.prog [.tmp 4] Q) (Zp 0 args) h):ACall Tryd.prog 36 args h Q :=
 Wx Tryd.func36 rfl (enters_of Tryd.func36 (by kernel_rfl) rfl) rfl rfl (by decide) s36_strip s36_ok hsz hk
/-! 54: planchet order.read -/
@[reducible] def q54_0:SCode:=.region [⟨some 1,.box 27 (.tmp 0),none⟩,
  ⟨some 2,.alloc 97,none⟩,
  ⟨some 3,.alloc 4,none⟩]
@[reducible] def q54_1:SCode:=.region [⟨some 8,.load 27 (.tmp 1),none⟩,
  ⟨some 9,.call { callee:=.builtin .len,args:=#[.tmp 8],argTypes:=#[27] },none⟩,
  ⟨some 10,.build 97 #[(0,.tmp 9)],none⟩,
  ⟨some 4,.alloc 97,none⟩,
  ⟨none,.store 97 (.tmp 4) (.tmp 10),none⟩]
@[reducible] def q54_2:SCode:=.region [⟨some 11,.load 27 (.tmp 1),none⟩,
  ⟨some 12,.call { callee:=.builtin .len,args:=#[.tmp 11],argTypes:=#[27] },none⟩,
  ⟨some 13,.binOp .lss 3 (.tmp 12) (.const (.int .i64 1)) 3,none⟩,
  ⟨some 14,.move (.tmp 13),none⟩,
  ⟨some 15,.load 27 (.tmp 1),some (14,false)⟩,
  ⟨some 16,.call { callee:=.builtin .len,args:=#[.tmp 15],argTypes:=#[27] },some (14,false)⟩,
  ⟨some 17,.binOp .gtr 3 (.tmp 16) (.const (.int .i64 6)) 3,some (14,false)⟩,
  ⟨some 18,.pick (.tmp 14) (.const (.bool true)) (.tmp 17),none⟩]
@[reducible] def q54_3:SCode:=.region [⟨some 19,.load 97 (.tmp 4),none⟩,
  ⟨none,.store 97 (.tmp 2) (.tmp 19),none⟩,
  ⟨none,.store 4 (.tmp 3) (.const (.bool false)),none⟩]
def q54_4:SCode:=.draw [⟨some 20,.fieldAddr 97 (.tmp 4) 1,none⟩,
    ⟨some 21,.slice 95 (.tmp 20) none none none,none⟩,
    ⟨some 22,.load 27 (.tmp 1),none⟩,
    ⟨some 23,.call { callee:=.builtin .copy,args:=#[.tmp 21,.tmp 22],argTypes:=#[27,27] },none⟩]
  [[],[0],[],[1,2]]
@[reducible] def q54_5:SCode:=.region [⟨some 24,.load 27 (.tmp 1),none⟩,
  ⟨some 25,.call { callee:=.builtin .len,args:=#[.tmp 24],argTypes:=#[27] },none⟩,
  ⟨some 26,.move (.const (.int .i64 0)),none⟩]
@[reducible] def q54_6:SCode:=.region [⟨some 27,.binOp .lss 3 (.tmp 26) (.tmp 25) 3,none⟩]
@[reducible] def q54_7:SCode:=.region [⟨some 28,.move (.tmp 26),none⟩,
  ⟨some 29,.indexAddr 27 (.tmp 24) (.tmp 26),none⟩,
  ⟨some 30,.load 3 (.tmp 29),none⟩,
  ⟨some 6,.alloc 3,none⟩,
  ⟨some 5,.assign (.tmp 28),none⟩,
  ⟨none,.store 3 (.tmp 6) (.tmp 30),none⟩]
def q54_8:SCode:=.draw [⟨some 31,.load 3 (.tmp 6),none⟩,
    ⟨some 32,.binOp .lss 3 (.tmp 31) (.const (.int .i64 0)) 3,none⟩,
    ⟨some 33,.move (.tmp 32),none⟩,
    ⟨some 34,.load 3 (.tmp 6),some (33,false)⟩,
    ⟨some 35,.load 27 (.tmp 1),some (33,false)⟩,
    ⟨some 36,.call { callee:=.builtin .len,args:=#[.tmp 35],argTypes:=#[27] },some (33,false)⟩,
    ⟨some 37,.binOp .shl 3 (.const (.int .i64 1)) (.tmp 36) 3,some (33,false)⟩,
    ⟨some 38,.binOp .geq 3 (.tmp 34) (.tmp 37) 3,some (33,false)⟩,
    ⟨some 39,.pick (.tmp 33) (.const (.bool true)) (.tmp 38),none⟩,
    ⟨some 40,.move (.tmp 39),none⟩,
    ⟨some 41,.load 3 (.tmp 6),some (40,false)⟩,
    ⟨some 42,.move (.tmp 5),some (40,false)⟩,
    ⟨some 43,.binOp .shr 3 (.tmp 41) (.tmp 42) 3,some (40,false)⟩,
    ⟨some 44,.binOp .and 3 (.tmp 43) (.const (.int .i64 1)) 3,some (40,false)⟩,
    ⟨some 45,.binOp .eql 3 (.tmp 44) (.const (.int .i64 1)) 3,some (40,false)⟩,
    ⟨some 46,.pick (.tmp 40) (.const (.bool true)) (.tmp 45),none⟩]
  [[],[0],[1],[2],[2],[4,2],[5,2],[3,6,2],[2,7],[8,2],[9],[9],[10,11,9],[12,9],[13,9],[9,14]]
@[reducible] def q54_9:SCode:=.region [⟨some 47,.load 97 (.tmp 4),none⟩,
  ⟨none,.store 97 (.tmp 2) (.tmp 47),none⟩,
  ⟨none,.store 4 (.tmp 3) (.const (.bool false)),none⟩]
@[reducible] def q54_10:SCode:=.region [⟨some 48,.load 3 (.tmp 6),none⟩,
  ⟨some 49,.call { callee:=.value (.func 100),args:=#[.tmp 48],argTypes:=#[3] },none⟩]
@[reducible] def q54_11:SCode:=.region [⟨some 7,.assign (.tmp 50),none⟩]
def q54_12:SCode:=.draw [⟨some 51,.load 27 (.tmp 1),none⟩,
    ⟨some 52,.move (.tmp 7),none⟩,
    ⟨some 53,.indexAddr 27 (.tmp 51) (.tmp 52),none⟩,
    ⟨some 54,.load 3 (.tmp 53),none⟩,
    ⟨some 55,.load 3 (.tmp 6),none⟩,
    ⟨some 56,.binOp .andNot 3 (.tmp 54) (.tmp 55) 3,none⟩,
    ⟨some 57,.binOp .neq 3 (.tmp 56) (.const (.int .i64 0)) 3,none⟩]
  [[],[],[0,1],[2],[],[3,4],[5]]
@[reducible] def q54_13:SCode:=.region [⟨some 58,.load 97 (.tmp 4),none⟩,
  ⟨none,.store 97 (.tmp 2) (.tmp 58),none⟩,
  ⟨none,.store 4 (.tmp 3) (.const (.bool false)),none⟩]
def r54_0_a:SCode:=q54_11
def r54_0_b:SCode:=(.block 3 (.seq q54_12 (.cond (.tmp 57) (.seq q54_13 .ret) .skip)))
@[reducible] def q54_14:SCode:=.region [⟨some 59,.binOp .add 3 (.tmp 26) (.const (.int .i64 1)) 3,none⟩,
  ⟨some 26,.move (.tmp 59),none⟩]
def l54_1:SCode:=(.seq q54_6 (.seq (.cond (.tmp 27) .skip (.exit 0)) (.seq (.block 1 (.seq q54_7 (.seq (.seq q54_8 (.cond (.tmp 46) (.seq q54_9 .ret) .skip)) (.seq q54_10 (.block 2 (.range (.tmp 49) [50] r54_0_a r54_0_b)))))) q54_14)))
@[reducible] def q54_15:SCode:=.region [⟨some 60,.load 97 (.tmp 4),none⟩,
  ⟨none,.store 97 (.tmp 2) (.tmp 60),none⟩,
  ⟨none,.store 4 (.tmp 3) (.const (.bool true)),none⟩]
def s54:SCode:=(.seq q54_0 (.seq q54_1 (.seq (.seq q54_2 (.cond (.tmp 18) (.seq q54_3 .ret) .skip)) (.seq q54_4 (.seq (.seq q54_5 (.block 0 (.loop l54_1))) (.seq q54_15 .ret))))))
theorem s54_strip:Yi (Yg Tryd.f54)=s54:=by kernel_rfl
theorem s54_ok:Yu 61 (Yg Tryd.f54)=true:=by kernel_rfl
theorem s54_call [Tabs Tryd.prog] {args:List Value} {h:Yc} {Q:Value→Yc→Prop} (hsz:args.length≤61) (hk:aw Tryd.prog 61 s54 (Zu Tryd.prog [.cell 2 97,.cell 3 4] Q) (Zp 0 args) h):ACall Tryd.prog 54 args h Q :=
 Wx Tryd.func54 rfl (enters_of Tryd.func54 (by kernel_rfl) rfl) rfl rfl (by decide) s54_strip s54_ok hsz hk
/-! 56: (planchet order.order).counted -/
@[reducible] def q56_0:SCode:=.region [⟨some 1,.box 97 (.tmp 0),none⟩,
  ⟨some 2,.assign (.const (.int .i64 0)),none⟩]
@[reducible] def q56_1:SCode:=.region [⟨some 6,.load 97 (.tmp 1),none⟩,
  ⟨some 7,.call { callee:=.value (.func 103),args:=#[.tmp 6],argTypes:=#[97] },none⟩,
  ⟨some 8,.binOp .add 3 (.tmp 7) (.const (.int .i64 1)) 3,none⟩,
  ⟨some 9,.makeSlice 27 (.tmp 8) (.tmp 8),none⟩,
  ⟨some 3,.alloc 27,none⟩,
  ⟨none,.store 27 (.tmp 3) (.tmp 9),none⟩]
@[reducible] def q56_2:SCode:=.region [⟨some 10,.load 27 (.tmp 3),none⟩,
  ⟨some 11,.indexAddr 27 (.tmp 10) (.const (.int .i64 0)),none⟩,
  ⟨none,.store 3 (.tmp 11) (.const (.int .i64 1)),none⟩]
@[reducible] def q56_3:SCode:=.region [⟨some 4,.alloc 3,none⟩,
  ⟨none,.store 3 (.tmp 4) (.const (.int .i64 1)),none⟩]
def q56_4:SCode:=.draw [⟨some 12,.load 3 (.tmp 4),none⟩,
    ⟨some 13,.load 97 (.tmp 1),none⟩,
    ⟨some 14,.call { callee:=.value (.func 103),args:=#[.tmp 13],argTypes:=#[97] },none⟩,
    ⟨some 15,.binOp .leq 3 (.tmp 12) (.tmp 14) 3,none⟩]
  [[],[],[1],[0,2]]
@[reducible] def q56_6:SCode:=.region [⟨some 18,.load 3 (.tmp 4),none⟩,
  ⟨some 19,.call { callee:=.value (.func 100),args:=#[.tmp 18],argTypes:=#[3] },none⟩]
@[reducible] def q56_7:SCode:=.region [⟨some 5,.assign (.tmp 20),none⟩]
def q56_8:SCode:=.draw [⟨some 21,.load 97 (.tmp 1),none⟩,
    ⟨some 22,.move (.tmp 5),none⟩,
    ⟨some 23,.call { callee:=.value (.func 104),args:=#[.tmp 21,.tmp 22],argTypes:=#[97,3] },none⟩,
    ⟨some 24,.load 3 (.tmp 4),none⟩,
    ⟨some 25,.binOp .andNot 3 (.tmp 23) (.tmp 24) 3,none⟩,
    ⟨some 26,.binOp .eql 3 (.tmp 25) (.const (.int .i64 0)) 3,none⟩,
    ⟨some 27,.move (.tmp 26),none⟩,
    ⟨some 28,.move (.tmp 5),some (27,true)⟩,
    ⟨some 29,.fieldAddr 97 (.tmp 1) 1,some (27,true)⟩,
    ⟨some 30,.indexAddr 95 (.tmp 29) (.tmp 28),some (27,true)⟩,
    ⟨some 31,.load 3 (.tmp 30),some (27,true)⟩,
    ⟨some 32,.load 3 (.tmp 4),some (27,true)⟩,
    ⟨some 33,.binOp .and 3 (.tmp 31) (.tmp 32) 3,some (27,true)⟩,
    ⟨some 34,.binOp .eql 3 (.tmp 33) (.const (.int .i64 0)) 3,some (27,true)⟩,
    ⟨some 35,.pick (.tmp 27) (.tmp 34) (.const (.bool false)),none⟩]
  [[],[],[0,1],[],[2,3],[4],[5,2],[6],[6],[8,7,6],[9,6],[6],[10,11,6],[12,6],[6,13]]
def q56_9:SCode:=.draw [⟨some 36,.load 27 (.tmp 3),none⟩,
    ⟨some 37,.load 3 (.tmp 4),none⟩,
    ⟨some 38,.indexAddr 27 (.tmp 36) (.tmp 37),none⟩,
    ⟨some 39,.load 3 (.tmp 38),none⟩,
    ⟨some 40,.load 27 (.tmp 3),none⟩,
    ⟨some 41,.load 3 (.tmp 4),none⟩,
    ⟨some 42,.move (.tmp 5),none⟩,
    ⟨some 43,.binOp .shl 3 (.const (.int .i64 1)) (.tmp 42) 3,none⟩,
    ⟨some 44,.binOp .andNot 3 (.tmp 41) (.tmp 43) 3,none⟩,
    ⟨some 45,.indexAddr 27 (.tmp 40) (.tmp 44),none⟩,
    ⟨some 46,.load 3 (.tmp 45),none⟩,
    ⟨some 47,.binOp .add 3 (.tmp 39) (.tmp 46) 3,none⟩,
    ⟨some 48,.indexAddr 27 (.tmp 36) (.tmp 37),none⟩,
    ⟨none,.store 3 (.tmp 48) (.tmp 47),none⟩]
  [[],[],[0,1],[2],[],[],[],[6],[5,7],[4,8],[9],[3,10],[0,1,0,1,2,3,4,5,6,7,8,9,10,11],[12,11,0,1,2,3,4,5,6,7,8,9,10,11]]
def r56_0_a:SCode:=q56_7
def r56_0_b:SCode:=(.block 3 (.seq q56_8 (.cond (.tmp 35) q56_9 .skip)))
@[reducible] def q56_10:SCode:=.region [⟨some 49,.load 3 (.tmp 4),none⟩]
@[reducible] def q56_11:SCode:=.region [⟨some 4,.alloc 3,none⟩,
  ⟨none,.store 3 (.tmp 4) (.tmp 49),none⟩]
@[reducible] def q56_5:SCode:=.region [⟨some 16,.load 3 (.tmp 4),none⟩,
  ⟨some 17,.binOp .add 3 (.tmp 16) (.const (.int .i64 1)) 3,none⟩,
  ⟨none,.store 3 (.tmp 4) (.tmp 17),none⟩]
def l56_1:SCode:=(.seq (.seq q56_4 (.cond (.tmp 15) .skip (.exit 0))) (.seq (.block 1 (.seq q56_6 (.block 2 (.range (.tmp 19) [20] r56_0_a r56_0_b)))) (.seq (.seq q56_10 q56_11) q56_5)))
def q56_12:SCode:=.draw [⟨some 50,.load 27 (.tmp 3),none⟩,
    ⟨some 51,.load 97 (.tmp 1),none⟩,
    ⟨some 52,.call { callee:=.value (.func 103),args:=#[.tmp 51],argTypes:=#[97] },none⟩,
    ⟨some 53,.indexAddr 27 (.tmp 50) (.tmp 52),none⟩,
    ⟨some 54,.load 3 (.tmp 53),none⟩,
    ⟨some 2,.assign (.tmp 54),none⟩]
  [[],[],[1],[0,2],[3],[4,2,0,1,2,3,4]]
def s56:SCode:=(.seq q56_0 (.seq q56_1 (.seq q56_2 (.seq (.seq q56_3 (.block 0 (.loop l56_1))) (.seq q56_12 .ret)))))
theorem s56_strip:Yi (Yg Tryd.f56)=s56:=by kernel_rfl
theorem s56_ok:Yu 55 (Yg Tryd.f56)=true:=by kernel_rfl
theorem s56_call [Tabs Tryd.prog] {args:List Value} {h:Yc} {Q:Value→Yc→Prop} (hsz:args.length≤55) (hk:aw Tryd.prog 55 s56 (Zu Tryd.prog [.tmp 2] Q) (Zp 0 args) h):ACall Tryd.prog 56 args h Q :=
 Wx Tryd.func56 rfl (enters_of Tryd.func56 (by kernel_rfl) rfl) rfl rfl (by decide) s56_strip s56_ok hsz hk
/-! 77: slices.Min[[]int,int] -/
@[reducible] def q77_0:SCode:=.region [⟨some 2,.assign (.const (.int .i64 0)),none⟩]
@[reducible] def q77_1:SCode:=.region [⟨some 5,.move (.tmp 0),none⟩,
  ⟨some 6,.call { callee:=.builtin .len,args:=#[.tmp 5],argTypes:=#[27] },none⟩,
  ⟨some 7,.binOp .lss 3 (.tmp 6) (.const (.int .i64 1)) 3,none⟩]
@[reducible] def q77_2:SCode:=.region [⟨some 8,.makeInterface 9 (.const (.string { data:=#[115,108,105,99,101,115,46,77,105,110,58,32,101,109,112,116,121,32,108,105,115,116] })),none⟩,
  ⟨none,.panic (.tmp 8),none⟩]
@[reducible] def q77_3:SCode:=.region [⟨some 9,.move (.tmp 0),none⟩,
  ⟨some 10,.indexAddr 27 (.tmp 9) (.const (.int .i64 0)),none⟩,
  ⟨some 11,.load 3 (.tmp 10),none⟩,
  ⟨some 3,.assign (.tmp 11),none⟩]
@[reducible] def q77_4:SCode:=.region [⟨some 4,.assign (.const (.int .i64 1)),none⟩]
@[reducible] def q77_5:SCode:=.region [⟨some 12,.move (.tmp 4),none⟩,
  ⟨some 13,.move (.tmp 0),none⟩,
  ⟨some 14,.call { callee:=.builtin .len,args:=#[.tmp 13],argTypes:=#[27] },none⟩,
  ⟨some 15,.binOp .lss 3 (.tmp 12) (.tmp 14) 3,none⟩]
@[reducible] def q77_7:SCode:=.region [⟨some 18,.move (.tmp 3),none⟩,
  ⟨some 19,.move (.tmp 0),none⟩,
  ⟨some 20,.move (.tmp 4),none⟩,
  ⟨some 21,.indexAddr 27 (.tmp 19) (.tmp 20),none⟩,
  ⟨some 22,.load 3 (.tmp 21),none⟩,
  ⟨some 23,.call { callee:=.builtin .min,args:=#[.tmp 18,.tmp 22],argTypes:=#[3,3] },none⟩,
  ⟨some 3,.assign (.tmp 23),none⟩]
@[reducible] def q77_6:SCode:=.region [⟨some 16,.move (.tmp 4),none⟩,
  ⟨some 17,.binOp .add 3 (.tmp 16) (.const (.int .i64 1)) 3,none⟩,
  ⟨some 4,.assign (.tmp 17),none⟩]
def l77_0:SCode:=(.seq (.seq q77_5 (.cond (.tmp 15) .skip (.exit 0))) (.seq (.block 1 q77_7) q77_6))
@[reducible] def q77_8:SCode:=.region [⟨some 24,.move (.tmp 3),none⟩,
  ⟨some 2,.assign (.tmp 24),none⟩]
def s77:SCode:=(.seq q77_0 (.seq (.seq q77_1 (.cond (.tmp 7) q77_2 .skip)) (.seq q77_3 (.seq (.seq q77_4 (.block 0 (.loop l77_0))) (.seq q77_8 .ret)))))
theorem s77_strip:Yi (Yg Tryd.f77)=s77:=by kernel_rfl
theorem s77_ok:Yu 25 (Yg Tryd.f77)=true:=by kernel_rfl
/-! 78: slices.Max[[]int,int] -/
@[reducible] def q78_0:SCode:=.region [⟨some 2,.assign (.const (.int .i64 0)),none⟩]
@[reducible] def q78_1:SCode:=.region [⟨some 5,.move (.tmp 0),none⟩,
  ⟨some 6,.call { callee:=.builtin .len,args:=#[.tmp 5],argTypes:=#[27] },none⟩,
  ⟨some 7,.binOp .lss 3 (.tmp 6) (.const (.int .i64 1)) 3,none⟩]
@[reducible] def q78_2:SCode:=.region [⟨some 8,.makeInterface 9 (.const (.string { data:=#[115,108,105,99,101,115,46,77,97,120,58,32,101,109,112,116,121,32,108,105,115,116] })),none⟩,
  ⟨none,.panic (.tmp 8),none⟩]
@[reducible] def q78_3:SCode:=.region [⟨some 9,.move (.tmp 0),none⟩,
  ⟨some 10,.indexAddr 27 (.tmp 9) (.const (.int .i64 0)),none⟩,
  ⟨some 11,.load 3 (.tmp 10),none⟩,
  ⟨some 3,.assign (.tmp 11),none⟩]
@[reducible] def q78_4:SCode:=.region [⟨some 4,.assign (.const (.int .i64 1)),none⟩]
@[reducible] def q78_5:SCode:=.region [⟨some 12,.move (.tmp 4),none⟩,
  ⟨some 13,.move (.tmp 0),none⟩,
  ⟨some 14,.call { callee:=.builtin .len,args:=#[.tmp 13],argTypes:=#[27] },none⟩,
  ⟨some 15,.binOp .lss 3 (.tmp 12) (.tmp 14) 3,none⟩]
@[reducible] def q78_7:SCode:=.region [⟨some 18,.move (.tmp 3),none⟩,
  ⟨some 19,.move (.tmp 0),none⟩,
  ⟨some 20,.move (.tmp 4),none⟩,
  ⟨some 21,.indexAddr 27 (.tmp 19) (.tmp 20),none⟩,
  ⟨some 22,.load 3 (.tmp 21),none⟩,
  ⟨some 23,.call { callee:=.builtin .max,args:=#[.tmp 18,.tmp 22],argTypes:=#[3,3] },none⟩,
  ⟨some 3,.assign (.tmp 23),none⟩]
@[reducible] def q78_6:SCode:=.region [⟨some 16,.move (.tmp 4),none⟩,
  ⟨some 17,.binOp .add 3 (.tmp 16) (.const (.int .i64 1)) 3,none⟩,
  ⟨some 4,.assign (.tmp 17),none⟩]
def l78_0:SCode:=(.seq (.seq q78_5 (.cond (.tmp 15) .skip (.exit 0))) (.seq (.block 1 q78_7) q78_6))
@[reducible] def q78_8:SCode:=.region [⟨some 24,.move (.tmp 3),none⟩,
  ⟨some 2,.assign (.tmp 24),none⟩]
def s78:SCode:=(.seq q78_0 (.seq (.seq q78_1 (.cond (.tmp 7) q78_2 .skip)) (.seq q78_3 (.seq (.seq q78_4 (.block 0 (.loop l78_0))) (.seq q78_8 .ret)))))
theorem s78_strip:Yi (Yg Tryd.f78)=s78:=by kernel_rfl
theorem s78_ok:Yu 25 (Yg Tryd.f78)=true:=by kernel_rfl
end Go.Proofs.Tryd.Am
namespace Go.Proofs.Tryd.Am
open Go.Am
set_option maxRecDepth 100000
/-! 99: math bits.OnesCount64 -/
@[reducible] def q99_0:SCode:=.region [⟨some 2,.assign (.const (.int .i64 0)),none⟩]
@[reducible] def q99_1:SCode:=.region [⟨some 3,.move (.tmp 0),none⟩,
  ⟨some 4,.binOp .shr 88 (.tmp 3) (.const (.int .u64 1)) 57,none⟩,
  ⟨some 5,.binOp .and 88 (.tmp 4) (.const (.int .u64 6148914691236517205)) 88,none⟩,
  ⟨some 6,.move (.tmp 0),none⟩,
  ⟨some 7,.binOp .and 88 (.tmp 6) (.const (.int .u64 6148914691236517205)) 88,none⟩,
  ⟨some 8,.binOp .add 88 (.tmp 5) (.tmp 7) 88,none⟩,
  ⟨some 0,.assign (.tmp 8),none⟩]
@[reducible] def q99_2:SCode:=.region [⟨some 9,.move (.tmp 0),none⟩,
  ⟨some 10,.binOp .shr 88 (.tmp 9) (.const (.int .u64 2)) 57,none⟩,
  ⟨some 11,.binOp .and 88 (.tmp 10) (.const (.int .u64 3689348814741910323)) 88,none⟩,
  ⟨some 12,.move (.tmp 0),none⟩,
  ⟨some 13,.binOp .and 88 (.tmp 12) (.const (.int .u64 3689348814741910323)) 88,none⟩,
  ⟨some 14,.binOp .add 88 (.tmp 11) (.tmp 13) 88,none⟩,
  ⟨some 0,.assign (.tmp 14),none⟩]
@[reducible] def q99_3:SCode:=.region [⟨some 15,.move (.tmp 0),none⟩,
  ⟨some 16,.binOp .shr 88 (.tmp 15) (.const (.int .u64 4)) 57,none⟩,
  ⟨some 17,.move (.tmp 0),none⟩,
  ⟨some 18,.binOp .add 88 (.tmp 16) (.tmp 17) 88,none⟩,
  ⟨some 19,.binOp .and 88 (.tmp 18) (.const (.int .u64 1085102592571150095)) 88,none⟩,
  ⟨some 0,.assign (.tmp 19),none⟩]
@[reducible] def q99_4:SCode:=.region [⟨some 20,.move (.tmp 0),none⟩,
  ⟨some 21,.move (.tmp 0),none⟩,
  ⟨some 22,.binOp .shr 88 (.tmp 21) (.const (.int .u64 8)) 57,none⟩,
  ⟨some 23,.binOp .add 88 (.tmp 20) (.tmp 22) 88,none⟩,
  ⟨some 0,.assign (.tmp 23),none⟩]
@[reducible] def q99_5:SCode:=.region [⟨some 24,.move (.tmp 0),none⟩,
  ⟨some 25,.move (.tmp 0),none⟩,
  ⟨some 26,.binOp .shr 88 (.tmp 25) (.const (.int .u64 16)) 57,none⟩,
  ⟨some 27,.binOp .add 88 (.tmp 24) (.tmp 26) 88,none⟩,
  ⟨some 0,.assign (.tmp 27),none⟩]
@[reducible] def q99_6:SCode:=.region [⟨some 28,.move (.tmp 0),none⟩,
  ⟨some 29,.move (.tmp 0),none⟩,
  ⟨some 30,.binOp .shr 88 (.tmp 29) (.const (.int .u64 32)) 57,none⟩,
  ⟨some 31,.binOp .add 88 (.tmp 28) (.tmp 30) 88,none⟩,
  ⟨some 0,.assign (.tmp 31),none⟩]
@[reducible] def q99_7:SCode:=.region [⟨some 32,.move (.tmp 0),none⟩,
  ⟨some 33,.convert 88 3 (.tmp 32),none⟩,
  ⟨some 34,.binOp .and 3 (.tmp 33) (.const (.int .i64 127)) 3,none⟩,
  ⟨some 2,.assign (.tmp 34),none⟩]
def s99:SCode:=(.seq q99_0 (.seq q99_1 (.seq q99_2 (.seq q99_3 (.seq q99_4 (.seq q99_5 (.seq q99_6 (.seq q99_7 .ret))))))))
theorem s99_strip:Yi (Yg Tryd.f99)=s99:=by kernel_rfl
theorem s99_ok:Yu 35 (Yg Tryd.f99)=true:=by kernel_rfl
theorem s99_call [Tabs Tryd.prog] {args:List Value} {h:Yc} {Q:Value→Yc→Prop} (hsz:args.length≤35) (hk:aw Tryd.prog 35 s99 (Zu Tryd.prog [.tmp 2] Q) (Zp 0 args) h):ACall Tryd.prog 99 args h Q :=
 Wx Tryd.func99 rfl (enters_of Tryd.func99 (by kernel_rfl) rfl) rfl rfl (by decide) s99_strip s99_ok hsz hk
/-! 100: planchet order.elements -/
@[reducible] def q100_0:SCode:=.region [⟨some 1,.box 3 (.tmp 0),none⟩,
  ⟨some 2,.assign (.const .nilFunc),none⟩]
@[reducible] def q100_1:SCode:=.region [⟨some 3,.makeFunc (.func 136) #[] #[.tmp 1],none⟩,
  ⟨some 2,.assign (.tmp 3),none⟩]
def s100:SCode:=(.seq q100_0 (.seq q100_1 .ret))
theorem s100_strip:Yi (Yg Tryd.f100)=s100:=by kernel_rfl
theorem s100_ok:Yu 4 (Yg Tryd.f100)=true:=by kernel_rfl
theorem s100_call [Tabs Tryd.prog] {args:List Value} {h:Yc} {Q:Value→Yc→Prop} (hsz:args.length≤4) (hk:aw Tryd.prog 4 s100 (Zu Tryd.prog [.tmp 2] Q) (Zp 0 args) h):ACall Tryd.prog 100 args h Q :=
 Wx Tryd.func100 rfl (enters_of Tryd.func100 (by kernel_rfl) rfl) rfl rfl (by decide) s100_strip s100_ok hsz hk
/-! 103: (planchet order.order).all -/
@[reducible] def q103_0:SCode:=.region [⟨some 1,.box 97 (.tmp 0),none⟩,
  ⟨some 2,.assign (.const (.int .i64 0)),none⟩]
@[reducible] def q103_1:SCode:=.region [⟨some 3,.fieldAddr 97 (.tmp 1) 0,none⟩,
  ⟨some 4,.load 3 (.tmp 3),none⟩,
  ⟨some 5,.binOp .shl 3 (.const (.int .i64 1)) (.tmp 4) 3,none⟩,
  ⟨some 6,.binOp .sub 3 (.tmp 5) (.const (.int .i64 1)) 3,none⟩,
  ⟨some 2,.assign (.tmp 6),none⟩]
def s103:SCode:=(.seq q103_0 (.seq q103_1 .ret))
theorem s103_strip:Yi (Yg Tryd.f103)=s103:=by kernel_rfl
theorem s103_ok:Yu 7 (Yg Tryd.f103)=true:=by kernel_rfl
theorem s103_call [Tabs Tryd.prog] {args:List Value} {h:Yc} {Q:Value→Yc→Prop} (hsz:args.length≤7) (hk:aw Tryd.prog 7 s103 (Zu Tryd.prog [.tmp 2] Q) (Zp 0 args) h):ACall Tryd.prog 103 args h Q :=
 Wx Tryd.func103 rfl (enters_of Tryd.func103 (by kernel_rfl) rfl) rfl rfl (by decide) s103_strip s103_ok hsz hk
/-! 104: (planchet order.order).below -/
@[reducible] def q104_0:SCode:=.region [⟨some 2,.box 97 (.tmp 0),none⟩,
  ⟨some 4,.assign (.const (.int .i64 0)),none⟩]
@[reducible] def q104_1:SCode:=.region [⟨some 5,.assign (.const (.int .i64 0)),none⟩]
@[reducible] def q104_2:SCode:=.region [⟨some 7,.fieldAddr 97 (.tmp 2) 0,none⟩,
  ⟨some 8,.load 3 (.tmp 7),none⟩,
  ⟨some 9,.move (.const (.int .i64 0)),none⟩]
@[reducible] def q104_3:SCode:=.region [⟨some 10,.binOp .lss 3 (.tmp 9) (.tmp 8) 3,none⟩]
@[reducible] def q104_4:SCode:=.region [⟨some 11,.move (.tmp 9),none⟩,
  ⟨some 6,.assign (.tmp 11),none⟩]
@[reducible] def q104_5:SCode:=.region [⟨some 12,.move (.tmp 5),none⟩,
  ⟨some 13,.move (.tmp 6),none⟩,
  ⟨some 14,.fieldAddr 97 (.tmp 2) 1,none⟩,
  ⟨some 15,.indexAddr 95 (.tmp 14) (.tmp 13),none⟩,
  ⟨some 16,.load 3 (.tmp 15),none⟩,
  ⟨some 17,.move (.tmp 1),none⟩,
  ⟨some 18,.binOp .shr 3 (.tmp 16) (.tmp 17) 3,none⟩,
  ⟨some 19,.binOp .and 3 (.tmp 18) (.const (.int .i64 1)) 3,none⟩,
  ⟨some 20,.move (.tmp 6),none⟩,
  ⟨some 21,.binOp .shl 3 (.tmp 19) (.tmp 20) 3,none⟩,
  ⟨some 22,.binOp .or 3 (.tmp 12) (.tmp 21) 3,none⟩,
  ⟨some 5,.assign (.tmp 22),none⟩]
@[reducible] def q104_6:SCode:=.region [⟨some 23,.binOp .add 3 (.tmp 9) (.const (.int .i64 1)) 3,none⟩,
  ⟨some 9,.move (.tmp 23),none⟩]
def l104_0:SCode:=(.seq q104_3 (.seq (.cond (.tmp 10) .skip (.exit 0)) (.seq (.block 1 (.seq q104_4 q104_5)) q104_6)))
@[reducible] def q104_7:SCode:=.region [⟨some 24,.move (.tmp 5),none⟩,
  ⟨some 4,.assign (.tmp 24),none⟩]
def s104:SCode:=(.seq q104_0 (.seq q104_1 (.seq (.seq q104_2 (.block 0 (.loop l104_0))) (.seq q104_7 .ret))))
theorem s104_strip:Yi (Yg Tryd.f104)=s104:=by kernel_rfl
theorem s104_ok:Yu 25 (Yg Tryd.f104)=true:=by kernel_rfl
theorem s104_call [Tabs Tryd.prog] {args:List Value} {h:Yc} {Q:Value→Yc→Prop} (hsz:args.length≤25) (hk:aw Tryd.prog 25 s104 (Zu Tryd.prog [.tmp 4] Q) (Zp 0 args) h):ACall Tryd.prog 104 args h Q :=
 Wx Tryd.func104 rfl (enters_of Tryd.func104 (by kernel_rfl) rfl) rfl rfl (by decide) s104_strip s104_ok hsz hk
end Go.Proofs.Tryd.Am
namespace Go.Proofs.Tryd.Am
open Go.Am
set_option maxRecDepth 100000
/-! 5: planchet planchettop.TopLines -/
@[reducible] def q5_0:SCode:=.region [⟨some 6,.assign (.const (.bool false)),none⟩]
@[reducible] def q5_1:SCode:=.region [⟨some 27,.move (.tmp 0),none⟩,
  ⟨some 28,.call { callee:=.value (.func 16),args:=#[.tmp 27],argTypes:=#[27] },none⟩,
  ⟨some 29,.unOp .not 4 (.tmp 28),none⟩]
@[reducible] def q5_2:SCode:=.region [⟨some 30,.call { callee:=.value (.func 21),args:=#[],argTypes:=#[] },none⟩,
  ⟨some 6,.assign (.tmp 30),none⟩]
@[reducible] def q5_3:SCode:=.region [⟨some 32,.move (.tmp 0),none⟩,
  ⟨some 33,.call { callee:=.value (.func 13),args:=#[.tmp 32],argTypes:=#[27] },none⟩,
  ⟨some 34,.call { callee:=.value (.func 22),args:=#[.tmp 33],argTypes:=#[27] },none⟩,
  ⟨some 31,.move (.tmp 34),none⟩,
  ⟨some 35,.extract (.tmp 31) 0,none⟩,
  ⟨some 36,.extract (.tmp 31) 1,none⟩,
  ⟨some 7,.assign (.tmp 35),none⟩,
  ⟨some 8,.assign (.tmp 36),none⟩]
@[reducible] def q5_4:SCode:=.region [⟨some 37,.move (.tmp 8),none⟩,
  ⟨some 38,.binOp .neq 29 (.tmp 37) (.const (.int .i64 0)) 29,none⟩]
@[reducible] def q5_5:SCode:=.region [⟨some 6,.assign (.const (.bool false)),none⟩]
@[reducible] def q5_6:SCode:=.region [⟨some 39,.move (.tmp 7),none⟩,
  ⟨some 40,.call { callee:=.builtin .len,args:=#[.tmp 39],argTypes:=#[22] },none⟩,
  ⟨some 9,.assign (.tmp 40),none⟩]
@[reducible] def q5_7:SCode:=.region [⟨some 41,.move (.tmp 9),none⟩,
  ⟨some 42,.binOp .lss 3 (.tmp 41) (.const (.int .i64 2)) 3,none⟩,
  ⟨some 43,.move (.tmp 42),none⟩,
  ⟨some 44,.move (.tmp 9),some (43,false)⟩,
  ⟨some 45,.binOp .gtr 3 (.tmp 44) (.const (.int .i64 4)) 3,some (43,false)⟩,
  ⟨some 46,.pick (.tmp 43) (.const (.bool true)) (.tmp 45),none⟩]
@[reducible] def q5_8:SCode:=.region [⟨some 47,.call { callee:=.value (.func 21),args:=#[],argTypes:=#[] },none⟩,
  ⟨some 6,.assign (.tmp 47),none⟩]
@[reducible] def q5_9:SCode:=.region [⟨some 48,.move (.tmp 9),none⟩,
  ⟨some 49,.makeSlice 43 (.tmp 48) (.tmp 48),none⟩,
  ⟨some 10,.assign (.tmp 49),none⟩]
@[reducible] def q5_10:SCode:=.region [⟨some 50,.move (.tmp 10),none⟩,
  ⟨some 51,.call { callee:=.builtin .len,args:=#[.tmp 50],argTypes:=#[43] },none⟩,
  ⟨some 52,.move (.const (.int .i64 0)),none⟩]
@[reducible] def q5_11:SCode:=.region [⟨some 53,.binOp .lss 3 (.tmp 52) (.tmp 51) 3,none⟩]
@[reducible] def q5_12:SCode:=.region [⟨some 54,.move (.tmp 52),none⟩,
  ⟨some 11,.assign (.tmp 54),none⟩]
@[reducible] def q5_13:SCode:=.region [⟨some 55,.move (.tmp 10),none⟩,
  ⟨some 56,.move (.tmp 11),none⟩,
  ⟨some 57,.move (.tmp 9),none⟩,
  ⟨some 58,.build 45 #[(0,.const (.int .i64 1)),(1,.tmp 57)],none⟩,
  ⟨some 59,.indexAddr 43 (.tmp 55) (.tmp 56),none⟩,
  ⟨none,.store 45 (.tmp 59) (.tmp 58),none⟩]
@[reducible] def q5_14:SCode:=.region [⟨some 60,.binOp .add 3 (.tmp 52) (.const (.int .i64 1)) 3,none⟩,
  ⟨some 52,.move (.tmp 60),none⟩]
def l5_0:SCode:=(.seq q5_11 (.seq (.cond (.tmp 53) .skip (.exit 0)) (.seq (.block 1 (.seq q5_12 q5_13)) q5_14)))
@[reducible] def q5_15:SCode:=.region [⟨some 12,.assign (.const (.slice none 0 0)),none⟩]
@[reducible] def q5_16:SCode:=.region [⟨some 61,.move (.tmp 0),none⟩,
  ⟨some 62,.call { callee:=.builtin .len,args:=#[.tmp 61],argTypes:=#[27] },none⟩,
  ⟨some 63,.move (.const (.int .i64 0)),none⟩]
@[reducible] def q5_17:SCode:=.region [⟨some 64,.binOp .lss 3 (.tmp 63) (.tmp 62) 3,none⟩]
@[reducible] def q5_18:SCode:=.region [⟨some 65,.move (.tmp 63),none⟩,
  ⟨some 13,.assign (.tmp 65),none⟩]
@[reducible] def q5_19:SCode:=.region [⟨some 66,.move (.tmp 0),none⟩,
  ⟨some 67,.call { callee:=.builtin .len,args:=#[.tmp 66],argTypes:=#[27] },none⟩,
  ⟨some 68,.move (.const (.int .i64 0)),none⟩]
@[reducible] def q5_20:SCode:=.region [⟨some 69,.binOp .lss 3 (.tmp 68) (.tmp 67) 3,none⟩]
@[reducible] def q5_21:SCode:=.region [⟨some 70,.move (.tmp 68),none⟩,
  ⟨some 14,.assign (.tmp 70),none⟩]
@[reducible] def q5_22:SCode:=.region [⟨some 71,.move (.tmp 0),none⟩,
  ⟨some 72,.move (.tmp 13),none⟩,
  ⟨some 73,.move (.tmp 14),none⟩,
  ⟨some 74,.call { callee:=.value (.func 19),args:=#[.tmp 71,.tmp 72,.tmp 73],argTypes:=#[27,3,3] },none⟩,
  ⟨some 75,.unOp .not 4 (.tmp 74),none⟩]
@[reducible] def q5_23:SCode:=.region [⟨some 15,.alloc 3,none⟩,
  ⟨none,.store 3 (.tmp 15) (.const (.int .i64 0)),none⟩]
@[reducible] def q5_24:SCode:=.region [⟨some 76,.move (.tmp 7),none⟩,
  ⟨some 77,.call { callee:=.builtin .len,args:=#[.tmp 76],argTypes:=#[22] },none⟩,
  ⟨some 78,.move (.const (.int .i64 0)),none⟩]
@[reducible] def q5_25:SCode:=.region [⟨some 79,.binOp .lss 3 (.tmp 78) (.tmp 77) 3,none⟩]
@[reducible] def q5_26:SCode:=.region [⟨some 80,.move (.tmp 78),none⟩,
  ⟨some 81,.indexAddr 22 (.tmp 76) (.tmp 78),none⟩,
  ⟨some 82,.load 27 (.tmp 81),none⟩,
  ⟨some 16,.assign (.tmp 80),none⟩,
  ⟨some 17,.assign (.tmp 82),none⟩]
@[reducible] def q5_27:SCode:=.region [⟨some 83,.move (.tmp 17),none⟩,
  ⟨some 84,.move (.tmp 13),none⟩,
  ⟨some 85,.call { callee:=.value (.func 23),args:=#[.tmp 83,.tmp 84],argTypes:=#[27,3] },none⟩,
  ⟨some 86,.move (.tmp 17),none⟩,
  ⟨some 87,.move (.tmp 14),none⟩,
  ⟨some 88,.call { callee:=.value (.func 23),args:=#[.tmp 86,.tmp 87],argTypes:=#[27,3] },none⟩,
  ⟨some 89,.binOp .lss 3 (.tmp 85) (.tmp 88) 3,none⟩]
def q5_28:SCode:=.draw [⟨some 90,.load 3 (.tmp 15),none⟩,
    ⟨some 91,.move (.tmp 16),none⟩,
    ⟨some 92,.binOp .shl 3 (.const (.int .i64 1)) (.tmp 91) 3,none⟩,
    ⟨some 93,.binOp .or 3 (.tmp 90) (.tmp 92) 3,none⟩,
    ⟨none,.store 3 (.tmp 15) (.tmp 93),none⟩]
  [[],[],[1],[0,2],[3,0,1,2,3]]
@[reducible] def q5_29:SCode:=.region [⟨some 94,.binOp .add 3 (.tmp 78) (.const (.int .i64 1)) 3,none⟩,
  ⟨some 78,.move (.tmp 94),none⟩]
def l5_1:SCode:=(.seq q5_25 (.seq (.cond (.tmp 79) .skip (.exit 6)) (.seq (.block 7 (.seq q5_26 (.seq q5_27 (.cond (.tmp 89) q5_28 .skip)))) q5_29)))
@[reducible] def q5_30:SCode:=.region [⟨some 96,.move (.tmp 0),none⟩,
  ⟨some 97,.call { callee:=.value (.func 13),args:=#[.tmp 96],argTypes:=#[27] },none⟩,
  ⟨some 98,.move (.tmp 13),none⟩,
  ⟨some 99,.move (.tmp 14),none⟩,
  ⟨some 100,.call { callee:=.value (.func 24),args:=#[.tmp 97,.tmp 98,.tmp 99],argTypes:=#[27,3,3] },none⟩,
  ⟨some 95,.move (.tmp 100),none⟩,
  ⟨some 101,.extract (.tmp 95) 0,none⟩,
  ⟨some 102,.extract (.tmp 95) 1,none⟩,
  ⟨some 18,.alloc 45,none⟩,
  ⟨none,.store 45 (.tmp 18) (.tmp 101),none⟩,
  ⟨some 19,.assign (.tmp 102),none⟩]
@[reducible] def q5_31:SCode:=.region [⟨some 103,.move (.tmp 19),none⟩,
  ⟨some 104,.binOp .neq 29 (.tmp 103) (.const (.int .i64 0)) 29,none⟩,
  ⟨some 105,.move (.tmp 104),none⟩,
  ⟨some 106,.fieldAddr 45 (.tmp 18) 1,some (105,false)⟩,
  ⟨some 107,.load 3 (.tmp 106),some (105,false)⟩,
  ⟨some 108,.binOp .lss 3 (.tmp 107) (.const (.int .i64 1)) 3,some (105,false)⟩,
  ⟨some 109,.pick (.tmp 105) (.const (.bool true)) (.tmp 108),none⟩,
  ⟨some 110,.move (.tmp 109),none⟩,
  ⟨some 111,.fieldAddr 45 (.tmp 18) 1,some (110,false)⟩,
  ⟨some 112,.load 3 (.tmp 111),some (110,false)⟩,
  ⟨some 113,.binOp .rem 3 (.const (.int .i64 12)) (.tmp 112) 3,some (110,false)⟩,
  ⟨some 114,.binOp .neq 3 (.tmp 113) (.const (.int .i64 0)) 3,some (110,false)⟩,
  ⟨some 115,.pick (.tmp 110) (.const (.bool true)) (.tmp 114),none⟩]
@[reducible] def q5_32:SCode:=.region [⟨some 6,.assign (.const (.bool false)),none⟩]
def q5_33:SCode:=.draw [⟨some 116,.load 3 (.tmp 15),none⟩,
    ⟨some 117,.fieldAddr 45 (.tmp 18) 1,none⟩,
    ⟨some 118,.load 3 (.tmp 117),none⟩,
    ⟨some 119,.binOp .quo 3 (.const (.int .i64 12)) (.tmp 118) 3,none⟩,
    ⟨some 120,.fieldAddr 45 (.tmp 18) 0,none⟩,
    ⟨some 121,.load 3 (.tmp 120),none⟩,
    ⟨some 122,.binOp .mul 3 (.tmp 119) (.tmp 121) 3,none⟩,
    ⟨some 123,.build 51 #[(0,.tmp 116),(1,.tmp 122)],none⟩,
    ⟨some 20,.alloc 51,none⟩,
    ⟨none,.store 51 (.tmp 20) (.tmp 123),none⟩]
  [[],[],[1],[2],[],[4],[3,5],[0,6],[],[8,7,0,1,2,3,4,5,6,7,8]]
@[reducible] def q5_34:SCode:=.region [⟨some 124,.move (.tmp 12),none⟩,
  ⟨some 125,.makeFunc (.func 26) #[] #[.tmp 15],none⟩,
  ⟨some 126,.call { callee:=.value (.func 25),args:=#[.tmp 124,.tmp 125],argTypes:=#[46,53] },none⟩,
  ⟨some 127,.unOp .not 4 (.tmp 126),none⟩,
  ⟨some 128,.move (.tmp 127),none⟩,
  ⟨some 129,.move (.tmp 12),some (128,true)⟩,
  ⟨some 130,.call { callee:=.builtin .len,args:=#[.tmp 129],argTypes:=#[46] },some (128,true)⟩,
  ⟨some 131,.binOp .lss 3 (.tmp 130) (.const (.int .i64 6)) 3,some (128,true)⟩,
  ⟨some 132,.pick (.tmp 128) (.tmp 131) (.const (.bool false)),none⟩]
@[reducible] def q5_35:SCode:=.region [⟨some 133,.move (.tmp 12),none⟩,
  ⟨some 134,.load 51 (.tmp 20),none⟩,
  ⟨some 135,.buildSlice 46 1 #[(0,.tmp 134)],none⟩,
  ⟨some 136,.call { callee:=.builtin .append,args:=#[.tmp 133,.tmp 135],argTypes:=#[46,46] },none⟩,
  ⟨some 12,.assign (.tmp 136),none⟩]
@[reducible] def q5_36:SCode:=.region [⟨some 137,.binOp .add 3 (.tmp 68) (.const (.int .i64 1)) 3,none⟩,
  ⟨some 68,.move (.tmp 137),none⟩]
def l5_2:SCode:=(.seq q5_20 (.seq (.cond (.tmp 69) .skip (.exit 4)) (.seq (.block 5 (.seq q5_21 (.seq (.seq q5_22 (.cond (.tmp 75) (.exit 5) .skip)) (.seq q5_23 (.seq (.seq q5_24 (.block 6 (.loop l5_1))) (.seq q5_30 (.seq (.seq q5_31 (.cond (.tmp 115) (.seq q5_32 .ret) .skip)) (.seq q5_33 (.seq q5_34 (.cond (.tmp 132) q5_35 .skip)))))))))) q5_36)))
@[reducible] def q5_37:SCode:=.region [⟨some 138,.binOp .add 3 (.tmp 63) (.const (.int .i64 1)) 3,none⟩,
  ⟨some 63,.move (.tmp 138),none⟩]
def l5_3:SCode:=(.seq q5_17 (.seq (.cond (.tmp 64) .skip (.exit 2)) (.seq (.block 3 (.seq q5_18 (.seq q5_19 (.block 4 (.loop l5_2))))) q5_37)))
@[reducible] def q5_38:SCode:=.region [⟨some 139,.move (.tmp 12),none⟩,
  ⟨some 140,.call { callee:=.builtin .len,args:=#[.tmp 139],argTypes:=#[46] },none⟩,
  ⟨some 141,.binOp .eql 3 (.tmp 140) (.const (.int .i64 0)) 3,none⟩]
@[reducible] def q5_39:SCode:=.region [⟨some 6,.assign (.const (.bool false)),none⟩]
@[reducible] def q5_40:SCode:=.region [⟨some 143,.move (.tmp 9),none⟩,
  ⟨some 144,.move (.tmp 12),none⟩,
  ⟨some 145,.call { callee:=.value (.func 28),args:=#[.tmp 144],argTypes:=#[46] },none⟩,
  ⟨some 146,.move (.tmp 10),none⟩,
  ⟨some 147,.call { callee:=.value (.func 27),args:=#[.tmp 143,.tmp 145,.tmp 146],argTypes:=#[3,46,43] },none⟩,
  ⟨some 142,.move (.tmp 147),none⟩,
  ⟨some 148,.extract (.tmp 142) 0,none⟩,
  ⟨some 149,.extract (.tmp 142) 1,none⟩,
  ⟨some 21,.assign (.tmp 148),none⟩,
  ⟨some 8,.assign (.tmp 149),none⟩]
@[reducible] def q5_41:SCode:=.region [⟨some 150,.move (.tmp 21),none⟩,
  ⟨some 151,.unOp .not 4 (.tmp 150),none⟩,
  ⟨some 152,.move (.tmp 151),none⟩,
  ⟨some 153,.move (.tmp 8),some (152,false)⟩,
  ⟨some 154,.binOp .neq 29 (.tmp 153) (.const (.int .i64 0)) 29,some (152,false)⟩,
  ⟨some 155,.pick (.tmp 152) (.const (.bool true)) (.tmp 154),none⟩]
@[reducible] def q5_42:SCode:=.region [⟨some 6,.assign (.const (.bool false)),none⟩]
@[reducible] def q5_43:SCode:=.region [⟨some 156,.move (.tmp 1),none⟩,
  ⟨some 157,.convert 3 57 (.tmp 156),none⟩,
  ⟨some 158,.move (.tmp 12),none⟩,
  ⟨some 159,.call { callee:=.builtin .len,args:=#[.tmp 158],argTypes:=#[46] },none⟩,
  ⟨some 160,.convert 3 57 (.tmp 159),none⟩,
  ⟨some 161,.binOp .rem 57 (.tmp 157) (.tmp 160) 57,none⟩,
  ⟨some 162,.convert 57 3 (.tmp 161),none⟩,
  ⟨some 22,.assign (.tmp 162),none⟩]
@[reducible] def q5_44:SCode:=.region [⟨some 163,.move (.tmp 12),none⟩,
  ⟨some 164,.move (.tmp 22),none⟩,
  ⟨some 165,.move (.tmp 2),none⟩,
  ⟨some 166,.convert 3 57 (.tmp 165),none⟩,
  ⟨some 167,.binOp .rem 57 (.tmp 166) (.const (.int .u64 13)) 57,none⟩,
  ⟨some 168,.convert 57 3 (.tmp 167),none⟩,
  ⟨some 169,.indexAddr 46 (.tmp 163) (.tmp 164),none⟩,
  ⟨some 170,.fieldAddr 51 (.tmp 169) 1,none⟩,
  ⟨none,.store 3 (.tmp 170) (.tmp 168),none⟩]
@[reducible] def q5_45:SCode:=.region [⟨some 172,.move (.tmp 9),none⟩,
  ⟨some 173,.move (.tmp 12),none⟩,
  ⟨some 174,.call { callee:=.value (.func 28),args:=#[.tmp 173],argTypes:=#[46] },none⟩,
  ⟨some 175,.call { callee:=.value (.func 29),args:=#[.tmp 172,.tmp 174],argTypes:=#[3,46] },none⟩,
  ⟨some 171,.move (.tmp 175),none⟩,
  ⟨some 176,.extract (.tmp 171) 0,none⟩,
  ⟨some 177,.extract (.tmp 171) 1,none⟩,
  ⟨some 8,.assign (.tmp 177),none⟩]
@[reducible] def q5_46:SCode:=.region [⟨some 179,.move (.tmp 9),none⟩,
  ⟨some 180,.move (.tmp 12),none⟩,
  ⟨some 181,.call { callee:=.value (.func 28),args:=#[.tmp 180],argTypes:=#[46] },none⟩,
  ⟨some 182,.call { callee:=.value (.func 30),args:=#[.tmp 179,.tmp 181],argTypes:=#[3,46] },none⟩,
  ⟨some 178,.move (.tmp 182),none⟩,
  ⟨some 183,.extract (.tmp 178) 0,none⟩,
  ⟨some 184,.extract (.tmp 178) 1,none⟩,
  ⟨some 23,.alloc 61,none⟩,
  ⟨none,.store 61 (.tmp 23) (.tmp 183),none⟩,
  ⟨some 24,.assign (.tmp 184),none⟩]
@[reducible] def q5_47:SCode:=.region [⟨some 185,.move (.tmp 8),none⟩,
  ⟨some 186,.binOp .eql 29 (.tmp 185) (.const (.int .i64 0)) 29,none⟩,
  ⟨some 187,.move (.tmp 24),none⟩,
  ⟨some 188,.binOp .eql 29 (.tmp 187) (.const (.int .i64 0)) 29,none⟩,
  ⟨some 189,.binOp .eql 4 (.tmp 186) (.tmp 188) 4,none⟩]
@[reducible] def q5_48:SCode:=.region [⟨some 6,.assign (.const (.bool false)),none⟩]
@[reducible] def q5_49:SCode:=.region [⟨some 190,.move (.tmp 24),none⟩,
  ⟨some 191,.binOp .neq 29 (.tmp 190) (.const (.int .i64 0)) 29,none⟩]
@[reducible] def q5_50:SCode:=.region [⟨some 192,.move (.tmp 24),none⟩,
  ⟨some 193,.binOp .eql 29 (.tmp 192) (.const (.int .i64 4)) 29,none⟩,
  ⟨some 194,.move (.tmp 193),none⟩,
  ⟨some 195,.call { callee:=.value (.func 21),args:=#[],argTypes:=#[] },some (194,true)⟩,
  ⟨some 196,.pick (.tmp 194) (.tmp 195) (.const (.bool false)),none⟩,
  ⟨some 6,.assign (.tmp 196),none⟩]
@[reducible] def q5_51:SCode:=.region [⟨some 198,.move (.tmp 9),none⟩,
  ⟨some 199,.move (.tmp 12),none⟩,
  ⟨some 200,.load 61 (.tmp 23),none⟩,
  ⟨some 201,.call { callee:=.value (.func 31),args:=#[.tmp 198,.tmp 199,.tmp 200],argTypes:=#[3,46,61] },none⟩,
  ⟨some 197,.move (.tmp 201),none⟩,
  ⟨some 202,.extract (.tmp 197) 0,none⟩,
  ⟨some 203,.extract (.tmp 197) 1,none⟩,
  ⟨some 25,.assign (.tmp 202),none⟩,
  ⟨some 26,.assign (.tmp 203),none⟩]
@[reducible] def q5_52:SCode:=.region [⟨some 204,.move (.tmp 25),none⟩,
  ⟨some 205,.move (.tmp 204),none⟩,
  ⟨some 206,.move (.tmp 26),some (205,true)⟩,
  ⟨some 207,.binOp .eql 29 (.tmp 206) (.const (.int .i64 0)) 29,some (205,true)⟩,
  ⟨some 208,.pick (.tmp 205) (.tmp 207) (.const (.bool false)),none⟩,
  ⟨some 209,.move (.tmp 208),none⟩,
  ⟨some 210,.call { callee:=.value (.func 21),args:=#[],argTypes:=#[] },some (209,true)⟩,
  ⟨some 211,.pick (.tmp 209) (.tmp 210) (.const (.bool false)),none⟩,
  ⟨some 6,.assign (.tmp 211),none⟩]
def s5:SCode:=(.seq q5_0 (.seq (.seq q5_1 (.cond (.tmp 29) (.seq q5_2 .ret) .skip)) (.seq q5_3 (.seq (.seq q5_4 (.cond (.tmp 38) (.seq q5_5 .ret) .skip)) (.seq q5_6 (.seq (.seq q5_7 (.cond (.tmp 46) (.seq q5_8 .ret) .skip)) (.seq q5_9 (.seq (.seq q5_10 (.block 0 (.loop l5_0))) (.seq q5_15 (.seq (.seq q5_16 (.block 2 (.loop l5_3))) (.seq (.seq q5_38 (.cond (.tmp 141) (.seq q5_39 .ret) .skip)) (.seq q5_40 (.seq (.seq q5_41 (.cond (.tmp 155) (.seq q5_42 .ret) .skip)) (.seq q5_43 (.seq q5_44 (.seq q5_45 (.seq q5_46 (.seq (.seq q5_47 (.cond (.tmp 189) (.seq q5_48 .ret) .skip)) (.seq (.seq q5_49 (.cond (.tmp 191) (.seq q5_50 .ret) .skip)) (.seq q5_51 (.seq q5_52 .ret)))))))))))))))))))))
end Go.Proofs.Tryd.Am
namespace Go.Proofs.Tryd.Am
open Go.Am
set_option maxRecDepth 100000
end Go.Proofs.Tryd.Am
namespace Go.Proofs.Tryd.Am
open Go.Am
set_option maxRecDepth 100000
theorem app_105_105:appT Tryd.prog 105 105=some (3,1,8):=by kernel_rfl
theorem app_120_120:appT Tryd.prog 120 120=some (122,1,24):=by kernel_rfl
theorem app_125_125:appT Tryd.prog 125 125=some (43,1,24):=by kernel_rfl
theorem app_22_22:appT Tryd.prog 22 22=some (27,1,24):=by kernel_rfl
theorem app_26_26:appT Tryd.prog 26 26=some (28,2,16):=by kernel_rfl
theorem app_27_27:appT Tryd.prog 27 27=some (3,1,8):=by kernel_rfl
theorem app_43_43:appT Tryd.prog 43 43=some (45,2,16):=by kernel_rfl
theorem app_46_46:appT Tryd.prog 46 46=some (51,2,16):=by kernel_rfl
theorem app_66_66:appT Tryd.prog 66 66=some (163,3,24):=by kernel_rfl
theorem app_77_77:appT Tryd.prog 77 77=some (81,2,16):=by kernel_rfl
theorem app_89_89:appT Tryd.prog 89 89=some (88,1,8):=by kernel_rfl
theorem el_105:elemOf' Tryd.prog 105=some 3:=by kernel_rfl
theorem el_120:elemOf' Tryd.prog 120=some 122:=by kernel_rfl
theorem el_122:elemOf' Tryd.prog 122=some 45:=by kernel_rfl
theorem el_125:elemOf' Tryd.prog 125=some 43:=by kernel_rfl
theorem el_131:elemOf' Tryd.prog 131=some 3:=by kernel_rfl
theorem el_22:elemOf' Tryd.prog 22=some 27:=by kernel_rfl
theorem el_26:elemOf' Tryd.prog 26=some 28:=by kernel_rfl
theorem Wp:elemOf' Tryd.prog 27=some 3:=by kernel_rfl
theorem el_43:elemOf' Tryd.prog 43=some 45:=by kernel_rfl
theorem el_46:elemOf' Tryd.prog 46=some 51:=by kernel_rfl
theorem el_66:elemOf' Tryd.prog 66=some 163:=by kernel_rfl
theorem el_70:elemOf' Tryd.prog 70=some 27:=by kernel_rfl
theorem el_77:elemOf' Tryd.prog 77=some 81:=by kernel_rfl
theorem el_84:elemOf' Tryd.prog 84=some 3:=by kernel_rfl
theorem el_89:elemOf' Tryd.prog 89=some 88:=by kernel_rfl
theorem esz_100:esz Tryd.prog 100=some 1:=by kernel_rfl
theorem esz_101:esz Tryd.prog 101=some 1:=by kernel_rfl
theorem esz_103:esz Tryd.prog 103=some 1:=by kernel_rfl
theorem esz_105:esz Tryd.prog 105=some 1:=by kernel_rfl
theorem esz_106:esz Tryd.prog 106=some 1:=by kernel_rfl
theorem esz_107:esz Tryd.prog 107=some 1:=by kernel_rfl
theorem esz_109:esz Tryd.prog 109=some 1:=by kernel_rfl
theorem esz_117:esz Tryd.prog 117=some 2:=by kernel_rfl
theorem esz_122:esz Tryd.prog 122=some 1:=by kernel_rfl
theorem esz_131:esz Tryd.prog 131=some 1:=by kernel_rfl
theorem esz_147:esz Tryd.prog 147=some 4:=by kernel_rfl
theorem esz_163:esz Tryd.prog 163=some 3:=by kernel_rfl
theorem Vb:esz Tryd.prog 27=some 1:=by kernel_rfl
theorem Vk:esz Tryd.prog 28=some 2:=by kernel_rfl
theorem Xk:esz Tryd.prog 3=some 1:=by kernel_rfl
theorem esz_43:esz Tryd.prog 43=some 1:=by kernel_rfl
theorem esz_45:esz Tryd.prog 45=some 2:=by kernel_rfl
theorem esz_46:esz Tryd.prog 46=some 1:=by kernel_rfl
theorem esz_51:esz Tryd.prog 51=some 2:=by kernel_rfl
theorem esz_53:esz Tryd.prog 53=some 1:=by kernel_rfl
theorem esz_61:esz Tryd.prog 61=some 1:=by kernel_rfl
theorem esz_70:esz Tryd.prog 70=some 1:=by kernel_rfl
theorem esz_81:esz Tryd.prog 81=some 2:=by kernel_rfl
theorem esz_88:esz Tryd.prog 88=some 1:=by kernel_rfl
theorem esz_89:esz Tryd.prog 89=some 1:=by kernel_rfl
theorem esz_91:esz Tryd.prog 91=some 2:=by kernel_rfl
theorem esz_95:esz Tryd.prog 95=some 6:=by kernel_rfl
theorem esz_97:esz Tryd.prog 97=some 7:=by kernel_rfl
theorem fld_103_0:Vt Tryd.prog 103 0=some (101,0):=by kernel_rfl
theorem fld_109_0:Vt Tryd.prog 109 0=some (107,0):=by kernel_rfl
theorem fld_117_0:Vt Tryd.prog 117 0=some (3,0):=by kernel_rfl
theorem fld_117_1:Vt Tryd.prog 117 1=some (46,1):=by kernel_rfl
theorem fld_149_0:Vt Tryd.prog 149 0=some (147,0):=by kernel_rfl
theorem fld_149_1:Vt Tryd.prog 149 1=some (3,4):=by kernel_rfl
theorem fld_149_2:Vt Tryd.prog 149 2=some (3,5):=by kernel_rfl
theorem fld_172_0:Vt Tryd.prog 172 0=some (97,0):=by kernel_rfl
theorem fld_172_1:Vt Tryd.prog 172 1=some (3,7):=by kernel_rfl
theorem fld_45_0:Vt Tryd.prog 45 0=some (3,0):=by kernel_rfl
theorem fld_45_1:Vt Tryd.prog 45 1=some (3,1):=by kernel_rfl
theorem fld_51_0:Vt Tryd.prog 51 0=some (3,0):=by kernel_rfl
theorem fld_51_1:Vt Tryd.prog 51 1=some (3,1):=by kernel_rfl
theorem fld_61_0:Vt Tryd.prog 61 0=some (27,0):=by kernel_rfl
theorem fld_81_0:Vt Tryd.prog 81 0=some (3,0):=by kernel_rfl
theorem fld_81_1:Vt Tryd.prog 81 1=some (3,1):=by kernel_rfl
theorem fld_91_0:Vt Tryd.prog 91 0=some (3,0):=by kernel_rfl
theorem fld_91_1:Vt Tryd.prog 91 1=some (89,1):=by kernel_rfl
theorem fld_97_0:Vt Tryd.prog 97 0=some (3,0):=by kernel_rfl
theorem fld_97_1:Vt Tryd.prog 97 1=some (95,1):=by kernel_rfl
theorem info_3:(Tryd.prog.info? 3).map (fun i=>(i.size,i.bytes))=some (1,8):=by kernel_rfl
theorem info_45:(Tryd.prog.info? 45).map (fun i=>(i.size,i.bytes))=some (2,16):=by kernel_rfl
theorem isl_105:isSl Tryd.prog 105=true:=by kernel_rfl
theorem isl_120:isSl Tryd.prog 120=true:=by kernel_rfl
theorem isl_122:isSl Tryd.prog 122=true:=by kernel_rfl
theorem isl_125:isSl Tryd.prog 125=true:=by kernel_rfl
theorem isl_131:isSl Tryd.prog 131=true:=by kernel_rfl
theorem isl_22:isSl Tryd.prog 22=true:=by kernel_rfl
theorem isl_26:isSl Tryd.prog 26=true:=by kernel_rfl
theorem isl_27:isSl Tryd.prog 27=true:=by kernel_rfl
theorem isl_43:isSl Tryd.prog 43=true:=by kernel_rfl
theorem isl_46:isSl Tryd.prog 46=true:=by kernel_rfl
theorem isl_66:isSl Tryd.prog 66=true:=by kernel_rfl
theorem isl_70:isSl Tryd.prog 70=true:=by kernel_rfl
theorem isl_77:isSl Tryd.prog 77=true:=by kernel_rfl
theorem isl_84:isSl Tryd.prog 84=true:=by kernel_rfl
theorem pl_103_0:Xr Tryd.prog 103 0=some (0,1):=by kernel_rfl
theorem pl_109_0:Xr Tryd.prog 109 0=some (0,1):=by kernel_rfl
theorem pl_117_0:Xr Tryd.prog 117 0=some (0,1):=by kernel_rfl
theorem pl_117_1:Xr Tryd.prog 117 1=some (1,1):=by kernel_rfl
theorem pl_149_0:Xr Tryd.prog 149 0=some (0,4):=by kernel_rfl
theorem pl_149_1:Xr Tryd.prog 149 1=some (4,1):=by kernel_rfl
theorem pl_149_2:Xr Tryd.prog 149 2=some (5,1):=by kernel_rfl
theorem pl_163_0:Xr Tryd.prog 163 0=some (0,1):=by kernel_rfl
theorem pl_163_1:Xr Tryd.prog 163 1=some (1,1):=by kernel_rfl
theorem pl_163_2:Xr Tryd.prog 163 2=some (2,1):=by kernel_rfl
theorem pl_172_0:Xr Tryd.prog 172 0=some (0,7):=by kernel_rfl
theorem pl_172_1:Xr Tryd.prog 172 1=some (7,1):=by kernel_rfl
theorem pl_28_0:Xr Tryd.prog 28 0=some (0,1):=by kernel_rfl
theorem pl_28_1:Xr Tryd.prog 28 1=some (1,1):=by kernel_rfl
theorem pl_45_0:Xr Tryd.prog 45 0=some (0,1):=by kernel_rfl
theorem pl_45_1:Xr Tryd.prog 45 1=some (1,1):=by kernel_rfl
theorem pl_51_0:Xr Tryd.prog 51 0=some (0,1):=by kernel_rfl
theorem pl_51_1:Xr Tryd.prog 51 1=some (1,1):=by kernel_rfl
theorem pl_61_0:Xr Tryd.prog 61 0=some (0,1):=by kernel_rfl
theorem pl_81_0:Xr Tryd.prog 81 0=some (0,1):=by kernel_rfl
theorem pl_81_1:Xr Tryd.prog 81 1=some (1,1):=by kernel_rfl
theorem pl_91_0:Xr Tryd.prog 91 0=some (0,1):=by kernel_rfl
theorem pl_91_1:Xr Tryd.prog 91 1=some (1,1):=by kernel_rfl
theorem pl_97_0:Xr Tryd.prog 97 0=some (0,1):=by kernel_rfl
theorem pl_97_1:Xr Tryd.prog 97 1=some (1,6):=by kernel_rfl
theorem shp_100:shp Tryd.prog 100=some none:=by kernel_rfl
theorem shp_101:shp Tryd.prog 101=some none:=by kernel_rfl
theorem shp_105:shp Tryd.prog 105=some none:=by kernel_rfl
theorem shp_106:shp Tryd.prog 106=some none:=by kernel_rfl
theorem shp_107:shp Tryd.prog 107=some none:=by kernel_rfl
theorem shp_117:shp Tryd.prog 117=some (some 2):=by kernel_rfl
theorem shp_122:shp Tryd.prog 122=some none:=by kernel_rfl
theorem shp_131:shp Tryd.prog 131=some none:=by kernel_rfl
theorem shp_147:shp Tryd.prog 147=some (some 4):=by kernel_rfl
theorem shp_149:shp Tryd.prog 149=some (some 6):=by kernel_rfl
theorem shp_187:shp Tryd.prog 187=some none:=by kernel_rfl
theorem shp_22:shp Tryd.prog 22=some none:=by kernel_rfl
theorem shp_25:shp Tryd.prog 25=some none:=by kernel_rfl
theorem Vj:shp Tryd.prog 26=some none:=by kernel_rfl
theorem Wb:shp Tryd.prog 27=some none:=by kernel_rfl
theorem shp_28:shp Tryd.prog 28=some (some 2):=by kernel_rfl
theorem Yw:shp Tryd.prog 3=some none:=by kernel_rfl
theorem shp_4:shp Tryd.prog 4=some none:=by kernel_rfl
theorem shp_43:shp Tryd.prog 43=some none:=by kernel_rfl
theorem shp_45:shp Tryd.prog 45=some (some 2):=by kernel_rfl
theorem shp_46:shp Tryd.prog 46=some none:=by kernel_rfl
theorem shp_51:shp Tryd.prog 51=some (some 2):=by kernel_rfl
theorem shp_53:shp Tryd.prog 53=some none:=by kernel_rfl
theorem shp_61:shp Tryd.prog 61=some (some 1):=by kernel_rfl
theorem shp_66:shp Tryd.prog 66=some none:=by kernel_rfl
theorem shp_70:shp Tryd.prog 70=some none:=by kernel_rfl
theorem shp_72:shp Tryd.prog 72=some none:=by kernel_rfl
theorem shp_77:shp Tryd.prog 77=some none:=by kernel_rfl
theorem shp_79:shp Tryd.prog 79=some none:=by kernel_rfl
theorem shp_81:shp Tryd.prog 81=some (some 2):=by kernel_rfl
theorem shp_88:shp Tryd.prog 88=some none:=by kernel_rfl
theorem shp_89:shp Tryd.prog 89=some none:=by kernel_rfl
theorem shp_95:shp Tryd.prog 95=some (some 6):=by kernel_rfl
theorem Wi:shp Tryd.prog 97=some (some 7):=by kernel_rfl
theorem und_101:Program.underlying Tryd.prog 101=some (.map 172 4):=by kernel_rfl
theorem und_105:Program.underlying Tryd.prog 105=some (.slice 3):=by kernel_rfl
theorem und_107:Program.underlying Tryd.prog 107=some (.map 149 4):=by kernel_rfl
theorem und_120:Program.underlying Tryd.prog 120=some (.slice 122):=by kernel_rfl
theorem und_122:Program.underlying Tryd.prog 122=some (.slice 45):=by kernel_rfl
theorem und_125:Program.underlying Tryd.prog 125=some (.slice 43):=by kernel_rfl
theorem und_131:Program.underlying Tryd.prog 131=some (.slice 3):=by kernel_rfl
theorem und_135:Program.underlying Tryd.prog 135=some (.map 3 3):=by kernel_rfl
theorem und_147:Program.underlying Tryd.prog 147=some (.array 4 3):=by kernel_rfl
theorem und_163:Program.underlying Tryd.prog 163=some (.array 3 3):=by kernel_rfl
theorem und_170:Program.underlying Tryd.prog 170=some (.int .u32):=by kernel_rfl
theorem und_187:Program.underlying Tryd.prog 187=some (.map 28 3):=by kernel_rfl
theorem und_22:Program.underlying Tryd.prog 22=some (.slice 27):=by kernel_rfl
theorem und_26:Program.underlying Tryd.prog 26=some (.slice 28):=by kernel_rfl
theorem und_27:Program.underlying Tryd.prog 27=some (.slice 3):=by kernel_rfl
theorem und_28:Program.underlying Tryd.prog 28=some (.array 2 3):=by kernel_rfl
theorem und_3:Program.underlying Tryd.prog 3=some (.int .i64):=by kernel_rfl
theorem und_4:Program.underlying Tryd.prog 4=some (.bool):=by kernel_rfl
theorem und_43:Program.underlying Tryd.prog 43=some (.slice 45):=by kernel_rfl
theorem und_46:Program.underlying Tryd.prog 46=some (.slice 51):=by kernel_rfl
theorem und_5:Program.underlying Tryd.prog 5=some (.int .u8):=by kernel_rfl
theorem und_57:Program.underlying Tryd.prog 57=some (.int .u64):=by kernel_rfl
theorem und_70:Program.underlying Tryd.prog 70=some (.slice 27):=by kernel_rfl
theorem und_77:Program.underlying Tryd.prog 77=some (.slice 81):=by kernel_rfl
theorem und_84:Program.underlying Tryd.prog 84=some (.slice 3):=by kernel_rfl
theorem und_88:Program.underlying Tryd.prog 88=some (.int .u64):=by kernel_rfl
theorem und_89:Program.underlying Tryd.prog 89=some (.slice 88):=by kernel_rfl
theorem und_9:Program.underlying Tryd.prog 9=some (.string):=by kernel_rfl
theorem und_95:Program.underlying Tryd.prog 95=some (.array 6 3):=by kernel_rfl
theorem zero_103:Xq Tryd.prog 103=some [.map none]:=by kernel_rfl
theorem zero_105:Xq Tryd.prog 105=some [.slice none 0 0]:=by kernel_rfl
theorem zero_109:Xq Tryd.prog 109=some [.map none]:=by kernel_rfl
theorem zero_117:Xq Tryd.prog 117=some [.int .i64 0,.slice none 0 0]:=by kernel_rfl
theorem zero_122:Xq Tryd.prog 122=some [.slice none 0 0]:=by kernel_rfl
theorem zero_149:Xq Tryd.prog 149=some [.int .i64 0,.int .i64 0,.int .i64 0,.int .i64 0,.int .i64 0,.int .i64 0]:=by kernel_rfl
theorem zero_163:Xq Tryd.prog 163=some [.int .i64 0,.int .i64 0,.int .i64 0]:=by kernel_rfl
theorem zero_172:Xq Tryd.prog 172=some [.int .i64 0,.int .i64 0,.int .i64 0,.int .i64 0,.int .i64 0,.int .i64 0,.int .i64 0,.int .i64 0]:=by kernel_rfl
theorem zero_187:Xq Tryd.prog 187=some [.map none]:=by kernel_rfl
theorem zero_22:Xq Tryd.prog 22=some [.slice none 0 0]:=by kernel_rfl
theorem zero_25:Xq Tryd.prog 25=some [.nilFunc]:=by kernel_rfl
theorem zero_26:Xq Tryd.prog 26=some [.slice none 0 0]:=by kernel_rfl
theorem zero_27:Xq Tryd.prog 27=some [.slice none 0 0]:=by kernel_rfl
theorem zero_28:Xq Tryd.prog 28=some [.int .i64 0,.int .i64 0]:=by kernel_rfl
theorem zero_3:Xq Tryd.prog 3=some [.int .i64 0]:=by kernel_rfl
theorem zero_4:Xq Tryd.prog 4=some [.bool false]:=by kernel_rfl
theorem zero_43:Xq Tryd.prog 43=some [.slice none 0 0]:=by kernel_rfl
theorem zero_45:Xq Tryd.prog 45=some [.int .i64 0,.int .i64 0]:=by kernel_rfl
theorem zero_51:Xq Tryd.prog 51=some [.int .i64 0,.int .i64 0]:=by kernel_rfl
theorem zero_61:Xq Tryd.prog 61=some [.slice none 0 0]:=by kernel_rfl
theorem zero_66:Xq Tryd.prog 66=some [.slice none 0 0]:=by kernel_rfl
theorem zero_70:Xq Tryd.prog 70=some [.slice none 0 0]:=by kernel_rfl
theorem zero_72:Xq Tryd.prog 72=some [.nilFunc]:=by kernel_rfl
theorem zero_77:Xq Tryd.prog 77=some [.slice none 0 0]:=by kernel_rfl
theorem zero_79:Xq Tryd.prog 79=some [.nilFunc]:=by kernel_rfl
theorem zero_81:Xq Tryd.prog 81=some [.int .i64 0,.int .i64 0]:=by kernel_rfl
theorem zero_88:Xq Tryd.prog 88=some [.int .u64 0]:=by kernel_rfl
theorem zero_91:Xq Tryd.prog 91=some [.int .i64 0,.slice none 0 0]:=by kernel_rfl
theorem zero_97:Xq Tryd.prog 97=some [.int .i64 0,.int .i64 0,.int .i64 0,.int .i64 0,.int .i64 0,.int .i64 0,.int .i64 0]:=by kernel_rfl
theorem zv_3:zeroV Tryd.prog 3=some (.int .i64 0):=by kernel_rfl
theorem zv_4:zeroV Tryd.prog 4=some (.bool false):=by kernel_rfl
def tyf:=(And.intro (And.intro (And.intro (And.intro (And.intro (And.intro (And.intro (And.intro @app_105_105 @app_120_120) (And.intro @app_125_125 @app_22_22)) (And.intro (And.intro @app_26_26 @app_27_27) @app_43_43)) (And.intro (And.intro (And.intro @app_46_46 @app_66_66) (And.intro @app_77_77 @app_89_89)) (And.intro (And.intro @el_105 @el_120) @el_122))) (And.intro (And.intro (And.intro (And.intro @el_125 @el_131) (And.intro @el_22 @el_26)) (And.intro (And.intro @Wp @el_43) @el_46)) (And.intro (And.intro (And.intro @el_66 @el_70) @el_77) (And.intro (And.intro @el_84 @el_89) @esz_100)))) (And.intro (And.intro (And.intro (And.intro (And.intro @esz_101 @esz_103) (And.intro @esz_105 @esz_106)) (And.intro (And.intro @esz_107 @esz_109) @esz_117)) (And.intro (And.intro (And.intro @esz_122 @esz_131) @esz_147) (And.intro (And.intro @esz_163 @Vb) @Vk))) (And.intro (And.intro (And.intro (And.intro @Xk @esz_43) (And.intro @esz_45 @esz_46)) (And.intro (And.intro @esz_51 @esz_53) @esz_61)) (And.intro (And.intro (And.intro @esz_70 @esz_81) @esz_88) (And.intro (And.intro @esz_89 @esz_91) @esz_95))))) (And.intro (And.intro (And.intro (And.intro (And.intro (And.intro @esz_97 @fld_103_0) (And.intro @fld_109_0 @fld_117_0)) (And.intro (And.intro @fld_117_1 @fld_149_0) @fld_149_1)) (And.intro (And.intro (And.intro @fld_149_2 @fld_172_0) @fld_172_1) (And.intro (And.intro @fld_45_0 @fld_45_1) @fld_51_0))) (And.intro (And.intro (And.intro (And.intro @fld_51_1 @fld_61_0) (And.intro @fld_81_0 @fld_81_1)) (And.intro (And.intro @fld_91_0 @fld_91_1) @fld_97_0)) (And.intro (And.intro (And.intro @fld_97_1 @info_3) @info_45) (And.intro (And.intro @isl_105 @isl_120) @isl_122)))) (And.intro (And.intro (And.intro (And.intro (And.intro @isl_125 @isl_131) (And.intro @isl_22 @isl_26)) (And.intro (And.intro @isl_27 @isl_43) @isl_46)) (And.intro (And.intro (And.intro @isl_66 @isl_70) @isl_77) (And.intro (And.intro @isl_84 @pl_103_0) @pl_109_0))) (And.intro (And.intro (And.intro (And.intro @pl_117_0 @pl_117_1) (And.intro @pl_149_0 @pl_149_1)) (And.intro (And.intro @pl_149_2 @pl_163_0) @pl_163_1)) (And.intro (And.intro (And.intro @pl_163_2 @pl_172_0) @pl_172_1) (And.intro (And.intro @pl_28_0 @pl_28_1) @pl_45_0)))))) (And.intro (And.intro (And.intro (And.intro (And.intro (And.intro (And.intro @pl_45_1 @pl_51_0) (And.intro @pl_51_1 @pl_61_0)) (And.intro (And.intro @pl_81_0 @pl_81_1) @pl_91_0)) (And.intro (And.intro (And.intro @pl_91_1 @pl_97_0) @pl_97_1) (And.intro (And.intro @shp_100 @shp_101) @shp_105))) (And.intro (And.intro (And.intro (And.intro @shp_106 @shp_107) (And.intro @shp_117 @shp_122)) (And.intro (And.intro @shp_131 @shp_147) @shp_149)) (And.intro (And.intro (And.intro @shp_187 @shp_22) @shp_25) (And.intro (And.intro @Vj @Wb) @shp_28)))) (And.intro (And.intro (And.intro (And.intro (And.intro @Yw @shp_4) (And.intro @shp_43 @shp_45)) (And.intro (And.intro @shp_46 @shp_51) @shp_53)) (And.intro (And.intro (And.intro @shp_61 @shp_66) @shp_70) (And.intro (And.intro @shp_72 @shp_77) @shp_79))) (And.intro (And.intro (And.intro (And.intro @shp_81 @shp_88) (And.intro @shp_89 @shp_95)) (And.intro (And.intro @Wi @und_101) @und_105)) (And.intro (And.intro (And.intro @und_107 @und_120) @und_122) (And.intro (And.intro @und_125 @und_131) @und_135))))) (And.intro (And.intro (And.intro (And.intro (And.intro (And.intro @und_147 @und_163) (And.intro @und_170 @und_187)) (And.intro (And.intro @und_22 @und_26) @und_27)) (And.intro (And.intro (And.intro @und_28 @und_3) @und_4) (And.intro (And.intro @und_43 @und_46) @und_5))) (And.intro (And.intro (And.intro (And.intro @und_57 @und_70) (And.intro @und_77 @und_84)) (And.intro (And.intro @und_88 @und_89) @und_9)) (And.intro (And.intro (And.intro @und_95 @zero_103) @zero_105) (And.intro (And.intro @zero_109 @zero_117) @zero_122)))) (And.intro (And.intro (And.intro (And.intro (And.intro @zero_149 @zero_163) (And.intro @zero_172 @zero_187)) (And.intro (And.intro @zero_22 @zero_25) @zero_26)) (And.intro (And.intro (And.intro @zero_27 @zero_28) @zero_3) (And.intro (And.intro @zero_4 @zero_43) @zero_45))) (And.intro (And.intro (And.intro (And.intro @zero_51 @zero_61) (And.intro @zero_66 @zero_70)) (And.intro (And.intro @zero_72 @zero_77) @zero_79)) (And.intro (And.intro (And.intro @zero_81 @zero_88) @zero_91) (And.intro (And.intro @zero_97 @zv_3) @zv_4)))))))
end Go.Proofs.Tryd.Am
namespace Bq
theorem mul_den (q:Rat):q*(q.den:Rat)=(q.num:Rat):=by
 have h:=Rat.num_divInt_den q
 rw [Rat.divInt_eq_div] at h
 have h0:(q.den:Rat)≠0:=by
  have:=q.den_nz
  intro hc
  exact this (by exact_mod_cast hc)
 conv=>lhs; lhs; rw [← h]
 rw [Rat.intCast_natCast]
 exact Rat.div_mul_cancel h0
def Rp (N:Nat) (x:Int) (q:Rat):Prop:=0<N∧q*(N:Rat)=(x:Rat)
section
variable {N M:Nat} {x y k:Int} {a b q:Rat}
theorem Rp.pos (h:Rp N x q):0<N:=h.1
theorem Rp.int (h:Rp N x q):q.num*N=x*q.den:=by
 have h1:=h.2
 have h2:=mul_den q
 have:(q.num:Rat)*(N:Rat)=(x:Rat)*(q.den:Rat):=by grind
 exact_mod_cast this
theorem Rp.dvd (h:Rp N x q):q.den∣N:=by
 have h1:=h.int
 have h2:(q.den:Int)∣q.num*(N:Int):=⟨x,by rw [h1,Int.mul_comm]⟩
 have h3:q.den∣q.num.natAbs*N:=by
  have:=Int.natAbs_dvd_natAbs.2 h2
  simpa [Int.natAbs_mul] using this
 exact Nat.Coprime.dvd_of_dvd_mul_left (Nat.Coprime.symm q.reduced) h3
theorem Rp.num (h:Rp N x q):q.num*((N / q.den:Nat):Int)=x:=by
 obtain ⟨t,ht⟩:=h.dvd
 have hd:0<q.den:=q.den_pos
 have h1:=h.int
 have e:N / q.den=t:=by rw [ht]; exact Nat.mul_div_cancel_left _ hd
 rw [e]
 have h2:(q.den:Int)*(q.num*t)=q.den*x:=by
  rw [Int.mul_comm (q.den:Int) x,← h1,ht]
  push_cast
  grind
 exact Int.eq_of_mul_eq_mul_left (by omega) h2
theorem Rp.le (h:Rp N x q):q.num.natAbs≤x.natAbs:=by
 rw [← h.num,Int.natAbs_mul,Int.natAbs_natCast]
 refine Nat.le_mul_of_pos_right _ ?_
 exact Nat.div_pos (Nat.le_of_dvd h.pos h.dvd) q.den_pos
theorem Rp.own (q:Rat):Rp q.den q.num q:=⟨q.den_pos,mul_den q⟩
theorem Rp.up (h:Rp N x q) (t:Nat) (ht:0<t):Rp (N*t) (x*t) q:=⟨Nat.mul_pos h.1 ht,by have:=h.2; push_cast; grind⟩
theorem Rp.mul (ha:Rp N x a) (hb:Rp M y b):Rp (N*M) (x*y) (a*b):=⟨Nat.mul_pos ha.1 hb.1,by have:=ha.2; have:=hb.2; push_cast; grind⟩
theorem Rp.lt (ha:Rp N x a) (hb:Rp N y b):a<b↔x<y:=by
 have h0:(0:Rat)<N:=by exact_mod_cast ha.1
 rw [← Rat.mul_lt_mul_right h0,ha.2,hb.2]
 exact Rat.intCast_lt_intCast
end
end Bq
namespace Go.Proofs.Tryd.Am.Be
open Go.Proofs.Tryd.Am
open Go.Am Bq
set_option maxRecDepth 100000
set_option maxHeartbeats 1000000
theorem set_new (h:Yc) (A B:Blk):(h++[A]).set h.length B=h++[B]:=by
 rw [List.set_append_right _ _ (Nat.le_refl _)]; simp
noncomputable def okF (p:Field×Nat):Bool:=p.1.name != "_" && (match prog.underlying p.1.type with | some (.int .i64)=>true | _=>false)&&p.1.offset==p.2
end Go.Proofs.Tryd.Am.Be
namespace Go.Proofs.Tryd.Am.Be
open Go.Proofs.Tryd.Am
open Go.Am
set_option maxRecDepth 100000
set_option maxHeartbeats 4000000
def minTo (xs:List Int):Nat→Int
 | 0=>xs.getD 0 0
 | k+1=>if xs.getD (k+1) 0<minTo xs k then xs.getD (k+1) 0 else minTo xs k
theorem minTo_spec (xs:List Int) : ∀ k,(∀ i,i≤k→minTo xs k≤xs.getD i 0)∧∃ i,i≤k∧minTo xs k=xs.getD i 0
 | 0=>⟨fun i hi=>by obtain rfl:i=0:=by omega
                    rw [minTo]; exact Int.le_refl _,0,Nat.le_refl _,rfl⟩
 | k+1=>by
   obtain ⟨h1,j,hj,h2⟩:=minTo_spec xs k
   rw [minTo]
   by_cases h:xs.getD (k+1) 0<minTo xs k
   · rw [if_pos h]
     refine ⟨fun i hi=>?_,k+1,Nat.le_refl _,rfl⟩
     by_cases hik:i=k+1
     · subst hik; exact Int.le_refl _
     · have:=h1 i (by omega); omega
   · rw [if_neg h]
     refine ⟨fun i hi=>?_,j,by omega,h2⟩
     by_cases hik:i=k+1
     · subst hik; omega
     · exact h1 i (by omega)
theorem s77_callW [Tabs Tryd.prog] {args:List Value} {h:Yc} {Q:Value→Yc→Prop} (hsz:args.length≤25) (hk:AWS Tryd.prog 25 s77 (Zu Tryd.prog [.tmp 2] Q) (Zp 0 args) h):ACall Tryd.prog 77 args h Q :=
 Xg Tryd.func77 rfl (enters_of Tryd.func77 (by kernel_rfl) rfl) rfl rfl (by decide) s77_strip s77_ok hsz hk
theorem min_call [Tabs prog] {h:Yc} {u:Value} {xs:List Int} (hu:IntSl h u xs) (h0:0<xs.length) (hl:xs.length<9223372036854775808):APure prog 77 [u] h (Zx (minTo xs (xs.length-1))):=by
 refine s77_callW (by simp) ?_
 simp only [s77]
 refine Yb fun N1 hN1=>?_
 simp (maxSteps:=2000000) only [s77,↓Za,↓Zk,↓Zr,↓Ze,↓Zm,↓Zs,↓Zf,↓Zh,↓Zg,↓Zc,↓Zb,↓vdn,vup,Zn,Zl,Zo,Zi,Zj,List.map_cons,List.map_nil,cond_true,cond_false,aop,Zv,Zq,Zp,ev,sput,Zt,Zy,Ya,unK,Zd,Zw,Nat.reduceBEq,Nat.reduceAdd,Int.reduceBEq,Int.reduceBNe,Int.reduceLT,Zu,Zz,tup,tyf]
 refine hN1 [(0,u),(2,.int .i64 0)] _ _ ?_ (by simp (maxSteps:=2000000) only [↓Za,↓Zk,↓Zr,↓Ze,↓Zm,↓Zs,↓Zf,↓Zh,↓Zg,↓Zc,↓Zb,↓vdn,vup,Zn,Zl,Zo,Zi,Zj,List.map_cons,List.map_nil,cond_true,cond_false,aop,Zv,Zq,Zp,ev,sput,Zt,Zy,Ya,unK,Zd,Zw,Nat.reduceBEq,Nat.reduceAdd,Int.reduceBEq,Int.reduceBNe,Int.reduceLT,Zu,Zz,tup,tyf])
 clear hN1
 try clear N1
 have h1 : ¬ (xs.length:Int)<1:=by omega
 refine Ye fun M hM=>?_
 refine Yb fun N2 hN2=>?_
 simp (maxSteps:=2000000) only [s77,↓Za,↓Zk,↓Zr,↓Ze,↓Zm,↓Zs,↓Zf,↓Zh,↓Zg,↓Zc,↓Zb,↓vdn,vup,Zn,Zl,Zo,Zi,Zj,List.map_cons,List.map_nil,cond_true,cond_false,aop,Zv,Zq,Zp,ev,sput,Zt,Zy,Ya,unK,Zd,Zw,Nat.reduceBEq,Nat.reduceAdd,Int.reduceBEq,Int.reduceBNe,Int.reduceLT,Zu,Zz,tup,tyf,hu.len,h1]
 refine hN2 [(0,u),(2,.int .i64 0),(7,.bool false)] _ _ ?_ (by simp (maxSteps:=2000000) only [↓Za,↓Zk,↓Zr,↓Ze,↓Zm,↓Zs,↓Zf,↓Zh,↓Zg,↓Zc,↓Zb,↓vdn,vup,Zn,Zl,Zo,Zi,Zj,List.map_cons,List.map_nil,cond_true,cond_false,aop,Zv,Zq,Zp,ev,sput,Zt,Zy,Ya,unK,Zd,Zw,Nat.reduceBEq,Nat.reduceAdd,Int.reduceBEq,Int.reduceBNe,Int.reduceLT,Zu,Zz,tup,tyf])
 clear hN2
 try clear N2
 refine Yq rfl ?_
 refine Yd ?_
 simp (maxSteps:=2000000) only [s77,↓Za,↓Zk,↓Zr,↓Ze,↓Zm,↓Zs,↓Zf,↓Zh,↓Zg,↓Zc,↓Zb,↓vdn,vup,Zn,Zl,Zo,Zi,Zj,List.map_cons,List.map_nil,cond_true,cond_false,aop,Zv,Zq,Zp,ev,sput,Zt,Zy,Ya,unK,Zd,Zw,Nat.reduceBEq,Nat.reduceAdd,Int.reduceBEq,Int.reduceBNe,Int.reduceLT,Zu,Zz,tup,tyf]
 refine hM [(0,u),(2,.int .i64 0)] _ _ ?_ (by simp (maxSteps:=2000000) only [↓Za,↓Zk,↓Zr,↓Ze,↓Zm,↓Zs,↓Zf,↓Zh,↓Zg,↓Zc,↓Zb,↓vdn,vup,Zn,Zl,Zo,Zi,Zj,List.map_cons,List.map_nil,cond_true,cond_false,aop,Zv,Zq,Zp,ev,sput,Zt,Zy,Ya,unK,Zd,Zw,Nat.reduceBEq,Nat.reduceAdd,Int.reduceBEq,Int.reduceBNe,Int.reduceLT,Zu,Zz,tup,tyf])
 clear hM
 try clear M
 have hi0:=fun K=>hu.idx Wp Xk (k:=.i64) h0 K
 rw [Int.natCast_zero] at hi0
 refine Yb fun N3 hN3=>?_
 simp (maxSteps:=2000000) only [s77,↓Za,↓Zk,↓Zr,↓Ze,↓Zm,↓Zs,↓Zf,↓Zh,↓Zg,↓Zc,↓Zb,↓vdn,vup,Zn,Zl,Zo,Zi,Zj,List.map_cons,List.map_nil,cond_true,cond_false,aop,Zv,Zq,Zp,ev,sput,Zt,Zy,Ya,unK,Zd,Zw,Nat.reduceBEq,Nat.reduceAdd,Int.reduceBEq,Int.reduceBNe,Int.reduceLT,Zu,Zz,tup,tyf,hi0,hu.load Yw h0]
 refine hN3 [(0,u),(2,.int .i64 0),(3,Zx (xs.getD 0 0))] _ _ ?_ (by simp (maxSteps:=2000000) only [↓Za,↓Zk,↓Zr,↓Ze,↓Zm,↓Zs,↓Zf,↓Zh,↓Zg,↓Zc,↓Zb,↓vdn,vup,Zn,Zl,Zo,Zi,Zj,List.map_cons,List.map_nil,cond_true,cond_false,aop,Zv,Zq,Zp,ev,sput,Zt,Zy,Ya,unK,Zd,Zw,Nat.reduceBEq,Nat.reduceAdd,Int.reduceBEq,Int.reduceBNe,Int.reduceLT,Zu,Zz,tup,tyf])
 clear hN3
 try clear N3
 refine Ye fun Z hZ=>?_
 refine Yb fun N4 hN4=>?_
 simp (maxSteps:=2000000) only [s77,↓Za,↓Zk,↓Zr,↓Ze,↓Zm,↓Zs,↓Zf,↓Zh,↓Zg,↓Zc,↓Zb,↓vdn,vup,Zn,Zl,Zo,Zi,Zj,List.map_cons,List.map_nil,cond_true,cond_false,aop,Zv,Zq,Zp,ev,sput,Zt,Zy,Ya,unK,Zd,Zw,Nat.reduceBEq,Nat.reduceAdd,Int.reduceBEq,Int.reduceBNe,Int.reduceLT,Zu,Zz,tup,tyf]
 refine hN4 [(0,u),(2,.int .i64 0),(3,Zx (xs.getD 0 0)),(4,.int .i64 1)] _ _ ?_ (by simp (maxSteps:=2000000) only [↓Za,↓Zk,↓Zr,↓Ze,↓Zm,↓Zs,↓Zf,↓Zh,↓Zg,↓Zc,↓Zb,↓vdn,vup,Zn,Zl,Zo,Zi,Zj,List.map_cons,List.map_nil,cond_true,cond_false,aop,Zv,Zq,Zp,ev,sput,Zt,Zy,Ya,unK,Zd,Zw,Nat.reduceBEq,Nat.reduceAdd,Int.reduceBEq,Int.reduceBNe,Int.reduceLT,Zu,Zz,tup,tyf])
 clear hN4
 try clear N4
 refine Yh ?_
 refine Yf fun Q hQ=>?_
 refine Xh (γ:=Nat) (fun k=>k<xs.length)
  (fun k=>([(0,u),(2,.int .i64 0),(3,Zx (minTo xs k)),(4,Zx ((k+1:Nat):Int))],h)) (fun k=>xs.length-k) 0 h0 (by simp (maxSteps:=2000000) only [↓Za,↓Zk,↓Zr,↓Ze,↓Zm,↓Zs,↓Zf,↓Zh,↓Zg,↓Zc,↓Zb,↓vdn,vup,Zn,Zl,Zo,Zi,Zj,List.map_cons,List.map_nil,cond_true,cond_false,aop,Zv,Zq,Zp,ev,sput,Zt,Zy,Ya,unK,Zd,Zw,Nat.reduceBEq,Nat.reduceAdd,Int.reduceBEq,Int.reduceBNe,Int.reduceLT,Zu,Zz,tup,tyf,minTo,Nat.zero_add,Int.natCast_one]) rfl ?_
 rintro k hk
 refine Yf fun Q2 hQ2=>?_
 simp only [l77_0]
 obtain ⟨j,hj⟩ : ∃ j,k+1=j:=⟨_,rfl⟩
 rw [hj]
 by_cases hin:(j:Int)<xs.length
 · have hk' : j<xs.length:=by omega
   refine Ye fun C hC=>?_
   refine Yb fun N5 hN5=>?_
   simp (maxSteps:=2000000) only [s77,↓Za,↓Zk,↓Zr,↓Ze,↓Zm,↓Zs,↓Zf,↓Zh,↓Zg,↓Zc,↓Zb,↓vdn,vup,Zn,Zl,Zo,Zi,Zj,List.map_cons,List.map_nil,cond_true,cond_false,aop,Zv,Zq,Zp,ev,sput,Zt,Zy,Ya,unK,Zd,Zw,Nat.reduceBEq,Nat.reduceAdd,Int.reduceBEq,Int.reduceBNe,Int.reduceLT,Zu,Zz,tup,tyf,hu.len,hin]
   refine hN5 [(0,u),(2,.int .i64 0),(3,Zx (minTo xs k)),(4,Zx (j:Nat)),(15,.bool true)] _ _ ?_ (by simp (maxSteps:=2000000) only [↓Za,↓Zk,↓Zr,↓Ze,↓Zm,↓Zs,↓Zf,↓Zh,↓Zg,↓Zc,↓Zb,↓vdn,vup,Zn,Zl,Zo,Zi,Zj,List.map_cons,List.map_nil,cond_true,cond_false,aop,Zv,Zq,Zp,ev,sput,Zt,Zy,Ya,unK,Zd,Zw,Nat.reduceBEq,Nat.reduceAdd,Int.reduceBEq,Int.reduceBNe,Int.reduceLT,Zu,Zz,tup,tyf])
   clear hN5
   try clear N5
   refine Yd ?_
   simp (maxSteps:=2000000) only [s77,↓Za,↓Zk,↓Zr,↓Ze,↓Zm,↓Zs,↓Zf,↓Zh,↓Zg,↓Zc,↓Zb,↓vdn,vup,Zn,Zl,Zo,Zi,Zj,List.map_cons,List.map_nil,cond_true,cond_false,aop,Zv,Zq,Zp,ev,sput,Zt,Zy,Ya,unK,Zd,Zw,Nat.reduceBEq,Nat.reduceAdd,Int.reduceBEq,Int.reduceBNe,Int.reduceLT,Zu,Zz,tup,tyf]
   refine hC [(0,u),(2,.int .i64 0),(3,Zx (minTo xs k)),(4,Zx (j:Nat))] _ _ ?_ (by simp (maxSteps:=2000000) only [↓Za,↓Zk,↓Zr,↓Ze,↓Zm,↓Zs,↓Zf,↓Zh,↓Zg,↓Zc,↓Zb,↓vdn,vup,Zn,Zl,Zo,Zi,Zj,List.map_cons,List.map_nil,cond_true,cond_false,aop,Zv,Zq,Zp,ev,sput,Zt,Zy,Ya,unK,Zd,Zw,Nat.reduceBEq,Nat.reduceAdd,Int.reduceBEq,Int.reduceBNe,Int.reduceLT,Zu,Zz,tup,tyf])
   clear hC
   try clear C
   refine Ye fun B hB=>?_
   refine Yh ?_
   refine Yd ?_
   have hm:(if xs.getD j 0<minTo xs k then xs.getD j 0 else minTo xs k)=minTo xs j:=by
    rw [← hj,minTo]
   simp (maxSteps:=2000000) only [s77,↓Za,↓Zk,↓Zr,↓Ze,↓Zm,↓Zs,↓Zf,↓Zh,↓Zg,↓Zc,↓Zb,↓vdn,vup,Zn,Zl,Zo,Zi,Zj,List.map_cons,List.map_nil,cond_true,cond_false,aop,Zv,Zq,Zp,ev,sput,Zt,Zy,Ya,unK,Zd,Zw,Nat.reduceBEq,Nat.reduceAdd,Int.reduceBEq,Int.reduceBNe,Int.reduceLT,Zu,Zz,tup,tyf,hu.idx Wp Xk hk',hu.load Yw hk',mmK,Bool.false_eq_true,if_false,gt_iff_lt,hm]
   refine hB [(0,u),(2,.int .i64 0),(3,Zx (minTo xs j)),(4,Zx (j:Nat))] _ _ ?_ (by simp (maxSteps:=2000000) only [↓Za,↓Zk,↓Zr,↓Ze,↓Zm,↓Zs,↓Zf,↓Zh,↓Zg,↓Zc,↓Zb,↓vdn,vup,Zn,Zl,Zo,Zi,Zj,List.map_cons,List.map_nil,cond_true,cond_false,aop,Zv,Zq,Zp,ev,sput,Zt,Zy,Ya,unK,Zd,Zw,Nat.reduceBEq,Nat.reduceAdd,Int.reduceBEq,Int.reduceBNe,Int.reduceLT,Zu,Zz,tup,tyf])
   clear hB
   try clear B
   refine Yd ?_
   simp (maxSteps:=2000000) only [s77,↓Za,↓Zk,↓Zr,↓Ze,↓Zm,↓Zs,↓Zf,↓Zh,↓Zg,↓Zc,↓Zb,↓vdn,vup,Zn,Zl,Zo,Zi,Zj,List.map_cons,List.map_nil,cond_true,cond_false,aop,Zv,Zq,Zp,ev,sput,Zt,Zy,Ya,unK,Zd,Zw,Nat.reduceBEq,Nat.reduceAdd,Int.reduceBEq,Int.reduceBNe,Int.reduceLT,Zu,Zz,tup,tyf,Vd (show j<9223372036854775807 by omega)]
   exact hQ2 _ _ _ ⟨j,hk',by omega,by simp (maxSteps:=2000000) only [↓Za,↓Zk,↓Zr,↓Ze,↓Zm,↓Zs,↓Zf,↓Zh,↓Zg,↓Zc,↓Zb,↓vdn,vup,Zn,Zl,Zo,Zi,Zj,List.map_cons,List.map_nil,cond_true,cond_false,aop,Zv,Zq,Zp,ev,sput,Zt,Zy,Ya,unK,Zd,Zw,Nat.reduceBEq,Nat.reduceAdd,Int.reduceBEq,Int.reduceBNe,Int.reduceLT,Zu,Zz,tup,tyf],rfl⟩
 · refine Yb fun N6 hN6=>?_
   simp (maxSteps:=2000000) only [s77,↓Za,↓Zk,↓Zr,↓Ze,↓Zm,↓Zs,↓Zf,↓Zh,↓Zg,↓Zc,↓Zb,↓vdn,vup,Zn,Zl,Zo,Zi,Zj,List.map_cons,List.map_nil,cond_true,cond_false,aop,Zv,Zq,Zp,ev,sput,Zt,Zy,Ya,unK,Zd,Zw,Nat.reduceBEq,Nat.reduceAdd,Int.reduceBEq,Int.reduceBNe,Int.reduceLT,Zu,Zz,tup,tyf,hu.len,hin]
   refine hQ2 _ _ _ (hQ _ _ _ ?_)
   simp (maxSteps:=2000000) only [s77,↓Za,↓Zk,↓Zr,↓Ze,↓Zm,↓Zs,↓Zf,↓Zh,↓Zg,↓Zc,↓Zb,↓vdn,vup,Zn,Zl,Zo,Zi,Zj,List.map_cons,List.map_nil,cond_true,cond_false,aop,Zv,Zq,Zp,ev,sput,Zt,Zy,Ya,unK,Zd,Zw,Nat.reduceBEq,Nat.reduceAdd,Int.reduceBEq,Int.reduceBNe,Int.reduceLT,Zu,Zz,tup,tyf,if_true]
   refine hZ [(0,u),(2,.int .i64 0),(3,Zx (minTo xs k))] _ _ ?_ (by simp (maxSteps:=2000000) only [↓Za,↓Zk,↓Zr,↓Ze,↓Zm,↓Zs,↓Zf,↓Zh,↓Zg,↓Zc,↓Zb,↓vdn,vup,Zn,Zl,Zo,Zi,Zj,List.map_cons,List.map_nil,cond_true,cond_false,aop,Zv,Zq,Zp,ev,sput,Zt,Zy,Ya,unK,Zd,Zw,Nat.reduceBEq,Nat.reduceAdd,Int.reduceBEq,Int.reduceBNe,Int.reduceLT,Zu,Zz,tup,tyf])
   clear hZ
   try clear Z
   have hn:xs.length-1=k:=by omega
   rw [hn]
   refine Yd ?_
   simp (maxSteps:=2000000) only [s77,↓Za,↓Zk,↓Zr,↓Ze,↓Zm,↓Zs,↓Zf,↓Zh,↓Zg,↓Zc,↓Zb,↓vdn,vup,Zn,Zl,Zo,Zi,Zj,List.map_cons,List.map_nil,cond_true,cond_false,aop,Zv,Zq,Zp,ev,sput,Zt,Zy,Ya,unK,Zd,Zw,Nat.reduceBEq,Nat.reduceAdd,Int.reduceBEq,Int.reduceBNe,Int.reduceLT,Zu,Zz,tup,tyf]
def maxTo (xs:List Int):Nat→Int
 | 0=>xs.getD 0 0
 | k+1=>if xs.getD (k+1) 0 > maxTo xs k then xs.getD (k+1) 0 else maxTo xs k
theorem maxTo_spec (xs:List Int) : ∀ k,(∀ i,i≤k→xs.getD i 0≤maxTo xs k)∧∃ i,i≤k∧maxTo xs k=xs.getD i 0
 | 0=>⟨fun i hi=>by obtain rfl:i=0:=by omega
                    rw [maxTo]; exact Int.le_refl _,0,Nat.le_refl _,rfl⟩
 | k+1=>by
   obtain ⟨h1,j,hj,h2⟩:=maxTo_spec xs k
   rw [maxTo]
   by_cases h:xs.getD (k+1) 0 > maxTo xs k
   · rw [if_pos h]
     refine ⟨fun i hi=>?_,k+1,Nat.le_refl _,rfl⟩
     by_cases hik:i=k+1
     · subst hik; exact Int.le_refl _
     · have:=h1 i (by omega); omega
   · rw [if_neg h]
     refine ⟨fun i hi=>?_,j,by omega,h2⟩
     by_cases hik:i=k+1
     · subst hik; omega
     · exact h1 i (by omega)
theorem s78_callW [Tabs Tryd.prog] {args:List Value} {h:Yc} {Q:Value→Yc→Prop} (hsz:args.length≤25) (hk:AWS Tryd.prog 25 s78 (Zu Tryd.prog [.tmp 2] Q) (Zp 0 args) h):ACall Tryd.prog 78 args h Q :=
 Xg Tryd.func78 rfl (enters_of Tryd.func78 (by kernel_rfl) rfl) rfl rfl (by decide) s78_strip s78_ok hsz hk
theorem max_call [Tabs prog] {h:Yc} {u:Value} {xs:List Int} (hu:IntSl h u xs) (h0:0<xs.length) (hl:xs.length<9223372036854775808):APure prog 78 [u] h (Zx (maxTo xs (xs.length-1))):=by
 refine s78_callW (by simp) ?_
 simp only [s78]
 refine Yb fun N7 hN7=>?_
 simp (maxSteps:=2000000) only [s78,↓Za,↓Zk,↓Zr,↓Ze,↓Zm,↓Zs,↓Zf,↓Zh,↓Zg,↓Zc,↓Zb,↓vdn,vup,Zn,Zl,Zo,Zi,Zj,List.map_cons,List.map_nil,cond_true,cond_false,aop,Zv,Zq,Zp,ev,sput,Zt,Zy,Ya,unK,Zd,Zw,Nat.reduceBEq,Nat.reduceAdd,Int.reduceBEq,Int.reduceBNe,Int.reduceLT,Zu,Zz,tup,tyf]
 refine hN7 [(0,u),(2,.int .i64 0)] _ _ ?_ (by simp (maxSteps:=2000000) only [↓Za,↓Zk,↓Zr,↓Ze,↓Zm,↓Zs,↓Zf,↓Zh,↓Zg,↓Zc,↓Zb,↓vdn,vup,Zn,Zl,Zo,Zi,Zj,List.map_cons,List.map_nil,cond_true,cond_false,aop,Zv,Zq,Zp,ev,sput,Zt,Zy,Ya,unK,Zd,Zw,Nat.reduceBEq,Nat.reduceAdd,Int.reduceBEq,Int.reduceBNe,Int.reduceLT,Zu,Zz,tup,tyf])
 clear hN7
 try clear N7
 have h1 : ¬ (xs.length:Int)<1:=by omega
 refine Ye fun M hM=>?_
 refine Yb fun N8 hN8=>?_
 simp (maxSteps:=2000000) only [s78,↓Za,↓Zk,↓Zr,↓Ze,↓Zm,↓Zs,↓Zf,↓Zh,↓Zg,↓Zc,↓Zb,↓vdn,vup,Zn,Zl,Zo,Zi,Zj,List.map_cons,List.map_nil,cond_true,cond_false,aop,Zv,Zq,Zp,ev,sput,Zt,Zy,Ya,unK,Zd,Zw,Nat.reduceBEq,Nat.reduceAdd,Int.reduceBEq,Int.reduceBNe,Int.reduceLT,Zu,Zz,tup,tyf,hu.len,h1]
 refine hN8 [(0,u),(2,.int .i64 0),(7,.bool false)] _ _ ?_ (by simp (maxSteps:=2000000) only [↓Za,↓Zk,↓Zr,↓Ze,↓Zm,↓Zs,↓Zf,↓Zh,↓Zg,↓Zc,↓Zb,↓vdn,vup,Zn,Zl,Zo,Zi,Zj,List.map_cons,List.map_nil,cond_true,cond_false,aop,Zv,Zq,Zp,ev,sput,Zt,Zy,Ya,unK,Zd,Zw,Nat.reduceBEq,Nat.reduceAdd,Int.reduceBEq,Int.reduceBNe,Int.reduceLT,Zu,Zz,tup,tyf])
 clear hN8
 try clear N8
 refine Yq rfl ?_
 refine Yd ?_
 simp (maxSteps:=2000000) only [s78,↓Za,↓Zk,↓Zr,↓Ze,↓Zm,↓Zs,↓Zf,↓Zh,↓Zg,↓Zc,↓Zb,↓vdn,vup,Zn,Zl,Zo,Zi,Zj,List.map_cons,List.map_nil,cond_true,cond_false,aop,Zv,Zq,Zp,ev,sput,Zt,Zy,Ya,unK,Zd,Zw,Nat.reduceBEq,Nat.reduceAdd,Int.reduceBEq,Int.reduceBNe,Int.reduceLT,Zu,Zz,tup,tyf]
 refine hM [(0,u),(2,.int .i64 0)] _ _ ?_ (by simp (maxSteps:=2000000) only [↓Za,↓Zk,↓Zr,↓Ze,↓Zm,↓Zs,↓Zf,↓Zh,↓Zg,↓Zc,↓Zb,↓vdn,vup,Zn,Zl,Zo,Zi,Zj,List.map_cons,List.map_nil,cond_true,cond_false,aop,Zv,Zq,Zp,ev,sput,Zt,Zy,Ya,unK,Zd,Zw,Nat.reduceBEq,Nat.reduceAdd,Int.reduceBEq,Int.reduceBNe,Int.reduceLT,Zu,Zz,tup,tyf])
 clear hM
 try clear M
 have hi0:=fun K=>hu.idx Wp Xk (k:=.i64) h0 K
 rw [Int.natCast_zero] at hi0
 refine Yb fun N9 hN9=>?_
 simp (maxSteps:=2000000) only [s78,↓Za,↓Zk,↓Zr,↓Ze,↓Zm,↓Zs,↓Zf,↓Zh,↓Zg,↓Zc,↓Zb,↓vdn,vup,Zn,Zl,Zo,Zi,Zj,List.map_cons,List.map_nil,cond_true,cond_false,aop,Zv,Zq,Zp,ev,sput,Zt,Zy,Ya,unK,Zd,Zw,Nat.reduceBEq,Nat.reduceAdd,Int.reduceBEq,Int.reduceBNe,Int.reduceLT,Zu,Zz,tup,tyf,hi0,hu.load Yw h0]
 refine hN9 [(0,u),(2,.int .i64 0),(3,Zx (xs.getD 0 0))] _ _ ?_ (by simp (maxSteps:=2000000) only [↓Za,↓Zk,↓Zr,↓Ze,↓Zm,↓Zs,↓Zf,↓Zh,↓Zg,↓Zc,↓Zb,↓vdn,vup,Zn,Zl,Zo,Zi,Zj,List.map_cons,List.map_nil,cond_true,cond_false,aop,Zv,Zq,Zp,ev,sput,Zt,Zy,Ya,unK,Zd,Zw,Nat.reduceBEq,Nat.reduceAdd,Int.reduceBEq,Int.reduceBNe,Int.reduceLT,Zu,Zz,tup,tyf])
 clear hN9
 try clear N9
 refine Ye fun Z hZ=>?_
 refine Yb fun N10 hN10=>?_
 simp (maxSteps:=2000000) only [s78,↓Za,↓Zk,↓Zr,↓Ze,↓Zm,↓Zs,↓Zf,↓Zh,↓Zg,↓Zc,↓Zb,↓vdn,vup,Zn,Zl,Zo,Zi,Zj,List.map_cons,List.map_nil,cond_true,cond_false,aop,Zv,Zq,Zp,ev,sput,Zt,Zy,Ya,unK,Zd,Zw,Nat.reduceBEq,Nat.reduceAdd,Int.reduceBEq,Int.reduceBNe,Int.reduceLT,Zu,Zz,tup,tyf]
 refine hN10 [(0,u),(2,.int .i64 0),(3,Zx (xs.getD 0 0)),(4,.int .i64 1)] _ _ ?_ (by simp (maxSteps:=2000000) only [↓Za,↓Zk,↓Zr,↓Ze,↓Zm,↓Zs,↓Zf,↓Zh,↓Zg,↓Zc,↓Zb,↓vdn,vup,Zn,Zl,Zo,Zi,Zj,List.map_cons,List.map_nil,cond_true,cond_false,aop,Zv,Zq,Zp,ev,sput,Zt,Zy,Ya,unK,Zd,Zw,Nat.reduceBEq,Nat.reduceAdd,Int.reduceBEq,Int.reduceBNe,Int.reduceLT,Zu,Zz,tup,tyf])
 clear hN10
 try clear N10
 refine Yh ?_
 refine Yf fun Q hQ=>?_
 refine Xh (γ:=Nat) (fun k=>k<xs.length)
  (fun k=>([(0,u),(2,.int .i64 0),(3,Zx (maxTo xs k)),(4,Zx ((k+1:Nat):Int))],h)) (fun k=>xs.length-k) 0 h0 (by simp (maxSteps:=2000000) only [↓Za,↓Zk,↓Zr,↓Ze,↓Zm,↓Zs,↓Zf,↓Zh,↓Zg,↓Zc,↓Zb,↓vdn,vup,Zn,Zl,Zo,Zi,Zj,List.map_cons,List.map_nil,cond_true,cond_false,aop,Zv,Zq,Zp,ev,sput,Zt,Zy,Ya,unK,Zd,Zw,Nat.reduceBEq,Nat.reduceAdd,Int.reduceBEq,Int.reduceBNe,Int.reduceLT,Zu,Zz,tup,tyf,maxTo,Nat.zero_add,Int.natCast_one]) rfl ?_
 rintro k hk
 refine Yf fun Q2 hQ2=>?_
 simp only [l78_0]
 obtain ⟨j,hj⟩ : ∃ j,k+1=j:=⟨_,rfl⟩
 rw [hj]
 by_cases hin:(j:Int)<xs.length
 · have hk' : j<xs.length:=by omega
   refine Ye fun C hC=>?_
   refine Yb fun N11 hN11=>?_
   simp (maxSteps:=2000000) only [s78,↓Za,↓Zk,↓Zr,↓Ze,↓Zm,↓Zs,↓Zf,↓Zh,↓Zg,↓Zc,↓Zb,↓vdn,vup,Zn,Zl,Zo,Zi,Zj,List.map_cons,List.map_nil,cond_true,cond_false,aop,Zv,Zq,Zp,ev,sput,Zt,Zy,Ya,unK,Zd,Zw,Nat.reduceBEq,Nat.reduceAdd,Int.reduceBEq,Int.reduceBNe,Int.reduceLT,Zu,Zz,tup,tyf,hu.len,hin]
   refine hN11 [(0,u),(2,.int .i64 0),(3,Zx (maxTo xs k)),(4,Zx (j:Nat)),(15,.bool true)] _ _ ?_ (by simp (maxSteps:=2000000) only [↓Za,↓Zk,↓Zr,↓Ze,↓Zm,↓Zs,↓Zf,↓Zh,↓Zg,↓Zc,↓Zb,↓vdn,vup,Zn,Zl,Zo,Zi,Zj,List.map_cons,List.map_nil,cond_true,cond_false,aop,Zv,Zq,Zp,ev,sput,Zt,Zy,Ya,unK,Zd,Zw,Nat.reduceBEq,Nat.reduceAdd,Int.reduceBEq,Int.reduceBNe,Int.reduceLT,Zu,Zz,tup,tyf])
   clear hN11
   try clear N11
   refine Yd ?_
   simp (maxSteps:=2000000) only [s78,↓Za,↓Zk,↓Zr,↓Ze,↓Zm,↓Zs,↓Zf,↓Zh,↓Zg,↓Zc,↓Zb,↓vdn,vup,Zn,Zl,Zo,Zi,Zj,List.map_cons,List.map_nil,cond_true,cond_false,aop,Zv,Zq,Zp,ev,sput,Zt,Zy,Ya,unK,Zd,Zw,Nat.reduceBEq,Nat.reduceAdd,Int.reduceBEq,Int.reduceBNe,Int.reduceLT,Zu,Zz,tup,tyf]
   refine hC [(0,u),(2,.int .i64 0),(3,Zx (maxTo xs k)),(4,Zx (j:Nat))] _ _ ?_ (by simp (maxSteps:=2000000) only [↓Za,↓Zk,↓Zr,↓Ze,↓Zm,↓Zs,↓Zf,↓Zh,↓Zg,↓Zc,↓Zb,↓vdn,vup,Zn,Zl,Zo,Zi,Zj,List.map_cons,List.map_nil,cond_true,cond_false,aop,Zv,Zq,Zp,ev,sput,Zt,Zy,Ya,unK,Zd,Zw,Nat.reduceBEq,Nat.reduceAdd,Int.reduceBEq,Int.reduceBNe,Int.reduceLT,Zu,Zz,tup,tyf])
   clear hC
   try clear C
   refine Ye fun B hB=>?_
   refine Yh ?_
   refine Yd ?_
   have hm:(if xs.getD j 0 > maxTo xs k then xs.getD j 0 else maxTo xs k)=maxTo xs j:=by
    rw [← hj,maxTo]
   simp (maxSteps:=2000000) only [s78,↓Za,↓Zk,↓Zr,↓Ze,↓Zm,↓Zs,↓Zf,↓Zh,↓Zg,↓Zc,↓Zb,↓vdn,vup,Zn,Zl,Zo,Zi,Zj,List.map_cons,List.map_nil,cond_true,cond_false,aop,Zv,Zq,Zp,ev,sput,Zt,Zy,Ya,unK,Zd,Zw,Nat.reduceBEq,Nat.reduceAdd,Int.reduceBEq,Int.reduceBNe,Int.reduceLT,Zu,Zz,tup,tyf,hu.idx Wp Xk hk',hu.load Yw hk',mmK,if_true,gt_iff_lt,hm]
   refine hB [(0,u),(2,.int .i64 0),(3,Zx (maxTo xs j)),(4,Zx (j:Nat))] _ _ ?_ (by simp (maxSteps:=2000000) only [↓Za,↓Zk,↓Zr,↓Ze,↓Zm,↓Zs,↓Zf,↓Zh,↓Zg,↓Zc,↓Zb,↓vdn,vup,Zn,Zl,Zo,Zi,Zj,List.map_cons,List.map_nil,cond_true,cond_false,aop,Zv,Zq,Zp,ev,sput,Zt,Zy,Ya,unK,Zd,Zw,Nat.reduceBEq,Nat.reduceAdd,Int.reduceBEq,Int.reduceBNe,Int.reduceLT,Zu,Zz,tup,tyf])
   clear hB
   try clear B
   refine Yd ?_
   simp (maxSteps:=2000000) only [s78,↓Za,↓Zk,↓Zr,↓Ze,↓Zm,↓Zs,↓Zf,↓Zh,↓Zg,↓Zc,↓Zb,↓vdn,vup,Zn,Zl,Zo,Zi,Zj,List.map_cons,List.map_nil,cond_true,cond_false,aop,Zv,Zq,Zp,ev,sput,Zt,Zy,Ya,unK,Zd,Zw,Nat.reduceBEq,Nat.reduceAdd,Int.reduceBEq,Int.reduceBNe,Int.reduceLT,Zu,Zz,tup,tyf,Vd (show j<9223372036854775807 by omega)]
   exact hQ2 _ _ _ ⟨j,hk',by omega,by simp (maxSteps:=2000000) only [↓Za,↓Zk,↓Zr,↓Ze,↓Zm,↓Zs,↓Zf,↓Zh,↓Zg,↓Zc,↓Zb,↓vdn,vup,Zn,Zl,Zo,Zi,Zj,List.map_cons,List.map_nil,cond_true,cond_false,aop,Zv,Zq,Zp,ev,sput,Zt,Zy,Ya,unK,Zd,Zw,Nat.reduceBEq,Nat.reduceAdd,Int.reduceBEq,Int.reduceBNe,Int.reduceLT,Zu,Zz,tup,tyf],rfl⟩
 · refine Yb fun N12 hN12=>?_
   simp (maxSteps:=2000000) only [s78,↓Za,↓Zk,↓Zr,↓Ze,↓Zm,↓Zs,↓Zf,↓Zh,↓Zg,↓Zc,↓Zb,↓vdn,vup,Zn,Zl,Zo,Zi,Zj,List.map_cons,List.map_nil,cond_true,cond_false,aop,Zv,Zq,Zp,ev,sput,Zt,Zy,Ya,unK,Zd,Zw,Nat.reduceBEq,Nat.reduceAdd,Int.reduceBEq,Int.reduceBNe,Int.reduceLT,Zu,Zz,tup,tyf,hu.len,hin]
   refine hQ2 _ _ _ (hQ _ _ _ ?_)
   simp (maxSteps:=2000000) only [s78,↓Za,↓Zk,↓Zr,↓Ze,↓Zm,↓Zs,↓Zf,↓Zh,↓Zg,↓Zc,↓Zb,↓vdn,vup,Zn,Zl,Zo,Zi,Zj,List.map_cons,List.map_nil,cond_true,cond_false,aop,Zv,Zq,Zp,ev,sput,Zt,Zy,Ya,unK,Zd,Zw,Nat.reduceBEq,Nat.reduceAdd,Int.reduceBEq,Int.reduceBNe,Int.reduceLT,Zu,Zz,tup,tyf,if_true]
   refine hZ [(0,u),(2,.int .i64 0),(3,Zx (maxTo xs k))] _ _ ?_ (by simp (maxSteps:=2000000) only [↓Za,↓Zk,↓Zr,↓Ze,↓Zm,↓Zs,↓Zf,↓Zh,↓Zg,↓Zc,↓Zb,↓vdn,vup,Zn,Zl,Zo,Zi,Zj,List.map_cons,List.map_nil,cond_true,cond_false,aop,Zv,Zq,Zp,ev,sput,Zt,Zy,Ya,unK,Zd,Zw,Nat.reduceBEq,Nat.reduceAdd,Int.reduceBEq,Int.reduceBNe,Int.reduceLT,Zu,Zz,tup,tyf])
   clear hZ
   try clear Z
   have hn:xs.length-1=k:=by omega
   rw [hn]
   refine Yd ?_
   simp (maxSteps:=2000000) only [s78,↓Za,↓Zk,↓Zr,↓Ze,↓Zm,↓Zs,↓Zf,↓Zh,↓Zg,↓Zc,↓Zb,↓vdn,vup,Zn,Zl,Zo,Zi,Zj,List.map_cons,List.map_nil,cond_true,cond_false,aop,Zv,Zq,Zp,ev,sput,Zt,Zy,Ya,unK,Zd,Zw,Nat.reduceBEq,Nat.reduceAdd,Int.reduceBEq,Int.reduceBNe,Int.reduceLT,Zu,Zz,tup,tyf]
end Go.Proofs.Tryd.Am.Be

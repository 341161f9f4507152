/-
  top: the table of math/bits, out of what the statement grants.
  Printed by gen.py: the code of some functions, without what no step looks at; held against the program's own by the kernel.
  Printed by gen.py: the code of some functions, without what no step looks at; held against the program's own by the kernel.
  Printed by gen.py: the code of some functions, without what no step looks at; held against the program's own by the kernel.
-/
import Derived.Test.YtmjpngmoankpkaaDoorPk4
import Derived.Test.YtmjpngmoankpkaaDoorRows
import Derived.Test.YtmjpngmoankpkaaDoorProg
import Derived.MakeChecks
import Derived.Test.YtmjpngmoankpkaaDoorPk3
import Derived.KernelRfl
import Derived.Shelf.Abstract
set_option linter.all false
namespace Go.Proofs.YtmjpngmoankpkaaDoor
open Go Go.Am Go.ChangeShapes Go.WideShapes Go.ChangeAt Go.WideMaps Go.WideElems Go.RowKit
theorem row_bytes {H:Type} {enc:TypeId×Value→H} {P:Program} {w:World} {base:Nat} {spare:Nat→Bool} {held:Bool} {fuel:Nat} {t e:TypeId} {n:Nat} {cs:List Value} {ns:List Nat} {p:List MemPlace}
  (ht:P.underlying t=some (.array n e)) (he:P.underlying e=some (.int .u8)) (hc:P.cellsOf e=1) (hct:P.cellsOf t=n) (h:DataW.trod enc P w base spare held fuel t cs=some (.agg (ns.map fun (k:Nat)=>.lit (.int .u8 k)),p)):cs=ns.map fun (k:Nat)=>Value.int .u8 k:=by
 obtain ⟨xs,m,rfl,hx,hlen,hn,hel⟩:=DataW.trod_array ht h
 simp only [Prod.mk.injEq,DataW.agg.injEq] at hx
 have hns:ns.length=n:=by rw [← hn,← List.length_map (f:=fun (x:DataW H×List MemPlace)=>x.1),← hx.1,List.length_map]
 apply List.ext_getElem (by rw [hlen,hct,List.length_map,hns])
 intro i h1 h2
 have hi:i<n:=by rw [hlen,hct] at h1; exact h1
 have h3:=hel i hi
 rw [hc,Nat.mul_one,List.getElem?_eq_getElem (by omega)] at h3
 obtain ⟨k,g1,g2,_⟩:=DataW.trod_int he h3
 have h4:(xs.map (·.1))[i]? = some (xs[i]'(by omega)).1:=by simp [List.getElem?_map,List.getElem?_eq_getElem (show i<xs.length by omega)]
 rw [← hx.1,g2] at h4
 rw [List.drop_eq_getElem_cons h1,List.take_succ_cons,List.take_zero] at g1
 have g1:=(List.cons.inj g1).1
 simp at h4
 obtain ⟨a,ha,hk⟩:=h4
 rw [g1,List.getElem_map]
 have:ns[i]'(by omega)=a:=by
  rw [List.getElem?_eq_getElem (show i<ns.length by omega)] at ha; exact Option.some.inj ha
 rw [this,← hk]
abbrev laid2:List (String×DataW Unit):=[("math/bits.deBruijn32tab",Rows.laid_math_bits_deBruijn32tab),("math/bits.deBruijn64tab",Rows.laid_math_bits_deBruijn64tab)]
theorem tab_of {W:World} (h:laidMetH Tryd.prog laid2 W) : ∃ e fr,W.heap[0]? = some (.cells (Lib.deBruijn64tab.map fun (n:Nat)=>Value.int .u8 n).toArray e fr):=by
 rw [MakeChecks.laidMetH_plain _ _ _ (by kernel_rfl)] at h
 obtain ⟨ps,⟨g0,t0,cs0,f0,p0,q0,hg0,ht0,hv0,hd0,⟨g1,t1,cs1,f1,p1,q1,hg1,ht1,hv1,hd1,_,_⟩,_⟩,_,_⟩:=h
 obtain rfl:=Option.some.inj ((show Tryd.prog.globalNamed "math/bits.deBruijn64tab" = some 0 by kernel_rfl).symm.trans hg1)
 obtain rfl:=Option.some.inj ((show (Tryd.prog.globals[0]?).map (·.type)=some 168 by kernel_rfl).symm.trans ht1)
 have hrow:=row_bytes (ns:=Lib.deBruijn64tab) Tryd.underlying168 Tryd.underlying5 (by kernel_rfl) (by kernel_rfl) hd1
 simp only [World.var?,hg1,Option.bind_some] at hv1
 split at hv1
 · rename_i cs e fr hh
   cases hv1
   exact ⟨e,fr,by rw [hh,← hrow]⟩
 · cases hv1
end Go.Proofs.YtmjpngmoankpkaaDoor
namespace Go.Proofs.Tryd.Am
open Go.Am
set_option maxRecDepth 100000
/-! 13: slices.Clone[[]int,int] -/
@[reducible] def q13_0:SCode:=.region [⟨some 2,.assign (.const (.slice none 0 0)),none⟩]
@[reducible] def q13_1:SCode:=.region [⟨some 3,.move (.tmp 0),none⟩,
  ⟨some 4,.binOp .eql 27 (.tmp 3) (.const (.slice none 0 0)) 27,none⟩]
@[reducible] def q13_2:SCode:=.region [⟨some 2,.assign (.const (.slice none 0 0)),none⟩]
@[reducible] def q13_3:SCode:=.region [⟨some 5,.buildSlice 27 0 #[],none⟩,
  ⟨some 6,.move (.tmp 0),none⟩,
  ⟨some 7,.call { callee:=.builtin .append,args:=#[.tmp 5,.tmp 6],argTypes:=#[27,27] },none⟩,
  ⟨some 2,.assign (.tmp 7),none⟩]
def s13:SCode:=(.seq q13_0 (.seq (.seq q13_1 (.cond (.tmp 4) (.seq q13_2 .ret) .skip)) (.seq q13_3 .ret)))
theorem s13_strip:Yd (Zw Tryd.f13)=s13:=by kernel_rfl
theorem s13_ok:Yl 8 (Zw Tryd.f13)=true:=by kernel_rfl
theorem s13_call [Tabs Tryd.prog] {args:List Value} {h:Zh} {Q:Value→Zh→Prop} (hsz:args.length≤8) (hk:aw Tryd.prog 8 s13 (Zs Tryd.prog [.tmp 2] Q) (Zp 0 args) h):ACall Tryd.prog 13 args h Q :=
 Wq Tryd.func13 rfl (enters_of Tryd.func13 (by kernel_rfl) rfl) rfl rfl (by decide) s13_strip s13_ok hsz hk
/-! 17: planchet planchettop.stands -/
@[reducible] def q17_0:SCode:=.region [⟨some 0,.assign (.const (.bool false)),none⟩]
@[reducible] def q17_1:SCode:=.region [⟨some 4,.buildSlice 27 2 #[(0,.const (.int .i64 0)),(1,.const (.int .i64 0))],none⟩,
  ⟨some 5,.call { callee:=.value (.func 18),args:=#[.tmp 4],argTypes:=#[27] },none⟩,
  ⟨some 3,.move (.tmp 5),none⟩,
  ⟨some 6,.extract (.tmp 3) 0,none⟩,
  ⟨some 7,.extract (.tmp 3) 1,none⟩,
  ⟨some 1,.assign (.tmp 6),none⟩,
  ⟨some 2,.assign (.tmp 7),none⟩]
@[reducible] def q17_2:SCode:=.region [⟨some 8,.move (.tmp 1),none⟩,
  ⟨some 9,.binOp .eql 3 (.tmp 8) (.const (.int .i64 2)) 3,none⟩,
  ⟨some 10,.move (.tmp 9),none⟩,
  ⟨some 11,.move (.tmp 2),some (10,true)⟩,
  ⟨some 12,.binOp .eql 29 (.tmp 11) (.const (.int .i64 0)) 29,some (10,true)⟩,
  ⟨some 13,.pick (.tmp 10) (.tmp 12) (.const (.bool false)),none⟩,
  ⟨some 0,.assign (.tmp 13),none⟩]
def s17:SCode:=(.seq q17_0 (.seq q17_1 (.seq q17_2 .ret)))
theorem s17_strip:Yd (Zw Tryd.f17)=s17:=by kernel_rfl
theorem s17_ok:Yl 14 (Zw Tryd.f17)=true:=by kernel_rfl
theorem s17_call [Tabs Tryd.prog] {args:List Value} {h:Zh} {Q:Value→Zh→Prop} (hsz:args.length≤14) (hk:aw Tryd.prog 14 s17 (Zs Tryd.prog [.tmp 0] Q) (Zp 0 args) h):ACall Tryd.prog 17 args h Q :=
 Wq Tryd.func17 rfl (enters_of Tryd.func17 (by kernel_rfl) rfl) rfl rfl (by decide) s17_strip s17_ok hsz hk
/-! 18: planchet order.Count -/
@[reducible] def q18_0:SCode:=.region [⟨some 2,.assign (.const (.int .i64 0)),none⟩,
  ⟨some 3,.assign (.const (.int .i64 0)),none⟩]
@[reducible] def q18_1:SCode:=.region [⟨some 7,.move (.tmp 0),none⟩,
  ⟨some 8,.call { callee:=.value (.func 54),args:=#[.tmp 7],argTypes:=#[27] },none⟩,
  ⟨some 6,.move (.tmp 8),none⟩,
  ⟨some 9,.extract (.tmp 6) 0,none⟩,
  ⟨some 10,.extract (.tmp 6) 1,none⟩,
  ⟨some 4,.alloc 97,none⟩,
  ⟨none,.store 97 (.tmp 4) (.tmp 9),none⟩,
  ⟨some 5,.assign (.tmp 10),none⟩]
@[reducible] def q18_2:SCode:=.region [⟨some 11,.move (.tmp 5),none⟩,
  ⟨some 12,.unOp .not 4 (.tmp 11),none⟩]
@[reducible] def q18_3:SCode:=.region [⟨some 2,.assign (.const (.int .i64 0)),none⟩,
  ⟨some 3,.assign (.const (.int .i64 2)),none⟩]
@[reducible] def q18_4:SCode:=.region [⟨some 13,.load 97 (.tmp 4),none⟩,
  ⟨some 14,.call { callee:=.value (.func 56),args:=#[.tmp 13],argTypes:=#[97] },none⟩,
  ⟨some 2,.assign (.tmp 14),none⟩,
  ⟨some 3,.assign (.const (.int .i64 0)),none⟩]
def s18:SCode:=(.seq q18_0 (.seq q18_1 (.seq (.seq q18_2 (.cond (.tmp 12) (.seq q18_3 .ret) .skip)) (.seq q18_4 .ret))))
theorem s18_strip:Yd (Zw Tryd.f18)=s18:=by kernel_rfl
theorem s18_ok:Yl 15 (Zw Tryd.f18)=true:=by kernel_rfl
theorem s18_call [Tabs Tryd.prog] {args:List Value} {h:Zh} {Q:Value→Zh→Prop} (hsz:args.length≤15) (hk:aw Tryd.prog 15 s18 (Zs Tryd.prog [.tmp 2,.tmp 3] Q) (Zp 0 args) h):ACall Tryd.prog 18 args h Q :=
 Wq Tryd.func18 rfl (enters_of Tryd.func18 (by kernel_rfl) rfl) rfl rfl (by decide) s18_strip s18_ok hsz hk
/-! 54: planchet order.read -/
@[reducible] def q54_0:SCode:=.region [⟨some 1,.box 27 (.tmp 0),none⟩,
  ⟨some 2,.alloc 97,none⟩,
  ⟨some 3,.alloc 4,none⟩]
@[reducible] def q54_1:SCode:=.region [⟨some 8,.load 27 (.tmp 1),none⟩,
  ⟨some 9,.call { callee:=.builtin .len,args:=#[.tmp 8],argTypes:=#[27] },none⟩,
  ⟨some 10,.build 97 #[(0,.tmp 9)],none⟩,
  ⟨some 4,.alloc 97,none⟩,
  ⟨none,.store 97 (.tmp 4) (.tmp 10),none⟩]
@[reducible] def q54_2:SCode:=.region [⟨some 11,.load 27 (.tmp 1),none⟩,
  ⟨some 12,.call { callee:=.builtin .len,args:=#[.tmp 11],argTypes:=#[27] },none⟩,
  ⟨some 13,.binOp .lss 3 (.tmp 12) (.const (.int .i64 1)) 3,none⟩,
  ⟨some 14,.move (.tmp 13),none⟩,
  ⟨some 15,.load 27 (.tmp 1),some (14,false)⟩,
  ⟨some 16,.call { callee:=.builtin .len,args:=#[.tmp 15],argTypes:=#[27] },some (14,false)⟩,
  ⟨some 17,.binOp .gtr 3 (.tmp 16) (.const (.int .i64 6)) 3,some (14,false)⟩,
  ⟨some 18,.pick (.tmp 14) (.const (.bool true)) (.tmp 17),none⟩]
@[reducible] def q54_3:SCode:=.region [⟨some 19,.load 97 (.tmp 4),none⟩,
  ⟨none,.store 97 (.tmp 2) (.tmp 19),none⟩,
  ⟨none,.store 4 (.tmp 3) (.const (.bool false)),none⟩]
def q54_4:SCode:=.draw [⟨some 20,.fieldAddr 97 (.tmp 4) 1,none⟩,
    ⟨some 21,.slice 95 (.tmp 20) none none none,none⟩,
    ⟨some 22,.load 27 (.tmp 1),none⟩,
    ⟨some 23,.call { callee:=.builtin .copy,args:=#[.tmp 21,.tmp 22],argTypes:=#[27,27] },none⟩]
  [[],[0],[],[1,2]]
@[reducible] def q54_5:SCode:=.region [⟨some 24,.load 27 (.tmp 1),none⟩,
  ⟨some 25,.call { callee:=.builtin .len,args:=#[.tmp 24],argTypes:=#[27] },none⟩,
  ⟨some 26,.move (.const (.int .i64 0)),none⟩]
@[reducible] def q54_6:SCode:=.region [⟨some 27,.binOp .lss 3 (.tmp 26) (.tmp 25) 3,none⟩]
@[reducible] def q54_7:SCode:=.region [⟨some 28,.move (.tmp 26),none⟩,
  ⟨some 29,.indexAddr 27 (.tmp 24) (.tmp 26),none⟩,
  ⟨some 30,.load 3 (.tmp 29),none⟩,
  ⟨some 6,.alloc 3,none⟩,
  ⟨some 5,.assign (.tmp 28),none⟩,
  ⟨none,.store 3 (.tmp 6) (.tmp 30),none⟩]
def q54_8:SCode:=.draw [⟨some 31,.load 3 (.tmp 6),none⟩,
    ⟨some 32,.binOp .lss 3 (.tmp 31) (.const (.int .i64 0)) 3,none⟩,
    ⟨some 33,.move (.tmp 32),none⟩,
    ⟨some 34,.load 3 (.tmp 6),some (33,false)⟩,
    ⟨some 35,.load 27 (.tmp 1),some (33,false)⟩,
    ⟨some 36,.call { callee:=.builtin .len,args:=#[.tmp 35],argTypes:=#[27] },some (33,false)⟩,
    ⟨some 37,.binOp .shl 3 (.const (.int .i64 1)) (.tmp 36) 3,some (33,false)⟩,
    ⟨some 38,.binOp .geq 3 (.tmp 34) (.tmp 37) 3,some (33,false)⟩,
    ⟨some 39,.pick (.tmp 33) (.const (.bool true)) (.tmp 38),none⟩,
    ⟨some 40,.move (.tmp 39),none⟩,
    ⟨some 41,.load 3 (.tmp 6),some (40,false)⟩,
    ⟨some 42,.move (.tmp 5),some (40,false)⟩,
    ⟨some 43,.binOp .shr 3 (.tmp 41) (.tmp 42) 3,some (40,false)⟩,
    ⟨some 44,.binOp .and 3 (.tmp 43) (.const (.int .i64 1)) 3,some (40,false)⟩,
    ⟨some 45,.binOp .eql 3 (.tmp 44) (.const (.int .i64 1)) 3,some (40,false)⟩,
    ⟨some 46,.pick (.tmp 40) (.const (.bool true)) (.tmp 45),none⟩]
  [[],[0],[1],[2],[2],[4,2],[5,2],[3,6,2],[2,7],[8,2],[9],[9],[10,11,9],[12,9],[13,9],[9,14]]
@[reducible] def q54_9:SCode:=.region [⟨some 47,.load 97 (.tmp 4),none⟩,
  ⟨none,.store 97 (.tmp 2) (.tmp 47),none⟩,
  ⟨none,.store 4 (.tmp 3) (.const (.bool false)),none⟩]
@[reducible] def q54_10:SCode:=.region [⟨some 48,.load 3 (.tmp 6),none⟩,
  ⟨some 49,.call { callee:=.value (.func 100),args:=#[.tmp 48],argTypes:=#[3] },none⟩]
@[reducible] def q54_11:SCode:=.region [⟨some 7,.assign (.tmp 50),none⟩]
def q54_12:SCode:=.draw [⟨some 51,.load 27 (.tmp 1),none⟩,
    ⟨some 52,.move (.tmp 7),none⟩,
    ⟨some 53,.indexAddr 27 (.tmp 51) (.tmp 52),none⟩,
    ⟨some 54,.load 3 (.tmp 53),none⟩,
    ⟨some 55,.load 3 (.tmp 6),none⟩,
    ⟨some 56,.binOp .andNot 3 (.tmp 54) (.tmp 55) 3,none⟩,
    ⟨some 57,.binOp .neq 3 (.tmp 56) (.const (.int .i64 0)) 3,none⟩]
  [[],[],[0,1],[2],[],[3,4],[5]]
@[reducible] def q54_13:SCode:=.region [⟨some 58,.load 97 (.tmp 4),none⟩,
  ⟨none,.store 97 (.tmp 2) (.tmp 58),none⟩,
  ⟨none,.store 4 (.tmp 3) (.const (.bool false)),none⟩]
def r54_0_a:SCode:=q54_11
def r54_0_b:SCode:=(.block 3 (.seq q54_12 (.cond (.tmp 57) (.seq q54_13 .ret) .skip)))
@[reducible] def q54_14:SCode:=.region [⟨some 59,.binOp .add 3 (.tmp 26) (.const (.int .i64 1)) 3,none⟩,
  ⟨some 26,.move (.tmp 59),none⟩]
def l54_1:SCode:=(.seq q54_6 (.seq (.cond (.tmp 27) .skip (.exit 0)) (.seq (.block 1 (.seq q54_7 (.seq (.seq q54_8 (.cond (.tmp 46) (.seq q54_9 .ret) .skip)) (.seq q54_10 (.block 2 (.range (.tmp 49) [50] r54_0_a r54_0_b)))))) q54_14)))
@[reducible] def q54_15:SCode:=.region [⟨some 60,.load 97 (.tmp 4),none⟩,
  ⟨none,.store 97 (.tmp 2) (.tmp 60),none⟩,
  ⟨none,.store 4 (.tmp 3) (.const (.bool true)),none⟩]
def s54:SCode:=(.seq q54_0 (.seq q54_1 (.seq (.seq q54_2 (.cond (.tmp 18) (.seq q54_3 .ret) .skip)) (.seq q54_4 (.seq (.seq q54_5 (.block 0 (.loop l54_1))) (.seq q54_15 .ret))))))
theorem s54_strip:Yd (Zw Tryd.f54)=s54:=by kernel_rfl
theorem s54_ok:Yl 61 (Zw Tryd.f54)=true:=by kernel_rfl
theorem s54_call [Tabs Tryd.prog] {args:List Value} {h:Zh} {Q:Value→Zh→Prop} (hsz:args.length≤61) (hk:aw Tryd.prog 61 s54 (Zs Tryd.prog [.cell 2 97,.cell 3 4] Q) (Zp 0 args) h):ACall Tryd.prog 54 args h Q :=
 Wq Tryd.func54 rfl (enters_of Tryd.func54 (by kernel_rfl) rfl) rfl rfl (by decide) s54_strip s54_ok hsz hk
/-! 56: (planchet order.order).counted -/
@[reducible] def q56_0:SCode:=.region [⟨some 1,.box 97 (.tmp 0),none⟩,
  ⟨some 2,.assign (.const (.int .i64 0)),none⟩]
@[reducible] def q56_1:SCode:=.region [⟨some 6,.load 97 (.tmp 1),none⟩,
  ⟨some 7,.call { callee:=.value (.func 103),args:=#[.tmp 6],argTypes:=#[97] },none⟩,
  ⟨some 8,.binOp .add 3 (.tmp 7) (.const (.int .i64 1)) 3,none⟩,
  ⟨some 9,.makeSlice 27 (.tmp 8) (.tmp 8),none⟩,
  ⟨some 3,.alloc 27,none⟩,
  ⟨none,.store 27 (.tmp 3) (.tmp 9),none⟩]
@[reducible] def q56_2:SCode:=.region [⟨some 10,.load 27 (.tmp 3),none⟩,
  ⟨some 11,.indexAddr 27 (.tmp 10) (.const (.int .i64 0)),none⟩,
  ⟨none,.store 3 (.tmp 11) (.const (.int .i64 1)),none⟩]
@[reducible] def q56_3:SCode:=.region [⟨some 4,.alloc 3,none⟩,
  ⟨none,.store 3 (.tmp 4) (.const (.int .i64 1)),none⟩]
def q56_4:SCode:=.draw [⟨some 12,.load 3 (.tmp 4),none⟩,
    ⟨some 13,.load 97 (.tmp 1),none⟩,
    ⟨some 14,.call { callee:=.value (.func 103),args:=#[.tmp 13],argTypes:=#[97] },none⟩,
    ⟨some 15,.binOp .leq 3 (.tmp 12) (.tmp 14) 3,none⟩]
  [[],[],[1],[0,2]]
@[reducible] def q56_6:SCode:=.region [⟨some 18,.load 3 (.tmp 4),none⟩,
  ⟨some 19,.call { callee:=.value (.func 100),args:=#[.tmp 18],argTypes:=#[3] },none⟩]
@[reducible] def q56_7:SCode:=.region [⟨some 5,.assign (.tmp 20),none⟩]
def q56_8:SCode:=.draw [⟨some 21,.load 97 (.tmp 1),none⟩,
    ⟨some 22,.move (.tmp 5),none⟩,
    ⟨some 23,.call { callee:=.value (.func 104),args:=#[.tmp 21,.tmp 22],argTypes:=#[97,3] },none⟩,
    ⟨some 24,.load 3 (.tmp 4),none⟩,
    ⟨some 25,.binOp .andNot 3 (.tmp 23) (.tmp 24) 3,none⟩,
    ⟨some 26,.binOp .eql 3 (.tmp 25) (.const (.int .i64 0)) 3,none⟩,
    ⟨some 27,.move (.tmp 26),none⟩,
    ⟨some 28,.move (.tmp 5),some (27,true)⟩,
    ⟨some 29,.fieldAddr 97 (.tmp 1) 1,some (27,true)⟩,
    ⟨some 30,.indexAddr 95 (.tmp 29) (.tmp 28),some (27,true)⟩,
    ⟨some 31,.load 3 (.tmp 30),some (27,true)⟩,
    ⟨some 32,.load 3 (.tmp 4),some (27,true)⟩,
    ⟨some 33,.binOp .and 3 (.tmp 31) (.tmp 32) 3,some (27,true)⟩,
    ⟨some 34,.binOp .eql 3 (.tmp 33) (.const (.int .i64 0)) 3,some (27,true)⟩,
    ⟨some 35,.pick (.tmp 27) (.tmp 34) (.const (.bool false)),none⟩]
  [[],[],[0,1],[],[2,3],[4],[5,2],[6],[6],[8,7,6],[9,6],[6],[10,11,6],[12,6],[6,13]]
def q56_9:SCode:=.draw [⟨some 36,.load 27 (.tmp 3),none⟩,
    ⟨some 37,.load 3 (.tmp 4),none⟩,
    ⟨some 38,.indexAddr 27 (.tmp 36) (.tmp 37),none⟩,
    ⟨some 39,.load 3 (.tmp 38),none⟩,
    ⟨some 40,.load 27 (.tmp 3),none⟩,
    ⟨some 41,.load 3 (.tmp 4),none⟩,
    ⟨some 42,.move (.tmp 5),none⟩,
    ⟨some 43,.binOp .shl 3 (.const (.int .i64 1)) (.tmp 42) 3,none⟩,
    ⟨some 44,.binOp .andNot 3 (.tmp 41) (.tmp 43) 3,none⟩,
    ⟨some 45,.indexAddr 27 (.tmp 40) (.tmp 44),none⟩,
    ⟨some 46,.load 3 (.tmp 45),none⟩,
    ⟨some 47,.binOp .add 3 (.tmp 39) (.tmp 46) 3,none⟩,
    ⟨some 48,.indexAddr 27 (.tmp 36) (.tmp 37),none⟩,
    ⟨none,.store 3 (.tmp 48) (.tmp 47),none⟩]
  [[],[],[0,1],[2],[],[],[],[6],[5,7],[4,8],[9],[3,10],[0,1,0,1,2,3,4,5,6,7,8,9,10,11],[12,11,0,1,2,3,4,5,6,7,8,9,10,11]]
def r56_0_a:SCode:=q56_7
def r56_0_b:SCode:=(.block 3 (.seq q56_8 (.cond (.tmp 35) q56_9 .skip)))
@[reducible] def q56_10:SCode:=.region [⟨some 49,.load 3 (.tmp 4),none⟩]
@[reducible] def q56_11:SCode:=.region [⟨some 4,.alloc 3,none⟩,
  ⟨none,.store 3 (.tmp 4) (.tmp 49),none⟩]
@[reducible] def q56_5:SCode:=.region [⟨some 16,.load 3 (.tmp 4),none⟩,
  ⟨some 17,.binOp .add 3 (.tmp 16) (.const (.int .i64 1)) 3,none⟩,
  ⟨none,.store 3 (.tmp 4) (.tmp 17),none⟩]
def l56_1:SCode:=(.seq (.seq q56_4 (.cond (.tmp 15) .skip (.exit 0))) (.seq (.block 1 (.seq q56_6 (.block 2 (.range (.tmp 19) [20] r56_0_a r56_0_b)))) (.seq (.seq q56_10 q56_11) q56_5)))
def q56_12:SCode:=.draw [⟨some 50,.load 27 (.tmp 3),none⟩,
    ⟨some 51,.load 97 (.tmp 1),none⟩,
    ⟨some 52,.call { callee:=.value (.func 103),args:=#[.tmp 51],argTypes:=#[97] },none⟩,
    ⟨some 53,.indexAddr 27 (.tmp 50) (.tmp 52),none⟩,
    ⟨some 54,.load 3 (.tmp 53),none⟩,
    ⟨some 2,.assign (.tmp 54),none⟩]
  [[],[],[1],[0,2],[3],[4,2,0,1,2,3,4]]
def s56:SCode:=(.seq q56_0 (.seq q56_1 (.seq q56_2 (.seq (.seq q56_3 (.block 0 (.loop l56_1))) (.seq q56_12 .ret)))))
theorem s56_strip:Yd (Zw Tryd.f56)=s56:=by kernel_rfl
theorem s56_ok:Yl 55 (Zw Tryd.f56)=true:=by kernel_rfl
theorem s56_call [Tabs Tryd.prog] {args:List Value} {h:Zh} {Q:Value→Zh→Prop} (hsz:args.length≤55) (hk:aw Tryd.prog 55 s56 (Zs Tryd.prog [.tmp 2] Q) (Zp 0 args) h):ACall Tryd.prog 56 args h Q :=
 Wq Tryd.func56 rfl (enters_of Tryd.func56 (by kernel_rfl) rfl) rfl rfl (by decide) s56_strip s56_ok hsz hk
/-! 60: (planchet order.order).lines -/
@[reducible] def q60_0:SCode:=.region [⟨some 1,.box 97 (.tmp 0),none⟩,
  ⟨some 2,.assign (.const (.slice none 0 0)),none⟩]
@[reducible] def q60_1:SCode:=.region [⟨some 3,.alloc 22,none⟩]
@[reducible] def q60_2:SCode:=.region [⟨some 4,.alloc 27,none⟩]
@[reducible] def q60_3:SCode:=.region [⟨some 5,.alloc 72,none⟩]
@[reducible] def q60_4:SCode:=.region [⟨some 6,.makeFunc (.func 108) #[] #[.tmp 3,.tmp 4,.tmp 1,.tmp 5],none⟩,
  ⟨none,.store 72 (.tmp 5) (.tmp 6),none⟩]
def q60_5:SCode:=.draw [⟨some 7,.load 72 (.tmp 5),none⟩,
    ⟨some 8,.load 97 (.tmp 1),none⟩,
    ⟨some 9,.call { callee:=.value (.func 103),args:=#[.tmp 8],argTypes:=#[97] },none⟩,
    ⟨some 10,.call { callee:=.value (.tmp 7),args:=#[.tmp 9],argTypes:=#[3] },none⟩]
  [[],[],[1],[0,2,2]]
@[reducible] def q60_6:SCode:=.region [⟨some 11,.load 22 (.tmp 3),none⟩,
  ⟨some 2,.assign (.tmp 11),none⟩]
def s60:SCode:=(.seq q60_0 (.seq q60_1 (.seq q60_2 (.seq q60_3 (.seq q60_4 (.seq q60_5 (.seq q60_6 .ret)))))))
theorem s60_strip:Yd (Zw Tryd.f60)=s60:=by kernel_rfl
theorem s60_ok:Yl 12 (Zw Tryd.f60)=true:=by kernel_rfl
theorem s60_call [Tabs Tryd.prog] {args:List Value} {h:Zh} {Q:Value→Zh→Prop} (hsz:args.length≤12) (hk:aw Tryd.prog 12 s60 (Zs Tryd.prog [.tmp 2] Q) (Zp 0 args) h):ACall Tryd.prog 60 args h Q :=
 Wq Tryd.func60 rfl (enters_of Tryd.func60 (by kernel_rfl) rfl) rfl rfl (by decide) s60_strip s60_ok hsz hk
/-! 61: (planchet order.order).element -/
@[reducible] def q61_0:SCode:=.region [⟨some 2,.box 97 (.tmp 0),none⟩,
  ⟨some 4,.assign (.const (.bool false)),none⟩]
@[reducible] def q61_1:SCode:=.region [⟨some 5,.move (.tmp 1),none⟩,
  ⟨some 6,.binOp .geq 3 (.tmp 5) (.const (.int .i64 0)) 3,none⟩,
  ⟨some 7,.move (.tmp 6),none⟩,
  ⟨some 8,.move (.tmp 1),some (7,true)⟩,
  ⟨some 9,.fieldAddr 97 (.tmp 2) 0,some (7,true)⟩,
  ⟨some 10,.load 3 (.tmp 9),some (7,true)⟩,
  ⟨some 11,.binOp .lss 3 (.tmp 8) (.tmp 10) 3,some (7,true)⟩,
  ⟨some 12,.pick (.tmp 7) (.tmp 11) (.const (.bool false)),none⟩,
  ⟨some 4,.assign (.tmp 12),none⟩]
def s61:SCode:=(.seq q61_0 (.seq q61_1 .ret))
theorem s61_strip:Yd (Zw Tryd.f61)=s61:=by kernel_rfl
theorem s61_ok:Yl 13 (Zw Tryd.f61)=true:=by kernel_rfl
theorem s61_call [Tabs Tryd.prog] {args:List Value} {h:Zh} {Q:Value→Zh→Prop} (hsz:args.length≤13) (hk:aw Tryd.prog 13 s61 (Zs Tryd.prog [.tmp 4] Q) (Zp 0 args) h):ACall Tryd.prog 61 args h Q :=
 Wq Tryd.func61 rfl (enters_of Tryd.func61 (by kernel_rfl) rfl) rfl rfl (by decide) s61_strip s61_ok hsz hk
/-! 77: slices.Min[[]int,int] -/
@[reducible] def q77_0:SCode:=.region [⟨some 2,.assign (.const (.int .i64 0)),none⟩]
@[reducible] def q77_1:SCode:=.region [⟨some 5,.move (.tmp 0),none⟩,
  ⟨some 6,.call { callee:=.builtin .len,args:=#[.tmp 5],argTypes:=#[27] },none⟩,
  ⟨some 7,.binOp .lss 3 (.tmp 6) (.const (.int .i64 1)) 3,none⟩]
@[reducible] def q77_2:SCode:=.region [⟨some 8,.makeInterface 9 (.const (.string { data:=#[115,108,105,99,101,115,46,77,105,110,58,32,101,109,112,116,121,32,108,105,115,116] })),none⟩,
  ⟨none,.panic (.tmp 8),none⟩]
@[reducible] def q77_3:SCode:=.region [⟨some 9,.move (.tmp 0),none⟩,
  ⟨some 10,.indexAddr 27 (.tmp 9) (.const (.int .i64 0)),none⟩,
  ⟨some 11,.load 3 (.tmp 10),none⟩,
  ⟨some 3,.assign (.tmp 11),none⟩]
@[reducible] def q77_4:SCode:=.region [⟨some 4,.assign (.const (.int .i64 1)),none⟩]
@[reducible] def q77_5:SCode:=.region [⟨some 12,.move (.tmp 4),none⟩,
  ⟨some 13,.move (.tmp 0),none⟩,
  ⟨some 14,.call { callee:=.builtin .len,args:=#[.tmp 13],argTypes:=#[27] },none⟩,
  ⟨some 15,.binOp .lss 3 (.tmp 12) (.tmp 14) 3,none⟩]
@[reducible] def q77_7:SCode:=.region [⟨some 18,.move (.tmp 3),none⟩,
  ⟨some 19,.move (.tmp 0),none⟩,
  ⟨some 20,.move (.tmp 4),none⟩,
  ⟨some 21,.indexAddr 27 (.tmp 19) (.tmp 20),none⟩,
  ⟨some 22,.load 3 (.tmp 21),none⟩,
  ⟨some 23,.call { callee:=.builtin .min,args:=#[.tmp 18,.tmp 22],argTypes:=#[3,3] },none⟩,
  ⟨some 3,.assign (.tmp 23),none⟩]
@[reducible] def q77_6:SCode:=.region [⟨some 16,.move (.tmp 4),none⟩,
  ⟨some 17,.binOp .add 3 (.tmp 16) (.const (.int .i64 1)) 3,none⟩,
  ⟨some 4,.assign (.tmp 17),none⟩]
def l77_0:SCode:=(.seq (.seq q77_5 (.cond (.tmp 15) .skip (.exit 0))) (.seq (.block 1 q77_7) q77_6))
@[reducible] def q77_8:SCode:=.region [⟨some 24,.move (.tmp 3),none⟩,
  ⟨some 2,.assign (.tmp 24),none⟩]
def s77:SCode:=(.seq q77_0 (.seq (.seq q77_1 (.cond (.tmp 7) q77_2 .skip)) (.seq q77_3 (.seq (.seq q77_4 (.block 0 (.loop l77_0))) (.seq q77_8 .ret)))))
theorem s77_strip:Yd (Zw Tryd.f77)=s77:=by kernel_rfl
theorem s77_ok:Yl 25 (Zw Tryd.f77)=true:=by kernel_rfl
/-! 78: slices.Max[[]int,int] -/
@[reducible] def q78_0:SCode:=.region [⟨some 2,.assign (.const (.int .i64 0)),none⟩]
@[reducible] def q78_1:SCode:=.region [⟨some 5,.move (.tmp 0),none⟩,
  ⟨some 6,.call { callee:=.builtin .len,args:=#[.tmp 5],argTypes:=#[27] },none⟩,
  ⟨some 7,.binOp .lss 3 (.tmp 6) (.const (.int .i64 1)) 3,none⟩]
@[reducible] def q78_2:SCode:=.region [⟨some 8,.makeInterface 9 (.const (.string { data:=#[115,108,105,99,101,115,46,77,97,120,58,32,101,109,112,116,121,32,108,105,115,116] })),none⟩,
  ⟨none,.panic (.tmp 8),none⟩]
@[reducible] def q78_3:SCode:=.region [⟨some 9,.move (.tmp 0),none⟩,
  ⟨some 10,.indexAddr 27 (.tmp 9) (.const (.int .i64 0)),none⟩,
  ⟨some 11,.load 3 (.tmp 10),none⟩,
  ⟨some 3,.assign (.tmp 11),none⟩]
@[reducible] def q78_4:SCode:=.region [⟨some 4,.assign (.const (.int .i64 1)),none⟩]
@[reducible] def q78_5:SCode:=.region [⟨some 12,.move (.tmp 4),none⟩,
  ⟨some 13,.move (.tmp 0),none⟩,
  ⟨some 14,.call { callee:=.builtin .len,args:=#[.tmp 13],argTypes:=#[27] },none⟩,
  ⟨some 15,.binOp .lss 3 (.tmp 12) (.tmp 14) 3,none⟩]
@[reducible] def q78_7:SCode:=.region [⟨some 18,.move (.tmp 3),none⟩,
  ⟨some 19,.move (.tmp 0),none⟩,
  ⟨some 20,.move (.tmp 4),none⟩,
  ⟨some 21,.indexAddr 27 (.tmp 19) (.tmp 20),none⟩,
  ⟨some 22,.load 3 (.tmp 21),none⟩,
  ⟨some 23,.call { callee:=.builtin .max,args:=#[.tmp 18,.tmp 22],argTypes:=#[3,3] },none⟩,
  ⟨some 3,.assign (.tmp 23),none⟩]
@[reducible] def q78_6:SCode:=.region [⟨some 16,.move (.tmp 4),none⟩,
  ⟨some 17,.binOp .add 3 (.tmp 16) (.const (.int .i64 1)) 3,none⟩,
  ⟨some 4,.assign (.tmp 17),none⟩]
def l78_0:SCode:=(.seq (.seq q78_5 (.cond (.tmp 15) .skip (.exit 0))) (.seq (.block 1 q78_7) q78_6))
@[reducible] def q78_8:SCode:=.region [⟨some 24,.move (.tmp 3),none⟩,
  ⟨some 2,.assign (.tmp 24),none⟩]
def s78:SCode:=(.seq q78_0 (.seq (.seq q78_1 (.cond (.tmp 7) q78_2 .skip)) (.seq q78_3 (.seq (.seq q78_4 (.block 0 (.loop l78_0))) (.seq q78_8 .ret)))))
theorem s78_strip:Yd (Zw Tryd.f78)=s78:=by kernel_rfl
theorem s78_ok:Yl 25 (Zw Tryd.f78)=true:=by kernel_rfl
end Go.Proofs.Tryd.Am
namespace Go.Proofs.Tryd.Am
open Go.Am
set_option maxRecDepth 100000
/-! 100: planchet order.elements -/
@[reducible] def q100_0:SCode:=.region [⟨some 1,.box 3 (.tmp 0),none⟩,
  ⟨some 2,.assign (.const .nilFunc),none⟩]
@[reducible] def q100_1:SCode:=.region [⟨some 3,.makeFunc (.func 136) #[] #[.tmp 1],none⟩,
  ⟨some 2,.assign (.tmp 3),none⟩]
def s100:SCode:=(.seq q100_0 (.seq q100_1 .ret))
theorem s100_strip:Yd (Zw Tryd.f100)=s100:=by kernel_rfl
theorem s100_ok:Yl 4 (Zw Tryd.f100)=true:=by kernel_rfl
theorem s100_call [Tabs Tryd.prog] {args:List Value} {h:Zh} {Q:Value→Zh→Prop} (hsz:args.length≤4) (hk:aw Tryd.prog 4 s100 (Zs Tryd.prog [.tmp 2] Q) (Zp 0 args) h):ACall Tryd.prog 100 args h Q :=
 Wq Tryd.func100 rfl (enters_of Tryd.func100 (by kernel_rfl) rfl) rfl rfl (by decide) s100_strip s100_ok hsz hk
/-! 103: (planchet order.order).all -/
@[reducible] def q103_0:SCode:=.region [⟨some 1,.box 97 (.tmp 0),none⟩,
  ⟨some 2,.assign (.const (.int .i64 0)),none⟩]
@[reducible] def q103_1:SCode:=.region [⟨some 3,.fieldAddr 97 (.tmp 1) 0,none⟩,
  ⟨some 4,.load 3 (.tmp 3),none⟩,
  ⟨some 5,.binOp .shl 3 (.const (.int .i64 1)) (.tmp 4) 3,none⟩,
  ⟨some 6,.binOp .sub 3 (.tmp 5) (.const (.int .i64 1)) 3,none⟩,
  ⟨some 2,.assign (.tmp 6),none⟩]
def s103:SCode:=(.seq q103_0 (.seq q103_1 .ret))
theorem s103_strip:Yd (Zw Tryd.f103)=s103:=by kernel_rfl
theorem s103_ok:Yl 7 (Zw Tryd.f103)=true:=by kernel_rfl
theorem s103_call [Tabs Tryd.prog] {args:List Value} {h:Zh} {Q:Value→Zh→Prop} (hsz:args.length≤7) (hk:aw Tryd.prog 7 s103 (Zs Tryd.prog [.tmp 2] Q) (Zp 0 args) h):ACall Tryd.prog 103 args h Q :=
 Wq Tryd.func103 rfl (enters_of Tryd.func103 (by kernel_rfl) rfl) rfl rfl (by decide) s103_strip s103_ok hsz hk
/-! 104: (planchet order.order).below -/
@[reducible] def q104_0:SCode:=.region [⟨some 2,.box 97 (.tmp 0),none⟩,
  ⟨some 4,.assign (.const (.int .i64 0)),none⟩]
@[reducible] def q104_1:SCode:=.region [⟨some 5,.assign (.const (.int .i64 0)),none⟩]
@[reducible] def q104_2:SCode:=.region [⟨some 7,.fieldAddr 97 (.tmp 2) 0,none⟩,
  ⟨some 8,.load 3 (.tmp 7),none⟩,
  ⟨some 9,.move (.const (.int .i64 0)),none⟩]
@[reducible] def q104_3:SCode:=.region [⟨some 10,.binOp .lss 3 (.tmp 9) (.tmp 8) 3,none⟩]
@[reducible] def q104_4:SCode:=.region [⟨some 11,.move (.tmp 9),none⟩,
  ⟨some 6,.assign (.tmp 11),none⟩]
@[reducible] def q104_5:SCode:=.region [⟨some 12,.move (.tmp 5),none⟩,
  ⟨some 13,.move (.tmp 6),none⟩,
  ⟨some 14,.fieldAddr 97 (.tmp 2) 1,none⟩,
  ⟨some 15,.indexAddr 95 (.tmp 14) (.tmp 13),none⟩,
  ⟨some 16,.load 3 (.tmp 15),none⟩,
  ⟨some 17,.move (.tmp 1),none⟩,
  ⟨some 18,.binOp .shr 3 (.tmp 16) (.tmp 17) 3,none⟩,
  ⟨some 19,.binOp .and 3 (.tmp 18) (.const (.int .i64 1)) 3,none⟩,
  ⟨some 20,.move (.tmp 6),none⟩,
  ⟨some 21,.binOp .shl 3 (.tmp 19) (.tmp 20) 3,none⟩,
  ⟨some 22,.binOp .or 3 (.tmp 12) (.tmp 21) 3,none⟩,
  ⟨some 5,.assign (.tmp 22),none⟩]
@[reducible] def q104_6:SCode:=.region [⟨some 23,.binOp .add 3 (.tmp 9) (.const (.int .i64 1)) 3,none⟩,
  ⟨some 9,.move (.tmp 23),none⟩]
def l104_0:SCode:=(.seq q104_3 (.seq (.cond (.tmp 10) .skip (.exit 0)) (.seq (.block 1 (.seq q104_4 q104_5)) q104_6)))
@[reducible] def q104_7:SCode:=.region [⟨some 24,.move (.tmp 5),none⟩,
  ⟨some 4,.assign (.tmp 24),none⟩]
def s104:SCode:=(.seq q104_0 (.seq q104_1 (.seq (.seq q104_2 (.block 0 (.loop l104_0))) (.seq q104_7 .ret))))
theorem s104_strip:Yd (Zw Tryd.f104)=s104:=by kernel_rfl
theorem s104_ok:Yl 25 (Zw Tryd.f104)=true:=by kernel_rfl
theorem s104_call [Tabs Tryd.prog] {args:List Value} {h:Zh} {Q:Value→Zh→Prop} (hsz:args.length≤25) (hk:aw Tryd.prog 25 s104 (Zs Tryd.prog [.tmp 4] Q) (Zp 0 args) h):ACall Tryd.prog 104 args h Q :=
 Wq Tryd.func104 rfl (enters_of Tryd.func104 (by kernel_rfl) rfl) rfl rfl (by decide) s104_strip s104_ok hsz hk
/-! 108: (planchet order.order).lines$1 -/
@[reducible] def q108_0:SCode:=.region [⟨some 5,.box 3 (.tmp 0),none⟩]
@[reducible] def q108_1:SCode:=.region [⟨some 7,.load 3 (.tmp 5),none⟩,
  ⟨some 8,.binOp .eql 3 (.tmp 7) (.const (.int .i64 0)) 3,none⟩]
def q108_2:SCode:=.draw [⟨some 9,.load 22 (.tmp 1),none⟩,
    ⟨some 10,.load 27 (.tmp 2),none⟩,
    ⟨some 11,.call { callee:=.value (.func 13),args:=#[.tmp 10],argTypes:=#[27] },none⟩,
    ⟨some 12,.buildSlice 22 1 #[(0,.tmp 11)],none⟩,
    ⟨some 13,.call { callee:=.builtin .append,args:=#[.tmp 9,.tmp 12],argTypes:=#[22,22] },none⟩,
    ⟨none,.store 22 (.tmp 1) (.tmp 13),none⟩]
  [[],[],[1],[2],[0,3,2],[4,4,0,1,2,3,4]]
@[reducible] def q108_3:SCode:=.region [⟨some 14,.load 3 (.tmp 5),none⟩,
  ⟨some 15,.call { callee:=.value (.func 100),args:=#[.tmp 14],argTypes:=#[3] },none⟩]
@[reducible] def q108_4:SCode:=.region [⟨some 6,.assign (.tmp 16),none⟩]
def q108_5:SCode:=.draw [⟨some 17,.load 97 (.tmp 3),none⟩,
    ⟨some 18,.move (.tmp 6),none⟩,
    ⟨some 19,.call { callee:=.value (.func 104),args:=#[.tmp 17,.tmp 18],argTypes:=#[97,3] },none⟩,
    ⟨some 20,.load 3 (.tmp 5),none⟩,
    ⟨some 21,.binOp .and 3 (.tmp 19) (.tmp 20) 3,none⟩,
    ⟨some 22,.binOp .eql 3 (.tmp 21) (.const (.int .i64 0)) 3,none⟩]
  [[],[],[0,1],[],[2,3],[4]]
@[reducible] def q108_6:SCode:=.region [⟨some 23,.load 27 (.tmp 2),none⟩,
  ⟨some 24,.move (.tmp 6),none⟩,
  ⟨some 25,.buildSlice 27 1 #[(0,.tmp 24)],none⟩,
  ⟨some 26,.call { callee:=.builtin .append,args:=#[.tmp 23,.tmp 25],argTypes:=#[27,27] },none⟩,
  ⟨none,.store 27 (.tmp 2) (.tmp 26),none⟩]
def q108_7:SCode:=.draw [⟨some 27,.load 72 (.tmp 4),none⟩,
    ⟨some 28,.load 3 (.tmp 5),none⟩,
    ⟨some 29,.move (.tmp 6),none⟩,
    ⟨some 30,.binOp .shl 3 (.const (.int .i64 1)) (.tmp 29) 3,none⟩,
    ⟨some 31,.binOp .andNot 3 (.tmp 28) (.tmp 30) 3,none⟩,
    ⟨some 32,.call { callee:=.value (.tmp 27),args:=#[.tmp 31],argTypes:=#[3] },none⟩]
  [[],[],[],[2],[1,3],[0,4]]
@[reducible] def q108_8:SCode:=.region [⟨some 33,.load 27 (.tmp 2),none⟩,
  ⟨some 34,.load 27 (.tmp 2),none⟩,
  ⟨some 35,.call { callee:=.builtin .len,args:=#[.tmp 34],argTypes:=#[27] },none⟩,
  ⟨some 36,.binOp .sub 3 (.tmp 35) (.const (.int .i64 1)) 3,none⟩,
  ⟨some 37,.slice 27 (.tmp 33) none (some (.tmp 36)) none,none⟩,
  ⟨none,.store 27 (.tmp 2) (.tmp 37),none⟩]
def r108_0_a:SCode:=q108_4
def r108_0_b:SCode:=(.block 1 (.seq q108_5 (.cond (.tmp 22) (.seq q108_6 (.seq q108_7 q108_8)) .skip)))
def s108:SCode:=(.seq q108_0 (.seq (.seq q108_1 (.cond (.tmp 8) q108_2 .skip)) (.seq q108_3 (.block 0 (.range (.tmp 15) [16] r108_0_a r108_0_b)))))
theorem s108_strip:Yd (Zw Tryd.f108)=s108:=by kernel_rfl
theorem s108_ok:Yl 38 (Zw Tryd.f108)=true:=by kernel_rfl
theorem s108_call [Tabs Tryd.prog] {args:List Value} {h:Zh} {Q:Value→Zh→Prop} (hsz:args.length≤38) (hk:aw Tryd.prog 38 s108 (Zs Tryd.prog [] Q) (Zp 0 args) h):ACall Tryd.prog 108 args h Q :=
 Wq Tryd.func108 rfl (enters_of Tryd.func108 (by kernel_rfl) rfl) rfl rfl (by decide) s108_strip s108_ok hsz hk
/-! 109: (planchet order.order).free -/
@[reducible] def q109_0:SCode:=.region [⟨some 3,.box 97 (.tmp 0),none⟩,
  ⟨some 6,.assign (.const (.bool false)),none⟩]
@[reducible] def q109_1:SCode:=.region [⟨some 7,.move (.tmp 1),none⟩,
  ⟨some 8,.move (.tmp 2),none⟩,
  ⟨some 9,.binOp .neq 3 (.tmp 7) (.tmp 8) 3,none⟩,
  ⟨some 10,.move (.tmp 9),none⟩,
  ⟨some 11,.move (.tmp 1),some (10,true)⟩,
  ⟨some 12,.fieldAddr 97 (.tmp 3) 1,some (10,true)⟩,
  ⟨some 13,.indexAddr 95 (.tmp 12) (.tmp 11),some (10,true)⟩,
  ⟨some 14,.load 3 (.tmp 13),some (10,true)⟩,
  ⟨some 15,.move (.tmp 2),some (10,true)⟩,
  ⟨some 16,.binOp .shr 3 (.tmp 14) (.tmp 15) 3,some (10,true)⟩,
  ⟨some 17,.binOp .and 3 (.tmp 16) (.const (.int .i64 1)) 3,some (10,true)⟩,
  ⟨some 18,.binOp .eql 3 (.tmp 17) (.const (.int .i64 0)) 3,some (10,true)⟩,
  ⟨some 19,.pick (.tmp 10) (.tmp 18) (.const (.bool false)),none⟩,
  ⟨some 20,.move (.tmp 19),none⟩,
  ⟨some 21,.move (.tmp 2),some (20,true)⟩,
  ⟨some 22,.fieldAddr 97 (.tmp 3) 1,some (20,true)⟩,
  ⟨some 23,.indexAddr 95 (.tmp 22) (.tmp 21),some (20,true)⟩,
  ⟨some 24,.load 3 (.tmp 23),some (20,true)⟩,
  ⟨some 25,.move (.tmp 1),some (20,true)⟩,
  ⟨some 26,.binOp .shr 3 (.tmp 24) (.tmp 25) 3,some (20,true)⟩,
  ⟨some 27,.binOp .and 3 (.tmp 26) (.const (.int .i64 1)) 3,some (20,true)⟩,
  ⟨some 28,.binOp .eql 3 (.tmp 27) (.const (.int .i64 0)) 3,some (20,true)⟩,
  ⟨some 29,.pick (.tmp 20) (.tmp 28) (.const (.bool false)),none⟩,
  ⟨some 6,.assign (.tmp 29),none⟩]
def s109:SCode:=(.seq q109_0 (.seq q109_1 .ret))
theorem s109_strip:Yd (Zw Tryd.f109)=s109:=by kernel_rfl
theorem s109_ok:Yl 30 (Zw Tryd.f109)=true:=by kernel_rfl
theorem s109_call [Tabs Tryd.prog] {args:List Value} {h:Zh} {Q:Value→Zh→Prop} (hsz:args.length≤30) (hk:aw Tryd.prog 30 s109 (Zs Tryd.prog [.tmp 6] Q) (Zp 0 args) h):ACall Tryd.prog 109 args h Q :=
 Wq Tryd.func109 rfl (enters_of Tryd.func109 (by kernel_rfl) rfl) rfl rfl (by decide) s109_strip s109_ok hsz hk
/-! 110: (planchet order.order).add -/
@[reducible] def q110_0:SCode:=.region [⟨some 3,.box 97 (.tmp 0),none⟩,
  ⟨some 6,.alloc 97,none⟩]
def q110_1:SCode:=.draw [⟨some 9,.move (.tmp 2),none⟩,
    ⟨some 10,.fieldAddr 97 (.tmp 3) 1,none⟩,
    ⟨some 11,.indexAddr 95 (.tmp 10) (.tmp 9),none⟩,
    ⟨some 12,.load 3 (.tmp 11),none⟩,
    ⟨some 13,.move (.tmp 2),none⟩,
    ⟨some 14,.binOp .shl 3 (.const (.int .i64 1)) (.tmp 13) 3,none⟩,
    ⟨some 15,.binOp .or 3 (.tmp 12) (.tmp 14) 3,none⟩,
    ⟨some 7,.alloc 3,none⟩,
    ⟨none,.store 3 (.tmp 7) (.tmp 15),none⟩]
  [[],[],[1,0],[2],[],[4],[3,5],[],[7,6,0,1,2,3,4,5,6,7]]
def q110_2:SCode:=.draw [⟨some 16,.load 97 (.tmp 3),none⟩,
    ⟨some 17,.move (.tmp 1),none⟩,
    ⟨some 18,.call { callee:=.value (.func 104),args:=#[.tmp 16,.tmp 17],argTypes:=#[97,3] },none⟩,
    ⟨some 19,.move (.tmp 1),none⟩,
    ⟨some 20,.binOp .shl 3 (.const (.int .i64 1)) (.tmp 19) 3,none⟩,
    ⟨some 21,.binOp .or 3 (.tmp 18) (.tmp 20) 3,none⟩,
    ⟨some 22,.call { callee:=.value (.func 100),args:=#[.tmp 21],argTypes:=#[3] },none⟩]
  [[],[],[0,1],[],[3],[2,4],[5,2]]
@[reducible] def q110_3:SCode:=.region [⟨some 8,.assign (.tmp 23),none⟩]
def q110_4:SCode:=.draw [⟨some 24,.move (.tmp 8),none⟩,
    ⟨some 25,.fieldAddr 97 (.tmp 3) 1,none⟩,
    ⟨some 26,.indexAddr 95 (.tmp 25) (.tmp 24),none⟩,
    ⟨some 27,.load 3 (.tmp 26),none⟩,
    ⟨some 28,.load 3 (.tmp 7),none⟩,
    ⟨some 29,.binOp .or 3 (.tmp 27) (.tmp 28) 3,none⟩,
    ⟨some 30,.fieldAddr 97 (.tmp 3) 1,none⟩,
    ⟨some 31,.indexAddr 95 (.tmp 30) (.tmp 24),none⟩,
    ⟨none,.store 3 (.tmp 31) (.tmp 29),none⟩]
  [[],[],[1,0],[2],[],[3,4],[],[6,0,0,1,2,3,4,5],[7,5,0,1,2,3,4,5]]
def r110_0_a:SCode:=q110_3
def r110_0_b:SCode:=(.block 1 q110_4)
@[reducible] def q110_5:SCode:=.region [⟨some 32,.load 97 (.tmp 3),none⟩,
  ⟨none,.store 97 (.tmp 6) (.tmp 32),none⟩]
def s110:SCode:=(.seq q110_0 (.seq q110_1 (.seq (.seq q110_2 (.block 0 (.range (.tmp 22) [23] r110_0_a r110_0_b))) (.seq q110_5 .ret))))
theorem s110_strip:Yd (Zw Tryd.f110)=s110:=by kernel_rfl
theorem s110_ok:Yl 33 (Zw Tryd.f110)=true:=by kernel_rfl
theorem s110_call [Tabs Tryd.prog] {args:List Value} {h:Zh} {Q:Value→Zh→Prop} (hsz:args.length≤33) (hk:aw Tryd.prog 33 s110 (Zs Tryd.prog [.cell 6 97] Q) (Zp 0 args) h):ACall Tryd.prog 110 args h Q :=
 Wq Tryd.func110 rfl (enters_of Tryd.func110 (by kernel_rfl) rfl) rfl rfl (by decide) s110_strip s110_ok hsz hk
end Go.Proofs.Tryd.Am
namespace Go.Proofs.Tryd.Am
open Go.Am
set_option maxRecDepth 100000
/-! 5: planchet planchettop.TopLines -/
@[reducible] def q5_0:SCode:=.region [⟨some 6,.assign (.const (.bool false)),none⟩]
@[reducible] def q5_1:SCode:=.region [⟨some 27,.move (.tmp 0),none⟩,
  ⟨some 28,.call { callee:=.value (.func 16),args:=#[.tmp 27],argTypes:=#[27] },none⟩,
  ⟨some 29,.unOp .not 4 (.tmp 28),none⟩]
@[reducible] def q5_2:SCode:=.region [⟨some 30,.call { callee:=.value (.func 21),args:=#[],argTypes:=#[] },none⟩,
  ⟨some 6,.assign (.tmp 30),none⟩]
@[reducible] def q5_3:SCode:=.region [⟨some 32,.move (.tmp 0),none⟩,
  ⟨some 33,.call { callee:=.value (.func 13),args:=#[.tmp 32],argTypes:=#[27] },none⟩,
  ⟨some 34,.call { callee:=.value (.func 22),args:=#[.tmp 33],argTypes:=#[27] },none⟩,
  ⟨some 31,.move (.tmp 34),none⟩,
  ⟨some 35,.extract (.tmp 31) 0,none⟩,
  ⟨some 36,.extract (.tmp 31) 1,none⟩,
  ⟨some 7,.assign (.tmp 35),none⟩,
  ⟨some 8,.assign (.tmp 36),none⟩]
@[reducible] def q5_4:SCode:=.region [⟨some 37,.move (.tmp 8),none⟩,
  ⟨some 38,.binOp .neq 29 (.tmp 37) (.const (.int .i64 0)) 29,none⟩]
@[reducible] def q5_5:SCode:=.region [⟨some 6,.assign (.const (.bool false)),none⟩]
@[reducible] def q5_6:SCode:=.region [⟨some 39,.move (.tmp 7),none⟩,
  ⟨some 40,.call { callee:=.builtin .len,args:=#[.tmp 39],argTypes:=#[22] },none⟩,
  ⟨some 9,.assign (.tmp 40),none⟩]
@[reducible] def q5_7:SCode:=.region [⟨some 41,.move (.tmp 9),none⟩,
  ⟨some 42,.binOp .lss 3 (.tmp 41) (.const (.int .i64 2)) 3,none⟩,
  ⟨some 43,.move (.tmp 42),none⟩,
  ⟨some 44,.move (.tmp 9),some (43,false)⟩,
  ⟨some 45,.binOp .gtr 3 (.tmp 44) (.const (.int .i64 4)) 3,some (43,false)⟩,
  ⟨some 46,.pick (.tmp 43) (.const (.bool true)) (.tmp 45),none⟩]
@[reducible] def q5_8:SCode:=.region [⟨some 47,.call { callee:=.value (.func 21),args:=#[],argTypes:=#[] },none⟩,
  ⟨some 6,.assign (.tmp 47),none⟩]
@[reducible] def q5_9:SCode:=.region [⟨some 48,.move (.tmp 9),none⟩,
  ⟨some 49,.makeSlice 43 (.tmp 48) (.tmp 48),none⟩,
  ⟨some 10,.assign (.tmp 49),none⟩]
@[reducible] def q5_10:SCode:=.region [⟨some 50,.move (.tmp 10),none⟩,
  ⟨some 51,.call { callee:=.builtin .len,args:=#[.tmp 50],argTypes:=#[43] },none⟩,
  ⟨some 52,.move (.const (.int .i64 0)),none⟩]
@[reducible] def q5_11:SCode:=.region [⟨some 53,.binOp .lss 3 (.tmp 52) (.tmp 51) 3,none⟩]
@[reducible] def q5_12:SCode:=.region [⟨some 54,.move (.tmp 52),none⟩,
  ⟨some 11,.assign (.tmp 54),none⟩]
@[reducible] def q5_13:SCode:=.region [⟨some 55,.move (.tmp 10),none⟩,
  ⟨some 56,.move (.tmp 11),none⟩,
  ⟨some 57,.move (.tmp 9),none⟩,
  ⟨some 58,.build 45 #[(0,.const (.int .i64 1)),(1,.tmp 57)],none⟩,
  ⟨some 59,.indexAddr 43 (.tmp 55) (.tmp 56),none⟩,
  ⟨none,.store 45 (.tmp 59) (.tmp 58),none⟩]
@[reducible] def q5_14:SCode:=.region [⟨some 60,.binOp .add 3 (.tmp 52) (.const (.int .i64 1)) 3,none⟩,
  ⟨some 52,.move (.tmp 60),none⟩]
def l5_0:SCode:=(.seq q5_11 (.seq (.cond (.tmp 53) .skip (.exit 0)) (.seq (.block 1 (.seq q5_12 q5_13)) q5_14)))
@[reducible] def q5_15:SCode:=.region [⟨some 12,.assign (.const (.slice none 0 0)),none⟩]
@[reducible] def q5_16:SCode:=.region [⟨some 61,.move (.tmp 0),none⟩,
  ⟨some 62,.call { callee:=.builtin .len,args:=#[.tmp 61],argTypes:=#[27] },none⟩,
  ⟨some 63,.move (.const (.int .i64 0)),none⟩]
@[reducible] def q5_17:SCode:=.region [⟨some 64,.binOp .lss 3 (.tmp 63) (.tmp 62) 3,none⟩]
@[reducible] def q5_18:SCode:=.region [⟨some 65,.move (.tmp 63),none⟩,
  ⟨some 13,.assign (.tmp 65),none⟩]
@[reducible] def q5_19:SCode:=.region [⟨some 66,.move (.tmp 0),none⟩,
  ⟨some 67,.call { callee:=.builtin .len,args:=#[.tmp 66],argTypes:=#[27] },none⟩,
  ⟨some 68,.move (.const (.int .i64 0)),none⟩]
@[reducible] def q5_20:SCode:=.region [⟨some 69,.binOp .lss 3 (.tmp 68) (.tmp 67) 3,none⟩]
@[reducible] def q5_21:SCode:=.region [⟨some 70,.move (.tmp 68),none⟩,
  ⟨some 14,.assign (.tmp 70),none⟩]
@[reducible] def q5_22:SCode:=.region [⟨some 71,.move (.tmp 0),none⟩,
  ⟨some 72,.move (.tmp 13),none⟩,
  ⟨some 73,.move (.tmp 14),none⟩,
  ⟨some 74,.call { callee:=.value (.func 19),args:=#[.tmp 71,.tmp 72,.tmp 73],argTypes:=#[27,3,3] },none⟩,
  ⟨some 75,.unOp .not 4 (.tmp 74),none⟩]
@[reducible] def q5_23:SCode:=.region [⟨some 15,.alloc 3,none⟩,
  ⟨none,.store 3 (.tmp 15) (.const (.int .i64 0)),none⟩]
@[reducible] def q5_24:SCode:=.region [⟨some 76,.move (.tmp 7),none⟩,
  ⟨some 77,.call { callee:=.builtin .len,args:=#[.tmp 76],argTypes:=#[22] },none⟩,
  ⟨some 78,.move (.const (.int .i64 0)),none⟩]
@[reducible] def q5_25:SCode:=.region [⟨some 79,.binOp .lss 3 (.tmp 78) (.tmp 77) 3,none⟩]
@[reducible] def q5_26:SCode:=.region [⟨some 80,.move (.tmp 78),none⟩,
  ⟨some 81,.indexAddr 22 (.tmp 76) (.tmp 78),none⟩,
  ⟨some 82,.load 27 (.tmp 81),none⟩,
  ⟨some 16,.assign (.tmp 80),none⟩,
  ⟨some 17,.assign (.tmp 82),none⟩]
@[reducible] def q5_27:SCode:=.region [⟨some 83,.move (.tmp 17),none⟩,
  ⟨some 84,.move (.tmp 13),none⟩,
  ⟨some 85,.call { callee:=.value (.func 23),args:=#[.tmp 83,.tmp 84],argTypes:=#[27,3] },none⟩,
  ⟨some 86,.move (.tmp 17),none⟩,
  ⟨some 87,.move (.tmp 14),none⟩,
  ⟨some 88,.call { callee:=.value (.func 23),args:=#[.tmp 86,.tmp 87],argTypes:=#[27,3] },none⟩,
  ⟨some 89,.binOp .lss 3 (.tmp 85) (.tmp 88) 3,none⟩]
def q5_28:SCode:=.draw [⟨some 90,.load 3 (.tmp 15),none⟩,
    ⟨some 91,.move (.tmp 16),none⟩,
    ⟨some 92,.binOp .shl 3 (.const (.int .i64 1)) (.tmp 91) 3,none⟩,
    ⟨some 93,.binOp .or 3 (.tmp 90) (.tmp 92) 3,none⟩,
    ⟨none,.store 3 (.tmp 15) (.tmp 93),none⟩]
  [[],[],[1],[0,2],[3,0,1,2,3]]
@[reducible] def q5_29:SCode:=.region [⟨some 94,.binOp .add 3 (.tmp 78) (.const (.int .i64 1)) 3,none⟩,
  ⟨some 78,.move (.tmp 94),none⟩]
def l5_1:SCode:=(.seq q5_25 (.seq (.cond (.tmp 79) .skip (.exit 6)) (.seq (.block 7 (.seq q5_26 (.seq q5_27 (.cond (.tmp 89) q5_28 .skip)))) q5_29)))
@[reducible] def q5_30:SCode:=.region [⟨some 96,.move (.tmp 0),none⟩,
  ⟨some 97,.call { callee:=.value (.func 13),args:=#[.tmp 96],argTypes:=#[27] },none⟩,
  ⟨some 98,.move (.tmp 13),none⟩,
  ⟨some 99,.move (.tmp 14),none⟩,
  ⟨some 100,.call { callee:=.value (.func 24),args:=#[.tmp 97,.tmp 98,.tmp 99],argTypes:=#[27,3,3] },none⟩,
  ⟨some 95,.move (.tmp 100),none⟩,
  ⟨some 101,.extract (.tmp 95) 0,none⟩,
  ⟨some 102,.extract (.tmp 95) 1,none⟩,
  ⟨some 18,.alloc 45,none⟩,
  ⟨none,.store 45 (.tmp 18) (.tmp 101),none⟩,
  ⟨some 19,.assign (.tmp 102),none⟩]
@[reducible] def q5_31:SCode:=.region [⟨some 103,.move (.tmp 19),none⟩,
  ⟨some 104,.binOp .neq 29 (.tmp 103) (.const (.int .i64 0)) 29,none⟩,
  ⟨some 105,.move (.tmp 104),none⟩,
  ⟨some 106,.fieldAddr 45 (.tmp 18) 1,some (105,false)⟩,
  ⟨some 107,.load 3 (.tmp 106),some (105,false)⟩,
  ⟨some 108,.binOp .lss 3 (.tmp 107) (.const (.int .i64 1)) 3,some (105,false)⟩,
  ⟨some 109,.pick (.tmp 105) (.const (.bool true)) (.tmp 108),none⟩,
  ⟨some 110,.move (.tmp 109),none⟩,
  ⟨some 111,.fieldAddr 45 (.tmp 18) 1,some (110,false)⟩,
  ⟨some 112,.load 3 (.tmp 111),some (110,false)⟩,
  ⟨some 113,.binOp .rem 3 (.const (.int .i64 12)) (.tmp 112) 3,some (110,false)⟩,
  ⟨some 114,.binOp .neq 3 (.tmp 113) (.const (.int .i64 0)) 3,some (110,false)⟩,
  ⟨some 115,.pick (.tmp 110) (.const (.bool true)) (.tmp 114),none⟩]
@[reducible] def q5_32:SCode:=.region [⟨some 6,.assign (.const (.bool false)),none⟩]
def q5_33:SCode:=.draw [⟨some 116,.load 3 (.tmp 15),none⟩,
    ⟨some 117,.fieldAddr 45 (.tmp 18) 1,none⟩,
    ⟨some 118,.load 3 (.tmp 117),none⟩,
    ⟨some 119,.binOp .quo 3 (.const (.int .i64 12)) (.tmp 118) 3,none⟩,
    ⟨some 120,.fieldAddr 45 (.tmp 18) 0,none⟩,
    ⟨some 121,.load 3 (.tmp 120),none⟩,
    ⟨some 122,.binOp .mul 3 (.tmp 119) (.tmp 121) 3,none⟩,
    ⟨some 123,.build 51 #[(0,.tmp 116),(1,.tmp 122)],none⟩,
    ⟨some 20,.alloc 51,none⟩,
    ⟨none,.store 51 (.tmp 20) (.tmp 123),none⟩]
  [[],[],[1],[2],[],[4],[3,5],[0,6],[],[8,7,0,1,2,3,4,5,6,7,8]]
@[reducible] def q5_34:SCode:=.region [⟨some 124,.move (.tmp 12),none⟩,
  ⟨some 125,.makeFunc (.func 26) #[] #[.tmp 15],none⟩,
  ⟨some 126,.call { callee:=.value (.func 25),args:=#[.tmp 124,.tmp 125],argTypes:=#[46,53] },none⟩,
  ⟨some 127,.unOp .not 4 (.tmp 126),none⟩,
  ⟨some 128,.move (.tmp 127),none⟩,
  ⟨some 129,.move (.tmp 12),some (128,true)⟩,
  ⟨some 130,.call { callee:=.builtin .len,args:=#[.tmp 129],argTypes:=#[46] },some (128,true)⟩,
  ⟨some 131,.binOp .lss 3 (.tmp 130) (.const (.int .i64 6)) 3,some (128,true)⟩,
  ⟨some 132,.pick (.tmp 128) (.tmp 131) (.const (.bool false)),none⟩]
@[reducible] def q5_35:SCode:=.region [⟨some 133,.move (.tmp 12),none⟩,
  ⟨some 134,.load 51 (.tmp 20),none⟩,
  ⟨some 135,.buildSlice 46 1 #[(0,.tmp 134)],none⟩,
  ⟨some 136,.call { callee:=.builtin .append,args:=#[.tmp 133,.tmp 135],argTypes:=#[46,46] },none⟩,
  ⟨some 12,.assign (.tmp 136),none⟩]
@[reducible] def q5_36:SCode:=.region [⟨some 137,.binOp .add 3 (.tmp 68) (.const (.int .i64 1)) 3,none⟩,
  ⟨some 68,.move (.tmp 137),none⟩]
def l5_2:SCode:=(.seq q5_20 (.seq (.cond (.tmp 69) .skip (.exit 4)) (.seq (.block 5 (.seq q5_21 (.seq (.seq q5_22 (.cond (.tmp 75) (.exit 5) .skip)) (.seq q5_23 (.seq (.seq q5_24 (.block 6 (.loop l5_1))) (.seq q5_30 (.seq (.seq q5_31 (.cond (.tmp 115) (.seq q5_32 .ret) .skip)) (.seq q5_33 (.seq q5_34 (.cond (.tmp 132) q5_35 .skip)))))))))) q5_36)))
@[reducible] def q5_37:SCode:=.region [⟨some 138,.binOp .add 3 (.tmp 63) (.const (.int .i64 1)) 3,none⟩,
  ⟨some 63,.move (.tmp 138),none⟩]
def l5_3:SCode:=(.seq q5_17 (.seq (.cond (.tmp 64) .skip (.exit 2)) (.seq (.block 3 (.seq q5_18 (.seq q5_19 (.block 4 (.loop l5_2))))) q5_37)))
@[reducible] def q5_38:SCode:=.region [⟨some 139,.move (.tmp 12),none⟩,
  ⟨some 140,.call { callee:=.builtin .len,args:=#[.tmp 139],argTypes:=#[46] },none⟩,
  ⟨some 141,.binOp .eql 3 (.tmp 140) (.const (.int .i64 0)) 3,none⟩]
@[reducible] def q5_39:SCode:=.region [⟨some 6,.assign (.const (.bool false)),none⟩]
@[reducible] def q5_40:SCode:=.region [⟨some 143,.move (.tmp 9),none⟩,
  ⟨some 144,.move (.tmp 12),none⟩,
  ⟨some 145,.call { callee:=.value (.func 28),args:=#[.tmp 144],argTypes:=#[46] },none⟩,
  ⟨some 146,.move (.tmp 10),none⟩,
  ⟨some 147,.call { callee:=.value (.func 27),args:=#[.tmp 143,.tmp 145,.tmp 146],argTypes:=#[3,46,43] },none⟩,
  ⟨some 142,.move (.tmp 147),none⟩,
  ⟨some 148,.extract (.tmp 142) 0,none⟩,
  ⟨some 149,.extract (.tmp 142) 1,none⟩,
  ⟨some 21,.assign (.tmp 148),none⟩,
  ⟨some 8,.assign (.tmp 149),none⟩]
@[reducible] def q5_41:SCode:=.region [⟨some 150,.move (.tmp 21),none⟩,
  ⟨some 151,.unOp .not 4 (.tmp 150),none⟩,
  ⟨some 152,.move (.tmp 151),none⟩,
  ⟨some 153,.move (.tmp 8),some (152,false)⟩,
  ⟨some 154,.binOp .neq 29 (.tmp 153) (.const (.int .i64 0)) 29,some (152,false)⟩,
  ⟨some 155,.pick (.tmp 152) (.const (.bool true)) (.tmp 154),none⟩]
@[reducible] def q5_42:SCode:=.region [⟨some 6,.assign (.const (.bool false)),none⟩]
@[reducible] def q5_43:SCode:=.region [⟨some 156,.move (.tmp 1),none⟩,
  ⟨some 157,.convert 3 57 (.tmp 156),none⟩,
  ⟨some 158,.move (.tmp 12),none⟩,
  ⟨some 159,.call { callee:=.builtin .len,args:=#[.tmp 158],argTypes:=#[46] },none⟩,
  ⟨some 160,.convert 3 57 (.tmp 159),none⟩,
  ⟨some 161,.binOp .rem 57 (.tmp 157) (.tmp 160) 57,none⟩,
  ⟨some 162,.convert 57 3 (.tmp 161),none⟩,
  ⟨some 22,.assign (.tmp 162),none⟩]
@[reducible] def q5_44:SCode:=.region [⟨some 163,.move (.tmp 12),none⟩,
  ⟨some 164,.move (.tmp 22),none⟩,
  ⟨some 165,.move (.tmp 2),none⟩,
  ⟨some 166,.convert 3 57 (.tmp 165),none⟩,
  ⟨some 167,.binOp .rem 57 (.tmp 166) (.const (.int .u64 13)) 57,none⟩,
  ⟨some 168,.convert 57 3 (.tmp 167),none⟩,
  ⟨some 169,.indexAddr 46 (.tmp 163) (.tmp 164),none⟩,
  ⟨some 170,.fieldAddr 51 (.tmp 169) 1,none⟩,
  ⟨none,.store 3 (.tmp 170) (.tmp 168),none⟩]
@[reducible] def q5_45:SCode:=.region [⟨some 172,.move (.tmp 9),none⟩,
  ⟨some 173,.move (.tmp 12),none⟩,
  ⟨some 174,.call { callee:=.value (.func 28),args:=#[.tmp 173],argTypes:=#[46] },none⟩,
  ⟨some 175,.call { callee:=.value (.func 29),args:=#[.tmp 172,.tmp 174],argTypes:=#[3,46] },none⟩,
  ⟨some 171,.move (.tmp 175),none⟩,
  ⟨some 176,.extract (.tmp 171) 0,none⟩,
  ⟨some 177,.extract (.tmp 171) 1,none⟩,
  ⟨some 8,.assign (.tmp 177),none⟩]
@[reducible] def q5_46:SCode:=.region [⟨some 179,.move (.tmp 9),none⟩,
  ⟨some 180,.move (.tmp 12),none⟩,
  ⟨some 181,.call { callee:=.value (.func 28),args:=#[.tmp 180],argTypes:=#[46] },none⟩,
  ⟨some 182,.call { callee:=.value (.func 30),args:=#[.tmp 179,.tmp 181],argTypes:=#[3,46] },none⟩,
  ⟨some 178,.move (.tmp 182),none⟩,
  ⟨some 183,.extract (.tmp 178) 0,none⟩,
  ⟨some 184,.extract (.tmp 178) 1,none⟩,
  ⟨some 23,.alloc 61,none⟩,
  ⟨none,.store 61 (.tmp 23) (.tmp 183),none⟩,
  ⟨some 24,.assign (.tmp 184),none⟩]
@[reducible] def q5_47:SCode:=.region [⟨some 185,.move (.tmp 8),none⟩,
  ⟨some 186,.binOp .eql 29 (.tmp 185) (.const (.int .i64 0)) 29,none⟩,
  ⟨some 187,.move (.tmp 24),none⟩,
  ⟨some 188,.binOp .eql 29 (.tmp 187) (.const (.int .i64 0)) 29,none⟩,
  ⟨some 189,.binOp .eql 4 (.tmp 186) (.tmp 188) 4,none⟩]
@[reducible] def q5_48:SCode:=.region [⟨some 6,.assign (.const (.bool false)),none⟩]
@[reducible] def q5_49:SCode:=.region [⟨some 190,.move (.tmp 24),none⟩,
  ⟨some 191,.binOp .neq 29 (.tmp 190) (.const (.int .i64 0)) 29,none⟩]
@[reducible] def q5_50:SCode:=.region [⟨some 192,.move (.tmp 24),none⟩,
  ⟨some 193,.binOp .eql 29 (.tmp 192) (.const (.int .i64 4)) 29,none⟩,
  ⟨some 194,.move (.tmp 193),none⟩,
  ⟨some 195,.call { callee:=.value (.func 21),args:=#[],argTypes:=#[] },some (194,true)⟩,
  ⟨some 196,.pick (.tmp 194) (.tmp 195) (.const (.bool false)),none⟩,
  ⟨some 6,.assign (.tmp 196),none⟩]
@[reducible] def q5_51:SCode:=.region [⟨some 198,.move (.tmp 9),none⟩,
  ⟨some 199,.move (.tmp 12),none⟩,
  ⟨some 200,.load 61 (.tmp 23),none⟩,
  ⟨some 201,.call { callee:=.value (.func 31),args:=#[.tmp 198,.tmp 199,.tmp 200],argTypes:=#[3,46,61] },none⟩,
  ⟨some 197,.move (.tmp 201),none⟩,
  ⟨some 202,.extract (.tmp 197) 0,none⟩,
  ⟨some 203,.extract (.tmp 197) 1,none⟩,
  ⟨some 25,.assign (.tmp 202),none⟩,
  ⟨some 26,.assign (.tmp 203),none⟩]
@[reducible] def q5_52:SCode:=.region [⟨some 204,.move (.tmp 25),none⟩,
  ⟨some 205,.move (.tmp 204),none⟩,
  ⟨some 206,.move (.tmp 26),some (205,true)⟩,
  ⟨some 207,.binOp .eql 29 (.tmp 206) (.const (.int .i64 0)) 29,some (205,true)⟩,
  ⟨some 208,.pick (.tmp 205) (.tmp 207) (.const (.bool false)),none⟩,
  ⟨some 209,.move (.tmp 208),none⟩,
  ⟨some 210,.call { callee:=.value (.func 21),args:=#[],argTypes:=#[] },some (209,true)⟩,
  ⟨some 211,.pick (.tmp 209) (.tmp 210) (.const (.bool false)),none⟩,
  ⟨some 6,.assign (.tmp 211),none⟩]
def s5:SCode:=(.seq q5_0 (.seq (.seq q5_1 (.cond (.tmp 29) (.seq q5_2 .ret) .skip)) (.seq q5_3 (.seq (.seq q5_4 (.cond (.tmp 38) (.seq q5_5 .ret) .skip)) (.seq q5_6 (.seq (.seq q5_7 (.cond (.tmp 46) (.seq q5_8 .ret) .skip)) (.seq q5_9 (.seq (.seq q5_10 (.block 0 (.loop l5_0))) (.seq q5_15 (.seq (.seq q5_16 (.block 2 (.loop l5_3))) (.seq (.seq q5_38 (.cond (.tmp 141) (.seq q5_39 .ret) .skip)) (.seq q5_40 (.seq (.seq q5_41 (.cond (.tmp 155) (.seq q5_42 .ret) .skip)) (.seq q5_43 (.seq q5_44 (.seq q5_45 (.seq q5_46 (.seq (.seq q5_47 (.cond (.tmp 189) (.seq q5_48 .ret) .skip)) (.seq (.seq q5_49 (.cond (.tmp 191) (.seq q5_50 .ret) .skip)) (.seq q5_51 (.seq q5_52 .ret)))))))))))))))))))))
theorem s5_strip:Yd (Zw Tryd.f5)=s5:=by kernel_rfl
theorem s5_ok:Yl 212 (Zw Tryd.f5)=true:=by kernel_rfl
/-! 16: planchet planchetref07.Order -/
@[reducible] def q16_0:SCode:=.region [⟨some 2,.assign (.const (.bool false)),none⟩]
@[reducible] def q16_1:SCode:=.region [⟨some 6,.move (.tmp 0),none⟩,
  ⟨some 7,.call { callee:=.builtin .len,args:=#[.tmp 6],argTypes:=#[27] },none⟩,
  ⟨some 8,.binOp .lss 3 (.tmp 7) (.const (.int .i64 1)) 3,none⟩,
  ⟨some 9,.move (.tmp 8),none⟩,
  ⟨some 10,.move (.tmp 0),some (9,false)⟩,
  ⟨some 11,.call { callee:=.builtin .len,args:=#[.tmp 10],argTypes:=#[27] },some (9,false)⟩,
  ⟨some 12,.binOp .gtr 3 (.tmp 11) (.const (.int .i64 6)) 3,some (9,false)⟩,
  ⟨some 13,.pick (.tmp 9) (.const (.bool true)) (.tmp 12),none⟩]
@[reducible] def q16_2:SCode:=.region [⟨some 2,.assign (.const (.bool false)),none⟩]
@[reducible] def q16_3:SCode:=.region [⟨some 14,.move (.tmp 0),none⟩,
  ⟨some 15,.call { callee:=.builtin .len,args:=#[.tmp 14],argTypes:=#[27] },none⟩,
  ⟨some 16,.move (.const (.int .i64 0)),none⟩]
@[reducible] def q16_4:SCode:=.region [⟨some 17,.binOp .lss 3 (.tmp 16) (.tmp 15) 3,none⟩]
@[reducible] def q16_5:SCode:=.region [⟨some 18,.move (.tmp 16),none⟩,
  ⟨some 19,.indexAddr 27 (.tmp 14) (.tmp 16),none⟩,
  ⟨some 20,.load 3 (.tmp 19),none⟩,
  ⟨some 3,.assign (.tmp 18),none⟩,
  ⟨some 4,.assign (.tmp 20),none⟩]
@[reducible] def q16_6:SCode:=.region [⟨some 21,.move (.tmp 4),none⟩,
  ⟨some 22,.binOp .lss 3 (.tmp 21) (.const (.int .i64 0)) 3,none⟩,
  ⟨some 23,.move (.tmp 22),none⟩,
  ⟨some 24,.move (.tmp 4),some (23,false)⟩,
  ⟨some 25,.move (.tmp 0),some (23,false)⟩,
  ⟨some 26,.call { callee:=.builtin .len,args:=#[.tmp 25],argTypes:=#[27] },some (23,false)⟩,
  ⟨some 27,.binOp .shl 3 (.const (.int .i64 1)) (.tmp 26) 3,some (23,false)⟩,
  ⟨some 28,.binOp .geq 3 (.tmp 24) (.tmp 27) 3,some (23,false)⟩,
  ⟨some 29,.pick (.tmp 23) (.const (.bool true)) (.tmp 28),none⟩,
  ⟨some 30,.move (.tmp 29),none⟩,
  ⟨some 31,.move (.tmp 4),some (30,false)⟩,
  ⟨some 32,.move (.tmp 3),some (30,false)⟩,
  ⟨some 33,.binOp .shr 3 (.tmp 31) (.tmp 32) 3,some (30,false)⟩,
  ⟨some 34,.binOp .and 3 (.tmp 33) (.const (.int .i64 1)) 3,some (30,false)⟩,
  ⟨some 35,.binOp .eql 3 (.tmp 34) (.const (.int .i64 1)) 3,some (30,false)⟩,
  ⟨some 36,.pick (.tmp 30) (.const (.bool true)) (.tmp 35),none⟩]
@[reducible] def q16_7:SCode:=.region [⟨some 2,.assign (.const (.bool false)),none⟩]
@[reducible] def q16_8:SCode:=.region [⟨some 37,.move (.tmp 0),none⟩,
  ⟨some 38,.call { callee:=.builtin .len,args:=#[.tmp 37],argTypes:=#[27] },none⟩,
  ⟨some 39,.move (.const (.int .i64 0)),none⟩]
@[reducible] def q16_9:SCode:=.region [⟨some 40,.binOp .lss 3 (.tmp 39) (.tmp 38) 3,none⟩]
@[reducible] def q16_10:SCode:=.region [⟨some 41,.move (.tmp 39),none⟩,
  ⟨some 5,.assign (.tmp 41),none⟩]
@[reducible] def q16_11:SCode:=.region [⟨some 42,.move (.tmp 4),none⟩,
  ⟨some 43,.move (.tmp 5),none⟩,
  ⟨some 44,.binOp .shr 3 (.tmp 42) (.tmp 43) 3,none⟩,
  ⟨some 45,.binOp .and 3 (.tmp 44) (.const (.int .i64 1)) 3,none⟩,
  ⟨some 46,.binOp .eql 3 (.tmp 45) (.const (.int .i64 1)) 3,none⟩,
  ⟨some 47,.move (.tmp 46),none⟩,
  ⟨some 48,.move (.tmp 0),some (47,true)⟩,
  ⟨some 49,.move (.tmp 5),some (47,true)⟩,
  ⟨some 50,.indexAddr 27 (.tmp 48) (.tmp 49),some (47,true)⟩,
  ⟨some 51,.load 3 (.tmp 50),some (47,true)⟩,
  ⟨some 52,.move (.tmp 4),some (47,true)⟩,
  ⟨some 53,.binOp .andNot 3 (.tmp 51) (.tmp 52) 3,some (47,true)⟩,
  ⟨some 54,.binOp .neq 3 (.tmp 53) (.const (.int .i64 0)) 3,some (47,true)⟩,
  ⟨some 55,.pick (.tmp 47) (.tmp 54) (.const (.bool false)),none⟩]
@[reducible] def q16_12:SCode:=.region [⟨some 2,.assign (.const (.bool false)),none⟩]
@[reducible] def q16_13:SCode:=.region [⟨some 56,.binOp .add 3 (.tmp 39) (.const (.int .i64 1)) 3,none⟩,
  ⟨some 39,.move (.tmp 56),none⟩]
def l16_0:SCode:=(.seq q16_9 (.seq (.cond (.tmp 40) .skip (.exit 2)) (.seq (.block 3 (.seq q16_10 (.seq q16_11 (.cond (.tmp 55) (.seq q16_12 .ret) .skip)))) q16_13)))
@[reducible] def q16_14:SCode:=.region [⟨some 57,.binOp .add 3 (.tmp 16) (.const (.int .i64 1)) 3,none⟩,
  ⟨some 16,.move (.tmp 57),none⟩]
def l16_1:SCode:=(.seq q16_4 (.seq (.cond (.tmp 17) .skip (.exit 0)) (.seq (.block 1 (.seq q16_5 (.seq (.seq q16_6 (.cond (.tmp 36) (.seq q16_7 .ret) .skip)) (.seq q16_8 (.block 2 (.loop l16_0)))))) q16_14)))
@[reducible] def q16_15:SCode:=.region [⟨some 2,.assign (.const (.bool true)),none⟩]
def s16:SCode:=(.seq q16_0 (.seq (.seq q16_1 (.cond (.tmp 13) (.seq q16_2 .ret) .skip)) (.seq (.seq q16_3 (.block 0 (.loop l16_1))) (.seq q16_15 .ret))))
theorem s16_strip:Yd (Zw Tryd.f16)=s16:=by kernel_rfl
theorem s16_ok:Yl 58 (Zw Tryd.f16)=true:=by kernel_rfl
theorem s16_call [Tabs Tryd.prog] {args:List Value} {h:Zh} {Q:Value→Zh→Prop} (hsz:args.length≤58) (hk:aw Tryd.prog 58 s16 (Zs Tryd.prog [.tmp 2] Q) (Zp 0 args) h):ACall Tryd.prog 16 args h Q :=
 Wq Tryd.func16 rfl (enters_of Tryd.func16 (by kernel_rfl) rfl) rfl rfl (by decide) s16_strip s16_ok hsz hk
/-! 19: planchet planchetref07.Free -/
@[reducible] def q19_0:SCode:=.region [⟨some 6,.assign (.const (.bool false)),none⟩]
@[reducible] def q19_1:SCode:=.region [⟨some 7,.move (.tmp 1),none⟩,
  ⟨some 8,.move (.tmp 2),none⟩,
  ⟨some 9,.binOp .neq 3 (.tmp 7) (.tmp 8) 3,none⟩,
  ⟨some 10,.move (.tmp 9),none⟩,
  ⟨some 11,.move (.tmp 0),some (10,true)⟩,
  ⟨some 12,.move (.tmp 1),some (10,true)⟩,
  ⟨some 13,.move (.tmp 2),some (10,true)⟩,
  ⟨some 14,.call { callee:=.value (.func 57),args:=#[.tmp 11,.tmp 12,.tmp 13],argTypes:=#[27,3,3] },some (10,true)⟩,
  ⟨some 15,.unOp .not 4 (.tmp 14),some (10,true)⟩,
  ⟨some 16,.pick (.tmp 10) (.tmp 15) (.const (.bool false)),none⟩,
  ⟨some 17,.move (.tmp 16),none⟩,
  ⟨some 18,.move (.tmp 0),some (17,true)⟩,
  ⟨some 19,.move (.tmp 2),some (17,true)⟩,
  ⟨some 20,.move (.tmp 1),some (17,true)⟩,
  ⟨some 21,.call { callee:=.value (.func 57),args:=#[.tmp 18,.tmp 19,.tmp 20],argTypes:=#[27,3,3] },some (17,true)⟩,
  ⟨some 22,.unOp .not 4 (.tmp 21),some (17,true)⟩,
  ⟨some 23,.pick (.tmp 17) (.tmp 22) (.const (.bool false)),none⟩,
  ⟨some 6,.assign (.tmp 23),none⟩]
def s19:SCode:=(.seq q19_0 (.seq q19_1 .ret))
theorem s19_strip:Yd (Zw Tryd.f19)=s19:=by kernel_rfl
theorem s19_ok:Yl 24 (Zw Tryd.f19)=true:=by kernel_rfl
theorem s19_call [Tabs Tryd.prog] {args:List Value} {h:Zh} {Q:Value→Zh→Prop} (hsz:args.length≤24) (hk:aw Tryd.prog 24 s19 (Zs Tryd.prog [.tmp 6] Q) (Zp 0 args) h):ACall Tryd.prog 19 args h Q :=
 Wq Tryd.func19 rfl (enters_of Tryd.func19 (by kernel_rfl) rfl) rfl rfl (by decide) s19_strip s19_ok hsz hk
/-! 21: planchet planchettop.sound -/
@[reducible] def q21_0:SCode:=.region [⟨some 0,.assign (.const (.bool false)),none⟩]
@[reducible] def q21_1:SCode:=.region [⟨some 4,.build 51 #[(0,.const (.int .i64 1)),(1,.const (.int .i64 6))],none⟩,
  ⟨some 5,.buildSlice 46 1 #[(0,.tmp 4)],none⟩,
  ⟨some 6,.call { callee:=.value (.func 29),args:=#[.const (.int .i64 2),.tmp 5],argTypes:=#[3,46] },none⟩,
  ⟨some 3,.move (.tmp 6),none⟩,
  ⟨some 7,.extract (.tmp 3) 0,none⟩,
  ⟨some 8,.extract (.tmp 3) 1,none⟩,
  ⟨some 1,.assign (.tmp 7),none⟩,
  ⟨some 2,.assign (.tmp 8),none⟩]
@[reducible] def q21_2:SCode:=.region [⟨some 9,.move (.tmp 2),none⟩,
  ⟨some 10,.binOp .eql 29 (.tmp 9) (.const (.int .i64 0)) 29,none⟩,
  ⟨some 11,.move (.tmp 10),none⟩,
  ⟨some 12,.move (.tmp 1),some (11,true)⟩,
  ⟨some 13,.build 45 #[(0,.const (.int .i64 1)),(1,.const (.int .i64 2))],some (11,true)⟩,
  ⟨some 14,.build 45 #[(0,.const (.int .i64 1)),(1,.const (.int .i64 2))],some (11,true)⟩,
  ⟨some 15,.buildSlice 43 2 #[(0,.tmp 13),(1,.tmp 14)],some (11,true)⟩,
  ⟨some 16,.call { callee:=.value (.func 59),args:=#[.tmp 12,.tmp 15],argTypes:=#[43,43] },some (11,true)⟩,
  ⟨some 17,.pick (.tmp 11) (.tmp 16) (.const (.bool false)),none⟩,
  ⟨some 0,.assign (.tmp 17),none⟩]
def s21:SCode:=(.seq q21_0 (.seq q21_1 (.seq q21_2 .ret)))
theorem s21_strip:Yd (Zw Tryd.f21)=s21:=by kernel_rfl
theorem s21_ok:Yl 18 (Zw Tryd.f21)=true:=by kernel_rfl
/-! 22: planchet order.Lines -/
@[reducible] def q22_0:SCode:=.region [⟨some 2,.assign (.const (.slice none 0 0)),none⟩,
  ⟨some 3,.assign (.const (.int .i64 0)),none⟩]
@[reducible] def q22_1:SCode:=.region [⟨some 7,.move (.tmp 0),none⟩,
  ⟨some 8,.call { callee:=.value (.func 54),args:=#[.tmp 7],argTypes:=#[27] },none⟩,
  ⟨some 6,.move (.tmp 8),none⟩,
  ⟨some 9,.extract (.tmp 6) 0,none⟩,
  ⟨some 10,.extract (.tmp 6) 1,none⟩,
  ⟨some 4,.alloc 97,none⟩,
  ⟨none,.store 97 (.tmp 4) (.tmp 9),none⟩,
  ⟨some 5,.assign (.tmp 10),none⟩]
@[reducible] def q22_2:SCode:=.region [⟨some 11,.move (.tmp 5),none⟩,
  ⟨some 12,.unOp .not 4 (.tmp 11),none⟩]
@[reducible] def q22_3:SCode:=.region [⟨some 2,.assign (.const (.slice none 0 0)),none⟩,
  ⟨some 3,.assign (.const (.int .i64 2)),none⟩]
@[reducible] def q22_4:SCode:=.region [⟨some 13,.load 97 (.tmp 4),none⟩,
  ⟨some 14,.call { callee:=.value (.func 60),args:=#[.tmp 13],argTypes:=#[97] },none⟩,
  ⟨some 2,.assign (.tmp 14),none⟩,
  ⟨some 3,.assign (.const (.int .i64 0)),none⟩]
def s22:SCode:=(.seq q22_0 (.seq q22_1 (.seq (.seq q22_2 (.cond (.tmp 12) (.seq q22_3 .ret) .skip)) (.seq q22_4 .ret))))
theorem s22_strip:Yd (Zw Tryd.f22)=s22:=by kernel_rfl
theorem s22_ok:Yl 15 (Zw Tryd.f22)=true:=by kernel_rfl
theorem s22_call [Tabs Tryd.prog] {args:List Value} {h:Zh} {Q:Value→Zh→Prop} (hsz:args.length≤15) (hk:aw Tryd.prog 15 s22 (Zs Tryd.prog [.tmp 2,.tmp 3] Q) (Zp 0 args) h):ACall Tryd.prog 22 args h Q :=
 Wq Tryd.func22 rfl (enters_of Tryd.func22 (by kernel_rfl) rfl) rfl rfl (by decide) s22_strip s22_ok hsz hk
/-! 23: slices.Index[[]int,int] -/
@[reducible] def q23_0:SCode:=.region [⟨some 4,.assign (.const (.int .i64 0)),none⟩]
@[reducible] def q23_1:SCode:=.region [⟨some 6,.move (.tmp 0),none⟩,
  ⟨some 7,.call { callee:=.builtin .len,args:=#[.tmp 6],argTypes:=#[27] },none⟩,
  ⟨some 8,.move (.const (.int .i64 0)),none⟩]
@[reducible] def q23_2:SCode:=.region [⟨some 9,.binOp .lss 3 (.tmp 8) (.tmp 7) 3,none⟩]
@[reducible] def q23_3:SCode:=.region [⟨some 10,.move (.tmp 8),none⟩,
  ⟨some 5,.assign (.tmp 10),none⟩]
@[reducible] def q23_4:SCode:=.region [⟨some 11,.move (.tmp 1),none⟩,
  ⟨some 12,.move (.tmp 0),none⟩,
  ⟨some 13,.move (.tmp 5),none⟩,
  ⟨some 14,.indexAddr 27 (.tmp 12) (.tmp 13),none⟩,
  ⟨some 15,.load 3 (.tmp 14),none⟩,
  ⟨some 16,.binOp .eql 3 (.tmp 11) (.tmp 15) 3,none⟩]
@[reducible] def q23_5:SCode:=.region [⟨some 17,.move (.tmp 5),none⟩,
  ⟨some 4,.assign (.tmp 17),none⟩]
@[reducible] def q23_6:SCode:=.region [⟨some 18,.binOp .add 3 (.tmp 8) (.const (.int .i64 1)) 3,none⟩,
  ⟨some 8,.move (.tmp 18),none⟩]
def l23_0:SCode:=(.seq q23_2 (.seq (.cond (.tmp 9) .skip (.exit 0)) (.seq (.block 1 (.seq q23_3 (.seq q23_4 (.cond (.tmp 16) (.seq q23_5 .ret) .skip)))) q23_6)))
@[reducible] def q23_7:SCode:=.region [⟨some 4,.assign (.const (.int .i64 (-1))),none⟩]
def s23:SCode:=(.seq q23_0 (.seq (.seq q23_1 (.block 0 (.loop l23_0))) (.seq q23_7 .ret)))
theorem s23_strip:Yd (Zw Tryd.f23)=s23:=by kernel_rfl
theorem s23_ok:Yl 19 (Zw Tryd.f23)=true:=by kernel_rfl
/-! 24: planchet order.Chance -/
@[reducible] def q24_0:SCode:=.region [⟨some 6,.alloc 45,none⟩,
  ⟨some 7,.assign (.const (.int .i64 0)),none⟩]
@[reducible] def q24_1:SCode:=.region [⟨some 11,.move (.tmp 0),none⟩,
  ⟨some 12,.call { callee:=.value (.func 54),args:=#[.tmp 11],argTypes:=#[27] },none⟩,
  ⟨some 10,.move (.tmp 12),none⟩,
  ⟨some 13,.extract (.tmp 10) 0,none⟩,
  ⟨some 14,.extract (.tmp 10) 1,none⟩,
  ⟨some 8,.alloc 97,none⟩,
  ⟨none,.store 97 (.tmp 8) (.tmp 13),none⟩,
  ⟨some 9,.assign (.tmp 14),none⟩]
@[reducible] def q24_2:SCode:=.region [⟨some 15,.move (.tmp 9),none⟩,
  ⟨some 16,.unOp .not 4 (.tmp 15),none⟩,
  ⟨some 17,.move (.tmp 16),none⟩,
  ⟨some 18,.load 97 (.tmp 8),some (17,false)⟩,
  ⟨some 19,.move (.tmp 1),some (17,false)⟩,
  ⟨some 20,.call { callee:=.value (.func 61),args:=#[.tmp 18,.tmp 19],argTypes:=#[97,3] },some (17,false)⟩,
  ⟨some 21,.unOp .not 4 (.tmp 20),some (17,false)⟩,
  ⟨some 22,.pick (.tmp 17) (.const (.bool true)) (.tmp 21),none⟩,
  ⟨some 23,.move (.tmp 22),none⟩,
  ⟨some 24,.load 97 (.tmp 8),some (23,false)⟩,
  ⟨some 25,.move (.tmp 2),some (23,false)⟩,
  ⟨some 26,.call { callee:=.value (.func 61),args:=#[.tmp 24,.tmp 25],argTypes:=#[97,3] },some (23,false)⟩,
  ⟨some 27,.unOp .not 4 (.tmp 26),some (23,false)⟩,
  ⟨some 28,.pick (.tmp 23) (.const (.bool true)) (.tmp 27),none⟩,
  ⟨some 29,.move (.tmp 28),none⟩,
  ⟨some 30,.move (.tmp 1),some (29,false)⟩,
  ⟨some 31,.move (.tmp 2),some (29,false)⟩,
  ⟨some 32,.binOp .eql 3 (.tmp 30) (.tmp 31) 3,some (29,false)⟩,
  ⟨some 33,.pick (.tmp 29) (.const (.bool true)) (.tmp 32),none⟩]
@[reducible] def q24_3:SCode:=.region [⟨some 34,.build 45 #[],none⟩,
  ⟨none,.store 45 (.tmp 6) (.tmp 34),none⟩,
  ⟨some 7,.assign (.const (.int .i64 2)),none⟩]
def q24_4:SCode:=.draw [⟨some 35,.load 97 (.tmp 8),none⟩,
    ⟨some 36,.move (.tmp 1),none⟩,
    ⟨some 37,.move (.tmp 2),none⟩,
    ⟨some 38,.call { callee:=.value (.func 63),args:=#[.tmp 35,.tmp 36,.tmp 37],argTypes:=#[97,3,3] },none⟩,
    ⟨some 39,.load 97 (.tmp 8),none⟩,
    ⟨some 40,.call { callee:=.value (.func 56),args:=#[.tmp 39],argTypes:=#[97] },none⟩,
    ⟨some 41,.call { callee:=.value (.func 62),args:=#[.tmp 38,.tmp 40],argTypes:=#[3,3] },none⟩,
    ⟨none,.store 45 (.tmp 6) (.tmp 41),none⟩,
    ⟨some 7,.assign (.const (.int .i64 0)),none⟩]
  [[],[],[],[0,1,2],[],[4,3],[3,5,5],[6,6,0,1,2,3,4,5,6],[7,0,1,2,3,4,5,6,7]]
def s24:SCode:=(.seq q24_0 (.seq q24_1 (.seq (.seq q24_2 (.cond (.tmp 33) (.seq q24_3 .ret) .skip)) (.seq q24_4 .ret))))
theorem s24_strip:Yd (Zw Tryd.f24)=s24:=by kernel_rfl
theorem s24_ok:Yl 42 (Zw Tryd.f24)=true:=by kernel_rfl
theorem s24_call [Tabs Tryd.prog] {args:List Value} {h:Zh} {Q:Value→Zh→Prop} (hsz:args.length≤42) (hk:aw Tryd.prog 42 s24 (Zs Tryd.prog [.cell 6 45,.tmp 7] Q) (Zp 0 args) h):ACall Tryd.prog 24 args h Q :=
 Wq Tryd.func24 rfl (enters_of Tryd.func24 (by kernel_rfl) rfl) rfl rfl (by decide) s24_strip s24_ok hsz hk
/-! 25: slices.ContainsFunc[[]planchet bets.Bet,planchet bets.Bet] -/
@[reducible] def q25_0:SCode:=.region [⟨some 4,.assign (.const (.bool false)),none⟩]
@[reducible] def q25_1:SCode:=.region [⟨some 5,.move (.tmp 0),none⟩,
  ⟨some 6,.move (.tmp 1),none⟩,
  ⟨some 7,.call { callee:=.value (.func 64),args:=#[.tmp 5,.tmp 6],argTypes:=#[46,53] },none⟩,
  ⟨some 8,.binOp .geq 3 (.tmp 7) (.const (.int .i64 0)) 3,none⟩,
  ⟨some 4,.assign (.tmp 8),none⟩]
def s25:SCode:=(.seq q25_0 (.seq q25_1 .ret))
theorem s25_strip:Yd (Zw Tryd.f25)=s25:=by kernel_rfl
theorem s25_ok:Yl 9 (Zw Tryd.f25)=true:=by kernel_rfl
/-! 26: planchet planchettop.TopLines$1 -/
@[reducible] def q26_0:SCode:=.region [⟨some 2,.box 51 (.tmp 0),none⟩,
  ⟨some 3,.assign (.const (.bool false)),none⟩]
@[reducible] def q26_1:SCode:=.region [⟨some 4,.fieldAddr 51 (.tmp 2) 0,none⟩,
  ⟨some 5,.load 3 (.tmp 4),none⟩,
  ⟨some 6,.load 3 (.tmp 1),none⟩,
  ⟨some 7,.binOp .eql 3 (.tmp 5) (.tmp 6) 3,none⟩,
  ⟨some 3,.assign (.tmp 7),none⟩]
def s26:SCode:=(.seq q26_0 (.seq q26_1 .ret))
theorem s26_strip:Yd (Zw Tryd.f26)=s26:=by kernel_rfl
theorem s26_ok:Yl 8 (Zw Tryd.f26)=true:=by kernel_rfl
theorem s26_call [Tabs Tryd.prog] {args:List Value} {h:Zh} {Q:Value→Zh→Prop} (hsz:args.length≤8) (hk:aw Tryd.prog 8 s26 (Zs Tryd.prog [.tmp 3] Q) (Zp 0 args) h):ACall Tryd.prog 26 args h Q :=
 Wq Tryd.func26 rfl (enters_of Tryd.func26 (by kernel_rfl) rfl) rfl rfl (by decide) s26_strip s26_ok hsz hk
/-! 27: planchet bets.Agrees -/
@[reducible] def q27_0:SCode:=.region [⟨some 6,.assign (.const (.bool false)),none⟩,
  ⟨some 7,.assign (.const (.int .i64 0)),none⟩]
@[reducible] def q27_1:SCode:=.region [⟨some 9,.move (.tmp 0),none⟩,
  ⟨some 10,.move (.tmp 1),none⟩,
  ⟨some 11,.build 117 #[(0,.tmp 9),(1,.tmp 10)],none⟩,
  ⟨some 8,.alloc 117,none⟩,
  ⟨none,.store 117 (.tmp 8) (.tmp 11),none⟩]
@[reducible] def q27_2:SCode:=.region [⟨some 12,.load 117 (.tmp 8),none⟩,
  ⟨some 13,.call { callee:=.value (.func 65),args:=#[.tmp 12],argTypes:=#[117] },none⟩,
  ⟨some 14,.unOp .not 4 (.tmp 13),none⟩,
  ⟨some 15,.move (.tmp 14),none⟩,
  ⟨some 16,.move (.tmp 2),some (15,false)⟩,
  ⟨some 17,.call { callee:=.builtin .len,args:=#[.tmp 16],argTypes:=#[43] },some (15,false)⟩,
  ⟨some 18,.move (.tmp 0),some (15,false)⟩,
  ⟨some 19,.binOp .neq 3 (.tmp 17) (.tmp 18) 3,some (15,false)⟩,
  ⟨some 20,.pick (.tmp 15) (.const (.bool true)) (.tmp 19),none⟩,
  ⟨some 21,.move (.tmp 20),none⟩,
  ⟨some 22,.move (.tmp 2),some (21,false)⟩,
  ⟨some 23,.call { callee:=.value (.func 66),args:=#[.tmp 22],argTypes:=#[43] },some (21,false)⟩,
  ⟨some 24,.unOp .not 4 (.tmp 23),some (21,false)⟩,
  ⟨some 25,.pick (.tmp 21) (.const (.bool true)) (.tmp 24),none⟩]
@[reducible] def q27_3:SCode:=.region [⟨some 6,.assign (.const (.bool false)),none⟩,
  ⟨some 7,.assign (.const (.int .i64 2)),none⟩]
@[reducible] def q27_4:SCode:=.region [⟨some 26,.load 117 (.tmp 8),none⟩,
  ⟨some 27,.move (.tmp 2),none⟩,
  ⟨some 28,.call { callee:=.value (.func 67),args:=#[.tmp 26,.tmp 27],argTypes:=#[117,122] },none⟩,
  ⟨some 6,.assign (.tmp 28),none⟩,
  ⟨some 7,.assign (.const (.int .i64 0)),none⟩]
def s27:SCode:=(.seq q27_0 (.seq q27_1 (.seq (.seq q27_2 (.cond (.tmp 25) (.seq q27_3 .ret) .skip)) (.seq q27_4 .ret))))
theorem s27_strip:Yd (Zw Tryd.f27)=s27:=by kernel_rfl
theorem s27_ok:Yl 29 (Zw Tryd.f27)=true:=by kernel_rfl
/-! 28: slices.Clone[[]planchet bets.Bet,planchet bets.Bet] -/
@[reducible] def q28_0:SCode:=.region [⟨some 2,.assign (.const (.slice none 0 0)),none⟩]
@[reducible] def q28_1:SCode:=.region [⟨some 3,.move (.tmp 0),none⟩,
  ⟨some 4,.binOp .eql 46 (.tmp 3) (.const (.slice none 0 0)) 46,none⟩]
@[reducible] def q28_2:SCode:=.region [⟨some 2,.assign (.const (.slice none 0 0)),none⟩]
@[reducible] def q28_3:SCode:=.region [⟨some 5,.buildSlice 46 0 #[],none⟩,
  ⟨some 6,.move (.tmp 0),none⟩,
  ⟨some 7,.call { callee:=.builtin .append,args:=#[.tmp 5,.tmp 6],argTypes:=#[46,46] },none⟩,
  ⟨some 2,.assign (.tmp 7),none⟩]
def s28:SCode:=(.seq q28_0 (.seq (.seq q28_1 (.cond (.tmp 4) (.seq q28_2 .ret) .skip)) (.seq q28_3 .ret)))
theorem s28_strip:Yd (Zw Tryd.f28)=s28:=by kernel_rfl
theorem s28_ok:Yl 8 (Zw Tryd.f28)=true:=by kernel_rfl
theorem s28_call [Tabs Tryd.prog] {args:List Value} {h:Zh} {Q:Value→Zh→Prop} (hsz:args.length≤8) (hk:aw Tryd.prog 8 s28 (Zs Tryd.prog [.tmp 2] Q) (Zp 0 args) h):ACall Tryd.prog 28 args h Q :=
 Wq Tryd.func28 rfl (enters_of Tryd.func28 (by kernel_rfl) rfl) rfl rfl (by decide) s28_strip s28_ok hsz hk
/-! 29: planchet bets.Sound -/
@[reducible] def q29_0:SCode:=.region [⟨some 4,.assign (.const (.slice none 0 0)),none⟩,
  ⟨some 5,.assign (.const (.int .i64 0)),none⟩]
@[reducible] def q29_1:SCode:=.region [⟨some 8,.move (.tmp 0),none⟩,
  ⟨some 9,.move (.tmp 1),none⟩,
  ⟨some 10,.build 117 #[(0,.tmp 8),(1,.tmp 9)],none⟩,
  ⟨some 6,.alloc 117,none⟩,
  ⟨none,.store 117 (.tmp 6) (.tmp 10),none⟩]
@[reducible] def q29_2:SCode:=.region [⟨some 11,.load 117 (.tmp 6),none⟩,
  ⟨some 12,.call { callee:=.value (.func 65),args:=#[.tmp 11],argTypes:=#[117] },none⟩,
  ⟨some 13,.unOp .not 4 (.tmp 12),none⟩]
@[reducible] def q29_3:SCode:=.region [⟨some 4,.assign (.const (.slice none 0 0)),none⟩,
  ⟨some 5,.assign (.const (.int .i64 2)),none⟩]
@[reducible] def q29_4:SCode:=.region [⟨some 14,.load 117 (.tmp 6),none⟩,
  ⟨some 15,.call { callee:=.value (.func 68),args:=#[.tmp 14],argTypes:=#[117] },none⟩,
  ⟨some 7,.assign (.tmp 15),none⟩]
@[reducible] def q29_5:SCode:=.region [⟨some 16,.move (.tmp 7),none⟩,
  ⟨some 17,.call { callee:=.builtin .len,args:=#[.tmp 16],argTypes:=#[120] },none⟩,
  ⟨some 18,.binOp .eql 3 (.tmp 17) (.const (.int .i64 0)) 3,none⟩]
@[reducible] def q29_6:SCode:=.region [⟨some 4,.assign (.const (.slice none 0 0)),none⟩,
  ⟨some 5,.assign (.const (.int .i64 5)),none⟩]
@[reducible] def q29_7:SCode:=.region [⟨some 19,.move (.tmp 7),none⟩,
  ⟨some 20,.indexAddr 120 (.tmp 19) (.const (.int .i64 0)),none⟩,
  ⟨some 21,.load 122 (.tmp 20),none⟩,
  ⟨some 4,.assign (.tmp 21),none⟩,
  ⟨some 5,.assign (.const (.int .i64 0)),none⟩]
def s29:SCode:=(.seq q29_0 (.seq q29_1 (.seq (.seq q29_2 (.cond (.tmp 13) (.seq q29_3 .ret) .skip)) (.seq q29_4 (.seq (.seq q29_5 (.cond (.tmp 18) (.seq q29_6 .ret) .skip)) (.seq q29_7 .ret))))))
theorem s29_strip:Yd (Zw Tryd.f29)=s29:=by kernel_rfl
theorem s29_ok:Yl 22 (Zw Tryd.f29)=true:=by kernel_rfl
/-! 30: planchet bets.Beat -/
@[reducible] def q30_0:SCode:=.region [⟨some 2,.box 3 (.tmp 0),none⟩,
  ⟨some 3,.box 46 (.tmp 1),none⟩,
  ⟨some 4,.alloc 61,none⟩,
  ⟨some 5,.assign (.const (.int .i64 0)),none⟩]
@[reducible] def q30_1:SCode:=.region [⟨some 8,.load 3 (.tmp 2),none⟩,
  ⟨some 9,.load 46 (.tmp 3),none⟩,
  ⟨some 10,.build 117 #[(0,.tmp 8),(1,.tmp 9)],none⟩,
  ⟨some 6,.alloc 117,none⟩,
  ⟨none,.store 117 (.tmp 6) (.tmp 10),none⟩]
@[reducible] def q30_2:SCode:=.region [⟨some 11,.load 117 (.tmp 6),none⟩,
  ⟨some 12,.call { callee:=.value (.func 65),args:=#[.tmp 11],argTypes:=#[117] },none⟩,
  ⟨some 13,.unOp .not 4 (.tmp 12),none⟩]
@[reducible] def q30_3:SCode:=.region [⟨some 14,.build 61 #[],none⟩,
  ⟨none,.store 61 (.tmp 4) (.tmp 14),none⟩,
  ⟨some 5,.assign (.const (.int .i64 2)),none⟩]
@[reducible] def q30_4:SCode:=.region [⟨some 7,.alloc 27,none⟩]
@[reducible] def q30_5:SCode:=.region [⟨some 15,.load 46 (.tmp 3),none⟩,
  ⟨some 16,.call { callee:=.builtin .len,args:=#[.tmp 15],argTypes:=#[46] },none⟩,
  ⟨some 17,.makeFunc (.func 70) #[] #[.tmp 2,.tmp 3,.tmp 6,.tmp 7],none⟩,
  ⟨some 18,.call { callee:=.value (.func 69),args:=#[.tmp 16,.tmp 17],argTypes:=#[3,38] },none⟩]
@[reducible] def q30_6:SCode:=.region [⟨some 19,.load 27 (.tmp 7),none⟩,
  ⟨some 20,.binOp .eql 27 (.tmp 19) (.const (.slice none 0 0)) 27,none⟩]
@[reducible] def q30_7:SCode:=.region [⟨some 21,.build 61 #[],none⟩,
  ⟨none,.store 61 (.tmp 4) (.tmp 21),none⟩,
  ⟨some 5,.assign (.const (.int .i64 4)),none⟩]
@[reducible] def q30_8:SCode:=.region [⟨some 22,.load 27 (.tmp 7),none⟩,
  ⟨some 23,.build 61 #[(0,.tmp 22)],none⟩,
  ⟨none,.store 61 (.tmp 4) (.tmp 23),none⟩,
  ⟨some 5,.assign (.const (.int .i64 0)),none⟩]
def s30:SCode:=(.seq q30_0 (.seq q30_1 (.seq (.seq q30_2 (.cond (.tmp 13) (.seq q30_3 .ret) .skip)) (.seq q30_4 (.seq q30_5 (.seq (.seq q30_6 (.cond (.tmp 20) (.seq q30_7 .ret) .skip)) (.seq q30_8 .ret)))))))
theorem s30_strip:Yd (Zw Tryd.f30)=s30:=by kernel_rfl
theorem s30_ok:Yl 24 (Zw Tryd.f30)=true:=by kernel_rfl
/-! 31: planchet bets.Beats -/
@[reducible] def q31_0:SCode:=.region [⟨some 5,.box 61 (.tmp 2),none⟩,
  ⟨some 6,.assign (.const (.bool false)),none⟩,
  ⟨some 7,.assign (.const (.int .i64 0)),none⟩]
@[reducible] def q31_1:SCode:=.region [⟨some 9,.move (.tmp 0),none⟩,
  ⟨some 10,.move (.tmp 1),none⟩,
  ⟨some 11,.build 117 #[(0,.tmp 9),(1,.tmp 10)],none⟩,
  ⟨some 8,.alloc 117,none⟩,
  ⟨none,.store 117 (.tmp 8) (.tmp 11),none⟩]
@[reducible] def q31_2:SCode:=.region [⟨some 12,.load 117 (.tmp 8),none⟩,
  ⟨some 13,.call { callee:=.value (.func 65),args:=#[.tmp 12],argTypes:=#[117] },none⟩,
  ⟨some 14,.unOp .not 4 (.tmp 13),none⟩]
@[reducible] def q31_3:SCode:=.region [⟨some 6,.assign (.const (.bool false)),none⟩,
  ⟨some 7,.assign (.const (.int .i64 2)),none⟩]
@[reducible] def q31_4:SCode:=.region [⟨some 15,.fieldAddr 61 (.tmp 5) 0,none⟩,
  ⟨some 16,.load 27 (.tmp 15),none⟩,
  ⟨some 17,.call { callee:=.builtin .len,args:=#[.tmp 16],argTypes:=#[27] },none⟩,
  ⟨some 18,.move (.tmp 1),none⟩,
  ⟨some 19,.call { callee:=.builtin .len,args:=#[.tmp 18],argTypes:=#[46] },none⟩,
  ⟨some 20,.binOp .neq 3 (.tmp 17) (.tmp 19) 3,none⟩,
  ⟨some 21,.move (.tmp 20),none⟩,
  ⟨some 22,.fieldAddr 61 (.tmp 5) 0,some (21,false)⟩,
  ⟨some 23,.load 27 (.tmp 22),some (21,false)⟩,
  ⟨some 24,.call { callee:=.value (.func 77),args:=#[.tmp 23],argTypes:=#[27] },some (21,false)⟩,
  ⟨some 25,.binOp .lss 3 (.tmp 24) (.const (.int .i64 (-1000000000))) 3,some (21,false)⟩,
  ⟨some 26,.pick (.tmp 21) (.const (.bool true)) (.tmp 25),none⟩,
  ⟨some 27,.move (.tmp 26),none⟩,
  ⟨some 28,.fieldAddr 61 (.tmp 5) 0,some (27,false)⟩,
  ⟨some 29,.load 27 (.tmp 28),some (27,false)⟩,
  ⟨some 30,.call { callee:=.value (.func 78),args:=#[.tmp 29],argTypes:=#[27] },some (27,false)⟩,
  ⟨some 31,.binOp .gtr 3 (.tmp 30) (.const (.int .i64 1000000000)) 3,some (27,false)⟩,
  ⟨some 32,.pick (.tmp 27) (.const (.bool true)) (.tmp 31),none⟩]
@[reducible] def q31_5:SCode:=.region [⟨some 6,.assign (.const (.bool false)),none⟩,
  ⟨some 7,.assign (.const (.int .i64 0)),none⟩]
@[reducible] def q31_6:SCode:=.region [⟨some 33,.load 117 (.tmp 8),none⟩,
  ⟨some 34,.fieldAddr 61 (.tmp 5) 0,none⟩,
  ⟨some 35,.load 27 (.tmp 34),none⟩,
  ⟨some 36,.call { callee:=.value (.func 76),args:=#[.tmp 33,.tmp 35],argTypes:=#[117,27] },none⟩,
  ⟨some 6,.assign (.tmp 36),none⟩,
  ⟨some 7,.assign (.const (.int .i64 0)),none⟩]
def s31:SCode:=(.seq q31_0 (.seq q31_1 (.seq (.seq q31_2 (.cond (.tmp 14) (.seq q31_3 .ret) .skip)) (.seq (.seq q31_4 (.cond (.tmp 32) (.seq q31_5 .ret) .skip)) (.seq q31_6 .ret)))))
theorem s31_strip:Yd (Zw Tryd.f31)=s31:=by kernel_rfl
theorem s31_ok:Yl 37 (Zw Tryd.f31)=true:=by kernel_rfl
/-! 57: planchet planchetref07.above -/
@[reducible] def q57_0:SCode:=.region [⟨some 6,.assign (.const (.bool false)),none⟩]
@[reducible] def q57_1:SCode:=.region [⟨some 7,.move (.tmp 0),none⟩,
  ⟨some 8,.move (.tmp 1),none⟩,
  ⟨some 9,.indexAddr 27 (.tmp 7) (.tmp 8),none⟩,
  ⟨some 10,.load 3 (.tmp 9),none⟩,
  ⟨some 11,.move (.tmp 2),none⟩,
  ⟨some 12,.binOp .shr 3 (.tmp 10) (.tmp 11) 3,none⟩,
  ⟨some 13,.binOp .and 3 (.tmp 12) (.const (.int .i64 1)) 3,none⟩,
  ⟨some 14,.binOp .eql 3 (.tmp 13) (.const (.int .i64 1)) 3,none⟩,
  ⟨some 6,.assign (.tmp 14),none⟩]
def s57:SCode:=(.seq q57_0 (.seq q57_1 .ret))
theorem s57_strip:Yd (Zw Tryd.f57)=s57:=by kernel_rfl
theorem s57_ok:Yl 15 (Zw Tryd.f57)=true:=by kernel_rfl
theorem s57_call [Tabs Tryd.prog] {args:List Value} {h:Zh} {Q:Value→Zh→Prop} (hsz:args.length≤15) (hk:aw Tryd.prog 15 s57 (Zs Tryd.prog [.tmp 6] Q) (Zp 0 args) h):ACall Tryd.prog 57 args h Q :=
 Wq Tryd.func57 rfl (enters_of Tryd.func57 (by kernel_rfl) rfl) rfl rfl (by decide) s57_strip s57_ok hsz hk
/-! 59: slices.Equal[[]planchet api.Frac,planchet api.Frac] -/
@[reducible] def q59_0:SCode:=.region [⟨some 4,.assign (.const (.bool false)),none⟩]
@[reducible] def q59_1:SCode:=.region [⟨some 6,.move (.tmp 0),none⟩,
  ⟨some 7,.call { callee:=.builtin .len,args:=#[.tmp 6],argTypes:=#[43] },none⟩,
  ⟨some 8,.move (.tmp 1),none⟩,
  ⟨some 9,.call { callee:=.builtin .len,args:=#[.tmp 8],argTypes:=#[43] },none⟩,
  ⟨some 10,.binOp .neq 3 (.tmp 7) (.tmp 9) 3,none⟩]
@[reducible] def q59_2:SCode:=.region [⟨some 4,.assign (.const (.bool false)),none⟩]
@[reducible] def q59_3:SCode:=.region [⟨some 11,.move (.tmp 0),none⟩,
  ⟨some 12,.call { callee:=.builtin .len,args:=#[.tmp 11],argTypes:=#[43] },none⟩,
  ⟨some 13,.move (.const (.int .i64 0)),none⟩]
@[reducible] def q59_4:SCode:=.region [⟨some 14,.binOp .lss 3 (.tmp 13) (.tmp 12) 3,none⟩]
@[reducible] def q59_5:SCode:=.region [⟨some 15,.move (.tmp 13),none⟩,
  ⟨some 5,.assign (.tmp 15),none⟩]
def q59_6:SCode:=.draw [⟨some 16,.move (.tmp 0),none⟩,
    ⟨some 17,.move (.tmp 5),none⟩,
    ⟨some 18,.indexAddr 43 (.tmp 16) (.tmp 17),none⟩,
    ⟨some 19,.load 45 (.tmp 18),none⟩,
    ⟨some 20,.move (.tmp 1),none⟩,
    ⟨some 21,.move (.tmp 5),none⟩,
    ⟨some 22,.indexAddr 43 (.tmp 20) (.tmp 21),none⟩,
    ⟨some 23,.load 45 (.tmp 22),none⟩,
    ⟨some 24,.binOp .neq 45 (.tmp 19) (.tmp 23) 45,none⟩]
  [[],[],[0,1],[2],[],[],[4,5],[6],[3,7]]
@[reducible] def q59_7:SCode:=.region [⟨some 4,.assign (.const (.bool false)),none⟩]
@[reducible] def q59_8:SCode:=.region [⟨some 25,.binOp .add 3 (.tmp 13) (.const (.int .i64 1)) 3,none⟩,
  ⟨some 13,.move (.tmp 25),none⟩]
def l59_0:SCode:=(.seq q59_4 (.seq (.cond (.tmp 14) .skip (.exit 0)) (.seq (.block 1 (.seq q59_5 (.seq q59_6 (.cond (.tmp 24) (.seq q59_7 .ret) .skip)))) q59_8)))
@[reducible] def q59_9:SCode:=.region [⟨some 4,.assign (.const (.bool true)),none⟩]
def s59:SCode:=(.seq q59_0 (.seq (.seq q59_1 (.cond (.tmp 10) (.seq q59_2 .ret) .skip)) (.seq (.seq q59_3 (.block 0 (.loop l59_0))) (.seq q59_9 .ret))))
theorem s59_strip:Yd (Zw Tryd.f59)=s59:=by kernel_rfl
theorem s59_ok:Yl 26 (Zw Tryd.f59)=true:=by kernel_rfl
/-! 62: planchet order.frac -/
@[reducible] def q62_0:SCode:=.region [⟨some 4,.alloc 45,none⟩]
@[reducible] def q62_1:SCode:=.region [⟨some 7,.move (.tmp 0),none⟩,
  ⟨some 8,.move (.tmp 1),none⟩,
  ⟨some 5,.assign (.tmp 7),none⟩,
  ⟨some 6,.assign (.tmp 8),none⟩]
@[reducible] def q62_2:SCode:=.region [⟨some 9,.move (.tmp 6),none⟩,
  ⟨some 10,.binOp .neq 3 (.tmp 9) (.const (.int .i64 0)) 3,none⟩]
def q62_3:SCode:=.draw [⟨some 11,.move (.tmp 6),none⟩,
    ⟨some 12,.move (.tmp 5),none⟩,
    ⟨some 13,.move (.tmp 6),none⟩,
    ⟨some 14,.binOp .rem 3 (.tmp 12) (.tmp 13) 3,none⟩,
    ⟨some 5,.assign (.tmp 11),none⟩,
    ⟨some 6,.assign (.tmp 14),none⟩]
  [[],[],[],[1,2],[0,0,1],[3,4,0,1,2,3,4]]
def l62_0:SCode:=(.seq (.seq q62_2 (.cond (.tmp 10) .skip (.exit 0))) (.block 1 q62_3))
def q62_4:SCode:=.draw [⟨some 15,.move (.tmp 0),none⟩,
    ⟨some 16,.move (.tmp 5),none⟩,
    ⟨some 17,.binOp .quo 3 (.tmp 15) (.tmp 16) 3,none⟩,
    ⟨some 18,.move (.tmp 1),none⟩,
    ⟨some 19,.move (.tmp 5),none⟩,
    ⟨some 20,.binOp .quo 3 (.tmp 18) (.tmp 19) 3,none⟩,
    ⟨some 21,.build 45 #[(0,.tmp 17),(1,.tmp 20)],none⟩,
    ⟨none,.store 45 (.tmp 4) (.tmp 21),none⟩]
  [[],[],[0,1],[],[],[3,4],[2,5],[6,0,1,2,3,4,5,6]]
def s62:SCode:=(.seq q62_0 (.seq q62_1 (.seq (.block 0 (.loop l62_0)) (.seq q62_4 .ret))))
theorem s62_strip:Yd (Zw Tryd.f62)=s62:=by kernel_rfl
theorem s62_ok:Yl 22 (Zw Tryd.f62)=true:=by kernel_rfl
theorem s62_call [Tabs Tryd.prog] {args:List Value} {h:Zh} {Q:Value→Zh→Prop} (hsz:args.length≤22) (hk:aw Tryd.prog 22 s62 (Zs Tryd.prog [.cell 4 45] Q) (Zp 0 args) h):ACall Tryd.prog 62 args h Q :=
 Wq Tryd.func62 rfl (enters_of Tryd.func62 (by kernel_rfl) rfl) rfl rfl (by decide) s62_strip s62_ok hsz hk
/-! 63: (planchet order.order).before -/
@[reducible] def q63_0:SCode:=.region [⟨some 3,.box 97 (.tmp 0),none⟩,
  ⟨some 6,.assign (.const (.int .i64 0)),none⟩]
@[reducible] def q63_1:SCode:=.region [⟨some 8,.move (.tmp 1),none⟩,
  ⟨some 9,.fieldAddr 97 (.tmp 3) 1,none⟩,
  ⟨some 10,.indexAddr 95 (.tmp 9) (.tmp 8),none⟩,
  ⟨some 11,.load 3 (.tmp 10),none⟩,
  ⟨some 12,.move (.tmp 2),none⟩,
  ⟨some 13,.binOp .shr 3 (.tmp 11) (.tmp 12) 3,none⟩,
  ⟨some 14,.binOp .and 3 (.tmp 13) (.const (.int .i64 1)) 3,none⟩,
  ⟨some 15,.binOp .eql 3 (.tmp 14) (.const (.int .i64 1)) 3,none⟩,
  ⟨some 7,.assign (.tmp 15),none⟩]
@[reducible] def q63_2:SCode:=.region [⟨some 16,.load 97 (.tmp 3),none⟩,
  ⟨some 17,.call { callee:=.value (.func 56),args:=#[.tmp 16],argTypes:=#[97] },none⟩,
  ⟨some 6,.assign (.tmp 17),none⟩]
@[reducible] def q63_3:SCode:=.region [⟨some 19,.load 97 (.tmp 3),none⟩,
  ⟨some 20,.move (.tmp 1),none⟩,
  ⟨some 21,.move (.tmp 2),none⟩,
  ⟨some 22,.call { callee:=.value (.func 109),args:=#[.tmp 19,.tmp 20,.tmp 21],argTypes:=#[97,3,3] },none⟩,
  ⟨some 23,.unOp .not 4 (.tmp 22),none⟩,
  ⟨some 18,.assign (.tmp 23),none⟩]
@[reducible] def q63_4:SCode:=.region [⟨some 6,.assign (.const (.int .i64 0)),none⟩]
@[reducible] def q63_5:SCode:=.region [⟨some 24,.load 97 (.tmp 3),none⟩,
  ⟨some 25,.move (.tmp 1),none⟩,
  ⟨some 26,.move (.tmp 2),none⟩,
  ⟨some 27,.call { callee:=.value (.func 110),args:=#[.tmp 24,.tmp 25,.tmp 26],argTypes:=#[97,3,3] },none⟩,
  ⟨some 28,.call { callee:=.value (.func 56),args:=#[.tmp 27],argTypes:=#[97] },none⟩,
  ⟨some 6,.assign (.tmp 28),none⟩]
def s63:SCode:=(.seq q63_0 (.seq (.block 0 (.seq q63_1 (.cond (.tmp 7) (.seq q63_2 .ret) (.seq q63_3 (.cond (.tmp 18) (.seq q63_4 .ret) .skip))))) (.seq q63_5 .ret)))
theorem s63_strip:Yd (Zw Tryd.f63)=s63:=by kernel_rfl
theorem s63_ok:Yl 29 (Zw Tryd.f63)=true:=by kernel_rfl
theorem s63_call [Tabs Tryd.prog] {args:List Value} {h:Zh} {Q:Value→Zh→Prop} (hsz:args.length≤29) (hk:aw Tryd.prog 29 s63 (Zs Tryd.prog [.tmp 6] Q) (Zp 0 args) h):ACall Tryd.prog 63 args h Q :=
 Wq Tryd.func63 rfl (enters_of Tryd.func63 (by kernel_rfl) rfl) rfl rfl (by decide) s63_strip s63_ok hsz hk
/-! 64: slices.IndexFunc[[]planchet bets.Bet,planchet bets.Bet] -/
@[reducible] def q64_0:SCode:=.region [⟨some 4,.assign (.const (.int .i64 0)),none⟩]
@[reducible] def q64_1:SCode:=.region [⟨some 6,.move (.tmp 0),none⟩,
  ⟨some 7,.call { callee:=.builtin .len,args:=#[.tmp 6],argTypes:=#[46] },none⟩,
  ⟨some 8,.move (.const (.int .i64 0)),none⟩]
@[reducible] def q64_2:SCode:=.region [⟨some 9,.binOp .lss 3 (.tmp 8) (.tmp 7) 3,none⟩]
@[reducible] def q64_3:SCode:=.region [⟨some 10,.move (.tmp 8),none⟩,
  ⟨some 5,.assign (.tmp 10),none⟩]
@[reducible] def q64_4:SCode:=.region [⟨some 11,.move (.tmp 1),none⟩,
  ⟨some 12,.move (.tmp 0),none⟩,
  ⟨some 13,.move (.tmp 5),none⟩,
  ⟨some 14,.indexAddr 46 (.tmp 12) (.tmp 13),none⟩,
  ⟨some 15,.load 51 (.tmp 14),none⟩,
  ⟨some 16,.call { callee:=.value (.tmp 11),args:=#[.tmp 15],argTypes:=#[51] },none⟩]
@[reducible] def q64_5:SCode:=.region [⟨some 17,.move (.tmp 5),none⟩,
  ⟨some 4,.assign (.tmp 17),none⟩]
@[reducible] def q64_6:SCode:=.region [⟨some 18,.binOp .add 3 (.tmp 8) (.const (.int .i64 1)) 3,none⟩,
  ⟨some 8,.move (.tmp 18),none⟩]
def l64_0:SCode:=(.seq q64_2 (.seq (.cond (.tmp 9) .skip (.exit 0)) (.seq (.block 1 (.seq q64_3 (.seq q64_4 (.cond (.tmp 16) (.seq q64_5 .ret) .skip)))) q64_6)))
@[reducible] def q64_7:SCode:=.region [⟨some 4,.assign (.const (.int .i64 (-1))),none⟩]
def s64:SCode:=(.seq q64_0 (.seq (.seq q64_1 (.block 0 (.loop l64_0))) (.seq q64_7 .ret)))
theorem s64_strip:Yd (Zw Tryd.f64)=s64:=by kernel_rfl
theorem s64_ok:Yl 19 (Zw Tryd.f64)=true:=by kernel_rfl
/-! 65: (planchet bets.table).valid -/
@[reducible] def q65_0:SCode:=.region [⟨some 1,.box 117 (.tmp 0),none⟩,
  ⟨some 2,.assign (.const (.bool false)),none⟩]
@[reducible] def q65_1:SCode:=.region [⟨some 5,.fieldAddr 117 (.tmp 1) 0,none⟩,
  ⟨some 6,.load 3 (.tmp 5),none⟩,
  ⟨some 7,.binOp .lss 3 (.tmp 6) (.const (.int .i64 2)) 3,none⟩,
  ⟨some 8,.move (.tmp 7),none⟩,
  ⟨some 9,.fieldAddr 117 (.tmp 1) 0,some (8,false)⟩,
  ⟨some 10,.load 3 (.tmp 9),some (8,false)⟩,
  ⟨some 11,.binOp .gtr 3 (.tmp 10) (.const (.int .i64 5)) 3,some (8,false)⟩,
  ⟨some 12,.pick (.tmp 8) (.const (.bool true)) (.tmp 11),none⟩,
  ⟨some 13,.move (.tmp 12),none⟩,
  ⟨some 14,.fieldAddr 117 (.tmp 1) 1,some (13,false)⟩,
  ⟨some 15,.load 46 (.tmp 14),some (13,false)⟩,
  ⟨some 16,.call { callee:=.builtin .len,args:=#[.tmp 15],argTypes:=#[46] },some (13,false)⟩,
  ⟨some 17,.binOp .lss 3 (.tmp 16) (.const (.int .i64 1)) 3,some (13,false)⟩,
  ⟨some 18,.pick (.tmp 13) (.const (.bool true)) (.tmp 17),none⟩,
  ⟨some 19,.move (.tmp 18),none⟩,
  ⟨some 20,.fieldAddr 117 (.tmp 1) 1,some (19,false)⟩,
  ⟨some 21,.load 46 (.tmp 20),some (19,false)⟩,
  ⟨some 22,.call { callee:=.builtin .len,args:=#[.tmp 21],argTypes:=#[46] },some (19,false)⟩,
  ⟨some 23,.binOp .gtr 3 (.tmp 22) (.const (.int .i64 6)) 3,some (19,false)⟩,
  ⟨some 24,.pick (.tmp 19) (.const (.bool true)) (.tmp 23),none⟩]
@[reducible] def q65_2:SCode:=.region [⟨some 2,.assign (.const (.bool false)),none⟩]
@[reducible] def q65_3:SCode:=.region [⟨some 25,.fieldAddr 117 (.tmp 1) 1,none⟩,
  ⟨some 26,.load 46 (.tmp 25),none⟩,
  ⟨some 27,.call { callee:=.builtin .len,args:=#[.tmp 26],argTypes:=#[46] },none⟩,
  ⟨some 28,.move (.const (.int .i64 0)),none⟩]
@[reducible] def q65_4:SCode:=.region [⟨some 29,.binOp .lss 3 (.tmp 28) (.tmp 27) 3,none⟩]
@[reducible] def q65_5:SCode:=.region [⟨some 30,.move (.tmp 28),none⟩,
  ⟨some 31,.indexAddr 46 (.tmp 26) (.tmp 28),none⟩,
  ⟨some 32,.load 51 (.tmp 31),none⟩,
  ⟨some 4,.alloc 51,none⟩,
  ⟨some 3,.assign (.tmp 30),none⟩,
  ⟨none,.store 51 (.tmp 4) (.tmp 32),none⟩]
def q65_6:SCode:=.draw [⟨some 33,.fieldAddr 51 (.tmp 4) 0,none⟩,
    ⟨some 34,.load 3 (.tmp 33),none⟩,
    ⟨some 35,.binOp .lss 3 (.tmp 34) (.const (.int .i64 0)) 3,none⟩,
    ⟨some 36,.move (.tmp 35),none⟩,
    ⟨some 37,.fieldAddr 51 (.tmp 4) 0,some (36,false)⟩,
    ⟨some 38,.load 3 (.tmp 37),some (36,false)⟩,
    ⟨some 39,.fieldAddr 117 (.tmp 1) 0,some (36,false)⟩,
    ⟨some 40,.load 3 (.tmp 39),some (36,false)⟩,
    ⟨some 41,.binOp .shl 3 (.const (.int .i64 1)) (.tmp 40) 3,some (36,false)⟩,
    ⟨some 42,.binOp .geq 3 (.tmp 38) (.tmp 41) 3,some (36,false)⟩,
    ⟨some 43,.pick (.tmp 36) (.const (.bool true)) (.tmp 42),none⟩,
    ⟨some 44,.move (.tmp 43),none⟩,
    ⟨some 45,.fieldAddr 51 (.tmp 4) 1,some (44,false)⟩,
    ⟨some 46,.load 3 (.tmp 45),some (44,false)⟩,
    ⟨some 47,.binOp .lss 3 (.tmp 46) (.const (.int .i64 0)) 3,some (44,false)⟩,
    ⟨some 48,.pick (.tmp 44) (.const (.bool true)) (.tmp 47),none⟩,
    ⟨some 49,.move (.tmp 48),none⟩,
    ⟨some 50,.fieldAddr 51 (.tmp 4) 1,some (49,false)⟩,
    ⟨some 51,.load 3 (.tmp 50),some (49,false)⟩,
    ⟨some 52,.binOp .gtr 3 (.tmp 51) (.const (.int .i64 12)) 3,some (49,false)⟩,
    ⟨some 53,.pick (.tmp 49) (.const (.bool true)) (.tmp 52),none⟩]
  [[],[0],[1],[2],[3],[4,3],[3],[6,3],[7,3],[5,8,3],[3,9],[10,3],[11],[12,11],[13,11],[11,14],[15,11],[16],[17,16],[18,16],[16,19]]
@[reducible] def q65_7:SCode:=.region [⟨some 2,.assign (.const (.bool false)),none⟩]
@[reducible] def q65_8:SCode:=.region [⟨some 54,.fieldAddr 117 (.tmp 1) 1,none⟩,
  ⟨some 55,.load 46 (.tmp 54),none⟩,
  ⟨some 56,.move (.tmp 3),none⟩,
  ⟨some 57,.slice 46 (.tmp 55) none (some (.tmp 56)) none,none⟩,
  ⟨some 58,.makeFunc (.func 111) #[] #[.tmp 4],none⟩,
  ⟨some 59,.call { callee:=.value (.func 25),args:=#[.tmp 57,.tmp 58],argTypes:=#[46,53] },none⟩]
@[reducible] def q65_9:SCode:=.region [⟨some 2,.assign (.const (.bool false)),none⟩]
@[reducible] def q65_10:SCode:=.region [⟨some 60,.binOp .add 3 (.tmp 28) (.const (.int .i64 1)) 3,none⟩,
  ⟨some 28,.move (.tmp 60),none⟩]
def l65_0:SCode:=(.seq q65_4 (.seq (.cond (.tmp 29) .skip (.exit 0)) (.seq (.block 1 (.seq q65_5 (.seq (.seq q65_6 (.cond (.tmp 53) (.seq q65_7 .ret) .skip)) (.seq q65_8 (.cond (.tmp 59) (.seq q65_9 .ret) .skip))))) q65_10)))
@[reducible] def q65_11:SCode:=.region [⟨some 2,.assign (.const (.bool true)),none⟩]
def s65:SCode:=(.seq q65_0 (.seq (.seq q65_1 (.cond (.tmp 24) (.seq q65_2 .ret) .skip)) (.seq (.seq q65_3 (.block 0 (.loop l65_0))) (.seq q65_11 .ret))))
theorem s65_strip:Yd (Zw Tryd.f65)=s65:=by kernel_rfl
theorem s65_ok:Yl 61 (Zw Tryd.f65)=true:=by kernel_rfl
/-! 66: planchet bets.common -/
@[reducible] def q66_0:SCode:=.region [⟨some 2,.assign (.const (.bool false)),none⟩]
@[reducible] def q66_1:SCode:=.region [⟨some 3,.assign (.const (.int .i64 1)),none⟩]
@[reducible] def q66_2:SCode:=.region [⟨some 7,.move (.tmp 0),none⟩,
  ⟨some 8,.call { callee:=.builtin .len,args:=#[.tmp 7],argTypes:=#[43] },none⟩,
  ⟨some 9,.move (.const (.int .i64 0)),none⟩]
@[reducible] def q66_3:SCode:=.region [⟨some 10,.binOp .lss 3 (.tmp 9) (.tmp 8) 3,none⟩]
@[reducible] def q66_4:SCode:=.region [⟨some 11,.indexAddr 43 (.tmp 7) (.tmp 9),none⟩,
  ⟨some 12,.load 45 (.tmp 11),none⟩,
  ⟨some 5,.alloc 45,none⟩,
  ⟨none,.store 45 (.tmp 5) (.tmp 12),none⟩]
@[reducible] def q66_5:SCode:=.region [⟨some 13,.load 45 (.tmp 5),none⟩,
  ⟨some 14,.call { callee:=.value (.func 112),args:=#[.tmp 13,.const (.int .i64 10000000000)],argTypes:=#[45,3] },none⟩,
  ⟨some 15,.unOp .not 4 (.tmp 14),none⟩]
@[reducible] def q66_6:SCode:=.region [⟨some 2,.assign (.const (.bool false)),none⟩]
def q66_7:SCode:=.draw [⟨some 16,.fieldAddr 45 (.tmp 5) 1,none⟩,
    ⟨some 17,.load 3 (.tmp 16),none⟩,
    ⟨some 18,.move (.tmp 3),none⟩,
    ⟨some 19,.fieldAddr 45 (.tmp 5) 1,none⟩,
    ⟨some 20,.load 3 (.tmp 19),none⟩,
    ⟨some 21,.call { callee:=.value (.func 75),args:=#[.tmp 18,.tmp 20],argTypes:=#[3,3] },none⟩,
    ⟨some 22,.binOp .quo 3 (.tmp 17) (.tmp 21) 3,none⟩,
    ⟨some 6,.assign (.tmp 22),none⟩]
  [[],[0],[],[],[3],[2,4],[1,5],[6,5,0,1,2,3,4,5,6]]
@[reducible] def q66_8:SCode:=.region [⟨some 23,.move (.tmp 3),none⟩,
  ⟨some 24,.move (.tmp 6),none⟩,
  ⟨some 25,.binOp .quo 3 (.const (.int .i64 10000000000)) (.tmp 24) 3,none⟩,
  ⟨some 26,.binOp .gtr 3 (.tmp 23) (.tmp 25) 3,none⟩]
@[reducible] def q66_9:SCode:=.region [⟨some 2,.assign (.const (.bool false)),none⟩]
@[reducible] def q66_10:SCode:=.region [⟨some 27,.move (.tmp 3),none⟩,
  ⟨some 28,.move (.tmp 6),none⟩,
  ⟨some 29,.binOp .mul 3 (.tmp 27) (.tmp 28) 3,none⟩,
  ⟨some 3,.assign (.tmp 29),none⟩]
@[reducible] def q66_11:SCode:=.region [⟨some 30,.binOp .add 3 (.tmp 9) (.const (.int .i64 1)) 3,none⟩,
  ⟨some 9,.move (.tmp 30),none⟩]
def l66_0:SCode:=(.seq q66_3 (.seq (.cond (.tmp 10) .skip (.exit 0)) (.seq (.block 1 (.seq q66_4 (.seq (.seq q66_5 (.cond (.tmp 15) (.seq q66_6 .ret) .skip)) (.seq q66_7 (.seq (.seq q66_8 (.cond (.tmp 26) (.seq q66_9 .ret) .skip)) q66_10))))) q66_11)))
@[reducible] def q66_12:SCode:=.region [⟨some 2,.assign (.const (.bool true)),none⟩]
def s66:SCode:=(.seq q66_0 (.seq q66_1 (.seq (.seq q66_2 (.block 0 (.loop l66_0))) (.seq q66_12 .ret))))
theorem s66_strip:Yd (Zw Tryd.f66)=s66:=by kernel_rfl
theorem s66_ok:Yl 31 (Zw Tryd.f66)=true:=by kernel_rfl
/-! 67: (planchet bets.table).agrees -/
@[reducible] def q67_0:SCode:=.region [⟨some 2,.box 117 (.tmp 0),none⟩,
  ⟨some 3,.box 122 (.tmp 1),none⟩,
  ⟨some 4,.assign (.const (.bool false)),none⟩]
def q67_1:SCode:=.draw [⟨some 5,.load 122 (.tmp 3),none⟩,
    ⟨some 6,.fieldAddr 117 (.tmp 2) 0,none⟩,
    ⟨some 7,.load 3 (.tmp 6),none⟩,
    ⟨some 8,.binOp .shl 3 (.const (.int .i64 1)) (.tmp 7) 3,none⟩,
    ⟨some 9,.binOp .sub 3 (.tmp 8) (.const (.int .i64 1)) 3,none⟩,
    ⟨some 10,.call { callee:=.value (.func 113),args:=#[.tmp 5,.tmp 9],argTypes:=#[122,3] },none⟩,
    ⟨some 11,.call { callee:=.value (.func 72),args:=#[.const (.int .i64 1)],argTypes:=#[3] },none⟩,
    ⟨some 12,.binOp .neq 45 (.tmp 10) (.tmp 11) 45,none⟩]
  [[],[],[1],[2],[3],[0,4],[5],[5,6]]
@[reducible] def q67_2:SCode:=.region [⟨some 4,.assign (.const (.bool false)),none⟩]
@[reducible] def q67_3:SCode:=.region [⟨some 13,.fieldAddr 117 (.tmp 2) 1,none⟩,
  ⟨some 14,.load 46 (.tmp 13),none⟩,
  ⟨some 15,.makeFunc (.func 115) #[] #[.tmp 3],none⟩,
  ⟨some 16,.call { callee:=.value (.func 114),args:=#[.tmp 14,.tmp 15],argTypes:=#[46,53] },none⟩,
  ⟨some 4,.assign (.tmp 16),none⟩]
def s67:SCode:=(.seq q67_0 (.seq (.seq q67_1 (.cond (.tmp 12) (.seq q67_2 .ret) .skip)) (.seq q67_3 .ret)))
theorem s67_strip:Yd (Zw Tryd.f67)=s67:=by kernel_rfl
theorem s67_ok:Yl 17 (Zw Tryd.f67)=true:=by kernel_rfl
/-! 68: (planchet bets.table).corners -/
@[reducible] def q68_0:SCode:=.region [⟨some 1,.box 117 (.tmp 0),none⟩,
  ⟨some 2,.assign (.const (.slice none 0 0)),none⟩]
@[reducible] def q68_1:SCode:=.region [⟨some 3,.assign (.const (.slice none 0 0)),none⟩]
@[reducible] def q68_2:SCode:=.region [⟨some 4,.assign (.const (.int .i64 1)),none⟩]
@[reducible] def q68_3:SCode:=.region [⟨some 16,.move (.tmp 4),none⟩,
  ⟨some 17,.fieldAddr 117 (.tmp 1) 0,none⟩,
  ⟨some 18,.load 3 (.tmp 17),none⟩,
  ⟨some 19,.binOp .shl 3 (.const (.int .i64 1)) (.tmp 18) 3,none⟩,
  ⟨some 20,.binOp .lss 3 (.tmp 16) (.tmp 19) 3,none⟩]
@[reducible] def q68_5:SCode:=.region [⟨some 5,.alloc 27,none⟩]
@[reducible] def q68_6:SCode:=.region [⟨some 23,.fieldAddr 117 (.tmp 1) 0,none⟩,
  ⟨some 24,.load 3 (.tmp 23),none⟩,
  ⟨some 25,.move (.const (.int .i64 0)),none⟩]
@[reducible] def q68_7:SCode:=.region [⟨some 26,.binOp .lss 3 (.tmp 25) (.tmp 24) 3,none⟩]
@[reducible] def q68_8:SCode:=.region [⟨some 27,.move (.tmp 25),none⟩,
  ⟨some 6,.assign (.tmp 27),none⟩]
@[reducible] def q68_9:SCode:=.region [⟨some 28,.move (.tmp 4),none⟩,
  ⟨some 29,.move (.tmp 6),none⟩,
  ⟨some 30,.binOp .shr 3 (.tmp 28) (.tmp 29) 3,none⟩,
  ⟨some 31,.binOp .and 3 (.tmp 30) (.const (.int .i64 1)) 3,none⟩,
  ⟨some 32,.binOp .eql 3 (.tmp 31) (.const (.int .i64 1)) 3,none⟩]
@[reducible] def q68_10:SCode:=.region [⟨some 33,.load 27 (.tmp 5),none⟩,
  ⟨some 34,.move (.tmp 6),none⟩,
  ⟨some 35,.buildSlice 27 1 #[(0,.tmp 34)],none⟩,
  ⟨some 36,.call { callee:=.builtin .append,args:=#[.tmp 33,.tmp 35],argTypes:=#[27,27] },none⟩,
  ⟨none,.store 27 (.tmp 5) (.tmp 36),none⟩]
@[reducible] def q68_11:SCode:=.region [⟨some 37,.binOp .add 3 (.tmp 25) (.const (.int .i64 1)) 3,none⟩,
  ⟨some 25,.move (.tmp 37),none⟩]
def l68_0:SCode:=(.seq q68_7 (.seq (.cond (.tmp 26) .skip (.exit 2)) (.seq (.block 3 (.seq q68_8 (.seq q68_9 (.cond (.tmp 32) q68_10 .skip)))) q68_11)))
@[reducible] def q68_12:SCode:=.region [⟨some 38,.makeFunc (.func 117) #[] #[.tmp 5],none⟩,
  ⟨some 7,.assign (.tmp 38),none⟩]
def q68_13:SCode:=.draw [⟨some 39,.move (.tmp 7),none⟩,
    ⟨some 40,.fieldAddr 117 (.tmp 1) 0,none⟩,
    ⟨some 41,.load 3 (.tmp 40),none⟩,
    ⟨some 42,.binOp .shl 3 (.const (.int .i64 1)) (.tmp 41) 3,none⟩,
    ⟨some 43,.binOp .sub 3 (.tmp 42) (.const (.int .i64 1)) 3,none⟩,
    ⟨some 44,.call { callee:=.value (.func 72),args:=#[.const (.int .i64 1)],argTypes:=#[3] },none⟩,
    ⟨some 45,.call { callee:=.value (.tmp 39),args:=#[.tmp 43,.tmp 44],argTypes:=#[3,45] },none⟩,
    ⟨some 46,.buildSlice 125 1 #[(0,.tmp 45)],none⟩,
    ⟨some 8,.assign (.tmp 46),none⟩]
  [[],[],[1],[2],[3],[],[0,4,5,5],[6],[7,6,0,1,2,3,4,5,6,7]]
@[reducible] def q68_14:SCode:=.region [⟨some 47,.fieldAddr 117 (.tmp 1) 1,none⟩,
  ⟨some 48,.load 46 (.tmp 47),none⟩,
  ⟨some 49,.call { callee:=.builtin .len,args:=#[.tmp 48],argTypes:=#[46] },none⟩,
  ⟨some 50,.move (.const (.int .i64 0)),none⟩]
@[reducible] def q68_15:SCode:=.region [⟨some 51,.binOp .lss 3 (.tmp 50) (.tmp 49) 3,none⟩]
@[reducible] def q68_16:SCode:=.region [⟨some 52,.indexAddr 46 (.tmp 48) (.tmp 50),none⟩,
  ⟨some 53,.load 51 (.tmp 52),none⟩,
  ⟨some 10,.alloc 51,none⟩,
  ⟨none,.store 51 (.tmp 10) (.tmp 53),none⟩]
def q68_17:SCode:=.draw [⟨some 54,.move (.tmp 8),none⟩,
    ⟨some 55,.move (.tmp 7),none⟩,
    ⟨some 56,.fieldAddr 51 (.tmp 10) 0,none⟩,
    ⟨some 57,.load 3 (.tmp 56),none⟩,
    ⟨some 58,.fieldAddr 51 (.tmp 10) 1,none⟩,
    ⟨some 59,.load 3 (.tmp 58),none⟩,
    ⟨some 60,.call { callee:=.value (.func 116),args:=#[.tmp 59,.const (.int .i64 12)],argTypes:=#[3,3] },none⟩,
    ⟨some 61,.call { callee:=.value (.tmp 55),args:=#[.tmp 57,.tmp 60],argTypes:=#[3,45] },none⟩,
    ⟨some 62,.buildSlice 125 1 #[(0,.tmp 61)],none⟩,
    ⟨some 63,.call { callee:=.builtin .append,args:=#[.tmp 54,.tmp 62],argTypes:=#[125,125] },none⟩,
    ⟨some 8,.assign (.tmp 63),none⟩]
  [[],[],[],[2],[],[4],[5],[1,3,6,6],[7],[0,8,7],[9,9,0,1,2,3,4,5,6,7,8,9]]
@[reducible] def q68_18:SCode:=.region [⟨some 64,.binOp .add 3 (.tmp 50) (.const (.int .i64 1)) 3,none⟩,
  ⟨some 50,.move (.tmp 64),none⟩]
def l68_1:SCode:=(.seq q68_15 (.seq (.cond (.tmp 51) .skip (.exit 4)) (.seq (.block 5 (.seq q68_16 q68_17)) q68_18)))
@[reducible] def q68_19:SCode:=.region [⟨some 66,.move (.tmp 8),none⟩,
  ⟨some 67,.load 27 (.tmp 5),none⟩,
  ⟨some 68,.call { callee:=.builtin .len,args:=#[.tmp 67],argTypes:=#[27] },none⟩,
  ⟨some 69,.call { callee:=.value (.func 74),args:=#[.tmp 66,.tmp 68],argTypes:=#[125,3] },none⟩,
  ⟨some 65,.move (.tmp 69),none⟩,
  ⟨some 70,.extract (.tmp 65) 0,none⟩,
  ⟨some 71,.extract (.tmp 65) 1,none⟩,
  ⟨some 11,.assign (.tmp 70),none⟩,
  ⟨some 12,.assign (.tmp 71),none⟩]
@[reducible] def q68_20:SCode:=.region [⟨some 72,.move (.tmp 12),none⟩,
  ⟨some 73,.unOp .not 4 (.tmp 72),none⟩,
  ⟨some 74,.move (.tmp 73),none⟩,
  ⟨some 75,.move (.tmp 11),some (74,false)⟩,
  ⟨some 76,.call { callee:=.value (.func 118),args:=#[.tmp 75,.func 119],argTypes:=#[43,157] },some (74,false)⟩,
  ⟨some 77,.pick (.tmp 74) (.const (.bool true)) (.tmp 76),none⟩]
def q68_21:SCode:=.draw [⟨some 78,.call { callee:=.value (.func 72),args:=#[.const (.int .i64 0)],argTypes:=#[3] },none⟩,
    ⟨some 79,.buildSlice 43 1 #[(0,.tmp 78)],none⟩,
    ⟨some 80,.fieldAddr 117 (.tmp 1) 0,none⟩,
    ⟨some 81,.load 3 (.tmp 80),none⟩,
    ⟨some 82,.call { callee:=.value (.func 120),args:=#[.tmp 79,.tmp 81],argTypes:=#[43,3] },none⟩,
    ⟨some 13,.assign (.tmp 82),none⟩]
  [[],[0],[],[2],[1,3,0],[4,4,0,1,2,3,4]]
@[reducible] def q68_22:SCode:=.region [⟨some 83,.load 27 (.tmp 5),none⟩,
  ⟨some 84,.call { callee:=.builtin .len,args:=#[.tmp 83],argTypes:=#[27] },none⟩,
  ⟨some 85,.move (.const (.int .i64 0)),none⟩]
@[reducible] def q68_23:SCode:=.region [⟨some 86,.binOp .lss 3 (.tmp 85) (.tmp 84) 3,none⟩]
@[reducible] def q68_24:SCode:=.region [⟨some 87,.move (.tmp 85),none⟩,
  ⟨some 88,.indexAddr 27 (.tmp 83) (.tmp 85),none⟩,
  ⟨some 89,.load 3 (.tmp 88),none⟩,
  ⟨some 14,.assign (.tmp 87),none⟩,
  ⟨some 15,.assign (.tmp 89),none⟩]
@[reducible] def q68_25:SCode:=.region [⟨some 90,.move (.tmp 13),none⟩,
  ⟨some 91,.move (.tmp 15),none⟩,
  ⟨some 92,.move (.tmp 11),none⟩,
  ⟨some 93,.move (.tmp 14),none⟩,
  ⟨some 94,.indexAddr 43 (.tmp 92) (.tmp 93),none⟩,
  ⟨some 95,.load 45 (.tmp 94),none⟩,
  ⟨some 96,.indexAddr 122 (.tmp 90) (.tmp 91),none⟩,
  ⟨none,.store 45 (.tmp 96) (.tmp 95),none⟩]
@[reducible] def q68_26:SCode:=.region [⟨some 97,.binOp .add 3 (.tmp 85) (.const (.int .i64 1)) 3,none⟩,
  ⟨some 85,.move (.tmp 97),none⟩]
def l68_2:SCode:=(.seq q68_23 (.seq (.cond (.tmp 86) .skip (.exit 6)) (.seq (.block 7 (.seq q68_24 q68_25)) q68_26)))
@[reducible] def q68_27:SCode:=.region [⟨some 98,.move (.tmp 3),none⟩,
  ⟨some 99,.move (.tmp 13),none⟩,
  ⟨some 100,.buildSlice 120 1 #[(0,.tmp 99)],none⟩,
  ⟨some 101,.call { callee:=.builtin .append,args:=#[.tmp 98,.tmp 100],argTypes:=#[120,120] },none⟩,
  ⟨some 3,.assign (.tmp 101),none⟩]
@[reducible] def q68_4:SCode:=.region [⟨some 21,.move (.tmp 4),none⟩,
  ⟨some 22,.binOp .add 3 (.tmp 21) (.const (.int .i64 1)) 3,none⟩,
  ⟨some 4,.assign (.tmp 22),none⟩]
def l68_3:SCode:=(.seq (.seq q68_3 (.cond (.tmp 20) .skip (.exit 0))) (.seq (.block 1 (.seq q68_5 (.seq (.seq q68_6 (.block 2 (.loop l68_0))) (.seq q68_12 (.seq q68_13 (.seq (.seq q68_14 (.block 4 (.loop l68_1))) (.seq q68_19 (.seq (.seq q68_20 (.cond (.tmp 77) (.exit 1) .skip)) (.seq q68_21 (.seq (.seq q68_22 (.block 6 (.loop l68_2))) q68_27)))))))))) q68_4))
@[reducible] def q68_28:SCode:=.region [⟨some 102,.move (.tmp 3),none⟩,
  ⟨some 2,.assign (.tmp 102),none⟩]
def s68:SCode:=(.seq q68_0 (.seq q68_1 (.seq (.seq q68_2 (.block 0 (.loop l68_3))) (.seq q68_28 .ret))))
theorem s68_strip:Yd (Zw Tryd.f68)=s68:=by kernel_rfl
theorem s68_ok:Yl 103 (Zw Tryd.f68)=true:=by kernel_rfl
/-! 69: planchet bets.chosen -/
@[reducible] def q69_0:SCode:=.region [⟨some 4,.assign (.const (.int .i64 1)),none⟩]
@[reducible] def q69_1:SCode:=.region [⟨some 7,.move (.tmp 4),none⟩,
  ⟨some 8,.move (.tmp 0),none⟩,
  ⟨some 9,.binOp .shl 3 (.const (.int .i64 1)) (.tmp 8) 3,none⟩,
  ⟨some 10,.binOp .lss 3 (.tmp 7) (.tmp 9) 3,none⟩]
@[reducible] def q69_3:SCode:=.region [⟨some 5,.assign (.const (.slice none 0 0)),none⟩]
@[reducible] def q69_4:SCode:=.region [⟨some 13,.move (.tmp 0),none⟩,
  ⟨some 14,.move (.const (.int .i64 0)),none⟩]
@[reducible] def q69_5:SCode:=.region [⟨some 15,.binOp .lss 3 (.tmp 14) (.tmp 13) 3,none⟩]
@[reducible] def q69_6:SCode:=.region [⟨some 16,.move (.tmp 14),none⟩,
  ⟨some 6,.assign (.tmp 16),none⟩]
@[reducible] def q69_7:SCode:=.region [⟨some 17,.move (.tmp 4),none⟩,
  ⟨some 18,.move (.tmp 6),none⟩,
  ⟨some 19,.binOp .shr 3 (.tmp 17) (.tmp 18) 3,none⟩,
  ⟨some 20,.binOp .and 3 (.tmp 19) (.const (.int .i64 1)) 3,none⟩,
  ⟨some 21,.binOp .eql 3 (.tmp 20) (.const (.int .i64 1)) 3,none⟩]
@[reducible] def q69_8:SCode:=.region [⟨some 22,.move (.tmp 5),none⟩,
  ⟨some 23,.move (.tmp 6),none⟩,
  ⟨some 24,.buildSlice 27 1 #[(0,.tmp 23)],none⟩,
  ⟨some 25,.call { callee:=.builtin .append,args:=#[.tmp 22,.tmp 24],argTypes:=#[27,27] },none⟩,
  ⟨some 5,.assign (.tmp 25),none⟩]
@[reducible] def q69_9:SCode:=.region [⟨some 26,.binOp .add 3 (.tmp 14) (.const (.int .i64 1)) 3,none⟩,
  ⟨some 14,.move (.tmp 26),none⟩]
def l69_0:SCode:=(.seq q69_5 (.seq (.cond (.tmp 15) .skip (.exit 2)) (.seq (.block 3 (.seq q69_6 (.seq q69_7 (.cond (.tmp 21) q69_8 .skip)))) q69_9)))
@[reducible] def q69_10:SCode:=.region [⟨some 27,.move (.tmp 1),none⟩,
  ⟨some 28,.move (.tmp 5),none⟩,
  ⟨some 29,.call { callee:=.value (.tmp 27),args:=#[.tmp 28],argTypes:=#[27] },none⟩,
  ⟨some 30,.unOp .not 4 (.tmp 29),none⟩]
@[reducible] def q69_2:SCode:=.region [⟨some 11,.move (.tmp 4),none⟩,
  ⟨some 12,.binOp .add 3 (.tmp 11) (.const (.int .i64 1)) 3,none⟩,
  ⟨some 4,.assign (.tmp 12),none⟩]
def l69_1:SCode:=(.seq (.seq q69_1 (.cond (.tmp 10) .skip (.exit 0))) (.seq (.block 1 (.seq q69_3 (.seq (.seq q69_4 (.block 2 (.loop l69_0))) (.seq q69_10 (.cond (.tmp 30) .ret .skip))))) q69_2))
def s69:SCode:=(.seq q69_0 (.block 0 (.loop l69_1)))
theorem s69_strip:Yd (Zw Tryd.f69)=s69:=by kernel_rfl
theorem s69_ok:Yl 31 (Zw Tryd.f69)=true:=by kernel_rfl
/-! 70: planchet bets.Beat$1 -/
@[reducible] def q70_0:SCode:=.region [⟨some 5,.box 27 (.tmp 0),none⟩,
  ⟨some 6,.assign (.const (.bool false)),none⟩]
@[reducible] def q70_1:SCode:=.region [⟨some 7,.load 3 (.tmp 1),none⟩,
  ⟨some 8,.makeFunc (.func 71) #[] #[.tmp 5,.tmp 2,.tmp 3,.tmp 4],none⟩,
  ⟨some 9,.call { callee:=.value (.func 69),args:=#[.tmp 7,.tmp 8],argTypes:=#[3,38] },none⟩]
@[reducible] def q70_2:SCode:=.region [⟨some 10,.load 27 (.tmp 4),none⟩,
  ⟨some 11,.binOp .eql 27 (.tmp 10) (.const (.slice none 0 0)) 27,none⟩,
  ⟨some 6,.assign (.tmp 11),none⟩]
def s70:SCode:=(.seq q70_0 (.seq q70_1 (.seq q70_2 .ret)))
theorem s70_strip:Yd (Zw Tryd.f70)=s70:=by kernel_rfl
theorem s70_ok:Yl 12 (Zw Tryd.f70)=true:=by kernel_rfl
/-! 71: planchet bets.Beat$1$1 -/
@[reducible] def q71_0:SCode:=.region [⟨some 6,.assign (.const (.bool false)),none⟩]
@[reducible] def q71_1:SCode:=.region [⟨some 21,.load 27 (.tmp 1),none⟩,
  ⟨some 22,.call { callee:=.builtin .len,args:=#[.tmp 21],argTypes:=#[27] },none⟩,
  ⟨some 23,.move (.tmp 0),none⟩,
  ⟨some 24,.call { callee:=.builtin .len,args:=#[.tmp 23],argTypes:=#[27] },none⟩,
  ⟨some 25,.binOp .neq 3 (.tmp 22) (.tmp 24) 3,none⟩]
@[reducible] def q71_2:SCode:=.region [⟨some 6,.assign (.const (.bool true)),none⟩]
@[reducible] def q71_3:SCode:=.region [⟨some 7,.assign (.const (.slice none 0 0)),none⟩]
@[reducible] def q71_4:SCode:=.region [⟨some 26,.move (.tmp 0),none⟩,
  ⟨some 27,.call { callee:=.builtin .len,args:=#[.tmp 26],argTypes:=#[27] },none⟩,
  ⟨some 28,.move (.const (.int .i64 0)),none⟩]
@[reducible] def q71_5:SCode:=.region [⟨some 29,.binOp .lss 3 (.tmp 28) (.tmp 27) 3,none⟩]
@[reducible] def q71_6:SCode:=.region [⟨some 30,.indexAddr 27 (.tmp 26) (.tmp 28),none⟩,
  ⟨some 31,.load 3 (.tmp 30),none⟩,
  ⟨some 9,.assign (.tmp 31),none⟩]
@[reducible] def q71_7:SCode:=.region [⟨some 10,.assign (.const (.slice none 0 0)),none⟩]
@[reducible] def q71_8:SCode:=.region [⟨some 32,.load 27 (.tmp 1),none⟩,
  ⟨some 33,.call { callee:=.builtin .len,args:=#[.tmp 32],argTypes:=#[27] },none⟩,
  ⟨some 34,.move (.const (.int .i64 0)),none⟩]
@[reducible] def q71_9:SCode:=.region [⟨some 35,.binOp .lss 3 (.tmp 34) (.tmp 33) 3,none⟩]
@[reducible] def q71_10:SCode:=.region [⟨some 36,.indexAddr 27 (.tmp 32) (.tmp 34),none⟩,
  ⟨some 37,.load 3 (.tmp 36),none⟩,
  ⟨some 12,.assign (.tmp 37),none⟩]
@[reducible] def q71_11:SCode:=.region [⟨some 38,.move (.tmp 10),none⟩,
  ⟨some 39,.load 46 (.tmp 2),none⟩,
  ⟨some 40,.move (.tmp 12),none⟩,
  ⟨some 41,.indexAddr 46 (.tmp 39) (.tmp 40),none⟩,
  ⟨some 42,.load 51 (.tmp 41),none⟩,
  ⟨some 43,.move (.tmp 9),none⟩,
  ⟨some 44,.call { callee:=.value (.func 73),args:=#[.tmp 42,.tmp 43],argTypes:=#[51,3] },none⟩,
  ⟨some 45,.call { callee:=.value (.func 72),args:=#[.tmp 44],argTypes:=#[3] },none⟩,
  ⟨some 46,.buildSlice 43 1 #[(0,.tmp 45)],none⟩,
  ⟨some 47,.call { callee:=.builtin .append,args:=#[.tmp 38,.tmp 46],argTypes:=#[43,43] },none⟩,
  ⟨some 10,.assign (.tmp 47),none⟩]
@[reducible] def q71_12:SCode:=.region [⟨some 48,.binOp .add 3 (.tmp 34) (.const (.int .i64 1)) 3,none⟩,
  ⟨some 34,.move (.tmp 48),none⟩]
def l71_0:SCode:=(.seq q71_9 (.seq (.cond (.tmp 35) .skip (.exit 2)) (.seq (.block 3 (.seq q71_10 q71_11)) q71_12)))
@[reducible] def q71_13:SCode:=.region [⟨some 49,.move (.tmp 7),none⟩,
  ⟨some 50,.move (.tmp 10),none⟩,
  ⟨some 51,.call { callee:=.value (.func 72),args:=#[.const (.int .i64 1)],argTypes:=#[3] },none⟩,
  ⟨some 52,.buildSlice 43 1 #[(0,.tmp 51)],none⟩,
  ⟨some 53,.call { callee:=.builtin .append,args:=#[.tmp 50,.tmp 52],argTypes:=#[43,43] },none⟩,
  ⟨some 54,.buildSlice 125 1 #[(0,.tmp 53)],none⟩,
  ⟨some 55,.call { callee:=.builtin .append,args:=#[.tmp 49,.tmp 54],argTypes:=#[125,125] },none⟩,
  ⟨some 7,.assign (.tmp 55),none⟩]
@[reducible] def q71_14:SCode:=.region [⟨some 56,.binOp .add 3 (.tmp 28) (.const (.int .i64 1)) 3,none⟩,
  ⟨some 28,.move (.tmp 56),none⟩]
def l71_1:SCode:=(.seq q71_5 (.seq (.cond (.tmp 29) .skip (.exit 0)) (.seq (.block 1 (.seq q71_6 (.seq q71_7 (.seq (.seq q71_8 (.block 2 (.loop l71_0))) q71_13)))) q71_14)))
@[reducible] def q71_15:SCode:=.region [⟨some 58,.move (.tmp 7),none⟩,
  ⟨some 59,.load 27 (.tmp 1),none⟩,
  ⟨some 60,.call { callee:=.builtin .len,args:=#[.tmp 59],argTypes:=#[27] },none⟩,
  ⟨some 61,.call { callee:=.value (.func 74),args:=#[.tmp 58,.tmp 60],argTypes:=#[125,3] },none⟩,
  ⟨some 57,.move (.tmp 61),none⟩,
  ⟨some 62,.extract (.tmp 57) 0,none⟩,
  ⟨some 63,.extract (.tmp 57) 1,none⟩,
  ⟨some 13,.assign (.tmp 62),none⟩,
  ⟨some 14,.assign (.tmp 63),none⟩]
@[reducible] def q71_16:SCode:=.region [⟨some 64,.move (.tmp 14),none⟩,
  ⟨some 65,.unOp .not 4 (.tmp 64),none⟩]
@[reducible] def q71_17:SCode:=.region [⟨some 6,.assign (.const (.bool true)),none⟩]
@[reducible] def q71_18:SCode:=.region [⟨some 15,.assign (.const (.int .i64 1)),none⟩]
@[reducible] def q71_19:SCode:=.region [⟨some 66,.move (.tmp 13),none⟩,
  ⟨some 67,.call { callee:=.builtin .len,args:=#[.tmp 66],argTypes:=#[43] },none⟩,
  ⟨some 68,.move (.const (.int .i64 0)),none⟩]
@[reducible] def q71_20:SCode:=.region [⟨some 69,.binOp .lss 3 (.tmp 68) (.tmp 67) 3,none⟩]
@[reducible] def q71_21:SCode:=.region [⟨some 70,.indexAddr 43 (.tmp 66) (.tmp 68),none⟩,
  ⟨some 71,.load 45 (.tmp 70),none⟩,
  ⟨some 17,.alloc 45,none⟩,
  ⟨none,.store 45 (.tmp 17) (.tmp 71),none⟩]
def q71_22:SCode:=.draw [⟨some 72,.move (.tmp 15),none⟩,
    ⟨some 73,.move (.tmp 15),none⟩,
    ⟨some 74,.fieldAddr 45 (.tmp 17) 1,none⟩,
    ⟨some 75,.load 3 (.tmp 74),none⟩,
    ⟨some 76,.call { callee:=.value (.func 75),args:=#[.tmp 73,.tmp 75],argTypes:=#[3,3] },none⟩,
    ⟨some 77,.binOp .quo 3 (.tmp 72) (.tmp 76) 3,none⟩,
    ⟨some 78,.fieldAddr 45 (.tmp 17) 1,none⟩,
    ⟨some 79,.load 3 (.tmp 78),none⟩,
    ⟨some 80,.binOp .mul 3 (.tmp 77) (.tmp 79) 3,none⟩,
    ⟨some 15,.assign (.tmp 80),none⟩]
  [[],[],[],[2],[1,3],[0,4],[],[6],[5,7],[8,4,0,1,2,3,4,5,6,7,8]]
@[reducible] def q71_23:SCode:=.region [⟨some 81,.binOp .add 3 (.tmp 68) (.const (.int .i64 1)) 3,none⟩,
  ⟨some 68,.move (.tmp 81),none⟩]
def l71_2:SCode:=(.seq q71_20 (.seq (.cond (.tmp 69) .skip (.exit 4)) (.seq (.block 5 (.seq q71_21 q71_22)) q71_23)))
@[reducible] def q71_24:SCode:=.region [⟨some 82,.load 46 (.tmp 2),none⟩,
  ⟨some 83,.call { callee:=.builtin .len,args:=#[.tmp 82],argTypes:=#[46] },none⟩,
  ⟨some 84,.makeSlice 27 (.tmp 83) (.tmp 83),none⟩,
  ⟨some 18,.assign (.tmp 84),none⟩]
@[reducible] def q71_25:SCode:=.region [⟨some 85,.load 27 (.tmp 1),none⟩,
  ⟨some 86,.call { callee:=.builtin .len,args:=#[.tmp 85],argTypes:=#[27] },none⟩,
  ⟨some 87,.move (.const (.int .i64 0)),none⟩]
@[reducible] def q71_26:SCode:=.region [⟨some 88,.binOp .lss 3 (.tmp 87) (.tmp 86) 3,none⟩]
@[reducible] def q71_27:SCode:=.region [⟨some 89,.move (.tmp 87),none⟩,
  ⟨some 90,.indexAddr 27 (.tmp 85) (.tmp 87),none⟩,
  ⟨some 91,.load 3 (.tmp 90),none⟩,
  ⟨some 19,.assign (.tmp 89),none⟩,
  ⟨some 20,.assign (.tmp 91),none⟩]
def q71_28:SCode:=.draw [⟨some 92,.move (.tmp 18),none⟩,
    ⟨some 93,.move (.tmp 20),none⟩,
    ⟨some 94,.move (.tmp 13),none⟩,
    ⟨some 95,.move (.tmp 19),none⟩,
    ⟨some 96,.indexAddr 43 (.tmp 94) (.tmp 95),none⟩,
    ⟨some 97,.fieldAddr 45 (.tmp 96) 0,none⟩,
    ⟨some 98,.load 3 (.tmp 97),none⟩,
    ⟨some 99,.move (.tmp 15),none⟩,
    ⟨some 100,.move (.tmp 13),none⟩,
    ⟨some 101,.move (.tmp 19),none⟩,
    ⟨some 102,.indexAddr 43 (.tmp 100) (.tmp 101),none⟩,
    ⟨some 103,.fieldAddr 45 (.tmp 102) 1,none⟩,
    ⟨some 104,.load 3 (.tmp 103),none⟩,
    ⟨some 105,.binOp .quo 3 (.tmp 99) (.tmp 104) 3,none⟩,
    ⟨some 106,.binOp .mul 3 (.tmp 98) (.tmp 105) 3,none⟩,
    ⟨some 107,.indexAddr 27 (.tmp 92) (.tmp 93),none⟩,
    ⟨none,.store 3 (.tmp 107) (.tmp 106),none⟩]
  [[],[],[],[],[2,3],[4],[5],[],[],[],[8,9],[10],[11],[7,12],[6,13],[0,1,0,1,2,3,4,5,6,7,8,9,10,11,12,13,14],[15,14,0,1,2,3,4,5,6,7,8,9,10,11,12,13,14]]
@[reducible] def q71_29:SCode:=.region [⟨some 108,.binOp .add 3 (.tmp 87) (.const (.int .i64 1)) 3,none⟩,
  ⟨some 87,.move (.tmp 108),none⟩]
def l71_3:SCode:=(.seq q71_26 (.seq (.cond (.tmp 88) .skip (.exit 6)) (.seq (.block 7 (.seq q71_27 q71_28)) q71_29)))
@[reducible] def q71_30:SCode:=.region [⟨some 109,.load 117 (.tmp 3),none⟩,
  ⟨some 110,.move (.tmp 18),none⟩,
  ⟨some 111,.call { callee:=.value (.func 76),args:=#[.tmp 109,.tmp 110],argTypes:=#[117,27] },none⟩]
@[reducible] def q71_31:SCode:=.region [⟨some 112,.move (.tmp 18),none⟩,
  ⟨none,.store 27 (.tmp 4) (.tmp 112),none⟩]
@[reducible] def q71_32:SCode:=.region [⟨some 113,.load 27 (.tmp 4),none⟩,
  ⟨some 114,.binOp .eql 27 (.tmp 113) (.const (.slice none 0 0)) 27,none⟩,
  ⟨some 6,.assign (.tmp 114),none⟩]
def s71:SCode:=(.seq q71_0 (.seq (.seq q71_1 (.cond (.tmp 25) (.seq q71_2 .ret) .skip)) (.seq q71_3 (.seq (.seq q71_4 (.block 0 (.loop l71_1))) (.seq q71_15 (.seq (.seq q71_16 (.cond (.tmp 65) (.seq q71_17 .ret) .skip)) (.seq q71_18 (.seq (.seq q71_19 (.block 4 (.loop l71_2))) (.seq q71_24 (.seq (.seq q71_25 (.block 6 (.loop l71_3))) (.seq (.seq q71_30 (.cond (.tmp 111) q71_31 .skip)) (.seq q71_32 .ret))))))))))))
theorem s71_strip:Yd (Zw Tryd.f71)=s71:=by kernel_rfl
theorem s71_ok:Yl 115 (Zw Tryd.f71)=true:=by kernel_rfl
end Go.Proofs.Tryd.Am

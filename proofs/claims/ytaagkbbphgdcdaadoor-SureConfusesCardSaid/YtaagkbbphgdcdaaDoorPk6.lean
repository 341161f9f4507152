/-
  sure: the table of math/bits, out of what the statement grants.
  Printed by gen.py: facts on the types of this seat, asked of the kernel.
  Printed by gen.py: the code of some functions, without what no step looks at; held against the program's own by the kernel.
  sure: TrailingZeros64 of math/bits, on the model's own worlds, and as a contract.
  How many bits a number has, as the library counts them: plain.
  The greatest independent sets of a graph, plain.
  Codes as sets of bits, plain.
  Words that are confused, plain.
  sure: the small functions.
  sure: whether a slice is a graph: the two functions that say so; words that are confused.
  sure: words that are confused, as the program and as the reference ask; how many words there are.
  sure: the graph of all words of some length.
  sure: how many words of a set can be in one code: the program's count.
-/
import Derived.Test.YtaagkbbphgdcdaaDoorPk4
import Derived.Test.YtaagkbbphgdcdaaDoorRows
import Derived.Test.YtaagkbbphgdcdaaDoorProg
import Derived.MakeChecks
import Derived.Test.YtaagkbbphgdcdaaDoorPk3
import Derived.KernelRfl
import Derived.Shelf.Abstract
import Derived.Shelf.Spec.TrailingZeros
import Derived.TacticsInMore
import Derived.LoopNIn
import Derived.LoopIn
import Derived.Test.YtaagkbbphgdcdaaDoorPk5
set_option linter.all false
namespace Go.Proofs.YtaagkbbphgdcdaaDoor
open Go Go.Am Go.ChangeShapes Go.WideShapes Go.ChangeAt Go.WideMaps Go.WideElems Go.RowKit
theorem row_bytes {H:Type} {enc:TypeId×Value→H} {P:Program} {w:World} {base:Nat} {spare:Nat→Bool} {held:Bool} {fuel:Nat} {t e:TypeId} {n:Nat} {cs:List Value} {ns:List Nat} {p:List MemPlace}
  (ht:P.underlying t=some (.array n e)) (he:P.underlying e=some (.int .u8)) (hc:P.cellsOf e=1) (hct:P.cellsOf t=n) (h:DataW.trod enc P w base spare held fuel t cs=some (.agg (ns.map fun (k:Nat)=>.lit (.int .u8 k)),p)):cs=ns.map fun (k:Nat)=>Value.int .u8 k:=by
 obtain ⟨xs,m,rfl,hx,hlen,hn,hel⟩:=DataW.trod_array ht h
 simp only [Prod.mk.injEq,DataW.agg.injEq] at hx
 have hns:ns.length=n:=by rw [← hn,← List.length_map (f:=fun (x:DataW H×List MemPlace)=>x.1),← hx.1,List.length_map]
 apply List.ext_getElem (by rw [hlen,hct,List.length_map,hns])
 intro i h1 h2
 have hi:i<n:=by rw [hlen,hct] at h1; exact h1
 have h3:=hel i hi
 rw [hc,Nat.mul_one,List.getElem?_eq_getElem (by omega)] at h3
 obtain ⟨k,g1,g2,_⟩:=DataW.trod_int he h3
 have h4:(xs.map (·.1))[i]? = some (xs[i]'(by omega)).1:=by simp [List.getElem?_map,List.getElem?_eq_getElem (show i<xs.length by omega)]
 rw [← hx.1,g2] at h4
 rw [List.drop_eq_getElem_cons h1,List.take_succ_cons,List.take_zero] at g1
 have g1:=(List.cons.inj g1).1
 simp at h4
 obtain ⟨a,ha,hk⟩:=h4
 rw [g1,List.getElem_map]
 have:ns[i]'(by omega)=a:=by
  rw [List.getElem?_eq_getElem (show i<ns.length by omega)] at ha; exact Option.some.inj ha
 rw [this,← hk]
abbrev laid1:List (String×DataW Unit):=[("math/bits.deBruijn64tab",Rows.laid_math_bits_deBruijn64tab)]
theorem tab_of {W:World} (h:laidMetH Tryd.prog laid1 W) : ∃ e fr,W.heap[0]? = some (.cells (Lib.deBruijn64tab.map fun (n:Nat)=>Value.int .u8 n).toArray e fr):=by
 rw [MakeChecks.laidMetH_plain _ _ _ (by kernel_rfl)] at h
 obtain ⟨ps,⟨g1,t1,cs1,f1,p1,q1,hg1,ht1,hv1,hd1,_,_⟩,_,_⟩:=h
 obtain rfl:=Option.some.inj ((show Tryd.prog.globalNamed "math/bits.deBruijn64tab" = some 0 by kernel_rfl).symm.trans hg1)
 obtain rfl:=Option.some.inj ((show (Tryd.prog.globals[0]?).map (·.type)=some 93 by kernel_rfl).symm.trans ht1)
 have hrow:=row_bytes (ns:=Lib.deBruijn64tab) Tryd.underlying93 Tryd.underlying5 (by kernel_rfl) (by kernel_rfl) hd1
 simp only [World.var?,hg1,Option.bind_some] at hv1
 split at hv1
 · rename_i cs e fr hh
   cases hv1
   exact ⟨e,fr,by rw [hh,← hrow]⟩
 · cases hv1
end Go.Proofs.YtaagkbbphgdcdaaDoor
namespace Go.Proofs.Tryd.Am
open Go.Am
set_option maxRecDepth 100000
theorem app_22_22:appT Tryd.prog 22 22=some (3,1,8):=by kernel_rfl
theorem app_50_50:appT Tryd.prog 50 50=some (44,2,16):=by kernel_rfl
theorem app_60_60:appT Tryd.prog 60 60=some (63,1,8):=by kernel_rfl
theorem app_82_82:appT Tryd.prog 82 82=some (22,1,24):=by kernel_rfl
theorem app_84_84:appT Tryd.prog 84 84=some (22,1,24):=by kernel_rfl
theorem Xt:elemOf' Tryd.prog 22=some 3:=by kernel_rfl
theorem el_50:elemOf' Tryd.prog 50=some 44:=by kernel_rfl
theorem el_56:elemOf' Tryd.prog 56=some 3:=by kernel_rfl
theorem el_60:elemOf' Tryd.prog 60=some 63:=by kernel_rfl
theorem el_82:elemOf' Tryd.prog 82=some 22:=by kernel_rfl
theorem el_84:elemOf' Tryd.prog 84=some 22:=by kernel_rfl
theorem esz_22:esz Tryd.prog 22=some 1:=by kernel_rfl
theorem Xe:esz Tryd.prog 3=some 1:=by kernel_rfl
theorem esz_44:esz Tryd.prog 44=some 2:=by kernel_rfl
theorem esz_60:esz Tryd.prog 60=some 1:=by kernel_rfl
theorem esz_62:esz Tryd.prog 62=some 2:=by kernel_rfl
theorem esz_63:esz Tryd.prog 63=some 1:=by kernel_rfl
theorem esz_77:esz Tryd.prog 77=some 5:=by kernel_rfl
theorem fld_44_0:fldOf Tryd.prog 44 0=some (3,0):=by kernel_rfl
theorem fld_44_1:fldOf Tryd.prog 44 1=some (3,1):=by kernel_rfl
theorem fld_62_0:fldOf Tryd.prog 62 0=some (3,0):=by kernel_rfl
theorem fld_62_1:fldOf Tryd.prog 62 1=some (60,1):=by kernel_rfl
theorem info_3:(Tryd.prog.info? 3).map (fun i=>(i.size,i.bytes))=some (1,8):=by kernel_rfl
theorem info_44:(Tryd.prog.info? 44).map (fun i=>(i.size,i.bytes))=some (2,16):=by kernel_rfl
theorem info_63:(Tryd.prog.info? 63).map (fun i=>(i.size,i.bytes))=some (1,8):=by kernel_rfl
theorem isl_22:isSl Tryd.prog 22=true:=by kernel_rfl
theorem isl_50:isSl Tryd.prog 50=true:=by kernel_rfl
theorem isl_56:isSl Tryd.prog 56=true:=by kernel_rfl
theorem isl_60:isSl Tryd.prog 60=true:=by kernel_rfl
theorem isl_82:isSl Tryd.prog 82=true:=by kernel_rfl
theorem isl_84:isSl Tryd.prog 84=true:=by kernel_rfl
theorem pl_44_0:Vd Tryd.prog 44 0=some (0,1):=by kernel_rfl
theorem pl_44_1:Vd Tryd.prog 44 1=some (1,1):=by kernel_rfl
theorem pl_62_0:Vd Tryd.prog 62 0=some (0,1):=by kernel_rfl
theorem pl_62_1:Vd Tryd.prog 62 1=some (1,1):=by kernel_rfl
theorem pl_77_0:Vd Tryd.prog 77 0=some (0,1):=by kernel_rfl
theorem pl_77_1:Vd Tryd.prog 77 1=some (1,1):=by kernel_rfl
theorem pl_77_2:Vd Tryd.prog 77 2=some (2,1):=by kernel_rfl
theorem pl_77_3:Vd Tryd.prog 77 3=some (3,1):=by kernel_rfl
theorem pl_77_4:Vd Tryd.prog 77 4=some (4,1):=by kernel_rfl
theorem shp_22:shp Tryd.prog 22=some none:=by kernel_rfl
theorem Xf:shp Tryd.prog 3=some none:=by kernel_rfl
theorem shp_44:shp Tryd.prog 44=some (some 2):=by kernel_rfl
theorem shp_56:shp Tryd.prog 56=some none:=by kernel_rfl
theorem shp_60:shp Tryd.prog 60=some none:=by kernel_rfl
theorem shp_63:shp Tryd.prog 63=some none:=by kernel_rfl
theorem shp_68:shp Tryd.prog 68=some none:=by kernel_rfl
theorem shp_75:shp Tryd.prog 75=some none:=by kernel_rfl
theorem shp_77:shp Tryd.prog 77=some (some 5):=by kernel_rfl
theorem shp_82:shp Tryd.prog 82=some none:=by kernel_rfl
theorem shp_83:shp Tryd.prog 83=some none:=by kernel_rfl
theorem und_107:Program.underlying Tryd.prog 107=some (.int .u32):=by kernel_rfl
theorem und_22:Program.underlying Tryd.prog 22=some (.slice 3):=by kernel_rfl
theorem und_3:Program.underlying Tryd.prog 3=some (.int .i64):=by kernel_rfl
theorem und_4:Program.underlying Tryd.prog 4=some (.bool):=by kernel_rfl
theorem und_42:Program.underlying Tryd.prog 42=some (.int .u64):=by kernel_rfl
theorem und_5:Program.underlying Tryd.prog 5=some (.int .u8):=by kernel_rfl
theorem und_50:Program.underlying Tryd.prog 50=some (.slice 44):=by kernel_rfl
theorem und_56:Program.underlying Tryd.prog 56=some (.slice 3):=by kernel_rfl
theorem und_60:Program.underlying Tryd.prog 60=some (.slice 63):=by kernel_rfl
theorem und_63:Program.underlying Tryd.prog 63=some (.int .u64):=by kernel_rfl
theorem und_77:Program.underlying Tryd.prog 77=some (.array 5 3):=by kernel_rfl
theorem und_82:Program.underlying Tryd.prog 82=some (.slice 22):=by kernel_rfl
theorem und_84:Program.underlying Tryd.prog 84=some (.slice 22):=by kernel_rfl
theorem und_9:Program.underlying Tryd.prog 9=some (.string):=by kernel_rfl
theorem zero_22:Xs Tryd.prog 22=some [.slice none 0 0]:=by kernel_rfl
theorem zero_3:Xs Tryd.prog 3=some [.int .i64 0]:=by kernel_rfl
theorem zero_44:Xs Tryd.prog 44=some [.int .i64 0,.int .i64 0]:=by kernel_rfl
theorem zero_56:Xs Tryd.prog 56=some [.slice none 0 0]:=by kernel_rfl
theorem zero_62:Xs Tryd.prog 62=some [.int .i64 0,.slice none 0 0]:=by kernel_rfl
theorem zero_63:Xs Tryd.prog 63=some [.int .u64 0]:=by kernel_rfl
theorem zero_68:Xs Tryd.prog 68=some [.nilFunc]:=by kernel_rfl
theorem zero_75:Xs Tryd.prog 75=some [.nilFunc]:=by kernel_rfl
theorem zero_77:Xs Tryd.prog 77=some [.int .i64 0,.int .i64 0,.int .i64 0,.int .i64 0,.int .i64 0]:=by kernel_rfl
theorem zero_82:Xs Tryd.prog 82=some [.slice none 0 0]:=by kernel_rfl
theorem zero_83:Xs Tryd.prog 83=some [.nilFunc]:=by kernel_rfl
def tyf:=(And.intro (And.intro (And.intro (And.intro (And.intro (And.intro (And.intro @app_22_22 @app_50_50) @app_60_60) (And.intro @app_82_82 @app_84_84)) (And.intro (And.intro (And.intro @Xt @el_50) @el_56) (And.intro @el_60 @el_82))) (And.intro (And.intro (And.intro (And.intro @el_84 @esz_22) @Xe) (And.intro @esz_44 @esz_60)) (And.intro (And.intro @esz_62 @esz_63) (And.intro @esz_77 @fld_44_0)))) (And.intro (And.intro (And.intro (And.intro (And.intro @fld_44_1 @fld_62_0) @fld_62_1) (And.intro @info_3 @info_44)) (And.intro (And.intro (And.intro @info_63 @isl_22) @isl_50) (And.intro @isl_56 @isl_60))) (And.intro (And.intro (And.intro (And.intro @isl_82 @isl_84) @pl_44_0) (And.intro @pl_44_1 @pl_62_0)) (And.intro (And.intro @pl_62_1 @pl_77_0) (And.intro @pl_77_1 @pl_77_2))))) (And.intro (And.intro (And.intro (And.intro (And.intro (And.intro @pl_77_3 @pl_77_4) @shp_22) (And.intro @Xf @shp_44)) (And.intro (And.intro (And.intro @shp_56 @shp_60) @shp_63) (And.intro @shp_68 @shp_75))) (And.intro (And.intro (And.intro (And.intro @shp_77 @shp_82) @shp_83) (And.intro @und_107 @und_22)) (And.intro (And.intro @und_3 @und_4) (And.intro @und_42 @und_5)))) (And.intro (And.intro (And.intro (And.intro (And.intro @und_50 @und_56) @und_60) (And.intro @und_63 @und_77)) (And.intro (And.intro (And.intro @und_82 @und_84) @und_9) (And.intro @zero_22 @zero_3))) (And.intro (And.intro (And.intro (And.intro @zero_44 @zero_56) @zero_62) (And.intro @zero_63 @zero_68)) (And.intro (And.intro @zero_75 @zero_77) (And.intro @zero_82 @zero_83))))))
end Go.Proofs.Tryd.Am
namespace Go.Proofs.Tryd.Am
open Go.Am
set_option maxRecDepth 100000
/-! 18: planchet planchetlaw05.list -/
@[reducible] def q18_0:SCode:=.region [⟨some 2,.assign (.const (.slice none 0 0)),none⟩]
@[reducible] def q18_1:SCode:=.region [⟨some 3,.move (.tmp 0),none⟩,
  ⟨some 4,.move (.tmp 0),none⟩,
  ⟨some 5,.call { callee:=.builtin .len,args:=#[.tmp 4],argTypes:=#[22] },none⟩,
  ⟨some 6,.call { callee:=.builtin .min,args:=#[.tmp 5,.const (.int .i64 80)],argTypes:=#[3,3] },none⟩,
  ⟨some 7,.slice 22 (.tmp 3) none (some (.tmp 6)) none,none⟩,
  ⟨some 8,.call { callee:=.value (.func 26),args:=#[.tmp 7],argTypes:=#[22] },none⟩,
  ⟨some 2,.assign (.tmp 8),none⟩]
def s18:SCode:=(.seq q18_0 (.seq q18_1 .ret))
theorem s18_strip:Zy (Zw Tryd.f18)=s18:=by kernel_rfl
theorem s18_ok:Yn 9 (Zw Tryd.f18)=true:=by kernel_rfl
theorem s18_call [Tabs Tryd.prog] {args:List Value} {h:Zh} {Q:Value→Zh→Prop} (hsz:args.length≤9) (hk:aw Tryd.prog 9 s18 (Zu Tryd.prog [.tmp 2] Q) (Zt 0 args) h):ACall Tryd.prog 18 args h Q :=
 Ww Tryd.func18 rfl (enters_of Tryd.func18 (by kernel_rfl) rfl) rfl rfl (by decide) s18_strip s18_ok hsz hk
/-! 19: planchet sure.Code -/
@[reducible] def q19_0:SCode:=.region [⟨some 4,.assign (.const (.slice none 0 0)),none⟩,
  ⟨some 5,.assign (.const (.int .i64 0)),none⟩]
@[reducible] def q19_1:SCode:=.region [⟨some 13,.move (.tmp 0),none⟩,
  ⟨some 14,.call { callee:=.value (.func 51),args:=#[.tmp 13],argTypes:=#[56] },none⟩,
  ⟨some 15,.unOp .not 4 (.tmp 14),none⟩,
  ⟨some 16,.move (.tmp 15),none⟩,
  ⟨some 17,.move (.tmp 1),some (16,false)⟩,
  ⟨some 18,.binOp .lss 3 (.tmp 17) (.const (.int .i64 1)) 3,some (16,false)⟩,
  ⟨some 19,.pick (.tmp 16) (.const (.bool true)) (.tmp 18),none⟩,
  ⟨some 20,.move (.tmp 19),none⟩,
  ⟨some 21,.move (.tmp 1),some (20,false)⟩,
  ⟨some 22,.binOp .gtr 3 (.tmp 21) (.const (.int .i64 3)) 3,some (20,false)⟩,
  ⟨some 23,.pick (.tmp 20) (.const (.bool true)) (.tmp 22),none⟩]
@[reducible] def q19_2:SCode:=.region [⟨some 4,.assign (.const (.slice none 0 0)),none⟩,
  ⟨some 5,.assign (.const (.int .i64 2)),none⟩]
@[reducible] def q19_3:SCode:=.region [⟨some 25,.move (.tmp 0),none⟩,
  ⟨some 26,.move (.tmp 1),none⟩,
  ⟨some 27,.call { callee:=.value (.func 52),args:=#[.tmp 25,.tmp 26],argTypes:=#[56,3] },none⟩,
  ⟨some 24,.move (.tmp 27),none⟩,
  ⟨some 28,.extract (.tmp 24) 0,none⟩,
  ⟨some 29,.extract (.tmp 24) 1,none⟩,
  ⟨some 6,.assign (.tmp 28),none⟩,
  ⟨some 7,.assign (.tmp 29),none⟩]
@[reducible] def q19_4:SCode:=.region [⟨some 30,.move (.tmp 7),none⟩,
  ⟨some 31,.unOp .not 4 (.tmp 30),none⟩]
@[reducible] def q19_5:SCode:=.region [⟨some 4,.assign (.const (.slice none 0 0)),none⟩,
  ⟨some 5,.assign (.const (.int .i64 6)),none⟩]
@[reducible] def q19_6:SCode:=.region [⟨some 32,.move (.tmp 6),none⟩,
  ⟨some 33,.nilCheck (.tmp 32),none⟩,
  ⟨some 34,.fieldAddr 62 (.tmp 33) 0,none⟩,
  ⟨some 35,.load 3 (.tmp 34),none⟩,
  ⟨some 36,.binOp .sub 3 (.const (.int .i64 64)) (.tmp 35) 3,none⟩,
  ⟨some 37,.binOp .shr 63 (.const (.int .u64 18446744073709551615)) (.tmp 36) 3,none⟩,
  ⟨some 8,.assign (.tmp 37),none⟩]
@[reducible] def q19_7:SCode:=.region [⟨some 38,.move (.tmp 6),none⟩,
  ⟨some 39,.move (.tmp 8),none⟩,
  ⟨some 40,.call { callee:=.value (.func 53),args:=#[.tmp 38,.tmp 39],argTypes:=#[57,63] },none⟩,
  ⟨some 9,.assign (.tmp 40),none⟩]
@[reducible] def q19_8:SCode:=.region [⟨some 10,.assign (.const (.slice none 0 0)),none⟩]
@[reducible] def q19_9:SCode:=.region [⟨some 41,.move (.tmp 6),none⟩,
  ⟨some 42,.nilCheck (.tmp 41),none⟩,
  ⟨some 43,.fieldAddr 62 (.tmp 42) 0,none⟩,
  ⟨some 44,.load 3 (.tmp 43),none⟩,
  ⟨some 45,.move (.const (.int .i64 0)),none⟩]
@[reducible] def q19_10:SCode:=.region [⟨some 46,.binOp .lss 3 (.tmp 45) (.tmp 44) 3,none⟩]
@[reducible] def q19_11:SCode:=.region [⟨some 47,.move (.tmp 45),none⟩,
  ⟨some 11,.assign (.tmp 47),none⟩]
@[reducible] def q19_12:SCode:=.region [⟨some 48,.move (.tmp 8),none⟩,
  ⟨some 49,.move (.tmp 11),none⟩,
  ⟨some 50,.binOp .shr 63 (.tmp 48) (.tmp 49) 3,none⟩,
  ⟨some 51,.binOp .and 63 (.tmp 50) (.const (.int .u64 1)) 63,none⟩,
  ⟨some 52,.binOp .eql 63 (.tmp 51) (.const (.int .u64 0)) 63,none⟩]
@[reducible] def q19_13:SCode:=.region [⟨some 53,.move (.tmp 8),none⟩,
  ⟨some 54,.move (.tmp 11),none⟩,
  ⟨some 55,.binOp .shl 63 (.const (.int .u64 1)) (.tmp 54) 3,none⟩,
  ⟨some 56,.binOp .andNot 63 (.tmp 53) (.tmp 55) 63,none⟩,
  ⟨some 8,.assign (.tmp 56),none⟩]
@[reducible] def q19_14:SCode:=.region [⟨some 57,.move (.tmp 8),none⟩,
  ⟨some 58,.move (.tmp 6),none⟩,
  ⟨some 59,.nilCheck (.tmp 58),none⟩,
  ⟨some 60,.fieldAddr 62 (.tmp 59) 1,none⟩,
  ⟨some 61,.load 60 (.tmp 60),none⟩,
  ⟨some 62,.move (.tmp 11),none⟩,
  ⟨some 63,.indexAddr 60 (.tmp 61) (.tmp 62),none⟩,
  ⟨some 64,.load 63 (.tmp 63),none⟩,
  ⟨some 65,.binOp .andNot 63 (.tmp 57) (.tmp 64) 63,none⟩,
  ⟨some 12,.assign (.tmp 65),none⟩]
@[reducible] def q19_15:SCode:=.region [⟨some 66,.move (.tmp 6),none⟩,
  ⟨some 67,.move (.tmp 12),none⟩,
  ⟨some 68,.call { callee:=.value (.func 53),args:=#[.tmp 66,.tmp 67],argTypes:=#[57,63] },none⟩,
  ⟨some 69,.binOp .add 3 (.const (.int .i64 1)) (.tmp 68) 3,none⟩,
  ⟨some 70,.move (.tmp 9),none⟩,
  ⟨some 71,.binOp .eql 3 (.tmp 69) (.tmp 70) 3,none⟩]
@[reducible] def q19_16:SCode:=.region [⟨some 72,.move (.tmp 10),none⟩,
  ⟨some 73,.move (.tmp 11),none⟩,
  ⟨some 74,.buildSlice 22 1 #[(0,.tmp 73)],none⟩,
  ⟨some 75,.call { callee:=.builtin .append,args:=#[.tmp 72,.tmp 74],argTypes:=#[22,22] },none⟩,
  ⟨some 10,.assign (.tmp 75),none⟩]
@[reducible] def q19_17:SCode:=.region [⟨some 76,.move (.tmp 12),none⟩,
  ⟨some 8,.assign (.tmp 76),none⟩]
@[reducible] def q19_18:SCode:=.region [⟨some 77,.move (.tmp 9),none⟩,
  ⟨some 78,.binOp .sub 3 (.tmp 77) (.const (.int .i64 1)) 3,none⟩,
  ⟨some 9,.assign (.tmp 78),none⟩]
@[reducible] def q19_19:SCode:=.region [⟨some 79,.binOp .add 3 (.tmp 45) (.const (.int .i64 1)) 3,none⟩,
  ⟨some 45,.move (.tmp 79),none⟩]
def l19_0:SCode:=(.seq q19_10 (.seq (.cond (.tmp 46) .skip (.exit 0)) (.seq (.block 1 (.seq q19_11 (.seq (.seq q19_12 (.cond (.tmp 52) (.exit 1) .skip)) (.seq q19_13 (.seq q19_14 (.seq q19_15 (.cond (.tmp 71) (.seq q19_16 (.seq q19_17 q19_18)) .skip))))))) q19_19)))
@[reducible] def q19_20:SCode:=.region [⟨some 80,.move (.tmp 10),none⟩,
  ⟨some 4,.assign (.tmp 80),none⟩,
  ⟨some 5,.assign (.const (.int .i64 0)),none⟩]
def s19:SCode:=(.seq q19_0 (.seq (.seq q19_1 (.cond (.tmp 23) (.seq q19_2 .ret) .skip)) (.seq q19_3 (.seq (.seq q19_4 (.cond (.tmp 31) (.seq q19_5 .ret) .skip)) (.seq q19_6 (.seq q19_7 (.seq q19_8 (.seq (.seq q19_9 (.block 0 (.loop l19_0))) (.seq q19_20 .ret)))))))))
theorem s19_strip:Zy (Zw Tryd.f19)=s19:=by kernel_rfl
theorem s19_ok:Yn 81 (Zw Tryd.f19)=true:=by kernel_rfl
/-! 21: planchet planchetlaw05.awake -/
@[reducible] def q21_0:SCode:=.region [⟨some 0,.assign (.const (.bool false)),none⟩]
@[reducible] def q21_1:SCode:=.region [⟨some 4,.buildSlice 22 2 #[(0,.const (.int .i64 2)),(1,.const (.int .i64 1))],none⟩,
  ⟨some 5,.call { callee:=.value (.func 19),args:=#[.tmp 4,.const (.int .i64 1)],argTypes:=#[22,3] },none⟩,
  ⟨some 3,.move (.tmp 5),none⟩,
  ⟨some 6,.extract (.tmp 3) 0,none⟩,
  ⟨some 7,.extract (.tmp 3) 1,none⟩,
  ⟨some 1,.assign (.tmp 6),none⟩,
  ⟨some 2,.assign (.tmp 7),none⟩]
@[reducible] def q21_2:SCode:=.region [⟨some 8,.move (.tmp 2),none⟩,
  ⟨some 9,.binOp .eql 23 (.tmp 8) (.const (.int .i64 0)) 23,none⟩,
  ⟨some 10,.move (.tmp 9),none⟩,
  ⟨some 11,.move (.tmp 1),some (10,true)⟩,
  ⟨some 12,.buildSlice 22 1 #[(0,.const (.int .i64 0))],some (10,true)⟩,
  ⟨some 13,.call { callee:=.value (.func 24),args:=#[.tmp 11,.tmp 12],argTypes:=#[22,22] },some (10,true)⟩,
  ⟨some 14,.pick (.tmp 10) (.tmp 13) (.const (.bool false)),none⟩,
  ⟨some 0,.assign (.tmp 14),none⟩]
def s21:SCode:=(.seq q21_0 (.seq q21_1 (.seq q21_2 .ret)))
theorem s21_strip:Zy (Zw Tryd.f21)=s21:=by kernel_rfl
theorem s21_ok:Yn 15 (Zw Tryd.f21)=true:=by kernel_rfl
/-! 24: slices.Equal[[]int,int] -/
@[reducible] def q24_0:SCode:=.region [⟨some 4,.assign (.const (.bool false)),none⟩]
@[reducible] def q24_1:SCode:=.region [⟨some 6,.move (.tmp 0),none⟩,
  ⟨some 7,.call { callee:=.builtin .len,args:=#[.tmp 6],argTypes:=#[22] },none⟩,
  ⟨some 8,.move (.tmp 1),none⟩,
  ⟨some 9,.call { callee:=.builtin .len,args:=#[.tmp 8],argTypes:=#[22] },none⟩,
  ⟨some 10,.binOp .neq 3 (.tmp 7) (.tmp 9) 3,none⟩]
@[reducible] def q24_2:SCode:=.region [⟨some 4,.assign (.const (.bool false)),none⟩]
@[reducible] def q24_3:SCode:=.region [⟨some 11,.move (.tmp 0),none⟩,
  ⟨some 12,.call { callee:=.builtin .len,args:=#[.tmp 11],argTypes:=#[22] },none⟩,
  ⟨some 13,.move (.const (.int .i64 0)),none⟩]
@[reducible] def q24_4:SCode:=.region [⟨some 14,.binOp .lss 3 (.tmp 13) (.tmp 12) 3,none⟩]
@[reducible] def q24_5:SCode:=.region [⟨some 15,.move (.tmp 13),none⟩,
  ⟨some 5,.assign (.tmp 15),none⟩]
def q24_6:SCode:=.draw [⟨some 16,.move (.tmp 0),none⟩,
    ⟨some 17,.move (.tmp 5),none⟩,
    ⟨some 18,.indexAddr 22 (.tmp 16) (.tmp 17),none⟩,
    ⟨some 19,.load 3 (.tmp 18),none⟩,
    ⟨some 20,.move (.tmp 1),none⟩,
    ⟨some 21,.move (.tmp 5),none⟩,
    ⟨some 22,.indexAddr 22 (.tmp 20) (.tmp 21),none⟩,
    ⟨some 23,.load 3 (.tmp 22),none⟩,
    ⟨some 24,.binOp .neq 3 (.tmp 19) (.tmp 23) 3,none⟩]
  [[],[],[0,1],[2],[],[],[4,5],[6],[3,7]]
@[reducible] def q24_7:SCode:=.region [⟨some 4,.assign (.const (.bool false)),none⟩]
@[reducible] def q24_8:SCode:=.region [⟨some 25,.binOp .add 3 (.tmp 13) (.const (.int .i64 1)) 3,none⟩,
  ⟨some 13,.move (.tmp 25),none⟩]
def l24_0:SCode:=(.seq q24_4 (.seq (.cond (.tmp 14) .skip (.exit 0)) (.seq (.block 1 (.seq q24_5 (.seq q24_6 (.cond (.tmp 24) (.seq q24_7 .ret) .skip)))) q24_8)))
@[reducible] def q24_9:SCode:=.region [⟨some 4,.assign (.const (.bool true)),none⟩]
def s24:SCode:=(.seq q24_0 (.seq (.seq q24_1 (.cond (.tmp 10) (.seq q24_2 .ret) .skip)) (.seq (.seq q24_3 (.block 0 (.loop l24_0))) (.seq q24_9 .ret))))
theorem s24_strip:Zy (Zw Tryd.f24)=s24:=by kernel_rfl
theorem s24_ok:Yn 26 (Zw Tryd.f24)=true:=by kernel_rfl
theorem s24_call [Tabs Tryd.prog] {args:List Value} {h:Zh} {Q:Value→Zh→Prop} (hsz:args.length≤26) (hk:aw Tryd.prog 26 s24 (Zu Tryd.prog [.tmp 4] Q) (Zt 0 args) h):ACall Tryd.prog 24 args h Q :=
 Ww Tryd.func24 rfl (enters_of Tryd.func24 (by kernel_rfl) rfl) rfl rfl (by decide) s24_strip s24_ok hsz hk
/-! 26: slices.Clone[[]int,int] -/
@[reducible] def q26_0:SCode:=.region [⟨some 2,.assign (.const (.slice none 0 0)),none⟩]
@[reducible] def q26_1:SCode:=.region [⟨some 3,.move (.tmp 0),none⟩,
  ⟨some 4,.binOp .eql 22 (.tmp 3) (.const (.slice none 0 0)) 22,none⟩]
@[reducible] def q26_2:SCode:=.region [⟨some 2,.assign (.const (.slice none 0 0)),none⟩]
@[reducible] def q26_3:SCode:=.region [⟨some 5,.buildSlice 22 0 #[],none⟩,
  ⟨some 6,.move (.tmp 0),none⟩,
  ⟨some 7,.call { callee:=.builtin .append,args:=#[.tmp 5,.tmp 6],argTypes:=#[22,22] },none⟩,
  ⟨some 2,.assign (.tmp 7),none⟩]
def s26:SCode:=(.seq q26_0 (.seq (.seq q26_1 (.cond (.tmp 4) (.seq q26_2 .ret) .skip)) (.seq q26_3 .ret)))
theorem s26_strip:Zy (Zw Tryd.f26)=s26:=by kernel_rfl
theorem s26_ok:Yn 8 (Zw Tryd.f26)=true:=by kernel_rfl
theorem s26_call [Tabs Tryd.prog] {args:List Value} {h:Zh} {Q:Value→Zh→Prop} (hsz:args.length≤8) (hk:aw Tryd.prog 8 s26 (Zu Tryd.prog [.tmp 2] Q) (Zt 0 args) h):ACall Tryd.prog 26 args h Q :=
 Ww Tryd.func26 rfl (enters_of Tryd.func26 (by kernel_rfl) rfl) rfl rfl (by decide) s26_strip s26_ok hsz hk
/-! 51: (planchet sure.graph).valid -/
@[reducible] def q51_0:SCode:=.region [⟨some 2,.assign (.const (.bool false)),none⟩]
@[reducible] def q51_1:SCode:=.region [⟨some 7,.move (.tmp 0),none⟩,
  ⟨some 8,.call { callee:=.builtin .len,args:=#[.tmp 7],argTypes:=#[56] },none⟩,
  ⟨some 3,.assign (.tmp 8),none⟩]
@[reducible] def q51_2:SCode:=.region [⟨some 9,.move (.tmp 3),none⟩,
  ⟨some 10,.binOp .lss 3 (.tmp 9) (.const (.int .i64 1)) 3,none⟩,
  ⟨some 11,.move (.tmp 10),none⟩,
  ⟨some 12,.move (.tmp 3),some (11,false)⟩,
  ⟨some 13,.binOp .gtr 3 (.tmp 12) (.const (.int .i64 6)) 3,some (11,false)⟩,
  ⟨some 14,.pick (.tmp 11) (.const (.bool true)) (.tmp 13),none⟩]
@[reducible] def q51_3:SCode:=.region [⟨some 2,.assign (.const (.bool false)),none⟩]
@[reducible] def q51_4:SCode:=.region [⟨some 15,.move (.tmp 0),none⟩,
  ⟨some 16,.call { callee:=.builtin .len,args:=#[.tmp 15],argTypes:=#[56] },none⟩,
  ⟨some 17,.move (.const (.int .i64 0)),none⟩]
@[reducible] def q51_5:SCode:=.region [⟨some 18,.binOp .lss 3 (.tmp 17) (.tmp 16) 3,none⟩]
@[reducible] def q51_6:SCode:=.region [⟨some 19,.move (.tmp 17),none⟩,
  ⟨some 20,.indexAddr 56 (.tmp 15) (.tmp 17),none⟩,
  ⟨some 21,.load 3 (.tmp 20),none⟩,
  ⟨some 4,.assign (.tmp 19),none⟩,
  ⟨some 5,.assign (.tmp 21),none⟩]
@[reducible] def q51_7:SCode:=.region [⟨some 22,.move (.tmp 5),none⟩,
  ⟨some 23,.binOp .lss 3 (.tmp 22) (.const (.int .i64 0)) 3,none⟩,
  ⟨some 24,.move (.tmp 23),none⟩,
  ⟨some 25,.move (.tmp 5),some (24,false)⟩,
  ⟨some 26,.move (.tmp 3),some (24,false)⟩,
  ⟨some 27,.binOp .shl 3 (.const (.int .i64 1)) (.tmp 26) 3,some (24,false)⟩,
  ⟨some 28,.binOp .geq 3 (.tmp 25) (.tmp 27) 3,some (24,false)⟩,
  ⟨some 29,.pick (.tmp 24) (.const (.bool true)) (.tmp 28),none⟩,
  ⟨some 30,.move (.tmp 29),none⟩,
  ⟨some 31,.move (.tmp 5),some (30,false)⟩,
  ⟨some 32,.move (.tmp 4),some (30,false)⟩,
  ⟨some 33,.binOp .shr 3 (.tmp 31) (.tmp 32) 3,some (30,false)⟩,
  ⟨some 34,.binOp .and 3 (.tmp 33) (.const (.int .i64 1)) 3,some (30,false)⟩,
  ⟨some 35,.binOp .eql 3 (.tmp 34) (.const (.int .i64 1)) 3,some (30,false)⟩,
  ⟨some 36,.pick (.tmp 30) (.const (.bool true)) (.tmp 35),none⟩]
@[reducible] def q51_8:SCode:=.region [⟨some 2,.assign (.const (.bool false)),none⟩]
@[reducible] def q51_9:SCode:=.region [⟨some 37,.move (.tmp 3),none⟩,
  ⟨some 38,.move (.const (.int .i64 0)),none⟩]
@[reducible] def q51_10:SCode:=.region [⟨some 39,.binOp .lss 3 (.tmp 38) (.tmp 37) 3,none⟩]
@[reducible] def q51_11:SCode:=.region [⟨some 40,.move (.tmp 38),none⟩,
  ⟨some 6,.assign (.tmp 40),none⟩]
def q51_12:SCode:=.draw [⟨some 41,.move (.tmp 5),none⟩,
    ⟨some 42,.move (.tmp 6),none⟩,
    ⟨some 43,.binOp .shr 3 (.tmp 41) (.tmp 42) 3,none⟩,
    ⟨some 44,.binOp .and 3 (.tmp 43) (.const (.int .i64 1)) 3,none⟩,
    ⟨some 45,.move (.tmp 0),none⟩,
    ⟨some 46,.move (.tmp 6),none⟩,
    ⟨some 47,.indexAddr 56 (.tmp 45) (.tmp 46),none⟩,
    ⟨some 48,.load 3 (.tmp 47),none⟩,
    ⟨some 49,.move (.tmp 4),none⟩,
    ⟨some 50,.binOp .shr 3 (.tmp 48) (.tmp 49) 3,none⟩,
    ⟨some 51,.binOp .and 3 (.tmp 50) (.const (.int .i64 1)) 3,none⟩,
    ⟨some 52,.binOp .neq 3 (.tmp 44) (.tmp 51) 3,none⟩]
  [[],[],[0,1],[2],[],[],[4,5],[6],[],[7,8],[9],[3,10]]
@[reducible] def q51_13:SCode:=.region [⟨some 2,.assign (.const (.bool false)),none⟩]
@[reducible] def q51_14:SCode:=.region [⟨some 53,.binOp .add 3 (.tmp 38) (.const (.int .i64 1)) 3,none⟩,
  ⟨some 38,.move (.tmp 53),none⟩]
def l51_0:SCode:=(.seq q51_10 (.seq (.cond (.tmp 39) .skip (.exit 2)) (.seq (.block 3 (.seq q51_11 (.seq q51_12 (.cond (.tmp 52) (.seq q51_13 .ret) .skip)))) q51_14)))
@[reducible] def q51_15:SCode:=.region [⟨some 54,.binOp .add 3 (.tmp 17) (.const (.int .i64 1)) 3,none⟩,
  ⟨some 17,.move (.tmp 54),none⟩]
def l51_1:SCode:=(.seq q51_5 (.seq (.cond (.tmp 18) .skip (.exit 0)) (.seq (.block 1 (.seq q51_6 (.seq (.seq q51_7 (.cond (.tmp 36) (.seq q51_8 .ret) .skip)) (.seq q51_9 (.block 2 (.loop l51_0)))))) q51_15)))
@[reducible] def q51_16:SCode:=.region [⟨some 2,.assign (.const (.bool true)),none⟩]
def s51:SCode:=(.seq q51_0 (.seq q51_1 (.seq (.seq q51_2 (.cond (.tmp 14) (.seq q51_3 .ret) .skip)) (.seq (.seq q51_4 (.block 0 (.loop l51_1))) (.seq q51_16 .ret)))))
theorem s51_strip:Zy (Zw Tryd.f51)=s51:=by kernel_rfl
theorem s51_ok:Yn 55 (Zw Tryd.f51)=true:=by kernel_rfl
theorem s51_call [Tabs Tryd.prog] {args:List Value} {h:Zh} {Q:Value→Zh→Prop} (hsz:args.length≤55) (hk:aw Tryd.prog 55 s51 (Zu Tryd.prog [.tmp 2] Q) (Zt 0 args) h):ACall Tryd.prog 51 args h Q :=
 Ww Tryd.func51 rfl (enters_of Tryd.func51 (by kernel_rfl) rfl) rfl rfl (by decide) s51_strip s51_ok hsz hk
/-! 52: (planchet sure.graph).words -/
@[reducible] def q52_0:SCode:=.region [⟨some 4,.assign (.const (.pointer none)),none⟩,
  ⟨some 5,.assign (.const (.bool false)),none⟩]
@[reducible] def q52_1:SCode:=.region [⟨some 10,.build 62 #[(0,.const (.int .i64 1))],none⟩,
  ⟨some 11,.box 62 (.tmp 10),none⟩,
  ⟨some 6,.assign (.tmp 11),none⟩]
@[reducible] def q52_2:SCode:=.region [⟨some 12,.move (.tmp 1),none⟩,
  ⟨some 13,.move (.const (.int .i64 0)),none⟩]
@[reducible] def q52_3:SCode:=.region [⟨some 14,.binOp .lss 3 (.tmp 13) (.tmp 12) 3,none⟩]
@[reducible] def q52_4:SCode:=.region [⟨some 15,.move (.tmp 6),none⟩,
  ⟨some 16,.nilCheck (.tmp 15),none⟩,
  ⟨some 17,.fieldAddr 62 (.tmp 16) 0,none⟩,
  ⟨some 18,.load 3 (.tmp 17),none⟩,
  ⟨some 19,.move (.tmp 0),none⟩,
  ⟨some 20,.call { callee:=.builtin .len,args:=#[.tmp 19],argTypes:=#[56] },none⟩,
  ⟨some 21,.binOp .mul 3 (.tmp 18) (.tmp 20) 3,none⟩,
  ⟨some 22,.nilCheck (.tmp 15),none⟩,
  ⟨some 23,.fieldAddr 62 (.tmp 22) 0,none⟩,
  ⟨none,.store 3 (.tmp 23) (.tmp 21),none⟩]
@[reducible] def q52_5:SCode:=.region [⟨some 24,.move (.tmp 6),none⟩,
  ⟨some 25,.nilCheck (.tmp 24),none⟩,
  ⟨some 26,.fieldAddr 62 (.tmp 25) 0,none⟩,
  ⟨some 27,.load 3 (.tmp 26),none⟩,
  ⟨some 28,.binOp .gtr 3 (.tmp 27) (.const (.int .i64 64)) 3,none⟩]
@[reducible] def q52_6:SCode:=.region [⟨some 4,.assign (.const (.pointer none)),none⟩,
  ⟨some 5,.assign (.const (.bool false)),none⟩]
@[reducible] def q52_7:SCode:=.region [⟨some 29,.binOp .add 3 (.tmp 13) (.const (.int .i64 1)) 3,none⟩,
  ⟨some 13,.move (.tmp 29),none⟩]
def l52_0:SCode:=(.seq q52_3 (.seq (.cond (.tmp 14) .skip (.exit 0)) (.seq (.block 1 (.seq q52_4 (.seq q52_5 (.cond (.tmp 28) (.seq q52_6 .ret) .skip)))) q52_7)))
@[reducible] def q52_8:SCode:=.region [⟨some 30,.move (.tmp 6),none⟩,
  ⟨some 31,.nilCheck (.tmp 30),none⟩,
  ⟨some 32,.fieldAddr 62 (.tmp 31) 0,none⟩,
  ⟨some 33,.load 3 (.tmp 32),none⟩,
  ⟨some 34,.move (.const (.int .i64 0)),none⟩]
@[reducible] def q52_9:SCode:=.region [⟨some 35,.binOp .lss 3 (.tmp 34) (.tmp 33) 3,none⟩]
@[reducible] def q52_10:SCode:=.region [⟨some 36,.move (.tmp 34),none⟩,
  ⟨some 7,.assign (.tmp 36),none⟩]
@[reducible] def q52_11:SCode:=.region [⟨some 8,.assign (.const (.int .u64 0)),none⟩]
@[reducible] def q52_12:SCode:=.region [⟨some 37,.move (.tmp 6),none⟩,
  ⟨some 38,.nilCheck (.tmp 37),none⟩,
  ⟨some 39,.fieldAddr 62 (.tmp 38) 0,none⟩,
  ⟨some 40,.load 3 (.tmp 39),none⟩,
  ⟨some 41,.move (.const (.int .i64 0)),none⟩]
@[reducible] def q52_13:SCode:=.region [⟨some 42,.binOp .lss 3 (.tmp 41) (.tmp 40) 3,none⟩]
@[reducible] def q52_14:SCode:=.region [⟨some 43,.move (.tmp 41),none⟩,
  ⟨some 9,.assign (.tmp 43),none⟩]
@[reducible] def q52_15:SCode:=.region [⟨some 44,.move (.tmp 7),none⟩,
  ⟨some 45,.move (.tmp 9),none⟩,
  ⟨some 46,.binOp .neq 3 (.tmp 44) (.tmp 45) 3,none⟩,
  ⟨some 47,.move (.tmp 46),none⟩,
  ⟨some 48,.move (.tmp 0),some (47,true)⟩,
  ⟨some 49,.move (.tmp 7),some (47,true)⟩,
  ⟨some 50,.move (.tmp 9),some (47,true)⟩,
  ⟨some 51,.move (.tmp 1),some (47,true)⟩,
  ⟨some 52,.call { callee:=.value (.func 77),args:=#[.tmp 48,.tmp 49,.tmp 50,.tmp 51],argTypes:=#[56,3,3,3] },some (47,true)⟩,
  ⟨some 53,.pick (.tmp 47) (.tmp 52) (.const (.bool false)),none⟩]
@[reducible] def q52_16:SCode:=.region [⟨some 54,.move (.tmp 8),none⟩,
  ⟨some 55,.move (.tmp 9),none⟩,
  ⟨some 56,.binOp .shl 63 (.const (.int .u64 1)) (.tmp 55) 3,none⟩,
  ⟨some 57,.binOp .or 63 (.tmp 54) (.tmp 56) 63,none⟩,
  ⟨some 8,.assign (.tmp 57),none⟩]
@[reducible] def q52_17:SCode:=.region [⟨some 58,.binOp .add 3 (.tmp 41) (.const (.int .i64 1)) 3,none⟩,
  ⟨some 41,.move (.tmp 58),none⟩]
def l52_1:SCode:=(.seq q52_13 (.seq (.cond (.tmp 42) .skip (.exit 4)) (.seq (.block 5 (.seq q52_14 (.seq q52_15 (.cond (.tmp 53) q52_16 .skip)))) q52_17)))
@[reducible] def q52_18:SCode:=.region [⟨some 59,.move (.tmp 6),none⟩,
  ⟨some 60,.move (.tmp 6),none⟩,
  ⟨some 61,.nilCheck (.tmp 60),none⟩,
  ⟨some 62,.fieldAddr 62 (.tmp 61) 1,none⟩,
  ⟨some 63,.load 60 (.tmp 62),none⟩,
  ⟨some 64,.move (.tmp 8),none⟩,
  ⟨some 65,.buildSlice 60 1 #[(0,.tmp 64)],none⟩,
  ⟨some 66,.call { callee:=.builtin .append,args:=#[.tmp 63,.tmp 65],argTypes:=#[60,60] },none⟩,
  ⟨some 67,.nilCheck (.tmp 59),none⟩,
  ⟨some 68,.fieldAddr 62 (.tmp 67) 1,none⟩,
  ⟨none,.store 60 (.tmp 68) (.tmp 66),none⟩]
@[reducible] def q52_19:SCode:=.region [⟨some 69,.binOp .add 3 (.tmp 34) (.const (.int .i64 1)) 3,none⟩,
  ⟨some 34,.move (.tmp 69),none⟩]
def l52_2:SCode:=(.seq q52_9 (.seq (.cond (.tmp 35) .skip (.exit 2)) (.seq (.block 3 (.seq q52_10 (.seq q52_11 (.seq (.seq q52_12 (.block 4 (.loop l52_1))) q52_18)))) q52_19)))
@[reducible] def q52_20:SCode:=.region [⟨some 70,.move (.tmp 6),none⟩,
  ⟨some 4,.assign (.tmp 70),none⟩,
  ⟨some 5,.assign (.const (.bool true)),none⟩]
def s52:SCode:=(.seq q52_0 (.seq q52_1 (.seq (.seq q52_2 (.block 0 (.loop l52_0))) (.seq (.seq q52_8 (.block 2 (.loop l52_2))) (.seq q52_20 .ret)))))
theorem s52_strip:Zy (Zw Tryd.f52)=s52:=by kernel_rfl
theorem s52_ok:Yn 71 (Zw Tryd.f52)=true:=by kernel_rfl
theorem s52_call [Tabs Tryd.prog] {args:List Value} {h:Zh} {Q:Value→Zh→Prop} (hsz:args.length≤71) (hk:aw Tryd.prog 71 s52 (Zu Tryd.prog [.tmp 4,.tmp 5] Q) (Zt 0 args) h):ACall Tryd.prog 52 args h Q :=
 Ww Tryd.func52 rfl (enters_of Tryd.func52 (by kernel_rfl) rfl) rfl rfl (by decide) s52_strip s52_ok hsz hk
/-! 53: (planchet sure.words).most -/
@[reducible] def q53_0:SCode:=.region [⟨some 4,.assign (.const (.int .i64 0)),none⟩]
@[reducible] def q53_1:SCode:=.region [⟨some 5,.assign (.const (.int .i64 0)),none⟩]
@[reducible] def q53_2:SCode:=.region [⟨some 11,.move (.tmp 1),none⟩,
  ⟨some 12,.binOp .neq 63 (.tmp 11) (.const (.int .u64 0)) 63,none⟩]
@[reducible] def q53_3:SCode:=.region [⟨some 6,.assign (.const (.int .i64 (-1))),none⟩,
  ⟨some 7,.assign (.const (.int .i64 (-1))),none⟩]
@[reducible] def q53_4:SCode:=.region [⟨some 13,.move (.tmp 1),none⟩,
  ⟨some 8,.assign (.tmp 13),none⟩]
@[reducible] def q53_5:SCode:=.region [⟨some 14,.move (.tmp 8),none⟩,
  ⟨some 15,.binOp .neq 63 (.tmp 14) (.const (.int .u64 0)) 63,none⟩]
@[reducible] def q53_7:SCode:=.region [⟨some 20,.move (.tmp 8),none⟩,
  ⟨some 21,.call { callee:=.value (.func 78),args:=#[.tmp 20],argTypes:=#[63] },none⟩,
  ⟨some 9,.assign (.tmp 21),none⟩]
@[reducible] def q53_8:SCode:=.region [⟨some 22,.move (.tmp 0),none⟩,
  ⟨some 23,.nilCheck (.tmp 22),none⟩,
  ⟨some 24,.fieldAddr 62 (.tmp 23) 1,none⟩,
  ⟨some 25,.load 60 (.tmp 24),none⟩,
  ⟨some 26,.move (.tmp 9),none⟩,
  ⟨some 27,.indexAddr 60 (.tmp 25) (.tmp 26),none⟩,
  ⟨some 28,.load 63 (.tmp 27),none⟩,
  ⟨some 29,.move (.tmp 1),none⟩,
  ⟨some 30,.binOp .and 63 (.tmp 28) (.tmp 29) 63,none⟩,
  ⟨some 31,.call { callee:=.value (.func 79),args:=#[.tmp 30],argTypes:=#[63] },none⟩,
  ⟨some 10,.assign (.tmp 31),none⟩]
@[reducible] def q53_9:SCode:=.region [⟨some 32,.move (.tmp 10),none⟩,
  ⟨some 33,.binOp .leq 3 (.tmp 32) (.const (.int .i64 1)) 3,none⟩]
@[reducible] def q53_10:SCode:=.region [⟨some 34,.move (.tmp 9),none⟩,
  ⟨some 35,.move (.tmp 10),none⟩,
  ⟨some 6,.assign (.tmp 34),none⟩,
  ⟨some 7,.assign (.tmp 35),none⟩]
@[reducible] def q53_11:SCode:=.region [⟨some 36,.move (.tmp 10),none⟩,
  ⟨some 37,.move (.tmp 7),none⟩,
  ⟨some 38,.binOp .gtr 3 (.tmp 36) (.tmp 37) 3,none⟩]
@[reducible] def q53_12:SCode:=.region [⟨some 39,.move (.tmp 9),none⟩,
  ⟨some 40,.move (.tmp 10),none⟩,
  ⟨some 6,.assign (.tmp 39),none⟩,
  ⟨some 7,.assign (.tmp 40),none⟩]
@[reducible] def q53_6:SCode:=.region [⟨some 16,.move (.tmp 8),none⟩,
  ⟨some 17,.move (.tmp 8),none⟩,
  ⟨some 18,.binOp .sub 63 (.tmp 17) (.const (.int .u64 1)) 63,none⟩,
  ⟨some 19,.binOp .and 63 (.tmp 16) (.tmp 18) 63,none⟩,
  ⟨some 8,.assign (.tmp 19),none⟩]
def l53_0:SCode:=(.seq (.seq q53_5 (.cond (.tmp 15) .skip (.exit 2))) (.seq (.block 3 (.seq q53_7 (.seq q53_8 (.seq (.seq q53_9 (.cond (.tmp 33) (.seq q53_10 (.exit 2)) .skip)) (.seq q53_11 (.cond (.tmp 38) q53_12 .skip)))))) q53_6))
@[reducible] def q53_13:SCode:=.region [⟨some 41,.move (.tmp 7),none⟩,
  ⟨some 42,.binOp .gtr 3 (.tmp 41) (.const (.int .i64 1)) 3,none⟩]
def q53_14:SCode:=.draw [⟨some 43,.move (.tmp 5),none⟩,
    ⟨some 44,.move (.tmp 0),none⟩,
    ⟨some 45,.move (.tmp 1),none⟩,
    ⟨some 46,.move (.tmp 0),none⟩,
    ⟨some 47,.nilCheck (.tmp 46),none⟩,
    ⟨some 48,.fieldAddr 62 (.tmp 47) 1,none⟩,
    ⟨some 49,.load 60 (.tmp 48),none⟩,
    ⟨some 50,.move (.tmp 6),none⟩,
    ⟨some 51,.indexAddr 60 (.tmp 49) (.tmp 50),none⟩,
    ⟨some 52,.load 63 (.tmp 51),none⟩,
    ⟨some 53,.binOp .andNot 63 (.tmp 45) (.tmp 52) 63,none⟩,
    ⟨some 54,.move (.tmp 6),none⟩,
    ⟨some 55,.binOp .shl 63 (.const (.int .u64 1)) (.tmp 54) 3,none⟩,
    ⟨some 56,.binOp .andNot 63 (.tmp 53) (.tmp 55) 63,none⟩,
    ⟨some 57,.call { callee:=.value (.func 53),args:=#[.tmp 44,.tmp 56],argTypes:=#[57,63] },none⟩,
    ⟨some 58,.binOp .add 3 (.const (.int .i64 1)) (.tmp 57) 3,none⟩,
    ⟨some 59,.move (.tmp 0),none⟩,
    ⟨some 60,.move (.tmp 1),none⟩,
    ⟨some 61,.move (.tmp 6),none⟩,
    ⟨some 62,.binOp .shl 63 (.const (.int .u64 1)) (.tmp 61) 3,none⟩,
    ⟨some 63,.binOp .andNot 63 (.tmp 60) (.tmp 62) 63,none⟩,
    ⟨some 64,.call { callee:=.value (.func 53),args:=#[.tmp 59,.tmp 63],argTypes:=#[57,63] },none⟩,
    ⟨some 65,.call { callee:=.builtin .max,args:=#[.tmp 58,.tmp 64],argTypes:=#[3,3] },none⟩,
    ⟨some 66,.binOp .add 3 (.tmp 43) (.tmp 65) 3,none⟩,
    ⟨some 4,.assign (.tmp 66),none⟩]
  [[],[],[],[],[3],[4],[5],[],[6,7],[8],[2,9],[],[11],[10,12],[1,13],[14],[],[],[],[18],[17,19],[16,20,14],[15,21],[0,22],[23,21,0,1,2,3,4,5,6,7,8,9,10,11,12,13,14,15,16,17,18,19,20,21,22,23]]
@[reducible] def q53_15:SCode:=.region [⟨some 67,.move (.tmp 5),none⟩,
  ⟨some 68,.binOp .add 3 (.tmp 67) (.const (.int .i64 1)) 3,none⟩,
  ⟨some 5,.assign (.tmp 68),none⟩]
def q53_16:SCode:=.draw [⟨some 69,.move (.tmp 1),none⟩,
    ⟨some 70,.move (.tmp 0),none⟩,
    ⟨some 71,.nilCheck (.tmp 70),none⟩,
    ⟨some 72,.fieldAddr 62 (.tmp 71) 1,none⟩,
    ⟨some 73,.load 60 (.tmp 72),none⟩,
    ⟨some 74,.move (.tmp 6),none⟩,
    ⟨some 75,.indexAddr 60 (.tmp 73) (.tmp 74),none⟩,
    ⟨some 76,.load 63 (.tmp 75),none⟩,
    ⟨some 77,.move (.tmp 6),none⟩,
    ⟨some 78,.binOp .shl 63 (.const (.int .u64 1)) (.tmp 77) 3,none⟩,
    ⟨some 79,.binOp .or 63 (.tmp 76) (.tmp 78) 63,none⟩,
    ⟨some 80,.binOp .andNot 63 (.tmp 69) (.tmp 79) 63,none⟩,
    ⟨some 1,.assign (.tmp 80),none⟩]
  [[],[],[1],[2],[3],[],[4,5],[6],[],[8],[7,9],[0,10],[11,0,1,2,3,4,5,6,7,8,9,10,11]]
def l53_1:SCode:=(.seq (.seq q53_2 (.cond (.tmp 12) .skip (.exit 0))) (.block 1 (.seq q53_3 (.seq (.seq q53_4 (.block 2 (.loop l53_0))) (.seq (.seq q53_13 (.cond (.tmp 42) (.seq q53_14 .ret) .skip)) (.seq q53_15 q53_16))))))
@[reducible] def q53_17:SCode:=.region [⟨some 81,.move (.tmp 5),none⟩,
  ⟨some 4,.assign (.tmp 81),none⟩]
def s53:SCode:=(.seq q53_0 (.seq q53_1 (.seq (.block 0 (.loop l53_1)) (.seq q53_17 .ret))))
theorem s53_strip:Zy (Zw Tryd.f53)=s53:=by kernel_rfl
theorem s53_ok:Yn 82 (Zw Tryd.f53)=true:=by kernel_rfl
theorem s53_call [Tabs Tryd.prog] {args:List Value} {h:Zh} {Q:Value→Zh→Prop} (hsz:args.length≤82) (hk:aw Tryd.prog 82 s53 (Zu Tryd.prog [.tmp 4] Q) (Zt 0 args) h):ACall Tryd.prog 53 args h Q :=
 Ww Tryd.func53 rfl (enters_of Tryd.func53 (by kernel_rfl) rfl) rfl rfl (by decide) s53_strip s53_ok hsz hk
/-! 77: (planchet sure.graph).confused -/
@[reducible] def q77_0:SCode:=.region [⟨some 8,.assign (.const (.bool false)),none⟩]
@[reducible] def q77_1:SCode:=.region [⟨some 11,.move (.tmp 3),none⟩,
  ⟨some 12,.move (.const (.int .i64 0)),none⟩]
@[reducible] def q77_2:SCode:=.region [⟨some 13,.binOp .lss 3 (.tmp 12) (.tmp 11) 3,none⟩]
def q77_3:SCode:=.draw [⟨some 14,.move (.tmp 1),none⟩,
    ⟨some 15,.move (.tmp 0),none⟩,
    ⟨some 16,.call { callee:=.builtin .len,args:=#[.tmp 15],argTypes:=#[56] },none⟩,
    ⟨some 17,.binOp .rem 3 (.tmp 14) (.tmp 16) 3,none⟩,
    ⟨some 18,.move (.tmp 2),none⟩,
    ⟨some 19,.move (.tmp 0),none⟩,
    ⟨some 20,.call { callee:=.builtin .len,args:=#[.tmp 19],argTypes:=#[56] },none⟩,
    ⟨some 21,.binOp .rem 3 (.tmp 18) (.tmp 20) 3,none⟩,
    ⟨some 9,.assign (.tmp 17),none⟩,
    ⟨some 10,.assign (.tmp 21),none⟩]
  [[],[],[1],[0,2],[],[],[5],[4,6],[3,0,1,2,3],[7,8,0,1,2,3,4,5,6,7,8]]
@[reducible] def q77_4:SCode:=.region [⟨some 22,.move (.tmp 9),none⟩,
  ⟨some 23,.move (.tmp 10),none⟩,
  ⟨some 24,.binOp .neq 3 (.tmp 22) (.tmp 23) 3,none⟩,
  ⟨some 25,.move (.tmp 24),none⟩,
  ⟨some 26,.move (.tmp 0),some (25,true)⟩,
  ⟨some 27,.move (.tmp 9),some (25,true)⟩,
  ⟨some 28,.indexAddr 56 (.tmp 26) (.tmp 27),some (25,true)⟩,
  ⟨some 29,.load 3 (.tmp 28),some (25,true)⟩,
  ⟨some 30,.move (.tmp 10),some (25,true)⟩,
  ⟨some 31,.binOp .shr 3 (.tmp 29) (.tmp 30) 3,some (25,true)⟩,
  ⟨some 32,.binOp .and 3 (.tmp 31) (.const (.int .i64 1)) 3,some (25,true)⟩,
  ⟨some 33,.binOp .eql 3 (.tmp 32) (.const (.int .i64 0)) 3,some (25,true)⟩,
  ⟨some 34,.pick (.tmp 25) (.tmp 33) (.const (.bool false)),none⟩]
@[reducible] def q77_5:SCode:=.region [⟨some 8,.assign (.const (.bool false)),none⟩]
def q77_6:SCode:=.draw [⟨some 35,.move (.tmp 1),none⟩,
    ⟨some 36,.move (.tmp 0),none⟩,
    ⟨some 37,.call { callee:=.builtin .len,args:=#[.tmp 36],argTypes:=#[56] },none⟩,
    ⟨some 38,.binOp .quo 3 (.tmp 35) (.tmp 37) 3,none⟩,
    ⟨some 39,.move (.tmp 2),none⟩,
    ⟨some 40,.move (.tmp 0),none⟩,
    ⟨some 41,.call { callee:=.builtin .len,args:=#[.tmp 40],argTypes:=#[56] },none⟩,
    ⟨some 42,.binOp .quo 3 (.tmp 39) (.tmp 41) 3,none⟩,
    ⟨some 1,.assign (.tmp 38),none⟩,
    ⟨some 2,.assign (.tmp 42),none⟩]
  [[],[],[1],[0,2],[],[],[5],[4,6],[3,0,1,2,3],[7,8,0,1,2,3,4,5,6,7,8]]
@[reducible] def q77_7:SCode:=.region [⟨some 43,.binOp .add 3 (.tmp 12) (.const (.int .i64 1)) 3,none⟩,
  ⟨some 12,.move (.tmp 43),none⟩]
def l77_0:SCode:=(.seq q77_2 (.seq (.cond (.tmp 13) .skip (.exit 0)) (.seq (.block 1 (.seq (.seq q77_3 (.seq q77_4 (.cond (.tmp 34) (.seq q77_5 .ret) .skip))) q77_6)) q77_7)))
@[reducible] def q77_8:SCode:=.region [⟨some 8,.assign (.const (.bool true)),none⟩]
def s77:SCode:=(.seq q77_0 (.seq (.seq q77_1 (.block 0 (.loop l77_0))) (.seq q77_8 .ret)))
theorem s77_strip:Zy (Zw Tryd.f77)=s77:=by kernel_rfl
theorem s77_ok:Yn 44 (Zw Tryd.f77)=true:=by kernel_rfl
theorem s77_call [Tabs Tryd.prog] {args:List Value} {h:Zh} {Q:Value→Zh→Prop} (hsz:args.length≤44) (hk:aw Tryd.prog 44 s77 (Zu Tryd.prog [.tmp 8] Q) (Zt 0 args) h):ACall Tryd.prog 77 args h Q :=
 Ww Tryd.func77 rfl (enters_of Tryd.func77 (by kernel_rfl) rfl) rfl rfl (by decide) s77_strip s77_ok hsz hk
/-! 79: math bits.OnesCount64 -/
@[reducible] def q79_0:SCode:=.region [⟨some 2,.assign (.const (.int .i64 0)),none⟩]
@[reducible] def q79_1:SCode:=.region [⟨some 3,.move (.tmp 0),none⟩,
  ⟨some 4,.binOp .shr 63 (.tmp 3) (.const (.int .u64 1)) 42,none⟩,
  ⟨some 5,.binOp .and 63 (.tmp 4) (.const (.int .u64 6148914691236517205)) 63,none⟩,
  ⟨some 6,.move (.tmp 0),none⟩,
  ⟨some 7,.binOp .and 63 (.tmp 6) (.const (.int .u64 6148914691236517205)) 63,none⟩,
  ⟨some 8,.binOp .add 63 (.tmp 5) (.tmp 7) 63,none⟩,
  ⟨some 0,.assign (.tmp 8),none⟩]
@[reducible] def q79_2:SCode:=.region [⟨some 9,.move (.tmp 0),none⟩,
  ⟨some 10,.binOp .shr 63 (.tmp 9) (.const (.int .u64 2)) 42,none⟩,
  ⟨some 11,.binOp .and 63 (.tmp 10) (.const (.int .u64 3689348814741910323)) 63,none⟩,
  ⟨some 12,.move (.tmp 0),none⟩,
  ⟨some 13,.binOp .and 63 (.tmp 12) (.const (.int .u64 3689348814741910323)) 63,none⟩,
  ⟨some 14,.binOp .add 63 (.tmp 11) (.tmp 13) 63,none⟩,
  ⟨some 0,.assign (.tmp 14),none⟩]
@[reducible] def q79_3:SCode:=.region [⟨some 15,.move (.tmp 0),none⟩,
  ⟨some 16,.binOp .shr 63 (.tmp 15) (.const (.int .u64 4)) 42,none⟩,
  ⟨some 17,.move (.tmp 0),none⟩,
  ⟨some 18,.binOp .add 63 (.tmp 16) (.tmp 17) 63,none⟩,
  ⟨some 19,.binOp .and 63 (.tmp 18) (.const (.int .u64 1085102592571150095)) 63,none⟩,
  ⟨some 0,.assign (.tmp 19),none⟩]
@[reducible] def q79_4:SCode:=.region [⟨some 20,.move (.tmp 0),none⟩,
  ⟨some 21,.move (.tmp 0),none⟩,
  ⟨some 22,.binOp .shr 63 (.tmp 21) (.const (.int .u64 8)) 42,none⟩,
  ⟨some 23,.binOp .add 63 (.tmp 20) (.tmp 22) 63,none⟩,
  ⟨some 0,.assign (.tmp 23),none⟩]
@[reducible] def q79_5:SCode:=.region [⟨some 24,.move (.tmp 0),none⟩,
  ⟨some 25,.move (.tmp 0),none⟩,
  ⟨some 26,.binOp .shr 63 (.tmp 25) (.const (.int .u64 16)) 42,none⟩,
  ⟨some 27,.binOp .add 63 (.tmp 24) (.tmp 26) 63,none⟩,
  ⟨some 0,.assign (.tmp 27),none⟩]
@[reducible] def q79_6:SCode:=.region [⟨some 28,.move (.tmp 0),none⟩,
  ⟨some 29,.move (.tmp 0),none⟩,
  ⟨some 30,.binOp .shr 63 (.tmp 29) (.const (.int .u64 32)) 42,none⟩,
  ⟨some 31,.binOp .add 63 (.tmp 28) (.tmp 30) 63,none⟩,
  ⟨some 0,.assign (.tmp 31),none⟩]
@[reducible] def q79_7:SCode:=.region [⟨some 32,.move (.tmp 0),none⟩,
  ⟨some 33,.convert 63 3 (.tmp 32),none⟩,
  ⟨some 34,.binOp .and 3 (.tmp 33) (.const (.int .i64 127)) 3,none⟩,
  ⟨some 2,.assign (.tmp 34),none⟩]
def s79:SCode:=(.seq q79_0 (.seq q79_1 (.seq q79_2 (.seq q79_3 (.seq q79_4 (.seq q79_5 (.seq q79_6 (.seq q79_7 .ret))))))))
theorem s79_strip:Zy (Zw Tryd.f79)=s79:=by kernel_rfl
theorem s79_ok:Yn 35 (Zw Tryd.f79)=true:=by kernel_rfl
theorem s79_call [Tabs Tryd.prog] {args:List Value} {h:Zh} {Q:Value→Zh→Prop} (hsz:args.length≤35) (hk:aw Tryd.prog 35 s79 (Zu Tryd.prog [.tmp 2] Q) (Zt 0 args) h):ACall Tryd.prog 79 args h Q :=
 Ww Tryd.func79 rfl (enters_of Tryd.func79 (by kernel_rfl) rfl) rfl rfl (by decide) s79_strip s79_ok hsz hk
end Go.Proofs.Tryd.Am
namespace Go.Proofs.Tryd
open Go.RowKit Go.Am
set_option maxHeartbeats 1000000 in
theorem tz64_core (x k idx:Nat) (w:World) (hx0:((x:Int)==0)=false)
  (key:IntKind.u64.wrap (bits BinOp.and IntKind.u64 (x:Int) (IntKind.u64.wrap (-(x:Int)))*285870213051353865) / 288230376151711744=(idx:Int))
  (hi:idx<64) (hk:k<64) (hcell:w.cell? ⟨0,idx,none⟩=some (.int .u8 k)) :
  Calls prog 78 #[.int .u64 x] w fun e w'=>e = .returned (.int .i64 k)∧w' = w:=by
 go_enter func78,ntmps78
 go_wp2_with (simp only [key])
 go_ret
 exact ⟨rfl,rfl⟩
theorem tz64_zero (w:World):Calls prog 78 #[.int .u64 0] w fun e w'=>e = .returned (.int .i64 64)∧w' = w:=by
 go_enter func78,ntmps78
 go_wp2
 go_ret
 exact ⟨rfl,rfl⟩
theorem tz64 (x:Nat) (hx:x<18446744073709551616) (w:World) (hT:x≠0→TabAt 0 Lib.deBruijn64tab w) :
  Calls prog 78 #[.int .u64 x] w fun e w'=>e = .returned (.int .i64 (Lib.ctz 64 x))∧w' = w:=by
 by_cases hx0:x=0
 · subst hx0; exact tz64_zero w
 · obtain ⟨hlow,hk⟩:=Lib.lowest_bit 64 x hx0 hx
   obtain ⟨hi,htab⟩:=Lib.deBruijn64_at _ hk
   have hcell:=hT hx0 _ hi
   rw [htab] at hcell
   exact tz64_core x _ _ w (by simp; omega) (tz64_key x _ hx hx0 hlow) hi hk hcell
theorem tabAt_of [T:BitTab prog 0] {w:World} (h : ∀ p∈Tabs.tabs prog,w.heap[p.1]? = some p.2):TabAt 0 Lib.deBruijn64tab w:=by
 intro j hj
 have:=h (0,_) (by rw [T.eq]; exact List.mem_singleton.2 rfl)
 simp only [World.cell?,this]
 simp [hj]
namespace Am
theorem tz_call [BitTab prog 0] {h:Zh} {x:Nat} (hx:x<18446744073709551616):Wo prog 78 [.int .u64 (x:Int)] h (.int .i64 (Lib.ctz 64 x:Nat)):=by
 refine ⟨enters_of func78 (by kernel_rfl) rfl,fun n ρ args' w s hr=>?_⟩
 have e:args' = #[.int .u64 (x:Int)]:=by
  apply Array.ext'
  obtain ⟨v',l',e1,h1,h2⟩:=hr.cons_inv
  have e2:l' = []:=List.length_eq_zero_iff.1 h2.1.symm
  rw [e1,h1.int,e2]
 subst e
 refine callsIn_wide.2 ((tz64 x hx w fun _=>tabAt_of fun p hp=>(s.tab p hp).1).mono ?_)
 rintro en w' ⟨rfl,rfl⟩
 exact ⟨_,_,ρ,h,rfl,⟨rfl,rfl⟩,VRel.atom rfl,Evo.refl _ _ _,s⟩
end Am
end Go.Proofs.Tryd
namespace Oc
open Go.Am
def M1:Nat→Nat | 0=>0 | n+1=>256*M1 n+85
def M2:Nat→Nat | 0=>0 | n+1=>256*M2 n+51
def M3:Nat→Nat | 0=>0 | n+1=>256*M3 n+15
def f1 (n x:Nat):Nat:=(x / 2 &&& M1 n)+(x &&& M1 n)
def f2 (n x:Nat):Nat:=(x / 4 &&& M2 n)+(x &&& M2 n)
def f3 (n x:Nat):Nat:=(x / 16+x) &&& M3 n
theorem and_split {a b m M:Nat} (hb:b<256) (hm:m<256):(256*a+b) &&& (256*M+m)=256*(a &&& M)+(b &&& m):=by
 have h2:b &&& m<2 ^ 8:=Nat.and_lt_two_pow _ hm
 apply Nat.eq_of_testBit_eq; intro i
 rw [Nat.testBit_and,show 256=2 ^ 8 from rfl,Nat.testBit_two_pow_mul_add _ hb,Nat.testBit_two_pow_mul_add _ hm,Nat.testBit_two_pow_mul_add _ h2]
 split <;> rw [Nat.testBit_and]
def d1 (b:Nat):Nat:=(b / 2 &&& 85)+(b &&& 85)
def d2 (b:Nat):Nat:=(d1 b / 4 &&& 51)+(d1 b &&& 51)
def d3 (b:Nat):Nat:=(d2 b / 16+d2 b) &&& 15
theorem tab1:(List.range 256).all (fun b=>decide ((128+b / 2) &&& 85=b / 2 &&& 85)&&decide (d1 b<256))=true:=by kernel_rfl
theorem tab2:(List.range 256).all (fun b=>decide ((64+d1 b / 4) &&& 51=d1 b / 4 &&& 51)&&decide ((128+d1 b / 4) &&& 51=d1 b / 4 &&& 51)&&decide ((192+d1 b / 4) &&& 51=d1 b / 4 &&& 51))=true:=by kernel_rfl
theorem tab3:(List.range 256).all (fun b=>decide (d2 b<256)&&decide (d2 b % 16≤4)&&decide (d2 b / 16≤4)&&decide (d3 b≤8)&&decide (d3 b=(List.range 8).countP b.testBit))=true:=by kernel_rfl
variable {b n y:Nat}
theorem step1 (hb:b<256):f1 (n+1) (256*y+b)=256*f1 n y+d1 b:=by
 have ht:=List.all_eq_true.1 tab1 b (List.mem_range.2 hb)
 simp only [Bool.and_eq_true,decide_eq_true_eq] at ht
 have e:(256*y+b) / 2=256*(y / 2)+(128*(y % 2)+b / 2):=by omega
 rw [f1,M1,e,and_split (by omega) (by decide),and_split hb (by decide),f1,d1]
 have:(128*(y % 2)+b / 2) &&& 85=b / 2 &&& 85:=by
  rcases Nat.mod_two_eq_zero_or_one y with h | h <;> rw [h]
  · rw [Nat.mul_zero,Nat.zero_add]
  · exact ht.1
 rw [this]; omega
theorem step2 (hb:b<256):f2 (n+1) (256*y+d1 b)=256*f2 n y+d2 b:=by
 have h1:=List.all_eq_true.1 tab1 b (List.mem_range.2 hb)
 have ht:=List.all_eq_true.1 tab2 b (List.mem_range.2 hb)
 simp only [Bool.and_eq_true,decide_eq_true_eq] at ht h1
 have e:(256*y+d1 b) / 4=256*(y / 4)+(64*(y % 4)+d1 b / 4):=by omega
 rw [f2,M2,e,and_split (by omega) (by decide),and_split h1.2 (by decide),f2,d2]
 have:(64*(y % 4)+d1 b / 4) &&& 51=d1 b / 4 &&& 51:=by
  have:y % 4=0∨y % 4=1∨y % 4=2∨y % 4=3:=by omega
  rcases this with h | h | h | h <;> rw [h]
  · rw [Nat.mul_zero,Nat.zero_add]
  · exact ht.1.1
  · exact ht.1.2
  · exact ht.2
 rw [this]; omega
theorem step3 (hb:b<256) (hy:y % 16≤4):f3 (n+1) (256*y+d2 b)=256*f3 n y+d3 b:=by
 have ht:=List.all_eq_true.1 tab3 b (List.mem_range.2 hb)
 simp only [Bool.and_eq_true,decide_eq_true_eq] at ht
 have e:(256*y+d2 b) / 16+(256*y+d2 b)=256*(y / 16+y)+(16*(y % 16)+d2 b / 16+d2 b):=by omega
 rw [f3,M3,e,and_split (by omega) (by decide),f3,d3]
 have:(16*(y % 16)+d2 b / 16+d2 b) &&& 15=(d2 b / 16+d2 b) &&& 15:=by
  rw [show 15=2 ^ 4-1 from rfl,Nat.and_two_pow_sub_one_eq_mod,Nat.and_two_pow_sub_one_eq_mod]; omega
 rw [this]
def g1:Nat→Nat→Nat | 0,_=>0 | n+1,x=>256*g1 n (x / 256)+d1 (x % 256)
def g2:Nat→Nat→Nat | 0,_=>0 | n+1,x=>256*g2 n (x / 256)+d2 (x % 256)
def g3:Nat→Nat→Nat | 0,_=>0 | n+1,x=>256*g3 n (x / 256)+d3 (x % 256)
theorem split (x:Nat):x=256*(x / 256)+x % 256:=by omega
theorem f1_eq : ∀ n x:Nat,f1 n x=g1 n x
 | 0,x=>by simp [f1,g1,M1]
 | n+1,x=>by
   rw [g1,← f1_eq n,← step1 (Nat.mod_lt _ (by decide)),← split x]
theorem f2_eq : ∀ n x:Nat,f2 n (g1 n x)=g2 n x
 | 0,x=>by simp [f2,g2,M2]
 | n+1,x=>by rw [g1,step2 (Nat.mod_lt _ (by decide)),f2_eq n,g2]
theorem g2_mod : ∀ n x:Nat,g2 n x % 16≤4
 | 0,x=>by simp [g2]
 | n+1,x=>by
   have ht:=List.all_eq_true.1 tab3 (x % 256) (List.mem_range.2 (Nat.mod_lt _ (by decide)))
   simp only [Bool.and_eq_true,decide_eq_true_eq] at ht
   rw [g2]; omega
theorem f3_eq : ∀ n x:Nat,f3 n (g2 n x)=g3 n x
 | 0,x=>by simp [f3,g3,M3]
 | n+1,x=>by rw [g2,step3 (Nat.mod_lt _ (by decide)) (g2_mod n _),f3_eq n,g3]
theorem f123 (x:Nat):f3 8 (f2 8 (f1 8 x))=g3 8 x:=by rw [f1_eq,f2_eq,f3_eq]
theorem pop_step (n x:Nat):(List.range (8+n)).countP x.testBit=d3 (x % 256)+(List.range n).countP (x / 256).testBit:=by
 have ht:=List.all_eq_true.1 tab3 (x % 256) (List.mem_range.2 (Nat.mod_lt _ (by decide)))
 simp only [Bool.and_eq_true,decide_eq_true_eq] at ht
 rw [ht.2,List.range_add,List.countP_append,List.countP_map]
 congr 1
 · refine List.countP_congr fun i hi=>?_
   rw [show 256=2 ^ 8 from rfl,Nat.testBit_mod_two_pow]
   simp [List.mem_range.1 hi]
 · refine List.countP_congr fun i _=>?_
   rw [Function.comp,show 256=2 ^ 8 from rfl,Nat.testBit_div_two_pow,Nat.add_comm]
def c (x k:Nat):Nat:=d3 (x / 256 ^ k % 256)
theorem c_le (x k:Nat):c x k≤8:=by
 have ht:=List.all_eq_true.1 tab3 (x / 256 ^ k % 256) (List.mem_range.2 (Nat.mod_lt _ (by decide)))
 simp only [Bool.and_eq_true,decide_eq_true_eq] at ht
 exact ht.1.2
theorem g3_8 (x:Nat):g3 8 x=c x 0+256*(c x 1+256*(c x 2+256*(c x 3+256*(c x 4+256*(c x 5+256*(c x 6+256*c x 7)))))):=by
 simp only [g3,c,Nat.div_div_eq_div_mul,Nat.reduceMul,Nat.reducePow,Nat.div_one,Nat.mul_zero,Nat.zero_add]; omega
theorem pop_8 (x:Nat):(bits x).length=c x 0+c x 1+c x 2+c x 3+c x 4+c x 5+c x 6+c x 7:=by
 rw [bits,← List.countP_eq_length_filter,show (64:Nat)=8+(8+(8+(8+(8+(8+(8+(8+0))))))) from rfl,pop_step,pop_step,pop_step,pop_step,pop_step,pop_step,pop_step,pop_step]
 simp only [c,Nat.div_div_eq_div_mul,Nat.reduceMul,Nat.reducePow,Nat.div_one,List.range_zero,List.countP_nil]; omega
theorem dv {a b:Nat} (h:a<256):(a+256*b) / 256=b:=by omega
theorem dv2 {a a' b:Nat} (h:a<256) (h' : a' < 256):(a+256*(a' + 256*b)) / 65536=b:=by rw [show 65536=256*256 from rfl,← Nat.div_div_eq_div_mul,dv h,dv h']
theorem dv4 {a a' a2 a3 b:Nat} (h:a<256) (h' : a' < 256) (h2:a2<256) (h3:a3<256):(a+256*(a' + 256*(a2+256*(a3+256*b)))) / 4294967296=b:=by
 rw [show 4294967296=65536*65536 from rfl,← Nat.div_div_eq_div_mul,dv2 h h',dv2 h2 h3]
theorem md {a x:Nat} (h:a<128):(a+256*x) % 128=a:=by omega
def y0 (c0 c1 c2 c3 c4 c5 c6 c7:Nat):Nat:=c0+256*(c1+256*(c2+256*(c3+256*(c4+256*(c5+256*(c6+256*c7))))))
section
variable {c0 c1 c2 c3 c4 c5 c6 c7:Nat}
theorem y0_lt (h0:c0<256) (h1:c1<256) (h2:c2<256) (h3:c3<256) (h4:c4<256) (h5:c5<256) (h6:c6<256) (h7:c7<128):y0 c0 c1 c2 c3 c4 c5 c6 c7<9223372036854775808:=by
 unfold y0; omega
theorem y0_256 (h0:c0<256):y0 c0 c1 c2 c3 c4 c5 c6 c7 / 256=y0 c1 c2 c3 c4 c5 c6 c7 0:=by unfold y0; rw [dv h0]; omega
theorem y0_2 (h0:c0<256) (h1:c1<256):y0 c0 c1 c2 c3 c4 c5 c6 c7 / 65536=y0 c2 c3 c4 c5 c6 c7 0 0:=by unfold y0; rw [dv2 h0 h1]; omega
theorem y0_4 (h0:c0<256) (h1:c1<256) (h2:c2<256) (h3:c3<256):y0 c0 c1 c2 c3 c4 c5 c6 c7 / 4294967296=y0 c4 c5 c6 c7 0 0 0 0:=by unfold y0; rw [dv4 h0 h1 h2 h3]; omega
theorem y0_add {b0 b1 b2 b3 b4 b5 b6 b7:Nat}:y0 c0 c1 c2 c3 c4 c5 c6 c7+y0 b0 b1 b2 b3 b4 b5 b6 b7=y0 (c0+b0) (c1+b1) (c2+b2) (c3+b3) (c4+b4) (c5+b5) (c6+b6) (c7+b7):=by unfold y0; omega
theorem y0_mod (h0:c0<128):y0 c0 c1 c2 c3 c4 c5 c6 c7 % 128=c0:=md h0
end
theorem fold {z c0 c1 c2 c3 c4 c5 c6 c7:Nat} (h0:c0≤8) (h1:c1≤8) (h2:c2≤8) (h3:c3≤8) (h4:c4≤8) (h5:c5≤8) (h6:c6≤8) (h7:c7≤8) (hz:z=y0 c0 c1 c2 c3 c4 c5 c6 c7) :
  z<9223372036854775808∧z+z / 256<9223372036854775808∧(z+z / 256)+(z+z / 256) / 65536<9223372036854775808∧(z+z / 256)+(z+z / 256) / 65536+((z+z / 256)+(z+z / 256) / 65536) / 4294967296<9223372036854775808 ∧
  ((z+z / 256)+(z+z / 256) / 65536+((z+z / 256)+(z+z / 256) / 65536) / 4294967296) % 128=c0+c1+c2+c3+c4+c5+c6+c7:=by
 have e1:z+z / 256=y0 (c0+c1) (c1+c2) (c2+c3) (c3+c4) (c4+c5) (c5+c6) (c6+c7) (c7+0):=by rw [hz,y0_256 (by omega),y0_add]
 rw [e1,hz,y0_2 (by omega) (by omega),y0_add,y0_4 (by omega) (by omega) (by omega) (by omega),y0_add,y0_mod (by omega)]
 refine ⟨y0_lt (by omega) (by omega) (by omega) (by omega) (by omega) (by omega) (by omega) (by omega),y0_lt (by omega) (by omega) (by omega) (by omega) (by omega) (by omega) (by omega) (by omega),y0_lt (by omega) (by omega) (by omega) (by omega) (by omega) (by omega) (by omega) (by omega),y0_lt (by omega) (by omega) (by omega) (by omega) (by omega) (by omega) (by omega) (by omega),by omega⟩
end Oc
namespace Sr
def al (ok:Nat→Nat→Bool):List Nat→(Nat→Bool)→Nat
 | [],_=>0
 | c::r,p=>max (al ok r p) (if p c=true then 1+al ok r (fun x=>p x&&ok c x) else 0)
def Ind (ok:Nat→Nat→Bool) (l:List Nat) (q:Nat→Bool):Prop:=∀ i∈l,∀ j∈l,i≠j→q i=true→q j=true→ok i j=true
variable {ok:Nat→Nat→Bool}
theorem al_congr : ∀ (l:List Nat) {p q:Nat→Bool},(∀ x∈l,p x=q x)→al ok l p=al ok l q
 | [],_,_,_=>rfl
 | c::r,p,q,h=>by
   rw [al,al,al_congr r fun x hx=>h x (by simp [hx]),h c (by simp),al_congr r (p:=fun x=>p x&&ok c x) (q:=fun x=>q x&&ok c x) fun x hx=>by rw [h x (by simp [hx])]]
theorem Vo : ∀ (l:List Nat) (p q:Nat→Bool),l.Nodup→Ind ok l q→(∀ i∈l,q i=true→p i=true)→l.countP q≤al ok l p
 | [],_,_,_,_,_=>by simp
 | c::r,p,q,hn,hi,hp=>by
   have hn':=List.nodup_cons.1 hn
   have hir:Ind ok r q:=fun i h1 j h2=>hi i (by simp [h1]) j (by simp [h2])
   rw [al,List.countP_cons]
   cases hc:q c with
   | false =>
     have:=Vo r p q hn'.2 hir fun i h1=>hp i (by simp [h1])
     simp; omega
   | true =>
     have h1:=hp c (by simp) hc
     have:=Vo r (fun x=>p x&&ok c x) q hn'.2 hir fun i h2 h3=>by
      rw [hp i (by simp [h2]) h3,hi c (by simp) i (by simp [h2]) (fun e=>hn'.1 (e▸h2)) hc h3]; rfl
     rw [if_pos h1]; simp; omega
theorem al_has (hs : ∀ i j,ok i j=ok j i) : ∀ (l:List Nat) (p:Nat→Bool),l.Nodup→∃ q:Nat→Bool,Ind ok l q∧(∀ i,q i=true→i∈l∧p i=true)∧l.countP q=al ok l p
 | [],p,_=>⟨fun _=>false,fun i h=>by simp at h,fun i h=>by simp at h,rfl⟩
 | c::r,p,hn=>by
   have hn':=List.nodup_cons.1 hn
   obtain ⟨q1,a1,b1,c1⟩:=al_has hs r p hn'.2
   obtain ⟨q2,a2,b2,c2⟩:=al_has hs r (fun x=>p x&&ok c x) hn'.2
   by_cases hc:p c=true∧al ok r p<1+al ok r (fun x=>p x&&ok c x)
   · refine ⟨fun x=>q2 x || x==c,?_,?_,?_⟩
     · intro i hi j hj hne h1 h2
       simp only [Bool.or_eq_true,beq_iff_eq] at h1 h2
       rcases h1 with h1 | h1 <;> rcases h2 with h2 | h2
       · exact a2 i (b2 i h1).1 j (b2 j h2).1 hne h1 h2
       · subst h2; have:=(b2 i h1).2; simp at this; rw [hs]; exact this.2
       · subst h1; have:=(b2 j h2).2; simp at this; exact this.2
       · subst h1 h2; exact absurd rfl hne
     · intro i h1
       simp only [Bool.or_eq_true,beq_iff_eq] at h1
       rcases h1 with h1 | h1
       · have:=b2 i h1; simp at this; exact ⟨by simp [this.1],this.2.1⟩
       · subst h1; exact ⟨by simp,hc.1⟩
     · rw [al,if_pos hc.1,List.countP_cons]
       have:r.countP (fun x=>q2 x || x==c)=r.countP q2:=List.countP_congr fun x hx=>by
        have:x≠c:=fun e=>hn'.1 (e▸hx)
        simp [this]
       rw [this,c2]; simp; omega
   · refine ⟨q1,?_,fun i h=>⟨by simp [(b1 i h).1],(b1 i h).2⟩,?_⟩
     · intro i hi j hj hne h1 h2
       exact a1 i (b1 i h1).1 j (b1 j h2).1 hne h1 h2
     · have hq:q1 c=false:=by
        cases h:q1 c with
        | false=>rfl
        | true=>exact absurd (b1 c h).1 hn'.1
       rw [al,List.countP_cons,hq,c1]
       by_cases h2:p c=true
       · have : ¬ al ok r p<1+al ok r (fun x=>p x&&ok c x):=fun h=>hc ⟨h2,h⟩
         rw [if_pos h2]; simp; omega
       · rw [if_neg h2]; simp
theorem Ws (q:Nat→Bool) {v:Nat} : ∀ (l:List Nat),l.Nodup→v∈l→q v=true→l.countP q=l.countP (fun x=>q x&&x != v)+1
 | [],_,h,_=>by simp at h
 | c::r,hn,hv,hq=>by
   have hn':=List.nodup_cons.1 hn
   rw [List.countP_cons,List.countP_cons]
   by_cases hc:c=v
   · subst hc
     have:r.countP (fun x=>q x&&x != c)=r.countP q:=List.countP_congr fun x hx=>by
      have:x≠c:=fun e=>hn'.1 (e▸hx)
      simp [this]
     rw [this,hq]; simp
   · have hv' : v∈r:=by simpa [Ne.symm hc] using hv
     rw [Ws q r hn'.2 hv' hq]
     have:(c != v)=true:=by simp [hc]
     rw [this,Bool.and_true]; split <;> omega
section
variable {l:List Nat} {p:Nat→Bool} {v:Nat}
theorem al_mono (hs : ∀ i j,ok i j=ok j i) (hn:l.Nodup) {p' : Nat→Bool} (h : ∀ i∈l,p i=true→p' i=true):al ok l p≤al ok l p':=by
 obtain ⟨q,a,b,c⟩:=al_has hs l p hn
 rw [← c]; exact Vo l p' q hn a fun i hi hq=>h i hi (b i hq).2
theorem al_with (hs : ∀ i j,ok i j=ok j i) (hn:l.Nodup) (hv:v∈l) (hp:p v=true):1+al ok l (fun x=>p x&&(x != v&&ok v x))≤al ok l p:=by
 obtain ⟨q,a,b,c⟩:=al_has hs l (fun x=>p x&&(x != v&&ok v x)) hn
 have hqv:q v=false:=by
  cases h:q v with
  | false=>rfl
  | true=>have:=(b v h).2; simp at this
 have e:l.countP (fun x=>q x || x==v)=l.countP q+1:=by
  rw [Ws (fun x=>q x || x==v) l hn hv (by simp)]
  congr 1
  refine List.countP_congr fun x hx=>?_
  by_cases hx:x=v
  · subst hx; simp [hqv]
  · simp [hx]
 rw [← c,Nat.add_comm,← e]
 refine Vo l p _ hn ?_ ?_
 · intro i hi j hj hne h1 h2
   simp only [Bool.or_eq_true,beq_iff_eq] at h1 h2
   rcases h1 with h1 | h1 <;> rcases h2 with h2 | h2
   · exact a i hi j hj hne h1 h2
   · subst h2; have:=(b i h1).2; simp at this; rw [hs]; exact this.2.2
   · subst h1; have:=(b j h2).2; simp at this; exact this.2.2
   · subst h1 h2; exact absurd rfl hne
 · intro i hi h1
   simp only [Bool.or_eq_true,beq_iff_eq] at h1
   rcases h1 with h1 | h1
   · have:=(b i h1).2; simp at this; exact this.1
   · subst h1; exact hp
theorem al_pivot (hs : ∀ i j,ok i j=ok j i) (hn:l.Nodup) (hv:v∈l) (hp:p v=true):al ok l p=max (al ok l (fun x=>p x&&x != v)) (1+al ok l (fun x=>p x&&(x != v&&ok v x))):=by
 have h1:=al_with (ok:=ok) hs hn hv hp
 have h2:al ok l (fun x=>p x&&x != v)≤al ok l p:=al_mono hs hn fun i _ h=>by simp at h; exact h.1
 obtain ⟨q,a,b,c⟩:=al_has hs l p hn
 have h3:al ok l p≤max (al ok l (fun x=>p x&&x != v)) (1+al ok l (fun x=>p x&&(x != v&&ok v x))):=by
  rw [← c]
  cases hq:q v with
  | false =>
    have:=Vo l (fun x=>p x&&x != v) q hn a fun i hi h=>by
     have:i≠v:=fun e=>by rw [e,hq] at h; cases h
     simp [(b i h).2,this]
    omega
  | true =>
    rw [Ws q l hn hv hq]
    have:=Vo l (fun x=>p x&&(x != v&&ok v x)) (fun x=>q x&&x != v) hn (fun i hi j hj hne g1 g2=>by
     simp at g1 g2; exact a i hi j hj hne g1.1 g2.1) fun i hi h=>by
     simp at h
     simp [(b i h.1).2,h.2,a v hv i hi (Ne.symm h.2) hq h.1]
    omega
 omega
theorem al_one (hs : ∀ i j,ok i j=ok j i) (hn:l.Nodup) (hv:v∈l) (hp:p v=true) (hd:l.countP (fun x=>p x&&(x != v && !ok v x))≤1):al ok l p=1+al ok l (fun x=>p x&&(x != v&&ok v x)):=by
 have h1:=al_with (ok:=ok) hs hn hv hp
 have h3:al ok l p≤1+al ok l (fun x=>p x&&(x != v&&ok v x)):=by
  obtain ⟨q,a,b,c⟩:=al_has hs l p hn
  rw [← c]
  cases hq:q v with
  | true =>
    rw [Ws q l hn hv hq]
    have:=Vo l (fun x=>p x&&(x != v&&ok v x)) (fun x=>q x&&x != v) hn (fun i hi j hj hne g1 g2=>by
     simp at g1 g2; exact a i hi j hj hne g1.1 g2.1) fun i hi h=>by
     simp at h
     simp [(b i h.1).2,h.2,a v hv i hi (Ne.symm h.2) hq h.1]
    omega
  | false =>
    by_cases hu : ∃ u∈l,q u=true∧ok v u=false
    · obtain ⟨u,hul,hqu,hou⟩:=hu
      have huv:u≠v:=fun e=>by rw [e,hq] at hqu; cases hqu
      rw [Ws q l hn hul hqu]
      have:=Vo l (fun x=>p x&&(x != v&&ok v x)) (fun x=>q x&&x != u) hn (fun i hi j hj hne g1 g2=>by
       simp at g1 g2; exact a i hi j hj hne g1.1 g2.1) fun i hi h=>by
       simp at h
       have hiv:i≠v:=fun e=>by rw [e,hq] at h; cases h.1
       have hoi:ok v i=true:=by
        cases ho:ok v i with
        | true=>rfl
        | false =>
          have e1:=Ws (fun x=>p x&&(x != v && !ok v x)) l hn hul (by simp [(b u hqu).2,huv,hou])
          have e2:=Ws (fun x=>p x&&(x != v && !ok v x)&&x != u) l hn hi (by simp [(b i h.1).2,hiv,ho,h.2])
          omega
       simp [(b i h.1).2,hiv,hoi]
      omega
    · have:=Vo l (fun x=>p x&&(x != v&&ok v x)) q hn a fun i hi h=>by
       have hiv:i≠v:=fun e=>by rw [e,hq] at h; cases h
       have hoi:ok v i=true:=by
        cases ho:ok v i with
        | true=>rfl
        | false=>exact absurd ⟨i,hi,h,ho⟩ hu
       simp [(b i h).2,hiv,hoi]
      omega
 omega
theorem al_none (h : ∀ i∈l,p i=false):al ok l p=0:=by
 have:al ok l p=al ok l fun _=>false:=al_congr l h
 rw [this]
 clear this h
 induction l with
 | nil=>rfl
 | cons c r ih=>simp [al,ih]
end
end Sr
namespace Sr
open Go.Am
theorem less_le (a b:Nat):less a b≤a:=by
 have:less a b &&& a=less a b:=by
  apply Nat.eq_of_testBit_eq; intro i
  rw [Nat.testBit_and,Yj]; cases a.testBit i <;> simp
 rw [← this]; exact Nat.and_le_right
theorem bits_len (s:Nat):(bits s).length=(List.range 64).countP s.testBit:=by rw [bits,List.countP_eq_length_filter]
def mk (p:Nat→Bool):Nat→Nat
 | 0=>0
 | k+1=>if p k=true then mk p k ||| 2 ^ k else mk p k
theorem mk_lt (p:Nat→Bool) : ∀ k,mk p k<2 ^ k
 | 0=>by simp [mk]
 | k+1=>by
   have h:=mk_lt p k
   have h2:2 ^ (k+1)=2 ^ k*2:=Nat.pow_succ ..
   rw [mk]
   split
   · exact Nat.or_lt_two_pow (by omega) (by omega)
   · omega
theorem mk_bit (p:Nat→Bool) : ∀ k i,(mk p k).testBit i=(decide (i<k)&&p i)
 | 0,i=>by simp [mk]
 | k+1,i=>by
   rw [mk]
   by_cases hp:p k=true
   · rw [if_pos hp,Nat.testBit_or,mk_bit p k i,Nat.testBit_two_pow]
     by_cases h1:i<k
     · have : ¬ k=i:=by omega
       simp [h1,this]; omega
     · by_cases h2:k=i
       · subst h2; simp [hp]
       · have : ¬ i<k+1:=by omega
         simp [h1,h2,this]
   · rw [if_neg hp,mk_bit p k i]
     by_cases h1:i<k
     · have:i<k+1:=by omega
       simp [h1,this]
     · by_cases h2:k=i
       · subst h2; simp at hp; simp [hp]
       · have : ¬ i<k+1:=by omega
         simp [h1,this]
theorem mk_zero (p:Nat→Bool):mk p 0=0:=rfl
def nb (nr:List Nat) (v:Nat):Nat:=nr.getD v 0
structure Gr (nr:List Nat):Prop where
 len:nr.length≤64
 lt : ∀ v,nb nr v<2 ^ nr.length
 irr : ∀ v,(nb nr v).testBit v=false
 sym : ∀ v x,(nb nr v).testBit x=(nb nr x).testBit v
def ok (nr:List Nat) (v x:Nat):Bool:=!(nb nr v).testBit x
def A (nr:List Nat) (s:Nat):Nat:=al (ok nr) (List.range 64) s.testBit
def cut (nr:List Nat) (s v:Nat):Nat:=less (less s (nb nr v)) (2 ^ v)
section
variable {nr:List Nat} {s v:Nat}
theorem cut_bit (x:Nat):(cut nr s v).testBit x=(s.testBit x&&(x != v&&ok nr v x)):=by
 rw [cut,Yj,Yj,Nat.testBit_two_pow,ok]
 by_cases h:v=x
 · subst h; simp
 · have:(x != v)=true:=by simp [Ne.symm h]
   simp [h,this]
theorem less_bit (x:Nat):(less s (2 ^ v)).testBit x=(s.testBit x&&x != v):=by
 rw [Yj,Nat.testBit_two_pow]
 by_cases h:v=x
 · subst h; simp
 · have:(x != v)=true:=by simp [Ne.symm h]
   simp [h,this]
theorem cut_or:less s (nb nr v ||| 2 ^ v)=cut nr s v:=by
 apply Nat.eq_of_testBit_eq; intro i
 rw [cut,Yj,Yj,Yj,Nat.testBit_or]
 cases s.testBit i <;> simp
theorem cut_swap:less (less s (2 ^ v)) (nb nr v)=cut nr s v:=by
 apply Nat.eq_of_testBit_eq; intro i
 rw [cut,Yj,Yj,Yj,Yj]
 cases s.testBit i <;> cases (nb nr v).testBit i <;> simp
theorem cut_lt {n:Nat} (h:s<2 ^ n):cut nr s v<2 ^ n:=less_lt (less_lt h)
theorem cut_less (g:Gr nr) (hv:s.testBit v=true):cut nr s v<s:=by
 have h1:(less s (nb nr v)).testBit v=true:=by rw [Yj,hv,g.irr]; rfl
 have h2:=less_bit_lt h1
 have h3:=less_le s (nb nr v)
 unfold cut; omega
theorem bit_lt {n:Nat} (h:s<2 ^ n) (hv:s.testBit v=true):v<n:=by
 refine Nat.lt_of_not_le fun h1=>?_
 rw [Nat.testBit_lt_two_pow (Nat.lt_of_lt_of_le h (Nat.pow_le_pow_right (by decide) h1))] at hv; cases hv
theorem ok_comm (g:Gr nr) (i j:Nat):ok nr i j=ok nr j i:=by rw [ok,ok,g.sym]
theorem A_zero:A nr 0=0:=al_none fun i _=>by simp
theorem A_pivot (g:Gr nr) (hs:s<2 ^ 64) (hv:s.testBit v=true):A nr s=max (A nr (less s (2 ^ v))) (1+A nr (cut nr s v)):=by
 have hl:=List.mem_range.2 (bit_lt hs hv)
 rw [A,al_pivot (ok_comm g) List.nodup_range hl hv,A,A]
 rw [al_congr (q:=(less s (2 ^ v)).testBit) _ fun x _=>(less_bit x).symm,al_congr (q:=(cut nr s v).testBit) _ fun x _=>(cut_bit x).symm]
theorem A_one (g:Gr nr) (hs:s<2 ^ 64) (hv:s.testBit v=true) (hd:(bits (nb nr v &&& s)).length≤1):A nr s=1+A nr (cut nr s v):=by
 have hl:=List.mem_range.2 (bit_lt hs hv)
 rw [A,al_one (ok_comm g) List.nodup_range hl hv,A,al_congr (q:=(cut nr s v).testBit) _ fun x _=>(cut_bit x).symm]
 rw [bits_len] at hd
 refine Nat.le_trans (Nat.le_of_eq ?_) hd
 refine List.countP_congr fun x _=>?_
 rw [Nat.testBit_and,ok,Bool.not_not]
 by_cases h:x=v
 · subst h; simp [g.irr]
 · have:(x != v)=true:=by simp [h]
   rw [this,Bool.true_and,Bool.and_comm]
theorem A_pos (g:Gr nr) (hs:s<2 ^ 64) (hv:s.testBit v=true):0<A nr s:=by
 rw [A_pivot g hs hv]; omega
theorem A_le (nr:List Nat) (s:Nat):A nr s≤64:=by
 have : ∀ (l:List Nat) (p:Nat→Bool),al (ok nr) l p≤l.length:=by
  intro l
  induction l with
  | nil=>intro p; simp [al]
  | cons c r ih =>
    intro p
    have h1:=ih p
    have h2:=ih fun x=>p x&&ok nr c x
    rw [al,List.length_cons]; split <;> omega
 have h:=this (List.range 64) s.testBit
 rw [List.length_range] at h; exact h
end
def cStep (nr:List Nat) (s:Nat×Nat×List Nat) (v:Nat):Nat×Nat×List Nat :=
 if s.1.testBit v=true then (if 1+A nr (cut nr s.1 v)=s.2.1 then (cut nr s.1 v,s.2.1-1,s.2.2++[v]) else (less s.1 (2 ^ v),s.2.1,s.2.2)) else s
def cAt (nr:List Nat) (k:Nat):Nat×Nat×List Nat:=(List.range k).foldl (cStep nr) (2 ^ nr.length-1,A nr (2 ^ nr.length-1),[])
theorem cAt_succ (nr:List Nat) (k:Nat):cAt nr (k+1)=cStep nr (cAt nr k) k:=by rw [cAt,List.range_succ,List.foldl_append]; rfl
def codeL (nr:List Nat):List Nat:=(cAt nr nr.length).2.2
theorem cAt_inv {nr:List Nat} (g:Gr nr) : ∀ k,(cAt nr k).1<2 ^ nr.length∧(cAt nr k).2.1=A nr (cAt nr k).1∧(cAt nr k).2.2.length≤k
 | 0=>by
   have:=Nat.two_pow_pos nr.length
   exact ⟨by show 2 ^ nr.length-1<_; omega,rfl,Nat.le_refl _⟩
 | k+1=>by
   obtain ⟨h1,h2,h3⟩:=cAt_inv g k
   have h64:(cAt nr k).1<2 ^ 64:=Nat.lt_of_lt_of_le h1 (Nat.pow_le_pow_right (by decide) g.len)
   rw [cAt_succ]
   generalize cAt nr k=s at h1 h2 h3 h64
   unfold cStep
   split
   · rename_i hb
     have hp:=A_pivot g h64 hb
     split
     · exact ⟨cut_lt h1,by simp only; omega,by rw [List.length_append,List.length_singleton]; omega⟩
     · exact ⟨less_lt h1,by simp only; omega,by simp only; omega⟩
   · exact ⟨h1,h2,by omega⟩
end Sr
namespace Sr
open Go.Am
def gb (xs:List Int) (i j:Nat):Bool:=(xs.getD i 0).toNat.testBit j
def cf (xs:List Int):Nat→Nat→Nat→Bool
 | 0,_,_=>true
 | k+1,a,b=>(a % xs.length==b % xs.length || gb xs (a % xs.length) (b % xs.length))&&cf xs k (a / xs.length) (b / xs.length)
def Gs (xs:List Int):Prop:=1≤xs.length∧xs.length≤6∧∀ i,i<xs.length→(0≤xs.getD i 0∧xs.getD i 0<2 ^ xs.length)∧gb xs i i=false∧∀ j,j<xs.length→gb xs i j=gb xs j i
theorem cf_comm {xs:List Int} (g:Gs xs) : ∀ k a b,cf xs k a b=cf xs k b a
 | 0,_,_=>rfl
 | k+1,a,b=>by
   have h0:0<xs.length:=g.1
   rw [cf,cf,cf_comm g k,(g.2.2 _ (Nat.mod_lt a h0)).2.2 _ (Nat.mod_lt b h0)]
   congr 2
   exact Bool.beq_comm
def wn (xs:List Int) (k:Nat):Nat:=xs.length ^ k
def nearW (xs:List Int) (k a:Nat):Nat:=mk (fun b=>a != b&&cf xs k a b) (wn xs k)
def nearL (xs:List Int) (k:Nat):List Nat:=(List.range (wn xs k)).map (nearW xs k)
theorem nearL_len (xs:List Int) (k:Nat):(nearL xs k).length=wn xs k:=by simp [nearL]
theorem nearL_get {xs:List Int} {k a:Nat} (h:a<wn xs k):nb (nearL xs k) a=nearW xs k a:=by
 rw [nb,nearL,List.getD,List.getElem?_map,List.getElem?_range h]; rfl
theorem nearL_out {xs:List Int} {k a:Nat} (h:wn xs k≤a):nb (nearL xs k) a=0:=by
 rw [nb,List.getD,List.getElem?_eq_none (by rw [nearL_len]; exact h)]; rfl
theorem nearL_bit (xs:List Int) (k a b:Nat):(nb (nearL xs k) a).testBit b=(decide (a<wn xs k)&&decide (b<wn xs k)&&(a != b&&cf xs k a b)):=by
 by_cases h:a<wn xs k
 · rw [nearL_get h,nearW,mk_bit]; simp [h]
 · rw [nearL_out (by omega)]; simp [h]
theorem nearL_gr {xs:List Int} (g:Gs xs) {k:Nat} (hk:wn xs k≤64):Gr (nearL xs k) where
 len:=by rw [nearL_len]; exact hk
 lt v:=by
  rw [nearL_len]
  by_cases h:v<wn xs k
  · rw [nearL_get h]; exact mk_lt _ _
  · rw [nearL_out (by omega)]; exact Nat.two_pow_pos _
 irr v:=by rw [nearL_bit]; simp
 sym v x:=by
  rw [nearL_bit,nearL_bit,cf_comm g]
  have:(v != x)=(x != v):=bne_comm
  rw [this,Bool.and_comm (decide (v<wn xs k))]
def code (xs:List Int) (k:Nat) (c:List Int):Bool :=
 (List.range c.length).all fun i=>decide (0≤c.getD i 0)&&decide (c.getD i 0<wn xs k)&&(decide (i=0) || decide (c.getD (i-1) 0<c.getD i 0))&&(List.range i).all fun j=>!cf xs k (c.getD i 0).toNat (c.getD j 0).toNat
end Sr
namespace Go.Proofs.Tryd.Am
open Go.Am
set_option maxRecDepth 100000
set_option maxHeartbeats 1000000
/-! How many elements a set has, as the library counts. -/
def oc1 (x:Int):Int:=addV .u64 (Wj .and .u64 (shrV .u64 x 1) 6148914691236517205) (Wj .and .u64 x 6148914691236517205)
def oc2 (x:Int):Int:=addV .u64 (Wj .and .u64 (shrV .u64 x 2) 3689348814741910323) (Wj .and .u64 x 3689348814741910323)
def oc3 (x:Int):Int:=Wj .and .u64 (addV .u64 (shrV .u64 x 4) x) 1085102592571150095
def oc4 (x:Int):Int:=addV .u64 x (shrV .u64 x 8)
def oc5 (x:Int):Int:=addV .u64 x (shrV .u64 x 16)
def oc6 (x:Int):Int:=addV .u64 x (shrV .u64 x 32)
def ocA (x:Int):Int:=Wj .and .i64 (IntKind.i64.wrap (oc6 (oc5 (oc4 (oc3 (oc2 (oc1 x))))))) 127
theorem shrU' {a y:Nat} {k:Int} (hk:k=(y:Int)) (ha:a<18446744073709551616):shrV .u64 a k=((a / 2 ^ y:Nat):Int):=by
 rw [hk,shrU ha,Nat.shiftRight_eq_div_pow]
theorem andU' {a b:Nat} {k:Int} (hk:k=(b:Int)) (ha:a<18446744073709551616) (hb:b<18446744073709551616):Wj .and .u64 a k=((a &&& b:Nat):Int):=by
 rw [hk,andU ha hb]
theorem dlt {a:Nat} (y:Nat) (ha:a<18446744073709551616):a / 2 ^ y<18446744073709551616:=Nat.lt_of_le_of_lt (Nat.div_le_self _ _) ha
theorem oc1_eq {x:Nat} (hx:x<18446744073709551616):oc1 (x:Int)=(Oc.f1 8 x:Nat)∧Oc.f1 8 x<18446744073709551616:=by
 have h1:x / 2 ^ 1 &&& 6148914691236517205≤6148914691236517205:=Nat.and_le_right
 have h2:x &&& 6148914691236517205≤6148914691236517205:=Nat.and_le_right
 have e:Oc.f1 8 x=(x / 2 ^ 1 &&& 6148914691236517205)+(x &&& 6148914691236517205):=rfl
 rw [oc1,shrU' (k:=1) (y:=1) rfl hx,andU' (k:=6148914691236517205) (b:=6148914691236517205) rfl (dlt _ hx) (by decide),andU' (k:=6148914691236517205) (b:=6148914691236517205) rfl hx (by decide),addU (by omega),e]
 exact ⟨rfl,by omega⟩
theorem oc2_eq {x:Nat} (hx:x<18446744073709551616):oc2 (x:Int)=(Oc.f2 8 x:Nat)∧Oc.f2 8 x≤7378697629483820646:=by
 have h1:x / 2 ^ 2 &&& 3689348814741910323≤3689348814741910323:=Nat.and_le_right
 have h2:x &&& 3689348814741910323≤3689348814741910323:=Nat.and_le_right
 have e:Oc.f2 8 x=(x / 2 ^ 2 &&& 3689348814741910323)+(x &&& 3689348814741910323):=rfl
 rw [oc2,shrU' (k:=2) (y:=2) rfl hx,andU' (k:=3689348814741910323) (b:=3689348814741910323) rfl (dlt _ hx) (by decide),andU' (k:=3689348814741910323) (b:=3689348814741910323) rfl hx (by decide),addU (by omega),e]
 exact ⟨rfl,by omega⟩
theorem oc3_eq {x:Nat} (hx:x≤7378697629483820646):oc3 (x:Int)=(Oc.f3 8 x:Nat):=by
 have h1:x / 2 ^ 4+x<18446744073709551616:=by omega
 have e:Oc.f3 8 x=(x / 2 ^ 4+x) &&& 1085102592571150095:=rfl
 rw [oc3,shrU' (k:=4) (y:=4) rfl (by omega),addU h1,andU' (k:=1085102592571150095) (b:=1085102592571150095) rfl h1 (by decide),e]
theorem ocA_eq {x:Nat} (hx:x<18446744073709551616):ocA (x:Int)=(((Am.bits x).length:Nat):Int):=by
 obtain ⟨e1,l1⟩:=oc1_eq hx
 obtain ⟨e2,l2⟩:=oc2_eq l1
 rw [ocA,e1,e2,oc3_eq l2,Oc.f123,Oc.pop_8]
 have hf:=Oc.fold (Oc.c_le x 0) (Oc.c_le x 1) (Oc.c_le x 2) (Oc.c_le x 3) (Oc.c_le x 4) (Oc.c_le x 5) (Oc.c_le x 6) (Oc.c_le x 7) (Oc.g3_8 x)
 generalize Oc.g3 8 x=z at hf
 obtain ⟨b0,b1,b2,b3,b4⟩:=hf
 rw [← b4]
 have a4:oc4 (z:Int)=((z+z / 256:Nat):Int):=by rw [oc4,shrU' (k:=8) (y:=8) rfl (by omega)]; exact addU (by show z+z / 256<_; omega)
 rw [a4]
 generalize z+z / 256=y at b1 b2 b3
 have a5:oc5 (y:Int)=((y+y / 65536:Nat):Int):=by rw [oc5,shrU' (k:=16) (y:=16) rfl (by omega)]; exact addU (by show y+y / 65536<_; omega)
 rw [a5]
 generalize y+y / 65536=u at b2 b3
 have a6:oc6 (u:Int)=((u+u / 4294967296:Nat):Int):=by rw [oc6,shrU' (k:=32) (y:=32) rfl (by omega)]; exact addU (by show u+u / 4294967296<_; omega)
 rw [a6]
 generalize u+u / 4294967296=t at b3
 rw [wrap_id (by omega) (by omega),show (127:Int)=((127:Nat):Int) from rfl,bitsV_and b3 (by decide),show 127=2 ^ 7-1 from rfl,Nat.and_two_pow_sub_one_eq_mod]
theorem ones_call [Tabs prog] {h:Zh} {x:Nat} (hx:x<18446744073709551616):Wo prog 79 [.int .u64 (x:Int)] h (Zd ((Am.bits x).length:Nat)):=by
 have hoc:=ocA_eq hx
 refine s79_call (by simp) ?_
 simp (maxSteps:=2000000) only [s79,↓Za,↓Zp,↓Ya,↓Zb,↓Zc,vup,cond_true,cond_false,aop,Zg,Zt,ev,sput,Zf,Zv,Zx,Nat.reduceBEq,Zu,Xu,tup,tyf,convK,Int.reduceLE]
 exact congrArg (fun z:Int=>Zd z) hoc
theorem and_pred_lt (s:Nat) (h:s≠0):s &&& (s-1)<s:=Nat.lt_of_le_of_lt Nat.and_le_right (by omega)
theorem ofNe {s:Nat}:((s:Int) != 0)=decide (s≠0):=by
 rw [Bool.eq_iff_iff,bne_iff_ne,decide_eq_true_eq]; omega
theorem clone_call [Tabs prog] {h:Zh} {v:Value} {xs:List Int} (hv:IntSl h v xs) (hl:xs.length<1099511627776):ACall prog 26 [v] h fun r h'=>IntSl h' r xs∧∃ g,h' = h++g:=by
 refine s26_call (by simp) ?_
 have hv':=hv
 rcases hv with ⟨rfl,rfl⟩ | ⟨b,o,sp,cap,c,e,ro,rfl,hc,hb,hx⟩
 · simp (maxSteps:=2000000) only [s26,↓Za,↓Zp,↓Ya,↓Zb,↓Zc,↓vdn,vup,cond_true,cond_false,aop,Zg,Zt,ev,sput,Zf,Zv,Nat.reduceBEq,Zu,Xu,tup,tyf,Option.isSome_some]
   exact ⟨.inl ⟨rfl,rfl⟩,[],by rw [List.append_nil]⟩
 · simp (maxSteps:=2000000) only [s26,↓Za,↓Zn,↓Zp,↓Ya,↓Zb,↓Zc,↓vdn,vup,List.map_cons,List.map_nil,cond_true,cond_false,aop,Zg,Zt,ev,sput,Zf,Zv,Zi,Nat.reduceBEq,Zu,Xu,tup,tyf,Option.isSome_some]
   simp only [Yo,Xt,zero_3,Xe,reps,fillL,mkb,Xa]
   refine And.intro rfl (And.intro Nat.zero_lt_one (And.intro (Nat.zero_le _) ?_))
   refine (hv'.grow [.ints [] 3 false]).copy app_22_22 hl (by rw [List.getElem?_append_right (Nat.le_refl _)]; simp) ?_
   intro r g hr _
   exact ⟨hr,_,List.append_assoc _ _ _⟩
theorem min80 (n:Nat):(if (80:Int)<n then 80 else (n:Int))=((min n 80:Nat):Int):=by split <;> omega
theorem list_call [Tabs prog] {h:Zh} {v:Value} {xs:List Int} (hv:IntSl h v xs) (hl:xs.length<9223372036854775808):ACall prog 18 [v] h fun r h'=>IntSl h' r (xs.take 80)∧∃ g,h' = h++g:=by
 refine s18_call (by simp) ?_
 simp (maxSteps:=2000000) only [s18,↓Za,↓Zp,↓Ya,↓Zb,↓Zc,vup,List.map_cons,List.map_nil,cond_true,cond_false,aop,Zg,Zt,ev,sput,Zf,Zi,Nat.reduceBEq,Zu,Xu,tup,tyf,hv.len,mmK,Bool.false_eq_true,if_false,gt_iff_lt,min80,Option.map_none,Option.map_some]
 refine hv.pre Xt Xe (Nat.min_le_left _ _) ?_
 intro v' hv'
 have e:xs.take (min xs.length 80)=xs.take 80:=by
  by_cases h:xs.length≤80
  · rw [Nat.min_eq_left h,List.take_length,List.take_of_length_le h]
  · rw [Nat.min_eq_right (by omega)]
 rw [e] at hv'
 simp (maxSteps:=2000000) only [Yz,List.nil_append,List.append_nil]
 exact clone_call hv' (by simp; omega)
theorem equal_call [Tabs prog] {h:Zh} {v w:Value} {xs ys:List Int} (hv:IntSl h v xs) (hw:IntSl h w ys) (hl:xs.length<9223372036854775808) (hl2:ys.length<9223372036854775808) :
  Wo prog 24 [v,w] h (.bool (decide (xs=ys))):=by
 refine s24_call (by simp) ?_
 by_cases hlen:xs.length=ys.length
 · have hne:((xs.length:Int) != ys.length)=false:=by simp [hlen]
   simp (maxSteps:=2000000) only [s24,↓Za,↓Zn,↓Zp,↓Yt,↓Ya,↓Zb,↓Zc,↓vdn,vup,List.map_cons,List.map_nil,cond_true,cond_false,aop,Zg,Zt,ev,sput,Zf,Zv,Zx,Zi,Nat.reduceBEq,Nat.reduceAdd,Zu,Xu,tup,tyf,hv.len,hw.len,hne,↓Xr]
   refine Zm fun Q hQ=>?_
   refine aw_loop (γ:=Nat) (fun i=>i≤xs.length∧∀ k,k<i→xs.getD k 0=ys.getD k 0)
    (fun i=>([(0,v),(1,w),(12,Zd xs.length),(13,Zd i)],h)) (fun i=>xs.length-i) 0 ⟨by omega,fun _ hk=>by omega⟩ (by simp (maxSteps:=2000000) only [vup,cond_true,cond_false,Nat.reduceBEq,Int.natCast_zero]) rfl ?_
   rintro i ⟨hi,hok⟩
   refine aw_hide fun Q2 hQ2=>?_
   by_cases hin:(i:Int)<xs.length
   · have h1:i<xs.length:=by omega
     have h2:i<ys.length:=by omega
     simp (maxSteps:=2000000) only [↓Za,↓Zn,↓Zp,↓Yt,↓Zb,↓Zc,↓vdn,vup,cond_true,cond_false,aop,Zg,ev,sput,Zf,Zv,Zx,Nat.reduceBEq,l24_0,hin]
     refine aw_draw [] (by kernel_rfl) (by kernel_rfl) (by kernel_rfl) ?_
     by_cases heq:xs.getD i 0=ys.getD i 0
     · have hb:(xs.getD i 0 != ys.getD i 0)=false:=by rw [heq]; exact bne_self_eq_false _
       simp (maxSteps:=2000000) only [↓Za,↓Zn,↓Zp,↓Ya,↓Zb,↓Zc,↓dops_nil,↓vdn,vup,cond_true,cond_false,aop,Zg,Zl,ev,sput,Zf,Zv,Zx,Nat.reduceBEq,tyf,hv.idx Xt Xe h1,hv.load Xf h1,hw.idx Xt Xe h2,hw.load Xf h2,hb,Wx (show i<9223372036854775807 by omega)]
       refine hQ2 _ _ _ ⟨i+1,⟨by omega,fun k hk=>?_⟩,by omega,by simp (maxSteps:=2000000) only [vup,cond_true,cond_false,Nat.reduceBEq],rfl⟩
       by_cases hki:k=i
       · subst hki; exact heq
       · exact hok k (by omega)
     · have hb:(xs.getD i 0 != ys.getD i 0)=true:=by simp only [bne_iff_ne,ne_eq]; exact heq
       simp (maxSteps:=2000000) only [↓Za,↓Zn,↓Zp,↓Ya,↓Zb,↓Zc,↓dops_nil,↓vdn,vup,cond_true,cond_false,aop,Zg,Zl,ev,sput,Zf,Zv,Zx,Nat.reduceBEq,tyf,hv.idx Xt Xe h1,hv.load Xf h1,hw.idx Xt Xe h2,hw.load Xf h2,hb]
       refine hQ2 _ _ _ (hQ _ _ _ ?_)
       have hne:decide (xs=ys)=false:=decide_eq_false (fun he=>heq (by rw [he]))
       simp (maxSteps:=2000000) only [vup,cond_true,cond_false,Zg,Zl,Nat.reduceBEq,Zu,Xu,tup,hne]
   · obtain rfl:i=xs.length:=by omega
     simp (maxSteps:=2000000) only [↓Za,↓Zp,↓Yi,↓Zb,↓Zc,↓vdn,vup,cond_true,cond_false,aop,Zg,ev,sput,Zf,Zv,Zx,Nat.reduceBEq,l24_0,Int.lt_irrefl]
     refine hQ2 _ _ _ (hQ _ _ _ ?_)
     have he:decide (xs=ys)=true:=decide_eq_true (List.ext_getElem hlen fun k h1 h2=>by
      have:=hok k h1
      simpa [List.getD,List.getElem?_eq_getElem h1,List.getElem?_eq_getElem h2] using this)
     simp (maxSteps:=2000000) only [↓Za,↓Zp,↓Ya,↓Zb,↓Zc,vup,cond_true,cond_false,aop,Zg,Zl,ev,sput,Zf,Nat.reduceBEq,Zu,Xu,tup,if_true,he]
 · have hne:((xs.length:Int) != ys.length)=true:=by simp only [bne_iff_ne,ne_eq]; omega
   have hf:decide (xs=ys)=false:=decide_eq_false (fun he=>hlen (by rw [he]))
   simp (maxSteps:=2000000) only [s24,↓Za,↓Zn,↓Zp,↓Yt,↓Ya,↓Zb,↓Zc,↓vdn,vup,List.map_cons,List.map_nil,cond_true,cond_false,aop,Zg,Zt,ev,sput,Zf,Zv,Zx,Zi,Nat.reduceBEq,Nat.reduceAdd,Zu,Xu,tup,tyf,hv.len,hw.len,hne,hf]
end Go.Proofs.Tryd.Am
namespace Go.Proofs.Tryd.Am
open Go.Am Sr
set_option maxRecDepth 100000
set_option maxHeartbeats 1000000
theorem testI {z:Int} (h0:0≤z) (h1:z<9223372036854775808) (i:Nat):Wj .and .i64 (shrV .i64 z i) 1=if z.toNat.testBit i then 1 else 0:=by
 have:=testV (a:=z.toNat) (y:=i) (by omega)
 rw [Int.toNat_of_nonneg h0] at this
 exact this
theorem pow6 {n:Nat} (h:n≤6):(2:Int) ^ n≤64∧0<(2:Int) ^ n:=by
 have:n=0∨n=1∨n=2∨n=3∨n=4∨n=5∨n=6:=by omega
 rcases this with rfl | rfl | rfl | rfl | rfl | rfl | rfl <;> decide
theorem shl1 {n:Nat} (h:n≤62):shlV .i64 1 n=2 ^ n:=by
 have h2:2 ^ n≤2 ^ 62:=Nat.pow_le_pow_right (by decide) h
 have:=shlV_nat (a:=1) (y:=n) (by omega) (by omega)
 simpa using this
theorem bne01 (a b:Bool):((if a then (1:Int) else 0) != if b then (1:Int) else 0)=(a != b):=by cases a <;> cases b <;> rfl
def inR (xs:List Int) (i:Nat):Prop:=0≤xs.getD i 0∧xs.getD i 0<2 ^ xs.length
def grs (xs:List Int):Bool :=
 decide (1≤xs.length)&&decide (xs.length≤6)&&(List.range xs.length).all fun i=>decide (0≤xs.getD i 0)&&decide (xs.getD i 0<2 ^ xs.length) && !gb xs i i&&(List.range xs.length).all fun j=>gb xs i j==gb xs j i
theorem grs_iff {xs:List Int}:grs xs=true↔Gs xs:=by
 simp only [grs,Gs,Bool.and_eq_true,decide_eq_true_eq,List.all_eq_true,List.mem_range,Bool.not_eq_true',beq_iff_eq,and_assoc]
theorem grs_no {xs:List Int} (h : ¬ Gs xs):grs xs=false:=by rw [← Bool.not_eq_true,grs_iff]; exact h
theorem gs_lt {xs:List Int} (g:Gs xs) {i:Nat} (hi:i<xs.length):0≤xs.getD i 0∧xs.getD i 0<64:=by
 have h:=(g.2.2 i hi).1
 have:=pow6 g.2.1
 omega
theorem getD_rng {xs:List Int} (hx : ∀ x∈xs,-9223372036854775808≤x∧x<9223372036854775808) {i:Nat} (hi:i<xs.length) : -9223372036854775808≤xs.getD i 0∧xs.getD i 0<9223372036854775808 :=
 hx (xs.getD i 0) (by rw [List.getD,List.getElem?_eq_getElem hi]; exact List.getElem_mem hi)
theorem valid_call [Tabs prog] {h:Zh} {v:Value} {xs:List Int} (hv:IntSl h v xs) (hl:xs.length<9223372036854775808) (hx : ∀ x∈xs,-9223372036854775808≤x∧x<9223372036854775808):Wo prog 51 [v] h (.bool (grs xs)):=by
 refine s51_call (by simp) ?_
 simp (maxSteps:=2000000) only [s51,↓Za,↓Zp,↓Zb,↓Zc,vup,List.map_cons,List.map_nil,cond_true,cond_false,aop,Zg,Zt,ev,sput,Zf,Zv,Zx,Zi,Nat.reduceBEq,tyf,hv.len]
 by_cases h1:(xs.length:Int)<1
 · have ht:grs xs=false:=grs_no fun g=>by have:=g.1; omega
   simp (maxSteps:=2000000) only [↓Za,↓Zp,↓Ya,↓Zb,↓Zc,↓vdn,vup,cond_true,cond_false,aop,Zg,ev,sput,Zf,Nat.reduceBEq,Zu,Xu,tup,h1,ht]
 by_cases h8:(6:Int)<xs.length
 · have ht:grs xs=false:=grs_no fun g=>by have:=g.2.1; omega
   simp (maxSteps:=2000000) only [↓Za,↓Zp,↓Ya,↓Zb,↓Zc,↓vdn,vup,cond_true,cond_false,aop,Zg,ev,sput,Zf,Zv,Zx,Nat.reduceBEq,Zu,Xu,tup,h1,h8,ht]
 have hp:=pow6 (n:=xs.length) (by omega)
 simp (maxSteps:=2000000) only [↓Za,↓Zn,↓Zp,↓Yt,↓Zb,↓Zc,↓vdn,vup,List.map_cons,List.map_nil,cond_true,cond_false,aop,Zg,ev,sput,Zf,Zv,Zx,Zi,Nat.reduceBEq,tyf,h1,h8,hv.len,↓Xr]
 refine Zm fun Q hQ=>?_
 refine aw_loop (γ:=Nat) (fun i=>i≤xs.length∧∀ k,k<i→inR xs k∧gb xs k k=false∧∀ j,j<xs.length→inR xs j→gb xs k j=gb xs j k)
  (fun i=>([(0,v),(2,.bool false),(3,Zd xs.length),(15,v),(16,Zd xs.length),(17,Zd i)],h)) (fun i=>xs.length-i) 0 ⟨by omega,fun _ hk=>by omega⟩ (by simp (maxSteps:=2000000) only [vup,cond_true,cond_false,Nat.reduceBEq,Int.natCast_zero]) rfl ?_
 rintro i ⟨hi,hok⟩
 refine aw_hide fun Q2 hQ2=>?_
 by_cases hin:(i:Int)<xs.length
 · have hin' : i<xs.length:=by omega
   obtain ⟨hx1,hx2⟩:=getD_rng hx hin'
   simp (maxSteps:=2000000) only [↓Za,↓Zn,↓Zp,↓Yt,↓Zb,↓Zc,↓vdn,vup,cond_true,cond_false,aop,Zg,ev,sput,Zf,Zv,Zx,Nat.reduceBEq,tyf,l51_1,hin,hv.idx el_56 Xe hin',hv.load Xf hin']
   by_cases hneg:xs.getD i 0<0
   · have hb:=grs_no (xs:=xs) fun g=>by have:=(g.2.2 i hin').1.1; omega
     simp (maxSteps:=2000000) only [↓Za,↓Zp,↓Ya,↓Zb,↓Zc,↓vdn,vup,cond_true,cond_false,aop,Zg,Zl,ev,sput,Zf,Nat.reduceBEq,hneg]
     refine hQ2 _ _ _ (hQ _ _ _ ?_)
     simp (maxSteps:=2000000) only [vup,cond_true,cond_false,Zg,Zl,Nat.reduceBEq,Zu,Xu,tup,hb]
   simp (maxSteps:=2000000) only [↓Zc,↓vdn,vup,cond_true,cond_false,aop,ev,sput,Zf,Zv,Zx,Nat.reduceBEq,hneg,shl1 (show xs.length≤62 by omega),Int.natCast_nonneg]
   by_cases hbig:2 ^ xs.length≤xs.getD i 0
   · have hb:=grs_no (xs:=xs) fun g=>by have:=(g.2.2 i hin').1.2; omega
     simp (maxSteps:=2000000) only [↓Za,↓Zp,↓Ya,↓Zb,↓Zc,↓vdn,vup,cond_true,cond_false,aop,Zg,Zl,ev,sput,Zf,Nat.reduceBEq,hbig]
     refine hQ2 _ _ _ (hQ _ _ _ ?_)
     simp (maxSteps:=2000000) only [vup,cond_true,cond_false,Zg,Zl,Nat.reduceBEq,Zu,Xu,tup,hb]
   have hs0:0≤xs.getD i 0:=by omega
   have hs1:xs.getD i 0<9223372036854775808:=by omega
   have tt : ∀ j:Nat,Wj .and .i64 (shrV .i64 (xs.getD i 0) j) 1=if gb xs i j then 1 else 0:=fun j=>testI hs0 hs1 j
   cases hbit:gb xs i i with
   | true =>
     have hb:=grs_no (xs:=xs) fun g=>by have:=(g.2.2 i hin').2.1; rw [hbit] at this; cases this
     simp (maxSteps:=2000000) only [↓Za,↓Zp,↓Ya,↓Zb,↓Zc,↓vdn,vup,cond_true,cond_false,aop,Zg,Zl,ev,sput,Zf,Zv,Zx,Nat.reduceBEq,Int.reduceBEq,hbig,Int.natCast_nonneg,tt,hbit,if_true,Int.reduceBEq]
     refine hQ2 _ _ _ (hQ _ _ _ ?_)
     simp (maxSteps:=2000000) only [vup,cond_true,cond_false,Zg,Zl,Nat.reduceBEq,Zu,Xu,tup,hb]
   | false =>
   simp (maxSteps:=2000000) only [↓Za,↓Zn,↓Zp,↓Yt,↓Zb,↓Zc,↓vdn,vup,cond_true,cond_false,aop,Zg,ev,sput,Zf,Zv,Zx,Nat.reduceBEq,Int.reduceBEq,hbig,Int.natCast_nonneg,tt,hbit,if_false,Bool.false_eq_true,Int.reduceBEq,↓Xr]
   refine Zm fun Q3 hQ3=>?_
   refine aw_loop (γ:=Nat) (fun j=>j≤xs.length∧∀ k,k<j→inR xs k→gb xs i k=gb xs k i)
    (fun j=>([(0,v),(2,.bool false),(3,Zd xs.length),(4,Zd i),(5,Zd (xs.getD i 0)),(15,v),(16,Zd xs.length),(17,Zd i),(37,Zd xs.length),(38,Zd j)],h)) (fun j=>xs.length-j) 0 ⟨by omega,fun _ hk=>by omega⟩ (by simp (maxSteps:=2000000) only [vup,cond_true,cond_false,Nat.reduceBEq,Int.natCast_zero]) rfl ?_
   rintro j ⟨hj,hokj⟩
   refine aw_hide fun Q4 hQ4=>?_
   by_cases hji:(j:Int)<xs.length
   · have hjn:j<xs.length:=by omega
     simp (maxSteps:=2000000) only [↓Za,↓Zn,↓Zp,↓Yt,↓Zb,↓Zc,↓vdn,vup,cond_true,cond_false,aop,Zg,ev,sput,Zf,Zv,Zx,Nat.reduceBEq,l51_0,hji]
     refine aw_draw [] (by kernel_rfl) (by kernel_rfl) (by kernel_rfl) ?_
     have hgood:inR xs j→Wj .and .i64 (shrV .i64 (xs.getD j 0) i) 1=if gb xs j i then 1 else 0:=fun hr=>testI hr.1 (by have:=hr.2; omega) i
     cases heq:((if gb xs i j then (1:Int) else 0) != Wj .and .i64 (shrV .i64 (xs.getD j 0) i) 1) with
     | true =>
       have hb:=grs_no (xs:=xs) fun g=>by
        have g1:=g.2.2 j hjn
        rw [hgood g1.1,bne01,(g.2.2 i hin').2.2 j hjn,bne_self_eq_false] at heq
        cases heq
       simp (maxSteps:=2000000) only [↓Za,↓Zp,↓Ya,↓Zb,↓Zc,↓dops_nil,↓vdn,vup,cond_true,cond_false,aop,Zg,Zl,ev,sput,Zf,Zv,Zx,Nat.reduceBEq,tyf,Int.natCast_nonneg,tt,hv.idx el_56 Xe hjn,hv.load Xf hjn,heq]
       refine hQ4 _ _ _ (hQ3 _ _ _ ?_)
       simp (maxSteps:=2000000) only [Zg,Zl]
       refine hQ2 _ _ _ (hQ _ _ _ ?_)
       simp (maxSteps:=2000000) only [vup,cond_true,cond_false,Zg,Zl,Nat.reduceBEq,Zu,Xu,tup,hb]
     | false =>
       simp (maxSteps:=2000000) only [↓Za,↓Zn,↓Zb,↓Zc,↓dops_nil,↓vdn,vup,cond_true,cond_false,aop,Zg,Zl,ev,sput,Zf,Zv,Zx,Nat.reduceBEq,tyf,Int.natCast_nonneg,tt,hv.idx el_56 Xe hjn,hv.load Xf hjn,heq,Wx (show j<9223372036854775807 by omega)]
       refine hQ4 _ _ _ ⟨j+1,⟨by omega,fun k hk hr=>?_⟩,by omega,by simp (maxSteps:=2000000) only [vup,cond_true,cond_false,Nat.reduceBEq],rfl⟩
       by_cases hkj:k=j
       · subst hkj
         rw [hgood hr,bne01,bne_eq_false_iff_eq] at heq
         exact heq
       · exact hokj k (by omega) hr
   · obtain rfl:j=xs.length:=by omega
     simp (maxSteps:=2000000) only [↓Za,↓Zp,↓Yi,↓Zb,↓Zc,↓vdn,vup,cond_true,cond_false,aop,Zg,ev,sput,Zf,Zv,Zx,Nat.reduceBEq,l51_0,Int.lt_irrefl]
     refine hQ4 _ _ _ (hQ3 _ _ _ ?_)
     simp (maxSteps:=2000000) only [↓Za,↓Zb,↓Zc,vup,cond_true,cond_false,aop,Zg,Zl,ev,sput,Zf,Zv,Zx,Nat.reduceBEq,if_true,Wx (show i<9223372036854775807 by omega)]
     refine hQ2 _ _ _ ⟨i+1,⟨by omega,fun k hk=>?_⟩,by omega,by simp (maxSteps:=2000000) only [vup,cond_true,cond_false,Nat.reduceBEq],rfl⟩
     by_cases hkj:k=i
     · subst hkj
       exact ⟨⟨hs0,by omega⟩,hbit,fun j hj hr=>hokj j hj hr⟩
     · exact hok k (by omega)
 · obtain rfl:i=xs.length:=by omega
   have ht:grs xs=true:=grs_iff.2 ⟨by omega,by omega,fun i hi=>⟨(hok i hi).1,(hok i hi).2.1,fun j hj=>(hok i hi).2.2 j hj (hok j hj).1⟩⟩
   simp (maxSteps:=2000000) only [↓Za,↓Zp,↓Yi,↓Zb,↓Zc,↓vdn,vup,cond_true,cond_false,aop,Zg,ev,sput,Zf,Zv,Zx,Nat.reduceBEq,l51_1,Int.lt_irrefl]
   refine hQ2 _ _ _ (hQ _ _ _ ?_)
   simp (maxSteps:=2000000) only [↓Za,↓Zp,↓Ya,↓Zb,↓Zc,vup,cond_true,cond_false,aop,Zg,Zl,ev,sput,Zf,Nat.reduceBEq,Zu,Xu,tup,if_true,ht]
end Go.Proofs.Tryd.Am
namespace Go.Proofs.Tryd.Am
open Go.Am Sr
set_option maxRecDepth 100000
set_option maxHeartbeats 1000000
theorem tmodN (x y:Nat):((x:Nat):Int).tmod ((y:Nat):Int)=((x % y:Nat):Int):=by
 rw [Int.tmod_eq_emod_of_nonneg (by omega)]; rfl
theorem quoN {x y:Nat} (hx:x<9223372036854775808):quoV .i64 ((x:Nat):Int) ((y:Nat):Int)=((x / y:Nat):Int):=by
 have e:((x:Nat):Int).tdiv ((y:Nat):Int)=((x / y:Nat):Int):=by
  rw [Int.tdiv_eq_ediv_of_nonneg (by omega)]; rfl
 have h1:=Nat.div_le_self x y
 rw [quoV,e]
 generalize x / y=z at h1
 exact wrap_id (by omega) (by omega)
theorem bneN {a b:Nat}:(((a:Nat):Int) != ((b:Nat):Int)) = !(a==b):=by
 rw [Bool.eq_iff_iff,bne_iff_ne,Bool.not_eq_true',beq_eq_false_iff_ne]; omega
theorem confused_call [Tabs prog] {h:Zh} {v:Value} {xs:List Int} (hv:IntSl h v xs) (g:Gs xs) {a b k:Nat} (ha:a<9223372036854775808) (hb:b<9223372036854775808) (hk:k<9223372036854775807):Wo prog 77 [v,Zd a,Zd b,Zd k] h (.bool (cf xs k a b)):=by
 have h0:0<xs.length:=g.1
 have hn0 : ¬ ((xs.length:Nat):Int)=0:=by omega
 refine s77_call (by simp) ?_
 simp (maxSteps:=2000000) only [s77,↓Za,↓Zp,↓Yt,↓Zb,↓Zc,vup,cond_true,cond_false,aop,Zg,Zt,ev,sput,Zf,Nat.reduceBEq,Nat.reduceAdd,↓Xr]
 refine Zm fun Q hQ=>?_
 refine aw_loop (γ:=Nat×Nat×Nat) (fun s=>s.1≤k∧s.2.1<9223372036854775808∧s.2.2<9223372036854775808∧cf xs k a b=cf xs (k-s.1) s.2.1 s.2.2)
  (fun s=>([(0,v),(1,Zd s.2.1),(2,Zd s.2.2),(3,Zd k),(8,.bool false),(11,Zd k),(12,Zd s.1)],h)) (fun s=>k-s.1) (0,a,b) ⟨Nat.zero_le _,ha,hb,rfl⟩ (by simp (maxSteps:=2000000) only [vup,cond_true,cond_false,Nat.reduceBEq,Int.natCast_zero]) rfl ?_
 rintro ⟨i,x,y⟩ ⟨hi,hx,hy,he⟩
 simp only at hi hx hy he
 refine aw_hide fun Q2 hQ2=>?_
 by_cases hin:(i:Int)<k
 · have hi' : i<k:=by omega
   have ek:k-i=(k-(i+1))+1:=by omega
   rw [ek,cf] at he
   have hxm:x % xs.length<xs.length:=Nat.mod_lt _ h0
   have hr:=gs_lt g hxm
   have tt : ∀ j:Nat,Wj .and .i64 (shrV .i64 (xs.getD (x % xs.length) 0) j) 1=if gb xs (x % xs.length) j then 1 else 0:=fun j=>testI hr.1 (by omega) j
   have hx2:x / xs.length<9223372036854775808:=Nat.lt_of_le_of_lt (Nat.div_le_self _ _) hx
   have hy2:y / xs.length<9223372036854775808:=Nat.lt_of_le_of_lt (Nat.div_le_self _ _) hy
   simp (maxSteps:=2000000) only [↓Za,↓Zn,↓Zp,↓Yt,↓Zb,↓Zc,↓vdn,vup,cond_true,cond_false,aop,Zg,ev,sput,Zf,Zv,Zx,Nat.reduceBEq,l77_0,hin]
   refine Xp [] (by kernel_rfl) (by kernel_rfl) (by kernel_rfl) (by kernel_rfl) ?_
   cases hm:(x % xs.length==y % xs.length) with
   | true =>
     rw [hm,Bool.true_or,Bool.true_and] at he
     simp (maxSteps:=2000000) only [↓Za,↓Zn,↓Zp,↓Zb,↓Zc,↓Yw,↓vdn,vup,List.map_cons,List.map_nil,cond_true,cond_false,aop,Zg,ev,sput,Zf,Zv,Zx,Zi,Nat.reduceBEq,tyf,hv.len,ne_eq,hn0,not_false_eq_true,tmodN,bneN,hm]
     refine Xp [] (by kernel_rfl) (by kernel_rfl) (by kernel_rfl) (by kernel_rfl) ?_
     simp (maxSteps:=2000000) only [↓Za,↓Zb,↓Zc,↓Yw,↓vdn,vup,List.map_cons,List.map_nil,cond_true,cond_false,aop,Zg,Zl,ev,sput,Zf,Zv,Zx,Zi,Nat.reduceBEq,tyf,hv.len,ne_eq,hn0,not_false_eq_true,quoN hx,quoN hy,Wx (show i<9223372036854775807 by omega)]
     exact hQ2 _ _ _ ⟨(i+1,x / xs.length,y / xs.length),⟨by simp only; omega,hx2,hy2,he⟩,by simp only; omega,by simp (maxSteps:=2000000) only [vup,cond_true,cond_false,Nat.reduceBEq],rfl⟩
   | false =>
     rw [hm,Bool.false_or] at he
     cases ht:gb xs (x % xs.length) (y % xs.length) with
     | true =>
       rw [ht,Bool.true_and] at he
       simp (maxSteps:=2000000) only [↓Za,↓Zn,↓Zp,↓Zb,↓Zc,↓Yw,↓vdn,vup,List.map_cons,List.map_nil,cond_true,cond_false,aop,Zg,ev,sput,Zf,Zv,Zx,Zi,Nat.reduceBEq,Int.reduceBEq,tyf,hv.len,ne_eq,hn0,not_false_eq_true,tmodN,bneN,hm,hv.idx el_56 Xe hxm,hv.load Xf hxm,Int.natCast_nonneg,tt,ht,if_true]
       refine Xp [] (by kernel_rfl) (by kernel_rfl) (by kernel_rfl) (by kernel_rfl) ?_
       simp (maxSteps:=2000000) only [↓Za,↓Zb,↓Zc,↓Yw,↓vdn,vup,List.map_cons,List.map_nil,cond_true,cond_false,aop,Zg,Zl,ev,sput,Zf,Zv,Zx,Zi,Nat.reduceBEq,tyf,hv.len,ne_eq,hn0,not_false_eq_true,quoN hx,quoN hy,Wx (show i<9223372036854775807 by omega)]
       exact hQ2 _ _ _ ⟨(i+1,x / xs.length,y / xs.length),⟨by simp only; omega,hx2,hy2,he⟩,by simp only; omega,by simp (maxSteps:=2000000) only [vup,cond_true,cond_false,Nat.reduceBEq],rfl⟩
     | false =>
       rw [ht,Bool.false_and] at he
       simp (maxSteps:=2000000) only [↓Za,↓Zp,↓Ya,↓Zb,↓Zc,↓Yw,↓vdn,vup,List.map_cons,List.map_nil,cond_true,cond_false,aop,Zg,Zl,ev,sput,Zf,Zv,Zx,Zi,Nat.reduceBEq,Int.reduceBEq,tyf,hv.len,ne_eq,hn0,not_false_eq_true,tmodN,bneN,hm,hv.idx el_56 Xe hxm,hv.load Xf hxm,Int.natCast_nonneg,tt,ht,if_false,Bool.false_eq_true]
       refine hQ2 _ _ _ (hQ _ _ _ ?_)
       simp (maxSteps:=2000000) only [vup,cond_true,cond_false,Zg,Zl,Nat.reduceBEq,Zu,Xu,tup,he]
 · obtain rfl:i=k:=by omega
   rw [Nat.sub_self,cf] at he
   simp (maxSteps:=2000000) only [↓Za,↓Zp,↓Yi,↓Zb,↓Zc,↓vdn,vup,cond_true,cond_false,aop,Zg,ev,sput,Zf,Zv,Zx,Nat.reduceBEq,l77_0,Int.lt_irrefl]
   refine hQ2 _ _ _ (hQ _ _ _ ?_)
   simp (maxSteps:=2000000) only [↓Za,↓Zp,↓Ya,↓Zb,↓Zc,vup,cond_true,cond_false,aop,Zg,Zl,ev,sput,Zf,Nat.reduceBEq,Zu,Xu,tup,if_true,he]
theorem mulN {a b:Nat} (h:a*b<9223372036854775808):mulV .i64 (a:Int) (b:Int)=((a*b:Nat):Int):=by
 have h2:(a:Int)*(b:Int)=((a*b:Nat):Int):=(Int.natCast_mul a b).symm
 rw [mulV_id (by rw [h2]; omega) (by rw [h2]; omega),h2]
theorem wn_le {xs:List Int} (g:Gs xs) {k:Nat} (hk:k≤6):wn xs k≤46656:=by
 have h1:wn xs k≤6 ^ k:=Nat.pow_le_pow_left g.2.1 k
 have h2:6 ^ k≤6 ^ 6:=Nat.pow_le_pow_right (by decide) hk
 exact Nat.le_trans h1 h2
end Go.Proofs.Tryd.Am
namespace Go.Proofs.Tryd.Am
open Go.Am Sr
set_option maxRecDepth 100000
set_option maxHeartbeats 1000000
abbrev pt (b:Nat):Value:=.pointer (some ⟨b,0,none⟩)
theorem set_last (g:Zh) (B C:Blk):(g++[B]).set g.length C=g++[C]:=by
 apply List.ext_getElem?
 intro i
 by_cases hi:i=g.length
 · subst hi; simp
 · rw [List.getElem?_set_ne (Ne.symm hi)]
   by_cases h2:i<g.length
   · rw [List.getElem?_append_left h2,List.getElem?_append_left h2]
   · rw [List.getElem?_eq_none (by simp; omega),List.getElem?_eq_none (by simp; omega)]
theorem Xn {h h' : Zh} {v:Value} {xs:List Int} (hv:IntSl h v xs) (hE:Ext (fun _=>False) h h'):IntSl h' v xs:=hv.same fun b hb=>hE.2 b (hv.lt hb) id
theorem ownV_one {e:TypeId} {h:Zh} {v:Value} {ws:List Value} (ho:OwnV e h v ws):one v=true:=by
 rcases ho with ⟨rfl,_⟩ | ⟨b,ys,rfl,_⟩ <;> rfl
theorem litU {h:Zh} {s:Int} {K:Value→Zh→Prop}:Yo prog h 60 1 [(0,.int .u64 s)] K=K (.slice (some ⟨h.length,0,none⟩) 1 1) (h++[.cells [.int .u64 s] 63 false]):=by
 have e1:fillL (fun i=>some (i*1,1)) (reps [.int .u64 0] 1) [(0,.int .u64 s)]=some [.int .u64 s]:=by simp [fillL,Wl,cellsOf,reps,Yh]
 have e2:mkb [.int .u64 s] 63 = .cells [.int .u64 s] 63 false:=mkb_no (by simp) fun w' hw'=>by
  rw [List.mem_singleton.1 hw']; rfl
 simp only [Yo,el_60,zero_63,esz_63,e1,e2]
 exact propext ⟨fun h=>h.2.2.2,fun h=>⟨rfl,by decide,by decide,h⟩⟩
theorem litU_val (h:Zh) (s:Int):ValSl (h++[.cells [.int .u64 s] 63 false]) (.slice (some ⟨h.length,0,none⟩) 1 1) [.int .u64 s] :=
 .inr ⟨h.length,0,none,1,[.int .u64 s],63,false,rfl,Nat.le_refl _,by simp [view,Blk.view],rfl⟩
theorem bld62 {K:Value→Prop}:Va prog 62 [(0,.int .i64 1)] K=K (.agg #[.int .i64 1,.slice none 0 0]):=by
 simp [Va,zero_62,fillL,pl_62_0,Wl,cellsOf,Yh]
theorem box62 {h:Zh} {a b:Value} {K:Value→Zh→Prop}:boxK prog h 62 (.agg #[a,b]) K=K (Xc h) (h++[.cells [a,b] 62 false]):=by
 simp [boxK,esz_62,cellsOf]
def WO (h:Zh) (b:Nat) (nr:List Nat):Prop:=∃ nv,h[b]? = some (.cells [Zd nr.length,nv] 62 false)∧ValSl h nv (nr.map fun x=>vu x)
theorem WO.ext {h h' : Zh} {b:Nat} {nr:List Nat} (w:WO h b nr) (hE:Ext (fun _=>False) h h'):WO h' b nr:=by
 obtain ⟨nv,h1,h2⟩:=w
 exact ⟨nv,(hE.2 b (Zz h1) id).trans h1,h2.ext hE⟩
theorem words_call [Tabs prog] {h:Zh} {v:Value} {xs:List Int} (hv:IntSl h v xs) (g:Gs xs) {k:Nat} (hk:k≤6) :
  ACall prog 52 [v,Zd k] h fun r h'=>Ext (fun _=>False) h h'∧if wn xs k≤64 then ∃ b,r = .tuple #[pt b,.bool true]∧WO h' b (nearL xs k) else r = .tuple #[.pointer none,.bool false]:=by
 have h0:0<xs.length:=g.1
 have mono : ∀ i,i≤k→wn xs i≤wn xs k:=fun i hi=>Nat.pow_le_pow_right h0 hi
 have hb : ∀ i:Nat,(h++[Blk.cells [Zd (wn xs i:Nat),.slice none 0 0] 62 false])[h.length]? = some (.cells [Zd (wn xs i:Nat),.slice none 0 0] 62 false):=fun i=>Yp _ _
 have ld : ∀ (i:Nat) {K:Value→Prop},Xq prog (h++[Blk.cells [Zd (wn xs i:Nat),.slice none 0 0] 62 false]) 3 (.pointer (some ⟨h.length,0,none⟩)) K=K (Zd (wn xs i:Nat)):=fun i {K}=>loadC (o:=0) (hb i) Xf rfl
 have st : ∀ (i:Nat) {z:Int} {K:Zh→Prop},Xh prog (h++[Blk.cells [Zd (wn xs i:Nat),.slice none 0 0] 62 false]) 3 (.pointer (some ⟨h.length,0,none⟩)) (.int .i64 z) K=K (h++[Blk.cells [Zd z,.slice none 0 0] 62 false]):=fun i {z K}=>by
  rw [storeC (hb i) Xf rfl (by simp),set_last]; rfl
 have hv1 : ∀ i:Nat,IntSl (h++[Blk.cells [Zd (wn xs i:Nat),.slice none 0 0] 62 false]) v xs:=fun i=>Xn hv (Ext.app (fun _=>False) h _)
 refine s52_call (by simp) ?_
 simp only [s52]
 refine aw_cut fun N hN=>?_
 simp (maxSteps:=2000000) only [↓Za,↓Zb,↓Zc,vup,cond_false,aop,Zg,Zt,ev,sput,Zf,Nat.reduceBEq,Nat.reduceAdd]
 refine hN _ _ ?_
 clear hN N
 refine aw_cut fun N hN=>?_
 simp (maxSteps:=2000000) only [↓Za,↓Zb,↓Zc,vup,List.map_cons,List.map_nil,cond_true,cond_false,aop,Zg,ev,sput,Zf,Nat.reduceBEq,bld62,box62,Xc]
 refine hN _ _ ?_
 clear hN N
 refine aw_cut fun N hN=>?_
 simp (maxSteps:=2000000) only [↓Za,↓Zp,↓Yt,↓Zb,↓Zc,vup,cond_true,cond_false,aop,Zg,ev,sput,Zf,Nat.reduceBEq,↓Xr]
 refine Zm fun Q hQ=>?_
 refine aw_loop (γ:=Nat) (fun i=>i≤k∧wn xs i≤64)
  (fun i=>([(0,v),(1,Zd k),(4,.pointer none),(5,.bool false),(6,pt h.length),(12,Zd k),(13,Zd i)],h++[Blk.cells [Zd (wn xs i:Nat),.slice none 0 0] 62 false])) (fun i=>k-i) 0 ⟨Nat.zero_le _,by show 1≤64; decide⟩ (by simp (maxSteps:=2000000) only [vup,cond_true,cond_false,Nat.reduceBEq,Int.natCast_zero]) rfl ?_
 rintro i ⟨hi,hw⟩
 refine aw_hide fun Q2 hQ2=>?_
 by_cases hin:(i:Int)<k
 · have hi' : i<k:=by omega
   have e:wn xs i*xs.length=wn xs (i+1):=(Nat.pow_succ ..).symm
   have h6:=g.2.1
   have hle:=wn_le g (show i+1≤6 by omega)
   have hm:mulV .i64 ((wn xs i:Nat):Int) ((xs.length:Nat):Int)=((wn xs (i+1):Nat):Int):=by
    rw [mulN (by rw [e]; omega),e]
   by_cases hbig:64<wn xs (i+1)
   · have hb2:(64:Int)<((wn xs (i+1):Nat):Int):=by omega
     simp (maxSteps:=2000000) only [↓Za,↓Zn,↓Zp,↓Yt,↓Ya,↓Zb,↓Zc,↓vdn,vup,List.map_cons,List.map_nil,cond_true,cond_false,aop,Zg,Zl,ev,sput,Zf,Zv,Zx,Zi,Nat.reduceBEq,tyf,l52_0,hin,nilK,fldA fld_62_0 Xe,ld i,(hv1 i).len,hm,st i,ld (i+1),hb2]
     refine hQ2 _ _ _ (hQ _ _ _ ?_)
     simp (maxSteps:=2000000) only [vup,cond_true,cond_false,Zg,Zl,Nat.reduceBEq,Zu,Xu,tup]
     have:=mono (i+1) (by omega)
     rw [if_neg (by omega)]
     exact ⟨Ext.app _ _ _,trivial⟩
   · have hb2 : ¬ (64:Int)<((wn xs (i+1):Nat):Int):=by omega
     simp (maxSteps:=2000000) only [↓Za,↓Zn,↓Zp,↓Yt,↓Zb,↓Zc,↓vdn,vup,List.map_cons,List.map_nil,cond_true,cond_false,aop,Zg,Zl,ev,sput,Zf,Zv,Zx,Zi,Nat.reduceBEq,tyf,l52_0,hin,nilK,fldA fld_62_0 Xe,ld i,(hv1 i).len,hm,st i,ld (i+1),hb2,Wx (show i<9223372036854775807 by omega)]
     exact hQ2 _ _ _ ⟨i+1,⟨by omega,by omega⟩,by omega,by simp (maxSteps:=2000000) only [vup,cond_true,cond_false,Nat.reduceBEq],rfl⟩
 · obtain rfl:i=k:=by omega
   simp (maxSteps:=2000000) only [↓Za,↓Zp,↓Yi,↓Zb,↓Zc,↓vdn,vup,cond_true,cond_false,aop,Zg,ev,sput,Zf,Zv,Zx,Nat.reduceBEq,l52_0,Int.lt_irrefl]
   refine hQ2 _ _ _ (hQ _ _ _ ?_)
   simp (maxSteps:=2000000) only [Zg,Zl,Zu,if_true]
   refine hN _ _ ?_
   clear hN N hQ2 Q2 hQ Q
   refine aw_cut fun N hN=>?_
   simp (maxSteps:=2000000) only [↓Za,↓Zp,↓Yt,↓Zb,↓Zc,vup,cond_true,cond_false,aop,Zg,ev,sput,Zf,Nat.reduceBEq,nilK,fldA fld_62_0 Xe,ld i,↓Xr]
   refine Zm fun Q hQ=>?_
   refine aw_loop (γ:=Nat×Zh×Value) (fun s=>s.1≤wn xs i∧Ext (fun _=>False) h s.2.1∧s.2.1[h.length]? = some (.cells [Zd (wn xs i:Nat),s.2.2] 62 false)∧OwnV 63 s.2.1 s.2.2 (((List.range s.1).map (nearW xs i)).map fun x=>vu x)∧∀ b,Ye s.2.2=some b→h.length<b)
    (fun s=>([(0,v),(1,Zd i),(4,.pointer none),(5,.bool false),(6,pt h.length),(33,Zd (wn xs i:Nat)),(34,Zd s.1)],s.2.1)) (fun s=>wn xs i-s.1) (0,_,.slice none 0 0)
    ⟨Nat.zero_le _,Ext.app _ _ _,hb i,.inl ⟨rfl,rfl⟩,fun b h=>by cases h⟩ (by simp (maxSteps:=2000000) only [vup,cond_true,cond_false,Nat.reduceBEq,Int.natCast_zero]) rfl ?_
   rintro ⟨a,hp,nv⟩ ⟨ha,hE,hc,ho,hbl⟩
   simp only at ha hE hc ho hbl
   refine aw_hide fun Q2 hQ2=>?_
   have ldp : ∀ {K:Value→Prop},Xq prog hp 3 (.pointer (some ⟨h.length,0,none⟩)) K=K (Zd (wn xs i:Nat)):=fun {K}=>loadC (o:=0) hc Xf rfl
   have ldn : ∀ {K:Value→Prop},Xq prog hp 60 (.pointer (some ⟨h.length,1,none⟩)) K=K nv:=fun {K}=>loadC (o:=1) hc shp_60 rfl
   by_cases hin:(a:Int)<(wn xs i:Nat)
   · have ha' : a<wn xs i:=by omega
     obtain ⟨p,hp'⟩ : ∃ p:Nat→Bool,p=fun b=>a != b&&cf xs i a b:=⟨_,rfl⟩
     have hmk : ∀ j,mk p j<2 ^ j:=mk_lt p
     simp (maxSteps:=2000000) only [↓Za,↓Zn,↓Zp,↓Yt,↓Zb,↓Zc,↓vdn,vup,cond_true,cond_false,aop,Zg,ev,sput,Zf,Zv,Zx,Nat.reduceBEq,l52_2,hin,nilK,fldA fld_62_0 Xe,ldp,↓Xr]
     refine Zm fun Q3 hQ3=>?_
     refine aw_loop (γ:=Nat) (fun j=>j≤wn xs i)
      (fun j=>([(0,v),(1,Zd i),(4,.pointer none),(5,.bool false),(6,pt h.length),(7,Zd a),(8,vu (mk p j)),(33,Zd (wn xs i:Nat)),(34,Zd a),(40,Zd (wn xs i:Nat)),(41,Zd j)],hp)) (fun j=>wn xs i-j) 0 (Nat.zero_le _) (by simp (maxSteps:=2000000) only [vup,cond_true,cond_false,Nat.reduceBEq,vu,mk_zero,Int.natCast_zero]) rfl ?_
     intro j hj
     refine aw_hide fun Q4 hQ4=>?_
     by_cases hjn:(j:Int)<(wn xs i:Nat)
     · have hj' : j<wn xs i:=by omega
       have p1:=hmk j
       have p2:2 ^ (j+1)≤2 ^ 64:=Nat.pow_le_pow_right (by decide) (by omega)
       have p3:2 ^ (j+1)=2 ^ j*2:=Nat.pow_succ ..
       have hor:Wj .or .u64 ((mk p j:Nat):Int) ((2 ^ j:Nat):Int)=((mk p j ||| 2 ^ j:Nat):Int):=orU (by omega) (by omega)
       cases haj:(a==j) with
       | true =>
         have e:mk p (j+1)=mk p j:=by
          have:p j=false:=by rw [hp']; simp only [bne,haj]; rfl
          rw [mk,this]; rfl
         simp (maxSteps:=2000000) only [↓Za,↓Zn,↓Zp,↓Yt,↓Zb,↓Zc,↓vdn,vup,cond_true,cond_false,aop,Zg,Zl,ev,sput,Zf,Zv,Zx,Nat.reduceBEq,l52_1,hjn,bneN,haj,Wx (show j<9223372036854775807 by omega)]
         exact hQ4 _ _ _ ⟨j+1,by omega,by omega,by simp (maxSteps:=2000000) only [vup,cond_true,cond_false,Nat.reduceBEq,e],rfl⟩
       | false =>
         simp (maxSteps:=2000000) only [↓Za,↓Zn,↓Zp,↓Yt,↓Zb,↓Zc,↓vdn,vup,List.map_cons,List.map_nil,cond_true,cond_false,aop,Zg,ev,sput,Zf,Zv,Zx,Nat.reduceBEq,l52_1,hjn,bneN,haj,Yz,List.nil_append,List.append_nil]
         refine (confused_call (Xn hv hE) g (show a<9223372036854775808 by omega) (show j<9223372036854775808 by omega) (show i<9223372036854775807 by omega)).mono ?_
         rintro _ hp ⟨rfl,rfl⟩
         cases hcf:cf xs i a j with
         | true =>
           have e:mk p (j+1)=mk p j ||| 2 ^ j:=by
            have:p j=true:=by rw [hp']; simp only [bne,haj,hcf]; rfl
            rw [mk,this]; rfl
           simp (maxSteps:=2000000) only [↓Za,↓Zb,↓Zc,↓vdn,vup,cond_true,cond_false,aop,Zg,Zl,ev,sput,Zf,Zv,Zx,Nat.reduceBEq,Int.natCast_nonneg,shlU1 (show j<64 by omega),hor,Wx (show j<9223372036854775807 by omega)]
           exact hQ4 _ _ _ ⟨j+1,by omega,by omega,by simp (maxSteps:=2000000) only [vup,cond_true,cond_false,Nat.reduceBEq,e],rfl⟩
         | false =>
           have e:mk p (j+1)=mk p j:=by
            have:p j=false:=by rw [hp']; simp only [hcf,Bool.and_false]
            rw [mk,this]; rfl
           simp (maxSteps:=2000000) only [↓Za,↓Zn,↓Zb,↓Zc,↓vdn,vup,cond_true,cond_false,aop,Zg,Zl,ev,sput,Zf,Zv,Zx,Nat.reduceBEq,Wx (show j<9223372036854775807 by omega)]
           exact hQ4 _ _ _ ⟨j+1,by omega,by omega,by simp (maxSteps:=2000000) only [vup,cond_true,cond_false,Nat.reduceBEq,e],rfl⟩
     · obtain rfl:j=wn xs i:=by omega
       simp (maxSteps:=2000000) only [↓Za,↓Zp,↓Yi,↓Zb,↓Zc,↓vdn,vup,cond_true,cond_false,aop,Zg,ev,sput,Zf,Zv,Zx,Nat.reduceBEq,l52_1,Int.lt_irrefl]
       refine hQ4 _ _ _ (hQ3 _ _ _ ?_)
       simp (maxSteps:=2000000) only [↓Za,↓Zb,↓Zc,vup,List.map_cons,List.map_nil,cond_true,cond_false,aop,Zg,Zl,ev,sput,Zf,Zv,Zx,Zi,Nat.reduceBEq,if_true,nilK,fldA fld_62_1 esz_60,ldn,litU]
       have en:mk p (wn xs i)=nearW xs i a:=by rw [hp']; rfl
       rw [en]
       have hE1:Ext (fun _=>False) hp (hp++[Blk.cells [.int .u64 ((nearW xs i a:Nat):Int)] 63 false]):=Ext.app _ _ _
       refine (ho.ext hE1).app app_60_60 (litU_val hp _) ?_ ?_ fun nv2 h2 ho2 hE2 hb2=>?_
       · intro w hw
         rcases List.mem_append.1 hw with hw | hw
         · obtain ⟨z,_,rfl⟩:=List.mem_map.1 hw; exact ⟨rfl,rfl⟩
         · rw [List.mem_singleton.1 hw]; exact ⟨rfl,rfl⟩
       · simp only [List.length_map,List.length_range,List.length_singleton]; omega
       have hlt:=Zz hc
       have hc2:h2[h.length]? = some (.cells [Zd (wn xs i:Nat),nv] 62 false):=by
        rw [hE2.2 _ (Nat.lt_of_lt_of_le hlt hE1.1) fun h1=>by have:=hbl _ h1; omega,hE1.2 _ hlt id]; exact hc
       have hst : ∀ {K:Zh→Prop},Xh prog h2 60 (.pointer (some ⟨h.length,1,none⟩)) nv2 K=K (h2.set h.length (.cells [Zd (wn xs i:Nat),nv2] 62 false)):=fun {K}=>by
        rw [storeC hc2 shp_60 (ownV_one ho2) (by simp)]; rfl
       have hb3 : ∀ b,Ye nv2=some b→h.length<b:=fun b h1=>by
        rcases hb2 with h3 | ⟨b',h3,h4⟩
        · exact hbl b (h3▸h1)
        · rw [h3] at h1; cases h1; have:=hE1.1; omega
       simp (maxSteps:=2000000) only [hst,Wx (show a<9223372036854775807 by omega)]
       refine hQ2 _ _ _ ⟨(a+1,h2.set h.length (.cells [Zd (wn xs i:Nat),nv2] 62 false),nv2),⟨by simp only; omega,⟨?_,fun x hx _=>?_⟩,Xj (Zz hc2) _,?_,hb3⟩,by simp only; omega,by simp (maxSteps:=2000000) only [vup,cond_true,cond_false,Nat.reduceBEq],rfl⟩
       · rw [List.length_set]; have:=hE.1; have:=hE1.1; have:=hE2.1; omega
       · have l1:=hE.1
         have l2:=hE1.1
         rw [List.getElem?_set_ne (by omega),hE2.2 x (by omega) fun h1=>by have:=hbl _ h1; omega,hE1.2 x (by omega) id]
         exact hE.2 x hx id
       · rw [List.range_succ,List.map_append,List.map_append]
         exact ho2.same fun b h1=>List.getElem?_set_ne (by have:=hb3 b h1; omega)
   · obtain rfl:a=wn xs i:=by omega
     simp (maxSteps:=2000000) only [↓Za,↓Zp,↓Yi,↓Zb,↓Zc,↓vdn,vup,cond_true,cond_false,aop,Zg,ev,sput,Zf,Zv,Zx,Nat.reduceBEq,l52_2,Int.lt_irrefl]
     refine hQ2 _ _ _ (hQ _ _ _ ?_)
     simp (maxSteps:=2000000) only [Zg,Zl,Zu,if_true]
     refine hN _ _ ?_
     simp (maxSteps:=2000000) only [↓Za,↓Zp,↓Ya,↓Zb,↓Zc,vup,cond_true,cond_false,aop,Zg,ev,sput,Zf,Nat.reduceBEq,Zu,Xu,tup]
     rw [if_pos hw]
     exact ⟨hE,h.length,rfl,nv,by rw [nearL_len]; exact hc,ho.val⟩
end Go.Proofs.Tryd.Am
namespace Go.Proofs.Tryd.Am
open Go.Am Sr
set_option maxRecDepth 100000
set_option maxHeartbeats 1000000
theorem getD_vu {nr:List Nat} {v:Nat} (hv:v<nr.length):(nr.map fun x=>vu x).getD v undef=vu (nb nr v):=by
 simp [nb,List.getD,List.getElem?_eq_getElem hv]
theorem p64:(2:Nat) ^ 64=18446744073709551616:=by decide
theorem lt64 {nr:List Nat} (g:Gr nr) {s:Nat} (hs:s<2 ^ nr.length):s<18446744073709551616:=by
 rw [← p64]; exact Nat.lt_of_lt_of_le hs (Nat.pow_le_pow_right (by decide) g.len)
theorem nb64 {nr:List Nat} (g:Gr nr) (v:Nat):nb nr v<18446744073709551616:=lt64 g (g.lt v)
theorem bit64 {v:Nat} (h:v<64):2 ^ v<18446744073709551616:=by
 rw [← p64]; exact Nat.pow_lt_pow_right (by decide) h
theorem cutU {nr:List Nat} (g:Gr nr) {s v:Nat} (hs:s<2 ^ nr.length) (hv:v<64):Wj .andNot .u64 ((less s (nb nr v):Nat):Int) ((2 ^ v:Nat):Int)=((cut nr s v:Nat):Int):=by
 rw [lessU (lt64 g (less_lt hs)) (bit64 hv)]; rfl
theorem bits_head {r:Nat} (hr:r<18446744073709551616) (h0:r≠0):r.testBit (Lib.ctz 64 r)=true:=by
 have h:=bits_stepU r hr h0
 have:Lib.ctz 64 r∈Am.bits r:=by rw [h]; exact List.mem_cons_self ..
 exact (List.mem_filter.1 this).2
theorem sub_pred {r t:Nat} (h : ∀ i,r.testBit i=true→t.testBit i=true) (i:Nat):(r &&& (r-1)).testBit i=true→t.testBit i=true:=by
 rw [Nat.testBit_and,Bool.and_eq_true]; exact fun h2=>h i h2.1
def pickI (nr:List Nat) (t r:Nat) (p d:Int):Prop:=(p = -1∧d = -1∧r=t)∨∃ v:Nat,p=v∧t.testBit v=true∧d=((Am.bits (nb nr v &&& t)).length:Nat)∧1<(Am.bits (nb nr v &&& t)).length
theorem most_call [BitTab prog 0] {h:Zh} {b:Nat} {nr:List Nat} (w:WO h b nr) (g:Gr nr) : ∀ s,s<2 ^ nr.length→Wo prog 53 [pt b,vu s] h (Zd (A nr s:Nat)):=by
 intro s
 induction s using Nat.strongRecOn with
 | _ s ih =>
   intro hs
   obtain ⟨nv,hc,hv⟩:=w
   have ldn : ∀ {K:Value→Prop},Xq prog h 60 (.pointer (some ⟨b,1,none⟩)) K=K nv:=fun {K}=>loadC (o:=1) hc shp_60 rfl
   have ix : ∀ v,v<nr.length→∀ {K:Value→Prop},Yy prog 60 nv (Zd v) K=K (Wb nv 1 v):=fun v h1 {K}=>hv.idx el_60 esz_63 (by rw [List.length_map]; exact h1) K
   have ld : ∀ v,v<nr.length→∀ {K:Value→Prop},Xq prog h 63 (Wb nv 1 v) K=K (vu (nb nr v)):=fun v h1 {K}=>by
    rw [hv.load shp_63 (by rw [List.length_map]; exact h1),getD_vu h1]
   refine s53_call (by simp) ?_
   simp (maxSteps:=2000000) only [s53,↓Za,↓Zp,↓Yt,↓Zb,↓Zc,vup,cond_false,aop,Zg,Zt,ev,sput,Zf,Nat.reduceBEq,Nat.reduceAdd,↓Xr]
   refine Zm fun Q hQ=>?_
   refine Yl (γ:=Nat×Nat) (fun a=>a.1≤s∧a.1<2 ^ nr.length∧a.2+A nr a.1=A nr s)
    (fun a=>([(0,pt b),(1,vu a.1),(4,.int .i64 0),(5,Zd a.2)],h)) (fun a=>a.1) (s,0) ⟨Nat.le_refl _,hs,Nat.zero_add _⟩ (by simp (maxSteps:=2000000) only [vup,cond_true,cond_false,Nat.reduceBEq,Int.natCast_zero]) rfl ?_
   rintro ⟨t,o⟩ ⟨h1,h2,h3⟩
   simp only at h1 h2 h3
   have hA:=A_le nr s
   refine Zm fun Q2 hQ2=>?_
   simp only [l53_1]
   refine Ze fun N hN=>?_
   by_cases t0:t=0
   · subst t0
     rw [A_zero] at h3
     simp (maxSteps:=2000000) only [↓Za,↓Zp,↓Yi,↓Zb,↓Zc,↓vdn,vup,cond_true,cond_false,aop,Zg,ev,sput,Zf,Zv,Zx,Nat.reduceBEq,ofNe,ne_eq,not_true_eq_false]
     refine hQ2 _ _ _ (hQ _ _ _ ?_)
     simp (maxSteps:=2000000) only [↓Za,↓Zp,↓Ya,↓Zb,↓Zc,vup,cond_true,cond_false,aop,Zg,Zl,ev,sput,Zf,Nat.reduceBEq,Zu,Xu,tup,if_true]
     rw [← h3,Nat.add_zero]
   simp (maxSteps:=2000000) only [↓Za,↓Zn,↓Zp,↓Zb,↓Zc,↓vdn,vup,cond_true,cond_false,aop,Zg,ev,sput,Zf,Zv,Zx,Nat.reduceBEq,ofNe,ne_eq,t0,not_false_eq_true]
   refine hN [(0,pt b),(1,vu t),(4,.int .i64 0),(5,Zd o)] _ _ ?_ (by simp (maxSteps:=2000000) only [vup,cond_true,cond_false,Nat.reduceBEq])
   clear hN N
   have ht:=lt64 g h2
   refine Zo ?_
   refine Ze fun N hN=>?_
   simp (maxSteps:=2000000) only [↓Za,↓Zb,↓Zc,vup,cond_false,aop,Zg,ev,sput,Zf,Nat.reduceBEq]
   refine hN [(0,pt b),(1,vu t),(4,.int .i64 0),(5,Zd o),(6,.int .i64 (-1)),(7,.int .i64 (-1))] _ _ ?_ (by simp (maxSteps:=2000000) only [vup,cond_true,cond_false,Nat.reduceBEq])
   clear hN N
   refine Ze fun N hN=>?_
   have go : ∀ v d,t.testBit v=true→d=(Am.bits (nb nr v &&& t)).length→∀ e,ELe e [(0,pt b),(1,vu t),(4,.int .i64 0),(5,Zd o),(6,Zd v),(7,Zd d)]→N e h:=by
    intro v d hb hd e he
    refine hN [(0,pt b),(1,vu t),(4,.int .i64 0),(5,Zd o),(6,Zd v),(7,Zd d)] _ _ ?_ he
    clear hN N he e
    have hvl:=bit_lt h2 hb
    have hv64:v<64:=Nat.lt_of_lt_of_le hvl g.len
    have hnn:(0:Int)≤(v:Int):=Int.natCast_nonneg _
    refine Ze fun N hN=>?_
    by_cases hd1:(1:Int)<(d:Int)
    · simp (maxSteps:=2000000) only [↓Za,↓Zp,↓Zb,↓Zc,↓vdn,vup,cond_true,cond_false,aop,Zg,ev,sput,Zf,Zv,Zx,Nat.reduceBEq,hd1]
      have l1:=cut_less g hb
      have l2:=less_bit_lt hb
      have hp:=A_pivot g (Nat.lt_of_lt_of_le h2 (Nat.pow_le_pow_right (by decide) g.len)) hb
      refine Xp [(14,1),(21,1)] (by kernel_rfl) (by kernel_rfl) (by kernel_rfl) (by kernel_rfl) ?_
      simp (maxSteps:=2000000) only [↓Ya,↓Yw,↓vdn,vup,List.map_cons,List.map_nil,cond_true,cond_false,aop,Zg,Zl,ev,sput,Zf,Zv,Zx,Zi,Nat.reduceBEq,Nat.reduceAdd,tyf,nilK,fldA fld_62_1 esz_60,ldn,ix v hvl,ld v hvl,hnn,shlU1 hv64,lessU ht (nb64 g v),cutU g h2 hv64,lessU ht (bit64 hv64),Yz,List.nil_append,List.append_nil]
      refine ⟨_,_,ih (cut nr t v) (by omega) (cut_lt h2),rfl,?_⟩
      have a1:=A_le nr (cut nr t v)
      have a2:=A_le nr (less t (2 ^ v))
      have e1:addV .i64 1 ((A nr (cut nr t v):Nat):Int)=((1+A nr (cut nr t v):Nat):Int):=by rw [Wf (by omega) (by omega)]; omega
      simp (maxSteps:=2000000) only [vup,e1]
      refine ⟨_,_,ih (less t (2 ^ v)) (by omega) (less_lt h2),rfl,?_⟩
      by_cases hm:((1+A nr (cut nr t v):Nat):Int)<((A nr (less t (2 ^ v)):Nat):Int)
      · have e2:addV .i64 ((o:Nat):Int) ((A nr (less t (2 ^ v)):Nat):Int)=((A nr s:Nat):Int):=by rw [Wf (by omega) (by omega)]; omega
        simp (maxSteps:=2000000) only [vup,mmK,if_true,gt_iff_lt,hm,e2]
        refine hQ2 _ _ _ (hQ _ _ _ ?_)
        simp (maxSteps:=2000000) only [vup,cond_true,cond_false,Zg,Zl,Nat.reduceBEq,Zu,Xu,tup]
      · have e2:addV .i64 ((o:Nat):Int) ((1+A nr (cut nr t v):Nat):Int)=((A nr s:Nat):Int):=by rw [Wf (by omega) (by omega)]; omega
        simp (maxSteps:=2000000) only [vup,mmK,if_true,if_false,gt_iff_lt,hm,e2]
        refine hQ2 _ _ _ (hQ _ _ _ ?_)
        simp (maxSteps:=2000000) only [vup,cond_true,cond_false,Zg,Zl,Nat.reduceBEq,Zu,Xu,tup]
    · have hp:=A_one g (Nat.lt_of_lt_of_le h2 (Nat.pow_le_pow_right (by decide) g.len)) hb (by omega)
      have hlt:=cut_less g hb
      simp (maxSteps:=2000000) only [↓Za,↓Zn,↓Zp,↓Zb,↓Zc,↓vdn,vup,cond_true,cond_false,aop,Zg,ev,sput,Zf,Zv,Zx,Nat.reduceBEq,hd1]
      refine hN [(0,pt b),(1,vu t),(4,.int .i64 0),(5,Zd o),(6,Zd v)] _ _ ?_ (by simp (maxSteps:=2000000) only [vup,cond_true,cond_false,Nat.reduceBEq])
      clear hN N
      refine Ze fun N hN=>?_
      simp (maxSteps:=2000000) only [↓Za,↓Zb,↓Zc,vup,cond_true,cond_false,aop,Zg,ev,sput,Zf,Zv,Zx,Nat.reduceBEq,Wx (show o<9223372036854775807 by omega)]
      refine hN [(0,pt b),(1,vu t),(4,.int .i64 0),(5,Zd (o+1:Nat)),(6,Zd v)] _ _ ?_ (by simp (maxSteps:=2000000) only [vup,cond_true,cond_false,Nat.reduceBEq])
      clear hN N
      refine Zj ?_
      have hor:Wj .or .u64 ((nb nr v:Nat):Int) ((2 ^ v:Nat):Int)=((nb nr v ||| 2 ^ v:Nat):Int):=orU (nb64 g v) (bit64 hv64)
      have hls:Wj .andNot .u64 (t:Int) ((nb nr v ||| 2 ^ v:Nat):Int)=((cut nr t v:Nat):Int):=by
       rw [lessU ht (by rw [← p64]; exact Nat.or_lt_two_pow (by rw [p64]; exact nb64 g v) (by rw [p64]; exact bit64 hv64)),cut_or]
      refine aw_draw [] (by kernel_rfl) (by kernel_rfl) (by kernel_rfl) ?_
      simp (maxSteps:=2000000) only [↓dops_nil,↓vdn,vup,cond_true,cond_false,aop,Zl,ev,sput,Zf,Zv,Zx,Nat.reduceBEq,tyf,nilK,fldA fld_62_1 esz_60,ldn,ix v hvl,ld v hvl,hnn,shlU1 hv64,hor,hls]
      refine hQ2 _ _ _ ⟨(cut nr t v,o+1),⟨by simp only; omega,cut_lt h2,by simp only; omega⟩,hlt,by simp (maxSteps:=2000000) only [vup,cond_true,cond_false,Nat.reduceBEq],rfl⟩
   simp (maxSteps:=2000000) only [↓Za,↓Zp,↓Yt,↓Zb,↓Zc,vup,cond_true,cond_false,aop,Zg,ev,sput,Zf,Nat.reduceBEq,↓Xr]
   refine Zm fun Q3 hQ3=>?_
   refine aw_loop (γ:=Nat×Int×Int) (fun a=>a.1≤t∧(∀ i,a.1.testBit i=true→t.testBit i=true)∧pickI nr t a.1 a.2.1 a.2.2)
    (fun a=>([(0,pt b),(1,vu t),(4,.int .i64 0),(5,Zd o),(6,.int .i64 a.2.1),(7,.int .i64 a.2.2),(8,vu a.1)],h)) (fun a=>a.1) (t,-1,-1) ⟨Nat.le_refl _,fun _ h=>h,.inl ⟨rfl,rfl,rfl⟩⟩ (by simp (maxSteps:=2000000) only [vup,cond_true,cond_false,Nat.reduceBEq]) rfl ?_
   rintro ⟨r,p,d⟩ ⟨hrt,hr,hp⟩
   simp only at hrt hr hp
   refine aw_hide fun Q4 hQ4=>?_
   by_cases r0:r=0
   · subst r0
     rcases hp with ⟨_,_,h9⟩ | ⟨v,rfl,hb,rfl,h1d⟩
     · exact absurd h9.symm t0
     · simp (maxSteps:=2000000) only [↓Za,↓Zp,↓Yi,↓Zb,↓Zc,↓vdn,vup,cond_true,cond_false,aop,Zg,ev,sput,Zf,Zv,Zx,Nat.reduceBEq,l53_0,ofNe,ne_eq,not_true_eq_false]
       exact hQ4 _ _ _ (hQ3 _ _ _ (go v _ hb rfl _ (by simp (maxSteps:=2000000) only [vup,cond_true,cond_false,Nat.reduceBEq])))
   have r64:r<18446744073709551616:=by omega
   have hb:=hr _ (bits_head r64 r0)
   have hlt:=and_pred_lt r r0
   have hsb:=sub_pred hr
   have htz:=tz_call (h:=h) r64
   generalize Lib.ctz 64 r=v at hb htz
   have hvl:=bit_lt h2 hb
   have hon:=ones_call (h:=h) (x:=nb nr v &&& t) (Nat.lt_of_le_of_lt Nat.and_le_right ht)
   obtain ⟨c,hcd⟩ : ∃ c,c=(Am.bits (nb nr v &&& t)).length:=⟨_,rfl⟩
   rw [← hcd] at hon
   simp (maxSteps:=2000000) only [↓Za,↓Zn,↓Zp,↓Yt,↓Zb,↓Zc,↓vdn,vup,List.map_cons,List.map_nil,cond_true,cond_false,aop,Zg,ev,sput,Zf,Zv,Zx,Nat.reduceBEq,tyf,l53_0,ofNe,ne_eq,r0,not_false_eq_true,Yz,List.nil_append,List.append_nil]
   refine htz.mono ?_
   rintro _ h ⟨rfl,rfl⟩
   simp (maxSteps:=2000000) only [vup,nilK,fldA fld_62_1 esz_60,ldn,ix v hvl,ld v hvl,andU (nb64 g v) ht]
   refine hon.mono ?_
   rintro _ h ⟨rfl,rfl⟩
   by_cases c1:(c:Int)≤1
   · simp (maxSteps:=2000000) only [↓Za,↓Zp,↓Yi,↓Zb,↓Zc,↓vdn,vup,cond_true,cond_false,aop,Zg,Zl,ev,sput,Zf,Zv,Zx,Nat.reduceBEq,c1]
     exact hQ4 _ _ _ (hQ3 _ _ _ (go v _ hb hcd _ (by simp (maxSteps:=2000000) only [vup,cond_true,cond_false,Nat.reduceBEq])))
   · by_cases cd:d<(c:Int)
     · simp (maxSteps:=2000000) only [↓Za,↓Zn,↓Zp,↓Zb,↓Zc,↓vdn,vup,cond_true,cond_false,aop,Zg,Zl,ev,sput,Zf,Zv,Zx,Nat.reduceBEq,c1,cd,subU1 (show 1≤r by omega) r64,andU r64 (show r-1<18446744073709551616 by omega)]
       exact hQ4 _ _ _ ⟨(r &&& (r-1),v,c),⟨by simp only; omega,hsb,.inr ⟨v,rfl,hb,by rw [← hcd],by omega⟩⟩,hlt,by simp (maxSteps:=2000000) only [vup,cond_true,cond_false,Nat.reduceBEq],rfl⟩
     · have hp2:pickI nr t (r &&& (r-1)) p d:=by
        rcases hp with ⟨_,h8,_⟩ | h9
        · omega
        · exact .inr h9
       simp (maxSteps:=2000000) only [↓Za,↓Zn,↓Zp,↓Zb,↓Zc,↓vdn,vup,cond_true,cond_false,aop,Zg,Zl,ev,sput,Zf,Zv,Zx,Nat.reduceBEq,c1,cd,subU1 (show 1≤r by omega) r64,andU r64 (show r-1<18446744073709551616 by omega)]
       exact hQ4 _ _ _ ⟨(r &&& (r-1),p,d),⟨by simp only; omega,hsb,hp2⟩,hlt,by simp (maxSteps:=2000000) only [vup,cond_true,cond_false,Nat.reduceBEq],rfl⟩
end Go.Proofs.Tryd.Am

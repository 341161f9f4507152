/-
  order: the table of math/bits, out of what the statement grants.
  Printed by gen.py: facts on the types of this seat, asked of the kernel.
  Printed by gen.py: the code of some functions, without what no step looks at; held against the program's own by the kernel.
  Plain theory: the lines of a relation (no program in sight).
  Plain theory: orders as lists of ints; their lines, counted by which sets can come first; an element taken out.
  order: an order as the program holds it; the small functions.
  The seat's bits: TrailingZeros64 and TrailingZeros of math/bits, on the model's own worlds.
  order: reading an order: the two functions that say whether there is one.
  Plain theory: the least order with some pairs: built pair by pair, and by rounds.
-/
import Derived.Test.YtnjacpfahhjpiaaDoorPk4
import Derived.Test.YtnjacpfahhjpiaaDoorRows
import Derived.Test.YtnjacpfahhjpiaaDoorProg
import Derived.MakeChecks
import Derived.Test.YtnjacpfahhjpiaaDoorPk3
import Derived.KernelRfl
import Derived.Shelf.Abstract
import Derived.Shelf.Spec.TrailingZeros
import Derived.TacticsInMore
import Derived.LoopNIn
import Derived.LoopIn
set_option linter.all false
namespace Go.Proofs.YtnjacpfahhjpiaaDoor
open Go Go.Am Go.ChangeShapes Go.WideShapes Go.ChangeAt Go.WideMaps Go.WideElems Go.RowKit
theorem row_bytes {H:Type} {enc:TypeId×Value→H} {P:Program} {w:World} {base:Nat} {spare:Nat→Bool} {held:Bool} {fuel:Nat} {t e:TypeId} {n:Nat} {cs:List Value} {ns:List Nat} {p:List MemPlace}
  (ht:P.underlying t=some (.array n e)) (he:P.underlying e=some (.int .u8)) (hc:P.cellsOf e=1) (hct:P.cellsOf t=n) (h:DataW.trod enc P w base spare held fuel t cs=some (.agg (ns.map fun (k:Nat)=>.lit (.int .u8 k)),p)):cs=ns.map fun (k:Nat)=>Value.int .u8 k:=by
 obtain ⟨xs,m,rfl,hx,hlen,hn,hel⟩:=DataW.trod_array ht h
 simp only [Prod.mk.injEq,DataW.agg.injEq] at hx
 have hns:ns.length=n:=by rw [← hn,← List.length_map (f:=fun (x:DataW H×List MemPlace)=>x.1),← hx.1,List.length_map]
 apply List.ext_getElem (by rw [hlen,hct,List.length_map,hns])
 intro i h1 h2
 have hi:i<n:=by rw [hlen,hct] at h1; exact h1
 have h3:=hel i hi
 rw [hc,Nat.mul_one,List.getElem?_eq_getElem (by omega)] at h3
 obtain ⟨k,g1,g2,_⟩:=DataW.trod_int he h3
 have h4:(xs.map (·.1))[i]? = some (xs[i]'(by omega)).1:=by simp [List.getElem?_map,List.getElem?_eq_getElem (show i<xs.length by omega)]
 rw [← hx.1,g2] at h4
 rw [List.drop_eq_getElem_cons h1,List.take_succ_cons,List.take_zero] at g1
 have g1:=(List.cons.inj g1).1
 simp at h4
 obtain ⟨a,ha,hk⟩:=h4
 rw [g1,List.getElem_map]
 have:ns[i]'(by omega)=a:=by
  rw [List.getElem?_eq_getElem (show i<ns.length by omega)] at ha; exact Option.some.inj ha
 rw [this,← hk]
abbrev laid2:List (String×DataW Unit):=[("math/bits.deBruijn32tab",Rows.laid_math_bits_deBruijn32tab),("math/bits.deBruijn64tab",Rows.laid_math_bits_deBruijn64tab)]
theorem tab_of {W:World} (h:laidMetH Tryd.prog laid2 W) : ∃ e fr,W.heap[1]? = some (.cells (Lib.deBruijn64tab.map fun (n:Nat)=>Value.int .u8 n).toArray e fr):=by
 rw [MakeChecks.laidMetH_plain _ _ _ (by kernel_rfl)] at h
 obtain ⟨ps,⟨g0,t0,cs0,f0,p0,q0,hg0,ht0,hv0,hd0,⟨g1,t1,cs1,f1,p1,q1,hg1,ht1,hv1,hd1,_,_⟩,_⟩,_,_⟩:=h
 obtain rfl:=Option.some.inj ((show Tryd.prog.globalNamed "math/bits.deBruijn64tab" = some 1 by kernel_rfl).symm.trans hg1)
 obtain rfl:=Option.some.inj ((show (Tryd.prog.globals[1]?).map (·.type)=some 154 by kernel_rfl).symm.trans ht1)
 have hrow:=row_bytes (ns:=Lib.deBruijn64tab) Tryd.underlying154 Tryd.underlying5 (by kernel_rfl) (by kernel_rfl) hd1
 simp only [World.var?,hg1,Option.bind_some] at hv1
 split at hv1
 · rename_i cs e fr hh
   cases hv1
   exact ⟨e,fr,by rw [hh,← hrow]⟩
 · cases hv1
end Go.Proofs.YtnjacpfahhjpiaaDoor
namespace Go.Proofs.Tryd.Am
open Go.Am
set_option maxRecDepth 100000
theorem app_120_120:appT Tryd.prog 120 120=some (121,6,48):=by kernel_rfl
theorem app_22_22:appT Tryd.prog 22 22=some (3,1,8):=by kernel_rfl
theorem app_45_45:appT Tryd.prog 45 45=some (22,1,24):=by kernel_rfl
theorem app_52_52:appT Tryd.prog 52 52=some (33,2,16):=by kernel_rfl
theorem app_62_62:appT Tryd.prog 62 62=some (107,4,32):=by kernel_rfl
theorem app_63_63:appT Tryd.prog 63 63=some (108,4,32):=by kernel_rfl
theorem el_110:elemOf' Tryd.prog 110=some 4:=by kernel_rfl
theorem el_120:elemOf' Tryd.prog 120=some 121:=by kernel_rfl
theorem el_22:elemOf' Tryd.prog 22=some 3:=by kernel_rfl
theorem el_45:elemOf' Tryd.prog 45=some 22:=by kernel_rfl
theorem el_52:elemOf' Tryd.prog 52=some 33:=by kernel_rfl
theorem el_62:elemOf' Tryd.prog 62=some 107:=by kernel_rfl
theorem el_63:elemOf' Tryd.prog 63=some 108:=by kernel_rfl
theorem esz_100:esz Tryd.prog 100=some 1:=by kernel_rfl
theorem esz_107:esz Tryd.prog 107=some 4:=by kernel_rfl
theorem esz_108:esz Tryd.prog 108=some 4:=by kernel_rfl
theorem esz_110:esz Tryd.prog 110=some 1:=by kernel_rfl
theorem esz_112:esz Tryd.prog 112=some 3:=by kernel_rfl
theorem esz_121:esz Tryd.prog 121=some 6:=by kernel_rfl
theorem esz_22:esz Tryd.prog 22=some 1:=by kernel_rfl
theorem Xk:esz Tryd.prog 3=some 1:=by kernel_rfl
theorem esz_33:esz Tryd.prog 33=some 2:=by kernel_rfl
theorem esz_37:esz Tryd.prog 37=some 2:=by kernel_rfl
theorem esz_4:esz Tryd.prog 4=some 1:=by kernel_rfl
theorem esz_75:esz Tryd.prog 75=some 6:=by kernel_rfl
theorem esz_77:esz Tryd.prog 77=some 7:=by kernel_rfl
theorem esz_82:esz Tryd.prog 82=some 1:=by kernel_rfl
theorem esz_97:esz Tryd.prog 97=some 1:=by kernel_rfl
theorem esz_98:esz Tryd.prog 98=some 1:=by kernel_rfl
theorem fld_100_0:fldOf Tryd.prog 100 0=some (98,0):=by kernel_rfl
theorem fld_107_0:fldOf Tryd.prog 107 0=some (3,0):=by kernel_rfl
theorem fld_107_1:fldOf Tryd.prog 107 1=some (3,1):=by kernel_rfl
theorem fld_107_2:fldOf Tryd.prog 107 2=some (3,2):=by kernel_rfl
theorem fld_107_3:fldOf Tryd.prog 107 3=some (3,3):=by kernel_rfl
theorem Vw:fldOf Tryd.prog 108 0=some (3,0):=by kernel_rfl
theorem fld_108_1:fldOf Tryd.prog 108 1=some (3,1):=by kernel_rfl
theorem fld_108_2:fldOf Tryd.prog 108 2=some (3,2):=by kernel_rfl
theorem fld_108_3:fldOf Tryd.prog 108 3=some (3,3):=by kernel_rfl
theorem fld_112_0:fldOf Tryd.prog 112 0=some (22,0):=by kernel_rfl
theorem fld_112_1:fldOf Tryd.prog 112 1=some (110,1):=by kernel_rfl
theorem fld_112_2:fldOf Tryd.prog 112 2=some (3,2):=by kernel_rfl
theorem fld_136_0:fldOf Tryd.prog 136 0=some (77,0):=by kernel_rfl
theorem fld_136_1:fldOf Tryd.prog 136 1=some (3,7):=by kernel_rfl
theorem fld_37_0:fldOf Tryd.prog 37 0=some (3,0):=by kernel_rfl
theorem fld_37_1:fldOf Tryd.prog 37 1=some (3,1):=by kernel_rfl
theorem fld_77_0:fldOf Tryd.prog 77 0=some (3,0):=by kernel_rfl
theorem Wz:fldOf Tryd.prog 77 1=some (75,1):=by kernel_rfl
theorem info_3:(Tryd.prog.info? 3).map (fun i=>(i.size,i.bytes))=some (1,8):=by kernel_rfl
theorem info_4:(Tryd.prog.info? 4).map (fun i=>(i.size,i.bytes))=some (1,1):=by kernel_rfl
theorem isl_22:isSl Tryd.prog 22=true:=by kernel_rfl
theorem isl_45:isSl Tryd.prog 45=true:=by kernel_rfl
theorem isl_52:isSl Tryd.prog 52=true:=by kernel_rfl
theorem isl_62:isSl Tryd.prog 62=true:=by kernel_rfl
theorem isl_63:isSl Tryd.prog 63=true:=by kernel_rfl
theorem pl_100_0:Xe Tryd.prog 100 0=some (0,1):=by kernel_rfl
theorem pl_107_0:Xe Tryd.prog 107 0=some (0,1):=by kernel_rfl
theorem pl_107_1:Xe Tryd.prog 107 1=some (1,1):=by kernel_rfl
theorem pl_107_2:Xe Tryd.prog 107 2=some (2,1):=by kernel_rfl
theorem pl_107_3:Xe Tryd.prog 107 3=some (3,1):=by kernel_rfl
theorem pl_108_0:Xe Tryd.prog 108 0=some (0,1):=by kernel_rfl
theorem pl_108_1:Xe Tryd.prog 108 1=some (1,1):=by kernel_rfl
theorem pl_108_2:Xe Tryd.prog 108 2=some (2,1):=by kernel_rfl
theorem pl_108_3:Xe Tryd.prog 108 3=some (3,1):=by kernel_rfl
theorem pl_112_0:Xe Tryd.prog 112 0=some (0,1):=by kernel_rfl
theorem pl_112_1:Xe Tryd.prog 112 1=some (1,1):=by kernel_rfl
theorem pl_112_2:Xe Tryd.prog 112 2=some (2,1):=by kernel_rfl
theorem pl_136_0:Xe Tryd.prog 136 0=some (0,7):=by kernel_rfl
theorem pl_136_1:Xe Tryd.prog 136 1=some (7,1):=by kernel_rfl
theorem pl_33_0:Xe Tryd.prog 33 0=some (0,1):=by kernel_rfl
theorem pl_33_1:Xe Tryd.prog 33 1=some (1,1):=by kernel_rfl
theorem pl_37_0:Xe Tryd.prog 37 0=some (0,1):=by kernel_rfl
theorem pl_37_1:Xe Tryd.prog 37 1=some (1,1):=by kernel_rfl
theorem pl_73_0:Xe Tryd.prog 73 0=some (0,1):=by kernel_rfl
theorem pl_73_1:Xe Tryd.prog 73 1=some (1,1):=by kernel_rfl
theorem pl_73_2:Xe Tryd.prog 73 2=some (2,1):=by kernel_rfl
theorem pl_73_3:Xe Tryd.prog 73 3=some (3,1):=by kernel_rfl
theorem pl_73_4:Xe Tryd.prog 73 4=some (4,1):=by kernel_rfl
theorem pl_73_5:Xe Tryd.prog 73 5=some (5,1):=by kernel_rfl
theorem pl_73_6:Xe Tryd.prog 73 6=some (6,1):=by kernel_rfl
theorem pl_74_0:Xe Tryd.prog 74 0=some (0,1):=by kernel_rfl
theorem pl_74_1:Xe Tryd.prog 74 1=some (1,1):=by kernel_rfl
theorem pl_74_2:Xe Tryd.prog 74 2=some (2,1):=by kernel_rfl
theorem pl_77_0:Xe Tryd.prog 77 0=some (0,1):=by kernel_rfl
theorem pl_77_1:Xe Tryd.prog 77 1=some (1,6):=by kernel_rfl
theorem shp_107:shp Tryd.prog 107=some (some 4):=by kernel_rfl
theorem shp_108:shp Tryd.prog 108=some (some 4):=by kernel_rfl
theorem shp_110:shp Tryd.prog 110=some none:=by kernel_rfl
theorem shp_112:shp Tryd.prog 112=some (some 3):=by kernel_rfl
theorem shp_118:shp Tryd.prog 118=some none:=by kernel_rfl
theorem shp_120:shp Tryd.prog 120=some none:=by kernel_rfl
theorem shp_121:shp Tryd.prog 121=some (some 6):=by kernel_rfl
theorem shp_123:shp Tryd.prog 123=some none:=by kernel_rfl
theorem shp_137:shp Tryd.prog 137=some none:=by kernel_rfl
theorem Uc:shp Tryd.prog 22=some none:=by kernel_rfl
theorem Xd:shp Tryd.prog 3=some none:=by kernel_rfl
theorem shp_33:shp Tryd.prog 33=some (some 2):=by kernel_rfl
theorem shp_37:shp Tryd.prog 37=some (some 2):=by kernel_rfl
theorem shp_4:shp Tryd.prog 4=some none:=by kernel_rfl
theorem shp_45:shp Tryd.prog 45=some none:=by kernel_rfl
theorem shp_74:shp Tryd.prog 74=some (some 3):=by kernel_rfl
theorem shp_75:shp Tryd.prog 75=some (some 6):=by kernel_rfl
theorem Yn:shp Tryd.prog 77=some (some 7):=by kernel_rfl
theorem shp_82:shp Tryd.prog 82=some none:=by kernel_rfl
theorem shp_97:shp Tryd.prog 97=some none:=by kernel_rfl
theorem shp_98:shp Tryd.prog 98=some none:=by kernel_rfl
theorem und_110:Program.underlying Tryd.prog 110=some (.slice 4):=by kernel_rfl
theorem und_120:Program.underlying Tryd.prog 120=some (.slice 121):=by kernel_rfl
theorem und_121:Program.underlying Tryd.prog 121=some (.array 6 3):=by kernel_rfl
theorem und_131:Program.underlying Tryd.prog 131=some (.int .u32):=by kernel_rfl
theorem und_133:Program.underlying Tryd.prog 133=some (.int .u64):=by kernel_rfl
theorem und_137:Program.underlying Tryd.prog 137=some (.map 33 3):=by kernel_rfl
theorem und_22:Program.underlying Tryd.prog 22=some (.slice 3):=by kernel_rfl
theorem und_29:Program.underlying Tryd.prog 29=some (.int .u64):=by kernel_rfl
theorem und_3:Program.underlying Tryd.prog 3=some (.int .i64):=by kernel_rfl
theorem und_33:Program.underlying Tryd.prog 33=some (.array 2 3):=by kernel_rfl
theorem und_4:Program.underlying Tryd.prog 4=some (.bool):=by kernel_rfl
theorem und_45:Program.underlying Tryd.prog 45=some (.slice 22):=by kernel_rfl
theorem und_5:Program.underlying Tryd.prog 5=some (.int .u8):=by kernel_rfl
theorem und_52:Program.underlying Tryd.prog 52=some (.slice 33):=by kernel_rfl
theorem und_62:Program.underlying Tryd.prog 62=some (.slice 107):=by kernel_rfl
theorem und_63:Program.underlying Tryd.prog 63=some (.slice 108):=by kernel_rfl
theorem und_73:Program.underlying Tryd.prog 73=some (.array 7 3):=by kernel_rfl
theorem und_74:Program.underlying Tryd.prog 74=some (.array 3 3):=by kernel_rfl
theorem und_75:Program.underlying Tryd.prog 75=some (.array 6 3):=by kernel_rfl
theorem und_9:Program.underlying Tryd.prog 9=some (.string):=by kernel_rfl
theorem und_98:Program.underlying Tryd.prog 98=some (.map 136 4):=by kernel_rfl
theorem zero_100:Xx Tryd.prog 100=some [.map none]:=by kernel_rfl
theorem zero_107:Xx Tryd.prog 107=some [.int .i64 0,.int .i64 0,.int .i64 0,.int .i64 0]:=by kernel_rfl
theorem zero_108:Xx Tryd.prog 108=some [.int .i64 0,.int .i64 0,.int .i64 0,.int .i64 0]:=by kernel_rfl
theorem zero_112:Xx Tryd.prog 112=some [.slice none 0 0,.slice none 0 0,.int .i64 0]:=by kernel_rfl
theorem zero_118:Xx Tryd.prog 118=some [.nilFunc]:=by kernel_rfl
theorem zero_120:Xx Tryd.prog 120=some [.slice none 0 0]:=by kernel_rfl
theorem zero_121:Xx Tryd.prog 121=some [.int .i64 0,.int .i64 0,.int .i64 0,.int .i64 0,.int .i64 0,.int .i64 0]:=by kernel_rfl
theorem zero_123:Xx Tryd.prog 123=some [.nilFunc]:=by kernel_rfl
theorem zero_136:Xx Tryd.prog 136=some [.int .i64 0,.int .i64 0,.int .i64 0,.int .i64 0,.int .i64 0,.int .i64 0,.int .i64 0,.int .i64 0]:=by kernel_rfl
theorem zero_137:Xx Tryd.prog 137=some [.map none]:=by kernel_rfl
theorem zero_22:Xx Tryd.prog 22=some [.slice none 0 0]:=by kernel_rfl
theorem zero_3:Xx Tryd.prog 3=some [.int .i64 0]:=by kernel_rfl
theorem zero_33:Xx Tryd.prog 33=some [.int .i64 0,.int .i64 0]:=by kernel_rfl
theorem zero_37:Xx Tryd.prog 37=some [.int .i64 0,.int .i64 0]:=by kernel_rfl
theorem zero_4:Xx Tryd.prog 4=some [.bool false]:=by kernel_rfl
theorem zero_45:Xx Tryd.prog 45=some [.slice none 0 0]:=by kernel_rfl
theorem zero_73:Xx Tryd.prog 73=some [.int .i64 0,.int .i64 0,.int .i64 0,.int .i64 0,.int .i64 0,.int .i64 0,.int .i64 0]:=by kernel_rfl
theorem zero_74:Xx Tryd.prog 74=some [.int .i64 0,.int .i64 0,.int .i64 0]:=by kernel_rfl
theorem zero_77:Xx Tryd.prog 77=some [.int .i64 0,.int .i64 0,.int .i64 0,.int .i64 0,.int .i64 0,.int .i64 0,.int .i64 0]:=by kernel_rfl
theorem zv_3:zeroV Tryd.prog 3=some (.int .i64 0):=by kernel_rfl
theorem zv_4:zeroV Tryd.prog 4=some (.bool false):=by kernel_rfl
def tyf:=(And.intro (And.intro (And.intro (And.intro (And.intro (And.intro (And.intro (And.intro @app_120_120 @app_22_22) @app_45_45) (And.intro @app_52_52 @app_62_62)) (And.intro (And.intro (And.intro @app_63_63 @el_110) @el_120) (And.intro @el_22 @el_45))) (And.intro (And.intro (And.intro (And.intro @el_52 @el_62) @el_63) (And.intro @esz_100 @esz_107)) (And.intro (And.intro @esz_108 @esz_110) (And.intro @esz_112 @esz_121)))) (And.intro (And.intro (And.intro (And.intro (And.intro @esz_22 @Xk) @esz_33) (And.intro @esz_37 @esz_4)) (And.intro (And.intro @esz_75 @esz_77) (And.intro @esz_82 @esz_97))) (And.intro (And.intro (And.intro (And.intro @esz_98 @fld_100_0) @fld_107_0) (And.intro @fld_107_1 @fld_107_2)) (And.intro (And.intro @fld_107_3 @Vw) (And.intro @fld_108_1 @fld_108_2))))) (And.intro (And.intro (And.intro (And.intro (And.intro (And.intro @fld_108_3 @fld_112_0) @fld_112_1) (And.intro @fld_112_2 @fld_136_0)) (And.intro (And.intro (And.intro @fld_136_1 @fld_37_0) @fld_37_1) (And.intro @fld_77_0 @Wz))) (And.intro (And.intro (And.intro (And.intro @info_3 @info_4) @isl_22) (And.intro @isl_45 @isl_52)) (And.intro (And.intro @isl_62 @isl_63) (And.intro @pl_100_0 @pl_107_0)))) (And.intro (And.intro (And.intro (And.intro (And.intro @pl_107_1 @pl_107_2) @pl_107_3) (And.intro @pl_108_0 @pl_108_1)) (And.intro (And.intro @pl_108_2 @pl_108_3) (And.intro @pl_112_0 @pl_112_1))) (And.intro (And.intro (And.intro (And.intro @pl_112_2 @pl_136_0) @pl_136_1) (And.intro @pl_33_0 @pl_33_1)) (And.intro (And.intro @pl_37_0 @pl_37_1) (And.intro @pl_73_0 @pl_73_1)))))) (And.intro (And.intro (And.intro (And.intro (And.intro (And.intro (And.intro @pl_73_2 @pl_73_3) @pl_73_4) (And.intro @pl_73_5 @pl_73_6)) (And.intro (And.intro (And.intro @pl_74_0 @pl_74_1) @pl_74_2) (And.intro @pl_77_0 @pl_77_1))) (And.intro (And.intro (And.intro (And.intro @shp_107 @shp_108) @shp_110) (And.intro @shp_112 @shp_118)) (And.intro (And.intro @shp_120 @shp_121) (And.intro @shp_123 @shp_137)))) (And.intro (And.intro (And.intro (And.intro (And.intro @Uc @Xd) @shp_33) (And.intro @shp_37 @shp_4)) (And.intro (And.intro @shp_45 @shp_74) (And.intro @shp_75 @Yn))) (And.intro (And.intro (And.intro (And.intro @shp_82 @shp_97) @shp_98) (And.intro @und_110 @und_120)) (And.intro (And.intro @und_121 @und_131) (And.intro @und_133 @und_137))))) (And.intro (And.intro (And.intro (And.intro (And.intro (And.intro @und_22 @und_29) @und_3) (And.intro @und_33 @und_4)) (And.intro (And.intro @und_45 @und_5) (And.intro @und_52 @und_62))) (And.intro (And.intro (And.intro (And.intro @und_63 @und_73) @und_74) (And.intro @und_75 @und_9)) (And.intro (And.intro @und_98 @zero_100) (And.intro @zero_107 @zero_108)))) (And.intro (And.intro (And.intro (And.intro (And.intro @zero_112 @zero_118) @zero_120) (And.intro @zero_121 @zero_123)) (And.intro (And.intro @zero_136 @zero_137) (And.intro @zero_22 @zero_3))) (And.intro (And.intro (And.intro (And.intro @zero_33 @zero_37) @zero_4) (And.intro @zero_45 @zero_73)) (And.intro (And.intro @zero_74 @zero_77) (And.intro @zv_3 @zv_4)))))))
end Go.Proofs.Tryd.Am
namespace Go.Proofs.Tryd.Am
open Go.Am
set_option maxRecDepth 100000
/-! 17: planchet order.Count -/
@[reducible] def q17_0:SCode:=.region [⟨some 2,.assign (.const (.int .i64 0)),none⟩,
  ⟨some 3,.assign (.const (.int .i64 0)),none⟩]
@[reducible] def q17_1:SCode:=.region [⟨some 7,.move (.tmp 0),none⟩,
  ⟨some 8,.call { callee:=.value (.func 64),args:=#[.tmp 7],argTypes:=#[22] },none⟩,
  ⟨some 6,.move (.tmp 8),none⟩,
  ⟨some 9,.extract (.tmp 6) 0,none⟩,
  ⟨some 10,.extract (.tmp 6) 1,none⟩,
  ⟨some 4,.alloc 77,none⟩,
  ⟨none,.store 77 (.tmp 4) (.tmp 9),none⟩,
  ⟨some 5,.assign (.tmp 10),none⟩]
@[reducible] def q17_2:SCode:=.region [⟨some 11,.move (.tmp 5),none⟩,
  ⟨some 12,.unOp .not 4 (.tmp 11),none⟩]
@[reducible] def q17_3:SCode:=.region [⟨some 2,.assign (.const (.int .i64 0)),none⟩,
  ⟨some 3,.assign (.const (.int .i64 2)),none⟩]
@[reducible] def q17_4:SCode:=.region [⟨some 13,.load 77 (.tmp 4),none⟩,
  ⟨some 14,.call { callee:=.value (.func 65),args:=#[.tmp 13],argTypes:=#[77] },none⟩,
  ⟨some 2,.assign (.tmp 14),none⟩,
  ⟨some 3,.assign (.const (.int .i64 0)),none⟩]
def s17:SCode:=(.seq q17_0 (.seq q17_1 (.seq (.seq q17_2 (.cond (.tmp 12) (.seq q17_3 .ret) .skip)) (.seq q17_4 .ret))))
theorem s17_strip:Yh (Yi Tryd.f17)=s17:=by kernel_rfl
theorem s17_ok:Yx 15 (Yi Tryd.f17)=true:=by kernel_rfl
theorem s17_call [Tabs Tryd.prog] {args:List Value} {h:Yb} {Q:Value→Yb→Prop} (hsz:args.length≤15) (hk:aw Tryd.prog 15 s17 (Zu Tryd.prog [.tmp 2,.tmp 3] Q) (Zp 0 args) h):ACall Tryd.prog 17 args h Q :=
 Wy Tryd.func17 rfl (enters_of Tryd.func17 (by kernel_rfl) rfl) rfl rfl (by decide) s17_strip s17_ok hsz hk
/-! 18: planchet planchetlaw07.list -/
@[reducible] def q18_0:SCode:=.region [⟨some 2,.assign (.const (.slice none 0 0)),none⟩]
@[reducible] def q18_1:SCode:=.region [⟨some 3,.move (.tmp 0),none⟩,
  ⟨some 4,.move (.tmp 0),none⟩,
  ⟨some 5,.call { callee:=.builtin .len,args:=#[.tmp 4],argTypes:=#[22] },none⟩,
  ⟨some 6,.call { callee:=.builtin .min,args:=#[.tmp 5,.const (.int .i64 9)],argTypes:=#[3,3] },none⟩,
  ⟨some 7,.slice 22 (.tmp 3) none (some (.tmp 6)) none,none⟩,
  ⟨some 8,.call { callee:=.value (.func 66),args:=#[.tmp 7],argTypes:=#[22] },none⟩,
  ⟨some 2,.assign (.tmp 8),none⟩]
def s18:SCode:=(.seq q18_0 (.seq q18_1 .ret))
theorem s18_strip:Yh (Yi Tryd.f18)=s18:=by kernel_rfl
theorem s18_ok:Yx 9 (Yi Tryd.f18)=true:=by kernel_rfl
theorem s18_call [Tabs Tryd.prog] {args:List Value} {h:Yb} {Q:Value→Yb→Prop} (hsz:args.length≤9) (hk:aw Tryd.prog 9 s18 (Zu Tryd.prog [.tmp 2] Q) (Zp 0 args) h):ACall Tryd.prog 18 args h Q :=
 Wy Tryd.func18 rfl (enters_of Tryd.func18 (by kernel_rfl) rfl) rfl rfl (by decide) s18_strip s18_ok hsz hk
/-! 19: planchet planchetref07.Order -/
@[reducible] def q19_0:SCode:=.region [⟨some 2,.assign (.const (.bool false)),none⟩]
@[reducible] def q19_1:SCode:=.region [⟨some 6,.move (.tmp 0),none⟩,
  ⟨some 7,.call { callee:=.builtin .len,args:=#[.tmp 6],argTypes:=#[22] },none⟩,
  ⟨some 8,.binOp .lss 3 (.tmp 7) (.const (.int .i64 1)) 3,none⟩,
  ⟨some 9,.move (.tmp 8),none⟩,
  ⟨some 10,.move (.tmp 0),some (9,false)⟩,
  ⟨some 11,.call { callee:=.builtin .len,args:=#[.tmp 10],argTypes:=#[22] },some (9,false)⟩,
  ⟨some 12,.binOp .gtr 3 (.tmp 11) (.const (.int .i64 6)) 3,some (9,false)⟩,
  ⟨some 13,.pick (.tmp 9) (.const (.bool true)) (.tmp 12),none⟩]
@[reducible] def q19_2:SCode:=.region [⟨some 2,.assign (.const (.bool false)),none⟩]
@[reducible] def q19_3:SCode:=.region [⟨some 14,.move (.tmp 0),none⟩,
  ⟨some 15,.call { callee:=.builtin .len,args:=#[.tmp 14],argTypes:=#[22] },none⟩,
  ⟨some 16,.move (.const (.int .i64 0)),none⟩]
@[reducible] def q19_4:SCode:=.region [⟨some 17,.binOp .lss 3 (.tmp 16) (.tmp 15) 3,none⟩]
@[reducible] def q19_5:SCode:=.region [⟨some 18,.move (.tmp 16),none⟩,
  ⟨some 19,.indexAddr 22 (.tmp 14) (.tmp 16),none⟩,
  ⟨some 20,.load 3 (.tmp 19),none⟩,
  ⟨some 3,.assign (.tmp 18),none⟩,
  ⟨some 4,.assign (.tmp 20),none⟩]
@[reducible] def q19_6:SCode:=.region [⟨some 21,.move (.tmp 4),none⟩,
  ⟨some 22,.binOp .lss 3 (.tmp 21) (.const (.int .i64 0)) 3,none⟩,
  ⟨some 23,.move (.tmp 22),none⟩,
  ⟨some 24,.move (.tmp 4),some (23,false)⟩,
  ⟨some 25,.move (.tmp 0),some (23,false)⟩,
  ⟨some 26,.call { callee:=.builtin .len,args:=#[.tmp 25],argTypes:=#[22] },some (23,false)⟩,
  ⟨some 27,.binOp .shl 3 (.const (.int .i64 1)) (.tmp 26) 3,some (23,false)⟩,
  ⟨some 28,.binOp .geq 3 (.tmp 24) (.tmp 27) 3,some (23,false)⟩,
  ⟨some 29,.pick (.tmp 23) (.const (.bool true)) (.tmp 28),none⟩,
  ⟨some 30,.move (.tmp 29),none⟩,
  ⟨some 31,.move (.tmp 4),some (30,false)⟩,
  ⟨some 32,.move (.tmp 3),some (30,false)⟩,
  ⟨some 33,.binOp .shr 3 (.tmp 31) (.tmp 32) 3,some (30,false)⟩,
  ⟨some 34,.binOp .and 3 (.tmp 33) (.const (.int .i64 1)) 3,some (30,false)⟩,
  ⟨some 35,.binOp .eql 3 (.tmp 34) (.const (.int .i64 1)) 3,some (30,false)⟩,
  ⟨some 36,.pick (.tmp 30) (.const (.bool true)) (.tmp 35),none⟩]
@[reducible] def q19_7:SCode:=.region [⟨some 2,.assign (.const (.bool false)),none⟩]
@[reducible] def q19_8:SCode:=.region [⟨some 37,.move (.tmp 0),none⟩,
  ⟨some 38,.call { callee:=.builtin .len,args:=#[.tmp 37],argTypes:=#[22] },none⟩,
  ⟨some 39,.move (.const (.int .i64 0)),none⟩]
@[reducible] def q19_9:SCode:=.region [⟨some 40,.binOp .lss 3 (.tmp 39) (.tmp 38) 3,none⟩]
@[reducible] def q19_10:SCode:=.region [⟨some 41,.move (.tmp 39),none⟩,
  ⟨some 5,.assign (.tmp 41),none⟩]
@[reducible] def q19_11:SCode:=.region [⟨some 42,.move (.tmp 4),none⟩,
  ⟨some 43,.move (.tmp 5),none⟩,
  ⟨some 44,.binOp .shr 3 (.tmp 42) (.tmp 43) 3,none⟩,
  ⟨some 45,.binOp .and 3 (.tmp 44) (.const (.int .i64 1)) 3,none⟩,
  ⟨some 46,.binOp .eql 3 (.tmp 45) (.const (.int .i64 1)) 3,none⟩,
  ⟨some 47,.move (.tmp 46),none⟩,
  ⟨some 48,.move (.tmp 0),some (47,true)⟩,
  ⟨some 49,.move (.tmp 5),some (47,true)⟩,
  ⟨some 50,.indexAddr 22 (.tmp 48) (.tmp 49),some (47,true)⟩,
  ⟨some 51,.load 3 (.tmp 50),some (47,true)⟩,
  ⟨some 52,.move (.tmp 4),some (47,true)⟩,
  ⟨some 53,.binOp .andNot 3 (.tmp 51) (.tmp 52) 3,some (47,true)⟩,
  ⟨some 54,.binOp .neq 3 (.tmp 53) (.const (.int .i64 0)) 3,some (47,true)⟩,
  ⟨some 55,.pick (.tmp 47) (.tmp 54) (.const (.bool false)),none⟩]
@[reducible] def q19_12:SCode:=.region [⟨some 2,.assign (.const (.bool false)),none⟩]
@[reducible] def q19_13:SCode:=.region [⟨some 56,.binOp .add 3 (.tmp 39) (.const (.int .i64 1)) 3,none⟩,
  ⟨some 39,.move (.tmp 56),none⟩]
def l19_0:SCode:=(.seq q19_9 (.seq (.cond (.tmp 40) .skip (.exit 2)) (.seq (.block 3 (.seq q19_10 (.seq q19_11 (.cond (.tmp 55) (.seq q19_12 .ret) .skip)))) q19_13)))
@[reducible] def q19_14:SCode:=.region [⟨some 57,.binOp .add 3 (.tmp 16) (.const (.int .i64 1)) 3,none⟩,
  ⟨some 16,.move (.tmp 57),none⟩]
def l19_1:SCode:=(.seq q19_4 (.seq (.cond (.tmp 17) .skip (.exit 0)) (.seq (.block 1 (.seq q19_5 (.seq (.seq q19_6 (.cond (.tmp 36) (.seq q19_7 .ret) .skip)) (.seq q19_8 (.block 2 (.loop l19_0)))))) q19_14)))
@[reducible] def q19_15:SCode:=.region [⟨some 2,.assign (.const (.bool true)),none⟩]
def s19:SCode:=(.seq q19_0 (.seq (.seq q19_1 (.cond (.tmp 13) (.seq q19_2 .ret) .skip)) (.seq (.seq q19_3 (.block 0 (.loop l19_1))) (.seq q19_15 .ret))))
theorem s19_strip:Yh (Yi Tryd.f19)=s19:=by kernel_rfl
theorem s19_ok:Yx 58 (Yi Tryd.f19)=true:=by kernel_rfl
theorem s19_call [Tabs Tryd.prog] {args:List Value} {h:Yb} {Q:Value→Yb→Prop} (hsz:args.length≤58) (hk:aw Tryd.prog 58 s19 (Zu Tryd.prog [.tmp 2] Q) (Zp 0 args) h):ACall Tryd.prog 19 args h Q :=
 Wy Tryd.func19 rfl (enters_of Tryd.func19 (by kernel_rfl) rfl) rfl rfl (by decide) s19_strip s19_ok hsz hk
/-! 20: planchet planchetlaw07.awake -/
@[reducible] def q20_0:SCode:=.region [⟨some 0,.assign (.const (.bool false)),none⟩]
@[reducible] def q20_1:SCode:=.region [⟨some 4,.buildSlice 22 2 #[(0,.const (.int .i64 0)),(1,.const (.int .i64 0))],none⟩,
  ⟨some 5,.call { callee:=.value (.func 17),args:=#[.tmp 4],argTypes:=#[22] },none⟩,
  ⟨some 3,.move (.tmp 5),none⟩,
  ⟨some 6,.extract (.tmp 3) 0,none⟩,
  ⟨some 7,.extract (.tmp 3) 1,none⟩,
  ⟨some 1,.assign (.tmp 6),none⟩,
  ⟨some 2,.assign (.tmp 7),none⟩]
@[reducible] def q20_2:SCode:=.region [⟨some 8,.move (.tmp 1),none⟩,
  ⟨some 9,.binOp .eql 3 (.tmp 8) (.const (.int .i64 2)) 3,none⟩,
  ⟨some 10,.move (.tmp 9),none⟩,
  ⟨some 11,.move (.tmp 2),some (10,true)⟩,
  ⟨some 12,.binOp .eql 23 (.tmp 11) (.const (.int .i64 0)) 23,some (10,true)⟩,
  ⟨some 13,.pick (.tmp 10) (.tmp 12) (.const (.bool false)),none⟩,
  ⟨some 0,.assign (.tmp 13),none⟩]
def s20:SCode:=(.seq q20_0 (.seq q20_1 (.seq q20_2 .ret)))
theorem s20_strip:Yh (Yi Tryd.f20)=s20:=by kernel_rfl
theorem s20_ok:Yx 14 (Yi Tryd.f20)=true:=by kernel_rfl
theorem s20_call [Tabs Tryd.prog] {args:List Value} {h:Yb} {Q:Value→Yb→Prop} (hsz:args.length≤14) (hk:aw Tryd.prog 14 s20 (Zu Tryd.prog [.tmp 0] Q) (Zp 0 args) h):ACall Tryd.prog 20 args h Q :=
 Wy Tryd.func20 rfl (enters_of Tryd.func20 (by kernel_rfl) rfl) rfl rfl (by decide) s20_strip s20_ok hsz hk
/-! 21: planchet order.Add -/
@[reducible] def q21_0:SCode:=.region [⟨some 6,.assign (.const (.slice none 0 0)),none⟩,
  ⟨some 7,.assign (.const (.int .i64 0)),none⟩]
@[reducible] def q21_1:SCode:=.region [⟨some 11,.move (.tmp 0),none⟩,
  ⟨some 12,.call { callee:=.value (.func 64),args:=#[.tmp 11],argTypes:=#[22] },none⟩,
  ⟨some 10,.move (.tmp 12),none⟩,
  ⟨some 13,.extract (.tmp 10) 0,none⟩,
  ⟨some 14,.extract (.tmp 10) 1,none⟩,
  ⟨some 8,.alloc 77,none⟩,
  ⟨none,.store 77 (.tmp 8) (.tmp 13),none⟩,
  ⟨some 9,.assign (.tmp 14),none⟩]
@[reducible] def q21_2:SCode:=.region [⟨some 16,.move (.tmp 9),none⟩,
  ⟨some 17,.unOp .not 4 (.tmp 16),none⟩,
  ⟨some 18,.move (.tmp 17),none⟩,
  ⟨some 19,.load 77 (.tmp 8),some (18,false)⟩,
  ⟨some 20,.move (.tmp 1),some (18,false)⟩,
  ⟨some 21,.call { callee:=.value (.func 67),args:=#[.tmp 19,.tmp 20],argTypes:=#[77,3] },some (18,false)⟩,
  ⟨some 22,.unOp .not 4 (.tmp 21),some (18,false)⟩,
  ⟨some 23,.pick (.tmp 18) (.const (.bool true)) (.tmp 22),none⟩,
  ⟨some 24,.move (.tmp 23),none⟩,
  ⟨some 25,.load 77 (.tmp 8),some (24,false)⟩,
  ⟨some 26,.move (.tmp 2),some (24,false)⟩,
  ⟨some 27,.call { callee:=.value (.func 67),args:=#[.tmp 25,.tmp 26],argTypes:=#[77,3] },some (24,false)⟩,
  ⟨some 28,.unOp .not 4 (.tmp 27),some (24,false)⟩,
  ⟨some 29,.pick (.tmp 24) (.const (.bool true)) (.tmp 28),none⟩,
  ⟨some 15,.assign (.tmp 29),none⟩]
@[reducible] def q21_3:SCode:=.region [⟨some 6,.assign (.const (.slice none 0 0)),none⟩,
  ⟨some 7,.assign (.const (.int .i64 2)),none⟩]
@[reducible] def q21_4:SCode:=.region [⟨some 31,.load 77 (.tmp 8),none⟩,
  ⟨some 32,.move (.tmp 1),none⟩,
  ⟨some 33,.move (.tmp 2),none⟩,
  ⟨some 34,.call { callee:=.value (.func 68),args:=#[.tmp 31,.tmp 32,.tmp 33],argTypes:=#[77,3,3] },none⟩,
  ⟨some 35,.unOp .not 4 (.tmp 34),none⟩,
  ⟨some 30,.assign (.tmp 35),none⟩]
@[reducible] def q21_5:SCode:=.region [⟨some 6,.assign (.const (.slice none 0 0)),none⟩,
  ⟨some 7,.assign (.const (.int .i64 5)),none⟩]
@[reducible] def q21_6:SCode:=.region [⟨some 36,.load 77 (.tmp 8),none⟩,
  ⟨some 37,.move (.tmp 1),none⟩,
  ⟨some 38,.move (.tmp 2),none⟩,
  ⟨some 39,.call { callee:=.value (.func 69),args:=#[.tmp 36,.tmp 37,.tmp 38],argTypes:=#[77,3,3] },none⟩,
  ⟨some 40,.call { callee:=.value (.func 70),args:=#[.tmp 39],argTypes:=#[77] },none⟩,
  ⟨some 6,.assign (.tmp 40),none⟩,
  ⟨some 7,.assign (.const (.int .i64 0)),none⟩]
def s21:SCode:=(.seq q21_0 (.seq q21_1 (.seq (.block 0 (.seq q21_2 (.cond (.tmp 15) (.seq q21_3 .ret) (.seq q21_4 (.cond (.tmp 30) (.seq q21_5 .ret) .skip))))) (.seq q21_6 .ret))))
theorem s21_strip:Yh (Yi Tryd.f21)=s21:=by kernel_rfl
theorem s21_ok:Yx 41 (Yi Tryd.f21)=true:=by kernel_rfl
theorem s21_call [Tabs Tryd.prog] {args:List Value} {h:Yb} {Q:Value→Yb→Prop} (hsz:args.length≤41) (hk:aw Tryd.prog 41 s21 (Zu Tryd.prog [.tmp 6,.tmp 7] Q) (Zp 0 args) h):ACall Tryd.prog 21 args h Q :=
 Wy Tryd.func21 rfl (enters_of Tryd.func21 (by kernel_rfl) rfl) rfl rfl (by decide) s21_strip s21_ok hsz hk
/-! 64: planchet order.read -/
@[reducible] def q64_0:SCode:=.region [⟨some 1,.box 22 (.tmp 0),none⟩,
  ⟨some 2,.alloc 77,none⟩,
  ⟨some 3,.alloc 4,none⟩]
@[reducible] def q64_1:SCode:=.region [⟨some 8,.load 22 (.tmp 1),none⟩,
  ⟨some 9,.call { callee:=.builtin .len,args:=#[.tmp 8],argTypes:=#[22] },none⟩,
  ⟨some 10,.build 77 #[(0,.tmp 9)],none⟩,
  ⟨some 4,.alloc 77,none⟩,
  ⟨none,.store 77 (.tmp 4) (.tmp 10),none⟩]
@[reducible] def q64_2:SCode:=.region [⟨some 11,.load 22 (.tmp 1),none⟩,
  ⟨some 12,.call { callee:=.builtin .len,args:=#[.tmp 11],argTypes:=#[22] },none⟩,
  ⟨some 13,.binOp .lss 3 (.tmp 12) (.const (.int .i64 1)) 3,none⟩,
  ⟨some 14,.move (.tmp 13),none⟩,
  ⟨some 15,.load 22 (.tmp 1),some (14,false)⟩,
  ⟨some 16,.call { callee:=.builtin .len,args:=#[.tmp 15],argTypes:=#[22] },some (14,false)⟩,
  ⟨some 17,.binOp .gtr 3 (.tmp 16) (.const (.int .i64 6)) 3,some (14,false)⟩,
  ⟨some 18,.pick (.tmp 14) (.const (.bool true)) (.tmp 17),none⟩]
@[reducible] def q64_3:SCode:=.region [⟨some 19,.load 77 (.tmp 4),none⟩,
  ⟨none,.store 77 (.tmp 2) (.tmp 19),none⟩,
  ⟨none,.store 4 (.tmp 3) (.const (.bool false)),none⟩]
def q64_4:SCode:=.draw [⟨some 20,.fieldAddr 77 (.tmp 4) 1,none⟩,
    ⟨some 21,.slice 75 (.tmp 20) none none none,none⟩,
    ⟨some 22,.load 22 (.tmp 1),none⟩,
    ⟨some 23,.call { callee:=.builtin .copy,args:=#[.tmp 21,.tmp 22],argTypes:=#[22,22] },none⟩]
  [[],[0],[],[1,2]]
@[reducible] def q64_5:SCode:=.region [⟨some 24,.load 22 (.tmp 1),none⟩,
  ⟨some 25,.call { callee:=.builtin .len,args:=#[.tmp 24],argTypes:=#[22] },none⟩,
  ⟨some 26,.move (.const (.int .i64 0)),none⟩]
@[reducible] def q64_6:SCode:=.region [⟨some 27,.binOp .lss 3 (.tmp 26) (.tmp 25) 3,none⟩]
@[reducible] def q64_7:SCode:=.region [⟨some 28,.move (.tmp 26),none⟩,
  ⟨some 29,.indexAddr 22 (.tmp 24) (.tmp 26),none⟩,
  ⟨some 30,.load 3 (.tmp 29),none⟩,
  ⟨some 6,.alloc 3,none⟩,
  ⟨some 5,.assign (.tmp 28),none⟩,
  ⟨none,.store 3 (.tmp 6) (.tmp 30),none⟩]
def q64_8:SCode:=.draw [⟨some 31,.load 3 (.tmp 6),none⟩,
    ⟨some 32,.binOp .lss 3 (.tmp 31) (.const (.int .i64 0)) 3,none⟩,
    ⟨some 33,.move (.tmp 32),none⟩,
    ⟨some 34,.load 3 (.tmp 6),some (33,false)⟩,
    ⟨some 35,.load 22 (.tmp 1),some (33,false)⟩,
    ⟨some 36,.call { callee:=.builtin .len,args:=#[.tmp 35],argTypes:=#[22] },some (33,false)⟩,
    ⟨some 37,.binOp .shl 3 (.const (.int .i64 1)) (.tmp 36) 3,some (33,false)⟩,
    ⟨some 38,.binOp .geq 3 (.tmp 34) (.tmp 37) 3,some (33,false)⟩,
    ⟨some 39,.pick (.tmp 33) (.const (.bool true)) (.tmp 38),none⟩,
    ⟨some 40,.move (.tmp 39),none⟩,
    ⟨some 41,.load 3 (.tmp 6),some (40,false)⟩,
    ⟨some 42,.move (.tmp 5),some (40,false)⟩,
    ⟨some 43,.binOp .shr 3 (.tmp 41) (.tmp 42) 3,some (40,false)⟩,
    ⟨some 44,.binOp .and 3 (.tmp 43) (.const (.int .i64 1)) 3,some (40,false)⟩,
    ⟨some 45,.binOp .eql 3 (.tmp 44) (.const (.int .i64 1)) 3,some (40,false)⟩,
    ⟨some 46,.pick (.tmp 40) (.const (.bool true)) (.tmp 45),none⟩]
  [[],[0],[1],[2],[2],[4,2],[5,2],[3,6,2],[2,7],[8,2],[9],[9],[10,11,9],[12,9],[13,9],[9,14]]
@[reducible] def q64_9:SCode:=.region [⟨some 47,.load 77 (.tmp 4),none⟩,
  ⟨none,.store 77 (.tmp 2) (.tmp 47),none⟩,
  ⟨none,.store 4 (.tmp 3) (.const (.bool false)),none⟩]
@[reducible] def q64_10:SCode:=.region [⟨some 48,.load 3 (.tmp 6),none⟩,
  ⟨some 49,.call { callee:=.value (.func 101),args:=#[.tmp 48],argTypes:=#[3] },none⟩]
@[reducible] def q64_11:SCode:=.region [⟨some 7,.assign (.tmp 50),none⟩]
def q64_12:SCode:=.draw [⟨some 51,.load 22 (.tmp 1),none⟩,
    ⟨some 52,.move (.tmp 7),none⟩,
    ⟨some 53,.indexAddr 22 (.tmp 51) (.tmp 52),none⟩,
    ⟨some 54,.load 3 (.tmp 53),none⟩,
    ⟨some 55,.load 3 (.tmp 6),none⟩,
    ⟨some 56,.binOp .andNot 3 (.tmp 54) (.tmp 55) 3,none⟩,
    ⟨some 57,.binOp .neq 3 (.tmp 56) (.const (.int .i64 0)) 3,none⟩]
  [[],[],[0,1],[2],[],[3,4],[5]]
@[reducible] def q64_13:SCode:=.region [⟨some 58,.load 77 (.tmp 4),none⟩,
  ⟨none,.store 77 (.tmp 2) (.tmp 58),none⟩,
  ⟨none,.store 4 (.tmp 3) (.const (.bool false)),none⟩]
def r64_0_a:SCode:=q64_11
def r64_0_b:SCode:=(.block 3 (.seq q64_12 (.cond (.tmp 57) (.seq q64_13 .ret) .skip)))
@[reducible] def q64_14:SCode:=.region [⟨some 59,.binOp .add 3 (.tmp 26) (.const (.int .i64 1)) 3,none⟩,
  ⟨some 26,.move (.tmp 59),none⟩]
def l64_1:SCode:=(.seq q64_6 (.seq (.cond (.tmp 27) .skip (.exit 0)) (.seq (.block 1 (.seq q64_7 (.seq (.seq q64_8 (.cond (.tmp 46) (.seq q64_9 .ret) .skip)) (.seq q64_10 (.block 2 (.range (.tmp 49) [50] r64_0_a r64_0_b)))))) q64_14)))
@[reducible] def q64_15:SCode:=.region [⟨some 60,.load 77 (.tmp 4),none⟩,
  ⟨none,.store 77 (.tmp 2) (.tmp 60),none⟩,
  ⟨none,.store 4 (.tmp 3) (.const (.bool true)),none⟩]
def s64:SCode:=(.seq q64_0 (.seq q64_1 (.seq (.seq q64_2 (.cond (.tmp 18) (.seq q64_3 .ret) .skip)) (.seq q64_4 (.seq (.seq q64_5 (.block 0 (.loop l64_1))) (.seq q64_15 .ret))))))
theorem s64_strip:Yh (Yi Tryd.f64)=s64:=by kernel_rfl
theorem s64_ok:Yx 61 (Yi Tryd.f64)=true:=by kernel_rfl
theorem s64_call [Tabs Tryd.prog] {args:List Value} {h:Yb} {Q:Value→Yb→Prop} (hsz:args.length≤61) (hk:aw Tryd.prog 61 s64 (Zu Tryd.prog [.cell 2 77,.cell 3 4] Q) (Zp 0 args) h):ACall Tryd.prog 64 args h Q :=
 Wy Tryd.func64 rfl (enters_of Tryd.func64 (by kernel_rfl) rfl) rfl rfl (by decide) s64_strip s64_ok hsz hk
/-! 65: (planchet order.order).counted -/
@[reducible] def q65_0:SCode:=.region [⟨some 1,.box 77 (.tmp 0),none⟩,
  ⟨some 2,.assign (.const (.int .i64 0)),none⟩]
@[reducible] def q65_1:SCode:=.region [⟨some 6,.load 77 (.tmp 1),none⟩,
  ⟨some 7,.call { callee:=.value (.func 98),args:=#[.tmp 6],argTypes:=#[77] },none⟩,
  ⟨some 8,.binOp .add 3 (.tmp 7) (.const (.int .i64 1)) 3,none⟩,
  ⟨some 9,.makeSlice 22 (.tmp 8) (.tmp 8),none⟩,
  ⟨some 3,.alloc 22,none⟩,
  ⟨none,.store 22 (.tmp 3) (.tmp 9),none⟩]
@[reducible] def q65_2:SCode:=.region [⟨some 10,.load 22 (.tmp 3),none⟩,
  ⟨some 11,.indexAddr 22 (.tmp 10) (.const (.int .i64 0)),none⟩,
  ⟨none,.store 3 (.tmp 11) (.const (.int .i64 1)),none⟩]
@[reducible] def q65_3:SCode:=.region [⟨some 4,.alloc 3,none⟩,
  ⟨none,.store 3 (.tmp 4) (.const (.int .i64 1)),none⟩]
def q65_4:SCode:=.draw [⟨some 12,.load 3 (.tmp 4),none⟩,
    ⟨some 13,.load 77 (.tmp 1),none⟩,
    ⟨some 14,.call { callee:=.value (.func 98),args:=#[.tmp 13],argTypes:=#[77] },none⟩,
    ⟨some 15,.binOp .leq 3 (.tmp 12) (.tmp 14) 3,none⟩]
  [[],[],[1],[0,2]]
@[reducible] def q65_6:SCode:=.region [⟨some 18,.load 3 (.tmp 4),none⟩,
  ⟨some 19,.call { callee:=.value (.func 101),args:=#[.tmp 18],argTypes:=#[3] },none⟩]
@[reducible] def q65_7:SCode:=.region [⟨some 5,.assign (.tmp 20),none⟩]
def q65_8:SCode:=.draw [⟨some 21,.load 77 (.tmp 1),none⟩,
    ⟨some 22,.move (.tmp 5),none⟩,
    ⟨some 23,.call { callee:=.value (.func 81),args:=#[.tmp 21,.tmp 22],argTypes:=#[77,3] },none⟩,
    ⟨some 24,.load 3 (.tmp 4),none⟩,
    ⟨some 25,.binOp .andNot 3 (.tmp 23) (.tmp 24) 3,none⟩,
    ⟨some 26,.binOp .eql 3 (.tmp 25) (.const (.int .i64 0)) 3,none⟩,
    ⟨some 27,.move (.tmp 26),none⟩,
    ⟨some 28,.move (.tmp 5),some (27,true)⟩,
    ⟨some 29,.fieldAddr 77 (.tmp 1) 1,some (27,true)⟩,
    ⟨some 30,.indexAddr 75 (.tmp 29) (.tmp 28),some (27,true)⟩,
    ⟨some 31,.load 3 (.tmp 30),some (27,true)⟩,
    ⟨some 32,.load 3 (.tmp 4),some (27,true)⟩,
    ⟨some 33,.binOp .and 3 (.tmp 31) (.tmp 32) 3,some (27,true)⟩,
    ⟨some 34,.binOp .eql 3 (.tmp 33) (.const (.int .i64 0)) 3,some (27,true)⟩,
    ⟨some 35,.pick (.tmp 27) (.tmp 34) (.const (.bool false)),none⟩]
  [[],[],[0,1],[],[2,3],[4],[5,2],[6],[6],[8,7,6],[9,6],[6],[10,11,6],[12,6],[6,13]]
def q65_9:SCode:=.draw [⟨some 36,.load 22 (.tmp 3),none⟩,
    ⟨some 37,.load 3 (.tmp 4),none⟩,
    ⟨some 38,.indexAddr 22 (.tmp 36) (.tmp 37),none⟩,
    ⟨some 39,.load 3 (.tmp 38),none⟩,
    ⟨some 40,.load 22 (.tmp 3),none⟩,
    ⟨some 41,.load 3 (.tmp 4),none⟩,
    ⟨some 42,.move (.tmp 5),none⟩,
    ⟨some 43,.binOp .shl 3 (.const (.int .i64 1)) (.tmp 42) 3,none⟩,
    ⟨some 44,.binOp .andNot 3 (.tmp 41) (.tmp 43) 3,none⟩,
    ⟨some 45,.indexAddr 22 (.tmp 40) (.tmp 44),none⟩,
    ⟨some 46,.load 3 (.tmp 45),none⟩,
    ⟨some 47,.binOp .add 3 (.tmp 39) (.tmp 46) 3,none⟩,
    ⟨some 48,.indexAddr 22 (.tmp 36) (.tmp 37),none⟩,
    ⟨none,.store 3 (.tmp 48) (.tmp 47),none⟩]
  [[],[],[0,1],[2],[],[],[],[6],[5,7],[4,8],[9],[3,10],[0,1,0,1,2,3,4,5,6,7,8,9,10,11],[12,11,0,1,2,3,4,5,6,7,8,9,10,11]]
def r65_0_a:SCode:=q65_7
def r65_0_b:SCode:=(.block 3 (.seq q65_8 (.cond (.tmp 35) q65_9 .skip)))
@[reducible] def q65_10:SCode:=.region [⟨some 49,.load 3 (.tmp 4),none⟩]
@[reducible] def q65_11:SCode:=.region [⟨some 4,.alloc 3,none⟩,
  ⟨none,.store 3 (.tmp 4) (.tmp 49),none⟩]
@[reducible] def q65_5:SCode:=.region [⟨some 16,.load 3 (.tmp 4),none⟩,
  ⟨some 17,.binOp .add 3 (.tmp 16) (.const (.int .i64 1)) 3,none⟩,
  ⟨none,.store 3 (.tmp 4) (.tmp 17),none⟩]
def l65_1:SCode:=(.seq (.seq q65_4 (.cond (.tmp 15) .skip (.exit 0))) (.seq (.block 1 (.seq q65_6 (.block 2 (.range (.tmp 19) [20] r65_0_a r65_0_b)))) (.seq (.seq q65_10 q65_11) q65_5)))
def q65_12:SCode:=.draw [⟨some 50,.load 22 (.tmp 3),none⟩,
    ⟨some 51,.load 77 (.tmp 1),none⟩,
    ⟨some 52,.call { callee:=.value (.func 98),args:=#[.tmp 51],argTypes:=#[77] },none⟩,
    ⟨some 53,.indexAddr 22 (.tmp 50) (.tmp 52),none⟩,
    ⟨some 54,.load 3 (.tmp 53),none⟩,
    ⟨some 2,.assign (.tmp 54),none⟩]
  [[],[],[1],[0,2],[3],[4,2,0,1,2,3,4]]
def s65:SCode:=(.seq q65_0 (.seq q65_1 (.seq q65_2 (.seq (.seq q65_3 (.block 0 (.loop l65_1))) (.seq q65_12 .ret)))))
theorem s65_strip:Yh (Yi Tryd.f65)=s65:=by kernel_rfl
theorem s65_ok:Yx 55 (Yi Tryd.f65)=true:=by kernel_rfl
theorem s65_call [Tabs Tryd.prog] {args:List Value} {h:Yb} {Q:Value→Yb→Prop} (hsz:args.length≤55) (hk:aw Tryd.prog 55 s65 (Zu Tryd.prog [.tmp 2] Q) (Zp 0 args) h):ACall Tryd.prog 65 args h Q :=
 Wy Tryd.func65 rfl (enters_of Tryd.func65 (by kernel_rfl) rfl) rfl rfl (by decide) s65_strip s65_ok hsz hk
/-! 66: slices.Clone[[]int,int] -/
@[reducible] def q66_0:SCode:=.region [⟨some 2,.assign (.const (.slice none 0 0)),none⟩]
@[reducible] def q66_1:SCode:=.region [⟨some 3,.move (.tmp 0),none⟩,
  ⟨some 4,.binOp .eql 22 (.tmp 3) (.const (.slice none 0 0)) 22,none⟩]
@[reducible] def q66_2:SCode:=.region [⟨some 2,.assign (.const (.slice none 0 0)),none⟩]
@[reducible] def q66_3:SCode:=.region [⟨some 5,.buildSlice 22 0 #[],none⟩,
  ⟨some 6,.move (.tmp 0),none⟩,
  ⟨some 7,.call { callee:=.builtin .append,args:=#[.tmp 5,.tmp 6],argTypes:=#[22,22] },none⟩,
  ⟨some 2,.assign (.tmp 7),none⟩]
def s66:SCode:=(.seq q66_0 (.seq (.seq q66_1 (.cond (.tmp 4) (.seq q66_2 .ret) .skip)) (.seq q66_3 .ret)))
theorem s66_strip:Yh (Yi Tryd.f66)=s66:=by kernel_rfl
theorem s66_ok:Yx 8 (Yi Tryd.f66)=true:=by kernel_rfl
theorem s66_call [Tabs Tryd.prog] {args:List Value} {h:Yb} {Q:Value→Yb→Prop} (hsz:args.length≤8) (hk:aw Tryd.prog 8 s66 (Zu Tryd.prog [.tmp 2] Q) (Zp 0 args) h):ACall Tryd.prog 66 args h Q :=
 Wy Tryd.func66 rfl (enters_of Tryd.func66 (by kernel_rfl) rfl) rfl rfl (by decide) s66_strip s66_ok hsz hk
/-! 67: (planchet order.order).element -/
@[reducible] def q67_0:SCode:=.region [⟨some 2,.box 77 (.tmp 0),none⟩,
  ⟨some 4,.assign (.const (.bool false)),none⟩]
@[reducible] def q67_1:SCode:=.region [⟨some 5,.move (.tmp 1),none⟩,
  ⟨some 6,.binOp .geq 3 (.tmp 5) (.const (.int .i64 0)) 3,none⟩,
  ⟨some 7,.move (.tmp 6),none⟩,
  ⟨some 8,.move (.tmp 1),some (7,true)⟩,
  ⟨some 9,.fieldAddr 77 (.tmp 2) 0,some (7,true)⟩,
  ⟨some 10,.load 3 (.tmp 9),some (7,true)⟩,
  ⟨some 11,.binOp .lss 3 (.tmp 8) (.tmp 10) 3,some (7,true)⟩,
  ⟨some 12,.pick (.tmp 7) (.tmp 11) (.const (.bool false)),none⟩,
  ⟨some 4,.assign (.tmp 12),none⟩]
def s67:SCode:=(.seq q67_0 (.seq q67_1 .ret))
theorem s67_strip:Yh (Yi Tryd.f67)=s67:=by kernel_rfl
theorem s67_ok:Yx 13 (Yi Tryd.f67)=true:=by kernel_rfl
theorem s67_call [Tabs Tryd.prog] {args:List Value} {h:Yb} {Q:Value→Yb→Prop} (hsz:args.length≤13) (hk:aw Tryd.prog 13 s67 (Zu Tryd.prog [.tmp 4] Q) (Zp 0 args) h):ACall Tryd.prog 67 args h Q :=
 Wy Tryd.func67 rfl (enters_of Tryd.func67 (by kernel_rfl) rfl) rfl rfl (by decide) s67_strip s67_ok hsz hk
/-! 68: (planchet order.order).free -/
@[reducible] def q68_0:SCode:=.region [⟨some 3,.box 77 (.tmp 0),none⟩,
  ⟨some 6,.assign (.const (.bool false)),none⟩]
@[reducible] def q68_1:SCode:=.region [⟨some 7,.move (.tmp 1),none⟩,
  ⟨some 8,.move (.tmp 2),none⟩,
  ⟨some 9,.binOp .neq 3 (.tmp 7) (.tmp 8) 3,none⟩,
  ⟨some 10,.move (.tmp 9),none⟩,
  ⟨some 11,.move (.tmp 1),some (10,true)⟩,
  ⟨some 12,.fieldAddr 77 (.tmp 3) 1,some (10,true)⟩,
  ⟨some 13,.indexAddr 75 (.tmp 12) (.tmp 11),some (10,true)⟩,
  ⟨some 14,.load 3 (.tmp 13),some (10,true)⟩,
  ⟨some 15,.move (.tmp 2),some (10,true)⟩,
  ⟨some 16,.binOp .shr 3 (.tmp 14) (.tmp 15) 3,some (10,true)⟩,
  ⟨some 17,.binOp .and 3 (.tmp 16) (.const (.int .i64 1)) 3,some (10,true)⟩,
  ⟨some 18,.binOp .eql 3 (.tmp 17) (.const (.int .i64 0)) 3,some (10,true)⟩,
  ⟨some 19,.pick (.tmp 10) (.tmp 18) (.const (.bool false)),none⟩,
  ⟨some 20,.move (.tmp 19),none⟩,
  ⟨some 21,.move (.tmp 2),some (20,true)⟩,
  ⟨some 22,.fieldAddr 77 (.tmp 3) 1,some (20,true)⟩,
  ⟨some 23,.indexAddr 75 (.tmp 22) (.tmp 21),some (20,true)⟩,
  ⟨some 24,.load 3 (.tmp 23),some (20,true)⟩,
  ⟨some 25,.move (.tmp 1),some (20,true)⟩,
  ⟨some 26,.binOp .shr 3 (.tmp 24) (.tmp 25) 3,some (20,true)⟩,
  ⟨some 27,.binOp .and 3 (.tmp 26) (.const (.int .i64 1)) 3,some (20,true)⟩,
  ⟨some 28,.binOp .eql 3 (.tmp 27) (.const (.int .i64 0)) 3,some (20,true)⟩,
  ⟨some 29,.pick (.tmp 20) (.tmp 28) (.const (.bool false)),none⟩,
  ⟨some 6,.assign (.tmp 29),none⟩]
def s68:SCode:=(.seq q68_0 (.seq q68_1 .ret))
theorem s68_strip:Yh (Yi Tryd.f68)=s68:=by kernel_rfl
theorem s68_ok:Yx 30 (Yi Tryd.f68)=true:=by kernel_rfl
theorem s68_call [Tabs Tryd.prog] {args:List Value} {h:Yb} {Q:Value→Yb→Prop} (hsz:args.length≤30) (hk:aw Tryd.prog 30 s68 (Zu Tryd.prog [.tmp 6] Q) (Zp 0 args) h):ACall Tryd.prog 68 args h Q :=
 Wy Tryd.func68 rfl (enters_of Tryd.func68 (by kernel_rfl) rfl) rfl rfl (by decide) s68_strip s68_ok hsz hk
/-! 69: (planchet order.order).add -/
@[reducible] def q69_0:SCode:=.region [⟨some 3,.box 77 (.tmp 0),none⟩,
  ⟨some 6,.alloc 77,none⟩]
def q69_1:SCode:=.draw [⟨some 9,.move (.tmp 2),none⟩,
    ⟨some 10,.fieldAddr 77 (.tmp 3) 1,none⟩,
    ⟨some 11,.indexAddr 75 (.tmp 10) (.tmp 9),none⟩,
    ⟨some 12,.load 3 (.tmp 11),none⟩,
    ⟨some 13,.move (.tmp 2),none⟩,
    ⟨some 14,.binOp .shl 3 (.const (.int .i64 1)) (.tmp 13) 3,none⟩,
    ⟨some 15,.binOp .or 3 (.tmp 12) (.tmp 14) 3,none⟩,
    ⟨some 7,.alloc 3,none⟩,
    ⟨none,.store 3 (.tmp 7) (.tmp 15),none⟩]
  [[],[],[1,0],[2],[],[4],[3,5],[],[7,6,0,1,2,3,4,5,6,7]]
def q69_2:SCode:=.draw [⟨some 16,.load 77 (.tmp 3),none⟩,
    ⟨some 17,.move (.tmp 1),none⟩,
    ⟨some 18,.call { callee:=.value (.func 81),args:=#[.tmp 16,.tmp 17],argTypes:=#[77,3] },none⟩,
    ⟨some 19,.move (.tmp 1),none⟩,
    ⟨some 20,.binOp .shl 3 (.const (.int .i64 1)) (.tmp 19) 3,none⟩,
    ⟨some 21,.binOp .or 3 (.tmp 18) (.tmp 20) 3,none⟩,
    ⟨some 22,.call { callee:=.value (.func 101),args:=#[.tmp 21],argTypes:=#[3] },none⟩]
  [[],[],[0,1],[],[3],[2,4],[5,2]]
@[reducible] def q69_3:SCode:=.region [⟨some 8,.assign (.tmp 23),none⟩]
def q69_4:SCode:=.draw [⟨some 24,.move (.tmp 8),none⟩,
    ⟨some 25,.fieldAddr 77 (.tmp 3) 1,none⟩,
    ⟨some 26,.indexAddr 75 (.tmp 25) (.tmp 24),none⟩,
    ⟨some 27,.load 3 (.tmp 26),none⟩,
    ⟨some 28,.load 3 (.tmp 7),none⟩,
    ⟨some 29,.binOp .or 3 (.tmp 27) (.tmp 28) 3,none⟩,
    ⟨some 30,.fieldAddr 77 (.tmp 3) 1,none⟩,
    ⟨some 31,.indexAddr 75 (.tmp 30) (.tmp 24),none⟩,
    ⟨none,.store 3 (.tmp 31) (.tmp 29),none⟩]
  [[],[],[1,0],[2],[],[3,4],[],[6,0,0,1,2,3,4,5],[7,5,0,1,2,3,4,5]]
def r69_0_a:SCode:=q69_3
def r69_0_b:SCode:=(.block 1 q69_4)
@[reducible] def q69_5:SCode:=.region [⟨some 32,.load 77 (.tmp 3),none⟩,
  ⟨none,.store 77 (.tmp 6) (.tmp 32),none⟩]
def s69:SCode:=(.seq q69_0 (.seq q69_1 (.seq (.seq q69_2 (.block 0 (.range (.tmp 22) [23] r69_0_a r69_0_b))) (.seq q69_5 .ret))))
theorem s69_strip:Yh (Yi Tryd.f69)=s69:=by kernel_rfl
theorem s69_ok:Yx 33 (Yi Tryd.f69)=true:=by kernel_rfl
theorem s69_call [Tabs Tryd.prog] {args:List Value} {h:Yb} {Q:Value→Yb→Prop} (hsz:args.length≤33) (hk:aw Tryd.prog 33 s69 (Zu Tryd.prog [.cell 6 77] Q) (Zp 0 args) h):ACall Tryd.prog 69 args h Q :=
 Wy Tryd.func69 rfl (enters_of Tryd.func69 (by kernel_rfl) rfl) rfl rfl (by decide) s69_strip s69_ok hsz hk
/-! 70: (planchet order.order).slice -/
@[reducible] def q70_0:SCode:=.region [⟨some 1,.box 77 (.tmp 0),none⟩,
  ⟨some 2,.assign (.const (.slice none 0 0)),none⟩]
@[reducible] def q70_1:SCode:=.region [⟨some 3,.fieldAddr 77 (.tmp 1) 1,none⟩,
  ⟨some 4,.fieldAddr 77 (.tmp 1) 0,none⟩,
  ⟨some 5,.load 3 (.tmp 4),none⟩,
  ⟨some 6,.slice 75 (.tmp 3) none (some (.tmp 5)) none,none⟩,
  ⟨some 7,.call { callee:=.value (.func 66),args:=#[.tmp 6],argTypes:=#[22] },none⟩,
  ⟨some 2,.assign (.tmp 7),none⟩]
def s70:SCode:=(.seq q70_0 (.seq q70_1 .ret))
theorem s70_strip:Yh (Yi Tryd.f70)=s70:=by kernel_rfl
theorem s70_ok:Yx 8 (Yi Tryd.f70)=true:=by kernel_rfl
theorem s70_call [Tabs Tryd.prog] {args:List Value} {h:Yb} {Q:Value→Yb→Prop} (hsz:args.length≤8) (hk:aw Tryd.prog 8 s70 (Zu Tryd.prog [.tmp 2] Q) (Zp 0 args) h):ACall Tryd.prog 70 args h Q :=
 Wy Tryd.func70 rfl (enters_of Tryd.func70 (by kernel_rfl) rfl) rfl rfl (by decide) s70_strip s70_ok hsz hk
/-! 81: (planchet order.order).below -/
@[reducible] def q81_0:SCode:=.region [⟨some 2,.box 77 (.tmp 0),none⟩,
  ⟨some 4,.assign (.const (.int .i64 0)),none⟩]
@[reducible] def q81_1:SCode:=.region [⟨some 5,.assign (.const (.int .i64 0)),none⟩]
@[reducible] def q81_2:SCode:=.region [⟨some 7,.fieldAddr 77 (.tmp 2) 0,none⟩,
  ⟨some 8,.load 3 (.tmp 7),none⟩,
  ⟨some 9,.move (.const (.int .i64 0)),none⟩]
@[reducible] def q81_3:SCode:=.region [⟨some 10,.binOp .lss 3 (.tmp 9) (.tmp 8) 3,none⟩]
@[reducible] def q81_4:SCode:=.region [⟨some 11,.move (.tmp 9),none⟩,
  ⟨some 6,.assign (.tmp 11),none⟩]
@[reducible] def q81_5:SCode:=.region [⟨some 12,.move (.tmp 5),none⟩,
  ⟨some 13,.move (.tmp 6),none⟩,
  ⟨some 14,.fieldAddr 77 (.tmp 2) 1,none⟩,
  ⟨some 15,.indexAddr 75 (.tmp 14) (.tmp 13),none⟩,
  ⟨some 16,.load 3 (.tmp 15),none⟩,
  ⟨some 17,.move (.tmp 1),none⟩,
  ⟨some 18,.binOp .shr 3 (.tmp 16) (.tmp 17) 3,none⟩,
  ⟨some 19,.binOp .and 3 (.tmp 18) (.const (.int .i64 1)) 3,none⟩,
  ⟨some 20,.move (.tmp 6),none⟩,
  ⟨some 21,.binOp .shl 3 (.tmp 19) (.tmp 20) 3,none⟩,
  ⟨some 22,.binOp .or 3 (.tmp 12) (.tmp 21) 3,none⟩,
  ⟨some 5,.assign (.tmp 22),none⟩]
@[reducible] def q81_6:SCode:=.region [⟨some 23,.binOp .add 3 (.tmp 9) (.const (.int .i64 1)) 3,none⟩,
  ⟨some 9,.move (.tmp 23),none⟩]
def l81_0:SCode:=(.seq q81_3 (.seq (.cond (.tmp 10) .skip (.exit 0)) (.seq (.block 1 (.seq q81_4 q81_5)) q81_6)))
@[reducible] def q81_7:SCode:=.region [⟨some 24,.move (.tmp 5),none⟩,
  ⟨some 4,.assign (.tmp 24),none⟩]
def s81:SCode:=(.seq q81_0 (.seq q81_1 (.seq (.seq q81_2 (.block 0 (.loop l81_0))) (.seq q81_7 .ret))))
theorem s81_strip:Yh (Yi Tryd.f81)=s81:=by kernel_rfl
theorem s81_ok:Yx 25 (Yi Tryd.f81)=true:=by kernel_rfl
theorem s81_call [Tabs Tryd.prog] {args:List Value} {h:Yb} {Q:Value→Yb→Prop} (hsz:args.length≤25) (hk:aw Tryd.prog 25 s81 (Zu Tryd.prog [.tmp 4] Q) (Zp 0 args) h):ACall Tryd.prog 81 args h Q :=
 Wy Tryd.func81 rfl (enters_of Tryd.func81 (by kernel_rfl) rfl) rfl rfl (by decide) s81_strip s81_ok hsz hk
/-! 98: (planchet order.order).all -/
@[reducible] def q98_0:SCode:=.region [⟨some 1,.box 77 (.tmp 0),none⟩,
  ⟨some 2,.assign (.const (.int .i64 0)),none⟩]
@[reducible] def q98_1:SCode:=.region [⟨some 3,.fieldAddr 77 (.tmp 1) 0,none⟩,
  ⟨some 4,.load 3 (.tmp 3),none⟩,
  ⟨some 5,.binOp .shl 3 (.const (.int .i64 1)) (.tmp 4) 3,none⟩,
  ⟨some 6,.binOp .sub 3 (.tmp 5) (.const (.int .i64 1)) 3,none⟩,
  ⟨some 2,.assign (.tmp 6),none⟩]
def s98:SCode:=(.seq q98_0 (.seq q98_1 .ret))
theorem s98_strip:Yh (Yi Tryd.f98)=s98:=by kernel_rfl
theorem s98_ok:Yx 7 (Yi Tryd.f98)=true:=by kernel_rfl
theorem s98_call [Tabs Tryd.prog] {args:List Value} {h:Yb} {Q:Value→Yb→Prop} (hsz:args.length≤7) (hk:aw Tryd.prog 7 s98 (Zu Tryd.prog [.tmp 2] Q) (Zp 0 args) h):ACall Tryd.prog 98 args h Q :=
 Wy Tryd.func98 rfl (enters_of Tryd.func98 (by kernel_rfl) rfl) rfl rfl (by decide) s98_strip s98_ok hsz hk
/-! 101: planchet order.elements -/
@[reducible] def q101_0:SCode:=.region [⟨some 1,.box 3 (.tmp 0),none⟩,
  ⟨some 2,.assign (.const .nilFunc),none⟩]
@[reducible] def q101_1:SCode:=.region [⟨some 3,.makeFunc (.func 114) #[] #[.tmp 1],none⟩,
  ⟨some 2,.assign (.tmp 3),none⟩]
def s101:SCode:=(.seq q101_0 (.seq q101_1 .ret))
theorem s101_strip:Yh (Yi Tryd.f101)=s101:=by kernel_rfl
theorem s101_ok:Yx 4 (Yi Tryd.f101)=true:=by kernel_rfl
theorem s101_call [Tabs Tryd.prog] {args:List Value} {h:Yb} {Q:Value→Yb→Prop} (hsz:args.length≤4) (hk:aw Tryd.prog 4 s101 (Zu Tryd.prog [.tmp 2] Q) (Zp 0 args) h):ACall Tryd.prog 101 args h Q :=
 Wy Tryd.func101 rfl (enters_of Tryd.func101 (by kernel_rfl) rfl) rfl rfl (by decide) s101_strip s101_ok hsz hk
end Go.Proofs.Tryd.Am
namespace Ord
theorem perm_of_nodup {α:Type} {l1 l2:List α} (h1:l1.Nodup) (h2:l2.Nodup) (h : ∀ a,a∈l1↔a∈l2):l1.Perm l2:=by
 classical
 induction l1 generalizing l2 with
 | nil =>
   cases l2 with
   | nil=>exact List.Perm.nil
   | cons b l=>exact absurd ((h b).2 (by simp)) (by simp)
 | cons a l ih =>
   have ha:a∈l2:=(h a).1 (by simp)
   obtain ⟨s,t,rfl⟩:=List.append_of_mem ha
   refine List.Perm.trans ?_ (List.perm_middle).symm
   refine List.Perm.cons a (ih (List.nodup_cons.1 h1).2 ?_ ?_)
   · exact (List.nodup_cons.1 ((List.perm_middle).nodup_iff.1 h2)).2
   · intro b
     have hb:=h b
     simp only [List.mem_cons,List.mem_append] at hb ⊢
     have hna:a ∉ l:=(List.nodup_cons.1 h1).1
     have hnt:a ∉ s++t:=(List.nodup_cons.1 ((List.perm_middle).nodup_iff.1 h2)).1
     constructor
     · intro hl
       have hba:b≠a:=fun e=>hna (e▸hl)
       rcases hb.1 (.inr hl) with h | h | h
       · exact .inl h
       · exact absurd h hba
       · exact .inr h
     · intro hst
       have hba:b≠a:=fun e=>hnt (e▸List.mem_append.2 hst)
       rcases hb.2 (hst.elim .inl fun h=>.inr (.inr h)) with h | h
       · exact absurd h hba
       · exact h
def Wi (r:Nat→Nat→Bool) (S:List Nat):List Nat:=S.filter fun i=>S.all fun j=>!r j i
def lines (r:Nat→Nat→Bool):Nat→List Nat→List (List Nat)
 | 0,_=>[[]]
 | k+1,S=>(Wi r S).flatMap fun i=>(lines r k (S.erase i)).map (i :: ·)
def cnt (r:Nat→Nat→Bool):Nat→List Nat→Nat
 | 0,_=>1
 | k+1,S=>((Wi r S).map fun i=>cnt r k (S.erase i)).sum
theorem sum_map_len {α β:Type} (f:α→List β) : ∀ l:List α,(l.flatMap f).length=(l.map fun a=>(f a).length).sum
 | []=>rfl
 | a::l=>by simp [sum_map_len f l]
theorem cnt_len (r:Nat→Nat→Bool) : ∀ k S,(lines r k S).length=cnt r k S
 | 0,_=>rfl
 | k+1,S=>by
   rw [lines,cnt,sum_map_len]
   simp [cnt_len r k]
theorem Ve {r:Nat→Nat→Bool} {S:List Nat} {i:Nat}:i∈Wi r S↔i∈S∧∀ j∈S,r j i=false:=by
 simp [Wi]
theorem Vm {r:Nat→Nat→Bool} (hr : ∀ i,r i i=false) : ∀ {k:Nat} {S:List Nat},S.length=k→∀ l,l∈lines r k S↔l.Perm S∧l.Pairwise (fun a b=>r b a=false)
 | 0,S,hS,l=>by
   rw [List.length_eq_zero_iff] at hS
   subst hS
   simp [lines]
   intro h; subst h; exact List.Pairwise.nil
 | k+1,S,hS,l=>by
   simp only [lines,List.mem_flatMap,List.mem_map,Ve]
   constructor
   · rintro ⟨i,⟨hi,hm⟩,l',hl',rfl⟩
     have hlen:(S.erase i).length=k:=by rw [List.length_erase_of_mem hi]; omega
     obtain ⟨hp,hw⟩:=(Vm hr hlen l').1 hl'
     refine ⟨(List.Perm.cons i hp).trans (List.perm_cons_erase hi).symm,List.pairwise_cons.2 ⟨fun b hb=>hm b (List.mem_of_mem_erase (hp.mem_iff.1 hb)),hw⟩⟩
   · rintro ⟨hp,hw⟩
     cases l with
     | nil=>have:=hp.length_eq; simp [hS] at this
     | cons i l' =>
       obtain ⟨h1,h2⟩:=List.pairwise_cons.1 hw
       have hi:i∈S:=hp.mem_iff.1 (by simp)
       have hp' : l'.Perm (S.erase i):=(List.perm_cons i).1 (hp.trans (List.perm_cons_erase hi))
       have hlen:(S.erase i).length=k:=by rw [List.length_erase_of_mem hi]; omega
       refine ⟨i,⟨hi,fun j hj=>?_⟩,l',(Vm hr hlen l').2 ⟨hp',h2⟩,rfl⟩
       rcases List.mem_cons.1 (hp.mem_iff.2 hj) with rfl | h
       · exact hr j
       · exact h1 j h
theorem Wr {r:Nat→Nat→Bool} : ∀ {k:Nat} {S:List Nat},S.Nodup→(lines r k S).Nodup
 | 0,S,_=>by simp [lines]
 | k+1,S,hS=>by
   rw [lines]
   have hf:(Wi r S).Nodup:=hS.filter _
   generalize Wi r S=F at hf
   induction F with
   | nil=>simp
   | cons i F ih =>
     rw [List.flatMap_cons]
     refine List.nodup_append.2 ⟨?_,ih (List.nodup_cons.1 hf).2,?_⟩
     · refine List.Pairwise.map (R:=(·≠·)) _ (fun a b hab he=>hab (List.cons.inj he).2) (Wr (hS.erase i))
     · intro a ha b hb hab
       subst hab
       obtain ⟨x,-,rfl⟩:=List.mem_map.1 ha
       obtain ⟨j,hj,hx⟩:=List.mem_flatMap.1 hb
       obtain ⟨y,-,he⟩:=List.mem_map.1 hx
       obtain ⟨rfl,-⟩:=List.cons.inj he
       exact (List.nodup_cons.1 hf).1 hj
theorem cnt_flip {r:Nat→Nat→Bool} (hr : ∀ i,r i i=false) {S:List Nat} (hS:S.Nodup):cnt (fun i j=>r j i) S.length S=cnt r S.length S:=by
 rw [← cnt_len,← cnt_len]
 have hp:((lines r S.length S).map List.reverse).Perm (lines (fun i j=>r j i) S.length S):=by
  refine perm_of_nodup ?_ (Wr hS) fun l=>?_
  · exact List.Pairwise.map (R:=(·≠·)) _ (fun a b hab he=>hab (List.reverse_inj.1 he)) (Wr hS)
  · rw [Vm (r:=fun i j=>r j i) hr rfl l,List.mem_map]
    constructor
    · rintro ⟨x,hx,rfl⟩
      obtain ⟨h1,h2⟩:=(Vm hr rfl x).1 hx
      exact ⟨(List.reverse_perm x).trans h1,List.pairwise_reverse.2 h2⟩
    · rintro ⟨h1,h2⟩
      refine ⟨l.reverse,(Vm hr rfl _).2 ⟨(List.reverse_perm l).trans h1,?_⟩,List.reverse_reverse l⟩
      exact List.pairwise_reverse.2 h2
 have:=hp.length_eq
 rw [List.length_map] at this
 exact this.symm
theorem sum_perm {l1 l2:List Nat} (h:l1.Perm l2):l1.sum=l2.sum:=h.sum_nat
theorem firsts_perm {r:Nat→Nat→Bool} {S T:List Nat} (h:S.Perm T):(Wi r S).Perm (Wi r T):=by
 have:(fun i=>S.all fun j=>!r j i)=fun i=>T.all fun j=>!r j i:=by
  funext i
  rw [Bool.eq_iff_iff]; simp [h.mem_iff]
 rw [Wi,Wi,this]
 exact h.filter _
theorem cnt_perm (r:Nat→Nat→Bool) : ∀ {k:Nat} {S T:List Nat},S.Perm T→cnt r k S=cnt r k T
 | 0,_,_,_=>rfl
 | k+1,S,T,h=>by
   rw [cnt,cnt]
   have e:(fun i=>cnt r k (S.erase i))=fun i=>cnt r k (T.erase i):=funext fun i=>cnt_perm r (h.erase i)
   rw [e]
   exact sum_perm ((firsts_perm h).map _)
theorem cnt_map {r r' : Nat→Nat→Bool} (f:Nat→Nat) : ∀ {k:Nat} {S:List Nat},(∀ i∈S,∀ j∈S,f i=f j→i=j)→(∀ i∈S,∀ j∈S,r' (f i) (f j)=r i j) →
  cnt r' k (S.map f)=cnt r k S
 | 0,_,_,_=>rfl
 | k+1,S,hf,h=>by
   have e:Wi r' (S.map f)=(Wi r S).map f:=by
    rw [Wi,Wi,List.filter_map]
    congr 1
    refine List.filter_congr fun i hi=>?_
    rw [Bool.eq_iff_iff]
    simp only [Function.comp,List.all_eq_true,List.mem_map,forall_exists_index,and_imp,forall_apply_eq_imp_iff₂]
    exact ⟨fun H j hj=>by rw [← h j hj i hi]; exact H j hj,fun H j hj=>by rw [h j hj i hi]; exact H j hj⟩
   rw [cnt,cnt,e,List.map_map]
   congr 1
   refine List.map_congr_left fun i hi=>?_
   have hiS:i∈S:=(Ve.1 hi).1
   have e2:(S.map f).erase (f i)=(S.erase i).map f:=by
    clear e hi h
    induction S with
    | nil=>rfl
    | cons a S ih =>
      rw [List.map_cons,List.erase_cons,List.erase_cons]
      by_cases ha:a=i
      · subst ha; simp
      · have hfa:f a≠f i:=fun he=>ha (hf a (by simp) i hiS he)
        rw [if_neg (by simpa using hfa),if_neg (by simpa using ha),List.map_cons]
        have hiS' : i∈S:=(List.mem_cons.1 hiS).resolve_left (Ne.symm ha)
        rw [ih (fun x hx y hy=>hf x (by simp [hx]) y (by simp [hy])) hiS']
   show cnt r' k ((S.map f).erase (f i))=cnt r k (S.erase i)
   rw [e2]
   exact cnt_map f (fun x hx y hy=>hf x (List.mem_of_mem_erase hx) y (List.mem_of_mem_erase hy)) (fun x hx y hy=>h x (List.mem_of_mem_erase hx) y (List.mem_of_mem_erase hy))
def addR (r:Nat→Nat→Bool) (i j:Nat):Nat→Nat→Bool:=fun a b=>r a b || ((a==i || r a i)&&(b==j || r j b))
structure Po (r:Nat→Nat→Bool):Prop where
 irr : ∀ i,r i i=false
 tr : ∀ i j k,r i j=true→r j k=true→r i k=true
theorem addR_po {r:Nat→Nat→Bool} (h:Po r) {i j:Nat} (hn:i≠j) (hji:r j i=false):Po (addR r i j):=by
 constructor
 · intro a
   simp only [addR,h.irr,Bool.false_or,Bool.and_eq_false_iff,Bool.or_eq_false_iff]
   cases h1:(a==i || r a i) with
   | false=>simp only [Bool.or_eq_false_iff] at h1; exact .inl h1
   | true =>
     refine .inr ?_
     simp only [Bool.or_eq_true,beq_iff_eq] at h1
     constructor
     · rw [beq_eq_false_iff_ne]
       rintro rfl
       rcases h1 with h1 | h1
       · exact hn h1.symm
       · rw [hji] at h1; cases h1
     · cases h2:r j a with
       | false=>rfl
       | true =>
         rcases h1 with rfl | h1
         · rw [hji] at h2; cases h2
         · rw [h.tr _ _ _ h2 h1] at hji; cases hji
 · intro a b c hab hbc
   simp only [addR,Bool.or_eq_true,Bool.and_eq_true,beq_iff_eq] at *
   rcases hab with hab | ⟨h1,h2⟩
   · rcases hbc with hbc | ⟨h3,h4⟩
     · exact .inl (h.tr _ _ _ hab hbc)
     · refine .inr ⟨.inr ?_,h4⟩
       rcases h3 with rfl | h3
       · exact hab
       · exact h.tr _ _ _ hab h3
   · rcases hbc with hbc | ⟨h3,h4⟩
     · refine .inr ⟨h1,.inr ?_⟩
       rcases h2 with rfl | h2
       · exact hbc
       · exact h.tr _ _ _ h2 hbc
     · exact .inr ⟨h1,h4⟩
theorem idx_ne {x y:Nat} (l:List Nat) (h:x≠y):(x::l).idxOf y=l.idxOf y+1:=by
 rw [List.idxOf_cons,show (x==y)=false by simpa using h]; rfl
def bef (l:List Nat) (i j:Nat):Bool:=decide (l.idxOf i<l.idxOf j)
theorem bef_pw {R:Nat→Nat→Prop} {l:List Nat} (hl:l.Nodup):l.Pairwise R↔∀ a∈l,∀ b∈l,bef l a b=true→R a b:=by
 induction l with
 | nil=>simp
 | cons x l ih =>
   have hx:=List.nodup_cons.1 hl
   rw [List.pairwise_cons,ih hx.2]
   simp only [bef,decide_eq_true_eq]
   constructor
   · rintro ⟨h1,h2⟩ a ha b hb hab
     by_cases hbx:b=x
     · subst hbx; simp [List.idxOf_cons_self] at hab
     have hbl:b∈l:=(List.mem_cons.1 hb).resolve_left hbx
     by_cases hax:a=x
     · subst hax; exact h1 b hbl
     have hal:a∈l:=(List.mem_cons.1 ha).resolve_left hax
     rw [idx_ne l (Ne.symm hax),idx_ne l (Ne.symm hbx)] at hab
     exact h2 a hal b hbl (by omega)
   · intro H
     constructor
     · intro b hb
       have hbx:b≠x:=fun e=>hx.1 (e▸hb)
       refine H x (by simp) b (by simp [hb]) ?_
       rw [List.idxOf_cons_self,idx_ne l (Ne.symm hbx)]; omega
     · intro a ha b hb hab
       have hax:a≠x:=fun e=>hx.1 (e▸ha)
       have hbx:b≠x:=fun e=>hx.1 (e▸hb)
       refine H a (by simp [ha]) b (by simp [hb]) ?_
       rw [idx_ne l (Ne.symm hax),idx_ne l (Ne.symm hbx)]; omega
theorem idx_inj {l:List Nat} {a b:Nat} (ha:a∈l) (hb:b∈l) (h:l.idxOf a=l.idxOf b):a=b:=by
 have h1:=List.getElem_idxOf (List.idxOf_lt_length_of_mem ha)
 have h2:=List.getElem_idxOf (List.idxOf_lt_length_of_mem hb)
 rw [← h1,← h2]
 simp only [h]
theorem bef_not {l:List Nat} {i j:Nat} (hi:i∈l) (hj:j∈l) (hn:i≠j):bef l j i = !bef l i j:=by
 have:l.idxOf i≠l.idxOf j:=fun h=>hn (idx_inj hi hj h)
 rw [bef,bef]
 by_cases h:l.idxOf i<l.idxOf j
 · rw [decide_eq_true h,decide_eq_false (by omega)]; rfl
 · rw [decide_eq_false h,decide_eq_true (by omega)]; rfl
theorem cnt_add {r:Nat→Nat→Bool} (h:Po r) {i j:Nat} (hn:i≠j) (hji:r j i=false) {S:List Nat} (hS:S.Nodup) (hi:i∈S) (hj:j∈S) :
  cnt (addR r i j) S.length S=((lines r S.length S).filter fun l=>bef l i j).length:=by
 rw [← cnt_len]
 refine List.Perm.length_eq (perm_of_nodup (Wr hS) ((Wr hS).filter _) fun l=>?_)
 rw [Vm (addR_po h hn hji).irr rfl,List.mem_filter,Vm h.irr rfl]
 constructor
 · rintro ⟨hp,hw⟩
   have hl:l.Nodup:=hp.nodup_iff.2 hS
   rw [bef_pw hl] at hw
   refine ⟨⟨hp,(bef_pw hl).2 fun a ha b hb hab=>?_⟩,?_⟩
   · have:=hw a ha b hb hab
     simp only [addR,Bool.or_eq_false_iff] at this
     exact this.1
   · have hil:=hp.mem_iff.2 hi
     have hjl:=hp.mem_iff.2 hj
     cases e:bef l i j with
     | true=>rfl
     | false =>
       have:=hw j hjl i hil (by rw [bef_not hil hjl hn,e]; rfl)
       simp [addR] at this
 · rintro ⟨⟨hp,hw⟩,hb⟩
   have hl:l.Nodup:=hp.nodup_iff.2 hS
   rw [bef_pw hl] at hw
   refine ⟨hp,(bef_pw hl).2 fun a ha b hb' hab=>?_⟩
   have hil:=hp.mem_iff.2 hi
   have hjl:=hp.mem_iff.2 hj
   simp only [addR,Bool.or_eq_false_iff]
   refine ⟨hw a ha b hb' hab,?_⟩
   cases e:((b==i || r b i)&&(a==j || r j a)) with
   | false=>rfl
   | true =>
     exfalso
     simp only [Bool.and_eq_true,Bool.or_eq_true,beq_iff_eq] at e
     simp only [bef,decide_eq_true_eq] at hb hab hw
     have h1:l.idxOf b≤l.idxOf i:=by
      rcases e.1 with rfl | e1
      · exact Nat.le_refl _
      · apply Classical.byContradiction; intro hc
        have:=hw i hil b hb' (by omega)
        rw [e1] at this; cases this
     have h2:l.idxOf j≤l.idxOf a:=by
      rcases e.2 with rfl | e1
      · exact Nat.le_refl _
      · apply Classical.byContradiction; intro hc
        have:=hw a ha j hjl (by omega)
        rw [e1] at this; cases this
     omega
theorem firsts_ne {r:Nat→Nat→Bool} (h:Po r) {S:List Nat} (hS:S≠[]):Wi r S≠[]:=by
 have key : ∀ n (T:List Nat),T.length≤n→(∀ x∈T,x∈S)→T≠[]→(∀ x∈S,∀ y∈T,r x y=true→x∈T)→Wi r S≠[]:=by
  intro n
  induction n with
  | zero=>intro T hT _ hne _; exact absurd (List.length_eq_zero_iff.1 (by omega)) hne
  | succ n ih =>
    intro T hT hTS hne hdown
    obtain ⟨y,T',rfl⟩:=List.exists_cons_of_ne_nil hne
    by_cases hy : ∀ x∈S,r x y=false
    · intro he
      have:y∈Wi r S:=Ve.2 ⟨hTS y (by simp),hy⟩
      rw [he] at this; cases this
    · have : ∃ x,x∈S∧r x y=true:=by
       apply Classical.byContradiction; intro hno
       exact hy fun x hx=>by
        cases e:r x y with
        | false=>rfl
        | true=>exact absurd ⟨x,hx,e⟩ hno
      obtain ⟨x,hx,hxy⟩:=this
      refine ih ((y::T').filter fun z=>r z y) ?_ (fun z hz=>hTS z (List.mem_filter.1 hz).1) ?_ ?_
      · have hlt:((y::T').filter fun z=>r z y).length<(y::T').length:=by
         rw [List.filter_cons,if_neg (by simp [h.irr])]
         have:=List.length_filter_le (fun z=>r z y) T'
         simp only [List.length_cons]; omega
        omega
      · intro he
        have:x∈(y::T').filter fun z=>r z y:=List.mem_filter.2 ⟨hdown x hx y (by simp) hxy,hxy⟩
        rw [he] at this; cases this
      · intro a ha b hb hab
        have hb':=List.mem_filter.1 hb
        exact List.mem_filter.2 ⟨hdown a ha b hb'.1 hab,h.tr _ _ _ hab hb'.2⟩
 exact key S.length S (Nat.le_refl _) (fun _ h=>h) hS fun x hx _ _ _=>hx
theorem cnt_pos {r:Nat→Nat→Bool} (h:Po r) : ∀ {k:Nat} {S:List Nat},S.length=k→0<cnt r k S
 | 0,_,_=>Nat.one_pos
 | k+1,S,hS=>by
   have hne:=firsts_ne h (S:=S) (by rintro rfl; simp at hS)
   rw [cnt]
   obtain ⟨i,F,hF⟩:=List.exists_cons_of_ne_nil hne
   have hi:i∈S:=(Ve.1 (by rw [hF]; simp:i∈Wi r S)).1
   rw [hF,List.map_cons,List.sum_cons]
   have:=cnt_pos h (k:=k) (S:=S.erase i) (by rw [List.length_erase_of_mem hi]; omega)
   omega
end Ord
namespace Ord
open Go.Am
def bt (o:List Int) (i:Nat):Nat:=(o.getD i 0).toNat
def ab (o:List Int) (i j:Nat):Bool:=(bt o i).testBit j
def okO (o:List Int) (i:Nat):Bool :=
 decide (0≤o.getD i 0)&&decide (o.getD i 0<2 ^ o.length) && !ab o i i&&(List.range o.length).all fun j=>!ab o i j || (Vn .andNot .i64 (o.getD j 0) (o.getD i 0)==0)
def ord (o:List Int):Bool:=decide (1≤o.length)&&decide (o.length≤6)&&(List.range o.length).all (okO o)
theorem Yz {o:List Int} (h:ord o=true):1≤o.length∧o.length≤6:=by
 simp only [ord,Bool.and_eq_true,decide_eq_true_eq] at h; exact h.1
theorem pow6 {n:Nat} (h:n≤6):2 ^ n≤64∧0<2 ^ n:=⟨Nat.pow_le_pow_right (n:=2) (by decide) h,Nat.two_pow_pos n⟩
theorem ord_at {o:List Int} (h:ord o=true) {i:Nat} (hi:i<o.length):okO o i=true:=by
 simp only [ord,Bool.and_eq_true,List.all_eq_true,List.mem_range] at h; exact h.2 i hi
theorem ord_nat {o:List Int} (h:ord o=true) {i:Nat} (hi:i<o.length):o.getD i 0=(bt o i:Int)∧bt o i<2 ^ o.length:=by
 have h2:=ord_at h hi
 simp only [okO,Bool.and_eq_true,decide_eq_true_eq] at h2
 have e:((2 ^ o.length:Nat):Int)=2 ^ o.length:=by simp
 have h3:=h2.1.1.1
 have h4:=h2.1.1.2
 refine ⟨(Int.toNat_of_nonneg h3).symm,?_⟩
 rw [← Int.toNat_of_nonneg h3,← e] at h4
 exact Int.ofNat_lt.1 h4
theorem bt_out {o:List Int} {i:Nat} (hi:o.length≤i):bt o i=0:=by simp [bt,List.getD,List.getElem?_eq_none hi]
theorem ab_lt {o:List Int} (h:ord o=true) {i j:Nat} (hij:ab o i j=true):i<o.length∧j<o.length:=by
 have hi:i<o.length:=by
  rcases Nat.lt_or_ge i o.length with h | h
  · exact h
  · simp [ab,bt_out h] at hij
 refine ⟨hi,?_⟩
 rcases Nat.lt_or_ge j o.length with h' | h'
 · exact h'
 · have:=Nat.testBit_lt_two_pow (Nat.lt_of_lt_of_le (ord_nat h hi).2 (Nat.pow_le_pow_right (by decide) h'))
   rw [ab,this] at hij; cases hij
theorem less_zero {a b:Nat}:Wx a b=0↔∀ k,a.testBit k=true→b.testBit k=true:=by
 constructor
 · intro h k hk
   have:=Xz a b k
   rw [h,hk,Nat.zero_testBit] at this
   cases hb:b.testBit k with
   | true=>rfl
   | false=>rw [hb] at this; cases this
 · intro h
   apply Nat.eq_of_testBit_eq
   intro k
   rw [Xz,Nat.zero_testBit]
   cases ha:a.testBit k with
   | false=>rfl
   | true=>rw [h k ha]; rfl
theorem ord_po {o:List Int} (h:ord o=true):Po (ab o):=by
 have hlen:=Yz h
 have hp:=pow6 hlen.2
 constructor
 · intro i
   rcases Nat.lt_or_ge i o.length with hi | hi
   · have h2:=ord_at h hi
     simp only [okO,Bool.and_eq_true,Bool.not_eq_true'] at h2
     exact h2.1.2
   · simp [ab,bt_out hi]
 · intro i j k hij hjk
   obtain ⟨hi,hj⟩:=ab_lt h hij
   have h2:=ord_at h hi
   simp only [okO,Bool.and_eq_true,List.all_eq_true,List.mem_range] at h2
   have h3:=h2.2 j hj
   rw [hij,Bool.not_true,Bool.false_or,beq_iff_eq] at h3
   obtain ⟨e1,l1⟩:=ord_nat h hi
   obtain ⟨e2,l2⟩:=ord_nat h hj
   rw [e1,e2,bitsV_andNot (by omega) (by omega)] at h3
   exact less_zero.1 (Int.ofNat.inj h3) k hjk
def dn (o:List Int) (i:Nat):Nat:=(List.range o.length).foldl (fun s j=>s ||| (if ab o j i then 2 ^ j else 0)) 0
theorem foldl_or_bit {f:Nat→Nat} {w:Nat} : ∀ (l:List Nat) (s:Nat),(l.foldl (fun r j=>r ||| f j) s).testBit w=(s.testBit w || l.any fun j=>(f j).testBit w)
 | [],s=>by simp
 | x::l,s=>by rw [List.foldl_cons,foldl_or_bit l,Nat.testBit_or,List.any_cons,Bool.or_assoc]
theorem dn_bit {o:List Int} {i j:Nat}:(dn o i).testBit j=(decide (j<o.length)&&ab o j i):=by
 rw [dn,foldl_or_bit,Nat.zero_testBit,Bool.false_or,Bool.eq_iff_iff,List.any_eq_true,Bool.and_eq_true,decide_eq_true_eq]
 constructor
 · rintro ⟨x,hx,hb⟩
   cases ha:ab o x i with
   | false=>simp [ha] at hb
   | true =>
     rw [ha,if_pos rfl,Nat.testBit_two_pow,decide_eq_true_eq] at hb
     subst hb
     exact ⟨List.mem_range.1 hx,ha⟩
 · rintro ⟨h1,h2⟩
   exact ⟨j,List.mem_range.2 h1,by rw [h2,if_pos rfl,Nat.testBit_two_pow_self]⟩
theorem dn_bit' {o:List Int} (h:ord o=true) {i j:Nat}:(dn o i).testBit j=ab o j i:=by
 rw [dn_bit]
 cases ha:ab o j i with
 | false=>simp
 | true=>simp [(ab_lt h ha).1]
theorem lt_of_bits {s n:Nat} (h : ∀ j,n≤j→s.testBit j=false):s<2 ^ n:=Nat.lt_pow_two_of_testBit s fun j hj=>h j hj
theorem dn_lt {o:List Int} {i:Nat}:dn o i<2 ^ o.length:=lt_of_bits fun j hj=>by rw [dn_bit,decide_eq_false (by omega)]; rfl
theorem bits_nodup (s:Nat):(bits s).Nodup:=(List.nodup_range).filter _
theorem bits_erase {s i:Nat} (hi:i<64):(bits s).erase i=bits (Wx s (2 ^ i)):=by
 rw [List.Nodup.erase_eq_filter (bits_nodup s),bits,bits,List.filter_filter]
 refine List.filter_congr fun j hj=>?_
 rw [Xz,Nat.testBit_two_pow,Bool.and_comm]
 by_cases h:j=i
 · subst h; simp
 · simp [h,Ne.symm h]
theorem bits_range {s n:Nat} (h:s<2 ^ n) (hn:n≤64):bits s=(List.range n).filter fun i=>s.testBit i:=by
 obtain ⟨d,hd⟩ : ∃ d,64=n+d:=⟨64-n,by omega⟩
 rw [bits,hd,List.range_add,List.filter_append]
 have:(List.map (n + ·) (List.range d)).filter (fun i=>s.testBit i)=[]:=by
  rw [List.filter_eq_nil_iff]
  intro a ha
  obtain ⟨k,-,rfl⟩:=List.mem_map.1 ha
  rw [Nat.testBit_lt_two_pow (Nat.lt_of_lt_of_le h (Nat.pow_le_pow_right (by decide) (Nat.le_add_right n k)))]
  decide
 rw [this,List.append_nil]
theorem bits_all {n:Nat} (hn:n≤64):bits (2 ^ n-1)=List.range n:=by
 rw [bits_range (n:=n) (by have:=Nat.two_pow_pos n; omega) hn,List.filter_eq_self]
 intro i hi
 rw [Nat.testBit_two_pow_sub_one,decide_eq_true (List.mem_range.1 hi)]
def okLast (o:List Int) (s i:Nat):Bool:=decide (Wx (dn o i) s=0)&&decide (bt o i &&& s=0)
def Wf (o:List Int):Nat→Nat→Nat
 | 0,_=>1
 | k+1,s=>(((bits s).filter (okLast o s)).map fun i=>Wf o k (Wx s (2 ^ i))).sum
def W (o:List Int) (s:Nat):Nat:=Wf o (bits s).length s
theorem W_zero (o:List Int):W o 0=1:=by
 have:bits 0=[]:=by decide
 rw [W,this]; rfl
theorem bits_ne {s:Nat} (h0:s≠0) (h:s<2 ^ 63):bits s≠[]:=by rw [bits_step s h h0]; exact List.cons_ne_nil _ _
theorem W_step {o:List Int} {s:Nat} (h0:s≠0) (h:s<2 ^ 63):W o s=(((bits s).filter (okLast o s)).map fun i=>W o (Wx s (2 ^ i))).sum:=by
 have hne:=bits_ne h0 h
 have hl : ∃ k,(bits s).length=k+1:=⟨(bits s).length-1,by have:=List.length_pos_iff.2 hne; omega⟩
 obtain ⟨k,hk⟩:=hl
 rw [W,hk,Wf]
 congr 1
 refine List.map_congr_left fun i hi=>?_
 have hib:=(List.mem_filter.1 hi).1
 rw [W,← bits_erase (Vl.1 hib).1,List.length_erase_of_mem hib,hk]; rfl
theorem Wf_le (o:List Int) : ∀ k s,s<64→Wf o k s≤6 ^ k
 | 0,_,_=>Nat.le_refl _
 | k+1,s,hs=>by
   rw [Wf]
   have hlen:((bits s).filter (okLast o s)).length≤6:=by
    have h1:=List.length_filter_le (okLast o s) (bits s)
    have h2:(bits s).length≤6:=by
     rw [bits_range (n:=6) hs (by decide)]
     have:=List.length_filter_le (fun i=>s.testBit i) (List.range 6)
     rw [List.length_range] at this; exact this
    omega
   have key : ∀ l:List Nat,(l.map fun i=>Wf o k (Wx s (2 ^ i))).sum≤l.length*6 ^ k:=by
    intro l
    induction l with
    | nil=>simp
    | cons a l ih =>
      rw [List.map_cons,List.sum_cons,List.length_cons,Nat.succ_mul]
      have:=Wf_le o k (Wx s (2 ^ a)) (less_lt (n:=6) hs)
      omega
   have h1:=key ((bits s).filter (okLast o s))
   have h2:=Nat.mul_le_mul_right (6 ^ k) hlen
   rw [Nat.pow_succ]
   omega
theorem bits_len6 {s:Nat} (hs:s<64):(bits s).length≤6:=by
 rw [bits_range (n:=6) hs (by decide)]
 have:=List.length_filter_le (fun i=>s.testBit i) (List.range 6)
 rw [List.length_range] at this; exact this
theorem W_le {o:List Int} {s:Nat} (hs:s<64):W o s≤46656 :=
 Nat.le_trans (Wf_le o _ s hs) (Nat.pow_le_pow_right (n:=6) (by decide) (bits_len6 hs))
theorem Wf_cnt {o:List Int} (h:ord o=true) : ∀ k s,(bits s).length=k→(∀ i j,s.testBit j=true→ab o i j=true→s.testBit i=true)→s<64→Wf o k s=cnt (fun i j=>ab o j i) k (bits s)
 | 0,_,_,_,_=>rfl
 | k+1,s,hk,hd,hs=>by
   rw [Wf,cnt]
   have e:(bits s).filter (okLast o s)=Wi (fun i j=>ab o j i) (bits s):=by
    refine List.filter_congr fun i hi=>?_
    rw [okLast,Bool.eq_iff_iff,Bool.and_eq_true,decide_eq_true_eq,decide_eq_true_eq,List.all_eq_true]
    have h1:Wx (dn o i) s=0:=less_zero.2 fun j hj=>hd j i (Vl.1 hi).2 (by rwa [dn_bit' h] at hj)
    constructor
    · rintro ⟨-,h2⟩ j hj
      have:=congrArg (fun x=>x.testBit j) h2
      simp only [Nat.testBit_and,(Vl.1 hj).2,Bool.and_true,Nat.zero_testBit] at this
      show (!ab o i j)=true
      rw [ab,this]; rfl
    · intro H
      refine ⟨h1,?_⟩
      apply Nat.eq_of_testBit_eq
      intro j
      rw [Nat.testBit_and,Nat.zero_testBit]
      cases hj:s.testBit j with
      | false=>simp
      | true =>
        have hj64:j<64:=by
         rcases Nat.lt_or_ge j 64 with h | h
         · exact h
         · rw [Nat.testBit_lt_two_pow (Nat.lt_of_lt_of_le hs (Nat.pow_le_pow_right (n:=2) (i:=6) (by decide) (by omega)))] at hj; cases hj
        have:=H j (Vl.2 ⟨hj64,hj⟩)
        simp only [Bool.not_eq_true',ab] at this
        rw [this]; rfl
   rw [e]
   congr 1
   refine List.map_congr_left fun i hi=>?_
   obtain ⟨hib,hm⟩:=Ve.1 hi
   have hi64:=(Vl.1 hib).1
   rw [bits_erase hi64]
   refine Wf_cnt h k _ ?_ ?_ (less_lt (n:=6) hs)
   · rw [← bits_erase hi64,List.length_erase_of_mem hib]; omega
   · intro a b hb hab
     rw [Xz,Bool.and_eq_true,Nat.testBit_two_pow,Bool.not_eq_true',decide_eq_false_iff_not] at hb ⊢
     have ha:=hd a b hb.1 hab
     refine ⟨ha,fun he=>?_⟩
     subst he
     have hb64:b<64:=by have:=(ab_lt h hab).2; have:=Yz h; omega
     have:=hm b (Vl.2 ⟨hb64,hb.1⟩)
     rw [hab] at this; cases this
def cn (o:List Int):Nat:=cnt (ab o) o.length (List.range o.length)
theorem cn_len {o:List Int} (h:ord o=true):W o (2 ^ o.length-1)=cn o:=by
 have hlen:=Yz h
 have hp:=pow6 hlen.2
 have hb:=bits_all (n:=o.length) (by omega)
 rw [W,Wf_cnt h _ _ rfl ?_ (by omega),hb,cn]
 · have:=cnt_flip (ord_po h).irr (S:=List.range o.length) List.nodup_range
   rw [List.length_range] at this
   rw [List.length_range]; exact this
 · intro i j _ hij
   rw [Nat.testBit_two_pow_sub_one,decide_eq_true (ab_lt h hij).1]
theorem cn_le {o:List Int} (h:ord o=true):cn o≤46656:=by
 have:=pow6 (Yz h).2
 rw [← cn_len h]; exact W_le (by omega)
theorem cn_pos {o:List Int} (h:ord o=true):0<cn o:=cnt_pos (ord_po h) (by simp)
def Wp (o:List Int) (i j:Nat):List Int:=(List.range o.length).map fun k=>if k=i∨ab o k i=true then ((bt o k ||| (bt o j ||| 2 ^ j):Nat):Int) else o.getD k 0
theorem Xh {o:List Int} {i j:Nat}:(Wp o i j).length=o.length:=by simp [Wp]
theorem getD_map {f:Nat→Int} {n k:Nat}:((List.range n).map f).getD k 0=if k<n then f k else 0:=by
 by_cases hk:k<n <;> simp [List.getD,hk]
theorem addL_bt {o:List Int} {i j k:Nat}:bt (Wp o i j) k=if k<o.length∧(k=i∨ab o k i=true) then bt o k ||| (bt o j ||| 2 ^ j) else bt o k:=by
 by_cases hk:k<o.length
 · by_cases hc:k=i∨ab o k i=true
   · rw [if_pos ⟨hk,hc⟩,bt,Wp,getD_map,if_pos hk,if_pos hc,Int.toNat_natCast]
   · rw [if_neg (fun h=>hc h.2),bt,Wp,getD_map,if_pos hk,if_neg hc]; rfl
 · rw [if_neg (fun h=>hk h.1),bt_out (by rw [Xh]; omega),bt_out (by omega)]
theorem addL_ab {o:List Int} {i j:Nat} (hi:i<o.length) (h:ord o=true):ab (Wp o i j)=addR (ab o) i j:=by
 funext a b
 rw [ab,addL_bt,addR]
 by_cases hc:a=i∨ab o a i=true
 · have ha:a<o.length:=hc.elim (fun e=>e▸hi) fun h'=>(ab_lt h h').1
   rw [if_pos ⟨ha,hc⟩,Nat.testBit_or,Nat.testBit_or,Nat.testBit_two_pow]
   have:(a==i || ab o a i)=true:=by rcases hc with h | h <;> simp [h]
   rw [this,Bool.true_and]
   show (ab o a b || (ab o j b || _))=(ab o a b || ((b==j) || ab o j b))
   congr 1
   rw [Bool.or_comm]
   congr 1
   by_cases hbj:j=b
   · subst hbj; simp
   · simp [hbj,Ne.symm hbj]
 · rw [if_neg (fun h=>hc h.2)]
   have:(a==i || ab o a i)=false:=by
    cases e:(a==i || ab o a i) with
    | false=>rfl
    | true=>simp only [Bool.or_eq_true,beq_iff_eq] at e; exact absurd e hc
   rw [this,Bool.false_and,Bool.or_false]; rfl
theorem ord_of {o:List Int} (h1:1≤o.length∧o.length≤6) (hb : ∀ i,i<o.length→∃ s:Nat,o.getD i 0=(s:Int)∧s<2 ^ o.length) (hp:Po (ab o)):ord o=true:=by
 have hp6:=pow6 h1.2
 simp only [ord,Bool.and_eq_true,decide_eq_true_eq,List.all_eq_true,List.mem_range]
 refine ⟨h1,fun i hi=>?_⟩
 obtain ⟨s,hs,hl⟩:=hb i hi
 have e:((2 ^ o.length:Nat):Int)=2 ^ o.length:=by simp
 simp only [okO,Bool.and_eq_true,decide_eq_true_eq,List.all_eq_true,List.mem_range,Bool.not_eq_true']
 refine ⟨⟨⟨by omega,by rw [hs,← e]; exact Int.ofNat_lt.2 hl⟩,hp.irr i⟩,fun j hj=>?_⟩
 obtain ⟨t,ht,hl2⟩:=hb j hj
 cases hij:ab o i j with
 | false=>rfl
 | true =>
   rw [Bool.not_true,Bool.false_or,hs,ht,bitsV_andNot (by omega) (by omega)]
   have hz:Wx t s=0:=less_zero.2 fun k hk=>by
    have h2:ab o j k=true:=by rw [ab,bt,ht,Int.toNat_natCast]; exact hk
    have:=hp.tr i j k hij h2
    rwa [ab,bt,hs,Int.toNat_natCast] at this
   rw [hz]; rfl
theorem Xu {o:List Int} (h:ord o=true) {i j:Nat} (hi:i<o.length) (hj:j<o.length) (hn:i≠j) (hji:ab o j i=false):ord (Wp o i j)=true:=by
 refine ord_of (by rw [Xh]; exact Yz h) (fun k hk=>?_) (by rw [addL_ab hi h]; exact addR_po (ord_po h) hn hji)
 rw [Xh] at hk ⊢
 obtain ⟨e1,l1⟩:=ord_nat h hk
 obtain ⟨e2,l2⟩:=ord_nat h hj
 have e:(Wp o i j).getD k 0=if k=i∨ab o k i=true then ((bt o k ||| (bt o j ||| 2 ^ j):Nat):Int) else o.getD k 0:=by rw [Wp,getD_map,if_pos hk]
 rw [e]
 split
 · exact ⟨_,rfl,Nat.or_lt_two_pow l1 (Nat.or_lt_two_pow l2 (Nat.pow_lt_pow_right (by decide) hj))⟩
 · exact ⟨_,e1,l1⟩
def fr (o:List Int) (i j:Nat):Bool:=decide (i≠j) && !ab o i j && !ab o j i
def up (x j:Nat):Nat:=if j<x then j else j+1
def low (o:List Int) (x:Nat):Bool:=(List.range o.length).all fun i=>!ab o i x
end Ord
namespace Go.Proofs.Tryd.Am
open Go.Am Ord
set_option maxRecDepth 100000
set_option maxHeartbeats 1000000
def sixs (o:List Int):List Int:=o++List.replicate (6-o.length) 0
def Xt (o:List Int):List Value:=Zx o.length::(sixs o).map Zx
def ordV (o:List Int):Value:=.agg (Xt o).toArray
theorem sixs_len {o:List Int} (h:o.length≤6):(sixs o).length=6:=by simp [sixs]; omega
theorem Xo {o:List Int} (h:o.length≤6):(Xt o).length=7:=by simp [Xt,sixs_len h]
theorem ordC_0 {o:List Int}:(Xt o)[0]? = some (Zx o.length):=rfl
theorem ordC_get {o:List Int} (h:o.length≤6) {i:Nat} (hi:i<6):(Xt o)[1+i]? = some (Zx (o.getD i 0)):=by
 rw [Xt,Nat.add_comm,List.getElem?_cons_succ,List.getElem?_map,sixs,List.getElem?_append]
 by_cases hl:i<o.length
 · simp [hl,List.getD]
 · rw [if_neg hl,List.getElem?_replicate,if_pos (by omega)]
   simp [List.getD,List.getElem?_eq_none (show o.length≤i by omega)]
theorem ordC_set {o:List Int} {i:Nat} (hi:i<o.length) (x:Int):(Xt o).set (1+i) (Zx x)=Xt (o.set i x):=by
 rw [Xt,Nat.add_comm,List.set_cons_succ,Xt,sixs,sixs,List.length_set,List.map_append,List.set_append_left _ _ (by simpa using hi),List.map_append,List.map_set]
theorem ordC_one (o:List Int):(Xt o).all one=true:=by
 rw [List.all_eq_true]
 intro x hx
 rcases List.mem_cons.1 hx with rfl | hx
 · rfl
 · obtain ⟨y,-,rfl⟩:=List.mem_map.1 hx; rfl
theorem Low.ordV (o:List Int):Low (ordV o):=.agg fun x hx=>by
 rcases List.mem_cons.1 hx with rfl | hx
 · exact .int _ _
 · obtain ⟨y,-,rfl⟩:=List.mem_map.1 hx; exact .int _ _
section
variable {P:Program} {h:Yb} {t:TypeId} {o o' : List Int} {b n:Nat} {ro:Bool} {e:TypeId}
theorem boxO {K:Value→Yb→Prop} (hs:esz P t=some n):boxK P h t (ordV o) K=K (Xj h) (h++[.cells (Xt o) t false]):=by
 have e1:cellsOf (ordV o)=Xt o:=rfl
 simp only [boxK,ordV,hs,Option.isSome_some,true_and]
 rw [show cellsOf (.agg (Xt o).toArray)=Xt o from rfl]
theorem Xy {K:Value→Prop} (hb:h[b]? = some (.cells (Xt o) e ro)) (hs:shp P t=some (some 7)) (hl:o.length≤6):Xw P h t (.pointer (some ⟨b,0,none⟩)) K=K (ordV o) :=
 loadA hb (by rw [hs,Xo hl])
theorem loadN {K:Value→Prop} (hb:h[b]? = some (.cells (Xt o) e ro)) (hs:shp P t=some none):Xw P h t (.pointer (some ⟨b,0,none⟩)) K=K (Zx o.length):=loadC hb hs ordC_0
theorem loadI {K:Value→Prop} (hb:h[b]? = some (.cells (Xt o) e ro)) (hs:shp P t=some none) (hl:o.length≤6) {i:Nat} (hi:i<6):Xw P h t (.pointer (some ⟨b,1+i,none⟩)) K=K (Zx (o.getD i 0)):=loadC hb hs (ordC_get hl hi)
theorem storeN {K:Yb→Prop} (hb:h[b]? = some (.cells (Xt o) e false)) (hs:shp P t=some none) (hl:o.length≤6) {i:Nat} (hi:i<o.length) (x:Int) :
  Xv P h t (.pointer (some ⟨b,1+i,none⟩)) (Zx x) K=K (h.set b (.cells (Xt (o.set i x)) e false)):=by
 rw [storeC hb hs rfl (by rw [Xo hl]; omega),ordC_set hi]
theorem storeO {K:Yb→Prop} {c:List Value} (hb:h[b]? = some (.cells c e false)) (hc:c.length=7) (hs:shp P t=some (some 7)) (hl:o.length≤6):Xv P h t (.pointer (some ⟨b,0,none⟩)) (ordV o) K=K (h.set b (.cells (Xt o) e false)) :=
 storeA hb (by rw [hs,Xo hl]) (ordC_one o) (by rw [hc,Xo hl])
end
theorem shl1 {n:Nat} (h:n≤62):shlV .i64 1 n=2 ^ n:=by
 have h2:2 ^ n≤2 ^ 62:=Nat.pow_le_pow_right (by decide) h
 have:=shlV_nat (a:=1) (y:=n) (by omega) (by omega)
 simpa using this
theorem Vv (n:Nat):((2 ^ n:Nat):Int)=2 ^ n:=by simp
theorem testO {o:List Int} (h:ord o=true) {i:Nat} (hi:i<o.length) (j:Nat):Vn .and .i64 (shrV .i64 (o.getD i 0) j) 1=if ab o i j then 1 else 0:=by
 have hl:=Yz h
 have:=pow6 hl.2
 obtain ⟨h1,h2⟩:=ord_nat h hi
 rw [h1]
 exact testV (by omega)
theorem beq0 (b:Bool):((if b then (1:Int) else 0)==0) = !b:=by cases b <;> rfl
theorem all_call [Tabs prog] {h:Yb} {o:List Int} (hl:o.length≤6):APure prog 98 [ordV o] h (Zx ((2 ^ o.length-1:Nat):Int)):=by
 have hp:=pow6 hl
 have hs:subV .i64 (2 ^ o.length) 1=((2 ^ o.length-1:Nat):Int):=by rw [← Vv,subV_id (by omega) (by omega)]; omega
 refine ACall.forget (Low.int _ _) ?_
 refine s98_call (by simp) ?_
 simp (maxSteps:=2000000) only [s98,↓Za,↓Zi,↓Zr,↓Ze,↓Zj,↓Zs,↓Zg,↓Zo,↓Zf,↓Zb,↓Zc,↓vdn,vup,Zm,Zk,Zn,Zl,Zh,List.map_cons,List.map_nil,cond_true,cond_false,aop,Zv,Zq,Zp,ev,sput,Zt,Zy,Ya,unK,Zd,Zw,Nat.reduceBEq,Nat.reduceAdd,Int.reduceBEq,Int.reduceBNe,Int.reduceLT,Zu,Zz,tup,tyf,boxO esz_77,fldA fld_77_0 Xk,loadN (Yp _ _) Xd,shl1 (show o.length≤62 by omega),hs]
 exact Ext.app _ _ _
theorem element_call [Tabs prog] {h:Yb} {o:List Int} {i:Int}:APure prog 67 [ordV o,Zx i] h (.bool (decide (0≤i)&&decide (i<o.length))):=by
 refine ACall.forget (Low.bool _) ?_
 refine s67_call (by simp) ?_
 simp (maxSteps:=2000000) only [s67,↓Za,↓Zi,↓Zr,↓Ze,↓Zj,↓Zs,↓Zg,↓Zo,↓Zf,↓Zb,↓Zc,↓vdn,vup,Zm,Zk,Zn,Zl,Zh,List.map_cons,List.map_nil,cond_true,cond_false,aop,Zv,Zq,Zp,ev,sput,Zt,Zy,Ya,unK,Zd,Zw,Nat.reduceBEq,Nat.reduceAdd,Int.reduceBEq,Int.reduceBNe,Int.reduceLT,Zu,Zz,tup,tyf,boxO esz_77]
 by_cases h0:0≤i
 · simp (maxSteps:=2000000) only [s67,↓Za,↓Zi,↓Zr,↓Ze,↓Zj,↓Zs,↓Zg,↓Zo,↓Zf,↓Zb,↓Zc,↓vdn,vup,Zm,Zk,Zn,Zl,Zh,List.map_cons,List.map_nil,cond_true,cond_false,aop,Zv,Zq,Zp,ev,sput,Zt,Zy,Ya,unK,Zd,Zw,Nat.reduceBEq,Nat.reduceAdd,Int.reduceBEq,Int.reduceBNe,Int.reduceLT,Zu,Zz,tup,tyf,h0,ge_iff_le,fldA fld_77_0 Xk,loadN (Yp _ _) Xd,Bool.true_and]
   exact Ext.app _ _ _
 · simp (maxSteps:=2000000) only [s67,↓Za,↓Zi,↓Zr,↓Ze,↓Zj,↓Zs,↓Zg,↓Zo,↓Zf,↓Zb,↓Zc,↓vdn,vup,Zm,Zk,Zn,Zl,Zh,List.map_cons,List.map_nil,cond_true,cond_false,aop,Zv,Zq,Zp,ev,sput,Zt,Zy,Ya,unK,Zd,Zw,Nat.reduceBEq,Nat.reduceAdd,Int.reduceBEq,Int.reduceBNe,Int.reduceLT,Zu,Zz,tup,tyf,h0,ge_iff_le,Bool.false_and]
   exact Ext.app _ _ _
theorem free_call [Tabs prog] {h:Yb} {o:List Int} (ho:ord o=true) {i j:Nat} (hi:i<o.length) (hj:j<o.length):APure prog 68 [ordV o,Zx i,Zx j] h (.bool (fr o i j)):=by
 have hl:=Yz ho
 refine ACall.forget (Low.bool _) ?_
 refine s68_call (by simp) ?_
 simp (maxSteps:=2000000) only [s68,↓Za,↓Zi,↓Zr,↓Ze,↓Zj,↓Zs,↓Zg,↓Zo,↓Zf,↓Zb,↓Zc,↓vdn,vup,Zm,Zk,Zn,Zl,Zh,List.map_cons,List.map_nil,cond_true,cond_false,aop,Zv,Zq,Zp,ev,sput,Zt,Zy,Ya,unK,Zd,Zw,Nat.reduceBEq,Nat.reduceAdd,Int.reduceBEq,Int.reduceBNe,Int.reduceLT,Zu,Zz,tup,tyf,boxO esz_77]
 by_cases hij:i=j
 · have h1:((i:Int) != j)=false:=by simp [hij]
   have h2:fr o i j=false:=by simp [fr,hij]
   simp (maxSteps:=2000000) only [s68,↓Za,↓Zi,↓Zr,↓Ze,↓Zj,↓Zs,↓Zg,↓Zo,↓Zf,↓Zb,↓Zc,↓vdn,vup,Zm,Zk,Zn,Zl,Zh,List.map_cons,List.map_nil,cond_true,cond_false,aop,Zv,Zq,Zp,ev,sput,Zt,Zy,Ya,unK,Zd,Zw,Nat.reduceBEq,Nat.reduceAdd,Int.reduceBEq,Int.reduceBNe,Int.reduceLT,Zu,Zz,tup,tyf,h1,h2]
   exact Ext.app _ _ _
 · have h1:((i:Int) != j)=true:=by simp [bne]; omega
   have h2:fr o i j=(!ab o i j && !ab o j i):=by simp [fr,hij]
   simp (maxSteps:=2000000) only [s68,↓Za,↓Zi,↓Zr,↓Ze,↓Zj,↓Zs,↓Zg,↓Zo,↓Zf,↓Zb,↓Zc,↓vdn,vup,Zm,Zk,Zn,Zl,Zh,List.map_cons,List.map_nil,cond_true,cond_false,aop,Zv,Zq,Zp,ev,sput,Zt,Zy,Ya,unK,Zd,Zw,Nat.reduceBEq,Nat.reduceAdd,Int.reduceBEq,Int.reduceBNe,Int.reduceLT,Zu,Zz,tup,tyf,h1,h2,fldA Wz esz_75,idxA und_75 Xk (show i<6 by omega),loadI (Yp _ _) Xd hl.2 (show i<6 by omega),testO ho hi,beq0]
   cases hb:ab o i j with
   | true =>
     simp (maxSteps:=2000000) only [s68,↓Za,↓Zi,↓Zr,↓Ze,↓Zj,↓Zs,↓Zg,↓Zo,↓Zf,↓Zb,↓Zc,↓vdn,vup,Zm,Zk,Zn,Zl,Zh,List.map_cons,List.map_nil,cond_true,cond_false,aop,Zv,Zq,Zp,ev,sput,Zt,Zy,Ya,unK,Zd,Zw,Nat.reduceBEq,Nat.reduceAdd,Int.reduceBEq,Int.reduceBNe,Int.reduceLT,Zu,Zz,tup,tyf,Bool.false_and]
     exact Ext.app _ _ _
   | false =>
     simp (maxSteps:=2000000) only [s68,↓Za,↓Zi,↓Zr,↓Ze,↓Zj,↓Zs,↓Zg,↓Zo,↓Zf,↓Zb,↓Zc,↓vdn,vup,Zm,Zk,Zn,Zl,Zh,List.map_cons,List.map_nil,cond_true,cond_false,aop,Zv,Zq,Zp,ev,sput,Zt,Zy,Ya,unK,Zd,Zw,Nat.reduceBEq,Nat.reduceAdd,Int.reduceBEq,Int.reduceBNe,Int.reduceLT,Zu,Zz,tup,tyf,Bool.true_and,fldA Wz esz_75,idxA und_75 Xk (show j<6 by omega),loadI (Yp _ _) Xd hl.2 (show j<6 by omega),testO ho hj,beq0]
     exact Ext.app _ _ _
theorem elements_call [Tabs prog] {h:Yb} {s:Int}:ACall prog 101 [Zx s] h fun r h'=>r = .func (.func 114) #[] #[Xj h]∧h' = h++[.cells [Zx s] 3 false]:=by
 refine s101_call (by simp) ?_
 simp (maxSteps:=2000000) only [s101,↓Za,↓Zi,↓Zr,↓Ze,↓Zj,↓Zs,↓Zg,↓Zo,↓Zf,↓Zb,↓Zc,↓vdn,vup,Zm,Zk,Zn,Zl,Zh,List.map_cons,List.map_nil,cond_true,cond_false,aop,Zv,Zq,Zp,ev,sput,Zt,Zy,Ya,unK,Zd,Zw,Nat.reduceBEq,Nat.reduceAdd,Int.reduceBEq,Int.reduceBNe,Int.reduceLT,Zu,Zz,tup,tyf,boxK,cellsOf,Option.isSome_some,List.map_toArray]
def dnTo (o:List Int) (i:Nat):Nat→Nat
 | 0=>0
 | k+1=>dnTo o i k ||| (if ab o k i then 2 ^ k else 0)
theorem dnTo_all (o:List Int) (i:Nat):dnTo o i o.length=dn o i:=by
 have key : ∀ n,dnTo o i n=(List.range n).foldl (fun s j=>s ||| (if ab o j i then 2 ^ j else 0)) 0:=by
  intro n
  induction n with
  | zero=>rfl
  | succ n ih=>rw [dnTo,ih,List.range_succ,List.foldl_append]; rfl
 exact key _
theorem dnTo_lt (o:List Int) (i:Nat) : ∀ k,dnTo o i k<2 ^ k
 | 0=>by simp [dnTo]
 | k+1=>by
   have:=dnTo_lt o i k
   rw [dnTo]
   refine Nat.or_lt_two_pow (Nat.lt_of_lt_of_le this (Nat.pow_le_pow_right (by decide) (Nat.le_succ k))) ?_
   split
   · exact Nat.pow_lt_pow_right (by decide) (Nat.lt_succ_self k)
   · exact Nat.two_pow_pos _
theorem below_call [Tabs prog] {h:Yb} {o:List Int} (ho:ord o=true) {i:Nat}:APure prog 81 [ordV o,Zx i] h (Zx (dn o i:Nat)):=by
 have hl:=Yz ho
 refine ACall.forget (Low.int _ _) ?_
 refine s81_call (by simp) ?_
 simp (maxSteps:=2000000) only [s81,↓Za,↓Zi,↓Zr,↓Ze,↓Zj,↓Zs,↓Zg,↓Zo,↓Zf,↓Zb,↓Zc,↓vdn,vup,Zm,Zk,Zn,Zl,Zh,List.map_cons,List.map_nil,cond_true,cond_false,aop,Zv,Zq,Zp,ev,sput,Zt,Zy,Ya,unK,Zd,Zw,Nat.reduceBEq,Nat.reduceAdd,Int.reduceBEq,Int.reduceBNe,Int.reduceLT,Zu,Zz,tup,tyf,boxO esz_77,fldA fld_77_0 Xk,loadN (Yp _ _) Xd,↓aw_loop_eq]
 refine Xf fun Q hQ=>?_
 refine aw_loop (γ:=Nat) (fun k=>k≤o.length)
  (fun k=>([(0,ordV o),(1,Zx i),(2,Xj h),(4,.int .i64 0),(5,Zx (dnTo o i k:Nat)),(8,Zx o.length),(9,Zx k)],h++[.cells (Xt o) 77 false])) (fun k=>o.length-k) 0 (Nat.zero_le _) (by simp (maxSteps:=2000000) only [↓Za,↓Zi,↓Zr,↓Ze,↓Zj,↓Zs,↓Zg,↓Zo,↓Zf,↓Zb,↓Zc,↓vdn,vup,Zm,Zk,Zn,Zl,Zh,List.map_cons,List.map_nil,cond_true,cond_false,aop,Zv,Zq,Zp,ev,sput,Zt,Zy,Ya,unK,Zd,Zw,Nat.reduceBEq,Nat.reduceAdd,Int.reduceBEq,Int.reduceBNe,Int.reduceLT,Zu,Zz,tup,tyf,Int.natCast_zero,dnTo]) rfl ?_
 intro k hk
 refine aw_hide fun Q2 hQ2=>?_
 by_cases hin:(k:Int)<o.length
 · have hin' : k<o.length:=by omega
   have hdl:=dnTo_lt o i k
   have hpk:2 ^ k≤64:=Nat.pow_le_pow_right (n:=2) (j:=6) (by decide) (by omega)
   have hsh:shlV .i64 (if ab o k i=true then (1:Int) else 0) k=((if ab o k i then 2 ^ k else 0:Nat):Int):=by
    split
    · rw [shl1 (by omega),Vv]
    · have:=shlV_nat (a:=0) (y:=k) (by omega) (by omega)
      simpa using this
   have hor:Vn .or .i64 ((dnTo o i k:Nat):Int) ((if ab o k i then 2 ^ k else 0:Nat):Int)=((dnTo o i (k+1):Nat):Int):=by
    rw [dnTo]; exact bitsV_or (by omega) (by split <;> omega)
   simp (maxSteps:=2000000) only [s81,↓Za,↓Zi,↓Zr,↓Ze,↓Zj,↓Zs,↓Zg,↓Zo,↓Zf,↓Zb,↓Zc,↓vdn,vup,Zm,Zk,Zn,Zl,Zh,List.map_cons,List.map_nil,cond_true,cond_false,aop,Zv,Zq,Zp,ev,sput,Zt,Zy,Ya,unK,Zd,Zw,Nat.reduceBEq,Nat.reduceAdd,Int.reduceBEq,Int.reduceBNe,Int.reduceLT,Zu,Zz,tup,tyf,l81_0,hin,fldA Wz esz_75,idxA und_75 Xk (show k<6 by omega),loadI (Yp _ _) Xd hl.2 (show k<6 by omega),testO ho hin',hsh,hor,add1 (show k<9223372036854775807 by omega)]
   exact hQ2 _ _ _ ⟨k+1,by omega,by omega,by simp (maxSteps:=2000000) only [↓Za,↓Zi,↓Zr,↓Ze,↓Zj,↓Zs,↓Zg,↓Zo,↓Zf,↓Zb,↓Zc,↓vdn,vup,Zm,Zk,Zn,Zl,Zh,List.map_cons,List.map_nil,cond_true,cond_false,aop,Zv,Zq,Zp,ev,sput,Zt,Zy,Ya,unK,Zd,Zw,Nat.reduceBEq,Nat.reduceAdd,Int.reduceBEq,Int.reduceBNe,Int.reduceLT,Zu,Zz,tup,tyf],rfl⟩
 · obtain rfl:k=o.length:=by omega
   simp (maxSteps:=2000000) only [s81,↓Za,↓Zi,↓Zr,↓Ze,↓Zj,↓Zs,↓Zg,↓Zo,↓Zf,↓Zb,↓Zc,↓vdn,vup,Zm,Zk,Zn,Zl,Zh,List.map_cons,List.map_nil,cond_true,cond_false,aop,Zv,Zq,Zp,ev,sput,Zt,Zy,Ya,unK,Zd,Zw,Nat.reduceBEq,Nat.reduceAdd,Int.reduceBEq,Int.reduceBNe,Int.reduceLT,Zu,Zz,tup,tyf,l81_0,Int.lt_irrefl]
   refine hQ2 _ _ _ (hQ _ _ _ ?_)
   simp (maxSteps:=2000000) only [s81,↓Za,↓Zi,↓Zr,↓Ze,↓Zj,↓Zs,↓Zg,↓Zo,↓Zf,↓Zb,↓Zc,↓vdn,vup,Zm,Zk,Zn,Zl,Zh,List.map_cons,List.map_nil,cond_true,cond_false,aop,Zv,Zq,Zp,ev,sput,Zt,Zy,Ya,unK,Zd,Zw,Nat.reduceBEq,Nat.reduceAdd,Int.reduceBEq,Int.reduceBNe,Int.reduceLT,Zu,Zz,tup,tyf,if_true,dnTo_all]
   exact Ext.app _ _ _
end Go.Proofs.Tryd.Am
namespace Go.Proofs.Tryd
open Go.RowKit Go.Am
set_option maxHeartbeats 1000000 in
theorem tz64_core (x k idx:Nat) (w:World) (hx0:((x:Int)==0)=false)
  (key:IntKind.u64.wrap (bits BinOp.and IntKind.u64 (x:Int) (IntKind.u64.wrap (-(x:Int)))*285870213051353865) / 288230376151711744=(idx:Int))
  (hi:idx<64) (hk:k<64) (hcell:w.cell? ⟨1,idx,none⟩=some (.int .u8 k)) :
  Calls prog 133 #[.int .u64 x] w fun e w'=>e = .returned (.int .i64 k)∧w' = w:=by
 go_enter func133,ntmps133
 go_wp2_with (simp only [key])
 go_ret
 exact ⟨rfl,rfl⟩
theorem tz64_zero (w:World):Calls prog 133 #[.int .u64 0] w fun e w'=>e = .returned (.int .i64 64)∧w' = w:=by
 go_enter func133,ntmps133
 go_wp2
 go_ret
 exact ⟨rfl,rfl⟩
theorem tz64 (x:Nat) (hx:x<18446744073709551616) (w:World) (hT:x≠0→TabAt 1 Lib.deBruijn64tab w) :
  Calls prog 133 #[.int .u64 x] w fun e w'=>e = .returned (.int .i64 (Lib.ctz 64 x))∧w' = w:=by
 by_cases hx0:x=0
 · subst hx0; exact tz64_zero w
 · obtain ⟨hlow,hk⟩:=Lib.lowest_bit 64 x hx0 hx
   obtain ⟨hi,htab⟩:=Lib.deBruijn64_at _ hk
   have hcell:=hT hx0 _ hi
   rw [htab] at hcell
   exact tz64_core x _ _ w (by simp; omega) (tz64_key x _ hx hx0 hlow) hi hk hcell
theorem tz (x:Nat) (hx:x<18446744073709551616) (w:World) (hT:x≠0→TabAt 1 Lib.deBruijn64tab w) :
  Calls prog 115 #[.int .u64 x] w fun e w'=>e = .returned (.int .i64 (Lib.ctz 64 x))∧w' = w:=by
 have c64:=tz64 x hx w hT
 have e29 : ∀ args w,(callFunc 133 args).run prog w = .ok (.enter 133 args) w:=enters_of func133 (by kernel_rfl) rfl
 have hw:IntKind.u64.wrap (x:Int)=(x:Int):=by rw [IntKind.wrap_u64]; omega
 go_enter func115,ntmps115
 go_wp2_with (go_at_fn 133; refine c64.mono ?_; rintro e w' ⟨rfl,hw'⟩; rw [hw'])
 go_ret
 exact ⟨rfl,rfl⟩
theorem and_pred_lt (s:Nat) (h:s≠0):s &&& (s-1)<s:=Nat.lt_of_le_of_lt Nat.and_le_right (by omega)
def boxLeft (B:Nat) (w:World):Nat:=match w.cell? ⟨B,0,none⟩ with | some (.int _ n)=>n.toNat | _=>0
theorem boxLeft_eq {B s:Nat} {w:World} (h:w.cell? ⟨B,0,none⟩=some (.int .i64 s)):boxLeft B w=s:=by simp [boxLeft,h]
attribute [local go_sem] Oper.semAt_some
set_option maxRecDepth 100000 in
set_option maxHeartbeats 2000000 in
theorem elements1 (l B s:Nat) (J Jx:List Nat→World→Prop) (W:World) (hs:s<9223372036854775808) (hB:W.cell? ⟨B,0,none⟩=some (.int .i64 s)) (hfz:W.frozen? ⟨B,0,none⟩=false)
  (hT : ∀ pre W,J pre W→TabAt 1 Lib.deBruijn64tab W)
  (hst : ∀ pre W v,J pre W→J pre (W.setCell ⟨B,0,none⟩ v))
  (hY : ∀ pre (x:Nat) W,J pre W→pre++[x] <+: Am.bits s→YieldAt Fence.wide 0 prog l #[.int .i64 x] W fun en W' =>
   (en = .returned (.bool true)∧J (pre++[x]) W'∧W'.cell? ⟨B,0,none⟩=W.cell? ⟨B,0,none⟩∧W'.frozen? ⟨B,0,none⟩=W.frozen? ⟨B,0,none⟩)∨(en = .returned (.bool false)∧Jx (pre++[x]) W'))
  (h0:J [] W) :
  CallsIn Fence.wide 1 prog 114 #[.func (.yield l) #[] #[],.pointer (some ⟨B,0,none⟩)] W fun en W'=>(∃ v,en = .returned v)∧(J (Am.bits s) W'∨∃ pre,Jx pre W'):=by
 refine callsIn_of_wp func114 rfl trivial ?_ rfl
 simp only [ntmps114,List.size_toArray,List.length_cons,List.length_nil,Nat.reduceAdd,Nat.reduceSub,Array.replicate_succ,Array.replicate_zero,List.push_toArray,List.append_toArray,List.nil_append,List.cons_append]
 have e115 : ∀ args w,(callFunc 115 args).run prog w = .ok (.enter 115 args) w:=enters_of func115 (by kernel_rfl) rfl
 gi_wp2
 gi_loopw [3] (fun _ wr=>∃ (pre:List Nat) (t:Nat),t<9223372036854775808∧Am.bits s=pre++Am.bits t∧wr.cell? ⟨B,0,none⟩=some (.int .i64 t)∧wr.frozen? ⟨B,0,none⟩=false∧J pre wr)
  (fun _ wr=>boxLeft B wr)
 case atStart=>exact ⟨[],s,hs,rfl,hB,hfz,h0⟩
 case round =>
  obtain ⟨pre,t,ht,hx,hc,hf,hJ⟩:=hrel
  by_cases ht0:t=0
  · subst ht0
    gi_wp2
    go_end0
    exact ⟨⟨_,rfl⟩,.inl (by rw [hx,show Am.bits 0=[] from rfl,List.append_nil]; exact hJ)⟩
  · have hw:IntKind.u64.wrap (t:Int)=(t:Int):=by rw [IntKind.wrap_u64]; omega
    have htz:=tz t (by omega) wr (fun _=>hT _ _ hJ)
    have hy:=hY pre (Lib.ctz 64 t) wr hJ (by rw [hx,Am.bits_step t ht ht0]; simp)
    have hne:((t:Int)==0)=false:=by simpa using ht0
    have htz' : CallsIn Fence.wide 0 prog 115 #[.int .u64 t] wr fun e w'=>e = .returned (.int .i64 (Lib.ctz 64 t))∧w' = wr:=callsIn_wide.2 htz
    obtain ⟨fn,tmps,assign,body,hy1,hR⟩:=hy
    gi_wp2
    refine ⟨trivial,htz'.mono ?_⟩
    rintro e w2 ⟨rfl,rfl⟩
    gi_wp2
    refine hR.mono ?_
    rintro e W3 (⟨rfl,hJ3,hc3,hf3⟩ | ⟨rfl,hJx3⟩)
    · rw [hc] at hc3
      rw [hf] at hf3
      gi_wp2
      have hand:bits BinOp.and IntKind.i64 (t:Int) ((t:Int)-1)=((t &&& (t-1):Nat):Int):=by
       have:=bitsV_and (a:=t) (b:=t-1) ht (by omega)
       rw [← this,show ((t-1:Nat):Int)=(t:Int)-1 by omega]; rfl
      have hlt:=and_pred_lt t ht0
      rw [hand]
      have hcell:(W3.setCell ⟨B,0,none⟩ (.int .i64 ((t &&& (t-1):Nat):Int))).cell? ⟨B,0,none⟩=some (.int .i64 ((t &&& (t-1):Nat):Int)):=World.cell?_setCell_same' _ _ _ (by rw [hc3]; rfl)
      refine ⟨⟨_,_,_,_,_,_,_,_,_,_,_,_,⟨pre++[Lib.ctz 64 t],t &&& (t-1),by omega,by rw [hx,Am.bits_step t ht ht0]; simp,hcell,by rw [World.frozen?_setCell]; exact hf3,hst _ _ _ hJ3⟩,rfl⟩,?_⟩
      rw [boxLeft_eq hcell,boxLeft_eq hc]
      exact hlt
    · gi_wp2
      refine bodyPost_ret (results_none rfl _ _ _) rfl ?_
      exact ⟨⟨_,rfl⟩,.inr ⟨_,hJx3⟩⟩
theorem tabAt_of [T:BitTab prog 1] {w:World} (h : ∀ p∈Tabs.tabs prog,w.heap[p.1]? = some p.2):TabAt 1 Lib.deBruijn64tab w:=by
 intro j hj
 have:=h (1,_) (by rw [T.eq]; exact List.mem_singleton.2 rfl)
 simp only [World.cell?,this]
 simp [hj]
theorem bitIter [BitTab prog 1]:BitIter prog 114:=by
 refine ⟨enters_of func114 (by kernel_rfl) rfl,?_⟩
 intro r l B s J Jx W hs hB hfz hT hst hY h0
 cases r with
 | none=>exact elements1 l B s J Jx W hs hB hfz (fun pre W hJ=>tabAt_of (hT pre W hJ)) hst hY h0
 | some l0=>exact CallsIn.inRound l0 (elements1 l B s J Jx W hs hB hfz (fun pre W hJ=>tabAt_of (hT pre W hJ)) hst hY h0)
#print axioms bitIter
end Go.Proofs.Tryd
namespace Go.Proofs.Tryd.Am
open Go.Am Ord
set_option maxRecDepth 100000
set_option maxHeartbeats 1000000
theorem testA {o:List Int} {i:Nat} (h0:0≤o.getD i 0) (h1:o.getD i 0<9223372036854775808) (j:Nat):Vn .and .i64 (shrV .i64 (o.getD i 0) j) 1=if ab o i j then 1 else 0:=by
 have:=testV (a:=bt o i) (y:=j) (by unfold bt; omega)
 rw [show ((bt o i:Nat):Int)=o.getD i 0 from Int.toNat_of_nonneg h0] at this
 exact this
theorem pow6I {n:Nat} (h:n≤6):(2:Int) ^ n≤64∧0<(2:Int) ^ n:=by
 have:=pow6 h
 rw [← Vv]; omega
theorem rorder_call [Tabs prog] {h:Yb} {v:Value} {o:List Int} (hv:IntSl h v o) (hl:o.length<9223372036854775808) (hx : ∀ x∈o,-9223372036854775808≤x∧x<9223372036854775808):APure prog 19 [v] h (.bool (ord o)):=by
 refine s19_call (by simp) ?_
 simp (maxSteps:=2000000) only [s19,↓Za,↓Zi,↓Zr,↓Ze,↓Zj,↓Zs,↓Zg,↓Zo,↓Zf,↓Zb,↓Zc,↓vdn,vup,Zm,Zk,Zn,Zl,Zh,List.map_cons,List.map_nil,cond_true,cond_false,aop,Zv,Zq,Zp,ev,sput,Zt,Zy,Ya,unK,Zd,Zw,Nat.reduceBEq,Nat.reduceAdd,Int.reduceBEq,Int.reduceBNe,Int.reduceLT,Zu,Zz,tup,tyf,hv.len]
 by_cases h1:(o.length:Int)<1
 · have ht:ord o=false:=by simp [ord]; omega
   simp (maxSteps:=2000000) only [s19,↓Za,↓Zi,↓Zr,↓Ze,↓Zj,↓Zs,↓Zg,↓Zo,↓Zf,↓Zb,↓Zc,↓vdn,vup,Zm,Zk,Zn,Zl,Zh,List.map_cons,List.map_nil,cond_true,cond_false,aop,Zv,Zq,Zp,ev,sput,Zt,Zy,Ya,unK,Zd,Zw,Nat.reduceBEq,Nat.reduceAdd,Int.reduceBEq,Int.reduceBNe,Int.reduceLT,Zu,Zz,tup,tyf,h1,ht]
 by_cases h8:(6:Int)<o.length
 · have ht:ord o=false:=by simp [ord]; omega
   simp (maxSteps:=2000000) only [s19,↓Za,↓Zi,↓Zr,↓Ze,↓Zj,↓Zs,↓Zg,↓Zo,↓Zf,↓Zb,↓Zc,↓vdn,vup,Zm,Zk,Zn,Zl,Zh,List.map_cons,List.map_nil,cond_true,cond_false,aop,Zv,Zq,Zp,ev,sput,Zt,Zy,Ya,unK,Zd,Zw,Nat.reduceBEq,Nat.reduceAdd,Int.reduceBEq,Int.reduceBNe,Int.reduceLT,Zu,Zz,tup,tyf,h1,hv.len,gt_iff_lt,h8,ht]
 have hp:=pow6I (n:=o.length) (by omega)
 simp (maxSteps:=2000000) only [s19,↓Za,↓Zi,↓Zr,↓Ze,↓Zj,↓Zs,↓Zg,↓Zo,↓Zf,↓Zb,↓Zc,↓vdn,vup,Zm,Zk,Zn,Zl,Zh,List.map_cons,List.map_nil,cond_true,cond_false,aop,Zv,Zq,Zp,ev,sput,Zt,Zy,Ya,unK,Zd,Zw,Nat.reduceBEq,Nat.reduceAdd,Int.reduceBEq,Int.reduceBNe,Int.reduceLT,Zu,Zz,tup,tyf,h1,gt_iff_lt,h8,hv.len,↓aw_loop_eq]
 refine Xf fun Q hQ=>?_
 refine aw_loop (γ:=Nat) (fun i=>i≤o.length∧∀ k,k<i→okO o k=true)
  (fun i=>([(0,v),(2,.bool false),(14,v),(15,Zx o.length),(16,Zx i)],h)) (fun i=>o.length-i) 0 ⟨by omega,fun _ hk=>by omega⟩ (by simp (maxSteps:=2000000) only [↓Za,↓Zi,↓Zr,↓Ze,↓Zj,↓Zs,↓Zg,↓Zo,↓Zf,↓Zb,↓Zc,↓vdn,vup,Zm,Zk,Zn,Zl,Zh,List.map_cons,List.map_nil,cond_true,cond_false,aop,Zv,Zq,Zp,ev,sput,Zt,Zy,Ya,unK,Zd,Zw,Nat.reduceBEq,Nat.reduceAdd,Int.reduceBEq,Int.reduceBNe,Int.reduceLT,Zu,Zz,tup,tyf,Int.natCast_zero]) rfl ?_
 rintro i ⟨hi,hok⟩
 refine aw_hide fun Q2 hQ2=>?_
 by_cases hin:(i:Int)<o.length
 · have hin' : i<o.length:=by omega
   have hbad:okO o i=false→ord o=false:=fun hb=>by
    have:(List.range o.length).all (okO o)=false:=by
     rw [List.all_eq_false]; exact ⟨i,by simpa using hin',by simp [hb]⟩
    simp [ord,this]
   obtain ⟨hx1,hx2⟩:=hx (o.getD i 0) (by rw [List.getD,List.getElem?_eq_getElem hin']; exact List.getElem_mem hin')
   simp (maxSteps:=2000000) only [s19,↓Za,↓Zi,↓Zr,↓Ze,↓Zj,↓Zs,↓Zg,↓Zo,↓Zf,↓Zb,↓Zc,↓vdn,vup,Zm,Zk,Zn,Zl,Zh,List.map_cons,List.map_nil,cond_true,cond_false,aop,Zv,Zq,Zp,ev,sput,Zt,Zy,Ya,unK,Zd,Zw,Nat.reduceBEq,Nat.reduceAdd,Int.reduceBEq,Int.reduceBNe,Int.reduceLT,Zu,Zz,tup,tyf,l19_1,hin,hv.idx el_22 Xk hin',hv.load Xd hin']
   by_cases hneg:o.getD i 0<0
   · have hb:=hbad (by rw [okO,decide_eq_false (show ¬ 0≤o.getD i 0 by omega)]; rfl)
     simp (maxSteps:=2000000) only [s19,↓Za,↓Zi,↓Zr,↓Ze,↓Zj,↓Zs,↓Zg,↓Zo,↓Zf,↓Zb,↓Zc,↓vdn,vup,Zm,Zk,Zn,Zl,Zh,List.map_cons,List.map_nil,cond_true,cond_false,aop,Zv,Zq,Zp,ev,sput,Zt,Zy,Ya,unK,Zd,Zw,Nat.reduceBEq,Nat.reduceAdd,Int.reduceBEq,Int.reduceBNe,Int.reduceLT,Zu,Zz,tup,tyf,hneg]
     refine hQ2 _ _ _ (hQ _ _ _ ?_)
     simp (maxSteps:=2000000) only [↓Za,↓Zi,↓Zr,↓Ze,↓Zj,↓Zs,↓Zg,↓Zo,↓Zf,↓Zb,↓Zc,↓vdn,vup,Zm,Zk,Zn,Zl,Zh,List.map_cons,List.map_nil,cond_true,cond_false,aop,Zv,Zq,Zp,ev,sput,Zt,Zy,Ya,unK,Zd,Zw,Nat.reduceBEq,Nat.reduceAdd,Int.reduceBEq,Int.reduceBNe,Int.reduceLT,Zu,Zz,tup,tyf,hb]
   simp (maxSteps:=2000000) only [s19,↓Za,↓Zi,↓Zr,↓Ze,↓Zj,↓Zs,↓Zg,↓Zo,↓Zf,↓Zb,↓Zc,↓vdn,vup,Zm,Zk,Zn,Zl,Zh,List.map_cons,List.map_nil,cond_true,cond_false,aop,Zv,Zq,Zp,ev,sput,Zt,Zy,Ya,unK,Zd,Zw,Nat.reduceBEq,Nat.reduceAdd,Int.reduceBEq,Int.reduceBNe,Int.reduceLT,Zu,Zz,tup,tyf,hneg,hv.len,shl1 (show o.length≤62 by omega),Int.natCast_nonneg,ge_iff_le]
   by_cases hbig:2 ^ o.length≤o.getD i 0
   · have hb:=hbad (by rw [okO,decide_eq_false (show ¬ o.getD i 0<2 ^ o.length from Int.not_lt.2 hbig),Bool.and_false]; rfl)
     simp (maxSteps:=2000000) only [s19,↓Za,↓Zi,↓Zr,↓Ze,↓Zj,↓Zs,↓Zg,↓Zo,↓Zf,↓Zb,↓Zc,↓vdn,vup,Zm,Zk,Zn,Zl,Zh,List.map_cons,List.map_nil,cond_true,cond_false,aop,Zv,Zq,Zp,ev,sput,Zt,Zy,Ya,unK,Zd,Zw,Nat.reduceBEq,Nat.reduceAdd,Int.reduceBEq,Int.reduceBNe,Int.reduceLT,Zu,Zz,tup,tyf,hbig]
     refine hQ2 _ _ _ (hQ _ _ _ ?_)
     simp (maxSteps:=2000000) only [↓Za,↓Zi,↓Zr,↓Ze,↓Zj,↓Zs,↓Zg,↓Zo,↓Zf,↓Zb,↓Zc,↓vdn,vup,Zm,Zk,Zn,Zl,Zh,List.map_cons,List.map_nil,cond_true,cond_false,aop,Zv,Zq,Zp,ev,sput,Zt,Zy,Ya,unK,Zd,Zw,Nat.reduceBEq,Nat.reduceAdd,Int.reduceBEq,Int.reduceBNe,Int.reduceLT,Zu,Zz,tup,tyf,hb]
   have hs0:0≤o.getD i 0:=by omega
   have hs1:o.getD i 0<9223372036854775808:=by omega
   by_cases hbit:ab o i i=true
   · have hb:=hbad (by rw [okO,hbit,Bool.not_true,Bool.and_false]; rfl)
     simp (maxSteps:=2000000) only [s19,↓Za,↓Zi,↓Zr,↓Ze,↓Zj,↓Zs,↓Zg,↓Zo,↓Zf,↓Zb,↓Zc,↓vdn,vup,Zm,Zk,Zn,Zl,Zh,List.map_cons,List.map_nil,cond_true,cond_false,aop,Zv,Zq,Zp,ev,sput,Zt,Zy,Ya,unK,Zd,Zw,Nat.reduceBEq,Nat.reduceAdd,Int.reduceBEq,Int.reduceBNe,Int.reduceLT,Zu,Zz,tup,tyf,hbig,Int.natCast_nonneg,testA hs0 hs1,hbit,if_true,Int.reduceBEq]
     refine hQ2 _ _ _ (hQ _ _ _ ?_)
     simp (maxSteps:=2000000) only [↓Za,↓Zi,↓Zr,↓Ze,↓Zj,↓Zs,↓Zg,↓Zo,↓Zf,↓Zb,↓Zc,↓vdn,vup,Zm,Zk,Zn,Zl,Zh,List.map_cons,List.map_nil,cond_true,cond_false,aop,Zv,Zq,Zp,ev,sput,Zt,Zy,Ya,unK,Zd,Zw,Nat.reduceBEq,Nat.reduceAdd,Int.reduceBEq,Int.reduceBNe,Int.reduceLT,Zu,Zz,tup,tyf,hb]
   simp only [Bool.not_eq_true] at hbit
   simp (maxSteps:=2000000) only [s19,↓Za,↓Zi,↓Zr,↓Ze,↓Zj,↓Zs,↓Zg,↓Zo,↓Zf,↓Zb,↓Zc,↓vdn,vup,Zm,Zk,Zn,Zl,Zh,List.map_cons,List.map_nil,cond_true,cond_false,aop,Zv,Zq,Zp,ev,sput,Zt,Zy,Ya,unK,Zd,Zw,Nat.reduceBEq,Nat.reduceAdd,Int.reduceBEq,Int.reduceBNe,Int.reduceLT,Zu,Zz,tup,tyf,hbig,Int.natCast_nonneg,testA hs0 hs1,hbit,if_false,Bool.false_eq_true,Int.reduceBEq,hv.len,↓aw_loop_eq]
   refine Xf fun Q3 hQ3=>?_
   refine aw_loop (γ:=Nat) (fun j=>j≤o.length∧∀ k,k<j→(!ab o i k || (Vn .andNot .i64 (o.getD k 0) (o.getD i 0)==0))=true)
    (fun j=>([(0,v),(2,.bool false),(3,Zx i),(4,Zx (o.getD i 0)),(14,v),(15,Zx o.length),(16,Zx i),(38,Zx o.length),(39,Zx j)],h)) (fun j=>o.length-j) 0 ⟨by omega,fun _ hk=>by omega⟩ (by simp (maxSteps:=2000000) only [↓Za,↓Zi,↓Zr,↓Ze,↓Zj,↓Zs,↓Zg,↓Zo,↓Zf,↓Zb,↓Zc,↓vdn,vup,Zm,Zk,Zn,Zl,Zh,List.map_cons,List.map_nil,cond_true,cond_false,aop,Zv,Zq,Zp,ev,sput,Zt,Zy,Ya,unK,Zd,Zw,Nat.reduceBEq,Nat.reduceAdd,Int.reduceBEq,Int.reduceBNe,Int.reduceLT,Zu,Zz,tup,tyf,Int.natCast_zero]) rfl ?_
   rintro j ⟨hj,hokj⟩
   refine aw_hide fun Q4 hQ4=>?_
   by_cases hjn:(j:Int)<o.length
   · have hjn' : j<o.length:=by omega
     cases hbj:ab o i j with
     | false =>
       simp (maxSteps:=2000000) only [s19,↓Za,↓Zi,↓Zr,↓Ze,↓Zj,↓Zs,↓Zg,↓Zo,↓Zf,↓Zb,↓Zc,↓vdn,vup,Zm,Zk,Zn,Zl,Zh,List.map_cons,List.map_nil,cond_true,cond_false,aop,Zv,Zq,Zp,ev,sput,Zt,Zy,Ya,unK,Zd,Zw,Nat.reduceBEq,Nat.reduceAdd,Int.reduceBEq,Int.reduceBNe,Int.reduceLT,Zu,Zz,tup,tyf,l19_0,hjn,Int.natCast_nonneg,testA hs0 hs1,hbj,if_false,Bool.false_eq_true,Int.reduceBEq,add1 (show j<9223372036854775807 by omega)]
       refine hQ4 _ _ _ ⟨j+1,⟨by omega,fun k hk=>?_⟩,by omega,by simp (maxSteps:=2000000) only [↓Za,↓Zi,↓Zr,↓Ze,↓Zj,↓Zs,↓Zg,↓Zo,↓Zf,↓Zb,↓Zc,↓vdn,vup,Zm,Zk,Zn,Zl,Zh,List.map_cons,List.map_nil,cond_true,cond_false,aop,Zv,Zq,Zp,ev,sput,Zt,Zy,Ya,unK,Zd,Zw,Nat.reduceBEq,Nat.reduceAdd,Int.reduceBEq,Int.reduceBNe,Int.reduceLT,Zu,Zz,tup,tyf],rfl⟩
       by_cases hkj:k=j
       · subst hkj; rw [hbj]; rfl
       · exact hokj k (by omega)
     | true =>
       cases hlz:(Vn .andNot .i64 (o.getD j 0) (o.getD i 0)==0) with
       | true =>
         have hlz' : (Vn .andNot .i64 (o.getD j 0) (o.getD i 0) != 0)=false:=by rw [bne,hlz]; rfl
         simp (maxSteps:=2000000) only [s19,↓Za,↓Zi,↓Zr,↓Ze,↓Zj,↓Zs,↓Zg,↓Zo,↓Zf,↓Zb,↓Zc,↓vdn,vup,Zm,Zk,Zn,Zl,Zh,List.map_cons,List.map_nil,cond_true,cond_false,aop,Zv,Zq,Zp,ev,sput,Zt,Zy,Ya,unK,Zd,Zw,Nat.reduceBEq,Nat.reduceAdd,Int.reduceBEq,Int.reduceBNe,Int.reduceLT,Zu,Zz,tup,tyf,l19_0,hjn,Int.natCast_nonneg,testA hs0 hs1,hbj,if_true,Int.reduceBEq,hv.idx el_22 Xk hjn',hv.load Xd hjn',hlz',add1 (show j<9223372036854775807 by omega)]
         refine hQ4 _ _ _ ⟨j+1,⟨by omega,fun k hk=>?_⟩,by omega,by simp (maxSteps:=2000000) only [↓Za,↓Zi,↓Zr,↓Ze,↓Zj,↓Zs,↓Zg,↓Zo,↓Zf,↓Zb,↓Zc,↓vdn,vup,Zm,Zk,Zn,Zl,Zh,List.map_cons,List.map_nil,cond_true,cond_false,aop,Zv,Zq,Zp,ev,sput,Zt,Zy,Ya,unK,Zd,Zw,Nat.reduceBEq,Nat.reduceAdd,Int.reduceBEq,Int.reduceBNe,Int.reduceLT,Zu,Zz,tup,tyf],rfl⟩
         by_cases hkj:k=j
         · subst hkj; rw [hlz,Bool.or_true]
         · exact hokj k (by omega)
       | false =>
         have hlz' : (Vn .andNot .i64 (o.getD j 0) (o.getD i 0) != 0)=true:=by rw [bne,hlz]; rfl
         have hb:=hbad (by
          have:((List.range o.length).all fun j=>!ab o i j || (Vn .andNot .i64 (o.getD j 0) (o.getD i 0)==0))=false:=by
           rw [List.all_eq_false]; exact ⟨j,List.mem_range.2 hjn',by rw [hbj,hlz]; decide⟩
          rw [okO,this,Bool.and_false])
         simp (maxSteps:=2000000) only [s19,↓Za,↓Zi,↓Zr,↓Ze,↓Zj,↓Zs,↓Zg,↓Zo,↓Zf,↓Zb,↓Zc,↓vdn,vup,Zm,Zk,Zn,Zl,Zh,List.map_cons,List.map_nil,cond_true,cond_false,aop,Zv,Zq,Zp,ev,sput,Zt,Zy,Ya,unK,Zd,Zw,Nat.reduceBEq,Nat.reduceAdd,Int.reduceBEq,Int.reduceBNe,Int.reduceLT,Zu,Zz,tup,tyf,l19_0,hjn,Int.natCast_nonneg,testA hs0 hs1,hbj,if_true,Int.reduceBEq,hv.idx el_22 Xk hjn',hv.load Xd hjn',hlz']
         refine hQ4 _ _ _ (hQ3 _ _ _ ?_)
         simp (maxSteps:=2000000) only [s19,↓Za,↓Zi,↓Zr,↓Ze,↓Zj,↓Zs,↓Zg,↓Zo,↓Zf,↓Zb,↓Zc,↓vdn,vup,Zm,Zk,Zn,Zl,Zh,List.map_cons,List.map_nil,cond_true,cond_false,aop,Zv,Zq,Zp,ev,sput,Zt,Zy,Ya,unK,Zd,Zw,Nat.reduceBEq,Nat.reduceAdd,Int.reduceBEq,Int.reduceBNe,Int.reduceLT,Zu,Zz,tup,tyf]
         refine hQ2 _ _ _ (hQ _ _ _ ?_)
         simp (maxSteps:=2000000) only [↓Za,↓Zi,↓Zr,↓Ze,↓Zj,↓Zs,↓Zg,↓Zo,↓Zf,↓Zb,↓Zc,↓vdn,vup,Zm,Zk,Zn,Zl,Zh,List.map_cons,List.map_nil,cond_true,cond_false,aop,Zv,Zq,Zp,ev,sput,Zt,Zy,Ya,unK,Zd,Zw,Nat.reduceBEq,Nat.reduceAdd,Int.reduceBEq,Int.reduceBNe,Int.reduceLT,Zu,Zz,tup,tyf,hb]
   · obtain rfl:j=o.length:=by omega
     simp (maxSteps:=2000000) only [s19,↓Za,↓Zi,↓Zr,↓Ze,↓Zj,↓Zs,↓Zg,↓Zo,↓Zf,↓Zb,↓Zc,↓vdn,vup,Zm,Zk,Zn,Zl,Zh,List.map_cons,List.map_nil,cond_true,cond_false,aop,Zv,Zq,Zp,ev,sput,Zt,Zy,Ya,unK,Zd,Zw,Nat.reduceBEq,Nat.reduceAdd,Int.reduceBEq,Int.reduceBNe,Int.reduceLT,Zu,Zz,tup,tyf,l19_0,Int.lt_irrefl]
     refine hQ4 _ _ _ (hQ3 _ _ _ ?_)
     simp (maxSteps:=2000000) only [s19,↓Za,↓Zi,↓Zr,↓Ze,↓Zj,↓Zs,↓Zg,↓Zo,↓Zf,↓Zb,↓Zc,↓vdn,vup,Zm,Zk,Zn,Zl,Zh,List.map_cons,List.map_nil,cond_true,cond_false,aop,Zv,Zq,Zp,ev,sput,Zt,Zy,Ya,unK,Zd,Zw,Nat.reduceBEq,Nat.reduceAdd,Int.reduceBEq,Int.reduceBNe,Int.reduceLT,Zu,Zz,tup,tyf,if_true,add1 (show i<9223372036854775807 by omega)]
     refine hQ2 _ _ _ ⟨i+1,⟨by omega,fun k hk=>?_⟩,by omega,by simp (maxSteps:=2000000) only [↓Za,↓Zi,↓Zr,↓Ze,↓Zj,↓Zs,↓Zg,↓Zo,↓Zf,↓Zb,↓Zc,↓vdn,vup,Zm,Zk,Zn,Zl,Zh,List.map_cons,List.map_nil,cond_true,cond_false,aop,Zv,Zq,Zp,ev,sput,Zt,Zy,Ya,unK,Zd,Zw,Nat.reduceBEq,Nat.reduceAdd,Int.reduceBEq,Int.reduceBNe,Int.reduceLT,Zu,Zz,tup,tyf],rfl⟩
     by_cases hkj:k=i
     · subst hkj
       have:((List.range o.length).all fun j=>!ab o k j || (Vn .andNot .i64 (o.getD j 0) (o.getD k 0)==0))=true:=by
        rw [List.all_eq_true]; exact fun j hj=>hokj j (List.mem_range.1 hj)
       rw [okO,decide_eq_true hs0,decide_eq_true (Int.not_le.1 hbig),hbit,this]; rfl
     · exact hok k (by omega)
 · obtain rfl:i=o.length:=by omega
   have ht:ord o=true:=by simp only [ord,Bool.and_eq_true,decide_eq_true_eq,List.all_eq_true,List.mem_range]; exact ⟨⟨by omega,by omega⟩,hok⟩
   simp (maxSteps:=2000000) only [s19,↓Za,↓Zi,↓Zr,↓Ze,↓Zj,↓Zs,↓Zg,↓Zo,↓Zf,↓Zb,↓Zc,↓vdn,vup,Zm,Zk,Zn,Zl,Zh,List.map_cons,List.map_nil,cond_true,cond_false,aop,Zv,Zq,Zp,ev,sput,Zt,Zy,Ya,unK,Zd,Zw,Nat.reduceBEq,Nat.reduceAdd,Int.reduceBEq,Int.reduceBNe,Int.reduceLT,Zu,Zz,tup,tyf,l19_1,Int.lt_irrefl]
   refine hQ2 _ _ _ (hQ _ _ _ ?_)
   simp (maxSteps:=2000000) only [s19,↓Za,↓Zi,↓Zr,↓Ze,↓Zj,↓Zs,↓Zg,↓Zo,↓Zf,↓Zb,↓Zc,↓vdn,vup,Zm,Zk,Zn,Zl,Zh,List.map_cons,List.map_nil,cond_true,cond_false,aop,Zv,Zq,Zp,ev,sput,Zt,Zy,Ya,unK,Zd,Zw,Nat.reduceBEq,Nat.reduceAdd,Int.reduceBEq,Int.reduceBNe,Int.reduceLT,Zu,Zz,tup,tyf,if_true,ht]
end Go.Proofs.Tryd.Am
namespace Ord
open Go.Am
inductive Reach (l:List (Nat×Nat)):Nat→Nat→Prop
 | one {a b:Nat} (h:(a,b)∈l):Reach l a b
 | tr {a b c:Nat} (h1:Reach l a b) (h2:Reach l b c):Reach l a c
theorem Reach.mono {l l' : List (Nat×Nat)} (h : ∀ p∈l,p∈l') {a b:Nat} (hr:Reach l a b):Reach l' a b:=by
 induction hr with
 | one h1=>exact .one (h _ h1)
 | tr _ _ i1 i2=>exact .tr i1 i2
def Path (l:List (Nat×Nat)):Nat→Nat→Nat→Prop
 | 0,_,_=>False
 | 1,a,b=>(a,b)∈l
 | m+2,a,b=>∃ c,(a,c)∈l∧Path l (m+1) c b
theorem Path.mono {l l' : List (Nat×Nat)} (h : ∀ p∈l,p∈l') : ∀ {m a b},Path l m a b→Path l' m a b
 | 0,_,_,hp=>hp.elim
 | 1,_,_,hp=>h _ hp
 | m+2,_,_,⟨c,h1,h2⟩=>⟨c,h _ h1,h2.mono h⟩
def Sets (n:Nat) (o:List Int):Prop:=o.length=n∧∀ i,i<n→o.getD i 0=(bt o i:Int)∧bt o i<2 ^ n
theorem Sets.bit {n:Nat} {o:List Int} (h:Sets n o) {i j:Nat} (hij:ab o i j=true):i<n∧j<n:=by
 have hi:i<n:=by
  rcases Nat.lt_or_ge i n with h' | h'
  · exact h'
  · rw [ab,bt_out (by rw [h.1]; exact h')] at hij; simp at hij
 refine ⟨hi,?_⟩
 rcases Nat.lt_or_ge j n with h' | h'
 · exact h'
 · have:=Nat.testBit_lt_two_pow (Nat.lt_of_lt_of_le (h.2 i hi).2 (Nat.pow_le_pow_right (by decide) h'))
   rw [ab,this] at hij; cases hij
theorem Sets.ext {n:Nat} {o o' : List Int} (h:Sets n o) (h' : Sets n o') (he : ∀ i j,ab o i j=ab o' i j):o=o':=by
 refine List.ext_getElem (h.1.trans h'.1.symm) fun i h1 h2=>?_
 have e1:o[i]=o.getD i 0:=by simp [List.getD,h1]
 have e2:o'[i]=o'.getD i 0:=by simp [List.getD,h2]
 rw [e1,e2,(h.2 i (h.1▸h1)).1,(h'.2 i (h'.1▸h2)).1]
 congr 1
 exact Nat.eq_of_testBit_eq fun j=>he i j
theorem Sets.ord {n:Nat} {o:List Int} (h:Sets n o) (hn:1≤n∧n≤6) (hp:Po (ab o)):Ord.ord o=true :=
 ord_of (by rw [h.1]; exact hn) (fun i hi=>⟨_,(h.2 i (by rw [← h.1]; exact hi)).1,by rw [h.1]; exact (h.2 i (by rw [← h.1]; exact hi)).2⟩) hp
def zeros (n:Nat):List Int:=List.replicate n 0
theorem zeros_bt {n i:Nat}:bt (zeros n) i=0:=by
 rw [bt,zeros,List.getD]
 by_cases h:i<n
 · simp [h]
 · simp [List.getElem?_replicate,h]
theorem zeros_sets {n:Nat}:Sets n (zeros n):=⟨by simp [zeros],fun i hi=>⟨by rw [zeros_bt,zeros,List.getD]; simp [hi],by rw [zeros_bt]; exact Nat.two_pow_pos n⟩⟩
theorem zeros_ab {n i j:Nat}:ab (zeros n) i j=false:=by rw [ab,zeros_bt,Nat.zero_testBit]
theorem zeros_ord {n:Nat} (hn:1≤n∧n≤6):ord (zeros n)=true :=
 zeros_sets.ord hn ⟨fun i=>zeros_ab,fun i j k h _=>by rw [zeros_ab] at h; cases h⟩
structure Good (n:Nat) (l:List (Nat×Nat)) (o o' : List Int):Prop where
 sets:Sets n o'
 mono : ∀ a b,ab o a b=true→ab o' a b=true
 sound:(∀ a b,ab o a b=true→Reach l a b)→∀ a b,ab o' a b=true→Reach l a b
theorem Good.refl {n:Nat} {l:List (Nat×Nat)} {o:List Int} (h:Sets n o):Good n l o o:=⟨h,fun _ _ h=>h,fun h=>h⟩
theorem Good.trans {n:Nat} {l:List (Nat×Nat)} {o o' o'' : List Int} (h1:Good n l o o') (h2:Good n l o' o''):Good n l o o'' :=
 ⟨h2.sets,fun a b h=>h2.mono a b (h1.mono a b h),fun h=>h2.sound (h1.sound h)⟩
end Ord

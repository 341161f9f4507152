/-
  top: the table of math/bits, out of what the statement grants.
  Printed by gen.py: facts on the types of this seat, asked of the kernel.
  Printed by gen.py: the code of some functions, without what no step looks at; held against the program's own by the kernel.
  Printed by gen.py: the code of some functions, without what no step looks at; held against the program's own by the kernel.
  Printed by gen.py: the code of some functions, without what no step looks at; held against the program's own by the kernel.
  Printed by gen.py: the code of some functions, without what no step looks at; held against the program's own by the kernel.
  Printed by gen.py: the code of some functions, without what no step looks at; held against the program's own by the kernel.
  Printed by gen.py: the code of some functions, without what no step looks at; held against the program's own by the kernel.
  Plain theory: the lines of a relation (no program in sight).
  Plain theory: orders as lists of ints; their lines, counted by which sets can come first; an element taken out.
-/
import Derived.Test.YtmjpngmoankpkaaDoorPk4
import Derived.Test.YtmjpngmoankpkaaDoorRows
import Derived.Test.YtmjpngmoankpkaaDoorProg
import Derived.MakeChecks
import Derived.Test.YtmjpngmoankpkaaDoorPk3
import Derived.KernelRfl
import Derived.Shelf.Abstract
set_option linter.all false
namespace Go.Proofs.YtmjpngmoankpkaaDoor
open Go Go.Am Go.ChangeShapes Go.WideShapes Go.ChangeAt Go.WideMaps Go.WideElems Go.RowKit
theorem row_bytes {H:Type} {enc:TypeId×Value→H} {P:Program} {w:World} {base:Nat} {spare:Nat→Bool} {held:Bool} {fuel:Nat} {t e:TypeId} {n:Nat} {cs:List Value} {ns:List Nat} {p:List MemPlace}
  (ht:P.underlying t=some (.array n e)) (he:P.underlying e=some (.int .u8)) (hc:P.cellsOf e=1) (hct:P.cellsOf t=n) (h:DataW.trod enc P w base spare held fuel t cs=some (.agg (ns.map fun (k:Nat)=>.lit (.int .u8 k)),p)):cs=ns.map fun (k:Nat)=>Value.int .u8 k:=by
 obtain ⟨xs,m,rfl,hx,hlen,hn,hel⟩:=DataW.trod_array ht h
 simp only [Prod.mk.injEq,DataW.agg.injEq] at hx
 have hns:ns.length=n:=by rw [← hn,← List.length_map (f:=fun (x:DataW H×List MemPlace)=>x.1),← hx.1,List.length_map]
 apply List.ext_getElem (by rw [hlen,hct,List.length_map,hns])
 intro i h1 h2
 have hi:i<n:=by rw [hlen,hct] at h1; exact h1
 have h3:=hel i hi
 rw [hc,Nat.mul_one,List.getElem?_eq_getElem (by omega)] at h3
 obtain ⟨k,g1,g2,_⟩:=DataW.trod_int he h3
 have h4:(xs.map (·.1))[i]? = some (xs[i]'(by omega)).1:=by simp [List.getElem?_map,List.getElem?_eq_getElem (show i<xs.length by omega)]
 rw [← hx.1,g2] at h4
 rw [List.drop_eq_getElem_cons h1,List.take_succ_cons,List.take_zero] at g1
 have g1:=(List.cons.inj g1).1
 simp at h4
 obtain ⟨a,ha,hk⟩:=h4
 rw [g1,List.getElem_map]
 have:ns[i]'(by omega)=a:=by
  rw [List.getElem?_eq_getElem (show i<ns.length by omega)] at ha; exact Option.some.inj ha
 rw [this,← hk]
abbrev laid2:List (String×DataW Unit):=[("math/bits.deBruijn32tab",Rows.laid_math_bits_deBruijn32tab),("math/bits.deBruijn64tab",Rows.laid_math_bits_deBruijn64tab)]
theorem tab_of {W:World} (h:laidMetH Tryd.prog laid2 W) : ∃ e fr,W.heap[0]? = some (.cells (Lib.deBruijn64tab.map fun (n:Nat)=>Value.int .u8 n).toArray e fr):=by
 rw [MakeChecks.laidMetH_plain _ _ _ (by kernel_rfl)] at h
 obtain ⟨ps,⟨g0,t0,cs0,f0,p0,q0,hg0,ht0,hv0,hd0,⟨g1,t1,cs1,f1,p1,q1,hg1,ht1,hv1,hd1,_,_⟩,_⟩,_,_⟩:=h
 obtain rfl:=Option.some.inj ((show Tryd.prog.globalNamed "math/bits.deBruijn64tab" = some 0 by kernel_rfl).symm.trans hg1)
 obtain rfl:=Option.some.inj ((show (Tryd.prog.globals[0]?).map (·.type)=some 168 by kernel_rfl).symm.trans ht1)
 have hrow:=row_bytes (ns:=Lib.deBruijn64tab) Tryd.underlying168 Tryd.underlying5 (by kernel_rfl) (by kernel_rfl) hd1
 simp only [World.var?,hg1,Option.bind_some] at hv1
 split at hv1
 · rename_i cs e fr hh
   cases hv1
   exact ⟨e,fr,by rw [hh,← hrow]⟩
 · cases hv1
end Go.Proofs.YtmjpngmoankpkaaDoor
namespace Go.Proofs.Tryd.Am
open Go.Am
set_option maxRecDepth 100000
theorem app_105_105:appT Tryd.prog 105 105=some (3,1,8):=by kernel_rfl
theorem app_120_120:appT Tryd.prog 120 120=some (122,1,24):=by kernel_rfl
theorem app_125_125:appT Tryd.prog 125 125=some (43,1,24):=by kernel_rfl
theorem app_22_22:appT Tryd.prog 22 22=some (27,1,24):=by kernel_rfl
theorem app_26_26:appT Tryd.prog 26 26=some (28,2,16):=by kernel_rfl
theorem app_27_27:appT Tryd.prog 27 27=some (3,1,8):=by kernel_rfl
theorem app_43_43:appT Tryd.prog 43 43=some (45,2,16):=by kernel_rfl
theorem app_46_46:appT Tryd.prog 46 46=some (51,2,16):=by kernel_rfl
theorem app_66_66:appT Tryd.prog 66 66=some (163,3,24):=by kernel_rfl
theorem el_105:elemOf' Tryd.prog 105=some 3:=by kernel_rfl
theorem el_120:elemOf' Tryd.prog 120=some 122:=by kernel_rfl
theorem el_122:elemOf' Tryd.prog 122=some 45:=by kernel_rfl
theorem el_125:elemOf' Tryd.prog 125=some 43:=by kernel_rfl
theorem el_131:elemOf' Tryd.prog 131=some 3:=by kernel_rfl
theorem el_22:elemOf' Tryd.prog 22=some 27:=by kernel_rfl
theorem el_26:elemOf' Tryd.prog 26=some 28:=by kernel_rfl
theorem el_27:elemOf' Tryd.prog 27=some 3:=by kernel_rfl
theorem el_43:elemOf' Tryd.prog 43=some 45:=by kernel_rfl
theorem el_46:elemOf' Tryd.prog 46=some 51:=by kernel_rfl
theorem el_66:elemOf' Tryd.prog 66=some 163:=by kernel_rfl
theorem esz_100:esz Tryd.prog 100=some 1:=by kernel_rfl
theorem esz_101:esz Tryd.prog 101=some 1:=by kernel_rfl
theorem esz_103:esz Tryd.prog 103=some 1:=by kernel_rfl
theorem esz_105:esz Tryd.prog 105=some 1:=by kernel_rfl
theorem esz_106:esz Tryd.prog 106=some 1:=by kernel_rfl
theorem esz_107:esz Tryd.prog 107=some 1:=by kernel_rfl
theorem esz_109:esz Tryd.prog 109=some 1:=by kernel_rfl
theorem esz_117:esz Tryd.prog 117=some 2:=by kernel_rfl
theorem esz_122:esz Tryd.prog 122=some 1:=by kernel_rfl
theorem esz_131:esz Tryd.prog 131=some 1:=by kernel_rfl
theorem esz_147:esz Tryd.prog 147=some 4:=by kernel_rfl
theorem esz_163:esz Tryd.prog 163=some 3:=by kernel_rfl
theorem esz_27:esz Tryd.prog 27=some 1:=by kernel_rfl
theorem esz_28:esz Tryd.prog 28=some 2:=by kernel_rfl
theorem Wc:esz Tryd.prog 3=some 1:=by kernel_rfl
theorem esz_43:esz Tryd.prog 43=some 1:=by kernel_rfl
theorem esz_45:esz Tryd.prog 45=some 2:=by kernel_rfl
theorem esz_46:esz Tryd.prog 46=some 1:=by kernel_rfl
theorem esz_51:esz Tryd.prog 51=some 2:=by kernel_rfl
theorem esz_53:esz Tryd.prog 53=some 1:=by kernel_rfl
theorem esz_61:esz Tryd.prog 61=some 1:=by kernel_rfl
theorem esz_95:esz Tryd.prog 95=some 6:=by kernel_rfl
theorem esz_97:esz Tryd.prog 97=some 7:=by kernel_rfl
theorem fld_103_0:fldOf Tryd.prog 103 0=some (101,0):=by kernel_rfl
theorem fld_109_0:fldOf Tryd.prog 109 0=some (107,0):=by kernel_rfl
theorem fld_117_0:fldOf Tryd.prog 117 0=some (3,0):=by kernel_rfl
theorem fld_117_1:fldOf Tryd.prog 117 1=some (46,1):=by kernel_rfl
theorem fld_149_0:fldOf Tryd.prog 149 0=some (147,0):=by kernel_rfl
theorem fld_149_1:fldOf Tryd.prog 149 1=some (3,4):=by kernel_rfl
theorem fld_149_2:fldOf Tryd.prog 149 2=some (3,5):=by kernel_rfl
theorem fld_172_0:fldOf Tryd.prog 172 0=some (97,0):=by kernel_rfl
theorem fld_172_1:fldOf Tryd.prog 172 1=some (3,7):=by kernel_rfl
theorem fld_45_0:fldOf Tryd.prog 45 0=some (3,0):=by kernel_rfl
theorem fld_45_1:fldOf Tryd.prog 45 1=some (3,1):=by kernel_rfl
theorem fld_51_0:fldOf Tryd.prog 51 0=some (3,0):=by kernel_rfl
theorem fld_51_1:fldOf Tryd.prog 51 1=some (3,1):=by kernel_rfl
theorem fld_61_0:fldOf Tryd.prog 61 0=some (27,0):=by kernel_rfl
theorem fld_97_0:fldOf Tryd.prog 97 0=some (3,0):=by kernel_rfl
theorem Ve:fldOf Tryd.prog 97 1=some (95,1):=by kernel_rfl
theorem info_3:(Tryd.prog.info? 3).map (fun i=>(i.size,i.bytes))=some (1,8):=by kernel_rfl
theorem info_45:(Tryd.prog.info? 45).map (fun i=>(i.size,i.bytes))=some (2,16):=by kernel_rfl
theorem isl_105:isSl Tryd.prog 105=true:=by kernel_rfl
theorem isl_120:isSl Tryd.prog 120=true:=by kernel_rfl
theorem isl_122:isSl Tryd.prog 122=true:=by kernel_rfl
theorem isl_125:isSl Tryd.prog 125=true:=by kernel_rfl
theorem isl_131:isSl Tryd.prog 131=true:=by kernel_rfl
theorem isl_22:isSl Tryd.prog 22=true:=by kernel_rfl
theorem isl_26:isSl Tryd.prog 26=true:=by kernel_rfl
theorem isl_27:isSl Tryd.prog 27=true:=by kernel_rfl
theorem isl_43:isSl Tryd.prog 43=true:=by kernel_rfl
theorem isl_46:isSl Tryd.prog 46=true:=by kernel_rfl
theorem isl_66:isSl Tryd.prog 66=true:=by kernel_rfl
theorem pl_103_0:Xs Tryd.prog 103 0=some (0,1):=by kernel_rfl
theorem pl_109_0:Xs Tryd.prog 109 0=some (0,1):=by kernel_rfl
theorem pl_117_0:Xs Tryd.prog 117 0=some (0,1):=by kernel_rfl
theorem pl_117_1:Xs Tryd.prog 117 1=some (1,1):=by kernel_rfl
theorem pl_149_0:Xs Tryd.prog 149 0=some (0,4):=by kernel_rfl
theorem pl_149_1:Xs Tryd.prog 149 1=some (4,1):=by kernel_rfl
theorem pl_149_2:Xs Tryd.prog 149 2=some (5,1):=by kernel_rfl
theorem pl_163_0:Xs Tryd.prog 163 0=some (0,1):=by kernel_rfl
theorem pl_163_1:Xs Tryd.prog 163 1=some (1,1):=by kernel_rfl
theorem pl_163_2:Xs Tryd.prog 163 2=some (2,1):=by kernel_rfl
theorem pl_172_0:Xs Tryd.prog 172 0=some (0,7):=by kernel_rfl
theorem pl_172_1:Xs Tryd.prog 172 1=some (7,1):=by kernel_rfl
theorem pl_28_0:Xs Tryd.prog 28 0=some (0,1):=by kernel_rfl
theorem pl_28_1:Xs Tryd.prog 28 1=some (1,1):=by kernel_rfl
theorem pl_45_0:Xs Tryd.prog 45 0=some (0,1):=by kernel_rfl
theorem pl_45_1:Xs Tryd.prog 45 1=some (1,1):=by kernel_rfl
theorem pl_51_0:Xs Tryd.prog 51 0=some (0,1):=by kernel_rfl
theorem pl_51_1:Xs Tryd.prog 51 1=some (1,1):=by kernel_rfl
theorem pl_61_0:Xs Tryd.prog 61 0=some (0,1):=by kernel_rfl
theorem pl_97_0:Xs Tryd.prog 97 0=some (0,1):=by kernel_rfl
theorem pl_97_1:Xs Tryd.prog 97 1=some (1,6):=by kernel_rfl
theorem shp_100:shp Tryd.prog 100=some none:=by kernel_rfl
theorem shp_101:shp Tryd.prog 101=some none:=by kernel_rfl
theorem Wz:shp Tryd.prog 105=some none:=by kernel_rfl
theorem shp_106:shp Tryd.prog 106=some none:=by kernel_rfl
theorem shp_107:shp Tryd.prog 107=some none:=by kernel_rfl
theorem shp_117:shp Tryd.prog 117=some (some 2):=by kernel_rfl
theorem shp_122:shp Tryd.prog 122=some none:=by kernel_rfl
theorem shp_131:shp Tryd.prog 131=some none:=by kernel_rfl
theorem shp_147:shp Tryd.prog 147=some (some 4):=by kernel_rfl
theorem shp_149:shp Tryd.prog 149=some (some 6):=by kernel_rfl
theorem shp_187:shp Tryd.prog 187=some none:=by kernel_rfl
theorem shp_22:shp Tryd.prog 22=some none:=by kernel_rfl
theorem shp_25:shp Tryd.prog 25=some none:=by kernel_rfl
theorem Vq:shp Tryd.prog 27=some none:=by kernel_rfl
theorem shp_28:shp Tryd.prog 28=some (some 2):=by kernel_rfl
theorem Xc:shp Tryd.prog 3=some none:=by kernel_rfl
theorem shp_4:shp Tryd.prog 4=some none:=by kernel_rfl
theorem shp_43:shp Tryd.prog 43=some none:=by kernel_rfl
theorem shp_45:shp Tryd.prog 45=some (some 2):=by kernel_rfl
theorem shp_46:shp Tryd.prog 46=some none:=by kernel_rfl
theorem shp_51:shp Tryd.prog 51=some (some 2):=by kernel_rfl
theorem shp_53:shp Tryd.prog 53=some none:=by kernel_rfl
theorem shp_61:shp Tryd.prog 61=some (some 1):=by kernel_rfl
theorem shp_66:shp Tryd.prog 66=some none:=by kernel_rfl
theorem shp_72:shp Tryd.prog 72=some none:=by kernel_rfl
theorem shp_95:shp Tryd.prog 95=some (some 6):=by kernel_rfl
theorem Xd:shp Tryd.prog 97=some (some 7):=by kernel_rfl
theorem und_101:Program.underlying Tryd.prog 101=some (.map 172 4):=by kernel_rfl
theorem und_105:Program.underlying Tryd.prog 105=some (.slice 3):=by kernel_rfl
theorem und_107:Program.underlying Tryd.prog 107=some (.map 149 4):=by kernel_rfl
theorem und_120:Program.underlying Tryd.prog 120=some (.slice 122):=by kernel_rfl
theorem und_122:Program.underlying Tryd.prog 122=some (.slice 45):=by kernel_rfl
theorem und_125:Program.underlying Tryd.prog 125=some (.slice 43):=by kernel_rfl
theorem und_131:Program.underlying Tryd.prog 131=some (.slice 3):=by kernel_rfl
theorem und_135:Program.underlying Tryd.prog 135=some (.map 3 3):=by kernel_rfl
theorem und_147:Program.underlying Tryd.prog 147=some (.array 4 3):=by kernel_rfl
theorem und_163:Program.underlying Tryd.prog 163=some (.array 3 3):=by kernel_rfl
theorem und_170:Program.underlying Tryd.prog 170=some (.int .u32):=by kernel_rfl
theorem und_187:Program.underlying Tryd.prog 187=some (.map 28 3):=by kernel_rfl
theorem und_22:Program.underlying Tryd.prog 22=some (.slice 27):=by kernel_rfl
theorem und_26:Program.underlying Tryd.prog 26=some (.slice 28):=by kernel_rfl
theorem und_27:Program.underlying Tryd.prog 27=some (.slice 3):=by kernel_rfl
theorem und_28:Program.underlying Tryd.prog 28=some (.array 2 3):=by kernel_rfl
theorem und_3:Program.underlying Tryd.prog 3=some (.int .i64):=by kernel_rfl
theorem und_4:Program.underlying Tryd.prog 4=some (.bool):=by kernel_rfl
theorem und_43:Program.underlying Tryd.prog 43=some (.slice 45):=by kernel_rfl
theorem und_46:Program.underlying Tryd.prog 46=some (.slice 51):=by kernel_rfl
theorem und_5:Program.underlying Tryd.prog 5=some (.int .u8):=by kernel_rfl
theorem und_57:Program.underlying Tryd.prog 57=some (.int .u64):=by kernel_rfl
theorem und_88:Program.underlying Tryd.prog 88=some (.int .u64):=by kernel_rfl
theorem und_9:Program.underlying Tryd.prog 9=some (.string):=by kernel_rfl
theorem und_95:Program.underlying Tryd.prog 95=some (.array 6 3):=by kernel_rfl
theorem zero_103:Xn Tryd.prog 103=some [.map none]:=by kernel_rfl
theorem zero_105:Xn Tryd.prog 105=some [.slice none 0 0]:=by kernel_rfl
theorem zero_109:Xn Tryd.prog 109=some [.map none]:=by kernel_rfl
theorem zero_117:Xn Tryd.prog 117=some [.int .i64 0,.slice none 0 0]:=by kernel_rfl
theorem zero_122:Xn Tryd.prog 122=some [.slice none 0 0]:=by kernel_rfl
theorem zero_149:Xn Tryd.prog 149=some [.int .i64 0,.int .i64 0,.int .i64 0,.int .i64 0,.int .i64 0,.int .i64 0]:=by kernel_rfl
theorem zero_163:Xn Tryd.prog 163=some [.int .i64 0,.int .i64 0,.int .i64 0]:=by kernel_rfl
theorem zero_172:Xn Tryd.prog 172=some [.int .i64 0,.int .i64 0,.int .i64 0,.int .i64 0,.int .i64 0,.int .i64 0,.int .i64 0,.int .i64 0]:=by kernel_rfl
theorem zero_187:Xn Tryd.prog 187=some [.map none]:=by kernel_rfl
theorem zero_22:Xn Tryd.prog 22=some [.slice none 0 0]:=by kernel_rfl
theorem zero_25:Xn Tryd.prog 25=some [.nilFunc]:=by kernel_rfl
theorem zero_27:Xn Tryd.prog 27=some [.slice none 0 0]:=by kernel_rfl
theorem zero_28:Xn Tryd.prog 28=some [.int .i64 0,.int .i64 0]:=by kernel_rfl
theorem zero_3:Xn Tryd.prog 3=some [.int .i64 0]:=by kernel_rfl
theorem zero_4:Xn Tryd.prog 4=some [.bool false]:=by kernel_rfl
theorem zero_43:Xn Tryd.prog 43=some [.slice none 0 0]:=by kernel_rfl
theorem zero_45:Xn Tryd.prog 45=some [.int .i64 0,.int .i64 0]:=by kernel_rfl
theorem zero_51:Xn Tryd.prog 51=some [.int .i64 0,.int .i64 0]:=by kernel_rfl
theorem zero_61:Xn Tryd.prog 61=some [.slice none 0 0]:=by kernel_rfl
theorem zero_66:Xn Tryd.prog 66=some [.slice none 0 0]:=by kernel_rfl
theorem zero_72:Xn Tryd.prog 72=some [.nilFunc]:=by kernel_rfl
theorem zero_97:Xn Tryd.prog 97=some [.int .i64 0,.int .i64 0,.int .i64 0,.int .i64 0,.int .i64 0,.int .i64 0,.int .i64 0]:=by kernel_rfl
theorem zv_3:zeroV Tryd.prog 3=some (.int .i64 0):=by kernel_rfl
theorem zv_4:zeroV Tryd.prog 4=some (.bool false):=by kernel_rfl
def tyf:=(And.intro (And.intro (And.intro (And.intro (And.intro (And.intro (And.intro (And.intro @app_105_105 @app_120_120) @app_125_125) (And.intro (And.intro @app_22_22 @app_26_26) @app_27_27)) (And.intro (And.intro (And.intro @app_43_43 @app_46_46) @app_66_66) (And.intro @el_105 @el_120))) (And.intro (And.intro (And.intro (And.intro @el_122 @el_125) @el_131) (And.intro (And.intro @el_22 @el_26) @el_27)) (And.intro (And.intro (And.intro @el_43 @el_46) @el_66) (And.intro @esz_100 @esz_101)))) (And.intro (And.intro (And.intro (And.intro (And.intro @esz_103 @esz_105) @esz_106) (And.intro (And.intro @esz_107 @esz_109) @esz_117)) (And.intro (And.intro (And.intro @esz_122 @esz_131) @esz_147) (And.intro @esz_163 @esz_27))) (And.intro (And.intro (And.intro (And.intro @esz_28 @Wc) @esz_43) (And.intro @esz_45 @esz_46)) (And.intro (And.intro (And.intro @esz_51 @esz_53) @esz_61) (And.intro @esz_95 @esz_97))))) (And.intro (And.intro (And.intro (And.intro (And.intro (And.intro @fld_103_0 @fld_109_0) @fld_117_0) (And.intro (And.intro @fld_117_1 @fld_149_0) @fld_149_1)) (And.intro (And.intro (And.intro @fld_149_2 @fld_172_0) @fld_172_1) (And.intro @fld_45_0 @fld_45_1))) (And.intro (And.intro (And.intro (And.intro @fld_51_0 @fld_51_1) @fld_61_0) (And.intro @fld_97_0 @Ve)) (And.intro (And.intro (And.intro @info_3 @info_45) @isl_105) (And.intro @isl_120 @isl_122)))) (And.intro (And.intro (And.intro (And.intro (And.intro @isl_125 @isl_131) @isl_22) (And.intro (And.intro @isl_26 @isl_27) @isl_43)) (And.intro (And.intro (And.intro @isl_46 @isl_66) @pl_103_0) (And.intro @pl_109_0 @pl_117_0))) (And.intro (And.intro (And.intro (And.intro @pl_117_1 @pl_149_0) @pl_149_1) (And.intro @pl_149_2 @pl_163_0)) (And.intro (And.intro (And.intro @pl_163_1 @pl_163_2) @pl_172_0) (And.intro @pl_172_1 @pl_28_0)))))) (And.intro (And.intro (And.intro (And.intro (And.intro (And.intro (And.intro @pl_28_1 @pl_45_0) @pl_45_1) (And.intro (And.intro @pl_51_0 @pl_51_1) @pl_61_0)) (And.intro (And.intro (And.intro @pl_97_0 @pl_97_1) @shp_100) (And.intro @shp_101 @Wz))) (And.intro (And.intro (And.intro (And.intro @shp_106 @shp_107) @shp_117) (And.intro @shp_122 @shp_131)) (And.intro (And.intro (And.intro @shp_147 @shp_149) @shp_187) (And.intro @shp_22 @shp_25)))) (And.intro (And.intro (And.intro (And.intro (And.intro @Vq @shp_28) @Xc) (And.intro (And.intro @shp_4 @shp_43) @shp_45)) (And.intro (And.intro (And.intro @shp_46 @shp_51) @shp_53) (And.intro @shp_61 @shp_66))) (And.intro (And.intro (And.intro (And.intro @shp_72 @shp_95) @Xd) (And.intro @und_101 @und_105)) (And.intro (And.intro (And.intro @und_107 @und_120) @und_122) (And.intro @und_125 @und_131))))) (And.intro (And.intro (And.intro (And.intro (And.intro (And.intro @und_135 @und_147) @und_163) (And.intro (And.intro @und_170 @und_187) @und_22)) (And.intro (And.intro (And.intro @und_26 @und_27) @und_28) (And.intro @und_3 @und_4))) (And.intro (And.intro (And.intro (And.intro @und_43 @und_46) @und_5) (And.intro @und_57 @und_88)) (And.intro (And.intro (And.intro @und_9 @und_95) @zero_103) (And.intro @zero_105 @zero_109)))) (And.intro (And.intro (And.intro (And.intro (And.intro @zero_117 @zero_122) @zero_149) (And.intro (And.intro @zero_163 @zero_172) @zero_187)) (And.intro (And.intro (And.intro @zero_22 @zero_25) @zero_27) (And.intro @zero_28 @zero_3))) (And.intro (And.intro (And.intro (And.intro @zero_4 @zero_43) @zero_45) (And.intro @zero_51 @zero_61)) (And.intro (And.intro (And.intro @zero_66 @zero_72) @zero_97) (And.intro @zv_3 @zv_4)))))))
end Go.Proofs.Tryd.Am
namespace Go.Proofs.Tryd.Am
open Go.Am
set_option maxRecDepth 100000
/-! 4: planchet planchettop.TopBits -/
@[reducible] def q4_0:SCode:=.region [⟨some 2,.assign (.const (.bool false)),none⟩]
@[reducible] def q4_1:SCode:=.region [⟨some 11,.move (.tmp 0),none⟩,
  ⟨some 12,.move (.tmp 0),none⟩,
  ⟨some 13,.call { callee:=.builtin .len,args:=#[.tmp 12],argTypes:=#[27] },none⟩,
  ⟨some 14,.call { callee:=.builtin .min,args:=#[.tmp 13,.const (.int .i64 9)],argTypes:=#[3,3] },none⟩,
  ⟨some 15,.slice 27 (.tmp 11) none (some (.tmp 14)) none,none⟩,
  ⟨some 16,.call { callee:=.value (.func 13),args:=#[.tmp 15],argTypes:=#[27] },none⟩,
  ⟨some 17,.call { callee:=.value (.func 15),args:=#[.tmp 16],argTypes:=#[27] },none⟩,
  ⟨some 10,.move (.tmp 17),none⟩,
  ⟨some 18,.extract (.tmp 10) 0,none⟩,
  ⟨some 19,.extract (.tmp 10) 1,none⟩,
  ⟨some 3,.assign (.tmp 18),none⟩,
  ⟨some 4,.assign (.tmp 19),none⟩]
@[reducible] def q4_2:SCode:=.region [⟨some 20,.move (.tmp 4),none⟩,
  ⟨some 21,.binOp .neq 29 (.tmp 20) (.const (.int .i64 0)) 29,none⟩,
  ⟨some 22,.move (.tmp 21),none⟩,
  ⟨some 23,.move (.tmp 0),some (22,false)⟩,
  ⟨some 24,.call { callee:=.value (.func 16),args:=#[.tmp 23],argTypes:=#[27] },some (22,false)⟩,
  ⟨some 25,.unOp .not 4 (.tmp 24),some (22,false)⟩,
  ⟨some 26,.pick (.tmp 22) (.const (.bool true)) (.tmp 25),none⟩]
@[reducible] def q4_3:SCode:=.region [⟨some 27,.move (.tmp 4),none⟩,
  ⟨some 28,.binOp .eql 29 (.tmp 27) (.const (.int .i64 2)) 29,none⟩,
  ⟨some 29,.move (.tmp 28),none⟩,
  ⟨some 30,.call { callee:=.value (.func 17),args:=#[],argTypes:=#[] },some (29,true)⟩,
  ⟨some 31,.pick (.tmp 29) (.tmp 30) (.const (.bool false)),none⟩,
  ⟨some 2,.assign (.tmp 31),none⟩]
@[reducible] def q4_4:SCode:=.region [⟨some 33,.move (.tmp 0),none⟩,
  ⟨some 34,.call { callee:=.value (.func 13),args:=#[.tmp 33],argTypes:=#[27] },none⟩,
  ⟨some 35,.call { callee:=.value (.func 18),args:=#[.tmp 34],argTypes:=#[27] },none⟩,
  ⟨some 32,.move (.tmp 35),none⟩,
  ⟨some 36,.extract (.tmp 32) 0,none⟩,
  ⟨some 37,.extract (.tmp 32) 1,none⟩,
  ⟨some 5,.assign (.tmp 36),none⟩,
  ⟨some 4,.assign (.tmp 37),none⟩]
@[reducible] def q4_5:SCode:=.region [⟨some 38,.move (.tmp 4),none⟩,
  ⟨some 39,.binOp .neq 29 (.tmp 38) (.const (.int .i64 0)) 29,none⟩]
@[reducible] def q4_6:SCode:=.region [⟨some 2,.assign (.const (.bool false)),none⟩]
@[reducible] def q4_7:SCode:=.region [⟨some 6,.assign (.const (.int .i64 0)),none⟩]
@[reducible] def q4_8:SCode:=.region [⟨some 40,.move (.tmp 0),none⟩,
  ⟨some 41,.call { callee:=.builtin .len,args:=#[.tmp 40],argTypes:=#[27] },none⟩,
  ⟨some 42,.move (.const (.int .i64 0)),none⟩]
@[reducible] def q4_9:SCode:=.region [⟨some 43,.binOp .lss 3 (.tmp 42) (.tmp 41) 3,none⟩]
@[reducible] def q4_10:SCode:=.region [⟨some 44,.move (.tmp 42),none⟩,
  ⟨some 7,.assign (.tmp 44),none⟩]
@[reducible] def q4_11:SCode:=.region [⟨some 45,.move (.tmp 7),none⟩,
  ⟨some 46,.move (.const (.int .i64 0)),none⟩]
@[reducible] def q4_12:SCode:=.region [⟨some 47,.binOp .lss 3 (.tmp 46) (.tmp 45) 3,none⟩]
@[reducible] def q4_13:SCode:=.region [⟨some 48,.move (.tmp 46),none⟩,
  ⟨some 8,.assign (.tmp 48),none⟩]
@[reducible] def q4_14:SCode:=.region [⟨some 49,.move (.tmp 0),none⟩,
  ⟨some 50,.move (.tmp 7),none⟩,
  ⟨some 51,.move (.tmp 8),none⟩,
  ⟨some 52,.call { callee:=.value (.func 19),args:=#[.tmp 49,.tmp 50,.tmp 51],argTypes:=#[27,3,3] },none⟩]
@[reducible] def q4_15:SCode:=.region [⟨some 53,.move (.tmp 6),none⟩,
  ⟨some 54,.binOp .add 3 (.tmp 53) (.const (.int .i64 1)) 3,none⟩,
  ⟨some 6,.assign (.tmp 54),none⟩]
@[reducible] def q4_16:SCode:=.region [⟨some 55,.binOp .add 3 (.tmp 46) (.const (.int .i64 1)) 3,none⟩,
  ⟨some 46,.move (.tmp 55),none⟩]
def l4_0:SCode:=(.seq q4_12 (.seq (.cond (.tmp 47) .skip (.exit 2)) (.seq (.block 3 (.seq q4_13 (.seq q4_14 (.cond (.tmp 52) q4_15 .skip)))) q4_16)))
@[reducible] def q4_17:SCode:=.region [⟨some 56,.binOp .add 3 (.tmp 42) (.const (.int .i64 1)) 3,none⟩,
  ⟨some 42,.move (.tmp 56),none⟩]
def l4_1:SCode:=(.seq q4_9 (.seq (.cond (.tmp 43) .skip (.exit 0)) (.seq (.block 1 (.seq q4_10 (.seq q4_11 (.block 2 (.loop l4_0))))) q4_17)))
@[reducible] def q4_18:SCode:=.region [⟨some 57,.move (.tmp 3),none⟩,
  ⟨some 58,.move (.tmp 6),none⟩,
  ⟨some 59,.binOp .gtr 3 (.tmp 57) (.tmp 58) 3,none⟩]
@[reducible] def q4_19:SCode:=.region [⟨some 2,.assign (.const (.bool false)),none⟩]
@[reducible] def q4_20:SCode:=.region [⟨some 61,.move (.tmp 5),none⟩,
  ⟨some 62,.call { callee:=.value (.func 20),args:=#[.tmp 61,.const (.int .i64 0)],argTypes:=#[3,3] },none⟩,
  ⟨some 60,.move (.tmp 62),none⟩,
  ⟨some 63,.extract (.tmp 60) 0,none⟩,
  ⟨some 64,.extract (.tmp 60) 1,none⟩,
  ⟨some 9,.assign (.tmp 63),none⟩,
  ⟨some 4,.assign (.tmp 64),none⟩]
@[reducible] def q4_21:SCode:=.region [⟨some 65,.move (.tmp 4),none⟩,
  ⟨some 66,.binOp .neq 29 (.tmp 65) (.const (.int .i64 0)) 29,none⟩]
@[reducible] def q4_22:SCode:=.region [⟨some 67,.move (.tmp 4),none⟩,
  ⟨some 68,.binOp .eql 29 (.tmp 67) (.const (.int .i64 2)) 29,none⟩,
  ⟨some 69,.move (.tmp 68),none⟩,
  ⟨some 70,.move (.tmp 5),some (69,true)⟩,
  ⟨some 71,.binOp .gtr 3 (.tmp 70) (.const (.int .i64 40)) 3,some (69,true)⟩,
  ⟨some 72,.pick (.tmp 69) (.tmp 71) (.const (.bool false)),none⟩,
  ⟨some 73,.move (.tmp 72),none⟩,
  ⟨some 74,.move (.tmp 3),some (73,true)⟩,
  ⟨some 75,.binOp .geq 3 (.tmp 74) (.const (.int .i64 6)) 3,some (73,true)⟩,
  ⟨some 76,.pick (.tmp 73) (.tmp 75) (.const (.bool false)),none⟩,
  ⟨some 77,.move (.tmp 76),none⟩,
  ⟨some 78,.call { callee:=.value (.func 17),args:=#[],argTypes:=#[] },some (77,true)⟩,
  ⟨some 79,.pick (.tmp 77) (.tmp 78) (.const (.bool false)),none⟩,
  ⟨some 2,.assign (.tmp 79),none⟩]
@[reducible] def q4_23:SCode:=.region [⟨some 80,.move (.tmp 3),none⟩,
  ⟨some 81,.move (.tmp 9),none⟩,
  ⟨some 82,.binOp .geq 3 (.tmp 80) (.tmp 81) 3,none⟩,
  ⟨some 83,.move (.tmp 82),none⟩,
  ⟨some 84,.call { callee:=.value (.func 17),args:=#[],argTypes:=#[] },some (83,true)⟩,
  ⟨some 85,.pick (.tmp 83) (.tmp 84) (.const (.bool false)),none⟩,
  ⟨some 2,.assign (.tmp 85),none⟩]
def s4:SCode:=(.seq q4_0 (.seq q4_1 (.seq (.seq q4_2 (.cond (.tmp 26) (.seq q4_3 .ret) .skip)) (.seq q4_4 (.seq (.seq q4_5 (.cond (.tmp 39) (.seq q4_6 .ret) .skip)) (.seq q4_7 (.seq (.seq q4_8 (.block 0 (.loop l4_1))) (.seq (.seq q4_18 (.cond (.tmp 59) (.seq q4_19 .ret) .skip)) (.seq q4_20 (.seq (.seq q4_21 (.cond (.tmp 66) (.seq q4_22 .ret) .skip)) (.seq q4_23 .ret)))))))))))
theorem s4_strip:Yh (Yi Tryd.f4)=s4:=by kernel_rfl
theorem s4_ok:Yy 86 (Yi Tryd.f4)=true:=by kernel_rfl
/-! 20: planchet guess.Least -/
@[reducible] def q20_0:SCode:=.region [⟨some 4,.assign (.const (.int .i64 0)),none⟩,
  ⟨some 5,.assign (.const (.int .i64 0)),none⟩]
@[reducible] def q20_1:SCode:=.region [⟨some 9,.move (.tmp 0),none⟩,
  ⟨some 10,.binOp .lss 3 (.tmp 9) (.const (.int .i64 1)) 3,none⟩,
  ⟨some 11,.move (.tmp 10),none⟩,
  ⟨some 12,.move (.tmp 0),some (11,false)⟩,
  ⟨some 13,.binOp .gtr 3 (.tmp 12) (.const (.int .i64 40)) 3,some (11,false)⟩,
  ⟨some 14,.pick (.tmp 11) (.const (.bool true)) (.tmp 13),none⟩,
  ⟨some 15,.move (.tmp 14),none⟩,
  ⟨some 16,.move (.tmp 1),some (15,false)⟩,
  ⟨some 17,.binOp .lss 3 (.tmp 16) (.const (.int .i64 0)) 3,some (15,false)⟩,
  ⟨some 18,.pick (.tmp 15) (.const (.bool true)) (.tmp 17),none⟩,
  ⟨some 19,.move (.tmp 18),none⟩,
  ⟨some 20,.move (.tmp 1),some (19,false)⟩,
  ⟨some 21,.binOp .gtr 3 (.tmp 20) (.const (.int .i64 2)) 3,some (19,false)⟩,
  ⟨some 22,.pick (.tmp 19) (.const (.bool true)) (.tmp 21),none⟩]
@[reducible] def q20_2:SCode:=.region [⟨some 4,.assign (.const (.int .i64 0)),none⟩,
  ⟨some 5,.assign (.const (.int .i64 2)),none⟩]
@[reducible] def q20_3:SCode:=.region [⟨some 23,.move (.tmp 1),none⟩,
  ⟨some 24,.binOp .add 3 (.tmp 23) (.const (.int .i64 1)) 3,none⟩,
  ⟨some 25,.makeSlice 105 (.tmp 24) (.tmp 24),none⟩,
  ⟨some 6,.assign (.tmp 25),none⟩]
@[reducible] def q20_4:SCode:=.region [⟨some 26,.move (.tmp 6),none⟩,
  ⟨some 27,.move (.tmp 0),none⟩,
  ⟨some 28,.indexAddr 105 (.tmp 26) (.const (.int .i64 0)),none⟩,
  ⟨none,.store 3 (.tmp 28) (.tmp 27),none⟩]
@[reducible] def q20_5:SCode:=.region [⟨some 29,.makeMap 107 none,none⟩,
  ⟨some 30,.build 109 #[(0,.tmp 29)],none⟩,
  ⟨some 31,.box 109 (.tmp 30),none⟩,
  ⟨some 7,.assign (.tmp 31),none⟩]
@[reducible] def q20_6:SCode:=.region [⟨some 8,.assign (.const (.int .i64 0)),none⟩]
@[reducible] def q20_7:SCode:=.region [⟨some 32,.move (.tmp 7),none⟩,
  ⟨some 33,.move (.tmp 6),none⟩,
  ⟨some 34,.move (.tmp 8),none⟩,
  ⟨some 35,.call { callee:=.value (.func 58),args:=#[.tmp 32,.tmp 33,.tmp 34],argTypes:=#[106,105,3] },none⟩,
  ⟨some 36,.unOp .not 4 (.tmp 35),none⟩]
@[reducible] def q20_8:SCode:=.region [⟨some 37,.move (.tmp 8),none⟩,
  ⟨some 38,.binOp .add 3 (.tmp 37) (.const (.int .i64 1)) 3,none⟩,
  ⟨some 8,.assign (.tmp 38),none⟩]
def l20_0:SCode:=(.seq (.seq q20_7 (.cond (.tmp 36) .skip (.exit 0))) (.block 1 q20_8))
@[reducible] def q20_9:SCode:=.region [⟨some 39,.move (.tmp 8),none⟩,
  ⟨some 4,.assign (.tmp 39),none⟩,
  ⟨some 5,.assign (.const (.int .i64 0)),none⟩]
def s20:SCode:=(.seq q20_0 (.seq (.seq q20_1 (.cond (.tmp 22) (.seq q20_2 .ret) .skip)) (.seq q20_3 (.seq q20_4 (.seq q20_5 (.seq q20_6 (.seq (.block 0 (.loop l20_0)) (.seq q20_9 .ret))))))))
theorem s20_strip:Yh (Yi Tryd.f20)=s20:=by kernel_rfl
theorem s20_ok:Yy 40 (Yi Tryd.f20)=true:=by kernel_rfl
/-! 58: (planchet guess.interview).wins -/
@[reducible] def q58_0:SCode:=.region [⟨some 6,.assign (.const (.bool false)),none⟩]
@[reducible] def q58_1:SCode:=.region [⟨some 10,.move (.tmp 1),none⟩,
  ⟨some 11,.call { callee:=.value (.func 105),args:=#[.tmp 10],argTypes:=#[105] },none⟩,
  ⟨some 12,.binOp .leq 3 (.tmp 11) (.const (.int .i64 1)) 3,none⟩]
@[reducible] def q58_2:SCode:=.region [⟨some 6,.assign (.const (.bool true)),none⟩]
def q58_3:SCode:=.draw [⟨some 13,.move (.tmp 2),none⟩,
    ⟨some 14,.binOp .eql 3 (.tmp 13) (.const (.int .i64 0)) 3,none⟩,
    ⟨some 15,.move (.tmp 14),none⟩,
    ⟨some 16,.move (.tmp 1),some (15,false)⟩,
    ⟨some 17,.move (.tmp 2),some (15,false)⟩,
    ⟨some 18,.call { callee:=.value (.func 106),args:=#[.tmp 16,.tmp 17],argTypes:=#[105,3] },some (15,false)⟩,
    ⟨some 19,.move (.tmp 2),some (15,false)⟩,
    ⟨some 20,.binOp .shl 3 (.const (.int .i64 1)) (.tmp 19) 3,some (15,false)⟩,
    ⟨some 21,.binOp .gtr 3 (.tmp 18) (.tmp 20) 3,some (15,false)⟩,
    ⟨some 22,.pick (.tmp 15) (.const (.bool true)) (.tmp 21),none⟩]
  [[],[0],[1],[2],[2],[3,4,2,2],[2],[6,2],[5,7,2],[2,8]]
@[reducible] def q58_4:SCode:=.region [⟨some 6,.assign (.const (.bool false)),none⟩]
@[reducible] def q58_5:SCode:=.region [⟨some 23,.move (.tmp 2),none⟩,
  ⟨some 24,.move (.tmp 1),none⟩,
  ⟨some 25,.call { callee:=.builtin .len,args:=#[.tmp 24],argTypes:=#[105] },none⟩,
  ⟨some 26,.build 149 #[(2,.tmp 23),(1,.tmp 25)],none⟩,
  ⟨some 7,.alloc 149,none⟩,
  ⟨none,.store 149 (.tmp 7) (.tmp 26),none⟩]
@[reducible] def q58_6:SCode:=.region [⟨some 27,.fieldAddr 149 (.tmp 7) 0,none⟩,
  ⟨some 28,.slice 147 (.tmp 27) none none none,none⟩,
  ⟨some 29,.move (.tmp 1),none⟩,
  ⟨some 30,.call { callee:=.builtin .copy,args:=#[.tmp 28,.tmp 29],argTypes:=#[27,105] },none⟩]
def q58_7:SCode:=.draw [⟨some 32,.move (.tmp 0),none⟩,
    ⟨some 33,.nilCheck (.tmp 32),none⟩,
    ⟨some 34,.fieldAddr 109 (.tmp 33) 0,none⟩,
    ⟨some 35,.load 107 (.tmp 34),none⟩,
    ⟨some 36,.load 149 (.tmp 7),none⟩,
    ⟨some 37,.lookup 107 (.tmp 35) (.tmp 36) true,none⟩,
    ⟨some 31,.move (.tmp 37),none⟩,
    ⟨some 38,.extract (.tmp 31) 0,none⟩,
    ⟨some 39,.extract (.tmp 31) 1,none⟩,
    ⟨some 8,.assign (.tmp 38),none⟩,
    ⟨some 9,.assign (.tmp 39),none⟩]
  [[],[0],[1],[2],[],[3,4],[5],[6],[6],[7,0,1,2,3,4,5,6,7],[8,9,0,1,2,3,4,5,6,7,8,9]]
@[reducible] def q58_8:SCode:=.region [⟨some 40,.move (.tmp 9),none⟩,
  ⟨some 41,.unOp .not 4 (.tmp 40),none⟩]
@[reducible] def q58_9:SCode:=.region [⟨some 43,.move (.tmp 0),none⟩,
  ⟨some 44,.move (.tmp 1),none⟩,
  ⟨some 45,.move (.tmp 2),none⟩,
  ⟨some 46,.call { callee:=.value (.func 107),args:=#[.tmp 43,.tmp 44,.tmp 45],argTypes:=#[106,105,3] },none⟩,
  ⟨some 42,.move (.tmp 46),none⟩,
  ⟨some 47,.extract (.tmp 42) 0,none⟩,
  ⟨some 48,.extract (.tmp 42) 1,none⟩,
  ⟨some 8,.assign (.tmp 48),none⟩]
def q58_10:SCode:=.draw [⟨some 49,.move (.tmp 0),none⟩,
    ⟨some 50,.nilCheck (.tmp 49),none⟩,
    ⟨some 51,.fieldAddr 109 (.tmp 50) 0,none⟩,
    ⟨some 52,.load 107 (.tmp 51),none⟩,
    ⟨some 53,.load 149 (.tmp 7),none⟩,
    ⟨some 54,.move (.tmp 8),none⟩,
    ⟨none,.mapUpdate 107 (.tmp 52) (.tmp 53) (.tmp 54),none⟩]
  [[],[0],[1],[2],[],[],[3,4,5,0,1,2,3,4,5]]
@[reducible] def q58_11:SCode:=.region [⟨some 55,.move (.tmp 8),none⟩,
  ⟨some 6,.assign (.tmp 55),none⟩]
def s58:SCode:=(.seq q58_0 (.seq (.seq q58_1 (.cond (.tmp 12) (.seq q58_2 .ret) .skip)) (.seq (.seq q58_3 (.cond (.tmp 22) (.seq q58_4 .ret) .skip)) (.seq q58_5 (.seq q58_6 (.seq q58_7 (.seq (.seq q58_8 (.cond (.tmp 41) (.seq q58_9 q58_10) .skip)) (.seq q58_11 .ret))))))))
theorem s58_strip:Yh (Yi Tryd.f58)=s58:=by kernel_rfl
theorem s58_ok:Yy 56 (Yi Tryd.f58)=true:=by kernel_rfl
/-! 105: (planchet guess.state).sum -/
@[reducible] def q105_0:SCode:=.region [⟨some 2,.assign (.const (.int .i64 0)),none⟩]
@[reducible] def q105_1:SCode:=.region [⟨some 3,.assign (.const (.int .i64 0)),none⟩]
@[reducible] def q105_2:SCode:=.region [⟨some 6,.move (.tmp 0),none⟩,
  ⟨some 7,.call { callee:=.builtin .len,args:=#[.tmp 6],argTypes:=#[105] },none⟩,
  ⟨some 8,.move (.const (.int .i64 0)),none⟩]
@[reducible] def q105_3:SCode:=.region [⟨some 9,.binOp .lss 3 (.tmp 8) (.tmp 7) 3,none⟩]
@[reducible] def q105_4:SCode:=.region [⟨some 10,.indexAddr 105 (.tmp 6) (.tmp 8),none⟩,
  ⟨some 11,.load 3 (.tmp 10),none⟩,
  ⟨some 5,.assign (.tmp 11),none⟩]
@[reducible] def q105_5:SCode:=.region [⟨some 12,.move (.tmp 3),none⟩,
  ⟨some 13,.move (.tmp 5),none⟩,
  ⟨some 14,.binOp .add 3 (.tmp 12) (.tmp 13) 3,none⟩,
  ⟨some 3,.assign (.tmp 14),none⟩]
@[reducible] def q105_6:SCode:=.region [⟨some 15,.binOp .add 3 (.tmp 8) (.const (.int .i64 1)) 3,none⟩,
  ⟨some 8,.move (.tmp 15),none⟩]
def l105_0:SCode:=(.seq q105_3 (.seq (.cond (.tmp 9) .skip (.exit 0)) (.seq (.block 1 (.seq q105_4 q105_5)) q105_6)))
@[reducible] def q105_7:SCode:=.region [⟨some 16,.move (.tmp 3),none⟩,
  ⟨some 2,.assign (.tmp 16),none⟩]
def s105:SCode:=(.seq q105_0 (.seq q105_1 (.seq (.seq q105_2 (.block 0 (.loop l105_0))) (.seq q105_7 .ret))))
theorem s105_strip:Yh (Yi Tryd.f105)=s105:=by kernel_rfl
theorem s105_ok:Yy 17 (Yi Tryd.f105)=true:=by kernel_rfl
/-! 106: (planchet guess.state).weight -/
@[reducible] def q106_0:SCode:=.region [⟨some 4,.assign (.const (.int .i64 0)),none⟩]
@[reducible] def q106_1:SCode:=.region [⟨some 5,.assign (.const (.int .i64 0)),none⟩]
@[reducible] def q106_2:SCode:=.region [⟨some 9,.move (.tmp 0),none⟩,
  ⟨some 10,.call { callee:=.builtin .len,args:=#[.tmp 9],argTypes:=#[105] },none⟩,
  ⟨some 11,.move (.const (.int .i64 0)),none⟩]
@[reducible] def q106_3:SCode:=.region [⟨some 12,.binOp .lss 3 (.tmp 11) (.tmp 10) 3,none⟩]
@[reducible] def q106_4:SCode:=.region [⟨some 13,.move (.tmp 11),none⟩,
  ⟨some 14,.indexAddr 105 (.tmp 9) (.tmp 11),none⟩,
  ⟨some 15,.load 3 (.tmp 14),none⟩,
  ⟨some 6,.assign (.tmp 13),none⟩,
  ⟨some 7,.assign (.tmp 15),none⟩]
@[reducible] def q106_5:SCode:=.region [⟨some 16,.move (.tmp 0),none⟩,
  ⟨some 17,.call { callee:=.builtin .len,args:=#[.tmp 16],argTypes:=#[105] },none⟩,
  ⟨some 18,.move (.tmp 6),none⟩,
  ⟨some 19,.binOp .sub 3 (.tmp 17) (.tmp 18) 3,none⟩,
  ⟨some 20,.move (.const (.int .i64 0)),none⟩]
@[reducible] def q106_6:SCode:=.region [⟨some 21,.binOp .lss 3 (.tmp 20) (.tmp 19) 3,none⟩]
@[reducible] def q106_7:SCode:=.region [⟨some 22,.move (.tmp 20),none⟩,
  ⟨some 8,.assign (.tmp 22),none⟩]
@[reducible] def q106_8:SCode:=.region [⟨some 23,.move (.tmp 5),none⟩,
  ⟨some 24,.move (.tmp 7),none⟩,
  ⟨some 25,.move (.tmp 1),none⟩,
  ⟨some 26,.move (.tmp 8),none⟩,
  ⟨some 27,.call { callee:=.value (.func 141),args:=#[.tmp 25,.tmp 26],argTypes:=#[3,3] },none⟩,
  ⟨some 28,.binOp .mul 3 (.tmp 24) (.tmp 27) 3,none⟩,
  ⟨some 29,.binOp .add 3 (.tmp 23) (.tmp 28) 3,none⟩,
  ⟨some 5,.assign (.tmp 29),none⟩]
@[reducible] def q106_9:SCode:=.region [⟨some 30,.binOp .add 3 (.tmp 20) (.const (.int .i64 1)) 3,none⟩,
  ⟨some 20,.move (.tmp 30),none⟩]
def l106_0:SCode:=(.seq q106_6 (.seq (.cond (.tmp 21) .skip (.exit 2)) (.seq (.block 3 (.seq q106_7 q106_8)) q106_9)))
@[reducible] def q106_10:SCode:=.region [⟨some 31,.binOp .add 3 (.tmp 11) (.const (.int .i64 1)) 3,none⟩,
  ⟨some 11,.move (.tmp 31),none⟩]
def l106_1:SCode:=(.seq q106_3 (.seq (.cond (.tmp 12) .skip (.exit 0)) (.seq (.block 1 (.seq q106_4 (.seq q106_5 (.block 2 (.loop l106_0))))) q106_10)))
@[reducible] def q106_11:SCode:=.region [⟨some 32,.move (.tmp 5),none⟩,
  ⟨some 4,.assign (.tmp 32),none⟩]
def s106:SCode:=(.seq q106_0 (.seq q106_1 (.seq (.seq q106_2 (.block 0 (.loop l106_1))) (.seq q106_11 .ret))))
theorem s106_strip:Yh (Yi Tryd.f106)=s106:=by kernel_rfl
theorem s106_ok:Yy 33 (Yi Tryd.f106)=true:=by kernel_rfl
/-! 107: (planchet guess.interview).ask -/
@[reducible] def q107_0:SCode:=.region [⟨some 3,.box 106 (.tmp 0),none⟩,
  ⟨some 4,.box 105 (.tmp 1),none⟩,
  ⟨some 5,.box 3 (.tmp 2),none⟩,
  ⟨some 6,.assign (.const (.slice none 0 0)),none⟩,
  ⟨some 7,.assign (.const (.bool false)),none⟩]
@[reducible] def q107_1:SCode:=.region [⟨some 8,.alloc 105,none⟩]
@[reducible] def q107_2:SCode:=.region [⟨some 9,.alloc 25,none⟩]
@[reducible] def q107_3:SCode:=.region [⟨some 11,.makeFunc (.func 142) #[] #[.tmp 8,.tmp 4,.tmp 5,.tmp 3,.tmp 9],none⟩,
  ⟨none,.store 25 (.tmp 9) (.tmp 11),none⟩]
@[reducible] def q107_4:SCode:=.region [⟨some 12,.load 25 (.tmp 9),none⟩,
  ⟨some 13,.call { callee:=.value (.tmp 12),args:=#[],argTypes:=#[] },none⟩,
  ⟨some 10,.assign (.tmp 13),none⟩]
@[reducible] def q107_5:SCode:=.region [⟨some 14,.load 105 (.tmp 8),none⟩,
  ⟨some 15,.move (.tmp 10),none⟩,
  ⟨some 6,.assign (.tmp 14),none⟩,
  ⟨some 7,.assign (.tmp 15),none⟩]
def s107:SCode:=(.seq q107_0 (.seq q107_1 (.seq q107_2 (.seq q107_3 (.seq q107_4 (.seq q107_5 .ret))))))
theorem s107_strip:Yh (Yi Tryd.f107)=s107:=by kernel_rfl
theorem s107_ok:Yy 16 (Yi Tryd.f107)=true:=by kernel_rfl
/-! 141: planchet guess.choose -/
@[reducible] def q141_0:SCode:=.region [⟨some 4,.assign (.const (.int .i64 0)),none⟩]
@[reducible] def q141_1:SCode:=.region [⟨some 5,.assign (.const (.int .i64 1)),none⟩]
@[reducible] def q141_2:SCode:=.region [⟨some 7,.move (.tmp 1),none⟩,
  ⟨some 8,.move (.const (.int .i64 0)),none⟩]
@[reducible] def q141_3:SCode:=.region [⟨some 9,.binOp .lss 3 (.tmp 8) (.tmp 7) 3,none⟩]
@[reducible] def q141_4:SCode:=.region [⟨some 10,.move (.tmp 8),none⟩,
  ⟨some 6,.assign (.tmp 10),none⟩]
@[reducible] def q141_5:SCode:=.region [⟨some 11,.move (.tmp 5),none⟩,
  ⟨some 12,.move (.tmp 0),none⟩,
  ⟨some 13,.move (.tmp 6),none⟩,
  ⟨some 14,.binOp .sub 3 (.tmp 12) (.tmp 13) 3,none⟩,
  ⟨some 15,.binOp .mul 3 (.tmp 11) (.tmp 14) 3,none⟩,
  ⟨some 16,.move (.tmp 6),none⟩,
  ⟨some 17,.binOp .add 3 (.tmp 16) (.const (.int .i64 1)) 3,none⟩,
  ⟨some 18,.binOp .quo 3 (.tmp 15) (.tmp 17) 3,none⟩,
  ⟨some 5,.assign (.tmp 18),none⟩]
@[reducible] def q141_6:SCode:=.region [⟨some 19,.binOp .add 3 (.tmp 8) (.const (.int .i64 1)) 3,none⟩,
  ⟨some 8,.move (.tmp 19),none⟩]
def l141_0:SCode:=(.seq q141_3 (.seq (.cond (.tmp 9) .skip (.exit 0)) (.seq (.block 1 (.seq q141_4 q141_5)) q141_6)))
@[reducible] def q141_7:SCode:=.region [⟨some 20,.move (.tmp 5),none⟩,
  ⟨some 4,.assign (.tmp 20),none⟩]
def s141:SCode:=(.seq q141_0 (.seq q141_1 (.seq (.seq q141_2 (.block 0 (.loop l141_0))) (.seq q141_7 .ret))))
theorem s141_strip:Yh (Yi Tryd.f141)=s141:=by kernel_rfl
theorem s141_ok:Yy 21 (Yi Tryd.f141)=true:=by kernel_rfl
/-! 142: (planchet guess.interview).ask$1 -/
@[reducible] def q142_0:SCode:=.region [⟨some 5,.assign (.const (.bool false)),none⟩]
@[reducible] def q142_1:SCode:=.region [⟨some 10,.load 105 (.tmp 0),none⟩,
  ⟨some 11,.call { callee:=.builtin .len,args:=#[.tmp 10],argTypes:=#[105] },none⟩,
  ⟨some 6,.assign (.tmp 11),none⟩]
@[reducible] def q142_2:SCode:=.region [⟨some 12,.move (.tmp 6),none⟩,
  ⟨some 13,.load 105 (.tmp 1),none⟩,
  ⟨some 14,.call { callee:=.builtin .len,args:=#[.tmp 13],argTypes:=#[105] },none⟩,
  ⟨some 15,.binOp .eql 3 (.tmp 12) (.tmp 14) 3,none⟩]
def q142_3:SCode:=.draw [⟨some 16,.load 105 (.tmp 1),none⟩,
    ⟨some 17,.load 105 (.tmp 0),none⟩,
    ⟨some 18,.call { callee:=.value (.func 143),args:=#[.tmp 16,.tmp 17,.const (.bool true)],argTypes:=#[105,27,4] },none⟩,
    ⟨some 19,.load 105 (.tmp 1),none⟩,
    ⟨some 20,.load 105 (.tmp 0),none⟩,
    ⟨some 21,.call { callee:=.value (.func 143),args:=#[.tmp 19,.tmp 20,.const (.bool false)],argTypes:=#[105,27,4] },none⟩,
    ⟨some 7,.assign (.tmp 18),none⟩,
    ⟨some 8,.assign (.tmp 21),none⟩]
  [[],[],[0,1],[],[],[3,4,2],[2,5,0,1,2],[5,6,0,1,2,3,4,5,6]]
def q142_4:SCode:=.draw [⟨some 22,.move (.tmp 7),none⟩,
    ⟨some 23,.load 3 (.tmp 2),none⟩,
    ⟨some 24,.binOp .sub 3 (.tmp 23) (.const (.int .i64 1)) 3,none⟩,
    ⟨some 25,.call { callee:=.value (.func 106),args:=#[.tmp 22,.tmp 24],argTypes:=#[105,3] },none⟩,
    ⟨some 26,.load 3 (.tmp 2),none⟩,
    ⟨some 27,.binOp .sub 3 (.tmp 26) (.const (.int .i64 1)) 3,none⟩,
    ⟨some 28,.binOp .shl 3 (.const (.int .i64 1)) (.tmp 27) 3,none⟩,
    ⟨some 29,.binOp .leq 3 (.tmp 25) (.tmp 28) 3,none⟩,
    ⟨some 30,.move (.tmp 29),none⟩,
    ⟨some 31,.move (.tmp 8),some (30,true)⟩,
    ⟨some 32,.load 3 (.tmp 2),some (30,true)⟩,
    ⟨some 33,.binOp .sub 3 (.tmp 32) (.const (.int .i64 1)) 3,some (30,true)⟩,
    ⟨some 34,.call { callee:=.value (.func 106),args:=#[.tmp 31,.tmp 33],argTypes:=#[105,3] },some (30,true)⟩,
    ⟨some 35,.load 3 (.tmp 2),some (30,true)⟩,
    ⟨some 36,.binOp .sub 3 (.tmp 35) (.const (.int .i64 1)) 3,some (30,true)⟩,
    ⟨some 37,.binOp .shl 3 (.const (.int .i64 1)) (.tmp 36) 3,some (30,true)⟩,
    ⟨some 38,.binOp .leq 3 (.tmp 34) (.tmp 37) 3,some (30,true)⟩,
    ⟨some 39,.pick (.tmp 30) (.tmp 38) (.const (.bool false)),none⟩,
    ⟨some 40,.move (.tmp 39),none⟩,
    ⟨some 41,.load 106 (.tmp 3),some (40,true)⟩,
    ⟨some 42,.move (.tmp 7),some (40,true)⟩,
    ⟨some 43,.load 3 (.tmp 2),some (40,true)⟩,
    ⟨some 44,.binOp .sub 3 (.tmp 43) (.const (.int .i64 1)) 3,some (40,true)⟩,
    ⟨some 45,.call { callee:=.value (.func 58),args:=#[.tmp 41,.tmp 42,.tmp 44],argTypes:=#[106,105,3] },some (40,true)⟩,
    ⟨some 46,.pick (.tmp 40) (.tmp 45) (.const (.bool false)),none⟩,
    ⟨some 47,.move (.tmp 46),none⟩,
    ⟨some 48,.load 106 (.tmp 3),some (47,true)⟩,
    ⟨some 49,.move (.tmp 8),some (47,true)⟩,
    ⟨some 50,.load 3 (.tmp 2),some (47,true)⟩,
    ⟨some 51,.binOp .sub 3 (.tmp 50) (.const (.int .i64 1)) 3,some (47,true)⟩,
    ⟨some 52,.call { callee:=.value (.func 58),args:=#[.tmp 48,.tmp 49,.tmp 51],argTypes:=#[106,105,3] },some (47,true)⟩,
    ⟨some 53,.pick (.tmp 47) (.tmp 52) (.const (.bool false)),none⟩,
    ⟨some 5,.assign (.tmp 53),none⟩]
  [[],[],[1],[0,2],[],[4],[5],[3,6],[7,3],[8],[8],[10,8],[9,11,8,8],[8],[13,8],[14,8],[12,15,8],[8,16],[17,12],[18],[18],[18],[21,18],[19,20,22,18,18],[18,23],[24,23],[25],[25],[25],[28,25],[26,27,29,25,25],[25,30],[31,30,0,1,2,3,4,5,6,7,8,9,10,11,12,13,14,15,16,17,18,19,20,21,22,23,24,25,26,27,28,29,30,31]]
@[reducible] def q142_5:SCode:=.region [⟨some 54,.load 105 (.tmp 1),none⟩,
  ⟨some 55,.move (.tmp 6),none⟩,
  ⟨some 56,.indexAddr 105 (.tmp 54) (.tmp 55),none⟩,
  ⟨some 57,.load 3 (.tmp 56),none⟩,
  ⟨some 58,.binOp .add 3 (.tmp 57) (.const (.int .i64 1)) 3,none⟩,
  ⟨some 59,.move (.const (.int .i64 0)),none⟩]
@[reducible] def q142_6:SCode:=.region [⟨some 60,.binOp .lss 3 (.tmp 59) (.tmp 58) 3,none⟩]
@[reducible] def q142_7:SCode:=.region [⟨some 61,.move (.tmp 59),none⟩,
  ⟨some 9,.assign (.tmp 61),none⟩]
@[reducible] def q142_8:SCode:=.region [⟨some 62,.load 105 (.tmp 0),none⟩,
  ⟨some 63,.move (.tmp 9),none⟩,
  ⟨some 64,.buildSlice 105 1 #[(0,.tmp 63)],none⟩,
  ⟨some 65,.call { callee:=.builtin .append,args:=#[.tmp 62,.tmp 64],argTypes:=#[105,105] },none⟩,
  ⟨none,.store 105 (.tmp 0) (.tmp 65),none⟩]
@[reducible] def q142_9:SCode:=.region [⟨some 66,.load 25 (.tmp 4),none⟩,
  ⟨some 67,.call { callee:=.value (.tmp 66),args:=#[],argTypes:=#[] },none⟩]
@[reducible] def q142_10:SCode:=.region [⟨some 5,.assign (.const (.bool true)),none⟩]
@[reducible] def q142_11:SCode:=.region [⟨some 68,.load 105 (.tmp 0),none⟩,
  ⟨some 69,.move (.tmp 6),none⟩,
  ⟨some 70,.slice 105 (.tmp 68) none (some (.tmp 69)) none,none⟩,
  ⟨none,.store 105 (.tmp 0) (.tmp 70),none⟩]
@[reducible] def q142_12:SCode:=.region [⟨some 71,.binOp .add 3 (.tmp 59) (.const (.int .i64 1)) 3,none⟩,
  ⟨some 59,.move (.tmp 71),none⟩]
def l142_0:SCode:=(.seq q142_6 (.seq (.cond (.tmp 60) .skip (.exit 0)) (.seq (.block 1 (.seq q142_7 (.seq q142_8 (.seq (.seq q142_9 (.cond (.tmp 67) (.seq q142_10 .ret) .skip)) q142_11)))) q142_12)))
@[reducible] def q142_13:SCode:=.region [⟨some 5,.assign (.const (.bool false)),none⟩]
def s142:SCode:=(.seq q142_0 (.seq q142_1 (.seq (.seq q142_2 (.cond (.tmp 15) (.seq q142_3 (.seq q142_4 .ret)) .skip)) (.seq (.seq q142_5 (.block 0 (.loop l142_0))) (.seq q142_13 .ret)))))
theorem s142_strip:Yh (Yi Tryd.f142)=s142:=by kernel_rfl
theorem s142_ok:Yy 72 (Yi Tryd.f142)=true:=by kernel_rfl
/-! 143: (planchet guess.state).after -/
@[reducible] def q143_0:SCode:=.region [⟨some 6,.assign (.const (.slice none 0 0)),none⟩]
@[reducible] def q143_1:SCode:=.region [⟨some 12,.move (.tmp 0),none⟩,
  ⟨some 13,.call { callee:=.builtin .len,args:=#[.tmp 12],argTypes:=#[105] },none⟩,
  ⟨some 14,.makeSlice 105 (.tmp 13) (.tmp 13),none⟩,
  ⟨some 7,.assign (.tmp 14),none⟩]
@[reducible] def q143_2:SCode:=.region [⟨some 15,.move (.tmp 1),none⟩,
  ⟨some 16,.call { callee:=.builtin .len,args:=#[.tmp 15],argTypes:=#[27] },none⟩,
  ⟨some 17,.move (.const (.int .i64 0)),none⟩]
@[reducible] def q143_3:SCode:=.region [⟨some 18,.binOp .lss 3 (.tmp 17) (.tmp 16) 3,none⟩]
@[reducible] def q143_4:SCode:=.region [⟨some 19,.move (.tmp 17),none⟩,
  ⟨some 20,.indexAddr 27 (.tmp 15) (.tmp 17),none⟩,
  ⟨some 21,.load 3 (.tmp 20),none⟩,
  ⟨some 8,.assign (.tmp 19),none⟩,
  ⟨some 9,.assign (.tmp 21),none⟩]
def q143_5:SCode:=.draw [⟨some 22,.move (.tmp 9),none⟩,
    ⟨some 23,.move (.tmp 0),none⟩,
    ⟨some 24,.move (.tmp 8),none⟩,
    ⟨some 25,.indexAddr 105 (.tmp 23) (.tmp 24),none⟩,
    ⟨some 26,.load 3 (.tmp 25),none⟩,
    ⟨some 27,.move (.tmp 9),none⟩,
    ⟨some 28,.binOp .sub 3 (.tmp 26) (.tmp 27) 3,none⟩,
    ⟨some 10,.assign (.tmp 22),none⟩,
    ⟨some 11,.assign (.tmp 28),none⟩]
  [[],[],[],[1,2],[3],[],[4,5],[0,0],[6,7,0,1,2,3,4,5,6,7]]
@[reducible] def q143_6:SCode:=.region [⟨some 29,.move (.tmp 2),none⟩,
  ⟨some 30,.unOp .not 4 (.tmp 29),none⟩]
@[reducible] def q143_7:SCode:=.region [⟨some 31,.move (.tmp 11),none⟩,
  ⟨some 32,.move (.tmp 10),none⟩,
  ⟨some 10,.assign (.tmp 31),none⟩,
  ⟨some 11,.assign (.tmp 32),none⟩]
@[reducible] def q143_8:SCode:=.region [⟨some 33,.move (.tmp 7),none⟩,
  ⟨some 34,.move (.tmp 8),none⟩,
  ⟨some 35,.indexAddr 105 (.tmp 33) (.tmp 34),none⟩,
  ⟨some 36,.load 3 (.tmp 35),none⟩,
  ⟨some 37,.move (.tmp 10),none⟩,
  ⟨some 38,.binOp .add 3 (.tmp 36) (.tmp 37) 3,none⟩,
  ⟨some 39,.indexAddr 105 (.tmp 33) (.tmp 34),none⟩,
  ⟨none,.store 3 (.tmp 39) (.tmp 38),none⟩]
@[reducible] def q143_9:SCode:=.region [⟨some 40,.move (.tmp 8),none⟩,
  ⟨some 41,.binOp .add 3 (.tmp 40) (.const (.int .i64 1)) 3,none⟩,
  ⟨some 42,.move (.tmp 0),none⟩,
  ⟨some 43,.call { callee:=.builtin .len,args:=#[.tmp 42],argTypes:=#[105] },none⟩,
  ⟨some 44,.binOp .lss 3 (.tmp 41) (.tmp 43) 3,none⟩]
@[reducible] def q143_10:SCode:=.region [⟨some 45,.move (.tmp 7),none⟩,
  ⟨some 46,.move (.tmp 8),none⟩,
  ⟨some 47,.binOp .add 3 (.tmp 46) (.const (.int .i64 1)) 3,none⟩,
  ⟨some 48,.indexAddr 105 (.tmp 45) (.tmp 47),none⟩,
  ⟨some 49,.load 3 (.tmp 48),none⟩,
  ⟨some 50,.move (.tmp 11),none⟩,
  ⟨some 51,.binOp .add 3 (.tmp 49) (.tmp 50) 3,none⟩,
  ⟨some 52,.indexAddr 105 (.tmp 45) (.tmp 47),none⟩,
  ⟨none,.store 3 (.tmp 52) (.tmp 51),none⟩]
@[reducible] def q143_11:SCode:=.region [⟨some 53,.binOp .add 3 (.tmp 17) (.const (.int .i64 1)) 3,none⟩,
  ⟨some 17,.move (.tmp 53),none⟩]
def l143_0:SCode:=(.seq q143_3 (.seq (.cond (.tmp 18) .skip (.exit 0)) (.seq (.block 1 (.seq q143_4 (.seq q143_5 (.seq (.seq q143_6 (.cond (.tmp 30) q143_7 .skip)) (.seq q143_8 (.seq q143_9 (.cond (.tmp 44) q143_10 .skip))))))) q143_11)))
@[reducible] def q143_12:SCode:=.region [⟨some 54,.move (.tmp 7),none⟩,
  ⟨some 6,.assign (.tmp 54),none⟩]
def s143:SCode:=(.seq q143_0 (.seq q143_1 (.seq (.seq q143_2 (.block 0 (.loop l143_0))) (.seq q143_12 .ret))))
theorem s143_strip:Yh (Yi Tryd.f143)=s143:=by kernel_rfl
theorem s143_ok:Yy 55 (Yi Tryd.f143)=true:=by kernel_rfl
end Go.Proofs.Tryd.Am
namespace Go.Proofs.Tryd.Am
open Go.Am
set_option maxRecDepth 100000
/-! 13: slices.Clone[[]int,int] -/
@[reducible] def q13_0:SCode:=.region [⟨some 2,.assign (.const (.slice none 0 0)),none⟩]
@[reducible] def q13_1:SCode:=.region [⟨some 3,.move (.tmp 0),none⟩,
  ⟨some 4,.binOp .eql 27 (.tmp 3) (.const (.slice none 0 0)) 27,none⟩]
@[reducible] def q13_2:SCode:=.region [⟨some 2,.assign (.const (.slice none 0 0)),none⟩]
@[reducible] def q13_3:SCode:=.region [⟨some 5,.buildSlice 27 0 #[],none⟩,
  ⟨some 6,.move (.tmp 0),none⟩,
  ⟨some 7,.call { callee:=.builtin .append,args:=#[.tmp 5,.tmp 6],argTypes:=#[27,27] },none⟩,
  ⟨some 2,.assign (.tmp 7),none⟩]
def s13:SCode:=(.seq q13_0 (.seq (.seq q13_1 (.cond (.tmp 4) (.seq q13_2 .ret) .skip)) (.seq q13_3 .ret)))
theorem s13_strip:Yh (Yi Tryd.f13)=s13:=by kernel_rfl
theorem s13_ok:Yy 8 (Yi Tryd.f13)=true:=by kernel_rfl
theorem s13_call [Tabs Tryd.prog] {args:List Value} {h:Yb} {Q:Value→Yb→Prop} (hsz:args.length≤8) (hk:aw Tryd.prog 8 s13 (Zu Tryd.prog [.tmp 2] Q) (Zp 0 args) h):ACall Tryd.prog 13 args h Q :=
 Vc Tryd.func13 rfl (enters_of Tryd.func13 (by kernel_rfl) rfl) rfl rfl (by decide) s13_strip s13_ok hsz hk
/-! 17: planchet planchettop.stands -/
@[reducible] def q17_0:SCode:=.region [⟨some 0,.assign (.const (.bool false)),none⟩]
@[reducible] def q17_1:SCode:=.region [⟨some 4,.buildSlice 27 2 #[(0,.const (.int .i64 0)),(1,.const (.int .i64 0))],none⟩,
  ⟨some 5,.call { callee:=.value (.func 18),args:=#[.tmp 4],argTypes:=#[27] },none⟩,
  ⟨some 3,.move (.tmp 5),none⟩,
  ⟨some 6,.extract (.tmp 3) 0,none⟩,
  ⟨some 7,.extract (.tmp 3) 1,none⟩,
  ⟨some 1,.assign (.tmp 6),none⟩,
  ⟨some 2,.assign (.tmp 7),none⟩]
@[reducible] def q17_2:SCode:=.region [⟨some 8,.move (.tmp 1),none⟩,
  ⟨some 9,.binOp .eql 3 (.tmp 8) (.const (.int .i64 2)) 3,none⟩,
  ⟨some 10,.move (.tmp 9),none⟩,
  ⟨some 11,.move (.tmp 2),some (10,true)⟩,
  ⟨some 12,.binOp .eql 29 (.tmp 11) (.const (.int .i64 0)) 29,some (10,true)⟩,
  ⟨some 13,.pick (.tmp 10) (.tmp 12) (.const (.bool false)),none⟩,
  ⟨some 0,.assign (.tmp 13),none⟩]
def s17:SCode:=(.seq q17_0 (.seq q17_1 (.seq q17_2 .ret)))
theorem s17_strip:Yh (Yi Tryd.f17)=s17:=by kernel_rfl
theorem s17_ok:Yy 14 (Yi Tryd.f17)=true:=by kernel_rfl
theorem s17_call [Tabs Tryd.prog] {args:List Value} {h:Yb} {Q:Value→Yb→Prop} (hsz:args.length≤14) (hk:aw Tryd.prog 14 s17 (Zu Tryd.prog [.tmp 0] Q) (Zp 0 args) h):ACall Tryd.prog 17 args h Q :=
 Vc Tryd.func17 rfl (enters_of Tryd.func17 (by kernel_rfl) rfl) rfl rfl (by decide) s17_strip s17_ok hsz hk
/-! 18: planchet order.Count -/
@[reducible] def q18_0:SCode:=.region [⟨some 2,.assign (.const (.int .i64 0)),none⟩,
  ⟨some 3,.assign (.const (.int .i64 0)),none⟩]
@[reducible] def q18_1:SCode:=.region [⟨some 7,.move (.tmp 0),none⟩,
  ⟨some 8,.call { callee:=.value (.func 54),args:=#[.tmp 7],argTypes:=#[27] },none⟩,
  ⟨some 6,.move (.tmp 8),none⟩,
  ⟨some 9,.extract (.tmp 6) 0,none⟩,
  ⟨some 10,.extract (.tmp 6) 1,none⟩,
  ⟨some 4,.alloc 97,none⟩,
  ⟨none,.store 97 (.tmp 4) (.tmp 9),none⟩,
  ⟨some 5,.assign (.tmp 10),none⟩]
@[reducible] def q18_2:SCode:=.region [⟨some 11,.move (.tmp 5),none⟩,
  ⟨some 12,.unOp .not 4 (.tmp 11),none⟩]
@[reducible] def q18_3:SCode:=.region [⟨some 2,.assign (.const (.int .i64 0)),none⟩,
  ⟨some 3,.assign (.const (.int .i64 2)),none⟩]
@[reducible] def q18_4:SCode:=.region [⟨some 13,.load 97 (.tmp 4),none⟩,
  ⟨some 14,.call { callee:=.value (.func 56),args:=#[.tmp 13],argTypes:=#[97] },none⟩,
  ⟨some 2,.assign (.tmp 14),none⟩,
  ⟨some 3,.assign (.const (.int .i64 0)),none⟩]
def s18:SCode:=(.seq q18_0 (.seq q18_1 (.seq (.seq q18_2 (.cond (.tmp 12) (.seq q18_3 .ret) .skip)) (.seq q18_4 .ret))))
theorem s18_strip:Yh (Yi Tryd.f18)=s18:=by kernel_rfl
theorem s18_ok:Yy 15 (Yi Tryd.f18)=true:=by kernel_rfl
theorem s18_call [Tabs Tryd.prog] {args:List Value} {h:Yb} {Q:Value→Yb→Prop} (hsz:args.length≤15) (hk:aw Tryd.prog 15 s18 (Zu Tryd.prog [.tmp 2,.tmp 3] Q) (Zp 0 args) h):ACall Tryd.prog 18 args h Q :=
 Vc Tryd.func18 rfl (enters_of Tryd.func18 (by kernel_rfl) rfl) rfl rfl (by decide) s18_strip s18_ok hsz hk
/-! 54: planchet order.read -/
@[reducible] def q54_0:SCode:=.region [⟨some 1,.box 27 (.tmp 0),none⟩,
  ⟨some 2,.alloc 97,none⟩,
  ⟨some 3,.alloc 4,none⟩]
@[reducible] def q54_1:SCode:=.region [⟨some 8,.load 27 (.tmp 1),none⟩,
  ⟨some 9,.call { callee:=.builtin .len,args:=#[.tmp 8],argTypes:=#[27] },none⟩,
  ⟨some 10,.build 97 #[(0,.tmp 9)],none⟩,
  ⟨some 4,.alloc 97,none⟩,
  ⟨none,.store 97 (.tmp 4) (.tmp 10),none⟩]
@[reducible] def q54_2:SCode:=.region [⟨some 11,.load 27 (.tmp 1),none⟩,
  ⟨some 12,.call { callee:=.builtin .len,args:=#[.tmp 11],argTypes:=#[27] },none⟩,
  ⟨some 13,.binOp .lss 3 (.tmp 12) (.const (.int .i64 1)) 3,none⟩,
  ⟨some 14,.move (.tmp 13),none⟩,
  ⟨some 15,.load 27 (.tmp 1),some (14,false)⟩,
  ⟨some 16,.call { callee:=.builtin .len,args:=#[.tmp 15],argTypes:=#[27] },some (14,false)⟩,
  ⟨some 17,.binOp .gtr 3 (.tmp 16) (.const (.int .i64 6)) 3,some (14,false)⟩,
  ⟨some 18,.pick (.tmp 14) (.const (.bool true)) (.tmp 17),none⟩]
@[reducible] def q54_3:SCode:=.region [⟨some 19,.load 97 (.tmp 4),none⟩,
  ⟨none,.store 97 (.tmp 2) (.tmp 19),none⟩,
  ⟨none,.store 4 (.tmp 3) (.const (.bool false)),none⟩]
def q54_4:SCode:=.draw [⟨some 20,.fieldAddr 97 (.tmp 4) 1,none⟩,
    ⟨some 21,.slice 95 (.tmp 20) none none none,none⟩,
    ⟨some 22,.load 27 (.tmp 1),none⟩,
    ⟨some 23,.call { callee:=.builtin .copy,args:=#[.tmp 21,.tmp 22],argTypes:=#[27,27] },none⟩]
  [[],[0],[],[1,2]]
@[reducible] def q54_5:SCode:=.region [⟨some 24,.load 27 (.tmp 1),none⟩,
  ⟨some 25,.call { callee:=.builtin .len,args:=#[.tmp 24],argTypes:=#[27] },none⟩,
  ⟨some 26,.move (.const (.int .i64 0)),none⟩]
@[reducible] def q54_6:SCode:=.region [⟨some 27,.binOp .lss 3 (.tmp 26) (.tmp 25) 3,none⟩]
@[reducible] def q54_7:SCode:=.region [⟨some 28,.move (.tmp 26),none⟩,
  ⟨some 29,.indexAddr 27 (.tmp 24) (.tmp 26),none⟩,
  ⟨some 30,.load 3 (.tmp 29),none⟩,
  ⟨some 6,.alloc 3,none⟩,
  ⟨some 5,.assign (.tmp 28),none⟩,
  ⟨none,.store 3 (.tmp 6) (.tmp 30),none⟩]
def q54_8:SCode:=.draw [⟨some 31,.load 3 (.tmp 6),none⟩,
    ⟨some 32,.binOp .lss 3 (.tmp 31) (.const (.int .i64 0)) 3,none⟩,
    ⟨some 33,.move (.tmp 32),none⟩,
    ⟨some 34,.load 3 (.tmp 6),some (33,false)⟩,
    ⟨some 35,.load 27 (.tmp 1),some (33,false)⟩,
    ⟨some 36,.call { callee:=.builtin .len,args:=#[.tmp 35],argTypes:=#[27] },some (33,false)⟩,
    ⟨some 37,.binOp .shl 3 (.const (.int .i64 1)) (.tmp 36) 3,some (33,false)⟩,
    ⟨some 38,.binOp .geq 3 (.tmp 34) (.tmp 37) 3,some (33,false)⟩,
    ⟨some 39,.pick (.tmp 33) (.const (.bool true)) (.tmp 38),none⟩,
    ⟨some 40,.move (.tmp 39),none⟩,
    ⟨some 41,.load 3 (.tmp 6),some (40,false)⟩,
    ⟨some 42,.move (.tmp 5),some (40,false)⟩,
    ⟨some 43,.binOp .shr 3 (.tmp 41) (.tmp 42) 3,some (40,false)⟩,
    ⟨some 44,.binOp .and 3 (.tmp 43) (.const (.int .i64 1)) 3,some (40,false)⟩,
    ⟨some 45,.binOp .eql 3 (.tmp 44) (.const (.int .i64 1)) 3,some (40,false)⟩,
    ⟨some 46,.pick (.tmp 40) (.const (.bool true)) (.tmp 45),none⟩]
  [[],[0],[1],[2],[2],[4,2],[5,2],[3,6,2],[2,7],[8,2],[9],[9],[10,11,9],[12,9],[13,9],[9,14]]
@[reducible] def q54_9:SCode:=.region [⟨some 47,.load 97 (.tmp 4),none⟩,
  ⟨none,.store 97 (.tmp 2) (.tmp 47),none⟩,
  ⟨none,.store 4 (.tmp 3) (.const (.bool false)),none⟩]
@[reducible] def q54_10:SCode:=.region [⟨some 48,.load 3 (.tmp 6),none⟩,
  ⟨some 49,.call { callee:=.value (.func 100),args:=#[.tmp 48],argTypes:=#[3] },none⟩]
@[reducible] def q54_11:SCode:=.region [⟨some 7,.assign (.tmp 50),none⟩]
def q54_12:SCode:=.draw [⟨some 51,.load 27 (.tmp 1),none⟩,
    ⟨some 52,.move (.tmp 7),none⟩,
    ⟨some 53,.indexAddr 27 (.tmp 51) (.tmp 52),none⟩,
    ⟨some 54,.load 3 (.tmp 53),none⟩,
    ⟨some 55,.load 3 (.tmp 6),none⟩,
    ⟨some 56,.binOp .andNot 3 (.tmp 54) (.tmp 55) 3,none⟩,
    ⟨some 57,.binOp .neq 3 (.tmp 56) (.const (.int .i64 0)) 3,none⟩]
  [[],[],[0,1],[2],[],[3,4],[5]]
@[reducible] def q54_13:SCode:=.region [⟨some 58,.load 97 (.tmp 4),none⟩,
  ⟨none,.store 97 (.tmp 2) (.tmp 58),none⟩,
  ⟨none,.store 4 (.tmp 3) (.const (.bool false)),none⟩]
def r54_0_a:SCode:=q54_11
def r54_0_b:SCode:=(.block 3 (.seq q54_12 (.cond (.tmp 57) (.seq q54_13 .ret) .skip)))
@[reducible] def q54_14:SCode:=.region [⟨some 59,.binOp .add 3 (.tmp 26) (.const (.int .i64 1)) 3,none⟩,
  ⟨some 26,.move (.tmp 59),none⟩]
def l54_1:SCode:=(.seq q54_6 (.seq (.cond (.tmp 27) .skip (.exit 0)) (.seq (.block 1 (.seq q54_7 (.seq (.seq q54_8 (.cond (.tmp 46) (.seq q54_9 .ret) .skip)) (.seq q54_10 (.block 2 (.range (.tmp 49) [50] r54_0_a r54_0_b)))))) q54_14)))
@[reducible] def q54_15:SCode:=.region [⟨some 60,.load 97 (.tmp 4),none⟩,
  ⟨none,.store 97 (.tmp 2) (.tmp 60),none⟩,
  ⟨none,.store 4 (.tmp 3) (.const (.bool true)),none⟩]
def s54:SCode:=(.seq q54_0 (.seq q54_1 (.seq (.seq q54_2 (.cond (.tmp 18) (.seq q54_3 .ret) .skip)) (.seq q54_4 (.seq (.seq q54_5 (.block 0 (.loop l54_1))) (.seq q54_15 .ret))))))
theorem s54_strip:Yh (Yi Tryd.f54)=s54:=by kernel_rfl
theorem s54_ok:Yy 61 (Yi Tryd.f54)=true:=by kernel_rfl
theorem s54_call [Tabs Tryd.prog] {args:List Value} {h:Yb} {Q:Value→Yb→Prop} (hsz:args.length≤61) (hk:aw Tryd.prog 61 s54 (Zu Tryd.prog [.cell 2 97,.cell 3 4] Q) (Zp 0 args) h):ACall Tryd.prog 54 args h Q :=
 Vc Tryd.func54 rfl (enters_of Tryd.func54 (by kernel_rfl) rfl) rfl rfl (by decide) s54_strip s54_ok hsz hk
/-! 56: (planchet order.order).counted -/
@[reducible] def q56_0:SCode:=.region [⟨some 1,.box 97 (.tmp 0),none⟩,
  ⟨some 2,.assign (.const (.int .i64 0)),none⟩]
@[reducible] def q56_1:SCode:=.region [⟨some 6,.load 97 (.tmp 1),none⟩,
  ⟨some 7,.call { callee:=.value (.func 103),args:=#[.tmp 6],argTypes:=#[97] },none⟩,
  ⟨some 8,.binOp .add 3 (.tmp 7) (.const (.int .i64 1)) 3,none⟩,
  ⟨some 9,.makeSlice 27 (.tmp 8) (.tmp 8),none⟩,
  ⟨some 3,.alloc 27,none⟩,
  ⟨none,.store 27 (.tmp 3) (.tmp 9),none⟩]
@[reducible] def q56_2:SCode:=.region [⟨some 10,.load 27 (.tmp 3),none⟩,
  ⟨some 11,.indexAddr 27 (.tmp 10) (.const (.int .i64 0)),none⟩,
  ⟨none,.store 3 (.tmp 11) (.const (.int .i64 1)),none⟩]
@[reducible] def q56_3:SCode:=.region [⟨some 4,.alloc 3,none⟩,
  ⟨none,.store 3 (.tmp 4) (.const (.int .i64 1)),none⟩]
def q56_4:SCode:=.draw [⟨some 12,.load 3 (.tmp 4),none⟩,
    ⟨some 13,.load 97 (.tmp 1),none⟩,
    ⟨some 14,.call { callee:=.value (.func 103),args:=#[.tmp 13],argTypes:=#[97] },none⟩,
    ⟨some 15,.binOp .leq 3 (.tmp 12) (.tmp 14) 3,none⟩]
  [[],[],[1],[0,2]]
@[reducible] def q56_6:SCode:=.region [⟨some 18,.load 3 (.tmp 4),none⟩,
  ⟨some 19,.call { callee:=.value (.func 100),args:=#[.tmp 18],argTypes:=#[3] },none⟩]
@[reducible] def q56_7:SCode:=.region [⟨some 5,.assign (.tmp 20),none⟩]
def q56_8:SCode:=.draw [⟨some 21,.load 97 (.tmp 1),none⟩,
    ⟨some 22,.move (.tmp 5),none⟩,
    ⟨some 23,.call { callee:=.value (.func 104),args:=#[.tmp 21,.tmp 22],argTypes:=#[97,3] },none⟩,
    ⟨some 24,.load 3 (.tmp 4),none⟩,
    ⟨some 25,.binOp .andNot 3 (.tmp 23) (.tmp 24) 3,none⟩,
    ⟨some 26,.binOp .eql 3 (.tmp 25) (.const (.int .i64 0)) 3,none⟩,
    ⟨some 27,.move (.tmp 26),none⟩,
    ⟨some 28,.move (.tmp 5),some (27,true)⟩,
    ⟨some 29,.fieldAddr 97 (.tmp 1) 1,some (27,true)⟩,
    ⟨some 30,.indexAddr 95 (.tmp 29) (.tmp 28),some (27,true)⟩,
    ⟨some 31,.load 3 (.tmp 30),some (27,true)⟩,
    ⟨some 32,.load 3 (.tmp 4),some (27,true)⟩,
    ⟨some 33,.binOp .and 3 (.tmp 31) (.tmp 32) 3,some (27,true)⟩,
    ⟨some 34,.binOp .eql 3 (.tmp 33) (.const (.int .i64 0)) 3,some (27,true)⟩,
    ⟨some 35,.pick (.tmp 27) (.tmp 34) (.const (.bool false)),none⟩]
  [[],[],[0,1],[],[2,3],[4],[5,2],[6],[6],[8,7,6],[9,6],[6],[10,11,6],[12,6],[6,13]]
def q56_9:SCode:=.draw [⟨some 36,.load 27 (.tmp 3),none⟩,
    ⟨some 37,.load 3 (.tmp 4),none⟩,
    ⟨some 38,.indexAddr 27 (.tmp 36) (.tmp 37),none⟩,
    ⟨some 39,.load 3 (.tmp 38),none⟩,
    ⟨some 40,.load 27 (.tmp 3),none⟩,
    ⟨some 41,.load 3 (.tmp 4),none⟩,
    ⟨some 42,.move (.tmp 5),none⟩,
    ⟨some 43,.binOp .shl 3 (.const (.int .i64 1)) (.tmp 42) 3,none⟩,
    ⟨some 44,.binOp .andNot 3 (.tmp 41) (.tmp 43) 3,none⟩,
    ⟨some 45,.indexAddr 27 (.tmp 40) (.tmp 44),none⟩,
    ⟨some 46,.load 3 (.tmp 45),none⟩,
    ⟨some 47,.binOp .add 3 (.tmp 39) (.tmp 46) 3,none⟩,
    ⟨some 48,.indexAddr 27 (.tmp 36) (.tmp 37),none⟩,
    ⟨none,.store 3 (.tmp 48) (.tmp 47),none⟩]
  [[],[],[0,1],[2],[],[],[],[6],[5,7],[4,8],[9],[3,10],[0,1,0,1,2,3,4,5,6,7,8,9,10,11],[12,11,0,1,2,3,4,5,6,7,8,9,10,11]]
def r56_0_a:SCode:=q56_7
def r56_0_b:SCode:=(.block 3 (.seq q56_8 (.cond (.tmp 35) q56_9 .skip)))
@[reducible] def q56_10:SCode:=.region [⟨some 49,.load 3 (.tmp 4),none⟩]
@[reducible] def q56_11:SCode:=.region [⟨some 4,.alloc 3,none⟩,
  ⟨none,.store 3 (.tmp 4) (.tmp 49),none⟩]
@[reducible] def q56_5:SCode:=.region [⟨some 16,.load 3 (.tmp 4),none⟩,
  ⟨some 17,.binOp .add 3 (.tmp 16) (.const (.int .i64 1)) 3,none⟩,
  ⟨none,.store 3 (.tmp 4) (.tmp 17),none⟩]
def l56_1:SCode:=(.seq (.seq q56_4 (.cond (.tmp 15) .skip (.exit 0))) (.seq (.block 1 (.seq q56_6 (.block 2 (.range (.tmp 19) [20] r56_0_a r56_0_b)))) (.seq (.seq q56_10 q56_11) q56_5)))
def q56_12:SCode:=.draw [⟨some 50,.load 27 (.tmp 3),none⟩,
    ⟨some 51,.load 97 (.tmp 1),none⟩,
    ⟨some 52,.call { callee:=.value (.func 103),args:=#[.tmp 51],argTypes:=#[97] },none⟩,
    ⟨some 53,.indexAddr 27 (.tmp 50) (.tmp 52),none⟩,
    ⟨some 54,.load 3 (.tmp 53),none⟩,
    ⟨some 2,.assign (.tmp 54),none⟩]
  [[],[],[1],[0,2],[3],[4,2,0,1,2,3,4]]
def s56:SCode:=(.seq q56_0 (.seq q56_1 (.seq q56_2 (.seq (.seq q56_3 (.block 0 (.loop l56_1))) (.seq q56_12 .ret)))))
theorem s56_strip:Yh (Yi Tryd.f56)=s56:=by kernel_rfl
theorem s56_ok:Yy 55 (Yi Tryd.f56)=true:=by kernel_rfl
theorem s56_call [Tabs Tryd.prog] {args:List Value} {h:Yb} {Q:Value→Yb→Prop} (hsz:args.length≤55) (hk:aw Tryd.prog 55 s56 (Zu Tryd.prog [.tmp 2] Q) (Zp 0 args) h):ACall Tryd.prog 56 args h Q :=
 Vc Tryd.func56 rfl (enters_of Tryd.func56 (by kernel_rfl) rfl) rfl rfl (by decide) s56_strip s56_ok hsz hk
end Go.Proofs.Tryd.Am
namespace Go.Proofs.Tryd.Am
open Go.Am
set_option maxRecDepth 100000
/-! 100: planchet order.elements -/
@[reducible] def q100_0:SCode:=.region [⟨some 1,.box 3 (.tmp 0),none⟩,
  ⟨some 2,.assign (.const .nilFunc),none⟩]
@[reducible] def q100_1:SCode:=.region [⟨some 3,.makeFunc (.func 136) #[] #[.tmp 1],none⟩,
  ⟨some 2,.assign (.tmp 3),none⟩]
def s100:SCode:=(.seq q100_0 (.seq q100_1 .ret))
theorem s100_strip:Yh (Yi Tryd.f100)=s100:=by kernel_rfl
theorem s100_ok:Yy 4 (Yi Tryd.f100)=true:=by kernel_rfl
theorem s100_call [Tabs Tryd.prog] {args:List Value} {h:Yb} {Q:Value→Yb→Prop} (hsz:args.length≤4) (hk:aw Tryd.prog 4 s100 (Zu Tryd.prog [.tmp 2] Q) (Zp 0 args) h):ACall Tryd.prog 100 args h Q :=
 Vc Tryd.func100 rfl (enters_of Tryd.func100 (by kernel_rfl) rfl) rfl rfl (by decide) s100_strip s100_ok hsz hk
/-! 101: math bits.Len -/
@[reducible] def q101_0:SCode:=.region [⟨some 2,.assign (.const (.int .i64 0)),none⟩]
@[reducible] def q101_1:SCode:=.region [⟨some 3,.move (.tmp 0),none⟩,
  ⟨some 4,.convert 57 170 (.tmp 3),none⟩,
  ⟨some 5,.call { callee:=.value (.func 138),args:=#[.tmp 4],argTypes:=#[170] },none⟩,
  ⟨some 2,.assign (.tmp 5),none⟩]
@[reducible] def q101_2:SCode:=.region [⟨some 6,.move (.tmp 0),none⟩,
  ⟨some 7,.call { callee:=.value (.func 139),args:=#[.tmp 6],argTypes:=#[88] },none⟩,
  ⟨some 2,.assign (.tmp 7),none⟩]
def s101:SCode:=(.seq q101_0 (.seq (.cond (.const (.bool false)) (.seq q101_1 .ret) .skip) (.seq q101_2 .ret)))
theorem s101_strip:Yh (Yi Tryd.f101)=s101:=by kernel_rfl
theorem s101_ok:Yy 8 (Yi Tryd.f101)=true:=by kernel_rfl
/-! 103: (planchet order.order).all -/
@[reducible] def q103_0:SCode:=.region [⟨some 1,.box 97 (.tmp 0),none⟩,
  ⟨some 2,.assign (.const (.int .i64 0)),none⟩]
@[reducible] def q103_1:SCode:=.region [⟨some 3,.fieldAddr 97 (.tmp 1) 0,none⟩,
  ⟨some 4,.load 3 (.tmp 3),none⟩,
  ⟨some 5,.binOp .shl 3 (.const (.int .i64 1)) (.tmp 4) 3,none⟩,
  ⟨some 6,.binOp .sub 3 (.tmp 5) (.const (.int .i64 1)) 3,none⟩,
  ⟨some 2,.assign (.tmp 6),none⟩]
def s103:SCode:=(.seq q103_0 (.seq q103_1 .ret))
theorem s103_strip:Yh (Yi Tryd.f103)=s103:=by kernel_rfl
theorem s103_ok:Yy 7 (Yi Tryd.f103)=true:=by kernel_rfl
theorem s103_call [Tabs Tryd.prog] {args:List Value} {h:Yb} {Q:Value→Yb→Prop} (hsz:args.length≤7) (hk:aw Tryd.prog 7 s103 (Zu Tryd.prog [.tmp 2] Q) (Zp 0 args) h):ACall Tryd.prog 103 args h Q :=
 Vc Tryd.func103 rfl (enters_of Tryd.func103 (by kernel_rfl) rfl) rfl rfl (by decide) s103_strip s103_ok hsz hk
/-! 104: (planchet order.order).below -/
@[reducible] def q104_0:SCode:=.region [⟨some 2,.box 97 (.tmp 0),none⟩,
  ⟨some 4,.assign (.const (.int .i64 0)),none⟩]
@[reducible] def q104_1:SCode:=.region [⟨some 5,.assign (.const (.int .i64 0)),none⟩]
@[reducible] def q104_2:SCode:=.region [⟨some 7,.fieldAddr 97 (.tmp 2) 0,none⟩,
  ⟨some 8,.load 3 (.tmp 7),none⟩,
  ⟨some 9,.move (.const (.int .i64 0)),none⟩]
@[reducible] def q104_3:SCode:=.region [⟨some 10,.binOp .lss 3 (.tmp 9) (.tmp 8) 3,none⟩]
@[reducible] def q104_4:SCode:=.region [⟨some 11,.move (.tmp 9),none⟩,
  ⟨some 6,.assign (.tmp 11),none⟩]
@[reducible] def q104_5:SCode:=.region [⟨some 12,.move (.tmp 5),none⟩,
  ⟨some 13,.move (.tmp 6),none⟩,
  ⟨some 14,.fieldAddr 97 (.tmp 2) 1,none⟩,
  ⟨some 15,.indexAddr 95 (.tmp 14) (.tmp 13),none⟩,
  ⟨some 16,.load 3 (.tmp 15),none⟩,
  ⟨some 17,.move (.tmp 1),none⟩,
  ⟨some 18,.binOp .shr 3 (.tmp 16) (.tmp 17) 3,none⟩,
  ⟨some 19,.binOp .and 3 (.tmp 18) (.const (.int .i64 1)) 3,none⟩,
  ⟨some 20,.move (.tmp 6),none⟩,
  ⟨some 21,.binOp .shl 3 (.tmp 19) (.tmp 20) 3,none⟩,
  ⟨some 22,.binOp .or 3 (.tmp 12) (.tmp 21) 3,none⟩,
  ⟨some 5,.assign (.tmp 22),none⟩]
@[reducible] def q104_6:SCode:=.region [⟨some 23,.binOp .add 3 (.tmp 9) (.const (.int .i64 1)) 3,none⟩,
  ⟨some 9,.move (.tmp 23),none⟩]
def l104_0:SCode:=(.seq q104_3 (.seq (.cond (.tmp 10) .skip (.exit 0)) (.seq (.block 1 (.seq q104_4 q104_5)) q104_6)))
@[reducible] def q104_7:SCode:=.region [⟨some 24,.move (.tmp 5),none⟩,
  ⟨some 4,.assign (.tmp 24),none⟩]
def s104:SCode:=(.seq q104_0 (.seq q104_1 (.seq (.seq q104_2 (.block 0 (.loop l104_0))) (.seq q104_7 .ret))))
theorem s104_strip:Yh (Yi Tryd.f104)=s104:=by kernel_rfl
theorem s104_ok:Yy 25 (Yi Tryd.f104)=true:=by kernel_rfl
theorem s104_call [Tabs Tryd.prog] {args:List Value} {h:Yb} {Q:Value→Yb→Prop} (hsz:args.length≤25) (hk:aw Tryd.prog 25 s104 (Zu Tryd.prog [.tmp 4] Q) (Zp 0 args) h):ACall Tryd.prog 104 args h Q :=
 Vc Tryd.func104 rfl (enters_of Tryd.func104 (by kernel_rfl) rfl) rfl rfl (by decide) s104_strip s104_ok hsz hk
/-! 109: (planchet order.order).free -/
@[reducible] def q109_0:SCode:=.region [⟨some 3,.box 97 (.tmp 0),none⟩,
  ⟨some 6,.assign (.const (.bool false)),none⟩]
@[reducible] def q109_1:SCode:=.region [⟨some 7,.move (.tmp 1),none⟩,
  ⟨some 8,.move (.tmp 2),none⟩,
  ⟨some 9,.binOp .neq 3 (.tmp 7) (.tmp 8) 3,none⟩,
  ⟨some 10,.move (.tmp 9),none⟩,
  ⟨some 11,.move (.tmp 1),some (10,true)⟩,
  ⟨some 12,.fieldAddr 97 (.tmp 3) 1,some (10,true)⟩,
  ⟨some 13,.indexAddr 95 (.tmp 12) (.tmp 11),some (10,true)⟩,
  ⟨some 14,.load 3 (.tmp 13),some (10,true)⟩,
  ⟨some 15,.move (.tmp 2),some (10,true)⟩,
  ⟨some 16,.binOp .shr 3 (.tmp 14) (.tmp 15) 3,some (10,true)⟩,
  ⟨some 17,.binOp .and 3 (.tmp 16) (.const (.int .i64 1)) 3,some (10,true)⟩,
  ⟨some 18,.binOp .eql 3 (.tmp 17) (.const (.int .i64 0)) 3,some (10,true)⟩,
  ⟨some 19,.pick (.tmp 10) (.tmp 18) (.const (.bool false)),none⟩,
  ⟨some 20,.move (.tmp 19),none⟩,
  ⟨some 21,.move (.tmp 2),some (20,true)⟩,
  ⟨some 22,.fieldAddr 97 (.tmp 3) 1,some (20,true)⟩,
  ⟨some 23,.indexAddr 95 (.tmp 22) (.tmp 21),some (20,true)⟩,
  ⟨some 24,.load 3 (.tmp 23),some (20,true)⟩,
  ⟨some 25,.move (.tmp 1),some (20,true)⟩,
  ⟨some 26,.binOp .shr 3 (.tmp 24) (.tmp 25) 3,some (20,true)⟩,
  ⟨some 27,.binOp .and 3 (.tmp 26) (.const (.int .i64 1)) 3,some (20,true)⟩,
  ⟨some 28,.binOp .eql 3 (.tmp 27) (.const (.int .i64 0)) 3,some (20,true)⟩,
  ⟨some 29,.pick (.tmp 20) (.tmp 28) (.const (.bool false)),none⟩,
  ⟨some 6,.assign (.tmp 29),none⟩]
def s109:SCode:=(.seq q109_0 (.seq q109_1 .ret))
theorem s109_strip:Yh (Yi Tryd.f109)=s109:=by kernel_rfl
theorem s109_ok:Yy 30 (Yi Tryd.f109)=true:=by kernel_rfl
theorem s109_call [Tabs Tryd.prog] {args:List Value} {h:Yb} {Q:Value→Yb→Prop} (hsz:args.length≤30) (hk:aw Tryd.prog 30 s109 (Zu Tryd.prog [.tmp 6] Q) (Zp 0 args) h):ACall Tryd.prog 109 args h Q :=
 Vc Tryd.func109 rfl (enters_of Tryd.func109 (by kernel_rfl) rfl) rfl rfl (by decide) s109_strip s109_ok hsz hk
/-! 110: (planchet order.order).add -/
@[reducible] def q110_0:SCode:=.region [⟨some 3,.box 97 (.tmp 0),none⟩,
  ⟨some 6,.alloc 97,none⟩]
def q110_1:SCode:=.draw [⟨some 9,.move (.tmp 2),none⟩,
    ⟨some 10,.fieldAddr 97 (.tmp 3) 1,none⟩,
    ⟨some 11,.indexAddr 95 (.tmp 10) (.tmp 9),none⟩,
    ⟨some 12,.load 3 (.tmp 11),none⟩,
    ⟨some 13,.move (.tmp 2),none⟩,
    ⟨some 14,.binOp .shl 3 (.const (.int .i64 1)) (.tmp 13) 3,none⟩,
    ⟨some 15,.binOp .or 3 (.tmp 12) (.tmp 14) 3,none⟩,
    ⟨some 7,.alloc 3,none⟩,
    ⟨none,.store 3 (.tmp 7) (.tmp 15),none⟩]
  [[],[],[1,0],[2],[],[4],[3,5],[],[7,6,0,1,2,3,4,5,6,7]]
def q110_2:SCode:=.draw [⟨some 16,.load 97 (.tmp 3),none⟩,
    ⟨some 17,.move (.tmp 1),none⟩,
    ⟨some 18,.call { callee:=.value (.func 104),args:=#[.tmp 16,.tmp 17],argTypes:=#[97,3] },none⟩,
    ⟨some 19,.move (.tmp 1),none⟩,
    ⟨some 20,.binOp .shl 3 (.const (.int .i64 1)) (.tmp 19) 3,none⟩,
    ⟨some 21,.binOp .or 3 (.tmp 18) (.tmp 20) 3,none⟩,
    ⟨some 22,.call { callee:=.value (.func 100),args:=#[.tmp 21],argTypes:=#[3] },none⟩]
  [[],[],[0,1],[],[3],[2,4],[5,2]]
@[reducible] def q110_3:SCode:=.region [⟨some 8,.assign (.tmp 23),none⟩]
def q110_4:SCode:=.draw [⟨some 24,.move (.tmp 8),none⟩,
    ⟨some 25,.fieldAddr 97 (.tmp 3) 1,none⟩,
    ⟨some 26,.indexAddr 95 (.tmp 25) (.tmp 24),none⟩,
    ⟨some 27,.load 3 (.tmp 26),none⟩,
    ⟨some 28,.load 3 (.tmp 7),none⟩,
    ⟨some 29,.binOp .or 3 (.tmp 27) (.tmp 28) 3,none⟩,
    ⟨some 30,.fieldAddr 97 (.tmp 3) 1,none⟩,
    ⟨some 31,.indexAddr 95 (.tmp 30) (.tmp 24),none⟩,
    ⟨none,.store 3 (.tmp 31) (.tmp 29),none⟩]
  [[],[],[1,0],[2],[],[3,4],[],[6,0,0,1,2,3,4,5],[7,5,0,1,2,3,4,5]]
def r110_0_a:SCode:=q110_3
def r110_0_b:SCode:=(.block 1 q110_4)
@[reducible] def q110_5:SCode:=.region [⟨some 32,.load 97 (.tmp 3),none⟩,
  ⟨none,.store 97 (.tmp 6) (.tmp 32),none⟩]
def s110:SCode:=(.seq q110_0 (.seq q110_1 (.seq (.seq q110_2 (.block 0 (.range (.tmp 22) [23] r110_0_a r110_0_b))) (.seq q110_5 .ret))))
theorem s110_strip:Yh (Yi Tryd.f110)=s110:=by kernel_rfl
theorem s110_ok:Yy 33 (Yi Tryd.f110)=true:=by kernel_rfl
theorem s110_call [Tabs Tryd.prog] {args:List Value} {h:Yb} {Q:Value→Yb→Prop} (hsz:args.length≤33) (hk:aw Tryd.prog 33 s110 (Zu Tryd.prog [.cell 6 97] Q) (Zp 0 args) h):ACall Tryd.prog 110 args h Q :=
 Vc Tryd.func110 rfl (enters_of Tryd.func110 (by kernel_rfl) rfl) rfl rfl (by decide) s110_strip s110_ok hsz hk
/-! 139: math bits.Len64 -/
@[reducible] def q139_0:SCode:=.region [⟨some 2,.assign (.const (.int .i64 0)),none⟩]
@[reducible] def q139_1:SCode:=.region [⟨some 3,.move (.tmp 0),none⟩,
  ⟨some 4,.binOp .geq 88 (.tmp 3) (.const (.int .u64 4294967296)) 88,none⟩]
@[reducible] def q139_2:SCode:=.region [⟨some 5,.move (.tmp 0),none⟩,
  ⟨some 6,.binOp .shr 88 (.tmp 5) (.const (.int .u64 32)) 57,none⟩,
  ⟨some 0,.assign (.tmp 6),none⟩]
@[reducible] def q139_3:SCode:=.region [⟨some 2,.assign (.const (.int .i64 32)),none⟩]
@[reducible] def q139_4:SCode:=.region [⟨some 7,.move (.tmp 0),none⟩,
  ⟨some 8,.binOp .geq 88 (.tmp 7) (.const (.int .u64 65536)) 88,none⟩]
@[reducible] def q139_5:SCode:=.region [⟨some 9,.move (.tmp 0),none⟩,
  ⟨some 10,.binOp .shr 88 (.tmp 9) (.const (.int .u64 16)) 57,none⟩,
  ⟨some 0,.assign (.tmp 10),none⟩]
@[reducible] def q139_6:SCode:=.region [⟨some 11,.move (.tmp 2),none⟩,
  ⟨some 12,.binOp .add 3 (.tmp 11) (.const (.int .i64 16)) 3,none⟩,
  ⟨some 2,.assign (.tmp 12),none⟩]
@[reducible] def q139_7:SCode:=.region [⟨some 13,.move (.tmp 0),none⟩,
  ⟨some 14,.binOp .geq 88 (.tmp 13) (.const (.int .u64 256)) 88,none⟩]
@[reducible] def q139_8:SCode:=.region [⟨some 15,.move (.tmp 0),none⟩,
  ⟨some 16,.binOp .shr 88 (.tmp 15) (.const (.int .u64 8)) 57,none⟩,
  ⟨some 0,.assign (.tmp 16),none⟩]
@[reducible] def q139_9:SCode:=.region [⟨some 17,.move (.tmp 2),none⟩,
  ⟨some 18,.binOp .add 3 (.tmp 17) (.const (.int .i64 8)) 3,none⟩,
  ⟨some 2,.assign (.tmp 18),none⟩]
@[reducible] def q139_10:SCode:=.region [⟨some 19,.move (.tmp 2),none⟩,
  ⟨some 20,.move (.tmp 0),none⟩,
  ⟨some 21,.convert 88 5 (.tmp 20),none⟩,
  ⟨some 22,.index 9 (.const (.string { data:=#[0,1,2,2,3,3,3,3,4,4,4,4,4,4,4,4,5,5,5,5,5,5,5,5,5,5,5,5,5,5,5,5,6,6,6,6,6,6,6,6,6,6,6,6,6,6,6,6,6,6,6,6,6,6,6,6,6,6,6,6,6,6,6,6,7,7,7,7,7,7,7,7,7,7,7,7,7,7,7,7,7,7,7,7,7,7,7,7,7,7,7,7,7,7,7,7,7,7,7,7,7,7,7,7,7,7,7,7,7,7,7,7,7,7,7,7,7,7,7,7,7,7,7,7,7,7,7,7,8,8,8,8,8,8,8,8,8,8,8,8,8,8,8,8,8,8,8,8,8,8,8,8,8,8,8,8,8,8,8,8,8,8,8,8,8,8,8,8,8,8,8,8,8,8,8,8,8,8,8,8,8,8,8,8,8,8,8,8,8,8,8,8,8,8,8,8,8,8,8,8,8,8,8,8,8,8,8,8,8,8,8,8,8,8,8,8,8,8,8,8,8,8,8,8,8,8,8,8,8,8,8,8,8,8,8,8,8,8,8,8,8,8,8,8,8,8,8,8,8,8,8,8,8,8,8,8] })) (.tmp 21),none⟩,
  ⟨some 23,.convert 5 3 (.tmp 22),none⟩,
  ⟨some 24,.binOp .add 3 (.tmp 19) (.tmp 23) 3,none⟩,
  ⟨some 2,.assign (.tmp 24),none⟩]
def s139:SCode:=(.seq q139_0 (.seq (.seq q139_1 (.cond (.tmp 4) (.seq q139_2 q139_3) .skip)) (.seq (.seq q139_4 (.cond (.tmp 8) (.seq q139_5 q139_6) .skip)) (.seq (.seq q139_7 (.cond (.tmp 14) (.seq q139_8 q139_9) .skip)) (.seq q139_10 .ret)))))
theorem s139_strip:Yh (Yi Tryd.f139)=s139:=by kernel_rfl
theorem s139_ok:Yy 25 (Yi Tryd.f139)=true:=by kernel_rfl
end Go.Proofs.Tryd.Am
namespace Go.Proofs.Tryd.Am
open Go.Am
set_option maxRecDepth 100000
/-! 16: planchet planchetref07.Order -/
@[reducible] def q16_0:SCode:=.region [⟨some 2,.assign (.const (.bool false)),none⟩]
@[reducible] def q16_1:SCode:=.region [⟨some 6,.move (.tmp 0),none⟩,
  ⟨some 7,.call { callee:=.builtin .len,args:=#[.tmp 6],argTypes:=#[27] },none⟩,
  ⟨some 8,.binOp .lss 3 (.tmp 7) (.const (.int .i64 1)) 3,none⟩,
  ⟨some 9,.move (.tmp 8),none⟩,
  ⟨some 10,.move (.tmp 0),some (9,false)⟩,
  ⟨some 11,.call { callee:=.builtin .len,args:=#[.tmp 10],argTypes:=#[27] },some (9,false)⟩,
  ⟨some 12,.binOp .gtr 3 (.tmp 11) (.const (.int .i64 6)) 3,some (9,false)⟩,
  ⟨some 13,.pick (.tmp 9) (.const (.bool true)) (.tmp 12),none⟩]
@[reducible] def q16_2:SCode:=.region [⟨some 2,.assign (.const (.bool false)),none⟩]
@[reducible] def q16_3:SCode:=.region [⟨some 14,.move (.tmp 0),none⟩,
  ⟨some 15,.call { callee:=.builtin .len,args:=#[.tmp 14],argTypes:=#[27] },none⟩,
  ⟨some 16,.move (.const (.int .i64 0)),none⟩]
@[reducible] def q16_4:SCode:=.region [⟨some 17,.binOp .lss 3 (.tmp 16) (.tmp 15) 3,none⟩]
@[reducible] def q16_5:SCode:=.region [⟨some 18,.move (.tmp 16),none⟩,
  ⟨some 19,.indexAddr 27 (.tmp 14) (.tmp 16),none⟩,
  ⟨some 20,.load 3 (.tmp 19),none⟩,
  ⟨some 3,.assign (.tmp 18),none⟩,
  ⟨some 4,.assign (.tmp 20),none⟩]
@[reducible] def q16_6:SCode:=.region [⟨some 21,.move (.tmp 4),none⟩,
  ⟨some 22,.binOp .lss 3 (.tmp 21) (.const (.int .i64 0)) 3,none⟩,
  ⟨some 23,.move (.tmp 22),none⟩,
  ⟨some 24,.move (.tmp 4),some (23,false)⟩,
  ⟨some 25,.move (.tmp 0),some (23,false)⟩,
  ⟨some 26,.call { callee:=.builtin .len,args:=#[.tmp 25],argTypes:=#[27] },some (23,false)⟩,
  ⟨some 27,.binOp .shl 3 (.const (.int .i64 1)) (.tmp 26) 3,some (23,false)⟩,
  ⟨some 28,.binOp .geq 3 (.tmp 24) (.tmp 27) 3,some (23,false)⟩,
  ⟨some 29,.pick (.tmp 23) (.const (.bool true)) (.tmp 28),none⟩,
  ⟨some 30,.move (.tmp 29),none⟩,
  ⟨some 31,.move (.tmp 4),some (30,false)⟩,
  ⟨some 32,.move (.tmp 3),some (30,false)⟩,
  ⟨some 33,.binOp .shr 3 (.tmp 31) (.tmp 32) 3,some (30,false)⟩,
  ⟨some 34,.binOp .and 3 (.tmp 33) (.const (.int .i64 1)) 3,some (30,false)⟩,
  ⟨some 35,.binOp .eql 3 (.tmp 34) (.const (.int .i64 1)) 3,some (30,false)⟩,
  ⟨some 36,.pick (.tmp 30) (.const (.bool true)) (.tmp 35),none⟩]
@[reducible] def q16_7:SCode:=.region [⟨some 2,.assign (.const (.bool false)),none⟩]
@[reducible] def q16_8:SCode:=.region [⟨some 37,.move (.tmp 0),none⟩,
  ⟨some 38,.call { callee:=.builtin .len,args:=#[.tmp 37],argTypes:=#[27] },none⟩,
  ⟨some 39,.move (.const (.int .i64 0)),none⟩]
@[reducible] def q16_9:SCode:=.region [⟨some 40,.binOp .lss 3 (.tmp 39) (.tmp 38) 3,none⟩]
@[reducible] def q16_10:SCode:=.region [⟨some 41,.move (.tmp 39),none⟩,
  ⟨some 5,.assign (.tmp 41),none⟩]
@[reducible] def q16_11:SCode:=.region [⟨some 42,.move (.tmp 4),none⟩,
  ⟨some 43,.move (.tmp 5),none⟩,
  ⟨some 44,.binOp .shr 3 (.tmp 42) (.tmp 43) 3,none⟩,
  ⟨some 45,.binOp .and 3 (.tmp 44) (.const (.int .i64 1)) 3,none⟩,
  ⟨some 46,.binOp .eql 3 (.tmp 45) (.const (.int .i64 1)) 3,none⟩,
  ⟨some 47,.move (.tmp 46),none⟩,
  ⟨some 48,.move (.tmp 0),some (47,true)⟩,
  ⟨some 49,.move (.tmp 5),some (47,true)⟩,
  ⟨some 50,.indexAddr 27 (.tmp 48) (.tmp 49),some (47,true)⟩,
  ⟨some 51,.load 3 (.tmp 50),some (47,true)⟩,
  ⟨some 52,.move (.tmp 4),some (47,true)⟩,
  ⟨some 53,.binOp .andNot 3 (.tmp 51) (.tmp 52) 3,some (47,true)⟩,
  ⟨some 54,.binOp .neq 3 (.tmp 53) (.const (.int .i64 0)) 3,some (47,true)⟩,
  ⟨some 55,.pick (.tmp 47) (.tmp 54) (.const (.bool false)),none⟩]
@[reducible] def q16_12:SCode:=.region [⟨some 2,.assign (.const (.bool false)),none⟩]
@[reducible] def q16_13:SCode:=.region [⟨some 56,.binOp .add 3 (.tmp 39) (.const (.int .i64 1)) 3,none⟩,
  ⟨some 39,.move (.tmp 56),none⟩]
def l16_0:SCode:=(.seq q16_9 (.seq (.cond (.tmp 40) .skip (.exit 2)) (.seq (.block 3 (.seq q16_10 (.seq q16_11 (.cond (.tmp 55) (.seq q16_12 .ret) .skip)))) q16_13)))
@[reducible] def q16_14:SCode:=.region [⟨some 57,.binOp .add 3 (.tmp 16) (.const (.int .i64 1)) 3,none⟩,
  ⟨some 16,.move (.tmp 57),none⟩]
def l16_1:SCode:=(.seq q16_4 (.seq (.cond (.tmp 17) .skip (.exit 0)) (.seq (.block 1 (.seq q16_5 (.seq (.seq q16_6 (.cond (.tmp 36) (.seq q16_7 .ret) .skip)) (.seq q16_8 (.block 2 (.loop l16_0)))))) q16_14)))
@[reducible] def q16_15:SCode:=.region [⟨some 2,.assign (.const (.bool true)),none⟩]
def s16:SCode:=(.seq q16_0 (.seq (.seq q16_1 (.cond (.tmp 13) (.seq q16_2 .ret) .skip)) (.seq (.seq q16_3 (.block 0 (.loop l16_1))) (.seq q16_15 .ret))))
theorem s16_strip:Yh (Yi Tryd.f16)=s16:=by kernel_rfl
theorem s16_ok:Yy 58 (Yi Tryd.f16)=true:=by kernel_rfl
theorem s16_call [Tabs Tryd.prog] {args:List Value} {h:Yb} {Q:Value→Yb→Prop} (hsz:args.length≤58) (hk:aw Tryd.prog 58 s16 (Zu Tryd.prog [.tmp 2] Q) (Zp 0 args) h):ACall Tryd.prog 16 args h Q :=
 Vc Tryd.func16 rfl (enters_of Tryd.func16 (by kernel_rfl) rfl) rfl rfl (by decide) s16_strip s16_ok hsz hk
/-! 19: planchet planchetref07.Free -/
@[reducible] def q19_0:SCode:=.region [⟨some 6,.assign (.const (.bool false)),none⟩]
@[reducible] def q19_1:SCode:=.region [⟨some 7,.move (.tmp 1),none⟩,
  ⟨some 8,.move (.tmp 2),none⟩,
  ⟨some 9,.binOp .neq 3 (.tmp 7) (.tmp 8) 3,none⟩,
  ⟨some 10,.move (.tmp 9),none⟩,
  ⟨some 11,.move (.tmp 0),some (10,true)⟩,
  ⟨some 12,.move (.tmp 1),some (10,true)⟩,
  ⟨some 13,.move (.tmp 2),some (10,true)⟩,
  ⟨some 14,.call { callee:=.value (.func 57),args:=#[.tmp 11,.tmp 12,.tmp 13],argTypes:=#[27,3,3] },some (10,true)⟩,
  ⟨some 15,.unOp .not 4 (.tmp 14),some (10,true)⟩,
  ⟨some 16,.pick (.tmp 10) (.tmp 15) (.const (.bool false)),none⟩,
  ⟨some 17,.move (.tmp 16),none⟩,
  ⟨some 18,.move (.tmp 0),some (17,true)⟩,
  ⟨some 19,.move (.tmp 2),some (17,true)⟩,
  ⟨some 20,.move (.tmp 1),some (17,true)⟩,
  ⟨some 21,.call { callee:=.value (.func 57),args:=#[.tmp 18,.tmp 19,.tmp 20],argTypes:=#[27,3,3] },some (17,true)⟩,
  ⟨some 22,.unOp .not 4 (.tmp 21),some (17,true)⟩,
  ⟨some 23,.pick (.tmp 17) (.tmp 22) (.const (.bool false)),none⟩,
  ⟨some 6,.assign (.tmp 23),none⟩]
def s19:SCode:=(.seq q19_0 (.seq q19_1 .ret))
theorem s19_strip:Yh (Yi Tryd.f19)=s19:=by kernel_rfl
theorem s19_ok:Yy 24 (Yi Tryd.f19)=true:=by kernel_rfl
theorem s19_call [Tabs Tryd.prog] {args:List Value} {h:Yb} {Q:Value→Yb→Prop} (hsz:args.length≤24) (hk:aw Tryd.prog 24 s19 (Zu Tryd.prog [.tmp 6] Q) (Zp 0 args) h):ACall Tryd.prog 19 args h Q :=
 Vc Tryd.func19 rfl (enters_of Tryd.func19 (by kernel_rfl) rfl) rfl rfl (by decide) s19_strip s19_ok hsz hk
/-! 57: planchet planchetref07.above -/
@[reducible] def q57_0:SCode:=.region [⟨some 6,.assign (.const (.bool false)),none⟩]
@[reducible] def q57_1:SCode:=.region [⟨some 7,.move (.tmp 0),none⟩,
  ⟨some 8,.move (.tmp 1),none⟩,
  ⟨some 9,.indexAddr 27 (.tmp 7) (.tmp 8),none⟩,
  ⟨some 10,.load 3 (.tmp 9),none⟩,
  ⟨some 11,.move (.tmp 2),none⟩,
  ⟨some 12,.binOp .shr 3 (.tmp 10) (.tmp 11) 3,none⟩,
  ⟨some 13,.binOp .and 3 (.tmp 12) (.const (.int .i64 1)) 3,none⟩,
  ⟨some 14,.binOp .eql 3 (.tmp 13) (.const (.int .i64 1)) 3,none⟩,
  ⟨some 6,.assign (.tmp 14),none⟩]
def s57:SCode:=(.seq q57_0 (.seq q57_1 .ret))
theorem s57_strip:Yh (Yi Tryd.f57)=s57:=by kernel_rfl
theorem s57_ok:Yy 15 (Yi Tryd.f57)=true:=by kernel_rfl
theorem s57_call [Tabs Tryd.prog] {args:List Value} {h:Yb} {Q:Value→Yb→Prop} (hsz:args.length≤15) (hk:aw Tryd.prog 15 s57 (Zu Tryd.prog [.tmp 6] Q) (Zp 0 args) h):ACall Tryd.prog 57 args h Q :=
 Vc Tryd.func57 rfl (enters_of Tryd.func57 (by kernel_rfl) rfl) rfl rfl (by decide) s57_strip s57_ok hsz hk
/-! 63: (planchet order.order).before -/
@[reducible] def q63_0:SCode:=.region [⟨some 3,.box 97 (.tmp 0),none⟩,
  ⟨some 6,.assign (.const (.int .i64 0)),none⟩]
@[reducible] def q63_1:SCode:=.region [⟨some 8,.move (.tmp 1),none⟩,
  ⟨some 9,.fieldAddr 97 (.tmp 3) 1,none⟩,
  ⟨some 10,.indexAddr 95 (.tmp 9) (.tmp 8),none⟩,
  ⟨some 11,.load 3 (.tmp 10),none⟩,
  ⟨some 12,.move (.tmp 2),none⟩,
  ⟨some 13,.binOp .shr 3 (.tmp 11) (.tmp 12) 3,none⟩,
  ⟨some 14,.binOp .and 3 (.tmp 13) (.const (.int .i64 1)) 3,none⟩,
  ⟨some 15,.binOp .eql 3 (.tmp 14) (.const (.int .i64 1)) 3,none⟩,
  ⟨some 7,.assign (.tmp 15),none⟩]
@[reducible] def q63_2:SCode:=.region [⟨some 16,.load 97 (.tmp 3),none⟩,
  ⟨some 17,.call { callee:=.value (.func 56),args:=#[.tmp 16],argTypes:=#[97] },none⟩,
  ⟨some 6,.assign (.tmp 17),none⟩]
@[reducible] def q63_3:SCode:=.region [⟨some 19,.load 97 (.tmp 3),none⟩,
  ⟨some 20,.move (.tmp 1),none⟩,
  ⟨some 21,.move (.tmp 2),none⟩,
  ⟨some 22,.call { callee:=.value (.func 109),args:=#[.tmp 19,.tmp 20,.tmp 21],argTypes:=#[97,3,3] },none⟩,
  ⟨some 23,.unOp .not 4 (.tmp 22),none⟩,
  ⟨some 18,.assign (.tmp 23),none⟩]
@[reducible] def q63_4:SCode:=.region [⟨some 6,.assign (.const (.int .i64 0)),none⟩]
@[reducible] def q63_5:SCode:=.region [⟨some 24,.load 97 (.tmp 3),none⟩,
  ⟨some 25,.move (.tmp 1),none⟩,
  ⟨some 26,.move (.tmp 2),none⟩,
  ⟨some 27,.call { callee:=.value (.func 110),args:=#[.tmp 24,.tmp 25,.tmp 26],argTypes:=#[97,3,3] },none⟩,
  ⟨some 28,.call { callee:=.value (.func 56),args:=#[.tmp 27],argTypes:=#[97] },none⟩,
  ⟨some 6,.assign (.tmp 28),none⟩]
def s63:SCode:=(.seq q63_0 (.seq (.block 0 (.seq q63_1 (.cond (.tmp 7) (.seq q63_2 .ret) (.seq q63_3 (.cond (.tmp 18) (.seq q63_4 .ret) .skip))))) (.seq q63_5 .ret)))
theorem s63_strip:Yh (Yi Tryd.f63)=s63:=by kernel_rfl
theorem s63_ok:Yy 29 (Yi Tryd.f63)=true:=by kernel_rfl
theorem s63_call [Tabs Tryd.prog] {args:List Value} {h:Yb} {Q:Value→Yb→Prop} (hsz:args.length≤29) (hk:aw Tryd.prog 29 s63 (Zu Tryd.prog [.tmp 6] Q) (Zp 0 args) h):ACall Tryd.prog 63 args h Q :=
 Vc Tryd.func63 rfl (enters_of Tryd.func63 (by kernel_rfl) rfl) rfl rfl (by decide) s63_strip s63_ok hsz hk
end Go.Proofs.Tryd.Am
namespace Go.Proofs.Tryd.Am
open Go.Am
set_option maxRecDepth 100000
end Go.Proofs.Tryd.Am
namespace Go.Proofs.Tryd.Am
open Go.Am
set_option maxRecDepth 100000
/-! 15: planchet order.Need -/
@[reducible] def q15_0:SCode:=.region [⟨some 2,.assign (.const (.int .i64 0)),none⟩,
  ⟨some 3,.assign (.const (.int .i64 0)),none⟩]
@[reducible] def q15_1:SCode:=.region [⟨some 7,.move (.tmp 0),none⟩,
  ⟨some 8,.call { callee:=.value (.func 54),args:=#[.tmp 7],argTypes:=#[27] },none⟩,
  ⟨some 6,.move (.tmp 8),none⟩,
  ⟨some 9,.extract (.tmp 6) 0,none⟩,
  ⟨some 10,.extract (.tmp 6) 1,none⟩,
  ⟨some 4,.alloc 97,none⟩,
  ⟨none,.store 97 (.tmp 4) (.tmp 9),none⟩,
  ⟨some 5,.assign (.tmp 10),none⟩]
@[reducible] def q15_2:SCode:=.region [⟨some 11,.move (.tmp 5),none⟩,
  ⟨some 12,.unOp .not 4 (.tmp 11),none⟩]
@[reducible] def q15_3:SCode:=.region [⟨some 2,.assign (.const (.int .i64 0)),none⟩,
  ⟨some 3,.assign (.const (.int .i64 2)),none⟩]
@[reducible] def q15_4:SCode:=.region [⟨some 13,.makeMap 101 none,none⟩,
  ⟨some 14,.build 103 #[(0,.tmp 13)],none⟩,
  ⟨some 15,.box 103 (.tmp 14),none⟩,
  ⟨some 16,.load 97 (.tmp 4),none⟩,
  ⟨some 17,.call { callee:=.value (.func 55),args:=#[.tmp 15,.tmp 16],argTypes:=#[100,97] },none⟩,
  ⟨some 2,.assign (.tmp 17),none⟩,
  ⟨some 3,.assign (.const (.int .i64 0)),none⟩]
def s15:SCode:=(.seq q15_0 (.seq q15_1 (.seq (.seq q15_2 (.cond (.tmp 12) (.seq q15_3 .ret) .skip)) (.seq q15_4 .ret))))
theorem s15_strip:Yh (Yi Tryd.f15)=s15:=by kernel_rfl
theorem s15_ok:Yy 18 (Yi Tryd.f15)=true:=by kernel_rfl
/-! 55: (planchet order.sorter).need -/
@[reducible] def q55_0:SCode:=.region [⟨some 3,.box 97 (.tmp 1),none⟩,
  ⟨some 4,.assign (.const (.int .i64 0)),none⟩]
@[reducible] def q55_1:SCode:=.region [⟨some 6,.load 97 (.tmp 3),none⟩,
  ⟨some 7,.call { callee:=.value (.func 56),args:=#[.tmp 6],argTypes:=#[97] },none⟩,
  ⟨some 8,.binOp .sub 3 (.tmp 7) (.const (.int .i64 1)) 3,none⟩,
  ⟨some 9,.convert 3 57 (.tmp 8),none⟩,
  ⟨some 10,.call { callee:=.value (.func 101),args:=#[.tmp 9],argTypes:=#[57] },none⟩,
  ⟨some 5,.assign (.tmp 10),none⟩]
@[reducible] def q55_2:SCode:=.region [⟨some 11,.move (.tmp 0),none⟩,
  ⟨some 12,.load 97 (.tmp 3),none⟩,
  ⟨some 13,.move (.tmp 5),none⟩,
  ⟨some 14,.call { callee:=.value (.func 102),args:=#[.tmp 11,.tmp 12,.tmp 13],argTypes:=#[100,97,3] },none⟩,
  ⟨some 15,.unOp .not 4 (.tmp 14),none⟩]
@[reducible] def q55_3:SCode:=.region [⟨some 16,.move (.tmp 5),none⟩,
  ⟨some 17,.binOp .add 3 (.tmp 16) (.const (.int .i64 1)) 3,none⟩,
  ⟨some 5,.assign (.tmp 17),none⟩]
def l55_0:SCode:=(.seq (.seq q55_2 (.cond (.tmp 15) .skip (.exit 0))) (.block 1 q55_3))
@[reducible] def q55_4:SCode:=.region [⟨some 18,.move (.tmp 5),none⟩,
  ⟨some 4,.assign (.tmp 18),none⟩]
def s55:SCode:=(.seq q55_0 (.seq q55_1 (.seq (.block 0 (.loop l55_0)) (.seq q55_4 .ret))))
theorem s55_strip:Yh (Yi Tryd.f55)=s55:=by kernel_rfl
theorem s55_ok:Yy 19 (Yi Tryd.f55)=true:=by kernel_rfl
/-! 91: slices.IndexFunc[[][2]int,[2]int] -/
@[reducible] def q91_0:SCode:=.region [⟨some 4,.assign (.const (.int .i64 0)),none⟩]
@[reducible] def q91_1:SCode:=.region [⟨some 6,.move (.tmp 0),none⟩,
  ⟨some 7,.call { callee:=.builtin .len,args:=#[.tmp 6],argTypes:=#[26] },none⟩,
  ⟨some 8,.move (.const (.int .i64 0)),none⟩]
@[reducible] def q91_2:SCode:=.region [⟨some 9,.binOp .lss 3 (.tmp 8) (.tmp 7) 3,none⟩]
@[reducible] def q91_3:SCode:=.region [⟨some 10,.move (.tmp 8),none⟩,
  ⟨some 5,.assign (.tmp 10),none⟩]
@[reducible] def q91_4:SCode:=.region [⟨some 11,.move (.tmp 1),none⟩,
  ⟨some 12,.move (.tmp 0),none⟩,
  ⟨some 13,.move (.tmp 5),none⟩,
  ⟨some 14,.indexAddr 26 (.tmp 12) (.tmp 13),none⟩,
  ⟨some 15,.load 28 (.tmp 14),none⟩,
  ⟨some 16,.call { callee:=.value (.tmp 11),args:=#[.tmp 15],argTypes:=#[28] },none⟩]
@[reducible] def q91_5:SCode:=.region [⟨some 17,.move (.tmp 5),none⟩,
  ⟨some 4,.assign (.tmp 17),none⟩]
@[reducible] def q91_6:SCode:=.region [⟨some 18,.binOp .add 3 (.tmp 8) (.const (.int .i64 1)) 3,none⟩,
  ⟨some 8,.move (.tmp 18),none⟩]
def l91_0:SCode:=(.seq q91_2 (.seq (.cond (.tmp 9) .skip (.exit 0)) (.seq (.block 1 (.seq q91_3 (.seq q91_4 (.cond (.tmp 16) (.seq q91_5 .ret) .skip)))) q91_6)))
@[reducible] def q91_7:SCode:=.region [⟨some 4,.assign (.const (.int .i64 (-1))),none⟩]
def s91:SCode:=(.seq q91_0 (.seq (.seq q91_1 (.block 0 (.loop l91_0))) (.seq q91_7 .ret)))
theorem s91_strip:Yh (Yi Tryd.f91)=s91:=by kernel_rfl
theorem s91_ok:Yy 19 (Yi Tryd.f91)=true:=by kernel_rfl
/-! 102: (planchet order.sorter).sorts -/
@[reducible] def q102_0:SCode:=.region [⟨some 4,.box 97 (.tmp 1),none⟩,
  ⟨some 6,.assign (.const (.bool false)),none⟩]
@[reducible] def q102_1:SCode:=.region [⟨some 10,.load 97 (.tmp 4),none⟩,
  ⟨some 11,.call { callee:=.value (.func 56),args:=#[.tmp 10],argTypes:=#[97] },none⟩,
  ⟨some 7,.assign (.tmp 11),none⟩]
@[reducible] def q102_2:SCode:=.region [⟨some 12,.move (.tmp 7),none⟩,
  ⟨some 13,.binOp .eql 3 (.tmp 12) (.const (.int .i64 1)) 3,none⟩,
  ⟨some 14,.move (.tmp 13),none⟩,
  ⟨some 15,.move (.tmp 2),some (14,false)⟩,
  ⟨some 16,.binOp .eql 3 (.tmp 15) (.const (.int .i64 0)) 3,some (14,false)⟩,
  ⟨some 17,.pick (.tmp 14) (.const (.bool true)) (.tmp 16),none⟩,
  ⟨some 18,.move (.tmp 17),none⟩,
  ⟨some 19,.move (.tmp 7),some (18,false)⟩,
  ⟨some 20,.move (.tmp 2),some (18,false)⟩,
  ⟨some 21,.binOp .shl 3 (.const (.int .i64 1)) (.tmp 20) 3,some (18,false)⟩,
  ⟨some 22,.binOp .gtr 3 (.tmp 19) (.tmp 21) 3,some (18,false)⟩,
  ⟨some 23,.pick (.tmp 18) (.const (.bool true)) (.tmp 22),none⟩]
@[reducible] def q102_3:SCode:=.region [⟨some 24,.move (.tmp 7),none⟩,
  ⟨some 25,.binOp .eql 3 (.tmp 24) (.const (.int .i64 1)) 3,none⟩,
  ⟨some 6,.assign (.tmp 25),none⟩]
def q102_4:SCode:=.draw [⟨some 27,.move (.tmp 0),none⟩,
    ⟨some 28,.nilCheck (.tmp 27),none⟩,
    ⟨some 29,.fieldAddr 103 (.tmp 28) 0,none⟩,
    ⟨some 30,.load 101 (.tmp 29),none⟩,
    ⟨some 31,.load 97 (.tmp 4),none⟩,
    ⟨some 32,.move (.tmp 2),none⟩,
    ⟨some 33,.build 172 #[(0,.tmp 31),(1,.tmp 32)],none⟩,
    ⟨some 34,.lookup 101 (.tmp 30) (.tmp 33) true,none⟩,
    ⟨some 26,.move (.tmp 34),none⟩,
    ⟨some 35,.extract (.tmp 26) 0,none⟩,
    ⟨some 36,.extract (.tmp 26) 1,none⟩,
    ⟨some 8,.assign (.tmp 35),none⟩,
    ⟨some 9,.assign (.tmp 36),none⟩]
  [[],[0],[1],[2],[],[],[4,5],[3,6],[7],[8],[8],[9,0,1,2,3,4,5,6,7,8,9],[10,11,0,1,2,3,4,5,6,7,8,9,10,11]]
@[reducible] def q102_5:SCode:=.region [⟨some 37,.move (.tmp 9),none⟩,
  ⟨some 38,.unOp .not 4 (.tmp 37),none⟩]
@[reducible] def q102_6:SCode:=.region [⟨some 40,.move (.tmp 0),none⟩,
  ⟨some 41,.load 97 (.tmp 4),none⟩,
  ⟨some 42,.move (.tmp 2),none⟩,
  ⟨some 43,.call { callee:=.value (.func 140),args:=#[.tmp 40,.tmp 41,.tmp 42],argTypes:=#[100,97,3] },none⟩,
  ⟨some 39,.move (.tmp 43),none⟩,
  ⟨some 44,.extract (.tmp 39) 0,none⟩,
  ⟨some 45,.extract (.tmp 39) 1,none⟩,
  ⟨some 8,.assign (.tmp 45),none⟩]
def q102_7:SCode:=.draw [⟨some 46,.move (.tmp 0),none⟩,
    ⟨some 47,.nilCheck (.tmp 46),none⟩,
    ⟨some 48,.fieldAddr 103 (.tmp 47) 0,none⟩,
    ⟨some 49,.load 101 (.tmp 48),none⟩,
    ⟨some 50,.load 97 (.tmp 4),none⟩,
    ⟨some 51,.move (.tmp 2),none⟩,
    ⟨some 52,.build 172 #[(0,.tmp 50),(1,.tmp 51)],none⟩,
    ⟨some 53,.move (.tmp 8),none⟩,
    ⟨none,.mapUpdate 101 (.tmp 49) (.tmp 52) (.tmp 53),none⟩]
  [[],[0],[1],[2],[],[],[4,5],[],[3,6,7,0,1,2,3,4,5,6,7]]
@[reducible] def q102_8:SCode:=.region [⟨some 54,.move (.tmp 8),none⟩,
  ⟨some 6,.assign (.tmp 54),none⟩]
def s102:SCode:=(.seq q102_0 (.seq q102_1 (.seq (.seq q102_2 (.cond (.tmp 23) (.seq q102_3 .ret) .skip)) (.seq q102_4 (.seq (.seq q102_5 (.cond (.tmp 38) (.seq q102_6 q102_7) .skip)) (.seq q102_8 .ret))))))
theorem s102_strip:Yh (Yi Tryd.f102)=s102:=by kernel_rfl
theorem s102_ok:Yy 55 (Yi Tryd.f102)=true:=by kernel_rfl
/-! 140: (planchet order.sorter).pair -/
@[reducible] def q140_0:SCode:=.region [⟨some 3,.box 100 (.tmp 0),none⟩,
  ⟨some 4,.box 97 (.tmp 1),none⟩,
  ⟨some 5,.box 3 (.tmp 2),none⟩,
  ⟨some 6,.alloc 28,none⟩,
  ⟨some 7,.assign (.const (.bool false)),none⟩]
@[reducible] def q140_1:SCode:=.region [⟨some 8,.assign (.const (.slice none 0 0)),none⟩]
@[reducible] def q140_2:SCode:=.region [⟨some 16,.load 97 (.tmp 4),none⟩,
  ⟨some 17,.call { callee:=.value (.func 56),args:=#[.tmp 16],argTypes:=#[97] },none⟩,
  ⟨some 9,.assign (.tmp 17),none⟩]
@[reducible] def q140_3:SCode:=.region [⟨some 18,.makeMap 187 none,none⟩,
  ⟨some 10,.alloc 187,none⟩,
  ⟨none,.store 187 (.tmp 10) (.tmp 18),none⟩]
@[reducible] def q140_4:SCode:=.region [⟨some 19,.fieldAddr 97 (.tmp 4) 0,none⟩,
  ⟨some 20,.load 3 (.tmp 19),none⟩,
  ⟨some 21,.move (.const (.int .i64 0)),none⟩]
@[reducible] def q140_5:SCode:=.region [⟨some 22,.binOp .lss 3 (.tmp 21) (.tmp 20) 3,none⟩]
@[reducible] def q140_6:SCode:=.region [⟨some 23,.move (.tmp 21),none⟩,
  ⟨some 11,.assign (.tmp 23),none⟩]
@[reducible] def q140_7:SCode:=.region [⟨some 24,.move (.tmp 11),none⟩,
  ⟨some 25,.binOp .add 3 (.tmp 24) (.const (.int .i64 1)) 3,none⟩,
  ⟨some 12,.assign (.tmp 25),none⟩]
@[reducible] def q140_8:SCode:=.region [⟨some 26,.move (.tmp 12),none⟩,
  ⟨some 27,.fieldAddr 97 (.tmp 4) 0,none⟩,
  ⟨some 28,.load 3 (.tmp 27),none⟩,
  ⟨some 29,.binOp .lss 3 (.tmp 26) (.tmp 28) 3,none⟩]
@[reducible] def q140_10:SCode:=.region [⟨some 32,.load 97 (.tmp 4),none⟩,
  ⟨some 33,.move (.tmp 11),none⟩,
  ⟨some 34,.move (.tmp 12),none⟩,
  ⟨some 35,.call { callee:=.value (.func 109),args:=#[.tmp 32,.tmp 33,.tmp 34],argTypes:=#[97,3,3] },none⟩]
@[reducible] def q140_11:SCode:=.region [⟨some 36,.move (.tmp 11),none⟩,
  ⟨some 37,.move (.tmp 12),none⟩,
  ⟨some 38,.build 28 #[(0,.tmp 36),(1,.tmp 37)],none⟩,
  ⟨some 13,.alloc 28,none⟩,
  ⟨none,.store 28 (.tmp 13) (.tmp 38),none⟩]
@[reducible] def q140_12:SCode:=.region [⟨some 39,.load 97 (.tmp 4),none⟩,
  ⟨some 40,.move (.tmp 11),none⟩,
  ⟨some 41,.move (.tmp 12),none⟩,
  ⟨some 42,.call { callee:=.value (.func 63),args:=#[.tmp 39,.tmp 40,.tmp 41],argTypes:=#[97,3,3] },none⟩,
  ⟨some 43,.binOp .mul 3 (.const (.int .i64 2)) (.tmp 42) 3,none⟩,
  ⟨some 44,.move (.tmp 9),none⟩,
  ⟨some 45,.binOp .sub 3 (.tmp 43) (.tmp 44) 3,none⟩,
  ⟨some 14,.assign (.tmp 45),none⟩]
def q140_13:SCode:=.draw [⟨some 46,.load 187 (.tmp 10),none⟩,
    ⟨some 47,.load 28 (.tmp 13),none⟩,
    ⟨some 48,.move (.tmp 8),none⟩,
    ⟨some 49,.load 28 (.tmp 13),none⟩,
    ⟨some 50,.buildSlice 26 1 #[(0,.tmp 49)],none⟩,
    ⟨some 51,.call { callee:=.builtin .append,args:=#[.tmp 48,.tmp 50],argTypes:=#[26,26] },none⟩,
    ⟨some 52,.move (.tmp 14),none⟩,
    ⟨some 53,.move (.tmp 14),none⟩,
    ⟨some 54,.unOp .neg 3 (.tmp 53),none⟩,
    ⟨some 55,.call { callee:=.builtin .max,args:=#[.tmp 52,.tmp 54],argTypes:=#[3,3] },none⟩,
    ⟨some 8,.assign (.tmp 51),none⟩,
    ⟨none,.mapUpdate 187 (.tmp 46) (.tmp 47) (.tmp 55),none⟩]
  [[],[],[],[],[3],[2,4],[],[],[7],[6,8],[5,5,2,3,4,5],[0,1,9,10,0,1,2,3,4,5,6,7,8,9,10]]
@[reducible] def q140_9:SCode:=.region [⟨some 30,.move (.tmp 12),none⟩,
  ⟨some 31,.binOp .add 3 (.tmp 30) (.const (.int .i64 1)) 3,none⟩,
  ⟨some 12,.assign (.tmp 31),none⟩]
def l140_0:SCode:=(.seq (.seq q140_8 (.cond (.tmp 29) .skip (.exit 2))) (.seq (.block 3 (.seq q140_10 (.cond (.tmp 35) (.seq q140_11 (.seq q140_12 q140_13)) .skip))) q140_9))
@[reducible] def q140_14:SCode:=.region [⟨some 56,.binOp .add 3 (.tmp 21) (.const (.int .i64 1)) 3,none⟩,
  ⟨some 21,.move (.tmp 56),none⟩]
def l140_1:SCode:=(.seq q140_5 (.seq (.cond (.tmp 22) .skip (.exit 0)) (.seq (.block 1 (.seq q140_6 (.seq q140_7 (.block 2 (.loop l140_0))))) q140_14)))
@[reducible] def q140_15:SCode:=.region [⟨some 57,.move (.tmp 8),none⟩,
  ⟨some 58,.makeFunc (.func 163) #[] #[.tmp 10],none⟩,
  ⟨some 59,.call { callee:=.value (.func 162),args:=#[.tmp 57,.tmp 58],argTypes:=#[26,189] },none⟩]
@[reducible] def q140_16:SCode:=.region [⟨some 60,.move (.tmp 8),none⟩,
  ⟨some 61,.makeFunc (.func 164) #[] #[.tmp 3,.tmp 4,.tmp 5],none⟩,
  ⟨some 62,.call { callee:=.value (.func 91),args:=#[.tmp 60,.tmp 61],argTypes:=#[26,76] },none⟩,
  ⟨some 15,.assign (.tmp 62),none⟩]
@[reducible] def q140_17:SCode:=.region [⟨some 63,.move (.tmp 15),none⟩,
  ⟨some 64,.binOp .lss 3 (.tmp 63) (.const (.int .i64 0)) 3,none⟩]
@[reducible] def q140_18:SCode:=.region [⟨some 65,.build 28 #[],none⟩,
  ⟨none,.store 28 (.tmp 6) (.tmp 65),none⟩,
  ⟨some 7,.assign (.const (.bool false)),none⟩]
@[reducible] def q140_19:SCode:=.region [⟨some 66,.move (.tmp 8),none⟩,
  ⟨some 67,.move (.tmp 15),none⟩,
  ⟨some 68,.indexAddr 26 (.tmp 66) (.tmp 67),none⟩,
  ⟨some 69,.load 28 (.tmp 68),none⟩,
  ⟨none,.store 28 (.tmp 6) (.tmp 69),none⟩,
  ⟨some 7,.assign (.const (.bool true)),none⟩]
def s140:SCode:=(.seq q140_0 (.seq q140_1 (.seq q140_2 (.seq q140_3 (.seq (.seq q140_4 (.block 0 (.loop l140_1))) (.seq q140_15 (.seq q140_16 (.seq (.seq q140_17 (.cond (.tmp 64) (.seq q140_18 .ret) .skip)) (.seq q140_19 .ret)))))))))
theorem s140_strip:Yh (Yi Tryd.f140)=s140:=by kernel_rfl
theorem s140_ok:Yy 70 (Yi Tryd.f140)=true:=by kernel_rfl
/-! 162: slices.SortStableFunc[[][2]int,[2]int] -/
@[reducible] def q162_0:SCode:=.region [⟨some 4,.move (.tmp 0),none⟩,
  ⟨some 5,.move (.tmp 0),none⟩,
  ⟨some 6,.call { callee:=.builtin .len,args:=#[.tmp 5],argTypes:=#[26] },none⟩,
  ⟨some 7,.move (.tmp 1),none⟩,
  ⟨some 8,.call { callee:=.value (.func 173),args:=#[.tmp 4,.tmp 6,.tmp 7],argTypes:=#[26,3,189] },none⟩]
def s162:SCode:=q162_0
theorem s162_strip:Yh (Yi Tryd.f162)=s162:=by kernel_rfl
theorem s162_ok:Yy 9 (Yi Tryd.f162)=true:=by kernel_rfl
/-! 163: (planchet order.sorter).pair$1 -/
@[reducible] def q163_0:SCode:=.region [⟨some 3,.box 28 (.tmp 0),none⟩,
  ⟨some 4,.box 28 (.tmp 1),none⟩,
  ⟨some 5,.assign (.const (.int .i64 0)),none⟩]
def q163_1:SCode:=.draw [⟨some 6,.load 187 (.tmp 2),none⟩,
    ⟨some 7,.load 28 (.tmp 3),none⟩,
    ⟨some 8,.lookup 187 (.tmp 6) (.tmp 7) false,none⟩,
    ⟨some 9,.load 187 (.tmp 2),none⟩,
    ⟨some 10,.load 28 (.tmp 4),none⟩,
    ⟨some 11,.lookup 187 (.tmp 9) (.tmp 10) false,none⟩,
    ⟨some 12,.binOp .sub 3 (.tmp 8) (.tmp 11) 3,none⟩,
    ⟨some 5,.assign (.tmp 12),none⟩]
  [[],[],[0,1],[],[],[3,4],[2,5],[6,0,1,2,3,4,5,6]]
def s163:SCode:=(.seq q163_0 (.seq q163_1 .ret))
theorem s163_strip:Yh (Yi Tryd.f163)=s163:=by kernel_rfl
theorem s163_ok:Yy 13 (Yi Tryd.f163)=true:=by kernel_rfl
/-! 164: (planchet order.sorter).pair$2 -/
@[reducible] def q164_0:SCode:=.region [⟨some 4,.box 28 (.tmp 0),none⟩,
  ⟨some 5,.assign (.const (.bool false)),none⟩]
def q164_1:SCode:=.draw [⟨some 6,.load 100 (.tmp 1),none⟩,
    ⟨some 7,.load 97 (.tmp 2),none⟩,
    ⟨some 8,.indexAddr 28 (.tmp 4) (.const (.int .i64 0)),none⟩,
    ⟨some 9,.load 3 (.tmp 8),none⟩,
    ⟨some 10,.indexAddr 28 (.tmp 4) (.const (.int .i64 1)),none⟩,
    ⟨some 11,.load 3 (.tmp 10),none⟩,
    ⟨some 12,.call { callee:=.value (.func 110),args:=#[.tmp 7,.tmp 9,.tmp 11],argTypes:=#[97,3,3] },none⟩,
    ⟨some 13,.load 3 (.tmp 3),none⟩,
    ⟨some 14,.binOp .sub 3 (.tmp 13) (.const (.int .i64 1)) 3,none⟩,
    ⟨some 15,.call { callee:=.value (.func 102),args:=#[.tmp 6,.tmp 12,.tmp 14],argTypes:=#[100,97,3] },none⟩,
    ⟨some 16,.move (.tmp 15),none⟩,
    ⟨some 17,.load 100 (.tmp 1),some (16,true)⟩,
    ⟨some 18,.load 97 (.tmp 2),some (16,true)⟩,
    ⟨some 19,.indexAddr 28 (.tmp 4) (.const (.int .i64 1)),some (16,true)⟩,
    ⟨some 20,.load 3 (.tmp 19),some (16,true)⟩,
    ⟨some 21,.indexAddr 28 (.tmp 4) (.const (.int .i64 0)),some (16,true)⟩,
    ⟨some 22,.load 3 (.tmp 21),some (16,true)⟩,
    ⟨some 23,.call { callee:=.value (.func 110),args:=#[.tmp 18,.tmp 20,.tmp 22],argTypes:=#[97,3,3] },some (16,true)⟩,
    ⟨some 24,.load 3 (.tmp 3),some (16,true)⟩,
    ⟨some 25,.binOp .sub 3 (.tmp 24) (.const (.int .i64 1)) 3,some (16,true)⟩,
    ⟨some 26,.call { callee:=.value (.func 102),args:=#[.tmp 17,.tmp 23,.tmp 25],argTypes:=#[100,97,3] },some (16,true)⟩,
    ⟨some 27,.pick (.tmp 16) (.tmp 26) (.const (.bool false)),none⟩,
    ⟨some 5,.assign (.tmp 27),none⟩]
  [[],[],[],[2],[],[4],[1,3,5],[],[7],[0,6,8,6],[9,9],[10],[10],[10],[13,10],[10],[15,10],[12,14,16,10,10],[10],[18,10],[11,17,19,17,10],[10,20],[21,20,0,1,2,3,4,5,6,7,8,9,10,11,12,13,14,15,16,17,18,19,20,21]]
def s164:SCode:=(.seq q164_0 (.seq q164_1 .ret))
theorem s164_strip:Yh (Yi Tryd.f164)=s164:=by kernel_rfl
theorem s164_ok:Yy 28 (Yi Tryd.f164)=true:=by kernel_rfl
/-! 173: slices.stableCmpFunc[[2]int] -/
@[reducible] def q173_0:SCode:=.region [⟨some 6,.assign (.const (.int .i64 20)),none⟩]
@[reducible] def q173_1:SCode:=.region [⟨some 10,.move (.tmp 6),none⟩,
  ⟨some 7,.assign (.const (.int .i64 0)),none⟩,
  ⟨some 8,.assign (.tmp 10),none⟩]
@[reducible] def q173_2:SCode:=.region [⟨some 11,.move (.tmp 8),none⟩,
  ⟨some 12,.move (.tmp 1),none⟩,
  ⟨some 13,.binOp .leq 3 (.tmp 11) (.tmp 12) 3,none⟩]
@[reducible] def q173_3:SCode:=.region [⟨some 14,.move (.tmp 0),none⟩,
  ⟨some 15,.move (.tmp 7),none⟩,
  ⟨some 16,.move (.tmp 8),none⟩,
  ⟨some 17,.move (.tmp 2),none⟩,
  ⟨some 18,.call { callee:=.value (.func 176),args:=#[.tmp 14,.tmp 15,.tmp 16,.tmp 17],argTypes:=#[26,3,3,189] },none⟩]
@[reducible] def q173_4:SCode:=.region [⟨some 19,.move (.tmp 8),none⟩,
  ⟨some 7,.assign (.tmp 19),none⟩]
@[reducible] def q173_5:SCode:=.region [⟨some 20,.move (.tmp 8),none⟩,
  ⟨some 21,.move (.tmp 6),none⟩,
  ⟨some 22,.binOp .add 3 (.tmp 20) (.tmp 21) 3,none⟩,
  ⟨some 8,.assign (.tmp 22),none⟩]
def l173_0:SCode:=(.seq (.seq q173_2 (.cond (.tmp 13) .skip (.exit 0))) (.block 1 (.seq q173_3 (.seq q173_4 q173_5))))
@[reducible] def q173_6:SCode:=.region [⟨some 23,.move (.tmp 0),none⟩,
  ⟨some 24,.move (.tmp 7),none⟩,
  ⟨some 25,.move (.tmp 1),none⟩,
  ⟨some 26,.move (.tmp 2),none⟩,
  ⟨some 27,.call { callee:=.value (.func 176),args:=#[.tmp 23,.tmp 24,.tmp 25,.tmp 26],argTypes:=#[26,3,3,189] },none⟩]
@[reducible] def q173_7:SCode:=.region [⟨some 28,.move (.tmp 6),none⟩,
  ⟨some 29,.move (.tmp 1),none⟩,
  ⟨some 30,.binOp .lss 3 (.tmp 28) (.tmp 29) 3,none⟩]
@[reducible] def q173_8:SCode:=.region [⟨some 31,.move (.tmp 6),none⟩,
  ⟨some 32,.binOp .mul 3 (.const (.int .i64 2)) (.tmp 31) 3,none⟩,
  ⟨some 7,.assign (.const (.int .i64 0)),none⟩,
  ⟨some 8,.assign (.tmp 32),none⟩]
@[reducible] def q173_9:SCode:=.region [⟨some 33,.move (.tmp 8),none⟩,
  ⟨some 34,.move (.tmp 1),none⟩,
  ⟨some 35,.binOp .leq 3 (.tmp 33) (.tmp 34) 3,none⟩]
@[reducible] def q173_10:SCode:=.region [⟨some 36,.move (.tmp 0),none⟩,
  ⟨some 37,.move (.tmp 7),none⟩,
  ⟨some 38,.move (.tmp 7),none⟩,
  ⟨some 39,.move (.tmp 6),none⟩,
  ⟨some 40,.binOp .add 3 (.tmp 38) (.tmp 39) 3,none⟩,
  ⟨some 41,.move (.tmp 8),none⟩,
  ⟨some 42,.move (.tmp 2),none⟩,
  ⟨some 43,.call { callee:=.value (.func 177),args:=#[.tmp 36,.tmp 37,.tmp 40,.tmp 41,.tmp 42],argTypes:=#[26,3,3,3,189] },none⟩]
@[reducible] def q173_11:SCode:=.region [⟨some 44,.move (.tmp 8),none⟩,
  ⟨some 7,.assign (.tmp 44),none⟩]
@[reducible] def q173_12:SCode:=.region [⟨some 45,.move (.tmp 8),none⟩,
  ⟨some 46,.move (.tmp 6),none⟩,
  ⟨some 47,.binOp .mul 3 (.const (.int .i64 2)) (.tmp 46) 3,none⟩,
  ⟨some 48,.binOp .add 3 (.tmp 45) (.tmp 47) 3,none⟩,
  ⟨some 8,.assign (.tmp 48),none⟩]
def l173_1:SCode:=(.seq (.seq q173_9 (.cond (.tmp 35) .skip (.exit 4))) (.block 5 (.seq q173_10 (.seq q173_11 q173_12))))
@[reducible] def q173_13:SCode:=.region [⟨some 49,.move (.tmp 7),none⟩,
  ⟨some 50,.move (.tmp 6),none⟩,
  ⟨some 51,.binOp .add 3 (.tmp 49) (.tmp 50) 3,none⟩,
  ⟨some 9,.assign (.tmp 51),none⟩]
@[reducible] def q173_14:SCode:=.region [⟨some 52,.move (.tmp 9),none⟩,
  ⟨some 53,.move (.tmp 1),none⟩,
  ⟨some 54,.binOp .lss 3 (.tmp 52) (.tmp 53) 3,none⟩]
@[reducible] def q173_15:SCode:=.region [⟨some 55,.move (.tmp 0),none⟩,
  ⟨some 56,.move (.tmp 7),none⟩,
  ⟨some 57,.move (.tmp 9),none⟩,
  ⟨some 58,.move (.tmp 1),none⟩,
  ⟨some 59,.move (.tmp 2),none⟩,
  ⟨some 60,.call { callee:=.value (.func 177),args:=#[.tmp 55,.tmp 56,.tmp 57,.tmp 58,.tmp 59],argTypes:=#[26,3,3,3,189] },none⟩]
@[reducible] def q173_16:SCode:=.region [⟨some 61,.move (.tmp 6),none⟩,
  ⟨some 62,.binOp .mul 3 (.tmp 61) (.const (.int .i64 2)) 3,none⟩,
  ⟨some 6,.assign (.tmp 62),none⟩]
def l173_2:SCode:=(.seq (.seq q173_7 (.cond (.tmp 30) .skip (.exit 2))) (.block 3 (.seq q173_8 (.seq (.block 4 (.loop l173_1)) (.seq (.seq q173_13 (.seq q173_14 (.cond (.tmp 54) q173_15 .skip))) q173_16)))))
def s173:SCode:=(.seq q173_0 (.seq q173_1 (.seq (.block 0 (.loop l173_0)) (.seq q173_6 (.block 2 (.loop l173_2))))))
theorem s173_strip:Yh (Yi Tryd.f173)=s173:=by kernel_rfl
theorem s173_ok:Yy 63 (Yi Tryd.f173)=true:=by kernel_rfl
/-! 176: slices.insertionSortCmpFunc[[2]int] -/
@[reducible] def q176_0:SCode:=.region [⟨some 10,.move (.tmp 1),none⟩,
  ⟨some 11,.binOp .add 3 (.tmp 10) (.const (.int .i64 1)) 3,none⟩,
  ⟨some 8,.assign (.tmp 11),none⟩]
@[reducible] def q176_1:SCode:=.region [⟨some 12,.move (.tmp 8),none⟩,
  ⟨some 13,.move (.tmp 2),none⟩,
  ⟨some 14,.binOp .lss 3 (.tmp 12) (.tmp 13) 3,none⟩]
@[reducible] def q176_3:SCode:=.region [⟨some 17,.move (.tmp 8),none⟩,
  ⟨some 9,.assign (.tmp 17),none⟩]
def q176_4:SCode:=.draw [⟨some 18,.move (.tmp 9),none⟩,
    ⟨some 19,.move (.tmp 1),none⟩,
    ⟨some 20,.binOp .gtr 3 (.tmp 18) (.tmp 19) 3,none⟩,
    ⟨some 21,.move (.tmp 20),none⟩,
    ⟨some 22,.move (.tmp 3),some (21,true)⟩,
    ⟨some 23,.move (.tmp 0),some (21,true)⟩,
    ⟨some 24,.move (.tmp 9),some (21,true)⟩,
    ⟨some 25,.indexAddr 26 (.tmp 23) (.tmp 24),some (21,true)⟩,
    ⟨some 26,.load 28 (.tmp 25),some (21,true)⟩,
    ⟨some 27,.move (.tmp 0),some (21,true)⟩,
    ⟨some 28,.move (.tmp 9),some (21,true)⟩,
    ⟨some 29,.binOp .sub 3 (.tmp 28) (.const (.int .i64 1)) 3,some (21,true)⟩,
    ⟨some 30,.indexAddr 26 (.tmp 27) (.tmp 29),some (21,true)⟩,
    ⟨some 31,.load 28 (.tmp 30),some (21,true)⟩,
    ⟨some 32,.call { callee:=.value (.tmp 22),args:=#[.tmp 26,.tmp 31],argTypes:=#[28,28] },some (21,true)⟩,
    ⟨some 33,.binOp .lss 3 (.tmp 32) (.const (.int .i64 0)) 3,some (21,true)⟩,
    ⟨some 34,.pick (.tmp 21) (.tmp 33) (.const (.bool false)),none⟩]
  [[],[],[0,1],[2],[3],[3],[3],[5,6,3],[7,3],[3],[3],[10,3],[9,11,3],[12,3],[4,8,13,3,3],[14,3],[3,15]]
def q176_6:SCode:=.draw [⟨some 37,.move (.tmp 0),none⟩,
    ⟨some 38,.move (.tmp 9),none⟩,
    ⟨some 39,.move (.tmp 0),none⟩,
    ⟨some 40,.move (.tmp 9),none⟩,
    ⟨some 41,.binOp .sub 3 (.tmp 40) (.const (.int .i64 1)) 3,none⟩,
    ⟨some 42,.move (.tmp 0),none⟩,
    ⟨some 43,.move (.tmp 9),none⟩,
    ⟨some 44,.binOp .sub 3 (.tmp 43) (.const (.int .i64 1)) 3,none⟩,
    ⟨some 45,.indexAddr 26 (.tmp 42) (.tmp 44),none⟩,
    ⟨some 46,.load 28 (.tmp 45),none⟩,
    ⟨some 47,.move (.tmp 0),none⟩,
    ⟨some 48,.move (.tmp 9),none⟩,
    ⟨some 49,.indexAddr 26 (.tmp 47) (.tmp 48),none⟩,
    ⟨some 50,.load 28 (.tmp 49),none⟩,
    ⟨some 51,.indexAddr 26 (.tmp 37) (.tmp 38),none⟩,
    ⟨none,.store 28 (.tmp 51) (.tmp 46),none⟩,
    ⟨some 52,.indexAddr 26 (.tmp 39) (.tmp 41),none⟩,
    ⟨none,.store 28 (.tmp 52) (.tmp 50),none⟩]
  [[],[],[],[],[3],[],[],[6],[5,7],[8],[],[],[10,11],[12],[0,1,0,1,5,6,7,8,9,13],[14,9,0,1,5,6,7,8,9,13],[2,4,0,1,2,3,4,5,6,7,8,9,10,11,12,13,14,15],[16,13,15,0,1,2,3,4,5,6,7,8,9,10,11,12,13,14,15]]
@[reducible] def q176_5:SCode:=.region [⟨some 35,.move (.tmp 9),none⟩,
  ⟨some 36,.binOp .sub 3 (.tmp 35) (.const (.int .i64 1)) 3,none⟩,
  ⟨some 9,.assign (.tmp 36),none⟩]
def l176_0:SCode:=(.seq (.seq q176_4 (.cond (.tmp 34) .skip (.exit 2))) (.seq (.block 3 q176_6) q176_5))
@[reducible] def q176_2:SCode:=.region [⟨some 15,.move (.tmp 8),none⟩,
  ⟨some 16,.binOp .add 3 (.tmp 15) (.const (.int .i64 1)) 3,none⟩,
  ⟨some 8,.assign (.tmp 16),none⟩]
def l176_1:SCode:=(.seq (.seq q176_1 (.cond (.tmp 14) .skip (.exit 0))) (.seq (.block 1 (.seq q176_3 (.block 2 (.loop l176_0)))) q176_2))
def s176:SCode:=(.seq q176_0 (.block 0 (.loop l176_1)))
theorem s176_strip:Yh (Yi Tryd.f176)=s176:=by kernel_rfl
theorem s176_ok:Yy 53 (Yi Tryd.f176)=true:=by kernel_rfl
end Go.Proofs.Tryd.Am
namespace Ord
theorem perm_of_nodup {α:Type} {l1 l2:List α} (h1:l1.Nodup) (h2:l2.Nodup) (h : ∀ a,a∈l1↔a∈l2):l1.Perm l2:=by
 classical
 induction l1 generalizing l2 with
 | nil =>
   cases l2 with
   | nil=>exact List.Perm.nil
   | cons b l=>exact absurd ((h b).2 (by simp)) (by simp)
 | cons a l ih =>
   have ha:a∈l2:=(h a).1 (by simp)
   obtain ⟨s,t,rfl⟩:=List.append_of_mem ha
   refine List.Perm.trans ?_ (List.perm_middle).symm
   refine List.Perm.cons a (ih (List.nodup_cons.1 h1).2 ?_ ?_)
   · exact (List.nodup_cons.1 ((List.perm_middle).nodup_iff.1 h2)).2
   · intro b
     have hb:=h b
     simp only [List.mem_cons,List.mem_append] at hb ⊢
     have hna:a ∉ l:=(List.nodup_cons.1 h1).1
     have hnt:a ∉ s++t:=(List.nodup_cons.1 ((List.perm_middle).nodup_iff.1 h2)).1
     constructor
     · intro hl
       have hba:b≠a:=fun e=>hna (e▸hl)
       rcases hb.1 (.inr hl) with h | h | h
       · exact .inl h
       · exact absurd h hba
       · exact .inr h
     · intro hst
       have hba:b≠a:=fun e=>hnt (e▸List.mem_append.2 hst)
       rcases hb.2 (hst.elim .inl fun h=>.inr (.inr h)) with h | h
       · exact absurd h hba
       · exact h
def firsts (r:Nat→Nat→Bool) (S:List Nat):List Nat:=S.filter fun i=>S.all fun j=>!r j i
def lines (r:Nat→Nat→Bool):Nat→List Nat→List (List Nat)
 | 0,_=>[[]]
 | k+1,S=>(firsts r S).flatMap fun i=>(lines r k (S.erase i)).map (i :: ·)
def cnt (r:Nat→Nat→Bool):Nat→List Nat→Nat
 | 0,_=>1
 | k+1,S=>((firsts r S).map fun i=>cnt r k (S.erase i)).sum
theorem sum_map_len {α β:Type} (f:α→List β) : ∀ l:List α,(l.flatMap f).length=(l.map fun a=>(f a).length).sum
 | []=>rfl
 | a::l=>by simp [sum_map_len f l]
theorem cnt_len (r:Nat→Nat→Bool) : ∀ k S,(lines r k S).length=cnt r k S
 | 0,_=>rfl
 | k+1,S=>by
   rw [lines,cnt,sum_map_len]
   simp [cnt_len r k]
theorem mem_firsts {r:Nat→Nat→Bool} {S:List Nat} {i:Nat}:i∈firsts r S↔i∈S∧∀ j∈S,r j i=false:=by
 simp [firsts]
theorem Vo {r:Nat→Nat→Bool} (hr : ∀ i,r i i=false) : ∀ {k:Nat} {S:List Nat},S.length=k→∀ l,l∈lines r k S↔l.Perm S∧l.Pairwise (fun a b=>r b a=false)
 | 0,S,hS,l=>by
   rw [List.length_eq_zero_iff] at hS
   subst hS
   simp [lines]
   intro h; subst h; exact List.Pairwise.nil
 | k+1,S,hS,l=>by
   simp only [lines,List.mem_flatMap,List.mem_map,mem_firsts]
   constructor
   · rintro ⟨i,⟨hi,hm⟩,l',hl',rfl⟩
     have hlen:(S.erase i).length=k:=by rw [List.length_erase_of_mem hi]; omega
     obtain ⟨hp,hw⟩:=(Vo hr hlen l').1 hl'
     refine ⟨(List.Perm.cons i hp).trans (List.perm_cons_erase hi).symm,List.pairwise_cons.2 ⟨fun b hb=>hm b (List.mem_of_mem_erase (hp.mem_iff.1 hb)),hw⟩⟩
   · rintro ⟨hp,hw⟩
     cases l with
     | nil=>have:=hp.length_eq; simp [hS] at this
     | cons i l' =>
       obtain ⟨h1,h2⟩:=List.pairwise_cons.1 hw
       have hi:i∈S:=hp.mem_iff.1 (by simp)
       have hp' : l'.Perm (S.erase i):=(List.perm_cons i).1 (hp.trans (List.perm_cons_erase hi))
       have hlen:(S.erase i).length=k:=by rw [List.length_erase_of_mem hi]; omega
       refine ⟨i,⟨hi,fun j hj=>?_⟩,l',(Vo hr hlen l').2 ⟨hp',h2⟩,rfl⟩
       rcases List.mem_cons.1 (hp.mem_iff.2 hj) with rfl | h
       · exact hr j
       · exact h1 j h
theorem nodup_lines {r:Nat→Nat→Bool} : ∀ {k:Nat} {S:List Nat},S.Nodup→(lines r k S).Nodup
 | 0,S,_=>by simp [lines]
 | k+1,S,hS=>by
   rw [lines]
   have hf:(firsts r S).Nodup:=hS.filter _
   generalize firsts r S=F at hf
   induction F with
   | nil=>simp
   | cons i F ih =>
     rw [List.flatMap_cons]
     refine List.nodup_append.2 ⟨?_,ih (List.nodup_cons.1 hf).2,?_⟩
     · refine List.Pairwise.map (R:=(·≠·)) _ (fun a b hab he=>hab (List.cons.inj he).2) (nodup_lines (hS.erase i))
     · intro a ha b hb hab
       subst hab
       obtain ⟨x,-,rfl⟩:=List.mem_map.1 ha
       obtain ⟨j,hj,hx⟩:=List.mem_flatMap.1 hb
       obtain ⟨y,-,he⟩:=List.mem_map.1 hx
       obtain ⟨rfl,-⟩:=List.cons.inj he
       exact (List.nodup_cons.1 hf).1 hj
theorem cnt_flip {r:Nat→Nat→Bool} (hr : ∀ i,r i i=false) {S:List Nat} (hS:S.Nodup):cnt (fun i j=>r j i) S.length S=cnt r S.length S:=by
 rw [← cnt_len,← cnt_len]
 have hp:((lines r S.length S).map List.reverse).Perm (lines (fun i j=>r j i) S.length S):=by
  refine perm_of_nodup ?_ (nodup_lines hS) fun l=>?_
  · exact List.Pairwise.map (R:=(·≠·)) _ (fun a b hab he=>hab (List.reverse_inj.1 he)) (nodup_lines hS)
  · rw [Vo (r:=fun i j=>r j i) hr rfl l,List.mem_map]
    constructor
    · rintro ⟨x,hx,rfl⟩
      obtain ⟨h1,h2⟩:=(Vo hr rfl x).1 hx
      exact ⟨(List.reverse_perm x).trans h1,List.pairwise_reverse.2 h2⟩
    · rintro ⟨h1,h2⟩
      refine ⟨l.reverse,(Vo hr rfl _).2 ⟨(List.reverse_perm l).trans h1,?_⟩,List.reverse_reverse l⟩
      exact List.pairwise_reverse.2 h2
 have:=hp.length_eq
 rw [List.length_map] at this
 exact this.symm
def addR (r:Nat→Nat→Bool) (i j:Nat):Nat→Nat→Bool:=fun a b=>r a b || ((a==i || r a i)&&(b==j || r j b))
structure Po (r:Nat→Nat→Bool):Prop where
 irr : ∀ i,r i i=false
 tr : ∀ i j k,r i j=true→r j k=true→r i k=true
theorem addR_po {r:Nat→Nat→Bool} (h:Po r) {i j:Nat} (hn:i≠j) (hji:r j i=false):Po (addR r i j):=by
 constructor
 · intro a
   simp only [addR,h.irr,Bool.false_or,Bool.and_eq_false_iff,Bool.or_eq_false_iff]
   cases h1:(a==i || r a i) with
   | false=>simp only [Bool.or_eq_false_iff] at h1; exact .inl h1
   | true =>
     refine .inr ?_
     simp only [Bool.or_eq_true,beq_iff_eq] at h1
     constructor
     · rw [beq_eq_false_iff_ne]
       rintro rfl
       rcases h1 with h1 | h1
       · exact hn h1.symm
       · rw [hji] at h1; cases h1
     · cases h2:r j a with
       | false=>rfl
       | true =>
         rcases h1 with rfl | h1
         · rw [hji] at h2; cases h2
         · rw [h.tr _ _ _ h2 h1] at hji; cases hji
 · intro a b c hab hbc
   simp only [addR,Bool.or_eq_true,Bool.and_eq_true,beq_iff_eq] at *
   rcases hab with hab | ⟨h1,h2⟩
   · rcases hbc with hbc | ⟨h3,h4⟩
     · exact .inl (h.tr _ _ _ hab hbc)
     · refine .inr ⟨.inr ?_,h4⟩
       rcases h3 with rfl | h3
       · exact hab
       · exact h.tr _ _ _ hab h3
   · rcases hbc with hbc | ⟨h3,h4⟩
     · refine .inr ⟨h1,.inr ?_⟩
       rcases h2 with rfl | h2
       · exact hbc
       · exact h.tr _ _ _ h2 hbc
     · exact .inr ⟨h1,h4⟩
theorem idx_ne {x y:Nat} (l:List Nat) (h:x≠y):(x::l).idxOf y=l.idxOf y+1:=by
 rw [List.idxOf_cons,show (x==y)=false by simpa using h]; rfl
def bef (l:List Nat) (i j:Nat):Bool:=decide (l.idxOf i<l.idxOf j)
theorem bef_pw {R:Nat→Nat→Prop} {l:List Nat} (hl:l.Nodup):l.Pairwise R↔∀ a∈l,∀ b∈l,bef l a b=true→R a b:=by
 induction l with
 | nil=>simp
 | cons x l ih =>
   have hx:=List.nodup_cons.1 hl
   rw [List.pairwise_cons,ih hx.2]
   simp only [bef,decide_eq_true_eq]
   constructor
   · rintro ⟨h1,h2⟩ a ha b hb hab
     by_cases hbx:b=x
     · subst hbx; simp [List.idxOf_cons_self] at hab
     have hbl:b∈l:=(List.mem_cons.1 hb).resolve_left hbx
     by_cases hax:a=x
     · subst hax; exact h1 b hbl
     have hal:a∈l:=(List.mem_cons.1 ha).resolve_left hax
     rw [idx_ne l (Ne.symm hax),idx_ne l (Ne.symm hbx)] at hab
     exact h2 a hal b hbl (by omega)
   · intro H
     constructor
     · intro b hb
       have hbx:b≠x:=fun e=>hx.1 (e▸hb)
       refine H x (by simp) b (by simp [hb]) ?_
       rw [List.idxOf_cons_self,idx_ne l (Ne.symm hbx)]; omega
     · intro a ha b hb hab
       have hax:a≠x:=fun e=>hx.1 (e▸ha)
       have hbx:b≠x:=fun e=>hx.1 (e▸hb)
       refine H a (by simp [ha]) b (by simp [hb]) ?_
       rw [idx_ne l (Ne.symm hax),idx_ne l (Ne.symm hbx)]; omega
theorem idx_inj {l:List Nat} {a b:Nat} (ha:a∈l) (hb:b∈l) (h:l.idxOf a=l.idxOf b):a=b:=by
 have h1:=List.getElem_idxOf (List.idxOf_lt_length_of_mem ha)
 have h2:=List.getElem_idxOf (List.idxOf_lt_length_of_mem hb)
 rw [← h1,← h2]
 simp only [h]
theorem bef_not {l:List Nat} {i j:Nat} (hi:i∈l) (hj:j∈l) (hn:i≠j):bef l j i = !bef l i j:=by
 have:l.idxOf i≠l.idxOf j:=fun h=>hn (idx_inj hi hj h)
 rw [bef,bef]
 by_cases h:l.idxOf i<l.idxOf j
 · rw [decide_eq_true h,decide_eq_false (by omega)]; rfl
 · rw [decide_eq_false h,decide_eq_true (by omega)]; rfl
theorem cnt_add {r:Nat→Nat→Bool} (h:Po r) {i j:Nat} (hn:i≠j) (hji:r j i=false) {S:List Nat} (hS:S.Nodup) (hi:i∈S) (hj:j∈S) :
  cnt (addR r i j) S.length S=((lines r S.length S).filter fun l=>bef l i j).length:=by
 rw [← cnt_len]
 refine List.Perm.length_eq (perm_of_nodup (nodup_lines hS) ((nodup_lines hS).filter _) fun l=>?_)
 rw [Vo (addR_po h hn hji).irr rfl,List.mem_filter,Vo h.irr rfl]
 constructor
 · rintro ⟨hp,hw⟩
   have hl:l.Nodup:=hp.nodup_iff.2 hS
   rw [bef_pw hl] at hw
   refine ⟨⟨hp,(bef_pw hl).2 fun a ha b hb hab=>?_⟩,?_⟩
   · have:=hw a ha b hb hab
     simp only [addR,Bool.or_eq_false_iff] at this
     exact this.1
   · have hil:=hp.mem_iff.2 hi
     have hjl:=hp.mem_iff.2 hj
     cases e:bef l i j with
     | true=>rfl
     | false =>
       have:=hw j hjl i hil (by rw [bef_not hil hjl hn,e]; rfl)
       simp [addR] at this
 · rintro ⟨⟨hp,hw⟩,hb⟩
   have hl:l.Nodup:=hp.nodup_iff.2 hS
   rw [bef_pw hl] at hw
   refine ⟨hp,(bef_pw hl).2 fun a ha b hb' hab=>?_⟩
   have hil:=hp.mem_iff.2 hi
   have hjl:=hp.mem_iff.2 hj
   simp only [addR,Bool.or_eq_false_iff]
   refine ⟨hw a ha b hb' hab,?_⟩
   cases e:((b==i || r b i)&&(a==j || r j a)) with
   | false=>rfl
   | true =>
     exfalso
     simp only [Bool.and_eq_true,Bool.or_eq_true,beq_iff_eq] at e
     simp only [bef,decide_eq_true_eq] at hb hab hw
     have h1:l.idxOf b≤l.idxOf i:=by
      rcases e.1 with rfl | e1
      · exact Nat.le_refl _
      · apply Classical.byContradiction; intro hc
        have:=hw i hil b hb' (by omega)
        rw [e1] at this; cases this
     have h2:l.idxOf j≤l.idxOf a:=by
      rcases e.2 with rfl | e1
      · exact Nat.le_refl _
      · apply Classical.byContradiction; intro hc
        have:=hw a ha j hjl (by omega)
        rw [e1] at this; cases this
     omega
theorem firsts_ne {r:Nat→Nat→Bool} (h:Po r) {S:List Nat} (hS:S≠[]):firsts r S≠[]:=by
 have key : ∀ n (T:List Nat),T.length≤n→(∀ x∈T,x∈S)→T≠[]→(∀ x∈S,∀ y∈T,r x y=true→x∈T)→firsts r S≠[]:=by
  intro n
  induction n with
  | zero=>intro T hT _ hne _; exact absurd (List.length_eq_zero_iff.1 (by omega)) hne
  | succ n ih =>
    intro T hT hTS hne hdown
    obtain ⟨y,T',rfl⟩:=List.exists_cons_of_ne_nil hne
    by_cases hy : ∀ x∈S,r x y=false
    · intro he
      have:y∈firsts r S:=mem_firsts.2 ⟨hTS y (by simp),hy⟩
      rw [he] at this; cases this
    · have : ∃ x,x∈S∧r x y=true:=by
       apply Classical.byContradiction; intro hno
       exact hy fun x hx=>by
        cases e:r x y with
        | false=>rfl
        | true=>exact absurd ⟨x,hx,e⟩ hno
      obtain ⟨x,hx,hxy⟩:=this
      refine ih ((y::T').filter fun z=>r z y) ?_ (fun z hz=>hTS z (List.mem_filter.1 hz).1) ?_ ?_
      · have hlt:((y::T').filter fun z=>r z y).length<(y::T').length:=by
         rw [List.filter_cons,if_neg (by simp [h.irr])]
         have:=List.length_filter_le (fun z=>r z y) T'
         simp only [List.length_cons]; omega
        omega
      · intro he
        have:x∈(y::T').filter fun z=>r z y:=List.mem_filter.2 ⟨hdown x hx y (by simp) hxy,hxy⟩
        rw [he] at this; cases this
      · intro a ha b hb hab
        have hb':=List.mem_filter.1 hb
        exact List.mem_filter.2 ⟨hdown a ha b hb'.1 hab,h.tr _ _ _ hab hb'.2⟩
 exact key S.length S (Nat.le_refl _) (fun _ h=>h) hS fun x hx _ _ _=>hx
theorem cnt_pos {r:Nat→Nat→Bool} (h:Po r) : ∀ {k:Nat} {S:List Nat},S.length=k→0<cnt r k S
 | 0,_,_=>Nat.one_pos
 | k+1,S,hS=>by
   have hne:=firsts_ne h (S:=S) (by rintro rfl; simp at hS)
   rw [cnt]
   obtain ⟨i,F,hF⟩:=List.exists_cons_of_ne_nil hne
   have hi:i∈S:=(mem_firsts.1 (by rw [hF]; simp:i∈firsts r S)).1
   rw [hF,List.map_cons,List.sum_cons]
   have:=cnt_pos h (k:=k) (S:=S.erase i) (by rw [List.length_erase_of_mem hi]; omega)
   omega
end Ord
namespace Ord
open Go.Am
def bt (o:List Int) (i:Nat):Nat:=(o.getD i 0).toNat
def ab (o:List Int) (i j:Nat):Bool:=(bt o i).testBit j
def okO (o:List Int) (i:Nat):Bool :=
 decide (0≤o.getD i 0)&&decide (o.getD i 0<2 ^ o.length) && !ab o i i&&(List.range o.length).all fun j=>!ab o i j || (Vb .andNot .i64 (o.getD j 0) (o.getD i 0)==0)
def ord (o:List Int):Bool:=decide (1≤o.length)&&decide (o.length≤6)&&(List.range o.length).all (okO o)
theorem Xq {o:List Int} (h:ord o=true):1≤o.length∧o.length≤6:=by
 simp only [ord,Bool.and_eq_true,decide_eq_true_eq] at h; exact h.1
theorem pow6 {n:Nat} (h:n≤6):2 ^ n≤64∧0<2 ^ n:=⟨Nat.pow_le_pow_right (n:=2) (by decide) h,Nat.two_pow_pos n⟩
theorem ord_at {o:List Int} (h:ord o=true) {i:Nat} (hi:i<o.length):okO o i=true:=by
 simp only [ord,Bool.and_eq_true,List.all_eq_true,List.mem_range] at h; exact h.2 i hi
theorem ord_nat {o:List Int} (h:ord o=true) {i:Nat} (hi:i<o.length):o.getD i 0=(bt o i:Int)∧bt o i<2 ^ o.length:=by
 have h2:=ord_at h hi
 simp only [okO,Bool.and_eq_true,decide_eq_true_eq] at h2
 have e:((2 ^ o.length:Nat):Int)=2 ^ o.length:=by simp
 have h3:=h2.1.1.1
 have h4:=h2.1.1.2
 refine ⟨(Int.toNat_of_nonneg h3).symm,?_⟩
 rw [← Int.toNat_of_nonneg h3,← e] at h4
 exact Int.ofNat_lt.1 h4
theorem bt_out {o:List Int} {i:Nat} (hi:o.length≤i):bt o i=0:=by simp [bt,List.getD,List.getElem?_eq_none hi]
theorem ab_lt {o:List Int} (h:ord o=true) {i j:Nat} (hij:ab o i j=true):i<o.length∧j<o.length:=by
 have hi:i<o.length:=by
  rcases Nat.lt_or_ge i o.length with h | h
  · exact h
  · simp [ab,bt_out h] at hij
 refine ⟨hi,?_⟩
 rcases Nat.lt_or_ge j o.length with h' | h'
 · exact h'
 · have:=Nat.testBit_lt_two_pow (Nat.lt_of_lt_of_le (ord_nat h hi).2 (Nat.pow_le_pow_right (by decide) h'))
   rw [ab,this] at hij; cases hij
theorem less_zero {a b:Nat}:less a b=0↔∀ k,a.testBit k=true→b.testBit k=true:=by
 constructor
 · intro h k hk
   have:=Wo a b k
   rw [h,hk,Nat.zero_testBit] at this
   cases hb:b.testBit k with
   | true=>rfl
   | false=>rw [hb] at this; cases this
 · intro h
   apply Nat.eq_of_testBit_eq
   intro k
   rw [Wo,Nat.zero_testBit]
   cases ha:a.testBit k with
   | false=>rfl
   | true=>rw [h k ha]; rfl
theorem ord_po {o:List Int} (h:ord o=true):Po (ab o):=by
 have hlen:=Xq h
 have hp:=pow6 hlen.2
 constructor
 · intro i
   rcases Nat.lt_or_ge i o.length with hi | hi
   · have h2:=ord_at h hi
     simp only [okO,Bool.and_eq_true,Bool.not_eq_true'] at h2
     exact h2.1.2
   · simp [ab,bt_out hi]
 · intro i j k hij hjk
   obtain ⟨hi,hj⟩:=ab_lt h hij
   have h2:=ord_at h hi
   simp only [okO,Bool.and_eq_true,List.all_eq_true,List.mem_range] at h2
   have h3:=h2.2 j hj
   rw [hij,Bool.not_true,Bool.false_or,beq_iff_eq] at h3
   obtain ⟨e1,l1⟩:=ord_nat h hi
   obtain ⟨e2,l2⟩:=ord_nat h hj
   rw [e1,e2,bitsV_andNot (by omega) (by omega)] at h3
   exact less_zero.1 (Int.ofNat.inj h3) k hjk
def dn (o:List Int) (i:Nat):Nat:=(List.range o.length).foldl (fun s j=>s ||| (if ab o j i then 2 ^ j else 0)) 0
theorem foldl_or_bit {f:Nat→Nat} {w:Nat} : ∀ (l:List Nat) (s:Nat),(l.foldl (fun r j=>r ||| f j) s).testBit w=(s.testBit w || l.any fun j=>(f j).testBit w)
 | [],s=>by simp
 | x::l,s=>by rw [List.foldl_cons,foldl_or_bit l,Nat.testBit_or,List.any_cons,Bool.or_assoc]
theorem dn_bit {o:List Int} {i j:Nat}:(dn o i).testBit j=(decide (j<o.length)&&ab o j i):=by
 rw [dn,foldl_or_bit,Nat.zero_testBit,Bool.false_or,Bool.eq_iff_iff,List.any_eq_true,Bool.and_eq_true,decide_eq_true_eq]
 constructor
 · rintro ⟨x,hx,hb⟩
   cases ha:ab o x i with
   | false=>simp [ha] at hb
   | true =>
     rw [ha,if_pos rfl,Nat.testBit_two_pow,decide_eq_true_eq] at hb
     subst hb
     exact ⟨List.mem_range.1 hx,ha⟩
 · rintro ⟨h1,h2⟩
   exact ⟨j,List.mem_range.2 h1,by rw [h2,if_pos rfl,Nat.testBit_two_pow_self]⟩
theorem dn_bit' {o:List Int} (h:ord o=true) {i j:Nat}:(dn o i).testBit j=ab o j i:=by
 rw [dn_bit]
 cases ha:ab o j i with
 | false=>simp
 | true=>simp [(ab_lt h ha).1]
theorem lt_of_bits {s n:Nat} (h : ∀ j,n≤j→s.testBit j=false):s<2 ^ n:=Nat.lt_pow_two_of_testBit s fun j hj=>h j hj
theorem dn_lt {o:List Int} {i:Nat}:dn o i<2 ^ o.length:=lt_of_bits fun j hj=>by rw [dn_bit,decide_eq_false (by omega)]; rfl
theorem bits_nodup (s:Nat):(bits s).Nodup:=(List.nodup_range).filter _
theorem bits_erase {s i:Nat} (hi:i<64):(bits s).erase i=bits (less s (2 ^ i)):=by
 rw [List.Nodup.erase_eq_filter (bits_nodup s),bits,bits,List.filter_filter]
 refine List.filter_congr fun j hj=>?_
 rw [Wo,Nat.testBit_two_pow,Bool.and_comm]
 by_cases h:j=i
 · subst h; simp
 · simp [h,Ne.symm h]
theorem bits_range {s n:Nat} (h:s<2 ^ n) (hn:n≤64):bits s=(List.range n).filter fun i=>s.testBit i:=by
 obtain ⟨d,hd⟩ : ∃ d,64=n+d:=⟨64-n,by omega⟩
 rw [bits,hd,List.range_add,List.filter_append]
 have:(List.map (n + ·) (List.range d)).filter (fun i=>s.testBit i)=[]:=by
  rw [List.filter_eq_nil_iff]
  intro a ha
  obtain ⟨k,-,rfl⟩:=List.mem_map.1 ha
  rw [Nat.testBit_lt_two_pow (Nat.lt_of_lt_of_le h (Nat.pow_le_pow_right (by decide) (Nat.le_add_right n k)))]
  decide
 rw [this,List.append_nil]
theorem bits_all {n:Nat} (hn:n≤64):bits (2 ^ n-1)=List.range n:=by
 rw [bits_range (n:=n) (by have:=Nat.two_pow_pos n; omega) hn,List.filter_eq_self]
 intro i hi
 rw [Nat.testBit_two_pow_sub_one,decide_eq_true (List.mem_range.1 hi)]
def okLast (o:List Int) (s i:Nat):Bool:=decide (less (dn o i) s=0)&&decide (bt o i &&& s=0)
def Wf (o:List Int):Nat→Nat→Nat
 | 0,_=>1
 | k+1,s=>(((bits s).filter (okLast o s)).map fun i=>Wf o k (less s (2 ^ i))).sum
def W (o:List Int) (s:Nat):Nat:=Wf o (bits s).length s
theorem W_zero (o:List Int):W o 0=1:=by
 have:bits 0=[]:=by decide
 rw [W,this]; rfl
theorem bits_ne {s:Nat} (h0:s≠0) (h:s<2 ^ 63):bits s≠[]:=by rw [bits_step s h h0]; exact List.cons_ne_nil _ _
theorem W_step {o:List Int} {s:Nat} (h0:s≠0) (h:s<2 ^ 63):W o s=(((bits s).filter (okLast o s)).map fun i=>W o (less s (2 ^ i))).sum:=by
 have hne:=bits_ne h0 h
 have hl : ∃ k,(bits s).length=k+1:=⟨(bits s).length-1,by have:=List.length_pos_iff.2 hne; omega⟩
 obtain ⟨k,hk⟩:=hl
 rw [W,hk,Wf]
 congr 1
 refine List.map_congr_left fun i hi=>?_
 have hib:=(List.mem_filter.1 hi).1
 rw [W,← bits_erase (Vg.1 hib).1,List.length_erase_of_mem hib,hk]; rfl
theorem Wf_le (o:List Int) : ∀ k s,s<64→Wf o k s≤6 ^ k
 | 0,_,_=>Nat.le_refl _
 | k+1,s,hs=>by
   rw [Wf]
   have hlen:((bits s).filter (okLast o s)).length≤6:=by
    have h1:=List.length_filter_le (okLast o s) (bits s)
    have h2:(bits s).length≤6:=by
     rw [bits_range (n:=6) hs (by decide)]
     have:=List.length_filter_le (fun i=>s.testBit i) (List.range 6)
     rw [List.length_range] at this; exact this
    omega
   have key : ∀ l:List Nat,(l.map fun i=>Wf o k (less s (2 ^ i))).sum≤l.length*6 ^ k:=by
    intro l
    induction l with
    | nil=>simp
    | cons a l ih =>
      rw [List.map_cons,List.sum_cons,List.length_cons,Nat.succ_mul]
      have:=Wf_le o k (less s (2 ^ a)) (less_lt (n:=6) hs)
      omega
   have h1:=key ((bits s).filter (okLast o s))
   have h2:=Nat.mul_le_mul_right (6 ^ k) hlen
   rw [Nat.pow_succ]
   omega
theorem bits_len6 {s:Nat} (hs:s<64):(bits s).length≤6:=by
 rw [bits_range (n:=6) hs (by decide)]
 have:=List.length_filter_le (fun i=>s.testBit i) (List.range 6)
 rw [List.length_range] at this; exact this
theorem W_le {o:List Int} {s:Nat} (hs:s<64):W o s≤46656 :=
 Nat.le_trans (Wf_le o _ s hs) (Nat.pow_le_pow_right (n:=6) (by decide) (bits_len6 hs))
theorem Wf_cnt {o:List Int} (h:ord o=true) : ∀ k s,(bits s).length=k→(∀ i j,s.testBit j=true→ab o i j=true→s.testBit i=true)→s<64→Wf o k s=cnt (fun i j=>ab o j i) k (bits s)
 | 0,_,_,_,_=>rfl
 | k+1,s,hk,hd,hs=>by
   rw [Wf,cnt]
   have e:(bits s).filter (okLast o s)=firsts (fun i j=>ab o j i) (bits s):=by
    refine List.filter_congr fun i hi=>?_
    rw [okLast,Bool.eq_iff_iff,Bool.and_eq_true,decide_eq_true_eq,decide_eq_true_eq,List.all_eq_true]
    have h1:less (dn o i) s=0:=less_zero.2 fun j hj=>hd j i (Vg.1 hi).2 (by rwa [dn_bit' h] at hj)
    constructor
    · rintro ⟨-,h2⟩ j hj
      have:=congrArg (fun x=>x.testBit j) h2
      simp only [Nat.testBit_and,(Vg.1 hj).2,Bool.and_true,Nat.zero_testBit] at this
      show (!ab o i j)=true
      rw [ab,this]; rfl
    · intro H
      refine ⟨h1,?_⟩
      apply Nat.eq_of_testBit_eq
      intro j
      rw [Nat.testBit_and,Nat.zero_testBit]
      cases hj:s.testBit j with
      | false=>simp
      | true =>
        have hj64:j<64:=by
         rcases Nat.lt_or_ge j 64 with h | h
         · exact h
         · rw [Nat.testBit_lt_two_pow (Nat.lt_of_lt_of_le hs (Nat.pow_le_pow_right (n:=2) (i:=6) (by decide) (by omega)))] at hj; cases hj
        have:=H j (Vg.2 ⟨hj64,hj⟩)
        simp only [Bool.not_eq_true',ab] at this
        rw [this]; rfl
   rw [e]
   congr 1
   refine List.map_congr_left fun i hi=>?_
   obtain ⟨hib,hm⟩:=mem_firsts.1 hi
   have hi64:=(Vg.1 hib).1
   rw [bits_erase hi64]
   refine Wf_cnt h k _ ?_ ?_ (less_lt (n:=6) hs)
   · rw [← bits_erase hi64,List.length_erase_of_mem hib]; omega
   · intro a b hb hab
     rw [Wo,Bool.and_eq_true,Nat.testBit_two_pow,Bool.not_eq_true',decide_eq_false_iff_not] at hb ⊢
     have ha:=hd a b hb.1 hab
     refine ⟨ha,fun he=>?_⟩
     subst he
     have hb64:b<64:=by have:=(ab_lt h hab).2; have:=Xq h; omega
     have:=hm b (Vg.2 ⟨hb64,hb.1⟩)
     rw [hab] at this; cases this
def cn (o:List Int):Nat:=cnt (ab o) o.length (List.range o.length)
theorem cn_len {o:List Int} (h:ord o=true):W o (2 ^ o.length-1)=cn o:=by
 have hlen:=Xq h
 have hp:=pow6 hlen.2
 have hb:=bits_all (n:=o.length) (by omega)
 rw [W,Wf_cnt h _ _ rfl ?_ (by omega),hb,cn]
 · have:=cnt_flip (ord_po h).irr (S:=List.range o.length) List.nodup_range
   rw [List.length_range] at this
   rw [List.length_range]; exact this
 · intro i j _ hij
   rw [Nat.testBit_two_pow_sub_one,decide_eq_true (ab_lt h hij).1]
theorem cn_le {o:List Int} (h:ord o=true):cn o≤46656:=by
 have:=pow6 (Xq h).2
 rw [← cn_len h]; exact W_le (by omega)
theorem cn_pos {o:List Int} (h:ord o=true):0<cn o:=cnt_pos (ord_po h) (by simp)
def addL (o:List Int) (i j:Nat):List Int:=(List.range o.length).map fun k=>if k=i∨ab o k i=true then ((bt o k ||| (bt o j ||| 2 ^ j):Nat):Int) else o.getD k 0
theorem addL_len {o:List Int} {i j:Nat}:(addL o i j).length=o.length:=by simp [addL]
theorem getD_map {f:Nat→Int} {n k:Nat}:((List.range n).map f).getD k 0=if k<n then f k else 0:=by
 by_cases hk:k<n <;> simp [List.getD,hk]
theorem addL_bt {o:List Int} {i j k:Nat}:bt (addL o i j) k=if k<o.length∧(k=i∨ab o k i=true) then bt o k ||| (bt o j ||| 2 ^ j) else bt o k:=by
 by_cases hk:k<o.length
 · by_cases hc:k=i∨ab o k i=true
   · rw [if_pos ⟨hk,hc⟩,bt,addL,getD_map,if_pos hk,if_pos hc,Int.toNat_natCast]
   · rw [if_neg (fun h=>hc h.2),bt,addL,getD_map,if_pos hk,if_neg hc]; rfl
 · rw [if_neg (fun h=>hk h.1),bt_out (by rw [addL_len]; omega),bt_out (by omega)]
theorem addL_ab {o:List Int} {i j:Nat} (hi:i<o.length) (h:ord o=true):ab (addL o i j)=addR (ab o) i j:=by
 funext a b
 rw [ab,addL_bt,addR]
 by_cases hc:a=i∨ab o a i=true
 · have ha:a<o.length:=hc.elim (fun e=>e▸hi) fun h'=>(ab_lt h h').1
   rw [if_pos ⟨ha,hc⟩,Nat.testBit_or,Nat.testBit_or,Nat.testBit_two_pow]
   have:(a==i || ab o a i)=true:=by rcases hc with h | h <;> simp [h]
   rw [this,Bool.true_and]
   show (ab o a b || (ab o j b || _))=(ab o a b || ((b==j) || ab o j b))
   congr 1
   rw [Bool.or_comm]
   congr 1
   by_cases hbj:j=b
   · subst hbj; simp
   · simp [hbj,Ne.symm hbj]
 · rw [if_neg (fun h=>hc h.2)]
   have:(a==i || ab o a i)=false:=by
    cases e:(a==i || ab o a i) with
    | false=>rfl
    | true=>simp only [Bool.or_eq_true,beq_iff_eq] at e; exact absurd e hc
   rw [this,Bool.false_and,Bool.or_false]; rfl
theorem ord_of {o:List Int} (h1:1≤o.length∧o.length≤6) (hb : ∀ i,i<o.length→∃ s:Nat,o.getD i 0=(s:Int)∧s<2 ^ o.length) (hp:Po (ab o)):ord o=true:=by
 have hp6:=pow6 h1.2
 simp only [ord,Bool.and_eq_true,decide_eq_true_eq,List.all_eq_true,List.mem_range]
 refine ⟨h1,fun i hi=>?_⟩
 obtain ⟨s,hs,hl⟩:=hb i hi
 have e:((2 ^ o.length:Nat):Int)=2 ^ o.length:=by simp
 simp only [okO,Bool.and_eq_true,decide_eq_true_eq,List.all_eq_true,List.mem_range,Bool.not_eq_true']
 refine ⟨⟨⟨by omega,by rw [hs,← e]; exact Int.ofNat_lt.2 hl⟩,hp.irr i⟩,fun j hj=>?_⟩
 obtain ⟨t,ht,hl2⟩:=hb j hj
 cases hij:ab o i j with
 | false=>rfl
 | true =>
   rw [Bool.not_true,Bool.false_or,hs,ht,bitsV_andNot (by omega) (by omega)]
   have hz:less t s=0:=less_zero.2 fun k hk=>by
    have h2:ab o j k=true:=by rw [ab,bt,ht,Int.toNat_natCast]; exact hk
    have:=hp.tr i j k hij h2
    rwa [ab,bt,hs,Int.toNat_natCast] at this
   rw [hz]; rfl
theorem addL_ord {o:List Int} (h:ord o=true) {i j:Nat} (hi:i<o.length) (hj:j<o.length) (hn:i≠j) (hji:ab o j i=false):ord (addL o i j)=true:=by
 refine ord_of (by rw [addL_len]; exact Xq h) (fun k hk=>?_) (by rw [addL_ab hi h]; exact addR_po (ord_po h) hn hji)
 rw [addL_len] at hk ⊢
 obtain ⟨e1,l1⟩:=ord_nat h hk
 obtain ⟨e2,l2⟩:=ord_nat h hj
 have e:(addL o i j).getD k 0=if k=i∨ab o k i=true then ((bt o k ||| (bt o j ||| 2 ^ j):Nat):Int) else o.getD k 0:=by rw [addL,getD_map,if_pos hk]
 rw [e]
 split
 · exact ⟨_,rfl,Nat.or_lt_two_pow l1 (Nat.or_lt_two_pow l2 (Nat.pow_lt_pow_right (by decide) hj))⟩
 · exact ⟨_,e1,l1⟩
def fr (o:List Int) (i j:Nat):Bool:=decide (i≠j) && !ab o i j && !ab o j i
end Ord

/- Printed by gen.py: facts on the types of this seat, asked of the kernel. -/
import Derived.Test.YtnjacpfahhjpiaaDoorAmO
import Derived.Test.YtnjacpfahhjpiaaDoorProg
import Derived.KernelRfl
set_option linter.all false
namespace Go.Proofs.Tryd.Am
open Go.Am
set_option maxRecDepth 100000
theorem app_22_22 : appT Tryd.prog 22 22 = some (3, 1, 8) := by kernel_rfl
theorem app_45_45 : appT Tryd.prog 45 45 = some (22, 1, 24) := by kernel_rfl
theorem app_52_52 : appT Tryd.prog 52 52 = some (33, 2, 16) := by kernel_rfl
theorem el_22 : elemOf' Tryd.prog 22 = some 3 := by kernel_rfl
theorem el_45 : elemOf' Tryd.prog 45 = some 22 := by kernel_rfl
theorem el_52 : elemOf' Tryd.prog 52 = some 33 := by kernel_rfl
theorem esz_22 : esz Tryd.prog 22 = some 1 := by kernel_rfl
theorem esz_3 : esz Tryd.prog 3 = some 1 := by kernel_rfl
theorem esz_33 : esz Tryd.prog 33 = some 2 := by kernel_rfl
theorem esz_37 : esz Tryd.prog 37 = some 2 := by kernel_rfl
theorem esz_75 : esz Tryd.prog 75 = some 6 := by kernel_rfl
theorem esz_77 : esz Tryd.prog 77 = some 7 := by kernel_rfl
theorem fld_37_0 : fldOf Tryd.prog 37 0 = some (3, 0) := by kernel_rfl
theorem fld_37_1 : fldOf Tryd.prog 37 1 = some (3, 1) := by kernel_rfl
theorem fld_77_0 : fldOf Tryd.prog 77 0 = some (3, 0) := by kernel_rfl
theorem fld_77_1 : fldOf Tryd.prog 77 1 = some (75, 1) := by kernel_rfl
theorem info_3 : (Tryd.prog.info? 3).map (fun i => (i.size, i.bytes)) = some (1, 8) := by kernel_rfl
theorem isl_22 : isSl Tryd.prog 22 = true := by kernel_rfl
theorem isl_45 : isSl Tryd.prog 45 = true := by kernel_rfl
theorem isl_52 : isSl Tryd.prog 52 = true := by kernel_rfl
theorem pl_33_0 : placeOf Tryd.prog 33 0 = some (0, 1) := by kernel_rfl
theorem pl_33_1 : placeOf Tryd.prog 33 1 = some (1, 1) := by kernel_rfl
theorem pl_37_0 : placeOf Tryd.prog 37 0 = some (0, 1) := by kernel_rfl
theorem pl_37_1 : placeOf Tryd.prog 37 1 = some (1, 1) := by kernel_rfl
theorem pl_77_0 : placeOf Tryd.prog 77 0 = some (0, 1) := by kernel_rfl
theorem pl_77_1 : placeOf Tryd.prog 77 1 = some (1, 6) := by kernel_rfl
theorem shp_118 : shp Tryd.prog 118 = some none := by kernel_rfl
theorem shp_22 : shp Tryd.prog 22 = some none := by kernel_rfl
theorem shp_3 : shp Tryd.prog 3 = some none := by kernel_rfl
theorem shp_33 : shp Tryd.prog 33 = some (some 2) := by kernel_rfl
theorem shp_37 : shp Tryd.prog 37 = some (some 2) := by kernel_rfl
theorem shp_4 : shp Tryd.prog 4 = some none := by kernel_rfl
theorem shp_45 : shp Tryd.prog 45 = some none := by kernel_rfl
theorem shp_75 : shp Tryd.prog 75 = some (some 6) := by kernel_rfl
theorem shp_77 : shp Tryd.prog 77 = some (some 7) := by kernel_rfl
theorem und_22 : Program.underlying Tryd.prog 22 = some (.slice 3) := by kernel_rfl
theorem und_29 : Program.underlying Tryd.prog 29 = some (.int .u64) := by kernel_rfl
theorem und_3 : Program.underlying Tryd.prog 3 = some (.int .i64) := by kernel_rfl
theorem und_33 : Program.underlying Tryd.prog 33 = some (.array 2 3) := by kernel_rfl
theorem und_4 : Program.underlying Tryd.prog 4 = some (.bool) := by kernel_rfl
theorem und_45 : Program.underlying Tryd.prog 45 = some (.slice 22) := by kernel_rfl
theorem und_52 : Program.underlying Tryd.prog 52 = some (.slice 33) := by kernel_rfl
theorem und_75 : Program.underlying Tryd.prog 75 = some (.array 6 3) := by kernel_rfl
theorem zero_118 : zeroOf Tryd.prog 118 = some [.nilFunc] := by kernel_rfl
theorem zero_22 : zeroOf Tryd.prog 22 = some [.slice none 0 0] := by kernel_rfl
theorem zero_3 : zeroOf Tryd.prog 3 = some [.int .i64 0] := by kernel_rfl
theorem zero_33 : zeroOf Tryd.prog 33 = some [.int .i64 0, .int .i64 0] := by kernel_rfl
theorem zero_37 : zeroOf Tryd.prog 37 = some [.int .i64 0, .int .i64 0] := by kernel_rfl
theorem zero_4 : zeroOf Tryd.prog 4 = some [.bool false] := by kernel_rfl
theorem zero_45 : zeroOf Tryd.prog 45 = some [.slice none 0 0] := by kernel_rfl
theorem zero_77 : zeroOf Tryd.prog 77 = some [.int .i64 0, .int .i64 0, .int .i64 0, .int .i64 0, .int .i64 0, .int .i64 0, .int .i64 0] := by kernel_rfl
def tyf := (And.intro (And.intro (And.intro (And.intro (And.intro (And.intro @app_22_22 @app_45_45) (And.intro @app_52_52 @el_22)) (And.intro (And.intro @el_45 @el_52) @esz_22)) (And.intro (And.intro (And.intro @esz_3 @esz_33) @esz_37) (And.intro (And.intro @esz_75 @esz_77) @fld_37_0))) (And.intro (And.intro (And.intro (And.intro @fld_37_1 @fld_77_0) (And.intro @fld_77_1 @info_3)) (And.intro (And.intro @isl_22 @isl_45) @isl_52)) (And.intro (And.intro (And.intro @pl_33_0 @pl_33_1) @pl_37_0) (And.intro (And.intro @pl_37_1 @pl_77_0) @pl_77_1)))) (And.intro (And.intro (And.intro (And.intro (And.intro @shp_118 @shp_22) (And.intro @shp_3 @shp_33)) (And.intro (And.intro @shp_37 @shp_4) @shp_45)) (And.intro (And.intro (And.intro @shp_75 @shp_77) @und_22) (And.intro (And.intro @und_29 @und_3) @und_33))) (And.intro (And.intro (And.intro (And.intro @und_4 @und_45) @und_52) (And.intro (And.intro @und_75 @zero_118) @zero_22)) (And.intro (And.intro (And.intro @zero_3 @zero_33) @zero_37) (And.intro (And.intro @zero_4 @zero_45) @zero_77)))))
end Go.Proofs.Tryd.Am

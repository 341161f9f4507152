/- Printed by gen.py: facts on the types of this seat, asked of the kernel. -/
import Derived.Test.YtemmcfeekpblkaaDoorAmO
import Derived.Test.YtemmcfeekpblkaaDoorProg
import Derived.KernelRfl
set_option linter.all false
namespace Go.Proofs.Tryd.Am
open Go.Am
set_option maxRecDepth 100000
theorem app_22_22 : appT Tryd.prog 22 22 = some (3, 1, 8) := by kernel_rfl
theorem app_36_36 : appT Tryd.prog 36 36 = some (40, 3, 24) := by kernel_rfl
theorem app_46_46 : appT Tryd.prog 46 46 = some (52, 2, 16) := by kernel_rfl
theorem el_22 : elemOf' Tryd.prog 22 = some 3 := by kernel_rfl
theorem el_36 : elemOf' Tryd.prog 36 = some 40 := by kernel_rfl
theorem el_46 : elemOf' Tryd.prog 46 = some 52 := by kernel_rfl
theorem el_55 : elemOf' Tryd.prog 55 = some 3 := by kernel_rfl
theorem esz_22 : esz Tryd.prog 22 = some 1 := by kernel_rfl
theorem esz_27 : esz Tryd.prog 27 = some 1 := by kernel_rfl
theorem esz_3 : esz Tryd.prog 3 = some 1 := by kernel_rfl
theorem esz_40 : esz Tryd.prog 40 = some 3 := by kernel_rfl
theorem esz_52 : esz Tryd.prog 52 = some 2 := by kernel_rfl
theorem esz_55 : esz Tryd.prog 55 = some 1 := by kernel_rfl
theorem info_3 : (Tryd.prog.info? 3).map (fun i => (i.size, i.bytes)) = some (1, 8) := by kernel_rfl
theorem isl_22 : isSl Tryd.prog 22 = true := by kernel_rfl
theorem isl_36 : isSl Tryd.prog 36 = true := by kernel_rfl
theorem isl_46 : isSl Tryd.prog 46 = true := by kernel_rfl
theorem isl_55 : isSl Tryd.prog 55 = true := by kernel_rfl
theorem pl_40_0 : placeOf Tryd.prog 40 0 = some (0, 1) := by kernel_rfl
theorem pl_40_1 : placeOf Tryd.prog 40 1 = some (1, 1) := by kernel_rfl
theorem pl_40_2 : placeOf Tryd.prog 40 2 = some (2, 1) := by kernel_rfl
theorem shp_22 : shp Tryd.prog 22 = some none := by kernel_rfl
theorem shp_27 : shp Tryd.prog 27 = some none := by kernel_rfl
theorem shp_3 : shp Tryd.prog 3 = some none := by kernel_rfl
theorem shp_36 : shp Tryd.prog 36 = some none := by kernel_rfl
theorem shp_4 : shp Tryd.prog 4 = some none := by kernel_rfl
theorem shp_40 : shp Tryd.prog 40 = some (some 3) := by kernel_rfl
theorem shp_52 : shp Tryd.prog 52 = some (some 2) := by kernel_rfl
theorem shp_55 : shp Tryd.prog 55 = some none := by kernel_rfl
theorem shp_63 : shp Tryd.prog 63 = some none := by kernel_rfl
theorem shp_69 : shp Tryd.prog 69 = some none := by kernel_rfl
theorem shp_79 : shp Tryd.prog 79 = some none := by kernel_rfl
theorem und_22 : Program.underlying Tryd.prog 22 = some (.slice 3) := by kernel_rfl
theorem und_3 : Program.underlying Tryd.prog 3 = some (.int .i64) := by kernel_rfl
theorem und_36 : Program.underlying Tryd.prog 36 = some (.slice 40) := by kernel_rfl
theorem und_4 : Program.underlying Tryd.prog 4 = some (.bool) := by kernel_rfl
theorem und_40 : Program.underlying Tryd.prog 40 = some (.array 3 3) := by kernel_rfl
theorem und_46 : Program.underlying Tryd.prog 46 = some (.slice 52) := by kernel_rfl
theorem und_52 : Program.underlying Tryd.prog 52 = some (.array 2 3) := by kernel_rfl
theorem und_53 : Program.underlying Tryd.prog 53 = some (.int .u64) := by kernel_rfl
theorem und_55 : Program.underlying Tryd.prog 55 = some (.slice 3) := by kernel_rfl
theorem und_87 : Program.underlying Tryd.prog 87 = some (.int .u32) := by kernel_rfl
theorem und_89 : Program.underlying Tryd.prog 89 = some (.int .u64) := by kernel_rfl
theorem zero_22 : zeroOf Tryd.prog 22 = some [.slice none 0 0] := by kernel_rfl
theorem zero_3 : zeroOf Tryd.prog 3 = some [.int .i64 0] := by kernel_rfl
theorem zero_36 : zeroOf Tryd.prog 36 = some [.slice none 0 0] := by kernel_rfl
theorem zero_4 : zeroOf Tryd.prog 4 = some [.bool false] := by kernel_rfl
theorem zero_40 : zeroOf Tryd.prog 40 = some [.int .i64 0, .int .i64 0, .int .i64 0] := by kernel_rfl
theorem zero_52 : zeroOf Tryd.prog 52 = some [.int .i64 0, .int .i64 0] := by kernel_rfl
theorem zero_55 : zeroOf Tryd.prog 55 = some [.slice none 0 0] := by kernel_rfl
theorem zero_63 : zeroOf Tryd.prog 63 = some [.nilFunc] := by kernel_rfl
theorem zero_69 : zeroOf Tryd.prog 69 = some [.nilFunc] := by kernel_rfl
theorem zero_79 : zeroOf Tryd.prog 79 = some [.nilFunc] := by kernel_rfl
def tyf := (And.intro (And.intro (And.intro (And.intro (And.intro (And.intro @app_22_22 @app_36_36) (And.intro @app_46_46 @el_22)) (And.intro (And.intro @el_36 @el_46) @el_55)) (And.intro (And.intro (And.intro @esz_22 @esz_27) (And.intro @esz_3 @esz_40)) (And.intro (And.intro @esz_52 @esz_55) @info_3))) (And.intro (And.intro (And.intro (And.intro @isl_22 @isl_36) (And.intro @isl_46 @isl_55)) (And.intro (And.intro @pl_40_0 @pl_40_1) @pl_40_2)) (And.intro (And.intro (And.intro @shp_22 @shp_27) @shp_3) (And.intro (And.intro @shp_36 @shp_4) @shp_40)))) (And.intro (And.intro (And.intro (And.intro (And.intro @shp_52 @shp_55) (And.intro @shp_63 @shp_69)) (And.intro (And.intro @shp_79 @und_22) @und_3)) (And.intro (And.intro (And.intro @und_36 @und_4) @und_40) (And.intro (And.intro @und_46 @und_52) @und_53))) (And.intro (And.intro (And.intro (And.intro @und_55 @und_87) (And.intro @und_89 @zero_22)) (And.intro (And.intro @zero_3 @zero_36) @zero_4)) (And.intro (And.intro (And.intro @zero_40 @zero_52) @zero_55) (And.intro (And.intro @zero_63 @zero_69) @zero_79)))))
end Go.Proofs.Tryd.Am

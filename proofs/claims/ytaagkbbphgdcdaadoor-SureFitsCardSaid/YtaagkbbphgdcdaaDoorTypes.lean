/- Printed by gen.py: facts on the types of this seat, asked of the kernel. -/
import Derived.Test.YtaagkbbphgdcdaaDoorAmO
import Derived.Test.YtaagkbbphgdcdaaDoorProg
import Derived.KernelRfl
set_option linter.all false
namespace Go.Proofs.Tryd.Am
open Go.Am
set_option maxRecDepth 100000
theorem app_22_22 : appT Tryd.prog 22 22 = some (3, 1, 8) := by kernel_rfl
theorem app_60_60 : appT Tryd.prog 60 60 = some (63, 1, 8) := by kernel_rfl
theorem el_22 : elemOf' Tryd.prog 22 = some 3 := by kernel_rfl
theorem el_56 : elemOf' Tryd.prog 56 = some 3 := by kernel_rfl
theorem el_60 : elemOf' Tryd.prog 60 = some 63 := by kernel_rfl
theorem esz_22 : esz Tryd.prog 22 = some 1 := by kernel_rfl
theorem esz_3 : esz Tryd.prog 3 = some 1 := by kernel_rfl
theorem esz_60 : esz Tryd.prog 60 = some 1 := by kernel_rfl
theorem esz_62 : esz Tryd.prog 62 = some 2 := by kernel_rfl
theorem esz_63 : esz Tryd.prog 63 = some 1 := by kernel_rfl
theorem esz_77 : esz Tryd.prog 77 = some 5 := by kernel_rfl
theorem fld_62_0 : fldOf Tryd.prog 62 0 = some (3, 0) := by kernel_rfl
theorem fld_62_1 : fldOf Tryd.prog 62 1 = some (60, 1) := by kernel_rfl
theorem info_3 : (Tryd.prog.info? 3).map (fun i => (i.size, i.bytes)) = some (1, 8) := by kernel_rfl
theorem info_63 : (Tryd.prog.info? 63).map (fun i => (i.size, i.bytes)) = some (1, 8) := by kernel_rfl
theorem isl_22 : isSl Tryd.prog 22 = true := by kernel_rfl
theorem isl_56 : isSl Tryd.prog 56 = true := by kernel_rfl
theorem isl_60 : isSl Tryd.prog 60 = true := by kernel_rfl
theorem pl_62_0 : placeOf Tryd.prog 62 0 = some (0, 1) := by kernel_rfl
theorem pl_62_1 : placeOf Tryd.prog 62 1 = some (1, 1) := by kernel_rfl
theorem pl_77_0 : placeOf Tryd.prog 77 0 = some (0, 1) := by kernel_rfl
theorem pl_77_1 : placeOf Tryd.prog 77 1 = some (1, 1) := by kernel_rfl
theorem pl_77_2 : placeOf Tryd.prog 77 2 = some (2, 1) := by kernel_rfl
theorem pl_77_3 : placeOf Tryd.prog 77 3 = some (3, 1) := by kernel_rfl
theorem pl_77_4 : placeOf Tryd.prog 77 4 = some (4, 1) := by kernel_rfl
theorem shp_22 : shp Tryd.prog 22 = some none := by kernel_rfl
theorem shp_3 : shp Tryd.prog 3 = some none := by kernel_rfl
theorem shp_56 : shp Tryd.prog 56 = some none := by kernel_rfl
theorem shp_60 : shp Tryd.prog 60 = some none := by kernel_rfl
theorem shp_63 : shp Tryd.prog 63 = some none := by kernel_rfl
theorem shp_68 : shp Tryd.prog 68 = some none := by kernel_rfl
theorem shp_75 : shp Tryd.prog 75 = some none := by kernel_rfl
theorem shp_77 : shp Tryd.prog 77 = some (some 5) := by kernel_rfl
theorem und_107 : Program.underlying Tryd.prog 107 = some (.int .u32) := by kernel_rfl
theorem und_22 : Program.underlying Tryd.prog 22 = some (.slice 3) := by kernel_rfl
theorem und_3 : Program.underlying Tryd.prog 3 = some (.int .i64) := by kernel_rfl
theorem und_4 : Program.underlying Tryd.prog 4 = some (.bool) := by kernel_rfl
theorem und_42 : Program.underlying Tryd.prog 42 = some (.int .u64) := by kernel_rfl
theorem und_5 : Program.underlying Tryd.prog 5 = some (.int .u8) := by kernel_rfl
theorem und_56 : Program.underlying Tryd.prog 56 = some (.slice 3) := by kernel_rfl
theorem und_60 : Program.underlying Tryd.prog 60 = some (.slice 63) := by kernel_rfl
theorem und_63 : Program.underlying Tryd.prog 63 = some (.int .u64) := by kernel_rfl
theorem und_77 : Program.underlying Tryd.prog 77 = some (.array 5 3) := by kernel_rfl
theorem und_9 : Program.underlying Tryd.prog 9 = some (.string) := by kernel_rfl
theorem zero_3 : zeroOf Tryd.prog 3 = some [.int .i64 0] := by kernel_rfl
theorem zero_56 : zeroOf Tryd.prog 56 = some [.slice none 0 0] := by kernel_rfl
theorem zero_62 : zeroOf Tryd.prog 62 = some [.int .i64 0, .slice none 0 0] := by kernel_rfl
theorem zero_63 : zeroOf Tryd.prog 63 = some [.int .u64 0] := by kernel_rfl
theorem zero_68 : zeroOf Tryd.prog 68 = some [.nilFunc] := by kernel_rfl
theorem zero_75 : zeroOf Tryd.prog 75 = some [.nilFunc] := by kernel_rfl
theorem zero_77 : zeroOf Tryd.prog 77 = some [.int .i64 0, .int .i64 0, .int .i64 0, .int .i64 0, .int .i64 0] := by kernel_rfl
def tyf := (And.intro (And.intro (And.intro (And.intro (And.intro (And.intro @app_22_22 @app_60_60) (And.intro @el_22 @el_56)) (And.intro (And.intro @el_60 @esz_22) @esz_3)) (And.intro (And.intro (And.intro @esz_60 @esz_62) @esz_63) (And.intro (And.intro @esz_77 @fld_62_0) @fld_62_1))) (And.intro (And.intro (And.intro (And.intro @info_3 @info_63) (And.intro @isl_22 @isl_56)) (And.intro (And.intro @isl_60 @pl_62_0) @pl_62_1)) (And.intro (And.intro (And.intro @pl_77_0 @pl_77_1) @pl_77_2) (And.intro (And.intro @pl_77_3 @pl_77_4) @shp_22)))) (And.intro (And.intro (And.intro (And.intro (And.intro @shp_3 @shp_56) (And.intro @shp_60 @shp_63)) (And.intro (And.intro @shp_68 @shp_75) @shp_77)) (And.intro (And.intro (And.intro @und_107 @und_22) @und_3) (And.intro (And.intro @und_4 @und_42) @und_5))) (And.intro (And.intro (And.intro (And.intro @und_56 @und_60) @und_63) (And.intro (And.intro @und_77 @und_9) @zero_3)) (And.intro (And.intro (And.intro @zero_56 @zero_62) @zero_63) (And.intro (And.intro @zero_68 @zero_75) @zero_77)))))
end Go.Proofs.Tryd.Am

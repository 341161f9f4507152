/- Printed by gen.py: facts on the types of this seat, asked of the kernel. -/
import Derived.Test.YtemmcfeekpblkaaDoorAmO
import Derived.Test.YtemmcfeekpblkaaDoorProg
import Derived.KernelRfl
set_option linter.all false
namespace Go.Proofs.Tryd.Am
open Go.Am
set_option maxRecDepth 100000
theorem app_22_22 : appT Tryd.prog 22 22 = some (3, 1, 8) := by kernel_rfl
theorem el_22 : elemOf' Tryd.prog 22 = some 3 := by kernel_rfl
theorem el_55 : elemOf' Tryd.prog 55 = some 3 := by kernel_rfl
theorem esz_22 : esz Tryd.prog 22 = some 1 := by kernel_rfl
theorem esz_27 : esz Tryd.prog 27 = some 1 := by kernel_rfl
theorem esz_3 : esz Tryd.prog 3 = some 1 := by kernel_rfl
theorem esz_55 : esz Tryd.prog 55 = some 1 := by kernel_rfl
theorem isl_22 : isSl Tryd.prog 22 = true := by kernel_rfl
theorem isl_55 : isSl Tryd.prog 55 = true := by kernel_rfl
theorem shp_22 : shp Tryd.prog 22 = some none := by kernel_rfl
theorem shp_27 : shp Tryd.prog 27 = some none := by kernel_rfl
theorem shp_3 : shp Tryd.prog 3 = some none := by kernel_rfl
theorem shp_4 : shp Tryd.prog 4 = some none := by kernel_rfl
theorem shp_55 : shp Tryd.prog 55 = some none := by kernel_rfl
theorem shp_79 : shp Tryd.prog 79 = some none := by kernel_rfl
theorem und_22 : Program.underlying Tryd.prog 22 = some (.slice 3) := by kernel_rfl
theorem und_3 : Program.underlying Tryd.prog 3 = some (.int .i64) := by kernel_rfl
theorem und_4 : Program.underlying Tryd.prog 4 = some (.bool) := by kernel_rfl
theorem und_53 : Program.underlying Tryd.prog 53 = some (.int .u64) := by kernel_rfl
theorem und_55 : Program.underlying Tryd.prog 55 = some (.slice 3) := by kernel_rfl
theorem und_87 : Program.underlying Tryd.prog 87 = some (.int .u32) := by kernel_rfl
theorem und_89 : Program.underlying Tryd.prog 89 = some (.int .u64) := by kernel_rfl
theorem zero_22 : zeroOf Tryd.prog 22 = some [.slice none 0 0] := by kernel_rfl
theorem zero_3 : zeroOf Tryd.prog 3 = some [.int .i64 0] := by kernel_rfl
theorem zero_4 : zeroOf Tryd.prog 4 = some [.bool false] := by kernel_rfl
theorem zero_55 : zeroOf Tryd.prog 55 = some [.slice none 0 0] := by kernel_rfl
theorem zero_79 : zeroOf Tryd.prog 79 = some [.nilFunc] := by kernel_rfl
end Go.Proofs.Tryd.Am

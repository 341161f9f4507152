/-
  Printed by gen.py: facts on the types of this seat, asked of the kernel.
  Printed by gen.py: the code of some functions, without what no step looks at; held against the program's own by the kernel.
  bets: fractions as rational numbers: parts of a common multiple. Plain Lean, no program.
  bets: fractions: the program's arithmetic, and the reference's.
  bets: fractions: sums, products, quotients.
  bets: the common multiple of fractions that sum to one: its square divides the product. Plain Lean, no program.
  bets: fractions as they are handed in; their common multiple; a forecast's is small. Plain Lean, no program.
  bets: forecasts as numbers. Plain Lean, no program.
  bets: fractions: the reference's arithmetic; a fraction's checks.
  Printed by gen.py: the code of some functions, without what no step looks at; held against the program's own by the kernel.
  bets: the common multiple of fractions.
  Printed by gen.py: the code of some functions, without what no step looks at; held against the program's own by the kernel.
  bets: chances: their checks, sums over an event, parts.
  Printed by gen.py: the code of some functions, without what no step looks at; held against the program's own by the kernel.
-/
import Derived.Test.YtcmindinomacbaaPk3
import Derived.Test.YtcmindinomacbaaProg
import Derived.KernelRfl
import Derived.Shelf.Abstract
import Derived.Test.YtcmindinomacbaaPk5
set_option linter.all false
namespace Go.Proofs.Try.Am
open Go.Am
set_option maxRecDepth 100000
theorem app_103_103 : appT Try.prog 103 103 = some (47, 1, 24) := by kernel_rfl
theorem app_22_22 : appT Try.prog 22 22 = some (24, 2, 16) := by kernel_rfl
theorem app_30_30 : appT Try.prog 30 30 = some (92, 2, 16) := by kernel_rfl
theorem app_38_38 : appT Try.prog 38 38 = some (3, 1, 8) := by kernel_rfl
theorem app_47_47 : appT Try.prog 47 47 = some (26, 2, 16) := by kernel_rfl
theorem app_88_88 : appT Try.prog 88 88 = some (90, 1, 24) := by kernel_rfl
theorem app_94_94 : appT Try.prog 94 94 = some (47, 1, 24) := by kernel_rfl
theorem el_103 : elemOf' Try.prog 103 = some 47 := by kernel_rfl
theorem el_22 : elemOf' Try.prog 22 = some 24 := by kernel_rfl
theorem el_30 : elemOf' Try.prog 30 = some 92 := by kernel_rfl
theorem el_38 : elemOf' Try.prog 38 = some 3 := by kernel_rfl
theorem el_47 : elemOf' Try.prog 47 = some 26 := by kernel_rfl
theorem el_88 : elemOf' Try.prog 88 = some 90 := by kernel_rfl
theorem el_90 : elemOf' Try.prog 90 = some 26 := by kernel_rfl
theorem el_94 : elemOf' Try.prog 94 = some 47 := by kernel_rfl
theorem esz_112 : esz Try.prog 112 = some 1 := by kernel_rfl
theorem esz_24 : esz Try.prog 24 = some 2 := by kernel_rfl
theorem Vj : esz Try.prog 26 = some 2 := by kernel_rfl
theorem esz_3 : esz Try.prog 3 = some 1 := by kernel_rfl
theorem esz_30 : esz Try.prog 30 = some 1 := by kernel_rfl
theorem esz_35 : esz Try.prog 35 = some 1 := by kernel_rfl
theorem esz_38 : esz Try.prog 38 = some 1 := by kernel_rfl
theorem Ub : esz Try.prog 47 = some 1 := by kernel_rfl
theorem esz_75 : esz Try.prog 75 = some 1 := by kernel_rfl
theorem esz_76 : esz Try.prog 76 = some 1 := by kernel_rfl
theorem esz_86 : esz Try.prog 86 = some 2 := by kernel_rfl
theorem esz_90 : esz Try.prog 90 = some 1 := by kernel_rfl
theorem esz_92 : esz Try.prog 92 = some 2 := by kernel_rfl
theorem fld_24_0 : fldOf Try.prog 24 0 = some (3, 0) := by kernel_rfl
theorem fld_24_1 : fldOf Try.prog 24 1 = some (3, 1) := by kernel_rfl
theorem fld_26_0 : fldOf Try.prog 26 0 = some (3, 0) := by kernel_rfl
theorem fld_26_1 : fldOf Try.prog 26 1 = some (3, 1) := by kernel_rfl
theorem fld_75_0 : fldOf Try.prog 75 0 = some (38, 0) := by kernel_rfl
theorem fld_76_0 : fldOf Try.prog 76 0 = some (38, 0) := by kernel_rfl
theorem fld_86_0 : fldOf Try.prog 86 0 = some (3, 0) := by kernel_rfl
theorem fld_86_1 : fldOf Try.prog 86 1 = some (30, 1) := by kernel_rfl
theorem fld_92_0 : fldOf Try.prog 92 0 = some (3, 0) := by kernel_rfl
theorem fld_92_1 : fldOf Try.prog 92 1 = some (3, 1) := by kernel_rfl
theorem info_26 : (Try.prog.info? 26).map (fun i => (i.size, i.bytes)) = some (2, 16) := by kernel_rfl
theorem info_3 : (Try.prog.info? 3).map (fun i => (i.size, i.bytes)) = some (1, 8) := by kernel_rfl
theorem isl_103 : isSl Try.prog 103 = true := by kernel_rfl
theorem isl_22 : isSl Try.prog 22 = true := by kernel_rfl
theorem isl_30 : isSl Try.prog 30 = true := by kernel_rfl
theorem isl_38 : isSl Try.prog 38 = true := by kernel_rfl
theorem isl_47 : isSl Try.prog 47 = true := by kernel_rfl
theorem isl_88 : isSl Try.prog 88 = true := by kernel_rfl
theorem isl_90 : isSl Try.prog 90 = true := by kernel_rfl
theorem isl_94 : isSl Try.prog 94 = true := by kernel_rfl
theorem pl_24_0 : Vc Try.prog 24 0 = some (0, 1) := by kernel_rfl
theorem pl_24_1 : Vc Try.prog 24 1 = some (1, 1) := by kernel_rfl
theorem pl_26_0 : Vc Try.prog 26 0 = some (0, 1) := by kernel_rfl
theorem pl_26_1 : Vc Try.prog 26 1 = some (1, 1) := by kernel_rfl
theorem pl_75_0 : Vc Try.prog 75 0 = some (0, 1) := by kernel_rfl
theorem pl_76_0 : Vc Try.prog 76 0 = some (0, 1) := by kernel_rfl
theorem pl_86_0 : Vc Try.prog 86 0 = some (0, 1) := by kernel_rfl
theorem pl_86_1 : Vc Try.prog 86 1 = some (1, 1) := by kernel_rfl
theorem pl_92_0 : Vc Try.prog 92 0 = some (0, 1) := by kernel_rfl
theorem pl_92_1 : Vc Try.prog 92 1 = some (1, 1) := by kernel_rfl
theorem shp_112 : shp Try.prog 112 = some none := by kernel_rfl
theorem shp_24 : shp Try.prog 24 = some (some 2) := by kernel_rfl
theorem shp_26 : shp Try.prog 26 = some (some 2) := by kernel_rfl
theorem shp_3 : shp Try.prog 3 = some none := by kernel_rfl
theorem shp_30 : shp Try.prog 30 = some none := by kernel_rfl
theorem shp_35 : shp Try.prog 35 = some none := by kernel_rfl
theorem shp_38 : shp Try.prog 38 = some none := by kernel_rfl
theorem shp_47 : shp Try.prog 47 = some none := by kernel_rfl
theorem shp_75 : shp Try.prog 75 = some (some 1) := by kernel_rfl
theorem shp_76 : shp Try.prog 76 = some (some 1) := by kernel_rfl
theorem shp_86 : shp Try.prog 86 = some (some 2) := by kernel_rfl
theorem shp_90 : shp Try.prog 90 = some none := by kernel_rfl
theorem shp_92 : shp Try.prog 92 = some (some 2) := by kernel_rfl
theorem und_103 : Program.underlying Try.prog 103 = some (.slice 47) := by kernel_rfl
theorem und_126 : Program.underlying Try.prog 126 = some (.int .u32) := by kernel_rfl
theorem und_129 : Program.underlying Try.prog 129 = some (.int .u64) := by kernel_rfl
theorem und_22 : Program.underlying Try.prog 22 = some (.slice 24) := by kernel_rfl
theorem und_3 : Program.underlying Try.prog 3 = some (.int .i64) := by kernel_rfl
theorem und_30 : Program.underlying Try.prog 30 = some (.slice 92) := by kernel_rfl
theorem und_38 : Program.underlying Try.prog 38 = some (.slice 3) := by kernel_rfl
theorem und_4 : Program.underlying Try.prog 4 = some (.bool) := by kernel_rfl
theorem und_47 : Program.underlying Try.prog 47 = some (.slice 26) := by kernel_rfl
theorem und_67 : Program.underlying Try.prog 67 = some (.int .u64) := by kernel_rfl
theorem und_88 : Program.underlying Try.prog 88 = some (.slice 90) := by kernel_rfl
theorem und_90 : Program.underlying Try.prog 90 = some (.slice 26) := by kernel_rfl
theorem und_94 : Program.underlying Try.prog 94 = some (.slice 47) := by kernel_rfl
theorem zero_24 : Wj Try.prog 24 = some [.int .i64 0, .int .i64 0] := by kernel_rfl
theorem zero_26 : Wj Try.prog 26 = some [.int .i64 0, .int .i64 0] := by kernel_rfl
theorem zero_3 : Wj Try.prog 3 = some [.int .i64 0] := by kernel_rfl
theorem zero_38 : Wj Try.prog 38 = some [.slice none 0 0] := by kernel_rfl
theorem zero_47 : Wj Try.prog 47 = some [.slice none 0 0] := by kernel_rfl
theorem zero_75 : Wj Try.prog 75 = some [.slice none 0 0] := by kernel_rfl
theorem zero_76 : Wj Try.prog 76 = some [.slice none 0 0] := by kernel_rfl
theorem zero_86 : Wj Try.prog 86 = some [.int .i64 0, .slice none 0 0] := by kernel_rfl
theorem zero_90 : Wj Try.prog 90 = some [.slice none 0 0] := by kernel_rfl
theorem zero_92 : Wj Try.prog 92 = some [.int .i64 0, .int .i64 0] := by kernel_rfl
def tyf := (And.intro (And.intro (And.intro (And.intro (And.intro (And.intro (And.intro @app_103_103 @app_22_22) @app_30_30) (And.intro (And.intro @app_38_38 @app_47_47) @app_88_88)) (And.intro (And.intro (And.intro @app_94_94 @el_103) @el_22) (And.intro (And.intro @el_30 @el_38) @el_47))) (And.intro (And.intro (And.intro (And.intro @el_88 @el_90) @el_94) (And.intro (And.intro @esz_112 @esz_24) @Vj)) (And.intro (And.intro (And.intro @esz_3 @esz_30) @esz_35) (And.intro (And.intro @esz_38 @Ub) @esz_75)))) (And.intro (And.intro (And.intro (And.intro (And.intro @esz_76 @esz_86) @esz_90) (And.intro (And.intro @esz_92 @fld_24_0) @fld_24_1)) (And.intro (And.intro (And.intro @fld_26_0 @fld_26_1) @fld_75_0) (And.intro (And.intro @fld_76_0 @fld_86_0) @fld_86_1))) (And.intro (And.intro (And.intro (And.intro @fld_92_0 @fld_92_1) @info_26) (And.intro (And.intro @info_3 @isl_103) @isl_22)) (And.intro (And.intro (And.intro @isl_30 @isl_38) @isl_47) (And.intro @isl_88 @isl_90))))) (And.intro (And.intro (And.intro (And.intro (And.intro (And.intro @isl_94 @pl_24_0) @pl_24_1) (And.intro (And.intro @pl_26_0 @pl_26_1) @pl_75_0)) (And.intro (And.intro (And.intro @pl_76_0 @pl_86_0) @pl_86_1) (And.intro (And.intro @pl_92_0 @pl_92_1) @shp_112))) (And.intro (And.intro (And.intro (And.intro @shp_24 @shp_26) @shp_3) (And.intro (And.intro @shp_30 @shp_35) @shp_38)) (And.intro (And.intro (And.intro @shp_47 @shp_75) @shp_76) (And.intro (And.intro @shp_86 @shp_90) @shp_92)))) (And.intro (And.intro (And.intro (And.intro (And.intro @und_103 @und_126) @und_129) (And.intro (And.intro @und_22 @und_3) @und_30)) (And.intro (And.intro (And.intro @und_38 @und_4) @und_47) (And.intro (And.intro @und_67 @und_88) @und_90))) (And.intro (And.intro (And.intro (And.intro @und_94 @zero_24) @zero_26) (And.intro (And.intro @zero_3 @zero_38) @zero_47)) (And.intro (And.intro (And.intro @zero_75 @zero_76) @zero_86) (And.intro @zero_90 @zero_92))))))
end Go.Proofs.Try.Am

namespace Go.Proofs.Try.Am
open Go.Am
set_option maxRecDepth 100000
/-! 21: planchet planchetlaw09.awake -/
@[reducible] def q21_0 : SCode := .region [⟨some 0, .assign (.const (.bool false)), none⟩]
@[reducible] def q21_1 : SCode := .region [⟨some 4, .build 92 #[(0, .const (.int .i64 1)), (1, .const (.int .i64 6))], none⟩,
    ⟨some 5, .buildSlice 30 1 #[(0, .tmp 4)], none⟩,
    ⟨some 6, .call { callee := .value (.func 36), args := #[.const (.int .i64 2), .tmp 5], argTypes := #[3, 30] }, none⟩,
    ⟨some 3, .move (.tmp 6), none⟩,
    ⟨some 7, .extract (.tmp 3) 0, none⟩,
    ⟨some 8, .extract (.tmp 3) 1, none⟩,
    ⟨some 1, .assign (.tmp 7), none⟩,
    ⟨some 2, .assign (.tmp 8), none⟩]
@[reducible] def q21_2 : SCode := .region [⟨some 9, .move (.tmp 2), none⟩,
    ⟨some 10, .binOp .eql 27 (.tmp 9) (.const (.int .i64 0)) 27, none⟩,
    ⟨some 11, .move (.tmp 10), none⟩,
    ⟨some 12, .move (.tmp 1), some (11, true)⟩,
    ⟨some 13, .build 26 #[(0, .const (.int .i64 1)), (1, .const (.int .i64 2))], some (11, true)⟩,
    ⟨some 14, .build 26 #[(0, .const (.int .i64 1)), (1, .const (.int .i64 2))], some (11, true)⟩,
    ⟨some 15, .buildSlice 47 2 #[(0, .tmp 13), (1, .tmp 14)], some (11, true)⟩,
    ⟨some 16, .call { callee := .value (.func 35), args := #[.tmp 12, .tmp 15], argTypes := #[47, 47] }, some (11, true)⟩,
    ⟨some 17, .pick (.tmp 11) (.tmp 16) (.const (.bool false)), none⟩,
    ⟨some 0, .assign (.tmp 17), none⟩]
def s21 : SCode := (.seq q21_0 (.seq q21_1 (.seq q21_2 .ret)))
theorem s21_strip : Ya (Zt Try.f21) = s21 := by kernel_rfl
theorem s21_ok : Yr 18 (Zt Try.f21) = true := by kernel_rfl
/-! 23: planchet planchetref09.Less -/
@[reducible] def q23_0 : SCode := .region [⟨some 2, .box 26 (.tmp 0), none⟩,
    ⟨some 3, .box 26 (.tmp 1), none⟩,
    ⟨some 4, .assign (.const (.bool false)), none⟩]
@[reducible] def q23_1 : SCode := .region [⟨some 5, .fieldAddr 26 (.tmp 2) 0, none⟩,
    ⟨some 6, .load 3 (.tmp 5), none⟩,
    ⟨some 7, .fieldAddr 26 (.tmp 3) 1, none⟩,
    ⟨some 8, .load 3 (.tmp 7), none⟩,
    ⟨some 9, .binOp .mul 3 (.tmp 6) (.tmp 8) 3, none⟩,
    ⟨some 10, .fieldAddr 26 (.tmp 3) 0, none⟩,
    ⟨some 11, .load 3 (.tmp 10), none⟩,
    ⟨some 12, .fieldAddr 26 (.tmp 2) 1, none⟩,
    ⟨some 13, .load 3 (.tmp 12), none⟩,
    ⟨some 14, .binOp .mul 3 (.tmp 11) (.tmp 13) 3, none⟩,
    ⟨some 15, .binOp .lss 3 (.tmp 9) (.tmp 14) 3, none⟩,
    ⟨some 4, .assign (.tmp 15), none⟩]
def s23 : SCode := (.seq q23_0 (.seq q23_1 .ret))
theorem s23_strip : Ya (Zt Try.f23) = s23 := by kernel_rfl
theorem s23_ok : Yr 16 (Zt Try.f23) = true := by kernel_rfl
/-! 26: planchet planchetlaw09.none -/
@[reducible] def q26_0 : SCode := .region [⟨some 1, .box 26 (.tmp 0), none⟩,
    ⟨some 2, .assign (.const (.bool false)), none⟩]
@[reducible] def q26_1 : SCode := .region [⟨some 3, .load 26 (.tmp 1), none⟩,
    ⟨some 4, .build 26 #[], none⟩,
    ⟨some 5, .binOp .eql 26 (.tmp 3) (.tmp 4) 26, none⟩,
    ⟨some 2, .assign (.tmp 5), none⟩]
def s26 : SCode := (.seq q26_0 (.seq q26_1 .ret))
theorem s26_strip : Ya (Zt Try.f26) = s26 := by kernel_rfl
theorem s26_ok : Yr 6 (Zt Try.f26) = true := by kernel_rfl
/-! 59: (planchet bets.table).isEvent -/
@[reducible] def q59_0 : SCode := .region [⟨some 2, .box 86 (.tmp 0), none⟩,
    ⟨some 4, .assign (.const (.bool false)), none⟩]
@[reducible] def q59_1 : SCode := .region [⟨some 5, .move (.tmp 1), none⟩,
    ⟨some 6, .binOp .geq 3 (.tmp 5) (.const (.int .i64 0)) 3, none⟩,
    ⟨some 7, .move (.tmp 6), none⟩,
    ⟨some 8, .move (.tmp 1), some (7, true)⟩,
    ⟨some 9, .fieldAddr 86 (.tmp 2) 0, some (7, true)⟩,
    ⟨some 10, .load 3 (.tmp 9), some (7, true)⟩,
    ⟨some 11, .binOp .shl 3 (.const (.int .i64 1)) (.tmp 10) 3, some (7, true)⟩,
    ⟨some 12, .binOp .lss 3 (.tmp 8) (.tmp 11) 3, some (7, true)⟩,
    ⟨some 13, .pick (.tmp 7) (.tmp 12) (.const (.bool false)), none⟩,
    ⟨some 4, .assign (.tmp 13), none⟩]
def s59 : SCode := (.seq q59_0 (.seq q59_1 .ret))
theorem s59_strip : Ya (Zt Try.f59) = s59 := by kernel_rfl
theorem s59_ok : Yr 14 (Zt Try.f59) = true := by kernel_rfl
/-! 62: planchet bets.less -/
@[reducible] def q62_0 : SCode := .region [⟨some 2, .box 26 (.tmp 0), none⟩,
    ⟨some 3, .box 26 (.tmp 1), none⟩,
    ⟨some 4, .assign (.const (.bool false)), none⟩]
@[reducible] def q62_1 : SCode := .region [⟨some 5, .load 26 (.tmp 2), none⟩,
    ⟨some 6, .load 26 (.tmp 3), none⟩,
    ⟨some 7, .call { callee := .value (.func 71), args := #[.tmp 5, .const (.int .i64 (-1)), .tmp 6], argTypes := #[26, 3, 26] }, none⟩,
    ⟨some 8, .field 26 (.tmp 7) 0, none⟩,
    ⟨some 9, .binOp .lss 3 (.tmp 8) (.const (.int .i64 0)) 3, none⟩,
    ⟨some 4, .assign (.tmp 9), none⟩]
def s62 : SCode := (.seq q62_0 (.seq q62_1 .ret))
theorem s62_strip : Ya (Zt Try.f62) = s62 := by kernel_rfl
theorem s62_ok : Yr 10 (Zt Try.f62) = true := by kernel_rfl
/-! 63: planchet planchetref09.Worlds -/
@[reducible] def q63_0 : SCode := .region [⟨some 2, .assign (.const (.bool false)), none⟩]
@[reducible] def q63_1 : SCode := .region [⟨some 3, .move (.tmp 0), none⟩,
    ⟨some 4, .binOp .geq 3 (.tmp 3) (.const (.int .i64 2)) 3, none⟩,
    ⟨some 5, .move (.tmp 4), none⟩,
    ⟨some 6, .move (.tmp 0), some (5, true)⟩,
    ⟨some 7, .binOp .leq 3 (.tmp 6) (.const (.int .i64 5)) 3, some (5, true)⟩,
    ⟨some 8, .pick (.tmp 5) (.tmp 7) (.const (.bool false)), none⟩,
    ⟨some 2, .assign (.tmp 8), none⟩]
def s63 : SCode := (.seq q63_0 (.seq q63_1 .ret))
theorem s63_strip : Ya (Zt Try.f63) = s63 := by kernel_rfl
theorem s63_ok : Yr 9 (Zt Try.f63) = true := by kernel_rfl
/-! 64: planchet bets.frac -/
@[reducible] def q64_0 : SCode := .region [⟨some 4, .alloc 26, none⟩]
@[reducible] def q64_1 : SCode := .region [⟨some 6, .move (.tmp 1), none⟩,
    ⟨some 7, .binOp .lss 3 (.tmp 6) (.const (.int .i64 0)) 3, none⟩]
@[reducible] def q64_2 : SCode := .region [⟨some 8, .move (.tmp 0), none⟩,
    ⟨some 9, .unOp .neg 3 (.tmp 8), none⟩,
    ⟨some 10, .move (.tmp 1), none⟩,
    ⟨some 11, .unOp .neg 3 (.tmp 10), none⟩,
    ⟨some 0, .assign (.tmp 9), none⟩,
    ⟨some 1, .assign (.tmp 11), none⟩]
@[reducible] def q64_3 : SCode := .region [⟨some 12, .move (.tmp 0), none⟩,
    ⟨some 13, .move (.tmp 1), none⟩,
    ⟨some 14, .call { callee := .value (.func 88), args := #[.tmp 12, .tmp 13], argTypes := #[3, 3] }, none⟩,
    ⟨some 5, .assign (.tmp 14), none⟩]
def q64_4 : SCode := .draw [⟨some 15, .move (.tmp 0), none⟩,
    ⟨some 16, .move (.tmp 5), none⟩,
    ⟨some 17, .binOp .quo 3 (.tmp 15) (.tmp 16) 3, none⟩,
    ⟨some 18, .move (.tmp 1), none⟩,
    ⟨some 19, .move (.tmp 5), none⟩,
    ⟨some 20, .binOp .quo 3 (.tmp 18) (.tmp 19) 3, none⟩,
    ⟨some 21, .build 26 #[(0, .tmp 17), (1, .tmp 20)], none⟩,
    ⟨none, .store 26 (.tmp 4) (.tmp 21), none⟩]
   [[], [], [0, 1], [], [], [3, 4], [2, 5], [6, 0, 1, 2, 3, 4, 5, 6]]
def s64 : SCode := (.seq q64_0 (.seq (.seq q64_1 (.cond (.tmp 7) q64_2 .skip)) (.seq q64_3 (.seq q64_4 .ret))))
theorem s64_strip : Ya (Zt Try.f64) = s64 := by kernel_rfl
theorem s64_ok : Yr 22 (Zt Try.f64) = true := by kernel_rfl
/-! 66: planchet planchetref09.whole -/
@[reducible] def q66_0 : SCode := .region [⟨some 2, .alloc 26, none⟩]
@[reducible] def q66_1 : SCode := .region [⟨some 3, .move (.tmp 0), none⟩,
    ⟨some 4, .build 26 #[(0, .tmp 3), (1, .const (.int .i64 1))], none⟩,
    ⟨none, .store 26 (.tmp 2) (.tmp 4), none⟩]
def s66 : SCode := (.seq q66_0 (.seq q66_1 .ret))
theorem s66_strip : Ya (Zt Try.f66) = s66 := by kernel_rfl
theorem s66_ok : Yr 5 (Zt Try.f66) = true := by kernel_rfl
/-! 67: planchet planchetref09.plus -/
@[reducible] def q67_0 : SCode := .region [⟨some 2, .box 26 (.tmp 0), none⟩,
    ⟨some 3, .box 26 (.tmp 1), none⟩,
    ⟨some 4, .alloc 26, none⟩]
@[reducible] def q67_1 : SCode := .region [⟨some 5, .fieldAddr 26 (.tmp 2) 0, none⟩,
    ⟨some 6, .load 3 (.tmp 5), none⟩,
    ⟨some 7, .fieldAddr 26 (.tmp 3) 1, none⟩,
    ⟨some 8, .load 3 (.tmp 7), none⟩,
    ⟨some 9, .binOp .mul 3 (.tmp 6) (.tmp 8) 3, none⟩,
    ⟨some 10, .fieldAddr 26 (.tmp 3) 0, none⟩,
    ⟨some 11, .load 3 (.tmp 10), none⟩,
    ⟨some 12, .fieldAddr 26 (.tmp 2) 1, none⟩,
    ⟨some 13, .load 3 (.tmp 12), none⟩,
    ⟨some 14, .binOp .mul 3 (.tmp 11) (.tmp 13) 3, none⟩,
    ⟨some 15, .binOp .add 3 (.tmp 9) (.tmp 14) 3, none⟩,
    ⟨some 16, .fieldAddr 26 (.tmp 2) 1, none⟩,
    ⟨some 17, .load 3 (.tmp 16), none⟩,
    ⟨some 18, .fieldAddr 26 (.tmp 3) 1, none⟩,
    ⟨some 19, .load 3 (.tmp 18), none⟩,
    ⟨some 20, .binOp .mul 3 (.tmp 17) (.tmp 19) 3, none⟩,
    ⟨some 21, .call { callee := .value (.func 68), args := #[.tmp 15, .tmp 20], argTypes := #[3, 3] }, none⟩,
    ⟨none, .store 26 (.tmp 4) (.tmp 21), none⟩]
def s67 : SCode := (.seq q67_0 (.seq q67_1 .ret))
theorem s67_strip : Ya (Zt Try.f67) = s67 := by kernel_rfl
theorem s67_ok : Yr 22 (Zt Try.f67) = true := by kernel_rfl
/-! 68: planchet planchetref09.frac -/
@[reducible] def q68_0 : SCode := .region [⟨some 4, .alloc 26, none⟩]
@[reducible] def q68_1 : SCode := .region [⟨some 7, .move (.tmp 1), none⟩,
    ⟨some 8, .binOp .lss 3 (.tmp 7) (.const (.int .i64 0)) 3, none⟩]
@[reducible] def q68_2 : SCode := .region [⟨some 9, .move (.tmp 0), none⟩,
    ⟨some 10, .unOp .neg 3 (.tmp 9), none⟩,
    ⟨some 11, .move (.tmp 1), none⟩,
    ⟨some 12, .unOp .neg 3 (.tmp 11), none⟩,
    ⟨some 0, .assign (.tmp 10), none⟩,
    ⟨some 1, .assign (.tmp 12), none⟩]
@[reducible] def q68_3 : SCode := .region [⟨some 13, .move (.tmp 0), none⟩,
    ⟨some 14, .move (.tmp 0), none⟩,
    ⟨some 15, .unOp .neg 3 (.tmp 14), none⟩,
    ⟨some 16, .call { callee := .builtin .max, args := #[.tmp 13, .tmp 15], argTypes := #[3, 3] }, none⟩,
    ⟨some 17, .move (.tmp 1), none⟩,
    ⟨some 5, .assign (.tmp 16), none⟩,
    ⟨some 6, .assign (.tmp 17), none⟩]
@[reducible] def q68_4 : SCode := .region [⟨some 18, .move (.tmp 6), none⟩,
    ⟨some 19, .binOp .neq 3 (.tmp 18) (.const (.int .i64 0)) 3, none⟩]
def q68_5 : SCode := .draw [⟨some 20, .move (.tmp 6), none⟩,
    ⟨some 21, .move (.tmp 5), none⟩,
    ⟨some 22, .move (.tmp 6), none⟩,
    ⟨some 23, .binOp .rem 3 (.tmp 21) (.tmp 22) 3, none⟩,
    ⟨some 5, .assign (.tmp 20), none⟩,
    ⟨some 6, .assign (.tmp 23), none⟩]
   [[], [], [], [1, 2], [0, 0, 1], [3, 4, 0, 1, 2, 3, 4]]
def l68_0 : SCode := (.seq (.seq q68_4 (.cond (.tmp 19) .skip (.exit 0))) (.block 1 q68_5))
def q68_6 : SCode := .draw [⟨some 24, .move (.tmp 0), none⟩,
    ⟨some 25, .move (.tmp 5), none⟩,
    ⟨some 26, .binOp .quo 3 (.tmp 24) (.tmp 25) 3, none⟩,
    ⟨some 27, .move (.tmp 1), none⟩,
    ⟨some 28, .move (.tmp 5), none⟩,
    ⟨some 29, .binOp .quo 3 (.tmp 27) (.tmp 28) 3, none⟩,
    ⟨some 30, .build 26 #[(0, .tmp 26), (1, .tmp 29)], none⟩,
    ⟨none, .store 26 (.tmp 4) (.tmp 30), none⟩]
   [[], [], [0, 1], [], [], [3, 4], [2, 5], [6, 0, 1, 2, 3, 4, 5, 6]]
def s68 : SCode := (.seq q68_0 (.seq (.seq q68_1 (.cond (.tmp 8) q68_2 .skip)) (.seq q68_3 (.seq (.block 0 (.loop l68_0)) (.seq q68_6 .ret)))))
theorem s68_strip : Ya (Zt Try.f68) = s68 := by kernel_rfl
theorem s68_ok : Yr 31 (Zt Try.f68) = true := by kernel_rfl
/-! 70: planchet bets.whole -/
@[reducible] def q70_0 : SCode := .region [⟨some 2, .alloc 26, none⟩]
@[reducible] def q70_1 : SCode := .region [⟨some 3, .move (.tmp 0), none⟩,
    ⟨some 4, .build 26 #[(0, .tmp 3), (1, .const (.int .i64 1))], none⟩,
    ⟨none, .store 26 (.tmp 2) (.tmp 4), none⟩]
def s70 : SCode := (.seq q70_0 (.seq q70_1 .ret))
theorem s70_strip : Ya (Zt Try.f70) = s70 := by kernel_rfl
theorem s70_ok : Yr 5 (Zt Try.f70) = true := by kernel_rfl
/-! 71: planchet bets.plus -/
@[reducible] def q71_0 : SCode := .region [⟨some 3, .box 26 (.tmp 0), none⟩,
    ⟨some 5, .box 26 (.tmp 2), none⟩,
    ⟨some 6, .alloc 26, none⟩]
@[reducible] def q71_1 : SCode := .region [⟨some 8, .fieldAddr 26 (.tmp 3) 1, none⟩,
    ⟨some 9, .load 3 (.tmp 8), none⟩,
    ⟨some 10, .fieldAddr 26 (.tmp 5) 1, none⟩,
    ⟨some 11, .load 3 (.tmp 10), none⟩,
    ⟨some 12, .call { callee := .value (.func 88), args := #[.tmp 9, .tmp 11], argTypes := #[3, 3] }, none⟩,
    ⟨some 7, .assign (.tmp 12), none⟩]
def q71_2 : SCode := .draw [⟨some 13, .fieldAddr 26 (.tmp 3) 0, none⟩,
    ⟨some 14, .load 3 (.tmp 13), none⟩,
    ⟨some 15, .fieldAddr 26 (.tmp 5) 1, none⟩,
    ⟨some 16, .load 3 (.tmp 15), none⟩,
    ⟨some 17, .move (.tmp 7), none⟩,
    ⟨some 18, .binOp .quo 3 (.tmp 16) (.tmp 17) 3, none⟩,
    ⟨some 19, .binOp .mul 3 (.tmp 14) (.tmp 18) 3, none⟩,
    ⟨some 20, .move (.tmp 1), none⟩,
    ⟨some 21, .fieldAddr 26 (.tmp 5) 0, none⟩,
    ⟨some 22, .load 3 (.tmp 21), none⟩,
    ⟨some 23, .binOp .mul 3 (.tmp 20) (.tmp 22) 3, none⟩,
    ⟨some 24, .fieldAddr 26 (.tmp 3) 1, none⟩,
    ⟨some 25, .load 3 (.tmp 24), none⟩,
    ⟨some 26, .move (.tmp 7), none⟩,
    ⟨some 27, .binOp .quo 3 (.tmp 25) (.tmp 26) 3, none⟩,
    ⟨some 28, .binOp .mul 3 (.tmp 23) (.tmp 27) 3, none⟩,
    ⟨some 29, .binOp .add 3 (.tmp 19) (.tmp 28) 3, none⟩,
    ⟨some 30, .fieldAddr 26 (.tmp 3) 1, none⟩,
    ⟨some 31, .load 3 (.tmp 30), none⟩,
    ⟨some 32, .move (.tmp 7), none⟩,
    ⟨some 33, .binOp .quo 3 (.tmp 31) (.tmp 32) 3, none⟩,
    ⟨some 34, .fieldAddr 26 (.tmp 5) 1, none⟩,
    ⟨some 35, .load 3 (.tmp 34), none⟩,
    ⟨some 36, .binOp .mul 3 (.tmp 33) (.tmp 35) 3, none⟩,
    ⟨some 37, .call { callee := .value (.func 64), args := #[.tmp 29, .tmp 36], argTypes := #[3, 3] }, none⟩,
    ⟨none, .store 26 (.tmp 6) (.tmp 37), none⟩]
   [[], [0], [], [2], [], [3, 4], [1, 5], [], [], [8], [7, 9], [], [11], [], [12, 13], [10, 14], [6, 15], [], [17], [], [18, 19], [], [21], [20, 22], [16, 23], [24, 24, 0, 1, 2, 3, 4, 5, 6, 7, 8, 9, 10, 11, 12, 13, 14, 15, 16, 17, 18, 19, 20, 21, 22, 23, 24]]
def s71 : SCode := (.seq q71_0 (.seq q71_1 (.seq q71_2 .ret)))
theorem s71_strip : Ya (Zt Try.f71) = s71 := by kernel_rfl
theorem s71_ok : Yr 38 (Zt Try.f71) = true := by kernel_rfl
/-! 72: planchet bets.times -/
@[reducible] def q72_0 : SCode := .region [⟨some 2, .box 26 (.tmp 0), none⟩,
    ⟨some 3, .box 26 (.tmp 1), none⟩,
    ⟨some 4, .alloc 26, none⟩]
def q72_1 : SCode := .draw [⟨some 7, .fieldAddr 26 (.tmp 2) 0, none⟩,
    ⟨some 8, .load 3 (.tmp 7), none⟩,
    ⟨some 9, .fieldAddr 26 (.tmp 3) 1, none⟩,
    ⟨some 10, .load 3 (.tmp 9), none⟩,
    ⟨some 11, .call { callee := .value (.func 64), args := #[.tmp 8, .tmp 10], argTypes := #[3, 3] }, none⟩,
    ⟨some 12, .fieldAddr 26 (.tmp 3) 0, none⟩,
    ⟨some 13, .load 3 (.tmp 12), none⟩,
    ⟨some 14, .fieldAddr 26 (.tmp 2) 1, none⟩,
    ⟨some 15, .load 3 (.tmp 14), none⟩,
    ⟨some 16, .call { callee := .value (.func 64), args := #[.tmp 13, .tmp 15], argTypes := #[3, 3] }, none⟩,
    ⟨some 5, .alloc 26, none⟩,
    ⟨some 6, .alloc 26, none⟩,
    ⟨none, .store 26 (.tmp 5) (.tmp 11), none⟩,
    ⟨none, .store 26 (.tmp 6) (.tmp 16), none⟩]
   [[], [0], [], [2], [1, 3], [], [5], [], [7], [6, 8, 4], [], [], [10, 4, 9, 0, 1, 2, 3, 4, 10, 11], [11, 9, 12, 0, 1, 2, 3, 4, 5, 6, 7, 8, 9, 10, 11, 12]]
@[reducible] def q72_2 : SCode := .region [⟨some 17, .fieldAddr 26 (.tmp 5) 0, none⟩,
    ⟨some 18, .load 3 (.tmp 17), none⟩,
    ⟨some 19, .fieldAddr 26 (.tmp 6) 0, none⟩,
    ⟨some 20, .load 3 (.tmp 19), none⟩,
    ⟨some 21, .binOp .mul 3 (.tmp 18) (.tmp 20) 3, none⟩,
    ⟨some 22, .fieldAddr 26 (.tmp 5) 1, none⟩,
    ⟨some 23, .load 3 (.tmp 22), none⟩,
    ⟨some 24, .fieldAddr 26 (.tmp 6) 1, none⟩,
    ⟨some 25, .load 3 (.tmp 24), none⟩,
    ⟨some 26, .binOp .mul 3 (.tmp 23) (.tmp 25) 3, none⟩,
    ⟨some 27, .build 26 #[(0, .tmp 21), (1, .tmp 26)], none⟩,
    ⟨none, .store 26 (.tmp 4) (.tmp 27), none⟩]
def s72 : SCode := (.seq q72_0 (.seq q72_1 (.seq q72_2 .ret)))
theorem s72_strip : Ya (Zt Try.f72) = s72 := by kernel_rfl
theorem s72_ok : Yr 28 (Zt Try.f72) = true := by kernel_rfl
/-! 88: planchet bets.gcd -/
@[reducible] def q88_0 : SCode := .region [⟨some 4, .assign (.const (.int .i64 0)), none⟩]
@[reducible] def q88_1 : SCode := .region [⟨some 5, .move (.tmp 1), none⟩,
    ⟨some 6, .binOp .neq 3 (.tmp 5) (.const (.int .i64 0)) 3, none⟩]
def q88_2 : SCode := .draw [⟨some 7, .move (.tmp 1), none⟩,
    ⟨some 8, .move (.tmp 0), none⟩,
    ⟨some 9, .move (.tmp 1), none⟩,
    ⟨some 10, .binOp .rem 3 (.tmp 8) (.tmp 9) 3, none⟩,
    ⟨some 0, .assign (.tmp 7), none⟩,
    ⟨some 1, .assign (.tmp 10), none⟩]
   [[], [], [], [1, 2], [0, 0, 1], [3, 4, 0, 1, 2, 3, 4]]
def l88_0 : SCode := (.seq (.seq q88_1 (.cond (.tmp 6) .skip (.exit 0))) (.block 1 q88_2))
@[reducible] def q88_3 : SCode := .region [⟨some 11, .move (.tmp 0), none⟩,
    ⟨some 12, .move (.tmp 0), none⟩,
    ⟨some 13, .unOp .neg 3 (.tmp 12), none⟩,
    ⟨some 14, .call { callee := .builtin .max, args := #[.tmp 11, .tmp 13], argTypes := #[3, 3] }, none⟩,
    ⟨some 4, .assign (.tmp 14), none⟩]
def s88 : SCode := (.seq q88_0 (.seq (.block 0 (.loop l88_0)) (.seq q88_3 .ret)))
theorem s88_strip : Ya (Zt Try.f88) = s88 := by kernel_rfl
theorem s88_ok : Yr 15 (Zt Try.f88) = true := by kernel_rfl
theorem s88_call [Tabs Try.prog] {args : List Value} {h : Zh} {Q : Value → Zh → Prop} (hsz : args.length ≤ 15) (hk : aw Try.prog 15 s88 (Zs Try.prog [.tmp 4] Q) (Zr 0 args) h) : ACall Try.prog 88 args h Q :=
  acall_s Try.func88 rfl (enters_of Try.func88 (by kernel_rfl) rfl) rfl rfl (by decide) s88_strip s88_ok hsz hk

/-! 94: planchet bets.over -/
@[reducible] def q94_0 : SCode := .region [⟨some 2, .box 26 (.tmp 0), none⟩,
    ⟨some 3, .box 26 (.tmp 1), none⟩,
    ⟨some 4, .alloc 26, none⟩]
def q94_1 : SCode := .draw [⟨some 5, .load 26 (.tmp 2), none⟩,
    ⟨some 6, .fieldAddr 26 (.tmp 3) 1, none⟩,
    ⟨some 7, .load 3 (.tmp 6), none⟩,
    ⟨some 8, .fieldAddr 26 (.tmp 3) 0, none⟩,
    ⟨some 9, .load 3 (.tmp 8), none⟩,
    ⟨some 10, .call { callee := .value (.func 64), args := #[.tmp 7, .tmp 9], argTypes := #[3, 3] }, none⟩,
    ⟨some 11, .call { callee := .value (.func 72), args := #[.tmp 5, .tmp 10], argTypes := #[26, 26] }, none⟩,
    ⟨none, .store 26 (.tmp 4) (.tmp 11), none⟩]
   [[], [], [1], [], [3], [2, 4], [0, 5, 5], [6, 6, 0, 1, 2, 3, 4, 5, 6]]
def s94 : SCode := (.seq q94_0 (.seq q94_1 .ret))
theorem s94_strip : Ya (Zt Try.f94) = s94 := by kernel_rfl
theorem s94_ok : Yr 12 (Zt Try.f94) = true := by kernel_rfl
/-! 96: planchet planchetref09.over -/
@[reducible] def q96_0 : SCode := .region [⟨some 2, .box 26 (.tmp 0), none⟩,
    ⟨some 3, .box 26 (.tmp 1), none⟩,
    ⟨some 4, .alloc 26, none⟩]
@[reducible] def q96_1 : SCode := .region [⟨some 5, .fieldAddr 26 (.tmp 2) 0, none⟩,
    ⟨some 6, .load 3 (.tmp 5), none⟩,
    ⟨some 7, .fieldAddr 26 (.tmp 3) 1, none⟩,
    ⟨some 8, .load 3 (.tmp 7), none⟩,
    ⟨some 9, .binOp .mul 3 (.tmp 6) (.tmp 8) 3, none⟩,
    ⟨some 10, .fieldAddr 26 (.tmp 2) 1, none⟩,
    ⟨some 11, .load 3 (.tmp 10), none⟩,
    ⟨some 12, .fieldAddr 26 (.tmp 3) 0, none⟩,
    ⟨some 13, .load 3 (.tmp 12), none⟩,
    ⟨some 14, .binOp .mul 3 (.tmp 11) (.tmp 13) 3, none⟩,
    ⟨some 15, .call { callee := .value (.func 68), args := #[.tmp 9, .tmp 14], argTypes := #[3, 3] }, none⟩,
    ⟨none, .store 26 (.tmp 4) (.tmp 15), none⟩]
def s96 : SCode := (.seq q96_0 (.seq q96_1 .ret))
theorem s96_strip : Ya (Zt Try.f96) = s96 := by kernel_rfl
theorem s96_ok : Yr 16 (Zt Try.f96) = true := by kernel_rfl
/-! 97: planchet planchetref09.times -/
@[reducible] def q97_0 : SCode := .region [⟨some 2, .box 26 (.tmp 0), none⟩,
    ⟨some 3, .box 26 (.tmp 1), none⟩,
    ⟨some 4, .alloc 26, none⟩]
@[reducible] def q97_1 : SCode := .region [⟨some 5, .fieldAddr 26 (.tmp 2) 0, none⟩,
    ⟨some 6, .load 3 (.tmp 5), none⟩,
    ⟨some 7, .fieldAddr 26 (.tmp 3) 0, none⟩,
    ⟨some 8, .load 3 (.tmp 7), none⟩,
    ⟨some 9, .binOp .mul 3 (.tmp 6) (.tmp 8) 3, none⟩,
    ⟨some 10, .fieldAddr 26 (.tmp 2) 1, none⟩,
    ⟨some 11, .load 3 (.tmp 10), none⟩,
    ⟨some 12, .fieldAddr 26 (.tmp 3) 1, none⟩,
    ⟨some 13, .load 3 (.tmp 12), none⟩,
    ⟨some 14, .binOp .mul 3 (.tmp 11) (.tmp 13) 3, none⟩,
    ⟨some 15, .call { callee := .value (.func 68), args := #[.tmp 9, .tmp 14], argTypes := #[3, 3] }, none⟩,
    ⟨none, .store 26 (.tmp 4) (.tmp 15), none⟩]
def s97 : SCode := (.seq q97_0 (.seq q97_1 .ret))
theorem s97_strip : Ya (Zt Try.f97) = s97 := by kernel_rfl
theorem s97_ok : Yr 16 (Zt Try.f97) = true := by kernel_rfl
end Go.Proofs.Try.Am

namespace Bq

theorem mul_den (q : Rat) : q * (q.den : Rat) = (q.num : Rat) := by
  have h := Rat.num_divInt_den q
  rw [Rat.divInt_eq_div] at h
  have h0 : (q.den : Rat) ≠ 0 := by
    have := q.den_nz
    intro hc
    exact this (by exact_mod_cast hc)
  conv => lhs; lhs; rw [← h]
  rw [Rat.intCast_natCast]
  exact Rat.div_mul_cancel h0
theorem eq_of_mul {a b c : Rat} (hc : c ≠ 0) (h : a * c = b * c) : a = b := by
  rw [← Rat.mul_div_cancel (a := a) hc, h, Rat.mul_div_cancel hc]
/-- What is y times as great as x is a fraction of them. -/
theorem divInt_of_mul {x y : Int} {q : Rat} (hy : y ≠ 0) (h : q * (y : Rat) = (x : Rat)) : Rat.divInt x y = q := by
  have h0 : (y : Rat) ≠ 0 := fun hc => hy (by exact_mod_cast hc)
  rw [Rat.divInt_eq_div, ← h]
  exact Rat.mul_div_cancel h0
theorem divInt_mul {x y : Int} (hy : y ≠ 0) : Rat.divInt x y * (y : Rat) = (x : Rat) := by
  have h0 : (y : Rat) ≠ 0 := fun hc => hy (by exact_mod_cast hc)
  rw [Rat.divInt_eq_div]
  exact Rat.div_mul_cancel h0

/-- q is x of N parts. -/
def Rp (N : Nat) (x : Int) (q : Rat) : Prop := 0 < N ∧ q * (N : Rat) = (x : Rat)

section
variable {N M : Nat} {x y k : Int} {a b q : Rat}
theorem Rp.pos (h : Rp N x q) : 0 < N := h.1
theorem Rp.int (h : Rp N x q) : q.num * N = x * q.den := by
  have h1 := h.2
  have h2 := mul_den q
  have : (q.num : Rat) * (N : Rat) = (x : Rat) * (q.den : Rat) := by grind
  exact_mod_cast this
theorem Rp.dvd (h : Rp N x q) : q.den ∣ N := by
  have h1 := h.int
  have h2 : (q.den : Int) ∣ q.num * (N : Int) := ⟨x, by rw [h1, Int.mul_comm]⟩
  have h3 : q.den ∣ q.num.natAbs * N := by
    have := Int.natAbs_dvd_natAbs.2 h2
    simpa [Int.natAbs_mul] using this
  exact Nat.Coprime.dvd_of_dvd_mul_left (Nat.Coprime.symm q.reduced) h3
theorem Rp.num (h : Rp N x q) : q.num * ((N / q.den : Nat) : Int) = x := by
  obtain ⟨t, ht⟩ := h.dvd
  have hd : 0 < q.den := q.den_pos
  have h1 := h.int
  have e : N / q.den = t := by rw [ht]; exact Nat.mul_div_cancel_left _ hd
  rw [e]
  have h2 : (q.den : Int) * (q.num * t) = q.den * x := by
    rw [Int.mul_comm (q.den : Int) x, ← h1, ht]
    push_cast
    grind
  exact Int.eq_of_mul_eq_mul_left (by omega) h2
theorem Rp.le (h : Rp N x q) : q.num.natAbs ≤ x.natAbs := by
  rw [← h.num, Int.natAbs_mul, Int.natAbs_natCast]
  refine Nat.le_mul_of_pos_right _ ?_
  exact Nat.div_pos (Nat.le_of_dvd h.pos h.dvd) q.den_pos
theorem Rp.den_le (h : Rp N x q) : q.den ≤ N := Nat.le_of_dvd h.pos h.dvd
theorem Rp.own (q : Rat) : Rp q.den q.num q := ⟨q.den_pos, mul_den q⟩
theorem Rp.whole (hN : 0 < N) (k : Int) : Rp N (k * N) (k : Rat) := ⟨hN, by push_cast; rfl⟩
theorem Rp.up (h : Rp N x q) (t : Nat) (ht : 0 < t) : Rp (N * t) (x * t) q := ⟨Nat.mul_pos h.1 ht, by have := h.2; push_cast; grind⟩
theorem Rp.up' (h : Rp N x q) (hd : N ∣ M) (hM : 0 < M) : Rp M (x * ((M / N : Nat) : Int)) q := by
  obtain ⟨t, rfl⟩ := hd
  have ht : 0 < t := Nat.pos_of_mul_pos_left hM
  rw [Nat.mul_div_cancel_left _ h.1]
  exact h.up t ht
theorem Rp.plus (ha : Rp N x a) (hb : Rp N y b) (k : Int) : Rp N (x + k * y) (a + k * b) := ⟨ha.1, by have := ha.2; have := hb.2; push_cast; grind⟩
theorem Rp.mul (ha : Rp N x a) (hb : Rp M y b) : Rp (N * M) (x * y) (a * b) := ⟨Nat.mul_pos ha.1 hb.1, by have := ha.2; have := hb.2; push_cast; grind⟩
theorem Rp.frac (h : Rp N x q) : Rat.divInt x N = q := divInt_of_mul (by have := h.1; omega) (by rw [Rat.intCast_natCast]; exact h.2)
theorem Rp.of_frac (hN : 0 < N) (x : Int) : Rp N x (Rat.divInt x N) := ⟨hN, by have := divInt_mul (x := x) (y := (N : Int)) (by omega); rwa [Rat.intCast_natCast] at this⟩
theorem Rp.neg (h : Rp N x q) : Rp N (-x) (-q) := ⟨h.1, by have := h.2; push_cast; grind⟩
theorem Rp.lt (ha : Rp N x a) (hb : Rp N y b) : a < b ↔ x < y := by
  have h0 : (0 : Rat) < N := by exact_mod_cast ha.1
  rw [← Rat.mul_lt_mul_right h0, ha.2, hb.2]
  exact Rat.intCast_lt_intCast
end

/-- The sum as the program makes it. -/
theorem plus_eq (a b : Rat) (k : Int) : Rat.divInt (a.num * ((b.den / Nat.gcd a.den b.den : Nat) : Int) + k * b.num * ((a.den / Nat.gcd a.den b.den : Nat) : Int)) (((a.den / Nat.gcd a.den b.den : Nat) : Int) * b.den) = a + k * b := by
  have hg : 0 < Nat.gcd a.den b.den := Nat.gcd_pos_of_pos_left _ a.den_pos
  obtain ⟨A, hA⟩ := Nat.gcd_dvd_left a.den b.den
  obtain ⟨B, hB⟩ := Nat.gcd_dvd_right a.den b.den
  generalize hgd : Nat.gcd a.den b.den = g at hg hA hB
  have eA : a.den / g = A := by rw [hA]; exact Nat.mul_div_cancel_left _ hg
  have eB : b.den / g = B := by rw [hB]; exact Nat.mul_div_cancel_left _ hg
  rw [eA, eB]
  have hA0 : A ≠ 0 := fun h => by rw [h, Nat.mul_zero] at hA; exact a.den_nz hA
  refine divInt_of_mul ?_ ?_
  · have := b.den_nz
    exact Int.mul_ne_zero (by omega) (by omega)
  · have h1 := mul_den a
    have h2 := mul_den b
    rw [hA] at h1
    rw [hB] at h2 ⊢
    push_cast at h1 h2 ⊢
    grind
/-- What stands in it is no greater than the parts. -/
theorem plus_bound {N : Nat} {x y k : Int} {a b : Rat} (ha : Rp N x a) (hb : Rp N y b) :
    (a.num * ((b.den / Nat.gcd a.den b.den : Nat) : Int)).natAbs ≤ x.natAbs ∧ (k * b.num).natAbs ≤ (k * y).natAbs ∧ (k * b.num * ((a.den / Nat.gcd a.den b.den : Nat) : Int)).natAbs ≤ (k * y).natAbs ∧ a.den / Nat.gcd a.den b.den * b.den ≤ N ∧ 0 < a.den / Nat.gcd a.den b.den * b.den := by
  have hg : 0 < Nat.gcd a.den b.den := Nat.gcd_pos_of_pos_left _ a.den_pos
  have hl : a.den / Nat.gcd a.den b.den * b.den = Nat.lcm a.den b.den := by
    rw [Nat.lcm, Nat.div_mul_right_comm (Nat.gcd_dvd_left _ _)]
  have hl2 : b.den / Nat.gcd a.den b.den * a.den = Nat.lcm a.den b.den := by
    rw [Nat.lcm, Nat.mul_comm a.den b.den, Nat.div_mul_right_comm (Nat.gcd_dvd_right _ _)]
  have hdvd : Nat.lcm a.den b.den ∣ N := Nat.lcm_dvd ha.dvd hb.dvd
  obtain ⟨t, ht⟩ := hdvd
  have hN := ha.pos
  have ht0 : 0 < t := Nat.pos_of_ne_zero fun h => by rw [h, Nat.mul_zero] at ht; omega
  have hx : x = a.num * ((b.den / Nat.gcd a.den b.den : Nat) : Int) * t := by
    rw [← ha.num]
    have : N / a.den = b.den / Nat.gcd a.den b.den * t := by
      rw [ht, ← hl2]
      rw [show b.den / Nat.gcd a.den b.den * a.den * t = a.den * (b.den / Nat.gcd a.den b.den * t) by rw [Nat.mul_comm _ a.den, Nat.mul_assoc]]
      exact Nat.mul_div_cancel_left _ a.den_pos
    rw [this]; push_cast; rw [Int.mul_assoc]
  have hy : y = b.num * ((a.den / Nat.gcd a.den b.den : Nat) : Int) * t := by
    rw [← hb.num]
    have : N / b.den = a.den / Nat.gcd a.den b.den * t := by
      rw [ht, ← hl]
      rw [show a.den / Nat.gcd a.den b.den * b.den * t = b.den * (a.den / Nat.gcd a.den b.den * t) by rw [Nat.mul_comm _ b.den, Nat.mul_assoc]]
      exact Nat.mul_div_cancel_left _ b.den_pos
    rw [this]; push_cast; rw [Int.mul_assoc]
  have hag : 0 < a.den / Nat.gcd a.den b.den := Nat.div_pos (Nat.le_of_dvd a.den_pos (Nat.gcd_dvd_left _ _)) hg
  refine ⟨?_, ?_, ?_, ?_, ?_⟩
  · rw [hx, Int.natAbs_mul _ (t : Int), Int.natAbs_natCast]; exact Nat.le_mul_of_pos_right _ ht0
  · rw [Int.natAbs_mul, Int.natAbs_mul]; exact Nat.mul_le_mul_left _ hb.le
  · rw [hy, ← Int.mul_assoc, ← Int.mul_assoc, Int.natAbs_mul _ (t : Int), Int.natAbs_natCast]; exact Nat.le_mul_of_pos_right _ ht0
  · rw [hl]; exact Nat.le_of_dvd hN ⟨t, ht⟩
  · exact Nat.mul_pos hag b.den_pos

/-- The product as the program makes it. -/
theorem times_eq (a b : Rat) : (Rat.divInt a.num b.den).num * (Rat.divInt b.num a.den).num = (a * b).num ∧ (Rat.divInt a.num b.den).den * (Rat.divInt b.num a.den).den = (a * b).den := by
  have hb0 : (b.den : Int) ≠ 0 := by have := b.den_nz; omega
  have ha0 : (a.den : Int) ≠ 0 := by have := a.den_nz; omega
  have h1 := divInt_mul (x := a.num) hb0
  have h2 := divInt_mul (x := b.num) ha0
  have d1 : (Rat.divInt a.num b.den).num ∣ a.num := by
    have : Rp b.den a.num (Rat.divInt a.num b.den) := Rp.of_frac b.den_pos _
    exact ⟨_, this.num.symm⟩
  have d2 : (Rat.divInt b.num a.den).num ∣ b.num := by
    have : Rp a.den b.num (Rat.divInt b.num a.den) := Rp.of_frac a.den_pos _
    exact ⟨_, this.num.symm⟩
  have e1 : (Rat.divInt a.num b.den).den ∣ b.den := (Rp.of_frac b.den_pos a.num).dvd
  have e2 : (Rat.divInt b.num a.den).den ∣ a.den := (Rp.of_frac a.den_pos b.num).dvd
  generalize hu : Rat.divInt a.num b.den = u at *
  generalize hv : Rat.divInt b.num a.den = v at *
  have hc : Nat.Coprime (u.num * v.num).natAbs (u.den * v.den) := by
    rw [Int.natAbs_mul]
    have c1 : Nat.Coprime u.num.natAbs v.den := Nat.Coprime.coprime_dvd_left (Int.natAbs_dvd_natAbs.2 d1) (Nat.Coprime.coprime_dvd_right e2 a.reduced)
    have c2 : Nat.Coprime v.num.natAbs u.den := Nat.Coprime.coprime_dvd_left (Int.natAbs_dvd_natAbs.2 d2) (Nat.Coprime.coprime_dvd_right e1 b.reduced)
    exact Nat.Coprime.mul_left (Nat.Coprime.mul_right u.reduced c1) (Nat.Coprime.mul_right c2 v.reduced)
  have hd : u.den * v.den ≠ 0 := Nat.mul_ne_zero u.den_nz v.den_nz
  have key : (⟨u.num * v.num, u.den * v.den, hd, hc⟩ : Rat) = a * b := by
    have k1 : (⟨u.num * v.num, u.den * v.den, hd, hc⟩ : Rat) = u * v := by
      have := mul_den (⟨u.num * v.num, u.den * v.den, hd, hc⟩ : Rat)
      simp only at this
      have hu2 := mul_den u
      have hv2 := mul_den v
      have hn : ((u.den * v.den : Nat) : Rat) ≠ 0 := fun h => hd (by exact_mod_cast h)
      have k2 : (⟨u.num * v.num, u.den * v.den, hd, hc⟩ : Rat) * ((u.den * v.den : Nat) : Rat) = u * v * ((u.den * v.den : Nat) : Rat) := by
        rw [this]; push_cast; grind
      exact eq_of_mul hn k2
    rw [k1]
    have ha2 := mul_den a
    have hb2 := mul_den b
    have hn : ((a.den * b.den : Nat) : Rat) ≠ 0 := fun h => Nat.mul_ne_zero a.den_nz b.den_nz (by exact_mod_cast h)
    have k2 : u * v * ((a.den * b.den : Nat) : Rat) = a * b * ((a.den * b.den : Nat) : Rat) := by
      rw [Rat.intCast_natCast] at h1 h2
      push_cast; grind
    exact eq_of_mul hn k2
  exact ⟨by rw [← key], by rw [← key]⟩
end Bq

namespace Go.Proofs.Try.Am
open Go.Am Bq
set_option maxRecDepth 100000
set_option maxHeartbeats 1000000

theorem Xm (h : Zh) (A B : Blk) : (h ++ [A]).set h.length B = h ++ [B] := by
  rw [List.set_append_right _ _ (Nat.le_refl _)]; simp
/-- A fraction, as it stands, and that of a number. -/
def frV (x y : Int) : Value := .agg #[Zc x, Zc y]
def qV (q : Rat) : Value := frV q.num q.den
theorem low_frV (x y : Int) : Low (frV x y) := .agg fun w hw => by
  simp at hw; rcases hw with rfl | rfl <;> exact .int _ _
theorem Xe {h : Zh} {b : Nat} {x y : Int} {e : TypeId} {ro : Bool} {K : Value → Prop} (hb : h[b]? = some (.cells [Zc x, Zc y] e ro)) : Xx prog h 26 (.pointer (some ⟨b, 0, none⟩)) K = K (.agg #[Zc x, Zc y]) :=
  loadA hb (by rw [shp_26]; rfl)
theorem Vk {h : Zh} {b : Nat} {x y : Int} {e : TypeId} {ro : Bool} {K : Value → Prop} (hb : h[b]? = some (.cells [Zc x, Zc y] e ro)) : Xx prog h 3 (.pointer (some ⟨b, 0, none⟩)) K = K (Zc x) := loadC hb shp_3 rfl
theorem Vr {h : Zh} {b : Nat} {x y : Int} {e : TypeId} {ro : Bool} {K : Value → Prop} (hb : h[b]? = some (.cells [Zc x, Zc y] e ro)) : Xx prog h 3 (.pointer (some ⟨b, 1, none⟩)) K = K (Zc y) := loadC hb shp_3 rfl
theorem Xk {h : Zh} {b : Nat} {x y : Int} {e : TypeId} {c : List Value} {K : Zh → Prop} (hb : h[b]? = some (.cells c e false)) (hc : c.length = 2) : Xf prog h 26 (.pointer (some ⟨b, 0, none⟩)) (.agg #[Zc x, Zc y]) K = K (h.set b (.cells [Zc x, Zc y] e false)) :=
  storeA (vs := [Zc x, Zc y]) hb (by rw [shp_26]; rfl) rfl (by rw [hc]; rfl)
theorem bldF {x y : Int} {K : Value → Prop} : Vl prog 26 [(0, Zc x), (1, Zc y)] K = K (.agg #[Zc x, Zc y]) := by
  simp [Vl, zero_26, fillL, pl_26_0, pl_26_1, Wu, cellsOf, Yj]
theorem bldF0 {K : Value → Prop} : Vl prog 26 [] K = K (.agg #[Zc 0, Zc 0]) := by
  simp [Vl, zero_26, fillL, pl_26_0]
theorem boxF {h : Zh} {x y : Int} {K : Value → Zh → Prop} : boxK prog h 26 (.agg #[Zc x, Zc y]) K = K (Yp h) (h ++ [.cells [Zc x, Zc y] 26 false]) := by
  simp [boxK, Vj, Yp, cellsOf]
theorem fA0 {b : Nat} {K : Value → Prop} : Yt prog 26 (.pointer (some ⟨b, 0, none⟩)) 0 K = K (.pointer (some ⟨b, 0, none⟩)) := fldA fld_26_0 esz_3
theorem fA1 {b : Nat} {K : Value → Prop} : Yt prog 26 (.pointer (some ⟨b, 0, none⟩)) 1 K = K (.pointer (some ⟨b, 1, none⟩)) := fldA fld_26_1 esz_3
theorem fld0 {x y : Int} {K : Value → Prop} : fieldK prog 26 (.agg #[Zc x, Zc y]) 0 K = K (Zc x) := by
  simp [fieldK, fld_26_0, partK, shp_3]
noncomputable def okF (p : Field × Nat) : Bool := p.1.name != "_" && (match prog.underlying p.1.type with | some (.int .i64) => true | _ => false) && p.1.offset == p.2
theorem eqF [Tabs prog] : EqT prog 26 2 := eqT_struct (by kernel_rfl) (by kernel_rfl) (by kernel_rfl) (fun j f hf => by
  have h4 : (prog.fieldsOf 26).toList.zipIdx.all okF = true := by kernel_rfl
  have h5 := List.all_eq_true.1 h4 (f, j) (by rw [List.mem_zipIdx_iff_getElem?]; exact hf)
  simp only [okF, Bool.and_eq_true, bne_iff_ne, beq_iff_eq] at h5
  refine ⟨h5.1.1, ?_, h5.2⟩
  have h6 := h5.1.2
  split at h6
  · assumption
  · cases h6) (by kernel_rfl)

theorem quo_dvd {x y : Int} (hx : x.natAbs < 9223372036854775808) (hd : y ∣ x) : quoV .i64 x y = x / y := by
  rw [quoV, Int.tdiv_eq_ediv_of_dvd hd]
  have h1 : (x / y).natAbs ≤ x.natAbs := by
    obtain ⟨t, rfl⟩ := hd
    rcases Int.lt_trichotomy y 0 with h | h | h
    · rw [Int.mul_ediv_cancel_left _ (by omega), Int.natAbs_mul]; exact Nat.le_mul_of_pos_left _ (by omega)
    · subst h; simp
    · rw [Int.mul_ediv_cancel_left _ (by omega), Int.natAbs_mul]; exact Nat.le_mul_of_pos_left _ (by omega)
  exact wrap_id (by omega) (by omega)
theorem tmod_abs (x : Int) {y : Int} (hy : y ≠ 0) : (x.tmod y).natAbs < y.natAbs := by
  rw [Int.natAbs_tmod]; exact Nat.mod_lt _ (by omega)
theorem gcd_tmod (x y : Int) : Nat.gcd y.natAbs (x.tmod y).natAbs = Nat.gcd x.natAbs y.natAbs := by
  rw [Int.natAbs_tmod, Nat.gcd_comm y.natAbs, ← Nat.gcd_rec, Nat.gcd_comm]
theorem max_abs {x : Int} (hx : x.natAbs < 9223372036854775808) : (if subV .i64 0 x > x then subV .i64 0 x else x) = (x.natAbs : Int) := by
  rw [subV_id (by omega) (by omega)]; split <;> omega

theorem gcd_call [Tabs prog] {h : Zh} {a b : Int} (ha : a.natAbs < 9223372036854775808 ∨ b ≠ 0) (hb2 : b.natAbs < 9223372036854775808) : Xi prog 88 [Zc a, Zc b] h (Zc (Nat.gcd a.natAbs b.natAbs : Nat)) := by
  refine s88_call (by simp) ?_
  simp only [s88]
  simp (maxSteps := 2000000) only [↓Za, ↓Zu, ↓aw_block, ↓Zb, ↓Zd, vup, cond_false, aop, Zg, Zr, ev, sput, Zf, Nat.reduceBEq, Nat.reduceAdd, ↓aw_loop_eq]
  refine Zn fun Q hQ => ?_
  refine aw_loop (γ := Int × Int) (fun s => Nat.gcd s.1.natAbs s.2.natAbs = Nat.gcd a.natAbs b.natAbs ∧ (s.1.natAbs < 9223372036854775808 ∨ s.2 ≠ 0) ∧ s.2.natAbs < 9223372036854775808)
    (fun s => ([(0, Zc s.1), (1, Zc s.2), (4, .int .i64 0)], h)) (fun s => s.2.natAbs) (a, b) ⟨rfl, ha, hb2⟩ (by simp (maxSteps := 2000000) only [vup, cond_true, cond_false, Nat.reduceBEq]) rfl ?_
  rintro ⟨x, y⟩ ⟨hxy, hx, hy⟩
  simp only at hxy hx hy
  refine aw_hide fun Q2 hQ2 => ?_
  by_cases hy0 : y = 0
  · subst hy0
    have e0 : ((0 : Int) != 0) = false := rfl
    rw [Int.natAbs_zero, Nat.gcd_zero_right] at hxy
    have hx' : x.natAbs < 9223372036854775808 := hx.resolve_right (by simp)
    simp (maxSteps := 2000000) only [↓Za, ↓Zu, ↓Yq, ↓Zb, ↓Zd, ↓vdn, vup, cond_true, cond_false, aop, Zg, ev, sput, Zf, Yb, Ye, Nat.reduceBEq, l88_0, e0]
    refine hQ2 _ _ _ (hQ _ _ _ ?_)
    simp (maxSteps := 2000000) only [↓Za, ↓Zu, ↓Zz, ↓Zb, ↓Zd, vup, List.map_cons, List.map_nil, cond_true, cond_false, aop, Zg, Zm, ev, sput, Zf, unK, Zj, Nat.reduceBEq, Zs, Wd, tup, if_true, mmK, max_abs hx', hxy]
  · have e0 : (y != 0) = true := by simpa using hy0
    simp (maxSteps := 2000000) only [↓Za, ↓Zo, ↓Zu, ↓aw_block, ↓Zb, ↓Zd, ↓vdn, vup, cond_true, cond_false, aop, Zg, ev, sput, Zf, Yb, Ye, Nat.reduceBEq, l88_0, e0]
    refine Wc [] (by kernel_rfl) (by kernel_rfl) (by kernel_rfl) (by kernel_rfl) ?_
    simp (maxSteps := 2000000) only [↓Yz, ↓vdn, vup, cond_true, cond_false, aop, Zm, ev, sput, Zf, Yb, Ye, Nat.reduceBEq, ne_eq, hy0, not_false_eq_true]
    have hlt := tmod_abs x hy0
    exact hQ2 _ _ _ ⟨(y, x.tmod y), ⟨by simp only; rw [gcd_tmod, hxy], .inl hy, by simp only; omega⟩, hlt, by simp (maxSteps := 2000000) only [vup, cond_true, cond_false, Nat.reduceBEq], rfl⟩

/-- The least terms, as the program makes them. -/
theorem terms {x : Int} {n : Nat} (hn : 0 < n) : x / ((Nat.gcd x.natAbs n : Nat) : Int) = (Rat.divInt x n).num ∧ ((n / Nat.gcd x.natAbs n : Nat) : Int) = (Rat.divInt x n).den := by
  rw [Rat.divInt_ofNat, Rat.num_mkRat, Rat.den_mkRat, if_neg (by omega), if_neg (by omega), Nat.gcd_comm n]
  exact ⟨rfl, rfl⟩
theorem gcd_dvd_int (x : Int) (n : Nat) : ((Nat.gcd x.natAbs n : Nat) : Int) ∣ x := Int.dvd_natAbs.1 (Int.natCast_dvd_natCast.2 (Nat.gcd_dvd_left _ _))

theorem s64_callW [Tabs Try.prog] {args : List Value} {h : Zh} {Q : Value → Zh → Prop} (hsz : args.length ≤ 22) (hk : AWS Try.prog 22 s64 (Zs Try.prog [.cell 4 26] Q) (Zr 0 args) h) : ACall Try.prog 64 args h Q :=
  Ys Try.func64 rfl (enters_of Try.func64 (by kernel_rfl) rfl) rfl rfl (by decide) s64_strip s64_ok hsz hk
theorem frac_call [Tabs prog] {h : Zh} {a b : Int} (hb : b ≠ 0) (ha : a.natAbs < 9223372036854775808) (hb2 : b.natAbs < 9223372036854775808) : Xi prog 64 [Zc a, Zc b] h (qV (Rat.divInt a b)) := by
  have c0 := Zy h (Blk.cells [.int .i64 0, .int .i64 0] 26 false)
  have hE0 : Ext (fun _ => False) h (h ++ [Blk.cells [.int .i64 0, .int .i64 0] 26 false]) := Ext.app _ _ _
  obtain ⟨x, n, hn, hx, hn2, hq, hneg, hpos⟩ : ∃ (x : Int) (n : Nat), 0 < n ∧ x.natAbs < 9223372036854775808 ∧ n < 9223372036854775808 ∧ Rat.divInt x n = Rat.divInt a b ∧ (b < 0 → subV .i64 0 a = x ∧ subV .i64 0 b = n) ∧ (¬ b < 0 → a = x ∧ b = n) := by
    by_cases h0 : b < 0
    · refine ⟨-a, b.natAbs, by omega, by omega, hb2, ?_, fun _ => ⟨?_, ?_⟩, fun h => absurd h0 h⟩
      · rw [show ((b.natAbs : Nat) : Int) = -b by omega]; exact Rat.neg_divInt_neg a b
      · rw [subV_id (by omega) (by omega)]; omega
      · rw [subV_id (by omega) (by omega)]; omega
    · exact ⟨a, b.natAbs, by omega, ha, hb2, by rw [show ((b.natAbs : Nat) : Int) = b by omega], fun h => absurd h h0, fun _ => ⟨rfl, by omega⟩⟩
  refine ACall.forget (low_frV _ _) ?_
  refine s64_callW (by simp) ?_
  simp only [s64]
  refine Ze fun N1 hN1 => ?_
  simp (maxSteps := 2000000) only [↓Za, ↓Zb, ↓Zd, vup, cond_false, aop, Zg, Zr, sput, Zf, Nat.reduceBEq, Nat.reduceAdd, tyf, Xg, Yp]
  refine hN1 [(0, Zc a), (1, Zc b), (4, .pointer (some ⟨h.length, 0, none⟩))] _ _ ?_ (by simp (maxSteps := 2000000) only [vup, cond_true, cond_false, Nat.reduceBEq])
  clear hN1
  try clear N1
  refine Ze fun M hM => ?_
  have key : ∀ e, ELe e [(0, Zc x), (1, Zc (n : Int)), (4, .pointer (some ⟨h.length, 0, none⟩))] → M e (h ++ [Blk.cells [.int .i64 0, .int .i64 0] 26 false]) := by
    intro e he
    refine hM [(0, Zc x), (1, Zc (n : Int)), (4, .pointer (some ⟨h.length, 0, none⟩))] _ _ ?_ he
    refine Ze fun N2 hN2 => ?_
    simp (maxSteps := 2000000) only [↓Za, ↓Zb, ↓Zd, vup, List.map_cons, List.map_nil, cond_true, cond_false, aop, Zg, ev, sput, Zf, Nat.reduceBEq, Yn, List.nil_append, List.append_nil]
    refine (gcd_call (.inl hx) (by omega)).mono ?_
    rintro _ _ ⟨rfl, rfl⟩
    rw [Int.natAbs_natCast]
    refine hN2 [(0, Zc x), (1, Zc (n : Int)), (4, .pointer (some ⟨h.length, 0, none⟩)), (5, Zc (Nat.gcd x.natAbs n : Nat))] _ _ ?_ (by simp (maxSteps := 2000000) only [vup, cond_true, cond_false, Nat.reduceBEq])
    clear hN2
    try clear N2
    have hg : ¬ ((Nat.gcd x.natAbs n : Nat) : Int) = 0 := by have := Nat.gcd_pos_of_pos_right x.natAbs hn; omega
    have q1 : quoV .i64 x ((Nat.gcd x.natAbs n : Nat) : Int) = (Rat.divInt a b).num := by rw [quo_dvd hx (gcd_dvd_int _ _), (terms hn).1, hq]
    have q2 : quoV .i64 (n : Int) ((Nat.gcd x.natAbs n : Nat) : Int) = (Rat.divInt a b).den := by
      rw [quo_dvd (by omega) (Int.natCast_dvd_natCast.2 (Nat.gcd_dvd_right _ _)), ← hq, ← (terms hn).2, Int.natCast_ediv]
    refine Zi ?_
    simp only [q64_4]
    refine aw_cut fun N hN => ?_
    refine Wc [] (by kernel_rfl) (by kernel_rfl) (by kernel_rfl) (by kernel_rfl) ?_
    simp (maxSteps := 2000000) only [↓Yz, ↓vdn, vup, List.map_cons, List.map_nil, cond_true, cond_false, aop, Zg, ev, sput, Zf, Yb, Ye, Nat.reduceBEq, ne_eq, hg, not_false_eq_true, q1, q2, bldF, Xk c0 rfl]
    refine hN _ _ ?_
    simp (maxSteps := 2000000) only [↓Zz, vup, cond_true, cond_false, Nat.reduceBEq, Zs, Wd, tup, Xe (Xt (h := h ++ [Blk.cells [.int .i64 0, .int .i64 0] 26 false]) (b := h.length) (by simp) _)]
    exact ⟨rfl, hE0.set_ge (Nat.le_refl _) _⟩
  by_cases hb0 : b < 0
  · simp (maxSteps := 2000000) only [↓Za, ↓Zu, ↓Zb, ↓Zd, ↓vdn, vup, cond_true, cond_false, aop, Zg, ev, sput, Zf, Yb, Ye, unK, Nat.reduceBEq, hb0, (hneg hb0).1, (hneg hb0).2]
    exact key _ (by simp (maxSteps := 2000000) only [vup, cond_true, cond_false, Nat.reduceBEq])
  · simp (maxSteps := 2000000) only [↓Za, ↓Zo, ↓Zu, ↓Zb, ↓Zd, ↓vdn, vup, cond_true, cond_false, aop, Zg, ev, sput, Zf, Yb, Ye, Nat.reduceBEq, hb0]
    exact key _ (by simp (maxSteps := 2000000) only [vup, cond_true, cond_false, Nat.reduceBEq, (hpos hb0).1, (hpos hb0).2])
end Go.Proofs.Try.Am

namespace Go.Proofs.Try.Am
open Go.Am Bq
set_option maxRecDepth 100000
set_option maxHeartbeats 1000000

section
variable (h : Zh) (A B C : Blk)
theorem b2_0 : (h ++ [A] ++ [B])[h.length]? = some A := by simp
theorem b2_1 : (h ++ [A] ++ [B])[h.length + 1]? = some B := by simp
theorem b3_0 : (h ++ [A] ++ [B] ++ [C])[h.length]? = some A := by simp
theorem b3_1 : (h ++ [A] ++ [B] ++ [C])[h.length + 1]? = some B := by simp
theorem b3_2 : (h ++ [A] ++ [B] ++ [C])[h.length + 2]? = some C := by simp
theorem e2 : Ext (fun _ => False) h (h ++ [A] ++ [B]) := by rw [List.append_assoc]; exact Ext.app _ _ _
theorem e3 : Ext (fun _ => False) h (h ++ [A] ++ [B] ++ [C]) := by rw [List.append_assoc, List.append_assoc]; exact Ext.app _ _ _
end
abbrev fC (x y : Int) : Blk := .cells [Zc x, Zc y] 26 false
abbrev z0 : Blk := .cells [.int .i64 0, .int .i64 0] 26 false

theorem quoD {x y : Nat} (hx : x < 9223372036854775808) (hd : y ∣ x) : quoV .i64 (x : Int) (y : Int) = ((x / y : Nat) : Int) := by
  rw [quo_dvd (by omega) (Int.natCast_dvd_natCast.2 hd), Int.natCast_ediv]
theorem mulN {a b : Int} (h : (a * b).natAbs < 9223372036854775808) : mulV .i64 a b = a * b := mulV_id (by omega) (by omega)
theorem addN {a b : Int} (h : a.natAbs + b.natAbs < 9223372036854775808) : addV .i64 a b = a + b := addV_id (by omega) (by omega)
theorem subN {a b : Int} (h : a.natAbs + b.natAbs < 9223372036854775808) : subV .i64 a b = a - b := subV_id (by omega) (by omega)

theorem s71_callW [Tabs Try.prog] {args : List Value} {h : Zh} {Q : Value → Zh → Prop} (hsz : args.length ≤ 38) (hk : AWS Try.prog 38 s71 (Zs Try.prog [.cell 6 26] Q) (Zr 0 args) h) : ACall Try.prog 71 args h Q :=
  Ys Try.func71 rfl (enters_of Try.func71 (by kernel_rfl) rfl) rfl rfl (by decide) s71_strip s71_ok hsz hk
theorem plus_call [Tabs prog] {h : Zh} {a b : Rat} {k x y : Int} {N : Nat} (ha : Rp N x a) (hb : Rp N y b) (hx : x.natAbs + (k * y).natAbs < 9223372036854775808) (hN : N < 9223372036854775808) : Xi prog 71 [qV a, Zc k, qV b] h (qV (a + k * b)) := by
  obtain ⟨p1, p2, p3, p4, p5⟩ := plus_bound (k := k) ha hb
  have da := ha.den_le
  have db := hb.den_le
  have hg := Nat.gcd_pos_of_pos_left b.den a.den_pos
  have pe := plus_eq a b k
  obtain ⟨H, hH⟩ : ∃ H, H = h ++ [fC a.num a.den] ++ [fC b.num b.den] ++ [z0] := ⟨_, rfl⟩
  have c3 : H[h.length]? = some (fC a.num a.den) := by rw [hH]; exact b3_0 ..
  have c5 : H[h.length + 1]? = some (fC b.num b.den) := by rw [hH]; exact b3_1 ..
  have c6 : H[h.length + 2]? = some z0 := by rw [hH]; exact b3_2 ..
  have hE : Ext (fun _ => False) h H := by rw [hH]; exact e3 ..
  have hg0 : ¬ ((Nat.gcd a.den b.den : Nat) : Int) = 0 := by omega
  have q1 := quoD (x := b.den) (show b.den < 9223372036854775808 by omega) (Nat.gcd_dvd_right a.den b.den)
  have q2 := quoD (x := a.den) (show a.den < 9223372036854775808 by omega) (Nat.gcd_dvd_left a.den b.den)
  have m1 := mulN (a := a.num) (b := ((b.den / Nat.gcd a.den b.den : Nat) : Int)) (by omega)
  have m2 := mulN (a := k) (b := b.num) (by omega)
  have m3 := mulN (a := k * b.num) (b := ((a.den / Nat.gcd a.den b.den : Nat) : Int)) (by omega)
  have m4 := addN (a := a.num * ((b.den / Nat.gcd a.den b.den : Nat) : Int)) (b := k * b.num * ((a.den / Nat.gcd a.den b.den : Nat) : Int)) (by omega)
  have m5 : mulV .i64 ((a.den / Nat.gcd a.den b.den : Nat) : Int) (b.den : Int) = ((a.den / Nat.gcd a.den b.den * b.den : Nat) : Int) := by
    rw [mulN (by rw [← Int.natCast_mul]; omega), Int.natCast_mul]
  have pe' : Rat.divInt (a.num * ((b.den / Nat.gcd a.den b.den : Nat) : Int) + k * b.num * ((a.den / Nat.gcd a.den b.den : Nat) : Int)) ((a.den / Nat.gcd a.den b.den * b.den : Nat) : Int) = a + k * b := by
    rw [Int.natCast_mul]; exact pe
  have fc := frac_call (h := H) (a := a.num * ((b.den / Nat.gcd a.den b.den : Nat) : Int) + k * b.num * ((a.den / Nat.gcd a.den b.den : Nat) : Int)) (b := ((a.den / Nat.gcd a.den b.den * b.den : Nat) : Int)) (by omega) (by omega) (by omega)
  rw [pe'] at fc
  obtain ⟨q, hq⟩ : ∃ q, a + (k : Rat) * b = q := ⟨_, rfl⟩
  rw [hq] at fc ⊢
  refine ACall.forget (low_frV _ _) ?_
  refine s71_callW (by simp) ?_
  simp only [s71]
  refine Ze fun N1 hN1 => ?_
  simp (maxSteps := 2000000) only [↓Za, ↓Zb, ↓Zd, vup, cond_true, cond_false, aop, Zg, Zr, ev, sput, Zf, Nat.reduceBEq, Nat.reduceAdd, tyf, qV, frV, boxF, Xg, Yp, List.length_append, List.length_singleton, Nat.add_assoc]
  rw [← hH]
  refine hN1 [(1, Zc k), (3, .pointer (some ⟨h.length, 0, none⟩)), (5, .pointer (some ⟨h.length + 1, 0, none⟩)), (6, .pointer (some ⟨h.length + 2, 0, none⟩))] _ _ ?_ (by simp (maxSteps := 2000000) only [vup, cond_true, cond_false, Nat.reduceBEq])
  clear hN1
  try clear N1
  refine Ze fun N2 hN2 => ?_
  simp (maxSteps := 2000000) only [↓Za, ↓Zb, ↓Zd, vup, List.map_cons, List.map_nil, cond_true, cond_false, aop, Zg, ev, sput, Zf, Nat.reduceBEq, Yn, List.nil_append, List.append_nil, fA1, Vr c3, Vr c5]
  refine (gcd_call (.inl (by omega)) (by omega)).mono ?_
  rintro _ _ ⟨rfl, rfl⟩
  rw [Int.natAbs_natCast, Int.natAbs_natCast]
  refine hN2 [(1, Zc k), (3, .pointer (some ⟨h.length, 0, none⟩)), (5, .pointer (some ⟨h.length + 1, 0, none⟩)), (6, .pointer (some ⟨h.length + 2, 0, none⟩)), (7, Zc (Nat.gcd a.den b.den : Nat))] _ _ ?_ (by simp (maxSteps := 2000000) only [vup, cond_true, cond_false, Nat.reduceBEq])
  clear hN2
  try clear N2
  refine Zi ?_
  simp only [q71_2]
  refine aw_cut fun N hN => ?_
  refine Wc [(24, 1)] (by kernel_rfl) (by kernel_rfl) (by kernel_rfl) (by kernel_rfl) ?_
  simp (maxSteps := 2000000) only [↓Yz, ↓vdn, vup, List.map_cons, List.map_nil, cond_true, cond_false, aop, Zg, ev, sput, Zf, Yb, Ye, Nat.reduceBEq, Nat.reduceAdd, tyf, fA0, fA1, Vr c3, Vr c5, Vk c3, Vk c5, ne_eq, hg0, not_false_eq_true, q1, q2, m1, m2, m3, m4, m5, Yn, List.nil_append, List.append_nil]
  refine ⟨_, _, fc, rfl, ?_⟩
  simp (maxSteps := 2000000) only [qV, frV, Xk c6 rfl]
  refine hN _ _ ?_
  simp (maxSteps := 2000000) only [↓Zz, vup, cond_true, cond_false, Nat.reduceBEq, Zs, Wd, tup, Xe (Xt (Yc c6) _)]
  exact ⟨rfl, hE.set_ge (by omega) _⟩

/-- The product fits. -/
def Fits (q : Rat) : Prop := q.num.natAbs < 9223372036854775808 ∧ q.den < 9223372036854775808
theorem s72_callW [Tabs Try.prog] {args : List Value} {h : Zh} {Q : Value → Zh → Prop} (hsz : args.length ≤ 28) (hk : AWS Try.prog 28 s72 (Zs Try.prog [.cell 4 26] Q) (Zr 0 args) h) : ACall Try.prog 72 args h Q :=
  Ys Try.func72 rfl (enters_of Try.func72 (by kernel_rfl) rfl) rfl rfl (by decide) s72_strip s72_ok hsz hk
theorem times_call [Tabs prog] {h : Zh} {a b : Rat} (ha : Fits a) (hb : Fits b) (hab : Fits (a * b)) : Xi prog 72 [qV a, qV b] h (qV (a * b)) := by
  have da := a.den_nz
  have db := b.den_nz
  obtain ⟨t1, t2⟩ := times_eq a b
  have f1 : ∀ h : Zh, Xi prog 64 [Zc a.num, Zc b.den] h (qV (Rat.divInt a.num b.den)) := fun h => frac_call (by omega) ha.1 (by have := hb.2; omega)
  have f2 : ∀ h : Zh, Xi prog 64 [Zc b.num, Zc a.den] h (qV (Rat.divInt b.num a.den)) := fun h => frac_call (by omega) hb.1 (by have := ha.2; omega)
  obtain ⟨u, hu⟩ : ∃ u, Rat.divInt a.num b.den = u := ⟨_, rfl⟩
  obtain ⟨v, hv⟩ : ∃ v, Rat.divInt b.num a.den = v := ⟨_, rfl⟩
  rw [hu] at f1 t1 t2
  rw [hv] at f2 t1 t2
  have m1 : mulV .i64 u.num v.num = (a * b).num := by rw [← t1]; exact mulN (by rw [t1]; exact hab.1)
  have m2 : mulV .i64 (u.den : Int) (v.den : Int) = ((a * b).den : Int) := by
    rw [← t2, Int.natCast_mul]; exact mulN (by rw [← Int.natCast_mul, t2]; have := hab.2; omega)
  obtain ⟨q, hq⟩ : ∃ q, a * b = q := ⟨_, rfl⟩
  rw [hq] at m1 m2 ⊢
  obtain ⟨H, hH⟩ : ∃ H, H = h ++ [fC a.num a.den] ++ [fC b.num b.den] ++ [z0] := ⟨_, rfl⟩
  have c2 : H[h.length]? = some (fC a.num a.den) := by rw [hH]; exact b3_0 ..
  have c3 : H[h.length + 1]? = some (fC b.num b.den) := by rw [hH]; exact b3_1 ..
  have c4 : H[h.length + 2]? = some z0 := by rw [hH]; exact b3_2 ..
  have hE : Ext (fun _ => False) h H := by rw [hH]; exact e3 ..
  have hlen : H.length = h.length + 3 := by rw [hH]; simp
  refine ACall.forget (low_frV _ _) ?_
  refine s72_callW (by simp) ?_
  simp only [s72]
  refine Ze fun N3 hN3 => ?_
  simp (maxSteps := 2000000) only [↓Za, ↓Zb, ↓Zd, vup, cond_true, cond_false, aop, Zg, Zr, ev, sput, Zf, Nat.reduceBEq, Nat.reduceAdd, tyf, qV, frV, boxF, Xg, Yp, List.length_append, List.length_singleton, Nat.add_assoc]
  rw [← hH]
  refine hN3 [(2, .pointer (some ⟨h.length, 0, none⟩)), (3, .pointer (some ⟨h.length + 1, 0, none⟩)), (4, .pointer (some ⟨h.length + 2, 0, none⟩))] _ _ ?_ (by simp (maxSteps := 2000000) only [vup, cond_true, cond_false, Nat.reduceBEq])
  clear hN3
  try clear N3
  refine Ze fun N4 hN4 => ?_
  refine aw_drawE (fun hp => hp[h.length]? = some (fC a.num a.den) ∧ hp[h.length + 1]? = some (fC b.num b.den)) [(1, 5), (3, 5), (6, 5), (8, 5), (4, 2), (9, 2)] 11 6 [10] (by kernel_rfl) (by kernel_rfl) (by kernel_rfl) (by kernel_rfl) (by kernel_rfl) (by rfl) ⟨c2, c3⟩ ?_
  simp (maxSteps := 2000000) only [↓dopsR_nil, ↓vdn, vup, List.map_cons, List.map_nil, cond_true, cond_false, aop, Zg, ev, sput, Zf, Nat.reduceBEq, Nat.reduceAdd, fA0, fA1, Yn, List.nil_append, List.append_nil]
  refine ⟨Zc a.num, fun _ g => by rw [Vk g.1], Zc b.den, fun _ g => by rw [Vr g.2], qV u, fun _ _ => ⟨_, _, f1 _, rfl, rfl⟩, Zc b.num, fun _ g => by rw [Vk g.2], Zc a.den, fun _ g => by rw [Vr g.1], qV v, fun _ _ => ⟨_, _, f2 _, rfl, rfl⟩, ?_⟩
  have k1 : (H ++ [z0] ++ [z0])[H.length]? = some z0 := b2_0 ..
  obtain ⟨H2, hH2⟩ : ∃ H2, H2 = (H ++ [z0] ++ [z0]).set H.length (fC u.num u.den) := ⟨_, rfl⟩
  have k2 : H2[H.length + 1]? = some z0 := by rw [hH2, List.getElem?_set_ne (by omega)]; exact b2_1 ..
  have k3 : H2[H.length]? = some (fC u.num u.den) := by rw [hH2]; exact Xt (by simp) _
  have k4 : Ext (fun _ => False) h H2 := by rw [hH2]; exact (hE.trans (e2 ..)).set_ge (by omega) _
  have k5 : H2[h.length]? = some (fC a.num a.den) ∧ H2[h.length + 1]? = some (fC b.num b.den) ∧ H2[h.length + 2]? = some z0 := by
    rw [hH2, List.getElem?_set_ne (by omega), List.getElem?_set_ne (by omega), List.getElem?_set_ne (by omega)]
    exact ⟨Xr (Xr c2 _) _, Xr (Xr c3 _) _, Xr (Xr c4 _) _⟩
  obtain ⟨H3, hH3⟩ : ∃ H3, H3 = H2.set (H.length + 1) (fC v.num v.den) := ⟨_, rfl⟩
  have l1 : H3[H.length + 1]? = some (fC v.num v.den) := by rw [hH3]; exact Xt (Yc k2) _
  have l2 : H3[H.length]? = some (fC u.num u.den) := by rw [hH3, List.getElem?_set_ne (by omega)]; exact k3
  have l3 : H3[h.length + 2]? = some z0 := by rw [hH3, List.getElem?_set_ne (by omega)]; exact k5.2.2
  have l4 : Ext (fun _ => False) h H3 := by rw [hH3]; exact k4.set_ge (by omega) _
  have l5 : H3[h.length]? = some (fC a.num a.den) ∧ H3[h.length + 1]? = some (fC b.num b.den) := by
    rw [hH3, List.getElem?_set_ne (by omega), List.getElem?_set_ne (by omega)]
    exact ⟨k5.1, k5.2.1⟩
  simp (maxSteps := 2000000) only [tyf, Xg, Yp]
  refine ⟨⟨Xr c2 _, Xr c3 _⟩, ⟨Xr (Xr c2 _) _, Xr (Xr c3 _) _⟩, ?_⟩
  simp only [qV, frV, Xk k1 rfl, List.length_append, List.length_singleton]
  rw [← hH2, Xk k2 rfl, ← hH3]
  refine ⟨⟨k5.1, k5.2.1⟩, l5, ?_⟩
  refine hN4 [(2, .pointer (some ⟨h.length, 0, none⟩)), (3, .pointer (some ⟨h.length + 1, 0, none⟩)), (4, .pointer (some ⟨h.length + 2, 0, none⟩)), (5, .pointer (some ⟨H.length, 0, none⟩)), (6, .pointer (some ⟨H.length + 1, 0, none⟩))] _ _ ?_ (by simp (maxSteps := 2000000) only [vup, cond_true, cond_false, Nat.reduceBEq])
  clear hN4
  try clear N4
  refine Zi ?_
  simp (maxSteps := 2000000) only [↓Za, ↓Zu, ↓Zz, ↓Zb, ↓Zd, vup, List.map_cons, List.map_nil, cond_true, cond_false, aop, Zg, ev, sput, Zf, Yb, Ye, Nat.reduceBEq, Zs, Wd, tup, tyf, fA0, fA1, Vk l1, Vr l1, Vk l2, Vr l2, m1, m2, bldF, Xk l3 rfl, Xe (Xt (Yc l3) _)]
  exact ⟨rfl, l4.set_ge (by omega) _⟩

theorem fits_inv {a b : Rat} (hb : b ≠ 0) (h : Fits b) : Rat.divInt b.den b.num = b⁻¹ ∧ Fits b⁻¹ := by
  have hn : b.num ≠ 0 := fun hc => hb (Rat.num_eq_zero.1 hc)
  refine ⟨(Rat.inv_def b).symm, ?_, ?_⟩
  · rw [Rat.num_inv, Int.natAbs_mul, Int.natAbs_sign_of_ne_zero hn]
    have := h.2; simpa using this
  · rw [Rat.den_inv, if_neg hn]; exact h.1

theorem s94_callW [Tabs Try.prog] {args : List Value} {h : Zh} {Q : Value → Zh → Prop} (hsz : args.length ≤ 12) (hk : AWS Try.prog 12 s94 (Zs Try.prog [.cell 4 26] Q) (Zr 0 args) h) : ACall Try.prog 94 args h Q :=
  Ys Try.func94 rfl (enters_of Try.func94 (by kernel_rfl) rfl) rfl rfl (by decide) s94_strip s94_ok hsz hk
theorem over_call [Tabs prog] {h : Zh} {a b : Rat} (ha : Fits a) (hb : Fits b) (hb0 : b ≠ 0) (hab : Fits (a / b)) : Xi prog 94 [qV a, qV b] h (qV (a / b)) := by
  obtain ⟨i1, i2⟩ := fits_inv (a := a) hb0 hb
  have hn : b.num ≠ 0 := fun hc => hb0 (Rat.num_eq_zero.1 hc)
  have f1 : ∀ h : Zh, Xi prog 64 [Zc b.den, Zc b.num] h (qV b⁻¹) := fun h => by
    rw [← i1]; exact frac_call hn (by have := hb.2; omega) hb.1
  have f2 : ∀ h : Zh, Xi prog 72 [qV a, qV b⁻¹] h (qV (a / b)) := fun h => times_call ha i2 hab
  obtain ⟨q, hq⟩ : ∃ q, a / b = q := ⟨_, rfl⟩
  rw [hq] at f2 ⊢
  obtain ⟨H, hH⟩ : ∃ H, H = h ++ [fC a.num a.den] ++ [fC b.num b.den] ++ [z0] := ⟨_, rfl⟩
  have c2 : H[h.length]? = some (fC a.num a.den) := by rw [hH]; exact b3_0 ..
  have c3 : H[h.length + 1]? = some (fC b.num b.den) := by rw [hH]; exact b3_1 ..
  have c4 : H[h.length + 2]? = some z0 := by rw [hH]; exact b3_2 ..
  have hE : Ext (fun _ => False) h H := by rw [hH]; exact e3 ..
  refine ACall.forget (low_frV _ _) ?_
  refine s94_callW (by simp) ?_
  simp only [s94]
  refine Ze fun N5 hN5 => ?_
  simp (maxSteps := 2000000) only [↓Za, ↓Zb, ↓Zd, vup, cond_true, cond_false, aop, Zg, Zr, ev, sput, Zf, Nat.reduceBEq, Nat.reduceAdd, tyf, qV, frV, boxF, Xg, Yp, List.length_append, List.length_singleton, Nat.add_assoc]
  rw [← hH]
  refine hN5 [(2, .pointer (some ⟨h.length, 0, none⟩)), (3, .pointer (some ⟨h.length + 1, 0, none⟩)), (4, .pointer (some ⟨h.length + 2, 0, none⟩))] _ _ ?_ (by simp (maxSteps := 2000000) only [vup, cond_true, cond_false, Nat.reduceBEq])
  clear hN5
  try clear N5
  refine Zi ?_
  simp only [q94_1]
  refine aw_cut fun N hN => ?_
  refine Wc [(5, 1), (6, 1)] (by kernel_rfl) (by kernel_rfl) (by kernel_rfl) (by kernel_rfl) ?_
  simp (maxSteps := 2000000) only [↓Yz, ↓vdn, vup, List.map_cons, List.map_nil, cond_true, cond_false, aop, Zg, ev, sput, Zf, Nat.reduceBEq, Nat.reduceAdd, fA0, fA1, Xe c2, Vk c3, Vr c3, Yn, List.nil_append, List.append_nil]
  refine ⟨_, _, f1 _, rfl, ?_⟩
  refine ⟨_, _, f2 _, rfl, ?_⟩
  simp (maxSteps := 2000000) only [qV, frV, Xk c4 rfl]
  refine hN _ _ ?_
  simp (maxSteps := 2000000) only [↓Zz, vup, cond_true, cond_false, Nat.reduceBEq, Zs, Wd, tup, Xe (Xt (Yc c4) _)]
  exact ⟨rfl, hE.set_ge (by omega) _⟩

theorem s62_callW [Tabs Try.prog] {args : List Value} {h : Zh} {Q : Value → Zh → Prop} (hsz : args.length ≤ 10) (hk : AWS Try.prog 10 s62 (Zs Try.prog [.tmp 4] Q) (Zr 0 args) h) : ACall Try.prog 62 args h Q :=
  Ys Try.func62 rfl (enters_of Try.func62 (by kernel_rfl) rfl) rfl rfl (by decide) s62_strip s62_ok hsz hk
theorem less_call [Tabs prog] {h : Zh} {a b : Rat} {x y : Int} {N : Nat} (ha : Rp N x a) (hb : Rp N y b) (hx : x.natAbs + y.natAbs < 9223372036854775808) (hN : N < 9223372036854775808) : Xi prog 62 [qV a, qV b] h (.bool (decide (a < b))) := by
  have p := plus_call (h := h ++ [fC a.num a.den] ++ [fC b.num b.den]) (k := -1) ha hb (by omega) hN
  have e1 : decide ((a + ((-1 : Int) : Rat) * b).num < 0) = decide (a < b) := by
    have hpl := ha.plus hb (-1)
    have h0 := hpl.num
    have h1 : 0 < N / (a + ((-1 : Int) : Rat) * b).den := Nat.div_pos hpl.den_le (Rat.den_pos _)
    rw [decide_eq_decide, ha.lt hb]
    generalize (a + ((-1 : Int) : Rat) * b).num = u at *
    generalize N / (a + ((-1 : Int) : Rat) * b).den = t at *
    constructor
    · intro hu
      have : u * (t : Int) < 0 := Int.mul_neg_of_neg_of_pos hu (by omega)
      omega
    · intro hu
      rcases Int.lt_or_le u 0 with h2 | h2
      · exact h2
      · have : 0 ≤ u * (t : Int) := Int.mul_nonneg h2 (by omega)
        omega
  obtain ⟨q, hq⟩ : ∃ q, a + ((-1 : Int) : Rat) * b = q := ⟨_, rfl⟩
  rw [hq] at p e1
  refine ACall.forget (Low.bool _) ?_
  refine s62_callW (by simp) ?_
  refine Zi ?_
  simp (maxSteps := 2000000) only [s62, ↓Za, ↓Zu, ↓Zz, ↓Zb, ↓Zd, vup, List.map_cons, List.map_nil, cond_true, cond_false, aop, Zg, Zr, ev, sput, Zf, Yb, Ye, Nat.reduceBEq, Nat.reduceAdd, Zs, Wd, tup, tyf, qV, frV, boxF, Yp, List.length_append, List.length_singleton, Xe (b2_0 ..), Xe (b2_1 ..), Yn, List.nil_append, List.append_nil]
  refine p.mono ?_
  rintro _ _ ⟨rfl, rfl⟩
  simp (maxSteps := 2000000) only [vup, qV, frV, fld0, e1]
  exact e2 ..

theorem s70_callW [Tabs Try.prog] {args : List Value} {h : Zh} {Q : Value → Zh → Prop} (hsz : args.length ≤ 5) (hk : AWS Try.prog 5 s70 (Zs Try.prog [.cell 2 26] Q) (Zr 0 args) h) : ACall Try.prog 70 args h Q :=
  Ys Try.func70 rfl (enters_of Try.func70 (by kernel_rfl) rfl) rfl rfl (by decide) s70_strip s70_ok hsz hk
theorem whole_call [Tabs prog] {h : Zh} {k : Int} : Xi prog 70 [Zc k] h (qV (k : Rat)) := by
  refine ACall.forget (low_frV _ _) ?_
  refine s70_callW (by simp) ?_
  refine Zi ?_
  simp (maxSteps := 2000000) only [s70, ↓Za, ↓Zu, ↓Zz, ↓Zb, ↓Zd, vup, List.map_cons, List.map_nil, cond_true, cond_false, aop, Zg, Zr, ev, sput, Zf, Nat.reduceBEq, Zs, Wd, tup, tyf, Xg, Yp, bldF, Xk (Zy h z0) rfl, Xe (Xt (h := h ++ [z0]) (b := h.length) (by simp) _)]
  exact ⟨rfl, (Ext.app _ _ _).set_ge (Nat.le_refl _) _⟩
end Go.Proofs.Try.Am

namespace Bq
/-- The common multiple, what two have in common, the product. -/
def lcmL (l : List Nat) : Nat := l.foldl Nat.lcm 1
theorem foldl_lcm_dvd {l : List Nat} {m : Nat} : m ∣ l.foldl Nat.lcm m := by
  induction l generalizing m with
  | nil => exact Nat.dvd_refl _
  | cons d l ih => exact Nat.dvd_trans (Nat.dvd_lcm_left m d) ih
theorem foldl_lcm_mem {l : List Nat} {m d : Nat} (h : d ∈ l) : d ∣ l.foldl Nat.lcm m := by
  induction l generalizing m with
  | nil => cases h
  | cons e l ih =>
    rcases List.mem_cons.1 h with rfl | h
    · exact Nat.dvd_trans (Nat.dvd_lcm_right m d) foldl_lcm_dvd
    · exact ih h
end Bq

namespace Bq

/-- A valid fraction from 0 on, as it stands. -/
def okP (p : Int × Int) : Bool := decide (1 ≤ p.2) && decide (p.2 ≤ 10000000000) && decide (0 ≤ p.1) && (Nat.gcd p.1.natAbs p.2.natAbs == 1)
def mulTo : List (Int × Int) → Nat → Nat
  | [], m => m
  | p :: ps, m => if okP p = true ∧ Nat.lcm m p.2.natAbs ≤ 10000000000 then mulTo ps (Nat.lcm m p.2.natAbs) else 0
/-- The common multiple; 0: there is none. -/
def mult (ps : List (Int × Int)) : Nat := mulTo ps 1
/-- A fraction as it stands, as a number; a number as it stands. -/
def toQ (p : Int × Int) : Rat := Rat.divInt p.1 p.2
def ofQ (q : Rat) : Int × Int := (q.num, (q.den : Int))

theorem ofQ_toQ {p : Int × Int} (h1 : 1 ≤ p.2) (h2 : Nat.gcd p.1.natAbs p.2.natAbs = 1) : ofQ (toQ p) = p := by
  obtain ⟨x, y⟩ := p
  simp only at h1 h2
  obtain ⟨n, rfl⟩ : ∃ n : Nat, y = n := ⟨y.toNat, by omega⟩
  have hn : n ≠ 0 := by omega
  have e : toQ (x, (n : Int)) = ⟨x, n, hn, by simpa using h2⟩ := by
    rw [toQ, Rat.divInt_ofNat]
    exact (Rat.mk_eq_mkRat x n hn _).symm
  rw [e]; rfl
theorem okP_ofQ {p : Int × Int} (h : okP p = true) : ofQ (toQ p) = p := by
  simp only [okP, Bool.and_eq_true, decide_eq_true_eq, beq_iff_eq] at h
  exact ofQ_toQ h.1.1.1 h.2
theorem mulTo_spec : ∀ (ps : List (Int × Int)) (m : Nat), mulTo ps m ≠ 0 → m ≤ 10000000000 → (∀ p ∈ ps, okP p = true) ∧ mulTo ps m = (ps.map fun p => p.2.natAbs).foldl Nat.lcm m ∧ mulTo ps m ≤ 10000000000
  | [], m, h, hm => ⟨(fun _ h => by cases h), rfl, hm⟩
  | p :: ps, m, h, hm => by
    rw [mulTo] at h ⊢
    split at h
    · rename_i hc
      rw [if_pos hc]
      obtain ⟨h1, h2, h3⟩ := mulTo_spec ps _ h hc.2
      refine ⟨fun q hq => ?_, h2, h3⟩
      rcases List.mem_cons.1 hq with rfl | hq
      · exact hc.1
      · exact h1 q hq
    · exact absurd rfl h
theorem mult_spec {ps : List (Int × Int)} (h : mult ps ≠ 0) : (∀ p ∈ ps, okP p = true) ∧ mult ps = lcmL (ps.map fun p => p.2.natAbs) ∧ mult ps ≤ 10000000000 := mulTo_spec ps 1 h (by decide)
theorem mult_dvd {ps : List (Int × Int)} (h : mult ps ≠ 0) {p : Int × Int} (hp : p ∈ ps) : (toQ p).den ∣ mult ps := by
  obtain ⟨h1, h2, h3⟩ := mult_spec h
  have e := okP_ofQ (h1 p hp)
  have e2 : (toQ p).den = p.2.natAbs := by
    have := congrArg Prod.snd e
    simp only [ofQ] at this
    rw [← this]; rfl
  rw [h2, e2]
  exact foldl_lcm_mem (List.mem_map.2 ⟨p, hp, rfl⟩)
theorem okP_pos {p : Int × Int} (h : okP p = true) : 0 ≤ toQ p := by
  simp only [okP, Bool.and_eq_true, decide_eq_true_eq] at h
  exact Rat.divInt_nonneg h.1.2 (by omega)
theorem okP_le {p : Int × Int} (h : okP p = true) : toQ p ≤ 1 ↔ p.1 ≤ p.2 := by
  have hp := okP_ofQ h
  have h1 : (toQ p).num = p.1 := congrArg Prod.fst hp
  have h2 : ((toQ p).den : Int) = p.2 := congrArg Prod.snd hp
  rw [Rat.le_iff, h1, h2]
  simp

/-- The sum of the first ones. -/
def Zv (g : Nat → Rat) : Nat → Rat
  | 0 => 0
  | k + 1 => Zv g k + g k
section
variable {g f : Nat → Rat}
theorem sumTo_nonneg {n : Nat} (h : ∀ i, i < n → 0 ≤ g i) : 0 ≤ Zv g n := by
  induction n with
  | zero => exact Rat.le_refl
  | succ n ih => exact Rat.add_nonneg (ih fun i hi => h i (by omega)) (h n (by omega))
theorem sumTo_mono {k n : Nat} (hk : k ≤ n) (h : ∀ i, i < n → 0 ≤ g i) : Zv g k ≤ Zv g n := by
  induction n with
  | zero => rw [Nat.le_zero.1 hk]; exact Rat.le_refl
  | succ n ih =>
    rcases Nat.lt_or_ge n k with h1 | h1
    · rw [show k = n + 1 by omega]; exact Rat.le_refl
    · have h2 := ih h1 fun i hi => h i (by omega)
      have h3 := h n (by omega)
      rw [Zv]; grind
theorem sumTo_one {k n : Nat} (hk : k < n) (h : ∀ i, i < n → 0 ≤ g i) : g k ≤ Zv g n := by
  have h1 := sumTo_mono (show k + 1 ≤ n by omega) h
  have h2 := sumTo_nonneg (n := k) fun i hi => h i (by omega)
  rw [Zv] at h1; grind
theorem sumTo_le {n : Nat} (h : ∀ i, i < n → f i ≤ g i) : Zv f n ≤ Zv g n := by
  induction n with
  | zero => exact Rat.le_refl
  | succ n ih =>
    have h1 := ih fun i hi => h i (by omega)
    have h2 := h n (by omega)
    rw [Zv, Zv]; grind
theorem Zw {n : Nat} (h : ∀ i, i < n → f i = g i) : Zv f n = Zv g n := by
  induction n with
  | zero => rfl
  | succ n ih => rw [Zv, Zv, ih fun i hi => h i (by omega), h n (by omega)]
theorem sumTo_add (f g : Nat → Rat) (n : Nat) : Zv (fun i => f i + g i) n = Zv f n + Zv g n := by
  induction n with
  | zero => exact (Rat.zero_add _).symm
  | succ n ih => simp only [Zv, ih]; grind
theorem Vg (c : Rat) (g : Nat → Rat) (n : Nat) : Zv (fun i => c * g i) n = c * Zv g n := by
  induction n with
  | zero => exact (Rat.mul_zero _).symm
  | succ n ih => simp only [Zv, ih]; grind
theorem sumTo_den {N : Nat} {n : Nat} (hN : 0 < N) (h : ∀ i, i < n → (g i).den ∣ N) : (Zv g n).den ∣ N := by
  induction n with
  | zero => exact Nat.one_dvd _
  | succ n ih =>
    have h1 := ih fun i hi => h i (by omega)
    have h2 := h n (by omega)
    rw [Zv]
    have e := Rp.up' (Rp.own (Zv g n)) h1 hN
    have e2 := Rp.up' (Rp.own (g n)) h2 hN
    have := e.plus e2 1
    have h3 := this.dvd
    have e3 : Zv g n + ((1 : Int) : Rat) * g n = Zv g n + g n := by
      rw [show (((1 : Int)) : Rat) = 1 from rfl, Rat.one_mul]
    rwa [e3] at h3
end
theorem rp_of {N : Nat} {q : Rat} (hN : 0 < N) (h : q.den ∣ N) : ∃ x, Rp N x q := ⟨_, Rp.up' (Rp.own q) h hN⟩
/-- Parts of what is bounded. -/
theorem Rp.bound {N C : Nat} {x : Int} {q : Rat} (h : Rp N x q) (h1 : -(C : Rat) ≤ q) (h2 : q ≤ C) : x.natAbs ≤ C * N := by
  have hN : (0 : Rat) ≤ N := Rat.natCast_nonneg
  have e := h.2
  have u1 := Rat.mul_le_mul_of_nonneg_right h2 hN
  have u2 := Rat.mul_le_mul_of_nonneg_right h1 hN
  rw [e] at u1 u2
  have v1 : x ≤ ((C * N : Nat) : Int) := by
    rw [← Rat.intCast_le_intCast]; push_cast; exact u1
  have v2 : -((C * N : Nat) : Int) ≤ x := by
    rw [← Rat.intCast_le_intCast]; push_cast
    rw [Rat.neg_mul] at u2; exact u2
  omega

end Bq

namespace Bq

theorem toQ_ofQ (q : Rat) : toQ (ofQ q) = q := Rat.num_divInt_den q
/-- Lists of fractions in least terms. -/
def Vld (ps : List (Int × Int)) : Prop := ∀ p ∈ ps, ofQ (toQ p) = p
/-- The w-th one as a number. -/
def fq (ps : List (Int × Int)) (w : Nat) : Rat := toQ (ps.getD w (0, 0))
theorem getD_mem {ps : List (Int × Int)} {k : Nat} (hk : k < ps.length) : ps.getD k (0, 0) ∈ ps := by
  rw [List.getD, List.getElem?_eq_getElem hk]; exact List.getElem_mem hk
/-- Valid chances. -/
structure Chn (ps : List (Int × Int)) : Prop where
  m : mult ps ≠ 0
  le : ∀ p ∈ ps, p.1 ≤ p.2
theorem Chn.ok {ps : List (Int × Int)} (c : Chn ps) {p : Int × Int} (hp : p ∈ ps) : okP p = true := (mult_spec c.m).1 p hp
theorem Chn.vld {ps : List (Int × Int)} (c : Chn ps) : Vld ps := fun p hp => okP_ofQ (c.ok hp)
/-- A fraction's parts. -/
theorem Chn.rp {ps : List (Int × Int)} (c : Chn ps) {p : Int × Int} (hp : p ∈ ps) : Rp (mult ps) ((mult ps : Int) / p.2 * p.1) (toQ p) ∧ 0 ≤ (mult ps : Int) / p.2 * p.1 ∧ (mult ps : Int) / p.2 * p.1 ≤ mult ps ∧ 1 ≤ p.2 ∧ 0 ≤ p.1 ∧ (p.2 ∣ (mult ps : Int)) := by
  have hok := c.ok hp
  have hd := mult_dvd c.m hp
  have e := okP_ofQ hok
  have e1 : (toQ p).num = p.1 := congrArg Prod.fst e
  have e2 : ((toQ p).den : Int) = p.2 := congrArg Prod.snd e
  have hle := c.le p hp
  simp only [okP, Bool.and_eq_true, decide_eq_true_eq] at hok
  have r := Rp.up' (Rp.own (toQ p)) hd (Nat.pos_of_ne_zero c.m)
  have e3 : (mult ps : Int) / p.2 * p.1 = (toQ p).num * ((mult ps / (toQ p).den : Nat) : Int) := by
    rw [e1, Int.natCast_ediv, e2, Int.mul_comm]
  rw [e3]
  have hn : 0 ≤ (toQ p).num * ((mult ps / (toQ p).den : Nat) : Int) := Int.mul_nonneg (by omega) (Int.natCast_nonneg _)
  refine ⟨r, hn, ?_, by omega, by omega, ?_⟩
  · have hb := r.bound (C := 1) (by have := okP_pos (c.ok hp); have h2 : (0 : Rat) ≤ ((1 : Nat) : Rat) := Rat.natCast_nonneg; have : -((1 : Nat) : Rat) ≤ 0 := by decide
                                    exact Rat.le_trans this ‹0 ≤ toQ p›) ((okP_le (c.ok hp)).2 hle)
    omega
  · rw [← e2]; exact Int.natCast_dvd_natCast.2 hd
theorem Chn.unit {ps : List (Int × Int)} (c : Chn ps) {k : Nat} (hk : k < ps.length) : 0 ≤ fq ps k ∧ fq ps k ≤ 1 ∧ (fq ps k).den ∣ mult ps :=
  ⟨okP_pos (c.ok (getD_mem hk)), (okP_le (c.ok (getD_mem hk))).2 (c.le _ (getD_mem hk)), mult_dvd c.m (getD_mem hk)⟩

structure Fc (ps : List (Int × Int)) : Prop where
  len : 2 ≤ ps.length ∧ ps.length ≤ 5
  c : Chn ps
  den : ∀ p ∈ ps, p.2 ≤ 60
  sum : Zv (fq ps) ps.length = 1
  small : mult ps ≤ 27885
theorem Fc.unit {ps : List (Int × Int)} (c : Fc ps) {k : Nat} (hk : k < ps.length) : 0 ≤ fq ps k ∧ fq ps k ≤ 1 := ⟨(c.c.unit hk).1, (c.c.unit hk).2.1⟩
end Bq

namespace Go.Proofs.Try.Am
open Go.Am Bq
set_option maxRecDepth 100000
set_option maxHeartbeats 1000000

theorem s68_callW [Tabs Try.prog] {args : List Value} {h : Zh} {Q : Value → Zh → Prop} (hsz : args.length ≤ 31) (hk : AWS Try.prog 31 s68 (Zs Try.prog [.cell 4 26] Q) (Zr 0 args) h) : ACall Try.prog 68 args h Q :=
  Ys Try.func68 rfl (enters_of Try.func68 (by kernel_rfl) rfl) rfl rfl (by decide) s68_strip s68_ok hsz hk
theorem rfrac_call [Tabs prog] {h : Zh} {a b : Int} (hb : b ≠ 0) (ha : a.natAbs < 9223372036854775808) (hb2 : b.natAbs < 9223372036854775808) : Xi prog 68 [Zc a, Zc b] h (qV (Rat.divInt a b)) := by
  have c0 := Zy h z0
  have hE0 : Ext (fun _ => False) h (h ++ [z0]) := Ext.app _ _ _
  obtain ⟨x, n, hn, hx, hn2, hq, hneg, hpos⟩ : ∃ (x : Int) (n : Nat), 0 < n ∧ x.natAbs < 9223372036854775808 ∧ n < 9223372036854775808 ∧ Rat.divInt x n = Rat.divInt a b ∧ (b < 0 → subV .i64 0 a = x ∧ subV .i64 0 b = n) ∧ (¬ b < 0 → a = x ∧ b = n) := by
    by_cases h0 : b < 0
    · refine ⟨-a, b.natAbs, by omega, by omega, hb2, ?_, fun _ => ⟨?_, ?_⟩, fun h => absurd h0 h⟩
      · rw [show ((b.natAbs : Nat) : Int) = -b by omega]; exact Rat.neg_divInt_neg a b
      · rw [subV_id (by omega) (by omega)]; omega
      · rw [subV_id (by omega) (by omega)]; omega
    · exact ⟨a, b.natAbs, by omega, ha, hb2, by rw [show ((b.natAbs : Nat) : Int) = b by omega], fun h => absurd h h0, fun _ => ⟨rfl, by omega⟩⟩
  refine ACall.forget (low_frV _ _) ?_
  refine s68_callW (by simp) ?_
  simp only [s68]
  refine Ze fun N1 hN1 => ?_
  simp (maxSteps := 2000000) only [↓Za, ↓Zb, ↓Zd, vup, cond_false, aop, Zg, Zr, sput, Zf, Nat.reduceBEq, Nat.reduceAdd, tyf, Xg, Yp]
  refine hN1 [(0, Zc a), (1, Zc b), (4, .pointer (some ⟨h.length, 0, none⟩))] _ _ ?_ (by simp (maxSteps := 2000000) only [vup, cond_true, cond_false, Nat.reduceBEq])
  clear hN1
  try clear N1
  refine Ze fun M hM => ?_
  have key : ∀ e, ELe e [(0, Zc x), (1, Zc (n : Int)), (4, .pointer (some ⟨h.length, 0, none⟩))] → M e (h ++ [z0]) := by
    intro e he
    refine hM [(0, Zc x), (1, Zc (n : Int)), (4, .pointer (some ⟨h.length, 0, none⟩))] _ _ ?_ he
    refine Ze fun N2 hN2 => ?_
    simp (maxSteps := 2000000) only [↓Za, ↓Zb, ↓Zd, vup, List.map_cons, List.map_nil, cond_true, cond_false, aop, Zg, ev, sput, Zf, unK, Zj, Nat.reduceBEq, mmK, if_true, max_abs hx]
    refine hN2 [(0, Zc x), (1, Zc (n : Int)), (4, .pointer (some ⟨h.length, 0, none⟩)), (5, Zc (x.natAbs : Nat)), (6, Zc (n : Int))] _ _ ?_ (by simp (maxSteps := 2000000) only [vup, cond_true, cond_false, Nat.reduceBEq])
    clear hN2
    try clear N2
    refine Zk fun M2 hM2 => ?_
    refine Zl ?_
    refine Zn fun Q hQ => ?_
    refine Yk (γ := Nat × Nat) (fun s => Nat.gcd s.1 s.2 = Nat.gcd x.natAbs n ∧ s.1 < 9223372036854775808 ∧ s.2 < 9223372036854775808)
      (fun s => ([(0, Zc x), (1, Zc (n : Int)), (4, .pointer (some ⟨h.length, 0, none⟩)), (5, Zc (s.1 : Nat)), (6, Zc (s.2 : Nat))], h ++ [z0])) (fun s => s.2) (x.natAbs, n) ⟨rfl, hx, hn2⟩ (by simp (maxSteps := 2000000) only [vup, cond_true, cond_false, Nat.reduceBEq]) rfl ?_
    rintro ⟨u, w⟩ ⟨huw, hu, hw⟩
    simp only at huw hu hw
    refine Zn fun Q2 hQ2 => ?_
    simp only [l68_0]
    by_cases hw0 : w = 0
    · subst hw0
      have e0 : (((0 : Nat) : Int) != 0) = false := rfl
      rw [Nat.gcd_zero_right] at huw
      subst huw
      refine Ze fun N3 hN3 => ?_
      simp (maxSteps := 2000000) only [↓Za, ↓Zu, ↓Yq, ↓Zb, ↓Zd, ↓vdn, vup, cond_true, cond_false, aop, Zg, ev, sput, Zf, Yb, Ye, Nat.reduceBEq, e0]
      refine hQ2 _ _ _ (hQ _ _ _ ?_)
      simp (maxSteps := 2000000) only [Zg, Zm, Zs, if_true]
      refine hM2 [(0, Zc x), (1, Zc (n : Int)), (4, .pointer (some ⟨h.length, 0, none⟩)), (5, Zc (Nat.gcd x.natAbs n : Nat))] _ _ ?_ (by simp (maxSteps := 2000000) only [vup, cond_true, cond_false, Nat.reduceBEq])
      clear hM2
      try clear M2
      have hg : ¬ ((Nat.gcd x.natAbs n : Nat) : Int) = 0 := by have := Nat.gcd_pos_of_pos_right x.natAbs hn; omega
      have q1 : quoV .i64 x ((Nat.gcd x.natAbs n : Nat) : Int) = (Rat.divInt a b).num := by rw [quo_dvd hx (gcd_dvd_int _ _), (terms hn).1, hq]
      have q2 : quoV .i64 (n : Int) ((Nat.gcd x.natAbs n : Nat) : Int) = (Rat.divInt a b).den := by
        rw [quo_dvd (by omega) (Int.natCast_dvd_natCast.2 (Nat.gcd_dvd_right _ _)), ← hq, ← (terms hn).2, Int.natCast_ediv]
      refine Zi ?_
      simp only [q68_6]
      refine aw_cut fun N hN => ?_
      refine Wc [] (by kernel_rfl) (by kernel_rfl) (by kernel_rfl) (by kernel_rfl) ?_
      simp (maxSteps := 2000000) only [↓Yz, ↓vdn, vup, List.map_cons, List.map_nil, cond_true, cond_false, aop, Zg, ev, sput, Zf, Yb, Ye, Nat.reduceBEq, ne_eq, hg, not_false_eq_true, q1, q2, bldF, Xk c0 rfl]
      refine hN _ _ ?_
      simp (maxSteps := 2000000) only [↓Zz, vup, cond_true, cond_false, Nat.reduceBEq, Zs, Wd, tup, Xe (Xt (h := h ++ [Blk.cells [.int .i64 0, .int .i64 0] 26 false]) (b := h.length) (by simp) _)]
      exact ⟨rfl, hE0.set_ge (Nat.le_refl _) _⟩
    · have e0 : (((w : Nat) : Int) != 0) = true := by
        have : ((w : Nat) : Int) ≠ 0 := by omega
        simpa using this
      have e1 : ¬ ((w : Nat) : Int) = 0 := by omega
      have etm : ((u : Nat) : Int).tmod ((w : Nat) : Int) = ((u % w : Nat) : Int) := by rw [Int.tmod_eq_emod_of_nonneg (by omega)]; rfl
      have hlt := Nat.mod_lt u (show w > 0 by omega)
      refine Ze fun N4 hN4 => ?_
      simp (maxSteps := 2000000) only [↓Za, ↓Zo, ↓Zu, ↓Zb, ↓Zd, ↓vdn, vup, cond_true, cond_false, aop, Zg, ev, sput, Zf, Yb, Ye, Nat.reduceBEq, e0]
      refine hN4 [(0, Zc x), (1, Zc (n : Int)), (4, .pointer (some ⟨h.length, 0, none⟩)), (5, Zc (u : Nat)), (6, Zc (w : Nat))] _ _ ?_ (by simp (maxSteps := 2000000) only [vup, cond_true, cond_false, Nat.reduceBEq])
      clear hN4
      try clear N4
      refine Zi ?_
      simp only [q68_5, aw_block]
      refine Wc [] (by kernel_rfl) (by kernel_rfl) (by kernel_rfl) (by kernel_rfl) ?_
      simp (maxSteps := 2000000) only [↓Yz, ↓vdn, vup, cond_true, cond_false, aop, Zm, ev, sput, Zf, Yb, Ye, Nat.reduceBEq, ne_eq, e1, not_false_eq_true, etm]
      refine hQ2 _ _ _ ⟨(w, u % w), ⟨?_, hw, by simp only; omega⟩, hlt, by simp (maxSteps := 2000000) only [vup, cond_true, cond_false, Nat.reduceBEq], rfl⟩
      simp only
      rw [← huw, Nat.gcd_comm u w, Nat.gcd_rec w u, Nat.gcd_comm]
  by_cases hb0 : b < 0
  · simp (maxSteps := 2000000) only [↓Za, ↓Zu, ↓Zb, ↓Zd, ↓vdn, vup, cond_true, cond_false, aop, Zg, ev, sput, Zf, Yb, Ye, unK, Nat.reduceBEq, hb0, (hneg hb0).1, (hneg hb0).2]
    exact key _ (by simp (maxSteps := 2000000) only [vup, cond_true, cond_false, Nat.reduceBEq])
  · simp (maxSteps := 2000000) only [↓Za, ↓Zo, ↓Zu, ↓Zb, ↓Zd, ↓vdn, vup, cond_true, cond_false, aop, Zg, ev, sput, Zf, Yb, Ye, Nat.reduceBEq, hb0]
    exact key _ (by simp (maxSteps := 2000000) only [vup, cond_true, cond_false, Nat.reduceBEq, (hpos hb0).1, (hpos hb0).2])

theorem s66_callW [Tabs Try.prog] {args : List Value} {h : Zh} {Q : Value → Zh → Prop} (hsz : args.length ≤ 5) (hk : AWS Try.prog 5 s66 (Zs Try.prog [.cell 2 26] Q) (Zr 0 args) h) : ACall Try.prog 66 args h Q :=
  Ys Try.func66 rfl (enters_of Try.func66 (by kernel_rfl) rfl) rfl rfl (by decide) s66_strip s66_ok hsz hk
theorem Wq [Tabs prog] {h : Zh} {k : Int} : Xi prog 66 [Zc k] h (qV (k : Rat)) := by
  refine ACall.forget (low_frV _ _) ?_
  refine s66_callW (by simp) ?_
  refine Zi ?_
  simp (maxSteps := 2000000) only [s66, ↓Za, ↓Zu, ↓Zz, ↓Zb, ↓Zd, vup, List.map_cons, List.map_nil, cond_true, cond_false, aop, Zg, Zr, ev, sput, Zf, Nat.reduceBEq, Zs, Wd, tup, tyf, Xg, Yp, bldF, Xk (Zy h z0) rfl, Xe (Xt (h := h ++ [z0]) (b := h.length) (by simp) _)]
  exact ⟨rfl, (Ext.app _ _ _).set_ge (Nat.le_refl _) _⟩

theorem add_frac (a b : Rat) : Rat.divInt (a.num * b.den + b.num * a.den) ((a.den * b.den : Nat) : Int) = a + b := by
  rw [Rat.divInt_ofNat, ← Rat.add_def']
theorem mul_frac (a b : Rat) : Rat.divInt (a.num * b.num) ((a.den * b.den : Nat) : Int) = a * b := by
  rw [Rat.divInt_ofNat, ← Rat.mul_def']
theorem div_frac {a b : Rat} (hb : b ≠ 0) : Rat.divInt (a.num * b.den) ((a.den : Int) * b.num) = a / b := by
  have hn : b.num ≠ 0 := fun hc => hb (Rat.num_eq_zero.1 hc)
  refine divInt_of_mul (Int.mul_ne_zero (by have := a.den_nz; omega) hn) ?_
  have h1 := mul_den a
  have h2 := mul_den b
  have h3 := Rat.div_mul_cancel (a := a) hb
  push_cast
  rw [← h1, ← h2]
  generalize hc : a / b = c at h3
  grind

theorem s67_callW [Tabs Try.prog] {args : List Value} {h : Zh} {Q : Value → Zh → Prop} (hsz : args.length ≤ 22) (hk : AWS Try.prog 22 s67 (Zs Try.prog [.cell 4 26] Q) (Zr 0 args) h) : ACall Try.prog 67 args h Q :=
  Ys Try.func67 rfl (enters_of Try.func67 (by kernel_rfl) rfl) rfl rfl (by decide) s67_strip s67_ok hsz hk
theorem rplus_call [Tabs prog] {h : Zh} {a b : Rat} (h1 : (a.num * b.den).natAbs + (b.num * a.den).natAbs < 9223372036854775808) (h2 : a.den * b.den < 9223372036854775808) : Xi prog 67 [qV a, qV b] h (qV (a + b)) := by
  obtain ⟨H, hH⟩ : ∃ H, H = h ++ [fC a.num a.den] ++ [fC b.num b.den] ++ [z0] := ⟨_, rfl⟩
  have c2 : H[h.length]? = some (fC a.num a.den) := by rw [hH]; exact b3_0 ..
  have c3 : H[h.length + 1]? = some (fC b.num b.den) := by rw [hH]; exact b3_1 ..
  have c4 : H[h.length + 2]? = some z0 := by rw [hH]; exact b3_2 ..
  have hE : Ext (fun _ => False) h H := by rw [hH]; exact e3 ..
  have m1 := mulN (a := a.num) (b := b.den) (by omega)
  have m2 := mulN (a := b.num) (b := a.den) (by omega)
  have m3 := addN (a := a.num * b.den) (b := b.num * a.den) h1
  have m4 : mulV .i64 (a.den : Int) (b.den : Int) = ((a.den * b.den : Nat) : Int) := by rw [mulN (by rw [← Int.natCast_mul]; omega), Int.natCast_mul]
  have hd := Nat.mul_pos a.den_pos b.den_pos
  have f := rfrac_call (h := H) (a := a.num * b.den + b.num * a.den) (b := ((a.den * b.den : Nat) : Int)) (by omega) (by omega) (by omega)
  rw [add_frac] at f
  obtain ⟨q, hq⟩ : ∃ q, a + b = q := ⟨_, rfl⟩
  rw [hq] at f ⊢
  refine ACall.forget (low_frV _ _) ?_
  refine s67_callW (by simp) ?_
  simp only [s67]
  refine Ze fun N5 hN5 => ?_
  simp (maxSteps := 2000000) only [↓Za, ↓Zb, ↓Zd, vup, cond_true, cond_false, aop, Zg, Zr, ev, sput, Zf, Nat.reduceBEq, Nat.reduceAdd, tyf, qV, frV, boxF, Xg, Yp, List.length_append, List.length_singleton, Nat.add_assoc]
  rw [← hH]
  refine hN5 [(2, .pointer (some ⟨h.length, 0, none⟩)), (3, .pointer (some ⟨h.length + 1, 0, none⟩)), (4, .pointer (some ⟨h.length + 2, 0, none⟩))] _ _ ?_ (by simp (maxSteps := 2000000) only [vup, cond_true, cond_false, Nat.reduceBEq])
  clear hN5
  try clear N5
  refine Zi ?_
  simp (maxSteps := 2000000) only [↓Za, ↓Zu, ↓Zz, ↓Zb, ↓Zd, vup, List.map_cons, List.map_nil, cond_true, cond_false, aop, Zg, ev, sput, Zf, Yb, Ye, Nat.reduceBEq, Zs, Wd, tup, tyf, fA0, fA1, Vk c2, Vr c2, Vk c3, Vr c3, m1, m2, m3, m4, Yn, List.nil_append, List.append_nil]
  refine f.mono ?_
  rintro _ _ ⟨rfl, rfl⟩
  simp (maxSteps := 2000000) only [vup, qV, frV, Xk c4 rfl, Xe (Xt (Yc c4) _)]
  exact hE.set_ge (by omega) _

theorem s97_callW [Tabs Try.prog] {args : List Value} {h : Zh} {Q : Value → Zh → Prop} (hsz : args.length ≤ 16) (hk : AWS Try.prog 16 s97 (Zs Try.prog [.cell 4 26] Q) (Zr 0 args) h) : ACall Try.prog 97 args h Q :=
  Ys Try.func97 rfl (enters_of Try.func97 (by kernel_rfl) rfl) rfl rfl (by decide) s97_strip s97_ok hsz hk
theorem rtimes_call [Tabs prog] {h : Zh} {a b : Rat} (h1 : (a.num * b.num).natAbs < 9223372036854775808) (h2 : a.den * b.den < 9223372036854775808) : Xi prog 97 [qV a, qV b] h (qV (a * b)) := by
  obtain ⟨H, hH⟩ : ∃ H, H = h ++ [fC a.num a.den] ++ [fC b.num b.den] ++ [z0] := ⟨_, rfl⟩
  have c2 : H[h.length]? = some (fC a.num a.den) := by rw [hH]; exact b3_0 ..
  have c3 : H[h.length + 1]? = some (fC b.num b.den) := by rw [hH]; exact b3_1 ..
  have c4 : H[h.length + 2]? = some z0 := by rw [hH]; exact b3_2 ..
  have hE : Ext (fun _ => False) h H := by rw [hH]; exact e3 ..
  have m1 := mulN h1
  have m4 : mulV .i64 (a.den : Int) (b.den : Int) = ((a.den * b.den : Nat) : Int) := by rw [mulN (by rw [← Int.natCast_mul]; omega), Int.natCast_mul]
  have hd := Nat.mul_pos a.den_pos b.den_pos
  have f := rfrac_call (h := H) (a := a.num * b.num) (b := ((a.den * b.den : Nat) : Int)) (by omega) (by omega) (by omega)
  rw [mul_frac] at f
  obtain ⟨q, hq⟩ : ∃ q, a * b = q := ⟨_, rfl⟩
  rw [hq] at f ⊢
  refine ACall.forget (low_frV _ _) ?_
  refine s97_callW (by simp) ?_
  simp only [s97]
  refine Ze fun N6 hN6 => ?_
  simp (maxSteps := 2000000) only [↓Za, ↓Zb, ↓Zd, vup, cond_true, cond_false, aop, Zg, Zr, ev, sput, Zf, Nat.reduceBEq, Nat.reduceAdd, tyf, qV, frV, boxF, Xg, Yp, List.length_append, List.length_singleton, Nat.add_assoc]
  rw [← hH]
  refine hN6 [(2, .pointer (some ⟨h.length, 0, none⟩)), (3, .pointer (some ⟨h.length + 1, 0, none⟩)), (4, .pointer (some ⟨h.length + 2, 0, none⟩))] _ _ ?_ (by simp (maxSteps := 2000000) only [vup, cond_true, cond_false, Nat.reduceBEq])
  clear hN6
  try clear N6
  refine Zi ?_
  simp (maxSteps := 2000000) only [↓Za, ↓Zu, ↓Zz, ↓Zb, ↓Zd, vup, List.map_cons, List.map_nil, cond_true, cond_false, aop, Zg, ev, sput, Zf, Yb, Ye, Nat.reduceBEq, Zs, Wd, tup, tyf, fA0, fA1, Vk c2, Vr c2, Vk c3, Vr c3, m1, m4, Yn, List.nil_append, List.append_nil]
  refine f.mono ?_
  rintro _ _ ⟨rfl, rfl⟩
  simp (maxSteps := 2000000) only [vup, qV, frV, Xk c4 rfl, Xe (Xt (Yc c4) _)]
  exact hE.set_ge (by omega) _

theorem s96_callW [Tabs Try.prog] {args : List Value} {h : Zh} {Q : Value → Zh → Prop} (hsz : args.length ≤ 16) (hk : AWS Try.prog 16 s96 (Zs Try.prog [.cell 4 26] Q) (Zr 0 args) h) : ACall Try.prog 96 args h Q :=
  Ys Try.func96 rfl (enters_of Try.func96 (by kernel_rfl) rfl) rfl rfl (by decide) s96_strip s96_ok hsz hk
theorem rover_call [Tabs prog] {h : Zh} {a b : Rat} (hb0 : b ≠ 0) (h1 : (a.num * b.den).natAbs < 9223372036854775808) (h2 : ((a.den : Int) * b.num).natAbs < 9223372036854775808) : Xi prog 96 [qV a, qV b] h (qV (a / b)) := by
  obtain ⟨H, hH⟩ : ∃ H, H = h ++ [fC a.num a.den] ++ [fC b.num b.den] ++ [z0] := ⟨_, rfl⟩
  have c2 : H[h.length]? = some (fC a.num a.den) := by rw [hH]; exact b3_0 ..
  have c3 : H[h.length + 1]? = some (fC b.num b.den) := by rw [hH]; exact b3_1 ..
  have c4 : H[h.length + 2]? = some z0 := by rw [hH]; exact b3_2 ..
  have hE : Ext (fun _ => False) h H := by rw [hH]; exact e3 ..
  have m1 := mulN h1
  have m4 := mulN h2
  have hn : b.num ≠ 0 := fun hc => hb0 (Rat.num_eq_zero.1 hc)
  have f := rfrac_call (h := H) (a := a.num * b.den) (b := (a.den : Int) * b.num) (Int.mul_ne_zero (by have := a.den_nz; omega) hn) h1 h2
  rw [div_frac hb0] at f
  obtain ⟨q, hq⟩ : ∃ q, a / b = q := ⟨_, rfl⟩
  rw [hq] at f ⊢
  refine ACall.forget (low_frV _ _) ?_
  refine s96_callW (by simp) ?_
  simp only [s96]
  refine Ze fun N7 hN7 => ?_
  simp (maxSteps := 2000000) only [↓Za, ↓Zb, ↓Zd, vup, cond_true, cond_false, aop, Zg, Zr, ev, sput, Zf, Nat.reduceBEq, Nat.reduceAdd, tyf, qV, frV, boxF, Xg, Yp, List.length_append, List.length_singleton, Nat.add_assoc]
  rw [← hH]
  refine hN7 [(2, .pointer (some ⟨h.length, 0, none⟩)), (3, .pointer (some ⟨h.length + 1, 0, none⟩)), (4, .pointer (some ⟨h.length + 2, 0, none⟩))] _ _ ?_ (by simp (maxSteps := 2000000) only [vup, cond_true, cond_false, Nat.reduceBEq])
  clear hN7
  try clear N7
  refine Zi ?_
  simp (maxSteps := 2000000) only [↓Za, ↓Zu, ↓Zz, ↓Zb, ↓Zd, vup, List.map_cons, List.map_nil, cond_true, cond_false, aop, Zg, ev, sput, Zf, Yb, Ye, Nat.reduceBEq, Zs, Wd, tup, tyf, fA0, fA1, Vk c2, Vr c2, Vk c3, Vr c3, m1, m4, Yn, List.nil_append, List.append_nil]
  refine f.mono ?_
  rintro _ _ ⟨rfl, rfl⟩
  simp (maxSteps := 2000000) only [vup, qV, frV, Xk c4 rfl, Xe (Xt (Yc c4) _)]
  exact hE.set_ge (by omega) _

theorem s23_callW [Tabs Try.prog] {args : List Value} {h : Zh} {Q : Value → Zh → Prop} (hsz : args.length ≤ 16) (hk : AWS Try.prog 16 s23 (Zs Try.prog [.tmp 4] Q) (Zr 0 args) h) : ACall Try.prog 23 args h Q :=
  Ys Try.func23 rfl (enters_of Try.func23 (by kernel_rfl) rfl) rfl rfl (by decide) s23_strip s23_ok hsz hk
theorem rless_call [Tabs prog] {h : Zh} {a b : Rat} (h1 : (a.num * b.den).natAbs < 9223372036854775808) (h2 : (b.num * a.den).natAbs < 9223372036854775808) : Xi prog 23 [qV a, qV b] h (.bool (decide (a < b))) := by
  have m1 := mulN h1
  have m2 := mulN h2
  have e1 : decide (a.num * b.den < b.num * a.den) = decide (a < b) := by rw [decide_eq_decide, Rat.lt_iff]
  refine ACall.forget (Low.bool _) ?_
  refine s23_callW (by simp) ?_
  refine Zi ?_
  simp (maxSteps := 2000000) only [s23, ↓Za, ↓Zu, ↓Zz, ↓Zb, ↓Zd, vup, cond_true, cond_false, aop, Zg, Zr, ev, sput, Zf, Yb, Ye, Nat.reduceBEq, Nat.reduceAdd, Zs, Wd, tup, tyf, qV, frV, boxF, Yp, List.length_append, List.length_singleton, fA0, fA1, Vk (b2_0 ..), Vr (b2_0 ..), Vk (b2_1 ..), Vr (b2_1 ..), m1, m2, e1]
  exact e2 ..

theorem s26_callW [Tabs Try.prog] {args : List Value} {h : Zh} {Q : Value → Zh → Prop} (hsz : args.length ≤ 6) (hk : AWS Try.prog 6 s26 (Zs Try.prog [.tmp 2] Q) (Zr 0 args) h) : ACall Try.prog 26 args h Q :=
  Ys Try.func26 rfl (enters_of Try.func26 (by kernel_rfl) rfl) rfl rfl (by decide) s26_strip s26_ok hsz hk
theorem none_call [Tabs prog] {h : Zh} {x y : Int} : Xi prog 26 [frV x y] h (.bool (([x, y] : List Int) == [0, 0])) := by
  refine ACall.forget (Low.bool _) ?_
  refine s26_callW (by simp) ?_
  refine Zi ?_
  simp (maxSteps := 2000000) only [s26, ↓Za, ↓Zu, ↓Zz, ↓Zb, ↓Zd, vup, List.map_nil, cond_true, cond_false, aop, Zg, Zr, ev, sput, Zf, Yb, Ye, Nat.reduceBEq, Nat.reduceAdd, Zs, Wd, tup, frV, boxF, Yp, Xe (Zy h _), bldF0, Xq, Option.map_some, List.length_cons, List.length_nil, Nat.zero_add, eqF]
  exact Ext.app _ _ _

end Go.Proofs.Try.Am

namespace Go.Proofs.Try.Am
open Go.Am
set_option maxRecDepth 100000
/-! 116: slices.IndexFunc[[]planchet api.Frac,planchet api.Frac] -/
@[reducible] def q116_0 : SCode := .region [⟨some 4, .assign (.const (.int .i64 0)), none⟩]
@[reducible] def q116_1 : SCode := .region [⟨some 6, .move (.tmp 0), none⟩,
    ⟨some 7, .call { callee := .builtin .len, args := #[.tmp 6], argTypes := #[47] }, none⟩,
    ⟨some 8, .move (.const (.int .i64 0)), none⟩]
@[reducible] def q116_2 : SCode := .region [⟨some 9, .binOp .lss 3 (.tmp 8) (.tmp 7) 3, none⟩]
@[reducible] def q116_3 : SCode := .region [⟨some 10, .move (.tmp 8), none⟩,
    ⟨some 5, .assign (.tmp 10), none⟩]
@[reducible] def q116_4 : SCode := .region [⟨some 11, .move (.tmp 1), none⟩,
    ⟨some 12, .move (.tmp 0), none⟩,
    ⟨some 13, .move (.tmp 5), none⟩,
    ⟨some 14, .indexAddr 47 (.tmp 12) (.tmp 13), none⟩,
    ⟨some 15, .load 26 (.tmp 14), none⟩,
    ⟨some 16, .call { callee := .value (.tmp 11), args := #[.tmp 15], argTypes := #[26] }, none⟩]
@[reducible] def q116_5 : SCode := .region [⟨some 17, .move (.tmp 5), none⟩,
    ⟨some 4, .assign (.tmp 17), none⟩]
@[reducible] def q116_6 : SCode := .region [⟨some 18, .binOp .add 3 (.tmp 8) (.const (.int .i64 1)) 3, none⟩,
    ⟨some 8, .move (.tmp 18), none⟩]
def l116_0 : SCode := (.seq q116_2 (.seq (.cond (.tmp 9) .skip (.exit 0)) (.seq (.block 1 (.seq q116_3 (.seq q116_4 (.cond (.tmp 16) (.seq q116_5 .ret) .skip)))) q116_6)))
@[reducible] def q116_7 : SCode := .region [⟨some 4, .assign (.const (.int .i64 (-1))), none⟩]
def s116 : SCode := (.seq q116_0 (.seq (.seq q116_1 (.block 0 (.loop l116_0))) (.seq q116_7 .ret)))
theorem s116_strip : Ya (Zt Try.f116) = s116 := by kernel_rfl
theorem s116_ok : Yr 19 (Zt Try.f116) = true := by kernel_rfl
end Go.Proofs.Try.Am

namespace Go.Proofs.Try.Am
open Go.Am Bq
set_option maxRecDepth 100000
set_option maxHeartbeats 1000000

/-- Fractions within the range of ints. -/
def InR (ps : List (Int × Int)) : Prop := ∀ p ∈ ps, (-(2 ^ 63) ≤ p.1 ∧ p.1 < 2 ^ 63) ∧ -(2 ^ 63) ≤ p.2 ∧ p.2 < 2 ^ 63
end Go.Proofs.Try.Am

namespace Go.Proofs.Try.Am
open Go.Am
set_option maxRecDepth 100000
/-! 18: planchet planchetlaw09.Of -/
@[reducible] def q18_0 : SCode := .region [⟨some 2, .assign (.const (.slice none 0 0)), none⟩]
@[reducible] def q18_1 : SCode := .region [⟨some 3, .assign (.const (.slice none 0 0)), none⟩]
@[reducible] def q18_2 : SCode := .region [⟨some 6, .move (.tmp 0), none⟩,
    ⟨some 7, .call { callee := .builtin .len, args := #[.tmp 6], argTypes := #[22] }, none⟩,
    ⟨some 8, .move (.const (.int .i64 0)), none⟩]
@[reducible] def q18_3 : SCode := .region [⟨some 9, .binOp .lss 3 (.tmp 8) (.tmp 7) 3, none⟩]
@[reducible] def q18_4 : SCode := .region [⟨some 10, .move (.tmp 8), none⟩,
    ⟨some 11, .indexAddr 22 (.tmp 6) (.tmp 8), none⟩,
    ⟨some 12, .load 24 (.tmp 11), none⟩,
    ⟨some 5, .alloc 24, none⟩,
    ⟨some 4, .assign (.tmp 10), none⟩,
    ⟨none, .store 24 (.tmp 5) (.tmp 12), none⟩]
@[reducible] def q18_5 : SCode := .region [⟨some 13, .move (.tmp 4), none⟩,
    ⟨some 14, .binOp .lss 3 (.tmp 13) (.const (.int .i64 9)) 3, none⟩]
@[reducible] def q18_6 : SCode := .region [⟨some 15, .move (.tmp 3), none⟩,
    ⟨some 16, .fieldAddr 24 (.tmp 5) 0, none⟩,
    ⟨some 17, .load 3 (.tmp 16), none⟩,
    ⟨some 18, .fieldAddr 24 (.tmp 5) 1, none⟩,
    ⟨some 19, .load 3 (.tmp 18), none⟩,
    ⟨some 20, .build 92 #[(0, .tmp 17), (1, .tmp 19)], none⟩,
    ⟨some 21, .buildSlice 30 1 #[(0, .tmp 20)], none⟩,
    ⟨some 22, .call { callee := .builtin .append, args := #[.tmp 15, .tmp 21], argTypes := #[30, 30] }, none⟩,
    ⟨some 3, .assign (.tmp 22), none⟩]
@[reducible] def q18_7 : SCode := .region [⟨some 23, .binOp .add 3 (.tmp 8) (.const (.int .i64 1)) 3, none⟩,
    ⟨some 8, .move (.tmp 23), none⟩]
def l18_0 : SCode := (.seq q18_3 (.seq (.cond (.tmp 9) .skip (.exit 0)) (.seq (.block 1 (.seq q18_4 (.seq q18_5 (.cond (.tmp 14) q18_6 .skip)))) q18_7)))
@[reducible] def q18_8 : SCode := .region [⟨some 24, .move (.tmp 3), none⟩,
    ⟨some 2, .assign (.tmp 24), none⟩]
def s18 : SCode := (.seq q18_0 (.seq q18_1 (.seq (.seq q18_2 (.block 0 (.loop l18_0))) (.seq q18_8 .ret))))
theorem s18_strip : Ya (Zt Try.f18) = s18 := by kernel_rfl
theorem s18_ok : Yr 25 (Zt Try.f18) = true := by kernel_rfl
/-! 20: planchet planchetref09.Bets -/
@[reducible] def q20_0 : SCode := .region [⟨some 4, .assign (.const (.bool false)), none⟩]
@[reducible] def q20_1 : SCode := .region [⟨some 9, .move (.tmp 0), none⟩,
    ⟨some 10, .call { callee := .value (.func 63), args := #[.tmp 9], argTypes := #[3] }, none⟩,
    ⟨some 11, .unOp .not 4 (.tmp 10), none⟩,
    ⟨some 12, .move (.tmp 11), none⟩,
    ⟨some 13, .move (.tmp 1), some (12, false)⟩,
    ⟨some 14, .call { callee := .builtin .len, args := #[.tmp 13], argTypes := #[22] }, some (12, false)⟩,
    ⟨some 15, .binOp .lss 3 (.tmp 14) (.const (.int .i64 1)) 3, some (12, false)⟩,
    ⟨some 16, .pick (.tmp 12) (.const (.bool true)) (.tmp 15), none⟩,
    ⟨some 17, .move (.tmp 16), none⟩,
    ⟨some 18, .move (.tmp 1), some (17, false)⟩,
    ⟨some 19, .call { callee := .builtin .len, args := #[.tmp 18], argTypes := #[22] }, some (17, false)⟩,
    ⟨some 20, .binOp .gtr 3 (.tmp 19) (.const (.int .i64 6)) 3, some (17, false)⟩,
    ⟨some 21, .pick (.tmp 17) (.const (.bool true)) (.tmp 20), none⟩]
@[reducible] def q20_2 : SCode := .region [⟨some 4, .assign (.const (.bool false)), none⟩]
@[reducible] def q20_3 : SCode := .region [⟨some 22, .move (.tmp 1), none⟩,
    ⟨some 23, .call { callee := .builtin .len, args := #[.tmp 22], argTypes := #[22] }, none⟩,
    ⟨some 24, .move (.const (.int .i64 0)), none⟩]
@[reducible] def q20_4 : SCode := .region [⟨some 25, .binOp .lss 3 (.tmp 24) (.tmp 23) 3, none⟩]
@[reducible] def q20_5 : SCode := .region [⟨some 26, .move (.tmp 24), none⟩,
    ⟨some 27, .indexAddr 22 (.tmp 22) (.tmp 24), none⟩,
    ⟨some 28, .load 24 (.tmp 27), none⟩,
    ⟨some 6, .alloc 24, none⟩,
    ⟨some 5, .assign (.tmp 26), none⟩,
    ⟨none, .store 24 (.tmp 6) (.tmp 28), none⟩]
@[reducible] def q20_6 : SCode := .region [⟨some 29, .move (.tmp 0), none⟩,
    ⟨some 30, .fieldAddr 24 (.tmp 6) 0, none⟩,
    ⟨some 31, .load 3 (.tmp 30), none⟩,
    ⟨some 32, .call { callee := .value (.func 25), args := #[.tmp 29, .tmp 31], argTypes := #[3, 3] }, none⟩,
    ⟨some 33, .unOp .not 4 (.tmp 32), none⟩,
    ⟨some 34, .move (.tmp 33), none⟩,
    ⟨some 35, .fieldAddr 24 (.tmp 6) 1, some (34, false)⟩,
    ⟨some 36, .load 3 (.tmp 35), some (34, false)⟩,
    ⟨some 37, .binOp .lss 3 (.tmp 36) (.const (.int .i64 0)) 3, some (34, false)⟩,
    ⟨some 38, .pick (.tmp 34) (.const (.bool true)) (.tmp 37), none⟩,
    ⟨some 39, .move (.tmp 38), none⟩,
    ⟨some 40, .fieldAddr 24 (.tmp 6) 1, some (39, false)⟩,
    ⟨some 41, .load 3 (.tmp 40), some (39, false)⟩,
    ⟨some 42, .binOp .gtr 3 (.tmp 41) (.const (.int .i64 12)) 3, some (39, false)⟩,
    ⟨some 43, .pick (.tmp 39) (.const (.bool true)) (.tmp 42), none⟩]
@[reducible] def q20_7 : SCode := .region [⟨some 4, .assign (.const (.bool false)), none⟩]
@[reducible] def q20_8 : SCode := .region [⟨some 44, .move (.tmp 1), none⟩,
    ⟨some 45, .move (.tmp 5), none⟩,
    ⟨some 46, .slice 22 (.tmp 44) none (some (.tmp 45)) none, none⟩,
    ⟨some 47, .call { callee := .builtin .len, args := #[.tmp 46], argTypes := #[22] }, none⟩,
    ⟨some 48, .move (.const (.int .i64 0)), none⟩]
@[reducible] def q20_9 : SCode := .region [⟨some 49, .binOp .lss 3 (.tmp 48) (.tmp 47) 3, none⟩]
@[reducible] def q20_10 : SCode := .region [⟨some 50, .indexAddr 22 (.tmp 46) (.tmp 48), none⟩,
    ⟨some 51, .load 24 (.tmp 50), none⟩,
    ⟨some 8, .alloc 24, none⟩,
    ⟨none, .store 24 (.tmp 8) (.tmp 51), none⟩]
@[reducible] def q20_11 : SCode := .region [⟨some 52, .fieldAddr 24 (.tmp 6) 0, none⟩,
    ⟨some 53, .load 3 (.tmp 52), none⟩,
    ⟨some 54, .fieldAddr 24 (.tmp 8) 0, none⟩,
    ⟨some 55, .load 3 (.tmp 54), none⟩,
    ⟨some 56, .binOp .eql 3 (.tmp 53) (.tmp 55) 3, none⟩]
@[reducible] def q20_12 : SCode := .region [⟨some 4, .assign (.const (.bool false)), none⟩]
@[reducible] def q20_13 : SCode := .region [⟨some 57, .binOp .add 3 (.tmp 48) (.const (.int .i64 1)) 3, none⟩,
    ⟨some 48, .move (.tmp 57), none⟩]
def l20_0 : SCode := (.seq q20_9 (.seq (.cond (.tmp 49) .skip (.exit 2)) (.seq (.block 3 (.seq q20_10 (.seq q20_11 (.cond (.tmp 56) (.seq q20_12 .ret) .skip)))) q20_13)))
@[reducible] def q20_14 : SCode := .region [⟨some 58, .binOp .add 3 (.tmp 24) (.const (.int .i64 1)) 3, none⟩,
    ⟨some 24, .move (.tmp 58), none⟩]
def l20_1 : SCode := (.seq q20_4 (.seq (.cond (.tmp 25) .skip (.exit 0)) (.seq (.block 1 (.seq q20_5 (.seq (.seq q20_6 (.cond (.tmp 43) (.seq q20_7 .ret) .skip)) (.seq q20_8 (.block 2 (.loop l20_0)))))) q20_14)))
@[reducible] def q20_15 : SCode := .region [⟨some 4, .assign (.const (.bool true)), none⟩]
def s20 : SCode := (.seq q20_0 (.seq (.seq q20_1 (.cond (.tmp 21) (.seq q20_2 .ret) .skip)) (.seq (.seq q20_3 (.block 0 (.loop l20_1))) (.seq q20_15 .ret))))
theorem s20_strip : Ya (Zt Try.f20) = s20 := by kernel_rfl
theorem s20_ok : Yr 59 (Zt Try.f20) = true := by kernel_rfl
/-! 25: planchet planchetref09.Event -/
@[reducible] def q25_0 : SCode := .region [⟨some 4, .assign (.const (.bool false)), none⟩]
@[reducible] def q25_1 : SCode := .region [⟨some 5, .move (.tmp 1), none⟩,
    ⟨some 6, .binOp .geq 3 (.tmp 5) (.const (.int .i64 0)) 3, none⟩,
    ⟨some 7, .move (.tmp 6), none⟩,
    ⟨some 8, .move (.tmp 1), some (7, true)⟩,
    ⟨some 9, .move (.tmp 0), some (7, true)⟩,
    ⟨some 10, .binOp .shl 3 (.const (.int .i64 1)) (.tmp 9) 3, some (7, true)⟩,
    ⟨some 11, .binOp .lss 3 (.tmp 8) (.tmp 10) 3, some (7, true)⟩,
    ⟨some 12, .pick (.tmp 7) (.tmp 11) (.const (.bool false)), none⟩,
    ⟨some 4, .assign (.tmp 12), none⟩]
def s25 : SCode := (.seq q25_0 (.seq q25_1 .ret))
theorem s25_strip : Ya (Zt Try.f25) = s25 := by kernel_rfl
theorem s25_ok : Yr 13 (Zt Try.f25) = true := by kernel_rfl
/-! 27: planchet planchetref09.Sound -/
@[reducible] def q27_0 : SCode := .region [⟨some 4, .assign (.const (.bool false)), none⟩]
@[reducible] def q27_1 : SCode := .region [⟨some 5, .move (.tmp 0), none⟩,
    ⟨some 6, .move (.tmp 1), none⟩,
    ⟨some 7, .call { callee := .value (.func 65), args := #[.tmp 5, .tmp 6], argTypes := #[3, 22] }, none⟩,
    ⟨some 8, .call { callee := .builtin .len, args := #[.tmp 7], argTypes := #[94] }, none⟩,
    ⟨some 9, .binOp .gtr 3 (.tmp 8) (.const (.int .i64 0)) 3, none⟩,
    ⟨some 4, .assign (.tmp 9), none⟩]
def s27 : SCode := (.seq q27_0 (.seq q27_1 .ret))
theorem s27_strip : Ya (Zt Try.f27) = s27 := by kernel_rfl
theorem s27_ok : Yr 10 (Zt Try.f27) = true := by kernel_rfl
/-! 28: planchet planchetref09.Bounds -/
@[reducible] def q28_0 : SCode := .region [⟨some 6, .alloc 26, none⟩,
    ⟨some 7, .alloc 26, none⟩]
@[reducible] def q28_1 : SCode := .region [⟨some 15, .call { callee := .value (.func 66), args := #[.const (.int .i64 1)], argTypes := #[3] }, none⟩,
    ⟨some 16, .call { callee := .value (.func 66), args := #[.const (.int .i64 0)], argTypes := #[3] }, none⟩,
    ⟨some 8, .alloc 26, none⟩,
    ⟨some 9, .alloc 26, none⟩,
    ⟨none, .store 26 (.tmp 8) (.tmp 15), none⟩,
    ⟨none, .store 26 (.tmp 9) (.tmp 16), none⟩]
@[reducible] def q28_2 : SCode := .region [⟨some 17, .move (.tmp 0), none⟩,
    ⟨some 18, .move (.tmp 1), none⟩,
    ⟨some 19, .call { callee := .value (.func 65), args := #[.tmp 17, .tmp 18], argTypes := #[3, 22] }, none⟩,
    ⟨some 20, .call { callee := .builtin .len, args := #[.tmp 19], argTypes := #[94] }, none⟩,
    ⟨some 21, .move (.const (.int .i64 0)), none⟩]
@[reducible] def q28_3 : SCode := .region [⟨some 22, .binOp .lss 3 (.tmp 21) (.tmp 20) 3, none⟩]
@[reducible] def q28_4 : SCode := .region [⟨some 23, .indexAddr 94 (.tmp 19) (.tmp 21), none⟩,
    ⟨some 24, .load 47 (.tmp 23), none⟩,
    ⟨some 11, .assign (.tmp 24), none⟩]
@[reducible] def q28_5 : SCode := .region [⟨some 25, .call { callee := .value (.func 66), args := #[.const (.int .i64 0)], argTypes := #[3] }, none⟩,
    ⟨some 12, .alloc 26, none⟩,
    ⟨none, .store 26 (.tmp 12) (.tmp 25), none⟩]
@[reducible] def q28_6 : SCode := .region [⟨some 26, .move (.tmp 11), none⟩,
    ⟨some 27, .call { callee := .builtin .len, args := #[.tmp 26], argTypes := #[47] }, none⟩,
    ⟨some 28, .move (.const (.int .i64 0)), none⟩]
@[reducible] def q28_7 : SCode := .region [⟨some 29, .binOp .lss 3 (.tmp 28) (.tmp 27) 3, none⟩]
@[reducible] def q28_8 : SCode := .region [⟨some 30, .move (.tmp 28), none⟩,
    ⟨some 31, .indexAddr 47 (.tmp 26) (.tmp 28), none⟩,
    ⟨some 32, .load 26 (.tmp 31), none⟩,
    ⟨some 14, .alloc 26, none⟩,
    ⟨some 13, .assign (.tmp 30), none⟩,
    ⟨none, .store 26 (.tmp 14) (.tmp 32), none⟩]
@[reducible] def q28_9 : SCode := .region [⟨some 33, .move (.tmp 2), none⟩,
    ⟨some 34, .move (.tmp 13), none⟩,
    ⟨some 35, .binOp .shr 3 (.tmp 33) (.tmp 34) 3, none⟩,
    ⟨some 36, .binOp .and 3 (.tmp 35) (.const (.int .i64 1)) 3, none⟩,
    ⟨some 37, .binOp .eql 3 (.tmp 36) (.const (.int .i64 1)) 3, none⟩]
@[reducible] def q28_10 : SCode := .region [⟨some 38, .load 26 (.tmp 12), none⟩,
    ⟨some 39, .load 26 (.tmp 14), none⟩,
    ⟨some 40, .call { callee := .value (.func 67), args := #[.tmp 38, .tmp 39], argTypes := #[26, 26] }, none⟩,
    ⟨none, .store 26 (.tmp 12) (.tmp 40), none⟩]
@[reducible] def q28_11 : SCode := .region [⟨some 41, .binOp .add 3 (.tmp 28) (.const (.int .i64 1)) 3, none⟩,
    ⟨some 28, .move (.tmp 41), none⟩]
def l28_0 : SCode := (.seq q28_7 (.seq (.cond (.tmp 29) .skip (.exit 2)) (.seq (.block 3 (.seq q28_8 (.seq q28_9 (.cond (.tmp 37) q28_10 .skip)))) q28_11)))
@[reducible] def q28_12 : SCode := .region [⟨some 42, .load 26 (.tmp 12), none⟩,
    ⟨some 43, .load 26 (.tmp 8), none⟩,
    ⟨some 44, .call { callee := .value (.func 23), args := #[.tmp 42, .tmp 43], argTypes := #[26, 26] }, none⟩]
@[reducible] def q28_13 : SCode := .region [⟨some 45, .load 26 (.tmp 12), none⟩,
    ⟨none, .store 26 (.tmp 8) (.tmp 45), none⟩]
@[reducible] def q28_14 : SCode := .region [⟨some 46, .load 26 (.tmp 9), none⟩,
    ⟨some 47, .load 26 (.tmp 12), none⟩,
    ⟨some 48, .call { callee := .value (.func 23), args := #[.tmp 46, .tmp 47], argTypes := #[26, 26] }, none⟩]
@[reducible] def q28_15 : SCode := .region [⟨some 49, .load 26 (.tmp 12), none⟩,
    ⟨none, .store 26 (.tmp 9) (.tmp 49), none⟩]
@[reducible] def q28_16 : SCode := .region [⟨some 50, .binOp .add 3 (.tmp 21) (.const (.int .i64 1)) 3, none⟩,
    ⟨some 21, .move (.tmp 50), none⟩]
def l28_1 : SCode := (.seq q28_3 (.seq (.cond (.tmp 22) .skip (.exit 0)) (.seq (.block 1 (.seq q28_4 (.seq q28_5 (.seq (.seq q28_6 (.block 2 (.loop l28_0))) (.seq (.seq q28_12 (.cond (.tmp 44) q28_13 .skip)) (.seq q28_14 (.cond (.tmp 48) q28_15 .skip))))))) q28_16)))
def q28_17 : SCode := .draw [⟨some 51, .load 26 (.tmp 8), none⟩,
    ⟨some 52, .load 26 (.tmp 9), none⟩,
    ⟨none, .store 26 (.tmp 6) (.tmp 51), none⟩,
    ⟨none, .store 26 (.tmp 7) (.tmp 52), none⟩]
   [[], [], [0, 0], [1, 2, 0, 1, 2]]
def s28 : SCode := (.seq q28_0 (.seq q28_1 (.seq (.seq q28_2 (.block 0 (.loop l28_1))) (.seq q28_17 .ret))))
theorem s28_strip : Ya (Zt Try.f28) = s28 := by kernel_rfl
theorem s28_ok : Yr 53 (Zt Try.f28) = true := by kernel_rfl
/-! 30: planchet planchetref09.Price -/
@[reducible] def q30_0 : SCode := .region [⟨some 6, .assign (.const (.slice none 0 0)), none⟩]
@[reducible] def q30_1 : SCode := .region [⟨some 14, .move (.tmp 1), none⟩,
    ⟨some 15, .call { callee := .builtin .len, args := #[.tmp 14], argTypes := #[22] }, none⟩,
    ⟨some 16, .move (.const (.int .i64 0)), none⟩]
@[reducible] def q30_2 : SCode := .region [⟨some 17, .binOp .lss 3 (.tmp 16) (.tmp 15) 3, none⟩]
@[reducible] def q30_3 : SCode := .region [⟨some 18, .indexAddr 22 (.tmp 14) (.tmp 16), none⟩,
    ⟨some 19, .load 24 (.tmp 18), none⟩,
    ⟨some 8, .alloc 24, none⟩,
    ⟨none, .store 24 (.tmp 8) (.tmp 19), none⟩]
@[reducible] def q30_4 : SCode := .region [⟨some 20, .fieldAddr 24 (.tmp 8) 0, none⟩,
    ⟨some 21, .load 3 (.tmp 20), none⟩,
    ⟨some 22, .move (.tmp 2), none⟩,
    ⟨some 23, .binOp .eql 3 (.tmp 21) (.tmp 22) 3, none⟩]
@[reducible] def q30_5 : SCode := .region [⟨some 24, .fieldAddr 24 (.tmp 8) 1, none⟩,
    ⟨some 25, .load 3 (.tmp 24), none⟩,
    ⟨some 26, .buildSlice 38 1 #[(0, .tmp 25)], none⟩,
    ⟨some 6, .assign (.tmp 26), none⟩]
@[reducible] def q30_6 : SCode := .region [⟨some 27, .binOp .add 3 (.tmp 16) (.const (.int .i64 1)) 3, none⟩,
    ⟨some 16, .move (.tmp 27), none⟩]
def l30_0 : SCode := (.seq q30_2 (.seq (.cond (.tmp 17) .skip (.exit 0)) (.seq (.block 1 (.seq q30_3 (.seq q30_4 (.cond (.tmp 23) (.seq q30_5 .ret) .skip)))) q30_6)))
@[reducible] def q30_7 : SCode := .region [⟨some 29, .move (.tmp 0), none⟩,
    ⟨some 30, .move (.tmp 1), none⟩,
    ⟨some 31, .move (.tmp 2), none⟩,
    ⟨some 32, .call { callee := .value (.func 28), args := #[.tmp 29, .tmp 30, .tmp 31], argTypes := #[3, 22, 3] }, none⟩,
    ⟨some 28, .move (.tmp 32), none⟩,
    ⟨some 33, .extract (.tmp 28) 0, none⟩,
    ⟨some 34, .extract (.tmp 28) 1, none⟩,
    ⟨some 9, .alloc 26, none⟩,
    ⟨some 10, .alloc 26, none⟩,
    ⟨none, .store 26 (.tmp 9) (.tmp 33), none⟩,
    ⟨none, .store 26 (.tmp 10) (.tmp 34), none⟩]
@[reducible] def q30_8 : SCode := .region [⟨some 11, .assign (.const (.slice none 0 0)), none⟩]
@[reducible] def q30_9 : SCode := .region [⟨some 35, .move (.const (.int .i64 0)), none⟩]
@[reducible] def q30_10 : SCode := .region [⟨some 36, .binOp .lss 3 (.tmp 35) (.const (.int .i64 13)) 3, none⟩]
@[reducible] def q30_11 : SCode := .region [⟨some 37, .move (.tmp 35), none⟩,
    ⟨some 12, .assign (.tmp 37), none⟩]
@[reducible] def q30_12 : SCode := .region [⟨some 38, .move (.tmp 12), none⟩,
    ⟨some 39, .call { callee := .value (.func 68), args := #[.tmp 38, .const (.int .i64 12)], argTypes := #[3, 3] }, none⟩,
    ⟨some 13, .alloc 26, none⟩,
    ⟨none, .store 26 (.tmp 13) (.tmp 39), none⟩]
@[reducible] def q30_13 : SCode := .region [⟨some 40, .load 26 (.tmp 13), none⟩,
    ⟨some 41, .load 26 (.tmp 9), none⟩,
    ⟨some 42, .call { callee := .value (.func 23), args := #[.tmp 40, .tmp 41], argTypes := #[26, 26] }, none⟩,
    ⟨some 43, .unOp .not 4 (.tmp 42), none⟩,
    ⟨some 44, .move (.tmp 43), none⟩,
    ⟨some 45, .load 26 (.tmp 10), some (44, true)⟩,
    ⟨some 46, .load 26 (.tmp 13), some (44, true)⟩,
    ⟨some 47, .call { callee := .value (.func 23), args := #[.tmp 45, .tmp 46], argTypes := #[26, 26] }, some (44, true)⟩,
    ⟨some 48, .unOp .not 4 (.tmp 47), some (44, true)⟩,
    ⟨some 49, .pick (.tmp 44) (.tmp 48) (.const (.bool false)), none⟩]
@[reducible] def q30_14 : SCode := .region [⟨some 50, .move (.tmp 11), none⟩,
    ⟨some 51, .move (.tmp 12), none⟩,
    ⟨some 52, .buildSlice 38 1 #[(0, .tmp 51)], none⟩,
    ⟨some 53, .call { callee := .builtin .append, args := #[.tmp 50, .tmp 52], argTypes := #[38, 38] }, none⟩,
    ⟨some 11, .assign (.tmp 53), none⟩]
@[reducible] def q30_15 : SCode := .region [⟨some 54, .binOp .add 3 (.tmp 35) (.const (.int .i64 1)) 3, none⟩,
    ⟨some 35, .move (.tmp 54), none⟩]
def l30_1 : SCode := (.seq q30_10 (.seq (.cond (.tmp 36) .skip (.exit 2)) (.seq (.block 3 (.seq q30_11 (.seq q30_12 (.seq q30_13 (.cond (.tmp 49) q30_14 .skip))))) q30_15)))
@[reducible] def q30_16 : SCode := .region [⟨some 55, .move (.tmp 11), none⟩,
    ⟨some 6, .assign (.tmp 55), none⟩]
def s30 : SCode := (.seq q30_0 (.seq (.seq q30_1 (.block 0 (.loop l30_0))) (.seq q30_7 (.seq q30_8 (.seq (.seq q30_9 (.block 2 (.loop l30_1))) (.seq q30_16 .ret))))))
theorem s30_strip : Ya (Zt Try.f30) = s30 := by kernel_rfl
theorem s30_ok : Yr 56 (Zt Try.f30) = true := by kernel_rfl
/-! 61: (planchet bets.belief).of -/
@[reducible] def q61_0 : SCode := .region [⟨some 4, .alloc 26, none⟩]
@[reducible] def q61_1 : SCode := .region [⟨some 8, .call { callee := .value (.func 70), args := #[.const (.int .i64 0)], argTypes := #[3] }, none⟩,
    ⟨some 5, .alloc 26, none⟩,
    ⟨none, .store 26 (.tmp 5) (.tmp 8), none⟩]
@[reducible] def q61_2 : SCode := .region [⟨some 9, .move (.tmp 0), none⟩,
    ⟨some 10, .call { callee := .builtin .len, args := #[.tmp 9], argTypes := #[90] }, none⟩,
    ⟨some 11, .move (.const (.int .i64 0)), none⟩]
@[reducible] def q61_3 : SCode := .region [⟨some 12, .binOp .lss 3 (.tmp 11) (.tmp 10) 3, none⟩]
@[reducible] def q61_4 : SCode := .region [⟨some 13, .move (.tmp 11), none⟩,
    ⟨some 14, .indexAddr 90 (.tmp 9) (.tmp 11), none⟩,
    ⟨some 15, .load 26 (.tmp 14), none⟩,
    ⟨some 7, .alloc 26, none⟩,
    ⟨some 6, .assign (.tmp 13), none⟩,
    ⟨none, .store 26 (.tmp 7) (.tmp 15), none⟩]
@[reducible] def q61_5 : SCode := .region [⟨some 16, .move (.tmp 1), none⟩,
    ⟨some 17, .move (.tmp 6), none⟩,
    ⟨some 18, .binOp .shr 3 (.tmp 16) (.tmp 17) 3, none⟩,
    ⟨some 19, .binOp .and 3 (.tmp 18) (.const (.int .i64 1)) 3, none⟩,
    ⟨some 20, .binOp .eql 3 (.tmp 19) (.const (.int .i64 1)) 3, none⟩]
@[reducible] def q61_6 : SCode := .region [⟨some 21, .load 26 (.tmp 5), none⟩,
    ⟨some 22, .load 26 (.tmp 7), none⟩,
    ⟨some 23, .call { callee := .value (.func 71), args := #[.tmp 21, .const (.int .i64 1), .tmp 22], argTypes := #[26, 3, 26] }, none⟩,
    ⟨none, .store 26 (.tmp 5) (.tmp 23), none⟩]
@[reducible] def q61_7 : SCode := .region [⟨some 24, .binOp .add 3 (.tmp 11) (.const (.int .i64 1)) 3, none⟩,
    ⟨some 11, .move (.tmp 24), none⟩]
def l61_0 : SCode := (.seq q61_3 (.seq (.cond (.tmp 12) .skip (.exit 0)) (.seq (.block 1 (.seq q61_4 (.seq q61_5 (.cond (.tmp 20) q61_6 .skip)))) q61_7)))
@[reducible] def q61_8 : SCode := .region [⟨some 25, .load 26 (.tmp 5), none⟩,
    ⟨none, .store 26 (.tmp 4) (.tmp 25), none⟩]
def s61 : SCode := (.seq q61_0 (.seq q61_1 (.seq (.seq q61_2 (.block 0 (.loop l61_0))) (.seq q61_8 .ret))))
theorem s61_strip : Ya (Zt Try.f61) = s61 := by kernel_rfl
theorem s61_ok : Yr 26 (Zt Try.f61) = true := by kernel_rfl
/-! 65: planchet planchetref09.Corners -/
@[reducible] def q65_0 : SCode := .region [⟨some 4, .assign (.const (.slice none 0 0)), none⟩]
@[reducible] def q65_1 : SCode := .region [⟨some 5, .assign (.const (.slice none 0 0)), none⟩]
@[reducible] def q65_2 : SCode := .region [⟨some 6, .assign (.const (.int .i64 1)), none⟩]
@[reducible] def q65_3 : SCode := .region [⟨some 9, .move (.tmp 6), none⟩,
    ⟨some 10, .move (.tmp 0), none⟩,
    ⟨some 11, .binOp .shl 3 (.const (.int .i64 1)) (.tmp 10) 3, none⟩,
    ⟨some 12, .binOp .lss 3 (.tmp 9) (.tmp 11) 3, none⟩]
@[reducible] def q65_5 : SCode := .region [⟨some 15, .move (.tmp 0), none⟩,
    ⟨some 16, .move (.tmp 6), none⟩,
    ⟨some 17, .call { callee := .value (.func 103), args := #[.tmp 15, .tmp 16], argTypes := #[3, 3] }, none⟩,
    ⟨some 18, .call { callee := .builtin .len, args := #[.tmp 17], argTypes := #[38] }, none⟩,
    ⟨some 19, .move (.tmp 1), none⟩,
    ⟨some 20, .call { callee := .builtin .len, args := #[.tmp 19], argTypes := #[22] }, none⟩,
    ⟨some 21, .binOp .add 3 (.tmp 20) (.const (.int .i64 1)) 3, none⟩,
    ⟨some 22, .binOp .gtr 3 (.tmp 18) (.tmp 21) 3, none⟩]
@[reducible] def q65_6 : SCode := .region [⟨some 24, .move (.tmp 0), none⟩,
    ⟨some 25, .move (.tmp 1), none⟩,
    ⟨some 26, .move (.tmp 6), none⟩,
    ⟨some 27, .call { callee := .value (.func 104), args := #[.tmp 24, .tmp 25, .tmp 26], argTypes := #[3, 22, 3] }, none⟩,
    ⟨some 23, .move (.tmp 27), none⟩,
    ⟨some 28, .extract (.tmp 23) 0, none⟩,
    ⟨some 29, .extract (.tmp 23) 1, none⟩,
    ⟨some 7, .assign (.tmp 28), none⟩,
    ⟨some 8, .assign (.tmp 29), none⟩]
@[reducible] def q65_7 : SCode := .region [⟨some 30, .move (.tmp 8), none⟩]
@[reducible] def q65_8 : SCode := .region [⟨some 31, .move (.tmp 5), none⟩,
    ⟨some 32, .move (.tmp 7), none⟩,
    ⟨some 33, .buildSlice 94 1 #[(0, .tmp 32)], none⟩,
    ⟨some 34, .call { callee := .builtin .append, args := #[.tmp 31, .tmp 33], argTypes := #[94, 94] }, none⟩,
    ⟨some 5, .assign (.tmp 34), none⟩]
@[reducible] def q65_4 : SCode := .region [⟨some 13, .move (.tmp 6), none⟩,
    ⟨some 14, .binOp .add 3 (.tmp 13) (.const (.int .i64 1)) 3, none⟩,
    ⟨some 6, .assign (.tmp 14), none⟩]
def l65_0 : SCode := (.seq (.seq q65_3 (.cond (.tmp 12) .skip (.exit 0))) (.seq (.block 1 (.seq (.seq q65_5 (.cond (.tmp 22) (.exit 1) .skip)) (.seq q65_6 (.seq q65_7 (.cond (.tmp 30) q65_8 .skip))))) q65_4))
@[reducible] def q65_9 : SCode := .region [⟨some 35, .move (.tmp 5), none⟩,
    ⟨some 4, .assign (.tmp 35), none⟩]
def s65 : SCode := (.seq q65_0 (.seq q65_1 (.seq (.seq q65_2 (.block 0 (.loop l65_0))) (.seq q65_9 .ret))))
theorem s65_strip : Ya (Zt Try.f65) = s65 := by kernel_rfl
theorem s65_ok : Yr 36 (Zt Try.f65) = true := by kernel_rfl
/-! 103: planchet planchetref09.worldsOf -/
@[reducible] def q103_0 : SCode := .region [⟨some 4, .assign (.const (.slice none 0 0)), none⟩]
@[reducible] def q103_1 : SCode := .region [⟨some 5, .assign (.const (.slice none 0 0)), none⟩]
@[reducible] def q103_2 : SCode := .region [⟨some 7, .move (.tmp 0), none⟩,
    ⟨some 8, .move (.const (.int .i64 0)), none⟩]
@[reducible] def q103_3 : SCode := .region [⟨some 9, .binOp .lss 3 (.tmp 8) (.tmp 7) 3, none⟩]
@[reducible] def q103_4 : SCode := .region [⟨some 10, .move (.tmp 8), none⟩,
    ⟨some 6, .assign (.tmp 10), none⟩]
@[reducible] def q103_5 : SCode := .region [⟨some 11, .move (.tmp 1), none⟩,
    ⟨some 12, .move (.tmp 6), none⟩,
    ⟨some 13, .binOp .shr 3 (.tmp 11) (.tmp 12) 3, none⟩,
    ⟨some 14, .binOp .and 3 (.tmp 13) (.const (.int .i64 1)) 3, none⟩,
    ⟨some 15, .binOp .eql 3 (.tmp 14) (.const (.int .i64 1)) 3, none⟩]
@[reducible] def q103_6 : SCode := .region [⟨some 16, .move (.tmp 5), none⟩,
    ⟨some 17, .move (.tmp 6), none⟩,
    ⟨some 18, .buildSlice 38 1 #[(0, .tmp 17)], none⟩,
    ⟨some 19, .call { callee := .builtin .append, args := #[.tmp 16, .tmp 18], argTypes := #[38, 38] }, none⟩,
    ⟨some 5, .assign (.tmp 19), none⟩]
@[reducible] def q103_7 : SCode := .region [⟨some 20, .binOp .add 3 (.tmp 8) (.const (.int .i64 1)) 3, none⟩,
    ⟨some 8, .move (.tmp 20), none⟩]
def l103_0 : SCode := (.seq q103_3 (.seq (.cond (.tmp 9) .skip (.exit 0)) (.seq (.block 1 (.seq q103_4 (.seq q103_5 (.cond (.tmp 15) q103_6 .skip)))) q103_7)))
@[reducible] def q103_8 : SCode := .region [⟨some 21, .move (.tmp 5), none⟩,
    ⟨some 4, .assign (.tmp 21), none⟩]
def s103 : SCode := (.seq q103_0 (.seq q103_1 (.seq (.seq q103_2 (.block 0 (.loop l103_0))) (.seq q103_8 .ret))))
theorem s103_strip : Ya (Zt Try.f103) = s103 := by kernel_rfl
theorem s103_ok : Yr 22 (Zt Try.f103) = true := by kernel_rfl
/-! 104: planchet planchetref09.corner -/
@[reducible] def q104_0 : SCode := .region [⟨some 6, .assign (.const (.slice none 0 0)), none⟩,
    ⟨some 7, .assign (.const (.bool false)), none⟩]
@[reducible] def q104_1 : SCode := .region [⟨some 8, .assign (.const (.slice none 0 0)), none⟩]
@[reducible] def q104_2 : SCode := .region [⟨some 30, .move (.tmp 0), none⟩,
    ⟨some 31, .move (.const (.int .i64 0)), none⟩]
@[reducible] def q104_3 : SCode := .region [⟨some 32, .binOp .lss 3 (.tmp 31) (.tmp 30) 3, none⟩]
@[reducible] def q104_4 : SCode := .region [⟨some 33, .move (.tmp 31), none⟩,
    ⟨some 9, .assign (.tmp 33), none⟩]
@[reducible] def q104_5 : SCode := .region [⟨some 34, .move (.tmp 2), none⟩,
    ⟨some 35, .move (.tmp 9), none⟩,
    ⟨some 36, .binOp .shr 3 (.tmp 34) (.tmp 35) 3, none⟩,
    ⟨some 37, .binOp .and 3 (.tmp 36) (.const (.int .i64 1)) 3, none⟩,
    ⟨some 38, .binOp .eql 3 (.tmp 37) (.const (.int .i64 1)) 3, none⟩]
@[reducible] def q104_6 : SCode := .region [⟨some 39, .move (.tmp 8), none⟩,
    ⟨some 40, .move (.tmp 9), none⟩,
    ⟨some 41, .buildSlice 38 1 #[(0, .tmp 40)], none⟩,
    ⟨some 42, .call { callee := .builtin .append, args := #[.tmp 39, .tmp 41], argTypes := #[38, 38] }, none⟩,
    ⟨some 8, .assign (.tmp 42), none⟩]
@[reducible] def q104_7 : SCode := .region [⟨some 43, .binOp .add 3 (.tmp 31) (.const (.int .i64 1)) 3, none⟩,
    ⟨some 31, .move (.tmp 43), none⟩]
def l104_0 : SCode := (.seq q104_3 (.seq (.cond (.tmp 32) .skip (.exit 0)) (.seq (.block 1 (.seq q104_4 (.seq q104_5 (.cond (.tmp 38) q104_6 .skip)))) q104_7)))
@[reducible] def q104_8 : SCode := .region [⟨some 10, .assign (.const (.slice none 0 0)), none⟩]
@[reducible] def q104_9 : SCode := .region [⟨some 44, .move (.tmp 1), none⟩,
    ⟨some 45, .call { callee := .builtin .len, args := #[.tmp 44], argTypes := #[22] }, none⟩,
    ⟨some 46, .binOp .add 3 (.tmp 45) (.const (.int .i64 1)) 3, none⟩,
    ⟨some 47, .move (.const (.int .i64 0)), none⟩]
@[reducible] def q104_10 : SCode := .region [⟨some 48, .binOp .lss 3 (.tmp 47) (.tmp 46) 3, none⟩]
@[reducible] def q104_11 : SCode := .region [⟨some 49, .move (.tmp 47), none⟩,
    ⟨some 11, .assign (.tmp 49), none⟩]
@[reducible] def q104_12 : SCode := .region [⟨some 12, .assign (.const (.slice none 0 0)), none⟩]
@[reducible] def q104_13 : SCode := .region [⟨some 50, .move (.tmp 8), none⟩,
    ⟨some 51, .call { callee := .builtin .len, args := #[.tmp 50], argTypes := #[38] }, none⟩,
    ⟨some 52, .move (.const (.int .i64 0)), none⟩]
@[reducible] def q104_14 : SCode := .region [⟨some 53, .binOp .lss 3 (.tmp 52) (.tmp 51) 3, none⟩]
@[reducible] def q104_15 : SCode := .region [⟨some 54, .indexAddr 38 (.tmp 50) (.tmp 52), none⟩,
    ⟨some 55, .load 3 (.tmp 54), none⟩,
    ⟨some 14, .assign (.tmp 55), none⟩]
@[reducible] def q104_16 : SCode := .region [⟨some 56, .move (.tmp 11), none⟩,
    ⟨some 57, .move (.tmp 1), none⟩,
    ⟨some 58, .call { callee := .builtin .len, args := #[.tmp 57], argTypes := #[22] }, none⟩,
    ⟨some 59, .binOp .eql 3 (.tmp 56) (.tmp 58) 3, none⟩,
    ⟨some 60, .move (.tmp 59), none⟩,
    ⟨some 61, .move (.tmp 1), some (60, false)⟩,
    ⟨some 62, .move (.tmp 11), some (60, false)⟩,
    ⟨some 63, .indexAddr 22 (.tmp 61) (.tmp 62), some (60, false)⟩,
    ⟨some 64, .fieldAddr 24 (.tmp 63) 0, some (60, false)⟩,
    ⟨some 65, .load 3 (.tmp 64), some (60, false)⟩,
    ⟨some 66, .move (.tmp 14), some (60, false)⟩,
    ⟨some 67, .binOp .shr 3 (.tmp 65) (.tmp 66) 3, some (60, false)⟩,
    ⟨some 68, .binOp .and 3 (.tmp 67) (.const (.int .i64 1)) 3, some (60, false)⟩,
    ⟨some 69, .binOp .eql 3 (.tmp 68) (.const (.int .i64 1)) 3, some (60, false)⟩,
    ⟨some 70, .pick (.tmp 60) (.const (.bool true)) (.tmp 69), none⟩]
@[reducible] def q104_17 : SCode := .region [⟨some 71, .move (.tmp 12), none⟩,
    ⟨some 72, .call { callee := .value (.func 66), args := #[.const (.int .i64 1)], argTypes := #[3] }, none⟩,
    ⟨some 73, .buildSlice 47 1 #[(0, .tmp 72)], none⟩,
    ⟨some 74, .call { callee := .builtin .append, args := #[.tmp 71, .tmp 73], argTypes := #[47, 47] }, none⟩,
    ⟨some 12, .assign (.tmp 74), none⟩]
@[reducible] def q104_18 : SCode := .region [⟨some 75, .move (.tmp 12), none⟩,
    ⟨some 76, .call { callee := .value (.func 66), args := #[.const (.int .i64 0)], argTypes := #[3] }, none⟩,
    ⟨some 77, .buildSlice 47 1 #[(0, .tmp 76)], none⟩,
    ⟨some 78, .call { callee := .builtin .append, args := #[.tmp 75, .tmp 77], argTypes := #[47, 47] }, none⟩,
    ⟨some 12, .assign (.tmp 78), none⟩]
@[reducible] def q104_19 : SCode := .region [⟨some 79, .binOp .add 3 (.tmp 52) (.const (.int .i64 1)) 3, none⟩,
    ⟨some 52, .move (.tmp 79), none⟩]
def l104_1 : SCode := (.seq q104_14 (.seq (.cond (.tmp 53) .skip (.exit 4)) (.seq (.block 5 (.seq q104_15 (.seq q104_16 (.cond (.tmp 70) q104_17 q104_18)))) q104_19)))
@[reducible] def q104_20 : SCode := .region [⟨some 80, .move (.tmp 11), none⟩,
    ⟨some 81, .move (.tmp 1), none⟩,
    ⟨some 82, .call { callee := .builtin .len, args := #[.tmp 81], argTypes := #[22] }, none⟩,
    ⟨some 83, .binOp .eql 3 (.tmp 80) (.tmp 82) 3, none⟩]
@[reducible] def q104_21 : SCode := .region [⟨some 84, .move (.tmp 12), none⟩,
    ⟨some 85, .call { callee := .value (.func 66), args := #[.const (.int .i64 1)], argTypes := #[3] }, none⟩,
    ⟨some 86, .buildSlice 47 1 #[(0, .tmp 85)], none⟩,
    ⟨some 87, .call { callee := .builtin .append, args := #[.tmp 84, .tmp 86], argTypes := #[47, 47] }, none⟩,
    ⟨some 12, .assign (.tmp 87), none⟩]
@[reducible] def q104_22 : SCode := .region [⟨some 88, .move (.tmp 12), none⟩,
    ⟨some 89, .move (.tmp 1), none⟩,
    ⟨some 90, .move (.tmp 11), none⟩,
    ⟨some 91, .indexAddr 22 (.tmp 89) (.tmp 90), none⟩,
    ⟨some 92, .fieldAddr 24 (.tmp 91) 1, none⟩,
    ⟨some 93, .load 3 (.tmp 92), none⟩,
    ⟨some 94, .call { callee := .value (.func 68), args := #[.tmp 93, .const (.int .i64 12)], argTypes := #[3, 3] }, none⟩,
    ⟨some 95, .buildSlice 47 1 #[(0, .tmp 94)], none⟩,
    ⟨some 96, .call { callee := .builtin .append, args := #[.tmp 88, .tmp 95], argTypes := #[47, 47] }, none⟩,
    ⟨some 12, .assign (.tmp 96), none⟩]
@[reducible] def q104_23 : SCode := .region [⟨some 97, .move (.tmp 10), none⟩,
    ⟨some 98, .move (.tmp 12), none⟩,
    ⟨some 99, .buildSlice 94 1 #[(0, .tmp 98)], none⟩,
    ⟨some 100, .call { callee := .builtin .append, args := #[.tmp 97, .tmp 99], argTypes := #[94, 94] }, none⟩,
    ⟨some 10, .assign (.tmp 100), none⟩]
@[reducible] def q104_24 : SCode := .region [⟨some 101, .binOp .add 3 (.tmp 47) (.const (.int .i64 1)) 3, none⟩,
    ⟨some 47, .move (.tmp 101), none⟩]
def l104_2 : SCode := (.seq q104_10 (.seq (.cond (.tmp 48) .skip (.exit 2)) (.seq (.block 3 (.seq q104_11 (.seq q104_12 (.seq (.seq q104_13 (.block 4 (.loop l104_1))) (.seq (.seq q104_20 (.cond (.tmp 83) q104_21 q104_22)) q104_23))))) q104_24)))
@[reducible] def q104_25 : SCode := .region [⟨some 102, .move (.tmp 8), none⟩,
    ⟨some 103, .call { callee := .builtin .len, args := #[.tmp 102], argTypes := #[38] }, none⟩,
    ⟨some 15, .assign (.tmp 103), none⟩]
@[reducible] def q104_26 : SCode := .region [⟨some 104, .move (.tmp 15), none⟩,
    ⟨some 105, .move (.const (.int .i64 0)), none⟩]
@[reducible] def q104_27 : SCode := .region [⟨some 106, .binOp .lss 3 (.tmp 105) (.tmp 104) 3, none⟩]
@[reducible] def q104_28 : SCode := .region [⟨some 107, .move (.tmp 105), none⟩,
    ⟨some 16, .assign (.tmp 107), none⟩]
@[reducible] def q104_29 : SCode := .region [⟨some 108, .move (.tmp 16), none⟩,
    ⟨some 17, .assign (.tmp 108), none⟩]
@[reducible] def q104_30 : SCode := .region [⟨some 109, .move (.tmp 17), none⟩,
    ⟨some 110, .move (.tmp 10), none⟩,
    ⟨some 111, .call { callee := .builtin .len, args := #[.tmp 110], argTypes := #[94] }, none⟩,
    ⟨some 112, .binOp .lss 3 (.tmp 109) (.tmp 111) 3, none⟩,
    ⟨some 113, .move (.tmp 112), none⟩,
    ⟨some 114, .move (.tmp 10), some (113, true)⟩,
    ⟨some 115, .move (.tmp 17), some (113, true)⟩,
    ⟨some 116, .indexAddr 94 (.tmp 114) (.tmp 115), some (113, true)⟩,
    ⟨some 117, .load 47 (.tmp 116), some (113, true)⟩,
    ⟨some 118, .move (.tmp 16), some (113, true)⟩,
    ⟨some 119, .indexAddr 47 (.tmp 117) (.tmp 118), some (113, true)⟩,
    ⟨some 120, .fieldAddr 26 (.tmp 119) 0, some (113, true)⟩,
    ⟨some 121, .load 3 (.tmp 120), some (113, true)⟩,
    ⟨some 122, .binOp .eql 3 (.tmp 121) (.const (.int .i64 0)) 3, some (113, true)⟩,
    ⟨some 123, .pick (.tmp 113) (.tmp 122) (.const (.bool false)), none⟩]
@[reducible] def q104_31 : SCode := .region [⟨some 124, .move (.tmp 17), none⟩,
    ⟨some 125, .binOp .add 3 (.tmp 124) (.const (.int .i64 1)) 3, none⟩,
    ⟨some 17, .assign (.tmp 125), none⟩]
def l104_3 : SCode := (.seq (.seq q104_30 (.cond (.tmp 123) .skip (.exit 8))) (.block 9 q104_31))
@[reducible] def q104_32 : SCode := .region [⟨some 126, .move (.tmp 17), none⟩,
    ⟨some 127, .move (.tmp 10), none⟩,
    ⟨some 128, .call { callee := .builtin .len, args := #[.tmp 127], argTypes := #[94] }, none⟩,
    ⟨some 129, .binOp .eql 3 (.tmp 126) (.tmp 128) 3, none⟩]
@[reducible] def q104_33 : SCode := .region [⟨some 6, .assign (.const (.slice none 0 0)), none⟩,
    ⟨some 7, .assign (.const (.bool false)), none⟩]
@[reducible] def q104_34 : SCode := .region [⟨some 130, .move (.tmp 10), none⟩,
    ⟨some 131, .move (.tmp 17), none⟩,
    ⟨some 132, .indexAddr 94 (.tmp 130) (.tmp 131), none⟩,
    ⟨some 133, .load 47 (.tmp 132), none⟩,
    ⟨some 18, .assign (.tmp 133), none⟩]
@[reducible] def q104_35 : SCode := .region [⟨some 134, .move (.tmp 10), none⟩,
    ⟨some 135, .move (.tmp 17), none⟩,
    ⟨some 136, .move (.tmp 10), none⟩,
    ⟨some 137, .move (.tmp 16), none⟩,
    ⟨some 138, .indexAddr 94 (.tmp 136) (.tmp 137), none⟩,
    ⟨some 139, .load 47 (.tmp 138), none⟩,
    ⟨some 140, .indexAddr 94 (.tmp 134) (.tmp 135), none⟩,
    ⟨none, .store 47 (.tmp 140) (.tmp 139), none⟩]
@[reducible] def q104_36 : SCode := .region [⟨some 141, .move (.tmp 10), none⟩,
    ⟨some 142, .move (.tmp 16), none⟩,
    ⟨some 143, .move (.tmp 18), none⟩,
    ⟨some 144, .indexAddr 94 (.tmp 141) (.tmp 142), none⟩,
    ⟨none, .store 47 (.tmp 144) (.tmp 143), none⟩]
@[reducible] def q104_37 : SCode := .region [⟨some 145, .move (.tmp 18), none⟩,
    ⟨some 146, .move (.tmp 16), none⟩,
    ⟨some 147, .indexAddr 47 (.tmp 145) (.tmp 146), none⟩,
    ⟨some 148, .load 26 (.tmp 147), none⟩,
    ⟨some 19, .alloc 26, none⟩,
    ⟨none, .store 26 (.tmp 19) (.tmp 148), none⟩]
@[reducible] def q104_38 : SCode := .region [⟨some 149, .move (.tmp 18), none⟩,
    ⟨some 150, .call { callee := .builtin .len, args := #[.tmp 149], argTypes := #[47] }, none⟩,
    ⟨some 151, .move (.const (.int .i64 0)), none⟩]
@[reducible] def q104_39 : SCode := .region [⟨some 152, .binOp .lss 3 (.tmp 151) (.tmp 150) 3, none⟩]
@[reducible] def q104_40 : SCode := .region [⟨some 153, .move (.tmp 151), none⟩,
    ⟨some 20, .assign (.tmp 153), none⟩]
def q104_41 : SCode := .draw [⟨some 154, .move (.tmp 18), none⟩,
    ⟨some 155, .move (.tmp 20), none⟩,
    ⟨some 156, .move (.tmp 18), none⟩,
    ⟨some 157, .move (.tmp 20), none⟩,
    ⟨some 158, .indexAddr 47 (.tmp 156) (.tmp 157), none⟩,
    ⟨some 159, .load 26 (.tmp 158), none⟩,
    ⟨some 160, .load 26 (.tmp 19), none⟩,
    ⟨some 161, .call { callee := .value (.func 96), args := #[.tmp 159, .tmp 160], argTypes := #[26, 26] }, none⟩,
    ⟨some 162, .indexAddr 47 (.tmp 154) (.tmp 155), none⟩,
    ⟨none, .store 26 (.tmp 162) (.tmp 161), none⟩]
   [[], [], [], [], [2, 3], [4], [], [5, 6], [0, 1, 0, 1, 2, 3, 4, 5, 6, 7], [8, 7, 7, 0, 1, 2, 3, 4, 5, 6, 7]]
@[reducible] def q104_42 : SCode := .region [⟨some 163, .binOp .add 3 (.tmp 151) (.const (.int .i64 1)) 3, none⟩,
    ⟨some 151, .move (.tmp 163), none⟩]
def l104_4 : SCode := (.seq q104_39 (.seq (.cond (.tmp 152) .skip (.exit 10)) (.seq (.block 11 (.seq q104_40 q104_41)) q104_42)))
@[reducible] def q104_43 : SCode := .region [⟨some 164, .move (.tmp 10), none⟩,
    ⟨some 165, .call { callee := .builtin .len, args := #[.tmp 164], argTypes := #[94] }, none⟩,
    ⟨some 166, .move (.const (.int .i64 0)), none⟩]
@[reducible] def q104_44 : SCode := .region [⟨some 167, .binOp .lss 3 (.tmp 166) (.tmp 165) 3, none⟩]
@[reducible] def q104_45 : SCode := .region [⟨some 168, .move (.tmp 166), none⟩,
    ⟨some 21, .assign (.tmp 168), none⟩]
@[reducible] def q104_46 : SCode := .region [⟨some 169, .move (.tmp 10), none⟩,
    ⟨some 170, .move (.tmp 21), none⟩,
    ⟨some 171, .indexAddr 94 (.tmp 169) (.tmp 170), none⟩,
    ⟨some 172, .load 47 (.tmp 171), none⟩,
    ⟨some 173, .move (.tmp 16), none⟩,
    ⟨some 174, .indexAddr 47 (.tmp 172) (.tmp 173), none⟩,
    ⟨some 175, .load 26 (.tmp 174), none⟩,
    ⟨some 22, .alloc 26, none⟩,
    ⟨none, .store 26 (.tmp 22) (.tmp 175), none⟩]
@[reducible] def q104_47 : SCode := .region [⟨some 176, .move (.tmp 18), none⟩,
    ⟨some 177, .call { callee := .builtin .len, args := #[.tmp 176], argTypes := #[47] }, none⟩,
    ⟨some 178, .move (.const (.int .i64 0)), none⟩]
@[reducible] def q104_48 : SCode := .region [⟨some 179, .binOp .lss 3 (.tmp 178) (.tmp 177) 3, none⟩]
@[reducible] def q104_49 : SCode := .region [⟨some 180, .move (.tmp 178), none⟩,
    ⟨some 23, .assign (.tmp 180), none⟩]
@[reducible] def q104_50 : SCode := .region [⟨some 181, .move (.tmp 21), none⟩,
    ⟨some 182, .move (.tmp 16), none⟩,
    ⟨some 183, .binOp .neq 3 (.tmp 181) (.tmp 182) 3, none⟩]
def q104_51 : SCode := .draw [⟨some 184, .move (.tmp 10), none⟩,
    ⟨some 185, .move (.tmp 21), none⟩,
    ⟨some 186, .indexAddr 94 (.tmp 184) (.tmp 185), none⟩,
    ⟨some 187, .load 47 (.tmp 186), none⟩,
    ⟨some 188, .move (.tmp 23), none⟩,
    ⟨some 189, .move (.tmp 10), none⟩,
    ⟨some 190, .move (.tmp 21), none⟩,
    ⟨some 191, .indexAddr 94 (.tmp 189) (.tmp 190), none⟩,
    ⟨some 192, .load 47 (.tmp 191), none⟩,
    ⟨some 193, .move (.tmp 23), none⟩,
    ⟨some 194, .indexAddr 47 (.tmp 192) (.tmp 193), none⟩,
    ⟨some 195, .load 26 (.tmp 194), none⟩,
    ⟨some 196, .call { callee := .value (.func 66), args := #[.const (.int .i64 (-1))], argTypes := #[3] }, none⟩,
    ⟨some 197, .load 26 (.tmp 22), none⟩,
    ⟨some 198, .move (.tmp 18), none⟩,
    ⟨some 199, .move (.tmp 23), none⟩,
    ⟨some 200, .indexAddr 47 (.tmp 198) (.tmp 199), none⟩,
    ⟨some 201, .load 26 (.tmp 200), none⟩,
    ⟨some 202, .call { callee := .value (.func 97), args := #[.tmp 197, .tmp 201], argTypes := #[26, 26] }, none⟩,
    ⟨some 203, .call { callee := .value (.func 97), args := #[.tmp 196, .tmp 202], argTypes := #[26, 26] }, none⟩,
    ⟨some 204, .call { callee := .value (.func 67), args := #[.tmp 195, .tmp 203], argTypes := #[26, 26] }, none⟩,
    ⟨some 205, .indexAddr 47 (.tmp 187) (.tmp 188), none⟩,
    ⟨none, .store 26 (.tmp 205) (.tmp 204), none⟩]
   [[], [], [0, 1], [2], [], [], [], [5, 6], [7], [], [8, 9], [10], [], [], [], [], [14, 15], [16], [13, 17, 12], [12, 18, 18], [11, 19, 19], [3, 4, 0, 1, 2, 3, 4, 5, 6, 7, 8, 9, 10, 11, 12, 13, 14, 15, 16, 17, 18, 19, 20], [21, 20, 20, 0, 1, 2, 3, 4, 5, 6, 7, 8, 9, 10, 11, 12, 13, 14, 15, 16, 17, 18, 19, 20]]
@[reducible] def q104_52 : SCode := .region [⟨some 206, .binOp .add 3 (.tmp 178) (.const (.int .i64 1)) 3, none⟩,
    ⟨some 178, .move (.tmp 206), none⟩]
def l104_5 : SCode := (.seq q104_48 (.seq (.cond (.tmp 179) .skip (.exit 14)) (.seq (.block 15 (.seq q104_49 (.seq q104_50 (.cond (.tmp 183) q104_51 .skip)))) q104_52)))
@[reducible] def q104_53 : SCode := .region [⟨some 207, .binOp .add 3 (.tmp 166) (.const (.int .i64 1)) 3, none⟩,
    ⟨some 166, .move (.tmp 207), none⟩]
def l104_6 : SCode := (.seq q104_44 (.seq (.cond (.tmp 167) .skip (.exit 12)) (.seq (.block 13 (.seq q104_45 (.seq q104_46 (.seq q104_47 (.block 14 (.loop l104_5)))))) q104_53)))
@[reducible] def q104_54 : SCode := .region [⟨some 208, .binOp .add 3 (.tmp 105) (.const (.int .i64 1)) 3, none⟩,
    ⟨some 105, .move (.tmp 208), none⟩]
def l104_7 : SCode := (.seq q104_27 (.seq (.cond (.tmp 106) .skip (.exit 6)) (.seq (.block 7 (.seq q104_28 (.seq q104_29 (.seq (.block 8 (.loop l104_3)) (.seq (.seq q104_32 (.cond (.tmp 129) (.seq q104_33 .ret) .skip)) (.seq q104_34 (.seq q104_35 (.seq q104_36 (.seq q104_37 (.seq (.seq q104_38 (.block 10 (.loop l104_4))) (.seq q104_43 (.block 12 (.loop l104_6))))))))))))) q104_54)))
@[reducible] def q104_55 : SCode := .region [⟨some 209, .move (.tmp 10), none⟩,
    ⟨some 210, .move (.tmp 15), none⟩,
    ⟨some 211, .slice 94 (.tmp 209) (some (.tmp 210)) none none, none⟩,
    ⟨some 212, .call { callee := .builtin .len, args := #[.tmp 211], argTypes := #[94] }, none⟩,
    ⟨some 213, .move (.const (.int .i64 0)), none⟩]
@[reducible] def q104_56 : SCode := .region [⟨some 214, .binOp .lss 3 (.tmp 213) (.tmp 212) 3, none⟩]
@[reducible] def q104_57 : SCode := .region [⟨some 215, .indexAddr 94 (.tmp 211) (.tmp 213), none⟩,
    ⟨some 216, .load 47 (.tmp 215), none⟩,
    ⟨some 25, .assign (.tmp 216), none⟩]
@[reducible] def q104_58 : SCode := .region [⟨some 217, .move (.tmp 25), none⟩,
    ⟨some 218, .move (.tmp 15), none⟩,
    ⟨some 219, .indexAddr 47 (.tmp 217) (.tmp 218), none⟩,
    ⟨some 220, .fieldAddr 26 (.tmp 219) 0, none⟩,
    ⟨some 221, .load 3 (.tmp 220), none⟩,
    ⟨some 222, .binOp .neq 3 (.tmp 221) (.const (.int .i64 0)) 3, none⟩]
@[reducible] def q104_59 : SCode := .region [⟨some 6, .assign (.const (.slice none 0 0)), none⟩,
    ⟨some 7, .assign (.const (.bool false)), none⟩]
@[reducible] def q104_60 : SCode := .region [⟨some 223, .binOp .add 3 (.tmp 213) (.const (.int .i64 1)) 3, none⟩,
    ⟨some 213, .move (.tmp 223), none⟩]
def l104_8 : SCode := (.seq q104_56 (.seq (.cond (.tmp 214) .skip (.exit 16)) (.seq (.block 17 (.seq q104_57 (.seq q104_58 (.cond (.tmp 222) (.seq q104_59 .ret) .skip)))) q104_60)))
@[reducible] def q104_61 : SCode := .region [⟨some 224, .move (.tmp 0), none⟩,
    ⟨some 225, .makeSlice 47 (.tmp 224) (.tmp 224), none⟩,
    ⟨some 26, .assign (.tmp 225), none⟩]
@[reducible] def q104_62 : SCode := .region [⟨some 226, .move (.tmp 26), none⟩,
    ⟨some 227, .call { callee := .builtin .len, args := #[.tmp 226], argTypes := #[47] }, none⟩,
    ⟨some 228, .move (.const (.int .i64 0)), none⟩]
@[reducible] def q104_63 : SCode := .region [⟨some 229, .binOp .lss 3 (.tmp 228) (.tmp 227) 3, none⟩]
@[reducible] def q104_64 : SCode := .region [⟨some 230, .move (.tmp 228), none⟩,
    ⟨some 27, .assign (.tmp 230), none⟩]
@[reducible] def q104_65 : SCode := .region [⟨some 231, .move (.tmp 26), none⟩,
    ⟨some 232, .move (.tmp 27), none⟩,
    ⟨some 233, .call { callee := .value (.func 66), args := #[.const (.int .i64 0)], argTypes := #[3] }, none⟩,
    ⟨some 234, .indexAddr 47 (.tmp 231) (.tmp 232), none⟩,
    ⟨none, .store 26 (.tmp 234) (.tmp 233), none⟩]
@[reducible] def q104_66 : SCode := .region [⟨some 235, .binOp .add 3 (.tmp 228) (.const (.int .i64 1)) 3, none⟩,
    ⟨some 228, .move (.tmp 235), none⟩]
def l104_9 : SCode := (.seq q104_63 (.seq (.cond (.tmp 229) .skip (.exit 18)) (.seq (.block 19 (.seq q104_64 q104_65)) q104_66)))
@[reducible] def q104_67 : SCode := .region [⟨some 236, .move (.tmp 8), none⟩,
    ⟨some 237, .call { callee := .builtin .len, args := #[.tmp 236], argTypes := #[38] }, none⟩,
    ⟨some 238, .move (.const (.int .i64 0)), none⟩]
@[reducible] def q104_68 : SCode := .region [⟨some 239, .binOp .lss 3 (.tmp 238) (.tmp 237) 3, none⟩]
@[reducible] def q104_69 : SCode := .region [⟨some 240, .move (.tmp 238), none⟩,
    ⟨some 241, .indexAddr 38 (.tmp 236) (.tmp 238), none⟩,
    ⟨some 242, .load 3 (.tmp 241), none⟩,
    ⟨some 28, .assign (.tmp 240), none⟩,
    ⟨some 29, .assign (.tmp 242), none⟩]
@[reducible] def q104_70 : SCode := .region [⟨some 243, .move (.tmp 10), none⟩,
    ⟨some 244, .move (.tmp 28), none⟩,
    ⟨some 245, .indexAddr 94 (.tmp 243) (.tmp 244), none⟩,
    ⟨some 246, .load 47 (.tmp 245), none⟩,
    ⟨some 247, .move (.tmp 15), none⟩,
    ⟨some 248, .indexAddr 47 (.tmp 246) (.tmp 247), none⟩,
    ⟨some 249, .fieldAddr 26 (.tmp 248) 0, none⟩,
    ⟨some 250, .load 3 (.tmp 249), none⟩,
    ⟨some 251, .binOp .lss 3 (.tmp 250) (.const (.int .i64 0)) 3, none⟩]
@[reducible] def q104_71 : SCode := .region [⟨some 6, .assign (.const (.slice none 0 0)), none⟩,
    ⟨some 7, .assign (.const (.bool false)), none⟩]
@[reducible] def q104_72 : SCode := .region [⟨some 252, .move (.tmp 26), none⟩,
    ⟨some 253, .move (.tmp 29), none⟩,
    ⟨some 254, .move (.tmp 10), none⟩,
    ⟨some 255, .move (.tmp 28), none⟩,
    ⟨some 256, .indexAddr 94 (.tmp 254) (.tmp 255), none⟩,
    ⟨some 257, .load 47 (.tmp 256), none⟩,
    ⟨some 258, .move (.tmp 15), none⟩,
    ⟨some 259, .indexAddr 47 (.tmp 257) (.tmp 258), none⟩,
    ⟨some 260, .load 26 (.tmp 259), none⟩,
    ⟨some 261, .indexAddr 47 (.tmp 252) (.tmp 253), none⟩,
    ⟨none, .store 26 (.tmp 261) (.tmp 260), none⟩]
@[reducible] def q104_73 : SCode := .region [⟨some 262, .binOp .add 3 (.tmp 238) (.const (.int .i64 1)) 3, none⟩,
    ⟨some 238, .move (.tmp 262), none⟩]
def l104_10 : SCode := (.seq q104_68 (.seq (.cond (.tmp 239) .skip (.exit 20)) (.seq (.block 21 (.seq q104_69 (.seq (.seq q104_70 (.cond (.tmp 251) (.seq q104_71 .ret) .skip)) q104_72))) q104_73)))
@[reducible] def q104_74 : SCode := .region [⟨some 263, .move (.tmp 26), none⟩,
    ⟨some 6, .assign (.tmp 263), none⟩,
    ⟨some 7, .assign (.const (.bool true)), none⟩]
def s104 : SCode := (.seq q104_0 (.seq q104_1 (.seq (.seq q104_2 (.block 0 (.loop l104_0))) (.seq q104_8 (.seq (.seq q104_9 (.block 2 (.loop l104_2))) (.seq q104_25 (.seq (.seq q104_26 (.block 6 (.loop l104_7))) (.seq (.seq q104_55 (.block 16 (.loop l104_8))) (.seq q104_61 (.seq (.seq q104_62 (.block 18 (.loop l104_9))) (.seq (.seq q104_67 (.block 20 (.loop l104_10))) (.seq q104_74 .ret))))))))))))
theorem s104_strip : Ya (Zt Try.f104) = s104 := by kernel_rfl
theorem s104_ok : Yr 264 (Zt Try.f104) = true := by kernel_rfl
end Go.Proofs.Try.Am

namespace Go.Proofs.Try.Am
open Go.Am Bq
set_option maxRecDepth 100000
set_option maxHeartbeats 1000000

/-- Whether fractions are n chances. -/
def chances (n : Int) (ps : List (Int × Int)) : Bool := decide ((ps.length : Int) = n) && (decide (mult ps ≠ 0) && ps.all fun p => decide (p.1 ≤ p.2))

end Go.Proofs.Try.Am

namespace Go.Proofs.Try.Am
open Go.Am
set_option maxRecDepth 100000
end Go.Proofs.Try.Am

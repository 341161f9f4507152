/-
  Printed by gen.py: facts on the types of this seat, asked of the kernel.
  Printed by gen.py: the code of some functions, without what no step looks at; held against the program's own by the kernel.
  bets: fractions as rational numbers: parts of a common multiple. Plain Lean, no program.
  bets: fractions: the program's arithmetic, and the reference's.
  bets: fractions: sums, products, quotients.
  bets: the common multiple of fractions that sum to one: its square divides the product. Plain Lean, no program.
  bets: fractions as they are handed in; their common multiple; a forecast's is small. Plain Lean, no program.
  bets: forecasts as numbers. Plain Lean, no program.
  bets: fractions: the reference's arithmetic; a fraction's checks.
  Printed by gen.py: the code of some functions, without what no step looks at; held against the program's own by the kernel.
  bets: the common multiple of fractions.
  Printed by gen.py: the code of some functions, without what no step looks at; held against the program's own by the kernel.
  bets: chances: their checks, sums over an event, parts.
  Printed by gen.py: the code of some functions, without what no step looks at; held against the program's own by the kernel.
  Printed by gen.py: the code of some functions, without what no step looks at; held against the program's own by the kernel.
  bets: parts as numbers; a slice of parts; the program's checks of chances; the chance of an event.
  bets: the program's forecasts: checks over all elements, the chance of an event.
  bets: forecasts, in the program and in the reference.
-/
import Derived.Test.YtcmindinomacbaaPk3
import Derived.Test.YtcmindinomacbaaProg
import Derived.KernelRfl
import Derived.Shelf.Abstract
import Derived.Test.YtcmindinomacbaaPk5
set_option linter.all false
namespace Go.Proofs.Try.Am
open Go.Am
set_option maxRecDepth 100000
theorem app_103_103 : appT Try.prog 103 103 = some (47, 1, 24) := by kernel_rfl
theorem app_22_22 : appT Try.prog 22 22 = some (24, 2, 16) := by kernel_rfl
theorem app_30_30 : appT Try.prog 30 30 = some (92, 2, 16) := by kernel_rfl
theorem app_38_38 : appT Try.prog 38 38 = some (3, 1, 8) := by kernel_rfl
theorem app_47_47 : appT Try.prog 47 47 = some (26, 2, 16) := by kernel_rfl
theorem app_88_88 : appT Try.prog 88 88 = some (90, 1, 24) := by kernel_rfl
theorem app_94_94 : appT Try.prog 94 94 = some (47, 1, 24) := by kernel_rfl
theorem el_103 : elemOf' Try.prog 103 = some 47 := by kernel_rfl
theorem el_22 : elemOf' Try.prog 22 = some 24 := by kernel_rfl
theorem el_30 : elemOf' Try.prog 30 = some 92 := by kernel_rfl
theorem el_38 : elemOf' Try.prog 38 = some 3 := by kernel_rfl
theorem el_47 : elemOf' Try.prog 47 = some 26 := by kernel_rfl
theorem el_88 : elemOf' Try.prog 88 = some 90 := by kernel_rfl
theorem el_90 : elemOf' Try.prog 90 = some 26 := by kernel_rfl
theorem el_94 : elemOf' Try.prog 94 = some 47 := by kernel_rfl
theorem esz_112 : esz Try.prog 112 = some 1 := by kernel_rfl
theorem esz_24 : esz Try.prog 24 = some 2 := by kernel_rfl
theorem esz_26 : esz Try.prog 26 = some 2 := by kernel_rfl
theorem esz_3 : esz Try.prog 3 = some 1 := by kernel_rfl
theorem esz_30 : esz Try.prog 30 = some 1 := by kernel_rfl
theorem esz_35 : esz Try.prog 35 = some 1 := by kernel_rfl
theorem esz_38 : esz Try.prog 38 = some 1 := by kernel_rfl
theorem esz_47 : esz Try.prog 47 = some 1 := by kernel_rfl
theorem esz_75 : esz Try.prog 75 = some 1 := by kernel_rfl
theorem esz_76 : esz Try.prog 76 = some 1 := by kernel_rfl
theorem esz_86 : esz Try.prog 86 = some 2 := by kernel_rfl
theorem esz_90 : esz Try.prog 90 = some 1 := by kernel_rfl
theorem esz_92 : esz Try.prog 92 = some 2 := by kernel_rfl
theorem fld_24_0 : fldOf Try.prog 24 0 = some (3, 0) := by kernel_rfl
theorem fld_24_1 : fldOf Try.prog 24 1 = some (3, 1) := by kernel_rfl
theorem fld_26_0 : fldOf Try.prog 26 0 = some (3, 0) := by kernel_rfl
theorem fld_26_1 : fldOf Try.prog 26 1 = some (3, 1) := by kernel_rfl
theorem fld_75_0 : fldOf Try.prog 75 0 = some (38, 0) := by kernel_rfl
theorem fld_76_0 : fldOf Try.prog 76 0 = some (38, 0) := by kernel_rfl
theorem fld_86_0 : fldOf Try.prog 86 0 = some (3, 0) := by kernel_rfl
theorem fld_86_1 : fldOf Try.prog 86 1 = some (30, 1) := by kernel_rfl
theorem fld_92_0 : fldOf Try.prog 92 0 = some (3, 0) := by kernel_rfl
theorem fld_92_1 : fldOf Try.prog 92 1 = some (3, 1) := by kernel_rfl
theorem info_26 : (Try.prog.info? 26).map (fun i => (i.size, i.bytes)) = some (2, 16) := by kernel_rfl
theorem info_3 : (Try.prog.info? 3).map (fun i => (i.size, i.bytes)) = some (1, 8) := by kernel_rfl
theorem isl_103 : isSl Try.prog 103 = true := by kernel_rfl
theorem isl_22 : isSl Try.prog 22 = true := by kernel_rfl
theorem isl_30 : isSl Try.prog 30 = true := by kernel_rfl
theorem isl_38 : isSl Try.prog 38 = true := by kernel_rfl
theorem isl_47 : isSl Try.prog 47 = true := by kernel_rfl
theorem isl_88 : isSl Try.prog 88 = true := by kernel_rfl
theorem isl_90 : isSl Try.prog 90 = true := by kernel_rfl
theorem isl_94 : isSl Try.prog 94 = true := by kernel_rfl
theorem pl_24_0 : Va Try.prog 24 0 = some (0, 1) := by kernel_rfl
theorem pl_24_1 : Va Try.prog 24 1 = some (1, 1) := by kernel_rfl
theorem pl_26_0 : Va Try.prog 26 0 = some (0, 1) := by kernel_rfl
theorem pl_26_1 : Va Try.prog 26 1 = some (1, 1) := by kernel_rfl
theorem pl_75_0 : Va Try.prog 75 0 = some (0, 1) := by kernel_rfl
theorem pl_76_0 : Va Try.prog 76 0 = some (0, 1) := by kernel_rfl
theorem pl_86_0 : Va Try.prog 86 0 = some (0, 1) := by kernel_rfl
theorem pl_86_1 : Va Try.prog 86 1 = some (1, 1) := by kernel_rfl
theorem pl_92_0 : Va Try.prog 92 0 = some (0, 1) := by kernel_rfl
theorem pl_92_1 : Va Try.prog 92 1 = some (1, 1) := by kernel_rfl
theorem shp_112 : shp Try.prog 112 = some none := by kernel_rfl
theorem shp_24 : shp Try.prog 24 = some (some 2) := by kernel_rfl
theorem shp_26 : shp Try.prog 26 = some (some 2) := by kernel_rfl
theorem shp_3 : shp Try.prog 3 = some none := by kernel_rfl
theorem shp_30 : shp Try.prog 30 = some none := by kernel_rfl
theorem shp_35 : shp Try.prog 35 = some none := by kernel_rfl
theorem shp_38 : shp Try.prog 38 = some none := by kernel_rfl
theorem shp_47 : shp Try.prog 47 = some none := by kernel_rfl
theorem shp_75 : shp Try.prog 75 = some (some 1) := by kernel_rfl
theorem shp_76 : shp Try.prog 76 = some (some 1) := by kernel_rfl
theorem shp_86 : shp Try.prog 86 = some (some 2) := by kernel_rfl
theorem shp_90 : shp Try.prog 90 = some none := by kernel_rfl
theorem shp_92 : shp Try.prog 92 = some (some 2) := by kernel_rfl
theorem und_103 : Program.underlying Try.prog 103 = some (.slice 47) := by kernel_rfl
theorem und_126 : Program.underlying Try.prog 126 = some (.int .u32) := by kernel_rfl
theorem und_129 : Program.underlying Try.prog 129 = some (.int .u64) := by kernel_rfl
theorem und_22 : Program.underlying Try.prog 22 = some (.slice 24) := by kernel_rfl
theorem und_3 : Program.underlying Try.prog 3 = some (.int .i64) := by kernel_rfl
theorem und_30 : Program.underlying Try.prog 30 = some (.slice 92) := by kernel_rfl
theorem und_38 : Program.underlying Try.prog 38 = some (.slice 3) := by kernel_rfl
theorem und_4 : Program.underlying Try.prog 4 = some (.bool) := by kernel_rfl
theorem und_47 : Program.underlying Try.prog 47 = some (.slice 26) := by kernel_rfl
theorem und_67 : Program.underlying Try.prog 67 = some (.int .u64) := by kernel_rfl
theorem und_88 : Program.underlying Try.prog 88 = some (.slice 90) := by kernel_rfl
theorem und_90 : Program.underlying Try.prog 90 = some (.slice 26) := by kernel_rfl
theorem und_94 : Program.underlying Try.prog 94 = some (.slice 47) := by kernel_rfl
theorem zero_24 : Wi Try.prog 24 = some [.int .i64 0, .int .i64 0] := by kernel_rfl
theorem zero_26 : Wi Try.prog 26 = some [.int .i64 0, .int .i64 0] := by kernel_rfl
theorem zero_3 : Wi Try.prog 3 = some [.int .i64 0] := by kernel_rfl
theorem zero_38 : Wi Try.prog 38 = some [.slice none 0 0] := by kernel_rfl
theorem zero_47 : Wi Try.prog 47 = some [.slice none 0 0] := by kernel_rfl
theorem zero_75 : Wi Try.prog 75 = some [.slice none 0 0] := by kernel_rfl
theorem zero_76 : Wi Try.prog 76 = some [.slice none 0 0] := by kernel_rfl
theorem zero_86 : Wi Try.prog 86 = some [.int .i64 0, .slice none 0 0] := by kernel_rfl
theorem zero_90 : Wi Try.prog 90 = some [.slice none 0 0] := by kernel_rfl
theorem zero_92 : Wi Try.prog 92 = some [.int .i64 0, .int .i64 0] := by kernel_rfl
def tyf := (And.intro (And.intro (And.intro (And.intro (And.intro (And.intro (And.intro @app_103_103 @app_22_22) @app_30_30) (And.intro (And.intro @app_38_38 @app_47_47) @app_88_88)) (And.intro (And.intro (And.intro @app_94_94 @el_103) @el_22) (And.intro (And.intro @el_30 @el_38) @el_47))) (And.intro (And.intro (And.intro (And.intro @el_88 @el_90) @el_94) (And.intro (And.intro @esz_112 @esz_24) @esz_26)) (And.intro (And.intro (And.intro @esz_3 @esz_30) @esz_35) (And.intro (And.intro @esz_38 @esz_47) @esz_75)))) (And.intro (And.intro (And.intro (And.intro (And.intro @esz_76 @esz_86) @esz_90) (And.intro (And.intro @esz_92 @fld_24_0) @fld_24_1)) (And.intro (And.intro (And.intro @fld_26_0 @fld_26_1) @fld_75_0) (And.intro (And.intro @fld_76_0 @fld_86_0) @fld_86_1))) (And.intro (And.intro (And.intro (And.intro @fld_92_0 @fld_92_1) @info_26) (And.intro (And.intro @info_3 @isl_103) @isl_22)) (And.intro (And.intro (And.intro @isl_30 @isl_38) @isl_47) (And.intro @isl_88 @isl_90))))) (And.intro (And.intro (And.intro (And.intro (And.intro (And.intro @isl_94 @pl_24_0) @pl_24_1) (And.intro (And.intro @pl_26_0 @pl_26_1) @pl_75_0)) (And.intro (And.intro (And.intro @pl_76_0 @pl_86_0) @pl_86_1) (And.intro (And.intro @pl_92_0 @pl_92_1) @shp_112))) (And.intro (And.intro (And.intro (And.intro @shp_24 @shp_26) @shp_3) (And.intro (And.intro @shp_30 @shp_35) @shp_38)) (And.intro (And.intro (And.intro @shp_47 @shp_75) @shp_76) (And.intro (And.intro @shp_86 @shp_90) @shp_92)))) (And.intro (And.intro (And.intro (And.intro (And.intro @und_103 @und_126) @und_129) (And.intro (And.intro @und_22 @und_3) @und_30)) (And.intro (And.intro (And.intro @und_38 @und_4) @und_47) (And.intro (And.intro @und_67 @und_88) @und_90))) (And.intro (And.intro (And.intro (And.intro @und_94 @zero_24) @zero_26) (And.intro (And.intro @zero_3 @zero_38) @zero_47)) (And.intro (And.intro (And.intro @zero_75 @zero_76) @zero_86) (And.intro @zero_90 @zero_92))))))
end Go.Proofs.Try.Am

namespace Go.Proofs.Try.Am
open Go.Am
set_option maxRecDepth 100000
/-! 21: planchet planchetlaw09.awake -/
@[reducible] def q21_0 : SCode := .region [⟨some 0, .assign (.const (.bool false)), none⟩]
@[reducible] def q21_1 : SCode := .region [⟨some 4, .build 92 #[(0, .const (.int .i64 1)), (1, .const (.int .i64 6))], none⟩,
    ⟨some 5, .buildSlice 30 1 #[(0, .tmp 4)], none⟩,
    ⟨some 6, .call { callee := .value (.func 36), args := #[.const (.int .i64 2), .tmp 5], argTypes := #[3, 30] }, none⟩,
    ⟨some 3, .move (.tmp 6), none⟩,
    ⟨some 7, .extract (.tmp 3) 0, none⟩,
    ⟨some 8, .extract (.tmp 3) 1, none⟩,
    ⟨some 1, .assign (.tmp 7), none⟩,
    ⟨some 2, .assign (.tmp 8), none⟩]
@[reducible] def q21_2 : SCode := .region [⟨some 9, .move (.tmp 2), none⟩,
    ⟨some 10, .binOp .eql 27 (.tmp 9) (.const (.int .i64 0)) 27, none⟩,
    ⟨some 11, .move (.tmp 10), none⟩,
    ⟨some 12, .move (.tmp 1), some (11, true)⟩,
    ⟨some 13, .build 26 #[(0, .const (.int .i64 1)), (1, .const (.int .i64 2))], some (11, true)⟩,
    ⟨some 14, .build 26 #[(0, .const (.int .i64 1)), (1, .const (.int .i64 2))], some (11, true)⟩,
    ⟨some 15, .buildSlice 47 2 #[(0, .tmp 13), (1, .tmp 14)], some (11, true)⟩,
    ⟨some 16, .call { callee := .value (.func 35), args := #[.tmp 12, .tmp 15], argTypes := #[47, 47] }, some (11, true)⟩,
    ⟨some 17, .pick (.tmp 11) (.tmp 16) (.const (.bool false)), none⟩,
    ⟨some 0, .assign (.tmp 17), none⟩]
def s21 : SCode := (.seq q21_0 (.seq q21_1 (.seq q21_2 .ret)))
theorem s21_strip : Ya (Zv Try.f21) = s21 := by kernel_rfl
theorem s21_ok : Yp 18 (Zv Try.f21) = true := by kernel_rfl
/-! 22: planchet planchetlaw09.unit -/
@[reducible] def q22_0 : SCode := .region [⟨some 1, .box 26 (.tmp 0), none⟩,
    ⟨some 2, .assign (.const (.bool false)), none⟩]
@[reducible] def q22_1 : SCode := .region [⟨some 3, .fieldAddr 26 (.tmp 1) 1, none⟩,
    ⟨some 4, .load 3 (.tmp 3), none⟩,
    ⟨some 5, .binOp .geq 3 (.tmp 4) (.const (.int .i64 1)) 3, none⟩,
    ⟨some 6, .move (.tmp 5), none⟩,
    ⟨some 7, .fieldAddr 26 (.tmp 1) 1, some (6, true)⟩,
    ⟨some 8, .load 3 (.tmp 7), some (6, true)⟩,
    ⟨some 9, .binOp .leq 3 (.tmp 8) (.const (.int .i64 1000)) 3, some (6, true)⟩,
    ⟨some 10, .pick (.tmp 6) (.tmp 9) (.const (.bool false)), none⟩,
    ⟨some 11, .move (.tmp 10), none⟩,
    ⟨some 12, .fieldAddr 26 (.tmp 1) 0, some (11, true)⟩,
    ⟨some 13, .load 3 (.tmp 12), some (11, true)⟩,
    ⟨some 14, .binOp .geq 3 (.tmp 13) (.const (.int .i64 0)) 3, some (11, true)⟩,
    ⟨some 15, .pick (.tmp 11) (.tmp 14) (.const (.bool false)), none⟩,
    ⟨some 16, .move (.tmp 15), none⟩,
    ⟨some 17, .fieldAddr 26 (.tmp 1) 0, some (16, true)⟩,
    ⟨some 18, .load 3 (.tmp 17), some (16, true)⟩,
    ⟨some 19, .fieldAddr 26 (.tmp 1) 1, some (16, true)⟩,
    ⟨some 20, .load 3 (.tmp 19), some (16, true)⟩,
    ⟨some 21, .binOp .leq 3 (.tmp 18) (.tmp 20) 3, some (16, true)⟩,
    ⟨some 22, .pick (.tmp 16) (.tmp 21) (.const (.bool false)), none⟩,
    ⟨some 2, .assign (.tmp 22), none⟩]
def s22 : SCode := (.seq q22_0 (.seq q22_1 .ret))
theorem s22_strip : Ya (Zv Try.f22) = s22 := by kernel_rfl
theorem s22_ok : Yp 23 (Zv Try.f22) = true := by kernel_rfl
/-! 59: (planchet bets.table).isEvent -/
@[reducible] def q59_0 : SCode := .region [⟨some 2, .box 86 (.tmp 0), none⟩,
    ⟨some 4, .assign (.const (.bool false)), none⟩]
@[reducible] def q59_1 : SCode := .region [⟨some 5, .move (.tmp 1), none⟩,
    ⟨some 6, .binOp .geq 3 (.tmp 5) (.const (.int .i64 0)) 3, none⟩,
    ⟨some 7, .move (.tmp 6), none⟩,
    ⟨some 8, .move (.tmp 1), some (7, true)⟩,
    ⟨some 9, .fieldAddr 86 (.tmp 2) 0, some (7, true)⟩,
    ⟨some 10, .load 3 (.tmp 9), some (7, true)⟩,
    ⟨some 11, .binOp .shl 3 (.const (.int .i64 1)) (.tmp 10) 3, some (7, true)⟩,
    ⟨some 12, .binOp .lss 3 (.tmp 8) (.tmp 11) 3, some (7, true)⟩,
    ⟨some 13, .pick (.tmp 7) (.tmp 12) (.const (.bool false)), none⟩,
    ⟨some 4, .assign (.tmp 13), none⟩]
def s59 : SCode := (.seq q59_0 (.seq q59_1 .ret))
theorem s59_strip : Ya (Zv Try.f59) = s59 := by kernel_rfl
theorem s59_ok : Yp 14 (Zv Try.f59) = true := by kernel_rfl
/-! 62: planchet bets.less -/
@[reducible] def q62_0 : SCode := .region [⟨some 2, .box 26 (.tmp 0), none⟩,
    ⟨some 3, .box 26 (.tmp 1), none⟩,
    ⟨some 4, .assign (.const (.bool false)), none⟩]
@[reducible] def q62_1 : SCode := .region [⟨some 5, .load 26 (.tmp 2), none⟩,
    ⟨some 6, .load 26 (.tmp 3), none⟩,
    ⟨some 7, .call { callee := .value (.func 71), args := #[.tmp 5, .const (.int .i64 (-1)), .tmp 6], argTypes := #[26, 3, 26] }, none⟩,
    ⟨some 8, .field 26 (.tmp 7) 0, none⟩,
    ⟨some 9, .binOp .lss 3 (.tmp 8) (.const (.int .i64 0)) 3, none⟩,
    ⟨some 4, .assign (.tmp 9), none⟩]
def s62 : SCode := (.seq q62_0 (.seq q62_1 .ret))
theorem s62_strip : Ya (Zv Try.f62) = s62 := by kernel_rfl
theorem s62_ok : Yp 10 (Zv Try.f62) = true := by kernel_rfl
/-! 63: planchet planchetref09.Worlds -/
@[reducible] def q63_0 : SCode := .region [⟨some 2, .assign (.const (.bool false)), none⟩]
@[reducible] def q63_1 : SCode := .region [⟨some 3, .move (.tmp 0), none⟩,
    ⟨some 4, .binOp .geq 3 (.tmp 3) (.const (.int .i64 2)) 3, none⟩,
    ⟨some 5, .move (.tmp 4), none⟩,
    ⟨some 6, .move (.tmp 0), some (5, true)⟩,
    ⟨some 7, .binOp .leq 3 (.tmp 6) (.const (.int .i64 5)) 3, some (5, true)⟩,
    ⟨some 8, .pick (.tmp 5) (.tmp 7) (.const (.bool false)), none⟩,
    ⟨some 2, .assign (.tmp 8), none⟩]
def s63 : SCode := (.seq q63_0 (.seq q63_1 .ret))
theorem s63_strip : Ya (Zv Try.f63) = s63 := by kernel_rfl
theorem s63_ok : Yp 9 (Zv Try.f63) = true := by kernel_rfl
/-! 64: planchet bets.frac -/
@[reducible] def q64_0 : SCode := .region [⟨some 4, .alloc 26, none⟩]
@[reducible] def q64_1 : SCode := .region [⟨some 6, .move (.tmp 1), none⟩,
    ⟨some 7, .binOp .lss 3 (.tmp 6) (.const (.int .i64 0)) 3, none⟩]
@[reducible] def q64_2 : SCode := .region [⟨some 8, .move (.tmp 0), none⟩,
    ⟨some 9, .unOp .neg 3 (.tmp 8), none⟩,
    ⟨some 10, .move (.tmp 1), none⟩,
    ⟨some 11, .unOp .neg 3 (.tmp 10), none⟩,
    ⟨some 0, .assign (.tmp 9), none⟩,
    ⟨some 1, .assign (.tmp 11), none⟩]
@[reducible] def q64_3 : SCode := .region [⟨some 12, .move (.tmp 0), none⟩,
    ⟨some 13, .move (.tmp 1), none⟩,
    ⟨some 14, .call { callee := .value (.func 88), args := #[.tmp 12, .tmp 13], argTypes := #[3, 3] }, none⟩,
    ⟨some 5, .assign (.tmp 14), none⟩]
def q64_4 : SCode := .draw [⟨some 15, .move (.tmp 0), none⟩,
    ⟨some 16, .move (.tmp 5), none⟩,
    ⟨some 17, .binOp .quo 3 (.tmp 15) (.tmp 16) 3, none⟩,
    ⟨some 18, .move (.tmp 1), none⟩,
    ⟨some 19, .move (.tmp 5), none⟩,
    ⟨some 20, .binOp .quo 3 (.tmp 18) (.tmp 19) 3, none⟩,
    ⟨some 21, .build 26 #[(0, .tmp 17), (1, .tmp 20)], none⟩,
    ⟨none, .store 26 (.tmp 4) (.tmp 21), none⟩]
   [[], [], [0, 1], [], [], [3, 4], [2, 5], [6, 0, 1, 2, 3, 4, 5, 6]]
def s64 : SCode := (.seq q64_0 (.seq (.seq q64_1 (.cond (.tmp 7) q64_2 .skip)) (.seq q64_3 (.seq q64_4 .ret))))
theorem s64_strip : Ya (Zv Try.f64) = s64 := by kernel_rfl
theorem s64_ok : Yp 22 (Zv Try.f64) = true := by kernel_rfl
/-! 70: planchet bets.whole -/
@[reducible] def q70_0 : SCode := .region [⟨some 2, .alloc 26, none⟩]
@[reducible] def q70_1 : SCode := .region [⟨some 3, .move (.tmp 0), none⟩,
    ⟨some 4, .build 26 #[(0, .tmp 3), (1, .const (.int .i64 1))], none⟩,
    ⟨none, .store 26 (.tmp 2) (.tmp 4), none⟩]
def s70 : SCode := (.seq q70_0 (.seq q70_1 .ret))
theorem s70_strip : Ya (Zv Try.f70) = s70 := by kernel_rfl
theorem s70_ok : Yp 5 (Zv Try.f70) = true := by kernel_rfl
/-! 71: planchet bets.plus -/
@[reducible] def q71_0 : SCode := .region [⟨some 3, .box 26 (.tmp 0), none⟩,
    ⟨some 5, .box 26 (.tmp 2), none⟩,
    ⟨some 6, .alloc 26, none⟩]
@[reducible] def q71_1 : SCode := .region [⟨some 8, .fieldAddr 26 (.tmp 3) 1, none⟩,
    ⟨some 9, .load 3 (.tmp 8), none⟩,
    ⟨some 10, .fieldAddr 26 (.tmp 5) 1, none⟩,
    ⟨some 11, .load 3 (.tmp 10), none⟩,
    ⟨some 12, .call { callee := .value (.func 88), args := #[.tmp 9, .tmp 11], argTypes := #[3, 3] }, none⟩,
    ⟨some 7, .assign (.tmp 12), none⟩]
def q71_2 : SCode := .draw [⟨some 13, .fieldAddr 26 (.tmp 3) 0, none⟩,
    ⟨some 14, .load 3 (.tmp 13), none⟩,
    ⟨some 15, .fieldAddr 26 (.tmp 5) 1, none⟩,
    ⟨some 16, .load 3 (.tmp 15), none⟩,
    ⟨some 17, .move (.tmp 7), none⟩,
    ⟨some 18, .binOp .quo 3 (.tmp 16) (.tmp 17) 3, none⟩,
    ⟨some 19, .binOp .mul 3 (.tmp 14) (.tmp 18) 3, none⟩,
    ⟨some 20, .move (.tmp 1), none⟩,
    ⟨some 21, .fieldAddr 26 (.tmp 5) 0, none⟩,
    ⟨some 22, .load 3 (.tmp 21), none⟩,
    ⟨some 23, .binOp .mul 3 (.tmp 20) (.tmp 22) 3, none⟩,
    ⟨some 24, .fieldAddr 26 (.tmp 3) 1, none⟩,
    ⟨some 25, .load 3 (.tmp 24), none⟩,
    ⟨some 26, .move (.tmp 7), none⟩,
    ⟨some 27, .binOp .quo 3 (.tmp 25) (.tmp 26) 3, none⟩,
    ⟨some 28, .binOp .mul 3 (.tmp 23) (.tmp 27) 3, none⟩,
    ⟨some 29, .binOp .add 3 (.tmp 19) (.tmp 28) 3, none⟩,
    ⟨some 30, .fieldAddr 26 (.tmp 3) 1, none⟩,
    ⟨some 31, .load 3 (.tmp 30), none⟩,
    ⟨some 32, .move (.tmp 7), none⟩,
    ⟨some 33, .binOp .quo 3 (.tmp 31) (.tmp 32) 3, none⟩,
    ⟨some 34, .fieldAddr 26 (.tmp 5) 1, none⟩,
    ⟨some 35, .load 3 (.tmp 34), none⟩,
    ⟨some 36, .binOp .mul 3 (.tmp 33) (.tmp 35) 3, none⟩,
    ⟨some 37, .call { callee := .value (.func 64), args := #[.tmp 29, .tmp 36], argTypes := #[3, 3] }, none⟩,
    ⟨none, .store 26 (.tmp 6) (.tmp 37), none⟩]
   [[], [0], [], [2], [], [3, 4], [1, 5], [], [], [8], [7, 9], [], [11], [], [12, 13], [10, 14], [6, 15], [], [17], [], [18, 19], [], [21], [20, 22], [16, 23], [24, 24, 0, 1, 2, 3, 4, 5, 6, 7, 8, 9, 10, 11, 12, 13, 14, 15, 16, 17, 18, 19, 20, 21, 22, 23, 24]]
def s71 : SCode := (.seq q71_0 (.seq q71_1 (.seq q71_2 .ret)))
theorem s71_strip : Ya (Zv Try.f71) = s71 := by kernel_rfl
theorem s71_ok : Yp 38 (Zv Try.f71) = true := by kernel_rfl
/-! 72: planchet bets.times -/
@[reducible] def q72_0 : SCode := .region [⟨some 2, .box 26 (.tmp 0), none⟩,
    ⟨some 3, .box 26 (.tmp 1), none⟩,
    ⟨some 4, .alloc 26, none⟩]
def q72_1 : SCode := .draw [⟨some 7, .fieldAddr 26 (.tmp 2) 0, none⟩,
    ⟨some 8, .load 3 (.tmp 7), none⟩,
    ⟨some 9, .fieldAddr 26 (.tmp 3) 1, none⟩,
    ⟨some 10, .load 3 (.tmp 9), none⟩,
    ⟨some 11, .call { callee := .value (.func 64), args := #[.tmp 8, .tmp 10], argTypes := #[3, 3] }, none⟩,
    ⟨some 12, .fieldAddr 26 (.tmp 3) 0, none⟩,
    ⟨some 13, .load 3 (.tmp 12), none⟩,
    ⟨some 14, .fieldAddr 26 (.tmp 2) 1, none⟩,
    ⟨some 15, .load 3 (.tmp 14), none⟩,
    ⟨some 16, .call { callee := .value (.func 64), args := #[.tmp 13, .tmp 15], argTypes := #[3, 3] }, none⟩,
    ⟨some 5, .alloc 26, none⟩,
    ⟨some 6, .alloc 26, none⟩,
    ⟨none, .store 26 (.tmp 5) (.tmp 11), none⟩,
    ⟨none, .store 26 (.tmp 6) (.tmp 16), none⟩]
   [[], [0], [], [2], [1, 3], [], [5], [], [7], [6, 8, 4], [], [], [10, 4, 9, 0, 1, 2, 3, 4, 10, 11], [11, 9, 12, 0, 1, 2, 3, 4, 5, 6, 7, 8, 9, 10, 11, 12]]
@[reducible] def q72_2 : SCode := .region [⟨some 17, .fieldAddr 26 (.tmp 5) 0, none⟩,
    ⟨some 18, .load 3 (.tmp 17), none⟩,
    ⟨some 19, .fieldAddr 26 (.tmp 6) 0, none⟩,
    ⟨some 20, .load 3 (.tmp 19), none⟩,
    ⟨some 21, .binOp .mul 3 (.tmp 18) (.tmp 20) 3, none⟩,
    ⟨some 22, .fieldAddr 26 (.tmp 5) 1, none⟩,
    ⟨some 23, .load 3 (.tmp 22), none⟩,
    ⟨some 24, .fieldAddr 26 (.tmp 6) 1, none⟩,
    ⟨some 25, .load 3 (.tmp 24), none⟩,
    ⟨some 26, .binOp .mul 3 (.tmp 23) (.tmp 25) 3, none⟩,
    ⟨some 27, .build 26 #[(0, .tmp 21), (1, .tmp 26)], none⟩,
    ⟨none, .store 26 (.tmp 4) (.tmp 27), none⟩]
def s72 : SCode := (.seq q72_0 (.seq q72_1 (.seq q72_2 .ret)))
theorem s72_strip : Ya (Zv Try.f72) = s72 := by kernel_rfl
theorem s72_ok : Yp 28 (Zv Try.f72) = true := by kernel_rfl
/-! 88: planchet bets.gcd -/
@[reducible] def q88_0 : SCode := .region [⟨some 4, .assign (.const (.int .i64 0)), none⟩]
@[reducible] def q88_1 : SCode := .region [⟨some 5, .move (.tmp 1), none⟩,
    ⟨some 6, .binOp .neq 3 (.tmp 5) (.const (.int .i64 0)) 3, none⟩]
def q88_2 : SCode := .draw [⟨some 7, .move (.tmp 1), none⟩,
    ⟨some 8, .move (.tmp 0), none⟩,
    ⟨some 9, .move (.tmp 1), none⟩,
    ⟨some 10, .binOp .rem 3 (.tmp 8) (.tmp 9) 3, none⟩,
    ⟨some 0, .assign (.tmp 7), none⟩,
    ⟨some 1, .assign (.tmp 10), none⟩]
   [[], [], [], [1, 2], [0, 0, 1], [3, 4, 0, 1, 2, 3, 4]]
def l88_0 : SCode := (.seq (.seq q88_1 (.cond (.tmp 6) .skip (.exit 0))) (.block 1 q88_2))
@[reducible] def q88_3 : SCode := .region [⟨some 11, .move (.tmp 0), none⟩,
    ⟨some 12, .move (.tmp 0), none⟩,
    ⟨some 13, .unOp .neg 3 (.tmp 12), none⟩,
    ⟨some 14, .call { callee := .builtin .max, args := #[.tmp 11, .tmp 13], argTypes := #[3, 3] }, none⟩,
    ⟨some 4, .assign (.tmp 14), none⟩]
def s88 : SCode := (.seq q88_0 (.seq (.block 0 (.loop l88_0)) (.seq q88_3 .ret)))
theorem s88_strip : Ya (Zv Try.f88) = s88 := by kernel_rfl
theorem s88_ok : Yp 15 (Zv Try.f88) = true := by kernel_rfl
theorem s88_call [Tabs Try.prog] {args : List Value} {h : Zh} {Q : Value → Zh → Prop} (hsz : args.length ≤ 15) (hk : aw Try.prog 15 s88 (Zu Try.prog [.tmp 4] Q) (Zp 0 args) h) : ACall Try.prog 88 args h Q :=
  acall_s Try.func88 rfl (enters_of Try.func88 (by kernel_rfl) rfl) rfl rfl (by decide) s88_strip s88_ok hsz hk

/-! 94: planchet bets.over -/
@[reducible] def q94_0 : SCode := .region [⟨some 2, .box 26 (.tmp 0), none⟩,
    ⟨some 3, .box 26 (.tmp 1), none⟩,
    ⟨some 4, .alloc 26, none⟩]
def q94_1 : SCode := .draw [⟨some 5, .load 26 (.tmp 2), none⟩,
    ⟨some 6, .fieldAddr 26 (.tmp 3) 1, none⟩,
    ⟨some 7, .load 3 (.tmp 6), none⟩,
    ⟨some 8, .fieldAddr 26 (.tmp 3) 0, none⟩,
    ⟨some 9, .load 3 (.tmp 8), none⟩,
    ⟨some 10, .call { callee := .value (.func 64), args := #[.tmp 7, .tmp 9], argTypes := #[3, 3] }, none⟩,
    ⟨some 11, .call { callee := .value (.func 72), args := #[.tmp 5, .tmp 10], argTypes := #[26, 26] }, none⟩,
    ⟨none, .store 26 (.tmp 4) (.tmp 11), none⟩]
   [[], [], [1], [], [3], [2, 4], [0, 5, 5], [6, 6, 0, 1, 2, 3, 4, 5, 6]]
def s94 : SCode := (.seq q94_0 (.seq q94_1 .ret))
theorem s94_strip : Ya (Zv Try.f94) = s94 := by kernel_rfl
theorem s94_ok : Yp 12 (Zv Try.f94) = true := by kernel_rfl
end Go.Proofs.Try.Am

namespace Bq

theorem mul_den (q : Rat) : q * (q.den : Rat) = (q.num : Rat) := by
  have h := Rat.num_divInt_den q
  rw [Rat.divInt_eq_div] at h
  have h0 : (q.den : Rat) ≠ 0 := by
    have := q.den_nz
    intro hc
    exact this (by exact_mod_cast hc)
  conv => lhs; lhs; rw [← h]
  rw [Rat.intCast_natCast]
  exact Rat.div_mul_cancel h0
theorem eq_of_mul {a b c : Rat} (hc : c ≠ 0) (h : a * c = b * c) : a = b := by
  rw [← Rat.mul_div_cancel (a := a) hc, h, Rat.mul_div_cancel hc]
/-- What is y times as great as x is a fraction of them. -/
theorem divInt_of_mul {x y : Int} {q : Rat} (hy : y ≠ 0) (h : q * (y : Rat) = (x : Rat)) : Rat.divInt x y = q := by
  have h0 : (y : Rat) ≠ 0 := fun hc => hy (by exact_mod_cast hc)
  rw [Rat.divInt_eq_div, ← h]
  exact Rat.mul_div_cancel h0
theorem divInt_mul {x y : Int} (hy : y ≠ 0) : Rat.divInt x y * (y : Rat) = (x : Rat) := by
  have h0 : (y : Rat) ≠ 0 := fun hc => hy (by exact_mod_cast hc)
  rw [Rat.divInt_eq_div]
  exact Rat.div_mul_cancel h0

/-- q is x of N parts. -/
def Rp (N : Nat) (x : Int) (q : Rat) : Prop := 0 < N ∧ q * (N : Rat) = (x : Rat)

section
variable {N M : Nat} {x y k : Int} {a b q : Rat}
theorem Rp.pos (h : Rp N x q) : 0 < N := h.1
theorem Rp.int (h : Rp N x q) : q.num * N = x * q.den := by
  have h1 := h.2
  have h2 := mul_den q
  have : (q.num : Rat) * (N : Rat) = (x : Rat) * (q.den : Rat) := by grind
  exact_mod_cast this
theorem Rp.dvd (h : Rp N x q) : q.den ∣ N := by
  have h1 := h.int
  have h2 : (q.den : Int) ∣ q.num * (N : Int) := ⟨x, by rw [h1, Int.mul_comm]⟩
  have h3 : q.den ∣ q.num.natAbs * N := by
    have := Int.natAbs_dvd_natAbs.2 h2
    simpa [Int.natAbs_mul] using this
  exact Nat.Coprime.dvd_of_dvd_mul_left (Nat.Coprime.symm q.reduced) h3
theorem Rp.num (h : Rp N x q) : q.num * ((N / q.den : Nat) : Int) = x := by
  obtain ⟨t, ht⟩ := h.dvd
  have hd : 0 < q.den := q.den_pos
  have h1 := h.int
  have e : N / q.den = t := by rw [ht]; exact Nat.mul_div_cancel_left _ hd
  rw [e]
  have h2 : (q.den : Int) * (q.num * t) = q.den * x := by
    rw [Int.mul_comm (q.den : Int) x, ← h1, ht]
    push_cast
    grind
  exact Int.eq_of_mul_eq_mul_left (by omega) h2
theorem Rp.le (h : Rp N x q) : q.num.natAbs ≤ x.natAbs := by
  rw [← h.num, Int.natAbs_mul, Int.natAbs_natCast]
  refine Nat.le_mul_of_pos_right _ ?_
  exact Nat.div_pos (Nat.le_of_dvd h.pos h.dvd) q.den_pos
theorem Rp.den_le (h : Rp N x q) : q.den ≤ N := Nat.le_of_dvd h.pos h.dvd
theorem Rp.own (q : Rat) : Rp q.den q.num q := ⟨q.den_pos, mul_den q⟩
theorem Rp.whole (hN : 0 < N) (k : Int) : Rp N (k * N) (k : Rat) := ⟨hN, by push_cast; rfl⟩
theorem Rp.up (h : Rp N x q) (t : Nat) (ht : 0 < t) : Rp (N * t) (x * t) q := ⟨Nat.mul_pos h.1 ht, by have := h.2; push_cast; grind⟩
theorem Rp.up' (h : Rp N x q) (hd : N ∣ M) (hM : 0 < M) : Rp M (x * ((M / N : Nat) : Int)) q := by
  obtain ⟨t, rfl⟩ := hd
  have ht : 0 < t := Nat.pos_of_mul_pos_left hM
  rw [Nat.mul_div_cancel_left _ h.1]
  exact h.up t ht
theorem Rp.plus (ha : Rp N x a) (hb : Rp N y b) (k : Int) : Rp N (x + k * y) (a + k * b) := ⟨ha.1, by have := ha.2; have := hb.2; push_cast; grind⟩
theorem Rp.mul (ha : Rp N x a) (hb : Rp M y b) : Rp (N * M) (x * y) (a * b) := ⟨Nat.mul_pos ha.1 hb.1, by have := ha.2; have := hb.2; push_cast; grind⟩
theorem Rp.frac (h : Rp N x q) : Rat.divInt x N = q := divInt_of_mul (by have := h.1; omega) (by rw [Rat.intCast_natCast]; exact h.2)
theorem Rp.of_frac (hN : 0 < N) (x : Int) : Rp N x (Rat.divInt x N) := ⟨hN, by have := divInt_mul (x := x) (y := (N : Int)) (by omega); rwa [Rat.intCast_natCast] at this⟩
theorem Rp.neg (h : Rp N x q) : Rp N (-x) (-q) := ⟨h.1, by have := h.2; push_cast; grind⟩
theorem Rp.lt (ha : Rp N x a) (hb : Rp N y b) : a < b ↔ x < y := by
  have h0 : (0 : Rat) < N := by exact_mod_cast ha.1
  rw [← Rat.mul_lt_mul_right h0, ha.2, hb.2]
  exact Rat.intCast_lt_intCast
end

/-- The sum as the program makes it. -/
theorem plus_eq (a b : Rat) (k : Int) : Rat.divInt (a.num * ((b.den / Nat.gcd a.den b.den : Nat) : Int) + k * b.num * ((a.den / Nat.gcd a.den b.den : Nat) : Int)) (((a.den / Nat.gcd a.den b.den : Nat) : Int) * b.den) = a + k * b := by
  have hg : 0 < Nat.gcd a.den b.den := Nat.gcd_pos_of_pos_left _ a.den_pos
  obtain ⟨A, hA⟩ := Nat.gcd_dvd_left a.den b.den
  obtain ⟨B, hB⟩ := Nat.gcd_dvd_right a.den b.den
  generalize hgd : Nat.gcd a.den b.den = g at hg hA hB
  have eA : a.den / g = A := by rw [hA]; exact Nat.mul_div_cancel_left _ hg
  have eB : b.den / g = B := by rw [hB]; exact Nat.mul_div_cancel_left _ hg
  rw [eA, eB]
  have hA0 : A ≠ 0 := fun h => by rw [h, Nat.mul_zero] at hA; exact a.den_nz hA
  refine divInt_of_mul ?_ ?_
  · have := b.den_nz
    exact Int.mul_ne_zero (by omega) (by omega)
  · have h1 := mul_den a
    have h2 := mul_den b
    rw [hA] at h1
    rw [hB] at h2 ⊢
    push_cast at h1 h2 ⊢
    grind
/-- What stands in it is no greater than the parts. -/
theorem plus_bound {N : Nat} {x y k : Int} {a b : Rat} (ha : Rp N x a) (hb : Rp N y b) :
    (a.num * ((b.den / Nat.gcd a.den b.den : Nat) : Int)).natAbs ≤ x.natAbs ∧ (k * b.num).natAbs ≤ (k * y).natAbs ∧ (k * b.num * ((a.den / Nat.gcd a.den b.den : Nat) : Int)).natAbs ≤ (k * y).natAbs ∧ a.den / Nat.gcd a.den b.den * b.den ≤ N ∧ 0 < a.den / Nat.gcd a.den b.den * b.den := by
  have hg : 0 < Nat.gcd a.den b.den := Nat.gcd_pos_of_pos_left _ a.den_pos
  have hl : a.den / Nat.gcd a.den b.den * b.den = Nat.lcm a.den b.den := by
    rw [Nat.lcm, Nat.div_mul_right_comm (Nat.gcd_dvd_left _ _)]
  have hl2 : b.den / Nat.gcd a.den b.den * a.den = Nat.lcm a.den b.den := by
    rw [Nat.lcm, Nat.mul_comm a.den b.den, Nat.div_mul_right_comm (Nat.gcd_dvd_right _ _)]
  have hdvd : Nat.lcm a.den b.den ∣ N := Nat.lcm_dvd ha.dvd hb.dvd
  obtain ⟨t, ht⟩ := hdvd
  have hN := ha.pos
  have ht0 : 0 < t := Nat.pos_of_ne_zero fun h => by rw [h, Nat.mul_zero] at ht; omega
  have hx : x = a.num * ((b.den / Nat.gcd a.den b.den : Nat) : Int) * t := by
    rw [← ha.num]
    have : N / a.den = b.den / Nat.gcd a.den b.den * t := by
      rw [ht, ← hl2]
      rw [show b.den / Nat.gcd a.den b.den * a.den * t = a.den * (b.den / Nat.gcd a.den b.den * t) by rw [Nat.mul_comm _ a.den, Nat.mul_assoc]]
      exact Nat.mul_div_cancel_left _ a.den_pos
    rw [this]; push_cast; rw [Int.mul_assoc]
  have hy : y = b.num * ((a.den / Nat.gcd a.den b.den : Nat) : Int) * t := by
    rw [← hb.num]
    have : N / b.den = a.den / Nat.gcd a.den b.den * t := by
      rw [ht, ← hl]
      rw [show a.den / Nat.gcd a.den b.den * b.den * t = b.den * (a.den / Nat.gcd a.den b.den * t) by rw [Nat.mul_comm _ b.den, Nat.mul_assoc]]
      exact Nat.mul_div_cancel_left _ b.den_pos
    rw [this]; push_cast; rw [Int.mul_assoc]
  have hag : 0 < a.den / Nat.gcd a.den b.den := Nat.div_pos (Nat.le_of_dvd a.den_pos (Nat.gcd_dvd_left _ _)) hg
  refine ⟨?_, ?_, ?_, ?_, ?_⟩
  · rw [hx, Int.natAbs_mul _ (t : Int), Int.natAbs_natCast]; exact Nat.le_mul_of_pos_right _ ht0
  · rw [Int.natAbs_mul, Int.natAbs_mul]; exact Nat.mul_le_mul_left _ hb.le
  · rw [hy, ← Int.mul_assoc, ← Int.mul_assoc, Int.natAbs_mul _ (t : Int), Int.natAbs_natCast]; exact Nat.le_mul_of_pos_right _ ht0
  · rw [hl]; exact Nat.le_of_dvd hN ⟨t, ht⟩
  · exact Nat.mul_pos hag b.den_pos

/-- The product as the program makes it. -/
theorem times_eq (a b : Rat) : (Rat.divInt a.num b.den).num * (Rat.divInt b.num a.den).num = (a * b).num ∧ (Rat.divInt a.num b.den).den * (Rat.divInt b.num a.den).den = (a * b).den := by
  have hb0 : (b.den : Int) ≠ 0 := by have := b.den_nz; omega
  have ha0 : (a.den : Int) ≠ 0 := by have := a.den_nz; omega
  have h1 := divInt_mul (x := a.num) hb0
  have h2 := divInt_mul (x := b.num) ha0
  have d1 : (Rat.divInt a.num b.den).num ∣ a.num := by
    have : Rp b.den a.num (Rat.divInt a.num b.den) := Rp.of_frac b.den_pos _
    exact ⟨_, this.num.symm⟩
  have d2 : (Rat.divInt b.num a.den).num ∣ b.num := by
    have : Rp a.den b.num (Rat.divInt b.num a.den) := Rp.of_frac a.den_pos _
    exact ⟨_, this.num.symm⟩
  have e1 : (Rat.divInt a.num b.den).den ∣ b.den := (Rp.of_frac b.den_pos a.num).dvd
  have e2 : (Rat.divInt b.num a.den).den ∣ a.den := (Rp.of_frac a.den_pos b.num).dvd
  generalize hu : Rat.divInt a.num b.den = u at *
  generalize hv : Rat.divInt b.num a.den = v at *
  have hc : Nat.Coprime (u.num * v.num).natAbs (u.den * v.den) := by
    rw [Int.natAbs_mul]
    have c1 : Nat.Coprime u.num.natAbs v.den := Nat.Coprime.coprime_dvd_left (Int.natAbs_dvd_natAbs.2 d1) (Nat.Coprime.coprime_dvd_right e2 a.reduced)
    have c2 : Nat.Coprime v.num.natAbs u.den := Nat.Coprime.coprime_dvd_left (Int.natAbs_dvd_natAbs.2 d2) (Nat.Coprime.coprime_dvd_right e1 b.reduced)
    exact Nat.Coprime.mul_left (Nat.Coprime.mul_right u.reduced c1) (Nat.Coprime.mul_right c2 v.reduced)
  have hd : u.den * v.den ≠ 0 := Nat.mul_ne_zero u.den_nz v.den_nz
  have key : (⟨u.num * v.num, u.den * v.den, hd, hc⟩ : Rat) = a * b := by
    have k1 : (⟨u.num * v.num, u.den * v.den, hd, hc⟩ : Rat) = u * v := by
      have := mul_den (⟨u.num * v.num, u.den * v.den, hd, hc⟩ : Rat)
      simp only at this
      have hu2 := mul_den u
      have hv2 := mul_den v
      have hn : ((u.den * v.den : Nat) : Rat) ≠ 0 := fun h => hd (by exact_mod_cast h)
      have k2 : (⟨u.num * v.num, u.den * v.den, hd, hc⟩ : Rat) * ((u.den * v.den : Nat) : Rat) = u * v * ((u.den * v.den : Nat) : Rat) := by
        rw [this]; push_cast; grind
      exact eq_of_mul hn k2
    rw [k1]
    have ha2 := mul_den a
    have hb2 := mul_den b
    have hn : ((a.den * b.den : Nat) : Rat) ≠ 0 := fun h => Nat.mul_ne_zero a.den_nz b.den_nz (by exact_mod_cast h)
    have k2 : u * v * ((a.den * b.den : Nat) : Rat) = a * b * ((a.den * b.den : Nat) : Rat) := by
      rw [Rat.intCast_natCast] at h1 h2
      push_cast; grind
    exact eq_of_mul hn k2
  exact ⟨by rw [← key], by rw [← key]⟩
end Bq

namespace Go.Proofs.Try.Am
open Go.Am Bq
set_option maxRecDepth 100000
set_option maxHeartbeats 1000000

theorem Xy (h : Zh) (A B : Blk) : (h ++ [A]).set h.length B = h ++ [B] := by
  rw [List.set_append_right _ _ (Nat.le_refl _)]; simp
/-- A fraction, as it stands, and that of a number. -/
def frV (x y : Int) : Value := .agg #[Zd x, Zd y]
def qV (q : Rat) : Value := frV q.num q.den
theorem low_frV (x y : Int) : Low (frV x y) := .agg fun w hw => by
  simp at hw; rcases hw with rfl | rfl <;> exact .int _ _
theorem Xz {h : Zh} {b : Nat} {x y : Int} {e : TypeId} {ro : Bool} {K : Value → Prop} (hb : h[b]? = some (.cells [Zd x, Zd y] e ro)) : Xu prog h 26 (.pointer (some ⟨b, 0, none⟩)) K = K (.agg #[Zd x, Zd y]) :=
  loadA hb (by rw [shp_26]; rfl)
theorem loadF0 {h : Zh} {b : Nat} {x y : Int} {e : TypeId} {ro : Bool} {K : Value → Prop} (hb : h[b]? = some (.cells [Zd x, Zd y] e ro)) : Xu prog h 3 (.pointer (some ⟨b, 0, none⟩)) K = K (Zd x) := loadC hb shp_3 rfl
theorem loadF1 {h : Zh} {b : Nat} {x y : Int} {e : TypeId} {ro : Bool} {K : Value → Prop} (hb : h[b]? = some (.cells [Zd x, Zd y] e ro)) : Xu prog h 3 (.pointer (some ⟨b, 1, none⟩)) K = K (Zd y) := loadC hb shp_3 rfl
theorem Xw {h : Zh} {b : Nat} {x y : Int} {e : TypeId} {c : List Value} {K : Zh → Prop} (hb : h[b]? = some (.cells c e false)) (hc : c.length = 2) : Xh prog h 26 (.pointer (some ⟨b, 0, none⟩)) (.agg #[Zd x, Zd y]) K = K (h.set b (.cells [Zd x, Zd y] e false)) :=
  storeA (vs := [Zd x, Zd y]) hb (by rw [shp_26]; rfl) rfl (by rw [hc]; rfl)
theorem bldF {x y : Int} {K : Value → Prop} : Wx prog 26 [(0, Zd x), (1, Zd y)] K = K (.agg #[Zd x, Zd y]) := by
  simp [Wx, zero_26, fillL, pl_26_0, pl_26_1, Wd, cellsOf, Yc]
theorem bldF0 {K : Value → Prop} : Wx prog 26 [] K = K (.agg #[Zd 0, Zd 0]) := by
  simp [Wx, zero_26, fillL, pl_26_0]
theorem boxF {h : Zh} {x y : Int} {K : Value → Zh → Prop} : boxK prog h 26 (.agg #[Zd x, Zd y]) K = K (Yx h) (h ++ [.cells [Zd x, Zd y] 26 false]) := by
  simp [boxK, esz_26, Yx, cellsOf]
theorem fA0 {b : Nat} {K : Value → Prop} : Yy prog 26 (.pointer (some ⟨b, 0, none⟩)) 0 K = K (.pointer (some ⟨b, 0, none⟩)) := fldA fld_26_0 esz_3
theorem fA1 {b : Nat} {K : Value → Prop} : Yy prog 26 (.pointer (some ⟨b, 0, none⟩)) 1 K = K (.pointer (some ⟨b, 1, none⟩)) := fldA fld_26_1 esz_3
theorem fld0 {x y : Int} {K : Value → Prop} : fieldK prog 26 (.agg #[Zd x, Zd y]) 0 K = K (Zd x) := by
  simp [fieldK, fld_26_0, partK, shp_3]
noncomputable def okF (p : Field × Nat) : Bool := p.1.name != "_" && (match prog.underlying p.1.type with | some (.int .i64) => true | _ => false) && p.1.offset == p.2
theorem eqF [Tabs prog] : EqT prog 26 2 := eqT_struct (by kernel_rfl) (by kernel_rfl) (by kernel_rfl) (fun j f hf => by
  have h4 : (prog.fieldsOf 26).toList.zipIdx.all okF = true := by kernel_rfl
  have h5 := List.all_eq_true.1 h4 (f, j) (by rw [List.mem_zipIdx_iff_getElem?]; exact hf)
  simp only [okF, Bool.and_eq_true, bne_iff_ne, beq_iff_eq] at h5
  refine ⟨h5.1.1, ?_, h5.2⟩
  have h6 := h5.1.2
  split at h6
  · assumption
  · cases h6) (by kernel_rfl)

theorem quo_dvd {x y : Int} (hx : x.natAbs < 9223372036854775808) (hd : y ∣ x) : quoV .i64 x y = x / y := by
  rw [quoV, Int.tdiv_eq_ediv_of_dvd hd]
  have h1 : (x / y).natAbs ≤ x.natAbs := by
    obtain ⟨t, rfl⟩ := hd
    rcases Int.lt_trichotomy y 0 with h | h | h
    · rw [Int.mul_ediv_cancel_left _ (by omega), Int.natAbs_mul]; exact Nat.le_mul_of_pos_left _ (by omega)
    · subst h; simp
    · rw [Int.mul_ediv_cancel_left _ (by omega), Int.natAbs_mul]; exact Nat.le_mul_of_pos_left _ (by omega)
  exact wrap_id (by omega) (by omega)
theorem tmod_abs (x : Int) {y : Int} (hy : y ≠ 0) : (x.tmod y).natAbs < y.natAbs := by
  rw [Int.natAbs_tmod]; exact Nat.mod_lt _ (by omega)
theorem gcd_tmod (x y : Int) : Nat.gcd y.natAbs (x.tmod y).natAbs = Nat.gcd x.natAbs y.natAbs := by
  rw [Int.natAbs_tmod, Nat.gcd_comm y.natAbs, ← Nat.gcd_rec, Nat.gcd_comm]
theorem max_abs {x : Int} (hx : x.natAbs < 9223372036854775808) : (if subV .i64 0 x > x then subV .i64 0 x else x) = (x.natAbs : Int) := by
  rw [subV_id (by omega) (by omega)]; split <;> omega

theorem gcd_call [Tabs prog] {h : Zh} {a b : Int} (ha : a.natAbs < 9223372036854775808 ∨ b ≠ 0) (hb2 : b.natAbs < 9223372036854775808) : Xm prog 88 [Zd a, Zd b] h (Zd (Nat.gcd a.natAbs b.natAbs : Nat)) := by
  refine s88_call (by simp) ?_
  simp only [s88]
  simp (maxSteps := 2000000) only [↓Za, ↓Zw, ↓aw_block, ↓Zb, ↓Zc, vup, cond_false, aop, Zg, Zp, ev, sput, Zf, Nat.reduceBEq, Nat.reduceAdd, ↓aw_loop_eq]
  refine Zy fun Q hQ => ?_
  refine aw_loop (γ := Int × Int) (fun s => Nat.gcd s.1.natAbs s.2.natAbs = Nat.gcd a.natAbs b.natAbs ∧ (s.1.natAbs < 9223372036854775808 ∨ s.2 ≠ 0) ∧ s.2.natAbs < 9223372036854775808)
    (fun s => ([(0, Zd s.1), (1, Zd s.2), (4, .int .i64 0)], h)) (fun s => s.2.natAbs) (a, b) ⟨rfl, ha, hb2⟩ (by simp (maxSteps := 2000000) only [vup, cond_true, cond_false, Nat.reduceBEq]) rfl ?_
  rintro ⟨x, y⟩ ⟨hxy, hx, hy⟩
  simp only at hxy hx hy
  refine aw_hide fun Q2 hQ2 => ?_
  by_cases hy0 : y = 0
  · subst hy0
    have e0 : ((0 : Int) != 0) = false := rfl
    rw [Int.natAbs_zero, Nat.gcd_zero_right] at hxy
    have hx' : x.natAbs < 9223372036854775808 := hx.resolve_right (by simp)
    simp (maxSteps := 2000000) only [↓Za, ↓Zw, ↓Xl, ↓Zb, ↓Zc, ↓vdn, vup, cond_true, cond_false, aop, Zg, ev, sput, Zf, Yk, Yl, Nat.reduceBEq, l88_0, e0]
    refine hQ2 _ _ _ (hQ _ _ _ ?_)
    simp (maxSteps := 2000000) only [↓Za, ↓Zw, ↓Zz, ↓Zb, ↓Zc, vup, List.map_cons, List.map_nil, cond_true, cond_false, aop, Zg, Zo, ev, sput, Zf, unK, Zk, Nat.reduceBEq, Zu, Xx, tup, if_true, mmK, max_abs hx', hxy]
  · have e0 : (y != 0) = true := by simpa using hy0
    simp (maxSteps := 2000000) only [↓Za, ↓Zs, ↓Zw, ↓aw_block, ↓Zb, ↓Zc, ↓vdn, vup, cond_true, cond_false, aop, Zg, ev, sput, Zf, Yk, Yl, Nat.reduceBEq, l88_0, e0]
    refine Wl [] (by kernel_rfl) (by kernel_rfl) (by kernel_rfl) (by kernel_rfl) ?_
    simp (maxSteps := 2000000) only [↓Xj, ↓vdn, vup, cond_true, cond_false, aop, Zo, ev, sput, Zf, Yk, Yl, Nat.reduceBEq, ne_eq, hy0, not_false_eq_true]
    have hlt := tmod_abs x hy0
    exact hQ2 _ _ _ ⟨(y, x.tmod y), ⟨by simp only; rw [gcd_tmod, hxy], .inl hy, by simp only; omega⟩, hlt, by simp (maxSteps := 2000000) only [vup, cond_true, cond_false, Nat.reduceBEq], rfl⟩

/-- The least terms, as the program makes them. -/
theorem terms {x : Int} {n : Nat} (hn : 0 < n) : x / ((Nat.gcd x.natAbs n : Nat) : Int) = (Rat.divInt x n).num ∧ ((n / Nat.gcd x.natAbs n : Nat) : Int) = (Rat.divInt x n).den := by
  rw [Rat.divInt_ofNat, Rat.num_mkRat, Rat.den_mkRat, if_neg (by omega), if_neg (by omega), Nat.gcd_comm n]
  exact ⟨rfl, rfl⟩
theorem gcd_dvd_int (x : Int) (n : Nat) : ((Nat.gcd x.natAbs n : Nat) : Int) ∣ x := Int.dvd_natAbs.1 (Int.natCast_dvd_natCast.2 (Nat.gcd_dvd_left _ _))

theorem s64_callW [Tabs Try.prog] {args : List Value} {h : Zh} {Q : Value → Zh → Prop} (hsz : args.length ≤ 22) (hk : AWS Try.prog 22 s64 (Zu Try.prog [.cell 4 26] Q) (Zp 0 args) h) : ACall Try.prog 64 args h Q :=
  Yv Try.func64 rfl (enters_of Try.func64 (by kernel_rfl) rfl) rfl rfl (by decide) s64_strip s64_ok hsz hk
theorem frac_call [Tabs prog] {h : Zh} {a b : Int} (hb : b ≠ 0) (ha : a.natAbs < 9223372036854775808) (hb2 : b.natAbs < 9223372036854775808) : Xm prog 64 [Zd a, Zd b] h (qV (Rat.divInt a b)) := by
  have c0 := Yh h (Blk.cells [.int .i64 0, .int .i64 0] 26 false)
  have hE0 : Ext (fun _ => False) h (h ++ [Blk.cells [.int .i64 0, .int .i64 0] 26 false]) := Ext.app _ _ _
  obtain ⟨x, n, hn, hx, hn2, hq, hneg, hpos⟩ : ∃ (x : Int) (n : Nat), 0 < n ∧ x.natAbs < 9223372036854775808 ∧ n < 9223372036854775808 ∧ Rat.divInt x n = Rat.divInt a b ∧ (b < 0 → subV .i64 0 a = x ∧ subV .i64 0 b = n) ∧ (¬ b < 0 → a = x ∧ b = n) := by
    by_cases h0 : b < 0
    · refine ⟨-a, b.natAbs, by omega, by omega, hb2, ?_, fun _ => ⟨?_, ?_⟩, fun h => absurd h0 h⟩
      · rw [show ((b.natAbs : Nat) : Int) = -b by omega]; exact Rat.neg_divInt_neg a b
      · rw [subV_id (by omega) (by omega)]; omega
      · rw [subV_id (by omega) (by omega)]; omega
    · exact ⟨a, b.natAbs, by omega, ha, hb2, by rw [show ((b.natAbs : Nat) : Int) = b by omega], fun h => absurd h h0, fun _ => ⟨rfl, by omega⟩⟩
  refine ACall.forget (low_frV _ _) ?_
  refine s64_callW (by simp) ?_
  simp only [s64]
  refine Ze fun N1 hN1 => ?_
  simp (maxSteps := 2000000) only [↓Za, ↓Zb, ↓Zc, vup, cond_false, aop, Zg, Zp, sput, Zf, Nat.reduceBEq, Nat.reduceAdd, tyf, Xn, Yx]
  refine hN1 [(0, Zd a), (1, Zd b), (4, .pointer (some ⟨h.length, 0, none⟩))] _ _ ?_ (by simp (maxSteps := 2000000) only [vup, cond_true, cond_false, Nat.reduceBEq])
  clear hN1
  try clear N1
  refine Ze fun M hM => ?_
  have key : ∀ e, ELe e [(0, Zd x), (1, Zd (n : Int)), (4, .pointer (some ⟨h.length, 0, none⟩))] → M e (h ++ [Blk.cells [.int .i64 0, .int .i64 0] 26 false]) := by
    intro e he
    refine hM [(0, Zd x), (1, Zd (n : Int)), (4, .pointer (some ⟨h.length, 0, none⟩))] _ _ ?_ he
    refine Ze fun N2 hN2 => ?_
    simp (maxSteps := 2000000) only [↓Za, ↓Zb, ↓Zc, vup, List.map_cons, List.map_nil, cond_true, cond_false, aop, Zg, ev, sput, Zf, Nat.reduceBEq, Yr, List.nil_append, List.append_nil]
    refine (gcd_call (.inl hx) (by omega)).mono ?_
    rintro _ _ ⟨rfl, rfl⟩
    rw [Int.natAbs_natCast]
    refine hN2 [(0, Zd x), (1, Zd (n : Int)), (4, .pointer (some ⟨h.length, 0, none⟩)), (5, Zd (Nat.gcd x.natAbs n : Nat))] _ _ ?_ (by simp (maxSteps := 2000000) only [vup, cond_true, cond_false, Nat.reduceBEq])
    clear hN2
    try clear N2
    have hg : ¬ ((Nat.gcd x.natAbs n : Nat) : Int) = 0 := by have := Nat.gcd_pos_of_pos_right x.natAbs hn; omega
    have q1 : quoV .i64 x ((Nat.gcd x.natAbs n : Nat) : Int) = (Rat.divInt a b).num := by rw [quo_dvd hx (gcd_dvd_int _ _), (terms hn).1, hq]
    have q2 : quoV .i64 (n : Int) ((Nat.gcd x.natAbs n : Nat) : Int) = (Rat.divInt a b).den := by
      rw [quo_dvd (by omega) (Int.natCast_dvd_natCast.2 (Nat.gcd_dvd_right _ _)), ← hq, ← (terms hn).2, Int.natCast_ediv]
    refine Zi ?_
    simp only [q64_4]
    refine aw_cut fun N hN => ?_
    refine Wl [] (by kernel_rfl) (by kernel_rfl) (by kernel_rfl) (by kernel_rfl) ?_
    simp (maxSteps := 2000000) only [↓Xj, ↓vdn, vup, List.map_cons, List.map_nil, cond_true, cond_false, aop, Zg, ev, sput, Zf, Yk, Yl, Nat.reduceBEq, ne_eq, hg, not_false_eq_true, q1, q2, bldF, Xw c0 rfl]
    refine hN _ _ ?_
    simp (maxSteps := 2000000) only [↓Zz, vup, cond_true, cond_false, Nat.reduceBEq, Zu, Xx, tup, Xz (Wa (h := h ++ [Blk.cells [.int .i64 0, .int .i64 0] 26 false]) (b := h.length) (by simp) _)]
    exact ⟨rfl, hE0.set_ge (Nat.le_refl _) _⟩
  by_cases hb0 : b < 0
  · simp (maxSteps := 2000000) only [↓Za, ↓Zw, ↓Zb, ↓Zc, ↓vdn, vup, cond_true, cond_false, aop, Zg, ev, sput, Zf, Yk, Yl, unK, Nat.reduceBEq, hb0, (hneg hb0).1, (hneg hb0).2]
    exact key _ (by simp (maxSteps := 2000000) only [vup, cond_true, cond_false, Nat.reduceBEq])
  · simp (maxSteps := 2000000) only [↓Za, ↓Zs, ↓Zw, ↓Zb, ↓Zc, ↓vdn, vup, cond_true, cond_false, aop, Zg, ev, sput, Zf, Yk, Yl, Nat.reduceBEq, hb0]
    exact key _ (by simp (maxSteps := 2000000) only [vup, cond_true, cond_false, Nat.reduceBEq, (hpos hb0).1, (hpos hb0).2])
end Go.Proofs.Try.Am

namespace Go.Proofs.Try.Am
open Go.Am Bq
set_option maxRecDepth 100000
set_option maxHeartbeats 1000000

section
variable (h : Zh) (A B C : Blk)
theorem b2_0 : (h ++ [A] ++ [B])[h.length]? = some A := by simp
theorem b2_1 : (h ++ [A] ++ [B])[h.length + 1]? = some B := by simp
theorem b3_0 : (h ++ [A] ++ [B] ++ [C])[h.length]? = some A := by simp
theorem b3_1 : (h ++ [A] ++ [B] ++ [C])[h.length + 1]? = some B := by simp
theorem b3_2 : (h ++ [A] ++ [B] ++ [C])[h.length + 2]? = some C := by simp
theorem e2 : Ext (fun _ => False) h (h ++ [A] ++ [B]) := by rw [List.append_assoc]; exact Ext.app _ _ _
theorem e3 : Ext (fun _ => False) h (h ++ [A] ++ [B] ++ [C]) := by rw [List.append_assoc, List.append_assoc]; exact Ext.app _ _ _
end
abbrev fC (x y : Int) : Blk := .cells [Zd x, Zd y] 26 false
abbrev z0 : Blk := .cells [.int .i64 0, .int .i64 0] 26 false

theorem quoD {x y : Nat} (hx : x < 9223372036854775808) (hd : y ∣ x) : quoV .i64 (x : Int) (y : Int) = ((x / y : Nat) : Int) := by
  rw [quo_dvd (by omega) (Int.natCast_dvd_natCast.2 hd), Int.natCast_ediv]
theorem mulN {a b : Int} (h : (a * b).natAbs < 9223372036854775808) : mulV .i64 a b = a * b := mulV_id (by omega) (by omega)
theorem addN {a b : Int} (h : a.natAbs + b.natAbs < 9223372036854775808) : addV .i64 a b = a + b := addV_id (by omega) (by omega)
theorem subN {a b : Int} (h : a.natAbs + b.natAbs < 9223372036854775808) : subV .i64 a b = a - b := subV_id (by omega) (by omega)

theorem s71_callW [Tabs Try.prog] {args : List Value} {h : Zh} {Q : Value → Zh → Prop} (hsz : args.length ≤ 38) (hk : AWS Try.prog 38 s71 (Zu Try.prog [.cell 6 26] Q) (Zp 0 args) h) : ACall Try.prog 71 args h Q :=
  Yv Try.func71 rfl (enters_of Try.func71 (by kernel_rfl) rfl) rfl rfl (by decide) s71_strip s71_ok hsz hk
theorem plus_call [Tabs prog] {h : Zh} {a b : Rat} {k x y : Int} {N : Nat} (ha : Rp N x a) (hb : Rp N y b) (hx : x.natAbs + (k * y).natAbs < 9223372036854775808) (hN : N < 9223372036854775808) : Xm prog 71 [qV a, Zd k, qV b] h (qV (a + k * b)) := by
  obtain ⟨p1, p2, p3, p4, p5⟩ := plus_bound (k := k) ha hb
  have da := ha.den_le
  have db := hb.den_le
  have hg := Nat.gcd_pos_of_pos_left b.den a.den_pos
  have pe := plus_eq a b k
  obtain ⟨H, hH⟩ : ∃ H, H = h ++ [fC a.num a.den] ++ [fC b.num b.den] ++ [z0] := ⟨_, rfl⟩
  have c3 : H[h.length]? = some (fC a.num a.den) := by rw [hH]; exact b3_0 ..
  have c5 : H[h.length + 1]? = some (fC b.num b.den) := by rw [hH]; exact b3_1 ..
  have c6 : H[h.length + 2]? = some z0 := by rw [hH]; exact b3_2 ..
  have hE : Ext (fun _ => False) h H := by rw [hH]; exact e3 ..
  have hg0 : ¬ ((Nat.gcd a.den b.den : Nat) : Int) = 0 := by omega
  have q1 := quoD (x := b.den) (show b.den < 9223372036854775808 by omega) (Nat.gcd_dvd_right a.den b.den)
  have q2 := quoD (x := a.den) (show a.den < 9223372036854775808 by omega) (Nat.gcd_dvd_left a.den b.den)
  have m1 := mulN (a := a.num) (b := ((b.den / Nat.gcd a.den b.den : Nat) : Int)) (by omega)
  have m2 := mulN (a := k) (b := b.num) (by omega)
  have m3 := mulN (a := k * b.num) (b := ((a.den / Nat.gcd a.den b.den : Nat) : Int)) (by omega)
  have m4 := addN (a := a.num * ((b.den / Nat.gcd a.den b.den : Nat) : Int)) (b := k * b.num * ((a.den / Nat.gcd a.den b.den : Nat) : Int)) (by omega)
  have m5 : mulV .i64 ((a.den / Nat.gcd a.den b.den : Nat) : Int) (b.den : Int) = ((a.den / Nat.gcd a.den b.den * b.den : Nat) : Int) := by
    rw [mulN (by rw [← Int.natCast_mul]; omega), Int.natCast_mul]
  have pe' : Rat.divInt (a.num * ((b.den / Nat.gcd a.den b.den : Nat) : Int) + k * b.num * ((a.den / Nat.gcd a.den b.den : Nat) : Int)) ((a.den / Nat.gcd a.den b.den * b.den : Nat) : Int) = a + k * b := by
    rw [Int.natCast_mul]; exact pe
  have fc := frac_call (h := H) (a := a.num * ((b.den / Nat.gcd a.den b.den : Nat) : Int) + k * b.num * ((a.den / Nat.gcd a.den b.den : Nat) : Int)) (b := ((a.den / Nat.gcd a.den b.den * b.den : Nat) : Int)) (by omega) (by omega) (by omega)
  rw [pe'] at fc
  obtain ⟨q, hq⟩ : ∃ q, a + (k : Rat) * b = q := ⟨_, rfl⟩
  rw [hq] at fc ⊢
  refine ACall.forget (low_frV _ _) ?_
  refine s71_callW (by simp) ?_
  simp only [s71]
  refine Ze fun N1 hN1 => ?_
  simp (maxSteps := 2000000) only [↓Za, ↓Zb, ↓Zc, vup, cond_true, cond_false, aop, Zg, Zp, ev, sput, Zf, Nat.reduceBEq, Nat.reduceAdd, tyf, qV, frV, boxF, Xn, Yx, List.length_append, List.length_singleton, Nat.add_assoc]
  rw [← hH]
  refine hN1 [(1, Zd k), (3, .pointer (some ⟨h.length, 0, none⟩)), (5, .pointer (some ⟨h.length + 1, 0, none⟩)), (6, .pointer (some ⟨h.length + 2, 0, none⟩))] _ _ ?_ (by simp (maxSteps := 2000000) only [vup, cond_true, cond_false, Nat.reduceBEq])
  clear hN1
  try clear N1
  refine Ze fun N2 hN2 => ?_
  simp (maxSteps := 2000000) only [↓Za, ↓Zb, ↓Zc, vup, List.map_cons, List.map_nil, cond_true, cond_false, aop, Zg, ev, sput, Zf, Nat.reduceBEq, Yr, List.nil_append, List.append_nil, fA1, loadF1 c3, loadF1 c5]
  refine (gcd_call (.inl (by omega)) (by omega)).mono ?_
  rintro _ _ ⟨rfl, rfl⟩
  rw [Int.natAbs_natCast, Int.natAbs_natCast]
  refine hN2 [(1, Zd k), (3, .pointer (some ⟨h.length, 0, none⟩)), (5, .pointer (some ⟨h.length + 1, 0, none⟩)), (6, .pointer (some ⟨h.length + 2, 0, none⟩)), (7, Zd (Nat.gcd a.den b.den : Nat))] _ _ ?_ (by simp (maxSteps := 2000000) only [vup, cond_true, cond_false, Nat.reduceBEq])
  clear hN2
  try clear N2
  refine Zi ?_
  simp only [q71_2]
  refine aw_cut fun N hN => ?_
  refine Wl [(24, 1)] (by kernel_rfl) (by kernel_rfl) (by kernel_rfl) (by kernel_rfl) ?_
  simp (maxSteps := 2000000) only [↓Xj, ↓vdn, vup, List.map_cons, List.map_nil, cond_true, cond_false, aop, Zg, ev, sput, Zf, Yk, Yl, Nat.reduceBEq, Nat.reduceAdd, tyf, fA0, fA1, loadF1 c3, loadF1 c5, loadF0 c3, loadF0 c5, ne_eq, hg0, not_false_eq_true, q1, q2, m1, m2, m3, m4, m5, Yr, List.nil_append, List.append_nil]
  refine ⟨_, _, fc, rfl, ?_⟩
  simp (maxSteps := 2000000) only [qV, frV, Xw c6 rfl]
  refine hN _ _ ?_
  simp (maxSteps := 2000000) only [↓Zz, vup, cond_true, cond_false, Nat.reduceBEq, Zu, Xx, tup, Xz (Wa (Yn c6) _)]
  exact ⟨rfl, hE.set_ge (by omega) _⟩

/-- The product fits. -/
def Fits (q : Rat) : Prop := q.num.natAbs < 9223372036854775808 ∧ q.den < 9223372036854775808
theorem s72_callW [Tabs Try.prog] {args : List Value} {h : Zh} {Q : Value → Zh → Prop} (hsz : args.length ≤ 28) (hk : AWS Try.prog 28 s72 (Zu Try.prog [.cell 4 26] Q) (Zp 0 args) h) : ACall Try.prog 72 args h Q :=
  Yv Try.func72 rfl (enters_of Try.func72 (by kernel_rfl) rfl) rfl rfl (by decide) s72_strip s72_ok hsz hk
theorem times_call [Tabs prog] {h : Zh} {a b : Rat} (ha : Fits a) (hb : Fits b) (hab : Fits (a * b)) : Xm prog 72 [qV a, qV b] h (qV (a * b)) := by
  have da := a.den_nz
  have db := b.den_nz
  obtain ⟨t1, t2⟩ := times_eq a b
  have f1 : ∀ h : Zh, Xm prog 64 [Zd a.num, Zd b.den] h (qV (Rat.divInt a.num b.den)) := fun h => frac_call (by omega) ha.1 (by have := hb.2; omega)
  have f2 : ∀ h : Zh, Xm prog 64 [Zd b.num, Zd a.den] h (qV (Rat.divInt b.num a.den)) := fun h => frac_call (by omega) hb.1 (by have := ha.2; omega)
  obtain ⟨u, hu⟩ : ∃ u, Rat.divInt a.num b.den = u := ⟨_, rfl⟩
  obtain ⟨v, hv⟩ : ∃ v, Rat.divInt b.num a.den = v := ⟨_, rfl⟩
  rw [hu] at f1 t1 t2
  rw [hv] at f2 t1 t2
  have m1 : mulV .i64 u.num v.num = (a * b).num := by rw [← t1]; exact mulN (by rw [t1]; exact hab.1)
  have m2 : mulV .i64 (u.den : Int) (v.den : Int) = ((a * b).den : Int) := by
    rw [← t2, Int.natCast_mul]; exact mulN (by rw [← Int.natCast_mul, t2]; have := hab.2; omega)
  obtain ⟨q, hq⟩ : ∃ q, a * b = q := ⟨_, rfl⟩
  rw [hq] at m1 m2 ⊢
  obtain ⟨H, hH⟩ : ∃ H, H = h ++ [fC a.num a.den] ++ [fC b.num b.den] ++ [z0] := ⟨_, rfl⟩
  have c2 : H[h.length]? = some (fC a.num a.den) := by rw [hH]; exact b3_0 ..
  have c3 : H[h.length + 1]? = some (fC b.num b.den) := by rw [hH]; exact b3_1 ..
  have c4 : H[h.length + 2]? = some z0 := by rw [hH]; exact b3_2 ..
  have hE : Ext (fun _ => False) h H := by rw [hH]; exact e3 ..
  have hlen : H.length = h.length + 3 := by rw [hH]; simp
  refine ACall.forget (low_frV _ _) ?_
  refine s72_callW (by simp) ?_
  simp only [s72]
  refine Ze fun N3 hN3 => ?_
  simp (maxSteps := 2000000) only [↓Za, ↓Zb, ↓Zc, vup, cond_true, cond_false, aop, Zg, Zp, ev, sput, Zf, Nat.reduceBEq, Nat.reduceAdd, tyf, qV, frV, boxF, Xn, Yx, List.length_append, List.length_singleton, Nat.add_assoc]
  rw [← hH]
  refine hN3 [(2, .pointer (some ⟨h.length, 0, none⟩)), (3, .pointer (some ⟨h.length + 1, 0, none⟩)), (4, .pointer (some ⟨h.length + 2, 0, none⟩))] _ _ ?_ (by simp (maxSteps := 2000000) only [vup, cond_true, cond_false, Nat.reduceBEq])
  clear hN3
  try clear N3
  refine Ze fun N4 hN4 => ?_
  refine aw_drawE (fun hp => hp[h.length]? = some (fC a.num a.den) ∧ hp[h.length + 1]? = some (fC b.num b.den)) [(1, 5), (3, 5), (6, 5), (8, 5), (4, 2), (9, 2)] 11 6 [10] (by kernel_rfl) (by kernel_rfl) (by kernel_rfl) (by kernel_rfl) (by kernel_rfl) (by rfl) ⟨c2, c3⟩ ?_
  simp (maxSteps := 2000000) only [↓dopsR_nil, ↓vdn, vup, List.map_cons, List.map_nil, cond_true, cond_false, aop, Zg, ev, sput, Zf, Nat.reduceBEq, Nat.reduceAdd, fA0, fA1, Yr, List.nil_append, List.append_nil]
  refine ⟨Zd a.num, fun _ g => by rw [loadF0 g.1], Zd b.den, fun _ g => by rw [loadF1 g.2], qV u, fun _ _ => ⟨_, _, f1 _, rfl, rfl⟩, Zd b.num, fun _ g => by rw [loadF0 g.2], Zd a.den, fun _ g => by rw [loadF1 g.1], qV v, fun _ _ => ⟨_, _, f2 _, rfl, rfl⟩, ?_⟩
  have k1 : (H ++ [z0] ++ [z0])[H.length]? = some z0 := b2_0 ..
  obtain ⟨H2, hH2⟩ : ∃ H2, H2 = (H ++ [z0] ++ [z0]).set H.length (fC u.num u.den) := ⟨_, rfl⟩
  have k2 : H2[H.length + 1]? = some z0 := by rw [hH2, List.getElem?_set_ne (by omega)]; exact b2_1 ..
  have k3 : H2[H.length]? = some (fC u.num u.den) := by rw [hH2]; exact Wa (by simp) _
  have k4 : Ext (fun _ => False) h H2 := by rw [hH2]; exact (hE.trans (e2 ..)).set_ge (by omega) _
  have k5 : H2[h.length]? = some (fC a.num a.den) ∧ H2[h.length + 1]? = some (fC b.num b.den) ∧ H2[h.length + 2]? = some z0 := by
    rw [hH2, List.getElem?_set_ne (by omega), List.getElem?_set_ne (by omega), List.getElem?_set_ne (by omega)]
    exact ⟨Xp (Xp c2 _) _, Xp (Xp c3 _) _, Xp (Xp c4 _) _⟩
  obtain ⟨H3, hH3⟩ : ∃ H3, H3 = H2.set (H.length + 1) (fC v.num v.den) := ⟨_, rfl⟩
  have l1 : H3[H.length + 1]? = some (fC v.num v.den) := by rw [hH3]; exact Wa (Yn k2) _
  have l2 : H3[H.length]? = some (fC u.num u.den) := by rw [hH3, List.getElem?_set_ne (by omega)]; exact k3
  have l3 : H3[h.length + 2]? = some z0 := by rw [hH3, List.getElem?_set_ne (by omega)]; exact k5.2.2
  have l4 : Ext (fun _ => False) h H3 := by rw [hH3]; exact k4.set_ge (by omega) _
  have l5 : H3[h.length]? = some (fC a.num a.den) ∧ H3[h.length + 1]? = some (fC b.num b.den) := by
    rw [hH3, List.getElem?_set_ne (by omega), List.getElem?_set_ne (by omega)]
    exact ⟨k5.1, k5.2.1⟩
  simp (maxSteps := 2000000) only [tyf, Xn, Yx]
  refine ⟨⟨Xp c2 _, Xp c3 _⟩, ⟨Xp (Xp c2 _) _, Xp (Xp c3 _) _⟩, ?_⟩
  simp only [qV, frV, Xw k1 rfl, List.length_append, List.length_singleton]
  rw [← hH2, Xw k2 rfl, ← hH3]
  refine ⟨⟨k5.1, k5.2.1⟩, l5, ?_⟩
  refine hN4 [(2, .pointer (some ⟨h.length, 0, none⟩)), (3, .pointer (some ⟨h.length + 1, 0, none⟩)), (4, .pointer (some ⟨h.length + 2, 0, none⟩)), (5, .pointer (some ⟨H.length, 0, none⟩)), (6, .pointer (some ⟨H.length + 1, 0, none⟩))] _ _ ?_ (by simp (maxSteps := 2000000) only [vup, cond_true, cond_false, Nat.reduceBEq])
  clear hN4
  try clear N4
  refine Zi ?_
  simp (maxSteps := 2000000) only [↓Za, ↓Zw, ↓Zz, ↓Zb, ↓Zc, vup, List.map_cons, List.map_nil, cond_true, cond_false, aop, Zg, ev, sput, Zf, Yk, Yl, Nat.reduceBEq, Zu, Xx, tup, tyf, fA0, fA1, loadF0 l1, loadF1 l1, loadF0 l2, loadF1 l2, m1, m2, bldF, Xw l3 rfl, Xz (Wa (Yn l3) _)]
  exact ⟨rfl, l4.set_ge (by omega) _⟩

theorem fits_inv {a b : Rat} (hb : b ≠ 0) (h : Fits b) : Rat.divInt b.den b.num = b⁻¹ ∧ Fits b⁻¹ := by
  have hn : b.num ≠ 0 := fun hc => hb (Rat.num_eq_zero.1 hc)
  refine ⟨(Rat.inv_def b).symm, ?_, ?_⟩
  · rw [Rat.num_inv, Int.natAbs_mul, Int.natAbs_sign_of_ne_zero hn]
    have := h.2; simpa using this
  · rw [Rat.den_inv, if_neg hn]; exact h.1

theorem s94_callW [Tabs Try.prog] {args : List Value} {h : Zh} {Q : Value → Zh → Prop} (hsz : args.length ≤ 12) (hk : AWS Try.prog 12 s94 (Zu Try.prog [.cell 4 26] Q) (Zp 0 args) h) : ACall Try.prog 94 args h Q :=
  Yv Try.func94 rfl (enters_of Try.func94 (by kernel_rfl) rfl) rfl rfl (by decide) s94_strip s94_ok hsz hk
theorem over_call [Tabs prog] {h : Zh} {a b : Rat} (ha : Fits a) (hb : Fits b) (hb0 : b ≠ 0) (hab : Fits (a / b)) : Xm prog 94 [qV a, qV b] h (qV (a / b)) := by
  obtain ⟨i1, i2⟩ := fits_inv (a := a) hb0 hb
  have hn : b.num ≠ 0 := fun hc => hb0 (Rat.num_eq_zero.1 hc)
  have f1 : ∀ h : Zh, Xm prog 64 [Zd b.den, Zd b.num] h (qV b⁻¹) := fun h => by
    rw [← i1]; exact frac_call hn (by have := hb.2; omega) hb.1
  have f2 : ∀ h : Zh, Xm prog 72 [qV a, qV b⁻¹] h (qV (a / b)) := fun h => times_call ha i2 hab
  obtain ⟨q, hq⟩ : ∃ q, a / b = q := ⟨_, rfl⟩
  rw [hq] at f2 ⊢
  obtain ⟨H, hH⟩ : ∃ H, H = h ++ [fC a.num a.den] ++ [fC b.num b.den] ++ [z0] := ⟨_, rfl⟩
  have c2 : H[h.length]? = some (fC a.num a.den) := by rw [hH]; exact b3_0 ..
  have c3 : H[h.length + 1]? = some (fC b.num b.den) := by rw [hH]; exact b3_1 ..
  have c4 : H[h.length + 2]? = some z0 := by rw [hH]; exact b3_2 ..
  have hE : Ext (fun _ => False) h H := by rw [hH]; exact e3 ..
  refine ACall.forget (low_frV _ _) ?_
  refine s94_callW (by simp) ?_
  simp only [s94]
  refine Ze fun N5 hN5 => ?_
  simp (maxSteps := 2000000) only [↓Za, ↓Zb, ↓Zc, vup, cond_true, cond_false, aop, Zg, Zp, ev, sput, Zf, Nat.reduceBEq, Nat.reduceAdd, tyf, qV, frV, boxF, Xn, Yx, List.length_append, List.length_singleton, Nat.add_assoc]
  rw [← hH]
  refine hN5 [(2, .pointer (some ⟨h.length, 0, none⟩)), (3, .pointer (some ⟨h.length + 1, 0, none⟩)), (4, .pointer (some ⟨h.length + 2, 0, none⟩))] _ _ ?_ (by simp (maxSteps := 2000000) only [vup, cond_true, cond_false, Nat.reduceBEq])
  clear hN5
  try clear N5
  refine Zi ?_
  simp only [q94_1]
  refine aw_cut fun N hN => ?_
  refine Wl [(5, 1), (6, 1)] (by kernel_rfl) (by kernel_rfl) (by kernel_rfl) (by kernel_rfl) ?_
  simp (maxSteps := 2000000) only [↓Xj, ↓vdn, vup, List.map_cons, List.map_nil, cond_true, cond_false, aop, Zg, ev, sput, Zf, Nat.reduceBEq, Nat.reduceAdd, fA0, fA1, Xz c2, loadF0 c3, loadF1 c3, Yr, List.nil_append, List.append_nil]
  refine ⟨_, _, f1 _, rfl, ?_⟩
  refine ⟨_, _, f2 _, rfl, ?_⟩
  simp (maxSteps := 2000000) only [qV, frV, Xw c4 rfl]
  refine hN _ _ ?_
  simp (maxSteps := 2000000) only [↓Zz, vup, cond_true, cond_false, Nat.reduceBEq, Zu, Xx, tup, Xz (Wa (Yn c4) _)]
  exact ⟨rfl, hE.set_ge (by omega) _⟩

theorem s62_callW [Tabs Try.prog] {args : List Value} {h : Zh} {Q : Value → Zh → Prop} (hsz : args.length ≤ 10) (hk : AWS Try.prog 10 s62 (Zu Try.prog [.tmp 4] Q) (Zp 0 args) h) : ACall Try.prog 62 args h Q :=
  Yv Try.func62 rfl (enters_of Try.func62 (by kernel_rfl) rfl) rfl rfl (by decide) s62_strip s62_ok hsz hk
theorem less_call [Tabs prog] {h : Zh} {a b : Rat} {x y : Int} {N : Nat} (ha : Rp N x a) (hb : Rp N y b) (hx : x.natAbs + y.natAbs < 9223372036854775808) (hN : N < 9223372036854775808) : Xm prog 62 [qV a, qV b] h (.bool (decide (a < b))) := by
  have p := plus_call (h := h ++ [fC a.num a.den] ++ [fC b.num b.den]) (k := -1) ha hb (by omega) hN
  have e1 : decide ((a + ((-1 : Int) : Rat) * b).num < 0) = decide (a < b) := by
    have hpl := ha.plus hb (-1)
    have h0 := hpl.num
    have h1 : 0 < N / (a + ((-1 : Int) : Rat) * b).den := Nat.div_pos hpl.den_le (Rat.den_pos _)
    rw [decide_eq_decide, ha.lt hb]
    generalize (a + ((-1 : Int) : Rat) * b).num = u at *
    generalize N / (a + ((-1 : Int) : Rat) * b).den = t at *
    constructor
    · intro hu
      have : u * (t : Int) < 0 := Int.mul_neg_of_neg_of_pos hu (by omega)
      omega
    · intro hu
      rcases Int.lt_or_le u 0 with h2 | h2
      · exact h2
      · have : 0 ≤ u * (t : Int) := Int.mul_nonneg h2 (by omega)
        omega
  obtain ⟨q, hq⟩ : ∃ q, a + ((-1 : Int) : Rat) * b = q := ⟨_, rfl⟩
  rw [hq] at p e1
  refine ACall.forget (Low.bool _) ?_
  refine s62_callW (by simp) ?_
  refine Zi ?_
  simp (maxSteps := 2000000) only [s62, ↓Za, ↓Zw, ↓Zz, ↓Zb, ↓Zc, vup, List.map_cons, List.map_nil, cond_true, cond_false, aop, Zg, Zp, ev, sput, Zf, Yk, Yl, Nat.reduceBEq, Nat.reduceAdd, Zu, Xx, tup, tyf, qV, frV, boxF, Yx, List.length_append, List.length_singleton, Xz (b2_0 ..), Xz (b2_1 ..), Yr, List.nil_append, List.append_nil]
  refine p.mono ?_
  rintro _ _ ⟨rfl, rfl⟩
  simp (maxSteps := 2000000) only [vup, qV, frV, fld0, e1]
  exact e2 ..

theorem s70_callW [Tabs Try.prog] {args : List Value} {h : Zh} {Q : Value → Zh → Prop} (hsz : args.length ≤ 5) (hk : AWS Try.prog 5 s70 (Zu Try.prog [.cell 2 26] Q) (Zp 0 args) h) : ACall Try.prog 70 args h Q :=
  Yv Try.func70 rfl (enters_of Try.func70 (by kernel_rfl) rfl) rfl rfl (by decide) s70_strip s70_ok hsz hk
theorem whole_call [Tabs prog] {h : Zh} {k : Int} : Xm prog 70 [Zd k] h (qV (k : Rat)) := by
  refine ACall.forget (low_frV _ _) ?_
  refine s70_callW (by simp) ?_
  refine Zi ?_
  simp (maxSteps := 2000000) only [s70, ↓Za, ↓Zw, ↓Zz, ↓Zb, ↓Zc, vup, List.map_cons, List.map_nil, cond_true, cond_false, aop, Zg, Zp, ev, sput, Zf, Nat.reduceBEq, Zu, Xx, tup, tyf, Xn, Yx, bldF, Xw (Yh h z0) rfl, Xz (Wa (h := h ++ [z0]) (b := h.length) (by simp) _)]
  exact ⟨rfl, (Ext.app _ _ _).set_ge (Nat.le_refl _) _⟩
end Go.Proofs.Try.Am

namespace Bq
/-- The common multiple, what two have in common, the product. -/
def lcmL (l : List Nat) : Nat := l.foldl Nat.lcm 1
theorem foldl_lcm_dvd {l : List Nat} {m : Nat} : m ∣ l.foldl Nat.lcm m := by
  induction l generalizing m with
  | nil => exact Nat.dvd_refl _
  | cons d l ih => exact Nat.dvd_trans (Nat.dvd_lcm_left m d) ih
theorem foldl_lcm_mem {l : List Nat} {m d : Nat} (h : d ∈ l) : d ∣ l.foldl Nat.lcm m := by
  induction l generalizing m with
  | nil => cases h
  | cons e l ih =>
    rcases List.mem_cons.1 h with rfl | h
    · exact Nat.dvd_trans (Nat.dvd_lcm_right m d) foldl_lcm_dvd
    · exact ih h
end Bq

namespace Bq

/-- A valid fraction from 0 on, as it stands. -/
def okP (p : Int × Int) : Bool := decide (1 ≤ p.2) && decide (p.2 ≤ 10000000000) && decide (0 ≤ p.1) && (Nat.gcd p.1.natAbs p.2.natAbs == 1)
def mulTo : List (Int × Int) → Nat → Nat
  | [], m => m
  | p :: ps, m => if okP p = true ∧ Nat.lcm m p.2.natAbs ≤ 10000000000 then mulTo ps (Nat.lcm m p.2.natAbs) else 0
/-- The common multiple; 0: there is none. -/
def mult (ps : List (Int × Int)) : Nat := mulTo ps 1
/-- A fraction as it stands, as a number; a number as it stands. -/
def toQ (p : Int × Int) : Rat := Rat.divInt p.1 p.2
def ofQ (q : Rat) : Int × Int := (q.num, (q.den : Int))

theorem ofQ_toQ {p : Int × Int} (h1 : 1 ≤ p.2) (h2 : Nat.gcd p.1.natAbs p.2.natAbs = 1) : ofQ (toQ p) = p := by
  obtain ⟨x, y⟩ := p
  simp only at h1 h2
  obtain ⟨n, rfl⟩ : ∃ n : Nat, y = n := ⟨y.toNat, by omega⟩
  have hn : n ≠ 0 := by omega
  have e : toQ (x, (n : Int)) = ⟨x, n, hn, by simpa using h2⟩ := by
    rw [toQ, Rat.divInt_ofNat]
    exact (Rat.mk_eq_mkRat x n hn _).symm
  rw [e]; rfl
theorem okP_ofQ {p : Int × Int} (h : okP p = true) : ofQ (toQ p) = p := by
  simp only [okP, Bool.and_eq_true, decide_eq_true_eq, beq_iff_eq] at h
  exact ofQ_toQ h.1.1.1 h.2
theorem mulTo_spec : ∀ (ps : List (Int × Int)) (m : Nat), mulTo ps m ≠ 0 → m ≤ 10000000000 → (∀ p ∈ ps, okP p = true) ∧ mulTo ps m = (ps.map fun p => p.2.natAbs).foldl Nat.lcm m ∧ mulTo ps m ≤ 10000000000
  | [], m, h, hm => ⟨(fun _ h => by cases h), rfl, hm⟩
  | p :: ps, m, h, hm => by
    rw [mulTo] at h ⊢
    split at h
    · rename_i hc
      rw [if_pos hc]
      obtain ⟨h1, h2, h3⟩ := mulTo_spec ps _ h hc.2
      refine ⟨fun q hq => ?_, h2, h3⟩
      rcases List.mem_cons.1 hq with rfl | hq
      · exact hc.1
      · exact h1 q hq
    · exact absurd rfl h
theorem mult_spec {ps : List (Int × Int)} (h : mult ps ≠ 0) : (∀ p ∈ ps, okP p = true) ∧ mult ps = lcmL (ps.map fun p => p.2.natAbs) ∧ mult ps ≤ 10000000000 := mulTo_spec ps 1 h (by decide)
theorem mult_dvd {ps : List (Int × Int)} (h : mult ps ≠ 0) {p : Int × Int} (hp : p ∈ ps) : (toQ p).den ∣ mult ps := by
  obtain ⟨h1, h2, h3⟩ := mult_spec h
  have e := okP_ofQ (h1 p hp)
  have e2 : (toQ p).den = p.2.natAbs := by
    have := congrArg Prod.snd e
    simp only [ofQ] at this
    rw [← this]; rfl
  rw [h2, e2]
  exact foldl_lcm_mem (List.mem_map.2 ⟨p, hp, rfl⟩)
theorem okP_pos {p : Int × Int} (h : okP p = true) : 0 ≤ toQ p := by
  simp only [okP, Bool.and_eq_true, decide_eq_true_eq] at h
  exact Rat.divInt_nonneg h.1.2 (by omega)
theorem okP_le {p : Int × Int} (h : okP p = true) : toQ p ≤ 1 ↔ p.1 ≤ p.2 := by
  have hp := okP_ofQ h
  have h1 : (toQ p).num = p.1 := congrArg Prod.fst hp
  have h2 : ((toQ p).den : Int) = p.2 := congrArg Prod.snd hp
  rw [Rat.le_iff, h1, h2]
  simp

/-- The sum of the first ones. -/
def Zt (g : Nat → Rat) : Nat → Rat
  | 0 => 0
  | k + 1 => Zt g k + g k
section
variable {g f : Nat → Rat}
theorem sumTo_nonneg {n : Nat} (h : ∀ i, i < n → 0 ≤ g i) : 0 ≤ Zt g n := by
  induction n with
  | zero => exact Rat.le_refl
  | succ n ih => exact Rat.add_nonneg (ih fun i hi => h i (by omega)) (h n (by omega))
theorem sumTo_mono {k n : Nat} (hk : k ≤ n) (h : ∀ i, i < n → 0 ≤ g i) : Zt g k ≤ Zt g n := by
  induction n with
  | zero => rw [Nat.le_zero.1 hk]; exact Rat.le_refl
  | succ n ih =>
    rcases Nat.lt_or_ge n k with h1 | h1
    · rw [show k = n + 1 by omega]; exact Rat.le_refl
    · have h2 := ih h1 fun i hi => h i (by omega)
      have h3 := h n (by omega)
      rw [Zt]; grind
theorem sumTo_one {k n : Nat} (hk : k < n) (h : ∀ i, i < n → 0 ≤ g i) : g k ≤ Zt g n := by
  have h1 := sumTo_mono (show k + 1 ≤ n by omega) h
  have h2 := sumTo_nonneg (n := k) fun i hi => h i (by omega)
  rw [Zt] at h1; grind
theorem sumTo_le {n : Nat} (h : ∀ i, i < n → f i ≤ g i) : Zt f n ≤ Zt g n := by
  induction n with
  | zero => exact Rat.le_refl
  | succ n ih =>
    have h1 := ih fun i hi => h i (by omega)
    have h2 := h n (by omega)
    rw [Zt, Zt]; grind
theorem Zj {n : Nat} (h : ∀ i, i < n → f i = g i) : Zt f n = Zt g n := by
  induction n with
  | zero => rfl
  | succ n ih => rw [Zt, Zt, ih fun i hi => h i (by omega), h n (by omega)]
theorem Wc (f g : Nat → Rat) (n : Nat) : Zt (fun i => f i + g i) n = Zt f n + Zt g n := by
  induction n with
  | zero => exact (Rat.zero_add _).symm
  | succ n ih => simp only [Zt, ih]; grind
theorem Xb (c : Rat) (g : Nat → Rat) (n : Nat) : Zt (fun i => c * g i) n = c * Zt g n := by
  induction n with
  | zero => exact (Rat.mul_zero _).symm
  | succ n ih => simp only [Zt, ih]; grind
theorem sumTo_den {N : Nat} {n : Nat} (hN : 0 < N) (h : ∀ i, i < n → (g i).den ∣ N) : (Zt g n).den ∣ N := by
  induction n with
  | zero => exact Nat.one_dvd _
  | succ n ih =>
    have h1 := ih fun i hi => h i (by omega)
    have h2 := h n (by omega)
    rw [Zt]
    have e := Rp.up' (Rp.own (Zt g n)) h1 hN
    have e2 := Rp.up' (Rp.own (g n)) h2 hN
    have := e.plus e2 1
    have h3 := this.dvd
    have e3 : Zt g n + ((1 : Int) : Rat) * g n = Zt g n + g n := by
      rw [show (((1 : Int)) : Rat) = 1 from rfl, Rat.one_mul]
    rwa [e3] at h3
end
theorem rp_of {N : Nat} {q : Rat} (hN : 0 < N) (h : q.den ∣ N) : ∃ x, Rp N x q := ⟨_, Rp.up' (Rp.own q) h hN⟩
/-- Parts of what is bounded. -/
theorem Rp.bound {N C : Nat} {x : Int} {q : Rat} (h : Rp N x q) (h1 : -(C : Rat) ≤ q) (h2 : q ≤ C) : x.natAbs ≤ C * N := by
  have hN : (0 : Rat) ≤ N := Rat.natCast_nonneg
  have e := h.2
  have u1 := Rat.mul_le_mul_of_nonneg_right h2 hN
  have u2 := Rat.mul_le_mul_of_nonneg_right h1 hN
  rw [e] at u1 u2
  have v1 : x ≤ ((C * N : Nat) : Int) := by
    rw [← Rat.intCast_le_intCast]; push_cast; exact u1
  have v2 : -((C * N : Nat) : Int) ≤ x := by
    rw [← Rat.intCast_le_intCast]; push_cast
    rw [Rat.neg_mul] at u2; exact u2
  omega

end Bq

namespace Bq

theorem toQ_ofQ (q : Rat) : toQ (ofQ q) = q := Rat.num_divInt_den q
/-- Lists of fractions in least terms. -/
def Vld (ps : List (Int × Int)) : Prop := ∀ p ∈ ps, ofQ (toQ p) = p
/-- The w-th one as a number. -/
def fq (ps : List (Int × Int)) (w : Nat) : Rat := toQ (ps.getD w (0, 0))
theorem getD_mem {ps : List (Int × Int)} {k : Nat} (hk : k < ps.length) : ps.getD k (0, 0) ∈ ps := by
  rw [List.getD, List.getElem?_eq_getElem hk]; exact List.getElem_mem hk
/-- Valid chances. -/
structure Chn (ps : List (Int × Int)) : Prop where
  m : mult ps ≠ 0
  le : ∀ p ∈ ps, p.1 ≤ p.2
theorem Chn.ok {ps : List (Int × Int)} (c : Chn ps) {p : Int × Int} (hp : p ∈ ps) : okP p = true := (mult_spec c.m).1 p hp
theorem Chn.vld {ps : List (Int × Int)} (c : Chn ps) : Vld ps := fun p hp => okP_ofQ (c.ok hp)
/-- A fraction's parts. -/
theorem Chn.rp {ps : List (Int × Int)} (c : Chn ps) {p : Int × Int} (hp : p ∈ ps) : Rp (mult ps) ((mult ps : Int) / p.2 * p.1) (toQ p) ∧ 0 ≤ (mult ps : Int) / p.2 * p.1 ∧ (mult ps : Int) / p.2 * p.1 ≤ mult ps ∧ 1 ≤ p.2 ∧ 0 ≤ p.1 ∧ (p.2 ∣ (mult ps : Int)) := by
  have hok := c.ok hp
  have hd := mult_dvd c.m hp
  have e := okP_ofQ hok
  have e1 : (toQ p).num = p.1 := congrArg Prod.fst e
  have e2 : ((toQ p).den : Int) = p.2 := congrArg Prod.snd e
  have hle := c.le p hp
  simp only [okP, Bool.and_eq_true, decide_eq_true_eq] at hok
  have r := Rp.up' (Rp.own (toQ p)) hd (Nat.pos_of_ne_zero c.m)
  have e3 : (mult ps : Int) / p.2 * p.1 = (toQ p).num * ((mult ps / (toQ p).den : Nat) : Int) := by
    rw [e1, Int.natCast_ediv, e2, Int.mul_comm]
  rw [e3]
  have hn : 0 ≤ (toQ p).num * ((mult ps / (toQ p).den : Nat) : Int) := Int.mul_nonneg (by omega) (Int.natCast_nonneg _)
  refine ⟨r, hn, ?_, by omega, by omega, ?_⟩
  · have hb := r.bound (C := 1) (by have := okP_pos (c.ok hp); have h2 : (0 : Rat) ≤ ((1 : Nat) : Rat) := Rat.natCast_nonneg; have : -((1 : Nat) : Rat) ≤ 0 := by decide
                                    exact Rat.le_trans this ‹0 ≤ toQ p›) ((okP_le (c.ok hp)).2 hle)
    omega
  · rw [← e2]; exact Int.natCast_dvd_natCast.2 hd
theorem Chn.unit {ps : List (Int × Int)} (c : Chn ps) {k : Nat} (hk : k < ps.length) : 0 ≤ fq ps k ∧ fq ps k ≤ 1 ∧ (fq ps k).den ∣ mult ps :=
  ⟨okP_pos (c.ok (getD_mem hk)), (okP_le (c.ok (getD_mem hk))).2 (c.le _ (getD_mem hk)), mult_dvd c.m (getD_mem hk)⟩

structure Fc (ps : List (Int × Int)) : Prop where
  len : 2 ≤ ps.length ∧ ps.length ≤ 5
  c : Chn ps
  den : ∀ p ∈ ps, p.2 ≤ 60
  sum : Zt (fq ps) ps.length = 1
  small : mult ps ≤ 27885
theorem Fc.unit {ps : List (Int × Int)} (c : Fc ps) {k : Nat} (hk : k < ps.length) : 0 ≤ fq ps k ∧ fq ps k ≤ 1 := ⟨(c.c.unit hk).1, (c.c.unit hk).2.1⟩
end Bq

namespace Go.Proofs.Try.Am
open Go.Am Bq
set_option maxRecDepth 100000
set_option maxHeartbeats 1000000

end Go.Proofs.Try.Am

namespace Go.Proofs.Try.Am
open Go.Am
set_option maxRecDepth 100000
/-! 116: slices.IndexFunc[[]planchet api.Frac,planchet api.Frac] -/
@[reducible] def q116_0 : SCode := .region [⟨some 4, .assign (.const (.int .i64 0)), none⟩]
@[reducible] def q116_1 : SCode := .region [⟨some 6, .move (.tmp 0), none⟩,
    ⟨some 7, .call { callee := .builtin .len, args := #[.tmp 6], argTypes := #[47] }, none⟩,
    ⟨some 8, .move (.const (.int .i64 0)), none⟩]
@[reducible] def q116_2 : SCode := .region [⟨some 9, .binOp .lss 3 (.tmp 8) (.tmp 7) 3, none⟩]
@[reducible] def q116_3 : SCode := .region [⟨some 10, .move (.tmp 8), none⟩,
    ⟨some 5, .assign (.tmp 10), none⟩]
@[reducible] def q116_4 : SCode := .region [⟨some 11, .move (.tmp 1), none⟩,
    ⟨some 12, .move (.tmp 0), none⟩,
    ⟨some 13, .move (.tmp 5), none⟩,
    ⟨some 14, .indexAddr 47 (.tmp 12) (.tmp 13), none⟩,
    ⟨some 15, .load 26 (.tmp 14), none⟩,
    ⟨some 16, .call { callee := .value (.tmp 11), args := #[.tmp 15], argTypes := #[26] }, none⟩]
@[reducible] def q116_5 : SCode := .region [⟨some 17, .move (.tmp 5), none⟩,
    ⟨some 4, .assign (.tmp 17), none⟩]
@[reducible] def q116_6 : SCode := .region [⟨some 18, .binOp .add 3 (.tmp 8) (.const (.int .i64 1)) 3, none⟩,
    ⟨some 8, .move (.tmp 18), none⟩]
def l116_0 : SCode := (.seq q116_2 (.seq (.cond (.tmp 9) .skip (.exit 0)) (.seq (.block 1 (.seq q116_3 (.seq q116_4 (.cond (.tmp 16) (.seq q116_5 .ret) .skip)))) q116_6)))
@[reducible] def q116_7 : SCode := .region [⟨some 4, .assign (.const (.int .i64 (-1))), none⟩]
def s116 : SCode := (.seq q116_0 (.seq (.seq q116_1 (.block 0 (.loop l116_0))) (.seq q116_7 .ret)))
theorem s116_strip : Ya (Zv Try.f116) = s116 := by kernel_rfl
theorem s116_ok : Yp 19 (Zv Try.f116) = true := by kernel_rfl
end Go.Proofs.Try.Am

namespace Go.Proofs.Try.Am
open Go.Am Bq
set_option maxRecDepth 100000
set_option maxHeartbeats 1000000

/-- Fractions within the range of ints. -/
def InR (ps : List (Int × Int)) : Prop := ∀ p ∈ ps, (-(2 ^ 63) ≤ p.1 ∧ p.1 < 2 ^ 63) ∧ -(2 ^ 63) ≤ p.2 ∧ p.2 < 2 ^ 63
end Go.Proofs.Try.Am

namespace Go.Proofs.Try.Am
open Go.Am
set_option maxRecDepth 100000
/-! 18: planchet planchetlaw09.Of -/
@[reducible] def q18_0 : SCode := .region [⟨some 2, .assign (.const (.slice none 0 0)), none⟩]
@[reducible] def q18_1 : SCode := .region [⟨some 3, .assign (.const (.slice none 0 0)), none⟩]
@[reducible] def q18_2 : SCode := .region [⟨some 6, .move (.tmp 0), none⟩,
    ⟨some 7, .call { callee := .builtin .len, args := #[.tmp 6], argTypes := #[22] }, none⟩,
    ⟨some 8, .move (.const (.int .i64 0)), none⟩]
@[reducible] def q18_3 : SCode := .region [⟨some 9, .binOp .lss 3 (.tmp 8) (.tmp 7) 3, none⟩]
@[reducible] def q18_4 : SCode := .region [⟨some 10, .move (.tmp 8), none⟩,
    ⟨some 11, .indexAddr 22 (.tmp 6) (.tmp 8), none⟩,
    ⟨some 12, .load 24 (.tmp 11), none⟩,
    ⟨some 5, .alloc 24, none⟩,
    ⟨some 4, .assign (.tmp 10), none⟩,
    ⟨none, .store 24 (.tmp 5) (.tmp 12), none⟩]
@[reducible] def q18_5 : SCode := .region [⟨some 13, .move (.tmp 4), none⟩,
    ⟨some 14, .binOp .lss 3 (.tmp 13) (.const (.int .i64 9)) 3, none⟩]
@[reducible] def q18_6 : SCode := .region [⟨some 15, .move (.tmp 3), none⟩,
    ⟨some 16, .fieldAddr 24 (.tmp 5) 0, none⟩,
    ⟨some 17, .load 3 (.tmp 16), none⟩,
    ⟨some 18, .fieldAddr 24 (.tmp 5) 1, none⟩,
    ⟨some 19, .load 3 (.tmp 18), none⟩,
    ⟨some 20, .build 92 #[(0, .tmp 17), (1, .tmp 19)], none⟩,
    ⟨some 21, .buildSlice 30 1 #[(0, .tmp 20)], none⟩,
    ⟨some 22, .call { callee := .builtin .append, args := #[.tmp 15, .tmp 21], argTypes := #[30, 30] }, none⟩,
    ⟨some 3, .assign (.tmp 22), none⟩]
@[reducible] def q18_7 : SCode := .region [⟨some 23, .binOp .add 3 (.tmp 8) (.const (.int .i64 1)) 3, none⟩,
    ⟨some 8, .move (.tmp 23), none⟩]
def l18_0 : SCode := (.seq q18_3 (.seq (.cond (.tmp 9) .skip (.exit 0)) (.seq (.block 1 (.seq q18_4 (.seq q18_5 (.cond (.tmp 14) q18_6 .skip)))) q18_7)))
@[reducible] def q18_8 : SCode := .region [⟨some 24, .move (.tmp 3), none⟩,
    ⟨some 2, .assign (.tmp 24), none⟩]
def s18 : SCode := (.seq q18_0 (.seq q18_1 (.seq (.seq q18_2 (.block 0 (.loop l18_0))) (.seq q18_8 .ret))))
theorem s18_strip : Ya (Zv Try.f18) = s18 := by kernel_rfl
theorem s18_ok : Yp 25 (Zv Try.f18) = true := by kernel_rfl
/-! 20: planchet planchetref09.Bets -/
@[reducible] def q20_0 : SCode := .region [⟨some 4, .assign (.const (.bool false)), none⟩]
@[reducible] def q20_1 : SCode := .region [⟨some 9, .move (.tmp 0), none⟩,
    ⟨some 10, .call { callee := .value (.func 63), args := #[.tmp 9], argTypes := #[3] }, none⟩,
    ⟨some 11, .unOp .not 4 (.tmp 10), none⟩,
    ⟨some 12, .move (.tmp 11), none⟩,
    ⟨some 13, .move (.tmp 1), some (12, false)⟩,
    ⟨some 14, .call { callee := .builtin .len, args := #[.tmp 13], argTypes := #[22] }, some (12, false)⟩,
    ⟨some 15, .binOp .lss 3 (.tmp 14) (.const (.int .i64 1)) 3, some (12, false)⟩,
    ⟨some 16, .pick (.tmp 12) (.const (.bool true)) (.tmp 15), none⟩,
    ⟨some 17, .move (.tmp 16), none⟩,
    ⟨some 18, .move (.tmp 1), some (17, false)⟩,
    ⟨some 19, .call { callee := .builtin .len, args := #[.tmp 18], argTypes := #[22] }, some (17, false)⟩,
    ⟨some 20, .binOp .gtr 3 (.tmp 19) (.const (.int .i64 6)) 3, some (17, false)⟩,
    ⟨some 21, .pick (.tmp 17) (.const (.bool true)) (.tmp 20), none⟩]
@[reducible] def q20_2 : SCode := .region [⟨some 4, .assign (.const (.bool false)), none⟩]
@[reducible] def q20_3 : SCode := .region [⟨some 22, .move (.tmp 1), none⟩,
    ⟨some 23, .call { callee := .builtin .len, args := #[.tmp 22], argTypes := #[22] }, none⟩,
    ⟨some 24, .move (.const (.int .i64 0)), none⟩]
@[reducible] def q20_4 : SCode := .region [⟨some 25, .binOp .lss 3 (.tmp 24) (.tmp 23) 3, none⟩]
@[reducible] def q20_5 : SCode := .region [⟨some 26, .move (.tmp 24), none⟩,
    ⟨some 27, .indexAddr 22 (.tmp 22) (.tmp 24), none⟩,
    ⟨some 28, .load 24 (.tmp 27), none⟩,
    ⟨some 6, .alloc 24, none⟩,
    ⟨some 5, .assign (.tmp 26), none⟩,
    ⟨none, .store 24 (.tmp 6) (.tmp 28), none⟩]
@[reducible] def q20_6 : SCode := .region [⟨some 29, .move (.tmp 0), none⟩,
    ⟨some 30, .fieldAddr 24 (.tmp 6) 0, none⟩,
    ⟨some 31, .load 3 (.tmp 30), none⟩,
    ⟨some 32, .call { callee := .value (.func 25), args := #[.tmp 29, .tmp 31], argTypes := #[3, 3] }, none⟩,
    ⟨some 33, .unOp .not 4 (.tmp 32), none⟩,
    ⟨some 34, .move (.tmp 33), none⟩,
    ⟨some 35, .fieldAddr 24 (.tmp 6) 1, some (34, false)⟩,
    ⟨some 36, .load 3 (.tmp 35), some (34, false)⟩,
    ⟨some 37, .binOp .lss 3 (.tmp 36) (.const (.int .i64 0)) 3, some (34, false)⟩,
    ⟨some 38, .pick (.tmp 34) (.const (.bool true)) (.tmp 37), none⟩,
    ⟨some 39, .move (.tmp 38), none⟩,
    ⟨some 40, .fieldAddr 24 (.tmp 6) 1, some (39, false)⟩,
    ⟨some 41, .load 3 (.tmp 40), some (39, false)⟩,
    ⟨some 42, .binOp .gtr 3 (.tmp 41) (.const (.int .i64 12)) 3, some (39, false)⟩,
    ⟨some 43, .pick (.tmp 39) (.const (.bool true)) (.tmp 42), none⟩]
@[reducible] def q20_7 : SCode := .region [⟨some 4, .assign (.const (.bool false)), none⟩]
@[reducible] def q20_8 : SCode := .region [⟨some 44, .move (.tmp 1), none⟩,
    ⟨some 45, .move (.tmp 5), none⟩,
    ⟨some 46, .slice 22 (.tmp 44) none (some (.tmp 45)) none, none⟩,
    ⟨some 47, .call { callee := .builtin .len, args := #[.tmp 46], argTypes := #[22] }, none⟩,
    ⟨some 48, .move (.const (.int .i64 0)), none⟩]
@[reducible] def q20_9 : SCode := .region [⟨some 49, .binOp .lss 3 (.tmp 48) (.tmp 47) 3, none⟩]
@[reducible] def q20_10 : SCode := .region [⟨some 50, .indexAddr 22 (.tmp 46) (.tmp 48), none⟩,
    ⟨some 51, .load 24 (.tmp 50), none⟩,
    ⟨some 8, .alloc 24, none⟩,
    ⟨none, .store 24 (.tmp 8) (.tmp 51), none⟩]
@[reducible] def q20_11 : SCode := .region [⟨some 52, .fieldAddr 24 (.tmp 6) 0, none⟩,
    ⟨some 53, .load 3 (.tmp 52), none⟩,
    ⟨some 54, .fieldAddr 24 (.tmp 8) 0, none⟩,
    ⟨some 55, .load 3 (.tmp 54), none⟩,
    ⟨some 56, .binOp .eql 3 (.tmp 53) (.tmp 55) 3, none⟩]
@[reducible] def q20_12 : SCode := .region [⟨some 4, .assign (.const (.bool false)), none⟩]
@[reducible] def q20_13 : SCode := .region [⟨some 57, .binOp .add 3 (.tmp 48) (.const (.int .i64 1)) 3, none⟩,
    ⟨some 48, .move (.tmp 57), none⟩]
def l20_0 : SCode := (.seq q20_9 (.seq (.cond (.tmp 49) .skip (.exit 2)) (.seq (.block 3 (.seq q20_10 (.seq q20_11 (.cond (.tmp 56) (.seq q20_12 .ret) .skip)))) q20_13)))
@[reducible] def q20_14 : SCode := .region [⟨some 58, .binOp .add 3 (.tmp 24) (.const (.int .i64 1)) 3, none⟩,
    ⟨some 24, .move (.tmp 58), none⟩]
def l20_1 : SCode := (.seq q20_4 (.seq (.cond (.tmp 25) .skip (.exit 0)) (.seq (.block 1 (.seq q20_5 (.seq (.seq q20_6 (.cond (.tmp 43) (.seq q20_7 .ret) .skip)) (.seq q20_8 (.block 2 (.loop l20_0)))))) q20_14)))
@[reducible] def q20_15 : SCode := .region [⟨some 4, .assign (.const (.bool true)), none⟩]
def s20 : SCode := (.seq q20_0 (.seq (.seq q20_1 (.cond (.tmp 21) (.seq q20_2 .ret) .skip)) (.seq (.seq q20_3 (.block 0 (.loop l20_1))) (.seq q20_15 .ret))))
theorem s20_strip : Ya (Zv Try.f20) = s20 := by kernel_rfl
theorem s20_ok : Yp 59 (Zv Try.f20) = true := by kernel_rfl
/-! 25: planchet planchetref09.Event -/
@[reducible] def q25_0 : SCode := .region [⟨some 4, .assign (.const (.bool false)), none⟩]
@[reducible] def q25_1 : SCode := .region [⟨some 5, .move (.tmp 1), none⟩,
    ⟨some 6, .binOp .geq 3 (.tmp 5) (.const (.int .i64 0)) 3, none⟩,
    ⟨some 7, .move (.tmp 6), none⟩,
    ⟨some 8, .move (.tmp 1), some (7, true)⟩,
    ⟨some 9, .move (.tmp 0), some (7, true)⟩,
    ⟨some 10, .binOp .shl 3 (.const (.int .i64 1)) (.tmp 9) 3, some (7, true)⟩,
    ⟨some 11, .binOp .lss 3 (.tmp 8) (.tmp 10) 3, some (7, true)⟩,
    ⟨some 12, .pick (.tmp 7) (.tmp 11) (.const (.bool false)), none⟩,
    ⟨some 4, .assign (.tmp 12), none⟩]
def s25 : SCode := (.seq q25_0 (.seq q25_1 .ret))
theorem s25_strip : Ya (Zv Try.f25) = s25 := by kernel_rfl
theorem s25_ok : Yp 13 (Zv Try.f25) = true := by kernel_rfl
/-! 61: (planchet bets.belief).of -/
@[reducible] def q61_0 : SCode := .region [⟨some 4, .alloc 26, none⟩]
@[reducible] def q61_1 : SCode := .region [⟨some 8, .call { callee := .value (.func 70), args := #[.const (.int .i64 0)], argTypes := #[3] }, none⟩,
    ⟨some 5, .alloc 26, none⟩,
    ⟨none, .store 26 (.tmp 5) (.tmp 8), none⟩]
@[reducible] def q61_2 : SCode := .region [⟨some 9, .move (.tmp 0), none⟩,
    ⟨some 10, .call { callee := .builtin .len, args := #[.tmp 9], argTypes := #[90] }, none⟩,
    ⟨some 11, .move (.const (.int .i64 0)), none⟩]
@[reducible] def q61_3 : SCode := .region [⟨some 12, .binOp .lss 3 (.tmp 11) (.tmp 10) 3, none⟩]
@[reducible] def q61_4 : SCode := .region [⟨some 13, .move (.tmp 11), none⟩,
    ⟨some 14, .indexAddr 90 (.tmp 9) (.tmp 11), none⟩,
    ⟨some 15, .load 26 (.tmp 14), none⟩,
    ⟨some 7, .alloc 26, none⟩,
    ⟨some 6, .assign (.tmp 13), none⟩,
    ⟨none, .store 26 (.tmp 7) (.tmp 15), none⟩]
@[reducible] def q61_5 : SCode := .region [⟨some 16, .move (.tmp 1), none⟩,
    ⟨some 17, .move (.tmp 6), none⟩,
    ⟨some 18, .binOp .shr 3 (.tmp 16) (.tmp 17) 3, none⟩,
    ⟨some 19, .binOp .and 3 (.tmp 18) (.const (.int .i64 1)) 3, none⟩,
    ⟨some 20, .binOp .eql 3 (.tmp 19) (.const (.int .i64 1)) 3, none⟩]
@[reducible] def q61_6 : SCode := .region [⟨some 21, .load 26 (.tmp 5), none⟩,
    ⟨some 22, .load 26 (.tmp 7), none⟩,
    ⟨some 23, .call { callee := .value (.func 71), args := #[.tmp 21, .const (.int .i64 1), .tmp 22], argTypes := #[26, 3, 26] }, none⟩,
    ⟨none, .store 26 (.tmp 5) (.tmp 23), none⟩]
@[reducible] def q61_7 : SCode := .region [⟨some 24, .binOp .add 3 (.tmp 11) (.const (.int .i64 1)) 3, none⟩,
    ⟨some 11, .move (.tmp 24), none⟩]
def l61_0 : SCode := (.seq q61_3 (.seq (.cond (.tmp 12) .skip (.exit 0)) (.seq (.block 1 (.seq q61_4 (.seq q61_5 (.cond (.tmp 20) q61_6 .skip)))) q61_7)))
@[reducible] def q61_8 : SCode := .region [⟨some 25, .load 26 (.tmp 5), none⟩,
    ⟨none, .store 26 (.tmp 4) (.tmp 25), none⟩]
def s61 : SCode := (.seq q61_0 (.seq q61_1 (.seq (.seq q61_2 (.block 0 (.loop l61_0))) (.seq q61_8 .ret))))
theorem s61_strip : Ya (Zv Try.f61) = s61 := by kernel_rfl
theorem s61_ok : Yp 26 (Zv Try.f61) = true := by kernel_rfl
end Go.Proofs.Try.Am

namespace Go.Proofs.Try.Am
open Go.Am Bq
set_option maxRecDepth 100000
set_option maxHeartbeats 1000000

/-- Whether fractions are n chances. -/
def chances (n : Int) (ps : List (Int × Int)) : Bool := decide ((ps.length : Int) = n) && (decide (mult ps ≠ 0) && ps.all fun p => decide (p.1 ≤ p.2))

end Go.Proofs.Try.Am

namespace Go.Proofs.Try.Am
open Go.Am
set_option maxRecDepth 100000
end Go.Proofs.Try.Am

namespace Go.Proofs.Try.Am
open Go.Am
set_option maxRecDepth 100000
/-! 7: planchet planchetlaw09.BetsScores -/
@[reducible] def q7_0 : SCode := .region [⟨some 6, .assign (.const (.bool false)), none⟩]
@[reducible] def q7_1 : SCode := .region [⟨some 12, .move (.tmp 0), none⟩,
    ⟨some 13, .call { callee := .value (.func 32), args := #[.tmp 12], argTypes := #[47] }, none⟩,
    ⟨some 14, .move (.tmp 2), none⟩,
    ⟨some 15, .call { callee := .value (.func 40), args := #[.tmp 13, .tmp 14], argTypes := #[47, 3] }, none⟩,
    ⟨some 11, .move (.tmp 15), none⟩,
    ⟨some 16, .extract (.tmp 11) 0, none⟩,
    ⟨some 17, .extract (.tmp 11) 1, none⟩,
    ⟨some 7, .alloc 26, none⟩,
    ⟨none, .store 26 (.tmp 7) (.tmp 16), none⟩,
    ⟨some 8, .assign (.tmp 17), none⟩]
@[reducible] def q7_2 : SCode := .region [⟨some 19, .move (.tmp 0), none⟩,
    ⟨some 20, .call { callee := .value (.func 32), args := #[.tmp 19], argTypes := #[47] }, none⟩,
    ⟨some 21, .move (.tmp 1), none⟩,
    ⟨some 22, .call { callee := .value (.func 32), args := #[.tmp 21], argTypes := #[47] }, none⟩,
    ⟨some 23, .call { callee := .value (.func 31), args := #[.tmp 20, .tmp 22], argTypes := #[47, 47] }, none⟩,
    ⟨some 18, .move (.tmp 23), none⟩,
    ⟨some 24, .extract (.tmp 18) 0, none⟩,
    ⟨some 25, .extract (.tmp 18) 1, none⟩,
    ⟨some 9, .alloc 26, none⟩,
    ⟨none, .store 26 (.tmp 9) (.tmp 24), none⟩,
    ⟨some 10, .assign (.tmp 25), none⟩]
@[reducible] def q7_3 : SCode := .region [⟨some 26, .move (.tmp 0), none⟩,
    ⟨some 27, .call { callee := .value (.func 33), args := #[.tmp 26], argTypes := #[47] }, none⟩,
    ⟨some 28, .unOp .not 4 (.tmp 27), none⟩]
@[reducible] def q7_4 : SCode := .region [⟨some 29, .load 26 (.tmp 7), none⟩,
    ⟨some 30, .call { callee := .value (.func 26), args := #[.tmp 29], argTypes := #[26] }, none⟩,
    ⟨some 31, .move (.tmp 30), none⟩,
    ⟨some 32, .load 26 (.tmp 9), some (31, true)⟩,
    ⟨some 33, .call { callee := .value (.func 26), args := #[.tmp 32], argTypes := #[26] }, some (31, true)⟩,
    ⟨some 34, .pick (.tmp 31) (.tmp 33) (.const (.bool false)), none⟩,
    ⟨some 35, .move (.tmp 34), none⟩,
    ⟨some 36, .move (.tmp 8), some (35, true)⟩,
    ⟨some 37, .binOp .eql 27 (.tmp 36) (.const (.int .i64 2)) 27, some (35, true)⟩,
    ⟨some 38, .pick (.tmp 35) (.tmp 37) (.const (.bool false)), none⟩,
    ⟨some 39, .move (.tmp 38), none⟩,
    ⟨some 40, .move (.tmp 10), some (39, true)⟩,
    ⟨some 41, .binOp .eql 27 (.tmp 40) (.const (.int .i64 2)) 27, some (39, true)⟩,
    ⟨some 42, .pick (.tmp 39) (.tmp 41) (.const (.bool false)), none⟩,
    ⟨some 43, .move (.tmp 42), none⟩,
    ⟨some 44, .call { callee := .value (.func 21), args := #[], argTypes := #[] }, some (43, true)⟩,
    ⟨some 45, .pick (.tmp 43) (.tmp 44) (.const (.bool false)), none⟩,
    ⟨some 6, .assign (.tmp 45), none⟩]
@[reducible] def q7_5 : SCode := .region [⟨some 46, .move (.tmp 2), none⟩,
    ⟨some 47, .binOp .lss 3 (.tmp 46) (.const (.int .i64 0)) 3, none⟩,
    ⟨some 48, .move (.tmp 47), none⟩,
    ⟨some 49, .move (.tmp 2), some (48, false)⟩,
    ⟨some 50, .move (.tmp 0), some (48, false)⟩,
    ⟨some 51, .call { callee := .builtin .len, args := #[.tmp 50], argTypes := #[47] }, some (48, false)⟩,
    ⟨some 52, .binOp .geq 3 (.tmp 49) (.tmp 51) 3, some (48, false)⟩,
    ⟨some 53, .pick (.tmp 48) (.const (.bool true)) (.tmp 52), none⟩]
@[reducible] def q7_6 : SCode := .region [⟨some 54, .load 26 (.tmp 7), none⟩,
    ⟨some 55, .call { callee := .value (.func 26), args := #[.tmp 54], argTypes := #[26] }, none⟩,
    ⟨some 56, .unOp .not 4 (.tmp 55), none⟩,
    ⟨some 57, .move (.tmp 56), none⟩,
    ⟨some 58, .move (.tmp 8), some (57, false)⟩,
    ⟨some 59, .binOp .neq 27 (.tmp 58) (.const (.int .i64 2)) 27, some (57, false)⟩,
    ⟨some 60, .pick (.tmp 57) (.const (.bool true)) (.tmp 59), none⟩]
@[reducible] def q7_7 : SCode := .region [⟨some 6, .assign (.const (.bool false)), none⟩]
def q7_8 : SCode := .draw [⟨some 61, .load 26 (.tmp 7), none⟩,
    ⟨some 62, .move (.tmp 0), none⟩,
    ⟨some 63, .move (.tmp 2), none⟩,
    ⟨some 64, .call { callee := .value (.func 41), args := #[.tmp 62, .tmp 63], argTypes := #[47, 3] }, none⟩,
    ⟨some 65, .binOp .neq 26 (.tmp 61) (.tmp 64) 26, none⟩,
    ⟨some 66, .move (.tmp 65), none⟩,
    ⟨some 67, .move (.tmp 8), some (66, false)⟩,
    ⟨some 68, .binOp .neq 27 (.tmp 67) (.const (.int .i64 0)) 27, some (66, false)⟩,
    ⟨some 69, .pick (.tmp 66) (.const (.bool true)) (.tmp 68), none⟩]
   [[], [], [], [1, 2], [0, 3], [4, 3], [5], [6, 5], [5, 7]]
@[reducible] def q7_9 : SCode := .region [⟨some 6, .assign (.const (.bool false)), none⟩]
@[reducible] def q7_10 : SCode := .region [⟨some 70, .move (.tmp 1), none⟩,
    ⟨some 71, .call { callee := .value (.func 33), args := #[.tmp 70], argTypes := #[47] }, none⟩,
    ⟨some 72, .unOp .not 4 (.tmp 71), none⟩,
    ⟨some 73, .move (.tmp 72), none⟩,
    ⟨some 74, .move (.tmp 1), some (73, false)⟩,
    ⟨some 75, .call { callee := .builtin .len, args := #[.tmp 74], argTypes := #[47] }, some (73, false)⟩,
    ⟨some 76, .move (.tmp 0), some (73, false)⟩,
    ⟨some 77, .call { callee := .builtin .len, args := #[.tmp 76], argTypes := #[47] }, some (73, false)⟩,
    ⟨some 78, .binOp .neq 3 (.tmp 75) (.tmp 77) 3, some (73, false)⟩,
    ⟨some 79, .pick (.tmp 73) (.const (.bool true)) (.tmp 78), none⟩]
@[reducible] def q7_11 : SCode := .region [⟨some 80, .load 26 (.tmp 9), none⟩,
    ⟨some 81, .call { callee := .value (.func 26), args := #[.tmp 80], argTypes := #[26] }, none⟩,
    ⟨some 82, .move (.tmp 81), none⟩,
    ⟨some 83, .move (.tmp 10), some (82, true)⟩,
    ⟨some 84, .binOp .eql 27 (.tmp 83) (.const (.int .i64 2)) 27, some (82, true)⟩,
    ⟨some 85, .pick (.tmp 82) (.tmp 84) (.const (.bool false)), none⟩,
    ⟨some 86, .move (.tmp 85), none⟩,
    ⟨some 87, .call { callee := .value (.func 21), args := #[], argTypes := #[] }, some (86, true)⟩,
    ⟨some 88, .pick (.tmp 86) (.tmp 87) (.const (.bool false)), none⟩,
    ⟨some 6, .assign (.tmp 88), none⟩]
def q7_12 : SCode := .draw [⟨some 89, .load 26 (.tmp 9), none⟩,
    ⟨some 90, .move (.tmp 0), none⟩,
    ⟨some 91, .move (.tmp 1), none⟩,
    ⟨some 92, .call { callee := .value (.func 42), args := #[.tmp 90, .tmp 91], argTypes := #[47, 47] }, none⟩,
    ⟨some 93, .binOp .eql 26 (.tmp 89) (.tmp 92) 26, none⟩,
    ⟨some 94, .move (.tmp 93), none⟩,
    ⟨some 95, .move (.tmp 10), some (94, true)⟩,
    ⟨some 96, .binOp .eql 27 (.tmp 95) (.const (.int .i64 0)) 27, some (94, true)⟩,
    ⟨some 97, .pick (.tmp 94) (.tmp 96) (.const (.bool false)), none⟩,
    ⟨some 98, .move (.tmp 97), none⟩,
    ⟨some 99, .call { callee := .value (.func 21), args := #[], argTypes := #[] }, some (98, true)⟩,
    ⟨some 100, .pick (.tmp 98) (.tmp 99) (.const (.bool false)), none⟩,
    ⟨some 6, .assign (.tmp 100), none⟩]
   [[], [], [], [1, 2], [0, 3], [4, 3], [5], [6, 5], [5, 7], [8, 5], [9, 9], [9, 10], [11, 10, 0, 1, 2, 3, 4, 5, 6, 7, 8, 9, 10, 11]]
def s7 : SCode := (.seq q7_0 (.seq q7_1 (.seq q7_2 (.seq (.seq q7_3 (.cond (.tmp 28) (.seq q7_4 .ret) .skip)) (.seq (.seq q7_5 (.cond (.tmp 53) (.seq q7_6 (.cond (.tmp 60) (.seq q7_7 .ret) .skip)) (.seq q7_8 (.cond (.tmp 69) (.seq q7_9 .ret) .skip)))) (.seq (.seq q7_10 (.cond (.tmp 79) (.seq q7_11 .ret) .skip)) (.seq q7_12 .ret)))))))
/-! 35: slices.Equal[[]planchet api.Frac,planchet api.Frac] -/
@[reducible] def q35_0 : SCode := .region [⟨some 4, .assign (.const (.bool false)), none⟩]
@[reducible] def q35_1 : SCode := .region [⟨some 6, .move (.tmp 0), none⟩,
    ⟨some 7, .call { callee := .builtin .len, args := #[.tmp 6], argTypes := #[47] }, none⟩,
    ⟨some 8, .move (.tmp 1), none⟩,
    ⟨some 9, .call { callee := .builtin .len, args := #[.tmp 8], argTypes := #[47] }, none⟩,
    ⟨some 10, .binOp .neq 3 (.tmp 7) (.tmp 9) 3, none⟩]
@[reducible] def q35_2 : SCode := .region [⟨some 4, .assign (.const (.bool false)), none⟩]
@[reducible] def q35_3 : SCode := .region [⟨some 11, .move (.tmp 0), none⟩,
    ⟨some 12, .call { callee := .builtin .len, args := #[.tmp 11], argTypes := #[47] }, none⟩,
    ⟨some 13, .move (.const (.int .i64 0)), none⟩]
@[reducible] def q35_4 : SCode := .region [⟨some 14, .binOp .lss 3 (.tmp 13) (.tmp 12) 3, none⟩]
@[reducible] def q35_5 : SCode := .region [⟨some 15, .move (.tmp 13), none⟩,
    ⟨some 5, .assign (.tmp 15), none⟩]
def q35_6 : SCode := .draw [⟨some 16, .move (.tmp 0), none⟩,
    ⟨some 17, .move (.tmp 5), none⟩,
    ⟨some 18, .indexAddr 47 (.tmp 16) (.tmp 17), none⟩,
    ⟨some 19, .load 26 (.tmp 18), none⟩,
    ⟨some 20, .move (.tmp 1), none⟩,
    ⟨some 21, .move (.tmp 5), none⟩,
    ⟨some 22, .indexAddr 47 (.tmp 20) (.tmp 21), none⟩,
    ⟨some 23, .load 26 (.tmp 22), none⟩,
    ⟨some 24, .binOp .neq 26 (.tmp 19) (.tmp 23) 26, none⟩]
   [[], [], [0, 1], [2], [], [], [4, 5], [6], [3, 7]]
@[reducible] def q35_7 : SCode := .region [⟨some 4, .assign (.const (.bool false)), none⟩]
@[reducible] def q35_8 : SCode := .region [⟨some 25, .binOp .add 3 (.tmp 13) (.const (.int .i64 1)) 3, none⟩,
    ⟨some 13, .move (.tmp 25), none⟩]
def l35_0 : SCode := (.seq q35_4 (.seq (.cond (.tmp 14) .skip (.exit 0)) (.seq (.block 1 (.seq q35_5 (.seq q35_6 (.cond (.tmp 24) (.seq q35_7 .ret) .skip)))) q35_8)))
@[reducible] def q35_9 : SCode := .region [⟨some 4, .assign (.const (.bool true)), none⟩]
def s35 : SCode := (.seq q35_0 (.seq (.seq q35_1 (.cond (.tmp 10) (.seq q35_2 .ret) .skip)) (.seq (.seq q35_3 (.block 0 (.loop l35_0))) (.seq q35_9 .ret))))
theorem s35_strip : Ya (Zv Try.f35) = s35 := by kernel_rfl
theorem s35_ok : Yp 26 (Zv Try.f35) = true := by kernel_rfl
/-! 101: slices.ContainsFunc[[]planchet api.Frac,planchet api.Frac] -/
@[reducible] def q101_0 : SCode := .region [⟨some 4, .assign (.const (.bool false)), none⟩]
@[reducible] def q101_1 : SCode := .region [⟨some 5, .move (.tmp 0), none⟩,
    ⟨some 6, .move (.tmp 1), none⟩,
    ⟨some 7, .call { callee := .value (.func 116), args := #[.tmp 5, .tmp 6], argTypes := #[47, 35] }, none⟩,
    ⟨some 8, .binOp .geq 3 (.tmp 7) (.const (.int .i64 0)) 3, none⟩,
    ⟨some 4, .assign (.tmp 8), none⟩]
def s101 : SCode := (.seq q101_0 (.seq q101_1 .ret))
theorem s101_strip : Ya (Zv Try.f101) = s101 := by kernel_rfl
theorem s101_ok : Yp 9 (Zv Try.f101) = true := by kernel_rfl
/-! 102: (planchet bets.table).corners$2 -/
@[reducible] def q102_0 : SCode := .region [⟨some 1, .box 26 (.tmp 0), none⟩,
    ⟨some 2, .assign (.const (.bool false)), none⟩]
@[reducible] def q102_1 : SCode := .region [⟨some 3, .fieldAddr 26 (.tmp 1) 0, none⟩,
    ⟨some 4, .load 3 (.tmp 3), none⟩,
    ⟨some 5, .binOp .lss 3 (.tmp 4) (.const (.int .i64 0)) 3, none⟩,
    ⟨some 2, .assign (.tmp 5), none⟩]
def s102 : SCode := (.seq q102_0 (.seq q102_1 .ret))
theorem s102_strip : Ya (Zv Try.f102) = s102 := by kernel_rfl
theorem s102_ok : Yp 6 (Zv Try.f102) = true := by kernel_rfl
end Go.Proofs.Try.Am

namespace Go.Proofs.Try.Am
open Go.Am Bq
set_option maxRecDepth 100000
set_option maxHeartbeats 1000000

/-- The chance of an event, of the first worlds. -/
def inEv (f : Nat → Rat) (evt : Nat) (w : Nat) : Rat := if evt.testBit w then f w else 0
theorem litI1 [Tabs prog] {h : Zh} {x : Int} (K : Value → Zh → Prop) : Yj prog h 38 1 [(0, Zd x)] K = K (.slice (some ⟨h.length, 0, none⟩) 1 1) (h ++ [.ints [x] 3 false]) := by
  simp only [Yj, el_38, zero_3, esz_3, reps, fillL, mkb, Wd, cellsOf, List.length_singleton, Nat.mul_one, Nat.zero_add]
  exact propext ⟨fun h => h.2.2.2, fun h => ⟨trivial, by decide, by decide, h⟩⟩

theorem take_snoc {α : Type} {l : List α} {k : Nat} {d : α} (hk : k < l.length) : l.take (k + 1) = l.take k ++ [l.getD k d] := by
  rw [List.take_succ, List.getElem?_eq_getElem hk, List.getD, List.getElem?_eq_getElem hk]; rfl

end Go.Proofs.Try.Am

namespace Go.Proofs.Try.Am
open Go.Am Bq
set_option maxRecDepth 100000
set_option maxHeartbeats 1000000

/-- A fraction as a number's value. -/
theorem frV_q {p : Int × Int} (h : ofQ (toQ p) = p) : frV p.1 p.2 = qV (toQ p) := by
  conv => lhs; rw [← h]
  rfl
/-- A sum that fits. -/
theorem plus_fits [Tabs prog] {h : Zh} {a b : Rat} {k : Int} {N A B : Nat} (hN : 0 < N) (hN2 : N < 9223372036854775808) (da : a.den ∣ N) (db : b.den ∣ N) (a1 : -(A : Rat) ≤ a) (a2 : a ≤ A) (b1 : -(B : Rat) ≤ b) (b2 : b ≤ B)
    (hh : (A + k.natAbs * B) * N < 9223372036854775808) : Xm prog 71 [qV a, Zd k, qV b] h (qV (a + k * b)) := by
  obtain ⟨x, hx⟩ := rp_of hN da
  obtain ⟨y, hy⟩ := rp_of hN db
  have h1 := hx.bound a1 a2
  have h2 := hy.bound b1 b2
  refine plus_call hx hy ?_ hN2
  rw [Int.natAbs_mul]
  have h3 : k.natAbs * y.natAbs ≤ k.natAbs * (B * N) := Nat.mul_le_mul_left _ h2
  rw [Nat.add_mul, Nat.mul_assoc] at hh
  omega

section
theorem s116_callW [Tabs Try.prog] {args : List Value} {h : Zh} {Q : Value → Zh → Prop} (hsz : args.length ≤ 19) (hk : AWS Try.prog 19 s116 (Zu Try.prog [.tmp 4] Q) (Zp 0 args) h) : ACall Try.prog 116 args h Q :=
  Yv Try.func116 rfl (enters_of Try.func116 (by kernel_rfl) rfl) rfl rfl (by decide) s116_strip s116_ok hsz hk
theorem idxF_call [Tabs prog] {h : Zh} {v : Value} {ps : List (Int × Int)} {g : FuncId} {cap : Array Value} {f : Int × Int → Bool} (hv : PairSl h v ps) (hl : ps.length < 9223372036854775808)
    (hc : ∀ h', Ext (fun _ => False) h h' → ∀ p ∈ ps, Xm prog g ([frV p.1 p.2] ++ cap.toList) h' (.bool (f p))) : ACall prog 116 [v, .func (.func g) #[] cap] h fun r h' => h' = h ∧ ∃ i : Int, r = Zd i ∧ decide (0 ≤ i) = ps.any f := by
  refine s116_callW (by simp) ?_
  simp only [s116]
  refine Ze fun N1 hN1 => ?_
  simp (maxSteps := 2000000) only [↓Za, ↓Zb, ↓Zc, vup, cond_false, aop, Zg, Zp, ev, sput, Zf, Nat.reduceBEq, Nat.reduceAdd]
  refine hN1 [(0, v), (1, .func (.func g) #[] cap), (4, .int .i64 0)] _ _ ?_ (by simp (maxSteps := 2000000) only [vup, cond_true, cond_false, Nat.reduceBEq])
  clear hN1
  try clear N1
  refine Zl fun Z hZ => ?_
  refine Ze fun N2 hN2 => ?_
  simp (maxSteps := 2000000) only [↓Za, ↓Zb, ↓Zc, vup, List.map_cons, List.map_nil, cond_true, cond_false, aop, Zg, ev, sput, Zf, Zk, Nat.reduceBEq, tyf, hv.len]
  refine hN2 [(0, v), (1, .func (.func g) #[] cap), (4, .int .i64 0), (6, v), (7, Zd ps.length), (8, .int .i64 0)] _ _ ?_ (by simp (maxSteps := 2000000) only [vup, cond_true, cond_false, Nat.reduceBEq])
  clear hN2
  try clear N2
  refine Zn ?_
  refine Zy fun Q hQ => ?_
  refine Xd (γ := Nat) (fun k => k ≤ ps.length ∧ ∀ p ∈ ps.take k, f p = false)
    (fun k => ([(0, v), (1, .func (.func g) #[] cap), (4, .int .i64 0), (6, v), (7, Zd ps.length), (8, Zd (k : Nat))], h)) (fun k => ps.length - k) 0 ⟨Nat.zero_le _, by simp⟩ (by simp (maxSteps := 2000000) only [vup, cond_true, cond_false, Nat.reduceBEq, Int.natCast_zero]) rfl ?_
  rintro k ⟨hk, hall⟩
  refine Zy fun Q2 hQ2 => ?_
  simp only [l116_0]
  by_cases hin : (k : Int) < ps.length
  · have hk' : k < ps.length := by omega
    obtain ⟨⟨x, y⟩, hxy⟩ : ∃ p, ps.getD k (0, 0) = p := ⟨_, rfl⟩
    have hmem : (x, y) ∈ ps := hxy ▸ getD_mem hk'
    refine Ze fun N3 hN3 => ?_
    simp (maxSteps := 2000000) only [↓Za, ↓Zb, ↓Zc, vup, cond_true, cond_false, aop, Zg, ev, sput, Zf, Yk, Yl, Nat.reduceBEq, hin]
    refine hN3 [(0, v), (1, .func (.func g) #[] cap), (4, .int .i64 0), (6, v), (7, Zd ps.length), (8, Zd (k : Nat)), (9, .bool true)] _ _ ?_ (by simp (maxSteps := 2000000) only [vup, cond_true, cond_false, Nat.reduceBEq])
    clear hN3
    try clear N3
    refine Ze fun N4 hN4 => ?_
    simp (maxSteps := 2000000) only [↓Zs, ↓vdn, vup, cond_true, cond_false, Zg, ev, Nat.reduceBEq]
    refine hN4 [(0, v), (1, .func (.func g) #[] cap), (4, .int .i64 0), (6, v), (7, Zd ps.length), (8, Zd (k : Nat))] _ _ ?_ (by simp (maxSteps := 2000000) only [vup, cond_true, cond_false, Nat.reduceBEq])
    clear hN4
    try clear N4
    refine Zl fun B hB => ?_
    refine Zn ?_
    refine Ze fun N5 hN5 => ?_
    simp (maxSteps := 2000000) only [↓Za, ↓Zb, ↓Zc, vup, cond_true, cond_false, aop, Zg, ev, sput, Zf, Nat.reduceBEq]
    refine hN5 [(0, v), (1, .func (.func g) #[] cap), (4, .int .i64 0), (5, Zd (k : Nat)), (6, v), (7, Zd ps.length), (8, Zd (k : Nat))] _ _ ?_ (by simp (maxSteps := 2000000) only [vup, cond_true, cond_false, Nat.reduceBEq])
    clear hN5
    try clear N5
    refine Ze fun N6 hN6 => ?_
    simp (maxSteps := 2000000) only [↓Za, ↓Zb, ↓Zc, vup, List.map_cons, List.map_nil, cond_true, cond_false, aop, Zg, ev, sput, Zf, Nat.reduceBEq, hv.idx el_47 esz_26 hk', hv.load shp_26 hk', hxy, Yr, List.nil_append]
    refine (show Xm prog g ([.agg #[Zd x, Zd y]] ++ cap.toList) h (.bool (f (x, y))) from hc h (Ext.refl _ _) _ hmem).mono ?_
    rintro _ h ⟨rfl, rfl⟩
    refine hN6 [(0, v), (1, .func (.func g) #[] cap), (4, .int .i64 0), (5, Zd (k : Nat)), (6, v), (7, Zd ps.length), (8, Zd (k : Nat)), (16, .bool (f (x, y)))] _ _ ?_ (by simp (maxSteps := 2000000) only [vup, cond_true, cond_false, Nat.reduceBEq])
    clear hN6
    try clear N6
    refine Zi ?_
    cases hf : f (x, y) with
    | true =>
      simp (maxSteps := 2000000) only [↓Za, ↓Zw, ↓Zz, ↓Zb, ↓Zc, ↓vdn, vup, cond_true, cond_false, aop, Zg, Zo, ev, sput, Zf, Nat.reduceBEq]
      refine hQ2 _ _ _ (hQ _ _ _ ?_)
      simp (maxSteps := 2000000) only [vup, cond_true, cond_false, Zg, Zo, Nat.reduceBEq, Zu, Xx, tup]
      exact ⟨_, rfl, by rw [show ps.any f = true from List.any_eq_true.2 ⟨_, hmem, hf⟩]; simp⟩
    | false =>
      simp (maxSteps := 2000000) only [↓Zs, ↓vdn, vup, cond_true, cond_false, Zg, Zo, ev, Nat.reduceBEq]
      refine hB [(0, v), (1, .func (.func g) #[] cap), (4, .int .i64 0), (6, v), (7, Zd ps.length), (8, Zd (k : Nat))] _ _ ?_ (by simp (maxSteps := 2000000) only [vup, cond_true, cond_false, Nat.reduceBEq])
      clear hB
      try clear B
      refine Zi ?_
      simp (maxSteps := 2000000) only [↓Za, ↓Zb, ↓Zc, vup, cond_true, cond_false, aop, ev, sput, Zf, Yk, Yl, Nat.reduceBEq, add1 (show k < 9223372036854775807 by omega)]
      refine hQ2 _ _ _ ⟨k + 1, ⟨hk', fun p hp => ?_⟩, by omega, by simp (maxSteps := 2000000) only [vup, cond_true, cond_false, Nat.reduceBEq], rfl⟩
      rw [take_snoc (d := ((0, 0) : Int × Int)) hk', hxy] at hp
      rcases List.mem_append.1 hp with h3 | h3
      · exact hall p h3
      · simp at h3; subst h3; exact hf
  · obtain rfl : k = ps.length := by omega
    refine Ze fun N7 hN7 => ?_
    simp (maxSteps := 2000000) only [↓Za, ↓Zb, ↓Zc, vup, cond_true, cond_false, aop, Zg, ev, sput, Zf, Yk, Yl, Nat.reduceBEq, hin]
    refine hN7 [(0, v), (1, .func (.func g) #[] cap), (4, .int .i64 0), (6, v), (7, Zd ps.length), (8, Zd ps.length), (9, .bool false)] _ _ ?_ (by simp (maxSteps := 2000000) only [vup, cond_true, cond_false, Nat.reduceBEq])
    clear hN7
    try clear N7
    refine Ze fun N8 hN8 => ?_
    simp (maxSteps := 2000000) only [↓Xl, ↓vdn, vup, cond_true, cond_false, Zg, ev, Nat.reduceBEq]
    refine hQ2 _ _ _ (hQ _ _ _ ?_)
    simp (maxSteps := 2000000) only [Zg, Zo, Zu, if_true]
    refine hZ [(0, v), (1, .func (.func g) #[] cap), (4, .int .i64 0), (6, v), (7, Zd ps.length), (8, Zd ps.length), (9, .bool false)] _ _ ?_ (by simp (maxSteps := 2000000) only [vup, cond_true, cond_false, Nat.reduceBEq])
    clear hZ
    try clear Z
    refine Zi ?_
    simp (maxSteps := 2000000) only [↓Za, ↓Zw, ↓Zz, ↓Zb, ↓Zc, vup, cond_true, cond_false, aop, Zg, ev, sput, Zf, Nat.reduceBEq, Zu, Xx, tup]
    rw [List.take_length] at hall
    exact ⟨_, rfl, by rw [show ps.any f = false from List.any_eq_false.2 fun p hp => by simp [hall p hp]]; decide⟩
end

theorem s101_callW [Tabs Try.prog] {args : List Value} {h : Zh} {Q : Value → Zh → Prop} (hsz : args.length ≤ 9) (hk : AWS Try.prog 9 s101 (Zu Try.prog [.tmp 4] Q) (Zp 0 args) h) : ACall Try.prog 101 args h Q :=
  Yv Try.func101 rfl (enters_of Try.func101 (by kernel_rfl) rfl) rfl rfl (by decide) s101_strip s101_ok hsz hk
theorem hasF_call [Tabs prog] {h : Zh} {v : Value} {ps : List (Int × Int)} {g : FuncId} {cap : Array Value} {f : Int × Int → Bool} (hv : PairSl h v ps) (hl : ps.length < 9223372036854775808)
    (hc : ∀ h', Ext (fun _ => False) h h' → ∀ p ∈ ps, Xm prog g ([frV p.1 p.2] ++ cap.toList) h' (.bool (f p))) : Xm prog 101 [v, .func (.func g) #[] cap] h (.bool (ps.any f)) := by
  refine s101_callW (by simp) ?_
  refine Zi ?_
  simp (maxSteps := 2000000) only [s101, ↓Za, ↓Zw, ↓Zz, ↓Zb, ↓Zc, vup, List.map_cons, List.map_nil, cond_true, cond_false, aop, Zg, Zp, ev, sput, Zf, Yk, Yl, Nat.reduceBEq, Nat.reduceAdd, Zu, Xx, tup, tyf, Yr, List.nil_append, List.append_nil]
  refine (idxF_call hv hl hc).mono ?_
  rintro _ h1 ⟨rfl, i, rfl, hi⟩
  simp (maxSteps := 2000000) only [vup, hi]

theorem s61_callW [Tabs Try.prog] {args : List Value} {h : Zh} {Q : Value → Zh → Prop} (hsz : args.length ≤ 26) (hk : AWS Try.prog 26 s61 (Zu Try.prog [.cell 4 26] Q) (Zp 0 args) h) : ACall Try.prog 61 args h Q :=
  Yv Try.func61 rfl (enters_of Try.func61 (by kernel_rfl) rfl) rfl rfl (by decide) s61_strip s61_ok hsz hk
theorem of_call [Tabs prog] {h : Zh} {v : Value} {evt N : Nat} {ps : List (Int × Int)} (hv : PairSl h v ps) (hl : ps.length ≤ 100) (hvl : Vld ps) (hev : evt < 9223372036854775808) (hN : 0 < N) (hN2 : N ≤ 10000000000000)
    (hq : ∀ k, k < ps.length → 0 ≤ fq ps k ∧ fq ps k ≤ 1 ∧ (fq ps k).den ∣ N) : Xm prog 61 [v, Zd (evt : Nat)] h (qV (Zt (inEv (fq ps) evt) ps.length)) := by
  have hq2 : ∀ k, k < ps.length → 0 ≤ inEv (fq ps) evt k ∧ inEv (fq ps) evt k ≤ 1 ∧ (inEv (fq ps) evt k).den ∣ N := fun k hk => by
    rw [inEv]; split
    · exact hq k hk
    · exact ⟨Rat.le_refl, by decide, Nat.one_dvd _⟩
  have hs : ∀ k, k ≤ ps.length → 0 ≤ Zt (inEv (fq ps) evt) k ∧ Zt (inEv (fq ps) evt) k ≤ (100 : Nat) ∧ (Zt (inEv (fq ps) evt) k).den ∣ N := fun k hk => by
    refine ⟨sumTo_nonneg fun i hi => (hq2 i (by omega)).1, ?_, sumTo_den hN fun i hi => (hq2 i (by omega)).2.2⟩
    have : ∀ j, j ≤ k → Zt (inEv (fq ps) evt) j ≤ (j : Nat) := by
      intro j
      induction j with
      | zero => intro _; exact Rat.le_refl
      | succ j ih =>
        intro hj
        have h1 := ih (by omega)
        have h2 := (hq2 j (by omega)).2.1
        rw [Zt]; push_cast; grind
    refine Rat.le_trans (this k (Nat.le_refl _)) ?_
    exact_mod_cast (show k ≤ 100 by omega)
  refine ACall.forget (low_frV _ _) ?_
  refine s61_callW (by simp) ?_
  simp only [s61]
  refine Ze fun N9 hN9 => ?_
  simp (maxSteps := 2000000) only [↓Za, ↓Zb, ↓Zc, vup, cond_false, aop, Zg, Zp, sput, Zf, Nat.reduceBEq, Nat.reduceAdd, tyf, Xn, Yx]
  refine hN9 [(0, v), (1, Zd (evt : Nat)), (4, .pointer (some ⟨h.length, 0, none⟩))] _ _ ?_ (by simp (maxSteps := 2000000) only [vup, cond_true, cond_false, Nat.reduceBEq])
  clear hN9
  try clear N9
  refine Ze fun N10 hN10 => ?_
  simp (maxSteps := 2000000) only [↓Za, ↓Zb, ↓Zc, vup, List.map_cons, List.map_nil, cond_true, cond_false, aop, Zg, ev, sput, Zf, Nat.reduceBEq, Yr, List.nil_append, List.append_nil]
  refine ((show Xm prog 70 [.int .i64 0] (h ++ [z0]) (qV ((0 : Int) : Rat)) from whole_call)).mono ?_
  rintro _ H1 ⟨rfl, hH1⟩
  have h1l : H1.length = h.length + 1 := by rw [hH1]; simp
  have q0 : qV ((0 : Int) : Rat) = .agg #[Zd 0, Zd 1] := rfl
  have n5 : (H1 ++ [Blk.cells [.int .i64 0, .int .i64 0] 26 false])[H1.length]? = some z0 := Yh _ _
  simp (maxSteps := 2000000) only [tyf, Xn, Yx, q0, Xw n5 rfl, Xy]
  rw [h1l]
  obtain ⟨H0, hH0⟩ : ∃ H0, H0 = H1 ++ [fC 0 1] := ⟨_, rfl⟩
  have d4 : H0[h.length]? = some z0 := by rw [hH0, hH1]; exact b2_0 ..
  have d5 : H0[h.length + 1]? = some (fC 0 1) := by rw [hH0, hH1]; exact b2_1 ..
  have dE : Ext (fun _ => False) h H0 := by rw [hH0, hH1]; exact e2 ..
  rw [← hH0]
  refine hN10 [(0, v), (1, Zd (evt : Nat)), (4, .pointer (some ⟨h.length, 0, none⟩)), (5, .pointer (some ⟨h.length + 1, 0, none⟩))] _ _ ?_ (by simp (maxSteps := 2000000) only [vup, cond_true, cond_false, Nat.reduceBEq])
  clear hN10
  try clear N10
  refine Zl fun Z hZ => ?_
  refine Ze fun N11 hN11 => ?_
  simp (maxSteps := 2000000) only [↓Za, ↓Zb, ↓Zc, vup, List.map_cons, List.map_nil, cond_true, cond_false, aop, Zg, ev, sput, Zf, Zk, Nat.reduceBEq, tyf, hv.len]
  refine hN11 [(0, v), (1, Zd (evt : Nat)), (4, .pointer (some ⟨h.length, 0, none⟩)), (5, .pointer (some ⟨h.length + 1, 0, none⟩)), (9, v), (10, Zd ps.length), (11, .int .i64 0)] _ _ ?_ (by simp (maxSteps := 2000000) only [vup, cond_true, cond_false, Nat.reduceBEq])
  clear hN11
  try clear N11
  refine Zn ?_
  refine Zy fun Q hQ => ?_
  refine Xd (γ := Nat × Zh) (fun s => s.1 ≤ ps.length ∧ Ext (fun _ => False) h s.2 ∧ s.2[h.length]? = some z0 ∧ s.2[h.length + 1]? = some (fC (Zt (inEv (fq ps) evt) s.1).num (Zt (inEv (fq ps) evt) s.1).den))
    (fun s => ([(0, v), (1, Zd (evt : Nat)), (4, .pointer (some ⟨h.length, 0, none⟩)), (5, .pointer (some ⟨h.length + 1, 0, none⟩)), (9, v), (10, Zd ps.length), (11, Zd (s.1 : Nat))], s.2)) (fun s => ps.length - s.1) (0, H0) ⟨Nat.zero_le _, dE, d4, d5⟩ (by simp (maxSteps := 2000000) only [vup, cond_true, cond_false, Nat.reduceBEq, Int.natCast_zero]) rfl ?_
  rintro ⟨k, hp⟩ ⟨hk, hE, k4, k5⟩
  simp only at hk hE k4 k5
  refine Zy fun Q2 hQ2 => ?_
  simp only [l61_0]
  by_cases hin : (k : Int) < ps.length
  · have hk' : k < ps.length := by omega
    have hvp := hv.ext hE
    obtain ⟨⟨x, y⟩, hxy⟩ : ∃ p, ps.getD k (0, 0) = p := ⟨_, rfl⟩
    have hmem : (x, y) ∈ ps := hxy ▸ getD_mem hk'
    have hxq := frV_q (hvl _ hmem)
    have hfq : fq ps k = toQ (x, y) := by rw [fq, hxy]
    have ht := testV (y := k) hev
    obtain ⟨s1, s2, s3⟩ := hs k hk
    obtain ⟨t1, t2, t3⟩ := hq k hk'
    have hnext : Zt (inEv (fq ps) evt) (k + 1) = Zt (inEv (fq ps) evt) k + if evt.testBit k then fq ps k else 0 := rfl
    obtain ⟨H, hH⟩ : ∃ H, H = hp ++ [fC x y] := ⟨_, rfl⟩
    have c7 : H[hp.length]? = some (fC x y) := by rw [hH]; exact Yh _ _
    have c4 : H[h.length]? = some z0 := by rw [hH]; exact Xp k4 _
    have c5 : H[h.length + 1]? = some (fC (Zt (inEv (fq ps) evt) k).num (Zt (inEv (fq ps) evt) k).den) := by rw [hH]; exact Xp k5 _
    have hEH : Ext (fun _ => False) h H := by rw [hH]; exact hE.trans (Ext.app _ _ _)
    refine Ze fun N12 hN12 => ?_
    simp (maxSteps := 2000000) only [↓Za, ↓Zb, ↓Zc, vup, cond_true, cond_false, aop, Zg, ev, sput, Zf, Yk, Yl, Nat.reduceBEq, hin]
    refine hN12 [(0, v), (1, Zd (evt : Nat)), (4, .pointer (some ⟨h.length, 0, none⟩)), (5, .pointer (some ⟨h.length + 1, 0, none⟩)), (9, v), (10, Zd ps.length), (11, Zd (k : Nat)), (12, .bool true)] _ _ ?_ (by simp (maxSteps := 2000000) only [vup, cond_true, cond_false, Nat.reduceBEq])
    clear hN12
    try clear N12
    refine Ze fun N13 hN13 => ?_
    simp (maxSteps := 2000000) only [↓Zs, ↓vdn, vup, cond_true, cond_false, Zg, ev, Nat.reduceBEq]
    refine hN13 [(0, v), (1, Zd (evt : Nat)), (4, .pointer (some ⟨h.length, 0, none⟩)), (5, .pointer (some ⟨h.length + 1, 0, none⟩)), (9, v), (10, Zd ps.length), (11, Zd (k : Nat))] _ _ ?_ (by simp (maxSteps := 2000000) only [vup, cond_true, cond_false, Nat.reduceBEq])
    clear hN13
    try clear N13
    refine Zl fun B hB => ?_
    refine Zn ?_
    refine Ze fun N14 hN14 => ?_
    simp (maxSteps := 2000000) only [↓Za, ↓Zb, ↓Zc, vup, cond_true, cond_false, aop, Zg, ev, sput, Zf, Nat.reduceBEq, tyf, hvp.idx el_90 esz_26 hk', hvp.load shp_26 hk', hxy, Xn, Yx, Xw (Yh hp z0) rfl, Xy]
    rw [← hH]
    refine hN14 [(0, v), (1, Zd (evt : Nat)), (4, .pointer (some ⟨h.length, 0, none⟩)), (5, .pointer (some ⟨h.length + 1, 0, none⟩)), (6, Zd (k : Nat)), (7, .pointer (some ⟨hp.length, 0, none⟩)), (9, v), (10, Zd ps.length), (11, Zd (k : Nat))] _ _ ?_ (by simp (maxSteps := 2000000) only [vup, cond_true, cond_false, Nat.reduceBEq])
    clear hN14
    try clear N14
    have fin : ∀ e h2, Ext (fun _ => False) h h2 → h2[h.length]? = some z0 → h2[h.length + 1]? = some (fC (Zt (inEv (fq ps) evt) (k + 1)).num (Zt (inEv (fq ps) evt) (k + 1)).den) → ELe e [(0, v), (1, Zd (evt : Nat)), (4, .pointer (some ⟨h.length, 0, none⟩)), (5, .pointer (some ⟨h.length + 1, 0, none⟩)), (9, v), (10, Zd ps.length), (11, Zd (k : Nat))] → B e h2 := by
      intro e h2 g1 g2 g3 he
      refine hB _ _ _ ?_ he
      refine Zi ?_
      simp (maxSteps := 2000000) only [↓Za, ↓Zb, ↓Zc, vup, cond_true, cond_false, aop, ev, sput, Zf, Yk, Yl, Nat.reduceBEq, add1 (show k < 9223372036854775807 by omega)]
      exact hQ2 _ _ _ ⟨(k + 1, h2), ⟨hk', g1, g2, g3⟩, by simp only; omega, by simp (maxSteps := 2000000) only [vup, cond_true, cond_false, Nat.reduceBEq], rfl⟩
    refine Ze fun N15 hN15 => ?_
    simp (maxSteps := 2000000) only [↓Za, ↓Zb, ↓Zc, vup, cond_true, cond_false, aop, Zg, ev, sput, Zf, Yk, Yl, Nat.reduceBEq, ht, beq1]
    refine hN15 [(0, v), (1, Zd (evt : Nat)), (4, .pointer (some ⟨h.length, 0, none⟩)), (5, .pointer (some ⟨h.length + 1, 0, none⟩)), (6, Zd (k : Nat)), (7, .pointer (some ⟨hp.length, 0, none⟩)), (9, v), (10, Zd ps.length), (11, Zd (k : Nat)), (20, .bool (evt.testBit k))] _ _ ?_ (by simp (maxSteps := 2000000) only [vup, cond_true, cond_false, Nat.reduceBEq])
    clear hN15
    try clear N15
    refine Zi ?_
    cases hbit : evt.testBit k with
    | false =>
      rw [hbit, if_neg (by decide), Rat.add_zero] at hnext
      simp (maxSteps := 2000000) only [↓Zs, ↓vdn, vup, cond_true, cond_false, Zg, Zo, ev, Nat.reduceBEq]
      exact fin _ _ hEH c4 (by rw [hnext]; exact c5) (by simp (maxSteps := 2000000) only [vup, cond_true, cond_false, Nat.reduceBEq])
    | true =>
      rw [hbit, if_pos rfl] at hnext
      have pl := plus_fits (h := H) (k := 1) (A := 100) (B := 1) hN (by omega) s3 t3 (Rat.le_trans (by decide) s1) s2 (Rat.le_trans (by decide) t1) t2 (by simp; omega)
      rw [show (((1 : Int)) : Rat) = 1 from rfl, Rat.one_mul, ← hnext, hfq, ← hxq] at pl
      obtain ⟨q, hqq⟩ : ∃ q, Zt (inEv (fq ps) evt) (k + 1) = q := ⟨_, rfl⟩
      rw [hqq] at pl fin
      obtain ⟨s, hss⟩ : ∃ s, Zt (inEv (fq ps) evt) k = s := ⟨_, rfl⟩
      rw [hss] at pl c5
      simp (maxSteps := 2000000) only [↓Za, ↓Zb, ↓Zc, ↓vdn, vup, List.map_cons, List.map_nil, cond_true, cond_false, aop, Zg, Zo, ev, sput, Zf, Nat.reduceBEq, Xz c5, Xz c7, Yr, List.nil_append, List.append_nil]
      refine (show Xm prog 71 [.agg #[Zd s.num, Zd s.den], Zd 1, .agg #[Zd x, Zd y]] H (qV q) from pl).mono ?_
      rintro _ H ⟨rfl, rfl⟩
      simp (maxSteps := 2000000) only [qV, frV, Xw c5 rfl]
      refine fin _ _ (hEH.set_ge (by omega) _) (by rw [List.getElem?_set_ne (by omega)]; exact c4) (Wa (Yn c5) _) (by simp (maxSteps := 2000000) only [vup, cond_true, cond_false, Nat.reduceBEq])
  · obtain rfl : k = ps.length := by omega
    refine Ze fun N16 hN16 => ?_
    simp (maxSteps := 2000000) only [↓Za, ↓Zb, ↓Zc, vup, cond_true, cond_false, aop, Zg, ev, sput, Zf, Yk, Yl, Nat.reduceBEq, hin]
    refine hN16 [(0, v), (1, Zd (evt : Nat)), (4, .pointer (some ⟨h.length, 0, none⟩)), (5, .pointer (some ⟨h.length + 1, 0, none⟩)), (9, v), (10, Zd ps.length), (11, Zd ps.length), (12, .bool false)] _ _ ?_ (by simp (maxSteps := 2000000) only [vup, cond_true, cond_false, Nat.reduceBEq])
    clear hN16
    try clear N16
    refine Ze fun N17 hN17 => ?_
    simp (maxSteps := 2000000) only [↓Xl, ↓vdn, vup, cond_true, cond_false, Zg, ev, Nat.reduceBEq]
    refine hQ2 _ _ _ (hQ _ _ _ ?_)
    simp (maxSteps := 2000000) only [Zg, Zo, Zu, if_true]
    refine hZ [(0, v), (1, Zd (evt : Nat)), (4, .pointer (some ⟨h.length, 0, none⟩)), (5, .pointer (some ⟨h.length + 1, 0, none⟩)), (9, v), (10, Zd ps.length), (11, Zd ps.length), (12, .bool false)] _ _ ?_ (by simp (maxSteps := 2000000) only [vup, cond_true, cond_false, Nat.reduceBEq])
    clear hZ
    try clear Z
    obtain ⟨q, hqq⟩ : ∃ q, Zt (inEv (fq ps) evt) ps.length = q := ⟨_, rfl⟩
    rw [hqq] at k5 ⊢
    refine Zi ?_
    simp (maxSteps := 2000000) only [↓Za, ↓Zw, ↓Zz, ↓Zb, ↓Zc, vup, cond_true, cond_false, aop, Zg, ev, sput, Zf, Nat.reduceBEq, Zu, Xx, tup, Xz k5, Xw k4 rfl, Xz (Wa (Yn k4) _)]
    exact ⟨rfl, hE.set_ge (Nat.le_refl _) _⟩
end Go.Proofs.Try.Am

namespace Go.Proofs.Try.Am
open Go.Am Bq
set_option maxRecDepth 100000
set_option maxHeartbeats 1000000

theorem shl1 {n : Nat} (h : n ≤ 62) : shlV .i64 1 n = 2 ^ n := by
  have h2 : 2 ^ n ≤ 2 ^ 62 := Nat.pow_le_pow_right (by decide) h
  have := shlV_nat (a := 1) (y := n) (by omega) (by omega)
  simpa using this
theorem pow_cast (n : Nat) : ((2 ^ n : Nat) : Int) = 2 ^ n := by simp
theorem pow_le {n : Nat} (h : n ≤ 62) : 2 ^ n ≤ 4611686018427387904 := Nat.pow_le_pow_right (n := 2) (j := 62) (by decide) h
end Go.Proofs.Try.Am

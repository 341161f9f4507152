/-
  Printed by gen.py: facts on the types of this seat, asked of the kernel.
  Printed by gen.py: the code of some functions, without what no step looks at; held against the program's own by the kernel.
  bets: fractions as rational numbers: parts of a common multiple. Plain Lean, no program.
  bets: fractions: the program's arithmetic, and the reference's.
  bets: fractions: sums, products, quotients.
  bets: the common multiple of fractions that sum to one: its square divides the product. Plain Lean, no program.
  bets: fractions as they are handed in; their common multiple; a forecast's is small. Plain Lean, no program.
  bets: forecasts as numbers. Plain Lean, no program.
  bets: fractions: the reference's arithmetic; a fraction's checks.
  Printed by gen.py: the code of some functions, without what no step looks at; held against the program's own by the kernel.
  bets: the common multiple of fractions.
  Printed by gen.py: the code of some functions, without what no step looks at; held against the program's own by the kernel.
  bets: chances: their checks, sums over an event, parts.
  Printed by gen.py: the code of some functions, without what no step looks at; held against the program's own by the kernel.
-/
import Derived.Test.YtcmindinomacbaaPk3
import Derived.Test.YtcmindinomacbaaProg
import Derived.KernelRfl
import Derived.Shelf.Abstract
import Derived.Test.YtcmindinomacbaaPk5
set_option linter.all false
namespace Go.Proofs.Try.Am
open Go.Am
set_option maxRecDepth 100000
theorem app_103_103 : appT Try.prog 103 103 = some (47, 1, 24) := by kernel_rfl
theorem app_22_22 : appT Try.prog 22 22 = some (24, 2, 16) := by kernel_rfl
theorem app_30_30 : appT Try.prog 30 30 = some (92, 2, 16) := by kernel_rfl
theorem app_38_38 : appT Try.prog 38 38 = some (3, 1, 8) := by kernel_rfl
theorem app_47_47 : appT Try.prog 47 47 = some (26, 2, 16) := by kernel_rfl
theorem app_88_88 : appT Try.prog 88 88 = some (90, 1, 24) := by kernel_rfl
theorem app_94_94 : appT Try.prog 94 94 = some (47, 1, 24) := by kernel_rfl
theorem el_103 : elemOf' Try.prog 103 = some 47 := by kernel_rfl
theorem el_22 : elemOf' Try.prog 22 = some 24 := by kernel_rfl
theorem el_30 : elemOf' Try.prog 30 = some 92 := by kernel_rfl
theorem el_38 : elemOf' Try.prog 38 = some 3 := by kernel_rfl
theorem el_47 : elemOf' Try.prog 47 = some 26 := by kernel_rfl
theorem el_88 : elemOf' Try.prog 88 = some 90 := by kernel_rfl
theorem el_90 : elemOf' Try.prog 90 = some 26 := by kernel_rfl
theorem el_94 : elemOf' Try.prog 94 = some 47 := by kernel_rfl
theorem esz_112 : esz Try.prog 112 = some 1 := by kernel_rfl
theorem esz_24 : esz Try.prog 24 = some 2 := by kernel_rfl
theorem Vg : esz Try.prog 26 = some 2 := by kernel_rfl
theorem esz_3 : esz Try.prog 3 = some 1 := by kernel_rfl
theorem esz_30 : esz Try.prog 30 = some 1 := by kernel_rfl
theorem esz_35 : esz Try.prog 35 = some 1 := by kernel_rfl
theorem esz_38 : esz Try.prog 38 = some 1 := by kernel_rfl
theorem esz_47 : esz Try.prog 47 = some 1 := by kernel_rfl
theorem esz_75 : esz Try.prog 75 = some 1 := by kernel_rfl
theorem esz_76 : esz Try.prog 76 = some 1 := by kernel_rfl
theorem esz_86 : esz Try.prog 86 = some 2 := by kernel_rfl
theorem esz_90 : esz Try.prog 90 = some 1 := by kernel_rfl
theorem esz_92 : esz Try.prog 92 = some 2 := by kernel_rfl
theorem fld_24_0 : fldOf Try.prog 24 0 = some (3, 0) := by kernel_rfl
theorem fld_24_1 : fldOf Try.prog 24 1 = some (3, 1) := by kernel_rfl
theorem fld_26_0 : fldOf Try.prog 26 0 = some (3, 0) := by kernel_rfl
theorem fld_26_1 : fldOf Try.prog 26 1 = some (3, 1) := by kernel_rfl
theorem fld_75_0 : fldOf Try.prog 75 0 = some (38, 0) := by kernel_rfl
theorem fld_76_0 : fldOf Try.prog 76 0 = some (38, 0) := by kernel_rfl
theorem fld_86_0 : fldOf Try.prog 86 0 = some (3, 0) := by kernel_rfl
theorem fld_86_1 : fldOf Try.prog 86 1 = some (30, 1) := by kernel_rfl
theorem fld_92_0 : fldOf Try.prog 92 0 = some (3, 0) := by kernel_rfl
theorem fld_92_1 : fldOf Try.prog 92 1 = some (3, 1) := by kernel_rfl
theorem info_26 : (Try.prog.info? 26).map (fun i => (i.size, i.bytes)) = some (2, 16) := by kernel_rfl
theorem info_3 : (Try.prog.info? 3).map (fun i => (i.size, i.bytes)) = some (1, 8) := by kernel_rfl
theorem isl_103 : isSl Try.prog 103 = true := by kernel_rfl
theorem isl_22 : isSl Try.prog 22 = true := by kernel_rfl
theorem isl_30 : isSl Try.prog 30 = true := by kernel_rfl
theorem isl_38 : isSl Try.prog 38 = true := by kernel_rfl
theorem isl_47 : isSl Try.prog 47 = true := by kernel_rfl
theorem isl_88 : isSl Try.prog 88 = true := by kernel_rfl
theorem isl_90 : isSl Try.prog 90 = true := by kernel_rfl
theorem isl_94 : isSl Try.prog 94 = true := by kernel_rfl
theorem pl_24_0 : Vl Try.prog 24 0 = some (0, 1) := by kernel_rfl
theorem pl_24_1 : Vl Try.prog 24 1 = some (1, 1) := by kernel_rfl
theorem pl_26_0 : Vl Try.prog 26 0 = some (0, 1) := by kernel_rfl
theorem pl_26_1 : Vl Try.prog 26 1 = some (1, 1) := by kernel_rfl
theorem pl_75_0 : Vl Try.prog 75 0 = some (0, 1) := by kernel_rfl
theorem pl_76_0 : Vl Try.prog 76 0 = some (0, 1) := by kernel_rfl
theorem pl_86_0 : Vl Try.prog 86 0 = some (0, 1) := by kernel_rfl
theorem pl_86_1 : Vl Try.prog 86 1 = some (1, 1) := by kernel_rfl
theorem pl_92_0 : Vl Try.prog 92 0 = some (0, 1) := by kernel_rfl
theorem pl_92_1 : Vl Try.prog 92 1 = some (1, 1) := by kernel_rfl
theorem shp_112 : shp Try.prog 112 = some none := by kernel_rfl
theorem shp_24 : shp Try.prog 24 = some (some 2) := by kernel_rfl
theorem shp_26 : shp Try.prog 26 = some (some 2) := by kernel_rfl
theorem shp_3 : shp Try.prog 3 = some none := by kernel_rfl
theorem shp_30 : shp Try.prog 30 = some none := by kernel_rfl
theorem shp_35 : shp Try.prog 35 = some none := by kernel_rfl
theorem shp_38 : shp Try.prog 38 = some none := by kernel_rfl
theorem shp_47 : shp Try.prog 47 = some none := by kernel_rfl
theorem shp_75 : shp Try.prog 75 = some (some 1) := by kernel_rfl
theorem shp_76 : shp Try.prog 76 = some (some 1) := by kernel_rfl
theorem shp_86 : shp Try.prog 86 = some (some 2) := by kernel_rfl
theorem shp_90 : shp Try.prog 90 = some none := by kernel_rfl
theorem shp_92 : shp Try.prog 92 = some (some 2) := by kernel_rfl
theorem und_103 : Program.underlying Try.prog 103 = some (.slice 47) := by kernel_rfl
theorem und_126 : Program.underlying Try.prog 126 = some (.int .u32) := by kernel_rfl
theorem und_129 : Program.underlying Try.prog 129 = some (.int .u64) := by kernel_rfl
theorem und_22 : Program.underlying Try.prog 22 = some (.slice 24) := by kernel_rfl
theorem und_3 : Program.underlying Try.prog 3 = some (.int .i64) := by kernel_rfl
theorem und_30 : Program.underlying Try.prog 30 = some (.slice 92) := by kernel_rfl
theorem und_38 : Program.underlying Try.prog 38 = some (.slice 3) := by kernel_rfl
theorem und_4 : Program.underlying Try.prog 4 = some (.bool) := by kernel_rfl
theorem und_47 : Program.underlying Try.prog 47 = some (.slice 26) := by kernel_rfl
theorem und_67 : Program.underlying Try.prog 67 = some (.int .u64) := by kernel_rfl
theorem und_88 : Program.underlying Try.prog 88 = some (.slice 90) := by kernel_rfl
theorem und_90 : Program.underlying Try.prog 90 = some (.slice 26) := by kernel_rfl
theorem und_94 : Program.underlying Try.prog 94 = some (.slice 47) := by kernel_rfl
theorem zero_24 : Wf Try.prog 24 = some [.int .i64 0, .int .i64 0] := by kernel_rfl
theorem zero_26 : Wf Try.prog 26 = some [.int .i64 0, .int .i64 0] := by kernel_rfl
theorem zero_3 : Wf Try.prog 3 = some [.int .i64 0] := by kernel_rfl
theorem zero_38 : Wf Try.prog 38 = some [.slice none 0 0] := by kernel_rfl
theorem zero_47 : Wf Try.prog 47 = some [.slice none 0 0] := by kernel_rfl
theorem zero_75 : Wf Try.prog 75 = some [.slice none 0 0] := by kernel_rfl
theorem zero_76 : Wf Try.prog 76 = some [.slice none 0 0] := by kernel_rfl
theorem zero_86 : Wf Try.prog 86 = some [.int .i64 0, .slice none 0 0] := by kernel_rfl
theorem zero_90 : Wf Try.prog 90 = some [.slice none 0 0] := by kernel_rfl
theorem zero_92 : Wf Try.prog 92 = some [.int .i64 0, .int .i64 0] := by kernel_rfl
def tyf := (And.intro (And.intro (And.intro (And.intro (And.intro (And.intro (And.intro @app_103_103 @app_22_22) @app_30_30) (And.intro (And.intro @app_38_38 @app_47_47) @app_88_88)) (And.intro (And.intro (And.intro @app_94_94 @el_103) @el_22) (And.intro (And.intro @el_30 @el_38) @el_47))) (And.intro (And.intro (And.intro (And.intro @el_88 @el_90) @el_94) (And.intro (And.intro @esz_112 @esz_24) @Vg)) (And.intro (And.intro (And.intro @esz_3 @esz_30) @esz_35) (And.intro (And.intro @esz_38 @esz_47) @esz_75)))) (And.intro (And.intro (And.intro (And.intro (And.intro @esz_76 @esz_86) @esz_90) (And.intro (And.intro @esz_92 @fld_24_0) @fld_24_1)) (And.intro (And.intro (And.intro @fld_26_0 @fld_26_1) @fld_75_0) (And.intro (And.intro @fld_76_0 @fld_86_0) @fld_86_1))) (And.intro (And.intro (And.intro (And.intro @fld_92_0 @fld_92_1) @info_26) (And.intro (And.intro @info_3 @isl_103) @isl_22)) (And.intro (And.intro (And.intro @isl_30 @isl_38) @isl_47) (And.intro @isl_88 @isl_90))))) (And.intro (And.intro (And.intro (And.intro (And.intro (And.intro @isl_94 @pl_24_0) @pl_24_1) (And.intro (And.intro @pl_26_0 @pl_26_1) @pl_75_0)) (And.intro (And.intro (And.intro @pl_76_0 @pl_86_0) @pl_86_1) (And.intro (And.intro @pl_92_0 @pl_92_1) @shp_112))) (And.intro (And.intro (And.intro (And.intro @shp_24 @shp_26) @shp_3) (And.intro (And.intro @shp_30 @shp_35) @shp_38)) (And.intro (And.intro (And.intro @shp_47 @shp_75) @shp_76) (And.intro (And.intro @shp_86 @shp_90) @shp_92)))) (And.intro (And.intro (And.intro (And.intro (And.intro @und_103 @und_126) @und_129) (And.intro (And.intro @und_22 @und_3) @und_30)) (And.intro (And.intro (And.intro @und_38 @und_4) @und_47) (And.intro (And.intro @und_67 @und_88) @und_90))) (And.intro (And.intro (And.intro (And.intro @und_94 @zero_24) @zero_26) (And.intro (And.intro @zero_3 @zero_38) @zero_47)) (And.intro (And.intro (And.intro @zero_75 @zero_76) @zero_86) (And.intro @zero_90 @zero_92))))))
end Go.Proofs.Try.Am

namespace Go.Proofs.Try.Am
open Go.Am
set_option maxRecDepth 100000
/-! 21: planchet planchetlaw09.awake -/
@[reducible] def q21_0 : SCode := .region [⟨some 0, .assign (.const (.bool false)), none⟩]
@[reducible] def q21_1 : SCode := .region [⟨some 4, .build 92 #[(0, .const (.int .i64 1)), (1, .const (.int .i64 6))], none⟩,
    ⟨some 5, .buildSlice 30 1 #[(0, .tmp 4)], none⟩,
    ⟨some 6, .call { callee := .value (.func 36), args := #[.const (.int .i64 2), .tmp 5], argTypes := #[3, 30] }, none⟩,
    ⟨some 3, .move (.tmp 6), none⟩,
    ⟨some 7, .extract (.tmp 3) 0, none⟩,
    ⟨some 8, .extract (.tmp 3) 1, none⟩,
    ⟨some 1, .assign (.tmp 7), none⟩,
    ⟨some 2, .assign (.tmp 8), none⟩]
@[reducible] def q21_2 : SCode := .region [⟨some 9, .move (.tmp 2), none⟩,
    ⟨some 10, .binOp .eql 27 (.tmp 9) (.const (.int .i64 0)) 27, none⟩,
    ⟨some 11, .move (.tmp 10), none⟩,
    ⟨some 12, .move (.tmp 1), some (11, true)⟩,
    ⟨some 13, .build 26 #[(0, .const (.int .i64 1)), (1, .const (.int .i64 2))], some (11, true)⟩,
    ⟨some 14, .build 26 #[(0, .const (.int .i64 1)), (1, .const (.int .i64 2))], some (11, true)⟩,
    ⟨some 15, .buildSlice 47 2 #[(0, .tmp 13), (1, .tmp 14)], some (11, true)⟩,
    ⟨some 16, .call { callee := .value (.func 35), args := #[.tmp 12, .tmp 15], argTypes := #[47, 47] }, some (11, true)⟩,
    ⟨some 17, .pick (.tmp 11) (.tmp 16) (.const (.bool false)), none⟩,
    ⟨some 0, .assign (.tmp 17), none⟩]
def s21 : SCode := (.seq q21_0 (.seq q21_1 (.seq q21_2 .ret)))
theorem s21_strip : Yc (Zx Try.f21) = s21 := by kernel_rfl
theorem s21_ok : Yp 18 (Zx Try.f21) = true := by kernel_rfl
/-! 22: planchet planchetlaw09.unit -/
@[reducible] def q22_0 : SCode := .region [⟨some 1, .box 26 (.tmp 0), none⟩,
    ⟨some 2, .assign (.const (.bool false)), none⟩]
@[reducible] def q22_1 : SCode := .region [⟨some 3, .fieldAddr 26 (.tmp 1) 1, none⟩,
    ⟨some 4, .load 3 (.tmp 3), none⟩,
    ⟨some 5, .binOp .geq 3 (.tmp 4) (.const (.int .i64 1)) 3, none⟩,
    ⟨some 6, .move (.tmp 5), none⟩,
    ⟨some 7, .fieldAddr 26 (.tmp 1) 1, some (6, true)⟩,
    ⟨some 8, .load 3 (.tmp 7), some (6, true)⟩,
    ⟨some 9, .binOp .leq 3 (.tmp 8) (.const (.int .i64 1000)) 3, some (6, true)⟩,
    ⟨some 10, .pick (.tmp 6) (.tmp 9) (.const (.bool false)), none⟩,
    ⟨some 11, .move (.tmp 10), none⟩,
    ⟨some 12, .fieldAddr 26 (.tmp 1) 0, some (11, true)⟩,
    ⟨some 13, .load 3 (.tmp 12), some (11, true)⟩,
    ⟨some 14, .binOp .geq 3 (.tmp 13) (.const (.int .i64 0)) 3, some (11, true)⟩,
    ⟨some 15, .pick (.tmp 11) (.tmp 14) (.const (.bool false)), none⟩,
    ⟨some 16, .move (.tmp 15), none⟩,
    ⟨some 17, .fieldAddr 26 (.tmp 1) 0, some (16, true)⟩,
    ⟨some 18, .load 3 (.tmp 17), some (16, true)⟩,
    ⟨some 19, .fieldAddr 26 (.tmp 1) 1, some (16, true)⟩,
    ⟨some 20, .load 3 (.tmp 19), some (16, true)⟩,
    ⟨some 21, .binOp .leq 3 (.tmp 18) (.tmp 20) 3, some (16, true)⟩,
    ⟨some 22, .pick (.tmp 16) (.tmp 21) (.const (.bool false)), none⟩,
    ⟨some 2, .assign (.tmp 22), none⟩]
def s22 : SCode := (.seq q22_0 (.seq q22_1 .ret))
theorem s22_strip : Yc (Zx Try.f22) = s22 := by kernel_rfl
theorem s22_ok : Yp 23 (Zx Try.f22) = true := by kernel_rfl
/-! 23: planchet planchetref09.Less -/
@[reducible] def q23_0 : SCode := .region [⟨some 2, .box 26 (.tmp 0), none⟩,
    ⟨some 3, .box 26 (.tmp 1), none⟩,
    ⟨some 4, .assign (.const (.bool false)), none⟩]
@[reducible] def q23_1 : SCode := .region [⟨some 5, .fieldAddr 26 (.tmp 2) 0, none⟩,
    ⟨some 6, .load 3 (.tmp 5), none⟩,
    ⟨some 7, .fieldAddr 26 (.tmp 3) 1, none⟩,
    ⟨some 8, .load 3 (.tmp 7), none⟩,
    ⟨some 9, .binOp .mul 3 (.tmp 6) (.tmp 8) 3, none⟩,
    ⟨some 10, .fieldAddr 26 (.tmp 3) 0, none⟩,
    ⟨some 11, .load 3 (.tmp 10), none⟩,
    ⟨some 12, .fieldAddr 26 (.tmp 2) 1, none⟩,
    ⟨some 13, .load 3 (.tmp 12), none⟩,
    ⟨some 14, .binOp .mul 3 (.tmp 11) (.tmp 13) 3, none⟩,
    ⟨some 15, .binOp .lss 3 (.tmp 9) (.tmp 14) 3, none⟩,
    ⟨some 4, .assign (.tmp 15), none⟩]
def s23 : SCode := (.seq q23_0 (.seq q23_1 .ret))
theorem s23_strip : Yc (Zx Try.f23) = s23 := by kernel_rfl
theorem s23_ok : Yp 16 (Zx Try.f23) = true := by kernel_rfl
/-! 32: planchet planchetlaw09.fracs -/
@[reducible] def q32_0 : SCode := .region [⟨some 2, .assign (.const (.slice none 0 0)), none⟩]
@[reducible] def q32_1 : SCode := .region [⟨some 3, .move (.tmp 0), none⟩,
    ⟨some 4, .move (.tmp 0), none⟩,
    ⟨some 5, .call { callee := .builtin .len, args := #[.tmp 4], argTypes := #[47] }, none⟩,
    ⟨some 6, .call { callee := .builtin .min, args := #[.tmp 5, .const (.int .i64 8)], argTypes := #[3, 3] }, none⟩,
    ⟨some 7, .slice 47 (.tmp 3) none (some (.tmp 6)) none, none⟩,
    ⟨some 8, .call { callee := .value (.func 57), args := #[.tmp 7], argTypes := #[47] }, none⟩,
    ⟨some 2, .assign (.tmp 8), none⟩]
def s32 : SCode := (.seq q32_0 (.seq q32_1 .ret))
theorem s32_strip : Yc (Zx Try.f32) = s32 := by kernel_rfl
theorem s32_ok : Yp 9 (Zx Try.f32) = true := by kernel_rfl
theorem s32_call [Tabs Try.prog] {args : List Value} {h : Zh} {Q : Value → Zh → Prop} (hsz : args.length ≤ 9) (hk : aw Try.prog 9 s32 (Zv Try.prog [.tmp 2] Q) (Zo 0 args) h) : ACall Try.prog 32 args h Q :=
  acall_s Try.func32 rfl (enters_of Try.func32 (by kernel_rfl) rfl) rfl rfl (by decide) s32_strip s32_ok hsz hk

/-! 57: slices.Clone[[]planchet api.Frac,planchet api.Frac] -/
@[reducible] def q57_0 : SCode := .region [⟨some 2, .assign (.const (.slice none 0 0)), none⟩]
@[reducible] def q57_1 : SCode := .region [⟨some 3, .move (.tmp 0), none⟩,
    ⟨some 4, .binOp .eql 47 (.tmp 3) (.const (.slice none 0 0)) 47, none⟩]
@[reducible] def q57_2 : SCode := .region [⟨some 2, .assign (.const (.slice none 0 0)), none⟩]
@[reducible] def q57_3 : SCode := .region [⟨some 5, .buildSlice 47 0 #[], none⟩,
    ⟨some 6, .move (.tmp 0), none⟩,
    ⟨some 7, .call { callee := .builtin .append, args := #[.tmp 5, .tmp 6], argTypes := #[47, 47] }, none⟩,
    ⟨some 2, .assign (.tmp 7), none⟩]
def s57 : SCode := (.seq q57_0 (.seq (.seq q57_1 (.cond (.tmp 4) (.seq q57_2 .ret) .skip)) (.seq q57_3 .ret)))
theorem s57_strip : Yc (Zx Try.f57) = s57 := by kernel_rfl
theorem s57_ok : Yp 8 (Zx Try.f57) = true := by kernel_rfl
theorem s57_call [Tabs Try.prog] {args : List Value} {h : Zh} {Q : Value → Zh → Prop} (hsz : args.length ≤ 8) (hk : aw Try.prog 8 s57 (Zv Try.prog [.tmp 2] Q) (Zo 0 args) h) : ACall Try.prog 57 args h Q :=
  acall_s Try.func57 rfl (enters_of Try.func57 (by kernel_rfl) rfl) rfl rfl (by decide) s57_strip s57_ok hsz hk

/-! 59: (planchet bets.table).isEvent -/
@[reducible] def q59_0 : SCode := .region [⟨some 2, .box 86 (.tmp 0), none⟩,
    ⟨some 4, .assign (.const (.bool false)), none⟩]
@[reducible] def q59_1 : SCode := .region [⟨some 5, .move (.tmp 1), none⟩,
    ⟨some 6, .binOp .geq 3 (.tmp 5) (.const (.int .i64 0)) 3, none⟩,
    ⟨some 7, .move (.tmp 6), none⟩,
    ⟨some 8, .move (.tmp 1), some (7, true)⟩,
    ⟨some 9, .fieldAddr 86 (.tmp 2) 0, some (7, true)⟩,
    ⟨some 10, .load 3 (.tmp 9), some (7, true)⟩,
    ⟨some 11, .binOp .shl 3 (.const (.int .i64 1)) (.tmp 10) 3, some (7, true)⟩,
    ⟨some 12, .binOp .lss 3 (.tmp 8) (.tmp 11) 3, some (7, true)⟩,
    ⟨some 13, .pick (.tmp 7) (.tmp 12) (.const (.bool false)), none⟩,
    ⟨some 4, .assign (.tmp 13), none⟩]
def s59 : SCode := (.seq q59_0 (.seq q59_1 .ret))
theorem s59_strip : Yc (Zx Try.f59) = s59 := by kernel_rfl
theorem s59_ok : Yp 14 (Zx Try.f59) = true := by kernel_rfl
/-! 62: planchet bets.less -/
@[reducible] def q62_0 : SCode := .region [⟨some 2, .box 26 (.tmp 0), none⟩,
    ⟨some 3, .box 26 (.tmp 1), none⟩,
    ⟨some 4, .assign (.const (.bool false)), none⟩]
@[reducible] def q62_1 : SCode := .region [⟨some 5, .load 26 (.tmp 2), none⟩,
    ⟨some 6, .load 26 (.tmp 3), none⟩,
    ⟨some 7, .call { callee := .value (.func 71), args := #[.tmp 5, .const (.int .i64 (-1)), .tmp 6], argTypes := #[26, 3, 26] }, none⟩,
    ⟨some 8, .field 26 (.tmp 7) 0, none⟩,
    ⟨some 9, .binOp .lss 3 (.tmp 8) (.const (.int .i64 0)) 3, none⟩,
    ⟨some 4, .assign (.tmp 9), none⟩]
def s62 : SCode := (.seq q62_0 (.seq q62_1 .ret))
theorem s62_strip : Yc (Zx Try.f62) = s62 := by kernel_rfl
theorem s62_ok : Yp 10 (Zx Try.f62) = true := by kernel_rfl
/-! 63: planchet planchetref09.Worlds -/
@[reducible] def q63_0 : SCode := .region [⟨some 2, .assign (.const (.bool false)), none⟩]
@[reducible] def q63_1 : SCode := .region [⟨some 3, .move (.tmp 0), none⟩,
    ⟨some 4, .binOp .geq 3 (.tmp 3) (.const (.int .i64 2)) 3, none⟩,
    ⟨some 5, .move (.tmp 4), none⟩,
    ⟨some 6, .move (.tmp 0), some (5, true)⟩,
    ⟨some 7, .binOp .leq 3 (.tmp 6) (.const (.int .i64 5)) 3, some (5, true)⟩,
    ⟨some 8, .pick (.tmp 5) (.tmp 7) (.const (.bool false)), none⟩,
    ⟨some 2, .assign (.tmp 8), none⟩]
def s63 : SCode := (.seq q63_0 (.seq q63_1 .ret))
theorem s63_strip : Yc (Zx Try.f63) = s63 := by kernel_rfl
theorem s63_ok : Yp 9 (Zx Try.f63) = true := by kernel_rfl
/-! 64: planchet bets.frac -/
@[reducible] def q64_0 : SCode := .region [⟨some 4, .alloc 26, none⟩]
@[reducible] def q64_1 : SCode := .region [⟨some 6, .move (.tmp 1), none⟩,
    ⟨some 7, .binOp .lss 3 (.tmp 6) (.const (.int .i64 0)) 3, none⟩]
@[reducible] def q64_2 : SCode := .region [⟨some 8, .move (.tmp 0), none⟩,
    ⟨some 9, .unOp .neg 3 (.tmp 8), none⟩,
    ⟨some 10, .move (.tmp 1), none⟩,
    ⟨some 11, .unOp .neg 3 (.tmp 10), none⟩,
    ⟨some 0, .assign (.tmp 9), none⟩,
    ⟨some 1, .assign (.tmp 11), none⟩]
@[reducible] def q64_3 : SCode := .region [⟨some 12, .move (.tmp 0), none⟩,
    ⟨some 13, .move (.tmp 1), none⟩,
    ⟨some 14, .call { callee := .value (.func 88), args := #[.tmp 12, .tmp 13], argTypes := #[3, 3] }, none⟩,
    ⟨some 5, .assign (.tmp 14), none⟩]
def q64_4 : SCode := .draw [⟨some 15, .move (.tmp 0), none⟩,
    ⟨some 16, .move (.tmp 5), none⟩,
    ⟨some 17, .binOp .quo 3 (.tmp 15) (.tmp 16) 3, none⟩,
    ⟨some 18, .move (.tmp 1), none⟩,
    ⟨some 19, .move (.tmp 5), none⟩,
    ⟨some 20, .binOp .quo 3 (.tmp 18) (.tmp 19) 3, none⟩,
    ⟨some 21, .build 26 #[(0, .tmp 17), (1, .tmp 20)], none⟩,
    ⟨none, .store 26 (.tmp 4) (.tmp 21), none⟩]
   [[], [], [0, 1], [], [], [3, 4], [2, 5], [6, 0, 1, 2, 3, 4, 5, 6]]
def s64 : SCode := (.seq q64_0 (.seq (.seq q64_1 (.cond (.tmp 7) q64_2 .skip)) (.seq q64_3 (.seq q64_4 .ret))))
theorem s64_strip : Yc (Zx Try.f64) = s64 := by kernel_rfl
theorem s64_ok : Yp 22 (Zx Try.f64) = true := by kernel_rfl
/-! 68: planchet planchetref09.frac -/
@[reducible] def q68_0 : SCode := .region [⟨some 4, .alloc 26, none⟩]
@[reducible] def q68_1 : SCode := .region [⟨some 7, .move (.tmp 1), none⟩,
    ⟨some 8, .binOp .lss 3 (.tmp 7) (.const (.int .i64 0)) 3, none⟩]
@[reducible] def q68_2 : SCode := .region [⟨some 9, .move (.tmp 0), none⟩,
    ⟨some 10, .unOp .neg 3 (.tmp 9), none⟩,
    ⟨some 11, .move (.tmp 1), none⟩,
    ⟨some 12, .unOp .neg 3 (.tmp 11), none⟩,
    ⟨some 0, .assign (.tmp 10), none⟩,
    ⟨some 1, .assign (.tmp 12), none⟩]
@[reducible] def q68_3 : SCode := .region [⟨some 13, .move (.tmp 0), none⟩,
    ⟨some 14, .move (.tmp 0), none⟩,
    ⟨some 15, .unOp .neg 3 (.tmp 14), none⟩,
    ⟨some 16, .call { callee := .builtin .max, args := #[.tmp 13, .tmp 15], argTypes := #[3, 3] }, none⟩,
    ⟨some 17, .move (.tmp 1), none⟩,
    ⟨some 5, .assign (.tmp 16), none⟩,
    ⟨some 6, .assign (.tmp 17), none⟩]
@[reducible] def q68_4 : SCode := .region [⟨some 18, .move (.tmp 6), none⟩,
    ⟨some 19, .binOp .neq 3 (.tmp 18) (.const (.int .i64 0)) 3, none⟩]
def q68_5 : SCode := .draw [⟨some 20, .move (.tmp 6), none⟩,
    ⟨some 21, .move (.tmp 5), none⟩,
    ⟨some 22, .move (.tmp 6), none⟩,
    ⟨some 23, .binOp .rem 3 (.tmp 21) (.tmp 22) 3, none⟩,
    ⟨some 5, .assign (.tmp 20), none⟩,
    ⟨some 6, .assign (.tmp 23), none⟩]
   [[], [], [], [1, 2], [0, 0, 1], [3, 4, 0, 1, 2, 3, 4]]
def l68_0 : SCode := (.seq (.seq q68_4 (.cond (.tmp 19) .skip (.exit 0))) (.block 1 q68_5))
def q68_6 : SCode := .draw [⟨some 24, .move (.tmp 0), none⟩,
    ⟨some 25, .move (.tmp 5), none⟩,
    ⟨some 26, .binOp .quo 3 (.tmp 24) (.tmp 25) 3, none⟩,
    ⟨some 27, .move (.tmp 1), none⟩,
    ⟨some 28, .move (.tmp 5), none⟩,
    ⟨some 29, .binOp .quo 3 (.tmp 27) (.tmp 28) 3, none⟩,
    ⟨some 30, .build 26 #[(0, .tmp 26), (1, .tmp 29)], none⟩,
    ⟨none, .store 26 (.tmp 4) (.tmp 30), none⟩]
   [[], [], [0, 1], [], [], [3, 4], [2, 5], [6, 0, 1, 2, 3, 4, 5, 6]]
def s68 : SCode := (.seq q68_0 (.seq (.seq q68_1 (.cond (.tmp 8) q68_2 .skip)) (.seq q68_3 (.seq (.block 0 (.loop l68_0)) (.seq q68_6 .ret)))))
theorem s68_strip : Yc (Zx Try.f68) = s68 := by kernel_rfl
theorem s68_ok : Yp 31 (Zx Try.f68) = true := by kernel_rfl
/-! 70: planchet bets.whole -/
@[reducible] def q70_0 : SCode := .region [⟨some 2, .alloc 26, none⟩]
@[reducible] def q70_1 : SCode := .region [⟨some 3, .move (.tmp 0), none⟩,
    ⟨some 4, .build 26 #[(0, .tmp 3), (1, .const (.int .i64 1))], none⟩,
    ⟨none, .store 26 (.tmp 2) (.tmp 4), none⟩]
def s70 : SCode := (.seq q70_0 (.seq q70_1 .ret))
theorem s70_strip : Yc (Zx Try.f70) = s70 := by kernel_rfl
theorem s70_ok : Yp 5 (Zx Try.f70) = true := by kernel_rfl
/-! 71: planchet bets.plus -/
@[reducible] def q71_0 : SCode := .region [⟨some 3, .box 26 (.tmp 0), none⟩,
    ⟨some 5, .box 26 (.tmp 2), none⟩,
    ⟨some 6, .alloc 26, none⟩]
@[reducible] def q71_1 : SCode := .region [⟨some 8, .fieldAddr 26 (.tmp 3) 1, none⟩,
    ⟨some 9, .load 3 (.tmp 8), none⟩,
    ⟨some 10, .fieldAddr 26 (.tmp 5) 1, none⟩,
    ⟨some 11, .load 3 (.tmp 10), none⟩,
    ⟨some 12, .call { callee := .value (.func 88), args := #[.tmp 9, .tmp 11], argTypes := #[3, 3] }, none⟩,
    ⟨some 7, .assign (.tmp 12), none⟩]
def q71_2 : SCode := .draw [⟨some 13, .fieldAddr 26 (.tmp 3) 0, none⟩,
    ⟨some 14, .load 3 (.tmp 13), none⟩,
    ⟨some 15, .fieldAddr 26 (.tmp 5) 1, none⟩,
    ⟨some 16, .load 3 (.tmp 15), none⟩,
    ⟨some 17, .move (.tmp 7), none⟩,
    ⟨some 18, .binOp .quo 3 (.tmp 16) (.tmp 17) 3, none⟩,
    ⟨some 19, .binOp .mul 3 (.tmp 14) (.tmp 18) 3, none⟩,
    ⟨some 20, .move (.tmp 1), none⟩,
    ⟨some 21, .fieldAddr 26 (.tmp 5) 0, none⟩,
    ⟨some 22, .load 3 (.tmp 21), none⟩,
    ⟨some 23, .binOp .mul 3 (.tmp 20) (.tmp 22) 3, none⟩,
    ⟨some 24, .fieldAddr 26 (.tmp 3) 1, none⟩,
    ⟨some 25, .load 3 (.tmp 24), none⟩,
    ⟨some 26, .move (.tmp 7), none⟩,
    ⟨some 27, .binOp .quo 3 (.tmp 25) (.tmp 26) 3, none⟩,
    ⟨some 28, .binOp .mul 3 (.tmp 23) (.tmp 27) 3, none⟩,
    ⟨some 29, .binOp .add 3 (.tmp 19) (.tmp 28) 3, none⟩,
    ⟨some 30, .fieldAddr 26 (.tmp 3) 1, none⟩,
    ⟨some 31, .load 3 (.tmp 30), none⟩,
    ⟨some 32, .move (.tmp 7), none⟩,
    ⟨some 33, .binOp .quo 3 (.tmp 31) (.tmp 32) 3, none⟩,
    ⟨some 34, .fieldAddr 26 (.tmp 5) 1, none⟩,
    ⟨some 35, .load 3 (.tmp 34), none⟩,
    ⟨some 36, .binOp .mul 3 (.tmp 33) (.tmp 35) 3, none⟩,
    ⟨some 37, .call { callee := .value (.func 64), args := #[.tmp 29, .tmp 36], argTypes := #[3, 3] }, none⟩,
    ⟨none, .store 26 (.tmp 6) (.tmp 37), none⟩]
   [[], [0], [], [2], [], [3, 4], [1, 5], [], [], [8], [7, 9], [], [11], [], [12, 13], [10, 14], [6, 15], [], [17], [], [18, 19], [], [21], [20, 22], [16, 23], [24, 24, 0, 1, 2, 3, 4, 5, 6, 7, 8, 9, 10, 11, 12, 13, 14, 15, 16, 17, 18, 19, 20, 21, 22, 23, 24]]
def s71 : SCode := (.seq q71_0 (.seq q71_1 (.seq q71_2 .ret)))
theorem s71_strip : Yc (Zx Try.f71) = s71 := by kernel_rfl
theorem s71_ok : Yp 38 (Zx Try.f71) = true := by kernel_rfl
/-! 72: planchet bets.times -/
@[reducible] def q72_0 : SCode := .region [⟨some 2, .box 26 (.tmp 0), none⟩,
    ⟨some 3, .box 26 (.tmp 1), none⟩,
    ⟨some 4, .alloc 26, none⟩]
def q72_1 : SCode := .draw [⟨some 7, .fieldAddr 26 (.tmp 2) 0, none⟩,
    ⟨some 8, .load 3 (.tmp 7), none⟩,
    ⟨some 9, .fieldAddr 26 (.tmp 3) 1, none⟩,
    ⟨some 10, .load 3 (.tmp 9), none⟩,
    ⟨some 11, .call { callee := .value (.func 64), args := #[.tmp 8, .tmp 10], argTypes := #[3, 3] }, none⟩,
    ⟨some 12, .fieldAddr 26 (.tmp 3) 0, none⟩,
    ⟨some 13, .load 3 (.tmp 12), none⟩,
    ⟨some 14, .fieldAddr 26 (.tmp 2) 1, none⟩,
    ⟨some 15, .load 3 (.tmp 14), none⟩,
    ⟨some 16, .call { callee := .value (.func 64), args := #[.tmp 13, .tmp 15], argTypes := #[3, 3] }, none⟩,
    ⟨some 5, .alloc 26, none⟩,
    ⟨some 6, .alloc 26, none⟩,
    ⟨none, .store 26 (.tmp 5) (.tmp 11), none⟩,
    ⟨none, .store 26 (.tmp 6) (.tmp 16), none⟩]
   [[], [0], [], [2], [1, 3], [], [5], [], [7], [6, 8, 4], [], [], [10, 4, 9, 0, 1, 2, 3, 4, 10, 11], [11, 9, 12, 0, 1, 2, 3, 4, 5, 6, 7, 8, 9, 10, 11, 12]]
@[reducible] def q72_2 : SCode := .region [⟨some 17, .fieldAddr 26 (.tmp 5) 0, none⟩,
    ⟨some 18, .load 3 (.tmp 17), none⟩,
    ⟨some 19, .fieldAddr 26 (.tmp 6) 0, none⟩,
    ⟨some 20, .load 3 (.tmp 19), none⟩,
    ⟨some 21, .binOp .mul 3 (.tmp 18) (.tmp 20) 3, none⟩,
    ⟨some 22, .fieldAddr 26 (.tmp 5) 1, none⟩,
    ⟨some 23, .load 3 (.tmp 22), none⟩,
    ⟨some 24, .fieldAddr 26 (.tmp 6) 1, none⟩,
    ⟨some 25, .load 3 (.tmp 24), none⟩,
    ⟨some 26, .binOp .mul 3 (.tmp 23) (.tmp 25) 3, none⟩,
    ⟨some 27, .build 26 #[(0, .tmp 21), (1, .tmp 26)], none⟩,
    ⟨none, .store 26 (.tmp 4) (.tmp 27), none⟩]
def s72 : SCode := (.seq q72_0 (.seq q72_1 (.seq q72_2 .ret)))
theorem s72_strip : Yc (Zx Try.f72) = s72 := by kernel_rfl
theorem s72_ok : Yp 28 (Zx Try.f72) = true := by kernel_rfl
/-! 75: planchet bets.common -/
@[reducible] def q75_0 : SCode := .region [⟨some 2, .assign (.const (.bool false)), none⟩]
@[reducible] def q75_1 : SCode := .region [⟨some 3, .assign (.const (.int .i64 1)), none⟩]
@[reducible] def q75_2 : SCode := .region [⟨some 7, .move (.tmp 0), none⟩,
    ⟨some 8, .call { callee := .builtin .len, args := #[.tmp 7], argTypes := #[47] }, none⟩,
    ⟨some 9, .move (.const (.int .i64 0)), none⟩]
@[reducible] def q75_3 : SCode := .region [⟨some 10, .binOp .lss 3 (.tmp 9) (.tmp 8) 3, none⟩]
@[reducible] def q75_4 : SCode := .region [⟨some 11, .indexAddr 47 (.tmp 7) (.tmp 9), none⟩,
    ⟨some 12, .load 26 (.tmp 11), none⟩,
    ⟨some 5, .alloc 26, none⟩,
    ⟨none, .store 26 (.tmp 5) (.tmp 12), none⟩]
@[reducible] def q75_5 : SCode := .region [⟨some 13, .load 26 (.tmp 5), none⟩,
    ⟨some 14, .call { callee := .value (.func 107), args := #[.tmp 13, .const (.int .i64 10000000000)], argTypes := #[26, 3] }, none⟩,
    ⟨some 15, .unOp .not 4 (.tmp 14), none⟩]
@[reducible] def q75_6 : SCode := .region [⟨some 2, .assign (.const (.bool false)), none⟩]
def q75_7 : SCode := .draw [⟨some 16, .fieldAddr 26 (.tmp 5) 1, none⟩,
    ⟨some 17, .load 3 (.tmp 16), none⟩,
    ⟨some 18, .move (.tmp 3), none⟩,
    ⟨some 19, .fieldAddr 26 (.tmp 5) 1, none⟩,
    ⟨some 20, .load 3 (.tmp 19), none⟩,
    ⟨some 21, .call { callee := .value (.func 88), args := #[.tmp 18, .tmp 20], argTypes := #[3, 3] }, none⟩,
    ⟨some 22, .binOp .quo 3 (.tmp 17) (.tmp 21) 3, none⟩,
    ⟨some 6, .assign (.tmp 22), none⟩]
   [[], [0], [], [], [3], [2, 4], [1, 5], [6, 5, 0, 1, 2, 3, 4, 5, 6]]
@[reducible] def q75_8 : SCode := .region [⟨some 23, .move (.tmp 3), none⟩,
    ⟨some 24, .move (.tmp 6), none⟩,
    ⟨some 25, .binOp .quo 3 (.const (.int .i64 10000000000)) (.tmp 24) 3, none⟩,
    ⟨some 26, .binOp .gtr 3 (.tmp 23) (.tmp 25) 3, none⟩]
@[reducible] def q75_9 : SCode := .region [⟨some 2, .assign (.const (.bool false)), none⟩]
@[reducible] def q75_10 : SCode := .region [⟨some 27, .move (.tmp 3), none⟩,
    ⟨some 28, .move (.tmp 6), none⟩,
    ⟨some 29, .binOp .mul 3 (.tmp 27) (.tmp 28) 3, none⟩,
    ⟨some 3, .assign (.tmp 29), none⟩]
@[reducible] def q75_11 : SCode := .region [⟨some 30, .binOp .add 3 (.tmp 9) (.const (.int .i64 1)) 3, none⟩,
    ⟨some 9, .move (.tmp 30), none⟩]
def l75_0 : SCode := (.seq q75_3 (.seq (.cond (.tmp 10) .skip (.exit 0)) (.seq (.block 1 (.seq q75_4 (.seq (.seq q75_5 (.cond (.tmp 15) (.seq q75_6 .ret) .skip)) (.seq q75_7 (.seq (.seq q75_8 (.cond (.tmp 26) (.seq q75_9 .ret) .skip)) q75_10))))) q75_11)))
@[reducible] def q75_12 : SCode := .region [⟨some 2, .assign (.const (.bool true)), none⟩]
def s75 : SCode := (.seq q75_0 (.seq q75_1 (.seq (.seq q75_2 (.block 0 (.loop l75_0))) (.seq q75_12 .ret))))
theorem s75_strip : Yc (Zx Try.f75) = s75 := by kernel_rfl
theorem s75_ok : Yp 31 (Zx Try.f75) = true := by kernel_rfl
/-! 88: planchet bets.gcd -/
@[reducible] def q88_0 : SCode := .region [⟨some 4, .assign (.const (.int .i64 0)), none⟩]
@[reducible] def q88_1 : SCode := .region [⟨some 5, .move (.tmp 1), none⟩,
    ⟨some 6, .binOp .neq 3 (.tmp 5) (.const (.int .i64 0)) 3, none⟩]
def q88_2 : SCode := .draw [⟨some 7, .move (.tmp 1), none⟩,
    ⟨some 8, .move (.tmp 0), none⟩,
    ⟨some 9, .move (.tmp 1), none⟩,
    ⟨some 10, .binOp .rem 3 (.tmp 8) (.tmp 9) 3, none⟩,
    ⟨some 0, .assign (.tmp 7), none⟩,
    ⟨some 1, .assign (.tmp 10), none⟩]
   [[], [], [], [1, 2], [0, 0, 1], [3, 4, 0, 1, 2, 3, 4]]
def l88_0 : SCode := (.seq (.seq q88_1 (.cond (.tmp 6) .skip (.exit 0))) (.block 1 q88_2))
@[reducible] def q88_3 : SCode := .region [⟨some 11, .move (.tmp 0), none⟩,
    ⟨some 12, .move (.tmp 0), none⟩,
    ⟨some 13, .unOp .neg 3 (.tmp 12), none⟩,
    ⟨some 14, .call { callee := .builtin .max, args := #[.tmp 11, .tmp 13], argTypes := #[3, 3] }, none⟩,
    ⟨some 4, .assign (.tmp 14), none⟩]
def s88 : SCode := (.seq q88_0 (.seq (.block 0 (.loop l88_0)) (.seq q88_3 .ret)))
theorem s88_strip : Yc (Zx Try.f88) = s88 := by kernel_rfl
theorem s88_ok : Yp 15 (Zx Try.f88) = true := by kernel_rfl
theorem s88_call [Tabs Try.prog] {args : List Value} {h : Zh} {Q : Value → Zh → Prop} (hsz : args.length ≤ 15) (hk : aw Try.prog 15 s88 (Zv Try.prog [.tmp 4] Q) (Zo 0 args) h) : ACall Try.prog 88 args h Q :=
  acall_s Try.func88 rfl (enters_of Try.func88 (by kernel_rfl) rfl) rfl rfl (by decide) s88_strip s88_ok hsz hk

/-! 94: planchet bets.over -/
@[reducible] def q94_0 : SCode := .region [⟨some 2, .box 26 (.tmp 0), none⟩,
    ⟨some 3, .box 26 (.tmp 1), none⟩,
    ⟨some 4, .alloc 26, none⟩]
def q94_1 : SCode := .draw [⟨some 5, .load 26 (.tmp 2), none⟩,
    ⟨some 6, .fieldAddr 26 (.tmp 3) 1, none⟩,
    ⟨some 7, .load 3 (.tmp 6), none⟩,
    ⟨some 8, .fieldAddr 26 (.tmp 3) 0, none⟩,
    ⟨some 9, .load 3 (.tmp 8), none⟩,
    ⟨some 10, .call { callee := .value (.func 64), args := #[.tmp 7, .tmp 9], argTypes := #[3, 3] }, none⟩,
    ⟨some 11, .call { callee := .value (.func 72), args := #[.tmp 5, .tmp 10], argTypes := #[26, 26] }, none⟩,
    ⟨none, .store 26 (.tmp 4) (.tmp 11), none⟩]
   [[], [], [1], [], [3], [2, 4], [0, 5, 5], [6, 6, 0, 1, 2, 3, 4, 5, 6]]
def s94 : SCode := (.seq q94_0 (.seq q94_1 .ret))
theorem s94_strip : Yc (Zx Try.f94) = s94 := by kernel_rfl
theorem s94_ok : Yp 12 (Zx Try.f94) = true := by kernel_rfl
/-! 107: planchet bets.chance -/
@[reducible] def q107_0 : SCode := .region [⟨some 2, .box 26 (.tmp 0), none⟩,
    ⟨some 4, .assign (.const (.bool false)), none⟩]
@[reducible] def q107_1 : SCode := .region [⟨some 5, .load 26 (.tmp 2), none⟩,
    ⟨some 6, .move (.tmp 1), none⟩,
    ⟨some 7, .call { callee := .value (.func 118), args := #[.tmp 5, .tmp 6], argTypes := #[26, 3] }, none⟩,
    ⟨some 8, .move (.tmp 7), none⟩,
    ⟨some 9, .fieldAddr 26 (.tmp 2) 0, some (8, true)⟩,
    ⟨some 10, .load 3 (.tmp 9), some (8, true)⟩,
    ⟨some 11, .binOp .geq 3 (.tmp 10) (.const (.int .i64 0)) 3, some (8, true)⟩,
    ⟨some 12, .pick (.tmp 8) (.tmp 11) (.const (.bool false)), none⟩,
    ⟨some 13, .move (.tmp 12), none⟩,
    ⟨some 14, .fieldAddr 26 (.tmp 2) 0, some (13, true)⟩,
    ⟨some 15, .load 3 (.tmp 14), some (13, true)⟩,
    ⟨some 16, .fieldAddr 26 (.tmp 2) 1, some (13, true)⟩,
    ⟨some 17, .load 3 (.tmp 16), some (13, true)⟩,
    ⟨some 18, .binOp .leq 3 (.tmp 15) (.tmp 17) 3, some (13, true)⟩,
    ⟨some 19, .pick (.tmp 13) (.tmp 18) (.const (.bool false)), none⟩,
    ⟨some 4, .assign (.tmp 19), none⟩]
def s107 : SCode := (.seq q107_0 (.seq q107_1 .ret))
theorem s107_strip : Yc (Zx Try.f107) = s107 := by kernel_rfl
theorem s107_ok : Yp 20 (Zx Try.f107) = true := by kernel_rfl
/-! 118: planchet bets.lowest -/
@[reducible] def q118_0 : SCode := .region [⟨some 2, .box 26 (.tmp 0), none⟩,
    ⟨some 4, .assign (.const (.bool false)), none⟩]
@[reducible] def q118_1 : SCode := .region [⟨some 5, .fieldAddr 26 (.tmp 2) 1, none⟩,
    ⟨some 6, .load 3 (.tmp 5), none⟩,
    ⟨some 7, .binOp .geq 3 (.tmp 6) (.const (.int .i64 1)) 3, none⟩,
    ⟨some 8, .move (.tmp 7), none⟩,
    ⟨some 9, .fieldAddr 26 (.tmp 2) 1, some (8, true)⟩,
    ⟨some 10, .load 3 (.tmp 9), some (8, true)⟩,
    ⟨some 11, .move (.tmp 1), some (8, true)⟩,
    ⟨some 12, .binOp .leq 3 (.tmp 10) (.tmp 11) 3, some (8, true)⟩,
    ⟨some 13, .pick (.tmp 8) (.tmp 12) (.const (.bool false)), none⟩,
    ⟨some 14, .move (.tmp 13), none⟩,
    ⟨some 15, .fieldAddr 26 (.tmp 2) 0, some (14, true)⟩,
    ⟨some 16, .load 3 (.tmp 15), some (14, true)⟩,
    ⟨some 17, .fieldAddr 26 (.tmp 2) 1, some (14, true)⟩,
    ⟨some 18, .load 3 (.tmp 17), some (14, true)⟩,
    ⟨some 19, .call { callee := .value (.func 88), args := #[.tmp 16, .tmp 18], argTypes := #[3, 3] }, some (14, true)⟩,
    ⟨some 20, .binOp .eql 3 (.tmp 19) (.const (.int .i64 1)) 3, some (14, true)⟩,
    ⟨some 21, .pick (.tmp 14) (.tmp 20) (.const (.bool false)), none⟩,
    ⟨some 4, .assign (.tmp 21), none⟩]
def s118 : SCode := (.seq q118_0 (.seq q118_1 .ret))
theorem s118_strip : Yc (Zx Try.f118) = s118 := by kernel_rfl
theorem s118_ok : Yp 22 (Zx Try.f118) = true := by kernel_rfl
end Go.Proofs.Try.Am

namespace Bq

theorem mul_den (q : Rat) : q * (q.den : Rat) = (q.num : Rat) := by
  have h := Rat.num_divInt_den q
  rw [Rat.divInt_eq_div] at h
  have h0 : (q.den : Rat) ≠ 0 := by
    have := q.den_nz
    intro hc
    exact this (by exact_mod_cast hc)
  conv => lhs; lhs; rw [← h]
  rw [Rat.intCast_natCast]
  exact Rat.div_mul_cancel h0
theorem eq_of_mul {a b c : Rat} (hc : c ≠ 0) (h : a * c = b * c) : a = b := by
  rw [← Rat.mul_div_cancel (a := a) hc, h, Rat.mul_div_cancel hc]
/-- What is y times as great as x is a fraction of them. -/
theorem divInt_of_mul {x y : Int} {q : Rat} (hy : y ≠ 0) (h : q * (y : Rat) = (x : Rat)) : Rat.divInt x y = q := by
  have h0 : (y : Rat) ≠ 0 := fun hc => hy (by exact_mod_cast hc)
  rw [Rat.divInt_eq_div, ← h]
  exact Rat.mul_div_cancel h0
theorem divInt_mul {x y : Int} (hy : y ≠ 0) : Rat.divInt x y * (y : Rat) = (x : Rat) := by
  have h0 : (y : Rat) ≠ 0 := fun hc => hy (by exact_mod_cast hc)
  rw [Rat.divInt_eq_div]
  exact Rat.div_mul_cancel h0

/-- q is x of N parts. -/
def Rp (N : Nat) (x : Int) (q : Rat) : Prop := 0 < N ∧ q * (N : Rat) = (x : Rat)

section
variable {N M : Nat} {x y k : Int} {a b q : Rat}
theorem Rp.pos (h : Rp N x q) : 0 < N := h.1
theorem Rp.int (h : Rp N x q) : q.num * N = x * q.den := by
  have h1 := h.2
  have h2 := mul_den q
  have : (q.num : Rat) * (N : Rat) = (x : Rat) * (q.den : Rat) := by grind
  exact_mod_cast this
theorem Rp.dvd (h : Rp N x q) : q.den ∣ N := by
  have h1 := h.int
  have h2 : (q.den : Int) ∣ q.num * (N : Int) := ⟨x, by rw [h1, Int.mul_comm]⟩
  have h3 : q.den ∣ q.num.natAbs * N := by
    have := Int.natAbs_dvd_natAbs.2 h2
    simpa [Int.natAbs_mul] using this
  exact Nat.Coprime.dvd_of_dvd_mul_left (Nat.Coprime.symm q.reduced) h3
theorem Rp.num (h : Rp N x q) : q.num * ((N / q.den : Nat) : Int) = x := by
  obtain ⟨t, ht⟩ := h.dvd
  have hd : 0 < q.den := q.den_pos
  have h1 := h.int
  have e : N / q.den = t := by rw [ht]; exact Nat.mul_div_cancel_left _ hd
  rw [e]
  have h2 : (q.den : Int) * (q.num * t) = q.den * x := by
    rw [Int.mul_comm (q.den : Int) x, ← h1, ht]
    push_cast
    grind
  exact Int.eq_of_mul_eq_mul_left (by omega) h2
theorem Rp.le (h : Rp N x q) : q.num.natAbs ≤ x.natAbs := by
  rw [← h.num, Int.natAbs_mul, Int.natAbs_natCast]
  refine Nat.le_mul_of_pos_right _ ?_
  exact Nat.div_pos (Nat.le_of_dvd h.pos h.dvd) q.den_pos
theorem Rp.den_le (h : Rp N x q) : q.den ≤ N := Nat.le_of_dvd h.pos h.dvd
theorem Rp.own (q : Rat) : Rp q.den q.num q := ⟨q.den_pos, mul_den q⟩
theorem Rp.whole (hN : 0 < N) (k : Int) : Rp N (k * N) (k : Rat) := ⟨hN, by push_cast; rfl⟩
theorem Rp.up (h : Rp N x q) (t : Nat) (ht : 0 < t) : Rp (N * t) (x * t) q := ⟨Nat.mul_pos h.1 ht, by have := h.2; push_cast; grind⟩
theorem Rp.up' (h : Rp N x q) (hd : N ∣ M) (hM : 0 < M) : Rp M (x * ((M / N : Nat) : Int)) q := by
  obtain ⟨t, rfl⟩ := hd
  have ht : 0 < t := Nat.pos_of_mul_pos_left hM
  rw [Nat.mul_div_cancel_left _ h.1]
  exact h.up t ht
theorem Rp.plus (ha : Rp N x a) (hb : Rp N y b) (k : Int) : Rp N (x + k * y) (a + k * b) := ⟨ha.1, by have := ha.2; have := hb.2; push_cast; grind⟩
theorem Rp.mul (ha : Rp N x a) (hb : Rp M y b) : Rp (N * M) (x * y) (a * b) := ⟨Nat.mul_pos ha.1 hb.1, by have := ha.2; have := hb.2; push_cast; grind⟩
theorem Rp.frac (h : Rp N x q) : Rat.divInt x N = q := divInt_of_mul (by have := h.1; omega) (by rw [Rat.intCast_natCast]; exact h.2)
theorem Rp.of_frac (hN : 0 < N) (x : Int) : Rp N x (Rat.divInt x N) := ⟨hN, by have := divInt_mul (x := x) (y := (N : Int)) (by omega); rwa [Rat.intCast_natCast] at this⟩
theorem Rp.neg (h : Rp N x q) : Rp N (-x) (-q) := ⟨h.1, by have := h.2; push_cast; grind⟩
theorem Rp.lt (ha : Rp N x a) (hb : Rp N y b) : a < b ↔ x < y := by
  have h0 : (0 : Rat) < N := by exact_mod_cast ha.1
  rw [← Rat.mul_lt_mul_right h0, ha.2, hb.2]
  exact Rat.intCast_lt_intCast
end

/-- The sum as the program makes it. -/
theorem plus_eq (a b : Rat) (k : Int) : Rat.divInt (a.num * ((b.den / Nat.gcd a.den b.den : Nat) : Int) + k * b.num * ((a.den / Nat.gcd a.den b.den : Nat) : Int)) (((a.den / Nat.gcd a.den b.den : Nat) : Int) * b.den) = a + k * b := by
  have hg : 0 < Nat.gcd a.den b.den := Nat.gcd_pos_of_pos_left _ a.den_pos
  obtain ⟨A, hA⟩ := Nat.gcd_dvd_left a.den b.den
  obtain ⟨B, hB⟩ := Nat.gcd_dvd_right a.den b.den
  generalize hgd : Nat.gcd a.den b.den = g at hg hA hB
  have eA : a.den / g = A := by rw [hA]; exact Nat.mul_div_cancel_left _ hg
  have eB : b.den / g = B := by rw [hB]; exact Nat.mul_div_cancel_left _ hg
  rw [eA, eB]
  have hA0 : A ≠ 0 := fun h => by rw [h, Nat.mul_zero] at hA; exact a.den_nz hA
  refine divInt_of_mul ?_ ?_
  · have := b.den_nz
    exact Int.mul_ne_zero (by omega) (by omega)
  · have h1 := mul_den a
    have h2 := mul_den b
    rw [hA] at h1
    rw [hB] at h2 ⊢
    push_cast at h1 h2 ⊢
    grind
/-- What stands in it is no greater than the parts. -/
theorem plus_bound {N : Nat} {x y k : Int} {a b : Rat} (ha : Rp N x a) (hb : Rp N y b) :
    (a.num * ((b.den / Nat.gcd a.den b.den : Nat) : Int)).natAbs ≤ x.natAbs ∧ (k * b.num).natAbs ≤ (k * y).natAbs ∧ (k * b.num * ((a.den / Nat.gcd a.den b.den : Nat) : Int)).natAbs ≤ (k * y).natAbs ∧ a.den / Nat.gcd a.den b.den * b.den ≤ N ∧ 0 < a.den / Nat.gcd a.den b.den * b.den := by
  have hg : 0 < Nat.gcd a.den b.den := Nat.gcd_pos_of_pos_left _ a.den_pos
  have hl : a.den / Nat.gcd a.den b.den * b.den = Nat.lcm a.den b.den := by
    rw [Nat.lcm, Nat.div_mul_right_comm (Nat.gcd_dvd_left _ _)]
  have hl2 : b.den / Nat.gcd a.den b.den * a.den = Nat.lcm a.den b.den := by
    rw [Nat.lcm, Nat.mul_comm a.den b.den, Nat.div_mul_right_comm (Nat.gcd_dvd_right _ _)]
  have hdvd : Nat.lcm a.den b.den ∣ N := Nat.lcm_dvd ha.dvd hb.dvd
  obtain ⟨t, ht⟩ := hdvd
  have hN := ha.pos
  have ht0 : 0 < t := Nat.pos_of_ne_zero fun h => by rw [h, Nat.mul_zero] at ht; omega
  have hx : x = a.num * ((b.den / Nat.gcd a.den b.den : Nat) : Int) * t := by
    rw [← ha.num]
    have : N / a.den = b.den / Nat.gcd a.den b.den * t := by
      rw [ht, ← hl2]
      rw [show b.den / Nat.gcd a.den b.den * a.den * t = a.den * (b.den / Nat.gcd a.den b.den * t) by rw [Nat.mul_comm _ a.den, Nat.mul_assoc]]
      exact Nat.mul_div_cancel_left _ a.den_pos
    rw [this]; push_cast; rw [Int.mul_assoc]
  have hy : y = b.num * ((a.den / Nat.gcd a.den b.den : Nat) : Int) * t := by
    rw [← hb.num]
    have : N / b.den = a.den / Nat.gcd a.den b.den * t := by
      rw [ht, ← hl]
      rw [show a.den / Nat.gcd a.den b.den * b.den * t = b.den * (a.den / Nat.gcd a.den b.den * t) by rw [Nat.mul_comm _ b.den, Nat.mul_assoc]]
      exact Nat.mul_div_cancel_left _ b.den_pos
    rw [this]; push_cast; rw [Int.mul_assoc]
  have hag : 0 < a.den / Nat.gcd a.den b.den := Nat.div_pos (Nat.le_of_dvd a.den_pos (Nat.gcd_dvd_left _ _)) hg
  refine ⟨?_, ?_, ?_, ?_, ?_⟩
  · rw [hx, Int.natAbs_mul _ (t : Int), Int.natAbs_natCast]; exact Nat.le_mul_of_pos_right _ ht0
  · rw [Int.natAbs_mul, Int.natAbs_mul]; exact Nat.mul_le_mul_left _ hb.le
  · rw [hy, ← Int.mul_assoc, ← Int.mul_assoc, Int.natAbs_mul _ (t : Int), Int.natAbs_natCast]; exact Nat.le_mul_of_pos_right _ ht0
  · rw [hl]; exact Nat.le_of_dvd hN ⟨t, ht⟩
  · exact Nat.mul_pos hag b.den_pos

/-- The product as the program makes it. -/
theorem times_eq (a b : Rat) : (Rat.divInt a.num b.den).num * (Rat.divInt b.num a.den).num = (a * b).num ∧ (Rat.divInt a.num b.den).den * (Rat.divInt b.num a.den).den = (a * b).den := by
  have hb0 : (b.den : Int) ≠ 0 := by have := b.den_nz; omega
  have ha0 : (a.den : Int) ≠ 0 := by have := a.den_nz; omega
  have h1 := divInt_mul (x := a.num) hb0
  have h2 := divInt_mul (x := b.num) ha0
  have d1 : (Rat.divInt a.num b.den).num ∣ a.num := by
    have : Rp b.den a.num (Rat.divInt a.num b.den) := Rp.of_frac b.den_pos _
    exact ⟨_, this.num.symm⟩
  have d2 : (Rat.divInt b.num a.den).num ∣ b.num := by
    have : Rp a.den b.num (Rat.divInt b.num a.den) := Rp.of_frac a.den_pos _
    exact ⟨_, this.num.symm⟩
  have e1 : (Rat.divInt a.num b.den).den ∣ b.den := (Rp.of_frac b.den_pos a.num).dvd
  have e2 : (Rat.divInt b.num a.den).den ∣ a.den := (Rp.of_frac a.den_pos b.num).dvd
  generalize hu : Rat.divInt a.num b.den = u at *
  generalize hv : Rat.divInt b.num a.den = v at *
  have hc : Nat.Coprime (u.num * v.num).natAbs (u.den * v.den) := by
    rw [Int.natAbs_mul]
    have c1 : Nat.Coprime u.num.natAbs v.den := Nat.Coprime.coprime_dvd_left (Int.natAbs_dvd_natAbs.2 d1) (Nat.Coprime.coprime_dvd_right e2 a.reduced)
    have c2 : Nat.Coprime v.num.natAbs u.den := Nat.Coprime.coprime_dvd_left (Int.natAbs_dvd_natAbs.2 d2) (Nat.Coprime.coprime_dvd_right e1 b.reduced)
    exact Nat.Coprime.mul_left (Nat.Coprime.mul_right u.reduced c1) (Nat.Coprime.mul_right c2 v.reduced)
  have hd : u.den * v.den ≠ 0 := Nat.mul_ne_zero u.den_nz v.den_nz
  have key : (⟨u.num * v.num, u.den * v.den, hd, hc⟩ : Rat) = a * b := by
    have k1 : (⟨u.num * v.num, u.den * v.den, hd, hc⟩ : Rat) = u * v := by
      have := mul_den (⟨u.num * v.num, u.den * v.den, hd, hc⟩ : Rat)
      simp only at this
      have hu2 := mul_den u
      have hv2 := mul_den v
      have hn : ((u.den * v.den : Nat) : Rat) ≠ 0 := fun h => hd (by exact_mod_cast h)
      have k2 : (⟨u.num * v.num, u.den * v.den, hd, hc⟩ : Rat) * ((u.den * v.den : Nat) : Rat) = u * v * ((u.den * v.den : Nat) : Rat) := by
        rw [this]; push_cast; grind
      exact eq_of_mul hn k2
    rw [k1]
    have ha2 := mul_den a
    have hb2 := mul_den b
    have hn : ((a.den * b.den : Nat) : Rat) ≠ 0 := fun h => Nat.mul_ne_zero a.den_nz b.den_nz (by exact_mod_cast h)
    have k2 : u * v * ((a.den * b.den : Nat) : Rat) = a * b * ((a.den * b.den : Nat) : Rat) := by
      rw [Rat.intCast_natCast] at h1 h2
      push_cast; grind
    exact eq_of_mul hn k2
  exact ⟨by rw [← key], by rw [← key]⟩
end Bq

namespace Go.Proofs.Try.Am
open Go.Am Bq
set_option maxRecDepth 100000
set_option maxHeartbeats 1000000

theorem Xy (h : Zh) (A B : Blk) : (h ++ [A]).set h.length B = h ++ [B] := by
  rw [List.set_append_right _ _ (Nat.le_refl _)]; simp
/-- A fraction, as it stands, and that of a number. -/
def frV (x y : Int) : Value := .agg #[Zd x, Zd y]
def qV (q : Rat) : Value := frV q.num q.den
theorem low_frV (x y : Int) : Low (frV x y) := .agg fun w hw => by
  simp at hw; rcases hw with rfl | rfl <;> exact .int _ _
theorem Wi {h : Zh} {b : Nat} {x y : Int} {e : TypeId} {ro : Bool} {K : Value → Prop} (hb : h[b]? = some (.cells [Zd x, Zd y] e ro)) : Xu prog h 26 (.pointer (some ⟨b, 0, none⟩)) K = K (.agg #[Zd x, Zd y]) :=
  loadA hb (by rw [shp_26]; rfl)
theorem Wh {h : Zh} {b : Nat} {x y : Int} {e : TypeId} {ro : Bool} {K : Value → Prop} (hb : h[b]? = some (.cells [Zd x, Zd y] e ro)) : Xu prog h 3 (.pointer (some ⟨b, 0, none⟩)) K = K (Zd x) := loadC hb shp_3 rfl
theorem Xs {h : Zh} {b : Nat} {x y : Int} {e : TypeId} {ro : Bool} {K : Value → Prop} (hb : h[b]? = some (.cells [Zd x, Zd y] e ro)) : Xu prog h 3 (.pointer (some ⟨b, 1, none⟩)) K = K (Zd y) := loadC hb shp_3 rfl
theorem Xz {h : Zh} {b : Nat} {x y : Int} {e : TypeId} {c : List Value} {K : Zh → Prop} (hb : h[b]? = some (.cells c e false)) (hc : c.length = 2) : Xn prog h 26 (.pointer (some ⟨b, 0, none⟩)) (.agg #[Zd x, Zd y]) K = K (h.set b (.cells [Zd x, Zd y] e false)) :=
  storeA (vs := [Zd x, Zd y]) hb (by rw [shp_26]; rfl) rfl (by rw [hc]; rfl)
theorem bldF {x y : Int} {K : Value → Prop} : Vn prog 26 [(0, Zd x), (1, Zd y)] K = K (.agg #[Zd x, Zd y]) := by
  simp [Vn, zero_26, fillL, pl_26_0, pl_26_1, Wy, cellsOf, Yg]
theorem bldF0 {K : Value → Prop} : Vn prog 26 [] K = K (.agg #[Zd 0, Zd 0]) := by
  simp [Vn, zero_26, fillL, pl_26_0]
theorem boxF {h : Zh} {x y : Int} {K : Value → Zh → Prop} : boxK prog h 26 (.agg #[Zd x, Zd y]) K = K (Yn h) (h ++ [.cells [Zd x, Zd y] 26 false]) := by
  simp [boxK, Vg, Yn, cellsOf]
theorem fA0 {b : Nat} {K : Value → Prop} : Yz prog 26 (.pointer (some ⟨b, 0, none⟩)) 0 K = K (.pointer (some ⟨b, 0, none⟩)) := fldA fld_26_0 esz_3
theorem fA1 {b : Nat} {K : Value → Prop} : Yz prog 26 (.pointer (some ⟨b, 0, none⟩)) 1 K = K (.pointer (some ⟨b, 1, none⟩)) := fldA fld_26_1 esz_3
theorem fld0 {x y : Int} {K : Value → Prop} : fieldK prog 26 (.agg #[Zd x, Zd y]) 0 K = K (Zd x) := by
  simp [fieldK, fld_26_0, partK, shp_3]
noncomputable def okF (p : Field × Nat) : Bool := p.1.name != "_" && (match prog.underlying p.1.type with | some (.int .i64) => true | _ => false) && p.1.offset == p.2
theorem eqF [Tabs prog] : EqT prog 26 2 := eqT_struct (by kernel_rfl) (by kernel_rfl) (by kernel_rfl) (fun j f hf => by
  have h4 : (prog.fieldsOf 26).toList.zipIdx.all okF = true := by kernel_rfl
  have h5 := List.all_eq_true.1 h4 (f, j) (by rw [List.mem_zipIdx_iff_getElem?]; exact hf)
  simp only [okF, Bool.and_eq_true, bne_iff_ne, beq_iff_eq] at h5
  refine ⟨h5.1.1, ?_, h5.2⟩
  have h6 := h5.1.2
  split at h6
  · assumption
  · cases h6) (by kernel_rfl)

theorem quo_dvd {x y : Int} (hx : x.natAbs < 9223372036854775808) (hd : y ∣ x) : quoV .i64 x y = x / y := by
  rw [quoV, Int.tdiv_eq_ediv_of_dvd hd]
  have h1 : (x / y).natAbs ≤ x.natAbs := by
    obtain ⟨t, rfl⟩ := hd
    rcases Int.lt_trichotomy y 0 with h | h | h
    · rw [Int.mul_ediv_cancel_left _ (by omega), Int.natAbs_mul]; exact Nat.le_mul_of_pos_left _ (by omega)
    · subst h; simp
    · rw [Int.mul_ediv_cancel_left _ (by omega), Int.natAbs_mul]; exact Nat.le_mul_of_pos_left _ (by omega)
  exact wrap_id (by omega) (by omega)
theorem tmod_abs (x : Int) {y : Int} (hy : y ≠ 0) : (x.tmod y).natAbs < y.natAbs := by
  rw [Int.natAbs_tmod]; exact Nat.mod_lt _ (by omega)
theorem gcd_tmod (x y : Int) : Nat.gcd y.natAbs (x.tmod y).natAbs = Nat.gcd x.natAbs y.natAbs := by
  rw [Int.natAbs_tmod, Nat.gcd_comm y.natAbs, ← Nat.gcd_rec, Nat.gcd_comm]
theorem max_abs {x : Int} (hx : x.natAbs < 9223372036854775808) : (if subV .i64 0 x > x then subV .i64 0 x else x) = (x.natAbs : Int) := by
  rw [subV_id (by omega) (by omega)]; split <;> omega

theorem gcd_call [Tabs prog] {h : Zh} {a b : Int} (ha : a.natAbs < 9223372036854775808 ∨ b ≠ 0) (hb2 : b.natAbs < 9223372036854775808) : Xc prog 88 [Zd a, Zd b] h (Zd (Nat.gcd a.natAbs b.natAbs : Nat)) := by
  refine s88_call (by simp) ?_
  simp only [s88]
  simp (maxSteps := 2000000) only [↓Za, ↓Zt, ↓aw_block, ↓Zb, ↓Zc, vup, cond_false, aop, Zg, Zo, ev, sput, Zf, Nat.reduceBEq, Nat.reduceAdd, ↓aw_loop_eq]
  refine Ya fun Q hQ => ?_
  refine aw_loop (γ := Int × Int) (fun s => Nat.gcd s.1.natAbs s.2.natAbs = Nat.gcd a.natAbs b.natAbs ∧ (s.1.natAbs < 9223372036854775808 ∨ s.2 ≠ 0) ∧ s.2.natAbs < 9223372036854775808)
    (fun s => ([(0, Zd s.1), (1, Zd s.2), (4, .int .i64 0)], h)) (fun s => s.2.natAbs) (a, b) ⟨rfl, ha, hb2⟩ (by simp (maxSteps := 2000000) only [vup, cond_true, cond_false, Nat.reduceBEq]) rfl ?_
  rintro ⟨x, y⟩ ⟨hxy, hx, hy⟩
  simp only at hxy hx hy
  refine aw_hide fun Q2 hQ2 => ?_
  by_cases hy0 : y = 0
  · subst hy0
    have e0 : ((0 : Int) != 0) = false := rfl
    rw [Int.natAbs_zero, Nat.gcd_zero_right] at hxy
    have hx' : x.natAbs < 9223372036854775808 := hx.resolve_right (by simp)
    simp (maxSteps := 2000000) only [↓Za, ↓Zt, ↓Xh, ↓Zb, ↓Zc, ↓vdn, vup, cond_true, cond_false, aop, Zg, ev, sput, Zf, Yi, Yo, Nat.reduceBEq, l88_0, e0]
    refine hQ2 _ _ _ (hQ _ _ _ ?_)
    simp (maxSteps := 2000000) only [↓Za, ↓Zt, ↓Zy, ↓Zb, ↓Zc, vup, List.map_cons, List.map_nil, cond_true, cond_false, aop, Zg, Zs, ev, sput, Zf, unK, Zl, Nat.reduceBEq, Zv, Xw, tup, if_true, mmK, max_abs hx', hxy]
  · have e0 : (y != 0) = true := by simpa using hy0
    simp (maxSteps := 2000000) only [↓Za, ↓Zw, ↓Zt, ↓aw_block, ↓Zb, ↓Zc, ↓vdn, vup, cond_true, cond_false, aop, Zg, ev, sput, Zf, Yi, Yo, Nat.reduceBEq, l88_0, e0]
    refine Xj [] (by kernel_rfl) (by kernel_rfl) (by kernel_rfl) (by kernel_rfl) ?_
    simp (maxSteps := 2000000) only [↓Yh, ↓vdn, vup, cond_true, cond_false, aop, Zs, ev, sput, Zf, Yi, Yo, Nat.reduceBEq, ne_eq, hy0, not_false_eq_true]
    have hlt := tmod_abs x hy0
    exact hQ2 _ _ _ ⟨(y, x.tmod y), ⟨by simp only; rw [gcd_tmod, hxy], .inl hy, by simp only; omega⟩, hlt, by simp (maxSteps := 2000000) only [vup, cond_true, cond_false, Nat.reduceBEq], rfl⟩

/-- The least terms, as the program makes them. -/
theorem terms {x : Int} {n : Nat} (hn : 0 < n) : x / ((Nat.gcd x.natAbs n : Nat) : Int) = (Rat.divInt x n).num ∧ ((n / Nat.gcd x.natAbs n : Nat) : Int) = (Rat.divInt x n).den := by
  rw [Rat.divInt_ofNat, Rat.num_mkRat, Rat.den_mkRat, if_neg (by omega), if_neg (by omega), Nat.gcd_comm n]
  exact ⟨rfl, rfl⟩
theorem gcd_dvd_int (x : Int) (n : Nat) : ((Nat.gcd x.natAbs n : Nat) : Int) ∣ x := Int.dvd_natAbs.1 (Int.natCast_dvd_natCast.2 (Nat.gcd_dvd_left _ _))

theorem s64_callW [Tabs Try.prog] {args : List Value} {h : Zh} {Q : Value → Zh → Prop} (hsz : args.length ≤ 22) (hk : AWS Try.prog 22 s64 (Zv Try.prog [.cell 4 26] Q) (Zo 0 args) h) : ACall Try.prog 64 args h Q :=
  Yr Try.func64 rfl (enters_of Try.func64 (by kernel_rfl) rfl) rfl rfl (by decide) s64_strip s64_ok hsz hk
theorem frac_call [Tabs prog] {h : Zh} {a b : Int} (hb : b ≠ 0) (ha : a.natAbs < 9223372036854775808) (hb2 : b.natAbs < 9223372036854775808) : Xc prog 64 [Zd a, Zd b] h (qV (Rat.divInt a b)) := by
  have c0 := Zz h (Blk.cells [.int .i64 0, .int .i64 0] 26 false)
  have hE0 : Ext (fun _ => False) h (h ++ [Blk.cells [.int .i64 0, .int .i64 0] 26 false]) := Ext.app _ _ _
  obtain ⟨x, n, hn, hx, hn2, hq, hneg, hpos⟩ : ∃ (x : Int) (n : Nat), 0 < n ∧ x.natAbs < 9223372036854775808 ∧ n < 9223372036854775808 ∧ Rat.divInt x n = Rat.divInt a b ∧ (b < 0 → subV .i64 0 a = x ∧ subV .i64 0 b = n) ∧ (¬ b < 0 → a = x ∧ b = n) := by
    by_cases h0 : b < 0
    · refine ⟨-a, b.natAbs, by omega, by omega, hb2, ?_, fun _ => ⟨?_, ?_⟩, fun h => absurd h0 h⟩
      · rw [show ((b.natAbs : Nat) : Int) = -b by omega]; exact Rat.neg_divInt_neg a b
      · rw [subV_id (by omega) (by omega)]; omega
      · rw [subV_id (by omega) (by omega)]; omega
    · exact ⟨a, b.natAbs, by omega, ha, hb2, by rw [show ((b.natAbs : Nat) : Int) = b by omega], fun h => absurd h h0, fun _ => ⟨rfl, by omega⟩⟩
  refine ACall.forget (low_frV _ _) ?_
  refine s64_callW (by simp) ?_
  simp only [s64]
  refine Ze fun N1 hN1 => ?_
  simp (maxSteps := 2000000) only [↓Za, ↓Zb, ↓Zc, vup, cond_false, aop, Zg, Zo, sput, Zf, Nat.reduceBEq, Nat.reduceAdd, tyf, Xl, Yn]
  refine hN1 [(0, Zd a), (1, Zd b), (4, .pointer (some ⟨h.length, 0, none⟩))] _ _ ?_ (by simp (maxSteps := 2000000) only [vup, cond_true, cond_false, Nat.reduceBEq])
  clear hN1
  try clear N1
  refine Ze fun M hM => ?_
  have key : ∀ e, ELe e [(0, Zd x), (1, Zd (n : Int)), (4, .pointer (some ⟨h.length, 0, none⟩))] → M e (h ++ [Blk.cells [.int .i64 0, .int .i64 0] 26 false]) := by
    intro e he
    refine hM [(0, Zd x), (1, Zd (n : Int)), (4, .pointer (some ⟨h.length, 0, none⟩))] _ _ ?_ he
    refine Ze fun N2 hN2 => ?_
    simp (maxSteps := 2000000) only [↓Za, ↓Zb, ↓Zc, vup, List.map_cons, List.map_nil, cond_true, cond_false, aop, Zg, ev, sput, Zf, Nat.reduceBEq, Yt, List.nil_append, List.append_nil]
    refine (gcd_call (.inl hx) (by omega)).mono ?_
    rintro _ _ ⟨rfl, rfl⟩
    rw [Int.natAbs_natCast]
    refine hN2 [(0, Zd x), (1, Zd (n : Int)), (4, .pointer (some ⟨h.length, 0, none⟩)), (5, Zd (Nat.gcd x.natAbs n : Nat))] _ _ ?_ (by simp (maxSteps := 2000000) only [vup, cond_true, cond_false, Nat.reduceBEq])
    clear hN2
    try clear N2
    have hg : ¬ ((Nat.gcd x.natAbs n : Nat) : Int) = 0 := by have := Nat.gcd_pos_of_pos_right x.natAbs hn; omega
    have q1 : quoV .i64 x ((Nat.gcd x.natAbs n : Nat) : Int) = (Rat.divInt a b).num := by rw [quo_dvd hx (gcd_dvd_int _ _), (terms hn).1, hq]
    have q2 : quoV .i64 (n : Int) ((Nat.gcd x.natAbs n : Nat) : Int) = (Rat.divInt a b).den := by
      rw [quo_dvd (by omega) (Int.natCast_dvd_natCast.2 (Nat.gcd_dvd_right _ _)), ← hq, ← (terms hn).2, Int.natCast_ediv]
    refine Zi ?_
    simp only [q64_4]
    refine aw_cut fun N hN => ?_
    refine Xj [] (by kernel_rfl) (by kernel_rfl) (by kernel_rfl) (by kernel_rfl) ?_
    simp (maxSteps := 2000000) only [↓Yh, ↓vdn, vup, List.map_cons, List.map_nil, cond_true, cond_false, aop, Zg, ev, sput, Zf, Yi, Yo, Nat.reduceBEq, ne_eq, hg, not_false_eq_true, q1, q2, bldF, Xz c0 rfl]
    refine hN _ _ ?_
    simp (maxSteps := 2000000) only [↓Zy, vup, cond_true, cond_false, Nat.reduceBEq, Zv, Xw, tup, Wi (Wc (h := h ++ [Blk.cells [.int .i64 0, .int .i64 0] 26 false]) (b := h.length) (by simp) _)]
    exact ⟨rfl, hE0.set_ge (Nat.le_refl _) _⟩
  by_cases hb0 : b < 0
  · simp (maxSteps := 2000000) only [↓Za, ↓Zt, ↓Zb, ↓Zc, ↓vdn, vup, cond_true, cond_false, aop, Zg, ev, sput, Zf, Yi, Yo, unK, Nat.reduceBEq, hb0, (hneg hb0).1, (hneg hb0).2]
    exact key _ (by simp (maxSteps := 2000000) only [vup, cond_true, cond_false, Nat.reduceBEq])
  · simp (maxSteps := 2000000) only [↓Za, ↓Zw, ↓Zt, ↓Zb, ↓Zc, ↓vdn, vup, cond_true, cond_false, aop, Zg, ev, sput, Zf, Yi, Yo, Nat.reduceBEq, hb0]
    exact key _ (by simp (maxSteps := 2000000) only [vup, cond_true, cond_false, Nat.reduceBEq, (hpos hb0).1, (hpos hb0).2])
end Go.Proofs.Try.Am

namespace Go.Proofs.Try.Am
open Go.Am Bq
set_option maxRecDepth 100000
set_option maxHeartbeats 1000000

section
variable (h : Zh) (A B C : Blk)
theorem b2_0 : (h ++ [A] ++ [B])[h.length]? = some A := by simp
theorem b2_1 : (h ++ [A] ++ [B])[h.length + 1]? = some B := by simp
theorem b3_0 : (h ++ [A] ++ [B] ++ [C])[h.length]? = some A := by simp
theorem b3_1 : (h ++ [A] ++ [B] ++ [C])[h.length + 1]? = some B := by simp
theorem b3_2 : (h ++ [A] ++ [B] ++ [C])[h.length + 2]? = some C := by simp
theorem e2 : Ext (fun _ => False) h (h ++ [A] ++ [B]) := by rw [List.append_assoc]; exact Ext.app _ _ _
theorem e3 : Ext (fun _ => False) h (h ++ [A] ++ [B] ++ [C]) := by rw [List.append_assoc, List.append_assoc]; exact Ext.app _ _ _
end
abbrev fC (x y : Int) : Blk := .cells [Zd x, Zd y] 26 false
abbrev z0 : Blk := .cells [.int .i64 0, .int .i64 0] 26 false

theorem quoD {x y : Nat} (hx : x < 9223372036854775808) (hd : y ∣ x) : quoV .i64 (x : Int) (y : Int) = ((x / y : Nat) : Int) := by
  rw [quo_dvd (by omega) (Int.natCast_dvd_natCast.2 hd), Int.natCast_ediv]
theorem mulN {a b : Int} (h : (a * b).natAbs < 9223372036854775808) : mulV .i64 a b = a * b := mulV_id (by omega) (by omega)
theorem addN {a b : Int} (h : a.natAbs + b.natAbs < 9223372036854775808) : addV .i64 a b = a + b := addV_id (by omega) (by omega)
theorem subN {a b : Int} (h : a.natAbs + b.natAbs < 9223372036854775808) : subV .i64 a b = a - b := subV_id (by omega) (by omega)

theorem s71_callW [Tabs Try.prog] {args : List Value} {h : Zh} {Q : Value → Zh → Prop} (hsz : args.length ≤ 38) (hk : AWS Try.prog 38 s71 (Zv Try.prog [.cell 6 26] Q) (Zo 0 args) h) : ACall Try.prog 71 args h Q :=
  Yr Try.func71 rfl (enters_of Try.func71 (by kernel_rfl) rfl) rfl rfl (by decide) s71_strip s71_ok hsz hk
theorem plus_call [Tabs prog] {h : Zh} {a b : Rat} {k x y : Int} {N : Nat} (ha : Rp N x a) (hb : Rp N y b) (hx : x.natAbs + (k * y).natAbs < 9223372036854775808) (hN : N < 9223372036854775808) : Xc prog 71 [qV a, Zd k, qV b] h (qV (a + k * b)) := by
  obtain ⟨p1, p2, p3, p4, p5⟩ := plus_bound (k := k) ha hb
  have da := ha.den_le
  have db := hb.den_le
  have hg := Nat.gcd_pos_of_pos_left b.den a.den_pos
  have pe := plus_eq a b k
  obtain ⟨H, hH⟩ : ∃ H, H = h ++ [fC a.num a.den] ++ [fC b.num b.den] ++ [z0] := ⟨_, rfl⟩
  have c3 : H[h.length]? = some (fC a.num a.den) := by rw [hH]; exact b3_0 ..
  have c5 : H[h.length + 1]? = some (fC b.num b.den) := by rw [hH]; exact b3_1 ..
  have c6 : H[h.length + 2]? = some z0 := by rw [hH]; exact b3_2 ..
  have hE : Ext (fun _ => False) h H := by rw [hH]; exact e3 ..
  have hg0 : ¬ ((Nat.gcd a.den b.den : Nat) : Int) = 0 := by omega
  have q1 := quoD (x := b.den) (show b.den < 9223372036854775808 by omega) (Nat.gcd_dvd_right a.den b.den)
  have q2 := quoD (x := a.den) (show a.den < 9223372036854775808 by omega) (Nat.gcd_dvd_left a.den b.den)
  have m1 := mulN (a := a.num) (b := ((b.den / Nat.gcd a.den b.den : Nat) : Int)) (by omega)
  have m2 := mulN (a := k) (b := b.num) (by omega)
  have m3 := mulN (a := k * b.num) (b := ((a.den / Nat.gcd a.den b.den : Nat) : Int)) (by omega)
  have m4 := addN (a := a.num * ((b.den / Nat.gcd a.den b.den : Nat) : Int)) (b := k * b.num * ((a.den / Nat.gcd a.den b.den : Nat) : Int)) (by omega)
  have m5 : mulV .i64 ((a.den / Nat.gcd a.den b.den : Nat) : Int) (b.den : Int) = ((a.den / Nat.gcd a.den b.den * b.den : Nat) : Int) := by
    rw [mulN (by rw [← Int.natCast_mul]; omega), Int.natCast_mul]
  have pe' : Rat.divInt (a.num * ((b.den / Nat.gcd a.den b.den : Nat) : Int) + k * b.num * ((a.den / Nat.gcd a.den b.den : Nat) : Int)) ((a.den / Nat.gcd a.den b.den * b.den : Nat) : Int) = a + k * b := by
    rw [Int.natCast_mul]; exact pe
  have fc := frac_call (h := H) (a := a.num * ((b.den / Nat.gcd a.den b.den : Nat) : Int) + k * b.num * ((a.den / Nat.gcd a.den b.den : Nat) : Int)) (b := ((a.den / Nat.gcd a.den b.den * b.den : Nat) : Int)) (by omega) (by omega) (by omega)
  rw [pe'] at fc
  obtain ⟨q, hq⟩ : ∃ q, a + (k : Rat) * b = q := ⟨_, rfl⟩
  rw [hq] at fc ⊢
  refine ACall.forget (low_frV _ _) ?_
  refine s71_callW (by simp) ?_
  simp only [s71]
  refine Ze fun N1 hN1 => ?_
  simp (maxSteps := 2000000) only [↓Za, ↓Zb, ↓Zc, vup, cond_true, cond_false, aop, Zg, Zo, ev, sput, Zf, Nat.reduceBEq, Nat.reduceAdd, tyf, qV, frV, boxF, Xl, Yn, List.length_append, List.length_singleton, Nat.add_assoc]
  rw [← hH]
  refine hN1 [(1, Zd k), (3, .pointer (some ⟨h.length, 0, none⟩)), (5, .pointer (some ⟨h.length + 1, 0, none⟩)), (6, .pointer (some ⟨h.length + 2, 0, none⟩))] _ _ ?_ (by simp (maxSteps := 2000000) only [vup, cond_true, cond_false, Nat.reduceBEq])
  clear hN1
  try clear N1
  refine Ze fun N2 hN2 => ?_
  simp (maxSteps := 2000000) only [↓Za, ↓Zb, ↓Zc, vup, List.map_cons, List.map_nil, cond_true, cond_false, aop, Zg, ev, sput, Zf, Nat.reduceBEq, Yt, List.nil_append, List.append_nil, fA1, Xs c3, Xs c5]
  refine (gcd_call (.inl (by omega)) (by omega)).mono ?_
  rintro _ _ ⟨rfl, rfl⟩
  rw [Int.natAbs_natCast, Int.natAbs_natCast]
  refine hN2 [(1, Zd k), (3, .pointer (some ⟨h.length, 0, none⟩)), (5, .pointer (some ⟨h.length + 1, 0, none⟩)), (6, .pointer (some ⟨h.length + 2, 0, none⟩)), (7, Zd (Nat.gcd a.den b.den : Nat))] _ _ ?_ (by simp (maxSteps := 2000000) only [vup, cond_true, cond_false, Nat.reduceBEq])
  clear hN2
  try clear N2
  refine Zi ?_
  simp only [q71_2]
  refine aw_cut fun N hN => ?_
  refine Xj [(24, 1)] (by kernel_rfl) (by kernel_rfl) (by kernel_rfl) (by kernel_rfl) ?_
  simp (maxSteps := 2000000) only [↓Yh, ↓vdn, vup, List.map_cons, List.map_nil, cond_true, cond_false, aop, Zg, ev, sput, Zf, Yi, Yo, Nat.reduceBEq, Nat.reduceAdd, tyf, fA0, fA1, Xs c3, Xs c5, Wh c3, Wh c5, ne_eq, hg0, not_false_eq_true, q1, q2, m1, m2, m3, m4, m5, Yt, List.nil_append, List.append_nil]
  refine ⟨_, _, fc, rfl, ?_⟩
  simp (maxSteps := 2000000) only [qV, frV, Xz c6 rfl]
  refine hN _ _ ?_
  simp (maxSteps := 2000000) only [↓Zy, vup, cond_true, cond_false, Nat.reduceBEq, Zv, Xw, tup, Wi (Wc (Yl c6) _)]
  exact ⟨rfl, hE.set_ge (by omega) _⟩

/-- The product fits. -/
def Fits (q : Rat) : Prop := q.num.natAbs < 9223372036854775808 ∧ q.den < 9223372036854775808
theorem s72_callW [Tabs Try.prog] {args : List Value} {h : Zh} {Q : Value → Zh → Prop} (hsz : args.length ≤ 28) (hk : AWS Try.prog 28 s72 (Zv Try.prog [.cell 4 26] Q) (Zo 0 args) h) : ACall Try.prog 72 args h Q :=
  Yr Try.func72 rfl (enters_of Try.func72 (by kernel_rfl) rfl) rfl rfl (by decide) s72_strip s72_ok hsz hk
theorem times_call [Tabs prog] {h : Zh} {a b : Rat} (ha : Fits a) (hb : Fits b) (hab : Fits (a * b)) : Xc prog 72 [qV a, qV b] h (qV (a * b)) := by
  have da := a.den_nz
  have db := b.den_nz
  obtain ⟨t1, t2⟩ := times_eq a b
  have f1 : ∀ h : Zh, Xc prog 64 [Zd a.num, Zd b.den] h (qV (Rat.divInt a.num b.den)) := fun h => frac_call (by omega) ha.1 (by have := hb.2; omega)
  have f2 : ∀ h : Zh, Xc prog 64 [Zd b.num, Zd a.den] h (qV (Rat.divInt b.num a.den)) := fun h => frac_call (by omega) hb.1 (by have := ha.2; omega)
  obtain ⟨u, hu⟩ : ∃ u, Rat.divInt a.num b.den = u := ⟨_, rfl⟩
  obtain ⟨v, hv⟩ : ∃ v, Rat.divInt b.num a.den = v := ⟨_, rfl⟩
  rw [hu] at f1 t1 t2
  rw [hv] at f2 t1 t2
  have m1 : mulV .i64 u.num v.num = (a * b).num := by rw [← t1]; exact mulN (by rw [t1]; exact hab.1)
  have m2 : mulV .i64 (u.den : Int) (v.den : Int) = ((a * b).den : Int) := by
    rw [← t2, Int.natCast_mul]; exact mulN (by rw [← Int.natCast_mul, t2]; have := hab.2; omega)
  obtain ⟨q, hq⟩ : ∃ q, a * b = q := ⟨_, rfl⟩
  rw [hq] at m1 m2 ⊢
  obtain ⟨H, hH⟩ : ∃ H, H = h ++ [fC a.num a.den] ++ [fC b.num b.den] ++ [z0] := ⟨_, rfl⟩
  have c2 : H[h.length]? = some (fC a.num a.den) := by rw [hH]; exact b3_0 ..
  have c3 : H[h.length + 1]? = some (fC b.num b.den) := by rw [hH]; exact b3_1 ..
  have c4 : H[h.length + 2]? = some z0 := by rw [hH]; exact b3_2 ..
  have hE : Ext (fun _ => False) h H := by rw [hH]; exact e3 ..
  have hlen : H.length = h.length + 3 := by rw [hH]; simp
  refine ACall.forget (low_frV _ _) ?_
  refine s72_callW (by simp) ?_
  simp only [s72]
  refine Ze fun N3 hN3 => ?_
  simp (maxSteps := 2000000) only [↓Za, ↓Zb, ↓Zc, vup, cond_true, cond_false, aop, Zg, Zo, ev, sput, Zf, Nat.reduceBEq, Nat.reduceAdd, tyf, qV, frV, boxF, Xl, Yn, List.length_append, List.length_singleton, Nat.add_assoc]
  rw [← hH]
  refine hN3 [(2, .pointer (some ⟨h.length, 0, none⟩)), (3, .pointer (some ⟨h.length + 1, 0, none⟩)), (4, .pointer (some ⟨h.length + 2, 0, none⟩))] _ _ ?_ (by simp (maxSteps := 2000000) only [vup, cond_true, cond_false, Nat.reduceBEq])
  clear hN3
  try clear N3
  refine Ze fun N4 hN4 => ?_
  refine aw_drawE (fun hp => hp[h.length]? = some (fC a.num a.den) ∧ hp[h.length + 1]? = some (fC b.num b.den)) [(1, 5), (3, 5), (6, 5), (8, 5), (4, 2), (9, 2)] 11 6 [10] (by kernel_rfl) (by kernel_rfl) (by kernel_rfl) (by kernel_rfl) (by kernel_rfl) (by rfl) ⟨c2, c3⟩ ?_
  simp (maxSteps := 2000000) only [↓dopsR_nil, ↓vdn, vup, List.map_cons, List.map_nil, cond_true, cond_false, aop, Zg, ev, sput, Zf, Nat.reduceBEq, Nat.reduceAdd, fA0, fA1, Yt, List.nil_append, List.append_nil]
  refine ⟨Zd a.num, fun _ g => by rw [Wh g.1], Zd b.den, fun _ g => by rw [Xs g.2], qV u, fun _ _ => ⟨_, _, f1 _, rfl, rfl⟩, Zd b.num, fun _ g => by rw [Wh g.2], Zd a.den, fun _ g => by rw [Xs g.1], qV v, fun _ _ => ⟨_, _, f2 _, rfl, rfl⟩, ?_⟩
  have k1 : (H ++ [z0] ++ [z0])[H.length]? = some z0 := b2_0 ..
  obtain ⟨H2, hH2⟩ : ∃ H2, H2 = (H ++ [z0] ++ [z0]).set H.length (fC u.num u.den) := ⟨_, rfl⟩
  have k2 : H2[H.length + 1]? = some z0 := by rw [hH2, List.getElem?_set_ne (by omega)]; exact b2_1 ..
  have k3 : H2[H.length]? = some (fC u.num u.den) := by rw [hH2]; exact Wc (by simp) _
  have k4 : Ext (fun _ => False) h H2 := by rw [hH2]; exact (hE.trans (e2 ..)).set_ge (by omega) _
  have k5 : H2[h.length]? = some (fC a.num a.den) ∧ H2[h.length + 1]? = some (fC b.num b.den) ∧ H2[h.length + 2]? = some z0 := by
    rw [hH2, List.getElem?_set_ne (by omega), List.getElem?_set_ne (by omega), List.getElem?_set_ne (by omega)]
    exact ⟨Xr (Xr c2 _) _, Xr (Xr c3 _) _, Xr (Xr c4 _) _⟩
  obtain ⟨H3, hH3⟩ : ∃ H3, H3 = H2.set (H.length + 1) (fC v.num v.den) := ⟨_, rfl⟩
  have l1 : H3[H.length + 1]? = some (fC v.num v.den) := by rw [hH3]; exact Wc (Yl k2) _
  have l2 : H3[H.length]? = some (fC u.num u.den) := by rw [hH3, List.getElem?_set_ne (by omega)]; exact k3
  have l3 : H3[h.length + 2]? = some z0 := by rw [hH3, List.getElem?_set_ne (by omega)]; exact k5.2.2
  have l4 : Ext (fun _ => False) h H3 := by rw [hH3]; exact k4.set_ge (by omega) _
  have l5 : H3[h.length]? = some (fC a.num a.den) ∧ H3[h.length + 1]? = some (fC b.num b.den) := by
    rw [hH3, List.getElem?_set_ne (by omega), List.getElem?_set_ne (by omega)]
    exact ⟨k5.1, k5.2.1⟩
  simp (maxSteps := 2000000) only [tyf, Xl, Yn]
  refine ⟨⟨Xr c2 _, Xr c3 _⟩, ⟨Xr (Xr c2 _) _, Xr (Xr c3 _) _⟩, ?_⟩
  simp only [qV, frV, Xz k1 rfl, List.length_append, List.length_singleton]
  rw [← hH2, Xz k2 rfl, ← hH3]
  refine ⟨⟨k5.1, k5.2.1⟩, l5, ?_⟩
  refine hN4 [(2, .pointer (some ⟨h.length, 0, none⟩)), (3, .pointer (some ⟨h.length + 1, 0, none⟩)), (4, .pointer (some ⟨h.length + 2, 0, none⟩)), (5, .pointer (some ⟨H.length, 0, none⟩)), (6, .pointer (some ⟨H.length + 1, 0, none⟩))] _ _ ?_ (by simp (maxSteps := 2000000) only [vup, cond_true, cond_false, Nat.reduceBEq])
  clear hN4
  try clear N4
  refine Zi ?_
  simp (maxSteps := 2000000) only [↓Za, ↓Zt, ↓Zy, ↓Zb, ↓Zc, vup, List.map_cons, List.map_nil, cond_true, cond_false, aop, Zg, ev, sput, Zf, Yi, Yo, Nat.reduceBEq, Zv, Xw, tup, tyf, fA0, fA1, Wh l1, Xs l1, Wh l2, Xs l2, m1, m2, bldF, Xz l3 rfl, Wi (Wc (Yl l3) _)]
  exact ⟨rfl, l4.set_ge (by omega) _⟩

theorem fits_inv {a b : Rat} (hb : b ≠ 0) (h : Fits b) : Rat.divInt b.den b.num = b⁻¹ ∧ Fits b⁻¹ := by
  have hn : b.num ≠ 0 := fun hc => hb (Rat.num_eq_zero.1 hc)
  refine ⟨(Rat.inv_def b).symm, ?_, ?_⟩
  · rw [Rat.num_inv, Int.natAbs_mul, Int.natAbs_sign_of_ne_zero hn]
    have := h.2; simpa using this
  · rw [Rat.den_inv, if_neg hn]; exact h.1

theorem s94_callW [Tabs Try.prog] {args : List Value} {h : Zh} {Q : Value → Zh → Prop} (hsz : args.length ≤ 12) (hk : AWS Try.prog 12 s94 (Zv Try.prog [.cell 4 26] Q) (Zo 0 args) h) : ACall Try.prog 94 args h Q :=
  Yr Try.func94 rfl (enters_of Try.func94 (by kernel_rfl) rfl) rfl rfl (by decide) s94_strip s94_ok hsz hk
theorem over_call [Tabs prog] {h : Zh} {a b : Rat} (ha : Fits a) (hb : Fits b) (hb0 : b ≠ 0) (hab : Fits (a / b)) : Xc prog 94 [qV a, qV b] h (qV (a / b)) := by
  obtain ⟨i1, i2⟩ := fits_inv (a := a) hb0 hb
  have hn : b.num ≠ 0 := fun hc => hb0 (Rat.num_eq_zero.1 hc)
  have f1 : ∀ h : Zh, Xc prog 64 [Zd b.den, Zd b.num] h (qV b⁻¹) := fun h => by
    rw [← i1]; exact frac_call hn (by have := hb.2; omega) hb.1
  have f2 : ∀ h : Zh, Xc prog 72 [qV a, qV b⁻¹] h (qV (a / b)) := fun h => times_call ha i2 hab
  obtain ⟨q, hq⟩ : ∃ q, a / b = q := ⟨_, rfl⟩
  rw [hq] at f2 ⊢
  obtain ⟨H, hH⟩ : ∃ H, H = h ++ [fC a.num a.den] ++ [fC b.num b.den] ++ [z0] := ⟨_, rfl⟩
  have c2 : H[h.length]? = some (fC a.num a.den) := by rw [hH]; exact b3_0 ..
  have c3 : H[h.length + 1]? = some (fC b.num b.den) := by rw [hH]; exact b3_1 ..
  have c4 : H[h.length + 2]? = some z0 := by rw [hH]; exact b3_2 ..
  have hE : Ext (fun _ => False) h H := by rw [hH]; exact e3 ..
  refine ACall.forget (low_frV _ _) ?_
  refine s94_callW (by simp) ?_
  simp only [s94]
  refine Ze fun N5 hN5 => ?_
  simp (maxSteps := 2000000) only [↓Za, ↓Zb, ↓Zc, vup, cond_true, cond_false, aop, Zg, Zo, ev, sput, Zf, Nat.reduceBEq, Nat.reduceAdd, tyf, qV, frV, boxF, Xl, Yn, List.length_append, List.length_singleton, Nat.add_assoc]
  rw [← hH]
  refine hN5 [(2, .pointer (some ⟨h.length, 0, none⟩)), (3, .pointer (some ⟨h.length + 1, 0, none⟩)), (4, .pointer (some ⟨h.length + 2, 0, none⟩))] _ _ ?_ (by simp (maxSteps := 2000000) only [vup, cond_true, cond_false, Nat.reduceBEq])
  clear hN5
  try clear N5
  refine Zi ?_
  simp only [q94_1]
  refine aw_cut fun N hN => ?_
  refine Xj [(5, 1), (6, 1)] (by kernel_rfl) (by kernel_rfl) (by kernel_rfl) (by kernel_rfl) ?_
  simp (maxSteps := 2000000) only [↓Yh, ↓vdn, vup, List.map_cons, List.map_nil, cond_true, cond_false, aop, Zg, ev, sput, Zf, Nat.reduceBEq, Nat.reduceAdd, fA0, fA1, Wi c2, Wh c3, Xs c3, Yt, List.nil_append, List.append_nil]
  refine ⟨_, _, f1 _, rfl, ?_⟩
  refine ⟨_, _, f2 _, rfl, ?_⟩
  simp (maxSteps := 2000000) only [qV, frV, Xz c4 rfl]
  refine hN _ _ ?_
  simp (maxSteps := 2000000) only [↓Zy, vup, cond_true, cond_false, Nat.reduceBEq, Zv, Xw, tup, Wi (Wc (Yl c4) _)]
  exact ⟨rfl, hE.set_ge (by omega) _⟩

theorem s62_callW [Tabs Try.prog] {args : List Value} {h : Zh} {Q : Value → Zh → Prop} (hsz : args.length ≤ 10) (hk : AWS Try.prog 10 s62 (Zv Try.prog [.tmp 4] Q) (Zo 0 args) h) : ACall Try.prog 62 args h Q :=
  Yr Try.func62 rfl (enters_of Try.func62 (by kernel_rfl) rfl) rfl rfl (by decide) s62_strip s62_ok hsz hk
theorem less_call [Tabs prog] {h : Zh} {a b : Rat} {x y : Int} {N : Nat} (ha : Rp N x a) (hb : Rp N y b) (hx : x.natAbs + y.natAbs < 9223372036854775808) (hN : N < 9223372036854775808) : Xc prog 62 [qV a, qV b] h (.bool (decide (a < b))) := by
  have p := plus_call (h := h ++ [fC a.num a.den] ++ [fC b.num b.den]) (k := -1) ha hb (by omega) hN
  have e1 : decide ((a + ((-1 : Int) : Rat) * b).num < 0) = decide (a < b) := by
    have hpl := ha.plus hb (-1)
    have h0 := hpl.num
    have h1 : 0 < N / (a + ((-1 : Int) : Rat) * b).den := Nat.div_pos hpl.den_le (Rat.den_pos _)
    rw [decide_eq_decide, ha.lt hb]
    generalize (a + ((-1 : Int) : Rat) * b).num = u at *
    generalize N / (a + ((-1 : Int) : Rat) * b).den = t at *
    constructor
    · intro hu
      have : u * (t : Int) < 0 := Int.mul_neg_of_neg_of_pos hu (by omega)
      omega
    · intro hu
      rcases Int.lt_or_le u 0 with h2 | h2
      · exact h2
      · have : 0 ≤ u * (t : Int) := Int.mul_nonneg h2 (by omega)
        omega
  obtain ⟨q, hq⟩ : ∃ q, a + ((-1 : Int) : Rat) * b = q := ⟨_, rfl⟩
  rw [hq] at p e1
  refine ACall.forget (Low.bool _) ?_
  refine s62_callW (by simp) ?_
  refine Zi ?_
  simp (maxSteps := 2000000) only [s62, ↓Za, ↓Zt, ↓Zy, ↓Zb, ↓Zc, vup, List.map_cons, List.map_nil, cond_true, cond_false, aop, Zg, Zo, ev, sput, Zf, Yi, Yo, Nat.reduceBEq, Nat.reduceAdd, Zv, Xw, tup, tyf, qV, frV, boxF, Yn, List.length_append, List.length_singleton, Wi (b2_0 ..), Wi (b2_1 ..), Yt, List.nil_append, List.append_nil]
  refine p.mono ?_
  rintro _ _ ⟨rfl, rfl⟩
  simp (maxSteps := 2000000) only [vup, qV, frV, fld0, e1]
  exact e2 ..

theorem s70_callW [Tabs Try.prog] {args : List Value} {h : Zh} {Q : Value → Zh → Prop} (hsz : args.length ≤ 5) (hk : AWS Try.prog 5 s70 (Zv Try.prog [.cell 2 26] Q) (Zo 0 args) h) : ACall Try.prog 70 args h Q :=
  Yr Try.func70 rfl (enters_of Try.func70 (by kernel_rfl) rfl) rfl rfl (by decide) s70_strip s70_ok hsz hk
theorem whole_call [Tabs prog] {h : Zh} {k : Int} : Xc prog 70 [Zd k] h (qV (k : Rat)) := by
  refine ACall.forget (low_frV _ _) ?_
  refine s70_callW (by simp) ?_
  refine Zi ?_
  simp (maxSteps := 2000000) only [s70, ↓Za, ↓Zt, ↓Zy, ↓Zb, ↓Zc, vup, List.map_cons, List.map_nil, cond_true, cond_false, aop, Zg, Zo, ev, sput, Zf, Nat.reduceBEq, Zv, Xw, tup, tyf, Xl, Yn, bldF, Xz (Zz h z0) rfl, Wi (Wc (h := h ++ [z0]) (b := h.length) (by simp) _)]
  exact ⟨rfl, (Ext.app _ _ _).set_ge (Nat.le_refl _) _⟩
end Go.Proofs.Try.Am

namespace Bq
/-- The common multiple, what two have in common, the product. -/
def lcmL (l : List Nat) : Nat := l.foldl Nat.lcm 1
theorem foldl_lcm_dvd {l : List Nat} {m : Nat} : m ∣ l.foldl Nat.lcm m := by
  induction l generalizing m with
  | nil => exact Nat.dvd_refl _
  | cons d l ih => exact Nat.dvd_trans (Nat.dvd_lcm_left m d) ih
theorem foldl_lcm_mem {l : List Nat} {m d : Nat} (h : d ∈ l) : d ∣ l.foldl Nat.lcm m := by
  induction l generalizing m with
  | nil => cases h
  | cons e l ih =>
    rcases List.mem_cons.1 h with rfl | h
    · exact Nat.dvd_trans (Nat.dvd_lcm_right m d) foldl_lcm_dvd
    · exact ih h
end Bq

namespace Bq

/-- A valid fraction from 0 on, as it stands. -/
def okP (p : Int × Int) : Bool := decide (1 ≤ p.2) && decide (p.2 ≤ 10000000000) && decide (0 ≤ p.1) && (Nat.gcd p.1.natAbs p.2.natAbs == 1)
def mulTo : List (Int × Int) → Nat → Nat
  | [], m => m
  | p :: ps, m => if okP p = true ∧ Nat.lcm m p.2.natAbs ≤ 10000000000 then mulTo ps (Nat.lcm m p.2.natAbs) else 0
/-- The common multiple; 0: there is none. -/
def Wb (ps : List (Int × Int)) : Nat := mulTo ps 1
/-- A fraction as it stands, as a number; a number as it stands. -/
def toQ (p : Int × Int) : Rat := Rat.divInt p.1 p.2
def ofQ (q : Rat) : Int × Int := (q.num, (q.den : Int))

theorem ofQ_toQ {p : Int × Int} (h1 : 1 ≤ p.2) (h2 : Nat.gcd p.1.natAbs p.2.natAbs = 1) : ofQ (toQ p) = p := by
  obtain ⟨x, y⟩ := p
  simp only at h1 h2
  obtain ⟨n, rfl⟩ : ∃ n : Nat, y = n := ⟨y.toNat, by omega⟩
  have hn : n ≠ 0 := by omega
  have e : toQ (x, (n : Int)) = ⟨x, n, hn, by simpa using h2⟩ := by
    rw [toQ, Rat.divInt_ofNat]
    exact (Rat.mk_eq_mkRat x n hn _).symm
  rw [e]; rfl
theorem okP_ofQ {p : Int × Int} (h : okP p = true) : ofQ (toQ p) = p := by
  simp only [okP, Bool.and_eq_true, decide_eq_true_eq, beq_iff_eq] at h
  exact ofQ_toQ h.1.1.1 h.2
theorem mulTo_spec : ∀ (ps : List (Int × Int)) (m : Nat), mulTo ps m ≠ 0 → m ≤ 10000000000 → (∀ p ∈ ps, okP p = true) ∧ mulTo ps m = (ps.map fun p => p.2.natAbs).foldl Nat.lcm m ∧ mulTo ps m ≤ 10000000000
  | [], m, h, hm => ⟨(fun _ h => by cases h), rfl, hm⟩
  | p :: ps, m, h, hm => by
    rw [mulTo] at h ⊢
    split at h
    · rename_i hc
      rw [if_pos hc]
      obtain ⟨h1, h2, h3⟩ := mulTo_spec ps _ h hc.2
      refine ⟨fun q hq => ?_, h2, h3⟩
      rcases List.mem_cons.1 hq with rfl | hq
      · exact hc.1
      · exact h1 q hq
    · exact absurd rfl h
theorem mult_spec {ps : List (Int × Int)} (h : Wb ps ≠ 0) : (∀ p ∈ ps, okP p = true) ∧ Wb ps = lcmL (ps.map fun p => p.2.natAbs) ∧ Wb ps ≤ 10000000000 := mulTo_spec ps 1 h (by decide)
theorem mult_dvd {ps : List (Int × Int)} (h : Wb ps ≠ 0) {p : Int × Int} (hp : p ∈ ps) : (toQ p).den ∣ Wb ps := by
  obtain ⟨h1, h2, h3⟩ := mult_spec h
  have e := okP_ofQ (h1 p hp)
  have e2 : (toQ p).den = p.2.natAbs := by
    have := congrArg Prod.snd e
    simp only [ofQ] at this
    rw [← this]; rfl
  rw [h2, e2]
  exact foldl_lcm_mem (List.mem_map.2 ⟨p, hp, rfl⟩)
theorem okP_pos {p : Int × Int} (h : okP p = true) : 0 ≤ toQ p := by
  simp only [okP, Bool.and_eq_true, decide_eq_true_eq] at h
  exact Rat.divInt_nonneg h.1.2 (by omega)
theorem okP_le {p : Int × Int} (h : okP p = true) : toQ p ≤ 1 ↔ p.1 ≤ p.2 := by
  have hp := okP_ofQ h
  have h1 : (toQ p).num = p.1 := congrArg Prod.fst hp
  have h2 : ((toQ p).den : Int) = p.2 := congrArg Prod.snd hp
  rw [Rat.le_iff, h1, h2]
  simp

/-- The sum of the first ones. -/
def Zu (g : Nat → Rat) : Nat → Rat
  | 0 => 0
  | k + 1 => Zu g k + g k
section
variable {g f : Nat → Rat}
theorem sumTo_nonneg {n : Nat} (h : ∀ i, i < n → 0 ≤ g i) : 0 ≤ Zu g n := by
  induction n with
  | zero => exact Rat.le_refl
  | succ n ih => exact Rat.add_nonneg (ih fun i hi => h i (by omega)) (h n (by omega))
theorem sumTo_mono {k n : Nat} (hk : k ≤ n) (h : ∀ i, i < n → 0 ≤ g i) : Zu g k ≤ Zu g n := by
  induction n with
  | zero => rw [Nat.le_zero.1 hk]; exact Rat.le_refl
  | succ n ih =>
    rcases Nat.lt_or_ge n k with h1 | h1
    · rw [show k = n + 1 by omega]; exact Rat.le_refl
    · have h2 := ih h1 fun i hi => h i (by omega)
      have h3 := h n (by omega)
      rw [Zu]; grind
theorem sumTo_one {k n : Nat} (hk : k < n) (h : ∀ i, i < n → 0 ≤ g i) : g k ≤ Zu g n := by
  have h1 := sumTo_mono (show k + 1 ≤ n by omega) h
  have h2 := sumTo_nonneg (n := k) fun i hi => h i (by omega)
  rw [Zu] at h1; grind
theorem sumTo_le {n : Nat} (h : ∀ i, i < n → f i ≤ g i) : Zu f n ≤ Zu g n := by
  induction n with
  | zero => exact Rat.le_refl
  | succ n ih =>
    have h1 := ih fun i hi => h i (by omega)
    have h2 := h n (by omega)
    rw [Zu, Zu]; grind
theorem Zk {n : Nat} (h : ∀ i, i < n → f i = g i) : Zu f n = Zu g n := by
  induction n with
  | zero => rfl
  | succ n ih => rw [Zu, Zu, ih fun i hi => h i (by omega), h n (by omega)]
theorem Wv (f g : Nat → Rat) (n : Nat) : Zu (fun i => f i + g i) n = Zu f n + Zu g n := by
  induction n with
  | zero => exact (Rat.zero_add _).symm
  | succ n ih => simp only [Zu, ih]; grind
theorem Xp (c : Rat) (g : Nat → Rat) (n : Nat) : Zu (fun i => c * g i) n = c * Zu g n := by
  induction n with
  | zero => exact (Rat.mul_zero _).symm
  | succ n ih => simp only [Zu, ih]; grind
theorem sumTo_den {N : Nat} {n : Nat} (hN : 0 < N) (h : ∀ i, i < n → (g i).den ∣ N) : (Zu g n).den ∣ N := by
  induction n with
  | zero => exact Nat.one_dvd _
  | succ n ih =>
    have h1 := ih fun i hi => h i (by omega)
    have h2 := h n (by omega)
    rw [Zu]
    have e := Rp.up' (Rp.own (Zu g n)) h1 hN
    have e2 := Rp.up' (Rp.own (g n)) h2 hN
    have := e.plus e2 1
    have h3 := this.dvd
    have e3 : Zu g n + ((1 : Int) : Rat) * g n = Zu g n + g n := by
      rw [show (((1 : Int)) : Rat) = 1 from rfl, Rat.one_mul]
    rwa [e3] at h3
end
theorem rp_of {N : Nat} {q : Rat} (hN : 0 < N) (h : q.den ∣ N) : ∃ x, Rp N x q := ⟨_, Rp.up' (Rp.own q) h hN⟩
/-- Parts of what is bounded. -/
theorem Rp.bound {N C : Nat} {x : Int} {q : Rat} (h : Rp N x q) (h1 : -(C : Rat) ≤ q) (h2 : q ≤ C) : x.natAbs ≤ C * N := by
  have hN : (0 : Rat) ≤ N := Rat.natCast_nonneg
  have e := h.2
  have u1 := Rat.mul_le_mul_of_nonneg_right h2 hN
  have u2 := Rat.mul_le_mul_of_nonneg_right h1 hN
  rw [e] at u1 u2
  have v1 : x ≤ ((C * N : Nat) : Int) := by
    rw [← Rat.intCast_le_intCast]; push_cast; exact u1
  have v2 : -((C * N : Nat) : Int) ≤ x := by
    rw [← Rat.intCast_le_intCast]; push_cast
    rw [Rat.neg_mul] at u2; exact u2
  omega

end Bq

namespace Bq

theorem toQ_ofQ (q : Rat) : toQ (ofQ q) = q := Rat.num_divInt_den q
/-- Lists of fractions in least terms. -/
def Vld (ps : List (Int × Int)) : Prop := ∀ p ∈ ps, ofQ (toQ p) = p
/-- The w-th one as a number. -/
def fq (ps : List (Int × Int)) (w : Nat) : Rat := toQ (ps.getD w (0, 0))
theorem Wn {ps : List (Int × Int)} {k : Nat} (hk : k < ps.length) : ps.getD k (0, 0) ∈ ps := by
  rw [List.getD, List.getElem?_eq_getElem hk]; exact List.getElem_mem hk
/-- A chance with a divisor up to m. -/
def chB (m : Int) (p : Int × Int) : Bool := (decide (1 ≤ p.2) && (decide (p.2 ≤ m) && (Nat.gcd p.1.natAbs p.2.natAbs == 1))) && (decide (0 ≤ p.1) && decide (p.1 ≤ p.2))
theorem chB_okP (p : Int × Int) : chB 10000000000 p = (okP p && decide (p.1 ≤ p.2)) := by
  rw [chB, okP, Bool.eq_iff_iff]
  simp only [Bool.and_eq_true, decide_eq_true_eq, beq_iff_eq]
  constructor
  · rintro ⟨⟨h1, h2, h3⟩, h4, h5⟩; exact ⟨⟨⟨⟨h1, h2⟩, h4⟩, h3⟩, h5⟩
  · rintro ⟨⟨⟨⟨h1, h2⟩, h4⟩, h3⟩, h5⟩; exact ⟨⟨h1, h2, h3⟩, h4, h5⟩
/-- Valid Wk. -/
structure Chn (ps : List (Int × Int)) : Prop where
  m : Wb ps ≠ 0
  le : ∀ p ∈ ps, p.1 ≤ p.2
theorem Chn.ok {ps : List (Int × Int)} (c : Chn ps) {p : Int × Int} (hp : p ∈ ps) : okP p = true := (mult_spec c.m).1 p hp
theorem Chn.vld {ps : List (Int × Int)} (c : Chn ps) : Vld ps := fun p hp => okP_ofQ (c.ok hp)
/-- A fraction's parts. -/
theorem Chn.rp {ps : List (Int × Int)} (c : Chn ps) {p : Int × Int} (hp : p ∈ ps) : Rp (Wb ps) ((Wb ps : Int) / p.2 * p.1) (toQ p) ∧ 0 ≤ (Wb ps : Int) / p.2 * p.1 ∧ (Wb ps : Int) / p.2 * p.1 ≤ Wb ps ∧ 1 ≤ p.2 ∧ 0 ≤ p.1 ∧ (p.2 ∣ (Wb ps : Int)) := by
  have hok := c.ok hp
  have hd := mult_dvd c.m hp
  have e := okP_ofQ hok
  have e1 : (toQ p).num = p.1 := congrArg Prod.fst e
  have e2 : ((toQ p).den : Int) = p.2 := congrArg Prod.snd e
  have hle := c.le p hp
  simp only [okP, Bool.and_eq_true, decide_eq_true_eq] at hok
  have r := Rp.up' (Rp.own (toQ p)) hd (Nat.pos_of_ne_zero c.m)
  have e3 : (Wb ps : Int) / p.2 * p.1 = (toQ p).num * ((Wb ps / (toQ p).den : Nat) : Int) := by
    rw [e1, Int.natCast_ediv, e2, Int.mul_comm]
  rw [e3]
  have hn : 0 ≤ (toQ p).num * ((Wb ps / (toQ p).den : Nat) : Int) := Int.mul_nonneg (by omega) (Int.natCast_nonneg _)
  refine ⟨r, hn, ?_, by omega, by omega, ?_⟩
  · have hb := r.bound (C := 1) (by have := okP_pos (c.ok hp); have h2 : (0 : Rat) ≤ ((1 : Nat) : Rat) := Rat.natCast_nonneg; have : -((1 : Nat) : Rat) ≤ 0 := by decide
                                    exact Rat.le_trans this ‹0 ≤ toQ p›) ((okP_le (c.ok hp)).2 hle)
    omega
  · rw [← e2]; exact Int.natCast_dvd_natCast.2 hd
theorem Chn.unit {ps : List (Int × Int)} (c : Chn ps) {k : Nat} (hk : k < ps.length) : 0 ≤ fq ps k ∧ fq ps k ≤ 1 ∧ (fq ps k).den ∣ Wb ps :=
  ⟨okP_pos (c.ok (Wn hk)), (okP_le (c.ok (Wn hk))).2 (c.le _ (Wn hk)), mult_dvd c.m (Wn hk)⟩

structure Fc (ps : List (Int × Int)) : Prop where
  len : 2 ≤ ps.length ∧ ps.length ≤ 5
  c : Chn ps
  den : ∀ p ∈ ps, p.2 ≤ 60
  sum : Zu (fq ps) ps.length = 1
  small : Wb ps ≤ 27885
theorem Fc.unit {ps : List (Int × Int)} (c : Fc ps) {k : Nat} (hk : k < ps.length) : 0 ≤ fq ps k ∧ fq ps k ≤ 1 := ⟨(c.c.unit hk).1, (c.c.unit hk).2.1⟩
end Bq

namespace Go.Proofs.Try.Am
open Go.Am Bq
set_option maxRecDepth 100000
set_option maxHeartbeats 1000000

theorem s68_callW [Tabs Try.prog] {args : List Value} {h : Zh} {Q : Value → Zh → Prop} (hsz : args.length ≤ 31) (hk : AWS Try.prog 31 s68 (Zv Try.prog [.cell 4 26] Q) (Zo 0 args) h) : ACall Try.prog 68 args h Q :=
  Yr Try.func68 rfl (enters_of Try.func68 (by kernel_rfl) rfl) rfl rfl (by decide) s68_strip s68_ok hsz hk
theorem rfrac_call [Tabs prog] {h : Zh} {a b : Int} (hb : b ≠ 0) (ha : a.natAbs < 9223372036854775808) (hb2 : b.natAbs < 9223372036854775808) : Xc prog 68 [Zd a, Zd b] h (qV (Rat.divInt a b)) := by
  have c0 := Zz h z0
  have hE0 : Ext (fun _ => False) h (h ++ [z0]) := Ext.app _ _ _
  obtain ⟨x, n, hn, hx, hn2, hq, hneg, hpos⟩ : ∃ (x : Int) (n : Nat), 0 < n ∧ x.natAbs < 9223372036854775808 ∧ n < 9223372036854775808 ∧ Rat.divInt x n = Rat.divInt a b ∧ (b < 0 → subV .i64 0 a = x ∧ subV .i64 0 b = n) ∧ (¬ b < 0 → a = x ∧ b = n) := by
    by_cases h0 : b < 0
    · refine ⟨-a, b.natAbs, by omega, by omega, hb2, ?_, fun _ => ⟨?_, ?_⟩, fun h => absurd h0 h⟩
      · rw [show ((b.natAbs : Nat) : Int) = -b by omega]; exact Rat.neg_divInt_neg a b
      · rw [subV_id (by omega) (by omega)]; omega
      · rw [subV_id (by omega) (by omega)]; omega
    · exact ⟨a, b.natAbs, by omega, ha, hb2, by rw [show ((b.natAbs : Nat) : Int) = b by omega], fun h => absurd h h0, fun _ => ⟨rfl, by omega⟩⟩
  refine ACall.forget (low_frV _ _) ?_
  refine s68_callW (by simp) ?_
  simp only [s68]
  refine Ze fun N1 hN1 => ?_
  simp (maxSteps := 2000000) only [↓Za, ↓Zb, ↓Zc, vup, cond_false, aop, Zg, Zo, sput, Zf, Nat.reduceBEq, Nat.reduceAdd, tyf, Xl, Yn]
  refine hN1 [(0, Zd a), (1, Zd b), (4, .pointer (some ⟨h.length, 0, none⟩))] _ _ ?_ (by simp (maxSteps := 2000000) only [vup, cond_true, cond_false, Nat.reduceBEq])
  clear hN1
  try clear N1
  refine Ze fun M hM => ?_
  have key : ∀ e, ELe e [(0, Zd x), (1, Zd (n : Int)), (4, .pointer (some ⟨h.length, 0, none⟩))] → M e (h ++ [z0]) := by
    intro e he
    refine hM [(0, Zd x), (1, Zd (n : Int)), (4, .pointer (some ⟨h.length, 0, none⟩))] _ _ ?_ he
    refine Ze fun N2 hN2 => ?_
    simp (maxSteps := 2000000) only [↓Za, ↓Zb, ↓Zc, vup, List.map_cons, List.map_nil, cond_true, cond_false, aop, Zg, ev, sput, Zf, unK, Zl, Nat.reduceBEq, mmK, if_true, max_abs hx]
    refine hN2 [(0, Zd x), (1, Zd (n : Int)), (4, .pointer (some ⟨h.length, 0, none⟩)), (5, Zd (x.natAbs : Nat)), (6, Zd (n : Int))] _ _ ?_ (by simp (maxSteps := 2000000) only [vup, cond_true, cond_false, Nat.reduceBEq])
    clear hN2
    try clear N2
    refine Zn fun M2 hM2 => ?_
    refine Zp ?_
    refine Ya fun Q hQ => ?_
    refine Xb (γ := Nat × Nat) (fun s => Nat.gcd s.1 s.2 = Nat.gcd x.natAbs n ∧ s.1 < 9223372036854775808 ∧ s.2 < 9223372036854775808)
      (fun s => ([(0, Zd x), (1, Zd (n : Int)), (4, .pointer (some ⟨h.length, 0, none⟩)), (5, Zd (s.1 : Nat)), (6, Zd (s.2 : Nat))], h ++ [z0])) (fun s => s.2) (x.natAbs, n) ⟨rfl, hx, hn2⟩ (by simp (maxSteps := 2000000) only [vup, cond_true, cond_false, Nat.reduceBEq]) rfl ?_
    rintro ⟨u, w⟩ ⟨huw, hu, hw⟩
    simp only at huw hu hw
    refine Ya fun Q2 hQ2 => ?_
    simp only [l68_0]
    by_cases hw0 : w = 0
    · subst hw0
      have e0 : (((0 : Nat) : Int) != 0) = false := rfl
      rw [Nat.gcd_zero_right] at huw
      subst huw
      refine Ze fun N3 hN3 => ?_
      simp (maxSteps := 2000000) only [↓Za, ↓Zt, ↓Xh, ↓Zb, ↓Zc, ↓vdn, vup, cond_true, cond_false, aop, Zg, ev, sput, Zf, Yi, Yo, Nat.reduceBEq, e0]
      refine hQ2 _ _ _ (hQ _ _ _ ?_)
      simp (maxSteps := 2000000) only [Zg, Zs, Zv, if_true]
      refine hM2 [(0, Zd x), (1, Zd (n : Int)), (4, .pointer (some ⟨h.length, 0, none⟩)), (5, Zd (Nat.gcd x.natAbs n : Nat))] _ _ ?_ (by simp (maxSteps := 2000000) only [vup, cond_true, cond_false, Nat.reduceBEq])
      clear hM2
      try clear M2
      have hg : ¬ ((Nat.gcd x.natAbs n : Nat) : Int) = 0 := by have := Nat.gcd_pos_of_pos_right x.natAbs hn; omega
      have q1 : quoV .i64 x ((Nat.gcd x.natAbs n : Nat) : Int) = (Rat.divInt a b).num := by rw [quo_dvd hx (gcd_dvd_int _ _), (terms hn).1, hq]
      have q2 : quoV .i64 (n : Int) ((Nat.gcd x.natAbs n : Nat) : Int) = (Rat.divInt a b).den := by
        rw [quo_dvd (by omega) (Int.natCast_dvd_natCast.2 (Nat.gcd_dvd_right _ _)), ← hq, ← (terms hn).2, Int.natCast_ediv]
      refine Zi ?_
      simp only [q68_6]
      refine aw_cut fun N hN => ?_
      refine Xj [] (by kernel_rfl) (by kernel_rfl) (by kernel_rfl) (by kernel_rfl) ?_
      simp (maxSteps := 2000000) only [↓Yh, ↓vdn, vup, List.map_cons, List.map_nil, cond_true, cond_false, aop, Zg, ev, sput, Zf, Yi, Yo, Nat.reduceBEq, ne_eq, hg, not_false_eq_true, q1, q2, bldF, Xz c0 rfl]
      refine hN _ _ ?_
      simp (maxSteps := 2000000) only [↓Zy, vup, cond_true, cond_false, Nat.reduceBEq, Zv, Xw, tup, Wi (Wc (h := h ++ [Blk.cells [.int .i64 0, .int .i64 0] 26 false]) (b := h.length) (by simp) _)]
      exact ⟨rfl, hE0.set_ge (Nat.le_refl _) _⟩
    · have e0 : (((w : Nat) : Int) != 0) = true := by
        have : ((w : Nat) : Int) ≠ 0 := by omega
        simpa using this
      have e1 : ¬ ((w : Nat) : Int) = 0 := by omega
      have etm : ((u : Nat) : Int).tmod ((w : Nat) : Int) = ((u % w : Nat) : Int) := by rw [Int.tmod_eq_emod_of_nonneg (by omega)]; rfl
      have hlt := Nat.mod_lt u (show w > 0 by omega)
      refine Ze fun N4 hN4 => ?_
      simp (maxSteps := 2000000) only [↓Za, ↓Zw, ↓Zt, ↓Zb, ↓Zc, ↓vdn, vup, cond_true, cond_false, aop, Zg, ev, sput, Zf, Yi, Yo, Nat.reduceBEq, e0]
      refine hN4 [(0, Zd x), (1, Zd (n : Int)), (4, .pointer (some ⟨h.length, 0, none⟩)), (5, Zd (u : Nat)), (6, Zd (w : Nat))] _ _ ?_ (by simp (maxSteps := 2000000) only [vup, cond_true, cond_false, Nat.reduceBEq])
      clear hN4
      try clear N4
      refine Zi ?_
      simp only [q68_5, aw_block]
      refine Xj [] (by kernel_rfl) (by kernel_rfl) (by kernel_rfl) (by kernel_rfl) ?_
      simp (maxSteps := 2000000) only [↓Yh, ↓vdn, vup, cond_true, cond_false, aop, Zs, ev, sput, Zf, Yi, Yo, Nat.reduceBEq, ne_eq, e1, not_false_eq_true, etm]
      refine hQ2 _ _ _ ⟨(w, u % w), ⟨?_, hw, by simp only; omega⟩, hlt, by simp (maxSteps := 2000000) only [vup, cond_true, cond_false, Nat.reduceBEq], rfl⟩
      simp only
      rw [← huw, Nat.gcd_comm u w, Nat.gcd_rec w u, Nat.gcd_comm]
  by_cases hb0 : b < 0
  · simp (maxSteps := 2000000) only [↓Za, ↓Zt, ↓Zb, ↓Zc, ↓vdn, vup, cond_true, cond_false, aop, Zg, ev, sput, Zf, Yi, Yo, unK, Nat.reduceBEq, hb0, (hneg hb0).1, (hneg hb0).2]
    exact key _ (by simp (maxSteps := 2000000) only [vup, cond_true, cond_false, Nat.reduceBEq])
  · simp (maxSteps := 2000000) only [↓Za, ↓Zw, ↓Zt, ↓Zb, ↓Zc, ↓vdn, vup, cond_true, cond_false, aop, Zg, ev, sput, Zf, Yi, Yo, Nat.reduceBEq, hb0]
    exact key _ (by simp (maxSteps := 2000000) only [vup, cond_true, cond_false, Nat.reduceBEq, (hpos hb0).1, (hpos hb0).2])

theorem s23_callW [Tabs Try.prog] {args : List Value} {h : Zh} {Q : Value → Zh → Prop} (hsz : args.length ≤ 16) (hk : AWS Try.prog 16 s23 (Zv Try.prog [.tmp 4] Q) (Zo 0 args) h) : ACall Try.prog 23 args h Q :=
  Yr Try.func23 rfl (enters_of Try.func23 (by kernel_rfl) rfl) rfl rfl (by decide) s23_strip s23_ok hsz hk
theorem rless_call [Tabs prog] {h : Zh} {a b : Rat} (h1 : (a.num * b.den).natAbs < 9223372036854775808) (h2 : (b.num * a.den).natAbs < 9223372036854775808) : Xc prog 23 [qV a, qV b] h (.bool (decide (a < b))) := by
  have m1 := mulN h1
  have m2 := mulN h2
  have e1 : decide (a.num * b.den < b.num * a.den) = decide (a < b) := by rw [decide_eq_decide, Rat.lt_iff]
  refine ACall.forget (Low.bool _) ?_
  refine s23_callW (by simp) ?_
  refine Zi ?_
  simp (maxSteps := 2000000) only [s23, ↓Za, ↓Zt, ↓Zy, ↓Zb, ↓Zc, vup, cond_true, cond_false, aop, Zg, Zo, ev, sput, Zf, Yi, Yo, Nat.reduceBEq, Nat.reduceAdd, Zv, Xw, tup, tyf, qV, frV, boxF, Yn, List.length_append, List.length_singleton, fA0, fA1, Wh (b2_0 ..), Xs (b2_0 ..), Wh (b2_1 ..), Xs (b2_1 ..), m1, m2, e1]
  exact e2 ..

theorem s118_callW [Tabs Try.prog] {args : List Value} {h : Zh} {Q : Value → Zh → Prop} (hsz : args.length ≤ 22) (hk : AWS Try.prog 22 s118 (Zv Try.prog [.tmp 4] Q) (Zo 0 args) h) : ACall Try.prog 118 args h Q :=
  Yr Try.func118 rfl (enters_of Try.func118 (by kernel_rfl) rfl) rfl rfl (by decide) s118_strip s118_ok hsz hk
theorem lowest_call [Tabs prog] {h : Zh} {x y m : Int} (hm : m < 9223372036854775808) : Xc prog 118 [frV x y, Zd m] h (.bool (decide (1 ≤ y) && (decide (y ≤ m) && (Nat.gcd x.natAbs y.natAbs == 1)))) := by
  have hE : Ext (fun _ => False) h (h ++ [fC x y]) := Ext.app _ _ _
  refine ACall.forget (Low.bool _) ?_
  refine s118_callW (by simp) ?_
  refine Zi ?_
  by_cases h1 : 1 ≤ y
  · by_cases h2 : y ≤ m
    · simp (maxSteps := 2000000) only [s118, ↓Za, ↓Zt, ↓Zy, ↓Zb, ↓Zc, ↓vdn, vup, List.map_cons, List.map_nil, cond_true, cond_false, aop, Zg, Zo, ev, sput, Zf, Yi, Yo, Nat.reduceBEq, Nat.reduceAdd, Zv, Xw, tup, tyf, frV, boxF, Yn, fA0, fA1, Wh (Zz h _), Xs (Zz h _), h1, h2, Yt, List.nil_append, List.append_nil]
      refine (gcd_call (.inr (by omega)) (by omega)).mono ?_
      rintro _ _ ⟨rfl, rfl⟩
      have e : ((((Nat.gcd x.natAbs y.natAbs : Nat)) : Int) == 1) = (Nat.gcd x.natAbs y.natAbs == 1) := by
        rw [Bool.eq_iff_iff]; simp; omega
      simp (maxSteps := 2000000) only [vup, e, Bool.true_and]
      exact hE
    · simp (maxSteps := 2000000) only [s118, ↓Za, ↓Zt, ↓Zy, ↓Zb, ↓Zc, ↓vdn, vup, cond_true, cond_false, aop, Zg, Zo, ev, sput, Zf, Yi, Yo, Nat.reduceBEq, Nat.reduceAdd, Zv, Xw, tup, tyf, frV, boxF, Yn, fA1, Xs (Zz h _), h1, h2, Bool.true_and, Bool.false_and]
      exact hE
  · simp (maxSteps := 2000000) only [s118, ↓Za, ↓Zt, ↓Zy, ↓Zb, ↓Zc, ↓vdn, vup, cond_true, cond_false, aop, Zg, Zo, ev, sput, Zf, Yi, Yo, Nat.reduceBEq, Nat.reduceAdd, Zv, Xw, tup, tyf, frV, boxF, Yn, fA1, Xs (Zz h _), h1, Bool.false_and]
    exact hE

theorem s107_callW [Tabs Try.prog] {args : List Value} {h : Zh} {Q : Value → Zh → Prop} (hsz : args.length ≤ 20) (hk : AWS Try.prog 20 s107 (Zv Try.prog [.tmp 4] Q) (Zo 0 args) h) : ACall Try.prog 107 args h Q :=
  Yr Try.func107 rfl (enters_of Try.func107 (by kernel_rfl) rfl) rfl rfl (by decide) s107_strip s107_ok hsz hk
theorem chance_call [Tabs prog] {h : Zh} {x y m : Int} (hm : m < 9223372036854775808) : Xc prog 107 [frV x y, Zd m] h (.bool (chB m (x, y))) := by
  have hE : Ext (fun _ => False) h (h ++ [fC x y]) := Ext.app _ _ _
  refine ACall.forget (Low.bool _) ?_
  refine s107_callW (by simp) ?_
  refine Zi ?_
  simp (maxSteps := 2000000) only [s107, ↓Za, ↓Zt, ↓Zb, ↓Zc, vup, List.map_cons, List.map_nil, cond_true, cond_false, aop, Zg, Zo, ev, sput, Zf, Nat.reduceBEq, Nat.reduceAdd, frV, boxF, Yn, Wi (Zz h _), Yt, List.nil_append, List.append_nil]
  refine (show Xc prog 118 [.agg #[Zd x, Zd y], Zd m] (h ++ [Blk.cells [Zd x, Zd y] 26 false]) _ from lowest_call hm).mono ?_
  rintro _ _ ⟨rfl, rfl⟩
  rw [chB]
  cases hl : (decide (1 ≤ y) && (decide (y ≤ m) && (Nat.gcd x.natAbs y.natAbs == 1))) with
  | false =>
    simp (maxSteps := 2000000) only [↓Zy, ↓Zb, ↓Zc, ↓vdn, vup, cond_true, cond_false, aop, Zg, ev, sput, Zf, Nat.reduceBEq, Zv, Xw, tup, Bool.false_and]
    exact hE
  | true =>
    by_cases h1 : 0 ≤ x
    · simp (maxSteps := 2000000) only [↓Zy, ↓Zb, ↓Zc, ↓vdn, vup, cond_true, cond_false, aop, Zg, ev, sput, Zf, Yi, Yo, Nat.reduceBEq, Zv, Xw, tup, tyf, fA0, fA1, Wh (Zz h _), Xs (Zz h _), h1, Bool.true_and]
      exact hE
    · simp (maxSteps := 2000000) only [↓Zy, ↓Zb, ↓Zc, ↓vdn, vup, cond_true, cond_false, aop, Zg, ev, sput, Zf, Yi, Yo, Nat.reduceBEq, Zv, Xw, tup, tyf, fA0, Wh (Zz h _), h1, Bool.true_and, Bool.false_and]
      exact hE
end Go.Proofs.Try.Am

namespace Go.Proofs.Try.Am
open Go.Am
set_option maxRecDepth 100000
/-! 116: slices.IndexFunc[[]planchet api.Frac,planchet api.Frac] -/
@[reducible] def q116_0 : SCode := .region [⟨some 4, .assign (.const (.int .i64 0)), none⟩]
@[reducible] def q116_1 : SCode := .region [⟨some 6, .move (.tmp 0), none⟩,
    ⟨some 7, .call { callee := .builtin .len, args := #[.tmp 6], argTypes := #[47] }, none⟩,
    ⟨some 8, .move (.const (.int .i64 0)), none⟩]
@[reducible] def q116_2 : SCode := .region [⟨some 9, .binOp .lss 3 (.tmp 8) (.tmp 7) 3, none⟩]
@[reducible] def q116_3 : SCode := .region [⟨some 10, .move (.tmp 8), none⟩,
    ⟨some 5, .assign (.tmp 10), none⟩]
@[reducible] def q116_4 : SCode := .region [⟨some 11, .move (.tmp 1), none⟩,
    ⟨some 12, .move (.tmp 0), none⟩,
    ⟨some 13, .move (.tmp 5), none⟩,
    ⟨some 14, .indexAddr 47 (.tmp 12) (.tmp 13), none⟩,
    ⟨some 15, .load 26 (.tmp 14), none⟩,
    ⟨some 16, .call { callee := .value (.tmp 11), args := #[.tmp 15], argTypes := #[26] }, none⟩]
@[reducible] def q116_5 : SCode := .region [⟨some 17, .move (.tmp 5), none⟩,
    ⟨some 4, .assign (.tmp 17), none⟩]
@[reducible] def q116_6 : SCode := .region [⟨some 18, .binOp .add 3 (.tmp 8) (.const (.int .i64 1)) 3, none⟩,
    ⟨some 8, .move (.tmp 18), none⟩]
def l116_0 : SCode := (.seq q116_2 (.seq (.cond (.tmp 9) .skip (.exit 0)) (.seq (.block 1 (.seq q116_3 (.seq q116_4 (.cond (.tmp 16) (.seq q116_5 .ret) .skip)))) q116_6)))
@[reducible] def q116_7 : SCode := .region [⟨some 4, .assign (.const (.int .i64 (-1))), none⟩]
def s116 : SCode := (.seq q116_0 (.seq (.seq q116_1 (.block 0 (.loop l116_0))) (.seq q116_7 .ret)))
theorem s116_strip : Yc (Zx Try.f116) = s116 := by kernel_rfl
theorem s116_ok : Yp 19 (Zx Try.f116) = true := by kernel_rfl
/-! 34: planchet planchetref09.Multiple -/
@[reducible] def q34_0 : SCode := .region [⟨some 2, .assign (.const (.int .i64 0)), none⟩]
@[reducible] def q34_1 : SCode := .region [⟨some 3, .assign (.const (.int .i64 1)), none⟩]
@[reducible] def q34_2 : SCode := .region [⟨some 8, .move (.tmp 0), none⟩,
    ⟨some 9, .call { callee := .builtin .len, args := #[.tmp 8], argTypes := #[47] }, none⟩,
    ⟨some 10, .move (.const (.int .i64 0)), none⟩]
@[reducible] def q34_3 : SCode := .region [⟨some 11, .binOp .lss 3 (.tmp 10) (.tmp 9) 3, none⟩]
@[reducible] def q34_4 : SCode := .region [⟨some 12, .indexAddr 47 (.tmp 8) (.tmp 10), none⟩,
    ⟨some 13, .load 26 (.tmp 12), none⟩,
    ⟨some 5, .alloc 26, none⟩,
    ⟨none, .store 26 (.tmp 5) (.tmp 13), none⟩]
def q34_5 : SCode := .draw [⟨some 14, .fieldAddr 26 (.tmp 5) 1, none⟩,
    ⟨some 15, .load 3 (.tmp 14), none⟩,
    ⟨some 16, .binOp .lss 3 (.tmp 15) (.const (.int .i64 1)) 3, none⟩,
    ⟨some 17, .move (.tmp 16), none⟩,
    ⟨some 18, .fieldAddr 26 (.tmp 5) 1, some (17, false)⟩,
    ⟨some 19, .load 3 (.tmp 18), some (17, false)⟩,
    ⟨some 20, .binOp .gtr 3 (.tmp 19) (.const (.int .i64 10000000000)) 3, some (17, false)⟩,
    ⟨some 21, .pick (.tmp 17) (.const (.bool true)) (.tmp 20), none⟩,
    ⟨some 22, .move (.tmp 21), none⟩,
    ⟨some 23, .fieldAddr 26 (.tmp 5) 0, some (22, false)⟩,
    ⟨some 24, .load 3 (.tmp 23), some (22, false)⟩,
    ⟨some 25, .binOp .lss 3 (.tmp 24) (.const (.int .i64 0)) 3, some (22, false)⟩,
    ⟨some 26, .pick (.tmp 22) (.const (.bool true)) (.tmp 25), none⟩,
    ⟨some 27, .move (.tmp 26), none⟩,
    ⟨some 28, .fieldAddr 26 (.tmp 5) 0, some (27, false)⟩,
    ⟨some 29, .load 3 (.tmp 28), some (27, false)⟩,
    ⟨some 30, .fieldAddr 26 (.tmp 5) 1, some (27, false)⟩,
    ⟨some 31, .load 3 (.tmp 30), some (27, false)⟩,
    ⟨some 32, .call { callee := .value (.func 68), args := #[.tmp 29, .tmp 31], argTypes := #[3, 3] }, some (27, false)⟩,
    ⟨some 33, .load 26 (.tmp 5), some (27, false)⟩,
    ⟨some 34, .binOp .neq 26 (.tmp 32) (.tmp 33) 26, some (27, false)⟩,
    ⟨some 35, .pick (.tmp 27) (.const (.bool true)) (.tmp 34), none⟩]
   [[], [0], [1], [2], [3], [4, 3], [5, 3], [3, 6], [7, 3], [8], [9, 8], [10, 8], [8, 11], [12, 8], [13], [14, 13], [13], [16, 13], [15, 17, 13, 13], [13], [18, 19, 13], [13, 20]]
@[reducible] def q34_6 : SCode := .region [⟨some 2, .assign (.const (.int .i64 0)), none⟩]
def q34_7 : SCode := .draw [⟨some 36, .move (.tmp 3), none⟩,
    ⟨some 37, .fieldAddr 26 (.tmp 5) 1, none⟩,
    ⟨some 38, .load 3 (.tmp 37), none⟩,
    ⟨some 6, .assign (.tmp 36), none⟩,
    ⟨some 7, .assign (.tmp 38), none⟩]
   [[], [], [1], [0, 0], [2, 3, 0, 1, 2, 3]]
@[reducible] def q34_8 : SCode := .region [⟨some 39, .move (.tmp 7), none⟩,
    ⟨some 40, .binOp .neq 3 (.tmp 39) (.const (.int .i64 0)) 3, none⟩]
def q34_9 : SCode := .draw [⟨some 41, .move (.tmp 7), none⟩,
    ⟨some 42, .move (.tmp 6), none⟩,
    ⟨some 43, .move (.tmp 7), none⟩,
    ⟨some 44, .binOp .rem 3 (.tmp 42) (.tmp 43) 3, none⟩,
    ⟨some 6, .assign (.tmp 41), none⟩,
    ⟨some 7, .assign (.tmp 44), none⟩]
   [[], [], [], [1, 2], [0, 0, 1], [3, 4, 0, 1, 2, 3, 4]]
def l34_0 : SCode := (.seq (.seq q34_8 (.cond (.tmp 40) .skip (.exit 2))) (.block 3 q34_9))
def q34_10 : SCode := .draw [⟨some 45, .move (.tmp 3), none⟩,
    ⟨some 46, .move (.tmp 6), none⟩,
    ⟨some 47, .binOp .quo 3 (.tmp 45) (.tmp 46) 3, none⟩,
    ⟨some 48, .fieldAddr 26 (.tmp 5) 1, none⟩,
    ⟨some 49, .load 3 (.tmp 48), none⟩,
    ⟨some 50, .binOp .quo 3 (.const (.int .i64 10000000000)) (.tmp 49) 3, none⟩,
    ⟨some 51, .binOp .gtr 3 (.tmp 47) (.tmp 50) 3, none⟩]
   [[], [], [0, 1], [], [3], [4], [2, 5]]
@[reducible] def q34_11 : SCode := .region [⟨some 2, .assign (.const (.int .i64 0)), none⟩]
def q34_12 : SCode := .draw [⟨some 52, .move (.tmp 3), none⟩,
    ⟨some 53, .move (.tmp 6), none⟩,
    ⟨some 54, .binOp .quo 3 (.tmp 52) (.tmp 53) 3, none⟩,
    ⟨some 55, .fieldAddr 26 (.tmp 5) 1, none⟩,
    ⟨some 56, .load 3 (.tmp 55), none⟩,
    ⟨some 57, .binOp .mul 3 (.tmp 54) (.tmp 56) 3, none⟩,
    ⟨some 3, .assign (.tmp 57), none⟩]
   [[], [], [0, 1], [], [3], [2, 4], [5, 0, 1, 2, 3, 4, 5]]
@[reducible] def q34_13 : SCode := .region [⟨some 58, .binOp .add 3 (.tmp 10) (.const (.int .i64 1)) 3, none⟩,
    ⟨some 10, .move (.tmp 58), none⟩]
def l34_1 : SCode := (.seq q34_3 (.seq (.cond (.tmp 11) .skip (.exit 0)) (.seq (.block 1 (.seq q34_4 (.seq (.seq q34_5 (.cond (.tmp 35) (.seq q34_6 .ret) .skip)) (.seq q34_7 (.seq (.block 2 (.loop l34_0)) (.seq (.seq q34_10 (.cond (.tmp 51) (.seq q34_11 .ret) .skip)) q34_12)))))) q34_13)))
@[reducible] def q34_14 : SCode := .region [⟨some 59, .move (.tmp 3), none⟩,
    ⟨some 2, .assign (.tmp 59), none⟩]
def s34 : SCode := (.seq q34_0 (.seq q34_1 (.seq (.seq q34_2 (.block 0 (.loop l34_1))) (.seq q34_14 .ret))))
theorem s34_strip : Yc (Zx Try.f34) = s34 := by kernel_rfl
theorem s34_ok : Yp 60 (Zx Try.f34) = true := by kernel_rfl
end Go.Proofs.Try.Am

namespace Go.Proofs.Try.Am
open Go.Am Bq
set_option maxRecDepth 100000
set_option maxHeartbeats 1000000

/-- Fractions within the range of ints. -/
def InR (ps : List (Int × Int)) : Prop := ∀ p ∈ ps, (-(2 ^ 63) ≤ p.1 ∧ p.1 < 2 ^ 63) ∧ -(2 ^ 63) ≤ p.2 ∧ p.2 < 2 ^ 63
theorem drop_getD {ps : List (Int × Int)} {k : Nat} (hk : k < ps.length) : ps.drop k = ps.getD k (0, 0) :: ps.drop (k + 1) := by
  rw [List.getD, List.getElem?_eq_getElem hk]; exact List.drop_eq_getElem_cons hk
theorem mulTo_no {p : Int × Int} {ps : List (Int × Int)} {m : Nat} (h : okP p = false) : mulTo (p :: ps) m = 0 := by rw [mulTo, h]; simp
theorem neq_frac {x y : Int} (h1 : 1 ≤ y) : (([(Rat.divInt x y).num, ((Rat.divInt x y).den : Int)] : List Int) != [x, y]) = !(Nat.gcd x.natAbs y.natAbs == 1) := by
  obtain ⟨n, rfl⟩ : ∃ n : Nat, y = n := ⟨y.toNat, by omega⟩
  have hn : 0 < n := by omega
  obtain ⟨t1, t2⟩ := terms (x := x) hn
  rw [bne, Int.natAbs_natCast]
  congr 1
  rw [Bool.eq_iff_iff, beq_iff_eq, beq_iff_eq, List.cons.injEq, List.cons.injEq]
  constructor
  · rintro ⟨_, h3, _⟩
    have h4 : n / Nat.gcd x.natAbs n = n := by rw [← t2] at h3; omega
    rcases Nat.lt_or_ge 1 (Nat.gcd x.natAbs n) with h5 | h5
    · have := Nat.div_lt_self hn h5; omega
    · have := Nat.gcd_pos_of_pos_right x.natAbs hn; omega
  · intro h3
    rw [← t1, ← t2, h3]; simp

/-- Whether what is common is too great. -/
theorem lcm_gt {m n : Nat} (hm : 0 < m) (hn : 0 < n) : (10000000000 / n < m / Nat.gcd m n) ↔ 10000000000 < Nat.lcm m n := by
  have e : Nat.lcm m n = m / Nat.gcd m n * n := by rw [Nat.lcm, Nat.div_mul_right_comm (Nat.gcd_dvd_left _ _)]
  rw [e]; exact Nat.div_lt_iff_lt_mul hn
theorem lcm_gt' {m n : Nat} (hm : 0 < m) (hn : 0 < n) : (10000000000 / (n / Nat.gcd m n) < m) ↔ 10000000000 < Nat.lcm m n := by
  have hg := Nat.gcd_pos_of_pos_left n hm
  have e : Nat.lcm m n = m * (n / Nat.gcd m n) := by rw [Nat.lcm, Nat.mul_div_assoc _ (Nat.gcd_dvd_right _ _)]
  rw [e]; exact Nat.div_lt_iff_lt_mul (Nat.div_pos (Nat.le_of_dvd hn (Nat.gcd_dvd_right _ _)) hg)

theorem s34_callW [Tabs Try.prog] {args : List Value} {h : Zh} {Q : Value → Zh → Prop} (hsz : args.length ≤ 60) (hk : AWS Try.prog 60 s34 (Zv Try.prog [.tmp 2] Q) (Zo 0 args) h) : ACall Try.prog 34 args h Q :=
  Yr Try.func34 rfl (enters_of Try.func34 (by kernel_rfl) rfl) rfl rfl (by decide) s34_strip s34_ok hsz hk
theorem mult_call [Tabs prog] {h : Zh} {v : Value} {ps : List (Int × Int)} (hv : PairSl h v ps) (hl : ps.length < 9223372036854775808) (hx : InR ps) : Xc prog 34 [v] h (Zd (Wb ps : Nat)) := by
  refine ACall.forget (Low.int _ _) ?_
  refine s34_callW (by simp) ?_
  simp only [s34]
  refine Ze fun N1 hN1 => ?_
  simp (maxSteps := 2000000) only [↓Za, ↓Zb, ↓Zc, vup, cond_false, aop, Zg, Zo, ev, sput, Zf, Nat.reduceBEq]
  refine hN1 [(0, v), (2, .int .i64 0)] _ _ ?_ (by simp (maxSteps := 2000000) only [vup, cond_true, cond_false, Nat.reduceBEq])
  clear hN1
  try clear N1
  refine Ze fun N2 hN2 => ?_
  simp (maxSteps := 2000000) only [↓Za, ↓Zb, ↓Zc, vup, cond_false, aop, Zg, ev, sput, Zf, Nat.reduceBEq]
  refine hN2 [(0, v), (2, .int .i64 0), (3, .int .i64 1)] _ _ ?_ (by simp (maxSteps := 2000000) only [vup, cond_true, cond_false, Nat.reduceBEq])
  clear hN2
  try clear N2
  refine Zn fun M hM => ?_
  refine Ze fun N3 hN3 => ?_
  simp (maxSteps := 2000000) only [↓Za, ↓Zb, ↓Zc, vup, List.map_cons, List.map_nil, cond_true, cond_false, aop, Zg, ev, sput, Zf, Zl, Nat.reduceBEq, tyf, hv.len]
  refine hN3 [(0, v), (2, .int .i64 0), (3, .int .i64 1), (8, v), (9, Zd ps.length), (10, .int .i64 0)] _ _ ?_ (by simp (maxSteps := 2000000) only [vup, cond_true, cond_false, Nat.reduceBEq])
  clear hN3
  try clear N3
  refine Zp ?_
  refine Ya fun Q hQ => ?_
  refine Xb (γ := Nat × Nat × Zh) (fun s => s.1 ≤ ps.length ∧ 0 < s.2.1 ∧ s.2.1 ≤ 10000000000 ∧ mulTo (ps.drop s.1) s.2.1 = Wb ps ∧ Ext (fun _ => False) h s.2.2)
    (fun s => ([(0, v), (2, .int .i64 0), (3, Zd (s.2.1 : Nat)), (8, v), (9, Zd ps.length), (10, Zd (s.1 : Nat))], s.2.2)) (fun s => ps.length - s.1) (0, 1, h) ⟨Nat.zero_le _, Nat.one_pos, (by decide : (1 : Nat) ≤ 10000000000), rfl, Ext.refl _ _⟩ (by simp (maxSteps := 2000000) only [vup, cond_true, cond_false, Nat.reduceBEq, Int.natCast_zero, Int.natCast_one]) rfl ?_
  rintro ⟨k, m, hp⟩ ⟨hk, hm0, hm, hmul, hE⟩
  simp only at hk hm0 hm hmul hE
  refine Ya fun Q2 hQ2 => ?_
  simp only [l34_1]
  by_cases hin : (k : Int) < ps.length
  · have hk' : k < ps.length := by omega
    have hvp := hv.ext hE
    obtain ⟨⟨x, y⟩, hxy⟩ : ∃ p, ps.getD k (0, 0) = p := ⟨_, rfl⟩
    have hmem : (x, y) ∈ ps := hxy ▸ Wn hk'
    have hr := hx _ hmem
    simp only at hr
    have hdr := drop_getD hk'
    rw [hxy] at hdr
    rw [hdr] at hmul
    refine Ze fun N4 hN4 => ?_
    simp (maxSteps := 2000000) only [↓Za, ↓Zb, ↓Zc, vup, cond_true, cond_false, aop, Zg, ev, sput, Zf, Yi, Yo, Nat.reduceBEq, hin]
    refine hN4 [(0, v), (2, .int .i64 0), (3, Zd (m : Nat)), (8, v), (9, Zd ps.length), (10, Zd (k : Nat)), (11, .bool true)] _ _ ?_ (by simp (maxSteps := 2000000) only [vup, cond_true, cond_false, Nat.reduceBEq])
    clear hN4
    try clear N4
    refine Ze fun N5 hN5 => ?_
    simp (maxSteps := 2000000) only [↓Zw, ↓vdn, vup, cond_true, cond_false, Zg, ev, Nat.reduceBEq]
    refine hN5 [(0, v), (2, .int .i64 0), (3, Zd (m : Nat)), (8, v), (9, Zd ps.length), (10, Zd (k : Nat))] _ _ ?_ (by simp (maxSteps := 2000000) only [vup, cond_true, cond_false, Nat.reduceBEq])
    clear hN5
    try clear N5
    obtain ⟨H, hH⟩ : ∃ H, H = hp ++ [fC x y] := ⟨_, rfl⟩
    have c5 : H[hp.length]? = some (fC x y) := by rw [hH]; exact Zz _ _
    have hEH : Ext (fun _ => False) h H := by rw [hH]; exact hE.trans (Ext.app _ _ _)
    refine Zn fun B hB => ?_
    refine Zp ?_
    refine Ze fun N6 hN6 => ?_
    simp (maxSteps := 2000000) only [↓Za, ↓Zb, ↓Zc, vup, cond_true, cond_false, aop, Zg, ev, sput, Zf, Nat.reduceBEq, tyf, hvp.idx el_47 Vg hk', hvp.load shp_26 hk', hxy, Xl, Yn, Xz (Zz hp z0) rfl, Xy]
    rw [← hH]
    refine hN6 [(0, v), (2, .int .i64 0), (3, Zd (m : Nat)), (5, .pointer (some ⟨hp.length, 0, none⟩)), (8, v), (9, Zd ps.length), (10, Zd (k : Nat))] _ _ ?_ (by simp (maxSteps := 2000000) only [vup, cond_true, cond_false, Nat.reduceBEq])
    clear hN6
    try clear N6
    have none0 : Wb ps = 0 → ∀ e, sget e 2 = .int .i64 0 → Q2 .ret e H := by
      intro h0 e he
      refine hQ2 _ _ _ (hQ _ _ _ ?_)
      simp (maxSteps := 2000000) only [vup, Zg, Zs, Zv, Xw, tup, he, h0, Int.natCast_zero]
      exact hEH
    refine Ze fun C hC => ?_
    simp only [q34_5]
    refine aw_cut fun D hD => ?_
    refine Xj [(18, 1)] (by kernel_rfl) (by kernel_rfl) (by kernel_rfl) (by kernel_rfl) ?_
    have bad : okP (x, y) = false → ∀ e, sget e 35 = .bool true → D e H := by
      intro hok e he
      have h0 : Wb ps = 0 := by rw [← hmul, mulTo_no hok]
      refine hD _ _ ?_
      simp (maxSteps := 2000000) only [↓Za, ↓Zt, ↓Zy, ↓Zb, ↓Zc, ↓vdn, vup, aop, Zg, Zs, ev, Zf, he]
      exact none0 h0 _ (by simp [Vj])
    by_cases h1 : y < 1
    · simp (maxSteps := 2000000) only [↓Yh, ↓vdn, vup, cond_true, cond_false, aop, Zg, ev, sput, Zf, Yi, Yo, pickK, Nat.reduceBEq, Nat.reduceAdd, tyf, fA1, Xs c5, h1]
      exact bad (by simp [okP]; omega) _ rfl
    by_cases h2 : y > 10000000000
    · simp (maxSteps := 2000000) only [↓Yh, ↓vdn, vup, cond_true, cond_false, aop, Zg, ev, sput, Zf, Yi, Yo, pickK, Nat.reduceBEq, Nat.reduceAdd, tyf, fA1, Xs c5, h1, h2]
      exact bad (by simp [okP]; omega) _ rfl
    by_cases h3 : x < 0
    · simp (maxSteps := 2000000) only [↓Yh, ↓vdn, vup, cond_true, cond_false, aop, Zg, ev, sput, Zf, Yi, Yo, pickK, Nat.reduceBEq, Nat.reduceAdd, tyf, fA1, fA0, Xs c5, Wh c5, h1, h2, h3]
      exact bad (by simp [okP]; omega) _ rfl
    have rf := rfrac_call (h := H) (a := x) (b := y) (by omega) (by omega) (by omega)
    simp (maxSteps := 2000000) only [↓Yh, ↓vdn, vup, List.map_cons, List.map_nil, cond_true, cond_false, aop, Zg, ev, sput, Zf, Yi, Yo, pickK, Nat.reduceBEq, Nat.reduceAdd, tyf, fA1, fA0, Xs c5, Wh c5, h1, h2, h3, Yt, List.nil_append, List.append_nil]
    refine ⟨_, _, rf, rfl, ?_⟩
    simp (maxSteps := 2000000) only [vup, Nat.reduceAdd, qV, frV, Wi c5, Xa, Option.map_some, List.length_cons, List.length_nil, Nat.zero_add, eqF, neq_frac (show 1 ≤ y by omega)]
    cases hg : (Nat.gcd x.natAbs y.natAbs == 1) with
    | false => exact bad (by simp [okP, hg]) _ rfl
    | true =>
      refine hD _ _ ?_
      have hok : okP (x, y) = true := by simp [okP, hg]; omega
      obtain ⟨n, hn⟩ : ∃ n : Nat, y = n := ⟨y.toNat, by omega⟩
      subst hn
      have hn0 : 0 < n := by omega
      simp (maxSteps := 2000000) only [↓Zw, ↓vdn, vup, cond_true, cond_false, Zg, ev, Nat.reduceBEq]
      refine hC [(0, v), (2, .int .i64 0), (3, Zd (m : Nat)), (5, .pointer (some ⟨hp.length, 0, none⟩)), (8, v), (9, Zd ps.length), (10, Zd (k : Nat))] _ _ ?_ (by simp (maxSteps := 2000000) only [vup, cond_true, cond_false, Nat.reduceBEq])
      clear hC
      try clear C
      refine Ze fun N7 hN7 => ?_
      simp only [q34_7]
      refine Xj [] (by kernel_rfl) (by kernel_rfl) (by kernel_rfl) (by kernel_rfl) ?_
      simp (maxSteps := 2000000) only [↓Yh, ↓vdn, vup, cond_true, cond_false, aop, Zg, ev, sput, Zf, Nat.reduceBEq, Nat.reduceAdd, fA1, Xs c5]
      refine hN7 [(0, v), (2, .int .i64 0), (3, Zd (m : Nat)), (5, .pointer (some ⟨hp.length, 0, none⟩)), (6, Zd (m : Nat)), (7, Zd (n : Nat)), (8, v), (9, Zd ps.length), (10, Zd (k : Nat))] _ _ ?_ (by simp (maxSteps := 2000000) only [vup, cond_true, cond_false, Nat.reduceBEq])
      clear hN7
      try clear N7
      refine Zn fun G hG => ?_
      refine Zp ?_
      refine Ya fun Q3 hQ3 => ?_
      refine Xb (γ := Nat × Nat) (fun s => Nat.gcd s.1 s.2 = Nat.gcd m n ∧ s.1 < 9223372036854775808 ∧ s.2 < 9223372036854775808)
        (fun s => ([(0, v), (2, .int .i64 0), (3, Zd (m : Nat)), (5, .pointer (some ⟨hp.length, 0, none⟩)), (6, Zd (s.1 : Nat)), (7, Zd (s.2 : Nat)), (8, v), (9, Zd ps.length), (10, Zd (k : Nat))], H)) (fun s => s.2) (m, n) ⟨rfl, by simp only; omega, by simp only; omega⟩ (by simp (maxSteps := 2000000) only [vup, cond_true, cond_false, Nat.reduceBEq]) rfl ?_
      rintro ⟨u, w⟩ ⟨huw, hu, hw⟩
      simp only at huw hu hw
      refine Ya fun Q4 hQ4 => ?_
      simp only [l34_0]
      by_cases hw0 : w = 0
      · subst hw0
        have e0 : (((0 : Nat) : Int) != 0) = false := rfl
        rw [Nat.gcd_zero_right] at huw
        subst huw
        refine Ze fun N8 hN8 => ?_
        simp (maxSteps := 2000000) only [↓Za, ↓Zt, ↓Xh, ↓Zb, ↓Zc, ↓vdn, vup, cond_true, cond_false, aop, Zg, ev, sput, Zf, Yi, Yo, Nat.reduceBEq, e0]
        refine hQ4 _ _ _ (hQ3 _ _ _ ?_)
        simp (maxSteps := 2000000) only [Zg, Zs, if_true]
        refine hG [(0, v), (2, .int .i64 0), (3, Zd (m : Nat)), (5, .pointer (some ⟨hp.length, 0, none⟩)), (6, Zd (Nat.gcd m n : Nat)), (8, v), (9, Zd ps.length), (10, Zd (k : Nat))] _ _ ?_ (by simp (maxSteps := 2000000) only [vup, cond_true, cond_false, Nat.reduceBEq])
        clear hG
        try clear G
        have hgp := Nat.gcd_pos_of_pos_left n hm0
        have hg0 : ¬ ((Nat.gcd m n : Nat) : Int) = 0 := by omega
        have q1 := quoD (x := m) (show m < 9223372036854775808 by omega) (Nat.gcd_dvd_left m n)
        have q2 : quoV .i64 10000000000 ((n : Nat) : Int) = ((10000000000 / n : Nat) : Int) := by
          have h5 : (10000000000 : Int).tdiv ((n : Nat) : Int) = ((10000000000 / n : Nat) : Int) := by rw [Int.tdiv_eq_ediv_of_nonneg (by omega)]; rfl
          have h6 := Nat.div_le_self 10000000000 n
          rw [quoV, h5]
          generalize 10000000000 / n = z at h6 ⊢
          exact wrap_id (by omega) (by omega)
        have hn0' : ¬ ((n : Nat) : Int) = 0 := by omega
        have el : Nat.lcm m n = m / Nat.gcd m n * n := by rw [Nat.lcm, Nat.div_mul_right_comm (Nat.gcd_dvd_left _ _)]
        have hgt := lcm_gt hm0 hn0
        rw [mulTo] at hmul
        refine Ze fun K hK => ?_
        simp only [q34_10]
        refine aw_cut fun D hD => ?_
        refine Xj [] (by kernel_rfl) (by kernel_rfl) (by kernel_rfl) (by kernel_rfl) ?_
        by_cases hbig : 10000000000 < Nat.lcm m n
        · have hb2 : ((m / Nat.gcd m n : Nat) : Int) > ((10000000000 / n : Nat) : Int) := by have := hgt.2 hbig; omega
          rw [if_neg (by rw [Int.natAbs_natCast]; omega)] at hmul
          simp (maxSteps := 2000000) only [↓Yh, ↓vdn, vup, cond_true, cond_false, aop, Zg, ev, sput, Zf, Yi, Yo, Nat.reduceBEq, Nat.reduceAdd, tyf, fA1, Xs c5, ne_eq, hg0, hn0', not_false_eq_true, q1, q2, hb2]
          refine hD _ _ ?_
          simp (maxSteps := 2000000) only [↓Za, ↓Zt, ↓Zy, ↓Zb, ↓Zc, ↓vdn, vup, cond_true, cond_false, aop, Zg, Zs, ev, sput, Zf, Nat.reduceBEq]
          exact none0 hmul.symm _ rfl
        · have hb2 : ¬ ((m / Nat.gcd m n : Nat) : Int) > ((10000000000 / n : Nat) : Int) := by
            intro hc
            exact hbig (hgt.1 (by omega))
          rw [if_pos ⟨hok, by rw [Int.natAbs_natCast]; omega⟩, Int.natAbs_natCast] at hmul
          simp (maxSteps := 2000000) only [↓Yh, ↓vdn, vup, cond_true, cond_false, aop, Zg, ev, sput, Zf, Yi, Yo, Nat.reduceBEq, Nat.reduceAdd, tyf, fA1, Xs c5, ne_eq, hg0, hn0', not_false_eq_true, q1, q2, hb2]
          refine hD _ _ ?_
          simp (maxSteps := 2000000) only [↓Zw, ↓vdn, vup, cond_true, cond_false, Zg, ev, Nat.reduceBEq]
          refine hK [(0, v), (2, .int .i64 0), (3, Zd (m : Nat)), (5, .pointer (some ⟨hp.length, 0, none⟩)), (6, Zd (Nat.gcd m n : Nat)), (8, v), (9, Zd ps.length), (10, Zd (k : Nat))] _ _ ?_ (by simp (maxSteps := 2000000) only [vup, cond_true, cond_false, Nat.reduceBEq])
          clear hK
          try clear K
          have m1 : mulV .i64 ((m / Nat.gcd m n : Nat) : Int) (n : Int) = ((Nat.lcm m n : Nat) : Int) := by
            rw [mulN (by rw [← Int.natCast_mul, ← el]; omega), el, Int.natCast_mul]
          refine Zi ?_
          simp only [q34_12]
          refine Xj [] (by kernel_rfl) (by kernel_rfl) (by kernel_rfl) (by kernel_rfl) ?_
          simp (maxSteps := 2000000) only [↓Yh, ↓vdn, vup, cond_true, cond_false, aop, Zg, Zs, ev, sput, Zf, Yi, Yo, Nat.reduceBEq, Nat.reduceAdd, tyf, fA1, Xs c5, ne_eq, hg0, not_false_eq_true, q1, m1]
          refine hB [(0, v), (2, .int .i64 0), (3, Zd (Nat.lcm m n : Nat)), (8, v), (9, Zd ps.length), (10, Zd (k : Nat))] _ _ ?_ (by simp (maxSteps := 2000000) only [vup, cond_true, cond_false, Nat.reduceBEq])
          clear hB
          try clear B
          refine Zi ?_
          simp (maxSteps := 2000000) only [↓Za, ↓Zb, ↓Zc, vup, cond_true, cond_false, aop, ev, sput, Zf, Yi, Yo, Nat.reduceBEq, add1 (show k < 9223372036854775807 by omega)]
          exact hQ2 _ _ _ ⟨(k + 1, Nat.lcm m n, H), ⟨hk', Nat.lcm_pos hm0 hn0, by simp only; omega, hmul, hEH⟩, by simp only; omega, by simp (maxSteps := 2000000) only [vup, cond_true, cond_false, Nat.reduceBEq], rfl⟩
      · have e0 : (((w : Nat) : Int) != 0) = true := by
          have : ((w : Nat) : Int) ≠ 0 := by omega
          simpa using this
        have e1 : ¬ ((w : Nat) : Int) = 0 := by omega
        have etm : ((u : Nat) : Int).tmod ((w : Nat) : Int) = ((u % w : Nat) : Int) := by rw [Int.tmod_eq_emod_of_nonneg (by omega)]; rfl
        have hlt := Nat.mod_lt u (show w > 0 by omega)
        refine Ze fun N9 hN9 => ?_
        simp (maxSteps := 2000000) only [↓Za, ↓Zw, ↓Zt, ↓Zb, ↓Zc, ↓vdn, vup, cond_true, cond_false, aop, Zg, ev, sput, Zf, Yi, Yo, Nat.reduceBEq, e0]
        refine hN9 [(0, v), (2, .int .i64 0), (3, Zd (m : Nat)), (5, .pointer (some ⟨hp.length, 0, none⟩)), (6, Zd (u : Nat)), (7, Zd (w : Nat)), (8, v), (9, Zd ps.length), (10, Zd (k : Nat))] _ _ ?_ (by simp (maxSteps := 2000000) only [vup, cond_true, cond_false, Nat.reduceBEq])
        clear hN9
        try clear N9
        refine Zi ?_
        simp only [q34_9, aw_block]
        refine Xj [] (by kernel_rfl) (by kernel_rfl) (by kernel_rfl) (by kernel_rfl) ?_
        simp (maxSteps := 2000000) only [↓Yh, ↓vdn, vup, cond_true, cond_false, aop, Zs, ev, sput, Zf, Yi, Yo, Nat.reduceBEq, ne_eq, e1, not_false_eq_true, etm]
        refine hQ4 _ _ _ ⟨(w, u % w), ⟨?_, hw, by simp only; omega⟩, hlt, by simp (maxSteps := 2000000) only [vup, cond_true, cond_false, Nat.reduceBEq], rfl⟩
        simp only
        rw [← huw, Nat.gcd_comm u w, Nat.gcd_rec w u, Nat.gcd_comm]
  · obtain rfl : k = ps.length := by omega
    rw [List.drop_length, mulTo] at hmul
    refine Ze fun N10 hN10 => ?_
    simp (maxSteps := 2000000) only [↓Za, ↓Zb, ↓Zc, vup, cond_true, cond_false, aop, Zg, ev, sput, Zf, Yi, Yo, Nat.reduceBEq, hin]
    refine hN10 [(0, v), (2, .int .i64 0), (3, Zd (m : Nat)), (8, v), (9, Zd ps.length), (10, Zd ps.length), (11, .bool false)] _ _ ?_ (by simp (maxSteps := 2000000) only [vup, cond_true, cond_false, Nat.reduceBEq])
    clear hN10
    try clear N10
    refine Ze fun N11 hN11 => ?_
    simp (maxSteps := 2000000) only [↓Xh, ↓vdn, vup, cond_true, cond_false, Zg, ev, Nat.reduceBEq]
    refine hQ2 _ _ _ (hQ _ _ _ ?_)
    simp (maxSteps := 2000000) only [Zg, Zs, Zv, if_true]
    refine hM [(0, v), (2, .int .i64 0), (3, Zd (m : Nat)), (8, v), (9, Zd ps.length), (10, Zd ps.length), (11, .bool false)] _ _ ?_ (by simp (maxSteps := 2000000) only [vup, cond_true, cond_false, Nat.reduceBEq])
    clear hM
    try clear M
    refine Zi ?_
    simp (maxSteps := 2000000) only [↓Za, ↓Zt, ↓Zy, ↓Zb, ↓Zc, vup, cond_true, cond_false, aop, Zg, ev, sput, Zf, Nat.reduceBEq, Zv, Xw, tup, hmul]
    exact hE
end Go.Proofs.Try.Am

namespace Go.Proofs.Try.Am
open Go.Am
set_option maxRecDepth 100000
/-! 18: planchet planchetlaw09.Of -/
@[reducible] def q18_0 : SCode := .region [⟨some 2, .assign (.const (.slice none 0 0)), none⟩]
@[reducible] def q18_1 : SCode := .region [⟨some 3, .assign (.const (.slice none 0 0)), none⟩]
@[reducible] def q18_2 : SCode := .region [⟨some 6, .move (.tmp 0), none⟩,
    ⟨some 7, .call { callee := .builtin .len, args := #[.tmp 6], argTypes := #[22] }, none⟩,
    ⟨some 8, .move (.const (.int .i64 0)), none⟩]
@[reducible] def q18_3 : SCode := .region [⟨some 9, .binOp .lss 3 (.tmp 8) (.tmp 7) 3, none⟩]
@[reducible] def q18_4 : SCode := .region [⟨some 10, .move (.tmp 8), none⟩,
    ⟨some 11, .indexAddr 22 (.tmp 6) (.tmp 8), none⟩,
    ⟨some 12, .load 24 (.tmp 11), none⟩,
    ⟨some 5, .alloc 24, none⟩,
    ⟨some 4, .assign (.tmp 10), none⟩,
    ⟨none, .store 24 (.tmp 5) (.tmp 12), none⟩]
@[reducible] def q18_5 : SCode := .region [⟨some 13, .move (.tmp 4), none⟩,
    ⟨some 14, .binOp .lss 3 (.tmp 13) (.const (.int .i64 9)) 3, none⟩]
@[reducible] def q18_6 : SCode := .region [⟨some 15, .move (.tmp 3), none⟩,
    ⟨some 16, .fieldAddr 24 (.tmp 5) 0, none⟩,
    ⟨some 17, .load 3 (.tmp 16), none⟩,
    ⟨some 18, .fieldAddr 24 (.tmp 5) 1, none⟩,
    ⟨some 19, .load 3 (.tmp 18), none⟩,
    ⟨some 20, .build 92 #[(0, .tmp 17), (1, .tmp 19)], none⟩,
    ⟨some 21, .buildSlice 30 1 #[(0, .tmp 20)], none⟩,
    ⟨some 22, .call { callee := .builtin .append, args := #[.tmp 15, .tmp 21], argTypes := #[30, 30] }, none⟩,
    ⟨some 3, .assign (.tmp 22), none⟩]
@[reducible] def q18_7 : SCode := .region [⟨some 23, .binOp .add 3 (.tmp 8) (.const (.int .i64 1)) 3, none⟩,
    ⟨some 8, .move (.tmp 23), none⟩]
def l18_0 : SCode := (.seq q18_3 (.seq (.cond (.tmp 9) .skip (.exit 0)) (.seq (.block 1 (.seq q18_4 (.seq q18_5 (.cond (.tmp 14) q18_6 .skip)))) q18_7)))
@[reducible] def q18_8 : SCode := .region [⟨some 24, .move (.tmp 3), none⟩,
    ⟨some 2, .assign (.tmp 24), none⟩]
def s18 : SCode := (.seq q18_0 (.seq q18_1 (.seq (.seq q18_2 (.block 0 (.loop l18_0))) (.seq q18_8 .ret))))
theorem s18_strip : Yc (Zx Try.f18) = s18 := by kernel_rfl
theorem s18_ok : Yp 25 (Zx Try.f18) = true := by kernel_rfl
/-! 20: planchet planchetref09.Bets -/
@[reducible] def q20_0 : SCode := .region [⟨some 4, .assign (.const (.bool false)), none⟩]
@[reducible] def q20_1 : SCode := .region [⟨some 9, .move (.tmp 0), none⟩,
    ⟨some 10, .call { callee := .value (.func 63), args := #[.tmp 9], argTypes := #[3] }, none⟩,
    ⟨some 11, .unOp .not 4 (.tmp 10), none⟩,
    ⟨some 12, .move (.tmp 11), none⟩,
    ⟨some 13, .move (.tmp 1), some (12, false)⟩,
    ⟨some 14, .call { callee := .builtin .len, args := #[.tmp 13], argTypes := #[22] }, some (12, false)⟩,
    ⟨some 15, .binOp .lss 3 (.tmp 14) (.const (.int .i64 1)) 3, some (12, false)⟩,
    ⟨some 16, .pick (.tmp 12) (.const (.bool true)) (.tmp 15), none⟩,
    ⟨some 17, .move (.tmp 16), none⟩,
    ⟨some 18, .move (.tmp 1), some (17, false)⟩,
    ⟨some 19, .call { callee := .builtin .len, args := #[.tmp 18], argTypes := #[22] }, some (17, false)⟩,
    ⟨some 20, .binOp .gtr 3 (.tmp 19) (.const (.int .i64 6)) 3, some (17, false)⟩,
    ⟨some 21, .pick (.tmp 17) (.const (.bool true)) (.tmp 20), none⟩]
@[reducible] def q20_2 : SCode := .region [⟨some 4, .assign (.const (.bool false)), none⟩]
@[reducible] def q20_3 : SCode := .region [⟨some 22, .move (.tmp 1), none⟩,
    ⟨some 23, .call { callee := .builtin .len, args := #[.tmp 22], argTypes := #[22] }, none⟩,
    ⟨some 24, .move (.const (.int .i64 0)), none⟩]
@[reducible] def q20_4 : SCode := .region [⟨some 25, .binOp .lss 3 (.tmp 24) (.tmp 23) 3, none⟩]
@[reducible] def q20_5 : SCode := .region [⟨some 26, .move (.tmp 24), none⟩,
    ⟨some 27, .indexAddr 22 (.tmp 22) (.tmp 24), none⟩,
    ⟨some 28, .load 24 (.tmp 27), none⟩,
    ⟨some 6, .alloc 24, none⟩,
    ⟨some 5, .assign (.tmp 26), none⟩,
    ⟨none, .store 24 (.tmp 6) (.tmp 28), none⟩]
@[reducible] def q20_6 : SCode := .region [⟨some 29, .move (.tmp 0), none⟩,
    ⟨some 30, .fieldAddr 24 (.tmp 6) 0, none⟩,
    ⟨some 31, .load 3 (.tmp 30), none⟩,
    ⟨some 32, .call { callee := .value (.func 25), args := #[.tmp 29, .tmp 31], argTypes := #[3, 3] }, none⟩,
    ⟨some 33, .unOp .not 4 (.tmp 32), none⟩,
    ⟨some 34, .move (.tmp 33), none⟩,
    ⟨some 35, .fieldAddr 24 (.tmp 6) 1, some (34, false)⟩,
    ⟨some 36, .load 3 (.tmp 35), some (34, false)⟩,
    ⟨some 37, .binOp .lss 3 (.tmp 36) (.const (.int .i64 0)) 3, some (34, false)⟩,
    ⟨some 38, .pick (.tmp 34) (.const (.bool true)) (.tmp 37), none⟩,
    ⟨some 39, .move (.tmp 38), none⟩,
    ⟨some 40, .fieldAddr 24 (.tmp 6) 1, some (39, false)⟩,
    ⟨some 41, .load 3 (.tmp 40), some (39, false)⟩,
    ⟨some 42, .binOp .gtr 3 (.tmp 41) (.const (.int .i64 12)) 3, some (39, false)⟩,
    ⟨some 43, .pick (.tmp 39) (.const (.bool true)) (.tmp 42), none⟩]
@[reducible] def q20_7 : SCode := .region [⟨some 4, .assign (.const (.bool false)), none⟩]
@[reducible] def q20_8 : SCode := .region [⟨some 44, .move (.tmp 1), none⟩,
    ⟨some 45, .move (.tmp 5), none⟩,
    ⟨some 46, .slice 22 (.tmp 44) none (some (.tmp 45)) none, none⟩,
    ⟨some 47, .call { callee := .builtin .len, args := #[.tmp 46], argTypes := #[22] }, none⟩,
    ⟨some 48, .move (.const (.int .i64 0)), none⟩]
@[reducible] def q20_9 : SCode := .region [⟨some 49, .binOp .lss 3 (.tmp 48) (.tmp 47) 3, none⟩]
@[reducible] def q20_10 : SCode := .region [⟨some 50, .indexAddr 22 (.tmp 46) (.tmp 48), none⟩,
    ⟨some 51, .load 24 (.tmp 50), none⟩,
    ⟨some 8, .alloc 24, none⟩,
    ⟨none, .store 24 (.tmp 8) (.tmp 51), none⟩]
@[reducible] def q20_11 : SCode := .region [⟨some 52, .fieldAddr 24 (.tmp 6) 0, none⟩,
    ⟨some 53, .load 3 (.tmp 52), none⟩,
    ⟨some 54, .fieldAddr 24 (.tmp 8) 0, none⟩,
    ⟨some 55, .load 3 (.tmp 54), none⟩,
    ⟨some 56, .binOp .eql 3 (.tmp 53) (.tmp 55) 3, none⟩]
@[reducible] def q20_12 : SCode := .region [⟨some 4, .assign (.const (.bool false)), none⟩]
@[reducible] def q20_13 : SCode := .region [⟨some 57, .binOp .add 3 (.tmp 48) (.const (.int .i64 1)) 3, none⟩,
    ⟨some 48, .move (.tmp 57), none⟩]
def l20_0 : SCode := (.seq q20_9 (.seq (.cond (.tmp 49) .skip (.exit 2)) (.seq (.block 3 (.seq q20_10 (.seq q20_11 (.cond (.tmp 56) (.seq q20_12 .ret) .skip)))) q20_13)))
@[reducible] def q20_14 : SCode := .region [⟨some 58, .binOp .add 3 (.tmp 24) (.const (.int .i64 1)) 3, none⟩,
    ⟨some 24, .move (.tmp 58), none⟩]
def l20_1 : SCode := (.seq q20_4 (.seq (.cond (.tmp 25) .skip (.exit 0)) (.seq (.block 1 (.seq q20_5 (.seq (.seq q20_6 (.cond (.tmp 43) (.seq q20_7 .ret) .skip)) (.seq q20_8 (.block 2 (.loop l20_0)))))) q20_14)))
@[reducible] def q20_15 : SCode := .region [⟨some 4, .assign (.const (.bool true)), none⟩]
def s20 : SCode := (.seq q20_0 (.seq (.seq q20_1 (.cond (.tmp 21) (.seq q20_2 .ret) .skip)) (.seq (.seq q20_3 (.block 0 (.loop l20_1))) (.seq q20_15 .ret))))
theorem s20_strip : Yc (Zx Try.f20) = s20 := by kernel_rfl
theorem s20_ok : Yp 59 (Zx Try.f20) = true := by kernel_rfl
/-! 25: planchet planchetref09.Event -/
@[reducible] def q25_0 : SCode := .region [⟨some 4, .assign (.const (.bool false)), none⟩]
@[reducible] def q25_1 : SCode := .region [⟨some 5, .move (.tmp 1), none⟩,
    ⟨some 6, .binOp .geq 3 (.tmp 5) (.const (.int .i64 0)) 3, none⟩,
    ⟨some 7, .move (.tmp 6), none⟩,
    ⟨some 8, .move (.tmp 1), some (7, true)⟩,
    ⟨some 9, .move (.tmp 0), some (7, true)⟩,
    ⟨some 10, .binOp .shl 3 (.const (.int .i64 1)) (.tmp 9) 3, some (7, true)⟩,
    ⟨some 11, .binOp .lss 3 (.tmp 8) (.tmp 10) 3, some (7, true)⟩,
    ⟨some 12, .pick (.tmp 7) (.tmp 11) (.const (.bool false)), none⟩,
    ⟨some 4, .assign (.tmp 12), none⟩]
def s25 : SCode := (.seq q25_0 (.seq q25_1 .ret))
theorem s25_strip : Yc (Zx Try.f25) = s25 := by kernel_rfl
theorem s25_ok : Yp 13 (Zx Try.f25) = true := by kernel_rfl
/-! 61: (planchet bets.belief).of -/
@[reducible] def q61_0 : SCode := .region [⟨some 4, .alloc 26, none⟩]
@[reducible] def q61_1 : SCode := .region [⟨some 8, .call { callee := .value (.func 70), args := #[.const (.int .i64 0)], argTypes := #[3] }, none⟩,
    ⟨some 5, .alloc 26, none⟩,
    ⟨none, .store 26 (.tmp 5) (.tmp 8), none⟩]
@[reducible] def q61_2 : SCode := .region [⟨some 9, .move (.tmp 0), none⟩,
    ⟨some 10, .call { callee := .builtin .len, args := #[.tmp 9], argTypes := #[90] }, none⟩,
    ⟨some 11, .move (.const (.int .i64 0)), none⟩]
@[reducible] def q61_3 : SCode := .region [⟨some 12, .binOp .lss 3 (.tmp 11) (.tmp 10) 3, none⟩]
@[reducible] def q61_4 : SCode := .region [⟨some 13, .move (.tmp 11), none⟩,
    ⟨some 14, .indexAddr 90 (.tmp 9) (.tmp 11), none⟩,
    ⟨some 15, .load 26 (.tmp 14), none⟩,
    ⟨some 7, .alloc 26, none⟩,
    ⟨some 6, .assign (.tmp 13), none⟩,
    ⟨none, .store 26 (.tmp 7) (.tmp 15), none⟩]
@[reducible] def q61_5 : SCode := .region [⟨some 16, .move (.tmp 1), none⟩,
    ⟨some 17, .move (.tmp 6), none⟩,
    ⟨some 18, .binOp .shr 3 (.tmp 16) (.tmp 17) 3, none⟩,
    ⟨some 19, .binOp .and 3 (.tmp 18) (.const (.int .i64 1)) 3, none⟩,
    ⟨some 20, .binOp .eql 3 (.tmp 19) (.const (.int .i64 1)) 3, none⟩]
@[reducible] def q61_6 : SCode := .region [⟨some 21, .load 26 (.tmp 5), none⟩,
    ⟨some 22, .load 26 (.tmp 7), none⟩,
    ⟨some 23, .call { callee := .value (.func 71), args := #[.tmp 21, .const (.int .i64 1), .tmp 22], argTypes := #[26, 3, 26] }, none⟩,
    ⟨none, .store 26 (.tmp 5) (.tmp 23), none⟩]
@[reducible] def q61_7 : SCode := .region [⟨some 24, .binOp .add 3 (.tmp 11) (.const (.int .i64 1)) 3, none⟩,
    ⟨some 11, .move (.tmp 24), none⟩]
def l61_0 : SCode := (.seq q61_3 (.seq (.cond (.tmp 12) .skip (.exit 0)) (.seq (.block 1 (.seq q61_4 (.seq q61_5 (.cond (.tmp 20) q61_6 .skip)))) q61_7)))
@[reducible] def q61_8 : SCode := .region [⟨some 25, .load 26 (.tmp 5), none⟩,
    ⟨none, .store 26 (.tmp 4) (.tmp 25), none⟩]
def s61 : SCode := (.seq q61_0 (.seq q61_1 (.seq (.seq q61_2 (.block 0 (.loop l61_0))) (.seq q61_8 .ret))))
theorem s61_strip : Yc (Zx Try.f61) = s61 := by kernel_rfl
theorem s61_ok : Yp 26 (Zx Try.f61) = true := by kernel_rfl
end Go.Proofs.Try.Am

namespace Go.Proofs.Try.Am
open Go.Am Bq
set_option maxRecDepth 100000
set_option maxHeartbeats 1000000

/-- Whether fractions are n Wk. -/
def Wk (n : Int) (ps : List (Int × Int)) : Bool := decide ((ps.length : Int) = n) && (decide (Wb ps ≠ 0) && ps.all fun p => decide (p.1 ≤ p.2))

/-- The parts of the first ones in an event. -/
def Wq (m : Nat) (ps : List (Int × Int)) (evt : Nat) : Nat → Int
  | 0 => 0
  | k + 1 => Wq m ps evt k + if evt.testBit k then (m : Int) / (ps.getD k (0, 0)).2 * (ps.getD k (0, 0)).1 else 0
theorem chances_chn {n : Int} {ps : List (Int × Int)} (h : Wk n ps = true) : Chn ps ∧ (ps.length : Int) = n := by
  simp only [Wk, Bool.and_eq_true, decide_eq_true_eq, List.all_eq_true] at h
  exact ⟨⟨h.2.1, h.2.2⟩, h.1⟩
theorem partTo_bound {ps : List (Int × Int)} (c : Chn ps) (evt : Nat) : ∀ k, k ≤ ps.length → 0 ≤ Wq (Wb ps) ps evt k ∧ Wq (Wb ps) ps evt k ≤ k * Wb ps
  | 0, _ => ⟨Int.le_refl _, by simp [Wq]⟩
  | k + 1, hk => by
    obtain ⟨h1, h2⟩ := partTo_bound c evt k (by omega)
    obtain ⟨-, h3, h4, -⟩ := c.rp (Wn (show k < ps.length by omega))
    have e : ((k + 1 : Nat) : Int) * (Wb ps : Int) = k * Wb ps + Wb ps := by push_cast; grind
    rw [e, Wq]
    split <;> omega

end Go.Proofs.Try.Am

namespace Go.Proofs.Try.Am
open Go.Am
set_option maxRecDepth 100000
/-! 37: planchet bets.Agrees -/
@[reducible] def q37_0 : SCode := .region [⟨some 6, .assign (.const (.bool false)), none⟩,
    ⟨some 7, .assign (.const (.int .i64 0)), none⟩]
@[reducible] def q37_1 : SCode := .region [⟨some 9, .move (.tmp 0), none⟩,
    ⟨some 10, .move (.tmp 1), none⟩,
    ⟨some 11, .build 86 #[(0, .tmp 9), (1, .tmp 10)], none⟩,
    ⟨some 8, .alloc 86, none⟩,
    ⟨none, .store 86 (.tmp 8) (.tmp 11), none⟩]
@[reducible] def q37_2 : SCode := .region [⟨some 12, .load 86 (.tmp 8), none⟩,
    ⟨some 13, .call { callee := .value (.func 58), args := #[.tmp 12], argTypes := #[86] }, none⟩,
    ⟨some 14, .unOp .not 4 (.tmp 13), none⟩,
    ⟨some 15, .move (.tmp 14), none⟩,
    ⟨some 16, .move (.tmp 2), some (15, false)⟩,
    ⟨some 17, .call { callee := .builtin .len, args := #[.tmp 16], argTypes := #[47] }, some (15, false)⟩,
    ⟨some 18, .move (.tmp 0), some (15, false)⟩,
    ⟨some 19, .binOp .neq 3 (.tmp 17) (.tmp 18) 3, some (15, false)⟩,
    ⟨some 20, .pick (.tmp 15) (.const (.bool true)) (.tmp 19), none⟩,
    ⟨some 21, .move (.tmp 20), none⟩,
    ⟨some 22, .move (.tmp 2), some (21, false)⟩,
    ⟨some 23, .call { callee := .value (.func 75), args := #[.tmp 22], argTypes := #[47] }, some (21, false)⟩,
    ⟨some 24, .unOp .not 4 (.tmp 23), some (21, false)⟩,
    ⟨some 25, .pick (.tmp 21) (.const (.bool true)) (.tmp 24), none⟩]
@[reducible] def q37_3 : SCode := .region [⟨some 6, .assign (.const (.bool false)), none⟩,
    ⟨some 7, .assign (.const (.int .i64 2)), none⟩]
@[reducible] def q37_4 : SCode := .region [⟨some 26, .load 86 (.tmp 8), none⟩,
    ⟨some 27, .move (.tmp 2), none⟩,
    ⟨some 28, .call { callee := .value (.func 76), args := #[.tmp 26, .tmp 27], argTypes := #[86, 90] }, none⟩,
    ⟨some 6, .assign (.tmp 28), none⟩,
    ⟨some 7, .assign (.const (.int .i64 0)), none⟩]
def s37 : SCode := (.seq q37_0 (.seq q37_1 (.seq (.seq q37_2 (.cond (.tmp 25) (.seq q37_3 .ret) .skip)) (.seq q37_4 .ret))))
theorem s37_strip : Yc (Zx Try.f37) = s37 := by kernel_rfl
theorem s37_ok : Yp 29 (Zx Try.f37) = true := by kernel_rfl
/-! 76: (planchet bets.table).agrees -/
@[reducible] def q76_0 : SCode := .region [⟨some 2, .box 86 (.tmp 0), none⟩,
    ⟨some 3, .box 90 (.tmp 1), none⟩,
    ⟨some 4, .assign (.const (.bool false)), none⟩]
def q76_1 : SCode := .draw [⟨some 5, .load 90 (.tmp 3), none⟩,
    ⟨some 6, .fieldAddr 86 (.tmp 2) 0, none⟩,
    ⟨some 7, .load 3 (.tmp 6), none⟩,
    ⟨some 8, .binOp .shl 3 (.const (.int .i64 1)) (.tmp 7) 3, none⟩,
    ⟨some 9, .binOp .sub 3 (.tmp 8) (.const (.int .i64 1)) 3, none⟩,
    ⟨some 10, .call { callee := .value (.func 61), args := #[.tmp 5, .tmp 9], argTypes := #[90, 3] }, none⟩,
    ⟨some 11, .call { callee := .value (.func 70), args := #[.const (.int .i64 1)], argTypes := #[3] }, none⟩,
    ⟨some 12, .binOp .neq 26 (.tmp 10) (.tmp 11) 26, none⟩]
   [[], [], [1], [2], [3], [0, 4], [5], [5, 6]]
@[reducible] def q76_2 : SCode := .region [⟨some 4, .assign (.const (.bool false)), none⟩]
@[reducible] def q76_3 : SCode := .region [⟨some 13, .fieldAddr 86 (.tmp 2) 1, none⟩,
    ⟨some 14, .load 30 (.tmp 13), none⟩,
    ⟨some 15, .makeFunc (.func 109) #[] #[.tmp 3], none⟩,
    ⟨some 16, .call { callee := .value (.func 108), args := #[.tmp 14, .tmp 15], argTypes := #[30, 112] }, none⟩,
    ⟨some 4, .assign (.tmp 16), none⟩]
def s76 : SCode := (.seq q76_0 (.seq (.seq q76_1 (.cond (.tmp 12) (.seq q76_2 .ret) .skip)) (.seq q76_3 .ret)))
theorem s76_strip : Yc (Zx Try.f76) = s76 := by kernel_rfl
theorem s76_ok : Yp 17 (Zx Try.f76) = true := by kernel_rfl
/-! 108: planchet bets.every[planchet bets.Bet] -/
@[reducible] def q108_0 : SCode := .region [⟨some 3, .box 112 (.tmp 1), none⟩,
    ⟨some 4, .assign (.const (.bool false)), none⟩]
@[reducible] def q108_1 : SCode := .region [⟨some 5, .move (.tmp 0), none⟩,
    ⟨some 6, .makeFunc (.func 119) #[] #[.tmp 3], none⟩,
    ⟨some 7, .call { callee := .value (.func 98), args := #[.tmp 5, .tmp 6], argTypes := #[30, 112] }, none⟩,
    ⟨some 8, .unOp .not 4 (.tmp 7), none⟩,
    ⟨some 4, .assign (.tmp 8), none⟩]
def s108 : SCode := (.seq q108_0 (.seq q108_1 .ret))
theorem s108_strip : Yc (Zx Try.f108) = s108 := by kernel_rfl
theorem s108_ok : Yp 9 (Zx Try.f108) = true := by kernel_rfl
/-! 109: (planchet bets.table).agrees$1 -/
@[reducible] def q109_0 : SCode := .region [⟨some 2, .box 92 (.tmp 0), none⟩,
    ⟨some 3, .assign (.const (.bool false)), none⟩]
def q109_1 : SCode := .draw [⟨some 4, .load 90 (.tmp 1), none⟩,
    ⟨some 5, .fieldAddr 92 (.tmp 2) 0, none⟩,
    ⟨some 6, .load 3 (.tmp 5), none⟩,
    ⟨some 7, .call { callee := .value (.func 61), args := #[.tmp 4, .tmp 6], argTypes := #[90, 3] }, none⟩,
    ⟨some 8, .fieldAddr 92 (.tmp 2) 1, none⟩,
    ⟨some 9, .load 3 (.tmp 8), none⟩,
    ⟨some 10, .call { callee := .value (.func 64), args := #[.tmp 9, .const (.int .i64 12)], argTypes := #[3, 3] }, none⟩,
    ⟨some 11, .binOp .eql 26 (.tmp 7) (.tmp 10) 26, none⟩,
    ⟨some 3, .assign (.tmp 11), none⟩]
   [[], [], [1], [0, 2], [], [4], [5, 3], [3, 6], [7, 6, 0, 1, 2, 3, 4, 5, 6, 7]]
def s109 : SCode := (.seq q109_0 (.seq q109_1 .ret))
theorem s109_strip : Yc (Zx Try.f109) = s109 := by kernel_rfl
theorem s109_ok : Yp 12 (Zx Try.f109) = true := by kernel_rfl
/-! 119: planchet bets.every[planchet bets.Bet]$1 -/
@[reducible] def q119_0 : SCode := .region [⟨some 2, .box 92 (.tmp 0), none⟩,
    ⟨some 3, .assign (.const (.bool false)), none⟩]
@[reducible] def q119_1 : SCode := .region [⟨some 4, .load 112 (.tmp 1), none⟩,
    ⟨some 5, .load 92 (.tmp 2), none⟩,
    ⟨some 6, .call { callee := .value (.tmp 4), args := #[.tmp 5], argTypes := #[92] }, none⟩,
    ⟨some 7, .unOp .not 4 (.tmp 6), none⟩,
    ⟨some 3, .assign (.tmp 7), none⟩]
def s119 : SCode := (.seq q119_0 (.seq q119_1 .ret))
theorem s119_strip : Yc (Zx Try.f119) = s119 := by kernel_rfl
theorem s119_ok : Yp 8 (Zx Try.f119) = true := by kernel_rfl
end Go.Proofs.Try.Am

/-
  Printed by gen.py: facts on the types of this seat, asked of the kernel.
  Printed by gen.py: the code of some functions, without what no step looks at; held against the program's own by the kernel.
  bets: fractions as rational numbers: parts of a common multiple. Plain Lean, no program.
  bets: fractions: the program's arithmetic, and the reference's.
  bets: fractions: sums, products, quotients.
  bets: the common multiple of fractions that sum to one: its square divides the product. Plain Lean, no program.
  bets: fractions as they are handed in; their common multiple; a forecast's is small. Plain Lean, no program.
  bets: forecasts as numbers. Plain Lean, no program.
  bets: elimination, as the program does it: what it comes to. Plain Lean, no program.
-/
import Derived.Test.YtcmindinomacbaaPk3
import Derived.Test.YtcmindinomacbaaProg
import Derived.KernelRfl
import Derived.Shelf.Abstract
import Derived.Test.YtcmindinomacbaaPk5
set_option linter.all false
namespace Go.Proofs.Try.Am
open Go.Am
set_option maxRecDepth 100000
theorem app_103_103 : appT Try.prog 103 103 = some (47, 1, 24) := by kernel_rfl
theorem app_22_22 : appT Try.prog 22 22 = some (24, 2, 16) := by kernel_rfl
theorem app_30_30 : appT Try.prog 30 30 = some (92, 2, 16) := by kernel_rfl
theorem app_38_38 : appT Try.prog 38 38 = some (3, 1, 8) := by kernel_rfl
theorem app_47_47 : appT Try.prog 47 47 = some (26, 2, 16) := by kernel_rfl
theorem app_88_88 : appT Try.prog 88 88 = some (90, 1, 24) := by kernel_rfl
theorem app_94_94 : appT Try.prog 94 94 = some (47, 1, 24) := by kernel_rfl
theorem el_103 : elemOf' Try.prog 103 = some 47 := by kernel_rfl
theorem el_22 : elemOf' Try.prog 22 = some 24 := by kernel_rfl
theorem el_30 : elemOf' Try.prog 30 = some 92 := by kernel_rfl
theorem el_38 : elemOf' Try.prog 38 = some 3 := by kernel_rfl
theorem el_47 : elemOf' Try.prog 47 = some 26 := by kernel_rfl
theorem el_88 : elemOf' Try.prog 88 = some 90 := by kernel_rfl
theorem el_90 : elemOf' Try.prog 90 = some 26 := by kernel_rfl
theorem el_94 : elemOf' Try.prog 94 = some 47 := by kernel_rfl
theorem esz_112 : esz Try.prog 112 = some 1 := by kernel_rfl
theorem esz_24 : esz Try.prog 24 = some 2 := by kernel_rfl
theorem esz_26 : esz Try.prog 26 = some 2 := by kernel_rfl
theorem esz_3 : esz Try.prog 3 = some 1 := by kernel_rfl
theorem esz_30 : esz Try.prog 30 = some 1 := by kernel_rfl
theorem esz_35 : esz Try.prog 35 = some 1 := by kernel_rfl
theorem esz_38 : esz Try.prog 38 = some 1 := by kernel_rfl
theorem esz_47 : esz Try.prog 47 = some 1 := by kernel_rfl
theorem esz_75 : esz Try.prog 75 = some 1 := by kernel_rfl
theorem esz_76 : esz Try.prog 76 = some 1 := by kernel_rfl
theorem esz_86 : esz Try.prog 86 = some 2 := by kernel_rfl
theorem esz_90 : esz Try.prog 90 = some 1 := by kernel_rfl
theorem esz_92 : esz Try.prog 92 = some 2 := by kernel_rfl
theorem fld_24_0 : fldOf Try.prog 24 0 = some (3, 0) := by kernel_rfl
theorem fld_24_1 : fldOf Try.prog 24 1 = some (3, 1) := by kernel_rfl
theorem fld_26_0 : fldOf Try.prog 26 0 = some (3, 0) := by kernel_rfl
theorem fld_26_1 : fldOf Try.prog 26 1 = some (3, 1) := by kernel_rfl
theorem fld_75_0 : fldOf Try.prog 75 0 = some (38, 0) := by kernel_rfl
theorem fld_76_0 : fldOf Try.prog 76 0 = some (38, 0) := by kernel_rfl
theorem fld_86_0 : fldOf Try.prog 86 0 = some (3, 0) := by kernel_rfl
theorem fld_86_1 : fldOf Try.prog 86 1 = some (30, 1) := by kernel_rfl
theorem fld_92_0 : fldOf Try.prog 92 0 = some (3, 0) := by kernel_rfl
theorem fld_92_1 : fldOf Try.prog 92 1 = some (3, 1) := by kernel_rfl
theorem info_26 : (Try.prog.info? 26).map (fun i => (i.size, i.bytes)) = some (2, 16) := by kernel_rfl
theorem info_3 : (Try.prog.info? 3).map (fun i => (i.size, i.bytes)) = some (1, 8) := by kernel_rfl
theorem isl_103 : isSl Try.prog 103 = true := by kernel_rfl
theorem isl_22 : isSl Try.prog 22 = true := by kernel_rfl
theorem isl_30 : isSl Try.prog 30 = true := by kernel_rfl
theorem isl_38 : isSl Try.prog 38 = true := by kernel_rfl
theorem isl_47 : isSl Try.prog 47 = true := by kernel_rfl
theorem isl_88 : isSl Try.prog 88 = true := by kernel_rfl
theorem isl_90 : isSl Try.prog 90 = true := by kernel_rfl
theorem isl_94 : isSl Try.prog 94 = true := by kernel_rfl
theorem pl_24_0 : placeOf Try.prog 24 0 = some (0, 1) := by kernel_rfl
theorem pl_24_1 : placeOf Try.prog 24 1 = some (1, 1) := by kernel_rfl
theorem pl_26_0 : placeOf Try.prog 26 0 = some (0, 1) := by kernel_rfl
theorem pl_26_1 : placeOf Try.prog 26 1 = some (1, 1) := by kernel_rfl
theorem pl_75_0 : placeOf Try.prog 75 0 = some (0, 1) := by kernel_rfl
theorem pl_76_0 : placeOf Try.prog 76 0 = some (0, 1) := by kernel_rfl
theorem pl_86_0 : placeOf Try.prog 86 0 = some (0, 1) := by kernel_rfl
theorem pl_86_1 : placeOf Try.prog 86 1 = some (1, 1) := by kernel_rfl
theorem pl_92_0 : placeOf Try.prog 92 0 = some (0, 1) := by kernel_rfl
theorem pl_92_1 : placeOf Try.prog 92 1 = some (1, 1) := by kernel_rfl
theorem shp_112 : shp Try.prog 112 = some none := by kernel_rfl
theorem shp_24 : shp Try.prog 24 = some (some 2) := by kernel_rfl
theorem shp_26 : shp Try.prog 26 = some (some 2) := by kernel_rfl
theorem shp_3 : shp Try.prog 3 = some none := by kernel_rfl
theorem shp_30 : shp Try.prog 30 = some none := by kernel_rfl
theorem shp_35 : shp Try.prog 35 = some none := by kernel_rfl
theorem shp_38 : shp Try.prog 38 = some none := by kernel_rfl
theorem shp_47 : shp Try.prog 47 = some none := by kernel_rfl
theorem shp_75 : shp Try.prog 75 = some (some 1) := by kernel_rfl
theorem shp_76 : shp Try.prog 76 = some (some 1) := by kernel_rfl
theorem shp_86 : shp Try.prog 86 = some (some 2) := by kernel_rfl
theorem shp_90 : shp Try.prog 90 = some none := by kernel_rfl
theorem shp_92 : shp Try.prog 92 = some (some 2) := by kernel_rfl
theorem und_103 : Program.underlying Try.prog 103 = some (.slice 47) := by kernel_rfl
theorem und_126 : Program.underlying Try.prog 126 = some (.int .u32) := by kernel_rfl
theorem und_129 : Program.underlying Try.prog 129 = some (.int .u64) := by kernel_rfl
theorem und_22 : Program.underlying Try.prog 22 = some (.slice 24) := by kernel_rfl
theorem und_3 : Program.underlying Try.prog 3 = some (.int .i64) := by kernel_rfl
theorem und_30 : Program.underlying Try.prog 30 = some (.slice 92) := by kernel_rfl
theorem und_38 : Program.underlying Try.prog 38 = some (.slice 3) := by kernel_rfl
theorem und_4 : Program.underlying Try.prog 4 = some (.bool) := by kernel_rfl
theorem und_47 : Program.underlying Try.prog 47 = some (.slice 26) := by kernel_rfl
theorem und_67 : Program.underlying Try.prog 67 = some (.int .u64) := by kernel_rfl
theorem und_88 : Program.underlying Try.prog 88 = some (.slice 90) := by kernel_rfl
theorem und_90 : Program.underlying Try.prog 90 = some (.slice 26) := by kernel_rfl
theorem und_94 : Program.underlying Try.prog 94 = some (.slice 47) := by kernel_rfl
theorem zero_24 : zeroOf Try.prog 24 = some [.int .i64 0, .int .i64 0] := by kernel_rfl
theorem zero_26 : zeroOf Try.prog 26 = some [.int .i64 0, .int .i64 0] := by kernel_rfl
theorem zero_3 : zeroOf Try.prog 3 = some [.int .i64 0] := by kernel_rfl
theorem zero_38 : zeroOf Try.prog 38 = some [.slice none 0 0] := by kernel_rfl
theorem zero_47 : zeroOf Try.prog 47 = some [.slice none 0 0] := by kernel_rfl
theorem zero_75 : zeroOf Try.prog 75 = some [.slice none 0 0] := by kernel_rfl
theorem zero_76 : zeroOf Try.prog 76 = some [.slice none 0 0] := by kernel_rfl
theorem zero_86 : zeroOf Try.prog 86 = some [.int .i64 0, .slice none 0 0] := by kernel_rfl
theorem zero_90 : zeroOf Try.prog 90 = some [.slice none 0 0] := by kernel_rfl
theorem zero_92 : zeroOf Try.prog 92 = some [.int .i64 0, .int .i64 0] := by kernel_rfl
def tyf := (And.intro (And.intro (And.intro (And.intro (And.intro (And.intro (And.intro @app_103_103 @app_22_22) @app_30_30) (And.intro (And.intro @app_38_38 @app_47_47) @app_88_88)) (And.intro (And.intro (And.intro @app_94_94 @el_103) @el_22) (And.intro (And.intro @el_30 @el_38) @el_47))) (And.intro (And.intro (And.intro (And.intro @el_88 @el_90) @el_94) (And.intro (And.intro @esz_112 @esz_24) @esz_26)) (And.intro (And.intro (And.intro @esz_3 @esz_30) @esz_35) (And.intro (And.intro @esz_38 @esz_47) @esz_75)))) (And.intro (And.intro (And.intro (And.intro (And.intro @esz_76 @esz_86) @esz_90) (And.intro (And.intro @esz_92 @fld_24_0) @fld_24_1)) (And.intro (And.intro (And.intro @fld_26_0 @fld_26_1) @fld_75_0) (And.intro (And.intro @fld_76_0 @fld_86_0) @fld_86_1))) (And.intro (And.intro (And.intro (And.intro @fld_92_0 @fld_92_1) @info_26) (And.intro (And.intro @info_3 @isl_103) @isl_22)) (And.intro (And.intro (And.intro @isl_30 @isl_38) @isl_47) (And.intro @isl_88 @isl_90))))) (And.intro (And.intro (And.intro (And.intro (And.intro (And.intro @isl_94 @pl_24_0) @pl_24_1) (And.intro (And.intro @pl_26_0 @pl_26_1) @pl_75_0)) (And.intro (And.intro (And.intro @pl_76_0 @pl_86_0) @pl_86_1) (And.intro (And.intro @pl_92_0 @pl_92_1) @shp_112))) (And.intro (And.intro (And.intro (And.intro @shp_24 @shp_26) @shp_3) (And.intro (And.intro @shp_30 @shp_35) @shp_38)) (And.intro (And.intro (And.intro @shp_47 @shp_75) @shp_76) (And.intro (And.intro @shp_86 @shp_90) @shp_92)))) (And.intro (And.intro (And.intro (And.intro (And.intro @und_103 @und_126) @und_129) (And.intro (And.intro @und_22 @und_3) @und_30)) (And.intro (And.intro (And.intro @und_38 @und_4) @und_47) (And.intro (And.intro @und_67 @und_88) @und_90))) (And.intro (And.intro (And.intro (And.intro @und_94 @zero_24) @zero_26) (And.intro (And.intro @zero_3 @zero_38) @zero_47)) (And.intro (And.intro (And.intro @zero_75 @zero_76) @zero_86) (And.intro @zero_90 @zero_92))))))
end Go.Proofs.Try.Am

namespace Go.Proofs.Try.Am
open Go.Am
set_option maxRecDepth 100000
/-! 21: planchet planchetlaw09.awake -/
@[reducible] def q21_0 : SCode := .region [⟨some 0, .assign (.const (.bool false)), none⟩]
@[reducible] def q21_1 : SCode := .region [⟨some 4, .build 92 #[(0, .const (.int .i64 1)), (1, .const (.int .i64 6))], none⟩,
    ⟨some 5, .buildSlice 30 1 #[(0, .tmp 4)], none⟩,
    ⟨some 6, .call { callee := .value (.func 36), args := #[.const (.int .i64 2), .tmp 5], argTypes := #[3, 30] }, none⟩,
    ⟨some 3, .move (.tmp 6), none⟩,
    ⟨some 7, .extract (.tmp 3) 0, none⟩,
    ⟨some 8, .extract (.tmp 3) 1, none⟩,
    ⟨some 1, .assign (.tmp 7), none⟩,
    ⟨some 2, .assign (.tmp 8), none⟩]
@[reducible] def q21_2 : SCode := .region [⟨some 9, .move (.tmp 2), none⟩,
    ⟨some 10, .binOp .eql 27 (.tmp 9) (.const (.int .i64 0)) 27, none⟩,
    ⟨some 11, .move (.tmp 10), none⟩,
    ⟨some 12, .move (.tmp 1), some (11, true)⟩,
    ⟨some 13, .build 26 #[(0, .const (.int .i64 1)), (1, .const (.int .i64 2))], some (11, true)⟩,
    ⟨some 14, .build 26 #[(0, .const (.int .i64 1)), (1, .const (.int .i64 2))], some (11, true)⟩,
    ⟨some 15, .buildSlice 47 2 #[(0, .tmp 13), (1, .tmp 14)], some (11, true)⟩,
    ⟨some 16, .call { callee := .value (.func 35), args := #[.tmp 12, .tmp 15], argTypes := #[47, 47] }, some (11, true)⟩,
    ⟨some 17, .pick (.tmp 11) (.tmp 16) (.const (.bool false)), none⟩,
    ⟨some 0, .assign (.tmp 17), none⟩]
def s21 : SCode := (.seq q21_0 (.seq q21_1 (.seq q21_2 .ret)))
theorem s21_strip : stripC (bodyOf Try.f21) = s21 := by kernel_rfl
theorem s21_ok : codeOK 18 (bodyOf Try.f21) = true := by kernel_rfl
/-! 23: planchet planchetref09.Less -/
@[reducible] def q23_0 : SCode := .region [⟨some 2, .box 26 (.tmp 0), none⟩,
    ⟨some 3, .box 26 (.tmp 1), none⟩,
    ⟨some 4, .assign (.const (.bool false)), none⟩]
@[reducible] def q23_1 : SCode := .region [⟨some 5, .fieldAddr 26 (.tmp 2) 0, none⟩,
    ⟨some 6, .load 3 (.tmp 5), none⟩,
    ⟨some 7, .fieldAddr 26 (.tmp 3) 1, none⟩,
    ⟨some 8, .load 3 (.tmp 7), none⟩,
    ⟨some 9, .binOp .mul 3 (.tmp 6) (.tmp 8) 3, none⟩,
    ⟨some 10, .fieldAddr 26 (.tmp 3) 0, none⟩,
    ⟨some 11, .load 3 (.tmp 10), none⟩,
    ⟨some 12, .fieldAddr 26 (.tmp 2) 1, none⟩,
    ⟨some 13, .load 3 (.tmp 12), none⟩,
    ⟨some 14, .binOp .mul 3 (.tmp 11) (.tmp 13) 3, none⟩,
    ⟨some 15, .binOp .lss 3 (.tmp 9) (.tmp 14) 3, none⟩,
    ⟨some 4, .assign (.tmp 15), none⟩]
def s23 : SCode := (.seq q23_0 (.seq q23_1 .ret))
theorem s23_strip : stripC (bodyOf Try.f23) = s23 := by kernel_rfl
theorem s23_ok : codeOK 16 (bodyOf Try.f23) = true := by kernel_rfl
/-! 32: planchet planchetlaw09.fracs -/
@[reducible] def q32_0 : SCode := .region [⟨some 2, .assign (.const (.slice none 0 0)), none⟩]
@[reducible] def q32_1 : SCode := .region [⟨some 3, .move (.tmp 0), none⟩,
    ⟨some 4, .move (.tmp 0), none⟩,
    ⟨some 5, .call { callee := .builtin .len, args := #[.tmp 4], argTypes := #[47] }, none⟩,
    ⟨some 6, .call { callee := .builtin .min, args := #[.tmp 5, .const (.int .i64 8)], argTypes := #[3, 3] }, none⟩,
    ⟨some 7, .slice 47 (.tmp 3) none (some (.tmp 6)) none, none⟩,
    ⟨some 8, .call { callee := .value (.func 57), args := #[.tmp 7], argTypes := #[47] }, none⟩,
    ⟨some 2, .assign (.tmp 8), none⟩]
def s32 : SCode := (.seq q32_0 (.seq q32_1 .ret))
theorem s32_strip : stripC (bodyOf Try.f32) = s32 := by kernel_rfl
theorem s32_ok : codeOK 9 (bodyOf Try.f32) = true := by kernel_rfl
theorem s32_call [Tabs Try.prog] {args : List Value} {h : Heap} {Q : Value → Heap → Prop} (hsz : args.length ≤ 9) (hk : aw Try.prog 9 s32 (aPost Try.prog [.tmp 2] Q) (argEnv 0 args) h) : ACall Try.prog 32 args h Q :=
  acall_s Try.func32 rfl (enters_of Try.func32 (by kernel_rfl) rfl) rfl rfl (by decide) s32_strip s32_ok hsz hk

/-! 57: slices.Clone[[]planchet api.Frac,planchet api.Frac] -/
@[reducible] def q57_0 : SCode := .region [⟨some 2, .assign (.const (.slice none 0 0)), none⟩]
@[reducible] def q57_1 : SCode := .region [⟨some 3, .move (.tmp 0), none⟩,
    ⟨some 4, .binOp .eql 47 (.tmp 3) (.const (.slice none 0 0)) 47, none⟩]
@[reducible] def q57_2 : SCode := .region [⟨some 2, .assign (.const (.slice none 0 0)), none⟩]
@[reducible] def q57_3 : SCode := .region [⟨some 5, .buildSlice 47 0 #[], none⟩,
    ⟨some 6, .move (.tmp 0), none⟩,
    ⟨some 7, .call { callee := .builtin .append, args := #[.tmp 5, .tmp 6], argTypes := #[47, 47] }, none⟩,
    ⟨some 2, .assign (.tmp 7), none⟩]
def s57 : SCode := (.seq q57_0 (.seq (.seq q57_1 (.cond (.tmp 4) (.seq q57_2 .ret) .skip)) (.seq q57_3 .ret)))
theorem s57_strip : stripC (bodyOf Try.f57) = s57 := by kernel_rfl
theorem s57_ok : codeOK 8 (bodyOf Try.f57) = true := by kernel_rfl
theorem s57_call [Tabs Try.prog] {args : List Value} {h : Heap} {Q : Value → Heap → Prop} (hsz : args.length ≤ 8) (hk : aw Try.prog 8 s57 (aPost Try.prog [.tmp 2] Q) (argEnv 0 args) h) : ACall Try.prog 57 args h Q :=
  acall_s Try.func57 rfl (enters_of Try.func57 (by kernel_rfl) rfl) rfl rfl (by decide) s57_strip s57_ok hsz hk

/-! 64: planchet bets.frac -/
@[reducible] def q64_0 : SCode := .region [⟨some 4, .alloc 26, none⟩]
@[reducible] def q64_1 : SCode := .region [⟨some 6, .move (.tmp 1), none⟩,
    ⟨some 7, .binOp .lss 3 (.tmp 6) (.const (.int .i64 0)) 3, none⟩]
@[reducible] def q64_2 : SCode := .region [⟨some 8, .move (.tmp 0), none⟩,
    ⟨some 9, .unOp .neg 3 (.tmp 8), none⟩,
    ⟨some 10, .move (.tmp 1), none⟩,
    ⟨some 11, .unOp .neg 3 (.tmp 10), none⟩,
    ⟨some 0, .assign (.tmp 9), none⟩,
    ⟨some 1, .assign (.tmp 11), none⟩]
@[reducible] def q64_3 : SCode := .region [⟨some 12, .move (.tmp 0), none⟩,
    ⟨some 13, .move (.tmp 1), none⟩,
    ⟨some 14, .call { callee := .value (.func 88), args := #[.tmp 12, .tmp 13], argTypes := #[3, 3] }, none⟩,
    ⟨some 5, .assign (.tmp 14), none⟩]
def q64_4 : SCode := .draw [⟨some 15, .move (.tmp 0), none⟩,
    ⟨some 16, .move (.tmp 5), none⟩,
    ⟨some 17, .binOp .quo 3 (.tmp 15) (.tmp 16) 3, none⟩,
    ⟨some 18, .move (.tmp 1), none⟩,
    ⟨some 19, .move (.tmp 5), none⟩,
    ⟨some 20, .binOp .quo 3 (.tmp 18) (.tmp 19) 3, none⟩,
    ⟨some 21, .build 26 #[(0, .tmp 17), (1, .tmp 20)], none⟩,
    ⟨none, .store 26 (.tmp 4) (.tmp 21), none⟩]
   [[], [], [0, 1], [], [], [3, 4], [2, 5], [6, 0, 1, 2, 3, 4, 5, 6]]
def s64 : SCode := (.seq q64_0 (.seq (.seq q64_1 (.cond (.tmp 7) q64_2 .skip)) (.seq q64_3 (.seq q64_4 .ret))))
theorem s64_strip : stripC (bodyOf Try.f64) = s64 := by kernel_rfl
theorem s64_ok : codeOK 22 (bodyOf Try.f64) = true := by kernel_rfl
/-! 68: planchet planchetref09.frac -/
@[reducible] def q68_0 : SCode := .region [⟨some 4, .alloc 26, none⟩]
@[reducible] def q68_1 : SCode := .region [⟨some 7, .move (.tmp 1), none⟩,
    ⟨some 8, .binOp .lss 3 (.tmp 7) (.const (.int .i64 0)) 3, none⟩]
@[reducible] def q68_2 : SCode := .region [⟨some 9, .move (.tmp 0), none⟩,
    ⟨some 10, .unOp .neg 3 (.tmp 9), none⟩,
    ⟨some 11, .move (.tmp 1), none⟩,
    ⟨some 12, .unOp .neg 3 (.tmp 11), none⟩,
    ⟨some 0, .assign (.tmp 10), none⟩,
    ⟨some 1, .assign (.tmp 12), none⟩]
@[reducible] def q68_3 : SCode := .region [⟨some 13, .move (.tmp 0), none⟩,
    ⟨some 14, .move (.tmp 0), none⟩,
    ⟨some 15, .unOp .neg 3 (.tmp 14), none⟩,
    ⟨some 16, .call { callee := .builtin .max, args := #[.tmp 13, .tmp 15], argTypes := #[3, 3] }, none⟩,
    ⟨some 17, .move (.tmp 1), none⟩,
    ⟨some 5, .assign (.tmp 16), none⟩,
    ⟨some 6, .assign (.tmp 17), none⟩]
@[reducible] def q68_4 : SCode := .region [⟨some 18, .move (.tmp 6), none⟩,
    ⟨some 19, .binOp .neq 3 (.tmp 18) (.const (.int .i64 0)) 3, none⟩]
def q68_5 : SCode := .draw [⟨some 20, .move (.tmp 6), none⟩,
    ⟨some 21, .move (.tmp 5), none⟩,
    ⟨some 22, .move (.tmp 6), none⟩,
    ⟨some 23, .binOp .rem 3 (.tmp 21) (.tmp 22) 3, none⟩,
    ⟨some 5, .assign (.tmp 20), none⟩,
    ⟨some 6, .assign (.tmp 23), none⟩]
   [[], [], [], [1, 2], [0, 0, 1], [3, 4, 0, 1, 2, 3, 4]]
def l68_0 : SCode := (.seq (.seq q68_4 (.cond (.tmp 19) .skip (.exit 0))) (.block 1 q68_5))
def q68_6 : SCode := .draw [⟨some 24, .move (.tmp 0), none⟩,
    ⟨some 25, .move (.tmp 5), none⟩,
    ⟨some 26, .binOp .quo 3 (.tmp 24) (.tmp 25) 3, none⟩,
    ⟨some 27, .move (.tmp 1), none⟩,
    ⟨some 28, .move (.tmp 5), none⟩,
    ⟨some 29, .binOp .quo 3 (.tmp 27) (.tmp 28) 3, none⟩,
    ⟨some 30, .build 26 #[(0, .tmp 26), (1, .tmp 29)], none⟩,
    ⟨none, .store 26 (.tmp 4) (.tmp 30), none⟩]
   [[], [], [0, 1], [], [], [3, 4], [2, 5], [6, 0, 1, 2, 3, 4, 5, 6]]
def s68 : SCode := (.seq q68_0 (.seq (.seq q68_1 (.cond (.tmp 8) q68_2 .skip)) (.seq q68_3 (.seq (.block 0 (.loop l68_0)) (.seq q68_6 .ret)))))
theorem s68_strip : stripC (bodyOf Try.f68) = s68 := by kernel_rfl
theorem s68_ok : codeOK 31 (bodyOf Try.f68) = true := by kernel_rfl
/-! 70: planchet bets.whole -/
@[reducible] def q70_0 : SCode := .region [⟨some 2, .alloc 26, none⟩]
@[reducible] def q70_1 : SCode := .region [⟨some 3, .move (.tmp 0), none⟩,
    ⟨some 4, .build 26 #[(0, .tmp 3), (1, .const (.int .i64 1))], none⟩,
    ⟨none, .store 26 (.tmp 2) (.tmp 4), none⟩]
def s70 : SCode := (.seq q70_0 (.seq q70_1 .ret))
theorem s70_strip : stripC (bodyOf Try.f70) = s70 := by kernel_rfl
theorem s70_ok : codeOK 5 (bodyOf Try.f70) = true := by kernel_rfl
/-! 71: planchet bets.plus -/
@[reducible] def q71_0 : SCode := .region [⟨some 3, .box 26 (.tmp 0), none⟩,
    ⟨some 5, .box 26 (.tmp 2), none⟩,
    ⟨some 6, .alloc 26, none⟩]
@[reducible] def q71_1 : SCode := .region [⟨some 8, .fieldAddr 26 (.tmp 3) 1, none⟩,
    ⟨some 9, .load 3 (.tmp 8), none⟩,
    ⟨some 10, .fieldAddr 26 (.tmp 5) 1, none⟩,
    ⟨some 11, .load 3 (.tmp 10), none⟩,
    ⟨some 12, .call { callee := .value (.func 88), args := #[.tmp 9, .tmp 11], argTypes := #[3, 3] }, none⟩,
    ⟨some 7, .assign (.tmp 12), none⟩]
def q71_2 : SCode := .draw [⟨some 13, .fieldAddr 26 (.tmp 3) 0, none⟩,
    ⟨some 14, .load 3 (.tmp 13), none⟩,
    ⟨some 15, .fieldAddr 26 (.tmp 5) 1, none⟩,
    ⟨some 16, .load 3 (.tmp 15), none⟩,
    ⟨some 17, .move (.tmp 7), none⟩,
    ⟨some 18, .binOp .quo 3 (.tmp 16) (.tmp 17) 3, none⟩,
    ⟨some 19, .binOp .mul 3 (.tmp 14) (.tmp 18) 3, none⟩,
    ⟨some 20, .move (.tmp 1), none⟩,
    ⟨some 21, .fieldAddr 26 (.tmp 5) 0, none⟩,
    ⟨some 22, .load 3 (.tmp 21), none⟩,
    ⟨some 23, .binOp .mul 3 (.tmp 20) (.tmp 22) 3, none⟩,
    ⟨some 24, .fieldAddr 26 (.tmp 3) 1, none⟩,
    ⟨some 25, .load 3 (.tmp 24), none⟩,
    ⟨some 26, .move (.tmp 7), none⟩,
    ⟨some 27, .binOp .quo 3 (.tmp 25) (.tmp 26) 3, none⟩,
    ⟨some 28, .binOp .mul 3 (.tmp 23) (.tmp 27) 3, none⟩,
    ⟨some 29, .binOp .add 3 (.tmp 19) (.tmp 28) 3, none⟩,
    ⟨some 30, .fieldAddr 26 (.tmp 3) 1, none⟩,
    ⟨some 31, .load 3 (.tmp 30), none⟩,
    ⟨some 32, .move (.tmp 7), none⟩,
    ⟨some 33, .binOp .quo 3 (.tmp 31) (.tmp 32) 3, none⟩,
    ⟨some 34, .fieldAddr 26 (.tmp 5) 1, none⟩,
    ⟨some 35, .load 3 (.tmp 34), none⟩,
    ⟨some 36, .binOp .mul 3 (.tmp 33) (.tmp 35) 3, none⟩,
    ⟨some 37, .call { callee := .value (.func 64), args := #[.tmp 29, .tmp 36], argTypes := #[3, 3] }, none⟩,
    ⟨none, .store 26 (.tmp 6) (.tmp 37), none⟩]
   [[], [0], [], [2], [], [3, 4], [1, 5], [], [], [8], [7, 9], [], [11], [], [12, 13], [10, 14], [6, 15], [], [17], [], [18, 19], [], [21], [20, 22], [16, 23], [24, 24, 0, 1, 2, 3, 4, 5, 6, 7, 8, 9, 10, 11, 12, 13, 14, 15, 16, 17, 18, 19, 20, 21, 22, 23, 24]]
def s71 : SCode := (.seq q71_0 (.seq q71_1 (.seq q71_2 .ret)))
theorem s71_strip : stripC (bodyOf Try.f71) = s71 := by kernel_rfl
theorem s71_ok : codeOK 38 (bodyOf Try.f71) = true := by kernel_rfl
/-! 72: planchet bets.times -/
@[reducible] def q72_0 : SCode := .region [⟨some 2, .box 26 (.tmp 0), none⟩,
    ⟨some 3, .box 26 (.tmp 1), none⟩,
    ⟨some 4, .alloc 26, none⟩]
def q72_1 : SCode := .draw [⟨some 7, .fieldAddr 26 (.tmp 2) 0, none⟩,
    ⟨some 8, .load 3 (.tmp 7), none⟩,
    ⟨some 9, .fieldAddr 26 (.tmp 3) 1, none⟩,
    ⟨some 10, .load 3 (.tmp 9), none⟩,
    ⟨some 11, .call { callee := .value (.func 64), args := #[.tmp 8, .tmp 10], argTypes := #[3, 3] }, none⟩,
    ⟨some 12, .fieldAddr 26 (.tmp 3) 0, none⟩,
    ⟨some 13, .load 3 (.tmp 12), none⟩,
    ⟨some 14, .fieldAddr 26 (.tmp 2) 1, none⟩,
    ⟨some 15, .load 3 (.tmp 14), none⟩,
    ⟨some 16, .call { callee := .value (.func 64), args := #[.tmp 13, .tmp 15], argTypes := #[3, 3] }, none⟩,
    ⟨some 5, .alloc 26, none⟩,
    ⟨some 6, .alloc 26, none⟩,
    ⟨none, .store 26 (.tmp 5) (.tmp 11), none⟩,
    ⟨none, .store 26 (.tmp 6) (.tmp 16), none⟩]
   [[], [0], [], [2], [1, 3], [], [5], [], [7], [6, 8, 4], [], [], [10, 4, 9, 0, 1, 2, 3, 4, 10, 11], [11, 9, 12, 0, 1, 2, 3, 4, 5, 6, 7, 8, 9, 10, 11, 12]]
@[reducible] def q72_2 : SCode := .region [⟨some 17, .fieldAddr 26 (.tmp 5) 0, none⟩,
    ⟨some 18, .load 3 (.tmp 17), none⟩,
    ⟨some 19, .fieldAddr 26 (.tmp 6) 0, none⟩,
    ⟨some 20, .load 3 (.tmp 19), none⟩,
    ⟨some 21, .binOp .mul 3 (.tmp 18) (.tmp 20) 3, none⟩,
    ⟨some 22, .fieldAddr 26 (.tmp 5) 1, none⟩,
    ⟨some 23, .load 3 (.tmp 22), none⟩,
    ⟨some 24, .fieldAddr 26 (.tmp 6) 1, none⟩,
    ⟨some 25, .load 3 (.tmp 24), none⟩,
    ⟨some 26, .binOp .mul 3 (.tmp 23) (.tmp 25) 3, none⟩,
    ⟨some 27, .build 26 #[(0, .tmp 21), (1, .tmp 26)], none⟩,
    ⟨none, .store 26 (.tmp 4) (.tmp 27), none⟩]
def s72 : SCode := (.seq q72_0 (.seq q72_1 (.seq q72_2 .ret)))
theorem s72_strip : stripC (bodyOf Try.f72) = s72 := by kernel_rfl
theorem s72_ok : codeOK 28 (bodyOf Try.f72) = true := by kernel_rfl
/-! 88: planchet bets.gcd -/
@[reducible] def q88_0 : SCode := .region [⟨some 4, .assign (.const (.int .i64 0)), none⟩]
@[reducible] def q88_1 : SCode := .region [⟨some 5, .move (.tmp 1), none⟩,
    ⟨some 6, .binOp .neq 3 (.tmp 5) (.const (.int .i64 0)) 3, none⟩]
def q88_2 : SCode := .draw [⟨some 7, .move (.tmp 1), none⟩,
    ⟨some 8, .move (.tmp 0), none⟩,
    ⟨some 9, .move (.tmp 1), none⟩,
    ⟨some 10, .binOp .rem 3 (.tmp 8) (.tmp 9) 3, none⟩,
    ⟨some 0, .assign (.tmp 7), none⟩,
    ⟨some 1, .assign (.tmp 10), none⟩]
   [[], [], [], [1, 2], [0, 0, 1], [3, 4, 0, 1, 2, 3, 4]]
def l88_0 : SCode := (.seq (.seq q88_1 (.cond (.tmp 6) .skip (.exit 0))) (.block 1 q88_2))
@[reducible] def q88_3 : SCode := .region [⟨some 11, .move (.tmp 0), none⟩,
    ⟨some 12, .move (.tmp 0), none⟩,
    ⟨some 13, .unOp .neg 3 (.tmp 12), none⟩,
    ⟨some 14, .call { callee := .builtin .max, args := #[.tmp 11, .tmp 13], argTypes := #[3, 3] }, none⟩,
    ⟨some 4, .assign (.tmp 14), none⟩]
def s88 : SCode := (.seq q88_0 (.seq (.block 0 (.loop l88_0)) (.seq q88_3 .ret)))
theorem s88_strip : stripC (bodyOf Try.f88) = s88 := by kernel_rfl
theorem s88_ok : codeOK 15 (bodyOf Try.f88) = true := by kernel_rfl
theorem s88_call [Tabs Try.prog] {args : List Value} {h : Heap} {Q : Value → Heap → Prop} (hsz : args.length ≤ 15) (hk : aw Try.prog 15 s88 (aPost Try.prog [.tmp 4] Q) (argEnv 0 args) h) : ACall Try.prog 88 args h Q :=
  acall_s Try.func88 rfl (enters_of Try.func88 (by kernel_rfl) rfl) rfl rfl (by decide) s88_strip s88_ok hsz hk

/-! 94: planchet bets.over -/
@[reducible] def q94_0 : SCode := .region [⟨some 2, .box 26 (.tmp 0), none⟩,
    ⟨some 3, .box 26 (.tmp 1), none⟩,
    ⟨some 4, .alloc 26, none⟩]
def q94_1 : SCode := .draw [⟨some 5, .load 26 (.tmp 2), none⟩,
    ⟨some 6, .fieldAddr 26 (.tmp 3) 1, none⟩,
    ⟨some 7, .load 3 (.tmp 6), none⟩,
    ⟨some 8, .fieldAddr 26 (.tmp 3) 0, none⟩,
    ⟨some 9, .load 3 (.tmp 8), none⟩,
    ⟨some 10, .call { callee := .value (.func 64), args := #[.tmp 7, .tmp 9], argTypes := #[3, 3] }, none⟩,
    ⟨some 11, .call { callee := .value (.func 72), args := #[.tmp 5, .tmp 10], argTypes := #[26, 26] }, none⟩,
    ⟨none, .store 26 (.tmp 4) (.tmp 11), none⟩]
   [[], [], [1], [], [3], [2, 4], [0, 5, 5], [6, 6, 0, 1, 2, 3, 4, 5, 6]]
def s94 : SCode := (.seq q94_0 (.seq q94_1 .ret))
theorem s94_strip : stripC (bodyOf Try.f94) = s94 := by kernel_rfl
theorem s94_ok : codeOK 12 (bodyOf Try.f94) = true := by kernel_rfl
/-! 107: planchet bets.chance -/
@[reducible] def q107_0 : SCode := .region [⟨some 2, .box 26 (.tmp 0), none⟩,
    ⟨some 4, .assign (.const (.bool false)), none⟩]
@[reducible] def q107_1 : SCode := .region [⟨some 5, .load 26 (.tmp 2), none⟩,
    ⟨some 6, .move (.tmp 1), none⟩,
    ⟨some 7, .call { callee := .value (.func 118), args := #[.tmp 5, .tmp 6], argTypes := #[26, 3] }, none⟩,
    ⟨some 8, .move (.tmp 7), none⟩,
    ⟨some 9, .fieldAddr 26 (.tmp 2) 0, some (8, true)⟩,
    ⟨some 10, .load 3 (.tmp 9), some (8, true)⟩,
    ⟨some 11, .binOp .geq 3 (.tmp 10) (.const (.int .i64 0)) 3, some (8, true)⟩,
    ⟨some 12, .pick (.tmp 8) (.tmp 11) (.const (.bool false)), none⟩,
    ⟨some 13, .move (.tmp 12), none⟩,
    ⟨some 14, .fieldAddr 26 (.tmp 2) 0, some (13, true)⟩,
    ⟨some 15, .load 3 (.tmp 14), some (13, true)⟩,
    ⟨some 16, .fieldAddr 26 (.tmp 2) 1, some (13, true)⟩,
    ⟨some 17, .load 3 (.tmp 16), some (13, true)⟩,
    ⟨some 18, .binOp .leq 3 (.tmp 15) (.tmp 17) 3, some (13, true)⟩,
    ⟨some 19, .pick (.tmp 13) (.tmp 18) (.const (.bool false)), none⟩,
    ⟨some 4, .assign (.tmp 19), none⟩]
def s107 : SCode := (.seq q107_0 (.seq q107_1 .ret))
theorem s107_strip : stripC (bodyOf Try.f107) = s107 := by kernel_rfl
theorem s107_ok : codeOK 20 (bodyOf Try.f107) = true := by kernel_rfl
/-! 118: planchet bets.lowest -/
@[reducible] def q118_0 : SCode := .region [⟨some 2, .box 26 (.tmp 0), none⟩,
    ⟨some 4, .assign (.const (.bool false)), none⟩]
@[reducible] def q118_1 : SCode := .region [⟨some 5, .fieldAddr 26 (.tmp 2) 1, none⟩,
    ⟨some 6, .load 3 (.tmp 5), none⟩,
    ⟨some 7, .binOp .geq 3 (.tmp 6) (.const (.int .i64 1)) 3, none⟩,
    ⟨some 8, .move (.tmp 7), none⟩,
    ⟨some 9, .fieldAddr 26 (.tmp 2) 1, some (8, true)⟩,
    ⟨some 10, .load 3 (.tmp 9), some (8, true)⟩,
    ⟨some 11, .move (.tmp 1), some (8, true)⟩,
    ⟨some 12, .binOp .leq 3 (.tmp 10) (.tmp 11) 3, some (8, true)⟩,
    ⟨some 13, .pick (.tmp 8) (.tmp 12) (.const (.bool false)), none⟩,
    ⟨some 14, .move (.tmp 13), none⟩,
    ⟨some 15, .fieldAddr 26 (.tmp 2) 0, some (14, true)⟩,
    ⟨some 16, .load 3 (.tmp 15), some (14, true)⟩,
    ⟨some 17, .fieldAddr 26 (.tmp 2) 1, some (14, true)⟩,
    ⟨some 18, .load 3 (.tmp 17), some (14, true)⟩,
    ⟨some 19, .call { callee := .value (.func 88), args := #[.tmp 16, .tmp 18], argTypes := #[3, 3] }, some (14, true)⟩,
    ⟨some 20, .binOp .eql 3 (.tmp 19) (.const (.int .i64 1)) 3, some (14, true)⟩,
    ⟨some 21, .pick (.tmp 14) (.tmp 20) (.const (.bool false)), none⟩,
    ⟨some 4, .assign (.tmp 21), none⟩]
def s118 : SCode := (.seq q118_0 (.seq q118_1 .ret))
theorem s118_strip : stripC (bodyOf Try.f118) = s118 := by kernel_rfl
theorem s118_ok : codeOK 22 (bodyOf Try.f118) = true := by kernel_rfl
end Go.Proofs.Try.Am

namespace Bq

theorem mul_den (q : Rat) : q * (q.den : Rat) = (q.num : Rat) := by
  have h := Rat.num_divInt_den q
  rw [Rat.divInt_eq_div] at h
  have h0 : (q.den : Rat) ≠ 0 := by
    have := q.den_nz
    intro hc
    exact this (by exact_mod_cast hc)
  conv => lhs; lhs; rw [← h]
  rw [Rat.intCast_natCast]
  exact Rat.div_mul_cancel h0
theorem eq_of_mul {a b c : Rat} (hc : c ≠ 0) (h : a * c = b * c) : a = b := by
  rw [← Rat.mul_div_cancel (a := a) hc, h, Rat.mul_div_cancel hc]
/-- What is y times as great as x is a fraction of them. -/
theorem divInt_of_mul {x y : Int} {q : Rat} (hy : y ≠ 0) (h : q * (y : Rat) = (x : Rat)) : Rat.divInt x y = q := by
  have h0 : (y : Rat) ≠ 0 := fun hc => hy (by exact_mod_cast hc)
  rw [Rat.divInt_eq_div, ← h]
  exact Rat.mul_div_cancel h0
theorem divInt_mul {x y : Int} (hy : y ≠ 0) : Rat.divInt x y * (y : Rat) = (x : Rat) := by
  have h0 : (y : Rat) ≠ 0 := fun hc => hy (by exact_mod_cast hc)
  rw [Rat.divInt_eq_div]
  exact Rat.div_mul_cancel h0

/-- q is x of N parts. -/
def Rp (N : Nat) (x : Int) (q : Rat) : Prop := 0 < N ∧ q * (N : Rat) = (x : Rat)

section
variable {N M : Nat} {x y k : Int} {a b q : Rat}
theorem Rp.pos (h : Rp N x q) : 0 < N := h.1
theorem Rp.int (h : Rp N x q) : q.num * N = x * q.den := by
  have h1 := h.2
  have h2 := mul_den q
  have : (q.num : Rat) * (N : Rat) = (x : Rat) * (q.den : Rat) := by grind
  exact_mod_cast this
theorem Rp.dvd (h : Rp N x q) : q.den ∣ N := by
  have h1 := h.int
  have h2 : (q.den : Int) ∣ q.num * (N : Int) := ⟨x, by rw [h1, Int.mul_comm]⟩
  have h3 : q.den ∣ q.num.natAbs * N := by
    have := Int.natAbs_dvd_natAbs.2 h2
    simpa [Int.natAbs_mul] using this
  exact Nat.Coprime.dvd_of_dvd_mul_left (Nat.Coprime.symm q.reduced) h3
theorem Rp.num (h : Rp N x q) : q.num * ((N / q.den : Nat) : Int) = x := by
  obtain ⟨t, ht⟩ := h.dvd
  have hd : 0 < q.den := q.den_pos
  have h1 := h.int
  have e : N / q.den = t := by rw [ht]; exact Nat.mul_div_cancel_left _ hd
  rw [e]
  have h2 : (q.den : Int) * (q.num * t) = q.den * x := by
    rw [Int.mul_comm (q.den : Int) x, ← h1, ht]
    push_cast
    grind
  exact Int.eq_of_mul_eq_mul_left (by omega) h2
theorem Rp.le (h : Rp N x q) : q.num.natAbs ≤ x.natAbs := by
  rw [← h.num, Int.natAbs_mul, Int.natAbs_natCast]
  refine Nat.le_mul_of_pos_right _ ?_
  exact Nat.div_pos (Nat.le_of_dvd h.pos h.dvd) q.den_pos
theorem Rp.den_le (h : Rp N x q) : q.den ≤ N := Nat.le_of_dvd h.pos h.dvd
theorem Rp.own (q : Rat) : Rp q.den q.num q := ⟨q.den_pos, mul_den q⟩
theorem Rp.whole (hN : 0 < N) (k : Int) : Rp N (k * N) (k : Rat) := ⟨hN, by push_cast; rfl⟩
theorem Rp.up (h : Rp N x q) (t : Nat) (ht : 0 < t) : Rp (N * t) (x * t) q := ⟨Nat.mul_pos h.1 ht, by have := h.2; push_cast; grind⟩
theorem Rp.up' (h : Rp N x q) (hd : N ∣ M) (hM : 0 < M) : Rp M (x * ((M / N : Nat) : Int)) q := by
  obtain ⟨t, rfl⟩ := hd
  have ht : 0 < t := Nat.pos_of_mul_pos_left hM
  rw [Nat.mul_div_cancel_left _ h.1]
  exact h.up t ht
theorem Rp.plus (ha : Rp N x a) (hb : Rp N y b) (k : Int) : Rp N (x + k * y) (a + k * b) := ⟨ha.1, by have := ha.2; have := hb.2; push_cast; grind⟩
theorem Rp.mul (ha : Rp N x a) (hb : Rp M y b) : Rp (N * M) (x * y) (a * b) := ⟨Nat.mul_pos ha.1 hb.1, by have := ha.2; have := hb.2; push_cast; grind⟩
theorem Rp.uniq (ha : Rp N x a) (hb : Rp N x b) : a = b := by
  have h0 : (N : Rat) ≠ 0 := fun hc => by have := ha.1; have : N = 0 := by exact_mod_cast hc
                                          omega
  have h1 : a * (N : Rat) = b * N := by rw [ha.2, hb.2]
  have := congrArg (· / (N : Rat)) h1
  simpa [Rat.mul_div_cancel h0] using this
theorem Rp.frac (h : Rp N x q) : Rat.divInt x N = q := divInt_of_mul (by have := h.1; omega) (by rw [Rat.intCast_natCast]; exact h.2)
theorem Rp.of_frac (hN : 0 < N) (x : Int) : Rp N x (Rat.divInt x N) := ⟨hN, by have := divInt_mul (x := x) (y := (N : Int)) (by omega); rwa [Rat.intCast_natCast] at this⟩
theorem Rp.neg (h : Rp N x q) : Rp N (-x) (-q) := ⟨h.1, by have := h.2; push_cast; grind⟩
theorem Rp.lt (ha : Rp N x a) (hb : Rp N y b) : a < b ↔ x < y := by
  have h0 : (0 : Rat) < N := by exact_mod_cast ha.1
  rw [← Rat.mul_lt_mul_right h0, ha.2, hb.2]
  exact Rat.intCast_lt_intCast
end

/-- The sum as the program makes it. -/
theorem plus_eq (a b : Rat) (k : Int) : Rat.divInt (a.num * ((b.den / Nat.gcd a.den b.den : Nat) : Int) + k * b.num * ((a.den / Nat.gcd a.den b.den : Nat) : Int)) (((a.den / Nat.gcd a.den b.den : Nat) : Int) * b.den) = a + k * b := by
  have hg : 0 < Nat.gcd a.den b.den := Nat.gcd_pos_of_pos_left _ a.den_pos
  obtain ⟨A, hA⟩ := Nat.gcd_dvd_left a.den b.den
  obtain ⟨B, hB⟩ := Nat.gcd_dvd_right a.den b.den
  generalize hgd : Nat.gcd a.den b.den = g at hg hA hB
  have eA : a.den / g = A := by rw [hA]; exact Nat.mul_div_cancel_left _ hg
  have eB : b.den / g = B := by rw [hB]; exact Nat.mul_div_cancel_left _ hg
  rw [eA, eB]
  have hA0 : A ≠ 0 := fun h => by rw [h, Nat.mul_zero] at hA; exact a.den_nz hA
  refine divInt_of_mul ?_ ?_
  · have := b.den_nz
    exact Int.mul_ne_zero (by omega) (by omega)
  · have h1 := mul_den a
    have h2 := mul_den b
    rw [hA] at h1
    rw [hB] at h2 ⊢
    push_cast at h1 h2 ⊢
    grind
/-- What stands in it is no greater than the parts. -/
theorem plus_bound {N : Nat} {x y k : Int} {a b : Rat} (ha : Rp N x a) (hb : Rp N y b) :
    (a.num * ((b.den / Nat.gcd a.den b.den : Nat) : Int)).natAbs ≤ x.natAbs ∧ (k * b.num).natAbs ≤ (k * y).natAbs ∧ (k * b.num * ((a.den / Nat.gcd a.den b.den : Nat) : Int)).natAbs ≤ (k * y).natAbs ∧ a.den / Nat.gcd a.den b.den * b.den ≤ N ∧ 0 < a.den / Nat.gcd a.den b.den * b.den := by
  have hg : 0 < Nat.gcd a.den b.den := Nat.gcd_pos_of_pos_left _ a.den_pos
  have hl : a.den / Nat.gcd a.den b.den * b.den = Nat.lcm a.den b.den := by
    rw [Nat.lcm, Nat.div_mul_right_comm (Nat.gcd_dvd_left _ _)]
  have hl2 : b.den / Nat.gcd a.den b.den * a.den = Nat.lcm a.den b.den := by
    rw [Nat.lcm, Nat.mul_comm a.den b.den, Nat.div_mul_right_comm (Nat.gcd_dvd_right _ _)]
  have hdvd : Nat.lcm a.den b.den ∣ N := Nat.lcm_dvd ha.dvd hb.dvd
  obtain ⟨t, ht⟩ := hdvd
  have hN := ha.pos
  have ht0 : 0 < t := Nat.pos_of_ne_zero fun h => by rw [h, Nat.mul_zero] at ht; omega
  have hx : x = a.num * ((b.den / Nat.gcd a.den b.den : Nat) : Int) * t := by
    rw [← ha.num]
    have : N / a.den = b.den / Nat.gcd a.den b.den * t := by
      rw [ht, ← hl2]
      rw [show b.den / Nat.gcd a.den b.den * a.den * t = a.den * (b.den / Nat.gcd a.den b.den * t) by rw [Nat.mul_comm _ a.den, Nat.mul_assoc]]
      exact Nat.mul_div_cancel_left _ a.den_pos
    rw [this]; push_cast; rw [Int.mul_assoc]
  have hy : y = b.num * ((a.den / Nat.gcd a.den b.den : Nat) : Int) * t := by
    rw [← hb.num]
    have : N / b.den = a.den / Nat.gcd a.den b.den * t := by
      rw [ht, ← hl]
      rw [show a.den / Nat.gcd a.den b.den * b.den * t = b.den * (a.den / Nat.gcd a.den b.den * t) by rw [Nat.mul_comm _ b.den, Nat.mul_assoc]]
      exact Nat.mul_div_cancel_left _ b.den_pos
    rw [this]; push_cast; rw [Int.mul_assoc]
  have hag : 0 < a.den / Nat.gcd a.den b.den := Nat.div_pos (Nat.le_of_dvd a.den_pos (Nat.gcd_dvd_left _ _)) hg
  refine ⟨?_, ?_, ?_, ?_, ?_⟩
  · rw [hx, Int.natAbs_mul _ (t : Int), Int.natAbs_natCast]; exact Nat.le_mul_of_pos_right _ ht0
  · rw [Int.natAbs_mul, Int.natAbs_mul]; exact Nat.mul_le_mul_left _ hb.le
  · rw [hy, ← Int.mul_assoc, ← Int.mul_assoc, Int.natAbs_mul _ (t : Int), Int.natAbs_natCast]; exact Nat.le_mul_of_pos_right _ ht0
  · rw [hl]; exact Nat.le_of_dvd hN ⟨t, ht⟩
  · exact Nat.mul_pos hag b.den_pos

/-- The product as the program makes it. -/
theorem times_eq (a b : Rat) : (Rat.divInt a.num b.den).num * (Rat.divInt b.num a.den).num = (a * b).num ∧ (Rat.divInt a.num b.den).den * (Rat.divInt b.num a.den).den = (a * b).den := by
  have hb0 : (b.den : Int) ≠ 0 := by have := b.den_nz; omega
  have ha0 : (a.den : Int) ≠ 0 := by have := a.den_nz; omega
  have h1 := divInt_mul (x := a.num) hb0
  have h2 := divInt_mul (x := b.num) ha0
  have d1 : (Rat.divInt a.num b.den).num ∣ a.num := by
    have : Rp b.den a.num (Rat.divInt a.num b.den) := Rp.of_frac b.den_pos _
    exact ⟨_, this.num.symm⟩
  have d2 : (Rat.divInt b.num a.den).num ∣ b.num := by
    have : Rp a.den b.num (Rat.divInt b.num a.den) := Rp.of_frac a.den_pos _
    exact ⟨_, this.num.symm⟩
  have e1 : (Rat.divInt a.num b.den).den ∣ b.den := (Rp.of_frac b.den_pos a.num).dvd
  have e2 : (Rat.divInt b.num a.den).den ∣ a.den := (Rp.of_frac a.den_pos b.num).dvd
  generalize hu : Rat.divInt a.num b.den = u at *
  generalize hv : Rat.divInt b.num a.den = v at *
  have hc : Nat.Coprime (u.num * v.num).natAbs (u.den * v.den) := by
    rw [Int.natAbs_mul]
    have c1 : Nat.Coprime u.num.natAbs v.den := Nat.Coprime.coprime_dvd_left (Int.natAbs_dvd_natAbs.2 d1) (Nat.Coprime.coprime_dvd_right e2 a.reduced)
    have c2 : Nat.Coprime v.num.natAbs u.den := Nat.Coprime.coprime_dvd_left (Int.natAbs_dvd_natAbs.2 d2) (Nat.Coprime.coprime_dvd_right e1 b.reduced)
    exact Nat.Coprime.mul_left (Nat.Coprime.mul_right u.reduced c1) (Nat.Coprime.mul_right c2 v.reduced)
  have hd : u.den * v.den ≠ 0 := Nat.mul_ne_zero u.den_nz v.den_nz
  have key : (⟨u.num * v.num, u.den * v.den, hd, hc⟩ : Rat) = a * b := by
    have k1 : (⟨u.num * v.num, u.den * v.den, hd, hc⟩ : Rat) = u * v := by
      have := mul_den (⟨u.num * v.num, u.den * v.den, hd, hc⟩ : Rat)
      simp only at this
      have hu2 := mul_den u
      have hv2 := mul_den v
      have hn : ((u.den * v.den : Nat) : Rat) ≠ 0 := fun h => hd (by exact_mod_cast h)
      have k2 : (⟨u.num * v.num, u.den * v.den, hd, hc⟩ : Rat) * ((u.den * v.den : Nat) : Rat) = u * v * ((u.den * v.den : Nat) : Rat) := by
        rw [this]; push_cast; grind
      exact eq_of_mul hn k2
    rw [k1]
    have ha2 := mul_den a
    have hb2 := mul_den b
    have hn : ((a.den * b.den : Nat) : Rat) ≠ 0 := fun h => Nat.mul_ne_zero a.den_nz b.den_nz (by exact_mod_cast h)
    have k2 : u * v * ((a.den * b.den : Nat) : Rat) = a * b * ((a.den * b.den : Nat) : Rat) := by
      rw [Rat.intCast_natCast] at h1 h2
      push_cast; grind
    exact eq_of_mul hn k2
  exact ⟨by rw [← key], by rw [← key]⟩
end Bq

namespace Go.Proofs.Try.Am
open Go.Am Bq
set_option maxRecDepth 100000
set_option maxHeartbeats 1000000

theorem set_new (h : Heap) (A B : Blk) : (h ++ [A]).set h.length B = h ++ [B] := by
  rw [List.set_append_right _ _ (Nat.le_refl _)]; simp
/-- A fraction, as it stands, and that of a number. -/
def frV (x y : Int) : Value := .agg #[vint x, vint y]
def qV (q : Rat) : Value := frV q.num q.den
theorem low_frV (x y : Int) : Low (frV x y) := .agg fun w hw => by
  simp at hw; rcases hw with rfl | rfl <;> exact .int _ _
theorem loadF {h : Heap} {b : Nat} {x y : Int} {e : TypeId} {ro : Bool} {K : Value → Prop} (hb : h[b]? = some (.cells [vint x, vint y] e ro)) : loadK prog h 26 (.pointer (some ⟨b, 0, none⟩)) K = K (.agg #[vint x, vint y]) :=
  loadA hb (by rw [shp_26]; rfl)
theorem loadF0 {h : Heap} {b : Nat} {x y : Int} {e : TypeId} {ro : Bool} {K : Value → Prop} (hb : h[b]? = some (.cells [vint x, vint y] e ro)) : loadK prog h 3 (.pointer (some ⟨b, 0, none⟩)) K = K (vint x) := loadC hb shp_3 rfl
theorem loadF1 {h : Heap} {b : Nat} {x y : Int} {e : TypeId} {ro : Bool} {K : Value → Prop} (hb : h[b]? = some (.cells [vint x, vint y] e ro)) : loadK prog h 3 (.pointer (some ⟨b, 1, none⟩)) K = K (vint y) := loadC hb shp_3 rfl
theorem storeF {h : Heap} {b : Nat} {x y : Int} {e : TypeId} {c : List Value} {K : Heap → Prop} (hb : h[b]? = some (.cells c e false)) (hc : c.length = 2) : storeK prog h 26 (.pointer (some ⟨b, 0, none⟩)) (.agg #[vint x, vint y]) K = K (h.set b (.cells [vint x, vint y] e false)) :=
  storeA (vs := [vint x, vint y]) hb (by rw [shp_26]; rfl) rfl (by rw [hc]; rfl)
theorem bldF {x y : Int} {K : Value → Prop} : buildK prog 26 [(0, vint x), (1, vint y)] K = K (.agg #[vint x, vint y]) := by
  simp [buildK, zero_26, fillL, pl_26_0, pl_26_1, notTuple, cellsOf, splice]
theorem bldF0 {K : Value → Prop} : buildK prog 26 [] K = K (.agg #[vint 0, vint 0]) := by
  simp [buildK, zero_26, fillL, pl_26_0]
theorem boxF {h : Heap} {x y : Int} {K : Value → Heap → Prop} : boxK prog h 26 (.agg #[vint x, vint y]) K = K (newPtr h) (h ++ [.cells [vint x, vint y] 26 false]) := by
  simp [boxK, esz_26, newPtr, cellsOf]
theorem fA0 {b : Nat} {K : Value → Prop} : fieldAddrK prog 26 (.pointer (some ⟨b, 0, none⟩)) 0 K = K (.pointer (some ⟨b, 0, none⟩)) := fldA fld_26_0 esz_3
theorem fA1 {b : Nat} {K : Value → Prop} : fieldAddrK prog 26 (.pointer (some ⟨b, 0, none⟩)) 1 K = K (.pointer (some ⟨b, 1, none⟩)) := fldA fld_26_1 esz_3
noncomputable def okF (p : Field × Nat) : Bool := p.1.name != "_" && (match prog.underlying p.1.type with | some (.int .i64) => true | _ => false) && p.1.offset == p.2
theorem eqF [Tabs prog] : EqT prog 26 2 := eqT_struct (by kernel_rfl) (by kernel_rfl) (by kernel_rfl) (fun j f hf => by
  have h4 : (prog.fieldsOf 26).toList.zipIdx.all okF = true := by kernel_rfl
  have h5 := List.all_eq_true.1 h4 (f, j) (by rw [List.mem_zipIdx_iff_getElem?]; exact hf)
  simp only [okF, Bool.and_eq_true, bne_iff_ne, beq_iff_eq] at h5
  refine ⟨h5.1.1, ?_, h5.2⟩
  have h6 := h5.1.2
  split at h6
  · assumption
  · cases h6) (by kernel_rfl)

theorem quo_dvd {x y : Int} (hx : x.natAbs < 9223372036854775808) (hd : y ∣ x) : quoV .i64 x y = x / y := by
  rw [quoV, Int.tdiv_eq_ediv_of_dvd hd]
  have h1 : (x / y).natAbs ≤ x.natAbs := by
    obtain ⟨t, rfl⟩ := hd
    rcases Int.lt_trichotomy y 0 with h | h | h
    · rw [Int.mul_ediv_cancel_left _ (by omega), Int.natAbs_mul]; exact Nat.le_mul_of_pos_left _ (by omega)
    · subst h; simp
    · rw [Int.mul_ediv_cancel_left _ (by omega), Int.natAbs_mul]; exact Nat.le_mul_of_pos_left _ (by omega)
  exact wrap_id (by omega) (by omega)
theorem tmod_abs (x : Int) {y : Int} (hy : y ≠ 0) : (x.tmod y).natAbs < y.natAbs := by
  rw [Int.natAbs_tmod]; exact Nat.mod_lt _ (by omega)
theorem gcd_tmod (x y : Int) : Nat.gcd y.natAbs (x.tmod y).natAbs = Nat.gcd x.natAbs y.natAbs := by
  rw [Int.natAbs_tmod, Nat.gcd_comm y.natAbs, ← Nat.gcd_rec, Nat.gcd_comm]
theorem max_abs {x : Int} (hx : x.natAbs < 9223372036854775808) : (if subV .i64 0 x > x then subV .i64 0 x else x) = (x.natAbs : Int) := by
  rw [subV_id (by omega) (by omega)]; split <;> omega

theorem gcd_call [Tabs prog] {h : Heap} {a b : Int} (ha : a.natAbs < 9223372036854775808 ∨ b ≠ 0) (hb2 : b.natAbs < 9223372036854775808) : APure prog 88 [vint a, vint b] h (vint (Nat.gcd a.natAbs b.natAbs : Nat)) := by
  refine s88_call (by simp) ?_
  simp only [s88]
  simp (maxSteps := 2000000) only [s88, ↓aw_region, ↓aw_skip, ↓aw_seq, ↓aw_block, ↓aw_exit, ↓aw_ret, ↓sops_nil, ↓sops_go, ↓dops_nil, ↓dopsX_nil, ↓dopsR_nil, ↓vdn, vup, extr_20, extr_21, extr_30, extr_31, extr_32, List.map_cons, List.map_nil, cond_true, cond_false, aop, aThen, aBlock, argEnv, ev, sput, sputO, binK, binI, unK, builtinK, pickK, Nat.reduceBEq, Nat.reduceAdd, Int.reduceBEq, Int.reduceBNe, Int.reduceLT, aPost, resK, tup, tyf, ↓aw_loop_eq]
  refine aws_hide fun Q hQ => ?_
  refine aw_loop (γ := Int × Int) (fun s => Nat.gcd s.1.natAbs s.2.natAbs = Nat.gcd a.natAbs b.natAbs ∧ (s.1.natAbs < 9223372036854775808 ∨ s.2 ≠ 0) ∧ s.2.natAbs < 9223372036854775808)
    (fun s => ([(0, vint s.1), (1, vint s.2), (4, .int .i64 0)], h)) (fun s => s.2.natAbs) (a, b) ⟨rfl, ha, hb2⟩ (by simp (maxSteps := 2000000) only [↓aw_region, ↓aw_skip, ↓aw_seq, ↓aw_block, ↓aw_exit, ↓aw_ret, ↓sops_nil, ↓sops_go, ↓dops_nil, ↓dopsX_nil, ↓dopsR_nil, ↓vdn, vup, extr_20, extr_21, extr_30, extr_31, extr_32, List.map_cons, List.map_nil, cond_true, cond_false, aop, aThen, aBlock, argEnv, ev, sput, sputO, binK, binI, unK, builtinK, pickK, Nat.reduceBEq, Nat.reduceAdd, Int.reduceBEq, Int.reduceBNe, Int.reduceLT, aPost, resK, tup, tyf]) rfl ?_
  rintro ⟨x, y⟩ ⟨hxy, hx, hy⟩
  simp only at hxy hx hy
  refine aw_hide fun Q2 hQ2 => ?_
  by_cases hy0 : y = 0
  · subst hy0
    have e0 : ((0 : Int) != 0) = false := rfl
    rw [Int.natAbs_zero, Nat.gcd_zero_right] at hxy
    have hx' : x.natAbs < 9223372036854775808 := hx.resolve_right (by simp)
    simp (maxSteps := 2000000) only [s88, ↓aw_region, ↓aw_skip, ↓aw_seq, ↓aw_block, ↓aw_exit, ↓aw_ret, ↓sops_nil, ↓sops_go, ↓dops_nil, ↓dopsX_nil, ↓dopsR_nil, ↓vdn, vup, extr_20, extr_21, extr_30, extr_31, extr_32, List.map_cons, List.map_nil, cond_true, cond_false, aop, aThen, aBlock, argEnv, ev, sput, sputO, binK, binI, unK, builtinK, pickK, Nat.reduceBEq, Nat.reduceAdd, Int.reduceBEq, Int.reduceBNe, Int.reduceLT, aPost, resK, tup, tyf, l88_0, e0]
    refine hQ2 _ _ _ (hQ _ _ _ ?_)
    simp (maxSteps := 2000000) only [s88, ↓aw_region, ↓aw_skip, ↓aw_seq, ↓aw_block, ↓aw_exit, ↓aw_ret, ↓sops_nil, ↓sops_go, ↓dops_nil, ↓dopsX_nil, ↓dopsR_nil, ↓vdn, vup, extr_20, extr_21, extr_30, extr_31, extr_32, List.map_cons, List.map_nil, cond_true, cond_false, aop, aThen, aBlock, argEnv, ev, sput, sputO, binK, binI, unK, builtinK, pickK, Nat.reduceBEq, Nat.reduceAdd, Int.reduceBEq, Int.reduceBNe, Int.reduceLT, aPost, resK, tup, tyf, if_true, mmK, max_abs hx', hxy]
  · have e0 : (y != 0) = true := by simpa using hy0
    simp (maxSteps := 2000000) only [s88, ↓aw_region, ↓aw_skip, ↓aw_seq, ↓aw_block, ↓aw_exit, ↓aw_ret, ↓sops_nil, ↓sops_go, ↓dops_nil, ↓dopsX_nil, ↓dopsR_nil, ↓vdn, vup, extr_20, extr_21, extr_30, extr_31, extr_32, List.map_cons, List.map_nil, cond_true, cond_false, aop, aThen, aBlock, argEnv, ev, sput, sputO, binK, binI, unK, builtinK, pickK, Nat.reduceBEq, Nat.reduceAdd, Int.reduceBEq, Int.reduceBNe, Int.reduceLT, aPost, resK, tup, tyf, l88_0, e0]
    refine aw_drawX [] (by kernel_rfl) (by kernel_rfl) (by kernel_rfl) (by kernel_rfl) ?_
    simp (maxSteps := 2000000) only [s88, ↓aw_region, ↓aw_skip, ↓aw_seq, ↓aw_block, ↓aw_exit, ↓aw_ret, ↓sops_nil, ↓sops_go, ↓dops_nil, ↓dopsX_nil, ↓dopsR_nil, ↓vdn, vup, extr_20, extr_21, extr_30, extr_31, extr_32, List.map_cons, List.map_nil, cond_true, cond_false, aop, aThen, aBlock, argEnv, ev, sput, sputO, binK, binI, unK, builtinK, pickK, Nat.reduceBEq, Nat.reduceAdd, Int.reduceBEq, Int.reduceBNe, Int.reduceLT, aPost, resK, tup, tyf, ne_eq, hy0, not_false_eq_true]
    have hlt := tmod_abs x hy0
    exact hQ2 _ _ _ ⟨(y, x.tmod y), ⟨by simp only; rw [gcd_tmod, hxy], .inl hy, by simp only; omega⟩, hlt, by simp (maxSteps := 2000000) only [↓aw_region, ↓aw_skip, ↓aw_seq, ↓aw_block, ↓aw_exit, ↓aw_ret, ↓sops_nil, ↓sops_go, ↓dops_nil, ↓dopsX_nil, ↓dopsR_nil, ↓vdn, vup, extr_20, extr_21, extr_30, extr_31, extr_32, List.map_cons, List.map_nil, cond_true, cond_false, aop, aThen, aBlock, argEnv, ev, sput, sputO, binK, binI, unK, builtinK, pickK, Nat.reduceBEq, Nat.reduceAdd, Int.reduceBEq, Int.reduceBNe, Int.reduceLT, aPost, resK, tup, tyf], rfl⟩

/-- The least terms, as the program makes them. -/
theorem terms {x : Int} {n : Nat} (hn : 0 < n) : x / ((Nat.gcd x.natAbs n : Nat) : Int) = (Rat.divInt x n).num ∧ ((n / Nat.gcd x.natAbs n : Nat) : Int) = (Rat.divInt x n).den := by
  rw [Rat.divInt_ofNat, Rat.num_mkRat, Rat.den_mkRat, if_neg (by omega), if_neg (by omega), Nat.gcd_comm n]
  exact ⟨rfl, rfl⟩
theorem gcd_dvd_int (x : Int) (n : Nat) : ((Nat.gcd x.natAbs n : Nat) : Int) ∣ x := Int.dvd_natAbs.1 (Int.natCast_dvd_natCast.2 (Nat.gcd_dvd_left _ _))

theorem s64_callW [Tabs Try.prog] {args : List Value} {h : Heap} {Q : Value → Heap → Prop} (hsz : args.length ≤ 22) (hk : AWS Try.prog 22 s64 (aPost Try.prog [.cell 4 26] Q) (argEnv 0 args) h) : ACall Try.prog 64 args h Q :=
  acall_w Try.func64 rfl (enters_of Try.func64 (by kernel_rfl) rfl) rfl rfl (by decide) s64_strip s64_ok hsz hk
theorem frac_call [Tabs prog] {h : Heap} {a b : Int} (hb : b ≠ 0) (ha : a.natAbs < 9223372036854775808) (hb2 : b.natAbs < 9223372036854775808) : APure prog 64 [vint a, vint b] h (qV (Rat.divInt a b)) := by
  have c0 := get_new h (Blk.cells [.int .i64 0, .int .i64 0] 26 false)
  have hE0 : Ext (fun _ => False) h (h ++ [Blk.cells [.int .i64 0, .int .i64 0] 26 false]) := Ext.app _ _ _
  obtain ⟨x, n, hn, hx, hn2, hq, hneg, hpos⟩ : ∃ (x : Int) (n : Nat), 0 < n ∧ x.natAbs < 9223372036854775808 ∧ n < 9223372036854775808 ∧ Rat.divInt x n = Rat.divInt a b ∧ (b < 0 → subV .i64 0 a = x ∧ subV .i64 0 b = n) ∧ (¬ b < 0 → a = x ∧ b = n) := by
    by_cases h0 : b < 0
    · refine ⟨-a, b.natAbs, by omega, by omega, hb2, ?_, fun _ => ⟨?_, ?_⟩, fun h => absurd h0 h⟩
      · rw [show ((b.natAbs : Nat) : Int) = -b by omega]; exact Rat.neg_divInt_neg a b
      · rw [subV_id (by omega) (by omega)]; omega
      · rw [subV_id (by omega) (by omega)]; omega
    · exact ⟨a, b.natAbs, by omega, ha, hb2, by rw [show ((b.natAbs : Nat) : Int) = b by omega], fun h => absurd h h0, fun _ => ⟨rfl, by omega⟩⟩
  refine ACall.forget (low_frV _ _) ?_
  refine s64_callW (by simp) ?_
  simp only [s64]
  refine aws_cut fun N1 hN1 => ?_
  simp (maxSteps := 2000000) only [s64, ↓aw_region, ↓aw_skip, ↓aw_seq, ↓aw_block, ↓aw_exit, ↓aw_ret, ↓sops_nil, ↓sops_go, ↓dops_nil, ↓dopsX_nil, ↓dopsR_nil, ↓vdn, vup, extr_20, extr_21, extr_30, extr_31, extr_32, List.map_cons, List.map_nil, cond_true, cond_false, aop, aThen, aBlock, argEnv, ev, sput, sputO, binK, binI, unK, builtinK, pickK, Nat.reduceBEq, Nat.reduceAdd, Int.reduceBEq, Int.reduceBNe, Int.reduceLT, aPost, resK, tup, tyf, allocK, newPtr, zero_26]
  refine hN1 [(0, vint a), (1, vint b), (4, .pointer (some ⟨h.length, 0, none⟩))] _ _ ?_ (by simp (maxSteps := 2000000) only [↓aw_region, ↓aw_skip, ↓aw_seq, ↓aw_block, ↓aw_exit, ↓aw_ret, ↓sops_nil, ↓sops_go, ↓dops_nil, ↓dopsX_nil, ↓dopsR_nil, ↓vdn, vup, extr_20, extr_21, extr_30, extr_31, extr_32, List.map_cons, List.map_nil, cond_true, cond_false, aop, aThen, aBlock, argEnv, ev, sput, sputO, binK, binI, unK, builtinK, pickK, Nat.reduceBEq, Nat.reduceAdd, Int.reduceBEq, Int.reduceBNe, Int.reduceLT, aPost, resK, tup, tyf])
  clear hN1
  try clear N1
  refine aws_cut fun M hM => ?_
  have key : ∀ e, ELe e [(0, vint x), (1, vint (n : Int)), (4, .pointer (some ⟨h.length, 0, none⟩))] → M e (h ++ [Blk.cells [.int .i64 0, .int .i64 0] 26 false]) := by
    intro e he
    refine hM [(0, vint x), (1, vint (n : Int)), (4, .pointer (some ⟨h.length, 0, none⟩))] _ _ ?_ he
    refine aws_cut fun N2 hN2 => ?_
    simp (maxSteps := 2000000) only [s64, ↓aw_region, ↓aw_skip, ↓aw_seq, ↓aw_block, ↓aw_exit, ↓aw_ret, ↓sops_nil, ↓sops_go, ↓dops_nil, ↓dopsX_nil, ↓dopsR_nil, ↓vdn, vup, extr_20, extr_21, extr_30, extr_31, extr_32, List.map_cons, List.map_nil, cond_true, cond_false, aop, aThen, aBlock, argEnv, ev, sput, sputO, binK, binI, unK, builtinK, pickK, Nat.reduceBEq, Nat.reduceAdd, Int.reduceBEq, Int.reduceBNe, Int.reduceLT, aPost, resK, tup, tyf, callK, List.nil_append, List.append_nil, List.toList_toArray, List.cons_append]
    refine (gcd_call (.inl hx) (by omega)).mono ?_
    rintro _ _ ⟨rfl, rfl⟩
    rw [Int.natAbs_natCast]
    refine hN2 [(0, vint x), (1, vint (n : Int)), (4, .pointer (some ⟨h.length, 0, none⟩)), (5, vint (Nat.gcd x.natAbs n : Nat))] _ _ ?_ (by simp (maxSteps := 2000000) only [↓aw_region, ↓aw_skip, ↓aw_seq, ↓aw_block, ↓aw_exit, ↓aw_ret, ↓sops_nil, ↓sops_go, ↓dops_nil, ↓dopsX_nil, ↓dopsR_nil, ↓vdn, vup, extr_20, extr_21, extr_30, extr_31, extr_32, List.map_cons, List.map_nil, cond_true, cond_false, aop, aThen, aBlock, argEnv, ev, sput, sputO, binK, binI, unK, builtinK, pickK, Nat.reduceBEq, Nat.reduceAdd, Int.reduceBEq, Int.reduceBNe, Int.reduceLT, aPost, resK, tup, tyf])
    clear hN2
    try clear N2
    have hg : ¬ ((Nat.gcd x.natAbs n : Nat) : Int) = 0 := by have := Nat.gcd_pos_of_pos_right x.natAbs hn; omega
    have q1 : quoV .i64 x ((Nat.gcd x.natAbs n : Nat) : Int) = (Rat.divInt a b).num := by rw [quo_dvd hx (gcd_dvd_int _ _), (terms hn).1, hq]
    have q2 : quoV .i64 (n : Int) ((Nat.gcd x.natAbs n : Nat) : Int) = (Rat.divInt a b).den := by
      rw [quo_dvd (by omega) (Int.natCast_dvd_natCast.2 (Nat.gcd_dvd_right _ _)), ← hq, ← (terms hn).2, Int.natCast_ediv]
    refine aw_aws ?_
    simp only [q64_4]
    refine aw_cut fun N hN => ?_
    refine aw_drawX [] (by kernel_rfl) (by kernel_rfl) (by kernel_rfl) (by kernel_rfl) ?_
    simp (maxSteps := 2000000) only [s64, ↓aw_region, ↓aw_skip, ↓aw_seq, ↓aw_block, ↓aw_exit, ↓aw_ret, ↓sops_nil, ↓sops_go, ↓dops_nil, ↓dopsX_nil, ↓dopsR_nil, ↓vdn, vup, extr_20, extr_21, extr_30, extr_31, extr_32, List.map_cons, List.map_nil, cond_true, cond_false, aop, aThen, aBlock, argEnv, ev, sput, sputO, binK, binI, unK, builtinK, pickK, Nat.reduceBEq, Nat.reduceAdd, Int.reduceBEq, Int.reduceBNe, Int.reduceLT, aPost, resK, tup, tyf, ne_eq, hg, not_false_eq_true, q1, q2, List.toList_toArray, bldF, storeF c0 rfl]
    refine hN _ _ ?_
    simp (maxSteps := 2000000) only [s64, ↓aw_region, ↓aw_skip, ↓aw_seq, ↓aw_block, ↓aw_exit, ↓aw_ret, ↓sops_nil, ↓sops_go, ↓dops_nil, ↓dopsX_nil, ↓dopsR_nil, ↓vdn, vup, extr_20, extr_21, extr_30, extr_31, extr_32, List.map_cons, List.map_nil, cond_true, cond_false, aop, aThen, aBlock, argEnv, ev, sput, sputO, binK, binI, unK, builtinK, pickK, Nat.reduceBEq, Nat.reduceAdd, Int.reduceBEq, Int.reduceBNe, Int.reduceLT, aPost, resK, tup, tyf, loadF (get_set (h := h ++ [Blk.cells [.int .i64 0, .int .i64 0] 26 false]) (b := h.length) (by simp) _)]
    exact ⟨rfl, hE0.set_ge (Nat.le_refl _) _⟩
  by_cases hb0 : b < 0
  · simp (maxSteps := 2000000) only [s64, ↓aw_region, ↓aw_skip, ↓aw_seq, ↓aw_block, ↓aw_exit, ↓aw_ret, ↓sops_nil, ↓sops_go, ↓dops_nil, ↓dopsX_nil, ↓dopsR_nil, ↓vdn, vup, extr_20, extr_21, extr_30, extr_31, extr_32, List.map_cons, List.map_nil, cond_true, cond_false, aop, aThen, aBlock, argEnv, ev, sput, sputO, binK, binI, unK, builtinK, pickK, Nat.reduceBEq, Nat.reduceAdd, Int.reduceBEq, Int.reduceBNe, Int.reduceLT, aPost, resK, tup, tyf, hb0, (hneg hb0).1, (hneg hb0).2]
    exact key _ (by simp (maxSteps := 2000000) only [↓aw_region, ↓aw_skip, ↓aw_seq, ↓aw_block, ↓aw_exit, ↓aw_ret, ↓sops_nil, ↓sops_go, ↓dops_nil, ↓dopsX_nil, ↓dopsR_nil, ↓vdn, vup, extr_20, extr_21, extr_30, extr_31, extr_32, List.map_cons, List.map_nil, cond_true, cond_false, aop, aThen, aBlock, argEnv, ev, sput, sputO, binK, binI, unK, builtinK, pickK, Nat.reduceBEq, Nat.reduceAdd, Int.reduceBEq, Int.reduceBNe, Int.reduceLT, aPost, resK, tup, tyf])
  · simp (maxSteps := 2000000) only [s64, ↓aw_region, ↓aw_skip, ↓aw_seq, ↓aw_block, ↓aw_exit, ↓aw_ret, ↓sops_nil, ↓sops_go, ↓dops_nil, ↓dopsX_nil, ↓dopsR_nil, ↓vdn, vup, extr_20, extr_21, extr_30, extr_31, extr_32, List.map_cons, List.map_nil, cond_true, cond_false, aop, aThen, aBlock, argEnv, ev, sput, sputO, binK, binI, unK, builtinK, pickK, Nat.reduceBEq, Nat.reduceAdd, Int.reduceBEq, Int.reduceBNe, Int.reduceLT, aPost, resK, tup, tyf, hb0]
    exact key _ (by simp (maxSteps := 2000000) only [↓aw_region, ↓aw_skip, ↓aw_seq, ↓aw_block, ↓aw_exit, ↓aw_ret, ↓sops_nil, ↓sops_go, ↓dops_nil, ↓dopsX_nil, ↓dopsR_nil, ↓vdn, vup, extr_20, extr_21, extr_30, extr_31, extr_32, List.map_cons, List.map_nil, cond_true, cond_false, aop, aThen, aBlock, argEnv, ev, sput, sputO, binK, binI, unK, builtinK, pickK, Nat.reduceBEq, Nat.reduceAdd, Int.reduceBEq, Int.reduceBNe, Int.reduceLT, aPost, resK, tup, tyf, (hpos hb0).1, (hpos hb0).2])
end Go.Proofs.Try.Am

namespace Go.Proofs.Try.Am
open Go.Am Bq
set_option maxRecDepth 100000
set_option maxHeartbeats 1000000

section
variable (h : Heap) (A B C : Blk)
theorem b2_0 : (h ++ [A] ++ [B])[h.length]? = some A := by simp
theorem b2_1 : (h ++ [A] ++ [B])[h.length + 1]? = some B := by simp
theorem b3_0 : (h ++ [A] ++ [B] ++ [C])[h.length]? = some A := by simp
theorem b3_1 : (h ++ [A] ++ [B] ++ [C])[h.length + 1]? = some B := by simp
theorem b3_2 : (h ++ [A] ++ [B] ++ [C])[h.length + 2]? = some C := by simp
theorem e2 : Ext (fun _ => False) h (h ++ [A] ++ [B]) := by rw [List.append_assoc]; exact Ext.app _ _ _
theorem e3 : Ext (fun _ => False) h (h ++ [A] ++ [B] ++ [C]) := by rw [List.append_assoc, List.append_assoc]; exact Ext.app _ _ _
end
abbrev fC (x y : Int) : Blk := .cells [vint x, vint y] 26 false
abbrev z0 : Blk := .cells [.int .i64 0, .int .i64 0] 26 false

theorem quoD {x y : Nat} (hx : x < 9223372036854775808) (hd : y ∣ x) : quoV .i64 (x : Int) (y : Int) = ((x / y : Nat) : Int) := by
  rw [quo_dvd (by omega) (Int.natCast_dvd_natCast.2 hd), Int.natCast_ediv]
theorem mulN {a b : Int} (h : (a * b).natAbs < 9223372036854775808) : mulV .i64 a b = a * b := mulV_id (by omega) (by omega)
theorem addN {a b : Int} (h : a.natAbs + b.natAbs < 9223372036854775808) : addV .i64 a b = a + b := addV_id (by omega) (by omega)
theorem subN {a b : Int} (h : a.natAbs + b.natAbs < 9223372036854775808) : subV .i64 a b = a - b := subV_id (by omega) (by omega)

theorem s71_callW [Tabs Try.prog] {args : List Value} {h : Heap} {Q : Value → Heap → Prop} (hsz : args.length ≤ 38) (hk : AWS Try.prog 38 s71 (aPost Try.prog [.cell 6 26] Q) (argEnv 0 args) h) : ACall Try.prog 71 args h Q :=
  acall_w Try.func71 rfl (enters_of Try.func71 (by kernel_rfl) rfl) rfl rfl (by decide) s71_strip s71_ok hsz hk
theorem plus_call [Tabs prog] {h : Heap} {a b : Rat} {k x y : Int} {N : Nat} (ha : Rp N x a) (hb : Rp N y b) (hx : x.natAbs + (k * y).natAbs < 9223372036854775808) (hN : N < 9223372036854775808) : APure prog 71 [qV a, vint k, qV b] h (qV (a + k * b)) := by
  obtain ⟨p1, p2, p3, p4, p5⟩ := plus_bound (k := k) ha hb
  have da := ha.den_le
  have db := hb.den_le
  have hg := Nat.gcd_pos_of_pos_left b.den a.den_pos
  have pe := plus_eq a b k
  obtain ⟨H, hH⟩ : ∃ H, H = h ++ [fC a.num a.den] ++ [fC b.num b.den] ++ [z0] := ⟨_, rfl⟩
  have c3 : H[h.length]? = some (fC a.num a.den) := by rw [hH]; exact b3_0 ..
  have c5 : H[h.length + 1]? = some (fC b.num b.den) := by rw [hH]; exact b3_1 ..
  have c6 : H[h.length + 2]? = some z0 := by rw [hH]; exact b3_2 ..
  have hE : Ext (fun _ => False) h H := by rw [hH]; exact e3 ..
  have hg0 : ¬ ((Nat.gcd a.den b.den : Nat) : Int) = 0 := by omega
  have q1 := quoD (x := b.den) (show b.den < 9223372036854775808 by omega) (Nat.gcd_dvd_right a.den b.den)
  have q2 := quoD (x := a.den) (show a.den < 9223372036854775808 by omega) (Nat.gcd_dvd_left a.den b.den)
  have m1 := mulN (a := a.num) (b := ((b.den / Nat.gcd a.den b.den : Nat) : Int)) (by omega)
  have m2 := mulN (a := k) (b := b.num) (by omega)
  have m3 := mulN (a := k * b.num) (b := ((a.den / Nat.gcd a.den b.den : Nat) : Int)) (by omega)
  have m4 := addN (a := a.num * ((b.den / Nat.gcd a.den b.den : Nat) : Int)) (b := k * b.num * ((a.den / Nat.gcd a.den b.den : Nat) : Int)) (by omega)
  have m5 : mulV .i64 ((a.den / Nat.gcd a.den b.den : Nat) : Int) (b.den : Int) = ((a.den / Nat.gcd a.den b.den * b.den : Nat) : Int) := by
    rw [mulN (by rw [← Int.natCast_mul]; omega), Int.natCast_mul]
  have pe' : Rat.divInt (a.num * ((b.den / Nat.gcd a.den b.den : Nat) : Int) + k * b.num * ((a.den / Nat.gcd a.den b.den : Nat) : Int)) ((a.den / Nat.gcd a.den b.den * b.den : Nat) : Int) = a + k * b := by
    rw [Int.natCast_mul]; exact pe
  have fc := frac_call (h := H) (a := a.num * ((b.den / Nat.gcd a.den b.den : Nat) : Int) + k * b.num * ((a.den / Nat.gcd a.den b.den : Nat) : Int)) (b := ((a.den / Nat.gcd a.den b.den * b.den : Nat) : Int)) (by omega) (by omega) (by omega)
  rw [pe'] at fc
  obtain ⟨q, hq⟩ : ∃ q, a + (k : Rat) * b = q := ⟨_, rfl⟩
  rw [hq] at fc ⊢
  refine ACall.forget (low_frV _ _) ?_
  refine s71_callW (by simp) ?_
  simp only [s71]
  refine aws_cut fun N1 hN1 => ?_
  simp (maxSteps := 2000000) only [s71, ↓aw_region, ↓aw_skip, ↓aw_seq, ↓aw_block, ↓aw_exit, ↓aw_ret, ↓sops_nil, ↓sops_go, ↓dops_nil, ↓dopsX_nil, ↓dopsR_nil, ↓vdn, vup, extr_20, extr_21, extr_30, extr_31, extr_32, List.map_cons, List.map_nil, cond_true, cond_false, aop, aThen, aBlock, argEnv, ev, sput, sputO, binK, binI, unK, builtinK, pickK, Nat.reduceBEq, Nat.reduceAdd, Int.reduceBEq, Int.reduceBNe, Int.reduceLT, aPost, resK, tup, tyf, qV, frV, boxF, allocK, newPtr, zero_26, List.length_append, List.length_singleton, Nat.add_assoc]
  rw [← hH]
  refine hN1 [(1, vint k), (3, .pointer (some ⟨h.length, 0, none⟩)), (5, .pointer (some ⟨h.length + 1, 0, none⟩)), (6, .pointer (some ⟨h.length + 2, 0, none⟩))] _ _ ?_ (by simp (maxSteps := 2000000) only [↓aw_region, ↓aw_skip, ↓aw_seq, ↓aw_block, ↓aw_exit, ↓aw_ret, ↓sops_nil, ↓sops_go, ↓dops_nil, ↓dopsX_nil, ↓dopsR_nil, ↓vdn, vup, extr_20, extr_21, extr_30, extr_31, extr_32, List.map_cons, List.map_nil, cond_true, cond_false, aop, aThen, aBlock, argEnv, ev, sput, sputO, binK, binI, unK, builtinK, pickK, Nat.reduceBEq, Nat.reduceAdd, Int.reduceBEq, Int.reduceBNe, Int.reduceLT, aPost, resK, tup, tyf])
  clear hN1
  try clear N1
  refine aws_cut fun N2 hN2 => ?_
  simp (maxSteps := 2000000) only [s71, ↓aw_region, ↓aw_skip, ↓aw_seq, ↓aw_block, ↓aw_exit, ↓aw_ret, ↓sops_nil, ↓sops_go, ↓dops_nil, ↓dopsX_nil, ↓dopsR_nil, ↓vdn, vup, extr_20, extr_21, extr_30, extr_31, extr_32, List.map_cons, List.map_nil, cond_true, cond_false, aop, aThen, aBlock, argEnv, ev, sput, sputO, binK, binI, unK, builtinK, pickK, Nat.reduceBEq, Nat.reduceAdd, Int.reduceBEq, Int.reduceBNe, Int.reduceLT, aPost, resK, tup, tyf, callK, List.nil_append, List.append_nil, List.toList_toArray, List.cons_append, fA0, fA1, loadF1 c3, loadF1 c5]
  refine (gcd_call (.inl (by omega)) (by omega)).mono ?_
  rintro _ _ ⟨rfl, rfl⟩
  rw [Int.natAbs_natCast, Int.natAbs_natCast]
  refine hN2 [(1, vint k), (3, .pointer (some ⟨h.length, 0, none⟩)), (5, .pointer (some ⟨h.length + 1, 0, none⟩)), (6, .pointer (some ⟨h.length + 2, 0, none⟩)), (7, vint (Nat.gcd a.den b.den : Nat))] _ _ ?_ (by simp (maxSteps := 2000000) only [↓aw_region, ↓aw_skip, ↓aw_seq, ↓aw_block, ↓aw_exit, ↓aw_ret, ↓sops_nil, ↓sops_go, ↓dops_nil, ↓dopsX_nil, ↓dopsR_nil, ↓vdn, vup, extr_20, extr_21, extr_30, extr_31, extr_32, List.map_cons, List.map_nil, cond_true, cond_false, aop, aThen, aBlock, argEnv, ev, sput, sputO, binK, binI, unK, builtinK, pickK, Nat.reduceBEq, Nat.reduceAdd, Int.reduceBEq, Int.reduceBNe, Int.reduceLT, aPost, resK, tup, tyf])
  clear hN2
  try clear N2
  refine aw_aws ?_
  simp only [q71_2]
  refine aw_cut fun N hN => ?_
  refine aw_drawX [(24, 1)] (by kernel_rfl) (by kernel_rfl) (by kernel_rfl) (by kernel_rfl) ?_
  simp (maxSteps := 2000000) only [s71, ↓aw_region, ↓aw_skip, ↓aw_seq, ↓aw_block, ↓aw_exit, ↓aw_ret, ↓sops_nil, ↓sops_go, ↓dops_nil, ↓dopsX_nil, ↓dopsR_nil, ↓vdn, vup, extr_20, extr_21, extr_30, extr_31, extr_32, List.map_cons, List.map_nil, cond_true, cond_false, aop, aThen, aBlock, argEnv, ev, sput, sputO, binK, binI, unK, builtinK, pickK, Nat.reduceBEq, Nat.reduceAdd, Int.reduceBEq, Int.reduceBNe, Int.reduceLT, aPost, resK, tup, tyf, fA0, fA1, loadF1 c3, loadF1 c5, loadF0 c3, loadF0 c5, ne_eq, hg0, not_false_eq_true, q1, q2, m1, m2, m3, m4, m5, callK, List.nil_append, List.append_nil, List.toList_toArray, List.cons_append]
  refine ⟨_, _, fc, rfl, ?_⟩
  simp (maxSteps := 2000000) only [s71, ↓aw_region, ↓aw_skip, ↓aw_seq, ↓aw_block, ↓aw_exit, ↓aw_ret, ↓sops_nil, ↓sops_go, ↓dops_nil, ↓dopsX_nil, ↓dopsR_nil, ↓vdn, vup, extr_20, extr_21, extr_30, extr_31, extr_32, List.map_cons, List.map_nil, cond_true, cond_false, aop, aThen, aBlock, argEnv, ev, sput, sputO, binK, binI, unK, builtinK, pickK, Nat.reduceBEq, Nat.reduceAdd, Int.reduceBEq, Int.reduceBNe, Int.reduceLT, aPost, resK, tup, tyf, qV, frV, storeF c6 rfl]
  refine hN _ _ ?_
  simp (maxSteps := 2000000) only [s71, ↓aw_region, ↓aw_skip, ↓aw_seq, ↓aw_block, ↓aw_exit, ↓aw_ret, ↓sops_nil, ↓sops_go, ↓dops_nil, ↓dopsX_nil, ↓dopsR_nil, ↓vdn, vup, extr_20, extr_21, extr_30, extr_31, extr_32, List.map_cons, List.map_nil, cond_true, cond_false, aop, aThen, aBlock, argEnv, ev, sput, sputO, binK, binI, unK, builtinK, pickK, Nat.reduceBEq, Nat.reduceAdd, Int.reduceBEq, Int.reduceBNe, Int.reduceLT, aPost, resK, tup, tyf, loadF (get_set (get_lt c6) _)]
  exact ⟨rfl, hE.set_ge (by omega) _⟩

/-- The product fits. -/
def Fits (q : Rat) : Prop := q.num.natAbs < 9223372036854775808 ∧ q.den < 9223372036854775808
theorem s72_callW [Tabs Try.prog] {args : List Value} {h : Heap} {Q : Value → Heap → Prop} (hsz : args.length ≤ 28) (hk : AWS Try.prog 28 s72 (aPost Try.prog [.cell 4 26] Q) (argEnv 0 args) h) : ACall Try.prog 72 args h Q :=
  acall_w Try.func72 rfl (enters_of Try.func72 (by kernel_rfl) rfl) rfl rfl (by decide) s72_strip s72_ok hsz hk
theorem times_call [Tabs prog] {h : Heap} {a b : Rat} (ha : Fits a) (hb : Fits b) (hab : Fits (a * b)) : APure prog 72 [qV a, qV b] h (qV (a * b)) := by
  have da := a.den_nz
  have db := b.den_nz
  obtain ⟨t1, t2⟩ := times_eq a b
  have f1 : ∀ h : Heap, APure prog 64 [vint a.num, vint b.den] h (qV (Rat.divInt a.num b.den)) := fun h => frac_call (by omega) ha.1 (by have := hb.2; omega)
  have f2 : ∀ h : Heap, APure prog 64 [vint b.num, vint a.den] h (qV (Rat.divInt b.num a.den)) := fun h => frac_call (by omega) hb.1 (by have := ha.2; omega)
  obtain ⟨u, hu⟩ : ∃ u, Rat.divInt a.num b.den = u := ⟨_, rfl⟩
  obtain ⟨v, hv⟩ : ∃ v, Rat.divInt b.num a.den = v := ⟨_, rfl⟩
  rw [hu] at f1 t1 t2
  rw [hv] at f2 t1 t2
  have m1 : mulV .i64 u.num v.num = (a * b).num := by rw [← t1]; exact mulN (by rw [t1]; exact hab.1)
  have m2 : mulV .i64 (u.den : Int) (v.den : Int) = ((a * b).den : Int) := by
    rw [← t2, Int.natCast_mul]; exact mulN (by rw [← Int.natCast_mul, t2]; have := hab.2; omega)
  obtain ⟨q, hq⟩ : ∃ q, a * b = q := ⟨_, rfl⟩
  rw [hq] at m1 m2 ⊢
  obtain ⟨H, hH⟩ : ∃ H, H = h ++ [fC a.num a.den] ++ [fC b.num b.den] ++ [z0] := ⟨_, rfl⟩
  have c2 : H[h.length]? = some (fC a.num a.den) := by rw [hH]; exact b3_0 ..
  have c3 : H[h.length + 1]? = some (fC b.num b.den) := by rw [hH]; exact b3_1 ..
  have c4 : H[h.length + 2]? = some z0 := by rw [hH]; exact b3_2 ..
  have hE : Ext (fun _ => False) h H := by rw [hH]; exact e3 ..
  have hlen : H.length = h.length + 3 := by rw [hH]; simp
  refine ACall.forget (low_frV _ _) ?_
  refine s72_callW (by simp) ?_
  simp only [s72]
  refine aws_cut fun N3 hN3 => ?_
  simp (maxSteps := 2000000) only [s72, ↓aw_region, ↓aw_skip, ↓aw_seq, ↓aw_block, ↓aw_exit, ↓aw_ret, ↓sops_nil, ↓sops_go, ↓dops_nil, ↓dopsX_nil, ↓dopsR_nil, ↓vdn, vup, extr_20, extr_21, extr_30, extr_31, extr_32, List.map_cons, List.map_nil, cond_true, cond_false, aop, aThen, aBlock, argEnv, ev, sput, sputO, binK, binI, unK, builtinK, pickK, Nat.reduceBEq, Nat.reduceAdd, Int.reduceBEq, Int.reduceBNe, Int.reduceLT, aPost, resK, tup, tyf, qV, frV, boxF, allocK, newPtr, zero_26, List.length_append, List.length_singleton, Nat.add_assoc]
  rw [← hH]
  refine hN3 [(2, .pointer (some ⟨h.length, 0, none⟩)), (3, .pointer (some ⟨h.length + 1, 0, none⟩)), (4, .pointer (some ⟨h.length + 2, 0, none⟩))] _ _ ?_ (by simp (maxSteps := 2000000) only [↓aw_region, ↓aw_skip, ↓aw_seq, ↓aw_block, ↓aw_exit, ↓aw_ret, ↓sops_nil, ↓sops_go, ↓dops_nil, ↓dopsX_nil, ↓dopsR_nil, ↓vdn, vup, extr_20, extr_21, extr_30, extr_31, extr_32, List.map_cons, List.map_nil, cond_true, cond_false, aop, aThen, aBlock, argEnv, ev, sput, sputO, binK, binI, unK, builtinK, pickK, Nat.reduceBEq, Nat.reduceAdd, Int.reduceBEq, Int.reduceBNe, Int.reduceLT, aPost, resK, tup, tyf])
  clear hN3
  try clear N3
  refine aws_cut fun N4 hN4 => ?_
  refine aw_drawE (fun hp => hp[h.length]? = some (fC a.num a.den) ∧ hp[h.length + 1]? = some (fC b.num b.den)) [(1, 5), (3, 5), (6, 5), (8, 5), (4, 2), (9, 2)] 11 6 [10] (by kernel_rfl) (by kernel_rfl) (by kernel_rfl) (by kernel_rfl) (by kernel_rfl) (by rfl) ⟨c2, c3⟩ ?_
  simp (maxSteps := 2000000) only [s72, ↓aw_region, ↓aw_skip, ↓aw_seq, ↓aw_block, ↓aw_exit, ↓aw_ret, ↓sops_nil, ↓sops_go, ↓dops_nil, ↓dopsX_nil, ↓dopsR_nil, ↓vdn, vup, extr_20, extr_21, extr_30, extr_31, extr_32, List.map_cons, List.map_nil, cond_true, cond_false, aop, aThen, aBlock, argEnv, ev, sput, sputO, binK, binI, unK, builtinK, pickK, Nat.reduceBEq, Nat.reduceAdd, Int.reduceBEq, Int.reduceBNe, Int.reduceLT, aPost, resK, tup, tyf, fA0, fA1, callK, List.nil_append, List.append_nil, List.toList_toArray, List.cons_append]
  refine ⟨vint a.num, fun _ g => by rw [loadF0 g.1], vint b.den, fun _ g => by rw [loadF1 g.2], qV u, fun _ _ => ⟨_, _, f1 _, rfl, rfl⟩, vint b.num, fun _ g => by rw [loadF0 g.2], vint a.den, fun _ g => by rw [loadF1 g.1], qV v, fun _ _ => ⟨_, _, f2 _, rfl, rfl⟩, ?_⟩
  have k1 : (H ++ [z0] ++ [z0])[H.length]? = some z0 := b2_0 ..
  obtain ⟨H2, hH2⟩ : ∃ H2, H2 = (H ++ [z0] ++ [z0]).set H.length (fC u.num u.den) := ⟨_, rfl⟩
  have k2 : H2[H.length + 1]? = some z0 := by rw [hH2, List.getElem?_set_ne (by omega)]; exact b2_1 ..
  have k3 : H2[H.length]? = some (fC u.num u.den) := by rw [hH2]; exact get_set (by simp) _
  have k4 : Ext (fun _ => False) h H2 := by rw [hH2]; exact (hE.trans (e2 ..)).set_ge (by omega) _
  have k5 : H2[h.length]? = some (fC a.num a.den) ∧ H2[h.length + 1]? = some (fC b.num b.den) ∧ H2[h.length + 2]? = some z0 := by
    rw [hH2, List.getElem?_set_ne (by omega), List.getElem?_set_ne (by omega), List.getElem?_set_ne (by omega)]
    exact ⟨get_old (get_old c2 _) _, get_old (get_old c3 _) _, get_old (get_old c4 _) _⟩
  obtain ⟨H3, hH3⟩ : ∃ H3, H3 = H2.set (H.length + 1) (fC v.num v.den) := ⟨_, rfl⟩
  have l1 : H3[H.length + 1]? = some (fC v.num v.den) := by rw [hH3]; exact get_set (get_lt k2) _
  have l2 : H3[H.length]? = some (fC u.num u.den) := by rw [hH3, List.getElem?_set_ne (by omega)]; exact k3
  have l3 : H3[h.length + 2]? = some z0 := by rw [hH3, List.getElem?_set_ne (by omega)]; exact k5.2.2
  have l4 : Ext (fun _ => False) h H3 := by rw [hH3]; exact k4.set_ge (by omega) _
  have l5 : H3[h.length]? = some (fC a.num a.den) ∧ H3[h.length + 1]? = some (fC b.num b.den) := by
    rw [hH3, List.getElem?_set_ne (by omega), List.getElem?_set_ne (by omega)]
    exact ⟨k5.1, k5.2.1⟩
  simp (maxSteps := 2000000) only [s72, ↓aw_region, ↓aw_skip, ↓aw_seq, ↓aw_block, ↓aw_exit, ↓aw_ret, ↓sops_nil, ↓sops_go, ↓dops_nil, ↓dopsX_nil, ↓dopsR_nil, ↓vdn, vup, extr_20, extr_21, extr_30, extr_31, extr_32, List.map_cons, List.map_nil, cond_true, cond_false, aop, aThen, aBlock, argEnv, ev, sput, sputO, binK, binI, unK, builtinK, pickK, Nat.reduceBEq, Nat.reduceAdd, Int.reduceBEq, Int.reduceBNe, Int.reduceLT, aPost, resK, tup, tyf, allocK, newPtr, zero_26]
  refine ⟨⟨get_old c2 _, get_old c3 _⟩, ⟨get_old (get_old c2 _) _, get_old (get_old c3 _) _⟩, ?_⟩
  simp only [qV, frV, storeF k1 rfl, List.length_append, List.length_singleton]
  rw [← hH2, storeF k2 rfl, ← hH3]
  refine ⟨⟨k5.1, k5.2.1⟩, l5, ?_⟩
  refine hN4 [(2, .pointer (some ⟨h.length, 0, none⟩)), (3, .pointer (some ⟨h.length + 1, 0, none⟩)), (4, .pointer (some ⟨h.length + 2, 0, none⟩)), (5, .pointer (some ⟨H.length, 0, none⟩)), (6, .pointer (some ⟨H.length + 1, 0, none⟩))] _ _ ?_ (by simp (maxSteps := 2000000) only [↓aw_region, ↓aw_skip, ↓aw_seq, ↓aw_block, ↓aw_exit, ↓aw_ret, ↓sops_nil, ↓sops_go, ↓dops_nil, ↓dopsX_nil, ↓dopsR_nil, ↓vdn, vup, extr_20, extr_21, extr_30, extr_31, extr_32, List.map_cons, List.map_nil, cond_true, cond_false, aop, aThen, aBlock, argEnv, ev, sput, sputO, binK, binI, unK, builtinK, pickK, Nat.reduceBEq, Nat.reduceAdd, Int.reduceBEq, Int.reduceBNe, Int.reduceLT, aPost, resK, tup, tyf])
  clear hN4
  try clear N4
  refine aw_aws ?_
  simp (maxSteps := 2000000) only [s72, ↓aw_region, ↓aw_skip, ↓aw_seq, ↓aw_block, ↓aw_exit, ↓aw_ret, ↓sops_nil, ↓sops_go, ↓dops_nil, ↓dopsX_nil, ↓dopsR_nil, ↓vdn, vup, extr_20, extr_21, extr_30, extr_31, extr_32, List.map_cons, List.map_nil, cond_true, cond_false, aop, aThen, aBlock, argEnv, ev, sput, sputO, binK, binI, unK, builtinK, pickK, Nat.reduceBEq, Nat.reduceAdd, Int.reduceBEq, Int.reduceBNe, Int.reduceLT, aPost, resK, tup, tyf, fA0, fA1, loadF0 l1, loadF1 l1, loadF0 l2, loadF1 l2, m1, m2, List.toList_toArray, bldF, storeF l3 rfl, loadF (get_set (get_lt l3) _)]
  exact ⟨rfl, l4.set_ge (by omega) _⟩

theorem fits_inv {a b : Rat} (hb : b ≠ 0) (h : Fits b) : Rat.divInt b.den b.num = b⁻¹ ∧ Fits b⁻¹ := by
  have hn : b.num ≠ 0 := fun hc => hb (Rat.num_eq_zero.1 hc)
  refine ⟨(Rat.inv_def b).symm, ?_, ?_⟩
  · rw [Rat.num_inv, Int.natAbs_mul, Int.natAbs_sign_of_ne_zero hn]
    have := h.2; simpa using this
  · rw [Rat.den_inv, if_neg hn]; exact h.1

theorem s94_callW [Tabs Try.prog] {args : List Value} {h : Heap} {Q : Value → Heap → Prop} (hsz : args.length ≤ 12) (hk : AWS Try.prog 12 s94 (aPost Try.prog [.cell 4 26] Q) (argEnv 0 args) h) : ACall Try.prog 94 args h Q :=
  acall_w Try.func94 rfl (enters_of Try.func94 (by kernel_rfl) rfl) rfl rfl (by decide) s94_strip s94_ok hsz hk
theorem over_call [Tabs prog] {h : Heap} {a b : Rat} (ha : Fits a) (hb : Fits b) (hb0 : b ≠ 0) (hab : Fits (a / b)) : APure prog 94 [qV a, qV b] h (qV (a / b)) := by
  obtain ⟨i1, i2⟩ := fits_inv (a := a) hb0 hb
  have hn : b.num ≠ 0 := fun hc => hb0 (Rat.num_eq_zero.1 hc)
  have f1 : ∀ h : Heap, APure prog 64 [vint b.den, vint b.num] h (qV b⁻¹) := fun h => by
    rw [← i1]; exact frac_call hn (by have := hb.2; omega) hb.1
  have f2 : ∀ h : Heap, APure prog 72 [qV a, qV b⁻¹] h (qV (a / b)) := fun h => times_call ha i2 hab
  obtain ⟨q, hq⟩ : ∃ q, a / b = q := ⟨_, rfl⟩
  rw [hq] at f2 ⊢
  obtain ⟨H, hH⟩ : ∃ H, H = h ++ [fC a.num a.den] ++ [fC b.num b.den] ++ [z0] := ⟨_, rfl⟩
  have c2 : H[h.length]? = some (fC a.num a.den) := by rw [hH]; exact b3_0 ..
  have c3 : H[h.length + 1]? = some (fC b.num b.den) := by rw [hH]; exact b3_1 ..
  have c4 : H[h.length + 2]? = some z0 := by rw [hH]; exact b3_2 ..
  have hE : Ext (fun _ => False) h H := by rw [hH]; exact e3 ..
  refine ACall.forget (low_frV _ _) ?_
  refine s94_callW (by simp) ?_
  simp only [s94]
  refine aws_cut fun N5 hN5 => ?_
  simp (maxSteps := 2000000) only [s94, ↓aw_region, ↓aw_skip, ↓aw_seq, ↓aw_block, ↓aw_exit, ↓aw_ret, ↓sops_nil, ↓sops_go, ↓dops_nil, ↓dopsX_nil, ↓dopsR_nil, ↓vdn, vup, extr_20, extr_21, extr_30, extr_31, extr_32, List.map_cons, List.map_nil, cond_true, cond_false, aop, aThen, aBlock, argEnv, ev, sput, sputO, binK, binI, unK, builtinK, pickK, Nat.reduceBEq, Nat.reduceAdd, Int.reduceBEq, Int.reduceBNe, Int.reduceLT, aPost, resK, tup, tyf, qV, frV, boxF, allocK, newPtr, zero_26, List.length_append, List.length_singleton, Nat.add_assoc]
  rw [← hH]
  refine hN5 [(2, .pointer (some ⟨h.length, 0, none⟩)), (3, .pointer (some ⟨h.length + 1, 0, none⟩)), (4, .pointer (some ⟨h.length + 2, 0, none⟩))] _ _ ?_ (by simp (maxSteps := 2000000) only [↓aw_region, ↓aw_skip, ↓aw_seq, ↓aw_block, ↓aw_exit, ↓aw_ret, ↓sops_nil, ↓sops_go, ↓dops_nil, ↓dopsX_nil, ↓dopsR_nil, ↓vdn, vup, extr_20, extr_21, extr_30, extr_31, extr_32, List.map_cons, List.map_nil, cond_true, cond_false, aop, aThen, aBlock, argEnv, ev, sput, sputO, binK, binI, unK, builtinK, pickK, Nat.reduceBEq, Nat.reduceAdd, Int.reduceBEq, Int.reduceBNe, Int.reduceLT, aPost, resK, tup, tyf])
  clear hN5
  try clear N5
  refine aw_aws ?_
  simp only [q94_1]
  refine aw_cut fun N hN => ?_
  refine aw_drawX [(5, 1), (6, 1)] (by kernel_rfl) (by kernel_rfl) (by kernel_rfl) (by kernel_rfl) ?_
  simp (maxSteps := 2000000) only [s94, ↓aw_region, ↓aw_skip, ↓aw_seq, ↓aw_block, ↓aw_exit, ↓aw_ret, ↓sops_nil, ↓sops_go, ↓dops_nil, ↓dopsX_nil, ↓dopsR_nil, ↓vdn, vup, extr_20, extr_21, extr_30, extr_31, extr_32, List.map_cons, List.map_nil, cond_true, cond_false, aop, aThen, aBlock, argEnv, ev, sput, sputO, binK, binI, unK, builtinK, pickK, Nat.reduceBEq, Nat.reduceAdd, Int.reduceBEq, Int.reduceBNe, Int.reduceLT, aPost, resK, tup, tyf, fA0, fA1, loadF c2, loadF0 c3, loadF1 c3, callK, List.nil_append, List.append_nil, List.toList_toArray, List.cons_append]
  refine ⟨_, _, f1 _, rfl, ?_⟩
  refine ⟨_, _, f2 _, rfl, ?_⟩
  simp (maxSteps := 2000000) only [s94, ↓aw_region, ↓aw_skip, ↓aw_seq, ↓aw_block, ↓aw_exit, ↓aw_ret, ↓sops_nil, ↓sops_go, ↓dops_nil, ↓dopsX_nil, ↓dopsR_nil, ↓vdn, vup, extr_20, extr_21, extr_30, extr_31, extr_32, List.map_cons, List.map_nil, cond_true, cond_false, aop, aThen, aBlock, argEnv, ev, sput, sputO, binK, binI, unK, builtinK, pickK, Nat.reduceBEq, Nat.reduceAdd, Int.reduceBEq, Int.reduceBNe, Int.reduceLT, aPost, resK, tup, tyf, qV, frV, storeF c4 rfl]
  refine hN _ _ ?_
  simp (maxSteps := 2000000) only [s94, ↓aw_region, ↓aw_skip, ↓aw_seq, ↓aw_block, ↓aw_exit, ↓aw_ret, ↓sops_nil, ↓sops_go, ↓dops_nil, ↓dopsX_nil, ↓dopsR_nil, ↓vdn, vup, extr_20, extr_21, extr_30, extr_31, extr_32, List.map_cons, List.map_nil, cond_true, cond_false, aop, aThen, aBlock, argEnv, ev, sput, sputO, binK, binI, unK, builtinK, pickK, Nat.reduceBEq, Nat.reduceAdd, Int.reduceBEq, Int.reduceBNe, Int.reduceLT, aPost, resK, tup, tyf, loadF (get_set (get_lt c4) _)]
  exact ⟨rfl, hE.set_ge (by omega) _⟩

theorem s70_callW [Tabs Try.prog] {args : List Value} {h : Heap} {Q : Value → Heap → Prop} (hsz : args.length ≤ 5) (hk : AWS Try.prog 5 s70 (aPost Try.prog [.cell 2 26] Q) (argEnv 0 args) h) : ACall Try.prog 70 args h Q :=
  acall_w Try.func70 rfl (enters_of Try.func70 (by kernel_rfl) rfl) rfl rfl (by decide) s70_strip s70_ok hsz hk
theorem whole_call [Tabs prog] {h : Heap} {k : Int} : APure prog 70 [vint k] h (qV (k : Rat)) := by
  refine ACall.forget (low_frV _ _) ?_
  refine s70_callW (by simp) ?_
  refine aw_aws ?_
  simp (maxSteps := 2000000) only [s70, ↓aw_region, ↓aw_skip, ↓aw_seq, ↓aw_block, ↓aw_exit, ↓aw_ret, ↓sops_nil, ↓sops_go, ↓dops_nil, ↓dopsX_nil, ↓dopsR_nil, ↓vdn, vup, extr_20, extr_21, extr_30, extr_31, extr_32, List.map_cons, List.map_nil, cond_true, cond_false, aop, aThen, aBlock, argEnv, ev, sput, sputO, binK, binI, unK, builtinK, pickK, Nat.reduceBEq, Nat.reduceAdd, Int.reduceBEq, Int.reduceBNe, Int.reduceLT, aPost, resK, tup, tyf, allocK, newPtr, zero_26, List.toList_toArray, bldF, storeF (get_new h z0) rfl, loadF (get_set (h := h ++ [z0]) (b := h.length) (by simp) _)]
  exact ⟨rfl, (Ext.app _ _ _).set_ge (Nat.le_refl _) _⟩
end Go.Proofs.Try.Am

namespace Bq
theorem dvd_lcm_gcds {x a b : Nat} (hx : x ∣ Nat.lcm a b) : x ∣ Nat.lcm (Nat.gcd x a) (Nat.gcd x b) := by
  have h1 : x * Nat.gcd (Nat.gcd x a) (Nat.gcd x b) ∣ Nat.gcd x a * Nat.gcd x b := by
    have hg : Nat.gcd (Nat.gcd x a) (Nat.gcd x b) ∣ Nat.gcd a b := Nat.dvd_gcd (Nat.dvd_trans (Nat.gcd_dvd_left _ _) (Nat.gcd_dvd_right _ _)) (Nat.dvd_trans (Nat.gcd_dvd_right _ _) (Nat.gcd_dvd_right _ _))
    have hgx : Nat.gcd (Nat.gcd x a) (Nat.gcd x b) ∣ x := Nat.dvd_trans (Nat.gcd_dvd_left _ _) (Nat.gcd_dvd_left _ _)
    have hga := Nat.dvd_trans hg (Nat.gcd_dvd_left a b)
    have hgb := Nat.dvd_trans hg (Nat.gcd_dvd_right a b)
    have hab : x * Nat.gcd (Nat.gcd x a) (Nat.gcd x b) ∣ a * b := by
      refine Nat.dvd_trans (Nat.mul_dvd_mul_left x hg) ?_
      have := Nat.mul_dvd_mul_right hx (Nat.gcd a b)
      rwa [Nat.mul_comm (Nat.lcm a b), Nat.gcd_mul_lcm] at this
    generalize Nat.gcd (Nat.gcd x a) (Nat.gcd x b) = g at *
    rw [← Nat.gcd_mul_right, ← Nat.gcd_mul_left, ← Nat.gcd_mul_left]
    refine Nat.dvd_gcd (Nat.dvd_gcd (Nat.mul_dvd_mul_left x hgx) (Nat.mul_dvd_mul_left x hgb)) (Nat.dvd_gcd ?_ hab)
    rw [Nat.mul_comm a x]; exact Nat.mul_dvd_mul_left x hga
  rcases Nat.eq_zero_or_pos (Nat.gcd (Nat.gcd x a) (Nat.gcd x b)) with h0 | h0
  · have : Nat.gcd x a = 0 := Nat.eq_zero_of_gcd_eq_zero_left h0
    rw [this, Nat.lcm_zero_left]; exact Nat.dvd_zero _
  · have h2 := Nat.gcd_mul_lcm (Nat.gcd x a) (Nat.gcd x b)
    rw [← h2, Nat.mul_comm x] at h1
    exact Nat.dvd_of_mul_dvd_mul_left h0 h1

/-- The common multiple, what two have in common, the product. -/
def lcmL (l : List Nat) : Nat := l.foldl Nat.lcm 1
def stepG (s : Nat × Nat × Nat) (d : Nat) : Nat × Nat × Nat := (Nat.lcm s.1 d, Nat.lcm s.2.1 (Nat.gcd s.1 d), s.2.2 * d)
def run3 (s : Nat × Nat × Nat) (l : List Nat) : Nat × Nat × Nat := l.foldl stepG s
theorem run3_L (s : Nat × Nat × Nat) (l : List Nat) : (run3 s l).1 = l.foldl Nat.lcm s.1 := by
  induction l generalizing s with
  | nil => rfl
  | cons d l ih => exact ih _
theorem run3_P (s : Nat × Nat × Nat) (l : List Nat) : (run3 s l).2.2 = l.foldl (· * ·) s.2.2 := by
  induction l generalizing s with
  | nil => rfl
  | cons d l ih => exact ih _
theorem run3_dvd (l : List Nat) (s : Nat × Nat × Nat) (hl : ∀ d ∈ l, 0 < d) (h : s.1 * s.2.1 ∣ s.2.2) : (run3 s l).1 * (run3 s l).2.1 ∣ (run3 s l).2.2 := by
  induction l generalizing s with
  | nil => exact h
  | cons d l ih =>
    refine ih _ (fun x hx => hl x (by simp [hx])) ?_
    obtain ⟨L, G, P⟩ := s
    simp only [stepG] at h ⊢
    have hd := hl d (by simp)
    have hg : 0 < Nat.gcd L d := Nat.gcd_pos_of_pos_right _ hd
    have e1 : Nat.lcm L d * Nat.lcm G (Nat.gcd L d) = Nat.lcm (Nat.lcm L d * G) (Nat.lcm L d * Nat.gcd L d) := (Nat.lcm_mul_left ..).symm
    rw [e1]
    refine Nat.lcm_dvd ?_ ?_
    · obtain ⟨t, ht⟩ := Nat.gcd_dvd_right L d
      have e2 : Nat.lcm L d = L * t := by
        have h3 := Nat.gcd_mul_lcm L d
        have h4 : Nat.gcd L d * Nat.lcm L d = Nat.gcd L d * (L * t) := by
          rw [h3]; conv => lhs; rw [ht]
          rw [← Nat.mul_assoc, Nat.mul_comm L, Nat.mul_assoc]
        exact Nat.eq_of_mul_eq_mul_left hg h4
      rw [e2]
      have : L * t * G = L * G * t := by rw [Nat.mul_assoc, Nat.mul_comm t, Nat.mul_assoc]
      rw [this]
      exact Nat.mul_dvd_mul h ⟨Nat.gcd L d, by rw [Nat.mul_comm]; exact ht⟩
    · rw [Nat.mul_comm, Nat.gcd_mul_lcm]
      exact Nat.mul_dvd_mul_right (Nat.dvd_trans ⟨G, rfl⟩ h) d
theorem foldl_lcm_dvd {l : List Nat} {m : Nat} : m ∣ l.foldl Nat.lcm m := by
  induction l generalizing m with
  | nil => exact Nat.dvd_refl _
  | cons d l ih => exact Nat.dvd_trans (Nat.dvd_lcm_left m d) ih
theorem foldl_lcm_mem {l : List Nat} {m d : Nat} (h : d ∈ l) : d ∣ l.foldl Nat.lcm m := by
  induction l generalizing m with
  | nil => cases h
  | cons e l ih =>
    rcases List.mem_cons.1 h with rfl | h
    · exact Nat.dvd_trans (Nat.dvd_lcm_right m d) foldl_lcm_dvd
    · exact ih h
theorem foldl_lcm_least {l : List Nat} {m n : Nat} (hm : m ∣ n) (h : ∀ d ∈ l, d ∣ n) : l.foldl Nat.lcm m ∣ n := by
  induction l generalizing m with
  | nil => exact hm
  | cons e l ih => exact ih (Nat.lcm_dvd hm (h e (by simp))) fun d hd => h d (by simp [hd])
/-- What one has in common with those behind it. -/
theorem run3_post (d : Nat) (l : List Nat) (s : Nat × Nat × Nat) (hs : d ∣ s.1) : ∀ (m : Nat), Nat.gcd d m ∣ s.2.1 → Nat.gcd d (l.foldl Nat.lcm m) ∣ (run3 s l).2.1 := by
  induction l generalizing s with
  | nil => intro m hm; exact hm
  | cons e l ih =>
    intro m hm
    refine ih (stepG s e) (Nat.dvd_trans hs (Nat.dvd_lcm_left _ _)) (Nat.lcm m e) ?_
    have h1 : Nat.gcd d (Nat.lcm m e) ∣ Nat.lcm (Nat.gcd (Nat.gcd d (Nat.lcm m e)) m) (Nat.gcd (Nat.gcd d (Nat.lcm m e)) e) := dvd_lcm_gcds (Nat.gcd_dvd_right _ _)
    refine Nat.dvd_trans h1 (Nat.lcm_dvd ?_ ?_)
    · exact Nat.dvd_trans (Nat.dvd_trans (Nat.dvd_gcd (Nat.dvd_trans (Nat.gcd_dvd_left _ _) (Nat.gcd_dvd_left _ _)) (Nat.gcd_dvd_right _ _)) hm) (Nat.dvd_lcm_left _ _)
    · refine Nat.dvd_trans ?_ (Nat.dvd_lcm_right _ _)
      exact Nat.dvd_gcd (Nat.dvd_trans (Nat.dvd_trans (Nat.gcd_dvd_left _ _) (Nat.gcd_dvd_left _ _)) hs) (Nat.gcd_dvd_right _ _)
/-- **Each divides what is common to the others: then the square of the common multiple divides the product.** -/
theorem sq_dvd (l : List Nat) (hl : ∀ d ∈ l, 0 < d) (h : ∀ a d b, l = a ++ d :: b → d ∣ lcmL (a ++ b)) : lcmL l * lcmL l ∣ l.foldl (· * ·) 1 := by
  have h1 := run3_dvd l (1, 1, 1) hl (Nat.dvd_refl _)
  rw [run3_P, run3_L] at h1
  refine Nat.dvd_trans (Nat.mul_dvd_mul_left _ ?_) h1
  refine foldl_lcm_least (Nat.one_dvd _) fun d hd => ?_
  obtain ⟨a, b, rfl⟩ := List.append_of_mem hd
  have h2 := h a d b rfl
  have e : run3 (1, 1, 1) (a ++ d :: b) = run3 (stepG (run3 (1, 1, 1) a) d) b := by simp [run3]
  rw [e]
  have h3 := run3_post d b (stepG (run3 (1, 1, 1) a) d) (Nat.dvd_lcm_right _ _) (a.foldl Nat.lcm 1) (by
    simp only [stepG, run3_L]
    rw [Nat.gcd_comm]; exact Nat.dvd_lcm_right _ _)
  rw [lcmL, List.foldl_append] at h2
  rwa [Nat.gcd_eq_left h2] at h3
end Bq

namespace Bq

/-- A valid fraction from 0 on, as it stands. -/
def okP (p : Int × Int) : Bool := decide (1 ≤ p.2) && decide (p.2 ≤ 10000000000) && decide (0 ≤ p.1) && (Nat.gcd p.1.natAbs p.2.natAbs == 1)
def mulTo : List (Int × Int) → Nat → Nat
  | [], m => m
  | p :: ps, m => if okP p = true ∧ Nat.lcm m p.2.natAbs ≤ 10000000000 then mulTo ps (Nat.lcm m p.2.natAbs) else 0
/-- The common multiple; 0: there is none. -/
def mult (ps : List (Int × Int)) : Nat := mulTo ps 1
/-- A fraction as it stands, as a number; a number as it stands. -/
def toQ (p : Int × Int) : Rat := Rat.divInt p.1 p.2
def ofQ (q : Rat) : Int × Int := (q.num, (q.den : Int))

theorem ofQ_toQ {p : Int × Int} (h1 : 1 ≤ p.2) (h2 : Nat.gcd p.1.natAbs p.2.natAbs = 1) : ofQ (toQ p) = p := by
  obtain ⟨x, y⟩ := p
  simp only at h1 h2
  obtain ⟨n, rfl⟩ : ∃ n : Nat, y = n := ⟨y.toNat, by omega⟩
  have hn : n ≠ 0 := by omega
  have e : toQ (x, (n : Int)) = ⟨x, n, hn, by simpa using h2⟩ := by
    rw [toQ, Rat.divInt_ofNat]
    exact (Rat.mk_eq_mkRat x n hn _).symm
  rw [e]; rfl
theorem okP_ofQ {p : Int × Int} (h : okP p = true) : ofQ (toQ p) = p := by
  simp only [okP, Bool.and_eq_true, decide_eq_true_eq, beq_iff_eq] at h
  exact ofQ_toQ h.1.1.1 h.2
theorem mulTo_spec : ∀ (ps : List (Int × Int)) (m : Nat), mulTo ps m ≠ 0 → m ≤ 10000000000 → (∀ p ∈ ps, okP p = true) ∧ mulTo ps m = (ps.map fun p => p.2.natAbs).foldl Nat.lcm m ∧ mulTo ps m ≤ 10000000000
  | [], m, h, hm => ⟨(fun _ h => by cases h), rfl, hm⟩
  | p :: ps, m, h, hm => by
    rw [mulTo] at h ⊢
    split at h
    · rename_i hc
      rw [if_pos hc]
      obtain ⟨h1, h2, h3⟩ := mulTo_spec ps _ h hc.2
      refine ⟨fun q hq => ?_, h2, h3⟩
      rcases List.mem_cons.1 hq with rfl | hq
      · exact hc.1
      · exact h1 q hq
    · exact absurd rfl h
theorem mult_spec {ps : List (Int × Int)} (h : mult ps ≠ 0) : (∀ p ∈ ps, okP p = true) ∧ mult ps = lcmL (ps.map fun p => p.2.natAbs) ∧ mult ps ≤ 10000000000 := mulTo_spec ps 1 h (by decide)
theorem mult_dvd {ps : List (Int × Int)} (h : mult ps ≠ 0) {p : Int × Int} (hp : p ∈ ps) : (toQ p).den ∣ mult ps := by
  obtain ⟨h1, h2, h3⟩ := mult_spec h
  have e := okP_ofQ (h1 p hp)
  have e2 : (toQ p).den = p.2.natAbs := by
    have := congrArg Prod.snd e
    simp only [ofQ] at this
    rw [← this]; rfl
  rw [h2, e2]
  exact foldl_lcm_mem (List.mem_map.2 ⟨p, hp, rfl⟩)
theorem okP_pos {p : Int × Int} (h : okP p = true) : 0 ≤ toQ p := by
  simp only [okP, Bool.and_eq_true, decide_eq_true_eq] at h
  exact Rat.divInt_nonneg h.1.2 (by omega)
theorem okP_le {p : Int × Int} (h : okP p = true) : toQ p ≤ 1 ↔ p.1 ≤ p.2 := by
  have hp := okP_ofQ h
  have h1 : (toQ p).num = p.1 := congrArg Prod.fst hp
  have h2 : ((toQ p).den : Int) = p.2 := congrArg Prod.snd hp
  rw [Rat.le_iff, h1, h2]
  simp

/-- The sum of the first ones. -/
def sumTo (g : Nat → Rat) : Nat → Rat
  | 0 => 0
  | k + 1 => sumTo g k + g k
section
variable {g f : Nat → Rat}
theorem sumTo_nonneg {n : Nat} (h : ∀ i, i < n → 0 ≤ g i) : 0 ≤ sumTo g n := by
  induction n with
  | zero => exact Rat.le_refl
  | succ n ih => exact Rat.add_nonneg (ih fun i hi => h i (by omega)) (h n (by omega))
theorem sumTo_mono {k n : Nat} (hk : k ≤ n) (h : ∀ i, i < n → 0 ≤ g i) : sumTo g k ≤ sumTo g n := by
  induction n with
  | zero => rw [Nat.le_zero.1 hk]; exact Rat.le_refl
  | succ n ih =>
    rcases Nat.lt_or_ge n k with h1 | h1
    · rw [show k = n + 1 by omega]; exact Rat.le_refl
    · have h2 := ih h1 fun i hi => h i (by omega)
      have h3 := h n (by omega)
      rw [sumTo]; grind
theorem sumTo_one {k n : Nat} (hk : k < n) (h : ∀ i, i < n → 0 ≤ g i) : g k ≤ sumTo g n := by
  have h1 := sumTo_mono (show k + 1 ≤ n by omega) h
  have h2 := sumTo_nonneg (n := k) fun i hi => h i (by omega)
  rw [sumTo] at h1; grind
theorem sumTo_congr {n : Nat} (h : ∀ i, i < n → f i = g i) : sumTo f n = sumTo g n := by
  induction n with
  | zero => rfl
  | succ n ih => rw [sumTo, sumTo, ih fun i hi => h i (by omega), h n (by omega)]
theorem sumTo_den {N : Nat} {n : Nat} (hN : 0 < N) (h : ∀ i, i < n → (g i).den ∣ N) : (sumTo g n).den ∣ N := by
  induction n with
  | zero => exact Nat.one_dvd _
  | succ n ih =>
    have h1 := ih fun i hi => h i (by omega)
    have h2 := h n (by omega)
    rw [sumTo]
    have e := Rp.up' (Rp.own (sumTo g n)) h1 hN
    have e2 := Rp.up' (Rp.own (g n)) h2 hN
    have := e.plus e2 1
    have h3 := this.dvd
    have e3 : sumTo g n + ((1 : Int) : Rat) * g n = sumTo g n + g n := by
      rw [show (((1 : Int)) : Rat) = 1 from rfl, Rat.one_mul]
    rwa [e3] at h3
end
theorem rp_of {N : Nat} {q : Rat} (hN : 0 < N) (h : q.den ∣ N) : ∃ x, Rp N x q := ⟨_, Rp.up' (Rp.own q) h hN⟩
/-- Parts of what is bounded. -/
theorem Rp.bound {N C : Nat} {x : Int} {q : Rat} (h : Rp N x q) (h1 : -(C : Rat) ≤ q) (h2 : q ≤ C) : x.natAbs ≤ C * N := by
  have hN : (0 : Rat) ≤ N := Rat.natCast_nonneg
  have e := h.2
  have u1 := Rat.mul_le_mul_of_nonneg_right h2 hN
  have u2 := Rat.mul_le_mul_of_nonneg_right h1 hN
  rw [e] at u1 u2
  have v1 : x ≤ ((C * N : Nat) : Int) := by
    rw [← Rat.intCast_le_intCast]; push_cast; exact u1
  have v2 : -((C * N : Nat) : Int) ≤ x := by
    rw [← Rat.intCast_le_intCast]; push_cast
    rw [Rat.neg_mul] at u2; exact u2
  omega

/-- **Fractions that sum to one, none of which has a divisor above 60: their common multiple is small.** -/
theorem lcm_small {qs : List Rat} (hs : qs.foldl (· + ·) 0 = 1) (hd : ∀ q ∈ qs, q.den ≤ 60) (hl : qs.length ≤ 5) : lcmL (qs.map Rat.den) ≤ 27885 := by
  have hsum : ∀ (l : List Rat) (a : Rat), l.foldl (· + ·) a = a + l.foldl (· + ·) 0 := by
    intro l
    induction l with
    | nil => intro a; exact (Rat.add_zero _).symm
    | cons x l ih => intro a; simp only [List.foldl_cons]; rw [ih (a + x), ih (0 + x)]; grind
  have hden : ∀ (l : List Rat) (N : Nat), 0 < N → (∀ q ∈ l, q.den ∣ N) → (l.foldl (· + ·) 0).den ∣ N := by
    intro l
    induction l with
    | nil => intro N _ _; exact Nat.one_dvd _
    | cons x l ih =>
      intro N hN h
      rw [List.foldl_cons, hsum]
      obtain ⟨u, hu⟩ := rp_of hN (h x (by simp))
      obtain ⟨v, hv⟩ := rp_of hN (ih N hN fun q hq => h q (by simp [hq]))
      have := (hu.plus hv 1).dvd
      have e3 : 0 + x + l.foldl (· + ·) 0 = x + ((1 : Int) : Rat) * l.foldl (· + ·) 0 := by
        rw [show (((1 : Int)) : Rat) = 1 from rfl]; grind
      rw [e3]; exact this
  have hpos : ∀ d ∈ qs.map Rat.den, 0 < d := fun d hd => by
    obtain ⟨q, _, rfl⟩ := List.mem_map.1 hd; exact q.den_pos
  have hlpos : ∀ (l : List Nat) (m : Nat), 0 < m → (∀ d ∈ l, 0 < d) → 0 < l.foldl Nat.lcm m := by
    intro l
    induction l with
    | nil => intro m hm _; exact hm
    | cons x l ih => intro m hm h; exact ih _ (Nat.lcm_pos hm (h x (by simp))) fun d hd => h d (by simp [hd])
  have key := sq_dvd (qs.map Rat.den) hpos (by
    intro a d b hab
    obtain ⟨a', r, rfl, rfl, hr⟩ := List.map_eq_append_iff.1 hab
    obtain ⟨q, b', rfl, rfl, rfl⟩ := List.map_eq_cons_iff.1 hr
    have hN : 0 < lcmL (a'.map Rat.den ++ b'.map Rat.den) := hlpos _ _ (by decide) fun d hd => by
      rcases List.mem_append.1 hd with h | h <;> (obtain ⟨q, _, rfl⟩ := List.mem_map.1 h; exact q.den_pos)
    have h1 := hden (a' ++ b') _ hN fun x hx => by
      rw [lcmL, ← List.map_append]; exact foldl_lcm_mem (List.mem_map.2 ⟨x, hx, rfl⟩)
    have e : q = 1 - (a' ++ b').foldl (· + ·) 0 := by
      rw [List.foldl_append, List.foldl_cons, hsum] at hs
      rw [List.foldl_append, hsum b']
      grind
    obtain ⟨u, hu⟩ := rp_of hN h1
    have h2 := ((Rp.whole hN 1).plus hu (-1)).dvd
    have e3 : ((1 : Int) : Rat) + ((-1 : Int) : Rat) * (a' ++ b').foldl (· + ·) 0 = q := by
      rw [e, show (((1 : Int)) : Rat) = 1 from rfl, show (((-1 : Int)) : Rat) = -1 from rfl]; grind
    rwa [e3] at h2)
  have hprod : ∀ (l : List Rat) (m : Nat), (∀ q ∈ l, q.den ≤ 60) → (l.map Rat.den).foldl (· * ·) m ≤ m * 60 ^ l.length := by
    intro l
    induction l with
    | nil => intro m _; simp
    | cons x l ih =>
      intro m h
      rw [List.map_cons, List.foldl_cons, List.length_cons]
      refine Nat.le_trans (ih _ fun q hq => h q (by simp [hq])) ?_
      rw [Nat.pow_succ, Nat.mul_assoc]
      exact Nat.mul_le_mul_left _ (by rw [Nat.mul_comm]; exact Nat.mul_le_mul_left _ (h x (by simp)))
  have h5 := hprod qs 1 hd
  have hp5 : 60 ^ qs.length ≤ 60 ^ 5 := Nat.pow_le_pow_right (by decide) hl
  have hpp : 0 < (qs.map Rat.den).foldl (· * ·) 1 := by
    have : ∀ (l : List Nat) (m : Nat), 0 < m → (∀ d ∈ l, 0 < d) → 0 < l.foldl (· * ·) m := by
      intro l
      induction l with
      | nil => intro m hm _; exact hm
      | cons x l ih => intro m hm h; exact ih _ (Nat.mul_pos hm (h x (by simp))) fun d hd => h d (by simp [hd])
    exact this _ _ (by decide) hpos
  have h6 := Nat.le_of_dvd hpp key
  have h7 : lcmL (qs.map Rat.den) * lcmL (qs.map Rat.den) ≤ 777600000 := by
    have : (60 : Nat) ^ 5 = 777600000 := by decide
    omega
  rcases Nat.lt_or_ge 27885 (lcmL (qs.map Rat.den)) with h8 | h8
  · have := Nat.mul_le_mul h8 h8
    omega
  · exact h8
end Bq

namespace Bq

/-- Lists of fractions in least terms. -/
def Vld (ps : List (Int × Int)) : Prop := ∀ p ∈ ps, ofQ (toQ p) = p
/-- The w-th one as a number. -/
def fq (ps : List (Int × Int)) (w : Nat) : Rat := toQ (ps.getD w (0, 0))
theorem getD_mem {ps : List (Int × Int)} {k : Nat} (hk : k < ps.length) : ps.getD k (0, 0) ∈ ps := by
  rw [List.getD, List.getElem?_eq_getElem hk]; exact List.getElem_mem hk
/-- What holds of all sums to what holds of the list. -/
theorem sum_foldl (ps : List (Int × Int)) : sumTo (fq ps) ps.length = (ps.map toQ).foldl (· + ·) 0 := by
  have key : ∀ k, k ≤ ps.length → sumTo (fq ps) k = ((ps.map toQ).take k).foldl (· + ·) 0 := by
    intro k
    induction k with
    | zero => intro _; rfl
    | succ k ih =>
      intro hk
      rw [sumTo, ih (by omega), List.take_succ, List.foldl_append, List.getElem?_map, List.getElem?_eq_getElem (show k < ps.length by omega)]
      simp [fq, List.getD, List.getElem?_eq_getElem (show k < ps.length by omega)]
  rw [key _ (Nat.le_refl _), List.take_of_length_le (by simp)]
/-- A chance with a divisor up to m. -/
def chB (m : Int) (p : Int × Int) : Bool := (decide (1 ≤ p.2) && (decide (p.2 ≤ m) && (Nat.gcd p.1.natAbs p.2.natAbs == 1))) && (decide (0 ≤ p.1) && decide (p.1 ≤ p.2))
theorem chB60 (p : Int × Int) : chB 60 p = (okP p && (decide (p.1 ≤ p.2) && decide (p.2 ≤ 60))) := by
  rw [chB, okP, Bool.eq_iff_iff]
  simp only [Bool.and_eq_true, decide_eq_true_eq, beq_iff_eq]
  constructor
  · rintro ⟨⟨h1, h2, h3⟩, h4, h5⟩; exact ⟨⟨⟨⟨h1, by omega⟩, h4⟩, h3⟩, h5, h2⟩
  · rintro ⟨⟨⟨⟨h1, h2⟩, h4⟩, h3⟩, h5, h6⟩; exact ⟨⟨h1, h6, h3⟩, h4, h5⟩

/-- Valid chances. -/
structure Chn (ps : List (Int × Int)) : Prop where
  m : mult ps ≠ 0
  le : ∀ p ∈ ps, p.1 ≤ p.2
theorem Chn.ok {ps : List (Int × Int)} (c : Chn ps) {p : Int × Int} (hp : p ∈ ps) : okP p = true := (mult_spec c.m).1 p hp
theorem Chn.vld {ps : List (Int × Int)} (c : Chn ps) : Vld ps := fun p hp => okP_ofQ (c.ok hp)
/-- A fraction's parts. -/
theorem Chn.rp {ps : List (Int × Int)} (c : Chn ps) {p : Int × Int} (hp : p ∈ ps) : Rp (mult ps) ((mult ps : Int) / p.2 * p.1) (toQ p) ∧ 0 ≤ (mult ps : Int) / p.2 * p.1 ∧ (mult ps : Int) / p.2 * p.1 ≤ mult ps ∧ 1 ≤ p.2 ∧ 0 ≤ p.1 ∧ (p.2 ∣ (mult ps : Int)) := by
  have hok := c.ok hp
  have hd := mult_dvd c.m hp
  have e := okP_ofQ hok
  have e1 : (toQ p).num = p.1 := congrArg Prod.fst e
  have e2 : ((toQ p).den : Int) = p.2 := congrArg Prod.snd e
  have hle := c.le p hp
  simp only [okP, Bool.and_eq_true, decide_eq_true_eq] at hok
  have r := Rp.up' (Rp.own (toQ p)) hd (Nat.pos_of_ne_zero c.m)
  have e3 : (mult ps : Int) / p.2 * p.1 = (toQ p).num * ((mult ps / (toQ p).den : Nat) : Int) := by
    rw [e1, Int.natCast_ediv, e2, Int.mul_comm]
  rw [e3]
  have hn : 0 ≤ (toQ p).num * ((mult ps / (toQ p).den : Nat) : Int) := Int.mul_nonneg (by omega) (Int.natCast_nonneg _)
  refine ⟨r, hn, ?_, by omega, by omega, ?_⟩
  · have hb := r.bound (C := 1) (by have := okP_pos (c.ok hp); have h2 : (0 : Rat) ≤ ((1 : Nat) : Rat) := Rat.natCast_nonneg; have : -((1 : Nat) : Rat) ≤ 0 := by decide
                                    exact Rat.le_trans this ‹0 ≤ toQ p›) ((okP_le (c.ok hp)).2 hle)
    omega
  · rw [← e2]; exact Int.natCast_dvd_natCast.2 hd
theorem Chn.unit {ps : List (Int × Int)} (c : Chn ps) {k : Nat} (hk : k < ps.length) : 0 ≤ fq ps k ∧ fq ps k ≤ 1 ∧ (fq ps k).den ∣ mult ps :=
  ⟨okP_pos (c.ok (getD_mem hk)), (okP_le (c.ok (getD_mem hk))).2 (c.le _ (getD_mem hk)), mult_dvd c.m (getD_mem hk)⟩

/-- Small divisors have a common multiple. -/
theorem mulTo_small : ∀ (ps : List (Int × Int)) (m B : Nat), 0 < m → m ≤ B → B * 60 ^ ps.length ≤ 10000000000 → (∀ p ∈ ps, okP p = true ∧ p.2 ≤ 60) → mulTo ps m ≠ 0
  | [], m, B, h0, _, _, _ => by rw [mulTo]; omega
  | p :: ps, m, B, h0, h1, h2, h => by
    obtain ⟨hok, h60⟩ := h p (by simp)
    have hok' := hok
    simp only [okP, Bool.and_eq_true, decide_eq_true_eq] at hok'
    have hp : 0 < p.2.natAbs := by omega
    have hl : Nat.lcm m p.2.natAbs ≤ B * 60 := Nat.le_trans (Nat.le_of_dvd (Nat.mul_pos h0 hp) (Nat.lcm_dvd_mul _ _)) (Nat.mul_le_mul h1 (by omega))
    rw [List.length_cons, Nat.pow_succ, Nat.mul_comm (60 ^ _), ← Nat.mul_assoc] at h2
    have h3 : Nat.lcm m p.2.natAbs ≤ 10000000000 := by
      have : B * 60 * 1 ≤ B * 60 * 60 ^ ps.length := Nat.mul_le_mul_left _ (Nat.pow_pos (by decide))
      omega
    rw [mulTo, if_pos ⟨hok, h3⟩]
    exact mulTo_small ps _ (B * 60) (Nat.lcm_pos h0 hp) hl h2 fun q hq => h q (by simp [hq])

/-- A forecast. -/
def fcB (ps : List (Int × Int)) : Bool := decide (2 ≤ ps.length) && (decide (ps.length ≤ 5) && (ps.all (chB 60) && decide (sumTo (fq ps) ps.length = 1)))
structure Fc (ps : List (Int × Int)) : Prop where
  len : 2 ≤ ps.length ∧ ps.length ≤ 5
  c : Chn ps
  den : ∀ p ∈ ps, p.2 ≤ 60
  sum : sumTo (fq ps) ps.length = 1
  small : mult ps ≤ 27885
theorem small_chn {ps : List (Int × Int)} (hl : ps.length ≤ 5) (h : ps.all (chB 60) = true) : Chn ps ∧ ∀ p ∈ ps, p.2 ≤ 60 := by
  rw [List.all_eq_true] at h
  have h2 : ∀ p ∈ ps, okP p = true ∧ p.1 ≤ p.2 ∧ p.2 ≤ 60 := fun p hp => by
    have := h p hp
    rw [chB60] at this
    simpa using this
  refine ⟨⟨?_, fun p hp => (h2 p hp).2.1⟩, fun p hp => (h2 p hp).2.2⟩
  exact mulTo_small ps 1 1 (by decide) (Nat.le_refl _) (by
    have : 60 ^ ps.length ≤ 60 ^ 5 := Nat.pow_le_pow_right (by decide) hl
    have e : (60 : Nat) ^ 5 = 777600000 := by decide
    omega) fun p hp => ⟨(h2 p hp).1, (h2 p hp).2.2⟩
theorem fc_of {ps : List (Int × Int)} (h : fcB ps = true) : Fc ps := by
  simp only [fcB, Bool.and_eq_true, decide_eq_true_eq] at h
  obtain ⟨h1, h2, h3, h4⟩ := h
  obtain ⟨hc, hd⟩ := small_chn h2 h3
  refine ⟨⟨h1, h2⟩, hc, hd, h4, ?_⟩
  have hv := hc.vld
  have e : (ps.map fun p => p.2.natAbs) = (ps.map toQ).map Rat.den := by
    rw [List.map_map]
    refine List.map_congr_left fun p hp => ?_
    have := congrArg Prod.snd (hv p hp)
    simp only [ofQ] at this
    simp only [Function.comp]; omega
  rw [(mult_spec hc.m).2.1, e]
  refine lcm_small (by rw [← sum_foldl]; exact h4) (fun q hq => ?_) (by simpa using h2)
  obtain ⟨p, hp, rfl⟩ := List.mem_map.1 hq
  have := congrArg Prod.snd (hv p hp)
  have h60 := hd p hp
  simp only [ofQ] at this
  omega

/-- The score of a forecast in a world; the average. -/
def scoreTo (ps : List (Int × Int)) (w k : Nat) : Rat := 2 * fq ps w - sumTo (fun i => fq ps i * fq ps i) k
def scoreQ (ps : List (Int × Int)) (w : Nat) : Rat := scoreTo ps w ps.length
def meanTo (f b : List (Int × Int)) (k : Nat) : Rat := sumTo (fun w => fq b w * scoreQ f w) k
def meanQ (f b : List (Int × Int)) : Rat := meanTo f b b.length
theorem sq_le {f : Nat → Rat} {n : Nat} (h : ∀ i, i < n → 0 ≤ f i ∧ f i ≤ 1) : ∀ k, k ≤ n → 0 ≤ sumTo (fun i => f i * f i) k ∧ sumTo (fun i => f i * f i) k ≤ sumTo f k
  | 0, _ => ⟨Rat.le_refl, Rat.le_refl⟩
  | k + 1, hk => by
    obtain ⟨h1, h2⟩ := sq_le h k (by omega)
    obtain ⟨h3, h4⟩ := h k (by omega)
    have h5 := Rat.mul_nonneg h3 h3
    have h6 := Rat.mul_le_mul_of_nonneg_left h4 h3
    simp only [sumTo]
    constructor <;> grind
theorem Fc.unit {ps : List (Int × Int)} (c : Fc ps) {k : Nat} (hk : k < ps.length) : 0 ≤ fq ps k ∧ fq ps k ≤ 1 := ⟨(c.c.unit hk).1, (c.c.unit hk).2.1⟩
/-- A score is from minus one to two while it is summed, and to one in the end. -/
theorem Fc.scoreTo_le {ps : List (Int × Int)} (c : Fc ps) {w k : Nat} (hw : w < ps.length) (hk : k ≤ ps.length) : -1 ≤ scoreTo ps w k ∧ scoreTo ps w k ≤ 2 := by
  obtain ⟨h1, h2⟩ := sq_le (f := fq ps) (n := ps.length) (fun i hi => c.unit hi) k hk
  have h3 := sumTo_mono (g := fq ps) hk fun i hi => (c.unit hi).1
  rw [c.sum] at h3
  obtain ⟨h4, h5⟩ := c.unit hw
  rw [scoreTo]
  constructor <;> grind
theorem Fc.score_le {ps : List (Int × Int)} (c : Fc ps) {w : Nat} (hw : w < ps.length) : -1 ≤ scoreQ ps w ∧ scoreQ ps w ≤ 1 := by
  refine ⟨(c.scoreTo_le hw (Nat.le_refl _)).1, ?_⟩
  have h1 := sumTo_one (g := fun i => fq ps i * fq ps i) hw fun i hi => Rat.mul_nonneg (c.unit hi).1 (c.unit hi).1
  obtain ⟨h4, h5⟩ := c.unit hw
  have h6 : 0 ≤ (1 - fq ps w) * (1 - fq ps w) := Rat.mul_nonneg (by grind) (by grind)
  rw [scoreQ, scoreTo]
  grind
theorem mul_den_dvd {a b : Rat} {N M : Nat} (hN : 0 < N) (hM : 0 < M) (ha : a.den ∣ N) (hb : b.den ∣ M) : (a * b).den ∣ N * M := by
  obtain ⟨x, hx⟩ := rp_of hN ha
  obtain ⟨y, hy⟩ := rp_of hM hb
  exact (hx.mul hy).dvd
theorem add_den_dvd {a b : Rat} {N : Nat} (k : Int) (hN : 0 < N) (ha : a.den ∣ N) (hb : b.den ∣ N) : (a + k * b).den ∣ N := by
  obtain ⟨x, hx⟩ := rp_of hN ha
  obtain ⟨y, hy⟩ := rp_of hN hb
  exact (hx.plus hy k).dvd
theorem Fc.scoreTo_den {ps : List (Int × Int)} (c : Fc ps) {w k : Nat} (hw : w < ps.length) (hk : k ≤ ps.length) : (scoreTo ps w k).den ∣ mult ps * mult ps := by
  have hm : 0 < mult ps := Nat.pos_of_ne_zero c.c.m
  have hmm := Nat.mul_pos hm hm
  have h1 : (sumTo (fun i => fq ps i * fq ps i) k).den ∣ mult ps * mult ps := sumTo_den hmm fun i hi => mul_den_dvd hm hm (c.c.unit (by omega)).2.2 (c.c.unit (by omega)).2.2
  have h2 : (fq ps w).den ∣ mult ps * mult ps := Nat.dvd_trans (c.c.unit hw).2.2 (Nat.dvd_mul_right _ _)
  have h3 : ((fq ps w) + ((1 : Int) : Rat) * fq ps w).den ∣ mult ps * mult ps := add_den_dvd 1 hmm h2 h2
  have h4 := add_den_dvd (-1) hmm h3 h1
  have e : (fq ps w) + ((1 : Int) : Rat) * fq ps w + ((-1 : Int) : Rat) * sumTo (fun i => fq ps i * fq ps i) k = scoreTo ps w k := by
    rw [scoreTo, show (((1 : Int)) : Rat) = 1 from rfl, show (((-1 : Int)) : Rat) = -1 from rfl]; grind
  rwa [e] at h4
theorem mean_le {f b : List (Int × Int)} (cf : Fc f) (cb : Fc b) (hl : f.length = b.length) : ∀ k, k ≤ b.length → -sumTo (fq b) k ≤ meanTo f b k ∧ meanTo f b k ≤ sumTo (fq b) k
  | 0, _ => ⟨Rat.le_refl, Rat.le_refl⟩
  | k + 1, hk => by
    obtain ⟨h1, h2⟩ := mean_le cf cb hl k (by omega)
    obtain ⟨h3, h4⟩ := cb.unit (show k < b.length by omega)
    obtain ⟨h5, h6⟩ := cf.score_le (w := k) (by omega)
    have h7 := Rat.mul_le_mul_of_nonneg_left h6 h3
    have h8 := Rat.mul_le_mul_of_nonneg_left h5 h3
    simp only [meanTo, sumTo] at h1 h2 ⊢
    constructor <;> grind
theorem mean_den {f b : List (Int × Int)} (cf : Fc f) (cb : Fc b) (hl : f.length = b.length) {k : Nat} (hk : k ≤ b.length) : (meanTo f b k).den ∣ mult b * (mult f * mult f) := by
  have hm : 0 < mult f := Nat.pos_of_ne_zero cf.c.m
  have hb : 0 < mult b := Nat.pos_of_ne_zero cb.c.m
  have hmm := Nat.mul_pos hm hm
  exact sumTo_den (Nat.mul_pos hb hmm) fun i hi => mul_den_dvd hb hmm (cb.c.unit (by omega)).2.2 (cf.scoreTo_den (by omega) (Nat.le_refl _))
end Bq

namespace Bq

/-- A system: rows of numbers, the right side last. -/
abbrev SysT := Nat → Nat → Rat
def swapT (a p : Nat) (T : SysT) : SysT := fun i => if i = a then T p else if i = p then T a else T i
def normT (a : Nat) (T : SysT) : SysT := fun i c => if i = a then T a c / T a a else T i c
def elimT (a : Nat) (T : SysT) : SysT := fun i c => if i = a then T a c else T i c - T i a * T a c
/-- The first row from a on with a number in column a. -/
def findP (m a : Nat) (T : SysT) : Option Nat := (List.range m).find? fun p => decide (a ≤ p) && decide (T p a ≠ 0)
def elimStep (m a : Nat) (T : SysT) : Option SysT := (findP m a T).map fun p => elimT a (normT a (swapT a p T))
def elimRun (m : Nat) (T : SysT) : Nat → Option SysT
  | 0 => some T
  | j + 1 => (elimRun m T j).bind (elimStep m j)
/-- Whether a row from k on is left. -/
def restT (m k : Nat) (T : SysT) : Bool := (List.range m).any fun i => decide (k ≤ i) && decide (T i k ≠ 0)
def solveT (m k : Nat) (T : SysT) : Option (List Rat) := (elimRun m T k).bind fun S => if restT m k S then none else some ((List.range k).map fun i => S i k)

/-- All numbers are parts of one number, neither great. -/
def Tame (m k : Nat) (T : SysT) : Prop := ∃ D : Nat, 0 < D ∧ D ≤ 1073741824 ∧ ∀ i c, i < m → c ≤ k → ∃ x : Int, Rp D x (T i c) ∧ x.natAbs ≤ 1073741824
theorem find_spec {n : Nat} {F : Nat → Bool} {k : Nat} (hk : k < n) (hF : F k = true) (hlo : ∀ i, i < k → F i = false) : (List.range n).find? F = some k := by
  rw [List.find?_eq_some_iff_append]
  refine ⟨hF, List.range k, (List.range' (k + 1) (n - (k + 1))), ?_, fun a ha => by simp [hlo a (List.mem_range.1 ha)]⟩
  apply List.ext_getElem?
  intro i
  rw [List.getElem?_append, List.length_range]
  by_cases h : i < k
  · simp [h, show i < n by omega]
  · rw [if_neg h]
    rcases Nat.eq_or_lt_of_le (Nat.not_lt.1 h) with h1 | h1
    · subst h1; simp [hk]
    · rw [show i - k = (i - (k + 1)) + 1 by omega, List.getElem?_cons_succ]
      by_cases h2 : i < n
      · rw [List.getElem?_range h2, List.getElem?_range' (by omega)]; congr 1; omega
      · rw [List.getElem?_eq_none (by simp; omega), List.getElem?_eq_none (by simp; omega)]
theorem find_none {n : Nat} {F : Nat → Bool} (h : ∀ i, i < n → F i = false) : (List.range n).find? F = none := by
  rw [List.find?_eq_none]
  intro x hx
  simp [h x (List.mem_range.1 hx)]
theorem find_some {n : Nat} {F : Nat → Bool} {k : Nat} (h : (List.range n).find? F = some k) : k < n ∧ F k = true ∧ ∀ i, i < k → F i = false := by
  have h1 := List.find?_some h
  have h2 := List.mem_of_find?_eq_some h
  refine ⟨List.mem_range.1 h2, h1, fun i hi => ?_⟩
  cases hF : F i with
  | false => rfl
  | true =>
    exfalso
    have hin := List.mem_range.1 h2
    have key : ∀ i, i < k → F i = true → (∀ j, j < i → F j = false) → False := fun i hi hF hlo => by
      have := find_spec (show i < n by omega) hF hlo
      rw [h] at this; cases this; omega
    induction i using Nat.strongRecOn with
    | _ i ih =>
      exact key i hi hF fun j hj => by
        cases hb : F j with
        | false => rfl
        | true => exact (ih j hj (by omega) hb).elim
theorem findP_some {m a p : Nat} {T : SysT} (h : findP m a T = some p) : p < m ∧ a ≤ p ∧ T p a ≠ 0 ∧ ∀ i, a ≤ i → i < p → T i a = 0 := by
  obtain ⟨h1, h2, h3⟩ := find_some h
  simp only [Bool.and_eq_true, decide_eq_true_eq] at h2
  refine ⟨h1, h2.1, h2.2, fun i ha hi => ?_⟩
  have := h3 i hi
  simp only [Bool.and_eq_false_iff, decide_eq_false_iff_not] at this
  rcases this with h4 | h4
  · omega
  · exact Decidable.not_not.1 h4
end Bq

/-
  Printed by gen.py: facts on the types of this seat, asked of the kernel.
  Printed by gen.py: the code of some functions, without what no step looks at; held against the program's own by the kernel.
  bets: fractions as rational numbers: parts of a common multiple. Plain Lean, no program.
  bets: fractions: the program's arithmetic, and the reference's.
  Printed by gen.py: the code of some functions, without what no step looks at; held against the program's own by the kernel.
  Printed by gen.py: the code of some functions, without what no step looks at; held against the program's own by the kernel.
  bets: races.
  bets: the common multiple of fractions that sum to one: its square divides the product. Plain Lean, no program.
  bets: fractions as they are handed in; their common multiple; a forecast's is small. Plain Lean, no program.
  bets: forecasts as numbers. Plain Lean, no program.
  bets, plain: how a stake grows: prizes taken from the best on.
  Printed by gen.py: the code of some functions, without what no step looks at; held against the program's own by the kernel.
-/
import Derived.Test.YtcmindinomacbaaPk3
import Derived.Test.YtcmindinomacbaaProg
import Derived.KernelRfl
import Derived.Shelf.Abstract
import Derived.Test.YtcmindinomacbaaPk5
set_option linter.all false
namespace Go.Proofs.Try.Am
open Go.Am
set_option maxRecDepth 100000
theorem app_103_103 : appT Try.prog 103 103 = some (47, 1, 24) := by kernel_rfl
theorem app_22_22 : appT Try.prog 22 22 = some (24, 2, 16) := by kernel_rfl
theorem app_30_30 : appT Try.prog 30 30 = some (92, 2, 16) := by kernel_rfl
theorem app_38_38 : appT Try.prog 38 38 = some (3, 1, 8) := by kernel_rfl
theorem app_47_47 : appT Try.prog 47 47 = some (26, 2, 16) := by kernel_rfl
theorem app_88_88 : appT Try.prog 88 88 = some (90, 1, 24) := by kernel_rfl
theorem app_94_94 : appT Try.prog 94 94 = some (47, 1, 24) := by kernel_rfl
theorem el_103 : elemOf' Try.prog 103 = some 47 := by kernel_rfl
theorem el_22 : elemOf' Try.prog 22 = some 24 := by kernel_rfl
theorem el_30 : elemOf' Try.prog 30 = some 92 := by kernel_rfl
theorem Wb : elemOf' Try.prog 38 = some 3 := by kernel_rfl
theorem Vo : elemOf' Try.prog 47 = some 26 := by kernel_rfl
theorem el_88 : elemOf' Try.prog 88 = some 90 := by kernel_rfl
theorem el_90 : elemOf' Try.prog 90 = some 26 := by kernel_rfl
theorem el_94 : elemOf' Try.prog 94 = some 47 := by kernel_rfl
theorem esz_112 : esz Try.prog 112 = some 1 := by kernel_rfl
theorem esz_24 : esz Try.prog 24 = some 2 := by kernel_rfl
theorem Xw : esz Try.prog 26 = some 2 := by kernel_rfl
theorem Xt : esz Try.prog 3 = some 1 := by kernel_rfl
theorem esz_30 : esz Try.prog 30 = some 1 := by kernel_rfl
theorem esz_35 : esz Try.prog 35 = some 1 := by kernel_rfl
theorem esz_38 : esz Try.prog 38 = some 1 := by kernel_rfl
theorem esz_47 : esz Try.prog 47 = some 1 := by kernel_rfl
theorem esz_75 : esz Try.prog 75 = some 1 := by kernel_rfl
theorem esz_76 : esz Try.prog 76 = some 1 := by kernel_rfl
theorem esz_86 : esz Try.prog 86 = some 2 := by kernel_rfl
theorem esz_90 : esz Try.prog 90 = some 1 := by kernel_rfl
theorem esz_92 : esz Try.prog 92 = some 2 := by kernel_rfl
theorem fld_24_0 : fldOf Try.prog 24 0 = some (3, 0) := by kernel_rfl
theorem fld_24_1 : fldOf Try.prog 24 1 = some (3, 1) := by kernel_rfl
theorem fld_26_0 : fldOf Try.prog 26 0 = some (3, 0) := by kernel_rfl
theorem fld_26_1 : fldOf Try.prog 26 1 = some (3, 1) := by kernel_rfl
theorem fld_75_0 : fldOf Try.prog 75 0 = some (38, 0) := by kernel_rfl
theorem fld_76_0 : fldOf Try.prog 76 0 = some (38, 0) := by kernel_rfl
theorem fld_86_0 : fldOf Try.prog 86 0 = some (3, 0) := by kernel_rfl
theorem fld_86_1 : fldOf Try.prog 86 1 = some (30, 1) := by kernel_rfl
theorem fld_92_0 : fldOf Try.prog 92 0 = some (3, 0) := by kernel_rfl
theorem fld_92_1 : fldOf Try.prog 92 1 = some (3, 1) := by kernel_rfl
theorem info_26 : (Try.prog.info? 26).map (fun i => (i.size, i.bytes)) = some (2, 16) := by kernel_rfl
theorem info_3 : (Try.prog.info? 3).map (fun i => (i.size, i.bytes)) = some (1, 8) := by kernel_rfl
theorem isl_103 : isSl Try.prog 103 = true := by kernel_rfl
theorem isl_22 : isSl Try.prog 22 = true := by kernel_rfl
theorem isl_30 : isSl Try.prog 30 = true := by kernel_rfl
theorem isl_38 : isSl Try.prog 38 = true := by kernel_rfl
theorem isl_47 : isSl Try.prog 47 = true := by kernel_rfl
theorem isl_88 : isSl Try.prog 88 = true := by kernel_rfl
theorem isl_90 : isSl Try.prog 90 = true := by kernel_rfl
theorem isl_94 : isSl Try.prog 94 = true := by kernel_rfl
theorem pl_24_0 : Wx Try.prog 24 0 = some (0, 1) := by kernel_rfl
theorem pl_24_1 : Wx Try.prog 24 1 = some (1, 1) := by kernel_rfl
theorem pl_26_0 : Wx Try.prog 26 0 = some (0, 1) := by kernel_rfl
theorem pl_26_1 : Wx Try.prog 26 1 = some (1, 1) := by kernel_rfl
theorem pl_75_0 : Wx Try.prog 75 0 = some (0, 1) := by kernel_rfl
theorem pl_76_0 : Wx Try.prog 76 0 = some (0, 1) := by kernel_rfl
theorem pl_86_0 : Wx Try.prog 86 0 = some (0, 1) := by kernel_rfl
theorem pl_86_1 : Wx Try.prog 86 1 = some (1, 1) := by kernel_rfl
theorem pl_92_0 : Wx Try.prog 92 0 = some (0, 1) := by kernel_rfl
theorem pl_92_1 : Wx Try.prog 92 1 = some (1, 1) := by kernel_rfl
theorem shp_112 : shp Try.prog 112 = some none := by kernel_rfl
theorem shp_24 : shp Try.prog 24 = some (some 2) := by kernel_rfl
theorem Wv : shp Try.prog 26 = some (some 2) := by kernel_rfl
theorem Xl : shp Try.prog 3 = some none := by kernel_rfl
theorem shp_30 : shp Try.prog 30 = some none := by kernel_rfl
theorem shp_35 : shp Try.prog 35 = some none := by kernel_rfl
theorem Vb : shp Try.prog 38 = some none := by kernel_rfl
theorem shp_47 : shp Try.prog 47 = some none := by kernel_rfl
theorem shp_75 : shp Try.prog 75 = some (some 1) := by kernel_rfl
theorem shp_76 : shp Try.prog 76 = some (some 1) := by kernel_rfl
theorem shp_86 : shp Try.prog 86 = some (some 2) := by kernel_rfl
theorem shp_90 : shp Try.prog 90 = some none := by kernel_rfl
theorem shp_92 : shp Try.prog 92 = some (some 2) := by kernel_rfl
theorem und_103 : Program.underlying Try.prog 103 = some (.slice 47) := by kernel_rfl
theorem und_126 : Program.underlying Try.prog 126 = some (.int .u32) := by kernel_rfl
theorem und_129 : Program.underlying Try.prog 129 = some (.int .u64) := by kernel_rfl
theorem und_22 : Program.underlying Try.prog 22 = some (.slice 24) := by kernel_rfl
theorem und_3 : Program.underlying Try.prog 3 = some (.int .i64) := by kernel_rfl
theorem und_30 : Program.underlying Try.prog 30 = some (.slice 92) := by kernel_rfl
theorem und_38 : Program.underlying Try.prog 38 = some (.slice 3) := by kernel_rfl
theorem und_4 : Program.underlying Try.prog 4 = some (.bool) := by kernel_rfl
theorem und_47 : Program.underlying Try.prog 47 = some (.slice 26) := by kernel_rfl
theorem und_67 : Program.underlying Try.prog 67 = some (.int .u64) := by kernel_rfl
theorem und_88 : Program.underlying Try.prog 88 = some (.slice 90) := by kernel_rfl
theorem und_90 : Program.underlying Try.prog 90 = some (.slice 26) := by kernel_rfl
theorem und_94 : Program.underlying Try.prog 94 = some (.slice 47) := by kernel_rfl
theorem zero_24 : Wd Try.prog 24 = some [.int .i64 0, .int .i64 0] := by kernel_rfl
theorem zero_26 : Wd Try.prog 26 = some [.int .i64 0, .int .i64 0] := by kernel_rfl
theorem zero_3 : Wd Try.prog 3 = some [.int .i64 0] := by kernel_rfl
theorem zero_38 : Wd Try.prog 38 = some [.slice none 0 0] := by kernel_rfl
theorem zero_47 : Wd Try.prog 47 = some [.slice none 0 0] := by kernel_rfl
theorem zero_75 : Wd Try.prog 75 = some [.slice none 0 0] := by kernel_rfl
theorem zero_76 : Wd Try.prog 76 = some [.slice none 0 0] := by kernel_rfl
theorem zero_86 : Wd Try.prog 86 = some [.int .i64 0, .slice none 0 0] := by kernel_rfl
theorem zero_90 : Wd Try.prog 90 = some [.slice none 0 0] := by kernel_rfl
theorem zero_92 : Wd Try.prog 92 = some [.int .i64 0, .int .i64 0] := by kernel_rfl
def tyf := (And.intro (And.intro (And.intro (And.intro (And.intro (And.intro (And.intro @app_103_103 @app_22_22) @app_30_30) (And.intro (And.intro @app_38_38 @app_47_47) @app_88_88)) (And.intro (And.intro (And.intro @app_94_94 @el_103) @el_22) (And.intro (And.intro @el_30 @Wb) @Vo))) (And.intro (And.intro (And.intro (And.intro @el_88 @el_90) @el_94) (And.intro (And.intro @esz_112 @esz_24) @Xw)) (And.intro (And.intro (And.intro @Xt @esz_30) @esz_35) (And.intro (And.intro @esz_38 @esz_47) @esz_75)))) (And.intro (And.intro (And.intro (And.intro (And.intro @esz_76 @esz_86) @esz_90) (And.intro (And.intro @esz_92 @fld_24_0) @fld_24_1)) (And.intro (And.intro (And.intro @fld_26_0 @fld_26_1) @fld_75_0) (And.intro (And.intro @fld_76_0 @fld_86_0) @fld_86_1))) (And.intro (And.intro (And.intro (And.intro @fld_92_0 @fld_92_1) @info_26) (And.intro (And.intro @info_3 @isl_103) @isl_22)) (And.intro (And.intro (And.intro @isl_30 @isl_38) @isl_47) (And.intro @isl_88 @isl_90))))) (And.intro (And.intro (And.intro (And.intro (And.intro (And.intro @isl_94 @pl_24_0) @pl_24_1) (And.intro (And.intro @pl_26_0 @pl_26_1) @pl_75_0)) (And.intro (And.intro (And.intro @pl_76_0 @pl_86_0) @pl_86_1) (And.intro (And.intro @pl_92_0 @pl_92_1) @shp_112))) (And.intro (And.intro (And.intro (And.intro @shp_24 @Wv) @Xl) (And.intro (And.intro @shp_30 @shp_35) @Vb)) (And.intro (And.intro (And.intro @shp_47 @shp_75) @shp_76) (And.intro (And.intro @shp_86 @shp_90) @shp_92)))) (And.intro (And.intro (And.intro (And.intro (And.intro @und_103 @und_126) @und_129) (And.intro (And.intro @und_22 @und_3) @und_30)) (And.intro (And.intro (And.intro @und_38 @und_4) @und_47) (And.intro (And.intro @und_67 @und_88) @und_90))) (And.intro (And.intro (And.intro (And.intro @und_94 @zero_24) @zero_26) (And.intro (And.intro @zero_3 @zero_38) @zero_47)) (And.intro (And.intro (And.intro @zero_75 @zero_76) @zero_86) (And.intro @zero_90 @zero_92))))))
end Go.Proofs.Try.Am

namespace Go.Proofs.Try.Am
open Go.Am
set_option maxRecDepth 100000
/-! 21: planchet planchetlaw09.awake -/
@[reducible] def q21_0 : SCode := .region [⟨some 0, .assign (.const (.bool false)), none⟩]
@[reducible] def q21_1 : SCode := .region [⟨some 4, .build 92 #[(0, .const (.int .i64 1)), (1, .const (.int .i64 6))], none⟩,
    ⟨some 5, .buildSlice 30 1 #[(0, .tmp 4)], none⟩,
    ⟨some 6, .call { callee := .value (.func 36), args := #[.const (.int .i64 2), .tmp 5], argTypes := #[3, 30] }, none⟩,
    ⟨some 3, .move (.tmp 6), none⟩,
    ⟨some 7, .extract (.tmp 3) 0, none⟩,
    ⟨some 8, .extract (.tmp 3) 1, none⟩,
    ⟨some 1, .assign (.tmp 7), none⟩,
    ⟨some 2, .assign (.tmp 8), none⟩]
@[reducible] def q21_2 : SCode := .region [⟨some 9, .move (.tmp 2), none⟩,
    ⟨some 10, .binOp .eql 27 (.tmp 9) (.const (.int .i64 0)) 27, none⟩,
    ⟨some 11, .move (.tmp 10), none⟩,
    ⟨some 12, .move (.tmp 1), some (11, true)⟩,
    ⟨some 13, .build 26 #[(0, .const (.int .i64 1)), (1, .const (.int .i64 2))], some (11, true)⟩,
    ⟨some 14, .build 26 #[(0, .const (.int .i64 1)), (1, .const (.int .i64 2))], some (11, true)⟩,
    ⟨some 15, .buildSlice 47 2 #[(0, .tmp 13), (1, .tmp 14)], some (11, true)⟩,
    ⟨some 16, .call { callee := .value (.func 35), args := #[.tmp 12, .tmp 15], argTypes := #[47, 47] }, some (11, true)⟩,
    ⟨some 17, .pick (.tmp 11) (.tmp 16) (.const (.bool false)), none⟩,
    ⟨some 0, .assign (.tmp 17), none⟩]
def s21 : SCode := (.seq q21_0 (.seq q21_1 (.seq q21_2 .ret)))
theorem s21_strip : Zw (Zu Try.f21) = s21 := by kernel_rfl
theorem s21_ok : Yi 18 (Zu Try.f21) = true := by kernel_rfl
/-! 57: slices.Clone[[]planchet api.Frac,planchet api.Frac] -/
@[reducible] def q57_0 : SCode := .region [⟨some 2, .assign (.const (.slice none 0 0)), none⟩]
@[reducible] def q57_1 : SCode := .region [⟨some 3, .move (.tmp 0), none⟩,
    ⟨some 4, .binOp .eql 47 (.tmp 3) (.const (.slice none 0 0)) 47, none⟩]
@[reducible] def q57_2 : SCode := .region [⟨some 2, .assign (.const (.slice none 0 0)), none⟩]
@[reducible] def q57_3 : SCode := .region [⟨some 5, .buildSlice 47 0 #[], none⟩,
    ⟨some 6, .move (.tmp 0), none⟩,
    ⟨some 7, .call { callee := .builtin .append, args := #[.tmp 5, .tmp 6], argTypes := #[47, 47] }, none⟩,
    ⟨some 2, .assign (.tmp 7), none⟩]
def s57 : SCode := (.seq q57_0 (.seq (.seq q57_1 (.cond (.tmp 4) (.seq q57_2 .ret) .skip)) (.seq q57_3 .ret)))
theorem s57_strip : Zw (Zu Try.f57) = s57 := by kernel_rfl
theorem s57_ok : Yi 8 (Zu Try.f57) = true := by kernel_rfl
theorem s57_call [Tabs Try.prog] {args : List Value} {h : Zh} {Q : Value → Zh → Prop} (hsz : args.length ≤ 8) (hk : aw Try.prog 8 s57 (Zr Try.prog [.tmp 2] Q) (Zt 0 args) h) : ACall Try.prog 57 args h Q :=
  acall_s Try.func57 rfl (enters_of Try.func57 (by kernel_rfl) rfl) rfl rfl (by decide) s57_strip s57_ok hsz hk

/-! 62: planchet bets.less -/
@[reducible] def q62_0 : SCode := .region [⟨some 2, .box 26 (.tmp 0), none⟩,
    ⟨some 3, .box 26 (.tmp 1), none⟩,
    ⟨some 4, .assign (.const (.bool false)), none⟩]
@[reducible] def q62_1 : SCode := .region [⟨some 5, .load 26 (.tmp 2), none⟩,
    ⟨some 6, .load 26 (.tmp 3), none⟩,
    ⟨some 7, .call { callee := .value (.func 71), args := #[.tmp 5, .const (.int .i64 (-1)), .tmp 6], argTypes := #[26, 3, 26] }, none⟩,
    ⟨some 8, .field 26 (.tmp 7) 0, none⟩,
    ⟨some 9, .binOp .lss 3 (.tmp 8) (.const (.int .i64 0)) 3, none⟩,
    ⟨some 4, .assign (.tmp 9), none⟩]
def s62 : SCode := (.seq q62_0 (.seq q62_1 .ret))
theorem s62_strip : Zw (Zu Try.f62) = s62 := by kernel_rfl
theorem s62_ok : Yi 10 (Zu Try.f62) = true := by kernel_rfl
/-! 64: planchet bets.frac -/
@[reducible] def q64_0 : SCode := .region [⟨some 4, .alloc 26, none⟩]
@[reducible] def q64_1 : SCode := .region [⟨some 6, .move (.tmp 1), none⟩,
    ⟨some 7, .binOp .lss 3 (.tmp 6) (.const (.int .i64 0)) 3, none⟩]
@[reducible] def q64_2 : SCode := .region [⟨some 8, .move (.tmp 0), none⟩,
    ⟨some 9, .unOp .neg 3 (.tmp 8), none⟩,
    ⟨some 10, .move (.tmp 1), none⟩,
    ⟨some 11, .unOp .neg 3 (.tmp 10), none⟩,
    ⟨some 0, .assign (.tmp 9), none⟩,
    ⟨some 1, .assign (.tmp 11), none⟩]
@[reducible] def q64_3 : SCode := .region [⟨some 12, .move (.tmp 0), none⟩,
    ⟨some 13, .move (.tmp 1), none⟩,
    ⟨some 14, .call { callee := .value (.func 88), args := #[.tmp 12, .tmp 13], argTypes := #[3, 3] }, none⟩,
    ⟨some 5, .assign (.tmp 14), none⟩]
def q64_4 : SCode := .draw [⟨some 15, .move (.tmp 0), none⟩,
    ⟨some 16, .move (.tmp 5), none⟩,
    ⟨some 17, .binOp .quo 3 (.tmp 15) (.tmp 16) 3, none⟩,
    ⟨some 18, .move (.tmp 1), none⟩,
    ⟨some 19, .move (.tmp 5), none⟩,
    ⟨some 20, .binOp .quo 3 (.tmp 18) (.tmp 19) 3, none⟩,
    ⟨some 21, .build 26 #[(0, .tmp 17), (1, .tmp 20)], none⟩,
    ⟨none, .store 26 (.tmp 4) (.tmp 21), none⟩]
   [[], [], [0, 1], [], [], [3, 4], [2, 5], [6, 0, 1, 2, 3, 4, 5, 6]]
def s64 : SCode := (.seq q64_0 (.seq (.seq q64_1 (.cond (.tmp 7) q64_2 .skip)) (.seq q64_3 (.seq q64_4 .ret))))
theorem s64_strip : Zw (Zu Try.f64) = s64 := by kernel_rfl
theorem s64_ok : Yi 22 (Zu Try.f64) = true := by kernel_rfl
/-! 68: planchet planchetref09.frac -/
@[reducible] def q68_0 : SCode := .region [⟨some 4, .alloc 26, none⟩]
@[reducible] def q68_1 : SCode := .region [⟨some 7, .move (.tmp 1), none⟩,
    ⟨some 8, .binOp .lss 3 (.tmp 7) (.const (.int .i64 0)) 3, none⟩]
@[reducible] def q68_2 : SCode := .region [⟨some 9, .move (.tmp 0), none⟩,
    ⟨some 10, .unOp .neg 3 (.tmp 9), none⟩,
    ⟨some 11, .move (.tmp 1), none⟩,
    ⟨some 12, .unOp .neg 3 (.tmp 11), none⟩,
    ⟨some 0, .assign (.tmp 10), none⟩,
    ⟨some 1, .assign (.tmp 12), none⟩]
@[reducible] def q68_3 : SCode := .region [⟨some 13, .move (.tmp 0), none⟩,
    ⟨some 14, .move (.tmp 0), none⟩,
    ⟨some 15, .unOp .neg 3 (.tmp 14), none⟩,
    ⟨some 16, .call { callee := .builtin .max, args := #[.tmp 13, .tmp 15], argTypes := #[3, 3] }, none⟩,
    ⟨some 17, .move (.tmp 1), none⟩,
    ⟨some 5, .assign (.tmp 16), none⟩,
    ⟨some 6, .assign (.tmp 17), none⟩]
@[reducible] def q68_4 : SCode := .region [⟨some 18, .move (.tmp 6), none⟩,
    ⟨some 19, .binOp .neq 3 (.tmp 18) (.const (.int .i64 0)) 3, none⟩]
def q68_5 : SCode := .draw [⟨some 20, .move (.tmp 6), none⟩,
    ⟨some 21, .move (.tmp 5), none⟩,
    ⟨some 22, .move (.tmp 6), none⟩,
    ⟨some 23, .binOp .rem 3 (.tmp 21) (.tmp 22) 3, none⟩,
    ⟨some 5, .assign (.tmp 20), none⟩,
    ⟨some 6, .assign (.tmp 23), none⟩]
   [[], [], [], [1, 2], [0, 0, 1], [3, 4, 0, 1, 2, 3, 4]]
def l68_0 : SCode := (.seq (.seq q68_4 (.cond (.tmp 19) .skip (.exit 0))) (.block 1 q68_5))
def q68_6 : SCode := .draw [⟨some 24, .move (.tmp 0), none⟩,
    ⟨some 25, .move (.tmp 5), none⟩,
    ⟨some 26, .binOp .quo 3 (.tmp 24) (.tmp 25) 3, none⟩,
    ⟨some 27, .move (.tmp 1), none⟩,
    ⟨some 28, .move (.tmp 5), none⟩,
    ⟨some 29, .binOp .quo 3 (.tmp 27) (.tmp 28) 3, none⟩,
    ⟨some 30, .build 26 #[(0, .tmp 26), (1, .tmp 29)], none⟩,
    ⟨none, .store 26 (.tmp 4) (.tmp 30), none⟩]
   [[], [], [0, 1], [], [], [3, 4], [2, 5], [6, 0, 1, 2, 3, 4, 5, 6]]
def s68 : SCode := (.seq q68_0 (.seq (.seq q68_1 (.cond (.tmp 8) q68_2 .skip)) (.seq q68_3 (.seq (.block 0 (.loop l68_0)) (.seq q68_6 .ret)))))
theorem s68_strip : Zw (Zu Try.f68) = s68 := by kernel_rfl
theorem s68_ok : Yi 31 (Zu Try.f68) = true := by kernel_rfl
/-! 70: planchet bets.whole -/
@[reducible] def q70_0 : SCode := .region [⟨some 2, .alloc 26, none⟩]
@[reducible] def q70_1 : SCode := .region [⟨some 3, .move (.tmp 0), none⟩,
    ⟨some 4, .build 26 #[(0, .tmp 3), (1, .const (.int .i64 1))], none⟩,
    ⟨none, .store 26 (.tmp 2) (.tmp 4), none⟩]
def s70 : SCode := (.seq q70_0 (.seq q70_1 .ret))
theorem s70_strip : Zw (Zu Try.f70) = s70 := by kernel_rfl
theorem s70_ok : Yi 5 (Zu Try.f70) = true := by kernel_rfl
/-! 71: planchet bets.plus -/
@[reducible] def q71_0 : SCode := .region [⟨some 3, .box 26 (.tmp 0), none⟩,
    ⟨some 5, .box 26 (.tmp 2), none⟩,
    ⟨some 6, .alloc 26, none⟩]
@[reducible] def q71_1 : SCode := .region [⟨some 8, .fieldAddr 26 (.tmp 3) 1, none⟩,
    ⟨some 9, .load 3 (.tmp 8), none⟩,
    ⟨some 10, .fieldAddr 26 (.tmp 5) 1, none⟩,
    ⟨some 11, .load 3 (.tmp 10), none⟩,
    ⟨some 12, .call { callee := .value (.func 88), args := #[.tmp 9, .tmp 11], argTypes := #[3, 3] }, none⟩,
    ⟨some 7, .assign (.tmp 12), none⟩]
def q71_2 : SCode := .draw [⟨some 13, .fieldAddr 26 (.tmp 3) 0, none⟩,
    ⟨some 14, .load 3 (.tmp 13), none⟩,
    ⟨some 15, .fieldAddr 26 (.tmp 5) 1, none⟩,
    ⟨some 16, .load 3 (.tmp 15), none⟩,
    ⟨some 17, .move (.tmp 7), none⟩,
    ⟨some 18, .binOp .quo 3 (.tmp 16) (.tmp 17) 3, none⟩,
    ⟨some 19, .binOp .mul 3 (.tmp 14) (.tmp 18) 3, none⟩,
    ⟨some 20, .move (.tmp 1), none⟩,
    ⟨some 21, .fieldAddr 26 (.tmp 5) 0, none⟩,
    ⟨some 22, .load 3 (.tmp 21), none⟩,
    ⟨some 23, .binOp .mul 3 (.tmp 20) (.tmp 22) 3, none⟩,
    ⟨some 24, .fieldAddr 26 (.tmp 3) 1, none⟩,
    ⟨some 25, .load 3 (.tmp 24), none⟩,
    ⟨some 26, .move (.tmp 7), none⟩,
    ⟨some 27, .binOp .quo 3 (.tmp 25) (.tmp 26) 3, none⟩,
    ⟨some 28, .binOp .mul 3 (.tmp 23) (.tmp 27) 3, none⟩,
    ⟨some 29, .binOp .add 3 (.tmp 19) (.tmp 28) 3, none⟩,
    ⟨some 30, .fieldAddr 26 (.tmp 3) 1, none⟩,
    ⟨some 31, .load 3 (.tmp 30), none⟩,
    ⟨some 32, .move (.tmp 7), none⟩,
    ⟨some 33, .binOp .quo 3 (.tmp 31) (.tmp 32) 3, none⟩,
    ⟨some 34, .fieldAddr 26 (.tmp 5) 1, none⟩,
    ⟨some 35, .load 3 (.tmp 34), none⟩,
    ⟨some 36, .binOp .mul 3 (.tmp 33) (.tmp 35) 3, none⟩,
    ⟨some 37, .call { callee := .value (.func 64), args := #[.tmp 29, .tmp 36], argTypes := #[3, 3] }, none⟩,
    ⟨none, .store 26 (.tmp 6) (.tmp 37), none⟩]
   [[], [0], [], [2], [], [3, 4], [1, 5], [], [], [8], [7, 9], [], [11], [], [12, 13], [10, 14], [6, 15], [], [17], [], [18, 19], [], [21], [20, 22], [16, 23], [24, 24, 0, 1, 2, 3, 4, 5, 6, 7, 8, 9, 10, 11, 12, 13, 14, 15, 16, 17, 18, 19, 20, 21, 22, 23, 24]]
def s71 : SCode := (.seq q71_0 (.seq q71_1 (.seq q71_2 .ret)))
theorem s71_strip : Zw (Zu Try.f71) = s71 := by kernel_rfl
theorem s71_ok : Yi 38 (Zu Try.f71) = true := by kernel_rfl
/-! 72: planchet bets.times -/
@[reducible] def q72_0 : SCode := .region [⟨some 2, .box 26 (.tmp 0), none⟩,
    ⟨some 3, .box 26 (.tmp 1), none⟩,
    ⟨some 4, .alloc 26, none⟩]
def q72_1 : SCode := .draw [⟨some 7, .fieldAddr 26 (.tmp 2) 0, none⟩,
    ⟨some 8, .load 3 (.tmp 7), none⟩,
    ⟨some 9, .fieldAddr 26 (.tmp 3) 1, none⟩,
    ⟨some 10, .load 3 (.tmp 9), none⟩,
    ⟨some 11, .call { callee := .value (.func 64), args := #[.tmp 8, .tmp 10], argTypes := #[3, 3] }, none⟩,
    ⟨some 12, .fieldAddr 26 (.tmp 3) 0, none⟩,
    ⟨some 13, .load 3 (.tmp 12), none⟩,
    ⟨some 14, .fieldAddr 26 (.tmp 2) 1, none⟩,
    ⟨some 15, .load 3 (.tmp 14), none⟩,
    ⟨some 16, .call { callee := .value (.func 64), args := #[.tmp 13, .tmp 15], argTypes := #[3, 3] }, none⟩,
    ⟨some 5, .alloc 26, none⟩,
    ⟨some 6, .alloc 26, none⟩,
    ⟨none, .store 26 (.tmp 5) (.tmp 11), none⟩,
    ⟨none, .store 26 (.tmp 6) (.tmp 16), none⟩]
   [[], [0], [], [2], [1, 3], [], [5], [], [7], [6, 8, 4], [], [], [10, 4, 9, 0, 1, 2, 3, 4, 10, 11], [11, 9, 12, 0, 1, 2, 3, 4, 5, 6, 7, 8, 9, 10, 11, 12]]
@[reducible] def q72_2 : SCode := .region [⟨some 17, .fieldAddr 26 (.tmp 5) 0, none⟩,
    ⟨some 18, .load 3 (.tmp 17), none⟩,
    ⟨some 19, .fieldAddr 26 (.tmp 6) 0, none⟩,
    ⟨some 20, .load 3 (.tmp 19), none⟩,
    ⟨some 21, .binOp .mul 3 (.tmp 18) (.tmp 20) 3, none⟩,
    ⟨some 22, .fieldAddr 26 (.tmp 5) 1, none⟩,
    ⟨some 23, .load 3 (.tmp 22), none⟩,
    ⟨some 24, .fieldAddr 26 (.tmp 6) 1, none⟩,
    ⟨some 25, .load 3 (.tmp 24), none⟩,
    ⟨some 26, .binOp .mul 3 (.tmp 23) (.tmp 25) 3, none⟩,
    ⟨some 27, .build 26 #[(0, .tmp 21), (1, .tmp 26)], none⟩,
    ⟨none, .store 26 (.tmp 4) (.tmp 27), none⟩]
def s72 : SCode := (.seq q72_0 (.seq q72_1 (.seq q72_2 .ret)))
theorem s72_strip : Zw (Zu Try.f72) = s72 := by kernel_rfl
theorem s72_ok : Yi 28 (Zu Try.f72) = true := by kernel_rfl
/-! 75: planchet bets.common -/
@[reducible] def q75_0 : SCode := .region [⟨some 2, .assign (.const (.bool false)), none⟩]
@[reducible] def q75_1 : SCode := .region [⟨some 3, .assign (.const (.int .i64 1)), none⟩]
@[reducible] def q75_2 : SCode := .region [⟨some 7, .move (.tmp 0), none⟩,
    ⟨some 8, .call { callee := .builtin .len, args := #[.tmp 7], argTypes := #[47] }, none⟩,
    ⟨some 9, .move (.const (.int .i64 0)), none⟩]
@[reducible] def q75_3 : SCode := .region [⟨some 10, .binOp .lss 3 (.tmp 9) (.tmp 8) 3, none⟩]
@[reducible] def q75_4 : SCode := .region [⟨some 11, .indexAddr 47 (.tmp 7) (.tmp 9), none⟩,
    ⟨some 12, .load 26 (.tmp 11), none⟩,
    ⟨some 5, .alloc 26, none⟩,
    ⟨none, .store 26 (.tmp 5) (.tmp 12), none⟩]
@[reducible] def q75_5 : SCode := .region [⟨some 13, .load 26 (.tmp 5), none⟩,
    ⟨some 14, .call { callee := .value (.func 107), args := #[.tmp 13, .const (.int .i64 10000000000)], argTypes := #[26, 3] }, none⟩,
    ⟨some 15, .unOp .not 4 (.tmp 14), none⟩]
@[reducible] def q75_6 : SCode := .region [⟨some 2, .assign (.const (.bool false)), none⟩]
def q75_7 : SCode := .draw [⟨some 16, .fieldAddr 26 (.tmp 5) 1, none⟩,
    ⟨some 17, .load 3 (.tmp 16), none⟩,
    ⟨some 18, .move (.tmp 3), none⟩,
    ⟨some 19, .fieldAddr 26 (.tmp 5) 1, none⟩,
    ⟨some 20, .load 3 (.tmp 19), none⟩,
    ⟨some 21, .call { callee := .value (.func 88), args := #[.tmp 18, .tmp 20], argTypes := #[3, 3] }, none⟩,
    ⟨some 22, .binOp .quo 3 (.tmp 17) (.tmp 21) 3, none⟩,
    ⟨some 6, .assign (.tmp 22), none⟩]
   [[], [0], [], [], [3], [2, 4], [1, 5], [6, 5, 0, 1, 2, 3, 4, 5, 6]]
@[reducible] def q75_8 : SCode := .region [⟨some 23, .move (.tmp 3), none⟩,
    ⟨some 24, .move (.tmp 6), none⟩,
    ⟨some 25, .binOp .quo 3 (.const (.int .i64 10000000000)) (.tmp 24) 3, none⟩,
    ⟨some 26, .binOp .gtr 3 (.tmp 23) (.tmp 25) 3, none⟩]
@[reducible] def q75_9 : SCode := .region [⟨some 2, .assign (.const (.bool false)), none⟩]
@[reducible] def q75_10 : SCode := .region [⟨some 27, .move (.tmp 3), none⟩,
    ⟨some 28, .move (.tmp 6), none⟩,
    ⟨some 29, .binOp .mul 3 (.tmp 27) (.tmp 28) 3, none⟩,
    ⟨some 3, .assign (.tmp 29), none⟩]
@[reducible] def q75_11 : SCode := .region [⟨some 30, .binOp .add 3 (.tmp 9) (.const (.int .i64 1)) 3, none⟩,
    ⟨some 9, .move (.tmp 30), none⟩]
def l75_0 : SCode := (.seq q75_3 (.seq (.cond (.tmp 10) .skip (.exit 0)) (.seq (.block 1 (.seq q75_4 (.seq (.seq q75_5 (.cond (.tmp 15) (.seq q75_6 .ret) .skip)) (.seq q75_7 (.seq (.seq q75_8 (.cond (.tmp 26) (.seq q75_9 .ret) .skip)) q75_10))))) q75_11)))
@[reducible] def q75_12 : SCode := .region [⟨some 2, .assign (.const (.bool true)), none⟩]
def s75 : SCode := (.seq q75_0 (.seq q75_1 (.seq (.seq q75_2 (.block 0 (.loop l75_0))) (.seq q75_12 .ret))))
theorem s75_strip : Zw (Zu Try.f75) = s75 := by kernel_rfl
theorem s75_ok : Yi 31 (Zu Try.f75) = true := by kernel_rfl
/-! 88: planchet bets.gcd -/
@[reducible] def q88_0 : SCode := .region [⟨some 4, .assign (.const (.int .i64 0)), none⟩]
@[reducible] def q88_1 : SCode := .region [⟨some 5, .move (.tmp 1), none⟩,
    ⟨some 6, .binOp .neq 3 (.tmp 5) (.const (.int .i64 0)) 3, none⟩]
def q88_2 : SCode := .draw [⟨some 7, .move (.tmp 1), none⟩,
    ⟨some 8, .move (.tmp 0), none⟩,
    ⟨some 9, .move (.tmp 1), none⟩,
    ⟨some 10, .binOp .rem 3 (.tmp 8) (.tmp 9) 3, none⟩,
    ⟨some 0, .assign (.tmp 7), none⟩,
    ⟨some 1, .assign (.tmp 10), none⟩]
   [[], [], [], [1, 2], [0, 0, 1], [3, 4, 0, 1, 2, 3, 4]]
def l88_0 : SCode := (.seq (.seq q88_1 (.cond (.tmp 6) .skip (.exit 0))) (.block 1 q88_2))
@[reducible] def q88_3 : SCode := .region [⟨some 11, .move (.tmp 0), none⟩,
    ⟨some 12, .move (.tmp 0), none⟩,
    ⟨some 13, .unOp .neg 3 (.tmp 12), none⟩,
    ⟨some 14, .call { callee := .builtin .max, args := #[.tmp 11, .tmp 13], argTypes := #[3, 3] }, none⟩,
    ⟨some 4, .assign (.tmp 14), none⟩]
def s88 : SCode := (.seq q88_0 (.seq (.block 0 (.loop l88_0)) (.seq q88_3 .ret)))
theorem s88_strip : Zw (Zu Try.f88) = s88 := by kernel_rfl
theorem s88_ok : Yi 15 (Zu Try.f88) = true := by kernel_rfl
theorem s88_call [Tabs Try.prog] {args : List Value} {h : Zh} {Q : Value → Zh → Prop} (hsz : args.length ≤ 15) (hk : aw Try.prog 15 s88 (Zr Try.prog [.tmp 4] Q) (Zt 0 args) h) : ACall Try.prog 88 args h Q :=
  acall_s Try.func88 rfl (enters_of Try.func88 (by kernel_rfl) rfl) rfl rfl (by decide) s88_strip s88_ok hsz hk

/-! 94: planchet bets.over -/
@[reducible] def q94_0 : SCode := .region [⟨some 2, .box 26 (.tmp 0), none⟩,
    ⟨some 3, .box 26 (.tmp 1), none⟩,
    ⟨some 4, .alloc 26, none⟩]
def q94_1 : SCode := .draw [⟨some 5, .load 26 (.tmp 2), none⟩,
    ⟨some 6, .fieldAddr 26 (.tmp 3) 1, none⟩,
    ⟨some 7, .load 3 (.tmp 6), none⟩,
    ⟨some 8, .fieldAddr 26 (.tmp 3) 0, none⟩,
    ⟨some 9, .load 3 (.tmp 8), none⟩,
    ⟨some 10, .call { callee := .value (.func 64), args := #[.tmp 7, .tmp 9], argTypes := #[3, 3] }, none⟩,
    ⟨some 11, .call { callee := .value (.func 72), args := #[.tmp 5, .tmp 10], argTypes := #[26, 26] }, none⟩,
    ⟨none, .store 26 (.tmp 4) (.tmp 11), none⟩]
   [[], [], [1], [], [3], [2, 4], [0, 5, 5], [6, 6, 0, 1, 2, 3, 4, 5, 6]]
def s94 : SCode := (.seq q94_0 (.seq q94_1 .ret))
theorem s94_strip : Zw (Zu Try.f94) = s94 := by kernel_rfl
theorem s94_ok : Yi 12 (Zu Try.f94) = true := by kernel_rfl
/-! 107: planchet bets.chance -/
@[reducible] def q107_0 : SCode := .region [⟨some 2, .box 26 (.tmp 0), none⟩,
    ⟨some 4, .assign (.const (.bool false)), none⟩]
@[reducible] def q107_1 : SCode := .region [⟨some 5, .load 26 (.tmp 2), none⟩,
    ⟨some 6, .move (.tmp 1), none⟩,
    ⟨some 7, .call { callee := .value (.func 118), args := #[.tmp 5, .tmp 6], argTypes := #[26, 3] }, none⟩,
    ⟨some 8, .move (.tmp 7), none⟩,
    ⟨some 9, .fieldAddr 26 (.tmp 2) 0, some (8, true)⟩,
    ⟨some 10, .load 3 (.tmp 9), some (8, true)⟩,
    ⟨some 11, .binOp .geq 3 (.tmp 10) (.const (.int .i64 0)) 3, some (8, true)⟩,
    ⟨some 12, .pick (.tmp 8) (.tmp 11) (.const (.bool false)), none⟩,
    ⟨some 13, .move (.tmp 12), none⟩,
    ⟨some 14, .fieldAddr 26 (.tmp 2) 0, some (13, true)⟩,
    ⟨some 15, .load 3 (.tmp 14), some (13, true)⟩,
    ⟨some 16, .fieldAddr 26 (.tmp 2) 1, some (13, true)⟩,
    ⟨some 17, .load 3 (.tmp 16), some (13, true)⟩,
    ⟨some 18, .binOp .leq 3 (.tmp 15) (.tmp 17) 3, some (13, true)⟩,
    ⟨some 19, .pick (.tmp 13) (.tmp 18) (.const (.bool false)), none⟩,
    ⟨some 4, .assign (.tmp 19), none⟩]
def s107 : SCode := (.seq q107_0 (.seq q107_1 .ret))
theorem s107_strip : Zw (Zu Try.f107) = s107 := by kernel_rfl
theorem s107_ok : Yi 20 (Zu Try.f107) = true := by kernel_rfl
/-! 118: planchet bets.lowest -/
@[reducible] def q118_0 : SCode := .region [⟨some 2, .box 26 (.tmp 0), none⟩,
    ⟨some 4, .assign (.const (.bool false)), none⟩]
@[reducible] def q118_1 : SCode := .region [⟨some 5, .fieldAddr 26 (.tmp 2) 1, none⟩,
    ⟨some 6, .load 3 (.tmp 5), none⟩,
    ⟨some 7, .binOp .geq 3 (.tmp 6) (.const (.int .i64 1)) 3, none⟩,
    ⟨some 8, .move (.tmp 7), none⟩,
    ⟨some 9, .fieldAddr 26 (.tmp 2) 1, some (8, true)⟩,
    ⟨some 10, .load 3 (.tmp 9), some (8, true)⟩,
    ⟨some 11, .move (.tmp 1), some (8, true)⟩,
    ⟨some 12, .binOp .leq 3 (.tmp 10) (.tmp 11) 3, some (8, true)⟩,
    ⟨some 13, .pick (.tmp 8) (.tmp 12) (.const (.bool false)), none⟩,
    ⟨some 14, .move (.tmp 13), none⟩,
    ⟨some 15, .fieldAddr 26 (.tmp 2) 0, some (14, true)⟩,
    ⟨some 16, .load 3 (.tmp 15), some (14, true)⟩,
    ⟨some 17, .fieldAddr 26 (.tmp 2) 1, some (14, true)⟩,
    ⟨some 18, .load 3 (.tmp 17), some (14, true)⟩,
    ⟨some 19, .call { callee := .value (.func 88), args := #[.tmp 16, .tmp 18], argTypes := #[3, 3] }, some (14, true)⟩,
    ⟨some 20, .binOp .eql 3 (.tmp 19) (.const (.int .i64 1)) 3, some (14, true)⟩,
    ⟨some 21, .pick (.tmp 14) (.tmp 20) (.const (.bool false)), none⟩,
    ⟨some 4, .assign (.tmp 21), none⟩]
def s118 : SCode := (.seq q118_0 (.seq q118_1 .ret))
theorem s118_strip : Zw (Zu Try.f118) = s118 := by kernel_rfl
theorem s118_ok : Yi 22 (Zu Try.f118) = true := by kernel_rfl
end Go.Proofs.Try.Am

namespace Bq

theorem mul_den (q : Rat) : q * (q.den : Rat) = (q.num : Rat) := by
  have h := Rat.num_divInt_den q
  rw [Rat.divInt_eq_div] at h
  have h0 : (q.den : Rat) ≠ 0 := by
    have := q.den_nz
    intro hc
    exact this (by exact_mod_cast hc)
  conv => lhs; lhs; rw [← h]
  rw [Rat.intCast_natCast]
  exact Rat.div_mul_cancel h0
theorem eq_of_mul {a b c : Rat} (hc : c ≠ 0) (h : a * c = b * c) : a = b := by
  rw [← Rat.mul_div_cancel (a := a) hc, h, Rat.mul_div_cancel hc]
/-- What is y times as great as x is a fraction of them. -/
theorem divInt_of_mul {x y : Int} {q : Rat} (hy : y ≠ 0) (h : q * (y : Rat) = (x : Rat)) : Rat.divInt x y = q := by
  have h0 : (y : Rat) ≠ 0 := fun hc => hy (by exact_mod_cast hc)
  rw [Rat.divInt_eq_div, ← h]
  exact Rat.mul_div_cancel h0
theorem Wj {x y : Int} (hy : y ≠ 0) : Rat.divInt x y * (y : Rat) = (x : Rat) := by
  have h0 : (y : Rat) ≠ 0 := fun hc => hy (by exact_mod_cast hc)
  rw [Rat.divInt_eq_div]
  exact Rat.div_mul_cancel h0

/-- q is x of N parts. -/
def Rp (N : Nat) (x : Int) (q : Rat) : Prop := 0 < N ∧ q * (N : Rat) = (x : Rat)

section
variable {N M : Nat} {x y k : Int} {a b q : Rat}
theorem Rp.pos (h : Rp N x q) : 0 < N := h.1
theorem Rp.int (h : Rp N x q) : q.num * N = x * q.den := by
  have h1 := h.2
  have h2 := mul_den q
  have : (q.num : Rat) * (N : Rat) = (x : Rat) * (q.den : Rat) := by grind
  exact_mod_cast this
theorem Rp.dvd (h : Rp N x q) : q.den ∣ N := by
  have h1 := h.int
  have h2 : (q.den : Int) ∣ q.num * (N : Int) := ⟨x, by rw [h1, Int.mul_comm]⟩
  have h3 : q.den ∣ q.num.natAbs * N := by
    have := Int.natAbs_dvd_natAbs.2 h2
    simpa [Int.natAbs_mul] using this
  exact Nat.Coprime.dvd_of_dvd_mul_left (Nat.Coprime.symm q.reduced) h3
theorem Rp.num (h : Rp N x q) : q.num * ((N / q.den : Nat) : Int) = x := by
  obtain ⟨t, ht⟩ := h.dvd
  have hd : 0 < q.den := q.den_pos
  have h1 := h.int
  have e : N / q.den = t := by rw [ht]; exact Nat.mul_div_cancel_left _ hd
  rw [e]
  have h2 : (q.den : Int) * (q.num * t) = q.den * x := by
    rw [Int.mul_comm (q.den : Int) x, ← h1, ht]
    push_cast
    grind
  exact Int.eq_of_mul_eq_mul_left (by omega) h2
theorem Rp.le (h : Rp N x q) : q.num.natAbs ≤ x.natAbs := by
  rw [← h.num, Int.natAbs_mul, Int.natAbs_natCast]
  refine Nat.le_mul_of_pos_right _ ?_
  exact Nat.div_pos (Nat.le_of_dvd h.pos h.dvd) q.den_pos
theorem Rp.den_le (h : Rp N x q) : q.den ≤ N := Nat.le_of_dvd h.pos h.dvd
theorem Rp.own (q : Rat) : Rp q.den q.num q := ⟨q.den_pos, mul_den q⟩
theorem Rp.whole (hN : 0 < N) (k : Int) : Rp N (k * N) (k : Rat) := ⟨hN, by push_cast; rfl⟩
theorem Rp.up (h : Rp N x q) (t : Nat) (ht : 0 < t) : Rp (N * t) (x * t) q := ⟨Nat.mul_pos h.1 ht, by have := h.2; push_cast; grind⟩
theorem Rp.up' (h : Rp N x q) (hd : N ∣ M) (hM : 0 < M) : Rp M (x * ((M / N : Nat) : Int)) q := by
  obtain ⟨t, rfl⟩ := hd
  have ht : 0 < t := Nat.pos_of_mul_pos_left hM
  rw [Nat.mul_div_cancel_left _ h.1]
  exact h.up t ht
theorem Rp.plus (ha : Rp N x a) (hb : Rp N y b) (k : Int) : Rp N (x + k * y) (a + k * b) := ⟨ha.1, by have := ha.2; have := hb.2; push_cast; grind⟩
theorem Rp.mul (ha : Rp N x a) (hb : Rp M y b) : Rp (N * M) (x * y) (a * b) := ⟨Nat.mul_pos ha.1 hb.1, by have := ha.2; have := hb.2; push_cast; grind⟩
theorem Rp.uniq (ha : Rp N x a) (hb : Rp N x b) : a = b := by
  have h0 : (N : Rat) ≠ 0 := fun hc => by have := ha.1; have : N = 0 := by exact_mod_cast hc
                                          omega
  have h1 : a * (N : Rat) = b * N := by rw [ha.2, hb.2]
  have := congrArg (· / (N : Rat)) h1
  simpa [Rat.mul_div_cancel h0] using this
theorem Rp.frac (h : Rp N x q) : Rat.divInt x N = q := divInt_of_mul (by have := h.1; omega) (by rw [Rat.intCast_natCast]; exact h.2)
theorem Rp.of_frac (hN : 0 < N) (x : Int) : Rp N x (Rat.divInt x N) := ⟨hN, by have := Wj (x := x) (y := (N : Int)) (by omega); rwa [Rat.intCast_natCast] at this⟩
theorem Rp.neg (h : Rp N x q) : Rp N (-x) (-q) := ⟨h.1, by have := h.2; push_cast; grind⟩
theorem Rp.lt (ha : Rp N x a) (hb : Rp N y b) : a < b ↔ x < y := by
  have h0 : (0 : Rat) < N := by exact_mod_cast ha.1
  rw [← Rat.mul_lt_mul_right h0, ha.2, hb.2]
  exact Rat.intCast_lt_intCast
end

/-- The sum as the program makes it. -/
theorem plus_eq (a b : Rat) (k : Int) : Rat.divInt (a.num * ((b.den / Nat.gcd a.den b.den : Nat) : Int) + k * b.num * ((a.den / Nat.gcd a.den b.den : Nat) : Int)) (((a.den / Nat.gcd a.den b.den : Nat) : Int) * b.den) = a + k * b := by
  have hg : 0 < Nat.gcd a.den b.den := Nat.gcd_pos_of_pos_left _ a.den_pos
  obtain ⟨A, hA⟩ := Nat.gcd_dvd_left a.den b.den
  obtain ⟨B, hB⟩ := Nat.gcd_dvd_right a.den b.den
  generalize hgd : Nat.gcd a.den b.den = g at hg hA hB
  have eA : a.den / g = A := by rw [hA]; exact Nat.mul_div_cancel_left _ hg
  have eB : b.den / g = B := by rw [hB]; exact Nat.mul_div_cancel_left _ hg
  rw [eA, eB]
  have hA0 : A ≠ 0 := fun h => by rw [h, Nat.mul_zero] at hA; exact a.den_nz hA
  refine divInt_of_mul ?_ ?_
  · have := b.den_nz
    exact Int.mul_ne_zero (by omega) (by omega)
  · have h1 := mul_den a
    have h2 := mul_den b
    rw [hA] at h1
    rw [hB] at h2 ⊢
    push_cast at h1 h2 ⊢
    grind
/-- What stands in it is no greater than the parts. -/
theorem plus_bound {N : Nat} {x y k : Int} {a b : Rat} (ha : Rp N x a) (hb : Rp N y b) :
    (a.num * ((b.den / Nat.gcd a.den b.den : Nat) : Int)).natAbs ≤ x.natAbs ∧ (k * b.num).natAbs ≤ (k * y).natAbs ∧ (k * b.num * ((a.den / Nat.gcd a.den b.den : Nat) : Int)).natAbs ≤ (k * y).natAbs ∧ a.den / Nat.gcd a.den b.den * b.den ≤ N ∧ 0 < a.den / Nat.gcd a.den b.den * b.den := by
  have hg : 0 < Nat.gcd a.den b.den := Nat.gcd_pos_of_pos_left _ a.den_pos
  have hl : a.den / Nat.gcd a.den b.den * b.den = Nat.lcm a.den b.den := by
    rw [Nat.lcm, Nat.div_mul_right_comm (Nat.gcd_dvd_left _ _)]
  have hl2 : b.den / Nat.gcd a.den b.den * a.den = Nat.lcm a.den b.den := by
    rw [Nat.lcm, Nat.mul_comm a.den b.den, Nat.div_mul_right_comm (Nat.gcd_dvd_right _ _)]
  have hdvd : Nat.lcm a.den b.den ∣ N := Nat.lcm_dvd ha.dvd hb.dvd
  obtain ⟨t, ht⟩ := hdvd
  have hN := ha.pos
  have ht0 : 0 < t := Nat.pos_of_ne_zero fun h => by rw [h, Nat.mul_zero] at ht; omega
  have hx : x = a.num * ((b.den / Nat.gcd a.den b.den : Nat) : Int) * t := by
    rw [← ha.num]
    have : N / a.den = b.den / Nat.gcd a.den b.den * t := by
      rw [ht, ← hl2]
      rw [show b.den / Nat.gcd a.den b.den * a.den * t = a.den * (b.den / Nat.gcd a.den b.den * t) by rw [Nat.mul_comm _ a.den, Nat.mul_assoc]]
      exact Nat.mul_div_cancel_left _ a.den_pos
    rw [this]; push_cast; rw [Int.mul_assoc]
  have hy : y = b.num * ((a.den / Nat.gcd a.den b.den : Nat) : Int) * t := by
    rw [← hb.num]
    have : N / b.den = a.den / Nat.gcd a.den b.den * t := by
      rw [ht, ← hl]
      rw [show a.den / Nat.gcd a.den b.den * b.den * t = b.den * (a.den / Nat.gcd a.den b.den * t) by rw [Nat.mul_comm _ b.den, Nat.mul_assoc]]
      exact Nat.mul_div_cancel_left _ b.den_pos
    rw [this]; push_cast; rw [Int.mul_assoc]
  have hag : 0 < a.den / Nat.gcd a.den b.den := Nat.div_pos (Nat.le_of_dvd a.den_pos (Nat.gcd_dvd_left _ _)) hg
  refine ⟨?_, ?_, ?_, ?_, ?_⟩
  · rw [hx, Int.natAbs_mul _ (t : Int), Int.natAbs_natCast]; exact Nat.le_mul_of_pos_right _ ht0
  · rw [Int.natAbs_mul, Int.natAbs_mul]; exact Nat.mul_le_mul_left _ hb.le
  · rw [hy, ← Int.mul_assoc, ← Int.mul_assoc, Int.natAbs_mul _ (t : Int), Int.natAbs_natCast]; exact Nat.le_mul_of_pos_right _ ht0
  · rw [hl]; exact Nat.le_of_dvd hN ⟨t, ht⟩
  · exact Nat.mul_pos hag b.den_pos

/-- The product as the program makes it. -/
theorem times_eq (a b : Rat) : (Rat.divInt a.num b.den).num * (Rat.divInt b.num a.den).num = (a * b).num ∧ (Rat.divInt a.num b.den).den * (Rat.divInt b.num a.den).den = (a * b).den := by
  have hb0 : (b.den : Int) ≠ 0 := by have := b.den_nz; omega
  have ha0 : (a.den : Int) ≠ 0 := by have := a.den_nz; omega
  have h1 := Wj (x := a.num) hb0
  have h2 := Wj (x := b.num) ha0
  have d1 : (Rat.divInt a.num b.den).num ∣ a.num := by
    have : Rp b.den a.num (Rat.divInt a.num b.den) := Rp.of_frac b.den_pos _
    exact ⟨_, this.num.symm⟩
  have d2 : (Rat.divInt b.num a.den).num ∣ b.num := by
    have : Rp a.den b.num (Rat.divInt b.num a.den) := Rp.of_frac a.den_pos _
    exact ⟨_, this.num.symm⟩
  have e1 : (Rat.divInt a.num b.den).den ∣ b.den := (Rp.of_frac b.den_pos a.num).dvd
  have e2 : (Rat.divInt b.num a.den).den ∣ a.den := (Rp.of_frac a.den_pos b.num).dvd
  generalize hu : Rat.divInt a.num b.den = u at *
  generalize hv : Rat.divInt b.num a.den = v at *
  have hc : Nat.Coprime (u.num * v.num).natAbs (u.den * v.den) := by
    rw [Int.natAbs_mul]
    have c1 : Nat.Coprime u.num.natAbs v.den := Nat.Coprime.coprime_dvd_left (Int.natAbs_dvd_natAbs.2 d1) (Nat.Coprime.coprime_dvd_right e2 a.reduced)
    have c2 : Nat.Coprime v.num.natAbs u.den := Nat.Coprime.coprime_dvd_left (Int.natAbs_dvd_natAbs.2 d2) (Nat.Coprime.coprime_dvd_right e1 b.reduced)
    exact Nat.Coprime.mul_left (Nat.Coprime.mul_right u.reduced c1) (Nat.Coprime.mul_right c2 v.reduced)
  have hd : u.den * v.den ≠ 0 := Nat.mul_ne_zero u.den_nz v.den_nz
  have key : (⟨u.num * v.num, u.den * v.den, hd, hc⟩ : Rat) = a * b := by
    have k1 : (⟨u.num * v.num, u.den * v.den, hd, hc⟩ : Rat) = u * v := by
      have := mul_den (⟨u.num * v.num, u.den * v.den, hd, hc⟩ : Rat)
      simp only at this
      have hu2 := mul_den u
      have hv2 := mul_den v
      have hn : ((u.den * v.den : Nat) : Rat) ≠ 0 := fun h => hd (by exact_mod_cast h)
      have k2 : (⟨u.num * v.num, u.den * v.den, hd, hc⟩ : Rat) * ((u.den * v.den : Nat) : Rat) = u * v * ((u.den * v.den : Nat) : Rat) := by
        rw [this]; push_cast; grind
      exact eq_of_mul hn k2
    rw [k1]
    have ha2 := mul_den a
    have hb2 := mul_den b
    have hn : ((a.den * b.den : Nat) : Rat) ≠ 0 := fun h => Nat.mul_ne_zero a.den_nz b.den_nz (by exact_mod_cast h)
    have k2 : u * v * ((a.den * b.den : Nat) : Rat) = a * b * ((a.den * b.den : Nat) : Rat) := by
      rw [Rat.intCast_natCast] at h1 h2
      push_cast; grind
    exact eq_of_mul hn k2
  exact ⟨by rw [← key], by rw [← key]⟩
end Bq

namespace Go.Proofs.Try.Am
open Go.Am Bq
set_option maxRecDepth 100000
set_option maxHeartbeats 1000000

theorem Xn (h : Zh) (A B : Blk) : (h ++ [A]).set h.length B = h ++ [B] := by
  rw [List.set_append_right _ _ (Nat.le_refl _)]; simp
/-- A fraction, as it stands, and that of a number. -/
def frV (x y : Int) : Value := .agg #[Zd x, Zd y]
def qV (q : Rat) : Value := frV q.num q.den
theorem low_frV (x y : Int) : Low (frV x y) := .agg fun w hw => by
  simp at hw; rcases hw with rfl | rfl <;> exact .int _ _
theorem Ws {h : Zh} {b : Nat} {x y : Int} {e : TypeId} {ro : Bool} {K : Value → Prop} (hb : h[b]? = some (.cells [Zd x, Zd y] e ro)) : Xm prog h 26 (.pointer (some ⟨b, 0, none⟩)) K = K (.agg #[Zd x, Zd y]) :=
  loadA hb (by rw [Wv]; rfl)
theorem Wk {h : Zh} {b : Nat} {x y : Int} {e : TypeId} {ro : Bool} {K : Value → Prop} (hb : h[b]? = some (.cells [Zd x, Zd y] e ro)) : Xm prog h 3 (.pointer (some ⟨b, 0, none⟩)) K = K (Zd x) := loadC hb Xl rfl
theorem Xu {h : Zh} {b : Nat} {x y : Int} {e : TypeId} {ro : Bool} {K : Value → Prop} (hb : h[b]? = some (.cells [Zd x, Zd y] e ro)) : Xm prog h 3 (.pointer (some ⟨b, 1, none⟩)) K = K (Zd y) := loadC hb Xl rfl
theorem Xk {h : Zh} {b : Nat} {x y : Int} {e : TypeId} {c : List Value} {K : Zh → Prop} (hb : h[b]? = some (.cells c e false)) (hc : c.length = 2) : Xf prog h 26 (.pointer (some ⟨b, 0, none⟩)) (.agg #[Zd x, Zd y]) K = K (h.set b (.cells [Zd x, Zd y] e false)) :=
  storeA (vs := [Zd x, Zd y]) hb (by rw [Wv]; rfl) rfl (by rw [hc]; rfl)
theorem bldF {x y : Int} {K : Value → Prop} : Vn prog 26 [(0, Zd x), (1, Zd y)] K = K (.agg #[Zd x, Zd y]) := by
  simp [Vn, zero_26, fillL, pl_26_0, pl_26_1, Wr, cellsOf, Ye]
theorem boxF {h : Zh} {x y : Int} {K : Value → Zh → Prop} : boxK prog h 26 (.agg #[Zd x, Zd y]) K = K (Yr h) (h ++ [.cells [Zd x, Zd y] 26 false]) := by
  simp [boxK, Xw, Yr, cellsOf]
theorem fA0 {b : Nat} {K : Value → Prop} : Yu prog 26 (.pointer (some ⟨b, 0, none⟩)) 0 K = K (.pointer (some ⟨b, 0, none⟩)) := fldA fld_26_0 Xt
theorem fA1 {b : Nat} {K : Value → Prop} : Yu prog 26 (.pointer (some ⟨b, 0, none⟩)) 1 K = K (.pointer (some ⟨b, 1, none⟩)) := fldA fld_26_1 Xt
theorem fld0 {x y : Int} {K : Value → Prop} : fieldK prog 26 (.agg #[Zd x, Zd y]) 0 K = K (Zd x) := by
  simp [fieldK, fld_26_0, partK, Xl]
noncomputable def okF (p : Field × Nat) : Bool := p.1.name != "_" && (match prog.underlying p.1.type with | some (.int .i64) => true | _ => false) && p.1.offset == p.2
theorem eqF [Tabs prog] : EqT prog 26 2 := eqT_struct (by kernel_rfl) (by kernel_rfl) (by kernel_rfl) (fun j f hf => by
  have h4 : (prog.fieldsOf 26).toList.zipIdx.all okF = true := by kernel_rfl
  have h5 := List.all_eq_true.1 h4 (f, j) (by rw [List.mem_zipIdx_iff_getElem?]; exact hf)
  simp only [okF, Bool.and_eq_true, bne_iff_ne, beq_iff_eq] at h5
  refine ⟨h5.1.1, ?_, h5.2⟩
  have h6 := h5.1.2
  split at h6
  · assumption
  · cases h6) (by kernel_rfl)

theorem quo_dvd {x y : Int} (hx : x.natAbs < 9223372036854775808) (hd : y ∣ x) : quoV .i64 x y = x / y := by
  rw [quoV, Int.tdiv_eq_ediv_of_dvd hd]
  have h1 : (x / y).natAbs ≤ x.natAbs := by
    obtain ⟨t, rfl⟩ := hd
    rcases Int.lt_trichotomy y 0 with h | h | h
    · rw [Int.mul_ediv_cancel_left _ (by omega), Int.natAbs_mul]; exact Nat.le_mul_of_pos_left _ (by omega)
    · subst h; simp
    · rw [Int.mul_ediv_cancel_left _ (by omega), Int.natAbs_mul]; exact Nat.le_mul_of_pos_left _ (by omega)
  exact wrap_id (by omega) (by omega)
theorem tmod_abs (x : Int) {y : Int} (hy : y ≠ 0) : (x.tmod y).natAbs < y.natAbs := by
  rw [Int.natAbs_tmod]; exact Nat.mod_lt _ (by omega)
theorem gcd_tmod (x y : Int) : Nat.gcd y.natAbs (x.tmod y).natAbs = Nat.gcd x.natAbs y.natAbs := by
  rw [Int.natAbs_tmod, Nat.gcd_comm y.natAbs, ← Nat.gcd_rec, Nat.gcd_comm]
theorem max_abs {x : Int} (hx : x.natAbs < 9223372036854775808) : (if subV .i64 0 x > x then subV .i64 0 x else x) = (x.natAbs : Int) := by
  rw [subV_id (by omega) (by omega)]; split <;> omega

theorem gcd_call [Tabs prog] {h : Zh} {a b : Int} (ha : a.natAbs < 9223372036854775808 ∨ b ≠ 0) (hb2 : b.natAbs < 9223372036854775808) : Yv prog 88 [Zd a, Zd b] h (Zd (Nat.gcd a.natAbs b.natAbs : Nat)) := by
  refine s88_call (by simp) ?_
  simp only [s88]
  simp (maxSteps := 2000000) only [↓Za, ↓Zs, ↓aw_block, ↓Zb, ↓Zc, vup, cond_false, aop, Zg, Zt, ev, sput, Zf, Nat.reduceBEq, Nat.reduceAdd, ↓aw_loop_eq]
  refine Zm fun Q hQ => ?_
  refine aw_loop (γ := Int × Int) (fun s => Nat.gcd s.1.natAbs s.2.natAbs = Nat.gcd a.natAbs b.natAbs ∧ (s.1.natAbs < 9223372036854775808 ∨ s.2 ≠ 0) ∧ s.2.natAbs < 9223372036854775808)
    (fun s => ([(0, Zd s.1), (1, Zd s.2), (4, .int .i64 0)], h)) (fun s => s.2.natAbs) (a, b) ⟨rfl, ha, hb2⟩ (by simp (maxSteps := 2000000) only [vup, cond_true, cond_false, Nat.reduceBEq]) rfl ?_
  rintro ⟨x, y⟩ ⟨hxy, hx, hy⟩
  simp only at hxy hx hy
  refine aw_hide fun Q2 hQ2 => ?_
  by_cases hy0 : y = 0
  · subst hy0
    have e0 : ((0 : Int) != 0) = false := rfl
    rw [Int.natAbs_zero, Nat.gcd_zero_right] at hxy
    have hx' : x.natAbs < 9223372036854775808 := hx.resolve_right (by simp)
    simp (maxSteps := 2000000) only [↓Za, ↓Zs, ↓Yn, ↓Zb, ↓Zc, ↓vdn, vup, cond_true, cond_false, aop, Zg, ev, sput, Zf, Zz, Ya, Nat.reduceBEq, l88_0, e0]
    refine hQ2 _ _ _ (hQ _ _ _ ?_)
    simp (maxSteps := 2000000) only [↓Za, ↓Zs, ↓Zx, ↓Zb, ↓Zc, vup, List.map_cons, List.map_nil, cond_true, cond_false, aop, Zg, Zn, ev, sput, Zf, unK, Zi, Nat.reduceBEq, Zr, Xo, tup, if_true, mmK, max_abs hx', hxy]
  · have e0 : (y != 0) = true := by simpa using hy0
    simp (maxSteps := 2000000) only [↓Za, ↓Zo, ↓Zs, ↓aw_block, ↓Zb, ↓Zc, ↓vdn, vup, cond_true, cond_false, aop, Zg, ev, sput, Zf, Zz, Ya, Nat.reduceBEq, l88_0, e0]
    refine Yo [] (by kernel_rfl) (by kernel_rfl) (by kernel_rfl) (by kernel_rfl) ?_
    simp (maxSteps := 2000000) only [↓Zp, ↓vdn, vup, cond_true, cond_false, aop, Zn, ev, sput, Zf, Zz, Ya, Nat.reduceBEq, ne_eq, hy0, not_false_eq_true]
    have hlt := tmod_abs x hy0
    exact hQ2 _ _ _ ⟨(y, x.tmod y), ⟨by simp only; rw [gcd_tmod, hxy], .inl hy, by simp only; omega⟩, hlt, by simp (maxSteps := 2000000) only [vup, cond_true, cond_false, Nat.reduceBEq], rfl⟩

/-- The least terms, as the program makes them. -/
theorem terms {x : Int} {n : Nat} (hn : 0 < n) : x / ((Nat.gcd x.natAbs n : Nat) : Int) = (Rat.divInt x n).num ∧ ((n / Nat.gcd x.natAbs n : Nat) : Int) = (Rat.divInt x n).den := by
  rw [Rat.divInt_ofNat, Rat.num_mkRat, Rat.den_mkRat, if_neg (by omega), if_neg (by omega), Nat.gcd_comm n]
  exact ⟨rfl, rfl⟩
theorem gcd_dvd_int (x : Int) (n : Nat) : ((Nat.gcd x.natAbs n : Nat) : Int) ∣ x := Int.dvd_natAbs.1 (Int.natCast_dvd_natCast.2 (Nat.gcd_dvd_left _ _))

theorem s64_callW [Tabs Try.prog] {args : List Value} {h : Zh} {Q : Value → Zh → Prop} (hsz : args.length ≤ 22) (hk : AWS Try.prog 22 s64 (Zr Try.prog [.cell 4 26] Q) (Zt 0 args) h) : ACall Try.prog 64 args h Q :=
  Ym Try.func64 rfl (enters_of Try.func64 (by kernel_rfl) rfl) rfl rfl (by decide) s64_strip s64_ok hsz hk
theorem Wp [Tabs prog] {h : Zh} {a b : Int} (hb : b ≠ 0) (ha : a.natAbs < 9223372036854775808) (hb2 : b.natAbs < 9223372036854775808) : Yv prog 64 [Zd a, Zd b] h (qV (Rat.divInt a b)) := by
  have c0 := Zy h (Blk.cells [.int .i64 0, .int .i64 0] 26 false)
  have hE0 : Ext (fun _ => False) h (h ++ [Blk.cells [.int .i64 0, .int .i64 0] 26 false]) := Ext.app _ _ _
  obtain ⟨x, n, hn, hx, hn2, hq, hneg, hpos⟩ : ∃ (x : Int) (n : Nat), 0 < n ∧ x.natAbs < 9223372036854775808 ∧ n < 9223372036854775808 ∧ Rat.divInt x n = Rat.divInt a b ∧ (b < 0 → subV .i64 0 a = x ∧ subV .i64 0 b = n) ∧ (¬ b < 0 → a = x ∧ b = n) := by
    by_cases h0 : b < 0
    · refine ⟨-a, b.natAbs, by omega, by omega, hb2, ?_, fun _ => ⟨?_, ?_⟩, fun h => absurd h0 h⟩
      · rw [show ((b.natAbs : Nat) : Int) = -b by omega]; exact Rat.neg_divInt_neg a b
      · rw [subV_id (by omega) (by omega)]; omega
      · rw [subV_id (by omega) (by omega)]; omega
    · exact ⟨a, b.natAbs, by omega, ha, hb2, by rw [show ((b.natAbs : Nat) : Int) = b by omega], fun h => absurd h h0, fun _ => ⟨rfl, by omega⟩⟩
  refine ACall.forget (low_frV _ _) ?_
  refine s64_callW (by simp) ?_
  simp only [s64]
  refine Ze fun N1 hN1 => ?_
  simp (maxSteps := 2000000) only [↓Za, ↓Zb, ↓Zc, vup, cond_false, aop, Zg, Zt, sput, Zf, Nat.reduceBEq, Nat.reduceAdd, tyf, Xe, Yr]
  refine hN1 [(0, Zd a), (1, Zd b), (4, .pointer (some ⟨h.length, 0, none⟩))] _ _ ?_ (by simp (maxSteps := 2000000) only [vup, cond_true, cond_false, Nat.reduceBEq])
  clear hN1
  try clear N1
  refine Ze fun M hM => ?_
  have key : ∀ e, ELe e [(0, Zd x), (1, Zd (n : Int)), (4, .pointer (some ⟨h.length, 0, none⟩))] → M e (h ++ [Blk.cells [.int .i64 0, .int .i64 0] 26 false]) := by
    intro e he
    refine hM [(0, Zd x), (1, Zd (n : Int)), (4, .pointer (some ⟨h.length, 0, none⟩))] _ _ ?_ he
    refine Ze fun N2 hN2 => ?_
    simp (maxSteps := 2000000) only [↓Za, ↓Zb, ↓Zc, vup, List.map_cons, List.map_nil, cond_true, cond_false, aop, Zg, ev, sput, Zf, Nat.reduceBEq, Yk, List.nil_append, List.append_nil]
    refine (gcd_call (.inl hx) (by omega)).mono ?_
    rintro _ _ ⟨rfl, rfl⟩
    rw [Int.natAbs_natCast]
    refine hN2 [(0, Zd x), (1, Zd (n : Int)), (4, .pointer (some ⟨h.length, 0, none⟩)), (5, Zd (Nat.gcd x.natAbs n : Nat))] _ _ ?_ (by simp (maxSteps := 2000000) only [vup, cond_true, cond_false, Nat.reduceBEq])
    clear hN2
    try clear N2
    have hg : ¬ ((Nat.gcd x.natAbs n : Nat) : Int) = 0 := by have := Nat.gcd_pos_of_pos_right x.natAbs hn; omega
    have q1 : quoV .i64 x ((Nat.gcd x.natAbs n : Nat) : Int) = (Rat.divInt a b).num := by rw [quo_dvd hx (gcd_dvd_int _ _), (terms hn).1, hq]
    have q2 : quoV .i64 (n : Int) ((Nat.gcd x.natAbs n : Nat) : Int) = (Rat.divInt a b).den := by
      rw [quo_dvd (by omega) (Int.natCast_dvd_natCast.2 (Nat.gcd_dvd_right _ _)), ← hq, ← (terms hn).2, Int.natCast_ediv]
    refine Zj ?_
    simp only [q64_4]
    refine aw_cut fun N hN => ?_
    refine Yo [] (by kernel_rfl) (by kernel_rfl) (by kernel_rfl) (by kernel_rfl) ?_
    simp (maxSteps := 2000000) only [↓Zp, ↓vdn, vup, List.map_cons, List.map_nil, cond_true, cond_false, aop, Zg, ev, sput, Zf, Zz, Ya, Nat.reduceBEq, ne_eq, hg, not_false_eq_true, q1, q2, bldF, Xk c0 rfl]
    refine hN _ _ ?_
    simp (maxSteps := 2000000) only [↓Zx, vup, cond_true, cond_false, Nat.reduceBEq, Zr, Xo, tup, Ws (Xs (h := h ++ [Blk.cells [.int .i64 0, .int .i64 0] 26 false]) (b := h.length) (by simp) _)]
    exact ⟨rfl, hE0.set_ge (Nat.le_refl _) _⟩
  by_cases hb0 : b < 0
  · simp (maxSteps := 2000000) only [↓Za, ↓Zs, ↓Zb, ↓Zc, ↓vdn, vup, cond_true, cond_false, aop, Zg, ev, sput, Zf, Zz, Ya, unK, Nat.reduceBEq, hb0, (hneg hb0).1, (hneg hb0).2]
    exact key _ (by simp (maxSteps := 2000000) only [vup, cond_true, cond_false, Nat.reduceBEq])
  · simp (maxSteps := 2000000) only [↓Za, ↓Zo, ↓Zs, ↓Zb, ↓Zc, ↓vdn, vup, cond_true, cond_false, aop, Zg, ev, sput, Zf, Zz, Ya, Nat.reduceBEq, hb0]
    exact key _ (by simp (maxSteps := 2000000) only [vup, cond_true, cond_false, Nat.reduceBEq, (hpos hb0).1, (hpos hb0).2])
end Go.Proofs.Try.Am

namespace Go.Proofs.Try.Am
open Go.Am
set_option maxRecDepth 100000
/-! 45: planchet bets.Worth -/
@[reducible] def q45_0 : SCode := .region [⟨some 6, .assign (.const (.slice none 0 0)), none⟩,
    ⟨some 7, .assign (.const (.int .i64 0)), none⟩]
@[reducible] def q45_1 : SCode := .region [⟨some 14, .move (.tmp 0), none⟩,
    ⟨some 15, .move (.tmp 1), none⟩,
    ⟨some 16, .call { callee := .value (.func 80), args := #[.tmp 14, .tmp 15], argTypes := #[38, 38] }, none⟩,
    ⟨some 17, .unOp .not 4 (.tmp 16), none⟩,
    ⟨some 18, .move (.tmp 17), none⟩,
    ⟨some 19, .move (.tmp 2), some (18, false)⟩,
    ⟨some 20, .call { callee := .builtin .len, args := #[.tmp 19], argTypes := #[47] }, some (18, false)⟩,
    ⟨some 21, .move (.tmp 0), some (18, false)⟩,
    ⟨some 22, .call { callee := .builtin .len, args := #[.tmp 21], argTypes := #[38] }, some (18, false)⟩,
    ⟨some 23, .binOp .neq 3 (.tmp 20) (.tmp 22) 3, some (18, false)⟩,
    ⟨some 24, .pick (.tmp 18) (.const (.bool true)) (.tmp 23), none⟩,
    ⟨some 25, .move (.tmp 24), none⟩,
    ⟨some 26, .move (.tmp 2), some (25, false)⟩,
    ⟨some 27, .call { callee := .value (.func 81), args := #[.tmp 26], argTypes := #[47] }, some (25, false)⟩,
    ⟨some 28, .unOp .not 4 (.tmp 27), some (25, false)⟩,
    ⟨some 29, .pick (.tmp 25) (.const (.bool true)) (.tmp 28), none⟩]
@[reducible] def q45_2 : SCode := .region [⟨some 6, .assign (.const (.slice none 0 0)), none⟩,
    ⟨some 7, .assign (.const (.int .i64 2)), none⟩]
@[reducible] def q45_3 : SCode := .region [⟨some 30, .call { callee := .value (.func 70), args := #[.const (.int .i64 1)], argTypes := #[3] }, none⟩,
    ⟨some 8, .alloc 26, none⟩,
    ⟨none, .store 26 (.tmp 8) (.tmp 30), none⟩]
@[reducible] def q45_4 : SCode := .region [⟨some 31, .move (.tmp 2), none⟩,
    ⟨some 32, .call { callee := .builtin .len, args := #[.tmp 31], argTypes := #[47] }, none⟩,
    ⟨some 33, .move (.const (.int .i64 0)), none⟩]
@[reducible] def q45_5 : SCode := .region [⟨some 34, .binOp .lss 3 (.tmp 33) (.tmp 32) 3, none⟩]
@[reducible] def q45_6 : SCode := .region [⟨some 35, .indexAddr 47 (.tmp 31) (.tmp 33), none⟩,
    ⟨some 36, .load 26 (.tmp 35), none⟩,
    ⟨some 10, .alloc 26, none⟩,
    ⟨none, .store 26 (.tmp 10) (.tmp 36), none⟩]
@[reducible] def q45_7 : SCode := .region [⟨some 37, .load 26 (.tmp 8), none⟩,
    ⟨some 38, .load 26 (.tmp 10), none⟩,
    ⟨some 39, .call { callee := .value (.func 71), args := #[.tmp 37, .const (.int .i64 (-1)), .tmp 38], argTypes := #[26, 3, 26] }, none⟩,
    ⟨none, .store 26 (.tmp 8) (.tmp 39), none⟩]
@[reducible] def q45_8 : SCode := .region [⟨some 40, .binOp .add 3 (.tmp 33) (.const (.int .i64 1)) 3, none⟩,
    ⟨some 33, .move (.tmp 40), none⟩]
def l45_0 : SCode := (.seq q45_5 (.seq (.cond (.tmp 34) .skip (.exit 0)) (.seq (.block 1 (.seq q45_6 q45_7)) q45_8)))
@[reducible] def q45_9 : SCode := .region [⟨some 11, .assign (.const (.slice none 0 0)), none⟩]
@[reducible] def q45_10 : SCode := .region [⟨some 41, .move (.tmp 2), none⟩,
    ⟨some 42, .call { callee := .builtin .len, args := #[.tmp 41], argTypes := #[47] }, none⟩,
    ⟨some 43, .move (.const (.int .i64 0)), none⟩]
@[reducible] def q45_11 : SCode := .region [⟨some 44, .binOp .lss 3 (.tmp 43) (.tmp 42) 3, none⟩]
@[reducible] def q45_12 : SCode := .region [⟨some 45, .move (.tmp 43), none⟩,
    ⟨some 46, .indexAddr 47 (.tmp 41) (.tmp 43), none⟩,
    ⟨some 47, .load 26 (.tmp 46), none⟩,
    ⟨some 13, .alloc 26, none⟩,
    ⟨some 12, .assign (.tmp 45), none⟩,
    ⟨none, .store 26 (.tmp 13) (.tmp 47), none⟩]
def q45_13 : SCode := .draw [⟨some 48, .move (.tmp 11), none⟩,
    ⟨some 49, .load 26 (.tmp 8), none⟩,
    ⟨some 50, .move (.tmp 1), none⟩,
    ⟨some 51, .move (.tmp 12), none⟩,
    ⟨some 52, .indexAddr 38 (.tmp 50) (.tmp 51), none⟩,
    ⟨some 53, .load 3 (.tmp 52), none⟩,
    ⟨some 54, .load 26 (.tmp 13), none⟩,
    ⟨some 55, .call { callee := .value (.func 71), args := #[.tmp 49, .tmp 53, .tmp 54], argTypes := #[26, 3, 26] }, none⟩,
    ⟨some 56, .buildSlice 47 1 #[(0, .tmp 55)], none⟩,
    ⟨some 57, .call { callee := .builtin .append, args := #[.tmp 48, .tmp 56], argTypes := #[47, 47] }, none⟩,
    ⟨some 11, .assign (.tmp 57), none⟩]
   [[], [], [], [], [2, 3], [4], [], [1, 5, 6], [7], [0, 8, 7], [9, 9, 0, 1, 2, 3, 4, 5, 6, 7, 8, 9]]
@[reducible] def q45_14 : SCode := .region [⟨some 58, .binOp .add 3 (.tmp 43) (.const (.int .i64 1)) 3, none⟩,
    ⟨some 43, .move (.tmp 58), none⟩]
def l45_1 : SCode := (.seq q45_11 (.seq (.cond (.tmp 44) .skip (.exit 2)) (.seq (.block 3 (.seq q45_12 q45_13)) q45_14)))
@[reducible] def q45_15 : SCode := .region [⟨some 59, .move (.tmp 11), none⟩,
    ⟨some 6, .assign (.tmp 59), none⟩,
    ⟨some 7, .assign (.const (.int .i64 0)), none⟩]
def s45 : SCode := (.seq q45_0 (.seq (.seq q45_1 (.cond (.tmp 29) (.seq q45_2 .ret) .skip)) (.seq q45_3 (.seq (.seq q45_4 (.block 0 (.loop l45_0))) (.seq q45_9 (.seq (.seq q45_10 (.block 2 (.loop l45_1))) (.seq q45_15 .ret)))))))
theorem s45_strip : Zw (Zu Try.f45) = s45 := by kernel_rfl
theorem s45_ok : Yi 60 (Zu Try.f45) = true := by kernel_rfl
/-! 46: planchet planchetlaw09.list -/
@[reducible] def q46_0 : SCode := .region [⟨some 2, .assign (.const (.slice none 0 0)), none⟩]
@[reducible] def q46_1 : SCode := .region [⟨some 3, .move (.tmp 0), none⟩,
    ⟨some 4, .move (.tmp 0), none⟩,
    ⟨some 5, .call { callee := .builtin .len, args := #[.tmp 4], argTypes := #[38] }, none⟩,
    ⟨some 6, .call { callee := .builtin .min, args := #[.tmp 5, .const (.int .i64 8)], argTypes := #[3, 3] }, none⟩,
    ⟨some 7, .slice 38 (.tmp 3) none (some (.tmp 6)) none, none⟩,
    ⟨some 8, .call { callee := .value (.func 82), args := #[.tmp 7], argTypes := #[38] }, none⟩,
    ⟨some 2, .assign (.tmp 8), none⟩]
def s46 : SCode := (.seq q46_0 (.seq q46_1 .ret))
theorem s46_strip : Zw (Zu Try.f46) = s46 := by kernel_rfl
theorem s46_ok : Yi 9 (Zu Try.f46) = true := by kernel_rfl
theorem s46_call [Tabs Try.prog] {args : List Value} {h : Zh} {Q : Value → Zh → Prop} (hsz : args.length ≤ 9) (hk : aw Try.prog 9 s46 (Zr Try.prog [.tmp 2] Q) (Zt 0 args) h) : ACall Try.prog 46 args h Q :=
  acall_s Try.func46 rfl (enters_of Try.func46 (by kernel_rfl) rfl) rfl rfl (by decide) s46_strip s46_ok hsz hk

/-! 47: planchet planchetref09.Race -/
@[reducible] def q47_0 : SCode := .region [⟨some 4, .assign (.const (.bool false)), none⟩]
@[reducible] def q47_1 : SCode := .region [⟨some 8, .move (.tmp 0), none⟩,
    ⟨some 9, .call { callee := .builtin .len, args := #[.tmp 8], argTypes := #[38] }, none⟩,
    ⟨some 10, .binOp .lss 3 (.tmp 9) (.const (.int .i64 2)) 3, none⟩,
    ⟨some 11, .move (.tmp 10), none⟩,
    ⟨some 12, .move (.tmp 0), some (11, false)⟩,
    ⟨some 13, .call { callee := .builtin .len, args := #[.tmp 12], argTypes := #[38] }, some (11, false)⟩,
    ⟨some 14, .binOp .gtr 3 (.tmp 13) (.const (.int .i64 5)) 3, some (11, false)⟩,
    ⟨some 15, .pick (.tmp 11) (.const (.bool true)) (.tmp 14), none⟩,
    ⟨some 16, .move (.tmp 15), none⟩,
    ⟨some 17, .move (.tmp 1), some (16, false)⟩,
    ⟨some 18, .call { callee := .builtin .len, args := #[.tmp 17], argTypes := #[38] }, some (16, false)⟩,
    ⟨some 19, .move (.tmp 0), some (16, false)⟩,
    ⟨some 20, .call { callee := .builtin .len, args := #[.tmp 19], argTypes := #[38] }, some (16, false)⟩,
    ⟨some 21, .binOp .neq 3 (.tmp 18) (.tmp 20) 3, some (16, false)⟩,
    ⟨some 22, .pick (.tmp 16) (.const (.bool true)) (.tmp 21), none⟩]
@[reducible] def q47_2 : SCode := .region [⟨some 4, .assign (.const (.bool false)), none⟩]
@[reducible] def q47_3 : SCode := .region [⟨some 5, .assign (.const (.int .i64 0)), none⟩]
@[reducible] def q47_4 : SCode := .region [⟨some 23, .move (.tmp 0), none⟩,
    ⟨some 24, .call { callee := .builtin .len, args := #[.tmp 23], argTypes := #[38] }, none⟩,
    ⟨some 25, .move (.const (.int .i64 0)), none⟩]
@[reducible] def q47_5 : SCode := .region [⟨some 26, .binOp .lss 3 (.tmp 25) (.tmp 24) 3, none⟩]
@[reducible] def q47_6 : SCode := .region [⟨some 27, .move (.tmp 25), none⟩,
    ⟨some 28, .indexAddr 38 (.tmp 23) (.tmp 25), none⟩,
    ⟨some 29, .load 3 (.tmp 28), none⟩,
    ⟨some 6, .assign (.tmp 27), none⟩,
    ⟨some 7, .assign (.tmp 29), none⟩]
@[reducible] def q47_7 : SCode := .region [⟨some 30, .move (.tmp 7), none⟩,
    ⟨some 31, .binOp .lss 3 (.tmp 30) (.const (.int .i64 0)) 3, none⟩,
    ⟨some 32, .move (.tmp 31), none⟩,
    ⟨some 33, .move (.tmp 7), some (32, false)⟩,
    ⟨some 34, .binOp .gtr 3 (.tmp 33) (.const (.int .i64 12)) 3, some (32, false)⟩,
    ⟨some 35, .pick (.tmp 32) (.const (.bool true)) (.tmp 34), none⟩,
    ⟨some 36, .move (.tmp 35), none⟩,
    ⟨some 37, .move (.tmp 1), some (36, false)⟩,
    ⟨some 38, .move (.tmp 6), some (36, false)⟩,
    ⟨some 39, .indexAddr 38 (.tmp 37) (.tmp 38), some (36, false)⟩,
    ⟨some 40, .load 3 (.tmp 39), some (36, false)⟩,
    ⟨some 41, .binOp .lss 3 (.tmp 40) (.const (.int .i64 1)) 3, some (36, false)⟩,
    ⟨some 42, .pick (.tmp 36) (.const (.bool true)) (.tmp 41), none⟩,
    ⟨some 43, .move (.tmp 42), none⟩,
    ⟨some 44, .move (.tmp 1), some (43, false)⟩,
    ⟨some 45, .move (.tmp 6), some (43, false)⟩,
    ⟨some 46, .indexAddr 38 (.tmp 44) (.tmp 45), some (43, false)⟩,
    ⟨some 47, .load 3 (.tmp 46), some (43, false)⟩,
    ⟨some 48, .binOp .gtr 3 (.tmp 47) (.const (.int .i64 12)) 3, some (43, false)⟩,
    ⟨some 49, .pick (.tmp 43) (.const (.bool true)) (.tmp 48), none⟩]
@[reducible] def q47_8 : SCode := .region [⟨some 4, .assign (.const (.bool false)), none⟩]
@[reducible] def q47_9 : SCode := .region [⟨some 50, .move (.tmp 5), none⟩,
    ⟨some 51, .move (.tmp 7), none⟩,
    ⟨some 52, .binOp .add 3 (.tmp 50) (.tmp 51) 3, none⟩,
    ⟨some 5, .assign (.tmp 52), none⟩]
@[reducible] def q47_10 : SCode := .region [⟨some 53, .binOp .add 3 (.tmp 25) (.const (.int .i64 1)) 3, none⟩,
    ⟨some 25, .move (.tmp 53), none⟩]
def l47_0 : SCode := (.seq q47_5 (.seq (.cond (.tmp 26) .skip (.exit 0)) (.seq (.block 1 (.seq q47_6 (.seq (.seq q47_7 (.cond (.tmp 49) (.seq q47_8 .ret) .skip)) q47_9))) q47_10)))
@[reducible] def q47_11 : SCode := .region [⟨some 54, .move (.tmp 5), none⟩,
    ⟨some 55, .binOp .eql 3 (.tmp 54) (.const (.int .i64 12)) 3, none⟩,
    ⟨some 4, .assign (.tmp 55), none⟩]
def s47 : SCode := (.seq q47_0 (.seq (.seq q47_1 (.cond (.tmp 22) (.seq q47_2 .ret) .skip)) (.seq q47_3 (.seq (.seq q47_4 (.block 0 (.loop l47_0))) (.seq q47_11 .ret)))))
theorem s47_strip : Zw (Zu Try.f47) = s47 := by kernel_rfl
theorem s47_ok : Yi 56 (Zu Try.f47) = true := by kernel_rfl
/-! 48: planchet planchetref09.Staking -/
@[reducible] def q48_0 : SCode := .region [⟨some 4, .assign (.const (.bool false)), none⟩]
@[reducible] def q48_1 : SCode := .region [⟨some 5, .move (.tmp 1), none⟩,
    ⟨some 6, .call { callee := .builtin .len, args := #[.tmp 5], argTypes := #[47] }, none⟩,
    ⟨some 7, .move (.tmp 0), none⟩,
    ⟨some 8, .binOp .eql 3 (.tmp 6) (.tmp 7) 3, none⟩,
    ⟨some 9, .move (.tmp 8), none⟩,
    ⟨some 10, .move (.tmp 0), some (9, true)⟩,
    ⟨some 11, .move (.tmp 1), some (9, true)⟩,
    ⟨some 12, .call { callee := .value (.func 38), args := #[.tmp 10, .tmp 11], argTypes := #[3, 47] }, some (9, true)⟩,
    ⟨some 13, .pick (.tmp 9) (.tmp 12) (.const (.bool false)), none⟩,
    ⟨some 14, .move (.tmp 13), none⟩,
    ⟨some 15, .move (.tmp 1), some (14, true)⟩,
    ⟨some 16, .move (.tmp 0), some (14, true)⟩,
    ⟨some 17, .binOp .shl 3 (.const (.int .i64 1)) (.tmp 16) 3, some (14, true)⟩,
    ⟨some 18, .binOp .sub 3 (.tmp 17) (.const (.int .i64 1)) 3, some (14, true)⟩,
    ⟨some 19, .call { callee := .value (.func 74), args := #[.tmp 15, .tmp 18], argTypes := #[47, 3] }, some (14, true)⟩,
    ⟨some 20, .move (.tmp 1), some (14, true)⟩,
    ⟨some 21, .call { callee := .value (.func 34), args := #[.tmp 20], argTypes := #[47] }, some (14, true)⟩,
    ⟨some 22, .binOp .leq 3 (.tmp 19) (.tmp 21) 3, some (14, true)⟩,
    ⟨some 23, .pick (.tmp 14) (.tmp 22) (.const (.bool false)), none⟩,
    ⟨some 4, .assign (.tmp 23), none⟩]
def s48 : SCode := (.seq q48_0 (.seq q48_1 .ret))
theorem s48_strip : Zw (Zu Try.f48) = s48 := by kernel_rfl
theorem s48_ok : Yi 24 (Zu Try.f48) = true := by kernel_rfl
/-! 80: planchet bets.isRace -/
@[reducible] def q80_0 : SCode := .region [⟨some 4, .assign (.const (.bool false)), none⟩]
@[reducible] def q80_1 : SCode := .region [⟨some 9, .move (.tmp 0), none⟩,
    ⟨some 10, .call { callee := .builtin .len, args := #[.tmp 9], argTypes := #[38] }, none⟩,
    ⟨some 5, .assign (.tmp 10), none⟩]
@[reducible] def q80_2 : SCode := .region [⟨some 11, .move (.tmp 5), none⟩,
    ⟨some 12, .binOp .lss 3 (.tmp 11) (.const (.int .i64 2)) 3, none⟩,
    ⟨some 13, .move (.tmp 12), none⟩,
    ⟨some 14, .move (.tmp 5), some (13, false)⟩,
    ⟨some 15, .binOp .gtr 3 (.tmp 14) (.const (.int .i64 5)) 3, some (13, false)⟩,
    ⟨some 16, .pick (.tmp 13) (.const (.bool true)) (.tmp 15), none⟩,
    ⟨some 17, .move (.tmp 16), none⟩,
    ⟨some 18, .move (.tmp 1), some (17, false)⟩,
    ⟨some 19, .call { callee := .builtin .len, args := #[.tmp 18], argTypes := #[38] }, some (17, false)⟩,
    ⟨some 20, .move (.tmp 5), some (17, false)⟩,
    ⟨some 21, .binOp .neq 3 (.tmp 19) (.tmp 20) 3, some (17, false)⟩,
    ⟨some 22, .pick (.tmp 17) (.const (.bool true)) (.tmp 21), none⟩,
    ⟨some 23, .move (.tmp 22), none⟩,
    ⟨some 24, .move (.tmp 0), some (23, false)⟩,
    ⟨some 25, .call { callee := .value (.func 90), args := #[.tmp 24], argTypes := #[38] }, some (23, false)⟩,
    ⟨some 26, .binOp .lss 3 (.tmp 25) (.const (.int .i64 0)) 3, some (23, false)⟩,
    ⟨some 27, .pick (.tmp 23) (.const (.bool true)) (.tmp 26), none⟩,
    ⟨some 28, .move (.tmp 27), none⟩,
    ⟨some 29, .move (.tmp 0), some (28, false)⟩,
    ⟨some 30, .call { callee := .value (.func 91), args := #[.tmp 29], argTypes := #[38] }, some (28, false)⟩,
    ⟨some 31, .binOp .gtr 3 (.tmp 30) (.const (.int .i64 12)) 3, some (28, false)⟩,
    ⟨some 32, .pick (.tmp 28) (.const (.bool true)) (.tmp 31), none⟩,
    ⟨some 33, .move (.tmp 32), none⟩,
    ⟨some 34, .move (.tmp 1), some (33, false)⟩,
    ⟨some 35, .call { callee := .value (.func 90), args := #[.tmp 34], argTypes := #[38] }, some (33, false)⟩,
    ⟨some 36, .binOp .lss 3 (.tmp 35) (.const (.int .i64 1)) 3, some (33, false)⟩,
    ⟨some 37, .pick (.tmp 33) (.const (.bool true)) (.tmp 36), none⟩,
    ⟨some 38, .move (.tmp 37), none⟩,
    ⟨some 39, .move (.tmp 1), some (38, false)⟩,
    ⟨some 40, .call { callee := .value (.func 91), args := #[.tmp 39], argTypes := #[38] }, some (38, false)⟩,
    ⟨some 41, .binOp .gtr 3 (.tmp 40) (.const (.int .i64 12)) 3, some (38, false)⟩,
    ⟨some 42, .pick (.tmp 38) (.const (.bool true)) (.tmp 41), none⟩]
@[reducible] def q80_3 : SCode := .region [⟨some 4, .assign (.const (.bool false)), none⟩]
@[reducible] def q80_4 : SCode := .region [⟨some 6, .assign (.const (.int .i64 0)), none⟩]
@[reducible] def q80_5 : SCode := .region [⟨some 43, .move (.tmp 0), none⟩,
    ⟨some 44, .call { callee := .builtin .len, args := #[.tmp 43], argTypes := #[38] }, none⟩,
    ⟨some 45, .move (.const (.int .i64 0)), none⟩]
@[reducible] def q80_6 : SCode := .region [⟨some 46, .binOp .lss 3 (.tmp 45) (.tmp 44) 3, none⟩]
@[reducible] def q80_7 : SCode := .region [⟨some 47, .indexAddr 38 (.tmp 43) (.tmp 45), none⟩,
    ⟨some 48, .load 3 (.tmp 47), none⟩,
    ⟨some 8, .assign (.tmp 48), none⟩]
@[reducible] def q80_8 : SCode := .region [⟨some 49, .move (.tmp 6), none⟩,
    ⟨some 50, .move (.tmp 8), none⟩,
    ⟨some 51, .binOp .add 3 (.tmp 49) (.tmp 50) 3, none⟩,
    ⟨some 6, .assign (.tmp 51), none⟩]
@[reducible] def q80_9 : SCode := .region [⟨some 52, .binOp .add 3 (.tmp 45) (.const (.int .i64 1)) 3, none⟩,
    ⟨some 45, .move (.tmp 52), none⟩]
def l80_0 : SCode := (.seq q80_6 (.seq (.cond (.tmp 46) .skip (.exit 0)) (.seq (.block 1 (.seq q80_7 q80_8)) q80_9)))
@[reducible] def q80_10 : SCode := .region [⟨some 53, .move (.tmp 6), none⟩,
    ⟨some 54, .binOp .eql 3 (.tmp 53) (.const (.int .i64 12)) 3, none⟩,
    ⟨some 4, .assign (.tmp 54), none⟩]
def s80 : SCode := (.seq q80_0 (.seq q80_1 (.seq (.seq q80_2 (.cond (.tmp 42) (.seq q80_3 .ret) .skip)) (.seq q80_4 (.seq (.seq q80_5 (.block 0 (.loop l80_0))) (.seq q80_10 .ret))))))
theorem s80_strip : Zw (Zu Try.f80) = s80 := by kernel_rfl
theorem s80_ok : Yi 55 (Zu Try.f80) = true := by kernel_rfl
/-! 81: planchet bets.isStaking -/
@[reducible] def q81_0 : SCode := .region [⟨some 2, .assign (.const (.bool false)), none⟩]
def q81_1 : SCode := .draw [⟨some 3, .move (.tmp 0), none⟩,
    ⟨some 4, .call { callee := .value (.func 75), args := #[.tmp 3], argTypes := #[47] }, none⟩,
    ⟨some 5, .move (.tmp 4), none⟩,
    ⟨some 6, .call { callee := .value (.func 70), args := #[.const (.int .i64 1)], argTypes := #[3] }, some (5, true)⟩,
    ⟨some 7, .move (.tmp 0), some (5, true)⟩,
    ⟨some 8, .move (.tmp 0), some (5, true)⟩,
    ⟨some 9, .call { callee := .builtin .len, args := #[.tmp 8], argTypes := #[47] }, some (5, true)⟩,
    ⟨some 10, .binOp .shl 3 (.const (.int .i64 1)) (.tmp 9) 3, some (5, true)⟩,
    ⟨some 11, .binOp .sub 3 (.tmp 10) (.const (.int .i64 1)) 3, some (5, true)⟩,
    ⟨some 12, .call { callee := .value (.func 61), args := #[.tmp 7, .tmp 11], argTypes := #[90, 3] }, some (5, true)⟩,
    ⟨some 13, .call { callee := .value (.func 62), args := #[.tmp 6, .tmp 12], argTypes := #[26, 26] }, some (5, true)⟩,
    ⟨some 14, .unOp .not 4 (.tmp 13), some (5, true)⟩,
    ⟨some 15, .pick (.tmp 5) (.tmp 14) (.const (.bool false)), none⟩,
    ⟨some 2, .assign (.tmp 15), none⟩]
   [[], [0], [1, 1], [2, 2], [2], [2], [5, 2], [6, 2], [7, 2], [4, 8, 3, 2], [3, 9, 9, 2], [10, 2], [2, 11], [12, 10, 0, 1, 2, 3, 4, 5, 6, 7, 8, 9, 10, 11, 12]]
def s81 : SCode := (.seq q81_0 (.seq q81_1 .ret))
theorem s81_strip : Zw (Zu Try.f81) = s81 := by kernel_rfl
theorem s81_ok : Yi 16 (Zu Try.f81) = true := by kernel_rfl
/-! 82: slices.Clone[[]int,int] -/
@[reducible] def q82_0 : SCode := .region [⟨some 2, .assign (.const (.slice none 0 0)), none⟩]
@[reducible] def q82_1 : SCode := .region [⟨some 3, .move (.tmp 0), none⟩,
    ⟨some 4, .binOp .eql 38 (.tmp 3) (.const (.slice none 0 0)) 38, none⟩]
@[reducible] def q82_2 : SCode := .region [⟨some 2, .assign (.const (.slice none 0 0)), none⟩]
@[reducible] def q82_3 : SCode := .region [⟨some 5, .buildSlice 38 0 #[], none⟩,
    ⟨some 6, .move (.tmp 0), none⟩,
    ⟨some 7, .call { callee := .builtin .append, args := #[.tmp 5, .tmp 6], argTypes := #[38, 38] }, none⟩,
    ⟨some 2, .assign (.tmp 7), none⟩]
def s82 : SCode := (.seq q82_0 (.seq (.seq q82_1 (.cond (.tmp 4) (.seq q82_2 .ret) .skip)) (.seq q82_3 .ret)))
theorem s82_strip : Zw (Zu Try.f82) = s82 := by kernel_rfl
theorem s82_ok : Yi 8 (Zu Try.f82) = true := by kernel_rfl
theorem s82_call [Tabs Try.prog] {args : List Value} {h : Zh} {Q : Value → Zh → Prop} (hsz : args.length ≤ 8) (hk : aw Try.prog 8 s82 (Zr Try.prog [.tmp 2] Q) (Zt 0 args) h) : ACall Try.prog 82 args h Q :=
  acall_s Try.func82 rfl (enters_of Try.func82 (by kernel_rfl) rfl) rfl rfl (by decide) s82_strip s82_ok hsz hk

/-! 90: slices.Min[[]int,int] -/
@[reducible] def q90_0 : SCode := .region [⟨some 2, .assign (.const (.int .i64 0)), none⟩]
@[reducible] def q90_1 : SCode := .region [⟨some 5, .move (.tmp 0), none⟩,
    ⟨some 6, .call { callee := .builtin .len, args := #[.tmp 5], argTypes := #[38] }, none⟩,
    ⟨some 7, .binOp .lss 3 (.tmp 6) (.const (.int .i64 1)) 3, none⟩]
@[reducible] def q90_2 : SCode := .region [⟨some 8, .makeInterface 9 (.const (.string { data := #[115, 108, 105, 99, 101, 115, 46, 77, 105, 110, 58, 32, 101, 109, 112, 116, 121, 32, 108, 105, 115, 116] })), none⟩,
    ⟨none, .panic (.tmp 8), none⟩]
@[reducible] def q90_3 : SCode := .region [⟨some 9, .move (.tmp 0), none⟩,
    ⟨some 10, .indexAddr 38 (.tmp 9) (.const (.int .i64 0)), none⟩,
    ⟨some 11, .load 3 (.tmp 10), none⟩,
    ⟨some 3, .assign (.tmp 11), none⟩]
@[reducible] def q90_4 : SCode := .region [⟨some 4, .assign (.const (.int .i64 1)), none⟩]
@[reducible] def q90_5 : SCode := .region [⟨some 12, .move (.tmp 4), none⟩,
    ⟨some 13, .move (.tmp 0), none⟩,
    ⟨some 14, .call { callee := .builtin .len, args := #[.tmp 13], argTypes := #[38] }, none⟩,
    ⟨some 15, .binOp .lss 3 (.tmp 12) (.tmp 14) 3, none⟩]
@[reducible] def q90_7 : SCode := .region [⟨some 18, .move (.tmp 3), none⟩,
    ⟨some 19, .move (.tmp 0), none⟩,
    ⟨some 20, .move (.tmp 4), none⟩,
    ⟨some 21, .indexAddr 38 (.tmp 19) (.tmp 20), none⟩,
    ⟨some 22, .load 3 (.tmp 21), none⟩,
    ⟨some 23, .call { callee := .builtin .min, args := #[.tmp 18, .tmp 22], argTypes := #[3, 3] }, none⟩,
    ⟨some 3, .assign (.tmp 23), none⟩]
@[reducible] def q90_6 : SCode := .region [⟨some 16, .move (.tmp 4), none⟩,
    ⟨some 17, .binOp .add 3 (.tmp 16) (.const (.int .i64 1)) 3, none⟩,
    ⟨some 4, .assign (.tmp 17), none⟩]
def l90_0 : SCode := (.seq (.seq q90_5 (.cond (.tmp 15) .skip (.exit 0))) (.seq (.block 1 q90_7) q90_6))
@[reducible] def q90_8 : SCode := .region [⟨some 24, .move (.tmp 3), none⟩,
    ⟨some 2, .assign (.tmp 24), none⟩]
def s90 : SCode := (.seq q90_0 (.seq (.seq q90_1 (.cond (.tmp 7) q90_2 .skip)) (.seq q90_3 (.seq (.seq q90_4 (.block 0 (.loop l90_0))) (.seq q90_8 .ret)))))
theorem s90_strip : Zw (Zu Try.f90) = s90 := by kernel_rfl
theorem s90_ok : Yi 25 (Zu Try.f90) = true := by kernel_rfl
/-! 91: slices.Max[[]int,int] -/
@[reducible] def q91_0 : SCode := .region [⟨some 2, .assign (.const (.int .i64 0)), none⟩]
@[reducible] def q91_1 : SCode := .region [⟨some 5, .move (.tmp 0), none⟩,
    ⟨some 6, .call { callee := .builtin .len, args := #[.tmp 5], argTypes := #[38] }, none⟩,
    ⟨some 7, .binOp .lss 3 (.tmp 6) (.const (.int .i64 1)) 3, none⟩]
@[reducible] def q91_2 : SCode := .region [⟨some 8, .makeInterface 9 (.const (.string { data := #[115, 108, 105, 99, 101, 115, 46, 77, 97, 120, 58, 32, 101, 109, 112, 116, 121, 32, 108, 105, 115, 116] })), none⟩,
    ⟨none, .panic (.tmp 8), none⟩]
@[reducible] def q91_3 : SCode := .region [⟨some 9, .move (.tmp 0), none⟩,
    ⟨some 10, .indexAddr 38 (.tmp 9) (.const (.int .i64 0)), none⟩,
    ⟨some 11, .load 3 (.tmp 10), none⟩,
    ⟨some 3, .assign (.tmp 11), none⟩]
@[reducible] def q91_4 : SCode := .region [⟨some 4, .assign (.const (.int .i64 1)), none⟩]
@[reducible] def q91_5 : SCode := .region [⟨some 12, .move (.tmp 4), none⟩,
    ⟨some 13, .move (.tmp 0), none⟩,
    ⟨some 14, .call { callee := .builtin .len, args := #[.tmp 13], argTypes := #[38] }, none⟩,
    ⟨some 15, .binOp .lss 3 (.tmp 12) (.tmp 14) 3, none⟩]
@[reducible] def q91_7 : SCode := .region [⟨some 18, .move (.tmp 3), none⟩,
    ⟨some 19, .move (.tmp 0), none⟩,
    ⟨some 20, .move (.tmp 4), none⟩,
    ⟨some 21, .indexAddr 38 (.tmp 19) (.tmp 20), none⟩,
    ⟨some 22, .load 3 (.tmp 21), none⟩,
    ⟨some 23, .call { callee := .builtin .max, args := #[.tmp 18, .tmp 22], argTypes := #[3, 3] }, none⟩,
    ⟨some 3, .assign (.tmp 23), none⟩]
@[reducible] def q91_6 : SCode := .region [⟨some 16, .move (.tmp 4), none⟩,
    ⟨some 17, .binOp .add 3 (.tmp 16) (.const (.int .i64 1)) 3, none⟩,
    ⟨some 4, .assign (.tmp 17), none⟩]
def l91_0 : SCode := (.seq (.seq q91_5 (.cond (.tmp 15) .skip (.exit 0))) (.seq (.block 1 q91_7) q91_6))
@[reducible] def q91_8 : SCode := .region [⟨some 24, .move (.tmp 3), none⟩,
    ⟨some 2, .assign (.tmp 24), none⟩]
def s91 : SCode := (.seq q91_0 (.seq (.seq q91_1 (.cond (.tmp 7) q91_2 .skip)) (.seq q91_3 (.seq (.seq q91_4 (.block 0 (.loop l91_0))) (.seq q91_8 .ret)))))
theorem s91_strip : Zw (Zu Try.f91) = s91 := by kernel_rfl
theorem s91_ok : Yi 25 (Zu Try.f91) = true := by kernel_rfl
end Go.Proofs.Try.Am

namespace Go.Proofs.Try.Am
open Go.Am
set_option maxRecDepth 100000
/-! 16: planchet planchetlaw09.BetsKept -/
@[reducible] def q16_0 : SCode := .region [⟨some 4, .assign (.const (.bool false)), none⟩]
@[reducible] def q16_1 : SCode := .region [⟨some 22, .move (.tmp 0), none⟩,
    ⟨some 23, .call { callee := .value (.func 46), args := #[.tmp 22], argTypes := #[38] }, none⟩,
    ⟨some 24, .move (.tmp 1), none⟩,
    ⟨some 25, .call { callee := .value (.func 46), args := #[.tmp 24], argTypes := #[38] }, none⟩,
    ⟨some 26, .call { callee := .value (.func 55), args := #[.tmp 23, .tmp 25], argTypes := #[38, 38] }, none⟩,
    ⟨some 21, .move (.tmp 26), none⟩,
    ⟨some 27, .extract (.tmp 21) 0, none⟩,
    ⟨some 28, .extract (.tmp 21) 1, none⟩,
    ⟨some 5, .assign (.tmp 27), none⟩,
    ⟨some 6, .assign (.tmp 28), none⟩]
@[reducible] def q16_2 : SCode := .region [⟨some 29, .move (.tmp 6), none⟩,
    ⟨some 30, .binOp .neq 27 (.tmp 29) (.const (.int .i64 0)) 27, none⟩,
    ⟨some 31, .move (.tmp 30), none⟩,
    ⟨some 32, .move (.tmp 0), some (31, false)⟩,
    ⟨some 33, .move (.tmp 1), some (31, false)⟩,
    ⟨some 34, .call { callee := .value (.func 47), args := #[.tmp 32, .tmp 33], argTypes := #[38, 38] }, some (31, false)⟩,
    ⟨some 35, .unOp .not 4 (.tmp 34), some (31, false)⟩,
    ⟨some 36, .pick (.tmp 31) (.const (.bool true)) (.tmp 35), none⟩]
@[reducible] def q16_3 : SCode := .region [⟨some 37, .move (.tmp 6), none⟩,
    ⟨some 38, .binOp .eql 27 (.tmp 37) (.const (.int .i64 2)) 27, none⟩,
    ⟨some 39, .move (.tmp 38), none⟩,
    ⟨some 40, .call { callee := .value (.func 21), args := #[], argTypes := #[] }, some (39, true)⟩,
    ⟨some 41, .pick (.tmp 39) (.tmp 40) (.const (.bool false)), none⟩,
    ⟨some 4, .assign (.tmp 41), none⟩]
@[reducible] def q16_4 : SCode := .region [⟨some 43, .move (.tmp 0), none⟩,
    ⟨some 44, .call { callee := .value (.func 46), args := #[.tmp 43], argTypes := #[38] }, none⟩,
    ⟨some 45, .move (.tmp 1), none⟩,
    ⟨some 46, .call { callee := .value (.func 46), args := #[.tmp 45], argTypes := #[38] }, none⟩,
    ⟨some 47, .move (.tmp 5), none⟩,
    ⟨some 48, .call { callee := .value (.func 57), args := #[.tmp 47], argTypes := #[47] }, none⟩,
    ⟨some 49, .call { callee := .value (.func 45), args := #[.tmp 44, .tmp 46, .tmp 48], argTypes := #[38, 38, 47] }, none⟩,
    ⟨some 42, .move (.tmp 49), none⟩,
    ⟨some 50, .extract (.tmp 42) 0, none⟩,
    ⟨some 51, .extract (.tmp 42) 1, none⟩,
    ⟨some 7, .assign (.tmp 50), none⟩,
    ⟨some 8, .assign (.tmp 51), none⟩]
@[reducible] def q16_5 : SCode := .region [⟨some 52, .move (.tmp 8), none⟩,
    ⟨some 53, .binOp .neq 27 (.tmp 52) (.const (.int .i64 0)) 27, none⟩,
    ⟨some 54, .move (.tmp 53), none⟩,
    ⟨some 55, .move (.tmp 1), some (54, false)⟩,
    ⟨some 56, .call { callee := .builtin .len, args := #[.tmp 55], argTypes := #[38] }, some (54, false)⟩,
    ⟨some 57, .move (.tmp 5), some (54, false)⟩,
    ⟨some 58, .call { callee := .value (.func 48), args := #[.tmp 56, .tmp 57], argTypes := #[3, 47] }, some (54, false)⟩,
    ⟨some 59, .unOp .not 4 (.tmp 58), some (54, false)⟩,
    ⟨some 60, .pick (.tmp 54) (.const (.bool true)) (.tmp 59), none⟩,
    ⟨some 61, .move (.tmp 60), none⟩,
    ⟨some 62, .move (.tmp 7), some (61, false)⟩,
    ⟨some 63, .call { callee := .builtin .len, args := #[.tmp 62], argTypes := #[47] }, some (61, false)⟩,
    ⟨some 64, .move (.tmp 1), some (61, false)⟩,
    ⟨some 65, .call { callee := .builtin .len, args := #[.tmp 64], argTypes := #[38] }, some (61, false)⟩,
    ⟨some 66, .binOp .neq 3 (.tmp 63) (.tmp 65) 3, some (61, false)⟩,
    ⟨some 67, .pick (.tmp 61) (.const (.bool true)) (.tmp 66), none⟩]
@[reducible] def q16_6 : SCode := .region [⟨some 4, .assign (.const (.bool false)), none⟩]
@[reducible] def q16_7 : SCode := .region [⟨some 9, .assign (.const (.int .i64 0)), none⟩,
    ⟨some 10, .assign (.const (.int .i64 1)), none⟩]
@[reducible] def q16_8 : SCode := .region [⟨some 11, .assign (.const (.int .i64 0)), none⟩]
@[reducible] def q16_9 : SCode := .region [⟨some 68, .build 26 #[(1, .const (.int .i64 1))], none⟩,
    ⟨some 12, .alloc 26, none⟩,
    ⟨none, .store 26 (.tmp 12) (.tmp 68), none⟩]
@[reducible] def q16_10 : SCode := .region [⟨some 69, .move (.tmp 7), none⟩,
    ⟨some 70, .call { callee := .builtin .len, args := #[.tmp 69], argTypes := #[47] }, none⟩,
    ⟨some 71, .move (.const (.int .i64 0)), none⟩]
@[reducible] def q16_11 : SCode := .region [⟨some 72, .binOp .lss 3 (.tmp 71) (.tmp 70) 3, none⟩]
@[reducible] def q16_12 : SCode := .region [⟨some 73, .move (.tmp 71), none⟩,
    ⟨some 74, .indexAddr 47 (.tmp 69) (.tmp 71), none⟩,
    ⟨some 75, .load 26 (.tmp 74), none⟩,
    ⟨some 14, .alloc 26, none⟩,
    ⟨some 13, .assign (.tmp 73), none⟩,
    ⟨none, .store 26 (.tmp 14) (.tmp 75), none⟩]
@[reducible] def q16_13 : SCode := .region [⟨some 76, .fieldAddr 26 (.tmp 14) 1, none⟩,
    ⟨some 77, .load 3 (.tmp 76), none⟩,
    ⟨some 78, .binOp .lss 3 (.tmp 77) (.const (.int .i64 1)) 3, none⟩,
    ⟨some 79, .move (.tmp 78), none⟩,
    ⟨some 80, .fieldAddr 26 (.tmp 14) 1, some (79, false)⟩,
    ⟨some 81, .load 3 (.tmp 80), some (79, false)⟩,
    ⟨some 82, .binOp .gtr 3 (.tmp 81) (.const (.int .i64 10000000000)) 3, some (79, false)⟩,
    ⟨some 83, .pick (.tmp 79) (.const (.bool true)) (.tmp 82), none⟩,
    ⟨some 84, .move (.tmp 83), none⟩,
    ⟨some 85, .fieldAddr 26 (.tmp 14) 0, some (84, false)⟩,
    ⟨some 86, .load 3 (.tmp 85), some (84, false)⟩,
    ⟨some 87, .binOp .lss 3 (.tmp 86) (.const (.int .i64 0)) 3, some (84, false)⟩,
    ⟨some 88, .pick (.tmp 84) (.const (.bool true)) (.tmp 87), none⟩,
    ⟨some 89, .move (.tmp 88), none⟩,
    ⟨some 90, .fieldAddr 26 (.tmp 14) 0, some (89, false)⟩,
    ⟨some 91, .load 3 (.tmp 90), some (89, false)⟩,
    ⟨some 92, .fieldAddr 26 (.tmp 14) 1, some (89, false)⟩,
    ⟨some 93, .load 3 (.tmp 92), some (89, false)⟩,
    ⟨some 94, .binOp .mul 3 (.const (.int .i64 12)) (.tmp 93) 3, some (89, false)⟩,
    ⟨some 95, .binOp .gtr 3 (.tmp 91) (.tmp 94) 3, some (89, false)⟩,
    ⟨some 96, .pick (.tmp 89) (.const (.bool true)) (.tmp 95), none⟩]
@[reducible] def q16_14 : SCode := .region [⟨some 4, .assign (.const (.bool false)), none⟩]
@[reducible] def q16_16 : SCode := .region [⟨some 99, .move (.tmp 5), none⟩,
    ⟨some 100, .move (.tmp 13), none⟩,
    ⟨some 101, .indexAddr 47 (.tmp 99) (.tmp 100), none⟩,
    ⟨some 102, .fieldAddr 26 (.tmp 101) 0, none⟩,
    ⟨some 103, .load 3 (.tmp 102), none⟩,
    ⟨some 104, .binOp .gtr 3 (.tmp 103) (.const (.int .i64 0)) 3, none⟩,
    ⟨some 98, .assign (.tmp 104), none⟩]
def q16_17 : SCode := .draw [⟨some 105, .move (.tmp 9), none⟩,
    ⟨some 106, .move (.tmp 1), none⟩,
    ⟨some 107, .move (.tmp 13), none⟩,
    ⟨some 108, .indexAddr 38 (.tmp 106) (.tmp 107), none⟩,
    ⟨some 109, .load 3 (.tmp 108), none⟩,
    ⟨some 110, .binOp .mul 3 (.tmp 105) (.tmp 109) 3, none⟩,
    ⟨some 111, .move (.tmp 10), none⟩,
    ⟨some 112, .binOp .add 3 (.tmp 110) (.tmp 111) 3, none⟩,
    ⟨some 113, .move (.tmp 10), none⟩,
    ⟨some 114, .move (.tmp 1), none⟩,
    ⟨some 115, .move (.tmp 13), none⟩,
    ⟨some 116, .indexAddr 38 (.tmp 114) (.tmp 115), none⟩,
    ⟨some 117, .load 3 (.tmp 116), none⟩,
    ⟨some 118, .binOp .mul 3 (.tmp 113) (.tmp 117) 3, none⟩,
    ⟨some 9, .assign (.tmp 112), none⟩,
    ⟨some 10, .assign (.tmp 118), none⟩]
   [[], [], [], [1, 2], [3], [0, 4], [], [5, 6], [], [], [], [9, 10], [11], [8, 12], [7, 0, 1, 2, 3, 4, 5, 6, 7], [13, 14, 0, 1, 2, 3, 4, 5, 6, 7, 8, 9, 10, 11, 12, 13, 14]]
@[reducible] def q16_18 : SCode := .region [⟨some 120, .move (.tmp 0), none⟩,
    ⟨some 121, .move (.tmp 13), none⟩,
    ⟨some 122, .indexAddr 38 (.tmp 120) (.tmp 121), none⟩,
    ⟨some 123, .load 3 (.tmp 122), none⟩,
    ⟨some 124, .binOp .gtr 3 (.tmp 123) (.const (.int .i64 0)) 3, none⟩,
    ⟨some 119, .assign (.tmp 124), none⟩]
@[reducible] def q16_19 : SCode := .region [⟨some 125, .fieldAddr 26 (.tmp 14) 0, none⟩,
    ⟨some 126, .load 3 (.tmp 125), none⟩,
    ⟨some 127, .binOp .eql 3 (.tmp 126) (.const (.int .i64 0)) 3, none⟩]
@[reducible] def q16_20 : SCode := .region [⟨some 4, .assign (.const (.bool false)), none⟩]
@[reducible] def q16_21 : SCode := .region [⟨some 128, .move (.tmp 11), none⟩,
    ⟨some 129, .move (.tmp 0), none⟩,
    ⟨some 130, .move (.tmp 13), none⟩,
    ⟨some 131, .indexAddr 38 (.tmp 129) (.tmp 130), none⟩,
    ⟨some 132, .load 3 (.tmp 131), none⟩,
    ⟨some 133, .binOp .add 3 (.tmp 128) (.tmp 132) 3, none⟩,
    ⟨some 11, .assign (.tmp 133), none⟩]
@[reducible] def q16_22 : SCode := .region [⟨some 134, .load 26 (.tmp 14), none⟩,
    ⟨none, .store 26 (.tmp 12) (.tmp 134), none⟩]
@[reducible] def q16_15 : SCode := .region [⟨some 97, .load 26 (.tmp 14), none⟩,
    ⟨none, .store 26 (.tmp 12) (.tmp 97), none⟩]
@[reducible] def q16_23 : SCode := .region [⟨some 135, .binOp .add 3 (.tmp 71) (.const (.int .i64 1)) 3, none⟩,
    ⟨some 71, .move (.tmp 135), none⟩]
def l16_0 : SCode := (.seq q16_11 (.seq (.cond (.tmp 72) .skip (.exit 0)) (.seq (.block 1 (.seq q16_12 (.seq (.seq q16_13 (.cond (.tmp 96) (.seq q16_14 .ret) .skip)) (.block 2 (.seq q16_16 (.cond (.tmp 98) q16_17 (.seq q16_18 (.cond (.tmp 119) (.seq (.seq q16_19 (.cond (.tmp 127) (.seq q16_20 .ret) .skip)) (.seq q16_21 q16_22)) q16_15)))))))) q16_23)))
@[reducible] def q16_24 : SCode := .region [⟨some 136, .move (.tmp 5), none⟩,
    ⟨some 137, .call { callee := .value (.func 34), args := #[.tmp 136], argTypes := #[47] }, none⟩,
    ⟨some 15, .assign (.tmp 137), none⟩,
    ⟨some 16, .assign (.const (.int .i64 0)), none⟩]
@[reducible] def q16_25 : SCode := .region [⟨some 138, .move (.tmp 5), none⟩,
    ⟨some 139, .call { callee := .builtin .len, args := #[.tmp 138], argTypes := #[47] }, none⟩,
    ⟨some 140, .move (.const (.int .i64 0)), none⟩]
@[reducible] def q16_26 : SCode := .region [⟨some 141, .binOp .lss 3 (.tmp 140) (.tmp 139) 3, none⟩]
@[reducible] def q16_27 : SCode := .region [⟨some 142, .indexAddr 47 (.tmp 138) (.tmp 140), none⟩,
    ⟨some 143, .load 26 (.tmp 142), none⟩,
    ⟨some 18, .alloc 26, none⟩,
    ⟨none, .store 26 (.tmp 18) (.tmp 143), none⟩]
def q16_28 : SCode := .draw [⟨some 144, .move (.tmp 16), none⟩,
    ⟨some 145, .move (.tmp 15), none⟩,
    ⟨some 146, .fieldAddr 26 (.tmp 18) 1, none⟩,
    ⟨some 147, .load 3 (.tmp 146), none⟩,
    ⟨some 148, .binOp .quo 3 (.tmp 145) (.tmp 147) 3, none⟩,
    ⟨some 149, .fieldAddr 26 (.tmp 18) 0, none⟩,
    ⟨some 150, .load 3 (.tmp 149), none⟩,
    ⟨some 151, .binOp .mul 3 (.tmp 148) (.tmp 150) 3, none⟩,
    ⟨some 152, .binOp .add 3 (.tmp 144) (.tmp 151) 3, none⟩,
    ⟨some 16, .assign (.tmp 152), none⟩]
   [[], [], [], [2], [1, 3], [], [5], [4, 6], [0, 7], [8, 0, 1, 2, 3, 4, 5, 6, 7, 8]]
@[reducible] def q16_29 : SCode := .region [⟨some 153, .binOp .add 3 (.tmp 140) (.const (.int .i64 1)) 3, none⟩,
    ⟨some 140, .move (.tmp 153), none⟩]
def l16_1 : SCode := (.seq q16_26 (.seq (.cond (.tmp 141) .skip (.exit 3)) (.seq (.block 4 (.seq q16_27 q16_28)) q16_29)))
@[reducible] def q16_30 : SCode := .region [⟨some 154, .move (.tmp 11), none⟩,
    ⟨some 155, .binOp .eql 3 (.tmp 154) (.const (.int .i64 0)) 3, none⟩]
@[reducible] def q16_31 : SCode := .region [⟨some 156, .move (.tmp 9), none⟩,
    ⟨some 157, .move (.tmp 10), none⟩,
    ⟨some 158, .binOp .leq 3 (.tmp 156) (.tmp 157) 3, none⟩,
    ⟨some 159, .move (.tmp 158), none⟩,
    ⟨some 160, .move (.tmp 16), some (159, true)⟩,
    ⟨some 161, .move (.tmp 15), some (159, true)⟩,
    ⟨some 162, .binOp .eql 3 (.tmp 160) (.tmp 161) 3, some (159, true)⟩,
    ⟨some 163, .move (.tmp 162), some (159, true)⟩,
    ⟨some 164, .move (.tmp 9), some (163, false)⟩,
    ⟨some 165, .move (.tmp 10), some (163, false)⟩,
    ⟨some 166, .binOp .eql 3 (.tmp 164) (.tmp 165) 3, some (163, false)⟩,
    ⟨some 167, .pick (.tmp 163) (.const (.bool true)) (.tmp 166), some (159, true)⟩,
    ⟨some 168, .pick (.tmp 159) (.tmp 167) (.const (.bool false)), none⟩,
    ⟨some 169, .move (.tmp 168), none⟩,
    ⟨some 170, .call { callee := .value (.func 21), args := #[], argTypes := #[] }, some (169, true)⟩,
    ⟨some 171, .pick (.tmp 169) (.tmp 170) (.const (.bool false)), none⟩,
    ⟨some 4, .assign (.tmp 171), none⟩]
def q16_32 : SCode := .draw [⟨some 172, .move (.tmp 11), none⟩,
    ⟨some 173, .fieldAddr 26 (.tmp 12) 1, none⟩,
    ⟨some 174, .load 3 (.tmp 173), none⟩,
    ⟨some 175, .binOp .mul 3 (.tmp 172) (.tmp 174) 3, none⟩,
    ⟨some 176, .move (.tmp 10), none⟩,
    ⟨some 177, .binOp .mul 3 (.tmp 175) (.tmp 176) 3, none⟩,
    ⟨some 178, .fieldAddr 26 (.tmp 12) 0, none⟩,
    ⟨some 179, .load 3 (.tmp 178), none⟩,
    ⟨some 180, .binOp .mul 3 (.const (.int .i64 12)) (.tmp 179) 3, none⟩,
    ⟨some 181, .move (.tmp 10), none⟩,
    ⟨some 182, .move (.tmp 9), none⟩,
    ⟨some 183, .binOp .sub 3 (.tmp 181) (.tmp 182) 3, none⟩,
    ⟨some 184, .binOp .mul 3 (.tmp 180) (.tmp 183) 3, none⟩,
    ⟨some 19, .assign (.tmp 177), none⟩,
    ⟨some 20, .assign (.tmp 184), none⟩]
   [[], [], [1], [0, 2], [], [3, 4], [], [6], [7], [], [], [9, 10], [8, 11], [5, 0, 1, 2, 3, 4, 5], [12, 13, 0, 1, 2, 3, 4, 5, 6, 7, 8, 9, 10, 11, 12, 13]]
@[reducible] def q16_33 : SCode := .region [⟨some 185, .move (.tmp 19), none⟩,
    ⟨some 186, .move (.tmp 20), none⟩,
    ⟨some 187, .binOp .leq 3 (.tmp 185) (.tmp 186) 3, none⟩,
    ⟨some 188, .move (.tmp 187), none⟩,
    ⟨some 189, .move (.tmp 16), some (188, true)⟩,
    ⟨some 190, .move (.tmp 15), some (188, true)⟩,
    ⟨some 191, .binOp .eql 3 (.tmp 189) (.tmp 190) 3, some (188, true)⟩,
    ⟨some 192, .move (.tmp 191), some (188, true)⟩,
    ⟨some 193, .move (.tmp 19), some (192, false)⟩,
    ⟨some 194, .move (.tmp 20), some (192, false)⟩,
    ⟨some 195, .binOp .eql 3 (.tmp 193) (.tmp 194) 3, some (192, false)⟩,
    ⟨some 196, .pick (.tmp 192) (.const (.bool true)) (.tmp 195), some (188, true)⟩,
    ⟨some 197, .pick (.tmp 188) (.tmp 196) (.const (.bool false)), none⟩,
    ⟨some 198, .move (.tmp 197), none⟩,
    ⟨some 199, .call { callee := .value (.func 21), args := #[], argTypes := #[] }, some (198, true)⟩,
    ⟨some 200, .pick (.tmp 198) (.tmp 199) (.const (.bool false)), none⟩,
    ⟨some 4, .assign (.tmp 200), none⟩]
def s16 : SCode := (.seq q16_0 (.seq q16_1 (.seq (.seq q16_2 (.cond (.tmp 36) (.seq q16_3 .ret) .skip)) (.seq q16_4 (.seq (.seq q16_5 (.cond (.tmp 67) (.seq q16_6 .ret) .skip)) (.seq q16_7 (.seq q16_8 (.seq q16_9 (.seq (.seq q16_10 (.block 0 (.loop l16_0))) (.seq q16_24 (.seq (.seq q16_25 (.block 3 (.loop l16_1))) (.seq (.seq q16_30 (.cond (.tmp 155) (.seq q16_31 .ret) .skip)) (.seq q16_32 (.seq q16_33 .ret))))))))))))))
theorem s16_strip : Zw (Zu Try.f16) = s16 := by kernel_rfl
theorem s16_ok : Yi 201 (Zu Try.f16) = true := by kernel_rfl
end Go.Proofs.Try.Am

namespace Go.Proofs.Try.Am
open Go.Am
set_option maxRecDepth 100000
set_option maxHeartbeats 4000000

def pSum (xs : List Int) : Nat → Int
  | 0 => 0
  | k + 1 => pSum xs k + xs.getD k 0
structure RaceP (xs ys : List Int) : Prop where
  len : 2 ≤ xs.length ∧ xs.length ≤ 5
  eq : ys.length = xs.length
  a : ∀ i, i < xs.length → 0 ≤ xs.getD i 0 ∧ xs.getD i 0 ≤ 12
  b : ∀ i, i < ys.length → 1 ≤ ys.getD i 0 ∧ ys.getD i 0 ≤ 12
  sum : pSum xs xs.length = 12
open Classical in
noncomputable def raceB (xs ys : List Int) : Bool := decide (RaceP xs ys)
open Classical in
theorem raceB_no {xs ys : List Int} (h : ¬ RaceP xs ys) : raceB xs ys = false := by rw [raceB, decide_eq_false_iff_not]; exact h
open Classical in
theorem raceB_yes {xs ys : List Int} (h : RaceP xs ys) : raceB xs ys = true := by rw [raceB, decide_eq_true_eq]; exact h
open Classical in
theorem race_of {xs ys : List Int} (h : raceB xs ys = true) : RaceP xs ys := by rwa [raceB, decide_eq_true_eq] at h
theorem pSum_le {xs : List Int} {n : Nat} (h : ∀ i, i < n → 0 ≤ xs.getD i 0 ∧ xs.getD i 0 ≤ 12) : ∀ k, k ≤ n → 0 ≤ pSum xs k ∧ pSum xs k ≤ 12 * k
  | 0, _ => ⟨Int.le_refl _, Int.le_refl _⟩
  | k + 1, hk => by
    have ih := pSum_le h k (by omega)
    have := h k (by omega)
    rw [pSum]; omega

theorem s47_callW [Tabs Try.prog] {args : List Value} {h : Zh} {Q : Value → Zh → Prop} (hsz : args.length ≤ 56) (hk : AWS Try.prog 56 s47 (Zr Try.prog [.tmp 4] Q) (Zt 0 args) h) : ACall Try.prog 47 args h Q :=
  Ym Try.func47 rfl (enters_of Try.func47 (by kernel_rfl) rfl) rfl rfl (by decide) s47_strip s47_ok hsz hk
theorem rrace_call [Tabs prog] {h : Zh} {u v : Value} {xs ys : List Int} (hu : IntSl h u xs) (hv : IntSl h v ys) (hlx : xs.length < 9223372036854775808) (hly : ys.length < 9223372036854775808) : Yv prog 47 [u, v] h (.bool (raceB xs ys)) := by
  refine s47_callW (by simp) ?_
  simp only [s47]
  refine Ze fun N1 hN1 => ?_
  simp (maxSteps := 2000000) only [↓Za, ↓Zb, ↓Zc, vup, cond_false, aop, Zg, Zt, ev, sput, Zf, Nat.reduceBEq, Nat.reduceAdd]
  refine hN1 [(0, u), (1, v), (4, .bool false)] _ _ ?_ (by simp (maxSteps := 2000000) only [vup, cond_true, cond_false, Nat.reduceBEq])
  clear hN1
  try clear N1
  refine Zk fun M hM => ?_
  refine Ze fun N2 hN2 => ?_
  have bad : ¬ RaceP xs ys → ∀ e, ELe e [(0, u), (1, v), (4, .bool false), (22, .bool true)] → N2 e h := by
    intro hn e he
    refine hN2 _ _ _ ?_ he
    refine Wf rfl ?_
    refine Zj ?_
    simp (maxSteps := 2000000) only [↓Za, ↓Zs, ↓Zx, ↓Zb, ↓Zc, vup, cond_true, cond_false, aop, Zg, ev, sput, Zf, Nat.reduceBEq, Zr, Xo, tup, raceB_no hn]
  by_cases h2 : (xs.length : Int) < 2
  · simp (maxSteps := 2000000) only [↓Za, ↓Zb, ↓Zc, ↓vdn, vup, List.map_cons, List.map_nil, cond_true, cond_false, aop, Zg, ev, sput, Zf, Zz, Ya, Zi, Nat.reduceBEq, tyf, hu.len, h2]
    exact bad (fun r => by have := r.len; omega) _ (by simp (maxSteps := 2000000) only [vup, cond_true, cond_false, Nat.reduceBEq])
  by_cases h5 : (xs.length : Int) > 5
  · simp (maxSteps := 2000000) only [↓Za, ↓Zb, ↓Zc, ↓vdn, vup, List.map_cons, List.map_nil, cond_true, cond_false, aop, Zg, ev, sput, Zf, Zz, Ya, Zi, Nat.reduceBEq, tyf, hu.len, h2, h5]
    exact bad (fun r => by have := r.len; omega) _ (by simp (maxSteps := 2000000) only [vup, cond_true, cond_false, Nat.reduceBEq])
  by_cases hl : ys.length = xs.length
  case neg =>
    have hne : (((ys.length : Nat) : Int) != ((xs.length : Nat) : Int)) = true := by
      have : ¬ ((ys.length : Nat) : Int) = ((xs.length : Nat) : Int) := by omega
      simpa [bne] using this
    simp (maxSteps := 2000000) only [↓Za, ↓Zb, ↓Zc, ↓vdn, vup, List.map_cons, List.map_nil, cond_true, cond_false, aop, Zg, ev, sput, Zf, Zz, Ya, Zi, Nat.reduceBEq, tyf, hu.len, hv.len, h2, h5, hne]
    exact bad (fun r => hl r.eq) _ (by simp (maxSteps := 2000000) only [vup, cond_true, cond_false, Nat.reduceBEq])
  have hne : (((ys.length : Nat) : Int) != ((xs.length : Nat) : Int)) = false := by rw [hl]; simp
  simp (maxSteps := 2000000) only [↓Za, ↓Zb, ↓Zc, ↓vdn, vup, List.map_cons, List.map_nil, cond_true, cond_false, aop, Zg, ev, sput, Zf, Zz, Ya, Zi, Nat.reduceBEq, tyf, hu.len, hv.len, h2, h5, hne]
  clear bad
  refine hN2 [(0, u), (1, v), (4, .bool false), (22, .bool false)] _ _ ?_ (by simp (maxSteps := 2000000) only [vup, cond_true, cond_false, Nat.reduceBEq])
  clear hN2
  try clear N2
  refine Xa rfl ?_
  refine Zj ?_
  simp (maxSteps := 2000000) only [↓Zo, Zg]
  refine hM [(0, u), (1, v), (4, .bool false)] _ _ ?_ (by simp (maxSteps := 2000000) only [vup, cond_true, cond_false, Nat.reduceBEq])
  clear hM
  try clear M
  refine Ze fun N3 hN3 => ?_
  simp (maxSteps := 2000000) only [↓Za, ↓Zb, ↓Zc, vup, cond_false, aop, Zg, ev, sput, Zf, Nat.reduceBEq]
  refine hN3 [(0, u), (1, v), (4, .bool false), (5, .int .i64 0)] _ _ ?_ (by simp (maxSteps := 2000000) only [vup, cond_true, cond_false, Nat.reduceBEq])
  clear hN3
  try clear N3
  refine Zk fun Z hZ => ?_
  refine Ze fun N4 hN4 => ?_
  simp (maxSteps := 2000000) only [↓Za, ↓Zb, ↓Zc, vup, List.map_cons, List.map_nil, cond_true, cond_false, aop, Zg, ev, sput, Zf, Zi, Nat.reduceBEq, tyf, hu.len]
  refine hN4 [(0, u), (1, v), (4, .bool false), (5, .int .i64 0), (23, u), (24, Zd xs.length), (25, .int .i64 0)] _ _ ?_ (by simp (maxSteps := 2000000) only [vup, cond_true, cond_false, Nat.reduceBEq])
  clear hN4
  try clear N4
  refine Zl ?_
  refine Zm fun Q hQ => ?_
  refine Yh (γ := Nat) (fun k => k ≤ xs.length ∧ ∀ i, i < k → (0 ≤ xs.getD i 0 ∧ xs.getD i 0 ≤ 12) ∧ (1 ≤ ys.getD i 0 ∧ ys.getD i 0 ≤ 12))
    (fun k => ([(0, u), (1, v), (4, .bool false), (5, Zd (pSum xs k)), (23, u), (24, Zd xs.length), (25, Zd (k : Nat))], h)) (fun k => xs.length - k) 0 ⟨Nat.zero_le _, fun i hi => by omega⟩ (by simp (maxSteps := 2000000) only [vup, cond_true, cond_false, Nat.reduceBEq, Int.natCast_zero, pSum]) rfl ?_
  rintro k ⟨hk, hok⟩
  refine Zm fun Q2 hQ2 => ?_
  simp only [l47_0]
  by_cases hin : (k : Int) < xs.length
  · have hk' : k < xs.length := by omega
    have hky : k < ys.length := by omega
    obtain ⟨x, hx⟩ : ∃ x, xs.getD k 0 = x := ⟨_, rfl⟩
    obtain ⟨y, hy⟩ : ∃ y, ys.getD k 0 = y := ⟨_, rfl⟩
    refine Ze fun N5 hN5 => ?_
    simp (maxSteps := 2000000) only [↓Za, ↓Zb, ↓Zc, vup, cond_true, cond_false, aop, Zg, ev, sput, Zf, Zz, Ya, Nat.reduceBEq, hin]
    refine hN5 [(0, u), (1, v), (4, .bool false), (5, Zd (pSum xs k)), (23, u), (24, Zd xs.length), (25, Zd (k : Nat)), (26, .bool true)] _ _ ?_ (by simp (maxSteps := 2000000) only [vup, cond_true, cond_false, Nat.reduceBEq])
    clear hN5
    try clear N5
    refine Ze fun N6 hN6 => ?_
    simp (maxSteps := 2000000) only [↓Zo, ↓vdn, vup, cond_true, cond_false, Zg, ev, Nat.reduceBEq]
    refine hN6 [(0, u), (1, v), (4, .bool false), (5, Zd (pSum xs k)), (23, u), (24, Zd xs.length), (25, Zd (k : Nat))] _ _ ?_ (by simp (maxSteps := 2000000) only [vup, cond_true, cond_false, Nat.reduceBEq])
    clear hN6
    try clear N6
    refine Zk fun B hB => ?_
    refine Zl ?_
    refine Ze fun N7 hN7 => ?_
    simp (maxSteps := 2000000) only [↓Za, ↓Zb, ↓Zc, vup, cond_true, cond_false, aop, Zg, ev, sput, Zf, Nat.reduceBEq, hu.idx Wb Xt hk', hu.load Xl hk', hx]
    refine hN7 [(0, u), (1, v), (4, .bool false), (5, Zd (pSum xs k)), (6, Zd (k : Nat)), (7, Zd x), (23, u), (24, Zd xs.length), (25, Zd (k : Nat))] _ _ ?_ (by simp (maxSteps := 2000000) only [vup, cond_true, cond_false, Nat.reduceBEq])
    clear hN7
    try clear N7
    refine Zk fun C hC => ?_
    refine Ze fun N8 hN8 => ?_
    have bad : ¬ RaceP xs ys → ∀ e, ELe e [(0, u), (1, v), (4, .bool false), (5, Zd (pSum xs k)), (6, Zd (k : Nat)), (7, Zd x), (23, u), (24, Zd xs.length), (25, Zd (k : Nat)), (49, .bool true)] → N8 e h := by
      intro hn e he
      refine hN8 _ _ _ ?_ he
      refine Wf rfl ?_
      refine Zj ?_
      simp (maxSteps := 2000000) only [↓Za, ↓Zs, ↓Zx, ↓Zb, ↓Zc, vup, cond_true, cond_false, aop, Zg, Zn, ev, sput, Zf, Nat.reduceBEq]
      refine hQ2 _ _ _ (hQ _ _ _ ?_)
      simp (maxSteps := 2000000) only [vup, cond_true, cond_false, Zg, Zn, Nat.reduceBEq, Zr, Xo, tup, raceB_no hn]
    by_cases x1 : x < 0
    · simp (maxSteps := 2000000) only [↓Za, ↓Zb, ↓Zc, ↓vdn, vup, cond_true, cond_false, aop, Zg, ev, sput, Zf, Zz, Ya, Nat.reduceBEq, x1]
      exact bad (fun r => by have := r.a k hk'; omega) _ (by simp (maxSteps := 2000000) only [vup, cond_true, cond_false, Nat.reduceBEq])
    by_cases x2 : x > 12
    · simp (maxSteps := 2000000) only [↓Za, ↓Zb, ↓Zc, ↓vdn, vup, cond_true, cond_false, aop, Zg, ev, sput, Zf, Zz, Ya, Nat.reduceBEq, x1, x2]
      exact bad (fun r => by have := r.a k hk'; omega) _ (by simp (maxSteps := 2000000) only [vup, cond_true, cond_false, Nat.reduceBEq])
    by_cases y1 : y < 1
    · simp (maxSteps := 2000000) only [↓Za, ↓Zb, ↓Zc, ↓vdn, vup, cond_true, cond_false, aop, Zg, ev, sput, Zf, Zz, Ya, Nat.reduceBEq, tyf, x1, x2, hv.idx Wb Xt hky, hv.load Xl hky, hy, y1]
      exact bad (fun r => by have := r.b k hky; omega) _ (by simp (maxSteps := 2000000) only [vup, cond_true, cond_false, Nat.reduceBEq])
    by_cases y2 : y > 12
    · simp (maxSteps := 2000000) only [↓Za, ↓Zb, ↓Zc, ↓vdn, vup, cond_true, cond_false, aop, Zg, ev, sput, Zf, Zz, Ya, Nat.reduceBEq, tyf, x1, x2, hv.idx Wb Xt hky, hv.load Xl hky, hy, y1, y2]
      exact bad (fun r => by have := r.b k hky; omega) _ (by simp (maxSteps := 2000000) only [vup, cond_true, cond_false, Nat.reduceBEq])
    simp (maxSteps := 2000000) only [↓Za, ↓Zb, ↓Zc, ↓vdn, vup, cond_true, cond_false, aop, Zg, ev, sput, Zf, Zz, Ya, Nat.reduceBEq, tyf, x1, x2, hv.idx Wb Xt hky, hv.load Xl hky, hy, y1, y2]
    clear bad
    refine hN8 [(0, u), (1, v), (4, .bool false), (5, Zd (pSum xs k)), (6, Zd (k : Nat)), (7, Zd x), (23, u), (24, Zd xs.length), (25, Zd (k : Nat)), (49, .bool false)] _ _ ?_ (by simp (maxSteps := 2000000) only [vup, cond_true, cond_false, Nat.reduceBEq])
    clear hN8
    try clear N8
    refine Xa rfl ?_
    refine Zj ?_
    simp (maxSteps := 2000000) only [↓Zo, Zg]
    refine hC [(0, u), (1, v), (4, .bool false), (5, Zd (pSum xs k)), (6, Zd (k : Nat)), (7, Zd x), (23, u), (24, Zd xs.length), (25, Zd (k : Nat))] _ _ ?_ (by simp (maxSteps := 2000000) only [vup, cond_true, cond_false, Nat.reduceBEq])
    clear hC
    try clear C
    have hs := pSum_le (xs := xs) (n := k) (fun i hi => (hok i hi).1) k (Nat.le_refl _)
    have ha : addV .i64 (pSum xs k) x = pSum xs (k + 1) := by rw [pSum, hx]; exact addV_id (by omega) (by omega)
    refine Zj ?_
    simp (maxSteps := 2000000) only [↓Za, ↓Zb, ↓Zc, vup, cond_true, cond_false, aop, Zg, Zn, ev, sput, Zf, Zz, Ya, Nat.reduceBEq, ha]
    refine hB [(0, u), (1, v), (4, .bool false), (5, Zd (pSum xs (k + 1))), (23, u), (24, Zd xs.length), (25, Zd (k : Nat))] _ _ ?_ (by simp (maxSteps := 2000000) only [vup, cond_true, cond_false, Nat.reduceBEq])
    clear hB
    try clear B
    refine Zj ?_
    simp (maxSteps := 2000000) only [↓Za, ↓Zb, ↓Zc, vup, cond_true, cond_false, aop, ev, sput, Zf, Zz, Ya, Nat.reduceBEq, add1 (show k < 9223372036854775807 by omega)]
    refine hQ2 _ _ _ ⟨k + 1, ⟨hk', fun i hi => ?_⟩, by omega, by simp (maxSteps := 2000000) only [vup, cond_true, cond_false, Nat.reduceBEq], rfl⟩
    by_cases hik : i = k
    · subst hik; rw [hx, hy]; omega
    · exact hok i (by omega)
  · obtain rfl : k = xs.length := by omega
    refine Ze fun N9 hN9 => ?_
    simp (maxSteps := 2000000) only [↓Za, ↓Zb, ↓Zc, vup, cond_true, cond_false, aop, Zg, ev, sput, Zf, Zz, Ya, Nat.reduceBEq, hin]
    refine hN9 [(0, u), (1, v), (4, .bool false), (5, Zd (pSum xs xs.length)), (23, u), (24, Zd xs.length), (25, Zd xs.length), (26, .bool false)] _ _ ?_ (by simp (maxSteps := 2000000) only [vup, cond_true, cond_false, Nat.reduceBEq])
    clear hN9
    try clear N9
    refine Ze fun N10 hN10 => ?_
    simp (maxSteps := 2000000) only [↓Yn, ↓vdn, vup, cond_true, cond_false, Zg, ev, Nat.reduceBEq]
    refine hQ2 _ _ _ (hQ _ _ _ ?_)
    simp (maxSteps := 2000000) only [Zg, Zn, Zr, if_true]
    refine hZ [(0, u), (1, v), (4, .bool false), (5, Zd (pSum xs xs.length)), (26, .bool false)] _ _ ?_ (by simp (maxSteps := 2000000) only [vup, cond_true, cond_false, Nat.reduceBEq])
    clear hZ
    try clear Z
    have hs : (pSum xs xs.length == 12) = raceB xs ys := by
      by_cases h12 : pSum xs xs.length = 12
      · rw [raceB_yes ⟨by omega, hl, fun i hi => (hok i hi).1, fun i hi => (hok i (by omega)).2, h12⟩, h12]; rfl
      · rw [raceB_no fun r => h12 r.sum]; simpa using h12
    refine Zj ?_
    simp (maxSteps := 2000000) only [↓Za, ↓Zs, ↓Zx, ↓Zb, ↓Zc, vup, cond_true, cond_false, aop, Zg, ev, sput, Zf, Zz, Ya, Nat.reduceBEq, Zr, Xo, tup, hs]
end Go.Proofs.Try.Am

namespace Bq
/-- The common multiple, what two have in common, the product. -/
def lcmL (l : List Nat) : Nat := l.foldl Nat.lcm 1
theorem foldl_lcm_dvd {l : List Nat} {m : Nat} : m ∣ l.foldl Nat.lcm m := by
  induction l generalizing m with
  | nil => exact Nat.dvd_refl _
  | cons d l ih => exact Nat.dvd_trans (Nat.dvd_lcm_left m d) ih
theorem foldl_lcm_mem {l : List Nat} {m d : Nat} (h : d ∈ l) : d ∣ l.foldl Nat.lcm m := by
  induction l generalizing m with
  | nil => cases h
  | cons e l ih =>
    rcases List.mem_cons.1 h with rfl | h
    · exact Nat.dvd_trans (Nat.dvd_lcm_right m d) foldl_lcm_dvd
    · exact ih h
end Bq

namespace Bq

/-- A valid fraction from 0 on, as it stands. -/
def okP (p : Int × Int) : Bool := decide (1 ≤ p.2) && decide (p.2 ≤ 10000000000) && decide (0 ≤ p.1) && (Nat.gcd p.1.natAbs p.2.natAbs == 1)
def mulTo : List (Int × Int) → Nat → Nat
  | [], m => m
  | p :: ps, m => if okP p = true ∧ Nat.lcm m p.2.natAbs ≤ 10000000000 then mulTo ps (Nat.lcm m p.2.natAbs) else 0
/-- The common multiple; 0: there is none. -/
def Xd (ps : List (Int × Int)) : Nat := mulTo ps 1
/-- A fraction as it stands, as a number; a number as it stands. -/
def toQ (p : Int × Int) : Rat := Rat.divInt p.1 p.2
def ofQ (q : Rat) : Int × Int := (q.num, (q.den : Int))

theorem ofQ_toQ {p : Int × Int} (h1 : 1 ≤ p.2) (h2 : Nat.gcd p.1.natAbs p.2.natAbs = 1) : ofQ (toQ p) = p := by
  obtain ⟨x, y⟩ := p
  simp only at h1 h2
  obtain ⟨n, rfl⟩ : ∃ n : Nat, y = n := ⟨y.toNat, by omega⟩
  have hn : n ≠ 0 := by omega
  have e : toQ (x, (n : Int)) = ⟨x, n, hn, by simpa using h2⟩ := by
    rw [toQ, Rat.divInt_ofNat]
    exact (Rat.mk_eq_mkRat x n hn _).symm
  rw [e]; rfl
theorem okP_ofQ {p : Int × Int} (h : okP p = true) : ofQ (toQ p) = p := by
  simp only [okP, Bool.and_eq_true, decide_eq_true_eq, beq_iff_eq] at h
  exact ofQ_toQ h.1.1.1 h.2
theorem mulTo_spec : ∀ (ps : List (Int × Int)) (m : Nat), mulTo ps m ≠ 0 → m ≤ 10000000000 → (∀ p ∈ ps, okP p = true) ∧ mulTo ps m = (ps.map fun p => p.2.natAbs).foldl Nat.lcm m ∧ mulTo ps m ≤ 10000000000
  | [], m, h, hm => ⟨(fun _ h => by cases h), rfl, hm⟩
  | p :: ps, m, h, hm => by
    rw [mulTo] at h ⊢
    split at h
    · rename_i hc
      rw [if_pos hc]
      obtain ⟨h1, h2, h3⟩ := mulTo_spec ps _ h hc.2
      refine ⟨fun q hq => ?_, h2, h3⟩
      rcases List.mem_cons.1 hq with rfl | hq
      · exact hc.1
      · exact h1 q hq
    · exact absurd rfl h
theorem mult_spec {ps : List (Int × Int)} (h : Xd ps ≠ 0) : (∀ p ∈ ps, okP p = true) ∧ Xd ps = lcmL (ps.map fun p => p.2.natAbs) ∧ Xd ps ≤ 10000000000 := mulTo_spec ps 1 h (by decide)
theorem mult_dvd {ps : List (Int × Int)} (h : Xd ps ≠ 0) {p : Int × Int} (hp : p ∈ ps) : (toQ p).den ∣ Xd ps := by
  obtain ⟨h1, h2, h3⟩ := mult_spec h
  have e := okP_ofQ (h1 p hp)
  have e2 : (toQ p).den = p.2.natAbs := by
    have := congrArg Prod.snd e
    simp only [ofQ] at this
    rw [← this]; rfl
  rw [h2, e2]
  exact foldl_lcm_mem (List.mem_map.2 ⟨p, hp, rfl⟩)
theorem okP_pos {p : Int × Int} (h : okP p = true) : 0 ≤ toQ p := by
  simp only [okP, Bool.and_eq_true, decide_eq_true_eq] at h
  exact Rat.divInt_nonneg h.1.2 (by omega)
theorem okP_le {p : Int × Int} (h : okP p = true) : toQ p ≤ 1 ↔ p.1 ≤ p.2 := by
  have hp := okP_ofQ h
  have h1 : (toQ p).num = p.1 := congrArg Prod.fst hp
  have h2 : ((toQ p).den : Int) = p.2 := congrArg Prod.snd hp
  rw [Rat.le_iff, h1, h2]
  simp

/-- The sum of the first ones. -/
def Yd (g : Nat → Rat) : Nat → Rat
  | 0 => 0
  | k + 1 => Yd g k + g k
section
variable {g f : Nat → Rat}
theorem Vl {n : Nat} (h : ∀ i, i < n → 0 ≤ g i) : 0 ≤ Yd g n := by
  induction n with
  | zero => exact Rat.le_refl
  | succ n ih => exact Rat.add_nonneg (ih fun i hi => h i (by omega)) (h n (by omega))
theorem sumTo_mono {k n : Nat} (hk : k ≤ n) (h : ∀ i, i < n → 0 ≤ g i) : Yd g k ≤ Yd g n := by
  induction n with
  | zero => rw [Nat.le_zero.1 hk]; exact Rat.le_refl
  | succ n ih =>
    rcases Nat.lt_or_ge n k with h1 | h1
    · rw [show k = n + 1 by omega]; exact Rat.le_refl
    · have h2 := ih h1 fun i hi => h i (by omega)
      have h3 := h n (by omega)
      rw [Yd]; grind
theorem sumTo_one {k n : Nat} (hk : k < n) (h : ∀ i, i < n → 0 ≤ g i) : g k ≤ Yd g n := by
  have h1 := sumTo_mono (show k + 1 ≤ n by omega) h
  have h2 := Vl (n := k) fun i hi => h i (by omega)
  rw [Yd] at h1; grind
theorem sumTo_congr {n : Nat} (h : ∀ i, i < n → f i = g i) : Yd f n = Yd g n := by
  induction n with
  | zero => rfl
  | succ n ih => rw [Yd, Yd, ih fun i hi => h i (by omega), h n (by omega)]
theorem sumTo_add (f g : Nat → Rat) (n : Nat) : Yd (fun i => f i + g i) n = Yd f n + Yd g n := by
  induction n with
  | zero => exact (Rat.zero_add _).symm
  | succ n ih => simp only [Yd, ih]; grind
theorem sumTo_mul (c : Rat) (g : Nat → Rat) (n : Nat) : Yd (fun i => c * g i) n = c * Yd g n := by
  induction n with
  | zero => exact (Rat.mul_zero _).symm
  | succ n ih => simp only [Yd, ih]; grind
theorem sumTo_den {N : Nat} {n : Nat} (hN : 0 < N) (h : ∀ i, i < n → (g i).den ∣ N) : (Yd g n).den ∣ N := by
  induction n with
  | zero => exact Nat.one_dvd _
  | succ n ih =>
    have h1 := ih fun i hi => h i (by omega)
    have h2 := h n (by omega)
    rw [Yd]
    have e := Rp.up' (Rp.own (Yd g n)) h1 hN
    have e2 := Rp.up' (Rp.own (g n)) h2 hN
    have := e.plus e2 1
    have h3 := this.dvd
    have e3 : Yd g n + ((1 : Int) : Rat) * g n = Yd g n + g n := by
      rw [show (((1 : Int)) : Rat) = 1 from rfl, Rat.one_mul]
    rwa [e3] at h3
end
theorem rp_of {N : Nat} {q : Rat} (hN : 0 < N) (h : q.den ∣ N) : ∃ x, Rp N x q := ⟨_, Rp.up' (Rp.own q) h hN⟩
/-- Parts of what is bounded. -/
theorem Rp.bound {N C : Nat} {x : Int} {q : Rat} (h : Rp N x q) (h1 : -(C : Rat) ≤ q) (h2 : q ≤ C) : x.natAbs ≤ C * N := by
  have hN : (0 : Rat) ≤ N := Rat.natCast_nonneg
  have e := h.2
  have u1 := Rat.mul_le_mul_of_nonneg_right h2 hN
  have u2 := Rat.mul_le_mul_of_nonneg_right h1 hN
  rw [e] at u1 u2
  have v1 : x ≤ ((C * N : Nat) : Int) := by
    rw [← Rat.intCast_le_intCast]; push_cast; exact u1
  have v2 : -((C * N : Nat) : Int) ≤ x := by
    rw [← Rat.intCast_le_intCast]; push_cast
    rw [Rat.neg_mul] at u2; exact u2
  omega

end Bq

namespace Bq

theorem toQ_ofQ (q : Rat) : toQ (ofQ q) = q := Rat.num_divInt_den q
/-- Lists of fractions in least terms. -/
def Vld (ps : List (Int × Int)) : Prop := ∀ p ∈ ps, ofQ (toQ p) = p
/-- The w-th one as a number. -/
def fq (ps : List (Int × Int)) (w : Nat) : Rat := toQ (ps.getD w (0, 0))
theorem Xv {ps : List (Int × Int)} {k : Nat} (hk : k < ps.length) : ps.getD k (0, 0) ∈ ps := by
  rw [List.getD, List.getElem?_eq_getElem hk]; exact List.getElem_mem hk
/-- A chance with a divisor up to m. -/
def chB (m : Int) (p : Int × Int) : Bool := (decide (1 ≤ p.2) && (decide (p.2 ≤ m) && (Nat.gcd p.1.natAbs p.2.natAbs == 1))) && (decide (0 ≤ p.1) && decide (p.1 ≤ p.2))
theorem chB_okP (p : Int × Int) : chB 10000000000 p = (okP p && decide (p.1 ≤ p.2)) := by
  rw [chB, okP, Bool.eq_iff_iff]
  simp only [Bool.and_eq_true, decide_eq_true_eq, beq_iff_eq]
  constructor
  · rintro ⟨⟨h1, h2, h3⟩, h4, h5⟩; exact ⟨⟨⟨⟨h1, h2⟩, h4⟩, h3⟩, h5⟩
  · rintro ⟨⟨⟨⟨h1, h2⟩, h4⟩, h3⟩, h5⟩; exact ⟨⟨h1, h2, h3⟩, h4, h5⟩
/-- Valid chances. -/
structure Chn (ps : List (Int × Int)) : Prop where
  m : Xd ps ≠ 0
  le : ∀ p ∈ ps, p.1 ≤ p.2
theorem Chn.ok {ps : List (Int × Int)} (c : Chn ps) {p : Int × Int} (hp : p ∈ ps) : okP p = true := (mult_spec c.m).1 p hp
theorem Chn.vld {ps : List (Int × Int)} (c : Chn ps) : Vld ps := fun p hp => okP_ofQ (c.ok hp)
/-- A fraction's parts. -/
theorem Chn.rp {ps : List (Int × Int)} (c : Chn ps) {p : Int × Int} (hp : p ∈ ps) : Rp (Xd ps) ((Xd ps : Int) / p.2 * p.1) (toQ p) ∧ 0 ≤ (Xd ps : Int) / p.2 * p.1 ∧ (Xd ps : Int) / p.2 * p.1 ≤ Xd ps ∧ 1 ≤ p.2 ∧ 0 ≤ p.1 ∧ (p.2 ∣ (Xd ps : Int)) := by
  have hok := c.ok hp
  have hd := mult_dvd c.m hp
  have e := okP_ofQ hok
  have e1 : (toQ p).num = p.1 := congrArg Prod.fst e
  have e2 : ((toQ p).den : Int) = p.2 := congrArg Prod.snd e
  have hle := c.le p hp
  simp only [okP, Bool.and_eq_true, decide_eq_true_eq] at hok
  have r := Rp.up' (Rp.own (toQ p)) hd (Nat.pos_of_ne_zero c.m)
  have e3 : (Xd ps : Int) / p.2 * p.1 = (toQ p).num * ((Xd ps / (toQ p).den : Nat) : Int) := by
    rw [e1, Int.natCast_ediv, e2, Int.mul_comm]
  rw [e3]
  have hn : 0 ≤ (toQ p).num * ((Xd ps / (toQ p).den : Nat) : Int) := Int.mul_nonneg (by omega) (Int.natCast_nonneg _)
  refine ⟨r, hn, ?_, by omega, by omega, ?_⟩
  · have hb := r.bound (C := 1) (by have := okP_pos (c.ok hp); have h2 : (0 : Rat) ≤ ((1 : Nat) : Rat) := Rat.natCast_nonneg; have : -((1 : Nat) : Rat) ≤ 0 := by decide
                                    exact Rat.le_trans this ‹0 ≤ toQ p›) ((okP_le (c.ok hp)).2 hle)
    omega
  · rw [← e2]; exact Int.natCast_dvd_natCast.2 hd
theorem Chn.unit {ps : List (Int × Int)} (c : Chn ps) {k : Nat} (hk : k < ps.length) : 0 ≤ fq ps k ∧ fq ps k ≤ 1 ∧ (fq ps k).den ∣ Xd ps :=
  ⟨okP_pos (c.ok (Xv hk)), (okP_le (c.ok (Xv hk))).2 (c.le _ (Xv hk)), mult_dvd c.m (Xv hk)⟩

structure Fc (ps : List (Int × Int)) : Prop where
  len : 2 ≤ ps.length ∧ ps.length ≤ 5
  c : Chn ps
  den : ∀ p ∈ ps, p.2 ≤ 60
  sum : Yd (fq ps) ps.length = 1
  small : Xd ps ≤ 27885
theorem Fc.unit {ps : List (Int × Int)} (c : Fc ps) {k : Nat} (hk : k < ps.length) : 0 ≤ fq ps k ∧ fq ps k ≤ 1 := ⟨(c.c.unit hk).1, (c.c.unit hk).2.1⟩
theorem add_den_dvd {a b : Rat} {N : Nat} (k : Int) (hN : 0 < N) (ha : a.den ∣ N) (hb : b.den ∣ N) : (a + k * b).den ∣ N := by
  obtain ⟨x, hx⟩ := rp_of hN ha
  obtain ⟨y, hy⟩ := rp_of hN hb
  exact (hx.plus hy k).dvd
end Bq

namespace Go.Proofs.Try.Am
open Go.Am Bq
set_option maxRecDepth 100000

def gVa (xs : List Int) (x : Nat) : Rat := Rat.divInt (xs.getD x 0) 12
def gVb (ys : List Int) (x : Nat) : Rat := Rat.divInt 1 (ys.getD x 0)
def gVv (xs ys : List Int) (x : Nat) : Rat := Rat.divInt (xs.getD x 0 * ys.getD x 0) 12
def gP (xs : List Int) (L : List Nat) (k : Nat) : Rat := 1 - Yd (fun j => gVa xs (L.getD j 0)) k
def gQ (ys : List Int) (L : List Nat) (k : Nat) : Rat := 1 - Yd (fun j => gVb ys (L.getD j 0)) k
def gK (xs ys : List Int) (L : List Nat) (k : Nat) : Rat := gP xs L k / gQ ys L k
def gKey (xs ys : List Int) (x : Nat) : Int := -(xs.getD x 0 * ys.getD x 0) * 16 + x
def gSum (xs : List Int) (L : List Nat) : Nat → Int
  | 0 => 0
  | k + 1 => gSum xs L k + xs.getD (L.getD k 0) 0
theorem gP_rp (xs : List Int) (L : List Nat) : ∀ k, Rp 12 (12 - gSum xs L k) (gP xs L k)
  | 0 => ⟨by decide, by rw [gP, gSum, Yd]; decide +kernel⟩
  | k + 1 => by
    have ih := gP_rp xs L k
    have h1 := Rp.of_frac (N := 12) (by decide) (xs.getD (L.getD k 0) 0)
    have h2 := ih.plus h1 (-1)
    have e : gP xs L k + ((-1 : Int) : Rat) * Rat.divInt (xs.getD (L.getD k 0) 0) ((12 : Nat) : Int) = gP xs L (k + 1) := by
      rw [gP, gP, Yd, show (((-1 : Int)) : Rat) = -1 from rfl, gVa, show (((12 : Nat)) : Int) = 12 from rfl]; grind
    rw [e, show 12 - gSum xs L k + -1 * xs.getD (L.getD k 0) 0 = 12 - gSum xs L (k + 1) by rw [gSum]; omega] at h2
    exact h2
theorem gP_step (xs : List Int) (L : List Nat) (k : Nat) : gP xs L k + ((-1 : Int) : Rat) * gVa xs (L.getD k 0) = gP xs L (k + 1) := by
  rw [gP, gP, Yd, show (((-1 : Int)) : Rat) = -1 from rfl]; grind
theorem gQ_step (ys : List Int) (L : List Nat) (k : Nat) : gQ ys L k + ((-1 : Int) : Rat) * gVb ys (L.getD k 0) = gQ ys L (k + 1) := by
  rw [gQ, gQ, Yd, show (((-1 : Int)) : Rat) = -1 from rfl]; grind

theorem gSum_foldl (xs : List Int) : ∀ (L : List Nat), gSum xs L L.length = L.foldr (fun x s => xs.getD x 0 + s) 0 := by
  have key : ∀ (L : List Nat) (k : Nat), k ≤ L.length → gSum xs L k + (L.drop k).foldr (fun x s => xs.getD x 0 + s) 0 = L.foldr (fun x s => xs.getD x 0 + s) 0 := by
    intro L k
    induction k with
    | zero => intro _; simp [gSum]
    | succ k ih =>
      intro hk
      have h1 := ih (by omega)
      have h2 : L.drop k = L.getD k 0 :: L.drop (k + 1) := by
        rw [List.getD, List.getElem?_eq_getElem (show k < L.length by omega)]; exact List.drop_eq_getElem_cons (by omega)
      rw [h2, List.foldr_cons] at h1
      rw [gSum]; omega
  intro L
  have := key L L.length (Nat.le_refl _)
  rw [List.drop_length] at this
  simpa using this
theorem gSum_perm {xs : List Int} {L M : List Nat} (h : L.Perm M) : gSum xs L L.length = gSum xs M M.length := by
  rw [gSum_foldl, gSum_foldl]
  exact h.foldr_eq' (fun x _ y _ z => by omega) 0
theorem gSum_range (xs : List Int) (n : Nat) : ∀ k, k ≤ n → gSum xs (List.range n) k = pSum xs k
  | 0, _ => rfl
  | k + 1, hk => by
    have e : (List.range n).getD k 0 = k := by rw [List.getD, List.getElem?_range (show k < n by omega)]; rfl
    rw [gSum, pSum, gSum_range xs n k (by omega), e]

section
variable {xs ys : List Int} (r : RaceP xs ys) {L : List Nat} (hp : L.Perm (List.range xs.length))
include r hp
theorem g_lt {k : Nat} (hk : k < xs.length) : L.getD k 0 < xs.length := by
  have hl : L.length = xs.length := by rw [hp.length_eq, List.length_range]
  have hm : L.getD k 0 ∈ L := by rw [List.getD, List.getElem?_eq_getElem (show k < L.length by omega)]; exact List.getElem_mem _
  exact List.mem_range.1 (hp.mem_iff.1 hm)
theorem gSum_le : ∀ k, k ≤ xs.length → 0 ≤ gSum xs L k ∧ gSum xs L k ≤ 12 := by
  have hl : L.length = xs.length := by rw [hp.length_eq, List.length_range]
  have tot : gSum xs L xs.length = 12 := by
    have := gSum_perm (xs := xs) hp
    rw [hl, List.length_range, gSum_range xs xs.length xs.length (Nat.le_refl _), r.sum] at this
    exact this
  have up : ∀ k, k ≤ xs.length → 0 ≤ gSum xs L k := by
    intro k
    induction k with
    | zero => intro _; exact Int.le_refl 0
    | succ k ih =>
      intro hk
      have h1 := ih (by omega)
      have h2 := r.a _ (g_lt r hp (show k < xs.length by omega))
      rw [gSum]; omega
  have down : ∀ d, d ≤ xs.length → gSum xs L (xs.length - d) ≤ 12 := by
    intro d
    induction d with
    | zero => intro _; rw [Nat.sub_zero, tot]; exact Int.le_refl _
    | succ d ih =>
      intro hd
      have h1 := ih (by omega)
      have h2 := r.a _ (g_lt r hp (show xs.length - (d + 1) < xs.length by omega))
      rw [show xs.length - d = xs.length - (d + 1) + 1 by omega, gSum] at h1
      omega
  intro k hk
  refine ⟨up k hk, ?_⟩
  have := down (xs.length - k) (by omega)
  rwa [show xs.length - (xs.length - k) = k by omega] at this
theorem gP_nonneg {k : Nat} (hk : k ≤ xs.length) : 0 ≤ gP xs L k ∧ gP xs L k ≤ 1 := by
  have h := gP_rp xs L k
  obtain ⟨h1, h2⟩ := gSum_le r hp k hk
  have z : Rp 12 0 (0 : Rat) := ⟨by decide, by simp⟩
  have o : Rp 12 12 (1 : Rat) := ⟨by decide, by decide +kernel⟩
  constructor
  · rw [← Rat.not_lt, h.lt z]; omega
  · rw [← Rat.not_lt, o.lt h]; omega
theorem gVb_pos {x : Nat} (hx : x < xs.length) : 0 < gVb ys x ∧ gVb ys x ≤ 1 ∧ (gVb ys x).den ∣ 27720 := by
  have hb := r.b x (by have := r.eq; omega)
  obtain ⟨m, hm⟩ : ∃ m : Nat, ys.getD x 0 = m := ⟨(ys.getD x 0).toNat, by omega⟩
  have h := Rp.of_frac (N := m) (by omega) 1
  rw [gVb, hm]
  have z : Rp m 0 (0 : Rat) := ⟨by omega, by simp⟩
  have o : Rp m (m : Int) (1 : Rat) := ⟨by omega, by rw [Rat.one_mul, Rat.intCast_natCast]⟩
  refine ⟨?_, ?_, Nat.dvd_trans h.dvd ?_⟩
  · rw [z.lt h]; omega
  · rw [← Rat.not_lt, o.lt h]; omega
  · have : ∀ m : Nat, m < 13 → 1 ≤ m → m ∣ 27720 := by decide
    exact this m (by omega) (by omega)
theorem gQ_den {k : Nat} (hk : k ≤ xs.length) : (gQ ys L k).den ∣ 27720 := by
  have h4 : (Yd (fun j => gVb ys (L.getD j 0)) k).den ∣ 27720 := sumTo_den (by decide) fun i hi => (gVb_pos r hp (g_lt r hp (show i < xs.length by omega))).2.2
  have h5 := add_den_dvd (a := 1) (N := 27720) (-1) (by decide) (Nat.one_dvd _) h4
  have e : (1 : Rat) + ((-1 : Int) : Rat) * Yd (fun j => gVb ys (L.getD j 0)) k = gQ ys L k := by
    rw [gQ, show (((-1 : Int)) : Rat) = -1 from rfl]; grind
  rwa [e] at h5
theorem gVv_eq {x : Nat} (hx : x < xs.length) : gVv xs ys x * gVb ys x = gVa xs x := by
  have hb := r.b x (by have := r.eq; omega)
  have e1 := Wj (x := xs.getD x 0 * ys.getD x 0) (y := 12) (by decide)
  have e2 := Wj (x := 1) (y := ys.getD x 0) (by omega)
  have e3 := Wj (x := xs.getD x 0) (y := 12) (by decide)
  have hy : ((ys.getD x 0 : Int) : Rat) ≠ 0 := by
    intro hc
    have : ys.getD x 0 = 0 := by exact_mod_cast hc
    omega
  rw [gVv, gVb, gVa]
  refine eq_of_mul (c := (12 : Rat) * (ys.getD x 0 : Rat)) ?_ ?_
  · intro hc
    rcases Rat.mul_eq_zero.1 hc with h | h
    · exact absurd h (by decide)
    · exact hy h
  · have t : (((12 : Int)) : Rat) = 12 := rfl
    have t1 : (((1 : Int)) : Rat) = 1 := rfl
    rw [t] at e1 e3
    rw [t1] at e2
    push_cast at e1
    generalize Rat.divInt (xs.getD x 0 * ys.getD x 0) 12 = V at *
    generalize Rat.divInt 1 (ys.getD x 0) = W at *
    generalize Rat.divInt (xs.getD x 0) 12 = A at *
    generalize ((ys.getD x 0 : Int) : Rat) = y at *
    generalize ((xs.getD x 0 : Int) : Rat) = z at *
    have f1 : V * W * (12 * y) = (V * 12) * (W * y) := by grind
    rw [f1, e1, e2]
    have f2 : A * (12 * y) = (A * 12) * y := by grind
    rw [f2, e3]; grind
/-- While the next is better than what is kept, something is left. -/
theorem gQ_pos : ∀ k, k ≤ xs.length → (∀ j, j < k → gK xs ys L j < gVv xs ys (L.getD j 0)) → 0 < gQ ys L k
  | 0, _, _ => by rw [gQ, Yd]; decide +kernel
  | k + 1, hk, hc => by
    have ih := gQ_pos k (by omega) fun j hj => hc j (by omega)
    have h1 := hc k (by omega)
    have hx := g_lt r hp (show k < xs.length by omega)
    obtain ⟨b1, b2, _⟩ := gVb_pos r hp hx
    have ev := gVv_eq r hp hx
    have hp0 := (gP_nonneg r hp (show k ≤ xs.length by omega)).1
    rw [gK, Rat.div_lt_iff ih] at h1
    have h2 : gP xs L k * gVb ys (L.getD k 0) < gVv xs ys (L.getD k 0) * gQ ys L k * gVb ys (L.getD k 0) := (Rat.mul_lt_mul_right b1).2 h1
    have h3 := (gP_nonneg r hp hk).1
    rw [← gP_step, show (((-1 : Int)) : Rat) = -1 from rfl] at h3
    rw [← gQ_step, show (((-1 : Int)) : Rat) = -1 from rfl]
    generalize gVv xs ys (L.getD k 0) = v at *
    generalize gVb ys (L.getD k 0) = w at *
    generalize gVa xs (L.getD k 0) = a at *
    generalize gP xs L k = p at *
    generalize gQ ys L k = q at *
    by_cases hq : w < q
    · grind
    · exfalso
      have hqw : q ≤ w := Rat.not_lt.1 hq
      have ha : a ≤ p := by grind
      have e1 : v * q * w = a * q := by rw [← ev]; grind
      rw [e1] at h2
      have ha0 : 0 ≤ a ∨ a < 0 := by
        by_cases h : 0 ≤ a
        · exact .inl h
        · exact .inr (Rat.not_le.1 h)
      rcases ha0 with ha0 | ha0
      · have h4 := Rat.mul_le_mul_of_nonneg_left hqw ha0
        have h5 := Rat.mul_le_mul_of_nonneg_right ha (Rat.le_of_lt b1)
        grind
      · have h6 : a * q < 0 := by
          have := (Rat.mul_lt_mul_right ih).2 ha0
          rwa [Rat.zero_mul] at this
        have := Rat.mul_nonneg hp0 (Rat.le_of_lt b1)
        grind
theorem gQ_le {k : Nat} (hk : k ≤ xs.length) : gQ ys L k ≤ 1 := by
  have h := Vl (g := fun j => gVb ys (L.getD j 0)) (n := k) fun i hi => Rat.le_of_lt (gVb_pos r hp (g_lt r hp (show i < xs.length by omega))).1
  rw [gQ]
  generalize Yd (fun j => gVb ys (L.getD j 0)) k = t at *
  grind
theorem gK_rp {k : Nat} (hk : k ≤ xs.length) (hc : ∀ j, j < k → gK xs ys L j < gVv xs ys (L.getD j 0)) :
    ∃ y : Nat, 0 < y ∧ y ≤ 27720 ∧ Rp 27720 y (gQ ys L k) ∧ Rp (12 * y) (27720 * (12 - gSum xs L k)) (gK xs ys L k) := by
  have q0 := gQ_pos r hp k hk hc
  have q1 := gQ_le r hp hk
  obtain ⟨x, hx⟩ := rp_of (by decide) (gQ_den r hp hk)
  have z : Rp 27720 0 (0 : Rat) := ⟨by decide, by simp⟩
  have o : Rp 27720 27720 (1 : Rat) := ⟨by decide, by decide +kernel⟩
  have x0 : 0 < x := (z.lt hx).1 q0
  have x1 : x ≤ 27720 := by
    rw [← Rat.not_lt, o.lt hx] at q1; omega
  obtain ⟨y, rfl⟩ : ∃ y : Nat, x = y := ⟨x.toNat, by omega⟩
  refine ⟨y, by omega, by omega, hx, by omega, ?_⟩
  have hP := (gP_rp xs L k).2
  have hQ := hx.2
  have hK : gK xs ys L k * gQ ys L k = gP xs L k := Rat.div_mul_cancel (fun h => by rw [h] at q0; exact absurd q0 (by decide))
  have t1 : (((12 : Nat)) : Rat) = 12 := rfl
  have t2 : (((27720 : Nat)) : Rat) = 27720 := rfl
  have t3 : (((27720 : Int)) : Rat) = 27720 := rfl
  rw [t1] at hP
  rw [t2, Rat.intCast_natCast] at hQ
  rw [Rat.intCast_mul, t3, ← hP, Rat.natCast_mul, t1, ← hQ, ← hK]
  generalize gK xs ys L k = K
  generalize gQ ys L k = Q
  grind
end
end Go.Proofs.Try.Am

namespace Go.Proofs.Try.Am
open Go.Am
set_option maxRecDepth 100000
/-! 55: planchet bets.Grow -/
@[reducible] def q55_0 : SCode := .region [⟨some 2, .box 38 (.tmp 0), none⟩,
    ⟨some 3, .box 38 (.tmp 1), none⟩,
    ⟨some 4, .assign (.const (.slice none 0 0)), none⟩,
    ⟨some 5, .assign (.const (.int .i64 0)), none⟩]
@[reducible] def q55_1 : SCode := .region [⟨some 17, .load 38 (.tmp 2), none⟩,
    ⟨some 18, .load 38 (.tmp 3), none⟩,
    ⟨some 19, .call { callee := .value (.func 80), args := #[.tmp 17, .tmp 18], argTypes := #[38, 38] }, none⟩,
    ⟨some 20, .unOp .not 4 (.tmp 19), none⟩]
@[reducible] def q55_2 : SCode := .region [⟨some 4, .assign (.const (.slice none 0 0)), none⟩,
    ⟨some 5, .assign (.const (.int .i64 2)), none⟩]
@[reducible] def q55_3 : SCode := .region [⟨some 6, .assign (.const (.slice none 0 0)), none⟩]
@[reducible] def q55_4 : SCode := .region [⟨some 21, .load 38 (.tmp 2), none⟩,
    ⟨some 22, .call { callee := .builtin .len, args := #[.tmp 21], argTypes := #[38] }, none⟩,
    ⟨some 23, .move (.const (.int .i64 0)), none⟩]
@[reducible] def q55_5 : SCode := .region [⟨some 24, .binOp .lss 3 (.tmp 23) (.tmp 22) 3, none⟩]
@[reducible] def q55_6 : SCode := .region [⟨some 25, .move (.tmp 23), none⟩,
    ⟨some 7, .assign (.tmp 25), none⟩]
@[reducible] def q55_7 : SCode := .region [⟨some 26, .move (.tmp 6), none⟩,
    ⟨some 27, .move (.tmp 7), none⟩,
    ⟨some 28, .buildSlice 38 1 #[(0, .tmp 27)], none⟩,
    ⟨some 29, .call { callee := .builtin .append, args := #[.tmp 26, .tmp 28], argTypes := #[38, 38] }, none⟩,
    ⟨some 6, .assign (.tmp 29), none⟩]
@[reducible] def q55_8 : SCode := .region [⟨some 30, .binOp .add 3 (.tmp 23) (.const (.int .i64 1)) 3, none⟩,
    ⟨some 23, .move (.tmp 30), none⟩]
def l55_0 : SCode := (.seq q55_5 (.seq (.cond (.tmp 24) .skip (.exit 0)) (.seq (.block 1 (.seq q55_6 q55_7)) q55_8)))
@[reducible] def q55_9 : SCode := .region [⟨some 31, .move (.tmp 6), none⟩,
    ⟨some 32, .makeFunc (.func 93) #[] #[.tmp 2, .tmp 3], none⟩,
    ⟨some 33, .call { callee := .value (.func 92), args := #[.tmp 31, .tmp 32], argTypes := #[38, 107] }, none⟩]
@[reducible] def q55_10 : SCode := .region [⟨some 34, .call { callee := .value (.func 70), args := #[.const (.int .i64 1)], argTypes := #[3] }, none⟩,
    ⟨some 35, .call { callee := .value (.func 70), args := #[.const (.int .i64 1)], argTypes := #[3] }, none⟩,
    ⟨some 8, .alloc 26, none⟩,
    ⟨some 9, .alloc 26, none⟩,
    ⟨none, .store 26 (.tmp 8) (.tmp 34), none⟩,
    ⟨none, .store 26 (.tmp 9) (.tmp 35), none⟩]
@[reducible] def q55_11 : SCode := .region [⟨some 36, .call { callee := .value (.func 70), args := #[.const (.int .i64 1)], argTypes := #[3] }, none⟩,
    ⟨some 10, .alloc 26, none⟩,
    ⟨none, .store 26 (.tmp 10) (.tmp 36), none⟩]
@[reducible] def q55_12 : SCode := .region [⟨some 11, .assign (.const (.slice none 0 0)), none⟩]
@[reducible] def q55_13 : SCode := .region [⟨some 37, .move (.tmp 6), none⟩,
    ⟨some 38, .call { callee := .builtin .len, args := #[.tmp 37], argTypes := #[38] }, none⟩,
    ⟨some 39, .move (.const (.int .i64 0)), none⟩]
@[reducible] def q55_14 : SCode := .region [⟨some 40, .binOp .lss 3 (.tmp 39) (.tmp 38) 3, none⟩]
@[reducible] def q55_15 : SCode := .region [⟨some 41, .indexAddr 38 (.tmp 37) (.tmp 39), none⟩,
    ⟨some 42, .load 3 (.tmp 41), none⟩,
    ⟨some 13, .assign (.tmp 42), none⟩]
def q55_16 : SCode := .draw [⟨some 43, .load 26 (.tmp 10), none⟩,
    ⟨some 44, .load 38 (.tmp 2), none⟩,
    ⟨some 45, .move (.tmp 13), none⟩,
    ⟨some 46, .indexAddr 38 (.tmp 44) (.tmp 45), none⟩,
    ⟨some 47, .load 3 (.tmp 46), none⟩,
    ⟨some 48, .load 38 (.tmp 3), none⟩,
    ⟨some 49, .move (.tmp 13), none⟩,
    ⟨some 50, .indexAddr 38 (.tmp 48) (.tmp 49), none⟩,
    ⟨some 51, .load 3 (.tmp 50), none⟩,
    ⟨some 52, .binOp .mul 3 (.tmp 47) (.tmp 51) 3, none⟩,
    ⟨some 53, .call { callee := .value (.func 64), args := #[.tmp 52, .const (.int .i64 12)], argTypes := #[3, 3] }, none⟩,
    ⟨some 54, .call { callee := .value (.func 62), args := #[.tmp 43, .tmp 53], argTypes := #[26, 26] }, none⟩,
    ⟨some 55, .unOp .not 4 (.tmp 54), none⟩]
   [[], [], [], [1, 2], [3], [], [], [5, 6], [7], [4, 8], [9], [0, 10, 10], [11]]
@[reducible] def q55_17 : SCode := .region [⟨some 56, .move (.tmp 11), none⟩,
    ⟨some 57, .move (.tmp 13), none⟩,
    ⟨some 58, .buildSlice 38 1 #[(0, .tmp 57)], none⟩,
    ⟨some 59, .call { callee := .builtin .append, args := #[.tmp 56, .tmp 58], argTypes := #[38, 38] }, none⟩,
    ⟨some 11, .assign (.tmp 59), none⟩]
def q55_18 : SCode := .draw [⟨some 60, .load 26 (.tmp 8), none⟩,
    ⟨some 61, .load 38 (.tmp 2), none⟩,
    ⟨some 62, .move (.tmp 13), none⟩,
    ⟨some 63, .indexAddr 38 (.tmp 61) (.tmp 62), none⟩,
    ⟨some 64, .load 3 (.tmp 63), none⟩,
    ⟨some 65, .call { callee := .value (.func 64), args := #[.tmp 64, .const (.int .i64 12)], argTypes := #[3, 3] }, none⟩,
    ⟨some 66, .call { callee := .value (.func 71), args := #[.tmp 60, .const (.int .i64 (-1)), .tmp 65], argTypes := #[26, 3, 26] }, none⟩,
    ⟨none, .store 26 (.tmp 8) (.tmp 66), none⟩]
   [[], [], [], [1, 2], [3], [4], [0, 5, 5], [6, 6, 0, 1, 2, 3, 4, 5, 6]]
def q55_19 : SCode := .draw [⟨some 67, .load 26 (.tmp 9), none⟩,
    ⟨some 68, .load 38 (.tmp 3), none⟩,
    ⟨some 69, .move (.tmp 13), none⟩,
    ⟨some 70, .indexAddr 38 (.tmp 68) (.tmp 69), none⟩,
    ⟨some 71, .load 3 (.tmp 70), none⟩,
    ⟨some 72, .call { callee := .value (.func 64), args := #[.const (.int .i64 1), .tmp 71], argTypes := #[3, 3] }, none⟩,
    ⟨some 73, .call { callee := .value (.func 71), args := #[.tmp 67, .const (.int .i64 (-1)), .tmp 72], argTypes := #[26, 3, 26] }, none⟩,
    ⟨none, .store 26 (.tmp 9) (.tmp 73), none⟩]
   [[], [], [], [1, 2], [3], [4], [0, 5, 5], [6, 6, 0, 1, 2, 3, 4, 5, 6]]
@[reducible] def q55_20 : SCode := .region [⟨some 74, .load 26 (.tmp 8), none⟩,
    ⟨some 75, .load 26 (.tmp 9), none⟩,
    ⟨some 76, .call { callee := .value (.func 94), args := #[.tmp 74, .tmp 75], argTypes := #[26, 26] }, none⟩,
    ⟨none, .store 26 (.tmp 10) (.tmp 76), none⟩]
@[reducible] def q55_21 : SCode := .region [⟨some 77, .binOp .add 3 (.tmp 39) (.const (.int .i64 1)) 3, none⟩,
    ⟨some 39, .move (.tmp 77), none⟩]
def l55_1 : SCode := (.seq q55_14 (.seq (.cond (.tmp 40) .skip (.exit 2)) (.seq (.block 3 (.seq q55_15 (.seq (.seq q55_16 (.cond (.tmp 55) (.exit 2) .skip)) (.seq q55_17 (.seq q55_18 (.seq q55_19 q55_20)))))) q55_21)))
def q55_22 : SCode := .draw [⟨some 78, .call { callee := .value (.func 70), args := #[.const (.int .i64 0)], argTypes := #[3] }, none⟩,
    ⟨some 79, .buildSlice 47 1 #[(0, .tmp 78)], none⟩,
    ⟨some 80, .load 38 (.tmp 2), none⟩,
    ⟨some 81, .call { callee := .builtin .len, args := #[.tmp 80], argTypes := #[38] }, none⟩,
    ⟨some 82, .call { callee := .value (.func 95), args := #[.tmp 79, .tmp 81], argTypes := #[47, 3] }, none⟩,
    ⟨some 14, .assign (.tmp 82), none⟩]
   [[], [0], [], [2], [1, 3, 0], [4, 4, 0, 1, 2, 3, 4]]
@[reducible] def q55_23 : SCode := .region [⟨some 83, .move (.tmp 11), none⟩,
    ⟨some 84, .call { callee := .builtin .len, args := #[.tmp 83], argTypes := #[38] }, none⟩,
    ⟨some 85, .move (.const (.int .i64 0)), none⟩]
@[reducible] def q55_24 : SCode := .region [⟨some 86, .binOp .lss 3 (.tmp 85) (.tmp 84) 3, none⟩]
@[reducible] def q55_25 : SCode := .region [⟨some 87, .indexAddr 38 (.tmp 83) (.tmp 85), none⟩,
    ⟨some 88, .load 3 (.tmp 87), none⟩,
    ⟨some 16, .assign (.tmp 88), none⟩]
def q55_26 : SCode := .draw [⟨some 89, .move (.tmp 14), none⟩,
    ⟨some 90, .move (.tmp 16), none⟩,
    ⟨some 91, .load 38 (.tmp 2), none⟩,
    ⟨some 92, .move (.tmp 16), none⟩,
    ⟨some 93, .indexAddr 38 (.tmp 91) (.tmp 92), none⟩,
    ⟨some 94, .load 3 (.tmp 93), none⟩,
    ⟨some 95, .call { callee := .value (.func 64), args := #[.tmp 94, .const (.int .i64 12)], argTypes := #[3, 3] }, none⟩,
    ⟨some 96, .load 26 (.tmp 10), none⟩,
    ⟨some 97, .load 38 (.tmp 3), none⟩,
    ⟨some 98, .move (.tmp 16), none⟩,
    ⟨some 99, .indexAddr 38 (.tmp 97) (.tmp 98), none⟩,
    ⟨some 100, .load 3 (.tmp 99), none⟩,
    ⟨some 101, .call { callee := .value (.func 64), args := #[.const (.int .i64 1), .tmp 100], argTypes := #[3, 3] }, none⟩,
    ⟨some 102, .call { callee := .value (.func 72), args := #[.tmp 96, .tmp 101], argTypes := #[26, 26] }, none⟩,
    ⟨some 103, .call { callee := .value (.func 71), args := #[.tmp 95, .const (.int .i64 (-1)), .tmp 102], argTypes := #[26, 3, 26] }, none⟩,
    ⟨some 104, .indexAddr 47 (.tmp 89) (.tmp 90), none⟩,
    ⟨none, .store 26 (.tmp 104) (.tmp 103), none⟩]
   [[], [], [], [], [2, 3], [4], [5], [], [], [], [8, 9], [10], [11, 6], [7, 12, 12], [6, 13, 13], [0, 1, 0, 1, 2, 3, 4, 5, 6, 7, 8, 9, 10, 11, 12, 13, 14], [15, 14, 14, 0, 1, 2, 3, 4, 5, 6, 7, 8, 9, 10, 11, 12, 13, 14]]
@[reducible] def q55_27 : SCode := .region [⟨some 105, .binOp .add 3 (.tmp 85) (.const (.int .i64 1)) 3, none⟩,
    ⟨some 85, .move (.tmp 105), none⟩]
def l55_2 : SCode := (.seq q55_24 (.seq (.cond (.tmp 86) .skip (.exit 4)) (.seq (.block 5 (.seq q55_25 q55_26)) q55_27)))
@[reducible] def q55_28 : SCode := .region [⟨some 106, .move (.tmp 14), none⟩,
    ⟨some 4, .assign (.tmp 106), none⟩,
    ⟨some 5, .assign (.const (.int .i64 0)), none⟩]
def s55 : SCode := (.seq q55_0 (.seq (.seq q55_1 (.cond (.tmp 20) (.seq q55_2 .ret) .skip)) (.seq q55_3 (.seq (.seq q55_4 (.block 0 (.loop l55_0))) (.seq q55_9 (.seq q55_10 (.seq q55_11 (.seq q55_12 (.seq (.seq q55_13 (.block 2 (.loop l55_1))) (.seq q55_22 (.seq (.seq q55_23 (.block 4 (.loop l55_2))) (.seq q55_28 .ret))))))))))))
theorem s55_strip : Zw (Zu Try.f55) = s55 := by kernel_rfl
theorem s55_ok : Yi 107 (Zu Try.f55) = true := by kernel_rfl
/-! 92: slices.SortStableFunc[[]int,int] -/
@[reducible] def q92_0 : SCode := .region [⟨some 4, .move (.tmp 0), none⟩,
    ⟨some 5, .move (.tmp 0), none⟩,
    ⟨some 6, .call { callee := .builtin .len, args := #[.tmp 5], argTypes := #[38] }, none⟩,
    ⟨some 7, .move (.tmp 1), none⟩,
    ⟨some 8, .call { callee := .value (.func 113), args := #[.tmp 4, .tmp 6, .tmp 7], argTypes := #[38, 3, 107] }, none⟩]
def s92 : SCode := q92_0
theorem s92_strip : Zw (Zu Try.f92) = s92 := by kernel_rfl
theorem s92_ok : Yi 9 (Zu Try.f92) = true := by kernel_rfl
/-! 93: planchet bets.Grow$1 -/
@[reducible] def q93_0 : SCode := .region [⟨some 6, .assign (.const (.int .i64 0)), none⟩]
def q93_1 : SCode := .draw [⟨some 7, .load 38 (.tmp 2), none⟩,
    ⟨some 8, .move (.tmp 1), none⟩,
    ⟨some 9, .indexAddr 38 (.tmp 7) (.tmp 8), none⟩,
    ⟨some 10, .load 3 (.tmp 9), none⟩,
    ⟨some 11, .load 38 (.tmp 3), none⟩,
    ⟨some 12, .move (.tmp 1), none⟩,
    ⟨some 13, .indexAddr 38 (.tmp 11) (.tmp 12), none⟩,
    ⟨some 14, .load 3 (.tmp 13), none⟩,
    ⟨some 15, .binOp .mul 3 (.tmp 10) (.tmp 14) 3, none⟩,
    ⟨some 16, .load 38 (.tmp 2), none⟩,
    ⟨some 17, .move (.tmp 0), none⟩,
    ⟨some 18, .indexAddr 38 (.tmp 16) (.tmp 17), none⟩,
    ⟨some 19, .load 3 (.tmp 18), none⟩,
    ⟨some 20, .load 38 (.tmp 3), none⟩,
    ⟨some 21, .move (.tmp 0), none⟩,
    ⟨some 22, .indexAddr 38 (.tmp 20) (.tmp 21), none⟩,
    ⟨some 23, .load 3 (.tmp 22), none⟩,
    ⟨some 24, .binOp .mul 3 (.tmp 19) (.tmp 23) 3, none⟩,
    ⟨some 25, .binOp .sub 3 (.tmp 15) (.tmp 24) 3, none⟩,
    ⟨some 6, .assign (.tmp 25), none⟩]
   [[], [], [0, 1], [2], [], [], [4, 5], [6], [3, 7], [], [], [9, 10], [11], [], [], [13, 14], [15], [12, 16], [8, 17], [18, 0, 1, 2, 3, 4, 5, 6, 7, 8, 9, 10, 11, 12, 13, 14, 15, 16, 17, 18]]
def s93 : SCode := (.seq q93_0 (.seq q93_1 .ret))
theorem s93_strip : Zw (Zu Try.f93) = s93 := by kernel_rfl
theorem s93_ok : Yi 26 (Zu Try.f93) = true := by kernel_rfl
/-! 113: slices.stableCmpFunc[int] -/
@[reducible] def q113_0 : SCode := .region [⟨some 6, .assign (.const (.int .i64 20)), none⟩]
@[reducible] def q113_1 : SCode := .region [⟨some 10, .move (.tmp 6), none⟩,
    ⟨some 7, .assign (.const (.int .i64 0)), none⟩,
    ⟨some 8, .assign (.tmp 10), none⟩]
@[reducible] def q113_2 : SCode := .region [⟨some 11, .move (.tmp 8), none⟩,
    ⟨some 12, .move (.tmp 1), none⟩,
    ⟨some 13, .binOp .leq 3 (.tmp 11) (.tmp 12) 3, none⟩]
@[reducible] def q113_3 : SCode := .region [⟨some 14, .move (.tmp 0), none⟩,
    ⟨some 15, .move (.tmp 7), none⟩,
    ⟨some 16, .move (.tmp 8), none⟩,
    ⟨some 17, .move (.tmp 2), none⟩,
    ⟨some 18, .call { callee := .value (.func 120), args := #[.tmp 14, .tmp 15, .tmp 16, .tmp 17], argTypes := #[38, 3, 3, 107] }, none⟩]
@[reducible] def q113_4 : SCode := .region [⟨some 19, .move (.tmp 8), none⟩,
    ⟨some 7, .assign (.tmp 19), none⟩]
@[reducible] def q113_5 : SCode := .region [⟨some 20, .move (.tmp 8), none⟩,
    ⟨some 21, .move (.tmp 6), none⟩,
    ⟨some 22, .binOp .add 3 (.tmp 20) (.tmp 21) 3, none⟩,
    ⟨some 8, .assign (.tmp 22), none⟩]
def l113_0 : SCode := (.seq (.seq q113_2 (.cond (.tmp 13) .skip (.exit 0))) (.block 1 (.seq q113_3 (.seq q113_4 q113_5))))
@[reducible] def q113_6 : SCode := .region [⟨some 23, .move (.tmp 0), none⟩,
    ⟨some 24, .move (.tmp 7), none⟩,
    ⟨some 25, .move (.tmp 1), none⟩,
    ⟨some 26, .move (.tmp 2), none⟩,
    ⟨some 27, .call { callee := .value (.func 120), args := #[.tmp 23, .tmp 24, .tmp 25, .tmp 26], argTypes := #[38, 3, 3, 107] }, none⟩]
@[reducible] def q113_7 : SCode := .region [⟨some 28, .move (.tmp 6), none⟩,
    ⟨some 29, .move (.tmp 1), none⟩,
    ⟨some 30, .binOp .lss 3 (.tmp 28) (.tmp 29) 3, none⟩]
@[reducible] def q113_8 : SCode := .region [⟨some 31, .move (.tmp 6), none⟩,
    ⟨some 32, .binOp .mul 3 (.const (.int .i64 2)) (.tmp 31) 3, none⟩,
    ⟨some 7, .assign (.const (.int .i64 0)), none⟩,
    ⟨some 8, .assign (.tmp 32), none⟩]
@[reducible] def q113_9 : SCode := .region [⟨some 33, .move (.tmp 8), none⟩,
    ⟨some 34, .move (.tmp 1), none⟩,
    ⟨some 35, .binOp .leq 3 (.tmp 33) (.tmp 34) 3, none⟩]
@[reducible] def q113_10 : SCode := .region [⟨some 36, .move (.tmp 0), none⟩,
    ⟨some 37, .move (.tmp 7), none⟩,
    ⟨some 38, .move (.tmp 7), none⟩,
    ⟨some 39, .move (.tmp 6), none⟩,
    ⟨some 40, .binOp .add 3 (.tmp 38) (.tmp 39) 3, none⟩,
    ⟨some 41, .move (.tmp 8), none⟩,
    ⟨some 42, .move (.tmp 2), none⟩,
    ⟨some 43, .call { callee := .value (.func 121), args := #[.tmp 36, .tmp 37, .tmp 40, .tmp 41, .tmp 42], argTypes := #[38, 3, 3, 3, 107] }, none⟩]
@[reducible] def q113_11 : SCode := .region [⟨some 44, .move (.tmp 8), none⟩,
    ⟨some 7, .assign (.tmp 44), none⟩]
@[reducible] def q113_12 : SCode := .region [⟨some 45, .move (.tmp 8), none⟩,
    ⟨some 46, .move (.tmp 6), none⟩,
    ⟨some 47, .binOp .mul 3 (.const (.int .i64 2)) (.tmp 46) 3, none⟩,
    ⟨some 48, .binOp .add 3 (.tmp 45) (.tmp 47) 3, none⟩,
    ⟨some 8, .assign (.tmp 48), none⟩]
def l113_1 : SCode := (.seq (.seq q113_9 (.cond (.tmp 35) .skip (.exit 4))) (.block 5 (.seq q113_10 (.seq q113_11 q113_12))))
@[reducible] def q113_13 : SCode := .region [⟨some 49, .move (.tmp 7), none⟩,
    ⟨some 50, .move (.tmp 6), none⟩,
    ⟨some 51, .binOp .add 3 (.tmp 49) (.tmp 50) 3, none⟩,
    ⟨some 9, .assign (.tmp 51), none⟩]
@[reducible] def q113_14 : SCode := .region [⟨some 52, .move (.tmp 9), none⟩,
    ⟨some 53, .move (.tmp 1), none⟩,
    ⟨some 54, .binOp .lss 3 (.tmp 52) (.tmp 53) 3, none⟩]
@[reducible] def q113_15 : SCode := .region [⟨some 55, .move (.tmp 0), none⟩,
    ⟨some 56, .move (.tmp 7), none⟩,
    ⟨some 57, .move (.tmp 9), none⟩,
    ⟨some 58, .move (.tmp 1), none⟩,
    ⟨some 59, .move (.tmp 2), none⟩,
    ⟨some 60, .call { callee := .value (.func 121), args := #[.tmp 55, .tmp 56, .tmp 57, .tmp 58, .tmp 59], argTypes := #[38, 3, 3, 3, 107] }, none⟩]
@[reducible] def q113_16 : SCode := .region [⟨some 61, .move (.tmp 6), none⟩,
    ⟨some 62, .binOp .mul 3 (.tmp 61) (.const (.int .i64 2)) 3, none⟩,
    ⟨some 6, .assign (.tmp 62), none⟩]
def l113_2 : SCode := (.seq (.seq q113_7 (.cond (.tmp 30) .skip (.exit 2))) (.block 3 (.seq q113_8 (.seq (.block 4 (.loop l113_1)) (.seq (.seq q113_13 (.seq q113_14 (.cond (.tmp 54) q113_15 .skip))) q113_16)))))
def s113 : SCode := (.seq q113_0 (.seq q113_1 (.seq (.block 0 (.loop l113_0)) (.seq q113_6 (.block 2 (.loop l113_2))))))
theorem s113_strip : Zw (Zu Try.f113) = s113 := by kernel_rfl
theorem s113_ok : Yi 63 (Zu Try.f113) = true := by kernel_rfl
/-! 120: slices.insertionSortCmpFunc[int] -/
@[reducible] def q120_0 : SCode := .region [⟨some 10, .move (.tmp 1), none⟩,
    ⟨some 11, .binOp .add 3 (.tmp 10) (.const (.int .i64 1)) 3, none⟩,
    ⟨some 8, .assign (.tmp 11), none⟩]
@[reducible] def q120_1 : SCode := .region [⟨some 12, .move (.tmp 8), none⟩,
    ⟨some 13, .move (.tmp 2), none⟩,
    ⟨some 14, .binOp .lss 3 (.tmp 12) (.tmp 13) 3, none⟩]
@[reducible] def q120_3 : SCode := .region [⟨some 17, .move (.tmp 8), none⟩,
    ⟨some 9, .assign (.tmp 17), none⟩]
def q120_4 : SCode := .draw [⟨some 18, .move (.tmp 9), none⟩,
    ⟨some 19, .move (.tmp 1), none⟩,
    ⟨some 20, .binOp .gtr 3 (.tmp 18) (.tmp 19) 3, none⟩,
    ⟨some 21, .move (.tmp 20), none⟩,
    ⟨some 22, .move (.tmp 3), some (21, true)⟩,
    ⟨some 23, .move (.tmp 0), some (21, true)⟩,
    ⟨some 24, .move (.tmp 9), some (21, true)⟩,
    ⟨some 25, .indexAddr 38 (.tmp 23) (.tmp 24), some (21, true)⟩,
    ⟨some 26, .load 3 (.tmp 25), some (21, true)⟩,
    ⟨some 27, .move (.tmp 0), some (21, true)⟩,
    ⟨some 28, .move (.tmp 9), some (21, true)⟩,
    ⟨some 29, .binOp .sub 3 (.tmp 28) (.const (.int .i64 1)) 3, some (21, true)⟩,
    ⟨some 30, .indexAddr 38 (.tmp 27) (.tmp 29), some (21, true)⟩,
    ⟨some 31, .load 3 (.tmp 30), some (21, true)⟩,
    ⟨some 32, .call { callee := .value (.tmp 22), args := #[.tmp 26, .tmp 31], argTypes := #[3, 3] }, some (21, true)⟩,
    ⟨some 33, .binOp .lss 3 (.tmp 32) (.const (.int .i64 0)) 3, some (21, true)⟩,
    ⟨some 34, .pick (.tmp 21) (.tmp 33) (.const (.bool false)), none⟩]
   [[], [], [0, 1], [2], [3], [3], [3], [5, 6, 3], [7, 3], [3], [3], [10, 3], [9, 11, 3], [12, 3], [4, 8, 13, 3, 3], [14, 3], [3, 15]]
def q120_6 : SCode := .draw [⟨some 37, .move (.tmp 0), none⟩,
    ⟨some 38, .move (.tmp 9), none⟩,
    ⟨some 39, .move (.tmp 0), none⟩,
    ⟨some 40, .move (.tmp 9), none⟩,
    ⟨some 41, .binOp .sub 3 (.tmp 40) (.const (.int .i64 1)) 3, none⟩,
    ⟨some 42, .move (.tmp 0), none⟩,
    ⟨some 43, .move (.tmp 9), none⟩,
    ⟨some 44, .binOp .sub 3 (.tmp 43) (.const (.int .i64 1)) 3, none⟩,
    ⟨some 45, .indexAddr 38 (.tmp 42) (.tmp 44), none⟩,
    ⟨some 46, .load 3 (.tmp 45), none⟩,
    ⟨some 47, .move (.tmp 0), none⟩,
    ⟨some 48, .move (.tmp 9), none⟩,
    ⟨some 49, .indexAddr 38 (.tmp 47) (.tmp 48), none⟩,
    ⟨some 50, .load 3 (.tmp 49), none⟩,
    ⟨some 51, .indexAddr 38 (.tmp 37) (.tmp 38), none⟩,
    ⟨none, .store 3 (.tmp 51) (.tmp 46), none⟩,
    ⟨some 52, .indexAddr 38 (.tmp 39) (.tmp 41), none⟩,
    ⟨none, .store 3 (.tmp 52) (.tmp 50), none⟩]
   [[], [], [], [], [3], [], [], [6], [5, 7], [8], [], [], [10, 11], [12], [0, 1, 0, 1, 5, 6, 7, 8, 9, 13], [14, 9, 0, 1, 5, 6, 7, 8, 9, 13], [2, 4, 0, 1, 2, 3, 4, 5, 6, 7, 8, 9, 10, 11, 12, 13, 14, 15], [16, 13, 15, 0, 1, 2, 3, 4, 5, 6, 7, 8, 9, 10, 11, 12, 13, 14, 15]]
@[reducible] def q120_5 : SCode := .region [⟨some 35, .move (.tmp 9), none⟩,
    ⟨some 36, .binOp .sub 3 (.tmp 35) (.const (.int .i64 1)) 3, none⟩,
    ⟨some 9, .assign (.tmp 36), none⟩]
def l120_0 : SCode := (.seq (.seq q120_4 (.cond (.tmp 34) .skip (.exit 2))) (.seq (.block 3 q120_6) q120_5))
@[reducible] def q120_2 : SCode := .region [⟨some 15, .move (.tmp 8), none⟩,
    ⟨some 16, .binOp .add 3 (.tmp 15) (.const (.int .i64 1)) 3, none⟩,
    ⟨some 8, .assign (.tmp 16), none⟩]
def l120_1 : SCode := (.seq (.seq q120_1 (.cond (.tmp 14) .skip (.exit 0))) (.seq (.block 1 (.seq q120_3 (.block 2 (.loop l120_0)))) q120_2))
def s120 : SCode := (.seq q120_0 (.block 0 (.loop l120_1)))
theorem s120_strip : Zw (Zu Try.f120) = s120 := by kernel_rfl
theorem s120_ok : Yi 53 (Zu Try.f120) = true := by kernel_rfl
end Go.Proofs.Try.Am

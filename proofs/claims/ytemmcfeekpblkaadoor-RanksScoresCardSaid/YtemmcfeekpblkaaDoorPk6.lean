/-
  ranks: the table of math/bits, out of what the statement grants.
  Printed by gen.py: facts on the types of this seat, asked of the kernel.
  The number of ways through a tournament is odd (Rédei): plain counting.
  Printed by gen.py: the code of some functions, without what no step looks at; held against the program's own by the kernel.
  ranks: whether a slice is a tournament: the two functions that say so.
  ranks: the small functions: beats, all, players.
  The seat's bits: TrailingZeros64 and TrailingZeros of math/bits, on the model's own worlds.
  ranks: the search for a way: walk and its function literal.
  ranks: copies of slices: slices.Clone, the laws' own list.
-/
import Derived.Test.YtemmcfeekpblkaaDoorPk4
import Derived.Test.YtemmcfeekpblkaaDoorRows
import Derived.Test.YtemmcfeekpblkaaDoorProg
import Derived.MakeChecks
import Derived.Test.YtemmcfeekpblkaaDoorPk3
import Derived.KernelRfl
import Derived.Shelf.Abstract
import Derived.Shelf.Spec.TrailingZeros
import Derived.TacticsInMore
import Derived.LoopNIn
import Derived.LoopIn
set_option linter.all false
namespace Go.Proofs.YtemmcfeekpblkaaDoor
open Go Go.Am Go.ChangeShapes Go.WideShapes Go.ChangeAt Go.WideMaps Go.WideElems Go.RowKit

theorem row_bytes {H : Type} {enc : TypeId × Value → H} {P : Program} {w : World} {base : Nat} {spare : Nat → Bool} {held : Bool} {fuel : Nat} {t e : TypeId} {n : Nat} {cs : List Value} {ns : List Nat} {p : List MemPlace}
    (ht : P.underlying t = some (.array n e)) (he : P.underlying e = some (.int .u8)) (hc : P.cellsOf e = 1) (hct : P.cellsOf t = n) (h : DataW.trod enc P w base spare held fuel t cs = some (.agg (ns.map fun (k : Nat) => .lit (.int .u8 k)), p)) : cs = ns.map fun (k : Nat) => Value.int .u8 k := by
  obtain ⟨xs, m, rfl, hx, hlen, hn, hel⟩ := DataW.trod_array ht h
  simp only [Prod.mk.injEq, DataW.agg.injEq] at hx
  have hns : ns.length = n := by rw [← hn, ← List.length_map (f := fun (x : DataW H × List MemPlace) => x.1), ← hx.1, List.length_map]
  apply List.ext_getElem (by rw [hlen, hct, List.length_map, hns])
  intro i h1 h2
  have hi : i < n := by rw [hlen, hct] at h1; exact h1
  have h3 := hel i hi
  rw [hc, Nat.mul_one, List.getElem?_eq_getElem (by omega)] at h3
  obtain ⟨k, g1, g2, _⟩ := DataW.trod_int he h3
  have h4 : (xs.map (·.1))[i]? = some (xs[i]'(by omega)).1 := by simp [List.getElem?_map, List.getElem?_eq_getElem (show i < xs.length by omega)]
  rw [← hx.1, g2] at h4
  rw [List.drop_eq_getElem_cons h1, List.take_succ_cons, List.take_zero] at g1
  have g1 := (List.cons.inj g1).1
  simp at h4
  obtain ⟨a, ha, hk⟩ := h4
  rw [g1, List.getElem_map]
  have : ns[i]'(by omega) = a := by
    rw [List.getElem?_eq_getElem (show i < ns.length by omega)] at ha; exact Option.some.inj ha
  rw [this, ← hk]

abbrev laid2 : List (String × DataW Unit) := [("math/bits.deBruijn32tab", Rows.laid_math_bits_deBruijn32tab), ("math/bits.deBruijn64tab", Rows.laid_math_bits_deBruijn64tab)]

theorem tab_of {W : World} (h : laidMetH Tryd.prog laid2 W) : ∃ e fr, W.heap[1]? = some (.cells (Lib.deBruijn64tab.map fun (n : Nat) => Value.int .u8 n).toArray e fr) := by
  rw [MakeChecks.laidMetH_plain _ _ _ (by kernel_rfl)] at h
  obtain ⟨ps, ⟨g0, t0, cs0, f0, p0, q0, hg0, ht0, hv0, hd0, ⟨g1, t1, cs1, f1, p1, q1, hg1, ht1, hv1, hd1, _, _⟩, _⟩, _, _⟩ := h
  obtain rfl := Option.some.inj ((show Tryd.prog.globalNamed "math/bits.deBruijn64tab" = some 1 by kernel_rfl).symm.trans hg1)
  obtain rfl := Option.some.inj ((show (Tryd.prog.globals[1]?).map (·.type) = some 103 by kernel_rfl).symm.trans ht1)
  have hrow := row_bytes (ns := Lib.deBruijn64tab) Tryd.underlying103 Tryd.underlying5 (by kernel_rfl) (by kernel_rfl) hd1
  simp only [World.var?, hg1, Option.bind_some] at hv1
  split at hv1
  · rename_i cs e fr hh
    cases hv1
    exact ⟨e, fr, by rw [hh, ← hrow]⟩
  · cases hv1
end Go.Proofs.YtemmcfeekpblkaaDoor

namespace Go.Proofs.Tryd.Am
open Go.Am
set_option maxRecDepth 100000
theorem app_22_22 : appT Tryd.prog 22 22 = some (3, 1, 8) := by kernel_rfl
theorem app_36_36 : appT Tryd.prog 36 36 = some (40, 3, 24) := by kernel_rfl
theorem app_46_46 : appT Tryd.prog 46 46 = some (52, 2, 16) := by kernel_rfl
theorem el_22 : elemOf' Tryd.prog 22 = some 3 := by kernel_rfl
theorem el_36 : elemOf' Tryd.prog 36 = some 40 := by kernel_rfl
theorem el_46 : elemOf' Tryd.prog 46 = some 52 := by kernel_rfl
theorem el_55 : elemOf' Tryd.prog 55 = some 3 := by kernel_rfl
theorem esz_22 : esz Tryd.prog 22 = some 1 := by kernel_rfl
theorem esz_27 : esz Tryd.prog 27 = some 1 := by kernel_rfl
theorem esz_3 : esz Tryd.prog 3 = some 1 := by kernel_rfl
theorem esz_40 : esz Tryd.prog 40 = some 3 := by kernel_rfl
theorem esz_52 : esz Tryd.prog 52 = some 2 := by kernel_rfl
theorem esz_55 : esz Tryd.prog 55 = some 1 := by kernel_rfl
theorem info_3 : (Tryd.prog.info? 3).map (fun i => (i.size, i.bytes)) = some (1, 8) := by kernel_rfl
theorem isl_22 : isSl Tryd.prog 22 = true := by kernel_rfl
theorem isl_36 : isSl Tryd.prog 36 = true := by kernel_rfl
theorem isl_46 : isSl Tryd.prog 46 = true := by kernel_rfl
theorem isl_55 : isSl Tryd.prog 55 = true := by kernel_rfl
theorem pl_40_0 : placeOf Tryd.prog 40 0 = some (0, 1) := by kernel_rfl
theorem pl_40_1 : placeOf Tryd.prog 40 1 = some (1, 1) := by kernel_rfl
theorem pl_40_2 : placeOf Tryd.prog 40 2 = some (2, 1) := by kernel_rfl
theorem pl_52_0 : placeOf Tryd.prog 52 0 = some (0, 1) := by kernel_rfl
theorem pl_52_1 : placeOf Tryd.prog 52 1 = some (1, 1) := by kernel_rfl
theorem shp_22 : shp Tryd.prog 22 = some none := by kernel_rfl
theorem shp_27 : shp Tryd.prog 27 = some none := by kernel_rfl
theorem shp_3 : shp Tryd.prog 3 = some none := by kernel_rfl
theorem shp_36 : shp Tryd.prog 36 = some none := by kernel_rfl
theorem shp_4 : shp Tryd.prog 4 = some none := by kernel_rfl
theorem shp_40 : shp Tryd.prog 40 = some (some 3) := by kernel_rfl
theorem shp_52 : shp Tryd.prog 52 = some (some 2) := by kernel_rfl
theorem shp_55 : shp Tryd.prog 55 = some none := by kernel_rfl
theorem shp_63 : shp Tryd.prog 63 = some none := by kernel_rfl
theorem shp_69 : shp Tryd.prog 69 = some none := by kernel_rfl
theorem shp_79 : shp Tryd.prog 79 = some none := by kernel_rfl
theorem und_22 : Program.underlying Tryd.prog 22 = some (.slice 3) := by kernel_rfl
theorem und_3 : Program.underlying Tryd.prog 3 = some (.int .i64) := by kernel_rfl
theorem und_36 : Program.underlying Tryd.prog 36 = some (.slice 40) := by kernel_rfl
theorem und_4 : Program.underlying Tryd.prog 4 = some (.bool) := by kernel_rfl
theorem und_40 : Program.underlying Tryd.prog 40 = some (.array 3 3) := by kernel_rfl
theorem und_46 : Program.underlying Tryd.prog 46 = some (.slice 52) := by kernel_rfl
theorem und_5 : Program.underlying Tryd.prog 5 = some (.int .u8) := by kernel_rfl
theorem und_52 : Program.underlying Tryd.prog 52 = some (.array 2 3) := by kernel_rfl
theorem und_53 : Program.underlying Tryd.prog 53 = some (.int .u64) := by kernel_rfl
theorem und_55 : Program.underlying Tryd.prog 55 = some (.slice 3) := by kernel_rfl
theorem und_75 : Program.underlying Tryd.prog 75 = some (.map 3 3) := by kernel_rfl
theorem und_87 : Program.underlying Tryd.prog 87 = some (.int .u32) := by kernel_rfl
theorem und_89 : Program.underlying Tryd.prog 89 = some (.int .u64) := by kernel_rfl
theorem und_9 : Program.underlying Tryd.prog 9 = some (.string) := by kernel_rfl
theorem zero_22 : zeroOf Tryd.prog 22 = some [.slice none 0 0] := by kernel_rfl
theorem zero_3 : zeroOf Tryd.prog 3 = some [.int .i64 0] := by kernel_rfl
theorem zero_36 : zeroOf Tryd.prog 36 = some [.slice none 0 0] := by kernel_rfl
theorem zero_4 : zeroOf Tryd.prog 4 = some [.bool false] := by kernel_rfl
theorem zero_40 : zeroOf Tryd.prog 40 = some [.int .i64 0, .int .i64 0, .int .i64 0] := by kernel_rfl
theorem zero_52 : zeroOf Tryd.prog 52 = some [.int .i64 0, .int .i64 0] := by kernel_rfl
theorem zero_55 : zeroOf Tryd.prog 55 = some [.slice none 0 0] := by kernel_rfl
theorem zero_63 : zeroOf Tryd.prog 63 = some [.nilFunc] := by kernel_rfl
theorem zero_69 : zeroOf Tryd.prog 69 = some [.nilFunc] := by kernel_rfl
theorem zero_79 : zeroOf Tryd.prog 79 = some [.nilFunc] := by kernel_rfl
theorem zv_3 : zeroV Tryd.prog 3 = some (.int .i64 0) := by kernel_rfl
def tyf := (And.intro (And.intro (And.intro (And.intro (And.intro (And.intro @app_22_22 @app_36_36) (And.intro @app_46_46 @el_22)) (And.intro (And.intro @el_36 @el_46) (And.intro @el_55 @esz_22))) (And.intro (And.intro (And.intro @esz_27 @esz_3) (And.intro @esz_40 @esz_52)) (And.intro (And.intro @esz_55 @info_3) @isl_22))) (And.intro (And.intro (And.intro (And.intro @isl_36 @isl_46) (And.intro @isl_55 @pl_40_0)) (And.intro (And.intro @pl_40_1 @pl_40_2) (And.intro @pl_52_0 @pl_52_1))) (And.intro (And.intro (And.intro @shp_22 @shp_27) (And.intro @shp_3 @shp_36)) (And.intro (And.intro @shp_4 @shp_40) @shp_52)))) (And.intro (And.intro (And.intro (And.intro (And.intro @shp_55 @shp_63) (And.intro @shp_69 @shp_79)) (And.intro (And.intro @und_22 @und_3) (And.intro @und_36 @und_4))) (And.intro (And.intro (And.intro @und_40 @und_46) (And.intro @und_5 @und_52)) (And.intro (And.intro @und_53 @und_55) @und_75))) (And.intro (And.intro (And.intro (And.intro @und_87 @und_89) (And.intro @und_9 @zero_22)) (And.intro (And.intro @zero_3 @zero_36) @zero_4)) (And.intro (And.intro (And.intro @zero_40 @zero_52) (And.intro @zero_55 @zero_63)) (And.intro (And.intro @zero_69 @zero_79) @zv_3)))))
end Go.Proofs.Tryd.Am

namespace Go.Proofs.Tryd.Redei

/-- The sum of f over a list. -/
def sm {α : Type} (f : α → Nat) : List α → Nat
  | [] => 0
  | x :: l => f x + sm f l

section
variable {α β : Type}
end

/-- One picked out of a list, and the rest. -/
def picks : List Nat → List (Nat × List Nat)
  | [] => []
  | x :: S => (x, S) :: (picks S).map fun p => (p.1, x :: p.2)
/-- The ways through all of a list that end with y behind it. -/
def en (r : Nat → Nat → Bool) : Nat → List Nat → Nat → Nat
  | 0, A, _ => if A = [] then 1 else 0
  | n + 1, A, y => (if A = [] then 1 else 0) + sm (fun p => if r p.1 y then en r n p.2 p.1 else 0) (picks A)
def E (r : Nat → Nat → Bool) (A : List Nat) (y : Nat) : Nat := en r A.length A y
/-- All ways through a list. -/
def H (r : Nat → Nat → Bool) (S : List Nat) : Nat := sm (fun p => E r p.2 p.1) (picks S)

/-- The arcs between a and b are told anew. -/
def put (r : Nat → Nat → Bool) (a b : Nat) (u v : Bool) (x y : Nat) : Bool := if x = a ∧ y = b then u else if x = b ∧ y = a then v else r x y

end Go.Proofs.Tryd.Redei

namespace Go.Proofs.Tryd.Am
open Go.Am
set_option maxRecDepth 100000
/-! 4: planchet planchetlaw02.RanksWays -/
@[reducible] def q4_0 : SCode := .region [⟨some 4, .assign (.const (.bool false)), none⟩]
@[reducible] def q4_1 : SCode := .region [⟨some 12, .move (.tmp 0), none⟩,
    ⟨some 13, .call { callee := .value (.func 19), args := #[.tmp 12], argTypes := #[22] }, none⟩,
    ⟨some 14, .call { callee := .value (.func 18), args := #[.tmp 13], argTypes := #[22] }, none⟩,
    ⟨some 11, .move (.tmp 14), none⟩,
    ⟨some 15, .extract (.tmp 11) 0, none⟩,
    ⟨some 16, .extract (.tmp 11) 1, none⟩,
    ⟨some 5, .assign (.tmp 15), none⟩,
    ⟨some 6, .assign (.tmp 16), none⟩]
@[reducible] def q4_2 : SCode := .region [⟨some 18, .move (.tmp 0), none⟩,
    ⟨some 19, .call { callee := .value (.func 19), args := #[.tmp 18], argTypes := #[22] }, none⟩,
    ⟨some 20, .move (.tmp 1), none⟩,
    ⟨some 21, .call { callee := .value (.func 24), args := #[.tmp 19, .tmp 20], argTypes := #[22, 3] }, none⟩,
    ⟨some 17, .move (.tmp 21), none⟩,
    ⟨some 22, .extract (.tmp 17) 0, none⟩,
    ⟨some 23, .extract (.tmp 17) 1, none⟩,
    ⟨some 7, .assign (.tmp 22), none⟩,
    ⟨some 8, .assign (.tmp 23), none⟩]
@[reducible] def q4_3 : SCode := .region [⟨some 24, .move (.tmp 0), none⟩,
    ⟨some 25, .call { callee := .value (.func 20), args := #[.tmp 24], argTypes := #[22] }, none⟩,
    ⟨some 26, .unOp .not 4 (.tmp 25), none⟩]
@[reducible] def q4_4 : SCode := .region [⟨some 27, .move (.tmp 5), none⟩,
    ⟨some 28, .call { callee := .builtin .len, args := #[.tmp 27], argTypes := #[22] }, none⟩,
    ⟨some 29, .move (.tmp 7), none⟩,
    ⟨some 30, .call { callee := .builtin .len, args := #[.tmp 29], argTypes := #[22] }, none⟩,
    ⟨some 31, .binOp .add 3 (.tmp 28) (.tmp 30) 3, none⟩,
    ⟨some 32, .binOp .eql 3 (.tmp 31) (.const (.int .i64 0)) 3, none⟩,
    ⟨some 33, .move (.tmp 32), none⟩,
    ⟨some 34, .move (.tmp 6), some (33, true)⟩,
    ⟨some 35, .binOp .eql 23 (.tmp 34) (.const (.int .i64 2)) 23, some (33, true)⟩,
    ⟨some 36, .pick (.tmp 33) (.tmp 35) (.const (.bool false)), none⟩,
    ⟨some 37, .move (.tmp 36), none⟩,
    ⟨some 38, .move (.tmp 8), some (37, true)⟩,
    ⟨some 39, .binOp .eql 23 (.tmp 38) (.const (.int .i64 2)) 23, some (37, true)⟩,
    ⟨some 40, .pick (.tmp 37) (.tmp 39) (.const (.bool false)), none⟩,
    ⟨some 41, .move (.tmp 40), none⟩,
    ⟨some 42, .call { callee := .value (.func 21), args := #[], argTypes := #[] }, some (41, true)⟩,
    ⟨some 43, .pick (.tmp 41) (.tmp 42) (.const (.bool false)), none⟩,
    ⟨some 4, .assign (.tmp 43), none⟩]
@[reducible] def q4_5 : SCode := .region [⟨some 44, .move (.tmp 5), none⟩,
    ⟨some 45, .move (.tmp 0), none⟩,
    ⟨some 46, .call { callee := .value (.func 26), args := #[.tmp 45], argTypes := #[22] }, none⟩,
    ⟨some 47, .call { callee := .value (.func 25), args := #[.tmp 44, .tmp 46], argTypes := #[22, 22] }, none⟩,
    ⟨some 48, .unOp .not 4 (.tmp 47), none⟩,
    ⟨some 49, .move (.tmp 48), none⟩,
    ⟨some 50, .move (.tmp 6), some (49, false)⟩,
    ⟨some 51, .binOp .neq 23 (.tmp 50) (.const (.int .i64 0)) 23, some (49, false)⟩,
    ⟨some 52, .pick (.tmp 49) (.const (.bool true)) (.tmp 51), none⟩,
    ⟨some 53, .move (.tmp 52), none⟩,
    ⟨some 54, .call { callee := .value (.func 21), args := #[], argTypes := #[] }, some (53, false)⟩,
    ⟨some 55, .unOp .not 4 (.tmp 54), some (53, false)⟩,
    ⟨some 56, .pick (.tmp 53) (.const (.bool true)) (.tmp 55), none⟩]
@[reducible] def q4_6 : SCode := .region [⟨some 4, .assign (.const (.bool false)), none⟩]
@[reducible] def q4_7 : SCode := .region [⟨some 57, .move (.tmp 1), none⟩,
    ⟨some 58, .binOp .lss 3 (.tmp 57) (.const (.int .i64 3)) 3, none⟩,
    ⟨some 59, .move (.tmp 58), none⟩,
    ⟨some 60, .move (.tmp 1), some (59, false)⟩,
    ⟨some 61, .move (.tmp 0), some (59, false)⟩,
    ⟨some 62, .call { callee := .builtin .len, args := #[.tmp 61], argTypes := #[22] }, some (59, false)⟩,
    ⟨some 63, .binOp .gtr 3 (.tmp 60) (.tmp 62) 3, some (59, false)⟩,
    ⟨some 64, .pick (.tmp 59) (.const (.bool true)) (.tmp 63), none⟩]
@[reducible] def q4_8 : SCode := .region [⟨some 65, .move (.tmp 7), none⟩,
    ⟨some 66, .call { callee := .builtin .len, args := #[.tmp 65], argTypes := #[22] }, none⟩,
    ⟨some 67, .binOp .eql 3 (.tmp 66) (.const (.int .i64 0)) 3, none⟩,
    ⟨some 68, .move (.tmp 67), none⟩,
    ⟨some 69, .move (.tmp 8), some (68, true)⟩,
    ⟨some 70, .binOp .eql 23 (.tmp 69) (.const (.int .i64 2)) 23, some (68, true)⟩,
    ⟨some 71, .pick (.tmp 68) (.tmp 70) (.const (.bool false)), none⟩,
    ⟨some 4, .assign (.tmp 71), none⟩]
@[reducible] def q4_9 : SCode := .region [⟨some 73, .move (.tmp 0), none⟩,
    ⟨some 74, .move (.tmp 1), none⟩,
    ⟨some 75, .call { callee := .value (.func 27), args := #[.tmp 73, .tmp 74], argTypes := #[22, 3] }, none⟩,
    ⟨some 72, .move (.tmp 75), none⟩,
    ⟨some 76, .extract (.tmp 72) 0, none⟩,
    ⟨some 77, .extract (.tmp 72) 1, none⟩,
    ⟨some 9, .assign (.tmp 76), none⟩,
    ⟨some 10, .assign (.tmp 77), none⟩]
@[reducible] def q4_10 : SCode := .region [⟨some 78, .move (.tmp 7), none⟩,
    ⟨some 79, .move (.tmp 9), none⟩,
    ⟨some 80, .call { callee := .value (.func 25), args := #[.tmp 78, .tmp 79], argTypes := #[22, 22] }, none⟩,
    ⟨some 81, .move (.tmp 80), none⟩,
    ⟨some 82, .move (.tmp 8), some (81, true)⟩,
    ⟨some 83, .move (.tmp 10), some (81, true)⟩,
    ⟨some 84, .binOp .eql 23 (.tmp 82) (.tmp 83) 23, some (81, true)⟩,
    ⟨some 85, .pick (.tmp 81) (.tmp 84) (.const (.bool false)), none⟩,
    ⟨some 4, .assign (.tmp 85), none⟩]
def s4 : SCode := (.seq q4_0 (.seq q4_1 (.seq q4_2 (.seq (.seq q4_3 (.cond (.tmp 26) (.seq q4_4 .ret) .skip)) (.seq (.seq q4_5 (.cond (.tmp 56) (.seq q4_6 .ret) .skip)) (.seq (.seq q4_7 (.cond (.tmp 64) (.seq q4_8 .ret) .skip)) (.seq q4_9 (.seq q4_10 .ret))))))))
/-! 18: planchet ranks.Way -/
@[reducible] def q18_0 : SCode := .region [⟨some 2, .assign (.const (.slice none 0 0)), none⟩,
    ⟨some 3, .assign (.const (.int .i64 0)), none⟩]
@[reducible] def q18_1 : SCode := .region [⟨some 5, .move (.tmp 0), none⟩,
    ⟨some 4, .assign (.tmp 5), none⟩]
@[reducible] def q18_2 : SCode := .region [⟨some 6, .move (.tmp 4), none⟩,
    ⟨some 7, .call { callee := .value (.func 56), args := #[.tmp 6], argTypes := #[55] }, none⟩,
    ⟨some 8, .unOp .not 4 (.tmp 7), none⟩]
@[reducible] def q18_3 : SCode := .region [⟨some 2, .assign (.const (.slice none 0 0)), none⟩,
    ⟨some 3, .assign (.const (.int .i64 2)), none⟩]
@[reducible] def q18_4 : SCode := .region [⟨some 9, .move (.tmp 4), none⟩,
    ⟨some 10, .move (.tmp 0), none⟩,
    ⟨some 11, .call { callee := .builtin .len, args := #[.tmp 10], argTypes := #[22] }, none⟩,
    ⟨some 12, .call { callee := .value (.func 57), args := #[.tmp 9, .tmp 11, .func 58], argTypes := #[55, 3, 27] }, none⟩,
    ⟨some 2, .assign (.tmp 12), none⟩,
    ⟨some 3, .assign (.const (.int .i64 0)), none⟩]
def s18 : SCode := (.seq q18_0 (.seq q18_1 (.seq (.seq q18_2 (.cond (.tmp 8) (.seq q18_3 .ret) .skip)) (.seq q18_4 .ret))))
theorem s18_strip : stripC (bodyOf Tryd.f18) = s18 := by kernel_rfl
theorem s18_ok : codeOK 13 (bodyOf Tryd.f18) = true := by kernel_rfl
theorem s18_call [Tabs Tryd.prog] {args : List Value} {h : Heap} {Q : Value → Heap → Prop} (hsz : args.length ≤ 13) (hk : aw Tryd.prog 13 s18 (aPost Tryd.prog [.tmp 2, .tmp 3] Q) (argEnv 0 args) h) : ACall Tryd.prog 18 args h Q :=
  acall_s Tryd.func18 rfl (enters_of Tryd.func18 (by kernel_rfl) rfl) rfl rfl (by decide) s18_strip s18_ok hsz hk

/-! 19: planchet planchetlaw02.list -/
@[reducible] def q19_0 : SCode := .region [⟨some 2, .assign (.const (.slice none 0 0)), none⟩]
@[reducible] def q19_1 : SCode := .region [⟨some 3, .move (.tmp 0), none⟩,
    ⟨some 4, .move (.tmp 0), none⟩,
    ⟨some 5, .call { callee := .builtin .len, args := #[.tmp 4], argTypes := #[22] }, none⟩,
    ⟨some 6, .call { callee := .builtin .min, args := #[.tmp 5, .const (.int .i64 11)], argTypes := #[3, 3] }, none⟩,
    ⟨some 7, .slice 22 (.tmp 3) none (some (.tmp 6)) none, none⟩,
    ⟨some 8, .call { callee := .value (.func 46), args := #[.tmp 7], argTypes := #[22] }, none⟩,
    ⟨some 2, .assign (.tmp 8), none⟩]
def s19 : SCode := (.seq q19_0 (.seq q19_1 .ret))
theorem s19_strip : stripC (bodyOf Tryd.f19) = s19 := by kernel_rfl
theorem s19_ok : codeOK 9 (bodyOf Tryd.f19) = true := by kernel_rfl
theorem s19_call [Tabs Tryd.prog] {args : List Value} {h : Heap} {Q : Value → Heap → Prop} (hsz : args.length ≤ 9) (hk : aw Tryd.prog 9 s19 (aPost Tryd.prog [.tmp 2] Q) (argEnv 0 args) h) : ACall Tryd.prog 19 args h Q :=
  acall_s Tryd.func19 rfl (enters_of Tryd.func19 (by kernel_rfl) rfl) rfl rfl (by decide) s19_strip s19_ok hsz hk

/-! 20: planchet planchetref02.Valid -/
@[reducible] def q20_0 : SCode := .region [⟨some 2, .assign (.const (.bool false)), none⟩]
@[reducible] def q20_1 : SCode := .region [⟨some 7, .move (.tmp 0), none⟩,
    ⟨some 8, .call { callee := .builtin .len, args := #[.tmp 7], argTypes := #[22] }, none⟩,
    ⟨some 3, .assign (.tmp 8), none⟩]
@[reducible] def q20_2 : SCode := .region [⟨some 9, .move (.tmp 3), none⟩,
    ⟨some 10, .binOp .lss 3 (.tmp 9) (.const (.int .i64 1)) 3, none⟩,
    ⟨some 11, .move (.tmp 10), none⟩,
    ⟨some 12, .move (.tmp 3), some (11, false)⟩,
    ⟨some 13, .binOp .gtr 3 (.tmp 12) (.const (.int .i64 8)) 3, some (11, false)⟩,
    ⟨some 14, .pick (.tmp 11) (.const (.bool true)) (.tmp 13), none⟩]
@[reducible] def q20_3 : SCode := .region [⟨some 2, .assign (.const (.bool false)), none⟩]
@[reducible] def q20_4 : SCode := .region [⟨some 15, .move (.tmp 0), none⟩,
    ⟨some 16, .call { callee := .builtin .len, args := #[.tmp 15], argTypes := #[22] }, none⟩,
    ⟨some 17, .move (.const (.int .i64 0)), none⟩]
@[reducible] def q20_5 : SCode := .region [⟨some 18, .binOp .lss 3 (.tmp 17) (.tmp 16) 3, none⟩]
@[reducible] def q20_6 : SCode := .region [⟨some 19, .move (.tmp 17), none⟩,
    ⟨some 20, .indexAddr 22 (.tmp 15) (.tmp 17), none⟩,
    ⟨some 21, .load 3 (.tmp 20), none⟩,
    ⟨some 4, .assign (.tmp 19), none⟩,
    ⟨some 5, .assign (.tmp 21), none⟩]
@[reducible] def q20_7 : SCode := .region [⟨some 22, .move (.tmp 5), none⟩,
    ⟨some 23, .binOp .lss 3 (.tmp 22) (.const (.int .i64 0)) 3, none⟩,
    ⟨some 24, .move (.tmp 23), none⟩,
    ⟨some 25, .move (.tmp 5), some (24, false)⟩,
    ⟨some 26, .move (.tmp 3), some (24, false)⟩,
    ⟨some 27, .binOp .shl 3 (.const (.int .i64 1)) (.tmp 26) 3, some (24, false)⟩,
    ⟨some 28, .binOp .geq 3 (.tmp 25) (.tmp 27) 3, some (24, false)⟩,
    ⟨some 29, .pick (.tmp 24) (.const (.bool true)) (.tmp 28), none⟩,
    ⟨some 30, .move (.tmp 29), none⟩,
    ⟨some 31, .move (.tmp 5), some (30, false)⟩,
    ⟨some 32, .move (.tmp 4), some (30, false)⟩,
    ⟨some 33, .binOp .shr 3 (.tmp 31) (.tmp 32) 3, some (30, false)⟩,
    ⟨some 34, .binOp .and 3 (.tmp 33) (.const (.int .i64 1)) 3, some (30, false)⟩,
    ⟨some 35, .binOp .eql 3 (.tmp 34) (.const (.int .i64 1)) 3, some (30, false)⟩,
    ⟨some 36, .pick (.tmp 30) (.const (.bool true)) (.tmp 35), none⟩]
@[reducible] def q20_8 : SCode := .region [⟨some 2, .assign (.const (.bool false)), none⟩]
@[reducible] def q20_9 : SCode := .region [⟨some 37, .move (.tmp 4), none⟩,
    ⟨some 38, .move (.const (.int .i64 0)), none⟩]
@[reducible] def q20_10 : SCode := .region [⟨some 39, .binOp .lss 3 (.tmp 38) (.tmp 37) 3, none⟩]
@[reducible] def q20_11 : SCode := .region [⟨some 40, .move (.tmp 38), none⟩,
    ⟨some 6, .assign (.tmp 40), none⟩]
def q20_12 : SCode := .draw [⟨some 41, .move (.tmp 5), none⟩,
    ⟨some 42, .move (.tmp 6), none⟩,
    ⟨some 43, .binOp .shr 3 (.tmp 41) (.tmp 42) 3, none⟩,
    ⟨some 44, .binOp .and 3 (.tmp 43) (.const (.int .i64 1)) 3, none⟩,
    ⟨some 45, .move (.tmp 0), none⟩,
    ⟨some 46, .move (.tmp 6), none⟩,
    ⟨some 47, .indexAddr 22 (.tmp 45) (.tmp 46), none⟩,
    ⟨some 48, .load 3 (.tmp 47), none⟩,
    ⟨some 49, .move (.tmp 4), none⟩,
    ⟨some 50, .binOp .shr 3 (.tmp 48) (.tmp 49) 3, none⟩,
    ⟨some 51, .binOp .and 3 (.tmp 50) (.const (.int .i64 1)) 3, none⟩,
    ⟨some 52, .binOp .eql 3 (.tmp 44) (.tmp 51) 3, none⟩]
   [[], [], [0, 1], [2], [], [], [4, 5], [6], [], [7, 8], [9], [3, 10]]
@[reducible] def q20_13 : SCode := .region [⟨some 2, .assign (.const (.bool false)), none⟩]
@[reducible] def q20_14 : SCode := .region [⟨some 53, .binOp .add 3 (.tmp 38) (.const (.int .i64 1)) 3, none⟩,
    ⟨some 38, .move (.tmp 53), none⟩]
def l20_0 : SCode := (.seq q20_10 (.seq (.cond (.tmp 39) .skip (.exit 2)) (.seq (.block 3 (.seq q20_11 (.seq q20_12 (.cond (.tmp 52) (.seq q20_13 .ret) .skip)))) q20_14)))
@[reducible] def q20_15 : SCode := .region [⟨some 54, .binOp .add 3 (.tmp 17) (.const (.int .i64 1)) 3, none⟩,
    ⟨some 17, .move (.tmp 54), none⟩]
def l20_1 : SCode := (.seq q20_5 (.seq (.cond (.tmp 18) .skip (.exit 0)) (.seq (.block 1 (.seq q20_6 (.seq (.seq q20_7 (.cond (.tmp 36) (.seq q20_8 .ret) .skip)) (.seq q20_9 (.block 2 (.loop l20_0)))))) q20_15)))
@[reducible] def q20_16 : SCode := .region [⟨some 2, .assign (.const (.bool true)), none⟩]
def s20 : SCode := (.seq q20_0 (.seq q20_1 (.seq (.seq q20_2 (.cond (.tmp 14) (.seq q20_3 .ret) .skip)) (.seq (.seq q20_4 (.block 0 (.loop l20_1))) (.seq q20_16 .ret)))))
theorem s20_strip : stripC (bodyOf Tryd.f20) = s20 := by kernel_rfl
theorem s20_ok : codeOK 55 (bodyOf Tryd.f20) = true := by kernel_rfl
theorem s20_call [Tabs Tryd.prog] {args : List Value} {h : Heap} {Q : Value → Heap → Prop} (hsz : args.length ≤ 55) (hk : aw Tryd.prog 55 s20 (aPost Tryd.prog [.tmp 2] Q) (argEnv 0 args) h) : ACall Tryd.prog 20 args h Q :=
  acall_s Tryd.func20 rfl (enters_of Tryd.func20 (by kernel_rfl) rfl) rfl rfl (by decide) s20_strip s20_ok hsz hk

/-! 21: planchet planchetlaw02.awake -/
@[reducible] def q21_0 : SCode := .region [⟨some 0, .assign (.const (.bool false)), none⟩]
@[reducible] def q21_1 : SCode := .region [⟨some 4, .buildSlice 22 2 #[(0, .const (.int .i64 0)), (1, .const (.int .i64 1))], none⟩,
    ⟨some 5, .call { callee := .value (.func 18), args := #[.tmp 4], argTypes := #[22] }, none⟩,
    ⟨some 3, .move (.tmp 5), none⟩,
    ⟨some 6, .extract (.tmp 3) 0, none⟩,
    ⟨some 7, .extract (.tmp 3) 1, none⟩,
    ⟨some 1, .assign (.tmp 6), none⟩,
    ⟨some 2, .assign (.tmp 7), none⟩]
@[reducible] def q21_2 : SCode := .region [⟨some 8, .move (.tmp 2), none⟩,
    ⟨some 9, .binOp .eql 23 (.tmp 8) (.const (.int .i64 0)) 23, none⟩,
    ⟨some 10, .move (.tmp 9), none⟩,
    ⟨some 11, .move (.tmp 1), some (10, true)⟩,
    ⟨some 12, .buildSlice 22 2 #[(0, .const (.int .i64 1)), (1, .const (.int .i64 0))], some (10, true)⟩,
    ⟨some 13, .call { callee := .value (.func 25), args := #[.tmp 11, .tmp 12], argTypes := #[22, 22] }, some (10, true)⟩,
    ⟨some 14, .pick (.tmp 10) (.tmp 13) (.const (.bool false)), none⟩,
    ⟨some 0, .assign (.tmp 14), none⟩]
def s21 : SCode := (.seq q21_0 (.seq q21_1 (.seq q21_2 .ret)))
theorem s21_strip : stripC (bodyOf Tryd.f21) = s21 := by kernel_rfl
theorem s21_ok : codeOK 15 (bodyOf Tryd.f21) = true := by kernel_rfl
theorem s21_call [Tabs Tryd.prog] {args : List Value} {h : Heap} {Q : Value → Heap → Prop} (hsz : args.length ≤ 15) (hk : aw Tryd.prog 15 s21 (aPost Tryd.prog [.tmp 0] Q) (argEnv 0 args) h) : ACall Tryd.prog 21 args h Q :=
  acall_s Tryd.func21 rfl (enters_of Tryd.func21 (by kernel_rfl) rfl) rfl rfl (by decide) s21_strip s21_ok hsz hk

/-! 25: slices.Equal[[]int,int] -/
@[reducible] def q25_0 : SCode := .region [⟨some 4, .assign (.const (.bool false)), none⟩]
@[reducible] def q25_1 : SCode := .region [⟨some 6, .move (.tmp 0), none⟩,
    ⟨some 7, .call { callee := .builtin .len, args := #[.tmp 6], argTypes := #[22] }, none⟩,
    ⟨some 8, .move (.tmp 1), none⟩,
    ⟨some 9, .call { callee := .builtin .len, args := #[.tmp 8], argTypes := #[22] }, none⟩,
    ⟨some 10, .binOp .neq 3 (.tmp 7) (.tmp 9) 3, none⟩]
@[reducible] def q25_2 : SCode := .region [⟨some 4, .assign (.const (.bool false)), none⟩]
@[reducible] def q25_3 : SCode := .region [⟨some 11, .move (.tmp 0), none⟩,
    ⟨some 12, .call { callee := .builtin .len, args := #[.tmp 11], argTypes := #[22] }, none⟩,
    ⟨some 13, .move (.const (.int .i64 0)), none⟩]
@[reducible] def q25_4 : SCode := .region [⟨some 14, .binOp .lss 3 (.tmp 13) (.tmp 12) 3, none⟩]
@[reducible] def q25_5 : SCode := .region [⟨some 15, .move (.tmp 13), none⟩,
    ⟨some 5, .assign (.tmp 15), none⟩]
def q25_6 : SCode := .draw [⟨some 16, .move (.tmp 0), none⟩,
    ⟨some 17, .move (.tmp 5), none⟩,
    ⟨some 18, .indexAddr 22 (.tmp 16) (.tmp 17), none⟩,
    ⟨some 19, .load 3 (.tmp 18), none⟩,
    ⟨some 20, .move (.tmp 1), none⟩,
    ⟨some 21, .move (.tmp 5), none⟩,
    ⟨some 22, .indexAddr 22 (.tmp 20) (.tmp 21), none⟩,
    ⟨some 23, .load 3 (.tmp 22), none⟩,
    ⟨some 24, .binOp .neq 3 (.tmp 19) (.tmp 23) 3, none⟩]
   [[], [], [0, 1], [2], [], [], [4, 5], [6], [3, 7]]
@[reducible] def q25_7 : SCode := .region [⟨some 4, .assign (.const (.bool false)), none⟩]
@[reducible] def q25_8 : SCode := .region [⟨some 25, .binOp .add 3 (.tmp 13) (.const (.int .i64 1)) 3, none⟩,
    ⟨some 13, .move (.tmp 25), none⟩]
def l25_0 : SCode := (.seq q25_4 (.seq (.cond (.tmp 14) .skip (.exit 0)) (.seq (.block 1 (.seq q25_5 (.seq q25_6 (.cond (.tmp 24) (.seq q25_7 .ret) .skip)))) q25_8)))
@[reducible] def q25_9 : SCode := .region [⟨some 4, .assign (.const (.bool true)), none⟩]
def s25 : SCode := (.seq q25_0 (.seq (.seq q25_1 (.cond (.tmp 10) (.seq q25_2 .ret) .skip)) (.seq (.seq q25_3 (.block 0 (.loop l25_0))) (.seq q25_9 .ret))))
theorem s25_strip : stripC (bodyOf Tryd.f25) = s25 := by kernel_rfl
theorem s25_ok : codeOK 26 (bodyOf Tryd.f25) = true := by kernel_rfl
theorem s25_call [Tabs Tryd.prog] {args : List Value} {h : Heap} {Q : Value → Heap → Prop} (hsz : args.length ≤ 26) (hk : aw Tryd.prog 26 s25 (aPost Tryd.prog [.tmp 4] Q) (argEnv 0 args) h) : ACall Tryd.prog 25 args h Q :=
  acall_s Tryd.func25 rfl (enters_of Tryd.func25 (by kernel_rfl) rfl) rfl rfl (by decide) s25_strip s25_ok hsz hk

/-! 46: slices.Clone[[]int,int] -/
@[reducible] def q46_0 : SCode := .region [⟨some 2, .assign (.const (.slice none 0 0)), none⟩]
@[reducible] def q46_1 : SCode := .region [⟨some 3, .move (.tmp 0), none⟩,
    ⟨some 4, .binOp .eql 22 (.tmp 3) (.const (.slice none 0 0)) 22, none⟩]
@[reducible] def q46_2 : SCode := .region [⟨some 2, .assign (.const (.slice none 0 0)), none⟩]
@[reducible] def q46_3 : SCode := .region [⟨some 5, .buildSlice 22 0 #[], none⟩,
    ⟨some 6, .move (.tmp 0), none⟩,
    ⟨some 7, .call { callee := .builtin .append, args := #[.tmp 5, .tmp 6], argTypes := #[22, 22] }, none⟩,
    ⟨some 2, .assign (.tmp 7), none⟩]
def s46 : SCode := (.seq q46_0 (.seq (.seq q46_1 (.cond (.tmp 4) (.seq q46_2 .ret) .skip)) (.seq q46_3 .ret)))
theorem s46_strip : stripC (bodyOf Tryd.f46) = s46 := by kernel_rfl
theorem s46_ok : codeOK 8 (bodyOf Tryd.f46) = true := by kernel_rfl
theorem s46_call [Tabs Tryd.prog] {args : List Value} {h : Heap} {Q : Value → Heap → Prop} (hsz : args.length ≤ 8) (hk : aw Tryd.prog 8 s46 (aPost Tryd.prog [.tmp 2] Q) (argEnv 0 args) h) : ACall Tryd.prog 46 args h Q :=
  acall_s Tryd.func46 rfl (enters_of Tryd.func46 (by kernel_rfl) rfl) rfl rfl (by decide) s46_strip s46_ok hsz hk

/-! 56: (planchet ranks.tournament).valid -/
@[reducible] def q56_0 : SCode := .region [⟨some 2, .assign (.const (.bool false)), none⟩]
@[reducible] def q56_1 : SCode := .region [⟨some 7, .move (.tmp 0), none⟩,
    ⟨some 8, .call { callee := .builtin .len, args := #[.tmp 7], argTypes := #[55] }, none⟩,
    ⟨some 3, .assign (.tmp 8), none⟩]
@[reducible] def q56_2 : SCode := .region [⟨some 9, .move (.tmp 3), none⟩,
    ⟨some 10, .binOp .lss 3 (.tmp 9) (.const (.int .i64 1)) 3, none⟩,
    ⟨some 11, .move (.tmp 10), none⟩,
    ⟨some 12, .move (.tmp 3), some (11, false)⟩,
    ⟨some 13, .binOp .gtr 3 (.tmp 12) (.const (.int .i64 8)) 3, some (11, false)⟩,
    ⟨some 14, .pick (.tmp 11) (.const (.bool true)) (.tmp 13), none⟩]
@[reducible] def q56_3 : SCode := .region [⟨some 2, .assign (.const (.bool false)), none⟩]
@[reducible] def q56_4 : SCode := .region [⟨some 15, .move (.tmp 0), none⟩,
    ⟨some 16, .call { callee := .builtin .len, args := #[.tmp 15], argTypes := #[55] }, none⟩,
    ⟨some 17, .move (.const (.int .i64 0)), none⟩]
@[reducible] def q56_5 : SCode := .region [⟨some 18, .binOp .lss 3 (.tmp 17) (.tmp 16) 3, none⟩]
@[reducible] def q56_6 : SCode := .region [⟨some 19, .move (.tmp 17), none⟩,
    ⟨some 20, .indexAddr 55 (.tmp 15) (.tmp 17), none⟩,
    ⟨some 21, .load 3 (.tmp 20), none⟩,
    ⟨some 4, .assign (.tmp 19), none⟩,
    ⟨some 5, .assign (.tmp 21), none⟩]
@[reducible] def q56_7 : SCode := .region [⟨some 22, .move (.tmp 5), none⟩,
    ⟨some 23, .binOp .lss 3 (.tmp 22) (.const (.int .i64 0)) 3, none⟩,
    ⟨some 24, .move (.tmp 23), none⟩,
    ⟨some 25, .move (.tmp 5), some (24, false)⟩,
    ⟨some 26, .move (.tmp 3), some (24, false)⟩,
    ⟨some 27, .binOp .shl 3 (.const (.int .i64 1)) (.tmp 26) 3, some (24, false)⟩,
    ⟨some 28, .binOp .geq 3 (.tmp 25) (.tmp 27) 3, some (24, false)⟩,
    ⟨some 29, .pick (.tmp 24) (.const (.bool true)) (.tmp 28), none⟩,
    ⟨some 30, .move (.tmp 29), none⟩,
    ⟨some 31, .move (.tmp 5), some (30, false)⟩,
    ⟨some 32, .move (.tmp 4), some (30, false)⟩,
    ⟨some 33, .binOp .shr 3 (.tmp 31) (.tmp 32) 3, some (30, false)⟩,
    ⟨some 34, .binOp .and 3 (.tmp 33) (.const (.int .i64 1)) 3, some (30, false)⟩,
    ⟨some 35, .binOp .eql 3 (.tmp 34) (.const (.int .i64 1)) 3, some (30, false)⟩,
    ⟨some 36, .pick (.tmp 30) (.const (.bool true)) (.tmp 35), none⟩]
@[reducible] def q56_8 : SCode := .region [⟨some 2, .assign (.const (.bool false)), none⟩]
@[reducible] def q56_9 : SCode := .region [⟨some 37, .move (.tmp 4), none⟩,
    ⟨some 38, .move (.const (.int .i64 0)), none⟩]
@[reducible] def q56_10 : SCode := .region [⟨some 39, .binOp .lss 3 (.tmp 38) (.tmp 37) 3, none⟩]
@[reducible] def q56_11 : SCode := .region [⟨some 40, .move (.tmp 38), none⟩,
    ⟨some 6, .assign (.tmp 40), none⟩]
def q56_12 : SCode := .draw [⟨some 41, .move (.tmp 5), none⟩,
    ⟨some 42, .move (.tmp 6), none⟩,
    ⟨some 43, .binOp .shr 3 (.tmp 41) (.tmp 42) 3, none⟩,
    ⟨some 44, .binOp .and 3 (.tmp 43) (.const (.int .i64 1)) 3, none⟩,
    ⟨some 45, .move (.tmp 0), none⟩,
    ⟨some 46, .move (.tmp 6), none⟩,
    ⟨some 47, .indexAddr 55 (.tmp 45) (.tmp 46), none⟩,
    ⟨some 48, .load 3 (.tmp 47), none⟩,
    ⟨some 49, .move (.tmp 4), none⟩,
    ⟨some 50, .binOp .shr 3 (.tmp 48) (.tmp 49) 3, none⟩,
    ⟨some 51, .binOp .and 3 (.tmp 50) (.const (.int .i64 1)) 3, none⟩,
    ⟨some 52, .binOp .eql 3 (.tmp 44) (.tmp 51) 3, none⟩]
   [[], [], [0, 1], [2], [], [], [4, 5], [6], [], [7, 8], [9], [3, 10]]
@[reducible] def q56_13 : SCode := .region [⟨some 2, .assign (.const (.bool false)), none⟩]
@[reducible] def q56_14 : SCode := .region [⟨some 53, .binOp .add 3 (.tmp 38) (.const (.int .i64 1)) 3, none⟩,
    ⟨some 38, .move (.tmp 53), none⟩]
def l56_0 : SCode := (.seq q56_10 (.seq (.cond (.tmp 39) .skip (.exit 2)) (.seq (.block 3 (.seq q56_11 (.seq q56_12 (.cond (.tmp 52) (.seq q56_13 .ret) .skip)))) q56_14)))
@[reducible] def q56_15 : SCode := .region [⟨some 54, .binOp .add 3 (.tmp 17) (.const (.int .i64 1)) 3, none⟩,
    ⟨some 17, .move (.tmp 54), none⟩]
def l56_1 : SCode := (.seq q56_5 (.seq (.cond (.tmp 18) .skip (.exit 0)) (.seq (.block 1 (.seq q56_6 (.seq (.seq q56_7 (.cond (.tmp 36) (.seq q56_8 .ret) .skip)) (.seq q56_9 (.block 2 (.loop l56_0)))))) q56_15)))
@[reducible] def q56_16 : SCode := .region [⟨some 2, .assign (.const (.bool true)), none⟩]
def s56 : SCode := (.seq q56_0 (.seq q56_1 (.seq (.seq q56_2 (.cond (.tmp 14) (.seq q56_3 .ret) .skip)) (.seq (.seq q56_4 (.block 0 (.loop l56_1))) (.seq q56_16 .ret)))))
theorem s56_strip : stripC (bodyOf Tryd.f56) = s56 := by kernel_rfl
theorem s56_ok : codeOK 55 (bodyOf Tryd.f56) = true := by kernel_rfl
theorem s56_call [Tabs Tryd.prog] {args : List Value} {h : Heap} {Q : Value → Heap → Prop} (hsz : args.length ≤ 55) (hk : aw Tryd.prog 55 s56 (aPost Tryd.prog [.tmp 2] Q) (argEnv 0 args) h) : ACall Tryd.prog 56 args h Q :=
  acall_s Tryd.func56 rfl (enters_of Tryd.func56 (by kernel_rfl) rfl) rfl rfl (by decide) s56_strip s56_ok hsz hk

/-! 57: (planchet ranks.tournament).walk -/
@[reducible] def q57_0 : SCode := .region [⟨some 3, .box 55 (.tmp 0), none⟩,
    ⟨some 4, .box 3 (.tmp 1), none⟩,
    ⟨some 5, .box 27 (.tmp 2), none⟩,
    ⟨some 6, .assign (.const (.slice none 0 0)), none⟩]
@[reducible] def q57_1 : SCode := .region [⟨some 7, .alloc 22, none⟩]
@[reducible] def q57_2 : SCode := .region [⟨some 8, .alloc 79, none⟩]
@[reducible] def q57_3 : SCode := .region [⟨some 9, .makeFunc (.func 92) #[] #[.tmp 7, .tmp 4, .tmp 5, .tmp 3, .tmp 8], none⟩,
    ⟨none, .store 79 (.tmp 8) (.tmp 9), none⟩]
def q57_4 : SCode := .draw [⟨some 10, .load 79 (.tmp 8), none⟩,
    ⟨some 11, .load 55 (.tmp 3), none⟩,
    ⟨some 12, .call { callee := .value (.func 63), args := #[.tmp 11], argTypes := #[55] }, none⟩,
    ⟨some 13, .call { callee := .value (.tmp 10), args := #[.tmp 12], argTypes := #[3] }, none⟩,
    ⟨some 14, .unOp .not 4 (.tmp 13), none⟩]
   [[], [], [1], [0, 2, 2], [3]]
@[reducible] def q57_5 : SCode := .region [⟨some 6, .assign (.const (.slice none 0 0)), none⟩]
@[reducible] def q57_6 : SCode := .region [⟨some 15, .load 22 (.tmp 7), none⟩,
    ⟨some 6, .assign (.tmp 15), none⟩]
def s57 : SCode := (.seq q57_0 (.seq q57_1 (.seq q57_2 (.seq q57_3 (.seq (.seq q57_4 (.cond (.tmp 14) (.seq q57_5 .ret) .skip)) (.seq q57_6 .ret))))))
theorem s57_strip : stripC (bodyOf Tryd.f57) = s57 := by kernel_rfl
theorem s57_ok : codeOK 16 (bodyOf Tryd.f57) = true := by kernel_rfl
theorem s57_call [Tabs Tryd.prog] {args : List Value} {h : Heap} {Q : Value → Heap → Prop} (hsz : args.length ≤ 16) (hk : aw Tryd.prog 16 s57 (aPost Tryd.prog [.tmp 6] Q) (argEnv 0 args) h) : ACall Tryd.prog 57 args h Q :=
  acall_s Tryd.func57 rfl (enters_of Tryd.func57 (by kernel_rfl) rfl) rfl rfl (by decide) s57_strip s57_ok hsz hk

/-! 58: planchet ranks.Way$1 -/
@[reducible] def q58_0 : SCode := .region [⟨some 2, .assign (.const (.bool false)), none⟩]
@[reducible] def q58_1 : SCode := .region [⟨some 2, .assign (.const (.bool true)), none⟩]
def s58 : SCode := (.seq q58_0 (.seq q58_1 .ret))
theorem s58_strip : stripC (bodyOf Tryd.f58) = s58 := by kernel_rfl
theorem s58_ok : codeOK 3 (bodyOf Tryd.f58) = true := by kernel_rfl
theorem s58_call [Tabs Tryd.prog] {args : List Value} {h : Heap} {Q : Value → Heap → Prop} (hsz : args.length ≤ 3) (hk : aw Tryd.prog 3 s58 (aPost Tryd.prog [.tmp 2] Q) (argEnv 0 args) h) : ACall Tryd.prog 58 args h Q :=
  acall_s Tryd.func58 rfl (enters_of Tryd.func58 (by kernel_rfl) rfl) rfl rfl (by decide) s58_strip s58_ok hsz hk

/-! 60: (planchet ranks.tournament).beats -/
@[reducible] def q60_0 : SCode := .region [⟨some 6, .assign (.const (.bool false)), none⟩]
@[reducible] def q60_1 : SCode := .region [⟨some 7, .move (.tmp 0), none⟩,
    ⟨some 8, .move (.tmp 1), none⟩,
    ⟨some 9, .indexAddr 55 (.tmp 7) (.tmp 8), none⟩,
    ⟨some 10, .load 3 (.tmp 9), none⟩,
    ⟨some 11, .move (.tmp 2), none⟩,
    ⟨some 12, .binOp .shr 3 (.tmp 10) (.tmp 11) 3, none⟩,
    ⟨some 13, .binOp .and 3 (.tmp 12) (.const (.int .i64 1)) 3, none⟩,
    ⟨some 14, .binOp .eql 3 (.tmp 13) (.const (.int .i64 1)) 3, none⟩,
    ⟨some 6, .assign (.tmp 14), none⟩]
def s60 : SCode := (.seq q60_0 (.seq q60_1 .ret))
theorem s60_strip : stripC (bodyOf Tryd.f60) = s60 := by kernel_rfl
theorem s60_ok : codeOK 15 (bodyOf Tryd.f60) = true := by kernel_rfl
theorem s60_call [Tabs Tryd.prog] {args : List Value} {h : Heap} {Q : Value → Heap → Prop} (hsz : args.length ≤ 15) (hk : aw Tryd.prog 15 s60 (aPost Tryd.prog [.tmp 6] Q) (argEnv 0 args) h) : ACall Tryd.prog 60 args h Q :=
  acall_s Tryd.func60 rfl (enters_of Tryd.func60 (by kernel_rfl) rfl) rfl rfl (by decide) s60_strip s60_ok hsz hk

/-! 62: planchet ranks.players -/
@[reducible] def q62_0 : SCode := .region [⟨some 1, .box 3 (.tmp 0), none⟩,
    ⟨some 2, .assign (.const .nilFunc), none⟩]
@[reducible] def q62_1 : SCode := .region [⟨some 3, .makeFunc (.func 93) #[] #[.tmp 1], none⟩,
    ⟨some 2, .assign (.tmp 3), none⟩]
def s62 : SCode := (.seq q62_0 (.seq q62_1 .ret))
theorem s62_strip : stripC (bodyOf Tryd.f62) = s62 := by kernel_rfl
theorem s62_ok : codeOK 4 (bodyOf Tryd.f62) = true := by kernel_rfl
theorem s62_call [Tabs Tryd.prog] {args : List Value} {h : Heap} {Q : Value → Heap → Prop} (hsz : args.length ≤ 4) (hk : aw Tryd.prog 4 s62 (aPost Tryd.prog [.tmp 2] Q) (argEnv 0 args) h) : ACall Tryd.prog 62 args h Q :=
  acall_s Tryd.func62 rfl (enters_of Tryd.func62 (by kernel_rfl) rfl) rfl rfl (by decide) s62_strip s62_ok hsz hk

/-! 63: (planchet ranks.tournament).all -/
@[reducible] def q63_0 : SCode := .region [⟨some 2, .assign (.const (.int .i64 0)), none⟩]
@[reducible] def q63_1 : SCode := .region [⟨some 3, .move (.tmp 0), none⟩,
    ⟨some 4, .call { callee := .builtin .len, args := #[.tmp 3], argTypes := #[55] }, none⟩,
    ⟨some 5, .binOp .shl 3 (.const (.int .i64 1)) (.tmp 4) 3, none⟩,
    ⟨some 6, .binOp .sub 3 (.tmp 5) (.const (.int .i64 1)) 3, none⟩,
    ⟨some 2, .assign (.tmp 6), none⟩]
def s63 : SCode := (.seq q63_0 (.seq q63_1 .ret))
theorem s63_strip : stripC (bodyOf Tryd.f63) = s63 := by kernel_rfl
theorem s63_ok : codeOK 7 (bodyOf Tryd.f63) = true := by kernel_rfl
theorem s63_call [Tabs Tryd.prog] {args : List Value} {h : Heap} {Q : Value → Heap → Prop} (hsz : args.length ≤ 7) (hk : aw Tryd.prog 7 s63 (aPost Tryd.prog [.tmp 2] Q) (argEnv 0 args) h) : ACall Tryd.prog 63 args h Q :=
  acall_s Tryd.func63 rfl (enters_of Tryd.func63 (by kernel_rfl) rfl) rfl rfl (by decide) s63_strip s63_ok hsz hk

/-! 92: (planchet ranks.tournament).walk$1 -/
@[reducible] def q92_0 : SCode := .region [⟨some 6, .box 3 (.tmp 0), none⟩,
    ⟨some 7, .alloc 4, none⟩]
@[reducible] def q92_1 : SCode := .region [⟨some 9, .load 22 (.tmp 1), none⟩,
    ⟨some 10, .call { callee := .builtin .len, args := #[.tmp 9], argTypes := #[22] }, none⟩,
    ⟨some 11, .load 3 (.tmp 2), none⟩,
    ⟨some 12, .binOp .eql 3 (.tmp 10) (.tmp 11) 3, none⟩]
@[reducible] def q92_2 : SCode := .region [⟨some 13, .load 27 (.tmp 3), none⟩,
    ⟨some 14, .load 22 (.tmp 1), none⟩,
    ⟨some 15, .call { callee := .value (.tmp 13), args := #[.tmp 14], argTypes := #[22] }, none⟩,
    ⟨none, .store 4 (.tmp 7) (.tmp 15), none⟩]
@[reducible] def q92_3 : SCode := .region [⟨some 16, .load 3 (.tmp 6), none⟩,
    ⟨some 17, .call { callee := .value (.func 62), args := #[.tmp 16], argTypes := #[3] }, none⟩]
@[reducible] def q92_4 : SCode := .region [⟨some 8, .assign (.tmp 18), none⟩]
def q92_5 : SCode := .draw [⟨some 19, .load 22 (.tmp 1), none⟩,
    ⟨some 20, .call { callee := .builtin .len, args := #[.tmp 19], argTypes := #[22] }, none⟩,
    ⟨some 21, .binOp .gtr 3 (.tmp 20) (.const (.int .i64 0)) 3, none⟩,
    ⟨some 22, .move (.tmp 21), none⟩,
    ⟨some 23, .load 55 (.tmp 4), some (22, true)⟩,
    ⟨some 24, .load 22 (.tmp 1), some (22, true)⟩,
    ⟨some 25, .load 22 (.tmp 1), some (22, true)⟩,
    ⟨some 26, .call { callee := .builtin .len, args := #[.tmp 25], argTypes := #[22] }, some (22, true)⟩,
    ⟨some 27, .binOp .sub 3 (.tmp 26) (.const (.int .i64 1)) 3, some (22, true)⟩,
    ⟨some 28, .indexAddr 22 (.tmp 24) (.tmp 27), some (22, true)⟩,
    ⟨some 29, .load 3 (.tmp 28), some (22, true)⟩,
    ⟨some 30, .move (.tmp 8), some (22, true)⟩,
    ⟨some 31, .call { callee := .value (.func 60), args := #[.tmp 23, .tmp 29, .tmp 30], argTypes := #[55, 3, 3] }, some (22, true)⟩,
    ⟨some 32, .unOp .not 4 (.tmp 31), some (22, true)⟩,
    ⟨some 33, .pick (.tmp 22) (.tmp 32) (.const (.bool false)), none⟩]
   [[], [0], [1], [2], [3], [3], [3], [6, 3], [7, 3], [5, 8, 3], [9, 3], [3], [4, 10, 11, 3, 3], [12, 3], [3, 13]]
@[reducible] def q92_6 : SCode := .region [⟨some 34, .load 22 (.tmp 1), none⟩,
    ⟨some 35, .move (.tmp 8), none⟩,
    ⟨some 36, .buildSlice 22 1 #[(0, .tmp 35)], none⟩,
    ⟨some 37, .call { callee := .builtin .append, args := #[.tmp 34, .tmp 36], argTypes := #[22, 22] }, none⟩,
    ⟨none, .store 22 (.tmp 1) (.tmp 37), none⟩]
def q92_7 : SCode := .draw [⟨some 38, .load 79 (.tmp 5), none⟩,
    ⟨some 39, .load 3 (.tmp 6), none⟩,
    ⟨some 40, .move (.tmp 8), none⟩,
    ⟨some 41, .binOp .shl 3 (.const (.int .i64 1)) (.tmp 40) 3, none⟩,
    ⟨some 42, .binOp .andNot 3 (.tmp 39) (.tmp 41) 3, none⟩,
    ⟨some 43, .call { callee := .value (.tmp 38), args := #[.tmp 42], argTypes := #[3] }, none⟩]
   [[], [], [], [2], [1, 3], [0, 4]]
@[reducible] def q92_8 : SCode := .region [⟨none, .store 4 (.tmp 7) (.const (.bool true)), none⟩]
@[reducible] def q92_9 : SCode := .region [⟨some 44, .load 22 (.tmp 1), none⟩,
    ⟨some 45, .load 22 (.tmp 1), none⟩,
    ⟨some 46, .call { callee := .builtin .len, args := #[.tmp 45], argTypes := #[22] }, none⟩,
    ⟨some 47, .binOp .sub 3 (.tmp 46) (.const (.int .i64 1)) 3, none⟩,
    ⟨some 48, .slice 22 (.tmp 44) none (some (.tmp 47)) none, none⟩,
    ⟨none, .store 22 (.tmp 1) (.tmp 48), none⟩]
def r92_0_a : SCode := q92_4
def r92_0_b : SCode := (.block 1 (.seq (.seq q92_5 (.cond (.tmp 33) (.exit 1) .skip)) (.seq q92_6 (.seq (.seq q92_7 (.cond (.tmp 43) (.seq q92_8 .ret) .skip)) q92_9))))
@[reducible] def q92_10 : SCode := .region [⟨none, .store 4 (.tmp 7) (.const (.bool false)), none⟩]
def s92 : SCode := (.seq q92_0 (.seq (.seq q92_1 (.cond (.tmp 12) (.seq q92_2 .ret) .skip)) (.seq (.seq q92_3 (.block 0 (.range (.tmp 17) [18] r92_0_a r92_0_b))) (.seq q92_10 .ret))))
theorem s92_strip : stripC (bodyOf Tryd.f92) = s92 := by kernel_rfl
theorem s92_ok : codeOK 49 (bodyOf Tryd.f92) = true := by kernel_rfl
theorem s92_call [Tabs Tryd.prog] {args : List Value} {h : Heap} {Q : Value → Heap → Prop} (hsz : args.length ≤ 49) (hk : aw Tryd.prog 49 s92 (aPost Tryd.prog [.cell 7 4] Q) (argEnv 0 args) h) : ACall Tryd.prog 92 args h Q :=
  acall_s Tryd.func92 rfl (enters_of Tryd.func92 (by kernel_rfl) rfl) rfl rfl (by decide) s92_strip s92_ok hsz hk

end Go.Proofs.Tryd.Am

namespace Go.Proofs.Tryd.Am
open Go.Am

def bitI (z : Int) (j : Nat) : Bool := z.toNat.testBit j
/-- Player i's set is one, and goes with those of the players before. -/
def okAt (xs : List Int) (i : Nat) : Bool :=
  decide (0 ≤ xs.getD i 0) && decide (xs.getD i 0 < 2 ^ xs.length) && !bitI (xs.getD i 0) i && (List.range i).all fun j => bitI (xs.getD i 0) j != bitI (xs.getD j 0) i
def trn (xs : List Int) : Bool := decide (1 ≤ xs.length) && decide (xs.length ≤ 8) && (List.range xs.length).all (okAt xs)

theorem testI {z : Int} (h0 : 0 ≤ z) (h1 : z < 9223372036854775808) (i : Nat) : bitsV .and .i64 (shrV .i64 z i) 1 = if bitI z i then 1 else 0 := by
  have := testV (a := z.toNat) (y := i) (by omega)
  rw [Int.toNat_of_nonneg h0] at this
  exact this
theorem pow8 {n : Nat} (h : n ≤ 8) : (2 : Int) ^ n ≤ 256 ∧ 0 < (2 : Int) ^ n := by
  have : n = 0 ∨ n = 1 ∨ n = 2 ∨ n = 3 ∨ n = 4 ∨ n = 5 ∨ n = 6 ∨ n = 7 ∨ n = 8 := by omega
  rcases this with rfl | rfl | rfl | rfl | rfl | rfl | rfl | rfl | rfl <;> decide
theorem shl1 {n : Nat} (h : n ≤ 62) : shlV .i64 1 n = 2 ^ n := by
  have h2 : 2 ^ n ≤ 2 ^ 62 := Nat.pow_le_pow_right (by decide) h
  have := shlV_nat (a := 1) (y := n) (by omega) (by omega)
  simpa using this

theorem valid_call [Tabs prog] {h : Heap} {v : Value} {xs : List Int} (hv : IntSl h v xs) (hl : xs.length < 9223372036854775808) (hx : ∀ x ∈ xs, -9223372036854775808 ≤ x ∧ x < 9223372036854775808) : APure prog 56 [v] h (.bool (trn xs)) := by
  refine s56_call (by simp) ?_
  simp (maxSteps := 2000000) only [s56, ↓aw_region, ↓aw_skip, ↓aw_seq, ↓aw_block, ↓aw_exit, ↓aw_ret, ↓sops_nil, ↓sops_go, ↓dops_nil, ↓dopsX_nil, ↓dopsR_nil, ↓vdn, vup, extr_20, extr_21, extr_30, extr_31, extr_32, List.map_cons, List.map_nil, cond_true, cond_false, aop, aThen, aBlock, argEnv, ev, sput, sputO, binK, binI, unK, builtinK, pickK, Nat.reduceBEq, Nat.reduceAdd, Int.reduceBEq, Int.reduceBNe, Int.reduceLT, aPost, resK, tup, tyf, hv.len]
  by_cases h1 : (xs.length : Int) < 1
  · have ht : trn xs = false := by simp [trn]; omega
    simp (maxSteps := 2000000) only [s56, ↓aw_region, ↓aw_skip, ↓aw_seq, ↓aw_block, ↓aw_exit, ↓aw_ret, ↓sops_nil, ↓sops_go, ↓dops_nil, ↓dopsX_nil, ↓dopsR_nil, ↓vdn, vup, extr_20, extr_21, extr_30, extr_31, extr_32, List.map_cons, List.map_nil, cond_true, cond_false, aop, aThen, aBlock, argEnv, ev, sput, sputO, binK, binI, unK, builtinK, pickK, Nat.reduceBEq, Nat.reduceAdd, Int.reduceBEq, Int.reduceBNe, Int.reduceLT, aPost, resK, tup, tyf, h1, ht]
  by_cases h8 : (8 : Int) < xs.length
  · have ht : trn xs = false := by simp [trn]; omega
    simp (maxSteps := 2000000) only [s56, ↓aw_region, ↓aw_skip, ↓aw_seq, ↓aw_block, ↓aw_exit, ↓aw_ret, ↓sops_nil, ↓sops_go, ↓dops_nil, ↓dopsX_nil, ↓dopsR_nil, ↓vdn, vup, extr_20, extr_21, extr_30, extr_31, extr_32, List.map_cons, List.map_nil, cond_true, cond_false, aop, aThen, aBlock, argEnv, ev, sput, sputO, binK, binI, unK, builtinK, pickK, Nat.reduceBEq, Nat.reduceAdd, Int.reduceBEq, Int.reduceBNe, Int.reduceLT, aPost, resK, tup, tyf, h1, h8, ht]
  have hp := pow8 (n := xs.length) (by omega)
  simp (maxSteps := 2000000) only [s56, ↓aw_region, ↓aw_skip, ↓aw_seq, ↓aw_block, ↓aw_exit, ↓aw_ret, ↓sops_nil, ↓sops_go, ↓dops_nil, ↓dopsX_nil, ↓dopsR_nil, ↓vdn, vup, extr_20, extr_21, extr_30, extr_31, extr_32, List.map_cons, List.map_nil, cond_true, cond_false, aop, aThen, aBlock, argEnv, ev, sput, sputO, binK, binI, unK, builtinK, pickK, Nat.reduceBEq, Nat.reduceAdd, Int.reduceBEq, Int.reduceBNe, Int.reduceLT, aPost, resK, tup, tyf, h1, h8, hv.len, ↓aw_loop_eq]
  refine aws_hide fun Q hQ => ?_
  refine aw_loop (γ := Nat) (fun i => i ≤ xs.length ∧ ∀ k, k < i → okAt xs k = true)
    (fun i => ([(0, v), (2, .bool false), (3, vint xs.length), (15, v), (16, vint xs.length), (17, vint i)], h)) (fun i => xs.length - i) 0 ⟨by omega, fun _ hk => by omega⟩ (by simp (maxSteps := 2000000) only [↓aw_region, ↓aw_skip, ↓aw_seq, ↓aw_block, ↓aw_exit, ↓aw_ret, ↓sops_nil, ↓sops_go, ↓dops_nil, ↓dopsX_nil, ↓dopsR_nil, ↓vdn, vup, extr_20, extr_21, extr_30, extr_31, extr_32, List.map_cons, List.map_nil, cond_true, cond_false, aop, aThen, aBlock, argEnv, ev, sput, sputO, binK, binI, unK, builtinK, pickK, Nat.reduceBEq, Nat.reduceAdd, Int.reduceBEq, Int.reduceBNe, Int.reduceLT, aPost, resK, tup, tyf, Int.natCast_zero]) rfl ?_
  rintro i ⟨hi, hok⟩
  refine aw_hide fun Q2 hQ2 => ?_
  by_cases hin : (i : Int) < xs.length
  · have hin' : i < xs.length := by omega
    have hbad : okAt xs i = false → trn xs = false := fun hb => by
      have : (List.range xs.length).all (okAt xs) = false := by
        rw [List.all_eq_false]; exact ⟨i, by simpa using hin', by simp [hb]⟩
      simp [trn, this]
    obtain ⟨hx1, hx2⟩ := hx (xs.getD i 0) (by rw [List.getD, List.getElem?_eq_getElem hin']; exact List.getElem_mem hin')
    simp (maxSteps := 2000000) only [s56, ↓aw_region, ↓aw_skip, ↓aw_seq, ↓aw_block, ↓aw_exit, ↓aw_ret, ↓sops_nil, ↓sops_go, ↓dops_nil, ↓dopsX_nil, ↓dopsR_nil, ↓vdn, vup, extr_20, extr_21, extr_30, extr_31, extr_32, List.map_cons, List.map_nil, cond_true, cond_false, aop, aThen, aBlock, argEnv, ev, sput, sputO, binK, binI, unK, builtinK, pickK, Nat.reduceBEq, Nat.reduceAdd, Int.reduceBEq, Int.reduceBNe, Int.reduceLT, aPost, resK, tup, tyf, l56_1, hin, hv.idx el_55 esz_3 hin', hv.load shp_3 hin']
    by_cases hneg : xs.getD i 0 < 0
    · have hb := hbad (by rw [okAt, decide_eq_false (show ¬ 0 ≤ xs.getD i 0 by omega)]; rfl)
      simp (maxSteps := 2000000) only [s56, ↓aw_region, ↓aw_skip, ↓aw_seq, ↓aw_block, ↓aw_exit, ↓aw_ret, ↓sops_nil, ↓sops_go, ↓dops_nil, ↓dopsX_nil, ↓dopsR_nil, ↓vdn, vup, extr_20, extr_21, extr_30, extr_31, extr_32, List.map_cons, List.map_nil, cond_true, cond_false, aop, aThen, aBlock, argEnv, ev, sput, sputO, binK, binI, unK, builtinK, pickK, Nat.reduceBEq, Nat.reduceAdd, Int.reduceBEq, Int.reduceBNe, Int.reduceLT, aPost, resK, tup, tyf, hneg]
      refine hQ2 _ _ _ (hQ _ _ _ ?_)
      simp (maxSteps := 2000000) only [↓aw_region, ↓aw_skip, ↓aw_seq, ↓aw_block, ↓aw_exit, ↓aw_ret, ↓sops_nil, ↓sops_go, ↓dops_nil, ↓dopsX_nil, ↓dopsR_nil, ↓vdn, vup, extr_20, extr_21, extr_30, extr_31, extr_32, List.map_cons, List.map_nil, cond_true, cond_false, aop, aThen, aBlock, argEnv, ev, sput, sputO, binK, binI, unK, builtinK, pickK, Nat.reduceBEq, Nat.reduceAdd, Int.reduceBEq, Int.reduceBNe, Int.reduceLT, aPost, resK, tup, tyf, hb]
    simp (maxSteps := 2000000) only [s56, ↓aw_region, ↓aw_skip, ↓aw_seq, ↓aw_block, ↓aw_exit, ↓aw_ret, ↓sops_nil, ↓sops_go, ↓dops_nil, ↓dopsX_nil, ↓dopsR_nil, ↓vdn, vup, extr_20, extr_21, extr_30, extr_31, extr_32, List.map_cons, List.map_nil, cond_true, cond_false, aop, aThen, aBlock, argEnv, ev, sput, sputO, binK, binI, unK, builtinK, pickK, Nat.reduceBEq, Nat.reduceAdd, Int.reduceBEq, Int.reduceBNe, Int.reduceLT, aPost, resK, tup, tyf, hneg, shl1 (show xs.length ≤ 62 by omega), Int.natCast_nonneg]
    by_cases hbig : 2 ^ xs.length ≤ xs.getD i 0
    · have hb := hbad (by rw [okAt, decide_eq_false (show ¬ xs.getD i 0 < 2 ^ xs.length from Int.not_lt.2 hbig), Bool.and_false]; rfl)
      simp (maxSteps := 2000000) only [s56, ↓aw_region, ↓aw_skip, ↓aw_seq, ↓aw_block, ↓aw_exit, ↓aw_ret, ↓sops_nil, ↓sops_go, ↓dops_nil, ↓dopsX_nil, ↓dopsR_nil, ↓vdn, vup, extr_20, extr_21, extr_30, extr_31, extr_32, List.map_cons, List.map_nil, cond_true, cond_false, aop, aThen, aBlock, argEnv, ev, sput, sputO, binK, binI, unK, builtinK, pickK, Nat.reduceBEq, Nat.reduceAdd, Int.reduceBEq, Int.reduceBNe, Int.reduceLT, aPost, resK, tup, tyf, hbig]
      refine hQ2 _ _ _ (hQ _ _ _ ?_)
      simp (maxSteps := 2000000) only [↓aw_region, ↓aw_skip, ↓aw_seq, ↓aw_block, ↓aw_exit, ↓aw_ret, ↓sops_nil, ↓sops_go, ↓dops_nil, ↓dopsX_nil, ↓dopsR_nil, ↓vdn, vup, extr_20, extr_21, extr_30, extr_31, extr_32, List.map_cons, List.map_nil, cond_true, cond_false, aop, aThen, aBlock, argEnv, ev, sput, sputO, binK, binI, unK, builtinK, pickK, Nat.reduceBEq, Nat.reduceAdd, Int.reduceBEq, Int.reduceBNe, Int.reduceLT, aPost, resK, tup, tyf, hb]
    have hs0 : 0 ≤ xs.getD i 0 := by omega
    have hs1 : xs.getD i 0 < 9223372036854775808 := by omega
    by_cases hbit : bitI (xs.getD i 0) i = true
    · have hb := hbad (by rw [okAt, hbit, Bool.not_true, Bool.and_false]; rfl)
      simp (maxSteps := 2000000) only [s56, ↓aw_region, ↓aw_skip, ↓aw_seq, ↓aw_block, ↓aw_exit, ↓aw_ret, ↓sops_nil, ↓sops_go, ↓dops_nil, ↓dopsX_nil, ↓dopsR_nil, ↓vdn, vup, extr_20, extr_21, extr_30, extr_31, extr_32, List.map_cons, List.map_nil, cond_true, cond_false, aop, aThen, aBlock, argEnv, ev, sput, sputO, binK, binI, unK, builtinK, pickK, Nat.reduceBEq, Nat.reduceAdd, Int.reduceBEq, Int.reduceBNe, Int.reduceLT, aPost, resK, tup, tyf, hbig, Int.natCast_nonneg, testI hs0 hs1, hbit, if_true, Int.reduceBEq]
      refine hQ2 _ _ _ (hQ _ _ _ ?_)
      simp (maxSteps := 2000000) only [↓aw_region, ↓aw_skip, ↓aw_seq, ↓aw_block, ↓aw_exit, ↓aw_ret, ↓sops_nil, ↓sops_go, ↓dops_nil, ↓dopsX_nil, ↓dopsR_nil, ↓vdn, vup, extr_20, extr_21, extr_30, extr_31, extr_32, List.map_cons, List.map_nil, cond_true, cond_false, aop, aThen, aBlock, argEnv, ev, sput, sputO, binK, binI, unK, builtinK, pickK, Nat.reduceBEq, Nat.reduceAdd, Int.reduceBEq, Int.reduceBNe, Int.reduceLT, aPost, resK, tup, tyf, hb]
    simp only [Bool.not_eq_true] at hbit
    simp (maxSteps := 2000000) only [s56, ↓aw_region, ↓aw_skip, ↓aw_seq, ↓aw_block, ↓aw_exit, ↓aw_ret, ↓sops_nil, ↓sops_go, ↓dops_nil, ↓dopsX_nil, ↓dopsR_nil, ↓vdn, vup, extr_20, extr_21, extr_30, extr_31, extr_32, List.map_cons, List.map_nil, cond_true, cond_false, aop, aThen, aBlock, argEnv, ev, sput, sputO, binK, binI, unK, builtinK, pickK, Nat.reduceBEq, Nat.reduceAdd, Int.reduceBEq, Int.reduceBNe, Int.reduceLT, aPost, resK, tup, tyf, hbig, Int.natCast_nonneg, testI hs0 hs1, hbit, if_false, Bool.false_eq_true, Int.reduceBEq, ↓aw_loop_eq]
    refine aws_hide fun Q3 hQ3 => ?_
    refine aw_loop (γ := Nat) (fun j => j ≤ i ∧ ∀ k, k < j → (bitI (xs.getD i 0) k != bitI (xs.getD k 0) i) = true)
      (fun j => ([(0, v), (2, .bool false), (3, vint xs.length), (4, vint i), (5, vint (xs.getD i 0)), (15, v), (16, vint xs.length), (17, vint i), (37, vint i), (38, vint j)], h)) (fun j => i - j) 0 ⟨by omega, fun _ hk => by omega⟩ (by simp (maxSteps := 2000000) only [↓aw_region, ↓aw_skip, ↓aw_seq, ↓aw_block, ↓aw_exit, ↓aw_ret, ↓sops_nil, ↓sops_go, ↓dops_nil, ↓dopsX_nil, ↓dopsR_nil, ↓vdn, vup, extr_20, extr_21, extr_30, extr_31, extr_32, List.map_cons, List.map_nil, cond_true, cond_false, aop, aThen, aBlock, argEnv, ev, sput, sputO, binK, binI, unK, builtinK, pickK, Nat.reduceBEq, Nat.reduceAdd, Int.reduceBEq, Int.reduceBNe, Int.reduceLT, aPost, resK, tup, tyf, Int.natCast_zero]) rfl ?_
    rintro j ⟨hj, hokj⟩
    refine aw_hide fun Q4 hQ4 => ?_
    by_cases hji : (j : Int) < i
    · have hji' : j < i := by omega
      have hjn : j < xs.length := by omega
      have hoj := hok j hji'
      have hoj' := hoj
      rw [okAt, Bool.and_eq_true, Bool.and_eq_true, Bool.and_eq_true, decide_eq_true_eq, decide_eq_true_eq] at hoj'
      have ht0 : 0 ≤ xs.getD j 0 := hoj'.1.1.1
      have ht1 : xs.getD j 0 < 9223372036854775808 := by have := hoj'.1.1.2; omega
      simp (maxSteps := 2000000) only [s56, ↓aw_region, ↓aw_skip, ↓aw_seq, ↓aw_block, ↓aw_exit, ↓aw_ret, ↓sops_nil, ↓sops_go, ↓dops_nil, ↓dopsX_nil, ↓dopsR_nil, ↓vdn, vup, extr_20, extr_21, extr_30, extr_31, extr_32, List.map_cons, List.map_nil, cond_true, cond_false, aop, aThen, aBlock, argEnv, ev, sput, sputO, binK, binI, unK, builtinK, pickK, Nat.reduceBEq, Nat.reduceAdd, Int.reduceBEq, Int.reduceBNe, Int.reduceLT, aPost, resK, tup, tyf, l56_0, hji]
      refine aw_draw [] (by kernel_rfl) (by kernel_rfl) (by kernel_rfl) ?_
      by_cases heq : (bitI (xs.getD i 0) j == bitI (xs.getD j 0) i) = true
      · have hb := hbad (by
          have : ((List.range i).all fun j => bitI (xs.getD i 0) j != bitI (xs.getD j 0) i) = false := by
            rw [List.all_eq_false]; exact ⟨j, List.mem_range.2 hji', by rw [bne, heq]; decide⟩
          rw [okAt, this, Bool.and_false])
        simp (maxSteps := 2000000) only [s56, ↓aw_region, ↓aw_skip, ↓aw_seq, ↓aw_block, ↓aw_exit, ↓aw_ret, ↓sops_nil, ↓sops_go, ↓dops_nil, ↓dopsX_nil, ↓dopsR_nil, ↓vdn, vup, extr_20, extr_21, extr_30, extr_31, extr_32, List.map_cons, List.map_nil, cond_true, cond_false, aop, aThen, aBlock, argEnv, ev, sput, sputO, binK, binI, unK, builtinK, pickK, Nat.reduceBEq, Nat.reduceAdd, Int.reduceBEq, Int.reduceBNe, Int.reduceLT, aPost, resK, tup, tyf, Int.natCast_nonneg, testI hs0 hs1, testI ht0 ht1, hv.idx el_55 esz_3 hjn, hv.load shp_3 hjn, beq01, heq]
        refine hQ4 _ _ _ (hQ3 _ _ _ ?_)
        simp (maxSteps := 2000000) only [s56, ↓aw_region, ↓aw_skip, ↓aw_seq, ↓aw_block, ↓aw_exit, ↓aw_ret, ↓sops_nil, ↓sops_go, ↓dops_nil, ↓dopsX_nil, ↓dopsR_nil, ↓vdn, vup, extr_20, extr_21, extr_30, extr_31, extr_32, List.map_cons, List.map_nil, cond_true, cond_false, aop, aThen, aBlock, argEnv, ev, sput, sputO, binK, binI, unK, builtinK, pickK, Nat.reduceBEq, Nat.reduceAdd, Int.reduceBEq, Int.reduceBNe, Int.reduceLT, aPost, resK, tup, tyf]
        refine hQ2 _ _ _ (hQ _ _ _ ?_)
        simp (maxSteps := 2000000) only [↓aw_region, ↓aw_skip, ↓aw_seq, ↓aw_block, ↓aw_exit, ↓aw_ret, ↓sops_nil, ↓sops_go, ↓dops_nil, ↓dopsX_nil, ↓dopsR_nil, ↓vdn, vup, extr_20, extr_21, extr_30, extr_31, extr_32, List.map_cons, List.map_nil, cond_true, cond_false, aop, aThen, aBlock, argEnv, ev, sput, sputO, binK, binI, unK, builtinK, pickK, Nat.reduceBEq, Nat.reduceAdd, Int.reduceBEq, Int.reduceBNe, Int.reduceLT, aPost, resK, tup, tyf, hb]
      · simp only [Bool.not_eq_true] at heq
        simp (maxSteps := 2000000) only [s56, ↓aw_region, ↓aw_skip, ↓aw_seq, ↓aw_block, ↓aw_exit, ↓aw_ret, ↓sops_nil, ↓sops_go, ↓dops_nil, ↓dopsX_nil, ↓dopsR_nil, ↓vdn, vup, extr_20, extr_21, extr_30, extr_31, extr_32, List.map_cons, List.map_nil, cond_true, cond_false, aop, aThen, aBlock, argEnv, ev, sput, sputO, binK, binI, unK, builtinK, pickK, Nat.reduceBEq, Nat.reduceAdd, Int.reduceBEq, Int.reduceBNe, Int.reduceLT, aPost, resK, tup, tyf, Int.natCast_nonneg, testI hs0 hs1, testI ht0 ht1, hv.idx el_55 esz_3 hjn, hv.load shp_3 hjn, beq01, heq, add1 (show j < 9223372036854775807 by omega)]
        refine hQ4 _ _ _ ⟨j + 1, ⟨by omega, fun k hk => ?_⟩, by omega, by simp (maxSteps := 2000000) only [↓aw_region, ↓aw_skip, ↓aw_seq, ↓aw_block, ↓aw_exit, ↓aw_ret, ↓sops_nil, ↓sops_go, ↓dops_nil, ↓dopsX_nil, ↓dopsR_nil, ↓vdn, vup, extr_20, extr_21, extr_30, extr_31, extr_32, List.map_cons, List.map_nil, cond_true, cond_false, aop, aThen, aBlock, argEnv, ev, sput, sputO, binK, binI, unK, builtinK, pickK, Nat.reduceBEq, Nat.reduceAdd, Int.reduceBEq, Int.reduceBNe, Int.reduceLT, aPost, resK, tup, tyf], rfl⟩
        by_cases hkj : k = j
        · subst hkj; rw [bne, heq]; rfl
        · exact hokj k (by omega)
    · obtain rfl : j = i := by omega
      simp (maxSteps := 2000000) only [s56, ↓aw_region, ↓aw_skip, ↓aw_seq, ↓aw_block, ↓aw_exit, ↓aw_ret, ↓sops_nil, ↓sops_go, ↓dops_nil, ↓dopsX_nil, ↓dopsR_nil, ↓vdn, vup, extr_20, extr_21, extr_30, extr_31, extr_32, List.map_cons, List.map_nil, cond_true, cond_false, aop, aThen, aBlock, argEnv, ev, sput, sputO, binK, binI, unK, builtinK, pickK, Nat.reduceBEq, Nat.reduceAdd, Int.reduceBEq, Int.reduceBNe, Int.reduceLT, aPost, resK, tup, tyf, l56_0, Int.lt_irrefl]
      refine hQ4 _ _ _ (hQ3 _ _ _ ?_)
      simp (maxSteps := 2000000) only [s56, ↓aw_region, ↓aw_skip, ↓aw_seq, ↓aw_block, ↓aw_exit, ↓aw_ret, ↓sops_nil, ↓sops_go, ↓dops_nil, ↓dopsX_nil, ↓dopsR_nil, ↓vdn, vup, extr_20, extr_21, extr_30, extr_31, extr_32, List.map_cons, List.map_nil, cond_true, cond_false, aop, aThen, aBlock, argEnv, ev, sput, sputO, binK, binI, unK, builtinK, pickK, Nat.reduceBEq, Nat.reduceAdd, Int.reduceBEq, Int.reduceBNe, Int.reduceLT, aPost, resK, tup, tyf, if_true, add1 (show j < 9223372036854775807 by omega)]
      refine hQ2 _ _ _ ⟨j + 1, ⟨by omega, fun k hk => ?_⟩, by omega, by simp (maxSteps := 2000000) only [↓aw_region, ↓aw_skip, ↓aw_seq, ↓aw_block, ↓aw_exit, ↓aw_ret, ↓sops_nil, ↓sops_go, ↓dops_nil, ↓dopsX_nil, ↓dopsR_nil, ↓vdn, vup, extr_20, extr_21, extr_30, extr_31, extr_32, List.map_cons, List.map_nil, cond_true, cond_false, aop, aThen, aBlock, argEnv, ev, sput, sputO, binK, binI, unK, builtinK, pickK, Nat.reduceBEq, Nat.reduceAdd, Int.reduceBEq, Int.reduceBNe, Int.reduceLT, aPost, resK, tup, tyf], rfl⟩
      by_cases hkj : k = j
      · subst hkj
        have : ((List.range k).all fun j => bitI (xs.getD k 0) j != bitI (xs.getD j 0) k) = true := by
          rw [List.all_eq_true]; exact fun j hj => hokj j (List.mem_range.1 hj)
        rw [okAt, decide_eq_true hs0, decide_eq_true (Int.not_le.1 hbig), hbit, this]; rfl
      · exact hok k (by omega)
  · obtain rfl : i = xs.length := by omega
    have ht : trn xs = true := by simp only [trn, Bool.and_eq_true, decide_eq_true_eq, List.all_eq_true, List.mem_range]; exact ⟨⟨by omega, by omega⟩, hok⟩
    simp (maxSteps := 2000000) only [s56, ↓aw_region, ↓aw_skip, ↓aw_seq, ↓aw_block, ↓aw_exit, ↓aw_ret, ↓sops_nil, ↓sops_go, ↓dops_nil, ↓dopsX_nil, ↓dopsR_nil, ↓vdn, vup, extr_20, extr_21, extr_30, extr_31, extr_32, List.map_cons, List.map_nil, cond_true, cond_false, aop, aThen, aBlock, argEnv, ev, sput, sputO, binK, binI, unK, builtinK, pickK, Nat.reduceBEq, Nat.reduceAdd, Int.reduceBEq, Int.reduceBNe, Int.reduceLT, aPost, resK, tup, tyf, l56_1, Int.lt_irrefl]
    refine hQ2 _ _ _ (hQ _ _ _ ?_)
    simp (maxSteps := 2000000) only [s56, ↓aw_region, ↓aw_skip, ↓aw_seq, ↓aw_block, ↓aw_exit, ↓aw_ret, ↓sops_nil, ↓sops_go, ↓dops_nil, ↓dopsX_nil, ↓dopsR_nil, ↓vdn, vup, extr_20, extr_21, extr_30, extr_31, extr_32, List.map_cons, List.map_nil, cond_true, cond_false, aop, aThen, aBlock, argEnv, ev, sput, sputO, binK, binI, unK, builtinK, pickK, Nat.reduceBEq, Nat.reduceAdd, Int.reduceBEq, Int.reduceBNe, Int.reduceLT, aPost, resK, tup, tyf, if_true, ht]

theorem rvalid_call [Tabs prog] {h : Heap} {v : Value} {xs : List Int} (hv : IntSl h v xs) (hl : xs.length < 9223372036854775808) (hx : ∀ x ∈ xs, -9223372036854775808 ≤ x ∧ x < 9223372036854775808) : APure prog 20 [v] h (.bool (trn xs)) := by
  refine s20_call (by simp) ?_
  simp (maxSteps := 2000000) only [s20, ↓aw_region, ↓aw_skip, ↓aw_seq, ↓aw_block, ↓aw_exit, ↓aw_ret, ↓sops_nil, ↓sops_go, ↓dops_nil, ↓dopsX_nil, ↓dopsR_nil, ↓vdn, vup, extr_20, extr_21, extr_30, extr_31, extr_32, List.map_cons, List.map_nil, cond_true, cond_false, aop, aThen, aBlock, argEnv, ev, sput, sputO, binK, binI, unK, builtinK, pickK, Nat.reduceBEq, Nat.reduceAdd, Int.reduceBEq, Int.reduceBNe, Int.reduceLT, aPost, resK, tup, tyf, hv.len]
  by_cases h1 : (xs.length : Int) < 1
  · have ht : trn xs = false := by simp [trn]; omega
    simp (maxSteps := 2000000) only [s20, ↓aw_region, ↓aw_skip, ↓aw_seq, ↓aw_block, ↓aw_exit, ↓aw_ret, ↓sops_nil, ↓sops_go, ↓dops_nil, ↓dopsX_nil, ↓dopsR_nil, ↓vdn, vup, extr_20, extr_21, extr_30, extr_31, extr_32, List.map_cons, List.map_nil, cond_true, cond_false, aop, aThen, aBlock, argEnv, ev, sput, sputO, binK, binI, unK, builtinK, pickK, Nat.reduceBEq, Nat.reduceAdd, Int.reduceBEq, Int.reduceBNe, Int.reduceLT, aPost, resK, tup, tyf, h1, ht]
  by_cases h8 : (8 : Int) < xs.length
  · have ht : trn xs = false := by simp [trn]; omega
    simp (maxSteps := 2000000) only [s20, ↓aw_region, ↓aw_skip, ↓aw_seq, ↓aw_block, ↓aw_exit, ↓aw_ret, ↓sops_nil, ↓sops_go, ↓dops_nil, ↓dopsX_nil, ↓dopsR_nil, ↓vdn, vup, extr_20, extr_21, extr_30, extr_31, extr_32, List.map_cons, List.map_nil, cond_true, cond_false, aop, aThen, aBlock, argEnv, ev, sput, sputO, binK, binI, unK, builtinK, pickK, Nat.reduceBEq, Nat.reduceAdd, Int.reduceBEq, Int.reduceBNe, Int.reduceLT, aPost, resK, tup, tyf, h1, h8, ht]
  have hp := pow8 (n := xs.length) (by omega)
  simp (maxSteps := 2000000) only [s20, ↓aw_region, ↓aw_skip, ↓aw_seq, ↓aw_block, ↓aw_exit, ↓aw_ret, ↓sops_nil, ↓sops_go, ↓dops_nil, ↓dopsX_nil, ↓dopsR_nil, ↓vdn, vup, extr_20, extr_21, extr_30, extr_31, extr_32, List.map_cons, List.map_nil, cond_true, cond_false, aop, aThen, aBlock, argEnv, ev, sput, sputO, binK, binI, unK, builtinK, pickK, Nat.reduceBEq, Nat.reduceAdd, Int.reduceBEq, Int.reduceBNe, Int.reduceLT, aPost, resK, tup, tyf, h1, h8, hv.len, ↓aw_loop_eq]
  refine aws_hide fun Q hQ => ?_
  refine aw_loop (γ := Nat) (fun i => i ≤ xs.length ∧ ∀ k, k < i → okAt xs k = true)
    (fun i => ([(0, v), (2, .bool false), (3, vint xs.length), (15, v), (16, vint xs.length), (17, vint i)], h)) (fun i => xs.length - i) 0 ⟨by omega, fun _ hk => by omega⟩ (by simp (maxSteps := 2000000) only [↓aw_region, ↓aw_skip, ↓aw_seq, ↓aw_block, ↓aw_exit, ↓aw_ret, ↓sops_nil, ↓sops_go, ↓dops_nil, ↓dopsX_nil, ↓dopsR_nil, ↓vdn, vup, extr_20, extr_21, extr_30, extr_31, extr_32, List.map_cons, List.map_nil, cond_true, cond_false, aop, aThen, aBlock, argEnv, ev, sput, sputO, binK, binI, unK, builtinK, pickK, Nat.reduceBEq, Nat.reduceAdd, Int.reduceBEq, Int.reduceBNe, Int.reduceLT, aPost, resK, tup, tyf, Int.natCast_zero]) rfl ?_
  rintro i ⟨hi, hok⟩
  refine aw_hide fun Q2 hQ2 => ?_
  by_cases hin : (i : Int) < xs.length
  · have hin' : i < xs.length := by omega
    have hbad : okAt xs i = false → trn xs = false := fun hb => by
      have : (List.range xs.length).all (okAt xs) = false := by
        rw [List.all_eq_false]; exact ⟨i, by simpa using hin', by simp [hb]⟩
      simp [trn, this]
    obtain ⟨hx1, hx2⟩ := hx (xs.getD i 0) (by rw [List.getD, List.getElem?_eq_getElem hin']; exact List.getElem_mem hin')
    simp (maxSteps := 2000000) only [s20, ↓aw_region, ↓aw_skip, ↓aw_seq, ↓aw_block, ↓aw_exit, ↓aw_ret, ↓sops_nil, ↓sops_go, ↓dops_nil, ↓dopsX_nil, ↓dopsR_nil, ↓vdn, vup, extr_20, extr_21, extr_30, extr_31, extr_32, List.map_cons, List.map_nil, cond_true, cond_false, aop, aThen, aBlock, argEnv, ev, sput, sputO, binK, binI, unK, builtinK, pickK, Nat.reduceBEq, Nat.reduceAdd, Int.reduceBEq, Int.reduceBNe, Int.reduceLT, aPost, resK, tup, tyf, l20_1, hin, hv.idx el_22 esz_3 hin', hv.load shp_3 hin']
    by_cases hneg : xs.getD i 0 < 0
    · have hb := hbad (by rw [okAt, decide_eq_false (show ¬ 0 ≤ xs.getD i 0 by omega)]; rfl)
      simp (maxSteps := 2000000) only [s20, ↓aw_region, ↓aw_skip, ↓aw_seq, ↓aw_block, ↓aw_exit, ↓aw_ret, ↓sops_nil, ↓sops_go, ↓dops_nil, ↓dopsX_nil, ↓dopsR_nil, ↓vdn, vup, extr_20, extr_21, extr_30, extr_31, extr_32, List.map_cons, List.map_nil, cond_true, cond_false, aop, aThen, aBlock, argEnv, ev, sput, sputO, binK, binI, unK, builtinK, pickK, Nat.reduceBEq, Nat.reduceAdd, Int.reduceBEq, Int.reduceBNe, Int.reduceLT, aPost, resK, tup, tyf, hneg]
      refine hQ2 _ _ _ (hQ _ _ _ ?_)
      simp (maxSteps := 2000000) only [↓aw_region, ↓aw_skip, ↓aw_seq, ↓aw_block, ↓aw_exit, ↓aw_ret, ↓sops_nil, ↓sops_go, ↓dops_nil, ↓dopsX_nil, ↓dopsR_nil, ↓vdn, vup, extr_20, extr_21, extr_30, extr_31, extr_32, List.map_cons, List.map_nil, cond_true, cond_false, aop, aThen, aBlock, argEnv, ev, sput, sputO, binK, binI, unK, builtinK, pickK, Nat.reduceBEq, Nat.reduceAdd, Int.reduceBEq, Int.reduceBNe, Int.reduceLT, aPost, resK, tup, tyf, hb]
    simp (maxSteps := 2000000) only [s20, ↓aw_region, ↓aw_skip, ↓aw_seq, ↓aw_block, ↓aw_exit, ↓aw_ret, ↓sops_nil, ↓sops_go, ↓dops_nil, ↓dopsX_nil, ↓dopsR_nil, ↓vdn, vup, extr_20, extr_21, extr_30, extr_31, extr_32, List.map_cons, List.map_nil, cond_true, cond_false, aop, aThen, aBlock, argEnv, ev, sput, sputO, binK, binI, unK, builtinK, pickK, Nat.reduceBEq, Nat.reduceAdd, Int.reduceBEq, Int.reduceBNe, Int.reduceLT, aPost, resK, tup, tyf, hneg, shl1 (show xs.length ≤ 62 by omega), Int.natCast_nonneg]
    by_cases hbig : 2 ^ xs.length ≤ xs.getD i 0
    · have hb := hbad (by rw [okAt, decide_eq_false (show ¬ xs.getD i 0 < 2 ^ xs.length from Int.not_lt.2 hbig), Bool.and_false]; rfl)
      simp (maxSteps := 2000000) only [s20, ↓aw_region, ↓aw_skip, ↓aw_seq, ↓aw_block, ↓aw_exit, ↓aw_ret, ↓sops_nil, ↓sops_go, ↓dops_nil, ↓dopsX_nil, ↓dopsR_nil, ↓vdn, vup, extr_20, extr_21, extr_30, extr_31, extr_32, List.map_cons, List.map_nil, cond_true, cond_false, aop, aThen, aBlock, argEnv, ev, sput, sputO, binK, binI, unK, builtinK, pickK, Nat.reduceBEq, Nat.reduceAdd, Int.reduceBEq, Int.reduceBNe, Int.reduceLT, aPost, resK, tup, tyf, hbig]
      refine hQ2 _ _ _ (hQ _ _ _ ?_)
      simp (maxSteps := 2000000) only [↓aw_region, ↓aw_skip, ↓aw_seq, ↓aw_block, ↓aw_exit, ↓aw_ret, ↓sops_nil, ↓sops_go, ↓dops_nil, ↓dopsX_nil, ↓dopsR_nil, ↓vdn, vup, extr_20, extr_21, extr_30, extr_31, extr_32, List.map_cons, List.map_nil, cond_true, cond_false, aop, aThen, aBlock, argEnv, ev, sput, sputO, binK, binI, unK, builtinK, pickK, Nat.reduceBEq, Nat.reduceAdd, Int.reduceBEq, Int.reduceBNe, Int.reduceLT, aPost, resK, tup, tyf, hb]
    have hs0 : 0 ≤ xs.getD i 0 := by omega
    have hs1 : xs.getD i 0 < 9223372036854775808 := by omega
    by_cases hbit : bitI (xs.getD i 0) i = true
    · have hb := hbad (by rw [okAt, hbit, Bool.not_true, Bool.and_false]; rfl)
      simp (maxSteps := 2000000) only [s20, ↓aw_region, ↓aw_skip, ↓aw_seq, ↓aw_block, ↓aw_exit, ↓aw_ret, ↓sops_nil, ↓sops_go, ↓dops_nil, ↓dopsX_nil, ↓dopsR_nil, ↓vdn, vup, extr_20, extr_21, extr_30, extr_31, extr_32, List.map_cons, List.map_nil, cond_true, cond_false, aop, aThen, aBlock, argEnv, ev, sput, sputO, binK, binI, unK, builtinK, pickK, Nat.reduceBEq, Nat.reduceAdd, Int.reduceBEq, Int.reduceBNe, Int.reduceLT, aPost, resK, tup, tyf, hbig, Int.natCast_nonneg, testI hs0 hs1, hbit, if_true, Int.reduceBEq]
      refine hQ2 _ _ _ (hQ _ _ _ ?_)
      simp (maxSteps := 2000000) only [↓aw_region, ↓aw_skip, ↓aw_seq, ↓aw_block, ↓aw_exit, ↓aw_ret, ↓sops_nil, ↓sops_go, ↓dops_nil, ↓dopsX_nil, ↓dopsR_nil, ↓vdn, vup, extr_20, extr_21, extr_30, extr_31, extr_32, List.map_cons, List.map_nil, cond_true, cond_false, aop, aThen, aBlock, argEnv, ev, sput, sputO, binK, binI, unK, builtinK, pickK, Nat.reduceBEq, Nat.reduceAdd, Int.reduceBEq, Int.reduceBNe, Int.reduceLT, aPost, resK, tup, tyf, hb]
    simp only [Bool.not_eq_true] at hbit
    simp (maxSteps := 2000000) only [s20, ↓aw_region, ↓aw_skip, ↓aw_seq, ↓aw_block, ↓aw_exit, ↓aw_ret, ↓sops_nil, ↓sops_go, ↓dops_nil, ↓dopsX_nil, ↓dopsR_nil, ↓vdn, vup, extr_20, extr_21, extr_30, extr_31, extr_32, List.map_cons, List.map_nil, cond_true, cond_false, aop, aThen, aBlock, argEnv, ev, sput, sputO, binK, binI, unK, builtinK, pickK, Nat.reduceBEq, Nat.reduceAdd, Int.reduceBEq, Int.reduceBNe, Int.reduceLT, aPost, resK, tup, tyf, hbig, Int.natCast_nonneg, testI hs0 hs1, hbit, if_false, Bool.false_eq_true, Int.reduceBEq, ↓aw_loop_eq]
    refine aws_hide fun Q3 hQ3 => ?_
    refine aw_loop (γ := Nat) (fun j => j ≤ i ∧ ∀ k, k < j → (bitI (xs.getD i 0) k != bitI (xs.getD k 0) i) = true)
      (fun j => ([(0, v), (2, .bool false), (3, vint xs.length), (4, vint i), (5, vint (xs.getD i 0)), (15, v), (16, vint xs.length), (17, vint i), (37, vint i), (38, vint j)], h)) (fun j => i - j) 0 ⟨by omega, fun _ hk => by omega⟩ (by simp (maxSteps := 2000000) only [↓aw_region, ↓aw_skip, ↓aw_seq, ↓aw_block, ↓aw_exit, ↓aw_ret, ↓sops_nil, ↓sops_go, ↓dops_nil, ↓dopsX_nil, ↓dopsR_nil, ↓vdn, vup, extr_20, extr_21, extr_30, extr_31, extr_32, List.map_cons, List.map_nil, cond_true, cond_false, aop, aThen, aBlock, argEnv, ev, sput, sputO, binK, binI, unK, builtinK, pickK, Nat.reduceBEq, Nat.reduceAdd, Int.reduceBEq, Int.reduceBNe, Int.reduceLT, aPost, resK, tup, tyf, Int.natCast_zero]) rfl ?_
    rintro j ⟨hj, hokj⟩
    refine aw_hide fun Q4 hQ4 => ?_
    by_cases hji : (j : Int) < i
    · have hji' : j < i := by omega
      have hjn : j < xs.length := by omega
      have hoj := hok j hji'
      have hoj' := hoj
      rw [okAt, Bool.and_eq_true, Bool.and_eq_true, Bool.and_eq_true, decide_eq_true_eq, decide_eq_true_eq] at hoj'
      have ht0 : 0 ≤ xs.getD j 0 := hoj'.1.1.1
      have ht1 : xs.getD j 0 < 9223372036854775808 := by have := hoj'.1.1.2; omega
      simp (maxSteps := 2000000) only [s20, ↓aw_region, ↓aw_skip, ↓aw_seq, ↓aw_block, ↓aw_exit, ↓aw_ret, ↓sops_nil, ↓sops_go, ↓dops_nil, ↓dopsX_nil, ↓dopsR_nil, ↓vdn, vup, extr_20, extr_21, extr_30, extr_31, extr_32, List.map_cons, List.map_nil, cond_true, cond_false, aop, aThen, aBlock, argEnv, ev, sput, sputO, binK, binI, unK, builtinK, pickK, Nat.reduceBEq, Nat.reduceAdd, Int.reduceBEq, Int.reduceBNe, Int.reduceLT, aPost, resK, tup, tyf, l20_0, hji]
      refine aw_draw [] (by kernel_rfl) (by kernel_rfl) (by kernel_rfl) ?_
      by_cases heq : (bitI (xs.getD i 0) j == bitI (xs.getD j 0) i) = true
      · have hb := hbad (by
          have : ((List.range i).all fun j => bitI (xs.getD i 0) j != bitI (xs.getD j 0) i) = false := by
            rw [List.all_eq_false]; exact ⟨j, List.mem_range.2 hji', by rw [bne, heq]; decide⟩
          rw [okAt, this, Bool.and_false])
        simp (maxSteps := 2000000) only [s20, ↓aw_region, ↓aw_skip, ↓aw_seq, ↓aw_block, ↓aw_exit, ↓aw_ret, ↓sops_nil, ↓sops_go, ↓dops_nil, ↓dopsX_nil, ↓dopsR_nil, ↓vdn, vup, extr_20, extr_21, extr_30, extr_31, extr_32, List.map_cons, List.map_nil, cond_true, cond_false, aop, aThen, aBlock, argEnv, ev, sput, sputO, binK, binI, unK, builtinK, pickK, Nat.reduceBEq, Nat.reduceAdd, Int.reduceBEq, Int.reduceBNe, Int.reduceLT, aPost, resK, tup, tyf, Int.natCast_nonneg, testI hs0 hs1, testI ht0 ht1, hv.idx el_22 esz_3 hjn, hv.load shp_3 hjn, beq01, heq]
        refine hQ4 _ _ _ (hQ3 _ _ _ ?_)
        simp (maxSteps := 2000000) only [s20, ↓aw_region, ↓aw_skip, ↓aw_seq, ↓aw_block, ↓aw_exit, ↓aw_ret, ↓sops_nil, ↓sops_go, ↓dops_nil, ↓dopsX_nil, ↓dopsR_nil, ↓vdn, vup, extr_20, extr_21, extr_30, extr_31, extr_32, List.map_cons, List.map_nil, cond_true, cond_false, aop, aThen, aBlock, argEnv, ev, sput, sputO, binK, binI, unK, builtinK, pickK, Nat.reduceBEq, Nat.reduceAdd, Int.reduceBEq, Int.reduceBNe, Int.reduceLT, aPost, resK, tup, tyf]
        refine hQ2 _ _ _ (hQ _ _ _ ?_)
        simp (maxSteps := 2000000) only [↓aw_region, ↓aw_skip, ↓aw_seq, ↓aw_block, ↓aw_exit, ↓aw_ret, ↓sops_nil, ↓sops_go, ↓dops_nil, ↓dopsX_nil, ↓dopsR_nil, ↓vdn, vup, extr_20, extr_21, extr_30, extr_31, extr_32, List.map_cons, List.map_nil, cond_true, cond_false, aop, aThen, aBlock, argEnv, ev, sput, sputO, binK, binI, unK, builtinK, pickK, Nat.reduceBEq, Nat.reduceAdd, Int.reduceBEq, Int.reduceBNe, Int.reduceLT, aPost, resK, tup, tyf, hb]
      · simp only [Bool.not_eq_true] at heq
        simp (maxSteps := 2000000) only [s20, ↓aw_region, ↓aw_skip, ↓aw_seq, ↓aw_block, ↓aw_exit, ↓aw_ret, ↓sops_nil, ↓sops_go, ↓dops_nil, ↓dopsX_nil, ↓dopsR_nil, ↓vdn, vup, extr_20, extr_21, extr_30, extr_31, extr_32, List.map_cons, List.map_nil, cond_true, cond_false, aop, aThen, aBlock, argEnv, ev, sput, sputO, binK, binI, unK, builtinK, pickK, Nat.reduceBEq, Nat.reduceAdd, Int.reduceBEq, Int.reduceBNe, Int.reduceLT, aPost, resK, tup, tyf, Int.natCast_nonneg, testI hs0 hs1, testI ht0 ht1, hv.idx el_22 esz_3 hjn, hv.load shp_3 hjn, beq01, heq, add1 (show j < 9223372036854775807 by omega)]
        refine hQ4 _ _ _ ⟨j + 1, ⟨by omega, fun k hk => ?_⟩, by omega, by simp (maxSteps := 2000000) only [↓aw_region, ↓aw_skip, ↓aw_seq, ↓aw_block, ↓aw_exit, ↓aw_ret, ↓sops_nil, ↓sops_go, ↓dops_nil, ↓dopsX_nil, ↓dopsR_nil, ↓vdn, vup, extr_20, extr_21, extr_30, extr_31, extr_32, List.map_cons, List.map_nil, cond_true, cond_false, aop, aThen, aBlock, argEnv, ev, sput, sputO, binK, binI, unK, builtinK, pickK, Nat.reduceBEq, Nat.reduceAdd, Int.reduceBEq, Int.reduceBNe, Int.reduceLT, aPost, resK, tup, tyf], rfl⟩
        by_cases hkj : k = j
        · subst hkj; rw [bne, heq]; rfl
        · exact hokj k (by omega)
    · obtain rfl : j = i := by omega
      simp (maxSteps := 2000000) only [s20, ↓aw_region, ↓aw_skip, ↓aw_seq, ↓aw_block, ↓aw_exit, ↓aw_ret, ↓sops_nil, ↓sops_go, ↓dops_nil, ↓dopsX_nil, ↓dopsR_nil, ↓vdn, vup, extr_20, extr_21, extr_30, extr_31, extr_32, List.map_cons, List.map_nil, cond_true, cond_false, aop, aThen, aBlock, argEnv, ev, sput, sputO, binK, binI, unK, builtinK, pickK, Nat.reduceBEq, Nat.reduceAdd, Int.reduceBEq, Int.reduceBNe, Int.reduceLT, aPost, resK, tup, tyf, l20_0, Int.lt_irrefl]
      refine hQ4 _ _ _ (hQ3 _ _ _ ?_)
      simp (maxSteps := 2000000) only [s20, ↓aw_region, ↓aw_skip, ↓aw_seq, ↓aw_block, ↓aw_exit, ↓aw_ret, ↓sops_nil, ↓sops_go, ↓dops_nil, ↓dopsX_nil, ↓dopsR_nil, ↓vdn, vup, extr_20, extr_21, extr_30, extr_31, extr_32, List.map_cons, List.map_nil, cond_true, cond_false, aop, aThen, aBlock, argEnv, ev, sput, sputO, binK, binI, unK, builtinK, pickK, Nat.reduceBEq, Nat.reduceAdd, Int.reduceBEq, Int.reduceBNe, Int.reduceLT, aPost, resK, tup, tyf, if_true, add1 (show j < 9223372036854775807 by omega)]
      refine hQ2 _ _ _ ⟨j + 1, ⟨by omega, fun k hk => ?_⟩, by omega, by simp (maxSteps := 2000000) only [↓aw_region, ↓aw_skip, ↓aw_seq, ↓aw_block, ↓aw_exit, ↓aw_ret, ↓sops_nil, ↓sops_go, ↓dops_nil, ↓dopsX_nil, ↓dopsR_nil, ↓vdn, vup, extr_20, extr_21, extr_30, extr_31, extr_32, List.map_cons, List.map_nil, cond_true, cond_false, aop, aThen, aBlock, argEnv, ev, sput, sputO, binK, binI, unK, builtinK, pickK, Nat.reduceBEq, Nat.reduceAdd, Int.reduceBEq, Int.reduceBNe, Int.reduceLT, aPost, resK, tup, tyf], rfl⟩
      by_cases hkj : k = j
      · subst hkj
        have : ((List.range k).all fun j => bitI (xs.getD k 0) j != bitI (xs.getD j 0) k) = true := by
          rw [List.all_eq_true]; exact fun j hj => hokj j (List.mem_range.1 hj)
        rw [okAt, decide_eq_true hs0, decide_eq_true (Int.not_le.1 hbig), hbit, this]; rfl
      · exact hok k (by omega)
  · obtain rfl : i = xs.length := by omega
    have ht : trn xs = true := by simp only [trn, Bool.and_eq_true, decide_eq_true_eq, List.all_eq_true, List.mem_range]; exact ⟨⟨by omega, by omega⟩, hok⟩
    simp (maxSteps := 2000000) only [s20, ↓aw_region, ↓aw_skip, ↓aw_seq, ↓aw_block, ↓aw_exit, ↓aw_ret, ↓sops_nil, ↓sops_go, ↓dops_nil, ↓dopsX_nil, ↓dopsR_nil, ↓vdn, vup, extr_20, extr_21, extr_30, extr_31, extr_32, List.map_cons, List.map_nil, cond_true, cond_false, aop, aThen, aBlock, argEnv, ev, sput, sputO, binK, binI, unK, builtinK, pickK, Nat.reduceBEq, Nat.reduceAdd, Int.reduceBEq, Int.reduceBNe, Int.reduceLT, aPost, resK, tup, tyf, l20_1, Int.lt_irrefl]
    refine hQ2 _ _ _ (hQ _ _ _ ?_)
    simp (maxSteps := 2000000) only [s20, ↓aw_region, ↓aw_skip, ↓aw_seq, ↓aw_block, ↓aw_exit, ↓aw_ret, ↓sops_nil, ↓sops_go, ↓dops_nil, ↓dopsX_nil, ↓dopsR_nil, ↓vdn, vup, extr_20, extr_21, extr_30, extr_31, extr_32, List.map_cons, List.map_nil, cond_true, cond_false, aop, aThen, aBlock, argEnv, ev, sput, sputO, binK, binI, unK, builtinK, pickK, Nat.reduceBEq, Nat.reduceAdd, Int.reduceBEq, Int.reduceBNe, Int.reduceLT, aPost, resK, tup, tyf, if_true, ht]
end Go.Proofs.Tryd.Am

namespace Go.Proofs.Tryd.Am
open Go.Am

theorem beats_call [Tabs prog] {h : Heap} {v : Value} {xs : List Int} (hv : IntSl h v xs) {i j : Nat} (hi : i < xs.length) (h0 : 0 ≤ xs.getD i 0) (h1 : xs.getD i 0 < 9223372036854775808) :
    APure prog 60 [v, vint i, vint j] h (.bool (bitI (xs.getD i 0) j)) := by
  refine s60_call (by simp) ?_
  simp (maxSteps := 2000000) only [s60, ↓aw_region, ↓aw_skip, ↓aw_seq, ↓aw_block, ↓aw_exit, ↓aw_ret, ↓sops_nil, ↓sops_go, ↓dops_nil, ↓dopsX_nil, ↓dopsR_nil, ↓vdn, vup, extr_20, extr_21, extr_30, extr_31, extr_32, List.map_cons, List.map_nil, cond_true, cond_false, aop, aThen, aBlock, argEnv, ev, sput, sputO, binK, binI, unK, builtinK, pickK, Nat.reduceBEq, Nat.reduceAdd, Int.reduceBEq, Int.reduceBNe, Int.reduceLT, aPost, resK, tup, tyf, hv.idx el_55 esz_3 hi, hv.load shp_3 hi, Int.natCast_nonneg, testI h0 h1, beq1]

theorem all_call [Tabs prog] {h : Heap} {v : Value} {xs : List Int} (hv : IntSl h v xs) (hl : xs.length ≤ 8) : APure prog 63 [v] h (vint ((2 ^ xs.length - 1 : Nat) : Int)) := by
  have hp := pow8 hl
  have hs : subV .i64 (2 ^ xs.length) 1 = ((2 ^ xs.length - 1 : Nat) : Int) := by
    have e : ((2 ^ xs.length : Nat) : Int) = 2 ^ xs.length := by simp
    rw [subV_id (by omega) (by omega)]; omega
  refine s63_call (by simp) ?_
  simp (maxSteps := 2000000) only [s63, ↓aw_region, ↓aw_skip, ↓aw_seq, ↓aw_block, ↓aw_exit, ↓aw_ret, ↓sops_nil, ↓sops_go, ↓dops_nil, ↓dopsX_nil, ↓dopsR_nil, ↓vdn, vup, extr_20, extr_21, extr_30, extr_31, extr_32, List.map_cons, List.map_nil, cond_true, cond_false, aop, aThen, aBlock, argEnv, ev, sput, sputO, binK, binI, unK, builtinK, pickK, Nat.reduceBEq, Nat.reduceAdd, Int.reduceBEq, Int.reduceBNe, Int.reduceLT, aPost, resK, tup, tyf, hv.len, Int.natCast_nonneg, shl1 (show xs.length ≤ 62 by omega), hs]

theorem players_call [Tabs prog] {h : Heap} {s : Int} : ACall prog 62 [vint s] h fun r h' => r = .func (.func 93) #[] #[newPtr h] ∧ h' = h ++ [.cells [vint s] 3 false] := by
  refine s62_call (by simp) ?_
  simp (maxSteps := 2000000) only [s62, ↓aw_region, ↓aw_skip, ↓aw_seq, ↓aw_block, ↓aw_exit, ↓aw_ret, ↓sops_nil, ↓sops_go, ↓dops_nil, ↓dopsX_nil, ↓dopsR_nil, ↓vdn, vup, extr_20, extr_21, extr_30, extr_31, extr_32, List.map_cons, List.map_nil, cond_true, cond_false, aop, aThen, aBlock, argEnv, ev, sput, sputO, binK, binI, unK, builtinK, pickK, Nat.reduceBEq, Nat.reduceAdd, Int.reduceBEq, Int.reduceBNe, Int.reduceLT, aPost, resK, tup, tyf, boxK, cellsOf, Option.isSome_some, List.map_toArray]

theorem yes_call [Tabs prog] {h : Heap} {v : Value} : APure prog 58 [v] h (.bool true) := by
  refine s58_call (by simp) ?_
  simp (maxSteps := 2000000) only [s58, ↓aw_region, ↓aw_skip, ↓aw_seq, ↓aw_block, ↓aw_exit, ↓aw_ret, ↓sops_nil, ↓sops_go, ↓dops_nil, ↓dopsX_nil, ↓dopsR_nil, ↓vdn, vup, extr_20, extr_21, extr_30, extr_31, extr_32, List.map_cons, List.map_nil, cond_true, cond_false, aop, aThen, aBlock, argEnv, ev, sput, sputO, binK, binI, unK, builtinK, pickK, Nat.reduceBEq, Nat.reduceAdd, Int.reduceBEq, Int.reduceBNe, Int.reduceLT, aPost, resK, tup, tyf]

theorem equal_call [Tabs prog] {h : Heap} {v w : Value} {xs ys : List Int} (hv : IntSl h v xs) (hw : IntSl h w ys) (hl : xs.length < 9223372036854775808) (hl2 : ys.length < 9223372036854775808) :
    APure prog 25 [v, w] h (.bool (decide (xs = ys))) := by
  refine s25_call (by simp) ?_
  by_cases hlen : xs.length = ys.length
  · have hne : ((xs.length : Int) != ys.length) = false := by simp [hlen]
    simp (maxSteps := 2000000) only [s25, ↓aw_region, ↓aw_skip, ↓aw_seq, ↓aw_block, ↓aw_exit, ↓aw_ret, ↓sops_nil, ↓sops_go, ↓dops_nil, ↓dopsX_nil, ↓dopsR_nil, ↓vdn, vup, extr_20, extr_21, extr_30, extr_31, extr_32, List.map_cons, List.map_nil, cond_true, cond_false, aop, aThen, aBlock, argEnv, ev, sput, sputO, binK, binI, unK, builtinK, pickK, Nat.reduceBEq, Nat.reduceAdd, Int.reduceBEq, Int.reduceBNe, Int.reduceLT, aPost, resK, tup, tyf, hv.len, hw.len, hne, ↓aw_loop_eq]
    refine aws_hide fun Q hQ => ?_
    refine aw_loop (γ := Nat) (fun i => i ≤ xs.length ∧ ∀ k, k < i → xs.getD k 0 = ys.getD k 0)
      (fun i => ([(0, v), (1, w), (12, vint xs.length), (13, vint i)], h)) (fun i => xs.length - i) 0 ⟨by omega, fun _ hk => by omega⟩ (by simp (maxSteps := 2000000) only [↓aw_region, ↓aw_skip, ↓aw_seq, ↓aw_block, ↓aw_exit, ↓aw_ret, ↓sops_nil, ↓sops_go, ↓dops_nil, ↓dopsX_nil, ↓dopsR_nil, ↓vdn, vup, extr_20, extr_21, extr_30, extr_31, extr_32, List.map_cons, List.map_nil, cond_true, cond_false, aop, aThen, aBlock, argEnv, ev, sput, sputO, binK, binI, unK, builtinK, pickK, Nat.reduceBEq, Nat.reduceAdd, Int.reduceBEq, Int.reduceBNe, Int.reduceLT, aPost, resK, tup, tyf, Int.natCast_zero]) rfl ?_
    rintro i ⟨hi, hok⟩
    refine aw_hide fun Q2 hQ2 => ?_
    by_cases hin : (i : Int) < xs.length
    · have h1 : i < xs.length := by omega
      have h2 : i < ys.length := by omega
      simp (maxSteps := 2000000) only [s25, ↓aw_region, ↓aw_skip, ↓aw_seq, ↓aw_block, ↓aw_exit, ↓aw_ret, ↓sops_nil, ↓sops_go, ↓dops_nil, ↓dopsX_nil, ↓dopsR_nil, ↓vdn, vup, extr_20, extr_21, extr_30, extr_31, extr_32, List.map_cons, List.map_nil, cond_true, cond_false, aop, aThen, aBlock, argEnv, ev, sput, sputO, binK, binI, unK, builtinK, pickK, Nat.reduceBEq, Nat.reduceAdd, Int.reduceBEq, Int.reduceBNe, Int.reduceLT, aPost, resK, tup, tyf, l25_0, hin]
      refine aw_draw [] (by kernel_rfl) (by kernel_rfl) (by kernel_rfl) ?_
      by_cases heq : xs.getD i 0 = ys.getD i 0
      · have hb : (xs.getD i 0 != ys.getD i 0) = false := by rw [heq]; exact bne_self_eq_false _
        simp (maxSteps := 2000000) only [s25, ↓aw_region, ↓aw_skip, ↓aw_seq, ↓aw_block, ↓aw_exit, ↓aw_ret, ↓sops_nil, ↓sops_go, ↓dops_nil, ↓dopsX_nil, ↓dopsR_nil, ↓vdn, vup, extr_20, extr_21, extr_30, extr_31, extr_32, List.map_cons, List.map_nil, cond_true, cond_false, aop, aThen, aBlock, argEnv, ev, sput, sputO, binK, binI, unK, builtinK, pickK, Nat.reduceBEq, Nat.reduceAdd, Int.reduceBEq, Int.reduceBNe, Int.reduceLT, aPost, resK, tup, tyf, hv.idx el_22 esz_3 h1, hv.load shp_3 h1, hw.idx el_22 esz_3 h2, hw.load shp_3 h2, hb, add1 (show i < 9223372036854775807 by omega)]
        refine hQ2 _ _ _ ⟨i + 1, ⟨by omega, fun k hk => ?_⟩, by omega, by simp (maxSteps := 2000000) only [↓aw_region, ↓aw_skip, ↓aw_seq, ↓aw_block, ↓aw_exit, ↓aw_ret, ↓sops_nil, ↓sops_go, ↓dops_nil, ↓dopsX_nil, ↓dopsR_nil, ↓vdn, vup, extr_20, extr_21, extr_30, extr_31, extr_32, List.map_cons, List.map_nil, cond_true, cond_false, aop, aThen, aBlock, argEnv, ev, sput, sputO, binK, binI, unK, builtinK, pickK, Nat.reduceBEq, Nat.reduceAdd, Int.reduceBEq, Int.reduceBNe, Int.reduceLT, aPost, resK, tup, tyf], rfl⟩
        by_cases hki : k = i
        · subst hki; exact heq
        · exact hok k (by omega)
      · have hb : (xs.getD i 0 != ys.getD i 0) = true := by simp only [bne_iff_ne, ne_eq]; exact heq
        simp (maxSteps := 2000000) only [s25, ↓aw_region, ↓aw_skip, ↓aw_seq, ↓aw_block, ↓aw_exit, ↓aw_ret, ↓sops_nil, ↓sops_go, ↓dops_nil, ↓dopsX_nil, ↓dopsR_nil, ↓vdn, vup, extr_20, extr_21, extr_30, extr_31, extr_32, List.map_cons, List.map_nil, cond_true, cond_false, aop, aThen, aBlock, argEnv, ev, sput, sputO, binK, binI, unK, builtinK, pickK, Nat.reduceBEq, Nat.reduceAdd, Int.reduceBEq, Int.reduceBNe, Int.reduceLT, aPost, resK, tup, tyf, hv.idx el_22 esz_3 h1, hv.load shp_3 h1, hw.idx el_22 esz_3 h2, hw.load shp_3 h2, hb]
        refine hQ2 _ _ _ (hQ _ _ _ ?_)
        have hne : decide (xs = ys) = false := decide_eq_false (fun he => heq (by rw [he]))
        simp (maxSteps := 2000000) only [↓aw_region, ↓aw_skip, ↓aw_seq, ↓aw_block, ↓aw_exit, ↓aw_ret, ↓sops_nil, ↓sops_go, ↓dops_nil, ↓dopsX_nil, ↓dopsR_nil, ↓vdn, vup, extr_20, extr_21, extr_30, extr_31, extr_32, List.map_cons, List.map_nil, cond_true, cond_false, aop, aThen, aBlock, argEnv, ev, sput, sputO, binK, binI, unK, builtinK, pickK, Nat.reduceBEq, Nat.reduceAdd, Int.reduceBEq, Int.reduceBNe, Int.reduceLT, aPost, resK, tup, tyf, hne]
    · obtain rfl : i = xs.length := by omega
      simp (maxSteps := 2000000) only [s25, ↓aw_region, ↓aw_skip, ↓aw_seq, ↓aw_block, ↓aw_exit, ↓aw_ret, ↓sops_nil, ↓sops_go, ↓dops_nil, ↓dopsX_nil, ↓dopsR_nil, ↓vdn, vup, extr_20, extr_21, extr_30, extr_31, extr_32, List.map_cons, List.map_nil, cond_true, cond_false, aop, aThen, aBlock, argEnv, ev, sput, sputO, binK, binI, unK, builtinK, pickK, Nat.reduceBEq, Nat.reduceAdd, Int.reduceBEq, Int.reduceBNe, Int.reduceLT, aPost, resK, tup, tyf, l25_0, Int.lt_irrefl]
      refine hQ2 _ _ _ (hQ _ _ _ ?_)
      have he : decide (xs = ys) = true := decide_eq_true (List.ext_getElem hlen fun k h1 h2 => by
        have := hok k h1
        simpa [List.getD, List.getElem?_eq_getElem h1, List.getElem?_eq_getElem h2] using this)
      simp (maxSteps := 2000000) only [s25, ↓aw_region, ↓aw_skip, ↓aw_seq, ↓aw_block, ↓aw_exit, ↓aw_ret, ↓sops_nil, ↓sops_go, ↓dops_nil, ↓dopsX_nil, ↓dopsR_nil, ↓vdn, vup, extr_20, extr_21, extr_30, extr_31, extr_32, List.map_cons, List.map_nil, cond_true, cond_false, aop, aThen, aBlock, argEnv, ev, sput, sputO, binK, binI, unK, builtinK, pickK, Nat.reduceBEq, Nat.reduceAdd, Int.reduceBEq, Int.reduceBNe, Int.reduceLT, aPost, resK, tup, tyf, if_true, he]
  · have hne : ((xs.length : Int) != ys.length) = true := by simp only [bne_iff_ne, ne_eq]; omega
    have hf : decide (xs = ys) = false := decide_eq_false (fun he => hlen (by rw [he]))
    simp (maxSteps := 2000000) only [s25, ↓aw_region, ↓aw_skip, ↓aw_seq, ↓aw_block, ↓aw_exit, ↓aw_ret, ↓sops_nil, ↓sops_go, ↓dops_nil, ↓dopsX_nil, ↓dopsR_nil, ↓vdn, vup, extr_20, extr_21, extr_30, extr_31, extr_32, List.map_cons, List.map_nil, cond_true, cond_false, aop, aThen, aBlock, argEnv, ev, sput, sputO, binK, binI, unK, builtinK, pickK, Nat.reduceBEq, Nat.reduceAdd, Int.reduceBEq, Int.reduceBNe, Int.reduceLT, aPost, resK, tup, tyf, hv.len, hw.len, hne, hf]
end Go.Proofs.Tryd.Am

namespace Go.Proofs.Tryd
open Go.RowKit Go.Am

set_option maxHeartbeats 1000000 in
theorem tz64_core (x k idx : Nat) (w : World) (hx0 : ((x : Int) == 0) = false)
    (key : IntKind.u64.wrap (bits BinOp.and IntKind.u64 (x : Int) (IntKind.u64.wrap (-(x : Int))) * 285870213051353865) / 288230376151711744 = (idx : Int))
    (hi : idx < 64) (hk : k < 64) (hcell : w.cell? ⟨1, idx, none⟩ = some (.int .u8 k)) :
    Calls prog 106 #[.int .u64 x] w fun e w' => e = .returned (.int .i64 k) ∧ w' = w := by
  go_enter func106, ntmps106
  go_wp2_with (simp only [key])
  go_ret
  exact ⟨rfl, rfl⟩

theorem tz64_zero (w : World) : Calls prog 106 #[.int .u64 0] w fun e w' => e = .returned (.int .i64 64) ∧ w' = w := by
  go_enter func106, ntmps106
  go_wp2
  go_ret
  exact ⟨rfl, rfl⟩
theorem tz64 (x : Nat) (hx : x < 18446744073709551616) (w : World) (hT : x ≠ 0 → TabAt 1 Lib.deBruijn64tab w) :
    Calls prog 106 #[.int .u64 x] w fun e w' => e = .returned (.int .i64 (Lib.ctz 64 x)) ∧ w' = w := by
  by_cases hx0 : x = 0
  · subst hx0; exact tz64_zero w
  · obtain ⟨hlow, hk⟩ := Lib.lowest_bit 64 x hx0 hx
    obtain ⟨hi, htab⟩ := Lib.deBruijn64_at _ hk
    have hcell := hT hx0 _ hi
    rw [htab] at hcell
    exact tz64_core x _ _ w (by simp; omega) (tz64_key x _ hx hx0 hlow) hi hk hcell
theorem tz (x : Nat) (hx : x < 18446744073709551616) (w : World) (hT : x ≠ 0 → TabAt 1 Lib.deBruijn64tab w) :
    Calls prog 94 #[.int .u64 x] w fun e w' => e = .returned (.int .i64 (Lib.ctz 64 x)) ∧ w' = w := by
  have c64 := tz64 x hx w hT
  have e29 : ∀ args w, (callFunc 106 args).run prog w = .ok (.enter 106 args) w := enters_of func106 (by kernel_rfl) rfl
  have hw : IntKind.u64.wrap (x : Int) = (x : Int) := by rw [IntKind.wrap_u64]; omega
  go_enter func94, ntmps94
  go_wp2_with (go_at_fn 106; refine c64.mono ?_; rintro e w' ⟨rfl, hw'⟩; rw [hw'])
  go_ret
  exact ⟨rfl, rfl⟩

theorem and_pred_lt (s : Nat) (h : s ≠ 0) : s &&& (s - 1) < s := Nat.lt_of_le_of_lt Nat.and_le_right (by omega)

/-- What is left of a set, in its box. -/
def boxLeft (B : Nat) (w : World) : Nat := match w.cell? ⟨B, 0, none⟩ with | some (.int _ n) => n.toNat | _ => 0
theorem boxLeft_eq {B s : Nat} {w : World} (h : w.cell? ⟨B, 0, none⟩ = some (.int .i64 s)) : boxLeft B w = s := by simp [boxLeft, h]

attribute [local go_sem] Oper.semAt_some

set_option maxRecDepth 100000 in
set_option maxHeartbeats 2000000 in
theorem players1 (l B s : Nat) (J Jx : List Nat → World → Prop) (W : World) (hs : s < 9223372036854775808) (hB : W.cell? ⟨B, 0, none⟩ = some (.int .i64 s)) (hfz : W.frozen? ⟨B, 0, none⟩ = false)
    (hT : ∀ pre W, J pre W → TabAt 1 Lib.deBruijn64tab W)
    (hst : ∀ pre W v, J pre W → J pre (W.setCell ⟨B, 0, none⟩ v))
    (hY : ∀ pre (x : Nat) W, J pre W → pre ++ [x] <+: Am.bits s → YieldAt Fence.wide 0 prog l #[.int .i64 x] W fun en W' =>
      (en = .returned (.bool true) ∧ J (pre ++ [x]) W' ∧ W'.cell? ⟨B, 0, none⟩ = W.cell? ⟨B, 0, none⟩ ∧ W'.frozen? ⟨B, 0, none⟩ = W.frozen? ⟨B, 0, none⟩) ∨ (en = .returned (.bool false) ∧ Jx (pre ++ [x]) W'))
    (h0 : J [] W) :
    CallsIn Fence.wide 1 prog 93 #[.func (.yield l) #[] #[], .pointer (some ⟨B, 0, none⟩)] W fun en W' => (∃ v, en = .returned v) ∧ (J (Am.bits s) W' ∨ ∃ pre, Jx pre W') := by
  refine callsIn_of_wp func93 rfl trivial ?_ rfl
  simp only [ntmps93, List.size_toArray, List.length_cons, List.length_nil, Nat.reduceAdd, Nat.reduceSub, Array.replicate_succ, Array.replicate_zero, List.push_toArray, List.append_toArray, List.nil_append, List.cons_append]
  have e94 : ∀ args w, (callFunc 94 args).run prog w = .ok (.enter 94 args) w := enters_of func94 (by kernel_rfl) rfl
  gi_wp2
  gi_loopw [3] (fun _ wr => ∃ (pre : List Nat) (t : Nat), t < 9223372036854775808 ∧ Am.bits s = pre ++ Am.bits t ∧ wr.cell? ⟨B, 0, none⟩ = some (.int .i64 t) ∧ wr.frozen? ⟨B, 0, none⟩ = false ∧ J pre wr)
    (fun _ wr => boxLeft B wr)
  case atStart => exact ⟨[], s, hs, rfl, hB, hfz, h0⟩
  case round =>
    obtain ⟨pre, t, ht, hx, hc, hf, hJ⟩ := hrel
    by_cases ht0 : t = 0
    · subst ht0
      gi_wp2
      go_end0
      exact ⟨⟨_, rfl⟩, .inl (by rw [hx, show Am.bits 0 = [] from rfl, List.append_nil]; exact hJ)⟩
    · have hw : IntKind.u64.wrap (t : Int) = (t : Int) := by rw [IntKind.wrap_u64]; omega
      have htz := tz t (by omega) wr (fun _ => hT _ _ hJ)
      have hy := hY pre (Lib.ctz 64 t) wr hJ (by rw [hx, Am.bits_step t ht ht0]; simp)
      have hne : ((t : Int) == 0) = false := by simpa using ht0
      have htz' : CallsIn Fence.wide 0 prog 94 #[.int .u64 t] wr fun e w' => e = .returned (.int .i64 (Lib.ctz 64 t)) ∧ w' = wr := callsIn_wide.2 htz
      obtain ⟨fn, tmps, assign, body, hy1, hR⟩ := hy
      gi_wp2
      refine ⟨trivial, htz'.mono ?_⟩
      rintro e w2 ⟨rfl, rfl⟩
      gi_wp2
      refine hR.mono ?_
      rintro e W3 (⟨rfl, hJ3, hc3, hf3⟩ | ⟨rfl, hJx3⟩)
      · rw [hc] at hc3
        rw [hf] at hf3
        gi_wp2
        have hand : bits BinOp.and IntKind.i64 (t : Int) ((t : Int) - 1) = ((t &&& (t - 1) : Nat) : Int) := by
          have := bitsV_and (a := t) (b := t - 1) ht (by omega)
          rw [← this, show ((t - 1 : Nat) : Int) = (t : Int) - 1 by omega]; rfl
        have hlt := and_pred_lt t ht0
        rw [hand]
        have hcell : (W3.setCell ⟨B, 0, none⟩ (.int .i64 ((t &&& (t - 1) : Nat) : Int))).cell? ⟨B, 0, none⟩ = some (.int .i64 ((t &&& (t - 1) : Nat) : Int)) := World.cell?_setCell_same' _ _ _ (by rw [hc3]; rfl)
        refine ⟨⟨_, _, _, _, _, _, _, _, _, _, _, _, ⟨pre ++ [Lib.ctz 64 t], t &&& (t - 1), by omega, by rw [hx, Am.bits_step t ht ht0]; simp, hcell, by rw [World.frozen?_setCell]; exact hf3, hst _ _ _ hJ3⟩, rfl⟩, ?_⟩
        rw [boxLeft_eq hcell, boxLeft_eq hc]
        exact hlt
      · gi_wp2
        refine bodyPost_ret (results_none rfl _ _ _) rfl ?_
        exact ⟨⟨_, rfl⟩, .inr ⟨_, hJx3⟩⟩

theorem tabAt_of [T : BitTab prog 1] {w : World} (h : ∀ p ∈ Tabs.tabs prog, w.heap[p.1]? = some p.2) : TabAt 1 Lib.deBruijn64tab w := by
  intro j hj
  have := h (1, _) (by rw [T.eq]; exact List.mem_singleton.2 rfl)
  simp only [World.cell?, this]
  simp [hj]

theorem bitIter [BitTab prog 1] : BitIter prog 93 := by
  refine ⟨enters_of func93 (by kernel_rfl) rfl, ?_⟩
  intro r l B s J Jx W hs hB hfz hT hst hY h0
  cases r with
  | none => exact players1 l B s J Jx W hs hB hfz (fun pre W hJ => tabAt_of (hT pre W hJ)) hst hY h0
  | some l0 => exact CallsIn.inRound l0 (players1 l B s J Jx W hs hB hfz (fun pre W hJ => tabAt_of (hT pre W hJ)) hst hY h0)
#print axioms bitIter
end Go.Proofs.Tryd

namespace Go.Proofs.Tryd.Am
open Go.Am
set_option maxRecDepth 100000

/-- The first way that goes on from cur through players of a set. -/
def grow (xs : List Int) (size : Nat) (is : List Int → Bool) : Nat → List Int → Nat → Option (List Int)
  | 0, _, _ => none
  | n + 1, cur, left => if cur.length = size then (if is cur then some cur else none) else
    firstOf (fun (i : Nat) => if cur ≠ [] ∧ bitI (xs.getD (cur.getD (cur.length - 1) 0).toNat 0) i = false then none else grow xs size is n (cur ++ [(i : Int)]) (less left (2 ^ i))) (Am.bits left)

/-- The boxes of the search. -/
structure Boxes (h : Heap) (bl bs bi bt bg : Nat) (size : Nat) (isv tv : Value) : Prop where
  size : h[bs]? = some (.cells [vint size] 3 false)
  is : h[bi]? = some (.cells [isv] 27 false)
  t : h[bt]? = some (.cells [tv] 55 false)
  grow : h[bg]? = some (.cells [.func (.func 92) #[] #[.pointer (some ⟨bl, 0, none⟩), .pointer (some ⟨bs, 0, none⟩), .pointer (some ⟨bi, 0, none⟩), .pointer (some ⟨bt, 0, none⟩), .pointer (some ⟨bg, 0, none⟩)]] 79 false)

/-- The search under way: the blocks I lie as in h0; l's box holds lv, a slice of our own that reads cur. -/
structure GS (I : Nat → Prop) (h0 : Heap) (bl : Nat) (h : Heap) (lv : Value) (cur : List Int) : Prop where
  len : h0.length ≤ h.length
  keep : ∀ i, I i → h[i]? = h0[i]?
  l : h[bl]? = some (.cells [lv] 22 false)
  own : OwnSl 3 h lv cur
  nl : ¬ I bl
  apart : ∀ b, blkOf lv = some b → ¬ I b ∧ b ≠ bl
  low : ∀ i, I i → i < h0.length

/-- More blocks: the search stands as it stood. -/
theorem GS.app {I : Nat → Prop} {h0 h : Heap} {bl : Nat} {lv : Value} {cur : List Int} (s : GS I h0 bl h lv cur) (g : Heap) : GS I h0 bl (h ++ g) lv cur where
  len := by have := s.len; simp; omega
  keep i hi := by rw [List.getElem?_append_left (Nat.lt_of_lt_of_le (s.low i hi) s.len)]; exact s.keep i hi
  l := get_old s.l g
  own := s.own.ext (S := fun _ => False) (Ext.app _ _ _) (fun _ _ h => h)
  nl := s.nl
  apart := s.apart
  low := s.low

/-- What the closure asked at a whole way answers. -/
def IsOk [Tabs prog] (I : Nat → Prop) (h0 : Heap) (isv : Value) (is : List Int → Bool) (size n : Nat) : Prop :=
  ∃ g cap, isv = .func (.func g) #[] cap ∧ ∀ h, h0.length ≤ h.length → (∀ i, I i → h[i]? = h0[i]?) → ∀ v l, IntSl h v l → l.length = size → (∀ x ∈ l, ∃ i : Nat, x = i ∧ i < n) → APure prog g ([v] ++ cap.toList) h (.bool (is l))

/-- A heap that turned elsewhere: the search stands as it stood. -/
theorem GS.ext {I : Nat → Prop} {h0 h h' : Heap} {bl : Nat} {lv : Value} {cur : List Int} {S : Nat → Prop} (s : GS I h0 bl h lv cur) (hx : Ext S h h') (h1 : ∀ i, I i → ¬ S i) (h2 : ¬ S bl) (h3 : ∀ b, blkOf lv = some b → ¬ S b) : GS I h0 bl h' lv cur where
  len := Nat.le_trans s.len hx.1
  keep i hi := (hx.2 i (Nat.lt_of_lt_of_le (s.low i hi) s.len) (h1 i hi)).trans (s.keep i hi)
  l := (hx.2 bl (get_lt s.l) h2).trans s.l
  own := s.own.ext hx h3
  nl := s.nl
  apart := s.apart
  low := s.low

/-- A new list in l's box. -/
theorem GS.store {I : Nat → Prop} {h0 h h1 : Heap} {bl : Nat} {lv lv' : Value} {cur cur' : List Int} (s : GS I h0 bl h lv cur) (hx : Ext (fun i => blkOf lv = some i) h h1) (ho : OwnSl 3 h1 lv' cur') (hb : blkOf lv' = blkOf lv ∨ ∃ b, blkOf lv' = some b ∧ h.length ≤ b) :
    GS I h0 bl (h1.set bl (.cells [lv'] 22 false)) lv' cur' where
  len := by have := s.len; have := hx.1; simp; omega
  keep i hi := by
    have hl := Nat.lt_of_lt_of_le (s.low i hi) s.len
    rw [List.getElem?_set_ne (fun h => s.nl (by rw [h]; exact hi)), hx.2 i hl (fun h => (s.apart i h).1 hi)]
    exact s.keep i hi
  l := get_set (Nat.lt_of_lt_of_le (get_lt s.l) hx.1) _
  own := ho.ext (S := fun i => i = bl) (Ext.set _ rfl) fun b hbb => by
    rintro rfl
    rcases hb with h | ⟨b', h, hl⟩
    · exact (s.apart _ (h ▸ hbb)).2 rfl
    · rw [h] at hbb; cases hbb; have := get_lt s.l; omega
  nl := s.nl
  apart b hbb := by
    rcases hb with h | ⟨b', h, hl⟩
    · exact s.apart b (h ▸ hbb)
    · rw [h] at hbb; cases hbb
      exact ⟨fun hi => by have := s.low _ hi; have := s.len; omega, fun he => by have := get_lt s.l; omega⟩
  low := s.low

/-- A run of the function literal under way: its boxes (left, the answer) stand at the end of the heap h that it found. -/
structure RS (I : Nat → Prop) (h0 : Heap) (bl : Nat) (h : Heap) (lv0 : Value) (left : Nat) (res : Bool) (h' : Heap) (lv : Value) (cur : List Int) : Prop where
  gs : GS I h0 bl h' lv cur
  low : h0.length ≤ h.length
  lt : bl < h.length
  bx : h'[h.length]? = some (.cells [vint left] 3 false)
  rs : h'[h.length + 1]? = some (.cells [.bool res] 4 false)
  ext : Ext (fun i => i = bl ∨ blkOf lv0 = some i) h h'
  blk : blkOf lv = blkOf lv0 ∨ ∃ b, blkOf lv = some b ∧ h.length ≤ b

section
variable {I : Nat → Prop} {h0 h h' h1 : Heap} {bl left : Nat} {lv0 lv lv' : Value} {cur cur' : List Int} {res : Bool}
theorem RS.of (s : GS I h0 bl h lv cur) : RS I h0 bl h lv left res (h ++ [.cells [vint left] 3 false] ++ [.cells [.bool res] 4 false]) lv cur where
  gs := by rw [List.append_assoc]; exact s.app _
  low := s.len
  lt := get_lt s.l
  bx := by simp
  rs := by simp
  ext := by rw [List.append_assoc]; exact Ext.app _ _ _
  blk := .inl rfl
/-- A step that keeps the boxes, and touches but the list. -/
theorem RS.go (s : RS I h0 bl h lv0 left res h' lv cur) (g : GS I h0 bl h1 lv' cur') (hx : Ext (fun i => i = bl ∨ blkOf lv = some i) h' h1) (hb : blkOf lv' = blkOf lv ∨ ∃ b, blkOf lv' = some b ∧ h'.length ≤ b) : RS I h0 bl h lv0 left res h1 lv' cur' where
  gs := g
  low := s.low
  lt := s.lt
  bx := by
    rw [hx.2 _ (get_lt s.bx) (by rintro (h | h); exact absurd s.lt (by omega); exact s.gs.own.notCells s.bx h)]; exact s.bx
  rs := by
    rw [hx.2 _ (get_lt s.rs) (by rintro (h | h); exact absurd s.lt (by omega); exact s.gs.own.notCells s.rs h)]; exact s.rs
  ext := ⟨Nat.le_trans s.ext.1 hx.1, fun i hi hs => by
    rw [hx.2 i (Nat.lt_of_lt_of_le hi s.ext.1), s.ext.2 i hi hs]
    rintro (rfl | h)
    · exact hs (.inl rfl)
    · rcases s.blk with h2 | ⟨b, h2, h3⟩
      · exact hs (.inr (h2 ▸ h))
      · rw [h2] at h; cases h; omega⟩
  blk := by
    have := s.ext.1
    rcases hb with h | ⟨b, h, h2⟩
    · rw [h]; exact s.blk
    · exact .inr ⟨b, h, by omega⟩
theorem RS.app (s : RS I h0 bl h lv0 left res h' lv cur) (g : Heap) : RS I h0 bl h lv0 left res (h' ++ g) lv cur := s.go (s.gs.app g) (Ext.app _ _ _) (.inl rfl)
/-- A block of no concern turns. -/
theorem RS.else (s : RS I h0 bl h lv0 left res h' lv cur) {j : Nat} {B : Blk} (hj : h.length + 2 ≤ j) (hl : blkOf lv ≠ some j) : RS I h0 bl h lv0 left res (h'.set j B) lv cur := by
  have hlen := s.low
  have hext := s.ext.1
  have hx : Ext (fun i => i = j) h' (h'.set j B) := Ext.set _ rfl
  have hbl := s.lt
  refine ⟨s.gs.ext hx (fun i hi he => by have := s.gs.low i hi; omega) (by omega) (fun b hb he => hl (he ▸ hb)), s.low, s.lt, by rw [List.getElem?_set_ne (by omega)]; exact s.bx, by rw [List.getElem?_set_ne (by omega)]; exact s.rs, ?_, s.blk⟩
  exact ⟨by simp; exact hext, fun i hi hs => by rw [List.getElem?_set_ne (by omega)]; exact s.ext.2 i hi hs⟩
theorem RS.store (s : RS I h0 bl h lv0 left res h' lv cur) (hx : Ext (fun i => blkOf lv = some i) h' h1) (ho : OwnSl 3 h1 lv' cur') (hb : blkOf lv' = blkOf lv ∨ ∃ b, blkOf lv' = some b ∧ h'.length ≤ b) :
    RS I h0 bl h lv0 left res (h1.set bl (.cells [lv'] 22 false)) lv' cur' :=
  s.go (s.gs.store hx ho hb) ((hx.mono fun _ h => .inr h).trans (Ext.set _ (.inl rfl))) hb
/-- The answer is set. -/
theorem RS.ans (s : RS I h0 bl h lv0 left res h' lv cur) (r : Bool) : RS I h0 bl h lv0 left r (h'.set (h.length + 1) (.cells [.bool r] 4 false)) lv cur := by
  have hx : Ext (fun i => i = h.length + 1) h' (h'.set (h.length + 1) (.cells [.bool r] 4 false)) := Ext.set _ rfl
  have hbl := s.lt
  have hlow := s.low
  refine ⟨s.gs.ext hx (fun i hi he => by have := s.gs.low i hi; omega) (by omega) (fun b hb he => s.gs.own.notCells s.rs (he ▸ hb)), s.low, s.lt, by rw [List.getElem?_set_ne (by omega)]; exact s.bx, get_set (get_lt s.rs) _, ?_, s.blk⟩
  exact ⟨by simp; exact s.ext.1, fun i hi hs => by rw [List.getElem?_set_ne (by omega)]; exact s.ext.2 i hi hs⟩
theorem RS.box (s : RS I h0 bl h lv0 left res h' lv cur) {i : Nat} {B : Blk} (hi : I i) (hb : h0[i]? = some B) : h'[i]? = some B := (s.gs.keep i hi).trans hb
end

theorem trn_at {xs : List Int} (h : trn xs = true) {i : Nat} (hi : i < xs.length) : 0 ≤ xs.getD i 0 ∧ xs.getD i 0 < 9223372036854775808 := by
  simp only [trn, Bool.and_eq_true, decide_eq_true_eq, List.all_eq_true, List.mem_range] at h
  have h2 := h.2 i hi
  rw [okAt, Bool.and_eq_true, Bool.and_eq_true, Bool.and_eq_true, decide_eq_true_eq, decide_eq_true_eq] at h2
  have := pow8 h.1.2
  exact ⟨h2.1.1.1, by have := h2.1.1.2; omega⟩

theorem lit1 {h : Heap} {x : Int} (K : Value → Heap → Prop) : buildSliceK prog h 22 1 [(0, vint x)] K = K (.slice (some ⟨h.length, 0, none⟩) 1 1) (h ++ [.ints [x] 3 false]) := by
  simp only [buildSliceK, el_22, zero_3, esz_3, reps, fillL, mkb, intsOf, notTuple, cellsOf, List.length_singleton, Nat.mul_one, Nat.zero_mul, Nat.zero_add]
  exact propext ⟨fun h => h.2.2.2, fun h => ⟨trivial, Nat.zero_lt_one, by decide, h⟩⟩

theorem grow_call [BitTab prog 1] {I : Nat → Prop} {h0 : Heap} {bl bs bi bt bg size : Nat} {isv tv : Value} {xs : List Int} {is : List Int → Bool} (hb : Boxes h0 bl bs bi bt bg size isv tv) (hI : I bs ∧ I bi ∧ I bt ∧ I bg ∧ ∀ b, blkOf tv = some b → I b)
    (ht : IntSl h0 tv xs) (hx : trn xs = true) (hsz : size ≤ xs.length) (his : IsOk I h0 isv is size xs.length) :
    ∀ (n : Nat) (cur : List Int) (left : Nat) (h : Heap) (lv : Value), GS I h0 bl h lv cur → left < 2 ^ xs.length → (∀ x ∈ cur, ∃ i : Nat, x = i ∧ i < xs.length) → cur.length ≤ size → left < n →
      ACall prog 92 [vint left, .pointer (some ⟨bl, 0, none⟩), .pointer (some ⟨bs, 0, none⟩), .pointer (some ⟨bi, 0, none⟩), .pointer (some ⟨bt, 0, none⟩), .pointer (some ⟨bg, 0, none⟩)] h fun r h' =>
        ∃ lv', (match grow xs size is n cur left with | none => r = .bool false ∧ GS I h0 bl h' lv' cur | some l => r = .bool true ∧ GS I h0 bl h' lv' l) ∧ Ext (fun i => i = bl ∨ blkOf lv = some i) h h' ∧ (blkOf lv' = blkOf lv ∨ ∃ b, blkOf lv' = some b ∧ h.length ≤ b) := by
  intro n
  induction n with
  | zero => intro cur left h lv gs hlt hcur hcl hn; omega
  | succ n ih =>
    intro cur left h lv gs hlt hcur hcl hn
    refine s92_call (by simp) ?_
    simp (maxSteps := 2000000) only [↓aw_region, ↓aw_skip, ↓aw_seq, ↓aw_block, ↓aw_exit, ↓aw_ret, ↓sops_nil, ↓sops_go, ↓dops_nil, ↓dopsX_nil, ↓dopsR_nil, ↓vdn, vup, extr_20, extr_21, extr_30, extr_31, extr_32, List.map_cons, List.map_nil, cond_true, cond_false, aop, aThen, aBlock, argEnv, ev, sput, sputO, binK, binI, unK, builtinK, pickK, Nat.reduceBEq, Nat.reduceAdd, Int.reduceBEq, Int.reduceBNe, Int.reduceLT, aPost, resK, tup, tyf, s92, ↓aw_region, boxK, allocK, cellsOf, Option.isSome_some, newPtr, List.length_append, List.length_singleton]
    have rs0 := RS.of (left := left) (res := false) gs
    generalize h ++ [.cells [vint left] 3 false] ++ [.cells [.bool false] 4 false] = h2 at rs0 ⊢
    have ld : ∀ (h2 : Heap) lv2 cur2 res2, RS I h0 bl h lv left res2 h2 lv2 cur2 → (∀ K, loadK prog h2 22 (.pointer (some ⟨bl, 0, none⟩)) K = K lv2) ∧ (∀ K, loadK prog h2 3 (.pointer (some ⟨bs, 0, none⟩)) K = K (vint size)) ∧ (∀ K, loadK prog h2 27 (.pointer (some ⟨bi, 0, none⟩)) K = K isv) ∧
        (∀ K, loadK prog h2 55 (.pointer (some ⟨bt, 0, none⟩)) K = K tv) ∧ (∀ K, loadK prog h2 79 (.pointer (some ⟨bg, 0, none⟩)) K = K (.func (.func 92) #[] #[.pointer (some ⟨bl, 0, none⟩), .pointer (some ⟨bs, 0, none⟩), .pointer (some ⟨bi, 0, none⟩), .pointer (some ⟨bt, 0, none⟩), .pointer (some ⟨bg, 0, none⟩)])) ∧
        (∀ K, loadK prog h2 3 (.pointer (some ⟨h.length, 0, none⟩)) K = K (vint left)) ∧ (∀ K, loadK prog h2 4 (.pointer (some ⟨h.length + 1, 0, none⟩)) K = K (.bool res2)) ∧ IntSl h2 tv xs := fun h2 lv2 cur2 res2 s =>
      ⟨fun K => load1 s.gs.l shp_22 K, fun K => load1 (s.box hI.1 hb.size) shp_3 K, fun K => load1 (s.box hI.2.1 hb.is) shp_27 K, fun K => load1 (s.box hI.2.2.1 hb.t) shp_55 K, fun K => load1 (s.box hI.2.2.2.1 hb.grow) shp_79 K, fun K => load1 s.bx shp_3 K, fun K => load1 s.rs shp_4 K, ht.same fun b hbb => s.gs.keep b (hI.2.2.2.2 b hbb)⟩
    obtain ⟨l1, l2, l3, l4, l5, l6, l7, ht2⟩ := ld h2 lv cur false rs0
    have hlen : cur.length ≤ 8 := by
      have : xs.length ≤ 8 := by simp only [trn, Bool.and_eq_true, decide_eq_true_eq] at hx; omega
      omega
    by_cases hc : cur.length = size
    · have hce : ((cur.length : Int) == size) = true := by simp [hc]
      obtain ⟨g, cap, rfl, hgo⟩ := his
      simp (maxSteps := 2000000) only [s92, ↓aw_region, ↓aw_skip, ↓aw_seq, ↓aw_block, ↓aw_exit, ↓aw_ret, ↓sops_nil, ↓sops_go, ↓dops_nil, ↓dopsX_nil, ↓dopsR_nil, ↓vdn, vup, extr_20, extr_21, extr_30, extr_31, extr_32, List.map_cons, List.map_nil, cond_true, cond_false, aop, aThen, aBlock, argEnv, ev, sput, sputO, binK, binI, unK, builtinK, pickK, Nat.reduceBEq, Nat.reduceAdd, Int.reduceBEq, Int.reduceBNe, Int.reduceLT, aPost, resK, tup, tyf, l1, l2, l3, rs0.gs.own.int.len, hce, callK, List.nil_append, List.toList_toArray]
      refine (hgo h2 rs0.gs.len rs0.gs.keep lv cur rs0.gs.own.int hc hcur).mono ?_
      rintro v h3 ⟨rfl, rfl⟩
      have rs1 := rs0.ans (is cur)
      obtain ⟨_, _, _, _, _, _, k7, _⟩ := ld _ lv cur (is cur) rs1
      simp (maxSteps := 2000000) only [s92, ↓aw_region, ↓aw_skip, ↓aw_seq, ↓aw_block, ↓aw_exit, ↓aw_ret, ↓sops_nil, ↓sops_go, ↓dops_nil, ↓dopsX_nil, ↓dopsR_nil, ↓vdn, vup, extr_20, extr_21, extr_30, extr_31, extr_32, List.map_cons, List.map_nil, cond_true, cond_false, aop, aThen, aBlock, argEnv, ev, sput, sputO, binK, binI, unK, builtinK, pickK, Nat.reduceBEq, Nat.reduceAdd, Int.reduceBEq, Int.reduceBNe, Int.reduceLT, aPost, resK, tup, tyf, storeB rs0.rs shp_4, k7]
      refine ⟨lv, ?_, rs1.ext, .inl rfl⟩
      simp only [grow, hc, if_true]
      cases his : is cur with
      | true => exact ⟨rfl, his ▸ rs1.gs⟩
      | false => exact ⟨rfl, his ▸ rs1.gs⟩
    · have hce : ((cur.length : Int) == size) = false := by simp; omega
      have hxl : xs.length ≤ 8 := by simp only [trn, Bool.and_eq_true, decide_eq_true_eq] at hx; omega
      have hpow : 2 ^ xs.length ≤ 2 ^ 8 := Nat.pow_le_pow_right (by decide) hxl
      have hleft : left < 2 ^ 63 := by omega
      simp (maxSteps := 2000000) only [s92, ↓aw_region, ↓aw_skip, ↓aw_seq, ↓aw_block, ↓aw_exit, ↓aw_ret, ↓sops_nil, ↓sops_go, ↓dops_nil, ↓dopsX_nil, ↓dopsR_nil, ↓vdn, vup, extr_20, extr_21, extr_30, extr_31, extr_32, List.map_cons, List.map_nil, cond_true, cond_false, aop, aThen, aBlock, argEnv, ev, sput, sputO, binK, binI, unK, builtinK, pickK, Nat.reduceBEq, Nat.reduceAdd, Int.reduceBEq, Int.reduceBNe, Int.reduceLT, aPost, resK, tup, tyf, l1, l2, l6, rs0.gs.own.int.len, hce, callK, List.nil_append, List.append_nil]
      refine players_call.mono ?_
      rintro v h3 ⟨rfl, rfl⟩
      simp (maxSteps := 2000000) only [s92, ↓aw_region, ↓aw_skip, ↓aw_seq, ↓aw_block, ↓aw_exit, ↓aw_ret, ↓sops_nil, ↓sops_go, ↓dops_nil, ↓dopsX_nil, ↓dopsR_nil, ↓vdn, vup, extr_20, extr_21, extr_30, extr_31, extr_32, List.map_cons, List.map_nil, cond_true, cond_false, aop, aThen, aBlock, argEnv, ev, sput, sputO, binK, binI, unK, builtinK, pickK, Nat.reduceBEq, Nat.reduceAdd, Int.reduceBEq, Int.reduceBNe, Int.reduceLT, aPost, resK, tup, tyf, newPtr]
      refine aw_hide fun Q hQ => ?_
      have hlow2 : h.length + 2 ≤ h2.length := by have := get_lt rs0.rs; omega
      have rs1 : RS I h0 bl h lv left false ((h2 ++ [Blk.cells [vint left] 3 false]).set h2.length Blk.dead) lv cur :=
        (rs0.app _).else hlow2 fun hb => by have := rs0.gs.own.lt hb; omega
      let F : Nat → Option (List Int) := fun i => if cur ≠ [] ∧ bitI (xs.getD (cur.getD (cur.length - 1) 0).toNat 0) i = false then none else grow xs size is n (cur ++ [(i : Int)]) (less left (2 ^ i))
      have hgrow : grow xs size is (n + 1) cur left = firstOf F (Am.bits left) := by simp only [grow, hc, if_false]; rfl
      refine aw_range bitIter (bx := h2.length) (s := left) (et := 3) rfl (get_new _ _) hleft (fun pre hk => (∀ y ∈ pre, F y = none) ∧ ∃ lv', RS I h0 bl h lv left false hk lv' cur) ⟨fun _ h => (by cases h), lv, rs1⟩ ?_ ?_
      · rintro pre x hk hpre ⟨hnone, lv2, rs⟩
        obtain ⟨hx64, hxb⟩ := mem_bits.1 (mem_pre hpre)
        have hxn : x < xs.length := by
          rcases Nat.lt_or_ge x xs.length with h | h
          · exact h
          · rw [Nat.testBit_lt_two_pow (Nat.lt_of_lt_of_le hlt (Nat.pow_le_pow_right (by decide) h))] at hxb; cases hxb
        have next : F x = none → ∀ y ∈ pre ++ [x], F y = none := fun hF y hy => by
          rcases List.mem_append.1 hy with h | h
          · exact hnone y h
          · rw [List.mem_singleton.1 h]; exact hF
        obtain ⟨k1, k2, k3, k4, k5, k6, k7, kt⟩ := ld hk lv2 cur false rs
        simp (maxSteps := 2000000) only [s92, ↓aw_region, ↓aw_skip, ↓aw_seq, ↓aw_block, ↓aw_exit, ↓aw_ret, ↓sops_nil, ↓sops_go, ↓dops_nil, ↓dopsX_nil, ↓dopsR_nil, ↓vdn, vup, extr_20, extr_21, extr_30, extr_31, extr_32, List.map_cons, List.map_nil, cond_true, cond_false, aop, aThen, aBlock, argEnv, ev, sput, sputO, binK, binI, unK, builtinK, pickK, Nat.reduceBEq, Nat.reduceAdd, Int.reduceBEq, Int.reduceBNe, Int.reduceLT, aPost, resK, tup, tyf, r92_0_a, r92_0_b]
        refine aw_drawX [(12, 4)] (by kernel_rfl) (by kernel_rfl) (by kernel_rfl) (by kernel_rfl) ?_
        have hsub : cur ≠ [] → subV .i64 cur.length 1 = ((cur.length - 1 : Nat) : Int) := fun h => by
          have := List.length_pos_iff.2 h
          rw [subV_id (by omega) (by omega)]; omega
        have goOn : (cur ≠ [] ∧ bitI (xs.getD (cur.getD (cur.length - 1) 0).toNat 0) x = false) = False → F x = grow xs size is n (cur ++ [(x : Int)]) (less left (2 ^ x)) := fun h => by simp only [F]; rw [if_neg (by rw [h]; exact id)]
        have hcur' : ∀ y ∈ cur ++ [(x : Int)], ∃ i : Nat, y = i ∧ i < xs.length := fun y hy => by
          rcases List.mem_append.1 hy with h | h
          · exact hcur y h
          · exact ⟨x, List.mem_singleton.1 h, hxn⟩
        have hshl : shlV .i64 1 x = 2 ^ x := shl1 (by omega)
        have hand : bitsV .andNot .i64 (left : Int) (2 ^ x) = ((less left (2 ^ x) : Nat) : Int) := by
          have := bitsV_andNot (a := left) (b := 2 ^ x) (by omega) (Nat.lt_of_lt_of_le (Nat.pow_lt_pow_right (by decide) (show x < 62 by omega)) (by decide))
          simpa using this
        have hend : ∀ {P1 : Prop}, (cur = [] → P1) → (∀ i : Nat, cur ≠ [] → cur.getD (cur.length - 1) 0 = i → i < xs.length → bitI (xs.getD i 0) x = true → P1) → (∀ i : Nat, cur ≠ [] → cur.getD (cur.length - 1) 0 = i → i < xs.length → bitI (xs.getD i 0) x = false → P1) → P1 := by
          intro P1 a b c
          by_cases he : cur = []
          · exact a he
          · have hpos := List.length_pos_iff.2 he
            obtain ⟨i, hi, hin⟩ := hcur (cur.getD (cur.length - 1) 0) (by rw [List.getD, List.getElem?_eq_getElem (by omega)]; exact List.getElem_mem _)
            cases hbt : bitI (xs.getD i 0) x with
            | true => exact b i he hi hin hbt
            | false => exact c i he hi hin hbt
        refine hend (fun he => ?_) (fun i he hi hin hbt => ?_) (fun i he hi hin hbt => ?_)
        rotate_left 2
        · have hpos := List.length_pos_iff.2 he
          obtain ⟨hb1, hb2⟩ := trn_at hx hin
          simp (maxSteps := 2000000) only [s92, ↓aw_region, ↓aw_skip, ↓aw_seq, ↓aw_block, ↓aw_exit, ↓aw_ret, ↓sops_nil, ↓sops_go, ↓dops_nil, ↓dopsX_nil, ↓dopsR_nil, ↓vdn, vup, extr_20, extr_21, extr_30, extr_31, extr_32, List.map_cons, List.map_nil, cond_true, cond_false, aop, aThen, aBlock, argEnv, ev, sput, sputO, binK, binI, unK, builtinK, pickK, Nat.reduceBEq, Nat.reduceAdd, Int.reduceBEq, Int.reduceBNe, Int.reduceLT, aPost, resK, tup, tyf, k1, k4, rs.gs.own.int.len, Int.natCast_pos.2 hpos, hsub he, rs.gs.own.int.idx el_22 esz_3 (show cur.length - 1 < cur.length by omega), rs.gs.own.int.load shp_3 (show cur.length - 1 < cur.length by omega), hi, callK, List.nil_append, List.append_nil, gt_iff_lt]
          refine (beats_call kt hin hb1 hb2).mono ?_
          rintro v h3 ⟨rfl, rfl⟩
          simp (maxSteps := 2000000) only [s92, ↓aw_region, ↓aw_skip, ↓aw_seq, ↓aw_block, ↓aw_exit, ↓aw_ret, ↓sops_nil, ↓sops_go, ↓dops_nil, ↓dopsX_nil, ↓dopsR_nil, ↓vdn, vup, extr_20, extr_21, extr_30, extr_31, extr_32, List.map_cons, List.map_nil, cond_true, cond_false, aop, aThen, aBlock, argEnv, ev, sput, sputO, binK, binI, unK, builtinK, pickK, Nat.reduceBEq, Nat.reduceAdd, Int.reduceBEq, Int.reduceBNe, Int.reduceLT, aPost, resK, tup, tyf, hbt]
          exact ⟨next (by simp only [F]; rw [if_pos ⟨he, by rw [hi]; exact hbt⟩]), lv2, rs⟩
        · have hF := goOn (by simp [he])
          have hl0 : ((cur.length : Nat) : Int) = 0 := by rw [he]; rfl
          simp (maxSteps := 2000000) only [s92, ↓aw_region, ↓aw_skip, ↓aw_seq, ↓aw_block, ↓aw_exit, ↓aw_ret, ↓sops_nil, ↓sops_go, ↓dops_nil, ↓dopsX_nil, ↓dopsR_nil, ↓vdn, vup, extr_20, extr_21, extr_30, extr_31, extr_32, List.map_cons, List.map_nil, cond_true, cond_false, aop, aThen, aBlock, argEnv, ev, sput, sputO, binK, binI, unK, builtinK, pickK, Nat.reduceBEq, Nat.reduceAdd, Int.reduceBEq, Int.reduceBNe, Int.reduceLT, aPost, resK, tup, tyf, k1, rs.gs.own.int.len, hl0, Int.lt_irrefl, gt_iff_lt, lit1]
          have hx1 : Ext (fun _ => False) hk (hk ++ [.ints [(x : Int)] 3 false]) := Ext.app _ _ _
          refine (rs.gs.own.ext hx1 fun _ _ h => h).append app_22_22 (by omega) (get_new _ _) ?_
          intro lv3 h4 ho4 hx4 hb4
          have hx5 : Ext (fun i => blkOf lv2 = some i) hk h4 := (hx1.mono fun _ h => h.elim).trans hx4
          have hb5 : blkOf lv3 = blkOf lv2 ∨ ∃ b, blkOf lv3 = some b ∧ hk.length ≤ b := by
            rcases hb4 with h | ⟨b, h, hl⟩
            · exact .inl h
            · exact .inr ⟨b, h, by simp at hl; omega⟩
          have hbl4 : h4[bl]? = some (.cells [lv2] 22 false) := (hx5.2 bl (get_lt rs.gs.l) (fun h => (rs.gs.apart _ h).2 rfl)).trans rs.gs.l
          have rs3 := rs.store hx5 ho4 hb5
          obtain ⟨k1, k2, k3, k4, k5, k6, k7, kt⟩ := ld _ _ _ _ rs3
          simp (maxSteps := 2000000) only [s92, ↓aw_region, ↓aw_skip, ↓aw_seq, ↓aw_block, ↓aw_exit, ↓aw_ret, ↓sops_nil, ↓sops_go, ↓dops_nil, ↓dopsX_nil, ↓dopsR_nil, ↓vdn, vup, extr_20, extr_21, extr_30, extr_31, extr_32, List.map_cons, List.map_nil, cond_true, cond_false, aop, aThen, aBlock, argEnv, ev, sput, sputO, binK, binI, unK, builtinK, pickK, Nat.reduceBEq, Nat.reduceAdd, Int.reduceBEq, Int.reduceBNe, Int.reduceLT, aPost, resK, tup, tyf, store1 hbl4 shp_22 ho4.one]
          refine aw_drawX [(5, 4)] (by kernel_rfl) (by kernel_rfl) (by kernel_rfl) (by kernel_rfl) ?_
          simp (maxSteps := 2000000) only [s92, ↓aw_region, ↓aw_skip, ↓aw_seq, ↓aw_block, ↓aw_exit, ↓aw_ret, ↓sops_nil, ↓sops_go, ↓dops_nil, ↓dopsX_nil, ↓dopsR_nil, ↓vdn, vup, extr_20, extr_21, extr_30, extr_31, extr_32, List.map_cons, List.map_nil, cond_true, cond_false, aop, aThen, aBlock, argEnv, ev, sput, sputO, binK, binI, unK, builtinK, pickK, Nat.reduceBEq, Nat.reduceAdd, Int.reduceBEq, Int.reduceBNe, Int.reduceLT, aPost, resK, tup, tyf, k5, k6, Int.natCast_nonneg, hshl, hand, callK, List.nil_append, List.append_nil, List.toList_toArray, List.cons_append]
          refine (ih (cur ++ [(x : Int)]) (less left (2 ^ x)) _ lv3 rs3.gs (less_lt hlt) hcur' (by simp; omega) (Nat.lt_of_lt_of_le (less_bit_lt hxb) (by omega))).mono ?_
          rintro v h6 ⟨lv4, hres, hx6, hb6⟩
          rw [← hF] at hres
          cases hg : F x with
          | none =>
            rw [hg] at hres
            obtain ⟨rfl, gs6⟩ := hres
            have rs6 := rs3.go gs6 hx6 hb6
            obtain ⟨k1, k2, k3, k4, k5, k6, k7, kt⟩ := ld _ _ _ _ rs6
            have hsub6 : subV .i64 ((cur ++ [(x : Int)]).length : Nat) 1 = (cur.length : Int) := by
              rw [List.length_append, List.length_singleton, subV_id (by omega) (by omega)]; omega
            simp (maxSteps := 2000000) only [s92, ↓aw_region, ↓aw_skip, ↓aw_seq, ↓aw_block, ↓aw_exit, ↓aw_ret, ↓sops_nil, ↓sops_go, ↓dops_nil, ↓dopsX_nil, ↓dopsR_nil, ↓vdn, vup, extr_20, extr_21, extr_30, extr_31, extr_32, List.map_cons, List.map_nil, cond_true, cond_false, aop, aThen, aBlock, argEnv, ev, sput, sputO, binK, binI, unK, builtinK, pickK, Nat.reduceBEq, Nat.reduceAdd, Int.reduceBEq, Int.reduceBNe, Int.reduceLT, aPost, resK, tup, tyf, k1, rs6.gs.own.int.len, hsub6]
            refine rs6.gs.own.cut el_22 esz_3 ?_
            intro lv5 ho5 hb7
            simp (maxSteps := 2000000) only [s92, ↓aw_region, ↓aw_skip, ↓aw_seq, ↓aw_block, ↓aw_exit, ↓aw_ret, ↓sops_nil, ↓sops_go, ↓dops_nil, ↓dopsX_nil, ↓dopsR_nil, ↓vdn, vup, extr_20, extr_21, extr_30, extr_31, extr_32, List.map_cons, List.map_nil, cond_true, cond_false, aop, aThen, aBlock, argEnv, ev, sput, sputO, binK, binI, unK, builtinK, pickK, Nat.reduceBEq, Nat.reduceAdd, Int.reduceBEq, Int.reduceBNe, Int.reduceLT, aPost, resK, tup, tyf, store1 rs6.gs.l shp_22 ho5.one]
            exact ⟨next hg, lv5, rs6.store (Ext.refl _ _) ho5 (.inl hb7)⟩
          | some l =>
            rw [hg] at hres
            obtain ⟨rfl, gs6⟩ := hres
            have rs6 := rs3.go gs6 hx6 hb6
            have rs7 := rs6.ans true
            obtain ⟨_, _, _, _, _, _, k7, _⟩ := ld _ _ _ _ rs7
            simp (maxSteps := 2000000) only [s92, ↓aw_region, ↓aw_skip, ↓aw_seq, ↓aw_block, ↓aw_exit, ↓aw_ret, ↓sops_nil, ↓sops_go, ↓dops_nil, ↓dopsX_nil, ↓dopsR_nil, ↓vdn, vup, extr_20, extr_21, extr_30, extr_31, extr_32, List.map_cons, List.map_nil, cond_true, cond_false, aop, aThen, aBlock, argEnv, ev, sput, sputO, binK, binI, unK, builtinK, pickK, Nat.reduceBEq, Nat.reduceAdd, Int.reduceBEq, Int.reduceBNe, Int.reduceLT, aPost, resK, tup, tyf, storeB rs6.rs shp_4]
            refine hQ _ _ _ ?_
            simp (maxSteps := 2000000) only [s92, ↓aw_region, ↓aw_skip, ↓aw_seq, ↓aw_block, ↓aw_exit, ↓aw_ret, ↓sops_nil, ↓sops_go, ↓dops_nil, ↓dopsX_nil, ↓dopsR_nil, ↓vdn, vup, extr_20, extr_21, extr_30, extr_31, extr_32, List.map_cons, List.map_nil, cond_true, cond_false, aop, aThen, aBlock, argEnv, ev, sput, sputO, binK, binI, unK, builtinK, pickK, Nat.reduceBEq, Nat.reduceAdd, Int.reduceBEq, Int.reduceBNe, Int.reduceLT, aPost, resK, tup, tyf, k7]
            refine ⟨lv4, ?_, rs7.ext, rs7.blk⟩
            rw [hgrow, firstOf_some pre hnone hg hpre]
            exact rs7.gs
        · have hpos := List.length_pos_iff.2 he
          obtain ⟨hb1, hb2⟩ := trn_at hx hin
          have hF := goOn (eq_false fun h => by rw [hi] at h; rw [Int.toNat_natCast, hbt] at h; cases h.2)
          simp (maxSteps := 2000000) only [s92, ↓aw_region, ↓aw_skip, ↓aw_seq, ↓aw_block, ↓aw_exit, ↓aw_ret, ↓sops_nil, ↓sops_go, ↓dops_nil, ↓dopsX_nil, ↓dopsR_nil, ↓vdn, vup, extr_20, extr_21, extr_30, extr_31, extr_32, List.map_cons, List.map_nil, cond_true, cond_false, aop, aThen, aBlock, argEnv, ev, sput, sputO, binK, binI, unK, builtinK, pickK, Nat.reduceBEq, Nat.reduceAdd, Int.reduceBEq, Int.reduceBNe, Int.reduceLT, aPost, resK, tup, tyf, k1, k4, rs.gs.own.int.len, Int.natCast_pos.2 hpos, hsub he, rs.gs.own.int.idx el_22 esz_3 (show cur.length - 1 < cur.length by omega), rs.gs.own.int.load shp_3 (show cur.length - 1 < cur.length by omega), hi, callK, List.nil_append, List.append_nil, gt_iff_lt]
          refine (beats_call kt hin hb1 hb2).mono ?_
          rintro v h3 ⟨rfl, rfl⟩
          simp (maxSteps := 2000000) only [s92, ↓aw_region, ↓aw_skip, ↓aw_seq, ↓aw_block, ↓aw_exit, ↓aw_ret, ↓sops_nil, ↓sops_go, ↓dops_nil, ↓dopsX_nil, ↓dopsR_nil, ↓vdn, vup, extr_20, extr_21, extr_30, extr_31, extr_32, List.map_cons, List.map_nil, cond_true, cond_false, aop, aThen, aBlock, argEnv, ev, sput, sputO, binK, binI, unK, builtinK, pickK, Nat.reduceBEq, Nat.reduceAdd, Int.reduceBEq, Int.reduceBNe, Int.reduceLT, aPost, resK, tup, tyf, hbt, k1, lit1]
          have hx1 : Ext (fun _ => False) h3 (h3 ++ [.ints [(x : Int)] 3 false]) := Ext.app _ _ _
          refine (rs.gs.own.ext hx1 fun _ _ h => h).append app_22_22 (by omega) (get_new _ _) ?_
          intro lv3 h4 ho4 hx4 hb4
          have hx5 : Ext (fun i => blkOf lv2 = some i) h3 h4 := (hx1.mono fun _ h => h.elim).trans hx4
          have hb5 : blkOf lv3 = blkOf lv2 ∨ ∃ b, blkOf lv3 = some b ∧ h3.length ≤ b := by
            rcases hb4 with h | ⟨b, h, hl⟩
            · exact .inl h
            · exact .inr ⟨b, h, by simp at hl; omega⟩
          have hbl4 : h4[bl]? = some (.cells [lv2] 22 false) := (hx5.2 bl (get_lt rs.gs.l) (fun h => (rs.gs.apart _ h).2 rfl)).trans rs.gs.l
          have rs3 := rs.store hx5 ho4 hb5
          obtain ⟨k1, k2, k3, k4, k5, k6, k7, kt⟩ := ld _ _ _ _ rs3
          simp (maxSteps := 2000000) only [s92, ↓aw_region, ↓aw_skip, ↓aw_seq, ↓aw_block, ↓aw_exit, ↓aw_ret, ↓sops_nil, ↓sops_go, ↓dops_nil, ↓dopsX_nil, ↓dopsR_nil, ↓vdn, vup, extr_20, extr_21, extr_30, extr_31, extr_32, List.map_cons, List.map_nil, cond_true, cond_false, aop, aThen, aBlock, argEnv, ev, sput, sputO, binK, binI, unK, builtinK, pickK, Nat.reduceBEq, Nat.reduceAdd, Int.reduceBEq, Int.reduceBNe, Int.reduceLT, aPost, resK, tup, tyf, store1 hbl4 shp_22 ho4.one]
          refine aw_drawX [(5, 4)] (by kernel_rfl) (by kernel_rfl) (by kernel_rfl) (by kernel_rfl) ?_
          simp (maxSteps := 2000000) only [s92, ↓aw_region, ↓aw_skip, ↓aw_seq, ↓aw_block, ↓aw_exit, ↓aw_ret, ↓sops_nil, ↓sops_go, ↓dops_nil, ↓dopsX_nil, ↓dopsR_nil, ↓vdn, vup, extr_20, extr_21, extr_30, extr_31, extr_32, List.map_cons, List.map_nil, cond_true, cond_false, aop, aThen, aBlock, argEnv, ev, sput, sputO, binK, binI, unK, builtinK, pickK, Nat.reduceBEq, Nat.reduceAdd, Int.reduceBEq, Int.reduceBNe, Int.reduceLT, aPost, resK, tup, tyf, k5, k6, Int.natCast_nonneg, hshl, hand, callK, List.nil_append, List.append_nil, List.toList_toArray, List.cons_append]
          refine (ih (cur ++ [(x : Int)]) (less left (2 ^ x)) _ lv3 rs3.gs (less_lt hlt) hcur' (by simp; omega) (Nat.lt_of_lt_of_le (less_bit_lt hxb) (by omega))).mono ?_
          rintro v h6 ⟨lv4, hres, hx6, hb6⟩
          rw [← hF] at hres
          cases hg : F x with
          | none =>
            rw [hg] at hres
            obtain ⟨rfl, gs6⟩ := hres
            have rs6 := rs3.go gs6 hx6 hb6
            obtain ⟨k1, k2, k3, k4, k5, k6, k7, kt⟩ := ld _ _ _ _ rs6
            have hsub6 : subV .i64 ((cur ++ [(x : Int)]).length : Nat) 1 = (cur.length : Int) := by
              rw [List.length_append, List.length_singleton, subV_id (by omega) (by omega)]; omega
            simp (maxSteps := 2000000) only [s92, ↓aw_region, ↓aw_skip, ↓aw_seq, ↓aw_block, ↓aw_exit, ↓aw_ret, ↓sops_nil, ↓sops_go, ↓dops_nil, ↓dopsX_nil, ↓dopsR_nil, ↓vdn, vup, extr_20, extr_21, extr_30, extr_31, extr_32, List.map_cons, List.map_nil, cond_true, cond_false, aop, aThen, aBlock, argEnv, ev, sput, sputO, binK, binI, unK, builtinK, pickK, Nat.reduceBEq, Nat.reduceAdd, Int.reduceBEq, Int.reduceBNe, Int.reduceLT, aPost, resK, tup, tyf, k1, rs6.gs.own.int.len, hsub6]
            refine rs6.gs.own.cut el_22 esz_3 ?_
            intro lv5 ho5 hb7
            simp (maxSteps := 2000000) only [s92, ↓aw_region, ↓aw_skip, ↓aw_seq, ↓aw_block, ↓aw_exit, ↓aw_ret, ↓sops_nil, ↓sops_go, ↓dops_nil, ↓dopsX_nil, ↓dopsR_nil, ↓vdn, vup, extr_20, extr_21, extr_30, extr_31, extr_32, List.map_cons, List.map_nil, cond_true, cond_false, aop, aThen, aBlock, argEnv, ev, sput, sputO, binK, binI, unK, builtinK, pickK, Nat.reduceBEq, Nat.reduceAdd, Int.reduceBEq, Int.reduceBNe, Int.reduceLT, aPost, resK, tup, tyf, store1 rs6.gs.l shp_22 ho5.one]
            exact ⟨next hg, lv5, rs6.store (Ext.refl _ _) ho5 (.inl hb7)⟩
          | some l =>
            rw [hg] at hres
            obtain ⟨rfl, gs6⟩ := hres
            have rs6 := rs3.go gs6 hx6 hb6
            have rs7 := rs6.ans true
            obtain ⟨_, _, _, _, _, _, k7, _⟩ := ld _ _ _ _ rs7
            simp (maxSteps := 2000000) only [s92, ↓aw_region, ↓aw_skip, ↓aw_seq, ↓aw_block, ↓aw_exit, ↓aw_ret, ↓sops_nil, ↓sops_go, ↓dops_nil, ↓dopsX_nil, ↓dopsR_nil, ↓vdn, vup, extr_20, extr_21, extr_30, extr_31, extr_32, List.map_cons, List.map_nil, cond_true, cond_false, aop, aThen, aBlock, argEnv, ev, sput, sputO, binK, binI, unK, builtinK, pickK, Nat.reduceBEq, Nat.reduceAdd, Int.reduceBEq, Int.reduceBNe, Int.reduceLT, aPost, resK, tup, tyf, storeB rs6.rs shp_4]
            refine hQ _ _ _ ?_
            simp (maxSteps := 2000000) only [s92, ↓aw_region, ↓aw_skip, ↓aw_seq, ↓aw_block, ↓aw_exit, ↓aw_ret, ↓sops_nil, ↓sops_go, ↓dops_nil, ↓dopsX_nil, ↓dopsR_nil, ↓vdn, vup, extr_20, extr_21, extr_30, extr_31, extr_32, List.map_cons, List.map_nil, cond_true, cond_false, aop, aThen, aBlock, argEnv, ev, sput, sputO, binK, binI, unK, builtinK, pickK, Nat.reduceBEq, Nat.reduceAdd, Int.reduceBEq, Int.reduceBNe, Int.reduceLT, aPost, resK, tup, tyf, k7]
            refine ⟨lv4, ?_, rs7.ext, rs7.blk⟩
            rw [hgrow, firstOf_some pre hnone hg hpre]
            exact rs7.gs
      · rintro hk ⟨hnone, lv2, rs⟩
        have rs2 := rs.ans false
        obtain ⟨_, _, _, _, _, _, k7, _⟩ := ld _ _ _ _ rs2
        refine hQ _ _ _ ?_
        simp (maxSteps := 2000000) only [s92, ↓aw_region, ↓aw_skip, ↓aw_seq, ↓aw_block, ↓aw_exit, ↓aw_ret, ↓sops_nil, ↓sops_go, ↓dops_nil, ↓dopsX_nil, ↓dopsR_nil, ↓vdn, vup, extr_20, extr_21, extr_30, extr_31, extr_32, List.map_cons, List.map_nil, cond_true, cond_false, aop, aThen, aBlock, argEnv, ev, sput, sputO, binK, binI, unK, builtinK, pickK, Nat.reduceBEq, Nat.reduceAdd, Int.reduceBEq, Int.reduceBNe, Int.reduceLT, aPost, resK, tup, tyf, storeB rs.rs shp_4, k7]
        refine ⟨lv2, ?_, rs2.ext, rs2.blk⟩
        rw [hgrow, firstOf_none hnone]
        exact rs2.gs
end Go.Proofs.Tryd.Am

namespace Go.Proofs.Tryd.Am
open Go.Am

set_option maxRecDepth 100000 in
theorem clone_call [Tabs prog] {h : Heap} {v : Value} {xs : List Int} (hv : IntSl h v xs) (hl : xs.length < 1099511627776) : ACall prog 46 [v] h fun r h' => IntSl h' r xs ∧ ∃ g, h' = h ++ g := by
  refine s46_call (by simp) ?_
  have hv' := hv
  rcases hv with ⟨rfl, rfl⟩ | ⟨b, o, sp, cap, c, e, ro, rfl, hc, hb, hx⟩
  · simp (maxSteps := 2000000) only [s46, ↓aw_region, ↓aw_skip, ↓aw_seq, ↓aw_block, ↓aw_exit, ↓aw_ret, ↓sops_nil, ↓sops_go, ↓dops_nil, ↓dopsX_nil, ↓dopsR_nil, ↓vdn, vup, extr_20, extr_21, extr_30, extr_31, extr_32, List.map_cons, List.map_nil, cond_true, cond_false, aop, aThen, aBlock, argEnv, ev, sput, sputO, binK, binI, unK, builtinK, pickK, Nat.reduceBEq, Nat.reduceAdd, Int.reduceBEq, Int.reduceBNe, Int.reduceLT, aPost, resK, tup, tyf, Option.isSome_some]
    exact ⟨.inl ⟨rfl, rfl⟩, [], by rw [List.append_nil]⟩
  · simp (maxSteps := 2000000) only [s46, ↓aw_region, ↓aw_skip, ↓aw_seq, ↓aw_block, ↓aw_exit, ↓aw_ret, ↓sops_nil, ↓sops_go, ↓dops_nil, ↓dopsX_nil, ↓dopsR_nil, ↓vdn, vup, extr_20, extr_21, extr_30, extr_31, extr_32, List.map_cons, List.map_nil, cond_true, cond_false, aop, aThen, aBlock, argEnv, ev, sput, sputO, binK, binI, unK, builtinK, pickK, Nat.reduceBEq, Nat.reduceAdd, Int.reduceBEq, Int.reduceBNe, Int.reduceLT, aPost, resK, tup, tyf, Option.isSome_some]
    simp only [buildSliceK, el_22, zero_3, esz_3, reps, fillL, mkb, intsOf]
    refine And.intro rfl (And.intro Nat.zero_lt_one (And.intro (Nat.zero_le _) ?_))
    refine (hv'.grow [.ints [] 3 false]).copy app_22_22 hl (by rw [List.getElem?_append_right (Nat.le_refl _)]; simp) ?_
    intro r g hr _
    exact ⟨hr, _, List.append_assoc _ _ _⟩

theorem min11 (n : Nat) : (if (11 : Int) < n then 11 else (n : Int)) = ((min n 11 : Nat) : Int) := by split <;> omega

theorem list_call [Tabs prog] {h : Heap} {v : Value} {xs : List Int} (hv : IntSl h v xs) (hl : xs.length < 9223372036854775808) : ACall prog 19 [v] h fun r h' => IntSl h' r (xs.take 11) ∧ ∃ g, h' = h ++ g := by
  refine s19_call (by simp) ?_
  simp (maxSteps := 2000000) only [s19, ↓aw_region, ↓aw_skip, ↓aw_seq, ↓aw_block, ↓aw_exit, ↓aw_ret, ↓sops_nil, ↓sops_go, ↓dops_nil, ↓dopsX_nil, ↓dopsR_nil, ↓vdn, vup, extr_20, extr_21, extr_30, extr_31, extr_32, List.map_cons, List.map_nil, cond_true, cond_false, aop, aThen, aBlock, argEnv, ev, sput, sputO, binK, binI, unK, builtinK, pickK, Nat.reduceBEq, Nat.reduceAdd, Int.reduceBEq, Int.reduceBNe, Int.reduceLT, aPost, resK, tup, tyf, hv.len, mmK, Bool.false_eq_true, if_false, gt_iff_lt, min11, Option.map_none, Option.map_some]
  refine hv.pre el_22 esz_3 (Nat.min_le_left _ _) ?_
  intro v' hv'
  have e : xs.take (min xs.length 11) = xs.take 11 := by
    by_cases h : xs.length ≤ 11
    · rw [Nat.min_eq_left h, List.take_length, List.take_of_length_le h]
    · rw [Nat.min_eq_right (by omega)]
  rw [e] at hv'
  simp (maxSteps := 2000000) only [↓aw_region, ↓aw_skip, ↓aw_seq, ↓aw_block, ↓aw_exit, ↓aw_ret, ↓sops_nil, ↓sops_go, ↓dops_nil, ↓dopsX_nil, ↓dopsR_nil, ↓vdn, vup, extr_20, extr_21, extr_30, extr_31, extr_32, List.map_cons, List.map_nil, cond_true, cond_false, aop, aThen, aBlock, argEnv, ev, sput, sputO, binK, binI, unK, builtinK, pickK, Nat.reduceBEq, Nat.reduceAdd, Int.reduceBEq, Int.reduceBNe, Int.reduceLT, aPost, resK, tup, tyf, callK, List.nil_append, List.append_nil]
  exact clone_call hv' (by simp; omega)
end Go.Proofs.Tryd.Am

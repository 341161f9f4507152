/-
  top: the table of math/bits, out of what the statement grants.
  Printed by gen.py: the code of some functions, without what no step looks at; held against the program's own by the kernel.
  Printed by gen.py: the code of some functions, without what no step looks at; held against the program's own by the kernel.
  Printed by gen.py: facts on the types of this seat, asked of the kernel.
  The number of ways through a tournament is odd (Rédei): plain counting.
  ranks: whether a slice is a tournament: the two functions that say so.
  ranks: the small functions: beats, all, players.
  The seat's bits: TrailingZeros64 and TrailingZeros of math/bits, on the model's own worlds.
  ranks: the search for a way: walk and its function literal.
  ranks: the first way found: walk, and the functions that stand on it.
  ranks: both searches come to the same way; the law RanksWays.
  ranks: the ways of a tournament counted: an odd number; so the search finds one, and what it finds is a way.
  Best orders, plain: the least number of pairs that the players who are left bring, and the first order that brings no more.
  ranks: how many pairs an order goes against, plain.
  ranks: how many elements a set has, by the library.
  ranks: the size of a set, and Kings.
  ranks: how many pairs an order goes against, by the program and by the reference.
  ranks: the first best order, as the reference finds it.
  ranks: the first best order, as the program finds it: a table of what the players who are left bring.
  Orders and the pairs that they go against, plain: the least cost; one result turned; a tournament without a cycle.
-/
import Derived.Test.YtmjpngmoankpkaaDoorPk4
import Derived.Test.YtmjpngmoankpkaaDoorRows
import Derived.Test.YtmjpngmoankpkaaDoorProg
import Derived.MakeChecks
import Derived.Test.YtmjpngmoankpkaaDoorPk3
import Derived.KernelRfl
import Derived.Shelf.Abstract
import Derived.Shelf.Spec.TrailingZeros
import Derived.TacticsInMore
import Derived.LoopNIn
import Derived.LoopIn
set_option linter.all false
namespace Go.Proofs.YtmjpngmoankpkaaDoor
open Go Go.Am Go.ChangeShapes Go.WideShapes Go.ChangeAt Go.WideMaps Go.WideElems Go.RowKit

theorem row_bytes {H : Type} {enc : TypeId × Value → H} {P : Program} {w : World} {base : Nat} {spare : Nat → Bool} {held : Bool} {fuel : Nat} {t e : TypeId} {n : Nat} {cs : List Value} {ns : List Nat} {p : List MemPlace}
    (ht : P.underlying t = some (.array n e)) (he : P.underlying e = some (.int .u8)) (hc : P.cellsOf e = 1) (hct : P.cellsOf t = n) (h : DataW.trod enc P w base spare held fuel t cs = some (.agg (ns.map fun (k : Nat) => .lit (.int .u8 k)), p)) : cs = ns.map fun (k : Nat) => Value.int .u8 k := by
  obtain ⟨xs, m, rfl, hx, hlen, hn, hel⟩ := DataW.trod_array ht h
  simp only [Prod.mk.injEq, DataW.agg.injEq] at hx
  have hns : ns.length = n := by rw [← hn, ← List.length_map (f := fun (x : DataW H × List MemPlace) => x.1), ← hx.1, List.length_map]
  apply List.ext_getElem (by rw [hlen, hct, List.length_map, hns])
  intro i h1 h2
  have hi : i < n := by rw [hlen, hct] at h1; exact h1
  have h3 := hel i hi
  rw [hc, Nat.mul_one, List.getElem?_eq_getElem (by omega)] at h3
  obtain ⟨k, g1, g2, _⟩ := DataW.trod_int he h3
  have h4 : (xs.map (·.1))[i]? = some (xs[i]'(by omega)).1 := by simp [List.getElem?_map, List.getElem?_eq_getElem (show i < xs.length by omega)]
  rw [← hx.1, g2] at h4
  rw [List.drop_eq_getElem_cons h1, List.take_succ_cons, List.take_zero] at g1
  have g1 := (List.cons.inj g1).1
  simp at h4
  obtain ⟨a, ha, hk⟩ := h4
  rw [g1, List.getElem_map]
  have : ns[i]'(by omega) = a := by
    rw [List.getElem?_eq_getElem (show i < ns.length by omega)] at ha; exact Option.some.inj ha
  rw [this, ← hk]

abbrev laid2 : List (String × DataW Unit) := [("math/bits.deBruijn32tab", Rows.laid_math_bits_deBruijn32tab), ("math/bits.deBruijn64tab", Rows.laid_math_bits_deBruijn64tab)]

theorem tab_of {W : World} (h : laidMetH Tryd.prog laid2 W) : ∃ e fr, W.heap[0]? = some (.cells (Lib.deBruijn64tab.map fun (n : Nat) => Value.int .u8 n).toArray e fr) := by
  rw [MakeChecks.laidMetH_plain _ _ _ (by kernel_rfl)] at h
  obtain ⟨ps, ⟨g0, t0, cs0, f0, p0, q0, hg0, ht0, hv0, hd0, ⟨g1, t1, cs1, f1, p1, q1, hg1, ht1, hv1, hd1, _, _⟩, _⟩, _, _⟩ := h
  obtain rfl := Option.some.inj ((show Tryd.prog.globalNamed "math/bits.deBruijn64tab" = some 0 by kernel_rfl).symm.trans hg1)
  obtain rfl := Option.some.inj ((show (Tryd.prog.globals[0]?).map (·.type) = some 168 by kernel_rfl).symm.trans ht1)
  have hrow := row_bytes (ns := Lib.deBruijn64tab) Tryd.underlying168 Tryd.underlying5 (by kernel_rfl) (by kernel_rfl) hd1
  simp only [World.var?, hg1, Option.bind_some] at hv1
  split at hv1
  · rename_i cs e fr hh
    cases hv1
    exact ⟨e, fr, by rw [hh, ← hrow]⟩
  · cases hv1
end Go.Proofs.YtmjpngmoankpkaaDoor

namespace Go.Proofs.Tryd.Am
open Go.Am
set_option maxRecDepth 100000
/-! 6: planchet planchettop.TopScores -/
@[reducible] def q6_0 : SCode := .region [⟨some 2, .assign (.const (.bool false)), none⟩]
@[reducible] def q6_1 : SCode := .region [⟨some 12, .move (.tmp 0), none⟩,
    ⟨some 13, .convert 3 57 (.tmp 12), none⟩,
    ⟨some 14, .binOp .rem 57 (.tmp 13) (.const (.int .u64 7)) 57, none⟩,
    ⟨some 15, .convert 57 3 (.tmp 14), none⟩,
    ⟨some 16, .binOp .add 3 (.const (.int .i64 1)) (.tmp 15) 3, none⟩,
    ⟨some 0, .assign (.tmp 16), none⟩]
@[reducible] def q6_2 : SCode := .region [⟨some 3, .assign (.const (.slice none 0 0)), none⟩,
    ⟨some 4, .assign (.const (.slice none 0 0)), none⟩]
@[reducible] def q6_3 : SCode := .region [⟨some 17, .move (.tmp 0), none⟩,
    ⟨some 18, .move (.const (.int .i64 0)), none⟩]
@[reducible] def q6_4 : SCode := .region [⟨some 19, .binOp .lss 3 (.tmp 18) (.tmp 17) 3, none⟩]
@[reducible] def q6_5 : SCode := .region [⟨some 20, .move (.tmp 18), none⟩,
    ⟨some 5, .assign (.tmp 20), none⟩]
@[reducible] def q6_6 : SCode := .region [⟨some 21, .move (.tmp 3), none⟩,
    ⟨some 22, .move (.tmp 5), none⟩,
    ⟨some 23, .buildSlice 27 1 #[(0, .tmp 22)], none⟩,
    ⟨some 24, .call { callee := .builtin .append, args := #[.tmp 21, .tmp 23], argTypes := #[27, 27] }, none⟩,
    ⟨some 25, .move (.tmp 4), none⟩,
    ⟨some 26, .move (.tmp 0), none⟩,
    ⟨some 27, .binOp .sub 3 (.tmp 26) (.const (.int .i64 1)) 3, none⟩,
    ⟨some 28, .binOp .quo 3 (.tmp 27) (.const (.int .i64 2)) 3, none⟩,
    ⟨some 29, .buildSlice 27 1 #[(0, .tmp 28)], none⟩,
    ⟨some 30, .call { callee := .builtin .append, args := #[.tmp 25, .tmp 29], argTypes := #[27, 27] }, none⟩,
    ⟨some 3, .assign (.tmp 24), none⟩,
    ⟨some 4, .assign (.tmp 30), none⟩]
@[reducible] def q6_7 : SCode := .region [⟨some 31, .binOp .add 3 (.tmp 18) (.const (.int .i64 1)) 3, none⟩,
    ⟨some 18, .move (.tmp 31), none⟩]
def l6_0 : SCode := (.seq q6_4 (.seq (.cond (.tmp 19) .skip (.exit 0)) (.seq (.block 1 (.seq q6_5 q6_6)) q6_7)))
@[reducible] def q6_8 : SCode := .region [⟨some 33, .move (.tmp 3), none⟩,
    ⟨some 34, .call { callee := .value (.func 32), args := #[.tmp 33], argTypes := #[27] }, none⟩,
    ⟨some 32, .move (.tmp 34), none⟩,
    ⟨some 35, .extract (.tmp 32) 0, none⟩,
    ⟨some 36, .extract (.tmp 32) 1, none⟩,
    ⟨some 6, .assign (.tmp 35), none⟩,
    ⟨some 7, .assign (.tmp 36), none⟩]
@[reducible] def q6_9 : SCode := .region [⟨some 37, .move (.tmp 7), none⟩,
    ⟨some 38, .binOp .neq 29 (.tmp 37) (.const (.int .i64 0)) 29, none⟩]
@[reducible] def q6_10 : SCode := .region [⟨some 2, .assign (.const (.bool false)), none⟩]
@[reducible] def q6_11 : SCode := .region [⟨some 40, .move (.tmp 6), none⟩,
    ⟨some 41, .call { callee := .value (.func 13), args := #[.tmp 40], argTypes := #[27] }, none⟩,
    ⟨some 42, .call { callee := .value (.func 33), args := #[.tmp 41], argTypes := #[27] }, none⟩,
    ⟨some 39, .move (.tmp 42), none⟩,
    ⟨some 43, .extract (.tmp 39) 0, none⟩,
    ⟨some 44, .extract (.tmp 39) 1, none⟩,
    ⟨some 8, .assign (.tmp 43), none⟩,
    ⟨some 7, .assign (.tmp 44), none⟩]
@[reducible] def q6_12 : SCode := .region [⟨some 46, .move (.tmp 6), none⟩,
    ⟨some 47, .call { callee := .value (.func 34), args := #[.tmp 46], argTypes := #[27] }, none⟩,
    ⟨some 45, .move (.tmp 47), none⟩,
    ⟨some 48, .extract (.tmp 45) 0, none⟩,
    ⟨some 49, .extract (.tmp 45) 1, none⟩,
    ⟨some 9, .assign (.tmp 48), none⟩,
    ⟨some 10, .assign (.tmp 49), none⟩]
@[reducible] def q6_13 : SCode := .region [⟨some 50, .move (.tmp 7), none⟩,
    ⟨some 51, .binOp .neq 29 (.tmp 50) (.const (.int .i64 0)) 29, none⟩,
    ⟨some 52, .move (.tmp 51), none⟩,
    ⟨some 53, .move (.tmp 10), some (52, false)⟩,
    ⟨some 54, .binOp .neq 29 (.tmp 53) (.const (.int .i64 0)) 29, some (52, false)⟩,
    ⟨some 55, .pick (.tmp 52) (.const (.bool true)) (.tmp 54), none⟩,
    ⟨some 56, .move (.tmp 55), none⟩,
    ⟨some 57, .move (.tmp 8), some (56, false)⟩,
    ⟨some 58, .call { callee := .builtin .len, args := #[.tmp 57], argTypes := #[66] }, some (56, false)⟩,
    ⟨some 59, .binOp .neq 3 (.tmp 58) (.const (.int .i64 0)) 3, some (56, false)⟩,
    ⟨some 60, .pick (.tmp 56) (.const (.bool true)) (.tmp 59), none⟩,
    ⟨some 61, .move (.tmp 60), none⟩,
    ⟨some 62, .move (.tmp 9), some (61, false)⟩,
    ⟨some 63, .call { callee := .builtin .len, args := #[.tmp 62], argTypes := #[27] }, some (61, false)⟩,
    ⟨some 64, .move (.tmp 0), some (61, false)⟩,
    ⟨some 65, .binOp .neq 3 (.tmp 63) (.tmp 64) 3, some (61, false)⟩,
    ⟨some 66, .pick (.tmp 61) (.const (.bool true)) (.tmp 65), none⟩]
@[reducible] def q6_14 : SCode := .region [⟨some 2, .assign (.const (.bool false)), none⟩]
@[reducible] def q6_15 : SCode := .region [⟨some 68, .move (.tmp 4), none⟩,
    ⟨some 69, .call { callee := .value (.func 32), args := #[.tmp 68], argTypes := #[27] }, none⟩,
    ⟨some 67, .move (.tmp 69), none⟩,
    ⟨some 70, .extract (.tmp 67) 0, none⟩,
    ⟨some 71, .extract (.tmp 67) 1, none⟩,
    ⟨some 11, .assign (.tmp 70), none⟩,
    ⟨some 7, .assign (.tmp 71), none⟩]
@[reducible] def q6_16 : SCode := .region [⟨some 72, .move (.tmp 0), none⟩,
    ⟨some 73, .binOp .rem 3 (.tmp 72) (.const (.int .i64 2)) 3, none⟩,
    ⟨some 74, .binOp .eql 3 (.tmp 73) (.const (.int .i64 0)) 3, none⟩]
@[reducible] def q6_17 : SCode := .region [⟨some 75, .move (.tmp 7), none⟩,
    ⟨some 76, .binOp .eql 29 (.tmp 75) (.const (.int .i64 4)) 29, none⟩,
    ⟨some 77, .move (.tmp 76), none⟩,
    ⟨some 78, .call { callee := .value (.func 17), args := #[], argTypes := #[] }, some (77, true)⟩,
    ⟨some 79, .pick (.tmp 77) (.tmp 78) (.const (.bool false)), none⟩,
    ⟨some 2, .assign (.tmp 79), none⟩]
@[reducible] def q6_18 : SCode := .region [⟨some 81, .move (.tmp 11), none⟩,
    ⟨some 82, .call { callee := .value (.func 34), args := #[.tmp 81], argTypes := #[27] }, none⟩,
    ⟨some 80, .move (.tmp 82), none⟩,
    ⟨some 83, .extract (.tmp 80) 0, none⟩,
    ⟨some 84, .extract (.tmp 80) 1, none⟩,
    ⟨some 9, .assign (.tmp 83), none⟩,
    ⟨some 10, .assign (.tmp 84), none⟩]
@[reducible] def q6_19 : SCode := .region [⟨some 85, .move (.tmp 7), none⟩,
    ⟨some 86, .binOp .eql 29 (.tmp 85) (.const (.int .i64 0)) 29, none⟩,
    ⟨some 87, .move (.tmp 86), none⟩,
    ⟨some 88, .move (.tmp 10), some (87, true)⟩,
    ⟨some 89, .binOp .eql 29 (.tmp 88) (.const (.int .i64 0)) 29, some (87, true)⟩,
    ⟨some 90, .pick (.tmp 87) (.tmp 89) (.const (.bool false)), none⟩,
    ⟨some 91, .move (.tmp 90), none⟩,
    ⟨some 92, .move (.tmp 9), some (91, true)⟩,
    ⟨some 93, .call { callee := .builtin .len, args := #[.tmp 92], argTypes := #[27] }, some (91, true)⟩,
    ⟨some 94, .binOp .eql 3 (.tmp 93) (.const (.int .i64 1)) 3, some (91, true)⟩,
    ⟨some 95, .pick (.tmp 91) (.tmp 94) (.const (.bool false)), none⟩,
    ⟨some 96, .move (.tmp 95), none⟩,
    ⟨some 97, .call { callee := .value (.func 17), args := #[], argTypes := #[] }, some (96, true)⟩,
    ⟨some 98, .pick (.tmp 96) (.tmp 97) (.const (.bool false)), none⟩,
    ⟨some 2, .assign (.tmp 98), none⟩]
def s6 : SCode := (.seq q6_0 (.seq q6_1 (.seq q6_2 (.seq (.seq q6_3 (.block 0 (.loop l6_0))) (.seq q6_8 (.seq (.seq q6_9 (.cond (.tmp 38) (.seq q6_10 .ret) .skip)) (.seq q6_11 (.seq q6_12 (.seq (.seq q6_13 (.cond (.tmp 66) (.seq q6_14 .ret) .skip)) (.seq q6_15 (.seq (.seq q6_16 (.cond (.tmp 74) (.seq q6_17 .ret) .skip)) (.seq q6_18 (.seq q6_19 .ret)))))))))))))
theorem s6_strip : Zk (Zn Tryd.f6) = s6 := by kernel_rfl
theorem s6_ok : Yb 99 (Zn Tryd.f6) = true := by kernel_rfl
/-! 13: slices.Clone[[]int,int] -/
@[reducible] def q13_0 : SCode := .region [⟨some 2, .assign (.const (.slice none 0 0)), none⟩]
@[reducible] def q13_1 : SCode := .region [⟨some 3, .move (.tmp 0), none⟩,
    ⟨some 4, .binOp .eql 27 (.tmp 3) (.const (.slice none 0 0)) 27, none⟩]
@[reducible] def q13_2 : SCode := .region [⟨some 2, .assign (.const (.slice none 0 0)), none⟩]
@[reducible] def q13_3 : SCode := .region [⟨some 5, .buildSlice 27 0 #[], none⟩,
    ⟨some 6, .move (.tmp 0), none⟩,
    ⟨some 7, .call { callee := .builtin .append, args := #[.tmp 5, .tmp 6], argTypes := #[27, 27] }, none⟩,
    ⟨some 2, .assign (.tmp 7), none⟩]
def s13 : SCode := (.seq q13_0 (.seq (.seq q13_1 (.cond (.tmp 4) (.seq q13_2 .ret) .skip)) (.seq q13_3 .ret)))
theorem s13_strip : Zk (Zn Tryd.f13) = s13 := by kernel_rfl
theorem s13_ok : Yb 8 (Zn Tryd.f13) = true := by kernel_rfl
theorem s13_call [Tabs Tryd.prog] {args : List Value} {h : Zd} {Q : Value → Zd → Prop} (hsz : args.length ≤ 8) (hk : aw Tryd.prog 8 s13 (Zr Tryd.prog [.tmp 2] Q) (Zm 0 args) h) : ACall Tryd.prog 13 args h Q :=
  Xo Tryd.func13 rfl (enters_of Tryd.func13 (by kernel_rfl) rfl) rfl rfl (by decide) s13_strip s13_ok hsz hk

/-! 17: planchet planchettop.stands -/
@[reducible] def q17_0 : SCode := .region [⟨some 0, .assign (.const (.bool false)), none⟩]
@[reducible] def q17_1 : SCode := .region [⟨some 4, .buildSlice 27 2 #[(0, .const (.int .i64 0)), (1, .const (.int .i64 0))], none⟩,
    ⟨some 5, .call { callee := .value (.func 18), args := #[.tmp 4], argTypes := #[27] }, none⟩,
    ⟨some 3, .move (.tmp 5), none⟩,
    ⟨some 6, .extract (.tmp 3) 0, none⟩,
    ⟨some 7, .extract (.tmp 3) 1, none⟩,
    ⟨some 1, .assign (.tmp 6), none⟩,
    ⟨some 2, .assign (.tmp 7), none⟩]
@[reducible] def q17_2 : SCode := .region [⟨some 8, .move (.tmp 1), none⟩,
    ⟨some 9, .binOp .eql 3 (.tmp 8) (.const (.int .i64 2)) 3, none⟩,
    ⟨some 10, .move (.tmp 9), none⟩,
    ⟨some 11, .move (.tmp 2), some (10, true)⟩,
    ⟨some 12, .binOp .eql 29 (.tmp 11) (.const (.int .i64 0)) 29, some (10, true)⟩,
    ⟨some 13, .pick (.tmp 10) (.tmp 12) (.const (.bool false)), none⟩,
    ⟨some 0, .assign (.tmp 13), none⟩]
def s17 : SCode := (.seq q17_0 (.seq q17_1 (.seq q17_2 .ret)))
theorem s17_strip : Zk (Zn Tryd.f17) = s17 := by kernel_rfl
theorem s17_ok : Yb 14 (Zn Tryd.f17) = true := by kernel_rfl
theorem s17_call [Tabs Tryd.prog] {args : List Value} {h : Zd} {Q : Value → Zd → Prop} (hsz : args.length ≤ 14) (hk : aw Tryd.prog 14 s17 (Zr Tryd.prog [.tmp 0] Q) (Zm 0 args) h) : ACall Tryd.prog 17 args h Q :=
  Xo Tryd.func17 rfl (enters_of Tryd.func17 (by kernel_rfl) rfl) rfl rfl (by decide) s17_strip s17_ok hsz hk

/-! 18: planchet order.Count -/
@[reducible] def q18_0 : SCode := .region [⟨some 2, .assign (.const (.int .i64 0)), none⟩,
    ⟨some 3, .assign (.const (.int .i64 0)), none⟩]
@[reducible] def q18_1 : SCode := .region [⟨some 7, .move (.tmp 0), none⟩,
    ⟨some 8, .call { callee := .value (.func 54), args := #[.tmp 7], argTypes := #[27] }, none⟩,
    ⟨some 6, .move (.tmp 8), none⟩,
    ⟨some 9, .extract (.tmp 6) 0, none⟩,
    ⟨some 10, .extract (.tmp 6) 1, none⟩,
    ⟨some 4, .alloc 97, none⟩,
    ⟨none, .store 97 (.tmp 4) (.tmp 9), none⟩,
    ⟨some 5, .assign (.tmp 10), none⟩]
@[reducible] def q18_2 : SCode := .region [⟨some 11, .move (.tmp 5), none⟩,
    ⟨some 12, .unOp .not 4 (.tmp 11), none⟩]
@[reducible] def q18_3 : SCode := .region [⟨some 2, .assign (.const (.int .i64 0)), none⟩,
    ⟨some 3, .assign (.const (.int .i64 2)), none⟩]
@[reducible] def q18_4 : SCode := .region [⟨some 13, .load 97 (.tmp 4), none⟩,
    ⟨some 14, .call { callee := .value (.func 56), args := #[.tmp 13], argTypes := #[97] }, none⟩,
    ⟨some 2, .assign (.tmp 14), none⟩,
    ⟨some 3, .assign (.const (.int .i64 0)), none⟩]
def s18 : SCode := (.seq q18_0 (.seq q18_1 (.seq (.seq q18_2 (.cond (.tmp 12) (.seq q18_3 .ret) .skip)) (.seq q18_4 .ret))))
theorem s18_strip : Zk (Zn Tryd.f18) = s18 := by kernel_rfl
theorem s18_ok : Yb 15 (Zn Tryd.f18) = true := by kernel_rfl
theorem s18_call [Tabs Tryd.prog] {args : List Value} {h : Zd} {Q : Value → Zd → Prop} (hsz : args.length ≤ 15) (hk : aw Tryd.prog 15 s18 (Zr Tryd.prog [.tmp 2, .tmp 3] Q) (Zm 0 args) h) : ACall Tryd.prog 18 args h Q :=
  Xo Tryd.func18 rfl (enters_of Tryd.func18 (by kernel_rfl) rfl) rfl rfl (by decide) s18_strip s18_ok hsz hk

/-! 32: planchet ranks.Make -/
@[reducible] def q32_0 : SCode := .region [⟨some 2, .assign (.const (.slice none 0 0)), none⟩,
    ⟨some 3, .assign (.const (.int .i64 0)), none⟩]
@[reducible] def q32_1 : SCode := .region [⟨some 11, .move (.tmp 0), none⟩,
    ⟨some 12, .call { callee := .builtin .len, args := #[.tmp 11], argTypes := #[27] }, none⟩,
    ⟨some 13, .binOp .lss 3 (.tmp 12) (.const (.int .i64 1)) 3, none⟩,
    ⟨some 14, .move (.tmp 13), none⟩,
    ⟨some 15, .move (.tmp 0), some (14, false)⟩,
    ⟨some 16, .call { callee := .builtin .len, args := #[.tmp 15], argTypes := #[27] }, some (14, false)⟩,
    ⟨some 17, .binOp .gtr 3 (.tmp 16) (.const (.int .i64 8)) 3, some (14, false)⟩,
    ⟨some 18, .pick (.tmp 14) (.const (.bool true)) (.tmp 17), none⟩,
    ⟨some 19, .move (.tmp 18), none⟩,
    ⟨some 20, .move (.tmp 0), some (19, false)⟩,
    ⟨some 21, .call { callee := .value (.func 79), args := #[.tmp 20], argTypes := #[27] }, some (19, false)⟩,
    ⟨some 22, .unOp .not 4 (.tmp 21), some (19, false)⟩,
    ⟨some 23, .pick (.tmp 19) (.const (.bool true)) (.tmp 22), none⟩,
    ⟨some 24, .move (.tmp 23), none⟩,
    ⟨some 25, .move (.tmp 0), some (24, false)⟩,
    ⟨some 26, .indexAddr 27 (.tmp 25) (.const (.int .i64 0)), some (24, false)⟩,
    ⟨some 27, .load 3 (.tmp 26), some (24, false)⟩,
    ⟨some 28, .binOp .lss 3 (.tmp 27) (.const (.int .i64 0)) 3, some (24, false)⟩,
    ⟨some 29, .pick (.tmp 24) (.const (.bool true)) (.tmp 28), none⟩,
    ⟨some 30, .move (.tmp 29), none⟩,
    ⟨some 31, .move (.tmp 0), some (30, false)⟩,
    ⟨some 32, .move (.tmp 0), some (30, false)⟩,
    ⟨some 33, .call { callee := .builtin .len, args := #[.tmp 32], argTypes := #[27] }, some (30, false)⟩,
    ⟨some 34, .binOp .sub 3 (.tmp 33) (.const (.int .i64 1)) 3, some (30, false)⟩,
    ⟨some 35, .indexAddr 27 (.tmp 31) (.tmp 34), some (30, false)⟩,
    ⟨some 36, .load 3 (.tmp 35), some (30, false)⟩,
    ⟨some 37, .binOp .gtr 3 (.tmp 36) (.const (.int .i64 7)) 3, some (30, false)⟩,
    ⟨some 38, .pick (.tmp 30) (.const (.bool true)) (.tmp 37), none⟩]
@[reducible] def q32_2 : SCode := .region [⟨some 2, .assign (.const (.slice none 0 0)), none⟩,
    ⟨some 3, .assign (.const (.int .i64 2)), none⟩]
@[reducible] def q32_3 : SCode := .region [⟨some 39, .move (.tmp 0), none⟩,
    ⟨some 40, .call { callee := .value (.func 13), args := #[.tmp 39], argTypes := #[27] }, none⟩,
    ⟨some 4, .alloc 27, none⟩,
    ⟨none, .store 27 (.tmp 4) (.tmp 40), none⟩]
@[reducible] def q32_4 : SCode := .region [⟨some 41, .move (.tmp 0), none⟩,
    ⟨some 42, .call { callee := .builtin .len, args := #[.tmp 41], argTypes := #[27] }, none⟩,
    ⟨some 43, .makeSlice 131 (.tmp 42) (.tmp 42), none⟩,
    ⟨some 5, .assign (.tmp 43), none⟩]
@[reducible] def q32_5 : SCode := .region [⟨some 6, .assign (.const (.slice none 0 0)), none⟩]
@[reducible] def q32_6 : SCode := .region [⟨some 44, .move (.tmp 0), none⟩,
    ⟨some 45, .call { callee := .builtin .len, args := #[.tmp 44], argTypes := #[27] }, none⟩,
    ⟨some 46, .move (.const (.int .i64 0)), none⟩]
@[reducible] def q32_7 : SCode := .region [⟨some 47, .binOp .lss 3 (.tmp 46) (.tmp 45) 3, none⟩]
@[reducible] def q32_8 : SCode := .region [⟨some 48, .move (.tmp 46), none⟩,
    ⟨some 7, .assign (.tmp 48), none⟩]
@[reducible] def q32_9 : SCode := .region [⟨some 49, .move (.tmp 6), none⟩,
    ⟨some 50, .move (.tmp 7), none⟩,
    ⟨some 51, .buildSlice 27 1 #[(0, .tmp 50)], none⟩,
    ⟨some 52, .call { callee := .builtin .append, args := #[.tmp 49, .tmp 51], argTypes := #[27, 27] }, none⟩,
    ⟨some 6, .assign (.tmp 52), none⟩]
@[reducible] def q32_10 : SCode := .region [⟨some 53, .binOp .add 3 (.tmp 46) (.const (.int .i64 1)) 3, none⟩,
    ⟨some 46, .move (.tmp 53), none⟩]
def l32_0 : SCode := (.seq q32_7 (.seq (.cond (.tmp 47) .skip (.exit 0)) (.seq (.block 1 (.seq q32_8 q32_9)) q32_10)))
@[reducible] def q32_11 : SCode := .region [⟨some 54, .move (.tmp 6), none⟩,
    ⟨some 55, .call { callee := .builtin .len, args := #[.tmp 54], argTypes := #[27] }, none⟩,
    ⟨some 56, .binOp .gtr 3 (.tmp 55) (.const (.int .i64 0)) 3, none⟩]
@[reducible] def q32_12 : SCode := .region [⟨some 57, .move (.tmp 6), none⟩,
    ⟨some 58, .makeFunc (.func 81) #[] #[.tmp 4], none⟩,
    ⟨some 59, .call { callee := .value (.func 80), args := #[.tmp 57, .tmp 58], argTypes := #[27, 114] }, none⟩]
@[reducible] def q32_13 : SCode := .region [⟨some 60, .move (.tmp 6), none⟩,
    ⟨some 61, .move (.tmp 6), none⟩,
    ⟨some 62, .call { callee := .builtin .len, args := #[.tmp 61], argTypes := #[27] }, none⟩,
    ⟨some 63, .binOp .sub 3 (.tmp 62) (.const (.int .i64 1)) 3, none⟩,
    ⟨some 64, .indexAddr 27 (.tmp 60) (.tmp 63), none⟩,
    ⟨some 65, .load 3 (.tmp 64), none⟩,
    ⟨some 8, .assign (.tmp 65), none⟩]
@[reducible] def q32_14 : SCode := .region [⟨some 66, .move (.tmp 6), none⟩,
    ⟨some 67, .move (.tmp 6), none⟩,
    ⟨some 68, .call { callee := .builtin .len, args := #[.tmp 67], argTypes := #[27] }, none⟩,
    ⟨some 69, .binOp .sub 3 (.tmp 68) (.const (.int .i64 1)) 3, none⟩,
    ⟨some 70, .slice 27 (.tmp 66) none (some (.tmp 69)) none, none⟩,
    ⟨some 6, .assign (.tmp 70), none⟩]
@[reducible] def q32_15 : SCode := .region [⟨some 71, .load 27 (.tmp 4), none⟩,
    ⟨some 72, .move (.tmp 8), none⟩,
    ⟨some 73, .indexAddr 27 (.tmp 71) (.tmp 72), none⟩,
    ⟨some 74, .load 3 (.tmp 73), none⟩,
    ⟨some 75, .binOp .lss 3 (.tmp 74) (.const (.int .i64 0)) 3, none⟩,
    ⟨some 76, .move (.tmp 75), none⟩,
    ⟨some 77, .load 27 (.tmp 4), some (76, false)⟩,
    ⟨some 78, .move (.tmp 8), some (76, false)⟩,
    ⟨some 79, .indexAddr 27 (.tmp 77) (.tmp 78), some (76, false)⟩,
    ⟨some 80, .load 3 (.tmp 79), some (76, false)⟩,
    ⟨some 81, .move (.tmp 6), some (76, false)⟩,
    ⟨some 82, .call { callee := .builtin .len, args := #[.tmp 81], argTypes := #[27] }, some (76, false)⟩,
    ⟨some 83, .binOp .gtr 3 (.tmp 80) (.tmp 82) 3, some (76, false)⟩,
    ⟨some 84, .pick (.tmp 76) (.const (.bool true)) (.tmp 83), none⟩]
@[reducible] def q32_16 : SCode := .region [⟨some 2, .assign (.const (.slice none 0 0)), none⟩,
    ⟨some 3, .assign (.const (.int .i64 4)), none⟩]
@[reducible] def q32_17 : SCode := .region [⟨some 85, .move (.tmp 6), none⟩,
    ⟨some 86, .call { callee := .builtin .len, args := #[.tmp 85], argTypes := #[27] }, none⟩,
    ⟨some 87, .move (.const (.int .i64 0)), none⟩]
@[reducible] def q32_18 : SCode := .region [⟨some 88, .binOp .lss 3 (.tmp 87) (.tmp 86) 3, none⟩]
@[reducible] def q32_19 : SCode := .region [⟨some 89, .move (.tmp 87), none⟩,
    ⟨some 90, .indexAddr 27 (.tmp 85) (.tmp 87), none⟩,
    ⟨some 91, .load 3 (.tmp 90), none⟩,
    ⟨some 9, .assign (.tmp 89), none⟩,
    ⟨some 10, .assign (.tmp 91), none⟩]
@[reducible] def q32_20 : SCode := .region [⟨some 92, .move (.tmp 9), none⟩,
    ⟨some 93, .load 27 (.tmp 4), none⟩,
    ⟨some 94, .move (.tmp 8), none⟩,
    ⟨some 95, .indexAddr 27 (.tmp 93) (.tmp 94), none⟩,
    ⟨some 96, .load 3 (.tmp 95), none⟩,
    ⟨some 97, .binOp .lss 3 (.tmp 92) (.tmp 96) 3, none⟩]
def q32_21 : SCode := .draw [⟨some 98, .move (.tmp 5), none⟩,
    ⟨some 99, .move (.tmp 8), none⟩,
    ⟨some 100, .indexAddr 131 (.tmp 98) (.tmp 99), none⟩,
    ⟨some 101, .load 3 (.tmp 100), none⟩,
    ⟨some 102, .move (.tmp 10), none⟩,
    ⟨some 103, .binOp .shl 3 (.const (.int .i64 1)) (.tmp 102) 3, none⟩,
    ⟨some 104, .binOp .or 3 (.tmp 101) (.tmp 103) 3, none⟩,
    ⟨some 105, .indexAddr 131 (.tmp 98) (.tmp 99), none⟩,
    ⟨none, .store 3 (.tmp 105) (.tmp 104), none⟩]
   [[], [], [0, 1], [2], [], [4], [3, 5], [0, 1, 0, 1, 2, 3, 4, 5, 6], [7, 6, 0, 1, 2, 3, 4, 5, 6]]
def q32_22 : SCode := .draw [⟨some 106, .move (.tmp 5), none⟩,
    ⟨some 107, .move (.tmp 10), none⟩,
    ⟨some 108, .indexAddr 131 (.tmp 106) (.tmp 107), none⟩,
    ⟨some 109, .load 3 (.tmp 108), none⟩,
    ⟨some 110, .move (.tmp 8), none⟩,
    ⟨some 111, .binOp .shl 3 (.const (.int .i64 1)) (.tmp 110) 3, none⟩,
    ⟨some 112, .binOp .or 3 (.tmp 109) (.tmp 111) 3, none⟩,
    ⟨some 113, .indexAddr 131 (.tmp 106) (.tmp 107), none⟩,
    ⟨none, .store 3 (.tmp 113) (.tmp 112), none⟩]
   [[], [], [0, 1], [2], [], [4], [3, 5], [0, 1, 0, 1, 2, 3, 4, 5, 6], [7, 6, 0, 1, 2, 3, 4, 5, 6]]
@[reducible] def q32_23 : SCode := .region [⟨some 114, .load 27 (.tmp 4), none⟩,
    ⟨some 115, .move (.tmp 10), none⟩,
    ⟨some 116, .indexAddr 27 (.tmp 114) (.tmp 115), none⟩,
    ⟨some 117, .load 3 (.tmp 116), none⟩,
    ⟨some 118, .binOp .sub 3 (.tmp 117) (.const (.int .i64 1)) 3, none⟩,
    ⟨some 119, .indexAddr 27 (.tmp 114) (.tmp 115), none⟩,
    ⟨none, .store 3 (.tmp 119) (.tmp 118), none⟩]
@[reducible] def q32_24 : SCode := .region [⟨some 120, .binOp .add 3 (.tmp 87) (.const (.int .i64 1)) 3, none⟩,
    ⟨some 87, .move (.tmp 120), none⟩]
def l32_1 : SCode := (.seq q32_18 (.seq (.cond (.tmp 88) .skip (.exit 4)) (.seq (.block 5 (.seq q32_19 (.seq q32_20 (.cond (.tmp 97) q32_21 (.seq q32_22 q32_23))))) q32_24)))
def l32_2 : SCode := (.seq (.seq q32_11 (.cond (.tmp 56) .skip (.exit 2))) (.block 3 (.seq q32_12 (.seq q32_13 (.seq q32_14 (.seq (.seq q32_15 (.cond (.tmp 84) (.seq q32_16 .ret) .skip)) (.seq q32_17 (.block 4 (.loop l32_1)))))))))
@[reducible] def q32_25 : SCode := .region [⟨some 121, .move (.tmp 5), none⟩,
    ⟨some 122, .move (.tmp 0), none⟩,
    ⟨some 123, .call { callee := .value (.func 82), args := #[.tmp 121, .tmp 122, .func 83], argTypes := #[131, 27, 82] }, none⟩,
    ⟨some 124, .unOp .not 4 (.tmp 123), none⟩]
@[reducible] def q32_26 : SCode := .region [⟨some 2, .assign (.const (.slice none 0 0)), none⟩,
    ⟨some 3, .assign (.const (.int .i64 4)), none⟩]
@[reducible] def q32_27 : SCode := .region [⟨some 125, .move (.tmp 5), none⟩,
    ⟨some 2, .assign (.tmp 125), none⟩,
    ⟨some 3, .assign (.const (.int .i64 0)), none⟩]
def s32 : SCode := (.seq q32_0 (.seq (.seq q32_1 (.cond (.tmp 38) (.seq q32_2 .ret) .skip)) (.seq q32_3 (.seq q32_4 (.seq q32_5 (.seq (.seq q32_6 (.block 0 (.loop l32_0))) (.seq (.block 2 (.loop l32_2)) (.seq (.seq q32_25 (.cond (.tmp 124) (.seq q32_26 .ret) .skip)) (.seq q32_27 .ret)))))))))
theorem s32_strip : Zk (Zn Tryd.f32) = s32 := by kernel_rfl
theorem s32_ok : Yb 126 (Zn Tryd.f32) = true := by kernel_rfl
/-! 33: planchet ranks.Cycles -/
@[reducible] def q33_0 : SCode := .region [⟨some 2, .assign (.const (.slice none 0 0)), none⟩,
    ⟨some 3, .assign (.const (.int .i64 0)), none⟩]
@[reducible] def q33_1 : SCode := .region [⟨some 4, .move (.tmp 0), none⟩,
    ⟨some 5, .call { callee := .value (.func 85), args := #[.tmp 4], argTypes := #[131] }, none⟩,
    ⟨some 6, .unOp .not 4 (.tmp 5), none⟩]
@[reducible] def q33_2 : SCode := .region [⟨some 2, .assign (.const (.slice none 0 0)), none⟩,
    ⟨some 3, .assign (.const (.int .i64 2)), none⟩]
@[reducible] def q33_3 : SCode := .region [⟨some 7, .move (.tmp 0), none⟩,
    ⟨some 8, .call { callee := .value (.func 86), args := #[.tmp 7], argTypes := #[131] }, none⟩,
    ⟨some 2, .assign (.tmp 8), none⟩,
    ⟨some 3, .assign (.const (.int .i64 0)), none⟩]
def s33 : SCode := (.seq q33_0 (.seq (.seq q33_1 (.cond (.tmp 6) (.seq q33_2 .ret) .skip)) (.seq q33_3 .ret)))
theorem s33_strip : Zk (Zn Tryd.f33) = s33 := by kernel_rfl
theorem s33_ok : Yb 9 (Zn Tryd.f33) = true := by kernel_rfl
theorem s33_call [Tabs Tryd.prog] {args : List Value} {h : Zd} {Q : Value → Zd → Prop} (hsz : args.length ≤ 9) (hk : aw Tryd.prog 9 s33 (Zr Tryd.prog [.tmp 2, .tmp 3] Q) (Zm 0 args) h) : ACall Tryd.prog 33 args h Q :=
  Xo Tryd.func33 rfl (enters_of Tryd.func33 (by kernel_rfl) rfl) rfl rfl (by decide) s33_strip s33_ok hsz hk

/-! 34: planchet ranks.Parts -/
@[reducible] def q34_0 : SCode := .region [⟨some 2, .assign (.const (.slice none 0 0)), none⟩,
    ⟨some 3, .assign (.const (.int .i64 0)), none⟩]
@[reducible] def q34_1 : SCode := .region [⟨some 12, .move (.tmp 0), none⟩,
    ⟨some 4, .assign (.tmp 12), none⟩]
@[reducible] def q34_2 : SCode := .region [⟨some 13, .move (.tmp 4), none⟩,
    ⟨some 14, .call { callee := .value (.func 85), args := #[.tmp 13], argTypes := #[131] }, none⟩,
    ⟨some 15, .unOp .not 4 (.tmp 14), none⟩]
@[reducible] def q34_3 : SCode := .region [⟨some 2, .assign (.const (.slice none 0 0)), none⟩,
    ⟨some 3, .assign (.const (.int .i64 2)), none⟩]
@[reducible] def q34_4 : SCode := .region [⟨some 16, .makeMap 135 none, none⟩,
    ⟨some 5, .assign (.tmp 16), none⟩]
@[reducible] def q34_5 : SCode := .region [⟨some 17, .move (.tmp 0), none⟩,
    ⟨some 18, .call { callee := .builtin .len, args := #[.tmp 17], argTypes := #[27] }, none⟩,
    ⟨some 19, .move (.const (.int .i64 0)), none⟩]
@[reducible] def q34_6 : SCode := .region [⟨some 20, .binOp .lss 3 (.tmp 19) (.tmp 18) 3, none⟩]
@[reducible] def q34_7 : SCode := .region [⟨some 21, .move (.tmp 19), none⟩,
    ⟨some 6, .assign (.tmp 21), none⟩]
def q34_8 : SCode := .draw [⟨some 22, .move (.tmp 5), none⟩,
    ⟨some 23, .move (.tmp 4), none⟩,
    ⟨some 24, .move (.tmp 6), none⟩,
    ⟨some 25, .call { callee := .value (.func 87), args := #[.tmp 23, .tmp 24], argTypes := #[131, 3] }, none⟩,
    ⟨some 26, .lookup 135 (.tmp 22) (.tmp 25) false, none⟩,
    ⟨some 27, .move (.tmp 6), none⟩,
    ⟨some 28, .binOp .shl 3 (.const (.int .i64 1)) (.tmp 27) 3, none⟩,
    ⟨some 29, .binOp .or 3 (.tmp 26) (.tmp 28) 3, none⟩,
    ⟨none, .mapUpdate 135 (.tmp 22) (.tmp 25) (.tmp 29), none⟩]
   [[], [], [], [1, 2], [0, 3], [], [5], [4, 6], [0, 3, 7, 3, 0, 1, 2, 3, 4, 5, 6, 7]]
@[reducible] def q34_9 : SCode := .region [⟨some 30, .binOp .add 3 (.tmp 19) (.const (.int .i64 1)) 3, none⟩,
    ⟨some 19, .move (.tmp 30), none⟩]
def l34_0 : SCode := (.seq q34_6 (.seq (.cond (.tmp 20) .skip (.exit 0)) (.seq (.block 1 (.seq q34_7 q34_8)) q34_9)))
@[reducible] def q34_10 : SCode := .region [⟨some 7, .assign (.const (.slice none 0 0)), none⟩]
@[reducible] def q34_11 : SCode := .region [⟨some 31, .move (.tmp 5), none⟩,
    ⟨some 32, .range 135 (.tmp 31), none⟩]
@[reducible] def q34_12 : SCode := .region [⟨some 33, .next (.tmp 32) false, none⟩,
    ⟨some 34, .extract (.tmp 33) 0, none⟩]
@[reducible] def q34_13 : SCode := .region [⟨some 35, .entry (.tmp 32), none⟩,
    ⟨some 36, .extract (.tmp 35) 0, none⟩,
    ⟨some 8, .assign (.tmp 36), none⟩]
@[reducible] def q34_14 : SCode := .region [⟨some 37, .move (.tmp 7), none⟩,
    ⟨some 38, .move (.tmp 8), none⟩,
    ⟨some 39, .buildSlice 27 1 #[(0, .tmp 38)], none⟩,
    ⟨some 40, .call { callee := .builtin .append, args := #[.tmp 37, .tmp 39], argTypes := #[27, 27] }, none⟩,
    ⟨some 7, .assign (.tmp 40), none⟩]
def l34_1 : SCode := (.seq q34_12 (.seq (.cond (.tmp 34) .skip (.exit 2)) (.block 3 (.seq q34_13 q34_14))))
@[reducible] def q34_15 : SCode := .region [⟨some 41, .move (.tmp 7), none⟩,
    ⟨some 42, .call { callee := .value (.func 88), args := #[.tmp 41, .func 89], argTypes := #[27, 114] }, none⟩]
@[reducible] def q34_16 : SCode := .region [⟨some 9, .assign (.const (.slice none 0 0)), none⟩]
@[reducible] def q34_17 : SCode := .region [⟨some 43, .move (.tmp 7), none⟩,
    ⟨some 44, .call { callee := .builtin .len, args := #[.tmp 43], argTypes := #[27] }, none⟩,
    ⟨some 45, .move (.const (.int .i64 0)), none⟩]
@[reducible] def q34_18 : SCode := .region [⟨some 46, .binOp .lss 3 (.tmp 45) (.tmp 44) 3, none⟩]
@[reducible] def q34_19 : SCode := .region [⟨some 47, .indexAddr 27 (.tmp 43) (.tmp 45), none⟩,
    ⟨some 48, .load 3 (.tmp 47), none⟩,
    ⟨some 11, .assign (.tmp 48), none⟩]
@[reducible] def q34_20 : SCode := .region [⟨some 49, .move (.tmp 9), none⟩,
    ⟨some 50, .move (.tmp 5), none⟩,
    ⟨some 51, .move (.tmp 11), none⟩,
    ⟨some 52, .lookup 135 (.tmp 50) (.tmp 51) false, none⟩,
    ⟨some 53, .buildSlice 27 1 #[(0, .tmp 52)], none⟩,
    ⟨some 54, .call { callee := .builtin .append, args := #[.tmp 49, .tmp 53], argTypes := #[27, 27] }, none⟩,
    ⟨some 9, .assign (.tmp 54), none⟩]
@[reducible] def q34_21 : SCode := .region [⟨some 55, .binOp .add 3 (.tmp 45) (.const (.int .i64 1)) 3, none⟩,
    ⟨some 45, .move (.tmp 55), none⟩]
def l34_2 : SCode := (.seq q34_18 (.seq (.cond (.tmp 46) .skip (.exit 4)) (.seq (.block 5 (.seq q34_19 q34_20)) q34_21)))
@[reducible] def q34_22 : SCode := .region [⟨some 56, .move (.tmp 9), none⟩,
    ⟨some 2, .assign (.tmp 56), none⟩,
    ⟨some 3, .assign (.const (.int .i64 0)), none⟩]
def s34 : SCode := (.seq q34_0 (.seq q34_1 (.seq (.seq q34_2 (.cond (.tmp 15) (.seq q34_3 .ret) .skip)) (.seq q34_4 (.seq (.seq q34_5 (.block 0 (.loop l34_0))) (.seq q34_10 (.seq (.seq q34_11 (.block 2 (.loop l34_1))) (.seq q34_15 (.seq q34_16 (.seq (.seq q34_17 (.block 4 (.loop l34_2))) (.seq q34_22 .ret)))))))))))
theorem s34_strip : Zk (Zn Tryd.f34) = s34 := by kernel_rfl
theorem s34_ok : Yb 57 (Zn Tryd.f34) = true := by kernel_rfl
/-! 54: planchet order.read -/
@[reducible] def q54_0 : SCode := .region [⟨some 1, .box 27 (.tmp 0), none⟩,
    ⟨some 2, .alloc 97, none⟩,
    ⟨some 3, .alloc 4, none⟩]
@[reducible] def q54_1 : SCode := .region [⟨some 8, .load 27 (.tmp 1), none⟩,
    ⟨some 9, .call { callee := .builtin .len, args := #[.tmp 8], argTypes := #[27] }, none⟩,
    ⟨some 10, .build 97 #[(0, .tmp 9)], none⟩,
    ⟨some 4, .alloc 97, none⟩,
    ⟨none, .store 97 (.tmp 4) (.tmp 10), none⟩]
@[reducible] def q54_2 : SCode := .region [⟨some 11, .load 27 (.tmp 1), none⟩,
    ⟨some 12, .call { callee := .builtin .len, args := #[.tmp 11], argTypes := #[27] }, none⟩,
    ⟨some 13, .binOp .lss 3 (.tmp 12) (.const (.int .i64 1)) 3, none⟩,
    ⟨some 14, .move (.tmp 13), none⟩,
    ⟨some 15, .load 27 (.tmp 1), some (14, false)⟩,
    ⟨some 16, .call { callee := .builtin .len, args := #[.tmp 15], argTypes := #[27] }, some (14, false)⟩,
    ⟨some 17, .binOp .gtr 3 (.tmp 16) (.const (.int .i64 6)) 3, some (14, false)⟩,
    ⟨some 18, .pick (.tmp 14) (.const (.bool true)) (.tmp 17), none⟩]
@[reducible] def q54_3 : SCode := .region [⟨some 19, .load 97 (.tmp 4), none⟩,
    ⟨none, .store 97 (.tmp 2) (.tmp 19), none⟩,
    ⟨none, .store 4 (.tmp 3) (.const (.bool false)), none⟩]
def q54_4 : SCode := .draw [⟨some 20, .fieldAddr 97 (.tmp 4) 1, none⟩,
    ⟨some 21, .slice 95 (.tmp 20) none none none, none⟩,
    ⟨some 22, .load 27 (.tmp 1), none⟩,
    ⟨some 23, .call { callee := .builtin .copy, args := #[.tmp 21, .tmp 22], argTypes := #[27, 27] }, none⟩]
   [[], [0], [], [1, 2]]
@[reducible] def q54_5 : SCode := .region [⟨some 24, .load 27 (.tmp 1), none⟩,
    ⟨some 25, .call { callee := .builtin .len, args := #[.tmp 24], argTypes := #[27] }, none⟩,
    ⟨some 26, .move (.const (.int .i64 0)), none⟩]
@[reducible] def q54_6 : SCode := .region [⟨some 27, .binOp .lss 3 (.tmp 26) (.tmp 25) 3, none⟩]
@[reducible] def q54_7 : SCode := .region [⟨some 28, .move (.tmp 26), none⟩,
    ⟨some 29, .indexAddr 27 (.tmp 24) (.tmp 26), none⟩,
    ⟨some 30, .load 3 (.tmp 29), none⟩,
    ⟨some 6, .alloc 3, none⟩,
    ⟨some 5, .assign (.tmp 28), none⟩,
    ⟨none, .store 3 (.tmp 6) (.tmp 30), none⟩]
def q54_8 : SCode := .draw [⟨some 31, .load 3 (.tmp 6), none⟩,
    ⟨some 32, .binOp .lss 3 (.tmp 31) (.const (.int .i64 0)) 3, none⟩,
    ⟨some 33, .move (.tmp 32), none⟩,
    ⟨some 34, .load 3 (.tmp 6), some (33, false)⟩,
    ⟨some 35, .load 27 (.tmp 1), some (33, false)⟩,
    ⟨some 36, .call { callee := .builtin .len, args := #[.tmp 35], argTypes := #[27] }, some (33, false)⟩,
    ⟨some 37, .binOp .shl 3 (.const (.int .i64 1)) (.tmp 36) 3, some (33, false)⟩,
    ⟨some 38, .binOp .geq 3 (.tmp 34) (.tmp 37) 3, some (33, false)⟩,
    ⟨some 39, .pick (.tmp 33) (.const (.bool true)) (.tmp 38), none⟩,
    ⟨some 40, .move (.tmp 39), none⟩,
    ⟨some 41, .load 3 (.tmp 6), some (40, false)⟩,
    ⟨some 42, .move (.tmp 5), some (40, false)⟩,
    ⟨some 43, .binOp .shr 3 (.tmp 41) (.tmp 42) 3, some (40, false)⟩,
    ⟨some 44, .binOp .and 3 (.tmp 43) (.const (.int .i64 1)) 3, some (40, false)⟩,
    ⟨some 45, .binOp .eql 3 (.tmp 44) (.const (.int .i64 1)) 3, some (40, false)⟩,
    ⟨some 46, .pick (.tmp 40) (.const (.bool true)) (.tmp 45), none⟩]
   [[], [0], [1], [2], [2], [4, 2], [5, 2], [3, 6, 2], [2, 7], [8, 2], [9], [9], [10, 11, 9], [12, 9], [13, 9], [9, 14]]
@[reducible] def q54_9 : SCode := .region [⟨some 47, .load 97 (.tmp 4), none⟩,
    ⟨none, .store 97 (.tmp 2) (.tmp 47), none⟩,
    ⟨none, .store 4 (.tmp 3) (.const (.bool false)), none⟩]
@[reducible] def q54_10 : SCode := .region [⟨some 48, .load 3 (.tmp 6), none⟩,
    ⟨some 49, .call { callee := .value (.func 100), args := #[.tmp 48], argTypes := #[3] }, none⟩]
@[reducible] def q54_11 : SCode := .region [⟨some 7, .assign (.tmp 50), none⟩]
def q54_12 : SCode := .draw [⟨some 51, .load 27 (.tmp 1), none⟩,
    ⟨some 52, .move (.tmp 7), none⟩,
    ⟨some 53, .indexAddr 27 (.tmp 51) (.tmp 52), none⟩,
    ⟨some 54, .load 3 (.tmp 53), none⟩,
    ⟨some 55, .load 3 (.tmp 6), none⟩,
    ⟨some 56, .binOp .andNot 3 (.tmp 54) (.tmp 55) 3, none⟩,
    ⟨some 57, .binOp .neq 3 (.tmp 56) (.const (.int .i64 0)) 3, none⟩]
   [[], [], [0, 1], [2], [], [3, 4], [5]]
@[reducible] def q54_13 : SCode := .region [⟨some 58, .load 97 (.tmp 4), none⟩,
    ⟨none, .store 97 (.tmp 2) (.tmp 58), none⟩,
    ⟨none, .store 4 (.tmp 3) (.const (.bool false)), none⟩]
def r54_0_a : SCode := q54_11
def r54_0_b : SCode := (.block 3 (.seq q54_12 (.cond (.tmp 57) (.seq q54_13 .ret) .skip)))
@[reducible] def q54_14 : SCode := .region [⟨some 59, .binOp .add 3 (.tmp 26) (.const (.int .i64 1)) 3, none⟩,
    ⟨some 26, .move (.tmp 59), none⟩]
def l54_1 : SCode := (.seq q54_6 (.seq (.cond (.tmp 27) .skip (.exit 0)) (.seq (.block 1 (.seq q54_7 (.seq (.seq q54_8 (.cond (.tmp 46) (.seq q54_9 .ret) .skip)) (.seq q54_10 (.block 2 (.range (.tmp 49) [50] r54_0_a r54_0_b)))))) q54_14)))
@[reducible] def q54_15 : SCode := .region [⟨some 60, .load 97 (.tmp 4), none⟩,
    ⟨none, .store 97 (.tmp 2) (.tmp 60), none⟩,
    ⟨none, .store 4 (.tmp 3) (.const (.bool true)), none⟩]
def s54 : SCode := (.seq q54_0 (.seq q54_1 (.seq (.seq q54_2 (.cond (.tmp 18) (.seq q54_3 .ret) .skip)) (.seq q54_4 (.seq (.seq q54_5 (.block 0 (.loop l54_1))) (.seq q54_15 .ret))))))
theorem s54_strip : Zk (Zn Tryd.f54) = s54 := by kernel_rfl
theorem s54_ok : Yb 61 (Zn Tryd.f54) = true := by kernel_rfl
theorem s54_call [Tabs Tryd.prog] {args : List Value} {h : Zd} {Q : Value → Zd → Prop} (hsz : args.length ≤ 61) (hk : aw Tryd.prog 61 s54 (Zr Tryd.prog [.cell 2 97, .cell 3 4] Q) (Zm 0 args) h) : ACall Tryd.prog 54 args h Q :=
  Xo Tryd.func54 rfl (enters_of Tryd.func54 (by kernel_rfl) rfl) rfl rfl (by decide) s54_strip s54_ok hsz hk

/-! 56: (planchet order.order).counted -/
@[reducible] def q56_0 : SCode := .region [⟨some 1, .box 97 (.tmp 0), none⟩,
    ⟨some 2, .assign (.const (.int .i64 0)), none⟩]
@[reducible] def q56_1 : SCode := .region [⟨some 6, .load 97 (.tmp 1), none⟩,
    ⟨some 7, .call { callee := .value (.func 103), args := #[.tmp 6], argTypes := #[97] }, none⟩,
    ⟨some 8, .binOp .add 3 (.tmp 7) (.const (.int .i64 1)) 3, none⟩,
    ⟨some 9, .makeSlice 27 (.tmp 8) (.tmp 8), none⟩,
    ⟨some 3, .alloc 27, none⟩,
    ⟨none, .store 27 (.tmp 3) (.tmp 9), none⟩]
@[reducible] def q56_2 : SCode := .region [⟨some 10, .load 27 (.tmp 3), none⟩,
    ⟨some 11, .indexAddr 27 (.tmp 10) (.const (.int .i64 0)), none⟩,
    ⟨none, .store 3 (.tmp 11) (.const (.int .i64 1)), none⟩]
@[reducible] def q56_3 : SCode := .region [⟨some 4, .alloc 3, none⟩,
    ⟨none, .store 3 (.tmp 4) (.const (.int .i64 1)), none⟩]
def q56_4 : SCode := .draw [⟨some 12, .load 3 (.tmp 4), none⟩,
    ⟨some 13, .load 97 (.tmp 1), none⟩,
    ⟨some 14, .call { callee := .value (.func 103), args := #[.tmp 13], argTypes := #[97] }, none⟩,
    ⟨some 15, .binOp .leq 3 (.tmp 12) (.tmp 14) 3, none⟩]
   [[], [], [1], [0, 2]]
@[reducible] def q56_6 : SCode := .region [⟨some 18, .load 3 (.tmp 4), none⟩,
    ⟨some 19, .call { callee := .value (.func 100), args := #[.tmp 18], argTypes := #[3] }, none⟩]
@[reducible] def q56_7 : SCode := .region [⟨some 5, .assign (.tmp 20), none⟩]
def q56_8 : SCode := .draw [⟨some 21, .load 97 (.tmp 1), none⟩,
    ⟨some 22, .move (.tmp 5), none⟩,
    ⟨some 23, .call { callee := .value (.func 104), args := #[.tmp 21, .tmp 22], argTypes := #[97, 3] }, none⟩,
    ⟨some 24, .load 3 (.tmp 4), none⟩,
    ⟨some 25, .binOp .andNot 3 (.tmp 23) (.tmp 24) 3, none⟩,
    ⟨some 26, .binOp .eql 3 (.tmp 25) (.const (.int .i64 0)) 3, none⟩,
    ⟨some 27, .move (.tmp 26), none⟩,
    ⟨some 28, .move (.tmp 5), some (27, true)⟩,
    ⟨some 29, .fieldAddr 97 (.tmp 1) 1, some (27, true)⟩,
    ⟨some 30, .indexAddr 95 (.tmp 29) (.tmp 28), some (27, true)⟩,
    ⟨some 31, .load 3 (.tmp 30), some (27, true)⟩,
    ⟨some 32, .load 3 (.tmp 4), some (27, true)⟩,
    ⟨some 33, .binOp .and 3 (.tmp 31) (.tmp 32) 3, some (27, true)⟩,
    ⟨some 34, .binOp .eql 3 (.tmp 33) (.const (.int .i64 0)) 3, some (27, true)⟩,
    ⟨some 35, .pick (.tmp 27) (.tmp 34) (.const (.bool false)), none⟩]
   [[], [], [0, 1], [], [2, 3], [4], [5, 2], [6], [6], [8, 7, 6], [9, 6], [6], [10, 11, 6], [12, 6], [6, 13]]
def q56_9 : SCode := .draw [⟨some 36, .load 27 (.tmp 3), none⟩,
    ⟨some 37, .load 3 (.tmp 4), none⟩,
    ⟨some 38, .indexAddr 27 (.tmp 36) (.tmp 37), none⟩,
    ⟨some 39, .load 3 (.tmp 38), none⟩,
    ⟨some 40, .load 27 (.tmp 3), none⟩,
    ⟨some 41, .load 3 (.tmp 4), none⟩,
    ⟨some 42, .move (.tmp 5), none⟩,
    ⟨some 43, .binOp .shl 3 (.const (.int .i64 1)) (.tmp 42) 3, none⟩,
    ⟨some 44, .binOp .andNot 3 (.tmp 41) (.tmp 43) 3, none⟩,
    ⟨some 45, .indexAddr 27 (.tmp 40) (.tmp 44), none⟩,
    ⟨some 46, .load 3 (.tmp 45), none⟩,
    ⟨some 47, .binOp .add 3 (.tmp 39) (.tmp 46) 3, none⟩,
    ⟨some 48, .indexAddr 27 (.tmp 36) (.tmp 37), none⟩,
    ⟨none, .store 3 (.tmp 48) (.tmp 47), none⟩]
   [[], [], [0, 1], [2], [], [], [], [6], [5, 7], [4, 8], [9], [3, 10], [0, 1, 0, 1, 2, 3, 4, 5, 6, 7, 8, 9, 10, 11], [12, 11, 0, 1, 2, 3, 4, 5, 6, 7, 8, 9, 10, 11]]
def r56_0_a : SCode := q56_7
def r56_0_b : SCode := (.block 3 (.seq q56_8 (.cond (.tmp 35) q56_9 .skip)))
@[reducible] def q56_10 : SCode := .region [⟨some 49, .load 3 (.tmp 4), none⟩]
@[reducible] def q56_11 : SCode := .region [⟨some 4, .alloc 3, none⟩,
    ⟨none, .store 3 (.tmp 4) (.tmp 49), none⟩]
@[reducible] def q56_5 : SCode := .region [⟨some 16, .load 3 (.tmp 4), none⟩,
    ⟨some 17, .binOp .add 3 (.tmp 16) (.const (.int .i64 1)) 3, none⟩,
    ⟨none, .store 3 (.tmp 4) (.tmp 17), none⟩]
def l56_1 : SCode := (.seq (.seq q56_4 (.cond (.tmp 15) .skip (.exit 0))) (.seq (.block 1 (.seq q56_6 (.block 2 (.range (.tmp 19) [20] r56_0_a r56_0_b)))) (.seq (.seq q56_10 q56_11) q56_5)))
def q56_12 : SCode := .draw [⟨some 50, .load 27 (.tmp 3), none⟩,
    ⟨some 51, .load 97 (.tmp 1), none⟩,
    ⟨some 52, .call { callee := .value (.func 103), args := #[.tmp 51], argTypes := #[97] }, none⟩,
    ⟨some 53, .indexAddr 27 (.tmp 50) (.tmp 52), none⟩,
    ⟨some 54, .load 3 (.tmp 53), none⟩,
    ⟨some 2, .assign (.tmp 54), none⟩]
   [[], [], [1], [0, 2], [3], [4, 2, 0, 1, 2, 3, 4]]
def s56 : SCode := (.seq q56_0 (.seq q56_1 (.seq q56_2 (.seq (.seq q56_3 (.block 0 (.loop l56_1))) (.seq q56_12 .ret)))))
theorem s56_strip : Zk (Zn Tryd.f56) = s56 := by kernel_rfl
theorem s56_ok : Yb 55 (Zn Tryd.f56) = true := by kernel_rfl
theorem s56_call [Tabs Tryd.prog] {args : List Value} {h : Zd} {Q : Value → Zd → Prop} (hsz : args.length ≤ 55) (hk : aw Tryd.prog 55 s56 (Zr Tryd.prog [.tmp 2] Q) (Zm 0 args) h) : ACall Tryd.prog 56 args h Q :=
  Xo Tryd.func56 rfl (enters_of Tryd.func56 (by kernel_rfl) rfl) rfl rfl (by decide) s56_strip s56_ok hsz hk

/-! 79: slices.IsSorted[[]int,int] -/
@[reducible] def q79_0 : SCode := .region [⟨some 2, .assign (.const (.bool false)), none⟩]
@[reducible] def q79_1 : SCode := .region [⟨some 4, .move (.tmp 0), none⟩,
    ⟨some 5, .call { callee := .builtin .len, args := #[.tmp 4], argTypes := #[27] }, none⟩,
    ⟨some 6, .binOp .sub 3 (.tmp 5) (.const (.int .i64 1)) 3, none⟩,
    ⟨some 3, .assign (.tmp 6), none⟩]
@[reducible] def q79_2 : SCode := .region [⟨some 7, .move (.tmp 3), none⟩,
    ⟨some 8, .binOp .gtr 3 (.tmp 7) (.const (.int .i64 0)) 3, none⟩]
def q79_4 : SCode := .draw [⟨some 11, .move (.tmp 0), none⟩,
    ⟨some 12, .move (.tmp 3), none⟩,
    ⟨some 13, .indexAddr 27 (.tmp 11) (.tmp 12), none⟩,
    ⟨some 14, .load 3 (.tmp 13), none⟩,
    ⟨some 15, .move (.tmp 0), none⟩,
    ⟨some 16, .move (.tmp 3), none⟩,
    ⟨some 17, .binOp .sub 3 (.tmp 16) (.const (.int .i64 1)) 3, none⟩,
    ⟨some 18, .indexAddr 27 (.tmp 15) (.tmp 17), none⟩,
    ⟨some 19, .load 3 (.tmp 18), none⟩,
    ⟨some 20, .call { callee := .value (.func 126), args := #[.tmp 14, .tmp 19], argTypes := #[3, 3] }, none⟩]
   [[], [], [0, 1], [2], [], [], [5], [4, 6], [7], [3, 8]]
@[reducible] def q79_5 : SCode := .region [⟨some 2, .assign (.const (.bool false)), none⟩]
@[reducible] def q79_3 : SCode := .region [⟨some 9, .move (.tmp 3), none⟩,
    ⟨some 10, .binOp .sub 3 (.tmp 9) (.const (.int .i64 1)) 3, none⟩,
    ⟨some 3, .assign (.tmp 10), none⟩]
def l79_0 : SCode := (.seq (.seq q79_2 (.cond (.tmp 8) .skip (.exit 0))) (.seq (.block 1 (.seq q79_4 (.cond (.tmp 20) (.seq q79_5 .ret) .skip))) q79_3))
@[reducible] def q79_6 : SCode := .region [⟨some 2, .assign (.const (.bool true)), none⟩]
def s79 : SCode := (.seq q79_0 (.seq (.seq q79_1 (.block 0 (.loop l79_0))) (.seq q79_6 .ret)))
theorem s79_strip : Zk (Zn Tryd.f79) = s79 := by kernel_rfl
theorem s79_ok : Yb 21 (Zn Tryd.f79) = true := by kernel_rfl
/-! 80: slices.SortStableFunc[[]int,int] -/
@[reducible] def q80_0 : SCode := .region [⟨some 4, .move (.tmp 0), none⟩,
    ⟨some 5, .move (.tmp 0), none⟩,
    ⟨some 6, .call { callee := .builtin .len, args := #[.tmp 5], argTypes := #[27] }, none⟩,
    ⟨some 7, .move (.tmp 1), none⟩,
    ⟨some 8, .call { callee := .value (.func 127), args := #[.tmp 4, .tmp 6, .tmp 7], argTypes := #[27, 3, 114] }, none⟩]
def s80 : SCode := q80_0
theorem s80_strip : Zk (Zn Tryd.f80) = s80 := by kernel_rfl
theorem s80_ok : Yb 9 (Zn Tryd.f80) = true := by kernel_rfl
/-! 81: planchet ranks.Make$1 -/
@[reducible] def q81_0 : SCode := .region [⟨some 5, .assign (.const (.int .i64 0)), none⟩]
def q81_1 : SCode := .draw [⟨some 6, .load 27 (.tmp 2), none⟩,
    ⟨some 7, .move (.tmp 0), none⟩,
    ⟨some 8, .indexAddr 27 (.tmp 6) (.tmp 7), none⟩,
    ⟨some 9, .load 3 (.tmp 8), none⟩,
    ⟨some 10, .load 27 (.tmp 2), none⟩,
    ⟨some 11, .move (.tmp 1), none⟩,
    ⟨some 12, .indexAddr 27 (.tmp 10) (.tmp 11), none⟩,
    ⟨some 13, .load 3 (.tmp 12), none⟩,
    ⟨some 14, .binOp .sub 3 (.tmp 9) (.tmp 13) 3, none⟩,
    ⟨some 5, .assign (.tmp 14), none⟩]
   [[], [], [0, 1], [2], [], [], [4, 5], [6], [3, 7], [8, 0, 1, 2, 3, 4, 5, 6, 7, 8]]
def s81 : SCode := (.seq q81_0 (.seq q81_1 .ret))
theorem s81_strip : Zk (Zn Tryd.f81) = s81 := by kernel_rfl
theorem s81_ok : Yb 15 (Zn Tryd.f81) = true := by kernel_rfl
/-! 82: slices.EqualFunc[planchet ranks.tournament,[]int,int,int] -/
@[reducible] def q82_0 : SCode := .region [⟨some 6, .assign (.const (.bool false)), none⟩]
@[reducible] def q82_1 : SCode := .region [⟨some 10, .move (.tmp 0), none⟩,
    ⟨some 11, .call { callee := .builtin .len, args := #[.tmp 10], argTypes := #[131] }, none⟩,
    ⟨some 12, .move (.tmp 1), none⟩,
    ⟨some 13, .call { callee := .builtin .len, args := #[.tmp 12], argTypes := #[27] }, none⟩,
    ⟨some 14, .binOp .neq 3 (.tmp 11) (.tmp 13) 3, none⟩]
@[reducible] def q82_2 : SCode := .region [⟨some 6, .assign (.const (.bool false)), none⟩]
@[reducible] def q82_3 : SCode := .region [⟨some 15, .move (.tmp 0), none⟩,
    ⟨some 16, .call { callee := .builtin .len, args := #[.tmp 15], argTypes := #[131] }, none⟩,
    ⟨some 17, .move (.const (.int .i64 0)), none⟩]
@[reducible] def q82_4 : SCode := .region [⟨some 18, .binOp .lss 3 (.tmp 17) (.tmp 16) 3, none⟩]
@[reducible] def q82_5 : SCode := .region [⟨some 19, .move (.tmp 17), none⟩,
    ⟨some 20, .indexAddr 131 (.tmp 15) (.tmp 17), none⟩,
    ⟨some 21, .load 3 (.tmp 20), none⟩,
    ⟨some 7, .assign (.tmp 19), none⟩,
    ⟨some 8, .assign (.tmp 21), none⟩]
@[reducible] def q82_6 : SCode := .region [⟨some 22, .move (.tmp 1), none⟩,
    ⟨some 23, .move (.tmp 7), none⟩,
    ⟨some 24, .indexAddr 27 (.tmp 22) (.tmp 23), none⟩,
    ⟨some 25, .load 3 (.tmp 24), none⟩,
    ⟨some 9, .assign (.tmp 25), none⟩]
@[reducible] def q82_7 : SCode := .region [⟨some 26, .move (.tmp 2), none⟩,
    ⟨some 27, .move (.tmp 8), none⟩,
    ⟨some 28, .move (.tmp 9), none⟩,
    ⟨some 29, .call { callee := .value (.tmp 26), args := #[.tmp 27, .tmp 28], argTypes := #[3, 3] }, none⟩,
    ⟨some 30, .unOp .not 4 (.tmp 29), none⟩]
@[reducible] def q82_8 : SCode := .region [⟨some 6, .assign (.const (.bool false)), none⟩]
@[reducible] def q82_9 : SCode := .region [⟨some 31, .binOp .add 3 (.tmp 17) (.const (.int .i64 1)) 3, none⟩,
    ⟨some 17, .move (.tmp 31), none⟩]
def l82_0 : SCode := (.seq q82_4 (.seq (.cond (.tmp 18) .skip (.exit 0)) (.seq (.block 1 (.seq q82_5 (.seq q82_6 (.seq q82_7 (.cond (.tmp 30) (.seq q82_8 .ret) .skip))))) q82_9)))
@[reducible] def q82_10 : SCode := .region [⟨some 6, .assign (.const (.bool true)), none⟩]
def s82 : SCode := (.seq q82_0 (.seq (.seq q82_1 (.cond (.tmp 14) (.seq q82_2 .ret) .skip)) (.seq (.seq q82_3 (.block 0 (.loop l82_0))) (.seq q82_10 .ret))))
theorem s82_strip : Zk (Zn Tryd.f82) = s82 := by kernel_rfl
theorem s82_ok : Yb 32 (Zn Tryd.f82) = true := by kernel_rfl
/-! 83: planchet ranks.Make$2 -/
@[reducible] def q83_0 : SCode := .region [⟨some 4, .assign (.const (.bool false)), none⟩]
@[reducible] def q83_1 : SCode := .region [⟨some 5, .move (.tmp 0), none⟩,
    ⟨some 6, .call { callee := .value (.func 84), args := #[.tmp 5], argTypes := #[3] }, none⟩,
    ⟨some 7, .move (.tmp 1), none⟩,
    ⟨some 8, .binOp .eql 3 (.tmp 6) (.tmp 7) 3, none⟩,
    ⟨some 4, .assign (.tmp 8), none⟩]
def s83 : SCode := (.seq q83_0 (.seq q83_1 .ret))
theorem s83_strip : Zk (Zn Tryd.f83) = s83 := by kernel_rfl
theorem s83_ok : Yb 9 (Zn Tryd.f83) = true := by kernel_rfl
/-! 84: planchet ranks.count -/
@[reducible] def q84_0 : SCode := .region [⟨some 2, .assign (.const (.int .i64 0)), none⟩]
@[reducible] def q84_1 : SCode := .region [⟨some 3, .move (.tmp 0), none⟩,
    ⟨some 4, .convert 3 57 (.tmp 3), none⟩,
    ⟨some 5, .call { callee := .value (.func 128), args := #[.tmp 4], argTypes := #[57] }, none⟩,
    ⟨some 2, .assign (.tmp 5), none⟩]
def s84 : SCode := (.seq q84_0 (.seq q84_1 .ret))
theorem s84_strip : Zk (Zn Tryd.f84) = s84 := by kernel_rfl
theorem s84_ok : Yb 6 (Zn Tryd.f84) = true := by kernel_rfl
theorem s84_call [Tabs Tryd.prog] {args : List Value} {h : Zd} {Q : Value → Zd → Prop} (hsz : args.length ≤ 6) (hk : aw Tryd.prog 6 s84 (Zr Tryd.prog [.tmp 2] Q) (Zm 0 args) h) : ACall Tryd.prog 84 args h Q :=
  Xo Tryd.func84 rfl (enters_of Tryd.func84 (by kernel_rfl) rfl) rfl rfl (by decide) s84_strip s84_ok hsz hk

/-! 85: (planchet ranks.tournament).valid -/
@[reducible] def q85_0 : SCode := .region [⟨some 2, .assign (.const (.bool false)), none⟩]
@[reducible] def q85_1 : SCode := .region [⟨some 7, .move (.tmp 0), none⟩,
    ⟨some 8, .call { callee := .builtin .len, args := #[.tmp 7], argTypes := #[131] }, none⟩,
    ⟨some 3, .assign (.tmp 8), none⟩]
@[reducible] def q85_2 : SCode := .region [⟨some 9, .move (.tmp 3), none⟩,
    ⟨some 10, .binOp .lss 3 (.tmp 9) (.const (.int .i64 1)) 3, none⟩,
    ⟨some 11, .move (.tmp 10), none⟩,
    ⟨some 12, .move (.tmp 3), some (11, false)⟩,
    ⟨some 13, .binOp .gtr 3 (.tmp 12) (.const (.int .i64 8)) 3, some (11, false)⟩,
    ⟨some 14, .pick (.tmp 11) (.const (.bool true)) (.tmp 13), none⟩]
@[reducible] def q85_3 : SCode := .region [⟨some 2, .assign (.const (.bool false)), none⟩]
@[reducible] def q85_4 : SCode := .region [⟨some 15, .move (.tmp 0), none⟩,
    ⟨some 16, .call { callee := .builtin .len, args := #[.tmp 15], argTypes := #[131] }, none⟩,
    ⟨some 17, .move (.const (.int .i64 0)), none⟩]
@[reducible] def q85_5 : SCode := .region [⟨some 18, .binOp .lss 3 (.tmp 17) (.tmp 16) 3, none⟩]
@[reducible] def q85_6 : SCode := .region [⟨some 19, .move (.tmp 17), none⟩,
    ⟨some 20, .indexAddr 131 (.tmp 15) (.tmp 17), none⟩,
    ⟨some 21, .load 3 (.tmp 20), none⟩,
    ⟨some 4, .assign (.tmp 19), none⟩,
    ⟨some 5, .assign (.tmp 21), none⟩]
@[reducible] def q85_7 : SCode := .region [⟨some 22, .move (.tmp 5), none⟩,
    ⟨some 23, .binOp .lss 3 (.tmp 22) (.const (.int .i64 0)) 3, none⟩,
    ⟨some 24, .move (.tmp 23), none⟩,
    ⟨some 25, .move (.tmp 5), some (24, false)⟩,
    ⟨some 26, .move (.tmp 3), some (24, false)⟩,
    ⟨some 27, .binOp .shl 3 (.const (.int .i64 1)) (.tmp 26) 3, some (24, false)⟩,
    ⟨some 28, .binOp .geq 3 (.tmp 25) (.tmp 27) 3, some (24, false)⟩,
    ⟨some 29, .pick (.tmp 24) (.const (.bool true)) (.tmp 28), none⟩,
    ⟨some 30, .move (.tmp 29), none⟩,
    ⟨some 31, .move (.tmp 5), some (30, false)⟩,
    ⟨some 32, .move (.tmp 4), some (30, false)⟩,
    ⟨some 33, .binOp .shr 3 (.tmp 31) (.tmp 32) 3, some (30, false)⟩,
    ⟨some 34, .binOp .and 3 (.tmp 33) (.const (.int .i64 1)) 3, some (30, false)⟩,
    ⟨some 35, .binOp .eql 3 (.tmp 34) (.const (.int .i64 1)) 3, some (30, false)⟩,
    ⟨some 36, .pick (.tmp 30) (.const (.bool true)) (.tmp 35), none⟩]
@[reducible] def q85_8 : SCode := .region [⟨some 2, .assign (.const (.bool false)), none⟩]
@[reducible] def q85_9 : SCode := .region [⟨some 37, .move (.tmp 4), none⟩,
    ⟨some 38, .move (.const (.int .i64 0)), none⟩]
@[reducible] def q85_10 : SCode := .region [⟨some 39, .binOp .lss 3 (.tmp 38) (.tmp 37) 3, none⟩]
@[reducible] def q85_11 : SCode := .region [⟨some 40, .move (.tmp 38), none⟩,
    ⟨some 6, .assign (.tmp 40), none⟩]
def q85_12 : SCode := .draw [⟨some 41, .move (.tmp 5), none⟩,
    ⟨some 42, .move (.tmp 6), none⟩,
    ⟨some 43, .binOp .shr 3 (.tmp 41) (.tmp 42) 3, none⟩,
    ⟨some 44, .binOp .and 3 (.tmp 43) (.const (.int .i64 1)) 3, none⟩,
    ⟨some 45, .move (.tmp 0), none⟩,
    ⟨some 46, .move (.tmp 6), none⟩,
    ⟨some 47, .indexAddr 131 (.tmp 45) (.tmp 46), none⟩,
    ⟨some 48, .load 3 (.tmp 47), none⟩,
    ⟨some 49, .move (.tmp 4), none⟩,
    ⟨some 50, .binOp .shr 3 (.tmp 48) (.tmp 49) 3, none⟩,
    ⟨some 51, .binOp .and 3 (.tmp 50) (.const (.int .i64 1)) 3, none⟩,
    ⟨some 52, .binOp .eql 3 (.tmp 44) (.tmp 51) 3, none⟩]
   [[], [], [0, 1], [2], [], [], [4, 5], [6], [], [7, 8], [9], [3, 10]]
@[reducible] def q85_13 : SCode := .region [⟨some 2, .assign (.const (.bool false)), none⟩]
@[reducible] def q85_14 : SCode := .region [⟨some 53, .binOp .add 3 (.tmp 38) (.const (.int .i64 1)) 3, none⟩,
    ⟨some 38, .move (.tmp 53), none⟩]
def l85_0 : SCode := (.seq q85_10 (.seq (.cond (.tmp 39) .skip (.exit 2)) (.seq (.block 3 (.seq q85_11 (.seq q85_12 (.cond (.tmp 52) (.seq q85_13 .ret) .skip)))) q85_14)))
@[reducible] def q85_15 : SCode := .region [⟨some 54, .binOp .add 3 (.tmp 17) (.const (.int .i64 1)) 3, none⟩,
    ⟨some 17, .move (.tmp 54), none⟩]
def l85_1 : SCode := (.seq q85_5 (.seq (.cond (.tmp 18) .skip (.exit 0)) (.seq (.block 1 (.seq q85_6 (.seq (.seq q85_7 (.cond (.tmp 36) (.seq q85_8 .ret) .skip)) (.seq q85_9 (.block 2 (.loop l85_0)))))) q85_15)))
@[reducible] def q85_16 : SCode := .region [⟨some 2, .assign (.const (.bool true)), none⟩]
def s85 : SCode := (.seq q85_0 (.seq q85_1 (.seq (.seq q85_2 (.cond (.tmp 14) (.seq q85_3 .ret) .skip)) (.seq (.seq q85_4 (.block 0 (.loop l85_1))) (.seq q85_16 .ret)))))
theorem s85_strip : Zk (Zn Tryd.f85) = s85 := by kernel_rfl
theorem s85_ok : Yb 55 (Zn Tryd.f85) = true := by kernel_rfl
theorem s85_call [Tabs Tryd.prog] {args : List Value} {h : Zd} {Q : Value → Zd → Prop} (hsz : args.length ≤ 55) (hk : aw Tryd.prog 55 s85 (Zr Tryd.prog [.tmp 2] Q) (Zm 0 args) h) : ACall Tryd.prog 85 args h Q :=
  Xo Tryd.func85 rfl (enters_of Tryd.func85 (by kernel_rfl) rfl) rfl rfl (by decide) s85_strip s85_ok hsz hk

/-! 86: (planchet ranks.tournament).cycles -/
@[reducible] def q86_0 : SCode := .region [⟨some 1, .box 131 (.tmp 0), none⟩,
    ⟨some 2, .assign (.const (.slice none 0 0)), none⟩]
@[reducible] def q86_1 : SCode := .region [⟨some 3, .alloc 66, none⟩]
@[reducible] def q86_2 : SCode := .region [⟨some 7, .load 131 (.tmp 1), none⟩,
    ⟨some 8, .call { callee := .builtin .len, args := #[.tmp 7], argTypes := #[131] }, none⟩,
    ⟨some 9, .move (.const (.int .i64 0)), none⟩]
@[reducible] def q86_3 : SCode := .region [⟨some 10, .binOp .lss 3 (.tmp 9) (.tmp 8) 3, none⟩]
@[reducible] def q86_4 : SCode := .region [⟨some 11, .move (.tmp 9), none⟩,
    ⟨some 4, .alloc 3, none⟩,
    ⟨none, .store 3 (.tmp 4) (.tmp 11), none⟩]
@[reducible] def q86_5 : SCode := .region [⟨some 12, .load 131 (.tmp 1), none⟩,
    ⟨some 13, .load 3 (.tmp 4), none⟩,
    ⟨some 14, .indexAddr 131 (.tmp 12) (.tmp 13), none⟩,
    ⟨some 15, .load 3 (.tmp 14), none⟩,
    ⟨some 16, .call { callee := .value (.func 129), args := #[.tmp 15], argTypes := #[3] }, none⟩]
@[reducible] def q86_6 : SCode := .region [⟨some 5, .alloc 3, none⟩,
    ⟨none, .store 3 (.tmp 5) (.tmp 17), none⟩]
@[reducible] def q86_7 : SCode := .region [⟨some 18, .load 131 (.tmp 1), none⟩,
    ⟨some 19, .load 3 (.tmp 5), none⟩,
    ⟨some 20, .indexAddr 131 (.tmp 18) (.tmp 19), none⟩,
    ⟨some 21, .load 3 (.tmp 20), none⟩,
    ⟨some 22, .call { callee := .value (.func 129), args := #[.tmp 21], argTypes := #[3] }, none⟩]
@[reducible] def q86_8 : SCode := .region [⟨some 6, .assign (.tmp 23), none⟩]
@[reducible] def q86_9 : SCode := .region [⟨some 24, .load 3 (.tmp 4), none⟩,
    ⟨some 25, .load 3 (.tmp 5), none⟩,
    ⟨some 26, .binOp .lss 3 (.tmp 24) (.tmp 25) 3, none⟩,
    ⟨some 27, .move (.tmp 26), none⟩,
    ⟨some 28, .load 3 (.tmp 4), some (27, true)⟩,
    ⟨some 29, .move (.tmp 6), some (27, true)⟩,
    ⟨some 30, .binOp .lss 3 (.tmp 28) (.tmp 29) 3, some (27, true)⟩,
    ⟨some 31, .pick (.tmp 27) (.tmp 30) (.const (.bool false)), none⟩,
    ⟨some 32, .move (.tmp 31), none⟩,
    ⟨some 33, .load 131 (.tmp 1), some (32, true)⟩,
    ⟨some 34, .move (.tmp 6), some (32, true)⟩,
    ⟨some 35, .load 3 (.tmp 4), some (32, true)⟩,
    ⟨some 36, .call { callee := .value (.func 130), args := #[.tmp 33, .tmp 34, .tmp 35], argTypes := #[131, 3, 3] }, some (32, true)⟩,
    ⟨some 37, .pick (.tmp 32) (.tmp 36) (.const (.bool false)), none⟩]
@[reducible] def q86_10 : SCode := .region [⟨some 38, .load 66 (.tmp 3), none⟩,
    ⟨some 39, .load 3 (.tmp 4), none⟩,
    ⟨some 40, .load 3 (.tmp 5), none⟩,
    ⟨some 41, .move (.tmp 6), none⟩,
    ⟨some 42, .build 163 #[(0, .tmp 39), (1, .tmp 40), (2, .tmp 41)], none⟩,
    ⟨some 43, .buildSlice 66 1 #[(0, .tmp 42)], none⟩,
    ⟨some 44, .call { callee := .builtin .append, args := #[.tmp 38, .tmp 43], argTypes := #[66, 66] }, none⟩,
    ⟨none, .store 66 (.tmp 3) (.tmp 44), none⟩]
def r86_0_a : SCode := q86_8
def r86_0_b : SCode := (.block 5 (.seq q86_9 (.cond (.tmp 37) q86_10 .skip)))
def r86_1_a : SCode := q86_6
def r86_1_b : SCode := (.block 3 (.seq q86_7 (.block 4 (.range (.tmp 22) [23] r86_0_a r86_0_b))))
@[reducible] def q86_11 : SCode := .region [⟨some 45, .binOp .add 3 (.tmp 9) (.const (.int .i64 1)) 3, none⟩,
    ⟨some 9, .move (.tmp 45), none⟩]
def l86_2 : SCode := (.seq q86_3 (.seq (.cond (.tmp 10) .skip (.exit 0)) (.seq (.block 1 (.seq q86_4 (.seq q86_5 (.block 2 (.range (.tmp 16) [17] r86_1_a r86_1_b))))) q86_11)))
@[reducible] def q86_12 : SCode := .region [⟨some 46, .load 66 (.tmp 3), none⟩,
    ⟨some 2, .assign (.tmp 46), none⟩]
def s86 : SCode := (.seq q86_0 (.seq q86_1 (.seq (.seq q86_2 (.block 0 (.loop l86_2))) (.seq q86_12 .ret))))
theorem s86_strip : Zk (Zn Tryd.f86) = s86 := by kernel_rfl
theorem s86_ok : Yb 47 (Zn Tryd.f86) = true := by kernel_rfl
theorem s86_call [Tabs Tryd.prog] {args : List Value} {h : Zd} {Q : Value → Zd → Prop} (hsz : args.length ≤ 47) (hk : aw Tryd.prog 47 s86 (Zr Tryd.prog [.tmp 2] Q) (Zm 0 args) h) : ACall Tryd.prog 86 args h Q :=
  Xo Tryd.func86 rfl (enters_of Tryd.func86 (by kernel_rfl) rfl) rfl rfl (by decide) s86_strip s86_ok hsz hk

/-! 87: (planchet ranks.tournament).reach -/
@[reducible] def q87_0 : SCode := .region [⟨some 2, .box 131 (.tmp 0), none⟩,
    ⟨some 4, .assign (.const (.int .i64 0)), none⟩]
@[reducible] def q87_1 : SCode := .region [⟨some 7, .move (.tmp 1), none⟩,
    ⟨some 8, .binOp .shl 3 (.const (.int .i64 1)) (.tmp 7) 3, none⟩,
    ⟨some 5, .alloc 3, none⟩,
    ⟨none, .store 3 (.tmp 5) (.tmp 8), none⟩]
@[reducible] def q87_2 : SCode := .region [⟨some 9, .load 131 (.tmp 2), none⟩,
    ⟨some 10, .call { callee := .builtin .len, args := #[.tmp 9], argTypes := #[131] }, none⟩,
    ⟨some 11, .move (.const (.int .i64 0)), none⟩]
@[reducible] def q87_3 : SCode := .region [⟨some 12, .binOp .lss 3 (.tmp 11) (.tmp 10) 3, none⟩]
@[reducible] def q87_4 : SCode := .region [⟨some 13, .load 3 (.tmp 5), none⟩,
    ⟨some 14, .call { callee := .value (.func 129), args := #[.tmp 13], argTypes := #[3] }, none⟩]
@[reducible] def q87_5 : SCode := .region [⟨some 6, .assign (.tmp 15), none⟩]
def q87_6 : SCode := .draw [⟨some 16, .load 3 (.tmp 5), none⟩,
    ⟨some 17, .load 131 (.tmp 2), none⟩,
    ⟨some 18, .move (.tmp 6), none⟩,
    ⟨some 19, .indexAddr 131 (.tmp 17) (.tmp 18), none⟩,
    ⟨some 20, .load 3 (.tmp 19), none⟩,
    ⟨some 21, .binOp .or 3 (.tmp 16) (.tmp 20) 3, none⟩,
    ⟨none, .store 3 (.tmp 5) (.tmp 21), none⟩]
   [[], [], [], [1, 2], [3], [0, 4], [5, 0, 1, 2, 3, 4, 5]]
def r87_0_a : SCode := q87_5
def r87_0_b : SCode := (.block 3 q87_6)
@[reducible] def q87_7 : SCode := .region [⟨some 22, .binOp .add 3 (.tmp 11) (.const (.int .i64 1)) 3, none⟩,
    ⟨some 11, .move (.tmp 22), none⟩]
def l87_1 : SCode := (.seq q87_3 (.seq (.cond (.tmp 12) .skip (.exit 0)) (.seq (.block 1 (.seq q87_4 (.block 2 (.range (.tmp 14) [15] r87_0_a r87_0_b)))) q87_7)))
@[reducible] def q87_8 : SCode := .region [⟨some 23, .load 3 (.tmp 5), none⟩,
    ⟨some 4, .assign (.tmp 23), none⟩]
def s87 : SCode := (.seq q87_0 (.seq q87_1 (.seq (.seq q87_2 (.block 0 (.loop l87_1))) (.seq q87_8 .ret))))
theorem s87_strip : Zk (Zn Tryd.f87) = s87 := by kernel_rfl
theorem s87_ok : Yb 24 (Zn Tryd.f87) = true := by kernel_rfl
/-! 88: slices.SortFunc[[]int,int] -/
@[reducible] def q88_0 : SCode := .region [⟨some 5, .move (.tmp 0), none⟩,
    ⟨some 6, .call { callee := .builtin .len, args := #[.tmp 5], argTypes := #[27] }, none⟩,
    ⟨some 4, .assign (.tmp 6), none⟩]
@[reducible] def q88_1 : SCode := .region [⟨some 7, .move (.tmp 0), none⟩,
    ⟨some 8, .move (.tmp 4), none⟩,
    ⟨some 9, .move (.tmp 4), none⟩,
    ⟨some 10, .convert 3 57 (.tmp 9), none⟩,
    ⟨some 11, .call { callee := .value (.func 101), args := #[.tmp 10], argTypes := #[57] }, none⟩,
    ⟨some 12, .move (.tmp 1), none⟩,
    ⟨some 13, .call { callee := .value (.func 131), args := #[.tmp 7, .const (.int .i64 0), .tmp 8, .tmp 11, .tmp 12], argTypes := #[27, 3, 3, 3, 114] }, none⟩]
def s88 : SCode := (.seq q88_0 q88_1)
theorem s88_strip : Zk (Zn Tryd.f88) = s88 := by kernel_rfl
theorem s88_ok : Yb 14 (Zn Tryd.f88) = true := by kernel_rfl
/-! 89: planchet ranks.Parts$1 -/
@[reducible] def q89_0 : SCode := .region [⟨some 4, .assign (.const (.int .i64 0)), none⟩]
@[reducible] def q89_1 : SCode := .region [⟨some 5, .move (.tmp 1), none⟩,
    ⟨some 6, .call { callee := .value (.func 84), args := #[.tmp 5], argTypes := #[3] }, none⟩,
    ⟨some 7, .move (.tmp 0), none⟩,
    ⟨some 8, .call { callee := .value (.func 84), args := #[.tmp 7], argTypes := #[3] }, none⟩,
    ⟨some 9, .binOp .sub 3 (.tmp 6) (.tmp 8) 3, none⟩,
    ⟨some 4, .assign (.tmp 9), none⟩]
def s89 : SCode := (.seq q89_0 (.seq q89_1 .ret))
theorem s89_strip : Zk (Zn Tryd.f89) = s89 := by kernel_rfl
theorem s89_ok : Yb 10 (Zn Tryd.f89) = true := by kernel_rfl
end Go.Proofs.Tryd.Am

namespace Go.Proofs.Tryd.Am
open Go.Am
set_option maxRecDepth 100000
/-! 99: math bits.OnesCount64 -/
@[reducible] def q99_0 : SCode := .region [⟨some 2, .assign (.const (.int .i64 0)), none⟩]
@[reducible] def q99_1 : SCode := .region [⟨some 3, .move (.tmp 0), none⟩,
    ⟨some 4, .binOp .shr 88 (.tmp 3) (.const (.int .u64 1)) 57, none⟩,
    ⟨some 5, .binOp .and 88 (.tmp 4) (.const (.int .u64 6148914691236517205)) 88, none⟩,
    ⟨some 6, .move (.tmp 0), none⟩,
    ⟨some 7, .binOp .and 88 (.tmp 6) (.const (.int .u64 6148914691236517205)) 88, none⟩,
    ⟨some 8, .binOp .add 88 (.tmp 5) (.tmp 7) 88, none⟩,
    ⟨some 0, .assign (.tmp 8), none⟩]
@[reducible] def q99_2 : SCode := .region [⟨some 9, .move (.tmp 0), none⟩,
    ⟨some 10, .binOp .shr 88 (.tmp 9) (.const (.int .u64 2)) 57, none⟩,
    ⟨some 11, .binOp .and 88 (.tmp 10) (.const (.int .u64 3689348814741910323)) 88, none⟩,
    ⟨some 12, .move (.tmp 0), none⟩,
    ⟨some 13, .binOp .and 88 (.tmp 12) (.const (.int .u64 3689348814741910323)) 88, none⟩,
    ⟨some 14, .binOp .add 88 (.tmp 11) (.tmp 13) 88, none⟩,
    ⟨some 0, .assign (.tmp 14), none⟩]
@[reducible] def q99_3 : SCode := .region [⟨some 15, .move (.tmp 0), none⟩,
    ⟨some 16, .binOp .shr 88 (.tmp 15) (.const (.int .u64 4)) 57, none⟩,
    ⟨some 17, .move (.tmp 0), none⟩,
    ⟨some 18, .binOp .add 88 (.tmp 16) (.tmp 17) 88, none⟩,
    ⟨some 19, .binOp .and 88 (.tmp 18) (.const (.int .u64 1085102592571150095)) 88, none⟩,
    ⟨some 0, .assign (.tmp 19), none⟩]
@[reducible] def q99_4 : SCode := .region [⟨some 20, .move (.tmp 0), none⟩,
    ⟨some 21, .move (.tmp 0), none⟩,
    ⟨some 22, .binOp .shr 88 (.tmp 21) (.const (.int .u64 8)) 57, none⟩,
    ⟨some 23, .binOp .add 88 (.tmp 20) (.tmp 22) 88, none⟩,
    ⟨some 0, .assign (.tmp 23), none⟩]
@[reducible] def q99_5 : SCode := .region [⟨some 24, .move (.tmp 0), none⟩,
    ⟨some 25, .move (.tmp 0), none⟩,
    ⟨some 26, .binOp .shr 88 (.tmp 25) (.const (.int .u64 16)) 57, none⟩,
    ⟨some 27, .binOp .add 88 (.tmp 24) (.tmp 26) 88, none⟩,
    ⟨some 0, .assign (.tmp 27), none⟩]
@[reducible] def q99_6 : SCode := .region [⟨some 28, .move (.tmp 0), none⟩,
    ⟨some 29, .move (.tmp 0), none⟩,
    ⟨some 30, .binOp .shr 88 (.tmp 29) (.const (.int .u64 32)) 57, none⟩,
    ⟨some 31, .binOp .add 88 (.tmp 28) (.tmp 30) 88, none⟩,
    ⟨some 0, .assign (.tmp 31), none⟩]
@[reducible] def q99_7 : SCode := .region [⟨some 32, .move (.tmp 0), none⟩,
    ⟨some 33, .convert 88 3 (.tmp 32), none⟩,
    ⟨some 34, .binOp .and 3 (.tmp 33) (.const (.int .i64 127)) 3, none⟩,
    ⟨some 2, .assign (.tmp 34), none⟩]
def s99 : SCode := (.seq q99_0 (.seq q99_1 (.seq q99_2 (.seq q99_3 (.seq q99_4 (.seq q99_5 (.seq q99_6 (.seq q99_7 .ret))))))))
theorem s99_strip : Zk (Zn Tryd.f99) = s99 := by kernel_rfl
theorem s99_ok : Yb 35 (Zn Tryd.f99) = true := by kernel_rfl
theorem s99_call [Tabs Tryd.prog] {args : List Value} {h : Zd} {Q : Value → Zd → Prop} (hsz : args.length ≤ 35) (hk : aw Tryd.prog 35 s99 (Zr Tryd.prog [.tmp 2] Q) (Zm 0 args) h) : ACall Tryd.prog 99 args h Q :=
  Xo Tryd.func99 rfl (enters_of Tryd.func99 (by kernel_rfl) rfl) rfl rfl (by decide) s99_strip s99_ok hsz hk

/-! 100: planchet order.elements -/
@[reducible] def q100_0 : SCode := .region [⟨some 1, .box 3 (.tmp 0), none⟩,
    ⟨some 2, .assign (.const .nilFunc), none⟩]
@[reducible] def q100_1 : SCode := .region [⟨some 3, .makeFunc (.func 136) #[] #[.tmp 1], none⟩,
    ⟨some 2, .assign (.tmp 3), none⟩]
def s100 : SCode := (.seq q100_0 (.seq q100_1 .ret))
theorem s100_strip : Zk (Zn Tryd.f100) = s100 := by kernel_rfl
theorem s100_ok : Yb 4 (Zn Tryd.f100) = true := by kernel_rfl
theorem s100_call [Tabs Tryd.prog] {args : List Value} {h : Zd} {Q : Value → Zd → Prop} (hsz : args.length ≤ 4) (hk : aw Tryd.prog 4 s100 (Zr Tryd.prog [.tmp 2] Q) (Zm 0 args) h) : ACall Tryd.prog 100 args h Q :=
  Xo Tryd.func100 rfl (enters_of Tryd.func100 (by kernel_rfl) rfl) rfl rfl (by decide) s100_strip s100_ok hsz hk

/-! 101: math bits.Len -/
@[reducible] def q101_0 : SCode := .region [⟨some 2, .assign (.const (.int .i64 0)), none⟩]
@[reducible] def q101_1 : SCode := .region [⟨some 3, .move (.tmp 0), none⟩,
    ⟨some 4, .convert 57 170 (.tmp 3), none⟩,
    ⟨some 5, .call { callee := .value (.func 138), args := #[.tmp 4], argTypes := #[170] }, none⟩,
    ⟨some 2, .assign (.tmp 5), none⟩]
@[reducible] def q101_2 : SCode := .region [⟨some 6, .move (.tmp 0), none⟩,
    ⟨some 7, .call { callee := .value (.func 139), args := #[.tmp 6], argTypes := #[88] }, none⟩,
    ⟨some 2, .assign (.tmp 7), none⟩]
def s101 : SCode := (.seq q101_0 (.seq (.cond (.const (.bool false)) (.seq q101_1 .ret) .skip) (.seq q101_2 .ret)))
theorem s101_strip : Zk (Zn Tryd.f101) = s101 := by kernel_rfl
theorem s101_ok : Yb 8 (Zn Tryd.f101) = true := by kernel_rfl
/-! 103: (planchet order.order).all -/
@[reducible] def q103_0 : SCode := .region [⟨some 1, .box 97 (.tmp 0), none⟩,
    ⟨some 2, .assign (.const (.int .i64 0)), none⟩]
@[reducible] def q103_1 : SCode := .region [⟨some 3, .fieldAddr 97 (.tmp 1) 0, none⟩,
    ⟨some 4, .load 3 (.tmp 3), none⟩,
    ⟨some 5, .binOp .shl 3 (.const (.int .i64 1)) (.tmp 4) 3, none⟩,
    ⟨some 6, .binOp .sub 3 (.tmp 5) (.const (.int .i64 1)) 3, none⟩,
    ⟨some 2, .assign (.tmp 6), none⟩]
def s103 : SCode := (.seq q103_0 (.seq q103_1 .ret))
theorem s103_strip : Zk (Zn Tryd.f103) = s103 := by kernel_rfl
theorem s103_ok : Yb 7 (Zn Tryd.f103) = true := by kernel_rfl
theorem s103_call [Tabs Tryd.prog] {args : List Value} {h : Zd} {Q : Value → Zd → Prop} (hsz : args.length ≤ 7) (hk : aw Tryd.prog 7 s103 (Zr Tryd.prog [.tmp 2] Q) (Zm 0 args) h) : ACall Tryd.prog 103 args h Q :=
  Xo Tryd.func103 rfl (enters_of Tryd.func103 (by kernel_rfl) rfl) rfl rfl (by decide) s103_strip s103_ok hsz hk

/-! 104: (planchet order.order).below -/
@[reducible] def q104_0 : SCode := .region [⟨some 2, .box 97 (.tmp 0), none⟩,
    ⟨some 4, .assign (.const (.int .i64 0)), none⟩]
@[reducible] def q104_1 : SCode := .region [⟨some 5, .assign (.const (.int .i64 0)), none⟩]
@[reducible] def q104_2 : SCode := .region [⟨some 7, .fieldAddr 97 (.tmp 2) 0, none⟩,
    ⟨some 8, .load 3 (.tmp 7), none⟩,
    ⟨some 9, .move (.const (.int .i64 0)), none⟩]
@[reducible] def q104_3 : SCode := .region [⟨some 10, .binOp .lss 3 (.tmp 9) (.tmp 8) 3, none⟩]
@[reducible] def q104_4 : SCode := .region [⟨some 11, .move (.tmp 9), none⟩,
    ⟨some 6, .assign (.tmp 11), none⟩]
@[reducible] def q104_5 : SCode := .region [⟨some 12, .move (.tmp 5), none⟩,
    ⟨some 13, .move (.tmp 6), none⟩,
    ⟨some 14, .fieldAddr 97 (.tmp 2) 1, none⟩,
    ⟨some 15, .indexAddr 95 (.tmp 14) (.tmp 13), none⟩,
    ⟨some 16, .load 3 (.tmp 15), none⟩,
    ⟨some 17, .move (.tmp 1), none⟩,
    ⟨some 18, .binOp .shr 3 (.tmp 16) (.tmp 17) 3, none⟩,
    ⟨some 19, .binOp .and 3 (.tmp 18) (.const (.int .i64 1)) 3, none⟩,
    ⟨some 20, .move (.tmp 6), none⟩,
    ⟨some 21, .binOp .shl 3 (.tmp 19) (.tmp 20) 3, none⟩,
    ⟨some 22, .binOp .or 3 (.tmp 12) (.tmp 21) 3, none⟩,
    ⟨some 5, .assign (.tmp 22), none⟩]
@[reducible] def q104_6 : SCode := .region [⟨some 23, .binOp .add 3 (.tmp 9) (.const (.int .i64 1)) 3, none⟩,
    ⟨some 9, .move (.tmp 23), none⟩]
def l104_0 : SCode := (.seq q104_3 (.seq (.cond (.tmp 10) .skip (.exit 0)) (.seq (.block 1 (.seq q104_4 q104_5)) q104_6)))
@[reducible] def q104_7 : SCode := .region [⟨some 24, .move (.tmp 5), none⟩,
    ⟨some 4, .assign (.tmp 24), none⟩]
def s104 : SCode := (.seq q104_0 (.seq q104_1 (.seq (.seq q104_2 (.block 0 (.loop l104_0))) (.seq q104_7 .ret))))
theorem s104_strip : Zk (Zn Tryd.f104) = s104 := by kernel_rfl
theorem s104_ok : Yb 25 (Zn Tryd.f104) = true := by kernel_rfl
theorem s104_call [Tabs Tryd.prog] {args : List Value} {h : Zd} {Q : Value → Zd → Prop} (hsz : args.length ≤ 25) (hk : aw Tryd.prog 25 s104 (Zr Tryd.prog [.tmp 4] Q) (Zm 0 args) h) : ACall Tryd.prog 104 args h Q :=
  Xo Tryd.func104 rfl (enters_of Tryd.func104 (by kernel_rfl) rfl) rfl rfl (by decide) s104_strip s104_ok hsz hk

/-! 126: cmp.Less[int] -/
@[reducible] def q126_0 : SCode := .region [⟨some 4, .assign (.const (.bool false)), none⟩]
@[reducible] def q126_1 : SCode := .region [⟨some 5, .move (.tmp 0), none⟩,
    ⟨some 6, .call { callee := .value (.func 148), args := #[.tmp 5], argTypes := #[3] }, none⟩,
    ⟨some 7, .move (.tmp 6), none⟩,
    ⟨some 8, .move (.tmp 1), some (7, true)⟩,
    ⟨some 9, .call { callee := .value (.func 148), args := #[.tmp 8], argTypes := #[3] }, some (7, true)⟩,
    ⟨some 10, .unOp .not 4 (.tmp 9), some (7, true)⟩,
    ⟨some 11, .pick (.tmp 7) (.tmp 10) (.const (.bool false)), none⟩,
    ⟨some 12, .move (.tmp 11), none⟩,
    ⟨some 13, .move (.tmp 0), some (12, false)⟩,
    ⟨some 14, .move (.tmp 1), some (12, false)⟩,
    ⟨some 15, .binOp .lss 3 (.tmp 13) (.tmp 14) 3, some (12, false)⟩,
    ⟨some 16, .pick (.tmp 12) (.const (.bool true)) (.tmp 15), none⟩,
    ⟨some 4, .assign (.tmp 16), none⟩]
def s126 : SCode := (.seq q126_0 (.seq q126_1 .ret))
theorem s126_strip : Zk (Zn Tryd.f126) = s126 := by kernel_rfl
theorem s126_ok : Yb 17 (Zn Tryd.f126) = true := by kernel_rfl
/-! 127: slices.stableCmpFunc[int] -/
@[reducible] def q127_0 : SCode := .region [⟨some 6, .assign (.const (.int .i64 20)), none⟩]
@[reducible] def q127_1 : SCode := .region [⟨some 10, .move (.tmp 6), none⟩,
    ⟨some 7, .assign (.const (.int .i64 0)), none⟩,
    ⟨some 8, .assign (.tmp 10), none⟩]
@[reducible] def q127_2 : SCode := .region [⟨some 11, .move (.tmp 8), none⟩,
    ⟨some 12, .move (.tmp 1), none⟩,
    ⟨some 13, .binOp .leq 3 (.tmp 11) (.tmp 12) 3, none⟩]
@[reducible] def q127_3 : SCode := .region [⟨some 14, .move (.tmp 0), none⟩,
    ⟨some 15, .move (.tmp 7), none⟩,
    ⟨some 16, .move (.tmp 8), none⟩,
    ⟨some 17, .move (.tmp 2), none⟩,
    ⟨some 18, .call { callee := .value (.func 149), args := #[.tmp 14, .tmp 15, .tmp 16, .tmp 17], argTypes := #[27, 3, 3, 114] }, none⟩]
@[reducible] def q127_4 : SCode := .region [⟨some 19, .move (.tmp 8), none⟩,
    ⟨some 7, .assign (.tmp 19), none⟩]
@[reducible] def q127_5 : SCode := .region [⟨some 20, .move (.tmp 8), none⟩,
    ⟨some 21, .move (.tmp 6), none⟩,
    ⟨some 22, .binOp .add 3 (.tmp 20) (.tmp 21) 3, none⟩,
    ⟨some 8, .assign (.tmp 22), none⟩]
def l127_0 : SCode := (.seq (.seq q127_2 (.cond (.tmp 13) .skip (.exit 0))) (.block 1 (.seq q127_3 (.seq q127_4 q127_5))))
@[reducible] def q127_6 : SCode := .region [⟨some 23, .move (.tmp 0), none⟩,
    ⟨some 24, .move (.tmp 7), none⟩,
    ⟨some 25, .move (.tmp 1), none⟩,
    ⟨some 26, .move (.tmp 2), none⟩,
    ⟨some 27, .call { callee := .value (.func 149), args := #[.tmp 23, .tmp 24, .tmp 25, .tmp 26], argTypes := #[27, 3, 3, 114] }, none⟩]
@[reducible] def q127_7 : SCode := .region [⟨some 28, .move (.tmp 6), none⟩,
    ⟨some 29, .move (.tmp 1), none⟩,
    ⟨some 30, .binOp .lss 3 (.tmp 28) (.tmp 29) 3, none⟩]
@[reducible] def q127_8 : SCode := .region [⟨some 31, .move (.tmp 6), none⟩,
    ⟨some 32, .binOp .mul 3 (.const (.int .i64 2)) (.tmp 31) 3, none⟩,
    ⟨some 7, .assign (.const (.int .i64 0)), none⟩,
    ⟨some 8, .assign (.tmp 32), none⟩]
@[reducible] def q127_9 : SCode := .region [⟨some 33, .move (.tmp 8), none⟩,
    ⟨some 34, .move (.tmp 1), none⟩,
    ⟨some 35, .binOp .leq 3 (.tmp 33) (.tmp 34) 3, none⟩]
@[reducible] def q127_10 : SCode := .region [⟨some 36, .move (.tmp 0), none⟩,
    ⟨some 37, .move (.tmp 7), none⟩,
    ⟨some 38, .move (.tmp 7), none⟩,
    ⟨some 39, .move (.tmp 6), none⟩,
    ⟨some 40, .binOp .add 3 (.tmp 38) (.tmp 39) 3, none⟩,
    ⟨some 41, .move (.tmp 8), none⟩,
    ⟨some 42, .move (.tmp 2), none⟩,
    ⟨some 43, .call { callee := .value (.func 150), args := #[.tmp 36, .tmp 37, .tmp 40, .tmp 41, .tmp 42], argTypes := #[27, 3, 3, 3, 114] }, none⟩]
@[reducible] def q127_11 : SCode := .region [⟨some 44, .move (.tmp 8), none⟩,
    ⟨some 7, .assign (.tmp 44), none⟩]
@[reducible] def q127_12 : SCode := .region [⟨some 45, .move (.tmp 8), none⟩,
    ⟨some 46, .move (.tmp 6), none⟩,
    ⟨some 47, .binOp .mul 3 (.const (.int .i64 2)) (.tmp 46) 3, none⟩,
    ⟨some 48, .binOp .add 3 (.tmp 45) (.tmp 47) 3, none⟩,
    ⟨some 8, .assign (.tmp 48), none⟩]
def l127_1 : SCode := (.seq (.seq q127_9 (.cond (.tmp 35) .skip (.exit 4))) (.block 5 (.seq q127_10 (.seq q127_11 q127_12))))
@[reducible] def q127_13 : SCode := .region [⟨some 49, .move (.tmp 7), none⟩,
    ⟨some 50, .move (.tmp 6), none⟩,
    ⟨some 51, .binOp .add 3 (.tmp 49) (.tmp 50) 3, none⟩,
    ⟨some 9, .assign (.tmp 51), none⟩]
@[reducible] def q127_14 : SCode := .region [⟨some 52, .move (.tmp 9), none⟩,
    ⟨some 53, .move (.tmp 1), none⟩,
    ⟨some 54, .binOp .lss 3 (.tmp 52) (.tmp 53) 3, none⟩]
@[reducible] def q127_15 : SCode := .region [⟨some 55, .move (.tmp 0), none⟩,
    ⟨some 56, .move (.tmp 7), none⟩,
    ⟨some 57, .move (.tmp 9), none⟩,
    ⟨some 58, .move (.tmp 1), none⟩,
    ⟨some 59, .move (.tmp 2), none⟩,
    ⟨some 60, .call { callee := .value (.func 150), args := #[.tmp 55, .tmp 56, .tmp 57, .tmp 58, .tmp 59], argTypes := #[27, 3, 3, 3, 114] }, none⟩]
@[reducible] def q127_16 : SCode := .region [⟨some 61, .move (.tmp 6), none⟩,
    ⟨some 62, .binOp .mul 3 (.tmp 61) (.const (.int .i64 2)) 3, none⟩,
    ⟨some 6, .assign (.tmp 62), none⟩]
def l127_2 : SCode := (.seq (.seq q127_7 (.cond (.tmp 30) .skip (.exit 2))) (.block 3 (.seq q127_8 (.seq (.block 4 (.loop l127_1)) (.seq (.seq q127_13 (.seq q127_14 (.cond (.tmp 54) q127_15 .skip))) q127_16)))))
def s127 : SCode := (.seq q127_0 (.seq q127_1 (.seq (.block 0 (.loop l127_0)) (.seq q127_6 (.block 2 (.loop l127_2))))))
theorem s127_strip : Zk (Zn Tryd.f127) = s127 := by kernel_rfl
theorem s127_ok : Yb 63 (Zn Tryd.f127) = true := by kernel_rfl
/-! 128: math bits.OnesCount -/
@[reducible] def q128_0 : SCode := .region [⟨some 2, .assign (.const (.int .i64 0)), none⟩]
@[reducible] def q128_1 : SCode := .region [⟨some 3, .move (.tmp 0), none⟩,
    ⟨some 4, .convert 57 170 (.tmp 3), none⟩,
    ⟨some 5, .call { callee := .value (.func 151), args := #[.tmp 4], argTypes := #[170] }, none⟩,
    ⟨some 2, .assign (.tmp 5), none⟩]
@[reducible] def q128_2 : SCode := .region [⟨some 6, .move (.tmp 0), none⟩,
    ⟨some 7, .call { callee := .value (.func 99), args := #[.tmp 6], argTypes := #[88] }, none⟩,
    ⟨some 2, .assign (.tmp 7), none⟩]
def s128 : SCode := (.seq q128_0 (.seq (.cond (.const (.bool false)) (.seq q128_1 .ret) .skip) (.seq q128_2 .ret)))
theorem s128_strip : Zk (Zn Tryd.f128) = s128 := by kernel_rfl
theorem s128_ok : Yb 8 (Zn Tryd.f128) = true := by kernel_rfl
theorem s128_call [Tabs Tryd.prog] {args : List Value} {h : Zd} {Q : Value → Zd → Prop} (hsz : args.length ≤ 8) (hk : aw Tryd.prog 8 s128 (Zr Tryd.prog [.tmp 2] Q) (Zm 0 args) h) : ACall Tryd.prog 128 args h Q :=
  Xo Tryd.func128 rfl (enters_of Tryd.func128 (by kernel_rfl) rfl) rfl rfl (by decide) s128_strip s128_ok hsz hk

/-! 129: planchet ranks.players -/
@[reducible] def q129_0 : SCode := .region [⟨some 1, .box 3 (.tmp 0), none⟩,
    ⟨some 2, .assign (.const .nilFunc), none⟩]
@[reducible] def q129_1 : SCode := .region [⟨some 3, .makeFunc (.func 152) #[] #[.tmp 1], none⟩,
    ⟨some 2, .assign (.tmp 3), none⟩]
def s129 : SCode := (.seq q129_0 (.seq q129_1 .ret))
theorem s129_strip : Zk (Zn Tryd.f129) = s129 := by kernel_rfl
theorem s129_ok : Yb 4 (Zn Tryd.f129) = true := by kernel_rfl
theorem s129_call [Tabs Tryd.prog] {args : List Value} {h : Zd} {Q : Value → Zd → Prop} (hsz : args.length ≤ 4) (hk : aw Tryd.prog 4 s129 (Zr Tryd.prog [.tmp 2] Q) (Zm 0 args) h) : ACall Tryd.prog 129 args h Q :=
  Xo Tryd.func129 rfl (enters_of Tryd.func129 (by kernel_rfl) rfl) rfl rfl (by decide) s129_strip s129_ok hsz hk

/-! 130: (planchet ranks.tournament).beats -/
@[reducible] def q130_0 : SCode := .region [⟨some 6, .assign (.const (.bool false)), none⟩]
@[reducible] def q130_1 : SCode := .region [⟨some 7, .move (.tmp 0), none⟩,
    ⟨some 8, .move (.tmp 1), none⟩,
    ⟨some 9, .indexAddr 131 (.tmp 7) (.tmp 8), none⟩,
    ⟨some 10, .load 3 (.tmp 9), none⟩,
    ⟨some 11, .move (.tmp 2), none⟩,
    ⟨some 12, .binOp .shr 3 (.tmp 10) (.tmp 11) 3, none⟩,
    ⟨some 13, .binOp .and 3 (.tmp 12) (.const (.int .i64 1)) 3, none⟩,
    ⟨some 14, .binOp .eql 3 (.tmp 13) (.const (.int .i64 1)) 3, none⟩,
    ⟨some 6, .assign (.tmp 14), none⟩]
def s130 : SCode := (.seq q130_0 (.seq q130_1 .ret))
theorem s130_strip : Zk (Zn Tryd.f130) = s130 := by kernel_rfl
theorem s130_ok : Yb 15 (Zn Tryd.f130) = true := by kernel_rfl
theorem s130_call [Tabs Tryd.prog] {args : List Value} {h : Zd} {Q : Value → Zd → Prop} (hsz : args.length ≤ 15) (hk : aw Tryd.prog 15 s130 (Zr Tryd.prog [.tmp 6] Q) (Zm 0 args) h) : ACall Tryd.prog 130 args h Q :=
  Xo Tryd.func130 rfl (enters_of Tryd.func130 (by kernel_rfl) rfl) rfl rfl (by decide) s130_strip s130_ok hsz hk

/-! 131: slices.pdqsortCmpFunc[int] -/
@[reducible] def q131_0 : SCode := .region [⟨some 10, .assign (.const (.bool true)), none⟩]
@[reducible] def q131_1 : SCode := .region [⟨some 11, .assign (.const (.bool true)), none⟩]
@[reducible] def q131_2 : SCode := .region [⟨some 21, .move (.tmp 2), none⟩,
    ⟨some 22, .move (.tmp 1), none⟩,
    ⟨some 23, .binOp .sub 3 (.tmp 21) (.tmp 22) 3, none⟩,
    ⟨some 12, .assign (.tmp 23), none⟩]
@[reducible] def q131_3 : SCode := .region [⟨some 24, .move (.tmp 12), none⟩,
    ⟨some 25, .binOp .leq 3 (.tmp 24) (.const (.int .i64 12)) 3, none⟩]
@[reducible] def q131_4 : SCode := .region [⟨some 26, .move (.tmp 0), none⟩,
    ⟨some 27, .move (.tmp 1), none⟩,
    ⟨some 28, .move (.tmp 2), none⟩,
    ⟨some 29, .move (.tmp 4), none⟩,
    ⟨some 30, .call { callee := .value (.func 149), args := #[.tmp 26, .tmp 27, .tmp 28, .tmp 29], argTypes := #[27, 3, 3, 114] }, none⟩]
@[reducible] def q131_5 : SCode := .region [⟨some 31, .move (.tmp 3), none⟩,
    ⟨some 32, .binOp .eql 3 (.tmp 31) (.const (.int .i64 0)) 3, none⟩]
@[reducible] def q131_6 : SCode := .region [⟨some 33, .move (.tmp 0), none⟩,
    ⟨some 34, .move (.tmp 1), none⟩,
    ⟨some 35, .move (.tmp 2), none⟩,
    ⟨some 36, .move (.tmp 4), none⟩,
    ⟨some 37, .call { callee := .value (.func 153), args := #[.tmp 33, .tmp 34, .tmp 35, .tmp 36], argTypes := #[27, 3, 3, 114] }, none⟩]
@[reducible] def q131_7 : SCode := .region [⟨some 38, .move (.tmp 10), none⟩,
    ⟨some 39, .unOp .not 4 (.tmp 38), none⟩]
@[reducible] def q131_8 : SCode := .region [⟨some 40, .move (.tmp 0), none⟩,
    ⟨some 41, .move (.tmp 1), none⟩,
    ⟨some 42, .move (.tmp 2), none⟩,
    ⟨some 43, .move (.tmp 4), none⟩,
    ⟨some 44, .call { callee := .value (.func 154), args := #[.tmp 40, .tmp 41, .tmp 42, .tmp 43], argTypes := #[27, 3, 3, 114] }, none⟩]
@[reducible] def q131_9 : SCode := .region [⟨some 45, .move (.tmp 3), none⟩,
    ⟨some 46, .binOp .sub 3 (.tmp 45) (.const (.int .i64 1)) 3, none⟩,
    ⟨some 3, .assign (.tmp 46), none⟩]
@[reducible] def q131_10 : SCode := .region [⟨some 48, .move (.tmp 0), none⟩,
    ⟨some 49, .move (.tmp 1), none⟩,
    ⟨some 50, .move (.tmp 2), none⟩,
    ⟨some 51, .move (.tmp 4), none⟩,
    ⟨some 52, .call { callee := .value (.func 155), args := #[.tmp 48, .tmp 49, .tmp 50, .tmp 51], argTypes := #[27, 3, 3, 114] }, none⟩,
    ⟨some 47, .move (.tmp 52), none⟩,
    ⟨some 53, .extract (.tmp 47) 0, none⟩,
    ⟨some 54, .extract (.tmp 47) 1, none⟩,
    ⟨some 13, .assign (.tmp 53), none⟩,
    ⟨some 14, .assign (.tmp 54), none⟩]
@[reducible] def q131_11 : SCode := .region [⟨some 55, .move (.tmp 14), none⟩,
    ⟨some 56, .binOp .eql 180 (.tmp 55) (.const (.int .i64 2)) 180, none⟩]
@[reducible] def q131_12 : SCode := .region [⟨some 57, .move (.tmp 0), none⟩,
    ⟨some 58, .move (.tmp 1), none⟩,
    ⟨some 59, .move (.tmp 2), none⟩,
    ⟨some 60, .move (.tmp 4), none⟩,
    ⟨some 61, .call { callee := .value (.func 156), args := #[.tmp 57, .tmp 58, .tmp 59, .tmp 60], argTypes := #[27, 3, 3, 114] }, none⟩]
@[reducible] def q131_13 : SCode := .region [⟨some 62, .move (.tmp 2), none⟩,
    ⟨some 63, .binOp .sub 3 (.tmp 62) (.const (.int .i64 1)) 3, none⟩,
    ⟨some 64, .move (.tmp 13), none⟩,
    ⟨some 65, .move (.tmp 1), none⟩,
    ⟨some 66, .binOp .sub 3 (.tmp 64) (.tmp 65) 3, none⟩,
    ⟨some 67, .binOp .sub 3 (.tmp 63) (.tmp 66) 3, none⟩,
    ⟨some 13, .assign (.tmp 67), none⟩]
@[reducible] def q131_14 : SCode := .region [⟨some 14, .assign (.const (.int .i64 1)), none⟩]
@[reducible] def q131_15 : SCode := .region [⟨some 68, .move (.tmp 10), none⟩,
    ⟨some 69, .move (.tmp 68), none⟩,
    ⟨some 70, .move (.tmp 11), some (69, true)⟩,
    ⟨some 71, .pick (.tmp 69) (.tmp 70) (.const (.bool false)), none⟩,
    ⟨some 72, .move (.tmp 71), none⟩,
    ⟨some 73, .move (.tmp 14), some (72, true)⟩,
    ⟨some 74, .binOp .eql 180 (.tmp 73) (.const (.int .i64 1)) 180, some (72, true)⟩,
    ⟨some 75, .pick (.tmp 72) (.tmp 74) (.const (.bool false)), none⟩]
@[reducible] def q131_16 : SCode := .region [⟨some 76, .move (.tmp 0), none⟩,
    ⟨some 77, .move (.tmp 1), none⟩,
    ⟨some 78, .move (.tmp 2), none⟩,
    ⟨some 79, .move (.tmp 4), none⟩,
    ⟨some 80, .call { callee := .value (.func 157), args := #[.tmp 76, .tmp 77, .tmp 78, .tmp 79], argTypes := #[27, 3, 3, 114] }, none⟩]
def q131_17 : SCode := .draw [⟨some 81, .move (.tmp 1), none⟩,
    ⟨some 82, .binOp .gtr 3 (.tmp 81) (.const (.int .i64 0)) 3, none⟩,
    ⟨some 83, .move (.tmp 82), none⟩,
    ⟨some 84, .move (.tmp 4), some (83, true)⟩,
    ⟨some 85, .move (.tmp 0), some (83, true)⟩,
    ⟨some 86, .move (.tmp 1), some (83, true)⟩,
    ⟨some 87, .binOp .sub 3 (.tmp 86) (.const (.int .i64 1)) 3, some (83, true)⟩,
    ⟨some 88, .indexAddr 27 (.tmp 85) (.tmp 87), some (83, true)⟩,
    ⟨some 89, .load 3 (.tmp 88), some (83, true)⟩,
    ⟨some 90, .move (.tmp 0), some (83, true)⟩,
    ⟨some 91, .move (.tmp 13), some (83, true)⟩,
    ⟨some 92, .indexAddr 27 (.tmp 90) (.tmp 91), some (83, true)⟩,
    ⟨some 93, .load 3 (.tmp 92), some (83, true)⟩,
    ⟨some 94, .call { callee := .value (.tmp 84), args := #[.tmp 89, .tmp 93], argTypes := #[3, 3] }, some (83, true)⟩,
    ⟨some 95, .binOp .lss 3 (.tmp 94) (.const (.int .i64 0)) 3, some (83, true)⟩,
    ⟨some 96, .unOp .not 4 (.tmp 95), some (83, true)⟩,
    ⟨some 97, .pick (.tmp 83) (.tmp 96) (.const (.bool false)), none⟩]
   [[], [0], [1], [2], [2], [2], [5, 2], [4, 6, 2], [7, 2], [2], [2], [9, 10, 2], [11, 2], [3, 8, 12, 2, 2], [13, 2], [14, 2], [2, 15]]
@[reducible] def q131_18 : SCode := .region [⟨some 98, .move (.tmp 0), none⟩,
    ⟨some 99, .move (.tmp 1), none⟩,
    ⟨some 100, .move (.tmp 2), none⟩,
    ⟨some 101, .move (.tmp 13), none⟩,
    ⟨some 102, .move (.tmp 4), none⟩,
    ⟨some 103, .call { callee := .value (.func 158), args := #[.tmp 98, .tmp 99, .tmp 100, .tmp 101, .tmp 102], argTypes := #[27, 3, 3, 3, 114] }, none⟩,
    ⟨some 15, .assign (.tmp 103), none⟩]
@[reducible] def q131_19 : SCode := .region [⟨some 104, .move (.tmp 15), none⟩,
    ⟨some 1, .assign (.tmp 104), none⟩]
@[reducible] def q131_20 : SCode := .region [⟨some 106, .move (.tmp 0), none⟩,
    ⟨some 107, .move (.tmp 1), none⟩,
    ⟨some 108, .move (.tmp 2), none⟩,
    ⟨some 109, .move (.tmp 13), none⟩,
    ⟨some 110, .move (.tmp 4), none⟩,
    ⟨some 111, .call { callee := .value (.func 159), args := #[.tmp 106, .tmp 107, .tmp 108, .tmp 109, .tmp 110], argTypes := #[27, 3, 3, 3, 114] }, none⟩,
    ⟨some 105, .move (.tmp 111), none⟩,
    ⟨some 112, .extract (.tmp 105) 0, none⟩,
    ⟨some 113, .extract (.tmp 105) 1, none⟩,
    ⟨some 16, .assign (.tmp 112), none⟩,
    ⟨some 17, .assign (.tmp 113), none⟩]
@[reducible] def q131_21 : SCode := .region [⟨some 114, .move (.tmp 17), none⟩,
    ⟨some 11, .assign (.tmp 114), none⟩]
@[reducible] def q131_22 : SCode := .region [⟨some 115, .move (.tmp 16), none⟩,
    ⟨some 116, .move (.tmp 1), none⟩,
    ⟨some 117, .binOp .sub 3 (.tmp 115) (.tmp 116) 3, none⟩,
    ⟨some 118, .move (.tmp 2), none⟩,
    ⟨some 119, .move (.tmp 16), none⟩,
    ⟨some 120, .binOp .sub 3 (.tmp 118) (.tmp 119) 3, none⟩,
    ⟨some 18, .assign (.tmp 117), none⟩,
    ⟨some 19, .assign (.tmp 120), none⟩]
@[reducible] def q131_23 : SCode := .region [⟨some 121, .move (.tmp 12), none⟩,
    ⟨some 122, .binOp .quo 3 (.tmp 121) (.const (.int .i64 8)) 3, none⟩,
    ⟨some 20, .assign (.tmp 122), none⟩]
@[reducible] def q131_24 : SCode := .region [⟨some 123, .move (.tmp 18), none⟩,
    ⟨some 124, .move (.tmp 19), none⟩,
    ⟨some 125, .binOp .lss 3 (.tmp 123) (.tmp 124) 3, none⟩]
@[reducible] def q131_25 : SCode := .region [⟨some 126, .move (.tmp 18), none⟩,
    ⟨some 127, .move (.tmp 20), none⟩,
    ⟨some 128, .binOp .geq 3 (.tmp 126) (.tmp 127) 3, none⟩,
    ⟨some 10, .assign (.tmp 128), none⟩]
@[reducible] def q131_26 : SCode := .region [⟨some 129, .move (.tmp 0), none⟩,
    ⟨some 130, .move (.tmp 1), none⟩,
    ⟨some 131, .move (.tmp 16), none⟩,
    ⟨some 132, .move (.tmp 3), none⟩,
    ⟨some 133, .move (.tmp 4), none⟩,
    ⟨some 134, .call { callee := .value (.func 131), args := #[.tmp 129, .tmp 130, .tmp 131, .tmp 132, .tmp 133], argTypes := #[27, 3, 3, 3, 114] }, none⟩]
@[reducible] def q131_27 : SCode := .region [⟨some 135, .move (.tmp 16), none⟩,
    ⟨some 136, .binOp .add 3 (.tmp 135) (.const (.int .i64 1)) 3, none⟩,
    ⟨some 1, .assign (.tmp 136), none⟩]
@[reducible] def q131_28 : SCode := .region [⟨some 137, .move (.tmp 19), none⟩,
    ⟨some 138, .move (.tmp 20), none⟩,
    ⟨some 139, .binOp .geq 3 (.tmp 137) (.tmp 138) 3, none⟩,
    ⟨some 10, .assign (.tmp 139), none⟩]
@[reducible] def q131_29 : SCode := .region [⟨some 140, .move (.tmp 0), none⟩,
    ⟨some 141, .move (.tmp 16), none⟩,
    ⟨some 142, .binOp .add 3 (.tmp 141) (.const (.int .i64 1)) 3, none⟩,
    ⟨some 143, .move (.tmp 2), none⟩,
    ⟨some 144, .move (.tmp 3), none⟩,
    ⟨some 145, .move (.tmp 4), none⟩,
    ⟨some 146, .call { callee := .value (.func 131), args := #[.tmp 140, .tmp 142, .tmp 143, .tmp 144, .tmp 145], argTypes := #[27, 3, 3, 3, 114] }, none⟩]
@[reducible] def q131_30 : SCode := .region [⟨some 147, .move (.tmp 16), none⟩,
    ⟨some 2, .assign (.tmp 147), none⟩]
def l131_0 : SCode := (.block 1 (.seq q131_2 (.seq (.seq q131_3 (.cond (.tmp 25) (.seq q131_4 .ret) .skip)) (.seq (.seq q131_5 (.cond (.tmp 32) (.seq q131_6 .ret) .skip)) (.seq (.seq q131_7 (.cond (.tmp 39) (.seq q131_8 q131_9) .skip)) (.seq q131_10 (.seq (.seq q131_11 (.cond (.tmp 56) (.seq q131_12 (.seq q131_13 q131_14)) .skip)) (.seq (.seq q131_15 (.cond (.tmp 75) (.seq q131_16 (.cond (.tmp 80) .ret .skip)) .skip)) (.seq (.seq q131_17 (.cond (.tmp 97) (.seq q131_18 (.seq q131_19 (.exit 1))) .skip)) (.seq q131_20 (.seq q131_21 (.seq q131_22 (.seq q131_23 (.seq q131_24 (.cond (.tmp 125) (.seq q131_25 (.seq q131_26 q131_27)) (.seq q131_28 (.seq q131_29 q131_30)))))))))))))))))
def s131 : SCode := (.seq q131_0 (.seq q131_1 (.block 0 (.loop l131_0))))
theorem s131_strip : Zk (Zn Tryd.f131) = s131 := by kernel_rfl
theorem s131_ok : Yb 148 (Zn Tryd.f131) = true := by kernel_rfl
/-! 139: math bits.Len64 -/
@[reducible] def q139_0 : SCode := .region [⟨some 2, .assign (.const (.int .i64 0)), none⟩]
@[reducible] def q139_1 : SCode := .region [⟨some 3, .move (.tmp 0), none⟩,
    ⟨some 4, .binOp .geq 88 (.tmp 3) (.const (.int .u64 4294967296)) 88, none⟩]
@[reducible] def q139_2 : SCode := .region [⟨some 5, .move (.tmp 0), none⟩,
    ⟨some 6, .binOp .shr 88 (.tmp 5) (.const (.int .u64 32)) 57, none⟩,
    ⟨some 0, .assign (.tmp 6), none⟩]
@[reducible] def q139_3 : SCode := .region [⟨some 2, .assign (.const (.int .i64 32)), none⟩]
@[reducible] def q139_4 : SCode := .region [⟨some 7, .move (.tmp 0), none⟩,
    ⟨some 8, .binOp .geq 88 (.tmp 7) (.const (.int .u64 65536)) 88, none⟩]
@[reducible] def q139_5 : SCode := .region [⟨some 9, .move (.tmp 0), none⟩,
    ⟨some 10, .binOp .shr 88 (.tmp 9) (.const (.int .u64 16)) 57, none⟩,
    ⟨some 0, .assign (.tmp 10), none⟩]
@[reducible] def q139_6 : SCode := .region [⟨some 11, .move (.tmp 2), none⟩,
    ⟨some 12, .binOp .add 3 (.tmp 11) (.const (.int .i64 16)) 3, none⟩,
    ⟨some 2, .assign (.tmp 12), none⟩]
@[reducible] def q139_7 : SCode := .region [⟨some 13, .move (.tmp 0), none⟩,
    ⟨some 14, .binOp .geq 88 (.tmp 13) (.const (.int .u64 256)) 88, none⟩]
@[reducible] def q139_8 : SCode := .region [⟨some 15, .move (.tmp 0), none⟩,
    ⟨some 16, .binOp .shr 88 (.tmp 15) (.const (.int .u64 8)) 57, none⟩,
    ⟨some 0, .assign (.tmp 16), none⟩]
@[reducible] def q139_9 : SCode := .region [⟨some 17, .move (.tmp 2), none⟩,
    ⟨some 18, .binOp .add 3 (.tmp 17) (.const (.int .i64 8)) 3, none⟩,
    ⟨some 2, .assign (.tmp 18), none⟩]
@[reducible] def q139_10 : SCode := .region [⟨some 19, .move (.tmp 2), none⟩,
    ⟨some 20, .move (.tmp 0), none⟩,
    ⟨some 21, .convert 88 5 (.tmp 20), none⟩,
    ⟨some 22, .index 9 (.const (.string { data := #[0, 1, 2, 2, 3, 3, 3, 3, 4, 4, 4, 4, 4, 4, 4, 4, 5, 5, 5, 5, 5, 5, 5, 5, 5, 5, 5, 5, 5, 5, 5, 5, 6, 6, 6, 6, 6, 6, 6, 6, 6, 6, 6, 6, 6, 6, 6, 6, 6, 6, 6, 6, 6, 6, 6, 6, 6, 6, 6, 6, 6, 6, 6, 6, 7, 7, 7, 7, 7, 7, 7, 7, 7, 7, 7, 7, 7, 7, 7, 7, 7, 7, 7, 7, 7, 7, 7, 7, 7, 7, 7, 7, 7, 7, 7, 7, 7, 7, 7, 7, 7, 7, 7, 7, 7, 7, 7, 7, 7, 7, 7, 7, 7, 7, 7, 7, 7, 7, 7, 7, 7, 7, 7, 7, 7, 7, 7, 7, 8, 8, 8, 8, 8, 8, 8, 8, 8, 8, 8, 8, 8, 8, 8, 8, 8, 8, 8, 8, 8, 8, 8, 8, 8, 8, 8, 8, 8, 8, 8, 8, 8, 8, 8, 8, 8, 8, 8, 8, 8, 8, 8, 8, 8, 8, 8, 8, 8, 8, 8, 8, 8, 8, 8, 8, 8, 8, 8, 8, 8, 8, 8, 8, 8, 8, 8, 8, 8, 8, 8, 8, 8, 8, 8, 8, 8, 8, 8, 8, 8, 8, 8, 8, 8, 8, 8, 8, 8, 8, 8, 8, 8, 8, 8, 8, 8, 8, 8, 8, 8, 8, 8, 8, 8, 8, 8, 8, 8, 8, 8, 8, 8, 8, 8, 8, 8, 8, 8, 8, 8, 8, 8, 8, 8, 8, 8, 8] })) (.tmp 21), none⟩,
    ⟨some 23, .convert 5 3 (.tmp 22), none⟩,
    ⟨some 24, .binOp .add 3 (.tmp 19) (.tmp 23) 3, none⟩,
    ⟨some 2, .assign (.tmp 24), none⟩]
def s139 : SCode := (.seq q139_0 (.seq (.seq q139_1 (.cond (.tmp 4) (.seq q139_2 q139_3) .skip)) (.seq (.seq q139_4 (.cond (.tmp 8) (.seq q139_5 q139_6) .skip)) (.seq (.seq q139_7 (.cond (.tmp 14) (.seq q139_8 q139_9) .skip)) (.seq q139_10 .ret)))))
theorem s139_strip : Zk (Zn Tryd.f139) = s139 := by kernel_rfl
theorem s139_ok : Yb 25 (Zn Tryd.f139) = true := by kernel_rfl
/-! 148: cmp.isNaN[int] -/
@[reducible] def q148_0 : SCode := .region [⟨some 2, .assign (.const (.bool false)), none⟩]
@[reducible] def q148_1 : SCode := .region [⟨some 3, .move (.tmp 0), none⟩,
    ⟨some 4, .move (.tmp 0), none⟩,
    ⟨some 5, .binOp .neq 3 (.tmp 3) (.tmp 4) 3, none⟩,
    ⟨some 2, .assign (.tmp 5), none⟩]
def s148 : SCode := (.seq q148_0 (.seq q148_1 .ret))
theorem s148_strip : Zk (Zn Tryd.f148) = s148 := by kernel_rfl
theorem s148_ok : Yb 6 (Zn Tryd.f148) = true := by kernel_rfl
theorem s148_call [Tabs Tryd.prog] {args : List Value} {h : Zd} {Q : Value → Zd → Prop} (hsz : args.length ≤ 6) (hk : aw Tryd.prog 6 s148 (Zr Tryd.prog [.tmp 2] Q) (Zm 0 args) h) : ACall Tryd.prog 148 args h Q :=
  Xo Tryd.func148 rfl (enters_of Tryd.func148 (by kernel_rfl) rfl) rfl rfl (by decide) s148_strip s148_ok hsz hk

/-! 149: slices.insertionSortCmpFunc[int] -/
@[reducible] def q149_0 : SCode := .region [⟨some 10, .move (.tmp 1), none⟩,
    ⟨some 11, .binOp .add 3 (.tmp 10) (.const (.int .i64 1)) 3, none⟩,
    ⟨some 8, .assign (.tmp 11), none⟩]
@[reducible] def q149_1 : SCode := .region [⟨some 12, .move (.tmp 8), none⟩,
    ⟨some 13, .move (.tmp 2), none⟩,
    ⟨some 14, .binOp .lss 3 (.tmp 12) (.tmp 13) 3, none⟩]
@[reducible] def q149_3 : SCode := .region [⟨some 17, .move (.tmp 8), none⟩,
    ⟨some 9, .assign (.tmp 17), none⟩]
def q149_4 : SCode := .draw [⟨some 18, .move (.tmp 9), none⟩,
    ⟨some 19, .move (.tmp 1), none⟩,
    ⟨some 20, .binOp .gtr 3 (.tmp 18) (.tmp 19) 3, none⟩,
    ⟨some 21, .move (.tmp 20), none⟩,
    ⟨some 22, .move (.tmp 3), some (21, true)⟩,
    ⟨some 23, .move (.tmp 0), some (21, true)⟩,
    ⟨some 24, .move (.tmp 9), some (21, true)⟩,
    ⟨some 25, .indexAddr 27 (.tmp 23) (.tmp 24), some (21, true)⟩,
    ⟨some 26, .load 3 (.tmp 25), some (21, true)⟩,
    ⟨some 27, .move (.tmp 0), some (21, true)⟩,
    ⟨some 28, .move (.tmp 9), some (21, true)⟩,
    ⟨some 29, .binOp .sub 3 (.tmp 28) (.const (.int .i64 1)) 3, some (21, true)⟩,
    ⟨some 30, .indexAddr 27 (.tmp 27) (.tmp 29), some (21, true)⟩,
    ⟨some 31, .load 3 (.tmp 30), some (21, true)⟩,
    ⟨some 32, .call { callee := .value (.tmp 22), args := #[.tmp 26, .tmp 31], argTypes := #[3, 3] }, some (21, true)⟩,
    ⟨some 33, .binOp .lss 3 (.tmp 32) (.const (.int .i64 0)) 3, some (21, true)⟩,
    ⟨some 34, .pick (.tmp 21) (.tmp 33) (.const (.bool false)), none⟩]
   [[], [], [0, 1], [2], [3], [3], [3], [5, 6, 3], [7, 3], [3], [3], [10, 3], [9, 11, 3], [12, 3], [4, 8, 13, 3, 3], [14, 3], [3, 15]]
def q149_6 : SCode := .draw [⟨some 37, .move (.tmp 0), none⟩,
    ⟨some 38, .move (.tmp 9), none⟩,
    ⟨some 39, .move (.tmp 0), none⟩,
    ⟨some 40, .move (.tmp 9), none⟩,
    ⟨some 41, .binOp .sub 3 (.tmp 40) (.const (.int .i64 1)) 3, none⟩,
    ⟨some 42, .move (.tmp 0), none⟩,
    ⟨some 43, .move (.tmp 9), none⟩,
    ⟨some 44, .binOp .sub 3 (.tmp 43) (.const (.int .i64 1)) 3, none⟩,
    ⟨some 45, .indexAddr 27 (.tmp 42) (.tmp 44), none⟩,
    ⟨some 46, .load 3 (.tmp 45), none⟩,
    ⟨some 47, .move (.tmp 0), none⟩,
    ⟨some 48, .move (.tmp 9), none⟩,
    ⟨some 49, .indexAddr 27 (.tmp 47) (.tmp 48), none⟩,
    ⟨some 50, .load 3 (.tmp 49), none⟩,
    ⟨some 51, .indexAddr 27 (.tmp 37) (.tmp 38), none⟩,
    ⟨none, .store 3 (.tmp 51) (.tmp 46), none⟩,
    ⟨some 52, .indexAddr 27 (.tmp 39) (.tmp 41), none⟩,
    ⟨none, .store 3 (.tmp 52) (.tmp 50), none⟩]
   [[], [], [], [], [3], [], [], [6], [5, 7], [8], [], [], [10, 11], [12], [0, 1, 0, 1, 5, 6, 7, 8, 9, 13], [14, 9, 0, 1, 5, 6, 7, 8, 9, 13], [2, 4, 0, 1, 2, 3, 4, 5, 6, 7, 8, 9, 10, 11, 12, 13, 14, 15], [16, 13, 15, 0, 1, 2, 3, 4, 5, 6, 7, 8, 9, 10, 11, 12, 13, 14, 15]]
@[reducible] def q149_5 : SCode := .region [⟨some 35, .move (.tmp 9), none⟩,
    ⟨some 36, .binOp .sub 3 (.tmp 35) (.const (.int .i64 1)) 3, none⟩,
    ⟨some 9, .assign (.tmp 36), none⟩]
def l149_0 : SCode := (.seq (.seq q149_4 (.cond (.tmp 34) .skip (.exit 2))) (.seq (.block 3 q149_6) q149_5))
@[reducible] def q149_2 : SCode := .region [⟨some 15, .move (.tmp 8), none⟩,
    ⟨some 16, .binOp .add 3 (.tmp 15) (.const (.int .i64 1)) 3, none⟩,
    ⟨some 8, .assign (.tmp 16), none⟩]
def l149_1 : SCode := (.seq (.seq q149_1 (.cond (.tmp 14) .skip (.exit 0))) (.seq (.block 1 (.seq q149_3 (.block 2 (.loop l149_0)))) q149_2))
def s149 : SCode := (.seq q149_0 (.block 0 (.loop l149_1)))
theorem s149_strip : Zk (Zn Tryd.f149) = s149 := by kernel_rfl
theorem s149_ok : Yb 53 (Zn Tryd.f149) = true := by kernel_rfl
end Go.Proofs.Tryd.Am

namespace Go.Proofs.Tryd.Am
open Go.Am
set_option maxRecDepth 100000
theorem app_120_120 : appT Tryd.prog 120 120 = some (122, 1, 24) := by kernel_rfl
theorem app_125_125 : appT Tryd.prog 125 125 = some (43, 1, 24) := by kernel_rfl
theorem app_22_22 : appT Tryd.prog 22 22 = some (27, 1, 24) := by kernel_rfl
theorem app_27_27 : appT Tryd.prog 27 27 = some (3, 1, 8) := by kernel_rfl
theorem app_43_43 : appT Tryd.prog 43 43 = some (45, 2, 16) := by kernel_rfl
theorem app_46_46 : appT Tryd.prog 46 46 = some (51, 2, 16) := by kernel_rfl
theorem app_66_66 : appT Tryd.prog 66 66 = some (163, 3, 24) := by kernel_rfl
theorem el_120 : elemOf' Tryd.prog 120 = some 122 := by kernel_rfl
theorem el_122 : elemOf' Tryd.prog 122 = some 45 := by kernel_rfl
theorem el_125 : elemOf' Tryd.prog 125 = some 43 := by kernel_rfl
theorem el_131 : elemOf' Tryd.prog 131 = some 3 := by kernel_rfl
theorem el_22 : elemOf' Tryd.prog 22 = some 27 := by kernel_rfl
theorem Wg : elemOf' Tryd.prog 27 = some 3 := by kernel_rfl
theorem el_43 : elemOf' Tryd.prog 43 = some 45 := by kernel_rfl
theorem el_46 : elemOf' Tryd.prog 46 = some 51 := by kernel_rfl
theorem el_66 : elemOf' Tryd.prog 66 = some 163 := by kernel_rfl
theorem esz_117 : esz Tryd.prog 117 = some 2 := by kernel_rfl
theorem esz_122 : esz Tryd.prog 122 = some 1 := by kernel_rfl
theorem esz_131 : esz Tryd.prog 131 = some 1 := by kernel_rfl
theorem esz_163 : esz Tryd.prog 163 = some 3 := by kernel_rfl
theorem esz_27 : esz Tryd.prog 27 = some 1 := by kernel_rfl
theorem Xc : esz Tryd.prog 3 = some 1 := by kernel_rfl
theorem esz_43 : esz Tryd.prog 43 = some 1 := by kernel_rfl
theorem esz_45 : esz Tryd.prog 45 = some 2 := by kernel_rfl
theorem esz_46 : esz Tryd.prog 46 = some 1 := by kernel_rfl
theorem esz_51 : esz Tryd.prog 51 = some 2 := by kernel_rfl
theorem esz_53 : esz Tryd.prog 53 = some 1 := by kernel_rfl
theorem esz_61 : esz Tryd.prog 61 = some 1 := by kernel_rfl
theorem esz_95 : esz Tryd.prog 95 = some 6 := by kernel_rfl
theorem esz_97 : esz Tryd.prog 97 = some 7 := by kernel_rfl
theorem fld_117_0 : fldOf Tryd.prog 117 0 = some (3, 0) := by kernel_rfl
theorem fld_117_1 : fldOf Tryd.prog 117 1 = some (46, 1) := by kernel_rfl
theorem fld_45_0 : fldOf Tryd.prog 45 0 = some (3, 0) := by kernel_rfl
theorem fld_45_1 : fldOf Tryd.prog 45 1 = some (3, 1) := by kernel_rfl
theorem fld_51_0 : fldOf Tryd.prog 51 0 = some (3, 0) := by kernel_rfl
theorem fld_51_1 : fldOf Tryd.prog 51 1 = some (3, 1) := by kernel_rfl
theorem fld_61_0 : fldOf Tryd.prog 61 0 = some (27, 0) := by kernel_rfl
theorem fld_97_0 : fldOf Tryd.prog 97 0 = some (3, 0) := by kernel_rfl
theorem fld_97_1 : fldOf Tryd.prog 97 1 = some (95, 1) := by kernel_rfl
theorem info_3 : (Tryd.prog.info? 3).map (fun i => (i.size, i.bytes)) = some (1, 8) := by kernel_rfl
theorem info_45 : (Tryd.prog.info? 45).map (fun i => (i.size, i.bytes)) = some (2, 16) := by kernel_rfl
theorem isl_120 : isSl Tryd.prog 120 = true := by kernel_rfl
theorem isl_122 : isSl Tryd.prog 122 = true := by kernel_rfl
theorem isl_125 : isSl Tryd.prog 125 = true := by kernel_rfl
theorem isl_131 : isSl Tryd.prog 131 = true := by kernel_rfl
theorem isl_22 : isSl Tryd.prog 22 = true := by kernel_rfl
theorem isl_27 : isSl Tryd.prog 27 = true := by kernel_rfl
theorem isl_43 : isSl Tryd.prog 43 = true := by kernel_rfl
theorem isl_46 : isSl Tryd.prog 46 = true := by kernel_rfl
theorem isl_66 : isSl Tryd.prog 66 = true := by kernel_rfl
theorem pl_117_0 : Xu Tryd.prog 117 0 = some (0, 1) := by kernel_rfl
theorem pl_117_1 : Xu Tryd.prog 117 1 = some (1, 1) := by kernel_rfl
theorem pl_163_0 : Xu Tryd.prog 163 0 = some (0, 1) := by kernel_rfl
theorem pl_163_1 : Xu Tryd.prog 163 1 = some (1, 1) := by kernel_rfl
theorem pl_163_2 : Xu Tryd.prog 163 2 = some (2, 1) := by kernel_rfl
theorem pl_45_0 : Xu Tryd.prog 45 0 = some (0, 1) := by kernel_rfl
theorem pl_45_1 : Xu Tryd.prog 45 1 = some (1, 1) := by kernel_rfl
theorem pl_51_0 : Xu Tryd.prog 51 0 = some (0, 1) := by kernel_rfl
theorem pl_51_1 : Xu Tryd.prog 51 1 = some (1, 1) := by kernel_rfl
theorem pl_61_0 : Xu Tryd.prog 61 0 = some (0, 1) := by kernel_rfl
theorem pl_97_0 : Xu Tryd.prog 97 0 = some (0, 1) := by kernel_rfl
theorem pl_97_1 : Xu Tryd.prog 97 1 = some (1, 6) := by kernel_rfl
theorem shp_117 : shp Tryd.prog 117 = some (some 2) := by kernel_rfl
theorem shp_122 : shp Tryd.prog 122 = some none := by kernel_rfl
theorem shp_131 : shp Tryd.prog 131 = some none := by kernel_rfl
theorem shp_22 : shp Tryd.prog 22 = some none := by kernel_rfl
theorem We : shp Tryd.prog 27 = some none := by kernel_rfl
theorem Ya : shp Tryd.prog 3 = some none := by kernel_rfl
theorem shp_4 : shp Tryd.prog 4 = some none := by kernel_rfl
theorem shp_43 : shp Tryd.prog 43 = some none := by kernel_rfl
theorem shp_45 : shp Tryd.prog 45 = some (some 2) := by kernel_rfl
theorem shp_46 : shp Tryd.prog 46 = some none := by kernel_rfl
theorem shp_51 : shp Tryd.prog 51 = some (some 2) := by kernel_rfl
theorem shp_53 : shp Tryd.prog 53 = some none := by kernel_rfl
theorem shp_61 : shp Tryd.prog 61 = some (some 1) := by kernel_rfl
theorem shp_66 : shp Tryd.prog 66 = some none := by kernel_rfl
theorem shp_72 : shp Tryd.prog 72 = some none := by kernel_rfl
theorem shp_95 : shp Tryd.prog 95 = some (some 6) := by kernel_rfl
theorem Xh : shp Tryd.prog 97 = some (some 7) := by kernel_rfl
theorem und_120 : Program.underlying Tryd.prog 120 = some (.slice 122) := by kernel_rfl
theorem und_122 : Program.underlying Tryd.prog 122 = some (.slice 45) := by kernel_rfl
theorem und_125 : Program.underlying Tryd.prog 125 = some (.slice 43) := by kernel_rfl
theorem und_131 : Program.underlying Tryd.prog 131 = some (.slice 3) := by kernel_rfl
theorem und_135 : Program.underlying Tryd.prog 135 = some (.map 3 3) := by kernel_rfl
theorem und_163 : Program.underlying Tryd.prog 163 = some (.array 3 3) := by kernel_rfl
theorem und_170 : Program.underlying Tryd.prog 170 = some (.int .u32) := by kernel_rfl
theorem und_22 : Program.underlying Tryd.prog 22 = some (.slice 27) := by kernel_rfl
theorem und_27 : Program.underlying Tryd.prog 27 = some (.slice 3) := by kernel_rfl
theorem und_3 : Program.underlying Tryd.prog 3 = some (.int .i64) := by kernel_rfl
theorem und_4 : Program.underlying Tryd.prog 4 = some (.bool) := by kernel_rfl
theorem und_43 : Program.underlying Tryd.prog 43 = some (.slice 45) := by kernel_rfl
theorem und_46 : Program.underlying Tryd.prog 46 = some (.slice 51) := by kernel_rfl
theorem und_5 : Program.underlying Tryd.prog 5 = some (.int .u8) := by kernel_rfl
theorem und_57 : Program.underlying Tryd.prog 57 = some (.int .u64) := by kernel_rfl
theorem und_88 : Program.underlying Tryd.prog 88 = some (.int .u64) := by kernel_rfl
theorem und_9 : Program.underlying Tryd.prog 9 = some (.string) := by kernel_rfl
theorem und_95 : Program.underlying Tryd.prog 95 = some (.array 6 3) := by kernel_rfl
theorem zero_117 : Xl Tryd.prog 117 = some [.int .i64 0, .slice none 0 0] := by kernel_rfl
theorem zero_122 : Xl Tryd.prog 122 = some [.slice none 0 0] := by kernel_rfl
theorem zero_163 : Xl Tryd.prog 163 = some [.int .i64 0, .int .i64 0, .int .i64 0] := by kernel_rfl
theorem zero_22 : Xl Tryd.prog 22 = some [.slice none 0 0] := by kernel_rfl
theorem zero_27 : Xl Tryd.prog 27 = some [.slice none 0 0] := by kernel_rfl
theorem zero_3 : Xl Tryd.prog 3 = some [.int .i64 0] := by kernel_rfl
theorem zero_4 : Xl Tryd.prog 4 = some [.bool false] := by kernel_rfl
theorem zero_43 : Xl Tryd.prog 43 = some [.slice none 0 0] := by kernel_rfl
theorem zero_45 : Xl Tryd.prog 45 = some [.int .i64 0, .int .i64 0] := by kernel_rfl
theorem zero_51 : Xl Tryd.prog 51 = some [.int .i64 0, .int .i64 0] := by kernel_rfl
theorem zero_61 : Xl Tryd.prog 61 = some [.slice none 0 0] := by kernel_rfl
theorem zero_66 : Xl Tryd.prog 66 = some [.slice none 0 0] := by kernel_rfl
theorem zero_72 : Xl Tryd.prog 72 = some [.nilFunc] := by kernel_rfl
theorem zero_97 : Xl Tryd.prog 97 = some [.int .i64 0, .int .i64 0, .int .i64 0, .int .i64 0, .int .i64 0, .int .i64 0, .int .i64 0] := by kernel_rfl
theorem zv_3 : zeroV Tryd.prog 3 = some (.int .i64 0) := by kernel_rfl
def tyf := (And.intro (And.intro (And.intro (And.intro (And.intro (And.intro (And.intro @app_120_120 @app_125_125) (And.intro @app_22_22 @app_27_27)) (And.intro (And.intro @app_43_43 @app_46_46) @app_66_66)) (And.intro (And.intro (And.intro @el_120 @el_122) (And.intro @el_125 @el_131)) (And.intro (And.intro @el_22 @Wg) @el_43))) (And.intro (And.intro (And.intro (And.intro @el_46 @el_66) (And.intro @esz_117 @esz_122)) (And.intro (And.intro @esz_131 @esz_163) @esz_27)) (And.intro (And.intro (And.intro @Xc @esz_43) (And.intro @esz_45 @esz_46)) (And.intro (And.intro @esz_51 @esz_53) @esz_61)))) (And.intro (And.intro (And.intro (And.intro (And.intro @esz_95 @esz_97) (And.intro @fld_117_0 @fld_117_1)) (And.intro (And.intro @fld_45_0 @fld_45_1) @fld_51_0)) (And.intro (And.intro (And.intro @fld_51_1 @fld_61_0) (And.intro @fld_97_0 @fld_97_1)) (And.intro (And.intro @info_3 @info_45) @isl_120))) (And.intro (And.intro (And.intro (And.intro @isl_122 @isl_125) (And.intro @isl_131 @isl_22)) (And.intro (And.intro @isl_27 @isl_43) @isl_46)) (And.intro (And.intro (And.intro @isl_66 @pl_117_0) (And.intro @pl_117_1 @pl_163_0)) (And.intro (And.intro @pl_163_1 @pl_163_2) @pl_45_0))))) (And.intro (And.intro (And.intro (And.intro (And.intro (And.intro @pl_45_1 @pl_51_0) (And.intro @pl_51_1 @pl_61_0)) (And.intro (And.intro @pl_97_0 @pl_97_1) @shp_117)) (And.intro (And.intro (And.intro @shp_122 @shp_131) (And.intro @shp_22 @We)) (And.intro (And.intro @Ya @shp_4) @shp_43))) (And.intro (And.intro (And.intro (And.intro @shp_45 @shp_46) (And.intro @shp_51 @shp_53)) (And.intro (And.intro @shp_61 @shp_66) @shp_72)) (And.intro (And.intro (And.intro @shp_95 @Xh) (And.intro @und_120 @und_122)) (And.intro (And.intro @und_125 @und_131) @und_135)))) (And.intro (And.intro (And.intro (And.intro (And.intro @und_163 @und_170) (And.intro @und_22 @und_27)) (And.intro (And.intro @und_3 @und_4) @und_43)) (And.intro (And.intro (And.intro @und_46 @und_5) (And.intro @und_57 @und_88)) (And.intro (And.intro @und_9 @und_95) @zero_117))) (And.intro (And.intro (And.intro (And.intro @zero_122 @zero_163) (And.intro @zero_22 @zero_27)) (And.intro (And.intro @zero_3 @zero_4) @zero_43)) (And.intro (And.intro (And.intro @zero_45 @zero_51) (And.intro @zero_61 @zero_66)) (And.intro (And.intro @zero_72 @zero_97) @zv_3))))))
end Go.Proofs.Tryd.Am

namespace Go.Proofs.Tryd.Redei

/-- The sum of f over a list. -/
def sm {α : Type} (f : α → Nat) : List α → Nat
  | [] => 0
  | x :: l => f x + sm f l

section
variable {α β : Type}
end

/-- One picked out of a list, and the rest. -/
def picks : List Nat → List (Nat × List Nat)
  | [] => []
  | x :: S => (x, S) :: (picks S).map fun p => (p.1, x :: p.2)
/-- The ways through all of a list that end with y behind it. -/
def en (r : Nat → Nat → Bool) : Nat → List Nat → Nat → Nat
  | 0, A, _ => if A = [] then 1 else 0
  | n + 1, A, y => (if A = [] then 1 else 0) + sm (fun p => if r p.1 y then en r n p.2 p.1 else 0) (picks A)
def E (r : Nat → Nat → Bool) (A : List Nat) (y : Nat) : Nat := en r A.length A y
/-- All ways through a list. -/
def H (r : Nat → Nat → Bool) (S : List Nat) : Nat := sm (fun p => E r p.2 p.1) (picks S)

/-- The arcs between a and b are told anew. -/
def put (r : Nat → Nat → Bool) (a b : Nat) (u v : Bool) (x y : Nat) : Bool := if x = a ∧ y = b then u else if x = b ∧ y = a then v else r x y

end Go.Proofs.Tryd.Redei

namespace Go.Proofs.Tryd.Am.Ra
open Go.Proofs.Tryd.Am
open Go.Am

def bitI (z : Int) (j : Nat) : Bool := z.toNat.testBit j
/-- Player i's set is one, and goes with those of the players before. -/
def okAt (xs : List Int) (i : Nat) : Bool :=
  decide (0 ≤ xs.getD i 0) && decide (xs.getD i 0 < 2 ^ xs.length) && !bitI (xs.getD i 0) i && (List.range i).all fun j => bitI (xs.getD i 0) j != bitI (xs.getD j 0) i
def trn (xs : List Int) : Bool := decide (1 ≤ xs.length) && decide (xs.length ≤ 8) && (List.range xs.length).all (okAt xs)

theorem testI {z : Int} (h0 : 0 ≤ z) (h1 : z < 9223372036854775808) (i : Nat) : Xz .and .i64 (shrV .i64 z i) 1 = if bitI z i then 1 else 0 := by
  have := testV (a := z.toNat) (y := i) (by omega)
  rw [Int.toNat_of_nonneg h0] at this
  exact this
theorem pow8 {n : Nat} (h : n ≤ 8) : (2 : Int) ^ n ≤ 256 ∧ 0 < (2 : Int) ^ n := by
  have : n = 0 ∨ n = 1 ∨ n = 2 ∨ n = 3 ∨ n = 4 ∨ n = 5 ∨ n = 6 ∨ n = 7 ∨ n = 8 := by omega
  rcases this with rfl | rfl | rfl | rfl | rfl | rfl | rfl | rfl | rfl <;> decide
theorem shl1 {n : Nat} (h : n ≤ 62) : shlV .i64 1 n = 2 ^ n := by
  have h2 : 2 ^ n ≤ 2 ^ 62 := Nat.pow_le_pow_right (by decide) h
  have := shlV_nat (a := 1) (y := n) (by omega) (by omega)
  simpa using this

theorem valid_call [Tabs prog] {h : Zd} {v : Value} {xs : List Int} (hv : IntSl h v xs) (hl : xs.length < 9223372036854775808) (hx : ∀ x ∈ xs, -9223372036854775808 ≤ x ∧ x < 9223372036854775808) : APure prog 85 [v] h (.bool (trn xs)) := by
  refine s85_call (by simp) ?_
  simp (maxSteps := 2000000) only [s85, ↓Za, ↓Zg, ↓Zb, ↓Zc, vup, List.map_cons, List.map_nil, cond_true, cond_false, aop, Zf, Zm, ev, sput, Ze, Yj, Yo, Zj, Nat.reduceBEq, tyf, hv.len]
  by_cases h1 : (xs.length : Int) < 1
  · have ht : trn xs = false := by simp [trn]; omega
    simp (maxSteps := 2000000) only [↓Za, ↓Zg, ↓Zv, ↓Zb, ↓Zc, ↓vdn, vup, cond_true, cond_false, aop, Zf, ev, sput, Ze, Nat.reduceBEq, Zr, Wa, tup, h1, ht]
  by_cases h8 : (8 : Int) < xs.length
  · have ht : trn xs = false := by simp [trn]; omega
    simp (maxSteps := 2000000) only [↓Za, ↓Zg, ↓Zv, ↓Zb, ↓Zc, ↓vdn, vup, cond_true, cond_false, aop, Zf, ev, sput, Ze, Yj, Yo, Nat.reduceBEq, Zr, Wa, tup, h1, h8, ht]
  have hp := pow8 (n := xs.length) (by omega)
  simp (maxSteps := 2000000) only [↓Za, ↓Zs, ↓Zg, ↓Zx, ↓Zb, ↓Zc, ↓vdn, vup, List.map_cons, List.map_nil, cond_true, cond_false, aop, Zf, ev, sput, Ze, Yj, Yo, Zj, Nat.reduceBEq, tyf, h1, h8, hv.len, ↓Yw]
  refine Ye fun Q hQ => ?_
  refine Wo (γ := Nat) (fun i => i ≤ xs.length ∧ ∀ k, k < i → okAt xs k = true)
    (fun i => ([(0, v), (2, .bool false), (3, Zh xs.length), (15, v), (16, Zh xs.length), (17, Zh i)], h)) (fun i => xs.length - i) 0 ⟨by omega, fun _ hk => by omega⟩ (by simp (maxSteps := 2000000) only [vup, cond_true, cond_false, Nat.reduceBEq, Int.natCast_zero]) rfl ?_
  rintro i ⟨hi, hok⟩
  refine Wp fun Q2 hQ2 => ?_
  by_cases hin : (i : Int) < xs.length
  · have hin' : i < xs.length := by omega
    have hbad : okAt xs i = false → trn xs = false := fun hb => by
      have : (List.range xs.length).all (okAt xs) = false := by
        rw [List.all_eq_false]; exact ⟨i, by simpa using hin', by simp [hb]⟩
      simp [trn, this]
    obtain ⟨hx1, hx2⟩ := hx (xs.getD i 0) (by rw [List.getD, List.getElem?_eq_getElem hin']; exact List.getElem_mem hin')
    simp (maxSteps := 2000000) only [↓Za, ↓Zs, ↓Zg, ↓Zx, ↓Zb, ↓Zc, ↓vdn, vup, cond_true, cond_false, aop, Zf, ev, sput, Ze, Yj, Yo, Nat.reduceBEq, tyf, l85_1, hin, hv.idx el_131 Xc hin', hv.load Ya hin']
    by_cases hneg : xs.getD i 0 < 0
    · have hb := hbad (by rw [okAt, decide_eq_false (show ¬ 0 ≤ xs.getD i 0 by omega)]; rfl)
      simp (maxSteps := 2000000) only [↓Za, ↓Zg, ↓Zv, ↓Zb, ↓Zc, ↓vdn, vup, cond_true, cond_false, aop, Zf, Zp, ev, sput, Ze, Nat.reduceBEq, hneg]
      refine hQ2 _ _ _ (hQ _ _ _ ?_)
      simp (maxSteps := 2000000) only [vup, cond_true, cond_false, Zf, Zp, Nat.reduceBEq, Zr, Wa, tup, hb]
    simp (maxSteps := 2000000) only [↓Zc, ↓vdn, vup, cond_true, cond_false, aop, ev, sput, Ze, Yj, Yo, Nat.reduceBEq, hneg, shl1 (show xs.length ≤ 62 by omega), Int.natCast_nonneg]
    by_cases hbig : 2 ^ xs.length ≤ xs.getD i 0
    · have hb := hbad (by rw [okAt, decide_eq_false (show ¬ xs.getD i 0 < 2 ^ xs.length from Int.not_lt.2 hbig), Bool.and_false]; rfl)
      simp (maxSteps := 2000000) only [↓Za, ↓Zg, ↓Zv, ↓Zb, ↓Zc, ↓vdn, vup, cond_true, cond_false, aop, Zf, Zp, ev, sput, Ze, Nat.reduceBEq, hbig]
      refine hQ2 _ _ _ (hQ _ _ _ ?_)
      simp (maxSteps := 2000000) only [vup, cond_true, cond_false, Zf, Zp, Nat.reduceBEq, Zr, Wa, tup, hb]
    have hs0 : 0 ≤ xs.getD i 0 := by omega
    have hs1 : xs.getD i 0 < 9223372036854775808 := by omega
    by_cases hbit : bitI (xs.getD i 0) i = true
    · have hb := hbad (by rw [okAt, hbit, Bool.not_true, Bool.and_false]; rfl)
      simp (maxSteps := 2000000) only [↓Za, ↓Zg, ↓Zv, ↓Zb, ↓Zc, ↓vdn, vup, cond_true, cond_false, aop, Zf, Zp, ev, sput, Ze, Yj, Yo, Nat.reduceBEq, Int.reduceBEq, hbig, Int.natCast_nonneg, testI hs0 hs1, hbit, if_true, Int.reduceBEq]
      refine hQ2 _ _ _ (hQ _ _ _ ?_)
      simp (maxSteps := 2000000) only [vup, cond_true, cond_false, Zf, Zp, Nat.reduceBEq, Zr, Wa, tup, hb]
    simp only [Bool.not_eq_true] at hbit
    simp (maxSteps := 2000000) only [↓Za, ↓Zs, ↓Zg, ↓Zx, ↓Zb, ↓Zc, ↓vdn, vup, cond_true, cond_false, aop, Zf, ev, sput, Ze, Yj, Yo, Nat.reduceBEq, Int.reduceBEq, hbig, Int.natCast_nonneg, testI hs0 hs1, hbit, if_false, Bool.false_eq_true, Int.reduceBEq, ↓Yw]
    refine Ye fun Q3 hQ3 => ?_
    refine Wo (γ := Nat) (fun j => j ≤ i ∧ ∀ k, k < j → (bitI (xs.getD i 0) k != bitI (xs.getD k 0) i) = true)
      (fun j => ([(0, v), (2, .bool false), (3, Zh xs.length), (4, Zh i), (5, Zh (xs.getD i 0)), (15, v), (16, Zh xs.length), (17, Zh i), (37, Zh i), (38, Zh j)], h)) (fun j => i - j) 0 ⟨by omega, fun _ hk => by omega⟩ (by simp (maxSteps := 2000000) only [vup, cond_true, cond_false, Nat.reduceBEq, Int.natCast_zero]) rfl ?_
    rintro j ⟨hj, hokj⟩
    refine Wp fun Q4 hQ4 => ?_
    by_cases hji : (j : Int) < i
    · have hji' : j < i := by omega
      have hjn : j < xs.length := by omega
      have hoj := hok j hji'
      have hoj' := hoj
      rw [okAt, Bool.and_eq_true, Bool.and_eq_true, Bool.and_eq_true, decide_eq_true_eq, decide_eq_true_eq] at hoj'
      have ht0 : 0 ≤ xs.getD j 0 := hoj'.1.1.1
      have ht1 : xs.getD j 0 < 9223372036854775808 := by have := hoj'.1.1.2; omega
      simp (maxSteps := 2000000) only [↓Za, ↓Zs, ↓Zg, ↓Zx, ↓Zb, ↓Zc, ↓vdn, vup, cond_true, cond_false, aop, Zf, ev, sput, Ze, Yj, Yo, Nat.reduceBEq, l85_0, hji]
      refine aw_draw [] (by kernel_rfl) (by kernel_rfl) (by kernel_rfl) ?_
      by_cases heq : (bitI (xs.getD i 0) j == bitI (xs.getD j 0) i) = true
      · have hb := hbad (by
          have : ((List.range i).all fun j => bitI (xs.getD i 0) j != bitI (xs.getD j 0) i) = false := by
            rw [List.all_eq_false]; exact ⟨j, List.mem_range.2 hji', by rw [bne, heq]; decide⟩
          rw [okAt, this, Bool.and_false])
        simp (maxSteps := 2000000) only [↓Za, ↓Zg, ↓Zv, ↓Zb, ↓Zc, ↓dops_nil, ↓vdn, vup, cond_true, cond_false, aop, Zf, Zp, ev, sput, Ze, Yj, Yo, Nat.reduceBEq, tyf, Int.natCast_nonneg, testI hs0 hs1, testI ht0 ht1, hv.idx el_131 Xc hjn, hv.load Ya hjn, beq01, heq]
        refine hQ4 _ _ _ (hQ3 _ _ _ ?_)
        simp (maxSteps := 2000000) only [Zf, Zp]
        refine hQ2 _ _ _ (hQ _ _ _ ?_)
        simp (maxSteps := 2000000) only [vup, cond_true, cond_false, Zf, Zp, Nat.reduceBEq, Zr, Wa, tup, hb]
      · simp only [Bool.not_eq_true] at heq
        simp (maxSteps := 2000000) only [↓Za, ↓Zs, ↓Zb, ↓Zc, ↓dops_nil, ↓vdn, vup, cond_true, cond_false, aop, Zf, Zp, ev, sput, Ze, Yj, Yo, Nat.reduceBEq, tyf, Int.natCast_nonneg, testI hs0 hs1, testI ht0 ht1, hv.idx el_131 Xc hjn, hv.load Ya hjn, beq01, heq, add1 (show j < 9223372036854775807 by omega)]
        refine hQ4 _ _ _ ⟨j + 1, ⟨by omega, fun k hk => ?_⟩, by omega, by simp (maxSteps := 2000000) only [vup, cond_true, cond_false, Nat.reduceBEq], rfl⟩
        by_cases hkj : k = j
        · subst hkj; rw [bne, heq]; rfl
        · exact hokj k (by omega)
    · obtain rfl : j = i := by omega
      simp (maxSteps := 2000000) only [↓Za, ↓Zg, ↓Xa, ↓Zb, ↓Zc, ↓vdn, vup, cond_true, cond_false, aop, Zf, ev, sput, Ze, Yj, Yo, Nat.reduceBEq, l85_0, Int.lt_irrefl]
      refine hQ4 _ _ _ (hQ3 _ _ _ ?_)
      simp (maxSteps := 2000000) only [↓Za, ↓Zb, ↓Zc, vup, cond_true, cond_false, aop, Zf, Zp, ev, sput, Ze, Yj, Yo, Nat.reduceBEq, if_true, add1 (show j < 9223372036854775807 by omega)]
      refine hQ2 _ _ _ ⟨j + 1, ⟨by omega, fun k hk => ?_⟩, by omega, by simp (maxSteps := 2000000) only [vup, cond_true, cond_false, Nat.reduceBEq], rfl⟩
      by_cases hkj : k = j
      · subst hkj
        have : ((List.range k).all fun j => bitI (xs.getD k 0) j != bitI (xs.getD j 0) k) = true := by
          rw [List.all_eq_true]; exact fun j hj => hokj j (List.mem_range.1 hj)
        rw [okAt, decide_eq_true hs0, decide_eq_true (Int.not_le.1 hbig), hbit, this]; rfl
      · exact hok k (by omega)
  · obtain rfl : i = xs.length := by omega
    have ht : trn xs = true := by simp only [trn, Bool.and_eq_true, decide_eq_true_eq, List.all_eq_true, List.mem_range]; exact ⟨⟨by omega, by omega⟩, hok⟩
    simp (maxSteps := 2000000) only [↓Za, ↓Zg, ↓Xa, ↓Zb, ↓Zc, ↓vdn, vup, cond_true, cond_false, aop, Zf, ev, sput, Ze, Yj, Yo, Nat.reduceBEq, l85_1, Int.lt_irrefl]
    refine hQ2 _ _ _ (hQ _ _ _ ?_)
    simp (maxSteps := 2000000) only [↓Za, ↓Zg, ↓Zv, ↓Zb, ↓Zc, vup, cond_true, cond_false, aop, Zf, Zp, ev, sput, Ze, Nat.reduceBEq, Zr, Wa, tup, if_true, ht]

end Go.Proofs.Tryd.Am.Ra

namespace Go.Proofs.Tryd.Am.Ra
open Go.Proofs.Tryd.Am
open Go.Am

theorem beats_call [Tabs prog] {h : Zd} {v : Value} {xs : List Int} (hv : IntSl h v xs) {i j : Nat} (hi : i < xs.length) (h0 : 0 ≤ xs.getD i 0) (h1 : xs.getD i 0 < 9223372036854775808) :
    APure prog 130 [v, Zh i, Zh j] h (.bool (bitI (xs.getD i 0) j)) := by
  refine s130_call (by simp) ?_
  simp (maxSteps := 2000000) only [s130, ↓Za, ↓Zg, ↓Zv, ↓Zb, ↓Zc, vup, cond_true, cond_false, aop, Zf, Zm, ev, sput, Ze, Yj, Yo, Nat.reduceBEq, Nat.reduceAdd, Zr, Wa, tup, tyf, hv.idx el_131 Xc hi, hv.load Ya hi, Int.natCast_nonneg, testI h0 h1, beq1]

theorem players_call [Tabs prog] {h : Zd} {s : Int} : ACall prog 129 [Zh s] h fun r h' => r = .func (.func 152) #[] #[Xi h] ∧ h' = h ++ [.cells [Zh s] 3 false] := by
  refine s129_call (by simp) ?_
  simp (maxSteps := 2000000) only [s129, ↓Za, ↓Zg, ↓Zv, ↓Zb, ↓Zc, vup, List.map_cons, List.map_nil, cond_true, cond_false, aop, Zf, Zm, ev, sput, Ze, Nat.reduceBEq, Zr, Wa, tup, tyf, boxK, cellsOf, Option.isSome_some, List.map_toArray]

end Go.Proofs.Tryd.Am.Ra

namespace Go.Proofs.Tryd
open Go.RowKit Go.Am

set_option maxHeartbeats 1000000 in
theorem tz64_core (x k idx : Nat) (w : World) (hx0 : ((x : Int) == 0) = false)
    (key : IntKind.u64.wrap (bits BinOp.and IntKind.u64 (x : Int) (IntKind.u64.wrap (-(x : Int))) * 285870213051353865) / 288230376151711744 = (idx : Int))
    (hi : idx < 64) (hk : k < 64) (hcell : w.cell? ⟨0, idx, none⟩ = some (.int .u8 k)) :
    Calls prog 98 #[.int .u64 x] w fun e w' => e = .returned (.int .i64 k) ∧ w' = w := by
  go_enter func98, ntmps98
  go_wp2_with (simp only [key])
  go_ret
  exact ⟨rfl, rfl⟩

theorem tz64_zero (w : World) : Calls prog 98 #[.int .u64 0] w fun e w' => e = .returned (.int .i64 64) ∧ w' = w := by
  go_enter func98, ntmps98
  go_wp2
  go_ret
  exact ⟨rfl, rfl⟩
theorem tz64 (x : Nat) (hx : x < 18446744073709551616) (w : World) (hT : x ≠ 0 → TabAt 0 Lib.deBruijn64tab w) :
    Calls prog 98 #[.int .u64 x] w fun e w' => e = .returned (.int .i64 (Lib.ctz 64 x)) ∧ w' = w := by
  by_cases hx0 : x = 0
  · subst hx0; exact tz64_zero w
  · obtain ⟨hlow, hk⟩ := Lib.lowest_bit 64 x hx0 hx
    obtain ⟨hi, htab⟩ := Lib.deBruijn64_at _ hk
    have hcell := hT hx0 _ hi
    rw [htab] at hcell
    exact tz64_core x _ _ w (by simp; omega) (tz64_key x _ hx hx0 hlow) hi hk hcell
theorem tz (x : Nat) (hx : x < 18446744073709551616) (w : World) (hT : x ≠ 0 → TabAt 0 Lib.deBruijn64tab w) :
    Calls prog 137 #[.int .u64 x] w fun e w' => e = .returned (.int .i64 (Lib.ctz 64 x)) ∧ w' = w := by
  have c64 := tz64 x hx w hT
  have e29 : ∀ args w, (callFunc 98 args).run prog w = .ok (.enter 98 args) w := enters_of func98 (by kernel_rfl) rfl
  have hw : IntKind.u64.wrap (x : Int) = (x : Int) := by rw [IntKind.wrap_u64]; omega
  go_enter func137, ntmps137
  go_wp2_with (go_at_fn 98; refine c64.mono ?_; rintro e w' ⟨rfl, hw'⟩; rw [hw'])
  go_ret
  exact ⟨rfl, rfl⟩

theorem and_pred_lt (s : Nat) (h : s ≠ 0) : s &&& (s - 1) < s := Nat.lt_of_le_of_lt Nat.and_le_right (by omega)

/-- What is left of a set, in its box. -/
def boxLeft (B : Nat) (w : World) : Nat := match w.cell? ⟨B, 0, none⟩ with | some (.int _ n) => n.toNat | _ => 0
theorem boxLeft_eq {B s : Nat} {w : World} (h : w.cell? ⟨B, 0, none⟩ = some (.int .i64 s)) : boxLeft B w = s := by simp [boxLeft, h]

attribute [local go_sem] Oper.semAt_some

set_option maxRecDepth 100000 in
set_option maxHeartbeats 2000000 in
theorem players1 (l B s : Nat) (J Jx : List Nat → World → Prop) (W : World) (hs : s < 9223372036854775808) (hB : W.cell? ⟨B, 0, none⟩ = some (.int .i64 s)) (hfz : W.frozen? ⟨B, 0, none⟩ = false)
    (hT : ∀ pre W, J pre W → TabAt 0 Lib.deBruijn64tab W)
    (hst : ∀ pre W v, J pre W → J pre (W.setCell ⟨B, 0, none⟩ v))
    (hY : ∀ pre (x : Nat) W, J pre W → pre ++ [x] <+: Am.bits s → YieldAt Fence.wide 0 prog l #[.int .i64 x] W fun en W' =>
      (en = .returned (.bool true) ∧ J (pre ++ [x]) W' ∧ W'.cell? ⟨B, 0, none⟩ = W.cell? ⟨B, 0, none⟩ ∧ W'.frozen? ⟨B, 0, none⟩ = W.frozen? ⟨B, 0, none⟩) ∨ (en = .returned (.bool false) ∧ Jx (pre ++ [x]) W'))
    (h0 : J [] W) :
    CallsIn Fence.wide 1 prog 152 #[.func (.yield l) #[] #[], .pointer (some ⟨B, 0, none⟩)] W fun en W' => (∃ v, en = .returned v) ∧ (J (Am.bits s) W' ∨ ∃ pre, Jx pre W') := by
  refine callsIn_of_wp func152 rfl trivial ?_ rfl
  simp only [ntmps152, List.size_toArray, List.length_cons, List.length_nil, Nat.reduceAdd, Nat.reduceSub, Array.replicate_succ, Array.replicate_zero, List.push_toArray, List.append_toArray, List.nil_append, List.cons_append]
  have e94 : ∀ args w, (callFunc 137 args).run prog w = .ok (.enter 137 args) w := enters_of func137 (by kernel_rfl) rfl
  gi_wp2
  gi_loopw [3] (fun _ wr => ∃ (pre : List Nat) (t : Nat), t < 9223372036854775808 ∧ Am.bits s = pre ++ Am.bits t ∧ wr.cell? ⟨B, 0, none⟩ = some (.int .i64 t) ∧ wr.frozen? ⟨B, 0, none⟩ = false ∧ J pre wr)
    (fun _ wr => boxLeft B wr)
  case atStart => exact ⟨[], s, hs, rfl, hB, hfz, h0⟩
  case round =>
    obtain ⟨pre, t, ht, hx, hc, hf, hJ⟩ := hrel
    by_cases ht0 : t = 0
    · subst ht0
      gi_wp2
      go_end0
      exact ⟨⟨_, rfl⟩, .inl (by rw [hx, show Am.bits 0 = [] from rfl, List.append_nil]; exact hJ)⟩
    · have hw : IntKind.u64.wrap (t : Int) = (t : Int) := by rw [IntKind.wrap_u64]; omega
      have htz := tz t (by omega) wr (fun _ => hT _ _ hJ)
      have hy := hY pre (Lib.ctz 64 t) wr hJ (by rw [hx, Am.bits_step t ht ht0]; simp)
      have hne : ((t : Int) == 0) = false := by simpa using ht0
      have htz' : CallsIn Fence.wide 0 prog 137 #[.int .u64 t] wr fun e w' => e = .returned (.int .i64 (Lib.ctz 64 t)) ∧ w' = wr := callsIn_wide.2 htz
      obtain ⟨fn, tmps, assign, body, hy1, hR⟩ := hy
      gi_wp2
      refine ⟨trivial, htz'.mono ?_⟩
      rintro e w2 ⟨rfl, rfl⟩
      gi_wp2
      refine hR.mono ?_
      rintro e W3 (⟨rfl, hJ3, hc3, hf3⟩ | ⟨rfl, hJx3⟩)
      · rw [hc] at hc3
        rw [hf] at hf3
        gi_wp2
        have hand : bits BinOp.and IntKind.i64 (t : Int) ((t : Int) - 1) = ((t &&& (t - 1) : Nat) : Int) := by
          have := bitsV_and (a := t) (b := t - 1) ht (by omega)
          rw [← this, show ((t - 1 : Nat) : Int) = (t : Int) - 1 by omega]; rfl
        have hlt := and_pred_lt t ht0
        rw [hand]
        have hcell : (W3.setCell ⟨B, 0, none⟩ (.int .i64 ((t &&& (t - 1) : Nat) : Int))).cell? ⟨B, 0, none⟩ = some (.int .i64 ((t &&& (t - 1) : Nat) : Int)) := World.cell?_setCell_same' _ _ _ (by rw [hc3]; rfl)
        refine ⟨⟨_, _, _, _, _, _, _, _, _, _, _, _, ⟨pre ++ [Lib.ctz 64 t], t &&& (t - 1), by omega, by rw [hx, Am.bits_step t ht ht0]; simp, hcell, by rw [World.frozen?_setCell]; exact hf3, hst _ _ _ hJ3⟩, rfl⟩, ?_⟩
        rw [boxLeft_eq hcell, boxLeft_eq hc]
        exact hlt
      · gi_wp2
        refine bodyPost_ret (results_none rfl _ _ _) rfl ?_
        exact ⟨⟨_, rfl⟩, .inr ⟨_, hJx3⟩⟩

theorem tabAt_of [T : BitTab prog 0] {w : World} (h : ∀ p ∈ Tabs.tabs prog, w.heap[p.1]? = some p.2) : TabAt 0 Lib.deBruijn64tab w := by
  intro j hj
  have := h (0, _) (by rw [T.eq]; exact List.mem_singleton.2 rfl)
  simp only [World.cell?, this]
  simp [hj]

theorem bitIter [BitTab prog 0] : BitIter prog 152 := by
  refine ⟨enters_of func152 (by kernel_rfl) rfl, ?_⟩
  intro r l B s J Jx W hs hB hfz hT hst hY h0
  cases r with
  | none => exact players1 l B s J Jx W hs hB hfz (fun pre W hJ => tabAt_of (hT pre W hJ)) hst hY h0
  | some l0 => exact CallsIn.inRound l0 (players1 l B s J Jx W hs hB hfz (fun pre W hJ => tabAt_of (hT pre W hJ)) hst hY h0)
#print axioms bitIter
end Go.Proofs.Tryd

namespace Go.Proofs.Tryd.Am.Ra
open Go.Proofs.Tryd.Am
open Go.Am
set_option maxRecDepth 100000

/-- The first way that goes on from cur through players of a set. -/
def grow (xs : List Int) (size : Nat) (is : List Int → Bool) : Nat → List Int → Nat → Option (List Int)
  | 0, _, _ => none
  | n + 1, cur, left => if cur.length = size then (if is cur then some cur else none) else
    firstOf (fun (i : Nat) => if cur ≠ [] ∧ bitI (xs.getD (cur.getD (cur.length - 1) 0).toNat 0) i = false then none else grow xs size is n (cur ++ [(i : Int)]) (less left (2 ^ i))) (Am.bits left)

/-- The search under way: the blocks I lie as in h0; l's box holds lv, a slice of our own that reads cur. -/
structure GS (I : Nat → Prop) (h0 : Zd) (bl : Nat) (h : Zd) (lv : Value) (cur : List Int) : Prop where
  len : h0.length ≤ h.length
  keep : ∀ i, I i → h[i]? = h0[i]?
  l : h[bl]? = some (.cells [lv] 27 false)
  own : OwnSl 3 h lv cur
  nl : ¬ I bl
  apart : ∀ b, Zw lv = some b → ¬ I b ∧ b ≠ bl
  low : ∀ i, I i → i < h0.length

/-- More blocks: the search stands as it stood. -/
theorem GS.app {I : Nat → Prop} {h0 h : Zd} {bl : Nat} {lv : Value} {cur : List Int} (s : GS I h0 bl h lv cur) (g : Zd) : GS I h0 bl (h ++ g) lv cur where
  len := by have := s.len; simp; omega
  keep i hi := by rw [List.getElem?_append_left (Nat.lt_of_lt_of_le (s.low i hi) s.len)]; exact s.keep i hi
  l := Xw s.l g
  own := s.own.ext (S := fun _ => False) (Ext.app _ _ _) (fun _ _ h => h)
  nl := s.nl
  apart := s.apart
  low := s.low

/-- A heap that turned elsewhere: the search stands as it stood. -/
theorem GS.ext {I : Nat → Prop} {h0 h h' : Zd} {bl : Nat} {lv : Value} {cur : List Int} {S : Nat → Prop} (s : GS I h0 bl h lv cur) (hx : Ext S h h') (h1 : ∀ i, I i → ¬ S i) (h2 : ¬ S bl) (h3 : ∀ b, Zw lv = some b → ¬ S b) : GS I h0 bl h' lv cur where
  len := Nat.le_trans s.len hx.1
  keep i hi := (hx.2 i (Nat.lt_of_lt_of_le (s.low i hi) s.len) (h1 i hi)).trans (s.keep i hi)
  l := (hx.2 bl (Zt s.l) h2).trans s.l
  own := s.own.ext hx h3
  nl := s.nl
  apart := s.apart
  low := s.low

/-- A run of the function literal under way: its boxes (left, the answer) stand at the end of the heap h that it found. -/
structure RS (I : Nat → Prop) (h0 : Zd) (bl : Nat) (h : Zd) (lv0 : Value) (left : Nat) (res : Bool) (h' : Zd) (lv : Value) (cur : List Int) : Prop where
  gs : GS I h0 bl h' lv cur
  low : h0.length ≤ h.length
  lt : bl < h.length
  bx : h'[h.length]? = some (.cells [Zh left] 3 false)
  rs : h'[h.length + 1]? = some (.cells [.bool res] 4 false)
  ext : Ext (fun i => i = bl ∨ Zw lv0 = some i) h h'
  blk : Zw lv = Zw lv0 ∨ ∃ b, Zw lv = some b ∧ h.length ≤ b

section
variable {I : Nat → Prop} {h0 h h' h1 : Zd} {bl left : Nat} {lv0 lv lv' : Value} {cur cur' : List Int} {res : Bool}
theorem RS.of (s : GS I h0 bl h lv cur) : RS I h0 bl h lv left res (h ++ [.cells [Zh left] 3 false] ++ [.cells [.bool res] 4 false]) lv cur where
  gs := by rw [List.append_assoc]; exact s.app _
  low := s.len
  lt := Zt s.l
  bx := by simp
  rs := by simp
  ext := by rw [List.append_assoc]; exact Ext.app _ _ _
  blk := .inl rfl
/-- A step that keeps the boxes, and touches but the list. -/
theorem RS.go (s : RS I h0 bl h lv0 left res h' lv cur) (g : GS I h0 bl h1 lv' cur') (hx : Ext (fun i => i = bl ∨ Zw lv = some i) h' h1) (hb : Zw lv' = Zw lv ∨ ∃ b, Zw lv' = some b ∧ h'.length ≤ b) : RS I h0 bl h lv0 left res h1 lv' cur' where
  gs := g
  low := s.low
  lt := s.lt
  bx := by
    rw [hx.2 _ (Zt s.bx) (by rintro (h | h); exact absurd s.lt (by omega); exact s.gs.own.notCells s.bx h)]; exact s.bx
  rs := by
    rw [hx.2 _ (Zt s.rs) (by rintro (h | h); exact absurd s.lt (by omega); exact s.gs.own.notCells s.rs h)]; exact s.rs
  ext := ⟨Nat.le_trans s.ext.1 hx.1, fun i hi hs => by
    rw [hx.2 i (Nat.lt_of_lt_of_le hi s.ext.1), s.ext.2 i hi hs]
    rintro (rfl | h)
    · exact hs (.inl rfl)
    · rcases s.blk with h2 | ⟨b, h2, h3⟩
      · exact hs (.inr (h2 ▸ h))
      · rw [h2] at h; cases h; omega⟩
  blk := by
    have := s.ext.1
    rcases hb with h | ⟨b, h, h2⟩
    · rw [h]; exact s.blk
    · exact .inr ⟨b, h, by omega⟩
theorem RS.app (s : RS I h0 bl h lv0 left res h' lv cur) (g : Zd) : RS I h0 bl h lv0 left res (h' ++ g) lv cur := s.go (s.gs.app g) (Ext.app _ _ _) (.inl rfl)
/-- A block of no concern turns. -/
theorem RS.else (s : RS I h0 bl h lv0 left res h' lv cur) {j : Nat} {B : Blk} (hj : h.length + 2 ≤ j) (hl : Zw lv ≠ some j) : RS I h0 bl h lv0 left res (h'.set j B) lv cur := by
  have hlen := s.low
  have hext := s.ext.1
  have hx : Ext (fun i => i = j) h' (h'.set j B) := Ext.set _ rfl
  have hbl := s.lt
  refine ⟨s.gs.ext hx (fun i hi he => by have := s.gs.low i hi; omega) (by omega) (fun b hb he => hl (he ▸ hb)), s.low, s.lt, by rw [List.getElem?_set_ne (by omega)]; exact s.bx, by rw [List.getElem?_set_ne (by omega)]; exact s.rs, ?_, s.blk⟩
  exact ⟨by simp; exact hext, fun i hi hs => by rw [List.getElem?_set_ne (by omega)]; exact s.ext.2 i hi hs⟩
theorem RS.box (s : RS I h0 bl h lv0 left res h' lv cur) {i : Nat} {B : Blk} (hi : I i) (hb : h0[i]? = some B) : h'[i]? = some B := (s.gs.keep i hi).trans hb
end

end Go.Proofs.Tryd.Am.Ra

namespace Go.Proofs.Tryd.Am.Ra
open Go.Proofs.Tryd.Am
open Go.Am
set_option maxRecDepth 100000

theorem Yf {h h' : Zd} {v : Value} {xs : List Int} (hv : IntSl h v xs) (he : Ext (fun _ => False) h h') : IntSl h' v xs := hv.same fun b hb => he.2 b (hv.lt hb) id

end Go.Proofs.Tryd.Am.Ra

namespace Go.Proofs.Tryd.Am.Ra
open Go.Proofs.Tryd.Am
open Go.Am
set_option maxRecDepth 100000
set_option maxHeartbeats 1000000

theorem bits_range {s n : Nat} (hs : s < 2 ^ n) (hn : n ≤ 64) : Am.bits s = (List.range n).filter fun i => s.testBit i := by
  obtain ⟨d, hd⟩ : ∃ d, 64 = n + d := ⟨64 - n, by omega⟩
  unfold Am.bits
  rw [hd, List.range_add, List.filter_append]
  have : List.filter (fun i => s.testBit i) (List.map (fun x => n + x) (List.range d)) = [] := by
    rw [List.filter_eq_nil_iff]
    intro i hi
    obtain ⟨j, _, rfl⟩ := List.mem_map.1 hi
    rw [Nat.testBit_lt_two_pow (Nat.lt_of_lt_of_le hs (Nat.pow_le_pow_right (by decide) (by omega)))]; simp
  rw [this, List.append_nil]

end Go.Proofs.Tryd.Am.Ra

namespace Go.Proofs.Tryd.Am.Ra
open Go.Proofs.Tryd.Am
open Go.Am Redei

/-- y beats x. -/
def bt (xs : List Int) (x y : Nat) : Bool := bitI (xs.getD y 0) x

/-- Each beats the next. -/
def chain (xs : List Int) (l : List Int) : Prop := ∀ k, k + 1 < l.length → bitI (xs.getD (l.getD k 0).toNat 0) (l.getD (k + 1) 0).toNat = true

end Go.Proofs.Tryd.Am.Ra

namespace Rb
section
variable {v : Nat → Nat}
/-- What a run keeps that takes each better one. -/
def keep {α : Type} (v : Nat → Nat) (p : Nat → α) (st : Nat × α) (i : Nat) : Nat × α := if v i < st.1 then (v i, p i) else st
end

/-- Who is not in a set. -/
def fr (n s : Nat) : List Nat := (List.range n).filter fun i => !s.testBit i
theorem mem_fr {n s i : Nat} : i ∈ fr n s ↔ i < n ∧ s.testBit i = false := by simp [fr]
theorem testBit_put {s i x : Nat} : (s ||| 2 ^ i).testBit x = (s.testBit x || decide (i = x)) := by rw [Nat.testBit_or, Nat.testBit_two_pow]
theorem fr_put {n s i : Nat} (hi : i ∈ fr n s) : (fr n (s ||| 2 ^ i)).length + 1 = (fr n s).length := by
  have h : ∀ (l : List Nat), l.Nodup → (l.filter fun x => !(s ||| 2 ^ i).testBit x).length + (if i ∈ l ∧ s.testBit i = false then 1 else 0) = (l.filter fun x => !s.testBit x).length := by
    intro l
    induction l with
    | nil => intro _; simp
    | cons x l ih =>
      intro hn
      have hn' := List.nodup_cons.1 hn
      have := ih hn'.2
      by_cases hx : i = x
      · subst hx
        have h1 : ¬ (i ∈ l ∧ s.testBit i = false) := fun h => hn'.1 h.1
        rw [if_neg h1] at this
        cases hb : s.testBit i with
        | true => simp [hb] at this ⊢; exact this
        | false => simp [hb] at this ⊢; omega
      · have e : (s ||| 2 ^ i).testBit x = s.testBit x := by rw [testBit_put]; simp [hx]
        have h2 : (i ∈ x :: l ∧ s.testBit i = false) ↔ (i ∈ l ∧ s.testBit i = false) := by simp [hx]
        by_cases hp : i ∈ l ∧ s.testBit i = false
        · rw [if_pos hp] at this
          rw [if_pos (h2.2 hp), List.filter_cons, List.filter_cons, e]
          split <;> (try simp only [List.length_cons]) <;> omega
        · rw [if_neg hp] at this
          rw [if_neg (fun h => hp (h2.1 h)), List.filter_cons, List.filter_cons, e]
          split <;> (try simp only [List.length_cons]) <;> omega
  have := h (List.range n) List.nodup_range
  have hm := mem_fr.1 hi
  rw [if_pos ⟨List.mem_range.2 hm.1, hm.2⟩] at this
  exact this
theorem put_lt {n s i : Nat} (hs : s < 2 ^ n) (hi : i < n) : s ||| 2 ^ i < 2 ^ n := Nat.or_lt_two_pow hs (Nat.pow_lt_pow_right (by decide) hi)

section
variable (c : Nat → Nat → Nat) (n : Nat)
variable {c n}
end
end Rb

namespace Go.Proofs.Tryd.Am.Ra
open Go.Proofs.Tryd.Am
open Go.Am Redei Rb
set_option maxRecDepth 100000
set_option maxHeartbeats 1000000

theorem bitsLen (s : Nat) : (Am.bits s).length = (List.range 64).countP s.testBit := by rw [Am.bits, List.countP_eq_length_filter]
/-- How many a set has below n, and how many it lacks. -/
theorem bits_fr {n s : Nat} (hs : s < 2 ^ n) (hn : n ≤ 64) : (Am.bits s).length + (fr n s).length = n := by
  have h1 : ∀ d, (List.range (n + d)).countP s.testBit = (List.range n).countP s.testBit := by
    intro d
    induction d with
    | zero => rfl
    | succ d ih =>
      rw [← Nat.add_assoc, List.range_succ, List.countP_append, ih]
      have : s.testBit (n + d) = false := Nat.testBit_lt_two_pow (Nat.lt_of_lt_of_le hs (Nat.pow_le_pow_right (by decide) (Nat.le_add_right n d)))
      simp [this]
  have h2 := h1 (64 - n)
  rw [show n + (64 - n) = 64 by omega] at h2
  rw [bitsLen, h2, fr, ← List.countP_eq_length_filter]
  have := List.length_eq_countP_add_countP (p := s.testBit) (l := List.range n)
  rw [List.length_range] at this
  have e : (List.range n).countP (fun a => !s.testBit a) = (List.range n).countP fun a => decide (¬ s.testBit a = true) := List.countP_congr fun x _ => by simp
  rw [e]
  exact this.symm
theorem bits_put {n s y : Nat} (hn : n ≤ 64) (hs : s < 2 ^ n) (hy : y < n) : (Am.bits (s ||| 2 ^ y)).length = (Am.bits s).length + if s.testBit y = true then 0 else 1 := by
  cases hb : s.testBit y with
  | true =>
    have : s ||| 2 ^ y = s := by
      apply Nat.eq_of_testBit_eq
      intro i
      rw [Nat.testBit_or, Nat.testBit_two_pow]
      by_cases h : y = i
      · subst h; simp [hb]
      · simp [h]
    rw [this]; rfl
  | false =>
    have h1 := bits_fr hs hn
    have h2 := bits_fr (put_lt hs hy) hn
    have h3 := fr_put (mem_fr.2 ⟨hy, hb⟩)
    simp
    omega
end Go.Proofs.Tryd.Am.Ra

namespace Go.Proofs.Tryd.Am.Ra
open Go.Proofs.Tryd.Am
open Go.Am
set_option maxRecDepth 100000
set_option maxHeartbeats 1000000

/-! How many elements a set has, as the library counts. -/
def oc1 (x : Int) : Int := addV .u64 (Xz .and .u64 (shrV .u64 x 1) 6148914691236517205) (Xz .and .u64 x 6148914691236517205)
def oc2 (x : Int) : Int := addV .u64 (Xz .and .u64 (shrV .u64 x 2) 3689348814741910323) (Xz .and .u64 x 3689348814741910323)
def oc3 (x : Int) : Int := Xz .and .u64 (addV .u64 (shrV .u64 x 4) x) 1085102592571150095
def oc4 (x : Int) : Int := addV .u64 x (shrV .u64 x 8)
def oc5 (x : Int) : Int := addV .u64 x (shrV .u64 x 16)
def oc6 (x : Int) : Int := addV .u64 x (shrV .u64 x 32)
def ocA (x : Int) : Int := Xz .and .i64 (IntKind.i64.wrap (oc6 (oc5 (oc4 (oc3 (oc2 (oc1 x))))))) 127
theorem oc_tab : (List.range 256).all (fun x => decide (ocA (x : Int) = (((Am.bits x).length : Nat) : Int))) = true := by kernel_rfl
theorem ones_call [Tabs prog] {h : Zd} {x : Nat} (hx : x < 256) : APure prog 99 [.int .u64 (x : Int)] h (Zh ((Am.bits x).length : Nat)) := by
  have hoc : ocA (x : Int) = (((Am.bits x).length : Nat) : Int) := of_decide_eq_true (List.all_eq_true.1 oc_tab x (List.mem_range.2 hx))
  refine s99_call (by simp) ?_
  simp (maxSteps := 2000000) only [s99, ↓Za, ↓Zg, ↓Zv, ↓Zb, ↓Zc, vup, cond_true, cond_false, aop, Zf, Zm, ev, sput, Ze, Yj, Yo, Nat.reduceBEq, Zr, Wa, tup, tyf, convK, Int.reduceLE]
  exact congrArg (fun z : Int => Zh z) hoc
theorem count_call [Tabs prog] {h : Zd} {x : Nat} (hx : x < 256) : APure prog 84 [Zh x] h (Zh ((Am.bits x).length : Nat)) := by
  have hw : IntKind.u64.wrap ((x : Nat) : Int) = (x : Int) := by simp [IntKind.wrap, IntKind.signed, IntKind.bits]; omega
  refine s84_call (by simp) ?_
  simp (maxSteps := 2000000) only [s84, ↓Za, ↓Zg, ↓Zv, ↓Zb, ↓Zc, vup, List.map_cons, List.map_nil, cond_true, cond_false, aop, Zf, Zm, ev, sput, Ze, Nat.reduceBEq, Zr, Wa, tup, tyf, convK, hw, Yq, List.nil_append, List.append_nil]
  refine s128_call (by simp) ?_
  simp (maxSteps := 2000000) only [s128, ↓Za, ↓Zg, ↓Zb, ↓Zc, vup, cond_false, aop, Zf, Zm, ev, sput, Ze, Nat.reduceBEq]
  refine ⟨false, rfl, fun h => (by cases h), fun _ => ?_⟩
  simp (maxSteps := 2000000) only [↓Za, ↓Zs, ↓Zg, ↓Zv, ↓Zb, ↓Zc, vup, List.map_cons, List.map_nil, cond_true, cond_false, aop, Zf, ev, sput, Ze, Nat.reduceBEq, Zr, Wa, tup, Yq, List.nil_append, List.append_nil]
  refine (ones_call hx).mono ?_
  rintro _ h ⟨rfl, rfl⟩
  simp (maxSteps := 2000000) only [vup]

end Go.Proofs.Tryd.Am.Ra

namespace Go.Proofs.Tryd.Am.Ra
open Go.Proofs.Tryd.Am
open Go.Am
set_option maxRecDepth 100000
set_option maxHeartbeats 1000000

theorem trn_nat {xs : List Int} (h : trn xs = true) {i : Nat} (hi : i < xs.length) : xs.getD i 0 = ((xs.getD i 0).toNat : Int) ∧ (xs.getD i 0).toNat < 2 ^ xs.length := by
  simp only [trn, Bool.and_eq_true, decide_eq_true_eq, List.all_eq_true, List.mem_range] at h
  have h2 := h.2 i hi
  rw [okAt, Bool.and_eq_true, Bool.and_eq_true, Bool.and_eq_true, decide_eq_true_eq, decide_eq_true_eq] at h2
  have h3 := h2.1.1.1
  have h4 := h2.1.1.2
  have e : ((2 ^ xs.length : Nat) : Int) = 2 ^ xs.length := by simp
  refine ⟨(Int.toNat_of_nonneg h3).symm, ?_⟩
  rw [← Int.toNat_of_nonneg h3, ← e] at h4
  exact Int.ofNat_lt.1 h4

end Go.Proofs.Tryd.Am.Ra

namespace Go.Proofs.Tryd.Am.Ra
open Go.Proofs.Tryd.Am
open Go.Am Redei Rb
set_option maxRecDepth 100000
set_option maxHeartbeats 1000000

theorem pow8N {n : Nat} (h : n ≤ 8) : 2 ^ n ≤ 256 := Nat.pow_le_pow_right (n := 2) (by decide) h
theorem shlI1 {n : Nat} (h : n ≤ 62) : shlV .i64 1 (n : Int) = ((2 ^ n : Nat) : Int) := by
  have h2 : 2 ^ n ≤ 2 ^ 62 := Nat.pow_le_pow_right (by decide) h
  have := shlV_nat (a := 1) (y := n) (by omega) (by omega)
  simpa using this
end Go.Proofs.Tryd.Am.Ra

namespace Go.Proofs.Tryd.Am.Ra
open Go.Proofs.Tryd.Am
open Go.Am Redei Rb
set_option maxRecDepth 100000
set_option maxHeartbeats 1000000

abbrev pt (b : Nat) : Value := .pointer (some ⟨b, 0, none⟩)
abbrev iL (L : List Nat) : List Int := L.map Int.ofNat
theorem Xx (L : List Nat) : (iL L).length = L.length := by simp
/-- The two boxes of the search. -/
structure BO (h : Zd) (bb bo : Nat) (st : Nat × List Nat) : Prop where
  b : h[bb]? = some (.cells [Zh st.1] 3 false)
  o : ∃ ov, h[bo]? = some (.cells [ov] 27 false) ∧ OwnSl 3 h ov (iL st.2)
  ne : bb ≠ bo
abbrev EB (bb bo : Nat) : Zd → Zd → Prop := Ext fun i => i = bb ∨ i = bo
theorem own_ne {h : Zd} {v : Value} {xs : List Int} (ho : OwnSl 3 h v xs) {b : Nat} {c : List Value} {e : TypeId} (hb : h[b]? = some (.cells c e false)) : Zw v ≠ some b := fun hv => by
  obtain ⟨ys, h1⟩ := ho.ints hv
  rw [hb] at h1; cases h1
theorem BO.own {h h' : Zd} {bb bo : Nat} {st : Nat × List Nat} (B : BO h bb bo st) {v : Value} {xs : List Int} (ho : OwnSl 3 h v xs) (hE : EB bb bo h h') : OwnSl 3 h' v xs := by
  obtain ⟨ov, h1, _⟩ := B.o
  refine ho.ext hE fun b hb hx => ?_
  rcases hx with rfl | rfl
  · exact own_ne ho B.b hb
  · exact own_ne ho h1 hb
theorem BO.ext {h h' : Zd} {bb bo : Nat} {st : Nat × List Nat} (B : BO h bb bo st) (hE : Ext (fun _ => False) h h') : BO h' bb bo st := by
  obtain ⟨ov, h1, h2⟩ := B.o
  exact ⟨(hE.2 _ (Zt B.b) id).trans B.b, ⟨ov, (hE.2 _ (Zt h1) id).trans h1, h2.ext hE fun _ _ => id⟩, B.ne⟩
theorem litI1 {h : Zd} {x : Int} (K : Value → Zd → Prop) : Yn prog h 27 1 [(0, Zh x)] K = K (.slice (some ⟨h.length, 0, none⟩) 1 1) (h ++ [.ints [x] 3 false]) := by
  simp only [Yn, Wg, zero_3, Xc, reps, fillL, mkb, notTuple, cellsOf, List.length_singleton, Nat.mul_one, Nat.zero_add]
  exact propext ⟨fun h => h.2.2.2, fun h => ⟨trivial, by decide, by decide, h⟩⟩
end Go.Proofs.Tryd.Am.Ra

namespace Go.Proofs.Tryd.Am.Ra
open Go.Proofs.Tryd.Am
open Go.Am Redei Rb
set_option maxRecDepth 100000
set_option maxHeartbeats 1000000

theorem iL_get (L : List Nat) (i : Nat) : (iL L).getD i 0 = ((L.getD i 0 : Nat) : Int) := by
  rw [List.getD, List.getElem?_map, List.getD]; cases L[i]? <;> rfl
theorem iL_set (L : List Nat) (i x : Nat) : (iL L).set i ((x : Nat) : Int) = iL (L.set i x) := by simp only [iL, List.map_set]; rfl
theorem getD_setN {L : List Nat} {s x i : Nat} (hs : s < L.length) : (L.set s x).getD i 0 = if i = s then x else L.getD i 0 := by
  rw [List.getD, List.getElem?_set]
  by_cases h : s = i
  · subst h; simp [hs]
  · rw [if_neg h, if_neg (Ne.symm h)]; rfl
abbrev tv (b M : Nat) : Value := .slice (some ⟨b, 0, none⟩) M M
section tab
variable {hp : Zd} {b M : Nat} {L : List Nat}
end tab

/-- What the run leans on: the tournament, the table, and the function that says what a player brings. -/
structure OB (h hp : Zd) (gv : Value) (M : Nat) (T : List Nat) : Prop where
  b1 : hp[h.length]? = some (.cells [gv] 27 false)
  bT : hp[h.length + 1]? = some (.ints (iL T) 3 false)
  b5 : hp[h.length + 2]? = some (.cells [tv (h.length + 1) M] 27 false)
  b6 : hp[h.length + 3]? = some (.cells [.func (.func 75) #[] #[pt h.length, pt (h.length + 2)]] 114 false)
  E : Ext (fun _ => False) h hp
  len : T.length = M
section
variable {h hp hp2 : Zd} {gv : Value} {M : Nat} {T : List Nat}
theorem OB.up (o : OB h hp gv M T) (hE : Ext (fun i => h.length + 4 ≤ i) hp hp2) : OB h hp2 gv M T := by
  have k : ∀ {i B}, i < h.length + 4 → hp[i]? = some B → hp2[i]? = some B := fun hi hb => (hE.2 _ (Zt hb) (by omega)).trans hb
  exact ⟨k (by omega) o.b1, k (by omega) o.bT, k (by omega) o.b5, k (by omega) o.b6, ⟨Nat.le_trans o.E.1 hE.1, fun i hi _ => (hE.2 i (Nat.lt_of_lt_of_le hi o.E.1) (by omega)).trans (o.E.2 i hi id)⟩, o.len⟩
end
end Go.Proofs.Tryd.Am.Ra

namespace Rb
/-- How many pairs an order goes against: for each one, the earlier ones that it beats. -/
def back (b : Nat → Nat → Bool) (pre : List Nat) : List Nat → Nat
  | [] => 0
  | x :: l => pre.countP (b x) + back b (pre ++ [x]) l
section
variable {c : Nat → Nat → Nat} {n : Nat}
end
section
variable {b b' : Nat → Nat → Bool}
end
end Rb

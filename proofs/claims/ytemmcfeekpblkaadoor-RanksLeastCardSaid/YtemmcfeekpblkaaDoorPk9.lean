/-
  ranks: IsOrder of the laws.
  Printed by gen.py: the code of some functions, without what no step looks at; held against the program's own by the kernel.
  ranks: what two cycles have in common.
  ranks: Pack's search.
  ranks: Pack.
  ranks: the reference's cycles, and its Clear.
-/
import Derived.Test.YtemmcfeekpblkaaDoorPk8
import Derived.Test.YtemmcfeekpblkaaDoorPk6
import Derived.Test.YtemmcfeekpblkaaDoorPk3
import Derived.Test.YtemmcfeekpblkaaDoorProg
import Derived.KernelRfl
import Derived.Shelf.Abstract
import Derived.Test.YtemmcfeekpblkaaDoorPk7
import Derived.Test.YtemmcfeekpblkaaDoorPk5
set_option linter.all false
namespace Go.Proofs.Tryd.Am
open Go.Am Redei
set_option maxRecDepth 100000
set_option maxHeartbeats 1000000

theorem setOf_lt {n : Nat} {l : List Int} : ∀ i, i ≤ l.length → (∀ k, k < i → newAt n l k = true) → setOf (l.take i) < 2 ^ n
  | 0, _, _ => Nat.two_pow_pos n
  | i + 1, hi, h => by
    have e : l.take (i + 1) = l.take i ++ [l.getD i 0] := by
      rw [List.take_succ, List.getD, List.getElem?_eq_getElem (show i < l.length by omega)]; rfl
    have h1 := h i (by omega)
    simp only [newAt, Bool.and_eq_true, decide_eq_true_eq] at h1
    rw [e, setOf_snoc]
    exact or_lt (setOf_lt i (by omega) fun k hk => h k (by omega)) (by omega)
theorem setOf_next {l : List Int} {i j : Nat} (hi : i < l.length) (hj : l.getD i 0 = j) : setOf (l.take (i + 1)) = setOf (l.take i) ||| 2 ^ j := by
  rw [show l.take (i + 1) = l.take i ++ [l.getD i 0] by rw [List.take_succ, List.getD, List.getElem?_eq_getElem hi]; rfl, setOf_snoc, hj, Int.toNat_natCast]

theorem isord_call [Tabs prog] {h : Heap} {tv ov : Value} {xs os : List Int} (ht : IntSl h tv xs) (ho : IntSl h ov os) (hn : xs.length ≤ 8) (hol : os.length < 9223372036854775808) :
    APure prog 22 [tv, ov] h (.bool (isOrd xs.length os)) := by
  have hpow : 2 ^ xs.length ≤ 2 ^ 8 := Nat.pow_le_pow_right (by decide) hn
  refine s22_call (by simp) ?_
  simp (maxSteps := 2000000) only [s22, ↓aw_region, ↓aw_skip, ↓aw_seq, ↓aw_block, ↓aw_exit, ↓aw_ret, ↓sops_nil, ↓sops_go, ↓dops_nil, ↓dopsX_nil, ↓dopsR_nil, ↓vdn, vup, extr_20, extr_21, extr_30, extr_31, extr_32, List.map_cons, List.map_nil, cond_true, cond_false, aop, aThen, aBlock, argEnv, ev, sput, sputO, binK, binI, unK, builtinK, pickK, Nat.reduceBEq, Nat.reduceAdd, Int.reduceBEq, Int.reduceBNe, Int.reduceLT, aPost, resK, tup, tyf, ho.len, ↓aw_loop_eq]
  refine aws_hide fun Q hQ => ?_
  refine aw_loop (γ := Nat) (fun i => i ≤ os.length ∧ ∀ k, k < i → newAt xs.length os k = true)
    (fun i => ([(0, tv), (1, ov), (4, .bool false), (5, vint (setOf (os.take i) : Nat)), (8, ov), (9, vint os.length), (10, vint i)], h)) (fun i => os.length - i) 0 ⟨by omega, fun _ hk => by omega⟩ (by simp (maxSteps := 2000000) only [↓aw_region, ↓aw_skip, ↓aw_seq, ↓aw_block, ↓aw_exit, ↓aw_ret, ↓sops_nil, ↓sops_go, ↓dops_nil, ↓dopsX_nil, ↓dopsR_nil, ↓vdn, vup, extr_20, extr_21, extr_30, extr_31, extr_32, List.map_cons, List.map_nil, cond_true, cond_false, aop, aThen, aBlock, argEnv, ev, sput, sputO, binK, binI, unK, builtinK, pickK, Nat.reduceBEq, Nat.reduceAdd, Int.reduceBEq, Int.reduceBNe, Int.reduceLT, aPost, resK, tup, tyf, Int.natCast_zero, List.take_zero, show setOf [] = 0 from rfl]) rfl ?_
  rintro i ⟨hi, hok⟩
  have hset := setOf_lt i hi hok
  refine aw_hide fun Q2 hQ2 => ?_
  by_cases hin : (i : Int) < os.length
  · have hin' : i < os.length := by omega
    have hbad : newAt xs.length os i = false → isOrd xs.length os = false := fun hb => by
      have : (List.range os.length).all (newAt xs.length os) = false := by
        rw [List.all_eq_false]; exact ⟨i, List.mem_range.2 hin', by simp [hb]⟩
      rw [isOrd, this, Bool.false_and]
    by_cases hneg : os.getD i 0 < 0
    · have hb := hbad (by rw [newAt, decide_eq_false (show ¬ 0 ≤ os.getD i 0 by omega)]; rfl)
      simp (maxSteps := 2000000) only [s22, ↓aw_region, ↓aw_skip, ↓aw_seq, ↓aw_block, ↓aw_exit, ↓aw_ret, ↓sops_nil, ↓sops_go, ↓dops_nil, ↓dopsX_nil, ↓dopsR_nil, ↓vdn, vup, extr_20, extr_21, extr_30, extr_31, extr_32, List.map_cons, List.map_nil, cond_true, cond_false, aop, aThen, aBlock, argEnv, ev, sput, sputO, binK, binI, unK, builtinK, pickK, Nat.reduceBEq, Nat.reduceAdd, Int.reduceBEq, Int.reduceBNe, Int.reduceLT, aPost, resK, tup, tyf, l22_0, hin, ho.idx el_22 esz_3 hin', ho.load shp_3 hin', hneg]
      refine hQ2 _ _ _ (hQ _ _ _ ?_)
      simp (maxSteps := 2000000) only [↓aw_region, ↓aw_skip, ↓aw_seq, ↓aw_block, ↓aw_exit, ↓aw_ret, ↓sops_nil, ↓sops_go, ↓dops_nil, ↓dopsX_nil, ↓dopsR_nil, ↓vdn, vup, extr_20, extr_21, extr_30, extr_31, extr_32, List.map_cons, List.map_nil, cond_true, cond_false, aop, aThen, aBlock, argEnv, ev, sput, sputO, binK, binI, unK, builtinK, pickK, Nat.reduceBEq, Nat.reduceAdd, Int.reduceBEq, Int.reduceBNe, Int.reduceLT, aPost, resK, tup, tyf, hb]
    obtain ⟨j, hj⟩ := Int.eq_ofNat_of_zero_le (show 0 ≤ os.getD i 0 by omega)
    have hjneg : ¬ ((j : Int) < 0) := by omega
    by_cases hbig : (xs.length : Int) ≤ j
    · have hb := hbad (by rw [newAt, hj, decide_eq_false (show ¬ ((j : Int) < xs.length) by omega), Bool.and_false]; rfl)
      simp (maxSteps := 2000000) only [s22, ↓aw_region, ↓aw_skip, ↓aw_seq, ↓aw_block, ↓aw_exit, ↓aw_ret, ↓sops_nil, ↓sops_go, ↓dops_nil, ↓dopsX_nil, ↓dopsR_nil, ↓vdn, vup, extr_20, extr_21, extr_30, extr_31, extr_32, List.map_cons, List.map_nil, cond_true, cond_false, aop, aThen, aBlock, argEnv, ev, sput, sputO, binK, binI, unK, builtinK, pickK, Nat.reduceBEq, Nat.reduceAdd, Int.reduceBEq, Int.reduceBNe, Int.reduceLT, aPost, resK, tup, tyf, l22_0, hin, ho.idx el_22 esz_3 hin', ho.load shp_3 hin', hj, hjneg, ht.len, hbig, ge_iff_le]
      refine hQ2 _ _ _ (hQ _ _ _ ?_)
      simp (maxSteps := 2000000) only [↓aw_region, ↓aw_skip, ↓aw_seq, ↓aw_block, ↓aw_exit, ↓aw_ret, ↓sops_nil, ↓sops_go, ↓dops_nil, ↓dopsX_nil, ↓dopsR_nil, ↓vdn, vup, extr_20, extr_21, extr_30, extr_31, extr_32, List.map_cons, List.map_nil, cond_true, cond_false, aop, aThen, aBlock, argEnv, ev, sput, sputO, binK, binI, unK, builtinK, pickK, Nat.reduceBEq, Nat.reduceAdd, Int.reduceBEq, Int.reduceBNe, Int.reduceLT, aPost, resK, tup, tyf, hb]
    have htv := testV (a := setOf (os.take i)) (y := j) (by omega)
    cases hbit : (setOf (os.take i)).testBit j with
    | true =>
      have hb := hbad (by rw [newAt, hj, Int.toNat_natCast, hbit, Bool.not_true, Bool.and_false])
      simp (maxSteps := 2000000) only [s22, ↓aw_region, ↓aw_skip, ↓aw_seq, ↓aw_block, ↓aw_exit, ↓aw_ret, ↓sops_nil, ↓sops_go, ↓dops_nil, ↓dopsX_nil, ↓dopsR_nil, ↓vdn, vup, extr_20, extr_21, extr_30, extr_31, extr_32, List.map_cons, List.map_nil, cond_true, cond_false, aop, aThen, aBlock, argEnv, ev, sput, sputO, binK, binI, unK, builtinK, pickK, Nat.reduceBEq, Nat.reduceAdd, Int.reduceBEq, Int.reduceBNe, Int.reduceLT, aPost, resK, tup, tyf, l22_0, hin, ho.idx el_22 esz_3 hin', ho.load shp_3 hin', hj, hjneg, ht.len, hbig, ge_iff_le, htv, hbit, if_true]
      refine hQ2 _ _ _ (hQ _ _ _ ?_)
      simp (maxSteps := 2000000) only [↓aw_region, ↓aw_skip, ↓aw_seq, ↓aw_block, ↓aw_exit, ↓aw_ret, ↓sops_nil, ↓sops_go, ↓dops_nil, ↓dopsX_nil, ↓dopsR_nil, ↓vdn, vup, extr_20, extr_21, extr_30, extr_31, extr_32, List.map_cons, List.map_nil, cond_true, cond_false, aop, aThen, aBlock, argEnv, ev, sput, sputO, binK, binI, unK, builtinK, pickK, Nat.reduceBEq, Nat.reduceAdd, Int.reduceBEq, Int.reduceBNe, Int.reduceLT, aPost, resK, tup, tyf, hb]
    | false =>
      have hnew : newAt xs.length os i = true := by rw [newAt, hj, Int.toNat_natCast, hbit, decide_eq_true (show (0 : Int) ≤ j by omega), decide_eq_true (show (j : Int) < xs.length by omega)]; rfl
      have hshl : shlV .i64 1 j = 2 ^ j := shl1 (by omega)
      have hor : bitsV .or .i64 ((setOf (os.take i) : Nat) : Int) (2 ^ j) = ((setOf (os.take (i + 1)) : Nat) : Int) := by
        have := bitsV_or (a := setOf (os.take i)) (b := 2 ^ j) (by omega) (Nat.lt_of_lt_of_le (Nat.pow_lt_pow_right (by decide) (show j < 62 by omega)) (by decide))
        rw [setOf_next hin' hj]
        simpa using this
      simp (maxSteps := 2000000) only [s22, ↓aw_region, ↓aw_skip, ↓aw_seq, ↓aw_block, ↓aw_exit, ↓aw_ret, ↓sops_nil, ↓sops_go, ↓dops_nil, ↓dopsX_nil, ↓dopsR_nil, ↓vdn, vup, extr_20, extr_21, extr_30, extr_31, extr_32, List.map_cons, List.map_nil, cond_true, cond_false, aop, aThen, aBlock, argEnv, ev, sput, sputO, binK, binI, unK, builtinK, pickK, Nat.reduceBEq, Nat.reduceAdd, Int.reduceBEq, Int.reduceBNe, Int.reduceLT, aPost, resK, tup, tyf, l22_0, hin, ho.idx el_22 esz_3 hin', ho.load shp_3 hin', hj, hjneg, ht.len, hbig, ge_iff_le, htv, hbit, if_false, Bool.false_eq_true, hshl, hor, add1 (show i < 9223372036854775807 by omega)]
      refine hQ2 _ _ _ ⟨i + 1, ⟨by omega, fun k hk => ?_⟩, by omega, by simp (maxSteps := 2000000) only [↓aw_region, ↓aw_skip, ↓aw_seq, ↓aw_block, ↓aw_exit, ↓aw_ret, ↓sops_nil, ↓sops_go, ↓dops_nil, ↓dopsX_nil, ↓dopsR_nil, ↓vdn, vup, extr_20, extr_21, extr_30, extr_31, extr_32, List.map_cons, List.map_nil, cond_true, cond_false, aop, aThen, aBlock, argEnv, ev, sput, sputO, binK, binI, unK, builtinK, pickK, Nat.reduceBEq, Nat.reduceAdd, Int.reduceBEq, Int.reduceBNe, Int.reduceLT, aPost, resK, tup, tyf], rfl⟩
      by_cases hki : k = i
      · rw [hki]; exact hnew
      · exact hok k (by omega)
  · obtain rfl : i = os.length := by omega
    have hall : (List.range os.length).all (newAt xs.length os) = true := by rw [List.all_eq_true]; exact fun k hk => hok k (List.mem_range.1 hk)
    have he : ((os.length : Int) == xs.length) = isOrd xs.length os := by
      rw [isOrd, hall, Bool.true_and]
      by_cases h : os.length = xs.length
      · rw [decide_eq_true h, h]; exact beq_self_eq_true _
      · rw [decide_eq_false h]
        have : (os.length : Int) ≠ xs.length := by omega
        simpa using this
    simp (maxSteps := 2000000) only [s22, ↓aw_region, ↓aw_skip, ↓aw_seq, ↓aw_block, ↓aw_exit, ↓aw_ret, ↓sops_nil, ↓sops_go, ↓dops_nil, ↓dopsX_nil, ↓dopsR_nil, ↓vdn, vup, extr_20, extr_21, extr_30, extr_31, extr_32, List.map_cons, List.map_nil, cond_true, cond_false, aop, aThen, aBlock, argEnv, ev, sput, sputO, binK, binI, unK, builtinK, pickK, Nat.reduceBEq, Nat.reduceAdd, Int.reduceBEq, Int.reduceBNe, Int.reduceLT, aPost, resK, tup, tyf, l22_0, Int.lt_irrefl]
    refine hQ2 _ _ _ (hQ _ _ _ ?_)
    simp (maxSteps := 2000000) only [s22, ↓aw_region, ↓aw_skip, ↓aw_seq, ↓aw_block, ↓aw_exit, ↓aw_ret, ↓sops_nil, ↓sops_go, ↓dops_nil, ↓dopsX_nil, ↓dopsR_nil, ↓vdn, vup, extr_20, extr_21, extr_30, extr_31, extr_32, List.map_cons, List.map_nil, cond_true, cond_false, aop, aThen, aBlock, argEnv, ev, sput, sputO, binK, binI, unK, builtinK, pickK, Nat.reduceBEq, Nat.reduceAdd, Int.reduceBEq, Int.reduceBNe, Int.reduceLT, aPost, resK, tup, tyf, ho.len, ht.len, he, if_true]

end Go.Proofs.Tryd.Am

namespace Go.Proofs.Tryd.Am
open Go.Am
set_option maxRecDepth 100000
/-! 6: planchet planchetlaw02.RanksPacks -/
@[reducible] def q6_0 : SCode := .region [⟨some 2, .assign (.const (.bool false)), none⟩]
@[reducible] def q6_1 : SCode := .region [⟨some 8, .move (.tmp 0), none⟩,
    ⟨some 9, .call { callee := .value (.func 19), args := #[.tmp 8], argTypes := #[22] }, none⟩,
    ⟨some 10, .call { callee := .value (.func 30), args := #[.tmp 9], argTypes := #[22] }, none⟩,
    ⟨some 7, .move (.tmp 10), none⟩,
    ⟨some 11, .extract (.tmp 7) 0, none⟩,
    ⟨some 12, .extract (.tmp 7) 1, none⟩,
    ⟨some 3, .assign (.tmp 11), none⟩,
    ⟨some 4, .assign (.tmp 12), none⟩]
@[reducible] def q6_2 : SCode := .region [⟨some 14, .move (.tmp 0), none⟩,
    ⟨some 15, .call { callee := .value (.func 19), args := #[.tmp 14], argTypes := #[22] }, none⟩,
    ⟨some 16, .call { callee := .value (.func 31), args := #[.tmp 15], argTypes := #[22] }, none⟩,
    ⟨some 13, .move (.tmp 16), none⟩,
    ⟨some 17, .extract (.tmp 13) 0, none⟩,
    ⟨some 18, .extract (.tmp 13) 1, none⟩,
    ⟨some 5, .assign (.tmp 17), none⟩,
    ⟨some 6, .assign (.tmp 18), none⟩]
@[reducible] def q6_3 : SCode := .region [⟨some 19, .move (.tmp 0), none⟩,
    ⟨some 20, .call { callee := .value (.func 20), args := #[.tmp 19], argTypes := #[22] }, none⟩,
    ⟨some 21, .unOp .not 4 (.tmp 20), none⟩]
@[reducible] def q6_4 : SCode := .region [⟨some 22, .move (.tmp 3), none⟩,
    ⟨some 23, .call { callee := .builtin .len, args := #[.tmp 22], argTypes := #[36] }, none⟩,
    ⟨some 24, .move (.tmp 5), none⟩,
    ⟨some 25, .call { callee := .builtin .len, args := #[.tmp 24], argTypes := #[36] }, none⟩,
    ⟨some 26, .binOp .add 3 (.tmp 23) (.tmp 25) 3, none⟩,
    ⟨some 27, .binOp .eql 3 (.tmp 26) (.const (.int .i64 0)) 3, none⟩,
    ⟨some 28, .move (.tmp 27), none⟩,
    ⟨some 29, .move (.tmp 4), some (28, true)⟩,
    ⟨some 30, .binOp .eql 23 (.tmp 29) (.const (.int .i64 2)) 23, some (28, true)⟩,
    ⟨some 31, .pick (.tmp 28) (.tmp 30) (.const (.bool false)), none⟩,
    ⟨some 32, .move (.tmp 31), none⟩,
    ⟨some 33, .move (.tmp 6), some (32, true)⟩,
    ⟨some 34, .binOp .eql 23 (.tmp 33) (.const (.int .i64 2)) 23, some (32, true)⟩,
    ⟨some 35, .pick (.tmp 32) (.tmp 34) (.const (.bool false)), none⟩,
    ⟨some 36, .move (.tmp 35), none⟩,
    ⟨some 37, .call { callee := .value (.func 21), args := #[], argTypes := #[] }, some (36, true)⟩,
    ⟨some 38, .pick (.tmp 36) (.tmp 37) (.const (.bool false)), none⟩,
    ⟨some 2, .assign (.tmp 38), none⟩]
@[reducible] def q6_5 : SCode := .region [⟨some 39, .move (.tmp 3), none⟩,
    ⟨some 40, .move (.tmp 0), none⟩,
    ⟨some 41, .call { callee := .value (.func 33), args := #[.tmp 40], argTypes := #[22] }, none⟩,
    ⟨some 42, .call { callee := .value (.func 32), args := #[.tmp 39, .tmp 41], argTypes := #[36, 36] }, none⟩,
    ⟨some 43, .move (.tmp 42), none⟩,
    ⟨some 44, .move (.tmp 4), some (43, true)⟩,
    ⟨some 45, .binOp .eql 23 (.tmp 44) (.const (.int .i64 0)) 23, some (43, true)⟩,
    ⟨some 46, .pick (.tmp 43) (.tmp 45) (.const (.bool false)), none⟩,
    ⟨some 47, .move (.tmp 46), none⟩,
    ⟨some 48, .move (.tmp 0), some (47, true)⟩,
    ⟨some 49, .move (.tmp 5), some (47, true)⟩,
    ⟨some 50, .call { callee := .value (.func 34), args := #[.tmp 48, .tmp 49], argTypes := #[22, 36] }, some (47, true)⟩,
    ⟨some 51, .pick (.tmp 47) (.tmp 50) (.const (.bool false)), none⟩,
    ⟨some 52, .move (.tmp 51), none⟩,
    ⟨some 53, .move (.tmp 5), some (52, true)⟩,
    ⟨some 54, .call { callee := .builtin .len, args := #[.tmp 53], argTypes := #[36] }, some (52, true)⟩,
    ⟨some 55, .move (.tmp 0), some (52, true)⟩,
    ⟨some 56, .call { callee := .value (.func 35), args := #[.tmp 55], argTypes := #[22] }, some (52, true)⟩,
    ⟨some 57, .binOp .eql 3 (.tmp 54) (.tmp 56) 3, some (52, true)⟩,
    ⟨some 58, .pick (.tmp 52) (.tmp 57) (.const (.bool false)), none⟩,
    ⟨some 59, .move (.tmp 58), none⟩,
    ⟨some 60, .move (.tmp 6), some (59, true)⟩,
    ⟨some 61, .binOp .eql 23 (.tmp 60) (.const (.int .i64 0)) 23, some (59, true)⟩,
    ⟨some 62, .pick (.tmp 59) (.tmp 61) (.const (.bool false)), none⟩,
    ⟨some 63, .move (.tmp 62), none⟩,
    ⟨some 64, .call { callee := .value (.func 21), args := #[], argTypes := #[] }, some (63, true)⟩,
    ⟨some 65, .pick (.tmp 63) (.tmp 64) (.const (.bool false)), none⟩,
    ⟨some 2, .assign (.tmp 65), none⟩]
def s6 : SCode := (.seq q6_0 (.seq q6_1 (.seq q6_2 (.seq (.seq q6_3 (.cond (.tmp 21) (.seq q6_4 .ret) .skip)) (.seq q6_5 .ret)))))
/-! 31: planchet ranks.Pack -/
@[reducible] def q31_0 : SCode := .region [⟨some 2, .assign (.const (.slice none 0 0)), none⟩,
    ⟨some 3, .assign (.const (.int .i64 0)), none⟩]
@[reducible] def q31_1 : SCode := .region [⟨some 8, .move (.tmp 0), none⟩,
    ⟨some 9, .call { callee := .value (.func 56), args := #[.tmp 8], argTypes := #[55] }, none⟩,
    ⟨some 10, .unOp .not 4 (.tmp 9), none⟩]
@[reducible] def q31_2 : SCode := .region [⟨some 2, .assign (.const (.slice none 0 0)), none⟩,
    ⟨some 3, .assign (.const (.int .i64 2)), none⟩]
@[reducible] def q31_3 : SCode := .region [⟨some 11, .move (.tmp 0), none⟩,
    ⟨some 12, .call { callee := .value (.func 64), args := #[.tmp 11], argTypes := #[55] }, none⟩,
    ⟨some 4, .alloc 36, none⟩,
    ⟨none, .store 36 (.tmp 4) (.tmp 12), none⟩]
@[reducible] def q31_4 : SCode := .region [⟨some 5, .alloc 36, none⟩,
    ⟨some 6, .alloc 36, none⟩]
@[reducible] def q31_5 : SCode := .region [⟨some 7, .alloc 63, none⟩]
@[reducible] def q31_6 : SCode := .region [⟨some 13, .makeFunc (.func 65) #[] #[.tmp 6, .tmp 5, .tmp 4, .tmp 7], none⟩,
    ⟨none, .store 63 (.tmp 7) (.tmp 13), none⟩]
@[reducible] def q31_7 : SCode := .region [⟨some 14, .load 63 (.tmp 7), none⟩,
    ⟨some 15, .call { callee := .value (.tmp 14), args := #[.const (.int .i64 0)], argTypes := #[3] }, none⟩]
@[reducible] def q31_8 : SCode := .region [⟨some 16, .load 36 (.tmp 5), none⟩,
    ⟨some 2, .assign (.tmp 16), none⟩,
    ⟨some 3, .assign (.const (.int .i64 0)), none⟩]
def s31 : SCode := (.seq q31_0 (.seq (.seq q31_1 (.cond (.tmp 10) (.seq q31_2 .ret) .skip)) (.seq q31_3 (.seq q31_4 (.seq q31_5 (.seq q31_6 (.seq q31_7 (.seq q31_8 .ret))))))))
theorem s31_strip : stripC (bodyOf Tryd.f31) = s31 := by kernel_rfl
theorem s31_ok : codeOK 17 (bodyOf Tryd.f31) = true := by kernel_rfl
/-! 34: planchet planchetref02.Packed -/
@[reducible] def q34_0 : SCode := .region [⟨some 4, .assign (.const (.bool false)), none⟩]
@[reducible] def q34_1 : SCode := .region [⟨some 5, .assign (.const (.int .i64 0)), none⟩]
@[reducible] def q34_2 : SCode := .region [⟨some 12, .move (.tmp 0), none⟩,
    ⟨some 13, .call { callee := .value (.func 33), args := #[.tmp 12], argTypes := #[22] }, none⟩,
    ⟨some 14, .call { callee := .builtin .len, args := #[.tmp 13], argTypes := #[36] }, none⟩,
    ⟨some 15, .move (.const (.int .i64 0)), none⟩]
@[reducible] def q34_3 : SCode := .region [⟨some 16, .binOp .lss 3 (.tmp 15) (.tmp 14) 3, none⟩]
@[reducible] def q34_4 : SCode := .region [⟨some 17, .indexAddr 36 (.tmp 13) (.tmp 15), none⟩,
    ⟨some 18, .load 40 (.tmp 17), none⟩,
    ⟨some 7, .alloc 40, none⟩,
    ⟨none, .store 40 (.tmp 7) (.tmp 18), none⟩]
def q34_5 : SCode := .draw [⟨some 19, .move (.tmp 5), none⟩,
    ⟨some 20, .move (.tmp 1), none⟩,
    ⟨some 21, .call { callee := .builtin .len, args := #[.tmp 20], argTypes := #[36] }, none⟩,
    ⟨some 22, .binOp .lss 3 (.tmp 19) (.tmp 21) 3, none⟩,
    ⟨some 23, .move (.tmp 22), none⟩,
    ⟨some 24, .load 40 (.tmp 7), some (23, true)⟩,
    ⟨some 25, .move (.tmp 1), some (23, true)⟩,
    ⟨some 26, .move (.tmp 5), some (23, true)⟩,
    ⟨some 27, .indexAddr 36 (.tmp 25) (.tmp 26), some (23, true)⟩,
    ⟨some 28, .load 40 (.tmp 27), some (23, true)⟩,
    ⟨some 29, .binOp .eql 40 (.tmp 24) (.tmp 28) 40, some (23, true)⟩,
    ⟨some 30, .pick (.tmp 23) (.tmp 29) (.const (.bool false)), none⟩]
   [[], [], [1], [0, 2], [3], [4], [4], [4], [6, 7, 4], [8, 4], [5, 9, 4], [4, 10]]
@[reducible] def q34_6 : SCode := .region [⟨some 31, .move (.tmp 5), none⟩,
    ⟨some 32, .binOp .add 3 (.tmp 31) (.const (.int .i64 1)) 3, none⟩,
    ⟨some 5, .assign (.tmp 32), none⟩]
@[reducible] def q34_7 : SCode := .region [⟨some 33, .binOp .add 3 (.tmp 15) (.const (.int .i64 1)) 3, none⟩,
    ⟨some 15, .move (.tmp 33), none⟩]
def l34_0 : SCode := (.seq q34_3 (.seq (.cond (.tmp 16) .skip (.exit 0)) (.seq (.block 1 (.seq q34_4 (.seq q34_5 (.cond (.tmp 30) q34_6 .skip)))) q34_7)))
@[reducible] def q34_8 : SCode := .region [⟨some 34, .move (.tmp 1), none⟩,
    ⟨some 35, .call { callee := .builtin .len, args := #[.tmp 34], argTypes := #[36] }, none⟩,
    ⟨some 36, .move (.const (.int .i64 0)), none⟩]
@[reducible] def q34_9 : SCode := .region [⟨some 37, .binOp .lss 3 (.tmp 36) (.tmp 35) 3, none⟩]
@[reducible] def q34_10 : SCode := .region [⟨some 38, .move (.tmp 36), none⟩,
    ⟨some 39, .indexAddr 36 (.tmp 34) (.tmp 36), none⟩,
    ⟨some 40, .load 40 (.tmp 39), none⟩,
    ⟨some 9, .alloc 40, none⟩,
    ⟨some 8, .assign (.tmp 38), none⟩,
    ⟨none, .store 40 (.tmp 9) (.tmp 40), none⟩]
@[reducible] def q34_11 : SCode := .region [⟨some 41, .move (.tmp 1), none⟩,
    ⟨some 42, .move (.tmp 8), none⟩,
    ⟨some 43, .slice 36 (.tmp 41) none (some (.tmp 42)) none, none⟩,
    ⟨some 44, .call { callee := .builtin .len, args := #[.tmp 43], argTypes := #[36] }, none⟩,
    ⟨some 45, .move (.const (.int .i64 0)), none⟩]
@[reducible] def q34_12 : SCode := .region [⟨some 46, .binOp .lss 3 (.tmp 45) (.tmp 44) 3, none⟩]
@[reducible] def q34_13 : SCode := .region [⟨some 47, .indexAddr 36 (.tmp 43) (.tmp 45), none⟩,
    ⟨some 48, .load 40 (.tmp 47), none⟩,
    ⟨some 11, .alloc 40, none⟩,
    ⟨none, .store 40 (.tmp 11) (.tmp 48), none⟩]
@[reducible] def q34_14 : SCode := .region [⟨some 49, .load 40 (.tmp 9), none⟩,
    ⟨some 50, .load 40 (.tmp 11), none⟩,
    ⟨some 51, .call { callee := .value (.func 70), args := #[.tmp 49, .tmp 50], argTypes := #[40, 40] }, none⟩,
    ⟨some 52, .binOp .gtr 3 (.tmp 51) (.const (.int .i64 1)) 3, none⟩]
@[reducible] def q34_15 : SCode := .region [⟨some 4, .assign (.const (.bool false)), none⟩]
@[reducible] def q34_16 : SCode := .region [⟨some 53, .binOp .add 3 (.tmp 45) (.const (.int .i64 1)) 3, none⟩,
    ⟨some 45, .move (.tmp 53), none⟩]
def l34_1 : SCode := (.seq q34_12 (.seq (.cond (.tmp 46) .skip (.exit 4)) (.seq (.block 5 (.seq q34_13 (.seq q34_14 (.cond (.tmp 52) (.seq q34_15 .ret) .skip)))) q34_16)))
@[reducible] def q34_17 : SCode := .region [⟨some 54, .binOp .add 3 (.tmp 36) (.const (.int .i64 1)) 3, none⟩,
    ⟨some 36, .move (.tmp 54), none⟩]
def l34_2 : SCode := (.seq q34_9 (.seq (.cond (.tmp 37) .skip (.exit 2)) (.seq (.block 3 (.seq q34_10 (.seq q34_11 (.block 4 (.loop l34_1))))) q34_17)))
@[reducible] def q34_18 : SCode := .region [⟨some 55, .move (.tmp 5), none⟩,
    ⟨some 56, .move (.tmp 1), none⟩,
    ⟨some 57, .call { callee := .builtin .len, args := #[.tmp 56], argTypes := #[36] }, none⟩,
    ⟨some 58, .binOp .eql 3 (.tmp 55) (.tmp 57) 3, none⟩,
    ⟨some 4, .assign (.tmp 58), none⟩]
def s34 : SCode := (.seq q34_0 (.seq q34_1 (.seq (.seq q34_2 (.block 0 (.loop l34_0))) (.seq (.seq q34_8 (.block 2 (.loop l34_2))) (.seq q34_18 .ret)))))
theorem s34_strip : stripC (bodyOf Tryd.f34) = s34 := by kernel_rfl
theorem s34_ok : codeOK 59 (bodyOf Tryd.f34) = true := by kernel_rfl
theorem s34_call [Tabs Tryd.prog] {args : List Value} {h : Heap} {Q : Value → Heap → Prop} (hsz : args.length ≤ 59) (hk : aw Tryd.prog 59 s34 (aPost Tryd.prog [.tmp 4] Q) (argEnv 0 args) h) : ACall Tryd.prog 34 args h Q :=
  acall_s Tryd.func34 rfl (enters_of Tryd.func34 (by kernel_rfl) rfl) rfl rfl (by decide) s34_strip s34_ok hsz hk

/-! 65: planchet ranks.Pack$1 -/
@[reducible] def q65_0 : SCode := .region [⟨some 7, .load 36 (.tmp 1), none⟩,
    ⟨some 8, .call { callee := .builtin .len, args := #[.tmp 7], argTypes := #[36] }, none⟩,
    ⟨some 9, .load 36 (.tmp 2), none⟩,
    ⟨some 10, .call { callee := .builtin .len, args := #[.tmp 9], argTypes := #[36] }, none⟩,
    ⟨some 11, .binOp .gtr 3 (.tmp 8) (.tmp 10) 3, none⟩]
@[reducible] def q65_1 : SCode := .region [⟨some 12, .load 36 (.tmp 1), none⟩,
    ⟨some 13, .call { callee := .value (.func 66), args := #[.tmp 12], argTypes := #[36] }, none⟩,
    ⟨none, .store 36 (.tmp 2) (.tmp 13), none⟩]
@[reducible] def q65_2 : SCode := .region [⟨some 14, .load 36 (.tmp 1), none⟩,
    ⟨some 15, .call { callee := .builtin .len, args := #[.tmp 14], argTypes := #[36] }, none⟩,
    ⟨some 16, .load 36 (.tmp 3), none⟩,
    ⟨some 17, .call { callee := .builtin .len, args := #[.tmp 16], argTypes := #[36] }, none⟩,
    ⟨some 18, .binOp .add 3 (.tmp 15) (.tmp 17) 3, none⟩,
    ⟨some 19, .move (.tmp 0), none⟩,
    ⟨some 20, .binOp .sub 3 (.tmp 18) (.tmp 19) 3, none⟩,
    ⟨some 21, .load 36 (.tmp 2), none⟩,
    ⟨some 22, .call { callee := .builtin .len, args := #[.tmp 21], argTypes := #[36] }, none⟩,
    ⟨some 23, .binOp .leq 3 (.tmp 20) (.tmp 22) 3, none⟩]
@[reducible] def q65_3 : SCode := .region [⟨some 24, .move (.tmp 0), none⟩,
    ⟨some 6, .alloc 3, none⟩,
    ⟨none, .store 3 (.tmp 6) (.tmp 24), none⟩]
@[reducible] def q65_4 : SCode := .region [⟨some 25, .load 3 (.tmp 6), none⟩,
    ⟨some 26, .load 36 (.tmp 3), none⟩,
    ⟨some 27, .call { callee := .builtin .len, args := #[.tmp 26], argTypes := #[36] }, none⟩,
    ⟨some 28, .binOp .lss 3 (.tmp 25) (.tmp 27) 3, none⟩]
@[reducible] def q65_6 : SCode := .region [⟨some 31, .load 36 (.tmp 1), none⟩,
    ⟨some 32, .makeFunc (.func 68) #[] #[.tmp 3, .tmp 6], none⟩,
    ⟨some 33, .call { callee := .value (.func 67), args := #[.tmp 31, .tmp 32], argTypes := #[36, 67] }, none⟩,
    ⟨some 34, .unOp .not 4 (.tmp 33), none⟩]
def q65_7 : SCode := .draw [⟨some 35, .load 36 (.tmp 1), none⟩,
    ⟨some 36, .load 36 (.tmp 3), none⟩,
    ⟨some 37, .load 3 (.tmp 6), none⟩,
    ⟨some 38, .indexAddr 36 (.tmp 36) (.tmp 37), none⟩,
    ⟨some 39, .load 40 (.tmp 38), none⟩,
    ⟨some 40, .buildSlice 36 1 #[(0, .tmp 39)], none⟩,
    ⟨some 41, .call { callee := .builtin .append, args := #[.tmp 35, .tmp 40], argTypes := #[36, 36] }, none⟩,
    ⟨none, .store 36 (.tmp 1) (.tmp 41), none⟩]
   [[], [], [], [1, 2], [3], [4], [0, 5], [6, 6, 0, 1, 2, 3, 4, 5, 6]]
@[reducible] def q65_8 : SCode := .region [⟨some 42, .load 63 (.tmp 4), none⟩,
    ⟨some 43, .load 3 (.tmp 6), none⟩,
    ⟨some 44, .binOp .add 3 (.tmp 43) (.const (.int .i64 1)) 3, none⟩,
    ⟨some 45, .call { callee := .value (.tmp 42), args := #[.tmp 44], argTypes := #[3] }, none⟩]
@[reducible] def q65_9 : SCode := .region [⟨some 46, .load 36 (.tmp 1), none⟩,
    ⟨some 47, .load 36 (.tmp 1), none⟩,
    ⟨some 48, .call { callee := .builtin .len, args := #[.tmp 47], argTypes := #[36] }, none⟩,
    ⟨some 49, .binOp .sub 3 (.tmp 48) (.const (.int .i64 1)) 3, none⟩,
    ⟨some 50, .slice 36 (.tmp 46) none (some (.tmp 49)) none, none⟩,
    ⟨none, .store 36 (.tmp 1) (.tmp 50), none⟩]
@[reducible] def q65_10 : SCode := .region [⟨some 51, .load 3 (.tmp 6), none⟩]
@[reducible] def q65_11 : SCode := .region [⟨some 6, .alloc 3, none⟩,
    ⟨none, .store 3 (.tmp 6) (.tmp 51), none⟩]
@[reducible] def q65_5 : SCode := .region [⟨some 29, .load 3 (.tmp 6), none⟩,
    ⟨some 30, .binOp .add 3 (.tmp 29) (.const (.int .i64 1)) 3, none⟩,
    ⟨none, .store 3 (.tmp 6) (.tmp 30), none⟩]
def l65_0 : SCode := (.seq (.seq q65_4 (.cond (.tmp 28) .skip (.exit 0))) (.seq (.block 1 (.seq q65_6 (.cond (.tmp 34) (.seq q65_7 (.seq q65_8 q65_9)) .skip))) (.seq (.seq q65_10 q65_11) q65_5)))
def s65 : SCode := (.seq (.seq q65_0 (.cond (.tmp 11) q65_1 .skip)) (.seq (.seq q65_2 (.cond (.tmp 23) .ret .skip)) (.seq q65_3 (.block 0 (.loop l65_0)))))
theorem s65_strip : stripC (bodyOf Tryd.f65) = s65 := by kernel_rfl
theorem s65_ok : codeOK 52 (bodyOf Tryd.f65) = true := by kernel_rfl
/-! 66: slices.Clone[[][3]int,[3]int] -/
@[reducible] def q66_0 : SCode := .region [⟨some 2, .assign (.const (.slice none 0 0)), none⟩]
@[reducible] def q66_1 : SCode := .region [⟨some 3, .move (.tmp 0), none⟩,
    ⟨some 4, .binOp .eql 36 (.tmp 3) (.const (.slice none 0 0)) 36, none⟩]
@[reducible] def q66_2 : SCode := .region [⟨some 2, .assign (.const (.slice none 0 0)), none⟩]
@[reducible] def q66_3 : SCode := .region [⟨some 5, .buildSlice 36 0 #[], none⟩,
    ⟨some 6, .move (.tmp 0), none⟩,
    ⟨some 7, .call { callee := .builtin .append, args := #[.tmp 5, .tmp 6], argTypes := #[36, 36] }, none⟩,
    ⟨some 2, .assign (.tmp 7), none⟩]
def s66 : SCode := (.seq q66_0 (.seq (.seq q66_1 (.cond (.tmp 4) (.seq q66_2 .ret) .skip)) (.seq q66_3 .ret)))
theorem s66_strip : stripC (bodyOf Tryd.f66) = s66 := by kernel_rfl
theorem s66_ok : codeOK 8 (bodyOf Tryd.f66) = true := by kernel_rfl
theorem s66_call [Tabs Tryd.prog] {args : List Value} {h : Heap} {Q : Value → Heap → Prop} (hsz : args.length ≤ 8) (hk : aw Tryd.prog 8 s66 (aPost Tryd.prog [.tmp 2] Q) (argEnv 0 args) h) : ACall Tryd.prog 66 args h Q :=
  acall_s Tryd.func66 rfl (enters_of Tryd.func66 (by kernel_rfl) rfl) rfl rfl (by decide) s66_strip s66_ok hsz hk

/-! 68: planchet ranks.Pack$1$1 -/
@[reducible] def q68_0 : SCode := .region [⟨some 3, .box 40 (.tmp 0), none⟩,
    ⟨some 4, .assign (.const (.bool false)), none⟩]
def q68_1 : SCode := .draw [⟨some 5, .load 40 (.tmp 3), none⟩,
    ⟨some 6, .load 36 (.tmp 1), none⟩,
    ⟨some 7, .load 3 (.tmp 2), none⟩,
    ⟨some 8, .indexAddr 36 (.tmp 6) (.tmp 7), none⟩,
    ⟨some 9, .load 40 (.tmp 8), none⟩,
    ⟨some 10, .call { callee := .value (.func 69), args := #[.tmp 5, .tmp 9], argTypes := #[40, 40] }, none⟩,
    ⟨some 11, .binOp .gtr 3 (.tmp 10) (.const (.int .i64 1)) 3, none⟩,
    ⟨some 4, .assign (.tmp 11), none⟩]
   [[], [], [], [1, 2], [3], [0, 4], [5], [6, 5, 0, 1, 2, 3, 4, 5, 6]]
def s68 : SCode := (.seq q68_0 (.seq q68_1 .ret))
theorem s68_strip : stripC (bodyOf Tryd.f68) = s68 := by kernel_rfl
theorem s68_ok : codeOK 12 (bodyOf Tryd.f68) = true := by kernel_rfl
theorem s68_call [Tabs Tryd.prog] {args : List Value} {h : Heap} {Q : Value → Heap → Prop} (hsz : args.length ≤ 12) (hk : aw Tryd.prog 12 s68 (aPost Tryd.prog [.tmp 4] Q) (argEnv 0 args) h) : ACall Tryd.prog 68 args h Q :=
  acall_s Tryd.func68 rfl (enters_of Tryd.func68 (by kernel_rfl) rfl) rfl rfl (by decide) s68_strip s68_ok hsz hk

/-! 69: planchet ranks.common -/
@[reducible] def q69_0 : SCode := .region [⟨some 2, .box 40 (.tmp 0), none⟩,
    ⟨some 3, .box 40 (.tmp 1), none⟩,
    ⟨some 4, .assign (.const (.int .i64 0)), none⟩]
@[reducible] def q69_1 : SCode := .region [⟨some 5, .assign (.const (.int .i64 0)), none⟩]
@[reducible] def q69_2 : SCode := .region [⟨some 8, .load 40 (.tmp 2), none⟩,
    ⟨some 9, .move (.const (.int .i64 0)), none⟩]
@[reducible] def q69_3 : SCode := .region [⟨some 10, .binOp .lss 3 (.tmp 9) (.const (.int .i64 3)) 3, none⟩]
@[reducible] def q69_4 : SCode := .region [⟨some 11, .index 40 (.tmp 8) (.tmp 9), none⟩,
    ⟨some 7, .assign (.tmp 11), none⟩]
@[reducible] def q69_5 : SCode := .region [⟨some 12, .slice 40 (.tmp 3) none none none, none⟩,
    ⟨some 13, .move (.tmp 7), none⟩,
    ⟨some 14, .call { callee := .value (.func 96), args := #[.tmp 12, .tmp 13], argTypes := #[22, 3] }, none⟩]
@[reducible] def q69_6 : SCode := .region [⟨some 15, .move (.tmp 5), none⟩,
    ⟨some 16, .binOp .add 3 (.tmp 15) (.const (.int .i64 1)) 3, none⟩,
    ⟨some 5, .assign (.tmp 16), none⟩]
@[reducible] def q69_7 : SCode := .region [⟨some 17, .binOp .add 3 (.tmp 9) (.const (.int .i64 1)) 3, none⟩,
    ⟨some 9, .move (.tmp 17), none⟩]
def l69_0 : SCode := (.seq q69_3 (.seq (.cond (.tmp 10) .skip (.exit 0)) (.seq (.block 1 (.seq q69_4 (.seq q69_5 (.cond (.tmp 14) q69_6 .skip)))) q69_7)))
@[reducible] def q69_8 : SCode := .region [⟨some 18, .move (.tmp 5), none⟩,
    ⟨some 4, .assign (.tmp 18), none⟩]
def s69 : SCode := (.seq q69_0 (.seq q69_1 (.seq (.seq q69_2 (.block 0 (.loop l69_0))) (.seq q69_8 .ret))))
theorem s69_strip : stripC (bodyOf Tryd.f69) = s69 := by kernel_rfl
theorem s69_ok : codeOK 19 (bodyOf Tryd.f69) = true := by kernel_rfl
theorem s69_call [Tabs Tryd.prog] {args : List Value} {h : Heap} {Q : Value → Heap → Prop} (hsz : args.length ≤ 19) (hk : aw Tryd.prog 19 s69 (aPost Tryd.prog [.tmp 4] Q) (argEnv 0 args) h) : ACall Tryd.prog 69 args h Q :=
  acall_s Tryd.func69 rfl (enters_of Tryd.func69 (by kernel_rfl) rfl) rfl rfl (by decide) s69_strip s69_ok hsz hk

/-! 70: planchet planchetref02.common -/
@[reducible] def q70_0 : SCode := .region [⟨some 2, .box 40 (.tmp 0), none⟩,
    ⟨some 3, .box 40 (.tmp 1), none⟩,
    ⟨some 4, .assign (.const (.int .i64 0)), none⟩]
@[reducible] def q70_1 : SCode := .region [⟨some 5, .assign (.const (.int .i64 0)), none⟩]
@[reducible] def q70_2 : SCode := .region [⟨some 10, .load 40 (.tmp 2), none⟩,
    ⟨some 11, .move (.const (.int .i64 0)), none⟩]
@[reducible] def q70_3 : SCode := .region [⟨some 12, .binOp .lss 3 (.tmp 11) (.const (.int .i64 3)) 3, none⟩]
@[reducible] def q70_4 : SCode := .region [⟨some 13, .index 40 (.tmp 10) (.tmp 11), none⟩,
    ⟨some 7, .assign (.tmp 13), none⟩]
@[reducible] def q70_5 : SCode := .region [⟨some 14, .load 40 (.tmp 3), none⟩,
    ⟨some 15, .move (.const (.int .i64 0)), none⟩]
@[reducible] def q70_6 : SCode := .region [⟨some 16, .binOp .lss 3 (.tmp 15) (.const (.int .i64 3)) 3, none⟩]
@[reducible] def q70_7 : SCode := .region [⟨some 17, .index 40 (.tmp 14) (.tmp 15), none⟩,
    ⟨some 9, .assign (.tmp 17), none⟩]
@[reducible] def q70_8 : SCode := .region [⟨some 18, .move (.tmp 7), none⟩,
    ⟨some 19, .move (.tmp 9), none⟩,
    ⟨some 20, .binOp .eql 3 (.tmp 18) (.tmp 19) 3, none⟩]
@[reducible] def q70_9 : SCode := .region [⟨some 21, .move (.tmp 5), none⟩,
    ⟨some 22, .binOp .add 3 (.tmp 21) (.const (.int .i64 1)) 3, none⟩,
    ⟨some 5, .assign (.tmp 22), none⟩]
@[reducible] def q70_10 : SCode := .region [⟨some 23, .binOp .add 3 (.tmp 15) (.const (.int .i64 1)) 3, none⟩,
    ⟨some 15, .move (.tmp 23), none⟩]
def l70_0 : SCode := (.seq q70_6 (.seq (.cond (.tmp 16) .skip (.exit 2)) (.seq (.block 3 (.seq q70_7 (.seq q70_8 (.cond (.tmp 20) q70_9 .skip)))) q70_10)))
@[reducible] def q70_11 : SCode := .region [⟨some 24, .binOp .add 3 (.tmp 11) (.const (.int .i64 1)) 3, none⟩,
    ⟨some 11, .move (.tmp 24), none⟩]
def l70_1 : SCode := (.seq q70_3 (.seq (.cond (.tmp 12) .skip (.exit 0)) (.seq (.block 1 (.seq q70_4 (.seq q70_5 (.block 2 (.loop l70_0))))) q70_11)))
@[reducible] def q70_12 : SCode := .region [⟨some 25, .move (.tmp 5), none⟩,
    ⟨some 4, .assign (.tmp 25), none⟩]
def s70 : SCode := (.seq q70_0 (.seq q70_1 (.seq (.seq q70_2 (.block 0 (.loop l70_1))) (.seq q70_12 .ret))))
theorem s70_strip : stripC (bodyOf Tryd.f70) = s70 := by kernel_rfl
theorem s70_ok : codeOK 26 (bodyOf Tryd.f70) = true := by kernel_rfl
theorem s70_call [Tabs Tryd.prog] {args : List Value} {h : Heap} {Q : Value → Heap → Prop} (hsz : args.length ≤ 26) (hk : aw Tryd.prog 26 s70 (aPost Tryd.prog [.tmp 4] Q) (argEnv 0 args) h) : ACall Tryd.prog 70 args h Q :=
  acall_s Tryd.func70 rfl (enters_of Tryd.func70 (by kernel_rfl) rfl) rfl rfl (by decide) s70_strip s70_ok hsz hk

/-! 96: slices.Contains[[]int,int] -/
@[reducible] def q96_0 : SCode := .region [⟨some 4, .assign (.const (.bool false)), none⟩]
@[reducible] def q96_1 : SCode := .region [⟨some 5, .move (.tmp 0), none⟩,
    ⟨some 6, .move (.tmp 1), none⟩,
    ⟨some 7, .call { callee := .value (.func 107), args := #[.tmp 5, .tmp 6], argTypes := #[22, 3] }, none⟩,
    ⟨some 8, .binOp .geq 3 (.tmp 7) (.const (.int .i64 0)) 3, none⟩,
    ⟨some 4, .assign (.tmp 8), none⟩]
def s96 : SCode := (.seq q96_0 (.seq q96_1 .ret))
theorem s96_strip : stripC (bodyOf Tryd.f96) = s96 := by kernel_rfl
theorem s96_ok : codeOK 9 (bodyOf Tryd.f96) = true := by kernel_rfl
theorem s96_call [Tabs Tryd.prog] {args : List Value} {h : Heap} {Q : Value → Heap → Prop} (hsz : args.length ≤ 9) (hk : aw Tryd.prog 9 s96 (aPost Tryd.prog [.tmp 4] Q) (argEnv 0 args) h) : ACall Tryd.prog 96 args h Q :=
  acall_s Tryd.func96 rfl (enters_of Tryd.func96 (by kernel_rfl) rfl) rfl rfl (by decide) s96_strip s96_ok hsz hk

/-! 107: slices.Index[[]int,int] -/
@[reducible] def q107_0 : SCode := .region [⟨some 4, .assign (.const (.int .i64 0)), none⟩]
@[reducible] def q107_1 : SCode := .region [⟨some 6, .move (.tmp 0), none⟩,
    ⟨some 7, .call { callee := .builtin .len, args := #[.tmp 6], argTypes := #[22] }, none⟩,
    ⟨some 8, .move (.const (.int .i64 0)), none⟩]
@[reducible] def q107_2 : SCode := .region [⟨some 9, .binOp .lss 3 (.tmp 8) (.tmp 7) 3, none⟩]
@[reducible] def q107_3 : SCode := .region [⟨some 10, .move (.tmp 8), none⟩,
    ⟨some 5, .assign (.tmp 10), none⟩]
@[reducible] def q107_4 : SCode := .region [⟨some 11, .move (.tmp 1), none⟩,
    ⟨some 12, .move (.tmp 0), none⟩,
    ⟨some 13, .move (.tmp 5), none⟩,
    ⟨some 14, .indexAddr 22 (.tmp 12) (.tmp 13), none⟩,
    ⟨some 15, .load 3 (.tmp 14), none⟩,
    ⟨some 16, .binOp .eql 3 (.tmp 11) (.tmp 15) 3, none⟩]
@[reducible] def q107_5 : SCode := .region [⟨some 17, .move (.tmp 5), none⟩,
    ⟨some 4, .assign (.tmp 17), none⟩]
@[reducible] def q107_6 : SCode := .region [⟨some 18, .binOp .add 3 (.tmp 8) (.const (.int .i64 1)) 3, none⟩,
    ⟨some 8, .move (.tmp 18), none⟩]
def l107_0 : SCode := (.seq q107_2 (.seq (.cond (.tmp 9) .skip (.exit 0)) (.seq (.block 1 (.seq q107_3 (.seq q107_4 (.cond (.tmp 16) (.seq q107_5 .ret) .skip)))) q107_6)))
@[reducible] def q107_7 : SCode := .region [⟨some 4, .assign (.const (.int .i64 (-1))), none⟩]
def s107 : SCode := (.seq q107_0 (.seq (.seq q107_1 (.block 0 (.loop l107_0))) (.seq q107_7 .ret)))
theorem s107_strip : stripC (bodyOf Tryd.f107) = s107 := by kernel_rfl
theorem s107_ok : codeOK 19 (bodyOf Tryd.f107) = true := by kernel_rfl
theorem s107_call [Tabs Tryd.prog] {args : List Value} {h : Heap} {Q : Value → Heap → Prop} (hsz : args.length ≤ 19) (hk : aw Tryd.prog 19 s107 (aPost Tryd.prog [.tmp 4] Q) (argEnv 0 args) h) : ACall Tryd.prog 107 args h Q :=
  acall_s Tryd.func107 rfl (enters_of Tryd.func107 (by kernel_rfl) rfl) rfl rfl (by decide) s107_strip s107_ok hsz hk

end Go.Proofs.Tryd.Am

namespace Go.Proofs.Tryd.Am
open Go.Am
set_option maxRecDepth 100000
set_option maxHeartbeats 1000000

theorem getD_mem {xs : List Int} {i : Nat} (hi : i < xs.length) : xs.getD i 0 ∈ xs := by
  rw [List.getD, List.getElem?_eq_getElem hi]; exact List.getElem_mem hi
theorem iindex_call [Tabs prog] {h : Heap} {v : Value} {xs : List Int} {x : Int} (hv : IntSl h v xs) (hl : xs.length < 9223372036854775807) : ACall prog 107 [v, vint x] h fun r h' => h' = h ∧ ∃ z : Int, r = .int .i64 z ∧ decide (0 ≤ z) = xs.contains x := by
  refine s107_call (by simp) ?_
  simp (maxSteps := 2000000) only [s107, ↓aw_region, ↓aw_skip, ↓aw_seq, ↓aw_block, ↓aw_exit, ↓aw_ret, ↓sops_nil, ↓sops_go, ↓dops_nil, ↓dopsX_nil, ↓dopsR_nil, ↓vdn, vup, extr_20, extr_21, extr_30, extr_31, extr_32, List.map_cons, List.map_nil, cond_true, cond_false, aop, aThen, aBlock, argEnv, ev, sput, sputO, binK, binI, unK, builtinK, pickK, Nat.reduceBEq, Nat.reduceAdd, Int.reduceBEq, Int.reduceBNe, Int.reduceLT, aPost, resK, tup, tyf, hv.len, ↓aw_loop_eq]
  refine aws_hide fun Q hQ => ?_
  refine aw_loop (γ := Nat) (fun i => i ≤ xs.length ∧ ∀ k, k < i → x ≠ xs.getD k 0)
    (fun i => ([(0, v), (1, vint x), (7, vint xs.length), (8, vint i)], h)) (fun i => xs.length - i) 0 ⟨Nat.zero_le _, fun _ hk => by omega⟩ (by simp (maxSteps := 2000000) only [↓aw_region, ↓aw_skip, ↓aw_seq, ↓aw_block, ↓aw_exit, ↓aw_ret, ↓sops_nil, ↓sops_go, ↓dops_nil, ↓dopsX_nil, ↓dopsR_nil, ↓vdn, vup, extr_20, extr_21, extr_30, extr_31, extr_32, List.map_cons, List.map_nil, cond_true, cond_false, aop, aThen, aBlock, argEnv, ev, sput, sputO, binK, binI, unK, builtinK, pickK, Nat.reduceBEq, Nat.reduceAdd, Int.reduceBEq, Int.reduceBNe, Int.reduceLT, aPost, resK, tup, tyf, Int.natCast_zero]) rfl ?_
  rintro i ⟨hi, hno⟩
  refine aw_hide fun Q2 hQ2 => ?_
  by_cases hin : (i : Int) < xs.length
  · have h1 : i < xs.length := by omega
    by_cases hx : x = xs.getD i 0
    · have hb : (x == xs.getD i 0) = true := beq_iff_eq.2 hx
      simp (maxSteps := 2000000) only [s107, ↓aw_region, ↓aw_skip, ↓aw_seq, ↓aw_block, ↓aw_exit, ↓aw_ret, ↓sops_nil, ↓sops_go, ↓dops_nil, ↓dopsX_nil, ↓dopsR_nil, ↓vdn, vup, extr_20, extr_21, extr_30, extr_31, extr_32, List.map_cons, List.map_nil, cond_true, cond_false, aop, aThen, aBlock, argEnv, ev, sput, sputO, binK, binI, unK, builtinK, pickK, Nat.reduceBEq, Nat.reduceAdd, Int.reduceBEq, Int.reduceBNe, Int.reduceLT, aPost, resK, tup, tyf, l107_0, hin, hv.idx el_22 esz_3 h1, hv.load shp_3 h1, hb]
      refine hQ2 _ _ _ (hQ _ _ _ ?_)
      simp (maxSteps := 2000000) only [s107, ↓aw_region, ↓aw_skip, ↓aw_seq, ↓aw_block, ↓aw_exit, ↓aw_ret, ↓sops_nil, ↓sops_go, ↓dops_nil, ↓dopsX_nil, ↓dopsR_nil, ↓vdn, vup, extr_20, extr_21, extr_30, extr_31, extr_32, List.map_cons, List.map_nil, cond_true, cond_false, aop, aThen, aBlock, argEnv, ev, sput, sputO, binK, binI, unK, builtinK, pickK, Nat.reduceBEq, Nat.reduceAdd, Int.reduceBEq, Int.reduceBNe, Int.reduceLT, aPost, resK, tup, tyf]
      refine ⟨_, rfl, ?_⟩
      rw [decide_eq_true (Int.natCast_nonneg i)]
      have : x ∈ xs := by rw [hx]; exact getD_mem h1
      simpa using this
    · have hb : (x == xs.getD i 0) = false := beq_eq_false_iff_ne.2 hx
      simp (maxSteps := 2000000) only [s107, ↓aw_region, ↓aw_skip, ↓aw_seq, ↓aw_block, ↓aw_exit, ↓aw_ret, ↓sops_nil, ↓sops_go, ↓dops_nil, ↓dopsX_nil, ↓dopsR_nil, ↓vdn, vup, extr_20, extr_21, extr_30, extr_31, extr_32, List.map_cons, List.map_nil, cond_true, cond_false, aop, aThen, aBlock, argEnv, ev, sput, sputO, binK, binI, unK, builtinK, pickK, Nat.reduceBEq, Nat.reduceAdd, Int.reduceBEq, Int.reduceBNe, Int.reduceLT, aPost, resK, tup, tyf, l107_0, hin, hv.idx el_22 esz_3 h1, hv.load shp_3 h1, hb, add1 (show i < 9223372036854775807 by omega)]
      refine hQ2 _ _ _ ⟨i + 1, ⟨by omega, fun k hk => ?_⟩, by omega, by simp (maxSteps := 2000000) only [↓aw_region, ↓aw_skip, ↓aw_seq, ↓aw_block, ↓aw_exit, ↓aw_ret, ↓sops_nil, ↓sops_go, ↓dops_nil, ↓dopsX_nil, ↓dopsR_nil, ↓vdn, vup, extr_20, extr_21, extr_30, extr_31, extr_32, List.map_cons, List.map_nil, cond_true, cond_false, aop, aThen, aBlock, argEnv, ev, sput, sputO, binK, binI, unK, builtinK, pickK, Nat.reduceBEq, Nat.reduceAdd, Int.reduceBEq, Int.reduceBNe, Int.reduceLT, aPost, resK, tup, tyf], rfl⟩
      by_cases hki : k = i
      · rw [hki]; exact hx
      · exact hno k (by omega)
  · obtain rfl : i = xs.length := by omega
    simp (maxSteps := 2000000) only [s107, ↓aw_region, ↓aw_skip, ↓aw_seq, ↓aw_block, ↓aw_exit, ↓aw_ret, ↓sops_nil, ↓sops_go, ↓dops_nil, ↓dopsX_nil, ↓dopsR_nil, ↓vdn, vup, extr_20, extr_21, extr_30, extr_31, extr_32, List.map_cons, List.map_nil, cond_true, cond_false, aop, aThen, aBlock, argEnv, ev, sput, sputO, binK, binI, unK, builtinK, pickK, Nat.reduceBEq, Nat.reduceAdd, Int.reduceBEq, Int.reduceBNe, Int.reduceLT, aPost, resK, tup, tyf, l107_0, Int.lt_irrefl]
    refine hQ2 _ _ _ (hQ _ _ _ ?_)
    simp (maxSteps := 2000000) only [s107, ↓aw_region, ↓aw_skip, ↓aw_seq, ↓aw_block, ↓aw_exit, ↓aw_ret, ↓sops_nil, ↓sops_go, ↓dops_nil, ↓dopsX_nil, ↓dopsR_nil, ↓vdn, vup, extr_20, extr_21, extr_30, extr_31, extr_32, List.map_cons, List.map_nil, cond_true, cond_false, aop, aThen, aBlock, argEnv, ev, sput, sputO, binK, binI, unK, builtinK, pickK, Nat.reduceBEq, Nat.reduceAdd, Int.reduceBEq, Int.reduceBNe, Int.reduceLT, aPost, resK, tup, tyf, if_true]
    refine ⟨_, rfl, ?_⟩
    rw [decide_eq_false (by decide)]
    symm
    rw [← Bool.not_eq_true]
    intro hc
    have hm : x ∈ xs := by simpa using hc
    obtain ⟨k, hk, he⟩ := List.mem_iff_getElem.1 hm
    exact hno k hk (by rw [List.getD, List.getElem?_eq_getElem hk]; exact he.symm)
theorem icontains_call [Tabs prog] {h : Heap} {v : Value} {xs : List Int} {x : Int} (hv : IntSl h v xs) (hl : xs.length < 9223372036854775807) : APure prog 96 [v, vint x] h (.bool (xs.contains x)) := by
  refine s96_call (by simp) ?_
  simp (maxSteps := 2000000) only [s96, ↓aw_region, ↓aw_skip, ↓aw_seq, ↓aw_block, ↓aw_exit, ↓aw_ret, ↓sops_nil, ↓sops_go, ↓dops_nil, ↓dopsX_nil, ↓dopsR_nil, ↓vdn, vup, extr_20, extr_21, extr_30, extr_31, extr_32, List.map_cons, List.map_nil, cond_true, cond_false, aop, aThen, aBlock, argEnv, ev, sput, sputO, binK, binI, unK, builtinK, pickK, Nat.reduceBEq, Nat.reduceAdd, Int.reduceBEq, Int.reduceBNe, Int.reduceLT, aPost, resK, tup, tyf, callK, List.nil_append, List.append_nil, List.toList_toArray, List.cons_append]
  refine (iindex_call hv hl).mono ?_
  rintro _ h ⟨rfl, z, rfl, hz⟩
  simp (maxSteps := 2000000) only [s96, ↓aw_region, ↓aw_skip, ↓aw_seq, ↓aw_block, ↓aw_exit, ↓aw_ret, ↓sops_nil, ↓sops_go, ↓dops_nil, ↓dopsX_nil, ↓dopsR_nil, ↓vdn, vup, extr_20, extr_21, extr_30, extr_31, extr_32, List.map_cons, List.map_nil, cond_true, cond_false, aop, aThen, aBlock, argEnv, ev, sput, sputO, binK, binI, unK, builtinK, pickK, Nat.reduceBEq, Nat.reduceAdd, Int.reduceBEq, Int.reduceBNe, Int.reduceLT, aPost, resK, tup, tyf, ge_iff_le, hz]

/-- An entry of a triple. -/
def cp (x : T3) (k : Nat) : Int := [x.1, x.2.1, x.2.2].getD k 0
theorem cp_idx {x : T3} {k : Nat} (hk : k < 3) {K : Value → Prop} : indexK prog 40 (tV x) (vint k) K = K (vint (cp x k)) := by
  simp only [indexK, tV, und_40, esz_3, Int.toNat_natCast, Nat.mul_one, partK, shp_3]
  have h1 : (0 : Int) ≤ (k : Nat) := Int.natCast_nonneg k
  have h2 : ((k : Nat) : Int) < (3 : Nat) := Int.ofNat_lt.2 hk
  rcases (show k = 0 ∨ k = 1 ∨ k = 2 by omega) with rfl | rfl | rfl <;> simp [cp]
/-- A triple as it lies. -/
theorem boxT {h : Heap} {x : T3} {K : Value → Heap → Prop} : boxK prog h 40 (tV x) K = K (newPtr h) (h ++ [.cells [vint x.1, vint x.2.1, vint x.2.2] 40 false]) := by
  simp [boxK, esz_40, newPtr, cellsOf, tV]
theorem loadT {h : Heap} {b : Nat} {x : T3} {e : TypeId} {ro : Bool} {K : Value → Prop} (hb : h[b]? = some (.cells [vint x.1, vint x.2.1, vint x.2.2] e ro)) : loadK prog h 40 (.pointer (some ⟨b, 0, none⟩)) K = K (tV x) := loadA hb (by rw [shp_40]; rfl)
theorem storeT {h : Heap} {b : Nat} {x : T3} {e : TypeId} {c : List Value} {K : Heap → Prop} (hb : h[b]? = some (.cells c e false)) (hc : c.length = 3) : storeK prog h 40 (.pointer (some ⟨b, 0, none⟩)) (tV x) K = K (h.set b (.cells [vint x.1, vint x.2.1, vint x.2.2] e false)) :=
  storeA (vs := [vint x.1, vint x.2.1, vint x.2.2]) hb (by rw [shp_40]; rfl) rfl (by rw [hc]; rfl)
/-- The entries so far that are in the other one. -/
def c2 (x y : T3) : Nat → Nat
  | 0 => 0
  | k + 1 => c2 x y k + Pck.inn (cp x k) y
theorem c2_le (x y : T3) : ∀ k, c2 x y k ≤ k
  | 0 => Nat.le_refl _
  | k + 1 => by
    have := c2_le x y k
    rw [c2, Pck.inn]; split <;> omega
theorem c2_three (x y : T3) : c2 x y 3 = Pck.cm2 x y := by simp [c2, Pck.cm2, cp]
theorem arrIn {h : Heap} {b : Nat} {y : T3} {e : TypeId} {ro : Bool} (hb : h[b]? = some (.cells [vint y.1, vint y.2.1, vint y.2.2] e ro)) : IntSl h (.slice (some ⟨b, 0, none⟩) 3 3) [y.1, y.2.1, y.2.2] :=
  .inr ⟨b, 0, none, 3, [vint y.1, vint y.2.1, vint y.2.2], e, ro, rfl, Nat.le_refl _, by simp only [view, hb, Option.bind_some, Blk.view], fun i hi => by
    rcases (show i = 0 ∨ i = 1 ∨ i = 2 by simp at hi; omega) with rfl | rfl | rfl <;> rfl⟩
theorem in_cont (a : Int) (y : T3) : ([y.1, y.2.1, y.2.2] : List Int).contains a = decide (Pck.inn a y = 1) := by
  rw [Bool.eq_iff_iff, decide_eq_true_eq]
  unfold Pck.inn
  by_cases h : a = y.1 ∨ a = y.2.1 ∨ a = y.2.2
  · rw [if_pos h]; simpa using h
  · rw [if_neg h]; simpa using h
theorem common_call [Tabs prog] {h : Heap} (x y : T3) : APure prog 69 [tV x, tV y] h (vint (Pck.cm2 x y : Nat)) := by
  refine ACall.forget (Low.int _ _) ?_
  refine s69_call (by simp) ?_
  have b2 : ∀ {K : Value → Heap → Prop}, boxK prog (h ++ [.cells [vint x.1, vint x.2.1, vint x.2.2] 40 false]) 40 (tV y) K = K (newPtr (h ++ [.cells [vint x.1, vint x.2.1, vint x.2.2] 40 false])) (h ++ [.cells [vint x.1, vint x.2.1, vint x.2.2] 40 false] ++ [.cells [vint y.1, vint y.2.1, vint y.2.2] 40 false]) := fun {K} => boxT
  have hx := get_old (get_new h (Blk.cells [vint x.1, vint x.2.1, vint x.2.2] 40 false)) [.cells [vint y.1, vint y.2.1, vint y.2.2] 40 false]
  have hy := get_new (h ++ [Blk.cells [vint x.1, vint x.2.1, vint x.2.2] 40 false]) (Blk.cells [vint y.1, vint y.2.1, vint y.2.2] 40 false)
  have hE : Ext (fun _ => False) h (h ++ [.cells [vint x.1, vint x.2.1, vint x.2.2] 40 false] ++ [.cells [vint y.1, vint y.2.1, vint y.2.2] 40 false]) := by rw [List.append_assoc]; exact Ext.app _ _ _
  simp (maxSteps := 2000000) only [s69, ↓aw_region, ↓aw_skip, ↓aw_seq, ↓aw_block, ↓aw_exit, ↓aw_ret, ↓sops_nil, ↓sops_go, ↓dops_nil, ↓dopsX_nil, ↓dopsR_nil, ↓vdn, vup, extr_20, extr_21, extr_30, extr_31, extr_32, List.map_cons, List.map_nil, cond_true, cond_false, aop, aThen, aBlock, argEnv, ev, sput, sputO, binK, binI, unK, builtinK, pickK, Nat.reduceBEq, Nat.reduceAdd, Int.reduceBEq, Int.reduceBNe, Int.reduceLT, aPost, resK, tup, tyf, boxT, b2, newPtr, loadT hx, ↓aw_loop_eq]
  generalize h ++ [Blk.cells [vint x.1, vint x.2.1, vint x.2.2] 40 false] ++ [Blk.cells [vint y.1, vint y.2.1, vint y.2.2] 40 false] = h1 at hx hy hE ⊢
  generalize (h ++ [Blk.cells [vint x.1, vint x.2.1, vint x.2.2] 40 false]).length = by' at hy ⊢
  refine aws_hide fun Q hQ => ?_
  refine aw_loop (γ := Nat) (fun k => k ≤ 3)
    (fun k => ([(3, .pointer (some ⟨by', 0, none⟩)), (5, vint (c2 x y k : Nat)), (8, tV x), (9, vint k)], h1)) (fun k => 3 - k) 0 (Nat.zero_le _) (by simp (maxSteps := 2000000) only [↓aw_region, ↓aw_skip, ↓aw_seq, ↓aw_block, ↓aw_exit, ↓aw_ret, ↓sops_nil, ↓sops_go, ↓dops_nil, ↓dopsX_nil, ↓dopsR_nil, ↓vdn, vup, extr_20, extr_21, extr_30, extr_31, extr_32, List.map_cons, List.map_nil, cond_true, cond_false, aop, aThen, aBlock, argEnv, ev, sput, sputO, binK, binI, unK, builtinK, pickK, Nat.reduceBEq, Nat.reduceAdd, Int.reduceBEq, Int.reduceBNe, Int.reduceLT, aPost, resK, tup, tyf, Int.natCast_zero, c2]) rfl ?_
  intro k hk
  refine aw_hide fun Q2 hQ2 => ?_
  by_cases hin : (k : Int) < 3
  · have h1' : k < 3 := by omega
    simp (maxSteps := 2000000) only [s69, ↓aw_region, ↓aw_skip, ↓aw_seq, ↓aw_block, ↓aw_exit, ↓aw_ret, ↓sops_nil, ↓sops_go, ↓dops_nil, ↓dopsX_nil, ↓dopsR_nil, ↓vdn, vup, extr_20, extr_21, extr_30, extr_31, extr_32, List.map_cons, List.map_nil, cond_true, cond_false, aop, aThen, aBlock, argEnv, ev, sput, sputO, binK, binI, unK, builtinK, pickK, Nat.reduceBEq, Nat.reduceAdd, Int.reduceBEq, Int.reduceBNe, Int.reduceLT, aPost, resK, tup, tyf, l69_0, hin, cp_idx h1', arrSliceK, und_40, esz_3, Option.isSome_some, callK, List.nil_append, List.append_nil, List.toList_toArray, List.cons_append]
    refine (icontains_call (arrIn hy) (by simp)).mono ?_
    rintro _ h ⟨rfl, rfl⟩
    have hle := c2_le x y k
    by_cases hc : Pck.inn (cp x k) y = 1
    · have e1 : c2 x y (k + 1) = c2 x y k + 1 := by rw [c2, hc]
      simp (maxSteps := 2000000) only [s69, ↓aw_region, ↓aw_skip, ↓aw_seq, ↓aw_block, ↓aw_exit, ↓aw_ret, ↓sops_nil, ↓sops_go, ↓dops_nil, ↓dopsX_nil, ↓dopsR_nil, ↓vdn, vup, extr_20, extr_21, extr_30, extr_31, extr_32, List.map_cons, List.map_nil, cond_true, cond_false, aop, aThen, aBlock, argEnv, ev, sput, sputO, binK, binI, unK, builtinK, pickK, Nat.reduceBEq, Nat.reduceAdd, Int.reduceBEq, Int.reduceBNe, Int.reduceLT, aPost, resK, tup, tyf, in_cont, decide_eq_true hc, add1 (show c2 x y k < 9223372036854775807 by omega), add1 (show k < 9223372036854775807 by omega)]
      refine hQ2 _ _ _ ⟨k + 1, by omega, by omega, by simp (maxSteps := 2000000) only [↓aw_region, ↓aw_skip, ↓aw_seq, ↓aw_block, ↓aw_exit, ↓aw_ret, ↓sops_nil, ↓sops_go, ↓dops_nil, ↓dopsX_nil, ↓dopsR_nil, ↓vdn, vup, extr_20, extr_21, extr_30, extr_31, extr_32, List.map_cons, List.map_nil, cond_true, cond_false, aop, aThen, aBlock, argEnv, ev, sput, sputO, binK, binI, unK, builtinK, pickK, Nat.reduceBEq, Nat.reduceAdd, Int.reduceBEq, Int.reduceBNe, Int.reduceLT, aPost, resK, tup, tyf, e1], rfl⟩
    · have e1 : c2 x y (k + 1) = c2 x y k := by
        have : Pck.inn (cp x k) y = 0 := by
          unfold Pck.inn at hc ⊢
          split at hc
          · exact absurd rfl hc
          · rename_i h; rw [if_neg h]
        rw [c2, this, Nat.add_zero]
      simp (maxSteps := 2000000) only [s69, ↓aw_region, ↓aw_skip, ↓aw_seq, ↓aw_block, ↓aw_exit, ↓aw_ret, ↓sops_nil, ↓sops_go, ↓dops_nil, ↓dopsX_nil, ↓dopsR_nil, ↓vdn, vup, extr_20, extr_21, extr_30, extr_31, extr_32, List.map_cons, List.map_nil, cond_true, cond_false, aop, aThen, aBlock, argEnv, ev, sput, sputO, binK, binI, unK, builtinK, pickK, Nat.reduceBEq, Nat.reduceAdd, Int.reduceBEq, Int.reduceBNe, Int.reduceLT, aPost, resK, tup, tyf, in_cont, decide_eq_false hc, add1 (show k < 9223372036854775807 by omega)]
      refine hQ2 _ _ _ ⟨k + 1, by omega, by omega, by simp (maxSteps := 2000000) only [↓aw_region, ↓aw_skip, ↓aw_seq, ↓aw_block, ↓aw_exit, ↓aw_ret, ↓sops_nil, ↓sops_go, ↓dops_nil, ↓dopsX_nil, ↓dopsR_nil, ↓vdn, vup, extr_20, extr_21, extr_30, extr_31, extr_32, List.map_cons, List.map_nil, cond_true, cond_false, aop, aThen, aBlock, argEnv, ev, sput, sputO, binK, binI, unK, builtinK, pickK, Nat.reduceBEq, Nat.reduceAdd, Int.reduceBEq, Int.reduceBNe, Int.reduceLT, aPost, resK, tup, tyf, e1], rfl⟩
  · obtain rfl : k = 3 := by omega
    simp (maxSteps := 2000000) only [s69, ↓aw_region, ↓aw_skip, ↓aw_seq, ↓aw_block, ↓aw_exit, ↓aw_ret, ↓sops_nil, ↓sops_go, ↓dops_nil, ↓dopsX_nil, ↓dopsR_nil, ↓vdn, vup, extr_20, extr_21, extr_30, extr_31, extr_32, List.map_cons, List.map_nil, cond_true, cond_false, aop, aThen, aBlock, argEnv, ev, sput, sputO, binK, binI, unK, builtinK, pickK, Nat.reduceBEq, Nat.reduceAdd, Int.reduceBEq, Int.reduceBNe, Int.reduceLT, aPost, resK, tup, tyf, l69_0, hin]
    refine hQ2 _ _ _ (hQ _ _ _ ?_)
    simp (maxSteps := 2000000) only [s69, ↓aw_region, ↓aw_skip, ↓aw_seq, ↓aw_block, ↓aw_exit, ↓aw_ret, ↓sops_nil, ↓sops_go, ↓dops_nil, ↓dopsX_nil, ↓dopsR_nil, ↓vdn, vup, extr_20, extr_21, extr_30, extr_31, extr_32, List.map_cons, List.map_nil, cond_true, cond_false, aop, aThen, aBlock, argEnv, ev, sput, sputO, binK, binI, unK, builtinK, pickK, Nat.reduceBEq, Nat.reduceAdd, Int.reduceBEq, Int.reduceBNe, Int.reduceLT, aPost, resK, tup, tyf, c2_three]
    exact hE

/-- One entry among the first ones of the other. -/
def ci (a : Int) (y : T3) : Nat → Nat
  | 0 => 0
  | k + 1 => ci a y k + if a = cp y k then 1 else 0
def c1 (x y : T3) : Nat → Nat
  | 0 => 0
  | k + 1 => c1 x y k + ci (cp x k) y 3
theorem ci_le (a : Int) (y : T3) : ∀ k, ci a y k ≤ k
  | 0 => Nat.le_refl _
  | k + 1 => by
    have := ci_le a y k
    rw [ci]; split <;> omega
theorem c1_le (x y : T3) : ∀ k, c1 x y k ≤ 3 * k
  | 0 => Nat.le_refl _
  | k + 1 => by
    have := c1_le x y k
    have := ci_le (cp x k) y 3
    rw [c1]; omega
theorem c1_three (x y : T3) : c1 x y 3 = Pck.cm x y := by simp [c1, ci, Pck.cm, cp]
theorem rcommon_call [Tabs prog] {h : Heap} (x y : T3) : APure prog 70 [tV x, tV y] h (vint (Pck.cm x y : Nat)) := by
  refine ACall.forget (Low.int _ _) ?_
  refine s70_call (by simp) ?_
  have b2 : ∀ {K : Value → Heap → Prop}, boxK prog (h ++ [.cells [vint x.1, vint x.2.1, vint x.2.2] 40 false]) 40 (tV y) K = K (newPtr (h ++ [.cells [vint x.1, vint x.2.1, vint x.2.2] 40 false])) (h ++ [.cells [vint x.1, vint x.2.1, vint x.2.2] 40 false] ++ [.cells [vint y.1, vint y.2.1, vint y.2.2] 40 false]) := fun {K} => boxT
  have hx := get_old (get_new h (Blk.cells [vint x.1, vint x.2.1, vint x.2.2] 40 false)) [.cells [vint y.1, vint y.2.1, vint y.2.2] 40 false]
  have hy := get_new (h ++ [Blk.cells [vint x.1, vint x.2.1, vint x.2.2] 40 false]) (Blk.cells [vint y.1, vint y.2.1, vint y.2.2] 40 false)
  have hE : Ext (fun _ => False) h (h ++ [.cells [vint x.1, vint x.2.1, vint x.2.2] 40 false] ++ [.cells [vint y.1, vint y.2.1, vint y.2.2] 40 false]) := by rw [List.append_assoc]; exact Ext.app _ _ _
  simp (maxSteps := 2000000) only [s70, ↓aw_region, ↓aw_skip, ↓aw_seq, ↓aw_block, ↓aw_exit, ↓aw_ret, ↓sops_nil, ↓sops_go, ↓dops_nil, ↓dopsX_nil, ↓dopsR_nil, ↓vdn, vup, extr_20, extr_21, extr_30, extr_31, extr_32, List.map_cons, List.map_nil, cond_true, cond_false, aop, aThen, aBlock, argEnv, ev, sput, sputO, binK, binI, unK, builtinK, pickK, Nat.reduceBEq, Nat.reduceAdd, Int.reduceBEq, Int.reduceBNe, Int.reduceLT, aPost, resK, tup, tyf, boxT, b2, newPtr, loadT hx, ↓aw_loop_eq]
  generalize h ++ [Blk.cells [vint x.1, vint x.2.1, vint x.2.2] 40 false] ++ [Blk.cells [vint y.1, vint y.2.1, vint y.2.2] 40 false] = h1 at hx hy hE ⊢
  generalize (h ++ [Blk.cells [vint x.1, vint x.2.1, vint x.2.2] 40 false]).length = by' at hy ⊢
  refine aws_hide fun Q hQ => ?_
  refine aw_loop (γ := Nat) (fun k => k ≤ 3)
    (fun k => ([(3, .pointer (some ⟨by', 0, none⟩)), (5, vint (c1 x y k : Nat)), (10, tV x), (11, vint k)], h1)) (fun k => 3 - k) 0 (Nat.zero_le _) (by simp (maxSteps := 2000000) only [↓aw_region, ↓aw_skip, ↓aw_seq, ↓aw_block, ↓aw_exit, ↓aw_ret, ↓sops_nil, ↓sops_go, ↓dops_nil, ↓dopsX_nil, ↓dopsR_nil, ↓vdn, vup, extr_20, extr_21, extr_30, extr_31, extr_32, List.map_cons, List.map_nil, cond_true, cond_false, aop, aThen, aBlock, argEnv, ev, sput, sputO, binK, binI, unK, builtinK, pickK, Nat.reduceBEq, Nat.reduceAdd, Int.reduceBEq, Int.reduceBNe, Int.reduceLT, aPost, resK, tup, tyf, Int.natCast_zero, c1]) rfl ?_
  intro k hk
  refine aw_hide fun Q2 hQ2 => ?_
  by_cases hin : (k : Int) < 3
  · have h1' : k < 3 := by omega
    have hle := c1_le x y k
    simp (maxSteps := 2000000) only [s70, ↓aw_region, ↓aw_skip, ↓aw_seq, ↓aw_block, ↓aw_exit, ↓aw_ret, ↓sops_nil, ↓sops_go, ↓dops_nil, ↓dopsX_nil, ↓dopsR_nil, ↓vdn, vup, extr_20, extr_21, extr_30, extr_31, extr_32, List.map_cons, List.map_nil, cond_true, cond_false, aop, aThen, aBlock, argEnv, ev, sput, sputO, binK, binI, unK, builtinK, pickK, Nat.reduceBEq, Nat.reduceAdd, Int.reduceBEq, Int.reduceBNe, Int.reduceLT, aPost, resK, tup, tyf, l70_1, hin, cp_idx h1', loadT hy, ↓aw_loop_eq]
    refine aws_hide fun Q3 hQ3 => ?_
    refine aw_loop (γ := Nat) (fun j => j ≤ 3)
      (fun j => ([(3, .pointer (some ⟨by', 0, none⟩)), (5, vint (c1 x y k + ci (cp x k) y j : Nat)), (7, vint (cp x k)), (10, tV x), (11, vint k), (14, tV y), (15, vint j)], h1)) (fun j => 3 - j) 0 (Nat.zero_le _) (by simp (maxSteps := 2000000) only [↓aw_region, ↓aw_skip, ↓aw_seq, ↓aw_block, ↓aw_exit, ↓aw_ret, ↓sops_nil, ↓sops_go, ↓dops_nil, ↓dopsX_nil, ↓dopsR_nil, ↓vdn, vup, extr_20, extr_21, extr_30, extr_31, extr_32, List.map_cons, List.map_nil, cond_true, cond_false, aop, aThen, aBlock, argEnv, ev, sput, sputO, binK, binI, unK, builtinK, pickK, Nat.reduceBEq, Nat.reduceAdd, Int.reduceBEq, Int.reduceBNe, Int.reduceLT, aPost, resK, tup, tyf, Int.natCast_zero, ci, Nat.add_zero]) rfl ?_
    intro j hj
    refine aw_hide fun Q4 hQ4 => ?_
    have hle2 := ci_le (cp x k) y j
    by_cases hin2 : (j : Int) < 3
    · have h2' : j < 3 := by omega
      by_cases he : cp x k = cp y j
      · have e1 : c1 x y k + ci (cp x k) y (j + 1) = c1 x y k + ci (cp x k) y j + 1 := by rw [ci, if_pos he]; omega
        have hb : (cp x k == cp y j) = true := beq_iff_eq.2 he
        simp (maxSteps := 2000000) only [s70, ↓aw_region, ↓aw_skip, ↓aw_seq, ↓aw_block, ↓aw_exit, ↓aw_ret, ↓sops_nil, ↓sops_go, ↓dops_nil, ↓dopsX_nil, ↓dopsR_nil, ↓vdn, vup, extr_20, extr_21, extr_30, extr_31, extr_32, List.map_cons, List.map_nil, cond_true, cond_false, aop, aThen, aBlock, argEnv, ev, sput, sputO, binK, binI, unK, builtinK, pickK, Nat.reduceBEq, Nat.reduceAdd, Int.reduceBEq, Int.reduceBNe, Int.reduceLT, aPost, resK, tup, tyf, l70_0, hin2, cp_idx h2', hb, add1 (show c1 x y k + ci (cp x k) y j < 9223372036854775807 by omega), add1 (show j < 9223372036854775807 by omega)]
        refine hQ4 _ _ _ ⟨j + 1, by omega, by omega, by simp (maxSteps := 2000000) only [↓aw_region, ↓aw_skip, ↓aw_seq, ↓aw_block, ↓aw_exit, ↓aw_ret, ↓sops_nil, ↓sops_go, ↓dops_nil, ↓dopsX_nil, ↓dopsR_nil, ↓vdn, vup, extr_20, extr_21, extr_30, extr_31, extr_32, List.map_cons, List.map_nil, cond_true, cond_false, aop, aThen, aBlock, argEnv, ev, sput, sputO, binK, binI, unK, builtinK, pickK, Nat.reduceBEq, Nat.reduceAdd, Int.reduceBEq, Int.reduceBNe, Int.reduceLT, aPost, resK, tup, tyf, e1], rfl⟩
      · have e1 : c1 x y k + ci (cp x k) y (j + 1) = c1 x y k + ci (cp x k) y j := by rw [ci, if_neg he]; omega
        have hb : (cp x k == cp y j) = false := beq_eq_false_iff_ne.2 he
        simp (maxSteps := 2000000) only [s70, ↓aw_region, ↓aw_skip, ↓aw_seq, ↓aw_block, ↓aw_exit, ↓aw_ret, ↓sops_nil, ↓sops_go, ↓dops_nil, ↓dopsX_nil, ↓dopsR_nil, ↓vdn, vup, extr_20, extr_21, extr_30, extr_31, extr_32, List.map_cons, List.map_nil, cond_true, cond_false, aop, aThen, aBlock, argEnv, ev, sput, sputO, binK, binI, unK, builtinK, pickK, Nat.reduceBEq, Nat.reduceAdd, Int.reduceBEq, Int.reduceBNe, Int.reduceLT, aPost, resK, tup, tyf, l70_0, hin2, cp_idx h2', hb, add1 (show j < 9223372036854775807 by omega)]
        refine hQ4 _ _ _ ⟨j + 1, by omega, by omega, by simp (maxSteps := 2000000) only [↓aw_region, ↓aw_skip, ↓aw_seq, ↓aw_block, ↓aw_exit, ↓aw_ret, ↓sops_nil, ↓sops_go, ↓dops_nil, ↓dopsX_nil, ↓dopsR_nil, ↓vdn, vup, extr_20, extr_21, extr_30, extr_31, extr_32, List.map_cons, List.map_nil, cond_true, cond_false, aop, aThen, aBlock, argEnv, ev, sput, sputO, binK, binI, unK, builtinK, pickK, Nat.reduceBEq, Nat.reduceAdd, Int.reduceBEq, Int.reduceBNe, Int.reduceLT, aPost, resK, tup, tyf, e1], rfl⟩
    · obtain rfl : j = 3 := by omega
      simp (maxSteps := 2000000) only [s70, ↓aw_region, ↓aw_skip, ↓aw_seq, ↓aw_block, ↓aw_exit, ↓aw_ret, ↓sops_nil, ↓sops_go, ↓dops_nil, ↓dopsX_nil, ↓dopsR_nil, ↓vdn, vup, extr_20, extr_21, extr_30, extr_31, extr_32, List.map_cons, List.map_nil, cond_true, cond_false, aop, aThen, aBlock, argEnv, ev, sput, sputO, binK, binI, unK, builtinK, pickK, Nat.reduceBEq, Nat.reduceAdd, Int.reduceBEq, Int.reduceBNe, Int.reduceLT, aPost, resK, tup, tyf, l70_0, hin2]
      refine hQ4 _ _ _ (hQ3 _ _ _ ?_)
      simp (maxSteps := 2000000) only [s70, ↓aw_region, ↓aw_skip, ↓aw_seq, ↓aw_block, ↓aw_exit, ↓aw_ret, ↓sops_nil, ↓sops_go, ↓dops_nil, ↓dopsX_nil, ↓dopsR_nil, ↓vdn, vup, extr_20, extr_21, extr_30, extr_31, extr_32, List.map_cons, List.map_nil, cond_true, cond_false, aop, aThen, aBlock, argEnv, ev, sput, sputO, binK, binI, unK, builtinK, pickK, Nat.reduceBEq, Nat.reduceAdd, Int.reduceBEq, Int.reduceBNe, Int.reduceLT, aPost, resK, tup, tyf, add1 (show k < 9223372036854775807 by omega)]
      refine hQ2 _ _ _ ⟨k + 1, by omega, by omega, by simp (maxSteps := 2000000) only [↓aw_region, ↓aw_skip, ↓aw_seq, ↓aw_block, ↓aw_exit, ↓aw_ret, ↓sops_nil, ↓sops_go, ↓dops_nil, ↓dopsX_nil, ↓dopsR_nil, ↓vdn, vup, extr_20, extr_21, extr_30, extr_31, extr_32, List.map_cons, List.map_nil, cond_true, cond_false, aop, aThen, aBlock, argEnv, ev, sput, sputO, binK, binI, unK, builtinK, pickK, Nat.reduceBEq, Nat.reduceAdd, Int.reduceBEq, Int.reduceBNe, Int.reduceLT, aPost, resK, tup, tyf, c1], rfl⟩
  · obtain rfl : k = 3 := by omega
    simp (maxSteps := 2000000) only [s70, ↓aw_region, ↓aw_skip, ↓aw_seq, ↓aw_block, ↓aw_exit, ↓aw_ret, ↓sops_nil, ↓sops_go, ↓dops_nil, ↓dopsX_nil, ↓dopsR_nil, ↓vdn, vup, extr_20, extr_21, extr_30, extr_31, extr_32, List.map_cons, List.map_nil, cond_true, cond_false, aop, aThen, aBlock, argEnv, ev, sput, sputO, binK, binI, unK, builtinK, pickK, Nat.reduceBEq, Nat.reduceAdd, Int.reduceBEq, Int.reduceBNe, Int.reduceLT, aPost, resK, tup, tyf, l70_1, hin]
    refine hQ2 _ _ _ (hQ _ _ _ ?_)
    simp (maxSteps := 2000000) only [s70, ↓aw_region, ↓aw_skip, ↓aw_seq, ↓aw_block, ↓aw_exit, ↓aw_ret, ↓sops_nil, ↓sops_go, ↓dops_nil, ↓dopsX_nil, ↓dopsR_nil, ↓vdn, vup, extr_20, extr_21, extr_30, extr_31, extr_32, List.map_cons, List.map_nil, cond_true, cond_false, aop, aThen, aBlock, argEnv, ev, sput, sputO, binK, binI, unK, builtinK, pickK, Nat.reduceBEq, Nat.reduceAdd, Int.reduceBEq, Int.reduceBNe, Int.reduceLT, aPost, resK, tup, tyf, c1_three]
    exact hE
end Go.Proofs.Tryd.Am

namespace Go.Proofs.Tryd.Am
open Go.Am
set_option maxRecDepth 100000
set_option maxHeartbeats 1000000

abbrev ptP (b : Nat) : Value := .pointer (some ⟨b, 0, none⟩)
/-- Whether one of the packing has too much in common with the next one. -/
theorem common1_call [Tabs prog] {h : Heap} {na bx i : Nat} {av : Value} {D : List T3} {ro : Bool} (ha : h[na]? = some (.cells [av] 36 ro)) (hx : h[bx]? = some (.cells [vint i] 3 false)) (hv : TripSl h av D) (hi : i < D.length) (hd : Pck.Dist (D.getD i Go.Am.t0)) (x : T3) :
    APure prog 68 [tV x, ptP na, ptP bx] h (.bool (!Pck.okT x (D.getD i Go.Am.t0))) := by
  refine ACall.forget (Low.bool _) ?_
  refine s68_call (by simp) ?_
  have c0 := get_new h (Blk.cells [vint x.1, vint x.2.1, vint x.2.2] 40 false)
  have ha1 := get_old ha [Blk.cells [vint x.1, vint x.2.1, vint x.2.2] 40 false]
  have hx1 := get_old hx [Blk.cells [vint x.1, vint x.2.1, vint x.2.2] 40 false]
  have hE : Ext (fun _ => False) h (h ++ [Blk.cells [vint x.1, vint x.2.1, vint x.2.2] 40 false]) := Ext.app _ _ _
  have hv1 := hv.ext hE
  simp (maxSteps := 2000000) only [s68, ↓aw_region, ↓aw_skip, ↓aw_seq, ↓aw_block, ↓aw_exit, ↓aw_ret, ↓sops_nil, ↓sops_go, ↓dops_nil, ↓dopsX_nil, ↓dopsR_nil, ↓vdn, vup, extr_20, extr_21, extr_30, extr_31, extr_32, List.map_cons, List.map_nil, cond_true, cond_false, aop, aThen, aBlock, argEnv, ev, sput, sputO, binK, binI, unK, builtinK, pickK, Nat.reduceBEq, Nat.reduceAdd, Int.reduceBEq, Int.reduceBNe, Int.reduceLT, aPost, resK, tup, tyf, boxT, newPtr]
  generalize h ++ [Blk.cells [vint x.1, vint x.2.1, vint x.2.2] 40 false] = h1 at c0 ha1 hx1 hv1 hE ⊢
  have hgt : decide ((1 : Int) < ((Pck.cm2 x (D.getD i Go.Am.t0) : Nat) : Int)) = !Pck.okT x (D.getD i Go.Am.t0) := by
    rw [Pck.cm2_eq hd, Pck.okT, ← decide_not]
    exact decide_eq_decide.2 (by omega)
  refine aw_drawX [(5, 1)] (by kernel_rfl) (by kernel_rfl) (by kernel_rfl) (by kernel_rfl) ?_
  simp (maxSteps := 2000000) only [s68, ↓aw_region, ↓aw_skip, ↓aw_seq, ↓aw_block, ↓aw_exit, ↓aw_ret, ↓sops_nil, ↓sops_go, ↓dops_nil, ↓dopsX_nil, ↓dopsR_nil, ↓vdn, vup, extr_20, extr_21, extr_30, extr_31, extr_32, List.map_cons, List.map_nil, cond_true, cond_false, aop, aThen, aBlock, argEnv, ev, sput, sputO, binK, binI, unK, builtinK, pickK, Nat.reduceBEq, Nat.reduceAdd, Int.reduceBEq, Int.reduceBNe, Int.reduceLT, aPost, resK, tup, tyf, loadT c0, load1 ha1 shp_36, load1 hx1 shp_3, hv1.idx el_36 esz_40 hi, hv1.load shp_40 hi, callK, List.nil_append, List.append_nil, List.toList_toArray, List.cons_append]
  refine ⟨_, _, common_call x (D.getD i Go.Am.t0), rfl, ?_⟩
  simp (maxSteps := 2000000) only [s68, ↓aw_region, ↓aw_skip, ↓aw_seq, ↓aw_block, ↓aw_exit, ↓aw_ret, ↓sops_nil, ↓sops_go, ↓dops_nil, ↓dopsX_nil, ↓dopsR_nil, ↓vdn, vup, extr_20, extr_21, extr_30, extr_31, extr_32, List.map_cons, List.map_nil, cond_true, cond_false, aop, aThen, aBlock, argEnv, ev, sput, sputO, binK, binI, unK, builtinK, pickK, Nat.reduceBEq, Nat.reduceAdd, Int.reduceBEq, Int.reduceBNe, Int.reduceLT, aPost, resK, tup, tyf, gt_iff_lt, hgt]
  exact hE

theorem lit0T {h : Heap} (K : Value → Heap → Prop) : buildSliceK prog h 36 0 [] K = K (.slice (some ⟨h.length, 0, none⟩) 0 0) (h ++ [.ints [] 40 false]) := by
  simp only [buildSliceK, el_36, zero_40, esz_40, reps, fillL, mkb, intsOf, List.length_cons, List.length_nil, Nat.mul_one, Nat.zero_mul]
  exact propext ⟨fun h => h.2.2.2, fun h => ⟨trivial, by decide, by decide, h⟩⟩
theorem clonet_call [Tabs prog] {h : Heap} {v : Value} {ts : List T3} (hv : TripSl h v ts) (hx : ts ≠ []) (hl : ts.length < 1099511627776) : ACall prog 66 [v] h fun r h' => OwnT 40 h' r ts ∧ Ext (fun _ => False) h h' ∧ ∃ b, blkOf r = some b ∧ h.length ≤ b := by
  refine s66_call (by simp) ?_
  have hv' := hv
  rcases hv with ⟨rfl, rfl⟩ | ⟨b, o, sp, cap, c, e, ro, rfl, hc, hb, _⟩
  · exact absurd rfl hx
  · simp (maxSteps := 2000000) only [s66, ↓aw_region, ↓aw_skip, ↓aw_seq, ↓aw_block, ↓aw_exit, ↓aw_ret, ↓sops_nil, ↓sops_go, ↓dops_nil, ↓dopsX_nil, ↓dopsR_nil, ↓vdn, vup, extr_20, extr_21, extr_30, extr_31, extr_32, List.map_cons, List.map_nil, cond_true, cond_false, aop, aThen, aBlock, argEnv, ev, sput, sputO, binK, binI, unK, builtinK, pickK, Nat.reduceBEq, Nat.reduceAdd, Int.reduceBEq, Int.reduceBNe, Int.reduceLT, aPost, resK, tup, tyf, Option.isSome_some, List.toList_toArray, lit0T]
    refine (hv'.ext (Ext.app _ _ _)).copyOwn hx app_36_36 hl (get_new _ _) ?_
    refine ⟨OwnT.new _ _ hx, by rw [List.append_assoc]; exact Ext.app _ _ _, _, rfl, by simp⟩

/-- The search under way: the boxes of the best packing and of the present one. -/
structure PS (h0 : Heap) (na : Nat) (hp : Heap) (nv bv : Value) (now best : List T3) : Prop where
  len0 : h0.length = na + 4
  len : h0.length ≤ hp.length
  keep : ∀ i, i < na + 4 → i ≠ na + 1 → i ≠ na + 2 → hp[i]? = h0[i]?
  b : hp[na + 1]? = some (.cells [bv] 36 false)
  n : hp[na + 2]? = some (.cells [nv] 36 false)
  ob : OwnT 40 hp bv best
  on : OwnT 40 hp nv now
  lb : ∀ b, blkOf bv = some b → na + 4 ≤ b
  ln : ∀ b, blkOf nv = some b → na + 4 ≤ b
  ne : ∀ b, blkOf nv = some b → blkOf bv ≠ some b
def pS (na : Nat) (nv bv : Value) (i : Nat) : Prop := i = na + 1 ∨ i = na + 2 ∨ blkOf nv = some i ∨ blkOf bv = some i
def Mp (na : Nat) (h : Heap) (nv bv : Value) (h' : Heap) (nv' bv' : Value) : Prop :=
  Ext (pS na nv bv) h h' ∧ (blkOf nv' = blkOf nv ∨ ∃ b, blkOf nv' = some b ∧ h.length ≤ b) ∧ (blkOf bv' = blkOf bv ∨ ∃ b, blkOf bv' = some b ∧ h.length ≤ b)
section
variable {h0 h hp hq : Heap} {na : Nat} {nv bv nv' bv' nv2 bv2 : Value} {now best now' : List T3}
theorem Mp.new (hE : Ext (fun _ => False) hp hq) : Mp na hp nv bv hq nv bv := ⟨hE.mono fun _ h => h.elim, .inl rfl, .inl rfl⟩
theorem Mp.trans (a : Mp na h nv bv hp nv' bv') (b : Mp na hp nv' bv' hq nv2 bv2) : Mp na h nv bv hq nv2 bv2 := by
  have hl := a.1.1
  refine ⟨⟨Nat.le_trans hl b.1.1, fun i hi hs => ?_⟩, ?_, ?_⟩
  · rw [b.1.2 i (by omega) ?_, a.1.2 i hi hs]
    rintro (h1 | h1 | h1 | h1)
    · exact hs (.inl h1)
    · exact hs (.inr (.inl h1))
    · rcases a.2.1 with h2 | ⟨b', h2, h3⟩
      · exact hs (.inr (.inr (.inl (h2 ▸ h1))))
      · rw [h2] at h1; cases h1; omega
    · rcases a.2.2 with h2 | ⟨b', h2, h3⟩
      · exact hs (.inr (.inr (.inr (h2 ▸ h1))))
      · rw [h2] at h1; cases h1; omega
  · rcases b.2.1 with h1 | ⟨b', h1, h2⟩
    · rw [h1]; exact a.2.1
    · exact .inr ⟨b', h1, by omega⟩
  · rcases b.2.2 with h1 | ⟨b', h1, h2⟩
    · rw [h1]; exact a.2.2
    · exact .inr ⟨b', h1, by omega⟩
theorem Mp.box (m : Mp na hp nv bv hq nv' bv') (s : PS h0 na hp nv bv now best) {j : Nat} {c : List Value} {e : TypeId} {ro : Bool} (hj : hp[j]? = some (.cells c e ro)) (hn : na + 4 ≤ j) : hq[j]? = some (.cells c e ro) := by
  rw [m.1.2 j (get_lt hj) ?_]
  · exact hj
  · rintro (h1 | h1 | h1 | h1)
    · omega
    · omega
    · exact s.on.notCells hj h1
    · exact s.ob.notCells hj h1
theorem PS.new (s : PS h0 na hp nv bv now best) (hE : Ext (fun _ => False) hp hq) : PS h0 na hq nv bv now best where
  len0 := s.len0
  len := Nat.le_trans s.len hE.1
  keep i h1 h2 h3 := by rw [hE.2 i (by have := s.len; have := s.len0; omega) id]; exact s.keep i h1 h2 h3
  b := (hE.2 _ (get_lt s.b) id).trans s.b
  n := (hE.2 _ (get_lt s.n) id).trans s.n
  ob := s.ob.ext hE
  on := s.on.ext hE
  lb := s.lb
  ln := s.ln
  ne := s.ne
/-- A new best one. -/
theorem PS.newBest (s : PS h0 na hp nv bv now best) {ts : List T3} (hE : Ext (fun _ => False) hp hq) (ho : OwnT 40 hq bv' ts) {b : Nat} (hb : blkOf bv' = some b) (hbl : hp.length ≤ b) :
    PS h0 na (hq.set (na + 1) (.cells [bv'] 36 false)) nv bv' now ts ∧ Mp na hp nv bv (hq.set (na + 1) (.cells [bv'] 36 false)) nv bv' := by
  have s' := s.new hE
  have l0 := s.len0
  have l1 := s.len
  have l2 := get_lt s'.b
  have hbn : na + 4 ≤ b := by omega
  refine ⟨⟨s'.len0, by simpa using s'.len, fun i h1 h2 h3 => ?_, get_set l2 _, ?_, ?_, ?_, ?_, s'.ln, fun b1 h1 h2 => ?_⟩, ?_, .inl rfl, .inr ⟨b, hb, hbl⟩⟩
  · rw [List.getElem?_set_ne (by omega)]; exact s'.keep i h1 h2 h3
  · rw [List.getElem?_set_ne (by omega)]; exact s'.n
  · exact ho.same fun b1 h1 => List.getElem?_set_ne (by rw [hb] at h1; cases h1; omega)
  · exact s'.on.same fun b1 h1 => List.getElem?_set_ne (by have := s.ln b1 h1; omega)
  · intro b1 h1; rw [hb] at h1; cases h1; exact hbn
  · rw [hb] at h2; cases h2
    have := s.on.lt h1; omega
  · exact (hE.mono fun _ h => h.elim).trans (Ext.set _ (.inl rfl))
/-- Another present one. -/
theorem PS.pres (s : PS h0 na hp nv bv now best) (hE : Ext (fun i => blkOf nv = some i) hp hq) (ho : OwnT 40 hq nv' now') (hb : blkOf nv' = blkOf nv ∨ ∃ b, blkOf nv' = some b ∧ hp.length ≤ b) :
    PS h0 na (hq.set (na + 2) (.cells [nv'] 36 false)) nv' bv now' best ∧ Mp na hp nv bv (hq.set (na + 2) (.cells [nv'] 36 false)) nv' bv := by
  have l0 := s.len0
  have l1 := s.len
  have l2 := hE.1
  have hnb : ∀ b, blkOf nv' = some b → na + 4 ≤ b := fun b h1 => by
    rcases hb with h2 | ⟨b', h2, h3⟩
    · exact s.ln b (h2 ▸ h1)
    · rw [h2] at h1; cases h1; omega
  have hne : ∀ b, blkOf nv' = some b → blkOf bv ≠ some b := fun b h1 h4 => by
    rcases hb with h2 | ⟨b', h2, h3⟩
    · exact s.ne b (h2 ▸ h1) h4
    · rw [h2] at h1; cases h1; have := s.ob.lt h4; omega
  have out : ∀ i, i < na + 4 → hq[i]? = hp[i]? := fun i hi => hE.2 i (by omega) fun h1 => by have := s.ln i h1; omega
  refine ⟨⟨s.len0, by simp; omega, fun i h1 h2 h3 => ?_, ?_, get_set (by omega) _, ?_, ?_, s.lb, hnb, hne⟩, ?_, hb, .inl rfl⟩
  · rw [List.getElem?_set_ne (by omega), out i h1]; exact s.keep i h1 h2 h3
  · rw [List.getElem?_set_ne (by omega), out _ (by omega)]; exact s.b
  · exact s.ob.same fun b1 h1 => by
      have := s.lb b1 h1
      rw [List.getElem?_set_ne (by omega), hE.2 b1 (s.ob.lt h1) fun h2 => s.ne b1 h2 h1]
  · exact ho.same fun b1 h1 => List.getElem?_set_ne (by have := hnb b1 h1; omega)
  · exact (hE.mono fun i h => .inr (.inr (.inl h))).trans (Ext.set _ (.inr (.inl rfl)))
/-- A box of the run's own turns. -/
theorem PS.box (s : PS h0 na hp nv bv now best) {j : Nat} {c : List Value} {e : TypeId} {ro : Bool} (hj : hp[j]? = some (.cells c e ro)) (hn : na + 4 ≤ j) (B : Blk) : PS h0 na (hp.set j B) nv bv now best where
  len0 := s.len0
  len := by rw [List.length_set]; exact s.len
  keep i h1 h2 h3 := by rw [List.getElem?_set_ne (by omega)]; exact s.keep i h1 h2 h3
  b := by rw [List.getElem?_set_ne (by omega)]; exact s.b
  n := by rw [List.getElem?_set_ne (by omega)]; exact s.n
  ob := s.ob.same fun b1 h1 => List.getElem?_set_ne fun h2 => by subst h2; exact s.ob.notCells hj h1
  on := s.on.same fun b1 h1 => List.getElem?_set_ne fun h2 => by subst h2; exact s.on.notCells hj h1
  lb := s.lb
  ln := s.ln
  ne := s.ne
end
end Go.Proofs.Tryd.Am

namespace Go.Proofs.Tryd.Am
open Go.Am
set_option maxRecDepth 100000
set_option maxHeartbeats 1000000

theorem Mp.set {hp hq : Heap} {na : Nat} {nv bv nv' bv' : Value} (m : Mp na hp nv bv hq nv' bv') {j : Nat} (hj : hp.length ≤ j) (B : Blk) : Mp na hp nv bv (hq.set j B) nv' bv' :=
  ⟨⟨by rw [List.length_set]; exact m.1.1, fun i hi hs => by rw [List.getElem?_set_ne (by omega)]; exact m.1.2 i hi hs⟩, m.2⟩
theorem s65_callW [Tabs Tryd.prog] {args : List Value} {h : Heap} {Q : Value → Heap → Prop} (hsz : args.length ≤ 52) (hk : AWS Tryd.prog 52 s65 (aPost Tryd.prog [] Q) (argEnv 0 args) h) : ACall Tryd.prog 65 args h Q :=
  acall_w Tryd.func65 rfl (enters_of Tryd.func65 (by kernel_rfl) rfl) rfl rfl (by decide) s65_strip s65_ok hsz hk
theorem litT' {h : Heap} {x : T3} {K : Value → Heap → Prop} : buildSliceK prog h 36 1 [(0, tV x)] K = K (.slice (some ⟨h.length, 0, none⟩) 1 1) (h ++ [.ints [x.1, x.2.1, x.2.2] 40 false]) := litT el_36 zero_40 esz_40 K
/-- The search, as a closure. -/
def pgV (na : Nat) : Value := .func (.func 65) #[] #[ptP (na + 2), ptP (na + 1), ptP na, ptP (na + 3)]
theorem drop_cons {D : List T3} {i : Nat} (hi : i < D.length) : D.drop i = D.getD i Go.Am.t0 :: D.drop (i + 1) := by
  rw [List.drop_eq_getElem_cons hi, List.getD, List.getElem?_eq_getElem hi]; rfl
theorem fits_any (now : List T3) (c : T3) : (!(now.any fun x => !Pck.okT x c)) = Pck.fits Pck.okT now c := by
  rw [Pck.fits, List.not_any_eq_all_not]; simp
theorem pgrow_call [Tabs prog] {h0 : Heap} {na : Nat} {av : Value} {D : List T3} (ha : h0[na]? = some (.cells [av] 36 false)) (hg : h0[na + 3]? = some (.cells [pgV na] 63 false)) (hD : TripSl h0 av D) (hab : ∀ b, blkOf av = some b → b < na)
    (hl : D.length ≤ 1024) (hd : ∀ i, i < D.length → Pck.Dist (D.getD i Go.Am.t0)) :
    ∀ (d fr : Nat), D.length - fr = d → fr ≤ D.length → ∀ (hp : Heap) (nv bv : Value) (now best : List T3), PS h0 na hp nv bv now best → now.length ≤ fr → best.length ≤ 1024 →
      ACall prog 65 [vint fr, ptP (na + 2), ptP (na + 1), ptP na, ptP (na + 3)] hp fun _ h' => ∃ nv' bv', PS h0 na h' nv' bv' now (Pck.go Pck.okT (D.drop fr) now best) ∧ Mp na hp nv bv h' nv' bv' := by
  intro d
  induction d using Nat.strongRecOn with
  | ind d ih =>
  intro fr hdf hfl hp nv bv now best s hnl hbl
  have hDp : ∀ {hq nw bw now' best'}, PS h0 na hq nw bw now' best' → TripSl hq av D := fun {hq nw bw now' best'} s => hD.same fun b hb => s.keep b (by have := hab b hb; omega) (by have := hab b hb; omega) (by have := hab b hb; omega)
  have hap : ∀ {hq nw bw now' best'}, PS h0 na hq nw bw now' best' → hq[na]? = some (.cells [av] 36 false) := fun {hq nw bw now' best'} s => (s.keep na (by omega) (by omega) (by omega)).trans ha
  have hgp : ∀ {hq nw bw now' best'}, PS h0 na hq nw bw now' best' → hq[na + 3]? = some (.cells [pgV na] 63 false) := fun {hq nw bw now' best'} s => (s.keep (na + 3) (by omega) (by omega) (by omega)).trans hg
  refine s65_callW (by simp) ?_
  simp only [s65]
  refine aws_cut fun N hN => ?_
  have rest : ∀ (hp1 : Heap) (bv1 : Value), PS h0 na hp1 nv bv1 now (Pck.better now best) → Mp na hp nv bv hp1 nv bv1 → ∀ e, ELe e [(0, vint fr), (1, ptP (na + 2)), (2, ptP (na + 1)), (3, ptP na), (4, ptP (na + 3))] → N e hp1 := by
    intro hp1 bv1 s1 m1 e he
    refine hN _ _ _ ?_ he
    clear hN N he e
    refine aws_cut fun N hN => ?_
    have hb1 := Pck.better_len now best
    have hadd : addV .i64 ((now.length : Nat) : Int) ((D.length : Nat) : Int) = ((now.length + D.length : Nat) : Int) := by rw [addV_id (by omega) (by omega)]; omega
    have hsub : subV .i64 ((now.length + D.length : Nat) : Int) ((fr : Nat) : Int) = ((now.length + D.length - fr : Nat) : Int) := by rw [subV_id (by omega) (by omega)]; omega
    have hgo : Pck.go Pck.okT (D.drop fr) now best = if now.length + D.length - fr ≤ (Pck.better now best).length then Pck.better now best else Pck.pk Pck.okT (D.drop fr) now (Pck.better now best) := by
      rw [Pck.go, List.length_drop]
      have : now.length + (D.length - fr) = now.length + D.length - fr := by omega
      rw [this]
    by_cases hcut : now.length + D.length - fr ≤ (Pck.better now best).length
    · have hc : (((now.length + D.length - fr : Nat) : Int) ≤ (((Pck.better now best).length : Nat) : Int)) := by omega
      simp (maxSteps := 2000000) only [s65, ↓aw_region, ↓aw_skip, ↓aw_seq, ↓aw_block, ↓aw_exit, ↓aw_ret, ↓sops_nil, ↓sops_go, ↓dops_nil, ↓dopsX_nil, ↓dopsR_nil, ↓vdn, vup, extr_20, extr_21, extr_30, extr_31, extr_32, List.map_cons, List.map_nil, cond_true, cond_false, aop, aThen, aBlock, argEnv, ev, sput, sputO, binK, binI, unK, builtinK, pickK, Nat.reduceBEq, Nat.reduceAdd, Int.reduceBEq, Int.reduceBNe, Int.reduceLT, aPost, resK, tup, tyf, load1 s1.n shp_36, load1 s1.b shp_36, load1 (hap s1) shp_36, s1.on.trip.len, s1.ob.trip.len, (hDp s1).len, hadd, hsub, hc]
      rw [hgo, if_pos hcut]
      exact ⟨nv, bv1, s1, m1⟩
    have hc : ¬ (((now.length + D.length - fr : Nat) : Int) ≤ (((Pck.better now best).length : Nat) : Int)) := by omega
    simp (maxSteps := 2000000) only [s65, ↓aw_region, ↓aw_skip, ↓aw_seq, ↓aw_block, ↓aw_exit, ↓aw_ret, ↓sops_nil, ↓sops_go, ↓dops_nil, ↓dopsX_nil, ↓dopsR_nil, ↓vdn, vup, extr_20, extr_21, extr_30, extr_31, extr_32, List.map_cons, List.map_nil, cond_true, cond_false, aop, aThen, aBlock, argEnv, ev, sput, sputO, binK, binI, unK, builtinK, pickK, Nat.reduceBEq, Nat.reduceAdd, Int.reduceBEq, Int.reduceBNe, Int.reduceLT, aPost, resK, tup, tyf, load1 s1.n shp_36, load1 s1.b shp_36, load1 (hap s1) shp_36, s1.on.trip.len, s1.ob.trip.len, (hDp s1).len, hadd, hsub, hc]
    rw [if_neg hcut] at hgo
    refine hN [(0, vint fr), (1, ptP (na + 2)), (2, ptP (na + 1)), (3, ptP na), (4, ptP (na + 3))] _ _ ?_ (by simp (maxSteps := 2000000) only [↓aw_region, ↓aw_skip, ↓aw_seq, ↓aw_block, ↓aw_exit, ↓aw_ret, ↓sops_nil, ↓sops_go, ↓dops_nil, ↓dopsX_nil, ↓dopsR_nil, ↓vdn, vup, extr_20, extr_21, extr_30, extr_31, extr_32, List.map_cons, List.map_nil, cond_true, cond_false, aop, aThen, aBlock, argEnv, ev, sput, sputO, binK, binI, unK, builtinK, pickK, Nat.reduceBEq, Nat.reduceAdd, Int.reduceBEq, Int.reduceBNe, Int.reduceLT, aPost, resK, tup, tyf])
    clear hN N hadd hsub hc
    refine aws_cut fun N hN => ?_
    simp (maxSteps := 2000000) only [s65, ↓aw_region, ↓aw_skip, ↓aw_seq, ↓aw_block, ↓aw_exit, ↓aw_ret, ↓sops_nil, ↓sops_go, ↓dops_nil, ↓dopsX_nil, ↓dopsR_nil, ↓vdn, vup, extr_20, extr_21, extr_30, extr_31, extr_32, List.map_cons, List.map_nil, cond_true, cond_false, aop, aThen, aBlock, argEnv, ev, sput, sputO, binK, binI, unK, builtinK, pickK, Nat.reduceBEq, Nat.reduceAdd, Int.reduceBEq, Int.reduceBNe, Int.reduceLT, aPost, resK, tup, tyf, allocK, newPtr, zero_3]
    rw [storeI (get_new _ _) shp_3]
    obtain ⟨hbx, hE⟩ := newBox hp1 fr
    have s2 := s1.new hE
    have m2 := m1.trans (Mp.new (na := na) (nv := nv) (bv := bv1) hE)
    have hbl2 : hp.length ≤ hp1.length := m1.1.1
    generalize (hp1 ++ [Blk.cells [.int .i64 0] 3 false]).set hp1.length (.cells [.int .i64 (fr : Int)] 3 false) = h2 at hbx hE s2 m2 ⊢
    generalize hp1.length = bx at hbx hbl2 ⊢
    refine hN [(1, ptP (na + 2)), (2, ptP (na + 1)), (3, ptP na), (4, ptP (na + 3)), (6, ptP bx)] _ _ ?_ (by simp (maxSteps := 2000000) only [↓aw_region, ↓aw_skip, ↓aw_seq, ↓aw_block, ↓aw_exit, ↓aw_ret, ↓sops_nil, ↓sops_go, ↓dops_nil, ↓dopsX_nil, ↓dopsR_nil, ↓vdn, vup, extr_20, extr_21, extr_30, extr_31, extr_32, List.map_cons, List.map_nil, cond_true, cond_false, aop, aThen, aBlock, argEnv, ev, sput, sputO, binK, binI, unK, builtinK, pickK, Nat.reduceBEq, Nat.reduceAdd, Int.reduceBEq, Int.reduceBNe, Int.reduceLT, aPost, resK, tup, tyf])
    clear hN N
    refine aws_block ?_
    refine aws_hide fun Q hQ => ?_
    have hl0 := s.len
    have hl1 := s.len0
    refine aw_loopW (γ := Nat × Heap × Value × Value × List T3 × Nat)
      (fun g => fr ≤ g.1 ∧ g.1 ≤ D.length ∧ PS h0 na g.2.1 g.2.2.1 g.2.2.2.1 now g.2.2.2.2.1 ∧ Mp na hp nv bv g.2.1 g.2.2.1 g.2.2.2.1 ∧ g.2.1[g.2.2.2.2.2]? = some (.cells [vint g.1] 3 false) ∧ hp.length ≤ g.2.2.2.2.2 ∧ g.2.2.2.2.1.length ≤ 1024 ∧
        Pck.pk Pck.okT (D.drop g.1) now g.2.2.2.2.1 = Pck.pk Pck.okT (D.drop fr) now (Pck.better now best))
      (fun g => ([(1, ptP (na + 2)), (2, ptP (na + 1)), (3, ptP na), (4, ptP (na + 3)), (6, ptP g.2.2.2.2.2)], g.2.1)) (fun g => D.length - g.1) (fr, h2, nv, bv1, Pck.better now best, bx)
      ⟨Nat.le_refl _, hfl, s2, m2, hbx, hbl2, by simp only; omega, rfl⟩ (by simp (maxSteps := 2000000) only [↓aw_region, ↓aw_skip, ↓aw_seq, ↓aw_block, ↓aw_exit, ↓aw_ret, ↓sops_nil, ↓sops_go, ↓dops_nil, ↓dopsX_nil, ↓dopsR_nil, ↓vdn, vup, extr_20, extr_21, extr_30, extr_31, extr_32, List.map_cons, List.map_nil, cond_true, cond_false, aop, aThen, aBlock, argEnv, ev, sput, sputO, binK, binI, unK, builtinK, pickK, Nat.reduceBEq, Nat.reduceAdd, Int.reduceBEq, Int.reduceBNe, Int.reduceLT, aPost, resK, tup, tyf]) rfl ?_
    rintro ⟨i, hq, nw, bw, b2, bi⟩ ⟨hi1, hi2, sq, mq, hbi, hbl3, hb2, hpk⟩
    simp only at hi1 hi2 sq mq hbi hbl3 hb2 hpk ⊢
    refine aws_hide fun Q2 hQ2 => ?_
    simp only [l65_0]
    refine aws_cut fun N hN => ?_
    by_cases hin : (i : Int) < D.length
    · have hi3 : i < D.length := by omega
      simp (maxSteps := 2000000) only [s65, ↓aw_region, ↓aw_skip, ↓aw_seq, ↓aw_block, ↓aw_exit, ↓aw_ret, ↓sops_nil, ↓sops_go, ↓dops_nil, ↓dopsX_nil, ↓dopsR_nil, ↓vdn, vup, extr_20, extr_21, extr_30, extr_31, extr_32, List.map_cons, List.map_nil, cond_true, cond_false, aop, aThen, aBlock, argEnv, ev, sput, sputO, binK, binI, unK, builtinK, pickK, Nat.reduceBEq, Nat.reduceAdd, Int.reduceBEq, Int.reduceBNe, Int.reduceLT, aPost, resK, tup, tyf, load1 hbi shp_3, load1 (hap sq) shp_36, (hDp sq).len, hin]
      refine hN [(1, ptP (na + 2)), (2, ptP (na + 1)), (3, ptP na), (4, ptP (na + 3)), (6, ptP bi)] _ _ ?_ (by simp (maxSteps := 2000000) only [↓aw_region, ↓aw_skip, ↓aw_seq, ↓aw_block, ↓aw_exit, ↓aw_ret, ↓sops_nil, ↓sops_go, ↓dops_nil, ↓dopsX_nil, ↓dopsR_nil, ↓vdn, vup, extr_20, extr_21, extr_30, extr_31, extr_32, List.map_cons, List.map_nil, cond_true, cond_false, aop, aThen, aBlock, argEnv, ev, sput, sputO, binK, binI, unK, builtinK, pickK, Nat.reduceBEq, Nat.reduceAdd, Int.reduceBEq, Int.reduceBNe, Int.reduceLT, aPost, resK, tup, tyf])
      clear hN N
      refine aws_cut fun N hN => ?_
      have fin : ∀ (hr : Heap) (nr br : Value) (b3 : List T3), PS h0 na hr nr br now b3 → Mp na hq nw bw hr nr br → b3.length ≤ 1024 → Pck.pk Pck.okT (D.drop (i + 1)) now b3 = Pck.pk Pck.okT (D.drop i) now b2 → ∀ e, ELe e [(1, ptP (na + 2)), (2, ptP (na + 1)), (3, ptP na), (4, ptP (na + 3)), (6, ptP bi)] → N e hr := by
        intro hr nr br b3 s3 m3 hb3 hpk3 e he
        refine hN _ _ _ ?_ he
        clear hN N he e
        have hbi3 := m3.box sq hbi (by omega)
        refine aws_cut fun N hN => ?_
        simp (maxSteps := 2000000) only [s65, ↓aw_region, ↓aw_skip, ↓aw_seq, ↓aw_block, ↓aw_exit, ↓aw_ret, ↓sops_nil, ↓sops_go, ↓dops_nil, ↓dopsX_nil, ↓dopsR_nil, ↓vdn, vup, extr_20, extr_21, extr_30, extr_31, extr_32, List.map_cons, List.map_nil, cond_true, cond_false, aop, aThen, aBlock, argEnv, ev, sput, sputO, binK, binI, unK, builtinK, pickK, Nat.reduceBEq, Nat.reduceAdd, Int.reduceBEq, Int.reduceBNe, Int.reduceLT, aPost, resK, tup, tyf, load1 hbi3 shp_3, allocK, newPtr, zero_3]
        rw [storeI (get_new _ _) shp_3]
        obtain ⟨hbx4, hE4⟩ := newBox hr i
        have s4 := s3.new hE4
        have m4 := (mq.trans m3).trans (Mp.new (na := na) (nv := nr) (bv := br) hE4)
        have hbl4 : hp.length ≤ hr.length := Nat.le_trans mq.1.1 m3.1.1
        generalize (hr ++ [Blk.cells [.int .i64 0] 3 false]).set hr.length (.cells [.int .i64 (i : Int)] 3 false) = h4 at hbx4 hE4 s4 m4 ⊢
        generalize hr.length = b4 at hbx4 hbl4 ⊢
        refine hN [(1, ptP (na + 2)), (2, ptP (na + 1)), (3, ptP na), (4, ptP (na + 3)), (6, ptP b4)] _ _ ?_ (by simp (maxSteps := 2000000) only [↓aw_region, ↓aw_skip, ↓aw_seq, ↓aw_block, ↓aw_exit, ↓aw_ret, ↓sops_nil, ↓sops_go, ↓dops_nil, ↓dopsX_nil, ↓dopsR_nil, ↓vdn, vup, extr_20, extr_21, extr_30, extr_31, extr_32, List.map_cons, List.map_nil, cond_true, cond_false, aop, aThen, aBlock, argEnv, ev, sput, sputO, binK, binI, unK, builtinK, pickK, Nat.reduceBEq, Nat.reduceAdd, Int.reduceBEq, Int.reduceBNe, Int.reduceLT, aPost, resK, tup, tyf])
        clear hN N
        refine aw_aws ?_
        simp (maxSteps := 2000000) only [s65, ↓aw_region, ↓aw_skip, ↓aw_seq, ↓aw_block, ↓aw_exit, ↓aw_ret, ↓sops_nil, ↓sops_go, ↓dops_nil, ↓dopsX_nil, ↓dopsR_nil, ↓vdn, vup, extr_20, extr_21, extr_30, extr_31, extr_32, List.map_cons, List.map_nil, cond_true, cond_false, aop, aThen, aBlock, argEnv, ev, sput, sputO, binK, binI, unK, builtinK, pickK, Nat.reduceBEq, Nat.reduceAdd, Int.reduceBEq, Int.reduceBNe, Int.reduceLT, aPost, resK, tup, tyf, load1 hbx4 shp_3, add1 (show i < 9223372036854775807 by omega), storeI hbx4 shp_3]
        refine hQ2 _ _ _ ⟨(i + 1, h4.set b4 (.cells [vint (i + 1 : Nat)] 3 false), nr, br, b3, b4), ⟨by simp only; omega, by simp only; omega, s4.box hbx4 (by omega) _, m4.set hbl4 _, get_set (get_lt hbx4) _, hbl4, hb3, hpk3.trans hpk⟩, by simp only; omega, by simp (maxSteps := 2000000) only [↓aw_region, ↓aw_skip, ↓aw_seq, ↓aw_block, ↓aw_exit, ↓aw_ret, ↓sops_nil, ↓sops_go, ↓dops_nil, ↓dopsX_nil, ↓dopsR_nil, ↓vdn, vup, extr_20, extr_21, extr_30, extr_31, extr_32, List.map_cons, List.map_nil, cond_true, cond_false, aop, aThen, aBlock, argEnv, ev, sput, sputO, binK, binI, unK, builtinK, pickK, Nat.reduceBEq, Nat.reduceAdd, Int.reduceBEq, Int.reduceBNe, Int.reduceLT, aPost, resK, tup, tyf], rfl⟩
      obtain ⟨c, hc⟩ : ∃ c, c = D.getD i Go.Am.t0 := ⟨_, rfl⟩
      have hpks : Pck.pk Pck.okT (D.drop i) now b2 = Pck.pk Pck.okT (D.drop (i + 1)) now (if Pck.fits Pck.okT now c = true then Pck.go Pck.okT (D.drop (i + 1)) (now ++ [c]) b2 else b2) := by
        rw [drop_cons hi3, Pck.pk_cons, ← hc]
      have hany : ((List.range now.length).any fun k => !Pck.okT (now.getD k Go.Am.t0) c) = !Pck.fits Pck.okT now c := by
        rw [range_any (p := fun x => !Pck.okT x c) now, ← fits_any, Bool.not_not]
      simp (maxSteps := 2000000) only [s65, ↓aw_region, ↓aw_skip, ↓aw_seq, ↓aw_block, ↓aw_exit, ↓aw_ret, ↓sops_nil, ↓sops_go, ↓dops_nil, ↓dopsX_nil, ↓dopsR_nil, ↓vdn, vup, extr_20, extr_21, extr_30, extr_31, extr_32, List.map_cons, List.map_nil, cond_true, cond_false, aop, aThen, aBlock, argEnv, ev, sput, sputO, binK, binI, unK, builtinK, pickK, Nat.reduceBEq, Nat.reduceAdd, Int.reduceBEq, Int.reduceBNe, Int.reduceLT, aPost, resK, tup, tyf, List.map_toArray, load1 sq.n shp_36, callK, List.nil_append, List.append_nil, List.toList_toArray, List.cons_append]
      refine (contains_call (p := fun k => !Pck.okT (now.getD k Go.Am.t0) c) sq.on.trip (by omega) fun k hk => by rw [hc]; exact common1_call (hap sq) hbi (hDp sq) hi3 (hd i hi3) _).mono ?_
      rintro _ hr ⟨rfl, rfl⟩
      rw [hany]
      cases hf : Pck.fits Pck.okT now c with
      | false =>
        rw [hf] at hpks
        simp (maxSteps := 2000000) only [s65, ↓aw_region, ↓aw_skip, ↓aw_seq, ↓aw_block, ↓aw_exit, ↓aw_ret, ↓sops_nil, ↓sops_go, ↓dops_nil, ↓dopsX_nil, ↓dopsR_nil, ↓vdn, vup, extr_20, extr_21, extr_30, extr_31, extr_32, List.map_cons, List.map_nil, cond_true, cond_false, aop, aThen, aBlock, argEnv, ev, sput, sputO, binK, binI, unK, builtinK, pickK, Nat.reduceBEq, Nat.reduceAdd, Int.reduceBEq, Int.reduceBNe, Int.reduceLT, aPost, resK, tup, tyf, Bool.not_false, Bool.not_true]
        exact fin hr nw bw b2 sq (Mp.new (Ext.refl _ _)) hb2 hpks.symm _ (by simp (maxSteps := 2000000) only [↓aw_region, ↓aw_skip, ↓aw_seq, ↓aw_block, ↓aw_exit, ↓aw_ret, ↓sops_nil, ↓sops_go, ↓dops_nil, ↓dopsX_nil, ↓dopsR_nil, ↓vdn, vup, extr_20, extr_21, extr_30, extr_31, extr_32, List.map_cons, List.map_nil, cond_true, cond_false, aop, aThen, aBlock, argEnv, ev, sput, sputO, binK, binI, unK, builtinK, pickK, Nat.reduceBEq, Nat.reduceAdd, Int.reduceBEq, Int.reduceBNe, Int.reduceLT, aPost, resK, tup, tyf])
      | true =>
        rw [hf, if_pos rfl] at hpks
        simp (maxSteps := 2000000) only [s65, ↓aw_region, ↓aw_skip, ↓aw_seq, ↓aw_block, ↓aw_exit, ↓aw_ret, ↓sops_nil, ↓sops_go, ↓dops_nil, ↓dopsX_nil, ↓dopsR_nil, ↓vdn, vup, extr_20, extr_21, extr_30, extr_31, extr_32, List.map_cons, List.map_nil, cond_true, cond_false, aop, aThen, aBlock, argEnv, ev, sput, sputO, binK, binI, unK, builtinK, pickK, Nat.reduceBEq, Nat.reduceAdd, Int.reduceBEq, Int.reduceBNe, Int.reduceLT, aPost, resK, tup, tyf, Bool.not_false, Bool.not_true]
        refine aw_drawR (fun hp => hp[na + 2]? = some (.cells [nw] 36 false)) [(0, 5), (6, 6)] (by kernel_rfl) (by kernel_rfl) (by kernel_rfl) (by kernel_rfl) sq.n ?_
        have hld : ∀ {K : Value → Prop}, loadK prog hr 40 (elemP av 3 i) K = K (tV c) := fun {K} => by rw [hc]; exact (hDp sq).load shp_40 hi3 K
        simp (maxSteps := 2000000) only [s65, ↓aw_region, ↓aw_skip, ↓aw_seq, ↓aw_block, ↓aw_exit, ↓aw_ret, ↓sops_nil, ↓sops_go, ↓dops_nil, ↓dopsX_nil, ↓dopsR_nil, ↓vdn, vup, extr_20, extr_21, extr_30, extr_31, extr_32, List.map_cons, List.map_nil, cond_true, cond_false, aop, aThen, aBlock, argEnv, ev, sput, sputO, binK, binI, unK, builtinK, pickK, Nat.reduceBEq, Nat.reduceAdd, Int.reduceBEq, Int.reduceBNe, Int.reduceLT, aPost, resK, tup, tyf, Nat.reduceLT, Bool.false_or, Bool.true_or]
        refine ⟨nw, fun hp hhp => by simp only [load1 hhp shp_36], ?_⟩
        simp (maxSteps := 2000000) only [s65, ↓aw_region, ↓aw_skip, ↓aw_seq, ↓aw_block, ↓aw_exit, ↓aw_ret, ↓sops_nil, ↓sops_go, ↓dops_nil, ↓dopsX_nil, ↓dopsR_nil, ↓vdn, vup, extr_20, extr_21, extr_30, extr_31, extr_32, List.map_cons, List.map_nil, cond_true, cond_false, aop, aThen, aBlock, argEnv, ev, sput, sputO, binK, binI, unK, builtinK, pickK, Nat.reduceBEq, Nat.reduceAdd, Int.reduceBEq, Int.reduceBNe, Int.reduceLT, aPost, resK, tup, tyf, Nat.reduceLT, Bool.false_or, Bool.true_or, load1 (hap sq) shp_36, load1 hbi shp_3, (hDp sq).idx el_36 esz_40 hi3, hld, litT']
        refine ⟨get_old sq.n _, ?_⟩
        refine (sq.on.ext (Ext.app _ _ _)).append app_36_36 (by omega) (get_new _ _) fun n2 g2 ho2 hE2 hb2' => ?_
        replace ho2 : OwnT 40 g2 n2 (now ++ [c]) := ho2
        have hE2' : Ext (fun i => blkOf nw = some i) hr g2 := (Ext.app _ _ _).trans hE2
        have hn2 : blkOf n2 = blkOf nw ∨ ∃ b, blkOf n2 = some b ∧ hr.length ≤ b := hb2'.imp id fun ⟨b, h1, h2⟩ => ⟨b, h1, by rw [List.length_append] at h2; omega⟩
        obtain ⟨s5, m5⟩ := sq.pres hE2' ho2 hn2
        have hcell : g2[na + 2]? = some (.cells [nw] 36 false) := (hE2'.2 _ (get_lt sq.n) (sq.on.notCells sq.n)).trans sq.n
        have hbi5 := m5.box sq hbi (by omega)
        have hlen1 : (now ++ [c]).length = now.length + 1 := by rw [List.length_append, List.length_singleton]
        have hsub1 : subV .i64 (((now ++ [c]).length : Nat) : Int) 1 = ((now.length : Nat) : Int) := by rw [hlen1, subV_id (by omega) (by omega)]; omega
        simp (maxSteps := 2000000) only [s65, ↓aw_region, ↓aw_skip, ↓aw_seq, ↓aw_block, ↓aw_exit, ↓aw_ret, ↓sops_nil, ↓sops_go, ↓dops_nil, ↓dopsX_nil, ↓dopsR_nil, ↓vdn, vup, extr_20, extr_21, extr_30, extr_31, extr_32, List.map_cons, List.map_nil, cond_true, cond_false, aop, aThen, aBlock, argEnv, ev, sput, sputO, binK, binI, unK, builtinK, pickK, Nat.reduceBEq, Nat.reduceAdd, Int.reduceBEq, Int.reduceBNe, Int.reduceLT, aPost, resK, tup, tyf, store1 hcell shp_36 ho2.one, load1 (hgp s5) shp_63, load1 hbi5 shp_3, add1 (show i < 9223372036854775807 by omega), pgV, callK, List.nil_append, List.append_nil, List.toList_toArray, List.cons_append]
        refine (ih (D.length - (i + 1)) (by omega) (i + 1) rfl (by omega) _ _ _ _ _ s5 (by omega) hb2).mono ?_
        rintro _ h6 ⟨nv6, bv6, s6, m6⟩
        simp (maxSteps := 2000000) only [s65, ↓aw_region, ↓aw_skip, ↓aw_seq, ↓aw_block, ↓aw_exit, ↓aw_ret, ↓sops_nil, ↓sops_go, ↓dops_nil, ↓dopsX_nil, ↓dopsR_nil, ↓vdn, vup, extr_20, extr_21, extr_30, extr_31, extr_32, List.map_cons, List.map_nil, cond_true, cond_false, aop, aThen, aBlock, argEnv, ev, sput, sputO, binK, binI, unK, builtinK, pickK, Nat.reduceBEq, Nat.reduceAdd, Int.reduceBEq, Int.reduceBNe, Int.reduceLT, aPost, resK, tup, tyf, load1 s6.n shp_36, s6.on.trip.len, hsub1, Option.map_none, Option.map_some]
        refine s6.on.cut el_36 esz_40 fun n7 ho7 hb7 => ?_
        obtain ⟨s7, m7⟩ := s6.pres (Ext.refl _ _) ho7 (.inl hb7)
        simp (maxSteps := 2000000) only [s65, ↓aw_region, ↓aw_skip, ↓aw_seq, ↓aw_block, ↓aw_exit, ↓aw_ret, ↓sops_nil, ↓sops_go, ↓dops_nil, ↓dopsX_nil, ↓dopsR_nil, ↓vdn, vup, extr_20, extr_21, extr_30, extr_31, extr_32, List.map_cons, List.map_nil, cond_true, cond_false, aop, aThen, aBlock, argEnv, ev, sput, sputO, binK, binI, unK, builtinK, pickK, Nat.reduceBEq, Nat.reduceAdd, Int.reduceBEq, Int.reduceBNe, Int.reduceLT, aPost, resK, tup, tyf, store1 s6.n shp_36 ho7.one]
        refine fin _ n7 bv6 _ s7 ((m5.trans m6).trans m7) ?_ hpks.symm _ (by simp (maxSteps := 2000000) only [↓aw_region, ↓aw_skip, ↓aw_seq, ↓aw_block, ↓aw_exit, ↓aw_ret, ↓sops_nil, ↓sops_go, ↓dops_nil, ↓dopsX_nil, ↓dopsR_nil, ↓vdn, vup, extr_20, extr_21, extr_30, extr_31, extr_32, List.map_cons, List.map_nil, cond_true, cond_false, aop, aThen, aBlock, argEnv, ev, sput, sputO, binK, binI, unK, builtinK, pickK, Nat.reduceBEq, Nat.reduceAdd, Int.reduceBEq, Int.reduceBNe, Int.reduceLT, aPost, resK, tup, tyf])
        have hG := Pck.G_le (ok := Pck.okT) (D.drop (i + 1)) (Pck.fits Pck.okT (now ++ [c]))
        rw [List.length_drop] at hG
        rw [Pck.go_len, hlen1]; omega
    · obtain rfl : i = D.length := by omega
      simp (maxSteps := 2000000) only [s65, ↓aw_region, ↓aw_skip, ↓aw_seq, ↓aw_block, ↓aw_exit, ↓aw_ret, ↓sops_nil, ↓sops_go, ↓dops_nil, ↓dopsX_nil, ↓dopsR_nil, ↓vdn, vup, extr_20, extr_21, extr_30, extr_31, extr_32, List.map_cons, List.map_nil, cond_true, cond_false, aop, aThen, aBlock, argEnv, ev, sput, sputO, binK, binI, unK, builtinK, pickK, Nat.reduceBEq, Nat.reduceAdd, Int.reduceBEq, Int.reduceBNe, Int.reduceLT, aPost, resK, tup, tyf, load1 hbi shp_3, load1 (hap sq) shp_36, (hDp sq).len, Int.lt_irrefl]
      refine hQ2 _ _ _ (hQ _ _ _ ?_)
      simp (maxSteps := 2000000) only [s65, ↓aw_region, ↓aw_skip, ↓aw_seq, ↓aw_block, ↓aw_exit, ↓aw_ret, ↓sops_nil, ↓sops_go, ↓dops_nil, ↓dopsX_nil, ↓dopsR_nil, ↓vdn, vup, extr_20, extr_21, extr_30, extr_31, extr_32, List.map_cons, List.map_nil, cond_true, cond_false, aop, aThen, aBlock, argEnv, ev, sput, sputO, binK, binI, unK, builtinK, pickK, Nat.reduceBEq, Nat.reduceAdd, Int.reduceBEq, Int.reduceBNe, Int.reduceLT, aPost, resK, tup, tyf]
      refine ⟨nw, bw, ?_, mq⟩
      rw [hgo, ← hpk, List.drop_length, Pck.pk]
      exact sq
  by_cases hlt : best.length < now.length
  · have hc : ((best.length : Nat) : Int) < ((now.length : Nat) : Int) := by omega
    have hne : now ≠ [] := by rintro rfl; simp at hlt
    simp (maxSteps := 2000000) only [s65, ↓aw_region, ↓aw_skip, ↓aw_seq, ↓aw_block, ↓aw_exit, ↓aw_ret, ↓sops_nil, ↓sops_go, ↓dops_nil, ↓dopsX_nil, ↓dopsR_nil, ↓vdn, vup, extr_20, extr_21, extr_30, extr_31, extr_32, List.map_cons, List.map_nil, cond_true, cond_false, aop, aThen, aBlock, argEnv, ev, sput, sputO, binK, binI, unK, builtinK, pickK, Nat.reduceBEq, Nat.reduceAdd, Int.reduceBEq, Int.reduceBNe, Int.reduceLT, aPost, resK, tup, tyf, load1 s.n shp_36, load1 s.b shp_36, s.on.trip.len, s.ob.trip.len, gt_iff_lt, hc, callK, List.nil_append, List.append_nil, List.toList_toArray, List.cons_append]
    refine (clonet_call s.on.trip hne (by omega)).mono ?_
    rintro bv1 h1 ⟨ho, hE, b, hb, hbl1⟩
    obtain ⟨s1, m1⟩ := s.newBest hE ho hb hbl1
    simp (maxSteps := 2000000) only [s65, ↓aw_region, ↓aw_skip, ↓aw_seq, ↓aw_block, ↓aw_exit, ↓aw_ret, ↓sops_nil, ↓sops_go, ↓dops_nil, ↓dopsX_nil, ↓dopsR_nil, ↓vdn, vup, extr_20, extr_21, extr_30, extr_31, extr_32, List.map_cons, List.map_nil, cond_true, cond_false, aop, aThen, aBlock, argEnv, ev, sput, sputO, binK, binI, unK, builtinK, pickK, Nat.reduceBEq, Nat.reduceAdd, Int.reduceBEq, Int.reduceBNe, Int.reduceLT, aPost, resK, tup, tyf, store1 (s.new hE).b shp_36 ho.one]
    refine rest _ bv1 ?_ m1 _ (by simp (maxSteps := 2000000) only [↓aw_region, ↓aw_skip, ↓aw_seq, ↓aw_block, ↓aw_exit, ↓aw_ret, ↓sops_nil, ↓sops_go, ↓dops_nil, ↓dopsX_nil, ↓dopsR_nil, ↓vdn, vup, extr_20, extr_21, extr_30, extr_31, extr_32, List.map_cons, List.map_nil, cond_true, cond_false, aop, aThen, aBlock, argEnv, ev, sput, sputO, binK, binI, unK, builtinK, pickK, Nat.reduceBEq, Nat.reduceAdd, Int.reduceBEq, Int.reduceBNe, Int.reduceLT, aPost, resK, tup, tyf])
    have : Pck.better now best = now := if_pos hlt
    rw [this]; exact s1
  · have hc : ¬ ((best.length : Nat) : Int) < ((now.length : Nat) : Int) := by omega
    simp (maxSteps := 2000000) only [s65, ↓aw_region, ↓aw_skip, ↓aw_seq, ↓aw_block, ↓aw_exit, ↓aw_ret, ↓sops_nil, ↓sops_go, ↓dops_nil, ↓dopsX_nil, ↓dopsR_nil, ↓vdn, vup, extr_20, extr_21, extr_30, extr_31, extr_32, List.map_cons, List.map_nil, cond_true, cond_false, aop, aThen, aBlock, argEnv, ev, sput, sputO, binK, binI, unK, builtinK, pickK, Nat.reduceBEq, Nat.reduceAdd, Int.reduceBEq, Int.reduceBNe, Int.reduceLT, aPost, resK, tup, tyf, load1 s.n shp_36, load1 s.b shp_36, s.on.trip.len, s.ob.trip.len, gt_iff_lt, hc]
    refine rest _ bv ?_ (Mp.new (Ext.refl _ _)) _ (by simp (maxSteps := 2000000) only [↓aw_region, ↓aw_skip, ↓aw_seq, ↓aw_block, ↓aw_exit, ↓aw_ret, ↓sops_nil, ↓sops_go, ↓dops_nil, ↓dopsX_nil, ↓dopsR_nil, ↓vdn, vup, extr_20, extr_21, extr_30, extr_31, extr_32, List.map_cons, List.map_nil, cond_true, cond_false, aop, aThen, aBlock, argEnv, ev, sput, sputO, binK, binI, unK, builtinK, pickK, Nat.reduceBEq, Nat.reduceAdd, Int.reduceBEq, Int.reduceBNe, Int.reduceLT, aPost, resK, tup, tyf])
    have : Pck.better now best = best := if_neg hlt
    rw [this]; exact s
end Go.Proofs.Tryd.Am

namespace Go.Proofs.Tryd.Am
open Go.Am
set_option maxRecDepth 100000
set_option maxHeartbeats 1000000

/-! All cycles, by all triples. -/
def dC (xs : List Int) (a x k : Nat) : List T3 := (List.range k).flatMap fun c => if a < x ∧ a < c ∧ bb xs a x = true ∧ bb xs x c = true ∧ bb xs c a = true then [((a : Int), (x : Int), (c : Int))] else []
def dX (xs : List Int) (a k : Nat) : List T3 := (List.range k).flatMap fun x => dC xs a x xs.length
def dA (xs : List Int) (k : Nat) : List T3 := (List.range k).flatMap fun a => dX xs a xs.length
theorem dC_succ (xs : List Int) (a x k : Nat) : dC xs a x (k + 1) = dC xs a x k ++ (if a < x ∧ a < k ∧ bb xs a x = true ∧ bb xs x k = true ∧ bb xs k a = true then [((a : Int), (x : Int), (k : Int))] else []) := by simp [dC, List.range_succ]
theorem dX_succ (xs : List Int) (a k : Nat) : dX xs a (k + 1) = dX xs a k ++ dC xs a k xs.length := by simp [dX, List.range_succ]
theorem dA_succ (xs : List Int) (k : Nat) : dA xs (k + 1) = dA xs k ++ dX xs k xs.length := by simp [dA, List.range_succ]
theorem flat_filter {α β : Type} {p : α → Bool} {f : α → List β} : ∀ l : List α, (l.filter p).flatMap f = l.flatMap fun x => if p x = true then f x else []
  | [] => rfl
  | x :: l => by
    rw [List.filter_cons, List.flatMap_cons, ← flat_filter l]
    by_cases h : p x = true
    · rw [if_pos h, if_pos h, List.flatMap_cons]
    · rw [if_neg h, if_neg h, List.nil_append]
theorem dA_all {xs : List Int} (h : trn xs = true) : dA xs xs.length = cA xs xs.length := by
  rw [dA, cA, List.flatMap_def, List.flatMap_def]
  congr 1
  refine List.map_congr_left fun a ha => ?_
  rw [dX, cX, bits_bb h (List.mem_range.1 ha), flat_filter, List.flatMap_def, List.flatMap_def]
  congr 1
  refine List.map_congr_left fun x hx => ?_
  rw [dC, cC, bits_bb h (List.mem_range.1 hx), flat_filter]
  cases hax : bb xs a x with
  | false => simp
  | true =>
    rw [if_pos rfl, List.flatMap_def, List.flatMap_def]
    congr 1
    refine List.map_congr_left fun c hc => ?_
    cases hxc : bb xs x c with
    | false => simp
    | true => simp
theorem dC_le {xs : List Int} {a x k : Nat} : (dC xs a x k).length ≤ k := by
  have := flat_le (f := fun c => if a < x ∧ a < c ∧ bb xs a x = true ∧ bb xs x c = true ∧ bb xs c a = true then [((a : Int), (x : Int), (c : Int))] else []) (k := 1) (List.range k) fun c _ => by
    split <;> simp
  rw [List.length_range, Nat.mul_one] at this; exact this
theorem dX_le {xs : List Int} {a k : Nat} : (dX xs a k).length ≤ k * xs.length := by
  have := flat_le (f := fun x => dC xs a x xs.length) (k := xs.length) (List.range k) fun x _ => dC_le
  rw [List.length_range] at this; exact this
theorem dA_le {xs : List Int} {k : Nat} : (dA xs k).length ≤ k * (xs.length * xs.length) := by
  have := flat_le (f := fun a => dX xs a xs.length) (k := xs.length * xs.length) (List.range k) fun a _ => dX_le
  rw [List.length_range] at this; exact this

/-- The list under way. -/
def RS3 (h hp : Heap) (ov : Value) (ts : List T3) : Prop := OwnT 40 hp ov ts ∧ Ext (fun _ => False) h hp ∧ ∀ b, blkOf ov = some b → h.length ≤ b
theorem RS3.push {h hp : Heap} {ov : Value} {ts : List T3} (s : RS3 h hp ov ts) {x y z : Int} (hn : ts.length < 1099511627776) {K : Value → Heap → Prop} (hk : ∀ v' h', RS3 h h' v' (ts ++ [(x, y, z)]) → K v' h') :
    appendK prog (hp ++ [.ints [x, y, z] 40 false]) 36 36 ov (.slice (some ⟨hp.length, 0, none⟩) 1 1) K := by
  obtain ⟨hown, hE, hblk⟩ := s
  have hx1 : Ext (fun _ => False) hp (hp ++ [.ints [x, y, z] 40 false]) := Ext.app _ _ _
  refine (hown.ext hx1).append app_36_36 hn (get_new _ _) fun v' h' ho hE' hb => hk v' h' ⟨ho, ?_, fun b hbb => ?_⟩
  · have h1 := hE.1
    have h2 := hx1.1
    have h3 := hE'.1
    refine ⟨by omega, fun i hi _ => ?_⟩
    rw [hE'.2 i (by omega) fun hbb => by have := hblk i hbb; omega, hx1.2 i (by omega) id]
    exact hE.2 i hi id
  · rcases hb with h1 | ⟨b', h1, h2⟩
    · exact hblk b (h1 ▸ hbb)
    · rw [h1] at hbb; cases hbb; have := hE.1; have := hx1.1; omega

/-- Whether three make a cycle, as the reference asks. -/
theorem tri_test [Tabs prog] {h : Heap} {v o3 n8 n9 n13 n14 n18 n19 : Value} {xs : List Int} {a x c : Nat} (hv : IntSl h v xs) (ha : a < xs.length) (hx : x < xs.length) (hc : c < xs.length) (hnat : ∀ i, i < xs.length → 0 ≤ xs.getD i 0 ∧ xs.getD i 0 < 9223372036854775808) {Q : Exit → Env → Heap → Prop} {r : Bool}
    (hr : r = decide (a < x ∧ a < c ∧ bb xs a x = true ∧ bb xs x c = true ∧ bb xs c a = true)) (hN : ∀ e, ELe e [(0, v), (3, o3), (4, vint a), (5, vint x), (6, vint c), (8, n8), (9, n9), (13, n13), (14, n14), (18, n18), (19, n19), (59, .bool r)] → Q .normal e h) :
    aw prog 71 q33_11 Q [(0, v), (3, o3), (4, vint a), (5, vint x), (8, n8), (9, n9), (13, n13), (14, n14), (18, n18), (19, n19), (6, vint c)] h := by
  have tt : ∀ i, i < xs.length → ∀ y : Nat, (bitsV .and .i64 (shrV .i64 (xs.getD i 0) y) 1 == 1) = bb xs i y := fun i hi y => by rw [testI (hnat i hi).1 (hnat i hi).2, beq1]; rfl
  have ia : ∀ {K : Value → Prop}, idxAddrK prog 22 v (vint a) K = K (elemP v 1 a) := fun {K} => hv.idx el_22 esz_3 ha K
  have ix : ∀ {K : Value → Prop}, idxAddrK prog 22 v (vint x) K = K (elemP v 1 x) := fun {K} => hv.idx el_22 esz_3 hx K
  have ic : ∀ {K : Value → Prop}, idxAddrK prog 22 v (vint c) K = K (elemP v 1 c) := fun {K} => hv.idx el_22 esz_3 hc K
  have la : ∀ {K : Value → Prop}, loadK prog h 3 (elemP v 1 a) K = K (vint (xs.getD a 0)) := fun {K} => hv.load shp_3 ha K
  have lx : ∀ {K : Value → Prop}, loadK prog h 3 (elemP v 1 x) K = K (vint (xs.getD x 0)) := fun {K} => hv.load shp_3 hx K
  have lc : ∀ {K : Value → Prop}, loadK prog h 3 (elemP v 1 c) K = K (vint (xs.getD c 0)) := fun {K} => hv.load shp_3 hc K
  have ta := tt a ha x
  have tx := tt x hx c
  have tc := tt c hc a
  by_cases hax : a < x
  rotate_left
  · have c1 : ¬ (a : Int) < (x : Int) := by omega
    have hf : r = false := by rw [hr]; exact decide_eq_false fun h => hax h.1
    refine aw_regcut 8 fun N1 hN1 => ?_
    simp (maxSteps := 2000000) only [↓aw_region, ↓aw_skip, ↓aw_seq, ↓aw_block, ↓aw_exit, ↓aw_ret, ↓sops_nil, ↓sops_go, ↓dops_nil, ↓dopsX_nil, ↓dopsR_nil, ↓vdn, vup, extr_20, extr_21, extr_30, extr_31, extr_32, List.map_cons, List.map_nil, cond_true, cond_false, aop, aThen, aBlock, argEnv, ev, sput, sputO, binK, binI, unK, builtinK, pickK, Nat.reduceBEq, Nat.reduceAdd, Int.reduceBEq, Int.reduceBNe, Int.reduceLT, aPost, resK, tup, tyf, List.take_succ_cons, List.take_zero, c1]
    refine hN1 _ _ ?_
    clear hN1
    clear N1
    refine aw_regcut 10 fun N1 hN1 => ?_
    simp (maxSteps := 2000000) only [↓aw_region, ↓aw_skip, ↓aw_seq, ↓aw_block, ↓aw_exit, ↓aw_ret, ↓sops_nil, ↓sops_go, ↓dops_nil, ↓dopsX_nil, ↓dopsR_nil, ↓vdn, vup, extr_20, extr_21, extr_30, extr_31, extr_32, List.map_cons, List.map_nil, cond_true, cond_false, aop, aThen, aBlock, argEnv, ev, sput, sputO, binK, binI, unK, builtinK, pickK, Nat.reduceBEq, Nat.reduceAdd, Int.reduceBEq, Int.reduceBNe, Int.reduceLT, aPost, resK, tup, tyf, List.take_succ_cons, List.take_zero, List.drop_succ_cons, List.drop_zero]
    refine hN1 _ _ ?_
    clear hN1
    clear N1
    refine aw_regcut 10 fun N1 hN1 => ?_
    simp (maxSteps := 2000000) only [↓aw_region, ↓aw_skip, ↓aw_seq, ↓aw_block, ↓aw_exit, ↓aw_ret, ↓sops_nil, ↓sops_go, ↓dops_nil, ↓dopsX_nil, ↓dopsR_nil, ↓vdn, vup, extr_20, extr_21, extr_30, extr_31, extr_32, List.map_cons, List.map_nil, cond_true, cond_false, aop, aThen, aBlock, argEnv, ev, sput, sputO, binK, binI, unK, builtinK, pickK, Nat.reduceBEq, Nat.reduceAdd, Int.reduceBEq, Int.reduceBNe, Int.reduceLT, aPost, resK, tup, tyf, List.take_succ_cons, List.take_zero, List.drop_succ_cons, List.drop_zero]
    refine hN1 _ _ ?_
    clear hN1
    clear N1
    simp (maxSteps := 2000000) only [↓aw_region, ↓aw_skip, ↓aw_seq, ↓aw_block, ↓aw_exit, ↓aw_ret, ↓sops_nil, ↓sops_go, ↓dops_nil, ↓dopsX_nil, ↓dopsR_nil, ↓vdn, vup, extr_20, extr_21, extr_30, extr_31, extr_32, List.map_cons, List.map_nil, cond_true, cond_false, aop, aThen, aBlock, argEnv, ev, sput, sputO, binK, binI, unK, builtinK, pickK, Nat.reduceBEq, Nat.reduceAdd, Int.reduceBEq, Int.reduceBNe, Int.reduceLT, aPost, resK, tup, tyf, List.drop_succ_cons, List.drop_zero]
    exact hN _ (by simp (maxSteps := 2000000) only [↓aw_region, ↓aw_skip, ↓aw_seq, ↓aw_block, ↓aw_exit, ↓aw_ret, ↓sops_nil, ↓sops_go, ↓dops_nil, ↓dopsX_nil, ↓dopsR_nil, ↓vdn, vup, extr_20, extr_21, extr_30, extr_31, extr_32, List.map_cons, List.map_nil, cond_true, cond_false, aop, aThen, aBlock, argEnv, ev, sput, sputO, binK, binI, unK, builtinK, pickK, Nat.reduceBEq, Nat.reduceAdd, Int.reduceBEq, Int.reduceBNe, Int.reduceLT, aPost, resK, tup, tyf, hf])
  have c1 : (a : Int) < (x : Int) := by omega
  by_cases hac : a < c
  rotate_left
  · have c2 : ¬ (a : Int) < (c : Int) := by omega
    have hf : r = false := by rw [hr]; exact decide_eq_false fun h => hac h.2.1
    refine aw_regcut 8 fun N1 hN1 => ?_
    simp (maxSteps := 2000000) only [↓aw_region, ↓aw_skip, ↓aw_seq, ↓aw_block, ↓aw_exit, ↓aw_ret, ↓sops_nil, ↓sops_go, ↓dops_nil, ↓dopsX_nil, ↓dopsR_nil, ↓vdn, vup, extr_20, extr_21, extr_30, extr_31, extr_32, List.map_cons, List.map_nil, cond_true, cond_false, aop, aThen, aBlock, argEnv, ev, sput, sputO, binK, binI, unK, builtinK, pickK, Nat.reduceBEq, Nat.reduceAdd, Int.reduceBEq, Int.reduceBNe, Int.reduceLT, aPost, resK, tup, tyf, List.take_succ_cons, List.take_zero, c1, c2]
    refine hN1 _ _ ?_
    clear hN1
    clear N1
    refine aw_regcut 10 fun N1 hN1 => ?_
    simp (maxSteps := 2000000) only [↓aw_region, ↓aw_skip, ↓aw_seq, ↓aw_block, ↓aw_exit, ↓aw_ret, ↓sops_nil, ↓sops_go, ↓dops_nil, ↓dopsX_nil, ↓dopsR_nil, ↓vdn, vup, extr_20, extr_21, extr_30, extr_31, extr_32, List.map_cons, List.map_nil, cond_true, cond_false, aop, aThen, aBlock, argEnv, ev, sput, sputO, binK, binI, unK, builtinK, pickK, Nat.reduceBEq, Nat.reduceAdd, Int.reduceBEq, Int.reduceBNe, Int.reduceLT, aPost, resK, tup, tyf, List.take_succ_cons, List.take_zero, List.drop_succ_cons, List.drop_zero]
    refine hN1 _ _ ?_
    clear hN1
    clear N1
    refine aw_regcut 10 fun N1 hN1 => ?_
    simp (maxSteps := 2000000) only [↓aw_region, ↓aw_skip, ↓aw_seq, ↓aw_block, ↓aw_exit, ↓aw_ret, ↓sops_nil, ↓sops_go, ↓dops_nil, ↓dopsX_nil, ↓dopsR_nil, ↓vdn, vup, extr_20, extr_21, extr_30, extr_31, extr_32, List.map_cons, List.map_nil, cond_true, cond_false, aop, aThen, aBlock, argEnv, ev, sput, sputO, binK, binI, unK, builtinK, pickK, Nat.reduceBEq, Nat.reduceAdd, Int.reduceBEq, Int.reduceBNe, Int.reduceLT, aPost, resK, tup, tyf, List.take_succ_cons, List.take_zero, List.drop_succ_cons, List.drop_zero]
    refine hN1 _ _ ?_
    clear hN1
    clear N1
    simp (maxSteps := 2000000) only [↓aw_region, ↓aw_skip, ↓aw_seq, ↓aw_block, ↓aw_exit, ↓aw_ret, ↓sops_nil, ↓sops_go, ↓dops_nil, ↓dopsX_nil, ↓dopsR_nil, ↓vdn, vup, extr_20, extr_21, extr_30, extr_31, extr_32, List.map_cons, List.map_nil, cond_true, cond_false, aop, aThen, aBlock, argEnv, ev, sput, sputO, binK, binI, unK, builtinK, pickK, Nat.reduceBEq, Nat.reduceAdd, Int.reduceBEq, Int.reduceBNe, Int.reduceLT, aPost, resK, tup, tyf, List.drop_succ_cons, List.drop_zero]
    exact hN _ (by simp (maxSteps := 2000000) only [↓aw_region, ↓aw_skip, ↓aw_seq, ↓aw_block, ↓aw_exit, ↓aw_ret, ↓sops_nil, ↓sops_go, ↓dops_nil, ↓dopsX_nil, ↓dopsR_nil, ↓vdn, vup, extr_20, extr_21, extr_30, extr_31, extr_32, List.map_cons, List.map_nil, cond_true, cond_false, aop, aThen, aBlock, argEnv, ev, sput, sputO, binK, binI, unK, builtinK, pickK, Nat.reduceBEq, Nat.reduceAdd, Int.reduceBEq, Int.reduceBNe, Int.reduceLT, aPost, resK, tup, tyf, hf])
  have c2 : (a : Int) < (c : Int) := by omega
  cases h1 : bb xs a x with
  | false =>
    have hf : r = false := by rw [hr]; exact decide_eq_false fun h => by rw [h1] at h; cases h.2.2.1
    refine aw_regcut 8 fun N1 hN1 => ?_
    simp (maxSteps := 2000000) only [↓aw_region, ↓aw_skip, ↓aw_seq, ↓aw_block, ↓aw_exit, ↓aw_ret, ↓sops_nil, ↓sops_go, ↓dops_nil, ↓dopsX_nil, ↓dopsR_nil, ↓vdn, vup, extr_20, extr_21, extr_30, extr_31, extr_32, List.map_cons, List.map_nil, cond_true, cond_false, aop, aThen, aBlock, argEnv, ev, sput, sputO, binK, binI, unK, builtinK, pickK, Nat.reduceBEq, Nat.reduceAdd, Int.reduceBEq, Int.reduceBNe, Int.reduceLT, aPost, resK, tup, tyf, List.take_succ_cons, List.take_zero, c1, c2]
    refine hN1 _ _ ?_
    clear hN1
    clear N1
    refine aw_regcut 10 fun N1 hN1 => ?_
    simp (maxSteps := 2000000) only [↓aw_region, ↓aw_skip, ↓aw_seq, ↓aw_block, ↓aw_exit, ↓aw_ret, ↓sops_nil, ↓sops_go, ↓dops_nil, ↓dopsX_nil, ↓dopsR_nil, ↓vdn, vup, extr_20, extr_21, extr_30, extr_31, extr_32, List.map_cons, List.map_nil, cond_true, cond_false, aop, aThen, aBlock, argEnv, ev, sput, sputO, binK, binI, unK, builtinK, pickK, Nat.reduceBEq, Nat.reduceAdd, Int.reduceBEq, Int.reduceBNe, Int.reduceLT, aPost, resK, tup, tyf, List.take_succ_cons, List.take_zero, List.drop_succ_cons, List.drop_zero, ia, la, ta, h1]
    refine hN1 _ _ ?_
    clear hN1
    clear N1
    refine aw_regcut 10 fun N1 hN1 => ?_
    simp (maxSteps := 2000000) only [↓aw_region, ↓aw_skip, ↓aw_seq, ↓aw_block, ↓aw_exit, ↓aw_ret, ↓sops_nil, ↓sops_go, ↓dops_nil, ↓dopsX_nil, ↓dopsR_nil, ↓vdn, vup, extr_20, extr_21, extr_30, extr_31, extr_32, List.map_cons, List.map_nil, cond_true, cond_false, aop, aThen, aBlock, argEnv, ev, sput, sputO, binK, binI, unK, builtinK, pickK, Nat.reduceBEq, Nat.reduceAdd, Int.reduceBEq, Int.reduceBNe, Int.reduceLT, aPost, resK, tup, tyf, List.take_succ_cons, List.take_zero, List.drop_succ_cons, List.drop_zero]
    refine hN1 _ _ ?_
    clear hN1
    clear N1
    simp (maxSteps := 2000000) only [↓aw_region, ↓aw_skip, ↓aw_seq, ↓aw_block, ↓aw_exit, ↓aw_ret, ↓sops_nil, ↓sops_go, ↓dops_nil, ↓dopsX_nil, ↓dopsR_nil, ↓vdn, vup, extr_20, extr_21, extr_30, extr_31, extr_32, List.map_cons, List.map_nil, cond_true, cond_false, aop, aThen, aBlock, argEnv, ev, sput, sputO, binK, binI, unK, builtinK, pickK, Nat.reduceBEq, Nat.reduceAdd, Int.reduceBEq, Int.reduceBNe, Int.reduceLT, aPost, resK, tup, tyf, List.drop_succ_cons, List.drop_zero]
    exact hN _ (by simp (maxSteps := 2000000) only [↓aw_region, ↓aw_skip, ↓aw_seq, ↓aw_block, ↓aw_exit, ↓aw_ret, ↓sops_nil, ↓sops_go, ↓dops_nil, ↓dopsX_nil, ↓dopsR_nil, ↓vdn, vup, extr_20, extr_21, extr_30, extr_31, extr_32, List.map_cons, List.map_nil, cond_true, cond_false, aop, aThen, aBlock, argEnv, ev, sput, sputO, binK, binI, unK, builtinK, pickK, Nat.reduceBEq, Nat.reduceAdd, Int.reduceBEq, Int.reduceBNe, Int.reduceLT, aPost, resK, tup, tyf, hf])
  | true =>
  cases h2 : bb xs x c with
  | false =>
    have hf : r = false := by rw [hr]; exact decide_eq_false fun h => by rw [h2] at h; cases h.2.2.2.1
    refine aw_regcut 8 fun N1 hN1 => ?_
    simp (maxSteps := 2000000) only [↓aw_region, ↓aw_skip, ↓aw_seq, ↓aw_block, ↓aw_exit, ↓aw_ret, ↓sops_nil, ↓sops_go, ↓dops_nil, ↓dopsX_nil, ↓dopsR_nil, ↓vdn, vup, extr_20, extr_21, extr_30, extr_31, extr_32, List.map_cons, List.map_nil, cond_true, cond_false, aop, aThen, aBlock, argEnv, ev, sput, sputO, binK, binI, unK, builtinK, pickK, Nat.reduceBEq, Nat.reduceAdd, Int.reduceBEq, Int.reduceBNe, Int.reduceLT, aPost, resK, tup, tyf, List.take_succ_cons, List.take_zero, c1, c2]
    refine hN1 _ _ ?_
    clear hN1
    clear N1
    refine aw_regcut 10 fun N1 hN1 => ?_
    simp (maxSteps := 2000000) only [↓aw_region, ↓aw_skip, ↓aw_seq, ↓aw_block, ↓aw_exit, ↓aw_ret, ↓sops_nil, ↓sops_go, ↓dops_nil, ↓dopsX_nil, ↓dopsR_nil, ↓vdn, vup, extr_20, extr_21, extr_30, extr_31, extr_32, List.map_cons, List.map_nil, cond_true, cond_false, aop, aThen, aBlock, argEnv, ev, sput, sputO, binK, binI, unK, builtinK, pickK, Nat.reduceBEq, Nat.reduceAdd, Int.reduceBEq, Int.reduceBNe, Int.reduceLT, aPost, resK, tup, tyf, List.take_succ_cons, List.take_zero, List.drop_succ_cons, List.drop_zero, ia, la, ta, h1]
    refine hN1 _ _ ?_
    clear hN1
    clear N1
    refine aw_regcut 10 fun N1 hN1 => ?_
    simp (maxSteps := 2000000) only [↓aw_region, ↓aw_skip, ↓aw_seq, ↓aw_block, ↓aw_exit, ↓aw_ret, ↓sops_nil, ↓sops_go, ↓dops_nil, ↓dopsX_nil, ↓dopsR_nil, ↓vdn, vup, extr_20, extr_21, extr_30, extr_31, extr_32, List.map_cons, List.map_nil, cond_true, cond_false, aop, aThen, aBlock, argEnv, ev, sput, sputO, binK, binI, unK, builtinK, pickK, Nat.reduceBEq, Nat.reduceAdd, Int.reduceBEq, Int.reduceBNe, Int.reduceLT, aPost, resK, tup, tyf, List.take_succ_cons, List.take_zero, List.drop_succ_cons, List.drop_zero, ix, lx, tx, h2]
    refine hN1 _ _ ?_
    clear hN1
    clear N1
    simp (maxSteps := 2000000) only [↓aw_region, ↓aw_skip, ↓aw_seq, ↓aw_block, ↓aw_exit, ↓aw_ret, ↓sops_nil, ↓sops_go, ↓dops_nil, ↓dopsX_nil, ↓dopsR_nil, ↓vdn, vup, extr_20, extr_21, extr_30, extr_31, extr_32, List.map_cons, List.map_nil, cond_true, cond_false, aop, aThen, aBlock, argEnv, ev, sput, sputO, binK, binI, unK, builtinK, pickK, Nat.reduceBEq, Nat.reduceAdd, Int.reduceBEq, Int.reduceBNe, Int.reduceLT, aPost, resK, tup, tyf, List.drop_succ_cons, List.drop_zero]
    exact hN _ (by simp (maxSteps := 2000000) only [↓aw_region, ↓aw_skip, ↓aw_seq, ↓aw_block, ↓aw_exit, ↓aw_ret, ↓sops_nil, ↓sops_go, ↓dops_nil, ↓dopsX_nil, ↓dopsR_nil, ↓vdn, vup, extr_20, extr_21, extr_30, extr_31, extr_32, List.map_cons, List.map_nil, cond_true, cond_false, aop, aThen, aBlock, argEnv, ev, sput, sputO, binK, binI, unK, builtinK, pickK, Nat.reduceBEq, Nat.reduceAdd, Int.reduceBEq, Int.reduceBNe, Int.reduceLT, aPost, resK, tup, tyf, hf])
  | true =>
  cases h3 : bb xs c a with
  | false =>
    have hf : r = false := by rw [hr]; exact decide_eq_false fun h => by rw [h3] at h; cases h.2.2.2.2
    refine aw_regcut 8 fun N1 hN1 => ?_
    simp (maxSteps := 2000000) only [↓aw_region, ↓aw_skip, ↓aw_seq, ↓aw_block, ↓aw_exit, ↓aw_ret, ↓sops_nil, ↓sops_go, ↓dops_nil, ↓dopsX_nil, ↓dopsR_nil, ↓vdn, vup, extr_20, extr_21, extr_30, extr_31, extr_32, List.map_cons, List.map_nil, cond_true, cond_false, aop, aThen, aBlock, argEnv, ev, sput, sputO, binK, binI, unK, builtinK, pickK, Nat.reduceBEq, Nat.reduceAdd, Int.reduceBEq, Int.reduceBNe, Int.reduceLT, aPost, resK, tup, tyf, List.take_succ_cons, List.take_zero, c1, c2]
    refine hN1 _ _ ?_
    clear hN1
    clear N1
    refine aw_regcut 10 fun N1 hN1 => ?_
    simp (maxSteps := 2000000) only [↓aw_region, ↓aw_skip, ↓aw_seq, ↓aw_block, ↓aw_exit, ↓aw_ret, ↓sops_nil, ↓sops_go, ↓dops_nil, ↓dopsX_nil, ↓dopsR_nil, ↓vdn, vup, extr_20, extr_21, extr_30, extr_31, extr_32, List.map_cons, List.map_nil, cond_true, cond_false, aop, aThen, aBlock, argEnv, ev, sput, sputO, binK, binI, unK, builtinK, pickK, Nat.reduceBEq, Nat.reduceAdd, Int.reduceBEq, Int.reduceBNe, Int.reduceLT, aPost, resK, tup, tyf, List.take_succ_cons, List.take_zero, List.drop_succ_cons, List.drop_zero, ia, la, ta, h1]
    refine hN1 _ _ ?_
    clear hN1
    clear N1
    refine aw_regcut 10 fun N1 hN1 => ?_
    simp (maxSteps := 2000000) only [↓aw_region, ↓aw_skip, ↓aw_seq, ↓aw_block, ↓aw_exit, ↓aw_ret, ↓sops_nil, ↓sops_go, ↓dops_nil, ↓dopsX_nil, ↓dopsR_nil, ↓vdn, vup, extr_20, extr_21, extr_30, extr_31, extr_32, List.map_cons, List.map_nil, cond_true, cond_false, aop, aThen, aBlock, argEnv, ev, sput, sputO, binK, binI, unK, builtinK, pickK, Nat.reduceBEq, Nat.reduceAdd, Int.reduceBEq, Int.reduceBNe, Int.reduceLT, aPost, resK, tup, tyf, List.take_succ_cons, List.take_zero, List.drop_succ_cons, List.drop_zero, ix, lx, tx, h2]
    refine hN1 _ _ ?_
    clear hN1
    clear N1
    simp (maxSteps := 2000000) only [↓aw_region, ↓aw_skip, ↓aw_seq, ↓aw_block, ↓aw_exit, ↓aw_ret, ↓sops_nil, ↓sops_go, ↓dops_nil, ↓dopsX_nil, ↓dopsR_nil, ↓vdn, vup, extr_20, extr_21, extr_30, extr_31, extr_32, List.map_cons, List.map_nil, cond_true, cond_false, aop, aThen, aBlock, argEnv, ev, sput, sputO, binK, binI, unK, builtinK, pickK, Nat.reduceBEq, Nat.reduceAdd, Int.reduceBEq, Int.reduceBNe, Int.reduceLT, aPost, resK, tup, tyf, List.drop_succ_cons, List.drop_zero, ic, lc, tc, h3]
    exact hN _ (by simp (maxSteps := 2000000) only [↓aw_region, ↓aw_skip, ↓aw_seq, ↓aw_block, ↓aw_exit, ↓aw_ret, ↓sops_nil, ↓sops_go, ↓dops_nil, ↓dopsX_nil, ↓dopsR_nil, ↓vdn, vup, extr_20, extr_21, extr_30, extr_31, extr_32, List.map_cons, List.map_nil, cond_true, cond_false, aop, aThen, aBlock, argEnv, ev, sput, sputO, binK, binI, unK, builtinK, pickK, Nat.reduceBEq, Nat.reduceAdd, Int.reduceBEq, Int.reduceBNe, Int.reduceLT, aPost, resK, tup, tyf, hf])
  | true =>
    have hf : r = true := by rw [hr]; exact decide_eq_true ⟨hax, hac, h1, h2, h3⟩
    refine aw_regcut 8 fun N1 hN1 => ?_
    simp (maxSteps := 2000000) only [↓aw_region, ↓aw_skip, ↓aw_seq, ↓aw_block, ↓aw_exit, ↓aw_ret, ↓sops_nil, ↓sops_go, ↓dops_nil, ↓dopsX_nil, ↓dopsR_nil, ↓vdn, vup, extr_20, extr_21, extr_30, extr_31, extr_32, List.map_cons, List.map_nil, cond_true, cond_false, aop, aThen, aBlock, argEnv, ev, sput, sputO, binK, binI, unK, builtinK, pickK, Nat.reduceBEq, Nat.reduceAdd, Int.reduceBEq, Int.reduceBNe, Int.reduceLT, aPost, resK, tup, tyf, List.take_succ_cons, List.take_zero, c1, c2]
    refine hN1 _ _ ?_
    clear hN1
    clear N1
    refine aw_regcut 10 fun N1 hN1 => ?_
    simp (maxSteps := 2000000) only [↓aw_region, ↓aw_skip, ↓aw_seq, ↓aw_block, ↓aw_exit, ↓aw_ret, ↓sops_nil, ↓sops_go, ↓dops_nil, ↓dopsX_nil, ↓dopsR_nil, ↓vdn, vup, extr_20, extr_21, extr_30, extr_31, extr_32, List.map_cons, List.map_nil, cond_true, cond_false, aop, aThen, aBlock, argEnv, ev, sput, sputO, binK, binI, unK, builtinK, pickK, Nat.reduceBEq, Nat.reduceAdd, Int.reduceBEq, Int.reduceBNe, Int.reduceLT, aPost, resK, tup, tyf, List.take_succ_cons, List.take_zero, List.drop_succ_cons, List.drop_zero, ia, la, ta, h1]
    refine hN1 _ _ ?_
    clear hN1
    clear N1
    refine aw_regcut 10 fun N1 hN1 => ?_
    simp (maxSteps := 2000000) only [↓aw_region, ↓aw_skip, ↓aw_seq, ↓aw_block, ↓aw_exit, ↓aw_ret, ↓sops_nil, ↓sops_go, ↓dops_nil, ↓dopsX_nil, ↓dopsR_nil, ↓vdn, vup, extr_20, extr_21, extr_30, extr_31, extr_32, List.map_cons, List.map_nil, cond_true, cond_false, aop, aThen, aBlock, argEnv, ev, sput, sputO, binK, binI, unK, builtinK, pickK, Nat.reduceBEq, Nat.reduceAdd, Int.reduceBEq, Int.reduceBNe, Int.reduceLT, aPost, resK, tup, tyf, List.take_succ_cons, List.take_zero, List.drop_succ_cons, List.drop_zero, ix, lx, tx, h2]
    refine hN1 _ _ ?_
    clear hN1
    clear N1
    simp (maxSteps := 2000000) only [↓aw_region, ↓aw_skip, ↓aw_seq, ↓aw_block, ↓aw_exit, ↓aw_ret, ↓sops_nil, ↓sops_go, ↓dops_nil, ↓dopsX_nil, ↓dopsR_nil, ↓vdn, vup, extr_20, extr_21, extr_30, extr_31, extr_32, List.map_cons, List.map_nil, cond_true, cond_false, aop, aThen, aBlock, argEnv, ev, sput, sputO, binK, binI, unK, builtinK, pickK, Nat.reduceBEq, Nat.reduceAdd, Int.reduceBEq, Int.reduceBNe, Int.reduceLT, aPost, resK, tup, tyf, List.drop_succ_cons, List.drop_zero, ic, lc, tc, h3]
    exact hN _ (by simp (maxSteps := 2000000) only [↓aw_region, ↓aw_skip, ↓aw_seq, ↓aw_block, ↓aw_exit, ↓aw_ret, ↓sops_nil, ↓sops_go, ↓dops_nil, ↓dopsX_nil, ↓dopsR_nil, ↓vdn, vup, extr_20, extr_21, extr_30, extr_31, extr_32, List.map_cons, List.map_nil, cond_true, cond_false, aop, aThen, aBlock, argEnv, ev, sput, sputO, binK, binI, unK, builtinK, pickK, Nat.reduceBEq, Nat.reduceAdd, Int.reduceBEq, Int.reduceBNe, Int.reduceLT, aPost, resK, tup, tyf, hf])

theorem rcycles_call [Tabs prog] {h : Heap} {v : Value} {xs : List Int} (hv : IntSl h v xs) (ht : trn xs = true) : ACall prog 33 [v] h fun r h' => OwnT 40 h' r (cA xs xs.length) ∧ Ext (fun _ => False) h h' := by
  have hl := trn_len ht
  have hsq : xs.length * xs.length ≤ 64 := Nat.mul_le_mul hl.2 hl.2
  have hpw : 2 ^ xs.length ≤ 2 ^ 8 := Nat.pow_le_pow_right (by decide) hl.2
  have hnat : ∀ i, i < xs.length → 0 ≤ xs.getD i 0 ∧ xs.getD i 0 < 9223372036854775808 := fun i hi => by have := trn_nat ht hi; omega
  refine s33_call (by simp) ?_
  simp (maxSteps := 2000000) only [s33, ↓aw_region, ↓aw_skip, ↓aw_seq, ↓aw_block, ↓aw_exit, ↓aw_ret, ↓sops_nil, ↓sops_go, ↓dops_nil, ↓dopsX_nil, ↓dopsR_nil, ↓vdn, vup, extr_20, extr_21, extr_30, extr_31, extr_32, List.map_cons, List.map_nil, cond_true, cond_false, aop, aThen, aBlock, argEnv, ev, sput, sputO, binK, binI, unK, builtinK, pickK, Nat.reduceBEq, Nat.reduceAdd, Int.reduceBEq, Int.reduceBNe, Int.reduceLT, aPost, resK, tup, tyf, hv.len, ↓aw_loop_eq]
  refine aws_hide fun Q hQ => ?_
  refine aw_loop (γ := Nat × Value × Heap) (fun s => s.1 ≤ xs.length ∧ RS3 h s.2.2 s.2.1 (dA xs s.1))
    (fun s => ([(0, v), (3, s.2.1), (8, vint xs.length), (9, vint s.1)], s.2.2)) (fun s => xs.length - s.1) (0, .slice none 0 0, h) ⟨Nat.zero_le _, .inl ⟨rfl, rfl⟩, Ext.refl _ _, fun _ h => by cases h⟩ (by simp (maxSteps := 2000000) only [↓aw_region, ↓aw_skip, ↓aw_seq, ↓aw_block, ↓aw_exit, ↓aw_ret, ↓sops_nil, ↓sops_go, ↓dops_nil, ↓dopsX_nil, ↓dopsR_nil, ↓vdn, vup, extr_20, extr_21, extr_30, extr_31, extr_32, List.map_cons, List.map_nil, cond_true, cond_false, aop, aThen, aBlock, argEnv, ev, sput, sputO, binK, binI, unK, builtinK, pickK, Nat.reduceBEq, Nat.reduceAdd, Int.reduceBEq, Int.reduceBNe, Int.reduceLT, aPost, resK, tup, tyf, Int.natCast_zero]) rfl ?_
  rintro ⟨a, ov, hp⟩ ⟨ha, s⟩
  simp only at ha s
  refine aw_hide fun Q2 hQ2 => ?_
  by_cases hin : (a : Int) < xs.length
  · have ha' : a < xs.length := by omega
    simp only [l33_2]
    simp (maxSteps := 2000000) only [s33, ↓aw_region, ↓aw_skip, ↓aw_seq, ↓aw_block, ↓aw_exit, ↓aw_ret, ↓sops_nil, ↓sops_go, ↓dops_nil, ↓dopsX_nil, ↓dopsR_nil, ↓vdn, vup, extr_20, extr_21, extr_30, extr_31, extr_32, List.map_cons, List.map_nil, cond_true, cond_false, aop, aThen, aBlock, argEnv, ev, sput, sputO, binK, binI, unK, builtinK, pickK, Nat.reduceBEq, Nat.reduceAdd, Int.reduceBEq, Int.reduceBNe, Int.reduceLT, aPost, resK, tup, tyf, hin, (IntSl_ext hv s.2.1).len, ↓aw_loop_eq]
    refine aws_hide fun Q3 hQ3 => ?_
    refine aw_loop (γ := Nat × Value × Heap) (fun t => t.1 ≤ xs.length ∧ RS3 h t.2.2 t.2.1 (dA xs a ++ dX xs a t.1))
      (fun t => ([(0, v), (3, t.2.1), (4, vint a), (8, vint xs.length), (9, vint a), (13, vint xs.length), (14, vint t.1)], t.2.2)) (fun t => xs.length - t.1) (0, ov, hp) ⟨Nat.zero_le _, by simpa [dX] using s⟩ (by simp (maxSteps := 2000000) only [↓aw_region, ↓aw_skip, ↓aw_seq, ↓aw_block, ↓aw_exit, ↓aw_ret, ↓sops_nil, ↓sops_go, ↓dops_nil, ↓dopsX_nil, ↓dopsR_nil, ↓vdn, vup, extr_20, extr_21, extr_30, extr_31, extr_32, List.map_cons, List.map_nil, cond_true, cond_false, aop, aThen, aBlock, argEnv, ev, sput, sputO, binK, binI, unK, builtinK, pickK, Nat.reduceBEq, Nat.reduceAdd, Int.reduceBEq, Int.reduceBNe, Int.reduceLT, aPost, resK, tup, tyf, Int.natCast_zero]) rfl ?_
    rintro ⟨x, ov2, hp2⟩ ⟨hx, s2⟩
    simp only at hx s2
    refine aw_hide fun Q4 hQ4 => ?_
    by_cases hxn : (x : Int) < xs.length
    · have hx' : x < xs.length := by omega
      simp only [l33_1]
      simp (maxSteps := 2000000) only [s33, ↓aw_region, ↓aw_skip, ↓aw_seq, ↓aw_block, ↓aw_exit, ↓aw_ret, ↓sops_nil, ↓sops_go, ↓dops_nil, ↓dopsX_nil, ↓dopsR_nil, ↓vdn, vup, extr_20, extr_21, extr_30, extr_31, extr_32, List.map_cons, List.map_nil, cond_true, cond_false, aop, aThen, aBlock, argEnv, ev, sput, sputO, binK, binI, unK, builtinK, pickK, Nat.reduceBEq, Nat.reduceAdd, Int.reduceBEq, Int.reduceBNe, Int.reduceLT, aPost, resK, tup, tyf, hxn, (IntSl_ext hv s2.2.1).len, ↓aw_loop_eq]
      refine aws_hide fun Q5 hQ5 => ?_
      refine aw_loopW (γ := Nat × Value × Heap) (fun u => u.1 ≤ xs.length ∧ RS3 h u.2.2 u.2.1 (dA xs a ++ dX xs a x ++ dC xs a x u.1))
        (fun u => ([(0, v), (3, u.2.1), (4, vint a), (5, vint x), (8, vint xs.length), (9, vint a), (13, vint xs.length), (14, vint x), (18, vint xs.length), (19, vint u.1)], u.2.2)) (fun u => xs.length - u.1) (0, ov2, hp2) ⟨Nat.zero_le _, by simpa [dC] using s2⟩ (by simp (maxSteps := 2000000) only [↓aw_region, ↓aw_skip, ↓aw_seq, ↓aw_block, ↓aw_exit, ↓aw_ret, ↓sops_nil, ↓sops_go, ↓dops_nil, ↓dopsX_nil, ↓dopsR_nil, ↓vdn, vup, extr_20, extr_21, extr_30, extr_31, extr_32, List.map_cons, List.map_nil, cond_true, cond_false, aop, aThen, aBlock, argEnv, ev, sput, sputO, binK, binI, unK, builtinK, pickK, Nat.reduceBEq, Nat.reduceAdd, Int.reduceBEq, Int.reduceBNe, Int.reduceLT, aPost, resK, tup, tyf, Int.natCast_zero]) rfl ?_
      rintro ⟨c, ov3, hp3⟩ ⟨hc, s3⟩
      simp only at hc s3
      refine aws_hide fun Q6 hQ6 => ?_
      simp only [l33_0]
      refine aws_cut fun N hN => ?_
      simp (maxSteps := 2000000) only [↓aw_region, ↓aw_skip, ↓aw_seq, ↓aw_block, ↓aw_exit, ↓aw_ret, ↓sops_nil, ↓sops_go, ↓dops_nil, ↓dopsX_nil, ↓dopsR_nil, ↓vdn, vup, extr_20, extr_21, extr_30, extr_31, extr_32, List.map_cons, List.map_nil, cond_true, cond_false, aop, aThen, aBlock, argEnv, ev, sput, sputO, binK, binI, unK, builtinK, pickK, Nat.reduceBEq, Nat.reduceAdd, Int.reduceBEq, Int.reduceBNe, Int.reduceLT, aPost, resK, tup, tyf]
      refine hN [(0, v), (3, ov3), (4, vint a), (5, vint x), (8, vint xs.length), (9, vint a), (13, vint xs.length), (14, vint x), (18, vint xs.length), (19, vint c), (20, .bool (decide (((c : Nat) : Int) < ((xs.length : Nat) : Int))))] _ _ ?_ (by simp (maxSteps := 2000000) only [↓aw_region, ↓aw_skip, ↓aw_seq, ↓aw_block, ↓aw_exit, ↓aw_ret, ↓sops_nil, ↓sops_go, ↓dops_nil, ↓dopsX_nil, ↓dopsR_nil, ↓vdn, vup, extr_20, extr_21, extr_30, extr_31, extr_32, List.map_cons, List.map_nil, cond_true, cond_false, aop, aThen, aBlock, argEnv, ev, sput, sputO, binK, binI, unK, builtinK, pickK, Nat.reduceBEq, Nat.reduceAdd, Int.reduceBEq, Int.reduceBNe, Int.reduceLT, aPost, resK, tup, tyf])
      clear hN N
      by_cases hc' : c < xs.length
      · have hcn : ((c : Nat) : Int) < ((xs.length : Nat) : Int) := by omega
        have hv3 := IntSl_ext hv s3.2.1
        have hlen : (dA xs a ++ dX xs a x ++ dC xs a x c).length ≤ 1024 := by
          have g1 := dA_le (xs := xs) (k := a)
          have g2 := dX_le (xs := xs) (a := a) (k := x)
          have g3 := dC_le (xs := xs) (a := a) (x := x) (k := c)
          have g4 : a * (xs.length * xs.length) ≤ 8 * 64 := Nat.mul_le_mul (by omega) hsq
          have g5 : x * xs.length ≤ 8 * 8 := Nat.mul_le_mul (by omega) hl.2
          simp only [List.length_append]; omega
        refine aws_cutW fun N hN => ?_
        refine aws_true (by simp (maxSteps := 2000000) only [↓aw_region, ↓aw_skip, ↓aw_seq, ↓aw_block, ↓aw_exit, ↓aw_ret, ↓sops_nil, ↓sops_go, ↓dops_nil, ↓dopsX_nil, ↓dopsR_nil, ↓vdn, vup, extr_20, extr_21, extr_30, extr_31, extr_32, List.map_cons, List.map_nil, cond_true, cond_false, aop, aThen, aBlock, argEnv, ev, sput, sputO, binK, binI, unK, builtinK, pickK, Nat.reduceBEq, Nat.reduceAdd, Int.reduceBEq, Int.reduceBNe, Int.reduceLT, aPost, resK, tup, tyf, hcn]) (aw_aws ?_)
        simp (maxSteps := 2000000) only [↓aw_region, ↓aw_skip, ↓aw_seq, ↓aw_block, ↓aw_exit, ↓aw_ret, ↓sops_nil, ↓sops_go, ↓dops_nil, ↓dopsX_nil, ↓dopsR_nil, ↓vdn, vup, extr_20, extr_21, extr_30, extr_31, extr_32, List.map_cons, List.map_nil, cond_true, cond_false, aop, aThen, aBlock, argEnv, ev, sput, sputO, binK, binI, unK, builtinK, pickK, Nat.reduceBEq, Nat.reduceAdd, Int.reduceBEq, Int.reduceBNe, Int.reduceLT, aPost, resK, tup, tyf]
        refine hN [(0, v), (3, ov3), (4, vint a), (5, vint x), (8, vint xs.length), (9, vint a), (13, vint xs.length), (14, vint x), (18, vint xs.length), (19, vint c)] _ _ ?_ (by simp (maxSteps := 2000000) only [↓aw_region, ↓aw_skip, ↓aw_seq, ↓aw_block, ↓aw_exit, ↓aw_ret, ↓sops_nil, ↓sops_go, ↓dops_nil, ↓dopsX_nil, ↓dopsR_nil, ↓vdn, vup, extr_20, extr_21, extr_30, extr_31, extr_32, List.map_cons, List.map_nil, cond_true, cond_false, aop, aThen, aBlock, argEnv, ev, sput, sputO, binK, binI, unK, builtinK, pickK, Nat.reduceBEq, Nat.reduceAdd, Int.reduceBEq, Int.reduceBNe, Int.reduceLT, aPost, resK, tup, tyf])
        clear hN N
        refine aws_cutW fun N hN => ?_
        -- what is left of the round
        have rest : ∀ e' ov4 hp4, ELe e' [(0, v), (3, ov4), (4, vint a), (5, vint x), (8, vint xs.length), (9, vint a), (13, vint xs.length), (14, vint x), (18, vint xs.length), (19, vint c)] → RS3 h hp4 ov4 (dA xs a ++ dX xs a x ++ dC xs a x (c + 1)) → N e' hp4 := fun e' ov4 hp4 he s4 => by
          refine hN [(0, v), (3, ov4), (4, vint a), (5, vint x), (8, vint xs.length), (9, vint a), (13, vint xs.length), (14, vint x), (18, vint xs.length), (19, vint c)] _ _ ?_ he
          refine aw_aws ?_
          simp (maxSteps := 2000000) only [↓aw_region, ↓aw_skip, ↓aw_seq, ↓aw_block, ↓aw_exit, ↓aw_ret, ↓sops_nil, ↓sops_go, ↓dops_nil, ↓dopsX_nil, ↓dopsR_nil, ↓vdn, vup, extr_20, extr_21, extr_30, extr_31, extr_32, List.map_cons, List.map_nil, cond_true, cond_false, aop, aThen, aBlock, argEnv, ev, sput, sputO, binK, binI, unK, builtinK, pickK, Nat.reduceBEq, Nat.reduceAdd, Int.reduceBEq, Int.reduceBNe, Int.reduceLT, aPost, resK, tup, tyf, add1 (show c < 9223372036854775807 by omega)]
          exact hQ6 _ _ _ ⟨(c + 1, ov4, hp4), ⟨by simp only; omega, s4⟩, by simp only; omega, by simp (maxSteps := 2000000) only [↓aw_region, ↓aw_skip, ↓aw_seq, ↓aw_block, ↓aw_exit, ↓aw_ret, ↓sops_nil, ↓sops_go, ↓dops_nil, ↓dopsX_nil, ↓dopsR_nil, ↓vdn, vup, extr_20, extr_21, extr_30, extr_31, extr_32, List.map_cons, List.map_nil, cond_true, cond_false, aop, aThen, aBlock, argEnv, ev, sput, sputO, binK, binI, unK, builtinK, pickK, Nat.reduceBEq, Nat.reduceAdd, Int.reduceBEq, Int.reduceBNe, Int.reduceLT, aPost, resK, tup, tyf], rfl⟩
        refine aws_block ?_
        refine aws_cut fun N2 hN2 => ?_
        simp (maxSteps := 2000000) only [↓aw_region, ↓aw_skip, ↓aw_seq, ↓aw_block, ↓aw_exit, ↓aw_ret, ↓sops_nil, ↓sops_go, ↓dops_nil, ↓dopsX_nil, ↓dopsR_nil, ↓vdn, vup, extr_20, extr_21, extr_30, extr_31, extr_32, List.map_cons, List.map_nil, cond_true, cond_false, aop, aThen, aBlock, argEnv, ev, sput, sputO, binK, binI, unK, builtinK, pickK, Nat.reduceBEq, Nat.reduceAdd, Int.reduceBEq, Int.reduceBNe, Int.reduceLT, aPost, resK, tup, tyf]
        refine hN2 [(0, v), (3, ov3), (4, vint a), (5, vint x), (8, vint xs.length), (9, vint a), (13, vint xs.length), (14, vint x), (18, vint xs.length), (19, vint c), (6, vint c)] _ _ ?_ (by simp (maxSteps := 2000000) only [↓aw_region, ↓aw_skip, ↓aw_seq, ↓aw_block, ↓aw_exit, ↓aw_ret, ↓sops_nil, ↓sops_go, ↓dops_nil, ↓dopsX_nil, ↓dopsR_nil, ↓vdn, vup, extr_20, extr_21, extr_30, extr_31, extr_32, List.map_cons, List.map_nil, cond_true, cond_false, aop, aThen, aBlock, argEnv, ev, sput, sputO, binK, binI, unK, builtinK, pickK, Nat.reduceBEq, Nat.reduceAdd, Int.reduceBEq, Int.reduceBNe, Int.reduceLT, aPost, resK, tup, tyf])
        clear hN2 N2
        refine aws_cut fun N2 hN2 => ?_
        refine tri_test hv3 ha' hx' hc' hnat rfl fun e' he' => ?_
        refine hN2 [(0, v), (3, ov3), (4, vint a), (5, vint x), (8, vint xs.length), (9, vint a), (13, vint xs.length), (14, vint x), (18, vint xs.length), (19, vint c), (6, vint c), (59, .bool (decide (a < x ∧ a < c ∧ bb xs a x = true ∧ bb xs x c = true ∧ bb xs c a = true)))] _ _ ?_ (by
          simp only [ele_cons, ele_nil, and_true] at he' ⊢
          obtain ⟨q1, q2, q3, q4, q5, q6, q7, q8, q9, q10, q11, q12⟩ := he'
          exact ⟨q1, q2, q3, q4, q6, q7, q8, q9, q10, q11, q5, q12⟩)
        clear hN2 N2 he'
        by_cases hyes : a < x ∧ a < c ∧ bb xs a x = true ∧ bb xs x c = true ∧ bb xs c a = true
        · refine aws_true (by simp (maxSteps := 2000000) only [↓aw_region, ↓aw_skip, ↓aw_seq, ↓aw_block, ↓aw_exit, ↓aw_ret, ↓sops_nil, ↓sops_go, ↓dops_nil, ↓dopsX_nil, ↓dopsR_nil, ↓vdn, vup, extr_20, extr_21, extr_30, extr_31, extr_32, List.map_cons, List.map_nil, cond_true, cond_false, aop, aThen, aBlock, argEnv, ev, sput, sputO, binK, binI, unK, builtinK, pickK, Nat.reduceBEq, Nat.reduceAdd, Int.reduceBEq, Int.reduceBNe, Int.reduceLT, aPost, resK, tup, tyf, hyes, decide_true]) (aw_aws ?_)
          simp (maxSteps := 2000000) only [↓aw_region, ↓aw_skip, ↓aw_seq, ↓aw_block, ↓aw_exit, ↓aw_ret, ↓sops_nil, ↓sops_go, ↓dops_nil, ↓dopsX_nil, ↓dopsR_nil, ↓vdn, vup, extr_20, extr_21, extr_30, extr_31, extr_32, List.map_cons, List.map_nil, cond_true, cond_false, aop, aThen, aBlock, argEnv, ev, sput, sputO, binK, binI, unK, builtinK, pickK, Nat.reduceBEq, Nat.reduceAdd, Int.reduceBEq, Int.reduceBNe, Int.reduceLT, aPost, resK, tup, tyf, List.toList_toArray, bld3, litT el_36 zero_40 esz_40]
          refine s3.push (by omega) fun v' h' s4 => ?_
          refine rest _ v' h' (by simp (maxSteps := 2000000) only [↓aw_region, ↓aw_skip, ↓aw_seq, ↓aw_block, ↓aw_exit, ↓aw_ret, ↓sops_nil, ↓sops_go, ↓dops_nil, ↓dopsX_nil, ↓dopsR_nil, ↓vdn, vup, extr_20, extr_21, extr_30, extr_31, extr_32, List.map_cons, List.map_nil, cond_true, cond_false, aop, aThen, aBlock, argEnv, ev, sput, sputO, binK, binI, unK, builtinK, pickK, Nat.reduceBEq, Nat.reduceAdd, Int.reduceBEq, Int.reduceBNe, Int.reduceLT, aPost, resK, tup, tyf]) ?_
          rw [dC_succ, if_pos hyes, ← List.append_assoc]; exact s4
        · refine aws_false (by simp (maxSteps := 2000000) only [↓aw_region, ↓aw_skip, ↓aw_seq, ↓aw_block, ↓aw_exit, ↓aw_ret, ↓sops_nil, ↓sops_go, ↓dops_nil, ↓dopsX_nil, ↓dopsR_nil, ↓vdn, vup, extr_20, extr_21, extr_30, extr_31, extr_32, List.map_cons, List.map_nil, cond_true, cond_false, aop, aThen, aBlock, argEnv, ev, sput, sputO, binK, binI, unK, builtinK, pickK, Nat.reduceBEq, Nat.reduceAdd, Int.reduceBEq, Int.reduceBNe, Int.reduceLT, aPost, resK, tup, tyf, hyes, decide_false]) (aw_aws ?_)
          simp (maxSteps := 2000000) only [↓aw_region, ↓aw_skip, ↓aw_seq, ↓aw_block, ↓aw_exit, ↓aw_ret, ↓sops_nil, ↓sops_go, ↓dops_nil, ↓dopsX_nil, ↓dopsR_nil, ↓vdn, vup, extr_20, extr_21, extr_30, extr_31, extr_32, List.map_cons, List.map_nil, cond_true, cond_false, aop, aThen, aBlock, argEnv, ev, sput, sputO, binK, binI, unK, builtinK, pickK, Nat.reduceBEq, Nat.reduceAdd, Int.reduceBEq, Int.reduceBNe, Int.reduceLT, aPost, resK, tup, tyf]
          refine rest _ ov3 hp3 (by simp (maxSteps := 2000000) only [↓aw_region, ↓aw_skip, ↓aw_seq, ↓aw_block, ↓aw_exit, ↓aw_ret, ↓sops_nil, ↓sops_go, ↓dops_nil, ↓dopsX_nil, ↓dopsR_nil, ↓vdn, vup, extr_20, extr_21, extr_30, extr_31, extr_32, List.map_cons, List.map_nil, cond_true, cond_false, aop, aThen, aBlock, argEnv, ev, sput, sputO, binK, binI, unK, builtinK, pickK, Nat.reduceBEq, Nat.reduceAdd, Int.reduceBEq, Int.reduceBNe, Int.reduceLT, aPost, resK, tup, tyf]) ?_
          rw [dC_succ, if_neg hyes, List.append_nil]; exact s3
      · obtain rfl : c = xs.length := by omega
        refine aws_cutW fun N hN => ?_
        refine aws_false (by simp (maxSteps := 2000000) only [↓aw_region, ↓aw_skip, ↓aw_seq, ↓aw_block, ↓aw_exit, ↓aw_ret, ↓sops_nil, ↓sops_go, ↓dops_nil, ↓dopsX_nil, ↓dopsR_nil, ↓vdn, vup, extr_20, extr_21, extr_30, extr_31, extr_32, List.map_cons, List.map_nil, cond_true, cond_false, aop, aThen, aBlock, argEnv, ev, sput, sputO, binK, binI, unK, builtinK, pickK, Nat.reduceBEq, Nat.reduceAdd, Int.reduceBEq, Int.reduceBNe, Int.reduceLT, aPost, resK, tup, tyf, Int.lt_irrefl, decide_false]) (aw_aws ?_)
        simp (maxSteps := 2000000) only [↓aw_region, ↓aw_skip, ↓aw_seq, ↓aw_block, ↓aw_exit, ↓aw_ret, ↓sops_nil, ↓sops_go, ↓dops_nil, ↓dopsX_nil, ↓dopsR_nil, ↓vdn, vup, extr_20, extr_21, extr_30, extr_31, extr_32, List.map_cons, List.map_nil, cond_true, cond_false, aop, aThen, aBlock, argEnv, ev, sput, sputO, binK, binI, unK, builtinK, pickK, Nat.reduceBEq, Nat.reduceAdd, Int.reduceBEq, Int.reduceBNe, Int.reduceLT, aPost, resK, tup, tyf]
        refine hQ6 _ _ _ (hQ5 _ _ _ ?_)
        simp (maxSteps := 2000000) only [s33, ↓aw_region, ↓aw_skip, ↓aw_seq, ↓aw_block, ↓aw_exit, ↓aw_ret, ↓sops_nil, ↓sops_go, ↓dops_nil, ↓dopsX_nil, ↓dopsR_nil, ↓vdn, vup, extr_20, extr_21, extr_30, extr_31, extr_32, List.map_cons, List.map_nil, cond_true, cond_false, aop, aThen, aBlock, argEnv, ev, sput, sputO, binK, binI, unK, builtinK, pickK, Nat.reduceBEq, Nat.reduceAdd, Int.reduceBEq, Int.reduceBNe, Int.reduceLT, aPost, resK, tup, tyf, if_true, add1 (show x < 9223372036854775807 by omega)]
        refine hQ4 _ _ _ ⟨(x + 1, ov3, hp3), ⟨by simp only; omega, ?_⟩, by simp only; omega, by simp (maxSteps := 2000000) only [↓aw_region, ↓aw_skip, ↓aw_seq, ↓aw_block, ↓aw_exit, ↓aw_ret, ↓sops_nil, ↓sops_go, ↓dops_nil, ↓dopsX_nil, ↓dopsR_nil, ↓vdn, vup, extr_20, extr_21, extr_30, extr_31, extr_32, List.map_cons, List.map_nil, cond_true, cond_false, aop, aThen, aBlock, argEnv, ev, sput, sputO, binK, binI, unK, builtinK, pickK, Nat.reduceBEq, Nat.reduceAdd, Int.reduceBEq, Int.reduceBNe, Int.reduceLT, aPost, resK, tup, tyf], rfl⟩
        simp only
        rw [dX_succ, ← List.append_assoc]; exact s3
    · obtain rfl : x = xs.length := by omega
      simp (maxSteps := 2000000) only [s33, ↓aw_region, ↓aw_skip, ↓aw_seq, ↓aw_block, ↓aw_exit, ↓aw_ret, ↓sops_nil, ↓sops_go, ↓dops_nil, ↓dopsX_nil, ↓dopsR_nil, ↓vdn, vup, extr_20, extr_21, extr_30, extr_31, extr_32, List.map_cons, List.map_nil, cond_true, cond_false, aop, aThen, aBlock, argEnv, ev, sput, sputO, binK, binI, unK, builtinK, pickK, Nat.reduceBEq, Nat.reduceAdd, Int.reduceBEq, Int.reduceBNe, Int.reduceLT, aPost, resK, tup, tyf, l33_1, Int.lt_irrefl]
      refine hQ4 _ _ _ (hQ3 _ _ _ ?_)
      simp (maxSteps := 2000000) only [s33, ↓aw_region, ↓aw_skip, ↓aw_seq, ↓aw_block, ↓aw_exit, ↓aw_ret, ↓sops_nil, ↓sops_go, ↓dops_nil, ↓dopsX_nil, ↓dopsR_nil, ↓vdn, vup, extr_20, extr_21, extr_30, extr_31, extr_32, List.map_cons, List.map_nil, cond_true, cond_false, aop, aThen, aBlock, argEnv, ev, sput, sputO, binK, binI, unK, builtinK, pickK, Nat.reduceBEq, Nat.reduceAdd, Int.reduceBEq, Int.reduceBNe, Int.reduceLT, aPost, resK, tup, tyf, if_true, add1 (show a < 9223372036854775807 by omega)]
      refine hQ2 _ _ _ ⟨(a + 1, ov2, hp2), ⟨by simp only; omega, ?_⟩, by simp only; omega, by simp (maxSteps := 2000000) only [↓aw_region, ↓aw_skip, ↓aw_seq, ↓aw_block, ↓aw_exit, ↓aw_ret, ↓sops_nil, ↓sops_go, ↓dops_nil, ↓dopsX_nil, ↓dopsR_nil, ↓vdn, vup, extr_20, extr_21, extr_30, extr_31, extr_32, List.map_cons, List.map_nil, cond_true, cond_false, aop, aThen, aBlock, argEnv, ev, sput, sputO, binK, binI, unK, builtinK, pickK, Nat.reduceBEq, Nat.reduceAdd, Int.reduceBEq, Int.reduceBNe, Int.reduceLT, aPost, resK, tup, tyf], rfl⟩
      simp only
      rw [dA_succ]; exact s2
  · obtain rfl : a = xs.length := by omega
    simp (maxSteps := 2000000) only [s33, ↓aw_region, ↓aw_skip, ↓aw_seq, ↓aw_block, ↓aw_exit, ↓aw_ret, ↓sops_nil, ↓sops_go, ↓dops_nil, ↓dopsX_nil, ↓dopsR_nil, ↓vdn, vup, extr_20, extr_21, extr_30, extr_31, extr_32, List.map_cons, List.map_nil, cond_true, cond_false, aop, aThen, aBlock, argEnv, ev, sput, sputO, binK, binI, unK, builtinK, pickK, Nat.reduceBEq, Nat.reduceAdd, Int.reduceBEq, Int.reduceBNe, Int.reduceLT, aPost, resK, tup, tyf, l33_2, Int.lt_irrefl]
    refine hQ2 _ _ _ (hQ _ _ _ ?_)
    simp (maxSteps := 2000000) only [s33, ↓aw_region, ↓aw_skip, ↓aw_seq, ↓aw_block, ↓aw_exit, ↓aw_ret, ↓sops_nil, ↓sops_go, ↓dops_nil, ↓dopsX_nil, ↓dopsR_nil, ↓vdn, vup, extr_20, extr_21, extr_30, extr_31, extr_32, List.map_cons, List.map_nil, cond_true, cond_false, aop, aThen, aBlock, argEnv, ev, sput, sputO, binK, binI, unK, builtinK, pickK, Nat.reduceBEq, Nat.reduceAdd, Int.reduceBEq, Int.reduceBNe, Int.reduceLT, aPost, resK, tup, tyf, if_true]
    have s1 := s.1
    rw [dA_all ht] at s1
    exact ⟨s1, s.2.1⟩
end Go.Proofs.Tryd.Am

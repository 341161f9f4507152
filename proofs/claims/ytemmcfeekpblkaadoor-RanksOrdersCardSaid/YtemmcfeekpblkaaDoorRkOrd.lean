/-
  ranks: IsOrder of the laws.
-/
import Derived.Test.YtemmcfeekpblkaaDoorFnB
import Derived.Test.YtemmcfeekpblkaaDoorRkOdd
set_option linter.all false
namespace Go.Proofs.Tryd.Am
open Go.Am Redei
set_option maxRecDepth 100000
set_option maxHeartbeats 1000000

theorem setOf_lt {n : Nat} {l : List Int} : ∀ i, i ≤ l.length → (∀ k, k < i → newAt n l k = true) → setOf (l.take i) < 2 ^ n
  | 0, _, _ => Nat.two_pow_pos n
  | i + 1, hi, h => by
    have e : l.take (i + 1) = l.take i ++ [l.getD i 0] := by
      rw [List.take_succ, List.getD, List.getElem?_eq_getElem (show i < l.length by omega)]; rfl
    have h1 := h i (by omega)
    simp only [newAt, Bool.and_eq_true, decide_eq_true_eq] at h1
    rw [e, setOf_snoc]
    exact or_lt (setOf_lt i (by omega) fun k hk => h k (by omega)) (by omega)
theorem setOf_next {l : List Int} {i j : Nat} (hi : i < l.length) (hj : l.getD i 0 = j) : setOf (l.take (i + 1)) = setOf (l.take i) ||| 2 ^ j := by
  rw [show l.take (i + 1) = l.take i ++ [l.getD i 0] by rw [List.take_succ, List.getD, List.getElem?_eq_getElem hi]; rfl, setOf_snoc, hj, Int.toNat_natCast]

theorem isord_call [Tabs prog] {h : Heap} {tv ov : Value} {xs os : List Int} (ht : IntSl h tv xs) (ho : IntSl h ov os) (hn : xs.length ≤ 8) (hol : os.length < 9223372036854775808) :
    APure prog 22 [tv, ov] h (.bool (isOrd xs.length os)) := by
  have hpow : 2 ^ xs.length ≤ 2 ^ 8 := Nat.pow_le_pow_right (by decide) hn
  refine s22_call (by simp) ?_
  simp (config := {maxSteps := 2000000}) only [s22, ↓aw_region, ↓aw_skip, ↓aw_seq, ↓aw_block, ↓aw_exit, ↓aw_ret, ↓sops_nil, ↓sops_go, ↓dops_nil, ↓dopsX_nil, ↓dopsR_nil, ↓vdn, vup, extr_20, extr_21, extr_30, extr_31, extr_32, List.map_cons, List.map_nil, cond_true, cond_false, aop, aThen, aBlock, argEnv, ev, sput, sputO, binK, binI, unK, builtinK, pickK, Nat.reduceBEq, Nat.reduceAdd, Int.reduceBEq, Int.reduceBNe, Int.reduceLT, aPost, resK, tup, tyf, ho.len, ↓aw_loop_eq]
  refine aws_hide fun Q hQ => ?_
  refine aw_loop (γ := Nat) (fun i => i ≤ os.length ∧ ∀ k, k < i → newAt xs.length os k = true)
    (fun i => ([(0, tv), (1, ov), (4, .bool false), (5, vint (setOf (os.take i) : Nat)), (8, ov), (9, vint os.length), (10, vint i)], h)) (fun i => os.length - i) 0 ⟨by omega, fun _ hk => by omega⟩ (by simp (config := {maxSteps := 2000000}) only [↓aw_region, ↓aw_skip, ↓aw_seq, ↓aw_block, ↓aw_exit, ↓aw_ret, ↓sops_nil, ↓sops_go, ↓dops_nil, ↓dopsX_nil, ↓dopsR_nil, ↓vdn, vup, extr_20, extr_21, extr_30, extr_31, extr_32, List.map_cons, List.map_nil, cond_true, cond_false, aop, aThen, aBlock, argEnv, ev, sput, sputO, binK, binI, unK, builtinK, pickK, Nat.reduceBEq, Nat.reduceAdd, Int.reduceBEq, Int.reduceBNe, Int.reduceLT, aPost, resK, tup, tyf, Int.natCast_zero, List.take_zero, show setOf [] = 0 from rfl]) rfl ?_
  rintro i ⟨hi, hok⟩
  have hset := setOf_lt i hi hok
  refine aw_hide fun Q2 hQ2 => ?_
  by_cases hin : (i : Int) < os.length
  · have hin' : i < os.length := by omega
    have hbad : newAt xs.length os i = false → isOrd xs.length os = false := fun hb => by
      have : (List.range os.length).all (newAt xs.length os) = false := by
        rw [List.all_eq_false]; exact ⟨i, List.mem_range.2 hin', by simp [hb]⟩
      rw [isOrd, this, Bool.false_and]
    by_cases hneg : os.getD i 0 < 0
    · have hb := hbad (by rw [newAt, decide_eq_false (show ¬ 0 ≤ os.getD i 0 by omega)]; rfl)
      simp (config := {maxSteps := 2000000}) only [s22, ↓aw_region, ↓aw_skip, ↓aw_seq, ↓aw_block, ↓aw_exit, ↓aw_ret, ↓sops_nil, ↓sops_go, ↓dops_nil, ↓dopsX_nil, ↓dopsR_nil, ↓vdn, vup, extr_20, extr_21, extr_30, extr_31, extr_32, List.map_cons, List.map_nil, cond_true, cond_false, aop, aThen, aBlock, argEnv, ev, sput, sputO, binK, binI, unK, builtinK, pickK, Nat.reduceBEq, Nat.reduceAdd, Int.reduceBEq, Int.reduceBNe, Int.reduceLT, aPost, resK, tup, tyf, l22_0, hin, ho.idx el_22 esz_3 hin', ho.load shp_3 hin', hneg]
      refine hQ2 _ _ _ (hQ _ _ _ ?_)
      simp (config := {maxSteps := 2000000}) only [↓aw_region, ↓aw_skip, ↓aw_seq, ↓aw_block, ↓aw_exit, ↓aw_ret, ↓sops_nil, ↓sops_go, ↓dops_nil, ↓dopsX_nil, ↓dopsR_nil, ↓vdn, vup, extr_20, extr_21, extr_30, extr_31, extr_32, List.map_cons, List.map_nil, cond_true, cond_false, aop, aThen, aBlock, argEnv, ev, sput, sputO, binK, binI, unK, builtinK, pickK, Nat.reduceBEq, Nat.reduceAdd, Int.reduceBEq, Int.reduceBNe, Int.reduceLT, aPost, resK, tup, tyf, hb]
    obtain ⟨j, hj⟩ := Int.eq_ofNat_of_zero_le (show 0 ≤ os.getD i 0 by omega)
    have hjneg : ¬ ((j : Int) < 0) := by omega
    by_cases hbig : (xs.length : Int) ≤ j
    · have hb := hbad (by rw [newAt, hj, decide_eq_false (show ¬ ((j : Int) < xs.length) by omega), Bool.and_false]; rfl)
      simp (config := {maxSteps := 2000000}) only [s22, ↓aw_region, ↓aw_skip, ↓aw_seq, ↓aw_block, ↓aw_exit, ↓aw_ret, ↓sops_nil, ↓sops_go, ↓dops_nil, ↓dopsX_nil, ↓dopsR_nil, ↓vdn, vup, extr_20, extr_21, extr_30, extr_31, extr_32, List.map_cons, List.map_nil, cond_true, cond_false, aop, aThen, aBlock, argEnv, ev, sput, sputO, binK, binI, unK, builtinK, pickK, Nat.reduceBEq, Nat.reduceAdd, Int.reduceBEq, Int.reduceBNe, Int.reduceLT, aPost, resK, tup, tyf, l22_0, hin, ho.idx el_22 esz_3 hin', ho.load shp_3 hin', hj, hjneg, ht.len, hbig, ge_iff_le]
      refine hQ2 _ _ _ (hQ _ _ _ ?_)
      simp (config := {maxSteps := 2000000}) only [↓aw_region, ↓aw_skip, ↓aw_seq, ↓aw_block, ↓aw_exit, ↓aw_ret, ↓sops_nil, ↓sops_go, ↓dops_nil, ↓dopsX_nil, ↓dopsR_nil, ↓vdn, vup, extr_20, extr_21, extr_30, extr_31, extr_32, List.map_cons, List.map_nil, cond_true, cond_false, aop, aThen, aBlock, argEnv, ev, sput, sputO, binK, binI, unK, builtinK, pickK, Nat.reduceBEq, Nat.reduceAdd, Int.reduceBEq, Int.reduceBNe, Int.reduceLT, aPost, resK, tup, tyf, hb]
    have htv := testV (a := setOf (os.take i)) (y := j) (by omega)
    cases hbit : (setOf (os.take i)).testBit j with
    | true =>
      have hb := hbad (by rw [newAt, hj, Int.toNat_natCast, hbit, Bool.not_true, Bool.and_false])
      simp (config := {maxSteps := 2000000}) only [s22, ↓aw_region, ↓aw_skip, ↓aw_seq, ↓aw_block, ↓aw_exit, ↓aw_ret, ↓sops_nil, ↓sops_go, ↓dops_nil, ↓dopsX_nil, ↓dopsR_nil, ↓vdn, vup, extr_20, extr_21, extr_30, extr_31, extr_32, List.map_cons, List.map_nil, cond_true, cond_false, aop, aThen, aBlock, argEnv, ev, sput, sputO, binK, binI, unK, builtinK, pickK, Nat.reduceBEq, Nat.reduceAdd, Int.reduceBEq, Int.reduceBNe, Int.reduceLT, aPost, resK, tup, tyf, l22_0, hin, ho.idx el_22 esz_3 hin', ho.load shp_3 hin', hj, hjneg, ht.len, hbig, ge_iff_le, htv, hbit, if_true]
      refine hQ2 _ _ _ (hQ _ _ _ ?_)
      simp (config := {maxSteps := 2000000}) only [↓aw_region, ↓aw_skip, ↓aw_seq, ↓aw_block, ↓aw_exit, ↓aw_ret, ↓sops_nil, ↓sops_go, ↓dops_nil, ↓dopsX_nil, ↓dopsR_nil, ↓vdn, vup, extr_20, extr_21, extr_30, extr_31, extr_32, List.map_cons, List.map_nil, cond_true, cond_false, aop, aThen, aBlock, argEnv, ev, sput, sputO, binK, binI, unK, builtinK, pickK, Nat.reduceBEq, Nat.reduceAdd, Int.reduceBEq, Int.reduceBNe, Int.reduceLT, aPost, resK, tup, tyf, hb]
    | false =>
      have hnew : newAt xs.length os i = true := by rw [newAt, hj, Int.toNat_natCast, hbit, decide_eq_true (show (0 : Int) ≤ j by omega), decide_eq_true (show (j : Int) < xs.length by omega)]; rfl
      have hshl : shlV .i64 1 j = 2 ^ j := shl1 (by omega)
      have hor : bitsV .or .i64 ((setOf (os.take i) : Nat) : Int) (2 ^ j) = ((setOf (os.take (i + 1)) : Nat) : Int) := by
        have := bitsV_or (a := setOf (os.take i)) (b := 2 ^ j) (by omega) (Nat.lt_of_lt_of_le (Nat.pow_lt_pow_right (by decide) (show j < 62 by omega)) (by decide))
        rw [setOf_next hin' hj]
        simpa using this
      simp (config := {maxSteps := 2000000}) only [s22, ↓aw_region, ↓aw_skip, ↓aw_seq, ↓aw_block, ↓aw_exit, ↓aw_ret, ↓sops_nil, ↓sops_go, ↓dops_nil, ↓dopsX_nil, ↓dopsR_nil, ↓vdn, vup, extr_20, extr_21, extr_30, extr_31, extr_32, List.map_cons, List.map_nil, cond_true, cond_false, aop, aThen, aBlock, argEnv, ev, sput, sputO, binK, binI, unK, builtinK, pickK, Nat.reduceBEq, Nat.reduceAdd, Int.reduceBEq, Int.reduceBNe, Int.reduceLT, aPost, resK, tup, tyf, l22_0, hin, ho.idx el_22 esz_3 hin', ho.load shp_3 hin', hj, hjneg, ht.len, hbig, ge_iff_le, htv, hbit, if_false, Bool.false_eq_true, hshl, hor, add1 (show i < 9223372036854775807 by omega)]
      refine hQ2 _ _ _ ⟨i + 1, ⟨by omega, fun k hk => ?_⟩, by omega, by simp (config := {maxSteps := 2000000}) only [↓aw_region, ↓aw_skip, ↓aw_seq, ↓aw_block, ↓aw_exit, ↓aw_ret, ↓sops_nil, ↓sops_go, ↓dops_nil, ↓dopsX_nil, ↓dopsR_nil, ↓vdn, vup, extr_20, extr_21, extr_30, extr_31, extr_32, List.map_cons, List.map_nil, cond_true, cond_false, aop, aThen, aBlock, argEnv, ev, sput, sputO, binK, binI, unK, builtinK, pickK, Nat.reduceBEq, Nat.reduceAdd, Int.reduceBEq, Int.reduceBNe, Int.reduceLT, aPost, resK, tup, tyf], rfl⟩
      by_cases hki : k = i
      · rw [hki]; exact hnew
      · exact hok k (by omega)
  · obtain rfl : i = os.length := by omega
    have hall : (List.range os.length).all (newAt xs.length os) = true := by rw [List.all_eq_true]; exact fun k hk => hok k (List.mem_range.1 hk)
    have he : ((os.length : Int) == xs.length) = isOrd xs.length os := by
      rw [isOrd, hall, Bool.true_and]
      by_cases h : os.length = xs.length
      · rw [decide_eq_true h, h]; exact beq_self_eq_true _
      · rw [decide_eq_false h]
        have : (os.length : Int) ≠ xs.length := by omega
        simpa using this
    simp (config := {maxSteps := 2000000}) only [s22, ↓aw_region, ↓aw_skip, ↓aw_seq, ↓aw_block, ↓aw_exit, ↓aw_ret, ↓sops_nil, ↓sops_go, ↓dops_nil, ↓dopsX_nil, ↓dopsR_nil, ↓vdn, vup, extr_20, extr_21, extr_30, extr_31, extr_32, List.map_cons, List.map_nil, cond_true, cond_false, aop, aThen, aBlock, argEnv, ev, sput, sputO, binK, binI, unK, builtinK, pickK, Nat.reduceBEq, Nat.reduceAdd, Int.reduceBEq, Int.reduceBNe, Int.reduceLT, aPost, resK, tup, tyf, l22_0, Int.lt_irrefl]
    refine hQ2 _ _ _ (hQ _ _ _ ?_)
    simp (config := {maxSteps := 2000000}) only [s22, ↓aw_region, ↓aw_skip, ↓aw_seq, ↓aw_block, ↓aw_exit, ↓aw_ret, ↓sops_nil, ↓sops_go, ↓dops_nil, ↓dopsX_nil, ↓dopsR_nil, ↓vdn, vup, extr_20, extr_21, extr_30, extr_31, extr_32, List.map_cons, List.map_nil, cond_true, cond_false, aop, aThen, aBlock, argEnv, ev, sput, sputO, binK, binI, unK, builtinK, pickK, Nat.reduceBEq, Nat.reduceAdd, Int.reduceBEq, Int.reduceBNe, Int.reduceLT, aPost, resK, tup, tyf, ho.len, ht.len, he, if_true]

end Go.Proofs.Tryd.Am

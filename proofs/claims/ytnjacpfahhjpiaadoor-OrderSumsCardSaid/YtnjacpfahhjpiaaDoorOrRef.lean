/-
  order: the reference's count of lines, and its Add.
-/
import Derived.Test.YtnjacpfahhjpiaaDoorOrAdd2
import Derived.Test.YtnjacpfahhjpiaaDoorFnB
import Derived.Test.YtnjacpfahhjpiaaDoorChance
import Derived.Test.YtnjacpfahhjpiaaDoorAmT
set_option linter.all false
namespace Go.Proofs.Tryd.Am
open Go.Am Ord
set_option maxRecDepth 100000
set_option maxHeartbeats 1000000

/-- What is not there yet. -/
def rest (n there : Nat) : List Nat := (List.range n).filter fun i => !there.testBit i
theorem rest_zero (n : Nat) : rest n 0 = List.range n := by
  rw [rest, List.filter_eq_self]; intro a _; simp
theorem mem_rest {n there i : Nat} : i ∈ rest n there ↔ i < n ∧ there.testBit i = false := by simp [rest]
theorem rest_nodup (n there : Nat) : (rest n there).Nodup := List.nodup_range.filter _
theorem rest_erase {n there i : Nat} : (rest n there).erase i = rest n (there ||| 2 ^ i) := by
  rw [List.Nodup.erase_eq_filter (rest_nodup n there), rest, rest, List.filter_filter]
  refine List.filter_congr fun j _ => ?_
  rw [Nat.testBit_or, Nat.testBit_two_pow]
  by_cases h : j = i
  · subst h; simp
  · simp [h, Ne.symm h]
theorem rest_nil {n there : Nat} (ht : there < 2 ^ n) : rest n there = [] ↔ there = 2 ^ n - 1 := by
  constructor
  · intro h
    apply Nat.eq_of_testBit_eq
    intro i
    rw [Nat.testBit_two_pow_sub_one]
    by_cases hi : i < n
    · rw [decide_eq_true hi]
      cases hb : there.testBit i with
      | true => rfl
      | false =>
        have : i ∈ rest n there := mem_rest.2 ⟨hi, hb⟩
        rw [h] at this; cases this
    · rw [decide_eq_false hi]
      exact Nat.testBit_lt_two_pow (Nat.lt_of_lt_of_le ht (Nat.pow_le_pow_right (by decide) (by omega)))
  · rintro rfl
    rw [List.eq_nil_iff_forall_not_mem]
    intro i hi
    obtain ⟨h1, h2⟩ := mem_rest.1 hi
    rw [Nat.testBit_two_pow_sub_one, decide_eq_true h1] at h2; cases h2
theorem cnt_le (r : Nat → Nat → Bool) : ∀ (k : Nat) (S : List Nat), S.length ≤ 6 → cnt r k S ≤ 6 ^ k
  | 0, _, _ => Nat.le_refl _
  | k + 1, S, hS => by
    rw [cnt]
    have key : ∀ l : List Nat, (l.map fun i => cnt r k (S.erase i)).sum ≤ l.length * 6 ^ k := by
      intro l
      induction l with
      | nil => simp
      | cons a l ih =>
        rw [List.map_cons, List.sum_cons, List.length_cons, Nat.succ_mul]
        have := cnt_le r k (S.erase a) (Nat.le_trans (List.length_erase_le ..) hS)
        omega
    have h1 := key (firsts r S)
    have h2 : (firsts r S).length ≤ 6 := Nat.le_trans (List.length_filter_le _ _) hS
    have h3 := Nat.mul_le_mul_right (6 ^ k) h2
    rw [Nat.pow_succ]; omega

/-- Whether i can come next: asked of the first j elements. -/
def okTo (o : List Int) (there i j : Nat) : Bool := !there.testBit i && (List.range j).all fun j => there.testBit j || !ab o j i
theorem okTo_succ (o : List Int) (there i j : Nat) : okTo o there i (j + 1) = (okTo o there i j && (there.testBit j || !ab o j i)) := by
  rw [okTo, okTo, List.range_succ, List.all_append]; simp [Bool.and_assoc]
/-- The sum over the first elements. -/
def cTo (o : List Int) (k there : Nat) : Nat → Nat
  | 0 => 0
  | i + 1 => cTo o k there i + if okTo o there i o.length = true then cnt (ab o) k (rest o.length (there ||| 2 ^ i)) else 0
theorem cTo_mono (o : List Int) (k there : Nat) : ∀ {a b : Nat}, a ≤ b → cTo o k there a ≤ cTo o k there b
  | a, 0, h => by obtain rfl : a = 0 := by omega
                  exact Nat.le_refl _
  | a, b + 1, h => by
    rcases Nat.lt_or_ge a (b + 1) with h' | h'
    · exact Nat.le_trans (cTo_mono o k there (show a ≤ b by omega)) (Nat.le_add_right _ _)
    · obtain rfl : a = b + 1 := by omega
      exact Nat.le_refl _
theorem cTo_all (o : List Int) (k there : Nat) : cTo o k there o.length = cnt (ab o) (k + 1) (rest o.length there) := by
  have e : ∀ n, cTo o k there n = (((List.range n).filter fun i => okTo o there i o.length).map fun i => cnt (ab o) k (rest o.length (there ||| 2 ^ i))).sum := by
    intro n
    induction n with
    | zero => rfl
    | succ n ih =>
      rw [cTo, ih, List.range_succ, List.filter_append, List.map_append, List.sum_append, List.filter_cons]
      split <;> simp
  rw [e, cnt]
  have hf : ((List.range o.length).filter fun i => okTo o there i o.length) = firsts (ab o) (rest o.length there) := by
    rw [firsts, rest, List.filter_filter]
    refine List.filter_congr fun i hi => ?_
    rw [okTo, Bool.eq_iff_iff]
    simp only [Bool.and_eq_true, List.all_eq_true, List.mem_range, List.mem_filter, Bool.or_eq_true, Bool.not_eq_true']
    constructor
    · rintro ⟨h1, h2⟩
      exact ⟨fun j ⟨hj1, hj2⟩ => (h2 j hj1).resolve_left (by rw [hj2]; decide), h1⟩
    · rintro ⟨h1, h2⟩
      refine ⟨h2, fun j hj => ?_⟩
      cases hb : there.testBit j with
      | true => exact .inl rfl
      | false => exact .inr (h1 j ⟨hj, hb⟩)
  rw [hf]
  congr 1
  exact List.map_congr_left fun i _ => by rw [rest_erase]

theorem rcounted_call [Tabs prog] {h : Heap} {v : Value} {o : List Int} (hv : IntSl h v o) (ho : ord o = true) : ∀ (k there : Nat), there < 2 ^ o.length → (rest o.length there).length = k → APure prog 77 [v, vint there] h (vint (cnt (ab o) k (rest o.length there) : Nat)) := by
  have hlen := ord_len ho
  have hpw := pow6 hlen.2
  have hsub : subV .i64 (2 ^ o.length) 1 = ((2 ^ o.length - 1 : Nat) : Int) := by rw [← pow_cast, subV_id (by omega) (by omega)]; omega
  intro k
  induction k with
  | zero =>
    intro there ht hk
    have hn := (rest_nil ht).1 (List.length_eq_zero_iff.1 hk)
    have hq : (((there : Nat) : Int) == ((2 ^ o.length - 1 : Nat) : Int)) = true := by rw [hn]; exact beq_self_eq_true _
    refine s77_call (by simp) ?_
    simp (config := {maxSteps := 2000000}) only [s77, ↓aw_region, ↓aw_skip, ↓aw_seq, ↓aw_block, ↓aw_exit, ↓aw_ret, ↓sops_nil, ↓sops_go, ↓dops_nil, ↓dopsX_nil, ↓dopsR_nil, ↓vdn, vup, extr_20, extr_21, extr_30, extr_31, extr_32, List.map_cons, List.map_nil, cond_true, cond_false, aop, aThen, aBlock, argEnv, ev, sput, sputO, binK, binI, unK, builtinK, pickK, Nat.reduceBEq, Nat.reduceAdd, Int.reduceBEq, Int.reduceBNe, Int.reduceLT, aPost, resK, tup, tyf, hv.len, shl1 (show o.length ≤ 62 by omega), hsub, hq]
    rfl
  | succ k ih =>
    intro there ht hk
    have hne : there ≠ 2 ^ o.length - 1 := fun h => by
      rw [(rest_nil ht).2 h] at hk; cases hk
    have hq : (((there : Nat) : Int) == ((2 ^ o.length - 1 : Nat) : Int)) = false := by
      have : ((there : Nat) : Int) ≠ ((2 ^ o.length - 1 : Nat) : Int) := by omega
      simpa using this
    have hle : cnt (ab o) (k + 1) (rest o.length there) ≤ 46656 := by
      have hr : (rest o.length there).length ≤ 6 := by
        have := List.length_filter_le (fun i => !there.testBit i) (List.range o.length)
        rw [List.length_range] at this
        exact Nat.le_trans this hlen.2
      exact Nat.le_trans (cnt_le _ _ _ hr) (show 6 ^ (k + 1) ≤ 6 ^ 6 from Nat.pow_le_pow_right (by decide) (by omega))
    refine s77_call (by simp) ?_
    simp (config := {maxSteps := 2000000}) only [s77, ↓aw_region, ↓aw_skip, ↓aw_seq, ↓aw_block, ↓aw_exit, ↓aw_ret, ↓sops_nil, ↓sops_go, ↓dops_nil, ↓dopsX_nil, ↓dopsR_nil, ↓vdn, vup, extr_20, extr_21, extr_30, extr_31, extr_32, List.map_cons, List.map_nil, cond_true, cond_false, aop, aThen, aBlock, argEnv, ev, sput, sputO, binK, binI, unK, builtinK, pickK, Nat.reduceBEq, Nat.reduceAdd, Int.reduceBEq, Int.reduceBNe, Int.reduceLT, aPost, resK, tup, tyf, hv.len, shl1 (show o.length ≤ 62 by omega), hsub, hq, ↓aw_loop_eq]
    refine aws_hide fun Q hQ => ?_
    refine aw_loop (γ := Nat) (fun i => i ≤ o.length)
      (fun i => ([(0, v), (1, vint there), (4, .int .i64 0), (5, vint (cTo o k there i : Nat)), (16, vint o.length), (17, vint i)], h)) (fun i => o.length - i) 0 (Nat.zero_le _) (by simp (config := {maxSteps := 2000000}) only [↓aw_region, ↓aw_skip, ↓aw_seq, ↓aw_block, ↓aw_exit, ↓aw_ret, ↓sops_nil, ↓sops_go, ↓dops_nil, ↓dopsX_nil, ↓dopsR_nil, ↓vdn, vup, extr_20, extr_21, extr_30, extr_31, extr_32, List.map_cons, List.map_nil, cond_true, cond_false, aop, aThen, aBlock, argEnv, ev, sput, sputO, binK, binI, unK, builtinK, pickK, Nat.reduceBEq, Nat.reduceAdd, Int.reduceBEq, Int.reduceBNe, Int.reduceLT, aPost, resK, tup, tyf, Int.natCast_zero, cTo]) rfl ?_
    intro i hi
    refine aw_hide fun Q2 hQ2 => ?_
    by_cases hin : (i : Int) < o.length
    · have hin' : i < o.length := by omega
      have hto : bitsV .and .i64 (shrV .i64 ((there : Nat) : Int) i) 1 = if there.testBit i then 1 else 0 := testV (by omega)
      simp only [l77_1]
      simp (config := {maxSteps := 2000000}) only [s77, ↓aw_region, ↓aw_skip, ↓aw_seq, ↓aw_block, ↓aw_exit, ↓aw_ret, ↓sops_nil, ↓sops_go, ↓dops_nil, ↓dopsX_nil, ↓dopsR_nil, ↓vdn, vup, extr_20, extr_21, extr_30, extr_31, extr_32, List.map_cons, List.map_nil, cond_true, cond_false, aop, aThen, aBlock, argEnv, ev, sput, sputO, binK, binI, unK, builtinK, pickK, Nat.reduceBEq, Nat.reduceAdd, Int.reduceBEq, Int.reduceBNe, Int.reduceLT, aPost, resK, tup, tyf, hin, hto, beq0, hv.len, ↓aw_loop_eq]
      refine aws_hide fun Q3 hQ3 => ?_
      refine aw_loop (γ := Nat) (fun j => j ≤ o.length)
        (fun j => ([(0, v), (1, vint there), (4, .int .i64 0), (5, vint (cTo o k there i : Nat)), (6, vint i), (7, .bool (okTo o there i j)), (16, vint o.length), (17, vint i), (26, vint o.length), (27, vint j)], h)) (fun j => o.length - j) 0 (Nat.zero_le _) (by simp (config := {maxSteps := 2000000}) only [↓aw_region, ↓aw_skip, ↓aw_seq, ↓aw_block, ↓aw_exit, ↓aw_ret, ↓sops_nil, ↓sops_go, ↓dops_nil, ↓dopsX_nil, ↓dopsR_nil, ↓vdn, vup, extr_20, extr_21, extr_30, extr_31, extr_32, List.map_cons, List.map_nil, cond_true, cond_false, aop, aThen, aBlock, argEnv, ev, sput, sputO, binK, binI, unK, builtinK, pickK, Nat.reduceBEq, Nat.reduceAdd, Int.reduceBEq, Int.reduceBNe, Int.reduceLT, aPost, resK, tup, tyf, Int.natCast_zero, show okTo o there i 0 = !there.testBit i by simp [okTo]]) rfl ?_
      intro j hj
      refine aw_hide fun Q4 hQ4 => ?_
      by_cases hjn : (j : Int) < o.length
      · have hjn' : j < o.length := by omega
        have hnext := okTo_succ o there i j
        have htj : bitsV .and .i64 (shrV .i64 ((there : Nat) : Int) j) 1 = if there.testBit j then 1 else 0 := testV (by omega)
        cases hok : okTo o there i j with
        | false =>
          rw [hok, Bool.false_and] at hnext
          simp (config := {maxSteps := 2000000}) only [s77, ↓aw_region, ↓aw_skip, ↓aw_seq, ↓aw_block, ↓aw_exit, ↓aw_ret, ↓sops_nil, ↓sops_go, ↓dops_nil, ↓dopsX_nil, ↓dopsR_nil, ↓vdn, vup, extr_20, extr_21, extr_30, extr_31, extr_32, List.map_cons, List.map_nil, cond_true, cond_false, aop, aThen, aBlock, argEnv, ev, sput, sputO, binK, binI, unK, builtinK, pickK, Nat.reduceBEq, Nat.reduceAdd, Int.reduceBEq, Int.reduceBNe, Int.reduceLT, aPost, resK, tup, tyf, l77_0, hjn, hok, add1 (show j < 9223372036854775807 by omega)]
          exact hQ4 _ _ _ ⟨j + 1, by omega, by omega, by simp (config := {maxSteps := 2000000}) only [↓aw_region, ↓aw_skip, ↓aw_seq, ↓aw_block, ↓aw_exit, ↓aw_ret, ↓sops_nil, ↓sops_go, ↓dops_nil, ↓dopsX_nil, ↓dopsR_nil, ↓vdn, vup, extr_20, extr_21, extr_30, extr_31, extr_32, List.map_cons, List.map_nil, cond_true, cond_false, aop, aThen, aBlock, argEnv, ev, sput, sputO, binK, binI, unK, builtinK, pickK, Nat.reduceBEq, Nat.reduceAdd, Int.reduceBEq, Int.reduceBNe, Int.reduceLT, aPost, resK, tup, tyf, hnext], rfl⟩
        | true =>
          rw [hok, Bool.true_and] at hnext
          cases hbj : there.testBit j with
          | true =>
            rw [hbj, Bool.true_or] at hnext
            simp (config := {maxSteps := 2000000}) only [s77, ↓aw_region, ↓aw_skip, ↓aw_seq, ↓aw_block, ↓aw_exit, ↓aw_ret, ↓sops_nil, ↓sops_go, ↓dops_nil, ↓dopsX_nil, ↓dopsR_nil, ↓vdn, vup, extr_20, extr_21, extr_30, extr_31, extr_32, List.map_cons, List.map_nil, cond_true, cond_false, aop, aThen, aBlock, argEnv, ev, sput, sputO, binK, binI, unK, builtinK, pickK, Nat.reduceBEq, Nat.reduceAdd, Int.reduceBEq, Int.reduceBNe, Int.reduceLT, aPost, resK, tup, tyf, l77_0, hjn, hok, htj, hbj, if_true, beq1, Int.reduceBEq, add1 (show j < 9223372036854775807 by omega)]
            exact hQ4 _ _ _ ⟨j + 1, by omega, by omega, by simp (config := {maxSteps := 2000000}) only [↓aw_region, ↓aw_skip, ↓aw_seq, ↓aw_block, ↓aw_exit, ↓aw_ret, ↓sops_nil, ↓sops_go, ↓dops_nil, ↓dopsX_nil, ↓dopsR_nil, ↓vdn, vup, extr_20, extr_21, extr_30, extr_31, extr_32, List.map_cons, List.map_nil, cond_true, cond_false, aop, aThen, aBlock, argEnv, ev, sput, sputO, binK, binI, unK, builtinK, pickK, Nat.reduceBEq, Nat.reduceAdd, Int.reduceBEq, Int.reduceBNe, Int.reduceLT, aPost, resK, tup, tyf, hnext], rfl⟩
          | false =>
            rw [hbj, Bool.false_or] at hnext
            simp (config := {maxSteps := 2000000}) only [s77, ↓aw_region, ↓aw_skip, ↓aw_seq, ↓aw_block, ↓aw_exit, ↓aw_ret, ↓sops_nil, ↓sops_go, ↓dops_nil, ↓dopsX_nil, ↓dopsR_nil, ↓vdn, vup, extr_20, extr_21, extr_30, extr_31, extr_32, List.map_cons, List.map_nil, cond_true, cond_false, aop, aThen, aBlock, argEnv, ev, sput, sputO, binK, binI, unK, builtinK, pickK, Nat.reduceBEq, Nat.reduceAdd, Int.reduceBEq, Int.reduceBNe, Int.reduceLT, aPost, resK, tup, tyf, l77_0, hjn, hok, htj, hbj, if_false, Bool.false_eq_true, Int.reduceBEq, callK, List.nil_append, List.append_nil, List.toList_toArray, List.cons_append]
            refine (above_call hv ho hjn').mono ?_
            rintro _ _ ⟨rfl, rfl⟩
            simp (config := {maxSteps := 2000000}) only [s77, ↓aw_region, ↓aw_skip, ↓aw_seq, ↓aw_block, ↓aw_exit, ↓aw_ret, ↓sops_nil, ↓sops_go, ↓dops_nil, ↓dopsX_nil, ↓dopsR_nil, ↓vdn, vup, extr_20, extr_21, extr_30, extr_31, extr_32, List.map_cons, List.map_nil, cond_true, cond_false, aop, aThen, aBlock, argEnv, ev, sput, sputO, binK, binI, unK, builtinK, pickK, Nat.reduceBEq, Nat.reduceAdd, Int.reduceBEq, Int.reduceBNe, Int.reduceLT, aPost, resK, tup, tyf, add1 (show j < 9223372036854775807 by omega)]
            exact hQ4 _ _ _ ⟨j + 1, by omega, by omega, by simp (config := {maxSteps := 2000000}) only [↓aw_region, ↓aw_skip, ↓aw_seq, ↓aw_block, ↓aw_exit, ↓aw_ret, ↓sops_nil, ↓sops_go, ↓dops_nil, ↓dopsX_nil, ↓dopsR_nil, ↓vdn, vup, extr_20, extr_21, extr_30, extr_31, extr_32, List.map_cons, List.map_nil, cond_true, cond_false, aop, aThen, aBlock, argEnv, ev, sput, sputO, binK, binI, unK, builtinK, pickK, Nat.reduceBEq, Nat.reduceAdd, Int.reduceBEq, Int.reduceBNe, Int.reduceLT, aPost, resK, tup, tyf, hnext], rfl⟩
      obtain rfl : j = o.length := by omega
      simp (config := {maxSteps := 2000000}) only [s77, ↓aw_region, ↓aw_skip, ↓aw_seq, ↓aw_block, ↓aw_exit, ↓aw_ret, ↓sops_nil, ↓sops_go, ↓dops_nil, ↓dopsX_nil, ↓dopsR_nil, ↓vdn, vup, extr_20, extr_21, extr_30, extr_31, extr_32, List.map_cons, List.map_nil, cond_true, cond_false, aop, aThen, aBlock, argEnv, ev, sput, sputO, binK, binI, unK, builtinK, pickK, Nat.reduceBEq, Nat.reduceAdd, Int.reduceBEq, Int.reduceBNe, Int.reduceLT, aPost, resK, tup, tyf, l77_0, Int.lt_irrefl]
      refine hQ4 _ _ _ (hQ3 _ _ _ ?_)
      clear hQ4 hQ3 Q4 Q3 hj hjn
      cases hok : okTo o there i o.length with
      | false =>
        have hs : cTo o k there (i + 1) = cTo o k there i := by rw [cTo, hok]; rfl
        simp (config := {maxSteps := 2000000}) only [s77, ↓aw_region, ↓aw_skip, ↓aw_seq, ↓aw_block, ↓aw_exit, ↓aw_ret, ↓sops_nil, ↓sops_go, ↓dops_nil, ↓dopsX_nil, ↓dopsR_nil, ↓vdn, vup, extr_20, extr_21, extr_30, extr_31, extr_32, List.map_cons, List.map_nil, cond_true, cond_false, aop, aThen, aBlock, argEnv, ev, sput, sputO, binK, binI, unK, builtinK, pickK, Nat.reduceBEq, Nat.reduceAdd, Int.reduceBEq, Int.reduceBNe, Int.reduceLT, aPost, resK, tup, tyf, hok, add1 (show i < 9223372036854775807 by omega)]
        exact hQ2 _ _ _ ⟨i + 1, by omega, by omega, by simp (config := {maxSteps := 2000000}) only [↓aw_region, ↓aw_skip, ↓aw_seq, ↓aw_block, ↓aw_exit, ↓aw_ret, ↓sops_nil, ↓sops_go, ↓dops_nil, ↓dopsX_nil, ↓dopsR_nil, ↓vdn, vup, extr_20, extr_21, extr_30, extr_31, extr_32, List.map_cons, List.map_nil, cond_true, cond_false, aop, aThen, aBlock, argEnv, ev, sput, sputO, binK, binI, unK, builtinK, pickK, Nat.reduceBEq, Nat.reduceAdd, Int.reduceBEq, Int.reduceBNe, Int.reduceLT, aPost, resK, tup, tyf, hs], rfl⟩
      | true =>
        have hs : cTo o k there (i + 1) = cTo o k there i + cnt (ab o) k (rest o.length (there ||| 2 ^ i)) := by rw [cTo, hok]; rfl
        have hm : cTo o k there (i + 1) ≤ cnt (ab o) (k + 1) (rest o.length there) := by rw [← cTo_all]; exact cTo_mono o k there (by omega)
        have h2i : 2 ^ i < 2 ^ o.length := Nat.pow_lt_pow_right (by decide) hin'
        have hor : bitsV .or .i64 ((there : Nat) : Int) (2 ^ i) = ((there ||| 2 ^ i : Nat) : Int) := by
          rw [← pow_cast]; exact bitsV_or (by omega) (by omega)
        have hnot : there.testBit i = false := by
          cases hb : there.testBit i with
          | false => rfl
          | true => rw [okTo, hb] at hok; cases hok
        have hl2 : (rest o.length (there ||| 2 ^ i)).length = k := by
          rw [← rest_erase, List.length_erase_of_mem (mem_rest.2 ⟨hin', hnot⟩), hk]; rfl
        have ha : addV .i64 ((cTo o k there i : Nat) : Int) ((cnt (ab o) k (rest o.length (there ||| 2 ^ i)) : Nat) : Int) = ((cTo o k there (i + 1) : Nat) : Int) := by
          rw [addV_id (by omega) (by omega), hs]; omega
        simp (config := {maxSteps := 2000000}) only [s77, ↓aw_region, ↓aw_skip, ↓aw_seq, ↓aw_block, ↓aw_exit, ↓aw_ret, ↓sops_nil, ↓sops_go, ↓dops_nil, ↓dopsX_nil, ↓dopsR_nil, ↓vdn, vup, extr_20, extr_21, extr_30, extr_31, extr_32, List.map_cons, List.map_nil, cond_true, cond_false, aop, aThen, aBlock, argEnv, ev, sput, sputO, binK, binI, unK, builtinK, pickK, Nat.reduceBEq, Nat.reduceAdd, Int.reduceBEq, Int.reduceBNe, Int.reduceLT, aPost, resK, tup, tyf, hok, shl1 (show i ≤ 62 by omega), hor, callK, List.nil_append, List.append_nil, List.toList_toArray, List.cons_append]
        refine (ih (there ||| 2 ^ i) (Nat.or_lt_two_pow ht h2i) hl2).mono ?_
        rintro _ _ ⟨rfl, rfl⟩
        simp (config := {maxSteps := 2000000}) only [s77, ↓aw_region, ↓aw_skip, ↓aw_seq, ↓aw_block, ↓aw_exit, ↓aw_ret, ↓sops_nil, ↓sops_go, ↓dops_nil, ↓dopsX_nil, ↓dopsR_nil, ↓vdn, vup, extr_20, extr_21, extr_30, extr_31, extr_32, List.map_cons, List.map_nil, cond_true, cond_false, aop, aThen, aBlock, argEnv, ev, sput, sputO, binK, binI, unK, builtinK, pickK, Nat.reduceBEq, Nat.reduceAdd, Int.reduceBEq, Int.reduceBNe, Int.reduceLT, aPost, resK, tup, tyf, ha, add1 (show i < 9223372036854775807 by omega)]
        exact hQ2 _ _ _ ⟨i + 1, by omega, by omega, by simp (config := {maxSteps := 2000000}) only [↓aw_region, ↓aw_skip, ↓aw_seq, ↓aw_block, ↓aw_exit, ↓aw_ret, ↓sops_nil, ↓sops_go, ↓dops_nil, ↓dopsX_nil, ↓dopsR_nil, ↓vdn, vup, extr_20, extr_21, extr_30, extr_31, extr_32, List.map_cons, List.map_nil, cond_true, cond_false, aop, aThen, aBlock, argEnv, ev, sput, sputO, binK, binI, unK, builtinK, pickK, Nat.reduceBEq, Nat.reduceAdd, Int.reduceBEq, Int.reduceBNe, Int.reduceLT, aPost, resK, tup, tyf], rfl⟩
    obtain rfl : i = o.length := by omega
    simp (config := {maxSteps := 2000000}) only [s77, ↓aw_region, ↓aw_skip, ↓aw_seq, ↓aw_block, ↓aw_exit, ↓aw_ret, ↓sops_nil, ↓sops_go, ↓dops_nil, ↓dopsX_nil, ↓dopsR_nil, ↓vdn, vup, extr_20, extr_21, extr_30, extr_31, extr_32, List.map_cons, List.map_nil, cond_true, cond_false, aop, aThen, aBlock, argEnv, ev, sput, sputO, binK, binI, unK, builtinK, pickK, Nat.reduceBEq, Nat.reduceAdd, Int.reduceBEq, Int.reduceBNe, Int.reduceLT, aPost, resK, tup, tyf, l77_1, Int.lt_irrefl]
    refine hQ2 _ _ _ (hQ _ _ _ ?_)
    simp (config := {maxSteps := 2000000}) only [s77, ↓aw_region, ↓aw_skip, ↓aw_seq, ↓aw_block, ↓aw_exit, ↓aw_ret, ↓sops_nil, ↓sops_go, ↓dops_nil, ↓dopsX_nil, ↓dopsR_nil, ↓vdn, vup, extr_20, extr_21, extr_30, extr_31, extr_32, List.map_cons, List.map_nil, cond_true, cond_false, aop, aThen, aBlock, argEnv, ev, sput, sputO, binK, binI, unK, builtinK, pickK, Nat.reduceBEq, Nat.reduceAdd, Int.reduceBEq, Int.reduceBNe, Int.reduceLT, aPost, resK, tup, tyf, cTo_all, if_true]

theorem rcount_call [Tabs prog] {h : Heap} {v : Value} {o : List Int} (hv : IntSl h v o) (ho : ord o = true) : APure prog 35 [v] h (vint (cn o : Nat)) := by
  refine s35_call (by simp) ?_
  simp (config := {maxSteps := 2000000}) only [s35, ↓aw_region, ↓aw_skip, ↓aw_seq, ↓aw_block, ↓aw_exit, ↓aw_ret, ↓sops_nil, ↓sops_go, ↓dops_nil, ↓dopsX_nil, ↓dopsR_nil, ↓vdn, vup, extr_20, extr_21, extr_30, extr_31, extr_32, List.map_cons, List.map_nil, cond_true, cond_false, aop, aThen, aBlock, argEnv, ev, sput, sputO, binK, binI, unK, builtinK, pickK, Nat.reduceBEq, Nat.reduceAdd, Int.reduceBEq, Int.reduceBNe, Int.reduceLT, aPost, resK, tup, tyf, callK, List.nil_append, List.append_nil, List.toList_toArray, List.cons_append]
  have := rcounted_call hv ho o.length 0 (Nat.two_pow_pos _) (by rw [rest_zero]; simp)
  rw [rest_zero] at this
  refine this.mono ?_
  rintro _ _ ⟨rfl, rfl⟩
  simp (config := {maxSteps := 2000000}) only [s35, ↓aw_region, ↓aw_skip, ↓aw_seq, ↓aw_block, ↓aw_exit, ↓aw_ret, ↓sops_nil, ↓sops_go, ↓dops_nil, ↓dopsX_nil, ↓dopsR_nil, ↓vdn, vup, extr_20, extr_21, extr_30, extr_31, extr_32, List.map_cons, List.map_nil, cond_true, cond_false, aop, aThen, aBlock, argEnv, ev, sput, sputO, binK, binI, unK, builtinK, pickK, Nat.reduceBEq, Nat.reduceAdd, Int.reduceBEq, Int.reduceBNe, Int.reduceLT, aPost, resK, tup, tyf, cn]
end Go.Proofs.Tryd.Am

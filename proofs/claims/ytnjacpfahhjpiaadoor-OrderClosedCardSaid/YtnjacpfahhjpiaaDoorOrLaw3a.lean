/-
  order: the law OrderCounts.
-/
import Derived.Test.YtnjacpfahhjpiaaDoorOrAdd2
import Derived.Test.YtnjacpfahhjpiaaDoorFnB
set_option linter.all false
namespace Go.Proofs.Tryd.Am
open Go.Am Ord
set_option maxRecDepth 100000
set_option maxHeartbeats 1000000

/-- The number of lines that begin with one of the first elements. -/
def fcn (o : List Int) (x : Nat) : Nat := if o.length = 1 then 1 else cn (delL o x)
def sumTo (o : List Int) : Nat → Nat
  | 0 => 0
  | x + 1 => sumTo o x + if low o x = true then fcn o x else 0
theorem sumTo_eq (o : List Int) : ∀ n, sumTo o n = (((List.range n).filter (low o)).map (fcn o)).sum
  | 0 => rfl
  | n + 1 => by
    rw [sumTo, sumTo_eq o n, List.range_succ, List.filter_append, List.map_append, List.sum_append, List.filter_cons]
    split <;> simp
theorem sumTo_all {o : List Int} (h : 1 ≤ o.length) : sumTo o o.length = cn o := by rw [sumTo_eq, cn_sum h]; rfl
theorem sumTo_mono (o : List Int) : ∀ {a b : Nat}, a ≤ b → sumTo o a ≤ sumTo o b
  | a, 0, h => by obtain rfl : a = 0 := by omega
                  exact Nat.le_refl _
  | a, b + 1, h => by
    rcases Nat.lt_or_ge a (b + 1) with h' | h'
    · exact Nat.le_trans (sumTo_mono o (show a ≤ b by omega)) (Nat.le_add_right _ _)
    · obtain rfl : a = b + 1 := by omega
      exact Nat.le_refl _
/-- No set among the first bears x. -/
def lowTo (o : List Int) (x k : Nat) : Bool := (List.range k).all fun i => !ab o i x
theorem lowTo_succ (o : List Int) (x k : Nat) : lowTo o x (k + 1) = (lowTo o x k && !ab o k x) := by
  rw [lowTo, lowTo, List.range_succ, List.all_append]; simp
/-- The order without x, from the first elements. -/
def delTo (o : List Int) (x k : Nat) : List Int := ((List.range k).filter fun y => decide (y ≠ x)).map fun y => (delB (bt o y) x : Int)
theorem delTo_succ (o : List Int) (x k : Nat) : delTo o x (k + 1) = if k = x then delTo o x k else delTo o x k ++ [(delB (bt o k) x : Int)] := by
  rw [delTo, delTo, List.range_succ, List.filter_append, List.map_append, List.filter_cons]
  split <;> rename_i h
  · simp only [decide_eq_true_eq] at h
    rw [if_neg h]; rfl
  · simp only [decide_eq_true_eq] at h
    rw [if_pos (Classical.not_not.1 h)]; simp
theorem delTo_len (o : List Int) (x k : Nat) : (delTo o x k).length ≤ k := by
  have := List.length_filter_le (fun y => decide (y ≠ x)) (List.range k)
  rw [List.length_range] at this
  rw [delTo, List.length_map]; exact this

/-- What an int comes to modulo a length. -/
def modN (i : Int) (n : Nat) : Nat := (IntKind.u64.wrap i).toNat % n
theorem u64_range (i : Int) : 0 ≤ IntKind.u64.wrap i ∧ IntKind.u64.wrap i < 18446744073709551616 := by rw [IntKind.wrap_u64]; omega
theorem u64_id {n : Nat} (h : n ≤ 6) : IntKind.u64.wrap (n : Int) = (n : Int) := by rw [IntKind.wrap_u64]; omega
theorem modN_eq (i : Int) {n : Nat} (h0 : 1 ≤ n) (h6 : n ≤ 6) : IntKind.i64.wrap ((IntKind.u64.wrap i).tmod (n : Int)) = ((modN i n : Nat) : Int) := by
  obtain ⟨h1, h2⟩ := u64_range i
  have hlt : modN i n < n := Nat.mod_lt _ (by omega)
  have e : (IntKind.u64.wrap i).tmod (n : Int) = ((modN i n : Nat) : Int) := by
    rw [Int.tmod_eq_emod_of_nonneg h1, modN, Int.natCast_emod, Int.toNat_of_nonneg h1]
  rw [e]; exact wrap_id (by omega) (by omega)
theorem modN_lt (i : Int) {n : Nat} (h0 : 1 ≤ n) : modN i n < n := Nat.mod_lt _ (by omega)

theorem delB_lt {s x n : Nat} (hs : s < 2 ^ n) : delB s x < 2 ^ n := lt_of_bits fun j hj => by
  rw [delB_bit]
  exact Nat.testBit_lt_two_pow (Nat.lt_of_lt_of_le hs (Nat.pow_le_pow_right (by decide) (by split <;> omega)))
/-- The code's way to take an element out. -/
theorem delV {s x : Nat} (hs : s < 64) (hx : x < 6) : bitsV .or .i64 (bitsV .and .i64 (s : Int) (subV .i64 (shlV .i64 1 x) 1)) (shlV .i64 (shrV .i64 (s : Int) (addV .i64 (x : Int) 1)) x) = ((delB s x : Nat) : Int) := by
  have h2 : 2 ^ x ≤ 32 := Nat.pow_le_pow_right (n := 2) (j := 5) (by decide) (by omega)
  have h3 := Nat.two_pow_pos x
  have e1 : subV .i64 (shlV .i64 1 x) 1 = ((2 ^ x - 1 : Nat) : Int) := by
    rw [shl1 (by omega), ← pow_cast, subV_id (by omega) (by omega)]; omega
  have e2 : addV .i64 (x : Int) 1 = ((x + 1 : Nat) : Int) := add1 (by omega)
  have hsh : s >>> (x + 1) ≤ s := by rw [Nat.shiftRight_eq_div_pow]; exact Nat.div_le_self _ _
  have hmul : (s >>> (x + 1)) * 2 ^ x ≤ 64 * 32 := Nat.mul_le_mul (by omega) h2
  rw [e1, bitsV_and (by omega) (by omega), e2, shrV_nat (by omega), shlV_nat (by omega) (by omega)]
  have h4 : s &&& (2 ^ x - 1) < 64 := Nat.and_lt_two_pow (n := 6) s (by omega)
  rw [bitsV_or (by omega) (by omega)]
  rw [delB, Nat.shiftLeft_eq]

theorem OwnSl_grow {e : TypeId} {h : Heap} {v : Value} {xs : List Int} (ho : OwnSl e h v xs) (g : Heap) : OwnSl e (h ++ g) v xs := by
  rcases ho with ho | ⟨b, ys, hv, hb⟩
  · exact .inl ho
  · exact .inr ⟨b, ys, hv, get_old hb g⟩
theorem lit1 {h : Heap} {x : Int} (K : Value → Heap → Prop) : buildSliceK prog h 22 1 [(0, vint x)] K = K (.slice (some ⟨h.length, 0, none⟩) 1 1) (h ++ [.ints [x] 3 false]) := by
  simp only [buildSliceK, el_22, zero_3, esz_3, reps, fillL, mkb, intsOf, notTuple, cellsOf, List.length_singleton, Nat.mul_one, Nat.zero_mul, Nat.zero_add]
  exact propext ⟨fun h => h.2.2.2, fun h => ⟨trivial, Nat.zero_lt_one, by decide, h⟩⟩

theorem counts_loop [BitTab prog 1] {h2 : Heap} {v : Value} {o : List Int} {i j : Int} (hv1 : IntSl h2 v o) (ho : ord o = true) (hl : o.length < 9223372036854775808) {N : Env → Heap → Prop} {Q0 : Exit → Env → Heap → Prop}
    (hN : ∀ hp, Ext (fun _ => False) h2 hp → N [(0, v), (1, vint i), (2, vint j), (6, .bool false), (7, vint (cn o : Nat)), (8, .int .i64 0), (9, vint (cn o : Nat)), (45, vint (o.length : Nat)), (46, vint (o.length : Nat)), (47, .bool false)] hp) : aw prog 198 (q3_5.seq (SCode.block 0 l3_2.loop)) (aThen N Q0) [(0, v), (1, vint i), (2, vint j), (6, .bool false), (7, vint (cn o : Nat)), (8, .int .i64 0), (9, .int .i64 0)] h2 := by
  have hlen := ord_len ho
  have hpw := pow6 hlen.2
  have hcn := cn_le ho
  simp (config := {maxSteps := 2000000}) only [s3, ↓aw_region, ↓aw_skip, ↓aw_seq, ↓aw_block, ↓aw_exit, ↓aw_ret, ↓sops_nil, ↓sops_go, ↓dops_nil, ↓dopsX_nil, ↓dopsR_nil, ↓vdn, vup, extr_20, extr_21, extr_30, extr_31, extr_32, List.map_cons, List.map_nil, cond_true, cond_false, aop, aThen, aBlock, argEnv, ev, sput, sputO, binK, binI, unK, builtinK, pickK, Nat.reduceBEq, Nat.reduceAdd, Int.reduceBEq, Int.reduceBNe, Int.reduceLT, aPost, resK, tup, tyf, hv1.len, ↓aw_loop_eq]
  refine aws_hide fun Q hQ => ?_
  refine aw_loop (γ := Nat × Heap) (fun s => s.1 ≤ o.length ∧ Ext (fun _ => False) h2 s.2)
    (fun s => ([(0, v), (1, vint i), (2, vint j), (6, .bool false), (7, vint (cn o : Nat)), (8, .int .i64 0), (9, vint (sumTo o s.1 : Nat)), (45, vint o.length), (46, vint s.1)], s.2)) (fun s => o.length - s.1) (0, h2) ⟨Nat.zero_le _, Ext.refl _ _⟩ (by simp (config := {maxSteps := 2000000}) only [↓aw_region, ↓aw_skip, ↓aw_seq, ↓aw_block, ↓aw_exit, ↓aw_ret, ↓sops_nil, ↓sops_go, ↓dops_nil, ↓dopsX_nil, ↓dopsR_nil, ↓vdn, vup, extr_20, extr_21, extr_30, extr_31, extr_32, List.map_cons, List.map_nil, cond_true, cond_false, aop, aThen, aBlock, argEnv, ev, sput, sputO, binK, binI, unK, builtinK, pickK, Nat.reduceBEq, Nat.reduceAdd, Int.reduceBEq, Int.reduceBNe, Int.reduceLT, aPost, resK, tup, tyf, Int.natCast_zero, sumTo]) rfl ?_
  rintro ⟨x, hp⟩ ⟨hxi, hE⟩
  simp only at hxi hE
  have hvp : IntSl hp v o := IntSl_ext hv1 hE
  refine aw_hide fun Q2 hQ2 => ?_
  by_cases hin : (x : Int) < o.length
  · have hin' : x < o.length := by omega
    have hsum1 : sumTo o (x + 1) ≤ cn o := by rw [← sumTo_all hlen.1]; exact sumTo_mono o (by omega)
    simp only [l3_2]
    simp (config := {maxSteps := 2000000}) only [s3, ↓aw_region, ↓aw_skip, ↓aw_seq, ↓aw_block, ↓aw_exit, ↓aw_ret, ↓sops_nil, ↓sops_go, ↓dops_nil, ↓dopsX_nil, ↓dopsR_nil, ↓vdn, vup, extr_20, extr_21, extr_30, extr_31, extr_32, List.map_cons, List.map_nil, cond_true, cond_false, aop, aThen, aBlock, argEnv, ev, sput, sputO, binK, binI, unK, builtinK, pickK, Nat.reduceBEq, Nat.reduceAdd, Int.reduceBEq, Int.reduceBNe, Int.reduceLT, aPost, resK, tup, tyf, hin, hvp.len, ↓aw_loop_eq]
    refine aws_hide fun Q3 hQ3 => ?_
    refine aw_loop (γ := Nat) (fun k => k ≤ o.length)
      (fun k => ([(0, v), (1, vint i), (2, vint j), (6, .bool false), (7, vint (cn o : Nat)), (8, .int .i64 0), (9, vint (sumTo o x : Nat)), (10, vint x), (11, .bool (lowTo o x k)), (45, vint o.length), (46, vint x), (49, v), (50, vint o.length), (51, vint k)], hp)) (fun k => o.length - k) 0 (Nat.zero_le _) (by simp (config := {maxSteps := 2000000}) only [↓aw_region, ↓aw_skip, ↓aw_seq, ↓aw_block, ↓aw_exit, ↓aw_ret, ↓sops_nil, ↓sops_go, ↓dops_nil, ↓dopsX_nil, ↓dopsR_nil, ↓vdn, vup, extr_20, extr_21, extr_30, extr_31, extr_32, List.map_cons, List.map_nil, cond_true, cond_false, aop, aThen, aBlock, argEnv, ev, sput, sputO, binK, binI, unK, builtinK, pickK, Nat.reduceBEq, Nat.reduceAdd, Int.reduceBEq, Int.reduceBNe, Int.reduceLT, aPost, resK, tup, tyf, Int.natCast_zero, show lowTo o x 0 = true from rfl]) rfl ?_
    intro k hk
    refine aw_hide fun Q4 hQ4 => ?_
    by_cases hkn : (k : Int) < o.length
    · have hkn' : k < o.length := by omega
      have hnext := lowTo_succ o x k
      cases hlk : lowTo o x k with
      | false =>
        rw [hlk, Bool.false_and] at hnext
        simp (config := {maxSteps := 2000000}) only [s3, ↓aw_region, ↓aw_skip, ↓aw_seq, ↓aw_block, ↓aw_exit, ↓aw_ret, ↓sops_nil, ↓sops_go, ↓dops_nil, ↓dopsX_nil, ↓dopsR_nil, ↓vdn, vup, extr_20, extr_21, extr_30, extr_31, extr_32, List.map_cons, List.map_nil, cond_true, cond_false, aop, aThen, aBlock, argEnv, ev, sput, sputO, binK, binI, unK, builtinK, pickK, Nat.reduceBEq, Nat.reduceAdd, Int.reduceBEq, Int.reduceBNe, Int.reduceLT, aPost, resK, tup, tyf, l3_0, hkn, hvp.idx el_22 esz_3 hkn', hvp.load shp_3 hkn', hlk, add1 (show k < 9223372036854775807 by omega)]
        exact hQ4 _ _ _ ⟨k + 1, by omega, by omega, by simp (config := {maxSteps := 2000000}) only [↓aw_region, ↓aw_skip, ↓aw_seq, ↓aw_block, ↓aw_exit, ↓aw_ret, ↓sops_nil, ↓sops_go, ↓dops_nil, ↓dopsX_nil, ↓dopsR_nil, ↓vdn, vup, extr_20, extr_21, extr_30, extr_31, extr_32, List.map_cons, List.map_nil, cond_true, cond_false, aop, aThen, aBlock, argEnv, ev, sput, sputO, binK, binI, unK, builtinK, pickK, Nat.reduceBEq, Nat.reduceAdd, Int.reduceBEq, Int.reduceBNe, Int.reduceLT, aPost, resK, tup, tyf, hnext], rfl⟩
      | true =>
        rw [hlk, Bool.true_and] at hnext
        simp (config := {maxSteps := 2000000}) only [s3, ↓aw_region, ↓aw_skip, ↓aw_seq, ↓aw_block, ↓aw_exit, ↓aw_ret, ↓sops_nil, ↓sops_go, ↓dops_nil, ↓dopsX_nil, ↓dopsR_nil, ↓vdn, vup, extr_20, extr_21, extr_30, extr_31, extr_32, List.map_cons, List.map_nil, cond_true, cond_false, aop, aThen, aBlock, argEnv, ev, sput, sputO, binK, binI, unK, builtinK, pickK, Nat.reduceBEq, Nat.reduceAdd, Int.reduceBEq, Int.reduceBNe, Int.reduceLT, aPost, resK, tup, tyf, l3_0, hkn, hvp.idx el_22 esz_3 hkn', hvp.load shp_3 hkn', hlk, testO ho hkn', beq0, add1 (show k < 9223372036854775807 by omega)]
        exact hQ4 _ _ _ ⟨k + 1, by omega, by omega, by simp (config := {maxSteps := 2000000}) only [↓aw_region, ↓aw_skip, ↓aw_seq, ↓aw_block, ↓aw_exit, ↓aw_ret, ↓sops_nil, ↓sops_go, ↓dops_nil, ↓dopsX_nil, ↓dopsR_nil, ↓vdn, vup, extr_20, extr_21, extr_30, extr_31, extr_32, List.map_cons, List.map_nil, cond_true, cond_false, aop, aThen, aBlock, argEnv, ev, sput, sputO, binK, binI, unK, builtinK, pickK, Nat.reduceBEq, Nat.reduceAdd, Int.reduceBEq, Int.reduceBNe, Int.reduceLT, aPost, resK, tup, tyf, hnext], rfl⟩
    obtain rfl : k = o.length := by omega
    simp (config := {maxSteps := 2000000}) only [s3, ↓aw_region, ↓aw_skip, ↓aw_seq, ↓aw_block, ↓aw_exit, ↓aw_ret, ↓sops_nil, ↓sops_go, ↓dops_nil, ↓dopsX_nil, ↓dopsR_nil, ↓vdn, vup, extr_20, extr_21, extr_30, extr_31, extr_32, List.map_cons, List.map_nil, cond_true, cond_false, aop, aThen, aBlock, argEnv, ev, sput, sputO, binK, binI, unK, builtinK, pickK, Nat.reduceBEq, Nat.reduceAdd, Int.reduceBEq, Int.reduceBNe, Int.reduceLT, aPost, resK, tup, tyf, l3_0, Int.lt_irrefl]
    refine hQ4 _ _ _ (hQ3 _ _ _ ?_)
    clear hQ4 hQ3 Q4 Q3 hk hkn
    have hlow : lowTo o x o.length = low o x := rfl
    rw [hlow]
    cases hlo : low o x with
    | false =>
      have hs : sumTo o (x + 1) = sumTo o x := by rw [sumTo, hlo]; rfl
      simp (config := {maxSteps := 2000000}) only [s3, ↓aw_region, ↓aw_skip, ↓aw_seq, ↓aw_block, ↓aw_exit, ↓aw_ret, ↓sops_nil, ↓sops_go, ↓dops_nil, ↓dopsX_nil, ↓dopsR_nil, ↓vdn, vup, extr_20, extr_21, extr_30, extr_31, extr_32, List.map_cons, List.map_nil, cond_true, cond_false, aop, aThen, aBlock, argEnv, ev, sput, sputO, binK, binI, unK, builtinK, pickK, Nat.reduceBEq, Nat.reduceAdd, Int.reduceBEq, Int.reduceBNe, Int.reduceLT, aPost, resK, tup, tyf, hlo, add1 (show x < 9223372036854775807 by omega)]
      exact hQ2 _ _ _ ⟨(x + 1, hp), ⟨by simp only; omega, hE⟩, by simp only; omega, by simp (config := {maxSteps := 2000000}) only [↓aw_region, ↓aw_skip, ↓aw_seq, ↓aw_block, ↓aw_exit, ↓aw_ret, ↓sops_nil, ↓sops_go, ↓dops_nil, ↓dopsX_nil, ↓dopsR_nil, ↓vdn, vup, extr_20, extr_21, extr_30, extr_31, extr_32, List.map_cons, List.map_nil, cond_true, cond_false, aop, aThen, aBlock, argEnv, ev, sput, sputO, binK, binI, unK, builtinK, pickK, Nat.reduceBEq, Nat.reduceAdd, Int.reduceBEq, Int.reduceBNe, Int.reduceLT, aPost, resK, tup, tyf, hs], rfl⟩
    | true =>
      have hs : sumTo o (x + 1) = sumTo o x + fcn o x := by rw [sumTo, hlo]; rfl
      by_cases h1 : o.length = 1
      · have hq : ((o.length : Int) == 1) = true := by rw [h1]; rfl
        have hf : fcn o x = 1 := by rw [fcn, if_pos h1]
        rw [hf] at hs
        have ha : addV .i64 ((sumTo o x : Nat) : Int) 1 = ((sumTo o (x + 1) : Nat) : Int) := by rw [hs]; exact add1 (by omega)
        simp (config := {maxSteps := 2000000}) only [s3, ↓aw_region, ↓aw_skip, ↓aw_seq, ↓aw_block, ↓aw_exit, ↓aw_ret, ↓sops_nil, ↓sops_go, ↓dops_nil, ↓dopsX_nil, ↓dopsR_nil, ↓vdn, vup, extr_20, extr_21, extr_30, extr_31, extr_32, List.map_cons, List.map_nil, cond_true, cond_false, aop, aThen, aBlock, argEnv, ev, sput, sputO, binK, binI, unK, builtinK, pickK, Nat.reduceBEq, Nat.reduceAdd, Int.reduceBEq, Int.reduceBNe, Int.reduceLT, aPost, resK, tup, tyf, hlo, hvp.len, hq, ha, add1 (show x < 9223372036854775807 by omega)]
        exact hQ2 _ _ _ ⟨(x + 1, hp), ⟨by simp only; omega, hE⟩, by simp only; omega, by simp (config := {maxSteps := 2000000}) only [↓aw_region, ↓aw_skip, ↓aw_seq, ↓aw_block, ↓aw_exit, ↓aw_ret, ↓sops_nil, ↓sops_go, ↓dops_nil, ↓dopsX_nil, ↓dopsR_nil, ↓vdn, vup, extr_20, extr_21, extr_30, extr_31, extr_32, List.map_cons, List.map_nil, cond_true, cond_false, aop, aThen, aBlock, argEnv, ev, sput, sputO, binK, binI, unK, builtinK, pickK, Nat.reduceBEq, Nat.reduceAdd, Int.reduceBEq, Int.reduceBNe, Int.reduceLT, aPost, resK, tup, tyf], rfl⟩
      · have hq : ((o.length : Int) == 1) = false := by
          have : (o.length : Int) ≠ 1 := by omega
          simpa using this
        have hf : fcn o x = cn (delL o x) := by rw [fcn, if_neg h1]
        rw [hf] at hs
        simp (config := {maxSteps := 2000000}) only [s3, ↓aw_region, ↓aw_skip, ↓aw_seq, ↓aw_block, ↓aw_exit, ↓aw_ret, ↓sops_nil, ↓sops_go, ↓dops_nil, ↓dopsX_nil, ↓dopsR_nil, ↓vdn, vup, extr_20, extr_21, extr_30, extr_31, extr_32, List.map_cons, List.map_nil, cond_true, cond_false, aop, aThen, aBlock, argEnv, ev, sput, sputO, binK, binI, unK, builtinK, pickK, Nat.reduceBEq, Nat.reduceAdd, Int.reduceBEq, Int.reduceBNe, Int.reduceLT, aPost, resK, tup, tyf, hlo, hvp.len, hq, ↓aw_loop_eq]
        refine aws_hide fun Q3 hQ3 => ?_
        refine aw_loop (γ := Nat × Value × Heap) (fun s => s.1 ≤ o.length ∧ OwnSl 3 s.2.2 s.2.1 (delTo o x s.1) ∧ Ext (fun _ => False) hp s.2.2 ∧ ∀ b, blkOf s.2.1 = some b → hp.length ≤ b)
          (fun s => ([(0, v), (1, vint i), (2, vint j), (6, .bool false), (7, vint (cn o : Nat)), (8, .int .i64 0), (9, vint (sumTo o x : Nat)), (10, vint x), (14, s.2.1), (45, vint o.length), (46, vint x), (71, v), (72, vint o.length), (73, vint s.1)], s.2.2)) (fun s => o.length - s.1) (0, .slice none 0 0, hp)
          ⟨Nat.zero_le _, .inl ⟨rfl, rfl⟩, Ext.refl _ _, fun _ h => by cases h⟩ (by simp (config := {maxSteps := 2000000}) only [↓aw_region, ↓aw_skip, ↓aw_seq, ↓aw_block, ↓aw_exit, ↓aw_ret, ↓sops_nil, ↓sops_go, ↓dops_nil, ↓dopsX_nil, ↓dopsR_nil, ↓vdn, vup, extr_20, extr_21, extr_30, extr_31, extr_32, List.map_cons, List.map_nil, cond_true, cond_false, aop, aThen, aBlock, argEnv, ev, sput, sputO, binK, binI, unK, builtinK, pickK, Nat.reduceBEq, Nat.reduceAdd, Int.reduceBEq, Int.reduceBNe, Int.reduceLT, aPost, resK, tup, tyf, Int.natCast_zero]) rfl ?_
        rintro ⟨k, lv, hk⟩ ⟨hkl, hown, hEk, hblk⟩
        simp only at hkl hown hEk hblk
        have hvk : IntSl hk v o := IntSl_ext hvp hEk
        refine aw_hide fun Q4 hQ4 => ?_
        by_cases hkn : (k : Int) < o.length
        · have hkn' : k < o.length := by omega
          by_cases hkx : k = x
          · have hne : ((k : Int) != (x : Int)) = false := by rw [hkx]; exact bne_self_eq_false _
            have hd : delTo o x (k + 1) = delTo o x k := by rw [delTo_succ, if_pos hkx]
            simp (config := {maxSteps := 2000000}) only [s3, ↓aw_region, ↓aw_skip, ↓aw_seq, ↓aw_block, ↓aw_exit, ↓aw_ret, ↓sops_nil, ↓sops_go, ↓dops_nil, ↓dopsX_nil, ↓dopsR_nil, ↓vdn, vup, extr_20, extr_21, extr_30, extr_31, extr_32, List.map_cons, List.map_nil, cond_true, cond_false, aop, aThen, aBlock, argEnv, ev, sput, sputO, binK, binI, unK, builtinK, pickK, Nat.reduceBEq, Nat.reduceAdd, Int.reduceBEq, Int.reduceBNe, Int.reduceLT, aPost, resK, tup, tyf, l3_1, hkn, hvk.idx el_22 esz_3 hkn', hvk.load shp_3 hkn', hne, add1 (show k < 9223372036854775807 by omega)]
            exact hQ4 _ _ _ ⟨(k + 1, lv, hk), ⟨by simp only; omega, by simp only; rw [hd]; exact hown, hEk, hblk⟩, by simp only; omega, by simp (config := {maxSteps := 2000000}) only [↓aw_region, ↓aw_skip, ↓aw_seq, ↓aw_block, ↓aw_exit, ↓aw_ret, ↓sops_nil, ↓sops_go, ↓dops_nil, ↓dopsX_nil, ↓dopsR_nil, ↓vdn, vup, extr_20, extr_21, extr_30, extr_31, extr_32, List.map_cons, List.map_nil, cond_true, cond_false, aop, aThen, aBlock, argEnv, ev, sput, sputO, binK, binI, unK, builtinK, pickK, Nat.reduceBEq, Nat.reduceAdd, Int.reduceBEq, Int.reduceBNe, Int.reduceLT, aPost, resK, tup, tyf], rfl⟩
          · have hne : ((k : Int) != (x : Int)) = true := by
              have : (k : Int) ≠ (x : Int) := by omega
              simpa using this
            have hd : delTo o x (k + 1) = delTo o x k ++ [((delB (bt o k) x : Nat) : Int)] := by rw [delTo_succ, if_neg hkx]
            obtain ⟨hkv, hkb⟩ := ord_nat ho hkn'
            have hdv := delV (s := bt o k) (x := x) (by omega) (by omega)
            rw [← hkv] at hdv
            have hx0 : (0 : Int) ≤ addV .i64 (x : Int) 1 := by rw [add1 (show x < 9223372036854775807 by omega)]; exact Int.natCast_nonneg _
            simp (config := {maxSteps := 2000000}) only [s3, ↓aw_region, ↓aw_skip, ↓aw_seq, ↓aw_block, ↓aw_exit, ↓aw_ret, ↓sops_nil, ↓sops_go, ↓dops_nil, ↓dopsX_nil, ↓dopsR_nil, ↓vdn, vup, extr_20, extr_21, extr_30, extr_31, extr_32, List.map_cons, List.map_nil, cond_true, cond_false, aop, aThen, aBlock, argEnv, ev, sput, sputO, binK, binI, unK, builtinK, pickK, Nat.reduceBEq, Nat.reduceAdd, Int.reduceBEq, Int.reduceBNe, Int.reduceLT, aPost, resK, tup, tyf, l3_1, hkn, hvk.idx el_22 esz_3 hkn', hvk.load shp_3 hkn', hne]
            refine aw_drawX [] (by kernel_rfl) (by kernel_rfl) (by kernel_rfl) (by kernel_rfl) ?_
            simp (config := {maxSteps := 2000000}) only [s3, ↓aw_region, ↓aw_skip, ↓aw_seq, ↓aw_block, ↓aw_exit, ↓aw_ret, ↓sops_nil, ↓sops_go, ↓dops_nil, ↓dopsX_nil, ↓dopsR_nil, ↓vdn, vup, extr_20, extr_21, extr_30, extr_31, extr_32, List.map_cons, List.map_nil, cond_true, cond_false, aop, aThen, aBlock, argEnv, ev, sput, sputO, binK, binI, unK, builtinK, pickK, Nat.reduceBEq, Nat.reduceAdd, Int.reduceBEq, Int.reduceBNe, Int.reduceLT, aPost, resK, tup, tyf, hx0, hdv, lit1]
            have hdl := delTo_len o x k
            have hown' : OwnSl 3 (hk ++ [.ints [((delB (bt o k) x : Nat) : Int)] 3 false]) lv (delTo o x k) := OwnSl_grow hown _
            refine hown'.append app_22_22 (by omega) (get_new _ _) ?_
            intro v' h' ho' hE' hb'
            have hlk := hEk.1
            have hEn : Ext (fun _ => False) hp h' := by
              have hl' := hE'.1
              simp only [List.length_append, List.length_singleton] at hl'
              refine ⟨by omega, fun q hq _ => ?_⟩
              rw [hE'.2 q (by simp; omega) (fun hb => by have := hblk q hb; omega), List.getElem?_append_left (by omega)]
              exact hEk.2 q hq id
            simp (config := {maxSteps := 2000000}) only [s3, ↓aw_region, ↓aw_skip, ↓aw_seq, ↓aw_block, ↓aw_exit, ↓aw_ret, ↓sops_nil, ↓sops_go, ↓dops_nil, ↓dopsX_nil, ↓dopsR_nil, ↓vdn, vup, extr_20, extr_21, extr_30, extr_31, extr_32, List.map_cons, List.map_nil, cond_true, cond_false, aop, aThen, aBlock, argEnv, ev, sput, sputO, binK, binI, unK, builtinK, pickK, Nat.reduceBEq, Nat.reduceAdd, Int.reduceBEq, Int.reduceBNe, Int.reduceLT, aPost, resK, tup, tyf, add1 (show k < 9223372036854775807 by omega)]
            refine hQ4 _ _ _ ⟨(k + 1, v', h'), ⟨by simp only; omega, by simp only; rw [hd]; exact ho', hEn, fun b hb => ?_⟩, by simp only; omega, by simp (config := {maxSteps := 2000000}) only [↓aw_region, ↓aw_skip, ↓aw_seq, ↓aw_block, ↓aw_exit, ↓aw_ret, ↓sops_nil, ↓sops_go, ↓dops_nil, ↓dopsX_nil, ↓dopsR_nil, ↓vdn, vup, extr_20, extr_21, extr_30, extr_31, extr_32, List.map_cons, List.map_nil, cond_true, cond_false, aop, aThen, aBlock, argEnv, ev, sput, sputO, binK, binI, unK, builtinK, pickK, Nat.reduceBEq, Nat.reduceAdd, Int.reduceBEq, Int.reduceBNe, Int.reduceLT, aPost, resK, tup, tyf], rfl⟩
            simp only at hb
            rcases hb' with hb' | ⟨b', hb1, hb2⟩
            · exact hblk b (hb' ▸ hb)
            · rw [hb1] at hb; cases hb; simp only [List.length_append, List.length_singleton] at hb2; omega
        · obtain rfl : k = o.length := by omega
          simp (config := {maxSteps := 2000000}) only [s3, ↓aw_region, ↓aw_skip, ↓aw_seq, ↓aw_block, ↓aw_exit, ↓aw_ret, ↓sops_nil, ↓sops_go, ↓dops_nil, ↓dopsX_nil, ↓dopsR_nil, ↓vdn, vup, extr_20, extr_21, extr_30, extr_31, extr_32, List.map_cons, List.map_nil, cond_true, cond_false, aop, aThen, aBlock, argEnv, ev, sput, sputO, binK, binI, unK, builtinK, pickK, Nat.reduceBEq, Nat.reduceAdd, Int.reduceBEq, Int.reduceBNe, Int.reduceLT, aPost, resK, tup, tyf, l3_1, Int.lt_irrefl]
          refine hQ4 _ _ _ (hQ3 _ _ _ ?_)
          clear hQ4 hQ3 Q4 Q3 hkl hkn
          have hdl : delTo o x o.length = delL o x := rfl
          rw [hdl] at hown
          have hod := delL_ord ho hin' (by omega)
          have hlen2 := ord_len hod
          have hcnt : countV (delL o x) = .tuple #[vint (cn (delL o x) : Nat), .int .i64 0] := by rw [countV, hod]; rfl
          have hrange : ∀ y ∈ delL o x, -9223372036854775808 ≤ y ∧ y < 9223372036854775808 := fun y hy => by
            obtain ⟨q, hq, rfl⟩ := List.mem_iff_getElem.1 hy
            have h1 := ord_nat hod hq
            have h2 := pow6 hlen2.2
            rw [List.getD, List.getElem?_eq_getElem hq, Option.getD_some] at h1
            omega
          have ha : addV .i64 ((sumTo o x : Nat) : Int) ((cn (delL o x) : Nat) : Int) = ((sumTo o (x + 1) : Nat) : Int) := by
            rw [addV_id (by omega) (by omega), hs]; omega
          simp (config := {maxSteps := 2000000}) only [s3, ↓aw_region, ↓aw_skip, ↓aw_seq, ↓aw_block, ↓aw_exit, ↓aw_ret, ↓sops_nil, ↓sops_go, ↓dops_nil, ↓dopsX_nil, ↓dopsR_nil, ↓vdn, vup, extr_20, extr_21, extr_30, extr_31, extr_32, List.map_cons, List.map_nil, cond_true, cond_false, aop, aThen, aBlock, argEnv, ev, sput, sputO, binK, binI, unK, builtinK, pickK, Nat.reduceBEq, Nat.reduceAdd, Int.reduceBEq, Int.reduceBNe, Int.reduceLT, aPost, resK, tup, tyf, callK, List.nil_append, List.append_nil, List.toList_toArray, List.cons_append]
          refine (count_call hown.int (by omega) hrange).mono ?_
          rintro _ _ ⟨rfl, rfl⟩
          rw [hcnt]
          simp (config := {maxSteps := 2000000}) only [s3, ↓aw_region, ↓aw_skip, ↓aw_seq, ↓aw_block, ↓aw_exit, ↓aw_ret, ↓sops_nil, ↓sops_go, ↓dops_nil, ↓dopsX_nil, ↓dopsR_nil, ↓vdn, vup, extr_20, extr_21, extr_30, extr_31, extr_32, List.map_cons, List.map_nil, cond_true, cond_false, aop, aThen, aBlock, argEnv, ev, sput, sputO, binK, binI, unK, builtinK, pickK, Nat.reduceBEq, Nat.reduceAdd, Int.reduceBEq, Int.reduceBNe, Int.reduceLT, aPost, resK, tup, tyf, ha, add1 (show x < 9223372036854775807 by omega)]
          exact hQ2 _ _ _ ⟨(x + 1, _), ⟨by simp only; omega, hE.trans hEk⟩, by simp only; omega, by simp (config := {maxSteps := 2000000}) only [↓aw_region, ↓aw_skip, ↓aw_seq, ↓aw_block, ↓aw_exit, ↓aw_ret, ↓sops_nil, ↓sops_go, ↓dops_nil, ↓dopsX_nil, ↓dopsR_nil, ↓vdn, vup, extr_20, extr_21, extr_30, extr_31, extr_32, List.map_cons, List.map_nil, cond_true, cond_false, aop, aThen, aBlock, argEnv, ev, sput, sputO, binK, binI, unK, builtinK, pickK, Nat.reduceBEq, Nat.reduceAdd, Int.reduceBEq, Int.reduceBNe, Int.reduceLT, aPost, resK, tup, tyf], rfl⟩
  obtain rfl : x = o.length := by omega
  simp (config := {maxSteps := 2000000}) only [s3, ↓aw_region, ↓aw_skip, ↓aw_seq, ↓aw_block, ↓aw_exit, ↓aw_ret, ↓sops_nil, ↓sops_go, ↓dops_nil, ↓dopsX_nil, ↓dopsR_nil, ↓vdn, vup, extr_20, extr_21, extr_30, extr_31, extr_32, List.map_cons, List.map_nil, cond_true, cond_false, aop, aThen, aBlock, argEnv, ev, sput, sputO, binK, binI, unK, builtinK, pickK, Nat.reduceBEq, Nat.reduceAdd, Int.reduceBEq, Int.reduceBNe, Int.reduceLT, aPost, resK, tup, tyf, l3_2, Int.lt_irrefl]
  refine hQ2 _ _ _ (hQ _ _ _ ?_)
  clear hQ2 hQ Q2 Q hin hxi
  simp (config := {maxSteps := 2000000}) only [s3, ↓aw_region, ↓aw_skip, ↓aw_seq, ↓aw_block, ↓aw_exit, ↓aw_ret, ↓sops_nil, ↓sops_go, ↓dops_nil, ↓dopsX_nil, ↓dopsR_nil, ↓vdn, vup, extr_20, extr_21, extr_30, extr_31, extr_32, List.map_cons, List.map_nil, cond_true, cond_false, aop, aThen, aBlock, argEnv, ev, sput, sputO, binK, binI, unK, builtinK, pickK, Nat.reduceBEq, Nat.reduceAdd, Int.reduceBEq, Int.reduceBNe, Int.reduceLT, aPost, resK, tup, tyf, sumTo_all hlen.1]
  exact hN _ hE

end Go.Proofs.Tryd.Am

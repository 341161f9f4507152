/-
  order: the reference's lines.
-/
import Derived.Test.YtnjacpfahhjpiaaDoorOrRef
import Derived.Test.YtnjacpfahhjpiaaDoorFnD
import Derived.Test.YtnjacpfahhjpiaaDoorAmX
set_option linter.all false
namespace Go.Proofs.Tryd.Am
open Go.Am Ord
set_option maxRecDepth 100000
set_option maxHeartbeats 1000000

/-- Elements as ints. -/
def castN (l : List Nat) : List Int := l.map fun (i : Nat) => (i : Int)
theorem castN_len (l : List Nat) : (castN l).length = l.length := by simp [castN]
/-- The lines of what is left, behind what stands already. -/
def behind (xs : List Int) (Ls : List (List Nat)) : List (List Int) := Ls.map fun l => xs ++ castN l
/-- The lines found behind the first elements. -/
def lTo (o : List Int) (k there : Nat) (xs : List Int) : Nat → List (List Int)
  | 0 => []
  | i + 1 => lTo o k there xs i ++ if okTo o there i o.length = true then behind (xs ++ [(i : Int)]) (lines (ab o) k (rest o.length (there ||| 2 ^ i))) else []
theorem okTo_firsts (o : List Int) (there : Nat) : ((List.range o.length).filter fun i => okTo o there i o.length) = firsts (ab o) (rest o.length there) := by
  rw [firsts, rest, List.filter_filter]
  refine List.filter_congr fun i hi => ?_
  rw [okTo, Bool.eq_iff_iff]
  simp only [Bool.and_eq_true, List.all_eq_true, List.mem_range, List.mem_filter, Bool.or_eq_true, Bool.not_eq_true']
  constructor
  · rintro ⟨h1, h2⟩
    exact ⟨fun j ⟨hj1, hj2⟩ => (h2 j hj1).resolve_left (by rw [hj2]; decide), h1⟩
  · rintro ⟨h1, h2⟩
    refine ⟨h2, fun j hj => ?_⟩
    cases hb : there.testBit j with
    | true => exact .inl rfl
    | false => exact .inr (h1 j ⟨hj, hb⟩)
theorem lTo_all (o : List Int) (k there : Nat) (xs : List Int) : lTo o k there xs o.length = behind xs (lines (ab o) (k + 1) (rest o.length there)) := by
  have e : ∀ n, lTo o k there xs n = ((List.range n).filter fun i => okTo o there i o.length).flatMap fun (i : Nat) => behind (xs ++ [(i : Int)]) (lines (ab o) k (rest o.length (there ||| 2 ^ i))) := by
    intro n
    induction n with
    | zero => rfl
    | succ n ih =>
      rw [lTo, ih, List.range_succ, List.filter_append, List.flatMap_append, List.filter_cons]
      split <;> simp
  rw [e, okTo_firsts, lines, behind, List.map_flatMap]
  congr 1
  funext i
  rw [behind, List.map_map, rest_erase]
  exact List.map_congr_left fun l _ => by simp [castN]
theorem lTo_len (o : List Int) (k there : Nat) (xs : List Int) : ∀ i, (lTo o k there xs i).length = cTo o k there i
  | 0 => rfl
  | i + 1 => by
    rw [lTo, cTo, List.length_append, lTo_len]
    split
    · rw [behind, List.length_map, cnt_len]
    · rfl

theorem litI1 {h : Heap} {x : Int} (K : Value → Heap → Prop) : buildSliceK prog h 22 1 [(0, vint x)] K = K (.slice (some ⟨h.length, 0, none⟩) 1 1) (h ++ [.ints [x] 3 false]) := by
  simp only [buildSliceK, el_22, zero_3, esz_3, reps, fillL, mkb, intsOf, notTuple, cellsOf, List.length_singleton, Nat.mul_one, Nat.zero_mul, Nat.zero_add]
  exact propext ⟨fun h => h.2.2.2, fun h => ⟨trivial, by decide, by decide, h⟩⟩

theorem rlines_call [Tabs prog] {v : Value} {o : List Int} (ho : ord o = true) : ∀ (k there : Nat) {h : Heap} {bv : Value} {xs : List Int}, IntSl h v o → OwnSl 3 h bv xs → there < 2 ^ o.length → (rest o.length there).length = k → xs.length + k = o.length →
    ACall prog 76 [v, vint there, bv] h fun r h' => RdL 3 h' r (behind xs (lines (ab o) k (rest o.length there))) ∧ Ext (fun _ => False) h h' := by
  have hlen := ord_len ho
  have hpw := pow6 hlen.2
  intro k
  induction k with
  | zero =>
    intro there h bv xs hv hb ht hk hxs
    have hq : (((xs.length : Nat) : Int) == ((o.length : Nat) : Int)) = true := by
      have : xs.length = o.length := by omega
      rw [this]; exact beq_self_eq_true _
    refine s76_call (by simp) ?_
    simp (config := {maxSteps := 2000000}) only [s76, ↓aw_region, ↓aw_skip, ↓aw_seq, ↓aw_block, ↓aw_exit, ↓aw_ret, ↓sops_nil, ↓sops_go, ↓dops_nil, ↓dopsX_nil, ↓dopsR_nil, ↓vdn, vup, extr_20, extr_21, extr_30, extr_31, extr_32, List.map_cons, List.map_nil, cond_true, cond_false, aop, aThen, aBlock, argEnv, ev, sput, sputO, binK, binI, unK, builtinK, pickK, Nat.reduceBEq, Nat.reduceAdd, Int.reduceBEq, Int.reduceBNe, Int.reduceLT, aPost, resK, tup, tyf, hv.len, hb.int.len, hq, List.toList_toArray, buildSl1 el_45 zero_22 esz_22 hb]
    refine ⟨?_, Ext.app _ _ _⟩
    have e1 : behind xs (lines (ab o) 0 (rest o.length there)) = [xs] := by simp [behind, lines, castN]
    rw [e1]; exact RdL.lit hb
  | succ k ih =>
    intro there h bv xs hv hb ht hk hxs
    have hq : (((xs.length : Nat) : Int) == ((o.length : Nat) : Int)) = false := by
      have : ((xs.length : Nat) : Int) ≠ ((o.length : Nat) : Int) := by omega
      simpa using this
    have hle : cnt (ab o) (k + 1) (rest o.length there) ≤ 46656 := by
      have hr : (rest o.length there).length ≤ 6 := by
        have := List.length_filter_le (fun i => !there.testBit i) (List.range o.length)
        rw [List.length_range] at this
        exact Nat.le_trans this hlen.2
      exact Nat.le_trans (cnt_le _ _ _ hr) (show 6 ^ (k + 1) ≤ 6 ^ 6 from Nat.pow_le_pow_right (by decide) (by omega))
    refine s76_call (by simp) ?_
    simp (config := {maxSteps := 2000000}) only [s76, ↓aw_region, ↓aw_skip, ↓aw_seq, ↓aw_block, ↓aw_exit, ↓aw_ret, ↓sops_nil, ↓sops_go, ↓dops_nil, ↓dopsX_nil, ↓dopsR_nil, ↓vdn, vup, extr_20, extr_21, extr_30, extr_31, extr_32, List.map_cons, List.map_nil, cond_true, cond_false, aop, aThen, aBlock, argEnv, ev, sput, sputO, binK, binI, unK, builtinK, pickK, Nat.reduceBEq, Nat.reduceAdd, Int.reduceBEq, Int.reduceBNe, Int.reduceLT, aPost, resK, tup, tyf, hv.len, hb.int.len, hq, ↓aw_loop_eq]
    refine aws_hide fun Q hQ => ?_
    refine aw_loop (γ := Nat × Value × Heap) (fun s => s.1 ≤ o.length ∧ OwnL 22 3 s.2.2 s.2.1 (lTo o k there xs s.1) ∧ Ext (fun _ => False) h s.2.2 ∧ ∀ b, blkOf s.2.1 = some b → h.length ≤ b)
      (fun s => ([(0, v), (1, vint there), (2, bv), (6, .slice none 0 0), (7, vint xs.length), (8, s.2.1), (21, vint o.length), (22, vint s.1)], s.2.2)) (fun s => o.length - s.1) (0, .slice none 0 0, h)
      ⟨Nat.zero_le _, OwnL.nil, Ext.refl _ _, fun _ h => by cases h⟩ (by simp (config := {maxSteps := 2000000}) only [↓aw_region, ↓aw_skip, ↓aw_seq, ↓aw_block, ↓aw_exit, ↓aw_ret, ↓sops_nil, ↓sops_go, ↓dops_nil, ↓dopsX_nil, ↓dopsR_nil, ↓vdn, vup, extr_20, extr_21, extr_30, extr_31, extr_32, List.map_cons, List.map_nil, cond_true, cond_false, aop, aThen, aBlock, argEnv, ev, sput, sputO, binK, binI, unK, builtinK, pickK, Nat.reduceBEq, Nat.reduceAdd, Int.reduceBEq, Int.reduceBNe, Int.reduceLT, aPost, resK, tup, tyf, Int.natCast_zero]) rfl ?_
    rintro ⟨i, ov, hp⟩ ⟨hi, hown, hE, hblk⟩
    simp only at hi hown hE hblk
    refine aw_hide fun Q2 hQ2 => ?_
    have hvp := IntSl_ext hv hE
    by_cases hin : (i : Int) < o.length
    · have hin' : i < o.length := by omega
      have hto : bitsV .and .i64 (shrV .i64 ((there : Nat) : Int) i) 1 = if there.testBit i then 1 else 0 := testV (by omega)
      simp only [l76_1]
      simp (config := {maxSteps := 2000000}) only [s76, ↓aw_region, ↓aw_skip, ↓aw_seq, ↓aw_block, ↓aw_exit, ↓aw_ret, ↓sops_nil, ↓sops_go, ↓dops_nil, ↓dopsX_nil, ↓dopsR_nil, ↓vdn, vup, extr_20, extr_21, extr_30, extr_31, extr_32, List.map_cons, List.map_nil, cond_true, cond_false, aop, aThen, aBlock, argEnv, ev, sput, sputO, binK, binI, unK, builtinK, pickK, Nat.reduceBEq, Nat.reduceAdd, Int.reduceBEq, Int.reduceBNe, Int.reduceLT, aPost, resK, tup, tyf, hin, hto, beq0, hvp.len, ↓aw_loop_eq]
      refine aws_hide fun Q3 hQ3 => ?_
      refine aw_loop (γ := Nat) (fun j => j ≤ o.length)
        (fun j => ([(0, v), (1, vint there), (2, bv), (6, .slice none 0 0), (7, vint xs.length), (8, ov), (9, vint i), (10, .bool (okTo o there i j)), (21, vint o.length), (22, vint i), (31, vint o.length), (32, vint j)], hp)) (fun j => o.length - j) 0 (Nat.zero_le _) (by simp (config := {maxSteps := 2000000}) only [↓aw_region, ↓aw_skip, ↓aw_seq, ↓aw_block, ↓aw_exit, ↓aw_ret, ↓sops_nil, ↓sops_go, ↓dops_nil, ↓dopsX_nil, ↓dopsR_nil, ↓vdn, vup, extr_20, extr_21, extr_30, extr_31, extr_32, List.map_cons, List.map_nil, cond_true, cond_false, aop, aThen, aBlock, argEnv, ev, sput, sputO, binK, binI, unK, builtinK, pickK, Nat.reduceBEq, Nat.reduceAdd, Int.reduceBEq, Int.reduceBNe, Int.reduceLT, aPost, resK, tup, tyf, Int.natCast_zero, show okTo o there i 0 = !there.testBit i by simp [okTo]]) rfl ?_
      intro j hj
      refine aw_hide fun Q4 hQ4 => ?_
      by_cases hjn : (j : Int) < o.length
      · have hjn' : j < o.length := by omega
        have hnext := okTo_succ o there i j
        have htj : bitsV .and .i64 (shrV .i64 ((there : Nat) : Int) j) 1 = if there.testBit j then 1 else 0 := testV (by omega)
        cases hok : okTo o there i j with
        | false =>
          rw [hok, Bool.false_and] at hnext
          simp (config := {maxSteps := 2000000}) only [s76, ↓aw_region, ↓aw_skip, ↓aw_seq, ↓aw_block, ↓aw_exit, ↓aw_ret, ↓sops_nil, ↓sops_go, ↓dops_nil, ↓dopsX_nil, ↓dopsR_nil, ↓vdn, vup, extr_20, extr_21, extr_30, extr_31, extr_32, List.map_cons, List.map_nil, cond_true, cond_false, aop, aThen, aBlock, argEnv, ev, sput, sputO, binK, binI, unK, builtinK, pickK, Nat.reduceBEq, Nat.reduceAdd, Int.reduceBEq, Int.reduceBNe, Int.reduceLT, aPost, resK, tup, tyf, l76_0, hjn, hok, add1 (show j < 9223372036854775807 by omega)]
          exact hQ4 _ _ _ ⟨j + 1, by omega, by omega, by simp (config := {maxSteps := 2000000}) only [↓aw_region, ↓aw_skip, ↓aw_seq, ↓aw_block, ↓aw_exit, ↓aw_ret, ↓sops_nil, ↓sops_go, ↓dops_nil, ↓dopsX_nil, ↓dopsR_nil, ↓vdn, vup, extr_20, extr_21, extr_30, extr_31, extr_32, List.map_cons, List.map_nil, cond_true, cond_false, aop, aThen, aBlock, argEnv, ev, sput, sputO, binK, binI, unK, builtinK, pickK, Nat.reduceBEq, Nat.reduceAdd, Int.reduceBEq, Int.reduceBNe, Int.reduceLT, aPost, resK, tup, tyf, hnext], rfl⟩
        | true =>
          rw [hok, Bool.true_and] at hnext
          cases hbj : there.testBit j with
          | true =>
            rw [hbj, Bool.true_or] at hnext
            simp (config := {maxSteps := 2000000}) only [s76, ↓aw_region, ↓aw_skip, ↓aw_seq, ↓aw_block, ↓aw_exit, ↓aw_ret, ↓sops_nil, ↓sops_go, ↓dops_nil, ↓dopsX_nil, ↓dopsR_nil, ↓vdn, vup, extr_20, extr_21, extr_30, extr_31, extr_32, List.map_cons, List.map_nil, cond_true, cond_false, aop, aThen, aBlock, argEnv, ev, sput, sputO, binK, binI, unK, builtinK, pickK, Nat.reduceBEq, Nat.reduceAdd, Int.reduceBEq, Int.reduceBNe, Int.reduceLT, aPost, resK, tup, tyf, l76_0, hjn, hok, htj, hbj, if_true, beq1, Int.reduceBEq, add1 (show j < 9223372036854775807 by omega)]
            exact hQ4 _ _ _ ⟨j + 1, by omega, by omega, by simp (config := {maxSteps := 2000000}) only [↓aw_region, ↓aw_skip, ↓aw_seq, ↓aw_block, ↓aw_exit, ↓aw_ret, ↓sops_nil, ↓sops_go, ↓dops_nil, ↓dopsX_nil, ↓dopsR_nil, ↓vdn, vup, extr_20, extr_21, extr_30, extr_31, extr_32, List.map_cons, List.map_nil, cond_true, cond_false, aop, aThen, aBlock, argEnv, ev, sput, sputO, binK, binI, unK, builtinK, pickK, Nat.reduceBEq, Nat.reduceAdd, Int.reduceBEq, Int.reduceBNe, Int.reduceLT, aPost, resK, tup, tyf, hnext], rfl⟩
          | false =>
            rw [hbj, Bool.false_or] at hnext
            simp (config := {maxSteps := 2000000}) only [s76, ↓aw_region, ↓aw_skip, ↓aw_seq, ↓aw_block, ↓aw_exit, ↓aw_ret, ↓sops_nil, ↓sops_go, ↓dops_nil, ↓dopsX_nil, ↓dopsR_nil, ↓vdn, vup, extr_20, extr_21, extr_30, extr_31, extr_32, List.map_cons, List.map_nil, cond_true, cond_false, aop, aThen, aBlock, argEnv, ev, sput, sputO, binK, binI, unK, builtinK, pickK, Nat.reduceBEq, Nat.reduceAdd, Int.reduceBEq, Int.reduceBNe, Int.reduceLT, aPost, resK, tup, tyf, l76_0, hjn, hok, htj, hbj, if_false, Bool.false_eq_true, Int.reduceBEq, callK, List.nil_append, List.append_nil, List.toList_toArray, List.cons_append]
            refine (above_call hvp ho hjn').mono ?_
            rintro _ _ ⟨rfl, rfl⟩
            simp (config := {maxSteps := 2000000}) only [s76, ↓aw_region, ↓aw_skip, ↓aw_seq, ↓aw_block, ↓aw_exit, ↓aw_ret, ↓sops_nil, ↓sops_go, ↓dops_nil, ↓dopsX_nil, ↓dopsR_nil, ↓vdn, vup, extr_20, extr_21, extr_30, extr_31, extr_32, List.map_cons, List.map_nil, cond_true, cond_false, aop, aThen, aBlock, argEnv, ev, sput, sputO, binK, binI, unK, builtinK, pickK, Nat.reduceBEq, Nat.reduceAdd, Int.reduceBEq, Int.reduceBNe, Int.reduceLT, aPost, resK, tup, tyf, add1 (show j < 9223372036854775807 by omega)]
            exact hQ4 _ _ _ ⟨j + 1, by omega, by omega, by simp (config := {maxSteps := 2000000}) only [↓aw_region, ↓aw_skip, ↓aw_seq, ↓aw_block, ↓aw_exit, ↓aw_ret, ↓sops_nil, ↓sops_go, ↓dops_nil, ↓dopsX_nil, ↓dopsR_nil, ↓vdn, vup, extr_20, extr_21, extr_30, extr_31, extr_32, List.map_cons, List.map_nil, cond_true, cond_false, aop, aThen, aBlock, argEnv, ev, sput, sputO, binK, binI, unK, builtinK, pickK, Nat.reduceBEq, Nat.reduceAdd, Int.reduceBEq, Int.reduceBNe, Int.reduceLT, aPost, resK, tup, tyf, hnext], rfl⟩
      obtain rfl : j = o.length := by omega
      simp (config := {maxSteps := 2000000}) only [s76, ↓aw_region, ↓aw_skip, ↓aw_seq, ↓aw_block, ↓aw_exit, ↓aw_ret, ↓sops_nil, ↓sops_go, ↓dops_nil, ↓dopsX_nil, ↓dopsR_nil, ↓vdn, vup, extr_20, extr_21, extr_30, extr_31, extr_32, List.map_cons, List.map_nil, cond_true, cond_false, aop, aThen, aBlock, argEnv, ev, sput, sputO, binK, binI, unK, builtinK, pickK, Nat.reduceBEq, Nat.reduceAdd, Int.reduceBEq, Int.reduceBNe, Int.reduceLT, aPost, resK, tup, tyf, l76_0, Int.lt_irrefl]
      refine hQ4 _ _ _ (hQ3 _ _ _ ?_)
      clear hQ4 hQ3 Q4 Q3 hj hjn
      cases hok : okTo o there i o.length with
      | false =>
        have hs : lTo o k there xs (i + 1) = lTo o k there xs i := by rw [lTo, hok]; exact List.append_nil _
        simp (config := {maxSteps := 2000000}) only [s76, ↓aw_region, ↓aw_skip, ↓aw_seq, ↓aw_block, ↓aw_exit, ↓aw_ret, ↓sops_nil, ↓sops_go, ↓dops_nil, ↓dopsX_nil, ↓dopsR_nil, ↓vdn, vup, extr_20, extr_21, extr_30, extr_31, extr_32, List.map_cons, List.map_nil, cond_true, cond_false, aop, aThen, aBlock, argEnv, ev, sput, sputO, binK, binI, unK, builtinK, pickK, Nat.reduceBEq, Nat.reduceAdd, Int.reduceBEq, Int.reduceBNe, Int.reduceLT, aPost, resK, tup, tyf, hok, add1 (show i < 9223372036854775807 by omega)]
        exact hQ2 _ _ _ ⟨(i + 1, ov, hp), ⟨by simp only; omega, by simp only; rw [hs]; exact hown, hE, hblk⟩, by simp only; omega, by simp (config := {maxSteps := 2000000}) only [↓aw_region, ↓aw_skip, ↓aw_seq, ↓aw_block, ↓aw_exit, ↓aw_ret, ↓sops_nil, ↓sops_go, ↓dops_nil, ↓dopsX_nil, ↓dopsR_nil, ↓vdn, vup, extr_20, extr_21, extr_30, extr_31, extr_32, List.map_cons, List.map_nil, cond_true, cond_false, aop, aThen, aBlock, argEnv, ev, sput, sputO, binK, binI, unK, builtinK, pickK, Nat.reduceBEq, Nat.reduceAdd, Int.reduceBEq, Int.reduceBNe, Int.reduceLT, aPost, resK, tup, tyf], rfl⟩
      | true =>
        have hs : lTo o k there xs (i + 1) = lTo o k there xs i ++ behind (xs ++ [(i : Int)]) (lines (ab o) k (rest o.length (there ||| 2 ^ i))) := by rw [lTo, hok]; rfl
        have hm : cTo o k there (i + 1) ≤ cnt (ab o) (k + 1) (rest o.length there) := by rw [← cTo_all]; exact cTo_mono o k there (by omega)
        have hln := lTo_len o k there xs (i + 1)
        rw [hs, List.length_append] at hln
        have h2i : 2 ^ i < 2 ^ o.length := Nat.pow_lt_pow_right (by decide) hin'
        have hor : bitsV .or .i64 ((there : Nat) : Int) (2 ^ i) = ((there ||| 2 ^ i : Nat) : Int) := by
          rw [← pow_cast]; exact bitsV_or (by omega) (by omega)
        have hnot : there.testBit i = false := by
          cases hb : there.testBit i with
          | false => rfl
          | true => rw [okTo, hb] at hok; cases hok
        have hl2 : (rest o.length (there ||| 2 ^ i)).length = k := by
          rw [← rest_erase, List.length_erase_of_mem (mem_rest.2 ⟨hin', hnot⟩), hk]; rfl
        have hbp : OwnSl 3 hp bv xs := hb.same fun b hb2 => hE.2 b (hb.lt hb2) id
        simp (config := {maxSteps := 2000000}) only [s76, ↓aw_region, ↓aw_skip, ↓aw_seq, ↓aw_block, ↓aw_exit, ↓aw_ret, ↓sops_nil, ↓sops_go, ↓dops_nil, ↓dopsX_nil, ↓dopsR_nil, ↓vdn, vup, extr_20, extr_21, extr_30, extr_31, extr_32, List.map_cons, List.map_nil, cond_true, cond_false, aop, aThen, aBlock, argEnv, ev, sput, sputO, binK, binI, unK, builtinK, pickK, Nat.reduceBEq, Nat.reduceAdd, Int.reduceBEq, Int.reduceBNe, Int.reduceLT, aPost, resK, tup, tyf, hok]
        refine aw_drawX [(13, 4)] (by kernel_rfl) (by kernel_rfl) (by kernel_rfl) (by kernel_rfl) ?_
        simp (config := {maxSteps := 2000000}) only [s76, ↓aw_region, ↓aw_skip, ↓aw_seq, ↓aw_block, ↓aw_exit, ↓aw_ret, ↓sops_nil, ↓sops_go, ↓dops_nil, ↓dopsX_nil, ↓dopsR_nil, ↓vdn, vup, extr_20, extr_21, extr_30, extr_31, extr_32, List.map_cons, List.map_nil, cond_true, cond_false, aop, aThen, aBlock, argEnv, ev, sput, sputO, binK, binI, unK, builtinK, pickK, Nat.reduceBEq, Nat.reduceAdd, Int.reduceBEq, Int.reduceBNe, Int.reduceLT, aPost, resK, tup, tyf, shl1 (show i ≤ 62 by omega), hor, Option.map_some, Option.map_none]
        refine hbp.cap el_22 esz_3 fun cv hcv => ?_
        simp (config := {maxSteps := 2000000}) only [s76, ↓aw_region, ↓aw_skip, ↓aw_seq, ↓aw_block, ↓aw_exit, ↓aw_ret, ↓sops_nil, ↓sops_go, ↓dops_nil, ↓dopsX_nil, ↓dopsR_nil, ↓vdn, vup, extr_20, extr_21, extr_30, extr_31, extr_32, List.map_cons, List.map_nil, cond_true, cond_false, aop, aThen, aBlock, argEnv, ev, sput, sputO, binK, binI, unK, builtinK, pickK, Nat.reduceBEq, Nat.reduceAdd, Int.reduceBEq, Int.reduceBNe, Int.reduceLT, aPost, resK, tup, tyf, List.toList_toArray, litI1]
        refine capApp (hcv.imp id fun ⟨b, ys, h1, h2⟩ => ⟨b, ys, h1, get_old h2 _⟩) app_22_22 (by omega) (get_new _ _) fun nv hnv => ?_
        obtain ⟨H, hH⟩ : ∃ H, H = hp ++ [Blk.ints [(i : Int)] 3 false] ++ [Blk.ints (xs ++ [(i : Int)]) 3 false] := ⟨_, rfl⟩
        rw [← hH] at hnv ⊢
        have hEH : Ext (fun _ => False) hp H := by rw [hH, List.append_assoc]; exact Ext.app _ _ _
        clear hH
        simp (config := {maxSteps := 2000000}) only [s76, ↓aw_region, ↓aw_skip, ↓aw_seq, ↓aw_block, ↓aw_exit, ↓aw_ret, ↓sops_nil, ↓sops_go, ↓dops_nil, ↓dopsX_nil, ↓dopsR_nil, ↓vdn, vup, extr_20, extr_21, extr_30, extr_31, extr_32, List.map_cons, List.map_nil, cond_true, cond_false, aop, aThen, aBlock, argEnv, ev, sput, sputO, binK, binI, unK, builtinK, pickK, Nat.reduceBEq, Nat.reduceAdd, Int.reduceBEq, Int.reduceBNe, Int.reduceLT, aPost, resK, tup, tyf, callK, List.nil_append, List.append_nil, List.toList_toArray, List.cons_append]
        refine (ih (there ||| 2 ^ i) (IntSl_ext hvp hEH) hnv (Nat.or_lt_two_pow ht h2i) hl2 (by rw [List.length_append, List.length_singleton]; omega)).mono ?_
        rintro r h2 ⟨hr, hE2⟩
        refine (hown.ext (hEH.trans hE2)).appR app_45_45 hr (by omega) ?_
        intro v' h' ho' hE' hb'
        have hlk := hE.1
        have hl2' := (hEH.trans hE2).1
        have hEn : Ext (fun _ => False) h h' := by
          have hl' := hE'.1
          refine ⟨by omega, fun q hq _ => ?_⟩
          rw [hE'.2 q (by omega) (fun hb0 => by have := hblk q hb0; omega), (hEH.trans hE2).2 q (by omega) id]
          exact hE.2 q hq id
        simp (config := {maxSteps := 2000000}) only [s76, ↓aw_region, ↓aw_skip, ↓aw_seq, ↓aw_block, ↓aw_exit, ↓aw_ret, ↓sops_nil, ↓sops_go, ↓dops_nil, ↓dopsX_nil, ↓dopsR_nil, ↓vdn, vup, extr_20, extr_21, extr_30, extr_31, extr_32, List.map_cons, List.map_nil, cond_true, cond_false, aop, aThen, aBlock, argEnv, ev, sput, sputO, binK, binI, unK, builtinK, pickK, Nat.reduceBEq, Nat.reduceAdd, Int.reduceBEq, Int.reduceBNe, Int.reduceLT, aPost, resK, tup, tyf, add1 (show i < 9223372036854775807 by omega)]
        refine hQ2 _ _ _ ⟨(i + 1, v', h'), ⟨by simp only; omega, by simp only; rw [hs]; exact ho', hEn, fun b hb0 => ?_⟩, by simp only; omega, by simp (config := {maxSteps := 2000000}) only [↓aw_region, ↓aw_skip, ↓aw_seq, ↓aw_block, ↓aw_exit, ↓aw_ret, ↓sops_nil, ↓sops_go, ↓dops_nil, ↓dopsX_nil, ↓dopsR_nil, ↓vdn, vup, extr_20, extr_21, extr_30, extr_31, extr_32, List.map_cons, List.map_nil, cond_true, cond_false, aop, aThen, aBlock, argEnv, ev, sput, sputO, binK, binI, unK, builtinK, pickK, Nat.reduceBEq, Nat.reduceAdd, Int.reduceBEq, Int.reduceBNe, Int.reduceLT, aPost, resK, tup, tyf], rfl⟩
        simp only at hb0
        rcases hb' with hb' | ⟨b', hb1, hb2⟩
        · exact hblk b (hb' ▸ hb0)
        · rw [hb1] at hb0; cases hb0; omega
    obtain rfl : i = o.length := by omega
    simp (config := {maxSteps := 2000000}) only [s76, ↓aw_region, ↓aw_skip, ↓aw_seq, ↓aw_block, ↓aw_exit, ↓aw_ret, ↓sops_nil, ↓sops_go, ↓dops_nil, ↓dopsX_nil, ↓dopsR_nil, ↓vdn, vup, extr_20, extr_21, extr_30, extr_31, extr_32, List.map_cons, List.map_nil, cond_true, cond_false, aop, aThen, aBlock, argEnv, ev, sput, sputO, binK, binI, unK, builtinK, pickK, Nat.reduceBEq, Nat.reduceAdd, Int.reduceBEq, Int.reduceBNe, Int.reduceLT, aPost, resK, tup, tyf, l76_1, Int.lt_irrefl]
    refine hQ2 _ _ _ (hQ _ _ _ ?_)
    simp (config := {maxSteps := 2000000}) only [s76, ↓aw_region, ↓aw_skip, ↓aw_seq, ↓aw_block, ↓aw_exit, ↓aw_ret, ↓sops_nil, ↓sops_go, ↓dops_nil, ↓dopsX_nil, ↓dopsR_nil, ↓vdn, vup, extr_20, extr_21, extr_30, extr_31, extr_32, List.map_cons, List.map_nil, cond_true, cond_false, aop, aThen, aBlock, argEnv, ev, sput, sputO, binK, binI, unK, builtinK, pickK, Nat.reduceBEq, Nat.reduceAdd, Int.reduceBEq, Int.reduceBNe, Int.reduceLT, aPost, resK, tup, tyf, if_true]
    rw [lTo_all] at hown
    exact ⟨hown.rd, hE⟩

/-- All lines, as ints. -/
def linesI (o : List Int) : List (List Int) := behind [] (allLines o)
theorem linesI_len (o : List Int) : (linesI o).length = cn o := by rw [linesI, behind, List.length_map, allLines_len]
theorem linesI_get (o : List Int) {k : Nat} (hk : k < cn o) : (linesI o).getD k [] = castN ((allLines o).getD k []) := by
  have h1 : k < (allLines o).length := by rw [allLines_len]; exact hk
  simp [linesI, behind, List.getD, h1]
theorem rlinesAll_call [Tabs prog] {h : Heap} {v : Value} {o : List Int} (hv : IntSl h v o) (ho : ord o = true) : ACall prog 33 [v] h fun r h' => RdL 3 h' r (linesI o) ∧ Ext (fun _ => False) h h' := by
  have hlen := ord_len ho
  have hpw := pow6 hlen.2
  refine s33_call (by simp) ?_
  simp (config := {maxSteps := 2000000}) only [s33, ↓aw_region, ↓aw_skip, ↓aw_seq, ↓aw_block, ↓aw_exit, ↓aw_ret, ↓sops_nil, ↓sops_go, ↓dops_nil, ↓dopsX_nil, ↓dopsR_nil, ↓vdn, vup, extr_20, extr_21, extr_30, extr_31, extr_32, List.map_cons, List.map_nil, cond_true, cond_false, aop, aThen, aBlock, argEnv, ev, sput, sputO, binK, binI, unK, builtinK, pickK, Nat.reduceBEq, Nat.reduceAdd, Int.reduceBEq, Int.reduceBNe, Int.reduceLT, aPost, resK, tup, tyf, callK, List.nil_append, List.append_nil, List.toList_toArray, List.cons_append]
  have h0 : rest o.length 0 = List.range o.length := rest_zero _
  have := rlines_call (h := h) (bv := .slice none 0 0) (xs := []) ho o.length 0 hv (.inl ⟨rfl, rfl⟩) hpw.2 (by rw [h0, List.length_range]) (by simp)
  rw [h0] at this
  refine this.mono ?_
  rintro r h' ⟨hr, hE⟩
  exact ⟨hr, hE⟩
end Go.Proofs.Tryd.Am

/-
  sure: the law SureJoins.
-/
import Derived.Test.YtaagkbbphgdcdaaDoorSuSum
import Derived.Test.YtaagkbbphgdcdaaDoorSuTake
set_option linter.all false
namespace Go.Proofs.Tryd.Am
open Go.Am Sr
set_option maxRecDepth 100000
set_option maxHeartbeats 1000000

theorem joinR_take {h : Heap} {xs ys : List Int} {r : Value} (hr : joinR h (xs.take 80) (ys.take 80) r) : joinR h xs ys r := by
  unfold joinR at hr ⊢
  rw [grs_take, grs_take] at hr
  by_cases hg : grs xs = true ∧ grs ys = true
  · rw [if_pos hg, grs_same hg.1, grs_same hg.2] at hr; rw [if_pos hg]; exact hr
  · rw [if_neg hg] at hr ⊢; exact hr
theorem sumR_take {h : Heap} {xs ys : List Int} {r : Value} (hr : sumR h (xs.take 80) (ys.take 80) r) : sumR h xs ys r := by
  unfold sumR at hr ⊢
  rw [grs_take, grs_take] at hr
  by_cases hg : grs xs = true ∧ grs ys = true
  · rw [if_pos hg, grs_same hg.1, grs_same hg.2] at hr; rw [if_pos hg]; exact hr
  · rw [if_neg hg] at hr ⊢; exact hr
theorem joinR_form {h' : Heap} {xs ys : List Int} {r : Value} (hr : joinR h' xs ys r) : ∃ u e, r = .tuple #[u, .int .i64 e] ∧
    ((¬ (grs xs = true ∧ grs ys = true) ∧ u = .slice none 0 0 ∧ e = 2) ∨ ((grs xs = true ∧ grs ys = true) ∧ ¬ xs.length * ys.length ≤ 6 ∧ u = .slice none 0 0 ∧ e = 6) ∨ ((grs xs = true ∧ grs ys = true) ∧ xs.length * ys.length ≤ 6 ∧ IntSl h' u (joinL xs ys) ∧ e = 0)) := by
  unfold joinR at hr
  by_cases hg : grs xs = true ∧ grs ys = true
  · rw [if_pos hg] at hr
    by_cases hs : xs.length * ys.length ≤ 6
    · rw [if_pos hs] at hr
      obtain ⟨u, rfl, hu⟩ := hr
      exact ⟨_, _, rfl, .inr (.inr ⟨hg, hs, hu, rfl⟩)⟩
    · rw [if_neg hs] at hr; exact ⟨_, _, hr, .inr (.inl ⟨hg, hs, rfl, rfl⟩)⟩
  · rw [if_neg hg] at hr; exact ⟨_, _, hr, .inl ⟨hg, rfl, rfl⟩⟩
theorem sumR_form {h' : Heap} {xs ys : List Int} {r : Value} (hr : sumR h' xs ys r) : ∃ u e, r = .tuple #[u, .int .i64 e] ∧
    ((¬ (grs xs = true ∧ grs ys = true) ∧ u = .slice none 0 0 ∧ e = 2) ∨ ((grs xs = true ∧ grs ys = true) ∧ ¬ xs.length + ys.length ≤ 6 ∧ u = .slice none 0 0 ∧ e = 6) ∨ ((grs xs = true ∧ grs ys = true) ∧ xs.length + ys.length ≤ 6 ∧ IntSl h' u (sumL xs ys) ∧ e = 0)) := by
  unfold sumR at hr
  by_cases hg : grs xs = true ∧ grs ys = true
  · rw [if_pos hg] at hr
    by_cases hs : xs.length + ys.length ≤ 6
    · rw [if_pos hs] at hr
      obtain ⟨u, rfl, hu⟩ := hr
      exact ⟨_, _, rfl, .inr (.inr ⟨hg, hs, hu, rfl⟩)⟩
    · rw [if_neg hs] at hr; exact ⟨_, _, hr, .inr (.inl ⟨hg, hs, rfl, rfl⟩)⟩
  · rw [if_neg hg] at hr; exact ⟨_, _, hr, .inl ⟨hg, rfl, rfl⟩⟩

theorem joinL_len (xs ys : List Int) : (joinL xs ys).length = xs.length * ys.length := by rw [joinL, iL_len, mat_len]
theorem sumL_len (xs ys : List Int) : (sumL xs ys).length = xs.length + ys.length := by rw [sumL, sumTo_len]
theorem s6_callW [Tabs Tryd.prog] {args : List Value} {h : Heap} {Q : Value → Heap → Prop} (hsz : args.length ≤ 101) (hk : AWS Tryd.prog 101 s6 (aPost Tryd.prog [.tmp 4] Q) (argEnv 0 args) h) : ACall Tryd.prog 6 args h Q :=
  acall_w Tryd.func6 rfl (enters_of Tryd.func6 (by kernel_rfl) rfl) rfl rfl (by decide) s6_strip s6_ok hsz hk
theorem law_joins [BitTab prog 0] {h : Heap} {v w : Value} {xs ys : List Int} (hv : IntSl h v xs) (hl : xs.length < 9223372036854775808) (hx : ∀ x ∈ xs, -9223372036854775808 ≤ x ∧ x < 9223372036854775808)
    (hw : IntSl h w ys) (hl2 : ys.length < 9223372036854775808) (hx2 : ∀ x ∈ ys, -9223372036854775808 ≤ x ∧ x < 9223372036854775808) : ACall prog 6 [v, w] h fun r _ => r = .bool true := by
  have e22 : ((2 : Int) == 2) = true := rfl
  have e0 : ((0 : Int) == 0) = true := rfl
  have e66 : ((6 : Int) == 6) = true := rfl
  have n0 : ((0 : Int) != 0) = false := rfl
  have n6 : ((6 : Int) != 6) = false := rfl
  have a00 : addV .i64 0 0 = 0 := rfl
  have l0 : ∀ {K : Value → Prop}, lenK (.slice none 0 0) K = K (.int .i64 0) := fun {K} => rfl
  refine s6_callW (by simp) ?_
  simp only [s6]
  refine aws_cut fun N1 hN1 => ?_
  simp (config := {maxSteps := 2000000}) only [s6, ↓aw_region, ↓aw_skip, ↓aw_seq, ↓aw_block, ↓aw_exit, ↓aw_ret, ↓sops_nil, ↓sops_go, ↓dops_nil, ↓dopsX_nil, ↓dopsR_nil, ↓vdn, vup, extr_20, extr_21, extr_30, extr_31, extr_32, List.map_cons, List.map_nil, cond_true, cond_false, aop, aThen, aBlock, argEnv, ev, sput, sputO, binK, binI, unK, builtinK, pickK, Nat.reduceBEq, Nat.reduceAdd, Int.reduceBEq, Int.reduceBNe, Int.reduceLT, aPost, resK, tup, tyf]
  refine hN1 [(0, v), (1, w), (4, .bool false)] _ _ ?_ (by simp (config := {maxSteps := 2000000}) only [↓aw_region, ↓aw_skip, ↓aw_seq, ↓aw_block, ↓aw_exit, ↓aw_ret, ↓sops_nil, ↓sops_go, ↓dops_nil, ↓dopsX_nil, ↓dopsR_nil, ↓vdn, vup, extr_20, extr_21, extr_30, extr_31, extr_32, List.map_cons, List.map_nil, cond_true, cond_false, aop, aThen, aBlock, argEnv, ev, sput, sputO, binK, binI, unK, builtinK, pickK, Nat.reduceBEq, Nat.reduceAdd, Int.reduceBEq, Int.reduceBNe, Int.reduceLT, aPost, resK, tup, tyf])
  clear hN1
  try clear N1
  refine aws_cut fun N2 hN2 => ?_
  simp (config := {maxSteps := 2000000}) only [s6, ↓aw_region, ↓aw_skip, ↓aw_seq, ↓aw_block, ↓aw_exit, ↓aw_ret, ↓sops_nil, ↓sops_go, ↓dops_nil, ↓dopsX_nil, ↓dopsR_nil, ↓vdn, vup, extr_20, extr_21, extr_30, extr_31, extr_32, List.map_cons, List.map_nil, cond_true, cond_false, aop, aThen, aBlock, argEnv, ev, sput, sputO, binK, binI, unK, builtinK, pickK, Nat.reduceBEq, Nat.reduceAdd, Int.reduceBEq, Int.reduceBNe, Int.reduceLT, aPost, resK, tup, tyf, callK, List.nil_append, List.append_nil, List.toList_toArray, List.cons_append]
  refine (list_call hv hl).mono ?_
  rintro l1 _ ⟨hl1, g1, rfl⟩
  refine (list_call (hw.grow g1) hl2).mono ?_
  rintro l2 _ ⟨hm1, g2, rfl⟩
  refine (join_call (hl1.grow g2) (take80_len xs) (take80_rng hx) hm1 (take80_len ys) (take80_rng hx2)).mono ?_
  rintro r1 h1 ⟨hE1, hr1⟩
  obtain ⟨u1, e1, rfl, hc1⟩ := joinR_form (joinR_take hr1)
  simp (config := {maxSteps := 2000000}) only [s6, ↓aw_region, ↓aw_skip, ↓aw_seq, ↓aw_block, ↓aw_exit, ↓aw_ret, ↓sops_nil, ↓sops_go, ↓dops_nil, ↓dopsX_nil, ↓dopsR_nil, ↓vdn, vup, extr_20, extr_21, extr_30, extr_31, extr_32, List.map_cons, List.map_nil, cond_true, cond_false, aop, aThen, aBlock, argEnv, ev, sput, sputO, binK, binI, unK, builtinK, pickK, Nat.reduceBEq, Nat.reduceAdd, Int.reduceBEq, Int.reduceBNe, Int.reduceLT, aPost, resK, tup, tyf]
  refine hN2 [(0, v), (1, w), (4, .bool false), (5, u1), (6, .int .i64 e1)] _ _ ?_ (by simp (config := {maxSteps := 2000000}) only [↓aw_region, ↓aw_skip, ↓aw_seq, ↓aw_block, ↓aw_exit, ↓aw_ret, ↓sops_nil, ↓sops_go, ↓dops_nil, ↓dopsX_nil, ↓dopsR_nil, ↓vdn, vup, extr_20, extr_21, extr_30, extr_31, extr_32, List.map_cons, List.map_nil, cond_true, cond_false, aop, aThen, aBlock, argEnv, ev, sput, sputO, binK, binI, unK, builtinK, pickK, Nat.reduceBEq, Nat.reduceAdd, Int.reduceBEq, Int.reduceBNe, Int.reduceLT, aPost, resK, tup, tyf])
  clear hN2
  try clear N2
  have hE01 := ((Ext.app (fun _ => False) h g1).trans (Ext.app _ _ g2)).trans hE1
  have hv1 := IntSl_ext hv hE01
  have hw1 := IntSl_ext hw hE01
  clear hl1 hm1 hr1 hE1 hE01
  refine aws_cut fun N3 hN3 => ?_
  simp (config := {maxSteps := 2000000}) only [s6, ↓aw_region, ↓aw_skip, ↓aw_seq, ↓aw_block, ↓aw_exit, ↓aw_ret, ↓sops_nil, ↓sops_go, ↓dops_nil, ↓dopsX_nil, ↓dopsR_nil, ↓vdn, vup, extr_20, extr_21, extr_30, extr_31, extr_32, List.map_cons, List.map_nil, cond_true, cond_false, aop, aThen, aBlock, argEnv, ev, sput, sputO, binK, binI, unK, builtinK, pickK, Nat.reduceBEq, Nat.reduceAdd, Int.reduceBEq, Int.reduceBNe, Int.reduceLT, aPost, resK, tup, tyf, callK, List.nil_append, List.append_nil, List.toList_toArray, List.cons_append]
  refine (list_call hv1 hl).mono ?_
  rintro l3 _ ⟨hl3, g3, rfl⟩
  refine (list_call (hw1.grow g3) hl2).mono ?_
  rintro l4 _ ⟨hm3, g4, rfl⟩
  refine (sum_call (hl3.grow g4) (take80_len xs) (take80_rng hx) hm3 (take80_len ys) (take80_rng hx2)).mono ?_
  rintro r2 h2 ⟨hE2, hr2⟩
  obtain ⟨u2, e2, rfl, hc2⟩ := sumR_form (sumR_take hr2)
  simp (config := {maxSteps := 2000000}) only [s6, ↓aw_region, ↓aw_skip, ↓aw_seq, ↓aw_block, ↓aw_exit, ↓aw_ret, ↓sops_nil, ↓sops_go, ↓dops_nil, ↓dopsX_nil, ↓dopsR_nil, ↓vdn, vup, extr_20, extr_21, extr_30, extr_31, extr_32, List.map_cons, List.map_nil, cond_true, cond_false, aop, aThen, aBlock, argEnv, ev, sput, sputO, binK, binI, unK, builtinK, pickK, Nat.reduceBEq, Nat.reduceAdd, Int.reduceBEq, Int.reduceBNe, Int.reduceLT, aPost, resK, tup, tyf]
  refine hN3 [(0, v), (1, w), (4, .bool false), (5, u1), (6, .int .i64 e1), (7, u2), (8, .int .i64 e2)] _ _ ?_ (by simp (config := {maxSteps := 2000000}) only [↓aw_region, ↓aw_skip, ↓aw_seq, ↓aw_block, ↓aw_exit, ↓aw_ret, ↓sops_nil, ↓sops_go, ↓dops_nil, ↓dopsX_nil, ↓dopsR_nil, ↓vdn, vup, extr_20, extr_21, extr_30, extr_31, extr_32, List.map_cons, List.map_nil, cond_true, cond_false, aop, aThen, aBlock, argEnv, ev, sput, sputO, binK, binI, unK, builtinK, pickK, Nat.reduceBEq, Nat.reduceAdd, Int.reduceBEq, Int.reduceBNe, Int.reduceLT, aPost, resK, tup, tyf])
  clear hN3
  try clear N3
  have hE12 := ((Ext.app (fun _ => False) h1 g3).trans (Ext.app _ _ g4)).trans hE2
  have hv2 := IntSl_ext hv1 hE12
  have hw2 := IntSl_ext hw1 hE12
  clear hl3 hm3 hr2 hE2
  by_cases hok : grs xs = true ∧ grs ys = true
  · obtain ⟨hgx, hgy⟩ := hok
    have gx := grs_iff.1 hgx
    have gy := grs_iff.1 hgy
    have hb36 : xs.length * ys.length ≤ 6 * 6 := Nat.mul_le_mul gx.2.1 gy.2.1
    have hx6 := gx.2.1
    have hy6 := gy.2.1
    have hmul : mulV .i64 (xs.length : Int) (ys.length : Int) = ((xs.length * ys.length : Nat) : Int) := mulN (by omega)
    have hadd : addV .i64 (xs.length : Int) (ys.length : Int) = ((xs.length + ys.length : Nat) : Int) := by rw [addV_id (by omega) (by omega)]; omega
    refine aws_cut fun N4 hN4 => ?_
    simp (config := {maxSteps := 2000000}) only [s6, ↓aw_region, ↓aw_skip, ↓aw_seq, ↓aw_block, ↓aw_exit, ↓aw_ret, ↓sops_nil, ↓sops_go, ↓dops_nil, ↓dopsX_nil, ↓dopsR_nil, ↓vdn, vup, extr_20, extr_21, extr_30, extr_31, extr_32, List.map_cons, List.map_nil, cond_true, cond_false, aop, aThen, aBlock, argEnv, ev, sput, sputO, binK, binI, unK, builtinK, pickK, Nat.reduceBEq, Nat.reduceAdd, Int.reduceBEq, Int.reduceBNe, Int.reduceLT, aPost, resK, tup, tyf, callK, List.nil_append, List.append_nil, List.toList_toArray, List.cons_append]
    refine (rgraph_call hv2 hl hx).mono ?_
    rintro _ h2 ⟨rfl, rfl⟩
    simp (config := {maxSteps := 2000000}) only [s6, ↓aw_region, ↓aw_skip, ↓aw_seq, ↓aw_block, ↓aw_exit, ↓aw_ret, ↓sops_nil, ↓sops_go, ↓dops_nil, ↓dopsX_nil, ↓dopsR_nil, ↓vdn, vup, extr_20, extr_21, extr_30, extr_31, extr_32, List.map_cons, List.map_nil, cond_true, cond_false, aop, aThen, aBlock, argEnv, ev, sput, sputO, binK, binI, unK, builtinK, pickK, Nat.reduceBEq, Nat.reduceAdd, Int.reduceBEq, Int.reduceBNe, Int.reduceLT, aPost, resK, tup, tyf, callK, List.nil_append, List.append_nil, List.toList_toArray, List.cons_append, hgx, Bool.not_true]
    refine (rgraph_call hw2 hl2 hx2).mono ?_
    rintro _ h2 ⟨rfl, rfl⟩
    simp (config := {maxSteps := 2000000}) only [s6, ↓aw_region, ↓aw_skip, ↓aw_seq, ↓aw_block, ↓aw_exit, ↓aw_ret, ↓sops_nil, ↓sops_go, ↓dops_nil, ↓dopsX_nil, ↓dopsR_nil, ↓vdn, vup, extr_20, extr_21, extr_30, extr_31, extr_32, List.map_cons, List.map_nil, cond_true, cond_false, aop, aThen, aBlock, argEnv, ev, sput, sputO, binK, binI, unK, builtinK, pickK, Nat.reduceBEq, Nat.reduceAdd, Int.reduceBEq, Int.reduceBNe, Int.reduceLT, aPost, resK, tup, tyf, hgy, Bool.not_true]
    refine hN4 [(0, v), (1, w), (4, .bool false), (5, u1), (6, .int .i64 e1), (7, u2), (8, .int .i64 e2)] _ _ ?_ (by simp (config := {maxSteps := 2000000}) only [↓aw_region, ↓aw_skip, ↓aw_seq, ↓aw_block, ↓aw_exit, ↓aw_ret, ↓sops_nil, ↓sops_go, ↓dops_nil, ↓dopsX_nil, ↓dopsR_nil, ↓vdn, vup, extr_20, extr_21, extr_30, extr_31, extr_32, List.map_cons, List.map_nil, cond_true, cond_false, aop, aThen, aBlock, argEnv, ev, sput, sputO, binK, binI, unK, builtinK, pickK, Nat.reduceBEq, Nat.reduceAdd, Int.reduceBEq, Int.reduceBNe, Int.reduceLT, aPost, resK, tup, tyf])
    clear hN4
    try clear N4
    refine aws_cut fun M hM => ?_
    have go : ∀ H, Ext (fun _ => False) h2 H → ∀ e, ELe e [(0, v), (1, w), (4, .bool false), (7, u2), (8, .int .i64 e2)] → M e H := by
      intro H hEH e he
      refine hM [(0, v), (1, w), (4, .bool false), (7, u2), (8, .int .i64 e2)] _ _ ?_ he
      have hv3 := IntSl_ext hv2 hEH
      have hw3 := IntSl_ext hw2 hEH
      by_cases hs2 : xs.length + ys.length ≤ 6
      · have hng : ¬ (6 : Int) < ((xs.length + ys.length : Nat) : Int) := by omega
        obtain ⟨hu2, rfl⟩ : IntSl h2 u2 (sumL xs ys) ∧ e2 = 0 := by
          rcases hc2 with h | h | h
          · exact absurd ⟨hgx, hgy⟩ h.1
          · exact absurd hs2 h.2.1
          · exact h.2.2
        have hu3 := IntSl_ext hu2 hEH
        have hlen : (sumL xs ys).length < 9223372036854775808 := by rw [sumL_len]; omega
        have hd : decide (sumL xs ys = sumL xs ys) = true := decide_eq_true rfl
        refine aws_cut fun N5 hN5 => ?_
        simp (config := {maxSteps := 2000000}) only [s6, ↓aw_region, ↓aw_skip, ↓aw_seq, ↓aw_block, ↓aw_exit, ↓aw_ret, ↓sops_nil, ↓sops_go, ↓dops_nil, ↓dopsX_nil, ↓dopsR_nil, ↓vdn, vup, extr_20, extr_21, extr_30, extr_31, extr_32, List.map_cons, List.map_nil, cond_true, cond_false, aop, aThen, aBlock, argEnv, ev, sput, sputO, binK, binI, unK, builtinK, pickK, Nat.reduceBEq, Nat.reduceAdd, Int.reduceBEq, Int.reduceBNe, Int.reduceLT, aPost, resK, tup, tyf, hv3.len, hw3.len, hadd, gt_iff_lt, hng]
        refine hN5 [(0, v), (1, w), (4, .bool false), (7, u2), (8, .int .i64 0)] _ _ ?_ (by simp (config := {maxSteps := 2000000}) only [↓aw_region, ↓aw_skip, ↓aw_seq, ↓aw_block, ↓aw_exit, ↓aw_ret, ↓sops_nil, ↓sops_go, ↓dops_nil, ↓dopsX_nil, ↓dopsR_nil, ↓vdn, vup, extr_20, extr_21, extr_30, extr_31, extr_32, List.map_cons, List.map_nil, cond_true, cond_false, aop, aThen, aBlock, argEnv, ev, sput, sputO, binK, binI, unK, builtinK, pickK, Nat.reduceBEq, Nat.reduceAdd, Int.reduceBEq, Int.reduceBNe, Int.reduceLT, aPost, resK, tup, tyf])
        clear hN5
        try clear N5
        refine aw_aws ?_
        simp (config := {maxSteps := 2000000}) only [s6, ↓aw_region, ↓aw_skip, ↓aw_seq, ↓aw_block, ↓aw_exit, ↓aw_ret, ↓sops_nil, ↓sops_go, ↓dops_nil, ↓dopsX_nil, ↓dopsR_nil, ↓vdn, vup, extr_20, extr_21, extr_30, extr_31, extr_32, List.map_cons, List.map_nil, cond_true, cond_false, aop, aThen, aBlock, argEnv, ev, sput, sputO, binK, binI, unK, builtinK, pickK, Nat.reduceBEq, Nat.reduceAdd, Int.reduceBEq, Int.reduceBNe, Int.reduceLT, aPost, resK, tup, tyf, callK, List.nil_append, List.append_nil, List.toList_toArray, List.cons_append]
        refine (rsum_call hv3 hw3 gx gy).mono ?_
        rintro r5 h5 ⟨ho5, hE5⟩
        refine (equal_call (IntSl_ext hu3 hE5) ho5 hlen hlen).mono ?_
        rintro _ h5 ⟨rfl, rfl⟩
        simp (config := {maxSteps := 2000000}) only [s6, ↓aw_region, ↓aw_skip, ↓aw_seq, ↓aw_block, ↓aw_exit, ↓aw_ret, ↓sops_nil, ↓sops_go, ↓dops_nil, ↓dopsX_nil, ↓dopsR_nil, ↓vdn, vup, extr_20, extr_21, extr_30, extr_31, extr_32, List.map_cons, List.map_nil, cond_true, cond_false, aop, aThen, aBlock, argEnv, ev, sput, sputO, binK, binI, unK, builtinK, pickK, Nat.reduceBEq, Nat.reduceAdd, Int.reduceBEq, Int.reduceBNe, Int.reduceLT, aPost, resK, tup, tyf, callK, List.nil_append, List.append_nil, List.toList_toArray, List.cons_append, hd, e0]
        refine awk fun g _ => ?_
        simp (config := {maxSteps := 2000000}) only [s6, ↓aw_region, ↓aw_skip, ↓aw_seq, ↓aw_block, ↓aw_exit, ↓aw_ret, ↓sops_nil, ↓sops_go, ↓dops_nil, ↓dopsX_nil, ↓dopsR_nil, ↓vdn, vup, extr_20, extr_21, extr_30, extr_31, extr_32, List.map_cons, List.map_nil, cond_true, cond_false, aop, aThen, aBlock, argEnv, ev, sput, sputO, binK, binI, unK, builtinK, pickK, Nat.reduceBEq, Nat.reduceAdd, Int.reduceBEq, Int.reduceBNe, Int.reduceLT, aPost, resK, tup, tyf]
      · have hg6 : (6 : Int) < ((xs.length + ys.length : Nat) : Int) := by omega
        obtain ⟨rfl, rfl⟩ : u2 = .slice none 0 0 ∧ e2 = 6 := by
          rcases hc2 with h | h | h
          · exact absurd ⟨hgx, hgy⟩ h.1
          · exact h.2.2
          · exact absurd h.2.1 hs2
        refine aws_cut fun N6 hN6 => ?_
        simp (config := {maxSteps := 2000000}) only [s6, ↓aw_region, ↓aw_skip, ↓aw_seq, ↓aw_block, ↓aw_exit, ↓aw_ret, ↓sops_nil, ↓sops_go, ↓dops_nil, ↓dopsX_nil, ↓dopsR_nil, ↓vdn, vup, extr_20, extr_21, extr_30, extr_31, extr_32, List.map_cons, List.map_nil, cond_true, cond_false, aop, aThen, aBlock, argEnv, ev, sput, sputO, binK, binI, unK, builtinK, pickK, Nat.reduceBEq, Nat.reduceAdd, Int.reduceBEq, Int.reduceBNe, Int.reduceLT, aPost, resK, tup, tyf, callK, List.nil_append, List.append_nil, List.toList_toArray, List.cons_append, hv3.len, hw3.len, hadd, gt_iff_lt, hg6, l0, e0, e66]
        refine awk fun g _ => ?_
        simp (config := {maxSteps := 2000000}) only [s6, ↓aw_region, ↓aw_skip, ↓aw_seq, ↓aw_block, ↓aw_exit, ↓aw_ret, ↓sops_nil, ↓sops_go, ↓dops_nil, ↓dopsX_nil, ↓dopsR_nil, ↓vdn, vup, extr_20, extr_21, extr_30, extr_31, extr_32, List.map_cons, List.map_nil, cond_true, cond_false, aop, aThen, aBlock, argEnv, ev, sput, sputO, binK, binI, unK, builtinK, pickK, Nat.reduceBEq, Nat.reduceAdd, Int.reduceBEq, Int.reduceBNe, Int.reduceLT, aPost, resK, tup, tyf]
    by_cases hs1 : xs.length * ys.length ≤ 6
    · have hng : ¬ (6 : Int) < ((xs.length * ys.length : Nat) : Int) := by omega
      obtain ⟨hu1, rfl⟩ : IntSl h1 u1 (joinL xs ys) ∧ e1 = 0 := by
        rcases hc1 with h | h | h
        · exact absurd ⟨hgx, hgy⟩ h.1
        · exact absurd hs1 h.2.1
        · exact h.2.2
      have hu2 := IntSl_ext hu1 hE12
      have hlen : (joinL xs ys).length < 9223372036854775808 := by rw [joinL_len]; omega
      have hd : decide (joinL xs ys = joinL xs ys) = true := decide_eq_true rfl
      simp (config := {maxSteps := 2000000}) only [s6, ↓aw_region, ↓aw_skip, ↓aw_seq, ↓aw_block, ↓aw_exit, ↓aw_ret, ↓sops_nil, ↓sops_go, ↓dops_nil, ↓dopsX_nil, ↓dopsR_nil, ↓vdn, vup, extr_20, extr_21, extr_30, extr_31, extr_32, List.map_cons, List.map_nil, cond_true, cond_false, aop, aThen, aBlock, argEnv, ev, sput, sputO, binK, binI, unK, builtinK, pickK, Nat.reduceBEq, Nat.reduceAdd, Int.reduceBEq, Int.reduceBNe, Int.reduceLT, aPost, resK, tup, tyf, callK, List.nil_append, List.append_nil, List.toList_toArray, List.cons_append, hv2.len, hw2.len, hmul, gt_iff_lt, hng]
      refine (rjoin_call hv2 hw2 gx gy hs1).mono ?_
      rintro r5 h5 ⟨ho5, hE5⟩
      refine (equal_call (IntSl_ext hu2 hE5) ho5 hlen hlen).mono ?_
      rintro _ h5 ⟨rfl, rfl⟩
      simp (config := {maxSteps := 2000000}) only [s6, ↓aw_region, ↓aw_skip, ↓aw_seq, ↓aw_block, ↓aw_exit, ↓aw_ret, ↓sops_nil, ↓sops_go, ↓dops_nil, ↓dopsX_nil, ↓dopsR_nil, ↓vdn, vup, extr_20, extr_21, extr_30, extr_31, extr_32, List.map_cons, List.map_nil, cond_true, cond_false, aop, aThen, aBlock, argEnv, ev, sput, sputO, binK, binI, unK, builtinK, pickK, Nat.reduceBEq, Nat.reduceAdd, Int.reduceBEq, Int.reduceBNe, Int.reduceLT, aPost, resK, tup, tyf, hd, n0, Bool.not_true]
      exact go _ hE5 _ (by simp (config := {maxSteps := 2000000}) only [↓aw_region, ↓aw_skip, ↓aw_seq, ↓aw_block, ↓aw_exit, ↓aw_ret, ↓sops_nil, ↓sops_go, ↓dops_nil, ↓dopsX_nil, ↓dopsR_nil, ↓vdn, vup, extr_20, extr_21, extr_30, extr_31, extr_32, List.map_cons, List.map_nil, cond_true, cond_false, aop, aThen, aBlock, argEnv, ev, sput, sputO, binK, binI, unK, builtinK, pickK, Nat.reduceBEq, Nat.reduceAdd, Int.reduceBEq, Int.reduceBNe, Int.reduceLT, aPost, resK, tup, tyf])
    · have hg6 : (6 : Int) < ((xs.length * ys.length : Nat) : Int) := by omega
      obtain ⟨rfl, rfl⟩ : u1 = .slice none 0 0 ∧ e1 = 6 := by
        rcases hc1 with h | h | h
        · exact absurd ⟨hgx, hgy⟩ h.1
        · exact h.2.2
        · exact absurd h.2.1 hs1
      simp (config := {maxSteps := 2000000}) only [s6, ↓aw_region, ↓aw_skip, ↓aw_seq, ↓aw_block, ↓aw_exit, ↓aw_ret, ↓sops_nil, ↓sops_go, ↓dops_nil, ↓dopsX_nil, ↓dopsR_nil, ↓vdn, vup, extr_20, extr_21, extr_30, extr_31, extr_32, List.map_cons, List.map_nil, cond_true, cond_false, aop, aThen, aBlock, argEnv, ev, sput, sputO, binK, binI, unK, builtinK, pickK, Nat.reduceBEq, Nat.reduceAdd, Int.reduceBEq, Int.reduceBNe, Int.reduceLT, aPost, resK, tup, tyf, hv2.len, hw2.len, hmul, gt_iff_lt, hg6, l0, n0, n6]
      exact go _ (Ext.refl _ _) _ (by simp (config := {maxSteps := 2000000}) only [↓aw_region, ↓aw_skip, ↓aw_seq, ↓aw_block, ↓aw_exit, ↓aw_ret, ↓sops_nil, ↓sops_go, ↓dops_nil, ↓dopsX_nil, ↓dopsR_nil, ↓vdn, vup, extr_20, extr_21, extr_30, extr_31, extr_32, List.map_cons, List.map_nil, cond_true, cond_false, aop, aThen, aBlock, argEnv, ev, sput, sputO, binK, binI, unK, builtinK, pickK, Nat.reduceBEq, Nat.reduceAdd, Int.reduceBEq, Int.reduceBNe, Int.reduceLT, aPost, resK, tup, tyf])
  · obtain ⟨rfl, rfl⟩ : u1 = .slice none 0 0 ∧ e1 = 2 := by
      rcases hc1 with h | h | h
      · exact h.2
      · exact absurd h.1 hok
      · exact absurd h.1 hok
    obtain ⟨rfl, rfl⟩ : u2 = .slice none 0 0 ∧ e2 = 2 := by
      rcases hc2 with h | h | h
      · exact h.2
      · exact absurd h.1 hok
      · exact absurd h.1 hok
    refine aws_cut fun N7 hN7 => ?_
    simp (config := {maxSteps := 2000000}) only [s6, ↓aw_region, ↓aw_skip, ↓aw_seq, ↓aw_block, ↓aw_exit, ↓aw_ret, ↓sops_nil, ↓sops_go, ↓dops_nil, ↓dopsX_nil, ↓dopsR_nil, ↓vdn, vup, extr_20, extr_21, extr_30, extr_31, extr_32, List.map_cons, List.map_nil, cond_true, cond_false, aop, aThen, aBlock, argEnv, ev, sput, sputO, binK, binI, unK, builtinK, pickK, Nat.reduceBEq, Nat.reduceAdd, Int.reduceBEq, Int.reduceBNe, Int.reduceLT, aPost, resK, tup, tyf, callK, List.nil_append, List.append_nil, List.toList_toArray, List.cons_append]
    refine (rgraph_call hv2 hl hx).mono ?_
    rintro _ h2 ⟨rfl, rfl⟩
    cases hgx : grs xs with
    | false =>
      simp (config := {maxSteps := 2000000}) only [s6, ↓aw_region, ↓aw_skip, ↓aw_seq, ↓aw_block, ↓aw_exit, ↓aw_ret, ↓sops_nil, ↓sops_go, ↓dops_nil, ↓dopsX_nil, ↓dopsR_nil, ↓vdn, vup, extr_20, extr_21, extr_30, extr_31, extr_32, List.map_cons, List.map_nil, cond_true, cond_false, aop, aThen, aBlock, argEnv, ev, sput, sputO, binK, binI, unK, builtinK, pickK, Nat.reduceBEq, Nat.reduceAdd, Int.reduceBEq, Int.reduceBNe, Int.reduceLT, aPost, resK, tup, tyf, callK, List.nil_append, List.append_nil, List.toList_toArray, List.cons_append, hgx, Bool.not_false, l0, a00, e0, e22]
      refine awk fun g _ => ?_
      simp (config := {maxSteps := 2000000}) only [s6, ↓aw_region, ↓aw_skip, ↓aw_seq, ↓aw_block, ↓aw_exit, ↓aw_ret, ↓sops_nil, ↓sops_go, ↓dops_nil, ↓dopsX_nil, ↓dopsR_nil, ↓vdn, vup, extr_20, extr_21, extr_30, extr_31, extr_32, List.map_cons, List.map_nil, cond_true, cond_false, aop, aThen, aBlock, argEnv, ev, sput, sputO, binK, binI, unK, builtinK, pickK, Nat.reduceBEq, Nat.reduceAdd, Int.reduceBEq, Int.reduceBNe, Int.reduceLT, aPost, resK, tup, tyf]
    | true =>
      have hgy : grs ys = false := by
        cases h : grs ys with
        | false => rfl
        | true => exact absurd ⟨hgx, h⟩ hok
      simp (config := {maxSteps := 2000000}) only [s6, ↓aw_region, ↓aw_skip, ↓aw_seq, ↓aw_block, ↓aw_exit, ↓aw_ret, ↓sops_nil, ↓sops_go, ↓dops_nil, ↓dopsX_nil, ↓dopsR_nil, ↓vdn, vup, extr_20, extr_21, extr_30, extr_31, extr_32, List.map_cons, List.map_nil, cond_true, cond_false, aop, aThen, aBlock, argEnv, ev, sput, sputO, binK, binI, unK, builtinK, pickK, Nat.reduceBEq, Nat.reduceAdd, Int.reduceBEq, Int.reduceBNe, Int.reduceLT, aPost, resK, tup, tyf, callK, List.nil_append, List.append_nil, List.toList_toArray, List.cons_append, hgx, Bool.not_true]
      refine (rgraph_call hw2 hl2 hx2).mono ?_
      rintro _ h2 ⟨rfl, rfl⟩
      simp (config := {maxSteps := 2000000}) only [s6, ↓aw_region, ↓aw_skip, ↓aw_seq, ↓aw_block, ↓aw_exit, ↓aw_ret, ↓sops_nil, ↓sops_go, ↓dops_nil, ↓dopsX_nil, ↓dopsR_nil, ↓vdn, vup, extr_20, extr_21, extr_30, extr_31, extr_32, List.map_cons, List.map_nil, cond_true, cond_false, aop, aThen, aBlock, argEnv, ev, sput, sputO, binK, binI, unK, builtinK, pickK, Nat.reduceBEq, Nat.reduceAdd, Int.reduceBEq, Int.reduceBNe, Int.reduceLT, aPost, resK, tup, tyf, callK, List.nil_append, List.append_nil, List.toList_toArray, List.cons_append, hgy, Bool.not_false, l0, a00, e0, e22]
      refine awk fun g _ => ?_
      simp (config := {maxSteps := 2000000}) only [s6, ↓aw_region, ↓aw_skip, ↓aw_seq, ↓aw_block, ↓aw_exit, ↓aw_ret, ↓sops_nil, ↓sops_go, ↓dops_nil, ↓dopsX_nil, ↓dopsR_nil, ↓vdn, vup, extr_20, extr_21, extr_30, extr_31, extr_32, List.map_cons, List.map_nil, cond_true, cond_false, aop, aThen, aBlock, argEnv, ev, sput, sputO, binK, binI, unK, builtinK, pickK, Nat.reduceBEq, Nat.reduceAdd, Int.reduceBEq, Int.reduceBNe, Int.reduceLT, aPost, resK, tup, tyf]
end Go.Proofs.Tryd.Am

/-
  ranks: copies of slices: slices.Clone, the laws' own list.
-/
import Derived.Test.YtemmcfeekpblkaaDoorAmR
import Derived.Test.YtemmcfeekpblkaaDoorTypes
import Derived.Test.YtemmcfeekpblkaaDoorFnA
set_option linter.all false
namespace Go.Proofs.Tryd.Am
open Go.Am

set_option maxRecDepth 100000 in
theorem clone_call [Tabs prog] {h : Heap} {v : Value} {xs : List Int} (hv : IntSl h v xs) (hl : xs.length < 1099511627776) : ACall prog 46 [v] h fun r h' => IntSl h' r xs ∧ ∃ g, h' = h ++ g := by
  refine s46_call (by simp) ?_
  have hv' := hv
  rcases hv with ⟨rfl, rfl⟩ | ⟨b, o, sp, cap, c, e, ro, rfl, hc, hb, hx⟩
  · simp only [s46, ↓q46_0_aw, ↓q46_1_aw, ↓q46_2_aw, ↓q46_3_aw, ↓aw_skip, ↓aw_seq, ↓aw_block, ↓aw_exit, ↓aw_ret, ↓aw_cond_true, ↓aw_cond_false, ↓sops_nil, ↓sops_pick_t, ↓sops_pick_f, ↓sops_go, isPick_no, ↓dops_nil, ↓dops_load, ↓dops_0, worldless_yes, ↓dopsX_nil, ↓dopsX_load, ↓dopsX_call, ↓dopsX_len, ↓dopsX_min, ↓dopsX_max, ↓dopsX_0, ↓dopsX_lit, ↓dopsX_app, ↓dopsX_store, ↓dopsX_alloc, ↓dopsX_box, ↓dopsX_make, ↓dopsX_take, ↓dopsX_pass, piv_nil, piv_cons, quiet_nil, quiet_cons, ↓sops_take', ↓sops_pass, ↓sops_skip, ↓dopsX_skip, aop, aThen, aBlock, argEnv, ev, sget_nil', sget_cons', sput, sputO, binK, binI, unK, builtinK, pickK, List.map_cons, List.map_nil, Nat.reduceBEq, Nat.reduceAdd, Int.reduceBEq, Int.reduceBNe, Int.reduceLT, cond_true, cond_false, true_and, and_true, Bool.not_true, Bool.not_false, aPost, resK, tup, Int.natCast_nonneg, decide_true, decide_false, extr_20, extr_21, extr_30, extr_31, extr_32, ele_nil, ele_cons, app_22_22, el_22, el_55, esz_22, esz_27, esz_3, esz_55, isl_22, isl_55, shp_22, shp_27, shp_3, shp_4, shp_55, shp_79, und_22, und_3, und_4, und_53, und_55, und_87, und_89, zero_22, zero_3, zero_4, zero_55, zero_79, Option.isSome_some]
    exact ⟨.inl ⟨rfl, rfl⟩, [], by rw [List.append_nil]⟩
  · simp only [s46, ↓q46_0_aw, ↓q46_1_aw, ↓q46_2_aw, ↓q46_3_aw, ↓aw_skip, ↓aw_seq, ↓aw_block, ↓aw_exit, ↓aw_ret, ↓aw_cond_true, ↓aw_cond_false, ↓sops_nil, ↓sops_pick_t, ↓sops_pick_f, ↓sops_go, isPick_no, ↓dops_nil, ↓dops_load, ↓dops_0, worldless_yes, ↓dopsX_nil, ↓dopsX_load, ↓dopsX_call, ↓dopsX_len, ↓dopsX_min, ↓dopsX_max, ↓dopsX_0, ↓dopsX_lit, ↓dopsX_app, ↓dopsX_store, ↓dopsX_alloc, ↓dopsX_box, ↓dopsX_make, ↓dopsX_take, ↓dopsX_pass, piv_nil, piv_cons, quiet_nil, quiet_cons, ↓sops_take', ↓sops_pass, ↓sops_skip, ↓dopsX_skip, aop, aThen, aBlock, argEnv, ev, sget_nil', sget_cons', sput, sputO, binK, binI, unK, builtinK, pickK, List.map_cons, List.map_nil, Nat.reduceBEq, Nat.reduceAdd, Int.reduceBEq, Int.reduceBNe, Int.reduceLT, cond_true, cond_false, true_and, and_true, Bool.not_true, Bool.not_false, aPost, resK, tup, Int.natCast_nonneg, decide_true, decide_false, extr_20, extr_21, extr_30, extr_31, extr_32, ele_nil, ele_cons, app_22_22, el_22, el_55, esz_22, esz_27, esz_3, esz_55, isl_22, isl_55, shp_22, shp_27, shp_3, shp_4, shp_55, shp_79, und_22, und_3, und_4, und_53, und_55, und_87, und_89, zero_22, zero_3, zero_4, zero_55, zero_79, Option.isSome_some]
    simp only [buildSliceK, el_22, zero_3, esz_3, reps, fillL, mkb, intsOf]
    refine And.intro rfl (And.intro Nat.zero_lt_one (And.intro (Nat.zero_le _) ?_))
    refine (hv'.grow [.ints [] 3 false]).copy app_22_22 hl (by rw [List.getElem?_append_right (Nat.le_refl _)]; simp) ?_
    intro r g hr _
    exact ⟨hr, _, List.append_assoc _ _ _⟩

theorem min11 (n : Nat) : (if (11 : Int) < n then 11 else (n : Int)) = ((min n 11 : Nat) : Int) := by split <;> omega

theorem list_call [Tabs prog] {h : Heap} {v : Value} {xs : List Int} (hv : IntSl h v xs) (hl : xs.length < 9223372036854775808) : ACall prog 19 [v] h fun r h' => IntSl h' r (xs.take 11) ∧ ∃ g, h' = h ++ g := by
  refine s19_call (by simp) ?_
  simp only [s19, ↓q19_0_aw, ↓q19_1_aw, ↓aw_skip, ↓aw_seq, ↓aw_block, ↓aw_exit, ↓aw_ret, ↓aw_cond_true, ↓aw_cond_false, ↓sops_nil, ↓sops_pick_t, ↓sops_pick_f, ↓sops_go, isPick_no, ↓dops_nil, ↓dops_load, ↓dops_0, worldless_yes, ↓dopsX_nil, ↓dopsX_load, ↓dopsX_call, ↓dopsX_len, ↓dopsX_min, ↓dopsX_max, ↓dopsX_0, ↓dopsX_lit, ↓dopsX_app, ↓dopsX_store, ↓dopsX_alloc, ↓dopsX_box, ↓dopsX_make, ↓dopsX_take, ↓dopsX_pass, piv_nil, piv_cons, quiet_nil, quiet_cons, ↓sops_take', ↓sops_pass, ↓sops_skip, ↓dopsX_skip, aop, aThen, aBlock, argEnv, ev, sget_nil', sget_cons', sput, sputO, binK, binI, unK, builtinK, pickK, List.map_cons, List.map_nil, Nat.reduceBEq, Nat.reduceAdd, Int.reduceBEq, Int.reduceBNe, Int.reduceLT, cond_true, cond_false, true_and, and_true, Bool.not_true, Bool.not_false, aPost, resK, tup, Int.natCast_nonneg, decide_true, decide_false, extr_20, extr_21, extr_30, extr_31, extr_32, ele_nil, ele_cons, app_22_22, el_22, el_55, esz_22, esz_27, esz_3, esz_55, isl_22, isl_55, shp_22, shp_27, shp_3, shp_4, shp_55, shp_79, und_22, und_3, und_4, und_53, und_55, und_87, und_89, zero_22, zero_3, zero_4, zero_55, zero_79, hv.len, mmK, Bool.false_eq_true, if_false, gt_iff_lt, min11, Option.map_none, Option.map_some]
  refine hv.pre el_22 esz_3 (Nat.min_le_left _ _) ?_
  intro v' hv'
  have e : xs.take (min xs.length 11) = xs.take 11 := by
    by_cases h : xs.length ≤ 11
    · rw [Nat.min_eq_left h, List.take_length, List.take_of_length_le h]
    · rw [Nat.min_eq_right (by omega)]
  rw [e] at hv'
  simp only [↓aw_skip, ↓aw_seq, ↓aw_block, ↓aw_exit, ↓aw_ret, ↓aw_cond_true, ↓aw_cond_false, ↓sops_nil, ↓sops_pick_t, ↓sops_pick_f, ↓sops_go, isPick_no, ↓dops_nil, ↓dops_load, ↓dops_0, worldless_yes, ↓dopsX_nil, ↓dopsX_load, ↓dopsX_call, ↓dopsX_len, ↓dopsX_min, ↓dopsX_max, ↓dopsX_0, ↓dopsX_lit, ↓dopsX_app, ↓dopsX_store, ↓dopsX_alloc, ↓dopsX_box, ↓dopsX_make, ↓dopsX_take, ↓dopsX_pass, piv_nil, piv_cons, quiet_nil, quiet_cons, ↓sops_take', ↓sops_pass, ↓sops_skip, ↓dopsX_skip, aop, aThen, aBlock, argEnv, ev, sget_nil', sget_cons', sput, sputO, binK, binI, unK, builtinK, pickK, List.map_cons, List.map_nil, Nat.reduceBEq, Nat.reduceAdd, Int.reduceBEq, Int.reduceBNe, Int.reduceLT, cond_true, cond_false, true_and, and_true, Bool.not_true, Bool.not_false, aPost, resK, tup, Int.natCast_nonneg, decide_true, decide_false, extr_20, extr_21, extr_30, extr_31, extr_32, ele_nil, ele_cons, app_22_22, el_22, el_55, esz_22, esz_27, esz_3, esz_55, isl_22, isl_55, shp_22, shp_27, shp_3, shp_4, shp_55, shp_79, und_22, und_3, und_4, und_53, und_55, und_87, und_89, zero_22, zero_3, zero_4, zero_55, zero_79, callK, List.nil_append, List.append_nil]
  exact clone_call hv' (by simp; omega)
end Go.Proofs.Tryd.Am

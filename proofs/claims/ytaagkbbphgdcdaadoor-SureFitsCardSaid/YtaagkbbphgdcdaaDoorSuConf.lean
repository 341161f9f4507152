/-
  sure: words that are confused, as the program and as the reference ask; how many words there are.
-/
import Derived.Test.YtaagkbbphgdcdaaDoorSuValid
set_option linter.all false
namespace Go.Proofs.Tryd.Am
open Go.Am Sr
set_option maxRecDepth 100000
set_option maxHeartbeats 1000000

theorem tmodN (x y : Nat) : ((x : Nat) : Int).tmod ((y : Nat) : Int) = ((x % y : Nat) : Int) := by
  rw [Int.tmod_eq_emod_of_nonneg (by omega)]; rfl
theorem quoN {x y : Nat} (hx : x < 9223372036854775808) : quoV .i64 ((x : Nat) : Int) ((y : Nat) : Int) = ((x / y : Nat) : Int) := by
  have e : ((x : Nat) : Int).tdiv ((y : Nat) : Int) = ((x / y : Nat) : Int) := by
    rw [Int.tdiv_eq_ediv_of_nonneg (by omega)]; rfl
  have h1 := Nat.div_le_self x y
  rw [quoV, e]
  generalize x / y = z at h1
  exact wrap_id (by omega) (by omega)
theorem bneN {a b : Nat} : (((a : Nat) : Int) != ((b : Nat) : Int)) = !(a == b) := by
  rw [Bool.eq_iff_iff, bne_iff_ne, Bool.not_eq_true', beq_eq_false_iff_ne]; omega

theorem confused_call [Tabs prog] {h : Heap} {v : Value} {xs : List Int} (hv : IntSl h v xs) (g : Gs xs) {a b k : Nat} (ha : a < 9223372036854775808) (hb : b < 9223372036854775808) (hk : k < 9223372036854775807) : APure prog 77 [v, vint a, vint b, vint k] h (.bool (cf xs k a b)) := by
  have h0 : 0 < xs.length := g.1
  have hn0 : ¬ ((xs.length : Nat) : Int) = 0 := by omega
  refine s77_call (by simp) ?_
  simp (config := {maxSteps := 2000000}) only [s77, ↓aw_region, ↓aw_skip, ↓aw_seq, ↓aw_block, ↓aw_exit, ↓aw_ret, ↓sops_nil, ↓sops_go, ↓dops_nil, ↓dopsX_nil, ↓dopsR_nil, ↓vdn, vup, extr_20, extr_21, extr_30, extr_31, extr_32, List.map_cons, List.map_nil, cond_true, cond_false, aop, aThen, aBlock, argEnv, ev, sput, sputO, binK, binI, unK, builtinK, pickK, Nat.reduceBEq, Nat.reduceAdd, Int.reduceBEq, Int.reduceBNe, Int.reduceLT, aPost, resK, tup, tyf, ↓aw_loop_eq]
  refine aws_hide fun Q hQ => ?_
  refine aw_loop (γ := Nat × Nat × Nat) (fun s => s.1 ≤ k ∧ s.2.1 < 9223372036854775808 ∧ s.2.2 < 9223372036854775808 ∧ cf xs k a b = cf xs (k - s.1) s.2.1 s.2.2)
    (fun s => ([(0, v), (1, vint s.2.1), (2, vint s.2.2), (3, vint k), (8, .bool false), (11, vint k), (12, vint s.1)], h)) (fun s => k - s.1) (0, a, b) ⟨Nat.zero_le _, ha, hb, rfl⟩ (by simp (config := {maxSteps := 2000000}) only [↓aw_region, ↓aw_skip, ↓aw_seq, ↓aw_block, ↓aw_exit, ↓aw_ret, ↓sops_nil, ↓sops_go, ↓dops_nil, ↓dopsX_nil, ↓dopsR_nil, ↓vdn, vup, extr_20, extr_21, extr_30, extr_31, extr_32, List.map_cons, List.map_nil, cond_true, cond_false, aop, aThen, aBlock, argEnv, ev, sput, sputO, binK, binI, unK, builtinK, pickK, Nat.reduceBEq, Nat.reduceAdd, Int.reduceBEq, Int.reduceBNe, Int.reduceLT, aPost, resK, tup, tyf, Int.natCast_zero]) rfl ?_
  rintro ⟨i, x, y⟩ ⟨hi, hx, hy, he⟩
  simp only at hi hx hy he
  refine aw_hide fun Q2 hQ2 => ?_
  by_cases hin : (i : Int) < k
  · have hi' : i < k := by omega
    have ek : k - i = (k - (i + 1)) + 1 := by omega
    rw [ek, cf] at he
    have hxm : x % xs.length < xs.length := Nat.mod_lt _ h0
    have hr := gs_lt g hxm
    have tt : ∀ j : Nat, bitsV .and .i64 (shrV .i64 (xs.getD (x % xs.length) 0) j) 1 = if gb xs (x % xs.length) j then 1 else 0 := fun j => testI hr.1 (by omega) j
    have hx2 : x / xs.length < 9223372036854775808 := Nat.lt_of_le_of_lt (Nat.div_le_self _ _) hx
    have hy2 : y / xs.length < 9223372036854775808 := Nat.lt_of_le_of_lt (Nat.div_le_self _ _) hy
    simp (config := {maxSteps := 2000000}) only [s77, ↓aw_region, ↓aw_skip, ↓aw_seq, ↓aw_block, ↓aw_exit, ↓aw_ret, ↓sops_nil, ↓sops_go, ↓dops_nil, ↓dopsX_nil, ↓dopsR_nil, ↓vdn, vup, extr_20, extr_21, extr_30, extr_31, extr_32, List.map_cons, List.map_nil, cond_true, cond_false, aop, aThen, aBlock, argEnv, ev, sput, sputO, binK, binI, unK, builtinK, pickK, Nat.reduceBEq, Nat.reduceAdd, Int.reduceBEq, Int.reduceBNe, Int.reduceLT, aPost, resK, tup, tyf, l77_0, hin]
    refine aw_drawX [] (by kernel_rfl) (by kernel_rfl) (by kernel_rfl) (by kernel_rfl) ?_
    cases hm : (x % xs.length == y % xs.length) with
    | true =>
      rw [hm, Bool.true_or, Bool.true_and] at he
      simp (config := {maxSteps := 2000000}) only [s77, ↓aw_region, ↓aw_skip, ↓aw_seq, ↓aw_block, ↓aw_exit, ↓aw_ret, ↓sops_nil, ↓sops_go, ↓dops_nil, ↓dopsX_nil, ↓dopsR_nil, ↓vdn, vup, extr_20, extr_21, extr_30, extr_31, extr_32, List.map_cons, List.map_nil, cond_true, cond_false, aop, aThen, aBlock, argEnv, ev, sput, sputO, binK, binI, unK, builtinK, pickK, Nat.reduceBEq, Nat.reduceAdd, Int.reduceBEq, Int.reduceBNe, Int.reduceLT, aPost, resK, tup, tyf, hv.len, ne_eq, hn0, not_false_eq_true, tmodN, bneN, hm, Bool.not_true]
      refine aw_drawX [] (by kernel_rfl) (by kernel_rfl) (by kernel_rfl) (by kernel_rfl) ?_
      simp (config := {maxSteps := 2000000}) only [s77, ↓aw_region, ↓aw_skip, ↓aw_seq, ↓aw_block, ↓aw_exit, ↓aw_ret, ↓sops_nil, ↓sops_go, ↓dops_nil, ↓dopsX_nil, ↓dopsR_nil, ↓vdn, vup, extr_20, extr_21, extr_30, extr_31, extr_32, List.map_cons, List.map_nil, cond_true, cond_false, aop, aThen, aBlock, argEnv, ev, sput, sputO, binK, binI, unK, builtinK, pickK, Nat.reduceBEq, Nat.reduceAdd, Int.reduceBEq, Int.reduceBNe, Int.reduceLT, aPost, resK, tup, tyf, hv.len, ne_eq, hn0, not_false_eq_true, quoN hx, quoN hy, add1 (show i < 9223372036854775807 by omega)]
      exact hQ2 _ _ _ ⟨(i + 1, x / xs.length, y / xs.length), ⟨by simp only; omega, hx2, hy2, he⟩, by simp only; omega, by simp (config := {maxSteps := 2000000}) only [↓aw_region, ↓aw_skip, ↓aw_seq, ↓aw_block, ↓aw_exit, ↓aw_ret, ↓sops_nil, ↓sops_go, ↓dops_nil, ↓dopsX_nil, ↓dopsR_nil, ↓vdn, vup, extr_20, extr_21, extr_30, extr_31, extr_32, List.map_cons, List.map_nil, cond_true, cond_false, aop, aThen, aBlock, argEnv, ev, sput, sputO, binK, binI, unK, builtinK, pickK, Nat.reduceBEq, Nat.reduceAdd, Int.reduceBEq, Int.reduceBNe, Int.reduceLT, aPost, resK, tup, tyf], rfl⟩
    | false =>
      rw [hm, Bool.false_or] at he
      cases ht : gb xs (x % xs.length) (y % xs.length) with
      | true =>
        rw [ht, Bool.true_and] at he
        simp (config := {maxSteps := 2000000}) only [s77, ↓aw_region, ↓aw_skip, ↓aw_seq, ↓aw_block, ↓aw_exit, ↓aw_ret, ↓sops_nil, ↓sops_go, ↓dops_nil, ↓dopsX_nil, ↓dopsR_nil, ↓vdn, vup, extr_20, extr_21, extr_30, extr_31, extr_32, List.map_cons, List.map_nil, cond_true, cond_false, aop, aThen, aBlock, argEnv, ev, sput, sputO, binK, binI, unK, builtinK, pickK, Nat.reduceBEq, Nat.reduceAdd, Int.reduceBEq, Int.reduceBNe, Int.reduceLT, aPost, resK, tup, tyf, hv.len, ne_eq, hn0, not_false_eq_true, tmodN, bneN, hm, Bool.not_false, hv.idx el_56 esz_3 hxm, hv.load shp_3 hxm, Int.natCast_nonneg, tt, ht, if_true, if_false, Bool.false_eq_true]
        refine aw_drawX [] (by kernel_rfl) (by kernel_rfl) (by kernel_rfl) (by kernel_rfl) ?_
        simp (config := {maxSteps := 2000000}) only [s77, ↓aw_region, ↓aw_skip, ↓aw_seq, ↓aw_block, ↓aw_exit, ↓aw_ret, ↓sops_nil, ↓sops_go, ↓dops_nil, ↓dopsX_nil, ↓dopsR_nil, ↓vdn, vup, extr_20, extr_21, extr_30, extr_31, extr_32, List.map_cons, List.map_nil, cond_true, cond_false, aop, aThen, aBlock, argEnv, ev, sput, sputO, binK, binI, unK, builtinK, pickK, Nat.reduceBEq, Nat.reduceAdd, Int.reduceBEq, Int.reduceBNe, Int.reduceLT, aPost, resK, tup, tyf, hv.len, ne_eq, hn0, not_false_eq_true, quoN hx, quoN hy, add1 (show i < 9223372036854775807 by omega)]
        exact hQ2 _ _ _ ⟨(i + 1, x / xs.length, y / xs.length), ⟨by simp only; omega, hx2, hy2, he⟩, by simp only; omega, by simp (config := {maxSteps := 2000000}) only [↓aw_region, ↓aw_skip, ↓aw_seq, ↓aw_block, ↓aw_exit, ↓aw_ret, ↓sops_nil, ↓sops_go, ↓dops_nil, ↓dopsX_nil, ↓dopsR_nil, ↓vdn, vup, extr_20, extr_21, extr_30, extr_31, extr_32, List.map_cons, List.map_nil, cond_true, cond_false, aop, aThen, aBlock, argEnv, ev, sput, sputO, binK, binI, unK, builtinK, pickK, Nat.reduceBEq, Nat.reduceAdd, Int.reduceBEq, Int.reduceBNe, Int.reduceLT, aPost, resK, tup, tyf], rfl⟩
      | false =>
        rw [ht, Bool.false_and] at he
        simp (config := {maxSteps := 2000000}) only [s77, ↓aw_region, ↓aw_skip, ↓aw_seq, ↓aw_block, ↓aw_exit, ↓aw_ret, ↓sops_nil, ↓sops_go, ↓dops_nil, ↓dopsX_nil, ↓dopsR_nil, ↓vdn, vup, extr_20, extr_21, extr_30, extr_31, extr_32, List.map_cons, List.map_nil, cond_true, cond_false, aop, aThen, aBlock, argEnv, ev, sput, sputO, binK, binI, unK, builtinK, pickK, Nat.reduceBEq, Nat.reduceAdd, Int.reduceBEq, Int.reduceBNe, Int.reduceLT, aPost, resK, tup, tyf, hv.len, ne_eq, hn0, not_false_eq_true, tmodN, bneN, hm, Bool.not_false, hv.idx el_56 esz_3 hxm, hv.load shp_3 hxm, Int.natCast_nonneg, tt, ht, if_true, if_false, Bool.false_eq_true]
        refine hQ2 _ _ _ (hQ _ _ _ ?_)
        simp (config := {maxSteps := 2000000}) only [s77, ↓aw_region, ↓aw_skip, ↓aw_seq, ↓aw_block, ↓aw_exit, ↓aw_ret, ↓sops_nil, ↓sops_go, ↓dops_nil, ↓dopsX_nil, ↓dopsR_nil, ↓vdn, vup, extr_20, extr_21, extr_30, extr_31, extr_32, List.map_cons, List.map_nil, cond_true, cond_false, aop, aThen, aBlock, argEnv, ev, sput, sputO, binK, binI, unK, builtinK, pickK, Nat.reduceBEq, Nat.reduceAdd, Int.reduceBEq, Int.reduceBNe, Int.reduceLT, aPost, resK, tup, tyf, he]
  · obtain rfl : i = k := by omega
    rw [Nat.sub_self, cf] at he
    simp (config := {maxSteps := 2000000}) only [s77, ↓aw_region, ↓aw_skip, ↓aw_seq, ↓aw_block, ↓aw_exit, ↓aw_ret, ↓sops_nil, ↓sops_go, ↓dops_nil, ↓dopsX_nil, ↓dopsR_nil, ↓vdn, vup, extr_20, extr_21, extr_30, extr_31, extr_32, List.map_cons, List.map_nil, cond_true, cond_false, aop, aThen, aBlock, argEnv, ev, sput, sputO, binK, binI, unK, builtinK, pickK, Nat.reduceBEq, Nat.reduceAdd, Int.reduceBEq, Int.reduceBNe, Int.reduceLT, aPost, resK, tup, tyf, l77_0, Int.lt_irrefl]
    refine hQ2 _ _ _ (hQ _ _ _ ?_)
    simp (config := {maxSteps := 2000000}) only [s77, ↓aw_region, ↓aw_skip, ↓aw_seq, ↓aw_block, ↓aw_exit, ↓aw_ret, ↓sops_nil, ↓sops_go, ↓dops_nil, ↓dopsX_nil, ↓dopsR_nil, ↓vdn, vup, extr_20, extr_21, extr_30, extr_31, extr_32, List.map_cons, List.map_nil, cond_true, cond_false, aop, aThen, aBlock, argEnv, ev, sput, sputO, binK, binI, unK, builtinK, pickK, Nat.reduceBEq, Nat.reduceAdd, Int.reduceBEq, Int.reduceBNe, Int.reduceLT, aPost, resK, tup, tyf, if_true, he]

theorem near_call [Tabs prog] {h : Heap} {v : Value} {xs : List Int} (hv : IntSl h v xs) (g : Gs xs) {a b k : Nat} (ha : a < 9223372036854775808) (hb : b < 9223372036854775808) (hk : k < 9223372036854775807) : APure prog 54 [v, vint k, vint a, vint b] h (.bool (cf xs k a b)) := by
  have h0 : 0 < xs.length := g.1
  have hn0 : ¬ ((xs.length : Nat) : Int) = 0 := by omega
  refine s54_call (by simp) ?_
  simp (config := {maxSteps := 2000000}) only [s54, ↓aw_region, ↓aw_skip, ↓aw_seq, ↓aw_block, ↓aw_exit, ↓aw_ret, ↓sops_nil, ↓sops_go, ↓dops_nil, ↓dopsX_nil, ↓dopsR_nil, ↓vdn, vup, extr_20, extr_21, extr_30, extr_31, extr_32, List.map_cons, List.map_nil, cond_true, cond_false, aop, aThen, aBlock, argEnv, ev, sput, sputO, binK, binI, unK, builtinK, pickK, Nat.reduceBEq, Nat.reduceAdd, Int.reduceBEq, Int.reduceBNe, Int.reduceLT, aPost, resK, tup, tyf, ↓aw_loop_eq]
  refine aws_hide fun Q hQ => ?_
  refine aw_loop (γ := Nat × Nat × Nat) (fun s => s.1 ≤ k ∧ s.2.1 < 9223372036854775808 ∧ s.2.2 < 9223372036854775808 ∧ cf xs k a b = cf xs (k - s.1) s.2.1 s.2.2)
    (fun s => ([(0, v), (1, vint k), (2, vint s.2.1), (3, vint s.2.2), (8, .bool false), (11, vint k), (12, vint s.1)], h)) (fun s => k - s.1) (0, a, b) ⟨Nat.zero_le _, ha, hb, rfl⟩ (by simp (config := {maxSteps := 2000000}) only [↓aw_region, ↓aw_skip, ↓aw_seq, ↓aw_block, ↓aw_exit, ↓aw_ret, ↓sops_nil, ↓sops_go, ↓dops_nil, ↓dopsX_nil, ↓dopsR_nil, ↓vdn, vup, extr_20, extr_21, extr_30, extr_31, extr_32, List.map_cons, List.map_nil, cond_true, cond_false, aop, aThen, aBlock, argEnv, ev, sput, sputO, binK, binI, unK, builtinK, pickK, Nat.reduceBEq, Nat.reduceAdd, Int.reduceBEq, Int.reduceBNe, Int.reduceLT, aPost, resK, tup, tyf, Int.natCast_zero]) rfl ?_
  rintro ⟨i, x, y⟩ ⟨hi, hx, hy, he⟩
  simp only at hi hx hy he
  refine aw_hide fun Q2 hQ2 => ?_
  by_cases hin : (i : Int) < k
  · have hi' : i < k := by omega
    have ek : k - i = (k - (i + 1)) + 1 := by omega
    rw [ek, cf] at he
    have hxm : x % xs.length < xs.length := Nat.mod_lt _ h0
    have hr := gs_lt g hxm
    have tt : ∀ j : Nat, bitsV .and .i64 (shrV .i64 (xs.getD (x % xs.length) 0) j) 1 = if gb xs (x % xs.length) j then 1 else 0 := fun j => testI hr.1 (by omega) j
    have hx2 : x / xs.length < 9223372036854775808 := Nat.lt_of_le_of_lt (Nat.div_le_self _ _) hx
    have hy2 : y / xs.length < 9223372036854775808 := Nat.lt_of_le_of_lt (Nat.div_le_self _ _) hy
    simp (config := {maxSteps := 2000000}) only [s54, ↓aw_region, ↓aw_skip, ↓aw_seq, ↓aw_block, ↓aw_exit, ↓aw_ret, ↓sops_nil, ↓sops_go, ↓dops_nil, ↓dopsX_nil, ↓dopsR_nil, ↓vdn, vup, extr_20, extr_21, extr_30, extr_31, extr_32, List.map_cons, List.map_nil, cond_true, cond_false, aop, aThen, aBlock, argEnv, ev, sput, sputO, binK, binI, unK, builtinK, pickK, Nat.reduceBEq, Nat.reduceAdd, Int.reduceBEq, Int.reduceBNe, Int.reduceLT, aPost, resK, tup, tyf, l54_0, hin]
    refine aw_drawX [] (by kernel_rfl) (by kernel_rfl) (by kernel_rfl) (by kernel_rfl) ?_
    cases hm : (x % xs.length == y % xs.length) with
    | true =>
      rw [hm, Bool.true_or, Bool.true_and] at he
      simp (config := {maxSteps := 2000000}) only [s54, ↓aw_region, ↓aw_skip, ↓aw_seq, ↓aw_block, ↓aw_exit, ↓aw_ret, ↓sops_nil, ↓sops_go, ↓dops_nil, ↓dopsX_nil, ↓dopsR_nil, ↓vdn, vup, extr_20, extr_21, extr_30, extr_31, extr_32, List.map_cons, List.map_nil, cond_true, cond_false, aop, aThen, aBlock, argEnv, ev, sput, sputO, binK, binI, unK, builtinK, pickK, Nat.reduceBEq, Nat.reduceAdd, Int.reduceBEq, Int.reduceBNe, Int.reduceLT, aPost, resK, tup, tyf, hv.len, ne_eq, hn0, not_false_eq_true, tmodN, bneN, hm, Bool.not_true, quoN hx, quoN hy, add1 (show i < 9223372036854775807 by omega)]
      exact hQ2 _ _ _ ⟨(i + 1, x / xs.length, y / xs.length), ⟨by simp only; omega, hx2, hy2, he⟩, by simp only; omega, by simp (config := {maxSteps := 2000000}) only [↓aw_region, ↓aw_skip, ↓aw_seq, ↓aw_block, ↓aw_exit, ↓aw_ret, ↓sops_nil, ↓sops_go, ↓dops_nil, ↓dopsX_nil, ↓dopsR_nil, ↓vdn, vup, extr_20, extr_21, extr_30, extr_31, extr_32, List.map_cons, List.map_nil, cond_true, cond_false, aop, aThen, aBlock, argEnv, ev, sput, sputO, binK, binI, unK, builtinK, pickK, Nat.reduceBEq, Nat.reduceAdd, Int.reduceBEq, Int.reduceBNe, Int.reduceLT, aPost, resK, tup, tyf], rfl⟩
    | false =>
      rw [hm, Bool.false_or] at he
      cases ht : gb xs (x % xs.length) (y % xs.length) with
      | true =>
        rw [ht, Bool.true_and] at he
        simp (config := {maxSteps := 2000000}) only [s54, ↓aw_region, ↓aw_skip, ↓aw_seq, ↓aw_block, ↓aw_exit, ↓aw_ret, ↓sops_nil, ↓sops_go, ↓dops_nil, ↓dopsX_nil, ↓dopsR_nil, ↓vdn, vup, extr_20, extr_21, extr_30, extr_31, extr_32, List.map_cons, List.map_nil, cond_true, cond_false, aop, aThen, aBlock, argEnv, ev, sput, sputO, binK, binI, unK, builtinK, pickK, Nat.reduceBEq, Nat.reduceAdd, Int.reduceBEq, Int.reduceBNe, Int.reduceLT, aPost, resK, tup, tyf, hv.len, ne_eq, hn0, not_false_eq_true, tmodN, bneN, hm, Bool.not_false, hv.idx el_22 esz_3 hxm, hv.load shp_3 hxm, Int.natCast_nonneg, tt, ht, if_true, if_false, Bool.false_eq_true, quoN hx, quoN hy, add1 (show i < 9223372036854775807 by omega)]
        exact hQ2 _ _ _ ⟨(i + 1, x / xs.length, y / xs.length), ⟨by simp only; omega, hx2, hy2, he⟩, by simp only; omega, by simp (config := {maxSteps := 2000000}) only [↓aw_region, ↓aw_skip, ↓aw_seq, ↓aw_block, ↓aw_exit, ↓aw_ret, ↓sops_nil, ↓sops_go, ↓dops_nil, ↓dopsX_nil, ↓dopsR_nil, ↓vdn, vup, extr_20, extr_21, extr_30, extr_31, extr_32, List.map_cons, List.map_nil, cond_true, cond_false, aop, aThen, aBlock, argEnv, ev, sput, sputO, binK, binI, unK, builtinK, pickK, Nat.reduceBEq, Nat.reduceAdd, Int.reduceBEq, Int.reduceBNe, Int.reduceLT, aPost, resK, tup, tyf], rfl⟩
      | false =>
        rw [ht, Bool.false_and] at he
        simp (config := {maxSteps := 2000000}) only [s54, ↓aw_region, ↓aw_skip, ↓aw_seq, ↓aw_block, ↓aw_exit, ↓aw_ret, ↓sops_nil, ↓sops_go, ↓dops_nil, ↓dopsX_nil, ↓dopsR_nil, ↓vdn, vup, extr_20, extr_21, extr_30, extr_31, extr_32, List.map_cons, List.map_nil, cond_true, cond_false, aop, aThen, aBlock, argEnv, ev, sput, sputO, binK, binI, unK, builtinK, pickK, Nat.reduceBEq, Nat.reduceAdd, Int.reduceBEq, Int.reduceBNe, Int.reduceLT, aPost, resK, tup, tyf, hv.len, ne_eq, hn0, not_false_eq_true, tmodN, bneN, hm, Bool.not_false, hv.idx el_22 esz_3 hxm, hv.load shp_3 hxm, Int.natCast_nonneg, tt, ht, if_true, if_false, Bool.false_eq_true]
        refine hQ2 _ _ _ (hQ _ _ _ ?_)
        simp (config := {maxSteps := 2000000}) only [s54, ↓aw_region, ↓aw_skip, ↓aw_seq, ↓aw_block, ↓aw_exit, ↓aw_ret, ↓sops_nil, ↓sops_go, ↓dops_nil, ↓dopsX_nil, ↓dopsR_nil, ↓vdn, vup, extr_20, extr_21, extr_30, extr_31, extr_32, List.map_cons, List.map_nil, cond_true, cond_false, aop, aThen, aBlock, argEnv, ev, sput, sputO, binK, binI, unK, builtinK, pickK, Nat.reduceBEq, Nat.reduceAdd, Int.reduceBEq, Int.reduceBNe, Int.reduceLT, aPost, resK, tup, tyf, he]
  · obtain rfl : i = k := by omega
    rw [Nat.sub_self, cf] at he
    simp (config := {maxSteps := 2000000}) only [s54, ↓aw_region, ↓aw_skip, ↓aw_seq, ↓aw_block, ↓aw_exit, ↓aw_ret, ↓sops_nil, ↓sops_go, ↓dops_nil, ↓dopsX_nil, ↓dopsR_nil, ↓vdn, vup, extr_20, extr_21, extr_30, extr_31, extr_32, List.map_cons, List.map_nil, cond_true, cond_false, aop, aThen, aBlock, argEnv, ev, sput, sputO, binK, binI, unK, builtinK, pickK, Nat.reduceBEq, Nat.reduceAdd, Int.reduceBEq, Int.reduceBNe, Int.reduceLT, aPost, resK, tup, tyf, l54_0, Int.lt_irrefl]
    refine hQ2 _ _ _ (hQ _ _ _ ?_)
    simp (config := {maxSteps := 2000000}) only [s54, ↓aw_region, ↓aw_skip, ↓aw_seq, ↓aw_block, ↓aw_exit, ↓aw_ret, ↓sops_nil, ↓sops_go, ↓dops_nil, ↓dopsX_nil, ↓dopsR_nil, ↓vdn, vup, extr_20, extr_21, extr_30, extr_31, extr_32, List.map_cons, List.map_nil, cond_true, cond_false, aop, aThen, aBlock, argEnv, ev, sput, sputO, binK, binI, unK, builtinK, pickK, Nat.reduceBEq, Nat.reduceAdd, Int.reduceBEq, Int.reduceBNe, Int.reduceLT, aPost, resK, tup, tyf, if_true, he]

theorem mulN {a b : Nat} (h : a * b < 9223372036854775808) : mulV .i64 (a : Int) (b : Int) = ((a * b : Nat) : Int) := by
  have h2 : (a : Int) * (b : Int) = ((a * b : Nat) : Int) := (Int.natCast_mul a b).symm
  rw [mulV_id (by rw [h2]; omega) (by rw [h2]; omega), h2]
theorem wn_le {xs : List Int} (g : Gs xs) {k : Nat} (hk : k ≤ 6) : wn xs k ≤ 46656 := by
  have h1 : wn xs k ≤ 6 ^ k := Nat.pow_le_pow_left g.2.1 k
  have h2 : 6 ^ k ≤ 6 ^ 6 := Nat.pow_le_pow_right (by decide) hk
  exact Nat.le_trans h1 h2
theorem rwords_call [Tabs prog] {h : Heap} {v : Value} {xs : List Int} (hv : IntSl h v xs) (g : Gs xs) {k : Nat} (hk : k ≤ 6) : APure prog 22 [v, vint k] h (vint (wn xs k : Nat)) := by
  refine s22_call (by simp) ?_
  simp (config := {maxSteps := 2000000}) only [s22, ↓aw_region, ↓aw_skip, ↓aw_seq, ↓aw_block, ↓aw_exit, ↓aw_ret, ↓sops_nil, ↓sops_go, ↓dops_nil, ↓dopsX_nil, ↓dopsR_nil, ↓vdn, vup, extr_20, extr_21, extr_30, extr_31, extr_32, List.map_cons, List.map_nil, cond_true, cond_false, aop, aThen, aBlock, argEnv, ev, sput, sputO, binK, binI, unK, builtinK, pickK, Nat.reduceBEq, Nat.reduceAdd, Int.reduceBEq, Int.reduceBNe, Int.reduceLT, aPost, resK, tup, tyf, ↓aw_loop_eq]
  refine aws_hide fun Q hQ => ?_
  refine aw_loop (γ := Nat) (fun i => i ≤ k)
    (fun i => ([(0, v), (1, vint k), (4, .int .i64 0), (5, vint (wn xs i : Nat)), (6, vint k), (7, vint i)], h)) (fun i => k - i) 0 (Nat.zero_le _) (by simp (config := {maxSteps := 2000000}) only [↓aw_region, ↓aw_skip, ↓aw_seq, ↓aw_block, ↓aw_exit, ↓aw_ret, ↓sops_nil, ↓sops_go, ↓dops_nil, ↓dopsX_nil, ↓dopsR_nil, ↓vdn, vup, extr_20, extr_21, extr_30, extr_31, extr_32, List.map_cons, List.map_nil, cond_true, cond_false, aop, aThen, aBlock, argEnv, ev, sput, sputO, binK, binI, unK, builtinK, pickK, Nat.reduceBEq, Nat.reduceAdd, Int.reduceBEq, Int.reduceBNe, Int.reduceLT, aPost, resK, tup, tyf, Int.natCast_zero, wn, Nat.pow_zero, Int.natCast_one]) rfl ?_
  intro i hi
  refine aw_hide fun Q2 hQ2 => ?_
  by_cases hin : (i : Int) < k
  · have hi' : i < k := by omega
    have e : wn xs i * xs.length = wn xs (i + 1) := (Nat.pow_succ ..).symm
    have hm : mulV .i64 ((wn xs i : Nat) : Int) ((xs.length : Nat) : Int) = ((wn xs (i + 1) : Nat) : Int) := by
      have := wn_le g (show i + 1 ≤ 6 by omega)
      rw [mulN (by rw [e]; omega), e]
    simp (config := {maxSteps := 2000000}) only [s22, ↓aw_region, ↓aw_skip, ↓aw_seq, ↓aw_block, ↓aw_exit, ↓aw_ret, ↓sops_nil, ↓sops_go, ↓dops_nil, ↓dopsX_nil, ↓dopsR_nil, ↓vdn, vup, extr_20, extr_21, extr_30, extr_31, extr_32, List.map_cons, List.map_nil, cond_true, cond_false, aop, aThen, aBlock, argEnv, ev, sput, sputO, binK, binI, unK, builtinK, pickK, Nat.reduceBEq, Nat.reduceAdd, Int.reduceBEq, Int.reduceBNe, Int.reduceLT, aPost, resK, tup, tyf, l22_0, hin, hv.len, hm, add1 (show i < 9223372036854775807 by omega)]
    exact hQ2 _ _ _ ⟨i + 1, by omega, by omega, by simp (config := {maxSteps := 2000000}) only [↓aw_region, ↓aw_skip, ↓aw_seq, ↓aw_block, ↓aw_exit, ↓aw_ret, ↓sops_nil, ↓sops_go, ↓dops_nil, ↓dopsX_nil, ↓dopsR_nil, ↓vdn, vup, extr_20, extr_21, extr_30, extr_31, extr_32, List.map_cons, List.map_nil, cond_true, cond_false, aop, aThen, aBlock, argEnv, ev, sput, sputO, binK, binI, unK, builtinK, pickK, Nat.reduceBEq, Nat.reduceAdd, Int.reduceBEq, Int.reduceBNe, Int.reduceLT, aPost, resK, tup, tyf], rfl⟩
  · obtain rfl : i = k := by omega
    simp (config := {maxSteps := 2000000}) only [s22, ↓aw_region, ↓aw_skip, ↓aw_seq, ↓aw_block, ↓aw_exit, ↓aw_ret, ↓sops_nil, ↓sops_go, ↓dops_nil, ↓dopsX_nil, ↓dopsR_nil, ↓vdn, vup, extr_20, extr_21, extr_30, extr_31, extr_32, List.map_cons, List.map_nil, cond_true, cond_false, aop, aThen, aBlock, argEnv, ev, sput, sputO, binK, binI, unK, builtinK, pickK, Nat.reduceBEq, Nat.reduceAdd, Int.reduceBEq, Int.reduceBNe, Int.reduceLT, aPost, resK, tup, tyf, l22_0, Int.lt_irrefl]
    refine hQ2 _ _ _ (hQ _ _ _ ?_)
    simp (config := {maxSteps := 2000000}) only [s22, ↓aw_region, ↓aw_skip, ↓aw_seq, ↓aw_block, ↓aw_exit, ↓aw_ret, ↓sops_nil, ↓sops_go, ↓dops_nil, ↓dopsX_nil, ↓dopsR_nil, ↓vdn, vup, extr_20, extr_21, extr_30, extr_31, extr_32, List.map_cons, List.map_nil, cond_true, cond_false, aop, aThen, aBlock, argEnv, ev, sput, sputO, binK, binI, unK, builtinK, pickK, Nat.reduceBEq, Nat.reduceAdd, Int.reduceBEq, Int.reduceBNe, Int.reduceLT, aPost, resK, tup, tyf, if_true]
end Go.Proofs.Tryd.Am

/-
  order: the law OrderClosed.
-/
import Derived.Test.YtnjacpfahhjpiaaDoorOrLaw7
import Derived.Test.YtnjacpfahhjpiaaDoorOrLaw3
import Derived.Test.YtnjacpfahhjpiaaDoorAll
import Derived.Test.YtnjacpfahhjpiaaDoorAmW
set_option linter.all false
namespace Go.Proofs.Tryd.Am
open Go.Am Ord
set_option maxRecDepth 100000
set_option maxHeartbeats 1000000

theorem lit1P {h : Heap} {x y : Int} (K : Value → Heap → Prop) : buildSliceK prog h 52 1 [(0, .agg #[.int .i64 x, .int .i64 y])] K = K (.slice (some ⟨h.length, 0, none⟩) 1 1) (h ++ [.ints [x, y] 33 false]) := by
  have e1 : fillL (fun i => some (i * 2, 2)) (reps [.int .i64 0, .int .i64 0] 1) [(0, .agg #[.int .i64 x, .int .i64 y])] = some [vint x, vint y] := by
    simp [fillL, notTuple, cellsOf, reps, splice]
  simp only [buildSliceK, el_52, zero_33, esz_33, e1, mkb, intsOf, Option.map_some]
  exact propext ⟨fun h => h.2.2.2, fun h => ⟨by decide, by decide, by decide, h⟩⟩
/-- Pairs as ints. -/
def castP (l : List (Nat × Nat)) : List (Int × Int) := l.map fun p => ((p.1 : Int), (p.2 : Int))
theorem castP_app (a b : List (Nat × Nat)) : castP (a ++ b) = castP a ++ castP b := List.map_append
theorem natP_cast (l : List (Nat × Nat)) : natP (castP l) = l := by
  rw [natP, castP, List.map_map]
  conv => rhs; rw [← List.map_id l]
  exact List.map_congr_left fun p _ => rfl
theorem castP_len (l : List (Nat × Nat)) : (castP l).length = l.length := by simp [castP]
theorem prs_cast {n : Nat} (hn : 1 ≤ n ∧ n ≤ 6) {l : List (Nat × Nat)} (hl : l.length ≤ 30) (hp : ∀ p ∈ l, p.1 < n ∧ p.2 < n) : prs n (castP l) = true := by
  rw [prs, decide_eq_true (show (1 : Int) ≤ n by omega), decide_eq_true (show (n : Int) ≤ 6 by omega), decide_eq_true (show (castP l).length ≤ 30 by rw [castP_len]; exact hl)]
  simp only [Bool.and_true, List.all_eq_true]
  intro p hp'
  obtain ⟨r, hr, rfl⟩ := List.mem_map.1 hp'
  obtain ⟨h1, h2⟩ := hp r hr
  rw [okP, decide_eq_true (show (0 : Int) ≤ (r.1 : Int) by omega), decide_eq_true (show (r.1 : Int) < n by omega), decide_eq_true (show (0 : Int) ≤ (r.2 : Int) by omega), decide_eq_true (show (r.2 : Int) < n by omega)]; rfl

theorem bldP {a b : Int} {K : Value → Prop} : buildK prog 33 [(0, vint a), (1, vint b)] K = K (.agg #[vint a, vint b]) := by
  simp [buildK, zero_33, fillL, pl_33_0, pl_33_1, notTuple, cellsOf, splice]
theorem natP_castL {q : List Int} (hq : ord q = true) : ∀ p ∈ allTo q q.length, p.1 < q.length ∧ p.2 < q.length := all_lt hq
theorem rowP_le (q : List Int) (x y : Nat) : (rowP q x y).length ≤ y := by
  have := List.length_filter_le (ab q x) (List.range y)
  rw [List.length_range] at this
  rw [rowP, List.length_map]; exact this
theorem allTo_le (q : List Int) : ∀ x, (allTo q x).length ≤ x * q.length
  | 0 => by simp [allTo]
  | x + 1 => by
    rw [allTo_succ, List.length_append, Nat.succ_mul]
    have := allTo_le q x
    have := rowP_le q x q.length
    omega
theorem _root_.Go.Am.OwnP.grow {e : TypeId} {h : Heap} {v : Value} {ps : List (Int × Int)} (ho : OwnP e h v ps) (g : Heap) : OwnP e (h ++ g) v ps := ho.ext (Ext.app _ _ _)

/-- The pairs of an order, gathered. -/
theorem closed_gather [BitTab prog 1] {h2 : Heap} {v ov : Value} {q : List Int} {i j : Int} (hov : IntSl h2 ov q) (hq : ord q = true) {N : Env → Heap → Prop} {Q0 : Exit → Env → Heap → Prop}
    (hN : ∀ hp av e1, Ext (fun _ => False) h2 hp → OwnP 33 hp av (castP (allTo q q.length)) → (∀ b, blkOf av = some b → h2.length ≤ b) → ELe e1 [(0, vint (q.length : Nat)), (1, v), (2, vint i), (3, vint j), (8, .bool false), (9, ov), (10, .int .i64 0), (13, av)] → N e1 hp) :
    aw prog 159 (.seq q8_13 (.block 2 (.loop l8_2))) (aThen N Q0) [(0, vint (q.length : Nat)), (1, v), (2, vint i), (3, vint j), (8, .bool false), (9, ov), (10, .int .i64 0), (13, .slice none 0 0)] h2 := by
  have hln := ord_len hq
  have hq1 := hov.len
  simp (config := {maxSteps := 2000000}) only [↓aw_region, ↓aw_skip, ↓aw_seq, ↓aw_block, ↓aw_exit, ↓aw_ret, ↓sops_nil, ↓sops_go, ↓dops_nil, ↓dopsX_nil, ↓dopsR_nil, ↓vdn, vup, extr_20, extr_21, extr_30, extr_31, extr_32, List.map_cons, List.map_nil, cond_true, cond_false, aop, aThen, aBlock, argEnv, ev, sput, sputO, binK, binI, unK, builtinK, pickK, Nat.reduceBEq, Nat.reduceAdd, Int.reduceBEq, Int.reduceBNe, Int.reduceLT, aPost, resK, tup, tyf, hov.len, ↓aw_loop_eq]
  refine aws_hide fun Q hQ => ?_
  refine aw_loop (γ := Nat × Value × Heap) (fun s => s.1 ≤ q.length ∧ OwnP 33 s.2.2 s.2.1 (castP (allTo q s.1)) ∧ Ext (fun _ => False) h2 s.2.2 ∧ ∀ b, blkOf s.2.1 = some b → h2.length ≤ b)
    (fun s => ([(0, vint (q.length : Nat)), (1, v), (2, vint i), (3, vint j), (8, .bool false), (9, ov), (10, .int .i64 0), (13, s.2.1), (71, vint q.length), (72, vint s.1)], s.2.2)) (fun s => q.length - s.1) (0, .slice none 0 0, h2)
    ⟨Nat.zero_le _, .inl ⟨rfl, rfl⟩, Ext.refl _ _, fun _ h => by cases h⟩ (by simp (config := {maxSteps := 2000000}) only [↓aw_region, ↓aw_skip, ↓aw_seq, ↓aw_block, ↓aw_exit, ↓aw_ret, ↓sops_nil, ↓sops_go, ↓dops_nil, ↓dopsX_nil, ↓dopsR_nil, ↓vdn, vup, extr_20, extr_21, extr_30, extr_31, extr_32, List.map_cons, List.map_nil, cond_true, cond_false, aop, aThen, aBlock, argEnv, ev, sput, sputO, binK, binI, unK, builtinK, pickK, Nat.reduceBEq, Nat.reduceAdd, Int.reduceBEq, Int.reduceBNe, Int.reduceLT, aPost, resK, tup, tyf, Int.natCast_zero]) rfl ?_
  rintro ⟨x, av, hp⟩ ⟨hx, hown, hE, hblk⟩
  simp only at hx hown hE hblk
  refine aw_hide fun Q2 hQ2 => ?_
  by_cases hxn : (x : Int) < q.length
  · have hxn' : x < q.length := by omega
    have hvp : IntSl hp ov q := IntSl_ext hov hE
    simp only [l8_2]
    simp (config := {maxSteps := 2000000}) only [↓aw_region, ↓aw_skip, ↓aw_seq, ↓aw_block, ↓aw_exit, ↓aw_ret, ↓sops_nil, ↓sops_go, ↓dops_nil, ↓dopsX_nil, ↓dopsR_nil, ↓vdn, vup, extr_20, extr_21, extr_30, extr_31, extr_32, List.map_cons, List.map_nil, cond_true, cond_false, aop, aThen, aBlock, argEnv, ev, sput, sputO, binK, binI, unK, builtinK, pickK, Nat.reduceBEq, Nat.reduceAdd, Int.reduceBEq, Int.reduceBNe, Int.reduceLT, aPost, resK, tup, tyf, hxn, hvp.len, ↓aw_loop_eq]
    refine aws_hide fun Q3 hQ3 => ?_
    refine aw_loop (γ := Nat × Value × Heap) (fun s => s.1 ≤ q.length ∧ OwnP 33 s.2.2 s.2.1 (castP (allTo q x ++ rowP q x s.1)) ∧ Ext (fun _ => False) h2 s.2.2 ∧ ∀ b, blkOf s.2.1 = some b → h2.length ≤ b)
      (fun s => ([(0, vint (q.length : Nat)), (1, v), (2, vint i), (3, vint j), (8, .bool false), (9, ov), (10, .int .i64 0), (13, s.2.1), (14, vint x), (71, vint q.length), (72, vint x), (76, vint q.length), (77, vint s.1)], s.2.2)) (fun s => q.length - s.1) (0, av, hp)
      ⟨Nat.zero_le _, by simp only [rowP, List.range_zero, List.filter_nil, List.map_nil, List.append_nil]; exact hown, hE, hblk⟩ (by simp (config := {maxSteps := 2000000}) only [↓aw_region, ↓aw_skip, ↓aw_seq, ↓aw_block, ↓aw_exit, ↓aw_ret, ↓sops_nil, ↓sops_go, ↓dops_nil, ↓dopsX_nil, ↓dopsR_nil, ↓vdn, vup, extr_20, extr_21, extr_30, extr_31, extr_32, List.map_cons, List.map_nil, cond_true, cond_false, aop, aThen, aBlock, argEnv, ev, sput, sputO, binK, binI, unK, builtinK, pickK, Nat.reduceBEq, Nat.reduceAdd, Int.reduceBEq, Int.reduceBNe, Int.reduceLT, aPost, resK, tup, tyf, Int.natCast_zero]) rfl ?_
    rintro ⟨y, lv, hk⟩ ⟨hy, ho, hEk, hb⟩
    simp only at hy ho hEk hb
    refine aw_hide fun Q4 hQ4 => ?_
    have hvk : IntSl hk ov q := IntSl_ext hov hEk
    by_cases hyn : (y : Int) < q.length
    · have hyn' : y < q.length := by omega
      have ht := testO hq hxn' y
      cases hab : ab q x y with
      | false =>
        rw [hab, if_neg (by decide)] at ht
        have hr : rowP q x (y + 1) = rowP q x y := by rw [rowP_succ, hab, if_neg (by decide)]
        simp (config := {maxSteps := 2000000}) only [↓aw_region, ↓aw_skip, ↓aw_seq, ↓aw_block, ↓aw_exit, ↓aw_ret, ↓sops_nil, ↓sops_go, ↓dops_nil, ↓dopsX_nil, ↓dopsR_nil, ↓vdn, vup, extr_20, extr_21, extr_30, extr_31, extr_32, List.map_cons, List.map_nil, cond_true, cond_false, aop, aThen, aBlock, argEnv, ev, sput, sputO, binK, binI, unK, builtinK, pickK, Nat.reduceBEq, Nat.reduceAdd, Int.reduceBEq, Int.reduceBNe, Int.reduceLT, aPost, resK, tup, tyf, l8_1, hyn, hvk.idx el_22 esz_3 hxn', hvk.load shp_3 hxn', Int.natCast_nonneg, ht, add1 (show y < 9223372036854775807 by omega)]
        exact hQ4 _ _ _ ⟨(y + 1, lv, hk), ⟨by simp only; omega, by simp only; rw [hr]; exact ho, hEk, hb⟩, by simp only; omega, by simp (config := {maxSteps := 2000000}) only [↓aw_region, ↓aw_skip, ↓aw_seq, ↓aw_block, ↓aw_exit, ↓aw_ret, ↓sops_nil, ↓sops_go, ↓dops_nil, ↓dopsX_nil, ↓dopsR_nil, ↓vdn, vup, extr_20, extr_21, extr_30, extr_31, extr_32, List.map_cons, List.map_nil, cond_true, cond_false, aop, aThen, aBlock, argEnv, ev, sput, sputO, binK, binI, unK, builtinK, pickK, Nat.reduceBEq, Nat.reduceAdd, Int.reduceBEq, Int.reduceBNe, Int.reduceLT, aPost, resK, tup, tyf], rfl⟩
      | true =>
        rw [hab, if_pos rfl] at ht
        have hr : castP (allTo q x ++ rowP q x (y + 1)) = castP (allTo q x ++ rowP q x y) ++ [((x : Int), (y : Int))] := by
          rw [rowP_succ, hab, if_pos rfl, ← List.append_assoc, castP_app]; rfl
        simp (config := {maxSteps := 2000000}) only [↓aw_region, ↓aw_skip, ↓aw_seq, ↓aw_block, ↓aw_exit, ↓aw_ret, ↓sops_nil, ↓sops_go, ↓dops_nil, ↓dopsX_nil, ↓dopsR_nil, ↓vdn, vup, extr_20, extr_21, extr_30, extr_31, extr_32, List.map_cons, List.map_nil, cond_true, cond_false, aop, aThen, aBlock, argEnv, ev, sput, sputO, binK, binI, unK, builtinK, pickK, Nat.reduceBEq, Nat.reduceAdd, Int.reduceBEq, Int.reduceBNe, Int.reduceLT, aPost, resK, tup, tyf, l8_1, hyn, hvk.idx el_22 esz_3 hxn', hvk.load shp_3 hxn', Int.natCast_nonneg, ht, List.toList_toArray, bldP, lit1P]
        have hlen := castP_len (allTo q x ++ rowP q x y)
        have hal := allTo_le q x
        have hrl := rowP_le q x y
        have hm : x * q.length ≤ 6 * 6 := Nat.mul_le_mul (by omega) (by omega)
        refine (ho.grow [.ints [(x : Int), (y : Int)] 33 false]).append app_52_52 (by rw [hlen, List.length_append]; omega) (get_new _ _) ?_
        intro v' h' ho' hE' hb'
        have hlk := hEk.1
        have hEn : Ext (fun _ => False) h2 h' := by
          have hl' := hE'.1
          simp only [List.length_append, List.length_singleton] at hl'
          refine ⟨by omega, fun p hp _ => ?_⟩
          rw [hE'.2 p (by simp; omega) (fun hb0 => by have := hb p hb0; omega), List.getElem?_append_left (by omega)]
          exact hEk.2 p hp id
        simp (config := {maxSteps := 2000000}) only [↓aw_region, ↓aw_skip, ↓aw_seq, ↓aw_block, ↓aw_exit, ↓aw_ret, ↓sops_nil, ↓sops_go, ↓dops_nil, ↓dopsX_nil, ↓dopsR_nil, ↓vdn, vup, extr_20, extr_21, extr_30, extr_31, extr_32, List.map_cons, List.map_nil, cond_true, cond_false, aop, aThen, aBlock, argEnv, ev, sput, sputO, binK, binI, unK, builtinK, pickK, Nat.reduceBEq, Nat.reduceAdd, Int.reduceBEq, Int.reduceBNe, Int.reduceLT, aPost, resK, tup, tyf, add1 (show y < 9223372036854775807 by omega)]
        refine hQ4 _ _ _ ⟨(y + 1, v', h'), ⟨by simp only; omega, by simp only; rw [hr]; exact ho', hEn, fun b hb0 => ?_⟩, by simp only; omega, by simp (config := {maxSteps := 2000000}) only [↓aw_region, ↓aw_skip, ↓aw_seq, ↓aw_block, ↓aw_exit, ↓aw_ret, ↓sops_nil, ↓sops_go, ↓dops_nil, ↓dopsX_nil, ↓dopsR_nil, ↓vdn, vup, extr_20, extr_21, extr_30, extr_31, extr_32, List.map_cons, List.map_nil, cond_true, cond_false, aop, aThen, aBlock, argEnv, ev, sput, sputO, binK, binI, unK, builtinK, pickK, Nat.reduceBEq, Nat.reduceAdd, Int.reduceBEq, Int.reduceBNe, Int.reduceLT, aPost, resK, tup, tyf], rfl⟩
        simp only at hb0
        rcases hb' with hb' | ⟨b', hb1, hb2⟩
        · exact hb b (hb' ▸ hb0)
        · rw [hb1] at hb0; cases hb0; simp only [List.length_append, List.length_singleton] at hb2; omega
    · obtain rfl : y = q.length := by omega
      simp (config := {maxSteps := 2000000}) only [↓aw_region, ↓aw_skip, ↓aw_seq, ↓aw_block, ↓aw_exit, ↓aw_ret, ↓sops_nil, ↓sops_go, ↓dops_nil, ↓dopsX_nil, ↓dopsR_nil, ↓vdn, vup, extr_20, extr_21, extr_30, extr_31, extr_32, List.map_cons, List.map_nil, cond_true, cond_false, aop, aThen, aBlock, argEnv, ev, sput, sputO, binK, binI, unK, builtinK, pickK, Nat.reduceBEq, Nat.reduceAdd, Int.reduceBEq, Int.reduceBNe, Int.reduceLT, aPost, resK, tup, tyf, l8_1, Int.lt_irrefl]
      refine hQ4 _ _ _ (hQ3 _ _ _ ?_)
      simp (config := {maxSteps := 2000000}) only [↓aw_region, ↓aw_skip, ↓aw_seq, ↓aw_block, ↓aw_exit, ↓aw_ret, ↓sops_nil, ↓sops_go, ↓dops_nil, ↓dopsX_nil, ↓dopsR_nil, ↓vdn, vup, extr_20, extr_21, extr_30, extr_31, extr_32, List.map_cons, List.map_nil, cond_true, cond_false, aop, aThen, aBlock, argEnv, ev, sput, sputO, binK, binI, unK, builtinK, pickK, Nat.reduceBEq, Nat.reduceAdd, Int.reduceBEq, Int.reduceBNe, Int.reduceLT, aPost, resK, tup, tyf, add1 (show x < 9223372036854775807 by omega)]
      exact hQ2 _ _ _ ⟨(x + 1, lv, hk), ⟨by simp only; omega, by simp only; rw [allTo_succ]; exact ho, hEk, hb⟩, by simp only; omega, by simp (config := {maxSteps := 2000000}) only [↓aw_region, ↓aw_skip, ↓aw_seq, ↓aw_block, ↓aw_exit, ↓aw_ret, ↓sops_nil, ↓sops_go, ↓dops_nil, ↓dopsX_nil, ↓dopsR_nil, ↓vdn, vup, extr_20, extr_21, extr_30, extr_31, extr_32, List.map_cons, List.map_nil, cond_true, cond_false, aop, aThen, aBlock, argEnv, ev, sput, sputO, binK, binI, unK, builtinK, pickK, Nat.reduceBEq, Nat.reduceAdd, Int.reduceBEq, Int.reduceBNe, Int.reduceLT, aPost, resK, tup, tyf], rfl⟩
  · obtain rfl : x = q.length := by omega
    simp (config := {maxSteps := 2000000}) only [↓aw_region, ↓aw_skip, ↓aw_seq, ↓aw_block, ↓aw_exit, ↓aw_ret, ↓sops_nil, ↓sops_go, ↓dops_nil, ↓dopsX_nil, ↓dopsR_nil, ↓vdn, vup, extr_20, extr_21, extr_30, extr_31, extr_32, List.map_cons, List.map_nil, cond_true, cond_false, aop, aThen, aBlock, argEnv, ev, sput, sputO, binK, binI, unK, builtinK, pickK, Nat.reduceBEq, Nat.reduceAdd, Int.reduceBEq, Int.reduceBNe, Int.reduceLT, aPost, resK, tup, tyf, l8_2, Int.lt_irrefl]
    refine hQ2 _ _ _ (hQ _ _ _ ?_)
    simp (config := {maxSteps := 2000000}) only [↓aw_region, ↓aw_skip, ↓aw_seq, ↓aw_block, ↓aw_exit, ↓aw_ret, ↓sops_nil, ↓sops_go, ↓dops_nil, ↓dopsX_nil, ↓dopsR_nil, ↓vdn, vup, extr_20, extr_21, extr_30, extr_31, extr_32, List.map_cons, List.map_nil, cond_true, cond_false, aop, aThen, aBlock, argEnv, ev, sput, sputO, binK, binI, unK, builtinK, pickK, Nat.reduceBEq, Nat.reduceAdd, Int.reduceBEq, Int.reduceBNe, Int.reduceLT, aPost, resK, tup, tyf, if_true]
    exact hN _ _ _ hE hown hblk (by simp (config := {maxSteps := 2000000}) only [↓aw_region, ↓aw_skip, ↓aw_seq, ↓aw_block, ↓aw_exit, ↓aw_ret, ↓sops_nil, ↓sops_go, ↓dops_nil, ↓dopsX_nil, ↓dopsR_nil, ↓vdn, vup, extr_20, extr_21, extr_30, extr_31, extr_32, List.map_cons, List.map_nil, cond_true, cond_false, aop, aThen, aBlock, argEnv, ev, sput, sputO, binK, binI, unK, builtinK, pickK, Nat.reduceBEq, Nat.reduceAdd, Int.reduceBEq, Int.reduceBNe, Int.reduceLT, aPost, resK, tup, tyf])
theorem prs_all {q : List Int} (hq : ord q = true) : prs (q.length : Nat) (castP (allTo q q.length)) = true :=
  prs_cast (ord_len hq) (by have := all_len hq; omega) (all_lt hq)
theorem prs_more {q : List Int} (hq : ord q = true) {a b : Nat} (ha : a < q.length) (hb : b < q.length) : prs (q.length : Nat) (castP (allTo q q.length) ++ [((a : Int), (b : Int))]) = true := by
  have h1 : castP (allTo q q.length) ++ [((a : Int), (b : Int))] = castP (allTo q q.length ++ [(a, b)]) := by rw [castP_app]; rfl
  rw [h1]
  refine prs_cast (ord_len hq) (by rw [List.length_append]; have := all_len hq; simp only [List.length_singleton]; omega) fun p hp => ?_
  rcases List.mem_append.1 hp with hp | hp
  · exact all_lt hq p hp
  · rw [List.mem_singleton.1 hp]; exact ⟨ha, hb⟩
theorem natP_more {l : List (Nat × Nat)} {a b : Nat} : natP (castP l ++ [((a : Int), (b : Int))]) = l ++ [(a, b)] := by
  have h1 : castP l ++ [((a : Int), (b : Int))] = castP (l ++ [(a, b)]) := by rw [castP_app]; rfl
  rw [h1, natP_cast]

/-- Add, and Close of the pairs with one more. -/
theorem closed_fin [BitTab prog 1] {h : Heap} {ov av : Value} {q : List Int} {i j : Int} (hov : IntSl h ov q) (hq : ord q = true) (hav : OwnP 33 h av (castP (allTo q q.length))) :
    AWS prog 159 (q8_26.seq (q8_27.seq (q8_28.seq ((q8_29.seq (SCode.cond (Operand.tmp 143) (q8_30.seq SCode.ret) SCode.skip)).seq (q8_31.seq SCode.ret)))))
      (aPost prog [ResultVar.tmp 8] fun r _ => r = .bool true) [(0, vint (q.length : Nat)), (2, vint i), (3, vint j), (8, .bool false), (9, ov), (10, .int .i64 0), (13, av)] h := by
  have hlen := ord_len hq
  have awk : ∀ {K : Value → Heap → Prop} {g : Heap}, K (.bool true) g → ACall prog 20 [] g K := fun {K g} hk => awake_call.mono fun v h' ⟨h1, h2⟩ => by rw [h1, h2]; exact hk
  have hrg : ∀ {q : List Int}, ord q = true → q.length < 9223372036854775808 ∧ ∀ y ∈ q, -9223372036854775808 ≤ y ∧ y < 9223372036854775808 := fun {q} hq => by
    have hq1 := ord_len hq
    refine ⟨by omega, fun y hy => ?_⟩
    obtain ⟨k, hk, rfl⟩ := List.mem_iff_getElem.1 hy
    have h1 := ord_nat hq hk
    have h2 := pow6 hq1.2
    rw [List.getD, List.getElem?_eq_getElem hk, Option.getD_some] at h1
    omega
  refine aws_cut fun N hN => ?_
  refine aw_drawX [] (by kernel_rfl) (by kernel_rfl) (by kernel_rfl) (by kernel_rfl) ?_
  have hn0 : ¬ (q.length : Int) = 0 := by omega
  simp (config := {maxSteps := 2000000}) only [↓aw_region, ↓aw_skip, ↓aw_seq, ↓aw_block, ↓aw_exit, ↓aw_ret, ↓sops_nil, ↓sops_go, ↓dops_nil, ↓dopsX_nil, ↓dopsR_nil, ↓vdn, vup, extr_20, extr_21, extr_30, extr_31, extr_32, List.map_cons, List.map_nil, cond_true, cond_false, aop, aThen, aBlock, argEnv, ev, sput, sputO, binK, binI, unK, builtinK, pickK, Nat.reduceBEq, Nat.reduceAdd, Int.reduceBEq, Int.reduceBNe, Int.reduceLT, aPost, resK, tup, tyf, convK, u64_id hlen.2, ne_eq, hn0, not_false_eq_true, modN_eq i hlen.1 hlen.2, modN_eq j hlen.1 hlen.2]
  have hil := modN_lt i hlen.1
  have hjl := modN_lt j hlen.1
  generalize modN i q.length = a at hil ⊢
  generalize modN j q.length = b at hjl ⊢
  refine hN [(0, vint (q.length : Nat)), (2, vint a), (3, vint b), (8, .bool false), (9, ov), (10, .int .i64 0), (13, av)] _ _ ?_ (by simp (config := {maxSteps := 2000000}) only [↓aw_region, ↓aw_skip, ↓aw_seq, ↓aw_block, ↓aw_exit, ↓aw_ret, ↓sops_nil, ↓sops_go, ↓dops_nil, ↓dopsX_nil, ↓dopsR_nil, ↓vdn, vup, extr_20, extr_21, extr_30, extr_31, extr_32, List.map_cons, List.map_nil, cond_true, cond_false, aop, aThen, aBlock, argEnv, ev, sput, sputO, binK, binI, unK, builtinK, pickK, Nat.reduceBEq, Nat.reduceAdd, Int.reduceBEq, Int.reduceBNe, Int.reduceLT, aPost, resK, tup, tyf])
  clear hN N
  have hel : ∀ {a : Nat}, a < q.length → elI q (a : Int) = true := fun {a} ha => by simp [elI]; omega
  have htk := ord_take_eq hq
  refine aws_cut fun N hN => ?_
  simp (config := {maxSteps := 2000000}) only [↓aw_region, ↓aw_skip, ↓aw_seq, ↓aw_block, ↓aw_exit, ↓aw_ret, ↓sops_nil, ↓sops_go, ↓dops_nil, ↓dopsX_nil, ↓dopsR_nil, ↓vdn, vup, extr_20, extr_21, extr_30, extr_31, extr_32, List.map_cons, List.map_nil, cond_true, cond_false, aop, aThen, aBlock, argEnv, ev, sput, sputO, binK, binI, unK, builtinK, pickK, Nat.reduceBEq, Nat.reduceAdd, Int.reduceBEq, Int.reduceBNe, Int.reduceLT, aPost, resK, tup, tyf, callK, List.nil_append, List.append_nil, List.toList_toArray, List.cons_append]
  refine (list_call hov (hrg hq).1).mono ?_
  rintro l2 _ ⟨hl2, g2, rfl⟩
  rw [htk] at hl2
  refine (add21_new hl2 (hrg hq).1 (hrg hq).2).mono ?_
  rintro _ h4 ⟨hE4, s1, e1, rfl, hr1, hnew⟩
  rw [AddR, if_pos ⟨hq, hel hil, hel hjl⟩, Int.toNat_natCast, Int.toNat_natCast] at hr1
  simp (config := {maxSteps := 2000000}) only [↓aw_region, ↓aw_skip, ↓aw_seq, ↓aw_block, ↓aw_exit, ↓aw_ret, ↓sops_nil, ↓sops_go, ↓dops_nil, ↓dopsX_nil, ↓dopsR_nil, ↓vdn, vup, extr_20, extr_21, extr_30, extr_31, extr_32, List.map_cons, List.map_nil, cond_true, cond_false, aop, aThen, aBlock, argEnv, ev, sput, sputO, binK, binI, unK, builtinK, pickK, Nat.reduceBEq, Nat.reduceAdd, Int.reduceBEq, Int.reduceBNe, Int.reduceLT, aPost, resK, tup, tyf]
  have hE04 : Ext (fun _ => False) h h4 := (Ext.app _ _ _).trans hE4
  have hov4 := IntSl_ext hov hE04
  have hav4 := hav.ext hE04
  refine hN [(0, vint (q.length : Nat)), (2, vint a), (3, vint b), (8, .bool false), (9, ov), (10, .int .i64 e1), (13, av), (17, s1)] _ _ ?_ (by simp (config := {maxSteps := 2000000}) only [↓aw_region, ↓aw_skip, ↓aw_seq, ↓aw_block, ↓aw_exit, ↓aw_ret, ↓sops_nil, ↓sops_go, ↓dops_nil, ↓dopsX_nil, ↓dopsR_nil, ↓vdn, vup, extr_20, extr_21, extr_30, extr_31, extr_32, List.map_cons, List.map_nil, cond_true, cond_false, aop, aThen, aBlock, argEnv, ev, sput, sputO, binK, binI, unK, builtinK, pickK, Nat.reduceBEq, Nat.reduceAdd, Int.reduceBEq, Int.reduceBNe, Int.reduceLT, aPost, resK, tup, tyf])
  clear hN N
  refine aws_cut fun N hN => ?_
  have hcl := castP_len (allTo q q.length)
  have hal := all_len hq
  have e0 := get_new h4 (.ints [(a : Int), (b : Int)] 33 false)
  simp (config := {maxSteps := 2000000}) only [↓aw_region, ↓aw_skip, ↓aw_seq, ↓aw_block, ↓aw_exit, ↓aw_ret, ↓sops_nil, ↓sops_go, ↓dops_nil, ↓dopsX_nil, ↓dopsR_nil, ↓vdn, vup, extr_20, extr_21, extr_30, extr_31, extr_32, List.map_cons, List.map_nil, cond_true, cond_false, aop, aThen, aBlock, argEnv, ev, sput, sputO, binK, binI, unK, builtinK, pickK, Nat.reduceBEq, Nat.reduceAdd, Int.reduceBEq, Int.reduceBNe, Int.reduceLT, aPost, resK, tup, tyf, List.toList_toArray, bldP, lit1P]
  refine (hav4.grow [.ints [(a : Int), (b : Int)] 33 false]).append app_52_52 (by omega) e0 ?_
  intro v' h' ho' hE' hb'
  simp (config := {maxSteps := 2000000}) only [↓aw_region, ↓aw_skip, ↓aw_seq, ↓aw_block, ↓aw_exit, ↓aw_ret, ↓sops_nil, ↓sops_go, ↓dops_nil, ↓dopsX_nil, ↓dopsR_nil, ↓vdn, vup, extr_20, extr_21, extr_30, extr_31, extr_32, List.map_cons, List.map_nil, cond_true, cond_false, aop, aThen, aBlock, argEnv, ev, sput, sputO, binK, binI, unK, builtinK, pickK, Nat.reduceBEq, Nat.reduceAdd, Int.reduceBEq, Int.reduceBNe, Int.reduceLT, aPost, resK, tup, tyf, callK, List.nil_append, List.append_nil, List.toList_toArray, List.cons_append]
  refine (close_call (n := (q.length : Nat)) ho'.pair (by rw [List.length_append]; simp only [List.length_singleton]; omega)).mono ?_
  rintro _ h6 ⟨hE6, s2, e2, rfl, hr2⟩
  rw [CloseR, prs_more hq hil hjl, if_pos rfl, Int.toNat_natCast, natP_more] at hr2
  simp (config := {maxSteps := 2000000}) only [↓aw_region, ↓aw_skip, ↓aw_seq, ↓aw_block, ↓aw_exit, ↓aw_ret, ↓sops_nil, ↓sops_go, ↓dops_nil, ↓dopsX_nil, ↓dopsR_nil, ↓vdn, vup, extr_20, extr_21, extr_30, extr_31, extr_32, List.map_cons, List.map_nil, cond_true, cond_false, aop, aThen, aBlock, argEnv, ev, sput, sputO, binK, binI, unK, builtinK, pickK, Nat.reduceBEq, Nat.reduceAdd, Int.reduceBEq, Int.reduceBNe, Int.reduceLT, aPost, resK, tup, tyf]
  refine hN [(8, .bool false), (10, .int .i64 e1), (17, s1), (18, s2), (19, .int .i64 e2)] _ _ ?_ (by simp (config := {maxSteps := 2000000}) only [↓aw_region, ↓aw_skip, ↓aw_seq, ↓aw_block, ↓aw_exit, ↓aw_ret, ↓sops_nil, ↓sops_go, ↓dops_nil, ↓dopsX_nil, ↓dopsR_nil, ↓vdn, vup, extr_20, extr_21, extr_30, extr_31, extr_32, List.map_cons, List.map_nil, cond_true, cond_false, aop, aThen, aBlock, argEnv, ev, sput, sputO, binK, binI, unK, builtinK, pickK, Nat.reduceBEq, Nat.reduceAdd, Int.reduceBEq, Int.reduceBNe, Int.reduceLT, aPost, resK, tup, tyf])
  clear hN N
  refine aws_cut fun N hN => ?_
  cases hf : fr q a b with
  | false =>
    rw [hf, if_neg (by decide)] at hr1
    obtain ⟨rfl, rfl⟩ := hr1
    simp (config := {maxSteps := 2000000}) only [↓aw_region, ↓aw_skip, ↓aw_seq, ↓aw_block, ↓aw_exit, ↓aw_ret, ↓sops_nil, ↓sops_go, ↓dops_nil, ↓dopsX_nil, ↓dopsR_nil, ↓vdn, vup, extr_20, extr_21, extr_30, extr_31, extr_32, List.map_cons, List.map_nil, cond_true, cond_false, aop, aThen, aBlock, argEnv, ev, sput, sputO, binK, binI, unK, builtinK, pickK, Nat.reduceBEq, Nat.reduceAdd, Int.reduceBEq, Int.reduceBNe, Int.reduceLT, aPost, resK, tup, tyf, callK, List.nil_append, List.append_nil, List.toList_toArray, List.cons_append]
    refine awk ?_
    simp (config := {maxSteps := 2000000}) only [↓aw_region, ↓aw_skip, ↓aw_seq, ↓aw_block, ↓aw_exit, ↓aw_ret, ↓sops_nil, ↓sops_go, ↓dops_nil, ↓dopsX_nil, ↓dopsR_nil, ↓vdn, vup, extr_20, extr_21, extr_30, extr_31, extr_32, List.map_cons, List.map_nil, cond_true, cond_false, aop, aThen, aBlock, argEnv, ev, sput, sputO, binK, binI, unK, builtinK, pickK, Nat.reduceBEq, Nat.reduceAdd, Int.reduceBEq, Int.reduceBNe, Int.reduceLT, aPost, resK, tup, tyf]
  | true =>
    rw [hf, if_pos rfl] at hr1
    obtain ⟨rfl, hs1⟩ := hr1
    rw [close_more hq hil hjl hf] at hr2
    obtain ⟨rfl, hs2⟩ := hr2
    have hal : (addL q a b).length < 9223372036854775808 := by rw [addL_len]; omega
    have hs : IntSl h6 s1 (addL q a b) := by
      refine IntSl_ext (IntSl.same hs1 fun c hc => ?_) hE6
      have h1 := hnew c hc
      have h2 := hs1.lt hc
      rw [hE'.2 c (by simp; omega) (fun hx => by have := hav.lt hx; simp only [List.length_append] at h1; omega), List.getElem?_append_left h2]
    simp (config := {maxSteps := 2000000}) only [↓aw_region, ↓aw_skip, ↓aw_seq, ↓aw_block, ↓aw_exit, ↓aw_ret, ↓sops_nil, ↓sops_go, ↓dops_nil, ↓dopsX_nil, ↓dopsR_nil, ↓vdn, vup, extr_20, extr_21, extr_30, extr_31, extr_32, List.map_cons, List.map_nil, cond_true, cond_false, aop, aThen, aBlock, argEnv, ev, sput, sputO, binK, binI, unK, builtinK, pickK, Nat.reduceBEq, Nat.reduceAdd, Int.reduceBEq, Int.reduceBNe, Int.reduceLT, aPost, resK, tup, tyf]
    refine hN [(8, .bool false), (17, s1), (18, s2), (19, .int .i64 0)] _ _ ?_ (by simp (config := {maxSteps := 2000000}) only [↓aw_region, ↓aw_skip, ↓aw_seq, ↓aw_block, ↓aw_exit, ↓aw_ret, ↓sops_nil, ↓sops_go, ↓dops_nil, ↓dopsX_nil, ↓dopsR_nil, ↓vdn, vup, extr_20, extr_21, extr_30, extr_31, extr_32, List.map_cons, List.map_nil, cond_true, cond_false, aop, aThen, aBlock, argEnv, ev, sput, sputO, binK, binI, unK, builtinK, pickK, Nat.reduceBEq, Nat.reduceAdd, Int.reduceBEq, Int.reduceBNe, Int.reduceLT, aPost, resK, tup, tyf])
    clear hN N
    refine aw_aws ?_
    simp (config := {maxSteps := 2000000}) only [↓aw_region, ↓aw_skip, ↓aw_seq, ↓aw_block, ↓aw_exit, ↓aw_ret, ↓sops_nil, ↓sops_go, ↓dops_nil, ↓dopsX_nil, ↓dopsR_nil, ↓vdn, vup, extr_20, extr_21, extr_30, extr_31, extr_32, List.map_cons, List.map_nil, cond_true, cond_false, aop, aThen, aBlock, argEnv, ev, sput, sputO, binK, binI, unK, builtinK, pickK, Nat.reduceBEq, Nat.reduceAdd, Int.reduceBEq, Int.reduceBNe, Int.reduceLT, aPost, resK, tup, tyf, callK, List.nil_append, List.append_nil, List.toList_toArray, List.cons_append]
    refine (equal_call hs hs2 hal hal).mono ?_
    rintro _ h7 ⟨rfl, rfl⟩
    simp (config := {maxSteps := 2000000}) only [↓aw_region, ↓aw_skip, ↓aw_seq, ↓aw_block, ↓aw_exit, ↓aw_ret, ↓sops_nil, ↓sops_go, ↓dops_nil, ↓dopsX_nil, ↓dopsR_nil, ↓vdn, vup, extr_20, extr_21, extr_30, extr_31, extr_32, List.map_cons, List.map_nil, cond_true, cond_false, aop, aThen, aBlock, argEnv, ev, sput, sputO, binK, binI, unK, builtinK, pickK, Nat.reduceBEq, Nat.reduceAdd, Int.reduceBEq, Int.reduceBNe, Int.reduceLT, aPost, resK, tup, tyf, decide_true, callK, List.nil_append, List.append_nil, List.toList_toArray, List.cons_append]
    refine awk ?_
    simp (config := {maxSteps := 2000000}) only [↓aw_region, ↓aw_skip, ↓aw_seq, ↓aw_block, ↓aw_exit, ↓aw_ret, ↓sops_nil, ↓sops_go, ↓dops_nil, ↓dopsX_nil, ↓dopsR_nil, ↓vdn, vup, extr_20, extr_21, extr_30, extr_31, extr_32, List.map_cons, List.map_nil, cond_true, cond_false, aop, aThen, aBlock, argEnv, ev, sput, sputO, binK, binI, unK, builtinK, pickK, Nat.reduceBEq, Nat.reduceAdd, Int.reduceBEq, Int.reduceBNe, Int.reduceLT, aPost, resK, tup, tyf]

/-- Close of the pairs gathered makes the order again. -/
theorem closed_mid [BitTab prog 1] {h : Heap} {ov av : Value} {q : List Int} {i j : Int} (hov : IntSl h ov q) (hq : ord q = true) (hav : OwnP 33 h av (castP (allTo q q.length))) :
    AWS prog 159 (q8_23.seq ((q8_24.seq (SCode.cond (Operand.tmp 110) (q8_25.seq SCode.ret) SCode.skip)).seq (q8_26.seq (q8_27.seq (q8_28.seq ((q8_29.seq (SCode.cond (Operand.tmp 143) (q8_30.seq SCode.ret) SCode.skip)).seq (q8_31.seq SCode.ret)))))))
      (aPost prog [ResultVar.tmp 8] fun r _ => r = .bool true) [(0, vint (q.length : Nat)), (2, vint i), (3, vint j), (8, .bool false), (9, ov), (10, .int .i64 0), (13, av)] h := by
  have hlen := ord_len hq
  have hal := all_len hq
  have hcl := castP_len (allTo q q.length)
  refine aws_cut fun N hN => ?_
  simp (config := {maxSteps := 2000000}) only [↓aw_region, ↓aw_skip, ↓aw_seq, ↓aw_block, ↓aw_exit, ↓aw_ret, ↓sops_nil, ↓sops_go, ↓dops_nil, ↓dopsX_nil, ↓dopsR_nil, ↓vdn, vup, extr_20, extr_21, extr_30, extr_31, extr_32, List.map_cons, List.map_nil, cond_true, cond_false, aop, aThen, aBlock, argEnv, ev, sput, sputO, binK, binI, unK, builtinK, pickK, Nat.reduceBEq, Nat.reduceAdd, Int.reduceBEq, Int.reduceBNe, Int.reduceLT, aPost, resK, tup, tyf, callK, List.nil_append, List.append_nil, List.toList_toArray, List.cons_append]
  refine (clonep_call hav.pair (by omega)).mono ?_
  rintro l2 _ ⟨hl2, g2, rfl⟩
  refine (close_call (n := (q.length : Nat)) hl2 (by omega)).mono ?_
  rintro _ h6 ⟨hE6, s2, e2, rfl, hr2⟩
  rw [CloseR, prs_all hq, if_pos rfl, Int.toNat_natCast, natP_cast, close_all hq] at hr2
  obtain ⟨rfl, hs2⟩ := hr2
  have hE : Ext (fun _ => False) h h6 := (Ext.app _ _ _).trans hE6
  simp (config := {maxSteps := 2000000}) only [↓aw_region, ↓aw_skip, ↓aw_seq, ↓aw_block, ↓aw_exit, ↓aw_ret, ↓sops_nil, ↓sops_go, ↓dops_nil, ↓dopsX_nil, ↓dopsR_nil, ↓vdn, vup, extr_20, extr_21, extr_30, extr_31, extr_32, List.map_cons, List.map_nil, cond_true, cond_false, aop, aThen, aBlock, argEnv, ev, sput, sputO, binK, binI, unK, builtinK, pickK, Nat.reduceBEq, Nat.reduceAdd, Int.reduceBEq, Int.reduceBNe, Int.reduceLT, aPost, resK, tup, tyf]
  refine hN [(0, vint (q.length : Nat)), (2, vint i), (3, vint j), (8, .bool false), (9, ov), (10, .int .i64 0), (13, av), (16, s2)] _ _ ?_ (by simp (config := {maxSteps := 2000000}) only [↓aw_region, ↓aw_skip, ↓aw_seq, ↓aw_block, ↓aw_exit, ↓aw_ret, ↓sops_nil, ↓sops_go, ↓dops_nil, ↓dopsX_nil, ↓dopsR_nil, ↓vdn, vup, extr_20, extr_21, extr_30, extr_31, extr_32, List.map_cons, List.map_nil, cond_true, cond_false, aop, aThen, aBlock, argEnv, ev, sput, sputO, binK, binI, unK, builtinK, pickK, Nat.reduceBEq, Nat.reduceAdd, Int.reduceBEq, Int.reduceBNe, Int.reduceLT, aPost, resK, tup, tyf])
  clear hN N
  refine aws_cut fun N hN => ?_
  simp (config := {maxSteps := 2000000}) only [↓aw_region, ↓aw_skip, ↓aw_seq, ↓aw_block, ↓aw_exit, ↓aw_ret, ↓sops_nil, ↓sops_go, ↓dops_nil, ↓dopsX_nil, ↓dopsR_nil, ↓vdn, vup, extr_20, extr_21, extr_30, extr_31, extr_32, List.map_cons, List.map_nil, cond_true, cond_false, aop, aThen, aBlock, argEnv, ev, sput, sputO, binK, binI, unK, builtinK, pickK, Nat.reduceBEq, Nat.reduceAdd, Int.reduceBEq, Int.reduceBNe, Int.reduceLT, aPost, resK, tup, tyf, callK, List.nil_append, List.append_nil, List.toList_toArray, List.cons_append]
  refine (equal_call hs2 (IntSl_ext hov hE) (by omega) (by omega)).mono ?_
  rintro _ h7 ⟨rfl, rfl⟩
  simp (config := {maxSteps := 2000000}) only [↓aw_region, ↓aw_skip, ↓aw_seq, ↓aw_block, ↓aw_exit, ↓aw_ret, ↓sops_nil, ↓sops_go, ↓dops_nil, ↓dopsX_nil, ↓dopsR_nil, ↓vdn, vup, extr_20, extr_21, extr_30, extr_31, extr_32, List.map_cons, List.map_nil, cond_true, cond_false, aop, aThen, aBlock, argEnv, ev, sput, sputO, binK, binI, unK, builtinK, pickK, Nat.reduceBEq, Nat.reduceAdd, Int.reduceBEq, Int.reduceBNe, Int.reduceLT, aPost, resK, tup, tyf, decide_true]
  exact hN _ _ _ (closed_fin (i := i) (j := j) (IntSl_ext hov hE) hq (hav.ext hE)) (by simp (config := {maxSteps := 2000000}) only [↓aw_region, ↓aw_skip, ↓aw_seq, ↓aw_block, ↓aw_exit, ↓aw_ret, ↓sops_nil, ↓sops_go, ↓dops_nil, ↓dopsX_nil, ↓dopsR_nil, ↓vdn, vup, extr_20, extr_21, extr_30, extr_31, extr_32, List.map_cons, List.map_nil, cond_true, cond_false, aop, aThen, aBlock, argEnv, ev, sput, sputO, binK, binI, unK, builtinK, pickK, Nat.reduceBEq, Nat.reduceAdd, Int.reduceBEq, Int.reduceBNe, Int.reduceLT, aPost, resK, tup, tyf])

theorem s8_callW [Tabs Tryd.prog] {args : List Value} {h : Heap} {Q : Value → Heap → Prop} (hsz : args.length ≤ 159) (hk : AWS Tryd.prog 159 s8 (aPost Tryd.prog [.tmp 8] Q) (argEnv 0 args) h) : ACall Tryd.prog 8 args h Q :=
  acall_w Tryd.func8 rfl (enters_of Tryd.func8 (by kernel_rfl) rfl) rfl rfl (by decide) s8_strip s8_ok hsz hk

/-- Each pair holds. -/
theorem closed_each [BitTab prog 1] {h : Heap} {v ov : Value} {q : List Int} {ps : List (Int × Int)} {i j : Int} (hp : PairSl h v ps) (hpl : ps.length ≤ 30) (hov : IntSl h ov q) (hq : ord q = true)
    (hin : ∀ k, k < ps.length → ∃ a b : Nat, ps.getD k (0, 0) = ((a : Int), (b : Int)) ∧ a < q.length ∧ b < q.length ∧ ab q a b = true) {N : Env → Heap → Prop} {Q0 : Exit → Env → Heap → Prop}
    (hN : ∀ hp e1, Ext (fun _ => False) h hp → ELe e1 [(0, vint (q.length : Nat)), (1, v), (2, vint i), (3, vint j), (8, .bool false), (9, ov), (10, .int .i64 0)] → N e1 hp) :
    aw prog 159 (.seq q8_6 (.block 0 (.loop l8_0))) (aThen N Q0) [(0, vint (q.length : Nat)), (1, v), (2, vint i), (3, vint j), (8, .bool false), (9, ov), (10, .int .i64 0)] h := by
  have hln := ord_len hq
  simp (config := {maxSteps := 2000000}) only [↓aw_region, ↓aw_skip, ↓aw_seq, ↓aw_block, ↓aw_exit, ↓aw_ret, ↓sops_nil, ↓sops_go, ↓dops_nil, ↓dopsX_nil, ↓dopsR_nil, ↓vdn, vup, extr_20, extr_21, extr_30, extr_31, extr_32, List.map_cons, List.map_nil, cond_true, cond_false, aop, aThen, aBlock, argEnv, ev, sput, sputO, binK, binI, unK, builtinK, pickK, Nat.reduceBEq, Nat.reduceAdd, Int.reduceBEq, Int.reduceBNe, Int.reduceLT, aPost, resK, tup, tyf, hp.len, ↓aw_loop_eq]
  refine aws_hide fun Q hQ => ?_
  refine aw_loop (γ := Nat × Heap) (fun s => s.1 ≤ ps.length ∧ Ext (fun _ => False) h s.2)
    (fun s => ([(0, vint (q.length : Nat)), (1, v), (2, vint i), (3, vint j), (8, .bool false), (9, ov), (10, .int .i64 0), (53, v), (54, vint ps.length), (55, vint s.1)], s.2)) (fun s => ps.length - s.1) (0, h)
    ⟨Nat.zero_le _, Ext.refl _ _⟩ (by simp (config := {maxSteps := 2000000}) only [↓aw_region, ↓aw_skip, ↓aw_seq, ↓aw_block, ↓aw_exit, ↓aw_ret, ↓sops_nil, ↓sops_go, ↓dops_nil, ↓dopsX_nil, ↓dopsR_nil, ↓vdn, vup, extr_20, extr_21, extr_30, extr_31, extr_32, List.map_cons, List.map_nil, cond_true, cond_false, aop, aThen, aBlock, argEnv, ev, sput, sputO, binK, binI, unK, builtinK, pickK, Nat.reduceBEq, Nat.reduceAdd, Int.reduceBEq, Int.reduceBNe, Int.reduceLT, aPost, resK, tup, tyf, Int.natCast_zero]) rfl ?_
  rintro ⟨k, g⟩ ⟨hk, hE⟩
  simp only at hk hE
  refine aw_hide fun Q2 hQ2 => ?_
  by_cases hkn : (k : Int) < ps.length
  · have hkn' : k < ps.length := by omega
    obtain ⟨a, b, hab, ha, hb, ht⟩ := hin k hkn'
    have hvp := hp.ext hE
    have hld := hvp.load shp_33 hkn'
    rw [hab] at hld
    have c0 := get_new g (Blk.cells [.int .i64 0, .int .i64 0] 33 false)
    obtain ⟨G, hG⟩ : ∃ G, G = (g ++ [Blk.cells [.int .i64 0, .int .i64 0] 33 false]).set g.length (.cells [vint (a : Nat), vint (b : Nat)] 33 false) := ⟨_, rfl⟩
    have c1 : G[g.length]? = some (.cells [.int .i64 (a : Nat), .int .i64 (b : Nat)] 33 false) := by rw [hG]; exact get_set (by simp) _
    have hEG : Ext (fun _ => False) g G := ⟨by rw [hG]; simp, fun q hq _ => by rw [hG, List.getElem?_set_ne (by omega), List.getElem?_append_left hq]⟩
    have hvk : IntSl G ov q := IntSl_ext hov (hE.trans hEG)
    have hto := testO hq ha b
    rw [ht, if_pos rfl] at hto
    simp only [l8_0]
    simp (config := {maxSteps := 2000000}) only [↓aw_region, ↓aw_skip, ↓aw_seq, ↓aw_block, ↓aw_exit, ↓aw_ret, ↓sops_nil, ↓sops_go, ↓dops_nil, ↓dopsX_nil, ↓dopsR_nil, ↓vdn, vup, extr_20, extr_21, extr_30, extr_31, extr_32, List.map_cons, List.map_nil, cond_true, cond_false, aop, aThen, aBlock, argEnv, ev, sput, sputO, binK, binI, unK, builtinK, pickK, Nat.reduceBEq, Nat.reduceAdd, Int.reduceBEq, Int.reduceBNe, Int.reduceLT, aPost, resK, tup, tyf, hkn, hvp.idx el_52 esz_33 hkn', hld, allocK, newPtr, zero_33]
    rw [pst c0 rfl, ← hG]
    refine aw_drawX [] (by kernel_rfl) (by kernel_rfl) (by kernel_rfl) (by kernel_rfl) ?_
    simp (config := {maxSteps := 2000000}) only [↓aw_region, ↓aw_skip, ↓aw_seq, ↓aw_block, ↓aw_exit, ↓aw_ret, ↓sops_nil, ↓sops_go, ↓dops_nil, ↓dopsX_nil, ↓dopsR_nil, ↓vdn, vup, extr_20, extr_21, extr_30, extr_31, extr_32, List.map_cons, List.map_nil, cond_true, cond_false, aop, aThen, aBlock, argEnv, ev, sput, sputO, binK, binI, unK, builtinK, pickK, Nat.reduceBEq, Nat.reduceAdd, Int.reduceBEq, Int.reduceBNe, Int.reduceLT, aPost, resK, tup, tyf, pidx0, pidx1, pl0 c1, pl1 c1, hvk.idx el_22 esz_3 ha, hvk.load shp_3 ha, Int.natCast_nonneg, hto, add1 (show k < 9223372036854775807 by omega)]
    exact hQ2 _ _ _ ⟨(k + 1, _), ⟨by simp only; omega, hE.trans hEG⟩, by simp only; omega, by simp (config := {maxSteps := 2000000}) only [↓aw_region, ↓aw_skip, ↓aw_seq, ↓aw_block, ↓aw_exit, ↓aw_ret, ↓sops_nil, ↓sops_go, ↓dops_nil, ↓dopsX_nil, ↓dopsR_nil, ↓vdn, vup, extr_20, extr_21, extr_30, extr_31, extr_32, List.map_cons, List.map_nil, cond_true, cond_false, aop, aThen, aBlock, argEnv, ev, sput, sputO, binK, binI, unK, builtinK, pickK, Nat.reduceBEq, Nat.reduceAdd, Int.reduceBEq, Int.reduceBNe, Int.reduceLT, aPost, resK, tup, tyf], rfl⟩
  · obtain rfl : k = ps.length := by omega
    simp (config := {maxSteps := 2000000}) only [↓aw_region, ↓aw_skip, ↓aw_seq, ↓aw_block, ↓aw_exit, ↓aw_ret, ↓sops_nil, ↓sops_go, ↓dops_nil, ↓dopsX_nil, ↓dopsR_nil, ↓vdn, vup, extr_20, extr_21, extr_30, extr_31, extr_32, List.map_cons, List.map_nil, cond_true, cond_false, aop, aThen, aBlock, argEnv, ev, sput, sputO, binK, binI, unK, builtinK, pickK, Nat.reduceBEq, Nat.reduceAdd, Int.reduceBEq, Int.reduceBNe, Int.reduceLT, aPost, resK, tup, tyf, l8_0, Int.lt_irrefl]
    refine hQ2 _ _ _ (hQ _ _ _ ?_)
    simp (config := {maxSteps := 2000000}) only [↓aw_region, ↓aw_skip, ↓aw_seq, ↓aw_block, ↓aw_exit, ↓aw_ret, ↓sops_nil, ↓sops_go, ↓dops_nil, ↓dopsX_nil, ↓dopsR_nil, ↓vdn, vup, extr_20, extr_21, extr_30, extr_31, extr_32, List.map_cons, List.map_nil, cond_true, cond_false, aop, aThen, aBlock, argEnv, ev, sput, sputO, binK, binI, unK, builtinK, pickK, Nat.reduceBEq, Nat.reduceAdd, Int.reduceBEq, Int.reduceBNe, Int.reduceLT, aPost, resK, tup, tyf, if_true]
    exact hN _ _ hE (by simp (config := {maxSteps := 2000000}) only [↓aw_region, ↓aw_skip, ↓aw_seq, ↓aw_block, ↓aw_exit, ↓aw_ret, ↓sops_nil, ↓sops_go, ↓dops_nil, ↓dopsX_nil, ↓dopsR_nil, ↓vdn, vup, extr_20, extr_21, extr_30, extr_31, extr_32, List.map_cons, List.map_nil, cond_true, cond_false, aop, aThen, aBlock, argEnv, ev, sput, sputO, binK, binI, unK, builtinK, pickK, Nat.reduceBEq, Nat.reduceAdd, Int.reduceBEq, Int.reduceBNe, Int.reduceLT, aPost, resK, tup, tyf])

theorem law_closed [BitTab prog 1] {h : Heap} {v : Value} {ps : List (Int × Int)} (n : Int) (hp : PairSl h v ps) (hpl : ps.length < 9223372036854775808) (i j : Int) : ACall prog 8 [vint n, v, vint i, vint j] h fun r _ => r = .bool true := by
  have awk : ∀ {K : Value → Heap → Prop} {g : Heap}, K (.bool true) g → ACall prog 20 [] g K := fun {K g} hk => awake_call.mono fun v h' ⟨h1, h2⟩ => by rw [h1, h2]; exact hk
  have hp35 : (ps.take 35).length < 9223372036854775808 := by simp; omega
  refine s8_callW (by simp) ?_
  simp only [s8]
  refine aws_cut fun N hN => ?_
  simp (config := {maxSteps := 2000000}) only [↓aw_region, ↓aw_skip, ↓aw_seq, ↓aw_block, ↓aw_exit, ↓aw_ret, ↓sops_nil, ↓sops_go, ↓dops_nil, ↓dopsX_nil, ↓dopsR_nil, ↓vdn, vup, extr_20, extr_21, extr_30, extr_31, extr_32, List.map_cons, List.map_nil, cond_true, cond_false, aop, aThen, aBlock, argEnv, ev, sput, sputO, binK, binI, unK, builtinK, pickK, Nat.reduceBEq, Nat.reduceAdd, Int.reduceBEq, Int.reduceBNe, Int.reduceLT, aPost, resK, tup, tyf]
  refine hN [(0, vint n), (1, v), (2, vint i), (3, vint j), (8, .bool false)] _ _ ?_ (by simp (config := {maxSteps := 2000000}) only [↓aw_region, ↓aw_skip, ↓aw_seq, ↓aw_block, ↓aw_exit, ↓aw_ret, ↓sops_nil, ↓sops_go, ↓dops_nil, ↓dopsX_nil, ↓dopsR_nil, ↓vdn, vup, extr_20, extr_21, extr_30, extr_31, extr_32, List.map_cons, List.map_nil, cond_true, cond_false, aop, aThen, aBlock, argEnv, ev, sput, sputO, binK, binI, unK, builtinK, pickK, Nat.reduceBEq, Nat.reduceAdd, Int.reduceBEq, Int.reduceBNe, Int.reduceLT, aPost, resK, tup, tyf])
  clear hN N
  refine aws_cut fun N hN => ?_
  simp (config := {maxSteps := 2000000}) only [↓aw_region, ↓aw_skip, ↓aw_seq, ↓aw_block, ↓aw_exit, ↓aw_ret, ↓sops_nil, ↓sops_go, ↓dops_nil, ↓dopsX_nil, ↓dopsR_nil, ↓vdn, vup, extr_20, extr_21, extr_30, extr_31, extr_32, List.map_cons, List.map_nil, cond_true, cond_false, aop, aThen, aBlock, argEnv, ev, sput, sputO, binK, binI, unK, builtinK, pickK, Nat.reduceBEq, Nat.reduceAdd, Int.reduceBEq, Int.reduceBNe, Int.reduceLT, aPost, resK, tup, tyf, callK, List.nil_append, List.append_nil, List.toList_toArray, List.cons_append]
  refine (pairs_call hp hpl).mono ?_
  rintro l1 _ ⟨hl1, g1, rfl⟩
  refine (close_call (n := n) hl1 hp35).mono ?_
  rintro _ h2 ⟨hE2, s1, e1, rfl, hr1⟩
  simp (config := {maxSteps := 2000000}) only [↓aw_region, ↓aw_skip, ↓aw_seq, ↓aw_block, ↓aw_exit, ↓aw_ret, ↓sops_nil, ↓sops_go, ↓dops_nil, ↓dopsX_nil, ↓dopsR_nil, ↓vdn, vup, extr_20, extr_21, extr_30, extr_31, extr_32, List.map_cons, List.map_nil, cond_true, cond_false, aop, aThen, aBlock, argEnv, ev, sput, sputO, binK, binI, unK, builtinK, pickK, Nat.reduceBEq, Nat.reduceAdd, Int.reduceBEq, Int.reduceBNe, Int.reduceLT, aPost, resK, tup, tyf]
  refine hN [(0, vint n), (1, v), (2, vint i), (3, vint j), (8, .bool false), (9, s1), (10, .int .i64 e1)] _ _ ?_ (by simp (config := {maxSteps := 2000000}) only [↓aw_region, ↓aw_skip, ↓aw_seq, ↓aw_block, ↓aw_exit, ↓aw_ret, ↓sops_nil, ↓sops_go, ↓dops_nil, ↓dopsX_nil, ↓dopsR_nil, ↓vdn, vup, extr_20, extr_21, extr_30, extr_31, extr_32, List.map_cons, List.map_nil, cond_true, cond_false, aop, aThen, aBlock, argEnv, ev, sput, sputO, binK, binI, unK, builtinK, pickK, Nat.reduceBEq, Nat.reduceAdd, Int.reduceBEq, Int.reduceBNe, Int.reduceLT, aPost, resK, tup, tyf])
  clear hN N
  have hE02 : Ext (fun _ => False) h h2 := (Ext.app _ _ _).trans hE2
  have hp2 := hp.ext hE02
  rw [CloseR, prs_take] at hr1
  refine aws_cut fun N hN => ?_
  cases hprs : prs n ps with
  | false =>
    rw [hprs, if_neg (by decide)] at hr1
    obtain ⟨rfl, rfl⟩ := hr1
    simp (config := {maxSteps := 2000000}) only [↓aw_region, ↓aw_skip, ↓aw_seq, ↓aw_block, ↓aw_exit, ↓aw_ret, ↓sops_nil, ↓sops_go, ↓dops_nil, ↓dopsX_nil, ↓dopsR_nil, ↓vdn, vup, extr_20, extr_21, extr_30, extr_31, extr_32, List.map_cons, List.map_nil, cond_true, cond_false, aop, aThen, aBlock, argEnv, ev, sput, sputO, binK, binI, unK, builtinK, pickK, Nat.reduceBEq, Nat.reduceAdd, Int.reduceBEq, Int.reduceBNe, Int.reduceLT, aPost, resK, tup, tyf, callK, List.nil_append, List.append_nil, List.toList_toArray, List.cons_append]
    refine awk ?_
    simp (config := {maxSteps := 2000000}) only [↓aw_region, ↓aw_skip, ↓aw_seq, ↓aw_block, ↓aw_exit, ↓aw_ret, ↓sops_nil, ↓sops_go, ↓dops_nil, ↓dopsX_nil, ↓dopsR_nil, ↓vdn, vup, extr_20, extr_21, extr_30, extr_31, extr_32, List.map_cons, List.map_nil, cond_true, cond_false, aop, aThen, aBlock, argEnv, ev, sput, sputO, binK, binI, unK, builtinK, pickK, Nat.reduceBEq, Nat.reduceAdd, Int.reduceBEq, Int.reduceBNe, Int.reduceLT, aPost, resK, tup, tyf]
  | true =>
    rw [hprs, if_pos rfl, take_prs hprs] at hr1
    have hp0 := hprs
    simp only [prs, Bool.and_eq_true, decide_eq_true_eq] at hp0
    obtain ⟨⟨hall, hn1, hn6⟩, hl30⟩ := hp0
    obtain ⟨n, rfl⟩ : ∃ k : Nat, n = k := ⟨n.toNat, by omega⟩
    have hok : ∀ k, k < ps.length → ∃ i j : Nat, ps.getD k (0, 0) = ((i : Int), (j : Int)) ∧ i < n ∧ j < n := fun k hk => by
      rw [← okPTo_all] at hall
      have := List.all_eq_true.1 hall k (List.mem_range.2 hk)
      generalize ps.getD k (0, 0) = p at this ⊢
      obtain ⟨x, y⟩ := p
      simp only [okP, Bool.and_eq_true, decide_eq_true_eq] at this
      exact ⟨x.toNat, y.toNat, by rw [Int.toNat_of_nonneg (by omega), Int.toNat_of_nonneg (by omega)], by omega, by omega⟩
    have hpn : ∀ p ∈ natP ps, p.1 < n ∧ p.2 < n := fun p hp => by
      obtain ⟨q, hq, rfl⟩ := List.mem_map.1 hp
      obtain ⟨k, hk, rfl⟩ := List.mem_iff_getElem.1 hq
      obtain ⟨i, j, h1, h2, h3⟩ := hok k hk
      rw [List.getD, List.getElem?_eq_getElem hk, Option.getD_some] at h1
      rw [h1]; simp only [Int.toNat_natCast]; omega
    rw [Int.toNat_natCast] at hr1
    cases hc : close (zeros n) (natP ps) with
    | none =>
      rw [hc] at hr1
      obtain ⟨rfl, rfl⟩ := hr1
      simp (config := {maxSteps := 2000000}) only [↓aw_region, ↓aw_skip, ↓aw_seq, ↓aw_block, ↓aw_exit, ↓aw_ret, ↓sops_nil, ↓sops_go, ↓dops_nil, ↓dopsX_nil, ↓dopsR_nil, ↓vdn, vup, extr_20, extr_21, extr_30, extr_31, extr_32, List.map_cons, List.map_nil, cond_true, cond_false, aop, aThen, aBlock, argEnv, ev, sput, sputO, binK, binI, unK, builtinK, pickK, Nat.reduceBEq, Nat.reduceAdd, Int.reduceBEq, Int.reduceBNe, Int.reduceLT, aPost, resK, tup, tyf, callK, List.nil_append, List.append_nil, List.toList_toArray, List.cons_append]
      refine awk ?_
      simp (config := {maxSteps := 2000000}) only [↓aw_region, ↓aw_skip, ↓aw_seq, ↓aw_block, ↓aw_exit, ↓aw_ret, ↓sops_nil, ↓sops_go, ↓dops_nil, ↓dopsX_nil, ↓dopsR_nil, ↓vdn, vup, extr_20, extr_21, extr_30, extr_31, extr_32, List.map_cons, List.map_nil, cond_true, cond_false, aop, aThen, aBlock, argEnv, ev, sput, sputO, binK, binI, unK, builtinK, pickK, Nat.reduceBEq, Nat.reduceAdd, Int.reduceBEq, Int.reduceBNe, Int.reduceLT, aPost, resK, tup, tyf]
    | some q =>
      rw [hc] at hr1
      obtain ⟨rfl, hq1⟩ := hr1
      obtain ⟨ho, hql, hre⟩ := close_ord (by omega) hpn hc
      subst hql
      have hln := ord_len ho
      have hin : ∀ k, k < ps.length → ∃ a b : Nat, ps.getD k (0, 0) = ((a : Int), (b : Int)) ∧ a < q.length ∧ b < q.length ∧ ab q a b = true := fun k hk => by
        obtain ⟨a, b, h1, h2, h3⟩ := hok k hk
        refine ⟨a, b, h1, h2, h3, (hre a b).2 (.one (List.mem_map.2 ⟨ps.getD k (0, 0), ?_, ?_⟩))⟩
        · rw [List.getD, List.getElem?_eq_getElem hk, Option.getD_some]; exact List.getElem_mem hk
        · rw [h1]; rfl
      have hrx : ∀ x ∈ q, -9223372036854775808 ≤ x ∧ x < 9223372036854775808 := fun y hy => by
        obtain ⟨k, hk, rfl⟩ := List.mem_iff_getElem.1 hy
        have h1 := ord_nat ho hk
        have h2 := pow6 hln.2
        rw [List.getD, List.getElem?_eq_getElem hk, Option.getD_some] at h1
        omega
      simp (config := {maxSteps := 2000000}) only [↓aw_region, ↓aw_skip, ↓aw_seq, ↓aw_block, ↓aw_exit, ↓aw_ret, ↓sops_nil, ↓sops_go, ↓dops_nil, ↓dopsX_nil, ↓dopsR_nil, ↓vdn, vup, extr_20, extr_21, extr_30, extr_31, extr_32, List.map_cons, List.map_nil, cond_true, cond_false, aop, aThen, aBlock, argEnv, ev, sput, sputO, binK, binI, unK, builtinK, pickK, Nat.reduceBEq, Nat.reduceAdd, Int.reduceBEq, Int.reduceBNe, Int.reduceLT, aPost, resK, tup, tyf, callK, List.nil_append, List.append_nil, List.toList_toArray, List.cons_append]
      refine (rpairs_call hp2 hpl).mono ?_
      rintro _ h5 ⟨rfl, rfl⟩
      simp (config := {maxSteps := 2000000}) only [↓aw_region, ↓aw_skip, ↓aw_seq, ↓aw_block, ↓aw_exit, ↓aw_ret, ↓sops_nil, ↓sops_go, ↓dops_nil, ↓dopsX_nil, ↓dopsR_nil, ↓vdn, vup, extr_20, extr_21, extr_30, extr_31, extr_32, List.map_cons, List.map_nil, cond_true, cond_false, aop, aThen, aBlock, argEnv, ev, sput, sputO, binK, binI, unK, builtinK, pickK, Nat.reduceBEq, Nat.reduceAdd, Int.reduceBEq, Int.reduceBNe, Int.reduceLT, aPost, resK, tup, tyf, hprs]
      refine hN [(0, vint (q.length : Nat)), (1, v), (2, vint i), (3, vint j), (8, .bool false), (9, s1), (10, .int .i64 0)] _ _ ?_ (by simp (config := {maxSteps := 2000000}) only [↓aw_region, ↓aw_skip, ↓aw_seq, ↓aw_block, ↓aw_exit, ↓aw_ret, ↓sops_nil, ↓sops_go, ↓dops_nil, ↓dopsX_nil, ↓dopsR_nil, ↓vdn, vup, extr_20, extr_21, extr_30, extr_31, extr_32, List.map_cons, List.map_nil, cond_true, cond_false, aop, aThen, aBlock, argEnv, ev, sput, sputO, binK, binI, unK, builtinK, pickK, Nat.reduceBEq, Nat.reduceAdd, Int.reduceBEq, Int.reduceBNe, Int.reduceLT, aPost, resK, tup, tyf])
      clear hN N
      refine aws_cut fun N hN => ?_
      have hself : ((q.length : Int) != q.length) = false := bne_self_eq_false _
      simp (config := {maxSteps := 2000000}) only [↓aw_region, ↓aw_skip, ↓aw_seq, ↓aw_block, ↓aw_exit, ↓aw_ret, ↓sops_nil, ↓sops_go, ↓dops_nil, ↓dopsX_nil, ↓dopsR_nil, ↓vdn, vup, extr_20, extr_21, extr_30, extr_31, extr_32, List.map_cons, List.map_nil, cond_true, cond_false, aop, aThen, aBlock, argEnv, ev, sput, sputO, binK, binI, unK, builtinK, pickK, Nat.reduceBEq, Nat.reduceAdd, Int.reduceBEq, Int.reduceBNe, Int.reduceLT, aPost, resK, tup, tyf, callK, List.nil_append, List.append_nil, List.toList_toArray, List.cons_append]
      refine (rorder_call hq1 (by omega) hrx).mono ?_
      rintro _ h5 ⟨rfl, rfl⟩
      simp (config := {maxSteps := 2000000}) only [↓aw_region, ↓aw_skip, ↓aw_seq, ↓aw_block, ↓aw_exit, ↓aw_ret, ↓sops_nil, ↓sops_go, ↓dops_nil, ↓dopsX_nil, ↓dopsR_nil, ↓vdn, vup, extr_20, extr_21, extr_30, extr_31, extr_32, List.map_cons, List.map_nil, cond_true, cond_false, aop, aThen, aBlock, argEnv, ev, sput, sputO, binK, binI, unK, builtinK, pickK, Nat.reduceBEq, Nat.reduceAdd, Int.reduceBEq, Int.reduceBNe, Int.reduceLT, aPost, resK, tup, tyf, ho, hq1.len, hself]
      refine hN [(0, vint (q.length : Nat)), (1, v), (2, vint i), (3, vint j), (8, .bool false), (9, s1), (10, .int .i64 0)] _ _ ?_ (by simp (config := {maxSteps := 2000000}) only [↓aw_region, ↓aw_skip, ↓aw_seq, ↓aw_block, ↓aw_exit, ↓aw_ret, ↓sops_nil, ↓sops_go, ↓dops_nil, ↓dopsX_nil, ↓dopsR_nil, ↓vdn, vup, extr_20, extr_21, extr_30, extr_31, extr_32, List.map_cons, List.map_nil, cond_true, cond_false, aop, aThen, aBlock, argEnv, ev, sput, sputO, binK, binI, unK, builtinK, pickK, Nat.reduceBEq, Nat.reduceAdd, Int.reduceBEq, Int.reduceBNe, Int.reduceLT, aPost, resK, tup, tyf])
      clear hN N
      refine aws_cut fun N hN => ?_
      refine closed_each hp2 hl30 hq1 ho hin fun g e1 hEg hle => ?_
      refine hN [(0, vint (q.length : Nat)), (1, v), (2, vint i), (3, vint j), (8, .bool false), (9, s1), (10, .int .i64 0)] _ _ ?_ hle
      clear hN N
      refine aws_cut fun N hN => ?_
      simp (config := {maxSteps := 2000000}) only [↓aw_region, ↓aw_skip, ↓aw_seq, ↓aw_block, ↓aw_exit, ↓aw_ret, ↓sops_nil, ↓sops_go, ↓dops_nil, ↓dopsX_nil, ↓dopsR_nil, ↓vdn, vup, extr_20, extr_21, extr_30, extr_31, extr_32, List.map_cons, List.map_nil, cond_true, cond_false, aop, aThen, aBlock, argEnv, ev, sput, sputO, binK, binI, unK, builtinK, pickK, Nat.reduceBEq, Nat.reduceAdd, Int.reduceBEq, Int.reduceBNe, Int.reduceLT, aPost, resK, tup, tyf]
      refine hN [(0, vint (q.length : Nat)), (1, v), (2, vint i), (3, vint j), (8, .bool false), (9, s1), (10, .int .i64 0), (13, .slice none 0 0)] _ _ ?_ (by simp (config := {maxSteps := 2000000}) only [↓aw_region, ↓aw_skip, ↓aw_seq, ↓aw_block, ↓aw_exit, ↓aw_ret, ↓sops_nil, ↓sops_go, ↓dops_nil, ↓dopsX_nil, ↓dopsR_nil, ↓vdn, vup, extr_20, extr_21, extr_30, extr_31, extr_32, List.map_cons, List.map_nil, cond_true, cond_false, aop, aThen, aBlock, argEnv, ev, sput, sputO, binK, binI, unK, builtinK, pickK, Nat.reduceBEq, Nat.reduceAdd, Int.reduceBEq, Int.reduceBNe, Int.reduceLT, aPost, resK, tup, tyf])
      clear hN N
      refine aws_cut fun N hN => ?_
      refine closed_gather (IntSl_ext hq1 hEg) ho fun g2 av e1 hE2 hav _ hle => ?_
      refine hN [(0, vint (q.length : Nat)), (2, vint i), (3, vint j), (8, .bool false), (9, s1), (10, .int .i64 0), (13, av)] _ _ (closed_mid (i := i) (j := j) (IntSl_ext hq1 (hEg.trans hE2)) ho hav) ?_
      simp only [ele_cons, ele_nil] at hle ⊢
      simp only [hle, and_self, true_and]
end Go.Proofs.Tryd.Am

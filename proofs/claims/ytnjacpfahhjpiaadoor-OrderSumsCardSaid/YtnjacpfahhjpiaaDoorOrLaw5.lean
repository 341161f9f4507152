/-
  order: Chance and Height; the law OrderChances.
-/
import Derived.Test.YtnjacpfahhjpiaaDoorOrHeight
import Derived.Test.YtnjacpfahhjpiaaDoorFnC
set_option linter.all false
namespace Go.Proofs.Tryd.Am
open Go.Am Ord
set_option maxRecDepth 100000
set_option maxHeartbeats 1000000

/-- What Chance hands back. -/
def chanceV (o : List Int) (i j : Int) : Value := if ord o = true ∧ elI o i = true ∧ elI o j = true ∧ i ≠ j then .tuple #[fracV (befN o i.toNat j.toNat) (cn o), .int .i64 0] else .tuple #[frV 0 0, .int .i64 2]
/-- What Height hands back. -/
def heightV (o : List Int) (i : Int) : Value := if ord o = true ∧ elI o i = true then .tuple #[fracV (hsum o i.toNat) (cn o), .int .i64 0] else .tuple #[frV 0 0, .int .i64 2]
theorem low_chance (o : List Int) (i j : Int) : Low (chanceV o i j) := by
  unfold chanceV; split <;> exact .pair (low_frV _ _) (.int _ _)
theorem low_height (o : List Int) (i : Int) : Low (heightV o i) := by
  unfold heightV; split <;> exact .pair (low_frV _ _) (.int _ _)

theorem chance_call [BitTab prog 1] {h : Heap} {v : Value} {o : List Int} {i j : Int} (hv : IntSl h v o) (hl : o.length < 9223372036854775808) (hx : ∀ x ∈ o, -9223372036854775808 ≤ x ∧ x < 9223372036854775808) : APure prog 25 [v, vint i, vint j] h (chanceV o i j) := by
  refine ACall.forget (low_chance o i j) ?_
  refine s25_call (by simp) ?_
  simp only [s25]
  refine aw_cut fun N hN => ?_
  simp (config := {maxSteps := 2000000}) only [s25, ↓aw_region, ↓aw_skip, ↓aw_seq, ↓aw_block, ↓aw_exit, ↓aw_ret, ↓sops_nil, ↓sops_go, ↓dops_nil, ↓dopsX_nil, ↓dopsR_nil, ↓vdn, vup, extr_20, extr_21, extr_30, extr_31, extr_32, List.map_cons, List.map_nil, cond_true, cond_false, aop, aThen, aBlock, argEnv, ev, sput, sputO, binK, binI, unK, builtinK, pickK, Nat.reduceBEq, Nat.reduceAdd, Int.reduceBEq, Int.reduceBNe, Int.reduceLT, aPost, resK, tup, tyf, allocK, newPtr, zero_37]
  refine hN _ _ ?_
  clear hN N
  obtain ⟨n, hn⟩ : ∃ n, n = h.length := ⟨_, rfl⟩
  have c0 := get_new h (Blk.cells [.int .i64 0, .int .i64 0] 37 false)
  have hE0 : Ext (fun _ => False) h (h ++ [Blk.cells [.int .i64 0, .int .i64 0] 37 false]) := Ext.app _ _ _
  have hnl : n < (h ++ [Blk.cells [.int .i64 0, .int .i64 0] 37 false]).length := by rw [hn]; simp
  rw [← hn] at c0 ⊢
  generalize h ++ [Blk.cells [.int .i64 0, .int .i64 0] 37 false] = h1 at c0 hE0 hnl ⊢
  have hv1 := IntSl_ext hv hE0
  simp (config := {maxSteps := 2000000}) only [s25, ↓aw_region, ↓aw_skip, ↓aw_seq, ↓aw_block, ↓aw_exit, ↓aw_ret, ↓sops_nil, ↓sops_go, ↓dops_nil, ↓dopsX_nil, ↓dopsR_nil, ↓vdn, vup, extr_20, extr_21, extr_30, extr_31, extr_32, List.map_cons, List.map_nil, cond_true, cond_false, aop, aThen, aBlock, argEnv, ev, sput, sputO, binK, binI, unK, builtinK, pickK, Nat.reduceBEq, Nat.reduceAdd, Int.reduceBEq, Int.reduceBNe, Int.reduceLT, aPost, resK, tup, tyf, callK, List.nil_append, List.append_nil, List.toList_toArray, List.cons_append]
  refine (read_call hv1 hl hx).mono ?_
  rintro _ g ⟨rfl, rfl⟩
  simp (config := {maxSteps := 2000000}) only [s25, ↓aw_region, ↓aw_skip, ↓aw_seq, ↓aw_block, ↓aw_exit, ↓aw_ret, ↓sops_nil, ↓sops_go, ↓dops_nil, ↓dopsX_nil, ↓dopsR_nil, ↓vdn, vup, extr_20, extr_21, extr_30, extr_31, extr_32, List.map_cons, List.map_nil, cond_true, cond_false, aop, aThen, aBlock, argEnv, ev, sput, sputO, binK, binI, unK, builtinK, pickK, Nat.reduceBEq, Nat.reduceAdd, Int.reduceBEq, Int.reduceBNe, Int.reduceLT, aPost, resK, tup, tyf, allocK, newPtr, zeroN, zero_77]
  rw [storeRd]
  obtain ⟨hE, hb⟩ := rdBox g o
  generalize hgl : g.length = gl at hE hb hnl ⊢
  generalize (g ++ [Blk.cells (ordN 0) 77 false]).set gl (.cells (rdC o) 77 false) = G at hE hb ⊢
  have c1 : G[n]? = some (.cells [.int .i64 0, .int .i64 0] 37 false) := (hE.2 n (by omega) id).trans c0
  have hE1 := hE0.trans hE
  have cS : ∀ {x y : Int} {K : Value → Prop}, loadK prog (G.set n (.cells [vint x, vint y] 37 false)) 37 (.pointer (some ⟨n, 0, none⟩)) K = K (.agg #[vint x, vint y]) := fun {x y K} => loadF (get_set (get_lt c1) _)
  have hES : ∀ B : Blk, Ext (fun _ => False) h (G.set n B) := fun B => ⟨by have := hE1.1; simp; exact this, fun q hq _ => by rw [List.getElem?_set_ne (by omega)]; exact hE1.2 q hq id⟩
  by_cases hall : ord o = true ∧ elI o i = true ∧ elI o j = true ∧ i ≠ j
  · obtain ⟨ho, hi, hj, hij⟩ := hall
    have hlen := ord_len ho
    have hcl := cn_le ho
    have hcp := cn_pos ho
    have hrd : rdC o = ordC o := if_pos hlen
    rw [chanceV, if_pos ⟨ho, hi, hj, hij⟩]
    rw [hrd] at hb
    have hi' := hi
    have hj' := hj
    simp only [elI, Bool.and_eq_true, decide_eq_true_eq] at hi' hj'
    have hine : (i == j) = false := by simpa using hij
    obtain ⟨i, rfl⟩ : ∃ k : Nat, i = k := ⟨i.toNat, by omega⟩
    obtain ⟨j, rfl⟩ : ∃ k : Nat, j = k := ⟨j.toNat, by omega⟩
    have hi2 : ((i : Nat) : Int) < o.length := hi'.2
    have hj2 : ((j : Nat) : Int) < o.length := hj'.2
    simp (config := {maxSteps := 2000000}) only [s25, ↓aw_region, ↓aw_skip, ↓aw_seq, ↓aw_block, ↓aw_exit, ↓aw_ret, ↓sops_nil, ↓sops_go, ↓dops_nil, ↓dopsX_nil, ↓dopsR_nil, ↓vdn, vup, extr_20, extr_21, extr_30, extr_31, extr_32, List.map_cons, List.map_nil, cond_true, cond_false, aop, aThen, aBlock, argEnv, ev, sput, sputO, binK, binI, unK, builtinK, pickK, Nat.reduceBEq, Nat.reduceAdd, Int.reduceBEq, Int.reduceBNe, Int.reduceLT, aPost, resK, tup, tyf, ho, loadO hb shp_77 hlen.2, callK, List.nil_append, List.append_nil, List.toList_toArray, List.cons_append]
    refine element_call.mono ?_
    rintro _ _ ⟨rfl, rfl⟩
    simp (config := {maxSteps := 2000000}) only [s25, ↓aw_region, ↓aw_skip, ↓aw_seq, ↓aw_block, ↓aw_exit, ↓aw_ret, ↓sops_nil, ↓sops_go, ↓dops_nil, ↓dopsX_nil, ↓dopsR_nil, ↓vdn, vup, extr_20, extr_21, extr_30, extr_31, extr_32, List.map_cons, List.map_nil, cond_true, cond_false, aop, aThen, aBlock, argEnv, ev, sput, sputO, binK, binI, unK, builtinK, pickK, Nat.reduceBEq, Nat.reduceAdd, Int.reduceBEq, Int.reduceBNe, Int.reduceLT, aPost, resK, tup, tyf, hi2, Bool.true_and, loadO hb shp_77 hlen.2, callK, List.nil_append, List.append_nil, List.toList_toArray, List.cons_append]
    refine element_call.mono ?_
    rintro _ _ ⟨rfl, rfl⟩
    simp (config := {maxSteps := 2000000}) only [s25, ↓aw_region, ↓aw_skip, ↓aw_seq, ↓aw_block, ↓aw_exit, ↓aw_ret, ↓sops_nil, ↓sops_go, ↓dops_nil, ↓dopsX_nil, ↓dopsR_nil, ↓vdn, vup, extr_20, extr_21, extr_30, extr_31, extr_32, List.map_cons, List.map_nil, cond_true, cond_false, aop, aThen, aBlock, argEnv, ev, sput, sputO, binK, binI, unK, builtinK, pickK, Nat.reduceBEq, Nat.reduceAdd, Int.reduceBEq, Int.reduceBNe, Int.reduceLT, aPost, resK, tup, tyf, hj2, Bool.true_and, hine]
    refine aw_drawX [(3, 1), (5, 1), (6, 1)] (by kernel_rfl) (by kernel_rfl) (by kernel_rfl) (by kernel_rfl) ?_
    simp (config := {maxSteps := 2000000}) only [s25, ↓aw_region, ↓aw_skip, ↓aw_seq, ↓aw_block, ↓aw_exit, ↓aw_ret, ↓sops_nil, ↓sops_go, ↓dops_nil, ↓dopsX_nil, ↓dopsR_nil, ↓vdn, vup, extr_20, extr_21, extr_30, extr_31, extr_32, List.map_cons, List.map_nil, cond_true, cond_false, aop, aThen, aBlock, argEnv, ev, sput, sputO, binK, binI, unK, builtinK, pickK, Nat.reduceBEq, Nat.reduceAdd, Int.reduceBEq, Int.reduceBNe, Int.reduceLT, aPost, resK, tup, tyf, loadO hb shp_77 hlen.2, callK, List.nil_append, List.append_nil, List.toList_toArray, List.cons_append]
    have hbl := befN_le ho (show i < o.length by omega) (show j < o.length by omega) (by omega)
    refine ⟨_, _, before_call ho (show i < o.length by omega) (show j < o.length by omega), rfl, _, _, counted_call ho, rfl, _, _, frac_call hcp (by omega) (by omega), rfl, ?_⟩
    rw [Int.toNat_natCast, Int.toNat_natCast]
    obtain ⟨p, q, hpq⟩ := frac_form (befN o i j) (cn o)
    rw [hpq]
    simp (config := {maxSteps := 2000000}) only [s25, ↓aw_region, ↓aw_skip, ↓aw_seq, ↓aw_block, ↓aw_exit, ↓aw_ret, ↓sops_nil, ↓sops_go, ↓dops_nil, ↓dopsX_nil, ↓dopsR_nil, ↓vdn, vup, extr_20, extr_21, extr_30, extr_31, extr_32, List.map_cons, List.map_nil, cond_true, cond_false, aop, aThen, aBlock, argEnv, ev, sput, sputO, binK, binI, unK, builtinK, pickK, Nat.reduceBEq, Nat.reduceAdd, Int.reduceBEq, Int.reduceBNe, Int.reduceLT, aPost, resK, tup, tyf, storeF c1 rfl, cS]
    exact hES _
  · rw [chanceV, if_neg hall]
    have fin : ∀ {N : Env → Heap → Prop}, True := fun {N} => trivial
    cases ho : ord o with
    | false =>
      simp (config := {maxSteps := 2000000}) only [s25, ↓aw_region, ↓aw_skip, ↓aw_seq, ↓aw_block, ↓aw_exit, ↓aw_ret, ↓sops_nil, ↓sops_go, ↓dops_nil, ↓dopsX_nil, ↓dopsR_nil, ↓vdn, vup, extr_20, extr_21, extr_30, extr_31, extr_32, List.map_cons, List.map_nil, cond_true, cond_false, aop, aThen, aBlock, argEnv, ev, sput, sputO, binK, binI, unK, builtinK, pickK, Nat.reduceBEq, Nat.reduceAdd, Int.reduceBEq, Int.reduceBNe, Int.reduceLT, aPost, resK, tup, tyf, ho, List.toList_toArray, List.map_nil, bldF0, storeF c1 rfl, cS]
      exact ⟨rfl, hES _⟩
    | true =>
      have hlen := ord_len ho
      have hrd : rdC o = ordC o := if_pos hlen
      rw [hrd] at hb
      simp (config := {maxSteps := 2000000}) only [s25, ↓aw_region, ↓aw_skip, ↓aw_seq, ↓aw_block, ↓aw_exit, ↓aw_ret, ↓sops_nil, ↓sops_go, ↓dops_nil, ↓dopsX_nil, ↓dopsR_nil, ↓vdn, vup, extr_20, extr_21, extr_30, extr_31, extr_32, List.map_cons, List.map_nil, cond_true, cond_false, aop, aThen, aBlock, argEnv, ev, sput, sputO, binK, binI, unK, builtinK, pickK, Nat.reduceBEq, Nat.reduceAdd, Int.reduceBEq, Int.reduceBNe, Int.reduceLT, aPost, resK, tup, tyf, ho, loadO hb shp_77 hlen.2, callK, List.nil_append, List.append_nil, List.toList_toArray, List.cons_append]
      refine element_call.mono ?_
      rintro _ _ ⟨rfl, rfl⟩
      cases hi : (decide (0 ≤ i) && decide (i < o.length)) with
      | false =>
        simp (config := {maxSteps := 2000000}) only [s25, ↓aw_region, ↓aw_skip, ↓aw_seq, ↓aw_block, ↓aw_exit, ↓aw_ret, ↓sops_nil, ↓sops_go, ↓dops_nil, ↓dopsX_nil, ↓dopsR_nil, ↓vdn, vup, extr_20, extr_21, extr_30, extr_31, extr_32, List.map_cons, List.map_nil, cond_true, cond_false, aop, aThen, aBlock, argEnv, ev, sput, sputO, binK, binI, unK, builtinK, pickK, Nat.reduceBEq, Nat.reduceAdd, Int.reduceBEq, Int.reduceBNe, Int.reduceLT, aPost, resK, tup, tyf, hi, List.toList_toArray, List.map_nil, bldF0, storeF c1 rfl, cS]
        exact ⟨rfl, hES _⟩
      | true =>
        simp (config := {maxSteps := 2000000}) only [s25, ↓aw_region, ↓aw_skip, ↓aw_seq, ↓aw_block, ↓aw_exit, ↓aw_ret, ↓sops_nil, ↓sops_go, ↓dops_nil, ↓dopsX_nil, ↓dopsR_nil, ↓vdn, vup, extr_20, extr_21, extr_30, extr_31, extr_32, List.map_cons, List.map_nil, cond_true, cond_false, aop, aThen, aBlock, argEnv, ev, sput, sputO, binK, binI, unK, builtinK, pickK, Nat.reduceBEq, Nat.reduceAdd, Int.reduceBEq, Int.reduceBNe, Int.reduceLT, aPost, resK, tup, tyf, hi, loadO hb shp_77 hlen.2, callK, List.nil_append, List.append_nil, List.toList_toArray, List.cons_append]
        refine element_call.mono ?_
        rintro _ _ ⟨rfl, rfl⟩
        cases hj : (decide (0 ≤ j) && decide (j < o.length)) with
        | false =>
          simp (config := {maxSteps := 2000000}) only [s25, ↓aw_region, ↓aw_skip, ↓aw_seq, ↓aw_block, ↓aw_exit, ↓aw_ret, ↓sops_nil, ↓sops_go, ↓dops_nil, ↓dopsX_nil, ↓dopsR_nil, ↓vdn, vup, extr_20, extr_21, extr_30, extr_31, extr_32, List.map_cons, List.map_nil, cond_true, cond_false, aop, aThen, aBlock, argEnv, ev, sput, sputO, binK, binI, unK, builtinK, pickK, Nat.reduceBEq, Nat.reduceAdd, Int.reduceBEq, Int.reduceBNe, Int.reduceLT, aPost, resK, tup, tyf, hj, List.toList_toArray, List.map_nil, bldF0, storeF c1 rfl, cS]
          exact ⟨rfl, hES _⟩
        | true =>
          have hij : i = j := Classical.not_not.1 fun h => hall ⟨ho, hi, hj, h⟩
          have hine : (i == j) = true := by rw [hij]; exact beq_self_eq_true _
          simp (config := {maxSteps := 2000000}) only [s25, ↓aw_region, ↓aw_skip, ↓aw_seq, ↓aw_block, ↓aw_exit, ↓aw_ret, ↓sops_nil, ↓sops_go, ↓dops_nil, ↓dopsX_nil, ↓dopsR_nil, ↓vdn, vup, extr_20, extr_21, extr_30, extr_31, extr_32, List.map_cons, List.map_nil, cond_true, cond_false, aop, aThen, aBlock, argEnv, ev, sput, sputO, binK, binI, unK, builtinK, pickK, Nat.reduceBEq, Nat.reduceAdd, Int.reduceBEq, Int.reduceBNe, Int.reduceLT, aPost, resK, tup, tyf, hj, hine, List.toList_toArray, List.map_nil, bldF0, storeF c1 rfl, cS]
          exact ⟨rfl, hES _⟩

theorem hsum_to (o : List Int) (i : Nat) : ∀ k, (((List.range (k + 1)).filter fun j => decide (j ≠ i)).map fun j => befN o j i).sum = (((List.range k).filter fun j => decide (j ≠ i)).map fun j => befN o j i).sum + if k = i then 0 else befN o k i := by
  intro k
  rw [List.range_succ, List.filter_append, List.map_append, List.sum_append, List.filter_cons]
  by_cases h : k = i
  · rw [if_neg (by simpa using h), if_pos h]; rfl
  · rw [if_pos (by simpa using h), if_neg h]; simp
def hsTo (o : List Int) (i k : Nat) : Nat := (((List.range k).filter fun j => decide (j ≠ i)).map fun j => befN o j i).sum
theorem hsTo_mono (o : List Int) (i : Nat) : ∀ {a b : Nat}, a ≤ b → hsTo o i a ≤ hsTo o i b
  | a, 0, h => by obtain rfl : a = 0 := by omega
                  exact Nat.le_refl _
  | a, b + 1, h => by
    rcases Nat.lt_or_ge a (b + 1) with h' | h'
    · exact Nat.le_trans (hsTo_mono o i (show a ≤ b by omega)) (by rw [hsTo, hsTo, hsum_to]; exact Nat.le_add_right _ _)
    · obtain rfl : a = b + 1 := by omega
      exact Nat.le_refl _

theorem height_call [BitTab prog 1] {h : Heap} {v : Value} {o : List Int} {i : Int} (hv : IntSl h v o) (hl : o.length < 9223372036854775808) (hx : ∀ x ∈ o, -9223372036854775808 ≤ x ∧ x < 9223372036854775808) : APure prog 26 [v, vint i] h (heightV o i) := by
  refine ACall.forget (low_height o i) ?_
  refine s26_call (by simp) ?_
  simp only [s26]
  refine aw_cut fun N hN => ?_
  simp (config := {maxSteps := 2000000}) only [s26, ↓aw_region, ↓aw_skip, ↓aw_seq, ↓aw_block, ↓aw_exit, ↓aw_ret, ↓sops_nil, ↓sops_go, ↓dops_nil, ↓dopsX_nil, ↓dopsR_nil, ↓vdn, vup, extr_20, extr_21, extr_30, extr_31, extr_32, List.map_cons, List.map_nil, cond_true, cond_false, aop, aThen, aBlock, argEnv, ev, sput, sputO, binK, binI, unK, builtinK, pickK, Nat.reduceBEq, Nat.reduceAdd, Int.reduceBEq, Int.reduceBNe, Int.reduceLT, aPost, resK, tup, tyf, allocK, newPtr, zero_37]
  refine hN _ _ ?_
  clear hN N
  obtain ⟨n, hn⟩ : ∃ n, n = h.length := ⟨_, rfl⟩
  have c0 := get_new h (Blk.cells [.int .i64 0, .int .i64 0] 37 false)
  have hE0 : Ext (fun _ => False) h (h ++ [Blk.cells [.int .i64 0, .int .i64 0] 37 false]) := Ext.app _ _ _
  have hnl : n < (h ++ [Blk.cells [.int .i64 0, .int .i64 0] 37 false]).length := by rw [hn]; simp
  rw [← hn] at c0 ⊢
  generalize h ++ [Blk.cells [.int .i64 0, .int .i64 0] 37 false] = h1 at c0 hE0 hnl ⊢
  have hv1 := IntSl_ext hv hE0
  refine aw_cut fun N hN => ?_
  simp (config := {maxSteps := 2000000}) only [s26, ↓aw_region, ↓aw_skip, ↓aw_seq, ↓aw_block, ↓aw_exit, ↓aw_ret, ↓sops_nil, ↓sops_go, ↓dops_nil, ↓dopsX_nil, ↓dopsR_nil, ↓vdn, vup, extr_20, extr_21, extr_30, extr_31, extr_32, List.map_cons, List.map_nil, cond_true, cond_false, aop, aThen, aBlock, argEnv, ev, sput, sputO, binK, binI, unK, builtinK, pickK, Nat.reduceBEq, Nat.reduceAdd, Int.reduceBEq, Int.reduceBNe, Int.reduceLT, aPost, resK, tup, tyf, callK, List.nil_append, List.append_nil, List.toList_toArray, List.cons_append]
  refine (read_call hv1 hl hx).mono ?_
  rintro _ g ⟨rfl, rfl⟩
  simp (config := {maxSteps := 2000000}) only [s26, ↓aw_region, ↓aw_skip, ↓aw_seq, ↓aw_block, ↓aw_exit, ↓aw_ret, ↓sops_nil, ↓sops_go, ↓dops_nil, ↓dopsX_nil, ↓dopsR_nil, ↓vdn, vup, extr_20, extr_21, extr_30, extr_31, extr_32, List.map_cons, List.map_nil, cond_true, cond_false, aop, aThen, aBlock, argEnv, ev, sput, sputO, binK, binI, unK, builtinK, pickK, Nat.reduceBEq, Nat.reduceAdd, Int.reduceBEq, Int.reduceBNe, Int.reduceLT, aPost, resK, tup, tyf, allocK, newPtr, zeroN, zero_77]
  rw [storeRd]
  refine hN _ _ ?_
  clear hN N
  obtain ⟨hE, hb⟩ := rdBox g o
  generalize hgl : g.length = gl at hE hb hnl ⊢
  generalize (g ++ [Blk.cells (ordN 0) 77 false]).set gl (.cells (rdC o) 77 false) = G at hE hb ⊢
  have c1 : G[n]? = some (.cells [.int .i64 0, .int .i64 0] 37 false) := (hE.2 n (by omega) id).trans c0
  have hE1 := hE0.trans hE
  have cS : ∀ {x y : Int} {K : Value → Prop}, loadK prog (G.set n (.cells [vint x, vint y] 37 false)) 37 (.pointer (some ⟨n, 0, none⟩)) K = K (.agg #[vint x, vint y]) := fun {x y K} => loadF (get_set (get_lt c1) _)
  have hES : ∀ B : Blk, Ext (fun _ => False) h (G.set n B) := fun B => ⟨by have := hE1.1; simp; exact this, fun q hq _ => by rw [List.getElem?_set_ne (by omega)]; exact hE1.2 q hq id⟩
  refine aw_cut fun N hN => ?_
  cases ho : ord o with
  | false =>
    rw [heightV, if_neg (fun h => by rw [h.1] at ho; cases ho)]
    simp (config := {maxSteps := 2000000}) only [s26, ↓aw_region, ↓aw_skip, ↓aw_seq, ↓aw_block, ↓aw_exit, ↓aw_ret, ↓sops_nil, ↓sops_go, ↓dops_nil, ↓dopsX_nil, ↓dopsR_nil, ↓vdn, vup, extr_20, extr_21, extr_30, extr_31, extr_32, List.map_cons, List.map_nil, cond_true, cond_false, aop, aThen, aBlock, argEnv, ev, sput, sputO, binK, binI, unK, builtinK, pickK, Nat.reduceBEq, Nat.reduceAdd, Int.reduceBEq, Int.reduceBNe, Int.reduceLT, aPost, resK, tup, tyf, ho, List.toList_toArray, List.map_nil, bldF0, storeF c1 rfl, cS]
    exact ⟨rfl, hES _⟩
  | true =>
    have hlen := ord_len ho
    have hrd : rdC o = ordC o := if_pos hlen
    rw [hrd] at hb
    cases hi : elI o i with
    | false =>
      rw [heightV, if_neg (fun h => by rw [h.2] at hi; cases hi)]
      rw [elI] at hi
      simp (config := {maxSteps := 2000000}) only [s26, ↓aw_region, ↓aw_skip, ↓aw_seq, ↓aw_block, ↓aw_exit, ↓aw_ret, ↓sops_nil, ↓sops_go, ↓dops_nil, ↓dopsX_nil, ↓dopsR_nil, ↓vdn, vup, extr_20, extr_21, extr_30, extr_31, extr_32, List.map_cons, List.map_nil, cond_true, cond_false, aop, aThen, aBlock, argEnv, ev, sput, sputO, binK, binI, unK, builtinK, pickK, Nat.reduceBEq, Nat.reduceAdd, Int.reduceBEq, Int.reduceBNe, Int.reduceLT, aPost, resK, tup, tyf, ho, loadO hb shp_77 hlen.2, callK, List.nil_append, List.append_nil, List.toList_toArray, List.cons_append]
      refine element_call.mono ?_
      rintro _ _ ⟨rfl, rfl⟩
      simp (config := {maxSteps := 2000000}) only [s26, ↓aw_region, ↓aw_skip, ↓aw_seq, ↓aw_block, ↓aw_exit, ↓aw_ret, ↓sops_nil, ↓sops_go, ↓dops_nil, ↓dopsX_nil, ↓dopsR_nil, ↓vdn, vup, extr_20, extr_21, extr_30, extr_31, extr_32, List.map_cons, List.map_nil, cond_true, cond_false, aop, aThen, aBlock, argEnv, ev, sput, sputO, binK, binI, unK, builtinK, pickK, Nat.reduceBEq, Nat.reduceAdd, Int.reduceBEq, Int.reduceBNe, Int.reduceLT, aPost, resK, tup, tyf, hi, List.toList_toArray, List.map_nil, bldF0, storeF c1 rfl, cS]
      exact ⟨rfl, hES _⟩
    | true =>
      have hi' := hi
      simp only [elI, Bool.and_eq_true, decide_eq_true_eq] at hi'
      obtain ⟨i, rfl⟩ : ∃ k : Nat, i = k := ⟨i.toNat, by omega⟩
      have hi2 : ((i : Nat) : Int) < o.length := hi'.2
      have hil : i < o.length := by omega
      have hcl := cn_le ho
      have hcp := cn_pos ho
      have hhl := hsum_le ho hil
      simp (config := {maxSteps := 2000000}) only [s26, ↓aw_region, ↓aw_skip, ↓aw_seq, ↓aw_block, ↓aw_exit, ↓aw_ret, ↓sops_nil, ↓sops_go, ↓dops_nil, ↓dopsX_nil, ↓dopsR_nil, ↓vdn, vup, extr_20, extr_21, extr_30, extr_31, extr_32, List.map_cons, List.map_nil, cond_true, cond_false, aop, aThen, aBlock, argEnv, ev, sput, sputO, binK, binI, unK, builtinK, pickK, Nat.reduceBEq, Nat.reduceAdd, Int.reduceBEq, Int.reduceBNe, Int.reduceLT, aPost, resK, tup, tyf, ho, loadO hb shp_77 hlen.2, callK, List.nil_append, List.append_nil, List.toList_toArray, List.cons_append]
      refine element_call.mono ?_
      rintro _ _ ⟨rfl, rfl⟩
      simp (config := {maxSteps := 2000000}) only [s26, ↓aw_region, ↓aw_skip, ↓aw_seq, ↓aw_block, ↓aw_exit, ↓aw_ret, ↓sops_nil, ↓sops_go, ↓dops_nil, ↓dopsX_nil, ↓dopsR_nil, ↓vdn, vup, extr_20, extr_21, extr_30, extr_31, extr_32, List.map_cons, List.map_nil, cond_true, cond_false, aop, aThen, aBlock, argEnv, ev, sput, sputO, binK, binI, unK, builtinK, pickK, Nat.reduceBEq, Nat.reduceAdd, Int.reduceBEq, Int.reduceBNe, Int.reduceLT, aPost, resK, tup, tyf, hi2, Bool.true_and]
      refine hN _ _ ?_
      clear hN N
      refine aw_cut fun N hN => ?_
      simp (config := {maxSteps := 2000000}) only [s26, ↓aw_region, ↓aw_skip, ↓aw_seq, ↓aw_block, ↓aw_exit, ↓aw_ret, ↓sops_nil, ↓sops_go, ↓dops_nil, ↓dopsX_nil, ↓dopsR_nil, ↓vdn, vup, extr_20, extr_21, extr_30, extr_31, extr_32, List.map_cons, List.map_nil, cond_true, cond_false, aop, aThen, aBlock, argEnv, ev, sput, sputO, binK, binI, unK, builtinK, pickK, Nat.reduceBEq, Nat.reduceAdd, Int.reduceBEq, Int.reduceBNe, Int.reduceLT, aPost, resK, tup, tyf]
      refine hN _ _ ?_
      clear hN N
      rename_i G
      refine aw_cut fun N hN => ?_
      simp (config := {maxSteps := 2000000}) only [s26, ↓aw_region, ↓aw_skip, ↓aw_seq, ↓aw_block, ↓aw_exit, ↓aw_ret, ↓sops_nil, ↓sops_go, ↓dops_nil, ↓dopsX_nil, ↓dopsR_nil, ↓vdn, vup, extr_20, extr_21, extr_30, extr_31, extr_32, List.map_cons, List.map_nil, cond_true, cond_false, aop, aThen, aBlock, argEnv, ev, sput, sputO, binK, binI, unK, builtinK, pickK, Nat.reduceBEq, Nat.reduceAdd, Int.reduceBEq, Int.reduceBNe, Int.reduceLT, aPost, resK, tup, tyf, fldA fld_77_0 esz_3, loadN hb shp_3, ↓aw_loop_eq]
      refine aws_hide fun Q hQ => ?_
      refine aw_loop (γ := Nat) (fun k => k ≤ o.length)
        (fun k => ([(0, v), (1, vint (i : Nat)), (4, .pointer (some ⟨n, 0, none⟩)), (5, .int .i64 0), (6, .pointer (some ⟨gl, 0, none⟩)), (8, vint (hsTo o i k : Nat)), (25, vint o.length), (26, vint k)], G)) (fun k => o.length - k) 0 (Nat.zero_le _) (by simp (config := {maxSteps := 2000000}) only [↓aw_region, ↓aw_skip, ↓aw_seq, ↓aw_block, ↓aw_exit, ↓aw_ret, ↓sops_nil, ↓sops_go, ↓dops_nil, ↓dopsX_nil, ↓dopsR_nil, ↓vdn, vup, extr_20, extr_21, extr_30, extr_31, extr_32, List.map_cons, List.map_nil, cond_true, cond_false, aop, aThen, aBlock, argEnv, ev, sput, sputO, binK, binI, unK, builtinK, pickK, Nat.reduceBEq, Nat.reduceAdd, Int.reduceBEq, Int.reduceBNe, Int.reduceLT, aPost, resK, tup, tyf, Int.natCast_zero, show hsTo o i 0 = 0 from rfl]) rfl ?_
      intro k hk
      refine aw_hide fun Q2 hQ2 => ?_
      by_cases hkn : (k : Int) < o.length
      · have hkn' : k < o.length := by omega
        have hnx : hsTo o i (k + 1) = hsTo o i k + if k = i then 0 else befN o k i := hsum_to o i k
        have hle : hsTo o i (k + 1) ≤ hsum o i := hsTo_mono o i (show k + 1 ≤ o.length by omega)
        by_cases hki : k = i
        · have hne : ((k : Int) != (i : Int)) = false := by rw [hki]; exact bne_self_eq_false _
          replace hnx : hsTo o i (k + 1) = hsTo o i k := by rw [hnx, if_pos hki]; rfl
          simp (config := {maxSteps := 2000000}) only [s26, ↓aw_region, ↓aw_skip, ↓aw_seq, ↓aw_block, ↓aw_exit, ↓aw_ret, ↓sops_nil, ↓sops_go, ↓dops_nil, ↓dopsX_nil, ↓dopsR_nil, ↓vdn, vup, extr_20, extr_21, extr_30, extr_31, extr_32, List.map_cons, List.map_nil, cond_true, cond_false, aop, aThen, aBlock, argEnv, ev, sput, sputO, binK, binI, unK, builtinK, pickK, Nat.reduceBEq, Nat.reduceAdd, Int.reduceBEq, Int.reduceBNe, Int.reduceLT, aPost, resK, tup, tyf, l26_0, hkn, hne, add1 (show k < 9223372036854775807 by omega)]
          exact hQ2 _ _ _ ⟨k + 1, by omega, by omega, by simp (config := {maxSteps := 2000000}) only [↓aw_region, ↓aw_skip, ↓aw_seq, ↓aw_block, ↓aw_exit, ↓aw_ret, ↓sops_nil, ↓sops_go, ↓dops_nil, ↓dopsX_nil, ↓dopsR_nil, ↓vdn, vup, extr_20, extr_21, extr_30, extr_31, extr_32, List.map_cons, List.map_nil, cond_true, cond_false, aop, aThen, aBlock, argEnv, ev, sput, sputO, binK, binI, unK, builtinK, pickK, Nat.reduceBEq, Nat.reduceAdd, Int.reduceBEq, Int.reduceBNe, Int.reduceLT, aPost, resK, tup, tyf, hnx], rfl⟩
        · have hne : ((k : Int) != (i : Int)) = true := by
            have : (k : Int) ≠ (i : Int) := by omega
            simpa using this
          replace hnx : hsTo o i (k + 1) = hsTo o i k + befN o k i := by rw [hnx, if_neg hki]
          have ha : addV .i64 ((hsTo o i k : Nat) : Int) ((befN o k i : Nat) : Int) = ((hsTo o i (k + 1) : Nat) : Int) := by
            rw [addV_id (by omega) (by omega), hnx]; omega
          simp (config := {maxSteps := 2000000}) only [s26, ↓aw_region, ↓aw_skip, ↓aw_seq, ↓aw_block, ↓aw_exit, ↓aw_ret, ↓sops_nil, ↓sops_go, ↓dops_nil, ↓dopsX_nil, ↓dopsR_nil, ↓vdn, vup, extr_20, extr_21, extr_30, extr_31, extr_32, List.map_cons, List.map_nil, cond_true, cond_false, aop, aThen, aBlock, argEnv, ev, sput, sputO, binK, binI, unK, builtinK, pickK, Nat.reduceBEq, Nat.reduceAdd, Int.reduceBEq, Int.reduceBNe, Int.reduceLT, aPost, resK, tup, tyf, l26_0, hkn, hne, loadO hb shp_77 hlen.2, callK, List.nil_append, List.append_nil, List.toList_toArray, List.cons_append]
          refine (before_call ho hkn' hil).mono ?_
          rintro _ _ ⟨rfl, rfl⟩
          simp (config := {maxSteps := 2000000}) only [s26, ↓aw_region, ↓aw_skip, ↓aw_seq, ↓aw_block, ↓aw_exit, ↓aw_ret, ↓sops_nil, ↓sops_go, ↓dops_nil, ↓dopsX_nil, ↓dopsR_nil, ↓vdn, vup, extr_20, extr_21, extr_30, extr_31, extr_32, List.map_cons, List.map_nil, cond_true, cond_false, aop, aThen, aBlock, argEnv, ev, sput, sputO, binK, binI, unK, builtinK, pickK, Nat.reduceBEq, Nat.reduceAdd, Int.reduceBEq, Int.reduceBNe, Int.reduceLT, aPost, resK, tup, tyf, ha, add1 (show k < 9223372036854775807 by omega)]
          exact hQ2 _ _ _ ⟨k + 1, by omega, by omega, by simp (config := {maxSteps := 2000000}) only [↓aw_region, ↓aw_skip, ↓aw_seq, ↓aw_block, ↓aw_exit, ↓aw_ret, ↓sops_nil, ↓sops_go, ↓dops_nil, ↓dopsX_nil, ↓dopsR_nil, ↓vdn, vup, extr_20, extr_21, extr_30, extr_31, extr_32, List.map_cons, List.map_nil, cond_true, cond_false, aop, aThen, aBlock, argEnv, ev, sput, sputO, binK, binI, unK, builtinK, pickK, Nat.reduceBEq, Nat.reduceAdd, Int.reduceBEq, Int.reduceBNe, Int.reduceLT, aPost, resK, tup, tyf], rfl⟩
      obtain rfl : k = o.length := by omega
      simp (config := {maxSteps := 2000000}) only [s26, ↓aw_region, ↓aw_skip, ↓aw_seq, ↓aw_block, ↓aw_exit, ↓aw_ret, ↓sops_nil, ↓sops_go, ↓dops_nil, ↓dopsX_nil, ↓dopsR_nil, ↓vdn, vup, extr_20, extr_21, extr_30, extr_31, extr_32, List.map_cons, List.map_nil, cond_true, cond_false, aop, aThen, aBlock, argEnv, ev, sput, sputO, binK, binI, unK, builtinK, pickK, Nat.reduceBEq, Nat.reduceAdd, Int.reduceBEq, Int.reduceBNe, Int.reduceLT, aPost, resK, tup, tyf, l26_0, Int.lt_irrefl]
      refine hQ2 _ _ _ (hQ _ _ _ ?_)
      simp (config := {maxSteps := 2000000}) only [s26, ↓aw_region, ↓aw_skip, ↓aw_seq, ↓aw_block, ↓aw_exit, ↓aw_ret, ↓sops_nil, ↓sops_go, ↓dops_nil, ↓dopsX_nil, ↓dopsR_nil, ↓vdn, vup, extr_20, extr_21, extr_30, extr_31, extr_32, List.map_cons, List.map_nil, cond_true, cond_false, aop, aThen, aBlock, argEnv, ev, sput, sputO, binK, binI, unK, builtinK, pickK, Nat.reduceBEq, Nat.reduceAdd, Int.reduceBEq, Int.reduceBNe, Int.reduceLT, aPost, resK, tup, tyf, if_true]
      refine hN _ _ ?_
      have hsa : hsTo o i o.length = hsum o i := rfl
      rw [hsa, heightV, if_pos ⟨ho, hi⟩, Int.toNat_natCast]
      simp (config := {maxSteps := 2000000}) only [s26, ↓aw_region, ↓aw_skip, ↓aw_seq, ↓aw_block, ↓aw_exit, ↓aw_ret, ↓sops_nil, ↓sops_go, ↓dops_nil, ↓dopsX_nil, ↓dopsR_nil, ↓vdn, vup, extr_20, extr_21, extr_30, extr_31, extr_32, List.map_cons, List.map_nil, cond_true, cond_false, aop, aThen, aBlock, argEnv, ev, sput, sputO, binK, binI, unK, builtinK, pickK, Nat.reduceBEq, Nat.reduceAdd, Int.reduceBEq, Int.reduceBNe, Int.reduceLT, aPost, resK, tup, tyf, loadO hb shp_77 hlen.2, callK, List.nil_append, List.append_nil, List.toList_toArray, List.cons_append]
      refine (counted_call ho).mono ?_
      rintro _ _ ⟨rfl, rfl⟩
      refine (frac_call hcp (by omega) (by omega)).mono ?_
      rintro _ _ ⟨rfl, rfl⟩
      obtain ⟨p, q, hpq⟩ := frac_form (hsum o i) (cn o)
      rw [hpq]
      simp (config := {maxSteps := 2000000}) only [s26, ↓aw_region, ↓aw_skip, ↓aw_seq, ↓aw_block, ↓aw_exit, ↓aw_ret, ↓sops_nil, ↓sops_go, ↓dops_nil, ↓dopsX_nil, ↓dopsR_nil, ↓vdn, vup, extr_20, extr_21, extr_30, extr_31, extr_32, List.map_cons, List.map_nil, cond_true, cond_false, aop, aThen, aBlock, argEnv, ev, sput, sputO, binK, binI, unK, builtinK, pickK, Nat.reduceBEq, Nat.reduceAdd, Int.reduceBEq, Int.reduceBNe, Int.reduceLT, aPost, resK, tup, tyf, storeF c1 rfl, cS]
      exact hES _

theorem chanceV_form (o : List Int) (i j : Int) : ∃ p q e, chanceV o i j = .tuple #[.agg #[vint p, vint q], .int .i64 e] := by
  unfold chanceV
  split
  · obtain ⟨p, q, h⟩ := frac_form (befN o i.toNat j.toNat) (cn o)
    exact ⟨p, q, 0, by rw [h]⟩
  · exact ⟨0, 0, 2, rfl⟩
theorem heightV_form (o : List Int) (i : Int) : ∃ p q e, heightV o i = .tuple #[.agg #[vint p, vint q], .int .i64 e] := by
  unfold heightV
  split
  · obtain ⟨p, q, h⟩ := frac_form (hsum o i.toNat) (cn o)
    exact ⟨p, q, 0, by rw [h]⟩
  · exact ⟨0, 0, 2, rfl⟩
theorem chanceV_take (o : List Int) (i j : Int) : chanceV (o.take 9) i j = chanceV o i j := by
  by_cases ho : ord o = true
  · rw [ord_take_eq ho]
  · rw [chanceV, chanceV, ord_take, if_neg (fun h => ho h.1), if_neg (fun h => ho h.1)]
theorem heightV_take (o : List Int) (i : Int) : heightV (o.take 9) i = heightV o i := by
  by_cases ho : ord o = true
  · rw [ord_take_eq ho]
  · rw [heightV, heightV, ord_take, if_neg (fun h => ho h.1), if_neg (fun h => ho h.1)]
theorem relement5_call [Tabs prog] {h : Heap} {v : Value} {o : List Int} {i : Int} (hv : IntSl h v o) : APure prog 27 [v, vint i] h (.bool (elI o i)) := by
  refine s27_call (by simp) ?_
  by_cases h0 : 0 ≤ i
  · have e : elI o i = decide (i < o.length) := by rw [elI, decide_eq_true h0, Bool.true_and]
    simp (config := {maxSteps := 2000000}) only [s27, ↓aw_region, ↓aw_skip, ↓aw_seq, ↓aw_block, ↓aw_exit, ↓aw_ret, ↓sops_nil, ↓sops_go, ↓dops_nil, ↓dopsX_nil, ↓dopsR_nil, ↓vdn, vup, extr_20, extr_21, extr_30, extr_31, extr_32, List.map_cons, List.map_nil, cond_true, cond_false, aop, aThen, aBlock, argEnv, ev, sput, sputO, binK, binI, unK, builtinK, pickK, Nat.reduceBEq, Nat.reduceAdd, Int.reduceBEq, Int.reduceBNe, Int.reduceLT, aPost, resK, tup, tyf, ge_iff_le, h0, hv.len, e]
  · have e : elI o i = false := by rw [elI, decide_eq_false h0, Bool.false_and]
    simp (config := {maxSteps := 2000000}) only [s27, ↓aw_region, ↓aw_skip, ↓aw_seq, ↓aw_block, ↓aw_exit, ↓aw_ret, ↓sops_nil, ↓sops_go, ↓dops_nil, ↓dopsX_nil, ↓dopsR_nil, ↓vdn, vup, extr_20, extr_21, extr_30, extr_31, extr_32, List.map_cons, List.map_nil, cond_true, cond_false, aop, aThen, aBlock, argEnv, ev, sput, sputO, binK, binI, unK, builtinK, pickK, Nat.reduceBEq, Nat.reduceAdd, Int.reduceBEq, Int.reduceBNe, Int.reduceLT, aPost, resK, tup, tyf, ge_iff_le, h0, e]

theorem s5_callW [Tabs Tryd.prog] {args : List Value} {h : Heap} {Q : Value → Heap → Prop} (hsz : args.length ≤ 90) (hk : AWS Tryd.prog 90 s5 (aPost Tryd.prog [.tmp 6] Q) (argEnv 0 args) h) : ACall Tryd.prog 5 args h Q :=
  acall_w Tryd.func5 rfl (enters_of Tryd.func5 (by kernel_rfl) rfl) rfl rfl (by decide) s5_strip s5_ok hsz hk

theorem law_chances [BitTab prog 1] {h : Heap} {v : Value} {o : List Int} (hv : IntSl h v o) (hl : o.length < 9223372036854775808) (hx : ∀ x ∈ o, -9223372036854775808 ≤ x ∧ x < 9223372036854775808) (i j : Int) :
    ACall prog 5 [v, vint i, vint j] h fun r _ => r = .bool true := by
  have awk : ∀ {K : Value → Heap → Prop} {g : Heap}, K (.bool true) g → ACall prog 20 [] g K := fun {K g} hk => awake_call.mono fun v h' ⟨h1, h2⟩ => by rw [h1, h2]; exact hk
  have hx9 : ∀ x ∈ o.take 9, -9223372036854775808 ≤ x ∧ x < 9223372036854775808 := fun x hm => hx x (List.take_subset _ _ hm)
  have hl9 : (o.take 9).length < 9223372036854775808 := by simp; omega
  have hS : ∀ {g : Heap} {n : Nat} {p q : Int}, g.length = n → storeK prog (g ++ [Blk.cells [.int .i64 0, .int .i64 0] 37 false]) 37 (.pointer (some ⟨n, 0, none⟩)) (.agg #[vint p, vint q]) = fun K => K ((g ++ [Blk.cells [.int .i64 0, .int .i64 0] 37 false]).set n (.cells [vint p, vint q] 37 false)) := fun {g n p q} hg => by
    subst hg; funext K; exact storeF (get_new _ _) rfl
  refine s5_callW (by simp) ?_
  simp only [s5]
  refine aws_cut fun N hN => ?_
  simp (config := {maxSteps := 2000000}) only [s5, ↓aw_region, ↓aw_skip, ↓aw_seq, ↓aw_block, ↓aw_exit, ↓aw_ret, ↓sops_nil, ↓sops_go, ↓dops_nil, ↓dopsX_nil, ↓dopsR_nil, ↓vdn, vup, extr_20, extr_21, extr_30, extr_31, extr_32, List.map_cons, List.map_nil, cond_true, cond_false, aop, aThen, aBlock, argEnv, ev, sput, sputO, binK, binI, unK, builtinK, pickK, Nat.reduceBEq, Nat.reduceAdd, Int.reduceBEq, Int.reduceBNe, Int.reduceLT, aPost, resK, tup, tyf]
  refine hN [(0, v), (1, vint i), (2, vint j), (6, .bool false)] _ _ ?_ (by simp (config := {maxSteps := 2000000}) only [↓aw_region, ↓aw_skip, ↓aw_seq, ↓aw_block, ↓aw_exit, ↓aw_ret, ↓sops_nil, ↓sops_go, ↓dops_nil, ↓dopsX_nil, ↓dopsR_nil, ↓vdn, vup, extr_20, extr_21, extr_30, extr_31, extr_32, List.map_cons, List.map_nil, cond_true, cond_false, aop, aThen, aBlock, argEnv, ev, sput, sputO, binK, binI, unK, builtinK, pickK, Nat.reduceBEq, Nat.reduceAdd, Int.reduceBEq, Int.reduceBNe, Int.reduceLT, aPost, resK, tup, tyf])
  clear hN N
  refine aws_cut fun N hN => ?_
  simp (config := {maxSteps := 2000000}) only [s5, ↓aw_region, ↓aw_skip, ↓aw_seq, ↓aw_block, ↓aw_exit, ↓aw_ret, ↓sops_nil, ↓sops_go, ↓dops_nil, ↓dopsX_nil, ↓dopsR_nil, ↓vdn, vup, extr_20, extr_21, extr_30, extr_31, extr_32, List.map_cons, List.map_nil, cond_true, cond_false, aop, aThen, aBlock, argEnv, ev, sput, sputO, binK, binI, unK, builtinK, pickK, Nat.reduceBEq, Nat.reduceAdd, Int.reduceBEq, Int.reduceBNe, Int.reduceLT, aPost, resK, tup, tyf, callK, List.nil_append, List.append_nil, List.toList_toArray, List.cons_append]
  refine (list_call hv hl).mono ?_
  rintro l1 _ ⟨hl1, g1, rfl⟩
  refine (chance_call hl1 hl9 hx9).mono ?_
  rintro _ h1 ⟨rfl, rfl⟩
  rw [chanceV_take]
  have hC := chanceV_form o i j
  obtain ⟨p, q, e, hC⟩ := hC
  rw [hC]
  have hv1 := hv.grow g1
  clear hl1
  generalize h ++ g1 = h1 at hv1 ⊢
  simp (config := {maxSteps := 2000000}) only [s5, ↓aw_region, ↓aw_skip, ↓aw_seq, ↓aw_block, ↓aw_exit, ↓aw_ret, ↓sops_nil, ↓sops_go, ↓dops_nil, ↓dopsX_nil, ↓dopsR_nil, ↓vdn, vup, extr_20, extr_21, extr_30, extr_31, extr_32, List.map_cons, List.map_nil, cond_true, cond_false, aop, aThen, aBlock, argEnv, ev, sput, sputO, binK, binI, unK, builtinK, pickK, Nat.reduceBEq, Nat.reduceAdd, Int.reduceBEq, Int.reduceBNe, Int.reduceLT, aPost, resK, tup, tyf, allocK, newPtr, zero_37, hS rfl]
  have c0 : ((h1 ++ [Blk.cells [.int .i64 0, .int .i64 0] 37 false]).set h1.length (.cells [vint p, vint q] 37 false))[h1.length]? = some (.cells [vint p, vint q] 37 false) := get_set (by simp) _
  have hE1 : Ext (fun _ => False) h1 ((h1 ++ [Blk.cells [.int .i64 0, .int .i64 0] 37 false]).set h1.length (.cells [vint p, vint q] 37 false)) := ⟨by simp, fun q hq _ => by rw [List.getElem?_set_ne (by omega), List.getElem?_append_left hq]⟩
  generalize (h1 ++ [Blk.cells [.int .i64 0, .int .i64 0] 37 false]).set h1.length (.cells [vint p, vint q] 37 false) = h2 at c0 hE1 ⊢
  generalize h1.length = n at c0 ⊢
  have hv2 := IntSl_ext hv1 hE1
  refine hN [(0, v), (1, vint i), (2, vint j), (6, .bool false), (7, .pointer (some ⟨n, 0, none⟩)), (8, .int .i64 e)] _ _ ?_ (by simp (config := {maxSteps := 2000000}) only [↓aw_region, ↓aw_skip, ↓aw_seq, ↓aw_block, ↓aw_exit, ↓aw_ret, ↓sops_nil, ↓sops_go, ↓dops_nil, ↓dopsX_nil, ↓dopsR_nil, ↓vdn, vup, extr_20, extr_21, extr_30, extr_31, extr_32, List.map_cons, List.map_nil, cond_true, cond_false, aop, aThen, aBlock, argEnv, ev, sput, sputO, binK, binI, unK, builtinK, pickK, Nat.reduceBEq, Nat.reduceAdd, Int.reduceBEq, Int.reduceBNe, Int.reduceLT, aPost, resK, tup, tyf])
  clear hN N hE1 hv1
  refine aws_cut fun N hN => ?_
  simp (config := {maxSteps := 2000000}) only [s5, ↓aw_region, ↓aw_skip, ↓aw_seq, ↓aw_block, ↓aw_exit, ↓aw_ret, ↓sops_nil, ↓sops_go, ↓dops_nil, ↓dopsX_nil, ↓dopsR_nil, ↓vdn, vup, extr_20, extr_21, extr_30, extr_31, extr_32, List.map_cons, List.map_nil, cond_true, cond_false, aop, aThen, aBlock, argEnv, ev, sput, sputO, binK, binI, unK, builtinK, pickK, Nat.reduceBEq, Nat.reduceAdd, Int.reduceBEq, Int.reduceBNe, Int.reduceLT, aPost, resK, tup, tyf, callK, List.nil_append, List.append_nil, List.toList_toArray, List.cons_append]
  refine (list_call hv2 hl).mono ?_
  rintro l2 _ ⟨hl2, g2, rfl⟩
  refine (height_call hl2 hl9 hx9).mono ?_
  rintro _ h3 ⟨rfl, rfl⟩
  rw [heightV_take]
  have hH := heightV_form o i
  obtain ⟨p2, q2, e2, hH⟩ := hH
  rw [hH]
  have hv3 := hv2.grow g2
  have c1 := get_old c0 g2
  clear hl2
  generalize h2 ++ g2 = h3 at hv3 c1 ⊢
  simp (config := {maxSteps := 2000000}) only [s5, ↓aw_region, ↓aw_skip, ↓aw_seq, ↓aw_block, ↓aw_exit, ↓aw_ret, ↓sops_nil, ↓sops_go, ↓dops_nil, ↓dopsX_nil, ↓dopsR_nil, ↓vdn, vup, extr_20, extr_21, extr_30, extr_31, extr_32, List.map_cons, List.map_nil, cond_true, cond_false, aop, aThen, aBlock, argEnv, ev, sput, sputO, binK, binI, unK, builtinK, pickK, Nat.reduceBEq, Nat.reduceAdd, Int.reduceBEq, Int.reduceBNe, Int.reduceLT, aPost, resK, tup, tyf, allocK, newPtr, zero_37, hS rfl]
  have d0 : ((h3 ++ [Blk.cells [.int .i64 0, .int .i64 0] 37 false]).set h3.length (.cells [vint p2, vint q2] 37 false))[h3.length]? = some (.cells [vint p2, vint q2] 37 false) := get_set (by simp) _
  have hE3 : Ext (fun _ => False) h3 ((h3 ++ [Blk.cells [.int .i64 0, .int .i64 0] 37 false]).set h3.length (.cells [vint p2, vint q2] 37 false)) := ⟨by simp, fun q hq _ => by rw [List.getElem?_set_ne (by omega), List.getElem?_append_left hq]⟩
  generalize (h3 ++ [Blk.cells [.int .i64 0, .int .i64 0] 37 false]).set h3.length (.cells [vint p2, vint q2] 37 false) = h4 at d0 hE3 ⊢
  have c4 := (hE3.2 n (get_lt c1) id).trans c1
  generalize h3.length = m at d0 ⊢
  have hv4 := IntSl_ext hv3 hE3
  refine hN [(0, v), (1, vint i), (2, vint j), (6, .bool false), (7, .pointer (some ⟨n, 0, none⟩)), (8, .int .i64 e), (9, .pointer (some ⟨m, 0, none⟩)), (10, .int .i64 e2)] _ _ ?_ (by simp (config := {maxSteps := 2000000}) only [↓aw_region, ↓aw_skip, ↓aw_seq, ↓aw_block, ↓aw_exit, ↓aw_ret, ↓sops_nil, ↓sops_go, ↓dops_nil, ↓dopsX_nil, ↓dopsR_nil, ↓vdn, vup, extr_20, extr_21, extr_30, extr_31, extr_32, List.map_cons, List.map_nil, cond_true, cond_false, aop, aThen, aBlock, argEnv, ev, sput, sputO, binK, binI, unK, builtinK, pickK, Nat.reduceBEq, Nat.reduceAdd, Int.reduceBEq, Int.reduceBNe, Int.reduceLT, aPost, resK, tup, tyf])
  clear hN N hE3 hv3 hv2 c0
  have L1 : ∀ {K : Value → Prop}, loadK prog h4 37 (.pointer (some ⟨n, 0, none⟩)) K = K (.agg #[vint p, vint q]) := fun {K} => loadF c4
  have L2 : ∀ {K : Value → Prop}, loadK prog h4 37 (.pointer (some ⟨m, 0, none⟩)) K = K (.agg #[vint p2, vint q2]) := fun {K} => loadF d0
  have e22 : ((2 : Int) == 2) = true := rfl
  by_cases hall : ord o = true ∧ elI o i = true
  · obtain ⟨ho, hi⟩ := hall
    have hlen := ord_len ho
    have hi' := hi
    simp only [elI, Bool.and_eq_true, decide_eq_true_eq] at hi'
    obtain ⟨i, rfl⟩ : ∃ k : Nat, i = k := ⟨i.toNat, by omega⟩
    have hil : i < o.length := by omega
    rw [heightV, if_pos ⟨ho, hi⟩, Int.toNat_natCast] at hH
    obtain ⟨rfl, hH2⟩ : e2 = 0 ∧ fracV (hsum o i) (cn o) = .agg #[vint p2, vint q2] := by
      injection hH with h1
      simp only [Array.mk.injEq, List.cons.injEq, Value.int.injEq, and_true, true_and] at h1
      exact ⟨h1.2.symm, h1.1⟩
    refine aws_cut fun N hN => ?_
    simp (config := {maxSteps := 2000000}) only [s5, ↓aw_region, ↓aw_skip, ↓aw_seq, ↓aw_block, ↓aw_exit, ↓aw_ret, ↓sops_nil, ↓sops_go, ↓dops_nil, ↓dopsX_nil, ↓dopsR_nil, ↓vdn, vup, extr_20, extr_21, extr_30, extr_31, extr_32, List.map_cons, List.map_nil, cond_true, cond_false, aop, aThen, aBlock, argEnv, ev, sput, sputO, binK, binI, unK, builtinK, pickK, Nat.reduceBEq, Nat.reduceAdd, Int.reduceBEq, Int.reduceBNe, Int.reduceLT, aPost, resK, tup, tyf, callK, List.nil_append, List.append_nil, List.toList_toArray, List.cons_append]
    refine (rorder_call hv4 hl hx).mono ?_
    rintro _ h5 ⟨rfl, rfl⟩
    simp (config := {maxSteps := 2000000}) only [s5, ↓aw_region, ↓aw_skip, ↓aw_seq, ↓aw_block, ↓aw_exit, ↓aw_ret, ↓sops_nil, ↓sops_go, ↓dops_nil, ↓dopsX_nil, ↓dopsR_nil, ↓vdn, vup, extr_20, extr_21, extr_30, extr_31, extr_32, List.map_cons, List.map_nil, cond_true, cond_false, aop, aThen, aBlock, argEnv, ev, sput, sputO, binK, binI, unK, builtinK, pickK, Nat.reduceBEq, Nat.reduceAdd, Int.reduceBEq, Int.reduceBNe, Int.reduceLT, aPost, resK, tup, tyf, ho, callK, List.nil_append, List.append_nil, List.toList_toArray, List.cons_append]
    refine (relement5_call hv4).mono ?_
    rintro _ h5 ⟨rfl, rfl⟩
    simp (config := {maxSteps := 2000000}) only [s5, ↓aw_region, ↓aw_skip, ↓aw_seq, ↓aw_block, ↓aw_exit, ↓aw_ret, ↓sops_nil, ↓sops_go, ↓dops_nil, ↓dopsX_nil, ↓dopsR_nil, ↓vdn, vup, extr_20, extr_21, extr_30, extr_31, extr_32, List.map_cons, List.map_nil, cond_true, cond_false, aop, aThen, aBlock, argEnv, ev, sput, sputO, binK, binI, unK, builtinK, pickK, Nat.reduceBEq, Nat.reduceAdd, Int.reduceBEq, Int.reduceBNe, Int.reduceLT, aPost, resK, tup, tyf, hi]
    refine hN [(0, v), (1, vint (i : Nat)), (2, vint j), (6, .bool false), (7, .pointer (some ⟨n, 0, none⟩)), (8, .int .i64 e), (9, .pointer (some ⟨m, 0, none⟩)), (10, .int .i64 0)] _ _ ?_ (by simp (config := {maxSteps := 2000000}) only [↓aw_region, ↓aw_skip, ↓aw_seq, ↓aw_block, ↓aw_exit, ↓aw_ret, ↓sops_nil, ↓sops_go, ↓dops_nil, ↓dopsX_nil, ↓dopsR_nil, ↓vdn, vup, extr_20, extr_21, extr_30, extr_31, extr_32, List.map_cons, List.map_nil, cond_true, cond_false, aop, aThen, aBlock, argEnv, ev, sput, sputO, binK, binI, unK, builtinK, pickK, Nat.reduceBEq, Nat.reduceAdd, Int.reduceBEq, Int.reduceBNe, Int.reduceLT, aPost, resK, tup, tyf])
    clear hN N
    have hne2 : (([p2, q2] : List Int) != [p2, q2]) = false := bne_self_eq_false _
    refine aws_cut fun N hN => ?_
    simp (config := {maxSteps := 2000000}) only [s5, ↓aw_region, ↓aw_skip, ↓aw_seq, ↓aw_block, ↓aw_exit, ↓aw_ret, ↓sops_nil, ↓sops_go, ↓dops_nil, ↓dopsX_nil, ↓dopsR_nil, ↓vdn, vup, extr_20, extr_21, extr_30, extr_31, extr_32, List.map_cons, List.map_nil, cond_true, cond_false, aop, aThen, aBlock, argEnv, ev, sput, sputO, binK, binI, unK, builtinK, pickK, Nat.reduceBEq, Nat.reduceAdd, Int.reduceBEq, Int.reduceBNe, Int.reduceLT, aPost, resK, tup, tyf]
    refine aw_drawX [(3, 1), (10, 1)] (by kernel_rfl) (by kernel_rfl) (by kernel_rfl) (by kernel_rfl) ?_
    simp (config := {maxSteps := 2000000}) only [s5, ↓aw_region, ↓aw_skip, ↓aw_seq, ↓aw_block, ↓aw_exit, ↓aw_ret, ↓sops_nil, ↓sops_go, ↓dops_nil, ↓dopsX_nil, ↓dopsR_nil, ↓vdn, vup, extr_20, extr_21, extr_30, extr_31, extr_32, List.map_cons, List.map_nil, cond_true, cond_false, aop, aThen, aBlock, argEnv, ev, sput, sputO, binK, binI, unK, builtinK, pickK, Nat.reduceBEq, Nat.reduceAdd, Int.reduceBEq, Int.reduceBNe, Int.reduceLT, aPost, resK, tup, tyf, L2, callK, List.nil_append, List.append_nil, List.toList_toArray, List.cons_append]
    refine ⟨_, _, rheight_call hv4 ho hil, rfl, ?_⟩
    rw [hH2]
    simp (config := {maxSteps := 2000000}) only [s5, ↓aw_region, ↓aw_skip, ↓aw_seq, ↓aw_block, ↓aw_exit, ↓aw_ret, ↓sops_nil, ↓sops_go, ↓dops_nil, ↓dopsX_nil, ↓dopsR_nil, ↓vdn, vup, extr_20, extr_21, extr_30, extr_31, extr_32, List.map_cons, List.map_nil, cond_true, cond_false, aop, aThen, aBlock, argEnv, ev, sput, sputO, binK, binI, unK, builtinK, pickK, Nat.reduceBEq, Nat.reduceAdd, Int.reduceBEq, Int.reduceBNe, Int.reduceLT, aPost, resK, tup, tyf, intsOf, Option.map_some, List.length_cons, List.length_nil, Nat.zero_add, eqF, hne2, callK, List.nil_append, List.append_nil, List.toList_toArray, List.cons_append]
    refine ⟨_, _, awake_call, rfl, ?_⟩
    simp (config := {maxSteps := 2000000}) only [s5, ↓aw_region, ↓aw_skip, ↓aw_seq, ↓aw_block, ↓aw_exit, ↓aw_ret, ↓sops_nil, ↓sops_go, ↓dops_nil, ↓dopsX_nil, ↓dopsR_nil, ↓vdn, vup, extr_20, extr_21, extr_30, extr_31, extr_32, List.map_cons, List.map_nil, cond_true, cond_false, aop, aThen, aBlock, argEnv, ev, sput, sputO, binK, binI, unK, builtinK, pickK, Nat.reduceBEq, Nat.reduceAdd, Int.reduceBEq, Int.reduceBNe, Int.reduceLT, aPost, resK, tup, tyf]
    refine hN [(0, v), (1, vint (i : Nat)), (2, vint j), (6, .bool false), (7, .pointer (some ⟨n, 0, none⟩)), (8, .int .i64 e)] _ _ ?_ (by simp (config := {maxSteps := 2000000}) only [↓aw_region, ↓aw_skip, ↓aw_seq, ↓aw_block, ↓aw_exit, ↓aw_ret, ↓sops_nil, ↓sops_go, ↓dops_nil, ↓dopsX_nil, ↓dopsR_nil, ↓vdn, vup, extr_20, extr_21, extr_30, extr_31, extr_32, List.map_cons, List.map_nil, cond_true, cond_false, aop, aThen, aBlock, argEnv, ev, sput, sputO, binK, binI, unK, builtinK, pickK, Nat.reduceBEq, Nat.reduceAdd, Int.reduceBEq, Int.reduceBNe, Int.reduceLT, aPost, resK, tup, tyf])
    clear hN N L2
    refine aws_cut fun N hN => ?_
    have e22b : ((2 : Int) == 2) = true := rfl
    by_cases hj : elI o j = true ∧ ((i : Nat) : Int) ≠ j
    · obtain ⟨hj, hij⟩ := hj
      have hj' := hj
      simp only [elI, Bool.and_eq_true, decide_eq_true_eq] at hj'
      rw [chanceV, if_pos ⟨ho, hi, hj, hij⟩, Int.toNat_natCast] at hC
      obtain ⟨j, rfl⟩ : ∃ k : Nat, j = k := ⟨j.toNat, by omega⟩
      rw [Int.toNat_natCast] at hC
      have hjl : j < o.length := by omega
      obtain ⟨rfl, hC2⟩ : e = 0 ∧ fracV (befN o i j) (cn o) = .agg #[vint p, vint q] := by
        injection hC with h1
        simp only [Array.mk.injEq, List.cons.injEq, Value.int.injEq, and_true, true_and] at h1
        exact ⟨h1.2.symm, h1.1⟩
      have hine : (((i : Nat) : Int) == ((j : Nat) : Int)) = false := by simpa using hij
      have heq2 : (([p, q] : List Int) == [p, q]) = true := beq_self_eq_true _
      simp (config := {maxSteps := 2000000}) only [s5, ↓aw_region, ↓aw_skip, ↓aw_seq, ↓aw_block, ↓aw_exit, ↓aw_ret, ↓sops_nil, ↓sops_go, ↓dops_nil, ↓dopsX_nil, ↓dopsR_nil, ↓vdn, vup, extr_20, extr_21, extr_30, extr_31, extr_32, List.map_cons, List.map_nil, cond_true, cond_false, aop, aThen, aBlock, argEnv, ev, sput, sputO, binK, binI, unK, builtinK, pickK, Nat.reduceBEq, Nat.reduceAdd, Int.reduceBEq, Int.reduceBNe, Int.reduceLT, aPost, resK, tup, tyf, callK, List.nil_append, List.append_nil, List.toList_toArray, List.cons_append]
      refine (relement5_call hv4).mono ?_
      rintro _ h5 ⟨rfl, rfl⟩
      simp (config := {maxSteps := 2000000}) only [s5, ↓aw_region, ↓aw_skip, ↓aw_seq, ↓aw_block, ↓aw_exit, ↓aw_ret, ↓sops_nil, ↓sops_go, ↓dops_nil, ↓dopsX_nil, ↓dopsR_nil, ↓vdn, vup, extr_20, extr_21, extr_30, extr_31, extr_32, List.map_cons, List.map_nil, cond_true, cond_false, aop, aThen, aBlock, argEnv, ev, sput, sputO, binK, binI, unK, builtinK, pickK, Nat.reduceBEq, Nat.reduceAdd, Int.reduceBEq, Int.reduceBNe, Int.reduceLT, aPost, resK, tup, tyf, hj, hine]
      refine hN [(0, v), (1, vint (i : Nat)), (2, vint (j : Nat)), (6, .bool false), (7, .pointer (some ⟨n, 0, none⟩)), (8, .int .i64 0)] _ _ ?_ (by simp (config := {maxSteps := 2000000}) only [↓aw_region, ↓aw_skip, ↓aw_seq, ↓aw_block, ↓aw_exit, ↓aw_ret, ↓sops_nil, ↓sops_go, ↓dops_nil, ↓dopsX_nil, ↓dopsR_nil, ↓vdn, vup, extr_20, extr_21, extr_30, extr_31, extr_32, List.map_cons, List.map_nil, cond_true, cond_false, aop, aThen, aBlock, argEnv, ev, sput, sputO, binK, binI, unK, builtinK, pickK, Nat.reduceBEq, Nat.reduceAdd, Int.reduceBEq, Int.reduceBNe, Int.reduceLT, aPost, resK, tup, tyf])
      clear hN N
      refine aw_aws ?_
      simp (config := {maxSteps := 2000000}) only [s5, ↓aw_region, ↓aw_skip, ↓aw_seq, ↓aw_block, ↓aw_exit, ↓aw_ret, ↓sops_nil, ↓sops_go, ↓dops_nil, ↓dopsX_nil, ↓dopsR_nil, ↓vdn, vup, extr_20, extr_21, extr_30, extr_31, extr_32, List.map_cons, List.map_nil, cond_true, cond_false, aop, aThen, aBlock, argEnv, ev, sput, sputO, binK, binI, unK, builtinK, pickK, Nat.reduceBEq, Nat.reduceAdd, Int.reduceBEq, Int.reduceBNe, Int.reduceLT, aPost, resK, tup, tyf]
      refine aw_drawX [(4, 1)] (by kernel_rfl) (by kernel_rfl) (by kernel_rfl) (by kernel_rfl) ?_
      simp (config := {maxSteps := 2000000}) only [s5, ↓aw_region, ↓aw_skip, ↓aw_seq, ↓aw_block, ↓aw_exit, ↓aw_ret, ↓sops_nil, ↓sops_go, ↓dops_nil, ↓dopsX_nil, ↓dopsR_nil, ↓vdn, vup, extr_20, extr_21, extr_30, extr_31, extr_32, List.map_cons, List.map_nil, cond_true, cond_false, aop, aThen, aBlock, argEnv, ev, sput, sputO, binK, binI, unK, builtinK, pickK, Nat.reduceBEq, Nat.reduceAdd, Int.reduceBEq, Int.reduceBNe, Int.reduceLT, aPost, resK, tup, tyf, L1, callK, List.nil_append, List.append_nil, List.toList_toArray, List.cons_append]
      refine ⟨_, _, rchance_call hv4 ho hil hjl (by omega), rfl, ?_⟩
      rw [hC2]
      simp (config := {maxSteps := 2000000}) only [s5, ↓aw_region, ↓aw_skip, ↓aw_seq, ↓aw_block, ↓aw_exit, ↓aw_ret, ↓sops_nil, ↓sops_go, ↓dops_nil, ↓dopsX_nil, ↓dopsR_nil, ↓vdn, vup, extr_20, extr_21, extr_30, extr_31, extr_32, List.map_cons, List.map_nil, cond_true, cond_false, aop, aThen, aBlock, argEnv, ev, sput, sputO, binK, binI, unK, builtinK, pickK, Nat.reduceBEq, Nat.reduceAdd, Int.reduceBEq, Int.reduceBNe, Int.reduceLT, aPost, resK, tup, tyf, intsOf, Option.map_some, List.length_cons, List.length_nil, Nat.zero_add, eqF, heq2]
    · rw [chanceV, if_neg (fun h => hj ⟨h.2.2.1, h.2.2.2⟩)] at hC
      obtain ⟨rfl, rfl, rfl⟩ : p = 0 ∧ q = 0 ∧ e = 2 := by
        injection hC with h1
        simp only [frV, Array.mk.injEq, List.cons.injEq, Value.int.injEq, Value.agg.injEq, and_true, true_and] at h1
        exact ⟨h1.1.1.symm, h1.1.2.symm, h1.2.symm⟩
      have hz : (([0, 0] : List Int) == [0, 0]) = true := rfl
      simp (config := {maxSteps := 2000000}) only [s5, ↓aw_region, ↓aw_skip, ↓aw_seq, ↓aw_block, ↓aw_exit, ↓aw_ret, ↓sops_nil, ↓sops_go, ↓dops_nil, ↓dopsX_nil, ↓dopsR_nil, ↓vdn, vup, extr_20, extr_21, extr_30, extr_31, extr_32, List.map_cons, List.map_nil, cond_true, cond_false, aop, aThen, aBlock, argEnv, ev, sput, sputO, binK, binI, unK, builtinK, pickK, Nat.reduceBEq, Nat.reduceAdd, Int.reduceBEq, Int.reduceBNe, Int.reduceLT, aPost, resK, tup, tyf, callK, List.nil_append, List.append_nil, List.toList_toArray, List.cons_append]
      refine (relement5_call hv4).mono ?_
      rintro _ h5 ⟨rfl, rfl⟩
      have fin : ∀ {K : Value → Heap → Prop}, K (.bool true) h5 → ACall prog 28 [.agg #[.int .i64 0, .int .i64 0]] h5 K := fun {K} hk => none_call.mono fun v h' ⟨h1, h2⟩ => by rw [h1, h2]; exact hk
      cases hj2 : elI o j with
      | false =>
        simp (config := {maxSteps := 2000000}) only [s5, ↓aw_region, ↓aw_skip, ↓aw_seq, ↓aw_block, ↓aw_exit, ↓aw_ret, ↓sops_nil, ↓sops_go, ↓dops_nil, ↓dopsX_nil, ↓dopsR_nil, ↓vdn, vup, extr_20, extr_21, extr_30, extr_31, extr_32, List.map_cons, List.map_nil, cond_true, cond_false, aop, aThen, aBlock, argEnv, ev, sput, sputO, binK, binI, unK, builtinK, pickK, Nat.reduceBEq, Nat.reduceAdd, Int.reduceBEq, Int.reduceBNe, Int.reduceLT, aPost, resK, tup, tyf, hj2, L1, callK, List.nil_append, List.append_nil, List.toList_toArray, List.cons_append]
        refine fin ?_
        simp (config := {maxSteps := 2000000}) only [s5, ↓aw_region, ↓aw_skip, ↓aw_seq, ↓aw_block, ↓aw_exit, ↓aw_ret, ↓sops_nil, ↓sops_go, ↓dops_nil, ↓dopsX_nil, ↓dopsR_nil, ↓vdn, vup, extr_20, extr_21, extr_30, extr_31, extr_32, List.map_cons, List.map_nil, cond_true, cond_false, aop, aThen, aBlock, argEnv, ev, sput, sputO, binK, binI, unK, builtinK, pickK, Nat.reduceBEq, Nat.reduceAdd, Int.reduceBEq, Int.reduceBNe, Int.reduceLT, aPost, resK, tup, tyf, e22b]
      | true =>
        have hij : ((i : Nat) : Int) = j := Classical.not_not.1 fun h => hj ⟨hj2, h⟩
        have hine : (((i : Nat) : Int) == j) = true := by rw [hij]; exact beq_self_eq_true _
        simp (config := {maxSteps := 2000000}) only [s5, ↓aw_region, ↓aw_skip, ↓aw_seq, ↓aw_block, ↓aw_exit, ↓aw_ret, ↓sops_nil, ↓sops_go, ↓dops_nil, ↓dopsX_nil, ↓dopsR_nil, ↓vdn, vup, extr_20, extr_21, extr_30, extr_31, extr_32, List.map_cons, List.map_nil, cond_true, cond_false, aop, aThen, aBlock, argEnv, ev, sput, sputO, binK, binI, unK, builtinK, pickK, Nat.reduceBEq, Nat.reduceAdd, Int.reduceBEq, Int.reduceBNe, Int.reduceLT, aPost, resK, tup, tyf, hj2, hine, L1, callK, List.nil_append, List.append_nil, List.toList_toArray, List.cons_append]
        refine fin ?_
        simp (config := {maxSteps := 2000000}) only [s5, ↓aw_region, ↓aw_skip, ↓aw_seq, ↓aw_block, ↓aw_exit, ↓aw_ret, ↓sops_nil, ↓sops_go, ↓dops_nil, ↓dopsX_nil, ↓dopsR_nil, ↓vdn, vup, extr_20, extr_21, extr_30, extr_31, extr_32, List.map_cons, List.map_nil, cond_true, cond_false, aop, aThen, aBlock, argEnv, ev, sput, sputO, binK, binI, unK, builtinK, pickK, Nat.reduceBEq, Nat.reduceAdd, Int.reduceBEq, Int.reduceBNe, Int.reduceLT, aPost, resK, tup, tyf, e22b]
  · rw [heightV, if_neg hall] at hH
    rw [chanceV, if_neg (fun h => hall ⟨h.1, h.2.1⟩)] at hC
    obtain ⟨rfl, rfl, rfl⟩ : p = 0 ∧ q = 0 ∧ e = 2 := by
      injection hC with h1
      simp only [frV, Array.mk.injEq, List.cons.injEq, Value.int.injEq, Value.agg.injEq, and_true, true_and] at h1
      exact ⟨h1.1.1.symm, h1.1.2.symm, h1.2.symm⟩
    obtain ⟨rfl, rfl, rfl⟩ : p2 = 0 ∧ q2 = 0 ∧ e2 = 2 := by
      injection hH with h1
      simp only [frV, Array.mk.injEq, List.cons.injEq, Value.int.injEq, Value.agg.injEq, and_true, true_and] at h1
      exact ⟨h1.1.1.symm, h1.1.2.symm, h1.2.symm⟩
    refine aws_cut fun N hN => ?_
    simp (config := {maxSteps := 2000000}) only [s5, ↓aw_region, ↓aw_skip, ↓aw_seq, ↓aw_block, ↓aw_exit, ↓aw_ret, ↓sops_nil, ↓sops_go, ↓dops_nil, ↓dopsX_nil, ↓dopsR_nil, ↓vdn, vup, extr_20, extr_21, extr_30, extr_31, extr_32, List.map_cons, List.map_nil, cond_true, cond_false, aop, aThen, aBlock, argEnv, ev, sput, sputO, binK, binI, unK, builtinK, pickK, Nat.reduceBEq, Nat.reduceAdd, Int.reduceBEq, Int.reduceBNe, Int.reduceLT, aPost, resK, tup, tyf, callK, List.nil_append, List.append_nil, List.toList_toArray, List.cons_append]
    refine (rorder_call hv4 hl hx).mono ?_
    rintro _ h5 ⟨rfl, rfl⟩
    have fin : ∀ {K : Value → Heap → Prop}, K (.bool true) h5 → ACall prog 28 [.agg #[.int .i64 0, .int .i64 0]] h5 K := fun {K} hk => none_call.mono fun v h' ⟨h1, h2⟩ => by rw [h1, h2]; exact hk
    cases ho : ord o with
    | false =>
      simp (config := {maxSteps := 2000000}) only [s5, ↓aw_region, ↓aw_skip, ↓aw_seq, ↓aw_block, ↓aw_exit, ↓aw_ret, ↓sops_nil, ↓sops_go, ↓dops_nil, ↓dopsX_nil, ↓dopsR_nil, ↓vdn, vup, extr_20, extr_21, extr_30, extr_31, extr_32, List.map_cons, List.map_nil, cond_true, cond_false, aop, aThen, aBlock, argEnv, ev, sput, sputO, binK, binI, unK, builtinK, pickK, Nat.reduceBEq, Nat.reduceAdd, Int.reduceBEq, Int.reduceBNe, Int.reduceLT, aPost, resK, tup, tyf, ho, L1, callK, List.nil_append, List.append_nil, List.toList_toArray, List.cons_append]
      refine fin ?_
      simp (config := {maxSteps := 2000000}) only [s5, ↓aw_region, ↓aw_skip, ↓aw_seq, ↓aw_block, ↓aw_exit, ↓aw_ret, ↓sops_nil, ↓sops_go, ↓dops_nil, ↓dopsX_nil, ↓dopsR_nil, ↓vdn, vup, extr_20, extr_21, extr_30, extr_31, extr_32, List.map_cons, List.map_nil, cond_true, cond_false, aop, aThen, aBlock, argEnv, ev, sput, sputO, binK, binI, unK, builtinK, pickK, Nat.reduceBEq, Nat.reduceAdd, Int.reduceBEq, Int.reduceBNe, Int.reduceLT, aPost, resK, tup, tyf, L2, callK, List.nil_append, List.append_nil, List.toList_toArray, List.cons_append]
      refine fin ?_
      simp (config := {maxSteps := 2000000}) only [s5, ↓aw_region, ↓aw_skip, ↓aw_seq, ↓aw_block, ↓aw_exit, ↓aw_ret, ↓sops_nil, ↓sops_go, ↓dops_nil, ↓dopsX_nil, ↓dopsR_nil, ↓vdn, vup, extr_20, extr_21, extr_30, extr_31, extr_32, List.map_cons, List.map_nil, cond_true, cond_false, aop, aThen, aBlock, argEnv, ev, sput, sputO, binK, binI, unK, builtinK, pickK, Nat.reduceBEq, Nat.reduceAdd, Int.reduceBEq, Int.reduceBNe, Int.reduceLT, aPost, resK, tup, tyf, e22, callK, List.nil_append, List.append_nil, List.toList_toArray, List.cons_append]
      refine awk ?_
      simp (config := {maxSteps := 2000000}) only [s5, ↓aw_region, ↓aw_skip, ↓aw_seq, ↓aw_block, ↓aw_exit, ↓aw_ret, ↓sops_nil, ↓sops_go, ↓dops_nil, ↓dopsX_nil, ↓dopsR_nil, ↓vdn, vup, extr_20, extr_21, extr_30, extr_31, extr_32, List.map_cons, List.map_nil, cond_true, cond_false, aop, aThen, aBlock, argEnv, ev, sput, sputO, binK, binI, unK, builtinK, pickK, Nat.reduceBEq, Nat.reduceAdd, Int.reduceBEq, Int.reduceBNe, Int.reduceLT, aPost, resK, tup, tyf]
    | true =>
      have hi : elI o i = false := by
        cases e : elI o i with
        | false => rfl
        | true => exact absurd ⟨ho, e⟩ hall
      simp (config := {maxSteps := 2000000}) only [s5, ↓aw_region, ↓aw_skip, ↓aw_seq, ↓aw_block, ↓aw_exit, ↓aw_ret, ↓sops_nil, ↓sops_go, ↓dops_nil, ↓dopsX_nil, ↓dopsR_nil, ↓vdn, vup, extr_20, extr_21, extr_30, extr_31, extr_32, List.map_cons, List.map_nil, cond_true, cond_false, aop, aThen, aBlock, argEnv, ev, sput, sputO, binK, binI, unK, builtinK, pickK, Nat.reduceBEq, Nat.reduceAdd, Int.reduceBEq, Int.reduceBNe, Int.reduceLT, aPost, resK, tup, tyf, ho, callK, List.nil_append, List.append_nil, List.toList_toArray, List.cons_append]
      refine (relement5_call hv4).mono ?_
      rintro _ h6 ⟨rfl, rfl⟩
      simp (config := {maxSteps := 2000000}) only [s5, ↓aw_region, ↓aw_skip, ↓aw_seq, ↓aw_block, ↓aw_exit, ↓aw_ret, ↓sops_nil, ↓sops_go, ↓dops_nil, ↓dopsX_nil, ↓dopsR_nil, ↓vdn, vup, extr_20, extr_21, extr_30, extr_31, extr_32, List.map_cons, List.map_nil, cond_true, cond_false, aop, aThen, aBlock, argEnv, ev, sput, sputO, binK, binI, unK, builtinK, pickK, Nat.reduceBEq, Nat.reduceAdd, Int.reduceBEq, Int.reduceBNe, Int.reduceLT, aPost, resK, tup, tyf, hi, L1, callK, List.nil_append, List.append_nil, List.toList_toArray, List.cons_append]
      refine fin ?_
      simp (config := {maxSteps := 2000000}) only [s5, ↓aw_region, ↓aw_skip, ↓aw_seq, ↓aw_block, ↓aw_exit, ↓aw_ret, ↓sops_nil, ↓sops_go, ↓dops_nil, ↓dopsX_nil, ↓dopsR_nil, ↓vdn, vup, extr_20, extr_21, extr_30, extr_31, extr_32, List.map_cons, List.map_nil, cond_true, cond_false, aop, aThen, aBlock, argEnv, ev, sput, sputO, binK, binI, unK, builtinK, pickK, Nat.reduceBEq, Nat.reduceAdd, Int.reduceBEq, Int.reduceBNe, Int.reduceLT, aPost, resK, tup, tyf, L2, callK, List.nil_append, List.append_nil, List.toList_toArray, List.cons_append]
      refine fin ?_
      simp (config := {maxSteps := 2000000}) only [s5, ↓aw_region, ↓aw_skip, ↓aw_seq, ↓aw_block, ↓aw_exit, ↓aw_ret, ↓sops_nil, ↓sops_go, ↓dops_nil, ↓dopsX_nil, ↓dopsR_nil, ↓vdn, vup, extr_20, extr_21, extr_30, extr_31, extr_32, List.map_cons, List.map_nil, cond_true, cond_false, aop, aThen, aBlock, argEnv, ev, sput, sputO, binK, binI, unK, builtinK, pickK, Nat.reduceBEq, Nat.reduceAdd, Int.reduceBEq, Int.reduceBNe, Int.reduceLT, aPost, resK, tup, tyf, e22, callK, List.nil_append, List.append_nil, List.toList_toArray, List.cons_append]
      refine awk ?_
      simp (config := {maxSteps := 2000000}) only [s5, ↓aw_region, ↓aw_skip, ↓aw_seq, ↓aw_block, ↓aw_exit, ↓aw_ret, ↓sops_nil, ↓sops_go, ↓dops_nil, ↓dopsX_nil, ↓dopsR_nil, ↓vdn, vup, extr_20, extr_21, extr_30, extr_31, extr_32, List.map_cons, List.map_nil, cond_true, cond_false, aop, aThen, aBlock, argEnv, ev, sput, sputO, binK, binI, unK, builtinK, pickK, Nat.reduceBEq, Nat.reduceAdd, Int.reduceBEq, Int.reduceBNe, Int.reduceLT, aPost, resK, tup, tyf]
end Go.Proofs.Tryd.Am

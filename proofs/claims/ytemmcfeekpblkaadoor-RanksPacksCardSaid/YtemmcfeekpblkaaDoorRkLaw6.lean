/-
  ranks: what two cycles have in common.
  ranks: Pack's search.
  ranks: Pack.
  ranks: Pack.
  ranks: the reference's packings.
  ranks: how many cycles the greatest packing has, by the reference.
  ranks: the law RanksPacks.
-/
import Derived.Test.YtemmcfeekpblkaaDoorRkClear
import Derived.Test.YtemmcfeekpblkaaDoorPck
import Derived.Test.YtemmcfeekpblkaaDoorFnF
import Derived.Test.YtemmcfeekpblkaaDoorRkRCyc
set_option linter.all false
namespace Go.Proofs.Tryd.Am
open Go.Am
set_option maxRecDepth 100000
set_option maxHeartbeats 1000000

theorem getD_mem {xs : List Int} {i : Nat} (hi : i < xs.length) : xs.getD i 0 ∈ xs := by
  rw [List.getD, List.getElem?_eq_getElem hi]; exact List.getElem_mem hi
theorem iindex_call [Tabs prog] {h : Heap} {v : Value} {xs : List Int} {x : Int} (hv : IntSl h v xs) (hl : xs.length < 9223372036854775807) : ACall prog 107 [v, vint x] h fun r h' => h' = h ∧ ∃ z : Int, r = .int .i64 z ∧ decide (0 ≤ z) = xs.contains x := by
  refine s107_call (by simp) ?_
  simp (config := {maxSteps := 2000000}) only [s107, ↓aw_region, ↓aw_skip, ↓aw_seq, ↓aw_block, ↓aw_exit, ↓aw_ret, ↓sops_nil, ↓sops_go, ↓dops_nil, ↓dopsX_nil, ↓dopsR_nil, ↓vdn, vup, extr_20, extr_21, extr_30, extr_31, extr_32, List.map_cons, List.map_nil, cond_true, cond_false, aop, aThen, aBlock, argEnv, ev, sput, sputO, binK, binI, unK, builtinK, pickK, Nat.reduceBEq, Nat.reduceAdd, Int.reduceBEq, Int.reduceBNe, Int.reduceLT, aPost, resK, tup, tyf, hv.len, ↓aw_loop_eq]
  refine aws_hide fun Q hQ => ?_
  refine aw_loop (γ := Nat) (fun i => i ≤ xs.length ∧ ∀ k, k < i → x ≠ xs.getD k 0)
    (fun i => ([(0, v), (1, vint x), (7, vint xs.length), (8, vint i)], h)) (fun i => xs.length - i) 0 ⟨Nat.zero_le _, fun _ hk => by omega⟩ (by simp (config := {maxSteps := 2000000}) only [↓aw_region, ↓aw_skip, ↓aw_seq, ↓aw_block, ↓aw_exit, ↓aw_ret, ↓sops_nil, ↓sops_go, ↓dops_nil, ↓dopsX_nil, ↓dopsR_nil, ↓vdn, vup, extr_20, extr_21, extr_30, extr_31, extr_32, List.map_cons, List.map_nil, cond_true, cond_false, aop, aThen, aBlock, argEnv, ev, sput, sputO, binK, binI, unK, builtinK, pickK, Nat.reduceBEq, Nat.reduceAdd, Int.reduceBEq, Int.reduceBNe, Int.reduceLT, aPost, resK, tup, tyf, Int.natCast_zero]) rfl ?_
  rintro i ⟨hi, hno⟩
  refine aw_hide fun Q2 hQ2 => ?_
  by_cases hin : (i : Int) < xs.length
  · have h1 : i < xs.length := by omega
    by_cases hx : x = xs.getD i 0
    · have hb : (x == xs.getD i 0) = true := beq_iff_eq.2 hx
      simp (config := {maxSteps := 2000000}) only [s107, ↓aw_region, ↓aw_skip, ↓aw_seq, ↓aw_block, ↓aw_exit, ↓aw_ret, ↓sops_nil, ↓sops_go, ↓dops_nil, ↓dopsX_nil, ↓dopsR_nil, ↓vdn, vup, extr_20, extr_21, extr_30, extr_31, extr_32, List.map_cons, List.map_nil, cond_true, cond_false, aop, aThen, aBlock, argEnv, ev, sput, sputO, binK, binI, unK, builtinK, pickK, Nat.reduceBEq, Nat.reduceAdd, Int.reduceBEq, Int.reduceBNe, Int.reduceLT, aPost, resK, tup, tyf, l107_0, hin, hv.idx el_22 esz_3 h1, hv.load shp_3 h1, hb]
      refine hQ2 _ _ _ (hQ _ _ _ ?_)
      simp (config := {maxSteps := 2000000}) only [s107, ↓aw_region, ↓aw_skip, ↓aw_seq, ↓aw_block, ↓aw_exit, ↓aw_ret, ↓sops_nil, ↓sops_go, ↓dops_nil, ↓dopsX_nil, ↓dopsR_nil, ↓vdn, vup, extr_20, extr_21, extr_30, extr_31, extr_32, List.map_cons, List.map_nil, cond_true, cond_false, aop, aThen, aBlock, argEnv, ev, sput, sputO, binK, binI, unK, builtinK, pickK, Nat.reduceBEq, Nat.reduceAdd, Int.reduceBEq, Int.reduceBNe, Int.reduceLT, aPost, resK, tup, tyf]
      refine ⟨_, rfl, ?_⟩
      rw [decide_eq_true (Int.natCast_nonneg i)]
      have : x ∈ xs := by rw [hx]; exact getD_mem h1
      simpa using this
    · have hb : (x == xs.getD i 0) = false := beq_eq_false_iff_ne.2 hx
      simp (config := {maxSteps := 2000000}) only [s107, ↓aw_region, ↓aw_skip, ↓aw_seq, ↓aw_block, ↓aw_exit, ↓aw_ret, ↓sops_nil, ↓sops_go, ↓dops_nil, ↓dopsX_nil, ↓dopsR_nil, ↓vdn, vup, extr_20, extr_21, extr_30, extr_31, extr_32, List.map_cons, List.map_nil, cond_true, cond_false, aop, aThen, aBlock, argEnv, ev, sput, sputO, binK, binI, unK, builtinK, pickK, Nat.reduceBEq, Nat.reduceAdd, Int.reduceBEq, Int.reduceBNe, Int.reduceLT, aPost, resK, tup, tyf, l107_0, hin, hv.idx el_22 esz_3 h1, hv.load shp_3 h1, hb, add1 (show i < 9223372036854775807 by omega)]
      refine hQ2 _ _ _ ⟨i + 1, ⟨by omega, fun k hk => ?_⟩, by omega, by simp (config := {maxSteps := 2000000}) only [↓aw_region, ↓aw_skip, ↓aw_seq, ↓aw_block, ↓aw_exit, ↓aw_ret, ↓sops_nil, ↓sops_go, ↓dops_nil, ↓dopsX_nil, ↓dopsR_nil, ↓vdn, vup, extr_20, extr_21, extr_30, extr_31, extr_32, List.map_cons, List.map_nil, cond_true, cond_false, aop, aThen, aBlock, argEnv, ev, sput, sputO, binK, binI, unK, builtinK, pickK, Nat.reduceBEq, Nat.reduceAdd, Int.reduceBEq, Int.reduceBNe, Int.reduceLT, aPost, resK, tup, tyf], rfl⟩
      by_cases hki : k = i
      · rw [hki]; exact hx
      · exact hno k (by omega)
  · obtain rfl : i = xs.length := by omega
    simp (config := {maxSteps := 2000000}) only [s107, ↓aw_region, ↓aw_skip, ↓aw_seq, ↓aw_block, ↓aw_exit, ↓aw_ret, ↓sops_nil, ↓sops_go, ↓dops_nil, ↓dopsX_nil, ↓dopsR_nil, ↓vdn, vup, extr_20, extr_21, extr_30, extr_31, extr_32, List.map_cons, List.map_nil, cond_true, cond_false, aop, aThen, aBlock, argEnv, ev, sput, sputO, binK, binI, unK, builtinK, pickK, Nat.reduceBEq, Nat.reduceAdd, Int.reduceBEq, Int.reduceBNe, Int.reduceLT, aPost, resK, tup, tyf, l107_0, Int.lt_irrefl]
    refine hQ2 _ _ _ (hQ _ _ _ ?_)
    simp (config := {maxSteps := 2000000}) only [s107, ↓aw_region, ↓aw_skip, ↓aw_seq, ↓aw_block, ↓aw_exit, ↓aw_ret, ↓sops_nil, ↓sops_go, ↓dops_nil, ↓dopsX_nil, ↓dopsR_nil, ↓vdn, vup, extr_20, extr_21, extr_30, extr_31, extr_32, List.map_cons, List.map_nil, cond_true, cond_false, aop, aThen, aBlock, argEnv, ev, sput, sputO, binK, binI, unK, builtinK, pickK, Nat.reduceBEq, Nat.reduceAdd, Int.reduceBEq, Int.reduceBNe, Int.reduceLT, aPost, resK, tup, tyf, if_true]
    refine ⟨_, rfl, ?_⟩
    rw [decide_eq_false (by decide)]
    symm
    rw [← Bool.not_eq_true]
    intro hc
    have hm : x ∈ xs := by simpa using hc
    obtain ⟨k, hk, he⟩ := List.mem_iff_getElem.1 hm
    exact hno k hk (by rw [List.getD, List.getElem?_eq_getElem hk]; exact he.symm)
theorem icontains_call [Tabs prog] {h : Heap} {v : Value} {xs : List Int} {x : Int} (hv : IntSl h v xs) (hl : xs.length < 9223372036854775807) : APure prog 96 [v, vint x] h (.bool (xs.contains x)) := by
  refine s96_call (by simp) ?_
  simp (config := {maxSteps := 2000000}) only [s96, ↓aw_region, ↓aw_skip, ↓aw_seq, ↓aw_block, ↓aw_exit, ↓aw_ret, ↓sops_nil, ↓sops_go, ↓dops_nil, ↓dopsX_nil, ↓dopsR_nil, ↓vdn, vup, extr_20, extr_21, extr_30, extr_31, extr_32, List.map_cons, List.map_nil, cond_true, cond_false, aop, aThen, aBlock, argEnv, ev, sput, sputO, binK, binI, unK, builtinK, pickK, Nat.reduceBEq, Nat.reduceAdd, Int.reduceBEq, Int.reduceBNe, Int.reduceLT, aPost, resK, tup, tyf, callK, List.nil_append, List.append_nil, List.toList_toArray, List.cons_append]
  refine (iindex_call hv hl).mono ?_
  rintro _ h ⟨rfl, z, rfl, hz⟩
  simp (config := {maxSteps := 2000000}) only [s96, ↓aw_region, ↓aw_skip, ↓aw_seq, ↓aw_block, ↓aw_exit, ↓aw_ret, ↓sops_nil, ↓sops_go, ↓dops_nil, ↓dopsX_nil, ↓dopsR_nil, ↓vdn, vup, extr_20, extr_21, extr_30, extr_31, extr_32, List.map_cons, List.map_nil, cond_true, cond_false, aop, aThen, aBlock, argEnv, ev, sput, sputO, binK, binI, unK, builtinK, pickK, Nat.reduceBEq, Nat.reduceAdd, Int.reduceBEq, Int.reduceBNe, Int.reduceLT, aPost, resK, tup, tyf, ge_iff_le, hz]

/-- An entry of a triple. -/
def cp (x : T3) (k : Nat) : Int := [x.1, x.2.1, x.2.2].getD k 0
theorem cp_idx {x : T3} {k : Nat} (hk : k < 3) {K : Value → Prop} : indexK prog 40 (tV x) (vint k) K = K (vint (cp x k)) := by
  simp only [indexK, tV, und_40, esz_3, Int.toNat_natCast, Nat.mul_one, partK, shp_3]
  have h1 : (0 : Int) ≤ (k : Nat) := Int.natCast_nonneg k
  have h2 : ((k : Nat) : Int) < (3 : Nat) := Int.ofNat_lt.2 hk
  rcases (show k = 0 ∨ k = 1 ∨ k = 2 by omega) with rfl | rfl | rfl <;> simp [cp]
/-- A triple as it lies. -/
theorem boxT {h : Heap} {x : T3} {K : Value → Heap → Prop} : boxK prog h 40 (tV x) K = K (newPtr h) (h ++ [.cells [vint x.1, vint x.2.1, vint x.2.2] 40 false]) := by
  simp [boxK, esz_40, newPtr, cellsOf, tV]
theorem loadT {h : Heap} {b : Nat} {x : T3} {e : TypeId} {ro : Bool} {K : Value → Prop} (hb : h[b]? = some (.cells [vint x.1, vint x.2.1, vint x.2.2] e ro)) : loadK prog h 40 (.pointer (some ⟨b, 0, none⟩)) K = K (tV x) := loadA hb (by rw [shp_40]; rfl)
theorem storeT {h : Heap} {b : Nat} {x : T3} {e : TypeId} {c : List Value} {K : Heap → Prop} (hb : h[b]? = some (.cells c e false)) (hc : c.length = 3) : storeK prog h 40 (.pointer (some ⟨b, 0, none⟩)) (tV x) K = K (h.set b (.cells [vint x.1, vint x.2.1, vint x.2.2] e false)) :=
  storeA (vs := [vint x.1, vint x.2.1, vint x.2.2]) hb (by rw [shp_40]; rfl) rfl (by rw [hc]; rfl)
/-- The entries so far that are in the other one. -/
def c2 (x y : T3) : Nat → Nat
  | 0 => 0
  | k + 1 => c2 x y k + Pck.inn (cp x k) y
theorem c2_le (x y : T3) : ∀ k, c2 x y k ≤ k
  | 0 => Nat.le_refl _
  | k + 1 => by
    have := c2_le x y k
    rw [c2, Pck.inn]; split <;> omega
theorem c2_three (x y : T3) : c2 x y 3 = Pck.cm2 x y := by simp [c2, Pck.cm2, cp]
theorem arrIn {h : Heap} {b : Nat} {y : T3} {e : TypeId} {ro : Bool} (hb : h[b]? = some (.cells [vint y.1, vint y.2.1, vint y.2.2] e ro)) : IntSl h (.slice (some ⟨b, 0, none⟩) 3 3) [y.1, y.2.1, y.2.2] :=
  .inr ⟨b, 0, none, 3, [vint y.1, vint y.2.1, vint y.2.2], e, ro, rfl, Nat.le_refl _, by simp only [view, hb, Option.bind_some, Blk.view], fun i hi => by
    rcases (show i = 0 ∨ i = 1 ∨ i = 2 by simp at hi; omega) with rfl | rfl | rfl <;> rfl⟩
theorem in_cont (a : Int) (y : T3) : ([y.1, y.2.1, y.2.2] : List Int).contains a = decide (Pck.inn a y = 1) := by
  rw [Bool.eq_iff_iff, decide_eq_true_eq]
  unfold Pck.inn
  by_cases h : a = y.1 ∨ a = y.2.1 ∨ a = y.2.2
  · rw [if_pos h]; simpa using h
  · rw [if_neg h]; simpa using h
theorem common_call [Tabs prog] {h : Heap} (x y : T3) : APure prog 69 [tV x, tV y] h (vint (Pck.cm2 x y : Nat)) := by
  refine ACall.forget (Low.int _ _) ?_
  refine s69_call (by simp) ?_
  have b2 : ∀ {K : Value → Heap → Prop}, boxK prog (h ++ [.cells [vint x.1, vint x.2.1, vint x.2.2] 40 false]) 40 (tV y) K = K (newPtr (h ++ [.cells [vint x.1, vint x.2.1, vint x.2.2] 40 false])) (h ++ [.cells [vint x.1, vint x.2.1, vint x.2.2] 40 false] ++ [.cells [vint y.1, vint y.2.1, vint y.2.2] 40 false]) := fun {K} => boxT
  have hx := get_old (get_new h (Blk.cells [vint x.1, vint x.2.1, vint x.2.2] 40 false)) [.cells [vint y.1, vint y.2.1, vint y.2.2] 40 false]
  have hy := get_new (h ++ [Blk.cells [vint x.1, vint x.2.1, vint x.2.2] 40 false]) (Blk.cells [vint y.1, vint y.2.1, vint y.2.2] 40 false)
  have hE : Ext (fun _ => False) h (h ++ [.cells [vint x.1, vint x.2.1, vint x.2.2] 40 false] ++ [.cells [vint y.1, vint y.2.1, vint y.2.2] 40 false]) := by rw [List.append_assoc]; exact Ext.app _ _ _
  simp (config := {maxSteps := 2000000}) only [s69, ↓aw_region, ↓aw_skip, ↓aw_seq, ↓aw_block, ↓aw_exit, ↓aw_ret, ↓sops_nil, ↓sops_go, ↓dops_nil, ↓dopsX_nil, ↓dopsR_nil, ↓vdn, vup, extr_20, extr_21, extr_30, extr_31, extr_32, List.map_cons, List.map_nil, cond_true, cond_false, aop, aThen, aBlock, argEnv, ev, sput, sputO, binK, binI, unK, builtinK, pickK, Nat.reduceBEq, Nat.reduceAdd, Int.reduceBEq, Int.reduceBNe, Int.reduceLT, aPost, resK, tup, tyf, boxT, b2, newPtr, loadT hx, ↓aw_loop_eq]
  generalize h ++ [Blk.cells [vint x.1, vint x.2.1, vint x.2.2] 40 false] ++ [Blk.cells [vint y.1, vint y.2.1, vint y.2.2] 40 false] = h1 at hx hy hE ⊢
  generalize (h ++ [Blk.cells [vint x.1, vint x.2.1, vint x.2.2] 40 false]).length = by' at hy ⊢
  refine aws_hide fun Q hQ => ?_
  refine aw_loop (γ := Nat) (fun k => k ≤ 3)
    (fun k => ([(3, .pointer (some ⟨by', 0, none⟩)), (5, vint (c2 x y k : Nat)), (8, tV x), (9, vint k)], h1)) (fun k => 3 - k) 0 (Nat.zero_le _) (by simp (config := {maxSteps := 2000000}) only [↓aw_region, ↓aw_skip, ↓aw_seq, ↓aw_block, ↓aw_exit, ↓aw_ret, ↓sops_nil, ↓sops_go, ↓dops_nil, ↓dopsX_nil, ↓dopsR_nil, ↓vdn, vup, extr_20, extr_21, extr_30, extr_31, extr_32, List.map_cons, List.map_nil, cond_true, cond_false, aop, aThen, aBlock, argEnv, ev, sput, sputO, binK, binI, unK, builtinK, pickK, Nat.reduceBEq, Nat.reduceAdd, Int.reduceBEq, Int.reduceBNe, Int.reduceLT, aPost, resK, tup, tyf, Int.natCast_zero, c2]) rfl ?_
  intro k hk
  refine aw_hide fun Q2 hQ2 => ?_
  by_cases hin : (k : Int) < 3
  · have h1' : k < 3 := by omega
    simp (config := {maxSteps := 2000000}) only [s69, ↓aw_region, ↓aw_skip, ↓aw_seq, ↓aw_block, ↓aw_exit, ↓aw_ret, ↓sops_nil, ↓sops_go, ↓dops_nil, ↓dopsX_nil, ↓dopsR_nil, ↓vdn, vup, extr_20, extr_21, extr_30, extr_31, extr_32, List.map_cons, List.map_nil, cond_true, cond_false, aop, aThen, aBlock, argEnv, ev, sput, sputO, binK, binI, unK, builtinK, pickK, Nat.reduceBEq, Nat.reduceAdd, Int.reduceBEq, Int.reduceBNe, Int.reduceLT, aPost, resK, tup, tyf, l69_0, hin, cp_idx h1', arrSliceK, und_40, esz_3, Option.isSome_some, callK, List.nil_append, List.append_nil, List.toList_toArray, List.cons_append]
    refine (icontains_call (arrIn hy) (by simp)).mono ?_
    rintro _ h ⟨rfl, rfl⟩
    have hle := c2_le x y k
    by_cases hc : Pck.inn (cp x k) y = 1
    · have e1 : c2 x y (k + 1) = c2 x y k + 1 := by rw [c2, hc]
      simp (config := {maxSteps := 2000000}) only [s69, ↓aw_region, ↓aw_skip, ↓aw_seq, ↓aw_block, ↓aw_exit, ↓aw_ret, ↓sops_nil, ↓sops_go, ↓dops_nil, ↓dopsX_nil, ↓dopsR_nil, ↓vdn, vup, extr_20, extr_21, extr_30, extr_31, extr_32, List.map_cons, List.map_nil, cond_true, cond_false, aop, aThen, aBlock, argEnv, ev, sput, sputO, binK, binI, unK, builtinK, pickK, Nat.reduceBEq, Nat.reduceAdd, Int.reduceBEq, Int.reduceBNe, Int.reduceLT, aPost, resK, tup, tyf, in_cont, decide_eq_true hc, add1 (show c2 x y k < 9223372036854775807 by omega), add1 (show k < 9223372036854775807 by omega)]
      refine hQ2 _ _ _ ⟨k + 1, by omega, by omega, by simp (config := {maxSteps := 2000000}) only [↓aw_region, ↓aw_skip, ↓aw_seq, ↓aw_block, ↓aw_exit, ↓aw_ret, ↓sops_nil, ↓sops_go, ↓dops_nil, ↓dopsX_nil, ↓dopsR_nil, ↓vdn, vup, extr_20, extr_21, extr_30, extr_31, extr_32, List.map_cons, List.map_nil, cond_true, cond_false, aop, aThen, aBlock, argEnv, ev, sput, sputO, binK, binI, unK, builtinK, pickK, Nat.reduceBEq, Nat.reduceAdd, Int.reduceBEq, Int.reduceBNe, Int.reduceLT, aPost, resK, tup, tyf, e1], rfl⟩
    · have e1 : c2 x y (k + 1) = c2 x y k := by
        have : Pck.inn (cp x k) y = 0 := by
          unfold Pck.inn at hc ⊢
          split at hc
          · exact absurd rfl hc
          · rename_i h; rw [if_neg h]
        rw [c2, this, Nat.add_zero]
      simp (config := {maxSteps := 2000000}) only [s69, ↓aw_region, ↓aw_skip, ↓aw_seq, ↓aw_block, ↓aw_exit, ↓aw_ret, ↓sops_nil, ↓sops_go, ↓dops_nil, ↓dopsX_nil, ↓dopsR_nil, ↓vdn, vup, extr_20, extr_21, extr_30, extr_31, extr_32, List.map_cons, List.map_nil, cond_true, cond_false, aop, aThen, aBlock, argEnv, ev, sput, sputO, binK, binI, unK, builtinK, pickK, Nat.reduceBEq, Nat.reduceAdd, Int.reduceBEq, Int.reduceBNe, Int.reduceLT, aPost, resK, tup, tyf, in_cont, decide_eq_false hc, add1 (show k < 9223372036854775807 by omega)]
      refine hQ2 _ _ _ ⟨k + 1, by omega, by omega, by simp (config := {maxSteps := 2000000}) only [↓aw_region, ↓aw_skip, ↓aw_seq, ↓aw_block, ↓aw_exit, ↓aw_ret, ↓sops_nil, ↓sops_go, ↓dops_nil, ↓dopsX_nil, ↓dopsR_nil, ↓vdn, vup, extr_20, extr_21, extr_30, extr_31, extr_32, List.map_cons, List.map_nil, cond_true, cond_false, aop, aThen, aBlock, argEnv, ev, sput, sputO, binK, binI, unK, builtinK, pickK, Nat.reduceBEq, Nat.reduceAdd, Int.reduceBEq, Int.reduceBNe, Int.reduceLT, aPost, resK, tup, tyf, e1], rfl⟩
  · obtain rfl : k = 3 := by omega
    simp (config := {maxSteps := 2000000}) only [s69, ↓aw_region, ↓aw_skip, ↓aw_seq, ↓aw_block, ↓aw_exit, ↓aw_ret, ↓sops_nil, ↓sops_go, ↓dops_nil, ↓dopsX_nil, ↓dopsR_nil, ↓vdn, vup, extr_20, extr_21, extr_30, extr_31, extr_32, List.map_cons, List.map_nil, cond_true, cond_false, aop, aThen, aBlock, argEnv, ev, sput, sputO, binK, binI, unK, builtinK, pickK, Nat.reduceBEq, Nat.reduceAdd, Int.reduceBEq, Int.reduceBNe, Int.reduceLT, aPost, resK, tup, tyf, l69_0, hin]
    refine hQ2 _ _ _ (hQ _ _ _ ?_)
    simp (config := {maxSteps := 2000000}) only [s69, ↓aw_region, ↓aw_skip, ↓aw_seq, ↓aw_block, ↓aw_exit, ↓aw_ret, ↓sops_nil, ↓sops_go, ↓dops_nil, ↓dopsX_nil, ↓dopsR_nil, ↓vdn, vup, extr_20, extr_21, extr_30, extr_31, extr_32, List.map_cons, List.map_nil, cond_true, cond_false, aop, aThen, aBlock, argEnv, ev, sput, sputO, binK, binI, unK, builtinK, pickK, Nat.reduceBEq, Nat.reduceAdd, Int.reduceBEq, Int.reduceBNe, Int.reduceLT, aPost, resK, tup, tyf, c2_three]
    exact hE

/-- One entry among the first ones of the other. -/
def ci (a : Int) (y : T3) : Nat → Nat
  | 0 => 0
  | k + 1 => ci a y k + if a = cp y k then 1 else 0
def c1 (x y : T3) : Nat → Nat
  | 0 => 0
  | k + 1 => c1 x y k + ci (cp x k) y 3
theorem ci_le (a : Int) (y : T3) : ∀ k, ci a y k ≤ k
  | 0 => Nat.le_refl _
  | k + 1 => by
    have := ci_le a y k
    rw [ci]; split <;> omega
theorem c1_le (x y : T3) : ∀ k, c1 x y k ≤ 3 * k
  | 0 => Nat.le_refl _
  | k + 1 => by
    have := c1_le x y k
    have := ci_le (cp x k) y 3
    rw [c1]; omega
theorem c1_three (x y : T3) : c1 x y 3 = Pck.cm x y := by simp [c1, ci, Pck.cm, cp]
theorem rcommon_call [Tabs prog] {h : Heap} (x y : T3) : APure prog 70 [tV x, tV y] h (vint (Pck.cm x y : Nat)) := by
  refine ACall.forget (Low.int _ _) ?_
  refine s70_call (by simp) ?_
  have b2 : ∀ {K : Value → Heap → Prop}, boxK prog (h ++ [.cells [vint x.1, vint x.2.1, vint x.2.2] 40 false]) 40 (tV y) K = K (newPtr (h ++ [.cells [vint x.1, vint x.2.1, vint x.2.2] 40 false])) (h ++ [.cells [vint x.1, vint x.2.1, vint x.2.2] 40 false] ++ [.cells [vint y.1, vint y.2.1, vint y.2.2] 40 false]) := fun {K} => boxT
  have hx := get_old (get_new h (Blk.cells [vint x.1, vint x.2.1, vint x.2.2] 40 false)) [.cells [vint y.1, vint y.2.1, vint y.2.2] 40 false]
  have hy := get_new (h ++ [Blk.cells [vint x.1, vint x.2.1, vint x.2.2] 40 false]) (Blk.cells [vint y.1, vint y.2.1, vint y.2.2] 40 false)
  have hE : Ext (fun _ => False) h (h ++ [.cells [vint x.1, vint x.2.1, vint x.2.2] 40 false] ++ [.cells [vint y.1, vint y.2.1, vint y.2.2] 40 false]) := by rw [List.append_assoc]; exact Ext.app _ _ _
  simp (config := {maxSteps := 2000000}) only [s70, ↓aw_region, ↓aw_skip, ↓aw_seq, ↓aw_block, ↓aw_exit, ↓aw_ret, ↓sops_nil, ↓sops_go, ↓dops_nil, ↓dopsX_nil, ↓dopsR_nil, ↓vdn, vup, extr_20, extr_21, extr_30, extr_31, extr_32, List.map_cons, List.map_nil, cond_true, cond_false, aop, aThen, aBlock, argEnv, ev, sput, sputO, binK, binI, unK, builtinK, pickK, Nat.reduceBEq, Nat.reduceAdd, Int.reduceBEq, Int.reduceBNe, Int.reduceLT, aPost, resK, tup, tyf, boxT, b2, newPtr, loadT hx, ↓aw_loop_eq]
  generalize h ++ [Blk.cells [vint x.1, vint x.2.1, vint x.2.2] 40 false] ++ [Blk.cells [vint y.1, vint y.2.1, vint y.2.2] 40 false] = h1 at hx hy hE ⊢
  generalize (h ++ [Blk.cells [vint x.1, vint x.2.1, vint x.2.2] 40 false]).length = by' at hy ⊢
  refine aws_hide fun Q hQ => ?_
  refine aw_loop (γ := Nat) (fun k => k ≤ 3)
    (fun k => ([(3, .pointer (some ⟨by', 0, none⟩)), (5, vint (c1 x y k : Nat)), (10, tV x), (11, vint k)], h1)) (fun k => 3 - k) 0 (Nat.zero_le _) (by simp (config := {maxSteps := 2000000}) only [↓aw_region, ↓aw_skip, ↓aw_seq, ↓aw_block, ↓aw_exit, ↓aw_ret, ↓sops_nil, ↓sops_go, ↓dops_nil, ↓dopsX_nil, ↓dopsR_nil, ↓vdn, vup, extr_20, extr_21, extr_30, extr_31, extr_32, List.map_cons, List.map_nil, cond_true, cond_false, aop, aThen, aBlock, argEnv, ev, sput, sputO, binK, binI, unK, builtinK, pickK, Nat.reduceBEq, Nat.reduceAdd, Int.reduceBEq, Int.reduceBNe, Int.reduceLT, aPost, resK, tup, tyf, Int.natCast_zero, c1]) rfl ?_
  intro k hk
  refine aw_hide fun Q2 hQ2 => ?_
  by_cases hin : (k : Int) < 3
  · have h1' : k < 3 := by omega
    have hle := c1_le x y k
    simp (config := {maxSteps := 2000000}) only [s70, ↓aw_region, ↓aw_skip, ↓aw_seq, ↓aw_block, ↓aw_exit, ↓aw_ret, ↓sops_nil, ↓sops_go, ↓dops_nil, ↓dopsX_nil, ↓dopsR_nil, ↓vdn, vup, extr_20, extr_21, extr_30, extr_31, extr_32, List.map_cons, List.map_nil, cond_true, cond_false, aop, aThen, aBlock, argEnv, ev, sput, sputO, binK, binI, unK, builtinK, pickK, Nat.reduceBEq, Nat.reduceAdd, Int.reduceBEq, Int.reduceBNe, Int.reduceLT, aPost, resK, tup, tyf, l70_1, hin, cp_idx h1', loadT hy, ↓aw_loop_eq]
    refine aws_hide fun Q3 hQ3 => ?_
    refine aw_loop (γ := Nat) (fun j => j ≤ 3)
      (fun j => ([(3, .pointer (some ⟨by', 0, none⟩)), (5, vint (c1 x y k + ci (cp x k) y j : Nat)), (7, vint (cp x k)), (10, tV x), (11, vint k), (14, tV y), (15, vint j)], h1)) (fun j => 3 - j) 0 (Nat.zero_le _) (by simp (config := {maxSteps := 2000000}) only [↓aw_region, ↓aw_skip, ↓aw_seq, ↓aw_block, ↓aw_exit, ↓aw_ret, ↓sops_nil, ↓sops_go, ↓dops_nil, ↓dopsX_nil, ↓dopsR_nil, ↓vdn, vup, extr_20, extr_21, extr_30, extr_31, extr_32, List.map_cons, List.map_nil, cond_true, cond_false, aop, aThen, aBlock, argEnv, ev, sput, sputO, binK, binI, unK, builtinK, pickK, Nat.reduceBEq, Nat.reduceAdd, Int.reduceBEq, Int.reduceBNe, Int.reduceLT, aPost, resK, tup, tyf, Int.natCast_zero, ci, Nat.add_zero]) rfl ?_
    intro j hj
    refine aw_hide fun Q4 hQ4 => ?_
    have hle2 := ci_le (cp x k) y j
    by_cases hin2 : (j : Int) < 3
    · have h2' : j < 3 := by omega
      by_cases he : cp x k = cp y j
      · have e1 : c1 x y k + ci (cp x k) y (j + 1) = c1 x y k + ci (cp x k) y j + 1 := by rw [ci, if_pos he]; omega
        have hb : (cp x k == cp y j) = true := beq_iff_eq.2 he
        simp (config := {maxSteps := 2000000}) only [s70, ↓aw_region, ↓aw_skip, ↓aw_seq, ↓aw_block, ↓aw_exit, ↓aw_ret, ↓sops_nil, ↓sops_go, ↓dops_nil, ↓dopsX_nil, ↓dopsR_nil, ↓vdn, vup, extr_20, extr_21, extr_30, extr_31, extr_32, List.map_cons, List.map_nil, cond_true, cond_false, aop, aThen, aBlock, argEnv, ev, sput, sputO, binK, binI, unK, builtinK, pickK, Nat.reduceBEq, Nat.reduceAdd, Int.reduceBEq, Int.reduceBNe, Int.reduceLT, aPost, resK, tup, tyf, l70_0, hin2, cp_idx h2', hb, add1 (show c1 x y k + ci (cp x k) y j < 9223372036854775807 by omega), add1 (show j < 9223372036854775807 by omega)]
        refine hQ4 _ _ _ ⟨j + 1, by omega, by omega, by simp (config := {maxSteps := 2000000}) only [↓aw_region, ↓aw_skip, ↓aw_seq, ↓aw_block, ↓aw_exit, ↓aw_ret, ↓sops_nil, ↓sops_go, ↓dops_nil, ↓dopsX_nil, ↓dopsR_nil, ↓vdn, vup, extr_20, extr_21, extr_30, extr_31, extr_32, List.map_cons, List.map_nil, cond_true, cond_false, aop, aThen, aBlock, argEnv, ev, sput, sputO, binK, binI, unK, builtinK, pickK, Nat.reduceBEq, Nat.reduceAdd, Int.reduceBEq, Int.reduceBNe, Int.reduceLT, aPost, resK, tup, tyf, e1], rfl⟩
      · have e1 : c1 x y k + ci (cp x k) y (j + 1) = c1 x y k + ci (cp x k) y j := by rw [ci, if_neg he]; omega
        have hb : (cp x k == cp y j) = false := beq_eq_false_iff_ne.2 he
        simp (config := {maxSteps := 2000000}) only [s70, ↓aw_region, ↓aw_skip, ↓aw_seq, ↓aw_block, ↓aw_exit, ↓aw_ret, ↓sops_nil, ↓sops_go, ↓dops_nil, ↓dopsX_nil, ↓dopsR_nil, ↓vdn, vup, extr_20, extr_21, extr_30, extr_31, extr_32, List.map_cons, List.map_nil, cond_true, cond_false, aop, aThen, aBlock, argEnv, ev, sput, sputO, binK, binI, unK, builtinK, pickK, Nat.reduceBEq, Nat.reduceAdd, Int.reduceBEq, Int.reduceBNe, Int.reduceLT, aPost, resK, tup, tyf, l70_0, hin2, cp_idx h2', hb, add1 (show j < 9223372036854775807 by omega)]
        refine hQ4 _ _ _ ⟨j + 1, by omega, by omega, by simp (config := {maxSteps := 2000000}) only [↓aw_region, ↓aw_skip, ↓aw_seq, ↓aw_block, ↓aw_exit, ↓aw_ret, ↓sops_nil, ↓sops_go, ↓dops_nil, ↓dopsX_nil, ↓dopsR_nil, ↓vdn, vup, extr_20, extr_21, extr_30, extr_31, extr_32, List.map_cons, List.map_nil, cond_true, cond_false, aop, aThen, aBlock, argEnv, ev, sput, sputO, binK, binI, unK, builtinK, pickK, Nat.reduceBEq, Nat.reduceAdd, Int.reduceBEq, Int.reduceBNe, Int.reduceLT, aPost, resK, tup, tyf, e1], rfl⟩
    · obtain rfl : j = 3 := by omega
      simp (config := {maxSteps := 2000000}) only [s70, ↓aw_region, ↓aw_skip, ↓aw_seq, ↓aw_block, ↓aw_exit, ↓aw_ret, ↓sops_nil, ↓sops_go, ↓dops_nil, ↓dopsX_nil, ↓dopsR_nil, ↓vdn, vup, extr_20, extr_21, extr_30, extr_31, extr_32, List.map_cons, List.map_nil, cond_true, cond_false, aop, aThen, aBlock, argEnv, ev, sput, sputO, binK, binI, unK, builtinK, pickK, Nat.reduceBEq, Nat.reduceAdd, Int.reduceBEq, Int.reduceBNe, Int.reduceLT, aPost, resK, tup, tyf, l70_0, hin2]
      refine hQ4 _ _ _ (hQ3 _ _ _ ?_)
      simp (config := {maxSteps := 2000000}) only [s70, ↓aw_region, ↓aw_skip, ↓aw_seq, ↓aw_block, ↓aw_exit, ↓aw_ret, ↓sops_nil, ↓sops_go, ↓dops_nil, ↓dopsX_nil, ↓dopsR_nil, ↓vdn, vup, extr_20, extr_21, extr_30, extr_31, extr_32, List.map_cons, List.map_nil, cond_true, cond_false, aop, aThen, aBlock, argEnv, ev, sput, sputO, binK, binI, unK, builtinK, pickK, Nat.reduceBEq, Nat.reduceAdd, Int.reduceBEq, Int.reduceBNe, Int.reduceLT, aPost, resK, tup, tyf, add1 (show k < 9223372036854775807 by omega)]
      refine hQ2 _ _ _ ⟨k + 1, by omega, by omega, by simp (config := {maxSteps := 2000000}) only [↓aw_region, ↓aw_skip, ↓aw_seq, ↓aw_block, ↓aw_exit, ↓aw_ret, ↓sops_nil, ↓sops_go, ↓dops_nil, ↓dopsX_nil, ↓dopsR_nil, ↓vdn, vup, extr_20, extr_21, extr_30, extr_31, extr_32, List.map_cons, List.map_nil, cond_true, cond_false, aop, aThen, aBlock, argEnv, ev, sput, sputO, binK, binI, unK, builtinK, pickK, Nat.reduceBEq, Nat.reduceAdd, Int.reduceBEq, Int.reduceBNe, Int.reduceLT, aPost, resK, tup, tyf, c1], rfl⟩
  · obtain rfl : k = 3 := by omega
    simp (config := {maxSteps := 2000000}) only [s70, ↓aw_region, ↓aw_skip, ↓aw_seq, ↓aw_block, ↓aw_exit, ↓aw_ret, ↓sops_nil, ↓sops_go, ↓dops_nil, ↓dopsX_nil, ↓dopsR_nil, ↓vdn, vup, extr_20, extr_21, extr_30, extr_31, extr_32, List.map_cons, List.map_nil, cond_true, cond_false, aop, aThen, aBlock, argEnv, ev, sput, sputO, binK, binI, unK, builtinK, pickK, Nat.reduceBEq, Nat.reduceAdd, Int.reduceBEq, Int.reduceBNe, Int.reduceLT, aPost, resK, tup, tyf, l70_1, hin]
    refine hQ2 _ _ _ (hQ _ _ _ ?_)
    simp (config := {maxSteps := 2000000}) only [s70, ↓aw_region, ↓aw_skip, ↓aw_seq, ↓aw_block, ↓aw_exit, ↓aw_ret, ↓sops_nil, ↓sops_go, ↓dops_nil, ↓dopsX_nil, ↓dopsR_nil, ↓vdn, vup, extr_20, extr_21, extr_30, extr_31, extr_32, List.map_cons, List.map_nil, cond_true, cond_false, aop, aThen, aBlock, argEnv, ev, sput, sputO, binK, binI, unK, builtinK, pickK, Nat.reduceBEq, Nat.reduceAdd, Int.reduceBEq, Int.reduceBNe, Int.reduceLT, aPost, resK, tup, tyf, c1_three]
    exact hE
end Go.Proofs.Tryd.Am

namespace Go.Proofs.Tryd.Am
open Go.Am
set_option maxRecDepth 100000
set_option maxHeartbeats 1000000

abbrev pt (b : Nat) : Value := .pointer (some ⟨b, 0, none⟩)
/-- Whether one of the packing has too much in common with the next one. -/
theorem common1_call [Tabs prog] {h : Heap} {na bx i : Nat} {av : Value} {D : List T3} {ro : Bool} (ha : h[na]? = some (.cells [av] 36 ro)) (hx : h[bx]? = some (.cells [vint i] 3 false)) (hv : TripSl h av D) (hi : i < D.length) (hd : Pck.Dist (D.getD i Go.Am.t0)) (x : T3) :
    APure prog 68 [tV x, pt na, pt bx] h (.bool (!Pck.okT x (D.getD i Go.Am.t0))) := by
  refine ACall.forget (Low.bool _) ?_
  refine s68_call (by simp) ?_
  have c0 := get_new h (Blk.cells [vint x.1, vint x.2.1, vint x.2.2] 40 false)
  have ha1 := get_old ha [Blk.cells [vint x.1, vint x.2.1, vint x.2.2] 40 false]
  have hx1 := get_old hx [Blk.cells [vint x.1, vint x.2.1, vint x.2.2] 40 false]
  have hE : Ext (fun _ => False) h (h ++ [Blk.cells [vint x.1, vint x.2.1, vint x.2.2] 40 false]) := Ext.app _ _ _
  have hv1 := hv.ext hE
  simp (config := {maxSteps := 2000000}) only [s68, ↓aw_region, ↓aw_skip, ↓aw_seq, ↓aw_block, ↓aw_exit, ↓aw_ret, ↓sops_nil, ↓sops_go, ↓dops_nil, ↓dopsX_nil, ↓dopsR_nil, ↓vdn, vup, extr_20, extr_21, extr_30, extr_31, extr_32, List.map_cons, List.map_nil, cond_true, cond_false, aop, aThen, aBlock, argEnv, ev, sput, sputO, binK, binI, unK, builtinK, pickK, Nat.reduceBEq, Nat.reduceAdd, Int.reduceBEq, Int.reduceBNe, Int.reduceLT, aPost, resK, tup, tyf, boxT, newPtr]
  generalize h ++ [Blk.cells [vint x.1, vint x.2.1, vint x.2.2] 40 false] = h1 at c0 ha1 hx1 hv1 hE ⊢
  have hgt : decide ((1 : Int) < ((Pck.cm2 x (D.getD i Go.Am.t0) : Nat) : Int)) = !Pck.okT x (D.getD i Go.Am.t0) := by
    rw [Pck.cm2_eq hd, Pck.okT, ← decide_not]
    exact decide_eq_decide.2 (by omega)
  refine aw_drawX [(5, 1)] (by kernel_rfl) (by kernel_rfl) (by kernel_rfl) (by kernel_rfl) ?_
  simp (config := {maxSteps := 2000000}) only [s68, ↓aw_region, ↓aw_skip, ↓aw_seq, ↓aw_block, ↓aw_exit, ↓aw_ret, ↓sops_nil, ↓sops_go, ↓dops_nil, ↓dopsX_nil, ↓dopsR_nil, ↓vdn, vup, extr_20, extr_21, extr_30, extr_31, extr_32, List.map_cons, List.map_nil, cond_true, cond_false, aop, aThen, aBlock, argEnv, ev, sput, sputO, binK, binI, unK, builtinK, pickK, Nat.reduceBEq, Nat.reduceAdd, Int.reduceBEq, Int.reduceBNe, Int.reduceLT, aPost, resK, tup, tyf, loadT c0, load1 ha1 shp_36, load1 hx1 shp_3, hv1.idx el_36 esz_40 hi, hv1.load shp_40 hi, callK, List.nil_append, List.append_nil, List.toList_toArray, List.cons_append]
  refine ⟨_, _, common_call x (D.getD i Go.Am.t0), rfl, ?_⟩
  simp (config := {maxSteps := 2000000}) only [s68, ↓aw_region, ↓aw_skip, ↓aw_seq, ↓aw_block, ↓aw_exit, ↓aw_ret, ↓sops_nil, ↓sops_go, ↓dops_nil, ↓dopsX_nil, ↓dopsR_nil, ↓vdn, vup, extr_20, extr_21, extr_30, extr_31, extr_32, List.map_cons, List.map_nil, cond_true, cond_false, aop, aThen, aBlock, argEnv, ev, sput, sputO, binK, binI, unK, builtinK, pickK, Nat.reduceBEq, Nat.reduceAdd, Int.reduceBEq, Int.reduceBNe, Int.reduceLT, aPost, resK, tup, tyf, gt_iff_lt, hgt]
  exact hE

theorem lit0T {h : Heap} (K : Value → Heap → Prop) : buildSliceK prog h 36 0 [] K = K (.slice (some ⟨h.length, 0, none⟩) 0 0) (h ++ [.ints [] 40 false]) := by
  simp only [buildSliceK, el_36, zero_40, esz_40, reps, fillL, mkb, intsOf, List.length_cons, List.length_nil, Nat.mul_one, Nat.zero_mul]
  exact propext ⟨fun h => h.2.2.2, fun h => ⟨trivial, by decide, by decide, h⟩⟩
theorem clonet_call [Tabs prog] {h : Heap} {v : Value} {ts : List T3} (hv : TripSl h v ts) (hx : ts ≠ []) (hl : ts.length < 1099511627776) : ACall prog 66 [v] h fun r h' => OwnT 40 h' r ts ∧ Ext (fun _ => False) h h' ∧ ∃ b, blkOf r = some b ∧ h.length ≤ b := by
  refine s66_call (by simp) ?_
  have hv' := hv
  rcases hv with ⟨rfl, rfl⟩ | ⟨b, o, sp, cap, c, e, ro, rfl, hc, hb, _⟩
  · exact absurd rfl hx
  · simp (config := {maxSteps := 2000000}) only [s66, ↓aw_region, ↓aw_skip, ↓aw_seq, ↓aw_block, ↓aw_exit, ↓aw_ret, ↓sops_nil, ↓sops_go, ↓dops_nil, ↓dopsX_nil, ↓dopsR_nil, ↓vdn, vup, extr_20, extr_21, extr_30, extr_31, extr_32, List.map_cons, List.map_nil, cond_true, cond_false, aop, aThen, aBlock, argEnv, ev, sput, sputO, binK, binI, unK, builtinK, pickK, Nat.reduceBEq, Nat.reduceAdd, Int.reduceBEq, Int.reduceBNe, Int.reduceLT, aPost, resK, tup, tyf, Option.isSome_some, List.toList_toArray, lit0T]
    refine (hv'.ext (Ext.app _ _ _)).copyOwn hx app_36_36 hl (get_new _ _) ?_
    refine ⟨OwnT.new _ _ hx, by rw [List.append_assoc]; exact Ext.app _ _ _, _, rfl, by simp⟩

/-- The search under way: the boxes of the best packing and of the present one. -/
structure PS (h0 : Heap) (na : Nat) (hp : Heap) (nv bv : Value) (now best : List T3) : Prop where
  len0 : h0.length = na + 4
  len : h0.length ≤ hp.length
  keep : ∀ i, i < na + 4 → i ≠ na + 1 → i ≠ na + 2 → hp[i]? = h0[i]?
  b : hp[na + 1]? = some (.cells [bv] 36 false)
  n : hp[na + 2]? = some (.cells [nv] 36 false)
  ob : OwnT 40 hp bv best
  on : OwnT 40 hp nv now
  lb : ∀ b, blkOf bv = some b → na + 4 ≤ b
  ln : ∀ b, blkOf nv = some b → na + 4 ≤ b
  ne : ∀ b, blkOf nv = some b → blkOf bv ≠ some b
def pS (na : Nat) (nv bv : Value) (i : Nat) : Prop := i = na + 1 ∨ i = na + 2 ∨ blkOf nv = some i ∨ blkOf bv = some i
def Mp (na : Nat) (h : Heap) (nv bv : Value) (h' : Heap) (nv' bv' : Value) : Prop :=
  Ext (pS na nv bv) h h' ∧ (blkOf nv' = blkOf nv ∨ ∃ b, blkOf nv' = some b ∧ h.length ≤ b) ∧ (blkOf bv' = blkOf bv ∨ ∃ b, blkOf bv' = some b ∧ h.length ≤ b)
section
variable {h0 h hp hq : Heap} {na : Nat} {nv bv nv' bv' nv2 bv2 : Value} {now best now' : List T3}
theorem Mp.new (hE : Ext (fun _ => False) hp hq) : Mp na hp nv bv hq nv bv := ⟨hE.mono fun _ h => h.elim, .inl rfl, .inl rfl⟩
theorem Mp.trans (a : Mp na h nv bv hp nv' bv') (b : Mp na hp nv' bv' hq nv2 bv2) : Mp na h nv bv hq nv2 bv2 := by
  have hl := a.1.1
  refine ⟨⟨Nat.le_trans hl b.1.1, fun i hi hs => ?_⟩, ?_, ?_⟩
  · rw [b.1.2 i (by omega) ?_, a.1.2 i hi hs]
    rintro (h1 | h1 | h1 | h1)
    · exact hs (.inl h1)
    · exact hs (.inr (.inl h1))
    · rcases a.2.1 with h2 | ⟨b', h2, h3⟩
      · exact hs (.inr (.inr (.inl (h2 ▸ h1))))
      · rw [h2] at h1; cases h1; omega
    · rcases a.2.2 with h2 | ⟨b', h2, h3⟩
      · exact hs (.inr (.inr (.inr (h2 ▸ h1))))
      · rw [h2] at h1; cases h1; omega
  · rcases b.2.1 with h1 | ⟨b', h1, h2⟩
    · rw [h1]; exact a.2.1
    · exact .inr ⟨b', h1, by omega⟩
  · rcases b.2.2 with h1 | ⟨b', h1, h2⟩
    · rw [h1]; exact a.2.2
    · exact .inr ⟨b', h1, by omega⟩
theorem Mp.box (m : Mp na hp nv bv hq nv' bv') (s : PS h0 na hp nv bv now best) {j : Nat} {c : List Value} {e : TypeId} {ro : Bool} (hj : hp[j]? = some (.cells c e ro)) (hn : na + 4 ≤ j) : hq[j]? = some (.cells c e ro) := by
  rw [m.1.2 j (get_lt hj) ?_]
  · exact hj
  · rintro (h1 | h1 | h1 | h1)
    · omega
    · omega
    · exact s.on.notCells hj h1
    · exact s.ob.notCells hj h1
theorem PS.new (s : PS h0 na hp nv bv now best) (hE : Ext (fun _ => False) hp hq) : PS h0 na hq nv bv now best where
  len0 := s.len0
  len := Nat.le_trans s.len hE.1
  keep i h1 h2 h3 := by rw [hE.2 i (by have := s.len; have := s.len0; omega) id]; exact s.keep i h1 h2 h3
  b := (hE.2 _ (get_lt s.b) id).trans s.b
  n := (hE.2 _ (get_lt s.n) id).trans s.n
  ob := s.ob.ext hE
  on := s.on.ext hE
  lb := s.lb
  ln := s.ln
  ne := s.ne
/-- A new best one. -/
theorem PS.newBest (s : PS h0 na hp nv bv now best) {ts : List T3} (hE : Ext (fun _ => False) hp hq) (ho : OwnT 40 hq bv' ts) {b : Nat} (hb : blkOf bv' = some b) (hbl : hp.length ≤ b) :
    PS h0 na (hq.set (na + 1) (.cells [bv'] 36 false)) nv bv' now ts ∧ Mp na hp nv bv (hq.set (na + 1) (.cells [bv'] 36 false)) nv bv' := by
  have s' := s.new hE
  have l0 := s.len0
  have l1 := s.len
  have l2 := get_lt s'.b
  have hbn : na + 4 ≤ b := by omega
  refine ⟨⟨s'.len0, by simpa using s'.len, fun i h1 h2 h3 => ?_, get_set l2 _, ?_, ?_, ?_, ?_, s'.ln, fun b1 h1 h2 => ?_⟩, ?_, .inl rfl, .inr ⟨b, hb, hbl⟩⟩
  · rw [List.getElem?_set_ne (by omega)]; exact s'.keep i h1 h2 h3
  · rw [List.getElem?_set_ne (by omega)]; exact s'.n
  · exact ho.same fun b1 h1 => List.getElem?_set_ne (by rw [hb] at h1; cases h1; omega)
  · exact s'.on.same fun b1 h1 => List.getElem?_set_ne (by have := s.ln b1 h1; omega)
  · intro b1 h1; rw [hb] at h1; cases h1; exact hbn
  · rw [hb] at h2; cases h2
    have := s.on.lt h1; omega
  · exact (hE.mono fun _ h => h.elim).trans (Ext.set _ (.inl rfl))
/-- Another present one. -/
theorem PS.pres (s : PS h0 na hp nv bv now best) (hE : Ext (fun i => blkOf nv = some i) hp hq) (ho : OwnT 40 hq nv' now') (hb : blkOf nv' = blkOf nv ∨ ∃ b, blkOf nv' = some b ∧ hp.length ≤ b) :
    PS h0 na (hq.set (na + 2) (.cells [nv'] 36 false)) nv' bv now' best ∧ Mp na hp nv bv (hq.set (na + 2) (.cells [nv'] 36 false)) nv' bv := by
  have l0 := s.len0
  have l1 := s.len
  have l2 := hE.1
  have hnb : ∀ b, blkOf nv' = some b → na + 4 ≤ b := fun b h1 => by
    rcases hb with h2 | ⟨b', h2, h3⟩
    · exact s.ln b (h2 ▸ h1)
    · rw [h2] at h1; cases h1; omega
  have hne : ∀ b, blkOf nv' = some b → blkOf bv ≠ some b := fun b h1 h4 => by
    rcases hb with h2 | ⟨b', h2, h3⟩
    · exact s.ne b (h2 ▸ h1) h4
    · rw [h2] at h1; cases h1; have := s.ob.lt h4; omega
  have out : ∀ i, i < na + 4 → hq[i]? = hp[i]? := fun i hi => hE.2 i (by omega) fun h1 => by have := s.ln i h1; omega
  refine ⟨⟨s.len0, by simp; omega, fun i h1 h2 h3 => ?_, ?_, get_set (by omega) _, ?_, ?_, s.lb, hnb, hne⟩, ?_, hb, .inl rfl⟩
  · rw [List.getElem?_set_ne (by omega), out i h1]; exact s.keep i h1 h2 h3
  · rw [List.getElem?_set_ne (by omega), out _ (by omega)]; exact s.b
  · exact s.ob.same fun b1 h1 => by
      have := s.lb b1 h1
      rw [List.getElem?_set_ne (by omega), hE.2 b1 (s.ob.lt h1) fun h2 => s.ne b1 h2 h1]
  · exact ho.same fun b1 h1 => List.getElem?_set_ne (by have := hnb b1 h1; omega)
  · exact (hE.mono fun i h => .inr (.inr (.inl h))).trans (Ext.set _ (.inr (.inl rfl)))
/-- A box of the run's own turns. -/
theorem PS.box (s : PS h0 na hp nv bv now best) {j : Nat} {c : List Value} {e : TypeId} {ro : Bool} (hj : hp[j]? = some (.cells c e ro)) (hn : na + 4 ≤ j) (B : Blk) : PS h0 na (hp.set j B) nv bv now best where
  len0 := s.len0
  len := by rw [List.length_set]; exact s.len
  keep i h1 h2 h3 := by rw [List.getElem?_set_ne (by omega)]; exact s.keep i h1 h2 h3
  b := by rw [List.getElem?_set_ne (by omega)]; exact s.b
  n := by rw [List.getElem?_set_ne (by omega)]; exact s.n
  ob := s.ob.same fun b1 h1 => List.getElem?_set_ne fun h2 => by subst h2; exact s.ob.notCells hj h1
  on := s.on.same fun b1 h1 => List.getElem?_set_ne fun h2 => by subst h2; exact s.on.notCells hj h1
  lb := s.lb
  ln := s.ln
  ne := s.ne
end
end Go.Proofs.Tryd.Am

namespace Go.Proofs.Tryd.Am
open Go.Am
set_option maxRecDepth 100000
set_option maxHeartbeats 1000000

theorem Mp.set {hp hq : Heap} {na : Nat} {nv bv nv' bv' : Value} (m : Mp na hp nv bv hq nv' bv') {j : Nat} (hj : hp.length ≤ j) (B : Blk) : Mp na hp nv bv (hq.set j B) nv' bv' :=
  ⟨⟨by rw [List.length_set]; exact m.1.1, fun i hi hs => by rw [List.getElem?_set_ne (by omega)]; exact m.1.2 i hi hs⟩, m.2⟩
theorem s65_callW [Tabs Tryd.prog] {args : List Value} {h : Heap} {Q : Value → Heap → Prop} (hsz : args.length ≤ 52) (hk : AWS Tryd.prog 52 s65 (aPost Tryd.prog [] Q) (argEnv 0 args) h) : ACall Tryd.prog 65 args h Q :=
  acall_w Tryd.func65 rfl (enters_of Tryd.func65 (by kernel_rfl) rfl) rfl rfl (by decide) s65_strip s65_ok hsz hk
theorem litT' {h : Heap} {x : T3} {K : Value → Heap → Prop} : buildSliceK prog h 36 1 [(0, tV x)] K = K (.slice (some ⟨h.length, 0, none⟩) 1 1) (h ++ [.ints [x.1, x.2.1, x.2.2] 40 false]) := litT el_36 zero_40 esz_40 K
/-- The search, as a closure. -/
def pgV (na : Nat) : Value := .func (.func 65) #[] #[pt (na + 2), pt (na + 1), pt na, pt (na + 3)]
theorem drop_cons {D : List T3} {i : Nat} (hi : i < D.length) : D.drop i = D.getD i Go.Am.t0 :: D.drop (i + 1) := by
  rw [List.drop_eq_getElem_cons hi, List.getD, List.getElem?_eq_getElem hi]; rfl
theorem fits_any (now : List T3) (c : T3) : (!(now.any fun x => !Pck.okT x c)) = Pck.fits Pck.okT now c := by
  rw [Pck.fits, List.not_any_eq_all_not]; simp
theorem pgrow_call [Tabs prog] {h0 : Heap} {na : Nat} {av : Value} {D : List T3} (ha : h0[na]? = some (.cells [av] 36 false)) (hg : h0[na + 3]? = some (.cells [pgV na] 63 false)) (hD : TripSl h0 av D) (hab : ∀ b, blkOf av = some b → b < na)
    (hl : D.length ≤ 1024) (hd : ∀ i, i < D.length → Pck.Dist (D.getD i Go.Am.t0)) :
    ∀ (d fr : Nat), D.length - fr = d → fr ≤ D.length → ∀ (hp : Heap) (nv bv : Value) (now best : List T3), PS h0 na hp nv bv now best → now.length ≤ fr → best.length ≤ 1024 →
      ACall prog 65 [vint fr, pt (na + 2), pt (na + 1), pt na, pt (na + 3)] hp fun _ h' => ∃ nv' bv', PS h0 na h' nv' bv' now (Pck.go Pck.okT (D.drop fr) now best) ∧ Mp na hp nv bv h' nv' bv' := by
  intro d
  induction d using Nat.strongRecOn with
  | ind d ih =>
  intro fr hdf hfl hp nv bv now best s hnl hbl
  have hDp : ∀ {hq nw bw now' best'}, PS h0 na hq nw bw now' best' → TripSl hq av D := fun {hq nw bw now' best'} s => hD.same fun b hb => s.keep b (by have := hab b hb; omega) (by have := hab b hb; omega) (by have := hab b hb; omega)
  have hap : ∀ {hq nw bw now' best'}, PS h0 na hq nw bw now' best' → hq[na]? = some (.cells [av] 36 false) := fun {hq nw bw now' best'} s => (s.keep na (by omega) (by omega) (by omega)).trans ha
  have hgp : ∀ {hq nw bw now' best'}, PS h0 na hq nw bw now' best' → hq[na + 3]? = some (.cells [pgV na] 63 false) := fun {hq nw bw now' best'} s => (s.keep (na + 3) (by omega) (by omega) (by omega)).trans hg
  refine s65_callW (by simp) ?_
  simp only [s65]
  refine aws_cut fun N hN => ?_
  have rest : ∀ (hp1 : Heap) (bv1 : Value), PS h0 na hp1 nv bv1 now (Pck.better now best) → Mp na hp nv bv hp1 nv bv1 → ∀ e, ELe e [(0, vint fr), (1, pt (na + 2)), (2, pt (na + 1)), (3, pt na), (4, pt (na + 3))] → N e hp1 := by
    intro hp1 bv1 s1 m1 e he
    refine hN _ _ _ ?_ he
    clear hN N he e
    refine aws_cut fun N hN => ?_
    have hb1 := Pck.better_len now best
    have hadd : addV .i64 ((now.length : Nat) : Int) ((D.length : Nat) : Int) = ((now.length + D.length : Nat) : Int) := by rw [addV_id (by omega) (by omega)]; omega
    have hsub : subV .i64 ((now.length + D.length : Nat) : Int) ((fr : Nat) : Int) = ((now.length + D.length - fr : Nat) : Int) := by rw [subV_id (by omega) (by omega)]; omega
    have hgo : Pck.go Pck.okT (D.drop fr) now best = if now.length + D.length - fr ≤ (Pck.better now best).length then Pck.better now best else Pck.pk Pck.okT (D.drop fr) now (Pck.better now best) := by
      rw [Pck.go, List.length_drop]
      have : now.length + (D.length - fr) = now.length + D.length - fr := by omega
      rw [this]
    by_cases hcut : now.length + D.length - fr ≤ (Pck.better now best).length
    · have hc : (((now.length + D.length - fr : Nat) : Int) ≤ (((Pck.better now best).length : Nat) : Int)) := by omega
      simp (config := {maxSteps := 2000000}) only [s65, ↓aw_region, ↓aw_skip, ↓aw_seq, ↓aw_block, ↓aw_exit, ↓aw_ret, ↓sops_nil, ↓sops_go, ↓dops_nil, ↓dopsX_nil, ↓dopsR_nil, ↓vdn, vup, extr_20, extr_21, extr_30, extr_31, extr_32, List.map_cons, List.map_nil, cond_true, cond_false, aop, aThen, aBlock, argEnv, ev, sput, sputO, binK, binI, unK, builtinK, pickK, Nat.reduceBEq, Nat.reduceAdd, Int.reduceBEq, Int.reduceBNe, Int.reduceLT, aPost, resK, tup, tyf, load1 s1.n shp_36, load1 s1.b shp_36, load1 (hap s1) shp_36, s1.on.trip.len, s1.ob.trip.len, (hDp s1).len, hadd, hsub, hc]
      rw [hgo, if_pos hcut]
      exact ⟨nv, bv1, s1, m1⟩
    have hc : ¬ (((now.length + D.length - fr : Nat) : Int) ≤ (((Pck.better now best).length : Nat) : Int)) := by omega
    simp (config := {maxSteps := 2000000}) only [s65, ↓aw_region, ↓aw_skip, ↓aw_seq, ↓aw_block, ↓aw_exit, ↓aw_ret, ↓sops_nil, ↓sops_go, ↓dops_nil, ↓dopsX_nil, ↓dopsR_nil, ↓vdn, vup, extr_20, extr_21, extr_30, extr_31, extr_32, List.map_cons, List.map_nil, cond_true, cond_false, aop, aThen, aBlock, argEnv, ev, sput, sputO, binK, binI, unK, builtinK, pickK, Nat.reduceBEq, Nat.reduceAdd, Int.reduceBEq, Int.reduceBNe, Int.reduceLT, aPost, resK, tup, tyf, load1 s1.n shp_36, load1 s1.b shp_36, load1 (hap s1) shp_36, s1.on.trip.len, s1.ob.trip.len, (hDp s1).len, hadd, hsub, hc]
    rw [if_neg hcut] at hgo
    refine hN [(0, vint fr), (1, pt (na + 2)), (2, pt (na + 1)), (3, pt na), (4, pt (na + 3))] _ _ ?_ (by simp (config := {maxSteps := 2000000}) only [↓aw_region, ↓aw_skip, ↓aw_seq, ↓aw_block, ↓aw_exit, ↓aw_ret, ↓sops_nil, ↓sops_go, ↓dops_nil, ↓dopsX_nil, ↓dopsR_nil, ↓vdn, vup, extr_20, extr_21, extr_30, extr_31, extr_32, List.map_cons, List.map_nil, cond_true, cond_false, aop, aThen, aBlock, argEnv, ev, sput, sputO, binK, binI, unK, builtinK, pickK, Nat.reduceBEq, Nat.reduceAdd, Int.reduceBEq, Int.reduceBNe, Int.reduceLT, aPost, resK, tup, tyf])
    clear hN N hadd hsub hc
    refine aws_cut fun N hN => ?_
    simp (config := {maxSteps := 2000000}) only [s65, ↓aw_region, ↓aw_skip, ↓aw_seq, ↓aw_block, ↓aw_exit, ↓aw_ret, ↓sops_nil, ↓sops_go, ↓dops_nil, ↓dopsX_nil, ↓dopsR_nil, ↓vdn, vup, extr_20, extr_21, extr_30, extr_31, extr_32, List.map_cons, List.map_nil, cond_true, cond_false, aop, aThen, aBlock, argEnv, ev, sput, sputO, binK, binI, unK, builtinK, pickK, Nat.reduceBEq, Nat.reduceAdd, Int.reduceBEq, Int.reduceBNe, Int.reduceLT, aPost, resK, tup, tyf, allocK, newPtr, zero_3]
    rw [storeI (get_new _ _) shp_3]
    obtain ⟨hbx, hE⟩ := newBox hp1 fr
    have s2 := s1.new hE
    have m2 := m1.trans (Mp.new (na := na) (nv := nv) (bv := bv1) hE)
    have hbl2 : hp.length ≤ hp1.length := m1.1.1
    generalize (hp1 ++ [Blk.cells [.int .i64 0] 3 false]).set hp1.length (.cells [.int .i64 (fr : Int)] 3 false) = h2 at hbx hE s2 m2 ⊢
    generalize hp1.length = bx at hbx hbl2 ⊢
    refine hN [(1, pt (na + 2)), (2, pt (na + 1)), (3, pt na), (4, pt (na + 3)), (6, pt bx)] _ _ ?_ (by simp (config := {maxSteps := 2000000}) only [↓aw_region, ↓aw_skip, ↓aw_seq, ↓aw_block, ↓aw_exit, ↓aw_ret, ↓sops_nil, ↓sops_go, ↓dops_nil, ↓dopsX_nil, ↓dopsR_nil, ↓vdn, vup, extr_20, extr_21, extr_30, extr_31, extr_32, List.map_cons, List.map_nil, cond_true, cond_false, aop, aThen, aBlock, argEnv, ev, sput, sputO, binK, binI, unK, builtinK, pickK, Nat.reduceBEq, Nat.reduceAdd, Int.reduceBEq, Int.reduceBNe, Int.reduceLT, aPost, resK, tup, tyf])
    clear hN N
    refine aws_block ?_
    refine aws_hide fun Q hQ => ?_
    have hl0 := s.len
    have hl1 := s.len0
    refine aw_loopW (γ := Nat × Heap × Value × Value × List T3 × Nat)
      (fun g => fr ≤ g.1 ∧ g.1 ≤ D.length ∧ PS h0 na g.2.1 g.2.2.1 g.2.2.2.1 now g.2.2.2.2.1 ∧ Mp na hp nv bv g.2.1 g.2.2.1 g.2.2.2.1 ∧ g.2.1[g.2.2.2.2.2]? = some (.cells [vint g.1] 3 false) ∧ hp.length ≤ g.2.2.2.2.2 ∧ g.2.2.2.2.1.length ≤ 1024 ∧
        Pck.pk Pck.okT (D.drop g.1) now g.2.2.2.2.1 = Pck.pk Pck.okT (D.drop fr) now (Pck.better now best))
      (fun g => ([(1, pt (na + 2)), (2, pt (na + 1)), (3, pt na), (4, pt (na + 3)), (6, pt g.2.2.2.2.2)], g.2.1)) (fun g => D.length - g.1) (fr, h2, nv, bv1, Pck.better now best, bx)
      ⟨Nat.le_refl _, hfl, s2, m2, hbx, hbl2, by simp only; omega, rfl⟩ (by simp (config := {maxSteps := 2000000}) only [↓aw_region, ↓aw_skip, ↓aw_seq, ↓aw_block, ↓aw_exit, ↓aw_ret, ↓sops_nil, ↓sops_go, ↓dops_nil, ↓dopsX_nil, ↓dopsR_nil, ↓vdn, vup, extr_20, extr_21, extr_30, extr_31, extr_32, List.map_cons, List.map_nil, cond_true, cond_false, aop, aThen, aBlock, argEnv, ev, sput, sputO, binK, binI, unK, builtinK, pickK, Nat.reduceBEq, Nat.reduceAdd, Int.reduceBEq, Int.reduceBNe, Int.reduceLT, aPost, resK, tup, tyf]) rfl ?_
    rintro ⟨i, hq, nw, bw, b2, bi⟩ ⟨hi1, hi2, sq, mq, hbi, hbl3, hb2, hpk⟩
    simp only at hi1 hi2 sq mq hbi hbl3 hb2 hpk ⊢
    refine aws_hide fun Q2 hQ2 => ?_
    simp only [l65_0]
    refine aws_cut fun N hN => ?_
    by_cases hin : (i : Int) < D.length
    · have hi3 : i < D.length := by omega
      simp (config := {maxSteps := 2000000}) only [s65, ↓aw_region, ↓aw_skip, ↓aw_seq, ↓aw_block, ↓aw_exit, ↓aw_ret, ↓sops_nil, ↓sops_go, ↓dops_nil, ↓dopsX_nil, ↓dopsR_nil, ↓vdn, vup, extr_20, extr_21, extr_30, extr_31, extr_32, List.map_cons, List.map_nil, cond_true, cond_false, aop, aThen, aBlock, argEnv, ev, sput, sputO, binK, binI, unK, builtinK, pickK, Nat.reduceBEq, Nat.reduceAdd, Int.reduceBEq, Int.reduceBNe, Int.reduceLT, aPost, resK, tup, tyf, load1 hbi shp_3, load1 (hap sq) shp_36, (hDp sq).len, hin]
      refine hN [(1, pt (na + 2)), (2, pt (na + 1)), (3, pt na), (4, pt (na + 3)), (6, pt bi)] _ _ ?_ (by simp (config := {maxSteps := 2000000}) only [↓aw_region, ↓aw_skip, ↓aw_seq, ↓aw_block, ↓aw_exit, ↓aw_ret, ↓sops_nil, ↓sops_go, ↓dops_nil, ↓dopsX_nil, ↓dopsR_nil, ↓vdn, vup, extr_20, extr_21, extr_30, extr_31, extr_32, List.map_cons, List.map_nil, cond_true, cond_false, aop, aThen, aBlock, argEnv, ev, sput, sputO, binK, binI, unK, builtinK, pickK, Nat.reduceBEq, Nat.reduceAdd, Int.reduceBEq, Int.reduceBNe, Int.reduceLT, aPost, resK, tup, tyf])
      clear hN N
      refine aws_cut fun N hN => ?_
      have fin : ∀ (hr : Heap) (nr br : Value) (b3 : List T3), PS h0 na hr nr br now b3 → Mp na hq nw bw hr nr br → b3.length ≤ 1024 → Pck.pk Pck.okT (D.drop (i + 1)) now b3 = Pck.pk Pck.okT (D.drop i) now b2 → ∀ e, ELe e [(1, pt (na + 2)), (2, pt (na + 1)), (3, pt na), (4, pt (na + 3)), (6, pt bi)] → N e hr := by
        intro hr nr br b3 s3 m3 hb3 hpk3 e he
        refine hN _ _ _ ?_ he
        clear hN N he e
        have hbi3 := m3.box sq hbi (by omega)
        refine aws_cut fun N hN => ?_
        simp (config := {maxSteps := 2000000}) only [s65, ↓aw_region, ↓aw_skip, ↓aw_seq, ↓aw_block, ↓aw_exit, ↓aw_ret, ↓sops_nil, ↓sops_go, ↓dops_nil, ↓dopsX_nil, ↓dopsR_nil, ↓vdn, vup, extr_20, extr_21, extr_30, extr_31, extr_32, List.map_cons, List.map_nil, cond_true, cond_false, aop, aThen, aBlock, argEnv, ev, sput, sputO, binK, binI, unK, builtinK, pickK, Nat.reduceBEq, Nat.reduceAdd, Int.reduceBEq, Int.reduceBNe, Int.reduceLT, aPost, resK, tup, tyf, load1 hbi3 shp_3, allocK, newPtr, zero_3]
        rw [storeI (get_new _ _) shp_3]
        obtain ⟨hbx4, hE4⟩ := newBox hr i
        have s4 := s3.new hE4
        have m4 := (mq.trans m3).trans (Mp.new (na := na) (nv := nr) (bv := br) hE4)
        have hbl4 : hp.length ≤ hr.length := Nat.le_trans mq.1.1 m3.1.1
        generalize (hr ++ [Blk.cells [.int .i64 0] 3 false]).set hr.length (.cells [.int .i64 (i : Int)] 3 false) = h4 at hbx4 hE4 s4 m4 ⊢
        generalize hr.length = b4 at hbx4 hbl4 ⊢
        refine hN [(1, pt (na + 2)), (2, pt (na + 1)), (3, pt na), (4, pt (na + 3)), (6, pt b4)] _ _ ?_ (by simp (config := {maxSteps := 2000000}) only [↓aw_region, ↓aw_skip, ↓aw_seq, ↓aw_block, ↓aw_exit, ↓aw_ret, ↓sops_nil, ↓sops_go, ↓dops_nil, ↓dopsX_nil, ↓dopsR_nil, ↓vdn, vup, extr_20, extr_21, extr_30, extr_31, extr_32, List.map_cons, List.map_nil, cond_true, cond_false, aop, aThen, aBlock, argEnv, ev, sput, sputO, binK, binI, unK, builtinK, pickK, Nat.reduceBEq, Nat.reduceAdd, Int.reduceBEq, Int.reduceBNe, Int.reduceLT, aPost, resK, tup, tyf])
        clear hN N
        refine aw_aws ?_
        simp (config := {maxSteps := 2000000}) only [s65, ↓aw_region, ↓aw_skip, ↓aw_seq, ↓aw_block, ↓aw_exit, ↓aw_ret, ↓sops_nil, ↓sops_go, ↓dops_nil, ↓dopsX_nil, ↓dopsR_nil, ↓vdn, vup, extr_20, extr_21, extr_30, extr_31, extr_32, List.map_cons, List.map_nil, cond_true, cond_false, aop, aThen, aBlock, argEnv, ev, sput, sputO, binK, binI, unK, builtinK, pickK, Nat.reduceBEq, Nat.reduceAdd, Int.reduceBEq, Int.reduceBNe, Int.reduceLT, aPost, resK, tup, tyf, load1 hbx4 shp_3, add1 (show i < 9223372036854775807 by omega), storeI hbx4 shp_3]
        refine hQ2 _ _ _ ⟨(i + 1, h4.set b4 (.cells [vint (i + 1 : Nat)] 3 false), nr, br, b3, b4), ⟨by simp only; omega, by simp only; omega, s4.box hbx4 (by omega) _, m4.set hbl4 _, get_set (get_lt hbx4) _, hbl4, hb3, hpk3.trans hpk⟩, by simp only; omega, by simp (config := {maxSteps := 2000000}) only [↓aw_region, ↓aw_skip, ↓aw_seq, ↓aw_block, ↓aw_exit, ↓aw_ret, ↓sops_nil, ↓sops_go, ↓dops_nil, ↓dopsX_nil, ↓dopsR_nil, ↓vdn, vup, extr_20, extr_21, extr_30, extr_31, extr_32, List.map_cons, List.map_nil, cond_true, cond_false, aop, aThen, aBlock, argEnv, ev, sput, sputO, binK, binI, unK, builtinK, pickK, Nat.reduceBEq, Nat.reduceAdd, Int.reduceBEq, Int.reduceBNe, Int.reduceLT, aPost, resK, tup, tyf], rfl⟩
      obtain ⟨c, hc⟩ : ∃ c, c = D.getD i Go.Am.t0 := ⟨_, rfl⟩
      have hpks : Pck.pk Pck.okT (D.drop i) now b2 = Pck.pk Pck.okT (D.drop (i + 1)) now (if Pck.fits Pck.okT now c = true then Pck.go Pck.okT (D.drop (i + 1)) (now ++ [c]) b2 else b2) := by
        rw [drop_cons hi3, Pck.pk_cons, ← hc]
      have hany : ((List.range now.length).any fun k => !Pck.okT (now.getD k Go.Am.t0) c) = !Pck.fits Pck.okT now c := by
        rw [range_any (p := fun x => !Pck.okT x c) now, ← fits_any, Bool.not_not]
      simp (config := {maxSteps := 2000000}) only [s65, ↓aw_region, ↓aw_skip, ↓aw_seq, ↓aw_block, ↓aw_exit, ↓aw_ret, ↓sops_nil, ↓sops_go, ↓dops_nil, ↓dopsX_nil, ↓dopsR_nil, ↓vdn, vup, extr_20, extr_21, extr_30, extr_31, extr_32, List.map_cons, List.map_nil, cond_true, cond_false, aop, aThen, aBlock, argEnv, ev, sput, sputO, binK, binI, unK, builtinK, pickK, Nat.reduceBEq, Nat.reduceAdd, Int.reduceBEq, Int.reduceBNe, Int.reduceLT, aPost, resK, tup, tyf, List.map_toArray, load1 sq.n shp_36, callK, List.nil_append, List.append_nil, List.toList_toArray, List.cons_append]
      refine (contains_call (p := fun k => !Pck.okT (now.getD k Go.Am.t0) c) sq.on.trip (by omega) fun k hk => by rw [hc]; exact common1_call (hap sq) hbi (hDp sq) hi3 (hd i hi3) _).mono ?_
      rintro _ hr ⟨rfl, rfl⟩
      rw [hany]
      cases hf : Pck.fits Pck.okT now c with
      | false =>
        rw [hf] at hpks
        simp (config := {maxSteps := 2000000}) only [s65, ↓aw_region, ↓aw_skip, ↓aw_seq, ↓aw_block, ↓aw_exit, ↓aw_ret, ↓sops_nil, ↓sops_go, ↓dops_nil, ↓dopsX_nil, ↓dopsR_nil, ↓vdn, vup, extr_20, extr_21, extr_30, extr_31, extr_32, List.map_cons, List.map_nil, cond_true, cond_false, aop, aThen, aBlock, argEnv, ev, sput, sputO, binK, binI, unK, builtinK, pickK, Nat.reduceBEq, Nat.reduceAdd, Int.reduceBEq, Int.reduceBNe, Int.reduceLT, aPost, resK, tup, tyf, Bool.not_false, Bool.not_true]
        exact fin hr nw bw b2 sq (Mp.new (Ext.refl _ _)) hb2 hpks.symm _ (by simp (config := {maxSteps := 2000000}) only [↓aw_region, ↓aw_skip, ↓aw_seq, ↓aw_block, ↓aw_exit, ↓aw_ret, ↓sops_nil, ↓sops_go, ↓dops_nil, ↓dopsX_nil, ↓dopsR_nil, ↓vdn, vup, extr_20, extr_21, extr_30, extr_31, extr_32, List.map_cons, List.map_nil, cond_true, cond_false, aop, aThen, aBlock, argEnv, ev, sput, sputO, binK, binI, unK, builtinK, pickK, Nat.reduceBEq, Nat.reduceAdd, Int.reduceBEq, Int.reduceBNe, Int.reduceLT, aPost, resK, tup, tyf])
      | true =>
        rw [hf, if_pos rfl] at hpks
        simp (config := {maxSteps := 2000000}) only [s65, ↓aw_region, ↓aw_skip, ↓aw_seq, ↓aw_block, ↓aw_exit, ↓aw_ret, ↓sops_nil, ↓sops_go, ↓dops_nil, ↓dopsX_nil, ↓dopsR_nil, ↓vdn, vup, extr_20, extr_21, extr_30, extr_31, extr_32, List.map_cons, List.map_nil, cond_true, cond_false, aop, aThen, aBlock, argEnv, ev, sput, sputO, binK, binI, unK, builtinK, pickK, Nat.reduceBEq, Nat.reduceAdd, Int.reduceBEq, Int.reduceBNe, Int.reduceLT, aPost, resK, tup, tyf, Bool.not_false, Bool.not_true]
        refine aw_drawR (fun hp => hp[na + 2]? = some (.cells [nw] 36 false)) [(0, 5), (6, 6)] (by kernel_rfl) (by kernel_rfl) (by kernel_rfl) (by kernel_rfl) sq.n ?_
        have hld : ∀ {K : Value → Prop}, loadK prog hr 40 (elemP av 3 i) K = K (tV c) := fun {K} => by rw [hc]; exact (hDp sq).load shp_40 hi3 K
        simp (config := {maxSteps := 2000000}) only [s65, ↓aw_region, ↓aw_skip, ↓aw_seq, ↓aw_block, ↓aw_exit, ↓aw_ret, ↓sops_nil, ↓sops_go, ↓dops_nil, ↓dopsX_nil, ↓dopsR_nil, ↓vdn, vup, extr_20, extr_21, extr_30, extr_31, extr_32, List.map_cons, List.map_nil, cond_true, cond_false, aop, aThen, aBlock, argEnv, ev, sput, sputO, binK, binI, unK, builtinK, pickK, Nat.reduceBEq, Nat.reduceAdd, Int.reduceBEq, Int.reduceBNe, Int.reduceLT, aPost, resK, tup, tyf, Nat.reduceLT, Bool.false_or, Bool.true_or]
        refine ⟨nw, fun hp hhp => by simp only [load1 hhp shp_36], ?_⟩
        simp (config := {maxSteps := 2000000}) only [s65, ↓aw_region, ↓aw_skip, ↓aw_seq, ↓aw_block, ↓aw_exit, ↓aw_ret, ↓sops_nil, ↓sops_go, ↓dops_nil, ↓dopsX_nil, ↓dopsR_nil, ↓vdn, vup, extr_20, extr_21, extr_30, extr_31, extr_32, List.map_cons, List.map_nil, cond_true, cond_false, aop, aThen, aBlock, argEnv, ev, sput, sputO, binK, binI, unK, builtinK, pickK, Nat.reduceBEq, Nat.reduceAdd, Int.reduceBEq, Int.reduceBNe, Int.reduceLT, aPost, resK, tup, tyf, Nat.reduceLT, Bool.false_or, Bool.true_or, load1 (hap sq) shp_36, load1 hbi shp_3, (hDp sq).idx el_36 esz_40 hi3, hld, litT']
        refine ⟨get_old sq.n _, ?_⟩
        refine (sq.on.ext (Ext.app _ _ _)).append app_36_36 (by omega) (get_new _ _) fun n2 g2 ho2 hE2 hb2' => ?_
        replace ho2 : OwnT 40 g2 n2 (now ++ [c]) := ho2
        have hE2' : Ext (fun i => blkOf nw = some i) hr g2 := (Ext.app _ _ _).trans hE2
        have hn2 : blkOf n2 = blkOf nw ∨ ∃ b, blkOf n2 = some b ∧ hr.length ≤ b := hb2'.imp id fun ⟨b, h1, h2⟩ => ⟨b, h1, by rw [List.length_append] at h2; omega⟩
        obtain ⟨s5, m5⟩ := sq.pres hE2' ho2 hn2
        have hcell : g2[na + 2]? = some (.cells [nw] 36 false) := (hE2'.2 _ (get_lt sq.n) (sq.on.notCells sq.n)).trans sq.n
        have hbi5 := m5.box sq hbi (by omega)
        have hlen1 : (now ++ [c]).length = now.length + 1 := by rw [List.length_append, List.length_singleton]
        have hsub1 : subV .i64 (((now ++ [c]).length : Nat) : Int) 1 = ((now.length : Nat) : Int) := by rw [hlen1, subV_id (by omega) (by omega)]; omega
        simp (config := {maxSteps := 2000000}) only [s65, ↓aw_region, ↓aw_skip, ↓aw_seq, ↓aw_block, ↓aw_exit, ↓aw_ret, ↓sops_nil, ↓sops_go, ↓dops_nil, ↓dopsX_nil, ↓dopsR_nil, ↓vdn, vup, extr_20, extr_21, extr_30, extr_31, extr_32, List.map_cons, List.map_nil, cond_true, cond_false, aop, aThen, aBlock, argEnv, ev, sput, sputO, binK, binI, unK, builtinK, pickK, Nat.reduceBEq, Nat.reduceAdd, Int.reduceBEq, Int.reduceBNe, Int.reduceLT, aPost, resK, tup, tyf, store1 hcell shp_36 ho2.one, load1 (hgp s5) shp_63, load1 hbi5 shp_3, add1 (show i < 9223372036854775807 by omega), pgV, callK, List.nil_append, List.append_nil, List.toList_toArray, List.cons_append]
        refine (ih (D.length - (i + 1)) (by omega) (i + 1) rfl (by omega) _ _ _ _ _ s5 (by omega) hb2).mono ?_
        rintro _ h6 ⟨nv6, bv6, s6, m6⟩
        simp (config := {maxSteps := 2000000}) only [s65, ↓aw_region, ↓aw_skip, ↓aw_seq, ↓aw_block, ↓aw_exit, ↓aw_ret, ↓sops_nil, ↓sops_go, ↓dops_nil, ↓dopsX_nil, ↓dopsR_nil, ↓vdn, vup, extr_20, extr_21, extr_30, extr_31, extr_32, List.map_cons, List.map_nil, cond_true, cond_false, aop, aThen, aBlock, argEnv, ev, sput, sputO, binK, binI, unK, builtinK, pickK, Nat.reduceBEq, Nat.reduceAdd, Int.reduceBEq, Int.reduceBNe, Int.reduceLT, aPost, resK, tup, tyf, load1 s6.n shp_36, s6.on.trip.len, hsub1, Option.map_none, Option.map_some]
        refine s6.on.cut el_36 esz_40 fun n7 ho7 hb7 => ?_
        obtain ⟨s7, m7⟩ := s6.pres (Ext.refl _ _) ho7 (.inl hb7)
        simp (config := {maxSteps := 2000000}) only [s65, ↓aw_region, ↓aw_skip, ↓aw_seq, ↓aw_block, ↓aw_exit, ↓aw_ret, ↓sops_nil, ↓sops_go, ↓dops_nil, ↓dopsX_nil, ↓dopsR_nil, ↓vdn, vup, extr_20, extr_21, extr_30, extr_31, extr_32, List.map_cons, List.map_nil, cond_true, cond_false, aop, aThen, aBlock, argEnv, ev, sput, sputO, binK, binI, unK, builtinK, pickK, Nat.reduceBEq, Nat.reduceAdd, Int.reduceBEq, Int.reduceBNe, Int.reduceLT, aPost, resK, tup, tyf, store1 s6.n shp_36 ho7.one]
        refine fin _ n7 bv6 _ s7 ((m5.trans m6).trans m7) ?_ hpks.symm _ (by simp (config := {maxSteps := 2000000}) only [↓aw_region, ↓aw_skip, ↓aw_seq, ↓aw_block, ↓aw_exit, ↓aw_ret, ↓sops_nil, ↓sops_go, ↓dops_nil, ↓dopsX_nil, ↓dopsR_nil, ↓vdn, vup, extr_20, extr_21, extr_30, extr_31, extr_32, List.map_cons, List.map_nil, cond_true, cond_false, aop, aThen, aBlock, argEnv, ev, sput, sputO, binK, binI, unK, builtinK, pickK, Nat.reduceBEq, Nat.reduceAdd, Int.reduceBEq, Int.reduceBNe, Int.reduceLT, aPost, resK, tup, tyf])
        have hG := Pck.G_le (ok := Pck.okT) (D.drop (i + 1)) (Pck.fits Pck.okT (now ++ [c]))
        rw [List.length_drop] at hG
        rw [Pck.go_len, hlen1]; omega
    · obtain rfl : i = D.length := by omega
      simp (config := {maxSteps := 2000000}) only [s65, ↓aw_region, ↓aw_skip, ↓aw_seq, ↓aw_block, ↓aw_exit, ↓aw_ret, ↓sops_nil, ↓sops_go, ↓dops_nil, ↓dopsX_nil, ↓dopsR_nil, ↓vdn, vup, extr_20, extr_21, extr_30, extr_31, extr_32, List.map_cons, List.map_nil, cond_true, cond_false, aop, aThen, aBlock, argEnv, ev, sput, sputO, binK, binI, unK, builtinK, pickK, Nat.reduceBEq, Nat.reduceAdd, Int.reduceBEq, Int.reduceBNe, Int.reduceLT, aPost, resK, tup, tyf, load1 hbi shp_3, load1 (hap sq) shp_36, (hDp sq).len, Int.lt_irrefl]
      refine hQ2 _ _ _ (hQ _ _ _ ?_)
      simp (config := {maxSteps := 2000000}) only [s65, ↓aw_region, ↓aw_skip, ↓aw_seq, ↓aw_block, ↓aw_exit, ↓aw_ret, ↓sops_nil, ↓sops_go, ↓dops_nil, ↓dopsX_nil, ↓dopsR_nil, ↓vdn, vup, extr_20, extr_21, extr_30, extr_31, extr_32, List.map_cons, List.map_nil, cond_true, cond_false, aop, aThen, aBlock, argEnv, ev, sput, sputO, binK, binI, unK, builtinK, pickK, Nat.reduceBEq, Nat.reduceAdd, Int.reduceBEq, Int.reduceBNe, Int.reduceLT, aPost, resK, tup, tyf]
      refine ⟨nw, bw, ?_, mq⟩
      rw [hgo, ← hpk, List.drop_length, Pck.pk]
      exact sq
  by_cases hlt : best.length < now.length
  · have hc : ((best.length : Nat) : Int) < ((now.length : Nat) : Int) := by omega
    have hne : now ≠ [] := by rintro rfl; simp at hlt
    simp (config := {maxSteps := 2000000}) only [s65, ↓aw_region, ↓aw_skip, ↓aw_seq, ↓aw_block, ↓aw_exit, ↓aw_ret, ↓sops_nil, ↓sops_go, ↓dops_nil, ↓dopsX_nil, ↓dopsR_nil, ↓vdn, vup, extr_20, extr_21, extr_30, extr_31, extr_32, List.map_cons, List.map_nil, cond_true, cond_false, aop, aThen, aBlock, argEnv, ev, sput, sputO, binK, binI, unK, builtinK, pickK, Nat.reduceBEq, Nat.reduceAdd, Int.reduceBEq, Int.reduceBNe, Int.reduceLT, aPost, resK, tup, tyf, load1 s.n shp_36, load1 s.b shp_36, s.on.trip.len, s.ob.trip.len, gt_iff_lt, hc, callK, List.nil_append, List.append_nil, List.toList_toArray, List.cons_append]
    refine (clonet_call s.on.trip hne (by omega)).mono ?_
    rintro bv1 h1 ⟨ho, hE, b, hb, hbl1⟩
    obtain ⟨s1, m1⟩ := s.newBest hE ho hb hbl1
    simp (config := {maxSteps := 2000000}) only [s65, ↓aw_region, ↓aw_skip, ↓aw_seq, ↓aw_block, ↓aw_exit, ↓aw_ret, ↓sops_nil, ↓sops_go, ↓dops_nil, ↓dopsX_nil, ↓dopsR_nil, ↓vdn, vup, extr_20, extr_21, extr_30, extr_31, extr_32, List.map_cons, List.map_nil, cond_true, cond_false, aop, aThen, aBlock, argEnv, ev, sput, sputO, binK, binI, unK, builtinK, pickK, Nat.reduceBEq, Nat.reduceAdd, Int.reduceBEq, Int.reduceBNe, Int.reduceLT, aPost, resK, tup, tyf, store1 (s.new hE).b shp_36 ho.one]
    refine rest _ bv1 ?_ m1 _ (by simp (config := {maxSteps := 2000000}) only [↓aw_region, ↓aw_skip, ↓aw_seq, ↓aw_block, ↓aw_exit, ↓aw_ret, ↓sops_nil, ↓sops_go, ↓dops_nil, ↓dopsX_nil, ↓dopsR_nil, ↓vdn, vup, extr_20, extr_21, extr_30, extr_31, extr_32, List.map_cons, List.map_nil, cond_true, cond_false, aop, aThen, aBlock, argEnv, ev, sput, sputO, binK, binI, unK, builtinK, pickK, Nat.reduceBEq, Nat.reduceAdd, Int.reduceBEq, Int.reduceBNe, Int.reduceLT, aPost, resK, tup, tyf])
    have : Pck.better now best = now := if_pos hlt
    rw [this]; exact s1
  · have hc : ¬ ((best.length : Nat) : Int) < ((now.length : Nat) : Int) := by omega
    simp (config := {maxSteps := 2000000}) only [s65, ↓aw_region, ↓aw_skip, ↓aw_seq, ↓aw_block, ↓aw_exit, ↓aw_ret, ↓sops_nil, ↓sops_go, ↓dops_nil, ↓dopsX_nil, ↓dopsR_nil, ↓vdn, vup, extr_20, extr_21, extr_30, extr_31, extr_32, List.map_cons, List.map_nil, cond_true, cond_false, aop, aThen, aBlock, argEnv, ev, sput, sputO, binK, binI, unK, builtinK, pickK, Nat.reduceBEq, Nat.reduceAdd, Int.reduceBEq, Int.reduceBNe, Int.reduceLT, aPost, resK, tup, tyf, load1 s.n shp_36, load1 s.b shp_36, s.on.trip.len, s.ob.trip.len, gt_iff_lt, hc]
    refine rest _ bv ?_ (Mp.new (Ext.refl _ _)) _ (by simp (config := {maxSteps := 2000000}) only [↓aw_region, ↓aw_skip, ↓aw_seq, ↓aw_block, ↓aw_exit, ↓aw_ret, ↓sops_nil, ↓sops_go, ↓dops_nil, ↓dopsX_nil, ↓dopsR_nil, ↓vdn, vup, extr_20, extr_21, extr_30, extr_31, extr_32, List.map_cons, List.map_nil, cond_true, cond_false, aop, aThen, aBlock, argEnv, ev, sput, sputO, binK, binI, unK, builtinK, pickK, Nat.reduceBEq, Nat.reduceAdd, Int.reduceBEq, Int.reduceBNe, Int.reduceLT, aPost, resK, tup, tyf])
    have : Pck.better now best = best := if_neg hlt
    rw [this]; exact s
end Go.Proofs.Tryd.Am

namespace Go.Proofs.Tryd.Am
open Go.Am
set_option maxRecDepth 100000
set_option maxHeartbeats 1000000

theorem cyc_dist {xs : List Int} (h : trn xs = true) {i : Nat} (hi : i < (cA xs xs.length).length) : Pck.Dist ((cA xs xs.length).getD i Go.Am.t0) := by
  have hm : (cA xs xs.length).getD i Go.Am.t0 ∈ dA xs xs.length := by
    rw [dA_all h, List.getD, List.getElem?_eq_getElem hi]; exact List.getElem_mem hi
  generalize (cA xs xs.length).getD i Go.Am.t0 = p at hm
  obtain ⟨a, ha, hm⟩ := List.mem_flatMap.1 hm
  obtain ⟨x, hx, hm⟩ := List.mem_flatMap.1 hm
  obtain ⟨c, hc, hm⟩ := List.mem_flatMap.1 hm
  have hx' := List.mem_range.1 hx
  split at hm
  · rename_i hh
    obtain ⟨h1, h2, h3, h4, h5⟩ := hh
    have hxc : x ≠ c := fun e => by
      subst e
      have := (trn_clr h).2 x hx'
      rw [this] at h4; cases h4
    rw [List.mem_singleton.1 hm]
    exact ⟨by simp only; omega, by simp only; omega, by simp only; omega⟩
  · cases hm
theorem s31_callW [Tabs Tryd.prog] {args : List Value} {h : Heap} {Q : Value → Heap → Prop} (hsz : args.length ≤ 17) (hk : AWS Tryd.prog 17 s31 (aPost Tryd.prog [.tmp 2, .tmp 3] Q) (argEnv 0 args) h) : ACall Tryd.prog 31 args h Q :=
  acall_w Tryd.func31 rfl (enters_of Tryd.func31 (by kernel_rfl) rfl) rfl rfl (by decide) s31_strip s31_ok hsz hk
theorem set_last (g : Heap) (B C : Blk) : (g ++ [B]).set g.length C = g ++ [C] := by
  apply List.ext_getElem?
  intro i
  by_cases hi : i = g.length
  · subst hi; simp
  · rw [List.getElem?_set_ne (Ne.symm hi)]
    by_cases h2 : i < g.length
    · rw [List.getElem?_append_left h2, List.getElem?_append_left h2]
    · rw [List.getElem?_eq_none (by simp; omega), List.getElem?_eq_none (by simp; omega)]
theorem pack_call [BitTab prog 1] {h : Heap} {v : Value} {xs : List Int} (hv : IntSl h v xs) (hl : xs.length < 9223372036854775808) (hx : ∀ x ∈ xs, -9223372036854775808 ≤ x ∧ x < 9223372036854775808) :
    ACall prog 31 [v] h fun r h' => Ext (fun _ => False) h h' ∧ if trn xs = true then ∃ w, r = .tuple #[w, .int .i64 0] ∧ TripSl h' w (Pck.go Pck.okT (cA xs xs.length) [] []) else r = .tuple #[.slice none 0 0, .int .i64 2] := by
  refine s31_callW (by simp) ?_
  simp only [s31]
  refine aws_cut fun N hN => ?_
  simp (config := {maxSteps := 2000000}) only [s31, ↓aw_region, ↓aw_skip, ↓aw_seq, ↓aw_block, ↓aw_exit, ↓aw_ret, ↓sops_nil, ↓sops_go, ↓dops_nil, ↓dopsX_nil, ↓dopsR_nil, ↓vdn, vup, extr_20, extr_21, extr_30, extr_31, extr_32, List.map_cons, List.map_nil, cond_true, cond_false, aop, aThen, aBlock, argEnv, ev, sput, sputO, binK, binI, unK, builtinK, pickK, Nat.reduceBEq, Nat.reduceAdd, Int.reduceBEq, Int.reduceBNe, Int.reduceLT, aPost, resK, tup, tyf]
  refine hN [(0, v), (2, .slice none 0 0), (3, .int .i64 0)] _ _ ?_ (by simp (config := {maxSteps := 2000000}) only [↓aw_region, ↓aw_skip, ↓aw_seq, ↓aw_block, ↓aw_exit, ↓aw_ret, ↓sops_nil, ↓sops_go, ↓dops_nil, ↓dopsX_nil, ↓dopsR_nil, ↓vdn, vup, extr_20, extr_21, extr_30, extr_31, extr_32, List.map_cons, List.map_nil, cond_true, cond_false, aop, aThen, aBlock, argEnv, ev, sput, sputO, binK, binI, unK, builtinK, pickK, Nat.reduceBEq, Nat.reduceAdd, Int.reduceBEq, Int.reduceBNe, Int.reduceLT, aPost, resK, tup, tyf])
  clear hN N
  refine aws_cut fun N hN => ?_
  simp (config := {maxSteps := 2000000}) only [s31, ↓aw_region, ↓aw_skip, ↓aw_seq, ↓aw_block, ↓aw_exit, ↓aw_ret, ↓sops_nil, ↓sops_go, ↓dops_nil, ↓dopsX_nil, ↓dopsR_nil, ↓vdn, vup, extr_20, extr_21, extr_30, extr_31, extr_32, List.map_cons, List.map_nil, cond_true, cond_false, aop, aThen, aBlock, argEnv, ev, sput, sputO, binK, binI, unK, builtinK, pickK, Nat.reduceBEq, Nat.reduceAdd, Int.reduceBEq, Int.reduceBNe, Int.reduceLT, aPost, resK, tup, tyf, callK, List.nil_append, List.append_nil, List.toList_toArray, List.cons_append]
  refine (valid_call hv hl hx).mono ?_
  rintro _ h ⟨rfl, rfl⟩
  cases ht : trn xs with
  | false =>
    simp (config := {maxSteps := 2000000}) only [s31, ↓aw_region, ↓aw_skip, ↓aw_seq, ↓aw_block, ↓aw_exit, ↓aw_ret, ↓sops_nil, ↓sops_go, ↓dops_nil, ↓dopsX_nil, ↓dopsR_nil, ↓vdn, vup, extr_20, extr_21, extr_30, extr_31, extr_32, List.map_cons, List.map_nil, cond_true, cond_false, aop, aThen, aBlock, argEnv, ev, sput, sputO, binK, binI, unK, builtinK, pickK, Nat.reduceBEq, Nat.reduceAdd, Int.reduceBEq, Int.reduceBNe, Int.reduceLT, aPost, resK, tup, tyf, ht, Bool.false_eq_true, if_false]
    exact Ext.refl _ _
  | true =>
    simp (config := {maxSteps := 2000000}) only [s31, ↓aw_region, ↓aw_skip, ↓aw_seq, ↓aw_block, ↓aw_exit, ↓aw_ret, ↓sops_nil, ↓sops_go, ↓dops_nil, ↓dopsX_nil, ↓dopsR_nil, ↓vdn, vup, extr_20, extr_21, extr_30, extr_31, extr_32, List.map_cons, List.map_nil, cond_true, cond_false, aop, aThen, aBlock, argEnv, ev, sput, sputO, binK, binI, unK, builtinK, pickK, Nat.reduceBEq, Nat.reduceAdd, Int.reduceBEq, Int.reduceBNe, Int.reduceLT, aPost, resK, tup, tyf, ht]
    refine hN [(0, v), (2, .slice none 0 0), (3, .int .i64 0)] _ _ ?_ (by simp (config := {maxSteps := 2000000}) only [↓aw_region, ↓aw_skip, ↓aw_seq, ↓aw_block, ↓aw_exit, ↓aw_ret, ↓sops_nil, ↓sops_go, ↓dops_nil, ↓dopsX_nil, ↓dopsR_nil, ↓vdn, vup, extr_20, extr_21, extr_30, extr_31, extr_32, List.map_cons, List.map_nil, cond_true, cond_false, aop, aThen, aBlock, argEnv, ev, sput, sputO, binK, binI, unK, builtinK, pickK, Nat.reduceBEq, Nat.reduceAdd, Int.reduceBEq, Int.reduceBNe, Int.reduceLT, aPost, resK, tup, tyf])
    clear hN N
    refine aws_cut fun N hN => ?_
    simp (config := {maxSteps := 2000000}) only [s31, ↓aw_region, ↓aw_skip, ↓aw_seq, ↓aw_block, ↓aw_exit, ↓aw_ret, ↓sops_nil, ↓sops_go, ↓dops_nil, ↓dopsX_nil, ↓dopsR_nil, ↓vdn, vup, extr_20, extr_21, extr_30, extr_31, extr_32, List.map_cons, List.map_nil, cond_true, cond_false, aop, aThen, aBlock, argEnv, ev, sput, sputO, binK, binI, unK, builtinK, pickK, Nat.reduceBEq, Nat.reduceAdd, Int.reduceBEq, Int.reduceBNe, Int.reduceLT, aPost, resK, tup, tyf, callK, List.nil_append, List.append_nil, List.toList_toArray, List.cons_append]
    refine (cycles_call hv ht).mono ?_
    rintro rc h1 ⟨ho, hE1⟩
    have hcl := cA_le ht (Nat.le_refl xs.length)
    have hds : ∀ i, i < (cA xs xs.length).length → Pck.Dist ((cA xs xs.length).getD i Go.Am.t0) := fun i hi => cyc_dist ht hi
    obtain ⟨D, hD⟩ : ∃ D, D = cA xs xs.length := ⟨_, rfl⟩
    rw [← hD] at ho hcl hds
    simp (config := {maxSteps := 2000000}) only [s31, ↓aw_region, ↓aw_skip, ↓aw_seq, ↓aw_block, ↓aw_exit, ↓aw_ret, ↓sops_nil, ↓sops_go, ↓dops_nil, ↓dopsX_nil, ↓dopsR_nil, ↓vdn, vup, extr_20, extr_21, extr_30, extr_31, extr_32, List.map_cons, List.map_nil, cond_true, cond_false, aop, aThen, aBlock, argEnv, ev, sput, sputO, binK, binI, unK, builtinK, pickK, Nat.reduceBEq, Nat.reduceAdd, Int.reduceBEq, Int.reduceBNe, Int.reduceLT, aPost, resK, tup, tyf, allocK, newPtr, zero_36, store1 (get_new _ _) shp_36 ho.one, set_last]
    refine hN [(0, v), (2, .slice none 0 0), (3, .int .i64 0), (4, pt h1.length)] _ _ ?_ (by simp (config := {maxSteps := 2000000}) only [↓aw_region, ↓aw_skip, ↓aw_seq, ↓aw_block, ↓aw_exit, ↓aw_ret, ↓sops_nil, ↓sops_go, ↓dops_nil, ↓dopsX_nil, ↓dopsR_nil, ↓vdn, vup, extr_20, extr_21, extr_30, extr_31, extr_32, List.map_cons, List.map_nil, cond_true, cond_false, aop, aThen, aBlock, argEnv, ev, sput, sputO, binK, binI, unK, builtinK, pickK, Nat.reduceBEq, Nat.reduceAdd, Int.reduceBEq, Int.reduceBNe, Int.reduceLT, aPost, resK, tup, tyf])
    clear hN N
    refine aws_cut fun N hN => ?_
    simp (config := {maxSteps := 2000000}) only [s31, ↓aw_region, ↓aw_skip, ↓aw_seq, ↓aw_block, ↓aw_exit, ↓aw_ret, ↓sops_nil, ↓sops_go, ↓dops_nil, ↓dopsX_nil, ↓dopsR_nil, ↓vdn, vup, extr_20, extr_21, extr_30, extr_31, extr_32, List.map_cons, List.map_nil, cond_true, cond_false, aop, aThen, aBlock, argEnv, ev, sput, sputO, binK, binI, unK, builtinK, pickK, Nat.reduceBEq, Nat.reduceAdd, Int.reduceBEq, Int.reduceBNe, Int.reduceLT, aPost, resK, tup, tyf, allocK, newPtr, zero_36]
    refine hN [(0, v), (2, .slice none 0 0), (3, .int .i64 0), (4, pt h1.length), (5, pt (h1.length + 1)), (6, pt (h1.length + 2))] _ _ ?_ (by simp (config := {maxSteps := 2000000}) only [↓aw_region, ↓aw_skip, ↓aw_seq, ↓aw_block, ↓aw_exit, ↓aw_ret, ↓sops_nil, ↓sops_go, ↓dops_nil, ↓dopsX_nil, ↓dopsR_nil, ↓vdn, vup, extr_20, extr_21, extr_30, extr_31, extr_32, List.map_cons, List.map_nil, cond_true, cond_false, aop, aThen, aBlock, argEnv, ev, sput, sputO, binK, binI, unK, builtinK, pickK, Nat.reduceBEq, Nat.reduceAdd, Int.reduceBEq, Int.reduceBNe, Int.reduceLT, aPost, resK, tup, tyf, List.length_append, List.length_cons, List.length_nil, Nat.zero_add])
    clear hN N
    refine aws_cut fun N hN => ?_
    simp (config := {maxSteps := 2000000}) only [s31, ↓aw_region, ↓aw_skip, ↓aw_seq, ↓aw_block, ↓aw_exit, ↓aw_ret, ↓sops_nil, ↓sops_go, ↓dops_nil, ↓dopsX_nil, ↓dopsR_nil, ↓vdn, vup, extr_20, extr_21, extr_30, extr_31, extr_32, List.map_cons, List.map_nil, cond_true, cond_false, aop, aThen, aBlock, argEnv, ev, sput, sputO, binK, binI, unK, builtinK, pickK, Nat.reduceBEq, Nat.reduceAdd, Int.reduceBEq, Int.reduceBNe, Int.reduceLT, aPost, resK, tup, tyf, allocK, newPtr, zero_63]
    refine hN [(0, v), (2, .slice none 0 0), (3, .int .i64 0), (4, pt h1.length), (5, pt (h1.length + 1)), (6, pt (h1.length + 2)), (7, pt (h1.length + 3))] _ _ ?_ (by simp (config := {maxSteps := 2000000}) only [↓aw_region, ↓aw_skip, ↓aw_seq, ↓aw_block, ↓aw_exit, ↓aw_ret, ↓sops_nil, ↓sops_go, ↓dops_nil, ↓dopsX_nil, ↓dopsR_nil, ↓vdn, vup, extr_20, extr_21, extr_30, extr_31, extr_32, List.map_cons, List.map_nil, cond_true, cond_false, aop, aThen, aBlock, argEnv, ev, sput, sputO, binK, binI, unK, builtinK, pickK, Nat.reduceBEq, Nat.reduceAdd, Int.reduceBEq, Int.reduceBNe, Int.reduceLT, aPost, resK, tup, tyf, List.length_append, List.length_cons, List.length_nil, Nat.zero_add])
    clear hN N
    obtain ⟨n, hn⟩ : ∃ n, n = h1.length := ⟨_, rfl⟩
    obtain ⟨g, hg⟩ : ∃ g, g = h1 ++ [Blk.cells [rc] 36 false] ++ [Blk.cells [.slice none 0 0] 36 false] ++ [Blk.cells [.slice none 0 0] 36 false] := ⟨_, rfl⟩
    have hgl : g.length = n + 3 := by rw [hg, hn]; simp
    have hst : ∀ {K : Heap → Prop}, storeK prog (g ++ [Blk.cells [.nilFunc] 63 false]) 63 (pt (n + 3)) (pgV n) K = K (g ++ [Blk.cells [pgV n] 63 false]) := fun {K} => by
      rw [← set_last g (Blk.cells [.nilFunc] 63 false) (Blk.cells [pgV n] 63 false), hgl]
      have hgn : (g ++ [Blk.cells [Value.nilFunc] 63 false])[n + 3]? = some (.cells [.nilFunc] 63 false) := by rw [← hgl]; exact get_new _ _
      exact storeF hgn shp_63 K
    have hst' : ∀ {K : Heap → Prop}, storeK prog (g ++ [Blk.cells [.nilFunc] 63 false]) 63 (pt (n + 3)) (.func (.func 65) #[] #[pt (n + 2), pt (n + 1), pt n, pt (n + 3)]) K = K (g ++ [Blk.cells [pgV n] 63 false]) := fun {K} => hst
    rw [← hg, ← hn]
    refine aws_cut fun N hN => ?_
    simp (config := {maxSteps := 2000000}) only [s31, ↓aw_region, ↓aw_skip, ↓aw_seq, ↓aw_block, ↓aw_exit, ↓aw_ret, ↓sops_nil, ↓sops_go, ↓dops_nil, ↓dopsX_nil, ↓dopsR_nil, ↓vdn, vup, extr_20, extr_21, extr_30, extr_31, extr_32, List.map_cons, List.map_nil, cond_true, cond_false, aop, aThen, aBlock, argEnv, ev, sput, sputO, binK, binI, unK, builtinK, pickK, Nat.reduceBEq, Nat.reduceAdd, Int.reduceBEq, Int.reduceBNe, Int.reduceLT, aPost, resK, tup, tyf, List.map_toArray, List.toList_toArray, hst']
    refine hN [(0, v), (2, .slice none 0 0), (3, .int .i64 0), (4, pt n), (5, pt (n + 1)), (6, pt (n + 2)), (7, pt (n + 3))] _ _ ?_ (by simp (config := {maxSteps := 2000000}) only [↓aw_region, ↓aw_skip, ↓aw_seq, ↓aw_block, ↓aw_exit, ↓aw_ret, ↓sops_nil, ↓sops_go, ↓dops_nil, ↓dopsX_nil, ↓dopsR_nil, ↓vdn, vup, extr_20, extr_21, extr_30, extr_31, extr_32, List.map_cons, List.map_nil, cond_true, cond_false, aop, aThen, aBlock, argEnv, ev, sput, sputO, binK, binI, unK, builtinK, pickK, Nat.reduceBEq, Nat.reduceAdd, Int.reduceBEq, Int.reduceBNe, Int.reduceLT, aPost, resK, tup, tyf])
    clear hN N hst hst'
    have g0 : (g ++ [Blk.cells [pgV n] 63 false])[n]? = some (.cells [rc] 36 false) := by rw [hg, hn]; simp
    have g1 : (g ++ [Blk.cells [pgV n] 63 false])[n + 1]? = some (.cells [.slice none 0 0] 36 false) := by rw [hg, hn]; simp
    have g2 : (g ++ [Blk.cells [pgV n] 63 false])[n + 2]? = some (.cells [.slice none 0 0] 36 false) := by rw [hg, hn]; simp
    have g3 : (g ++ [Blk.cells [pgV n] 63 false])[n + 3]? = some (.cells [pgV n] 63 false) := by rw [← hgl]; exact get_new _ _
    have hEx : Ext (fun _ => False) h1 (g ++ [Blk.cells [pgV n] 63 false]) := by
      rw [hg, List.append_assoc, List.append_assoc, List.append_assoc]; exact Ext.app _ _ _
    have hgl2 : (g ++ [Blk.cells [pgV n] 63 false]).length = n + 4 := by simp [hgl]
    clear hg
    generalize g ++ [Blk.cells [pgV n] 63 false] = h2 at g0 g1 g2 g3 hEx hgl2 ⊢
    have hps : PS h2 n h2 (.slice none 0 0) (.slice none 0 0) [] [] :=
      ⟨hgl2, Nat.le_refl _, fun _ _ _ _ => rfl, g1, g2, .inl ⟨rfl, rfl⟩, .inl ⟨rfl, rfl⟩, fun _ h => (by cases h), fun _ h => (by cases h), fun _ h => (by cases h)⟩
    refine aws_cut fun N hN => ?_
    have hpg := pgrow_call g0 g3 (ho.trip.ext hEx) (fun b hb => by rw [hn]; exact ho.lt hb) (by omega) hds _ 0 rfl (Nat.zero_le _) h2 _ _ [] [] hps (Nat.le_refl _) (by simp)
    rw [Int.natCast_zero] at hpg
    simp (config := {maxSteps := 2000000}) only [s31, ↓aw_region, ↓aw_skip, ↓aw_seq, ↓aw_block, ↓aw_exit, ↓aw_ret, ↓sops_nil, ↓sops_go, ↓dops_nil, ↓dopsX_nil, ↓dopsR_nil, ↓vdn, vup, extr_20, extr_21, extr_30, extr_31, extr_32, List.map_cons, List.map_nil, cond_true, cond_false, aop, aThen, aBlock, argEnv, ev, sput, sputO, binK, binI, unK, builtinK, pickK, Nat.reduceBEq, Nat.reduceAdd, Int.reduceBEq, Int.reduceBNe, Int.reduceLT, aPost, resK, tup, tyf, load1 g3 shp_63, pgV, callK, List.nil_append, List.append_nil, List.toList_toArray, List.cons_append]
    refine hpg.mono ?_
    rintro _ h3 ⟨nv', bv', s3, m3⟩
    refine hN [(2, .slice none 0 0), (3, .int .i64 0), (5, pt (n + 1))] _ _ ?_ (by simp (config := {maxSteps := 2000000}) only [↓aw_region, ↓aw_skip, ↓aw_seq, ↓aw_block, ↓aw_exit, ↓aw_ret, ↓sops_nil, ↓sops_go, ↓dops_nil, ↓dopsX_nil, ↓dopsR_nil, ↓vdn, vup, extr_20, extr_21, extr_30, extr_31, extr_32, List.map_cons, List.map_nil, cond_true, cond_false, aop, aThen, aBlock, argEnv, ev, sput, sputO, binK, binI, unK, builtinK, pickK, Nat.reduceBEq, Nat.reduceAdd, Int.reduceBEq, Int.reduceBNe, Int.reduceLT, aPost, resK, tup, tyf])
    clear hN N
    refine aw_aws ?_
    simp (config := {maxSteps := 2000000}) only [s31, ↓aw_region, ↓aw_skip, ↓aw_seq, ↓aw_block, ↓aw_exit, ↓aw_ret, ↓sops_nil, ↓sops_go, ↓dops_nil, ↓dopsX_nil, ↓dopsR_nil, ↓vdn, vup, extr_20, extr_21, extr_30, extr_31, extr_32, List.map_cons, List.map_nil, cond_true, cond_false, aop, aThen, aBlock, argEnv, ev, sput, sputO, binK, binI, unK, builtinK, pickK, Nat.reduceBEq, Nat.reduceAdd, Int.reduceBEq, Int.reduceBNe, Int.reduceLT, aPost, resK, tup, tyf, load1 s3.b shp_36]
    rw [if_pos ht, ← hD]
    refine ⟨hE1.trans ⟨by have := hEx.1; have := s3.len; omega, fun i hi _ => ?_⟩, bv', rfl, ?_⟩
    · rw [s3.keep i (by omega) (by omega) (by omega)]; exact hEx.2 i hi id
    · have := s3.ob.trip
      rw [List.drop_zero] at this; exact this
end Go.Proofs.Tryd.Am

namespace Go.Proofs.Tryd.Am
open Go.Am
set_option maxRecDepth 100000
set_option maxHeartbeats 1000000

theorem eqT3 [Tabs prog] : EqT prog 40 3 := eqT_array und_40 und_3 esz_3 (by kernel_rfl)
theorem trip_eq (p q : T3) : (([p.1, p.2.1, p.2.2] : List Int) == [q.1, q.2.1, q.2.2]) = decide (p = q) := by
  rw [Bool.eq_iff_iff, beq_iff_eq, decide_eq_true_eq]
  constructor
  · intro h; simp at h; exact Prod.ext h.1 (Prod.ext h.2.1 h.2.2)
  · rintro rfl; rfl
theorem equalT_call [Tabs prog] {h : Heap} {va vb : Value} {ts : List T3} (ha : TripSl h va ts) (hb : TripSl h vb ts) (hl : ts.length < 9223372036854775807) : APure prog 32 [va, vb] h (.bool true) := by
  have hq : EqT prog 40 3 := eqT3
  refine s32_call (by simp) ?_
  have hne : ((ts.length : Int) != ts.length) = false := bne_self_eq_false _
  simp (config := {maxSteps := 2000000}) only [s32, ↓aw_region, ↓aw_skip, ↓aw_seq, ↓aw_block, ↓aw_exit, ↓aw_ret, ↓sops_nil, ↓sops_go, ↓dops_nil, ↓dopsX_nil, ↓dopsR_nil, ↓vdn, vup, extr_20, extr_21, extr_30, extr_31, extr_32, List.map_cons, List.map_nil, cond_true, cond_false, aop, aThen, aBlock, argEnv, ev, sput, sputO, binK, binI, unK, builtinK, pickK, Nat.reduceBEq, Nat.reduceAdd, Int.reduceBEq, Int.reduceBNe, Int.reduceLT, aPost, resK, tup, tyf, ha.len, hb.len, hne, ↓aw_loop_eq]
  refine aws_hide fun Q hQ => ?_
  refine aw_loop (γ := Nat) (fun i => i ≤ ts.length)
    (fun i => ([(0, va), (1, vb), (12, vint ts.length), (13, vint i)], h)) (fun i => ts.length - i) 0 (Nat.zero_le _) (by simp (config := {maxSteps := 2000000}) only [↓aw_region, ↓aw_skip, ↓aw_seq, ↓aw_block, ↓aw_exit, ↓aw_ret, ↓sops_nil, ↓sops_go, ↓dops_nil, ↓dopsX_nil, ↓dopsR_nil, ↓vdn, vup, extr_20, extr_21, extr_30, extr_31, extr_32, List.map_cons, List.map_nil, cond_true, cond_false, aop, aThen, aBlock, argEnv, ev, sput, sputO, binK, binI, unK, builtinK, pickK, Nat.reduceBEq, Nat.reduceAdd, Int.reduceBEq, Int.reduceBNe, Int.reduceLT, aPost, resK, tup, tyf, Int.natCast_zero]) rfl ?_
  intro i hi
  refine aw_hide fun Q2 hQ2 => ?_
  by_cases hin : (i : Int) < ts.length
  · have h1 : i < ts.length := by omega
    have hla : ∀ {K : Value → Prop}, loadK prog h 40 (elemP va 3 i) K = K (tV (ts.getD i Go.Am.t0)) := fun {K} => ha.load shp_40 h1 K
    have hlb : ∀ {K : Value → Prop}, loadK prog h 40 (elemP vb 3 i) K = K (tV (ts.getD i Go.Am.t0)) := fun {K} => hb.load shp_40 h1 K
    simp (config := {maxSteps := 2000000}) only [s32, ↓aw_region, ↓aw_skip, ↓aw_seq, ↓aw_block, ↓aw_exit, ↓aw_ret, ↓sops_nil, ↓sops_go, ↓dops_nil, ↓dopsX_nil, ↓dopsR_nil, ↓vdn, vup, extr_20, extr_21, extr_30, extr_31, extr_32, List.map_cons, List.map_nil, cond_true, cond_false, aop, aThen, aBlock, argEnv, ev, sput, sputO, binK, binI, unK, builtinK, pickK, Nat.reduceBEq, Nat.reduceAdd, Int.reduceBEq, Int.reduceBNe, Int.reduceLT, aPost, resK, tup, tyf, l32_0, hin]
    refine aw_drawX [] (by kernel_rfl) (by kernel_rfl) (by kernel_rfl) (by kernel_rfl) ?_
    simp (config := {maxSteps := 2000000}) only [s32, ↓aw_region, ↓aw_skip, ↓aw_seq, ↓aw_block, ↓aw_exit, ↓aw_ret, ↓sops_nil, ↓sops_go, ↓dops_nil, ↓dopsX_nil, ↓dopsR_nil, ↓vdn, vup, extr_20, extr_21, extr_30, extr_31, extr_32, List.map_cons, List.map_nil, cond_true, cond_false, aop, aThen, aBlock, argEnv, ev, sput, sputO, binK, binI, unK, builtinK, pickK, Nat.reduceBEq, Nat.reduceAdd, Int.reduceBEq, Int.reduceBNe, Int.reduceLT, aPost, resK, tup, tyf, ha.idx el_36 esz_40 h1, hla, hb.idx el_36 esz_40 h1, hlb, tV, List.toList_toArray, intsOf, Option.map_some, List.length_cons, List.length_nil, Nat.zero_add, hq, bne_self_eq_false, add1 (show i < 9223372036854775807 by omega)]
    exact hQ2 _ _ _ ⟨i + 1, by omega, by omega, by simp (config := {maxSteps := 2000000}) only [↓aw_region, ↓aw_skip, ↓aw_seq, ↓aw_block, ↓aw_exit, ↓aw_ret, ↓sops_nil, ↓sops_go, ↓dops_nil, ↓dopsX_nil, ↓dopsR_nil, ↓vdn, vup, extr_20, extr_21, extr_30, extr_31, extr_32, List.map_cons, List.map_nil, cond_true, cond_false, aop, aThen, aBlock, argEnv, ev, sput, sputO, binK, binI, unK, builtinK, pickK, Nat.reduceBEq, Nat.reduceAdd, Int.reduceBEq, Int.reduceBNe, Int.reduceLT, aPost, resK, tup, tyf], rfl⟩
  · obtain rfl : i = ts.length := by omega
    simp (config := {maxSteps := 2000000}) only [s32, ↓aw_region, ↓aw_skip, ↓aw_seq, ↓aw_block, ↓aw_exit, ↓aw_ret, ↓sops_nil, ↓sops_go, ↓dops_nil, ↓dopsX_nil, ↓dopsR_nil, ↓vdn, vup, extr_20, extr_21, extr_30, extr_31, extr_32, List.map_cons, List.map_nil, cond_true, cond_false, aop, aThen, aBlock, argEnv, ev, sput, sputO, binK, binI, unK, builtinK, pickK, Nat.reduceBEq, Nat.reduceAdd, Int.reduceBEq, Int.reduceBNe, Int.reduceLT, aPost, resK, tup, tyf, l32_0, Int.lt_irrefl]
    refine hQ2 _ _ _ (hQ _ _ _ ?_)
    simp (config := {maxSteps := 2000000}) only [s32, ↓aw_region, ↓aw_skip, ↓aw_seq, ↓aw_block, ↓aw_exit, ↓aw_ret, ↓sops_nil, ↓sops_go, ↓dops_nil, ↓dopsX_nil, ↓dopsR_nil, ↓vdn, vup, extr_20, extr_21, extr_30, extr_31, extr_32, List.map_cons, List.map_nil, cond_true, cond_false, aop, aThen, aBlock, argEnv, ev, sput, sputO, binK, binI, unK, builtinK, pickK, Nat.reduceBEq, Nat.reduceAdd, Int.reduceBEq, Int.reduceBNe, Int.reduceLT, aPost, resK, tup, tyf, if_true]

theorem tBox (g : Heap) (p : T3) : ((g ++ [Blk.cells [.int .i64 0, .int .i64 0, .int .i64 0] 40 false]).set g.length (.cells [vint p.1, vint p.2.1, vint p.2.2] 40 false))[g.length]? = some (.cells [vint p.1, vint p.2.1, vint p.2.2] 40 false) ∧ Ext (fun _ => False) g ((g ++ [Blk.cells [.int .i64 0, .int .i64 0, .int .i64 0] 40 false]).set g.length (.cells [vint p.1, vint p.2.1, vint p.2.2] 40 false)) ∧
    ∀ {K : Heap → Prop}, storeK prog (g ++ [Blk.cells [.int .i64 0, .int .i64 0, .int .i64 0] 40 false]) 40 (.pointer (some ⟨g.length, 0, none⟩)) (tV p) K = K ((g ++ [Blk.cells [.int .i64 0, .int .i64 0, .int .i64 0] 40 false]).set g.length (.cells [vint p.1, vint p.2.1, vint p.2.2] 40 false)) :=
  ⟨get_set (by simp) _, ⟨by simp, fun j hj _ => by rw [List.getElem?_set_ne (by omega), List.getElem?_append_left hj]⟩, fun {K} => storeT (get_new _ _) rfl⟩
theorem dropT {D : List T3} {i : Nat} (hi : i < D.length) : D.drop i = D.getD i Go.Am.t0 :: D.drop (i + 1) := by
  rw [List.drop_eq_getElem_cons hi, List.getD, List.getElem?_eq_getElem hi]; rfl
theorem sub_no {x c : T3} {l r : List T3} (h : (x :: l).Sublist (c :: r)) (hne : ¬ c = x) : (x :: l).Sublist r := by
  cases h with
  | cons _ h => exact h
  | cons_cons _ h => exact absurd rfl hne

theorem packed_call [Tabs prog] {h : Heap} {v lv : Value} {xs : List Int} {ls : List T3} (hv : IntSl h v xs) (ht : trn xs = true) (hlv : TripSl h lv ls) (hls : Pck.Good Pck.okT (cA xs xs.length) ls) : APure prog 34 [v, lv] h (.bool true) := by
  have hq : EqT prog 40 3 := eqT3
  have hcl := cA_le ht (Nat.le_refl _)
  obtain ⟨hsub, hpw⟩ := hls
  have hll : ls.length ≤ 512 := Nat.le_trans hsub.length_le hcl
  refine ACall.forget (Low.bool _) ?_
  refine s34_call (by simp) ?_
  simp only [s34]
  refine aw_cut fun N hN => ?_
  simp (config := {maxSteps := 2000000}) only [s34, ↓aw_region, ↓aw_skip, ↓aw_seq, ↓aw_block, ↓aw_exit, ↓aw_ret, ↓sops_nil, ↓sops_go, ↓dops_nil, ↓dopsX_nil, ↓dopsR_nil, ↓vdn, vup, extr_20, extr_21, extr_30, extr_31, extr_32, List.map_cons, List.map_nil, cond_true, cond_false, aop, aThen, aBlock, argEnv, ev, sput, sputO, binK, binI, unK, builtinK, pickK, Nat.reduceBEq, Nat.reduceAdd, Int.reduceBEq, Int.reduceBNe, Int.reduceLT, aPost, resK, tup, tyf]
  refine hN _ _ ?_
  clear hN N
  refine aw_cut fun N hN => ?_
  simp (config := {maxSteps := 2000000}) only [s34, ↓aw_region, ↓aw_skip, ↓aw_seq, ↓aw_block, ↓aw_exit, ↓aw_ret, ↓sops_nil, ↓sops_go, ↓dops_nil, ↓dopsX_nil, ↓dopsR_nil, ↓vdn, vup, extr_20, extr_21, extr_30, extr_31, extr_32, List.map_cons, List.map_nil, cond_true, cond_false, aop, aThen, aBlock, argEnv, ev, sput, sputO, binK, binI, unK, builtinK, pickK, Nat.reduceBEq, Nat.reduceAdd, Int.reduceBEq, Int.reduceBNe, Int.reduceLT, aPost, resK, tup, tyf]
  refine hN _ _ ?_
  clear hN N
  refine aw_cut fun N hN => ?_
  simp (config := {maxSteps := 2000000}) only [s34, ↓aw_region, ↓aw_skip, ↓aw_seq, ↓aw_block, ↓aw_exit, ↓aw_ret, ↓sops_nil, ↓sops_go, ↓dops_nil, ↓dopsX_nil, ↓dopsR_nil, ↓vdn, vup, extr_20, extr_21, extr_30, extr_31, extr_32, List.map_cons, List.map_nil, cond_true, cond_false, aop, aThen, aBlock, argEnv, ev, sput, sputO, binK, binI, unK, builtinK, pickK, Nat.reduceBEq, Nat.reduceAdd, Int.reduceBEq, Int.reduceBNe, Int.reduceLT, aPost, resK, tup, tyf, callK, List.nil_append, List.append_nil, List.toList_toArray, List.cons_append]
  refine (rcycles_call hv ht).mono ?_
  rintro rc h1 ⟨ho, hE1⟩
  have hD := ho.trip
  generalize cA xs xs.length = D at hD hsub hcl
  simp (config := {maxSteps := 2000000}) only [s34, ↓aw_region, ↓aw_skip, ↓aw_seq, ↓aw_block, ↓aw_exit, ↓aw_ret, ↓sops_nil, ↓sops_go, ↓dops_nil, ↓dopsX_nil, ↓dopsR_nil, ↓vdn, vup, extr_20, extr_21, extr_30, extr_31, extr_32, List.map_cons, List.map_nil, cond_true, cond_false, aop, aThen, aBlock, argEnv, ev, sput, sputO, binK, binI, unK, builtinK, pickK, Nat.reduceBEq, Nat.reduceAdd, Int.reduceBEq, Int.reduceBNe, Int.reduceLT, aPost, resK, tup, tyf, hD.len, ↓aw_loop_eq]
  refine aws_hide fun Q hQ => ?_
  refine aw_loop (γ := Nat × Nat × Heap) (fun s => s.1 ≤ D.length ∧ s.2.1 ≤ ls.length ∧ Ext (fun _ => False) h1 s.2.2 ∧ (ls.drop s.2.1).Sublist (D.drop s.1))
    (fun s => ([(1, lv), (4, .bool false), (5, vint s.2.1), (13, rc), (14, vint D.length), (15, vint s.1)], s.2.2)) (fun s => D.length - s.1) (0, 0, h1) ⟨Nat.zero_le _, Nat.zero_le _, Ext.refl _ _, by simpa using hsub⟩ (by simp (config := {maxSteps := 2000000}) only [↓aw_region, ↓aw_skip, ↓aw_seq, ↓aw_block, ↓aw_exit, ↓aw_ret, ↓sops_nil, ↓sops_go, ↓dops_nil, ↓dopsX_nil, ↓dopsR_nil, ↓vdn, vup, extr_20, extr_21, extr_30, extr_31, extr_32, List.map_cons, List.map_nil, cond_true, cond_false, aop, aThen, aBlock, argEnv, ev, sput, sputO, binK, binI, unK, builtinK, pickK, Nat.reduceBEq, Nat.reduceAdd, Int.reduceBEq, Int.reduceBNe, Int.reduceLT, aPost, resK, tup, tyf, Int.natCast_zero]) rfl ?_
  rintro ⟨k, m, hk1⟩ ⟨hk, hm, hE, hsb⟩
  simp only at hk hm hE hsb
  refine aw_hide fun Q2 hQ2 => ?_
  by_cases hin : (k : Int) < D.length
  · have hk' : k < D.length := by omega
    have hD2 := hD.ext hE
    obtain ⟨p, hpe⟩ : ∃ p, p = D.getD k Go.Am.t0 := ⟨_, rfl⟩
    have hld : ∀ {K : Value → Prop}, loadK prog hk1 40 (elemP rc 3 k) K = K (tV p) := fun {K} => by rw [hpe]; exact hD2.load shp_40 hk' K
    obtain ⟨c1, hE2, hst⟩ := tBox hk1 p
    simp (config := {maxSteps := 2000000}) only [s34, ↓aw_region, ↓aw_skip, ↓aw_seq, ↓aw_block, ↓aw_exit, ↓aw_ret, ↓sops_nil, ↓sops_go, ↓dops_nil, ↓dopsX_nil, ↓dopsR_nil, ↓vdn, vup, extr_20, extr_21, extr_30, extr_31, extr_32, List.map_cons, List.map_nil, cond_true, cond_false, aop, aThen, aBlock, argEnv, ev, sput, sputO, binK, binI, unK, builtinK, pickK, Nat.reduceBEq, Nat.reduceAdd, Int.reduceBEq, Int.reduceBNe, Int.reduceLT, aPost, resK, tup, tyf, l34_0, hin, hD2.idx el_36 esz_40 hk', hld, allocK, newPtr, zero_40, hst]
    have hEh := hE.trans hE2
    have hl2 := hlv.ext (hE1.trans hEh)
    generalize (hk1 ++ [Blk.cells [.int .i64 0, .int .i64 0, .int .i64 0] 40 false]).set hk1.length (.cells [vint p.1, vint p.2.1, vint p.2.2] 40 false) = h2 at c1 hE2 hEh hl2 ⊢
    generalize hk1.length = bp at c1 ⊢
    rw [dropT hk', ← hpe] at hsb
    refine aw_drawX [] (by kernel_rfl) (by kernel_rfl) (by kernel_rfl) (by kernel_rfl) ?_
    by_cases hml : (m : Int) < ls.length
    · have hm' : m < ls.length := by omega
      obtain ⟨x, hxe⟩ : ∃ x, x = ls.getD m Go.Am.t0 := ⟨_, rfl⟩
      have hlx : ∀ {K : Value → Prop}, loadK prog h2 40 (elemP lv 3 m) K = K (tV x) := fun {K} => by rw [hxe]; exact hl2.load shp_40 hm' K
      rw [dropT hm', ← hxe] at hsb
      by_cases hpx : p = x
      · have hd : decide (p = x) = true := decide_eq_true hpx
        simp (config := {maxSteps := 2000000}) only [s34, ↓aw_region, ↓aw_skip, ↓aw_seq, ↓aw_block, ↓aw_exit, ↓aw_ret, ↓sops_nil, ↓sops_go, ↓dops_nil, ↓dopsX_nil, ↓dopsR_nil, ↓vdn, vup, extr_20, extr_21, extr_30, extr_31, extr_32, List.map_cons, List.map_nil, cond_true, cond_false, aop, aThen, aBlock, argEnv, ev, sput, sputO, binK, binI, unK, builtinK, pickK, Nat.reduceBEq, Nat.reduceAdd, Int.reduceBEq, Int.reduceBNe, Int.reduceLT, aPost, resK, tup, tyf, hl2.len, hml, loadT c1, hl2.idx el_36 esz_40 hm', hlx, tV, List.toList_toArray, intsOf, Option.map_some, List.length_cons, List.length_nil, Nat.zero_add, hq, trip_eq, hd, add1 (show m < 9223372036854775807 by omega), add1 (show k < 9223372036854775807 by omega)]
        refine hQ2 _ _ _ ⟨(k + 1, m + 1, h2), ⟨by simp only; omega, by simp only; omega, hEh, ?_⟩, by simp only; omega, by simp (config := {maxSteps := 2000000}) only [↓aw_region, ↓aw_skip, ↓aw_seq, ↓aw_block, ↓aw_exit, ↓aw_ret, ↓sops_nil, ↓sops_go, ↓dops_nil, ↓dopsX_nil, ↓dopsR_nil, ↓vdn, vup, extr_20, extr_21, extr_30, extr_31, extr_32, List.map_cons, List.map_nil, cond_true, cond_false, aop, aThen, aBlock, argEnv, ev, sput, sputO, binK, binI, unK, builtinK, pickK, Nat.reduceBEq, Nat.reduceAdd, Int.reduceBEq, Int.reduceBNe, Int.reduceLT, aPost, resK, tup, tyf], rfl⟩
        rw [hpx] at hsb
        exact List.cons_sublist_cons.1 hsb
      · have hd : decide (p = x) = false := decide_eq_false hpx
        simp (config := {maxSteps := 2000000}) only [s34, ↓aw_region, ↓aw_skip, ↓aw_seq, ↓aw_block, ↓aw_exit, ↓aw_ret, ↓sops_nil, ↓sops_go, ↓dops_nil, ↓dopsX_nil, ↓dopsR_nil, ↓vdn, vup, extr_20, extr_21, extr_30, extr_31, extr_32, List.map_cons, List.map_nil, cond_true, cond_false, aop, aThen, aBlock, argEnv, ev, sput, sputO, binK, binI, unK, builtinK, pickK, Nat.reduceBEq, Nat.reduceAdd, Int.reduceBEq, Int.reduceBNe, Int.reduceLT, aPost, resK, tup, tyf, hl2.len, hml, loadT c1, hl2.idx el_36 esz_40 hm', hlx, tV, List.toList_toArray, intsOf, Option.map_some, List.length_cons, List.length_nil, Nat.zero_add, hq, trip_eq, hd, add1 (show k < 9223372036854775807 by omega)]
        refine hQ2 _ _ _ ⟨(k + 1, m, h2), ⟨by simp only; omega, hm, hEh, ?_⟩, by simp only; omega, by simp (config := {maxSteps := 2000000}) only [↓aw_region, ↓aw_skip, ↓aw_seq, ↓aw_block, ↓aw_exit, ↓aw_ret, ↓sops_nil, ↓sops_go, ↓dops_nil, ↓dopsX_nil, ↓dopsR_nil, ↓vdn, vup, extr_20, extr_21, extr_30, extr_31, extr_32, List.map_cons, List.map_nil, cond_true, cond_false, aop, aThen, aBlock, argEnv, ev, sput, sputO, binK, binI, unK, builtinK, pickK, Nat.reduceBEq, Nat.reduceAdd, Int.reduceBEq, Int.reduceBNe, Int.reduceLT, aPost, resK, tup, tyf], rfl⟩
        have := sub_no hsb hpx
        simp only
        rw [dropT hm', ← hxe]; exact this
    · simp (config := {maxSteps := 2000000}) only [s34, ↓aw_region, ↓aw_skip, ↓aw_seq, ↓aw_block, ↓aw_exit, ↓aw_ret, ↓sops_nil, ↓sops_go, ↓dops_nil, ↓dopsX_nil, ↓dopsR_nil, ↓vdn, vup, extr_20, extr_21, extr_30, extr_31, extr_32, List.map_cons, List.map_nil, cond_true, cond_false, aop, aThen, aBlock, argEnv, ev, sput, sputO, binK, binI, unK, builtinK, pickK, Nat.reduceBEq, Nat.reduceAdd, Int.reduceBEq, Int.reduceBNe, Int.reduceLT, aPost, resK, tup, tyf, hl2.len, hml, add1 (show k < 9223372036854775807 by omega)]
      refine hQ2 _ _ _ ⟨(k + 1, m, h2), ⟨by simp only; omega, hm, hEh, ?_⟩, by simp only; omega, by simp (config := {maxSteps := 2000000}) only [↓aw_region, ↓aw_skip, ↓aw_seq, ↓aw_block, ↓aw_exit, ↓aw_ret, ↓sops_nil, ↓sops_go, ↓dops_nil, ↓dopsX_nil, ↓dopsR_nil, ↓vdn, vup, extr_20, extr_21, extr_30, extr_31, extr_32, List.map_cons, List.map_nil, cond_true, cond_false, aop, aThen, aBlock, argEnv, ev, sput, sputO, binK, binI, unK, builtinK, pickK, Nat.reduceBEq, Nat.reduceAdd, Int.reduceBEq, Int.reduceBNe, Int.reduceLT, aPost, resK, tup, tyf], rfl⟩
      simp only
      rw [List.drop_eq_nil_of_le (by omega)]; exact List.nil_sublist _
  · obtain rfl : k = D.length := by omega
    have hm2 : m = ls.length := by
      rw [List.drop_length] at hsb
      have := List.sublist_nil.1 hsb
      rw [List.drop_eq_nil_iff] at this
      omega
    subst hm2
    simp (config := {maxSteps := 2000000}) only [s34, ↓aw_region, ↓aw_skip, ↓aw_seq, ↓aw_block, ↓aw_exit, ↓aw_ret, ↓sops_nil, ↓sops_go, ↓dops_nil, ↓dopsX_nil, ↓dopsR_nil, ↓vdn, vup, extr_20, extr_21, extr_30, extr_31, extr_32, List.map_cons, List.map_nil, cond_true, cond_false, aop, aThen, aBlock, argEnv, ev, sput, sputO, binK, binI, unK, builtinK, pickK, Nat.reduceBEq, Nat.reduceAdd, Int.reduceBEq, Int.reduceBNe, Int.reduceLT, aPost, resK, tup, tyf, l34_0, Int.lt_irrefl]
    refine hQ2 _ _ _ (hQ _ _ _ ?_)
    simp (config := {maxSteps := 2000000}) only [s34, ↓aw_region, ↓aw_skip, ↓aw_seq, ↓aw_block, ↓aw_exit, ↓aw_ret, ↓sops_nil, ↓sops_go, ↓dops_nil, ↓dopsX_nil, ↓dopsR_nil, ↓vdn, vup, extr_20, extr_21, extr_30, extr_31, extr_32, List.map_cons, List.map_nil, cond_true, cond_false, aop, aThen, aBlock, argEnv, ev, sput, sputO, binK, binI, unK, builtinK, pickK, Nat.reduceBEq, Nat.reduceAdd, Int.reduceBEq, Int.reduceBNe, Int.reduceLT, aPost, resK, tup, tyf, if_true]
    refine hN _ _ ?_
    clear hN N hQ2 Q2 hQ Q
    have hEk := hE1.trans hE
    have hlk := hlv.ext hEk
    refine aw_cut fun N hN => ?_
    simp (config := {maxSteps := 2000000}) only [s34, ↓aw_region, ↓aw_skip, ↓aw_seq, ↓aw_block, ↓aw_exit, ↓aw_ret, ↓sops_nil, ↓sops_go, ↓dops_nil, ↓dopsX_nil, ↓dopsR_nil, ↓vdn, vup, extr_20, extr_21, extr_30, extr_31, extr_32, List.map_cons, List.map_nil, cond_true, cond_false, aop, aThen, aBlock, argEnv, ev, sput, sputO, binK, binI, unK, builtinK, pickK, Nat.reduceBEq, Nat.reduceAdd, Int.reduceBEq, Int.reduceBNe, Int.reduceLT, aPost, resK, tup, tyf, hlk.len, ↓aw_loop_eq]
    refine aws_hide fun Q hQ => ?_
    refine aw_loop (γ := Nat × Heap) (fun s => s.1 ≤ ls.length ∧ Ext (fun _ => False) hk1 s.2)
      (fun s => ([(1, lv), (4, .bool false), (5, vint ls.length), (34, lv), (35, vint ls.length), (36, vint s.1)], s.2)) (fun s => ls.length - s.1) (0, hk1) ⟨Nat.zero_le _, Ext.refl _ _⟩ (by simp (config := {maxSteps := 2000000}) only [↓aw_region, ↓aw_skip, ↓aw_seq, ↓aw_block, ↓aw_exit, ↓aw_ret, ↓sops_nil, ↓sops_go, ↓dops_nil, ↓dopsX_nil, ↓dopsR_nil, ↓vdn, vup, extr_20, extr_21, extr_30, extr_31, extr_32, List.map_cons, List.map_nil, cond_true, cond_false, aop, aThen, aBlock, argEnv, ev, sput, sputO, binK, binI, unK, builtinK, pickK, Nat.reduceBEq, Nat.reduceAdd, Int.reduceBEq, Int.reduceBNe, Int.reduceLT, aPost, resK, tup, tyf, Int.natCast_zero]) rfl ?_
    rintro ⟨k, h2⟩ ⟨hk2, hE2⟩
    simp only at hk2 hE2
    refine aw_hide fun Q2 hQ2 => ?_
    by_cases hin : (k : Int) < ls.length
    · have hk' : k < ls.length := by omega
      have hl2 := hlk.ext hE2
      obtain ⟨p, hpe⟩ : ∃ p, p = ls.getD k Go.Am.t0 := ⟨_, rfl⟩
      have hld : ∀ {K : Value → Prop}, loadK prog h2 40 (elemP lv 3 k) K = K (tV p) := fun {K} => by rw [hpe]; exact hl2.load shp_40 hk' K
      obtain ⟨c1, hE3, hst⟩ := tBox h2 p
      simp only [l34_2]
      refine aw_cut fun N1 hN1 => ?_
      simp (config := {maxSteps := 2000000}) only [s34, ↓aw_region, ↓aw_skip, ↓aw_seq, ↓aw_block, ↓aw_exit, ↓aw_ret, ↓sops_nil, ↓sops_go, ↓dops_nil, ↓dopsX_nil, ↓dopsR_nil, ↓vdn, vup, extr_20, extr_21, extr_30, extr_31, extr_32, List.map_cons, List.map_nil, cond_true, cond_false, aop, aThen, aBlock, argEnv, ev, sput, sputO, binK, binI, unK, builtinK, pickK, Nat.reduceBEq, Nat.reduceAdd, Int.reduceBEq, Int.reduceBNe, Int.reduceLT, aPost, resK, tup, tyf, hin]
      refine hN1 _ _ ?_
      clear hN1 N1
      refine aw_cut fun N1 hN1 => ?_
      simp (config := {maxSteps := 2000000}) only [s34, ↓aw_region, ↓aw_skip, ↓aw_seq, ↓aw_block, ↓aw_exit, ↓aw_ret, ↓sops_nil, ↓sops_go, ↓dops_nil, ↓dopsX_nil, ↓dopsR_nil, ↓vdn, vup, extr_20, extr_21, extr_30, extr_31, extr_32, List.map_cons, List.map_nil, cond_true, cond_false, aop, aThen, aBlock, argEnv, ev, sput, sputO, binK, binI, unK, builtinK, pickK, Nat.reduceBEq, Nat.reduceAdd, Int.reduceBEq, Int.reduceBNe, Int.reduceLT, aPost, resK, tup, tyf]
      refine hN1 _ _ ?_
      clear hN1 N1
      refine aw_cut fun N1 hN1 => ?_
      simp (config := {maxSteps := 2000000}) only [s34, ↓aw_region, ↓aw_skip, ↓aw_seq, ↓aw_block, ↓aw_exit, ↓aw_ret, ↓sops_nil, ↓sops_go, ↓dops_nil, ↓dopsX_nil, ↓dopsR_nil, ↓vdn, vup, extr_20, extr_21, extr_30, extr_31, extr_32, List.map_cons, List.map_nil, cond_true, cond_false, aop, aThen, aBlock, argEnv, ev, sput, sputO, binK, binI, unK, builtinK, pickK, Nat.reduceBEq, Nat.reduceAdd, Int.reduceBEq, Int.reduceBNe, Int.reduceLT, aPost, resK, tup, tyf, hl2.idx el_36 esz_40 hk', hld, allocK, newPtr, zero_40, hst]
      have hEh := hE2.trans hE3
      have hl3 := hl2.ext hE3
      generalize (h2 ++ [Blk.cells [.int .i64 0, .int .i64 0, .int .i64 0] 40 false]).set h2.length (.cells [vint p.1, vint p.2.1, vint p.2.2] 40 false) = h3 at c1 hE3 hEh hl3 ⊢
      generalize h2.length = bp at c1 ⊢
      simp (config := {maxSteps := 2000000}) only [s34, ↓aw_region, ↓aw_skip, ↓aw_seq, ↓aw_block, ↓aw_exit, ↓aw_ret, ↓sops_nil, ↓sops_go, ↓dops_nil, ↓dopsX_nil, ↓dopsR_nil, ↓vdn, vup, extr_20, extr_21, extr_30, extr_31, extr_32, List.map_cons, List.map_nil, cond_true, cond_false, aop, aThen, aBlock, argEnv, ev, sput, sputO, binK, binI, unK, builtinK, pickK, Nat.reduceBEq, Nat.reduceAdd, Int.reduceBEq, Int.reduceBNe, Int.reduceLT, aPost, resK, tup, tyf, Option.map_none, Option.map_some]
      refine hl3.pre el_36 esz_40 (m := k) (by omega) ?_
      intro tv htv
      have htl : (ls.take k).length = k := by simp; omega
      simp (config := {maxSteps := 2000000}) only [s34, ↓aw_region, ↓aw_skip, ↓aw_seq, ↓aw_block, ↓aw_exit, ↓aw_ret, ↓sops_nil, ↓sops_go, ↓dops_nil, ↓dopsX_nil, ↓dopsR_nil, ↓vdn, vup, extr_20, extr_21, extr_30, extr_31, extr_32, List.map_cons, List.map_nil, cond_true, cond_false, aop, aThen, aBlock, argEnv, ev, sput, sputO, binK, binI, unK, builtinK, pickK, Nat.reduceBEq, Nat.reduceAdd, Int.reduceBEq, Int.reduceBNe, Int.reduceLT, aPost, resK, tup, tyf, htv.len, htl, ↓aw_loop_eq]
      refine aws_hide fun Q3 hQ3 => ?_
      refine aw_loop (γ := Nat × Heap) (fun s => s.1 ≤ k ∧ Ext (fun _ => False) h3 s.2)
        (fun s => ([(1, lv), (4, .bool false), (5, vint ls.length), (9, .pointer (some ⟨bp, 0, none⟩)), (34, lv), (35, vint ls.length), (36, vint k), (43, tv), (44, vint k), (45, vint s.1)], s.2)) (fun s => k - s.1) (0, h3) ⟨Nat.zero_le _, Ext.refl _ _⟩ (by simp (config := {maxSteps := 2000000}) only [↓aw_region, ↓aw_skip, ↓aw_seq, ↓aw_block, ↓aw_exit, ↓aw_ret, ↓sops_nil, ↓sops_go, ↓dops_nil, ↓dopsX_nil, ↓dopsR_nil, ↓vdn, vup, extr_20, extr_21, extr_30, extr_31, extr_32, List.map_cons, List.map_nil, cond_true, cond_false, aop, aThen, aBlock, argEnv, ev, sput, sputO, binK, binI, unK, builtinK, pickK, Nat.reduceBEq, Nat.reduceAdd, Int.reduceBEq, Int.reduceBNe, Int.reduceLT, aPost, resK, tup, tyf, Int.natCast_zero]) rfl ?_
      rintro ⟨i, h4⟩ ⟨hi, hE4⟩
      simp only at hi hE4
      refine aw_hide fun Q4 hQ4 => ?_
      by_cases hik : (i : Int) < (k : Int)
      · have hi' : i < (ls.take k).length := by omega
        have ht4 := htv.ext hE4
        have c4 := (hE4.2 _ (get_lt c1) id).trans c1
        obtain ⟨q, hqe⟩ : ∃ q, q = (ls.take k).getD i Go.Am.t0 := ⟨_, rfl⟩
        have hld2 : ∀ {K : Value → Prop}, loadK prog h4 40 (elemP tv 3 i) K = K (tV q) := fun {K} => by rw [hqe]; exact ht4.load shp_40 hi' K
        obtain ⟨c5, hE5, hst5⟩ := tBox h4 q
        simp (config := {maxSteps := 2000000}) only [s34, ↓aw_region, ↓aw_skip, ↓aw_seq, ↓aw_block, ↓aw_exit, ↓aw_ret, ↓sops_nil, ↓sops_go, ↓dops_nil, ↓dopsX_nil, ↓dopsR_nil, ↓vdn, vup, extr_20, extr_21, extr_30, extr_31, extr_32, List.map_cons, List.map_nil, cond_true, cond_false, aop, aThen, aBlock, argEnv, ev, sput, sputO, binK, binI, unK, builtinK, pickK, Nat.reduceBEq, Nat.reduceAdd, Int.reduceBEq, Int.reduceBNe, Int.reduceLT, aPost, resK, tup, tyf, l34_1, hik, ht4.idx el_36 esz_40 hi', hld2, allocK, newPtr, zero_40, hst5]
        have c6 := (hE5.2 _ (get_lt c4) id).trans c4
        generalize (h4 ++ [Blk.cells [.int .i64 0, .int .i64 0, .int .i64 0] 40 false]).set h4.length (.cells [vint q.1, vint q.2.1, vint q.2.2] 40 false) = h5 at c5 c6 hE5 ⊢
        generalize h4.length = bq at c5 ⊢
        have hok : ¬ (1 : Int) < ((Pck.cm p q : Nat) : Int) := by
          have h1 : Pck.okT q p = true := by
            have := List.pairwise_iff_getElem.1 hpw i k (by omega) hk' (by omega)
            rw [hqe, hpe, List.getD, List.getD, List.getElem?_eq_getElem hi', List.getElem?_eq_getElem hk', List.getElem_take]; exact this
          rw [Pck.okT, decide_eq_true_eq, Pck.cm_comm] at h1
          omega
        simp (config := {maxSteps := 2000000}) only [s34, ↓aw_region, ↓aw_skip, ↓aw_seq, ↓aw_block, ↓aw_exit, ↓aw_ret, ↓sops_nil, ↓sops_go, ↓dops_nil, ↓dopsX_nil, ↓dopsR_nil, ↓vdn, vup, extr_20, extr_21, extr_30, extr_31, extr_32, List.map_cons, List.map_nil, cond_true, cond_false, aop, aThen, aBlock, argEnv, ev, sput, sputO, binK, binI, unK, builtinK, pickK, Nat.reduceBEq, Nat.reduceAdd, Int.reduceBEq, Int.reduceBNe, Int.reduceLT, aPost, resK, tup, tyf, loadT c6, loadT c5, callK, List.nil_append, List.append_nil, List.toList_toArray, List.cons_append]
        refine (rcommon_call p q).mono ?_
        rintro _ h5 ⟨rfl, rfl⟩
        simp (config := {maxSteps := 2000000}) only [s34, ↓aw_region, ↓aw_skip, ↓aw_seq, ↓aw_block, ↓aw_exit, ↓aw_ret, ↓sops_nil, ↓sops_go, ↓dops_nil, ↓dopsX_nil, ↓dopsR_nil, ↓vdn, vup, extr_20, extr_21, extr_30, extr_31, extr_32, List.map_cons, List.map_nil, cond_true, cond_false, aop, aThen, aBlock, argEnv, ev, sput, sputO, binK, binI, unK, builtinK, pickK, Nat.reduceBEq, Nat.reduceAdd, Int.reduceBEq, Int.reduceBNe, Int.reduceLT, aPost, resK, tup, tyf, gt_iff_lt, hok, add1 (show i < 9223372036854775807 by omega)]
        exact hQ4 _ _ _ ⟨(i + 1, h5), ⟨by simp only; omega, hE4.trans hE5⟩, by simp only; omega, by simp (config := {maxSteps := 2000000}) only [↓aw_region, ↓aw_skip, ↓aw_seq, ↓aw_block, ↓aw_exit, ↓aw_ret, ↓sops_nil, ↓sops_go, ↓dops_nil, ↓dopsX_nil, ↓dopsR_nil, ↓vdn, vup, extr_20, extr_21, extr_30, extr_31, extr_32, List.map_cons, List.map_nil, cond_true, cond_false, aop, aThen, aBlock, argEnv, ev, sput, sputO, binK, binI, unK, builtinK, pickK, Nat.reduceBEq, Nat.reduceAdd, Int.reduceBEq, Int.reduceBNe, Int.reduceLT, aPost, resK, tup, tyf], rfl⟩
      · obtain rfl : i = k := by omega
        simp (config := {maxSteps := 2000000}) only [s34, ↓aw_region, ↓aw_skip, ↓aw_seq, ↓aw_block, ↓aw_exit, ↓aw_ret, ↓sops_nil, ↓sops_go, ↓dops_nil, ↓dopsX_nil, ↓dopsR_nil, ↓vdn, vup, extr_20, extr_21, extr_30, extr_31, extr_32, List.map_cons, List.map_nil, cond_true, cond_false, aop, aThen, aBlock, argEnv, ev, sput, sputO, binK, binI, unK, builtinK, pickK, Nat.reduceBEq, Nat.reduceAdd, Int.reduceBEq, Int.reduceBNe, Int.reduceLT, aPost, resK, tup, tyf, l34_1, Int.lt_irrefl]
        refine hQ4 _ _ _ (hQ3 _ _ _ ?_)
        simp (config := {maxSteps := 2000000}) only [s34, ↓aw_region, ↓aw_skip, ↓aw_seq, ↓aw_block, ↓aw_exit, ↓aw_ret, ↓sops_nil, ↓sops_go, ↓dops_nil, ↓dopsX_nil, ↓dopsR_nil, ↓vdn, vup, extr_20, extr_21, extr_30, extr_31, extr_32, List.map_cons, List.map_nil, cond_true, cond_false, aop, aThen, aBlock, argEnv, ev, sput, sputO, binK, binI, unK, builtinK, pickK, Nat.reduceBEq, Nat.reduceAdd, Int.reduceBEq, Int.reduceBNe, Int.reduceLT, aPost, resK, tup, tyf, if_true]
        refine hN1 _ _ ?_
        simp (config := {maxSteps := 2000000}) only [s34, ↓aw_region, ↓aw_skip, ↓aw_seq, ↓aw_block, ↓aw_exit, ↓aw_ret, ↓sops_nil, ↓sops_go, ↓dops_nil, ↓dopsX_nil, ↓dopsR_nil, ↓vdn, vup, extr_20, extr_21, extr_30, extr_31, extr_32, List.map_cons, List.map_nil, cond_true, cond_false, aop, aThen, aBlock, argEnv, ev, sput, sputO, binK, binI, unK, builtinK, pickK, Nat.reduceBEq, Nat.reduceAdd, Int.reduceBEq, Int.reduceBNe, Int.reduceLT, aPost, resK, tup, tyf, add1 (show i < 9223372036854775807 by omega)]
        exact hQ2 _ _ _ ⟨(i + 1, h4), ⟨by simp only; omega, hEh.trans hE4⟩, by simp only; omega, by simp (config := {maxSteps := 2000000}) only [↓aw_region, ↓aw_skip, ↓aw_seq, ↓aw_block, ↓aw_exit, ↓aw_ret, ↓sops_nil, ↓sops_go, ↓dops_nil, ↓dopsX_nil, ↓dopsR_nil, ↓vdn, vup, extr_20, extr_21, extr_30, extr_31, extr_32, List.map_cons, List.map_nil, cond_true, cond_false, aop, aThen, aBlock, argEnv, ev, sput, sputO, binK, binI, unK, builtinK, pickK, Nat.reduceBEq, Nat.reduceAdd, Int.reduceBEq, Int.reduceBNe, Int.reduceLT, aPost, resK, tup, tyf], rfl⟩
    · obtain rfl : k = ls.length := by omega
      have he : (((ls.length : Nat) : Int) == ((ls.length : Nat) : Int)) = true := beq_self_eq_true _
      simp (config := {maxSteps := 2000000}) only [s34, ↓aw_region, ↓aw_skip, ↓aw_seq, ↓aw_block, ↓aw_exit, ↓aw_ret, ↓sops_nil, ↓sops_go, ↓dops_nil, ↓dopsX_nil, ↓dopsR_nil, ↓vdn, vup, extr_20, extr_21, extr_30, extr_31, extr_32, List.map_cons, List.map_nil, cond_true, cond_false, aop, aThen, aBlock, argEnv, ev, sput, sputO, binK, binI, unK, builtinK, pickK, Nat.reduceBEq, Nat.reduceAdd, Int.reduceBEq, Int.reduceBNe, Int.reduceLT, aPost, resK, tup, tyf, l34_2, Int.lt_irrefl]
      refine hQ2 _ _ _ (hQ _ _ _ ?_)
      simp (config := {maxSteps := 2000000}) only [s34, ↓aw_region, ↓aw_skip, ↓aw_seq, ↓aw_block, ↓aw_exit, ↓aw_ret, ↓sops_nil, ↓sops_go, ↓dops_nil, ↓dopsX_nil, ↓dopsR_nil, ↓vdn, vup, extr_20, extr_21, extr_30, extr_31, extr_32, List.map_cons, List.map_nil, cond_true, cond_false, aop, aThen, aBlock, argEnv, ev, sput, sputO, binK, binI, unK, builtinK, pickK, Nat.reduceBEq, Nat.reduceAdd, Int.reduceBEq, Int.reduceBNe, Int.reduceLT, aPost, resK, tup, tyf, if_true]
      refine hN _ _ ?_
      simp (config := {maxSteps := 2000000}) only [s34, ↓aw_region, ↓aw_skip, ↓aw_seq, ↓aw_block, ↓aw_exit, ↓aw_ret, ↓sops_nil, ↓sops_go, ↓dops_nil, ↓dopsX_nil, ↓dopsR_nil, ↓vdn, vup, extr_20, extr_21, extr_30, extr_31, extr_32, List.map_cons, List.map_nil, cond_true, cond_false, aop, aThen, aBlock, argEnv, ev, sput, sputO, binK, binI, unK, builtinK, pickK, Nat.reduceBEq, Nat.reduceAdd, Int.reduceBEq, Int.reduceBNe, Int.reduceLT, aPost, resK, tup, tyf, hlk.len, he]
      exact hEk.trans hE2
end Go.Proofs.Tryd.Am

namespace Go.Proofs.Tryd.Am
open Go.Am
set_option maxRecDepth 100000
set_option maxHeartbeats 1000000

/-- What may still be packed, and how many: with the first one, without it. -/
def frT (x : T3) (r : List T3) : List T3 := r.filter fun c => Pck.okT c x
theorem frT_G (x : T3) (r : List T3) : Pck.G Pck.okT (frT x r) (fun _ => true) = Pck.G Pck.okT r (fun c => true && Pck.okT x c) := by
  rw [frT, Pck.G_filter]
  exact Pck.G_congr _ fun c _ => by rw [Bool.and_true, Bool.true_and, Pck.okT_comm]
theorem frT_snoc (x : T3) (r : List T3) {k : Nat} (hk : k < r.length) : frT x (r.take (k + 1)) = frT x (r.take k) ++ (if Pck.okT (r.getD k Go.Am.t0) x = true then [r.getD k Go.Am.t0] else []) := by
  have e : r.take (k + 1) = r.take k ++ [r.getD k Go.Am.t0] := by
    rw [List.take_add_one, List.getD, List.getElem?_eq_getElem hk]; rfl
  rw [frT, e, List.filter_append]
  congr 1
  rw [List.filter_cons, List.filter_nil]
theorem litM {h : Heap} {x : T3} {K : Value → Heap → Prop} : buildSliceK prog h 36 1 [(0, tV x)] K = K (.slice (some ⟨h.length, 0, none⟩) 1 1) (h ++ [.ints [x.1, x.2.1, x.2.2] 40 false]) := litT el_36 zero_40 esz_40 K
theorem s71_callW [Tabs Tryd.prog] {args : List Value} {h : Heap} {Q : Value → Heap → Prop} (hsz : args.length ≤ 64) (hk : AWS Tryd.prog 64 s71 (aPost Tryd.prog [.tmp 6] Q) (argEnv 0 args) h) : ACall Tryd.prog 71 args h Q :=
  acall_w Tryd.func71 rfl (enters_of Tryd.func71 (by kernel_rfl) rfl) rfl rfl (by decide) s71_strip s71_ok hsz hk
theorem most_call [Tabs prog] : ∀ (n : Nat) (h : Heap) (lv tv : Value) (left taken : List T3) (best : Nat), left.length ≤ n → taken.length + left.length ≤ 1024 → RdT h lv left → OwnT 40 h tv taken →
    APure prog 71 [lv, tv, vint best] h (vint (max best (taken.length + Pck.G Pck.okT left (fun _ => true)) : Nat)) := by
  intro n
  induction n with
  | zero =>
    intro h lv tv left taken best hn hb hl ho
    obtain rfl : left = [] := List.length_eq_zero_iff.1 (by omega)
    refine s71_call (by simp) ?_
    by_cases hmx : ((best : Nat) : Int) < ((taken.length : Nat) : Int)
    · have e : max best taken.length = taken.length := by omega
      simp (config := {maxSteps := 2000000}) only [s71, ↓aw_region, ↓aw_skip, ↓aw_seq, ↓aw_block, ↓aw_exit, ↓aw_ret, ↓sops_nil, ↓sops_go, ↓dops_nil, ↓dopsX_nil, ↓dopsR_nil, ↓vdn, vup, extr_20, extr_21, extr_30, extr_31, extr_32, List.map_cons, List.map_nil, cond_true, cond_false, aop, aThen, aBlock, argEnv, ev, sput, sputO, binK, binI, unK, builtinK, pickK, Nat.reduceBEq, Nat.reduceAdd, Int.reduceBEq, Int.reduceBNe, Int.reduceLT, aPost, resK, tup, tyf, mmK, if_true, gt_iff_lt, hmx, ho.trip.len, hl.len, List.length_nil, Pck.G, Nat.add_zero, e, Int.natCast_zero]
    · have e : max best taken.length = best := by omega
      simp (config := {maxSteps := 2000000}) only [s71, ↓aw_region, ↓aw_skip, ↓aw_seq, ↓aw_block, ↓aw_exit, ↓aw_ret, ↓sops_nil, ↓sops_go, ↓dops_nil, ↓dopsX_nil, ↓dopsR_nil, ↓vdn, vup, extr_20, extr_21, extr_30, extr_31, extr_32, List.map_cons, List.map_nil, cond_true, cond_false, aop, aThen, aBlock, argEnv, ev, sput, sputO, binK, binI, unK, builtinK, pickK, Nat.reduceBEq, Nat.reduceAdd, Int.reduceBEq, Int.reduceBNe, Int.reduceLT, aPost, resK, tup, tyf, mmK, if_true, if_false, gt_iff_lt, hmx, ho.trip.len, hl.len, List.length_nil, Pck.G, Nat.add_zero, e, Int.natCast_zero]
  | succ n ih =>
    intro h lv tv left taken best hn hb hl ho
    refine ACall.forget (Low.int _ _) ?_
    refine s71_callW (by simp) ?_
    simp only [s71]
    refine aws_cut fun N hN => ?_
    simp (config := {maxSteps := 2000000}) only [s71, ↓aw_region, ↓aw_skip, ↓aw_seq, ↓aw_block, ↓aw_exit, ↓aw_ret, ↓sops_nil, ↓sops_go, ↓dops_nil, ↓dopsX_nil, ↓dopsR_nil, ↓vdn, vup, extr_20, extr_21, extr_30, extr_31, extr_32, List.map_cons, List.map_nil, cond_true, cond_false, aop, aThen, aBlock, argEnv, ev, sput, sputO, binK, binI, unK, builtinK, pickK, Nat.reduceBEq, Nat.reduceAdd, Int.reduceBEq, Int.reduceBNe, Int.reduceLT, aPost, resK, tup, tyf]
    refine hN [(0, lv), (1, tv), (2, vint best), (6, .int .i64 0)] _ _ ?_ (by simp (config := {maxSteps := 2000000}) only [↓aw_region, ↓aw_skip, ↓aw_seq, ↓aw_block, ↓aw_exit, ↓aw_ret, ↓sops_nil, ↓sops_go, ↓dops_nil, ↓dopsX_nil, ↓dopsR_nil, ↓vdn, vup, extr_20, extr_21, extr_30, extr_31, extr_32, List.map_cons, List.map_nil, cond_true, cond_false, aop, aThen, aBlock, argEnv, ev, sput, sputO, binK, binI, unK, builtinK, pickK, Nat.reduceBEq, Nat.reduceAdd, Int.reduceBEq, Int.reduceBNe, Int.reduceLT, aPost, resK, tup, tyf])
    clear hN N
    obtain ⟨B, hB⟩ : ∃ B, B = max best taken.length := ⟨_, rfl⟩
    refine aws_cut fun N hN => ?_
    have go : ∀ e, ELe e [(0, lv), (1, tv), (2, vint B), (6, .int .i64 0)] → N e h := by
      intro e he
      refine hN [(0, lv), (1, tv), (2, vint B), (6, .int .i64 0)] _ _ ?_ he
      clear hN N he e
      refine aws_cut fun N hN => ?_
      have hadd : addV .i64 ((taken.length : Nat) : Int) ((left.length : Nat) : Int) = ((taken.length + left.length : Nat) : Int) := by rw [addV_id (by omega) (by omega)]; omega
      cases left with
      | nil =>
        have e0 : (([] : List T3).length : Nat) = 0 := rfl
        have e1 : (((0 : Nat) : Int) == 0) = true := rfl
        simp (config := {maxSteps := 2000000}) only [s71, ↓aw_region, ↓aw_skip, ↓aw_seq, ↓aw_block, ↓aw_exit, ↓aw_ret, ↓sops_nil, ↓sops_go, ↓dops_nil, ↓dopsX_nil, ↓dopsR_nil, ↓vdn, vup, extr_20, extr_21, extr_30, extr_31, extr_32, List.map_cons, List.map_nil, cond_true, cond_false, aop, aThen, aBlock, argEnv, ev, sput, sputO, binK, binI, unK, builtinK, pickK, Nat.reduceBEq, Nat.reduceAdd, Int.reduceBEq, Int.reduceBNe, Int.reduceLT, aPost, resK, tup, tyf, hl.len, e0, e1]
        rw [Pck.G, Nat.add_zero, ← hB]
        exact ⟨rfl, Ext.refl _ _⟩
      | cons x r =>
        have e1 : (((x :: r).length : Int) == 0) = false := by rw [beq_eq_false_iff_ne]; simp only [List.length_cons]; omega
        have hG := Pck.G_le (ok := Pck.okT) (x :: r) (fun _ => true)
        by_cases hc : taken.length + (x :: r).length ≤ B
        · have hc' : ((taken.length + (x :: r).length : Nat) : Int) ≤ ((B : Nat) : Int) := by omega
          have e2 : max best (taken.length + Pck.G Pck.okT (x :: r) fun _ => true) = B := by omega
          simp (config := {maxSteps := 2000000}) only [s71, ↓aw_region, ↓aw_skip, ↓aw_seq, ↓aw_block, ↓aw_exit, ↓aw_ret, ↓sops_nil, ↓sops_go, ↓dops_nil, ↓dopsX_nil, ↓dopsR_nil, ↓vdn, vup, extr_20, extr_21, extr_30, extr_31, extr_32, List.map_cons, List.map_nil, cond_true, cond_false, aop, aThen, aBlock, argEnv, ev, sput, sputO, binK, binI, unK, builtinK, pickK, Nat.reduceBEq, Nat.reduceAdd, Int.reduceBEq, Int.reduceBNe, Int.reduceLT, aPost, resK, tup, tyf, hl.len, ho.trip.len, e1, hadd, hc']
          rw [e2]
          exact ⟨rfl, Ext.refl _ _⟩
        have hc' : ¬ ((taken.length + (x :: r).length : Nat) : Int) ≤ ((B : Nat) : Int) := by omega
        simp (config := {maxSteps := 2000000}) only [s71, ↓aw_region, ↓aw_skip, ↓aw_seq, ↓aw_block, ↓aw_exit, ↓aw_ret, ↓sops_nil, ↓sops_go, ↓dops_nil, ↓dopsX_nil, ↓dopsR_nil, ↓vdn, vup, extr_20, extr_21, extr_30, extr_31, extr_32, List.map_cons, List.map_nil, cond_true, cond_false, aop, aThen, aBlock, argEnv, ev, sput, sputO, binK, binI, unK, builtinK, pickK, Nat.reduceBEq, Nat.reduceAdd, Int.reduceBEq, Int.reduceBNe, Int.reduceLT, aPost, resK, tup, tyf, hl.len, ho.trip.len, e1, hadd, hc']
        refine hN [(0, lv), (1, tv), (2, vint B), (6, .int .i64 0)] _ _ ?_ (by simp (config := {maxSteps := 2000000}) only [↓aw_region, ↓aw_skip, ↓aw_seq, ↓aw_block, ↓aw_exit, ↓aw_ret, ↓sops_nil, ↓sops_go, ↓dops_nil, ↓dopsX_nil, ↓dopsR_nil, ↓vdn, vup, extr_20, extr_21, extr_30, extr_31, extr_32, List.map_cons, List.map_nil, cond_true, cond_false, aop, aThen, aBlock, argEnv, ev, sput, sputO, binK, binI, unK, builtinK, pickK, Nat.reduceBEq, Nat.reduceAdd, Int.reduceBEq, Int.reduceBNe, Int.reduceLT, aPost, resK, tup, tyf])
        clear hN N hadd e1 hc'
        have hlt := hl.trip (List.cons_ne_nil _ _)
        have hlc : (x :: r).length = r.length + 1 := List.length_cons
        refine aws_cut fun N hN => ?_
        simp (config := {maxSteps := 2000000}) only [s71, ↓aw_region, ↓aw_skip, ↓aw_seq, ↓aw_block, ↓aw_exit, ↓aw_ret, ↓sops_nil, ↓sops_go, ↓dops_nil, ↓dopsX_nil, ↓dopsR_nil, ↓vdn, vup, extr_20, extr_21, extr_30, extr_31, extr_32, List.map_cons, List.map_nil, cond_true, cond_false, aop, aThen, aBlock, argEnv, ev, sput, sputO, binK, binI, unK, builtinK, pickK, Nat.reduceBEq, Nat.reduceAdd, Int.reduceBEq, Int.reduceBNe, Int.reduceLT, aPost, resK, tup, tyf]
        refine hN [(0, lv), (1, tv), (2, vint B), (6, .int .i64 0), (7, .slice none 0 0)] _ _ ?_ (by simp (config := {maxSteps := 2000000}) only [↓aw_region, ↓aw_skip, ↓aw_seq, ↓aw_block, ↓aw_exit, ↓aw_ret, ↓sops_nil, ↓sops_go, ↓dops_nil, ↓dopsX_nil, ↓dopsR_nil, ↓vdn, vup, extr_20, extr_21, extr_30, extr_31, extr_32, List.map_cons, List.map_nil, cond_true, cond_false, aop, aThen, aBlock, argEnv, ev, sput, sputO, binK, binI, unK, builtinK, pickK, Nat.reduceBEq, Nat.reduceAdd, Int.reduceBEq, Int.reduceBNe, Int.reduceLT, aPost, resK, tup, tyf])
        clear hN N
        refine aws_cut fun N hN => ?_
        simp (config := {maxSteps := 2000000}) only [s71, ↓aw_region, ↓aw_skip, ↓aw_seq, ↓aw_block, ↓aw_exit, ↓aw_ret, ↓sops_nil, ↓sops_go, ↓dops_nil, ↓dopsX_nil, ↓dopsR_nil, ↓vdn, vup, extr_20, extr_21, extr_30, extr_31, extr_32, List.map_cons, List.map_nil, cond_true, cond_false, aop, aThen, aBlock, argEnv, ev, sput, sputO, binK, binI, unK, builtinK, pickK, Nat.reduceBEq, Nat.reduceAdd, Int.reduceBEq, Int.reduceBNe, Int.reduceLT, aPost, resK, tup, tyf, Option.map_none, Option.map_some]
        refine RdT.tail hlt el_36 esz_40 fun rv hr => ?_
        simp (config := {maxSteps := 2000000}) only [s71, ↓aw_region, ↓aw_skip, ↓aw_seq, ↓aw_block, ↓aw_exit, ↓aw_ret, ↓sops_nil, ↓sops_go, ↓dops_nil, ↓dopsX_nil, ↓dopsR_nil, ↓vdn, vup, extr_20, extr_21, extr_30, extr_31, extr_32, List.map_cons, List.map_nil, cond_true, cond_false, aop, aThen, aBlock, argEnv, ev, sput, sputO, binK, binI, unK, builtinK, pickK, Nat.reduceBEq, Nat.reduceAdd, Int.reduceBEq, Int.reduceBNe, Int.reduceLT, aPost, resK, tup, tyf, hr.len, ↓aw_loop_eq]
        have z0 : ∀ {K : Value → Prop} {g : Heap}, Ext (fun _ => False) h g → idxAddrK prog 36 lv (.int .i64 0) K = K (elemP lv 3 0) := fun {K g} hE => by
          have := (hlt.ext hE).idx (k := .i64) el_36 esz_40 (i := 0) (by simp) K
          rw [Int.natCast_zero] at this; exact this
        have z1 : ∀ {K : Value → Prop} {g : Heap}, Ext (fun _ => False) h g → loadK prog g 40 (elemP lv 3 0) K = K (tV x) := fun {K g} hE => (hlt.ext hE).load shp_40 (i := 0) (by simp) K
        refine aws_hide fun Q hQ => ?_
        refine aw_loop (γ := Nat × Value × Heap) (fun s => s.1 ≤ r.length ∧ RS3 h s.2.2 s.2.1 (frT x (r.take s.1)))
          (fun s => ([(0, lv), (1, tv), (2, vint B), (6, .int .i64 0), (7, s.2.1), (28, rv), (29, vint r.length), (30, vint s.1)], s.2.2)) (fun s => r.length - s.1) (0, .slice none 0 0, h) ⟨Nat.zero_le _, .inl ⟨rfl, rfl⟩, Ext.refl _ _, fun _ h => (by cases h)⟩ (by simp (config := {maxSteps := 2000000}) only [↓aw_region, ↓aw_skip, ↓aw_seq, ↓aw_block, ↓aw_exit, ↓aw_ret, ↓sops_nil, ↓sops_go, ↓dops_nil, ↓dopsX_nil, ↓dopsR_nil, ↓vdn, vup, extr_20, extr_21, extr_30, extr_31, extr_32, List.map_cons, List.map_nil, cond_true, cond_false, aop, aThen, aBlock, argEnv, ev, sput, sputO, binK, binI, unK, builtinK, pickK, Nat.reduceBEq, Nat.reduceAdd, Int.reduceBEq, Int.reduceBNe, Int.reduceLT, aPost, resK, tup, tyf, Int.natCast_zero]) rfl ?_
        rintro ⟨k, fv, h1⟩ ⟨hk, hs⟩
        simp only at hk hs
        refine aw_hide fun Q2 hQ2 => ?_
        by_cases hin : (k : Int) < r.length
        · have hk' : k < r.length := by omega
          have hrt := (hr.trip (by rintro rfl; simp at hk')).ext hs.2.1
          obtain ⟨p, hpe⟩ : ∃ p, p = r.getD k Go.Am.t0 := ⟨_, rfl⟩
          have hld : ∀ {K : Value → Prop}, loadK prog h1 40 (elemP rv 3 k) K = K (tV p) := fun {K} => by rw [hpe]; exact hrt.load shp_40 hk' K
          obtain ⟨c1, hE2, hst⟩ := tBox h1 p
          simp (config := {maxSteps := 2000000}) only [s71, ↓aw_region, ↓aw_skip, ↓aw_seq, ↓aw_block, ↓aw_exit, ↓aw_ret, ↓sops_nil, ↓sops_go, ↓dops_nil, ↓dopsX_nil, ↓dopsR_nil, ↓vdn, vup, extr_20, extr_21, extr_30, extr_31, extr_32, List.map_cons, List.map_nil, cond_true, cond_false, aop, aThen, aBlock, argEnv, ev, sput, sputO, binK, binI, unK, builtinK, pickK, Nat.reduceBEq, Nat.reduceAdd, Int.reduceBEq, Int.reduceBNe, Int.reduceLT, aPost, resK, tup, tyf, l71_0, hin, hrt.idx el_36 esz_40 hk', hld, allocK, newPtr, zero_40, hst]
          have hs2 : RS3 h ((h1 ++ [Blk.cells [.int .i64 0, .int .i64 0, .int .i64 0] 40 false]).set h1.length (.cells [vint p.1, vint p.2.1, vint p.2.2] 40 false)) fv (frT x (r.take k)) := ⟨hs.1.ext hE2, hs.2.1.trans hE2, hs.2.2⟩
          generalize (h1 ++ [Blk.cells [.int .i64 0, .int .i64 0, .int .i64 0] 40 false]).set h1.length (.cells [vint p.1, vint p.2.1, vint p.2.2] 40 false) = h2 at c1 hE2 hs2 ⊢
          generalize h1.length = bp at c1 ⊢
          have hsn := frT_snoc x r hk'
          rw [← hpe] at hsn
          have hdec : decide (((Pck.cm p x : Nat) : Int) < 2) = Pck.okT p x := by rw [Pck.okT]; exact decide_eq_decide.2 (by omega)
          refine aw_drawX [(4, 1)] (by kernel_rfl) (by kernel_rfl) (by kernel_rfl) (by kernel_rfl) ?_
          simp (config := {maxSteps := 2000000}) only [s71, ↓aw_region, ↓aw_skip, ↓aw_seq, ↓aw_block, ↓aw_exit, ↓aw_ret, ↓sops_nil, ↓sops_go, ↓dops_nil, ↓dopsX_nil, ↓dopsR_nil, ↓vdn, vup, extr_20, extr_21, extr_30, extr_31, extr_32, List.map_cons, List.map_nil, cond_true, cond_false, aop, aThen, aBlock, argEnv, ev, sput, sputO, binK, binI, unK, builtinK, pickK, Nat.reduceBEq, Nat.reduceAdd, Int.reduceBEq, Int.reduceBNe, Int.reduceLT, aPost, resK, tup, tyf, loadT c1, z0 hs2.2.1, z1 hs2.2.1, callK, List.nil_append, List.append_nil, List.toList_toArray, List.cons_append]
          refine ⟨_, _, rcommon_call p x, rfl, ?_⟩
          cases hop : Pck.okT p x with
          | false =>
            rw [hop, if_neg (by decide), List.append_nil] at hsn
            simp (config := {maxSteps := 2000000}) only [s71, ↓aw_region, ↓aw_skip, ↓aw_seq, ↓aw_block, ↓aw_exit, ↓aw_ret, ↓sops_nil, ↓sops_go, ↓dops_nil, ↓dopsX_nil, ↓dopsR_nil, ↓vdn, vup, extr_20, extr_21, extr_30, extr_31, extr_32, List.map_cons, List.map_nil, cond_true, cond_false, aop, aThen, aBlock, argEnv, ev, sput, sputO, binK, binI, unK, builtinK, pickK, Nat.reduceBEq, Nat.reduceAdd, Int.reduceBEq, Int.reduceBNe, Int.reduceLT, aPost, resK, tup, tyf, hdec, hop, add1 (show k < 9223372036854775807 by omega)]
            exact hQ2 _ _ _ ⟨(k + 1, fv, h2), ⟨by simp only; omega, by simp only; rw [hsn]; exact hs2⟩, by simp only; omega, by simp (config := {maxSteps := 2000000}) only [↓aw_region, ↓aw_skip, ↓aw_seq, ↓aw_block, ↓aw_exit, ↓aw_ret, ↓sops_nil, ↓sops_go, ↓dops_nil, ↓dopsX_nil, ↓dopsR_nil, ↓vdn, vup, extr_20, extr_21, extr_30, extr_31, extr_32, List.map_cons, List.map_nil, cond_true, cond_false, aop, aThen, aBlock, argEnv, ev, sput, sputO, binK, binI, unK, builtinK, pickK, Nat.reduceBEq, Nat.reduceAdd, Int.reduceBEq, Int.reduceBNe, Int.reduceLT, aPost, resK, tup, tyf], rfl⟩
          | true =>
            rw [hop, if_pos rfl] at hsn
            have hfl : (frT x (r.take k)).length ≤ (r.take k).length := List.length_filter_le _ _
            have hfl2 : (r.take k).length = k := by rw [List.length_take]; omega
            simp (config := {maxSteps := 2000000}) only [s71, ↓aw_region, ↓aw_skip, ↓aw_seq, ↓aw_block, ↓aw_exit, ↓aw_ret, ↓sops_nil, ↓sops_go, ↓dops_nil, ↓dopsX_nil, ↓dopsR_nil, ↓vdn, vup, extr_20, extr_21, extr_30, extr_31, extr_32, List.map_cons, List.map_nil, cond_true, cond_false, aop, aThen, aBlock, argEnv, ev, sput, sputO, binK, binI, unK, builtinK, pickK, Nat.reduceBEq, Nat.reduceAdd, Int.reduceBEq, Int.reduceBNe, Int.reduceLT, aPost, resK, tup, tyf, hdec, hop, loadT c1, litM]
            refine hs2.push (by omega) fun v' h' s' => ?_
            simp (config := {maxSteps := 2000000}) only [s71, ↓aw_region, ↓aw_skip, ↓aw_seq, ↓aw_block, ↓aw_exit, ↓aw_ret, ↓sops_nil, ↓sops_go, ↓dops_nil, ↓dopsX_nil, ↓dopsR_nil, ↓vdn, vup, extr_20, extr_21, extr_30, extr_31, extr_32, List.map_cons, List.map_nil, cond_true, cond_false, aop, aThen, aBlock, argEnv, ev, sput, sputO, binK, binI, unK, builtinK, pickK, Nat.reduceBEq, Nat.reduceAdd, Int.reduceBEq, Int.reduceBNe, Int.reduceLT, aPost, resK, tup, tyf, add1 (show k < 9223372036854775807 by omega)]
            exact hQ2 _ _ _ ⟨(k + 1, v', h'), ⟨by simp only; omega, by simp only; rw [hsn]; exact s'⟩, by simp only; omega, by simp (config := {maxSteps := 2000000}) only [↓aw_region, ↓aw_skip, ↓aw_seq, ↓aw_block, ↓aw_exit, ↓aw_ret, ↓sops_nil, ↓sops_go, ↓dops_nil, ↓dopsX_nil, ↓dopsR_nil, ↓vdn, vup, extr_20, extr_21, extr_30, extr_31, extr_32, List.map_cons, List.map_nil, cond_true, cond_false, aop, aThen, aBlock, argEnv, ev, sput, sputO, binK, binI, unK, builtinK, pickK, Nat.reduceBEq, Nat.reduceAdd, Int.reduceBEq, Int.reduceBNe, Int.reduceLT, aPost, resK, tup, tyf], rfl⟩
        · obtain rfl : k = r.length := by omega
          simp (config := {maxSteps := 2000000}) only [s71, ↓aw_region, ↓aw_skip, ↓aw_seq, ↓aw_block, ↓aw_exit, ↓aw_ret, ↓sops_nil, ↓sops_go, ↓dops_nil, ↓dopsX_nil, ↓dopsR_nil, ↓vdn, vup, extr_20, extr_21, extr_30, extr_31, extr_32, List.map_cons, List.map_nil, cond_true, cond_false, aop, aThen, aBlock, argEnv, ev, sput, sputO, binK, binI, unK, builtinK, pickK, Nat.reduceBEq, Nat.reduceAdd, Int.reduceBEq, Int.reduceBNe, Int.reduceLT, aPost, resK, tup, tyf, l71_0, Int.lt_irrefl]
          refine hQ2 _ _ _ (hQ _ _ _ ?_)
          simp (config := {maxSteps := 2000000}) only [s71, ↓aw_region, ↓aw_skip, ↓aw_seq, ↓aw_block, ↓aw_exit, ↓aw_ret, ↓sops_nil, ↓sops_go, ↓dops_nil, ↓dopsX_nil, ↓dopsR_nil, ↓vdn, vup, extr_20, extr_21, extr_30, extr_31, extr_32, List.map_cons, List.map_nil, cond_true, cond_false, aop, aThen, aBlock, argEnv, ev, sput, sputO, binK, binI, unK, builtinK, pickK, Nat.reduceBEq, Nat.reduceAdd, Int.reduceBEq, Int.reduceBNe, Int.reduceLT, aPost, resK, tup, tyf, if_true]
          refine hN [(0, lv), (1, tv), (2, vint B), (6, .int .i64 0), (7, fv)] _ _ ?_ (by simp (config := {maxSteps := 2000000}) only [↓aw_region, ↓aw_skip, ↓aw_seq, ↓aw_block, ↓aw_exit, ↓aw_ret, ↓sops_nil, ↓sops_go, ↓dops_nil, ↓dopsX_nil, ↓dopsR_nil, ↓vdn, vup, extr_20, extr_21, extr_30, extr_31, extr_32, List.map_cons, List.map_nil, cond_true, cond_false, aop, aThen, aBlock, argEnv, ev, sput, sputO, binK, binI, unK, builtinK, pickK, Nat.reduceBEq, Nat.reduceAdd, Int.reduceBEq, Int.reduceBNe, Int.reduceLT, aPost, resK, tup, tyf])
          clear hN N hQ2 Q2 hQ Q hr
          rw [List.take_length] at hs
          obtain ⟨hof, hEf, _⟩ := hs
          have hfl : (frT x r).length ≤ r.length := List.length_filter_le _ _
          have hlen1 : (taken ++ [x]).length = taken.length + 1 := by rw [List.length_append, List.length_singleton]
          have ho1 := ho.ext hEf
          refine aws_cut fun N hN => ?_
          refine aw_drawX [(13, 1)] (by kernel_rfl) (by kernel_rfl) (by kernel_rfl) (by kernel_rfl) ?_
          simp (config := {maxSteps := 2000000}) only [s71, ↓aw_region, ↓aw_skip, ↓aw_seq, ↓aw_block, ↓aw_exit, ↓aw_ret, ↓sops_nil, ↓sops_go, ↓dops_nil, ↓dopsX_nil, ↓dopsR_nil, ↓vdn, vup, extr_20, extr_21, extr_30, extr_31, extr_32, List.map_cons, List.map_nil, cond_true, cond_false, aop, aThen, aBlock, argEnv, ev, sput, sputO, binK, binI, unK, builtinK, pickK, Nat.reduceBEq, Nat.reduceAdd, Int.reduceBEq, Int.reduceBNe, Int.reduceLT, aPost, resK, tup, tyf, ho1.trip.len, Option.map_none, Option.map_some]
          refine ho1.clip el_36 esz_40 fun tv1 htv1 => ?_
          simp (config := {maxSteps := 2000000}) only [s71, ↓aw_region, ↓aw_skip, ↓aw_seq, ↓aw_block, ↓aw_exit, ↓aw_ret, ↓sops_nil, ↓sops_go, ↓dops_nil, ↓dopsX_nil, ↓dopsR_nil, ↓vdn, vup, extr_20, extr_21, extr_30, extr_31, extr_32, List.map_cons, List.map_nil, cond_true, cond_false, aop, aThen, aBlock, argEnv, ev, sput, sputO, binK, binI, unK, builtinK, pickK, Nat.reduceBEq, Nat.reduceAdd, Int.reduceBEq, Int.reduceBNe, Int.reduceLT, aPost, resK, tup, tyf, z0 hEf, z1 hEf, litM]
          refine clipApp (ts := taken) (htv1.imp id fun ⟨b, ys, e, hb⟩ => ⟨b, ys, e, get_old hb _⟩) app_36_36 (by omega) (get_new _ _) ?_
          have hEn : Ext (fun _ => False) h1 (h1 ++ [Blk.ints [x.1, x.2.1, x.2.2] 40 false] ++ [Blk.ints (flatT (taken ++ [x])) 40 false]) := (Ext.app _ _ _).trans (Ext.app _ _ _)
          have hnew := OwnT.new (e := 40) (h1 ++ [Blk.ints [x.1, x.2.1, x.2.2] 40 false]) (taken ++ [x]) (by simp)
          rw [hlen1] at hnew
          have hEn2 := hEf.trans hEn
          have hof2 := hof.ext hEn
          change OwnT 40 (h1 ++ [Blk.ints [x.1, x.2.1, x.2.2] 40 false] ++ [Blk.ints (flatT (taken ++ [x])) 40 false]) _ _ at hnew
          generalize h1 ++ [Blk.ints [x.1, x.2.1, x.2.2] 40 false] ++ [Blk.ints (flatT (taken ++ [x])) 40 false] = h3 at hEn hnew hEn2 hof2 ⊢
          generalize (h1 ++ [Blk.ints [x.1, x.2.1, x.2.2] 40 false]).length = bn at hnew ⊢
          simp (config := {maxSteps := 2000000}) only [s71, ↓aw_region, ↓aw_skip, ↓aw_seq, ↓aw_block, ↓aw_exit, ↓aw_ret, ↓sops_nil, ↓sops_go, ↓dops_nil, ↓dopsX_nil, ↓dopsR_nil, ↓vdn, vup, extr_20, extr_21, extr_30, extr_31, extr_32, List.map_cons, List.map_nil, cond_true, cond_false, aop, aThen, aBlock, argEnv, ev, sput, sputO, binK, binI, unK, builtinK, pickK, Nat.reduceBEq, Nat.reduceAdd, Int.reduceBEq, Int.reduceBNe, Int.reduceLT, aPost, resK, tup, tyf, callK, List.nil_append, List.append_nil, List.toList_toArray, List.cons_append]
          refine ⟨_, _, ih h3 fv _ (frT x r) (taken ++ [x]) B (by omega) (by omega) (.inl hof2.trip) hnew, rfl, ?_⟩
          rw [hlen1, frT_G]
          obtain ⟨B2, hB2⟩ : ∃ B2, B2 = max B (taken.length + 1 + Pck.G Pck.okT r fun c => true && Pck.okT x c) := ⟨_, rfl⟩
          rw [← hB2]
          refine hN [(0, lv), (1, tv), (2, vint B2), (6, .int .i64 0)] _ _ ?_ (by simp (config := {maxSteps := 2000000}) only [↓aw_region, ↓aw_skip, ↓aw_seq, ↓aw_block, ↓aw_exit, ↓aw_ret, ↓sops_nil, ↓sops_go, ↓dops_nil, ↓dopsX_nil, ↓dopsR_nil, ↓vdn, vup, extr_20, extr_21, extr_30, extr_31, extr_32, List.map_cons, List.map_nil, cond_true, cond_false, aop, aThen, aBlock, argEnv, ev, sput, sputO, binK, binI, unK, builtinK, pickK, Nat.reduceBEq, Nat.reduceAdd, Int.reduceBEq, Int.reduceBNe, Int.reduceLT, aPost, resK, tup, tyf])
          clear hN N
          refine aw_aws ?_
          simp (config := {maxSteps := 2000000}) only [s71, ↓aw_region, ↓aw_skip, ↓aw_seq, ↓aw_block, ↓aw_exit, ↓aw_ret, ↓sops_nil, ↓sops_go, ↓dops_nil, ↓dopsX_nil, ↓dopsR_nil, ↓vdn, vup, extr_20, extr_21, extr_30, extr_31, extr_32, List.map_cons, List.map_nil, cond_true, cond_false, aop, aThen, aBlock, argEnv, ev, sput, sputO, binK, binI, unK, builtinK, pickK, Nat.reduceBEq, Nat.reduceAdd, Int.reduceBEq, Int.reduceBNe, Int.reduceLT, aPost, resK, tup, tyf, Option.map_none, Option.map_some]
          refine RdT.tail (hlt.ext hEn2) el_36 esz_40 fun rv2 hr2 => ?_
          simp (config := {maxSteps := 2000000}) only [s71, ↓aw_region, ↓aw_skip, ↓aw_seq, ↓aw_block, ↓aw_exit, ↓aw_ret, ↓sops_nil, ↓sops_go, ↓dops_nil, ↓dopsX_nil, ↓dopsR_nil, ↓vdn, vup, extr_20, extr_21, extr_30, extr_31, extr_32, List.map_cons, List.map_nil, cond_true, cond_false, aop, aThen, aBlock, argEnv, ev, sput, sputO, binK, binI, unK, builtinK, pickK, Nat.reduceBEq, Nat.reduceAdd, Int.reduceBEq, Int.reduceBNe, Int.reduceLT, aPost, resK, tup, tyf, callK, List.nil_append, List.append_nil, List.toList_toArray, List.cons_append]
          refine (ih h3 rv2 tv r taken B2 (by omega) (by omega) hr2 (ho.ext hEn2)).mono ?_
          rintro _ h9 ⟨rfl, rfl⟩
          refine ⟨?_, hEn2⟩
          have hgx : Pck.G Pck.okT (x :: r) (fun _ => true) = max (Pck.G Pck.okT r fun _ => true) (1 + Pck.G Pck.okT r fun c => true && Pck.okT x c) := by rw [Pck.G, if_pos rfl]
          have : max best (taken.length + Pck.G Pck.okT (x :: r) fun _ => true) = max B2 (taken.length + Pck.G Pck.okT r fun _ => true) := by rw [hgx]; omega
          rw [this]
    by_cases hmx : ((best : Nat) : Int) < ((taken.length : Nat) : Int)
    · have e : B = taken.length := by omega
      simp (config := {maxSteps := 2000000}) only [s71, ↓aw_region, ↓aw_skip, ↓aw_seq, ↓aw_block, ↓aw_exit, ↓aw_ret, ↓sops_nil, ↓sops_go, ↓dops_nil, ↓dopsX_nil, ↓dopsR_nil, ↓vdn, vup, extr_20, extr_21, extr_30, extr_31, extr_32, List.map_cons, List.map_nil, cond_true, cond_false, aop, aThen, aBlock, argEnv, ev, sput, sputO, binK, binI, unK, builtinK, pickK, Nat.reduceBEq, Nat.reduceAdd, Int.reduceBEq, Int.reduceBNe, Int.reduceLT, aPost, resK, tup, tyf, mmK, if_true, gt_iff_lt, hmx, ho.trip.len]
      rw [← e]; exact go _ (by simp (config := {maxSteps := 2000000}) only [↓aw_region, ↓aw_skip, ↓aw_seq, ↓aw_block, ↓aw_exit, ↓aw_ret, ↓sops_nil, ↓sops_go, ↓dops_nil, ↓dopsX_nil, ↓dopsR_nil, ↓vdn, vup, extr_20, extr_21, extr_30, extr_31, extr_32, List.map_cons, List.map_nil, cond_true, cond_false, aop, aThen, aBlock, argEnv, ev, sput, sputO, binK, binI, unK, builtinK, pickK, Nat.reduceBEq, Nat.reduceAdd, Int.reduceBEq, Int.reduceBNe, Int.reduceLT, aPost, resK, tup, tyf])
    · have e : B = best := by omega
      simp (config := {maxSteps := 2000000}) only [s71, ↓aw_region, ↓aw_skip, ↓aw_seq, ↓aw_block, ↓aw_exit, ↓aw_ret, ↓sops_nil, ↓sops_go, ↓dops_nil, ↓dopsX_nil, ↓dopsR_nil, ↓vdn, vup, extr_20, extr_21, extr_30, extr_31, extr_32, List.map_cons, List.map_nil, cond_true, cond_false, aop, aThen, aBlock, argEnv, ev, sput, sputO, binK, binI, unK, builtinK, pickK, Nat.reduceBEq, Nat.reduceAdd, Int.reduceBEq, Int.reduceBNe, Int.reduceLT, aPost, resK, tup, tyf, mmK, if_true, if_false, gt_iff_lt, hmx, ho.trip.len]
      rw [← e]; exact go _ (by simp (config := {maxSteps := 2000000}) only [↓aw_region, ↓aw_skip, ↓aw_seq, ↓aw_block, ↓aw_exit, ↓aw_ret, ↓sops_nil, ↓sops_go, ↓dops_nil, ↓dopsX_nil, ↓dopsR_nil, ↓vdn, vup, extr_20, extr_21, extr_30, extr_31, extr_32, List.map_cons, List.map_nil, cond_true, cond_false, aop, aThen, aBlock, argEnv, ev, sput, sputO, binK, binI, unK, builtinK, pickK, Nat.reduceBEq, Nat.reduceAdd, Int.reduceBEq, Int.reduceBNe, Int.reduceLT, aPost, resK, tup, tyf])
theorem rmost_call [Tabs prog] {h : Heap} {v : Value} {xs : List Int} (hv : IntSl h v xs) (ht : trn xs = true) : APure prog 35 [v] h (vint (Pck.G Pck.okT (cA xs xs.length) (fun _ => true) : Nat)) := by
  have hcl := cA_le ht (Nat.le_refl xs.length)
  refine ACall.forget (Low.int _ _) ?_
  refine s35_call (by simp) ?_
  simp (config := {maxSteps := 2000000}) only [s35, ↓aw_region, ↓aw_skip, ↓aw_seq, ↓aw_block, ↓aw_exit, ↓aw_ret, ↓sops_nil, ↓sops_go, ↓dops_nil, ↓dopsX_nil, ↓dopsR_nil, ↓vdn, vup, extr_20, extr_21, extr_30, extr_31, extr_32, List.map_cons, List.map_nil, cond_true, cond_false, aop, aThen, aBlock, argEnv, ev, sput, sputO, binK, binI, unK, builtinK, pickK, Nat.reduceBEq, Nat.reduceAdd, Int.reduceBEq, Int.reduceBNe, Int.reduceLT, aPost, resK, tup, tyf, callK, List.nil_append, List.append_nil, List.toList_toArray, List.cons_append]
  refine (rcycles_call hv ht).mono ?_
  rintro rc h1 ⟨ho, hE⟩
  have hm := most_call _ h1 rc (.slice none 0 0) (cA xs xs.length) [] 0 (Nat.le_refl _) (by simp; omega) (.inl ho.trip) (.inl ⟨rfl, rfl⟩)
  rw [Int.natCast_zero, List.length_nil, Nat.zero_add, Nat.zero_max] at hm
  refine hm.mono ?_
  rintro _ h2 ⟨rfl, rfl⟩
  simp (config := {maxSteps := 2000000}) only [s35, ↓aw_region, ↓aw_skip, ↓aw_seq, ↓aw_block, ↓aw_exit, ↓aw_ret, ↓sops_nil, ↓sops_go, ↓dops_nil, ↓dopsX_nil, ↓dopsR_nil, ↓vdn, vup, extr_20, extr_21, extr_30, extr_31, extr_32, List.map_cons, List.map_nil, cond_true, cond_false, aop, aThen, aBlock, argEnv, ev, sput, sputO, binK, binI, unK, builtinK, pickK, Nat.reduceBEq, Nat.reduceAdd, Int.reduceBEq, Int.reduceBNe, Int.reduceLT, aPost, resK, tup, tyf]
  exact hE
end Go.Proofs.Tryd.Am

namespace Go.Proofs.Tryd.Am
open Go.Am
set_option maxRecDepth 100000
set_option maxHeartbeats 1000000

theorem s6_callW [Tabs Tryd.prog] {args : List Value} {h : Heap} {Q : Value → Heap → Prop} (hsz : args.length ≤ 66) (hk : AWS Tryd.prog 66 s6 (aPost Tryd.prog [.tmp 2] Q) (argEnv 0 args) h) : ACall Tryd.prog 6 args h Q :=
  acall_w Tryd.func6 rfl (enters_of Tryd.func6 (by kernel_rfl) rfl) rfl rfl (by decide) s6_strip s6_ok hsz hk
theorem trn_take6 {xs : List Int} (h : trn xs = true) : xs.take 11 = xs := List.take_of_length_le (by have := trn_len h; omega)

theorem law_packs [BitTab prog 1] {h : Heap} {v : Value} {xs : List Int} (hv : IntSl h v xs) (hl : xs.length < 9223372036854775808) (hx : ∀ x ∈ xs, -9223372036854775808 ≤ x ∧ x < 9223372036854775808) :
    ACall prog 6 [v] h fun r _ => r = .bool true := by
  have awk : ∀ {K : Value → Heap → Prop} {g : Heap}, (∀ g', Ext (fun _ => False) g g' → K (.bool true) g') → ACall prog 21 [] g K := fun {K g} hk => awake_call.mono fun v h' ⟨h1, h2⟩ => by rw [h1]; exact hk _ h2
  have hx11 : ∀ x ∈ xs.take 11, -9223372036854775808 ≤ x ∧ x < 9223372036854775808 := fun x hm => hx x (List.take_subset _ _ hm)
  have hl11 : (xs.take 11).length < 9223372036854775808 := by simp; omega
  have e22 : ((2 : Int) == 2) = true := rfl
  have e0 : ((0 : Int) == 0) = true := rfl
  have a00 : addV .i64 0 0 = 0 := rfl
  have l0 : ∀ {K : Value → Prop}, lenK (.slice none 0 0) K = K (.int .i64 0) := fun {K} => rfl
  refine s6_callW (by simp) ?_
  simp only [s6]
  refine aws_cut fun N hN => ?_
  simp (config := {maxSteps := 2000000}) only [s6, ↓aw_region, ↓aw_skip, ↓aw_seq, ↓aw_block, ↓aw_exit, ↓aw_ret, ↓sops_nil, ↓sops_go, ↓dops_nil, ↓dopsX_nil, ↓dopsR_nil, ↓vdn, vup, extr_20, extr_21, extr_30, extr_31, extr_32, List.map_cons, List.map_nil, cond_true, cond_false, aop, aThen, aBlock, argEnv, ev, sput, sputO, binK, binI, unK, builtinK, pickK, Nat.reduceBEq, Nat.reduceAdd, Int.reduceBEq, Int.reduceBNe, Int.reduceLT, aPost, resK, tup, tyf]
  refine hN [(0, v), (2, .bool false)] _ _ ?_ (by simp (config := {maxSteps := 2000000}) only [↓aw_region, ↓aw_skip, ↓aw_seq, ↓aw_block, ↓aw_exit, ↓aw_ret, ↓sops_nil, ↓sops_go, ↓dops_nil, ↓dopsX_nil, ↓dopsR_nil, ↓vdn, vup, extr_20, extr_21, extr_30, extr_31, extr_32, List.map_cons, List.map_nil, cond_true, cond_false, aop, aThen, aBlock, argEnv, ev, sput, sputO, binK, binI, unK, builtinK, pickK, Nat.reduceBEq, Nat.reduceAdd, Int.reduceBEq, Int.reduceBNe, Int.reduceLT, aPost, resK, tup, tyf])
  clear hN N
  refine aws_cut fun N hN => ?_
  simp (config := {maxSteps := 2000000}) only [s6, ↓aw_region, ↓aw_skip, ↓aw_seq, ↓aw_block, ↓aw_exit, ↓aw_ret, ↓sops_nil, ↓sops_go, ↓dops_nil, ↓dopsX_nil, ↓dopsR_nil, ↓vdn, vup, extr_20, extr_21, extr_30, extr_31, extr_32, List.map_cons, List.map_nil, cond_true, cond_false, aop, aThen, aBlock, argEnv, ev, sput, sputO, binK, binI, unK, builtinK, pickK, Nat.reduceBEq, Nat.reduceAdd, Int.reduceBEq, Int.reduceBNe, Int.reduceLT, aPost, resK, tup, tyf, callK, List.nil_append, List.append_nil, List.toList_toArray, List.cons_append]
  refine (list_call hv hl).mono ?_
  rintro l1 _ ⟨hl1, g1, rfl⟩
  refine (cycles30_call hl1 hl11 hx11).mono ?_
  rintro r1 h1 ⟨hE1, hr1⟩
  have hv1 := IntSl_ext hv ((Ext.app (fun _ => False) h g1).trans hE1)
  clear hl1 hE1
  cases ht : trn xs with
  | false =>
    rw [trn_take, ht, if_neg (by decide)] at hr1
    subst hr1
    simp (config := {maxSteps := 2000000}) only [s6, ↓aw_region, ↓aw_skip, ↓aw_seq, ↓aw_block, ↓aw_exit, ↓aw_ret, ↓sops_nil, ↓sops_go, ↓dops_nil, ↓dopsX_nil, ↓dopsR_nil, ↓vdn, vup, extr_20, extr_21, extr_30, extr_31, extr_32, List.map_cons, List.map_nil, cond_true, cond_false, aop, aThen, aBlock, argEnv, ev, sput, sputO, binK, binI, unK, builtinK, pickK, Nat.reduceBEq, Nat.reduceAdd, Int.reduceBEq, Int.reduceBNe, Int.reduceLT, aPost, resK, tup, tyf]
    refine hN [(0, v), (2, .bool false), (3, .slice none 0 0), (4, .int .i64 2)] _ _ ?_ (by simp (config := {maxSteps := 2000000}) only [↓aw_region, ↓aw_skip, ↓aw_seq, ↓aw_block, ↓aw_exit, ↓aw_ret, ↓sops_nil, ↓sops_go, ↓dops_nil, ↓dopsX_nil, ↓dopsR_nil, ↓vdn, vup, extr_20, extr_21, extr_30, extr_31, extr_32, List.map_cons, List.map_nil, cond_true, cond_false, aop, aThen, aBlock, argEnv, ev, sput, sputO, binK, binI, unK, builtinK, pickK, Nat.reduceBEq, Nat.reduceAdd, Int.reduceBEq, Int.reduceBNe, Int.reduceLT, aPost, resK, tup, tyf])
    clear hN N
    refine aws_cut fun N hN => ?_
    simp (config := {maxSteps := 2000000}) only [s6, ↓aw_region, ↓aw_skip, ↓aw_seq, ↓aw_block, ↓aw_exit, ↓aw_ret, ↓sops_nil, ↓sops_go, ↓dops_nil, ↓dopsX_nil, ↓dopsR_nil, ↓vdn, vup, extr_20, extr_21, extr_30, extr_31, extr_32, List.map_cons, List.map_nil, cond_true, cond_false, aop, aThen, aBlock, argEnv, ev, sput, sputO, binK, binI, unK, builtinK, pickK, Nat.reduceBEq, Nat.reduceAdd, Int.reduceBEq, Int.reduceBNe, Int.reduceLT, aPost, resK, tup, tyf, callK, List.nil_append, List.append_nil, List.toList_toArray, List.cons_append]
    refine (list_call hv1 hl).mono ?_
    rintro l3 _ ⟨hl3, g3, rfl⟩
    refine (pack_call hl3 hl11 hx11).mono ?_
    rintro r2 h2 ⟨hE2, hr2⟩
    rw [trn_take, ht, if_neg (by decide)] at hr2
    subst hr2
    have hv2 := IntSl_ext hv1 ((Ext.app (fun _ => False) h1 g3).trans hE2)
    clear hl3 hE2
    simp (config := {maxSteps := 2000000}) only [s6, ↓aw_region, ↓aw_skip, ↓aw_seq, ↓aw_block, ↓aw_exit, ↓aw_ret, ↓sops_nil, ↓sops_go, ↓dops_nil, ↓dopsX_nil, ↓dopsR_nil, ↓vdn, vup, extr_20, extr_21, extr_30, extr_31, extr_32, List.map_cons, List.map_nil, cond_true, cond_false, aop, aThen, aBlock, argEnv, ev, sput, sputO, binK, binI, unK, builtinK, pickK, Nat.reduceBEq, Nat.reduceAdd, Int.reduceBEq, Int.reduceBNe, Int.reduceLT, aPost, resK, tup, tyf]
    refine hN [(0, v), (2, .bool false), (3, .slice none 0 0), (4, .int .i64 2), (5, .slice none 0 0), (6, .int .i64 2)] _ _ ?_ (by simp (config := {maxSteps := 2000000}) only [↓aw_region, ↓aw_skip, ↓aw_seq, ↓aw_block, ↓aw_exit, ↓aw_ret, ↓sops_nil, ↓sops_go, ↓dops_nil, ↓dopsX_nil, ↓dopsR_nil, ↓vdn, vup, extr_20, extr_21, extr_30, extr_31, extr_32, List.map_cons, List.map_nil, cond_true, cond_false, aop, aThen, aBlock, argEnv, ev, sput, sputO, binK, binI, unK, builtinK, pickK, Nat.reduceBEq, Nat.reduceAdd, Int.reduceBEq, Int.reduceBNe, Int.reduceLT, aPost, resK, tup, tyf])
    clear hN N
    refine aws_cut fun N hN => ?_
    simp (config := {maxSteps := 2000000}) only [s6, ↓aw_region, ↓aw_skip, ↓aw_seq, ↓aw_block, ↓aw_exit, ↓aw_ret, ↓sops_nil, ↓sops_go, ↓dops_nil, ↓dopsX_nil, ↓dopsR_nil, ↓vdn, vup, extr_20, extr_21, extr_30, extr_31, extr_32, List.map_cons, List.map_nil, cond_true, cond_false, aop, aThen, aBlock, argEnv, ev, sput, sputO, binK, binI, unK, builtinK, pickK, Nat.reduceBEq, Nat.reduceAdd, Int.reduceBEq, Int.reduceBNe, Int.reduceLT, aPost, resK, tup, tyf, callK, List.nil_append, List.append_nil, List.toList_toArray, List.cons_append]
    refine (rvalid_call hv2 hl hx).mono ?_
    rintro _ h2 ⟨rfl, rfl⟩
    simp (config := {maxSteps := 2000000}) only [s6, ↓aw_region, ↓aw_skip, ↓aw_seq, ↓aw_block, ↓aw_exit, ↓aw_ret, ↓sops_nil, ↓sops_go, ↓dops_nil, ↓dopsX_nil, ↓dopsR_nil, ↓vdn, vup, extr_20, extr_21, extr_30, extr_31, extr_32, List.map_cons, List.map_nil, cond_true, cond_false, aop, aThen, aBlock, argEnv, ev, sput, sputO, binK, binI, unK, builtinK, pickK, Nat.reduceBEq, Nat.reduceAdd, Int.reduceBEq, Int.reduceBNe, Int.reduceLT, aPost, resK, tup, tyf, ht, l0, a00, e0, e22, callK, List.nil_append, List.append_nil, List.toList_toArray, List.cons_append]
    refine awk fun g _ => ?_
    simp (config := {maxSteps := 2000000}) only [s6, ↓aw_region, ↓aw_skip, ↓aw_seq, ↓aw_block, ↓aw_exit, ↓aw_ret, ↓sops_nil, ↓sops_go, ↓dops_nil, ↓dopsX_nil, ↓dopsR_nil, ↓vdn, vup, extr_20, extr_21, extr_30, extr_31, extr_32, List.map_cons, List.map_nil, cond_true, cond_false, aop, aThen, aBlock, argEnv, ev, sput, sputO, binK, binI, unK, builtinK, pickK, Nat.reduceBEq, Nat.reduceAdd, Int.reduceBEq, Int.reduceBNe, Int.reduceLT, aPost, resK, tup, tyf]
  | true =>
    rw [trn_take6 ht, ht, if_pos rfl] at hr1
    obtain ⟨w1, rfl, ho1⟩ := hr1
    simp (config := {maxSteps := 2000000}) only [s6, ↓aw_region, ↓aw_skip, ↓aw_seq, ↓aw_block, ↓aw_exit, ↓aw_ret, ↓sops_nil, ↓sops_go, ↓dops_nil, ↓dopsX_nil, ↓dopsR_nil, ↓vdn, vup, extr_20, extr_21, extr_30, extr_31, extr_32, List.map_cons, List.map_nil, cond_true, cond_false, aop, aThen, aBlock, argEnv, ev, sput, sputO, binK, binI, unK, builtinK, pickK, Nat.reduceBEq, Nat.reduceAdd, Int.reduceBEq, Int.reduceBNe, Int.reduceLT, aPost, resK, tup, tyf]
    refine hN [(0, v), (2, .bool false), (3, w1), (4, .int .i64 0)] _ _ ?_ (by simp (config := {maxSteps := 2000000}) only [↓aw_region, ↓aw_skip, ↓aw_seq, ↓aw_block, ↓aw_exit, ↓aw_ret, ↓sops_nil, ↓sops_go, ↓dops_nil, ↓dopsX_nil, ↓dopsR_nil, ↓vdn, vup, extr_20, extr_21, extr_30, extr_31, extr_32, List.map_cons, List.map_nil, cond_true, cond_false, aop, aThen, aBlock, argEnv, ev, sput, sputO, binK, binI, unK, builtinK, pickK, Nat.reduceBEq, Nat.reduceAdd, Int.reduceBEq, Int.reduceBNe, Int.reduceLT, aPost, resK, tup, tyf])
    clear hN N
    refine aws_cut fun N hN => ?_
    simp (config := {maxSteps := 2000000}) only [s6, ↓aw_region, ↓aw_skip, ↓aw_seq, ↓aw_block, ↓aw_exit, ↓aw_ret, ↓sops_nil, ↓sops_go, ↓dops_nil, ↓dopsX_nil, ↓dopsR_nil, ↓vdn, vup, extr_20, extr_21, extr_30, extr_31, extr_32, List.map_cons, List.map_nil, cond_true, cond_false, aop, aThen, aBlock, argEnv, ev, sput, sputO, binK, binI, unK, builtinK, pickK, Nat.reduceBEq, Nat.reduceAdd, Int.reduceBEq, Int.reduceBNe, Int.reduceLT, aPost, resK, tup, tyf, callK, List.nil_append, List.append_nil, List.toList_toArray, List.cons_append]
    refine (list_call hv1 hl).mono ?_
    rintro l3 _ ⟨hl3, g3, rfl⟩
    refine (pack_call hl3 hl11 hx11).mono ?_
    rintro r2 h2 ⟨hE2, hr2⟩
    rw [trn_take6 ht, ht, if_pos rfl] at hr2
    obtain ⟨w2, rfl, ho2⟩ := hr2
    have hE12 := (Ext.app (fun _ => False) h1 g3).trans hE2
    have hv2 := IntSl_ext hv1 hE12
    have ho12 := ho1.trip.ext hE12
    clear hl3 hE2 hE12
    simp (config := {maxSteps := 2000000}) only [s6, ↓aw_region, ↓aw_skip, ↓aw_seq, ↓aw_block, ↓aw_exit, ↓aw_ret, ↓sops_nil, ↓sops_go, ↓dops_nil, ↓dopsX_nil, ↓dopsR_nil, ↓vdn, vup, extr_20, extr_21, extr_30, extr_31, extr_32, List.map_cons, List.map_nil, cond_true, cond_false, aop, aThen, aBlock, argEnv, ev, sput, sputO, binK, binI, unK, builtinK, pickK, Nat.reduceBEq, Nat.reduceAdd, Int.reduceBEq, Int.reduceBNe, Int.reduceLT, aPost, resK, tup, tyf]
    refine hN [(0, v), (2, .bool false), (3, w1), (4, .int .i64 0), (5, w2), (6, .int .i64 0)] _ _ ?_ (by simp (config := {maxSteps := 2000000}) only [↓aw_region, ↓aw_skip, ↓aw_seq, ↓aw_block, ↓aw_exit, ↓aw_ret, ↓sops_nil, ↓sops_go, ↓dops_nil, ↓dopsX_nil, ↓dopsR_nil, ↓vdn, vup, extr_20, extr_21, extr_30, extr_31, extr_32, List.map_cons, List.map_nil, cond_true, cond_false, aop, aThen, aBlock, argEnv, ev, sput, sputO, binK, binI, unK, builtinK, pickK, Nat.reduceBEq, Nat.reduceAdd, Int.reduceBEq, Int.reduceBNe, Int.reduceLT, aPost, resK, tup, tyf])
    clear hN N
    refine aws_cut fun N hN => ?_
    simp (config := {maxSteps := 2000000}) only [s6, ↓aw_region, ↓aw_skip, ↓aw_seq, ↓aw_block, ↓aw_exit, ↓aw_ret, ↓sops_nil, ↓sops_go, ↓dops_nil, ↓dopsX_nil, ↓dopsR_nil, ↓vdn, vup, extr_20, extr_21, extr_30, extr_31, extr_32, List.map_cons, List.map_nil, cond_true, cond_false, aop, aThen, aBlock, argEnv, ev, sput, sputO, binK, binI, unK, builtinK, pickK, Nat.reduceBEq, Nat.reduceAdd, Int.reduceBEq, Int.reduceBNe, Int.reduceLT, aPost, resK, tup, tyf, callK, List.nil_append, List.append_nil, List.toList_toArray, List.cons_append]
    refine (rvalid_call hv2 hl hx).mono ?_
    rintro _ h2 ⟨rfl, rfl⟩
    simp (config := {maxSteps := 2000000}) only [s6, ↓aw_region, ↓aw_skip, ↓aw_seq, ↓aw_block, ↓aw_exit, ↓aw_ret, ↓sops_nil, ↓sops_go, ↓dops_nil, ↓dopsX_nil, ↓dopsR_nil, ↓vdn, vup, extr_20, extr_21, extr_30, extr_31, extr_32, List.map_cons, List.map_nil, cond_true, cond_false, aop, aThen, aBlock, argEnv, ev, sput, sputO, binK, binI, unK, builtinK, pickK, Nat.reduceBEq, Nat.reduceAdd, Int.reduceBEq, Int.reduceBNe, Int.reduceLT, aPost, resK, tup, tyf, ht]
    refine hN [(0, v), (2, .bool false), (3, w1), (4, .int .i64 0), (5, w2), (6, .int .i64 0)] _ _ ?_ (by simp (config := {maxSteps := 2000000}) only [↓aw_region, ↓aw_skip, ↓aw_seq, ↓aw_block, ↓aw_exit, ↓aw_ret, ↓sops_nil, ↓sops_go, ↓dops_nil, ↓dopsX_nil, ↓dopsR_nil, ↓vdn, vup, extr_20, extr_21, extr_30, extr_31, extr_32, List.map_cons, List.map_nil, cond_true, cond_false, aop, aThen, aBlock, argEnv, ev, sput, sputO, binK, binI, unK, builtinK, pickK, Nat.reduceBEq, Nat.reduceAdd, Int.reduceBEq, Int.reduceBNe, Int.reduceLT, aPost, resK, tup, tyf])
    clear hN N
    have hcl := cA_le ht (Nat.le_refl xs.length)
    refine aw_aws ?_
    refine aw_cut fun N0 hN0 => ?_
    refine aw_regcut 4 fun N hN => ?_
    simp (config := {maxSteps := 2000000}) only [s6, ↓aw_region, ↓aw_skip, ↓aw_seq, ↓aw_block, ↓aw_exit, ↓aw_ret, ↓sops_nil, ↓sops_go, ↓dops_nil, ↓dopsX_nil, ↓dopsR_nil, ↓vdn, vup, extr_20, extr_21, extr_30, extr_31, extr_32, List.map_cons, List.map_nil, cond_true, cond_false, aop, aThen, aBlock, argEnv, ev, sput, sputO, binK, binI, unK, builtinK, pickK, Nat.reduceBEq, Nat.reduceAdd, Int.reduceBEq, Int.reduceBNe, Int.reduceLT, aPost, resK, tup, tyf, List.take_succ_cons, List.take_zero, callK, List.nil_append, List.append_nil, List.toList_toArray, List.cons_append]
    refine (rcycles_call hv2 ht).mono ?_
    rintro r4 h4 ⟨ho4, hE4⟩
    refine (equalT_call (ho12.ext hE4) ho4.trip (by omega)).mono ?_
    rintro _ h4 ⟨rfl, rfl⟩
    have hv4 := IntSl_ext hv2 hE4
    have ho24 := ho2.ext hE4
    have hgood := Pck.go_good (ok := Pck.okT) (cA xs xs.length)
    have htop := Pck.go_top (ok := Pck.okT) (cA xs xs.length)
    try simp (config := {maxSteps := 2000000}) only [s6, ↓aw_region, ↓aw_skip, ↓aw_seq, ↓aw_block, ↓aw_exit, ↓aw_ret, ↓sops_nil, ↓sops_go, ↓dops_nil, ↓dopsX_nil, ↓dopsR_nil, ↓vdn, vup, extr_20, extr_21, extr_30, extr_31, extr_32, List.map_cons, List.map_nil, cond_true, cond_false, aop, aThen, aBlock, argEnv, ev, sput, sputO, binK, binI, unK, builtinK, pickK, Nat.reduceBEq, Nat.reduceAdd, Int.reduceBEq, Int.reduceBNe, Int.reduceLT, aPost, resK, tup, tyf]
    refine hN _ _ ?_
    clear hN N
    refine aw_regcut 8 fun N hN => ?_
    simp (config := {maxSteps := 2000000}) only [s6, ↓aw_region, ↓aw_skip, ↓aw_seq, ↓aw_block, ↓aw_exit, ↓aw_ret, ↓sops_nil, ↓sops_go, ↓dops_nil, ↓dopsX_nil, ↓dopsR_nil, ↓vdn, vup, extr_20, extr_21, extr_30, extr_31, extr_32, List.map_cons, List.map_nil, cond_true, cond_false, aop, aThen, aBlock, argEnv, ev, sput, sputO, binK, binI, unK, builtinK, pickK, Nat.reduceBEq, Nat.reduceAdd, Int.reduceBEq, Int.reduceBNe, Int.reduceLT, aPost, resK, tup, tyf, List.drop_succ_cons, List.drop_zero, List.take_succ_cons, List.take_zero, e0, callK, List.nil_append, List.append_nil, List.toList_toArray, List.cons_append]
    refine (packed_call hv4 ht ho24 hgood).mono ?_
    rintro _ h4 ⟨rfl, rfl⟩
    try simp (config := {maxSteps := 2000000}) only [s6, ↓aw_region, ↓aw_skip, ↓aw_seq, ↓aw_block, ↓aw_exit, ↓aw_ret, ↓sops_nil, ↓sops_go, ↓dops_nil, ↓dopsX_nil, ↓dopsR_nil, ↓vdn, vup, extr_20, extr_21, extr_30, extr_31, extr_32, List.map_cons, List.map_nil, cond_true, cond_false, aop, aThen, aBlock, argEnv, ev, sput, sputO, binK, binI, unK, builtinK, pickK, Nat.reduceBEq, Nat.reduceAdd, Int.reduceBEq, Int.reduceBNe, Int.reduceLT, aPost, resK, tup, tyf]
    refine hN _ _ ?_
    clear hN N
    refine aw_regcut 6 fun N hN => ?_
    simp (config := {maxSteps := 2000000}) only [s6, ↓aw_region, ↓aw_skip, ↓aw_seq, ↓aw_block, ↓aw_exit, ↓aw_ret, ↓sops_nil, ↓sops_go, ↓dops_nil, ↓dopsX_nil, ↓dopsR_nil, ↓vdn, vup, extr_20, extr_21, extr_30, extr_31, extr_32, List.map_cons, List.map_nil, cond_true, cond_false, aop, aThen, aBlock, argEnv, ev, sput, sputO, binK, binI, unK, builtinK, pickK, Nat.reduceBEq, Nat.reduceAdd, Int.reduceBEq, Int.reduceBNe, Int.reduceLT, aPost, resK, tup, tyf, List.drop_succ_cons, List.drop_zero, List.take_succ_cons, List.take_zero, ho24.len, callK, List.nil_append, List.append_nil, List.toList_toArray, List.cons_append]
    refine (rmost_call hv4 ht).mono ?_
    rintro _ h4 ⟨rfl, rfl⟩
    have hbb : ((((Pck.go Pck.okT (cA xs xs.length) [] []).length : Nat) : Int) == ((Pck.G Pck.okT (cA xs xs.length) (fun _ => true) : Nat) : Int)) = true := by rw [htop, beq_self_eq_true]
    refine hN _ _ ?_
    clear hN N
    simp (config := {maxSteps := 2000000}) only [s6, ↓aw_region, ↓aw_skip, ↓aw_seq, ↓aw_block, ↓aw_exit, ↓aw_ret, ↓sops_nil, ↓sops_go, ↓dops_nil, ↓dopsX_nil, ↓dopsR_nil, ↓vdn, vup, extr_20, extr_21, extr_30, extr_31, extr_32, List.map_cons, List.map_nil, cond_true, cond_false, aop, aThen, aBlock, argEnv, ev, sput, sputO, binK, binI, unK, builtinK, pickK, Nat.reduceBEq, Nat.reduceAdd, Int.reduceBEq, Int.reduceBNe, Int.reduceLT, aPost, resK, tup, tyf, List.drop_succ_cons, List.drop_zero, e0, hbb, callK, List.nil_append, List.append_nil, List.toList_toArray, List.cons_append]
    refine awk fun g _ => ?_
    try simp (config := {maxSteps := 2000000}) only [s6, ↓aw_region, ↓aw_skip, ↓aw_seq, ↓aw_block, ↓aw_exit, ↓aw_ret, ↓sops_nil, ↓sops_go, ↓dops_nil, ↓dopsX_nil, ↓dopsR_nil, ↓vdn, vup, extr_20, extr_21, extr_30, extr_31, extr_32, List.map_cons, List.map_nil, cond_true, cond_false, aop, aThen, aBlock, argEnv, ev, sput, sputO, binK, binI, unK, builtinK, pickK, Nat.reduceBEq, Nat.reduceAdd, Int.reduceBEq, Int.reduceBNe, Int.reduceLT, aPost, resK, tup, tyf]
    refine hN0 _ _ ?_
    simp (config := {maxSteps := 2000000}) only [s6, ↓aw_region, ↓aw_skip, ↓aw_seq, ↓aw_block, ↓aw_exit, ↓aw_ret, ↓sops_nil, ↓sops_go, ↓dops_nil, ↓dopsX_nil, ↓dopsR_nil, ↓vdn, vup, extr_20, extr_21, extr_30, extr_31, extr_32, List.map_cons, List.map_nil, cond_true, cond_false, aop, aThen, aBlock, argEnv, ev, sput, sputO, binK, binI, unK, builtinK, pickK, Nat.reduceBEq, Nat.reduceAdd, Int.reduceBEq, Int.reduceBNe, Int.reduceLT, aPost, resK, tup, tyf]
end Go.Proofs.Tryd.Am

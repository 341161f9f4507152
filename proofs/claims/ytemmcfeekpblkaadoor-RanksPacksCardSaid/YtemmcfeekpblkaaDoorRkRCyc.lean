/-
  ranks: the reference's cycles, and its Clear.
-/
import Derived.Test.YtemmcfeekpblkaaDoorRkClear
import Derived.Test.YtemmcfeekpblkaaDoorFnE
set_option linter.all false
namespace Go.Proofs.Tryd.Am
open Go.Am
set_option maxRecDepth 100000
set_option maxHeartbeats 1000000

/-! All cycles, by all triples. -/
def dC (xs : List Int) (a x k : Nat) : List T3 := (List.range k).flatMap fun c => if a < x ∧ a < c ∧ bb xs a x = true ∧ bb xs x c = true ∧ bb xs c a = true then [((a : Int), (x : Int), (c : Int))] else []
def dX (xs : List Int) (a k : Nat) : List T3 := (List.range k).flatMap fun x => dC xs a x xs.length
def dA (xs : List Int) (k : Nat) : List T3 := (List.range k).flatMap fun a => dX xs a xs.length
theorem dC_succ (xs : List Int) (a x k : Nat) : dC xs a x (k + 1) = dC xs a x k ++ (if a < x ∧ a < k ∧ bb xs a x = true ∧ bb xs x k = true ∧ bb xs k a = true then [((a : Int), (x : Int), (k : Int))] else []) := by simp [dC, List.range_succ]
theorem dX_succ (xs : List Int) (a k : Nat) : dX xs a (k + 1) = dX xs a k ++ dC xs a k xs.length := by simp [dX, List.range_succ]
theorem dA_succ (xs : List Int) (k : Nat) : dA xs (k + 1) = dA xs k ++ dX xs k xs.length := by simp [dA, List.range_succ]
theorem flat_filter {α β : Type} {p : α → Bool} {f : α → List β} : ∀ l : List α, (l.filter p).flatMap f = l.flatMap fun x => if p x = true then f x else []
  | [] => rfl
  | x :: l => by
    rw [List.filter_cons, List.flatMap_cons, ← flat_filter l]
    by_cases h : p x = true
    · rw [if_pos h, if_pos h, List.flatMap_cons]
    · rw [if_neg h, if_neg h, List.nil_append]
theorem dA_all {xs : List Int} (h : trn xs = true) : dA xs xs.length = cA xs xs.length := by
  rw [dA, cA, List.flatMap_def, List.flatMap_def]
  congr 1
  refine List.map_congr_left fun a ha => ?_
  rw [dX, cX, bits_bb h (List.mem_range.1 ha), flat_filter, List.flatMap_def, List.flatMap_def]
  congr 1
  refine List.map_congr_left fun x hx => ?_
  rw [dC, cC, bits_bb h (List.mem_range.1 hx), flat_filter]
  cases hax : bb xs a x with
  | false => simp
  | true =>
    rw [if_pos rfl, List.flatMap_def, List.flatMap_def]
    congr 1
    refine List.map_congr_left fun c hc => ?_
    cases hxc : bb xs x c with
    | false => simp
    | true => simp
theorem dC_le {xs : List Int} {a x k : Nat} : (dC xs a x k).length ≤ k := by
  have := flat_le (f := fun c => if a < x ∧ a < c ∧ bb xs a x = true ∧ bb xs x c = true ∧ bb xs c a = true then [((a : Int), (x : Int), (c : Int))] else []) (k := 1) (List.range k) fun c _ => by
    split <;> simp
  rw [List.length_range, Nat.mul_one] at this; exact this
theorem dX_le {xs : List Int} {a k : Nat} : (dX xs a k).length ≤ k * xs.length := by
  have := flat_le (f := fun x => dC xs a x xs.length) (k := xs.length) (List.range k) fun x _ => dC_le
  rw [List.length_range] at this; exact this
theorem dA_le {xs : List Int} {k : Nat} : (dA xs k).length ≤ k * (xs.length * xs.length) := by
  have := flat_le (f := fun a => dX xs a xs.length) (k := xs.length * xs.length) (List.range k) fun a _ => dX_le
  rw [List.length_range] at this; exact this

/-- The list under way. -/
def RS3 (h hp : Heap) (ov : Value) (ts : List T3) : Prop := OwnT 40 hp ov ts ∧ Ext (fun _ => False) h hp ∧ ∀ b, blkOf ov = some b → h.length ≤ b
theorem RS3.push {h hp : Heap} {ov : Value} {ts : List T3} (s : RS3 h hp ov ts) {x y z : Int} (hn : ts.length < 1099511627776) {K : Value → Heap → Prop} (hk : ∀ v' h', RS3 h h' v' (ts ++ [(x, y, z)]) → K v' h') :
    appendK prog (hp ++ [.ints [x, y, z] 40 false]) 36 36 ov (.slice (some ⟨hp.length, 0, none⟩) 1 1) K := by
  obtain ⟨hown, hE, hblk⟩ := s
  have hx1 : Ext (fun _ => False) hp (hp ++ [.ints [x, y, z] 40 false]) := Ext.app _ _ _
  refine (hown.ext hx1).append app_36_36 hn (get_new _ _) fun v' h' ho hE' hb => hk v' h' ⟨ho, ?_, fun b hbb => ?_⟩
  · have h1 := hE.1
    have h2 := hx1.1
    have h3 := hE'.1
    refine ⟨by omega, fun i hi _ => ?_⟩
    rw [hE'.2 i (by omega) fun hbb => by have := hblk i hbb; omega, hx1.2 i (by omega) id]
    exact hE.2 i hi id
  · rcases hb with h1 | ⟨b', h1, h2⟩
    · exact hblk b (h1 ▸ hbb)
    · rw [h1] at hbb; cases hbb; have := hE.1; have := hx1.1; omega

/-- Whether three make a cycle, as the reference asks. -/
theorem tri_test [Tabs prog] {h : Heap} {v o3 n8 n9 n13 n14 n18 n19 : Value} {xs : List Int} {a x c : Nat} (hv : IntSl h v xs) (ha : a < xs.length) (hx : x < xs.length) (hc : c < xs.length) (hnat : ∀ i, i < xs.length → 0 ≤ xs.getD i 0 ∧ xs.getD i 0 < 9223372036854775808) {Q : Exit → Env → Heap → Prop} {r : Bool}
    (hr : r = decide (a < x ∧ a < c ∧ bb xs a x = true ∧ bb xs x c = true ∧ bb xs c a = true)) (hN : ∀ e, ELe e [(0, v), (3, o3), (4, vint a), (5, vint x), (6, vint c), (8, n8), (9, n9), (13, n13), (14, n14), (18, n18), (19, n19), (59, .bool r)] → Q .normal e h) :
    aw prog 71 q33_11 Q [(0, v), (3, o3), (4, vint a), (5, vint x), (8, n8), (9, n9), (13, n13), (14, n14), (18, n18), (19, n19), (6, vint c)] h := by
  have tt : ∀ i, i < xs.length → ∀ y : Nat, (bitsV .and .i64 (shrV .i64 (xs.getD i 0) y) 1 == 1) = bb xs i y := fun i hi y => by rw [testI (hnat i hi).1 (hnat i hi).2, beq1]; rfl
  have ia : ∀ {K : Value → Prop}, idxAddrK prog 22 v (vint a) K = K (elemP v 1 a) := fun {K} => hv.idx el_22 esz_3 ha K
  have ix : ∀ {K : Value → Prop}, idxAddrK prog 22 v (vint x) K = K (elemP v 1 x) := fun {K} => hv.idx el_22 esz_3 hx K
  have ic : ∀ {K : Value → Prop}, idxAddrK prog 22 v (vint c) K = K (elemP v 1 c) := fun {K} => hv.idx el_22 esz_3 hc K
  have la : ∀ {K : Value → Prop}, loadK prog h 3 (elemP v 1 a) K = K (vint (xs.getD a 0)) := fun {K} => hv.load shp_3 ha K
  have lx : ∀ {K : Value → Prop}, loadK prog h 3 (elemP v 1 x) K = K (vint (xs.getD x 0)) := fun {K} => hv.load shp_3 hx K
  have lc : ∀ {K : Value → Prop}, loadK prog h 3 (elemP v 1 c) K = K (vint (xs.getD c 0)) := fun {K} => hv.load shp_3 hc K
  have ta := tt a ha x
  have tx := tt x hx c
  have tc := tt c hc a
  by_cases hax : a < x
  rotate_left
  · have c1 : ¬ (a : Int) < (x : Int) := by omega
    have hf : r = false := by rw [hr]; exact decide_eq_false fun h => hax h.1
    refine aw_regcut 8 fun N1 hN1 => ?_
    simp (config := {maxSteps := 2000000}) only [↓aw_region, ↓aw_skip, ↓aw_seq, ↓aw_block, ↓aw_exit, ↓aw_ret, ↓sops_nil, ↓sops_go, ↓dops_nil, ↓dopsX_nil, ↓dopsR_nil, ↓vdn, vup, extr_20, extr_21, extr_30, extr_31, extr_32, List.map_cons, List.map_nil, cond_true, cond_false, aop, aThen, aBlock, argEnv, ev, sput, sputO, binK, binI, unK, builtinK, pickK, Nat.reduceBEq, Nat.reduceAdd, Int.reduceBEq, Int.reduceBNe, Int.reduceLT, aPost, resK, tup, tyf, List.take_succ_cons, List.take_zero, c1]
    refine hN1 _ _ ?_
    clear hN1
    clear N1
    refine aw_regcut 10 fun N1 hN1 => ?_
    simp (config := {maxSteps := 2000000}) only [↓aw_region, ↓aw_skip, ↓aw_seq, ↓aw_block, ↓aw_exit, ↓aw_ret, ↓sops_nil, ↓sops_go, ↓dops_nil, ↓dopsX_nil, ↓dopsR_nil, ↓vdn, vup, extr_20, extr_21, extr_30, extr_31, extr_32, List.map_cons, List.map_nil, cond_true, cond_false, aop, aThen, aBlock, argEnv, ev, sput, sputO, binK, binI, unK, builtinK, pickK, Nat.reduceBEq, Nat.reduceAdd, Int.reduceBEq, Int.reduceBNe, Int.reduceLT, aPost, resK, tup, tyf, List.take_succ_cons, List.take_zero, List.drop_succ_cons, List.drop_zero]
    refine hN1 _ _ ?_
    clear hN1
    clear N1
    refine aw_regcut 10 fun N1 hN1 => ?_
    simp (config := {maxSteps := 2000000}) only [↓aw_region, ↓aw_skip, ↓aw_seq, ↓aw_block, ↓aw_exit, ↓aw_ret, ↓sops_nil, ↓sops_go, ↓dops_nil, ↓dopsX_nil, ↓dopsR_nil, ↓vdn, vup, extr_20, extr_21, extr_30, extr_31, extr_32, List.map_cons, List.map_nil, cond_true, cond_false, aop, aThen, aBlock, argEnv, ev, sput, sputO, binK, binI, unK, builtinK, pickK, Nat.reduceBEq, Nat.reduceAdd, Int.reduceBEq, Int.reduceBNe, Int.reduceLT, aPost, resK, tup, tyf, List.take_succ_cons, List.take_zero, List.drop_succ_cons, List.drop_zero]
    refine hN1 _ _ ?_
    clear hN1
    clear N1
    simp (config := {maxSteps := 2000000}) only [↓aw_region, ↓aw_skip, ↓aw_seq, ↓aw_block, ↓aw_exit, ↓aw_ret, ↓sops_nil, ↓sops_go, ↓dops_nil, ↓dopsX_nil, ↓dopsR_nil, ↓vdn, vup, extr_20, extr_21, extr_30, extr_31, extr_32, List.map_cons, List.map_nil, cond_true, cond_false, aop, aThen, aBlock, argEnv, ev, sput, sputO, binK, binI, unK, builtinK, pickK, Nat.reduceBEq, Nat.reduceAdd, Int.reduceBEq, Int.reduceBNe, Int.reduceLT, aPost, resK, tup, tyf, List.drop_succ_cons, List.drop_zero]
    exact hN _ (by simp (config := {maxSteps := 2000000}) only [↓aw_region, ↓aw_skip, ↓aw_seq, ↓aw_block, ↓aw_exit, ↓aw_ret, ↓sops_nil, ↓sops_go, ↓dops_nil, ↓dopsX_nil, ↓dopsR_nil, ↓vdn, vup, extr_20, extr_21, extr_30, extr_31, extr_32, List.map_cons, List.map_nil, cond_true, cond_false, aop, aThen, aBlock, argEnv, ev, sput, sputO, binK, binI, unK, builtinK, pickK, Nat.reduceBEq, Nat.reduceAdd, Int.reduceBEq, Int.reduceBNe, Int.reduceLT, aPost, resK, tup, tyf, hf])
  have c1 : (a : Int) < (x : Int) := by omega
  by_cases hac : a < c
  rotate_left
  · have c2 : ¬ (a : Int) < (c : Int) := by omega
    have hf : r = false := by rw [hr]; exact decide_eq_false fun h => hac h.2.1
    refine aw_regcut 8 fun N1 hN1 => ?_
    simp (config := {maxSteps := 2000000}) only [↓aw_region, ↓aw_skip, ↓aw_seq, ↓aw_block, ↓aw_exit, ↓aw_ret, ↓sops_nil, ↓sops_go, ↓dops_nil, ↓dopsX_nil, ↓dopsR_nil, ↓vdn, vup, extr_20, extr_21, extr_30, extr_31, extr_32, List.map_cons, List.map_nil, cond_true, cond_false, aop, aThen, aBlock, argEnv, ev, sput, sputO, binK, binI, unK, builtinK, pickK, Nat.reduceBEq, Nat.reduceAdd, Int.reduceBEq, Int.reduceBNe, Int.reduceLT, aPost, resK, tup, tyf, List.take_succ_cons, List.take_zero, c1, c2]
    refine hN1 _ _ ?_
    clear hN1
    clear N1
    refine aw_regcut 10 fun N1 hN1 => ?_
    simp (config := {maxSteps := 2000000}) only [↓aw_region, ↓aw_skip, ↓aw_seq, ↓aw_block, ↓aw_exit, ↓aw_ret, ↓sops_nil, ↓sops_go, ↓dops_nil, ↓dopsX_nil, ↓dopsR_nil, ↓vdn, vup, extr_20, extr_21, extr_30, extr_31, extr_32, List.map_cons, List.map_nil, cond_true, cond_false, aop, aThen, aBlock, argEnv, ev, sput, sputO, binK, binI, unK, builtinK, pickK, Nat.reduceBEq, Nat.reduceAdd, Int.reduceBEq, Int.reduceBNe, Int.reduceLT, aPost, resK, tup, tyf, List.take_succ_cons, List.take_zero, List.drop_succ_cons, List.drop_zero]
    refine hN1 _ _ ?_
    clear hN1
    clear N1
    refine aw_regcut 10 fun N1 hN1 => ?_
    simp (config := {maxSteps := 2000000}) only [↓aw_region, ↓aw_skip, ↓aw_seq, ↓aw_block, ↓aw_exit, ↓aw_ret, ↓sops_nil, ↓sops_go, ↓dops_nil, ↓dopsX_nil, ↓dopsR_nil, ↓vdn, vup, extr_20, extr_21, extr_30, extr_31, extr_32, List.map_cons, List.map_nil, cond_true, cond_false, aop, aThen, aBlock, argEnv, ev, sput, sputO, binK, binI, unK, builtinK, pickK, Nat.reduceBEq, Nat.reduceAdd, Int.reduceBEq, Int.reduceBNe, Int.reduceLT, aPost, resK, tup, tyf, List.take_succ_cons, List.take_zero, List.drop_succ_cons, List.drop_zero]
    refine hN1 _ _ ?_
    clear hN1
    clear N1
    simp (config := {maxSteps := 2000000}) only [↓aw_region, ↓aw_skip, ↓aw_seq, ↓aw_block, ↓aw_exit, ↓aw_ret, ↓sops_nil, ↓sops_go, ↓dops_nil, ↓dopsX_nil, ↓dopsR_nil, ↓vdn, vup, extr_20, extr_21, extr_30, extr_31, extr_32, List.map_cons, List.map_nil, cond_true, cond_false, aop, aThen, aBlock, argEnv, ev, sput, sputO, binK, binI, unK, builtinK, pickK, Nat.reduceBEq, Nat.reduceAdd, Int.reduceBEq, Int.reduceBNe, Int.reduceLT, aPost, resK, tup, tyf, List.drop_succ_cons, List.drop_zero]
    exact hN _ (by simp (config := {maxSteps := 2000000}) only [↓aw_region, ↓aw_skip, ↓aw_seq, ↓aw_block, ↓aw_exit, ↓aw_ret, ↓sops_nil, ↓sops_go, ↓dops_nil, ↓dopsX_nil, ↓dopsR_nil, ↓vdn, vup, extr_20, extr_21, extr_30, extr_31, extr_32, List.map_cons, List.map_nil, cond_true, cond_false, aop, aThen, aBlock, argEnv, ev, sput, sputO, binK, binI, unK, builtinK, pickK, Nat.reduceBEq, Nat.reduceAdd, Int.reduceBEq, Int.reduceBNe, Int.reduceLT, aPost, resK, tup, tyf, hf])
  have c2 : (a : Int) < (c : Int) := by omega
  cases h1 : bb xs a x with
  | false =>
    have hf : r = false := by rw [hr]; exact decide_eq_false fun h => by rw [h1] at h; cases h.2.2.1
    refine aw_regcut 8 fun N1 hN1 => ?_
    simp (config := {maxSteps := 2000000}) only [↓aw_region, ↓aw_skip, ↓aw_seq, ↓aw_block, ↓aw_exit, ↓aw_ret, ↓sops_nil, ↓sops_go, ↓dops_nil, ↓dopsX_nil, ↓dopsR_nil, ↓vdn, vup, extr_20, extr_21, extr_30, extr_31, extr_32, List.map_cons, List.map_nil, cond_true, cond_false, aop, aThen, aBlock, argEnv, ev, sput, sputO, binK, binI, unK, builtinK, pickK, Nat.reduceBEq, Nat.reduceAdd, Int.reduceBEq, Int.reduceBNe, Int.reduceLT, aPost, resK, tup, tyf, List.take_succ_cons, List.take_zero, c1, c2]
    refine hN1 _ _ ?_
    clear hN1
    clear N1
    refine aw_regcut 10 fun N1 hN1 => ?_
    simp (config := {maxSteps := 2000000}) only [↓aw_region, ↓aw_skip, ↓aw_seq, ↓aw_block, ↓aw_exit, ↓aw_ret, ↓sops_nil, ↓sops_go, ↓dops_nil, ↓dopsX_nil, ↓dopsR_nil, ↓vdn, vup, extr_20, extr_21, extr_30, extr_31, extr_32, List.map_cons, List.map_nil, cond_true, cond_false, aop, aThen, aBlock, argEnv, ev, sput, sputO, binK, binI, unK, builtinK, pickK, Nat.reduceBEq, Nat.reduceAdd, Int.reduceBEq, Int.reduceBNe, Int.reduceLT, aPost, resK, tup, tyf, List.take_succ_cons, List.take_zero, List.drop_succ_cons, List.drop_zero, ia, la, ta, h1]
    refine hN1 _ _ ?_
    clear hN1
    clear N1
    refine aw_regcut 10 fun N1 hN1 => ?_
    simp (config := {maxSteps := 2000000}) only [↓aw_region, ↓aw_skip, ↓aw_seq, ↓aw_block, ↓aw_exit, ↓aw_ret, ↓sops_nil, ↓sops_go, ↓dops_nil, ↓dopsX_nil, ↓dopsR_nil, ↓vdn, vup, extr_20, extr_21, extr_30, extr_31, extr_32, List.map_cons, List.map_nil, cond_true, cond_false, aop, aThen, aBlock, argEnv, ev, sput, sputO, binK, binI, unK, builtinK, pickK, Nat.reduceBEq, Nat.reduceAdd, Int.reduceBEq, Int.reduceBNe, Int.reduceLT, aPost, resK, tup, tyf, List.take_succ_cons, List.take_zero, List.drop_succ_cons, List.drop_zero]
    refine hN1 _ _ ?_
    clear hN1
    clear N1
    simp (config := {maxSteps := 2000000}) only [↓aw_region, ↓aw_skip, ↓aw_seq, ↓aw_block, ↓aw_exit, ↓aw_ret, ↓sops_nil, ↓sops_go, ↓dops_nil, ↓dopsX_nil, ↓dopsR_nil, ↓vdn, vup, extr_20, extr_21, extr_30, extr_31, extr_32, List.map_cons, List.map_nil, cond_true, cond_false, aop, aThen, aBlock, argEnv, ev, sput, sputO, binK, binI, unK, builtinK, pickK, Nat.reduceBEq, Nat.reduceAdd, Int.reduceBEq, Int.reduceBNe, Int.reduceLT, aPost, resK, tup, tyf, List.drop_succ_cons, List.drop_zero]
    exact hN _ (by simp (config := {maxSteps := 2000000}) only [↓aw_region, ↓aw_skip, ↓aw_seq, ↓aw_block, ↓aw_exit, ↓aw_ret, ↓sops_nil, ↓sops_go, ↓dops_nil, ↓dopsX_nil, ↓dopsR_nil, ↓vdn, vup, extr_20, extr_21, extr_30, extr_31, extr_32, List.map_cons, List.map_nil, cond_true, cond_false, aop, aThen, aBlock, argEnv, ev, sput, sputO, binK, binI, unK, builtinK, pickK, Nat.reduceBEq, Nat.reduceAdd, Int.reduceBEq, Int.reduceBNe, Int.reduceLT, aPost, resK, tup, tyf, hf])
  | true =>
  cases h2 : bb xs x c with
  | false =>
    have hf : r = false := by rw [hr]; exact decide_eq_false fun h => by rw [h2] at h; cases h.2.2.2.1
    refine aw_regcut 8 fun N1 hN1 => ?_
    simp (config := {maxSteps := 2000000}) only [↓aw_region, ↓aw_skip, ↓aw_seq, ↓aw_block, ↓aw_exit, ↓aw_ret, ↓sops_nil, ↓sops_go, ↓dops_nil, ↓dopsX_nil, ↓dopsR_nil, ↓vdn, vup, extr_20, extr_21, extr_30, extr_31, extr_32, List.map_cons, List.map_nil, cond_true, cond_false, aop, aThen, aBlock, argEnv, ev, sput, sputO, binK, binI, unK, builtinK, pickK, Nat.reduceBEq, Nat.reduceAdd, Int.reduceBEq, Int.reduceBNe, Int.reduceLT, aPost, resK, tup, tyf, List.take_succ_cons, List.take_zero, c1, c2]
    refine hN1 _ _ ?_
    clear hN1
    clear N1
    refine aw_regcut 10 fun N1 hN1 => ?_
    simp (config := {maxSteps := 2000000}) only [↓aw_region, ↓aw_skip, ↓aw_seq, ↓aw_block, ↓aw_exit, ↓aw_ret, ↓sops_nil, ↓sops_go, ↓dops_nil, ↓dopsX_nil, ↓dopsR_nil, ↓vdn, vup, extr_20, extr_21, extr_30, extr_31, extr_32, List.map_cons, List.map_nil, cond_true, cond_false, aop, aThen, aBlock, argEnv, ev, sput, sputO, binK, binI, unK, builtinK, pickK, Nat.reduceBEq, Nat.reduceAdd, Int.reduceBEq, Int.reduceBNe, Int.reduceLT, aPost, resK, tup, tyf, List.take_succ_cons, List.take_zero, List.drop_succ_cons, List.drop_zero, ia, la, ta, h1]
    refine hN1 _ _ ?_
    clear hN1
    clear N1
    refine aw_regcut 10 fun N1 hN1 => ?_
    simp (config := {maxSteps := 2000000}) only [↓aw_region, ↓aw_skip, ↓aw_seq, ↓aw_block, ↓aw_exit, ↓aw_ret, ↓sops_nil, ↓sops_go, ↓dops_nil, ↓dopsX_nil, ↓dopsR_nil, ↓vdn, vup, extr_20, extr_21, extr_30, extr_31, extr_32, List.map_cons, List.map_nil, cond_true, cond_false, aop, aThen, aBlock, argEnv, ev, sput, sputO, binK, binI, unK, builtinK, pickK, Nat.reduceBEq, Nat.reduceAdd, Int.reduceBEq, Int.reduceBNe, Int.reduceLT, aPost, resK, tup, tyf, List.take_succ_cons, List.take_zero, List.drop_succ_cons, List.drop_zero, ix, lx, tx, h2]
    refine hN1 _ _ ?_
    clear hN1
    clear N1
    simp (config := {maxSteps := 2000000}) only [↓aw_region, ↓aw_skip, ↓aw_seq, ↓aw_block, ↓aw_exit, ↓aw_ret, ↓sops_nil, ↓sops_go, ↓dops_nil, ↓dopsX_nil, ↓dopsR_nil, ↓vdn, vup, extr_20, extr_21, extr_30, extr_31, extr_32, List.map_cons, List.map_nil, cond_true, cond_false, aop, aThen, aBlock, argEnv, ev, sput, sputO, binK, binI, unK, builtinK, pickK, Nat.reduceBEq, Nat.reduceAdd, Int.reduceBEq, Int.reduceBNe, Int.reduceLT, aPost, resK, tup, tyf, List.drop_succ_cons, List.drop_zero]
    exact hN _ (by simp (config := {maxSteps := 2000000}) only [↓aw_region, ↓aw_skip, ↓aw_seq, ↓aw_block, ↓aw_exit, ↓aw_ret, ↓sops_nil, ↓sops_go, ↓dops_nil, ↓dopsX_nil, ↓dopsR_nil, ↓vdn, vup, extr_20, extr_21, extr_30, extr_31, extr_32, List.map_cons, List.map_nil, cond_true, cond_false, aop, aThen, aBlock, argEnv, ev, sput, sputO, binK, binI, unK, builtinK, pickK, Nat.reduceBEq, Nat.reduceAdd, Int.reduceBEq, Int.reduceBNe, Int.reduceLT, aPost, resK, tup, tyf, hf])
  | true =>
  cases h3 : bb xs c a with
  | false =>
    have hf : r = false := by rw [hr]; exact decide_eq_false fun h => by rw [h3] at h; cases h.2.2.2.2
    refine aw_regcut 8 fun N1 hN1 => ?_
    simp (config := {maxSteps := 2000000}) only [↓aw_region, ↓aw_skip, ↓aw_seq, ↓aw_block, ↓aw_exit, ↓aw_ret, ↓sops_nil, ↓sops_go, ↓dops_nil, ↓dopsX_nil, ↓dopsR_nil, ↓vdn, vup, extr_20, extr_21, extr_30, extr_31, extr_32, List.map_cons, List.map_nil, cond_true, cond_false, aop, aThen, aBlock, argEnv, ev, sput, sputO, binK, binI, unK, builtinK, pickK, Nat.reduceBEq, Nat.reduceAdd, Int.reduceBEq, Int.reduceBNe, Int.reduceLT, aPost, resK, tup, tyf, List.take_succ_cons, List.take_zero, c1, c2]
    refine hN1 _ _ ?_
    clear hN1
    clear N1
    refine aw_regcut 10 fun N1 hN1 => ?_
    simp (config := {maxSteps := 2000000}) only [↓aw_region, ↓aw_skip, ↓aw_seq, ↓aw_block, ↓aw_exit, ↓aw_ret, ↓sops_nil, ↓sops_go, ↓dops_nil, ↓dopsX_nil, ↓dopsR_nil, ↓vdn, vup, extr_20, extr_21, extr_30, extr_31, extr_32, List.map_cons, List.map_nil, cond_true, cond_false, aop, aThen, aBlock, argEnv, ev, sput, sputO, binK, binI, unK, builtinK, pickK, Nat.reduceBEq, Nat.reduceAdd, Int.reduceBEq, Int.reduceBNe, Int.reduceLT, aPost, resK, tup, tyf, List.take_succ_cons, List.take_zero, List.drop_succ_cons, List.drop_zero, ia, la, ta, h1]
    refine hN1 _ _ ?_
    clear hN1
    clear N1
    refine aw_regcut 10 fun N1 hN1 => ?_
    simp (config := {maxSteps := 2000000}) only [↓aw_region, ↓aw_skip, ↓aw_seq, ↓aw_block, ↓aw_exit, ↓aw_ret, ↓sops_nil, ↓sops_go, ↓dops_nil, ↓dopsX_nil, ↓dopsR_nil, ↓vdn, vup, extr_20, extr_21, extr_30, extr_31, extr_32, List.map_cons, List.map_nil, cond_true, cond_false, aop, aThen, aBlock, argEnv, ev, sput, sputO, binK, binI, unK, builtinK, pickK, Nat.reduceBEq, Nat.reduceAdd, Int.reduceBEq, Int.reduceBNe, Int.reduceLT, aPost, resK, tup, tyf, List.take_succ_cons, List.take_zero, List.drop_succ_cons, List.drop_zero, ix, lx, tx, h2]
    refine hN1 _ _ ?_
    clear hN1
    clear N1
    simp (config := {maxSteps := 2000000}) only [↓aw_region, ↓aw_skip, ↓aw_seq, ↓aw_block, ↓aw_exit, ↓aw_ret, ↓sops_nil, ↓sops_go, ↓dops_nil, ↓dopsX_nil, ↓dopsR_nil, ↓vdn, vup, extr_20, extr_21, extr_30, extr_31, extr_32, List.map_cons, List.map_nil, cond_true, cond_false, aop, aThen, aBlock, argEnv, ev, sput, sputO, binK, binI, unK, builtinK, pickK, Nat.reduceBEq, Nat.reduceAdd, Int.reduceBEq, Int.reduceBNe, Int.reduceLT, aPost, resK, tup, tyf, List.drop_succ_cons, List.drop_zero, ic, lc, tc, h3]
    exact hN _ (by simp (config := {maxSteps := 2000000}) only [↓aw_region, ↓aw_skip, ↓aw_seq, ↓aw_block, ↓aw_exit, ↓aw_ret, ↓sops_nil, ↓sops_go, ↓dops_nil, ↓dopsX_nil, ↓dopsR_nil, ↓vdn, vup, extr_20, extr_21, extr_30, extr_31, extr_32, List.map_cons, List.map_nil, cond_true, cond_false, aop, aThen, aBlock, argEnv, ev, sput, sputO, binK, binI, unK, builtinK, pickK, Nat.reduceBEq, Nat.reduceAdd, Int.reduceBEq, Int.reduceBNe, Int.reduceLT, aPost, resK, tup, tyf, hf])
  | true =>
    have hf : r = true := by rw [hr]; exact decide_eq_true ⟨hax, hac, h1, h2, h3⟩
    refine aw_regcut 8 fun N1 hN1 => ?_
    simp (config := {maxSteps := 2000000}) only [↓aw_region, ↓aw_skip, ↓aw_seq, ↓aw_block, ↓aw_exit, ↓aw_ret, ↓sops_nil, ↓sops_go, ↓dops_nil, ↓dopsX_nil, ↓dopsR_nil, ↓vdn, vup, extr_20, extr_21, extr_30, extr_31, extr_32, List.map_cons, List.map_nil, cond_true, cond_false, aop, aThen, aBlock, argEnv, ev, sput, sputO, binK, binI, unK, builtinK, pickK, Nat.reduceBEq, Nat.reduceAdd, Int.reduceBEq, Int.reduceBNe, Int.reduceLT, aPost, resK, tup, tyf, List.take_succ_cons, List.take_zero, c1, c2]
    refine hN1 _ _ ?_
    clear hN1
    clear N1
    refine aw_regcut 10 fun N1 hN1 => ?_
    simp (config := {maxSteps := 2000000}) only [↓aw_region, ↓aw_skip, ↓aw_seq, ↓aw_block, ↓aw_exit, ↓aw_ret, ↓sops_nil, ↓sops_go, ↓dops_nil, ↓dopsX_nil, ↓dopsR_nil, ↓vdn, vup, extr_20, extr_21, extr_30, extr_31, extr_32, List.map_cons, List.map_nil, cond_true, cond_false, aop, aThen, aBlock, argEnv, ev, sput, sputO, binK, binI, unK, builtinK, pickK, Nat.reduceBEq, Nat.reduceAdd, Int.reduceBEq, Int.reduceBNe, Int.reduceLT, aPost, resK, tup, tyf, List.take_succ_cons, List.take_zero, List.drop_succ_cons, List.drop_zero, ia, la, ta, h1]
    refine hN1 _ _ ?_
    clear hN1
    clear N1
    refine aw_regcut 10 fun N1 hN1 => ?_
    simp (config := {maxSteps := 2000000}) only [↓aw_region, ↓aw_skip, ↓aw_seq, ↓aw_block, ↓aw_exit, ↓aw_ret, ↓sops_nil, ↓sops_go, ↓dops_nil, ↓dopsX_nil, ↓dopsR_nil, ↓vdn, vup, extr_20, extr_21, extr_30, extr_31, extr_32, List.map_cons, List.map_nil, cond_true, cond_false, aop, aThen, aBlock, argEnv, ev, sput, sputO, binK, binI, unK, builtinK, pickK, Nat.reduceBEq, Nat.reduceAdd, Int.reduceBEq, Int.reduceBNe, Int.reduceLT, aPost, resK, tup, tyf, List.take_succ_cons, List.take_zero, List.drop_succ_cons, List.drop_zero, ix, lx, tx, h2]
    refine hN1 _ _ ?_
    clear hN1
    clear N1
    simp (config := {maxSteps := 2000000}) only [↓aw_region, ↓aw_skip, ↓aw_seq, ↓aw_block, ↓aw_exit, ↓aw_ret, ↓sops_nil, ↓sops_go, ↓dops_nil, ↓dopsX_nil, ↓dopsR_nil, ↓vdn, vup, extr_20, extr_21, extr_30, extr_31, extr_32, List.map_cons, List.map_nil, cond_true, cond_false, aop, aThen, aBlock, argEnv, ev, sput, sputO, binK, binI, unK, builtinK, pickK, Nat.reduceBEq, Nat.reduceAdd, Int.reduceBEq, Int.reduceBNe, Int.reduceLT, aPost, resK, tup, tyf, List.drop_succ_cons, List.drop_zero, ic, lc, tc, h3]
    exact hN _ (by simp (config := {maxSteps := 2000000}) only [↓aw_region, ↓aw_skip, ↓aw_seq, ↓aw_block, ↓aw_exit, ↓aw_ret, ↓sops_nil, ↓sops_go, ↓dops_nil, ↓dopsX_nil, ↓dopsR_nil, ↓vdn, vup, extr_20, extr_21, extr_30, extr_31, extr_32, List.map_cons, List.map_nil, cond_true, cond_false, aop, aThen, aBlock, argEnv, ev, sput, sputO, binK, binI, unK, builtinK, pickK, Nat.reduceBEq, Nat.reduceAdd, Int.reduceBEq, Int.reduceBNe, Int.reduceLT, aPost, resK, tup, tyf, hf])

theorem rcycles_call [Tabs prog] {h : Heap} {v : Value} {xs : List Int} (hv : IntSl h v xs) (ht : trn xs = true) : ACall prog 33 [v] h fun r h' => OwnT 40 h' r (cA xs xs.length) ∧ Ext (fun _ => False) h h' := by
  have hl := trn_len ht
  have hsq : xs.length * xs.length ≤ 64 := Nat.mul_le_mul hl.2 hl.2
  have hpw : 2 ^ xs.length ≤ 2 ^ 8 := Nat.pow_le_pow_right (by decide) hl.2
  have hnat : ∀ i, i < xs.length → 0 ≤ xs.getD i 0 ∧ xs.getD i 0 < 9223372036854775808 := fun i hi => by have := trn_nat ht hi; omega
  refine s33_call (by simp) ?_
  simp (config := {maxSteps := 2000000}) only [s33, ↓aw_region, ↓aw_skip, ↓aw_seq, ↓aw_block, ↓aw_exit, ↓aw_ret, ↓sops_nil, ↓sops_go, ↓dops_nil, ↓dopsX_nil, ↓dopsR_nil, ↓vdn, vup, extr_20, extr_21, extr_30, extr_31, extr_32, List.map_cons, List.map_nil, cond_true, cond_false, aop, aThen, aBlock, argEnv, ev, sput, sputO, binK, binI, unK, builtinK, pickK, Nat.reduceBEq, Nat.reduceAdd, Int.reduceBEq, Int.reduceBNe, Int.reduceLT, aPost, resK, tup, tyf, hv.len, ↓aw_loop_eq]
  refine aws_hide fun Q hQ => ?_
  refine aw_loop (γ := Nat × Value × Heap) (fun s => s.1 ≤ xs.length ∧ RS3 h s.2.2 s.2.1 (dA xs s.1))
    (fun s => ([(0, v), (3, s.2.1), (8, vint xs.length), (9, vint s.1)], s.2.2)) (fun s => xs.length - s.1) (0, .slice none 0 0, h) ⟨Nat.zero_le _, .inl ⟨rfl, rfl⟩, Ext.refl _ _, fun _ h => by cases h⟩ (by simp (config := {maxSteps := 2000000}) only [↓aw_region, ↓aw_skip, ↓aw_seq, ↓aw_block, ↓aw_exit, ↓aw_ret, ↓sops_nil, ↓sops_go, ↓dops_nil, ↓dopsX_nil, ↓dopsR_nil, ↓vdn, vup, extr_20, extr_21, extr_30, extr_31, extr_32, List.map_cons, List.map_nil, cond_true, cond_false, aop, aThen, aBlock, argEnv, ev, sput, sputO, binK, binI, unK, builtinK, pickK, Nat.reduceBEq, Nat.reduceAdd, Int.reduceBEq, Int.reduceBNe, Int.reduceLT, aPost, resK, tup, tyf, Int.natCast_zero]) rfl ?_
  rintro ⟨a, ov, hp⟩ ⟨ha, s⟩
  simp only at ha s
  refine aw_hide fun Q2 hQ2 => ?_
  by_cases hin : (a : Int) < xs.length
  · have ha' : a < xs.length := by omega
    simp only [l33_2]
    simp (config := {maxSteps := 2000000}) only [s33, ↓aw_region, ↓aw_skip, ↓aw_seq, ↓aw_block, ↓aw_exit, ↓aw_ret, ↓sops_nil, ↓sops_go, ↓dops_nil, ↓dopsX_nil, ↓dopsR_nil, ↓vdn, vup, extr_20, extr_21, extr_30, extr_31, extr_32, List.map_cons, List.map_nil, cond_true, cond_false, aop, aThen, aBlock, argEnv, ev, sput, sputO, binK, binI, unK, builtinK, pickK, Nat.reduceBEq, Nat.reduceAdd, Int.reduceBEq, Int.reduceBNe, Int.reduceLT, aPost, resK, tup, tyf, hin, (IntSl_ext hv s.2.1).len, ↓aw_loop_eq]
    refine aws_hide fun Q3 hQ3 => ?_
    refine aw_loop (γ := Nat × Value × Heap) (fun t => t.1 ≤ xs.length ∧ RS3 h t.2.2 t.2.1 (dA xs a ++ dX xs a t.1))
      (fun t => ([(0, v), (3, t.2.1), (4, vint a), (8, vint xs.length), (9, vint a), (13, vint xs.length), (14, vint t.1)], t.2.2)) (fun t => xs.length - t.1) (0, ov, hp) ⟨Nat.zero_le _, by simpa [dX] using s⟩ (by simp (config := {maxSteps := 2000000}) only [↓aw_region, ↓aw_skip, ↓aw_seq, ↓aw_block, ↓aw_exit, ↓aw_ret, ↓sops_nil, ↓sops_go, ↓dops_nil, ↓dopsX_nil, ↓dopsR_nil, ↓vdn, vup, extr_20, extr_21, extr_30, extr_31, extr_32, List.map_cons, List.map_nil, cond_true, cond_false, aop, aThen, aBlock, argEnv, ev, sput, sputO, binK, binI, unK, builtinK, pickK, Nat.reduceBEq, Nat.reduceAdd, Int.reduceBEq, Int.reduceBNe, Int.reduceLT, aPost, resK, tup, tyf, Int.natCast_zero]) rfl ?_
    rintro ⟨x, ov2, hp2⟩ ⟨hx, s2⟩
    simp only at hx s2
    refine aw_hide fun Q4 hQ4 => ?_
    by_cases hxn : (x : Int) < xs.length
    · have hx' : x < xs.length := by omega
      simp only [l33_1]
      simp (config := {maxSteps := 2000000}) only [s33, ↓aw_region, ↓aw_skip, ↓aw_seq, ↓aw_block, ↓aw_exit, ↓aw_ret, ↓sops_nil, ↓sops_go, ↓dops_nil, ↓dopsX_nil, ↓dopsR_nil, ↓vdn, vup, extr_20, extr_21, extr_30, extr_31, extr_32, List.map_cons, List.map_nil, cond_true, cond_false, aop, aThen, aBlock, argEnv, ev, sput, sputO, binK, binI, unK, builtinK, pickK, Nat.reduceBEq, Nat.reduceAdd, Int.reduceBEq, Int.reduceBNe, Int.reduceLT, aPost, resK, tup, tyf, hxn, (IntSl_ext hv s2.2.1).len, ↓aw_loop_eq]
      refine aws_hide fun Q5 hQ5 => ?_
      refine aw_loopW (γ := Nat × Value × Heap) (fun u => u.1 ≤ xs.length ∧ RS3 h u.2.2 u.2.1 (dA xs a ++ dX xs a x ++ dC xs a x u.1))
        (fun u => ([(0, v), (3, u.2.1), (4, vint a), (5, vint x), (8, vint xs.length), (9, vint a), (13, vint xs.length), (14, vint x), (18, vint xs.length), (19, vint u.1)], u.2.2)) (fun u => xs.length - u.1) (0, ov2, hp2) ⟨Nat.zero_le _, by simpa [dC] using s2⟩ (by simp (config := {maxSteps := 2000000}) only [↓aw_region, ↓aw_skip, ↓aw_seq, ↓aw_block, ↓aw_exit, ↓aw_ret, ↓sops_nil, ↓sops_go, ↓dops_nil, ↓dopsX_nil, ↓dopsR_nil, ↓vdn, vup, extr_20, extr_21, extr_30, extr_31, extr_32, List.map_cons, List.map_nil, cond_true, cond_false, aop, aThen, aBlock, argEnv, ev, sput, sputO, binK, binI, unK, builtinK, pickK, Nat.reduceBEq, Nat.reduceAdd, Int.reduceBEq, Int.reduceBNe, Int.reduceLT, aPost, resK, tup, tyf, Int.natCast_zero]) rfl ?_
      rintro ⟨c, ov3, hp3⟩ ⟨hc, s3⟩
      simp only at hc s3
      refine aws_hide fun Q6 hQ6 => ?_
      simp only [l33_0]
      refine aws_cut fun N hN => ?_
      simp (config := {maxSteps := 2000000}) only [↓aw_region, ↓aw_skip, ↓aw_seq, ↓aw_block, ↓aw_exit, ↓aw_ret, ↓sops_nil, ↓sops_go, ↓dops_nil, ↓dopsX_nil, ↓dopsR_nil, ↓vdn, vup, extr_20, extr_21, extr_30, extr_31, extr_32, List.map_cons, List.map_nil, cond_true, cond_false, aop, aThen, aBlock, argEnv, ev, sput, sputO, binK, binI, unK, builtinK, pickK, Nat.reduceBEq, Nat.reduceAdd, Int.reduceBEq, Int.reduceBNe, Int.reduceLT, aPost, resK, tup, tyf]
      refine hN [(0, v), (3, ov3), (4, vint a), (5, vint x), (8, vint xs.length), (9, vint a), (13, vint xs.length), (14, vint x), (18, vint xs.length), (19, vint c), (20, .bool (decide (((c : Nat) : Int) < ((xs.length : Nat) : Int))))] _ _ ?_ (by simp (config := {maxSteps := 2000000}) only [↓aw_region, ↓aw_skip, ↓aw_seq, ↓aw_block, ↓aw_exit, ↓aw_ret, ↓sops_nil, ↓sops_go, ↓dops_nil, ↓dopsX_nil, ↓dopsR_nil, ↓vdn, vup, extr_20, extr_21, extr_30, extr_31, extr_32, List.map_cons, List.map_nil, cond_true, cond_false, aop, aThen, aBlock, argEnv, ev, sput, sputO, binK, binI, unK, builtinK, pickK, Nat.reduceBEq, Nat.reduceAdd, Int.reduceBEq, Int.reduceBNe, Int.reduceLT, aPost, resK, tup, tyf])
      clear hN N
      by_cases hc' : c < xs.length
      · have hcn : ((c : Nat) : Int) < ((xs.length : Nat) : Int) := by omega
        have hv3 := IntSl_ext hv s3.2.1
        have hlen : (dA xs a ++ dX xs a x ++ dC xs a x c).length ≤ 1024 := by
          have g1 := dA_le (xs := xs) (k := a)
          have g2 := dX_le (xs := xs) (a := a) (k := x)
          have g3 := dC_le (xs := xs) (a := a) (x := x) (k := c)
          have g4 : a * (xs.length * xs.length) ≤ 8 * 64 := Nat.mul_le_mul (by omega) hsq
          have g5 : x * xs.length ≤ 8 * 8 := Nat.mul_le_mul (by omega) hl.2
          simp only [List.length_append]; omega
        refine aws_cutW fun N hN => ?_
        refine aws_true (by simp (config := {maxSteps := 2000000}) only [↓aw_region, ↓aw_skip, ↓aw_seq, ↓aw_block, ↓aw_exit, ↓aw_ret, ↓sops_nil, ↓sops_go, ↓dops_nil, ↓dopsX_nil, ↓dopsR_nil, ↓vdn, vup, extr_20, extr_21, extr_30, extr_31, extr_32, List.map_cons, List.map_nil, cond_true, cond_false, aop, aThen, aBlock, argEnv, ev, sput, sputO, binK, binI, unK, builtinK, pickK, Nat.reduceBEq, Nat.reduceAdd, Int.reduceBEq, Int.reduceBNe, Int.reduceLT, aPost, resK, tup, tyf, hcn]) (aw_aws ?_)
        simp (config := {maxSteps := 2000000}) only [↓aw_region, ↓aw_skip, ↓aw_seq, ↓aw_block, ↓aw_exit, ↓aw_ret, ↓sops_nil, ↓sops_go, ↓dops_nil, ↓dopsX_nil, ↓dopsR_nil, ↓vdn, vup, extr_20, extr_21, extr_30, extr_31, extr_32, List.map_cons, List.map_nil, cond_true, cond_false, aop, aThen, aBlock, argEnv, ev, sput, sputO, binK, binI, unK, builtinK, pickK, Nat.reduceBEq, Nat.reduceAdd, Int.reduceBEq, Int.reduceBNe, Int.reduceLT, aPost, resK, tup, tyf]
        refine hN [(0, v), (3, ov3), (4, vint a), (5, vint x), (8, vint xs.length), (9, vint a), (13, vint xs.length), (14, vint x), (18, vint xs.length), (19, vint c)] _ _ ?_ (by simp (config := {maxSteps := 2000000}) only [↓aw_region, ↓aw_skip, ↓aw_seq, ↓aw_block, ↓aw_exit, ↓aw_ret, ↓sops_nil, ↓sops_go, ↓dops_nil, ↓dopsX_nil, ↓dopsR_nil, ↓vdn, vup, extr_20, extr_21, extr_30, extr_31, extr_32, List.map_cons, List.map_nil, cond_true, cond_false, aop, aThen, aBlock, argEnv, ev, sput, sputO, binK, binI, unK, builtinK, pickK, Nat.reduceBEq, Nat.reduceAdd, Int.reduceBEq, Int.reduceBNe, Int.reduceLT, aPost, resK, tup, tyf])
        clear hN N
        refine aws_cutW fun N hN => ?_
        -- what is left of the round
        have rest : ∀ e' ov4 hp4, ELe e' [(0, v), (3, ov4), (4, vint a), (5, vint x), (8, vint xs.length), (9, vint a), (13, vint xs.length), (14, vint x), (18, vint xs.length), (19, vint c)] → RS3 h hp4 ov4 (dA xs a ++ dX xs a x ++ dC xs a x (c + 1)) → N e' hp4 := fun e' ov4 hp4 he s4 => by
          refine hN [(0, v), (3, ov4), (4, vint a), (5, vint x), (8, vint xs.length), (9, vint a), (13, vint xs.length), (14, vint x), (18, vint xs.length), (19, vint c)] _ _ ?_ he
          refine aw_aws ?_
          simp (config := {maxSteps := 2000000}) only [↓aw_region, ↓aw_skip, ↓aw_seq, ↓aw_block, ↓aw_exit, ↓aw_ret, ↓sops_nil, ↓sops_go, ↓dops_nil, ↓dopsX_nil, ↓dopsR_nil, ↓vdn, vup, extr_20, extr_21, extr_30, extr_31, extr_32, List.map_cons, List.map_nil, cond_true, cond_false, aop, aThen, aBlock, argEnv, ev, sput, sputO, binK, binI, unK, builtinK, pickK, Nat.reduceBEq, Nat.reduceAdd, Int.reduceBEq, Int.reduceBNe, Int.reduceLT, aPost, resK, tup, tyf, add1 (show c < 9223372036854775807 by omega)]
          exact hQ6 _ _ _ ⟨(c + 1, ov4, hp4), ⟨by simp only; omega, s4⟩, by simp only; omega, by simp (config := {maxSteps := 2000000}) only [↓aw_region, ↓aw_skip, ↓aw_seq, ↓aw_block, ↓aw_exit, ↓aw_ret, ↓sops_nil, ↓sops_go, ↓dops_nil, ↓dopsX_nil, ↓dopsR_nil, ↓vdn, vup, extr_20, extr_21, extr_30, extr_31, extr_32, List.map_cons, List.map_nil, cond_true, cond_false, aop, aThen, aBlock, argEnv, ev, sput, sputO, binK, binI, unK, builtinK, pickK, Nat.reduceBEq, Nat.reduceAdd, Int.reduceBEq, Int.reduceBNe, Int.reduceLT, aPost, resK, tup, tyf], rfl⟩
        refine aws_block ?_
        refine aws_cut fun N2 hN2 => ?_
        simp (config := {maxSteps := 2000000}) only [↓aw_region, ↓aw_skip, ↓aw_seq, ↓aw_block, ↓aw_exit, ↓aw_ret, ↓sops_nil, ↓sops_go, ↓dops_nil, ↓dopsX_nil, ↓dopsR_nil, ↓vdn, vup, extr_20, extr_21, extr_30, extr_31, extr_32, List.map_cons, List.map_nil, cond_true, cond_false, aop, aThen, aBlock, argEnv, ev, sput, sputO, binK, binI, unK, builtinK, pickK, Nat.reduceBEq, Nat.reduceAdd, Int.reduceBEq, Int.reduceBNe, Int.reduceLT, aPost, resK, tup, tyf]
        refine hN2 [(0, v), (3, ov3), (4, vint a), (5, vint x), (8, vint xs.length), (9, vint a), (13, vint xs.length), (14, vint x), (18, vint xs.length), (19, vint c), (6, vint c)] _ _ ?_ (by simp (config := {maxSteps := 2000000}) only [↓aw_region, ↓aw_skip, ↓aw_seq, ↓aw_block, ↓aw_exit, ↓aw_ret, ↓sops_nil, ↓sops_go, ↓dops_nil, ↓dopsX_nil, ↓dopsR_nil, ↓vdn, vup, extr_20, extr_21, extr_30, extr_31, extr_32, List.map_cons, List.map_nil, cond_true, cond_false, aop, aThen, aBlock, argEnv, ev, sput, sputO, binK, binI, unK, builtinK, pickK, Nat.reduceBEq, Nat.reduceAdd, Int.reduceBEq, Int.reduceBNe, Int.reduceLT, aPost, resK, tup, tyf])
        clear hN2 N2
        refine aws_cut fun N2 hN2 => ?_
        refine tri_test hv3 ha' hx' hc' hnat rfl fun e' he' => ?_
        refine hN2 [(0, v), (3, ov3), (4, vint a), (5, vint x), (8, vint xs.length), (9, vint a), (13, vint xs.length), (14, vint x), (18, vint xs.length), (19, vint c), (6, vint c), (59, .bool (decide (a < x ∧ a < c ∧ bb xs a x = true ∧ bb xs x c = true ∧ bb xs c a = true)))] _ _ ?_ (by
          simp only [ele_cons, ele_nil, and_true] at he' ⊢
          obtain ⟨q1, q2, q3, q4, q5, q6, q7, q8, q9, q10, q11, q12⟩ := he'
          exact ⟨q1, q2, q3, q4, q6, q7, q8, q9, q10, q11, q5, q12⟩)
        clear hN2 N2 he'
        by_cases hyes : a < x ∧ a < c ∧ bb xs a x = true ∧ bb xs x c = true ∧ bb xs c a = true
        · refine aws_true (by simp (config := {maxSteps := 2000000}) only [↓aw_region, ↓aw_skip, ↓aw_seq, ↓aw_block, ↓aw_exit, ↓aw_ret, ↓sops_nil, ↓sops_go, ↓dops_nil, ↓dopsX_nil, ↓dopsR_nil, ↓vdn, vup, extr_20, extr_21, extr_30, extr_31, extr_32, List.map_cons, List.map_nil, cond_true, cond_false, aop, aThen, aBlock, argEnv, ev, sput, sputO, binK, binI, unK, builtinK, pickK, Nat.reduceBEq, Nat.reduceAdd, Int.reduceBEq, Int.reduceBNe, Int.reduceLT, aPost, resK, tup, tyf, hyes, decide_true]) (aw_aws ?_)
          simp (config := {maxSteps := 2000000}) only [↓aw_region, ↓aw_skip, ↓aw_seq, ↓aw_block, ↓aw_exit, ↓aw_ret, ↓sops_nil, ↓sops_go, ↓dops_nil, ↓dopsX_nil, ↓dopsR_nil, ↓vdn, vup, extr_20, extr_21, extr_30, extr_31, extr_32, List.map_cons, List.map_nil, cond_true, cond_false, aop, aThen, aBlock, argEnv, ev, sput, sputO, binK, binI, unK, builtinK, pickK, Nat.reduceBEq, Nat.reduceAdd, Int.reduceBEq, Int.reduceBNe, Int.reduceLT, aPost, resK, tup, tyf, List.toList_toArray, bld3, litT el_36 zero_40 esz_40]
          refine s3.push (by omega) fun v' h' s4 => ?_
          refine rest _ v' h' (by simp (config := {maxSteps := 2000000}) only [↓aw_region, ↓aw_skip, ↓aw_seq, ↓aw_block, ↓aw_exit, ↓aw_ret, ↓sops_nil, ↓sops_go, ↓dops_nil, ↓dopsX_nil, ↓dopsR_nil, ↓vdn, vup, extr_20, extr_21, extr_30, extr_31, extr_32, List.map_cons, List.map_nil, cond_true, cond_false, aop, aThen, aBlock, argEnv, ev, sput, sputO, binK, binI, unK, builtinK, pickK, Nat.reduceBEq, Nat.reduceAdd, Int.reduceBEq, Int.reduceBNe, Int.reduceLT, aPost, resK, tup, tyf]) ?_
          rw [dC_succ, if_pos hyes, ← List.append_assoc]; exact s4
        · refine aws_false (by simp (config := {maxSteps := 2000000}) only [↓aw_region, ↓aw_skip, ↓aw_seq, ↓aw_block, ↓aw_exit, ↓aw_ret, ↓sops_nil, ↓sops_go, ↓dops_nil, ↓dopsX_nil, ↓dopsR_nil, ↓vdn, vup, extr_20, extr_21, extr_30, extr_31, extr_32, List.map_cons, List.map_nil, cond_true, cond_false, aop, aThen, aBlock, argEnv, ev, sput, sputO, binK, binI, unK, builtinK, pickK, Nat.reduceBEq, Nat.reduceAdd, Int.reduceBEq, Int.reduceBNe, Int.reduceLT, aPost, resK, tup, tyf, hyes, decide_false]) (aw_aws ?_)
          simp (config := {maxSteps := 2000000}) only [↓aw_region, ↓aw_skip, ↓aw_seq, ↓aw_block, ↓aw_exit, ↓aw_ret, ↓sops_nil, ↓sops_go, ↓dops_nil, ↓dopsX_nil, ↓dopsR_nil, ↓vdn, vup, extr_20, extr_21, extr_30, extr_31, extr_32, List.map_cons, List.map_nil, cond_true, cond_false, aop, aThen, aBlock, argEnv, ev, sput, sputO, binK, binI, unK, builtinK, pickK, Nat.reduceBEq, Nat.reduceAdd, Int.reduceBEq, Int.reduceBNe, Int.reduceLT, aPost, resK, tup, tyf]
          refine rest _ ov3 hp3 (by simp (config := {maxSteps := 2000000}) only [↓aw_region, ↓aw_skip, ↓aw_seq, ↓aw_block, ↓aw_exit, ↓aw_ret, ↓sops_nil, ↓sops_go, ↓dops_nil, ↓dopsX_nil, ↓dopsR_nil, ↓vdn, vup, extr_20, extr_21, extr_30, extr_31, extr_32, List.map_cons, List.map_nil, cond_true, cond_false, aop, aThen, aBlock, argEnv, ev, sput, sputO, binK, binI, unK, builtinK, pickK, Nat.reduceBEq, Nat.reduceAdd, Int.reduceBEq, Int.reduceBNe, Int.reduceLT, aPost, resK, tup, tyf]) ?_
          rw [dC_succ, if_neg hyes, List.append_nil]; exact s3
      · obtain rfl : c = xs.length := by omega
        refine aws_cutW fun N hN => ?_
        refine aws_false (by simp (config := {maxSteps := 2000000}) only [↓aw_region, ↓aw_skip, ↓aw_seq, ↓aw_block, ↓aw_exit, ↓aw_ret, ↓sops_nil, ↓sops_go, ↓dops_nil, ↓dopsX_nil, ↓dopsR_nil, ↓vdn, vup, extr_20, extr_21, extr_30, extr_31, extr_32, List.map_cons, List.map_nil, cond_true, cond_false, aop, aThen, aBlock, argEnv, ev, sput, sputO, binK, binI, unK, builtinK, pickK, Nat.reduceBEq, Nat.reduceAdd, Int.reduceBEq, Int.reduceBNe, Int.reduceLT, aPost, resK, tup, tyf, Int.lt_irrefl, decide_false]) (aw_aws ?_)
        simp (config := {maxSteps := 2000000}) only [↓aw_region, ↓aw_skip, ↓aw_seq, ↓aw_block, ↓aw_exit, ↓aw_ret, ↓sops_nil, ↓sops_go, ↓dops_nil, ↓dopsX_nil, ↓dopsR_nil, ↓vdn, vup, extr_20, extr_21, extr_30, extr_31, extr_32, List.map_cons, List.map_nil, cond_true, cond_false, aop, aThen, aBlock, argEnv, ev, sput, sputO, binK, binI, unK, builtinK, pickK, Nat.reduceBEq, Nat.reduceAdd, Int.reduceBEq, Int.reduceBNe, Int.reduceLT, aPost, resK, tup, tyf]
        refine hQ6 _ _ _ (hQ5 _ _ _ ?_)
        simp (config := {maxSteps := 2000000}) only [s33, ↓aw_region, ↓aw_skip, ↓aw_seq, ↓aw_block, ↓aw_exit, ↓aw_ret, ↓sops_nil, ↓sops_go, ↓dops_nil, ↓dopsX_nil, ↓dopsR_nil, ↓vdn, vup, extr_20, extr_21, extr_30, extr_31, extr_32, List.map_cons, List.map_nil, cond_true, cond_false, aop, aThen, aBlock, argEnv, ev, sput, sputO, binK, binI, unK, builtinK, pickK, Nat.reduceBEq, Nat.reduceAdd, Int.reduceBEq, Int.reduceBNe, Int.reduceLT, aPost, resK, tup, tyf, if_true, add1 (show x < 9223372036854775807 by omega)]
        refine hQ4 _ _ _ ⟨(x + 1, ov3, hp3), ⟨by simp only; omega, ?_⟩, by simp only; omega, by simp (config := {maxSteps := 2000000}) only [↓aw_region, ↓aw_skip, ↓aw_seq, ↓aw_block, ↓aw_exit, ↓aw_ret, ↓sops_nil, ↓sops_go, ↓dops_nil, ↓dopsX_nil, ↓dopsR_nil, ↓vdn, vup, extr_20, extr_21, extr_30, extr_31, extr_32, List.map_cons, List.map_nil, cond_true, cond_false, aop, aThen, aBlock, argEnv, ev, sput, sputO, binK, binI, unK, builtinK, pickK, Nat.reduceBEq, Nat.reduceAdd, Int.reduceBEq, Int.reduceBNe, Int.reduceLT, aPost, resK, tup, tyf], rfl⟩
        simp only
        rw [dX_succ, ← List.append_assoc]; exact s3
    · obtain rfl : x = xs.length := by omega
      simp (config := {maxSteps := 2000000}) only [s33, ↓aw_region, ↓aw_skip, ↓aw_seq, ↓aw_block, ↓aw_exit, ↓aw_ret, ↓sops_nil, ↓sops_go, ↓dops_nil, ↓dopsX_nil, ↓dopsR_nil, ↓vdn, vup, extr_20, extr_21, extr_30, extr_31, extr_32, List.map_cons, List.map_nil, cond_true, cond_false, aop, aThen, aBlock, argEnv, ev, sput, sputO, binK, binI, unK, builtinK, pickK, Nat.reduceBEq, Nat.reduceAdd, Int.reduceBEq, Int.reduceBNe, Int.reduceLT, aPost, resK, tup, tyf, l33_1, Int.lt_irrefl]
      refine hQ4 _ _ _ (hQ3 _ _ _ ?_)
      simp (config := {maxSteps := 2000000}) only [s33, ↓aw_region, ↓aw_skip, ↓aw_seq, ↓aw_block, ↓aw_exit, ↓aw_ret, ↓sops_nil, ↓sops_go, ↓dops_nil, ↓dopsX_nil, ↓dopsR_nil, ↓vdn, vup, extr_20, extr_21, extr_30, extr_31, extr_32, List.map_cons, List.map_nil, cond_true, cond_false, aop, aThen, aBlock, argEnv, ev, sput, sputO, binK, binI, unK, builtinK, pickK, Nat.reduceBEq, Nat.reduceAdd, Int.reduceBEq, Int.reduceBNe, Int.reduceLT, aPost, resK, tup, tyf, if_true, add1 (show a < 9223372036854775807 by omega)]
      refine hQ2 _ _ _ ⟨(a + 1, ov2, hp2), ⟨by simp only; omega, ?_⟩, by simp only; omega, by simp (config := {maxSteps := 2000000}) only [↓aw_region, ↓aw_skip, ↓aw_seq, ↓aw_block, ↓aw_exit, ↓aw_ret, ↓sops_nil, ↓sops_go, ↓dops_nil, ↓dopsX_nil, ↓dopsR_nil, ↓vdn, vup, extr_20, extr_21, extr_30, extr_31, extr_32, List.map_cons, List.map_nil, cond_true, cond_false, aop, aThen, aBlock, argEnv, ev, sput, sputO, binK, binI, unK, builtinK, pickK, Nat.reduceBEq, Nat.reduceAdd, Int.reduceBEq, Int.reduceBNe, Int.reduceLT, aPost, resK, tup, tyf], rfl⟩
      simp only
      rw [dA_succ]; exact s2
  · obtain rfl : a = xs.length := by omega
    simp (config := {maxSteps := 2000000}) only [s33, ↓aw_region, ↓aw_skip, ↓aw_seq, ↓aw_block, ↓aw_exit, ↓aw_ret, ↓sops_nil, ↓sops_go, ↓dops_nil, ↓dopsX_nil, ↓dopsR_nil, ↓vdn, vup, extr_20, extr_21, extr_30, extr_31, extr_32, List.map_cons, List.map_nil, cond_true, cond_false, aop, aThen, aBlock, argEnv, ev, sput, sputO, binK, binI, unK, builtinK, pickK, Nat.reduceBEq, Nat.reduceAdd, Int.reduceBEq, Int.reduceBNe, Int.reduceLT, aPost, resK, tup, tyf, l33_2, Int.lt_irrefl]
    refine hQ2 _ _ _ (hQ _ _ _ ?_)
    simp (config := {maxSteps := 2000000}) only [s33, ↓aw_region, ↓aw_skip, ↓aw_seq, ↓aw_block, ↓aw_exit, ↓aw_ret, ↓sops_nil, ↓sops_go, ↓dops_nil, ↓dopsX_nil, ↓dopsR_nil, ↓vdn, vup, extr_20, extr_21, extr_30, extr_31, extr_32, List.map_cons, List.map_nil, cond_true, cond_false, aop, aThen, aBlock, argEnv, ev, sput, sputO, binK, binI, unK, builtinK, pickK, Nat.reduceBEq, Nat.reduceAdd, Int.reduceBEq, Int.reduceBNe, Int.reduceLT, aPost, resK, tup, tyf, if_true]
    have s1 := s.1
    rw [dA_all ht] at s1
    exact ⟨s1, s.2.1⟩
end Go.Proofs.Tryd.Am

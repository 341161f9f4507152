/-
  ranks: Clear and Cycles.
-/
import Derived.Test.YtemmcfeekpblkaaDoorRkCyc
import Derived.Test.YtemmcfeekpblkaaDoorFnC
import Derived.Test.YtemmcfeekpblkaaDoorRkPop
set_option linter.all false
namespace Go.Proofs.Tryd.Am
open Go.Am
set_option maxRecDepth 100000
set_option maxHeartbeats 1000000

/-- Whether a set has all of a cycle. -/
theorem clear1_call [Tabs prog] {h : Heap} {bs s : Nat} (hb : h[bs]? = some (.cells [vint s] 3 false)) (hs : s < 9223372036854775808) (c : Nat × Nat × Nat) : APure prog 72 [tV (cI c), .pointer (some ⟨bs, 0, none⟩)] h (.bool (Clr.has s c)) := by
  obtain ⟨a, x, c⟩ := c
  refine ACall.forget (Low.bool _) ?_
  refine s72_call (by simp) ?_
  have hbx : ∀ {K : Value → Heap → Prop}, boxK prog h 40 (tV (cI (a, x, c))) K = K (newPtr h) (h ++ [.cells [vint a, vint x, vint c] 40 false]) := fun {K} => by
    simp [boxK, esz_40, newPtr, cellsOf, tV, cI]
  have c0 := get_new h (Blk.cells [vint (a : Nat), vint (x : Nat), vint (c : Nat)] 40 false)
  have hb2 := get_old hb [Blk.cells [vint (a : Nat), vint (x : Nat), vint (c : Nat)] 40 false]
  have hE : Ext (fun _ => False) h (h ++ [Blk.cells [vint (a : Nat), vint (x : Nat), vint (c : Nat)] 40 false]) := Ext.app _ _ _
  have i0 : ∀ {K : Value → Prop}, idxAddrK prog 40 (.pointer (some ⟨h.length, 0, none⟩)) (.int .i64 0) K = K (.pointer (some ⟨h.length, 0, none⟩)) := fun {K} => idxA (k := 0) und_40 esz_3 (by decide)
  have i1 : ∀ {K : Value → Prop}, idxAddrK prog 40 (.pointer (some ⟨h.length, 0, none⟩)) (.int .i64 1) K = K (.pointer (some ⟨h.length, 1, none⟩)) := fun {K} => idxA (k := 1) und_40 esz_3 (by decide)
  have i2 : ∀ {K : Value → Prop}, idxAddrK prog 40 (.pointer (some ⟨h.length, 0, none⟩)) (.int .i64 2) K = K (.pointer (some ⟨h.length, 2, none⟩)) := fun {K} => idxA (k := 2) und_40 esz_3 (by decide)
  have l0 : ∀ {K : Value → Prop}, loadK prog (h ++ [Blk.cells [vint (a : Nat), vint (x : Nat), vint (c : Nat)] 40 false]) 3 (.pointer (some ⟨h.length, 0, none⟩)) K = K (vint a) := fun {K} => loadC (o := 0) c0 shp_3 rfl
  have l1 : ∀ {K : Value → Prop}, loadK prog (h ++ [Blk.cells [vint (a : Nat), vint (x : Nat), vint (c : Nat)] 40 false]) 3 (.pointer (some ⟨h.length, 1, none⟩)) K = K (vint x) := fun {K} => loadC (o := 1) c0 shp_3 rfl
  have l2 : ∀ {K : Value → Prop}, loadK prog (h ++ [Blk.cells [vint (a : Nat), vint (x : Nat), vint (c : Nat)] 40 false]) 3 (.pointer (some ⟨h.length, 2, none⟩)) K = K (vint c) := fun {K} => loadC (o := 2) c0 shp_3 rfl
  have tt : ∀ y : Nat, (bitsV .and .i64 (shrV .i64 ((s : Nat) : Int) y) 1 == 1) = s.testBit y := fun y => by rw [testV hs, beq1]
  cases h1 : s.testBit a with
  | false =>
    simp (config := {maxSteps := 2000000}) only [s72, ↓aw_region, ↓aw_skip, ↓aw_seq, ↓aw_block, ↓aw_exit, ↓aw_ret, ↓sops_nil, ↓sops_go, ↓dops_nil, ↓dopsX_nil, ↓dopsR_nil, ↓vdn, vup, extr_20, extr_21, extr_30, extr_31, extr_32, List.map_cons, List.map_nil, cond_true, cond_false, aop, aThen, aBlock, argEnv, ev, sput, sputO, binK, binI, unK, builtinK, pickK, Nat.reduceBEq, Nat.reduceAdd, Int.reduceBEq, Int.reduceBNe, Int.reduceLT, aPost, resK, tup, tyf, hbx, newPtr, load1 hb2 shp_3, i0, l0, tt, h1, Clr.has, Bool.false_and]
    exact hE
  | true =>
    cases h2 : s.testBit x with
    | false =>
      simp (config := {maxSteps := 2000000}) only [s72, ↓aw_region, ↓aw_skip, ↓aw_seq, ↓aw_block, ↓aw_exit, ↓aw_ret, ↓sops_nil, ↓sops_go, ↓dops_nil, ↓dopsX_nil, ↓dopsR_nil, ↓vdn, vup, extr_20, extr_21, extr_30, extr_31, extr_32, List.map_cons, List.map_nil, cond_true, cond_false, aop, aThen, aBlock, argEnv, ev, sput, sputO, binK, binI, unK, builtinK, pickK, Nat.reduceBEq, Nat.reduceAdd, Int.reduceBEq, Int.reduceBNe, Int.reduceLT, aPost, resK, tup, tyf, hbx, newPtr, load1 hb2 shp_3, i0, l0, i1, l1, tt, h1, h2, Clr.has, Bool.false_and, Bool.true_and]
      exact hE
    | true =>
      simp (config := {maxSteps := 2000000}) only [s72, ↓aw_region, ↓aw_skip, ↓aw_seq, ↓aw_block, ↓aw_exit, ↓aw_ret, ↓sops_nil, ↓sops_go, ↓dops_nil, ↓dopsX_nil, ↓dopsR_nil, ↓vdn, vup, extr_20, extr_21, extr_30, extr_31, extr_32, List.map_cons, List.map_nil, cond_true, cond_false, aop, aThen, aBlock, argEnv, ev, sput, sputO, binK, binI, unK, builtinK, pickK, Nat.reduceBEq, Nat.reduceAdd, Int.reduceBEq, Int.reduceBNe, Int.reduceLT, aPost, resK, tup, tyf, hbx, newPtr, load1 hb2 shp_3, i0, l0, i1, l1, i2, l2, tt, h1, h2, Clr.has, Bool.true_and]
      exact hE

theorem index_call [Tabs prog] {h : Heap} {v : Value} {ts : List T3} {g : FuncId} {cap : Array Value} {p : Nat → Bool} (hv : TripSl h v ts) (hl : ts.length < 9223372036854775807) (hp : ∀ i, i < ts.length → APure prog g ([tV (ts.getD i Go.Am.t0)] ++ cap.toList) h (.bool (p i))) :
    ACall prog 95 [v, .func (.func g) #[] cap] h fun r h' => h' = h ∧ ∃ z : Int, r = .int .i64 z ∧ decide (0 ≤ z) = (List.range ts.length).any p := by
  refine s95_call (by simp) ?_
  simp (config := {maxSteps := 2000000}) only [s95, ↓aw_region, ↓aw_skip, ↓aw_seq, ↓aw_block, ↓aw_exit, ↓aw_ret, ↓sops_nil, ↓sops_go, ↓dops_nil, ↓dopsX_nil, ↓dopsR_nil, ↓vdn, vup, extr_20, extr_21, extr_30, extr_31, extr_32, List.map_cons, List.map_nil, cond_true, cond_false, aop, aThen, aBlock, argEnv, ev, sput, sputO, binK, binI, unK, builtinK, pickK, Nat.reduceBEq, Nat.reduceAdd, Int.reduceBEq, Int.reduceBNe, Int.reduceLT, aPost, resK, tup, tyf, hv.len, ↓aw_loop_eq]
  refine aws_hide fun Q hQ => ?_
  refine aw_loop (γ := Nat) (fun i => i ≤ ts.length ∧ ∀ k, k < i → p k = false)
    (fun i => ([(0, v), (1, .func (.func g) #[] cap), (7, vint ts.length), (8, vint i)], h)) (fun i => ts.length - i) 0 ⟨Nat.zero_le _, fun _ hk => by omega⟩ (by simp (config := {maxSteps := 2000000}) only [↓aw_region, ↓aw_skip, ↓aw_seq, ↓aw_block, ↓aw_exit, ↓aw_ret, ↓sops_nil, ↓sops_go, ↓dops_nil, ↓dopsX_nil, ↓dopsR_nil, ↓vdn, vup, extr_20, extr_21, extr_30, extr_31, extr_32, List.map_cons, List.map_nil, cond_true, cond_false, aop, aThen, aBlock, argEnv, ev, sput, sputO, binK, binI, unK, builtinK, pickK, Nat.reduceBEq, Nat.reduceAdd, Int.reduceBEq, Int.reduceBNe, Int.reduceLT, aPost, resK, tup, tyf, Int.natCast_zero]) rfl ?_
  rintro i ⟨hi, hno⟩
  refine aw_hide fun Q2 hQ2 => ?_
  by_cases hin : (i : Int) < ts.length
  · have h1 : i < ts.length := by omega
    have hgo := hp i h1
    simp (config := {maxSteps := 2000000}) only [s95, ↓aw_region, ↓aw_skip, ↓aw_seq, ↓aw_block, ↓aw_exit, ↓aw_ret, ↓sops_nil, ↓sops_go, ↓dops_nil, ↓dopsX_nil, ↓dopsR_nil, ↓vdn, vup, extr_20, extr_21, extr_30, extr_31, extr_32, List.map_cons, List.map_nil, cond_true, cond_false, aop, aThen, aBlock, argEnv, ev, sput, sputO, binK, binI, unK, builtinK, pickK, Nat.reduceBEq, Nat.reduceAdd, Int.reduceBEq, Int.reduceBNe, Int.reduceLT, aPost, resK, tup, tyf, l95_0, hin, hv.idx el_36 esz_40 h1, hv.load shp_40 h1, callK, List.nil_append, List.append_nil, List.toList_toArray, List.cons_append]
    refine hgo.mono ?_
    rintro _ h ⟨rfl, rfl⟩
    cases hpi : p i with
    | false =>
      simp (config := {maxSteps := 2000000}) only [s95, ↓aw_region, ↓aw_skip, ↓aw_seq, ↓aw_block, ↓aw_exit, ↓aw_ret, ↓sops_nil, ↓sops_go, ↓dops_nil, ↓dopsX_nil, ↓dopsR_nil, ↓vdn, vup, extr_20, extr_21, extr_30, extr_31, extr_32, List.map_cons, List.map_nil, cond_true, cond_false, aop, aThen, aBlock, argEnv, ev, sput, sputO, binK, binI, unK, builtinK, pickK, Nat.reduceBEq, Nat.reduceAdd, Int.reduceBEq, Int.reduceBNe, Int.reduceLT, aPost, resK, tup, tyf, hpi, add1 (show i < 9223372036854775807 by omega)]
      refine hQ2 _ _ _ ⟨i + 1, ⟨by omega, fun k hk => ?_⟩, by omega, by simp (config := {maxSteps := 2000000}) only [↓aw_region, ↓aw_skip, ↓aw_seq, ↓aw_block, ↓aw_exit, ↓aw_ret, ↓sops_nil, ↓sops_go, ↓dops_nil, ↓dopsX_nil, ↓dopsR_nil, ↓vdn, vup, extr_20, extr_21, extr_30, extr_31, extr_32, List.map_cons, List.map_nil, cond_true, cond_false, aop, aThen, aBlock, argEnv, ev, sput, sputO, binK, binI, unK, builtinK, pickK, Nat.reduceBEq, Nat.reduceAdd, Int.reduceBEq, Int.reduceBNe, Int.reduceLT, aPost, resK, tup, tyf], rfl⟩
      by_cases hki : k = i
      · rw [hki]; exact hpi
      · exact hno k (by omega)
    | true =>
      simp (config := {maxSteps := 2000000}) only [s95, ↓aw_region, ↓aw_skip, ↓aw_seq, ↓aw_block, ↓aw_exit, ↓aw_ret, ↓sops_nil, ↓sops_go, ↓dops_nil, ↓dopsX_nil, ↓dopsR_nil, ↓vdn, vup, extr_20, extr_21, extr_30, extr_31, extr_32, List.map_cons, List.map_nil, cond_true, cond_false, aop, aThen, aBlock, argEnv, ev, sput, sputO, binK, binI, unK, builtinK, pickK, Nat.reduceBEq, Nat.reduceAdd, Int.reduceBEq, Int.reduceBNe, Int.reduceLT, aPost, resK, tup, tyf, hpi]
      refine hQ2 _ _ _ (hQ _ _ _ ?_)
      simp (config := {maxSteps := 2000000}) only [s95, ↓aw_region, ↓aw_skip, ↓aw_seq, ↓aw_block, ↓aw_exit, ↓aw_ret, ↓sops_nil, ↓sops_go, ↓dops_nil, ↓dopsX_nil, ↓dopsR_nil, ↓vdn, vup, extr_20, extr_21, extr_30, extr_31, extr_32, List.map_cons, List.map_nil, cond_true, cond_false, aop, aThen, aBlock, argEnv, ev, sput, sputO, binK, binI, unK, builtinK, pickK, Nat.reduceBEq, Nat.reduceAdd, Int.reduceBEq, Int.reduceBNe, Int.reduceLT, aPost, resK, tup, tyf]
      refine ⟨_, rfl, ?_⟩
      rw [decide_eq_true (Int.natCast_nonneg i)]
      exact (List.any_eq_true.2 ⟨i, List.mem_range.2 h1, hpi⟩).symm
  · obtain rfl : i = ts.length := by omega
    simp (config := {maxSteps := 2000000}) only [s95, ↓aw_region, ↓aw_skip, ↓aw_seq, ↓aw_block, ↓aw_exit, ↓aw_ret, ↓sops_nil, ↓sops_go, ↓dops_nil, ↓dopsX_nil, ↓dopsR_nil, ↓vdn, vup, extr_20, extr_21, extr_30, extr_31, extr_32, List.map_cons, List.map_nil, cond_true, cond_false, aop, aThen, aBlock, argEnv, ev, sput, sputO, binK, binI, unK, builtinK, pickK, Nat.reduceBEq, Nat.reduceAdd, Int.reduceBEq, Int.reduceBNe, Int.reduceLT, aPost, resK, tup, tyf, l95_0, Int.lt_irrefl]
    refine hQ2 _ _ _ (hQ _ _ _ ?_)
    simp (config := {maxSteps := 2000000}) only [s95, ↓aw_region, ↓aw_skip, ↓aw_seq, ↓aw_block, ↓aw_exit, ↓aw_ret, ↓sops_nil, ↓sops_go, ↓dops_nil, ↓dopsX_nil, ↓dopsR_nil, ↓vdn, vup, extr_20, extr_21, extr_30, extr_31, extr_32, List.map_cons, List.map_nil, cond_true, cond_false, aop, aThen, aBlock, argEnv, ev, sput, sputO, binK, binI, unK, builtinK, pickK, Nat.reduceBEq, Nat.reduceAdd, Int.reduceBEq, Int.reduceBNe, Int.reduceLT, aPost, resK, tup, tyf, if_true]
    refine ⟨_, rfl, ?_⟩
    rw [decide_eq_false (by decide)]
    exact (List.any_eq_false.2 fun k hk => by rw [hno k (List.mem_range.1 hk)]; decide).symm
theorem contains_call [Tabs prog] {h : Heap} {v : Value} {ts : List T3} {g : FuncId} {cap : Array Value} {p : Nat → Bool} (hv : TripSl h v ts) (hl : ts.length < 9223372036854775807) (hp : ∀ i, i < ts.length → APure prog g ([tV (ts.getD i Go.Am.t0)] ++ cap.toList) h (.bool (p i))) :
    APure prog 67 [v, .func (.func g) #[] cap] h (.bool ((List.range ts.length).any p)) := by
  refine s67_call (by simp) ?_
  simp (config := {maxSteps := 2000000}) only [s67, ↓aw_region, ↓aw_skip, ↓aw_seq, ↓aw_block, ↓aw_exit, ↓aw_ret, ↓sops_nil, ↓sops_go, ↓dops_nil, ↓dopsX_nil, ↓dopsR_nil, ↓vdn, vup, extr_20, extr_21, extr_30, extr_31, extr_32, List.map_cons, List.map_nil, cond_true, cond_false, aop, aThen, aBlock, argEnv, ev, sput, sputO, binK, binI, unK, builtinK, pickK, Nat.reduceBEq, Nat.reduceAdd, Int.reduceBEq, Int.reduceBNe, Int.reduceLT, aPost, resK, tup, tyf, callK, List.nil_append, List.append_nil, List.toList_toArray, List.cons_append]
  refine (index_call hv hl hp).mono ?_
  rintro _ h ⟨rfl, z, rfl, hz⟩
  simp (config := {maxSteps := 2000000}) only [s67, ↓aw_region, ↓aw_skip, ↓aw_seq, ↓aw_block, ↓aw_exit, ↓aw_ret, ↓sops_nil, ↓sops_go, ↓dops_nil, ↓dopsX_nil, ↓dopsR_nil, ↓vdn, vup, extr_20, extr_21, extr_30, extr_31, extr_32, List.map_cons, List.map_nil, cond_true, cond_false, aop, aThen, aBlock, argEnv, ev, sput, sputO, binK, binI, unK, builtinK, pickK, Nat.reduceBEq, Nat.reduceAdd, Int.reduceBEq, Int.reduceBNe, Int.reduceLT, aPost, resK, tup, tyf, ge_iff_le, hz]

/-- What Cycles hands back. -/
theorem cycles30_call [BitTab prog 1] {h : Heap} {v : Value} {xs : List Int} (hv : IntSl h v xs) (hl : xs.length < 9223372036854775808) (hx : ∀ x ∈ xs, -9223372036854775808 ≤ x ∧ x < 9223372036854775808) :
    ACall prog 30 [v] h fun r h' => Ext (fun _ => False) h h' ∧ if trn xs = true then ∃ w, r = .tuple #[w, .int .i64 0] ∧ OwnT 40 h' w (cA xs xs.length) else r = .tuple #[.slice none 0 0, .int .i64 2] := by
  refine s30_call (by simp) ?_
  simp (config := {maxSteps := 2000000}) only [s30, ↓aw_region, ↓aw_skip, ↓aw_seq, ↓aw_block, ↓aw_exit, ↓aw_ret, ↓sops_nil, ↓sops_go, ↓dops_nil, ↓dopsX_nil, ↓dopsR_nil, ↓vdn, vup, extr_20, extr_21, extr_30, extr_31, extr_32, List.map_cons, List.map_nil, cond_true, cond_false, aop, aThen, aBlock, argEnv, ev, sput, sputO, binK, binI, unK, builtinK, pickK, Nat.reduceBEq, Nat.reduceAdd, Int.reduceBEq, Int.reduceBNe, Int.reduceLT, aPost, resK, tup, tyf, callK, List.nil_append, List.append_nil, List.toList_toArray, List.cons_append]
  refine (valid_call hv hl hx).mono ?_
  rintro _ h ⟨rfl, rfl⟩
  cases ht : trn xs with
  | false =>
    simp (config := {maxSteps := 2000000}) only [s30, ↓aw_region, ↓aw_skip, ↓aw_seq, ↓aw_block, ↓aw_exit, ↓aw_ret, ↓sops_nil, ↓sops_go, ↓dops_nil, ↓dopsX_nil, ↓dopsR_nil, ↓vdn, vup, extr_20, extr_21, extr_30, extr_31, extr_32, List.map_cons, List.map_nil, cond_true, cond_false, aop, aThen, aBlock, argEnv, ev, sput, sputO, binK, binI, unK, builtinK, pickK, Nat.reduceBEq, Nat.reduceAdd, Int.reduceBEq, Int.reduceBNe, Int.reduceLT, aPost, resK, tup, tyf, ht, Bool.false_eq_true, if_false]
    exact Ext.refl _ _
  | true =>
    simp (config := {maxSteps := 2000000}) only [s30, ↓aw_region, ↓aw_skip, ↓aw_seq, ↓aw_block, ↓aw_exit, ↓aw_ret, ↓sops_nil, ↓sops_go, ↓dops_nil, ↓dopsX_nil, ↓dopsR_nil, ↓vdn, vup, extr_20, extr_21, extr_30, extr_31, extr_32, List.map_cons, List.map_nil, cond_true, cond_false, aop, aThen, aBlock, argEnv, ev, sput, sputO, binK, binI, unK, builtinK, pickK, Nat.reduceBEq, Nat.reduceAdd, Int.reduceBEq, Int.reduceBNe, Int.reduceLT, aPost, resK, tup, tyf, ht, callK, List.nil_append, List.append_nil, List.toList_toArray, List.cons_append]
    refine (cycles_call hv ht).mono ?_
    rintro r h' ⟨hr, hE⟩
    simp (config := {maxSteps := 2000000}) only [s30, ↓aw_region, ↓aw_skip, ↓aw_seq, ↓aw_block, ↓aw_exit, ↓aw_ret, ↓sops_nil, ↓sops_go, ↓dops_nil, ↓dopsX_nil, ↓dopsR_nil, ↓vdn, vup, extr_20, extr_21, extr_30, extr_31, extr_32, List.map_cons, List.map_nil, cond_true, cond_false, aop, aThen, aBlock, argEnv, ev, sput, sputO, binK, binI, unK, builtinK, pickK, Nat.reduceBEq, Nat.reduceAdd, Int.reduceBEq, Int.reduceBNe, Int.reduceLT, aPost, resK, tup, tyf, if_true]
    exact ⟨hE, r, rfl, hr⟩

theorem range_any {α : Type} {p : α → Bool} {d : α} : ∀ l : List α, ((List.range l.length).any fun i => p (l.getD i d)) = l.any p := fun l => by
  rw [Bool.eq_iff_iff, List.any_eq_true, List.any_eq_true]
  constructor
  · rintro ⟨i, hi, h⟩
    have hi' := List.mem_range.1 hi
    rw [List.getD, List.getElem?_eq_getElem hi'] at h
    exact ⟨_, List.getElem_mem hi', h⟩
  · rintro ⟨x, hx, h⟩
    obtain ⟨i, hi, rfl⟩ := List.mem_iff_getElem.1 hx
    exact ⟨i, List.mem_range.2 hi, by rw [List.getD, List.getElem?_eq_getElem hi]; exact h⟩
/-- What Clear hands back. -/
def clearV (xs : List Int) : Value := if trn xs = true then .tuple #[vint (clr xs : Nat), .int .i64 0] else .tuple #[.int .i64 0, .int .i64 2]
theorem bestTo_le {n : Nat} {b : Nat → Nat → Bool} : ∀ m, Clr.bestTo n b m ≤ 64
  | 0 => by simp [Clr.bestTo]
  | m + 1 => by
    have := bestTo_le (n := n) (b := b) m
    have h2 : (Am.bits m).length ≤ 64 := by
      have := List.length_filter_le (fun i => m.testBit i) (List.range 64)
      rwa [List.length_range] at this
    rw [Clr.bestTo]
    split <;> omega
theorem clear_call [BitTab prog 1] {h : Heap} {v : Value} {xs : List Int} (hv : IntSl h v xs) (hl : xs.length < 9223372036854775808) (hx : ∀ x ∈ xs, -9223372036854775808 ≤ x ∧ x < 9223372036854775808) : APure prog 36 [v] h (clearV xs) := by
  have hlow : Low (clearV xs) := by unfold clearV; split <;> exact .pair (.int _ _) (.int _ _)
  refine ACall.forget hlow ?_
  refine s36_call (by simp) ?_
  simp only [s36]
  refine aw_cut fun N hN => ?_
  simp (config := {maxSteps := 2000000}) only [s36, ↓aw_region, ↓aw_skip, ↓aw_seq, ↓aw_block, ↓aw_exit, ↓aw_ret, ↓sops_nil, ↓sops_go, ↓dops_nil, ↓dopsX_nil, ↓dopsR_nil, ↓vdn, vup, extr_20, extr_21, extr_30, extr_31, extr_32, List.map_cons, List.map_nil, cond_true, cond_false, aop, aThen, aBlock, argEnv, ev, sput, sputO, binK, binI, unK, builtinK, pickK, Nat.reduceBEq, Nat.reduceAdd, Int.reduceBEq, Int.reduceBNe, Int.reduceLT, aPost, resK, tup, tyf]
  refine hN _ _ ?_
  clear hN N
  refine aw_cut fun N hN => ?_
  simp (config := {maxSteps := 2000000}) only [s36, ↓aw_region, ↓aw_skip, ↓aw_seq, ↓aw_block, ↓aw_exit, ↓aw_ret, ↓sops_nil, ↓sops_go, ↓dops_nil, ↓dopsX_nil, ↓dopsR_nil, ↓vdn, vup, extr_20, extr_21, extr_30, extr_31, extr_32, List.map_cons, List.map_nil, cond_true, cond_false, aop, aThen, aBlock, argEnv, ev, sput, sputO, binK, binI, unK, builtinK, pickK, Nat.reduceBEq, Nat.reduceAdd, Int.reduceBEq, Int.reduceBNe, Int.reduceLT, aPost, resK, tup, tyf]
  refine hN _ _ ?_
  clear hN N
  simp (config := {maxSteps := 2000000}) only [s36, ↓aw_region, ↓aw_skip, ↓aw_seq, ↓aw_block, ↓aw_exit, ↓aw_ret, ↓sops_nil, ↓sops_go, ↓dops_nil, ↓dopsX_nil, ↓dopsR_nil, ↓vdn, vup, extr_20, extr_21, extr_30, extr_31, extr_32, List.map_cons, List.map_nil, cond_true, cond_false, aop, aThen, aBlock, argEnv, ev, sput, sputO, binK, binI, unK, builtinK, pickK, Nat.reduceBEq, Nat.reduceAdd, Int.reduceBEq, Int.reduceBNe, Int.reduceLT, aPost, resK, tup, tyf, callK, List.nil_append, List.append_nil, List.toList_toArray, List.cons_append]
  refine (valid_call hv hl hx).mono ?_
  rintro _ h ⟨rfl, rfl⟩
  cases ht : trn xs with
  | false =>
    simp (config := {maxSteps := 2000000}) only [s36, ↓aw_region, ↓aw_skip, ↓aw_seq, ↓aw_block, ↓aw_exit, ↓aw_ret, ↓sops_nil, ↓sops_go, ↓dops_nil, ↓dopsX_nil, ↓dopsR_nil, ↓vdn, vup, extr_20, extr_21, extr_30, extr_31, extr_32, List.map_cons, List.map_nil, cond_true, cond_false, aop, aThen, aBlock, argEnv, ev, sput, sputO, binK, binI, unK, builtinK, pickK, Nat.reduceBEq, Nat.reduceAdd, Int.reduceBEq, Int.reduceBNe, Int.reduceLT, aPost, resK, tup, tyf, ht]
    rw [clearV, ht]
    exact ⟨rfl, Ext.refl _ _⟩
  | true =>
    have hlen := trn_len ht
    have hpw : 2 ^ xs.length ≤ 2 ^ 8 := Nat.pow_le_pow_right (by decide) hlen.2
    have hsh : shlV .i64 1 ((xs.length : Nat) : Int) = ((2 ^ xs.length : Nat) : Int) := by rw [shl1 (by omega)]; simp
    simp (config := {maxSteps := 2000000}) only [s36, ↓aw_region, ↓aw_skip, ↓aw_seq, ↓aw_block, ↓aw_exit, ↓aw_ret, ↓sops_nil, ↓sops_go, ↓dops_nil, ↓dopsX_nil, ↓dopsR_nil, ↓vdn, vup, extr_20, extr_21, extr_30, extr_31, extr_32, List.map_cons, List.map_nil, cond_true, cond_false, aop, aThen, aBlock, argEnv, ev, sput, sputO, binK, binI, unK, builtinK, pickK, Nat.reduceBEq, Nat.reduceAdd, Int.reduceBEq, Int.reduceBNe, Int.reduceLT, aPost, resK, tup, tyf, ht, hv.len, hsh, ↓aw_loop_eq]
    refine aws_hide fun Q hQ => ?_
    refine aw_loop (γ := Nat × Heap) (fun s => s.1 ≤ 2 ^ xs.length ∧ Ext (fun _ => False) h s.2)
      (fun s => ([(0, v), (4, v), (5, vint (Clr.bestTo xs.length (bb xs) s.1 : Nat)), (14, vint (2 ^ xs.length : Nat)), (15, vint s.1)], s.2)) (fun s => 2 ^ xs.length - s.1) (0, h) ⟨Nat.zero_le _, Ext.refl _ _⟩ (by simp (config := {maxSteps := 2000000}) only [↓aw_region, ↓aw_skip, ↓aw_seq, ↓aw_block, ↓aw_exit, ↓aw_ret, ↓sops_nil, ↓sops_go, ↓dops_nil, ↓dopsX_nil, ↓dopsR_nil, ↓vdn, vup, extr_20, extr_21, extr_30, extr_31, extr_32, List.map_cons, List.map_nil, cond_true, cond_false, aop, aThen, aBlock, argEnv, ev, sput, sputO, binK, binI, unK, builtinK, pickK, Nat.reduceBEq, Nat.reduceAdd, Int.reduceBEq, Int.reduceBNe, Int.reduceLT, aPost, resK, tup, tyf, Int.natCast_zero, Clr.bestTo]) rfl ?_
    rintro ⟨k, hp⟩ ⟨hk, hE⟩
    simp only at hk hE
    refine aw_hide fun Q2 hQ2 => ?_
    by_cases hin : (k : Int) < ((2 ^ xs.length : Nat) : Int)
    · have hk' : k < 2 ^ xs.length := by omega
      obtain ⟨b1, hE1⟩ := newBox hp k
      simp (config := {maxSteps := 2000000}) only [s36, ↓aw_region, ↓aw_skip, ↓aw_seq, ↓aw_block, ↓aw_exit, ↓aw_ret, ↓sops_nil, ↓sops_go, ↓dops_nil, ↓dopsX_nil, ↓dopsR_nil, ↓vdn, vup, extr_20, extr_21, extr_30, extr_31, extr_32, List.map_cons, List.map_nil, cond_true, cond_false, aop, aThen, aBlock, argEnv, ev, sput, sputO, binK, binI, unK, builtinK, pickK, Nat.reduceBEq, Nat.reduceAdd, Int.reduceBEq, Int.reduceBNe, Int.reduceLT, aPost, resK, tup, tyf, l36_0, hin, allocK, newPtr, zero_3]
      rw [storeI (get_new _ _) shp_3]
      generalize hbb : hp.length = bs at b1 hE1 ⊢
      generalize (hp ++ [Blk.cells [.int .i64 0] 3 false]).set bs (.cells [.int .i64 (k : Int)] 3 false) = h1 at b1 hE1 ⊢
      have hEh := hE.trans hE1
      simp (config := {maxSteps := 2000000}) only [s36, ↓aw_region, ↓aw_skip, ↓aw_seq, ↓aw_block, ↓aw_exit, ↓aw_ret, ↓sops_nil, ↓sops_go, ↓dops_nil, ↓dopsX_nil, ↓dopsR_nil, ↓vdn, vup, extr_20, extr_21, extr_30, extr_31, extr_32, List.map_cons, List.map_nil, cond_true, cond_false, aop, aThen, aBlock, argEnv, ev, sput, sputO, binK, binI, unK, builtinK, pickK, Nat.reduceBEq, Nat.reduceAdd, Int.reduceBEq, Int.reduceBNe, Int.reduceLT, aPost, resK, tup, tyf, callK, List.nil_append, List.append_nil, List.toList_toArray, List.cons_append]
      refine (cycles_call (IntSl_ext hv hEh) ht).mono ?_
      rintro cv h2 ⟨hcv, hE2⟩
      have b2 := (hE2.2 _ (get_lt b1) id).trans b1
      have hEh2 := hEh.trans hE2
      have hcy := cA_all ht
      have hcl : (cA xs xs.length).length = (Clr.cycles xs.length (bb xs)).length := by rw [hcy, List.length_map]
      have hcle := cA_le ht (Nat.le_refl xs.length)
      simp (config := {maxSteps := 2000000}) only [s36, ↓aw_region, ↓aw_skip, ↓aw_seq, ↓aw_block, ↓aw_exit, ↓aw_ret, ↓sops_nil, ↓sops_go, ↓dops_nil, ↓dopsX_nil, ↓dopsR_nil, ↓vdn, vup, extr_20, extr_21, extr_30, extr_31, extr_32, List.map_cons, List.map_nil, cond_true, cond_false, aop, aThen, aBlock, argEnv, ev, sput, sputO, binK, binI, unK, builtinK, pickK, Nat.reduceBEq, Nat.reduceAdd, Int.reduceBEq, Int.reduceBNe, Int.reduceLT, aPost, resK, tup, tyf, List.map_toArray, callK, List.nil_append, List.append_nil, List.toList_toArray, List.cons_append]
      refine (contains_call (p := fun i => Clr.has k ((Clr.cycles xs.length (bb xs)).getD i (0, 0, 0))) hcv.trip (by omega) fun i hi => ?_).mono ?_
      · have hi' : i < (Clr.cycles xs.length (bb xs)).length := by rw [← hcl]; exact hi
        have e : (cA xs xs.length).getD i Go.Am.t0 = cI ((Clr.cycles xs.length (bb xs)).getD i (0, 0, 0)) := by
          rw [hcy]; simp [List.getD, hi']
        rw [e]
        exact clear1_call b2 (by omega) _
      rintro _ h2 ⟨rfl, rfl⟩
      have hok : (List.range (cA xs xs.length).length).any (fun i => Clr.has k ((Clr.cycles xs.length (bb xs)).getD i (0, 0, 0))) = !Clr.okS xs.length (bb xs) k := by
        rw [hcl, range_any, Clr.okS, Bool.not_not]
      have hbl := bestTo_le (n := xs.length) (b := bb xs) k
      rw [hok]
      cases hs : Clr.okS xs.length (bb xs) k with
      | false =>
        have hnx : Clr.bestTo xs.length (bb xs) (k + 1) = Clr.bestTo xs.length (bb xs) k := by rw [Clr.bestTo, hs]; rfl
        simp (config := {maxSteps := 2000000}) only [s36, ↓aw_region, ↓aw_skip, ↓aw_seq, ↓aw_block, ↓aw_exit, ↓aw_ret, ↓sops_nil, ↓sops_go, ↓dops_nil, ↓dopsX_nil, ↓dopsR_nil, ↓vdn, vup, extr_20, extr_21, extr_30, extr_31, extr_32, List.map_cons, List.map_nil, cond_true, cond_false, aop, aThen, aBlock, argEnv, ev, sput, sputO, binK, binI, unK, builtinK, pickK, Nat.reduceBEq, Nat.reduceAdd, Int.reduceBEq, Int.reduceBNe, Int.reduceLT, aPost, resK, tup, tyf, add1 (show k < 9223372036854775807 by omega)]
        exact hQ2 _ _ _ ⟨(k + 1, h2), ⟨by simp only; omega, hEh2⟩, by simp only; omega, by simp (config := {maxSteps := 2000000}) only [↓aw_region, ↓aw_skip, ↓aw_seq, ↓aw_block, ↓aw_exit, ↓aw_ret, ↓sops_nil, ↓sops_go, ↓dops_nil, ↓dopsX_nil, ↓dopsR_nil, ↓vdn, vup, extr_20, extr_21, extr_30, extr_31, extr_32, List.map_cons, List.map_nil, cond_true, cond_false, aop, aThen, aBlock, argEnv, ev, sput, sputO, binK, binI, unK, builtinK, pickK, Nat.reduceBEq, Nat.reduceAdd, Int.reduceBEq, Int.reduceBNe, Int.reduceLT, aPost, resK, tup, tyf, hnx], rfl⟩
      | true =>
        have hnx : Clr.bestTo xs.length (bb xs) (k + 1) = max (Clr.bestTo xs.length (bb xs) k) (Am.bits k).length := by rw [Clr.bestTo, hs]; rfl
        simp (config := {maxSteps := 2000000}) only [s36, ↓aw_region, ↓aw_skip, ↓aw_seq, ↓aw_block, ↓aw_exit, ↓aw_ret, ↓sops_nil, ↓sops_go, ↓dops_nil, ↓dopsX_nil, ↓dopsR_nil, ↓vdn, vup, extr_20, extr_21, extr_30, extr_31, extr_32, List.map_cons, List.map_nil, cond_true, cond_false, aop, aThen, aBlock, argEnv, ev, sput, sputO, binK, binI, unK, builtinK, pickK, Nat.reduceBEq, Nat.reduceAdd, Int.reduceBEq, Int.reduceBNe, Int.reduceLT, aPost, resK, tup, tyf, load1 b2 shp_3, callK, List.nil_append, List.append_nil, List.toList_toArray, List.cons_append]
        refine (count_call (by omega)).mono ?_
        rintro _ h2 ⟨rfl, rfl⟩
        by_cases hmx : (((Clr.bestTo xs.length (bb xs) k : Nat) : Int)) < (((Am.bits k).length : Nat) : Int)
        · have hnx2 : Clr.bestTo xs.length (bb xs) (k + 1) = (Am.bits k).length := by rw [hnx]; omega
          simp (config := {maxSteps := 2000000}) only [s36, ↓aw_region, ↓aw_skip, ↓aw_seq, ↓aw_block, ↓aw_exit, ↓aw_ret, ↓sops_nil, ↓sops_go, ↓dops_nil, ↓dopsX_nil, ↓dopsR_nil, ↓vdn, vup, extr_20, extr_21, extr_30, extr_31, extr_32, List.map_cons, List.map_nil, cond_true, cond_false, aop, aThen, aBlock, argEnv, ev, sput, sputO, binK, binI, unK, builtinK, pickK, Nat.reduceBEq, Nat.reduceAdd, Int.reduceBEq, Int.reduceBNe, Int.reduceLT, aPost, resK, tup, tyf, mmK, if_true, gt_iff_lt, hmx, add1 (show k < 9223372036854775807 by omega)]
          exact hQ2 _ _ _ ⟨(k + 1, h2), ⟨by simp only; omega, hEh2⟩, by simp only; omega, by simp (config := {maxSteps := 2000000}) only [↓aw_region, ↓aw_skip, ↓aw_seq, ↓aw_block, ↓aw_exit, ↓aw_ret, ↓sops_nil, ↓sops_go, ↓dops_nil, ↓dopsX_nil, ↓dopsR_nil, ↓vdn, vup, extr_20, extr_21, extr_30, extr_31, extr_32, List.map_cons, List.map_nil, cond_true, cond_false, aop, aThen, aBlock, argEnv, ev, sput, sputO, binK, binI, unK, builtinK, pickK, Nat.reduceBEq, Nat.reduceAdd, Int.reduceBEq, Int.reduceBNe, Int.reduceLT, aPost, resK, tup, tyf, hnx2], rfl⟩
        · have hnx2 : Clr.bestTo xs.length (bb xs) (k + 1) = Clr.bestTo xs.length (bb xs) k := by rw [hnx]; omega
          simp (config := {maxSteps := 2000000}) only [s36, ↓aw_region, ↓aw_skip, ↓aw_seq, ↓aw_block, ↓aw_exit, ↓aw_ret, ↓sops_nil, ↓sops_go, ↓dops_nil, ↓dopsX_nil, ↓dopsR_nil, ↓vdn, vup, extr_20, extr_21, extr_30, extr_31, extr_32, List.map_cons, List.map_nil, cond_true, cond_false, aop, aThen, aBlock, argEnv, ev, sput, sputO, binK, binI, unK, builtinK, pickK, Nat.reduceBEq, Nat.reduceAdd, Int.reduceBEq, Int.reduceBNe, Int.reduceLT, aPost, resK, tup, tyf, mmK, if_true, gt_iff_lt, hmx, if_false, add1 (show k < 9223372036854775807 by omega)]
          exact hQ2 _ _ _ ⟨(k + 1, h2), ⟨by simp only; omega, hEh2⟩, by simp only; omega, by simp (config := {maxSteps := 2000000}) only [↓aw_region, ↓aw_skip, ↓aw_seq, ↓aw_block, ↓aw_exit, ↓aw_ret, ↓sops_nil, ↓sops_go, ↓dops_nil, ↓dopsX_nil, ↓dopsR_nil, ↓vdn, vup, extr_20, extr_21, extr_30, extr_31, extr_32, List.map_cons, List.map_nil, cond_true, cond_false, aop, aThen, aBlock, argEnv, ev, sput, sputO, binK, binI, unK, builtinK, pickK, Nat.reduceBEq, Nat.reduceAdd, Int.reduceBEq, Int.reduceBNe, Int.reduceLT, aPost, resK, tup, tyf, hnx2], rfl⟩
    · obtain rfl : k = 2 ^ xs.length := by omega
      simp (config := {maxSteps := 2000000}) only [s36, ↓aw_region, ↓aw_skip, ↓aw_seq, ↓aw_block, ↓aw_exit, ↓aw_ret, ↓sops_nil, ↓sops_go, ↓dops_nil, ↓dopsX_nil, ↓dopsR_nil, ↓vdn, vup, extr_20, extr_21, extr_30, extr_31, extr_32, List.map_cons, List.map_nil, cond_true, cond_false, aop, aThen, aBlock, argEnv, ev, sput, sputO, binK, binI, unK, builtinK, pickK, Nat.reduceBEq, Nat.reduceAdd, Int.reduceBEq, Int.reduceBNe, Int.reduceLT, aPost, resK, tup, tyf, l36_0, Int.lt_irrefl]
      refine hQ2 _ _ _ (hQ _ _ _ ?_)
      simp (config := {maxSteps := 2000000}) only [s36, ↓aw_region, ↓aw_skip, ↓aw_seq, ↓aw_block, ↓aw_exit, ↓aw_ret, ↓sops_nil, ↓sops_go, ↓dops_nil, ↓dopsX_nil, ↓dopsR_nil, ↓vdn, vup, extr_20, extr_21, extr_30, extr_31, extr_32, List.map_cons, List.map_nil, cond_true, cond_false, aop, aThen, aBlock, argEnv, ev, sput, sputO, binK, binI, unK, builtinK, pickK, Nat.reduceBEq, Nat.reduceAdd, Int.reduceBEq, Int.reduceBNe, Int.reduceLT, aPost, resK, tup, tyf, if_true]
      rw [clearV, ht]
      exact ⟨rfl, hE⟩
end Go.Proofs.Tryd.Am

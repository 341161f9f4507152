/-
  order: an order as the program holds it; the small functions.
-/
import Derived.Test.YtnjacpfahhjpiaaDoorAmS
import Derived.Test.YtnjacpfahhjpiaaDoorTypes
import Derived.Test.YtnjacpfahhjpiaaDoorFnA
import Derived.Test.YtnjacpfahhjpiaaDoorPlain
set_option linter.all false
namespace Go.Proofs.Tryd.Am
open Go.Am Ord
set_option maxRecDepth 100000
set_option maxHeartbeats 1000000

/-- An order's cells. -/
def sixs (o : List Int) : List Int := o ++ List.replicate (6 - o.length) 0
def ordC (o : List Int) : List Value := vint o.length :: (sixs o).map vint
def ordV (o : List Int) : Value := .agg (ordC o).toArray
theorem sixs_len {o : List Int} (h : o.length ≤ 6) : (sixs o).length = 6 := by simp [sixs]; omega
theorem ordC_len {o : List Int} (h : o.length ≤ 6) : (ordC o).length = 7 := by simp [ordC, sixs_len h]
theorem ordC_0 {o : List Int} : (ordC o)[0]? = some (vint o.length) := rfl
theorem ordC_get {o : List Int} (h : o.length ≤ 6) {i : Nat} (hi : i < 6) : (ordC o)[1 + i]? = some (vint (o.getD i 0)) := by
  rw [ordC, Nat.add_comm, List.getElem?_cons_succ, List.getElem?_map, sixs, List.getElem?_append]
  by_cases hl : i < o.length
  · simp [hl, List.getD]
  · rw [if_neg hl, List.getElem?_replicate, if_pos (by omega)]
    simp [List.getD, List.getElem?_eq_none (show o.length ≤ i by omega)]
theorem ordC_set {o : List Int} {i : Nat} (hi : i < o.length) (x : Int) : (ordC o).set (1 + i) (vint x) = ordC (o.set i x) := by
  rw [ordC, Nat.add_comm, List.set_cons_succ, ordC, sixs, sixs, List.length_set, List.map_append, List.set_append_left _ _ (by simpa using hi), List.map_append, List.map_set]
theorem ordC_one (o : List Int) : (ordC o).all one = true := by
  rw [List.all_eq_true]
  intro x hx
  rcases List.mem_cons.1 hx with rfl | hx
  · rfl
  · obtain ⟨y, -, rfl⟩ := List.mem_map.1 hx; rfl
theorem Low.ordV (o : List Int) : Low (ordV o) := .agg fun x hx => by
  rcases List.mem_cons.1 hx with rfl | hx
  · exact .int _ _
  · obtain ⟨y, -, rfl⟩ := List.mem_map.1 hx; exact .int _ _
section
variable {P : Program} {h : Heap} {t : TypeId} {o o' : List Int} {b n : Nat} {ro : Bool} {e : TypeId}
theorem boxO {K : Value → Heap → Prop} (hs : esz P t = some n) : boxK P h t (ordV o) K = K (newPtr h) (h ++ [.cells (ordC o) t false]) := by
  have e1 : cellsOf (ordV o) = ordC o := rfl
  simp only [boxK, ordV, hs, Option.isSome_some, true_and]
  rw [show cellsOf (.agg (ordC o).toArray) = ordC o from rfl]
theorem loadO {K : Value → Prop} (hb : h[b]? = some (.cells (ordC o) e ro)) (hs : shp P t = some (some 7)) (hl : o.length ≤ 6) : loadK P h t (.pointer (some ⟨b, 0, none⟩)) K = K (ordV o) :=
  loadA hb (by rw [hs, ordC_len hl])
theorem loadN {K : Value → Prop} (hb : h[b]? = some (.cells (ordC o) e ro)) (hs : shp P t = some none) : loadK P h t (.pointer (some ⟨b, 0, none⟩)) K = K (vint o.length) := loadC hb hs ordC_0
theorem loadI {K : Value → Prop} (hb : h[b]? = some (.cells (ordC o) e ro)) (hs : shp P t = some none) (hl : o.length ≤ 6) {i : Nat} (hi : i < 6) : loadK P h t (.pointer (some ⟨b, 1 + i, none⟩)) K = K (vint (o.getD i 0)) := loadC hb hs (ordC_get hl hi)
theorem storeN {K : Heap → Prop} (hb : h[b]? = some (.cells (ordC o) e false)) (hs : shp P t = some none) (hl : o.length ≤ 6) {i : Nat} (hi : i < o.length) (x : Int) :
    storeK P h t (.pointer (some ⟨b, 1 + i, none⟩)) (vint x) K = K (h.set b (.cells (ordC (o.set i x)) e false)) := by
  rw [storeC hb hs rfl (by rw [ordC_len hl]; omega), ordC_set hi]
theorem storeO {K : Heap → Prop} {c : List Value} (hb : h[b]? = some (.cells c e false)) (hc : c.length = 7) (hs : shp P t = some (some 7)) (hl : o.length ≤ 6) : storeK P h t (.pointer (some ⟨b, 0, none⟩)) (ordV o) K = K (h.set b (.cells (ordC o) e false)) :=
  storeA hb (by rw [hs, ordC_len hl]) (ordC_one o) (by rw [hc, ordC_len hl])
end

theorem shl1 {n : Nat} (h : n ≤ 62) : shlV .i64 1 n = 2 ^ n := by
  have h2 : 2 ^ n ≤ 2 ^ 62 := Nat.pow_le_pow_right (by decide) h
  have := shlV_nat (a := 1) (y := n) (by omega) (by omega)
  simpa using this
theorem pow_cast (n : Nat) : ((2 ^ n : Nat) : Int) = 2 ^ n := by simp
/-- The test of one element, in a set of an order. -/
theorem testO {o : List Int} (h : ord o = true) {i : Nat} (hi : i < o.length) (j : Nat) : bitsV .and .i64 (shrV .i64 (o.getD i 0) j) 1 = if ab o i j then 1 else 0 := by
  have hl := ord_len h
  have := pow6 hl.2
  obtain ⟨h1, h2⟩ := ord_nat h hi
  rw [h1]
  exact testV (by omega)
theorem beq1 (b : Bool) : ((if b then (1 : Int) else 0) == 1) = b := by cases b <;> rfl
theorem beq0 (b : Bool) : ((if b then (1 : Int) else 0) == 0) = !b := by cases b <;> rfl

theorem all_call [Tabs prog] {h : Heap} {o : List Int} (hl : o.length ≤ 6) : APure prog 98 [ordV o] h (vint ((2 ^ o.length - 1 : Nat) : Int)) := by
  have hp := pow6 hl
  have hs : subV .i64 (2 ^ o.length) 1 = ((2 ^ o.length - 1 : Nat) : Int) := by rw [← pow_cast, subV_id (by omega) (by omega)]; omega
  refine ACall.forget (Low.int _ _) ?_
  refine s98_call (by simp) ?_
  simp (config := {maxSteps := 2000000}) only [s98, ↓aw_region, ↓aw_skip, ↓aw_seq, ↓aw_block, ↓aw_exit, ↓aw_ret, ↓sops_nil, ↓sops_go, ↓dops_nil, ↓dopsX_nil, ↓dopsR_nil, ↓vdn, vup, extr_20, extr_21, extr_30, extr_31, extr_32, List.map_cons, List.map_nil, cond_true, cond_false, aop, aThen, aBlock, argEnv, ev, sput, sputO, binK, binI, unK, builtinK, pickK, Nat.reduceBEq, Nat.reduceAdd, Int.reduceBEq, Int.reduceBNe, Int.reduceLT, aPost, resK, tup, tyf, boxO esz_77, fldA fld_77_0 esz_3, loadN (get_new _ _) shp_3, shl1 (show o.length ≤ 62 by omega), hs]
  exact Ext.app _ _ _

theorem element_call [Tabs prog] {h : Heap} {o : List Int} {i : Int} : APure prog 67 [ordV o, vint i] h (.bool (decide (0 ≤ i) && decide (i < o.length))) := by
  refine ACall.forget (Low.bool _) ?_
  refine s67_call (by simp) ?_
  simp (config := {maxSteps := 2000000}) only [s67, ↓aw_region, ↓aw_skip, ↓aw_seq, ↓aw_block, ↓aw_exit, ↓aw_ret, ↓sops_nil, ↓sops_go, ↓dops_nil, ↓dopsX_nil, ↓dopsR_nil, ↓vdn, vup, extr_20, extr_21, extr_30, extr_31, extr_32, List.map_cons, List.map_nil, cond_true, cond_false, aop, aThen, aBlock, argEnv, ev, sput, sputO, binK, binI, unK, builtinK, pickK, Nat.reduceBEq, Nat.reduceAdd, Int.reduceBEq, Int.reduceBNe, Int.reduceLT, aPost, resK, tup, tyf, boxO esz_77]
  by_cases h0 : 0 ≤ i
  · simp (config := {maxSteps := 2000000}) only [s67, ↓aw_region, ↓aw_skip, ↓aw_seq, ↓aw_block, ↓aw_exit, ↓aw_ret, ↓sops_nil, ↓sops_go, ↓dops_nil, ↓dopsX_nil, ↓dopsR_nil, ↓vdn, vup, extr_20, extr_21, extr_30, extr_31, extr_32, List.map_cons, List.map_nil, cond_true, cond_false, aop, aThen, aBlock, argEnv, ev, sput, sputO, binK, binI, unK, builtinK, pickK, Nat.reduceBEq, Nat.reduceAdd, Int.reduceBEq, Int.reduceBNe, Int.reduceLT, aPost, resK, tup, tyf, h0, ge_iff_le, fldA fld_77_0 esz_3, loadN (get_new _ _) shp_3, Bool.true_and]
    exact Ext.app _ _ _
  · simp (config := {maxSteps := 2000000}) only [s67, ↓aw_region, ↓aw_skip, ↓aw_seq, ↓aw_block, ↓aw_exit, ↓aw_ret, ↓sops_nil, ↓sops_go, ↓dops_nil, ↓dopsX_nil, ↓dopsR_nil, ↓vdn, vup, extr_20, extr_21, extr_30, extr_31, extr_32, List.map_cons, List.map_nil, cond_true, cond_false, aop, aThen, aBlock, argEnv, ev, sput, sputO, binK, binI, unK, builtinK, pickK, Nat.reduceBEq, Nat.reduceAdd, Int.reduceBEq, Int.reduceBNe, Int.reduceLT, aPost, resK, tup, tyf, h0, ge_iff_le, Bool.false_and]
    exact Ext.app _ _ _

theorem free_call [Tabs prog] {h : Heap} {o : List Int} (ho : ord o = true) {i j : Nat} (hi : i < o.length) (hj : j < o.length) : APure prog 68 [ordV o, vint i, vint j] h (.bool (fr o i j)) := by
  have hl := ord_len ho
  refine ACall.forget (Low.bool _) ?_
  refine s68_call (by simp) ?_
  simp (config := {maxSteps := 2000000}) only [s68, ↓aw_region, ↓aw_skip, ↓aw_seq, ↓aw_block, ↓aw_exit, ↓aw_ret, ↓sops_nil, ↓sops_go, ↓dops_nil, ↓dopsX_nil, ↓dopsR_nil, ↓vdn, vup, extr_20, extr_21, extr_30, extr_31, extr_32, List.map_cons, List.map_nil, cond_true, cond_false, aop, aThen, aBlock, argEnv, ev, sput, sputO, binK, binI, unK, builtinK, pickK, Nat.reduceBEq, Nat.reduceAdd, Int.reduceBEq, Int.reduceBNe, Int.reduceLT, aPost, resK, tup, tyf, boxO esz_77]
  by_cases hij : i = j
  · have h1 : ((i : Int) != j) = false := by simp [hij]
    have h2 : fr o i j = false := by simp [fr, hij]
    simp (config := {maxSteps := 2000000}) only [s68, ↓aw_region, ↓aw_skip, ↓aw_seq, ↓aw_block, ↓aw_exit, ↓aw_ret, ↓sops_nil, ↓sops_go, ↓dops_nil, ↓dopsX_nil, ↓dopsR_nil, ↓vdn, vup, extr_20, extr_21, extr_30, extr_31, extr_32, List.map_cons, List.map_nil, cond_true, cond_false, aop, aThen, aBlock, argEnv, ev, sput, sputO, binK, binI, unK, builtinK, pickK, Nat.reduceBEq, Nat.reduceAdd, Int.reduceBEq, Int.reduceBNe, Int.reduceLT, aPost, resK, tup, tyf, h1, h2]
    exact Ext.app _ _ _
  · have h1 : ((i : Int) != j) = true := by simp [bne]; omega
    have h2 : fr o i j = (!ab o i j && !ab o j i) := by simp [fr, hij]
    simp (config := {maxSteps := 2000000}) only [s68, ↓aw_region, ↓aw_skip, ↓aw_seq, ↓aw_block, ↓aw_exit, ↓aw_ret, ↓sops_nil, ↓sops_go, ↓dops_nil, ↓dopsX_nil, ↓dopsR_nil, ↓vdn, vup, extr_20, extr_21, extr_30, extr_31, extr_32, List.map_cons, List.map_nil, cond_true, cond_false, aop, aThen, aBlock, argEnv, ev, sput, sputO, binK, binI, unK, builtinK, pickK, Nat.reduceBEq, Nat.reduceAdd, Int.reduceBEq, Int.reduceBNe, Int.reduceLT, aPost, resK, tup, tyf, h1, h2, fldA fld_77_1 esz_75, idxA und_75 esz_3 (show i < 6 by omega), loadI (get_new _ _) shp_3 hl.2 (show i < 6 by omega), testO ho hi, beq0]
    cases hb : ab o i j with
    | true =>
      simp (config := {maxSteps := 2000000}) only [s68, ↓aw_region, ↓aw_skip, ↓aw_seq, ↓aw_block, ↓aw_exit, ↓aw_ret, ↓sops_nil, ↓sops_go, ↓dops_nil, ↓dopsX_nil, ↓dopsR_nil, ↓vdn, vup, extr_20, extr_21, extr_30, extr_31, extr_32, List.map_cons, List.map_nil, cond_true, cond_false, aop, aThen, aBlock, argEnv, ev, sput, sputO, binK, binI, unK, builtinK, pickK, Nat.reduceBEq, Nat.reduceAdd, Int.reduceBEq, Int.reduceBNe, Int.reduceLT, aPost, resK, tup, tyf, Bool.false_and]
      exact Ext.app _ _ _
    | false =>
      simp (config := {maxSteps := 2000000}) only [s68, ↓aw_region, ↓aw_skip, ↓aw_seq, ↓aw_block, ↓aw_exit, ↓aw_ret, ↓sops_nil, ↓sops_go, ↓dops_nil, ↓dopsX_nil, ↓dopsR_nil, ↓vdn, vup, extr_20, extr_21, extr_30, extr_31, extr_32, List.map_cons, List.map_nil, cond_true, cond_false, aop, aThen, aBlock, argEnv, ev, sput, sputO, binK, binI, unK, builtinK, pickK, Nat.reduceBEq, Nat.reduceAdd, Int.reduceBEq, Int.reduceBNe, Int.reduceLT, aPost, resK, tup, tyf, Bool.true_and, fldA fld_77_1 esz_75, idxA und_75 esz_3 (show j < 6 by omega), loadI (get_new _ _) shp_3 hl.2 (show j < 6 by omega), testO ho hj, beq0]
      exact Ext.app _ _ _

theorem above_call [Tabs prog] {h : Heap} {v : Value} {o : List Int} (hv : IntSl h v o) (ho : ord o = true) {i j : Nat} (hi : i < o.length) : APure prog 71 [v, vint i, vint j] h (.bool (ab o i j)) := by
  refine s71_call (by simp) ?_
  simp (config := {maxSteps := 2000000}) only [s71, ↓aw_region, ↓aw_skip, ↓aw_seq, ↓aw_block, ↓aw_exit, ↓aw_ret, ↓sops_nil, ↓sops_go, ↓dops_nil, ↓dopsX_nil, ↓dopsR_nil, ↓vdn, vup, extr_20, extr_21, extr_30, extr_31, extr_32, List.map_cons, List.map_nil, cond_true, cond_false, aop, aThen, aBlock, argEnv, ev, sput, sputO, binK, binI, unK, builtinK, pickK, Nat.reduceBEq, Nat.reduceAdd, Int.reduceBEq, Int.reduceBNe, Int.reduceLT, aPost, resK, tup, tyf, hv.idx el_22 esz_3 hi, hv.load shp_3 hi, Int.natCast_nonneg, testO ho hi, beq1]

theorem rfree_call [Tabs prog] {h : Heap} {v : Value} {o : List Int} (hv : IntSl h v o) (ho : ord o = true) {i j : Nat} (hi : i < o.length) (hj : j < o.length) : APure prog 22 [v, vint i, vint j] h (.bool (fr o i j)) := by
  refine s22_call (by simp) ?_
  by_cases hij : i = j
  · have h1 : ((i : Int) != j) = false := by simp [hij]
    have h2 : fr o i j = false := by simp [fr, hij]
    simp (config := {maxSteps := 2000000}) only [s22, ↓aw_region, ↓aw_skip, ↓aw_seq, ↓aw_block, ↓aw_exit, ↓aw_ret, ↓sops_nil, ↓sops_go, ↓dops_nil, ↓dopsX_nil, ↓dopsR_nil, ↓vdn, vup, extr_20, extr_21, extr_30, extr_31, extr_32, List.map_cons, List.map_nil, cond_true, cond_false, aop, aThen, aBlock, argEnv, ev, sput, sputO, binK, binI, unK, builtinK, pickK, Nat.reduceBEq, Nat.reduceAdd, Int.reduceBEq, Int.reduceBNe, Int.reduceLT, aPost, resK, tup, tyf, h1, h2]
  · have h1 : ((i : Int) != j) = true := by simp [bne]; omega
    have h2 : fr o i j = (!ab o i j && !ab o j i) := by simp [fr, hij]
    simp (config := {maxSteps := 2000000}) only [s22, ↓aw_region, ↓aw_skip, ↓aw_seq, ↓aw_block, ↓aw_exit, ↓aw_ret, ↓sops_nil, ↓sops_go, ↓dops_nil, ↓dopsX_nil, ↓dopsR_nil, ↓vdn, vup, extr_20, extr_21, extr_30, extr_31, extr_32, List.map_cons, List.map_nil, cond_true, cond_false, aop, aThen, aBlock, argEnv, ev, sput, sputO, binK, binI, unK, builtinK, pickK, Nat.reduceBEq, Nat.reduceAdd, Int.reduceBEq, Int.reduceBNe, Int.reduceLT, aPost, resK, tup, tyf, h1, h2, callK, List.nil_append, List.append_nil, List.toList_toArray, List.cons_append]
    refine (above_call hv ho hi).mono ?_
    rintro _ _ ⟨rfl, rfl⟩
    cases hb : ab o i j with
    | true => simp (config := {maxSteps := 2000000}) only [s22, ↓aw_region, ↓aw_skip, ↓aw_seq, ↓aw_block, ↓aw_exit, ↓aw_ret, ↓sops_nil, ↓sops_go, ↓dops_nil, ↓dopsX_nil, ↓dopsR_nil, ↓vdn, vup, extr_20, extr_21, extr_30, extr_31, extr_32, List.map_cons, List.map_nil, cond_true, cond_false, aop, aThen, aBlock, argEnv, ev, sput, sputO, binK, binI, unK, builtinK, pickK, Nat.reduceBEq, Nat.reduceAdd, Int.reduceBEq, Int.reduceBNe, Int.reduceLT, aPost, resK, tup, tyf, Bool.false_and]
    | false =>
      simp (config := {maxSteps := 2000000}) only [s22, ↓aw_region, ↓aw_skip, ↓aw_seq, ↓aw_block, ↓aw_exit, ↓aw_ret, ↓sops_nil, ↓sops_go, ↓dops_nil, ↓dopsX_nil, ↓dopsR_nil, ↓vdn, vup, extr_20, extr_21, extr_30, extr_31, extr_32, List.map_cons, List.map_nil, cond_true, cond_false, aop, aThen, aBlock, argEnv, ev, sput, sputO, binK, binI, unK, builtinK, pickK, Nat.reduceBEq, Nat.reduceAdd, Int.reduceBEq, Int.reduceBNe, Int.reduceLT, aPost, resK, tup, tyf, Bool.true_and, callK, List.nil_append, List.append_nil, List.toList_toArray, List.cons_append]
      refine (above_call hv ho hj).mono ?_
      rintro _ _ ⟨rfl, rfl⟩
      simp (config := {maxSteps := 2000000}) only [s22, ↓aw_region, ↓aw_skip, ↓aw_seq, ↓aw_block, ↓aw_exit, ↓aw_ret, ↓sops_nil, ↓sops_go, ↓dops_nil, ↓dopsX_nil, ↓dopsR_nil, ↓vdn, vup, extr_20, extr_21, extr_30, extr_31, extr_32, List.map_cons, List.map_nil, cond_true, cond_false, aop, aThen, aBlock, argEnv, ev, sput, sputO, binK, binI, unK, builtinK, pickK, Nat.reduceBEq, Nat.reduceAdd, Int.reduceBEq, Int.reduceBNe, Int.reduceLT, aPost, resK, tup, tyf]

theorem elements_call [Tabs prog] {h : Heap} {s : Int} : ACall prog 101 [vint s] h fun r h' => r = .func (.func 114) #[] #[newPtr h] ∧ h' = h ++ [.cells [vint s] 3 false] := by
  refine s101_call (by simp) ?_
  simp (config := {maxSteps := 2000000}) only [s101, ↓aw_region, ↓aw_skip, ↓aw_seq, ↓aw_block, ↓aw_exit, ↓aw_ret, ↓sops_nil, ↓sops_go, ↓dops_nil, ↓dopsX_nil, ↓dopsR_nil, ↓vdn, vup, extr_20, extr_21, extr_30, extr_31, extr_32, List.map_cons, List.map_nil, cond_true, cond_false, aop, aThen, aBlock, argEnv, ev, sput, sputO, binK, binI, unK, builtinK, pickK, Nat.reduceBEq, Nat.reduceAdd, Int.reduceBEq, Int.reduceBNe, Int.reduceLT, aPost, resK, tup, tyf, boxK, cellsOf, Option.isSome_some, List.map_toArray]

/-- What is below, from the first ones. -/
def dnTo (o : List Int) (i : Nat) : Nat → Nat
  | 0 => 0
  | k + 1 => dnTo o i k ||| (if ab o k i then 2 ^ k else 0)
theorem dnTo_all (o : List Int) (i : Nat) : dnTo o i o.length = dn o i := by
  have key : ∀ n, dnTo o i n = (List.range n).foldl (fun s j => s ||| (if ab o j i then 2 ^ j else 0)) 0 := by
    intro n
    induction n with
    | zero => rfl
    | succ n ih => rw [dnTo, ih, List.range_succ, List.foldl_append]; rfl
  exact key _
theorem dnTo_lt (o : List Int) (i : Nat) : ∀ k, dnTo o i k < 2 ^ k
  | 0 => by simp [dnTo]
  | k + 1 => by
    have := dnTo_lt o i k
    rw [dnTo]
    refine Nat.or_lt_two_pow (Nat.lt_of_lt_of_le this (Nat.pow_le_pow_right (by decide) (Nat.le_succ k))) ?_
    split
    · exact Nat.pow_lt_pow_right (by decide) (Nat.lt_succ_self k)
    · exact Nat.two_pow_pos _

theorem below_call [Tabs prog] {h : Heap} {o : List Int} (ho : ord o = true) {i : Nat} : APure prog 81 [ordV o, vint i] h (vint (dn o i : Nat)) := by
  have hl := ord_len ho
  refine ACall.forget (Low.int _ _) ?_
  refine s81_call (by simp) ?_
  simp (config := {maxSteps := 2000000}) only [s81, ↓aw_region, ↓aw_skip, ↓aw_seq, ↓aw_block, ↓aw_exit, ↓aw_ret, ↓sops_nil, ↓sops_go, ↓dops_nil, ↓dopsX_nil, ↓dopsR_nil, ↓vdn, vup, extr_20, extr_21, extr_30, extr_31, extr_32, List.map_cons, List.map_nil, cond_true, cond_false, aop, aThen, aBlock, argEnv, ev, sput, sputO, binK, binI, unK, builtinK, pickK, Nat.reduceBEq, Nat.reduceAdd, Int.reduceBEq, Int.reduceBNe, Int.reduceLT, aPost, resK, tup, tyf, boxO esz_77, fldA fld_77_0 esz_3, loadN (get_new _ _) shp_3, ↓aw_loop_eq]
  refine aws_hide fun Q hQ => ?_
  refine aw_loop (γ := Nat) (fun k => k ≤ o.length)
    (fun k => ([(0, ordV o), (1, vint i), (2, newPtr h), (4, .int .i64 0), (5, vint (dnTo o i k : Nat)), (8, vint o.length), (9, vint k)], h ++ [.cells (ordC o) 77 false])) (fun k => o.length - k) 0 (Nat.zero_le _) (by simp (config := {maxSteps := 2000000}) only [↓aw_region, ↓aw_skip, ↓aw_seq, ↓aw_block, ↓aw_exit, ↓aw_ret, ↓sops_nil, ↓sops_go, ↓dops_nil, ↓dopsX_nil, ↓dopsR_nil, ↓vdn, vup, extr_20, extr_21, extr_30, extr_31, extr_32, List.map_cons, List.map_nil, cond_true, cond_false, aop, aThen, aBlock, argEnv, ev, sput, sputO, binK, binI, unK, builtinK, pickK, Nat.reduceBEq, Nat.reduceAdd, Int.reduceBEq, Int.reduceBNe, Int.reduceLT, aPost, resK, tup, tyf, Int.natCast_zero, dnTo]) rfl ?_
  intro k hk
  refine aw_hide fun Q2 hQ2 => ?_
  by_cases hin : (k : Int) < o.length
  · have hin' : k < o.length := by omega
    have hdl := dnTo_lt o i k
    have hpk : 2 ^ k ≤ 64 := Nat.pow_le_pow_right (n := 2) (j := 6) (by decide) (by omega)
    have hsh : shlV .i64 (if ab o k i = true then (1 : Int) else 0) k = ((if ab o k i then 2 ^ k else 0 : Nat) : Int) := by
      split
      · rw [shl1 (by omega), pow_cast]
      · have := shlV_nat (a := 0) (y := k) (by omega) (by omega)
        simpa using this
    have hor : bitsV .or .i64 ((dnTo o i k : Nat) : Int) ((if ab o k i then 2 ^ k else 0 : Nat) : Int) = ((dnTo o i (k + 1) : Nat) : Int) := by
      rw [dnTo]; exact bitsV_or (by omega) (by split <;> omega)
    simp (config := {maxSteps := 2000000}) only [s81, ↓aw_region, ↓aw_skip, ↓aw_seq, ↓aw_block, ↓aw_exit, ↓aw_ret, ↓sops_nil, ↓sops_go, ↓dops_nil, ↓dopsX_nil, ↓dopsR_nil, ↓vdn, vup, extr_20, extr_21, extr_30, extr_31, extr_32, List.map_cons, List.map_nil, cond_true, cond_false, aop, aThen, aBlock, argEnv, ev, sput, sputO, binK, binI, unK, builtinK, pickK, Nat.reduceBEq, Nat.reduceAdd, Int.reduceBEq, Int.reduceBNe, Int.reduceLT, aPost, resK, tup, tyf, l81_0, hin, fldA fld_77_1 esz_75, idxA und_75 esz_3 (show k < 6 by omega), loadI (get_new _ _) shp_3 hl.2 (show k < 6 by omega), testO ho hin', hsh, hor, add1 (show k < 9223372036854775807 by omega)]
    exact hQ2 _ _ _ ⟨k + 1, by omega, by omega, by simp (config := {maxSteps := 2000000}) only [↓aw_region, ↓aw_skip, ↓aw_seq, ↓aw_block, ↓aw_exit, ↓aw_ret, ↓sops_nil, ↓sops_go, ↓dops_nil, ↓dopsX_nil, ↓dopsR_nil, ↓vdn, vup, extr_20, extr_21, extr_30, extr_31, extr_32, List.map_cons, List.map_nil, cond_true, cond_false, aop, aThen, aBlock, argEnv, ev, sput, sputO, binK, binI, unK, builtinK, pickK, Nat.reduceBEq, Nat.reduceAdd, Int.reduceBEq, Int.reduceBNe, Int.reduceLT, aPost, resK, tup, tyf], rfl⟩
  · obtain rfl : k = o.length := by omega
    simp (config := {maxSteps := 2000000}) only [s81, ↓aw_region, ↓aw_skip, ↓aw_seq, ↓aw_block, ↓aw_exit, ↓aw_ret, ↓sops_nil, ↓sops_go, ↓dops_nil, ↓dopsX_nil, ↓dopsR_nil, ↓vdn, vup, extr_20, extr_21, extr_30, extr_31, extr_32, List.map_cons, List.map_nil, cond_true, cond_false, aop, aThen, aBlock, argEnv, ev, sput, sputO, binK, binI, unK, builtinK, pickK, Nat.reduceBEq, Nat.reduceAdd, Int.reduceBEq, Int.reduceBNe, Int.reduceLT, aPost, resK, tup, tyf, l81_0, Int.lt_irrefl]
    refine hQ2 _ _ _ (hQ _ _ _ ?_)
    simp (config := {maxSteps := 2000000}) only [s81, ↓aw_region, ↓aw_skip, ↓aw_seq, ↓aw_block, ↓aw_exit, ↓aw_ret, ↓sops_nil, ↓sops_go, ↓dops_nil, ↓dopsX_nil, ↓dopsR_nil, ↓vdn, vup, extr_20, extr_21, extr_30, extr_31, extr_32, List.map_cons, List.map_nil, cond_true, cond_false, aop, aThen, aBlock, argEnv, ev, sput, sputO, binK, binI, unK, builtinK, pickK, Nat.reduceBEq, Nat.reduceAdd, Int.reduceBEq, Int.reduceBNe, Int.reduceLT, aPost, resK, tup, tyf, if_true, dnTo_all]
    exact Ext.app _ _ _
end Go.Proofs.Tryd.Am

/-
  ranks: slices of pairs: copies, whether a pair is in one.
  ranks: Turn.
  Orders and the pairs that they go against, plain: the least cost; one result turned; a tournament without a cycle.
  ranks: what the orders and the turned results are, plain.
  ranks: results turned, bit by bit; the law RanksFewer's plain part.
  Printed by gen.py: the code of some functions, without what no step looks at; held against the program's own by the kernel.
  ranks: the law RanksFewer.
-/
import Derived.Test.YtemmcfeekpblkaaDoorRkClear
import Derived.Test.YtemmcfeekpblkaaDoorFnE
import Derived.Test.YtemmcfeekpblkaaDoorBest
import Derived.Test.YtemmcfeekpblkaaDoorRkAgP
import Derived.Test.YtemmcfeekpblkaaDoorRkLess
import Derived.Test.YtemmcfeekpblkaaDoorRkROrd
import Derived.Test.YtemmcfeekpblkaaDoorAmO
import Derived.Test.YtemmcfeekpblkaaDoorProg
import Derived.KernelRfl
import Derived.Shelf.Abstract
import Derived.Test.YtemmcfeekpblkaaDoorRkOrder3
import Derived.Test.YtemmcfeekpblkaaDoorRkFind
set_option linter.all false
namespace Go.Proofs.Tryd.Am
open Go.Am
set_option maxRecDepth 100000
set_option maxHeartbeats 1000000

theorem lit0P {h : Heap} (K : Value → Heap → Prop) : buildSliceK prog h 46 0 [] K = K (.slice (some ⟨h.length, 0, none⟩) 0 0) (h ++ [.ints [] 52 false]) := by
  simp only [buildSliceK, el_46, zero_52, esz_52, reps, fillL, mkb, intsOf, List.length_cons, List.length_nil, Nat.mul_one, Nat.zero_mul]
  exact propext ⟨fun h => h.2.2.2, fun h => ⟨trivial, by decide, by decide, h⟩⟩
theorem clonep_call [Tabs prog] {h : Heap} {v : Value} {ps : List (Int × Int)} (hv : PairSl h v ps) (hl : ps.length < 1099511627776) : ACall prog 78 [v] h fun r h' => PairSl h' r ps ∧ ∃ g, h' = h ++ g := by
  refine s78_call (by simp) ?_
  have hv' := hv
  rcases hv with ⟨rfl, rfl⟩ | ⟨b, o, sp, cap, c, e, ro, rfl, hc, hb, hx⟩
  · simp (config := {maxSteps := 2000000}) only [s78, ↓aw_region, ↓aw_skip, ↓aw_seq, ↓aw_block, ↓aw_exit, ↓aw_ret, ↓sops_nil, ↓sops_go, ↓dops_nil, ↓dopsX_nil, ↓dopsR_nil, ↓vdn, vup, extr_20, extr_21, extr_30, extr_31, extr_32, List.map_cons, List.map_nil, cond_true, cond_false, aop, aThen, aBlock, argEnv, ev, sput, sputO, binK, binI, unK, builtinK, pickK, Nat.reduceBEq, Nat.reduceAdd, Int.reduceBEq, Int.reduceBNe, Int.reduceLT, aPost, resK, tup, tyf, Option.isSome_some]
    exact ⟨.inl ⟨rfl, rfl⟩, [], by rw [List.append_nil]⟩
  · simp (config := {maxSteps := 2000000}) only [s78, ↓aw_region, ↓aw_skip, ↓aw_seq, ↓aw_block, ↓aw_exit, ↓aw_ret, ↓sops_nil, ↓sops_go, ↓dops_nil, ↓dopsX_nil, ↓dopsR_nil, ↓vdn, vup, extr_20, extr_21, extr_30, extr_31, extr_32, List.map_cons, List.map_nil, cond_true, cond_false, aop, aThen, aBlock, argEnv, ev, sput, sputO, binK, binI, unK, builtinK, pickK, Nat.reduceBEq, Nat.reduceAdd, Int.reduceBEq, Int.reduceBNe, Int.reduceLT, aPost, resK, tup, tyf, Option.isSome_some, List.toList_toArray, lit0P]
    refine (hv'.grow [.ints [] 52 false]).copy app_46_46 hl (get_new _ _) ?_
    intro r g hr
    exact ⟨hr, _, List.append_assoc _ _ _⟩
theorem min32 (n : Nat) : (if (32 : Int) < n then 32 else (n : Int)) = ((min n 32 : Nat) : Int) := by split <;> omega
theorem pairs_call [Tabs prog] {h : Heap} {v : Value} {ps : List (Int × Int)} (hv : PairSl h v ps) (hl : ps.length < 9223372036854775808) : ACall prog 42 [v] h fun r h' => PairSl h' r (ps.take 32) ∧ ∃ g, h' = h ++ g := by
  refine s42_call (by simp) ?_
  simp (config := {maxSteps := 2000000}) only [s42, ↓aw_region, ↓aw_skip, ↓aw_seq, ↓aw_block, ↓aw_exit, ↓aw_ret, ↓sops_nil, ↓sops_go, ↓dops_nil, ↓dopsX_nil, ↓dopsR_nil, ↓vdn, vup, extr_20, extr_21, extr_30, extr_31, extr_32, List.map_cons, List.map_nil, cond_true, cond_false, aop, aThen, aBlock, argEnv, ev, sput, sputO, binK, binI, unK, builtinK, pickK, Nat.reduceBEq, Nat.reduceAdd, Int.reduceBEq, Int.reduceBNe, Int.reduceLT, aPost, resK, tup, tyf, hv.len, mmK, Bool.false_eq_true, if_false, gt_iff_lt, min32, Option.map_none, Option.map_some]
  refine hv.pre el_46 esz_52 (Nat.min_le_left _ _) ?_
  intro v' hv'
  have e : ps.take (min ps.length 32) = ps.take 32 := by
    by_cases h : ps.length ≤ 32
    · rw [Nat.min_eq_left h, List.take_length, List.take_of_length_le h]
    · rw [Nat.min_eq_right (by omega)]
  rw [e] at hv'
  simp (config := {maxSteps := 2000000}) only [↓aw_region, ↓aw_skip, ↓aw_seq, ↓aw_block, ↓aw_exit, ↓aw_ret, ↓sops_nil, ↓sops_go, ↓dops_nil, ↓dopsX_nil, ↓dopsR_nil, ↓vdn, vup, extr_20, extr_21, extr_30, extr_31, extr_32, List.map_cons, List.map_nil, cond_true, cond_false, aop, aThen, aBlock, argEnv, ev, sput, sputO, binK, binI, unK, builtinK, pickK, Nat.reduceBEq, Nat.reduceAdd, Int.reduceBEq, Int.reduceBNe, Int.reduceLT, aPost, resK, tup, tyf, callK, List.nil_append, List.append_nil]
  exact clonep_call hv' (by simp; omega)

/-- A pair as a value. -/
def pV (p : Int × Int) : Value := .agg #[vint p.1, vint p.2]
theorem boxP {h : Heap} {p : Int × Int} {K : Value → Heap → Prop} : boxK prog h 52 (pV p) K = K (newPtr h) (h ++ [.cells [vint p.1, vint p.2] 52 false]) := by
  simp [boxK, esz_52, newPtr, cellsOf, pV]
theorem loadP {h : Heap} {b : Nat} {p : Int × Int} {e : TypeId} {ro : Bool} {K : Value → Prop} (hb : h[b]? = some (.cells [vint p.1, vint p.2] e ro)) : loadK prog h 52 (.pointer (some ⟨b, 0, none⟩)) K = K (pV p) := loadA hb (by rw [shp_52]; rfl)
theorem storeP {h : Heap} {b : Nat} {p : Int × Int} {e : TypeId} {c : List Value} {K : Heap → Prop} (hb : h[b]? = some (.cells c e false)) (hc : c.length = 2) : storeK prog h 52 (.pointer (some ⟨b, 0, none⟩)) (pV p) K = K (h.set b (.cells [vint p.1, vint p.2] e false)) :=
  storeA (vs := [vint p.1, vint p.2]) hb (by rw [shp_52]; rfl) rfl (by rw [hc]; rfl)
theorem pidx0 {b : Nat} {K : Value → Prop} : idxAddrK prog 52 (.pointer (some ⟨b, 0, none⟩)) (.int .i64 0) K = K (.pointer (some ⟨b, 0, none⟩)) := idxA (k := 0) und_52 esz_3 (by decide)
theorem pidx1 {b : Nat} {K : Value → Prop} : idxAddrK prog 52 (.pointer (some ⟨b, 0, none⟩)) (.int .i64 1) K = K (.pointer (some ⟨b, 1, none⟩)) := idxA (k := 1) und_52 esz_3 (by decide)
theorem pl0 {h : Heap} {b : Nat} {x y : Value} {e : TypeId} {ro : Bool} {K : Value → Prop} (hb : h[b]? = some (.cells [x, y] e ro)) : loadK prog h 3 (.pointer (some ⟨b, 0, none⟩)) K = K x := loadC (o := 0) hb shp_3 rfl
theorem pl1 {h : Heap} {b : Nat} {x y : Value} {e : TypeId} {ro : Bool} {K : Value → Prop} (hb : h[b]? = some (.cells [x, y] e ro)) : loadK prog h 3 (.pointer (some ⟨b, 1, none⟩)) K = K y := loadC (o := 1) hb shp_3 rfl
theorem eqP [Tabs prog] : EqT prog 52 2 := eqT_array und_52 und_3 esz_3 (by kernel_rfl)
theorem pair_eq (p q : Int × Int) : (([p.1, p.2] : List Int) == [q.1, q.2]) = decide (p = q) := by
  rw [Bool.eq_iff_iff, beq_iff_eq, decide_eq_true_eq]
  constructor
  · intro h; simp at h; exact Prod.ext h.1 h.2
  · rintro rfl; rfl
theorem binP [Tabs prog] {p q : Int × Int} {K : Value → Prop} : binK prog .eql 52 (pV p) (pV q) K = K (.bool (decide (p = q))) := by
  rw [← pair_eq]
  simp only [binK, pV, List.toList_toArray, intsOf, Option.map_some, List.length_cons, List.length_nil, Nat.zero_add, true_and]
  exact propext ⟨fun h => h.2, fun h => ⟨eqP, h⟩⟩

theorem pindex_call [Tabs prog] {h : Heap} {v : Value} {ps : List (Int × Int)} {p : Int × Int} (hv : PairSl h v ps) (hl : ps.length < 9223372036854775807) : ∃ z : Int, APure prog 98 [v, pV p] h (.int .i64 z) ∧ decide (0 ≤ z) = ps.contains p := by
  have hq : EqT prog 52 2 := eqP
  by_cases hc : ps.contains p = true
  · -- the first place
    have hm : p ∈ ps := by simpa using hc
    refine ⟨((ps.idxOf p : Nat) : Int), ?_, by rw [hc]; exact decide_eq_true (Int.natCast_nonneg _)⟩
    have hil := List.idxOf_lt_length_of_mem hm
    refine ACall.forget (Low.int _ _) ?_
    refine s98_call (by simp) ?_
    simp (config := {maxSteps := 2000000}) only [s98, ↓aw_region, ↓aw_skip, ↓aw_seq, ↓aw_block, ↓aw_exit, ↓aw_ret, ↓sops_nil, ↓sops_go, ↓dops_nil, ↓dopsX_nil, ↓dopsR_nil, ↓vdn, vup, extr_20, extr_21, extr_30, extr_31, extr_32, List.map_cons, List.map_nil, cond_true, cond_false, aop, aThen, aBlock, argEnv, ev, sput, sputO, binK, binI, unK, builtinK, pickK, Nat.reduceBEq, Nat.reduceAdd, Int.reduceBEq, Int.reduceBNe, Int.reduceLT, aPost, resK, tup, tyf, boxP, newPtr, hv.len, ↓aw_loop_eq]
    have c0 := get_new h (Blk.cells [vint p.1, vint p.2] 52 false)
    have hv1 := hv.grow [Blk.cells [vint p.1, vint p.2] 52 false]
    have hE : Ext (fun _ => False) h (h ++ [Blk.cells [vint p.1, vint p.2] 52 false]) := Ext.app _ _ _
    generalize h ++ [Blk.cells [vint p.1, vint p.2] 52 false] = h1 at c0 hv1 hE ⊢
    refine aws_hide fun Q hQ => ?_
    refine aw_loop (γ := Nat) (fun i => i ≤ ps.idxOf p)
      (fun i => ([(0, v), (3, .pointer (some ⟨h.length, 0, none⟩)), (7, vint ps.length), (8, vint i)], h1)) (fun i => ps.length - i) 0 (Nat.zero_le _) (by simp (config := {maxSteps := 2000000}) only [↓aw_region, ↓aw_skip, ↓aw_seq, ↓aw_block, ↓aw_exit, ↓aw_ret, ↓sops_nil, ↓sops_go, ↓dops_nil, ↓dopsX_nil, ↓dopsR_nil, ↓vdn, vup, extr_20, extr_21, extr_30, extr_31, extr_32, List.map_cons, List.map_nil, cond_true, cond_false, aop, aThen, aBlock, argEnv, ev, sput, sputO, binK, binI, unK, builtinK, pickK, Nat.reduceBEq, Nat.reduceAdd, Int.reduceBEq, Int.reduceBNe, Int.reduceLT, aPost, resK, tup, tyf, Int.natCast_zero]) rfl ?_
    intro i hi
    refine aw_hide fun Q2 hQ2 => ?_
    have hin : (i : Int) < ps.length := by omega
    have h1' : i < ps.length := by omega
    simp (config := {maxSteps := 2000000}) only [s98, ↓aw_region, ↓aw_skip, ↓aw_seq, ↓aw_block, ↓aw_exit, ↓aw_ret, ↓sops_nil, ↓sops_go, ↓dops_nil, ↓dopsX_nil, ↓dopsR_nil, ↓vdn, vup, extr_20, extr_21, extr_30, extr_31, extr_32, List.map_cons, List.map_nil, cond_true, cond_false, aop, aThen, aBlock, argEnv, ev, sput, sputO, binK, binI, unK, builtinK, pickK, Nat.reduceBEq, Nat.reduceAdd, Int.reduceBEq, Int.reduceBNe, Int.reduceLT, aPost, resK, tup, tyf, l98_0, hin]
    refine aw_drawX [] (by kernel_rfl) (by kernel_rfl) (by kernel_rfl) (by kernel_rfl) ?_
    have hld : ∀ {K : Value → Prop}, loadK prog h1 52 (elemP v 2 i) K = K (pV (ps.getD i (0, 0))) := fun {K} => hv1.load shp_52 h1' K
    by_cases hii : i = ps.idxOf p
    · have he : ps.getD i (0, 0) = p := by
        rw [hii, List.getD, List.getElem?_eq_getElem hil]; exact List.getElem_idxOf hil
      have hd : decide (p = ps.getD i (0, 0)) = true := by rw [he]; exact decide_eq_true rfl
      simp (config := {maxSteps := 2000000}) only [s98, ↓aw_region, ↓aw_skip, ↓aw_seq, ↓aw_block, ↓aw_exit, ↓aw_ret, ↓sops_nil, ↓sops_go, ↓dops_nil, ↓dopsX_nil, ↓dopsR_nil, ↓vdn, vup, extr_20, extr_21, extr_30, extr_31, extr_32, List.map_cons, List.map_nil, cond_true, cond_false, aop, aThen, aBlock, argEnv, ev, sput, sputO, binK, binI, unK, builtinK, pickK, Nat.reduceBEq, Nat.reduceAdd, Int.reduceBEq, Int.reduceBNe, Int.reduceLT, aPost, resK, tup, tyf, loadP c0, hv1.idx el_46 esz_52 h1', hld, pV, List.toList_toArray, intsOf, Option.map_some, List.length_cons, List.length_nil, Nat.zero_add, hq, pair_eq, hd]
      refine hQ2 _ _ _ (hQ _ _ _ ?_)
      simp (config := {maxSteps := 2000000}) only [s98, ↓aw_region, ↓aw_skip, ↓aw_seq, ↓aw_block, ↓aw_exit, ↓aw_ret, ↓sops_nil, ↓sops_go, ↓dops_nil, ↓dopsX_nil, ↓dopsR_nil, ↓vdn, vup, extr_20, extr_21, extr_30, extr_31, extr_32, List.map_cons, List.map_nil, cond_true, cond_false, aop, aThen, aBlock, argEnv, ev, sput, sputO, binK, binI, unK, builtinK, pickK, Nat.reduceBEq, Nat.reduceAdd, Int.reduceBEq, Int.reduceBNe, Int.reduceLT, aPost, resK, tup, tyf, hii]
      exact hE
    · have he : ¬ p = ps.getD i (0, 0) := fun he => by
        have h2 := List.not_of_lt_findIdx (xs := ps) (p := (· == p)) (i := i) (by have : ps.idxOf p = ps.findIdx (· == p) := rfl; omega)
        rw [List.getD, List.getElem?_eq_getElem h1'] at he
        simp only [Option.getD_some] at he
        rw [← he] at h2; simp at h2
      have hd : decide (p = ps.getD i (0, 0)) = false := decide_eq_false he
      simp (config := {maxSteps := 2000000}) only [s98, ↓aw_region, ↓aw_skip, ↓aw_seq, ↓aw_block, ↓aw_exit, ↓aw_ret, ↓sops_nil, ↓sops_go, ↓dops_nil, ↓dopsX_nil, ↓dopsR_nil, ↓vdn, vup, extr_20, extr_21, extr_30, extr_31, extr_32, List.map_cons, List.map_nil, cond_true, cond_false, aop, aThen, aBlock, argEnv, ev, sput, sputO, binK, binI, unK, builtinK, pickK, Nat.reduceBEq, Nat.reduceAdd, Int.reduceBEq, Int.reduceBNe, Int.reduceLT, aPost, resK, tup, tyf, loadP c0, hv1.idx el_46 esz_52 h1', hld, pV, List.toList_toArray, intsOf, Option.map_some, List.length_cons, List.length_nil, Nat.zero_add, hq, pair_eq, hd, add1 (show i < 9223372036854775807 by omega)]
      exact hQ2 _ _ _ ⟨i + 1, by omega, by omega, by simp (config := {maxSteps := 2000000}) only [↓aw_region, ↓aw_skip, ↓aw_seq, ↓aw_block, ↓aw_exit, ↓aw_ret, ↓sops_nil, ↓sops_go, ↓dops_nil, ↓dopsX_nil, ↓dopsR_nil, ↓vdn, vup, extr_20, extr_21, extr_30, extr_31, extr_32, List.map_cons, List.map_nil, cond_true, cond_false, aop, aThen, aBlock, argEnv, ev, sput, sputO, binK, binI, unK, builtinK, pickK, Nat.reduceBEq, Nat.reduceAdd, Int.reduceBEq, Int.reduceBNe, Int.reduceLT, aPost, resK, tup, tyf], rfl⟩
  · have hno : ∀ i, i < ps.length → ¬ p = ps.getD i (0, 0) := fun i hi he => hc (by
      rw [List.getD, List.getElem?_eq_getElem hi] at he
      have : p ∈ ps := by rw [he]; exact List.getElem_mem _
      simpa using this)
    refine ⟨-1, ?_, by rw [Bool.not_eq_true] at hc; rw [hc]; exact decide_eq_false (by decide)⟩
    refine ACall.forget (Low.int _ _) ?_
    refine s98_call (by simp) ?_
    simp (config := {maxSteps := 2000000}) only [s98, ↓aw_region, ↓aw_skip, ↓aw_seq, ↓aw_block, ↓aw_exit, ↓aw_ret, ↓sops_nil, ↓sops_go, ↓dops_nil, ↓dopsX_nil, ↓dopsR_nil, ↓vdn, vup, extr_20, extr_21, extr_30, extr_31, extr_32, List.map_cons, List.map_nil, cond_true, cond_false, aop, aThen, aBlock, argEnv, ev, sput, sputO, binK, binI, unK, builtinK, pickK, Nat.reduceBEq, Nat.reduceAdd, Int.reduceBEq, Int.reduceBNe, Int.reduceLT, aPost, resK, tup, tyf, boxP, newPtr, hv.len, ↓aw_loop_eq]
    have c0 := get_new h (Blk.cells [vint p.1, vint p.2] 52 false)
    have hv1 := hv.grow [Blk.cells [vint p.1, vint p.2] 52 false]
    have hE : Ext (fun _ => False) h (h ++ [Blk.cells [vint p.1, vint p.2] 52 false]) := Ext.app _ _ _
    generalize h ++ [Blk.cells [vint p.1, vint p.2] 52 false] = h1 at c0 hv1 hE ⊢
    refine aws_hide fun Q hQ => ?_
    refine aw_loop (γ := Nat) (fun i => i ≤ ps.length)
      (fun i => ([(0, v), (3, .pointer (some ⟨h.length, 0, none⟩)), (7, vint ps.length), (8, vint i)], h1)) (fun i => ps.length - i) 0 (Nat.zero_le _) (by simp (config := {maxSteps := 2000000}) only [↓aw_region, ↓aw_skip, ↓aw_seq, ↓aw_block, ↓aw_exit, ↓aw_ret, ↓sops_nil, ↓sops_go, ↓dops_nil, ↓dopsX_nil, ↓dopsR_nil, ↓vdn, vup, extr_20, extr_21, extr_30, extr_31, extr_32, List.map_cons, List.map_nil, cond_true, cond_false, aop, aThen, aBlock, argEnv, ev, sput, sputO, binK, binI, unK, builtinK, pickK, Nat.reduceBEq, Nat.reduceAdd, Int.reduceBEq, Int.reduceBNe, Int.reduceLT, aPost, resK, tup, tyf, Int.natCast_zero]) rfl ?_
    intro i hi
    refine aw_hide fun Q2 hQ2 => ?_
    by_cases hin : (i : Int) < ps.length
    · have h1' : i < ps.length := by omega
      simp (config := {maxSteps := 2000000}) only [s98, ↓aw_region, ↓aw_skip, ↓aw_seq, ↓aw_block, ↓aw_exit, ↓aw_ret, ↓sops_nil, ↓sops_go, ↓dops_nil, ↓dopsX_nil, ↓dopsR_nil, ↓vdn, vup, extr_20, extr_21, extr_30, extr_31, extr_32, List.map_cons, List.map_nil, cond_true, cond_false, aop, aThen, aBlock, argEnv, ev, sput, sputO, binK, binI, unK, builtinK, pickK, Nat.reduceBEq, Nat.reduceAdd, Int.reduceBEq, Int.reduceBNe, Int.reduceLT, aPost, resK, tup, tyf, l98_0, hin]
      refine aw_drawX [] (by kernel_rfl) (by kernel_rfl) (by kernel_rfl) (by kernel_rfl) ?_
      have hld : ∀ {K : Value → Prop}, loadK prog h1 52 (elemP v 2 i) K = K (pV (ps.getD i (0, 0))) := fun {K} => hv1.load shp_52 h1' K
      have hd : decide (p = ps.getD i (0, 0)) = false := decide_eq_false (hno i h1')
      simp (config := {maxSteps := 2000000}) only [s98, ↓aw_region, ↓aw_skip, ↓aw_seq, ↓aw_block, ↓aw_exit, ↓aw_ret, ↓sops_nil, ↓sops_go, ↓dops_nil, ↓dopsX_nil, ↓dopsR_nil, ↓vdn, vup, extr_20, extr_21, extr_30, extr_31, extr_32, List.map_cons, List.map_nil, cond_true, cond_false, aop, aThen, aBlock, argEnv, ev, sput, sputO, binK, binI, unK, builtinK, pickK, Nat.reduceBEq, Nat.reduceAdd, Int.reduceBEq, Int.reduceBNe, Int.reduceLT, aPost, resK, tup, tyf, loadP c0, hv1.idx el_46 esz_52 h1', hld, pV, List.toList_toArray, intsOf, Option.map_some, List.length_cons, List.length_nil, Nat.zero_add, hq, pair_eq, hd, add1 (show i < 9223372036854775807 by omega)]
      exact hQ2 _ _ _ ⟨i + 1, by omega, by omega, by simp (config := {maxSteps := 2000000}) only [↓aw_region, ↓aw_skip, ↓aw_seq, ↓aw_block, ↓aw_exit, ↓aw_ret, ↓sops_nil, ↓sops_go, ↓dops_nil, ↓dopsX_nil, ↓dopsR_nil, ↓vdn, vup, extr_20, extr_21, extr_30, extr_31, extr_32, List.map_cons, List.map_nil, cond_true, cond_false, aop, aThen, aBlock, argEnv, ev, sput, sputO, binK, binI, unK, builtinK, pickK, Nat.reduceBEq, Nat.reduceAdd, Int.reduceBEq, Int.reduceBNe, Int.reduceLT, aPost, resK, tup, tyf], rfl⟩
    · obtain rfl : i = ps.length := by omega
      simp (config := {maxSteps := 2000000}) only [s98, ↓aw_region, ↓aw_skip, ↓aw_seq, ↓aw_block, ↓aw_exit, ↓aw_ret, ↓sops_nil, ↓sops_go, ↓dops_nil, ↓dopsX_nil, ↓dopsR_nil, ↓vdn, vup, extr_20, extr_21, extr_30, extr_31, extr_32, List.map_cons, List.map_nil, cond_true, cond_false, aop, aThen, aBlock, argEnv, ev, sput, sputO, binK, binI, unK, builtinK, pickK, Nat.reduceBEq, Nat.reduceAdd, Int.reduceBEq, Int.reduceBNe, Int.reduceLT, aPost, resK, tup, tyf, l98_0, Int.lt_irrefl]
      refine hQ2 _ _ _ (hQ _ _ _ ?_)
      simp (config := {maxSteps := 2000000}) only [s98, ↓aw_region, ↓aw_skip, ↓aw_seq, ↓aw_block, ↓aw_exit, ↓aw_ret, ↓sops_nil, ↓sops_go, ↓dops_nil, ↓dopsX_nil, ↓dopsR_nil, ↓vdn, vup, extr_20, extr_21, extr_30, extr_31, extr_32, List.map_cons, List.map_nil, cond_true, cond_false, aop, aThen, aBlock, argEnv, ev, sput, sputO, binK, binI, unK, builtinK, pickK, Nat.reduceBEq, Nat.reduceAdd, Int.reduceBEq, Int.reduceBNe, Int.reduceLT, aPost, resK, tup, tyf, if_true]
      exact hE
theorem pcontains_call [Tabs prog] {h : Heap} {v : Value} {ps : List (Int × Int)} {p : Int × Int} (hv : PairSl h v ps) (hl : ps.length < 9223372036854775807) : APure prog 77 [v, pV p] h (.bool (ps.contains p)) := by
  refine ACall.forget (Low.bool _) ?_
  refine s77_call (by simp) ?_
  simp (config := {maxSteps := 2000000}) only [s77, ↓aw_region, ↓aw_skip, ↓aw_seq, ↓aw_block, ↓aw_exit, ↓aw_ret, ↓sops_nil, ↓sops_go, ↓dops_nil, ↓dopsX_nil, ↓dopsR_nil, ↓vdn, vup, extr_20, extr_21, extr_30, extr_31, extr_32, List.map_cons, List.map_nil, cond_true, cond_false, aop, aThen, aBlock, argEnv, ev, sput, sputO, binK, binI, unK, builtinK, pickK, Nat.reduceBEq, Nat.reduceAdd, Int.reduceBEq, Int.reduceBNe, Int.reduceLT, aPost, resK, tup, tyf, boxP, newPtr]
  have c0 := get_new h (Blk.cells [vint p.1, vint p.2] 52 false)
  obtain ⟨z, hz, hz2⟩ := pindex_call (p := p) (hv.grow [Blk.cells [vint p.1, vint p.2] 52 false]) hl
  simp (config := {maxSteps := 2000000}) only [s77, ↓aw_region, ↓aw_skip, ↓aw_seq, ↓aw_block, ↓aw_exit, ↓aw_ret, ↓sops_nil, ↓sops_go, ↓dops_nil, ↓dopsX_nil, ↓dopsR_nil, ↓vdn, vup, extr_20, extr_21, extr_30, extr_31, extr_32, List.map_cons, List.map_nil, cond_true, cond_false, aop, aThen, aBlock, argEnv, ev, sput, sputO, binK, binI, unK, builtinK, pickK, Nat.reduceBEq, Nat.reduceAdd, Int.reduceBEq, Int.reduceBNe, Int.reduceLT, aPost, resK, tup, tyf, loadP c0, callK, List.nil_append, List.append_nil, List.toList_toArray, List.cons_append]
  refine hz.mono ?_
  rintro _ h1 ⟨rfl, rfl⟩
  simp (config := {maxSteps := 2000000}) only [s77, ↓aw_region, ↓aw_skip, ↓aw_seq, ↓aw_block, ↓aw_exit, ↓aw_ret, ↓sops_nil, ↓sops_go, ↓dops_nil, ↓dopsX_nil, ↓dopsR_nil, ↓vdn, vup, extr_20, extr_21, extr_30, extr_31, extr_32, List.map_cons, List.map_nil, cond_true, cond_false, aop, aThen, aBlock, argEnv, ev, sput, sputO, binK, binI, unK, builtinK, pickK, Nat.reduceBEq, Nat.reduceAdd, Int.reduceBEq, Int.reduceBNe, Int.reduceLT, aPost, resK, tup, tyf, ge_iff_le, hz2]
  exact Ext.app _ _ _
end Go.Proofs.Tryd.Am

namespace Go.Proofs.Tryd.Am
open Go.Am
set_option maxRecDepth 100000
set_option maxHeartbeats 1000000

/-- A result turned in a player's set. -/
def xI (a : Int) (m : Nat) : Int := ((a.toNat ^^^ 2 ^ m : Nat) : Int)
def half (t : List Int) (i j : Nat) : List Int := t.set i (xI (t.getD i 0) j)
def stepT (t : List Int) (p : Int × Int) : List Int := half (half t p.1.toNat p.2.toNat) p.2.toNat p.1.toNat
def turnTo (xs : List Int) (ps : List (Int × Int)) : Nat → List Int
  | 0 => xs
  | k + 1 => stepT (turnTo xs ps k) (ps.getD k (0, 0))
def okPr (n : Nat) (p : Int × Int) : Bool := decide (0 ≤ p.1) && decide (p.1 < p.2) && decide (p.2 < n)
def okK (n : Nat) (ps : List (Int × Int)) (k : Nat) : Bool := okPr n (ps.getD k (0, 0)) && !(ps.take k).contains (ps.getD k (0, 0))
def okPs (n : Nat) (ps : List (Int × Int)) : Bool := (List.range ps.length).all (okK n ps) && decide (ps.length ≤ 28)
def Sm (n : Nat) (t : List Int) : Prop := t.length = n ∧ ∀ i, i < n → 0 ≤ t.getD i 0 ∧ t.getD i 0 < 256
theorem half_sm {n : Nat} {t : List Int} (h : Sm n t) {i j : Nat} (hi : i < n) (hj : j < n) (hn : n ≤ 8) : Sm n (half t i j) := by
  refine ⟨by rw [half, List.length_set]; exact h.1, fun k hk => ?_⟩
  by_cases hki : k = i
  · subst hki
    have e : (half t k j).getD k 0 = xI (t.getD k 0) j := by
      rw [half, List.getD, List.getElem?_set_self (by rw [h.1]; exact hk)]; rfl
    have h1 := h.2 k hk
    have h2 : (t.getD k 0).toNat ^^^ 2 ^ j < 2 ^ 8 := Nat.xor_lt_two_pow (by omega) (Nat.pow_lt_pow_right (by decide) (by omega))
    rw [e, xI]; omega
  · have e : (half t i j).getD k 0 = t.getD k 0 := by rw [half, List.getD, List.getElem?_set_ne (Ne.symm hki)]; rfl
    rw [e]; exact h.2 k hk
theorem okPr_nat {n : Nat} {p : Int × Int} (h : okPr n p = true) : ∃ i j : Nat, p = ((i : Int), (j : Int)) ∧ i < j ∧ j < n := by
  simp only [okPr, Bool.and_eq_true, decide_eq_true_eq] at h
  exact ⟨p.1.toNat, p.2.toNat, Prod.ext (by simp; omega) (by simp; omega), by omega, by omega⟩
theorem turn_sm {xs : List Int} {ps : List (Int × Int)} (h0 : Sm xs.length xs) (hn : xs.length ≤ 8) : ∀ k, (∀ i, i < k → okPr xs.length (ps.getD i (0, 0)) = true) → Sm xs.length (turnTo xs ps k)
  | 0, _ => h0
  | k + 1, h => by
    have ih := turn_sm h0 hn k fun i hi => h i (by omega)
    obtain ⟨i, j, hp, hij, hj⟩ := okPr_nat (h k (by omega))
    rw [turnTo, stepT, hp]
    exact half_sm (half_sm ih (by simp; omega) (by simpa using hj) hn) (by simpa using hj) (by simp; omega) hn
theorem trn_sm {xs : List Int} (h : trn xs = true) : Sm xs.length xs := ⟨rfl, fun i hi => by
  have hl := trn_len h
  have := trn_nat h hi
  have : 2 ^ xs.length ≤ 2 ^ 8 := Nat.pow_le_pow_right (by decide) hl.2
  omega⟩
theorem xor_half {n : Nat} {t : List Int} (h : Sm n t) {i j : Nat} (hi : i < n) (hj : j < n) (hn : n ≤ 8) : bitsV .xor .i64 (t.getD i 0) (shlV .i64 1 ((j : Nat) : Int)) = xI (t.getD i 0) j := by
  have h1 := h.2 i hi
  obtain ⟨a, ha⟩ : ∃ a : Nat, t.getD i 0 = (a : Int) := ⟨(t.getD i 0).toNat, by omega⟩
  have h2 : 2 ^ j < 2 ^ 8 := Nat.pow_lt_pow_right (by decide) (by omega)
  rw [ha] at h1 ⊢
  rw [shl1 (by omega)]
  have := bitsV_xor (a := a) (b := 2 ^ j) (by omega) (by omega)
  rw [xI, Int.toNat_natCast, ← this]; simp
section
variable {h : Heap} {t e : TypeId} {b o n c k : Nat} {xs : List Int} {ro : Bool}
theorem idxW {K : Value → Prop} (hk : k < n) : idxAddrK prog 22 (.slice (some ⟨b, 0, some 0⟩) n c) (vint (k : Nat)) K = K (.pointer (some ⟨b, k, none⟩)) := by
  simp only [idxAddrK, el_22, esz_3, Int.natCast_nonneg, Int.toNat_natCast, Nat.mul_one, Nat.zero_add, true_and, Int.ofNat_lt.2 hk]
theorem loadX {K : Value → Prop} (hb : h[b]? = some (.ints xs e ro)) (ho : o < xs.length) : loadK prog h 3 (.pointer (some ⟨b, o, none⟩)) K = K (vint (xs.getD o 0)) := by
  simp only [loadK, shp_3, cellK, hb, ho, true_and]
theorem storeX {K : Heap → Prop} {x : Int} (hb : h[b]? = some (.ints xs e false)) (ho : o < xs.length) : storeK prog h 3 (.pointer (some ⟨b, o, none⟩)) (vint x) K = K (h.set b (.ints (xs.set o x) e false)) := by
  simp only [storeK, shp_3, hb, ho, true_and]
end
/-- A copy of a list, in a block of its own. -/
def Fresh (h : Heap) (xs : List Int) (r : Value) (h' : Heap) : Prop := ∃ b, r = .slice (some ⟨b, 0, some 0⟩) xs.length xs.length ∧ h'[b]? = some (.ints xs 3 false) ∧ h.length ≤ b ∧ Ext (fun _ => False) h h'
theorem lit0I {h : Heap} (K : Value → Heap → Prop) : buildSliceK prog h 22 0 [] K = K (.slice (some ⟨h.length, 0, none⟩) 0 0) (h ++ [.ints [] 3 false]) := by
  simp only [buildSliceK, el_22, zero_3, esz_3, reps, fillL, mkb, intsOf, List.length_cons, List.length_nil, Nat.mul_one, Nat.zero_mul]
  exact propext ⟨fun h => h.2.2.2, fun h => ⟨trivial, by decide, by decide, h⟩⟩
theorem appFresh {h : Heap} {v : Value} {xs : List Int} (hv : IntSl h v xs) (hx : xs ≠ []) (hl : xs.length < 1099511627776) {K : Value → Heap → Prop} (hk : ∀ r h', Fresh h xs r h' → K r h') :
    appendK prog (h ++ [.ints [] 3 false]) 22 22 (.slice (some ⟨h.length, 0, none⟩) 0 0) v K := by
  refine (hv.grow [.ints [] 3 false]).copyOwn hx app_22_22 hl (by rw [List.getElem?_append_right (Nat.le_refl _)]; simp) ?_
  refine hk _ _ ⟨h.length + 1, ?_, ?_, by omega, by rw [List.append_assoc]; exact Ext.app _ _ _⟩
  · simp
  · rw [List.getElem?_append_right (by simp)]; simp
theorem clone_fresh [Tabs prog] {h : Heap} {v : Value} {xs : List Int} (hv : IntSl h v xs) (hx : xs ≠ []) (hl : xs.length < 1099511627776) : ACall prog 46 [v] h fun r h' => Fresh h xs r h' := by
  refine s46_call (by simp) ?_
  have hv' := hv
  rcases hv with ⟨rfl, rfl⟩ | ⟨b, o, sp, cap, c, e, ro, rfl, hc, hb, _⟩
  · exact absurd rfl hx
  · simp (config := {maxSteps := 2000000}) only [s46, ↓aw_region, ↓aw_skip, ↓aw_seq, ↓aw_block, ↓aw_exit, ↓aw_ret, ↓sops_nil, ↓sops_go, ↓dops_nil, ↓dopsX_nil, ↓dopsR_nil, ↓vdn, vup, extr_20, extr_21, extr_30, extr_31, extr_32, List.map_cons, List.map_nil, cond_true, cond_false, aop, aThen, aBlock, argEnv, ev, sput, sputO, binK, binI, unK, builtinK, pickK, Nat.reduceBEq, Nat.reduceAdd, Int.reduceBEq, Int.reduceBNe, Int.reduceLT, aPost, resK, tup, tyf, Option.isSome_some, List.toList_toArray, lit0I]
    refine appFresh hv' hx hl fun r h' hf => ?_
    exact hf

theorem turn_call [BitTab prog 1] {h : Heap} {v pv : Value} {xs : List Int} {ps : List (Int × Int)} (hv : IntSl h v xs) (hp : PairSl h pv ps) (hl : xs.length < 9223372036854775808) (hx : ∀ x ∈ xs, -9223372036854775808 ≤ x ∧ x < 9223372036854775808) (hpl : ps.length < 9223372036854775807) :
    ACall prog 41 [v, pv] h fun r h' => Ext (fun _ => False) h h' ∧ if trn xs = true ∧ okPs xs.length ps = true then ∃ w, r = .tuple #[w, .int .i64 0] ∧ IntSl h' w (turnTo xs ps ps.length) else r = .tuple #[.slice none 0 0, .int .i64 2] := by
  refine s41_call (by simp) ?_
  simp only [s41]
  refine aw_cut fun N hN => ?_
  simp (config := {maxSteps := 2000000}) only [s41, ↓aw_region, ↓aw_skip, ↓aw_seq, ↓aw_block, ↓aw_exit, ↓aw_ret, ↓sops_nil, ↓sops_go, ↓dops_nil, ↓dopsX_nil, ↓dopsR_nil, ↓vdn, vup, extr_20, extr_21, extr_30, extr_31, extr_32, List.map_cons, List.map_nil, cond_true, cond_false, aop, aThen, aBlock, argEnv, ev, sput, sputO, binK, binI, unK, builtinK, pickK, Nat.reduceBEq, Nat.reduceAdd, Int.reduceBEq, Int.reduceBNe, Int.reduceLT, aPost, resK, tup, tyf]
  refine hN _ _ ?_
  clear hN N
  refine aw_cut fun N hN => ?_
  simp (config := {maxSteps := 2000000}) only [s41, ↓aw_region, ↓aw_skip, ↓aw_seq, ↓aw_block, ↓aw_exit, ↓aw_ret, ↓sops_nil, ↓sops_go, ↓dops_nil, ↓dopsX_nil, ↓dopsR_nil, ↓vdn, vup, extr_20, extr_21, extr_30, extr_31, extr_32, List.map_cons, List.map_nil, cond_true, cond_false, aop, aThen, aBlock, argEnv, ev, sput, sputO, binK, binI, unK, builtinK, pickK, Nat.reduceBEq, Nat.reduceAdd, Int.reduceBEq, Int.reduceBNe, Int.reduceLT, aPost, resK, tup, tyf, callK, List.nil_append, List.append_nil, List.toList_toArray, List.cons_append]
  refine (valid_call hv hl hx).mono ?_
  rintro _ h ⟨rfl, rfl⟩
  cases ht : trn xs with
  | false =>
    simp (config := {maxSteps := 2000000}) only [s41, ↓aw_region, ↓aw_skip, ↓aw_seq, ↓aw_block, ↓aw_exit, ↓aw_ret, ↓sops_nil, ↓sops_go, ↓dops_nil, ↓dopsX_nil, ↓dopsR_nil, ↓vdn, vup, extr_20, extr_21, extr_30, extr_31, extr_32, List.map_cons, List.map_nil, cond_true, cond_false, aop, aThen, aBlock, argEnv, ev, sput, sputO, binK, binI, unK, builtinK, pickK, Nat.reduceBEq, Nat.reduceAdd, Int.reduceBEq, Int.reduceBNe, Int.reduceLT, aPost, resK, tup, tyf, ht, Bool.false_eq_true, false_and, if_false]
    exact Ext.refl _ _
  | true =>
    by_cases h28 : ps.length ≤ 28
    rotate_left
    · have hgt : (28 : Int) < ((ps.length : Nat) : Int) := by omega
      have hno : okPs xs.length ps = false := by rw [okPs, decide_eq_false h28, Bool.and_false]
      simp (config := {maxSteps := 2000000}) only [s41, ↓aw_region, ↓aw_skip, ↓aw_seq, ↓aw_block, ↓aw_exit, ↓aw_ret, ↓sops_nil, ↓sops_go, ↓dops_nil, ↓dopsX_nil, ↓dopsR_nil, ↓vdn, vup, extr_20, extr_21, extr_30, extr_31, extr_32, List.map_cons, List.map_nil, cond_true, cond_false, aop, aThen, aBlock, argEnv, ev, sput, sputO, binK, binI, unK, builtinK, pickK, Nat.reduceBEq, Nat.reduceAdd, Int.reduceBEq, Int.reduceBNe, Int.reduceLT, aPost, resK, tup, tyf, ht, hp.len, gt_iff_lt, hgt, hno, Bool.false_eq_true, and_false, if_false]
      exact Ext.refl _ _
    have hgt : ¬ (28 : Int) < ((ps.length : Nat) : Int) := by omega
    have hlen := trn_len ht
    have hne : xs ≠ [] := by rintro rfl; simp at hlen
    have hsm0 := trn_sm ht
    simp (config := {maxSteps := 2000000}) only [s41, ↓aw_region, ↓aw_skip, ↓aw_seq, ↓aw_block, ↓aw_exit, ↓aw_ret, ↓sops_nil, ↓sops_go, ↓dops_nil, ↓dopsX_nil, ↓dopsR_nil, ↓vdn, vup, extr_20, extr_21, extr_30, extr_31, extr_32, List.map_cons, List.map_nil, cond_true, cond_false, aop, aThen, aBlock, argEnv, ev, sput, sputO, binK, binI, unK, builtinK, pickK, Nat.reduceBEq, Nat.reduceAdd, Int.reduceBEq, Int.reduceBNe, Int.reduceLT, aPost, resK, tup, tyf, ht, hp.len, gt_iff_lt, hgt]
    refine hN _ _ ?_
    clear hN N
    refine aw_cut fun N hN => ?_
    simp (config := {maxSteps := 2000000}) only [s41, ↓aw_region, ↓aw_skip, ↓aw_seq, ↓aw_block, ↓aw_exit, ↓aw_ret, ↓sops_nil, ↓sops_go, ↓dops_nil, ↓dopsX_nil, ↓dopsR_nil, ↓vdn, vup, extr_20, extr_21, extr_30, extr_31, extr_32, List.map_cons, List.map_nil, cond_true, cond_false, aop, aThen, aBlock, argEnv, ev, sput, sputO, binK, binI, unK, builtinK, pickK, Nat.reduceBEq, Nat.reduceAdd, Int.reduceBEq, Int.reduceBNe, Int.reduceLT, aPost, resK, tup, tyf, callK, List.nil_append, List.append_nil, List.toList_toArray, List.cons_append]
    refine (clone_fresh hv hne (by omega)).mono ?_
    rintro _ h1 ⟨b, rfl, hb1, hbl, hE1⟩
    refine hN _ _ ?_
    clear hN N
    simp (config := {maxSteps := 2000000}) only [s41, ↓aw_region, ↓aw_skip, ↓aw_seq, ↓aw_block, ↓aw_exit, ↓aw_ret, ↓sops_nil, ↓sops_go, ↓dops_nil, ↓dopsX_nil, ↓dopsR_nil, ↓vdn, vup, extr_20, extr_21, extr_30, extr_31, extr_32, List.map_cons, List.map_nil, cond_true, cond_false, aop, aThen, aBlock, argEnv, ev, sput, sputO, binK, binI, unK, builtinK, pickK, Nat.reduceBEq, Nat.reduceAdd, Int.reduceBEq, Int.reduceBNe, Int.reduceLT, aPost, resK, tup, tyf, hp.len, ↓aw_loop_eq]
    refine aws_hide fun Q hQ => ?_
    refine aw_loop (γ := Nat × Heap) (fun s => s.1 ≤ ps.length ∧ s.2[b]? = some (.ints (turnTo xs ps s.1) 3 false) ∧ Ext (fun _ => False) h s.2 ∧ ∀ i, i < s.1 → okK xs.length ps i = true)
      (fun s => ([(0, v), (1, pv), (6, .slice (some ⟨b, 0, some 0⟩) xs.length xs.length), (21, pv), (22, vint ps.length), (23, vint s.1)], s.2)) (fun s => ps.length - s.1) (0, h1) ⟨Nat.zero_le _, hb1, hE1, fun _ h => by omega⟩ (by simp (config := {maxSteps := 2000000}) only [↓aw_region, ↓aw_skip, ↓aw_seq, ↓aw_block, ↓aw_exit, ↓aw_ret, ↓sops_nil, ↓sops_go, ↓dops_nil, ↓dopsX_nil, ↓dopsR_nil, ↓vdn, vup, extr_20, extr_21, extr_30, extr_31, extr_32, List.map_cons, List.map_nil, cond_true, cond_false, aop, aThen, aBlock, argEnv, ev, sput, sputO, binK, binI, unK, builtinK, pickK, Nat.reduceBEq, Nat.reduceAdd, Int.reduceBEq, Int.reduceBNe, Int.reduceLT, aPost, resK, tup, tyf, Int.natCast_zero]) rfl ?_
    rintro ⟨k, hq⟩ ⟨hk, hbq, hE, hok⟩
    simp only at hk hbq hE hok
    refine aw_hide fun Q2 hQ2 => ?_
    by_cases hin : (k : Int) < ps.length
    · have hk' : k < ps.length := by omega
      have hvq := IntSl_ext hv hE
      have hpq := hp.ext hE
      obtain ⟨p, hpe⟩ : ∃ p, p = ps.getD k (0, 0) := ⟨_, rfl⟩
      have hld : ∀ {K : Value → Prop}, loadK prog hq 52 (elemP pv 2 k) K = K (pV p) := fun {K} => by rw [hpe]; exact hpq.load shp_52 hk' K
      have c0 := get_new hq (Blk.cells [.int .i64 0, .int .i64 0] 52 false)
      have hst : ∀ {K : Heap → Prop}, storeK prog (hq ++ [Blk.cells [.int .i64 0, .int .i64 0] 52 false]) 52 (.pointer (some ⟨hq.length, 0, none⟩)) (pV p) K = K ((hq ++ [Blk.cells [.int .i64 0, .int .i64 0] 52 false]).set hq.length (.cells [vint p.1, vint p.2] 52 false)) := fun {K} => storeP c0 rfl
      have c1 : ((hq ++ [Blk.cells [.int .i64 0, .int .i64 0] 52 false]).set hq.length (.cells [vint p.1, vint p.2] 52 false))[hq.length]? = some (.cells [vint p.1, vint p.2] 52 false) := get_set (by simp) _
      have hE2 : Ext (fun _ => False) hq ((hq ++ [Blk.cells [.int .i64 0, .int .i64 0] 52 false]).set hq.length (.cells [vint p.1, vint p.2] 52 false)) := ⟨by simp, fun j hj _ => by rw [List.getElem?_set_ne (by omega), List.getElem?_append_left hj]⟩
      simp only [l41_0]
      simp (config := {maxSteps := 2000000}) only [s41, ↓aw_region, ↓aw_skip, ↓aw_seq, ↓aw_block, ↓aw_exit, ↓aw_ret, ↓sops_nil, ↓sops_go, ↓dops_nil, ↓dopsX_nil, ↓dopsR_nil, ↓vdn, vup, extr_20, extr_21, extr_30, extr_31, extr_32, List.map_cons, List.map_nil, cond_true, cond_false, aop, aThen, aBlock, argEnv, ev, sput, sputO, binK, binI, unK, builtinK, pickK, Nat.reduceBEq, Nat.reduceAdd, Int.reduceBEq, Int.reduceBNe, Int.reduceLT, aPost, resK, tup, tyf, hin, hpq.idx el_46 esz_52 hk', hld, allocK, newPtr, zero_52, hst]
      have hb2 := (hE2.2 _ (get_lt hbq) id).trans hbq
      have hbn : b ≠ hq.length := by have := get_lt hbq; omega
      generalize (hq ++ [Blk.cells [.int .i64 0, .int .i64 0] 52 false]).set hq.length (.cells [vint p.1, vint p.2] 52 false) = h2 at c1 hE2 hb2 ⊢
      generalize hq.length = bp at c1 hbn ⊢
      have hEh := hE.trans hE2
      have hv2 := IntSl_ext hv hEh
      have hp2 := hp.ext hEh
      refine aw_drawX [] (by kernel_rfl) (by kernel_rfl) (by kernel_rfl) (by kernel_rfl) ?_
      simp (config := {maxSteps := 2000000}) only [s41, ↓aw_region, ↓aw_skip, ↓aw_seq, ↓aw_block, ↓aw_exit, ↓aw_ret, ↓sops_nil, ↓sops_go, ↓dops_nil, ↓dopsX_nil, ↓dopsR_nil, ↓vdn, vup, extr_20, extr_21, extr_30, extr_31, extr_32, List.map_cons, List.map_nil, cond_true, cond_false, aop, aThen, aBlock, argEnv, ev, sput, sputO, binK, binI, unK, builtinK, pickK, Nat.reduceBEq, Nat.reduceAdd, Int.reduceBEq, Int.reduceBNe, Int.reduceLT, aPost, resK, tup, tyf, pidx0, pidx1, pl0 c1, pl1 c1]
      -- what makes an end
      have stop : okK xs.length ps k = false → ¬ (trn xs = true ∧ okPs xs.length ps = true) := fun h1 h2 => by
        have h3 := h2.2
        rw [okPs, Bool.and_eq_true, List.all_eq_true] at h3
        have := h3.1 k (List.mem_range.2 hk')
        rw [h1] at this; cases this
      have hno : ∀ {K : Prop}, okK xs.length ps k = false → K → K := fun _ h => h
      by_cases ha : p.1 < 0
      · have hf : okK xs.length ps k = false := by
          rw [okK, ← hpe, okPr, decide_eq_false (show ¬ 0 ≤ p.1 by omega)]; rfl
        refine aw_drawX [(18, 1)] (by kernel_rfl) (by kernel_rfl) (by kernel_rfl) (by kernel_rfl) ?_
        simp (config := {maxSteps := 2000000}) only [s41, ↓aw_region, ↓aw_skip, ↓aw_seq, ↓aw_block, ↓aw_exit, ↓aw_ret, ↓sops_nil, ↓sops_go, ↓dops_nil, ↓dopsX_nil, ↓dopsR_nil, ↓vdn, vup, extr_20, extr_21, extr_30, extr_31, extr_32, List.map_cons, List.map_nil, cond_true, cond_false, aop, aThen, aBlock, argEnv, ev, sput, sputO, binK, binI, unK, builtinK, pickK, Nat.reduceBEq, Nat.reduceAdd, Int.reduceBEq, Int.reduceBNe, Int.reduceLT, aPost, resK, tup, tyf, ha]
        refine hQ2 _ _ _ (hQ _ _ _ ?_)
        simp (config := {maxSteps := 2000000}) only [s41, ↓aw_region, ↓aw_skip, ↓aw_seq, ↓aw_block, ↓aw_exit, ↓aw_ret, ↓sops_nil, ↓sops_go, ↓dops_nil, ↓dopsX_nil, ↓dopsR_nil, ↓vdn, vup, extr_20, extr_21, extr_30, extr_31, extr_32, List.map_cons, List.map_nil, cond_true, cond_false, aop, aThen, aBlock, argEnv, ev, sput, sputO, binK, binI, unK, builtinK, pickK, Nat.reduceBEq, Nat.reduceAdd, Int.reduceBEq, Int.reduceBNe, Int.reduceLT, aPost, resK, tup, tyf]
        rw [if_neg (stop hf)]
        exact ⟨hEh, trivial⟩
      by_cases hab : p.2 ≤ p.1
      · have hf : okK xs.length ps k = false := by
          rw [okK, ← hpe, okPr, decide_eq_false (show ¬ p.1 < p.2 by omega), Bool.and_false]; rfl
        refine aw_drawX [(18, 1)] (by kernel_rfl) (by kernel_rfl) (by kernel_rfl) (by kernel_rfl) ?_
        simp (config := {maxSteps := 2000000}) only [s41, ↓aw_region, ↓aw_skip, ↓aw_seq, ↓aw_block, ↓aw_exit, ↓aw_ret, ↓sops_nil, ↓sops_go, ↓dops_nil, ↓dopsX_nil, ↓dopsR_nil, ↓vdn, vup, extr_20, extr_21, extr_30, extr_31, extr_32, List.map_cons, List.map_nil, cond_true, cond_false, aop, aThen, aBlock, argEnv, ev, sput, sputO, binK, binI, unK, builtinK, pickK, Nat.reduceBEq, Nat.reduceAdd, Int.reduceBEq, Int.reduceBNe, Int.reduceLT, aPost, resK, tup, tyf, ha, ge_iff_le, hab]
        refine hQ2 _ _ _ (hQ _ _ _ ?_)
        simp (config := {maxSteps := 2000000}) only [s41, ↓aw_region, ↓aw_skip, ↓aw_seq, ↓aw_block, ↓aw_exit, ↓aw_ret, ↓sops_nil, ↓sops_go, ↓dops_nil, ↓dopsX_nil, ↓dopsR_nil, ↓vdn, vup, extr_20, extr_21, extr_30, extr_31, extr_32, List.map_cons, List.map_nil, cond_true, cond_false, aop, aThen, aBlock, argEnv, ev, sput, sputO, binK, binI, unK, builtinK, pickK, Nat.reduceBEq, Nat.reduceAdd, Int.reduceBEq, Int.reduceBNe, Int.reduceLT, aPost, resK, tup, tyf]
        rw [if_neg (stop hf)]
        exact ⟨hEh, trivial⟩
      by_cases hbb : ((xs.length : Nat) : Int) ≤ p.2
      · have hf : okK xs.length ps k = false := by
          rw [okK, ← hpe, okPr, decide_eq_false (show ¬ p.2 < xs.length by omega), Bool.and_false]; rfl
        refine aw_drawX [(18, 1)] (by kernel_rfl) (by kernel_rfl) (by kernel_rfl) (by kernel_rfl) ?_
        simp (config := {maxSteps := 2000000}) only [s41, ↓aw_region, ↓aw_skip, ↓aw_seq, ↓aw_block, ↓aw_exit, ↓aw_ret, ↓sops_nil, ↓sops_go, ↓dops_nil, ↓dopsX_nil, ↓dopsR_nil, ↓vdn, vup, extr_20, extr_21, extr_30, extr_31, extr_32, List.map_cons, List.map_nil, cond_true, cond_false, aop, aThen, aBlock, argEnv, ev, sput, sputO, binK, binI, unK, builtinK, pickK, Nat.reduceBEq, Nat.reduceAdd, Int.reduceBEq, Int.reduceBNe, Int.reduceLT, aPost, resK, tup, tyf, ha, ge_iff_le, hab, hv2.len, hbb]
        refine hQ2 _ _ _ (hQ _ _ _ ?_)
        simp (config := {maxSteps := 2000000}) only [s41, ↓aw_region, ↓aw_skip, ↓aw_seq, ↓aw_block, ↓aw_exit, ↓aw_ret, ↓sops_nil, ↓sops_go, ↓dops_nil, ↓dopsX_nil, ↓dopsR_nil, ↓vdn, vup, extr_20, extr_21, extr_30, extr_31, extr_32, List.map_cons, List.map_nil, cond_true, cond_false, aop, aThen, aBlock, argEnv, ev, sput, sputO, binK, binI, unK, builtinK, pickK, Nat.reduceBEq, Nat.reduceAdd, Int.reduceBEq, Int.reduceBNe, Int.reduceLT, aPost, resK, tup, tyf]
        rw [if_neg (stop hf)]
        exact ⟨hEh, trivial⟩
      have hpr : okPr xs.length p = true := by
        rw [okPr, decide_eq_true (show 0 ≤ p.1 by omega), decide_eq_true (show p.1 < p.2 by omega), decide_eq_true (show p.2 < xs.length by omega)]; rfl
      refine aw_drawX [(18, 1)] (by kernel_rfl) (by kernel_rfl) (by kernel_rfl) (by kernel_rfl) ?_
      simp (config := {maxSteps := 2000000}) only [s41, ↓aw_region, ↓aw_skip, ↓aw_seq, ↓aw_block, ↓aw_exit, ↓aw_ret, ↓sops_nil, ↓sops_go, ↓dops_nil, ↓dopsX_nil, ↓dopsR_nil, ↓vdn, vup, extr_20, extr_21, extr_30, extr_31, extr_32, List.map_cons, List.map_nil, cond_true, cond_false, aop, aThen, aBlock, argEnv, ev, sput, sputO, binK, binI, unK, builtinK, pickK, Nat.reduceBEq, Nat.reduceAdd, Int.reduceBEq, Int.reduceBNe, Int.reduceLT, aPost, resK, tup, tyf, ha, ge_iff_le, hab, hv2.len, hbb, Option.map_none, Option.map_some]
      refine hp2.pre el_46 esz_52 (m := k) (by omega) ?_
      intro tv htv
      have htl : (ps.take k).length ≤ 28 := by simp; omega
      simp (config := {maxSteps := 2000000}) only [s41, ↓aw_region, ↓aw_skip, ↓aw_seq, ↓aw_block, ↓aw_exit, ↓aw_ret, ↓sops_nil, ↓sops_go, ↓dops_nil, ↓dopsX_nil, ↓dopsR_nil, ↓vdn, vup, extr_20, extr_21, extr_30, extr_31, extr_32, List.map_cons, List.map_nil, cond_true, cond_false, aop, aThen, aBlock, argEnv, ev, sput, sputO, binK, binI, unK, builtinK, pickK, Nat.reduceBEq, Nat.reduceAdd, Int.reduceBEq, Int.reduceBNe, Int.reduceLT, aPost, resK, tup, tyf, loadP c1, callK, List.nil_append, List.append_nil, List.toList_toArray, List.cons_append]
      refine ⟨_, _, pcontains_call (p := p) htv (by omega), rfl, ?_⟩
      cases hct : (ps.take k).contains p with
      | true =>
        have hf : okK xs.length ps k = false := by rw [okK, ← hpe, hct, Bool.not_true, Bool.and_false]
        simp (config := {maxSteps := 2000000}) only [s41, ↓aw_region, ↓aw_skip, ↓aw_seq, ↓aw_block, ↓aw_exit, ↓aw_ret, ↓sops_nil, ↓sops_go, ↓dops_nil, ↓dopsX_nil, ↓dopsR_nil, ↓vdn, vup, extr_20, extr_21, extr_30, extr_31, extr_32, List.map_cons, List.map_nil, cond_true, cond_false, aop, aThen, aBlock, argEnv, ev, sput, sputO, binK, binI, unK, builtinK, pickK, Nat.reduceBEq, Nat.reduceAdd, Int.reduceBEq, Int.reduceBNe, Int.reduceLT, aPost, resK, tup, tyf]
        refine hQ2 _ _ _ (hQ _ _ _ ?_)
        simp (config := {maxSteps := 2000000}) only [s41, ↓aw_region, ↓aw_skip, ↓aw_seq, ↓aw_block, ↓aw_exit, ↓aw_ret, ↓sops_nil, ↓sops_go, ↓dops_nil, ↓dopsX_nil, ↓dopsR_nil, ↓vdn, vup, extr_20, extr_21, extr_30, extr_31, extr_32, List.map_cons, List.map_nil, cond_true, cond_false, aop, aThen, aBlock, argEnv, ev, sput, sputO, binK, binI, unK, builtinK, pickK, Nat.reduceBEq, Nat.reduceAdd, Int.reduceBEq, Int.reduceBNe, Int.reduceLT, aPost, resK, tup, tyf]
        rw [if_neg (stop hf)]
        exact ⟨hEh, trivial⟩
      | false =>
        have hyes : okK xs.length ps k = true := by rw [okK, ← hpe, hct, hpr]; rfl
        simp (config := {maxSteps := 2000000}) only [s41, ↓aw_region, ↓aw_skip, ↓aw_seq, ↓aw_block, ↓aw_exit, ↓aw_ret, ↓sops_nil, ↓sops_go, ↓dops_nil, ↓dopsX_nil, ↓dopsR_nil, ↓vdn, vup, extr_20, extr_21, extr_30, extr_31, extr_32, List.map_cons, List.map_nil, cond_true, cond_false, aop, aThen, aBlock, argEnv, ev, sput, sputO, binK, binI, unK, builtinK, pickK, Nat.reduceBEq, Nat.reduceAdd, Int.reduceBEq, Int.reduceBNe, Int.reduceLT, aPost, resK, tup, tyf]
        obtain ⟨i, j, rfl, hij, hj⟩ := okPr_nat hpr
        have hi : i < xs.length := by omega
        have hsm := turn_sm (ps := ps) hsm0 hlen.2 k fun i hi => by
          have := hok i hi
          rw [okK, Bool.and_eq_true] at this
          exact this.1
        have hstep : turnTo xs ps (k + 1) = half (half (turnTo xs ps k) i j) j i := by rw [turnTo, ← hpe]; rfl
        generalize turnTo xs ps k = t at hsm hb2 hstep ⊢
        have hit : i < t.length := by rw [hsm.1]; exact hi
        have x1 := xor_half hsm hi hj hlen.2
        have hsm2 := half_sm hsm hi hj hlen.2
        have x2 := xor_half hsm2 hj hi hlen.2
        refine aw_drawX [] (by kernel_rfl) (by kernel_rfl) (by kernel_rfl) (by kernel_rfl) ?_
        simp (config := {maxSteps := 2000000}) only [s41, ↓aw_region, ↓aw_skip, ↓aw_seq, ↓aw_block, ↓aw_exit, ↓aw_ret, ↓sops_nil, ↓sops_go, ↓dops_nil, ↓dopsX_nil, ↓dopsR_nil, ↓vdn, vup, extr_20, extr_21, extr_30, extr_31, extr_32, List.map_cons, List.map_nil, cond_true, cond_false, aop, aThen, aBlock, argEnv, ev, sput, sputO, binK, binI, unK, builtinK, pickK, Nat.reduceBEq, Nat.reduceAdd, Int.reduceBEq, Int.reduceBNe, Int.reduceLT, aPost, resK, tup, tyf, idxW hi, loadX hb2 hit, x1, storeX hb2 hit]
        have hb3 : (h2.set b (.ints (t.set i (xI (t.getD i 0) j)) 3 false))[b]? = some (.ints (half t i j) 3 false) := get_set (get_lt hb2) _
        have hE3 : Ext (fun _ => False) h (h2.set b (.ints (t.set i (xI (t.getD i 0) j)) 3 false)) := ⟨by simp; exact hEh.1, fun q hq _ => by rw [List.getElem?_set_ne (by omega)]; exact hEh.2 q hq id⟩
        generalize h2.set b (.ints (t.set i (xI (t.getD i 0) j)) 3 false) = h3 at hb3 hE3 ⊢
        have hjt : j < (half t i j).length := by rw [hsm2.1]; exact hj
        refine aw_drawX [] (by kernel_rfl) (by kernel_rfl) (by kernel_rfl) (by kernel_rfl) ?_
        simp (config := {maxSteps := 2000000}) only [s41, ↓aw_region, ↓aw_skip, ↓aw_seq, ↓aw_block, ↓aw_exit, ↓aw_ret, ↓sops_nil, ↓sops_go, ↓dops_nil, ↓dopsX_nil, ↓dopsR_nil, ↓vdn, vup, extr_20, extr_21, extr_30, extr_31, extr_32, List.map_cons, List.map_nil, cond_true, cond_false, aop, aThen, aBlock, argEnv, ev, sput, sputO, binK, binI, unK, builtinK, pickK, Nat.reduceBEq, Nat.reduceAdd, Int.reduceBEq, Int.reduceBNe, Int.reduceLT, aPost, resK, tup, tyf, idxW hj, loadX hb3 hjt, x2, storeX hb3 hjt]
        have hb4 : (h3.set b (.ints ((half t i j).set j (xI ((half t i j).getD j 0) i)) 3 false))[b]? = some (.ints (half (half t i j) j i) 3 false) := get_set (get_lt hb3) _
        have hE4 : Ext (fun _ => False) h (h3.set b (.ints ((half t i j).set j (xI ((half t i j).getD j 0) i)) 3 false)) := ⟨by simp; exact hE3.1, fun q hq _ => by rw [List.getElem?_set_ne (by omega)]; exact hE3.2 q hq id⟩
        generalize h3.set b (.ints ((half t i j).set j (xI ((half t i j).getD j 0) i)) 3 false) = h4 at hb4 hE4 ⊢
        simp (config := {maxSteps := 2000000}) only [s41, ↓aw_region, ↓aw_skip, ↓aw_seq, ↓aw_block, ↓aw_exit, ↓aw_ret, ↓sops_nil, ↓sops_go, ↓dops_nil, ↓dopsX_nil, ↓dopsR_nil, ↓vdn, vup, extr_20, extr_21, extr_30, extr_31, extr_32, List.map_cons, List.map_nil, cond_true, cond_false, aop, aThen, aBlock, argEnv, ev, sput, sputO, binK, binI, unK, builtinK, pickK, Nat.reduceBEq, Nat.reduceAdd, Int.reduceBEq, Int.reduceBNe, Int.reduceLT, aPost, resK, tup, tyf, add1 (show k < 9223372036854775807 by omega)]
        refine hQ2 _ _ _ ⟨(k + 1, h4), ⟨by simp only; omega, by simp only; rw [hstep]; exact hb4, hE4, fun q hq => ?_⟩, by simp only; omega, by simp (config := {maxSteps := 2000000}) only [↓aw_region, ↓aw_skip, ↓aw_seq, ↓aw_block, ↓aw_exit, ↓aw_ret, ↓sops_nil, ↓sops_go, ↓dops_nil, ↓dopsX_nil, ↓dopsR_nil, ↓vdn, vup, extr_20, extr_21, extr_30, extr_31, extr_32, List.map_cons, List.map_nil, cond_true, cond_false, aop, aThen, aBlock, argEnv, ev, sput, sputO, binK, binI, unK, builtinK, pickK, Nat.reduceBEq, Nat.reduceAdd, Int.reduceBEq, Int.reduceBNe, Int.reduceLT, aPost, resK, tup, tyf], rfl⟩
        simp only at hq
        by_cases hqk : q = k
        · rw [hqk]; exact hyes
        · exact hok q (by omega)
    · obtain rfl : k = ps.length := by omega
      have hyes : okPs xs.length ps = true := by
        rw [okPs, Bool.and_eq_true, List.all_eq_true, decide_eq_true_eq]
        exact ⟨fun i hi => hok i (List.mem_range.1 hi), h28⟩
      simp (config := {maxSteps := 2000000}) only [s41, ↓aw_region, ↓aw_skip, ↓aw_seq, ↓aw_block, ↓aw_exit, ↓aw_ret, ↓sops_nil, ↓sops_go, ↓dops_nil, ↓dopsX_nil, ↓dopsR_nil, ↓vdn, vup, extr_20, extr_21, extr_30, extr_31, extr_32, List.map_cons, List.map_nil, cond_true, cond_false, aop, aThen, aBlock, argEnv, ev, sput, sputO, binK, binI, unK, builtinK, pickK, Nat.reduceBEq, Nat.reduceAdd, Int.reduceBEq, Int.reduceBNe, Int.reduceLT, aPost, resK, tup, tyf, l41_0, Int.lt_irrefl]
      refine hQ2 _ _ _ (hQ _ _ _ ?_)
      simp (config := {maxSteps := 2000000}) only [s41, ↓aw_region, ↓aw_skip, ↓aw_seq, ↓aw_block, ↓aw_exit, ↓aw_ret, ↓sops_nil, ↓sops_go, ↓dops_nil, ↓dopsX_nil, ↓dopsR_nil, ↓vdn, vup, extr_20, extr_21, extr_30, extr_31, extr_32, List.map_cons, List.map_nil, cond_true, cond_false, aop, aThen, aBlock, argEnv, ev, sput, sputO, binK, binI, unK, builtinK, pickK, Nat.reduceBEq, Nat.reduceAdd, Int.reduceBEq, Int.reduceBNe, Int.reduceLT, aPost, resK, tup, tyf, if_true, ht, hyes, and_self]
      have hsm := turn_sm (ps := ps) hsm0 hlen.2 ps.length fun i hi => by
        have := hok i hi
        rw [okK, Bool.and_eq_true] at this
        exact this.1
      refine ⟨hE, _, rfl, .inr ⟨b, 0, some 0, xs.length, (turnTo xs ps ps.length).map vint, 3, false, by rw [hsm.1], by rw [hsm.1]; exact Nat.le_refl _, by simp [view, hbq, Blk.view], fun i hi => ?_⟩⟩
      simp [List.getD, hi]
end Go.Proofs.Tryd.Am

namespace Rb
/-- How many pairs an order goes against: for each one, the earlier ones that it beats. -/
def back (b : Nat → Nat → Bool) (pre : List Nat) : List Nat → Nat
  | [] => 0
  | x :: l => pre.countP (b x) + back b (pre ++ [x]) l
def cost (c : Nat → Nat → Nat) : Nat → List Nat → Nat
  | _, [] => 0
  | s, x :: l => c x s + cost c (s ||| 2 ^ x) l
section
variable {c : Nat → Nat → Nat} {n : Nat}
/-- Each order of those who are left brings at least so many. -/
theorem rst_min : ∀ (l : List Nat) (s : Nat), l.Nodup → (∀ x ∈ l, x ∈ fr n s) → rst c n l.length s ≤ cost c s l
  | [], _, _, _ => Nat.le_refl _
  | x :: l, s, hd, hm => by
    have hd' := List.nodup_cons.1 hd
    rw [List.length_cons, rst_succ, cost]
    have h1 := mnF_mem (v := fv c n l.length s) (fr n s) (n * n) x (hm x (by simp))
    have h2 := rst_min l (s ||| 2 ^ x) hd'.2 fun y hy => by
      have := mem_fr.1 (hm y (by simp [hy]))
      refine mem_fr.2 ⟨this.1, ?_⟩
      have hne : x ≠ y := fun e => hd'.1 (e ▸ hy)
      rw [testBit_put, this.2, decide_eq_false hne]; rfl
    have h3 : fv c n l.length s x = c x s + rst c n l.length (s ||| 2 ^ x) := rfl
    rw [h3] at h1
    omega
/-- The order that is kept: it has all who are left, each once, and brings no more. -/
theorem gr_ok (hc : Few c n) (hn : n ≤ 8) : ∀ (k s : Nat), s < 2 ^ n → (fr n s).length = k → (gr c n k s).length = k ∧ (gr c n k s).Nodup ∧ (∀ x ∈ gr c n k s, x ∈ fr n s) ∧ cost c s (gr c n k s) = rst c n k s
  | 0, _, _, _ => ⟨rfl, List.nodup_nil, (fun _ h => by cases h), rfl⟩
  | k + 1, s, hs, hk => by
    obtain ⟨i, hf, hi, hg⟩ := gr_succ hc hn hs hk
    have hput := fr_put hi
    obtain ⟨h1, h2, h3, h4⟩ := gr_ok hc hn k (s ||| 2 ^ i) (put_lt hs (mem_fr.1 hi).1) (by omega)
    rw [hg]
    refine ⟨by rw [List.length_cons, h1], List.nodup_cons.2 ⟨fun h => ?_, h2⟩, fun x hx => ?_, ?_⟩
    · have := (mem_fr.1 (h3 i h)).2
      rw [testBit_put, decide_eq_true rfl, Bool.or_true] at this
      cases this
    · rcases List.mem_cons.1 hx with rfl | hx
      · exact hi
      · have := mem_fr.1 (h3 x hx)
        refine mem_fr.2 ⟨this.1, ?_⟩
        have h5 := this.2
        rw [testBit_put, Bool.or_eq_false_iff] at h5
        exact h5.1
    · rw [cost, h4]
      have := List.find?_some hf
      simp only [beq_iff_eq] at this
      rw [← this]; rfl
end
section
variable {b b' : Nat → Nat → Bool}
theorem countP_same {p q : Nat → Bool} {l : List Nat} (h : ∀ x ∈ l, p x = q x) : l.countP p = l.countP q := List.countP_congr fun x hx => by rw [h x hx]
/-- At one place other: counts differ by one at most. -/
theorem countP_one {p q : Nat → Bool} {a : Nat} : ∀ {l : List Nat}, l.Nodup → (∀ x ∈ l, x ≠ a → p x = q x) → l.countP p ≤ l.countP q + 1
  | [], _, _ => by simp
  | x :: l, hd, h => by
    have hd' := List.nodup_cons.1 hd
    rw [List.countP_cons, List.countP_cons]
    by_cases hx : x = a
    · rw [countP_same (p := p) (q := q) fun y hy => h y (by simp [hy]) fun e => hd'.1 (by rw [hx, ← e]; exact hy)]
      split <;> split <;> omega
    · have := countP_one hd'.2 fun y hy => h y (by simp [hy])
      rw [h x (by simp) hx]
      omega
theorem back_same : ∀ (l pre : List Nat), (∀ x ∈ l, ∀ y ∈ pre ++ l, b x y = b' x y) → back b pre l = back b' pre l
  | [], _, _ => rfl
  | x :: l, pre, h => by
    rw [back, back, countP_same fun y hy => h x (by simp) y (by simp [hy]), back_same l (pre ++ [x]) fun z hz y hy => h z (by simp [hz]) y (by simpa using hy)]
/-- One result turned: one pair less at most. -/
theorem back_turn {a d : Nat} (h : ∀ x y, ¬ (x = a ∧ y = d) → ¬ (x = d ∧ y = a) → b x y = b' x y) : ∀ (l pre : List Nat), (pre ++ l).Nodup → a ≠ d → back b pre l ≤ back b' pre l + 1
  | [], _, _, _ => Nat.zero_le _
  | x :: l, pre, hd, had => by
    have hd2 : ((pre ++ [x]) ++ l).Nodup := by simpa using hd
    have hx : x ∉ pre ++ l := by
      have := List.nodup_append.1 hd
      intro hm
      rcases List.mem_append.1 hm with hm | hm
      · exact this.2.2 x hm x (by simp) rfl
      · exact (List.nodup_cons.1 this.2.1).1 hm
    have hpre : pre.Nodup := (List.nodup_append.1 hd).1
    have hno : ∀ z ∈ l, z ≠ x := fun z hz e => hx (by simp [← e, hz])
    have hnp : ∀ z ∈ pre, z ≠ x := fun z hz e => hx (by simp [← e, hz])
    rw [back, back]
    have ih := back_turn h l (pre ++ [x]) hd2 had
    -- the other end, if x is one
    have key : ∀ o, (∀ y, y ≠ o → b x y = b' x y) → (o ∈ pre → back b (pre ++ [x]) l = back b' (pre ++ [x]) l) → pre.countP (b x) + back b (pre ++ [x]) l ≤ pre.countP (b' x) + back b' (pre ++ [x]) l + 1 := by
      intro o h1 h2
      by_cases ho : o ∈ pre
      · rw [h2 ho]
        have := countP_one (p := b x) (q := b' x) (a := o) hpre fun y _ hy => h1 y hy
        omega
      · rw [countP_same (p := b x) (q := b' x) fun y hy => h1 y fun e => ho (e ▸ hy)]
        omega
    have hsame : ∀ o, o ∈ pre → (x = a ∧ o = d ∨ x = d ∧ o = a) → back b (pre ++ [x]) l = back b' (pre ++ [x]) l := by
      intro o ho hc
      refine back_same l _ fun z hz y hy => ?_
      have hzx := hno z hz
      have hzo : z ≠ o := fun e => by
        have := (List.nodup_append.1 hd).2.2 o ho z (by simp [hz])
        exact this e.symm
      rcases hc with ⟨rfl, rfl⟩ | ⟨rfl, rfl⟩
      · exact h z y (fun e => hzx e.1) fun e => hzo e.1
      · exact h z y (fun e => hzo e.1) fun e => hzx e.1
    by_cases hxa : x = a
    · refine key d (fun y hy => h x y (fun e => hy e.2) fun e => had (hxa.symm.trans e.1)) fun ho => hsame d ho (.inl ⟨hxa, rfl⟩)
    · by_cases hxd : x = d
      · exact key a (fun y hy => h x y (fun e => hxa e.1) fun e => hy e.2) fun ho => hsame a ho (.inr ⟨hxd, rfl⟩)
      · rw [countP_same (p := b x) (q := b' x) fun y _ => h x y (fun e => hxa e.1) fun e => hxd e.1]
        omega
theorem back_zero : ∀ (l pre : List Nat), (∀ x ∈ pre, ∀ y ∈ l, b y x = false) → l.Pairwise (fun x y => b y x = false) → back b pre l = 0
  | [], _, _, _ => rfl
  | x :: l, pre, h, hp => by
    have hp' := List.pairwise_cons.1 hp
    rw [back, List.countP_eq_zero.2 fun y hy => by rw [h y hy x (by simp)]; decide, back_zero l (pre ++ [x]) (fun z hz y hy => ?_) hp'.2]
    rcases List.mem_append.1 hz with hz | hz
    · exact h z hz y (by simp [hy])
    · rw [List.mem_singleton.1 hz]; exact hp'.1 y hy
/-- Without a cycle: an order that goes against no pair. -/
theorem acyclic {n : Nat} (ht : ∀ i j, i < n → j < n → i ≠ j → b i j = !b j i) (hc : ∀ i j k, i < n → j < n → k < n → b i j = true → b j k = true → b k i = true → False) :
    ∀ k, k ≤ n → ∃ l : List Nat, l.length = k ∧ l.Nodup ∧ (∀ x ∈ l, x < k) ∧ l.Pairwise (fun x y => b y x = false)
  | 0, _ => ⟨[], rfl, List.nodup_nil, (fun _ h => by cases h), List.Pairwise.nil⟩
  | k + 1, hk => by
    obtain ⟨l, hl, hd, hm, hp⟩ := acyclic ht hc k (by omega)
    have hin : ∀ (m : List Nat), (∀ x ∈ m, x < k) → m.Nodup → m.Pairwise (fun x y => b y x = false) → ∃ m' : List Nat, m'.Perm (k :: m) ∧ m'.Pairwise (fun x y => b y x = false) ∧ ((∀ x ∈ m, b k x = true) ∨ ∃ y ∈ m, b y k = true) := by
      intro m
      induction m with
      | nil => exact fun _ _ _ => ⟨[k], List.Perm.refl _, by simp, .inl fun _ h => by cases h⟩
      | cons y m ih =>
        intro h1 h2 h3
        have h2' := List.nodup_cons.1 h2
        have h3' := List.pairwise_cons.1 h3
        have hy : y < k := h1 y (by simp)
        have hky := ht k y (by omega) (by omega) (by omega)
        obtain ⟨m', hpm, hpp, _⟩ := ih (fun x hx => h1 x (by simp [hx])) h2'.2 h3'.2
        cases hb : b k y with
        | true =>
          have hall : ∀ z ∈ y :: m, b k z = true := by
            intro z hz
            rcases List.mem_cons.1 hz with rfl | hz
            · exact hb
            · cases hkz : b k z with
              | true => rfl
              | false =>
                have hzk := h1 z (by simp [hz])
                have hne : y ≠ z := fun e => h2'.1 (e ▸ hz)
                have e1 := ht k z (by omega) (by omega) (by omega)
                have e2 := ht y z (by omega) (by omega) hne
                rw [hkz] at e1
                rw [h3'.1 z hz] at e2
                exact (hc k y z (by omega) (by omega) (by omega) hb e2 (by simpa using e1)).elim
          refine ⟨k :: y :: m, List.Perm.refl _, List.pairwise_cons.2 ⟨fun z hz => ?_, h3⟩, .inl hall⟩
          have hzk := h1 z hz
          have := ht k z (by omega) (by omega) (by omega)
          rw [hall z hz] at this
          simpa using this
        | false =>
          rw [hb] at hky
          refine ⟨y :: m', (List.Perm.cons y hpm).trans (List.Perm.swap _ _ _), List.pairwise_cons.2 ⟨fun z hz => ?_, hpp⟩, .inr ⟨y, by simp, by simpa using hky⟩⟩
          rcases List.mem_cons.1 (hpm.mem_iff.1 hz) with rfl | hz
          · exact hb
          · exact h3'.1 z hz
    obtain ⟨m', hpm, hpp, _⟩ := hin l hm hd hp
    refine ⟨m', by rw [hpm.length_eq, List.length_cons, hl], hpm.nodup_iff.2 (List.nodup_cons.2 ⟨fun h => by have := hm k h; omega, hd⟩), fun x hx => ?_, hpp⟩
    rcases List.mem_cons.1 (hpm.mem_iff.1 hx) with rfl | hx
    · omega
    · have := hm x hx; omega
end
end Rb

namespace Go.Proofs.Tryd.Am
open Go.Am Rb
set_option maxRecDepth 100000
set_option maxHeartbeats 1000000

abbrev nl (os : List Int) : List Nat := os.map Int.toNat
theorem setOf_nl (os : List Int) : setOf os = Clr.setL (nl os) := by rw [setOf, Clr.setL, nl, List.foldl_map]
theorem setOf_bit (os : List Int) (w : Nat) : (setOf os).testBit w = true ↔ w ∈ nl os := by rw [setOf_nl]; exact Clr.setL_bit _ _
theorem isOrd_iff {n : Nat} {os : List Int} : isOrd n os = true ↔ os.length = n ∧ (∀ x ∈ os, 0 ≤ x ∧ x < n) ∧ (nl os).Nodup := by
  have gd : ∀ {k : Nat} (hk : k < os.length), os.getD k 0 = os[k] := fun {k} hk => by rw [List.getD, List.getElem?_eq_getElem hk, Option.getD_some]
  rw [isOrd, Bool.and_eq_true, List.all_eq_true, decide_eq_true_eq]
  constructor
  · rintro ⟨h1, h2⟩
    have h3 : ∀ k, (hk : k < os.length) → (0 ≤ os[k] ∧ os[k] < n) ∧ (os[k].toNat ∉ nl (os.take k)) := fun k hk => by
      have := h1 k (List.mem_range.2 hk)
      rw [newAt, gd hk] at this
      simp only [Bool.and_eq_true, decide_eq_true_eq, Bool.not_eq_true'] at this
      refine ⟨this.1, fun h => ?_⟩
      rw [(setOf_bit _ _).2 h] at this
      exact absurd this.2 (by decide)
    refine ⟨h2, fun x hx => ?_, ?_⟩
    · obtain ⟨k, hk, rfl⟩ := List.getElem_of_mem hx
      exact (h3 k hk).1
    · refine List.pairwise_iff_getElem.2 fun i j hi hj hij e => ?_
      have hi' : i < os.length := by simpa using hi
      have hj' : j < os.length := by simpa using hj
      refine (h3 j hj').2 ?_
      rw [List.getElem_map, List.getElem_map] at e
      rw [← e]
      refine List.mem_map.2 ⟨os[i], ?_, rfl⟩
      have hit : i < (os.take j).length := by rw [List.length_take]; omega
      have : (os.take j)[i] = os[i] := by rw [List.getElem_take]
      rw [← this]; exact List.getElem_mem _
  · rintro ⟨h1, h2, h3⟩
    refine ⟨fun k hk => ?_, h1⟩
    have hk := List.mem_range.1 hk
    rw [newAt, gd hk]
    have := h2 os[k] (List.getElem_mem _)
    have hno : (setOf (os.take k)).testBit os[k].toNat = false := by
      rw [Bool.eq_false_iff]
      intro h
      obtain ⟨x, hx, e⟩ := List.mem_map.1 ((setOf_bit _ _).1 h)
      obtain ⟨i, hi, rfl⟩ := List.getElem_of_mem hx
      rw [List.getElem_take] at e
      have hik : i < k := by rw [List.length_take] at hi; omega
      have := (List.pairwise_iff_getElem.1 h3) i k (by rw [List.length_map]; omega) (by rw [List.length_map]; omega) hik
      rw [List.getElem_map, List.getElem_map] at this
      exact this e
    rw [decide_eq_true this.1, decide_eq_true this.2, hno]; rfl
theorem cst_count {xs : List Int} (i : Nat) {l : List Nat} (hd : l.Nodup) (hl : ∀ x ∈ l, x < 64) : cst xs i (Clr.setL l) = l.countP (bb xs i) := by
  rw [cst, List.countP_eq_length_filter]
  refine (Clr.perm_of_nodup (Clr.bits_nodup _) (hd.filter _) fun x => ?_).length_eq
  rw [mem_bits, List.mem_filter, Nat.testBit_and, Bool.and_eq_true, Clr.setL_bit]
  constructor
  · rintro ⟨h1, h2, h3⟩; exact ⟨h3, h2⟩
  · rintro ⟨h1, h2⟩; exact ⟨hl x h1, h2, h1⟩
theorem agTo_back {xs os : List Int} (hn : xs.length ≤ 8) (h : isOrd xs.length os = true) : agTo xs os os.length = back (bb xs) [] (nl os) ∧ agTo xs os os.length = cost (cst xs) 0 (nl os) := by
  obtain ⟨h1, h2, h3⟩ := isOrd_iff.1 h
  have key : ∀ (l pre : List Int), pre ++ l = os → agTo xs os pre.length + back (bb xs) (nl pre) (nl l) = agTo xs os os.length ∧ agTo xs os pre.length + cost (cst xs) (setOf pre) (nl l) = agTo xs os os.length := by
    intro l
    induction l with
    | nil => intro pre e; rw [List.append_nil] at e; subst e; exact ⟨rfl, rfl⟩
    | cons x l ih =>
      intro pre e
      have := ih (pre ++ [x]) (by rw [← e]; simp)
      rw [List.length_append, List.length_singleton, agTo] at this
      have e1 : os.getD pre.length 0 = x := by rw [← e]; simp
      have e2 : os.take pre.length = pre := by rw [← e]; simp
      have hdp : (nl pre).Nodup := by
        rw [← e, nl, List.map_append] at h3
        exact (List.nodup_append.1 h3).1
      have hlt : ∀ y ∈ nl pre, y < 64 := fun y hy => by
        obtain ⟨z, hz, rfl⟩ := List.mem_map.1 hy
        have := h2 z (by rw [← e]; simp [hz])
        omega
      have e3 : cst xs x.toNat (setOf pre) = (nl pre).countP (bb xs x.toNat) := by rw [setOf_nl]; exact cst_count _ hdp hlt
      rw [e1, e2, setOf_snoc] at this
      rw [show nl (x :: l) = x.toNat :: nl l from rfl, back, cost]
      rw [show nl (pre ++ [x]) = nl pre ++ [x.toNat] by simp [nl]] at this
      rw [← e3]
      omega
  have := key os [] rfl
  rw [show ([] : List Int).length = 0 from rfl, agTo, Nat.zero_add, Nat.zero_add] at this
  exact ⟨this.1.symm, this.2.symm⟩
theorem nl_iL (l : List Nat) : nl (iL l) = l := by
  rw [nl, iL, List.map_map]
  exact (List.map_congr_left fun x _ => Int.toNat_natCast x).trans (List.map_id _)
theorem iL_ord {n : Nat} {l : List Nat} (h1 : l.length = n) (h2 : l.Nodup) (h3 : ∀ x ∈ l, x < n) : isOrd n (iL l) = true :=
  isOrd_iff.2 ⟨by rw [iL_len, h1], fun x hx => by
    obtain ⟨y, hy, rfl⟩ := List.mem_map.1 hx
    have := h3 y hy
    exact ⟨Int.natCast_nonneg _, Int.ofNat_lt.2 this⟩, by rw [nl_iL]; exact h2⟩
theorem fr_zero (n : Nat) : fr n 0 = List.range n := by
  rw [fr]
  exact List.filter_eq_self.2 fun x _ => by rw [Nat.zero_testBit]; rfl
/-- The best order: one, and none goes against fewer. -/
theorem gr_best {xs : List Int} (hn : xs.length ≤ 8) : isOrd xs.length (iL (gr (cst xs) xs.length xs.length 0)) = true ∧
    ∀ os, isOrd xs.length os = true → agTo xs (iL (gr (cst xs) xs.length xs.length 0)) (iL (gr (cst xs) xs.length xs.length 0)).length ≤ agTo xs os os.length := by
  obtain ⟨h1, h2, h3, h4⟩ := gr_ok (cst_few hn) hn xs.length 0 (Nat.two_pow_pos _) (by rw [fr_zero, List.length_range])
  have ho := iL_ord h1 h2 fun x hx => (mem_fr.1 (h3 x hx)).1
  refine ⟨ho, fun os h => ?_⟩
  obtain ⟨o1, o2, o3⟩ := isOrd_iff.1 h
  rw [(agTo_back hn ho).2, nl_iL, h4, (agTo_back hn h).2]
  have := rst_min (c := cst xs) (n := xs.length) (nl os) 0 o3 fun x hx => by
    obtain ⟨y, hy, rfl⟩ := List.mem_map.1 hx
    have := o2 y hy
    exact mem_fr.2 ⟨by omega, Nat.zero_testBit _⟩
  rw [List.length_map, o1] at this
  exact this
end Go.Proofs.Tryd.Am

namespace Go.Proofs.Tryd.Am
open Go.Am Rb
set_option maxRecDepth 100000
set_option maxHeartbeats 1000000

def hit (i j x y : Nat) : Bool := decide (x = i ∧ y = j) ^^ decide (x = j ∧ y = i)
theorem half_bb {t : List Int} {i j : Nat} (hi : i < t.length) (x y : Nat) : bb (half t i j) x y = (bb t x y ^^ decide (x = i ∧ y = j)) := by
  by_cases hx : x = i
  · subst hx
    have e : (half t x j).getD x 0 = xI (t.getD x 0) j := by rw [half, List.getD, List.getElem?_set_self hi]; rfl
    rw [bb, bb, bitI, bitI, e, xI, Int.toNat_natCast, Nat.testBit_xor, Nat.testBit_two_pow]
    congr 1
    exact decide_eq_decide.2 ⟨fun h => ⟨rfl, h.symm⟩, fun h => h.2.symm⟩
  · have e : (half t i j).getD x 0 = t.getD x 0 := by rw [half, List.getD, List.getElem?_set_ne (Ne.symm hx)]; rfl
    rw [bb, bb, e, decide_eq_false (fun h => hx h.1), Bool.xor_false]
theorem step_bb {t : List Int} {i j : Nat} (hi : i < t.length) (hj : j < t.length) (x y : Nat) : bb (stepT t ((i : Int), (j : Int))) x y = (bb t x y ^^ hit i j x y) := by
  rw [stepT, Int.toNat_natCast, Int.toNat_natCast, half_bb (by rw [half, List.length_set]; exact hj), half_bb hi, hit, Bool.xor_assoc]
def par (ps : List (Int × Int)) (x y : Nat) : Nat → Bool
  | 0 => false
  | k + 1 => par ps x y k ^^ hit (ps.getD k (0, 0)).1.toNat (ps.getD k (0, 0)).2.toNat x y
theorem turn_len (xs : List Int) (ps : List (Int × Int)) : ∀ k, (turnTo xs ps k).length = xs.length
  | 0 => rfl
  | k + 1 => by rw [turnTo, stepT, half, half, List.length_set, List.length_set, turn_len xs ps k]
theorem turn_bb {xs : List Int} {ps : List (Int × Int)} (x y : Nat) : ∀ k, (∀ i, i < k → okPr xs.length (ps.getD i (0, 0)) = true) → bb (turnTo xs ps k) x y = (bb xs x y ^^ par ps x y k)
  | 0, _ => by rw [turnTo, par, Bool.xor_false]
  | k + 1, h => by
    obtain ⟨i, j, hp, hij, hj⟩ := okPr_nat (h k (by omega))
    rw [turnTo, par, hp, step_bb (by rw [turn_len]; omega) (by rw [turn_len]; exact hj), turn_bb x y k fun i hi => h i (by omega), Bool.xor_assoc]
    rfl
theorem sm_ext {n : Nat} {t u : List Int} (ht : Sm n t) (hu : Sm n u) (h : ∀ x y, bb t x y = bb u x y) : t = u := by
  refine List.ext_getElem (by rw [ht.1, hu.1]) fun i h1 h2 => ?_
  have e1 := ht.2 i (by rw [← ht.1]; exact h1)
  have e2 := hu.2 i (by rw [← hu.1]; exact h2)
  have e3 : (t.getD i 0).toNat = (u.getD i 0).toNat := Nat.eq_of_testBit_eq fun y => h i y
  rw [List.getD, List.getElem?_eq_getElem h1, Option.getD_some] at e1 e3
  rw [List.getD, List.getElem?_eq_getElem h2, Option.getD_some] at e2 e3
  omega
/-- Turned twice: as it was. -/
theorem turn_back {xs : List Int} {ps : List (Int × Int)} (h0 : Sm xs.length xs) (hn : xs.length ≤ 8) {k : Nat} (h : ∀ i, i < k → okPr xs.length (ps.getD i (0, 0)) = true) : turnTo (turnTo xs ps k) ps k = xs := by
  have h1 := turn_sm h0 hn k h
  have h' : ∀ i, i < k → okPr (turnTo xs ps k).length (ps.getD i (0, 0)) = true := fun i hi => by rw [turn_len]; exact h i hi
  have h2 := turn_sm (xs := turnTo xs ps k) (ps := ps) (by rw [turn_len]; exact h1) (by rw [turn_len]; exact hn) k h'
  rw [turn_len] at h2
  refine sm_ext h2 h0 fun x y => ?_
  rw [turn_bb x y k h', turn_bb x y k h, Bool.xor_assoc, Bool.xor_self, Bool.xor_false]
theorem hit_comm (i j x y : Nat) : hit i j x y = hit i j y x := by
  rw [hit, hit, Bool.xor_comm]
  congr 1 <;> exact decide_eq_decide.2 ⟨fun h => ⟨h.2, h.1⟩, fun h => ⟨h.2, h.1⟩⟩
theorem trn_iff {xs : List Int} : trn xs = true ↔ (1 ≤ xs.length ∧ xs.length ≤ 8) ∧ ∀ i, i < xs.length → 0 ≤ xs.getD i 0 ∧ xs.getD i 0 < 2 ^ xs.length ∧ bb xs i i = false ∧ ∀ j, j < i → bb xs i j ≠ bb xs j i := by
  simp only [trn, okAt, Bool.and_eq_true, decide_eq_true_eq, List.all_eq_true, List.mem_range, Bool.not_eq_true', bne_iff_ne, bb, and_assoc]
theorem turn_trn {xs : List Int} {ps : List (Int × Int)} (ht : trn xs = true) {k : Nat} (h : ∀ i, i < k → okPr xs.length (ps.getD i (0, 0)) = true) : trn (turnTo xs ps k) = true := by
  have hl := trn_len ht
  have hb := fun x y => turn_bb (xs := xs) (ps := ps) x y k h
  have hsm := turn_sm (trn_sm ht) hl.2 k h
  have hpar : ∀ (x y : Nat) (m : Nat), m ≤ k → par ps x y m = par ps y x m := by
    intro x y m
    induction m with
    | zero => intro _; rfl
    | succ m ih => intro hm; rw [par, par, ih (by omega), hit_comm]
  have hself : ∀ (x : Nat) (m : Nat), m ≤ k → par ps x x m = false := by
    intro x m
    induction m with
    | zero => intro _; rfl
    | succ m ih =>
      intro hm
      obtain ⟨i, j, hp, hij, hj⟩ := okPr_nat (h m (by omega))
      rw [par, ih (by omega), hp, hit, decide_eq_false (fun e => by have := e.1; have := e.2; simp at *; omega), decide_eq_false (fun e => by have := e.1; have := e.2; simp at *; omega)]; rfl
  have h0 := trn_iff.1 ht
  refine trn_iff.2 ⟨by rw [turn_len]; exact hl, fun i hi => ?_⟩
  rw [turn_len] at hi ⊢
  obtain ⟨a1, a2, a3, a4⟩ := h0.2 i hi
  have hs := hsm.2 i hi
  refine ⟨hs.1, ?_, by rw [hb, a3, hself i k (Nat.le_refl _)]; rfl, fun j hj => ?_⟩
  · have hlt : ((turnTo xs ps k).getD i 0).toNat < 2 ^ xs.length := by
      refine Nat.lt_pow_two_of_testBit _ fun y hy => ?_
      have e := hb i y
      rw [bb, bitI] at e
      rw [e]
      have e1 : bb xs i y = false := by
        rw [bb, bitI]
        exact Nat.testBit_lt_two_pow (Nat.lt_of_lt_of_le (trn_nat ht hi).2 (Nat.pow_le_pow_right (by decide) hy))
      have e2 : ∀ m, m ≤ k → par ps i y m = false := by
        intro m
        induction m with
        | zero => intro _; rfl
        | succ m ih =>
          intro hm
          obtain ⟨a, c, hp, hac, hc⟩ := okPr_nat (h m (by omega))
          rw [par, ih (by omega), hp, hit, decide_eq_false (fun e => by have := e.2; simp at this; omega), decide_eq_false (fun e => by have := e.2; simp at this; omega)]; rfl
      rw [e1, e2 k (Nat.le_refl _)]; rfl
    have e5 : ((2 ^ xs.length : Nat) : Int) = (2 : Int) ^ xs.length := by simp
    rw [← e5]
    generalize 2 ^ xs.length = m at hlt
    omega
  · rw [hb, hb, hpar j i k (Nat.le_refl _)]
    intro e
    exact a4 j hj (by revert e; cases bb xs i j <;> cases bb xs j i <;> cases par ps i j k <;> simp)
/-- Results turned: an order goes against fewer pairs by their number at most. -/
theorem turn_less {xs : List Int} {ps : List (Int × Int)} {l : List Nat} (hd : l.Nodup) : ∀ k, (∀ i, i < k → okPr xs.length (ps.getD i (0, 0)) = true) → back (bb xs) [] l ≤ back (bb (turnTo xs ps k)) [] l + k
  | 0, _ => Nat.le_refl _
  | k + 1, h => by
    have ih := turn_less hd k fun i hi => h i (by omega)
    obtain ⟨i, j, hp, hij, hj⟩ := okPr_nat (h k (by omega))
    have := back_turn (b := bb (turnTo xs ps k)) (b' := bb (turnTo xs ps (k + 1))) (a := i) (d := j) (fun x y h1 h2 => by
      rw [turnTo, hp, step_bb (by rw [turn_len]; omega) (by rw [turn_len]; exact hj), hit, decide_eq_false h1, decide_eq_false h2]; simp) l [] hd (by omega)
    omega
/-- Without a cycle at last: not fewer were turned than the best order goes against. -/
theorem few_plain {xs : List Int} {ps : List (Int × Int)} (ht : trn xs = true) (h : ∀ i, i < ps.length → okPr xs.length (ps.getD i (0, 0)) = true) (hno : cA (turnTo xs ps ps.length) xs.length = []) :
    agTo xs (iL (gr (cst xs) xs.length xs.length 0)) (iL (gr (cst xs) xs.length xs.length 0)).length ≤ ps.length := by
  have hl := trn_len ht
  have ht2 := turn_trn ht h
  have htc := trn_clr ht2
  have hcy := cA_all ht2
  rw [turn_len] at htc hcy
  rw [hno] at hcy
  have hcn : Clr.cycles xs.length (bb (turnTo xs ps ps.length)) = [] := List.map_eq_nil_iff.1 hcy.symm
  have hall := (Clr.clear_all htc (by omega)).2 hcn
  obtain ⟨l, l1, l2, l3, l4⟩ := acyclic (b := bb (turnTo xs ps ps.length)) (n := xs.length) htc.1 (by
    intro i j k hi hj hk b1 b2 b3
    obtain ⟨l, q1, q2, q3, q4⟩ := Clr.clear_at htc (by omega)
    rw [hall] at q4
    have hin : ∀ x, x < xs.length → x ∈ l := fun x hx => by
      apply Classical.byContradiction
      intro hx2
      have := Clr.len_le (n := xs.length) (l := x :: l) (fun y hy => by
        rcases List.mem_cons.1 hy with rfl | hy
        · exact hx
        · exact q1 y hy) (List.nodup_cons.2 ⟨hx2, q2⟩)
      rw [List.length_cons] at this; omega
    exact q3 i (hin i hi) j (hin j hj) k (hin k hk) b1 b2 b3) xs.length (Nat.le_refl _)
  have ho := iL_ord l1 l2 l3
  have h1 := (gr_best hl.2).2 (iL l) ho
  rw [(agTo_back hl.2 ho).1, nl_iL] at h1
  have h2 := turn_less l2 ps.length h
  rw [back_zero l [] (fun _ h => by cases h) l4] at h2
  omega
end Go.Proofs.Tryd.Am

namespace Go.Proofs.Tryd.Am
open Go.Am
set_option maxRecDepth 100000
/-! 10: planchet planchetlaw02.RanksFewer -/
@[reducible] def q10_0 : SCode := .region [⟨some 4, .assign (.const (.bool false)), none⟩]
@[reducible] def q10_1 : SCode := .region [⟨some 16, .move (.tmp 0), none⟩,
    ⟨some 17, .call { callee := .value (.func 19), args := #[.tmp 16], argTypes := #[22] }, none⟩,
    ⟨some 18, .call { callee := .value (.func 38), args := #[.tmp 17], argTypes := #[22] }, none⟩,
    ⟨some 15, .move (.tmp 18), none⟩,
    ⟨some 19, .extract (.tmp 15) 0, none⟩,
    ⟨some 20, .extract (.tmp 15) 1, none⟩,
    ⟨some 5, .assign (.tmp 19), none⟩,
    ⟨some 6, .assign (.tmp 20), none⟩]
@[reducible] def q10_2 : SCode := .region [⟨some 21, .move (.tmp 6), none⟩,
    ⟨some 22, .binOp .neq 23 (.tmp 21) (.const (.int .i64 0)) 23, none⟩,
    ⟨some 23, .move (.tmp 22), none⟩,
    ⟨some 24, .move (.tmp 0), some (23, false)⟩,
    ⟨some 25, .call { callee := .value (.func 20), args := #[.tmp 24], argTypes := #[22] }, some (23, false)⟩,
    ⟨some 26, .unOp .not 4 (.tmp 25), some (23, false)⟩,
    ⟨some 27, .pick (.tmp 23) (.const (.bool true)) (.tmp 26), none⟩]
@[reducible] def q10_3 : SCode := .region [⟨some 28, .move (.tmp 6), none⟩,
    ⟨some 29, .binOp .eql 23 (.tmp 28) (.const (.int .i64 2)) 23, none⟩,
    ⟨some 30, .move (.tmp 29), none⟩,
    ⟨some 31, .call { callee := .value (.func 21), args := #[], argTypes := #[] }, some (30, true)⟩,
    ⟨some 32, .pick (.tmp 30) (.tmp 31) (.const (.bool false)), none⟩,
    ⟨some 4, .assign (.tmp 32), none⟩]
@[reducible] def q10_4 : SCode := .region [⟨some 34, .move (.tmp 0), none⟩,
    ⟨some 35, .call { callee := .value (.func 19), args := #[.tmp 34], argTypes := #[22] }, none⟩,
    ⟨some 36, .move (.tmp 5), none⟩,
    ⟨some 37, .call { callee := .value (.func 37), args := #[.tmp 35, .tmp 36], argTypes := #[22, 22] }, none⟩,
    ⟨some 33, .move (.tmp 37), none⟩,
    ⟨some 38, .extract (.tmp 33) 0, none⟩,
    ⟨some 39, .extract (.tmp 33) 1, none⟩,
    ⟨some 7, .assign (.tmp 38), none⟩,
    ⟨some 8, .assign (.tmp 39), none⟩]
@[reducible] def q10_5 : SCode := .region [⟨some 41, .move (.tmp 0), none⟩,
    ⟨some 42, .call { callee := .value (.func 19), args := #[.tmp 41], argTypes := #[22] }, none⟩,
    ⟨some 43, .move (.tmp 1), none⟩,
    ⟨some 44, .call { callee := .value (.func 42), args := #[.tmp 43], argTypes := #[46] }, none⟩,
    ⟨some 45, .call { callee := .value (.func 41), args := #[.tmp 42, .tmp 44], argTypes := #[22, 46] }, none⟩,
    ⟨some 40, .move (.tmp 45), none⟩,
    ⟨some 46, .extract (.tmp 40) 0, none⟩,
    ⟨some 47, .extract (.tmp 40) 1, none⟩,
    ⟨some 9, .assign (.tmp 46), none⟩,
    ⟨some 10, .assign (.tmp 47), none⟩]
@[reducible] def q10_6 : SCode := .region [⟨some 48, .move (.tmp 8), none⟩,
    ⟨some 49, .binOp .neq 23 (.tmp 48) (.const (.int .i64 0)) 23, none⟩,
    ⟨some 50, .move (.tmp 49), none⟩,
    ⟨some 51, .move (.tmp 10), some (50, false)⟩,
    ⟨some 52, .binOp .neq 23 (.tmp 51) (.const (.int .i64 0)) 23, some (50, false)⟩,
    ⟨some 53, .pick (.tmp 50) (.const (.bool true)) (.tmp 52), none⟩]
@[reducible] def q10_7 : SCode := .region [⟨some 54, .move (.tmp 8), none⟩,
    ⟨some 55, .binOp .eql 23 (.tmp 54) (.const (.int .i64 0)) 23, none⟩,
    ⟨some 56, .move (.tmp 55), none⟩,
    ⟨some 57, .move (.tmp 10), some (56, true)⟩,
    ⟨some 58, .binOp .eql 23 (.tmp 57) (.const (.int .i64 2)) 23, some (56, true)⟩,
    ⟨some 59, .pick (.tmp 56) (.tmp 58) (.const (.bool false)), none⟩,
    ⟨some 60, .move (.tmp 59), none⟩,
    ⟨some 61, .call { callee := .value (.func 21), args := #[], argTypes := #[] }, some (60, true)⟩,
    ⟨some 62, .pick (.tmp 60) (.tmp 61) (.const (.bool false)), none⟩,
    ⟨some 4, .assign (.tmp 62), none⟩]
@[reducible] def q10_8 : SCode := .region [⟨some 64, .move (.tmp 9), none⟩,
    ⟨some 65, .call { callee := .value (.func 46), args := #[.tmp 64], argTypes := #[22] }, none⟩,
    ⟨some 66, .call { callee := .value (.func 30), args := #[.tmp 65], argTypes := #[22] }, none⟩,
    ⟨some 63, .move (.tmp 66), none⟩,
    ⟨some 67, .extract (.tmp 63) 0, none⟩,
    ⟨some 68, .extract (.tmp 63) 1, none⟩,
    ⟨some 11, .assign (.tmp 67), none⟩,
    ⟨some 12, .assign (.tmp 68), none⟩]
@[reducible] def q10_9 : SCode := .region [⟨some 70, .move (.tmp 9), none⟩,
    ⟨some 71, .move (.tmp 1), none⟩,
    ⟨some 72, .call { callee := .value (.func 42), args := #[.tmp 71], argTypes := #[46] }, none⟩,
    ⟨some 73, .call { callee := .value (.func 41), args := #[.tmp 70, .tmp 72], argTypes := #[22, 46] }, none⟩,
    ⟨some 69, .move (.tmp 73), none⟩,
    ⟨some 74, .extract (.tmp 69) 0, none⟩,
    ⟨some 75, .extract (.tmp 69) 1, none⟩,
    ⟨some 13, .assign (.tmp 74), none⟩,
    ⟨some 14, .assign (.tmp 75), none⟩]
@[reducible] def q10_10 : SCode := .region [⟨some 76, .move (.tmp 12), none⟩,
    ⟨some 77, .binOp .eql 23 (.tmp 76) (.const (.int .i64 0)) 23, none⟩,
    ⟨some 78, .move (.tmp 77), none⟩,
    ⟨some 79, .move (.tmp 14), some (78, true)⟩,
    ⟨some 80, .binOp .eql 23 (.tmp 79) (.const (.int .i64 0)) 23, some (78, true)⟩,
    ⟨some 81, .pick (.tmp 78) (.tmp 80) (.const (.bool false)), none⟩,
    ⟨some 82, .move (.tmp 81), none⟩,
    ⟨some 83, .move (.tmp 13), some (82, true)⟩,
    ⟨some 84, .move (.tmp 0), some (82, true)⟩,
    ⟨some 85, .call { callee := .value (.func 25), args := #[.tmp 83, .tmp 84], argTypes := #[22, 22] }, some (82, true)⟩,
    ⟨some 86, .pick (.tmp 82) (.tmp 85) (.const (.bool false)), none⟩,
    ⟨some 87, .move (.tmp 86), none⟩,
    ⟨some 88, .move (.tmp 1), some (87, true)⟩,
    ⟨some 89, .call { callee := .builtin .len, args := #[.tmp 88], argTypes := #[46] }, some (87, true)⟩,
    ⟨some 90, .move (.tmp 7), some (87, true)⟩,
    ⟨some 91, .binOp .geq 3 (.tmp 89) (.tmp 90) 3, some (87, true)⟩,
    ⟨some 92, .move (.tmp 91), some (87, true)⟩,
    ⟨some 93, .move (.tmp 11), some (92, false)⟩,
    ⟨some 94, .call { callee := .builtin .len, args := #[.tmp 93], argTypes := #[36] }, some (92, false)⟩,
    ⟨some 95, .binOp .gtr 3 (.tmp 94) (.const (.int .i64 0)) 3, some (92, false)⟩,
    ⟨some 96, .pick (.tmp 92) (.const (.bool true)) (.tmp 95), some (87, true)⟩,
    ⟨some 97, .pick (.tmp 87) (.tmp 96) (.const (.bool false)), none⟩,
    ⟨some 98, .move (.tmp 97), none⟩,
    ⟨some 99, .call { callee := .value (.func 21), args := #[], argTypes := #[] }, some (98, true)⟩,
    ⟨some 100, .pick (.tmp 98) (.tmp 99) (.const (.bool false)), none⟩,
    ⟨some 4, .assign (.tmp 100), none⟩]
def s10 : SCode := (.seq q10_0 (.seq q10_1 (.seq (.seq q10_2 (.cond (.tmp 27) (.seq q10_3 .ret) .skip)) (.seq q10_4 (.seq q10_5 (.seq (.seq q10_6 (.cond (.tmp 53) (.seq q10_7 .ret) .skip)) (.seq q10_8 (.seq q10_9 (.seq q10_10 .ret)))))))))
theorem s10_strip : stripC (bodyOf Tryd.f10) = s10 := by kernel_rfl
theorem s10_ok : codeOK 101 (bodyOf Tryd.f10) = true := by kernel_rfl
theorem s10_call [Tabs Tryd.prog] {args : List Value} {h : Heap} {Q : Value → Heap → Prop} (hsz : args.length ≤ 101) (hk : aw Tryd.prog 101 s10 (aPost Tryd.prog [.tmp 4] Q) (argEnv 0 args) h) : ACall Tryd.prog 10 args h Q :=
  acall_s Tryd.func10 rfl (enters_of Tryd.func10 (by kernel_rfl) rfl) rfl rfl (by decide) s10_strip s10_ok hsz hk

end Go.Proofs.Tryd.Am

namespace Go.Proofs.Tryd.Am
open Go.Am Rb
set_option maxRecDepth 100000
set_option maxHeartbeats 1000000

theorem s10_callW [Tabs Tryd.prog] {args : List Value} {h : Heap} {Q : Value → Heap → Prop} (hsz : args.length ≤ 101) (hk : AWS Tryd.prog 101 s10 (aPost Tryd.prog [.tmp 4] Q) (argEnv 0 args) h) : ACall Tryd.prog 10 args h Q :=
  acall_w Tryd.func10 rfl (enters_of Tryd.func10 (by kernel_rfl) rfl) rfl rfl (by decide) s10_strip s10_ok hsz hk
theorem trn_take10 {xs : List Int} (h : trn xs = true) : xs.take 11 = xs :=
  List.take_of_length_le (by simp only [trn, Bool.and_eq_true, decide_eq_true_eq] at h; omega)
theorem okPs_take10 (n : Nat) (ps : List (Int × Int)) : okPs n (ps.take 32) = okPs n ps := by
  by_cases h : ps.length ≤ 32
  · rw [List.take_of_length_le h]
  · rw [okPs, okPs, decide_eq_false (show ¬ (ps.take 32).length ≤ 28 by simp; omega), decide_eq_false (show ¬ ps.length ≤ 28 by omega), Bool.and_false, Bool.and_false]

theorem law_fewer [BitTab prog 1] {h : Heap} {v pv : Value} {xs : List Int} {ps : List (Int × Int)} (hv : IntSl h v xs) (hl : xs.length < 9223372036854775808) (hx : ∀ x ∈ xs, -9223372036854775808 ≤ x ∧ x < 9223372036854775808) (hp : PairSl h pv ps) (hpl : ps.length < 9223372036854775808) :
    ACall prog 10 [v, pv] h fun r _ => r = .bool true := by
  have awk : ∀ {K : Value → Heap → Prop} {g : Heap}, (∀ g', Ext (fun _ => False) g g' → K (.bool true) g') → ACall prog 21 [] g K := fun {K g} hk => awake_call.mono fun v h' ⟨h1, h2⟩ => by rw [h1]; exact hk _ h2
  have rng11 : ∀ {ys : List Int}, (∀ x ∈ ys, -9223372036854775808 ≤ x ∧ x < 9223372036854775808) → ∀ x ∈ ys.take 11, -9223372036854775808 ≤ x ∧ x < 9223372036854775808 := fun h x hm => h x (List.take_subset _ _ hm)
  have len11 : ∀ {ys : List Int}, (ys.take 11).length < 9223372036854775808 := by intro ys; simp; omega
  have hp32 : (ps.take 32).length < 9223372036854775807 := by simp; omega
  have e22 : ((2 : Int) == 2) = true := rfl
  have n20 : ((2 : Int) != 0) = true := rfl
  have n00 : ((0 : Int) != 0) = false := rfl
  have e0 : ((0 : Int) == 0) = true := rfl
  refine s10_callW (by simp) ?_
  simp only [s10]
  refine aws_cut fun N1 hN1 => ?_
  simp (config := {maxSteps := 2000000}) only [s10, ↓aw_region, ↓aw_skip, ↓aw_seq, ↓aw_block, ↓aw_exit, ↓aw_ret, ↓sops_nil, ↓sops_go, ↓dops_nil, ↓dopsX_nil, ↓dopsR_nil, ↓vdn, vup, extr_20, extr_21, extr_30, extr_31, extr_32, List.map_cons, List.map_nil, cond_true, cond_false, aop, aThen, aBlock, argEnv, ev, sput, sputO, binK, binI, unK, builtinK, pickK, Nat.reduceBEq, Nat.reduceAdd, Int.reduceBEq, Int.reduceBNe, Int.reduceLT, aPost, resK, tup, tyf]
  refine hN1 [(0, v), (1, pv), (4, .bool false)] _ _ ?_ (by simp (config := {maxSteps := 2000000}) only [↓aw_region, ↓aw_skip, ↓aw_seq, ↓aw_block, ↓aw_exit, ↓aw_ret, ↓sops_nil, ↓sops_go, ↓dops_nil, ↓dopsX_nil, ↓dopsR_nil, ↓vdn, vup, extr_20, extr_21, extr_30, extr_31, extr_32, List.map_cons, List.map_nil, cond_true, cond_false, aop, aThen, aBlock, argEnv, ev, sput, sputO, binK, binI, unK, builtinK, pickK, Nat.reduceBEq, Nat.reduceAdd, Int.reduceBEq, Int.reduceBNe, Int.reduceLT, aPost, resK, tup, tyf])
  clear hN1
  try clear N1
  refine aws_cut fun N2 hN2 => ?_
  simp (config := {maxSteps := 2000000}) only [s10, ↓aw_region, ↓aw_skip, ↓aw_seq, ↓aw_block, ↓aw_exit, ↓aw_ret, ↓sops_nil, ↓sops_go, ↓dops_nil, ↓dopsX_nil, ↓dopsR_nil, ↓vdn, vup, extr_20, extr_21, extr_30, extr_31, extr_32, List.map_cons, List.map_nil, cond_true, cond_false, aop, aThen, aBlock, argEnv, ev, sput, sputO, binK, binI, unK, builtinK, pickK, Nat.reduceBEq, Nat.reduceAdd, Int.reduceBEq, Int.reduceBNe, Int.reduceLT, aPost, resK, tup, tyf, callK, List.nil_append, List.append_nil, List.toList_toArray, List.cons_append]
  refine (list_call hv hl).mono ?_
  rintro l1 _ ⟨hl1, g1, rfl⟩
  refine (order_call hl1 len11 (rng11 hx)).mono ?_
  rintro r1 h1 ⟨hE1, hr1⟩
  have hv1 := IntSl_ext (hv.grow g1) hE1
  have hp1 := (hp.grow g1).ext hE1
  clear hl1 hE1
  cases ht : trn xs with
  | false =>
    rw [trn_take, ht, if_neg (by decide)] at hr1
    subst hr1
    simp (config := {maxSteps := 2000000}) only [s10, ↓aw_region, ↓aw_skip, ↓aw_seq, ↓aw_block, ↓aw_exit, ↓aw_ret, ↓sops_nil, ↓sops_go, ↓dops_nil, ↓dopsX_nil, ↓dopsR_nil, ↓vdn, vup, extr_20, extr_21, extr_30, extr_31, extr_32, List.map_cons, List.map_nil, cond_true, cond_false, aop, aThen, aBlock, argEnv, ev, sput, sputO, binK, binI, unK, builtinK, pickK, Nat.reduceBEq, Nat.reduceAdd, Int.reduceBEq, Int.reduceBNe, Int.reduceLT, aPost, resK, tup, tyf]
    refine hN2 [(0, v), (1, pv), (4, .bool false), (5, .slice none 0 0), (6, .int .i64 2)] _ _ ?_ (by simp (config := {maxSteps := 2000000}) only [↓aw_region, ↓aw_skip, ↓aw_seq, ↓aw_block, ↓aw_exit, ↓aw_ret, ↓sops_nil, ↓sops_go, ↓dops_nil, ↓dopsX_nil, ↓dopsR_nil, ↓vdn, vup, extr_20, extr_21, extr_30, extr_31, extr_32, List.map_cons, List.map_nil, cond_true, cond_false, aop, aThen, aBlock, argEnv, ev, sput, sputO, binK, binI, unK, builtinK, pickK, Nat.reduceBEq, Nat.reduceAdd, Int.reduceBEq, Int.reduceBNe, Int.reduceLT, aPost, resK, tup, tyf])
    clear hN2
    try clear N2
    refine aws_cut fun N3 hN3 => ?_
    simp (config := {maxSteps := 2000000}) only [s10, ↓aw_region, ↓aw_skip, ↓aw_seq, ↓aw_block, ↓aw_exit, ↓aw_ret, ↓sops_nil, ↓sops_go, ↓dops_nil, ↓dopsX_nil, ↓dopsR_nil, ↓vdn, vup, extr_20, extr_21, extr_30, extr_31, extr_32, List.map_cons, List.map_nil, cond_true, cond_false, aop, aThen, aBlock, argEnv, ev, sput, sputO, binK, binI, unK, builtinK, pickK, Nat.reduceBEq, Nat.reduceAdd, Int.reduceBEq, Int.reduceBNe, Int.reduceLT, aPost, resK, tup, tyf, callK, List.nil_append, List.append_nil, List.toList_toArray, List.cons_append, n20, e22]
    refine awk fun g _ => ?_
    simp (config := {maxSteps := 2000000}) only [s10, ↓aw_region, ↓aw_skip, ↓aw_seq, ↓aw_block, ↓aw_exit, ↓aw_ret, ↓sops_nil, ↓sops_go, ↓dops_nil, ↓dopsX_nil, ↓dopsR_nil, ↓vdn, vup, extr_20, extr_21, extr_30, extr_31, extr_32, List.map_cons, List.map_nil, cond_true, cond_false, aop, aThen, aBlock, argEnv, ev, sput, sputO, binK, binI, unK, builtinK, pickK, Nat.reduceBEq, Nat.reduceAdd, Int.reduceBEq, Int.reduceBNe, Int.reduceLT, aPost, resK, tup, tyf]
  | true =>
    have hxl := trn_len ht
    rw [trn_take10 ht, ht, if_pos rfl] at hr1
    obtain ⟨u, rfl, hu⟩ := hr1
    simp (config := {maxSteps := 2000000}) only [s10, ↓aw_region, ↓aw_skip, ↓aw_seq, ↓aw_block, ↓aw_exit, ↓aw_ret, ↓sops_nil, ↓sops_go, ↓dops_nil, ↓dopsX_nil, ↓dopsR_nil, ↓vdn, vup, extr_20, extr_21, extr_30, extr_31, extr_32, List.map_cons, List.map_nil, cond_true, cond_false, aop, aThen, aBlock, argEnv, ev, sput, sputO, binK, binI, unK, builtinK, pickK, Nat.reduceBEq, Nat.reduceAdd, Int.reduceBEq, Int.reduceBNe, Int.reduceLT, aPost, resK, tup, tyf]
    refine hN2 [(0, v), (1, pv), (4, .bool false), (5, u), (6, .int .i64 0)] _ _ ?_ (by simp (config := {maxSteps := 2000000}) only [↓aw_region, ↓aw_skip, ↓aw_seq, ↓aw_block, ↓aw_exit, ↓aw_ret, ↓sops_nil, ↓sops_go, ↓dops_nil, ↓dopsX_nil, ↓dopsR_nil, ↓vdn, vup, extr_20, extr_21, extr_30, extr_31, extr_32, List.map_cons, List.map_nil, cond_true, cond_false, aop, aThen, aBlock, argEnv, ev, sput, sputO, binK, binI, unK, builtinK, pickK, Nat.reduceBEq, Nat.reduceAdd, Int.reduceBEq, Int.reduceBNe, Int.reduceLT, aPost, resK, tup, tyf])
    clear hN2
    try clear N2
    refine aws_cut fun N4 hN4 => ?_
    simp (config := {maxSteps := 2000000}) only [s10, ↓aw_region, ↓aw_skip, ↓aw_seq, ↓aw_block, ↓aw_exit, ↓aw_ret, ↓sops_nil, ↓sops_go, ↓dops_nil, ↓dopsX_nil, ↓dopsR_nil, ↓vdn, vup, extr_20, extr_21, extr_30, extr_31, extr_32, List.map_cons, List.map_nil, cond_true, cond_false, aop, aThen, aBlock, argEnv, ev, sput, sputO, binK, binI, unK, builtinK, pickK, Nat.reduceBEq, Nat.reduceAdd, Int.reduceBEq, Int.reduceBNe, Int.reduceLT, aPost, resK, tup, tyf, callK, List.nil_append, List.append_nil, List.toList_toArray, List.cons_append, n00]
    refine (rvalid_call hv1 hl hx).mono ?_
    rintro _ h1 ⟨rfl, rfl⟩
    simp (config := {maxSteps := 2000000}) only [s10, ↓aw_region, ↓aw_skip, ↓aw_seq, ↓aw_block, ↓aw_exit, ↓aw_ret, ↓sops_nil, ↓sops_go, ↓dops_nil, ↓dopsX_nil, ↓dopsR_nil, ↓vdn, vup, extr_20, extr_21, extr_30, extr_31, extr_32, List.map_cons, List.map_nil, cond_true, cond_false, aop, aThen, aBlock, argEnv, ev, sput, sputO, binK, binI, unK, builtinK, pickK, Nat.reduceBEq, Nat.reduceAdd, Int.reduceBEq, Int.reduceBNe, Int.reduceLT, aPost, resK, tup, tyf, ht, Bool.not_true]
    refine hN4 [(0, v), (1, pv), (4, .bool false), (5, u), (6, .int .i64 0)] _ _ ?_ (by simp (config := {maxSteps := 2000000}) only [↓aw_region, ↓aw_skip, ↓aw_seq, ↓aw_block, ↓aw_exit, ↓aw_ret, ↓sops_nil, ↓sops_go, ↓dops_nil, ↓dopsX_nil, ↓dopsR_nil, ↓vdn, vup, extr_20, extr_21, extr_30, extr_31, extr_32, List.map_cons, List.map_nil, cond_true, cond_false, aop, aThen, aBlock, argEnv, ev, sput, sputO, binK, binI, unK, builtinK, pickK, Nat.reduceBEq, Nat.reduceAdd, Int.reduceBEq, Int.reduceBNe, Int.reduceLT, aPost, resK, tup, tyf])
    clear hN4
    try clear N4
    obtain ⟨ho, hbest⟩ := gr_best hxl.2
    obtain ⟨o1, o2, o3⟩ := isOrd_iff.1 ho
    have hol : (iL (gr (cst xs) xs.length xs.length 0)).length < 9223372036854775808 := by omega
    have hor : ∀ x ∈ iL (gr (cst xs) xs.length xs.length 0), -9223372036854775808 ≤ x ∧ x < 9223372036854775808 := fun x hm => by have := o2 x hm; omega
    refine aws_cut fun N5 hN5 => ?_
    simp (config := {maxSteps := 2000000}) only [s10, ↓aw_region, ↓aw_skip, ↓aw_seq, ↓aw_block, ↓aw_exit, ↓aw_ret, ↓sops_nil, ↓sops_go, ↓dops_nil, ↓dopsX_nil, ↓dopsR_nil, ↓vdn, vup, extr_20, extr_21, extr_30, extr_31, extr_32, List.map_cons, List.map_nil, cond_true, cond_false, aop, aThen, aBlock, argEnv, ev, sput, sputO, binK, binI, unK, builtinK, pickK, Nat.reduceBEq, Nat.reduceAdd, Int.reduceBEq, Int.reduceBNe, Int.reduceLT, aPost, resK, tup, tyf, callK, List.nil_append, List.append_nil, List.toList_toArray, List.cons_append]
    refine (list_call hv1 hl).mono ?_
    rintro l2 _ ⟨hl2, g2, rfl⟩
    rw [trn_take10 ht] at hl2
    refine (against_call hl2 hl hx (hu.int.grow g2) hol hor).mono ?_
    rintro _ h2 ⟨rfl, rfl⟩
    rw [if_pos ⟨ht, ho⟩]
    have hv2 := hv1.grow g2
    have hp2 := hp1.grow g2
    clear hl2 hu
    generalize h1 ++ g2 = h2 at hv2 hp2 ⊢
    have hfew := fun h hno => few_plain (ps := ps) ht h hno
    generalize agTo xs (iL (gr (cst xs) xs.length xs.length 0)) (iL (gr (cst xs) xs.length xs.length 0)).length = a at hfew ⊢
    simp (config := {maxSteps := 2000000}) only [s10, ↓aw_region, ↓aw_skip, ↓aw_seq, ↓aw_block, ↓aw_exit, ↓aw_ret, ↓sops_nil, ↓sops_go, ↓dops_nil, ↓dopsX_nil, ↓dopsR_nil, ↓vdn, vup, extr_20, extr_21, extr_30, extr_31, extr_32, List.map_cons, List.map_nil, cond_true, cond_false, aop, aThen, aBlock, argEnv, ev, sput, sputO, binK, binI, unK, builtinK, pickK, Nat.reduceBEq, Nat.reduceAdd, Int.reduceBEq, Int.reduceBNe, Int.reduceLT, aPost, resK, tup, tyf]
    refine hN5 [(0, v), (1, pv), (4, .bool false), (5, u), (6, .int .i64 0), (7, vint (a : Nat)), (8, .int .i64 0)] _ _ ?_ (by simp (config := {maxSteps := 2000000}) only [↓aw_region, ↓aw_skip, ↓aw_seq, ↓aw_block, ↓aw_exit, ↓aw_ret, ↓sops_nil, ↓sops_go, ↓dops_nil, ↓dopsX_nil, ↓dopsR_nil, ↓vdn, vup, extr_20, extr_21, extr_30, extr_31, extr_32, List.map_cons, List.map_nil, cond_true, cond_false, aop, aThen, aBlock, argEnv, ev, sput, sputO, binK, binI, unK, builtinK, pickK, Nat.reduceBEq, Nat.reduceAdd, Int.reduceBEq, Int.reduceBNe, Int.reduceLT, aPost, resK, tup, tyf])
    clear hN5
    try clear N5
    refine aws_cut fun N6 hN6 => ?_
    simp (config := {maxSteps := 2000000}) only [s10, ↓aw_region, ↓aw_skip, ↓aw_seq, ↓aw_block, ↓aw_exit, ↓aw_ret, ↓sops_nil, ↓sops_go, ↓dops_nil, ↓dopsX_nil, ↓dopsR_nil, ↓vdn, vup, extr_20, extr_21, extr_30, extr_31, extr_32, List.map_cons, List.map_nil, cond_true, cond_false, aop, aThen, aBlock, argEnv, ev, sput, sputO, binK, binI, unK, builtinK, pickK, Nat.reduceBEq, Nat.reduceAdd, Int.reduceBEq, Int.reduceBNe, Int.reduceLT, aPost, resK, tup, tyf, callK, List.nil_append, List.append_nil, List.toList_toArray, List.cons_append]
    refine (list_call hv2 hl).mono ?_
    rintro l3 _ ⟨hl3, g3, rfl⟩
    rw [trn_take10 ht] at hl3
    refine (pairs_call (hp2.grow g3) hpl).mono ?_
    rintro l4 _ ⟨hl4, g4, rfl⟩
    refine (turn_call (hl3.grow g4) hl4 hl hx hp32).mono ?_
    rintro r3 h3 ⟨hE3, hr3⟩
    rw [okPs_take10] at hr3
    have hv3 := IntSl_ext ((hv2.grow g3).grow g4) hE3
    have hp3 := ((hp2.grow g3).grow g4).ext hE3
    clear hl3 hl4 hE3
    cases hok : okPs xs.length ps with
    | false =>
      rw [hok, if_neg (fun h => by cases h.2)] at hr3
      subst hr3
      simp (config := {maxSteps := 2000000}) only [s10, ↓aw_region, ↓aw_skip, ↓aw_seq, ↓aw_block, ↓aw_exit, ↓aw_ret, ↓sops_nil, ↓sops_go, ↓dops_nil, ↓dopsX_nil, ↓dopsR_nil, ↓vdn, vup, extr_20, extr_21, extr_30, extr_31, extr_32, List.map_cons, List.map_nil, cond_true, cond_false, aop, aThen, aBlock, argEnv, ev, sput, sputO, binK, binI, unK, builtinK, pickK, Nat.reduceBEq, Nat.reduceAdd, Int.reduceBEq, Int.reduceBNe, Int.reduceLT, aPost, resK, tup, tyf]
      refine hN6 [(0, v), (1, pv), (4, .bool false), (5, u), (6, .int .i64 0), (7, vint (a : Nat)), (8, .int .i64 0), (9, .slice none 0 0), (10, .int .i64 2)] _ _ ?_ (by simp (config := {maxSteps := 2000000}) only [↓aw_region, ↓aw_skip, ↓aw_seq, ↓aw_block, ↓aw_exit, ↓aw_ret, ↓sops_nil, ↓sops_go, ↓dops_nil, ↓dopsX_nil, ↓dopsR_nil, ↓vdn, vup, extr_20, extr_21, extr_30, extr_31, extr_32, List.map_cons, List.map_nil, cond_true, cond_false, aop, aThen, aBlock, argEnv, ev, sput, sputO, binK, binI, unK, builtinK, pickK, Nat.reduceBEq, Nat.reduceAdd, Int.reduceBEq, Int.reduceBNe, Int.reduceLT, aPost, resK, tup, tyf])
      clear hN6
      try clear N6
      refine aws_cut fun N7 hN7 => ?_
      simp (config := {maxSteps := 2000000}) only [s10, ↓aw_region, ↓aw_skip, ↓aw_seq, ↓aw_block, ↓aw_exit, ↓aw_ret, ↓sops_nil, ↓sops_go, ↓dops_nil, ↓dopsX_nil, ↓dopsR_nil, ↓vdn, vup, extr_20, extr_21, extr_30, extr_31, extr_32, List.map_cons, List.map_nil, cond_true, cond_false, aop, aThen, aBlock, argEnv, ev, sput, sputO, binK, binI, unK, builtinK, pickK, Nat.reduceBEq, Nat.reduceAdd, Int.reduceBEq, Int.reduceBNe, Int.reduceLT, aPost, resK, tup, tyf, callK, List.nil_append, List.append_nil, List.toList_toArray, List.cons_append, n00, n20, e0, e22]
      refine awk fun g _ => ?_
      simp (config := {maxSteps := 2000000}) only [s10, ↓aw_region, ↓aw_skip, ↓aw_seq, ↓aw_block, ↓aw_exit, ↓aw_ret, ↓sops_nil, ↓sops_go, ↓dops_nil, ↓dopsX_nil, ↓dopsR_nil, ↓vdn, vup, extr_20, extr_21, extr_30, extr_31, extr_32, List.map_cons, List.map_nil, cond_true, cond_false, aop, aThen, aBlock, argEnv, ev, sput, sputO, binK, binI, unK, builtinK, pickK, Nat.reduceBEq, Nat.reduceAdd, Int.reduceBEq, Int.reduceBNe, Int.reduceLT, aPost, resK, tup, tyf]
    | true =>
      rw [hok, if_pos ⟨ht, rfl⟩] at hr3
      obtain ⟨w, rfl, hw⟩ := hr3
      have h28 : ps.length ≤ 28 := by
        rw [okPs, Bool.and_eq_true, decide_eq_true_eq] at hok; exact hok.2
      have hpr : ∀ i, i < ps.length → okPr xs.length (ps.getD i (0, 0)) = true := fun i hi => by
        rw [okPs, Bool.and_eq_true, List.all_eq_true] at hok
        have := hok.1 i (List.mem_range.2 hi)
        rw [okK, Bool.and_eq_true] at this
        exact this.1
      have hpt : ps.take 32 = ps := List.take_of_length_le (by omega)
      rw [hpt] at hw
      have ht2 := turn_trn ht hpr
      have hlen2 := turn_len xs ps ps.length
      have hback := turn_back (trn_sm ht) hxl.2 hpr
      have hsm2 := trn_sm ht2
      have hfew := hfew hpr
      have hok2 : okPs (turnTo xs ps ps.length).length ps = true := by rw [hlen2]; exact hok
      generalize hX : turnTo xs ps ps.length = xs2 at *
      have hl2 : xs2.length < 9223372036854775808 := by omega
      have hx2 : ∀ x ∈ xs2, -9223372036854775808 ≤ x ∧ x < 9223372036854775808 := fun x hm => by
        obtain ⟨i, hi, rfl⟩ := List.getElem_of_mem hm
        have := hsm2.2 i hi
        rw [List.getD, List.getElem?_eq_getElem hi, Option.getD_some] at this
        omega
      have hne : xs2 ≠ [] := fun e => by rw [e] at hlen2; simp at hlen2; omega
      simp (config := {maxSteps := 2000000}) only [s10, ↓aw_region, ↓aw_skip, ↓aw_seq, ↓aw_block, ↓aw_exit, ↓aw_ret, ↓sops_nil, ↓sops_go, ↓dops_nil, ↓dopsX_nil, ↓dopsR_nil, ↓vdn, vup, extr_20, extr_21, extr_30, extr_31, extr_32, List.map_cons, List.map_nil, cond_true, cond_false, aop, aThen, aBlock, argEnv, ev, sput, sputO, binK, binI, unK, builtinK, pickK, Nat.reduceBEq, Nat.reduceAdd, Int.reduceBEq, Int.reduceBNe, Int.reduceLT, aPost, resK, tup, tyf]
      refine hN6 [(0, v), (1, pv), (4, .bool false), (5, u), (6, .int .i64 0), (7, vint (a : Nat)), (8, .int .i64 0), (9, w), (10, .int .i64 0)] _ _ ?_ (by simp (config := {maxSteps := 2000000}) only [↓aw_region, ↓aw_skip, ↓aw_seq, ↓aw_block, ↓aw_exit, ↓aw_ret, ↓sops_nil, ↓sops_go, ↓dops_nil, ↓dopsX_nil, ↓dopsR_nil, ↓vdn, vup, extr_20, extr_21, extr_30, extr_31, extr_32, List.map_cons, List.map_nil, cond_true, cond_false, aop, aThen, aBlock, argEnv, ev, sput, sputO, binK, binI, unK, builtinK, pickK, Nat.reduceBEq, Nat.reduceAdd, Int.reduceBEq, Int.reduceBNe, Int.reduceLT, aPost, resK, tup, tyf])
      clear hN6
      try clear N6
      refine aws_cut fun N8 hN8 => ?_
      simp (config := {maxSteps := 2000000}) only [s10, ↓aw_region, ↓aw_skip, ↓aw_seq, ↓aw_block, ↓aw_exit, ↓aw_ret, ↓sops_nil, ↓sops_go, ↓dops_nil, ↓dopsX_nil, ↓dopsR_nil, ↓vdn, vup, extr_20, extr_21, extr_30, extr_31, extr_32, List.map_cons, List.map_nil, cond_true, cond_false, aop, aThen, aBlock, argEnv, ev, sput, sputO, binK, binI, unK, builtinK, pickK, Nat.reduceBEq, Nat.reduceAdd, Int.reduceBEq, Int.reduceBNe, Int.reduceLT, aPost, resK, tup, tyf, n00]
      refine hN8 [(0, v), (1, pv), (4, .bool false), (5, u), (6, .int .i64 0), (7, vint (a : Nat)), (8, .int .i64 0), (9, w), (10, .int .i64 0)] _ _ ?_ (by simp (config := {maxSteps := 2000000}) only [↓aw_region, ↓aw_skip, ↓aw_seq, ↓aw_block, ↓aw_exit, ↓aw_ret, ↓sops_nil, ↓sops_go, ↓dops_nil, ↓dopsX_nil, ↓dopsR_nil, ↓vdn, vup, extr_20, extr_21, extr_30, extr_31, extr_32, List.map_cons, List.map_nil, cond_true, cond_false, aop, aThen, aBlock, argEnv, ev, sput, sputO, binK, binI, unK, builtinK, pickK, Nat.reduceBEq, Nat.reduceAdd, Int.reduceBEq, Int.reduceBNe, Int.reduceLT, aPost, resK, tup, tyf])
      clear hN8
      try clear N8
      refine aws_cut fun N9 hN9 => ?_
      simp (config := {maxSteps := 2000000}) only [s10, ↓aw_region, ↓aw_skip, ↓aw_seq, ↓aw_block, ↓aw_exit, ↓aw_ret, ↓sops_nil, ↓sops_go, ↓dops_nil, ↓dopsX_nil, ↓dopsR_nil, ↓vdn, vup, extr_20, extr_21, extr_30, extr_31, extr_32, List.map_cons, List.map_nil, cond_true, cond_false, aop, aThen, aBlock, argEnv, ev, sput, sputO, binK, binI, unK, builtinK, pickK, Nat.reduceBEq, Nat.reduceAdd, Int.reduceBEq, Int.reduceBNe, Int.reduceLT, aPost, resK, tup, tyf, callK, List.nil_append, List.append_nil, List.toList_toArray, List.cons_append]
      refine (clone_fresh hw hne (by omega)).mono ?_
      rintro c4 h4 ⟨b4, rfl, hb4, _, hE4⟩
      have hc4 : IntSl h4 (.slice (some ⟨b4, 0, some 0⟩) xs2.length xs2.length) xs2 :=
        .inr ⟨b4, 0, some 0, xs2.length, xs2.map vint, 3, false, rfl, Nat.le_refl _, by simp [view, hb4, Blk.view], fun i hi => by rw [Nat.zero_add, List.getElem?_map, List.getD, List.getElem?_eq_getElem hi]; rfl⟩
      refine (cycles30_call hc4 hl2 hx2).mono ?_
      rintro r5 h5 ⟨hE5, hr5⟩
      rw [ht2, if_pos rfl] at hr5
      obtain ⟨cv, rfl, hcv⟩ := hr5
      have hw5 := IntSl_ext (IntSl_ext hw hE4) hE5
      have hv5 := IntSl_ext (IntSl_ext hv3 hE4) hE5
      have hp5 := (hp3.ext hE4).ext hE5
      simp (config := {maxSteps := 2000000}) only [s10, ↓aw_region, ↓aw_skip, ↓aw_seq, ↓aw_block, ↓aw_exit, ↓aw_ret, ↓sops_nil, ↓sops_go, ↓dops_nil, ↓dopsX_nil, ↓dopsR_nil, ↓vdn, vup, extr_20, extr_21, extr_30, extr_31, extr_32, List.map_cons, List.map_nil, cond_true, cond_false, aop, aThen, aBlock, argEnv, ev, sput, sputO, binK, binI, unK, builtinK, pickK, Nat.reduceBEq, Nat.reduceAdd, Int.reduceBEq, Int.reduceBNe, Int.reduceLT, aPost, resK, tup, tyf]
      refine hN9 [(0, v), (1, pv), (4, .bool false), (5, u), (6, .int .i64 0), (7, vint (a : Nat)), (8, .int .i64 0), (9, w), (10, .int .i64 0), (11, cv), (12, .int .i64 0)] _ _ ?_ (by simp (config := {maxSteps := 2000000}) only [↓aw_region, ↓aw_skip, ↓aw_seq, ↓aw_block, ↓aw_exit, ↓aw_ret, ↓sops_nil, ↓sops_go, ↓dops_nil, ↓dopsX_nil, ↓dopsR_nil, ↓vdn, vup, extr_20, extr_21, extr_30, extr_31, extr_32, List.map_cons, List.map_nil, cond_true, cond_false, aop, aThen, aBlock, argEnv, ev, sput, sputO, binK, binI, unK, builtinK, pickK, Nat.reduceBEq, Nat.reduceAdd, Int.reduceBEq, Int.reduceBNe, Int.reduceLT, aPost, resK, tup, tyf])
      clear hN9
      try clear N9
      clear hc4 hE4 hE5 hb4
      refine aws_cut fun N10 hN10 => ?_
      simp (config := {maxSteps := 2000000}) only [s10, ↓aw_region, ↓aw_skip, ↓aw_seq, ↓aw_block, ↓aw_exit, ↓aw_ret, ↓sops_nil, ↓sops_go, ↓dops_nil, ↓dopsX_nil, ↓dopsR_nil, ↓vdn, vup, extr_20, extr_21, extr_30, extr_31, extr_32, List.map_cons, List.map_nil, cond_true, cond_false, aop, aThen, aBlock, argEnv, ev, sput, sputO, binK, binI, unK, builtinK, pickK, Nat.reduceBEq, Nat.reduceAdd, Int.reduceBEq, Int.reduceBNe, Int.reduceLT, aPost, resK, tup, tyf, callK, List.nil_append, List.append_nil, List.toList_toArray, List.cons_append]
      refine (pairs_call hp5 hpl).mono ?_
      rintro l6 _ ⟨hl6, g6, rfl⟩
      rw [hpt] at hl6
      refine (turn_call (hw5.grow g6) hl6 hl2 hx2 (by omega)).mono ?_
      rintro r7 h7 ⟨hE7, hr7⟩
      rw [if_pos ⟨ht2, hok2⟩, hback] at hr7
      obtain ⟨w7, rfl, hw7⟩ := hr7
      have hv7 := IntSl_ext (hv5.grow g6) hE7
      have hp7 := (hp5.grow g6).ext hE7
      have hcl : ∀ K, lenK cv K = K (vint (cA xs2 xs2.length).length) := fun K => by
        rcases hcv with ⟨rfl, e⟩ | ⟨b, ys, rfl, _⟩
        · rw [e]; rfl
        · rfl
      simp (config := {maxSteps := 2000000}) only [s10, ↓aw_region, ↓aw_skip, ↓aw_seq, ↓aw_block, ↓aw_exit, ↓aw_ret, ↓sops_nil, ↓sops_go, ↓dops_nil, ↓dopsX_nil, ↓dopsR_nil, ↓vdn, vup, extr_20, extr_21, extr_30, extr_31, extr_32, List.map_cons, List.map_nil, cond_true, cond_false, aop, aThen, aBlock, argEnv, ev, sput, sputO, binK, binI, unK, builtinK, pickK, Nat.reduceBEq, Nat.reduceAdd, Int.reduceBEq, Int.reduceBNe, Int.reduceLT, aPost, resK, tup, tyf]
      refine hN10 [(0, v), (1, pv), (4, .bool false), (5, u), (6, .int .i64 0), (7, vint (a : Nat)), (8, .int .i64 0), (9, w), (10, .int .i64 0), (11, cv), (12, .int .i64 0), (13, w7), (14, .int .i64 0)] _ _ ?_ (by simp (config := {maxSteps := 2000000}) only [↓aw_region, ↓aw_skip, ↓aw_seq, ↓aw_block, ↓aw_exit, ↓aw_ret, ↓sops_nil, ↓sops_go, ↓dops_nil, ↓dopsX_nil, ↓dopsR_nil, ↓vdn, vup, extr_20, extr_21, extr_30, extr_31, extr_32, List.map_cons, List.map_nil, cond_true, cond_false, aop, aThen, aBlock, argEnv, ev, sput, sputO, binK, binI, unK, builtinK, pickK, Nat.reduceBEq, Nat.reduceAdd, Int.reduceBEq, Int.reduceBNe, Int.reduceLT, aPost, resK, tup, tyf])
      clear hN10
      try clear N10
      refine aws_cut fun N11 hN11 => ?_
      simp (config := {maxSteps := 2000000}) only [s10, ↓aw_region, ↓aw_skip, ↓aw_seq, ↓aw_block, ↓aw_exit, ↓aw_ret, ↓sops_nil, ↓sops_go, ↓dops_nil, ↓dopsX_nil, ↓dopsR_nil, ↓vdn, vup, extr_20, extr_21, extr_30, extr_31, extr_32, List.map_cons, List.map_nil, cond_true, cond_false, aop, aThen, aBlock, argEnv, ev, sput, sputO, binK, binI, unK, builtinK, pickK, Nat.reduceBEq, Nat.reduceAdd, Int.reduceBEq, Int.reduceBNe, Int.reduceLT, aPost, resK, tup, tyf, callK, List.nil_append, List.append_nil, List.toList_toArray, List.cons_append, e0]
      refine (equal_call hw7 hv7 hl hl).mono ?_
      rintro _ h7 ⟨rfl, rfl⟩
      have hd : decide (xs = xs) = true := decide_eq_true rfl
      by_cases hge : a ≤ ps.length
      · have hge' : decide (((a : Nat) : Int) ≤ ((ps.length : Nat) : Int)) = true := decide_eq_true (by omega)
        have hge2 : ((a : Nat) : Int) ≤ ((ps.length : Nat) : Int) := by omega
        simp (config := {maxSteps := 2000000}) only [s10, ↓aw_region, ↓aw_skip, ↓aw_seq, ↓aw_block, ↓aw_exit, ↓aw_ret, ↓sops_nil, ↓sops_go, ↓dops_nil, ↓dopsX_nil, ↓dopsR_nil, ↓vdn, vup, extr_20, extr_21, extr_30, extr_31, extr_32, List.map_cons, List.map_nil, cond_true, cond_false, aop, aThen, aBlock, argEnv, ev, sput, sputO, binK, binI, unK, builtinK, pickK, Nat.reduceBEq, Nat.reduceAdd, Int.reduceBEq, Int.reduceBNe, Int.reduceLT, aPost, resK, tup, tyf, callK, List.nil_append, List.append_nil, List.toList_toArray, List.cons_append, hd, hp7.len, hge2, ge_iff_le, decide_true]
        refine awk fun g _ => ?_
        refine hN11 [(0, v), (1, pv), (4, .bool true), (5, u), (6, .int .i64 0), (7, vint (a : Nat)), (8, .int .i64 0), (9, w), (10, .int .i64 0), (11, cv), (12, .int .i64 0), (13, w7), (14, .int .i64 0)] _ _ ?_ (by simp (config := {maxSteps := 2000000}) only [↓aw_region, ↓aw_skip, ↓aw_seq, ↓aw_block, ↓aw_exit, ↓aw_ret, ↓sops_nil, ↓sops_go, ↓dops_nil, ↓dopsX_nil, ↓dopsR_nil, ↓vdn, vup, extr_20, extr_21, extr_30, extr_31, extr_32, List.map_cons, List.map_nil, cond_true, cond_false, aop, aThen, aBlock, argEnv, ev, sput, sputO, binK, binI, unK, builtinK, pickK, Nat.reduceBEq, Nat.reduceAdd, Int.reduceBEq, Int.reduceBNe, Int.reduceLT, aPost, resK, tup, tyf])
        clear hN11
        try clear N11
        refine aw_aws ?_
        simp (config := {maxSteps := 2000000}) only [s10, ↓aw_region, ↓aw_skip, ↓aw_seq, ↓aw_block, ↓aw_exit, ↓aw_ret, ↓sops_nil, ↓sops_go, ↓dops_nil, ↓dopsX_nil, ↓dopsR_nil, ↓vdn, vup, extr_20, extr_21, extr_30, extr_31, extr_32, List.map_cons, List.map_nil, cond_true, cond_false, aop, aThen, aBlock, argEnv, ev, sput, sputO, binK, binI, unK, builtinK, pickK, Nat.reduceBEq, Nat.reduceAdd, Int.reduceBEq, Int.reduceBNe, Int.reduceLT, aPost, resK, tup, tyf]
      · have hcn : 0 < (cA xs2 xs2.length).length := by
          apply Nat.pos_of_ne_zero
          intro e
          have := hfew (by rw [← hlen2]; exact List.length_eq_zero_iff.1 e)
          omega
        have hge2 : ¬ ((a : Nat) : Int) ≤ ((ps.length : Nat) : Int) := by omega
        have hc2 : (0 : Int) < (((cA xs2 xs2.length).length : Nat) : Int) := by omega
        simp (config := {maxSteps := 2000000}) only [s10, ↓aw_region, ↓aw_skip, ↓aw_seq, ↓aw_block, ↓aw_exit, ↓aw_ret, ↓sops_nil, ↓sops_go, ↓dops_nil, ↓dopsX_nil, ↓dopsR_nil, ↓vdn, vup, extr_20, extr_21, extr_30, extr_31, extr_32, List.map_cons, List.map_nil, cond_true, cond_false, aop, aThen, aBlock, argEnv, ev, sput, sputO, binK, binI, unK, builtinK, pickK, Nat.reduceBEq, Nat.reduceAdd, Int.reduceBEq, Int.reduceBNe, Int.reduceLT, aPost, resK, tup, tyf, callK, List.nil_append, List.append_nil, List.toList_toArray, List.cons_append, hd, hp7.len, hge2, ge_iff_le, decide_false, decide_true, hcl, gt_iff_lt, hc2]
        refine awk fun g _ => ?_
        refine hN11 [(0, v), (1, pv), (4, .bool true), (5, u), (6, .int .i64 0), (7, vint (a : Nat)), (8, .int .i64 0), (9, w), (10, .int .i64 0), (11, cv), (12, .int .i64 0), (13, w7), (14, .int .i64 0)] _ _ ?_ (by simp (config := {maxSteps := 2000000}) only [↓aw_region, ↓aw_skip, ↓aw_seq, ↓aw_block, ↓aw_exit, ↓aw_ret, ↓sops_nil, ↓sops_go, ↓dops_nil, ↓dopsX_nil, ↓dopsR_nil, ↓vdn, vup, extr_20, extr_21, extr_30, extr_31, extr_32, List.map_cons, List.map_nil, cond_true, cond_false, aop, aThen, aBlock, argEnv, ev, sput, sputO, binK, binI, unK, builtinK, pickK, Nat.reduceBEq, Nat.reduceAdd, Int.reduceBEq, Int.reduceBNe, Int.reduceLT, aPost, resK, tup, tyf])
        clear hN11
        try clear N11
        refine aw_aws ?_
        simp (config := {maxSteps := 2000000}) only [s10, ↓aw_region, ↓aw_skip, ↓aw_seq, ↓aw_block, ↓aw_exit, ↓aw_ret, ↓sops_nil, ↓sops_go, ↓dops_nil, ↓dopsX_nil, ↓dopsR_nil, ↓vdn, vup, extr_20, extr_21, extr_30, extr_31, extr_32, List.map_cons, List.map_nil, cond_true, cond_false, aop, aThen, aBlock, argEnv, ev, sput, sputO, binK, binI, unK, builtinK, pickK, Nat.reduceBEq, Nat.reduceAdd, Int.reduceBEq, Int.reduceBNe, Int.reduceLT, aPost, resK, tup, tyf]
end Go.Proofs.Tryd.Am

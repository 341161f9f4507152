/-
  ranks: slices of pairs: copies, whether a pair is in one.
-/
import Derived.Test.YtemmcfeekpblkaaDoorRkClear
import Derived.Test.YtemmcfeekpblkaaDoorFnE
set_option linter.all false
namespace Go.Proofs.Tryd.Am
open Go.Am
set_option maxRecDepth 100000
set_option maxHeartbeats 1000000

theorem lit0P {h : Heap} (K : Value → Heap → Prop) : buildSliceK prog h 46 0 [] K = K (.slice (some ⟨h.length, 0, none⟩) 0 0) (h ++ [.ints [] 52 false]) := by
  simp only [buildSliceK, el_46, zero_52, esz_52, reps, fillL, mkb, intsOf, List.length_cons, List.length_nil, Nat.mul_one, Nat.zero_mul]
  exact propext ⟨fun h => h.2.2.2, fun h => ⟨trivial, by decide, by decide, h⟩⟩
theorem clonep_call [Tabs prog] {h : Heap} {v : Value} {ps : List (Int × Int)} (hv : PairSl h v ps) (hl : ps.length < 1099511627776) : ACall prog 78 [v] h fun r h' => PairSl h' r ps ∧ ∃ g, h' = h ++ g := by
  refine s78_call (by simp) ?_
  have hv' := hv
  rcases hv with ⟨rfl, rfl⟩ | ⟨b, o, sp, cap, c, e, ro, rfl, hc, hb, hx⟩
  · simp (config := {maxSteps := 2000000}) only [s78, ↓aw_region, ↓aw_skip, ↓aw_seq, ↓aw_block, ↓aw_exit, ↓aw_ret, ↓sops_nil, ↓sops_go, ↓dops_nil, ↓dopsX_nil, ↓dopsR_nil, ↓vdn, vup, extr_20, extr_21, extr_30, extr_31, extr_32, List.map_cons, List.map_nil, cond_true, cond_false, aop, aThen, aBlock, argEnv, ev, sput, sputO, binK, binI, unK, builtinK, pickK, Nat.reduceBEq, Nat.reduceAdd, Int.reduceBEq, Int.reduceBNe, Int.reduceLT, aPost, resK, tup, tyf, Option.isSome_some]
    exact ⟨.inl ⟨rfl, rfl⟩, [], by rw [List.append_nil]⟩
  · simp (config := {maxSteps := 2000000}) only [s78, ↓aw_region, ↓aw_skip, ↓aw_seq, ↓aw_block, ↓aw_exit, ↓aw_ret, ↓sops_nil, ↓sops_go, ↓dops_nil, ↓dopsX_nil, ↓dopsR_nil, ↓vdn, vup, extr_20, extr_21, extr_30, extr_31, extr_32, List.map_cons, List.map_nil, cond_true, cond_false, aop, aThen, aBlock, argEnv, ev, sput, sputO, binK, binI, unK, builtinK, pickK, Nat.reduceBEq, Nat.reduceAdd, Int.reduceBEq, Int.reduceBNe, Int.reduceLT, aPost, resK, tup, tyf, Option.isSome_some, List.toList_toArray, lit0P]
    refine (hv'.grow [.ints [] 52 false]).copy app_46_46 hl (get_new _ _) ?_
    intro r g hr
    exact ⟨hr, _, List.append_assoc _ _ _⟩
theorem min32 (n : Nat) : (if (32 : Int) < n then 32 else (n : Int)) = ((min n 32 : Nat) : Int) := by split <;> omega
theorem pairs_call [Tabs prog] {h : Heap} {v : Value} {ps : List (Int × Int)} (hv : PairSl h v ps) (hl : ps.length < 9223372036854775808) : ACall prog 42 [v] h fun r h' => PairSl h' r (ps.take 32) ∧ ∃ g, h' = h ++ g := by
  refine s42_call (by simp) ?_
  simp (config := {maxSteps := 2000000}) only [s42, ↓aw_region, ↓aw_skip, ↓aw_seq, ↓aw_block, ↓aw_exit, ↓aw_ret, ↓sops_nil, ↓sops_go, ↓dops_nil, ↓dopsX_nil, ↓dopsR_nil, ↓vdn, vup, extr_20, extr_21, extr_30, extr_31, extr_32, List.map_cons, List.map_nil, cond_true, cond_false, aop, aThen, aBlock, argEnv, ev, sput, sputO, binK, binI, unK, builtinK, pickK, Nat.reduceBEq, Nat.reduceAdd, Int.reduceBEq, Int.reduceBNe, Int.reduceLT, aPost, resK, tup, tyf, hv.len, mmK, Bool.false_eq_true, if_false, gt_iff_lt, min32, Option.map_none, Option.map_some]
  refine hv.pre el_46 esz_52 (Nat.min_le_left _ _) ?_
  intro v' hv'
  have e : ps.take (min ps.length 32) = ps.take 32 := by
    by_cases h : ps.length ≤ 32
    · rw [Nat.min_eq_left h, List.take_length, List.take_of_length_le h]
    · rw [Nat.min_eq_right (by omega)]
  rw [e] at hv'
  simp (config := {maxSteps := 2000000}) only [↓aw_region, ↓aw_skip, ↓aw_seq, ↓aw_block, ↓aw_exit, ↓aw_ret, ↓sops_nil, ↓sops_go, ↓dops_nil, ↓dopsX_nil, ↓dopsR_nil, ↓vdn, vup, extr_20, extr_21, extr_30, extr_31, extr_32, List.map_cons, List.map_nil, cond_true, cond_false, aop, aThen, aBlock, argEnv, ev, sput, sputO, binK, binI, unK, builtinK, pickK, Nat.reduceBEq, Nat.reduceAdd, Int.reduceBEq, Int.reduceBNe, Int.reduceLT, aPost, resK, tup, tyf, callK, List.nil_append, List.append_nil]
  exact clonep_call hv' (by simp; omega)

/-- A pair as a value. -/
def pV (p : Int × Int) : Value := .agg #[vint p.1, vint p.2]
theorem boxP {h : Heap} {p : Int × Int} {K : Value → Heap → Prop} : boxK prog h 52 (pV p) K = K (newPtr h) (h ++ [.cells [vint p.1, vint p.2] 52 false]) := by
  simp [boxK, esz_52, newPtr, cellsOf, pV]
theorem loadP {h : Heap} {b : Nat} {p : Int × Int} {e : TypeId} {ro : Bool} {K : Value → Prop} (hb : h[b]? = some (.cells [vint p.1, vint p.2] e ro)) : loadK prog h 52 (.pointer (some ⟨b, 0, none⟩)) K = K (pV p) := loadA hb (by rw [shp_52]; rfl)
theorem storeP {h : Heap} {b : Nat} {p : Int × Int} {e : TypeId} {c : List Value} {K : Heap → Prop} (hb : h[b]? = some (.cells c e false)) (hc : c.length = 2) : storeK prog h 52 (.pointer (some ⟨b, 0, none⟩)) (pV p) K = K (h.set b (.cells [vint p.1, vint p.2] e false)) :=
  storeA (vs := [vint p.1, vint p.2]) hb (by rw [shp_52]; rfl) rfl (by rw [hc]; rfl)
theorem pidx0 {b : Nat} {K : Value → Prop} : idxAddrK prog 52 (.pointer (some ⟨b, 0, none⟩)) (.int .i64 0) K = K (.pointer (some ⟨b, 0, none⟩)) := idxA (k := 0) und_52 esz_3 (by decide)
theorem pidx1 {b : Nat} {K : Value → Prop} : idxAddrK prog 52 (.pointer (some ⟨b, 0, none⟩)) (.int .i64 1) K = K (.pointer (some ⟨b, 1, none⟩)) := idxA (k := 1) und_52 esz_3 (by decide)
theorem pl0 {h : Heap} {b : Nat} {x y : Value} {e : TypeId} {ro : Bool} {K : Value → Prop} (hb : h[b]? = some (.cells [x, y] e ro)) : loadK prog h 3 (.pointer (some ⟨b, 0, none⟩)) K = K x := loadC (o := 0) hb shp_3 rfl
theorem pl1 {h : Heap} {b : Nat} {x y : Value} {e : TypeId} {ro : Bool} {K : Value → Prop} (hb : h[b]? = some (.cells [x, y] e ro)) : loadK prog h 3 (.pointer (some ⟨b, 1, none⟩)) K = K y := loadC (o := 1) hb shp_3 rfl
theorem eqP [Tabs prog] : EqT prog 52 2 := eqT_array und_52 und_3 esz_3 (by kernel_rfl)
theorem pair_eq (p q : Int × Int) : (([p.1, p.2] : List Int) == [q.1, q.2]) = decide (p = q) := by
  rw [Bool.eq_iff_iff, beq_iff_eq, decide_eq_true_eq]
  constructor
  · intro h; simp at h; exact Prod.ext h.1 h.2
  · rintro rfl; rfl
theorem binP [Tabs prog] {p q : Int × Int} {K : Value → Prop} : binK prog .eql 52 (pV p) (pV q) K = K (.bool (decide (p = q))) := by
  rw [← pair_eq]
  simp only [binK, pV, List.toList_toArray, intsOf, Option.map_some, List.length_cons, List.length_nil, Nat.zero_add, true_and]
  exact propext ⟨fun h => h.2, fun h => ⟨eqP, h⟩⟩

theorem pindex_call [Tabs prog] {h : Heap} {v : Value} {ps : List (Int × Int)} {p : Int × Int} (hv : PairSl h v ps) (hl : ps.length < 9223372036854775807) : ∃ z : Int, APure prog 98 [v, pV p] h (.int .i64 z) ∧ decide (0 ≤ z) = ps.contains p := by
  have hq : EqT prog 52 2 := eqP
  by_cases hc : ps.contains p = true
  · -- the first place
    have hm : p ∈ ps := by simpa using hc
    refine ⟨((ps.idxOf p : Nat) : Int), ?_, by rw [hc]; exact decide_eq_true (Int.natCast_nonneg _)⟩
    have hil := List.idxOf_lt_length_of_mem hm
    refine ACall.forget (Low.int _ _) ?_
    refine s98_call (by simp) ?_
    simp (config := {maxSteps := 2000000}) only [s98, ↓aw_region, ↓aw_skip, ↓aw_seq, ↓aw_block, ↓aw_exit, ↓aw_ret, ↓sops_nil, ↓sops_go, ↓dops_nil, ↓dopsX_nil, ↓dopsR_nil, ↓vdn, vup, extr_20, extr_21, extr_30, extr_31, extr_32, List.map_cons, List.map_nil, cond_true, cond_false, aop, aThen, aBlock, argEnv, ev, sput, sputO, binK, binI, unK, builtinK, pickK, Nat.reduceBEq, Nat.reduceAdd, Int.reduceBEq, Int.reduceBNe, Int.reduceLT, aPost, resK, tup, tyf, boxP, newPtr, hv.len, ↓aw_loop_eq]
    have c0 := get_new h (Blk.cells [vint p.1, vint p.2] 52 false)
    have hv1 := hv.grow [Blk.cells [vint p.1, vint p.2] 52 false]
    have hE : Ext (fun _ => False) h (h ++ [Blk.cells [vint p.1, vint p.2] 52 false]) := Ext.app _ _ _
    generalize h ++ [Blk.cells [vint p.1, vint p.2] 52 false] = h1 at c0 hv1 hE ⊢
    refine aws_hide fun Q hQ => ?_
    refine aw_loop (γ := Nat) (fun i => i ≤ ps.idxOf p)
      (fun i => ([(0, v), (3, .pointer (some ⟨h.length, 0, none⟩)), (7, vint ps.length), (8, vint i)], h1)) (fun i => ps.length - i) 0 (Nat.zero_le _) (by simp (config := {maxSteps := 2000000}) only [↓aw_region, ↓aw_skip, ↓aw_seq, ↓aw_block, ↓aw_exit, ↓aw_ret, ↓sops_nil, ↓sops_go, ↓dops_nil, ↓dopsX_nil, ↓dopsR_nil, ↓vdn, vup, extr_20, extr_21, extr_30, extr_31, extr_32, List.map_cons, List.map_nil, cond_true, cond_false, aop, aThen, aBlock, argEnv, ev, sput, sputO, binK, binI, unK, builtinK, pickK, Nat.reduceBEq, Nat.reduceAdd, Int.reduceBEq, Int.reduceBNe, Int.reduceLT, aPost, resK, tup, tyf, Int.natCast_zero]) rfl ?_
    intro i hi
    refine aw_hide fun Q2 hQ2 => ?_
    have hin : (i : Int) < ps.length := by omega
    have h1' : i < ps.length := by omega
    simp (config := {maxSteps := 2000000}) only [s98, ↓aw_region, ↓aw_skip, ↓aw_seq, ↓aw_block, ↓aw_exit, ↓aw_ret, ↓sops_nil, ↓sops_go, ↓dops_nil, ↓dopsX_nil, ↓dopsR_nil, ↓vdn, vup, extr_20, extr_21, extr_30, extr_31, extr_32, List.map_cons, List.map_nil, cond_true, cond_false, aop, aThen, aBlock, argEnv, ev, sput, sputO, binK, binI, unK, builtinK, pickK, Nat.reduceBEq, Nat.reduceAdd, Int.reduceBEq, Int.reduceBNe, Int.reduceLT, aPost, resK, tup, tyf, l98_0, hin]
    refine aw_drawX [] (by kernel_rfl) (by kernel_rfl) (by kernel_rfl) (by kernel_rfl) ?_
    have hld : ∀ {K : Value → Prop}, loadK prog h1 52 (elemP v 2 i) K = K (pV (ps.getD i (0, 0))) := fun {K} => hv1.load shp_52 h1' K
    by_cases hii : i = ps.idxOf p
    · have he : ps.getD i (0, 0) = p := by
        rw [hii, List.getD, List.getElem?_eq_getElem hil]; exact List.getElem_idxOf hil
      have hd : decide (p = ps.getD i (0, 0)) = true := by rw [he]; exact decide_eq_true rfl
      simp (config := {maxSteps := 2000000}) only [s98, ↓aw_region, ↓aw_skip, ↓aw_seq, ↓aw_block, ↓aw_exit, ↓aw_ret, ↓sops_nil, ↓sops_go, ↓dops_nil, ↓dopsX_nil, ↓dopsR_nil, ↓vdn, vup, extr_20, extr_21, extr_30, extr_31, extr_32, List.map_cons, List.map_nil, cond_true, cond_false, aop, aThen, aBlock, argEnv, ev, sput, sputO, binK, binI, unK, builtinK, pickK, Nat.reduceBEq, Nat.reduceAdd, Int.reduceBEq, Int.reduceBNe, Int.reduceLT, aPost, resK, tup, tyf, loadP c0, hv1.idx el_46 esz_52 h1', hld, pV, List.toList_toArray, intsOf, Option.map_some, List.length_cons, List.length_nil, Nat.zero_add, hq, pair_eq, hd]
      refine hQ2 _ _ _ (hQ _ _ _ ?_)
      simp (config := {maxSteps := 2000000}) only [s98, ↓aw_region, ↓aw_skip, ↓aw_seq, ↓aw_block, ↓aw_exit, ↓aw_ret, ↓sops_nil, ↓sops_go, ↓dops_nil, ↓dopsX_nil, ↓dopsR_nil, ↓vdn, vup, extr_20, extr_21, extr_30, extr_31, extr_32, List.map_cons, List.map_nil, cond_true, cond_false, aop, aThen, aBlock, argEnv, ev, sput, sputO, binK, binI, unK, builtinK, pickK, Nat.reduceBEq, Nat.reduceAdd, Int.reduceBEq, Int.reduceBNe, Int.reduceLT, aPost, resK, tup, tyf, hii]
      exact hE
    · have he : ¬ p = ps.getD i (0, 0) := fun he => by
        have h2 := List.not_of_lt_findIdx (xs := ps) (p := (· == p)) (i := i) (by have : ps.idxOf p = ps.findIdx (· == p) := rfl; omega)
        rw [List.getD, List.getElem?_eq_getElem h1'] at he
        simp only [Option.getD_some] at he
        rw [← he] at h2; simp at h2
      have hd : decide (p = ps.getD i (0, 0)) = false := decide_eq_false he
      simp (config := {maxSteps := 2000000}) only [s98, ↓aw_region, ↓aw_skip, ↓aw_seq, ↓aw_block, ↓aw_exit, ↓aw_ret, ↓sops_nil, ↓sops_go, ↓dops_nil, ↓dopsX_nil, ↓dopsR_nil, ↓vdn, vup, extr_20, extr_21, extr_30, extr_31, extr_32, List.map_cons, List.map_nil, cond_true, cond_false, aop, aThen, aBlock, argEnv, ev, sput, sputO, binK, binI, unK, builtinK, pickK, Nat.reduceBEq, Nat.reduceAdd, Int.reduceBEq, Int.reduceBNe, Int.reduceLT, aPost, resK, tup, tyf, loadP c0, hv1.idx el_46 esz_52 h1', hld, pV, List.toList_toArray, intsOf, Option.map_some, List.length_cons, List.length_nil, Nat.zero_add, hq, pair_eq, hd, add1 (show i < 9223372036854775807 by omega)]
      exact hQ2 _ _ _ ⟨i + 1, by omega, by omega, by simp (config := {maxSteps := 2000000}) only [↓aw_region, ↓aw_skip, ↓aw_seq, ↓aw_block, ↓aw_exit, ↓aw_ret, ↓sops_nil, ↓sops_go, ↓dops_nil, ↓dopsX_nil, ↓dopsR_nil, ↓vdn, vup, extr_20, extr_21, extr_30, extr_31, extr_32, List.map_cons, List.map_nil, cond_true, cond_false, aop, aThen, aBlock, argEnv, ev, sput, sputO, binK, binI, unK, builtinK, pickK, Nat.reduceBEq, Nat.reduceAdd, Int.reduceBEq, Int.reduceBNe, Int.reduceLT, aPost, resK, tup, tyf], rfl⟩
  · have hno : ∀ i, i < ps.length → ¬ p = ps.getD i (0, 0) := fun i hi he => hc (by
      rw [List.getD, List.getElem?_eq_getElem hi] at he
      have : p ∈ ps := by rw [he]; exact List.getElem_mem _
      simpa using this)
    refine ⟨-1, ?_, by rw [Bool.not_eq_true] at hc; rw [hc]; exact decide_eq_false (by decide)⟩
    refine ACall.forget (Low.int _ _) ?_
    refine s98_call (by simp) ?_
    simp (config := {maxSteps := 2000000}) only [s98, ↓aw_region, ↓aw_skip, ↓aw_seq, ↓aw_block, ↓aw_exit, ↓aw_ret, ↓sops_nil, ↓sops_go, ↓dops_nil, ↓dopsX_nil, ↓dopsR_nil, ↓vdn, vup, extr_20, extr_21, extr_30, extr_31, extr_32, List.map_cons, List.map_nil, cond_true, cond_false, aop, aThen, aBlock, argEnv, ev, sput, sputO, binK, binI, unK, builtinK, pickK, Nat.reduceBEq, Nat.reduceAdd, Int.reduceBEq, Int.reduceBNe, Int.reduceLT, aPost, resK, tup, tyf, boxP, newPtr, hv.len, ↓aw_loop_eq]
    have c0 := get_new h (Blk.cells [vint p.1, vint p.2] 52 false)
    have hv1 := hv.grow [Blk.cells [vint p.1, vint p.2] 52 false]
    have hE : Ext (fun _ => False) h (h ++ [Blk.cells [vint p.1, vint p.2] 52 false]) := Ext.app _ _ _
    generalize h ++ [Blk.cells [vint p.1, vint p.2] 52 false] = h1 at c0 hv1 hE ⊢
    refine aws_hide fun Q hQ => ?_
    refine aw_loop (γ := Nat) (fun i => i ≤ ps.length)
      (fun i => ([(0, v), (3, .pointer (some ⟨h.length, 0, none⟩)), (7, vint ps.length), (8, vint i)], h1)) (fun i => ps.length - i) 0 (Nat.zero_le _) (by simp (config := {maxSteps := 2000000}) only [↓aw_region, ↓aw_skip, ↓aw_seq, ↓aw_block, ↓aw_exit, ↓aw_ret, ↓sops_nil, ↓sops_go, ↓dops_nil, ↓dopsX_nil, ↓dopsR_nil, ↓vdn, vup, extr_20, extr_21, extr_30, extr_31, extr_32, List.map_cons, List.map_nil, cond_true, cond_false, aop, aThen, aBlock, argEnv, ev, sput, sputO, binK, binI, unK, builtinK, pickK, Nat.reduceBEq, Nat.reduceAdd, Int.reduceBEq, Int.reduceBNe, Int.reduceLT, aPost, resK, tup, tyf, Int.natCast_zero]) rfl ?_
    intro i hi
    refine aw_hide fun Q2 hQ2 => ?_
    by_cases hin : (i : Int) < ps.length
    · have h1' : i < ps.length := by omega
      simp (config := {maxSteps := 2000000}) only [s98, ↓aw_region, ↓aw_skip, ↓aw_seq, ↓aw_block, ↓aw_exit, ↓aw_ret, ↓sops_nil, ↓sops_go, ↓dops_nil, ↓dopsX_nil, ↓dopsR_nil, ↓vdn, vup, extr_20, extr_21, extr_30, extr_31, extr_32, List.map_cons, List.map_nil, cond_true, cond_false, aop, aThen, aBlock, argEnv, ev, sput, sputO, binK, binI, unK, builtinK, pickK, Nat.reduceBEq, Nat.reduceAdd, Int.reduceBEq, Int.reduceBNe, Int.reduceLT, aPost, resK, tup, tyf, l98_0, hin]
      refine aw_drawX [] (by kernel_rfl) (by kernel_rfl) (by kernel_rfl) (by kernel_rfl) ?_
      have hld : ∀ {K : Value → Prop}, loadK prog h1 52 (elemP v 2 i) K = K (pV (ps.getD i (0, 0))) := fun {K} => hv1.load shp_52 h1' K
      have hd : decide (p = ps.getD i (0, 0)) = false := decide_eq_false (hno i h1')
      simp (config := {maxSteps := 2000000}) only [s98, ↓aw_region, ↓aw_skip, ↓aw_seq, ↓aw_block, ↓aw_exit, ↓aw_ret, ↓sops_nil, ↓sops_go, ↓dops_nil, ↓dopsX_nil, ↓dopsR_nil, ↓vdn, vup, extr_20, extr_21, extr_30, extr_31, extr_32, List.map_cons, List.map_nil, cond_true, cond_false, aop, aThen, aBlock, argEnv, ev, sput, sputO, binK, binI, unK, builtinK, pickK, Nat.reduceBEq, Nat.reduceAdd, Int.reduceBEq, Int.reduceBNe, Int.reduceLT, aPost, resK, tup, tyf, loadP c0, hv1.idx el_46 esz_52 h1', hld, pV, List.toList_toArray, intsOf, Option.map_some, List.length_cons, List.length_nil, Nat.zero_add, hq, pair_eq, hd, add1 (show i < 9223372036854775807 by omega)]
      exact hQ2 _ _ _ ⟨i + 1, by omega, by omega, by simp (config := {maxSteps := 2000000}) only [↓aw_region, ↓aw_skip, ↓aw_seq, ↓aw_block, ↓aw_exit, ↓aw_ret, ↓sops_nil, ↓sops_go, ↓dops_nil, ↓dopsX_nil, ↓dopsR_nil, ↓vdn, vup, extr_20, extr_21, extr_30, extr_31, extr_32, List.map_cons, List.map_nil, cond_true, cond_false, aop, aThen, aBlock, argEnv, ev, sput, sputO, binK, binI, unK, builtinK, pickK, Nat.reduceBEq, Nat.reduceAdd, Int.reduceBEq, Int.reduceBNe, Int.reduceLT, aPost, resK, tup, tyf], rfl⟩
    · obtain rfl : i = ps.length := by omega
      simp (config := {maxSteps := 2000000}) only [s98, ↓aw_region, ↓aw_skip, ↓aw_seq, ↓aw_block, ↓aw_exit, ↓aw_ret, ↓sops_nil, ↓sops_go, ↓dops_nil, ↓dopsX_nil, ↓dopsR_nil, ↓vdn, vup, extr_20, extr_21, extr_30, extr_31, extr_32, List.map_cons, List.map_nil, cond_true, cond_false, aop, aThen, aBlock, argEnv, ev, sput, sputO, binK, binI, unK, builtinK, pickK, Nat.reduceBEq, Nat.reduceAdd, Int.reduceBEq, Int.reduceBNe, Int.reduceLT, aPost, resK, tup, tyf, l98_0, Int.lt_irrefl]
      refine hQ2 _ _ _ (hQ _ _ _ ?_)
      simp (config := {maxSteps := 2000000}) only [s98, ↓aw_region, ↓aw_skip, ↓aw_seq, ↓aw_block, ↓aw_exit, ↓aw_ret, ↓sops_nil, ↓sops_go, ↓dops_nil, ↓dopsX_nil, ↓dopsR_nil, ↓vdn, vup, extr_20, extr_21, extr_30, extr_31, extr_32, List.map_cons, List.map_nil, cond_true, cond_false, aop, aThen, aBlock, argEnv, ev, sput, sputO, binK, binI, unK, builtinK, pickK, Nat.reduceBEq, Nat.reduceAdd, Int.reduceBEq, Int.reduceBNe, Int.reduceLT, aPost, resK, tup, tyf, if_true]
      exact hE
theorem pcontains_call [Tabs prog] {h : Heap} {v : Value} {ps : List (Int × Int)} {p : Int × Int} (hv : PairSl h v ps) (hl : ps.length < 9223372036854775807) : APure prog 77 [v, pV p] h (.bool (ps.contains p)) := by
  refine ACall.forget (Low.bool _) ?_
  refine s77_call (by simp) ?_
  simp (config := {maxSteps := 2000000}) only [s77, ↓aw_region, ↓aw_skip, ↓aw_seq, ↓aw_block, ↓aw_exit, ↓aw_ret, ↓sops_nil, ↓sops_go, ↓dops_nil, ↓dopsX_nil, ↓dopsR_nil, ↓vdn, vup, extr_20, extr_21, extr_30, extr_31, extr_32, List.map_cons, List.map_nil, cond_true, cond_false, aop, aThen, aBlock, argEnv, ev, sput, sputO, binK, binI, unK, builtinK, pickK, Nat.reduceBEq, Nat.reduceAdd, Int.reduceBEq, Int.reduceBNe, Int.reduceLT, aPost, resK, tup, tyf, boxP, newPtr]
  have c0 := get_new h (Blk.cells [vint p.1, vint p.2] 52 false)
  obtain ⟨z, hz, hz2⟩ := pindex_call (p := p) (hv.grow [Blk.cells [vint p.1, vint p.2] 52 false]) hl
  simp (config := {maxSteps := 2000000}) only [s77, ↓aw_region, ↓aw_skip, ↓aw_seq, ↓aw_block, ↓aw_exit, ↓aw_ret, ↓sops_nil, ↓sops_go, ↓dops_nil, ↓dopsX_nil, ↓dopsR_nil, ↓vdn, vup, extr_20, extr_21, extr_30, extr_31, extr_32, List.map_cons, List.map_nil, cond_true, cond_false, aop, aThen, aBlock, argEnv, ev, sput, sputO, binK, binI, unK, builtinK, pickK, Nat.reduceBEq, Nat.reduceAdd, Int.reduceBEq, Int.reduceBNe, Int.reduceLT, aPost, resK, tup, tyf, loadP c0, callK, List.nil_append, List.append_nil, List.toList_toArray, List.cons_append]
  refine hz.mono ?_
  rintro _ h1 ⟨rfl, rfl⟩
  simp (config := {maxSteps := 2000000}) only [s77, ↓aw_region, ↓aw_skip, ↓aw_seq, ↓aw_block, ↓aw_exit, ↓aw_ret, ↓sops_nil, ↓sops_go, ↓dops_nil, ↓dopsX_nil, ↓dopsR_nil, ↓vdn, vup, extr_20, extr_21, extr_30, extr_31, extr_32, List.map_cons, List.map_nil, cond_true, cond_false, aop, aThen, aBlock, argEnv, ev, sput, sputO, binK, binI, unK, builtinK, pickK, Nat.reduceBEq, Nat.reduceAdd, Int.reduceBEq, Int.reduceBNe, Int.reduceLT, aPost, resK, tup, tyf, ge_iff_le, hz2]
  exact Ext.app _ _ _
end Go.Proofs.Tryd.Am

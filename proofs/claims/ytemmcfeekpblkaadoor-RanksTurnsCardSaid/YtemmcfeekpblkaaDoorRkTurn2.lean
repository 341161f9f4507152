/-
  ranks: IsPairs and the reference's Turn.
-/
import Derived.Test.YtemmcfeekpblkaaDoorRkTurn
set_option linter.all false
namespace Go.Proofs.Tryd.Am
open Go.Am
set_option maxRecDepth 100000
set_option maxHeartbeats 1000000

theorem pBox (g : Heap) (p : Int × Int) : ((g ++ [Blk.cells [.int .i64 0, .int .i64 0] 52 false]).set g.length (.cells [vint p.1, vint p.2] 52 false))[g.length]? = some (.cells [vint p.1, vint p.2] 52 false) ∧ Ext (fun _ => False) g ((g ++ [Blk.cells [.int .i64 0, .int .i64 0] 52 false]).set g.length (.cells [vint p.1, vint p.2] 52 false)) ∧
    ∀ {K : Heap → Prop}, storeK prog (g ++ [Blk.cells [.int .i64 0, .int .i64 0] 52 false]) 52 (.pointer (some ⟨g.length, 0, none⟩)) (pV p) K = K ((g ++ [Blk.cells [.int .i64 0, .int .i64 0] 52 false]).set g.length (.cells [vint p.1, vint p.2] 52 false)) :=
  ⟨get_set (by simp) _, ⟨by simp, fun j hj _ => by rw [List.getElem?_set_ne (by omega), List.getElem?_append_left hj]⟩, fun {K} => storeP (get_new _ _) rfl⟩
theorem okPs_no {n : Nat} {ps : List (Int × Int)} {k : Nat} (hk : k < ps.length) (h : okK n ps k = false) : okPs n ps = false := by
  cases h2 : okPs n ps with
  | false => rfl
  | true =>
    rw [okPs, Bool.and_eq_true, List.all_eq_true] at h2
    have := h2.1 k (List.mem_range.2 hk)
    rw [h] at this; cases this

theorem isPairs_call [Tabs prog] {h : Heap} {pv : Value} {n : Nat} {ps : List (Int × Int)} (hp : PairSl h pv ps) (hpl : ps.length < 9223372036854775808) : APure prog 44 [vint n, pv] h (.bool (okPs n ps)) := by
  have hq : EqT prog 52 2 := eqP
  refine ACall.forget (Low.bool _) ?_
  refine s44_call (by simp) ?_
  simp (config := {maxSteps := 2000000}) only [s44, ↓aw_region, ↓aw_skip, ↓aw_seq, ↓aw_block, ↓aw_exit, ↓aw_ret, ↓sops_nil, ↓sops_go, ↓dops_nil, ↓dopsX_nil, ↓dopsR_nil, ↓vdn, vup, extr_20, extr_21, extr_30, extr_31, extr_32, List.map_cons, List.map_nil, cond_true, cond_false, aop, aThen, aBlock, argEnv, ev, sput, sputO, binK, binI, unK, builtinK, pickK, Nat.reduceBEq, Nat.reduceAdd, Int.reduceBEq, Int.reduceBNe, Int.reduceLT, aPost, resK, tup, tyf, hp.len, ↓aw_loop_eq]
  refine aws_hide fun Q hQ => ?_
  refine aw_loop (γ := Nat × Heap) (fun s => s.1 ≤ ps.length ∧ Ext (fun _ => False) h s.2 ∧ ∀ i, i < s.1 → okK n ps i = true)
    (fun s => ([(0, vint n), (1, pv), (9, pv), (10, vint ps.length), (11, vint s.1)], s.2)) (fun s => ps.length - s.1) (0, h) ⟨Nat.zero_le _, Ext.refl _ _, fun _ h => by omega⟩ (by simp (config := {maxSteps := 2000000}) only [↓aw_region, ↓aw_skip, ↓aw_seq, ↓aw_block, ↓aw_exit, ↓aw_ret, ↓sops_nil, ↓sops_go, ↓dops_nil, ↓dopsX_nil, ↓dopsR_nil, ↓vdn, vup, extr_20, extr_21, extr_30, extr_31, extr_32, List.map_cons, List.map_nil, cond_true, cond_false, aop, aThen, aBlock, argEnv, ev, sput, sputO, binK, binI, unK, builtinK, pickK, Nat.reduceBEq, Nat.reduceAdd, Int.reduceBEq, Int.reduceBNe, Int.reduceLT, aPost, resK, tup, tyf, Int.natCast_zero]) rfl ?_
  rintro ⟨k, hq1⟩ ⟨hk, hE, hok⟩
  simp only at hk hE hok
  refine aw_hide fun Q2 hQ2 => ?_
  by_cases hin : (k : Int) < ps.length
  · have hk' : k < ps.length := by omega
    have hpq := hp.ext hE
    obtain ⟨p, hpe⟩ : ∃ p, p = ps.getD k (0, 0) := ⟨_, rfl⟩
    have hld : ∀ {K : Value → Prop}, loadK prog hq1 52 (elemP pv 2 k) K = K (pV p) := fun {K} => by rw [hpe]; exact hpq.load shp_52 hk' K
    obtain ⟨c1, hE2, hst⟩ := pBox hq1 p
    simp only [l44_1]
    refine aw_cut fun N hN => ?_
    simp (config := {maxSteps := 2000000}) only [s44, ↓aw_region, ↓aw_skip, ↓aw_seq, ↓aw_block, ↓aw_exit, ↓aw_ret, ↓sops_nil, ↓sops_go, ↓dops_nil, ↓dopsX_nil, ↓dopsR_nil, ↓vdn, vup, extr_20, extr_21, extr_30, extr_31, extr_32, List.map_cons, List.map_nil, cond_true, cond_false, aop, aThen, aBlock, argEnv, ev, sput, sputO, binK, binI, unK, builtinK, pickK, Nat.reduceBEq, Nat.reduceAdd, Int.reduceBEq, Int.reduceBNe, Int.reduceLT, aPost, resK, tup, tyf, hin]
    refine hN _ _ ?_
    clear hN N
    refine aw_cut fun N hN => ?_
    simp (config := {maxSteps := 2000000}) only [s44, ↓aw_region, ↓aw_skip, ↓aw_seq, ↓aw_block, ↓aw_exit, ↓aw_ret, ↓sops_nil, ↓sops_go, ↓dops_nil, ↓dopsX_nil, ↓dopsR_nil, ↓vdn, vup, extr_20, extr_21, extr_30, extr_31, extr_32, List.map_cons, List.map_nil, cond_true, cond_false, aop, aThen, aBlock, argEnv, ev, sput, sputO, binK, binI, unK, builtinK, pickK, Nat.reduceBEq, Nat.reduceAdd, Int.reduceBEq, Int.reduceBNe, Int.reduceLT, aPost, resK, tup, tyf]
    refine hN _ _ ?_
    clear hN N
    refine aw_cut fun N hN => ?_
    refine aw_cut fun N2 hN2 => ?_
    simp (config := {maxSteps := 2000000}) only [s44, ↓aw_region, ↓aw_skip, ↓aw_seq, ↓aw_block, ↓aw_exit, ↓aw_ret, ↓sops_nil, ↓sops_go, ↓dops_nil, ↓dopsX_nil, ↓dopsR_nil, ↓vdn, vup, extr_20, extr_21, extr_30, extr_31, extr_32, List.map_cons, List.map_nil, cond_true, cond_false, aop, aThen, aBlock, argEnv, ev, sput, sputO, binK, binI, unK, builtinK, pickK, Nat.reduceBEq, Nat.reduceAdd, Int.reduceBEq, Int.reduceBNe, Int.reduceLT, aPost, resK, tup, tyf, hpq.idx el_46 esz_52 hk', hld, allocK, newPtr, zero_52, hst]
    refine hN2 _ _ ?_
    clear hN2 N2
    generalize (hq1 ++ [Blk.cells [.int .i64 0, .int .i64 0] 52 false]).set hq1.length (.cells [vint p.1, vint p.2] 52 false) = h2 at c1 hE2 ⊢
    generalize hq1.length = bp at c1 ⊢
    have hEh := hE.trans hE2
    have hp2 := hp.ext hEh
    by_cases ha : p.1 < 0
    · have hno : okPs n ps = false := okPs_no hk' (by rw [okK, ← hpe, okPr, decide_eq_false (show ¬ 0 ≤ p.1 by omega)]; rfl)
      simp (config := {maxSteps := 2000000}) only [s44, ↓aw_region, ↓aw_skip, ↓aw_seq, ↓aw_block, ↓aw_exit, ↓aw_ret, ↓sops_nil, ↓sops_go, ↓dops_nil, ↓dopsX_nil, ↓dopsR_nil, ↓vdn, vup, extr_20, extr_21, extr_30, extr_31, extr_32, List.map_cons, List.map_nil, cond_true, cond_false, aop, aThen, aBlock, argEnv, ev, sput, sputO, binK, binI, unK, builtinK, pickK, Nat.reduceBEq, Nat.reduceAdd, Int.reduceBEq, Int.reduceBNe, Int.reduceLT, aPost, resK, tup, tyf, pidx0, pl0 c1, ha]
      refine hQ2 _ _ _ (hQ _ _ _ ?_)
      simp (config := {maxSteps := 2000000}) only [s44, ↓aw_region, ↓aw_skip, ↓aw_seq, ↓aw_block, ↓aw_exit, ↓aw_ret, ↓sops_nil, ↓sops_go, ↓dops_nil, ↓dopsX_nil, ↓dopsR_nil, ↓vdn, vup, extr_20, extr_21, extr_30, extr_31, extr_32, List.map_cons, List.map_nil, cond_true, cond_false, aop, aThen, aBlock, argEnv, ev, sput, sputO, binK, binI, unK, builtinK, pickK, Nat.reduceBEq, Nat.reduceAdd, Int.reduceBEq, Int.reduceBNe, Int.reduceLT, aPost, resK, tup, tyf, hno]
      exact hEh
    by_cases hab : p.2 ≤ p.1
    · have hno : okPs n ps = false := okPs_no hk' (by rw [okK, ← hpe, okPr, decide_eq_false (show ¬ p.1 < p.2 by omega), Bool.and_false]; rfl)
      simp (config := {maxSteps := 2000000}) only [s44, ↓aw_region, ↓aw_skip, ↓aw_seq, ↓aw_block, ↓aw_exit, ↓aw_ret, ↓sops_nil, ↓sops_go, ↓dops_nil, ↓dopsX_nil, ↓dopsR_nil, ↓vdn, vup, extr_20, extr_21, extr_30, extr_31, extr_32, List.map_cons, List.map_nil, cond_true, cond_false, aop, aThen, aBlock, argEnv, ev, sput, sputO, binK, binI, unK, builtinK, pickK, Nat.reduceBEq, Nat.reduceAdd, Int.reduceBEq, Int.reduceBNe, Int.reduceLT, aPost, resK, tup, tyf, pidx0, pidx1, pl0 c1, pl1 c1, ha, ge_iff_le, hab]
      refine hQ2 _ _ _ (hQ _ _ _ ?_)
      simp (config := {maxSteps := 2000000}) only [s44, ↓aw_region, ↓aw_skip, ↓aw_seq, ↓aw_block, ↓aw_exit, ↓aw_ret, ↓sops_nil, ↓sops_go, ↓dops_nil, ↓dopsX_nil, ↓dopsR_nil, ↓vdn, vup, extr_20, extr_21, extr_30, extr_31, extr_32, List.map_cons, List.map_nil, cond_true, cond_false, aop, aThen, aBlock, argEnv, ev, sput, sputO, binK, binI, unK, builtinK, pickK, Nat.reduceBEq, Nat.reduceAdd, Int.reduceBEq, Int.reduceBNe, Int.reduceLT, aPost, resK, tup, tyf, hno]
      exact hEh
    by_cases hbb : ((n : Nat) : Int) ≤ p.2
    · have hno : okPs n ps = false := okPs_no hk' (by rw [okK, ← hpe, okPr, decide_eq_false (show ¬ p.2 < n by omega), Bool.and_false]; rfl)
      simp (config := {maxSteps := 2000000}) only [s44, ↓aw_region, ↓aw_skip, ↓aw_seq, ↓aw_block, ↓aw_exit, ↓aw_ret, ↓sops_nil, ↓sops_go, ↓dops_nil, ↓dopsX_nil, ↓dopsR_nil, ↓vdn, vup, extr_20, extr_21, extr_30, extr_31, extr_32, List.map_cons, List.map_nil, cond_true, cond_false, aop, aThen, aBlock, argEnv, ev, sput, sputO, binK, binI, unK, builtinK, pickK, Nat.reduceBEq, Nat.reduceAdd, Int.reduceBEq, Int.reduceBNe, Int.reduceLT, aPost, resK, tup, tyf, pidx0, pidx1, pl0 c1, pl1 c1, ha, ge_iff_le, hab, hbb]
      refine hQ2 _ _ _ (hQ _ _ _ ?_)
      simp (config := {maxSteps := 2000000}) only [s44, ↓aw_region, ↓aw_skip, ↓aw_seq, ↓aw_block, ↓aw_exit, ↓aw_ret, ↓sops_nil, ↓sops_go, ↓dops_nil, ↓dopsX_nil, ↓dopsR_nil, ↓vdn, vup, extr_20, extr_21, extr_30, extr_31, extr_32, List.map_cons, List.map_nil, cond_true, cond_false, aop, aThen, aBlock, argEnv, ev, sput, sputO, binK, binI, unK, builtinK, pickK, Nat.reduceBEq, Nat.reduceAdd, Int.reduceBEq, Int.reduceBNe, Int.reduceLT, aPost, resK, tup, tyf, hno]
      exact hEh
    have hpr : okPr n p = true := by
      rw [okPr, decide_eq_true (show 0 ≤ p.1 by omega), decide_eq_true (show p.1 < p.2 by omega), decide_eq_true (show p.2 < n by omega)]; rfl
    refine aw_cut fun N3 hN3 => ?_
    simp (config := {maxSteps := 2000000}) only [s44, ↓aw_region, ↓aw_skip, ↓aw_seq, ↓aw_block, ↓aw_exit, ↓aw_ret, ↓sops_nil, ↓sops_go, ↓dops_nil, ↓dopsX_nil, ↓dopsR_nil, ↓vdn, vup, extr_20, extr_21, extr_30, extr_31, extr_32, List.map_cons, List.map_nil, cond_true, cond_false, aop, aThen, aBlock, argEnv, ev, sput, sputO, binK, binI, unK, builtinK, pickK, Nat.reduceBEq, Nat.reduceAdd, Int.reduceBEq, Int.reduceBNe, Int.reduceLT, aPost, resK, tup, tyf, pidx0, pidx1, pl0 c1, pl1 c1, ha, ge_iff_le, hab, hbb]
    refine hN3 _ _ ?_
    clear hN3 N3
    simp (config := {maxSteps := 2000000}) only [s44, ↓aw_region, ↓aw_skip, ↓aw_seq, ↓aw_block, ↓aw_exit, ↓aw_ret, ↓sops_nil, ↓sops_go, ↓dops_nil, ↓dopsX_nil, ↓dopsR_nil, ↓vdn, vup, extr_20, extr_21, extr_30, extr_31, extr_32, List.map_cons, List.map_nil, cond_true, cond_false, aop, aThen, aBlock, argEnv, ev, sput, sputO, binK, binI, unK, builtinK, pickK, Nat.reduceBEq, Nat.reduceAdd, Int.reduceBEq, Int.reduceBNe, Int.reduceLT, aPost, resK, tup, tyf, Option.map_none, Option.map_some]
    refine hp2.pre el_46 esz_52 (m := k) (by omega) ?_
    intro tv htv
    have htl : (ps.take k).length = k := by simp; omega
    simp (config := {maxSteps := 2000000}) only [s44, ↓aw_region, ↓aw_skip, ↓aw_seq, ↓aw_block, ↓aw_exit, ↓aw_ret, ↓sops_nil, ↓sops_go, ↓dops_nil, ↓dopsX_nil, ↓dopsR_nil, ↓vdn, vup, extr_20, extr_21, extr_30, extr_31, extr_32, List.map_cons, List.map_nil, cond_true, cond_false, aop, aThen, aBlock, argEnv, ev, sput, sputO, binK, binI, unK, builtinK, pickK, Nat.reduceBEq, Nat.reduceAdd, Int.reduceBEq, Int.reduceBNe, Int.reduceLT, aPost, resK, tup, tyf, htv.len, htl, ↓aw_loop_eq]
    refine aws_hide fun Q3 hQ3 => ?_
    refine aw_loop (γ := Nat × Heap) (fun s => s.1 ≤ k ∧ Ext (fun _ => False) h2 s.2 ∧ ∀ q, q < s.1 → ¬ p = (ps.take k).getD q (0, 0))
      (fun s => ([(0, vint n), (1, pv), (5, vint k), (6, .pointer (some ⟨bp, 0, none⟩)), (9, pv), (10, vint ps.length), (11, vint k), (34, tv), (35, vint k), (36, vint s.1)], s.2)) (fun s => k - s.1) (0, h2) ⟨Nat.zero_le _, Ext.refl _ _, fun _ h => by omega⟩ (by simp (config := {maxSteps := 2000000}) only [↓aw_region, ↓aw_skip, ↓aw_seq, ↓aw_block, ↓aw_exit, ↓aw_ret, ↓sops_nil, ↓sops_go, ↓dops_nil, ↓dopsX_nil, ↓dopsR_nil, ↓vdn, vup, extr_20, extr_21, extr_30, extr_31, extr_32, List.map_cons, List.map_nil, cond_true, cond_false, aop, aThen, aBlock, argEnv, ev, sput, sputO, binK, binI, unK, builtinK, pickK, Nat.reduceBEq, Nat.reduceAdd, Int.reduceBEq, Int.reduceBNe, Int.reduceLT, aPost, resK, tup, tyf, Int.natCast_zero]) rfl ?_
    rintro ⟨i, h3⟩ ⟨hi, hE3, hne⟩
    simp only at hi hE3 hne
    refine aw_hide fun Q4 hQ4 => ?_
    by_cases hik : (i : Int) < (k : Int)
    · have hi' : i < (ps.take k).length := by omega
      have ht3 := htv.ext hE3
      have c3 := (hE3.2 _ (get_lt c1) id).trans c1
      obtain ⟨q, hqe⟩ : ∃ q, q = (ps.take k).getD i (0, 0) := ⟨_, rfl⟩
      have hld2 : ∀ {K : Value → Prop}, loadK prog h3 52 (elemP tv 2 i) K = K (pV q) := fun {K} => by rw [hqe]; exact ht3.load shp_52 hi' K
      obtain ⟨c4, hE4, hst4⟩ := pBox h3 q
      simp (config := {maxSteps := 2000000}) only [s44, ↓aw_region, ↓aw_skip, ↓aw_seq, ↓aw_block, ↓aw_exit, ↓aw_ret, ↓sops_nil, ↓sops_go, ↓dops_nil, ↓dopsX_nil, ↓dopsR_nil, ↓vdn, vup, extr_20, extr_21, extr_30, extr_31, extr_32, List.map_cons, List.map_nil, cond_true, cond_false, aop, aThen, aBlock, argEnv, ev, sput, sputO, binK, binI, unK, builtinK, pickK, Nat.reduceBEq, Nat.reduceAdd, Int.reduceBEq, Int.reduceBNe, Int.reduceLT, aPost, resK, tup, tyf, l44_0, hik, ht3.idx el_46 esz_52 hi', hld2, allocK, newPtr, zero_52, hst4]
      have c5 := (hE4.2 _ (get_lt c3) id).trans c3
      generalize (h3 ++ [Blk.cells [.int .i64 0, .int .i64 0] 52 false]).set h3.length (.cells [vint q.1, vint q.2] 52 false) = h4 at c4 c5 hE4 ⊢
      generalize h3.length = bq at c4 ⊢
      by_cases hpq2 : p = q
      · have hd : decide (p = q) = true := decide_eq_true hpq2
        have hno : okPs n ps = false := okPs_no hk' (by
          have hmm : p ∈ ps.take k := by
            rw [hpq2, hqe, List.getD, List.getElem?_eq_getElem hi']; exact List.getElem_mem _
          have hm : (ps.take k).contains p = true := List.contains_iff_mem.2 hmm
          rw [okK, ← hpe, hm, Bool.not_true, Bool.and_false])
        simp (config := {maxSteps := 2000000}) only [s44, ↓aw_region, ↓aw_skip, ↓aw_seq, ↓aw_block, ↓aw_exit, ↓aw_ret, ↓sops_nil, ↓sops_go, ↓dops_nil, ↓dopsX_nil, ↓dopsR_nil, ↓vdn, vup, extr_20, extr_21, extr_30, extr_31, extr_32, List.map_cons, List.map_nil, cond_true, cond_false, aop, aThen, aBlock, argEnv, ev, sput, sputO, binK, binI, unK, builtinK, pickK, Nat.reduceBEq, Nat.reduceAdd, Int.reduceBEq, Int.reduceBNe, Int.reduceLT, aPost, resK, tup, tyf, loadP c5, loadP c4, pV, List.toList_toArray, intsOf, Option.map_some, List.length_cons, List.length_nil, Nat.zero_add, hq, pair_eq, hd]
        refine hQ4 _ _ _ (hQ3 _ _ _ ?_)
        simp (config := {maxSteps := 2000000}) only [s44, ↓aw_region, ↓aw_skip, ↓aw_seq, ↓aw_block, ↓aw_exit, ↓aw_ret, ↓sops_nil, ↓sops_go, ↓dops_nil, ↓dopsX_nil, ↓dopsR_nil, ↓vdn, vup, extr_20, extr_21, extr_30, extr_31, extr_32, List.map_cons, List.map_nil, cond_true, cond_false, aop, aThen, aBlock, argEnv, ev, sput, sputO, binK, binI, unK, builtinK, pickK, Nat.reduceBEq, Nat.reduceAdd, Int.reduceBEq, Int.reduceBNe, Int.reduceLT, aPost, resK, tup, tyf]
        refine hQ2 _ _ _ (hQ _ _ _ ?_)
        simp (config := {maxSteps := 2000000}) only [s44, ↓aw_region, ↓aw_skip, ↓aw_seq, ↓aw_block, ↓aw_exit, ↓aw_ret, ↓sops_nil, ↓sops_go, ↓dops_nil, ↓dopsX_nil, ↓dopsR_nil, ↓vdn, vup, extr_20, extr_21, extr_30, extr_31, extr_32, List.map_cons, List.map_nil, cond_true, cond_false, aop, aThen, aBlock, argEnv, ev, sput, sputO, binK, binI, unK, builtinK, pickK, Nat.reduceBEq, Nat.reduceAdd, Int.reduceBEq, Int.reduceBNe, Int.reduceLT, aPost, resK, tup, tyf, hno]
        exact hEh.trans (hE3.trans hE4)
      · have hd : decide (p = q) = false := decide_eq_false hpq2
        simp (config := {maxSteps := 2000000}) only [s44, ↓aw_region, ↓aw_skip, ↓aw_seq, ↓aw_block, ↓aw_exit, ↓aw_ret, ↓sops_nil, ↓sops_go, ↓dops_nil, ↓dopsX_nil, ↓dopsR_nil, ↓vdn, vup, extr_20, extr_21, extr_30, extr_31, extr_32, List.map_cons, List.map_nil, cond_true, cond_false, aop, aThen, aBlock, argEnv, ev, sput, sputO, binK, binI, unK, builtinK, pickK, Nat.reduceBEq, Nat.reduceAdd, Int.reduceBEq, Int.reduceBNe, Int.reduceLT, aPost, resK, tup, tyf, loadP c5, loadP c4, pV, List.toList_toArray, intsOf, Option.map_some, List.length_cons, List.length_nil, Nat.zero_add, hq, pair_eq, hd, add1 (show i < 9223372036854775807 by omega)]
        refine hQ4 _ _ _ ⟨(i + 1, h4), ⟨by simp only; omega, hE3.trans hE4, fun q' hq' => ?_⟩, by simp only; omega, by simp (config := {maxSteps := 2000000}) only [↓aw_region, ↓aw_skip, ↓aw_seq, ↓aw_block, ↓aw_exit, ↓aw_ret, ↓sops_nil, ↓sops_go, ↓dops_nil, ↓dopsX_nil, ↓dopsR_nil, ↓vdn, vup, extr_20, extr_21, extr_30, extr_31, extr_32, List.map_cons, List.map_nil, cond_true, cond_false, aop, aThen, aBlock, argEnv, ev, sput, sputO, binK, binI, unK, builtinK, pickK, Nat.reduceBEq, Nat.reduceAdd, Int.reduceBEq, Int.reduceBNe, Int.reduceLT, aPost, resK, tup, tyf], rfl⟩
        simp only at hq'
        by_cases hqi : q' = i
        · rw [hqi, ← hqe]; exact hpq2
        · exact hne q' (by omega)
    · obtain rfl : i = k := by omega
      simp (config := {maxSteps := 2000000}) only [s44, ↓aw_region, ↓aw_skip, ↓aw_seq, ↓aw_block, ↓aw_exit, ↓aw_ret, ↓sops_nil, ↓sops_go, ↓dops_nil, ↓dopsX_nil, ↓dopsR_nil, ↓vdn, vup, extr_20, extr_21, extr_30, extr_31, extr_32, List.map_cons, List.map_nil, cond_true, cond_false, aop, aThen, aBlock, argEnv, ev, sput, sputO, binK, binI, unK, builtinK, pickK, Nat.reduceBEq, Nat.reduceAdd, Int.reduceBEq, Int.reduceBNe, Int.reduceLT, aPost, resK, tup, tyf, l44_0, Int.lt_irrefl]
      refine hQ4 _ _ _ (hQ3 _ _ _ ?_)
      simp (config := {maxSteps := 2000000}) only [s44, ↓aw_region, ↓aw_skip, ↓aw_seq, ↓aw_block, ↓aw_exit, ↓aw_ret, ↓sops_nil, ↓sops_go, ↓dops_nil, ↓dopsX_nil, ↓dopsR_nil, ↓vdn, vup, extr_20, extr_21, extr_30, extr_31, extr_32, List.map_cons, List.map_nil, cond_true, cond_false, aop, aThen, aBlock, argEnv, ev, sput, sputO, binK, binI, unK, builtinK, pickK, Nat.reduceBEq, Nat.reduceAdd, Int.reduceBEq, Int.reduceBNe, Int.reduceLT, aPost, resK, tup, tyf, if_true]
      refine hN _ _ ?_
      simp (config := {maxSteps := 2000000}) only [s44, ↓aw_region, ↓aw_skip, ↓aw_seq, ↓aw_block, ↓aw_exit, ↓aw_ret, ↓sops_nil, ↓sops_go, ↓dops_nil, ↓dopsX_nil, ↓dopsR_nil, ↓vdn, vup, extr_20, extr_21, extr_30, extr_31, extr_32, List.map_cons, List.map_nil, cond_true, cond_false, aop, aThen, aBlock, argEnv, ev, sput, sputO, binK, binI, unK, builtinK, pickK, Nat.reduceBEq, Nat.reduceAdd, Int.reduceBEq, Int.reduceBNe, Int.reduceLT, aPost, resK, tup, tyf, add1 (show i < 9223372036854775807 by omega)]
      have hyes : okK n ps i = true := by
        have hct : (ps.take i).contains p = false := by
          cases hc : (ps.take i).contains p with
          | false => rfl
          | true =>
            have hm : p ∈ ps.take i := by simpa using hc
            obtain ⟨q, hq', hqe⟩ := List.mem_iff_getElem.1 hm
            exact absurd (by rw [List.getD, List.getElem?_eq_getElem hq']; exact hqe.symm) (hne q (by omega))
        rw [okK, ← hpe, hct, hpr]; rfl
      refine hQ2 _ _ _ ⟨(i + 1, h3), ⟨by simp only; omega, hEh.trans hE3, fun q hq' => ?_⟩, by simp only; omega, by simp (config := {maxSteps := 2000000}) only [↓aw_region, ↓aw_skip, ↓aw_seq, ↓aw_block, ↓aw_exit, ↓aw_ret, ↓sops_nil, ↓sops_go, ↓dops_nil, ↓dopsX_nil, ↓dopsR_nil, ↓vdn, vup, extr_20, extr_21, extr_30, extr_31, extr_32, List.map_cons, List.map_nil, cond_true, cond_false, aop, aThen, aBlock, argEnv, ev, sput, sputO, binK, binI, unK, builtinK, pickK, Nat.reduceBEq, Nat.reduceAdd, Int.reduceBEq, Int.reduceBNe, Int.reduceLT, aPost, resK, tup, tyf], rfl⟩
      simp only at hq'
      by_cases hqk : q = i
      · rw [hqk]; exact hyes
      · exact hok q (by omega)
  · obtain rfl : k = ps.length := by omega
    by_cases h28 : ps.length ≤ 28
    · have hle : ((ps.length : Nat) : Int) ≤ 28 := by omega
      have hyes : okPs n ps = true := by
        rw [okPs, Bool.and_eq_true, List.all_eq_true, decide_eq_true_eq]
        exact ⟨fun i hi => hok i (List.mem_range.1 hi), h28⟩
      simp (config := {maxSteps := 2000000}) only [s44, ↓aw_region, ↓aw_skip, ↓aw_seq, ↓aw_block, ↓aw_exit, ↓aw_ret, ↓sops_nil, ↓sops_go, ↓dops_nil, ↓dopsX_nil, ↓dopsR_nil, ↓vdn, vup, extr_20, extr_21, extr_30, extr_31, extr_32, List.map_cons, List.map_nil, cond_true, cond_false, aop, aThen, aBlock, argEnv, ev, sput, sputO, binK, binI, unK, builtinK, pickK, Nat.reduceBEq, Nat.reduceAdd, Int.reduceBEq, Int.reduceBNe, Int.reduceLT, aPost, resK, tup, tyf, l44_1, Int.lt_irrefl]
      refine hQ2 _ _ _ (hQ _ _ _ ?_)
      simp (config := {maxSteps := 2000000}) only [s44, ↓aw_region, ↓aw_skip, ↓aw_seq, ↓aw_block, ↓aw_exit, ↓aw_ret, ↓sops_nil, ↓sops_go, ↓dops_nil, ↓dopsX_nil, ↓dopsR_nil, ↓vdn, vup, extr_20, extr_21, extr_30, extr_31, extr_32, List.map_cons, List.map_nil, cond_true, cond_false, aop, aThen, aBlock, argEnv, ev, sput, sputO, binK, binI, unK, builtinK, pickK, Nat.reduceBEq, Nat.reduceAdd, Int.reduceBEq, Int.reduceBNe, Int.reduceLT, aPost, resK, tup, tyf, if_true, hp.len, hle, hyes]
      exact hE
    · have hle : ¬ ((ps.length : Nat) : Int) ≤ 28 := by omega
      have hno : okPs n ps = false := by rw [okPs, decide_eq_false h28, Bool.and_false]
      simp (config := {maxSteps := 2000000}) only [s44, ↓aw_region, ↓aw_skip, ↓aw_seq, ↓aw_block, ↓aw_exit, ↓aw_ret, ↓sops_nil, ↓sops_go, ↓dops_nil, ↓dopsX_nil, ↓dopsR_nil, ↓vdn, vup, extr_20, extr_21, extr_30, extr_31, extr_32, List.map_cons, List.map_nil, cond_true, cond_false, aop, aThen, aBlock, argEnv, ev, sput, sputO, binK, binI, unK, builtinK, pickK, Nat.reduceBEq, Nat.reduceAdd, Int.reduceBEq, Int.reduceBNe, Int.reduceLT, aPost, resK, tup, tyf, l44_1, Int.lt_irrefl]
      refine hQ2 _ _ _ (hQ _ _ _ ?_)
      simp (config := {maxSteps := 2000000}) only [s44, ↓aw_region, ↓aw_skip, ↓aw_seq, ↓aw_block, ↓aw_exit, ↓aw_ret, ↓sops_nil, ↓sops_go, ↓dops_nil, ↓dopsX_nil, ↓dopsR_nil, ↓vdn, vup, extr_20, extr_21, extr_30, extr_31, extr_32, List.map_cons, List.map_nil, cond_true, cond_false, aop, aThen, aBlock, argEnv, ev, sput, sputO, binK, binI, unK, builtinK, pickK, Nat.reduceBEq, Nat.reduceAdd, Int.reduceBEq, Int.reduceBNe, Int.reduceLT, aPost, resK, tup, tyf, if_true, hp.len, hle, hno]
      exact hE

theorem rturn_call [Tabs prog] {h : Heap} {v pv : Value} {xs : List Int} {ps : List (Int × Int)} (hv : IntSl h v xs) (hp : PairSl h pv ps) (ht : trn xs = true) (hok : okPs xs.length ps = true) : ACall prog 45 [v, pv] h fun r h' => Ext (fun _ => False) h h' ∧ IntSl h' r (turnTo xs ps ps.length) := by
  have hlen := trn_len ht
  have hne : xs ≠ [] := by rintro rfl; simp at hlen
  have hsm0 := trn_sm ht
  rw [okPs, Bool.and_eq_true, List.all_eq_true, decide_eq_true_eq] at hok
  have hpr : ∀ i, i < ps.length → okPr xs.length (ps.getD i (0, 0)) = true := fun i hi => by
    have := hok.1 i (List.mem_range.2 hi)
    rw [okK, Bool.and_eq_true] at this
    exact this.1
  refine s45_call (by simp) ?_
  simp only [s45]
  refine aw_cut fun N hN => ?_
  simp (config := {maxSteps := 2000000}) only [s45, ↓aw_region, ↓aw_skip, ↓aw_seq, ↓aw_block, ↓aw_exit, ↓aw_ret, ↓sops_nil, ↓sops_go, ↓dops_nil, ↓dopsX_nil, ↓dopsR_nil, ↓vdn, vup, extr_20, extr_21, extr_30, extr_31, extr_32, List.map_cons, List.map_nil, cond_true, cond_false, aop, aThen, aBlock, argEnv, ev, sput, sputO, binK, binI, unK, builtinK, pickK, Nat.reduceBEq, Nat.reduceAdd, Int.reduceBEq, Int.reduceBNe, Int.reduceLT, aPost, resK, tup, tyf]
  refine hN _ _ ?_
  clear hN N
  refine aw_cut fun N hN => ?_
  simp (config := {maxSteps := 2000000}) only [s45, ↓aw_region, ↓aw_skip, ↓aw_seq, ↓aw_block, ↓aw_exit, ↓aw_ret, ↓sops_nil, ↓sops_go, ↓dops_nil, ↓dopsX_nil, ↓dopsR_nil, ↓vdn, vup, extr_20, extr_21, extr_30, extr_31, extr_32, List.map_cons, List.map_nil, cond_true, cond_false, aop, aThen, aBlock, argEnv, ev, sput, sputO, binK, binI, unK, builtinK, pickK, Nat.reduceBEq, Nat.reduceAdd, Int.reduceBEq, Int.reduceBNe, Int.reduceLT, aPost, resK, tup, tyf, List.toList_toArray, lit0I]
  refine appFresh hv hne (by omega) fun r h1 hf => ?_
  obtain ⟨b, rfl, hb1, hbl, hE1⟩ := hf
  refine hN _ _ ?_
  clear hN N
  simp (config := {maxSteps := 2000000}) only [s45, ↓aw_region, ↓aw_skip, ↓aw_seq, ↓aw_block, ↓aw_exit, ↓aw_ret, ↓sops_nil, ↓sops_go, ↓dops_nil, ↓dopsX_nil, ↓dopsR_nil, ↓vdn, vup, extr_20, extr_21, extr_30, extr_31, extr_32, List.map_cons, List.map_nil, cond_true, cond_false, aop, aThen, aBlock, argEnv, ev, sput, sputO, binK, binI, unK, builtinK, pickK, Nat.reduceBEq, Nat.reduceAdd, Int.reduceBEq, Int.reduceBNe, Int.reduceLT, aPost, resK, tup, tyf, hp.len, ↓aw_loop_eq]
  refine aws_hide fun Q hQ => ?_
  refine aw_loop (γ := Nat × Heap) (fun s => s.1 ≤ ps.length ∧ s.2[b]? = some (.ints (turnTo xs ps s.1) 3 false) ∧ Ext (fun _ => False) h s.2)
    (fun s => ([(0, v), (1, pv), (5, .slice (some ⟨b, 0, some 0⟩) xs.length xs.length), (11, pv), (12, vint ps.length), (13, vint s.1)], s.2)) (fun s => ps.length - s.1) (0, h1) ⟨Nat.zero_le _, hb1, hE1⟩ (by simp (config := {maxSteps := 2000000}) only [↓aw_region, ↓aw_skip, ↓aw_seq, ↓aw_block, ↓aw_exit, ↓aw_ret, ↓sops_nil, ↓sops_go, ↓dops_nil, ↓dopsX_nil, ↓dopsR_nil, ↓vdn, vup, extr_20, extr_21, extr_30, extr_31, extr_32, List.map_cons, List.map_nil, cond_true, cond_false, aop, aThen, aBlock, argEnv, ev, sput, sputO, binK, binI, unK, builtinK, pickK, Nat.reduceBEq, Nat.reduceAdd, Int.reduceBEq, Int.reduceBNe, Int.reduceLT, aPost, resK, tup, tyf, Int.natCast_zero]) rfl ?_
  rintro ⟨k, hq⟩ ⟨hk, hbq, hE⟩
  simp only at hk hbq hE
  refine aw_hide fun Q2 hQ2 => ?_
  by_cases hin : (k : Int) < ps.length
  · have hk' : k < ps.length := by omega
    have hpq := hp.ext hE
    obtain ⟨p, hpe⟩ : ∃ p, p = ps.getD k (0, 0) := ⟨_, rfl⟩
    have hld : ∀ {K : Value → Prop}, loadK prog hq 52 (elemP pv 2 k) K = K (pV p) := fun {K} => by rw [hpe]; exact hpq.load shp_52 hk' K
    obtain ⟨c1, hE2, hst⟩ := pBox hq p
    have hb2 := (hE2.2 _ (get_lt hbq) id).trans hbq
    have hbn : b ≠ hq.length := by have := get_lt hbq; omega
    simp only [l45_0]
    simp (config := {maxSteps := 2000000}) only [s45, ↓aw_region, ↓aw_skip, ↓aw_seq, ↓aw_block, ↓aw_exit, ↓aw_ret, ↓sops_nil, ↓sops_go, ↓dops_nil, ↓dopsX_nil, ↓dopsR_nil, ↓vdn, vup, extr_20, extr_21, extr_30, extr_31, extr_32, List.map_cons, List.map_nil, cond_true, cond_false, aop, aThen, aBlock, argEnv, ev, sput, sputO, binK, binI, unK, builtinK, pickK, Nat.reduceBEq, Nat.reduceAdd, Int.reduceBEq, Int.reduceBNe, Int.reduceLT, aPost, resK, tup, tyf, hin, hpq.idx el_46 esz_52 hk', hld, allocK, newPtr, zero_52, hst]
    generalize (hq ++ [Blk.cells [.int .i64 0, .int .i64 0] 52 false]).set hq.length (.cells [vint p.1, vint p.2] 52 false) = h2 at c1 hE2 hb2 ⊢
    generalize hq.length = bp at c1 hbn ⊢
    have hEh := hE.trans hE2
    have hprk := hpr k hk'
    rw [← hpe] at hprk
    obtain ⟨i, j, rfl, hij, hj⟩ := okPr_nat hprk
    have hi : i < xs.length := by omega
    have hsm := turn_sm (ps := ps) hsm0 hlen.2 k fun i hi => hpr i (by omega)
    have hstep : turnTo xs ps (k + 1) = half (half (turnTo xs ps k) i j) j i := by rw [turnTo, ← hpe]; rfl
    generalize turnTo xs ps k = t at hsm hb2 hstep ⊢
    have hit : i < t.length := by rw [hsm.1]; exact hi
    have x1 := xor_half hsm hi hj hlen.2
    have hsm2 := half_sm hsm hi hj hlen.2
    have x2 := xor_half hsm2 hj hi hlen.2
    refine aw_drawX [] (by kernel_rfl) (by kernel_rfl) (by kernel_rfl) (by kernel_rfl) ?_
    simp (config := {maxSteps := 2000000}) only [s45, ↓aw_region, ↓aw_skip, ↓aw_seq, ↓aw_block, ↓aw_exit, ↓aw_ret, ↓sops_nil, ↓sops_go, ↓dops_nil, ↓dopsX_nil, ↓dopsR_nil, ↓vdn, vup, extr_20, extr_21, extr_30, extr_31, extr_32, List.map_cons, List.map_nil, cond_true, cond_false, aop, aThen, aBlock, argEnv, ev, sput, sputO, binK, binI, unK, builtinK, pickK, Nat.reduceBEq, Nat.reduceAdd, Int.reduceBEq, Int.reduceBNe, Int.reduceLT, aPost, resK, tup, tyf, pidx0, pidx1, pl0 c1, pl1 c1, idxW hi, loadX hb2 hit, x1, storeX hb2 hit]
    have hb3 : (h2.set b (.ints (t.set i (xI (t.getD i 0) j)) 3 false))[b]? = some (.ints (half t i j) 3 false) := get_set (get_lt hb2) _
    have c3 : (h2.set b (.ints (t.set i (xI (t.getD i 0) j)) 3 false))[bp]? = some (.cells [vint (i : Nat), vint (j : Nat)] 52 false) := by rw [List.getElem?_set_ne hbn]; exact c1
    have hE3 : Ext (fun _ => False) h (h2.set b (.ints (t.set i (xI (t.getD i 0) j)) 3 false)) := ⟨by simp; exact hEh.1, fun q hq _ => by rw [List.getElem?_set_ne (by omega)]; exact hEh.2 q hq id⟩
    generalize h2.set b (.ints (t.set i (xI (t.getD i 0) j)) 3 false) = h3 at hb3 c3 hE3 ⊢
    have hjt : j < (half t i j).length := by rw [hsm2.1]; exact hj
    refine aw_drawX [] (by kernel_rfl) (by kernel_rfl) (by kernel_rfl) (by kernel_rfl) ?_
    simp (config := {maxSteps := 2000000}) only [s45, ↓aw_region, ↓aw_skip, ↓aw_seq, ↓aw_block, ↓aw_exit, ↓aw_ret, ↓sops_nil, ↓sops_go, ↓dops_nil, ↓dopsX_nil, ↓dopsR_nil, ↓vdn, vup, extr_20, extr_21, extr_30, extr_31, extr_32, List.map_cons, List.map_nil, cond_true, cond_false, aop, aThen, aBlock, argEnv, ev, sput, sputO, binK, binI, unK, builtinK, pickK, Nat.reduceBEq, Nat.reduceAdd, Int.reduceBEq, Int.reduceBNe, Int.reduceLT, aPost, resK, tup, tyf, pidx0, pidx1, pl0 c3, pl1 c3, idxW hj, loadX hb3 hjt, x2, storeX hb3 hjt]
    have hb4 : (h3.set b (.ints ((half t i j).set j (xI ((half t i j).getD j 0) i)) 3 false))[b]? = some (.ints (half (half t i j) j i) 3 false) := get_set (get_lt hb3) _
    have hE4 : Ext (fun _ => False) h (h3.set b (.ints ((half t i j).set j (xI ((half t i j).getD j 0) i)) 3 false)) := ⟨by simp; exact hE3.1, fun q hq _ => by rw [List.getElem?_set_ne (by omega)]; exact hE3.2 q hq id⟩
    generalize h3.set b (.ints ((half t i j).set j (xI ((half t i j).getD j 0) i)) 3 false) = h4 at hb4 hE4 ⊢
    simp (config := {maxSteps := 2000000}) only [s45, ↓aw_region, ↓aw_skip, ↓aw_seq, ↓aw_block, ↓aw_exit, ↓aw_ret, ↓sops_nil, ↓sops_go, ↓dops_nil, ↓dopsX_nil, ↓dopsR_nil, ↓vdn, vup, extr_20, extr_21, extr_30, extr_31, extr_32, List.map_cons, List.map_nil, cond_true, cond_false, aop, aThen, aBlock, argEnv, ev, sput, sputO, binK, binI, unK, builtinK, pickK, Nat.reduceBEq, Nat.reduceAdd, Int.reduceBEq, Int.reduceBNe, Int.reduceLT, aPost, resK, tup, tyf, add1 (show k < 9223372036854775807 by omega)]
    exact hQ2 _ _ _ ⟨(k + 1, h4), ⟨by simp only; omega, by simp only; rw [hstep]; exact hb4, hE4⟩, by simp only; omega, by simp (config := {maxSteps := 2000000}) only [↓aw_region, ↓aw_skip, ↓aw_seq, ↓aw_block, ↓aw_exit, ↓aw_ret, ↓sops_nil, ↓sops_go, ↓dops_nil, ↓dopsX_nil, ↓dopsR_nil, ↓vdn, vup, extr_20, extr_21, extr_30, extr_31, extr_32, List.map_cons, List.map_nil, cond_true, cond_false, aop, aThen, aBlock, argEnv, ev, sput, sputO, binK, binI, unK, builtinK, pickK, Nat.reduceBEq, Nat.reduceAdd, Int.reduceBEq, Int.reduceBNe, Int.reduceLT, aPost, resK, tup, tyf], rfl⟩
  · obtain rfl : k = ps.length := by omega
    simp (config := {maxSteps := 2000000}) only [s45, ↓aw_region, ↓aw_skip, ↓aw_seq, ↓aw_block, ↓aw_exit, ↓aw_ret, ↓sops_nil, ↓sops_go, ↓dops_nil, ↓dopsX_nil, ↓dopsR_nil, ↓vdn, vup, extr_20, extr_21, extr_30, extr_31, extr_32, List.map_cons, List.map_nil, cond_true, cond_false, aop, aThen, aBlock, argEnv, ev, sput, sputO, binK, binI, unK, builtinK, pickK, Nat.reduceBEq, Nat.reduceAdd, Int.reduceBEq, Int.reduceBNe, Int.reduceLT, aPost, resK, tup, tyf, l45_0, Int.lt_irrefl]
    refine hQ2 _ _ _ (hQ _ _ _ ?_)
    simp (config := {maxSteps := 2000000}) only [s45, ↓aw_region, ↓aw_skip, ↓aw_seq, ↓aw_block, ↓aw_exit, ↓aw_ret, ↓sops_nil, ↓sops_go, ↓dops_nil, ↓dopsX_nil, ↓dopsR_nil, ↓vdn, vup, extr_20, extr_21, extr_30, extr_31, extr_32, List.map_cons, List.map_nil, cond_true, cond_false, aop, aThen, aBlock, argEnv, ev, sput, sputO, binK, binI, unK, builtinK, pickK, Nat.reduceBEq, Nat.reduceAdd, Int.reduceBEq, Int.reduceBNe, Int.reduceLT, aPost, resK, tup, tyf, if_true]
    have hsm := turn_sm (ps := ps) hsm0 hlen.2 ps.length hpr
    refine ⟨hE, .inr ⟨b, 0, some 0, xs.length, (turnTo xs ps ps.length).map vint, 3, false, by rw [hsm.1], by rw [hsm.1]; exact Nat.le_refl _, by simp [view, hbq, Blk.view], fun i hi => ?_⟩⟩
    simp [List.getD, hi]
end Go.Proofs.Tryd.Am

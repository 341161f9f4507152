/-
  ranks: the reference's Clear.
-/
import Derived.Test.YtemmcfeekpblkaaDoorRkRCyc
import Derived.Test.YtemmcfeekpblkaaDoorFnE
set_option linter.all false
namespace Go.Proofs.Tryd.Am
open Go.Am
set_option maxRecDepth 100000
set_option maxHeartbeats 1000000

theorem size79_call [Tabs prog] {h : Heap} {s : Nat} (hs : s < 9223372036854775808) : APure prog 79 [vint s] h (vint ((Am.bits s).length : Nat)) := by
  refine s79_call (by simp) ?_
  simp (config := {maxSteps := 2000000}) only [s79, ↓aw_region, ↓aw_skip, ↓aw_seq, ↓aw_block, ↓aw_exit, ↓aw_ret, ↓sops_nil, ↓sops_go, ↓dops_nil, ↓dopsX_nil, ↓dopsR_nil, ↓vdn, vup, extr_20, extr_21, extr_30, extr_31, extr_32, List.map_cons, List.map_nil, cond_true, cond_false, aop, aThen, aBlock, argEnv, ev, sput, sputO, binK, binI, unK, builtinK, pickK, Nat.reduceBEq, Nat.reduceAdd, Int.reduceBEq, Int.reduceBNe, Int.reduceLT, aPost, resK, tup, tyf, ↓aw_loop_eq]
  refine aws_hide fun Q hQ => ?_
  refine aw_loop (γ := Nat × Nat) (fun t => t.1 < 9223372036854775808 ∧ t.2 + (Am.bits t.1).length = (Am.bits s).length)
    (fun t => ([(0, vint t.1), (3, vint t.2)], h)) (fun t => t.1) (s, 0) ⟨hs, by simp⟩ (by simp (config := {maxSteps := 2000000}) only [↓aw_region, ↓aw_skip, ↓aw_seq, ↓aw_block, ↓aw_exit, ↓aw_ret, ↓sops_nil, ↓sops_go, ↓dops_nil, ↓dopsX_nil, ↓dopsR_nil, ↓vdn, vup, extr_20, extr_21, extr_30, extr_31, extr_32, List.map_cons, List.map_nil, cond_true, cond_false, aop, aThen, aBlock, argEnv, ev, sput, sputO, binK, binI, unK, builtinK, pickK, Nat.reduceBEq, Nat.reduceAdd, Int.reduceBEq, Int.reduceBNe, Int.reduceLT, aPost, resK, tup, tyf, Int.natCast_zero]) rfl ?_
  rintro ⟨t, m⟩ ⟨ht, hm⟩
  simp only at ht hm
  refine aw_hide fun Q2 hQ2 => ?_
  by_cases h0 : t = 0
  · subst h0
    have hlen : (Am.bits 0).length = 0 := by decide
    have hms : m = (Am.bits s).length := by omega
    simp (config := {maxSteps := 2000000}) only [s79, ↓aw_region, ↓aw_skip, ↓aw_seq, ↓aw_block, ↓aw_exit, ↓aw_ret, ↓sops_nil, ↓sops_go, ↓dops_nil, ↓dopsX_nil, ↓dopsR_nil, ↓vdn, vup, extr_20, extr_21, extr_30, extr_31, extr_32, List.map_cons, List.map_nil, cond_true, cond_false, aop, aThen, aBlock, argEnv, ev, sput, sputO, binK, binI, unK, builtinK, pickK, Nat.reduceBEq, Nat.reduceAdd, Int.reduceBEq, Int.reduceBNe, Int.reduceLT, aPost, resK, tup, tyf, l79_0, Int.natCast_zero, gt_iff_lt, Int.lt_irrefl]
    refine hQ2 _ _ _ (hQ _ _ _ ?_)
    simp (config := {maxSteps := 2000000}) only [s79, ↓aw_region, ↓aw_skip, ↓aw_seq, ↓aw_block, ↓aw_exit, ↓aw_ret, ↓sops_nil, ↓sops_go, ↓dops_nil, ↓dopsX_nil, ↓dopsR_nil, ↓vdn, vup, extr_20, extr_21, extr_30, extr_31, extr_32, List.map_cons, List.map_nil, cond_true, cond_false, aop, aThen, aBlock, argEnv, ev, sput, sputO, binK, binI, unK, builtinK, pickK, Nat.reduceBEq, Nat.reduceAdd, Int.reduceBEq, Int.reduceBNe, Int.reduceLT, aPost, resK, tup, tyf, hms, if_true]
  · have hpos : (0 : Int) < (t : Int) := by omega
    have hstep := bits_step t ht h0
    have hlen : (Am.bits t).length = (Am.bits (t &&& (t - 1))).length + 1 := by rw [hstep]; rfl
    have hle : (Am.bits t).length ≤ 64 := by
      have := List.length_filter_le (fun i => t.testBit i) (List.range 64)
      rw [List.length_range] at this; exact this
    have hle2 : (Am.bits s).length ≤ 64 := by
      have := List.length_filter_le (fun i => s.testBit i) (List.range 64)
      rw [List.length_range] at this; exact this
    have hlt := and_pred_lt t h0
    have hsub : subV .i64 (t : Int) 1 = ((t - 1 : Nat) : Int) := by rw [subV_id (by omega) (by omega)]; omega
    have hand := bitsV_and (a := t) (b := t - 1) ht (by omega)
    simp (config := {maxSteps := 2000000}) only [s79, ↓aw_region, ↓aw_skip, ↓aw_seq, ↓aw_block, ↓aw_exit, ↓aw_ret, ↓sops_nil, ↓sops_go, ↓dops_nil, ↓dopsX_nil, ↓dopsR_nil, ↓vdn, vup, extr_20, extr_21, extr_30, extr_31, extr_32, List.map_cons, List.map_nil, cond_true, cond_false, aop, aThen, aBlock, argEnv, ev, sput, sputO, binK, binI, unK, builtinK, pickK, Nat.reduceBEq, Nat.reduceAdd, Int.reduceBEq, Int.reduceBNe, Int.reduceLT, aPost, resK, tup, tyf, l79_0, hpos, gt_iff_lt, add1 (show m < 9223372036854775807 by omega), hsub, hand]
    exact hQ2 _ _ _ ⟨(t &&& (t - 1), m + 1), ⟨by simp only; omega, by simp only; omega⟩, by simp only; exact hlt, by simp (config := {maxSteps := 2000000}) only [↓aw_region, ↓aw_skip, ↓aw_seq, ↓aw_block, ↓aw_exit, ↓aw_ret, ↓sops_nil, ↓sops_go, ↓dops_nil, ↓dopsX_nil, ↓dopsR_nil, ↓vdn, vup, extr_20, extr_21, extr_30, extr_31, extr_32, List.map_cons, List.map_nil, cond_true, cond_false, aop, aThen, aBlock, argEnv, ev, sput, sputO, binK, binI, unK, builtinK, pickK, Nat.reduceBEq, Nat.reduceAdd, Int.reduceBEq, Int.reduceBNe, Int.reduceLT, aPost, resK, tup, tyf], rfl⟩

/-- Whether no cycle of the first i is in the set. -/
def okTo (xs : List Int) (s i : Nat) : Bool := !((Clr.cycles xs.length (bb xs)).take i).any (Clr.has s)
theorem okTo_succ {xs : List Int} {s i : Nat} (hi : i < (Clr.cycles xs.length (bb xs)).length) : okTo xs s (i + 1) = (okTo xs s i && !Clr.has s ((Clr.cycles xs.length (bb xs)).getD i (0, 0, 0))) := by
  rw [okTo, okTo, List.take_succ_eq_append_getElem hi, List.any_append, Bool.not_or]
  congr 1
  simp [List.getD, hi]
theorem okTo_all (xs : List Int) (s : Nat) : okTo xs s (Clr.cycles xs.length (bb xs)).length = Clr.okS xs.length (bb xs) s := by rw [okTo, List.take_length, Clr.okS]

theorem rclear_call [Tabs prog] {h : Heap} {v : Value} {xs : List Int} (hv : IntSl h v xs) (ht : trn xs = true) : APure prog 43 [v] h (vint (clr xs : Nat)) := by
  have hlen := trn_len ht
  have hpw : 2 ^ xs.length ≤ 2 ^ 8 := Nat.pow_le_pow_right (by decide) hlen.2
  have hsh : shlV .i64 1 ((xs.length : Nat) : Int) = ((2 ^ xs.length : Nat) : Int) := by rw [shl1 (by omega)]; simp
  have hcy := cA_all ht
  have hcl : (cA xs xs.length).length = (Clr.cycles xs.length (bb xs)).length := by rw [hcy, List.length_map]
  have hcle := cA_le ht (Nat.le_refl xs.length)
  refine ACall.forget (Low.int _ _) ?_
  refine s43_call (by simp) ?_
  simp (config := {maxSteps := 2000000}) only [s43, ↓aw_region, ↓aw_skip, ↓aw_seq, ↓aw_block, ↓aw_exit, ↓aw_ret, ↓sops_nil, ↓sops_go, ↓dops_nil, ↓dopsX_nil, ↓dopsR_nil, ↓vdn, vup, extr_20, extr_21, extr_30, extr_31, extr_32, List.map_cons, List.map_nil, cond_true, cond_false, aop, aThen, aBlock, argEnv, ev, sput, sputO, binK, binI, unK, builtinK, pickK, Nat.reduceBEq, Nat.reduceAdd, Int.reduceBEq, Int.reduceBNe, Int.reduceLT, aPost, resK, tup, tyf, hv.len, hsh, ↓aw_loop_eq]
  refine aws_hide fun Q hQ => ?_
  refine aw_loop (γ := Nat × Heap) (fun s => s.1 ≤ 2 ^ xs.length ∧ Ext (fun _ => False) h s.2)
    (fun s => ([(0, v), (3, vint (Clr.bestTo xs.length (bb xs) s.1 : Nat)), (10, vint (2 ^ xs.length : Nat)), (11, vint s.1)], s.2)) (fun s => 2 ^ xs.length - s.1) (0, h) ⟨Nat.zero_le _, Ext.refl _ _⟩ (by simp (config := {maxSteps := 2000000}) only [↓aw_region, ↓aw_skip, ↓aw_seq, ↓aw_block, ↓aw_exit, ↓aw_ret, ↓sops_nil, ↓sops_go, ↓dops_nil, ↓dopsX_nil, ↓dopsR_nil, ↓vdn, vup, extr_20, extr_21, extr_30, extr_31, extr_32, List.map_cons, List.map_nil, cond_true, cond_false, aop, aThen, aBlock, argEnv, ev, sput, sputO, binK, binI, unK, builtinK, pickK, Nat.reduceBEq, Nat.reduceAdd, Int.reduceBEq, Int.reduceBNe, Int.reduceLT, aPost, resK, tup, tyf, Int.natCast_zero, Clr.bestTo]) rfl ?_
  rintro ⟨k, hp⟩ ⟨hk, hE⟩
  simp only at hk hE
  refine aw_hide fun Q2 hQ2 => ?_
  by_cases hin : (k : Int) < ((2 ^ xs.length : Nat) : Int)
  · have hk' : k < 2 ^ xs.length := by omega
    have tt : ∀ y : Nat, (bitsV .and .i64 (shrV .i64 ((k : Nat) : Int) y) 1 == 0) = !k.testBit y := fun y => by
      rw [testV (by omega)]; cases k.testBit y <;> rfl
    simp only [l43_1]
    simp (config := {maxSteps := 2000000}) only [s43, ↓aw_region, ↓aw_skip, ↓aw_seq, ↓aw_block, ↓aw_exit, ↓aw_ret, ↓sops_nil, ↓sops_go, ↓dops_nil, ↓dopsX_nil, ↓dopsR_nil, ↓vdn, vup, extr_20, extr_21, extr_30, extr_31, extr_32, List.map_cons, List.map_nil, cond_true, cond_false, aop, aThen, aBlock, argEnv, ev, sput, sputO, binK, binI, unK, builtinK, pickK, Nat.reduceBEq, Nat.reduceAdd, Int.reduceBEq, Int.reduceBNe, Int.reduceLT, aPost, resK, tup, tyf, hin, callK, List.nil_append, List.append_nil, List.toList_toArray, List.cons_append]
    refine (rcycles_call (IntSl_ext hv hE) ht).mono ?_
    rintro cv h2 ⟨hcv, hE2⟩
    have hEh2 := hE.trans hE2
    simp (config := {maxSteps := 2000000}) only [s43, ↓aw_region, ↓aw_skip, ↓aw_seq, ↓aw_block, ↓aw_exit, ↓aw_ret, ↓sops_nil, ↓sops_go, ↓dops_nil, ↓dopsX_nil, ↓dopsR_nil, ↓vdn, vup, extr_20, extr_21, extr_30, extr_31, extr_32, List.map_cons, List.map_nil, cond_true, cond_false, aop, aThen, aBlock, argEnv, ev, sput, sputO, binK, binI, unK, builtinK, pickK, Nat.reduceBEq, Nat.reduceAdd, Int.reduceBEq, Int.reduceBNe, Int.reduceLT, aPost, resK, tup, tyf, hcv.trip.len, hcl, ↓aw_loop_eq]
    refine aws_hide fun Q3 hQ3 => ?_
    refine aw_loop (γ := Nat × Heap) (fun t => t.1 ≤ (Clr.cycles xs.length (bb xs)).length ∧ Ext (fun _ => False) h2 t.2)
      (fun t => ([(0, v), (3, vint (Clr.bestTo xs.length (bb xs) k : Nat)), (4, vint k), (5, .bool (okTo xs k t.1)), (10, vint (2 ^ xs.length : Nat)), (11, vint k), (15, cv), (16, vint (Clr.cycles xs.length (bb xs)).length), (17, vint t.1)], t.2)) (fun t => (Clr.cycles xs.length (bb xs)).length - t.1) (0, h2) ⟨Nat.zero_le _, Ext.refl _ _⟩ (by simp (config := {maxSteps := 2000000}) only [↓aw_region, ↓aw_skip, ↓aw_seq, ↓aw_block, ↓aw_exit, ↓aw_ret, ↓sops_nil, ↓sops_go, ↓dops_nil, ↓dopsX_nil, ↓dopsR_nil, ↓vdn, vup, extr_20, extr_21, extr_30, extr_31, extr_32, List.map_cons, List.map_nil, cond_true, cond_false, aop, aThen, aBlock, argEnv, ev, sput, sputO, binK, binI, unK, builtinK, pickK, Nat.reduceBEq, Nat.reduceAdd, Int.reduceBEq, Int.reduceBNe, Int.reduceLT, aPost, resK, tup, tyf, Int.natCast_zero, show okTo xs k 0 = true by rfl]) rfl ?_
    rintro ⟨i, hp3⟩ ⟨hi, hE3⟩
    simp only at hi hE3
    refine aw_hide fun Q4 hQ4 => ?_
    by_cases hic : (i : Int) < ((Clr.cycles xs.length (bb xs)).length : Nat)
    · have hi' : i < (Clr.cycles xs.length (bb xs)).length := by omega
      have hi2 : i < (cA xs xs.length).length := by omega
      have htr := hcv.trip.ext hE3
      have e : (cA xs xs.length).getD i Go.Am.t0 = cI ((Clr.cycles xs.length (bb xs)).getD i (0, 0, 0)) := by
        rw [hcy]; simp [List.getD, hi']
      have hnx := okTo_succ (xs := xs) (s := k) hi'
      generalize (Clr.cycles xs.length (bb xs)).getD i (0, 0, 0) = cc at e hnx
      obtain ⟨a, x, c⟩ := cc
      have c0 := get_new hp3 (Blk.cells [.int .i64 0, .int .i64 0, .int .i64 0] 40 false)
      have hst : ∀ {K : Heap → Prop}, storeK prog (hp3 ++ [Blk.cells [.int .i64 0, .int .i64 0, .int .i64 0] 40 false]) 40 (.pointer (some ⟨hp3.length, 0, none⟩)) (tV (cI (a, x, c))) K = K ((hp3 ++ [Blk.cells [.int .i64 0, .int .i64 0, .int .i64 0] 40 false]).set hp3.length (.cells [vint a, vint x, vint c] 40 false)) := fun {K} =>
        storeA (vs := [vint (a : Nat), vint (x : Nat), vint (c : Nat)]) c0 shp_40 rfl rfl
      have c1 : ((hp3 ++ [Blk.cells [.int .i64 0, .int .i64 0, .int .i64 0] 40 false]).set hp3.length (.cells [vint a, vint x, vint c] 40 false))[hp3.length]? = some (.cells [vint (a : Nat), vint (x : Nat), vint (c : Nat)] 40 false) := get_set (by simp) _
      have hE4 : Ext (fun _ => False) hp3 ((hp3 ++ [Blk.cells [.int .i64 0, .int .i64 0, .int .i64 0] 40 false]).set hp3.length (.cells [vint a, vint x, vint c] 40 false)) := ⟨by simp, fun j hj _ => by rw [List.getElem?_set_ne (by omega), List.getElem?_append_left hj]⟩
      simp (config := {maxSteps := 2000000}) only [s43, ↓aw_region, ↓aw_skip, ↓aw_seq, ↓aw_block, ↓aw_exit, ↓aw_ret, ↓sops_nil, ↓sops_go, ↓dops_nil, ↓dopsX_nil, ↓dopsR_nil, ↓vdn, vup, extr_20, extr_21, extr_30, extr_31, extr_32, List.map_cons, List.map_nil, cond_true, cond_false, aop, aThen, aBlock, argEnv, ev, sput, sputO, binK, binI, unK, builtinK, pickK, Nat.reduceBEq, Nat.reduceAdd, Int.reduceBEq, Int.reduceBNe, Int.reduceLT, aPost, resK, tup, tyf, l43_0, hic, htr.idx el_36 esz_40 hi2, htr.load shp_40 hi2, e, allocK, newPtr, zero_40, hst]
      generalize (hp3 ++ [Blk.cells [.int .i64 0, .int .i64 0, .int .i64 0] 40 false]).set hp3.length (.cells [vint a, vint x, vint c] 40 false) = h4 at c1 hE4 ⊢
      generalize hp3.length = bc at c1 ⊢
      have i0 : ∀ {K : Value → Prop}, idxAddrK prog 40 (.pointer (some ⟨bc, 0, none⟩)) (.int .i64 0) K = K (.pointer (some ⟨bc, 0, none⟩)) := fun {K} => idxA (k := 0) und_40 esz_3 (by decide)
      have i1 : ∀ {K : Value → Prop}, idxAddrK prog 40 (.pointer (some ⟨bc, 0, none⟩)) (.int .i64 1) K = K (.pointer (some ⟨bc, 1, none⟩)) := fun {K} => idxA (k := 1) und_40 esz_3 (by decide)
      have i2 : ∀ {K : Value → Prop}, idxAddrK prog 40 (.pointer (some ⟨bc, 0, none⟩)) (.int .i64 2) K = K (.pointer (some ⟨bc, 2, none⟩)) := fun {K} => idxA (k := 2) und_40 esz_3 (by decide)
      have l0 : ∀ {K : Value → Prop}, loadK prog h4 3 (.pointer (some ⟨bc, 0, none⟩)) K = K (vint a) := fun {K} => loadC (o := 0) c1 shp_3 rfl
      have l1 : ∀ {K : Value → Prop}, loadK prog h4 3 (.pointer (some ⟨bc, 1, none⟩)) K = K (vint x) := fun {K} => loadC (o := 1) c1 shp_3 rfl
      have l2 : ∀ {K : Value → Prop}, loadK prog h4 3 (.pointer (some ⟨bc, 2, none⟩)) K = K (vint c) := fun {K} => loadC (o := 2) c1 shp_3 rfl
      rw [Clr.has] at hnx
      simp only at hnx
      have fin : ∀ e', ELe e' [(0, v), (3, vint (Clr.bestTo xs.length (bb xs) k : Nat)), (4, vint k), (5, .bool (okTo xs k (i + 1))), (10, vint (2 ^ xs.length : Nat)), (11, vint k), (15, cv), (16, vint (Clr.cycles xs.length (bb xs)).length), (17, vint (i + 1 : Nat))] → Q4 .normal e' h4 := fun e' he' =>
        hQ4 _ _ _ ⟨(i + 1, h4), ⟨by simp only; omega, hE3.trans hE4⟩, by simp only; omega, he', rfl⟩
      have hadd := add1 (show i < 9223372036854775807 by omega)
      cases hok : okTo xs k i with
      | false =>
        rw [hok, Bool.false_and] at hnx
        simp (config := {maxSteps := 2000000}) only [s43, ↓aw_region, ↓aw_skip, ↓aw_seq, ↓aw_block, ↓aw_exit, ↓aw_ret, ↓sops_nil, ↓sops_go, ↓dops_nil, ↓dopsX_nil, ↓dopsR_nil, ↓vdn, vup, extr_20, extr_21, extr_30, extr_31, extr_32, List.map_cons, List.map_nil, cond_true, cond_false, aop, aThen, aBlock, argEnv, ev, sput, sputO, binK, binI, unK, builtinK, pickK, Nat.reduceBEq, Nat.reduceAdd, Int.reduceBEq, Int.reduceBNe, Int.reduceLT, aPost, resK, tup, tyf, hadd]
        exact fin _ (by simp (config := {maxSteps := 2000000}) only [↓aw_region, ↓aw_skip, ↓aw_seq, ↓aw_block, ↓aw_exit, ↓aw_ret, ↓sops_nil, ↓sops_go, ↓dops_nil, ↓dopsX_nil, ↓dopsR_nil, ↓vdn, vup, extr_20, extr_21, extr_30, extr_31, extr_32, List.map_cons, List.map_nil, cond_true, cond_false, aop, aThen, aBlock, argEnv, ev, sput, sputO, binK, binI, unK, builtinK, pickK, Nat.reduceBEq, Nat.reduceAdd, Int.reduceBEq, Int.reduceBNe, Int.reduceLT, aPost, resK, tup, tyf, hnx])
      | true =>
        rw [hok, Bool.true_and] at hnx
        cases ta : k.testBit a with
        | false =>
          rw [ta, Bool.false_and, Bool.false_and] at hnx
          simp (config := {maxSteps := 2000000}) only [s43, ↓aw_region, ↓aw_skip, ↓aw_seq, ↓aw_block, ↓aw_exit, ↓aw_ret, ↓sops_nil, ↓sops_go, ↓dops_nil, ↓dopsX_nil, ↓dopsR_nil, ↓vdn, vup, extr_20, extr_21, extr_30, extr_31, extr_32, List.map_cons, List.map_nil, cond_true, cond_false, aop, aThen, aBlock, argEnv, ev, sput, sputO, binK, binI, unK, builtinK, pickK, Nat.reduceBEq, Nat.reduceAdd, Int.reduceBEq, Int.reduceBNe, Int.reduceLT, aPost, resK, tup, tyf, i0, l0, tt, ta, hadd]
          exact fin _ (by simp (config := {maxSteps := 2000000}) only [↓aw_region, ↓aw_skip, ↓aw_seq, ↓aw_block, ↓aw_exit, ↓aw_ret, ↓sops_nil, ↓sops_go, ↓dops_nil, ↓dopsX_nil, ↓dopsR_nil, ↓vdn, vup, extr_20, extr_21, extr_30, extr_31, extr_32, List.map_cons, List.map_nil, cond_true, cond_false, aop, aThen, aBlock, argEnv, ev, sput, sputO, binK, binI, unK, builtinK, pickK, Nat.reduceBEq, Nat.reduceAdd, Int.reduceBEq, Int.reduceBNe, Int.reduceLT, aPost, resK, tup, tyf, hnx])
        | true =>
          rw [ta, Bool.true_and] at hnx
          cases tx : k.testBit x with
          | false =>
            rw [tx, Bool.false_and] at hnx
            simp (config := {maxSteps := 2000000}) only [s43, ↓aw_region, ↓aw_skip, ↓aw_seq, ↓aw_block, ↓aw_exit, ↓aw_ret, ↓sops_nil, ↓sops_go, ↓dops_nil, ↓dopsX_nil, ↓dopsR_nil, ↓vdn, vup, extr_20, extr_21, extr_30, extr_31, extr_32, List.map_cons, List.map_nil, cond_true, cond_false, aop, aThen, aBlock, argEnv, ev, sput, sputO, binK, binI, unK, builtinK, pickK, Nat.reduceBEq, Nat.reduceAdd, Int.reduceBEq, Int.reduceBNe, Int.reduceLT, aPost, resK, tup, tyf, i0, l0, i1, l1, tt, ta, tx, hadd]
            exact fin _ (by simp (config := {maxSteps := 2000000}) only [↓aw_region, ↓aw_skip, ↓aw_seq, ↓aw_block, ↓aw_exit, ↓aw_ret, ↓sops_nil, ↓sops_go, ↓dops_nil, ↓dopsX_nil, ↓dopsR_nil, ↓vdn, vup, extr_20, extr_21, extr_30, extr_31, extr_32, List.map_cons, List.map_nil, cond_true, cond_false, aop, aThen, aBlock, argEnv, ev, sput, sputO, binK, binI, unK, builtinK, pickK, Nat.reduceBEq, Nat.reduceAdd, Int.reduceBEq, Int.reduceBNe, Int.reduceLT, aPost, resK, tup, tyf, hnx])
          | true =>
            rw [tx, Bool.true_and] at hnx
            simp (config := {maxSteps := 2000000}) only [s43, ↓aw_region, ↓aw_skip, ↓aw_seq, ↓aw_block, ↓aw_exit, ↓aw_ret, ↓sops_nil, ↓sops_go, ↓dops_nil, ↓dopsX_nil, ↓dopsR_nil, ↓vdn, vup, extr_20, extr_21, extr_30, extr_31, extr_32, List.map_cons, List.map_nil, cond_true, cond_false, aop, aThen, aBlock, argEnv, ev, sput, sputO, binK, binI, unK, builtinK, pickK, Nat.reduceBEq, Nat.reduceAdd, Int.reduceBEq, Int.reduceBNe, Int.reduceLT, aPost, resK, tup, tyf, i0, l0, i1, l1, i2, l2, tt, ta, tx, hadd]
            exact fin _ (by simp (config := {maxSteps := 2000000}) only [↓aw_region, ↓aw_skip, ↓aw_seq, ↓aw_block, ↓aw_exit, ↓aw_ret, ↓sops_nil, ↓sops_go, ↓dops_nil, ↓dopsX_nil, ↓dopsR_nil, ↓vdn, vup, extr_20, extr_21, extr_30, extr_31, extr_32, List.map_cons, List.map_nil, cond_true, cond_false, aop, aThen, aBlock, argEnv, ev, sput, sputO, binK, binI, unK, builtinK, pickK, Nat.reduceBEq, Nat.reduceAdd, Int.reduceBEq, Int.reduceBNe, Int.reduceLT, aPost, resK, tup, tyf, hnx])
    · obtain rfl : i = (Clr.cycles xs.length (bb xs)).length := by omega
      have hbl := bestTo_le (n := xs.length) (b := bb xs) k
      simp (config := {maxSteps := 2000000}) only [s43, ↓aw_region, ↓aw_skip, ↓aw_seq, ↓aw_block, ↓aw_exit, ↓aw_ret, ↓sops_nil, ↓sops_go, ↓dops_nil, ↓dopsX_nil, ↓dopsR_nil, ↓vdn, vup, extr_20, extr_21, extr_30, extr_31, extr_32, List.map_cons, List.map_nil, cond_true, cond_false, aop, aThen, aBlock, argEnv, ev, sput, sputO, binK, binI, unK, builtinK, pickK, Nat.reduceBEq, Nat.reduceAdd, Int.reduceBEq, Int.reduceBNe, Int.reduceLT, aPost, resK, tup, tyf, l43_0, Int.lt_irrefl]
      refine hQ4 _ _ _ (hQ3 _ _ _ ?_)
      rw [okTo_all]
      have hEp := hEh2.trans hE3
      cases hs : Clr.okS xs.length (bb xs) k with
      | false =>
        have hnx : Clr.bestTo xs.length (bb xs) (k + 1) = Clr.bestTo xs.length (bb xs) k := by rw [Clr.bestTo, hs]; rfl
        simp (config := {maxSteps := 2000000}) only [s43, ↓aw_region, ↓aw_skip, ↓aw_seq, ↓aw_block, ↓aw_exit, ↓aw_ret, ↓sops_nil, ↓sops_go, ↓dops_nil, ↓dopsX_nil, ↓dopsR_nil, ↓vdn, vup, extr_20, extr_21, extr_30, extr_31, extr_32, List.map_cons, List.map_nil, cond_true, cond_false, aop, aThen, aBlock, argEnv, ev, sput, sputO, binK, binI, unK, builtinK, pickK, Nat.reduceBEq, Nat.reduceAdd, Int.reduceBEq, Int.reduceBNe, Int.reduceLT, aPost, resK, tup, tyf, if_true, add1 (show k < 9223372036854775807 by omega)]
        exact hQ2 _ _ _ ⟨(k + 1, hp3), ⟨by simp only; omega, hEp⟩, by simp only; omega, by simp (config := {maxSteps := 2000000}) only [↓aw_region, ↓aw_skip, ↓aw_seq, ↓aw_block, ↓aw_exit, ↓aw_ret, ↓sops_nil, ↓sops_go, ↓dops_nil, ↓dopsX_nil, ↓dopsR_nil, ↓vdn, vup, extr_20, extr_21, extr_30, extr_31, extr_32, List.map_cons, List.map_nil, cond_true, cond_false, aop, aThen, aBlock, argEnv, ev, sput, sputO, binK, binI, unK, builtinK, pickK, Nat.reduceBEq, Nat.reduceAdd, Int.reduceBEq, Int.reduceBNe, Int.reduceLT, aPost, resK, tup, tyf, hnx], rfl⟩
      | true =>
        have hnx : Clr.bestTo xs.length (bb xs) (k + 1) = max (Clr.bestTo xs.length (bb xs) k) (Am.bits k).length := by rw [Clr.bestTo, hs]; rfl
        simp (config := {maxSteps := 2000000}) only [s43, ↓aw_region, ↓aw_skip, ↓aw_seq, ↓aw_block, ↓aw_exit, ↓aw_ret, ↓sops_nil, ↓sops_go, ↓dops_nil, ↓dopsX_nil, ↓dopsR_nil, ↓vdn, vup, extr_20, extr_21, extr_30, extr_31, extr_32, List.map_cons, List.map_nil, cond_true, cond_false, aop, aThen, aBlock, argEnv, ev, sput, sputO, binK, binI, unK, builtinK, pickK, Nat.reduceBEq, Nat.reduceAdd, Int.reduceBEq, Int.reduceBNe, Int.reduceLT, aPost, resK, tup, tyf, if_true, callK, List.nil_append, List.append_nil, List.toList_toArray, List.cons_append]
        refine (size79_call (show k < 9223372036854775808 by omega)).mono ?_
        rintro _ hp3 ⟨rfl, rfl⟩
        by_cases hmx : (((Clr.bestTo xs.length (bb xs) k : Nat) : Int)) < (((Am.bits k).length : Nat) : Int)
        · have hnx2 : Clr.bestTo xs.length (bb xs) (k + 1) = (Am.bits k).length := by rw [hnx]; omega
          simp (config := {maxSteps := 2000000}) only [s43, ↓aw_region, ↓aw_skip, ↓aw_seq, ↓aw_block, ↓aw_exit, ↓aw_ret, ↓sops_nil, ↓sops_go, ↓dops_nil, ↓dopsX_nil, ↓dopsR_nil, ↓vdn, vup, extr_20, extr_21, extr_30, extr_31, extr_32, List.map_cons, List.map_nil, cond_true, cond_false, aop, aThen, aBlock, argEnv, ev, sput, sputO, binK, binI, unK, builtinK, pickK, Nat.reduceBEq, Nat.reduceAdd, Int.reduceBEq, Int.reduceBNe, Int.reduceLT, aPost, resK, tup, tyf, mmK, if_true, gt_iff_lt, hmx, add1 (show k < 9223372036854775807 by omega)]
          exact hQ2 _ _ _ ⟨(k + 1, hp3), ⟨by simp only; omega, hEp⟩, by simp only; omega, by simp (config := {maxSteps := 2000000}) only [↓aw_region, ↓aw_skip, ↓aw_seq, ↓aw_block, ↓aw_exit, ↓aw_ret, ↓sops_nil, ↓sops_go, ↓dops_nil, ↓dopsX_nil, ↓dopsR_nil, ↓vdn, vup, extr_20, extr_21, extr_30, extr_31, extr_32, List.map_cons, List.map_nil, cond_true, cond_false, aop, aThen, aBlock, argEnv, ev, sput, sputO, binK, binI, unK, builtinK, pickK, Nat.reduceBEq, Nat.reduceAdd, Int.reduceBEq, Int.reduceBNe, Int.reduceLT, aPost, resK, tup, tyf, hnx2], rfl⟩
        · have hnx2 : Clr.bestTo xs.length (bb xs) (k + 1) = Clr.bestTo xs.length (bb xs) k := by rw [hnx]; omega
          simp (config := {maxSteps := 2000000}) only [s43, ↓aw_region, ↓aw_skip, ↓aw_seq, ↓aw_block, ↓aw_exit, ↓aw_ret, ↓sops_nil, ↓sops_go, ↓dops_nil, ↓dopsX_nil, ↓dopsR_nil, ↓vdn, vup, extr_20, extr_21, extr_30, extr_31, extr_32, List.map_cons, List.map_nil, cond_true, cond_false, aop, aThen, aBlock, argEnv, ev, sput, sputO, binK, binI, unK, builtinK, pickK, Nat.reduceBEq, Nat.reduceAdd, Int.reduceBEq, Int.reduceBNe, Int.reduceLT, aPost, resK, tup, tyf, mmK, if_true, gt_iff_lt, hmx, if_false, add1 (show k < 9223372036854775807 by omega)]
          exact hQ2 _ _ _ ⟨(k + 1, hp3), ⟨by simp only; omega, hEp⟩, by simp only; omega, by simp (config := {maxSteps := 2000000}) only [↓aw_region, ↓aw_skip, ↓aw_seq, ↓aw_block, ↓aw_exit, ↓aw_ret, ↓sops_nil, ↓sops_go, ↓dops_nil, ↓dopsX_nil, ↓dopsR_nil, ↓vdn, vup, extr_20, extr_21, extr_30, extr_31, extr_32, List.map_cons, List.map_nil, cond_true, cond_false, aop, aThen, aBlock, argEnv, ev, sput, sputO, binK, binI, unK, builtinK, pickK, Nat.reduceBEq, Nat.reduceAdd, Int.reduceBEq, Int.reduceBNe, Int.reduceLT, aPost, resK, tup, tyf, hnx2], rfl⟩
  · obtain rfl : k = 2 ^ xs.length := by omega
    simp (config := {maxSteps := 2000000}) only [s43, ↓aw_region, ↓aw_skip, ↓aw_seq, ↓aw_block, ↓aw_exit, ↓aw_ret, ↓sops_nil, ↓sops_go, ↓dops_nil, ↓dopsX_nil, ↓dopsR_nil, ↓vdn, vup, extr_20, extr_21, extr_30, extr_31, extr_32, List.map_cons, List.map_nil, cond_true, cond_false, aop, aThen, aBlock, argEnv, ev, sput, sputO, binK, binI, unK, builtinK, pickK, Nat.reduceBEq, Nat.reduceAdd, Int.reduceBEq, Int.reduceBNe, Int.reduceLT, aPost, resK, tup, tyf, l43_1, Int.lt_irrefl]
    refine hQ2 _ _ _ (hQ _ _ _ ?_)
    simp (config := {maxSteps := 2000000}) only [s43, ↓aw_region, ↓aw_skip, ↓aw_seq, ↓aw_block, ↓aw_exit, ↓aw_ret, ↓sops_nil, ↓sops_go, ↓dops_nil, ↓dopsX_nil, ↓dopsR_nil, ↓vdn, vup, extr_20, extr_21, extr_30, extr_31, extr_32, List.map_cons, List.map_nil, cond_true, cond_false, aop, aThen, aBlock, argEnv, ev, sput, sputO, binK, binI, unK, builtinK, pickK, Nat.reduceBEq, Nat.reduceAdd, Int.reduceBEq, Int.reduceBNe, Int.reduceLT, aPost, resK, tup, tyf, if_true]
    exact ⟨rfl, hE⟩
end Go.Proofs.Tryd.Am

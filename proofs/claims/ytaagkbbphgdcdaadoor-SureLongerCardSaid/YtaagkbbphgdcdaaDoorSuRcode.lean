/-
  sure: the first greatest code, as the reference finds it.
-/
import Derived.Test.YtaagkbbphgdcdaaDoorSuRmost
import Derived.Test.YtaagkbbphgdcdaaDoorSuCode
set_option linter.all false
namespace Go.Proofs.Tryd.Am
open Go.Am Sr
set_option maxRecDepth 100000
set_option maxHeartbeats 1000000

theorem reps1 (v : Value) : ∀ n, reps [v] n = List.replicate n v
  | 0 => rfl
  | n + 1 => by
    have := reps1 v n
    simp [reps] at this ⊢
    simp [List.replicate_succ, this]
theorem makeU {h : Heap} {n : Nat} (hn : n ≤ 64) {K : Value → Heap → Prop} : makeK prog h 60 (vint n) (vint n) K = K (.slice (some ⟨h.length, 0, none⟩) n n) (h ++ [.cells (List.replicate n (vu 0)) 63 false]) := by
  obtain ⟨i, hi1, hi2⟩ := Option.map_eq_some_iff.1 info_63
  simp only [Prod.mk.injEq] at hi2
  simp only [makeK, el_60, zero_63, hi1, hi2.1, hi2.2, zblk, reps1, Int.toNat_natCast]
  apply propext
  constructor
  · intro hk; exact hk.2.2.2.2.2.2
  · intro hk
    refine ⟨rfl, by decide, by omega, Int.le_refl _, ?_, by omega, hk⟩
    omega
/-- The rows while row i is under way. -/
def rowsU (xs : List Int) (k i j : Nat) : List Value := (List.range (wn xs k)).map fun t => if t < i then vu (arW (nearL xs k) t) else if t = i then vu (mk (fun b => cf xs k i b) j) else vu 0
theorem rowsU_len (xs : List Int) (k i j : Nat) : (rowsU xs k i j).length = wn xs k := by simp [rowsU]
theorem rowsU_get {xs : List Int} {k i j t : Nat} (h : t < wn xs k) : (rowsU xs k i j)[t]? = some (if t < i then vu (arW (nearL xs k) t) else if t = i then vu (mk (fun b => cf xs k i b) j) else vu 0) := by
  rw [rowsU, List.getElem?_map, List.getElem?_range h]; rfl
theorem rowsU_zero (xs : List Int) (k : Nat) : List.replicate (wn xs k) (vu 0) = rowsU xs k 0 0 := by
  apply List.ext_getElem?
  intro t
  by_cases h : t < wn xs k
  · rw [rowsU_get h, List.getElem?_replicate, if_pos h, mk_zero]
    simp
  · rw [List.getElem?_eq_none (by simp; omega), List.getElem?_eq_none (by rw [rowsU_len]; omega)]
theorem rowsU_set {xs : List Int} {k i j : Nat} : (rowsU xs k i j).set i (vu (mk (fun b => cf xs k i b) (j + 1))) = rowsU xs k i (j + 1) := by
  apply List.ext_getElem?
  intro t
  by_cases h : t < wn xs k
  · rw [List.getElem?_set, rowsU_get h, rowsU_get h, rowsU_len]
    by_cases e : i = t
    · subst e; simp [h]
    · simp [e, Ne.symm e]
  · rw [List.getElem?_eq_none (by rw [List.length_set, rowsU_len]; omega), List.getElem?_eq_none (by rw [rowsU_len]; omega)]
theorem rowsU_next {xs : List Int} {k i : Nat} (hi : i < wn xs k) : rowsU xs k i (wn xs k) = rowsU xs k (i + 1) 0 := by
  apply List.ext_getElem?
  intro t
  by_cases h : t < wn xs k
  · rw [rowsU_get h, rowsU_get h, mk_zero]
    by_cases h1 : t < i
    · rw [if_pos h1, if_pos (by omega)]
    · rw [if_neg h1]
      by_cases h2 : t = i
      · subst h2; rw [if_pos rfl, if_pos (by omega), near_self hi]; rfl
      · rw [if_neg h2, if_neg (by omega)]; split <;> rfl
  · rw [List.getElem?_eq_none (by rw [rowsU_len]; omega), List.getElem?_eq_none (by rw [rowsU_len]; omega)]
theorem rowsU_all (xs : List Int) (k : Nat) : rowsU xs k (wn xs k) 0 = arV (nearL xs k) := by
  apply List.ext_getElem?
  intro t
  by_cases h : t < wn xs k
  · rw [rowsU_get h, if_pos h, arV, List.getElem?_map, List.getElem?_range (by rw [nearL_len]; exact h)]; rfl
  · rw [List.getElem?_eq_none (by rw [rowsU_len]; omega), List.getElem?_eq_none (by rw [arV_len, nearL_len]; omega)]
theorem rowsU_val (h : Heap) (xs : List Int) (k i j : Nat) : ValSl (h ++ [.cells (rowsU xs k i j) 63 false]) (.slice (some ⟨h.length, 0, none⟩) (wn xs k : Nat) (wn xs k : Nat)) (rowsU xs k i j) := by
  have hl := rowsU_len xs k i j
  exact .inr ⟨h.length, 0, none, wn xs k, rowsU xs k i j, 63, false, by rw [hl], by rw [hl]; exact Nat.le_refl _, by simp [view, Blk.view], by simp⟩
theorem mk_all (n : Nat) : mk (fun _ => true) n = 2 ^ n - 1 := by
  apply Nat.eq_of_testBit_eq
  intro i
  rw [mk_bit, Nat.testBit_two_pow_sub_one, Bool.and_true]
theorem less_no {s v : Nat} (h : s.testBit v = false) : less s (2 ^ v) = s := by
  apply Nat.eq_of_testBit_eq
  intro i
  rw [less_bit]
  by_cases e : i = v
  · subst e; rw [h]; rfl
  · have : (i != v) = true := by simp [e]
    rw [this, Bool.and_true]

theorem rcode_loop [BitTab prog 0] {h : Heap} {av : Value} {nr : List Nat} (hv0 : ValSl h av (arV nr)) (g : Gr nr) {N : Env → Heap → Prop} {Q0 : Exit → Env → Heap → Prop}
    (hN : ∀ hp ov e, RSI h hp ov ((codeL nr).map Int.ofNat) → ELe e [(4, .slice none 0 0), (10, ov)] → N e hp) :
    aw prog 92 (.seq q25_17 (.block 4 (.loop l25_2))) (aThen N Q0) [(4, .slice none 0 0), (5, vint nr.length), (6, av), (7, vu (2 ^ nr.length - 1)), (10, .slice none 0 0), (11, vint (A nr (2 ^ nr.length - 1) : Nat))] h := by
  have n64 := g.len
  have hnn : ∀ i : Nat, (0 : Int) ≤ (i : Int) := Int.natCast_nonneg
  simp (config := {maxSteps := 2000000}) only [s25, ↓aw_region, ↓aw_skip, ↓aw_seq, ↓aw_block, ↓aw_exit, ↓aw_ret, ↓sops_nil, ↓sops_go, ↓dops_nil, ↓dopsX_nil, ↓dopsR_nil, ↓vdn, vup, extr_20, extr_21, extr_30, extr_31, extr_32, List.map_cons, List.map_nil, cond_true, cond_false, aop, aThen, aBlock, argEnv, ev, sput, sputO, binK, binI, unK, builtinK, pickK, Nat.reduceBEq, Nat.reduceAdd, Int.reduceBEq, Int.reduceBNe, Int.reduceLT, aPost, resK, tup, tyf, ↓aw_loop_eq]
  refine aws_hide fun Q hQ => ?_
  refine aw_loopW (γ := Nat × Value × Heap) (fun s => s.1 ≤ nr.length ∧ RSI h s.2.2 s.2.1 ((cAt nr s.1).2.2.map Int.ofNat))
    (fun s => ([(4, .slice none 0 0), (6, av), (7, vu (cAt nr s.1).1), (10, s.2.1), (11, vint ((cAt nr s.1).2.1 : Nat)), (48, vint nr.length), (49, vint s.1)], s.2.2)) (fun s => nr.length - s.1) (0, .slice none 0 0, h) ⟨Nat.zero_le _, RSI.nil h⟩ (by simp (config := {maxSteps := 2000000}) only [↓aw_region, ↓aw_skip, ↓aw_seq, ↓aw_block, ↓aw_exit, ↓aw_ret, ↓sops_nil, ↓sops_go, ↓dops_nil, ↓dopsX_nil, ↓dopsR_nil, ↓vdn, vup, extr_20, extr_21, extr_30, extr_31, extr_32, List.map_cons, List.map_nil, cond_true, cond_false, aop, aThen, aBlock, argEnv, ev, sput, sputO, binK, binI, unK, builtinK, pickK, Nat.reduceBEq, Nat.reduceAdd, Int.reduceBEq, Int.reduceBNe, Int.reduceLT, aPost, resK, tup, tyf, Int.natCast_zero, cAt, List.range_zero, List.foldl_nil]) rfl ?_
  rintro ⟨i, ov, hp⟩ ⟨hi, hs⟩
  simp only at hi hs
  refine aws_hide fun Q2 hQ2 => ?_
  simp only [l25_2]
  refine aws_cut fun M hM => ?_
  by_cases hin : (i : Int) < nr.length
  · have hi' : i < nr.length := by omega
    obtain ⟨i1, i2, i3⟩ := cAt_inv g i
    have es := cAt_succ nr i
    generalize cAt nr i = c at i1 i2 i3 es hs
    obtain ⟨left, need, out⟩ := c
    simp only at i1 i2 i3 hs
    have hl64 := lt64 g i1
    have hnd := A_le nr left
    rw [← i2] at hnd
    have hi64 : i < 64 := by omega
    have hv := hv0.ext hs.2.1
    have ix : ∀ {K : Value → Prop}, idxAddrK prog 60 av (vint i) K = K (elemP av 1 i) := fun {K} => hv.idx el_60 esz_63 (by rw [arV_len]; exact hi') K
    have ld : ∀ {K : Value → Prop}, loadK prog hp 63 (elemP av 1 i) K = K (vu (arW nr i)) := fun {K} => by
      rw [hv.load shp_63 (by rw [arV_len]; exact hi'), arV_get hi']
    simp (config := {maxSteps := 2000000}) only [s25, ↓aw_region, ↓aw_skip, ↓aw_seq, ↓aw_block, ↓aw_exit, ↓aw_ret, ↓sops_nil, ↓sops_go, ↓dops_nil, ↓dopsX_nil, ↓dopsR_nil, ↓vdn, vup, extr_20, extr_21, extr_30, extr_31, extr_32, List.map_cons, List.map_nil, cond_true, cond_false, aop, aThen, aBlock, argEnv, ev, sput, sputO, binK, binI, unK, builtinK, pickK, Nat.reduceBEq, Nat.reduceAdd, Int.reduceBEq, Int.reduceBNe, Int.reduceLT, aPost, resK, tup, tyf, hin]
    refine hM [(4, .slice none 0 0), (6, av), (7, vu left), (10, ov), (11, vint need), (48, vint nr.length), (49, vint i), (50, .bool true)] _ _ ?_ (by simp (config := {maxSteps := 2000000}) only [↓aw_region, ↓aw_skip, ↓aw_seq, ↓aw_block, ↓aw_exit, ↓aw_ret, ↓sops_nil, ↓sops_go, ↓dops_nil, ↓dopsX_nil, ↓dopsR_nil, ↓vdn, vup, extr_20, extr_21, extr_30, extr_31, extr_32, List.map_cons, List.map_nil, cond_true, cond_false, aop, aThen, aBlock, argEnv, ev, sput, sputO, binK, binI, unK, builtinK, pickK, Nat.reduceBEq, Nat.reduceAdd, Int.reduceBEq, Int.reduceBNe, Int.reduceLT, aPost, resK, tup, tyf])
    clear hM M
    refine aws_cut fun M hM => ?_
    simp (config := {maxSteps := 2000000}) only [s25, ↓aw_region, ↓aw_skip, ↓aw_seq, ↓aw_block, ↓aw_exit, ↓aw_ret, ↓sops_nil, ↓sops_go, ↓dops_nil, ↓dopsX_nil, ↓dopsR_nil, ↓vdn, vup, extr_20, extr_21, extr_30, extr_31, extr_32, List.map_cons, List.map_nil, cond_true, cond_false, aop, aThen, aBlock, argEnv, ev, sput, sputO, binK, binI, unK, builtinK, pickK, Nat.reduceBEq, Nat.reduceAdd, Int.reduceBEq, Int.reduceBNe, Int.reduceLT, aPost, resK, tup, tyf]
    refine hM [(4, .slice none 0 0), (6, av), (7, vu left), (10, ov), (11, vint need), (48, vint nr.length), (49, vint i)] _ _ ?_ (by simp (config := {maxSteps := 2000000}) only [↓aw_region, ↓aw_skip, ↓aw_seq, ↓aw_block, ↓aw_exit, ↓aw_ret, ↓sops_nil, ↓sops_go, ↓dops_nil, ↓dopsX_nil, ↓dopsR_nil, ↓vdn, vup, extr_20, extr_21, extr_30, extr_31, extr_32, List.map_cons, List.map_nil, cond_true, cond_false, aop, aThen, aBlock, argEnv, ev, sput, sputO, binK, binI, unK, builtinK, pickK, Nat.reduceBEq, Nat.reduceAdd, Int.reduceBEq, Int.reduceBNe, Int.reduceLT, aPost, resK, tup, tyf])
    clear hM M
    refine aws_cutW fun M hM => ?_
    have fin : ∀ l2 n2 o2 ov2 hp2, cAt nr (i + 1) = (l2, n2, o2) → RSI h hp2 ov2 (o2.map Int.ofNat) → ∀ e, ELe e [(4, .slice none 0 0), (6, av), (7, vu l2), (10, ov2), (11, vint n2), (48, vint nr.length), (49, vint i)] → M e hp2 := by
      intro l2 n2 o2 ov2 hp2 e s2 en he
      refine hM [(4, .slice none 0 0), (6, av), (7, vu l2), (10, ov2), (11, vint n2), (48, vint nr.length), (49, vint i)] _ _ ?_ he
      clear hM M
      refine aw_aws ?_
      simp (config := {maxSteps := 2000000}) only [s25, ↓aw_region, ↓aw_skip, ↓aw_seq, ↓aw_block, ↓aw_exit, ↓aw_ret, ↓sops_nil, ↓sops_go, ↓dops_nil, ↓dopsX_nil, ↓dopsR_nil, ↓vdn, vup, extr_20, extr_21, extr_30, extr_31, extr_32, List.map_cons, List.map_nil, cond_true, cond_false, aop, aThen, aBlock, argEnv, ev, sput, sputO, binK, binI, unK, builtinK, pickK, Nat.reduceBEq, Nat.reduceAdd, Int.reduceBEq, Int.reduceBNe, Int.reduceLT, aPost, resK, tup, tyf, add1 (show i < 9223372036854775807 by omega)]
      exact hQ2 _ _ _ ⟨(i + 1, ov2, hp2), ⟨by simp only; omega, by simp only [e]; exact s2⟩, by simp only; omega, by simp (config := {maxSteps := 2000000}) only [↓aw_region, ↓aw_skip, ↓aw_seq, ↓aw_block, ↓aw_exit, ↓aw_ret, ↓sops_nil, ↓sops_go, ↓dops_nil, ↓dopsX_nil, ↓dopsR_nil, ↓vdn, vup, extr_20, extr_21, extr_30, extr_31, extr_32, List.map_cons, List.map_nil, cond_true, cond_false, aop, aThen, aBlock, argEnv, ev, sput, sputO, binK, binI, unK, builtinK, pickK, Nat.reduceBEq, Nat.reduceAdd, Int.reduceBEq, Int.reduceBNe, Int.reduceLT, aPost, resK, tup, tyf, e], rfl⟩
    refine aws_block ?_
    refine aws_cut fun M2 hM2 => ?_
    simp (config := {maxSteps := 2000000}) only [s25, ↓aw_region, ↓aw_skip, ↓aw_seq, ↓aw_block, ↓aw_exit, ↓aw_ret, ↓sops_nil, ↓sops_go, ↓dops_nil, ↓dopsX_nil, ↓dopsR_nil, ↓vdn, vup, extr_20, extr_21, extr_30, extr_31, extr_32, List.map_cons, List.map_nil, cond_true, cond_false, aop, aThen, aBlock, argEnv, ev, sput, sputO, binK, binI, unK, builtinK, pickK, Nat.reduceBEq, Nat.reduceAdd, Int.reduceBEq, Int.reduceBNe, Int.reduceLT, aPost, resK, tup, tyf]
    refine hM2 [(4, .slice none 0 0), (6, av), (7, vu left), (10, ov), (11, vint need), (12, vint i), (48, vint nr.length), (49, vint i)] _ _ ?_ (by simp (config := {maxSteps := 2000000}) only [↓aw_region, ↓aw_skip, ↓aw_seq, ↓aw_block, ↓aw_exit, ↓aw_ret, ↓sops_nil, ↓sops_go, ↓dops_nil, ↓dopsX_nil, ↓dopsR_nil, ↓vdn, vup, extr_20, extr_21, extr_30, extr_31, extr_32, List.map_cons, List.map_nil, cond_true, cond_false, aop, aThen, aBlock, argEnv, ev, sput, sputO, binK, binI, unK, builtinK, pickK, Nat.reduceBEq, Nat.reduceAdd, Int.reduceBEq, Int.reduceBNe, Int.reduceLT, aPost, resK, tup, tyf])
    clear hM2 M2
    refine aws_cut fun M2 hM2 => ?_
    cases hb : left.testBit i with
    | false =>
      have e : cAt nr (i + 1) = (left, need, out) := by rw [es, cStep, if_neg (by simp only [hb]; decide)]
      simp (config := {maxSteps := 2000000}) only [s25, ↓aw_region, ↓aw_skip, ↓aw_seq, ↓aw_block, ↓aw_exit, ↓aw_ret, ↓sops_nil, ↓sops_go, ↓dops_nil, ↓dopsX_nil, ↓dopsR_nil, ↓vdn, vup, extr_20, extr_21, extr_30, extr_31, extr_32, List.map_cons, List.map_nil, cond_true, cond_false, aop, aThen, aBlock, argEnv, ev, sput, sputO, binK, binI, unK, builtinK, pickK, Nat.reduceBEq, Nat.reduceAdd, Int.reduceBEq, Int.reduceBNe, Int.reduceLT, aPost, resK, tup, tyf, hnn, testU hl64, hb, beq1, Bool.false_eq_true, if_false]
      refine hM2 [(4, .slice none 0 0), (6, av), (7, vu left), (10, ov), (11, vint need), (12, vint i), (48, vint nr.length), (49, vint i), (73, .bool false)] _ _ ?_ (by simp (config := {maxSteps := 2000000}) only [↓aw_region, ↓aw_skip, ↓aw_seq, ↓aw_block, ↓aw_exit, ↓aw_ret, ↓sops_nil, ↓sops_go, ↓dops_nil, ↓dopsX_nil, ↓dopsR_nil, ↓vdn, vup, extr_20, extr_21, extr_30, extr_31, extr_32, List.map_cons, List.map_nil, cond_true, cond_false, aop, aThen, aBlock, argEnv, ev, sput, sputO, binK, binI, unK, builtinK, pickK, Nat.reduceBEq, Nat.reduceAdd, Int.reduceBEq, Int.reduceBNe, Int.reduceLT, aPost, resK, tup, tyf])
      clear hM2 M2
      refine aw_aws ?_
      simp (config := {maxSteps := 2000000}) only [s25, ↓aw_region, ↓aw_skip, ↓aw_seq, ↓aw_block, ↓aw_exit, ↓aw_ret, ↓sops_nil, ↓sops_go, ↓dops_nil, ↓dopsX_nil, ↓dopsR_nil, ↓vdn, vup, extr_20, extr_21, extr_30, extr_31, extr_32, List.map_cons, List.map_nil, cond_true, cond_false, aop, aThen, aBlock, argEnv, ev, sput, sputO, binK, binI, unK, builtinK, pickK, Nat.reduceBEq, Nat.reduceAdd, Int.reduceBEq, Int.reduceBNe, Int.reduceLT, aPost, resK, tup, tyf, hnn, shlU1 hi64, lessU hl64 (bit64 hi64), less_no hb]
      exact fin _ _ _ _ _ e hs _ (by simp (config := {maxSteps := 2000000}) only [↓aw_region, ↓aw_skip, ↓aw_seq, ↓aw_block, ↓aw_exit, ↓aw_ret, ↓sops_nil, ↓sops_go, ↓dops_nil, ↓dopsX_nil, ↓dopsR_nil, ↓vdn, vup, extr_20, extr_21, extr_30, extr_31, extr_32, List.map_cons, List.map_nil, cond_true, cond_false, aop, aThen, aBlock, argEnv, ev, sput, sputO, binK, binI, unK, builtinK, pickK, Nat.reduceBEq, Nat.reduceAdd, Int.reduceBEq, Int.reduceBNe, Int.reduceLT, aPost, resK, tup, tyf])
    | true =>
      have hmo := rmost_call hv g (cut nr left i) (cut_lt i1)
      have hp1 := A_pos g (Nat.lt_of_lt_of_le i1 (Nat.pow_le_pow_right (by decide) g.len)) hb
      have hpos : (0 : Int) < (need : Int) := by omega
      have a1 := A_le nr (cut nr left i)
      have e1 : addV .i64 1 ((A nr (cut nr left i) : Nat) : Int) = ((1 + A nr (cut nr left i) : Nat) : Int) := by rw [addV_id (by omega) (by omega)]; omega
      simp (config := {maxSteps := 2000000}) only [s25, ↓aw_region, ↓aw_skip, ↓aw_seq, ↓aw_block, ↓aw_exit, ↓aw_ret, ↓sops_nil, ↓sops_go, ↓dops_nil, ↓dopsX_nil, ↓dopsR_nil, ↓vdn, vup, extr_20, extr_21, extr_30, extr_31, extr_32, List.map_cons, List.map_nil, cond_true, cond_false, aop, aThen, aBlock, argEnv, ev, sput, sputO, binK, binI, unK, builtinK, pickK, Nat.reduceBEq, Nat.reduceAdd, Int.reduceBEq, Int.reduceBNe, Int.reduceLT, aPost, resK, tup, tyf, hnn, testU hl64, hb, beq1, if_true, gt_iff_lt, hpos, ix, ld, lessU hl64 (arW_lt g hi'), ar_cut, callK, List.nil_append, List.append_nil, List.toList_toArray, List.cons_append]
      refine hmo.mono ?_
      rintro _ hp ⟨rfl, rfl⟩
      by_cases hq : 1 + A nr (cut nr left i) = need
      · have e : cAt nr (i + 1) = (cut nr left i, need - 1, out ++ [i]) := by rw [es, cStep, if_pos (by exact hb), if_pos (by exact hq)]
        have hq2 : (((1 + A nr (cut nr left i) : Nat) : Int) == ((need : Nat) : Int)) = true := by rw [hq]; exact beq_self_eq_true _
        simp (config := {maxSteps := 2000000}) only [s25, ↓aw_region, ↓aw_skip, ↓aw_seq, ↓aw_block, ↓aw_exit, ↓aw_ret, ↓sops_nil, ↓sops_go, ↓dops_nil, ↓dopsX_nil, ↓dopsR_nil, ↓vdn, vup, extr_20, extr_21, extr_30, extr_31, extr_32, List.map_cons, List.map_nil, cond_true, cond_false, aop, aThen, aBlock, argEnv, ev, sput, sputO, binK, binI, unK, builtinK, pickK, Nat.reduceBEq, Nat.reduceAdd, Int.reduceBEq, Int.reduceBNe, Int.reduceLT, aPost, resK, tup, tyf, e1, hq2]
        refine hM2 [(4, .slice none 0 0), (6, av), (7, vu left), (10, ov), (11, vint need), (12, vint i), (48, vint nr.length), (49, vint i), (73, .bool true)] _ _ ?_ (by simp (config := {maxSteps := 2000000}) only [↓aw_region, ↓aw_skip, ↓aw_seq, ↓aw_block, ↓aw_exit, ↓aw_ret, ↓sops_nil, ↓sops_go, ↓dops_nil, ↓dopsX_nil, ↓dopsR_nil, ↓vdn, vup, extr_20, extr_21, extr_30, extr_31, extr_32, List.map_cons, List.map_nil, cond_true, cond_false, aop, aThen, aBlock, argEnv, ev, sput, sputO, binK, binI, unK, builtinK, pickK, Nat.reduceBEq, Nat.reduceAdd, Int.reduceBEq, Int.reduceBNe, Int.reduceLT, aPost, resK, tup, tyf])
        clear hM2 M2
        refine aw_aws ?_
        simp (config := {maxSteps := 2000000}) only [s25, ↓aw_region, ↓aw_skip, ↓aw_seq, ↓aw_block, ↓aw_exit, ↓aw_ret, ↓sops_nil, ↓sops_go, ↓dops_nil, ↓dopsX_nil, ↓dopsR_nil, ↓vdn, vup, extr_20, extr_21, extr_30, extr_31, extr_32, List.map_cons, List.map_nil, cond_true, cond_false, aop, aThen, aBlock, argEnv, ev, sput, sputO, binK, binI, unK, builtinK, pickK, Nat.reduceBEq, Nat.reduceAdd, Int.reduceBEq, Int.reduceBNe, Int.reduceLT, aPost, resK, tup, tyf, litI1]
        refine hs.push (by rw [List.length_map]; omega) fun v' h' s' => ?_
        have hv9 := hv0.ext s'.2.1
        have ix9 : ∀ {K : Value → Prop}, idxAddrK prog 60 av (vint i) K = K (elemP av 1 i) := fun {K} => hv9.idx el_60 esz_63 (by rw [arV_len]; exact hi') K
        have ld9 : ∀ {K : Value → Prop}, loadK prog h' 63 (elemP av 1 i) K = K (vu (arW nr i)) := fun {K} => by
          rw [hv9.load shp_63 (by rw [arV_len]; exact hi'), arV_get hi']
        simp (config := {maxSteps := 2000000}) only [s25, ↓aw_region, ↓aw_skip, ↓aw_seq, ↓aw_block, ↓aw_exit, ↓aw_ret, ↓sops_nil, ↓sops_go, ↓dops_nil, ↓dopsX_nil, ↓dopsR_nil, ↓vdn, vup, extr_20, extr_21, extr_30, extr_31, extr_32, List.map_cons, List.map_nil, cond_true, cond_false, aop, aThen, aBlock, argEnv, ev, sput, sputO, binK, binI, unK, builtinK, pickK, Nat.reduceBEq, Nat.reduceAdd, Int.reduceBEq, Int.reduceBNe, Int.reduceLT, aPost, resK, tup, tyf, ix9, ld9, lessU hl64 (arW_lt g hi'), ar_cut, subN1 (show 1 ≤ need by omega) (show need < 9223372036854775808 by omega)]
        have em : (out ++ [i]).map Int.ofNat = out.map Int.ofNat ++ [(i : Int)] := by rw [List.map_append]; rfl
        exact fin _ _ _ _ _ e (by rw [em]; exact s') _ (by simp (config := {maxSteps := 2000000}) only [↓aw_region, ↓aw_skip, ↓aw_seq, ↓aw_block, ↓aw_exit, ↓aw_ret, ↓sops_nil, ↓sops_go, ↓dops_nil, ↓dopsX_nil, ↓dopsR_nil, ↓vdn, vup, extr_20, extr_21, extr_30, extr_31, extr_32, List.map_cons, List.map_nil, cond_true, cond_false, aop, aThen, aBlock, argEnv, ev, sput, sputO, binK, binI, unK, builtinK, pickK, Nat.reduceBEq, Nat.reduceAdd, Int.reduceBEq, Int.reduceBNe, Int.reduceLT, aPost, resK, tup, tyf])
      · have e : cAt nr (i + 1) = (less left (2 ^ i), need, out) := by rw [es, cStep, if_pos (by exact hb), if_neg (by exact hq)]
        have hq2 : (((1 + A nr (cut nr left i) : Nat) : Int) == ((need : Nat) : Int)) = false := by
          rw [beq_eq_false_iff_ne]; omega
        simp (config := {maxSteps := 2000000}) only [s25, ↓aw_region, ↓aw_skip, ↓aw_seq, ↓aw_block, ↓aw_exit, ↓aw_ret, ↓sops_nil, ↓sops_go, ↓dops_nil, ↓dopsX_nil, ↓dopsR_nil, ↓vdn, vup, extr_20, extr_21, extr_30, extr_31, extr_32, List.map_cons, List.map_nil, cond_true, cond_false, aop, aThen, aBlock, argEnv, ev, sput, sputO, binK, binI, unK, builtinK, pickK, Nat.reduceBEq, Nat.reduceAdd, Int.reduceBEq, Int.reduceBNe, Int.reduceLT, aPost, resK, tup, tyf, e1, hq2]
        refine hM2 [(4, .slice none 0 0), (6, av), (7, vu left), (10, ov), (11, vint need), (12, vint i), (48, vint nr.length), (49, vint i), (73, .bool false)] _ _ ?_ (by simp (config := {maxSteps := 2000000}) only [↓aw_region, ↓aw_skip, ↓aw_seq, ↓aw_block, ↓aw_exit, ↓aw_ret, ↓sops_nil, ↓sops_go, ↓dops_nil, ↓dopsX_nil, ↓dopsR_nil, ↓vdn, vup, extr_20, extr_21, extr_30, extr_31, extr_32, List.map_cons, List.map_nil, cond_true, cond_false, aop, aThen, aBlock, argEnv, ev, sput, sputO, binK, binI, unK, builtinK, pickK, Nat.reduceBEq, Nat.reduceAdd, Int.reduceBEq, Int.reduceBNe, Int.reduceLT, aPost, resK, tup, tyf])
        clear hM2 M2
        refine aw_aws ?_
        simp (config := {maxSteps := 2000000}) only [s25, ↓aw_region, ↓aw_skip, ↓aw_seq, ↓aw_block, ↓aw_exit, ↓aw_ret, ↓sops_nil, ↓sops_go, ↓dops_nil, ↓dopsX_nil, ↓dopsR_nil, ↓vdn, vup, extr_20, extr_21, extr_30, extr_31, extr_32, List.map_cons, List.map_nil, cond_true, cond_false, aop, aThen, aBlock, argEnv, ev, sput, sputO, binK, binI, unK, builtinK, pickK, Nat.reduceBEq, Nat.reduceAdd, Int.reduceBEq, Int.reduceBNe, Int.reduceLT, aPost, resK, tup, tyf, hnn, shlU1 hi64, lessU hl64 (bit64 hi64)]
        exact fin _ _ _ _ _ e hs _ (by simp (config := {maxSteps := 2000000}) only [↓aw_region, ↓aw_skip, ↓aw_seq, ↓aw_block, ↓aw_exit, ↓aw_ret, ↓sops_nil, ↓sops_go, ↓dops_nil, ↓dopsX_nil, ↓dopsR_nil, ↓vdn, vup, extr_20, extr_21, extr_30, extr_31, extr_32, List.map_cons, List.map_nil, cond_true, cond_false, aop, aThen, aBlock, argEnv, ev, sput, sputO, binK, binI, unK, builtinK, pickK, Nat.reduceBEq, Nat.reduceAdd, Int.reduceBEq, Int.reduceBNe, Int.reduceLT, aPost, resK, tup, tyf])
  · obtain rfl : i = nr.length := by omega
    simp (config := {maxSteps := 2000000}) only [s25, ↓aw_region, ↓aw_skip, ↓aw_seq, ↓aw_block, ↓aw_exit, ↓aw_ret, ↓sops_nil, ↓sops_go, ↓dops_nil, ↓dopsX_nil, ↓dopsR_nil, ↓vdn, vup, extr_20, extr_21, extr_30, extr_31, extr_32, List.map_cons, List.map_nil, cond_true, cond_false, aop, aThen, aBlock, argEnv, ev, sput, sputO, binK, binI, unK, builtinK, pickK, Nat.reduceBEq, Nat.reduceAdd, Int.reduceBEq, Int.reduceBNe, Int.reduceLT, aPost, resK, tup, tyf, Int.lt_irrefl]
    refine hM [(4, .slice none 0 0), (10, ov), (50, .bool false)] _ _ ?_ (by simp (config := {maxSteps := 2000000}) only [↓aw_region, ↓aw_skip, ↓aw_seq, ↓aw_block, ↓aw_exit, ↓aw_ret, ↓sops_nil, ↓sops_go, ↓dops_nil, ↓dopsX_nil, ↓dopsR_nil, ↓vdn, vup, extr_20, extr_21, extr_30, extr_31, extr_32, List.map_cons, List.map_nil, cond_true, cond_false, aop, aThen, aBlock, argEnv, ev, sput, sputO, binK, binI, unK, builtinK, pickK, Nat.reduceBEq, Nat.reduceAdd, Int.reduceBEq, Int.reduceBNe, Int.reduceLT, aPost, resK, tup, tyf])
    refine aw_aws ?_
    simp (config := {maxSteps := 2000000}) only [s25, ↓aw_region, ↓aw_skip, ↓aw_seq, ↓aw_block, ↓aw_exit, ↓aw_ret, ↓sops_nil, ↓sops_go, ↓dops_nil, ↓dopsX_nil, ↓dopsR_nil, ↓vdn, vup, extr_20, extr_21, extr_30, extr_31, extr_32, List.map_cons, List.map_nil, cond_true, cond_false, aop, aThen, aBlock, argEnv, ev, sput, sputO, binK, binI, unK, builtinK, pickK, Nat.reduceBEq, Nat.reduceAdd, Int.reduceBEq, Int.reduceBNe, Int.reduceLT, aPost, resK, tup, tyf]
    refine hQ2 _ _ _ (hQ _ _ _ ?_)
    simp (config := {maxSteps := 2000000}) only [s25, ↓aw_region, ↓aw_skip, ↓aw_seq, ↓aw_block, ↓aw_exit, ↓aw_ret, ↓sops_nil, ↓sops_go, ↓dops_nil, ↓dopsX_nil, ↓dopsR_nil, ↓vdn, vup, extr_20, extr_21, extr_30, extr_31, extr_32, List.map_cons, List.map_nil, cond_true, cond_false, aop, aThen, aBlock, argEnv, ev, sput, sputO, binK, binI, unK, builtinK, pickK, Nat.reduceBEq, Nat.reduceAdd, Int.reduceBEq, Int.reduceBNe, Int.reduceLT, aPost, resK, tup, tyf, if_true]
    exact hN hp ov _ hs (by simp (config := {maxSteps := 2000000}) only [↓aw_region, ↓aw_skip, ↓aw_seq, ↓aw_block, ↓aw_exit, ↓aw_ret, ↓sops_nil, ↓sops_go, ↓dops_nil, ↓dopsX_nil, ↓dopsR_nil, ↓vdn, vup, extr_20, extr_21, extr_30, extr_31, extr_32, List.map_cons, List.map_nil, cond_true, cond_false, aop, aThen, aBlock, argEnv, ev, sput, sputO, binK, binI, unK, builtinK, pickK, Nat.reduceBEq, Nat.reduceAdd, Int.reduceBEq, Int.reduceBNe, Int.reduceLT, aPost, resK, tup, tyf])
end Go.Proofs.Tryd.Am

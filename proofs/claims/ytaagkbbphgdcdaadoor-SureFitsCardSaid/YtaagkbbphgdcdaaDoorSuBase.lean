/-
  sure: the small functions.
-/
import Derived.Test.YtaagkbbphgdcdaaDoorAmZa
import Derived.Test.YtaagkbbphgdcdaaDoorTypes
import Derived.Test.YtaagkbbphgdcdaaDoorFnA
import Derived.Test.YtaagkbbphgdcdaaDoorBits
import Derived.Test.YtaagkbbphgdcdaaDoorOnes
import Derived.Test.YtaagkbbphgdcdaaDoorWords
set_option linter.all false
namespace Go.Proofs.Tryd.Am
open Go.Am
set_option maxRecDepth 100000
set_option maxHeartbeats 1000000

/-! How many elements a set has, as the library counts. -/
def oc1 (x : Int) : Int := addV .u64 (bitsV .and .u64 (shrV .u64 x 1) 6148914691236517205) (bitsV .and .u64 x 6148914691236517205)
def oc2 (x : Int) : Int := addV .u64 (bitsV .and .u64 (shrV .u64 x 2) 3689348814741910323) (bitsV .and .u64 x 3689348814741910323)
def oc3 (x : Int) : Int := bitsV .and .u64 (addV .u64 (shrV .u64 x 4) x) 1085102592571150095
def oc4 (x : Int) : Int := addV .u64 x (shrV .u64 x 8)
def oc5 (x : Int) : Int := addV .u64 x (shrV .u64 x 16)
def oc6 (x : Int) : Int := addV .u64 x (shrV .u64 x 32)
def ocA (x : Int) : Int := bitsV .and .i64 (IntKind.i64.wrap (oc6 (oc5 (oc4 (oc3 (oc2 (oc1 x))))))) 127
theorem shrU' {a y : Nat} {k : Int} (hk : k = (y : Int)) (ha : a < 18446744073709551616) : shrV .u64 a k = ((a / 2 ^ y : Nat) : Int) := by
  rw [hk, shrU ha, Nat.shiftRight_eq_div_pow]
theorem andU' {a b : Nat} {k : Int} (hk : k = (b : Int)) (ha : a < 18446744073709551616) (hb : b < 18446744073709551616) : bitsV .and .u64 a k = ((a &&& b : Nat) : Int) := by
  rw [hk, andU ha hb]
theorem dlt {a : Nat} (y : Nat) (ha : a < 18446744073709551616) : a / 2 ^ y < 18446744073709551616 := Nat.lt_of_le_of_lt (Nat.div_le_self _ _) ha
theorem oc1_eq {x : Nat} (hx : x < 18446744073709551616) : oc1 (x : Int) = (Oc.f1 8 x : Nat) ∧ Oc.f1 8 x < 18446744073709551616 := by
  have h1 : x / 2 ^ 1 &&& 6148914691236517205 ≤ 6148914691236517205 := Nat.and_le_right
  have h2 : x &&& 6148914691236517205 ≤ 6148914691236517205 := Nat.and_le_right
  have e : Oc.f1 8 x = (x / 2 ^ 1 &&& 6148914691236517205) + (x &&& 6148914691236517205) := rfl
  rw [oc1, shrU' (k := 1) (y := 1) rfl hx, andU' (k := 6148914691236517205) (b := 6148914691236517205) rfl (dlt _ hx) (by decide), andU' (k := 6148914691236517205) (b := 6148914691236517205) rfl hx (by decide), addU (by omega), e]
  exact ⟨rfl, by omega⟩
theorem oc2_eq {x : Nat} (hx : x < 18446744073709551616) : oc2 (x : Int) = (Oc.f2 8 x : Nat) ∧ Oc.f2 8 x ≤ 7378697629483820646 := by
  have h1 : x / 2 ^ 2 &&& 3689348814741910323 ≤ 3689348814741910323 := Nat.and_le_right
  have h2 : x &&& 3689348814741910323 ≤ 3689348814741910323 := Nat.and_le_right
  have e : Oc.f2 8 x = (x / 2 ^ 2 &&& 3689348814741910323) + (x &&& 3689348814741910323) := rfl
  rw [oc2, shrU' (k := 2) (y := 2) rfl hx, andU' (k := 3689348814741910323) (b := 3689348814741910323) rfl (dlt _ hx) (by decide), andU' (k := 3689348814741910323) (b := 3689348814741910323) rfl hx (by decide), addU (by omega), e]
  exact ⟨rfl, by omega⟩
theorem oc3_eq {x : Nat} (hx : x ≤ 7378697629483820646) : oc3 (x : Int) = (Oc.f3 8 x : Nat) := by
  have h1 : x / 2 ^ 4 + x < 18446744073709551616 := by omega
  have e : Oc.f3 8 x = (x / 2 ^ 4 + x) &&& 1085102592571150095 := rfl
  rw [oc3, shrU' (k := 4) (y := 4) rfl (by omega), addU h1, andU' (k := 1085102592571150095) (b := 1085102592571150095) rfl h1 (by decide), e]
theorem ocA_eq {x : Nat} (hx : x < 18446744073709551616) : ocA (x : Int) = (((Am.bits x).length : Nat) : Int) := by
  obtain ⟨e1, l1⟩ := oc1_eq hx
  obtain ⟨e2, l2⟩ := oc2_eq l1
  rw [ocA, e1, e2, oc3_eq l2, Oc.f123, Oc.pop_8]
  have hf := Oc.fold (Oc.c_le x 0) (Oc.c_le x 1) (Oc.c_le x 2) (Oc.c_le x 3) (Oc.c_le x 4) (Oc.c_le x 5) (Oc.c_le x 6) (Oc.c_le x 7) (Oc.g3_8 x)
  generalize Oc.g3 8 x = z at hf
  obtain ⟨b0, b1, b2, b3, b4⟩ := hf
  rw [← b4]
  have a4 : oc4 (z : Int) = ((z + z / 256 : Nat) : Int) := by rw [oc4, shrU' (k := 8) (y := 8) rfl (by omega)]; exact addU (by show z + z / 256 < _; omega)
  rw [a4]
  generalize z + z / 256 = y at b1 b2 b3
  have a5 : oc5 (y : Int) = ((y + y / 65536 : Nat) : Int) := by rw [oc5, shrU' (k := 16) (y := 16) rfl (by omega)]; exact addU (by show y + y / 65536 < _; omega)
  rw [a5]
  generalize y + y / 65536 = u at b2 b3
  have a6 : oc6 (u : Int) = ((u + u / 4294967296 : Nat) : Int) := by rw [oc6, shrU' (k := 32) (y := 32) rfl (by omega)]; exact addU (by show u + u / 4294967296 < _; omega)
  rw [a6]
  generalize u + u / 4294967296 = t at b3
  rw [wrap_id (by omega) (by omega), show (127 : Int) = ((127 : Nat) : Int) from rfl, bitsV_and b3 (by decide), show 127 = 2 ^ 7 - 1 from rfl, Nat.and_two_pow_sub_one_eq_mod]
theorem ones_call [Tabs prog] {h : Heap} {x : Nat} (hx : x < 18446744073709551616) : APure prog 79 [.int .u64 (x : Int)] h (vint ((Am.bits x).length : Nat)) := by
  have hoc := ocA_eq hx
  refine s79_call (by simp) ?_
  simp (config := {maxSteps := 2000000}) only [s79, ↓aw_region, ↓aw_skip, ↓aw_seq, ↓aw_block, ↓aw_exit, ↓aw_ret, ↓sops_nil, ↓sops_go, ↓dops_nil, ↓dopsX_nil, ↓dopsR_nil, ↓vdn, vup, extr_20, extr_21, extr_30, extr_31, extr_32, List.map_cons, List.map_nil, cond_true, cond_false, aop, aThen, aBlock, argEnv, ev, sput, sputO, binK, binI, unK, builtinK, pickK, Nat.reduceBEq, Nat.reduceAdd, Int.reduceBEq, Int.reduceBNe, Int.reduceLT, aPost, resK, tup, tyf, convK, und_63, und_3, Int.reduceLE, true_and]
  exact congrArg (fun z : Int => vint z) hoc

theorem beq1 (b : Bool) : ((if b then (1 : Int) else 0) == 1) = b := by cases b <;> rfl
theorem beq0 (b : Bool) : ((if b then (1 : Int) else 0) == 0) = !b := by cases b <;> rfl
theorem and_pred_lt (s : Nat) (h : s ≠ 0) : s &&& (s - 1) < s := Nat.lt_of_le_of_lt Nat.and_le_right (by omega)
theorem ofNe {s : Nat} : ((s : Int) != 0) = decide (s ≠ 0) := by
  rw [Bool.eq_iff_iff, bne_iff_ne, decide_eq_true_eq]; omega
/-- The reference counts one by one. -/
theorem count_call [Tabs prog] {h : Heap} {s : Nat} (hs : s < 18446744073709551616) : APure prog 80 [.int .u64 (s : Int)] h (vint ((Am.bits s).length : Nat)) := by
  refine s80_call (by simp) ?_
  simp (config := {maxSteps := 2000000}) only [s80, ↓aw_region, ↓aw_skip, ↓aw_seq, ↓aw_block, ↓aw_exit, ↓aw_ret, ↓sops_nil, ↓sops_go, ↓dops_nil, ↓dopsX_nil, ↓dopsR_nil, ↓vdn, vup, extr_20, extr_21, extr_30, extr_31, extr_32, List.map_cons, List.map_nil, cond_true, cond_false, aop, aThen, aBlock, argEnv, ev, sput, sputO, binK, binI, unK, builtinK, pickK, Nat.reduceBEq, Nat.reduceAdd, Int.reduceBEq, Int.reduceBNe, Int.reduceLT, aPost, resK, tup, tyf, ↓aw_loop_eq]
  refine aws_hide fun Q hQ => ?_
  have hl : ∀ t, (Am.bits t).length ≤ 64 := fun t => by rw [Sr.bits_len]; have := List.countP_le_length (p := t.testBit) (l := List.range 64); rw [List.length_range] at this; exact this
  refine aw_loop (γ := Nat × Nat) (fun g => g.1 < 18446744073709551616 ∧ g.2 + (Am.bits g.1).length = (Am.bits s).length)
    (fun g => ([(0, vu g.1), (2, .int .i64 0), (3, vint g.2)], h)) (fun g => g.1) (s, 0) ⟨hs, Nat.zero_add _⟩ (by simp (config := {maxSteps := 2000000}) only [↓aw_region, ↓aw_skip, ↓aw_seq, ↓aw_block, ↓aw_exit, ↓aw_ret, ↓sops_nil, ↓sops_go, ↓dops_nil, ↓dopsX_nil, ↓dopsR_nil, ↓vdn, vup, extr_20, extr_21, extr_30, extr_31, extr_32, List.map_cons, List.map_nil, cond_true, cond_false, aop, aThen, aBlock, argEnv, ev, sput, sputO, binK, binI, unK, builtinK, pickK, Nat.reduceBEq, Nat.reduceAdd, Int.reduceBEq, Int.reduceBNe, Int.reduceLT, aPost, resK, tup, tyf, Int.natCast_zero]) rfl ?_
  rintro ⟨t, n⟩ ⟨ht, hn⟩
  simp only at ht hn
  refine aw_hide fun Q2 hQ2 => ?_
  have h64 := hl s
  by_cases h0 : t = 0
  · subst h0
    have hb : (Am.bits 0).length = 0 := rfl
    simp (config := {maxSteps := 2000000}) only [s80, ↓aw_region, ↓aw_skip, ↓aw_seq, ↓aw_block, ↓aw_exit, ↓aw_ret, ↓sops_nil, ↓sops_go, ↓dops_nil, ↓dopsX_nil, ↓dopsR_nil, ↓vdn, vup, extr_20, extr_21, extr_30, extr_31, extr_32, List.map_cons, List.map_nil, cond_true, cond_false, aop, aThen, aBlock, argEnv, ev, sput, sputO, binK, binI, unK, builtinK, pickK, Nat.reduceBEq, Nat.reduceAdd, Int.reduceBEq, Int.reduceBNe, Int.reduceLT, aPost, resK, tup, tyf, l80_0, gt_iff_lt, Int.natCast_zero, Int.lt_irrefl]
    refine hQ2 _ _ _ (hQ _ _ _ ?_)
    rw [hb, Nat.add_zero] at hn
    simp (config := {maxSteps := 2000000}) only [s80, ↓aw_region, ↓aw_skip, ↓aw_seq, ↓aw_block, ↓aw_exit, ↓aw_ret, ↓sops_nil, ↓sops_go, ↓dops_nil, ↓dopsX_nil, ↓dopsR_nil, ↓vdn, vup, extr_20, extr_21, extr_30, extr_31, extr_32, List.map_cons, List.map_nil, cond_true, cond_false, aop, aThen, aBlock, argEnv, ev, sput, sputO, binK, binI, unK, builtinK, pickK, Nat.reduceBEq, Nat.reduceAdd, Int.reduceBEq, Int.reduceBNe, Int.reduceLT, aPost, resK, tup, tyf, hn, if_true]
  · have hp : (0 : Int) < (t : Int) := by omega
    have hb := bits_stepU t ht h0
    rw [hb, List.length_cons] at hn
    have hlt := and_pred_lt t h0
    simp (config := {maxSteps := 2000000}) only [s80, ↓aw_region, ↓aw_skip, ↓aw_seq, ↓aw_block, ↓aw_exit, ↓aw_ret, ↓sops_nil, ↓sops_go, ↓dops_nil, ↓dopsX_nil, ↓dopsR_nil, ↓vdn, vup, extr_20, extr_21, extr_30, extr_31, extr_32, List.map_cons, List.map_nil, cond_true, cond_false, aop, aThen, aBlock, argEnv, ev, sput, sputO, binK, binI, unK, builtinK, pickK, Nat.reduceBEq, Nat.reduceAdd, Int.reduceBEq, Int.reduceBNe, Int.reduceLT, aPost, resK, tup, tyf, l80_0, gt_iff_lt, hp, add1 (show n < 9223372036854775807 by omega), subU1 (show 1 ≤ t by omega) ht, andU ht (show t - 1 < 18446744073709551616 by omega)]
    refine hQ2 _ _ _ ⟨(t &&& (t - 1), n + 1), ⟨by simp only; omega, by simp only; omega⟩, hlt, by simp (config := {maxSteps := 2000000}) only [↓aw_region, ↓aw_skip, ↓aw_seq, ↓aw_block, ↓aw_exit, ↓aw_ret, ↓sops_nil, ↓sops_go, ↓dops_nil, ↓dopsX_nil, ↓dopsR_nil, ↓vdn, vup, extr_20, extr_21, extr_30, extr_31, extr_32, List.map_cons, List.map_nil, cond_true, cond_false, aop, aThen, aBlock, argEnv, ev, sput, sputO, binK, binI, unK, builtinK, pickK, Nat.reduceBEq, Nat.reduceAdd, Int.reduceBEq, Int.reduceBNe, Int.reduceLT, aPost, resK, tup, tyf], rfl⟩

theorem clone_call [Tabs prog] {h : Heap} {v : Value} {xs : List Int} (hv : IntSl h v xs) (hl : xs.length < 1099511627776) : ACall prog 26 [v] h fun r h' => IntSl h' r xs ∧ ∃ g, h' = h ++ g := by
  refine s26_call (by simp) ?_
  have hv' := hv
  rcases hv with ⟨rfl, rfl⟩ | ⟨b, o, sp, cap, c, e, ro, rfl, hc, hb, hx⟩
  · simp (config := {maxSteps := 2000000}) only [s26, ↓aw_region, ↓aw_skip, ↓aw_seq, ↓aw_block, ↓aw_exit, ↓aw_ret, ↓sops_nil, ↓sops_go, ↓dops_nil, ↓dopsX_nil, ↓dopsR_nil, ↓vdn, vup, extr_20, extr_21, extr_30, extr_31, extr_32, List.map_cons, List.map_nil, cond_true, cond_false, aop, aThen, aBlock, argEnv, ev, sput, sputO, binK, binI, unK, builtinK, pickK, Nat.reduceBEq, Nat.reduceAdd, Int.reduceBEq, Int.reduceBNe, Int.reduceLT, aPost, resK, tup, tyf, Option.isSome_some]
    exact ⟨.inl ⟨rfl, rfl⟩, [], by rw [List.append_nil]⟩
  · simp (config := {maxSteps := 2000000}) only [s26, ↓aw_region, ↓aw_skip, ↓aw_seq, ↓aw_block, ↓aw_exit, ↓aw_ret, ↓sops_nil, ↓sops_go, ↓dops_nil, ↓dopsX_nil, ↓dopsR_nil, ↓vdn, vup, extr_20, extr_21, extr_30, extr_31, extr_32, List.map_cons, List.map_nil, cond_true, cond_false, aop, aThen, aBlock, argEnv, ev, sput, sputO, binK, binI, unK, builtinK, pickK, Nat.reduceBEq, Nat.reduceAdd, Int.reduceBEq, Int.reduceBNe, Int.reduceLT, aPost, resK, tup, tyf, Option.isSome_some]
    simp only [buildSliceK, el_22, zero_3, esz_3, reps, fillL, mkb, intsOf]
    refine And.intro rfl (And.intro Nat.zero_lt_one (And.intro (Nat.zero_le _) ?_))
    refine (hv'.grow [.ints [] 3 false]).copy app_22_22 hl (by rw [List.getElem?_append_right (Nat.le_refl _)]; simp) ?_
    intro r g hr _
    exact ⟨hr, _, List.append_assoc _ _ _⟩
theorem min80 (n : Nat) : (if (80 : Int) < n then 80 else (n : Int)) = ((min n 80 : Nat) : Int) := by split <;> omega
theorem list_call [Tabs prog] {h : Heap} {v : Value} {xs : List Int} (hv : IntSl h v xs) (hl : xs.length < 9223372036854775808) : ACall prog 18 [v] h fun r h' => IntSl h' r (xs.take 80) ∧ ∃ g, h' = h ++ g := by
  refine s18_call (by simp) ?_
  simp (config := {maxSteps := 2000000}) only [s18, ↓aw_region, ↓aw_skip, ↓aw_seq, ↓aw_block, ↓aw_exit, ↓aw_ret, ↓sops_nil, ↓sops_go, ↓dops_nil, ↓dopsX_nil, ↓dopsR_nil, ↓vdn, vup, extr_20, extr_21, extr_30, extr_31, extr_32, List.map_cons, List.map_nil, cond_true, cond_false, aop, aThen, aBlock, argEnv, ev, sput, sputO, binK, binI, unK, builtinK, pickK, Nat.reduceBEq, Nat.reduceAdd, Int.reduceBEq, Int.reduceBNe, Int.reduceLT, aPost, resK, tup, tyf, hv.len, mmK, Bool.false_eq_true, if_false, gt_iff_lt, min80, Option.map_none, Option.map_some]
  refine hv.pre el_22 esz_3 (Nat.min_le_left _ _) ?_
  intro v' hv'
  have e : xs.take (min xs.length 80) = xs.take 80 := by
    by_cases h : xs.length ≤ 80
    · rw [Nat.min_eq_left h, List.take_length, List.take_of_length_le h]
    · rw [Nat.min_eq_right (by omega)]
  rw [e] at hv'
  simp (config := {maxSteps := 2000000}) only [↓aw_region, ↓aw_skip, ↓aw_seq, ↓aw_block, ↓aw_exit, ↓aw_ret, ↓sops_nil, ↓sops_go, ↓dops_nil, ↓dopsX_nil, ↓dopsR_nil, ↓vdn, vup, extr_20, extr_21, extr_30, extr_31, extr_32, List.map_cons, List.map_nil, cond_true, cond_false, aop, aThen, aBlock, argEnv, ev, sput, sputO, binK, binI, unK, builtinK, pickK, Nat.reduceBEq, Nat.reduceAdd, Int.reduceBEq, Int.reduceBNe, Int.reduceLT, aPost, resK, tup, tyf, callK, List.nil_append, List.append_nil]
  exact clone_call hv' (by simp; omega)
theorem equal_call [Tabs prog] {h : Heap} {v w : Value} {xs ys : List Int} (hv : IntSl h v xs) (hw : IntSl h w ys) (hl : xs.length < 9223372036854775808) (hl2 : ys.length < 9223372036854775808) :
    APure prog 24 [v, w] h (.bool (decide (xs = ys))) := by
  refine s24_call (by simp) ?_
  by_cases hlen : xs.length = ys.length
  · have hne : ((xs.length : Int) != ys.length) = false := by simp [hlen]
    simp (config := {maxSteps := 2000000}) only [s24, ↓aw_region, ↓aw_skip, ↓aw_seq, ↓aw_block, ↓aw_exit, ↓aw_ret, ↓sops_nil, ↓sops_go, ↓dops_nil, ↓dopsX_nil, ↓dopsR_nil, ↓vdn, vup, extr_20, extr_21, extr_30, extr_31, extr_32, List.map_cons, List.map_nil, cond_true, cond_false, aop, aThen, aBlock, argEnv, ev, sput, sputO, binK, binI, unK, builtinK, pickK, Nat.reduceBEq, Nat.reduceAdd, Int.reduceBEq, Int.reduceBNe, Int.reduceLT, aPost, resK, tup, tyf, hv.len, hw.len, hne, ↓aw_loop_eq]
    refine aws_hide fun Q hQ => ?_
    refine aw_loop (γ := Nat) (fun i => i ≤ xs.length ∧ ∀ k, k < i → xs.getD k 0 = ys.getD k 0)
      (fun i => ([(0, v), (1, w), (12, vint xs.length), (13, vint i)], h)) (fun i => xs.length - i) 0 ⟨by omega, fun _ hk => by omega⟩ (by simp (config := {maxSteps := 2000000}) only [↓aw_region, ↓aw_skip, ↓aw_seq, ↓aw_block, ↓aw_exit, ↓aw_ret, ↓sops_nil, ↓sops_go, ↓dops_nil, ↓dopsX_nil, ↓dopsR_nil, ↓vdn, vup, extr_20, extr_21, extr_30, extr_31, extr_32, List.map_cons, List.map_nil, cond_true, cond_false, aop, aThen, aBlock, argEnv, ev, sput, sputO, binK, binI, unK, builtinK, pickK, Nat.reduceBEq, Nat.reduceAdd, Int.reduceBEq, Int.reduceBNe, Int.reduceLT, aPost, resK, tup, tyf, Int.natCast_zero]) rfl ?_
    rintro i ⟨hi, hok⟩
    refine aw_hide fun Q2 hQ2 => ?_
    by_cases hin : (i : Int) < xs.length
    · have h1 : i < xs.length := by omega
      have h2 : i < ys.length := by omega
      simp (config := {maxSteps := 2000000}) only [s24, ↓aw_region, ↓aw_skip, ↓aw_seq, ↓aw_block, ↓aw_exit, ↓aw_ret, ↓sops_nil, ↓sops_go, ↓dops_nil, ↓dopsX_nil, ↓dopsR_nil, ↓vdn, vup, extr_20, extr_21, extr_30, extr_31, extr_32, List.map_cons, List.map_nil, cond_true, cond_false, aop, aThen, aBlock, argEnv, ev, sput, sputO, binK, binI, unK, builtinK, pickK, Nat.reduceBEq, Nat.reduceAdd, Int.reduceBEq, Int.reduceBNe, Int.reduceLT, aPost, resK, tup, tyf, l24_0, hin]
      refine aw_draw [] (by kernel_rfl) (by kernel_rfl) (by kernel_rfl) ?_
      by_cases heq : xs.getD i 0 = ys.getD i 0
      · have hb : (xs.getD i 0 != ys.getD i 0) = false := by rw [heq]; exact bne_self_eq_false _
        simp (config := {maxSteps := 2000000}) only [s24, ↓aw_region, ↓aw_skip, ↓aw_seq, ↓aw_block, ↓aw_exit, ↓aw_ret, ↓sops_nil, ↓sops_go, ↓dops_nil, ↓dopsX_nil, ↓dopsR_nil, ↓vdn, vup, extr_20, extr_21, extr_30, extr_31, extr_32, List.map_cons, List.map_nil, cond_true, cond_false, aop, aThen, aBlock, argEnv, ev, sput, sputO, binK, binI, unK, builtinK, pickK, Nat.reduceBEq, Nat.reduceAdd, Int.reduceBEq, Int.reduceBNe, Int.reduceLT, aPost, resK, tup, tyf, hv.idx el_22 esz_3 h1, hv.load shp_3 h1, hw.idx el_22 esz_3 h2, hw.load shp_3 h2, hb, add1 (show i < 9223372036854775807 by omega)]
        refine hQ2 _ _ _ ⟨i + 1, ⟨by omega, fun k hk => ?_⟩, by omega, by simp (config := {maxSteps := 2000000}) only [↓aw_region, ↓aw_skip, ↓aw_seq, ↓aw_block, ↓aw_exit, ↓aw_ret, ↓sops_nil, ↓sops_go, ↓dops_nil, ↓dopsX_nil, ↓dopsR_nil, ↓vdn, vup, extr_20, extr_21, extr_30, extr_31, extr_32, List.map_cons, List.map_nil, cond_true, cond_false, aop, aThen, aBlock, argEnv, ev, sput, sputO, binK, binI, unK, builtinK, pickK, Nat.reduceBEq, Nat.reduceAdd, Int.reduceBEq, Int.reduceBNe, Int.reduceLT, aPost, resK, tup, tyf], rfl⟩
        by_cases hki : k = i
        · subst hki; exact heq
        · exact hok k (by omega)
      · have hb : (xs.getD i 0 != ys.getD i 0) = true := by simp only [bne_iff_ne, ne_eq]; exact heq
        simp (config := {maxSteps := 2000000}) only [s24, ↓aw_region, ↓aw_skip, ↓aw_seq, ↓aw_block, ↓aw_exit, ↓aw_ret, ↓sops_nil, ↓sops_go, ↓dops_nil, ↓dopsX_nil, ↓dopsR_nil, ↓vdn, vup, extr_20, extr_21, extr_30, extr_31, extr_32, List.map_cons, List.map_nil, cond_true, cond_false, aop, aThen, aBlock, argEnv, ev, sput, sputO, binK, binI, unK, builtinK, pickK, Nat.reduceBEq, Nat.reduceAdd, Int.reduceBEq, Int.reduceBNe, Int.reduceLT, aPost, resK, tup, tyf, hv.idx el_22 esz_3 h1, hv.load shp_3 h1, hw.idx el_22 esz_3 h2, hw.load shp_3 h2, hb]
        refine hQ2 _ _ _ (hQ _ _ _ ?_)
        have hne : decide (xs = ys) = false := decide_eq_false (fun he => heq (by rw [he]))
        simp (config := {maxSteps := 2000000}) only [↓aw_region, ↓aw_skip, ↓aw_seq, ↓aw_block, ↓aw_exit, ↓aw_ret, ↓sops_nil, ↓sops_go, ↓dops_nil, ↓dopsX_nil, ↓dopsR_nil, ↓vdn, vup, extr_20, extr_21, extr_30, extr_31, extr_32, List.map_cons, List.map_nil, cond_true, cond_false, aop, aThen, aBlock, argEnv, ev, sput, sputO, binK, binI, unK, builtinK, pickK, Nat.reduceBEq, Nat.reduceAdd, Int.reduceBEq, Int.reduceBNe, Int.reduceLT, aPost, resK, tup, tyf, hne]
    · obtain rfl : i = xs.length := by omega
      simp (config := {maxSteps := 2000000}) only [s24, ↓aw_region, ↓aw_skip, ↓aw_seq, ↓aw_block, ↓aw_exit, ↓aw_ret, ↓sops_nil, ↓sops_go, ↓dops_nil, ↓dopsX_nil, ↓dopsR_nil, ↓vdn, vup, extr_20, extr_21, extr_30, extr_31, extr_32, List.map_cons, List.map_nil, cond_true, cond_false, aop, aThen, aBlock, argEnv, ev, sput, sputO, binK, binI, unK, builtinK, pickK, Nat.reduceBEq, Nat.reduceAdd, Int.reduceBEq, Int.reduceBNe, Int.reduceLT, aPost, resK, tup, tyf, l24_0, Int.lt_irrefl]
      refine hQ2 _ _ _ (hQ _ _ _ ?_)
      have he : decide (xs = ys) = true := decide_eq_true (List.ext_getElem hlen fun k h1 h2 => by
        have := hok k h1
        simpa [List.getD, List.getElem?_eq_getElem h1, List.getElem?_eq_getElem h2] using this)
      simp (config := {maxSteps := 2000000}) only [s24, ↓aw_region, ↓aw_skip, ↓aw_seq, ↓aw_block, ↓aw_exit, ↓aw_ret, ↓sops_nil, ↓sops_go, ↓dops_nil, ↓dopsX_nil, ↓dopsR_nil, ↓vdn, vup, extr_20, extr_21, extr_30, extr_31, extr_32, List.map_cons, List.map_nil, cond_true, cond_false, aop, aThen, aBlock, argEnv, ev, sput, sputO, binK, binI, unK, builtinK, pickK, Nat.reduceBEq, Nat.reduceAdd, Int.reduceBEq, Int.reduceBNe, Int.reduceLT, aPost, resK, tup, tyf, if_true, he]
  · have hne : ((xs.length : Int) != ys.length) = true := by simp only [bne_iff_ne, ne_eq]; omega
    have hf : decide (xs = ys) = false := decide_eq_false (fun he => hlen (by rw [he]))
    simp (config := {maxSteps := 2000000}) only [s24, ↓aw_region, ↓aw_skip, ↓aw_seq, ↓aw_block, ↓aw_exit, ↓aw_ret, ↓sops_nil, ↓sops_go, ↓dops_nil, ↓dopsX_nil, ↓dopsR_nil, ↓vdn, vup, extr_20, extr_21, extr_30, extr_31, extr_32, List.map_cons, List.map_nil, cond_true, cond_false, aop, aThen, aBlock, argEnv, ev, sput, sputO, binK, binI, unK, builtinK, pickK, Nat.reduceBEq, Nat.reduceAdd, Int.reduceBEq, Int.reduceBNe, Int.reduceLT, aPost, resK, tup, tyf, hv.len, hw.len, hne, hf]
end Go.Proofs.Tryd.Am

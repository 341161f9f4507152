/-
  sure: how many words of a set can be in one code: the reference's count.
-/
import Derived.Test.YtaagkbbphgdcdaaDoorSuMost
set_option linter.all false
namespace Go.Proofs.Tryd.Am
open Go.Am Sr
set_option maxRecDepth 100000
set_option maxHeartbeats 1000000

/-- What a word is near to, and itself. -/
def arW (nr : List Nat) (i : Nat) : Nat := nb nr i ||| 2 ^ i
def arV (nr : List Nat) : List Value := (List.range nr.length).map fun i => vu (arW nr i)
theorem arV_len (nr : List Nat) : (arV nr).length = nr.length := by simp [arV]
theorem arV_get {nr : List Nat} {i : Nat} (h : i < nr.length) : (arV nr).getD i undef = vu (arW nr i) := by
  simp [arV, List.getD, List.getElem?_map, List.getElem?_range h]
theorem arW_lt {nr : List Nat} (g : Gr nr) {i : Nat} (h : i < nr.length) : arW nr i < 18446744073709551616 := by
  rw [← p64]
  have := g.len
  exact Nat.or_lt_two_pow (by rw [p64]; exact nb64 g i) (by rw [p64]; exact bit64 (by omega))
theorem ar_cut (nr : List Nat) (s i : Nat) : less s (arW nr i) = cut nr s i := cut_or
def cntA (nr : List Nat) (t i : Nat) : Nat := (Am.bits (t &&& arW nr i)).length
theorem cntA_gt {nr : List Nat} (g : Gr nr) {s t i : Nat} (hst : ∀ x, s.testBit x = true → t.testBit x = true) (hi : i < 64) (hs : s.testBit i = true) : (Am.bits (nb nr i &&& s)).length + 1 ≤ cntA nr t i := by
  rw [cntA, bits_len, bits_len, countP_less (t &&& arW nr i).testBit (List.range 64) List.nodup_range (List.mem_range.2 hi) (by rw [Nat.testBit_and, hst i hs, arW, Nat.testBit_or, Nat.testBit_two_pow]; simp)]
  refine Nat.succ_le_succ (List.countP_mono_left fun x _ hx => ?_)
  rw [Nat.testBit_and, Bool.and_eq_true] at hx
  have hne : x ≠ i := fun e => by
    have := hx.1
    rw [e, g.irr] at this; cases this
  rw [Nat.testBit_and, arW, Nat.testBit_or, hst x hx.2, hx.1]
  simp [hne]
theorem cntA_le (nr : List Nat) (t i : Nat) : cntA nr t i ≤ 64 := by
  rw [cntA, bits_len]
  have := List.countP_le_length (p := (t &&& arW nr i).testBit) (l := List.range 64)
  rw [List.length_range] at this; exact this
theorem zero_of {s n : Nat} (hs : s < 2 ^ n) (h : ∀ j, j < n → s.testBit j = false) : s = 0 := by
  apply Nat.eq_of_testBit_eq
  intro i
  rw [Nat.zero_testBit]
  cases hb : s.testBit i with
  | false => rfl
  | true => rw [← hb]; exact h i (bit_lt hs hb)

theorem s55_callW [BitTab prog 0] {args : List Value} {h : Heap} {Q : Value → Heap → Prop} (hsz : args.length ≤ 81) (hk : AWS Tryd.prog 81 s55 (aPost Tryd.prog [.tmp 4] Q) (argEnv 0 args) h) : ACall Tryd.prog 55 args h Q :=
  acall_w Tryd.func55 rfl (enters_of Tryd.func55 (by kernel_rfl) rfl) rfl rfl (by decide) s55_strip s55_ok hsz hk

theorem rmost_call [BitTab prog 0] {h : Heap} {v : Value} {nr : List Nat} (hv : ValSl h v (arV nr)) (g : Gr nr) : ∀ s, s < 2 ^ nr.length → APure prog 55 [v, vu s] h (vint (A nr s : Nat)) := by
  intro s
  induction s using Nat.strongRecOn with
  | _ t ih =>
    intro h2
    have n64 := g.len
    have hl : (arV nr).length = nr.length := arV_len nr
    have ht := lt64 g h2
    have hA := A_le nr t
    have hlen : ∀ {K : Value → Prop}, lenK v K = K (vint nr.length) := fun {K} => by rw [hv.len, hl]
    have ix : ∀ i, i < nr.length → ∀ {K : Value → Prop}, idxAddrK prog 60 v (vint i) K = K (elemP v 1 i) := fun i h1 {K} => hv.idx el_60 esz_63 (by rw [hl]; exact h1) K
    have ld : ∀ i, i < nr.length → ∀ {K : Value → Prop}, loadK prog h 63 (elemP v 1 i) K = K (vu (arW nr i)) := fun i h1 {K} => by
      rw [hv.load shp_63 (by rw [hl]; exact h1), arV_get h1]
    have hnn : ∀ i : Nat, (0 : Int) ≤ (i : Int) := Int.natCast_nonneg
    refine s55_call (by simp) ?_
    simp (config := {maxSteps := 2000000}) only [s55, ↓aw_region, ↓aw_skip, ↓aw_seq, ↓aw_block, ↓aw_exit, ↓aw_ret, ↓sops_nil, ↓sops_go, ↓dops_nil, ↓dopsX_nil, ↓dopsR_nil, ↓vdn, vup, extr_20, extr_21, extr_30, extr_31, extr_32, List.map_cons, List.map_nil, cond_true, cond_false, aop, aThen, aBlock, argEnv, ev, sput, sputO, binK, binI, unK, builtinK, pickK, Nat.reduceBEq, Nat.reduceAdd, Int.reduceBEq, Int.reduceBNe, Int.reduceLT, aPost, resK, tup, tyf, ↓aw_loop_eq]
    refine aws_hide fun Q hQ => ?_
    refine aw_loopW (γ := Unit) (fun _ => True) (fun a => ([(0, v), (1, vu t), (4, .int .i64 0), (5, .int .i64 0)], h)) (fun _ => 0) () trivial (by simp (config := {maxSteps := 2000000}) only [↓aw_region, ↓aw_skip, ↓aw_seq, ↓aw_block, ↓aw_exit, ↓aw_ret, ↓sops_nil, ↓sops_go, ↓dops_nil, ↓dopsX_nil, ↓dopsR_nil, ↓vdn, vup, extr_20, extr_21, extr_30, extr_31, extr_32, List.map_cons, List.map_nil, cond_true, cond_false, aop, aThen, aBlock, argEnv, ev, sput, sputO, binK, binI, unK, builtinK, pickK, Nat.reduceBEq, Nat.reduceAdd, Int.reduceBEq, Int.reduceBNe, Int.reduceLT, aPost, resK, tup, tyf]) rfl ?_
    rintro _ _
    refine aws_hide fun Q2 hQ2 => ?_
    simp only [l55_2]
    refine aws_cut fun N hN => ?_
    by_cases t0 : t = 0
    · subst t0
      simp (config := {maxSteps := 2000000}) only [s55, ↓aw_region, ↓aw_skip, ↓aw_seq, ↓aw_block, ↓aw_exit, ↓aw_ret, ↓sops_nil, ↓sops_go, ↓dops_nil, ↓dopsX_nil, ↓dopsR_nil, ↓vdn, vup, extr_20, extr_21, extr_30, extr_31, extr_32, List.map_cons, List.map_nil, cond_true, cond_false, aop, aThen, aBlock, argEnv, ev, sput, sputO, binK, binI, unK, builtinK, pickK, Nat.reduceBEq, Nat.reduceAdd, Int.reduceBEq, Int.reduceBNe, Int.reduceLT, aPost, resK, tup, tyf, ofNe, ne_eq, not_true_eq_false, decide_false]
      refine hQ2 _ _ _ (hQ _ _ _ ?_)
      rw [A_zero]
      simp (config := {maxSteps := 2000000}) only [s55, ↓aw_region, ↓aw_skip, ↓aw_seq, ↓aw_block, ↓aw_exit, ↓aw_ret, ↓sops_nil, ↓sops_go, ↓dops_nil, ↓dopsX_nil, ↓dopsR_nil, ↓vdn, vup, extr_20, extr_21, extr_30, extr_31, extr_32, List.map_cons, List.map_nil, cond_true, cond_false, aop, aThen, aBlock, argEnv, ev, sput, sputO, binK, binI, unK, builtinK, pickK, Nat.reduceBEq, Nat.reduceAdd, Int.reduceBEq, Int.reduceBNe, Int.reduceLT, aPost, resK, tup, tyf, if_true, Int.natCast_zero]
    simp (config := {maxSteps := 2000000}) only [s55, ↓aw_region, ↓aw_skip, ↓aw_seq, ↓aw_block, ↓aw_exit, ↓aw_ret, ↓sops_nil, ↓sops_go, ↓dops_nil, ↓dopsX_nil, ↓dopsR_nil, ↓vdn, vup, extr_20, extr_21, extr_30, extr_31, extr_32, List.map_cons, List.map_nil, cond_true, cond_false, aop, aThen, aBlock, argEnv, ev, sput, sputO, binK, binI, unK, builtinK, pickK, Nat.reduceBEq, Nat.reduceAdd, Int.reduceBEq, Int.reduceBNe, Int.reduceLT, aPost, resK, tup, tyf, ofNe, ne_eq, t0, not_false_eq_true, decide_true]
    refine hN [(0, v), (1, vu t), (4, .int .i64 0), (5, .int .i64 0)] _ _ ?_ (by simp (config := {maxSteps := 2000000}) only [↓aw_region, ↓aw_skip, ↓aw_seq, ↓aw_block, ↓aw_exit, ↓aw_ret, ↓sops_nil, ↓sops_go, ↓dops_nil, ↓dopsX_nil, ↓dopsR_nil, ↓vdn, vup, extr_20, extr_21, extr_30, extr_31, extr_32, List.map_cons, List.map_nil, cond_true, cond_false, aop, aThen, aBlock, argEnv, ev, sput, sputO, binK, binI, unK, builtinK, pickK, Nat.reduceBEq, Nat.reduceAdd, Int.reduceBEq, Int.reduceBNe, Int.reduceLT, aPost, resK, tup, tyf])
    clear hN N
    refine aws_block ?_
    refine aws_cut fun N hN => ?_
    simp (config := {maxSteps := 2000000}) only [s55, ↓aw_region, ↓aw_skip, ↓aw_seq, ↓aw_block, ↓aw_exit, ↓aw_ret, ↓sops_nil, ↓sops_go, ↓dops_nil, ↓dopsX_nil, ↓dopsR_nil, ↓vdn, vup, extr_20, extr_21, extr_30, extr_31, extr_32, List.map_cons, List.map_nil, cond_true, cond_false, aop, aThen, aBlock, argEnv, ev, sput, sputO, binK, binI, unK, builtinK, pickK, Nat.reduceBEq, Nat.reduceAdd, Int.reduceBEq, Int.reduceBNe, Int.reduceLT, aPost, resK, tup, tyf]
    refine hN [(0, v), (1, vu t), (4, .int .i64 0), (5, .int .i64 0), (6, .int .i64 (-1)), (7, .int .i64 0)] _ _ ?_ (by simp (config := {maxSteps := 2000000}) only [↓aw_region, ↓aw_skip, ↓aw_seq, ↓aw_block, ↓aw_exit, ↓aw_ret, ↓sops_nil, ↓sops_go, ↓dops_nil, ↓dopsX_nil, ↓dopsR_nil, ↓vdn, vup, extr_20, extr_21, extr_30, extr_31, extr_32, List.map_cons, List.map_nil, cond_true, cond_false, aop, aThen, aBlock, argEnv, ev, sput, sputO, binK, binI, unK, builtinK, pickK, Nat.reduceBEq, Nat.reduceAdd, Int.reduceBEq, Int.reduceBNe, Int.reduceLT, aPost, resK, tup, tyf])
    clear hN N
    refine aws_cut fun N hN => ?_
    simp (config := {maxSteps := 2000000}) only [s55, ↓aw_region, ↓aw_skip, ↓aw_seq, ↓aw_block, ↓aw_exit, ↓aw_ret, ↓sops_nil, ↓sops_go, ↓dops_nil, ↓dopsX_nil, ↓dopsR_nil, ↓vdn, vup, extr_20, extr_21, extr_30, extr_31, extr_32, List.map_cons, List.map_nil, cond_true, cond_false, aop, aThen, aBlock, argEnv, ev, sput, sputO, binK, binI, unK, builtinK, pickK, Nat.reduceBEq, Nat.reduceAdd, Int.reduceBEq, Int.reduceBNe, Int.reduceLT, aPost, resK, tup, tyf, hlen, ↓aw_loop_eq]
    refine aws_hide fun Q3 hQ3 => ?_
    refine aw_loop (γ := Nat × Int × Nat) (fun a => a.1 ≤ nr.length ∧ (∀ j, j < a.1 → t.testBit j = true → cntA nr t j ≤ a.2.2) ∧ (a.2.2 = 0 ∨ ∃ w : Nat, a.2.1 = w ∧ t.testBit w = true ∧ a.2.2 = cntA nr t w))
      (fun a => ([(0, v), (1, vu t), (4, .int .i64 0), (5, .int .i64 0), (6, .int .i64 a.2.1), (7, vint a.2.2), (17, v), (18, vint nr.length), (19, vint a.1)], h)) (fun a => nr.length - a.1) (0, -1, 0) ⟨Nat.zero_le _, fun _ h => by simp at h, .inl rfl⟩ (by simp (config := {maxSteps := 2000000}) only [↓aw_region, ↓aw_skip, ↓aw_seq, ↓aw_block, ↓aw_exit, ↓aw_ret, ↓sops_nil, ↓sops_go, ↓dops_nil, ↓dopsX_nil, ↓dopsR_nil, ↓vdn, vup, extr_20, extr_21, extr_30, extr_31, extr_32, List.map_cons, List.map_nil, cond_true, cond_false, aop, aThen, aBlock, argEnv, ev, sput, sputO, binK, binI, unK, builtinK, pickK, Nat.reduceBEq, Nat.reduceAdd, Int.reduceBEq, Int.reduceBNe, Int.reduceLT, aPost, resK, tup, tyf, Int.natCast_zero]) rfl ?_
    rintro ⟨i, w, d⟩ ⟨hi, hmx, hw⟩
    simp only at hi hmx hw
    refine aw_hide fun Q4 hQ4 => ?_
    by_cases hin : (i : Int) < nr.length
    · have hi' : i < nr.length := by omega
      cases hb : t.testBit i with
      | false =>
        simp (config := {maxSteps := 2000000}) only [s55, ↓aw_region, ↓aw_skip, ↓aw_seq, ↓aw_block, ↓aw_exit, ↓aw_ret, ↓sops_nil, ↓sops_go, ↓dops_nil, ↓dopsX_nil, ↓dopsR_nil, ↓vdn, vup, extr_20, extr_21, extr_30, extr_31, extr_32, List.map_cons, List.map_nil, cond_true, cond_false, aop, aThen, aBlock, argEnv, ev, sput, sputO, binK, binI, unK, builtinK, pickK, Nat.reduceBEq, Nat.reduceAdd, Int.reduceBEq, Int.reduceBNe, Int.reduceLT, aPost, resK, tup, tyf, l55_0, hin, ix i hi', ld i hi', hnn, testU ht, hb, beq1, Bool.false_eq_true, if_false, add1 (show i < 9223372036854775807 by omega)]
        refine hQ4 _ _ _ ⟨(i + 1, w, d), ⟨by simp only; omega, fun j hj hb2 => ?_, hw⟩, by simp only; omega, by simp (config := {maxSteps := 2000000}) only [↓aw_region, ↓aw_skip, ↓aw_seq, ↓aw_block, ↓aw_exit, ↓aw_ret, ↓sops_nil, ↓sops_go, ↓dops_nil, ↓dopsX_nil, ↓dopsR_nil, ↓vdn, vup, extr_20, extr_21, extr_30, extr_31, extr_32, List.map_cons, List.map_nil, cond_true, cond_false, aop, aThen, aBlock, argEnv, ev, sput, sputO, binK, binI, unK, builtinK, pickK, Nat.reduceBEq, Nat.reduceAdd, Int.reduceBEq, Int.reduceBNe, Int.reduceLT, aPost, resK, tup, tyf], rfl⟩
        by_cases hji : j = i
        · subst hji; rw [hb] at hb2; cases hb2
        · exact hmx j (by omega) hb2
      | true =>
        have hct := count_call (h := h) (s := t &&& arW nr i) (Nat.lt_of_le_of_lt Nat.and_le_left ht)
        obtain ⟨c, hcd⟩ : ∃ c, c = cntA nr t i := ⟨_, rfl⟩
        change APure prog 80 _ h (vint ((cntA nr t i : Nat) : Int)) at hct
        rw [← hcd] at hct
        simp (config := {maxSteps := 2000000}) only [s55, ↓aw_region, ↓aw_skip, ↓aw_seq, ↓aw_block, ↓aw_exit, ↓aw_ret, ↓sops_nil, ↓sops_go, ↓dops_nil, ↓dopsX_nil, ↓dopsR_nil, ↓vdn, vup, extr_20, extr_21, extr_30, extr_31, extr_32, List.map_cons, List.map_nil, cond_true, cond_false, aop, aThen, aBlock, argEnv, ev, sput, sputO, binK, binI, unK, builtinK, pickK, Nat.reduceBEq, Nat.reduceAdd, Int.reduceBEq, Int.reduceBNe, Int.reduceLT, aPost, resK, tup, tyf, l55_0, hin, ix i hi', ld i hi', hnn, testU ht, hb, beq1, if_true, andU ht (arW_lt g hi'), callK, List.nil_append, List.append_nil, List.toList_toArray, List.cons_append]
        refine hct.mono ?_
        rintro _ h ⟨rfl, rfl⟩
        by_cases hcdd : (d : Int) < (c : Int)
        · simp (config := {maxSteps := 2000000}) only [s55, ↓aw_region, ↓aw_skip, ↓aw_seq, ↓aw_block, ↓aw_exit, ↓aw_ret, ↓sops_nil, ↓sops_go, ↓dops_nil, ↓dopsX_nil, ↓dopsR_nil, ↓vdn, vup, extr_20, extr_21, extr_30, extr_31, extr_32, List.map_cons, List.map_nil, cond_true, cond_false, aop, aThen, aBlock, argEnv, ev, sput, sputO, binK, binI, unK, builtinK, pickK, Nat.reduceBEq, Nat.reduceAdd, Int.reduceBEq, Int.reduceBNe, Int.reduceLT, aPost, resK, tup, tyf, gt_iff_lt, hcdd, add1 (show i < 9223372036854775807 by omega)]
          refine hQ4 _ _ _ ⟨(i + 1, i, c), ⟨by simp only; omega, fun j hj hb2 => ?_, .inr ⟨i, rfl, hb, hcd⟩⟩, by simp only; omega, by simp (config := {maxSteps := 2000000}) only [↓aw_region, ↓aw_skip, ↓aw_seq, ↓aw_block, ↓aw_exit, ↓aw_ret, ↓sops_nil, ↓sops_go, ↓dops_nil, ↓dopsX_nil, ↓dopsR_nil, ↓vdn, vup, extr_20, extr_21, extr_30, extr_31, extr_32, List.map_cons, List.map_nil, cond_true, cond_false, aop, aThen, aBlock, argEnv, ev, sput, sputO, binK, binI, unK, builtinK, pickK, Nat.reduceBEq, Nat.reduceAdd, Int.reduceBEq, Int.reduceBNe, Int.reduceLT, aPost, resK, tup, tyf], rfl⟩
          simp only
          by_cases hji : j = i
          · subst hji; omega
          · have := hmx j (by simp only at hj; omega) hb2; omega
        · simp (config := {maxSteps := 2000000}) only [s55, ↓aw_region, ↓aw_skip, ↓aw_seq, ↓aw_block, ↓aw_exit, ↓aw_ret, ↓sops_nil, ↓sops_go, ↓dops_nil, ↓dopsX_nil, ↓dopsR_nil, ↓vdn, vup, extr_20, extr_21, extr_30, extr_31, extr_32, List.map_cons, List.map_nil, cond_true, cond_false, aop, aThen, aBlock, argEnv, ev, sput, sputO, binK, binI, unK, builtinK, pickK, Nat.reduceBEq, Nat.reduceAdd, Int.reduceBEq, Int.reduceBNe, Int.reduceLT, aPost, resK, tup, tyf, gt_iff_lt, hcdd, add1 (show i < 9223372036854775807 by omega)]
          refine hQ4 _ _ _ ⟨(i + 1, w, d), ⟨by simp only; omega, fun j hj hb2 => ?_, hw⟩, by simp only; omega, by simp (config := {maxSteps := 2000000}) only [↓aw_region, ↓aw_skip, ↓aw_seq, ↓aw_block, ↓aw_exit, ↓aw_ret, ↓sops_nil, ↓sops_go, ↓dops_nil, ↓dopsX_nil, ↓dopsR_nil, ↓vdn, vup, extr_20, extr_21, extr_30, extr_31, extr_32, List.map_cons, List.map_nil, cond_true, cond_false, aop, aThen, aBlock, argEnv, ev, sput, sputO, binK, binI, unK, builtinK, pickK, Nat.reduceBEq, Nat.reduceAdd, Int.reduceBEq, Int.reduceBNe, Int.reduceLT, aPost, resK, tup, tyf], rfl⟩
          simp only
          by_cases hji : j = i
          · subst hji; omega
          · exact hmx j (by simp only at hj; omega) hb2
    obtain rfl : i = nr.length := by omega
    simp (config := {maxSteps := 2000000}) only [s55, ↓aw_region, ↓aw_skip, ↓aw_seq, ↓aw_block, ↓aw_exit, ↓aw_ret, ↓sops_nil, ↓sops_go, ↓dops_nil, ↓dopsX_nil, ↓dopsR_nil, ↓vdn, vup, extr_20, extr_21, extr_30, extr_31, extr_32, List.map_cons, List.map_nil, cond_true, cond_false, aop, aThen, aBlock, argEnv, ev, sput, sputO, binK, binI, unK, builtinK, pickK, Nat.reduceBEq, Nat.reduceAdd, Int.reduceBEq, Int.reduceBNe, Int.reduceLT, aPost, resK, tup, tyf, l55_0, Int.lt_irrefl]
    refine hQ4 _ _ _ (hQ3 _ _ _ ?_)
    simp (config := {maxSteps := 2000000}) only [s55, ↓aw_region, ↓aw_skip, ↓aw_seq, ↓aw_block, ↓aw_exit, ↓aw_ret, ↓sops_nil, ↓sops_go, ↓dops_nil, ↓dopsX_nil, ↓dopsR_nil, ↓vdn, vup, extr_20, extr_21, extr_30, extr_31, extr_32, List.map_cons, List.map_nil, cond_true, cond_false, aop, aThen, aBlock, argEnv, ev, sput, sputO, binK, binI, unK, builtinK, pickK, Nat.reduceBEq, Nat.reduceAdd, Int.reduceBEq, Int.reduceBNe, Int.reduceLT, aPost, resK, tup, tyf, if_true]
    refine hN [(0, v), (1, vu t), (4, .int .i64 0), (5, .int .i64 0), (6, .int .i64 w), (7, vint d)] _ _ ?_ (by simp (config := {maxSteps := 2000000}) only [↓aw_region, ↓aw_skip, ↓aw_seq, ↓aw_block, ↓aw_exit, ↓aw_ret, ↓sops_nil, ↓sops_go, ↓dops_nil, ↓dopsX_nil, ↓dopsR_nil, ↓vdn, vup, extr_20, extr_21, extr_30, extr_31, extr_32, List.map_cons, List.map_nil, cond_true, cond_false, aop, aThen, aBlock, argEnv, ev, sput, sputO, binK, binI, unK, builtinK, pickK, Nat.reduceBEq, Nat.reduceAdd, Int.reduceBEq, Int.reduceBNe, Int.reduceLT, aPost, resK, tup, tyf])
    clear hN N hQ4 Q4 hQ3 Q3
    refine aws_cut fun N hN => ?_
    by_cases hd2 : (d : Int) ≤ 2
    · simp (config := {maxSteps := 2000000}) only [s55, ↓aw_region, ↓aw_skip, ↓aw_seq, ↓aw_block, ↓aw_exit, ↓aw_ret, ↓sops_nil, ↓sops_go, ↓dops_nil, ↓dopsX_nil, ↓dopsR_nil, ↓vdn, vup, extr_20, extr_21, extr_30, extr_31, extr_32, List.map_cons, List.map_nil, cond_true, cond_false, aop, aThen, aBlock, argEnv, ev, sput, sputO, binK, binI, unK, builtinK, pickK, Nat.reduceBEq, Nat.reduceAdd, Int.reduceBEq, Int.reduceBNe, Int.reduceLT, aPost, resK, tup, tyf, hd2, hlen, ↓aw_loop_eq]
      refine aws_hide fun Q3 hQ3 => ?_
      refine aw_loop (γ := Nat × Nat × Nat) (fun a => a.1 ≤ nr.length ∧ a.2.1 < 2 ^ nr.length ∧ (∀ x, a.2.1.testBit x = true → t.testBit x = true) ∧ (∀ j, j < a.1 → a.2.1.testBit j = false) ∧ a.2.2 + A nr a.2.1 = A nr t)
        (fun a => ([(0, v), (1, vu a.2.1), (4, .int .i64 0), (5, vint a.2.2), (41, v), (42, vint nr.length), (43, vint a.1)], h)) (fun a => nr.length - a.1) (0, t, 0) ⟨Nat.zero_le _, h2, fun _ h => h, fun _ h => by simp at h, Nat.zero_add _⟩ (by simp (config := {maxSteps := 2000000}) only [↓aw_region, ↓aw_skip, ↓aw_seq, ↓aw_block, ↓aw_exit, ↓aw_ret, ↓sops_nil, ↓sops_go, ↓dops_nil, ↓dopsX_nil, ↓dopsR_nil, ↓vdn, vup, extr_20, extr_21, extr_30, extr_31, extr_32, List.map_cons, List.map_nil, cond_true, cond_false, aop, aThen, aBlock, argEnv, ev, sput, sputO, binK, binI, unK, builtinK, pickK, Nat.reduceBEq, Nat.reduceAdd, Int.reduceBEq, Int.reduceBNe, Int.reduceLT, aPost, resK, tup, tyf, Int.natCast_zero]) rfl ?_
      rintro ⟨i, s, o⟩ ⟨hi, hs, hst, hz, ho⟩
      simp only at hi hs hst hz ho
      refine aw_hide fun Q4 hQ4 => ?_
      have hs64 := lt64 g hs
      by_cases hin : (i : Int) < nr.length
      · have hi' : i < nr.length := by omega
        cases hb : s.testBit i with
        | false =>
          simp (config := {maxSteps := 2000000}) only [s55, ↓aw_region, ↓aw_skip, ↓aw_seq, ↓aw_block, ↓aw_exit, ↓aw_ret, ↓sops_nil, ↓sops_go, ↓dops_nil, ↓dopsX_nil, ↓dopsR_nil, ↓vdn, vup, extr_20, extr_21, extr_30, extr_31, extr_32, List.map_cons, List.map_nil, cond_true, cond_false, aop, aThen, aBlock, argEnv, ev, sput, sputO, binK, binI, unK, builtinK, pickK, Nat.reduceBEq, Nat.reduceAdd, Int.reduceBEq, Int.reduceBNe, Int.reduceLT, aPost, resK, tup, tyf, l55_1, hin, ix i hi', ld i hi', hnn, testU hs64, hb, beq1, Bool.false_eq_true, if_false, add1 (show i < 9223372036854775807 by omega)]
          refine hQ4 _ _ _ ⟨(i + 1, s, o), ⟨by simp only; omega, hs, hst, fun j hj => ?_, ho⟩, by simp only; omega, by simp (config := {maxSteps := 2000000}) only [↓aw_region, ↓aw_skip, ↓aw_seq, ↓aw_block, ↓aw_exit, ↓aw_ret, ↓sops_nil, ↓sops_go, ↓dops_nil, ↓dopsX_nil, ↓dopsR_nil, ↓vdn, vup, extr_20, extr_21, extr_30, extr_31, extr_32, List.map_cons, List.map_nil, cond_true, cond_false, aop, aThen, aBlock, argEnv, ev, sput, sputO, binK, binI, unK, builtinK, pickK, Nat.reduceBEq, Nat.reduceAdd, Int.reduceBEq, Int.reduceBNe, Int.reduceLT, aPost, resK, tup, tyf], rfl⟩
          by_cases hji : j = i
          · subst hji; exact hb
          · exact hz j (by simp only at hj; omega)
        | true =>
          have hgt := cntA_gt g hst (by omega) hb
          have hle := hmx i hi' (hst i hb)
          have h1 := A_one g (Nat.lt_of_lt_of_le hs (Nat.pow_le_pow_right (by decide) g.len)) hb (by omega)
          simp (config := {maxSteps := 2000000}) only [s55, ↓aw_region, ↓aw_skip, ↓aw_seq, ↓aw_block, ↓aw_exit, ↓aw_ret, ↓sops_nil, ↓sops_go, ↓dops_nil, ↓dopsX_nil, ↓dopsR_nil, ↓vdn, vup, extr_20, extr_21, extr_30, extr_31, extr_32, List.map_cons, List.map_nil, cond_true, cond_false, aop, aThen, aBlock, argEnv, ev, sput, sputO, binK, binI, unK, builtinK, pickK, Nat.reduceBEq, Nat.reduceAdd, Int.reduceBEq, Int.reduceBNe, Int.reduceLT, aPost, resK, tup, tyf, l55_1, hin, ix i hi', ld i hi', hnn, testU hs64, hb, beq1, if_true, lessU hs64 (arW_lt g hi'), ar_cut, add1 (show i < 9223372036854775807 by omega), add1 (show o < 9223372036854775807 by omega)]
          refine hQ4 _ _ _ ⟨(i + 1, cut nr s i, o + 1), ⟨by simp only; omega, cut_lt hs, fun x hx => ?_, fun j hj => ?_, by simp only; omega⟩, by simp only; omega, by simp (config := {maxSteps := 2000000}) only [↓aw_region, ↓aw_skip, ↓aw_seq, ↓aw_block, ↓aw_exit, ↓aw_ret, ↓sops_nil, ↓sops_go, ↓dops_nil, ↓dopsX_nil, ↓dopsR_nil, ↓vdn, vup, extr_20, extr_21, extr_30, extr_31, extr_32, List.map_cons, List.map_nil, cond_true, cond_false, aop, aThen, aBlock, argEnv, ev, sput, sputO, binK, binI, unK, builtinK, pickK, Nat.reduceBEq, Nat.reduceAdd, Int.reduceBEq, Int.reduceBNe, Int.reduceLT, aPost, resK, tup, tyf], rfl⟩
          · rw [cut_bit, Bool.and_eq_true] at hx
            exact hst x hx.1
          · simp only [cut_bit]
            by_cases hji : j = i
            · subst hji; simp
            · rw [hz j (by simp only at hj; omega)]; rfl
      · obtain rfl : i = nr.length := by omega
        have hs0 := zero_of hs hz
        rw [hs0, A_zero, Nat.add_zero] at ho
        simp (config := {maxSteps := 2000000}) only [s55, ↓aw_region, ↓aw_skip, ↓aw_seq, ↓aw_block, ↓aw_exit, ↓aw_ret, ↓sops_nil, ↓sops_go, ↓dops_nil, ↓dopsX_nil, ↓dopsR_nil, ↓vdn, vup, extr_20, extr_21, extr_30, extr_31, extr_32, List.map_cons, List.map_nil, cond_true, cond_false, aop, aThen, aBlock, argEnv, ev, sput, sputO, binK, binI, unK, builtinK, pickK, Nat.reduceBEq, Nat.reduceAdd, Int.reduceBEq, Int.reduceBNe, Int.reduceLT, aPost, resK, tup, tyf, l55_1, Int.lt_irrefl]
        refine hQ4 _ _ _ (hQ3 _ _ _ ?_)
        simp (config := {maxSteps := 2000000}) only [s55, ↓aw_region, ↓aw_skip, ↓aw_seq, ↓aw_block, ↓aw_exit, ↓aw_ret, ↓sops_nil, ↓sops_go, ↓dops_nil, ↓dopsX_nil, ↓dopsR_nil, ↓vdn, vup, extr_20, extr_21, extr_30, extr_31, extr_32, List.map_cons, List.map_nil, cond_true, cond_false, aop, aThen, aBlock, argEnv, ev, sput, sputO, binK, binI, unK, builtinK, pickK, Nat.reduceBEq, Nat.reduceAdd, Int.reduceBEq, Int.reduceBNe, Int.reduceLT, aPost, resK, tup, tyf, if_true]
        refine hQ2 _ _ _ (hQ _ _ _ ?_)
        simp (config := {maxSteps := 2000000}) only [↓aw_region, ↓aw_skip, ↓aw_seq, ↓aw_block, ↓aw_exit, ↓aw_ret, ↓sops_nil, ↓sops_go, ↓dops_nil, ↓dopsX_nil, ↓dopsR_nil, ↓vdn, vup, extr_20, extr_21, extr_30, extr_31, extr_32, List.map_cons, List.map_nil, cond_true, cond_false, aop, aThen, aBlock, argEnv, ev, sput, sputO, binK, binI, unK, builtinK, pickK, Nat.reduceBEq, Nat.reduceAdd, Int.reduceBEq, Int.reduceBNe, Int.reduceLT, aPost, resK, tup, tyf, ho]
    rcases hw with rfl | ⟨w, rfl, hb, rfl⟩
    · omega
    have hwl := bit_lt h2 hb
    have hw64 : w < 64 := by omega
    have hp := A_pivot g (Nat.lt_of_lt_of_le h2 (Nat.pow_le_pow_right (by decide) g.len)) hb
    have l1 := cut_less g hb
    have l2 := less_bit_lt hb
    have a1 := A_le nr (cut nr t w)
    have a2 := A_le nr (less t (2 ^ w))
    have e1 : addV .i64 1 ((A nr (cut nr t w) : Nat) : Int) = ((1 + A nr (cut nr t w) : Nat) : Int) := by rw [addV_id (by omega) (by omega)]; omega
    simp (config := {maxSteps := 2000000}) only [s55, ↓aw_region, ↓aw_skip, ↓aw_seq, ↓aw_block, ↓aw_exit, ↓aw_ret, ↓sops_nil, ↓sops_go, ↓dops_nil, ↓dopsX_nil, ↓dopsR_nil, ↓vdn, vup, extr_20, extr_21, extr_30, extr_31, extr_32, List.map_cons, List.map_nil, cond_true, cond_false, aop, aThen, aBlock, argEnv, ev, sput, sputO, binK, binI, unK, builtinK, pickK, Nat.reduceBEq, Nat.reduceAdd, Int.reduceBEq, Int.reduceBNe, Int.reduceLT, aPost, resK, tup, tyf, hd2]
    refine hN [(0, v), (1, vu t), (4, .int .i64 0), (5, .int .i64 0), (6, vint w)] _ _ ?_ (by simp (config := {maxSteps := 2000000}) only [↓aw_region, ↓aw_skip, ↓aw_seq, ↓aw_block, ↓aw_exit, ↓aw_ret, ↓sops_nil, ↓sops_go, ↓dops_nil, ↓dopsX_nil, ↓dopsR_nil, ↓vdn, vup, extr_20, extr_21, extr_30, extr_31, extr_32, List.map_cons, List.map_nil, cond_true, cond_false, aop, aThen, aBlock, argEnv, ev, sput, sputO, binK, binI, unK, builtinK, pickK, Nat.reduceBEq, Nat.reduceAdd, Int.reduceBEq, Int.reduceBNe, Int.reduceLT, aPost, resK, tup, tyf])
    clear hN N
    refine aws_cut fun N hN => ?_
    simp (config := {maxSteps := 2000000}) only [s55, ↓aw_region, ↓aw_skip, ↓aw_seq, ↓aw_block, ↓aw_exit, ↓aw_ret, ↓sops_nil, ↓sops_go, ↓dops_nil, ↓dopsX_nil, ↓dopsR_nil, ↓vdn, vup, extr_20, extr_21, extr_30, extr_31, extr_32, List.map_cons, List.map_nil, cond_true, cond_false, aop, aThen, aBlock, argEnv, ev, sput, sputO, binK, binI, unK, builtinK, pickK, Nat.reduceBEq, Nat.reduceAdd, Int.reduceBEq, Int.reduceBNe, Int.reduceLT, aPost, resK, tup, tyf, hnn, shlU1 hw64, lessU ht (bit64 hw64), callK, List.nil_append, List.append_nil, List.toList_toArray, List.cons_append]
    refine (ih _ l2 (less_lt h2)).mono ?_
    rintro _ h ⟨rfl, rfl⟩
    refine hN [(0, v), (1, vu t), (4, .int .i64 0), (5, .int .i64 0), (6, vint w), (13, vint (A nr (less t (2 ^ w)) : Nat))] _ _ ?_ (by simp (config := {maxSteps := 2000000}) only [↓aw_region, ↓aw_skip, ↓aw_seq, ↓aw_block, ↓aw_exit, ↓aw_ret, ↓sops_nil, ↓sops_go, ↓dops_nil, ↓dopsX_nil, ↓dopsR_nil, ↓vdn, vup, extr_20, extr_21, extr_30, extr_31, extr_32, List.map_cons, List.map_nil, cond_true, cond_false, aop, aThen, aBlock, argEnv, ev, sput, sputO, binK, binI, unK, builtinK, pickK, Nat.reduceBEq, Nat.reduceAdd, Int.reduceBEq, Int.reduceBNe, Int.reduceLT, aPost, resK, tup, tyf])
    clear hN N
    refine aws_cut fun N hN => ?_
    simp (config := {maxSteps := 2000000}) only [s55, ↓aw_region, ↓aw_skip, ↓aw_seq, ↓aw_block, ↓aw_exit, ↓aw_ret, ↓sops_nil, ↓sops_go, ↓dops_nil, ↓dopsX_nil, ↓dopsR_nil, ↓vdn, vup, extr_20, extr_21, extr_30, extr_31, extr_32, List.map_cons, List.map_nil, cond_true, cond_false, aop, aThen, aBlock, argEnv, ev, sput, sputO, binK, binI, unK, builtinK, pickK, Nat.reduceBEq, Nat.reduceAdd, Int.reduceBEq, Int.reduceBNe, Int.reduceLT, aPost, resK, tup, tyf, ix w hwl, ld w hwl, lessU ht (arW_lt g hwl), ar_cut, callK, List.nil_append, List.append_nil, List.toList_toArray, List.cons_append]
    refine (ih _ l1 (cut_lt h2)).mono ?_
    rintro _ h ⟨rfl, rfl⟩
    simp (config := {maxSteps := 2000000}) only [s55, ↓aw_region, ↓aw_skip, ↓aw_seq, ↓aw_block, ↓aw_exit, ↓aw_ret, ↓sops_nil, ↓sops_go, ↓dops_nil, ↓dopsX_nil, ↓dopsR_nil, ↓vdn, vup, extr_20, extr_21, extr_30, extr_31, extr_32, List.map_cons, List.map_nil, cond_true, cond_false, aop, aThen, aBlock, argEnv, ev, sput, sputO, binK, binI, unK, builtinK, pickK, Nat.reduceBEq, Nat.reduceAdd, Int.reduceBEq, Int.reduceBNe, Int.reduceLT, aPost, resK, tup, tyf, e1]
    refine hN [(0, v), (1, vu t), (4, .int .i64 0), (5, .int .i64 0), (6, vint w), (13, vint (A nr (less t (2 ^ w)) : Nat)), (14, vint (1 + A nr (cut nr t w) : Nat))] _ _ ?_ (by simp (config := {maxSteps := 2000000}) only [↓aw_region, ↓aw_skip, ↓aw_seq, ↓aw_block, ↓aw_exit, ↓aw_ret, ↓sops_nil, ↓sops_go, ↓dops_nil, ↓dopsX_nil, ↓dopsR_nil, ↓vdn, vup, extr_20, extr_21, extr_30, extr_31, extr_32, List.map_cons, List.map_nil, cond_true, cond_false, aop, aThen, aBlock, argEnv, ev, sput, sputO, binK, binI, unK, builtinK, pickK, Nat.reduceBEq, Nat.reduceAdd, Int.reduceBEq, Int.reduceBNe, Int.reduceLT, aPost, resK, tup, tyf])
    clear hN N
    refine aw_aws ?_
    by_cases hm : ((1 + A nr (cut nr t w) : Nat) : Int) < ((A nr (less t (2 ^ w)) : Nat) : Int)
    · have e2 : addV .i64 0 ((A nr (less t (2 ^ w)) : Nat) : Int) = ((A nr t : Nat) : Int) := by rw [addV_id (by omega) (by omega)]; omega
      simp (config := {maxSteps := 2000000}) only [s55, ↓aw_region, ↓aw_skip, ↓aw_seq, ↓aw_block, ↓aw_exit, ↓aw_ret, ↓sops_nil, ↓sops_go, ↓dops_nil, ↓dopsX_nil, ↓dopsR_nil, ↓vdn, vup, extr_20, extr_21, extr_30, extr_31, extr_32, List.map_cons, List.map_nil, cond_true, cond_false, aop, aThen, aBlock, argEnv, ev, sput, sputO, binK, binI, unK, builtinK, pickK, Nat.reduceBEq, Nat.reduceAdd, Int.reduceBEq, Int.reduceBNe, Int.reduceLT, aPost, resK, tup, tyf, mmK, if_true, gt_iff_lt, hm, e2]
      refine hQ2 _ _ _ (hQ _ _ _ ?_)
      simp (config := {maxSteps := 2000000}) only [↓aw_region, ↓aw_skip, ↓aw_seq, ↓aw_block, ↓aw_exit, ↓aw_ret, ↓sops_nil, ↓sops_go, ↓dops_nil, ↓dopsX_nil, ↓dopsR_nil, ↓vdn, vup, extr_20, extr_21, extr_30, extr_31, extr_32, List.map_cons, List.map_nil, cond_true, cond_false, aop, aThen, aBlock, argEnv, ev, sput, sputO, binK, binI, unK, builtinK, pickK, Nat.reduceBEq, Nat.reduceAdd, Int.reduceBEq, Int.reduceBNe, Int.reduceLT, aPost, resK, tup, tyf]
    · have e2 : addV .i64 0 ((1 + A nr (cut nr t w) : Nat) : Int) = ((A nr t : Nat) : Int) := by rw [addV_id (by omega) (by omega)]; omega
      simp (config := {maxSteps := 2000000}) only [s55, ↓aw_region, ↓aw_skip, ↓aw_seq, ↓aw_block, ↓aw_exit, ↓aw_ret, ↓sops_nil, ↓sops_go, ↓dops_nil, ↓dopsX_nil, ↓dopsR_nil, ↓vdn, vup, extr_20, extr_21, extr_30, extr_31, extr_32, List.map_cons, List.map_nil, cond_true, cond_false, aop, aThen, aBlock, argEnv, ev, sput, sputO, binK, binI, unK, builtinK, pickK, Nat.reduceBEq, Nat.reduceAdd, Int.reduceBEq, Int.reduceBNe, Int.reduceLT, aPost, resK, tup, tyf, mmK, if_true, if_false, gt_iff_lt, hm, e2]
      refine hQ2 _ _ _ (hQ _ _ _ ?_)
      simp (config := {maxSteps := 2000000}) only [↓aw_region, ↓aw_skip, ↓aw_seq, ↓aw_block, ↓aw_exit, ↓aw_ret, ↓sops_nil, ↓sops_go, ↓dops_nil, ↓dopsX_nil, ↓dopsR_nil, ↓vdn, vup, extr_20, extr_21, extr_30, extr_31, extr_32, List.map_cons, List.map_nil, cond_true, cond_false, aop, aThen, aBlock, argEnv, ev, sput, sputO, binK, binI, unK, builtinK, pickK, Nat.reduceBEq, Nat.reduceAdd, Int.reduceBEq, Int.reduceBNe, Int.reduceLT, aPost, resK, tup, tyf]
end Go.Proofs.Tryd.Am

/-
  bets: the program's forecasts: checks over all elements, the chance of an event.
  bets: forecasts, in the program and in the reference.
  bets: corners, as the program finds them. Plain Lean, no program.
  bets: a row of equations; bets that are valid.
-/
import Derived.Test.YtcmindinomacbaaPk9
import Derived.Test.YtcmindinomacbaaPk6
import Derived.Test.YtcmindinomacbaaPk7
set_option linter.all false
namespace Go.Proofs.Try.Am
open Go.Am Bq
set_option maxRecDepth 100000
set_option maxHeartbeats 1000000

/-- A fraction as a number's value. -/
theorem frV_q {p : Int × Int} (h : ofQ (toQ p) = p) : frV p.1 p.2 = qV (toQ p) := by
  conv => lhs; rw [← h]
  rfl
theorem fits_of {q : Rat} {N : Nat} {x : Int} (h : Rp N x q) (hN : N < 9223372036854775808) (hx : x.natAbs < 9223372036854775808) : Fits q := ⟨Nat.lt_of_le_of_lt h.le hx, Nat.lt_of_le_of_lt h.den_le hN⟩
theorem fits_b {q : Rat} {N C : Nat} (hN0 : 0 < N) (hd : q.den ∣ N) (h1 : -(C : Rat) ≤ q) (h2 : q ≤ C) (hN : C * N < 9223372036854775808) (hN' : N < 9223372036854775808) : Fits q := by
  obtain ⟨x, hx⟩ := rp_of hN0 hd
  have := hx.bound h1 h2
  exact fits_of hx hN' (by omega)
/-- A sum that fits. -/
theorem plus_fits [Tabs prog] {h : Heap} {a b : Rat} {k : Int} {N A B : Nat} (hN : 0 < N) (hN2 : N < 9223372036854775808) (da : a.den ∣ N) (db : b.den ∣ N) (a1 : -(A : Rat) ≤ a) (a2 : a ≤ A) (b1 : -(B : Rat) ≤ b) (b2 : b ≤ B)
    (hh : (A + k.natAbs * B) * N < 9223372036854775808) : APure prog 71 [qV a, vint k, qV b] h (qV (a + k * b)) := by
  obtain ⟨x, hx⟩ := rp_of hN da
  obtain ⟨y, hy⟩ := rp_of hN db
  have h1 := hx.bound a1 a2
  have h2 := hy.bound b1 b2
  refine plus_call hx hy ?_ hN2
  rw [Int.natAbs_mul]
  have h3 : k.natAbs * y.natAbs ≤ k.natAbs * (B * N) := Nat.mul_le_mul_left _ h2
  rw [Nat.add_mul, Nat.mul_assoc] at hh
  omega

section
theorem s116_callW [Tabs Try.prog] {args : List Value} {h : Heap} {Q : Value → Heap → Prop} (hsz : args.length ≤ 19) (hk : AWS Try.prog 19 s116 (aPost Try.prog [.tmp 4] Q) (argEnv 0 args) h) : ACall Try.prog 116 args h Q :=
  acall_w Try.func116 rfl (enters_of Try.func116 (by kernel_rfl) rfl) rfl rfl (by decide) s116_strip s116_ok hsz hk
theorem idxF_call [Tabs prog] {h : Heap} {v : Value} {ps : List (Int × Int)} {g : FuncId} {cap : Array Value} {f : Int × Int → Bool} (hv : PairSl h v ps) (hl : ps.length < 9223372036854775808)
    (hc : ∀ h', Ext (fun _ => False) h h' → ∀ p ∈ ps, APure prog g ([frV p.1 p.2] ++ cap.toList) h' (.bool (f p))) : ACall prog 116 [v, .func (.func g) #[] cap] h fun r h' => h' = h ∧ ∃ i : Int, r = vint i ∧ decide (0 ≤ i) = ps.any f := by
  refine s116_callW (by simp) ?_
  simp only [s116]
  refine aws_cut fun N1 hN1 => ?_
  simp (maxSteps := 2000000) only [s116, ↓aw_region, ↓aw_skip, ↓aw_seq, ↓aw_block, ↓aw_exit, ↓aw_ret, ↓sops_nil, ↓sops_go, ↓dops_nil, ↓dopsX_nil, ↓dopsR_nil, ↓vdn, vup, extr_20, extr_21, extr_30, extr_31, extr_32, List.map_cons, List.map_nil, cond_true, cond_false, aop, aThen, aBlock, argEnv, ev, sput, sputO, binK, binI, unK, builtinK, pickK, Nat.reduceBEq, Nat.reduceAdd, Int.reduceBEq, Int.reduceBNe, Int.reduceLT, aPost, resK, tup, tyf]
  refine hN1 [(0, v), (1, .func (.func g) #[] cap), (4, .int .i64 0)] _ _ ?_ (by simp (maxSteps := 2000000) only [↓aw_region, ↓aw_skip, ↓aw_seq, ↓aw_block, ↓aw_exit, ↓aw_ret, ↓sops_nil, ↓sops_go, ↓dops_nil, ↓dopsX_nil, ↓dopsR_nil, ↓vdn, vup, extr_20, extr_21, extr_30, extr_31, extr_32, List.map_cons, List.map_nil, cond_true, cond_false, aop, aThen, aBlock, argEnv, ev, sput, sputO, binK, binI, unK, builtinK, pickK, Nat.reduceBEq, Nat.reduceAdd, Int.reduceBEq, Int.reduceBNe, Int.reduceLT, aPost, resK, tup, tyf])
  clear hN1
  try clear N1
  refine aws_cutW fun Z hZ => ?_
  refine aws_cut fun N2 hN2 => ?_
  simp (maxSteps := 2000000) only [s116, ↓aw_region, ↓aw_skip, ↓aw_seq, ↓aw_block, ↓aw_exit, ↓aw_ret, ↓sops_nil, ↓sops_go, ↓dops_nil, ↓dopsX_nil, ↓dopsR_nil, ↓vdn, vup, extr_20, extr_21, extr_30, extr_31, extr_32, List.map_cons, List.map_nil, cond_true, cond_false, aop, aThen, aBlock, argEnv, ev, sput, sputO, binK, binI, unK, builtinK, pickK, Nat.reduceBEq, Nat.reduceAdd, Int.reduceBEq, Int.reduceBNe, Int.reduceLT, aPost, resK, tup, tyf, hv.len]
  refine hN2 [(0, v), (1, .func (.func g) #[] cap), (4, .int .i64 0), (6, v), (7, vint ps.length), (8, .int .i64 0)] _ _ ?_ (by simp (maxSteps := 2000000) only [↓aw_region, ↓aw_skip, ↓aw_seq, ↓aw_block, ↓aw_exit, ↓aw_ret, ↓sops_nil, ↓sops_go, ↓dops_nil, ↓dopsX_nil, ↓dopsR_nil, ↓vdn, vup, extr_20, extr_21, extr_30, extr_31, extr_32, List.map_cons, List.map_nil, cond_true, cond_false, aop, aThen, aBlock, argEnv, ev, sput, sputO, binK, binI, unK, builtinK, pickK, Nat.reduceBEq, Nat.reduceAdd, Int.reduceBEq, Int.reduceBNe, Int.reduceLT, aPost, resK, tup, tyf])
  clear hN2
  try clear N2
  refine aws_block ?_
  refine aws_hide fun Q hQ => ?_
  refine aw_loopW (γ := Nat) (fun k => k ≤ ps.length ∧ ∀ p ∈ ps.take k, f p = false)
    (fun k => ([(0, v), (1, .func (.func g) #[] cap), (4, .int .i64 0), (6, v), (7, vint ps.length), (8, vint (k : Nat))], h)) (fun k => ps.length - k) 0 ⟨Nat.zero_le _, by simp⟩ (by simp (maxSteps := 2000000) only [↓aw_region, ↓aw_skip, ↓aw_seq, ↓aw_block, ↓aw_exit, ↓aw_ret, ↓sops_nil, ↓sops_go, ↓dops_nil, ↓dopsX_nil, ↓dopsR_nil, ↓vdn, vup, extr_20, extr_21, extr_30, extr_31, extr_32, List.map_cons, List.map_nil, cond_true, cond_false, aop, aThen, aBlock, argEnv, ev, sput, sputO, binK, binI, unK, builtinK, pickK, Nat.reduceBEq, Nat.reduceAdd, Int.reduceBEq, Int.reduceBNe, Int.reduceLT, aPost, resK, tup, tyf, Int.natCast_zero]) rfl ?_
  rintro k ⟨hk, hall⟩
  refine aws_hide fun Q2 hQ2 => ?_
  simp only [l116_0]
  by_cases hin : (k : Int) < ps.length
  · have hk' : k < ps.length := by omega
    obtain ⟨⟨x, y⟩, hxy⟩ : ∃ p, ps.getD k (0, 0) = p := ⟨_, rfl⟩
    have hmem : (x, y) ∈ ps := hxy ▸ getD_mem hk'
    refine aws_cut fun N3 hN3 => ?_
    simp (maxSteps := 2000000) only [s116, ↓aw_region, ↓aw_skip, ↓aw_seq, ↓aw_block, ↓aw_exit, ↓aw_ret, ↓sops_nil, ↓sops_go, ↓dops_nil, ↓dopsX_nil, ↓dopsR_nil, ↓vdn, vup, extr_20, extr_21, extr_30, extr_31, extr_32, List.map_cons, List.map_nil, cond_true, cond_false, aop, aThen, aBlock, argEnv, ev, sput, sputO, binK, binI, unK, builtinK, pickK, Nat.reduceBEq, Nat.reduceAdd, Int.reduceBEq, Int.reduceBNe, Int.reduceLT, aPost, resK, tup, tyf, hin]
    refine hN3 [(0, v), (1, .func (.func g) #[] cap), (4, .int .i64 0), (6, v), (7, vint ps.length), (8, vint (k : Nat)), (9, .bool true)] _ _ ?_ (by simp (maxSteps := 2000000) only [↓aw_region, ↓aw_skip, ↓aw_seq, ↓aw_block, ↓aw_exit, ↓aw_ret, ↓sops_nil, ↓sops_go, ↓dops_nil, ↓dopsX_nil, ↓dopsR_nil, ↓vdn, vup, extr_20, extr_21, extr_30, extr_31, extr_32, List.map_cons, List.map_nil, cond_true, cond_false, aop, aThen, aBlock, argEnv, ev, sput, sputO, binK, binI, unK, builtinK, pickK, Nat.reduceBEq, Nat.reduceAdd, Int.reduceBEq, Int.reduceBNe, Int.reduceLT, aPost, resK, tup, tyf])
    clear hN3
    try clear N3
    refine aws_cut fun N4 hN4 => ?_
    simp (maxSteps := 2000000) only [s116, ↓aw_region, ↓aw_skip, ↓aw_seq, ↓aw_block, ↓aw_exit, ↓aw_ret, ↓sops_nil, ↓sops_go, ↓dops_nil, ↓dopsX_nil, ↓dopsR_nil, ↓vdn, vup, extr_20, extr_21, extr_30, extr_31, extr_32, List.map_cons, List.map_nil, cond_true, cond_false, aop, aThen, aBlock, argEnv, ev, sput, sputO, binK, binI, unK, builtinK, pickK, Nat.reduceBEq, Nat.reduceAdd, Int.reduceBEq, Int.reduceBNe, Int.reduceLT, aPost, resK, tup, tyf]
    refine hN4 [(0, v), (1, .func (.func g) #[] cap), (4, .int .i64 0), (6, v), (7, vint ps.length), (8, vint (k : Nat))] _ _ ?_ (by simp (maxSteps := 2000000) only [↓aw_region, ↓aw_skip, ↓aw_seq, ↓aw_block, ↓aw_exit, ↓aw_ret, ↓sops_nil, ↓sops_go, ↓dops_nil, ↓dopsX_nil, ↓dopsR_nil, ↓vdn, vup, extr_20, extr_21, extr_30, extr_31, extr_32, List.map_cons, List.map_nil, cond_true, cond_false, aop, aThen, aBlock, argEnv, ev, sput, sputO, binK, binI, unK, builtinK, pickK, Nat.reduceBEq, Nat.reduceAdd, Int.reduceBEq, Int.reduceBNe, Int.reduceLT, aPost, resK, tup, tyf])
    clear hN4
    try clear N4
    refine aws_cutW fun B hB => ?_
    refine aws_block ?_
    refine aws_cut fun N5 hN5 => ?_
    simp (maxSteps := 2000000) only [s116, ↓aw_region, ↓aw_skip, ↓aw_seq, ↓aw_block, ↓aw_exit, ↓aw_ret, ↓sops_nil, ↓sops_go, ↓dops_nil, ↓dopsX_nil, ↓dopsR_nil, ↓vdn, vup, extr_20, extr_21, extr_30, extr_31, extr_32, List.map_cons, List.map_nil, cond_true, cond_false, aop, aThen, aBlock, argEnv, ev, sput, sputO, binK, binI, unK, builtinK, pickK, Nat.reduceBEq, Nat.reduceAdd, Int.reduceBEq, Int.reduceBNe, Int.reduceLT, aPost, resK, tup, tyf]
    refine hN5 [(0, v), (1, .func (.func g) #[] cap), (4, .int .i64 0), (5, vint (k : Nat)), (6, v), (7, vint ps.length), (8, vint (k : Nat))] _ _ ?_ (by simp (maxSteps := 2000000) only [↓aw_region, ↓aw_skip, ↓aw_seq, ↓aw_block, ↓aw_exit, ↓aw_ret, ↓sops_nil, ↓sops_go, ↓dops_nil, ↓dopsX_nil, ↓dopsR_nil, ↓vdn, vup, extr_20, extr_21, extr_30, extr_31, extr_32, List.map_cons, List.map_nil, cond_true, cond_false, aop, aThen, aBlock, argEnv, ev, sput, sputO, binK, binI, unK, builtinK, pickK, Nat.reduceBEq, Nat.reduceAdd, Int.reduceBEq, Int.reduceBNe, Int.reduceLT, aPost, resK, tup, tyf])
    clear hN5
    try clear N5
    refine aws_cut fun N6 hN6 => ?_
    simp (maxSteps := 2000000) only [s116, ↓aw_region, ↓aw_skip, ↓aw_seq, ↓aw_block, ↓aw_exit, ↓aw_ret, ↓sops_nil, ↓sops_go, ↓dops_nil, ↓dopsX_nil, ↓dopsR_nil, ↓vdn, vup, extr_20, extr_21, extr_30, extr_31, extr_32, List.map_cons, List.map_nil, cond_true, cond_false, aop, aThen, aBlock, argEnv, ev, sput, sputO, binK, binI, unK, builtinK, pickK, Nat.reduceBEq, Nat.reduceAdd, Int.reduceBEq, Int.reduceBNe, Int.reduceLT, aPost, resK, tup, tyf, hv.idx el_47 esz_26 hk', hv.load shp_26 hk', hxy, callK, List.nil_append, List.append_nil]
    refine (show APure prog g ([.agg #[vint x, vint y]] ++ cap.toList) h (.bool (f (x, y))) from hc h (Ext.refl _ _) _ hmem).mono ?_
    rintro _ h ⟨rfl, rfl⟩
    refine hN6 [(0, v), (1, .func (.func g) #[] cap), (4, .int .i64 0), (5, vint (k : Nat)), (6, v), (7, vint ps.length), (8, vint (k : Nat)), (16, .bool (f (x, y)))] _ _ ?_ (by simp (maxSteps := 2000000) only [↓aw_region, ↓aw_skip, ↓aw_seq, ↓aw_block, ↓aw_exit, ↓aw_ret, ↓sops_nil, ↓sops_go, ↓dops_nil, ↓dopsX_nil, ↓dopsR_nil, ↓vdn, vup, extr_20, extr_21, extr_30, extr_31, extr_32, List.map_cons, List.map_nil, cond_true, cond_false, aop, aThen, aBlock, argEnv, ev, sput, sputO, binK, binI, unK, builtinK, pickK, Nat.reduceBEq, Nat.reduceAdd, Int.reduceBEq, Int.reduceBNe, Int.reduceLT, aPost, resK, tup, tyf])
    clear hN6
    try clear N6
    refine aw_aws ?_
    cases hf : f (x, y) with
    | true =>
      simp (maxSteps := 2000000) only [s116, ↓aw_region, ↓aw_skip, ↓aw_seq, ↓aw_block, ↓aw_exit, ↓aw_ret, ↓sops_nil, ↓sops_go, ↓dops_nil, ↓dopsX_nil, ↓dopsR_nil, ↓vdn, vup, extr_20, extr_21, extr_30, extr_31, extr_32, List.map_cons, List.map_nil, cond_true, cond_false, aop, aThen, aBlock, argEnv, ev, sput, sputO, binK, binI, unK, builtinK, pickK, Nat.reduceBEq, Nat.reduceAdd, Int.reduceBEq, Int.reduceBNe, Int.reduceLT, aPost, resK, tup, tyf]
      refine hQ2 _ _ _ (hQ _ _ _ ?_)
      simp (maxSteps := 2000000) only [s116, ↓aw_region, ↓aw_skip, ↓aw_seq, ↓aw_block, ↓aw_exit, ↓aw_ret, ↓sops_nil, ↓sops_go, ↓dops_nil, ↓dopsX_nil, ↓dopsR_nil, ↓vdn, vup, extr_20, extr_21, extr_30, extr_31, extr_32, List.map_cons, List.map_nil, cond_true, cond_false, aop, aThen, aBlock, argEnv, ev, sput, sputO, binK, binI, unK, builtinK, pickK, Nat.reduceBEq, Nat.reduceAdd, Int.reduceBEq, Int.reduceBNe, Int.reduceLT, aPost, resK, tup, tyf]
      exact ⟨_, rfl, by rw [show ps.any f = true from List.any_eq_true.2 ⟨_, hmem, hf⟩]; simp⟩
    | false =>
      simp (maxSteps := 2000000) only [s116, ↓aw_region, ↓aw_skip, ↓aw_seq, ↓aw_block, ↓aw_exit, ↓aw_ret, ↓sops_nil, ↓sops_go, ↓dops_nil, ↓dopsX_nil, ↓dopsR_nil, ↓vdn, vup, extr_20, extr_21, extr_30, extr_31, extr_32, List.map_cons, List.map_nil, cond_true, cond_false, aop, aThen, aBlock, argEnv, ev, sput, sputO, binK, binI, unK, builtinK, pickK, Nat.reduceBEq, Nat.reduceAdd, Int.reduceBEq, Int.reduceBNe, Int.reduceLT, aPost, resK, tup, tyf]
      refine hB [(0, v), (1, .func (.func g) #[] cap), (4, .int .i64 0), (6, v), (7, vint ps.length), (8, vint (k : Nat))] _ _ ?_ (by simp (maxSteps := 2000000) only [↓aw_region, ↓aw_skip, ↓aw_seq, ↓aw_block, ↓aw_exit, ↓aw_ret, ↓sops_nil, ↓sops_go, ↓dops_nil, ↓dopsX_nil, ↓dopsR_nil, ↓vdn, vup, extr_20, extr_21, extr_30, extr_31, extr_32, List.map_cons, List.map_nil, cond_true, cond_false, aop, aThen, aBlock, argEnv, ev, sput, sputO, binK, binI, unK, builtinK, pickK, Nat.reduceBEq, Nat.reduceAdd, Int.reduceBEq, Int.reduceBNe, Int.reduceLT, aPost, resK, tup, tyf])
      clear hB
      try clear B
      refine aw_aws ?_
      simp (maxSteps := 2000000) only [s116, ↓aw_region, ↓aw_skip, ↓aw_seq, ↓aw_block, ↓aw_exit, ↓aw_ret, ↓sops_nil, ↓sops_go, ↓dops_nil, ↓dopsX_nil, ↓dopsR_nil, ↓vdn, vup, extr_20, extr_21, extr_30, extr_31, extr_32, List.map_cons, List.map_nil, cond_true, cond_false, aop, aThen, aBlock, argEnv, ev, sput, sputO, binK, binI, unK, builtinK, pickK, Nat.reduceBEq, Nat.reduceAdd, Int.reduceBEq, Int.reduceBNe, Int.reduceLT, aPost, resK, tup, tyf, add1 (show k < 9223372036854775807 by omega)]
      refine hQ2 _ _ _ ⟨k + 1, ⟨hk', fun p hp => ?_⟩, by omega, by simp (maxSteps := 2000000) only [↓aw_region, ↓aw_skip, ↓aw_seq, ↓aw_block, ↓aw_exit, ↓aw_ret, ↓sops_nil, ↓sops_go, ↓dops_nil, ↓dopsX_nil, ↓dopsR_nil, ↓vdn, vup, extr_20, extr_21, extr_30, extr_31, extr_32, List.map_cons, List.map_nil, cond_true, cond_false, aop, aThen, aBlock, argEnv, ev, sput, sputO, binK, binI, unK, builtinK, pickK, Nat.reduceBEq, Nat.reduceAdd, Int.reduceBEq, Int.reduceBNe, Int.reduceLT, aPost, resK, tup, tyf], rfl⟩
      rw [take_snoc (d := ((0, 0) : Int × Int)) hk', hxy] at hp
      rcases List.mem_append.1 hp with h3 | h3
      · exact hall p h3
      · simp at h3; subst h3; exact hf
  · obtain rfl : k = ps.length := by omega
    refine aws_cut fun N7 hN7 => ?_
    simp (maxSteps := 2000000) only [s116, ↓aw_region, ↓aw_skip, ↓aw_seq, ↓aw_block, ↓aw_exit, ↓aw_ret, ↓sops_nil, ↓sops_go, ↓dops_nil, ↓dopsX_nil, ↓dopsR_nil, ↓vdn, vup, extr_20, extr_21, extr_30, extr_31, extr_32, List.map_cons, List.map_nil, cond_true, cond_false, aop, aThen, aBlock, argEnv, ev, sput, sputO, binK, binI, unK, builtinK, pickK, Nat.reduceBEq, Nat.reduceAdd, Int.reduceBEq, Int.reduceBNe, Int.reduceLT, aPost, resK, tup, tyf, hin]
    refine hN7 [(0, v), (1, .func (.func g) #[] cap), (4, .int .i64 0), (6, v), (7, vint ps.length), (8, vint ps.length), (9, .bool false)] _ _ ?_ (by simp (maxSteps := 2000000) only [↓aw_region, ↓aw_skip, ↓aw_seq, ↓aw_block, ↓aw_exit, ↓aw_ret, ↓sops_nil, ↓sops_go, ↓dops_nil, ↓dopsX_nil, ↓dopsR_nil, ↓vdn, vup, extr_20, extr_21, extr_30, extr_31, extr_32, List.map_cons, List.map_nil, cond_true, cond_false, aop, aThen, aBlock, argEnv, ev, sput, sputO, binK, binI, unK, builtinK, pickK, Nat.reduceBEq, Nat.reduceAdd, Int.reduceBEq, Int.reduceBNe, Int.reduceLT, aPost, resK, tup, tyf])
    clear hN7
    try clear N7
    refine aws_cut fun N8 hN8 => ?_
    simp (maxSteps := 2000000) only [s116, ↓aw_region, ↓aw_skip, ↓aw_seq, ↓aw_block, ↓aw_exit, ↓aw_ret, ↓sops_nil, ↓sops_go, ↓dops_nil, ↓dopsX_nil, ↓dopsR_nil, ↓vdn, vup, extr_20, extr_21, extr_30, extr_31, extr_32, List.map_cons, List.map_nil, cond_true, cond_false, aop, aThen, aBlock, argEnv, ev, sput, sputO, binK, binI, unK, builtinK, pickK, Nat.reduceBEq, Nat.reduceAdd, Int.reduceBEq, Int.reduceBNe, Int.reduceLT, aPost, resK, tup, tyf]
    refine hQ2 _ _ _ (hQ _ _ _ ?_)
    simp (maxSteps := 2000000) only [s116, ↓aw_region, ↓aw_skip, ↓aw_seq, ↓aw_block, ↓aw_exit, ↓aw_ret, ↓sops_nil, ↓sops_go, ↓dops_nil, ↓dopsX_nil, ↓dopsR_nil, ↓vdn, vup, extr_20, extr_21, extr_30, extr_31, extr_32, List.map_cons, List.map_nil, cond_true, cond_false, aop, aThen, aBlock, argEnv, ev, sput, sputO, binK, binI, unK, builtinK, pickK, Nat.reduceBEq, Nat.reduceAdd, Int.reduceBEq, Int.reduceBNe, Int.reduceLT, aPost, resK, tup, tyf, if_true]
    refine hZ [(0, v), (1, .func (.func g) #[] cap), (4, .int .i64 0), (6, v), (7, vint ps.length), (8, vint ps.length), (9, .bool false)] _ _ ?_ (by simp (maxSteps := 2000000) only [↓aw_region, ↓aw_skip, ↓aw_seq, ↓aw_block, ↓aw_exit, ↓aw_ret, ↓sops_nil, ↓sops_go, ↓dops_nil, ↓dopsX_nil, ↓dopsR_nil, ↓vdn, vup, extr_20, extr_21, extr_30, extr_31, extr_32, List.map_cons, List.map_nil, cond_true, cond_false, aop, aThen, aBlock, argEnv, ev, sput, sputO, binK, binI, unK, builtinK, pickK, Nat.reduceBEq, Nat.reduceAdd, Int.reduceBEq, Int.reduceBNe, Int.reduceLT, aPost, resK, tup, tyf])
    clear hZ
    try clear Z
    refine aw_aws ?_
    simp (maxSteps := 2000000) only [s116, ↓aw_region, ↓aw_skip, ↓aw_seq, ↓aw_block, ↓aw_exit, ↓aw_ret, ↓sops_nil, ↓sops_go, ↓dops_nil, ↓dopsX_nil, ↓dopsR_nil, ↓vdn, vup, extr_20, extr_21, extr_30, extr_31, extr_32, List.map_cons, List.map_nil, cond_true, cond_false, aop, aThen, aBlock, argEnv, ev, sput, sputO, binK, binI, unK, builtinK, pickK, Nat.reduceBEq, Nat.reduceAdd, Int.reduceBEq, Int.reduceBNe, Int.reduceLT, aPost, resK, tup, tyf]
    rw [List.take_length] at hall
    exact ⟨_, rfl, by rw [show ps.any f = false from List.any_eq_false.2 fun p hp => by simp [hall p hp]]; decide⟩
end

theorem s101_callW [Tabs Try.prog] {args : List Value} {h : Heap} {Q : Value → Heap → Prop} (hsz : args.length ≤ 9) (hk : AWS Try.prog 9 s101 (aPost Try.prog [.tmp 4] Q) (argEnv 0 args) h) : ACall Try.prog 101 args h Q :=
  acall_w Try.func101 rfl (enters_of Try.func101 (by kernel_rfl) rfl) rfl rfl (by decide) s101_strip s101_ok hsz hk
theorem hasF_call [Tabs prog] {h : Heap} {v : Value} {ps : List (Int × Int)} {g : FuncId} {cap : Array Value} {f : Int × Int → Bool} (hv : PairSl h v ps) (hl : ps.length < 9223372036854775808)
    (hc : ∀ h', Ext (fun _ => False) h h' → ∀ p ∈ ps, APure prog g ([frV p.1 p.2] ++ cap.toList) h' (.bool (f p))) : APure prog 101 [v, .func (.func g) #[] cap] h (.bool (ps.any f)) := by
  refine s101_callW (by simp) ?_
  refine aw_aws ?_
  simp (maxSteps := 2000000) only [s101, ↓aw_region, ↓aw_skip, ↓aw_seq, ↓aw_block, ↓aw_exit, ↓aw_ret, ↓sops_nil, ↓sops_go, ↓dops_nil, ↓dopsX_nil, ↓dopsR_nil, ↓vdn, vup, extr_20, extr_21, extr_30, extr_31, extr_32, List.map_cons, List.map_nil, cond_true, cond_false, aop, aThen, aBlock, argEnv, ev, sput, sputO, binK, binI, unK, builtinK, pickK, Nat.reduceBEq, Nat.reduceAdd, Int.reduceBEq, Int.reduceBNe, Int.reduceLT, aPost, resK, tup, tyf, callK, List.nil_append, List.append_nil, List.toList_toArray, List.cons_append]
  refine (idxF_call hv hl hc).mono ?_
  rintro _ h1 ⟨rfl, i, rfl, hi⟩
  simp (maxSteps := 2000000) only [s101, ↓aw_region, ↓aw_skip, ↓aw_seq, ↓aw_block, ↓aw_exit, ↓aw_ret, ↓sops_nil, ↓sops_go, ↓dops_nil, ↓dopsX_nil, ↓dopsR_nil, ↓vdn, vup, extr_20, extr_21, extr_30, extr_31, extr_32, List.map_cons, List.map_nil, cond_true, cond_false, aop, aThen, aBlock, argEnv, ev, sput, sputO, binK, binI, unK, builtinK, pickK, Nat.reduceBEq, Nat.reduceAdd, Int.reduceBEq, Int.reduceBNe, Int.reduceLT, aPost, resK, tup, tyf, ge_iff_le, hi]

theorem s117_callW [Tabs Try.prog] {args : List Value} {h : Heap} {Q : Value → Heap → Prop} (hsz : args.length ≤ 8) (hk : AWS Try.prog 8 s117 (aPost Try.prog [.tmp 3] Q) (argEnv 0 args) h) : ACall Try.prog 117 args h Q :=
  acall_w Try.func117 rfl (enters_of Try.func117 (by kernel_rfl) rfl) rfl rfl (by decide) s117_strip s117_ok hsz hk
theorem notF_call [Tabs prog] {h : Heap} {b : Nat} {x y : Int} {g : FuncId} {cap : Array Value} {t : Bool} (hb : h[b]? = some (.cells [.func (.func g) #[] cap] 35 false))
    (hc : ∀ h', Ext (fun _ => False) h h' → APure prog g ([frV x y] ++ cap.toList) h' (.bool t)) : APure prog 117 [frV x y, .pointer (some ⟨b, 0, none⟩)] h (.bool (!t)) := by
  refine ACall.forget (Low.bool _) ?_
  refine s117_callW (by simp) ?_
  refine aw_aws ?_
  simp (maxSteps := 2000000) only [s117, ↓aw_region, ↓aw_skip, ↓aw_seq, ↓aw_block, ↓aw_exit, ↓aw_ret, ↓sops_nil, ↓sops_go, ↓dops_nil, ↓dopsX_nil, ↓dopsR_nil, ↓vdn, vup, extr_20, extr_21, extr_30, extr_31, extr_32, List.map_cons, List.map_nil, cond_true, cond_false, aop, aThen, aBlock, argEnv, ev, sput, sputO, binK, binI, unK, builtinK, pickK, Nat.reduceBEq, Nat.reduceAdd, Int.reduceBEq, Int.reduceBNe, Int.reduceLT, aPost, resK, tup, tyf, frV, boxF, newPtr, load1 (get_old hb _) shp_35, loadF (get_new h _), callK, List.nil_append, List.append_nil]
  refine (show APure prog g ([.agg #[vint x, vint y]] ++ cap.toList) (h ++ [Blk.cells [vint x, vint y] 26 false]) (.bool t) from hc _ (Ext.app _ _ _)).mono ?_
  rintro _ _ ⟨rfl, rfl⟩
  simp (maxSteps := 2000000) only [s117, ↓aw_region, ↓aw_skip, ↓aw_seq, ↓aw_block, ↓aw_exit, ↓aw_ret, ↓sops_nil, ↓sops_go, ↓dops_nil, ↓dopsX_nil, ↓dopsR_nil, ↓vdn, vup, extr_20, extr_21, extr_30, extr_31, extr_32, List.map_cons, List.map_nil, cond_true, cond_false, aop, aThen, aBlock, argEnv, ev, sput, sputO, binK, binI, unK, builtinK, pickK, Nat.reduceBEq, Nat.reduceAdd, Int.reduceBEq, Int.reduceBNe, Int.reduceLT, aPost, resK, tup, tyf]
  exact Ext.app _ _ _

theorem any_not (f : Int × Int → Bool) (ps : List (Int × Int)) : (!ps.any fun p => !f p) = ps.all f := by
  rw [List.all_eq_not_any_not]
theorem s105_callW [Tabs Try.prog] {args : List Value} {h : Heap} {Q : Value → Heap → Prop} (hsz : args.length ≤ 9) (hk : AWS Try.prog 9 s105 (aPost Try.prog [.tmp 4] Q) (argEnv 0 args) h) : ACall Try.prog 105 args h Q :=
  acall_w Try.func105 rfl (enters_of Try.func105 (by kernel_rfl) rfl) rfl rfl (by decide) s105_strip s105_ok hsz hk
theorem every_call [Tabs prog] {h : Heap} {v : Value} {ps : List (Int × Int)} {g : FuncId} {cap : Array Value} {f : Int × Int → Bool} (hv : PairSl h v ps) (hl : ps.length < 9223372036854775808)
    (hc : ∀ h', Ext (fun _ => False) h h' → ∀ p ∈ ps, APure prog g ([frV p.1 p.2] ++ cap.toList) h' (.bool (f p))) : APure prog 105 [v, .func (.func g) #[] cap] h (.bool (ps.all f)) := by
  obtain ⟨H, hH⟩ : ∃ H, H = h ++ [Blk.cells [.func (.func g) #[] cap] 35 false] := ⟨_, rfl⟩
  have hE : Ext (fun _ => False) h H := by rw [hH]; exact Ext.app _ _ _
  have c0 : H[h.length]? = some (Blk.cells [.func (.func g) #[] cap] 35 false) := by rw [hH]; exact get_new _ _
  have key := hasF_call (h := H) (g := 117) (cap := #[.pointer (some ⟨h.length, 0, none⟩)]) (f := fun p => !f p) (hv.ext hE) hl (fun h' hx p hp => notF_call ((hx.2 _ (get_lt c0) id).trans c0) fun h2 hx2 => hc h2 (hE.trans (hx.trans hx2)) p hp)
  refine ACall.forget (Low.bool _) ?_
  refine s105_callW (by simp) ?_
  refine aw_aws ?_
  have hbx : ∀ {K : Value → Heap → Prop}, boxK prog h 35 (.func (.func g) #[] cap) K = K (newPtr h) H := fun {K} => by
    rw [hH]; simp [boxK, esz_35, newPtr, cellsOf]
  simp (maxSteps := 2000000) only [s105, ↓aw_region, ↓aw_skip, ↓aw_seq, ↓aw_block, ↓aw_exit, ↓aw_ret, ↓sops_nil, ↓sops_go, ↓dops_nil, ↓dopsX_nil, ↓dopsR_nil, ↓vdn, vup, extr_20, extr_21, extr_30, extr_31, extr_32, List.map_cons, List.map_nil, cond_true, cond_false, aop, aThen, aBlock, argEnv, ev, sput, sputO, binK, binI, unK, builtinK, pickK, Nat.reduceBEq, Nat.reduceAdd, Int.reduceBEq, Int.reduceBNe, Int.reduceLT, aPost, resK, tup, tyf, callK, List.nil_append, List.append_nil, List.toList_toArray, List.cons_append, hbx, newPtr, List.map_toArray]
  refine (key).mono ?_
  rintro _ H ⟨rfl, rfl⟩
  simp (maxSteps := 2000000) only [s105, ↓aw_region, ↓aw_skip, ↓aw_seq, ↓aw_block, ↓aw_exit, ↓aw_ret, ↓sops_nil, ↓sops_go, ↓dops_nil, ↓dopsX_nil, ↓dopsR_nil, ↓vdn, vup, extr_20, extr_21, extr_30, extr_31, extr_32, List.map_cons, List.map_nil, cond_true, cond_false, aop, aThen, aBlock, argEnv, ev, sput, sputO, binK, binI, unK, builtinK, pickK, Nat.reduceBEq, Nat.reduceAdd, Int.reduceBEq, Int.reduceBNe, Int.reduceLT, aPost, resK, tup, tyf, any_not]
  exact hE

theorem s106_callW [Tabs Try.prog] {args : List Value} {h : Heap} {Q : Value → Heap → Prop} (hsz : args.length ≤ 5) (hk : AWS Try.prog 5 s106 (aPost Try.prog [.tmp 2] Q) (argEnv 0 args) h) : ACall Try.prog 106 args h Q :=
  acall_w Try.func106 rfl (enters_of Try.func106 (by kernel_rfl) rfl) rfl rfl (by decide) s106_strip s106_ok hsz hk
theorem ch60_call [Tabs prog] {h : Heap} {x y : Int} : APure prog 106 [frV x y] h (.bool (chB 60 (x, y))) := by
  refine ACall.forget (Low.bool _) ?_
  refine s106_callW (by simp) ?_
  refine aw_aws ?_
  have cc : APure prog 107 [.agg #[vint x, vint y], .int .i64 60] (h ++ [Blk.cells [vint x, vint y] 26 false]) (.bool (chB 60 (x, y))) := chance_call (by decide)
  simp (maxSteps := 2000000) only [s106, ↓aw_region, ↓aw_skip, ↓aw_seq, ↓aw_block, ↓aw_exit, ↓aw_ret, ↓sops_nil, ↓sops_go, ↓dops_nil, ↓dopsX_nil, ↓dopsR_nil, ↓vdn, vup, extr_20, extr_21, extr_30, extr_31, extr_32, List.map_cons, List.map_nil, cond_true, cond_false, aop, aThen, aBlock, argEnv, ev, sput, sputO, binK, binI, unK, builtinK, pickK, Nat.reduceBEq, Nat.reduceAdd, Int.reduceBEq, Int.reduceBNe, Int.reduceLT, aPost, resK, tup, tyf, callK, List.nil_append, List.append_nil, List.toList_toArray, List.cons_append, frV, boxF, newPtr, loadF (get_new h _)]
  refine (cc).mono ?_
  rintro _ _ ⟨rfl, rfl⟩
  simp (maxSteps := 2000000) only [s106, ↓aw_region, ↓aw_skip, ↓aw_seq, ↓aw_block, ↓aw_exit, ↓aw_ret, ↓sops_nil, ↓sops_go, ↓dops_nil, ↓dopsX_nil, ↓dopsR_nil, ↓vdn, vup, extr_20, extr_21, extr_30, extr_31, extr_32, List.map_cons, List.map_nil, cond_true, cond_false, aop, aThen, aBlock, argEnv, ev, sput, sputO, binK, binI, unK, builtinK, pickK, Nat.reduceBEq, Nat.reduceAdd, Int.reduceBEq, Int.reduceBNe, Int.reduceLT, aPost, resK, tup, tyf]
  exact Ext.app _ _ _

theorem s61_callW [Tabs Try.prog] {args : List Value} {h : Heap} {Q : Value → Heap → Prop} (hsz : args.length ≤ 26) (hk : AWS Try.prog 26 s61 (aPost Try.prog [.cell 4 26] Q) (argEnv 0 args) h) : ACall Try.prog 61 args h Q :=
  acall_w Try.func61 rfl (enters_of Try.func61 (by kernel_rfl) rfl) rfl rfl (by decide) s61_strip s61_ok hsz hk
theorem of_call [Tabs prog] {h : Heap} {v : Value} {evt N : Nat} {ps : List (Int × Int)} (hv : PairSl h v ps) (hl : ps.length ≤ 100) (hvl : Vld ps) (hev : evt < 9223372036854775808) (hN : 0 < N) (hN2 : N ≤ 10000000000000)
    (hq : ∀ k, k < ps.length → 0 ≤ fq ps k ∧ fq ps k ≤ 1 ∧ (fq ps k).den ∣ N) : APure prog 61 [v, vint (evt : Nat)] h (qV (sumTo (inEv (fq ps) evt) ps.length)) := by
  have hq2 : ∀ k, k < ps.length → 0 ≤ inEv (fq ps) evt k ∧ inEv (fq ps) evt k ≤ 1 ∧ (inEv (fq ps) evt k).den ∣ N := fun k hk => by
    rw [inEv]; split
    · exact hq k hk
    · exact ⟨Rat.le_refl, by decide, Nat.one_dvd _⟩
  have hs : ∀ k, k ≤ ps.length → 0 ≤ sumTo (inEv (fq ps) evt) k ∧ sumTo (inEv (fq ps) evt) k ≤ (100 : Nat) ∧ (sumTo (inEv (fq ps) evt) k).den ∣ N := fun k hk => by
    refine ⟨sumTo_nonneg fun i hi => (hq2 i (by omega)).1, ?_, sumTo_den hN fun i hi => (hq2 i (by omega)).2.2⟩
    have : ∀ j, j ≤ k → sumTo (inEv (fq ps) evt) j ≤ (j : Nat) := by
      intro j
      induction j with
      | zero => intro _; exact Rat.le_refl
      | succ j ih =>
        intro hj
        have h1 := ih (by omega)
        have h2 := (hq2 j (by omega)).2.1
        rw [sumTo]; push_cast; grind
    refine Rat.le_trans (this k (Nat.le_refl _)) ?_
    exact_mod_cast (show k ≤ 100 by omega)
  refine ACall.forget (low_frV _ _) ?_
  refine s61_callW (by simp) ?_
  simp only [s61]
  refine aws_cut fun N9 hN9 => ?_
  simp (maxSteps := 2000000) only [s61, ↓aw_region, ↓aw_skip, ↓aw_seq, ↓aw_block, ↓aw_exit, ↓aw_ret, ↓sops_nil, ↓sops_go, ↓dops_nil, ↓dopsX_nil, ↓dopsR_nil, ↓vdn, vup, extr_20, extr_21, extr_30, extr_31, extr_32, List.map_cons, List.map_nil, cond_true, cond_false, aop, aThen, aBlock, argEnv, ev, sput, sputO, binK, binI, unK, builtinK, pickK, Nat.reduceBEq, Nat.reduceAdd, Int.reduceBEq, Int.reduceBNe, Int.reduceLT, aPost, resK, tup, tyf, allocK, newPtr, zero_26]
  refine hN9 [(0, v), (1, vint (evt : Nat)), (4, .pointer (some ⟨h.length, 0, none⟩))] _ _ ?_ (by simp (maxSteps := 2000000) only [↓aw_region, ↓aw_skip, ↓aw_seq, ↓aw_block, ↓aw_exit, ↓aw_ret, ↓sops_nil, ↓sops_go, ↓dops_nil, ↓dopsX_nil, ↓dopsR_nil, ↓vdn, vup, extr_20, extr_21, extr_30, extr_31, extr_32, List.map_cons, List.map_nil, cond_true, cond_false, aop, aThen, aBlock, argEnv, ev, sput, sputO, binK, binI, unK, builtinK, pickK, Nat.reduceBEq, Nat.reduceAdd, Int.reduceBEq, Int.reduceBNe, Int.reduceLT, aPost, resK, tup, tyf])
  clear hN9
  try clear N9
  refine aws_cut fun N10 hN10 => ?_
  simp (maxSteps := 2000000) only [s61, ↓aw_region, ↓aw_skip, ↓aw_seq, ↓aw_block, ↓aw_exit, ↓aw_ret, ↓sops_nil, ↓sops_go, ↓dops_nil, ↓dopsX_nil, ↓dopsR_nil, ↓vdn, vup, extr_20, extr_21, extr_30, extr_31, extr_32, List.map_cons, List.map_nil, cond_true, cond_false, aop, aThen, aBlock, argEnv, ev, sput, sputO, binK, binI, unK, builtinK, pickK, Nat.reduceBEq, Nat.reduceAdd, Int.reduceBEq, Int.reduceBNe, Int.reduceLT, aPost, resK, tup, tyf, callK, List.nil_append, List.append_nil, List.toList_toArray, List.cons_append]
  refine ((show APure prog 70 [.int .i64 0] (h ++ [z0]) (qV ((0 : Int) : Rat)) from whole_call)).mono ?_
  rintro _ H1 ⟨rfl, hH1⟩
  have h1l : H1.length = h.length + 1 := by rw [hH1]; simp
  have q0 : qV ((0 : Int) : Rat) = .agg #[vint 0, vint 1] := rfl
  have n5 : (H1 ++ [Blk.cells [.int .i64 0, .int .i64 0] 26 false])[H1.length]? = some z0 := get_new _ _
  simp (maxSteps := 2000000) only [s61, ↓aw_region, ↓aw_skip, ↓aw_seq, ↓aw_block, ↓aw_exit, ↓aw_ret, ↓sops_nil, ↓sops_go, ↓dops_nil, ↓dopsX_nil, ↓dopsR_nil, ↓vdn, vup, extr_20, extr_21, extr_30, extr_31, extr_32, List.map_cons, List.map_nil, cond_true, cond_false, aop, aThen, aBlock, argEnv, ev, sput, sputO, binK, binI, unK, builtinK, pickK, Nat.reduceBEq, Nat.reduceAdd, Int.reduceBEq, Int.reduceBNe, Int.reduceLT, aPost, resK, tup, tyf, allocK, newPtr, zero_26, q0, storeF n5 rfl, set_new]
  rw [h1l]
  obtain ⟨H0, hH0⟩ : ∃ H0, H0 = H1 ++ [fC 0 1] := ⟨_, rfl⟩
  have d4 : H0[h.length]? = some z0 := by rw [hH0, hH1]; exact b2_0 ..
  have d5 : H0[h.length + 1]? = some (fC 0 1) := by rw [hH0, hH1]; exact b2_1 ..
  have dE : Ext (fun _ => False) h H0 := by rw [hH0, hH1]; exact e2 ..
  rw [← hH0]
  refine hN10 [(0, v), (1, vint (evt : Nat)), (4, .pointer (some ⟨h.length, 0, none⟩)), (5, .pointer (some ⟨h.length + 1, 0, none⟩))] _ _ ?_ (by simp (maxSteps := 2000000) only [↓aw_region, ↓aw_skip, ↓aw_seq, ↓aw_block, ↓aw_exit, ↓aw_ret, ↓sops_nil, ↓sops_go, ↓dops_nil, ↓dopsX_nil, ↓dopsR_nil, ↓vdn, vup, extr_20, extr_21, extr_30, extr_31, extr_32, List.map_cons, List.map_nil, cond_true, cond_false, aop, aThen, aBlock, argEnv, ev, sput, sputO, binK, binI, unK, builtinK, pickK, Nat.reduceBEq, Nat.reduceAdd, Int.reduceBEq, Int.reduceBNe, Int.reduceLT, aPost, resK, tup, tyf])
  clear hN10
  try clear N10
  refine aws_cutW fun Z hZ => ?_
  refine aws_cut fun N11 hN11 => ?_
  simp (maxSteps := 2000000) only [s61, ↓aw_region, ↓aw_skip, ↓aw_seq, ↓aw_block, ↓aw_exit, ↓aw_ret, ↓sops_nil, ↓sops_go, ↓dops_nil, ↓dopsX_nil, ↓dopsR_nil, ↓vdn, vup, extr_20, extr_21, extr_30, extr_31, extr_32, List.map_cons, List.map_nil, cond_true, cond_false, aop, aThen, aBlock, argEnv, ev, sput, sputO, binK, binI, unK, builtinK, pickK, Nat.reduceBEq, Nat.reduceAdd, Int.reduceBEq, Int.reduceBNe, Int.reduceLT, aPost, resK, tup, tyf, hv.len]
  refine hN11 [(0, v), (1, vint (evt : Nat)), (4, .pointer (some ⟨h.length, 0, none⟩)), (5, .pointer (some ⟨h.length + 1, 0, none⟩)), (9, v), (10, vint ps.length), (11, .int .i64 0)] _ _ ?_ (by simp (maxSteps := 2000000) only [↓aw_region, ↓aw_skip, ↓aw_seq, ↓aw_block, ↓aw_exit, ↓aw_ret, ↓sops_nil, ↓sops_go, ↓dops_nil, ↓dopsX_nil, ↓dopsR_nil, ↓vdn, vup, extr_20, extr_21, extr_30, extr_31, extr_32, List.map_cons, List.map_nil, cond_true, cond_false, aop, aThen, aBlock, argEnv, ev, sput, sputO, binK, binI, unK, builtinK, pickK, Nat.reduceBEq, Nat.reduceAdd, Int.reduceBEq, Int.reduceBNe, Int.reduceLT, aPost, resK, tup, tyf])
  clear hN11
  try clear N11
  refine aws_block ?_
  refine aws_hide fun Q hQ => ?_
  refine aw_loopW (γ := Nat × Heap) (fun s => s.1 ≤ ps.length ∧ Ext (fun _ => False) h s.2 ∧ s.2[h.length]? = some z0 ∧ s.2[h.length + 1]? = some (fC (sumTo (inEv (fq ps) evt) s.1).num (sumTo (inEv (fq ps) evt) s.1).den))
    (fun s => ([(0, v), (1, vint (evt : Nat)), (4, .pointer (some ⟨h.length, 0, none⟩)), (5, .pointer (some ⟨h.length + 1, 0, none⟩)), (9, v), (10, vint ps.length), (11, vint (s.1 : Nat))], s.2)) (fun s => ps.length - s.1) (0, H0) ⟨Nat.zero_le _, dE, d4, d5⟩ (by simp (maxSteps := 2000000) only [↓aw_region, ↓aw_skip, ↓aw_seq, ↓aw_block, ↓aw_exit, ↓aw_ret, ↓sops_nil, ↓sops_go, ↓dops_nil, ↓dopsX_nil, ↓dopsR_nil, ↓vdn, vup, extr_20, extr_21, extr_30, extr_31, extr_32, List.map_cons, List.map_nil, cond_true, cond_false, aop, aThen, aBlock, argEnv, ev, sput, sputO, binK, binI, unK, builtinK, pickK, Nat.reduceBEq, Nat.reduceAdd, Int.reduceBEq, Int.reduceBNe, Int.reduceLT, aPost, resK, tup, tyf, Int.natCast_zero]) rfl ?_
  rintro ⟨k, hp⟩ ⟨hk, hE, k4, k5⟩
  simp only at hk hE k4 k5
  refine aws_hide fun Q2 hQ2 => ?_
  simp only [l61_0]
  by_cases hin : (k : Int) < ps.length
  · have hk' : k < ps.length := by omega
    have hvp := hv.ext hE
    obtain ⟨⟨x, y⟩, hxy⟩ : ∃ p, ps.getD k (0, 0) = p := ⟨_, rfl⟩
    have hmem : (x, y) ∈ ps := hxy ▸ getD_mem hk'
    have hxq := frV_q (hvl _ hmem)
    have hfq : fq ps k = toQ (x, y) := by rw [fq, hxy]
    have ht := testV (y := k) hev
    obtain ⟨s1, s2, s3⟩ := hs k hk
    obtain ⟨t1, t2, t3⟩ := hq k hk'
    have hnext : sumTo (inEv (fq ps) evt) (k + 1) = sumTo (inEv (fq ps) evt) k + if evt.testBit k then fq ps k else 0 := rfl
    obtain ⟨H, hH⟩ : ∃ H, H = hp ++ [fC x y] := ⟨_, rfl⟩
    have c7 : H[hp.length]? = some (fC x y) := by rw [hH]; exact get_new _ _
    have c4 : H[h.length]? = some z0 := by rw [hH]; exact get_old k4 _
    have c5 : H[h.length + 1]? = some (fC (sumTo (inEv (fq ps) evt) k).num (sumTo (inEv (fq ps) evt) k).den) := by rw [hH]; exact get_old k5 _
    have hEH : Ext (fun _ => False) h H := by rw [hH]; exact hE.trans (Ext.app _ _ _)
    refine aws_cut fun N12 hN12 => ?_
    simp (maxSteps := 2000000) only [s61, ↓aw_region, ↓aw_skip, ↓aw_seq, ↓aw_block, ↓aw_exit, ↓aw_ret, ↓sops_nil, ↓sops_go, ↓dops_nil, ↓dopsX_nil, ↓dopsR_nil, ↓vdn, vup, extr_20, extr_21, extr_30, extr_31, extr_32, List.map_cons, List.map_nil, cond_true, cond_false, aop, aThen, aBlock, argEnv, ev, sput, sputO, binK, binI, unK, builtinK, pickK, Nat.reduceBEq, Nat.reduceAdd, Int.reduceBEq, Int.reduceBNe, Int.reduceLT, aPost, resK, tup, tyf, hin]
    refine hN12 [(0, v), (1, vint (evt : Nat)), (4, .pointer (some ⟨h.length, 0, none⟩)), (5, .pointer (some ⟨h.length + 1, 0, none⟩)), (9, v), (10, vint ps.length), (11, vint (k : Nat)), (12, .bool true)] _ _ ?_ (by simp (maxSteps := 2000000) only [↓aw_region, ↓aw_skip, ↓aw_seq, ↓aw_block, ↓aw_exit, ↓aw_ret, ↓sops_nil, ↓sops_go, ↓dops_nil, ↓dopsX_nil, ↓dopsR_nil, ↓vdn, vup, extr_20, extr_21, extr_30, extr_31, extr_32, List.map_cons, List.map_nil, cond_true, cond_false, aop, aThen, aBlock, argEnv, ev, sput, sputO, binK, binI, unK, builtinK, pickK, Nat.reduceBEq, Nat.reduceAdd, Int.reduceBEq, Int.reduceBNe, Int.reduceLT, aPost, resK, tup, tyf])
    clear hN12
    try clear N12
    refine aws_cut fun N13 hN13 => ?_
    simp (maxSteps := 2000000) only [s61, ↓aw_region, ↓aw_skip, ↓aw_seq, ↓aw_block, ↓aw_exit, ↓aw_ret, ↓sops_nil, ↓sops_go, ↓dops_nil, ↓dopsX_nil, ↓dopsR_nil, ↓vdn, vup, extr_20, extr_21, extr_30, extr_31, extr_32, List.map_cons, List.map_nil, cond_true, cond_false, aop, aThen, aBlock, argEnv, ev, sput, sputO, binK, binI, unK, builtinK, pickK, Nat.reduceBEq, Nat.reduceAdd, Int.reduceBEq, Int.reduceBNe, Int.reduceLT, aPost, resK, tup, tyf]
    refine hN13 [(0, v), (1, vint (evt : Nat)), (4, .pointer (some ⟨h.length, 0, none⟩)), (5, .pointer (some ⟨h.length + 1, 0, none⟩)), (9, v), (10, vint ps.length), (11, vint (k : Nat))] _ _ ?_ (by simp (maxSteps := 2000000) only [↓aw_region, ↓aw_skip, ↓aw_seq, ↓aw_block, ↓aw_exit, ↓aw_ret, ↓sops_nil, ↓sops_go, ↓dops_nil, ↓dopsX_nil, ↓dopsR_nil, ↓vdn, vup, extr_20, extr_21, extr_30, extr_31, extr_32, List.map_cons, List.map_nil, cond_true, cond_false, aop, aThen, aBlock, argEnv, ev, sput, sputO, binK, binI, unK, builtinK, pickK, Nat.reduceBEq, Nat.reduceAdd, Int.reduceBEq, Int.reduceBNe, Int.reduceLT, aPost, resK, tup, tyf])
    clear hN13
    try clear N13
    refine aws_cutW fun B hB => ?_
    refine aws_block ?_
    refine aws_cut fun N14 hN14 => ?_
    simp (maxSteps := 2000000) only [s61, ↓aw_region, ↓aw_skip, ↓aw_seq, ↓aw_block, ↓aw_exit, ↓aw_ret, ↓sops_nil, ↓sops_go, ↓dops_nil, ↓dopsX_nil, ↓dopsR_nil, ↓vdn, vup, extr_20, extr_21, extr_30, extr_31, extr_32, List.map_cons, List.map_nil, cond_true, cond_false, aop, aThen, aBlock, argEnv, ev, sput, sputO, binK, binI, unK, builtinK, pickK, Nat.reduceBEq, Nat.reduceAdd, Int.reduceBEq, Int.reduceBNe, Int.reduceLT, aPost, resK, tup, tyf, hvp.idx el_90 esz_26 hk', hvp.load shp_26 hk', hxy, allocK, newPtr, zero_26, storeF (get_new hp z0) rfl, set_new]
    rw [← hH]
    refine hN14 [(0, v), (1, vint (evt : Nat)), (4, .pointer (some ⟨h.length, 0, none⟩)), (5, .pointer (some ⟨h.length + 1, 0, none⟩)), (6, vint (k : Nat)), (7, .pointer (some ⟨hp.length, 0, none⟩)), (9, v), (10, vint ps.length), (11, vint (k : Nat))] _ _ ?_ (by simp (maxSteps := 2000000) only [↓aw_region, ↓aw_skip, ↓aw_seq, ↓aw_block, ↓aw_exit, ↓aw_ret, ↓sops_nil, ↓sops_go, ↓dops_nil, ↓dopsX_nil, ↓dopsR_nil, ↓vdn, vup, extr_20, extr_21, extr_30, extr_31, extr_32, List.map_cons, List.map_nil, cond_true, cond_false, aop, aThen, aBlock, argEnv, ev, sput, sputO, binK, binI, unK, builtinK, pickK, Nat.reduceBEq, Nat.reduceAdd, Int.reduceBEq, Int.reduceBNe, Int.reduceLT, aPost, resK, tup, tyf])
    clear hN14
    try clear N14
    have fin : ∀ e h2, Ext (fun _ => False) h h2 → h2[h.length]? = some z0 → h2[h.length + 1]? = some (fC (sumTo (inEv (fq ps) evt) (k + 1)).num (sumTo (inEv (fq ps) evt) (k + 1)).den) → ELe e [(0, v), (1, vint (evt : Nat)), (4, .pointer (some ⟨h.length, 0, none⟩)), (5, .pointer (some ⟨h.length + 1, 0, none⟩)), (9, v), (10, vint ps.length), (11, vint (k : Nat))] → B e h2 := by
      intro e h2 g1 g2 g3 he
      refine hB _ _ _ ?_ he
      refine aw_aws ?_
      simp (maxSteps := 2000000) only [s61, ↓aw_region, ↓aw_skip, ↓aw_seq, ↓aw_block, ↓aw_exit, ↓aw_ret, ↓sops_nil, ↓sops_go, ↓dops_nil, ↓dopsX_nil, ↓dopsR_nil, ↓vdn, vup, extr_20, extr_21, extr_30, extr_31, extr_32, List.map_cons, List.map_nil, cond_true, cond_false, aop, aThen, aBlock, argEnv, ev, sput, sputO, binK, binI, unK, builtinK, pickK, Nat.reduceBEq, Nat.reduceAdd, Int.reduceBEq, Int.reduceBNe, Int.reduceLT, aPost, resK, tup, tyf, add1 (show k < 9223372036854775807 by omega)]
      exact hQ2 _ _ _ ⟨(k + 1, h2), ⟨hk', g1, g2, g3⟩, by simp only; omega, by simp (maxSteps := 2000000) only [↓aw_region, ↓aw_skip, ↓aw_seq, ↓aw_block, ↓aw_exit, ↓aw_ret, ↓sops_nil, ↓sops_go, ↓dops_nil, ↓dopsX_nil, ↓dopsR_nil, ↓vdn, vup, extr_20, extr_21, extr_30, extr_31, extr_32, List.map_cons, List.map_nil, cond_true, cond_false, aop, aThen, aBlock, argEnv, ev, sput, sputO, binK, binI, unK, builtinK, pickK, Nat.reduceBEq, Nat.reduceAdd, Int.reduceBEq, Int.reduceBNe, Int.reduceLT, aPost, resK, tup, tyf], rfl⟩
    refine aws_cut fun N15 hN15 => ?_
    simp (maxSteps := 2000000) only [s61, ↓aw_region, ↓aw_skip, ↓aw_seq, ↓aw_block, ↓aw_exit, ↓aw_ret, ↓sops_nil, ↓sops_go, ↓dops_nil, ↓dopsX_nil, ↓dopsR_nil, ↓vdn, vup, extr_20, extr_21, extr_30, extr_31, extr_32, List.map_cons, List.map_nil, cond_true, cond_false, aop, aThen, aBlock, argEnv, ev, sput, sputO, binK, binI, unK, builtinK, pickK, Nat.reduceBEq, Nat.reduceAdd, Int.reduceBEq, Int.reduceBNe, Int.reduceLT, aPost, resK, tup, tyf, ht, beq1]
    refine hN15 [(0, v), (1, vint (evt : Nat)), (4, .pointer (some ⟨h.length, 0, none⟩)), (5, .pointer (some ⟨h.length + 1, 0, none⟩)), (6, vint (k : Nat)), (7, .pointer (some ⟨hp.length, 0, none⟩)), (9, v), (10, vint ps.length), (11, vint (k : Nat)), (20, .bool (evt.testBit k))] _ _ ?_ (by simp (maxSteps := 2000000) only [↓aw_region, ↓aw_skip, ↓aw_seq, ↓aw_block, ↓aw_exit, ↓aw_ret, ↓sops_nil, ↓sops_go, ↓dops_nil, ↓dopsX_nil, ↓dopsR_nil, ↓vdn, vup, extr_20, extr_21, extr_30, extr_31, extr_32, List.map_cons, List.map_nil, cond_true, cond_false, aop, aThen, aBlock, argEnv, ev, sput, sputO, binK, binI, unK, builtinK, pickK, Nat.reduceBEq, Nat.reduceAdd, Int.reduceBEq, Int.reduceBNe, Int.reduceLT, aPost, resK, tup, tyf])
    clear hN15
    try clear N15
    refine aw_aws ?_
    cases hbit : evt.testBit k with
    | false =>
      rw [hbit, if_neg (by decide), Rat.add_zero] at hnext
      simp (maxSteps := 2000000) only [s61, ↓aw_region, ↓aw_skip, ↓aw_seq, ↓aw_block, ↓aw_exit, ↓aw_ret, ↓sops_nil, ↓sops_go, ↓dops_nil, ↓dopsX_nil, ↓dopsR_nil, ↓vdn, vup, extr_20, extr_21, extr_30, extr_31, extr_32, List.map_cons, List.map_nil, cond_true, cond_false, aop, aThen, aBlock, argEnv, ev, sput, sputO, binK, binI, unK, builtinK, pickK, Nat.reduceBEq, Nat.reduceAdd, Int.reduceBEq, Int.reduceBNe, Int.reduceLT, aPost, resK, tup, tyf, hbit]
      exact fin _ _ hEH c4 (by rw [hnext]; exact c5) (by simp (maxSteps := 2000000) only [↓aw_region, ↓aw_skip, ↓aw_seq, ↓aw_block, ↓aw_exit, ↓aw_ret, ↓sops_nil, ↓sops_go, ↓dops_nil, ↓dopsX_nil, ↓dopsR_nil, ↓vdn, vup, extr_20, extr_21, extr_30, extr_31, extr_32, List.map_cons, List.map_nil, cond_true, cond_false, aop, aThen, aBlock, argEnv, ev, sput, sputO, binK, binI, unK, builtinK, pickK, Nat.reduceBEq, Nat.reduceAdd, Int.reduceBEq, Int.reduceBNe, Int.reduceLT, aPost, resK, tup, tyf])
    | true =>
      rw [hbit, if_pos rfl] at hnext
      have pl := plus_fits (h := H) (k := 1) (A := 100) (B := 1) hN (by omega) s3 t3 (Rat.le_trans (by decide) s1) s2 (Rat.le_trans (by decide) t1) t2 (by simp; omega)
      rw [show (((1 : Int)) : Rat) = 1 from rfl, Rat.one_mul, ← hnext, hfq, ← hxq] at pl
      obtain ⟨q, hqq⟩ : ∃ q, sumTo (inEv (fq ps) evt) (k + 1) = q := ⟨_, rfl⟩
      rw [hqq] at pl fin
      obtain ⟨s, hss⟩ : ∃ s, sumTo (inEv (fq ps) evt) k = s := ⟨_, rfl⟩
      rw [hss] at pl c5
      simp (maxSteps := 2000000) only [s61, ↓aw_region, ↓aw_skip, ↓aw_seq, ↓aw_block, ↓aw_exit, ↓aw_ret, ↓sops_nil, ↓sops_go, ↓dops_nil, ↓dopsX_nil, ↓dopsR_nil, ↓vdn, vup, extr_20, extr_21, extr_30, extr_31, extr_32, List.map_cons, List.map_nil, cond_true, cond_false, aop, aThen, aBlock, argEnv, ev, sput, sputO, binK, binI, unK, builtinK, pickK, Nat.reduceBEq, Nat.reduceAdd, Int.reduceBEq, Int.reduceBNe, Int.reduceLT, aPost, resK, tup, tyf, hbit, loadF c5, loadF c7, callK, List.nil_append, List.append_nil, List.toList_toArray, List.cons_append]
      refine (show APure prog 71 [.agg #[vint s.num, vint s.den], vint 1, .agg #[vint x, vint y]] H (qV q) from pl).mono ?_
      rintro _ H ⟨rfl, rfl⟩
      simp (maxSteps := 2000000) only [s61, ↓aw_region, ↓aw_skip, ↓aw_seq, ↓aw_block, ↓aw_exit, ↓aw_ret, ↓sops_nil, ↓sops_go, ↓dops_nil, ↓dopsX_nil, ↓dopsR_nil, ↓vdn, vup, extr_20, extr_21, extr_30, extr_31, extr_32, List.map_cons, List.map_nil, cond_true, cond_false, aop, aThen, aBlock, argEnv, ev, sput, sputO, binK, binI, unK, builtinK, pickK, Nat.reduceBEq, Nat.reduceAdd, Int.reduceBEq, Int.reduceBNe, Int.reduceLT, aPost, resK, tup, tyf, qV, frV, storeF c5 rfl]
      refine fin _ _ (hEH.set_ge (by omega) _) (by rw [List.getElem?_set_ne (by omega)]; exact c4) (get_set (get_lt c5) _) (by simp (maxSteps := 2000000) only [↓aw_region, ↓aw_skip, ↓aw_seq, ↓aw_block, ↓aw_exit, ↓aw_ret, ↓sops_nil, ↓sops_go, ↓dops_nil, ↓dopsX_nil, ↓dopsR_nil, ↓vdn, vup, extr_20, extr_21, extr_30, extr_31, extr_32, List.map_cons, List.map_nil, cond_true, cond_false, aop, aThen, aBlock, argEnv, ev, sput, sputO, binK, binI, unK, builtinK, pickK, Nat.reduceBEq, Nat.reduceAdd, Int.reduceBEq, Int.reduceBNe, Int.reduceLT, aPost, resK, tup, tyf])
  · obtain rfl : k = ps.length := by omega
    refine aws_cut fun N16 hN16 => ?_
    simp (maxSteps := 2000000) only [s61, ↓aw_region, ↓aw_skip, ↓aw_seq, ↓aw_block, ↓aw_exit, ↓aw_ret, ↓sops_nil, ↓sops_go, ↓dops_nil, ↓dopsX_nil, ↓dopsR_nil, ↓vdn, vup, extr_20, extr_21, extr_30, extr_31, extr_32, List.map_cons, List.map_nil, cond_true, cond_false, aop, aThen, aBlock, argEnv, ev, sput, sputO, binK, binI, unK, builtinK, pickK, Nat.reduceBEq, Nat.reduceAdd, Int.reduceBEq, Int.reduceBNe, Int.reduceLT, aPost, resK, tup, tyf, hin]
    refine hN16 [(0, v), (1, vint (evt : Nat)), (4, .pointer (some ⟨h.length, 0, none⟩)), (5, .pointer (some ⟨h.length + 1, 0, none⟩)), (9, v), (10, vint ps.length), (11, vint ps.length), (12, .bool false)] _ _ ?_ (by simp (maxSteps := 2000000) only [↓aw_region, ↓aw_skip, ↓aw_seq, ↓aw_block, ↓aw_exit, ↓aw_ret, ↓sops_nil, ↓sops_go, ↓dops_nil, ↓dopsX_nil, ↓dopsR_nil, ↓vdn, vup, extr_20, extr_21, extr_30, extr_31, extr_32, List.map_cons, List.map_nil, cond_true, cond_false, aop, aThen, aBlock, argEnv, ev, sput, sputO, binK, binI, unK, builtinK, pickK, Nat.reduceBEq, Nat.reduceAdd, Int.reduceBEq, Int.reduceBNe, Int.reduceLT, aPost, resK, tup, tyf])
    clear hN16
    try clear N16
    refine aws_cut fun N17 hN17 => ?_
    simp (maxSteps := 2000000) only [s61, ↓aw_region, ↓aw_skip, ↓aw_seq, ↓aw_block, ↓aw_exit, ↓aw_ret, ↓sops_nil, ↓sops_go, ↓dops_nil, ↓dopsX_nil, ↓dopsR_nil, ↓vdn, vup, extr_20, extr_21, extr_30, extr_31, extr_32, List.map_cons, List.map_nil, cond_true, cond_false, aop, aThen, aBlock, argEnv, ev, sput, sputO, binK, binI, unK, builtinK, pickK, Nat.reduceBEq, Nat.reduceAdd, Int.reduceBEq, Int.reduceBNe, Int.reduceLT, aPost, resK, tup, tyf]
    refine hQ2 _ _ _ (hQ _ _ _ ?_)
    simp (maxSteps := 2000000) only [s61, ↓aw_region, ↓aw_skip, ↓aw_seq, ↓aw_block, ↓aw_exit, ↓aw_ret, ↓sops_nil, ↓sops_go, ↓dops_nil, ↓dopsX_nil, ↓dopsR_nil, ↓vdn, vup, extr_20, extr_21, extr_30, extr_31, extr_32, List.map_cons, List.map_nil, cond_true, cond_false, aop, aThen, aBlock, argEnv, ev, sput, sputO, binK, binI, unK, builtinK, pickK, Nat.reduceBEq, Nat.reduceAdd, Int.reduceBEq, Int.reduceBNe, Int.reduceLT, aPost, resK, tup, tyf, if_true]
    refine hZ [(0, v), (1, vint (evt : Nat)), (4, .pointer (some ⟨h.length, 0, none⟩)), (5, .pointer (some ⟨h.length + 1, 0, none⟩)), (9, v), (10, vint ps.length), (11, vint ps.length), (12, .bool false)] _ _ ?_ (by simp (maxSteps := 2000000) only [↓aw_region, ↓aw_skip, ↓aw_seq, ↓aw_block, ↓aw_exit, ↓aw_ret, ↓sops_nil, ↓sops_go, ↓dops_nil, ↓dopsX_nil, ↓dopsR_nil, ↓vdn, vup, extr_20, extr_21, extr_30, extr_31, extr_32, List.map_cons, List.map_nil, cond_true, cond_false, aop, aThen, aBlock, argEnv, ev, sput, sputO, binK, binI, unK, builtinK, pickK, Nat.reduceBEq, Nat.reduceAdd, Int.reduceBEq, Int.reduceBNe, Int.reduceLT, aPost, resK, tup, tyf])
    clear hZ
    try clear Z
    obtain ⟨q, hqq⟩ : ∃ q, sumTo (inEv (fq ps) evt) ps.length = q := ⟨_, rfl⟩
    rw [hqq] at k5 ⊢
    refine aw_aws ?_
    simp (maxSteps := 2000000) only [s61, ↓aw_region, ↓aw_skip, ↓aw_seq, ↓aw_block, ↓aw_exit, ↓aw_ret, ↓sops_nil, ↓sops_go, ↓dops_nil, ↓dopsX_nil, ↓dopsR_nil, ↓vdn, vup, extr_20, extr_21, extr_30, extr_31, extr_32, List.map_cons, List.map_nil, cond_true, cond_false, aop, aThen, aBlock, argEnv, ev, sput, sputO, binK, binI, unK, builtinK, pickK, Nat.reduceBEq, Nat.reduceAdd, Int.reduceBEq, Int.reduceBNe, Int.reduceLT, aPost, resK, tup, tyf, loadF k5, storeF k4 rfl, loadF (get_set (get_lt k4) _)]
    exact ⟨rfl, hE.set_ge (Nat.le_refl _) _⟩
end Go.Proofs.Try.Am

namespace Go.Proofs.Try.Am
open Go.Am Bq
set_option maxRecDepth 100000
set_option maxHeartbeats 1000000

theorem qeq (a b : Rat) : (([a.num, (a.den : Int)] : List Int) == [b.num, (b.den : Int)]) = decide (a = b) := by
  rw [Bool.eq_iff_iff, beq_iff_eq, decide_eq_true_eq, List.cons.injEq, List.cons.injEq]
  constructor
  · rintro ⟨h1, h2, _⟩; exact Rat.ext h1 (by omega)
  · rintro rfl; exact ⟨rfl, rfl, rfl⟩
theorem shl1 {n : Nat} (h : n ≤ 62) : shlV .i64 1 n = 2 ^ n := by
  have h2 : 2 ^ n ≤ 2 ^ 62 := Nat.pow_le_pow_right (by decide) h
  have := shlV_nat (a := 1) (y := n) (by omega) (by omega)
  simpa using this
theorem pow_cast (n : Nat) : ((2 ^ n : Nat) : Int) = 2 ^ n := by simp
theorem pow_le {n : Nat} (h : n ≤ 62) : 2 ^ n ≤ 4611686018427387904 := Nat.pow_le_pow_right (n := 2) (j := 62) (by decide) h
/-- All worlds. -/
theorem all_worlds {n : Nat} (h : n ≤ 62) : subV .i64 (2 ^ n) 1 = ((2 ^ n - 1 : Nat) : Int) := by
  have := pow_le h
  have := Nat.two_pow_pos n
  rw [← pow_cast, subV_id (by omega) (by omega)]; omega
theorem inEv_all {f : Nat → Rat} {n : Nat} : sumTo (inEv f (2 ^ n - 1)) n = sumTo f n := sumTo_congr fun i hi => by
  rw [inEv, Nat.testBit_two_pow_sub_one]; simp [hi]
theorem s69_callW [Tabs Try.prog] {args : List Value} {h : Heap} {Q : Value → Heap → Prop} (hsz : args.length ≤ 24) (hk : AWS Try.prog 24 s69 (aPost Try.prog [.tmp 2] Q) (argEnv 0 args) h) : ACall Try.prog 69 args h Q :=
  acall_w Try.func69 rfl (enters_of Try.func69 (by kernel_rfl) rfl) rfl rfl (by decide) s69_strip s69_ok hsz hk
theorem isfc_call [Tabs prog] {h : Heap} {v : Value} {ps : List (Int × Int)} (hv : PairSl h v ps) (hl : ps.length < 9223372036854775808) : APure prog 69 [v] h (.bool (fcB ps)) := by
  refine s69_callW (by simp) ?_
  simp only [s69]
  refine aws_cut fun N1 hN1 => ?_
  simp (maxSteps := 2000000) only [s69, ↓aw_region, ↓aw_skip, ↓aw_seq, ↓aw_block, ↓aw_exit, ↓aw_ret, ↓sops_nil, ↓sops_go, ↓dops_nil, ↓dopsX_nil, ↓dopsR_nil, ↓vdn, vup, extr_20, extr_21, extr_30, extr_31, extr_32, List.map_cons, List.map_nil, cond_true, cond_false, aop, aThen, aBlock, argEnv, ev, sput, sputO, binK, binI, unK, builtinK, pickK, Nat.reduceBEq, Nat.reduceAdd, Int.reduceBEq, Int.reduceBNe, Int.reduceLT, aPost, resK, tup, tyf]
  refine hN1 [(0, v), (2, .bool false)] _ _ ?_ (by simp (maxSteps := 2000000) only [↓aw_region, ↓aw_skip, ↓aw_seq, ↓aw_block, ↓aw_exit, ↓aw_ret, ↓sops_nil, ↓sops_go, ↓dops_nil, ↓dopsX_nil, ↓dopsR_nil, ↓vdn, vup, extr_20, extr_21, extr_30, extr_31, extr_32, List.map_cons, List.map_nil, cond_true, cond_false, aop, aThen, aBlock, argEnv, ev, sput, sputO, binK, binI, unK, builtinK, pickK, Nat.reduceBEq, Nat.reduceAdd, Int.reduceBEq, Int.reduceBNe, Int.reduceLT, aPost, resK, tup, tyf])
  clear hN1
  try clear N1
  by_cases h2 : ps.length < 2
  · have h2' : (ps.length : Int) < 2 := by omega
    refine aw_aws ?_
    simp (maxSteps := 2000000) only [s69, ↓aw_region, ↓aw_skip, ↓aw_seq, ↓aw_block, ↓aw_exit, ↓aw_ret, ↓sops_nil, ↓sops_go, ↓dops_nil, ↓dopsX_nil, ↓dopsR_nil, ↓vdn, vup, extr_20, extr_21, extr_30, extr_31, extr_32, List.map_cons, List.map_nil, cond_true, cond_false, aop, aThen, aBlock, argEnv, ev, sput, sputO, binK, binI, unK, builtinK, pickK, Nat.reduceBEq, Nat.reduceAdd, Int.reduceBEq, Int.reduceBNe, Int.reduceLT, aPost, resK, tup, tyf, hv.len, h2']
    rw [fcB, show decide (2 ≤ ps.length) = false by simp; omega, Bool.false_and]
  · have h2' : ¬ (ps.length : Int) < 2 := by omega
    by_cases h5 : 5 < ps.length
    · have h5' : (ps.length : Int) > 5 := by omega
      refine aw_aws ?_
      simp (maxSteps := 2000000) only [s69, ↓aw_region, ↓aw_skip, ↓aw_seq, ↓aw_block, ↓aw_exit, ↓aw_ret, ↓sops_nil, ↓sops_go, ↓dops_nil, ↓dopsX_nil, ↓dopsR_nil, ↓vdn, vup, extr_20, extr_21, extr_30, extr_31, extr_32, List.map_cons, List.map_nil, cond_true, cond_false, aop, aThen, aBlock, argEnv, ev, sput, sputO, binK, binI, unK, builtinK, pickK, Nat.reduceBEq, Nat.reduceAdd, Int.reduceBEq, Int.reduceBNe, Int.reduceLT, aPost, resK, tup, tyf, hv.len, h2', h5']
      rw [fcB, show decide (ps.length ≤ 5) = false by simp; omega, Bool.false_and, Bool.and_false]
    · have h5' : ¬ (ps.length : Int) > 5 := by omega
      have evc := every_call (f := chB 60) (g := 106) (cap := #[]) hv hl fun h' hx p hp => ch60_call
      refine aws_cut fun M hM => ?_
      simp (maxSteps := 2000000) only [s69, ↓aw_region, ↓aw_skip, ↓aw_seq, ↓aw_block, ↓aw_exit, ↓aw_ret, ↓sops_nil, ↓sops_go, ↓dops_nil, ↓dopsX_nil, ↓dopsR_nil, ↓vdn, vup, extr_20, extr_21, extr_30, extr_31, extr_32, List.map_cons, List.map_nil, cond_true, cond_false, aop, aThen, aBlock, argEnv, ev, sput, sputO, binK, binI, unK, builtinK, pickK, Nat.reduceBEq, Nat.reduceAdd, Int.reduceBEq, Int.reduceBNe, Int.reduceLT, aPost, resK, tup, tyf, callK, List.nil_append, List.append_nil, List.toList_toArray, List.cons_append, hv.len, h2', h5']
      refine (evc).mono ?_
      rintro _ h ⟨rfl, rfl⟩
      cases hch : ps.all (chB 60) with
      | false =>
        simp (maxSteps := 2000000) only [s69, ↓aw_region, ↓aw_skip, ↓aw_seq, ↓aw_block, ↓aw_exit, ↓aw_ret, ↓sops_nil, ↓sops_go, ↓dops_nil, ↓dopsX_nil, ↓dopsR_nil, ↓vdn, vup, extr_20, extr_21, extr_30, extr_31, extr_32, List.map_cons, List.map_nil, cond_true, cond_false, aop, aThen, aBlock, argEnv, ev, sput, sputO, binK, binI, unK, builtinK, pickK, Nat.reduceBEq, Nat.reduceAdd, Int.reduceBEq, Int.reduceBNe, Int.reduceLT, aPost, resK, tup, tyf, Bool.not_false]
        rw [fcB, hch, Bool.false_and, Bool.and_false, Bool.and_false]
      | true =>
        obtain ⟨hc, hd⟩ := small_chn (by omega) hch
        have ofc := of_call (h := h) (evt := 2 ^ ps.length - 1) (N := mult ps) hv (by omega) hc.vld (by have := pow_le (show ps.length ≤ 62 by omega); omega) (Nat.pos_of_ne_zero hc.m) (by have := (mult_spec hc.m).2.2; omega) (fun k hk => hc.unit hk)
        rw [inEv_all] at ofc
        obtain ⟨q, hq⟩ : ∃ q, sumTo (fq ps) ps.length = q := ⟨_, rfl⟩
        have hfin : fcB ps = decide (q = ((1 : Int) : Rat)) := by
          rw [fcB, hch, hq, show decide (2 ≤ ps.length) = true by simp; omega, show decide (ps.length ≤ 5) = true by simp; omega]; rfl
        rw [hq] at ofc
        simp (maxSteps := 2000000) only [s69, ↓aw_region, ↓aw_skip, ↓aw_seq, ↓aw_block, ↓aw_exit, ↓aw_ret, ↓sops_nil, ↓sops_go, ↓dops_nil, ↓dopsX_nil, ↓dopsR_nil, ↓vdn, vup, extr_20, extr_21, extr_30, extr_31, extr_32, List.map_cons, List.map_nil, cond_true, cond_false, aop, aThen, aBlock, argEnv, ev, sput, sputO, binK, binI, unK, builtinK, pickK, Nat.reduceBEq, Nat.reduceAdd, Int.reduceBEq, Int.reduceBNe, Int.reduceLT, aPost, resK, tup, tyf, Bool.not_true]
        refine hM [(0, v), (2, .bool false)] _ _ ?_ (by simp (maxSteps := 2000000) only [↓aw_region, ↓aw_skip, ↓aw_seq, ↓aw_block, ↓aw_exit, ↓aw_ret, ↓sops_nil, ↓sops_go, ↓dops_nil, ↓dopsX_nil, ↓dopsR_nil, ↓vdn, vup, extr_20, extr_21, extr_30, extr_31, extr_32, List.map_cons, List.map_nil, cond_true, cond_false, aop, aThen, aBlock, argEnv, ev, sput, sputO, binK, binI, unK, builtinK, pickK, Nat.reduceBEq, Nat.reduceAdd, Int.reduceBEq, Int.reduceBNe, Int.reduceLT, aPost, resK, tup, tyf])
        clear hM
        try clear M
        refine aw_aws ?_
        simp (maxSteps := 2000000) only [s69, ↓aw_region, ↓aw_skip, ↓aw_seq, ↓aw_block, ↓aw_exit, ↓aw_ret, ↓sops_nil, ↓sops_go, ↓dops_nil, ↓dopsX_nil, ↓dopsR_nil, ↓vdn, vup, extr_20, extr_21, extr_30, extr_31, extr_32, List.map_cons, List.map_nil, cond_true, cond_false, aop, aThen, aBlock, argEnv, ev, sput, sputO, binK, binI, unK, builtinK, pickK, Nat.reduceBEq, Nat.reduceAdd, Int.reduceBEq, Int.reduceBNe, Int.reduceLT, aPost, resK, tup, tyf, callK, List.nil_append, List.append_nil, List.toList_toArray, List.cons_append, hv.len, shl1 (show ps.length ≤ 62 by omega), all_worlds (show ps.length ≤ 62 by omega), Int.natCast_nonneg]
        refine (ofc).mono ?_
        rintro _ h ⟨rfl, rfl⟩
        refine (show APure prog 70 [vint 1] h (qV ((1 : Int) : Rat)) from whole_call).mono ?_
        rintro _ h ⟨rfl, rfl⟩
        generalize hone : ((1 : Int) : Rat) = one at hfin ⊢
        simp (maxSteps := 2000000) only [s69, ↓aw_region, ↓aw_skip, ↓aw_seq, ↓aw_block, ↓aw_exit, ↓aw_ret, ↓sops_nil, ↓sops_go, ↓dops_nil, ↓dopsX_nil, ↓dopsR_nil, ↓vdn, vup, extr_20, extr_21, extr_30, extr_31, extr_32, List.map_cons, List.map_nil, cond_true, cond_false, aop, aThen, aBlock, argEnv, ev, sput, sputO, binK, binI, unK, builtinK, pickK, Nat.reduceBEq, Nat.reduceAdd, Int.reduceBEq, Int.reduceBNe, Int.reduceLT, aPost, resK, tup, tyf, qV, frV, intsOf, Option.map_some, List.length_cons, List.length_nil, Nat.zero_add, eqF, qeq, hfin]

theorem fcB_ref {ps : List (Int × Int)} : fcB ps = (decide (2 ≤ ps.length) && (decide (ps.length ≤ 5) && (chances ps.length ps && ((ps.all fun p => decide (p.2 ≤ 60)) && decide (partTo (mult ps) ps (2 ^ ps.length - 1) ps.length = mult ps))))) := by
  rw [Bool.eq_iff_iff]
  simp only [fcB, Bool.and_eq_true, decide_eq_true_eq]
  constructor
  · rintro ⟨h1, h2, h3, h4⟩
    obtain ⟨hc, hd⟩ := small_chn h2 h3
    refine ⟨h1, h2, ?_, ?_, ?_⟩
    · simp only [chances, Bool.and_eq_true, decide_eq_true_eq, List.all_eq_true]
      exact ⟨trivial, hc.m, hc.le⟩
    · rw [List.all_eq_true]; exact fun p hp => by simpa using hd p hp
    · have r := partTo_rp hc (2 ^ ps.length - 1) ps.length (Nat.le_refl _)
      rw [inEv_all, h4] at r
      have := r.2
      rw [Rat.one_mul, ← Rat.intCast_natCast] at this
      exact (Rat.intCast_inj.1 this).symm
  · rintro ⟨h1, h2, h3, h4, h5⟩
    obtain ⟨hc, _⟩ := chances_chn h3
    rw [List.all_eq_true] at h4
    refine ⟨h1, h2, ?_, ?_⟩
    · rw [List.all_eq_true]
      intro p hp
      rw [chB60, hc.ok hp]
      have := hc.le p hp
      have := h4 p hp
      simp at this ⊢; omega
    · have r := partTo_rp hc (2 ^ ps.length - 1) ps.length (Nat.le_refl _)
      rw [inEv_all, h5] at r
      have one : Rp (mult ps) (mult ps : Int) 1 := ⟨Nat.pos_of_ne_zero hc.m, by rw [Rat.one_mul, Rat.intCast_natCast]⟩
      exact r.uniq one

theorem s33_callW [Tabs Try.prog] {args : List Value} {h : Heap} {Q : Value → Heap → Prop} (hsz : args.length ≤ 39) (hk : AWS Try.prog 39 s33 (aPost Try.prog [.tmp 2] Q) (argEnv 0 args) h) : ACall Try.prog 33 args h Q :=
  acall_w Try.func33 rfl (enters_of Try.func33 (by kernel_rfl) rfl) rfl rfl (by decide) s33_strip s33_ok hsz hk
theorem rfc_call [Tabs prog] {h : Heap} {v : Value} {ps : List (Int × Int)} (hv : PairSl h v ps) (hl : ps.length < 9223372036854775808) (hx : InR ps) : APure prog 33 [v] h (.bool (fcB ps)) := by
  refine ACall.forget (Low.bool _) ?_
  rw [fcB_ref]
  refine s33_callW (by simp) ?_
  simp only [s33]
  refine aws_cut fun N2 hN2 => ?_
  simp (maxSteps := 2000000) only [s33, ↓aw_region, ↓aw_skip, ↓aw_seq, ↓aw_block, ↓aw_exit, ↓aw_ret, ↓sops_nil, ↓sops_go, ↓dops_nil, ↓dopsX_nil, ↓dopsR_nil, ↓vdn, vup, extr_20, extr_21, extr_30, extr_31, extr_32, List.map_cons, List.map_nil, cond_true, cond_false, aop, aThen, aBlock, argEnv, ev, sput, sputO, binK, binI, unK, builtinK, pickK, Nat.reduceBEq, Nat.reduceAdd, Int.reduceBEq, Int.reduceBNe, Int.reduceLT, aPost, resK, tup, tyf]
  refine hN2 [(0, v), (2, .bool false)] _ _ ?_ (by simp (maxSteps := 2000000) only [↓aw_region, ↓aw_skip, ↓aw_seq, ↓aw_block, ↓aw_exit, ↓aw_ret, ↓sops_nil, ↓sops_go, ↓dops_nil, ↓dopsX_nil, ↓dopsR_nil, ↓vdn, vup, extr_20, extr_21, extr_30, extr_31, extr_32, List.map_cons, List.map_nil, cond_true, cond_false, aop, aThen, aBlock, argEnv, ev, sput, sputO, binK, binI, unK, builtinK, pickK, Nat.reduceBEq, Nat.reduceAdd, Int.reduceBEq, Int.reduceBNe, Int.reduceLT, aPost, resK, tup, tyf])
  clear hN2
  try clear N2
  by_cases h2 : ps.length < 2
  · have h2' : (ps.length : Int) < 2 := by omega
    refine aw_aws ?_
    simp (maxSteps := 2000000) only [s33, ↓aw_region, ↓aw_skip, ↓aw_seq, ↓aw_block, ↓aw_exit, ↓aw_ret, ↓sops_nil, ↓sops_go, ↓dops_nil, ↓dopsX_nil, ↓dopsR_nil, ↓vdn, vup, extr_20, extr_21, extr_30, extr_31, extr_32, List.map_cons, List.map_nil, cond_true, cond_false, aop, aThen, aBlock, argEnv, ev, sput, sputO, binK, binI, unK, builtinK, pickK, Nat.reduceBEq, Nat.reduceAdd, Int.reduceBEq, Int.reduceBNe, Int.reduceLT, aPost, resK, tup, tyf, hv.len, h2']
    rw [show decide (2 ≤ ps.length) = false by simp; omega, Bool.false_and]
    exact ⟨rfl, Ext.refl _ _⟩
  rw [show decide (2 ≤ ps.length) = true by simp; omega, Bool.true_and]
  have h2' : ¬ (ps.length : Int) < 2 := by omega
  by_cases h5 : 5 < ps.length
  · have h5' : (ps.length : Int) > 5 := by omega
    refine aw_aws ?_
    simp (maxSteps := 2000000) only [s33, ↓aw_region, ↓aw_skip, ↓aw_seq, ↓aw_block, ↓aw_exit, ↓aw_ret, ↓sops_nil, ↓sops_go, ↓dops_nil, ↓dopsX_nil, ↓dopsR_nil, ↓vdn, vup, extr_20, extr_21, extr_30, extr_31, extr_32, List.map_cons, List.map_nil, cond_true, cond_false, aop, aThen, aBlock, argEnv, ev, sput, sputO, binK, binI, unK, builtinK, pickK, Nat.reduceBEq, Nat.reduceAdd, Int.reduceBEq, Int.reduceBNe, Int.reduceLT, aPost, resK, tup, tyf, hv.len, h2', h5']
    rw [show decide (ps.length ≤ 5) = false by simp; omega, Bool.false_and]
    exact ⟨rfl, Ext.refl _ _⟩
  rw [show decide (ps.length ≤ 5) = true by simp; omega, Bool.true_and]
  have h5' : ¬ (ps.length : Int) > 5 := by omega
  refine aws_cut fun M hM => ?_
  simp (maxSteps := 2000000) only [s33, ↓aw_region, ↓aw_skip, ↓aw_seq, ↓aw_block, ↓aw_exit, ↓aw_ret, ↓sops_nil, ↓sops_go, ↓dops_nil, ↓dopsX_nil, ↓dopsR_nil, ↓vdn, vup, extr_20, extr_21, extr_30, extr_31, extr_32, List.map_cons, List.map_nil, cond_true, cond_false, aop, aThen, aBlock, argEnv, ev, sput, sputO, binK, binI, unK, builtinK, pickK, Nat.reduceBEq, Nat.reduceAdd, Int.reduceBEq, Int.reduceBNe, Int.reduceLT, aPost, resK, tup, tyf, callK, List.nil_append, List.append_nil, List.toList_toArray, List.cons_append, hv.len, h2', h5']
  refine (chances_call hv hl hx).mono ?_
  rintro _ h ⟨rfl, rfl⟩
  cases hch : chances ps.length ps with
  | false =>
    simp (maxSteps := 2000000) only [s33, ↓aw_region, ↓aw_skip, ↓aw_seq, ↓aw_block, ↓aw_exit, ↓aw_ret, ↓sops_nil, ↓sops_go, ↓dops_nil, ↓dopsX_nil, ↓dopsR_nil, ↓vdn, vup, extr_20, extr_21, extr_30, extr_31, extr_32, List.map_cons, List.map_nil, cond_true, cond_false, aop, aThen, aBlock, argEnv, ev, sput, sputO, binK, binI, unK, builtinK, pickK, Nat.reduceBEq, Nat.reduceAdd, Int.reduceBEq, Int.reduceBNe, Int.reduceLT, aPost, resK, tup, tyf, Bool.not_false, Bool.false_and]
    exact Ext.refl _ _
  | true =>
    obtain ⟨hc, _⟩ := chances_chn hch
    simp (maxSteps := 2000000) only [s33, ↓aw_region, ↓aw_skip, ↓aw_seq, ↓aw_block, ↓aw_exit, ↓aw_ret, ↓sops_nil, ↓sops_go, ↓dops_nil, ↓dopsX_nil, ↓dopsR_nil, ↓vdn, vup, extr_20, extr_21, extr_30, extr_31, extr_32, List.map_cons, List.map_nil, cond_true, cond_false, aop, aThen, aBlock, argEnv, ev, sput, sputO, binK, binI, unK, builtinK, pickK, Nat.reduceBEq, Nat.reduceAdd, Int.reduceBEq, Int.reduceBNe, Int.reduceLT, aPost, resK, tup, tyf, Bool.not_true, Bool.true_and]
    refine hM [(0, v), (2, .bool false)] _ _ ?_ (by simp (maxSteps := 2000000) only [↓aw_region, ↓aw_skip, ↓aw_seq, ↓aw_block, ↓aw_exit, ↓aw_ret, ↓sops_nil, ↓sops_go, ↓dops_nil, ↓dopsX_nil, ↓dopsR_nil, ↓vdn, vup, extr_20, extr_21, extr_30, extr_31, extr_32, List.map_cons, List.map_nil, cond_true, cond_false, aop, aThen, aBlock, argEnv, ev, sput, sputO, binK, binI, unK, builtinK, pickK, Nat.reduceBEq, Nat.reduceAdd, Int.reduceBEq, Int.reduceBNe, Int.reduceLT, aPost, resK, tup, tyf])
    clear hM
    try clear M
    refine aws_cutW fun Z hZ => ?_
    refine aws_cut fun N3 hN3 => ?_
    simp (maxSteps := 2000000) only [s33, ↓aw_region, ↓aw_skip, ↓aw_seq, ↓aw_block, ↓aw_exit, ↓aw_ret, ↓sops_nil, ↓sops_go, ↓dops_nil, ↓dopsX_nil, ↓dopsR_nil, ↓vdn, vup, extr_20, extr_21, extr_30, extr_31, extr_32, List.map_cons, List.map_nil, cond_true, cond_false, aop, aThen, aBlock, argEnv, ev, sput, sputO, binK, binI, unK, builtinK, pickK, Nat.reduceBEq, Nat.reduceAdd, Int.reduceBEq, Int.reduceBNe, Int.reduceLT, aPost, resK, tup, tyf, hv.len]
    refine hN3 [(0, v), (2, .bool false), (20, v), (21, vint ps.length), (22, .int .i64 0)] _ _ ?_ (by simp (maxSteps := 2000000) only [↓aw_region, ↓aw_skip, ↓aw_seq, ↓aw_block, ↓aw_exit, ↓aw_ret, ↓sops_nil, ↓sops_go, ↓dops_nil, ↓dopsX_nil, ↓dopsR_nil, ↓vdn, vup, extr_20, extr_21, extr_30, extr_31, extr_32, List.map_cons, List.map_nil, cond_true, cond_false, aop, aThen, aBlock, argEnv, ev, sput, sputO, binK, binI, unK, builtinK, pickK, Nat.reduceBEq, Nat.reduceAdd, Int.reduceBEq, Int.reduceBNe, Int.reduceLT, aPost, resK, tup, tyf])
    clear hN3
    try clear N3
    refine aws_block ?_
    refine aws_hide fun Q hQ => ?_
    refine aw_loopW (γ := Nat × Heap) (fun s => s.1 ≤ ps.length ∧ (∀ p ∈ ps.take s.1, p.2 ≤ 60) ∧ Ext (fun _ => False) h s.2)
      (fun s => ([(0, v), (2, .bool false), (20, v), (21, vint ps.length), (22, vint (s.1 : Nat))], s.2)) (fun s => ps.length - s.1) (0, h) ⟨Nat.zero_le _, by simp, Ext.refl _ _⟩ (by simp (maxSteps := 2000000) only [↓aw_region, ↓aw_skip, ↓aw_seq, ↓aw_block, ↓aw_exit, ↓aw_ret, ↓sops_nil, ↓sops_go, ↓dops_nil, ↓dopsX_nil, ↓dopsR_nil, ↓vdn, vup, extr_20, extr_21, extr_30, extr_31, extr_32, List.map_cons, List.map_nil, cond_true, cond_false, aop, aThen, aBlock, argEnv, ev, sput, sputO, binK, binI, unK, builtinK, pickK, Nat.reduceBEq, Nat.reduceAdd, Int.reduceBEq, Int.reduceBNe, Int.reduceLT, aPost, resK, tup, tyf, Int.natCast_zero]) rfl ?_
    rintro ⟨k, hp⟩ ⟨hk, hall, hE⟩
    simp only at hk hall hE
    refine aws_hide fun Q2 hQ2 => ?_
    simp only [l33_0]
    have hvp := hv.ext hE
    by_cases hin : (k : Int) < ps.length
    · have hk' : k < ps.length := by omega
      obtain ⟨⟨x, y⟩, hxy⟩ : ∃ p, ps.getD k (0, 0) = p := ⟨_, rfl⟩
      have hmem : (x, y) ∈ ps := hxy ▸ getD_mem hk'
      obtain ⟨H, hH⟩ : ∃ H, H = hp ++ [fC x y] := ⟨_, rfl⟩
      have c5 : H[hp.length]? = some (fC x y) := by rw [hH]; exact get_new _ _
      have hEH : Ext (fun _ => False) h H := by rw [hH]; exact hE.trans (Ext.app _ _ _)
      refine aws_cut fun N4 hN4 => ?_
      simp (maxSteps := 2000000) only [s33, ↓aw_region, ↓aw_skip, ↓aw_seq, ↓aw_block, ↓aw_exit, ↓aw_ret, ↓sops_nil, ↓sops_go, ↓dops_nil, ↓dopsX_nil, ↓dopsR_nil, ↓vdn, vup, extr_20, extr_21, extr_30, extr_31, extr_32, List.map_cons, List.map_nil, cond_true, cond_false, aop, aThen, aBlock, argEnv, ev, sput, sputO, binK, binI, unK, builtinK, pickK, Nat.reduceBEq, Nat.reduceAdd, Int.reduceBEq, Int.reduceBNe, Int.reduceLT, aPost, resK, tup, tyf, hin]
      refine hN4 [(0, v), (2, .bool false), (20, v), (21, vint ps.length), (22, vint (k : Nat)), (23, .bool true)] _ _ ?_ (by simp (maxSteps := 2000000) only [↓aw_region, ↓aw_skip, ↓aw_seq, ↓aw_block, ↓aw_exit, ↓aw_ret, ↓sops_nil, ↓sops_go, ↓dops_nil, ↓dopsX_nil, ↓dopsR_nil, ↓vdn, vup, extr_20, extr_21, extr_30, extr_31, extr_32, List.map_cons, List.map_nil, cond_true, cond_false, aop, aThen, aBlock, argEnv, ev, sput, sputO, binK, binI, unK, builtinK, pickK, Nat.reduceBEq, Nat.reduceAdd, Int.reduceBEq, Int.reduceBNe, Int.reduceLT, aPost, resK, tup, tyf])
      clear hN4
      try clear N4
      refine aws_cut fun N5 hN5 => ?_
      simp (maxSteps := 2000000) only [s33, ↓aw_region, ↓aw_skip, ↓aw_seq, ↓aw_block, ↓aw_exit, ↓aw_ret, ↓sops_nil, ↓sops_go, ↓dops_nil, ↓dopsX_nil, ↓dopsR_nil, ↓vdn, vup, extr_20, extr_21, extr_30, extr_31, extr_32, List.map_cons, List.map_nil, cond_true, cond_false, aop, aThen, aBlock, argEnv, ev, sput, sputO, binK, binI, unK, builtinK, pickK, Nat.reduceBEq, Nat.reduceAdd, Int.reduceBEq, Int.reduceBNe, Int.reduceLT, aPost, resK, tup, tyf]
      refine hN5 [(0, v), (2, .bool false), (20, v), (21, vint ps.length), (22, vint (k : Nat))] _ _ ?_ (by simp (maxSteps := 2000000) only [↓aw_region, ↓aw_skip, ↓aw_seq, ↓aw_block, ↓aw_exit, ↓aw_ret, ↓sops_nil, ↓sops_go, ↓dops_nil, ↓dopsX_nil, ↓dopsR_nil, ↓vdn, vup, extr_20, extr_21, extr_30, extr_31, extr_32, List.map_cons, List.map_nil, cond_true, cond_false, aop, aThen, aBlock, argEnv, ev, sput, sputO, binK, binI, unK, builtinK, pickK, Nat.reduceBEq, Nat.reduceAdd, Int.reduceBEq, Int.reduceBNe, Int.reduceLT, aPost, resK, tup, tyf])
      clear hN5
      try clear N5
      refine aws_cutW fun B hB => ?_
      refine aws_block ?_
      refine aws_cut fun N6 hN6 => ?_
      simp (maxSteps := 2000000) only [s33, ↓aw_region, ↓aw_skip, ↓aw_seq, ↓aw_block, ↓aw_exit, ↓aw_ret, ↓sops_nil, ↓sops_go, ↓dops_nil, ↓dopsX_nil, ↓dopsR_nil, ↓vdn, vup, extr_20, extr_21, extr_30, extr_31, extr_32, List.map_cons, List.map_nil, cond_true, cond_false, aop, aThen, aBlock, argEnv, ev, sput, sputO, binK, binI, unK, builtinK, pickK, Nat.reduceBEq, Nat.reduceAdd, Int.reduceBEq, Int.reduceBNe, Int.reduceLT, aPost, resK, tup, tyf, hvp.idx el_47 esz_26 hk', hvp.load shp_26 hk', hxy, allocK, newPtr, zero_26, storeF (get_new hp z0) rfl, set_new]
      rw [← hH]
      refine hN6 [(0, v), (2, .bool false), (4, .pointer (some ⟨hp.length, 0, none⟩)), (20, v), (21, vint ps.length), (22, vint (k : Nat))] _ _ ?_ (by simp (maxSteps := 2000000) only [↓aw_region, ↓aw_skip, ↓aw_seq, ↓aw_block, ↓aw_exit, ↓aw_ret, ↓sops_nil, ↓sops_go, ↓dops_nil, ↓dopsX_nil, ↓dopsR_nil, ↓vdn, vup, extr_20, extr_21, extr_30, extr_31, extr_32, List.map_cons, List.map_nil, cond_true, cond_false, aop, aThen, aBlock, argEnv, ev, sput, sputO, binK, binI, unK, builtinK, pickK, Nat.reduceBEq, Nat.reduceAdd, Int.reduceBEq, Int.reduceBNe, Int.reduceLT, aPost, resK, tup, tyf])
      clear hN6
      try clear N6
      refine aw_aws ?_
      by_cases hgt : y > 60
      · simp (maxSteps := 2000000) only [s33, ↓aw_region, ↓aw_skip, ↓aw_seq, ↓aw_block, ↓aw_exit, ↓aw_ret, ↓sops_nil, ↓sops_go, ↓dops_nil, ↓dopsX_nil, ↓dopsR_nil, ↓vdn, vup, extr_20, extr_21, extr_30, extr_31, extr_32, List.map_cons, List.map_nil, cond_true, cond_false, aop, aThen, aBlock, argEnv, ev, sput, sputO, binK, binI, unK, builtinK, pickK, Nat.reduceBEq, Nat.reduceAdd, Int.reduceBEq, Int.reduceBNe, Int.reduceLT, aPost, resK, tup, tyf, fA0, fA1, loadF1 c5, hgt]
        refine hQ2 _ _ _ (hQ _ _ _ ?_)
        have h3 : (ps.all fun p => decide (p.2 ≤ 60)) = false := by
          rw [List.all_eq_false]; exact ⟨_, hmem, by simp; omega⟩
        simp (maxSteps := 2000000) only [s33, ↓aw_region, ↓aw_skip, ↓aw_seq, ↓aw_block, ↓aw_exit, ↓aw_ret, ↓sops_nil, ↓sops_go, ↓dops_nil, ↓dopsX_nil, ↓dopsR_nil, ↓vdn, vup, extr_20, extr_21, extr_30, extr_31, extr_32, List.map_cons, List.map_nil, cond_true, cond_false, aop, aThen, aBlock, argEnv, ev, sput, sputO, binK, binI, unK, builtinK, pickK, Nat.reduceBEq, Nat.reduceAdd, Int.reduceBEq, Int.reduceBNe, Int.reduceLT, aPost, resK, tup, tyf, h3, Bool.false_and, Bool.and_false]
        exact hEH
      · simp (maxSteps := 2000000) only [s33, ↓aw_region, ↓aw_skip, ↓aw_seq, ↓aw_block, ↓aw_exit, ↓aw_ret, ↓sops_nil, ↓sops_go, ↓dops_nil, ↓dopsX_nil, ↓dopsR_nil, ↓vdn, vup, extr_20, extr_21, extr_30, extr_31, extr_32, List.map_cons, List.map_nil, cond_true, cond_false, aop, aThen, aBlock, argEnv, ev, sput, sputO, binK, binI, unK, builtinK, pickK, Nat.reduceBEq, Nat.reduceAdd, Int.reduceBEq, Int.reduceBNe, Int.reduceLT, aPost, resK, tup, tyf, fA0, fA1, loadF1 c5, hgt]
        refine hB [(0, v), (2, .bool false), (20, v), (21, vint ps.length), (22, vint (k : Nat))] _ _ ?_ (by simp (maxSteps := 2000000) only [↓aw_region, ↓aw_skip, ↓aw_seq, ↓aw_block, ↓aw_exit, ↓aw_ret, ↓sops_nil, ↓sops_go, ↓dops_nil, ↓dopsX_nil, ↓dopsR_nil, ↓vdn, vup, extr_20, extr_21, extr_30, extr_31, extr_32, List.map_cons, List.map_nil, cond_true, cond_false, aop, aThen, aBlock, argEnv, ev, sput, sputO, binK, binI, unK, builtinK, pickK, Nat.reduceBEq, Nat.reduceAdd, Int.reduceBEq, Int.reduceBNe, Int.reduceLT, aPost, resK, tup, tyf])
        clear hB
        try clear B
        refine aw_aws ?_
        simp (maxSteps := 2000000) only [s33, ↓aw_region, ↓aw_skip, ↓aw_seq, ↓aw_block, ↓aw_exit, ↓aw_ret, ↓sops_nil, ↓sops_go, ↓dops_nil, ↓dopsX_nil, ↓dopsR_nil, ↓vdn, vup, extr_20, extr_21, extr_30, extr_31, extr_32, List.map_cons, List.map_nil, cond_true, cond_false, aop, aThen, aBlock, argEnv, ev, sput, sputO, binK, binI, unK, builtinK, pickK, Nat.reduceBEq, Nat.reduceAdd, Int.reduceBEq, Int.reduceBNe, Int.reduceLT, aPost, resK, tup, tyf, add1 (show k < 9223372036854775807 by omega)]
        refine hQ2 _ _ _ ⟨(k + 1, H), ⟨hk', fun p hp' => ?_, hEH⟩, by simp only; omega, by simp (maxSteps := 2000000) only [↓aw_region, ↓aw_skip, ↓aw_seq, ↓aw_block, ↓aw_exit, ↓aw_ret, ↓sops_nil, ↓sops_go, ↓dops_nil, ↓dopsX_nil, ↓dopsR_nil, ↓vdn, vup, extr_20, extr_21, extr_30, extr_31, extr_32, List.map_cons, List.map_nil, cond_true, cond_false, aop, aThen, aBlock, argEnv, ev, sput, sputO, binK, binI, unK, builtinK, pickK, Nat.reduceBEq, Nat.reduceAdd, Int.reduceBEq, Int.reduceBNe, Int.reduceLT, aPost, resK, tup, tyf], rfl⟩
        simp only [take_snoc (d := ((0, 0) : Int × Int)) hk', hxy] at hp'
        rcases List.mem_append.1 hp' with h3 | h3
        · exact hall p h3
        · simp at h3; subst h3; simp only; omega
    · obtain rfl : k = ps.length := by omega
      rw [List.take_length] at hall
      have h3 : (ps.all fun p => decide (p.2 ≤ 60)) = true := by
        rw [List.all_eq_true]; exact fun p hp => by simp [hall p hp]
      rw [h3] at hQ hZ
      refine aws_cut fun N7 hN7 => ?_
      simp (maxSteps := 2000000) only [s33, ↓aw_region, ↓aw_skip, ↓aw_seq, ↓aw_block, ↓aw_exit, ↓aw_ret, ↓sops_nil, ↓sops_go, ↓dops_nil, ↓dopsX_nil, ↓dopsR_nil, ↓vdn, vup, extr_20, extr_21, extr_30, extr_31, extr_32, List.map_cons, List.map_nil, cond_true, cond_false, aop, aThen, aBlock, argEnv, ev, sput, sputO, binK, binI, unK, builtinK, pickK, Nat.reduceBEq, Nat.reduceAdd, Int.reduceBEq, Int.reduceBNe, Int.reduceLT, aPost, resK, tup, tyf, hin]
      refine hN7 [(0, v), (2, .bool false), (20, v), (21, vint ps.length), (22, vint ps.length), (23, .bool false)] _ _ ?_ (by simp (maxSteps := 2000000) only [↓aw_region, ↓aw_skip, ↓aw_seq, ↓aw_block, ↓aw_exit, ↓aw_ret, ↓sops_nil, ↓sops_go, ↓dops_nil, ↓dopsX_nil, ↓dopsR_nil, ↓vdn, vup, extr_20, extr_21, extr_30, extr_31, extr_32, List.map_cons, List.map_nil, cond_true, cond_false, aop, aThen, aBlock, argEnv, ev, sput, sputO, binK, binI, unK, builtinK, pickK, Nat.reduceBEq, Nat.reduceAdd, Int.reduceBEq, Int.reduceBNe, Int.reduceLT, aPost, resK, tup, tyf])
      clear hN7
      try clear N7
      refine aws_cut fun N8 hN8 => ?_
      simp (maxSteps := 2000000) only [s33, ↓aw_region, ↓aw_skip, ↓aw_seq, ↓aw_block, ↓aw_exit, ↓aw_ret, ↓sops_nil, ↓sops_go, ↓dops_nil, ↓dopsX_nil, ↓dopsR_nil, ↓vdn, vup, extr_20, extr_21, extr_30, extr_31, extr_32, List.map_cons, List.map_nil, cond_true, cond_false, aop, aThen, aBlock, argEnv, ev, sput, sputO, binK, binI, unK, builtinK, pickK, Nat.reduceBEq, Nat.reduceAdd, Int.reduceBEq, Int.reduceBNe, Int.reduceLT, aPost, resK, tup, tyf]
      refine hQ2 _ _ _ (hQ _ _ _ ?_)
      simp (maxSteps := 2000000) only [s33, ↓aw_region, ↓aw_skip, ↓aw_seq, ↓aw_block, ↓aw_exit, ↓aw_ret, ↓sops_nil, ↓sops_go, ↓dops_nil, ↓dopsX_nil, ↓dopsR_nil, ↓vdn, vup, extr_20, extr_21, extr_30, extr_31, extr_32, List.map_cons, List.map_nil, cond_true, cond_false, aop, aThen, aBlock, argEnv, ev, sput, sputO, binK, binI, unK, builtinK, pickK, Nat.reduceBEq, Nat.reduceAdd, Int.reduceBEq, Int.reduceBNe, Int.reduceLT, aPost, resK, tup, tyf, if_true]
      refine hZ [(0, v), (2, .bool false), (23, .bool false)] _ _ ?_ (by simp (maxSteps := 2000000) only [↓aw_region, ↓aw_skip, ↓aw_seq, ↓aw_block, ↓aw_exit, ↓aw_ret, ↓sops_nil, ↓sops_go, ↓dops_nil, ↓dopsX_nil, ↓dopsR_nil, ↓vdn, vup, extr_20, extr_21, extr_30, extr_31, extr_32, List.map_cons, List.map_nil, cond_true, cond_false, aop, aThen, aBlock, argEnv, ev, sput, sputO, binK, binI, unK, builtinK, pickK, Nat.reduceBEq, Nat.reduceAdd, Int.reduceBEq, Int.reduceBNe, Int.reduceLT, aPost, resK, tup, tyf])
      clear hZ
      try clear Z
      have pc := part_call (h := hp) (evt := 2 ^ ps.length - 1) hvp (by omega) hx hc (by have := pow_le (show ps.length ≤ 62 by omega); omega)
      have mc := mult_call (h := hp) hvp hl hx
      obtain ⟨pp, hpp⟩ : ∃ z, partTo (mult ps) ps (2 ^ ps.length - 1) ps.length = z := ⟨_, rfl⟩
      rw [hpp] at pc ⊢
      refine aw_aws ?_
      simp (maxSteps := 2000000) only [s33, ↓aw_region, ↓aw_skip, ↓aw_seq, ↓aw_block, ↓aw_exit, ↓aw_ret, ↓sops_nil, ↓sops_go, ↓dops_nil, ↓dopsX_nil, ↓dopsR_nil, ↓vdn, vup, extr_20, extr_21, extr_30, extr_31, extr_32, List.map_cons, List.map_nil, cond_true, cond_false, aop, aThen, aBlock, argEnv, ev, sput, sputO, binK, binI, unK, builtinK, pickK, Nat.reduceBEq, Nat.reduceAdd, Int.reduceBEq, Int.reduceBNe, Int.reduceLT, aPost, resK, tup, tyf, callK, List.nil_append, List.append_nil, List.toList_toArray, List.cons_append, hvp.len, shl1 (show ps.length ≤ 62 by omega), all_worlds (show ps.length ≤ 62 by omega), Int.natCast_nonneg]
      refine (pc).mono ?_
      rintro _ hp ⟨rfl, rfl⟩
      refine mc.mono ?_
      rintro _ hp ⟨rfl, rfl⟩
      simp (maxSteps := 2000000) only [s33, ↓aw_region, ↓aw_skip, ↓aw_seq, ↓aw_block, ↓aw_exit, ↓aw_ret, ↓sops_nil, ↓sops_go, ↓dops_nil, ↓dopsX_nil, ↓dopsR_nil, ↓vdn, vup, extr_20, extr_21, extr_30, extr_31, extr_32, List.map_cons, List.map_nil, cond_true, cond_false, aop, aThen, aBlock, argEnv, ev, sput, sputO, binK, binI, unK, builtinK, pickK, Nat.reduceBEq, Nat.reduceAdd, Int.reduceBEq, Int.reduceBNe, Int.reduceLT, aPost, resK, tup, tyf, Bool.true_and, hch]
      refine ⟨?_, hE⟩
      congr 1
end Go.Proofs.Try.Am

namespace Bq

def bitQ (e w : Nat) : Rat := if e.testBit w then 1 else 0
def worldsTo (set k : Nat) : List Nat := (List.range k).filter fun w => set.testBit w
def worldsN (n set : Nat) : List Nat := worldsTo set n
theorem worldsTo_succ (set k : Nat) : worldsTo set (k + 1) = worldsTo set k ++ if set.testBit k then [k] else [] := by
  rw [worldsTo, List.range_succ, List.filter_append]
  simp only [List.filter_cons, List.filter_nil, worldsTo]
theorem worldsTo_le (set k : Nat) : (worldsTo set k).length ≤ k := by
  have := List.length_filter_le (fun w => set.testBit w) (List.range k)
  rwa [List.length_range] at this
theorem worldsTo_lt {set k w : Nat} (h : w ∈ worldsTo set k) : w < k ∧ set.testBit w = true := by
  obtain ⟨h1, h2⟩ := List.mem_filter.1 h
  exact ⟨List.mem_range.1 h1, h2⟩
theorem worldsN_pos {n set : Nat} (h1 : 1 ≤ set) (h2 : set < 2 ^ n) : 1 ≤ (worldsN n set).length := by
  rcases Nat.eq_zero_or_pos (worldsN n set).length with h | h
  · exfalso
    have h0 := List.eq_nil_of_length_eq_zero h
    have : set = 0 := by
      apply Nat.eq_of_testBit_eq
      intro i
      rw [Nat.zero_testBit]
      cases hb : set.testBit i with
      | false => rfl
      | true =>
        have hi : i < n := by
          rcases Nat.lt_or_ge i n with h | h
          · exact h
          · rw [Nat.testBit_lt_two_pow (Nat.lt_of_lt_of_le h2 (Nat.pow_le_pow_right (by decide) h))] at hb; cases hb
        have hm : i ∈ worldsN n set := List.mem_filter.2 ⟨List.mem_range.2 hi, hb⟩
        rw [h0] at hm; cases hm
    omega
  · exact h

/-- The system: all chances sum to one; those of each bet's event to its price. -/
def sysB (n : Nat) (l : List (Int × Int)) (ws : List Nat) : SysT := fun i c =>
  if i = 0 then (if c < ws.length then bitQ (2 ^ n - 1) (ws.getD c 0) else 1)
  else (if c < ws.length then bitQ (l.getD (i - 1) (0, 0)).1.toNat (ws.getD c 0) else Rat.divInt (l.getD (i - 1) (0, 0)).2 12)
/-- Chances put where their worlds are. -/
def spreadTo (n : Nat) (ws : List Nat) (x : List Rat) : Nat → List Rat
  | 0 => List.replicate n 0
  | k + 1 => (spreadTo n ws x k).set (ws.getD k 0) (x.getD k 0)
theorem spreadTo_len (n : Nat) (ws : List Nat) (x : List Rat) : ∀ k, (spreadTo n ws x k).length = n
  | 0 => by simp [spreadTo]
  | k + 1 => by rw [spreadTo, List.length_set]; exact spreadTo_len n ws x k
def cornerB (n : Nat) (l : List (Int × Int)) (set : Nat) : Option (List Rat) :=
  (solveT (l.length + 1) (worldsN n set).length (sysB n l (worldsN n set))).bind fun x => if x.any (fun q => decide (q < 0)) then none else some (spreadTo n (worldsN n set) x (worldsN n set).length)
/-- Those of the sets from 1 to s. -/
def cornersTo (n : Nat) (l : List (Int × Int)) : Nat → List (List Rat)
  | 0 => []
  | s + 1 => cornersTo n l s ++ (cornerB n l (s + 1)).toList
def cornersB (n : Nat) (l : List (Int × Int)) : List (List Rat) := cornersTo n l (2 ^ n - 1)
theorem cornersTo_len (n : Nat) (l : List (Int × Int)) : ∀ s, (cornersTo n l s).length ≤ s
  | 0 => Nat.le_refl _
  | s + 1 => by
    have := cornersTo_len n l s
    rw [cornersTo, List.length_append]
    cases cornerB n l (s + 1) <;> simp <;> omega
theorem solveT_len {m k : Nat} {T : SysT} {x : List Rat} (h : solveT m k T = some x) : x.length = k := by
  rw [solveT] at h
  cases hr : elimRun m T k with
  | none => rw [hr] at h; cases h
  | some S =>
    rw [hr] at h
    simp only [Option.bind_some] at h
    split at h
    · cases h
    · cases h; simp
/-- No system met on the way is wild. -/
def TameAll (n : Nat) (l : List (Int × Int)) : Prop := ∀ set, 1 ≤ set → set < 2 ^ n → ∀ j S, j ≤ (worldsN n set).length → elimRun (l.length + 1) (sysB n l (worldsN n set)) j = some S → Tame (l.length + 1) (worldsN n set).length S
/-! A decision, for one input. -/
def tameB (D m k : Nat) (T : SysT) : Bool := (List.range m).all fun i => (List.range (k + 1)).all fun c => decide ((T i c).den ∣ D) && decide ((T i c).num.natAbs * (D / (T i c).den) ≤ 1073741824)
theorem tame_of {D m k : Nat} {T : SysT} (hD : 0 < D) (hD2 : D ≤ 1073741824) (h : tameB D m k T = true) : Tame m k T := by
  refine ⟨D, hD, hD2, fun i c hi hc => ?_⟩
  rw [tameB, List.all_eq_true] at h
  have h1 := h i (List.mem_range.2 hi)
  rw [List.all_eq_true] at h1
  have h2 := h1 c (List.mem_range.2 (by omega))
  simp only [Bool.and_eq_true, decide_eq_true_eq] at h2
  refine ⟨_, Rp.up' (Rp.own _) h2.1 hD, ?_⟩
  rw [Int.natAbs_mul, Int.natAbs_natCast]
  exact h2.2
def tameRun (D m k : Nat) (T : SysT) (j : Nat) : Bool := match elimRun m T j with | none => true | some S => tameB D m k S
def tameAllB (D n : Nat) (l : List (Int × Int)) : Bool := (List.range (2 ^ n)).all fun set => decide (set = 0) || (List.range ((worldsN n set).length + 1)).all fun j => tameRun D (l.length + 1) (worldsN n set).length (sysB n l (worldsN n set)) j
theorem tameAll_of {D n : Nat} {l : List (Int × Int)} (hD : 0 < D) (hD2 : D ≤ 1073741824) (h : tameAllB D n l = true) : TameAll n l := by
  intro set h1 h2 j S hj hS
  rw [tameAllB, List.all_eq_true] at h
  have h3 := h set (List.mem_range.2 h2)
  simp only [show set ≠ 0 by omega, decide_false, Bool.false_or] at h3
  rw [List.all_eq_true] at h3
  have h4 := h3 j (List.mem_range.2 (by omega))
  rw [tameRun, hS] at h4
  exact tame_of hD hD2 h4
theorem tame_awake : TameAll 2 [(1, 6)] := tameAll_of (D := 2) (by decide) (by decide) (by decide +kernel)
theorem corners_awake : cornersB 2 [(1, 6)] = [[1 / 2, 1 / 2]] := by decide +kernel
end Bq

namespace Go.Proofs.Try.Am
open Go.Am Bq
set_option maxRecDepth 100000
set_option maxHeartbeats 1000000

def castI (ws : List Nat) : List Int := ws.map fun (w : Nat) => (w : Int)
/-- What stands for some worlds, and the right side. -/
def rowL (e : Nat) (ws : List Nat) (q : Rat) : List (Int × Int) := (ws.map fun w => ofQ (bitQ e w)) ++ [ofQ q]
theorem castI_len (ws : List Nat) : (castI ws).length = ws.length := by simp [castI]
theorem castI_getD (ws : List Nat) (k : Nat) : (castI ws).getD k 0 = ((ws.getD k 0 : Nat) : Int) := by
  by_cases h : k < ws.length
  · simp [castI, List.getD, h]
  · simp [castI, List.getD, List.getElem?_eq_none (show ws.length ≤ k by omega)]
/-- A heap that grew, and a slice that may be appended to in place. -/
theorem ext_app {h hp H' h' : Heap} {w : Value} (hE : Ext (fun _ => False) h hp) (hl : hp.length ≤ H'.length) (hk : ∀ q, q < h.length → H'[q]? = hp[q]?) (hb : ∀ b, blkOf w = some b → h.length ≤ b) (hE' : Ext (fun i => blkOf w = some i) H' h') : Ext (fun _ => False) h h' := by
  refine ⟨by have := hE.1; have := hE'.1; omega, fun q hq _ => ?_⟩
  have l1 := hE.1
  rw [hE'.2 q (by omega) (fun hb0 => by have := hb q hb0; omega), hk q hq]
  exact hE.2 q hq id

theorem s100_callW [Tabs Try.prog] {args : List Value} {h : Heap} {Q : Value → Heap → Prop} (hsz : args.length ≤ 28) (hk : AWS Try.prog 28 s100 (aPost Try.prog [.tmp 5] Q) (argEnv 0 args) h) : ACall Try.prog 100 args h Q :=
  acall_w Try.func100 rfl (enters_of Try.func100 (by kernel_rfl) rfl) rfl rfl (by decide) s100_strip s100_ok hsz hk
theorem row_call [Tabs prog] {h : Heap} {e bw : Nat} {q : Rat} {wv : Value} {ws : List Nat} (hb : h[bw]? = some (.cells [wv] 38 false)) (hw : IntSl h wv (castI ws)) (hl : ws.length ≤ 100) (he : e < 9223372036854775808) :
    ACall prog 100 [vint (e : Nat), qV q, .pointer (some ⟨bw, 0, none⟩)] h fun r h' => Ext (fun _ => False) h h' ∧ OwnP 26 h' r (rowL e ws q) ∧ ∀ b, blkOf r = some b → h.length ≤ b := by
  obtain ⟨H, hH⟩ : ∃ H, H = h ++ [fC q.num q.den] := ⟨_, rfl⟩
  have hE : Ext (fun _ => False) h H := by rw [hH]; exact Ext.app _ _ _
  have b2 : H[bw]? = some (.cells [wv] 38 false) := by rw [hH]; exact get_old hb _
  have b4 : H[h.length]? = some (fC q.num q.den) := by rw [hH]; exact get_new _ _
  have hwH : IntSl H wv (castI ws) := by rw [hH]; exact hw.grow _
  have hlc := castI_len ws
  refine s100_callW (by simp) ?_
  simp only [s100]
  refine aws_cut fun N1 hN1 => ?_
  simp (maxSteps := 2000000) only [s100, ↓aw_region, ↓aw_skip, ↓aw_seq, ↓aw_block, ↓aw_exit, ↓aw_ret, ↓sops_nil, ↓sops_go, ↓dops_nil, ↓dopsX_nil, ↓dopsR_nil, ↓vdn, vup, extr_20, extr_21, extr_30, extr_31, extr_32, List.map_cons, List.map_nil, cond_true, cond_false, aop, aThen, aBlock, argEnv, ev, sput, sputO, binK, binI, unK, builtinK, pickK, Nat.reduceBEq, Nat.reduceAdd, Int.reduceBEq, Int.reduceBNe, Int.reduceLT, aPost, resK, tup, tyf, qV, frV, boxF, newPtr]
  rw [← hH]
  refine hN1 [(0, vint (e : Nat)), (2, .pointer (some ⟨bw, 0, none⟩)), (4, .pointer (some ⟨h.length, 0, none⟩)), (5, .slice none 0 0)] _ _ ?_ (by simp (maxSteps := 2000000) only [↓aw_region, ↓aw_skip, ↓aw_seq, ↓aw_block, ↓aw_exit, ↓aw_ret, ↓sops_nil, ↓sops_go, ↓dops_nil, ↓dopsX_nil, ↓dopsR_nil, ↓vdn, vup, extr_20, extr_21, extr_30, extr_31, extr_32, List.map_cons, List.map_nil, cond_true, cond_false, aop, aThen, aBlock, argEnv, ev, sput, sputO, binK, binI, unK, builtinK, pickK, Nat.reduceBEq, Nat.reduceAdd, Int.reduceBEq, Int.reduceBNe, Int.reduceLT, aPost, resK, tup, tyf])
  clear hN1
  try clear N1
  refine aws_cut fun N2 hN2 => ?_
  simp (maxSteps := 2000000) only [s100, ↓aw_region, ↓aw_skip, ↓aw_seq, ↓aw_block, ↓aw_exit, ↓aw_ret, ↓sops_nil, ↓sops_go, ↓dops_nil, ↓dopsX_nil, ↓dopsR_nil, ↓vdn, vup, extr_20, extr_21, extr_30, extr_31, extr_32, List.map_cons, List.map_nil, cond_true, cond_false, aop, aThen, aBlock, argEnv, ev, sput, sputO, binK, binI, unK, builtinK, pickK, Nat.reduceBEq, Nat.reduceAdd, Int.reduceBEq, Int.reduceBNe, Int.reduceLT, aPost, resK, tup, tyf]
  refine hN2 [(0, vint (e : Nat)), (2, .pointer (some ⟨bw, 0, none⟩)), (4, .pointer (some ⟨h.length, 0, none⟩)), (5, .slice none 0 0), (6, .slice none 0 0)] _ _ ?_ (by simp (maxSteps := 2000000) only [↓aw_region, ↓aw_skip, ↓aw_seq, ↓aw_block, ↓aw_exit, ↓aw_ret, ↓sops_nil, ↓sops_go, ↓dops_nil, ↓dopsX_nil, ↓dopsR_nil, ↓vdn, vup, extr_20, extr_21, extr_30, extr_31, extr_32, List.map_cons, List.map_nil, cond_true, cond_false, aop, aThen, aBlock, argEnv, ev, sput, sputO, binK, binI, unK, builtinK, pickK, Nat.reduceBEq, Nat.reduceAdd, Int.reduceBEq, Int.reduceBNe, Int.reduceLT, aPost, resK, tup, tyf])
  clear hN2
  try clear N2
  refine aws_cutW fun Z hZ => ?_
  refine aws_cut fun N3 hN3 => ?_
  simp (maxSteps := 2000000) only [s100, ↓aw_region, ↓aw_skip, ↓aw_seq, ↓aw_block, ↓aw_exit, ↓aw_ret, ↓sops_nil, ↓sops_go, ↓dops_nil, ↓dopsX_nil, ↓dopsR_nil, ↓vdn, vup, extr_20, extr_21, extr_30, extr_31, extr_32, List.map_cons, List.map_nil, cond_true, cond_false, aop, aThen, aBlock, argEnv, ev, sput, sputO, binK, binI, unK, builtinK, pickK, Nat.reduceBEq, Nat.reduceAdd, Int.reduceBEq, Int.reduceBNe, Int.reduceLT, aPost, resK, tup, tyf, load1 b2 shp_38, hwH.len, hlc]
  refine hN3 [(0, vint (e : Nat)), (2, .pointer (some ⟨bw, 0, none⟩)), (4, .pointer (some ⟨h.length, 0, none⟩)), (5, .slice none 0 0), (6, .slice none 0 0), (9, wv), (10, vint ws.length), (11, .int .i64 0)] _ _ ?_ (by simp (maxSteps := 2000000) only [↓aw_region, ↓aw_skip, ↓aw_seq, ↓aw_block, ↓aw_exit, ↓aw_ret, ↓sops_nil, ↓sops_go, ↓dops_nil, ↓dopsX_nil, ↓dopsR_nil, ↓vdn, vup, extr_20, extr_21, extr_30, extr_31, extr_32, List.map_cons, List.map_nil, cond_true, cond_false, aop, aThen, aBlock, argEnv, ev, sput, sputO, binK, binI, unK, builtinK, pickK, Nat.reduceBEq, Nat.reduceAdd, Int.reduceBEq, Int.reduceBNe, Int.reduceLT, aPost, resK, tup, tyf])
  clear hN3
  try clear N3
  refine aws_block ?_
  refine aws_hide fun Q hQ => ?_
  refine aw_loopW (γ := Nat × Value × Heap) (fun s => s.1 ≤ ws.length ∧ OwnP 26 s.2.2 s.2.1 ((ws.take s.1).map fun w => ofQ (bitQ e w)) ∧ Ext (fun _ => False) H s.2.2 ∧ ∀ b, blkOf s.2.1 = some b → h.length ≤ b)
    (fun s => ([(0, vint (e : Nat)), (2, .pointer (some ⟨bw, 0, none⟩)), (4, .pointer (some ⟨h.length, 0, none⟩)), (5, .slice none 0 0), (6, s.2.1), (9, wv), (10, vint ws.length), (11, vint (s.1 : Nat))], s.2.2)) (fun s => ws.length - s.1) (0, .slice none 0 0, H) ⟨Nat.zero_le _, .inl ⟨rfl, by simp⟩, Ext.refl _ _, fun b hb => by cases hb⟩ (by simp (maxSteps := 2000000) only [↓aw_region, ↓aw_skip, ↓aw_seq, ↓aw_block, ↓aw_exit, ↓aw_ret, ↓sops_nil, ↓sops_go, ↓dops_nil, ↓dopsX_nil, ↓dopsR_nil, ↓vdn, vup, extr_20, extr_21, extr_30, extr_31, extr_32, List.map_cons, List.map_nil, cond_true, cond_false, aop, aThen, aBlock, argEnv, ev, sput, sputO, binK, binI, unK, builtinK, pickK, Nat.reduceBEq, Nat.reduceAdd, Int.reduceBEq, Int.reduceBNe, Int.reduceLT, aPost, resK, tup, tyf, Int.natCast_zero]) rfl ?_
  rintro ⟨k, x, hp⟩ ⟨hk, ho, hEp, hbx⟩
  simp only at hk ho hEp hbx
  refine aws_hide fun Q2 hQ2 => ?_
  simp only [l100_0]
  have hwp : IntSl hp wv (castI ws) := hwH.same fun b hb => hEp.2 b (hwH.lt hb) id
  by_cases hin : (k : Int) < ws.length
  · have hk' : k < ws.length := by omega
    have hkc : k < (castI ws).length := by omega
    have ht := testV (y := ws.getD k 0) he
    have wc : ∀ h', APure prog 70 [vint (if e.testBit (ws.getD k 0) then (1 : Int) else 0)] h' (qV (bitQ e (ws.getD k 0))) := fun h' => by
      have e1 : (((if e.testBit (ws.getD k 0) then (1 : Int) else 0 : Int)) : Rat) = bitQ e (ws.getD k 0) := by
        rw [bitQ]; split <;> rfl
      rw [← e1]; exact whole_call
    refine aws_cut fun N4 hN4 => ?_
    simp (maxSteps := 2000000) only [s100, ↓aw_region, ↓aw_skip, ↓aw_seq, ↓aw_block, ↓aw_exit, ↓aw_ret, ↓sops_nil, ↓sops_go, ↓dops_nil, ↓dopsX_nil, ↓dopsR_nil, ↓vdn, vup, extr_20, extr_21, extr_30, extr_31, extr_32, List.map_cons, List.map_nil, cond_true, cond_false, aop, aThen, aBlock, argEnv, ev, sput, sputO, binK, binI, unK, builtinK, pickK, Nat.reduceBEq, Nat.reduceAdd, Int.reduceBEq, Int.reduceBNe, Int.reduceLT, aPost, resK, tup, tyf, hin]
    refine hN4 [(0, vint (e : Nat)), (2, .pointer (some ⟨bw, 0, none⟩)), (4, .pointer (some ⟨h.length, 0, none⟩)), (5, .slice none 0 0), (6, x), (9, wv), (10, vint ws.length), (11, vint (k : Nat)), (12, .bool true)] _ _ ?_ (by simp (maxSteps := 2000000) only [↓aw_region, ↓aw_skip, ↓aw_seq, ↓aw_block, ↓aw_exit, ↓aw_ret, ↓sops_nil, ↓sops_go, ↓dops_nil, ↓dopsX_nil, ↓dopsR_nil, ↓vdn, vup, extr_20, extr_21, extr_30, extr_31, extr_32, List.map_cons, List.map_nil, cond_true, cond_false, aop, aThen, aBlock, argEnv, ev, sput, sputO, binK, binI, unK, builtinK, pickK, Nat.reduceBEq, Nat.reduceAdd, Int.reduceBEq, Int.reduceBNe, Int.reduceLT, aPost, resK, tup, tyf])
    clear hN4
    try clear N4
    refine aws_cut fun N5 hN5 => ?_
    simp (maxSteps := 2000000) only [s100, ↓aw_region, ↓aw_skip, ↓aw_seq, ↓aw_block, ↓aw_exit, ↓aw_ret, ↓sops_nil, ↓sops_go, ↓dops_nil, ↓dopsX_nil, ↓dopsR_nil, ↓vdn, vup, extr_20, extr_21, extr_30, extr_31, extr_32, List.map_cons, List.map_nil, cond_true, cond_false, aop, aThen, aBlock, argEnv, ev, sput, sputO, binK, binI, unK, builtinK, pickK, Nat.reduceBEq, Nat.reduceAdd, Int.reduceBEq, Int.reduceBNe, Int.reduceLT, aPost, resK, tup, tyf]
    refine hN5 [(0, vint (e : Nat)), (2, .pointer (some ⟨bw, 0, none⟩)), (4, .pointer (some ⟨h.length, 0, none⟩)), (5, .slice none 0 0), (6, x), (9, wv), (10, vint ws.length), (11, vint (k : Nat))] _ _ ?_ (by simp (maxSteps := 2000000) only [↓aw_region, ↓aw_skip, ↓aw_seq, ↓aw_block, ↓aw_exit, ↓aw_ret, ↓sops_nil, ↓sops_go, ↓dops_nil, ↓dopsX_nil, ↓dopsR_nil, ↓vdn, vup, extr_20, extr_21, extr_30, extr_31, extr_32, List.map_cons, List.map_nil, cond_true, cond_false, aop, aThen, aBlock, argEnv, ev, sput, sputO, binK, binI, unK, builtinK, pickK, Nat.reduceBEq, Nat.reduceAdd, Int.reduceBEq, Int.reduceBNe, Int.reduceLT, aPost, resK, tup, tyf])
    clear hN5
    try clear N5
    refine aws_cutW fun B hB => ?_
    refine aws_block ?_
    refine aws_cut fun N6 hN6 => ?_
    simp (maxSteps := 2000000) only [s100, ↓aw_region, ↓aw_skip, ↓aw_seq, ↓aw_block, ↓aw_exit, ↓aw_ret, ↓sops_nil, ↓sops_go, ↓dops_nil, ↓dopsX_nil, ↓dopsR_nil, ↓vdn, vup, extr_20, extr_21, extr_30, extr_31, extr_32, List.map_cons, List.map_nil, cond_true, cond_false, aop, aThen, aBlock, argEnv, ev, sput, sputO, binK, binI, unK, builtinK, pickK, Nat.reduceBEq, Nat.reduceAdd, Int.reduceBEq, Int.reduceBNe, Int.reduceLT, aPost, resK, tup, tyf, hwp.idx el_38 esz_3 hkc, hwp.load shp_3 hkc, castI_getD]
    refine hN6 [(0, vint (e : Nat)), (2, .pointer (some ⟨bw, 0, none⟩)), (4, .pointer (some ⟨h.length, 0, none⟩)), (5, .slice none 0 0), (6, x), (8, vint (ws.getD k 0 : Nat)), (9, wv), (10, vint ws.length), (11, vint (k : Nat))] _ _ ?_ (by simp (maxSteps := 2000000) only [↓aw_region, ↓aw_skip, ↓aw_seq, ↓aw_block, ↓aw_exit, ↓aw_ret, ↓sops_nil, ↓sops_go, ↓dops_nil, ↓dopsX_nil, ↓dopsR_nil, ↓vdn, vup, extr_20, extr_21, extr_30, extr_31, extr_32, List.map_cons, List.map_nil, cond_true, cond_false, aop, aThen, aBlock, argEnv, ev, sput, sputO, binK, binI, unK, builtinK, pickK, Nat.reduceBEq, Nat.reduceAdd, Int.reduceBEq, Int.reduceBNe, Int.reduceLT, aPost, resK, tup, tyf])
    clear hN6
    try clear N6
    refine aw_aws ?_
    simp (maxSteps := 2000000) only [s100, ↓aw_region, ↓aw_skip, ↓aw_seq, ↓aw_block, ↓aw_exit, ↓aw_ret, ↓sops_nil, ↓sops_go, ↓dops_nil, ↓dopsX_nil, ↓dopsR_nil, ↓vdn, vup, extr_20, extr_21, extr_30, extr_31, extr_32, List.map_cons, List.map_nil, cond_true, cond_false, aop, aThen, aBlock, argEnv, ev, sput, sputO, binK, binI, unK, builtinK, pickK, Nat.reduceBEq, Nat.reduceAdd, Int.reduceBEq, Int.reduceBNe, Int.reduceLT, aPost, resK, tup, tyf, callK, List.nil_append, List.append_nil, List.toList_toArray, List.cons_append, ht, Int.natCast_nonneg]
    refine (wc hp).mono ?_
    rintro _ hp ⟨rfl, rfl⟩
    simp (maxSteps := 2000000) only [s100, ↓aw_region, ↓aw_skip, ↓aw_seq, ↓aw_block, ↓aw_exit, ↓aw_ret, ↓sops_nil, ↓sops_go, ↓dops_nil, ↓dopsX_nil, ↓dopsR_nil, ↓vdn, vup, extr_20, extr_21, extr_30, extr_31, extr_32, List.map_cons, List.map_nil, cond_true, cond_false, aop, aThen, aBlock, argEnv, ev, sput, sputO, binK, binI, unK, builtinK, pickK, Nat.reduceBEq, Nat.reduceAdd, Int.reduceBEq, Int.reduceBNe, Int.reduceLT, aPost, resK, tup, tyf, qV, frV, List.toList_toArray, litF]
    refine OwnP.append (x := (bitQ e (ws.getD k 0)).num) (y := (bitQ e (ws.getD k 0)).den) (ho.ext (Ext.app _ _ _)) app_47_47 (by simp; omega) (get_new _ _) ?_
    intro x' h' ho' hE' hb'
    have hnx : ((ws.take k).map fun w => ofQ (bitQ e w)) ++ [((bitQ e (ws.getD k 0)).num, ((bitQ e (ws.getD k 0)).den : Int))] = (ws.take (k + 1)).map fun w => ofQ (bitQ e w) := by
      rw [take_snoc (d := (0 : Nat)) hk', List.map_append]; rfl
    rw [hnx] at ho'
    have hEn := ext_app (hE.trans hEp) (H' := hp ++ [Blk.ints [(bitQ e (ws.getD k 0)).num, ((bitQ e (ws.getD k 0)).den : Int)] 26 false]) (by simp) (fun q hq => List.getElem?_append_left (by have := hE.1; have := hEp.1; omega)) hbx hE'
    have hEn2 : Ext (fun _ => False) H h' := by
      have hl' := hE'.1
      have l0 := hE.1
      have l1 := hEp.1
      rw [List.length_append] at hl'
      refine ⟨by omega, fun q hq _ => ?_⟩
      by_cases hqh : q < h.length
      · rw [hEn.2 q hqh id, hE.2 q hqh id]
      · rw [hE'.2 q (by rw [List.length_append]; omega) (fun hb0 => ?_), List.getElem?_append_left (by omega)]
        · exact hEp.2 q hq id
        · obtain ⟨rfl⟩ : q = h.length := by rw [hH] at hq; simp at hq; omega
          rcases ho with ⟨rfl, _⟩ | ⟨b, ys, rfl, hbb⟩
          · cases hb0
          · cases hb0
            rw [hEp.2 _ hq id, b4] at hbb; cases hbb
    refine hB [(0, vint (e : Nat)), (2, .pointer (some ⟨bw, 0, none⟩)), (4, .pointer (some ⟨h.length, 0, none⟩)), (5, .slice none 0 0), (6, x'), (9, wv), (10, vint ws.length), (11, vint (k : Nat))] _ _ ?_ (by simp (maxSteps := 2000000) only [↓aw_region, ↓aw_skip, ↓aw_seq, ↓aw_block, ↓aw_exit, ↓aw_ret, ↓sops_nil, ↓sops_go, ↓dops_nil, ↓dopsX_nil, ↓dopsR_nil, ↓vdn, vup, extr_20, extr_21, extr_30, extr_31, extr_32, List.map_cons, List.map_nil, cond_true, cond_false, aop, aThen, aBlock, argEnv, ev, sput, sputO, binK, binI, unK, builtinK, pickK, Nat.reduceBEq, Nat.reduceAdd, Int.reduceBEq, Int.reduceBNe, Int.reduceLT, aPost, resK, tup, tyf])
    clear hB
    try clear B
    refine aw_aws ?_
    simp (maxSteps := 2000000) only [s100, ↓aw_region, ↓aw_skip, ↓aw_seq, ↓aw_block, ↓aw_exit, ↓aw_ret, ↓sops_nil, ↓sops_go, ↓dops_nil, ↓dopsX_nil, ↓dopsR_nil, ↓vdn, vup, extr_20, extr_21, extr_30, extr_31, extr_32, List.map_cons, List.map_nil, cond_true, cond_false, aop, aThen, aBlock, argEnv, ev, sput, sputO, binK, binI, unK, builtinK, pickK, Nat.reduceBEq, Nat.reduceAdd, Int.reduceBEq, Int.reduceBNe, Int.reduceLT, aPost, resK, tup, tyf, add1 (show k < 9223372036854775807 by omega)]
    refine hQ2 _ _ _ ⟨(k + 1, x', h'), ⟨hk', ho', hEn2, fun b hb0 => ?_⟩, by simp only; omega, by simp (maxSteps := 2000000) only [↓aw_region, ↓aw_skip, ↓aw_seq, ↓aw_block, ↓aw_exit, ↓aw_ret, ↓sops_nil, ↓sops_go, ↓dops_nil, ↓dopsX_nil, ↓dopsR_nil, ↓vdn, vup, extr_20, extr_21, extr_30, extr_31, extr_32, List.map_cons, List.map_nil, cond_true, cond_false, aop, aThen, aBlock, argEnv, ev, sput, sputO, binK, binI, unK, builtinK, pickK, Nat.reduceBEq, Nat.reduceAdd, Int.reduceBEq, Int.reduceBNe, Int.reduceLT, aPost, resK, tup, tyf], rfl⟩
    simp only at hb0
    rcases hb' with hb' | ⟨b', hb1, hb2⟩
    · exact hbx b (hb' ▸ hb0)
    · rw [hb1] at hb0; cases hb0
      rw [List.length_append] at hb2
      have := hE.1; have := hEp.1; omega
  · have hkk : ws.length = k := by omega
    refine aws_cut fun N7 hN7 => ?_
    simp (maxSteps := 2000000) only [s100, ↓aw_region, ↓aw_skip, ↓aw_seq, ↓aw_block, ↓aw_exit, ↓aw_ret, ↓sops_nil, ↓sops_go, ↓dops_nil, ↓dopsX_nil, ↓dopsR_nil, ↓vdn, vup, extr_20, extr_21, extr_30, extr_31, extr_32, List.map_cons, List.map_nil, cond_true, cond_false, aop, aThen, aBlock, argEnv, ev, sput, sputO, binK, binI, unK, builtinK, pickK, Nat.reduceBEq, Nat.reduceAdd, Int.reduceBEq, Int.reduceBNe, Int.reduceLT, aPost, resK, tup, tyf, hin]
    refine hN7 [(0, vint (e : Nat)), (2, .pointer (some ⟨bw, 0, none⟩)), (4, .pointer (some ⟨h.length, 0, none⟩)), (5, .slice none 0 0), (6, x), (9, wv), (10, vint ws.length), (11, vint (k : Nat)), (12, .bool false)] _ _ ?_ (by simp (maxSteps := 2000000) only [↓aw_region, ↓aw_skip, ↓aw_seq, ↓aw_block, ↓aw_exit, ↓aw_ret, ↓sops_nil, ↓sops_go, ↓dops_nil, ↓dopsX_nil, ↓dopsR_nil, ↓vdn, vup, extr_20, extr_21, extr_30, extr_31, extr_32, List.map_cons, List.map_nil, cond_true, cond_false, aop, aThen, aBlock, argEnv, ev, sput, sputO, binK, binI, unK, builtinK, pickK, Nat.reduceBEq, Nat.reduceAdd, Int.reduceBEq, Int.reduceBNe, Int.reduceLT, aPost, resK, tup, tyf])
    clear hN7
    try clear N7
    refine aws_cut fun N8 hN8 => ?_
    simp (maxSteps := 2000000) only [s100, ↓aw_region, ↓aw_skip, ↓aw_seq, ↓aw_block, ↓aw_exit, ↓aw_ret, ↓sops_nil, ↓sops_go, ↓dops_nil, ↓dopsX_nil, ↓dopsR_nil, ↓vdn, vup, extr_20, extr_21, extr_30, extr_31, extr_32, List.map_cons, List.map_nil, cond_true, cond_false, aop, aThen, aBlock, argEnv, ev, sput, sputO, binK, binI, unK, builtinK, pickK, Nat.reduceBEq, Nat.reduceAdd, Int.reduceBEq, Int.reduceBNe, Int.reduceLT, aPost, resK, tup, tyf]
    refine hQ2 _ _ _ (hQ _ _ _ ?_)
    simp (maxSteps := 2000000) only [s100, ↓aw_region, ↓aw_skip, ↓aw_seq, ↓aw_block, ↓aw_exit, ↓aw_ret, ↓sops_nil, ↓sops_go, ↓dops_nil, ↓dopsX_nil, ↓dopsR_nil, ↓vdn, vup, extr_20, extr_21, extr_30, extr_31, extr_32, List.map_cons, List.map_nil, cond_true, cond_false, aop, aThen, aBlock, argEnv, ev, sput, sputO, binK, binI, unK, builtinK, pickK, Nat.reduceBEq, Nat.reduceAdd, Int.reduceBEq, Int.reduceBNe, Int.reduceLT, aPost, resK, tup, tyf, if_true]
    refine hZ [(0, vint (e : Nat)), (2, .pointer (some ⟨bw, 0, none⟩)), (4, .pointer (some ⟨h.length, 0, none⟩)), (5, .slice none 0 0), (6, x), (12, .bool false)] _ _ ?_ (by simp (maxSteps := 2000000) only [↓aw_region, ↓aw_skip, ↓aw_seq, ↓aw_block, ↓aw_exit, ↓aw_ret, ↓sops_nil, ↓sops_go, ↓dops_nil, ↓dopsX_nil, ↓dopsR_nil, ↓vdn, vup, extr_20, extr_21, extr_30, extr_31, extr_32, List.map_cons, List.map_nil, cond_true, cond_false, aop, aThen, aBlock, argEnv, ev, sput, sputO, binK, binI, unK, builtinK, pickK, Nat.reduceBEq, Nat.reduceAdd, Int.reduceBEq, Int.reduceBNe, Int.reduceLT, aPost, resK, tup, tyf])
    clear hZ
    try clear Z
    have b4p : hp[h.length]? = some (fC q.num q.den) := (hEp.2 _ (get_lt b4) id).trans b4
    refine aw_aws ?_
    simp (maxSteps := 2000000) only [s100, ↓aw_region, ↓aw_skip, ↓aw_seq, ↓aw_block, ↓aw_exit, ↓aw_ret, ↓sops_nil, ↓sops_go, ↓dops_nil, ↓dopsX_nil, ↓dopsR_nil, ↓vdn, vup, extr_20, extr_21, extr_30, extr_31, extr_32, List.map_cons, List.map_nil, cond_true, cond_false, aop, aThen, aBlock, argEnv, ev, sput, sputO, binK, binI, unK, builtinK, pickK, Nat.reduceBEq, Nat.reduceAdd, Int.reduceBEq, Int.reduceBNe, Int.reduceLT, aPost, resK, tup, tyf, loadF b4p, List.toList_toArray, litF]
    refine OwnP.append (x := q.num) (y := q.den) (ho.ext (Ext.app _ _ _)) app_47_47 (by simp; omega) (get_new _ _) ?_
    intro x' h' ho' hE' hb'
    rw [← hkk, List.take_length] at ho'
    refine ⟨ext_app (hE.trans hEp) (H' := hp ++ [Blk.ints [q.num, (q.den : Int)] 26 false]) (by simp) (fun z hz => List.getElem?_append_left (by have := hE.1; have := hEp.1; omega)) hbx hE', ho', fun b hb0 => ?_⟩
    rcases hb' with hb' | ⟨b', hb1, hb2⟩
    · exact hbx b (hb' ▸ hb0)
    · rw [hb1] at hb0; cases hb0
      rw [List.length_append] at hb2
      have := hE.1; have := hEp.1; omega

theorem s102_callW [Tabs Try.prog] {args : List Value} {h : Heap} {Q : Value → Heap → Prop} (hsz : args.length ≤ 6) (hk : AWS Try.prog 6 s102 (aPost Try.prog [.tmp 2] Q) (argEnv 0 args) h) : ACall Try.prog 102 args h Q :=
  acall_w Try.func102 rfl (enters_of Try.func102 (by kernel_rfl) rfl) rfl rfl (by decide) s102_strip s102_ok hsz hk
theorem neg_call [Tabs prog] {h : Heap} {x y : Int} : APure prog 102 [frV x y] h (.bool (decide (x < 0))) := by
  refine ACall.forget (Low.bool _) ?_
  refine s102_callW (by simp) ?_
  refine aw_aws ?_
  simp (maxSteps := 2000000) only [s102, ↓aw_region, ↓aw_skip, ↓aw_seq, ↓aw_block, ↓aw_exit, ↓aw_ret, ↓sops_nil, ↓sops_go, ↓dops_nil, ↓dopsX_nil, ↓dopsR_nil, ↓vdn, vup, extr_20, extr_21, extr_30, extr_31, extr_32, List.map_cons, List.map_nil, cond_true, cond_false, aop, aThen, aBlock, argEnv, ev, sput, sputO, binK, binI, unK, builtinK, pickK, Nat.reduceBEq, Nat.reduceAdd, Int.reduceBEq, Int.reduceBNe, Int.reduceLT, aPost, resK, tup, tyf, frV, boxF, newPtr, fA0, loadF0 (get_new h _)]
  exact Ext.app _ _ _
end Go.Proofs.Try.Am

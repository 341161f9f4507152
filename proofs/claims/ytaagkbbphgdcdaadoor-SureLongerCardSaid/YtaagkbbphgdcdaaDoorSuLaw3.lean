/-
  sure: the law SureCodes.
-/
import Derived.Test.YtaagkbbphgdcdaaDoorSuRcodes
import Derived.Test.YtaagkbbphgdcdaaDoorSuRcode2
import Derived.Test.YtaagkbbphgdcdaaDoorFnB
set_option linter.all false
namespace Go.Proofs.Tryd.Am
open Go.Am Sr
set_option maxRecDepth 100000
set_option maxHeartbeats 1000000

/-! The beginnings that the statements look at. -/
theorem grs_take (xs : List Int) : grs (xs.take 80) = grs xs := by
  by_cases hl : xs.length ≤ 80
  · rw [List.take_of_length_le hl]
  · have h1 : grs xs = false := by
      cases h : grs xs with
      | false => rfl
      | true => have := (grs_iff.1 h).2.1; omega
    have h2 : grs (xs.take 80) = false := by
      cases h : grs (xs.take 80) with
      | false => rfl
      | true => have := (grs_iff.1 h).2.1; rw [List.length_take] at this; omega
    rw [h1, h2]
theorem grs_same {xs : List Int} (h : grs xs = true) : xs.take 80 = xs := List.take_of_length_le (by have := (grs_iff.1 h).2.1; omega)
abbrev Okk (xs : List Int) (k : Int) : Prop := grs xs = true ∧ 1 ≤ k ∧ k ≤ 3
theorem codesR_take (xs : List Int) (k : Int) (cs : List Int) : codesR (xs.take 80) k (cs.take 80) = codesR xs k cs := by
  unfold codesR
  rw [grs_take]
  by_cases h : grs xs = true ∧ 1 ≤ k ∧ k ≤ 3
  · rw [if_pos h, if_pos h, grs_same h.1]
    by_cases hw : wn xs k.toNat ≤ 64
    · rw [if_pos hw, if_pos hw, code_take (by omega)]
    · rw [if_neg hw, if_neg hw]
  · rw [if_neg h, if_neg h]
theorem codesR_take1 (xs : List Int) (k : Int) (cs : List Int) : codesR (xs.take 80) k cs = codesR xs k cs := by
  unfold codesR
  rw [grs_take]
  by_cases h : grs xs = true ∧ 1 ≤ k ∧ k ≤ 3
  · rw [if_pos h, if_pos h, grs_same h.1]
  · rw [if_neg h, if_neg h]
theorem codeR_take {h : Heap} {xs : List Int} {k : Int} {r : Value} (hr : codeR h (xs.take 80) k r) : codeR h xs k r := by
  unfold codeR at hr ⊢
  rw [grs_take] at hr
  by_cases h : grs xs = true ∧ 1 ≤ k ∧ k ≤ 3
  · rw [if_pos h, grs_same h.1] at hr; rw [if_pos h]; exact hr
  · rw [if_neg h] at hr ⊢; exact hr
theorem codesR_form (xs : List Int) (k : Int) (cs : List Int) : ∃ b e, codesR xs k cs = .tuple #[.bool b, .int .i64 e] ∧
    ((¬ Okk xs k ∧ b = false ∧ e = 2) ∨ (Okk xs k ∧ ¬ wn xs k.toNat ≤ 64 ∧ b = false ∧ e = 6) ∨ (Okk xs k ∧ wn xs k.toNat ≤ 64 ∧ b = code xs k.toNat cs ∧ e = 0)) := by
  unfold codesR
  by_cases h : grs xs = true ∧ 1 ≤ k ∧ k ≤ 3
  · rw [if_pos h]
    by_cases hw : wn xs k.toNat ≤ 64
    · rw [if_pos hw]; exact ⟨_, _, rfl, .inr (.inr ⟨h, hw, rfl, rfl⟩)⟩
    · rw [if_neg hw]; exact ⟨_, _, rfl, .inr (.inl ⟨h, hw, rfl, rfl⟩)⟩
  · rw [if_neg h]; exact ⟨_, _, rfl, .inl ⟨h, rfl, rfl⟩⟩
theorem codeR_form {h' : Heap} {xs : List Int} {k : Int} {r : Value} (hr : codeR h' xs k r) : ∃ w e, r = .tuple #[w, .int .i64 e] ∧
    ((¬ Okk xs k ∧ w = .slice none 0 0 ∧ e = 2) ∨ (Okk xs k ∧ ¬ wn xs k.toNat ≤ 64 ∧ w = .slice none 0 0 ∧ e = 6) ∨ (Okk xs k ∧ wn xs k.toNat ≤ 64 ∧ OwnSl 3 h' w ((codeL (nearL xs k.toNat)).map Int.ofNat) ∧ e = 0)) := by
  unfold codeR at hr
  by_cases h : grs xs = true ∧ 1 ≤ k ∧ k ≤ 3
  · rw [if_pos h] at hr
    by_cases hw : wn xs k.toNat ≤ 64
    · rw [if_pos hw] at hr
      obtain ⟨w, h1, h2⟩ := hr
      exact ⟨_, _, h1, .inr (.inr ⟨h, hw, h2, rfl⟩)⟩
    · rw [if_neg hw] at hr; exact ⟨_, _, hr, .inr (.inl ⟨h, hw, rfl, rfl⟩)⟩
  · rw [if_neg h] at hr; exact ⟨_, _, hr, .inl ⟨h, rfl, rfl⟩⟩
theorem awk [BitTab prog 0] {K : Value → Heap → Prop} {g : Heap} (hk : ∀ g', Ext (fun _ => False) g g' → K (.bool true) g') : ACall prog 21 [] g K := awake_call.mono fun v h' ⟨h1, h2⟩ => by rw [h1]; exact hk _ h2
theorem take80_rng {xs : List Int} (hx : ∀ x ∈ xs, -9223372036854775808 ≤ x ∧ x < 9223372036854775808) : ∀ x ∈ xs.take 80, -9223372036854775808 ≤ x ∧ x < 9223372036854775808 := fun x hm => hx x (List.take_subset _ _ hm)
theorem take80_len (xs : List Int) : (xs.take 80).length < 9223372036854775808 := by simp; omega
theorem codeL_lt (xs : List Int) (k : Nat) : ((codeL (nearL xs k)).map Int.ofNat).length < 9223372036854775808 ∨ True := .inr trivial

theorem s3_callW [Tabs Tryd.prog] {args : List Value} {h : Heap} {Q : Value → Heap → Prop} (hsz : args.length ≤ 102) (hk : AWS Tryd.prog 102 s3 (aPost Tryd.prog [.tmp 6] Q) (argEnv 0 args) h) : ACall Tryd.prog 3 args h Q :=
  acall_w Tryd.func3 rfl (enters_of Tryd.func3 (by kernel_rfl) rfl) rfl rfl (by decide) s3_strip s3_ok hsz hk
theorem law_codes [BitTab prog 0] {h : Heap} {v cv : Value} {xs cs : List Int} (hv : IntSl h v xs) (hl : xs.length < 9223372036854775808) (hx : ∀ x ∈ xs, -9223372036854775808 ≤ x ∧ x < 9223372036854775808) (k : Int) (hc : IntSl h cv cs) (hcl : cs.length < 9223372036854775808)
    (hcx : ∀ x ∈ cs, -9223372036854775808 ≤ x ∧ x < 9223372036854775808) : ACall prog 3 [v, vint k, cv] h fun r _ => r = .bool true := by
  have e22 : ((2 : Int) == 2) = true := rfl
  have e66 : ((6 : Int) == 6) = true := rfl
  have e0 : ((0 : Int) == 0) = true := rfl
  have l0 : ∀ {K : Value → Prop}, lenK (.slice none 0 0) K = K (.int .i64 0) := fun {K} => rfl
  refine s3_callW (by simp) ?_
  simp only [s3]
  refine aws_cut fun N1 hN1 => ?_
  simp (config := {maxSteps := 2000000}) only [s3, ↓aw_region, ↓aw_skip, ↓aw_seq, ↓aw_block, ↓aw_exit, ↓aw_ret, ↓sops_nil, ↓sops_go, ↓dops_nil, ↓dopsX_nil, ↓dopsR_nil, ↓vdn, vup, extr_20, extr_21, extr_30, extr_31, extr_32, List.map_cons, List.map_nil, cond_true, cond_false, aop, aThen, aBlock, argEnv, ev, sput, sputO, binK, binI, unK, builtinK, pickK, Nat.reduceBEq, Nat.reduceAdd, Int.reduceBEq, Int.reduceBNe, Int.reduceLT, aPost, resK, tup, tyf]
  refine hN1 [(0, v), (1, vint k), (2, cv), (6, .bool false)] _ _ ?_ (by simp (config := {maxSteps := 2000000}) only [↓aw_region, ↓aw_skip, ↓aw_seq, ↓aw_block, ↓aw_exit, ↓aw_ret, ↓sops_nil, ↓sops_go, ↓dops_nil, ↓dopsX_nil, ↓dopsR_nil, ↓vdn, vup, extr_20, extr_21, extr_30, extr_31, extr_32, List.map_cons, List.map_nil, cond_true, cond_false, aop, aThen, aBlock, argEnv, ev, sput, sputO, binK, binI, unK, builtinK, pickK, Nat.reduceBEq, Nat.reduceAdd, Int.reduceBEq, Int.reduceBNe, Int.reduceLT, aPost, resK, tup, tyf])
  clear hN1
  try clear N1
  refine aws_cut fun N2 hN2 => ?_
  simp (config := {maxSteps := 2000000}) only [s3, ↓aw_region, ↓aw_skip, ↓aw_seq, ↓aw_block, ↓aw_exit, ↓aw_ret, ↓sops_nil, ↓sops_go, ↓dops_nil, ↓dopsX_nil, ↓dopsR_nil, ↓vdn, vup, extr_20, extr_21, extr_30, extr_31, extr_32, List.map_cons, List.map_nil, cond_true, cond_false, aop, aThen, aBlock, argEnv, ev, sput, sputO, binK, binI, unK, builtinK, pickK, Nat.reduceBEq, Nat.reduceAdd, Int.reduceBEq, Int.reduceBNe, Int.reduceLT, aPost, resK, tup, tyf, callK, List.nil_append, List.append_nil, List.toList_toArray, List.cons_append]
  refine (list_call hv hl).mono ?_
  rintro l1 _ ⟨hl1, g1, rfl⟩
  refine (list_call (hc.grow g1) hcl).mono ?_
  rintro l2 _ ⟨hl2, g2, rfl⟩
  refine (codes_call (k := k) (hl1.grow g2) (take80_len xs) (take80_rng hx) hl2 (take80_len cs) (take80_rng hcx)).mono ?_
  rintro r1 h1 ⟨hE1, rfl⟩
  have hE01 : Ext (fun _ => False) h h1 := ((Ext.app (fun _ => False) h g1).trans (Ext.app _ _ g2)).trans hE1
  rw [codesR_take]
  obtain ⟨b1, e1, hr1, hc1⟩ := codesR_form xs k cs
  rw [hr1]
  simp (config := {maxSteps := 2000000}) only [s3, ↓aw_region, ↓aw_skip, ↓aw_seq, ↓aw_block, ↓aw_exit, ↓aw_ret, ↓sops_nil, ↓sops_go, ↓dops_nil, ↓dopsX_nil, ↓dopsR_nil, ↓vdn, vup, extr_20, extr_21, extr_30, extr_31, extr_32, List.map_cons, List.map_nil, cond_true, cond_false, aop, aThen, aBlock, argEnv, ev, sput, sputO, binK, binI, unK, builtinK, pickK, Nat.reduceBEq, Nat.reduceAdd, Int.reduceBEq, Int.reduceBNe, Int.reduceLT, aPost, resK, tup, tyf]
  refine hN2 [(0, v), (1, vint k), (2, cv), (6, .bool false), (7, .bool b1), (8, .int .i64 e1)] _ _ ?_ (by simp (config := {maxSteps := 2000000}) only [↓aw_region, ↓aw_skip, ↓aw_seq, ↓aw_block, ↓aw_exit, ↓aw_ret, ↓sops_nil, ↓sops_go, ↓dops_nil, ↓dopsX_nil, ↓dopsR_nil, ↓vdn, vup, extr_20, extr_21, extr_30, extr_31, extr_32, List.map_cons, List.map_nil, cond_true, cond_false, aop, aThen, aBlock, argEnv, ev, sput, sputO, binK, binI, unK, builtinK, pickK, Nat.reduceBEq, Nat.reduceAdd, Int.reduceBEq, Int.reduceBNe, Int.reduceLT, aPost, resK, tup, tyf])
  clear hN2
  try clear N2
  clear hl1 hl2
  refine aws_cut fun N3 hN3 => ?_
  simp (config := {maxSteps := 2000000}) only [s3, ↓aw_region, ↓aw_skip, ↓aw_seq, ↓aw_block, ↓aw_exit, ↓aw_ret, ↓sops_nil, ↓sops_go, ↓dops_nil, ↓dopsX_nil, ↓dopsR_nil, ↓vdn, vup, extr_20, extr_21, extr_30, extr_31, extr_32, List.map_cons, List.map_nil, cond_true, cond_false, aop, aThen, aBlock, argEnv, ev, sput, sputO, binK, binI, unK, builtinK, pickK, Nat.reduceBEq, Nat.reduceAdd, Int.reduceBEq, Int.reduceBNe, Int.reduceLT, aPost, resK, tup, tyf, callK, List.nil_append, List.append_nil, List.toList_toArray, List.cons_append]
  refine (list_call (IntSl_ext hv hE01) hl).mono ?_
  rintro l3 _ ⟨hl3, g3, rfl⟩
  refine (code_call (k := k) hl3 (take80_len xs) (take80_rng hx)).mono ?_
  rintro r2 h2 ⟨hE2, hr2⟩
  obtain ⟨w, e2, rfl, hc2⟩ := codeR_form (codeR_take hr2)
  simp (config := {maxSteps := 2000000}) only [s3, ↓aw_region, ↓aw_skip, ↓aw_seq, ↓aw_block, ↓aw_exit, ↓aw_ret, ↓sops_nil, ↓sops_go, ↓dops_nil, ↓dopsX_nil, ↓dopsR_nil, ↓vdn, vup, extr_20, extr_21, extr_30, extr_31, extr_32, List.map_cons, List.map_nil, cond_true, cond_false, aop, aThen, aBlock, argEnv, ev, sput, sputO, binK, binI, unK, builtinK, pickK, Nat.reduceBEq, Nat.reduceAdd, Int.reduceBEq, Int.reduceBNe, Int.reduceLT, aPost, resK, tup, tyf]
  refine hN3 [(0, v), (1, vint k), (2, cv), (6, .bool false), (7, .bool b1), (8, .int .i64 e1), (9, w), (10, .int .i64 e2)] _ _ ?_ (by simp (config := {maxSteps := 2000000}) only [↓aw_region, ↓aw_skip, ↓aw_seq, ↓aw_block, ↓aw_exit, ↓aw_ret, ↓sops_nil, ↓sops_go, ↓dops_nil, ↓dopsX_nil, ↓dopsR_nil, ↓vdn, vup, extr_20, extr_21, extr_30, extr_31, extr_32, List.map_cons, List.map_nil, cond_true, cond_false, aop, aThen, aBlock, argEnv, ev, sput, sputO, binK, binI, unK, builtinK, pickK, Nat.reduceBEq, Nat.reduceAdd, Int.reduceBEq, Int.reduceBNe, Int.reduceLT, aPost, resK, tup, tyf])
  clear hN3
  try clear N3
  have hE02 := hE01.trans ((Ext.app (fun _ => False) h1 g3).trans hE2)
  have hv2 := IntSl_ext hv hE02
  have hcv2 := IntSl_ext hc hE02
  clear hl3 hr2 hE1 hE2 hE01 hE02
  refine aws_cut fun N4 hN4 => ?_
  by_cases hok : Okk xs k
  · have hk1 : ¬ k < 1 := by have := hok.2.1; omega
    have hk3 : ¬ 3 < k := by have := hok.2.2; omega
    have g := grs_iff.1 hok.1
    obtain ⟨n, rfl⟩ : ∃ n : Nat, k = (n : Int) := ⟨k.toNat, by omega⟩
    rw [Int.toNat_natCast] at hc1 hc2
    simp (config := {maxSteps := 2000000}) only [s3, ↓aw_region, ↓aw_skip, ↓aw_seq, ↓aw_block, ↓aw_exit, ↓aw_ret, ↓sops_nil, ↓sops_go, ↓dops_nil, ↓dopsX_nil, ↓dopsR_nil, ↓vdn, vup, extr_20, extr_21, extr_30, extr_31, extr_32, List.map_cons, List.map_nil, cond_true, cond_false, aop, aThen, aBlock, argEnv, ev, sput, sputO, binK, binI, unK, builtinK, pickK, Nat.reduceBEq, Nat.reduceAdd, Int.reduceBEq, Int.reduceBNe, Int.reduceLT, aPost, resK, tup, tyf, callK, List.nil_append, List.append_nil, List.toList_toArray, List.cons_append]
    refine (rgraph_call hv2 hl hx).mono ?_
    rintro _ h2 ⟨rfl, rfl⟩
    simp (config := {maxSteps := 2000000}) only [s3, ↓aw_region, ↓aw_skip, ↓aw_seq, ↓aw_block, ↓aw_exit, ↓aw_ret, ↓sops_nil, ↓sops_go, ↓dops_nil, ↓dopsX_nil, ↓dopsR_nil, ↓vdn, vup, extr_20, extr_21, extr_30, extr_31, extr_32, List.map_cons, List.map_nil, cond_true, cond_false, aop, aThen, aBlock, argEnv, ev, sput, sputO, binK, binI, unK, builtinK, pickK, Nat.reduceBEq, Nat.reduceAdd, Int.reduceBEq, Int.reduceBNe, Int.reduceLT, aPost, resK, tup, tyf, hok.1, Bool.not_true, hk1, gt_iff_lt, hk3]
    refine hN4 [(0, v), (1, vint n), (2, cv), (6, .bool false), (7, .bool b1), (8, .int .i64 e1), (9, w), (10, .int .i64 e2)] _ _ ?_ (by simp (config := {maxSteps := 2000000}) only [↓aw_region, ↓aw_skip, ↓aw_seq, ↓aw_block, ↓aw_exit, ↓aw_ret, ↓sops_nil, ↓sops_go, ↓dops_nil, ↓dopsX_nil, ↓dopsR_nil, ↓vdn, vup, extr_20, extr_21, extr_30, extr_31, extr_32, List.map_cons, List.map_nil, cond_true, cond_false, aop, aThen, aBlock, argEnv, ev, sput, sputO, binK, binI, unK, builtinK, pickK, Nat.reduceBEq, Nat.reduceAdd, Int.reduceBEq, Int.reduceBNe, Int.reduceLT, aPost, resK, tup, tyf])
    clear hN4
    try clear N4
    refine aws_cut fun N5 hN5 => ?_
    simp (config := {maxSteps := 2000000}) only [s3, ↓aw_region, ↓aw_skip, ↓aw_seq, ↓aw_block, ↓aw_exit, ↓aw_ret, ↓sops_nil, ↓sops_go, ↓dops_nil, ↓dopsX_nil, ↓dopsR_nil, ↓vdn, vup, extr_20, extr_21, extr_30, extr_31, extr_32, List.map_cons, List.map_nil, cond_true, cond_false, aop, aThen, aBlock, argEnv, ev, sput, sputO, binK, binI, unK, builtinK, pickK, Nat.reduceBEq, Nat.reduceAdd, Int.reduceBEq, Int.reduceBNe, Int.reduceLT, aPost, resK, tup, tyf, callK, List.nil_append, List.append_nil, List.toList_toArray, List.cons_append]
    refine (rwords_call hv2 g (show n ≤ 6 by omega)).mono ?_
    rintro _ h2 ⟨rfl, rfl⟩
    by_cases hw : wn xs n ≤ 64
    · have hw2 : ¬ (64 : Int) < ((wn xs n : Nat) : Int) := by omega
      obtain ⟨rfl, rfl⟩ : b1 = code xs n cs ∧ e1 = 0 := by
        rcases hc1 with h | h | h
        · exact absurd hok h.1
        · exact absurd hw h.2.1
        · exact h.2.2
      obtain ⟨hown, rfl⟩ : OwnSl 3 h2 w ((codeL (nearL xs n)).map Int.ofNat) ∧ e2 = 0 := by
        rcases hc2 with h | h | h
        · exact absurd hok h.1
        · exact absurd hw h.2.1
        · exact h.2.2
      have hlen : ((codeL (nearL xs n)).map Int.ofNat).length < 9223372036854775808 := by
        have := (cAt_inv (nearL_gr g hw) (nearL xs n).length).2.2
        rw [List.length_map, codeL]
        rw [nearL_len] at this
        rw [nearL_len]; omega
      simp (config := {maxSteps := 2000000}) only [s3, ↓aw_region, ↓aw_skip, ↓aw_seq, ↓aw_block, ↓aw_exit, ↓aw_ret, ↓sops_nil, ↓sops_go, ↓dops_nil, ↓dopsX_nil, ↓dopsR_nil, ↓vdn, vup, extr_20, extr_21, extr_30, extr_31, extr_32, List.map_cons, List.map_nil, cond_true, cond_false, aop, aThen, aBlock, argEnv, ev, sput, sputO, binK, binI, unK, builtinK, pickK, Nat.reduceBEq, Nat.reduceAdd, Int.reduceBEq, Int.reduceBNe, Int.reduceLT, aPost, resK, tup, tyf, gt_iff_lt, hw2]
      refine hN5 [(0, v), (1, vint n), (2, cv), (6, .bool false), (7, .bool (code xs n cs)), (8, .int .i64 0), (9, w), (10, .int .i64 0)] _ _ ?_ (by simp (config := {maxSteps := 2000000}) only [↓aw_region, ↓aw_skip, ↓aw_seq, ↓aw_block, ↓aw_exit, ↓aw_ret, ↓sops_nil, ↓sops_go, ↓dops_nil, ↓dopsX_nil, ↓dopsR_nil, ↓vdn, vup, extr_20, extr_21, extr_30, extr_31, extr_32, List.map_cons, List.map_nil, cond_true, cond_false, aop, aThen, aBlock, argEnv, ev, sput, sputO, binK, binI, unK, builtinK, pickK, Nat.reduceBEq, Nat.reduceAdd, Int.reduceBEq, Int.reduceBNe, Int.reduceLT, aPost, resK, tup, tyf])
      clear hN5
      try clear N5
      refine aw_aws ?_
      have ebb : ∀ b : Bool, (b == b) = true := fun b => beq_self_eq_true b
      simp (config := {maxSteps := 2000000}) only [s3, ↓aw_region, ↓aw_skip, ↓aw_seq, ↓aw_block, ↓aw_exit, ↓aw_ret, ↓sops_nil, ↓sops_go, ↓dops_nil, ↓dopsX_nil, ↓dopsR_nil, ↓vdn, vup, extr_20, extr_21, extr_30, extr_31, extr_32, List.map_cons, List.map_nil, cond_true, cond_false, aop, aThen, aBlock, argEnv, ev, sput, sputO, binK, binI, unK, builtinK, pickK, Nat.reduceBEq, Nat.reduceAdd, Int.reduceBEq, Int.reduceBNe, Int.reduceLT, aPost, resK, tup, tyf, callK, List.nil_append, List.append_nil, List.toList_toArray, List.cons_append]
      refine (rcodes_call hv2 g (show n ≤ 6 by omega) hw hcv2 hcl hcx).mono ?_
      rintro _ h2 ⟨rfl, rfl⟩
      simp (config := {maxSteps := 2000000}) only [s3, ↓aw_region, ↓aw_skip, ↓aw_seq, ↓aw_block, ↓aw_exit, ↓aw_ret, ↓sops_nil, ↓sops_go, ↓dops_nil, ↓dopsX_nil, ↓dopsR_nil, ↓vdn, vup, extr_20, extr_21, extr_30, extr_31, extr_32, List.map_cons, List.map_nil, cond_true, cond_false, aop, aThen, aBlock, argEnv, ev, sput, sputO, binK, binI, unK, builtinK, pickK, Nat.reduceBEq, Nat.reduceAdd, Int.reduceBEq, Int.reduceBNe, Int.reduceLT, aPost, resK, tup, tyf, callK, List.nil_append, List.append_nil, List.toList_toArray, List.cons_append, ebb, e0]
      refine (rcode_call hv2 g (show n ≤ 3 by omega) hw).mono ?_
      rintro r5 h5 ⟨ho5, hE5⟩
      refine (equal_call (IntSl_ext hown.int hE5) ho5.int hlen hlen).mono ?_
      rintro _ h5 ⟨rfl, rfl⟩
      have hd : decide ((codeL (nearL xs n)).map Int.ofNat = (codeL (nearL xs n)).map Int.ofNat) = true := decide_eq_true rfl
      simp (config := {maxSteps := 2000000}) only [s3, ↓aw_region, ↓aw_skip, ↓aw_seq, ↓aw_block, ↓aw_exit, ↓aw_ret, ↓sops_nil, ↓sops_go, ↓dops_nil, ↓dopsX_nil, ↓dopsR_nil, ↓vdn, vup, extr_20, extr_21, extr_30, extr_31, extr_32, List.map_cons, List.map_nil, cond_true, cond_false, aop, aThen, aBlock, argEnv, ev, sput, sputO, binK, binI, unK, builtinK, pickK, Nat.reduceBEq, Nat.reduceAdd, Int.reduceBEq, Int.reduceBNe, Int.reduceLT, aPost, resK, tup, tyf, callK, List.nil_append, List.append_nil, List.toList_toArray, List.cons_append, hd, e0]
      refine awk fun g _ => ?_
      simp (config := {maxSteps := 2000000}) only [s3, ↓aw_region, ↓aw_skip, ↓aw_seq, ↓aw_block, ↓aw_exit, ↓aw_ret, ↓sops_nil, ↓sops_go, ↓dops_nil, ↓dopsX_nil, ↓dopsR_nil, ↓vdn, vup, extr_20, extr_21, extr_30, extr_31, extr_32, List.map_cons, List.map_nil, cond_true, cond_false, aop, aThen, aBlock, argEnv, ev, sput, sputO, binK, binI, unK, builtinK, pickK, Nat.reduceBEq, Nat.reduceAdd, Int.reduceBEq, Int.reduceBNe, Int.reduceLT, aPost, resK, tup, tyf]
    · have hw2 : (64 : Int) < ((wn xs n : Nat) : Int) := by omega
      obtain ⟨rfl, rfl⟩ : b1 = false ∧ e1 = 6 := by
        rcases hc1 with h | h | h
        · exact absurd hok h.1
        · exact h.2.2
        · exact absurd h.2.1 hw
      obtain ⟨rfl, rfl⟩ : w = .slice none 0 0 ∧ e2 = 6 := by
        rcases hc2 with h | h | h
        · exact absurd hok h.1
        · exact h.2.2
        · exact absurd h.2.1 hw
      simp (config := {maxSteps := 2000000}) only [s3, ↓aw_region, ↓aw_skip, ↓aw_seq, ↓aw_block, ↓aw_exit, ↓aw_ret, ↓sops_nil, ↓sops_go, ↓dops_nil, ↓dopsX_nil, ↓dopsR_nil, ↓vdn, vup, extr_20, extr_21, extr_30, extr_31, extr_32, List.map_cons, List.map_nil, cond_true, cond_false, aop, aThen, aBlock, argEnv, ev, sput, sputO, binK, binI, unK, builtinK, pickK, Nat.reduceBEq, Nat.reduceAdd, Int.reduceBEq, Int.reduceBNe, Int.reduceLT, aPost, resK, tup, tyf, callK, List.nil_append, List.append_nil, List.toList_toArray, List.cons_append, gt_iff_lt, hw2, Bool.not_false, l0, e0, e66]
      refine awk fun g _ => ?_
      simp (config := {maxSteps := 2000000}) only [s3, ↓aw_region, ↓aw_skip, ↓aw_seq, ↓aw_block, ↓aw_exit, ↓aw_ret, ↓sops_nil, ↓sops_go, ↓dops_nil, ↓dopsX_nil, ↓dopsR_nil, ↓vdn, vup, extr_20, extr_21, extr_30, extr_31, extr_32, List.map_cons, List.map_nil, cond_true, cond_false, aop, aThen, aBlock, argEnv, ev, sput, sputO, binK, binI, unK, builtinK, pickK, Nat.reduceBEq, Nat.reduceAdd, Int.reduceBEq, Int.reduceBNe, Int.reduceLT, aPost, resK, tup, tyf]
  · obtain ⟨rfl, rfl⟩ : b1 = false ∧ e1 = 2 := by
      rcases hc1 with h | h | h
      · exact h.2
      · exact absurd h.1 hok
      · exact absurd h.1 hok
    obtain ⟨rfl, rfl⟩ : w = .slice none 0 0 ∧ e2 = 2 := by
      rcases hc2 with h | h | h
      · exact h.2
      · exact absurd h.1 hok
      · exact absurd h.1 hok
    simp (config := {maxSteps := 2000000}) only [s3, ↓aw_region, ↓aw_skip, ↓aw_seq, ↓aw_block, ↓aw_exit, ↓aw_ret, ↓sops_nil, ↓sops_go, ↓dops_nil, ↓dopsX_nil, ↓dopsR_nil, ↓vdn, vup, extr_20, extr_21, extr_30, extr_31, extr_32, List.map_cons, List.map_nil, cond_true, cond_false, aop, aThen, aBlock, argEnv, ev, sput, sputO, binK, binI, unK, builtinK, pickK, Nat.reduceBEq, Nat.reduceAdd, Int.reduceBEq, Int.reduceBNe, Int.reduceLT, aPost, resK, tup, tyf, callK, List.nil_append, List.append_nil, List.toList_toArray, List.cons_append]
    refine (rgraph_call hv2 hl hx).mono ?_
    rintro _ h2 ⟨rfl, rfl⟩
    cases hg : grs xs with
    | false =>
      simp (config := {maxSteps := 2000000}) only [s3, ↓aw_region, ↓aw_skip, ↓aw_seq, ↓aw_block, ↓aw_exit, ↓aw_ret, ↓sops_nil, ↓sops_go, ↓dops_nil, ↓dopsX_nil, ↓dopsR_nil, ↓vdn, vup, extr_20, extr_21, extr_30, extr_31, extr_32, List.map_cons, List.map_nil, cond_true, cond_false, aop, aThen, aBlock, argEnv, ev, sput, sputO, binK, binI, unK, builtinK, pickK, Nat.reduceBEq, Nat.reduceAdd, Int.reduceBEq, Int.reduceBNe, Int.reduceLT, aPost, resK, tup, tyf, callK, List.nil_append, List.append_nil, List.toList_toArray, List.cons_append, hg, Bool.not_false, l0, e0, e22]
      refine awk fun g _ => ?_
      simp (config := {maxSteps := 2000000}) only [s3, ↓aw_region, ↓aw_skip, ↓aw_seq, ↓aw_block, ↓aw_exit, ↓aw_ret, ↓sops_nil, ↓sops_go, ↓dops_nil, ↓dopsX_nil, ↓dopsR_nil, ↓vdn, vup, extr_20, extr_21, extr_30, extr_31, extr_32, List.map_cons, List.map_nil, cond_true, cond_false, aop, aThen, aBlock, argEnv, ev, sput, sputO, binK, binI, unK, builtinK, pickK, Nat.reduceBEq, Nat.reduceAdd, Int.reduceBEq, Int.reduceBNe, Int.reduceLT, aPost, resK, tup, tyf]
    | true =>
      by_cases hk1 : k < 1
      · simp (config := {maxSteps := 2000000}) only [s3, ↓aw_region, ↓aw_skip, ↓aw_seq, ↓aw_block, ↓aw_exit, ↓aw_ret, ↓sops_nil, ↓sops_go, ↓dops_nil, ↓dopsX_nil, ↓dopsR_nil, ↓vdn, vup, extr_20, extr_21, extr_30, extr_31, extr_32, List.map_cons, List.map_nil, cond_true, cond_false, aop, aThen, aBlock, argEnv, ev, sput, sputO, binK, binI, unK, builtinK, pickK, Nat.reduceBEq, Nat.reduceAdd, Int.reduceBEq, Int.reduceBNe, Int.reduceLT, aPost, resK, tup, tyf, callK, List.nil_append, List.append_nil, List.toList_toArray, List.cons_append, hg, Bool.not_true, hk1, l0, e0, e22, Bool.not_false]
        refine awk fun g _ => ?_
        simp (config := {maxSteps := 2000000}) only [s3, ↓aw_region, ↓aw_skip, ↓aw_seq, ↓aw_block, ↓aw_exit, ↓aw_ret, ↓sops_nil, ↓sops_go, ↓dops_nil, ↓dopsX_nil, ↓dopsR_nil, ↓vdn, vup, extr_20, extr_21, extr_30, extr_31, extr_32, List.map_cons, List.map_nil, cond_true, cond_false, aop, aThen, aBlock, argEnv, ev, sput, sputO, binK, binI, unK, builtinK, pickK, Nat.reduceBEq, Nat.reduceAdd, Int.reduceBEq, Int.reduceBNe, Int.reduceLT, aPost, resK, tup, tyf]
      · have hk3 : 3 < k := by
          refine Int.not_le.1 fun h => hok ⟨hg, by omega, h⟩
        simp (config := {maxSteps := 2000000}) only [s3, ↓aw_region, ↓aw_skip, ↓aw_seq, ↓aw_block, ↓aw_exit, ↓aw_ret, ↓sops_nil, ↓sops_go, ↓dops_nil, ↓dopsX_nil, ↓dopsR_nil, ↓vdn, vup, extr_20, extr_21, extr_30, extr_31, extr_32, List.map_cons, List.map_nil, cond_true, cond_false, aop, aThen, aBlock, argEnv, ev, sput, sputO, binK, binI, unK, builtinK, pickK, Nat.reduceBEq, Nat.reduceAdd, Int.reduceBEq, Int.reduceBNe, Int.reduceLT, aPost, resK, tup, tyf, callK, List.nil_append, List.append_nil, List.toList_toArray, List.cons_append, hg, Bool.not_true, hk1, gt_iff_lt, hk3, l0, e0, e22, Bool.not_false]
        refine awk fun g _ => ?_
        simp (config := {maxSteps := 2000000}) only [s3, ↓aw_region, ↓aw_skip, ↓aw_seq, ↓aw_block, ↓aw_exit, ↓aw_ret, ↓sops_nil, ↓sops_go, ↓dops_nil, ↓dopsX_nil, ↓dopsR_nil, ↓vdn, vup, extr_20, extr_21, extr_30, extr_31, extr_32, List.map_cons, List.map_nil, cond_true, cond_false, aop, aThen, aBlock, argEnv, ev, sput, sputO, binK, binI, unK, builtinK, pickK, Nat.reduceBEq, Nat.reduceAdd, Int.reduceBEq, Int.reduceBNe, Int.reduceLT, aPost, resK, tup, tyf]
end Go.Proofs.Tryd.Am

/-
  sure: the law SureLonger.
-/
import Derived.Test.YtaagkbbphgdcdaaDoorSuLaw3
import Derived.Test.YtaagkbbphgdcdaaDoorLonger
set_option linter.all false
namespace Go.Proofs.Tryd.Am
open Go.Am Sr
set_option maxRecDepth 100000
set_option maxHeartbeats 1000000

theorem codesR_ok {xs : List Int} {n : Nat} {cs : List Int} (ho : Okk xs (n : Int)) (hw : wn xs n ≤ 64) : codesR xs (n : Int) cs = .tuple #[.bool (code xs n cs), .int .i64 0] := by
  unfold codesR
  rw [if_pos ho, Int.toNat_natCast, if_pos hw]
theorem code_rng {xs : List Int} {n : Nat} {cs : List Int} (hc : code xs n cs = true) (hw : wn xs n ≤ 64) : (∀ i, i < cs.length → ∃ u : Nat, cs.getD i 0 = (u : Int) ∧ u < wn xs n) ∧ cs.length ≤ 64 ∧ ∀ x ∈ cs, -9223372036854775808 ≤ x ∧ x < 9223372036854775808 := by
  have h1 : ∀ i, i < cs.length → ∃ u : Nat, cs.getD i 0 = (u : Int) ∧ u < wn xs n := fun i hi => by
    have := code_iff.1 hc i hi
    exact ⟨(cs.getD i 0).toNat, by omega, by omega⟩
  refine ⟨h1, ?_, fun x hm => ?_⟩
  · have := rise_len (c := cs) (n := wn xs n) fun i hi => by have := code_iff.1 hc i hi; exact ⟨this.1, this.2.1, this.2.2.1⟩
    omega
  · obtain ⟨i, hi, rfl⟩ := List.getElem_of_mem hm
    obtain ⟨u, hu, hu2⟩ := h1 i hi
    rw [List.getD, List.getElem?_eq_getElem hi, Option.getD_some] at hu
    rw [hu]; omega
theorem addN {a b : Nat} (h : a + b < 9223372036854775808) : addV .i64 (a : Int) (b : Int) = ((a + b : Nat) : Int) := by rw [addV_id (by omega) (by omega)]; omega
theorem both_take {xs : List Int} {k : Nat} {a b : List Int} {i : Nat} (hi : i < a.length) : both xs k (a.take (i + 1)) b = both xs k (a.take i) b ++ b.map fun y => a.getD i 0 * wn xs k + y := by
  have e : a.take (i + 1) = a.take i ++ [a.getD i 0] := by
    rw [List.take_succ_eq_append_getElem hi, List.getD, List.getElem?_eq_getElem hi, Option.getD_some]
  rw [e, both, List.flatMap_append, both]; simp
theorem map_take_succ {b : List Int} {f : Int → Int} {t : Nat} (ht : t < b.length) : (b.take (t + 1)).map f = (b.take t).map f ++ [f (b.getD t 0)] := by
  rw [List.take_succ_eq_append_getElem ht, List.map_append, List.getD, List.getElem?_eq_getElem ht, Option.getD_some]; rfl

theorem s4_callW [Tabs Tryd.prog] {args : List Value} {h : Heap} {Q : Value → Heap → Prop} (hsz : args.length ≤ 192) (hk : AWS Tryd.prog 192 s4 (aPost Tryd.prog [.tmp 8] Q) (argEnv 0 args) h) : ACall Tryd.prog 4 args h Q :=
  acall_w Tryd.func4 rfl (enters_of Tryd.func4 (by kernel_rfl) rfl) rfl rfl (by decide) s4_strip s4_ok hsz hk
theorem law_longer [BitTab prog 0] {h : Heap} {v cv : Value} {xs cs : List Int} (hv : IntSl h v xs) (hl : xs.length < 9223372036854775808) (hx : ∀ x ∈ xs, -9223372036854775808 ≤ x ∧ x < 9223372036854775808) (j k : Int) (hc : IntSl h cv cs) (hcl : cs.length < 9223372036854775808)
    (hcx : ∀ x ∈ cs, -9223372036854775808 ≤ x ∧ x < 9223372036854775808) : ACall prog 4 [v, vint j, vint k, cv] h fun r _ => r = .bool true := by
  have e0 : ((0 : Int) == 0) = true := rfl
  refine s4_callW (by simp) ?_
  simp only [s4]
  refine aws_cut fun N1 hN1 => ?_
  simp (config := {maxSteps := 2000000}) only [s4, ↓aw_region, ↓aw_skip, ↓aw_seq, ↓aw_block, ↓aw_exit, ↓aw_ret, ↓sops_nil, ↓sops_go, ↓dops_nil, ↓dopsX_nil, ↓dopsR_nil, ↓vdn, vup, extr_20, extr_21, extr_30, extr_31, extr_32, List.map_cons, List.map_nil, cond_true, cond_false, aop, aThen, aBlock, argEnv, ev, sput, sputO, binK, binI, unK, builtinK, pickK, Nat.reduceBEq, Nat.reduceAdd, Int.reduceBEq, Int.reduceBNe, Int.reduceLT, aPost, resK, tup, tyf]
  refine hN1 [(0, v), (1, vint j), (2, vint k), (3, cv), (8, .bool false)] _ _ ?_ (by simp (config := {maxSteps := 2000000}) only [↓aw_region, ↓aw_skip, ↓aw_seq, ↓aw_block, ↓aw_exit, ↓aw_ret, ↓sops_nil, ↓sops_go, ↓dops_nil, ↓dopsX_nil, ↓dopsR_nil, ↓vdn, vup, extr_20, extr_21, extr_30, extr_31, extr_32, List.map_cons, List.map_nil, cond_true, cond_false, aop, aThen, aBlock, argEnv, ev, sput, sputO, binK, binI, unK, builtinK, pickK, Nat.reduceBEq, Nat.reduceAdd, Int.reduceBEq, Int.reduceBNe, Int.reduceLT, aPost, resK, tup, tyf])
  clear hN1
  try clear N1
  refine aws_cut fun N2 hN2 => ?_
  simp (config := {maxSteps := 2000000}) only [s4, ↓aw_region, ↓aw_skip, ↓aw_seq, ↓aw_block, ↓aw_exit, ↓aw_ret, ↓sops_nil, ↓sops_go, ↓dops_nil, ↓dopsX_nil, ↓dopsR_nil, ↓vdn, vup, extr_20, extr_21, extr_30, extr_31, extr_32, List.map_cons, List.map_nil, cond_true, cond_false, aop, aThen, aBlock, argEnv, ev, sput, sputO, binK, binI, unK, builtinK, pickK, Nat.reduceBEq, Nat.reduceAdd, Int.reduceBEq, Int.reduceBNe, Int.reduceLT, aPost, resK, tup, tyf, callK, List.nil_append, List.append_nil, List.toList_toArray, List.cons_append]
  refine (list_call hv hl).mono ?_
  rintro l1 _ ⟨hl1, g1, rfl⟩
  refine (code_call (k := j) hl1 (take80_len xs) (take80_rng hx)).mono ?_
  rintro r1 h1 ⟨hE1, hr1⟩
  obtain ⟨w1, e1, rfl, hc1⟩ := codeR_form (codeR_take hr1)
  simp (config := {maxSteps := 2000000}) only [s4, ↓aw_region, ↓aw_skip, ↓aw_seq, ↓aw_block, ↓aw_exit, ↓aw_ret, ↓sops_nil, ↓sops_go, ↓dops_nil, ↓dopsX_nil, ↓dopsR_nil, ↓vdn, vup, extr_20, extr_21, extr_30, extr_31, extr_32, List.map_cons, List.map_nil, cond_true, cond_false, aop, aThen, aBlock, argEnv, ev, sput, sputO, binK, binI, unK, builtinK, pickK, Nat.reduceBEq, Nat.reduceAdd, Int.reduceBEq, Int.reduceBNe, Int.reduceLT, aPost, resK, tup, tyf]
  refine hN2 [(0, v), (1, vint j), (2, vint k), (3, cv), (8, .bool false), (9, w1), (10, .int .i64 e1)] _ _ ?_ (by simp (config := {maxSteps := 2000000}) only [↓aw_region, ↓aw_skip, ↓aw_seq, ↓aw_block, ↓aw_exit, ↓aw_ret, ↓sops_nil, ↓sops_go, ↓dops_nil, ↓dopsX_nil, ↓dopsR_nil, ↓vdn, vup, extr_20, extr_21, extr_30, extr_31, extr_32, List.map_cons, List.map_nil, cond_true, cond_false, aop, aThen, aBlock, argEnv, ev, sput, sputO, binK, binI, unK, builtinK, pickK, Nat.reduceBEq, Nat.reduceAdd, Int.reduceBEq, Int.reduceBNe, Int.reduceLT, aPost, resK, tup, tyf])
  clear hN2
  try clear N2
  have hE01 := (Ext.app (fun _ => False) h g1).trans hE1
  refine aws_cut fun N3 hN3 => ?_
  simp (config := {maxSteps := 2000000}) only [s4, ↓aw_region, ↓aw_skip, ↓aw_seq, ↓aw_block, ↓aw_exit, ↓aw_ret, ↓sops_nil, ↓sops_go, ↓dops_nil, ↓dopsX_nil, ↓dopsR_nil, ↓vdn, vup, extr_20, extr_21, extr_30, extr_31, extr_32, List.map_cons, List.map_nil, cond_true, cond_false, aop, aThen, aBlock, argEnv, ev, sput, sputO, binK, binI, unK, builtinK, pickK, Nat.reduceBEq, Nat.reduceAdd, Int.reduceBEq, Int.reduceBNe, Int.reduceLT, aPost, resK, tup, tyf, callK, List.nil_append, List.append_nil, List.toList_toArray, List.cons_append]
  refine (list_call (IntSl_ext hv hE01) hl).mono ?_
  rintro l2 _ ⟨hl2, g2, rfl⟩
  refine (code_call (k := k) hl2 (take80_len xs) (take80_rng hx)).mono ?_
  rintro r2 h2 ⟨hE2, hr2⟩
  obtain ⟨w2, e2, rfl, hc2⟩ := codeR_form (codeR_take hr2)
  simp (config := {maxSteps := 2000000}) only [s4, ↓aw_region, ↓aw_skip, ↓aw_seq, ↓aw_block, ↓aw_exit, ↓aw_ret, ↓sops_nil, ↓sops_go, ↓dops_nil, ↓dopsX_nil, ↓dopsR_nil, ↓vdn, vup, extr_20, extr_21, extr_30, extr_31, extr_32, List.map_cons, List.map_nil, cond_true, cond_false, aop, aThen, aBlock, argEnv, ev, sput, sputO, binK, binI, unK, builtinK, pickK, Nat.reduceBEq, Nat.reduceAdd, Int.reduceBEq, Int.reduceBNe, Int.reduceLT, aPost, resK, tup, tyf]
  refine hN3 [(0, v), (1, vint j), (2, vint k), (3, cv), (8, .bool false), (9, w1), (10, .int .i64 e1), (11, w2), (12, .int .i64 e2)] _ _ ?_ (by simp (config := {maxSteps := 2000000}) only [↓aw_region, ↓aw_skip, ↓aw_seq, ↓aw_block, ↓aw_exit, ↓aw_ret, ↓sops_nil, ↓sops_go, ↓dops_nil, ↓dopsX_nil, ↓dopsR_nil, ↓vdn, vup, extr_20, extr_21, extr_30, extr_31, extr_32, List.map_cons, List.map_nil, cond_true, cond_false, aop, aThen, aBlock, argEnv, ev, sput, sputO, binK, binI, unK, builtinK, pickK, Nat.reduceBEq, Nat.reduceAdd, Int.reduceBEq, Int.reduceBNe, Int.reduceLT, aPost, resK, tup, tyf])
  clear hN3
  try clear N3
  have hE12 := (Ext.app (fun _ => False) h1 g2).trans hE2
  have hE02 := hE01.trans hE12
  have hv2 := IntSl_ext hv hE02
  have hcv2 := IntSl_ext hc hE02
  clear hl1 hl2 hr1 hr2 hE1 hE2 hE01 hE02
  have he1 : e1 = 2 ∨ e1 = 6 ∨ (e1 = 0 ∧ Okk xs j ∧ wn xs j.toNat ≤ 64) := by
    rcases hc1 with h | h | h
    · exact .inl h.2.2
    · exact .inr (.inl h.2.2.2)
    · exact .inr (.inr ⟨h.2.2.2, h.1, h.2.1⟩)
  have he2 : e2 = 2 ∨ e2 = 6 ∨ (e2 = 0 ∧ Okk xs k ∧ wn xs k.toNat ≤ 64) := by
    rcases hc2 with h | h | h
    · exact .inl h.2.2
    · exact .inr (.inl h.2.2.2)
    · exact .inr (.inr ⟨h.2.2.2, h.1, h.2.1⟩)
  by_cases hok : (Okk xs j ∧ wn xs j.toNat ≤ 64) ∧ Okk xs k ∧ wn xs k.toNat ≤ 64
  · clear he1 he2
    obtain ⟨⟨ok1, hw1⟩, ok2, hw2⟩ := hok
    have g := grs_iff.1 ok1.1
    obtain ⟨n1, rfl⟩ : ∃ n : Nat, j = (n : Int) := ⟨j.toNat, by have := ok1.2.1; omega⟩
    obtain ⟨n2, rfl⟩ : ∃ n : Nat, k = (n : Int) := ⟨k.toNat, by have := ok2.2.1; omega⟩
    rw [Int.toNat_natCast] at hc1 hw1 hc2 hw2
    have i1 := ok1.2.1
    have i2 := ok1.2.2
    have i3 := ok2.2.1
    have i4 := ok2.2.2
    obtain ⟨ho1, rfl⟩ : OwnSl 3 h1 w1 ((codeL (nearL xs n1)).map Int.ofNat) ∧ e1 = 0 := by
      rcases hc1 with h | h | h
      · exact absurd ok1 h.1
      · exact absurd hw1 h.2.1
      · exact h.2.2
    obtain ⟨ho2, rfl⟩ : OwnSl 3 h2 w2 ((codeL (nearL xs n2)).map Int.ofNat) ∧ e2 = 0 := by
      rcases hc2 with h | h | h
      · exact absurd ok2 h.1
      · exact absurd hw2 h.2.1
      · exact h.2.2
    clear hc1 hc2
    have hAm : ∀ {c : List Int}, code xs n1 c = true → c.length ≤ ((codeL (nearL xs n1)).map Int.ofNat).length := fun {c} h => by rw [List.length_map]; exact code_max g hw1 h
    have hAc := codeL_code g hw1
    have hBc := codeL_code g hw2
    generalize (codeL (nearL xs n1)).map Int.ofNat = A at ho1 hAm hAc
    generalize (codeL (nearL xs n2)).map Int.ofNat = B at ho2 hBc
    obtain ⟨hA0, hA1, hAx⟩ := code_rng hAc hw1
    obtain ⟨hB0, hB1, hBx⟩ := code_rng hBc hw2
    have hA2 := IntSl_ext ho1.int hE12
    have hB2 := ho2.int
    clear hE12 ho1 ho2
    have hj1 : ¬ (n1 : Int) < 1 := by omega
    have hk1 : ¬ (n2 : Int) < 1 := by omega
    have hj3 : ¬ 3 < (n1 : Int) := by omega
    have hk3 : ¬ 3 < (n2 : Int) := by omega
    refine aws_cut fun N4 hN4 => ?_
    simp (config := {maxSteps := 2000000}) only [s4, ↓aw_region, ↓aw_skip, ↓aw_seq, ↓aw_block, ↓aw_exit, ↓aw_ret, ↓sops_nil, ↓sops_go, ↓dops_nil, ↓dopsX_nil, ↓dopsR_nil, ↓vdn, vup, extr_20, extr_21, extr_30, extr_31, extr_32, List.map_cons, List.map_nil, cond_true, cond_false, aop, aThen, aBlock, argEnv, ev, sput, sputO, binK, binI, unK, builtinK, pickK, Nat.reduceBEq, Nat.reduceAdd, Int.reduceBEq, Int.reduceBNe, Int.reduceLT, aPost, resK, tup, tyf, callK, List.nil_append, List.append_nil, List.toList_toArray, List.cons_append]
    refine (rgraph_call hv2 hl hx).mono ?_
    rintro _ h2 ⟨rfl, rfl⟩
    simp (config := {maxSteps := 2000000}) only [s4, ↓aw_region, ↓aw_skip, ↓aw_seq, ↓aw_block, ↓aw_exit, ↓aw_ret, ↓sops_nil, ↓sops_go, ↓dops_nil, ↓dopsX_nil, ↓dopsR_nil, ↓vdn, vup, extr_20, extr_21, extr_30, extr_31, extr_32, List.map_cons, List.map_nil, cond_true, cond_false, aop, aThen, aBlock, argEnv, ev, sput, sputO, binK, binI, unK, builtinK, pickK, Nat.reduceBEq, Nat.reduceAdd, Int.reduceBEq, Int.reduceBNe, Int.reduceLT, aPost, resK, tup, tyf, ok1.1, Bool.not_true, hj1, hk1, gt_iff_lt, hj3, hk3]
    refine hN4 [(0, v), (1, vint n1), (2, vint n2), (3, cv), (8, .bool false), (9, w1), (11, w2)] _ _ ?_ (by simp (config := {maxSteps := 2000000}) only [↓aw_region, ↓aw_skip, ↓aw_seq, ↓aw_block, ↓aw_exit, ↓aw_ret, ↓sops_nil, ↓sops_go, ↓dops_nil, ↓dopsX_nil, ↓dopsR_nil, ↓vdn, vup, extr_20, extr_21, extr_30, extr_31, extr_32, List.map_cons, List.map_nil, cond_true, cond_false, aop, aThen, aBlock, argEnv, ev, sput, sputO, binK, binI, unK, builtinK, pickK, Nat.reduceBEq, Nat.reduceAdd, Int.reduceBEq, Int.reduceBNe, Int.reduceLT, aPost, resK, tup, tyf])
    clear hN4
    try clear N4
    refine aws_cut fun N5 hN5 => ?_
    simp (config := {maxSteps := 2000000}) only [s4, ↓aw_region, ↓aw_skip, ↓aw_seq, ↓aw_block, ↓aw_exit, ↓aw_ret, ↓sops_nil, ↓sops_go, ↓dops_nil, ↓dopsX_nil, ↓dopsR_nil, ↓vdn, vup, extr_20, extr_21, extr_30, extr_31, extr_32, List.map_cons, List.map_nil, cond_true, cond_false, aop, aThen, aBlock, argEnv, ev, sput, sputO, binK, binI, unK, builtinK, pickK, Nat.reduceBEq, Nat.reduceAdd, Int.reduceBEq, Int.reduceBNe, Int.reduceLT, aPost, resK, tup, tyf, callK, List.nil_append, List.append_nil, List.toList_toArray, List.cons_append]
    refine (list_call hv2 hl).mono ?_
    rintro l3 _ ⟨hl3, g3, rfl⟩
    rw [grs_same ok1.1] at hl3
    refine (clone_call (hA2.grow g3) (by omega)).mono ?_
    rintro l4 _ ⟨hl4, g4, rfl⟩
    refine (codes_call (k := (n1 : Int)) (hl3.grow g4) hl hx hl4 (by omega) hAx).mono ?_
    rintro r3 h3 ⟨hE3, rfl⟩
    rw [codesR_ok ok1 hw1, hAc]
    simp (config := {maxSteps := 2000000}) only [s4, ↓aw_region, ↓aw_skip, ↓aw_seq, ↓aw_block, ↓aw_exit, ↓aw_ret, ↓sops_nil, ↓sops_go, ↓dops_nil, ↓dopsX_nil, ↓dopsR_nil, ↓vdn, vup, extr_20, extr_21, extr_30, extr_31, extr_32, List.map_cons, List.map_nil, cond_true, cond_false, aop, aThen, aBlock, argEnv, ev, sput, sputO, binK, binI, unK, builtinK, pickK, Nat.reduceBEq, Nat.reduceAdd, Int.reduceBEq, Int.reduceBNe, Int.reduceLT, aPost, resK, tup, tyf, Bool.not_true]
    refine hN5 [(0, v), (1, vint n1), (2, vint n2), (3, cv), (8, .bool false), (9, w1), (11, w2)] _ _ ?_ (by simp (config := {maxSteps := 2000000}) only [↓aw_region, ↓aw_skip, ↓aw_seq, ↓aw_block, ↓aw_exit, ↓aw_ret, ↓sops_nil, ↓sops_go, ↓dops_nil, ↓dopsX_nil, ↓dopsR_nil, ↓vdn, vup, extr_20, extr_21, extr_30, extr_31, extr_32, List.map_cons, List.map_nil, cond_true, cond_false, aop, aThen, aBlock, argEnv, ev, sput, sputO, binK, binI, unK, builtinK, pickK, Nat.reduceBEq, Nat.reduceAdd, Int.reduceBEq, Int.reduceBNe, Int.reduceLT, aPost, resK, tup, tyf])
    clear hN5
    try clear N5
    have hE23 := ((Ext.app (fun _ => False) h2 g3).trans (Ext.app _ _ g4)).trans hE3
    have hv3 := IntSl_ext hv2 hE23
    have hc3 := IntSl_ext hcv2 hE23
    have hA3 := IntSl_ext hA2 hE23
    have hB3 := IntSl_ext hB2 hE23
    clear hl3 hl4 hE3 hE23 hv2 hcv2 hA2 hB2
    refine aws_cut fun N6 hN6 => ?_
    simp (config := {maxSteps := 2000000}) only [s4, ↓aw_region, ↓aw_skip, ↓aw_seq, ↓aw_block, ↓aw_exit, ↓aw_ret, ↓sops_nil, ↓sops_go, ↓dops_nil, ↓dopsX_nil, ↓dopsR_nil, ↓vdn, vup, extr_20, extr_21, extr_30, extr_31, extr_32, List.map_cons, List.map_nil, cond_true, cond_false, aop, aThen, aBlock, argEnv, ev, sput, sputO, binK, binI, unK, builtinK, pickK, Nat.reduceBEq, Nat.reduceAdd, Int.reduceBEq, Int.reduceBNe, Int.reduceLT, aPost, resK, tup, tyf, callK, List.nil_append, List.append_nil, List.toList_toArray, List.cons_append]
    refine (list_call hv3 hl).mono ?_
    rintro l5 _ ⟨hl5, g5, rfl⟩
    refine (list_call (hc3.grow g5) hcl).mono ?_
    rintro l6 _ ⟨hl6, g6, rfl⟩
    refine (codes_call (k := (n1 : Int)) (hl5.grow g6) (take80_len xs) (take80_rng hx) hl6 (take80_len cs) (take80_rng hcx)).mono ?_
    rintro r4 h4 ⟨hE4, rfl⟩
    rw [codesR_take, codesR_ok ok1 hw1]
    have hE34 := ((Ext.app (fun _ => False) h3 g5).trans (Ext.app _ _ g6)).trans hE4
    have hv4 := IntSl_ext hv3 hE34
    have hc4 := IntSl_ext hc3 hE34
    have hA4 := IntSl_ext hA3 hE34
    have hB4 := IntSl_ext hB3 hE34
    clear hl5 hl6 hE4 hE34 hv3 hc3 hA3 hB3
    have go : ∀ e, ELe e [(0, v), (1, vint n1), (2, vint n2), (3, cv), (8, .bool false), (9, w1), (11, w2)] → N6 e h4 := by
      intro e he
      refine hN6 [(0, v), (1, vint n1), (2, vint n2), (3, cv), (8, .bool false), (9, w1), (11, w2)] _ _ ?_ he
      clear he e
      have hadd : addV .i64 (n1 : Int) (n2 : Int) = ((n1 + n2 : Nat) : Int) := addN (by omega)
      refine aws_cut fun N7 hN7 => ?_
      simp (config := {maxSteps := 2000000}) only [s4, ↓aw_region, ↓aw_skip, ↓aw_seq, ↓aw_block, ↓aw_exit, ↓aw_ret, ↓sops_nil, ↓sops_go, ↓dops_nil, ↓dopsX_nil, ↓dopsR_nil, ↓vdn, vup, extr_20, extr_21, extr_30, extr_31, extr_32, List.map_cons, List.map_nil, cond_true, cond_false, aop, aThen, aBlock, argEnv, ev, sput, sputO, binK, binI, unK, builtinK, pickK, Nat.reduceBEq, Nat.reduceAdd, Int.reduceBEq, Int.reduceBNe, Int.reduceLT, aPost, resK, tup, tyf, callK, List.nil_append, List.append_nil, List.toList_toArray, List.cons_append, hadd]
      refine (list_call hv4 hl).mono ?_
      rintro l7 _ ⟨hl7, g7, rfl⟩
      refine (code_call (k := ((n1 + n2 : Nat) : Int)) hl7 (take80_len xs) (take80_rng hx)).mono ?_
      rintro r5 h5 ⟨hE5, hr5⟩
      obtain ⟨w3, e3, rfl, hc5⟩ := codeR_form (codeR_take hr5)
      rw [Int.toNat_natCast] at hc5
      simp (config := {maxSteps := 2000000}) only [s4, ↓aw_region, ↓aw_skip, ↓aw_seq, ↓aw_block, ↓aw_exit, ↓aw_ret, ↓sops_nil, ↓sops_go, ↓dops_nil, ↓dopsX_nil, ↓dopsR_nil, ↓vdn, vup, extr_20, extr_21, extr_30, extr_31, extr_32, List.map_cons, List.map_nil, cond_true, cond_false, aop, aThen, aBlock, argEnv, ev, sput, sputO, binK, binI, unK, builtinK, pickK, Nat.reduceBEq, Nat.reduceAdd, Int.reduceBEq, Int.reduceBNe, Int.reduceLT, aPost, resK, tup, tyf]
      refine hN7 [(0, v), (1, vint n1), (2, vint n2), (3, cv), (8, .bool false), (9, w1), (11, w2), (17, w3), (18, .int .i64 e3)] _ _ ?_ (by simp (config := {maxSteps := 2000000}) only [↓aw_region, ↓aw_skip, ↓aw_seq, ↓aw_block, ↓aw_exit, ↓aw_ret, ↓sops_nil, ↓sops_go, ↓dops_nil, ↓dopsX_nil, ↓dopsR_nil, ↓vdn, vup, extr_20, extr_21, extr_30, extr_31, extr_32, List.map_cons, List.map_nil, cond_true, cond_false, aop, aThen, aBlock, argEnv, ev, sput, sputO, binK, binI, unK, builtinK, pickK, Nat.reduceBEq, Nat.reduceAdd, Int.reduceBEq, Int.reduceBNe, Int.reduceLT, aPost, resK, tup, tyf])
      clear hN7
      try clear N7
      by_cases hok3 : Okk xs ((n1 + n2 : Nat) : Int) ∧ wn xs (n1 + n2) ≤ 64
      · obtain ⟨ok3, hw3⟩ := hok3
        obtain ⟨ho5, rfl⟩ : OwnSl 3 h5 w3 ((codeL (nearL xs (n1 + n2))).map Int.ofNat) ∧ e3 = 0 := by
          rcases hc5 with h | h | h
          · exact absurd ok3 h.1
          · exact absurd hw3 h.2.1
          · exact h.2.2
        clear hc5
        have hE45 := (Ext.app (fun _ => False) h4 g7).trans hE5
        have hv5 := IntSl_ext hv4 hE45
        have hA5 := IntSl_ext hA4 hE45
        have hB5 := IntSl_ext hB4 hE45
        clear hl7 hr5 hE5 hE45 hv4 hc4 hA4 hB4
        refine aws_cut fun N8 hN8 => ?_
        simp (config := {maxSteps := 2000000}) only [s4, ↓aw_region, ↓aw_skip, ↓aw_seq, ↓aw_block, ↓aw_exit, ↓aw_ret, ↓sops_nil, ↓sops_go, ↓dops_nil, ↓dopsX_nil, ↓dopsR_nil, ↓vdn, vup, extr_20, extr_21, extr_30, extr_31, extr_32, List.map_cons, List.map_nil, cond_true, cond_false, aop, aThen, aBlock, argEnv, ev, sput, sputO, binK, binI, unK, builtinK, pickK, Nat.reduceBEq, Nat.reduceAdd, Int.reduceBEq, Int.reduceBNe, Int.reduceLT, aPost, resK, tup, tyf]
        refine hN8 [(0, v), (1, vint n1), (2, vint n2), (3, cv), (8, .bool false), (9, w1), (11, w2), (17, w3)] _ _ ?_ (by simp (config := {maxSteps := 2000000}) only [↓aw_region, ↓aw_skip, ↓aw_seq, ↓aw_block, ↓aw_exit, ↓aw_ret, ↓sops_nil, ↓sops_go, ↓dops_nil, ↓dopsX_nil, ↓dopsR_nil, ↓vdn, vup, extr_20, extr_21, extr_30, extr_31, extr_32, List.map_cons, List.map_nil, cond_true, cond_false, aop, aThen, aBlock, argEnv, ev, sput, sputO, binK, binI, unK, builtinK, pickK, Nat.reduceBEq, Nat.reduceAdd, Int.reduceBEq, Int.reduceBNe, Int.reduceLT, aPost, resK, tup, tyf])
        clear hN8
        try clear N8
        refine aws_cut fun N9 hN9 => ?_
        simp (config := {maxSteps := 2000000}) only [s4, ↓aw_region, ↓aw_skip, ↓aw_seq, ↓aw_block, ↓aw_exit, ↓aw_ret, ↓sops_nil, ↓sops_go, ↓dops_nil, ↓dopsX_nil, ↓dopsR_nil, ↓vdn, vup, extr_20, extr_21, extr_30, extr_31, extr_32, List.map_cons, List.map_nil, cond_true, cond_false, aop, aThen, aBlock, argEnv, ev, sput, sputO, binK, binI, unK, builtinK, pickK, Nat.reduceBEq, Nat.reduceAdd, Int.reduceBEq, Int.reduceBNe, Int.reduceLT, aPost, resK, tup, tyf]
        refine hN9 [(0, v), (1, vint n1), (2, vint n2), (3, cv), (8, .bool false), (9, w1), (11, w2), (17, w3), (19, .slice none 0 0)] _ _ ?_ (by simp (config := {maxSteps := 2000000}) only [↓aw_region, ↓aw_skip, ↓aw_seq, ↓aw_block, ↓aw_exit, ↓aw_ret, ↓sops_nil, ↓sops_go, ↓dops_nil, ↓dopsX_nil, ↓dopsR_nil, ↓vdn, vup, extr_20, extr_21, extr_30, extr_31, extr_32, List.map_cons, List.map_nil, cond_true, cond_false, aop, aThen, aBlock, argEnv, ev, sput, sputO, binK, binI, unK, builtinK, pickK, Nat.reduceBEq, Nat.reduceAdd, Int.reduceBEq, Int.reduceBNe, Int.reduceLT, aPost, resK, tup, tyf])
        clear hN9
        try clear N9
        refine aws_cut fun N10 hN10 => ?_
        simp (config := {maxSteps := 2000000}) only [s4, ↓aw_region, ↓aw_skip, ↓aw_seq, ↓aw_block, ↓aw_exit, ↓aw_ret, ↓sops_nil, ↓sops_go, ↓dops_nil, ↓dopsX_nil, ↓dopsR_nil, ↓vdn, vup, extr_20, extr_21, extr_30, extr_31, extr_32, List.map_cons, List.map_nil, cond_true, cond_false, aop, aThen, aBlock, argEnv, ev, sput, sputO, binK, binI, unK, builtinK, pickK, Nat.reduceBEq, Nat.reduceAdd, Int.reduceBEq, Int.reduceBNe, Int.reduceLT, aPost, resK, tup, tyf, hA5.len, ↓aw_loop_eq]
        refine aws_hide fun Q hQ => ?_
        refine aw_loopW (γ := Nat × Value × Heap) (fun s => s.1 ≤ A.length ∧ RSI h5 s.2.2 s.2.1 (both xs n2 (A.take s.1) B))
          (fun s => ([(0, v), (1, vint n1), (2, vint n2), (3, cv), (8, .bool false), (9, w1), (11, w2), (17, w3), (19, s.2.1), (140, w1), (141, vint A.length), (142, vint s.1)], s.2.2)) (fun s => A.length - s.1) (0, .slice none 0 0, h5) ⟨Nat.zero_le _, RSI.nil h5⟩ (by simp (config := {maxSteps := 2000000}) only [↓aw_region, ↓aw_skip, ↓aw_seq, ↓aw_block, ↓aw_exit, ↓aw_ret, ↓sops_nil, ↓sops_go, ↓dops_nil, ↓dopsX_nil, ↓dopsR_nil, ↓vdn, vup, extr_20, extr_21, extr_30, extr_31, extr_32, List.map_cons, List.map_nil, cond_true, cond_false, aop, aThen, aBlock, argEnv, ev, sput, sputO, binK, binI, unK, builtinK, pickK, Nat.reduceBEq, Nat.reduceAdd, Int.reduceBEq, Int.reduceBNe, Int.reduceLT, aPost, resK, tup, tyf, Int.natCast_zero]) rfl ?_
        rintro ⟨i, ov, hp⟩ ⟨hi, hs⟩
        simp only at hi hs
        refine aws_hide fun Q2 hQ2 => ?_
        simp only [l4_1]
        by_cases hin : (i : Int) < A.length
        · have hi' : i < A.length := by omega
          obtain ⟨x, hx', hxw⟩ := hA0 i hi'
          have hA6 := IntSl_ext hA5 hs.2.1
          have hB6 := IntSl_ext hB5 hs.2.1
          refine aws_cut fun N11 hN11 => ?_
          simp (config := {maxSteps := 2000000}) only [s4, ↓aw_region, ↓aw_skip, ↓aw_seq, ↓aw_block, ↓aw_exit, ↓aw_ret, ↓sops_nil, ↓sops_go, ↓dops_nil, ↓dopsX_nil, ↓dopsR_nil, ↓vdn, vup, extr_20, extr_21, extr_30, extr_31, extr_32, List.map_cons, List.map_nil, cond_true, cond_false, aop, aThen, aBlock, argEnv, ev, sput, sputO, binK, binI, unK, builtinK, pickK, Nat.reduceBEq, Nat.reduceAdd, Int.reduceBEq, Int.reduceBNe, Int.reduceLT, aPost, resK, tup, tyf, hin]
          refine hN11 [(0, v), (1, vint n1), (2, vint n2), (3, cv), (8, .bool false), (9, w1), (11, w2), (17, w3), (19, ov), (140, w1), (141, vint A.length), (142, vint i), (143, .bool true)] _ _ ?_ (by simp (config := {maxSteps := 2000000}) only [↓aw_region, ↓aw_skip, ↓aw_seq, ↓aw_block, ↓aw_exit, ↓aw_ret, ↓sops_nil, ↓sops_go, ↓dops_nil, ↓dopsX_nil, ↓dopsR_nil, ↓vdn, vup, extr_20, extr_21, extr_30, extr_31, extr_32, List.map_cons, List.map_nil, cond_true, cond_false, aop, aThen, aBlock, argEnv, ev, sput, sputO, binK, binI, unK, builtinK, pickK, Nat.reduceBEq, Nat.reduceAdd, Int.reduceBEq, Int.reduceBNe, Int.reduceLT, aPost, resK, tup, tyf])
          clear hN11
          try clear N11
          refine aws_cut fun N12 hN12 => ?_
          simp (config := {maxSteps := 2000000}) only [s4, ↓aw_region, ↓aw_skip, ↓aw_seq, ↓aw_block, ↓aw_exit, ↓aw_ret, ↓sops_nil, ↓sops_go, ↓dops_nil, ↓dopsX_nil, ↓dopsR_nil, ↓vdn, vup, extr_20, extr_21, extr_30, extr_31, extr_32, List.map_cons, List.map_nil, cond_true, cond_false, aop, aThen, aBlock, argEnv, ev, sput, sputO, binK, binI, unK, builtinK, pickK, Nat.reduceBEq, Nat.reduceAdd, Int.reduceBEq, Int.reduceBNe, Int.reduceLT, aPost, resK, tup, tyf]
          refine hN12 [(0, v), (1, vint n1), (2, vint n2), (3, cv), (8, .bool false), (9, w1), (11, w2), (17, w3), (19, ov), (140, w1), (141, vint A.length), (142, vint i)] _ _ ?_ (by simp (config := {maxSteps := 2000000}) only [↓aw_region, ↓aw_skip, ↓aw_seq, ↓aw_block, ↓aw_exit, ↓aw_ret, ↓sops_nil, ↓sops_go, ↓dops_nil, ↓dopsX_nil, ↓dopsR_nil, ↓vdn, vup, extr_20, extr_21, extr_30, extr_31, extr_32, List.map_cons, List.map_nil, cond_true, cond_false, aop, aThen, aBlock, argEnv, ev, sput, sputO, binK, binI, unK, builtinK, pickK, Nat.reduceBEq, Nat.reduceAdd, Int.reduceBEq, Int.reduceBNe, Int.reduceLT, aPost, resK, tup, tyf])
          clear hN12
          try clear N12
          refine aws_cutW fun M hM => ?_
          refine aws_block ?_
          refine aws_cut fun N13 hN13 => ?_
          simp (config := {maxSteps := 2000000}) only [s4, ↓aw_region, ↓aw_skip, ↓aw_seq, ↓aw_block, ↓aw_exit, ↓aw_ret, ↓sops_nil, ↓sops_go, ↓dops_nil, ↓dopsX_nil, ↓dopsR_nil, ↓vdn, vup, extr_20, extr_21, extr_30, extr_31, extr_32, List.map_cons, List.map_nil, cond_true, cond_false, aop, aThen, aBlock, argEnv, ev, sput, sputO, binK, binI, unK, builtinK, pickK, Nat.reduceBEq, Nat.reduceAdd, Int.reduceBEq, Int.reduceBNe, Int.reduceLT, aPost, resK, tup, tyf, hA6.idx el_22 esz_3 hi', hA6.load shp_3 hi', hx']
          refine hN13 [(0, v), (1, vint n1), (2, vint n2), (3, cv), (8, .bool false), (9, w1), (11, w2), (17, w3), (19, ov), (21, vint x), (140, w1), (141, vint A.length), (142, vint i)] _ _ ?_ (by simp (config := {maxSteps := 2000000}) only [↓aw_region, ↓aw_skip, ↓aw_seq, ↓aw_block, ↓aw_exit, ↓aw_ret, ↓sops_nil, ↓sops_go, ↓dops_nil, ↓dopsX_nil, ↓dopsR_nil, ↓vdn, vup, extr_20, extr_21, extr_30, extr_31, extr_32, List.map_cons, List.map_nil, cond_true, cond_false, aop, aThen, aBlock, argEnv, ev, sput, sputO, binK, binI, unK, builtinK, pickK, Nat.reduceBEq, Nat.reduceAdd, Int.reduceBEq, Int.reduceBNe, Int.reduceLT, aPost, resK, tup, tyf])
          clear hN13
          try clear N13
          refine aw_aws ?_
          simp (config := {maxSteps := 2000000}) only [s4, ↓aw_region, ↓aw_skip, ↓aw_seq, ↓aw_block, ↓aw_exit, ↓aw_ret, ↓sops_nil, ↓sops_go, ↓dops_nil, ↓dopsX_nil, ↓dopsR_nil, ↓vdn, vup, extr_20, extr_21, extr_30, extr_31, extr_32, List.map_cons, List.map_nil, cond_true, cond_false, aop, aThen, aBlock, argEnv, ev, sput, sputO, binK, binI, unK, builtinK, pickK, Nat.reduceBEq, Nat.reduceAdd, Int.reduceBEq, Int.reduceBNe, Int.reduceLT, aPost, resK, tup, tyf, hB6.len, ↓aw_loop_eq]
          refine aws_hide fun Q3 hQ3 => ?_
          refine aw_loop (γ := Nat × Value × Heap) (fun s => s.1 ≤ B.length ∧ RSI h5 s.2.2 s.2.1 (both xs n2 (A.take i) B ++ (B.take s.1).map fun y => A.getD i 0 * wn xs n2 + y))
            (fun s => ([(0, v), (1, vint n1), (2, vint n2), (3, cv), (8, .bool false), (9, w1), (11, w2), (17, w3), (19, s.2.1), (21, vint x), (140, w1), (141, vint A.length), (142, vint i), (146, w2), (147, vint B.length), (148, vint s.1)], s.2.2)) (fun s => B.length - s.1) (0, ov, hp) ⟨Nat.zero_le _, by simpa using hs⟩ (by simp (config := {maxSteps := 2000000}) only [↓aw_region, ↓aw_skip, ↓aw_seq, ↓aw_block, ↓aw_exit, ↓aw_ret, ↓sops_nil, ↓sops_go, ↓dops_nil, ↓dopsX_nil, ↓dopsR_nil, ↓vdn, vup, extr_20, extr_21, extr_30, extr_31, extr_32, List.map_cons, List.map_nil, cond_true, cond_false, aop, aThen, aBlock, argEnv, ev, sput, sputO, binK, binI, unK, builtinK, pickK, Nat.reduceBEq, Nat.reduceAdd, Int.reduceBEq, Int.reduceBNe, Int.reduceLT, aPost, resK, tup, tyf, Int.natCast_zero]) rfl ?_
          clear hA6 hB6 hs
          rintro ⟨t, ov, hp⟩ ⟨ht, hs⟩
          simp only at ht hs
          refine aw_hide fun Q4 hQ4 => ?_
          by_cases htn : (t : Int) < B.length
          · have ht' : t < B.length := by omega
            obtain ⟨y, hy, hyw⟩ := hB0 t ht'
            have hB7 := IntSl_ext hB5 hs.2.1
            have hv7 := IntSl_ext hv5 hs.2.1
            have hm1 : x * wn xs n2 ≤ 64 * 64 := Nat.mul_le_mul (by omega) hw2
            have hmul : mulV .i64 (x : Int) ((wn xs n2 : Nat) : Int) = ((x * wn xs n2 : Nat) : Int) := mulN (by omega)
            have hadd2 : addV .i64 ((x * wn xs n2 : Nat) : Int) (y : Int) = ((x * wn xs n2 + y : Nat) : Int) := addN (by omega)
            have hbl : (both xs n2 (A.take i) B ++ (B.take t).map fun y => A.getD i 0 * wn xs n2 + y).length < 1099511627776 := by
              have : (A.take i).length * B.length ≤ 64 * 64 := Nat.mul_le_mul (by rw [List.length_take]; omega) hB1
              have h3 : (B.take t).length ≤ 64 := by rw [List.length_take]; omega
              rw [List.length_append, both_len, List.length_map]; omega
            simp (config := {maxSteps := 2000000}) only [s4, ↓aw_region, ↓aw_skip, ↓aw_seq, ↓aw_block, ↓aw_exit, ↓aw_ret, ↓sops_nil, ↓sops_go, ↓dops_nil, ↓dopsX_nil, ↓dopsR_nil, ↓vdn, vup, extr_20, extr_21, extr_30, extr_31, extr_32, List.map_cons, List.map_nil, cond_true, cond_false, aop, aThen, aBlock, argEnv, ev, sput, sputO, binK, binI, unK, builtinK, pickK, Nat.reduceBEq, Nat.reduceAdd, Int.reduceBEq, Int.reduceBNe, Int.reduceLT, aPost, resK, tup, tyf, callK, List.nil_append, List.append_nil, List.toList_toArray, List.cons_append, l4_0, htn, hB7.idx el_22 esz_3 ht', hB7.load shp_3 ht', hy]
            refine (rwords_call hv7 g (show n2 ≤ 6 by omega)).mono ?_
            rintro _ hp ⟨rfl, rfl⟩
            simp (config := {maxSteps := 2000000}) only [s4, ↓aw_region, ↓aw_skip, ↓aw_seq, ↓aw_block, ↓aw_exit, ↓aw_ret, ↓sops_nil, ↓sops_go, ↓dops_nil, ↓dopsX_nil, ↓dopsR_nil, ↓vdn, vup, extr_20, extr_21, extr_30, extr_31, extr_32, List.map_cons, List.map_nil, cond_true, cond_false, aop, aThen, aBlock, argEnv, ev, sput, sputO, binK, binI, unK, builtinK, pickK, Nat.reduceBEq, Nat.reduceAdd, Int.reduceBEq, Int.reduceBNe, Int.reduceLT, aPost, resK, tup, tyf, hmul, hadd2, litI1]
            refine hs.push hbl fun v' h' s' => ?_
            simp (config := {maxSteps := 2000000}) only [s4, ↓aw_region, ↓aw_skip, ↓aw_seq, ↓aw_block, ↓aw_exit, ↓aw_ret, ↓sops_nil, ↓sops_go, ↓dops_nil, ↓dopsX_nil, ↓dopsR_nil, ↓vdn, vup, extr_20, extr_21, extr_30, extr_31, extr_32, List.map_cons, List.map_nil, cond_true, cond_false, aop, aThen, aBlock, argEnv, ev, sput, sputO, binK, binI, unK, builtinK, pickK, Nat.reduceBEq, Nat.reduceAdd, Int.reduceBEq, Int.reduceBNe, Int.reduceLT, aPost, resK, tup, tyf, add1 (show t < 9223372036854775807 by omega)]
            refine hQ4 _ _ _ ⟨(t + 1, v', h'), ⟨by simp only; omega, ?_⟩, by simp only; omega, by simp (config := {maxSteps := 2000000}) only [↓aw_region, ↓aw_skip, ↓aw_seq, ↓aw_block, ↓aw_exit, ↓aw_ret, ↓sops_nil, ↓sops_go, ↓dops_nil, ↓dopsX_nil, ↓dopsR_nil, ↓vdn, vup, extr_20, extr_21, extr_30, extr_31, extr_32, List.map_cons, List.map_nil, cond_true, cond_false, aop, aThen, aBlock, argEnv, ev, sput, sputO, binK, binI, unK, builtinK, pickK, Nat.reduceBEq, Nat.reduceAdd, Int.reduceBEq, Int.reduceBNe, Int.reduceLT, aPost, resK, tup, tyf], rfl⟩
            simp only
            rw [map_take_succ ht', ← List.append_assoc, hy, hx']
            rw [hx'] at s'
            have e : ((x * wn xs n2 + y : Nat) : Int) = (x : Int) * (wn xs n2 : Nat) + (y : Int) := by rw [Int.natCast_add, Int.natCast_mul]
            rw [e] at s'
            exact s'
          · obtain rfl : t = B.length := by omega
            simp (config := {maxSteps := 2000000}) only [s4, ↓aw_region, ↓aw_skip, ↓aw_seq, ↓aw_block, ↓aw_exit, ↓aw_ret, ↓sops_nil, ↓sops_go, ↓dops_nil, ↓dopsX_nil, ↓dopsR_nil, ↓vdn, vup, extr_20, extr_21, extr_30, extr_31, extr_32, List.map_cons, List.map_nil, cond_true, cond_false, aop, aThen, aBlock, argEnv, ev, sput, sputO, binK, binI, unK, builtinK, pickK, Nat.reduceBEq, Nat.reduceAdd, Int.reduceBEq, Int.reduceBNe, Int.reduceLT, aPost, resK, tup, tyf, l4_0, Int.lt_irrefl]
            refine hQ4 _ _ _ (hQ3 _ _ _ ?_)
            simp (config := {maxSteps := 2000000}) only [s4, ↓aw_region, ↓aw_skip, ↓aw_seq, ↓aw_block, ↓aw_exit, ↓aw_ret, ↓sops_nil, ↓sops_go, ↓dops_nil, ↓dopsX_nil, ↓dopsR_nil, ↓vdn, vup, extr_20, extr_21, extr_30, extr_31, extr_32, List.map_cons, List.map_nil, cond_true, cond_false, aop, aThen, aBlock, argEnv, ev, sput, sputO, binK, binI, unK, builtinK, pickK, Nat.reduceBEq, Nat.reduceAdd, Int.reduceBEq, Int.reduceBNe, Int.reduceLT, aPost, resK, tup, tyf, if_true]
            refine hM [(0, v), (1, vint n1), (2, vint n2), (3, cv), (8, .bool false), (9, w1), (11, w2), (17, w3), (19, ov), (140, w1), (141, vint A.length), (142, vint i)] _ _ ?_ (by simp (config := {maxSteps := 2000000}) only [↓aw_region, ↓aw_skip, ↓aw_seq, ↓aw_block, ↓aw_exit, ↓aw_ret, ↓sops_nil, ↓sops_go, ↓dops_nil, ↓dopsX_nil, ↓dopsR_nil, ↓vdn, vup, extr_20, extr_21, extr_30, extr_31, extr_32, List.map_cons, List.map_nil, cond_true, cond_false, aop, aThen, aBlock, argEnv, ev, sput, sputO, binK, binI, unK, builtinK, pickK, Nat.reduceBEq, Nat.reduceAdd, Int.reduceBEq, Int.reduceBNe, Int.reduceLT, aPost, resK, tup, tyf])
            clear hM
            try clear M
            refine aw_aws ?_
            simp (config := {maxSteps := 2000000}) only [s4, ↓aw_region, ↓aw_skip, ↓aw_seq, ↓aw_block, ↓aw_exit, ↓aw_ret, ↓sops_nil, ↓sops_go, ↓dops_nil, ↓dopsX_nil, ↓dopsR_nil, ↓vdn, vup, extr_20, extr_21, extr_30, extr_31, extr_32, List.map_cons, List.map_nil, cond_true, cond_false, aop, aThen, aBlock, argEnv, ev, sput, sputO, binK, binI, unK, builtinK, pickK, Nat.reduceBEq, Nat.reduceAdd, Int.reduceBEq, Int.reduceBNe, Int.reduceLT, aPost, resK, tup, tyf, add1 (show i < 9223372036854775807 by omega)]
            refine hQ2 _ _ _ ⟨(i + 1, ov, hp), ⟨by simp only; omega, ?_⟩, by simp only; omega, by simp (config := {maxSteps := 2000000}) only [↓aw_region, ↓aw_skip, ↓aw_seq, ↓aw_block, ↓aw_exit, ↓aw_ret, ↓sops_nil, ↓sops_go, ↓dops_nil, ↓dopsX_nil, ↓dopsR_nil, ↓vdn, vup, extr_20, extr_21, extr_30, extr_31, extr_32, List.map_cons, List.map_nil, cond_true, cond_false, aop, aThen, aBlock, argEnv, ev, sput, sputO, binK, binI, unK, builtinK, pickK, Nat.reduceBEq, Nat.reduceAdd, Int.reduceBEq, Int.reduceBNe, Int.reduceLT, aPost, resK, tup, tyf], rfl⟩
            simp only
            rw [both_take hi']
            rw [List.take_length] at hs
            exact hs
        · obtain rfl : i = A.length := by omega
          refine aws_cut fun M hM => ?_
          simp (config := {maxSteps := 2000000}) only [s4, ↓aw_region, ↓aw_skip, ↓aw_seq, ↓aw_block, ↓aw_exit, ↓aw_ret, ↓sops_nil, ↓sops_go, ↓dops_nil, ↓dopsX_nil, ↓dopsR_nil, ↓vdn, vup, extr_20, extr_21, extr_30, extr_31, extr_32, List.map_cons, List.map_nil, cond_true, cond_false, aop, aThen, aBlock, argEnv, ev, sput, sputO, binK, binI, unK, builtinK, pickK, Nat.reduceBEq, Nat.reduceAdd, Int.reduceBEq, Int.reduceBNe, Int.reduceLT, aPost, resK, tup, tyf, Int.lt_irrefl]
          refine hM [(0, v), (1, vint n1), (2, vint n2), (3, cv), (8, .bool false), (9, w1), (11, w2), (17, w3), (19, ov), (140, w1), (141, vint A.length), (142, vint A.length), (143, .bool false)] _ _ ?_ (by simp (config := {maxSteps := 2000000}) only [↓aw_region, ↓aw_skip, ↓aw_seq, ↓aw_block, ↓aw_exit, ↓aw_ret, ↓sops_nil, ↓sops_go, ↓dops_nil, ↓dopsX_nil, ↓dopsR_nil, ↓vdn, vup, extr_20, extr_21, extr_30, extr_31, extr_32, List.map_cons, List.map_nil, cond_true, cond_false, aop, aThen, aBlock, argEnv, ev, sput, sputO, binK, binI, unK, builtinK, pickK, Nat.reduceBEq, Nat.reduceAdd, Int.reduceBEq, Int.reduceBNe, Int.reduceLT, aPost, resK, tup, tyf])
          clear hM
          try clear M
          refine aw_aws ?_
          simp (config := {maxSteps := 2000000}) only [s4, ↓aw_region, ↓aw_skip, ↓aw_seq, ↓aw_block, ↓aw_exit, ↓aw_ret, ↓sops_nil, ↓sops_go, ↓dops_nil, ↓dopsX_nil, ↓dopsR_nil, ↓vdn, vup, extr_20, extr_21, extr_30, extr_31, extr_32, List.map_cons, List.map_nil, cond_true, cond_false, aop, aThen, aBlock, argEnv, ev, sput, sputO, binK, binI, unK, builtinK, pickK, Nat.reduceBEq, Nat.reduceAdd, Int.reduceBEq, Int.reduceBNe, Int.reduceLT, aPost, resK, tup, tyf]
          refine hQ2 _ _ _ (hQ _ _ _ ?_)
          simp (config := {maxSteps := 2000000}) only [s4, ↓aw_region, ↓aw_skip, ↓aw_seq, ↓aw_block, ↓aw_exit, ↓aw_ret, ↓sops_nil, ↓sops_go, ↓dops_nil, ↓dopsX_nil, ↓dopsR_nil, ↓vdn, vup, extr_20, extr_21, extr_30, extr_31, extr_32, List.map_cons, List.map_nil, cond_true, cond_false, aop, aThen, aBlock, argEnv, ev, sput, sputO, binK, binI, unK, builtinK, pickK, Nat.reduceBEq, Nat.reduceAdd, Int.reduceBEq, Int.reduceBNe, Int.reduceLT, aPost, resK, tup, tyf, if_true]
          refine hN10 [(0, v), (1, vint n1), (2, vint n2), (3, cv), (8, .bool false), (9, w1), (11, w2), (17, w3), (19, ov)] _ _ ?_ (by simp (config := {maxSteps := 2000000}) only [↓aw_region, ↓aw_skip, ↓aw_seq, ↓aw_block, ↓aw_exit, ↓aw_ret, ↓sops_nil, ↓sops_go, ↓dops_nil, ↓dopsX_nil, ↓dopsR_nil, ↓vdn, vup, extr_20, extr_21, extr_30, extr_31, extr_32, List.map_cons, List.map_nil, cond_true, cond_false, aop, aThen, aBlock, argEnv, ev, sput, sputO, binK, binI, unK, builtinK, pickK, Nat.reduceBEq, Nat.reduceAdd, Int.reduceBEq, Int.reduceBNe, Int.reduceLT, aPost, resK, tup, tyf])
          clear hN10
          try clear N10
          rw [List.take_length] at hs
          have hbc := both_code g.1 hAc hBc
          have hbl := both_len xs n2 B A
          obtain ⟨hb0, hb1, hbx⟩ := code_rng hbc hw3
          have hle := code_max g hw3 hbc
          have hv6 := IntSl_ext hv5 hs.2.1
          refine aws_cut fun N14 hN14 => ?_
          simp (config := {maxSteps := 2000000}) only [s4, ↓aw_region, ↓aw_skip, ↓aw_seq, ↓aw_block, ↓aw_exit, ↓aw_ret, ↓sops_nil, ↓sops_go, ↓dops_nil, ↓dopsX_nil, ↓dopsR_nil, ↓vdn, vup, extr_20, extr_21, extr_30, extr_31, extr_32, List.map_cons, List.map_nil, cond_true, cond_false, aop, aThen, aBlock, argEnv, ev, sput, sputO, binK, binI, unK, builtinK, pickK, Nat.reduceBEq, Nat.reduceAdd, Int.reduceBEq, Int.reduceBNe, Int.reduceLT, aPost, resK, tup, tyf, callK, List.nil_append, List.append_nil, List.toList_toArray, List.cons_append, hadd]
          refine (list_call hv6 hl).mono ?_
          rintro l8 _ ⟨hl8, g8, rfl⟩
          rw [grs_same ok1.1] at hl8
          refine (codes_call (k := ((n1 + n2 : Nat) : Int)) hl8 hl hx (hs.1.int.grow g8) (by omega) hbx).mono ?_
          rintro r6 h6 ⟨hE6, rfl⟩
          rw [codesR_ok ok3 hw3, hbc]
          simp (config := {maxSteps := 2000000}) only [s4, ↓aw_region, ↓aw_skip, ↓aw_seq, ↓aw_block, ↓aw_exit, ↓aw_ret, ↓sops_nil, ↓sops_go, ↓dops_nil, ↓dopsX_nil, ↓dopsR_nil, ↓vdn, vup, extr_20, extr_21, extr_30, extr_31, extr_32, List.map_cons, List.map_nil, cond_true, cond_false, aop, aThen, aBlock, argEnv, ev, sput, sputO, binK, binI, unK, builtinK, pickK, Nat.reduceBEq, Nat.reduceAdd, Int.reduceBEq, Int.reduceBNe, Int.reduceLT, aPost, resK, tup, tyf]
          refine hN14 [(0, v), (1, vint n1), (2, vint n2), (3, cv), (8, .bool false), (9, w1), (11, w2), (17, w3), (19, ov), (24, .bool true), (25, .int .i64 0)] _ _ ?_ (by simp (config := {maxSteps := 2000000}) only [↓aw_region, ↓aw_skip, ↓aw_seq, ↓aw_block, ↓aw_exit, ↓aw_ret, ↓sops_nil, ↓sops_go, ↓dops_nil, ↓dopsX_nil, ↓dopsR_nil, ↓vdn, vup, extr_20, extr_21, extr_30, extr_31, extr_32, List.map_cons, List.map_nil, cond_true, cond_false, aop, aThen, aBlock, argEnv, ev, sput, sputO, binK, binI, unK, builtinK, pickK, Nat.reduceBEq, Nat.reduceAdd, Int.reduceBEq, Int.reduceBNe, Int.reduceLT, aPost, resK, tup, tyf])
          clear hN14
          try clear N14
          refine aw_aws ?_
          have hE57 := (hs.2.1.trans (Ext.app (fun _ => False) hp g8)).trans hE6
          have hA7 := IntSl_ext hA5 hE57
          have hB7 := IntSl_ext hB5 hE57
          have hC7 := IntSl_ext ho5.int hE57
          have hmul : mulV .i64 (A.length : Int) (B.length : Int) = ((A.length * B.length : Nat) : Int) := mulN (by omega)
          have hge : ((A.length * B.length : Nat) : Int) ≤ ((((codeL (nearL xs (n1 + n2))).map Int.ofNat).length : Nat) : Int) := by
            rw [List.length_map]; omega
          simp (config := {maxSteps := 2000000}) only [s4, ↓aw_region, ↓aw_skip, ↓aw_seq, ↓aw_block, ↓aw_exit, ↓aw_ret, ↓sops_nil, ↓sops_go, ↓dops_nil, ↓dopsX_nil, ↓dopsR_nil, ↓vdn, vup, extr_20, extr_21, extr_30, extr_31, extr_32, List.map_cons, List.map_nil, cond_true, cond_false, aop, aThen, aBlock, argEnv, ev, sput, sputO, binK, binI, unK, builtinK, pickK, Nat.reduceBEq, Nat.reduceAdd, Int.reduceBEq, Int.reduceBNe, Int.reduceLT, aPost, resK, tup, tyf, callK, List.nil_append, List.append_nil, List.toList_toArray, List.cons_append, e0, hA7.len, hB7.len, hC7.len, hmul, ge_iff_le, hge]
          refine awk fun g _ => ?_
          simp (config := {maxSteps := 2000000}) only [s4, ↓aw_region, ↓aw_skip, ↓aw_seq, ↓aw_block, ↓aw_exit, ↓aw_ret, ↓sops_nil, ↓sops_go, ↓dops_nil, ↓dopsX_nil, ↓dopsR_nil, ↓vdn, vup, extr_20, extr_21, extr_30, extr_31, extr_32, List.map_cons, List.map_nil, cond_true, cond_false, aop, aThen, aBlock, argEnv, ev, sput, sputO, binK, binI, unK, builtinK, pickK, Nat.reduceBEq, Nat.reduceAdd, Int.reduceBEq, Int.reduceBNe, Int.reduceLT, aPost, resK, tup, tyf]
      · have he3 : e3 = 2 ∨ e3 = 6 := by
          rcases hc5 with h | h | h
          · exact .inl h.2.2
          · exact .inr h.2.2.2
          · exact absurd ⟨h.1, h.2.1⟩ hok3
        refine aws_cut fun N15 hN15 => ?_
        rcases he3 with rfl | rfl
        all_goals
          simp (config := {maxSteps := 2000000}) only [s4, ↓aw_region, ↓aw_skip, ↓aw_seq, ↓aw_block, ↓aw_exit, ↓aw_ret, ↓sops_nil, ↓sops_go, ↓dops_nil, ↓dopsX_nil, ↓dopsR_nil, ↓vdn, vup, extr_20, extr_21, extr_30, extr_31, extr_32, List.map_cons, List.map_nil, cond_true, cond_false, aop, aThen, aBlock, argEnv, ev, sput, sputO, binK, binI, unK, builtinK, pickK, Nat.reduceBEq, Nat.reduceAdd, Int.reduceBEq, Int.reduceBNe, Int.reduceLT, aPost, resK, tup, tyf, callK, List.nil_append, List.append_nil, List.toList_toArray, List.cons_append]
          refine awk fun g _ => ?_
          simp (config := {maxSteps := 2000000}) only [s4, ↓aw_region, ↓aw_skip, ↓aw_seq, ↓aw_block, ↓aw_exit, ↓aw_ret, ↓sops_nil, ↓sops_go, ↓dops_nil, ↓dopsX_nil, ↓dopsR_nil, ↓vdn, vup, extr_20, extr_21, extr_30, extr_31, extr_32, List.map_cons, List.map_nil, cond_true, cond_false, aop, aThen, aBlock, argEnv, ev, sput, sputO, binK, binI, unK, builtinK, pickK, Nat.reduceBEq, Nat.reduceAdd, Int.reduceBEq, Int.reduceBNe, Int.reduceLT, aPost, resK, tup, tyf]
    cases hcc : code xs n1 cs with
    | false =>
      simp (config := {maxSteps := 2000000}) only [s4, ↓aw_region, ↓aw_skip, ↓aw_seq, ↓aw_block, ↓aw_exit, ↓aw_ret, ↓sops_nil, ↓sops_go, ↓dops_nil, ↓dopsX_nil, ↓dopsR_nil, ↓vdn, vup, extr_20, extr_21, extr_30, extr_31, extr_32, List.map_cons, List.map_nil, cond_true, cond_false, aop, aThen, aBlock, argEnv, ev, sput, sputO, binK, binI, unK, builtinK, pickK, Nat.reduceBEq, Nat.reduceAdd, Int.reduceBEq, Int.reduceBNe, Int.reduceLT, aPost, resK, tup, tyf]
      exact go _ (by simp (config := {maxSteps := 2000000}) only [↓aw_region, ↓aw_skip, ↓aw_seq, ↓aw_block, ↓aw_exit, ↓aw_ret, ↓sops_nil, ↓sops_go, ↓dops_nil, ↓dopsX_nil, ↓dopsR_nil, ↓vdn, vup, extr_20, extr_21, extr_30, extr_31, extr_32, List.map_cons, List.map_nil, cond_true, cond_false, aop, aThen, aBlock, argEnv, ev, sput, sputO, binK, binI, unK, builtinK, pickK, Nat.reduceBEq, Nat.reduceAdd, Int.reduceBEq, Int.reduceBNe, Int.reduceLT, aPost, resK, tup, tyf])
    | true =>
      have hle := hAm hcc
      have hng : ¬ (A.length : Int) < (cs.length : Int) := by omega
      simp (config := {maxSteps := 2000000}) only [s4, ↓aw_region, ↓aw_skip, ↓aw_seq, ↓aw_block, ↓aw_exit, ↓aw_ret, ↓sops_nil, ↓sops_go, ↓dops_nil, ↓dopsX_nil, ↓dopsR_nil, ↓vdn, vup, extr_20, extr_21, extr_30, extr_31, extr_32, List.map_cons, List.map_nil, cond_true, cond_false, aop, aThen, aBlock, argEnv, ev, sput, sputO, binK, binI, unK, builtinK, pickK, Nat.reduceBEq, Nat.reduceAdd, Int.reduceBEq, Int.reduceBNe, Int.reduceLT, aPost, resK, tup, tyf, hc4.len, hA4.len, gt_iff_lt, hng]
      exact go _ (by simp (config := {maxSteps := 2000000}) only [↓aw_region, ↓aw_skip, ↓aw_seq, ↓aw_block, ↓aw_exit, ↓aw_ret, ↓sops_nil, ↓sops_go, ↓dops_nil, ↓dopsX_nil, ↓dopsR_nil, ↓vdn, vup, extr_20, extr_21, extr_30, extr_31, extr_32, List.map_cons, List.map_nil, cond_true, cond_false, aop, aThen, aBlock, argEnv, ev, sput, sputO, binK, binI, unK, builtinK, pickK, Nat.reduceBEq, Nat.reduceAdd, Int.reduceBEq, Int.reduceBNe, Int.reduceLT, aPost, resK, tup, tyf])
  · refine aws_cut fun N16 hN16 => ?_
    rcases he1 with rfl | rfl | ⟨rfl, ho1⟩ <;> rcases he2 with rfl | rfl | ⟨rfl, ho2⟩
    all_goals try exact absurd (And.intro (by assumption) (by assumption)) hok
    all_goals
      simp (config := {maxSteps := 2000000}) only [s4, ↓aw_region, ↓aw_skip, ↓aw_seq, ↓aw_block, ↓aw_exit, ↓aw_ret, ↓sops_nil, ↓sops_go, ↓dops_nil, ↓dopsX_nil, ↓dopsR_nil, ↓vdn, vup, extr_20, extr_21, extr_30, extr_31, extr_32, List.map_cons, List.map_nil, cond_true, cond_false, aop, aThen, aBlock, argEnv, ev, sput, sputO, binK, binI, unK, builtinK, pickK, Nat.reduceBEq, Nat.reduceAdd, Int.reduceBEq, Int.reduceBNe, Int.reduceLT, aPost, resK, tup, tyf, callK, List.nil_append, List.append_nil, List.toList_toArray, List.cons_append]
      refine awk fun g _ => ?_
      simp (config := {maxSteps := 2000000}) only [s4, ↓aw_region, ↓aw_skip, ↓aw_seq, ↓aw_block, ↓aw_exit, ↓aw_ret, ↓sops_nil, ↓sops_go, ↓dops_nil, ↓dopsX_nil, ↓dopsR_nil, ↓vdn, vup, extr_20, extr_21, extr_30, extr_31, extr_32, List.map_cons, List.map_nil, cond_true, cond_false, aop, aThen, aBlock, argEnv, ev, sput, sputO, binK, binI, unK, builtinK, pickK, Nat.reduceBEq, Nat.reduceAdd, Int.reduceBEq, Int.reduceBNe, Int.reduceLT, aPost, resK, tup, tyf]
end Go.Proofs.Tryd.Am

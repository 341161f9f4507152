/-
  ranks: both searches come to the same way; the law RanksWays.
-/
import Derived.Test.YtemmcfeekpblkaaDoorRkRef
set_option linter.all false
namespace Go.Proofs.Tryd.Am
open Go.Am
set_option maxRecDepth 100000
set_option maxHeartbeats 1000000

theorem firstOf_filter {α β : Type} {f : α → Option β} {p : α → Bool} : ∀ l : List α, firstOf f (l.filter p) = firstOf (fun x => if p x = true then f x else none) l
  | [] => rfl
  | x :: l => by
    rw [List.filter_cons]
    by_cases h : p x = true
    · rw [if_pos h, firstOf, firstOf, if_pos h, firstOf_filter l]
    · rw [if_neg h, firstOf, if_neg h, firstOf_filter l]
theorem firstOf_congr {α β : Type} {f g : α → Option β} : ∀ {l : List α}, (∀ x ∈ l, f x = g x) → firstOf f l = firstOf g l
  | [], _ => rfl
  | x :: l, h => by rw [firstOf, firstOf, h x (by simp), firstOf_congr fun y hy => h y (by simp [hy])]
theorem bits_range {s n : Nat} (hs : s < 2 ^ n) (hn : n ≤ 64) : Am.bits s = (List.range n).filter fun i => s.testBit i := by
  obtain ⟨d, hd⟩ : ∃ d, 64 = n + d := ⟨64 - n, by omega⟩
  unfold Am.bits
  rw [hd, List.range_add, List.filter_append]
  have : List.filter (fun i => s.testBit i) (List.map (fun x => n + x) (List.range d)) = [] := by
    rw [List.filter_eq_nil_iff]
    intro i hi
    obtain ⟨j, _, rfl⟩ := List.mem_map.1 hi
    rw [Nat.testBit_lt_two_pow (Nat.lt_of_lt_of_le hs (Nat.pow_le_pow_right (by decide) (by omega)))]; simp
  rw [this, List.append_nil]

theorem grow_way {xs : List Int} {size : Nat} {round : Bool} (hx : xs.length ≤ 64) : ∀ (m n : Nat) (cur : List Int) (met : Nat), cur.length ≤ size → size - cur.length < m → less (2 ^ xs.length - 1) met < n →
    grow xs size (fun l => !round || closes xs size l) n cur (less (2 ^ xs.length - 1) met) = wayR xs size round m cur met := by
  have hpos := Nat.two_pow_pos xs.length
  intro m
  induction m with
  | zero => intro n cur met _ h; omega
  | succ m ih =>
    intro n cur met hle hm hn
    cases n with
    | zero => omega
    | succ n =>
      simp only [grow, wayR]
      by_cases hlen : cur.length = size
      · rw [if_pos hlen, if_pos hlen]
        by_cases hcl : closes xs size cur = true <;> cases round <;> simp [hcl]
      · rw [if_neg hlen, if_neg hlen]
        rw [bits_range (less_lt (show 2 ^ xs.length - 1 < 2 ^ xs.length by omega)) hx, firstOf_filter]
        refine firstOf_congr fun i hi => ?_
        have hin := List.mem_range.1 hi
        have ht : (less (2 ^ xs.length - 1) met).testBit i = !met.testBit i := by
          rw [less_testBit, Nat.testBit_two_pow_sub_one, decide_eq_true hin, Bool.true_and]
        cases hmb : met.testBit i with
        | true => rw [hmb] at ht; rw [if_neg (by rw [ht]; decide), if_pos (.inl rfl)]
        | false =>
          rw [hmb, Bool.not_false] at ht
          rw [if_pos ht]
          by_cases hc : cur ≠ [] ∧ bitI (xs.getD (cur.getD (cur.length - 1) 0).toNat 0) i = false
          · rw [if_pos hc, if_pos (.inr hc)]
          · rw [if_neg hc, if_neg (by rintro (h | h); cases h; exact hc h)]
            have e : less (less (2 ^ xs.length - 1) met) (2 ^ i) = less (2 ^ xs.length - 1) (met ||| 2 ^ i) := by
              apply Nat.eq_of_testBit_eq
              intro j
              rw [less_testBit, less_testBit, less_testBit, Nat.testBit_or]
              cases (2 ^ xs.length - 1).testBit j <;> cases met.testBit j <;> cases (2 ^ i).testBit j <;> rfl
            rw [e]
            refine ih n _ _ (by simp; omega) (by simp; omega) ?_
            rw [← e]
            have := less_bit_lt ht
            omega

theorem find_way {xs : List Int} {size : Nat} {round : Bool} (hx : xs.length ≤ 64) : find xs size (fun l => !round || closes xs size l) = wayR xs size round (size + 1) [] 0 := by
  have hpos := Nat.two_pow_pos xs.length
  have e : less (2 ^ xs.length - 1) 0 = 2 ^ xs.length - 1 := by
    apply Nat.eq_of_testBit_eq; intro j; rw [less_testBit]; simp
  have := grow_way (size := size) (round := round) hx (size + 1) (2 ^ xs.length) [] 0 (Nat.zero_le _) (by simp) (by rw [e]; omega)
  rw [e] at this
  exact this

theorem rWay_call [Tabs prog] {h : Heap} {v : Value} {xs : List Int} (hv : IntSl h v xs) (hx : trn xs = true) :
    ACall prog 26 [v] h fun r h' => (∃ g, h' = h ++ g) ∧ (match wayR xs xs.length false (xs.length + 1) [] 0 with | none => r = .slice none 0 0 | some l => IntSl h' r l) := by
  have hxl : 1 ≤ xs.length ∧ xs.length ≤ 8 := by simp only [trn, Bool.and_eq_true, decide_eq_true_eq] at hx; omega
  refine s26_call (by simp) ?_
  simp (config := {maxSteps := 2000000}) only [s26, ↓aw_region, ↓aw_skip, ↓aw_seq, ↓aw_block, ↓aw_exit, ↓aw_ret, ↓sops_nil, ↓sops_go, ↓dops_nil, ↓dopsX_nil, ↓dopsR_nil, ↓vdn, vup, extr_20, extr_21, extr_30, extr_31, extr_32, List.map_cons, List.map_nil, cond_true, cond_false, aop, aThen, aBlock, argEnv, ev, sput, sputO, binK, binI, unK, builtinK, pickK, Nat.reduceBEq, Nat.reduceAdd, Int.reduceBEq, Int.reduceBNe, Int.reduceLT, aPost, resK, tup, tyf, hv.len, callK, List.nil_append, List.append_nil, List.toList_toArray, List.cons_append]
  have := rway_call (round := false) hx hxl.1 (Nat.le_refl _) (xs.length + 1) [] 0 h v (.slice none 0 0) hv (.inl ⟨rfl, rfl⟩) (fun _ => rfl) (fun _ h => by cases h) (Nat.zero_le _) (by simp) (Nat.two_pow_pos _)
  refine this.mono ?_
  rintro r h' ⟨h1, h2⟩
  cases hw : wayR xs xs.length false (xs.length + 1) [] 0 with
  | none => rw [hw] at h2; exact ⟨h1, h2⟩
  | some l => rw [hw] at h2; exact ⟨h1, h2.1⟩

theorem rRound_call [Tabs prog] {h : Heap} {v : Value} {xs : List Int} {k : Nat} (hv : IntSl h v xs) (hx : trn xs = true) (hk0 : 0 < k) (hk : k ≤ xs.length) :
    ACall prog 27 [v, vint k] h fun r h' => (∃ g, h' = h ++ g) ∧ ∃ a e, r = .tuple #[a, .int .i64 e] ∧ (match wayR xs k true (k + 1) [] 0 with | none => e = 4 ∧ a = .slice none 0 0 | some l => e = 0 ∧ IntSl h' a l) := by
  refine s27_call (by simp) ?_
  simp (config := {maxSteps := 2000000}) only [s27, ↓aw_region, ↓aw_skip, ↓aw_seq, ↓aw_block, ↓aw_exit, ↓aw_ret, ↓sops_nil, ↓sops_go, ↓dops_nil, ↓dopsX_nil, ↓dopsR_nil, ↓vdn, vup, extr_20, extr_21, extr_30, extr_31, extr_32, List.map_cons, List.map_nil, cond_true, cond_false, aop, aThen, aBlock, argEnv, ev, sput, sputO, binK, binI, unK, builtinK, pickK, Nat.reduceBEq, Nat.reduceAdd, Int.reduceBEq, Int.reduceBNe, Int.reduceLT, aPost, resK, tup, tyf, callK, List.nil_append, List.append_nil, List.toList_toArray, List.cons_append]
  have := rway_call (round := true) hx hk0 hk (k + 1) [] 0 h v (.slice none 0 0) hv (.inl ⟨rfl, rfl⟩) (fun _ => rfl) (fun _ h => by cases h) (Nat.zero_le _) (by simp) (Nat.two_pow_pos _)
  refine this.mono ?_
  rintro r h' ⟨h1, h2⟩
  cases hw : wayR xs k true (k + 1) [] 0 with
  | none =>
    rw [hw] at h2
    simp only at h2
    subst h2
    simp (config := {maxSteps := 2000000}) only [s27, ↓aw_region, ↓aw_skip, ↓aw_seq, ↓aw_block, ↓aw_exit, ↓aw_ret, ↓sops_nil, ↓sops_go, ↓dops_nil, ↓dopsX_nil, ↓dopsR_nil, ↓vdn, vup, extr_20, extr_21, extr_30, extr_31, extr_32, List.map_cons, List.map_nil, cond_true, cond_false, aop, aThen, aBlock, argEnv, ev, sput, sputO, binK, binI, unK, builtinK, pickK, Nat.reduceBEq, Nat.reduceAdd, Int.reduceBEq, Int.reduceBNe, Int.reduceLT, aPost, resK, tup, tyf, Option.isSome_some]
    exact ⟨h1, _, _, rfl, rfl, rfl⟩
  | some l =>
    rw [hw] at h2
    obtain ⟨h3, p, n, c, rfl⟩ := h2
    simp (config := {maxSteps := 2000000}) only [s27, ↓aw_region, ↓aw_skip, ↓aw_seq, ↓aw_block, ↓aw_exit, ↓aw_ret, ↓sops_nil, ↓sops_go, ↓dops_nil, ↓dopsX_nil, ↓dopsR_nil, ↓vdn, vup, extr_20, extr_21, extr_30, extr_31, extr_32, List.map_cons, List.map_nil, cond_true, cond_false, aop, aThen, aBlock, argEnv, ev, sput, sputO, binK, binI, unK, builtinK, pickK, Nat.reduceBEq, Nat.reduceAdd, Int.reduceBEq, Int.reduceBNe, Int.reduceLT, aPost, resK, tup, tyf, Option.isSome_some]
    exact ⟨h1, _, _, rfl, rfl, h3⟩

theorem trn_take {xs : List Int} : trn (xs.take 11) = trn xs := by
  by_cases h : xs.length ≤ 11
  · rw [List.take_of_length_le h]
  · have h1 : trn xs = false := by simp only [trn, Bool.and_eq_false_iff, decide_eq_false_iff_not]; exact .inl (.inr (by omega))
    have h2 : trn (xs.take 11) = false := by simp only [trn, Bool.and_eq_false_iff, decide_eq_false_iff_not]; refine .inl (.inr ?_); simp; omega
    rw [h1, h2]

theorem law_ways [BitTab prog 1] {h : Heap} {v : Value} {xs : List Int} (hv : IntSl h v xs) (hl : xs.length < 9223372036854775808) (hx : ∀ x ∈ xs, -9223372036854775808 ≤ x ∧ x < 9223372036854775808) (k : Int) :
    ACall prog 4 [v, vint k] h fun r _ => r = .bool true := by
  have hx11 : ∀ x ∈ xs.take 11, -9223372036854775808 ≤ x ∧ x < 9223372036854775808 := fun x hm => hx x (List.take_subset _ _ hm)
  refine s4_call (by simp) ?_
  simp (config := {maxSteps := 2000000}) only [s4, ↓aw_region, ↓aw_skip, ↓aw_seq, ↓aw_block, ↓aw_exit, ↓aw_ret, ↓sops_nil, ↓sops_go, ↓dops_nil, ↓dopsX_nil, ↓dopsR_nil, ↓vdn, vup, extr_20, extr_21, extr_30, extr_31, extr_32, List.map_cons, List.map_nil, cond_true, cond_false, aop, aThen, aBlock, argEnv, ev, sput, sputO, binK, binI, unK, builtinK, pickK, Nat.reduceBEq, Nat.reduceAdd, Int.reduceBEq, Int.reduceBNe, Int.reduceLT, aPost, resK, tup, tyf, callK, List.nil_append, List.append_nil, List.toList_toArray, List.cons_append]
  refine (list_call hv hl).mono ?_
  rintro l1 h1 ⟨hl1, g1, rfl⟩
  try simp (config := {maxSteps := 2000000}) only [s4, ↓aw_region, ↓aw_skip, ↓aw_seq, ↓aw_block, ↓aw_exit, ↓aw_ret, ↓sops_nil, ↓sops_go, ↓dops_nil, ↓dopsX_nil, ↓dopsR_nil, ↓vdn, vup, extr_20, extr_21, extr_30, extr_31, extr_32, List.map_cons, List.map_nil, cond_true, cond_false, aop, aThen, aBlock, argEnv, ev, sput, sputO, binK, binI, unK, builtinK, pickK, Nat.reduceBEq, Nat.reduceAdd, Int.reduceBEq, Int.reduceBNe, Int.reduceLT, aPost, resK, tup, tyf, callK, List.nil_append, List.append_nil, List.toList_toArray, List.cons_append]
  refine (way_call hl1 (by simp; omega) hx11).mono ?_
  rintro r2 h2 ⟨he2, a, e, rfl, hr2⟩
  try simp (config := {maxSteps := 2000000}) only [s4, ↓aw_region, ↓aw_skip, ↓aw_seq, ↓aw_block, ↓aw_exit, ↓aw_ret, ↓sops_nil, ↓sops_go, ↓dops_nil, ↓dopsX_nil, ↓dopsR_nil, ↓vdn, vup, extr_20, extr_21, extr_30, extr_31, extr_32, List.map_cons, List.map_nil, cond_true, cond_false, aop, aThen, aBlock, argEnv, ev, sput, sputO, binK, binI, unK, builtinK, pickK, Nat.reduceBEq, Nat.reduceAdd, Int.reduceBEq, Int.reduceBNe, Int.reduceLT, aPost, resK, tup, tyf, callK, List.nil_append, List.append_nil, List.toList_toArray, List.cons_append]
  have hv2 : IntSl h2 v xs := IntSl_ext (hv.grow g1) he2
  refine (list_call hv2 hl).mono ?_
  rintro l3 h3 ⟨hl3, g3, rfl⟩
  try simp (config := {maxSteps := 2000000}) only [s4, ↓aw_region, ↓aw_skip, ↓aw_seq, ↓aw_block, ↓aw_exit, ↓aw_ret, ↓sops_nil, ↓sops_go, ↓dops_nil, ↓dopsX_nil, ↓dopsR_nil, ↓vdn, vup, extr_20, extr_21, extr_30, extr_31, extr_32, List.map_cons, List.map_nil, cond_true, cond_false, aop, aThen, aBlock, argEnv, ev, sput, sputO, binK, binI, unK, builtinK, pickK, Nat.reduceBEq, Nat.reduceAdd, Int.reduceBEq, Int.reduceBNe, Int.reduceLT, aPost, resK, tup, tyf, callK, List.nil_append, List.append_nil, List.toList_toArray, List.cons_append]
  refine (round_call (k := k) hl3 (by simp; omega) hx11).mono ?_
  rintro r4 h4 ⟨he4, b, f, rfl, hr4⟩
  try simp (config := {maxSteps := 2000000}) only [s4, ↓aw_region, ↓aw_skip, ↓aw_seq, ↓aw_block, ↓aw_exit, ↓aw_ret, ↓sops_nil, ↓sops_go, ↓dops_nil, ↓dopsX_nil, ↓dopsR_nil, ↓vdn, vup, extr_20, extr_21, extr_30, extr_31, extr_32, List.map_cons, List.map_nil, cond_true, cond_false, aop, aThen, aBlock, argEnv, ev, sput, sputO, binK, binI, unK, builtinK, pickK, Nat.reduceBEq, Nat.reduceAdd, Int.reduceBEq, Int.reduceBNe, Int.reduceLT, aPost, resK, tup, tyf, callK, List.nil_append, List.append_nil, List.toList_toArray, List.cons_append]
  have hv4 : IntSl h4 v xs := IntSl_ext (hv2.grow g3) he4
  refine (rvalid_call hv4 hl hx).mono ?_
  rintro _ h5 ⟨rfl, hh5⟩
  subst hh5
  rw [trn_take] at hr2 hr4
  have hnil : ∀ h', IntSl h' (.slice none 0 0) [] := fun _ => .inl ⟨rfl, rfl⟩
  cases ht : trn xs with
  | false =>
    rw [ht, if_neg (by decide)] at hr2
    rw [ht, if_neg (by simp)] at hr4
    obtain ⟨rfl, rfl⟩ := hr2
    obtain ⟨rfl, rfl⟩ := hr4
    have z0 : (addV .i64 ((0 : Nat) : Int) ((0 : Nat) : Int) == 0) = true := by decide
    simp (config := {maxSteps := 2000000}) only [s4, ↓aw_region, ↓aw_skip, ↓aw_seq, ↓aw_block, ↓aw_exit, ↓aw_ret, ↓sops_nil, ↓sops_go, ↓dops_nil, ↓dopsX_nil, ↓dopsR_nil, ↓vdn, vup, extr_20, extr_21, extr_30, extr_31, extr_32, List.map_cons, List.map_nil, cond_true, cond_false, aop, aThen, aBlock, argEnv, ev, sput, sputO, binK, binI, unK, builtinK, pickK, Nat.reduceBEq, Nat.reduceAdd, Int.reduceBEq, Int.reduceBNe, Int.reduceLT, aPost, resK, tup, tyf, lenK, z0, callK, List.nil_append, List.append_nil, List.toList_toArray, List.cons_append]
    refine awake_call.mono ?_
    rintro _ h6 ⟨rfl, _⟩
    simp (config := {maxSteps := 2000000}) only [s4, ↓aw_region, ↓aw_skip, ↓aw_seq, ↓aw_block, ↓aw_exit, ↓aw_ret, ↓sops_nil, ↓sops_go, ↓dops_nil, ↓dopsX_nil, ↓dopsR_nil, ↓vdn, vup, extr_20, extr_21, extr_30, extr_31, extr_32, List.map_cons, List.map_nil, cond_true, cond_false, aop, aThen, aBlock, argEnv, ev, sput, sputO, binK, binI, unK, builtinK, pickK, Nat.reduceBEq, Nat.reduceAdd, Int.reduceBEq, Int.reduceBNe, Int.reduceLT, aPost, resK, tup, tyf]
  | true =>
    have hxl : 1 ≤ xs.length ∧ xs.length ≤ 8 := by simp only [trn, Bool.and_eq_true, decide_eq_true_eq] at ht; omega
    have htk : xs.take 11 = xs := List.take_of_length_le (by omega)
    rw [ht, if_pos rfl, htk] at hr2
    rw [ht, htk] at hr4
    obtain ⟨rfl, hr2⟩ := hr2
    have hfun : (fun l => !false || closes xs xs.length l) = (fun _ => true) := by funext l; rfl
    have hw := find_way (xs := xs) (size := xs.length) (round := false) (by omega)
    rw [hfun] at hw
    rw [hw] at hr2
    obtain ⟨A, hA, hA2, hAl⟩ : ∃ A, IntSl h2 a A ∧ (∀ r h', (match wayR xs xs.length false (xs.length + 1) [] 0 with | none => r = .slice none 0 0 | some l => IntSl h' r l) → IntSl h' r A) ∧ A.length ≤ 8 := by
      cases hwr : wayR xs xs.length false (xs.length + 1) [] 0 with
      | none => rw [hwr] at hr2; simp only at hr2; subst hr2; exact ⟨[], hnil _, fun r h' hr => by simp only at hr; subst hr; exact hnil _, by simp⟩
      | some l => rw [hwr] at hr2 hw; exact ⟨l, hr2.int, fun r h' hr => hr, by rw [find_len hw]; omega⟩
    have hA5 : IntSl h5 a A := IntSl_ext (hA.grow g3) he4
    simp (config := {maxSteps := 2000000}) only [s4, ↓aw_region, ↓aw_skip, ↓aw_seq, ↓aw_block, ↓aw_exit, ↓aw_ret, ↓sops_nil, ↓sops_go, ↓dops_nil, ↓dopsX_nil, ↓dopsR_nil, ↓vdn, vup, extr_20, extr_21, extr_30, extr_31, extr_32, List.map_cons, List.map_nil, cond_true, cond_false, aop, aThen, aBlock, argEnv, ev, sput, sputO, binK, binI, unK, builtinK, pickK, Nat.reduceBEq, Nat.reduceAdd, Int.reduceBEq, Int.reduceBNe, Int.reduceLT, aPost, resK, tup, tyf, callK, List.nil_append, List.append_nil, List.toList_toArray, List.cons_append]
    refine (rWay_call hv4 ht).mono ?_
    rintro r6 h6 ⟨⟨g6, rfl⟩, hr6⟩
    try simp (config := {maxSteps := 2000000}) only [s4, ↓aw_region, ↓aw_skip, ↓aw_seq, ↓aw_block, ↓aw_exit, ↓aw_ret, ↓sops_nil, ↓sops_go, ↓dops_nil, ↓dopsX_nil, ↓dopsR_nil, ↓vdn, vup, extr_20, extr_21, extr_30, extr_31, extr_32, List.map_cons, List.map_nil, cond_true, cond_false, aop, aThen, aBlock, argEnv, ev, sput, sputO, binK, binI, unK, builtinK, pickK, Nat.reduceBEq, Nat.reduceAdd, Int.reduceBEq, Int.reduceBNe, Int.reduceLT, aPost, resK, tup, tyf, callK, List.nil_append, List.append_nil, List.toList_toArray, List.cons_append]
    refine (equal_call (hA5.grow g6) (hA2 _ _ hr6) (by omega) (by omega)).mono ?_
    rintro _ h7 ⟨rfl, hh7⟩
    subst hh7
    have hdec : decide (A = A) = true := decide_eq_true rfl
    simp (config := {maxSteps := 2000000}) only [s4, ↓aw_region, ↓aw_skip, ↓aw_seq, ↓aw_block, ↓aw_exit, ↓aw_ret, ↓sops_nil, ↓sops_go, ↓dops_nil, ↓dopsX_nil, ↓dopsR_nil, ↓vdn, vup, extr_20, extr_21, extr_30, extr_31, extr_32, List.map_cons, List.map_nil, cond_true, cond_false, aop, aThen, aBlock, argEnv, ev, sput, sputO, binK, binI, unK, builtinK, pickK, Nat.reduceBEq, Nat.reduceAdd, Int.reduceBEq, Int.reduceBNe, Int.reduceLT, aPost, resK, tup, tyf, hdec, callK, List.nil_append, List.append_nil, List.toList_toArray, List.cons_append]
    refine awake_call.mono ?_
    rintro _ h8 ⟨rfl, he8⟩
    have hv8 : IntSl h8 v xs := IntSl_ext (hv4.grow g6) he8
    by_cases h3 : k < 3
    · rw [if_neg (by omega)] at hr4
      obtain ⟨rfl, rfl⟩ := hr4
      have z0 : (((0 : Nat) : Int) == 0) = true := by decide
      simp (config := {maxSteps := 2000000}) only [s4, ↓aw_region, ↓aw_skip, ↓aw_seq, ↓aw_block, ↓aw_exit, ↓aw_ret, ↓sops_nil, ↓sops_go, ↓dops_nil, ↓dopsX_nil, ↓dopsR_nil, ↓vdn, vup, extr_20, extr_21, extr_30, extr_31, extr_32, List.map_cons, List.map_nil, cond_true, cond_false, aop, aThen, aBlock, argEnv, ev, sput, sputO, binK, binI, unK, builtinK, pickK, Nat.reduceBEq, Nat.reduceAdd, Int.reduceBEq, Int.reduceBNe, Int.reduceLT, aPost, resK, tup, tyf, h3, lenK, z0]
    by_cases hk : (xs.length : Int) < k
    · rw [if_neg (by omega)] at hr4
      obtain ⟨rfl, rfl⟩ := hr4
      have z0 : (((0 : Nat) : Int) == 0) = true := by decide
      simp (config := {maxSteps := 2000000}) only [s4, ↓aw_region, ↓aw_skip, ↓aw_seq, ↓aw_block, ↓aw_exit, ↓aw_ret, ↓sops_nil, ↓sops_go, ↓dops_nil, ↓dopsX_nil, ↓dopsR_nil, ↓vdn, vup, extr_20, extr_21, extr_30, extr_31, extr_32, List.map_cons, List.map_nil, cond_true, cond_false, aop, aThen, aBlock, argEnv, ev, sput, sputO, binK, binI, unK, builtinK, pickK, Nat.reduceBEq, Nat.reduceAdd, Int.reduceBEq, Int.reduceBNe, Int.reduceLT, aPost, resK, tup, tyf, h3, hv8.len, hk, gt_iff_lt, (hnil h8).len, List.length_nil, z0]
    obtain ⟨n, rfl⟩ := Int.eq_ofNat_of_zero_le (show 0 ≤ k by omega)
    rw [if_pos ⟨rfl, by omega, by omega⟩, Int.toNat_natCast] at hr4
    have hfun2 : (fun l => !true || closes xs n l) = closes xs n := by funext l; rfl
    have hw2 := find_way (xs := xs) (size := n) (round := true) (by omega)
    rw [hfun2] at hw2
    rw [hw2] at hr4
    simp (config := {maxSteps := 2000000}) only [s4, ↓aw_region, ↓aw_skip, ↓aw_seq, ↓aw_block, ↓aw_exit, ↓aw_ret, ↓sops_nil, ↓sops_go, ↓dops_nil, ↓dopsX_nil, ↓dopsR_nil, ↓vdn, vup, extr_20, extr_21, extr_30, extr_31, extr_32, List.map_cons, List.map_nil, cond_true, cond_false, aop, aThen, aBlock, argEnv, ev, sput, sputO, binK, binI, unK, builtinK, pickK, Nat.reduceBEq, Nat.reduceAdd, Int.reduceBEq, Int.reduceBNe, Int.reduceLT, aPost, resK, tup, tyf, h3, hv8.len, hk, gt_iff_lt, callK, List.nil_append, List.append_nil, List.toList_toArray, List.cons_append]
    refine (rRound_call (k := n) hv8 ht (by omega) (by omega)).mono ?_
    rintro r9 h9 ⟨⟨g9, rfl⟩, c, e, rfl, hr9⟩
    have hExt : Ext (fun _ => False) h5 (h8 ++ g9) := ((Ext.app _ _ _).trans he8).trans (Ext.app _ _ _)
    obtain ⟨B, hB, hB2, hBl, rfl⟩ : ∃ B, IntSl (h8 ++ g9) b B ∧ IntSl (h8 ++ g9) c B ∧ B.length ≤ 8 ∧ f = e := by
      cases hwr : wayR xs n true (n + 1) [] 0 with
      | none =>
        rw [hwr] at hr4 hr9
        obtain ⟨rfl, rfl⟩ := hr4
        obtain ⟨rfl, rfl⟩ := hr9
        exact ⟨[], hnil _, hnil _, by simp, rfl⟩
      | some l =>
        rw [hwr] at hr4 hr9 hw2
        obtain ⟨rfl, hr4⟩ := hr4
        obtain ⟨rfl, hr9⟩ := hr9
        exact ⟨l, IntSl_ext hr4.int hExt, hr9, by rw [find_len hw2]; omega, rfl⟩
    simp (config := {maxSteps := 2000000}) only [s4, ↓aw_region, ↓aw_skip, ↓aw_seq, ↓aw_block, ↓aw_exit, ↓aw_ret, ↓sops_nil, ↓sops_go, ↓dops_nil, ↓dopsX_nil, ↓dopsR_nil, ↓vdn, vup, extr_20, extr_21, extr_30, extr_31, extr_32, List.map_cons, List.map_nil, cond_true, cond_false, aop, aThen, aBlock, argEnv, ev, sput, sputO, binK, binI, unK, builtinK, pickK, Nat.reduceBEq, Nat.reduceAdd, Int.reduceBEq, Int.reduceBNe, Int.reduceLT, aPost, resK, tup, tyf, callK, List.nil_append, List.append_nil, List.toList_toArray, List.cons_append]
    refine (equal_call hB hB2 (by omega) (by omega)).mono ?_
    rintro _ h10 ⟨rfl, hh10⟩
    subst hh10
    have hdec : decide (B = B) = true := decide_eq_true rfl
    simp (config := {maxSteps := 2000000}) only [s4, ↓aw_region, ↓aw_skip, ↓aw_seq, ↓aw_block, ↓aw_exit, ↓aw_ret, ↓sops_nil, ↓sops_go, ↓dops_nil, ↓dopsX_nil, ↓dopsR_nil, ↓vdn, vup, extr_20, extr_21, extr_30, extr_31, extr_32, List.map_cons, List.map_nil, cond_true, cond_false, aop, aThen, aBlock, argEnv, ev, sput, sputO, binK, binI, unK, builtinK, pickK, Nat.reduceBEq, Nat.reduceAdd, Int.reduceBEq, Int.reduceBNe, Int.reduceLT, aPost, resK, tup, tyf, hdec, beq_self_eq_true]
end Go.Proofs.Tryd.Am

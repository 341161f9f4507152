/-
  ranks: the laws' own search: R.way, R.Way, R.Round.
-/
import Derived.Test.YtemmcfeekpblkaaDoorRkFind
set_option linter.all false
namespace Go.Proofs.Tryd.Am
open Go.Am
set_option maxRecDepth 100000
set_option maxHeartbeats 1000000

/-- The first way that goes on from begun through players not met. -/
def wayR (xs : List Int) (k : Nat) (round : Bool) : Nat → List Int → Nat → Option (List Int)
  | 0, _, _ => none
  | m + 1, begun, met => if begun.length = k then (if round = true ∧ closes xs k begun = false then none else some begun) else
    firstOf (fun i => if met.testBit i = true ∨ (begun ≠ [] ∧ bitI (xs.getD (begun.getD (begun.length - 1) 0).toNat 0) i = false) then none else wayR xs k round m (begun ++ [(i : Int)]) (met ||| 2 ^ i)) (List.range xs.length)

theorem range_pre {i n : Nat} (h : i < n) : List.range i ++ [i] <+: List.range n := by
  obtain ⟨d, rfl⟩ : ∃ d, n = i + 1 + d := ⟨n - (i + 1), by omega⟩
  rw [List.range_add, List.range_succ]
  exact List.prefix_append _ _

theorem rway_call [Tabs prog] {xs : List Int} {k : Nat} {round : Bool} (hx : trn xs = true) (hk0 : 0 < k) (hk : k ≤ xs.length) : ∀ (m : Nat) (begun : List Int) (met : Nat) (h : Heap) (tv bv : Value), IntSl h tv xs → IntSl h bv begun → (begun = [] → bv = .slice none 0 0) →
    (∀ x ∈ begun, ∃ i : Nat, x = i ∧ i < xs.length) → begun.length ≤ k → k - begun.length < m → met < 2 ^ xs.length →
    ACall prog 61 [tv, vint k, bv, vint met, .bool round] h fun r h' => (∃ g, h' = h ++ g) ∧ (match wayR xs k round m begun met with | none => r = .slice none 0 0 | some l => IntSl h' r l ∧ ∃ p n c, r = .slice (some p) n c) := by
  have hxl : xs.length ≤ 8 := by simp only [trn, Bool.and_eq_true, decide_eq_true_eq] at hx; omega
  have hpow : 2 ^ xs.length ≤ 2 ^ 8 := Nat.pow_le_pow_right (by decide) hxl
  intro m
  induction m with
  | zero => intro begun met h tv bv _ _ _ _ _ hm; omega
  | succ m ih =>
    intro begun met h tv bv ht hb hnil hr hle hm hmet
    have hlast : begun ≠ [] → ∃ i : Nat, begun.getD (begun.length - 1) 0 = i ∧ i < xs.length := fun he => by
      have hpos := List.length_pos_iff.2 he
      exact hr _ (by rw [List.getD, List.getElem?_eq_getElem (by omega)]; exact List.getElem_mem _)
    have hsub : begun ≠ [] → subV .i64 (begun.length : Nat) 1 = ((begun.length - 1 : Nat) : Int) := fun he => by
      have hpos := List.length_pos_iff.2 he
      rw [subV_id (by omega) (by omega)]; omega
    refine s61_call (by simp) ?_
    by_cases hlen : begun.length = k
    · have hne : begun ≠ [] := by rintro rfl; simp at hlen; omega
      have hpos := List.length_pos_iff.2 hne
      have hbp : ∃ p n c, bv = .slice (some p) n c := by
        rcases hb with ⟨_, rfl⟩ | ⟨b, o, sp, cap, c, e, ro, rfl, _⟩
        · exact absurd rfl hne
        · exact ⟨_, _, _, rfl⟩
      obtain ⟨i, hi, hin⟩ := hlast hne
      obtain ⟨j, hj, hjn⟩ := hr (begun.getD 0 0) (by rw [List.getD, List.getElem?_eq_getElem hpos]; exact List.getElem_mem _)
      obtain ⟨hb1, hb2⟩ := trn_at hx hin
      have hcl : closes xs k begun = bitI (xs.getD i 0) j := by simp only [closes, ← hlen, hi, hj, Int.toNat_natCast]
      have hi0 : ∀ (t : TypeId) (K : Value → Prop), elemOf' prog t = some 3 → idxAddrK prog t bv (vint 0) K = K (elemP bv 1 0) := fun t K he => by
        have := hb.idx he esz_3 (k := .i64) (i := 0) hpos K
        simpa using this
      have heq : ((begun.length : Int) == (k : Int)) = true := by simp [hlen]
      have hwr : wayR xs k round (m + 1) begun met = if round = true ∧ bitI (xs.getD i 0) j = false then none else some begun := by simp only [wayR, hlen, if_true, hcl]
      have hsub' : subV .i64 (k : Int) 1 = ((begun.length - 1 : Nat) : Int) := by rw [← hlen]; exact hsub hne
      simp (config := {maxSteps := 2000000}) only [s61, ↓aw_region, ↓aw_skip, ↓aw_seq, ↓aw_block, ↓aw_exit, ↓aw_ret, ↓sops_nil, ↓sops_go, ↓dops_nil, ↓dopsX_nil, ↓dopsR_nil, ↓vdn, vup, extr_20, extr_21, extr_30, extr_31, extr_32, List.map_cons, List.map_nil, cond_true, cond_false, aop, aThen, aBlock, argEnv, ev, sput, sputO, binK, binI, unK, builtinK, pickK, Nat.reduceBEq, Nat.reduceAdd, Int.reduceBEq, Int.reduceBNe, Int.reduceLT, aPost, resK, tup, tyf, hb.len, heq]
      refine aw_drawX [] (by kernel_rfl) (by kernel_rfl) (by kernel_rfl) (by kernel_rfl) ?_
      cases round with
      | false =>
        simp (config := {maxSteps := 2000000}) only [s61, ↓aw_region, ↓aw_skip, ↓aw_seq, ↓aw_block, ↓aw_exit, ↓aw_ret, ↓sops_nil, ↓sops_go, ↓dops_nil, ↓dopsX_nil, ↓dopsR_nil, ↓vdn, vup, extr_20, extr_21, extr_30, extr_31, extr_32, List.map_cons, List.map_nil, cond_true, cond_false, aop, aThen, aBlock, argEnv, ev, sput, sputO, binK, binI, unK, builtinK, pickK, Nat.reduceBEq, Nat.reduceAdd, Int.reduceBEq, Int.reduceBNe, Int.reduceLT, aPost, resK, tup, tyf]
        refine ⟨⟨[], by rw [List.append_nil]⟩, ?_⟩
        rw [hwr, if_neg (by simp)]
        exact ⟨hb, hbp⟩
      | true =>
        simp (config := {maxSteps := 2000000}) only [s61, ↓aw_region, ↓aw_skip, ↓aw_seq, ↓aw_block, ↓aw_exit, ↓aw_ret, ↓sops_nil, ↓sops_go, ↓dops_nil, ↓dopsX_nil, ↓dopsR_nil, ↓vdn, vup, extr_20, extr_21, extr_30, extr_31, extr_32, List.map_cons, List.map_nil, cond_true, cond_false, aop, aThen, aBlock, argEnv, ev, sput, sputO, binK, binI, unK, builtinK, pickK, Nat.reduceBEq, Nat.reduceAdd, Int.reduceBEq, Int.reduceBNe, Int.reduceLT, aPost, resK, tup, tyf, hsub', hb.idx el_22 esz_3 (show begun.length - 1 < begun.length by omega), hb.load shp_3 (show begun.length - 1 < begun.length by omega), hi, ht.idx el_22 esz_3 hin, ht.load shp_3 hin, hi0 22 _ el_22, hb.load shp_3 hpos, hj, Int.natCast_nonneg, testI hb1 hb2, beq0]
        rw [hwr]
        cases hbt : bitI (xs.getD i 0) j with
        | true =>
          simp (config := {maxSteps := 2000000}) only [s61, ↓aw_region, ↓aw_skip, ↓aw_seq, ↓aw_block, ↓aw_exit, ↓aw_ret, ↓sops_nil, ↓sops_go, ↓dops_nil, ↓dopsX_nil, ↓dopsR_nil, ↓vdn, vup, extr_20, extr_21, extr_30, extr_31, extr_32, List.map_cons, List.map_nil, cond_true, cond_false, aop, aThen, aBlock, argEnv, ev, sput, sputO, binK, binI, unK, builtinK, pickK, Nat.reduceBEq, Nat.reduceAdd, Int.reduceBEq, Int.reduceBNe, Int.reduceLT, aPost, resK, tup, tyf]
          exact ⟨⟨[], by rw [List.append_nil]⟩, hb, hbp⟩
        | false =>
          simp (config := {maxSteps := 2000000}) only [s61, ↓aw_region, ↓aw_skip, ↓aw_seq, ↓aw_block, ↓aw_exit, ↓aw_ret, ↓sops_nil, ↓sops_go, ↓dops_nil, ↓dopsX_nil, ↓dopsR_nil, ↓vdn, vup, extr_20, extr_21, extr_30, extr_31, extr_32, List.map_cons, List.map_nil, cond_true, cond_false, aop, aThen, aBlock, argEnv, ev, sput, sputO, binK, binI, unK, builtinK, pickK, Nat.reduceBEq, Nat.reduceAdd, Int.reduceBEq, Int.reduceBNe, Int.reduceLT, aPost, resK, tup, tyf]
          refine ⟨⟨[], by rw [List.append_nil]⟩, ?_⟩
          rw [if_pos trivial]; trivial
    · have heq : ((begun.length : Int) == (k : Int)) = false := by simp; omega
      let F : Nat → Option (List Int) := fun i => if met.testBit i = true ∨ (begun ≠ [] ∧ bitI (xs.getD (begun.getD (begun.length - 1) 0).toNat 0) i = false) then none else wayR xs k round m (begun ++ [(i : Int)]) (met ||| 2 ^ i)
      have hwr : wayR xs k round (m + 1) begun met = firstOf F (List.range xs.length) := by simp only [wayR, hlen, if_false]; rfl
      simp (config := {maxSteps := 2000000}) only [s61, ↓aw_region, ↓aw_skip, ↓aw_seq, ↓aw_block, ↓aw_exit, ↓aw_ret, ↓sops_nil, ↓sops_go, ↓dops_nil, ↓dopsX_nil, ↓dopsR_nil, ↓vdn, vup, extr_20, extr_21, extr_30, extr_31, extr_32, List.map_cons, List.map_nil, cond_true, cond_false, aop, aThen, aBlock, argEnv, ev, sput, sputO, binK, binI, unK, builtinK, pickK, Nat.reduceBEq, Nat.reduceAdd, Int.reduceBEq, Int.reduceBNe, Int.reduceLT, aPost, resK, tup, tyf, hb.len, heq, ht.len, ↓aw_loop_eq]
      refine aws_hide fun Q hQ => ?_
      refine aw_loop (γ := Nat × Heap) (fun s => s.1 ≤ xs.length ∧ ∀ j, j < s.1 → F j = none)
        (fun s => ([(0, tv), (1, vint k), (2, bv), (3, vint met), (4, .bool round), (10, .slice none 0 0), (11, vint begun.length), (37, tv), (38, vint xs.length), (39, vint s.1)], h ++ s.2)) (fun s => xs.length - s.1) (0, []) ⟨Nat.zero_le _, fun _ hj => by omega⟩ (by simp (config := {maxSteps := 2000000}) only [↓aw_region, ↓aw_skip, ↓aw_seq, ↓aw_block, ↓aw_exit, ↓aw_ret, ↓sops_nil, ↓sops_go, ↓dops_nil, ↓dopsX_nil, ↓dopsR_nil, ↓vdn, vup, extr_20, extr_21, extr_30, extr_31, extr_32, List.map_cons, List.map_nil, cond_true, cond_false, aop, aThen, aBlock, argEnv, ev, sput, sputO, binK, binI, unK, builtinK, pickK, Nat.reduceBEq, Nat.reduceAdd, Int.reduceBEq, Int.reduceBNe, Int.reduceLT, aPost, resK, tup, tyf, Int.natCast_zero]) (by rw [List.append_nil]) ?_
      rintro ⟨i, g⟩ ⟨hi, hok⟩
      simp only at hi hok
      refine aw_hide fun Q2 hQ2 => ?_
      have ht2 : IntSl (h ++ g) tv xs := ht.grow g
      have hb2 : IntSl (h ++ g) bv begun := hb.grow g
      by_cases hin : (i : Int) < xs.length
      · have hin' : i < xs.length := by omega
        have next : F i = none → ∀ j, j < i + 1 → F j = none := fun hF j hj => by
          by_cases h : j = i
          · rw [h]; exact hF
          · exact hok j (by omega)
        have goOn : ¬ (met.testBit i = true ∨ (begun ≠ [] ∧ bitI (xs.getD (begun.getD (begun.length - 1) 0).toNat 0) i = false)) → F i = wayR xs k round m (begun ++ [(i : Int)]) (met ||| 2 ^ i) := fun h => if_neg h
        have hr' : ∀ x ∈ begun ++ [(i : Int)], ∃ j : Nat, x = j ∧ j < xs.length := fun y hy => by
          rcases List.mem_append.1 hy with h | h
          · exact hr y h
          · exact ⟨i, List.mem_singleton.1 h, hin'⟩
        have hshl : shlV .i64 1 i = 2 ^ i := shl1 (by omega)
        have hor : bitsV .or .i64 (met : Int) (2 ^ i) = ((met ||| 2 ^ i : Nat) : Int) := by
          have := bitsV_or (a := met) (b := 2 ^ i) (by omega) (Nat.lt_of_lt_of_le (Nat.pow_lt_pow_right (by decide) (show i < 62 by omega)) (by decide))
          simpa using this
        have htm := testV (a := met) (y := i) (by omega)
        by_cases hmb : met.testBit i = true
        · simp (config := {maxSteps := 2000000}) only [s61, ↓aw_region, ↓aw_skip, ↓aw_seq, ↓aw_block, ↓aw_exit, ↓aw_ret, ↓sops_nil, ↓sops_go, ↓dops_nil, ↓dopsX_nil, ↓dopsR_nil, ↓vdn, vup, extr_20, extr_21, extr_30, extr_31, extr_32, List.map_cons, List.map_nil, cond_true, cond_false, aop, aThen, aBlock, argEnv, ev, sput, sputO, binK, binI, unK, builtinK, pickK, Nat.reduceBEq, Nat.reduceAdd, Int.reduceBEq, Int.reduceBNe, Int.reduceLT, aPost, resK, tup, tyf, l61_0, hin, Int.natCast_nonneg, htm, hmb, if_true, add1 (show i < 9223372036854775807 by omega)]
          refine hQ2 _ _ _ ⟨(i + 1, g), ⟨by simp only; omega, next (if_pos (.inl hmb))⟩, by simp only; omega, by simp (config := {maxSteps := 2000000}) only [↓aw_region, ↓aw_skip, ↓aw_seq, ↓aw_block, ↓aw_exit, ↓aw_ret, ↓sops_nil, ↓sops_go, ↓dops_nil, ↓dopsX_nil, ↓dopsR_nil, ↓vdn, vup, extr_20, extr_21, extr_30, extr_31, extr_32, List.map_cons, List.map_nil, cond_true, cond_false, aop, aThen, aBlock, argEnv, ev, sput, sputO, binK, binI, unK, builtinK, pickK, Nat.reduceBEq, Nat.reduceAdd, Int.reduceBEq, Int.reduceBNe, Int.reduceLT, aPost, resK, tup, tyf], rfl⟩
        simp only [Bool.not_eq_true] at hmb
        by_cases he : begun = []
        · have hl0 : ¬ ((0 : Int) < (begun.length : Nat)) := by rw [he]; simp
          have hF := goOn (by rintro (h | h); rw [hmb] at h; cases h; exact h.1 he)
          simp (config := {maxSteps := 2000000}) only [s61, ↓aw_region, ↓aw_skip, ↓aw_seq, ↓aw_block, ↓aw_exit, ↓aw_ret, ↓sops_nil, ↓sops_go, ↓dops_nil, ↓dopsX_nil, ↓dopsR_nil, ↓vdn, vup, extr_20, extr_21, extr_30, extr_31, extr_32, List.map_cons, List.map_nil, cond_true, cond_false, aop, aThen, aBlock, argEnv, ev, sput, sputO, binK, binI, unK, builtinK, pickK, Nat.reduceBEq, Nat.reduceAdd, Int.reduceBEq, Int.reduceBNe, Int.reduceLT, aPost, resK, tup, tyf, l61_0, hin, Int.natCast_nonneg, htm, hmb, if_false, Bool.false_eq_true, hl0, gt_iff_lt, Option.map_some, Option.map_none]
          refine aw_drawX [(14, 4)] (by kernel_rfl) (by kernel_rfl) (by kernel_rfl) (by kernel_rfl) ?_
          simp (config := {maxSteps := 2000000}) only [s61, ↓aw_region, ↓aw_skip, ↓aw_seq, ↓aw_block, ↓aw_exit, ↓aw_ret, ↓sops_nil, ↓sops_go, ↓dops_nil, ↓dopsX_nil, ↓dopsR_nil, ↓vdn, vup, extr_20, extr_21, extr_30, extr_31, extr_32, List.map_cons, List.map_nil, cond_true, cond_false, aop, aThen, aBlock, argEnv, ev, sput, sputO, binK, binI, unK, builtinK, pickK, Nat.reduceBEq, Nat.reduceAdd, Int.reduceBEq, Int.reduceBNe, Int.reduceLT, aPost, resK, tup, tyf, lit1, Option.map_some, Option.map_none]
          refine hb2.clip hnil el_22 esz_3 ?_
          intro v1 hfull
          refine (hfull.grow _).push app_22_22 (by omega) (get_new _ _) ?_
          intro v2 hown
          simp (config := {maxSteps := 2000000}) only [s61, ↓aw_region, ↓aw_skip, ↓aw_seq, ↓aw_block, ↓aw_exit, ↓aw_ret, ↓sops_nil, ↓sops_go, ↓dops_nil, ↓dopsX_nil, ↓dopsR_nil, ↓vdn, vup, extr_20, extr_21, extr_30, extr_31, extr_32, List.map_cons, List.map_nil, cond_true, cond_false, aop, aThen, aBlock, argEnv, ev, sput, sputO, binK, binI, unK, builtinK, pickK, Nat.reduceBEq, Nat.reduceAdd, Int.reduceBEq, Int.reduceBNe, Int.reduceLT, aPost, resK, tup, tyf, hshl, hor, callK, List.nil_append, List.append_nil, List.toList_toArray, List.cons_append]
          refine (ih (begun ++ [(i : Int)]) (met ||| 2 ^ i) _ tv v2 ((ht2.grow _).grow _) hown.int (fun h => by simp at h) hr' (by simp; omega) (by simp; omega) (Nat.or_lt_two_pow hmet (Nat.pow_lt_pow_right (by decide) hin'))).mono ?_
          rintro r h3 ⟨⟨g2, rfl⟩, hres⟩
          rw [← hF] at hres
          cases hg : F i with
          | none =>
            rw [hg] at hres
            simp only at hres
            subst hres
            simp (config := {maxSteps := 2000000}) only [s61, ↓aw_region, ↓aw_skip, ↓aw_seq, ↓aw_block, ↓aw_exit, ↓aw_ret, ↓sops_nil, ↓sops_go, ↓dops_nil, ↓dopsX_nil, ↓dopsR_nil, ↓vdn, vup, extr_20, extr_21, extr_30, extr_31, extr_32, List.map_cons, List.map_nil, cond_true, cond_false, aop, aThen, aBlock, argEnv, ev, sput, sputO, binK, binI, unK, builtinK, pickK, Nat.reduceBEq, Nat.reduceAdd, Int.reduceBEq, Int.reduceBNe, Int.reduceLT, aPost, resK, tup, tyf, Option.isSome_some, add1 (show i < 9223372036854775807 by omega)]
            refine hQ2 _ _ _ ⟨(i + 1, _), ⟨by simp only; omega, next hg⟩, by simp only; omega, by simp (config := {maxSteps := 2000000}) only [↓aw_region, ↓aw_skip, ↓aw_seq, ↓aw_block, ↓aw_exit, ↓aw_ret, ↓sops_nil, ↓sops_go, ↓dops_nil, ↓dopsX_nil, ↓dopsR_nil, ↓vdn, vup, extr_20, extr_21, extr_30, extr_31, extr_32, List.map_cons, List.map_nil, cond_true, cond_false, aop, aThen, aBlock, argEnv, ev, sput, sputO, binK, binI, unK, builtinK, pickK, Nat.reduceBEq, Nat.reduceAdd, Int.reduceBEq, Int.reduceBNe, Int.reduceLT, aPost, resK, tup, tyf], by simp only [List.append_assoc]; rfl⟩
          | some l =>
            rw [hg] at hres
            obtain ⟨h4, p, n, c, rfl⟩ := hres
            simp (config := {maxSteps := 2000000}) only [s61, ↓aw_region, ↓aw_skip, ↓aw_seq, ↓aw_block, ↓aw_exit, ↓aw_ret, ↓sops_nil, ↓sops_go, ↓dops_nil, ↓dopsX_nil, ↓dopsR_nil, ↓vdn, vup, extr_20, extr_21, extr_30, extr_31, extr_32, List.map_cons, List.map_nil, cond_true, cond_false, aop, aThen, aBlock, argEnv, ev, sput, sputO, binK, binI, unK, builtinK, pickK, Nat.reduceBEq, Nat.reduceAdd, Int.reduceBEq, Int.reduceBNe, Int.reduceLT, aPost, resK, tup, tyf, Option.isSome_some]
            refine hQ2 _ _ _ (hQ _ _ _ ?_)
            simp (config := {maxSteps := 2000000}) only [s61, ↓aw_region, ↓aw_skip, ↓aw_seq, ↓aw_block, ↓aw_exit, ↓aw_ret, ↓sops_nil, ↓sops_go, ↓dops_nil, ↓dopsX_nil, ↓dopsR_nil, ↓vdn, vup, extr_20, extr_21, extr_30, extr_31, extr_32, List.map_cons, List.map_nil, cond_true, cond_false, aop, aThen, aBlock, argEnv, ev, sput, sputO, binK, binI, unK, builtinK, pickK, Nat.reduceBEq, Nat.reduceAdd, Int.reduceBEq, Int.reduceBNe, Int.reduceLT, aPost, resK, tup, tyf]
            refine ⟨⟨_, by simp only [List.append_assoc]; rfl⟩, ?_⟩
            rw [hwr, firstOf_some (List.range i) (fun z hz => hok z (List.mem_range.1 hz)) hg (range_pre hin')]
            exact ⟨h4, p, n, c, rfl⟩
        have hpos := List.length_pos_iff.2 he
        obtain ⟨a, ha, han⟩ := hlast he
        obtain ⟨hb1, hb3⟩ := trn_at hx han
        have hta := testI hb1 hb3 i
        by_cases hbt : bitI (xs.getD a 0) i = true
        · skip
          have hF := goOn (by rintro (h | h); rw [hmb] at h; cases h; have h2 := h.2; rw [ha, Int.toNat_natCast, hbt] at h2; cases h2)
          simp (config := {maxSteps := 2000000}) only [s61, ↓aw_region, ↓aw_skip, ↓aw_seq, ↓aw_block, ↓aw_exit, ↓aw_ret, ↓sops_nil, ↓sops_go, ↓dops_nil, ↓dopsX_nil, ↓dopsR_nil, ↓vdn, vup, extr_20, extr_21, extr_30, extr_31, extr_32, List.map_cons, List.map_nil, cond_true, cond_false, aop, aThen, aBlock, argEnv, ev, sput, sputO, binK, binI, unK, builtinK, pickK, Nat.reduceBEq, Nat.reduceAdd, Int.reduceBEq, Int.reduceBNe, Int.reduceLT, aPost, resK, tup, tyf, l61_0, hin, Int.natCast_nonneg, htm, hmb, hta, hbt, if_true, if_false, Bool.false_eq_true, Int.natCast_pos.2 hpos, hsub he, hb2.idx el_22 esz_3 (show begun.length - 1 < begun.length by omega), hb2.load shp_3 (show begun.length - 1 < begun.length by omega), ha, ht2.idx el_22 esz_3 han, ht2.load shp_3 han, gt_iff_lt]
          refine aw_drawX [(14, 4)] (by kernel_rfl) (by kernel_rfl) (by kernel_rfl) (by kernel_rfl) ?_
          simp (config := {maxSteps := 2000000}) only [s61, ↓aw_region, ↓aw_skip, ↓aw_seq, ↓aw_block, ↓aw_exit, ↓aw_ret, ↓sops_nil, ↓sops_go, ↓dops_nil, ↓dopsX_nil, ↓dopsR_nil, ↓vdn, vup, extr_20, extr_21, extr_30, extr_31, extr_32, List.map_cons, List.map_nil, cond_true, cond_false, aop, aThen, aBlock, argEnv, ev, sput, sputO, binK, binI, unK, builtinK, pickK, Nat.reduceBEq, Nat.reduceAdd, Int.reduceBEq, Int.reduceBNe, Int.reduceLT, aPost, resK, tup, tyf, lit1, Option.map_some, Option.map_none]
          refine hb2.clip hnil el_22 esz_3 ?_
          intro v1 hfull
          refine (hfull.grow _).push app_22_22 (by omega) (get_new _ _) ?_
          intro v2 hown
          simp (config := {maxSteps := 2000000}) only [s61, ↓aw_region, ↓aw_skip, ↓aw_seq, ↓aw_block, ↓aw_exit, ↓aw_ret, ↓sops_nil, ↓sops_go, ↓dops_nil, ↓dopsX_nil, ↓dopsR_nil, ↓vdn, vup, extr_20, extr_21, extr_30, extr_31, extr_32, List.map_cons, List.map_nil, cond_true, cond_false, aop, aThen, aBlock, argEnv, ev, sput, sputO, binK, binI, unK, builtinK, pickK, Nat.reduceBEq, Nat.reduceAdd, Int.reduceBEq, Int.reduceBNe, Int.reduceLT, aPost, resK, tup, tyf, hshl, hor, callK, List.nil_append, List.append_nil, List.toList_toArray, List.cons_append]
          refine (ih (begun ++ [(i : Int)]) (met ||| 2 ^ i) _ tv v2 ((ht2.grow _).grow _) hown.int (fun h => by simp at h) hr' (by simp; omega) (by simp; omega) (Nat.or_lt_two_pow hmet (Nat.pow_lt_pow_right (by decide) hin'))).mono ?_
          rintro r h3 ⟨⟨g2, rfl⟩, hres⟩
          rw [← hF] at hres
          cases hg : F i with
          | none =>
            rw [hg] at hres
            simp only at hres
            subst hres
            simp (config := {maxSteps := 2000000}) only [s61, ↓aw_region, ↓aw_skip, ↓aw_seq, ↓aw_block, ↓aw_exit, ↓aw_ret, ↓sops_nil, ↓sops_go, ↓dops_nil, ↓dopsX_nil, ↓dopsR_nil, ↓vdn, vup, extr_20, extr_21, extr_30, extr_31, extr_32, List.map_cons, List.map_nil, cond_true, cond_false, aop, aThen, aBlock, argEnv, ev, sput, sputO, binK, binI, unK, builtinK, pickK, Nat.reduceBEq, Nat.reduceAdd, Int.reduceBEq, Int.reduceBNe, Int.reduceLT, aPost, resK, tup, tyf, Option.isSome_some, add1 (show i < 9223372036854775807 by omega)]
            refine hQ2 _ _ _ ⟨(i + 1, _), ⟨by simp only; omega, next hg⟩, by simp only; omega, by simp (config := {maxSteps := 2000000}) only [↓aw_region, ↓aw_skip, ↓aw_seq, ↓aw_block, ↓aw_exit, ↓aw_ret, ↓sops_nil, ↓sops_go, ↓dops_nil, ↓dopsX_nil, ↓dopsR_nil, ↓vdn, vup, extr_20, extr_21, extr_30, extr_31, extr_32, List.map_cons, List.map_nil, cond_true, cond_false, aop, aThen, aBlock, argEnv, ev, sput, sputO, binK, binI, unK, builtinK, pickK, Nat.reduceBEq, Nat.reduceAdd, Int.reduceBEq, Int.reduceBNe, Int.reduceLT, aPost, resK, tup, tyf], by simp only [List.append_assoc]; rfl⟩
          | some l =>
            rw [hg] at hres
            obtain ⟨h4, p, n, c, rfl⟩ := hres
            simp (config := {maxSteps := 2000000}) only [s61, ↓aw_region, ↓aw_skip, ↓aw_seq, ↓aw_block, ↓aw_exit, ↓aw_ret, ↓sops_nil, ↓sops_go, ↓dops_nil, ↓dopsX_nil, ↓dopsR_nil, ↓vdn, vup, extr_20, extr_21, extr_30, extr_31, extr_32, List.map_cons, List.map_nil, cond_true, cond_false, aop, aThen, aBlock, argEnv, ev, sput, sputO, binK, binI, unK, builtinK, pickK, Nat.reduceBEq, Nat.reduceAdd, Int.reduceBEq, Int.reduceBNe, Int.reduceLT, aPost, resK, tup, tyf, Option.isSome_some]
            refine hQ2 _ _ _ (hQ _ _ _ ?_)
            simp (config := {maxSteps := 2000000}) only [s61, ↓aw_region, ↓aw_skip, ↓aw_seq, ↓aw_block, ↓aw_exit, ↓aw_ret, ↓sops_nil, ↓sops_go, ↓dops_nil, ↓dopsX_nil, ↓dopsR_nil, ↓vdn, vup, extr_20, extr_21, extr_30, extr_31, extr_32, List.map_cons, List.map_nil, cond_true, cond_false, aop, aThen, aBlock, argEnv, ev, sput, sputO, binK, binI, unK, builtinK, pickK, Nat.reduceBEq, Nat.reduceAdd, Int.reduceBEq, Int.reduceBNe, Int.reduceLT, aPost, resK, tup, tyf]
            refine ⟨⟨_, by simp only [List.append_assoc]; rfl⟩, ?_⟩
            rw [hwr, firstOf_some (List.range i) (fun z hz => hok z (List.mem_range.1 hz)) hg (range_pre hin')]
            exact ⟨h4, p, n, c, rfl⟩
        · simp only [Bool.not_eq_true] at hbt
          simp (config := {maxSteps := 2000000}) only [s61, ↓aw_region, ↓aw_skip, ↓aw_seq, ↓aw_block, ↓aw_exit, ↓aw_ret, ↓sops_nil, ↓sops_go, ↓dops_nil, ↓dopsX_nil, ↓dopsR_nil, ↓vdn, vup, extr_20, extr_21, extr_30, extr_31, extr_32, List.map_cons, List.map_nil, cond_true, cond_false, aop, aThen, aBlock, argEnv, ev, sput, sputO, binK, binI, unK, builtinK, pickK, Nat.reduceBEq, Nat.reduceAdd, Int.reduceBEq, Int.reduceBNe, Int.reduceLT, aPost, resK, tup, tyf, l61_0, hin, Int.natCast_nonneg, htm, hmb, hta, hbt, if_true, if_false, Bool.false_eq_true, Int.natCast_pos.2 hpos, hsub he, hb2.idx el_22 esz_3 (show begun.length - 1 < begun.length by omega), hb2.load shp_3 (show begun.length - 1 < begun.length by omega), ha, ht2.idx el_22 esz_3 han, ht2.load shp_3 han, gt_iff_lt, add1 (show i < 9223372036854775807 by omega)]
          refine hQ2 _ _ _ ⟨(i + 1, g), ⟨by simp only; omega, next (if_pos (.inr ⟨he, by rw [ha, Int.toNat_natCast]; exact hbt⟩))⟩, by simp only; omega, by simp (config := {maxSteps := 2000000}) only [↓aw_region, ↓aw_skip, ↓aw_seq, ↓aw_block, ↓aw_exit, ↓aw_ret, ↓sops_nil, ↓sops_go, ↓dops_nil, ↓dopsX_nil, ↓dopsR_nil, ↓vdn, vup, extr_20, extr_21, extr_30, extr_31, extr_32, List.map_cons, List.map_nil, cond_true, cond_false, aop, aThen, aBlock, argEnv, ev, sput, sputO, binK, binI, unK, builtinK, pickK, Nat.reduceBEq, Nat.reduceAdd, Int.reduceBEq, Int.reduceBNe, Int.reduceLT, aPost, resK, tup, tyf], rfl⟩
      · obtain rfl : i = xs.length := by omega
        simp (config := {maxSteps := 2000000}) only [s61, ↓aw_region, ↓aw_skip, ↓aw_seq, ↓aw_block, ↓aw_exit, ↓aw_ret, ↓sops_nil, ↓sops_go, ↓dops_nil, ↓dopsX_nil, ↓dopsR_nil, ↓vdn, vup, extr_20, extr_21, extr_30, extr_31, extr_32, List.map_cons, List.map_nil, cond_true, cond_false, aop, aThen, aBlock, argEnv, ev, sput, sputO, binK, binI, unK, builtinK, pickK, Nat.reduceBEq, Nat.reduceAdd, Int.reduceBEq, Int.reduceBNe, Int.reduceLT, aPost, resK, tup, tyf, l61_0, Int.lt_irrefl]
        refine hQ2 _ _ _ (hQ _ _ _ ?_)
        simp (config := {maxSteps := 2000000}) only [s61, ↓aw_region, ↓aw_skip, ↓aw_seq, ↓aw_block, ↓aw_exit, ↓aw_ret, ↓sops_nil, ↓sops_go, ↓dops_nil, ↓dopsX_nil, ↓dopsR_nil, ↓vdn, vup, extr_20, extr_21, extr_30, extr_31, extr_32, List.map_cons, List.map_nil, cond_true, cond_false, aop, aThen, aBlock, argEnv, ev, sput, sputO, binK, binI, unK, builtinK, pickK, Nat.reduceBEq, Nat.reduceAdd, Int.reduceBEq, Int.reduceBNe, Int.reduceLT, aPost, resK, tup, tyf]
        refine ⟨⟨g, rfl⟩, ?_⟩
        rw [hwr, firstOf_none fun z hz => hok z (List.mem_range.1 hz)]
        trivial
end Go.Proofs.Tryd.Am

/-
  ranks: Turn.
-/
import Derived.Test.YtemmcfeekpblkaaDoorRkPairs
set_option linter.all false
namespace Go.Proofs.Tryd.Am
open Go.Am
set_option maxRecDepth 100000
set_option maxHeartbeats 1000000

/-- A result turned in a player's set. -/
def xI (a : Int) (m : Nat) : Int := ((a.toNat ^^^ 2 ^ m : Nat) : Int)
def half (t : List Int) (i j : Nat) : List Int := t.set i (xI (t.getD i 0) j)
def stepT (t : List Int) (p : Int × Int) : List Int := half (half t p.1.toNat p.2.toNat) p.2.toNat p.1.toNat
def turnTo (xs : List Int) (ps : List (Int × Int)) : Nat → List Int
  | 0 => xs
  | k + 1 => stepT (turnTo xs ps k) (ps.getD k (0, 0))
def okPr (n : Nat) (p : Int × Int) : Bool := decide (0 ≤ p.1) && decide (p.1 < p.2) && decide (p.2 < n)
def okK (n : Nat) (ps : List (Int × Int)) (k : Nat) : Bool := okPr n (ps.getD k (0, 0)) && !(ps.take k).contains (ps.getD k (0, 0))
def okPs (n : Nat) (ps : List (Int × Int)) : Bool := (List.range ps.length).all (okK n ps) && decide (ps.length ≤ 28)
def Sm (n : Nat) (t : List Int) : Prop := t.length = n ∧ ∀ i, i < n → 0 ≤ t.getD i 0 ∧ t.getD i 0 < 256
theorem half_sm {n : Nat} {t : List Int} (h : Sm n t) {i j : Nat} (hi : i < n) (hj : j < n) (hn : n ≤ 8) : Sm n (half t i j) := by
  refine ⟨by rw [half, List.length_set]; exact h.1, fun k hk => ?_⟩
  by_cases hki : k = i
  · subst hki
    have e : (half t k j).getD k 0 = xI (t.getD k 0) j := by
      rw [half, List.getD, List.getElem?_set_self (by rw [h.1]; exact hk)]; rfl
    have h1 := h.2 k hk
    have h2 : (t.getD k 0).toNat ^^^ 2 ^ j < 2 ^ 8 := Nat.xor_lt_two_pow (by omega) (Nat.pow_lt_pow_right (by decide) (by omega))
    rw [e, xI]; omega
  · have e : (half t i j).getD k 0 = t.getD k 0 := by rw [half, List.getD, List.getElem?_set_ne (Ne.symm hki)]; rfl
    rw [e]; exact h.2 k hk
theorem okPr_nat {n : Nat} {p : Int × Int} (h : okPr n p = true) : ∃ i j : Nat, p = ((i : Int), (j : Int)) ∧ i < j ∧ j < n := by
  simp only [okPr, Bool.and_eq_true, decide_eq_true_eq] at h
  exact ⟨p.1.toNat, p.2.toNat, Prod.ext (by simp; omega) (by simp; omega), by omega, by omega⟩
theorem turn_sm {xs : List Int} {ps : List (Int × Int)} (h0 : Sm xs.length xs) (hn : xs.length ≤ 8) : ∀ k, (∀ i, i < k → okPr xs.length (ps.getD i (0, 0)) = true) → Sm xs.length (turnTo xs ps k)
  | 0, _ => h0
  | k + 1, h => by
    have ih := turn_sm h0 hn k fun i hi => h i (by omega)
    obtain ⟨i, j, hp, hij, hj⟩ := okPr_nat (h k (by omega))
    rw [turnTo, stepT, hp]
    exact half_sm (half_sm ih (by simp; omega) (by simpa using hj) hn) (by simpa using hj) (by simp; omega) hn
theorem trn_sm {xs : List Int} (h : trn xs = true) : Sm xs.length xs := ⟨rfl, fun i hi => by
  have hl := trn_len h
  have := trn_nat h hi
  have : 2 ^ xs.length ≤ 2 ^ 8 := Nat.pow_le_pow_right (by decide) hl.2
  omega⟩
theorem xor_half {n : Nat} {t : List Int} (h : Sm n t) {i j : Nat} (hi : i < n) (hj : j < n) (hn : n ≤ 8) : bitsV .xor .i64 (t.getD i 0) (shlV .i64 1 ((j : Nat) : Int)) = xI (t.getD i 0) j := by
  have h1 := h.2 i hi
  obtain ⟨a, ha⟩ : ∃ a : Nat, t.getD i 0 = (a : Int) := ⟨(t.getD i 0).toNat, by omega⟩
  have h2 : 2 ^ j < 2 ^ 8 := Nat.pow_lt_pow_right (by decide) (by omega)
  rw [ha] at h1 ⊢
  rw [shl1 (by omega)]
  have := bitsV_xor (a := a) (b := 2 ^ j) (by omega) (by omega)
  rw [xI, Int.toNat_natCast, ← this]; simp
section
variable {h : Heap} {t e : TypeId} {b o n c k : Nat} {xs : List Int} {ro : Bool}
theorem idxW {K : Value → Prop} (hk : k < n) : idxAddrK prog 22 (.slice (some ⟨b, 0, some 0⟩) n c) (vint (k : Nat)) K = K (.pointer (some ⟨b, k, none⟩)) := by
  simp only [idxAddrK, el_22, esz_3, Int.natCast_nonneg, Int.toNat_natCast, Nat.mul_one, Nat.zero_add, true_and, Int.ofNat_lt.2 hk]
theorem loadX {K : Value → Prop} (hb : h[b]? = some (.ints xs e ro)) (ho : o < xs.length) : loadK prog h 3 (.pointer (some ⟨b, o, none⟩)) K = K (vint (xs.getD o 0)) := by
  simp only [loadK, shp_3, cellK, hb, ho, true_and]
theorem storeX {K : Heap → Prop} {x : Int} (hb : h[b]? = some (.ints xs e false)) (ho : o < xs.length) : storeK prog h 3 (.pointer (some ⟨b, o, none⟩)) (vint x) K = K (h.set b (.ints (xs.set o x) e false)) := by
  simp only [storeK, shp_3, hb, ho, true_and]
end
/-- A copy of a list, in a block of its own. -/
def Fresh (h : Heap) (xs : List Int) (r : Value) (h' : Heap) : Prop := ∃ b, r = .slice (some ⟨b, 0, some 0⟩) xs.length xs.length ∧ h'[b]? = some (.ints xs 3 false) ∧ h.length ≤ b ∧ Ext (fun _ => False) h h'
theorem lit0I {h : Heap} (K : Value → Heap → Prop) : buildSliceK prog h 22 0 [] K = K (.slice (some ⟨h.length, 0, none⟩) 0 0) (h ++ [.ints [] 3 false]) := by
  simp only [buildSliceK, el_22, zero_3, esz_3, reps, fillL, mkb, intsOf, List.length_cons, List.length_nil, Nat.mul_one, Nat.zero_mul]
  exact propext ⟨fun h => h.2.2.2, fun h => ⟨trivial, by decide, by decide, h⟩⟩
theorem appFresh {h : Heap} {v : Value} {xs : List Int} (hv : IntSl h v xs) (hx : xs ≠ []) (hl : xs.length < 1099511627776) {K : Value → Heap → Prop} (hk : ∀ r h', Fresh h xs r h' → K r h') :
    appendK prog (h ++ [.ints [] 3 false]) 22 22 (.slice (some ⟨h.length, 0, none⟩) 0 0) v K := by
  refine (hv.grow [.ints [] 3 false]).copyOwn hx app_22_22 hl (by rw [List.getElem?_append_right (Nat.le_refl _)]; simp) ?_
  refine hk _ _ ⟨h.length + 1, ?_, ?_, by omega, by rw [List.append_assoc]; exact Ext.app _ _ _⟩
  · simp
  · rw [List.getElem?_append_right (by simp)]; simp
theorem clone_fresh [Tabs prog] {h : Heap} {v : Value} {xs : List Int} (hv : IntSl h v xs) (hx : xs ≠ []) (hl : xs.length < 1099511627776) : ACall prog 46 [v] h fun r h' => Fresh h xs r h' := by
  refine s46_call (by simp) ?_
  have hv' := hv
  rcases hv with ⟨rfl, rfl⟩ | ⟨b, o, sp, cap, c, e, ro, rfl, hc, hb, _⟩
  · exact absurd rfl hx
  · simp (config := {maxSteps := 2000000}) only [s46, ↓aw_region, ↓aw_skip, ↓aw_seq, ↓aw_block, ↓aw_exit, ↓aw_ret, ↓sops_nil, ↓sops_go, ↓dops_nil, ↓dopsX_nil, ↓dopsR_nil, ↓vdn, vup, extr_20, extr_21, extr_30, extr_31, extr_32, List.map_cons, List.map_nil, cond_true, cond_false, aop, aThen, aBlock, argEnv, ev, sput, sputO, binK, binI, unK, builtinK, pickK, Nat.reduceBEq, Nat.reduceAdd, Int.reduceBEq, Int.reduceBNe, Int.reduceLT, aPost, resK, tup, tyf, Option.isSome_some, List.toList_toArray, lit0I]
    refine appFresh hv' hx hl fun r h' hf => ?_
    exact hf

theorem turn_call [BitTab prog 1] {h : Heap} {v pv : Value} {xs : List Int} {ps : List (Int × Int)} (hv : IntSl h v xs) (hp : PairSl h pv ps) (hl : xs.length < 9223372036854775808) (hx : ∀ x ∈ xs, -9223372036854775808 ≤ x ∧ x < 9223372036854775808) (hpl : ps.length < 9223372036854775807) :
    ACall prog 41 [v, pv] h fun r h' => Ext (fun _ => False) h h' ∧ if trn xs = true ∧ okPs xs.length ps = true then ∃ w, r = .tuple #[w, .int .i64 0] ∧ IntSl h' w (turnTo xs ps ps.length) else r = .tuple #[.slice none 0 0, .int .i64 2] := by
  refine s41_call (by simp) ?_
  simp only [s41]
  refine aw_cut fun N hN => ?_
  simp (config := {maxSteps := 2000000}) only [s41, ↓aw_region, ↓aw_skip, ↓aw_seq, ↓aw_block, ↓aw_exit, ↓aw_ret, ↓sops_nil, ↓sops_go, ↓dops_nil, ↓dopsX_nil, ↓dopsR_nil, ↓vdn, vup, extr_20, extr_21, extr_30, extr_31, extr_32, List.map_cons, List.map_nil, cond_true, cond_false, aop, aThen, aBlock, argEnv, ev, sput, sputO, binK, binI, unK, builtinK, pickK, Nat.reduceBEq, Nat.reduceAdd, Int.reduceBEq, Int.reduceBNe, Int.reduceLT, aPost, resK, tup, tyf]
  refine hN _ _ ?_
  clear hN N
  refine aw_cut fun N hN => ?_
  simp (config := {maxSteps := 2000000}) only [s41, ↓aw_region, ↓aw_skip, ↓aw_seq, ↓aw_block, ↓aw_exit, ↓aw_ret, ↓sops_nil, ↓sops_go, ↓dops_nil, ↓dopsX_nil, ↓dopsR_nil, ↓vdn, vup, extr_20, extr_21, extr_30, extr_31, extr_32, List.map_cons, List.map_nil, cond_true, cond_false, aop, aThen, aBlock, argEnv, ev, sput, sputO, binK, binI, unK, builtinK, pickK, Nat.reduceBEq, Nat.reduceAdd, Int.reduceBEq, Int.reduceBNe, Int.reduceLT, aPost, resK, tup, tyf, callK, List.nil_append, List.append_nil, List.toList_toArray, List.cons_append]
  refine (valid_call hv hl hx).mono ?_
  rintro _ h ⟨rfl, rfl⟩
  cases ht : trn xs with
  | false =>
    simp (config := {maxSteps := 2000000}) only [s41, ↓aw_region, ↓aw_skip, ↓aw_seq, ↓aw_block, ↓aw_exit, ↓aw_ret, ↓sops_nil, ↓sops_go, ↓dops_nil, ↓dopsX_nil, ↓dopsR_nil, ↓vdn, vup, extr_20, extr_21, extr_30, extr_31, extr_32, List.map_cons, List.map_nil, cond_true, cond_false, aop, aThen, aBlock, argEnv, ev, sput, sputO, binK, binI, unK, builtinK, pickK, Nat.reduceBEq, Nat.reduceAdd, Int.reduceBEq, Int.reduceBNe, Int.reduceLT, aPost, resK, tup, tyf, ht, Bool.false_eq_true, false_and, if_false]
    exact Ext.refl _ _
  | true =>
    by_cases h28 : ps.length ≤ 28
    rotate_left
    · have hgt : (28 : Int) < ((ps.length : Nat) : Int) := by omega
      have hno : okPs xs.length ps = false := by rw [okPs, decide_eq_false h28, Bool.and_false]
      simp (config := {maxSteps := 2000000}) only [s41, ↓aw_region, ↓aw_skip, ↓aw_seq, ↓aw_block, ↓aw_exit, ↓aw_ret, ↓sops_nil, ↓sops_go, ↓dops_nil, ↓dopsX_nil, ↓dopsR_nil, ↓vdn, vup, extr_20, extr_21, extr_30, extr_31, extr_32, List.map_cons, List.map_nil, cond_true, cond_false, aop, aThen, aBlock, argEnv, ev, sput, sputO, binK, binI, unK, builtinK, pickK, Nat.reduceBEq, Nat.reduceAdd, Int.reduceBEq, Int.reduceBNe, Int.reduceLT, aPost, resK, tup, tyf, ht, hp.len, gt_iff_lt, hgt, hno, Bool.false_eq_true, and_false, if_false]
      exact Ext.refl _ _
    have hgt : ¬ (28 : Int) < ((ps.length : Nat) : Int) := by omega
    have hlen := trn_len ht
    have hne : xs ≠ [] := by rintro rfl; simp at hlen
    have hsm0 := trn_sm ht
    simp (config := {maxSteps := 2000000}) only [s41, ↓aw_region, ↓aw_skip, ↓aw_seq, ↓aw_block, ↓aw_exit, ↓aw_ret, ↓sops_nil, ↓sops_go, ↓dops_nil, ↓dopsX_nil, ↓dopsR_nil, ↓vdn, vup, extr_20, extr_21, extr_30, extr_31, extr_32, List.map_cons, List.map_nil, cond_true, cond_false, aop, aThen, aBlock, argEnv, ev, sput, sputO, binK, binI, unK, builtinK, pickK, Nat.reduceBEq, Nat.reduceAdd, Int.reduceBEq, Int.reduceBNe, Int.reduceLT, aPost, resK, tup, tyf, ht, hp.len, gt_iff_lt, hgt]
    refine hN _ _ ?_
    clear hN N
    refine aw_cut fun N hN => ?_
    simp (config := {maxSteps := 2000000}) only [s41, ↓aw_region, ↓aw_skip, ↓aw_seq, ↓aw_block, ↓aw_exit, ↓aw_ret, ↓sops_nil, ↓sops_go, ↓dops_nil, ↓dopsX_nil, ↓dopsR_nil, ↓vdn, vup, extr_20, extr_21, extr_30, extr_31, extr_32, List.map_cons, List.map_nil, cond_true, cond_false, aop, aThen, aBlock, argEnv, ev, sput, sputO, binK, binI, unK, builtinK, pickK, Nat.reduceBEq, Nat.reduceAdd, Int.reduceBEq, Int.reduceBNe, Int.reduceLT, aPost, resK, tup, tyf, callK, List.nil_append, List.append_nil, List.toList_toArray, List.cons_append]
    refine (clone_fresh hv hne (by omega)).mono ?_
    rintro _ h1 ⟨b, rfl, hb1, hbl, hE1⟩
    refine hN _ _ ?_
    clear hN N
    simp (config := {maxSteps := 2000000}) only [s41, ↓aw_region, ↓aw_skip, ↓aw_seq, ↓aw_block, ↓aw_exit, ↓aw_ret, ↓sops_nil, ↓sops_go, ↓dops_nil, ↓dopsX_nil, ↓dopsR_nil, ↓vdn, vup, extr_20, extr_21, extr_30, extr_31, extr_32, List.map_cons, List.map_nil, cond_true, cond_false, aop, aThen, aBlock, argEnv, ev, sput, sputO, binK, binI, unK, builtinK, pickK, Nat.reduceBEq, Nat.reduceAdd, Int.reduceBEq, Int.reduceBNe, Int.reduceLT, aPost, resK, tup, tyf, hp.len, ↓aw_loop_eq]
    refine aws_hide fun Q hQ => ?_
    refine aw_loop (γ := Nat × Heap) (fun s => s.1 ≤ ps.length ∧ s.2[b]? = some (.ints (turnTo xs ps s.1) 3 false) ∧ Ext (fun _ => False) h s.2 ∧ ∀ i, i < s.1 → okK xs.length ps i = true)
      (fun s => ([(0, v), (1, pv), (6, .slice (some ⟨b, 0, some 0⟩) xs.length xs.length), (21, pv), (22, vint ps.length), (23, vint s.1)], s.2)) (fun s => ps.length - s.1) (0, h1) ⟨Nat.zero_le _, hb1, hE1, fun _ h => by omega⟩ (by simp (config := {maxSteps := 2000000}) only [↓aw_region, ↓aw_skip, ↓aw_seq, ↓aw_block, ↓aw_exit, ↓aw_ret, ↓sops_nil, ↓sops_go, ↓dops_nil, ↓dopsX_nil, ↓dopsR_nil, ↓vdn, vup, extr_20, extr_21, extr_30, extr_31, extr_32, List.map_cons, List.map_nil, cond_true, cond_false, aop, aThen, aBlock, argEnv, ev, sput, sputO, binK, binI, unK, builtinK, pickK, Nat.reduceBEq, Nat.reduceAdd, Int.reduceBEq, Int.reduceBNe, Int.reduceLT, aPost, resK, tup, tyf, Int.natCast_zero]) rfl ?_
    rintro ⟨k, hq⟩ ⟨hk, hbq, hE, hok⟩
    simp only at hk hbq hE hok
    refine aw_hide fun Q2 hQ2 => ?_
    by_cases hin : (k : Int) < ps.length
    · have hk' : k < ps.length := by omega
      have hvq := IntSl_ext hv hE
      have hpq := hp.ext hE
      obtain ⟨p, hpe⟩ : ∃ p, p = ps.getD k (0, 0) := ⟨_, rfl⟩
      have hld : ∀ {K : Value → Prop}, loadK prog hq 52 (elemP pv 2 k) K = K (pV p) := fun {K} => by rw [hpe]; exact hpq.load shp_52 hk' K
      have c0 := get_new hq (Blk.cells [.int .i64 0, .int .i64 0] 52 false)
      have hst : ∀ {K : Heap → Prop}, storeK prog (hq ++ [Blk.cells [.int .i64 0, .int .i64 0] 52 false]) 52 (.pointer (some ⟨hq.length, 0, none⟩)) (pV p) K = K ((hq ++ [Blk.cells [.int .i64 0, .int .i64 0] 52 false]).set hq.length (.cells [vint p.1, vint p.2] 52 false)) := fun {K} => storeP c0 rfl
      have c1 : ((hq ++ [Blk.cells [.int .i64 0, .int .i64 0] 52 false]).set hq.length (.cells [vint p.1, vint p.2] 52 false))[hq.length]? = some (.cells [vint p.1, vint p.2] 52 false) := get_set (by simp) _
      have hE2 : Ext (fun _ => False) hq ((hq ++ [Blk.cells [.int .i64 0, .int .i64 0] 52 false]).set hq.length (.cells [vint p.1, vint p.2] 52 false)) := ⟨by simp, fun j hj _ => by rw [List.getElem?_set_ne (by omega), List.getElem?_append_left hj]⟩
      simp only [l41_0]
      simp (config := {maxSteps := 2000000}) only [s41, ↓aw_region, ↓aw_skip, ↓aw_seq, ↓aw_block, ↓aw_exit, ↓aw_ret, ↓sops_nil, ↓sops_go, ↓dops_nil, ↓dopsX_nil, ↓dopsR_nil, ↓vdn, vup, extr_20, extr_21, extr_30, extr_31, extr_32, List.map_cons, List.map_nil, cond_true, cond_false, aop, aThen, aBlock, argEnv, ev, sput, sputO, binK, binI, unK, builtinK, pickK, Nat.reduceBEq, Nat.reduceAdd, Int.reduceBEq, Int.reduceBNe, Int.reduceLT, aPost, resK, tup, tyf, hin, hpq.idx el_46 esz_52 hk', hld, allocK, newPtr, zero_52, hst]
      have hb2 := (hE2.2 _ (get_lt hbq) id).trans hbq
      have hbn : b ≠ hq.length := by have := get_lt hbq; omega
      generalize (hq ++ [Blk.cells [.int .i64 0, .int .i64 0] 52 false]).set hq.length (.cells [vint p.1, vint p.2] 52 false) = h2 at c1 hE2 hb2 ⊢
      generalize hq.length = bp at c1 hbn ⊢
      have hEh := hE.trans hE2
      have hv2 := IntSl_ext hv hEh
      have hp2 := hp.ext hEh
      refine aw_drawX [] (by kernel_rfl) (by kernel_rfl) (by kernel_rfl) (by kernel_rfl) ?_
      simp (config := {maxSteps := 2000000}) only [s41, ↓aw_region, ↓aw_skip, ↓aw_seq, ↓aw_block, ↓aw_exit, ↓aw_ret, ↓sops_nil, ↓sops_go, ↓dops_nil, ↓dopsX_nil, ↓dopsR_nil, ↓vdn, vup, extr_20, extr_21, extr_30, extr_31, extr_32, List.map_cons, List.map_nil, cond_true, cond_false, aop, aThen, aBlock, argEnv, ev, sput, sputO, binK, binI, unK, builtinK, pickK, Nat.reduceBEq, Nat.reduceAdd, Int.reduceBEq, Int.reduceBNe, Int.reduceLT, aPost, resK, tup, tyf, pidx0, pidx1, pl0 c1, pl1 c1]
      -- what makes an end
      have stop : okK xs.length ps k = false → ¬ (trn xs = true ∧ okPs xs.length ps = true) := fun h1 h2 => by
        have h3 := h2.2
        rw [okPs, Bool.and_eq_true, List.all_eq_true] at h3
        have := h3.1 k (List.mem_range.2 hk')
        rw [h1] at this; cases this
      have hno : ∀ {K : Prop}, okK xs.length ps k = false → K → K := fun _ h => h
      by_cases ha : p.1 < 0
      · have hf : okK xs.length ps k = false := by
          rw [okK, ← hpe, okPr, decide_eq_false (show ¬ 0 ≤ p.1 by omega)]; rfl
        refine aw_drawX [(18, 1)] (by kernel_rfl) (by kernel_rfl) (by kernel_rfl) (by kernel_rfl) ?_
        simp (config := {maxSteps := 2000000}) only [s41, ↓aw_region, ↓aw_skip, ↓aw_seq, ↓aw_block, ↓aw_exit, ↓aw_ret, ↓sops_nil, ↓sops_go, ↓dops_nil, ↓dopsX_nil, ↓dopsR_nil, ↓vdn, vup, extr_20, extr_21, extr_30, extr_31, extr_32, List.map_cons, List.map_nil, cond_true, cond_false, aop, aThen, aBlock, argEnv, ev, sput, sputO, binK, binI, unK, builtinK, pickK, Nat.reduceBEq, Nat.reduceAdd, Int.reduceBEq, Int.reduceBNe, Int.reduceLT, aPost, resK, tup, tyf, ha]
        refine hQ2 _ _ _ (hQ _ _ _ ?_)
        simp (config := {maxSteps := 2000000}) only [s41, ↓aw_region, ↓aw_skip, ↓aw_seq, ↓aw_block, ↓aw_exit, ↓aw_ret, ↓sops_nil, ↓sops_go, ↓dops_nil, ↓dopsX_nil, ↓dopsR_nil, ↓vdn, vup, extr_20, extr_21, extr_30, extr_31, extr_32, List.map_cons, List.map_nil, cond_true, cond_false, aop, aThen, aBlock, argEnv, ev, sput, sputO, binK, binI, unK, builtinK, pickK, Nat.reduceBEq, Nat.reduceAdd, Int.reduceBEq, Int.reduceBNe, Int.reduceLT, aPost, resK, tup, tyf]
        rw [if_neg (stop hf)]
        exact ⟨hEh, trivial⟩
      by_cases hab : p.2 ≤ p.1
      · have hf : okK xs.length ps k = false := by
          rw [okK, ← hpe, okPr, decide_eq_false (show ¬ p.1 < p.2 by omega), Bool.and_false]; rfl
        refine aw_drawX [(18, 1)] (by kernel_rfl) (by kernel_rfl) (by kernel_rfl) (by kernel_rfl) ?_
        simp (config := {maxSteps := 2000000}) only [s41, ↓aw_region, ↓aw_skip, ↓aw_seq, ↓aw_block, ↓aw_exit, ↓aw_ret, ↓sops_nil, ↓sops_go, ↓dops_nil, ↓dopsX_nil, ↓dopsR_nil, ↓vdn, vup, extr_20, extr_21, extr_30, extr_31, extr_32, List.map_cons, List.map_nil, cond_true, cond_false, aop, aThen, aBlock, argEnv, ev, sput, sputO, binK, binI, unK, builtinK, pickK, Nat.reduceBEq, Nat.reduceAdd, Int.reduceBEq, Int.reduceBNe, Int.reduceLT, aPost, resK, tup, tyf, ha, ge_iff_le, hab]
        refine hQ2 _ _ _ (hQ _ _ _ ?_)
        simp (config := {maxSteps := 2000000}) only [s41, ↓aw_region, ↓aw_skip, ↓aw_seq, ↓aw_block, ↓aw_exit, ↓aw_ret, ↓sops_nil, ↓sops_go, ↓dops_nil, ↓dopsX_nil, ↓dopsR_nil, ↓vdn, vup, extr_20, extr_21, extr_30, extr_31, extr_32, List.map_cons, List.map_nil, cond_true, cond_false, aop, aThen, aBlock, argEnv, ev, sput, sputO, binK, binI, unK, builtinK, pickK, Nat.reduceBEq, Nat.reduceAdd, Int.reduceBEq, Int.reduceBNe, Int.reduceLT, aPost, resK, tup, tyf]
        rw [if_neg (stop hf)]
        exact ⟨hEh, trivial⟩
      by_cases hbb : ((xs.length : Nat) : Int) ≤ p.2
      · have hf : okK xs.length ps k = false := by
          rw [okK, ← hpe, okPr, decide_eq_false (show ¬ p.2 < xs.length by omega), Bool.and_false]; rfl
        refine aw_drawX [(18, 1)] (by kernel_rfl) (by kernel_rfl) (by kernel_rfl) (by kernel_rfl) ?_
        simp (config := {maxSteps := 2000000}) only [s41, ↓aw_region, ↓aw_skip, ↓aw_seq, ↓aw_block, ↓aw_exit, ↓aw_ret, ↓sops_nil, ↓sops_go, ↓dops_nil, ↓dopsX_nil, ↓dopsR_nil, ↓vdn, vup, extr_20, extr_21, extr_30, extr_31, extr_32, List.map_cons, List.map_nil, cond_true, cond_false, aop, aThen, aBlock, argEnv, ev, sput, sputO, binK, binI, unK, builtinK, pickK, Nat.reduceBEq, Nat.reduceAdd, Int.reduceBEq, Int.reduceBNe, Int.reduceLT, aPost, resK, tup, tyf, ha, ge_iff_le, hab, hv2.len, hbb]
        refine hQ2 _ _ _ (hQ _ _ _ ?_)
        simp (config := {maxSteps := 2000000}) only [s41, ↓aw_region, ↓aw_skip, ↓aw_seq, ↓aw_block, ↓aw_exit, ↓aw_ret, ↓sops_nil, ↓sops_go, ↓dops_nil, ↓dopsX_nil, ↓dopsR_nil, ↓vdn, vup, extr_20, extr_21, extr_30, extr_31, extr_32, List.map_cons, List.map_nil, cond_true, cond_false, aop, aThen, aBlock, argEnv, ev, sput, sputO, binK, binI, unK, builtinK, pickK, Nat.reduceBEq, Nat.reduceAdd, Int.reduceBEq, Int.reduceBNe, Int.reduceLT, aPost, resK, tup, tyf]
        rw [if_neg (stop hf)]
        exact ⟨hEh, trivial⟩
      have hpr : okPr xs.length p = true := by
        rw [okPr, decide_eq_true (show 0 ≤ p.1 by omega), decide_eq_true (show p.1 < p.2 by omega), decide_eq_true (show p.2 < xs.length by omega)]; rfl
      refine aw_drawX [(18, 1)] (by kernel_rfl) (by kernel_rfl) (by kernel_rfl) (by kernel_rfl) ?_
      simp (config := {maxSteps := 2000000}) only [s41, ↓aw_region, ↓aw_skip, ↓aw_seq, ↓aw_block, ↓aw_exit, ↓aw_ret, ↓sops_nil, ↓sops_go, ↓dops_nil, ↓dopsX_nil, ↓dopsR_nil, ↓vdn, vup, extr_20, extr_21, extr_30, extr_31, extr_32, List.map_cons, List.map_nil, cond_true, cond_false, aop, aThen, aBlock, argEnv, ev, sput, sputO, binK, binI, unK, builtinK, pickK, Nat.reduceBEq, Nat.reduceAdd, Int.reduceBEq, Int.reduceBNe, Int.reduceLT, aPost, resK, tup, tyf, ha, ge_iff_le, hab, hv2.len, hbb, Option.map_none, Option.map_some]
      refine hp2.pre el_46 esz_52 (m := k) (by omega) ?_
      intro tv htv
      have htl : (ps.take k).length ≤ 28 := by simp; omega
      simp (config := {maxSteps := 2000000}) only [s41, ↓aw_region, ↓aw_skip, ↓aw_seq, ↓aw_block, ↓aw_exit, ↓aw_ret, ↓sops_nil, ↓sops_go, ↓dops_nil, ↓dopsX_nil, ↓dopsR_nil, ↓vdn, vup, extr_20, extr_21, extr_30, extr_31, extr_32, List.map_cons, List.map_nil, cond_true, cond_false, aop, aThen, aBlock, argEnv, ev, sput, sputO, binK, binI, unK, builtinK, pickK, Nat.reduceBEq, Nat.reduceAdd, Int.reduceBEq, Int.reduceBNe, Int.reduceLT, aPost, resK, tup, tyf, loadP c1, callK, List.nil_append, List.append_nil, List.toList_toArray, List.cons_append]
      refine ⟨_, _, pcontains_call (p := p) htv (by omega), rfl, ?_⟩
      cases hct : (ps.take k).contains p with
      | true =>
        have hf : okK xs.length ps k = false := by rw [okK, ← hpe, hct, Bool.not_true, Bool.and_false]
        simp (config := {maxSteps := 2000000}) only [s41, ↓aw_region, ↓aw_skip, ↓aw_seq, ↓aw_block, ↓aw_exit, ↓aw_ret, ↓sops_nil, ↓sops_go, ↓dops_nil, ↓dopsX_nil, ↓dopsR_nil, ↓vdn, vup, extr_20, extr_21, extr_30, extr_31, extr_32, List.map_cons, List.map_nil, cond_true, cond_false, aop, aThen, aBlock, argEnv, ev, sput, sputO, binK, binI, unK, builtinK, pickK, Nat.reduceBEq, Nat.reduceAdd, Int.reduceBEq, Int.reduceBNe, Int.reduceLT, aPost, resK, tup, tyf]
        refine hQ2 _ _ _ (hQ _ _ _ ?_)
        simp (config := {maxSteps := 2000000}) only [s41, ↓aw_region, ↓aw_skip, ↓aw_seq, ↓aw_block, ↓aw_exit, ↓aw_ret, ↓sops_nil, ↓sops_go, ↓dops_nil, ↓dopsX_nil, ↓dopsR_nil, ↓vdn, vup, extr_20, extr_21, extr_30, extr_31, extr_32, List.map_cons, List.map_nil, cond_true, cond_false, aop, aThen, aBlock, argEnv, ev, sput, sputO, binK, binI, unK, builtinK, pickK, Nat.reduceBEq, Nat.reduceAdd, Int.reduceBEq, Int.reduceBNe, Int.reduceLT, aPost, resK, tup, tyf]
        rw [if_neg (stop hf)]
        exact ⟨hEh, trivial⟩
      | false =>
        have hyes : okK xs.length ps k = true := by rw [okK, ← hpe, hct, hpr]; rfl
        simp (config := {maxSteps := 2000000}) only [s41, ↓aw_region, ↓aw_skip, ↓aw_seq, ↓aw_block, ↓aw_exit, ↓aw_ret, ↓sops_nil, ↓sops_go, ↓dops_nil, ↓dopsX_nil, ↓dopsR_nil, ↓vdn, vup, extr_20, extr_21, extr_30, extr_31, extr_32, List.map_cons, List.map_nil, cond_true, cond_false, aop, aThen, aBlock, argEnv, ev, sput, sputO, binK, binI, unK, builtinK, pickK, Nat.reduceBEq, Nat.reduceAdd, Int.reduceBEq, Int.reduceBNe, Int.reduceLT, aPost, resK, tup, tyf]
        obtain ⟨i, j, rfl, hij, hj⟩ := okPr_nat hpr
        have hi : i < xs.length := by omega
        have hsm := turn_sm (ps := ps) hsm0 hlen.2 k fun i hi => by
          have := hok i hi
          rw [okK, Bool.and_eq_true] at this
          exact this.1
        have hstep : turnTo xs ps (k + 1) = half (half (turnTo xs ps k) i j) j i := by rw [turnTo, ← hpe]; rfl
        generalize turnTo xs ps k = t at hsm hb2 hstep ⊢
        have hit : i < t.length := by rw [hsm.1]; exact hi
        have x1 := xor_half hsm hi hj hlen.2
        have hsm2 := half_sm hsm hi hj hlen.2
        have x2 := xor_half hsm2 hj hi hlen.2
        refine aw_drawX [] (by kernel_rfl) (by kernel_rfl) (by kernel_rfl) (by kernel_rfl) ?_
        simp (config := {maxSteps := 2000000}) only [s41, ↓aw_region, ↓aw_skip, ↓aw_seq, ↓aw_block, ↓aw_exit, ↓aw_ret, ↓sops_nil, ↓sops_go, ↓dops_nil, ↓dopsX_nil, ↓dopsR_nil, ↓vdn, vup, extr_20, extr_21, extr_30, extr_31, extr_32, List.map_cons, List.map_nil, cond_true, cond_false, aop, aThen, aBlock, argEnv, ev, sput, sputO, binK, binI, unK, builtinK, pickK, Nat.reduceBEq, Nat.reduceAdd, Int.reduceBEq, Int.reduceBNe, Int.reduceLT, aPost, resK, tup, tyf, idxW hi, loadX hb2 hit, x1, storeX hb2 hit]
        have hb3 : (h2.set b (.ints (t.set i (xI (t.getD i 0) j)) 3 false))[b]? = some (.ints (half t i j) 3 false) := get_set (get_lt hb2) _
        have hE3 : Ext (fun _ => False) h (h2.set b (.ints (t.set i (xI (t.getD i 0) j)) 3 false)) := ⟨by simp; exact hEh.1, fun q hq _ => by rw [List.getElem?_set_ne (by omega)]; exact hEh.2 q hq id⟩
        generalize h2.set b (.ints (t.set i (xI (t.getD i 0) j)) 3 false) = h3 at hb3 hE3 ⊢
        have hjt : j < (half t i j).length := by rw [hsm2.1]; exact hj
        refine aw_drawX [] (by kernel_rfl) (by kernel_rfl) (by kernel_rfl) (by kernel_rfl) ?_
        simp (config := {maxSteps := 2000000}) only [s41, ↓aw_region, ↓aw_skip, ↓aw_seq, ↓aw_block, ↓aw_exit, ↓aw_ret, ↓sops_nil, ↓sops_go, ↓dops_nil, ↓dopsX_nil, ↓dopsR_nil, ↓vdn, vup, extr_20, extr_21, extr_30, extr_31, extr_32, List.map_cons, List.map_nil, cond_true, cond_false, aop, aThen, aBlock, argEnv, ev, sput, sputO, binK, binI, unK, builtinK, pickK, Nat.reduceBEq, Nat.reduceAdd, Int.reduceBEq, Int.reduceBNe, Int.reduceLT, aPost, resK, tup, tyf, idxW hj, loadX hb3 hjt, x2, storeX hb3 hjt]
        have hb4 : (h3.set b (.ints ((half t i j).set j (xI ((half t i j).getD j 0) i)) 3 false))[b]? = some (.ints (half (half t i j) j i) 3 false) := get_set (get_lt hb3) _
        have hE4 : Ext (fun _ => False) h (h3.set b (.ints ((half t i j).set j (xI ((half t i j).getD j 0) i)) 3 false)) := ⟨by simp; exact hE3.1, fun q hq _ => by rw [List.getElem?_set_ne (by omega)]; exact hE3.2 q hq id⟩
        generalize h3.set b (.ints ((half t i j).set j (xI ((half t i j).getD j 0) i)) 3 false) = h4 at hb4 hE4 ⊢
        simp (config := {maxSteps := 2000000}) only [s41, ↓aw_region, ↓aw_skip, ↓aw_seq, ↓aw_block, ↓aw_exit, ↓aw_ret, ↓sops_nil, ↓sops_go, ↓dops_nil, ↓dopsX_nil, ↓dopsR_nil, ↓vdn, vup, extr_20, extr_21, extr_30, extr_31, extr_32, List.map_cons, List.map_nil, cond_true, cond_false, aop, aThen, aBlock, argEnv, ev, sput, sputO, binK, binI, unK, builtinK, pickK, Nat.reduceBEq, Nat.reduceAdd, Int.reduceBEq, Int.reduceBNe, Int.reduceLT, aPost, resK, tup, tyf, add1 (show k < 9223372036854775807 by omega)]
        refine hQ2 _ _ _ ⟨(k + 1, h4), ⟨by simp only; omega, by simp only; rw [hstep]; exact hb4, hE4, fun q hq => ?_⟩, by simp only; omega, by simp (config := {maxSteps := 2000000}) only [↓aw_region, ↓aw_skip, ↓aw_seq, ↓aw_block, ↓aw_exit, ↓aw_ret, ↓sops_nil, ↓sops_go, ↓dops_nil, ↓dopsX_nil, ↓dopsR_nil, ↓vdn, vup, extr_20, extr_21, extr_30, extr_31, extr_32, List.map_cons, List.map_nil, cond_true, cond_false, aop, aThen, aBlock, argEnv, ev, sput, sputO, binK, binI, unK, builtinK, pickK, Nat.reduceBEq, Nat.reduceAdd, Int.reduceBEq, Int.reduceBNe, Int.reduceLT, aPost, resK, tup, tyf], rfl⟩
        simp only at hq
        by_cases hqk : q = k
        · rw [hqk]; exact hyes
        · exact hok q (by omega)
    · obtain rfl : k = ps.length := by omega
      have hyes : okPs xs.length ps = true := by
        rw [okPs, Bool.and_eq_true, List.all_eq_true, decide_eq_true_eq]
        exact ⟨fun i hi => hok i (List.mem_range.1 hi), h28⟩
      simp (config := {maxSteps := 2000000}) only [s41, ↓aw_region, ↓aw_skip, ↓aw_seq, ↓aw_block, ↓aw_exit, ↓aw_ret, ↓sops_nil, ↓sops_go, ↓dops_nil, ↓dopsX_nil, ↓dopsR_nil, ↓vdn, vup, extr_20, extr_21, extr_30, extr_31, extr_32, List.map_cons, List.map_nil, cond_true, cond_false, aop, aThen, aBlock, argEnv, ev, sput, sputO, binK, binI, unK, builtinK, pickK, Nat.reduceBEq, Nat.reduceAdd, Int.reduceBEq, Int.reduceBNe, Int.reduceLT, aPost, resK, tup, tyf, l41_0, Int.lt_irrefl]
      refine hQ2 _ _ _ (hQ _ _ _ ?_)
      simp (config := {maxSteps := 2000000}) only [s41, ↓aw_region, ↓aw_skip, ↓aw_seq, ↓aw_block, ↓aw_exit, ↓aw_ret, ↓sops_nil, ↓sops_go, ↓dops_nil, ↓dopsX_nil, ↓dopsR_nil, ↓vdn, vup, extr_20, extr_21, extr_30, extr_31, extr_32, List.map_cons, List.map_nil, cond_true, cond_false, aop, aThen, aBlock, argEnv, ev, sput, sputO, binK, binI, unK, builtinK, pickK, Nat.reduceBEq, Nat.reduceAdd, Int.reduceBEq, Int.reduceBNe, Int.reduceLT, aPost, resK, tup, tyf, if_true, ht, hyes, and_self]
      have hsm := turn_sm (ps := ps) hsm0 hlen.2 ps.length fun i hi => by
        have := hok i hi
        rw [okK, Bool.and_eq_true] at this
        exact this.1
      refine ⟨hE, _, rfl, .inr ⟨b, 0, some 0, xs.length, (turnTo xs ps ps.length).map vint, 3, false, by rw [hsm.1], by rw [hsm.1]; exact Nat.le_refl _, by simp [view, hbq, Blk.view], fun i hi => ?_⟩⟩
      simp [List.getD, hi]
end Go.Proofs.Tryd.Am

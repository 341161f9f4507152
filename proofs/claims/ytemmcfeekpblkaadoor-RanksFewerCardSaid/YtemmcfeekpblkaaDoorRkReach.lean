/-
  ranks: the set that Kings returns is that of the kings; how many they are.
-/
import Derived.Test.YtemmcfeekpblkaaDoorRkKings
import Derived.Test.YtemmcfeekpblkaaDoorRkWays
import Derived.Test.YtemmcfeekpblkaaDoorKings
set_option linter.all false
namespace Go.Proofs.Tryd.Am
open Go.Am Kings

/-- i beats j. -/
def bb (xs : List Int) (i j : Nat) : Bool := bitI (xs.getD i 0) j

theorem trn_trn {xs : List Int} (h : trn xs = true) : Trn xs.length (bb xs) := by
  have hok : ∀ i, i < xs.length → ∀ j, j < i → bitI (xs.getD i 0) j = !bitI (xs.getD j 0) i := by
    intro i hi j hj
    simp only [trn, Bool.and_eq_true, decide_eq_true_eq, List.all_eq_true, List.mem_range] at h
    have h2 := h.2 i hi
    simp only [okAt, Bool.and_eq_true, List.all_eq_true, List.mem_range] at h2
    have h3 := h2.2 j hj
    revert h3
    cases bitI (xs.getD i 0) j <;> cases bitI (xs.getD j 0) i <;> decide
  refine ⟨fun i j hi hj hij => ?_, fun i hi => ?_⟩
  · show bitI (xs.getD i 0) j = !bitI (xs.getD j 0) i
    rcases Nat.lt_or_gt_of_ne hij with hlt | hlt
    · rw [hok j hj i hlt, Bool.not_not]
    · exact hok i hi j hlt
  · simp only [trn, Bool.and_eq_true, decide_eq_true_eq, List.all_eq_true, List.mem_range] at h
    have h2 := h.2 i hi
    simp only [okAt, Bool.and_eq_true, Bool.not_eq_true'] at h2
    exact h2.1.2

theorem foldl_or_bit {f : Nat → Nat} {w : Nat} : ∀ (l : List Nat) (s : Nat), (l.foldl (fun r j => r ||| f j) s).testBit w = (s.testBit w || l.any fun j => (f j).testBit w)
  | [], s => by simp
  | x :: l, s => by rw [List.foldl_cons, foldl_or_bit l, Nat.testBit_or, List.any_cons, Bool.or_assoc]

theorem reach_bit {xs : List Int} {i w : Nat} : (reachF xs i).testBit w = (bb xs i w || decide (w = i) || (Am.bits (xs.getD i 0).toNat).any fun j => bb xs j w) := by
  unfold reachF
  rw [foldl_or_bit, Nat.testBit_or, Nat.testBit_two_pow]
  congr 2
  by_cases h : i = w <;> simp [h, eq_comm]

theorem reach_king {xs : List Int} (ht : trn xs = true) {i : Nat} (hi : i < xs.length) : reachF xs i = 2 ^ xs.length - 1 ↔ King xs.length (bb xs) i := by
  have hxl : xs.length ≤ 8 := by simp only [trn, Bool.and_eq_true, decide_eq_true_eq] at ht; omega
  have hbit : ∀ j, j < xs.length → ∀ w, bb xs j w = true → w < xs.length := fun j hj w hb => by
    rcases Nat.lt_or_ge w xs.length with h | h
    · exact h
    · have := Nat.testBit_lt_two_pow (Nat.lt_of_lt_of_le (trn_nat ht hj).2 (Nat.pow_le_pow_right (by decide) h))
      rw [show bb xs j w = (xs.getD j 0).toNat.testBit w from rfl, this] at hb; cases hb
  have hmem : ∀ j, j ∈ Am.bits (xs.getD i 0).toNat ↔ j < xs.length ∧ bb xs i j = true := fun j => by
    rw [mem_bits]
    constructor
    · rintro ⟨_, h⟩; exact ⟨hbit i hi j h, h⟩
    · rintro ⟨h1, h2⟩; exact ⟨by omega, h2⟩
  have hK : King xs.length (bb xs) i ↔ ∀ w, w < xs.length → (reachF xs i).testBit w = true := by
    unfold King
    refine forall_congr' fun w => forall_congr' fun hw => ?_
    rw [reach_bit, Bool.or_eq_true, Bool.or_eq_true, decide_eq_true_eq, List.any_eq_true]
    constructor
    · rintro (h | h | ⟨j, h1, h2, h3⟩)
      · exact .inl (.inr h)
      · exact .inl (.inl h)
      · exact .inr ⟨j, (hmem j).2 ⟨h1, h2⟩, h3⟩
    · rintro ((h | h) | ⟨j, h1, h3⟩)
      · exact .inr (.inl h)
      · exact .inl h
      · exact .inr (.inr ⟨j, ((hmem j).1 h1).1, ((hmem j).1 h1).2, h3⟩)
  rw [hK]
  constructor
  · intro h w hw
    rw [h, Nat.testBit_two_pow_sub_one, decide_eq_true hw]
  · intro h
    apply Nat.eq_of_testBit_eq
    intro w
    rw [Nat.testBit_two_pow_sub_one]
    by_cases hw : w < xs.length
    · rw [h w hw, decide_eq_true hw]
    · rw [decide_eq_false hw]
      cases hr : (reachF xs i).testBit w with
      | false => rfl
      | true =>
        rw [reach_bit, Bool.or_eq_true, Bool.or_eq_true, decide_eq_true_eq, List.any_eq_true] at hr
        rcases hr with (hr | hr) | ⟨j, h1, h3⟩
        · exact absurd (hbit i hi w hr) hw
        · exact absurd (hr ▸ hi) hw
        · exact absurd (hbit j ((hmem j).1 h1).1 w h3) hw

theorem kingsTo_bit {xs : List Int} {j : Nat} : ∀ m, (kingsTo xs m).testBit j = (decide (j < m) && decide (reachF xs j = 2 ^ xs.length - 1))
  | 0 => by simp [kingsTo]
  | m + 1 => by
    rw [kingsTo]
    by_cases hj : j = m
    · subst hj
      by_cases hr : reachF xs j = 2 ^ xs.length - 1
      · rw [if_pos hr, Nat.testBit_or, Nat.testBit_two_pow_self]; simp [hr]
      · rw [if_neg hr, kingsTo_bit j]; simp [hr]
    · have h1 : decide (j < m + 1) = decide (j < m) := by by_cases h : j < m <;> simp [h] <;> omega
      rw [h1]
      split
      · rw [Nat.testBit_or, Nat.testBit_two_pow, kingsTo_bit m, decide_eq_false (show ¬ m = j from fun h => hj h.symm), Bool.or_false]
      · exact kingsTo_bit m

theorem size_ct {s n : Nat} (hs : s < 2 ^ n) (hn : n ≤ 64) : (Am.bits s).length = ct (fun i => s.testBit i) (List.range n) := by rw [bits_range hs hn, ct_filter]
theorem ct_all {p : Nat → Bool} : ∀ l : List Nat, ct p l + ct (fun x => !p x) l = l.length
  | [] => rfl
  | x :: l => by
    have := ct_all (p := p) l
    simp only [ct, List.length_cons]
    by_cases hp : p x = true
    · simp [hp]; omega
    · simp only [Bool.not_eq_true] at hp; simp [hp]; omega
/-- One beats all others just if he beats one less than there are. -/
theorem beats_all {n : Nat} {b : Nat → Nat → Bool} (ht : Trn n b) {i : Nat} (hi : i < n) : ct (b i) (List.range n) = n - 1 ↔ ∀ j, j < n → j ≠ i → b i j = true := by
  have h1 := ct_eq_one hi
  have h2 := ct_all (p := fun x => x == i) (List.range n)
  rw [List.length_range] at h2
  constructor
  · intro h j hj hji
    cases hb : b i j with
    | true => rfl
    | false =>
      have : ct (b i) (List.range n) < ct (fun x => !(x == i)) (List.range n) := by
        refine ct_lt (fun x hx hbx => ?_) ⟨j, List.mem_range.2 hj, by simpa using hji, hb⟩
        by_cases hxi : x = i
        · subst hxi; rw [ht.2 x hi] at hbx; cases hbx
        · simpa using hxi
      omega
  · intro h
    have : ct (b i) (List.range n) = ct (fun x => !(x == i)) (List.range n) := by
      refine ct_congr fun x hx => ?_
      by_cases hxi : x = i
      · subst hxi; rw [ht.2 x hi]; simp
      · rw [h x (List.mem_range.1 hx) hxi]; simpa using hxi
    omega
end Go.Proofs.Tryd.Am

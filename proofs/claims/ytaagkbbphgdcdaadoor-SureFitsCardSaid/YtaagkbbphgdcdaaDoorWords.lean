/-
  Words that are confused, plain.
-/
import Derived.Test.YtaagkbbphgdcdaaDoorAlpha2
set_option linter.all false
namespace Sr
open Go.Am
/-- Whether one signal may be taken for another one. -/
def gb (xs : List Int) (i j : Nat) : Bool := (xs.getD i 0).toNat.testBit j
def cf (xs : List Int) : Nat → Nat → Nat → Bool
  | 0, _, _ => true
  | k + 1, a, b => (a % xs.length == b % xs.length || gb xs (a % xs.length) (b % xs.length)) && cf xs k (a / xs.length) (b / xs.length)
/-- A graph of signals. -/
def Gs (xs : List Int) : Prop := 1 ≤ xs.length ∧ xs.length ≤ 6 ∧ ∀ i, i < xs.length → (0 ≤ xs.getD i 0 ∧ xs.getD i 0 < 2 ^ xs.length) ∧ gb xs i i = false ∧ ∀ j, j < xs.length → gb xs i j = gb xs j i
theorem cf_comm {xs : List Int} (g : Gs xs) : ∀ k a b, cf xs k a b = cf xs k b a
  | 0, _, _ => rfl
  | k + 1, a, b => by
    have h0 : 0 < xs.length := g.1
    rw [cf, cf, cf_comm g k, (g.2.2 _ (Nat.mod_lt a h0)).2.2 _ (Nat.mod_lt b h0)]
    congr 2
    exact Bool.beq_comm
theorem cf_self (xs : List Int) : ∀ k a, cf xs k a a = true
  | 0, _ => rfl
  | k + 1, a => by rw [cf, cf_self xs k]; simp
def wn (xs : List Int) (k : Nat) : Nat := xs.length ^ k
def nearW (xs : List Int) (k a : Nat) : Nat := mk (fun b => a != b && cf xs k a b) (wn xs k)
def nearL (xs : List Int) (k : Nat) : List Nat := (List.range (wn xs k)).map (nearW xs k)
theorem nearL_len (xs : List Int) (k : Nat) : (nearL xs k).length = wn xs k := by simp [nearL]
theorem nearL_get {xs : List Int} {k a : Nat} (h : a < wn xs k) : nb (nearL xs k) a = nearW xs k a := by
  rw [nb, nearL, List.getD, List.getElem?_map, List.getElem?_range h]; rfl
theorem nearL_out {xs : List Int} {k a : Nat} (h : wn xs k ≤ a) : nb (nearL xs k) a = 0 := by
  rw [nb, List.getD, List.getElem?_eq_none (by rw [nearL_len]; exact h)]; rfl
theorem nearL_bit (xs : List Int) (k a b : Nat) : (nb (nearL xs k) a).testBit b = (decide (a < wn xs k) && decide (b < wn xs k) && (a != b && cf xs k a b)) := by
  by_cases h : a < wn xs k
  · rw [nearL_get h, nearW, mk_bit]; simp [h]
  · rw [nearL_out (by omega)]; simp [h]
theorem nearL_gr {xs : List Int} (g : Gs xs) {k : Nat} (hk : wn xs k ≤ 64) : Gr (nearL xs k) where
  len := by rw [nearL_len]; exact hk
  lt v := by
    rw [nearL_len]
    by_cases h : v < wn xs k
    · rw [nearL_get h]; exact mk_lt _ _
    · rw [nearL_out (by omega)]; exact Nat.two_pow_pos _
  irr v := by rw [nearL_bit]; simp
  sym v x := by
    rw [nearL_bit, nearL_bit, cf_comm g]
    have : (v != x) = (x != v) := bne_comm
    rw [this, Bool.and_comm (decide (v < wn xs k))]
/-- As the reference has it: the word itself is near. -/
theorem near_self {xs : List Int} {k a : Nat} (h : a < wn xs k) : mk (fun b => cf xs k a b) (wn xs k) = nb (nearL xs k) a ||| 2 ^ a := by
  apply Nat.eq_of_testBit_eq; intro i
  rw [Nat.testBit_or, nearL_bit, mk_bit, Nat.testBit_two_pow]
  by_cases h1 : a = i
  · subst h1; simp [h, cf_self]
  · have : (a != i) = true := by simp [h1]
    simp [h, h1, this]

/-- The list is a code. -/
def code (xs : List Int) (k : Nat) (c : List Int) : Bool :=
  (List.range c.length).all fun i => decide (0 ≤ c.getD i 0) && decide (c.getD i 0 < wn xs k) && (decide (i = 0) || decide (c.getD (i - 1) 0 < c.getD i 0)) && (List.range i).all fun j => !cf xs k (c.getD i 0).toNat (c.getD j 0).toNat
/-- Words that rise below n are at most n. -/
theorem rise_len {c : List Int} {n : Nat} (h : ∀ i, i < c.length → 0 ≤ c.getD i 0 ∧ c.getD i 0 < n ∧ (i = 0 ∨ c.getD (i - 1) 0 < c.getD i 0)) : c.length ≤ n := by
  have : ∀ i, i < c.length → (i : Int) ≤ c.getD i 0 := by
    intro i
    induction i with
    | zero => intro hi; exact_mod_cast (h 0 hi).1
    | succ i ih =>
      intro hi
      have h1 := ih (by omega)
      have h2 := (h (i + 1) hi).2.2
      rcases h2 with h2 | h2
      · omega
      · rw [Nat.add_sub_cancel] at h2; omega
  by_cases h0 : c.length = 0
  · omega
  · have h1 := this (c.length - 1) (by omega)
    have h2 := (h (c.length - 1) (by omega)).2.1
    omega
theorem code_iff {xs : List Int} {k : Nat} {c : List Int} : code xs k c = true ↔ ∀ i, i < c.length → 0 ≤ c.getD i 0 ∧ c.getD i 0 < wn xs k ∧ (i = 0 ∨ c.getD (i - 1) 0 < c.getD i 0) ∧ ∀ j, j < i → cf xs k (c.getD i 0).toNat (c.getD j 0).toNat = false := by
  simp only [code, List.all_eq_true, List.mem_range, Bool.and_eq_true, Bool.or_eq_true, decide_eq_true_eq, Bool.not_eq_true', and_assoc]
/-- The beginning tells as much, if it is longer than there are words. -/
theorem code_take {xs : List Int} {k m : Nat} {c : List Int} (hm : wn xs k < m) : code xs k (c.take m) = code xs k c := by
  by_cases hl : c.length ≤ m
  · rw [List.take_of_length_le hl]
  · have g : ∀ i, i < m → (c.take m).getD i 0 = c.getD i 0 := fun i hi => by rw [List.getD, List.getD, List.getElem?_take_of_lt hi]
    have hlt : (c.take m).length = m := by rw [List.length_take]; omega
    have f1 : code xs k (c.take m) = false := by
      rw [← Bool.not_eq_true]; intro h
      have := rise_len (n := wn xs k) fun i hi => by
        have := code_iff.1 h i hi; exact ⟨this.1, this.2.1, this.2.2.1⟩
      omega
    have f2 : code xs k c = false := by
      rw [← Bool.not_eq_true]; intro h
      have := rise_len (n := wn xs k) fun i hi => by
        have := code_iff.1 h i hi; exact ⟨this.1, this.2.1, this.2.2.1⟩
      omega
    rw [f1, f2]
end Sr

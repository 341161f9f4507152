/-
  ranks: how many pairs an order goes against, plain.
-/
import Derived.Test.YtemmcfeekpblkaaDoorRkOdd
import Derived.Test.YtemmcfeekpblkaaDoorBest
set_option linter.all false
namespace Go.Proofs.Tryd.Am
open Go.Am Redei Rb
set_option maxRecDepth 100000
set_option maxHeartbeats 1000000

theorem bitsLen (s : Nat) : (Am.bits s).length = (List.range 64).countP s.testBit := by rw [Am.bits, List.countP_eq_length_filter]
/-- How many a set has below n, and how many it lacks. -/
theorem bits_fr {n s : Nat} (hs : s < 2 ^ n) (hn : n ≤ 64) : (Am.bits s).length + (fr n s).length = n := by
  have h1 : ∀ d, (List.range (n + d)).countP s.testBit = (List.range n).countP s.testBit := by
    intro d
    induction d with
    | zero => rfl
    | succ d ih =>
      rw [← Nat.add_assoc, List.range_succ, List.countP_append, ih]
      have : s.testBit (n + d) = false := Nat.testBit_lt_two_pow (Nat.lt_of_lt_of_le hs (Nat.pow_le_pow_right (by decide) (Nat.le_add_right n d)))
      simp [this]
  have h2 := h1 (64 - n)
  rw [show n + (64 - n) = 64 by omega] at h2
  rw [bitsLen, h2, fr, ← List.countP_eq_length_filter]
  have := List.length_eq_countP_add_countP (p := s.testBit) (l := List.range n)
  rw [List.length_range] at this
  have e : (List.range n).countP (fun a => !s.testBit a) = (List.range n).countP fun a => decide (¬ s.testBit a = true) := List.countP_congr fun x _ => by simp
  rw [e]
  exact this.symm
theorem bits_and_put {a s y : Nat} (hy : y < 64) (hb : s.testBit y = false) : (Am.bits (a &&& (s ||| 2 ^ y))).length = (Am.bits (a &&& s)).length + if a.testBit y = true then 1 else 0 := by
  rw [bitsLen, bitsLen]
  have key : ∀ l : List Nat, l.Nodup → l.countP (a &&& (s ||| 2 ^ y)).testBit = l.countP (a &&& s).testBit + if y ∈ l ∧ a.testBit y = true then 1 else 0 := by
    intro l
    induction l with
    | nil => intro _; simp
    | cons x l ih =>
      intro hn
      have hn' := List.nodup_cons.1 hn
      have ih := ih hn'.2
      rw [List.countP_cons, List.countP_cons, ih]
      by_cases hx : y = x
      · subst hx
        have h1 : ¬ (y ∈ l ∧ a.testBit y = true) := fun h => hn'.1 h.1
        rw [if_neg h1]
        have e1 : (a &&& (s ||| 2 ^ y)).testBit y = a.testBit y := by rw [Nat.testBit_and, Nat.testBit_or, Nat.testBit_two_pow]; simp
        have e2 : (a &&& s).testBit y = false := by rw [Nat.testBit_and, hb, Bool.and_false]
        rw [e1, e2]
        cases ha : a.testBit y <;> simp
      · have e1 : (a &&& (s ||| 2 ^ y)).testBit x = (a &&& s).testBit x := by rw [Nat.testBit_and, Nat.testBit_or, Nat.testBit_two_pow, Nat.testBit_and]; simp [hx]
        rw [e1]
        have e2 : (y ∈ x :: l ∧ a.testBit y = true) ↔ (y ∈ l ∧ a.testBit y = true) := by simp [hx]
        simp only [e2]
        omega
  rw [key _ List.nodup_range]
  congr 1
  simp [hy]
theorem bits_put {n s y : Nat} (hn : n ≤ 64) (hs : s < 2 ^ n) (hy : y < n) : (Am.bits (s ||| 2 ^ y)).length = (Am.bits s).length + if s.testBit y = true then 0 else 1 := by
  cases hb : s.testBit y with
  | true =>
    have : s ||| 2 ^ y = s := by
      apply Nat.eq_of_testBit_eq
      intro i
      rw [Nat.testBit_or, Nat.testBit_two_pow]
      by_cases h : y = i
      · subst h; simp [hb]
      · simp [h]
    rw [this]; rfl
  | false =>
    have h1 := bits_fr hs hn
    have h2 := bits_fr (put_lt hs hy) hn
    have h3 := fr_put (mem_fr.2 ⟨hy, hb⟩)
    simp
    omega
/-- What a player brings that stands behind a set. -/
def cst (xs : List Int) (i s : Nat) : Nat := (Am.bits ((xs.getD i 0).toNat &&& s)).length
theorem cst_few {xs : List Int} (hl : xs.length ≤ 8) : Few (cst xs) xs.length := fun i s hs => by
  have h1 := bits_fr hs (show xs.length ≤ 64 by omega)
  have h2 : cst xs i s ≤ (Am.bits s).length := by
    rw [cst, bitsLen, bitsLen]
    exact List.countP_mono_left fun x _ h => by rw [Nat.testBit_and, Bool.and_eq_true] at h; exact h.2
  omega
/-- The pairs of the first i. -/
def agTo (xs os : List Int) : Nat → Nat
  | 0 => 0
  | i + 1 => agTo xs os i + cst xs (os.getD i 0).toNat (setOf (os.take i))
theorem take_snoc {os : List Int} {i : Nat} (h : i < os.length) : os.take (i + 1) = os.take i ++ [os.getD i 0] := by
  rw [List.take_succ_eq_append_getElem h, List.getD, List.getElem?_eq_getElem h, Option.getD_some]
def inRg (n : Nat) (os : List Int) (k : Nat) : Prop := 0 ≤ os.getD k 0 ∧ os.getD k 0 < n
theorem setOf_lt' {n : Nat} {os : List Int} : ∀ i, i ≤ os.length → (∀ k, k < i → inRg n os k) → setOf (os.take i) < 2 ^ n
  | 0, _, _ => Nat.two_pow_pos n
  | i + 1, hi, h => by
    have h1 := h i (by omega)
    rw [take_snoc (by omega), setOf_snoc]
    exact put_lt (setOf_lt' i (by omega) fun k hk => h k (by omega)) (by have := h1.1; have := h1.2; omega)
theorem agTo_le {xs os : List Int} (hl : xs.length ≤ 8) (h : ∀ k, k < os.length → inRg xs.length os k) : ∀ i, i ≤ os.length → agTo xs os i ≤ i * 8
  | 0, _ => Nat.le_refl _
  | i + 1, hi => by
    have h1 := agTo_le hl h i (by omega)
    have h2 := cst_few hl (os.getD i 0).toNat (setOf (os.take i)) (setOf_lt' i (by omega) fun k hk => h k (by omega))
    rw [agTo]; omega
/-- Told twice over: a set of all players has each one once. -/
theorem ord_iff {n : Nat} {os : List Int} (hn : n ≤ 8) (h : ∀ k, k < os.length → inRg n os k) : isOrd n os = (decide (os.length = n) && decide (setOf os = 2 ^ n - 1)) := by
  have hD : ∀ i, i ≤ os.length → (Am.bits (setOf (os.take i))).length ≤ i ∧ ((Am.bits (setOf (os.take i))).length = i ↔ ∀ k, k < i → newAt n os k = true) := by
    intro i
    induction i with
    | zero =>
      intro _
      have h0 : (Am.bits (setOf (os.take 0))).length = 0 := by rw [List.take_zero]; decide
      exact ⟨Nat.le_of_eq h0, ⟨fun _ k hk => by omega, fun _ => h0⟩⟩
    | succ i ih =>
      intro hi
      obtain ⟨a, b⟩ := ih (by omega)
      have hr := h i (by omega)
      have hs := setOf_lt' i (by omega) fun k hk => h k (by omega)
      have hp := bits_put (show n ≤ 64 by omega) hs (show (os.getD i 0).toNat < n by have := hr.1; have := hr.2; omega)
      rw [take_snoc (by omega), setOf_snoc, hp]
      have hnew : newAt n os i = !(setOf (os.take i)).testBit (os.getD i 0).toNat := by
        rw [newAt, decide_eq_true hr.1, decide_eq_true hr.2]; rfl
      cases hb : (setOf (os.take i)).testBit (os.getD i 0).toNat with
      | true =>
        rw [hb] at hnew
        refine ⟨by simp; omega, ⟨fun e => by simp at e; omega, fun e => ?_⟩⟩
        have := e i (by omega)
        rw [hnew] at this; cases this
      | false =>
        rw [hb] at hnew
        refine ⟨by simp; omega, ⟨fun e k hk => ?_, fun e => ?_⟩⟩
        · simp at e
          by_cases hki : k = i
          · rw [hki]; exact hnew
          · exact b.1 e k (by omega)
        · have := b.2 fun k hk => e k (by omega)
          simp; exact this
  obtain ⟨hle, hiff⟩ := hD os.length (Nat.le_refl _)
  rw [List.take_length] at hle hiff
  have hs := setOf_lt' os.length (Nat.le_refl _) h
  rw [List.take_length] at hs
  have hbf := bits_fr hs (show n ≤ 64 by omega)
  have hall : (Am.bits (setOf os)).length = n ↔ setOf os = 2 ^ n - 1 := by
    constructor
    · intro e
      have h0 : fr n (setOf os) = [] := List.length_eq_zero_iff.1 (by omega)
      apply Nat.eq_of_testBit_eq
      intro i
      rw [Nat.testBit_two_pow_sub_one]
      by_cases hi : i < n
      · cases hb : (setOf os).testBit i with
        | true => simp [hi]
        | false =>
          have : i ∈ fr n (setOf os) := mem_fr.2 ⟨hi, hb⟩
          rw [h0] at this; cases this
      · rw [Nat.testBit_lt_two_pow (Nat.lt_of_lt_of_le hs (Nat.pow_le_pow_right (by decide) (by omega)))]; simp [hi]
    · intro e
      have h0 : fr n (setOf os) = [] := by
        rw [List.eq_nil_iff_forall_not_mem]
        intro i hi
        have := mem_fr.1 hi
        rw [e, Nat.testBit_two_pow_sub_one] at this
        simp [this.1] at this
      rw [h0] at hbf; simpa using hbf
  rw [Bool.eq_iff_iff, isOrd, Bool.and_eq_true, Bool.and_eq_true, List.all_eq_true, decide_eq_true_eq, decide_eq_true_eq]
  simp only [List.mem_range]
  constructor
  · rintro ⟨h1, h2⟩
    have h3 : os.length = n := by simpa using h2
    exact ⟨h3, hall.1 (by rw [← h3]; exact hiff.2 h1)⟩
  · rintro ⟨h1, h2⟩
    refine ⟨hiff.1 (by rw [hall.2 h2]; exact h1.symm), by simpa using h1⟩
theorem ord_no {n : Nat} {os : List Int} {i : Nat} (hi : i < os.length) (h : ¬ inRg n os i) : isOrd n os = false := by
  have : (List.range os.length).all (newAt n os) = false := by
    rw [List.all_eq_false]
    refine ⟨i, List.mem_range.2 hi, ?_⟩
    intro hn
    simp only [newAt, Bool.and_eq_true, decide_eq_true_eq] at hn
    exact h hn.1
  rw [isOrd, this, Bool.false_and]
theorem ord_rng {n : Nat} {os : List Int} (h : isOrd n os = true) : os.length = n ∧ ∀ k, k < os.length → inRg n os k ∧ newAt n os k = true := by
  rw [isOrd, Bool.and_eq_true, List.all_eq_true] at h
  refine ⟨by simpa using h.2, fun k hk => ?_⟩
  have := h.1 k (List.mem_range.2 hk)
  refine ⟨?_, this⟩
  simp only [newAt, Bool.and_eq_true, decide_eq_true_eq] at this
  exact this.1
/-- One by one. -/
def agJ (xs os : List Int) (i : Nat) : Nat → Nat
  | 0 => 0
  | j + 1 => agJ xs os i j + if (xs.getD (os.getD i 0).toNat 0).toNat.testBit (os.getD j 0).toNat = true then 1 else 0
theorem agJ_eq {xs os : List Int} (hn : xs.length ≤ 8) (h : isOrd xs.length os = true) (i : Nat) : ∀ j, j ≤ os.length → agJ xs os i j = cst xs (os.getD i 0).toNat (setOf (os.take j))
  | 0, _ => by
    have : setOf (os.take 0) = 0 := rfl
    rw [agJ, cst, this, Nat.and_zero]; rfl
  | j + 1, hj => by
    obtain ⟨hr, hnew⟩ := (ord_rng h).2 j (by omega)
    simp only [newAt, Bool.and_eq_true, Bool.not_eq_true'] at hnew
    rw [agJ, agJ_eq hn h i j (by omega), take_snoc (by omega), setOf_snoc, cst, cst, bits_and_put (by have := hr.1; have := hr.2; omega) hnew.2]
end Go.Proofs.Tryd.Am

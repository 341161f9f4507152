/-
  Codes as sets of bits, plain.
-/
import Derived.Test.YtaagkbbphgdcdaaDoorAmZa
import Derived.Test.YtaagkbbphgdcdaaDoorAlpha
set_option linter.all false
namespace Sr
open Go.Am
theorem less_le (a b : Nat) : less a b ≤ a := by
  have : less a b &&& a = less a b := by
    apply Nat.eq_of_testBit_eq; intro i
    rw [Nat.testBit_and, less_testBit]; cases a.testBit i <;> simp
  rw [← this]; exact Nat.and_le_right
theorem bits_len (s : Nat) : (bits s).length = (List.range 64).countP s.testBit := by rw [bits, List.countP_eq_length_filter]
/-- Sets made bit by bit. -/
def mk (p : Nat → Bool) : Nat → Nat
  | 0 => 0
  | k + 1 => if p k = true then mk p k ||| 2 ^ k else mk p k
theorem mk_lt (p : Nat → Bool) : ∀ k, mk p k < 2 ^ k
  | 0 => by simp [mk]
  | k + 1 => by
    have h := mk_lt p k
    have h2 : 2 ^ (k + 1) = 2 ^ k * 2 := Nat.pow_succ ..
    rw [mk]
    split
    · exact Nat.or_lt_two_pow (by omega) (by omega)
    · omega
theorem mk_bit (p : Nat → Bool) : ∀ k i, (mk p k).testBit i = (decide (i < k) && p i)
  | 0, i => by simp [mk]
  | k + 1, i => by
    rw [mk]
    by_cases hp : p k = true
    · rw [if_pos hp, Nat.testBit_or, mk_bit p k i, Nat.testBit_two_pow]
      by_cases h1 : i < k
      · have : ¬ k = i := by omega
        simp [h1, this]; omega
      · by_cases h2 : k = i
        · subst h2; simp [hp]
        · have : ¬ i < k + 1 := by omega
          simp [h1, h2, this]
    · rw [if_neg hp, mk_bit p k i]
      by_cases h1 : i < k
      · have : i < k + 1 := by omega
        simp [h1, this]
      · by_cases h2 : k = i
        · subst h2; simp at hp; simp [hp]
        · have : ¬ i < k + 1 := by omega
          simp [h1, this]
theorem mk_zero (p : Nat → Bool) : mk p 0 = 0 := rfl

def nb (nr : List Nat) (v : Nat) : Nat := nr.getD v 0
/-- A graph: who is near to whom. -/
structure Gr (nr : List Nat) : Prop where
  len : nr.length ≤ 64
  lt : ∀ v, nb nr v < 2 ^ nr.length
  irr : ∀ v, (nb nr v).testBit v = false
  sym : ∀ v x, (nb nr v).testBit x = (nb nr x).testBit v
def ok (nr : List Nat) (v x : Nat) : Bool := !(nb nr v).testBit x
def A (nr : List Nat) (s : Nat) : Nat := al (ok nr) (List.range 64) s.testBit
/-- A set without v and without what is near to it. -/
def cut (nr : List Nat) (s v : Nat) : Nat := less (less s (nb nr v)) (2 ^ v)
section
variable {nr : List Nat} {s v : Nat}
theorem cut_bit (x : Nat) : (cut nr s v).testBit x = (s.testBit x && (x != v && ok nr v x)) := by
  rw [cut, less_testBit, less_testBit, Nat.testBit_two_pow, ok]
  by_cases h : v = x
  · subst h; simp
  · have : (x != v) = true := by simp [Ne.symm h]
    simp [h, this]
theorem less_bit (x : Nat) : (less s (2 ^ v)).testBit x = (s.testBit x && x != v) := by
  rw [less_testBit, Nat.testBit_two_pow]
  by_cases h : v = x
  · subst h; simp
  · have : (x != v) = true := by simp [Ne.symm h]
    simp [h, this]
theorem cut_or : less s (nb nr v ||| 2 ^ v) = cut nr s v := by
  apply Nat.eq_of_testBit_eq; intro i
  rw [cut, less_testBit, less_testBit, less_testBit, Nat.testBit_or]
  cases s.testBit i <;> simp
theorem cut_swap : less (less s (2 ^ v)) (nb nr v) = cut nr s v := by
  apply Nat.eq_of_testBit_eq; intro i
  rw [cut, less_testBit, less_testBit, less_testBit, less_testBit]
  cases s.testBit i <;> cases (nb nr v).testBit i <;> simp
theorem cut_lt {n : Nat} (h : s < 2 ^ n) : cut nr s v < 2 ^ n := less_lt (less_lt h)
theorem cut_less (g : Gr nr) (hv : s.testBit v = true) : cut nr s v < s := by
  have h1 : (less s (nb nr v)).testBit v = true := by rw [less_testBit, hv, g.irr]; rfl
  have h2 := less_bit_lt h1
  have h3 := less_le s (nb nr v)
  unfold cut; omega
theorem bit_lt {n : Nat} (h : s < 2 ^ n) (hv : s.testBit v = true) : v < n := by
  refine Nat.lt_of_not_le fun h1 => ?_
  rw [Nat.testBit_lt_two_pow (Nat.lt_of_lt_of_le h (Nat.pow_le_pow_right (by decide) h1))] at hv; cases hv
theorem ok_comm (g : Gr nr) (i j : Nat) : ok nr i j = ok nr j i := by rw [ok, ok, g.sym]
theorem A_zero : A nr 0 = 0 := al_none fun i _ => by simp
theorem A_pivot (g : Gr nr) (hs : s < 2 ^ 64) (hv : s.testBit v = true) : A nr s = max (A nr (less s (2 ^ v))) (1 + A nr (cut nr s v)) := by
  have hl := List.mem_range.2 (bit_lt hs hv)
  rw [A, al_pivot (ok_comm g) List.nodup_range hl hv, A, A]
  rw [al_congr (q := (less s (2 ^ v)).testBit) _ fun x _ => (less_bit x).symm, al_congr (q := (cut nr s v).testBit) _ fun x _ => (cut_bit x).symm]
theorem A_one (g : Gr nr) (hs : s < 2 ^ 64) (hv : s.testBit v = true) (hd : (bits (nb nr v &&& s)).length ≤ 1) : A nr s = 1 + A nr (cut nr s v) := by
  have hl := List.mem_range.2 (bit_lt hs hv)
  rw [A, al_one (ok_comm g) List.nodup_range hl hv, A, al_congr (q := (cut nr s v).testBit) _ fun x _ => (cut_bit x).symm]
  rw [bits_len] at hd
  refine Nat.le_trans (Nat.le_of_eq ?_) hd
  refine List.countP_congr fun x _ => ?_
  rw [Nat.testBit_and, ok, Bool.not_not]
  by_cases h : x = v
  · subst h; simp [g.irr]
  · have : (x != v) = true := by simp [h]
    rw [this, Bool.true_and, Bool.and_comm]
theorem A_pos (g : Gr nr) (hs : s < 2 ^ 64) (hv : s.testBit v = true) : 0 < A nr s := by
  rw [A_pivot g hs hv]; omega
theorem A_le (nr : List Nat) (s : Nat) : A nr s ≤ 64 := by
  have : ∀ (l : List Nat) (p : Nat → Bool), al (ok nr) l p ≤ l.length := by
    intro l
    induction l with
    | nil => intro p; simp [al]
    | cons c r ih =>
      intro p
      have h1 := ih p
      have h2 := ih fun x => p x && ok nr c x
      rw [al, List.length_cons]; split <;> omega
  have h := this (List.range 64) s.testBit
  rw [List.length_range] at h; exact h
end

/-- Word by word, as long as the rest can still have the most. -/
def cStep (nr : List Nat) (s : Nat × Nat × List Nat) (v : Nat) : Nat × Nat × List Nat :=
  if s.1.testBit v = true then (if 1 + A nr (cut nr s.1 v) = s.2.1 then (cut nr s.1 v, s.2.1 - 1, s.2.2 ++ [v]) else (less s.1 (2 ^ v), s.2.1, s.2.2)) else s
def cAt (nr : List Nat) (k : Nat) : Nat × Nat × List Nat := (List.range k).foldl (cStep nr) (2 ^ nr.length - 1, A nr (2 ^ nr.length - 1), [])
theorem cAt_succ (nr : List Nat) (k : Nat) : cAt nr (k + 1) = cStep nr (cAt nr k) k := by rw [cAt, List.range_succ, List.foldl_append]; rfl
def codeL (nr : List Nat) : List Nat := (cAt nr nr.length).2.2
theorem cAt_inv {nr : List Nat} (g : Gr nr) : ∀ k, (cAt nr k).1 < 2 ^ nr.length ∧ (cAt nr k).2.1 = A nr (cAt nr k).1 ∧ (cAt nr k).2.2.length ≤ k
  | 0 => by
    have := Nat.two_pow_pos nr.length
    exact ⟨by show 2 ^ nr.length - 1 < _; omega, rfl, Nat.le_refl _⟩
  | k + 1 => by
    obtain ⟨h1, h2, h3⟩ := cAt_inv g k
    have h64 : (cAt nr k).1 < 2 ^ 64 := Nat.lt_of_lt_of_le h1 (Nat.pow_le_pow_right (by decide) g.len)
    rw [cAt_succ]
    generalize cAt nr k = s at h1 h2 h3 h64
    unfold cStep
    split
    · rename_i hb
      have hp := A_pivot g h64 hb
      split
      · exact ⟨cut_lt h1, by simp only; omega, by rw [List.length_append, List.length_singleton]; omega⟩
      · exact ⟨less_lt h1, by simp only; omega, by simp only; omega⟩
    · exact ⟨h1, h2, by omega⟩
end Sr

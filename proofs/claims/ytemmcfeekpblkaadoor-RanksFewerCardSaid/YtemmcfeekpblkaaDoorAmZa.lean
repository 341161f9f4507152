/-
  The abstract machine, part Za: unsigned ints of 64 bits as numbers.
-/
import Derived.Test.YtemmcfeekpblkaaDoorAmZ
set_option linter.all false
namespace Go.Am

/-- An unsigned int of 64 bits. -/
abbrev vu (n : Nat) : Value := .int .u64 (n : Int)
theorem wrapU_id {x : Int} (h1 : 0 ≤ x) (h2 : x < 18446744073709551616) : IntKind.u64.wrap x = x := by
  simp [IntKind.wrap, IntKind.signed, IntKind.bits]; omega
theorem ofNatU {a : Nat} (ha : a < 18446744073709551616) : (BitVec.ofInt 64 (a : Int)).toNat = a := by
  rw [BitVec.ofInt_natCast, BitVec.toNat_ofNat]; exact Nat.mod_eq_of_lt (by omega)
theorem addU {a b : Nat} (h : a + b < 18446744073709551616) : addV .u64 (a : Int) (b : Int) = ((a + b : Nat) : Int) := by
  rw [show ((a + b : Nat) : Int) = (a : Int) + b by omega]; exact wrapU_id (by omega) (by omega)
theorem subU {a b : Nat} (hb : b ≤ a) (ha : a < 18446744073709551616) : subV .u64 (a : Int) (b : Int) = ((a - b : Nat) : Int) := by
  rw [show ((a - b : Nat) : Int) = (a : Int) - b by omega]; exact wrapU_id (by omega) (by omega)
theorem subU1 {a : Nat} (hb : 1 ≤ a) (ha : a < 18446744073709551616) : subV .u64 (a : Int) 1 = ((a - 1 : Nat) : Int) := subU (b := 1) hb ha
theorem andU {a b : Nat} (ha : a < 18446744073709551616) (hb : b < 18446744073709551616) : bitsV .and .u64 a b = ((a &&& b : Nat) : Int) := by
  have hx : a &&& b < 2 ^ 64 := Nat.and_lt_two_pow _ (by omega)
  show IntKind.u64.wrap ((BitVec.ofInt 64 (a : Int) &&& BitVec.ofInt 64 (b : Int)).toNat : Int) = _
  rw [BitVec.toNat_and, ofNatU ha, ofNatU hb]; exact wrapU_id (by omega) (by omega)
theorem orU {a b : Nat} (ha : a < 18446744073709551616) (hb : b < 18446744073709551616) : bitsV .or .u64 a b = ((a ||| b : Nat) : Int) := by
  have hx : a ||| b < 2 ^ 64 := Nat.or_lt_two_pow (by omega) (by omega)
  show IntKind.u64.wrap ((BitVec.ofInt 64 (a : Int) ||| BitVec.ofInt 64 (b : Int)).toNat : Int) = _
  rw [BitVec.toNat_or, ofNatU ha, ofNatU hb]; exact wrapU_id (by omega) (by omega)
theorem lessU {a b : Nat} (ha : a < 18446744073709551616) (hb : b < 18446744073709551616) : bitsV .andNot .u64 a b = ((less a b : Nat) : Int) := by
  have hx : less a b < 2 ^ 64 := less_lt (by omega)
  show IntKind.u64.wrap ((BitVec.ofInt 64 (a : Int) &&& ~~~ (BitVec.ofInt 64 (b : Int))).toNat : Int) = _
  have e : (BitVec.ofInt 64 (a : Int) &&& ~~~ (BitVec.ofInt 64 (b : Int))).toNat = less a b := by
    apply Nat.eq_of_testBit_eq
    intro i
    rw [less_testBit, BitVec.testBit_toNat, BitVec.getLsbD_and, BitVec.getLsbD_not, ← BitVec.testBit_toNat, ← BitVec.testBit_toNat, ofNatU ha, ofNatU hb]
    by_cases hi : i < 64
    · simp [hi]
    · have : a.testBit i = false := Nat.testBit_lt_two_pow (Nat.lt_of_lt_of_le ha (by have := Nat.pow_le_pow_right (n := 2) (by decide) (show 64 ≤ i by omega); omega))
      simp [this]
  rw [e]; exact wrapU_id (by omega) (by omega)
theorem shrU {a y : Nat} (ha : a < 18446744073709551616) : shrV .u64 a y = ((a >>> y : Nat) : Int) := by
  simp only [shrV, Int.toNat_natCast, IntKind.bits]
  rw [Nat.shiftRight_eq_div_pow]
  by_cases hy : y ≤ 64
  · rw [Nat.min_eq_left hy, Int.fdiv_eq_ediv_of_nonneg _ (by exact Int.le_of_lt (Int.pow_pos (by decide)))]
    simp
  · rw [Nat.min_eq_right (by omega)]
    have h1 : a / 2 ^ y = 0 := Nat.div_eq_of_lt (Nat.lt_of_lt_of_le ha (by have := Nat.pow_le_pow_right (n := 2) (by decide) (show 64 ≤ y by omega); omega))
    rw [h1, Int.fdiv_eq_ediv_of_nonneg _ (by decide)]
    omega
theorem shlU {a y : Nat} (h : a * 2 ^ y < 18446744073709551616) (hy : y ≤ 64) : shlV .u64 a y = ((a * 2 ^ y : Nat) : Int) := by
  simp only [shlV, Int.toNat_natCast, IntKind.bits]
  rw [Nat.min_eq_left hy]
  have e : (a : Int) * 2 ^ y = ((a * 2 ^ y : Nat) : Int) := by simp
  rw [e]; exact wrapU_id (by omega) (by omega)
theorem shlU1 {y : Nat} (hy : y < 64) : shlV .u64 1 y = ((2 ^ y : Nat) : Int) := by
  have h2 := Nat.pow_lt_pow_right (a := 2) (by decide) hy
  have h := shlU (a := 1) (y := y) (by rw [Nat.one_mul]; exact h2) (by omega)
  rw [Nat.one_mul] at h; exact h
/-- The test of one element. -/
theorem testU {a y : Nat} (ha : a < 18446744073709551616) : bitsV .and .u64 (shrV .u64 a y) 1 = if a.testBit y then 1 else 0 := by
  rw [shrU ha]
  have := andU (a := a >>> y) (b := 1) (Nat.lt_of_le_of_lt (by rw [Nat.shiftRight_eq_div_pow]; exact Nat.div_le_self _ _) ha) (by decide)
  rw [show ((1 : Nat) : Int) = 1 from rfl] at this
  rw [this, Nat.and_one_is_mod, Nat.testBit_eq_decide_div_mod_eq, Nat.shiftRight_eq_div_pow]
  rcases Nat.mod_two_eq_zero_or_one (a / 2 ^ y) with h | h <;> simp [h]
theorem bits_stepU (t : Nat) (ht : t < 18446744073709551616) (h0 : t ≠ 0) : bits t = Lib.ctz 64 t :: bits (t &&& (t - 1)) := by
  obtain ⟨m, hm, hk⟩ := Lib.ctzFrom_spec 64 t (by omega) (by omega)
  have hc : Lib.ctz 64 t = Lib.ctzFrom 64 t := by simp [Lib.ctz, h0]
  rw [hc]
  generalize Lib.ctzFrom 64 t = k at hm hk
  have hp : 0 < 2 ^ k := Nat.two_pow_pos k
  have e1 : t = 2 ^ k * (2 * m + 1) + 0 := by omega
  have e2 : t - 1 = 2 ^ k * (2 * m) + (2 ^ k - 1) := by
    rw [hm, Nat.mul_add]; omega
  have b1 : ∀ i, t.testBit i = if i < k then false else (2 * m + 1).testBit (i - k) := fun i => by
    rw [e1, Nat.testBit_two_pow_mul_add _ hp]; simp
  have b2 : ∀ i, (t - 1).testBit i = if i < k then true else (2 * m).testBit (i - k) := fun i => by
    rw [e2, Nat.testBit_two_pow_mul_add _ (by omega)]
    by_cases hi : i < k <;> simp [hi]
  have bk : t.testBit k = true := by rw [b1]; simp
  refine (filter_first bk (fun i hi => by rw [b1]; simp [hi]) (fun i => ?_) 64).1 (by omega)
  rw [Nat.testBit_and, b1, b2]
  by_cases hi : i < k
  · simp [hi]
  · simp only [hi, if_false]
    by_cases he : i = k
    · subst he; simp
    · obtain ⟨j, rfl⟩ : ∃ j, i = k + (j + 1) := ⟨i - k - 1, by omega⟩
      have e3 : k + (j + 1) - k = j + 1 := by omega
      rw [e3, Nat.testBit_succ, Nat.testBit_succ]
      have d1 : (2 * m + 1) / 2 = m := by omega
      have d2 : 2 * m / 2 = m := by omega
      rw [d1, d2]; simp
end Go.Am

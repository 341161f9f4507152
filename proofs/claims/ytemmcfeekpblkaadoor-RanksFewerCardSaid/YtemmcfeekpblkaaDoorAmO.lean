/-
  The abstract machine, part O: ints as numbers: what the operators come to on naturals; sets as numbers.
-/
import Derived.Test.YtemmcfeekpblkaaDoorAmN
import Derived.Laws.Bits64b
import Derived.Lib.TrailingZeros
set_option linter.all false
namespace Go.Am

theorem wrap_id {x : Int} (h1 : -9223372036854775808 ≤ x) (h2 : x < 9223372036854775808) : IntKind.i64.wrap x = x := by
  simp [IntKind.wrap, IntKind.signed, IntKind.bits]; omega
theorem addV_id {a b : Int} (h1 : -9223372036854775808 ≤ a + b) (h2 : a + b < 9223372036854775808) : addV .i64 a b = a + b := wrap_id h1 h2
theorem subV_id {a b : Int} (h1 : -9223372036854775808 ≤ a - b) (h2 : a - b < 9223372036854775808) : subV .i64 a b = a - b := wrap_id h1 h2
theorem mulV_id {a b : Int} (h1 : -9223372036854775808 ≤ a * b) (h2 : a * b < 9223372036854775808) : mulV .i64 a b = a * b := wrap_id h1 h2

theorem ofNat64 {a : Nat} (ha : a < 9223372036854775808) : (BitVec.ofInt 64 (a : Int)).toNat = a := by
  rw [BitVec.ofInt_natCast, BitVec.toNat_ofNat]; exact Nat.mod_eq_of_lt (by omega)
theorem bitsV_and {a b : Nat} (ha : a < 9223372036854775808) (hb : b < 9223372036854775808) : bitsV .and .i64 a b = ((a &&& b : Nat) : Int) := by
  have hx : a &&& b < 2 ^ 63 := Nat.and_lt_two_pow _ (by omega)
  show IntKind.i64.wrap ((BitVec.ofInt 64 (a : Int) &&& BitVec.ofInt 64 (b : Int)).toNat : Int) = _
  rw [BitVec.toNat_and, ofNat64 ha, ofNat64 hb]; exact wrap_id (by omega) (by omega)
theorem bitsV_or {a b : Nat} (ha : a < 9223372036854775808) (hb : b < 9223372036854775808) : bitsV .or .i64 a b = ((a ||| b : Nat) : Int) := by
  have hx : a ||| b < 2 ^ 63 := Nat.or_lt_two_pow (by omega) (by omega)
  show IntKind.i64.wrap ((BitVec.ofInt 64 (a : Int) ||| BitVec.ofInt 64 (b : Int)).toNat : Int) = _
  rw [BitVec.toNat_or, ofNat64 ha, ofNat64 hb]; exact wrap_id (by omega) (by omega)
theorem bitsV_xor {a b : Nat} (ha : a < 9223372036854775808) (hb : b < 9223372036854775808) : bitsV .xor .i64 a b = ((a ^^^ b : Nat) : Int) := by
  have hx : a ^^^ b < 2 ^ 63 := Nat.xor_lt_two_pow (by omega) (by omega)
  show IntKind.i64.wrap ((BitVec.ofInt 64 (a : Int) ^^^ BitVec.ofInt 64 (b : Int)).toNat : Int) = _
  rw [BitVec.toNat_xor, ofNat64 ha, ofNat64 hb]; exact wrap_id (by omega) (by omega)
/-- What is in a and not in b. -/
def less (a b : Nat) : Nat := a ^^^ (a &&& b)
theorem less_testBit (a b i : Nat) : (less a b).testBit i = (a.testBit i && !b.testBit i) := by
  simp only [less, Nat.testBit_xor, Nat.testBit_and]; cases a.testBit i <;> cases b.testBit i <;> rfl
theorem less_lt {a b n : Nat} (ha : a < 2 ^ n) : less a b < 2 ^ n := Nat.xor_lt_two_pow ha (Nat.lt_of_le_of_lt Nat.and_le_left ha)
theorem bitsV_andNot {a b : Nat} (ha : a < 9223372036854775808) (hb : b < 9223372036854775808) : bitsV .andNot .i64 a b = ((less a b : Nat) : Int) := by
  have hx : less a b < 2 ^ 63 := less_lt (by omega)
  show IntKind.i64.wrap ((BitVec.ofInt 64 (a : Int) &&& ~~~ (BitVec.ofInt 64 (b : Int))).toNat : Int) = _
  have e : (BitVec.ofInt 64 (a : Int) &&& ~~~ (BitVec.ofInt 64 (b : Int))).toNat = less a b := by
    apply Nat.eq_of_testBit_eq
    intro i
    rw [less_testBit, BitVec.testBit_toNat, BitVec.getLsbD_and, BitVec.getLsbD_not, ← BitVec.testBit_toNat, ← BitVec.testBit_toNat, ofNat64 ha, ofNat64 hb]
    by_cases hi : i < 64
    · simp [hi]
    · have : a.testBit i = false := Nat.testBit_lt_two_pow (Nat.lt_of_lt_of_le ha (by have := Nat.pow_le_pow_right (n := 2) (by decide) (show 63 ≤ i by omega); omega))
      simp [this]
  rw [e]; exact wrap_id (by omega) (by omega)

theorem shrV_nat {a y : Nat} (ha : a < 9223372036854775808) : shrV .i64 a y = ((a >>> y : Nat) : Int) := by
  simp only [shrV, Int.toNat_natCast, IntKind.bits]
  rw [Nat.shiftRight_eq_div_pow]
  by_cases hy : y ≤ 64
  · rw [Nat.min_eq_left hy, Int.fdiv_eq_ediv_of_nonneg _ (by exact Int.le_of_lt (Int.pow_pos (by decide)))]
    simp
  · rw [Nat.min_eq_right (by omega)]
    have h1 : a / 2 ^ y = 0 := Nat.div_eq_of_lt (Nat.lt_of_lt_of_le ha (by have := Nat.pow_le_pow_right (n := 2) (by decide) (show 63 ≤ y by omega); omega))
    rw [h1, Int.fdiv_eq_ediv_of_nonneg _ (by decide)]
    omega
theorem shlV_nat {a y : Nat} (h : a * 2 ^ y < 9223372036854775808) (hy : y ≤ 64) : shlV .i64 a y = ((a * 2 ^ y : Nat) : Int) := by
  simp only [shlV, Int.toNat_natCast, IntKind.bits]
  rw [Nat.min_eq_left hy]
  have e : (a : Int) * 2 ^ y = ((a * 2 ^ y : Nat) : Int) := by simp
  rw [e]; exact wrap_id (by omega) (by omega)

/-- The test of one element. -/
theorem testV {a y : Nat} (ha : a < 9223372036854775808) : bitsV .and .i64 (shrV .i64 a y) 1 = if a.testBit y then 1 else 0 := by
  rw [shrV_nat ha]
  have := bitsV_and (a := a >>> y) (b := 1) (Nat.lt_of_le_of_lt (by rw [Nat.shiftRight_eq_div_pow]; exact Nat.div_le_self _ _) ha) (by decide)
  rw [show ((1 : Nat) : Int) = 1 from rfl] at this
  rw [this, Nat.and_one_is_mod, Nat.testBit_eq_decide_div_mod_eq, Nat.shiftRight_eq_div_pow]
  rcases Nat.mod_two_eq_zero_or_one (a / 2 ^ y) with h | h <;> simp [h]

theorem filter_first {p q : Nat → Bool} {k : Nat} (hk : p k = true) (hlo : ∀ i, i < k → p i = false) (hq : ∀ i, q i = (p i && decide (i ≠ k))) :
    ∀ n, ((k < n → (List.range n).filter p = k :: (List.range n).filter q) ∧ (n ≤ k → (List.range n).filter p = [] ∧ (List.range n).filter q = []))
  | 0 => by simp
  | n + 1 => by
    obtain ⟨h1, h2⟩ := filter_first hk hlo hq n
    rw [List.range_succ, List.filter_append, List.filter_append]
    refine ⟨fun h => ?_, fun h => ?_⟩
    · by_cases hn : k < n
      · rw [h1 hn]
        have : q n = p n := by rw [hq]; simp; omega
        simp [List.filter_cons, this]
      · obtain rfl : k = n := by omega
        obtain ⟨e1, e2⟩ := h2 (Nat.le_refl _)
        rw [e1, e2]
        simp [hk, hq]
    · obtain ⟨e1, e2⟩ := h2 (by omega)
      rw [e1, e2]
      have h3 : p n = false := hlo n (by omega)
      simp [h3, hq]

theorem bits_step (t : Nat) (ht : t < 9223372036854775808) (h0 : t ≠ 0) : bits t = Lib.ctz 64 t :: bits (t &&& (t - 1)) := by
  obtain ⟨m, hm, hk⟩ := Lib.ctzFrom_spec 64 t (by omega) (by omega)
  have hc : Lib.ctz 64 t = Lib.ctzFrom 64 t := by simp [Lib.ctz, h0]
  rw [hc]
  generalize Lib.ctzFrom 64 t = k at hm hk
  have hp : 0 < 2 ^ k := Nat.two_pow_pos k
  have e1 : t = 2 ^ k * (2 * m + 1) + 0 := by omega
  have e2 : t - 1 = 2 ^ k * (2 * m) + (2 ^ k - 1) := by
    rw [hm, Nat.mul_add]; omega
  have b1 : ∀ i, t.testBit i = if i < k then false else (2 * m + 1).testBit (i - k) := fun i => by
    rw [e1, Nat.testBit_two_pow_mul_add _ hp]; simp
  have b2 : ∀ i, (t - 1).testBit i = if i < k then true else (2 * m).testBit (i - k) := fun i => by
    rw [e2, Nat.testBit_two_pow_mul_add _ (by omega)]
    by_cases hi : i < k <;> simp [hi]
  have bk : t.testBit k = true := by rw [b1]; simp
  refine (filter_first bk (fun i hi => by rw [b1]; simp [hi]) (fun i => ?_) 64).1 (by omega)
  rw [Nat.testBit_and, b1, b2]
  by_cases hi : i < k
  · simp [hi]
  · simp only [hi, if_false]
    by_cases he : i = k
    · subst he; simp
    · obtain ⟨j, rfl⟩ : ∃ j, i = k + (j + 1) := ⟨i - k - 1, by omega⟩
      have e3 : k + (j + 1) - k = j + 1 := by omega
      rw [e3, Nat.testBit_succ, Nat.testBit_succ]
      have d1 : (2 * m + 1) / 2 = m := by omega
      have d2 : 2 * m / 2 = m := by omega
      rw [d1, d2]; simp

theorem mem_bits {s i : Nat} : i ∈ bits s ↔ i < 64 ∧ s.testBit i = true := by simp [bits]

/-- The table of math/bits lies as it was laid, in block g. -/
class BitTab (P : Program) (g : outParam Nat) extends Tabs P where
  et : TypeId
  fr : Nat × Nat
  eq : toTabs.tabs = [(g, .cells (Lib.deBruijn64tab.map fun (n : Nat) => Value.int .u8 n).toArray et fr)]
end Go.Am

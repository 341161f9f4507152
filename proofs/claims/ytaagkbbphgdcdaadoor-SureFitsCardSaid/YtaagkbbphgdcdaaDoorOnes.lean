/-
  How many bits a number has, as the library counts them: plain.
-/
import Derived.Test.YtaagkbbphgdcdaaDoorAmZa
import Derived.KernelRfl
set_option linter.all false
namespace Oc
open Go.Am
def M1 : Nat → Nat | 0 => 0 | n + 1 => 256 * M1 n + 85
def M2 : Nat → Nat | 0 => 0 | n + 1 => 256 * M2 n + 51
def M3 : Nat → Nat | 0 => 0 | n + 1 => 256 * M3 n + 15
def f1 (n x : Nat) : Nat := (x / 2 &&& M1 n) + (x &&& M1 n)
def f2 (n x : Nat) : Nat := (x / 4 &&& M2 n) + (x &&& M2 n)
def f3 (n x : Nat) : Nat := (x / 16 + x) &&& M3 n
theorem and_split {a b m M : Nat} (hb : b < 256) (hm : m < 256) : (256 * a + b) &&& (256 * M + m) = 256 * (a &&& M) + (b &&& m) := by
  have h2 : b &&& m < 2 ^ 8 := Nat.and_lt_two_pow _ hm
  apply Nat.eq_of_testBit_eq; intro i
  rw [Nat.testBit_and, show 256 = 2 ^ 8 from rfl, Nat.testBit_two_pow_mul_add _ hb, Nat.testBit_two_pow_mul_add _ hm, Nat.testBit_two_pow_mul_add _ h2]
  split <;> rw [Nat.testBit_and]
def d1 (b : Nat) : Nat := (b / 2 &&& 85) + (b &&& 85)
def d2 (b : Nat) : Nat := (d1 b / 4 &&& 51) + (d1 b &&& 51)
def d3 (b : Nat) : Nat := (d2 b / 16 + d2 b) &&& 15
theorem tab1 : (List.range 256).all (fun b => decide ((128 + b / 2) &&& 85 = b / 2 &&& 85) && decide (d1 b < 256)) = true := by kernel_rfl
theorem tab2 : (List.range 256).all (fun b => decide ((64 + d1 b / 4) &&& 51 = d1 b / 4 &&& 51) && decide ((128 + d1 b / 4) &&& 51 = d1 b / 4 &&& 51) && decide ((192 + d1 b / 4) &&& 51 = d1 b / 4 &&& 51)) = true := by kernel_rfl
theorem tab3 : (List.range 256).all (fun b => decide (d2 b < 256) && decide (d2 b % 16 ≤ 4) && decide (d2 b / 16 ≤ 4) && decide (d3 b ≤ 8) && decide (d3 b = (List.range 8).countP b.testBit)) = true := by kernel_rfl
variable {b n y : Nat}
theorem step1 (hb : b < 256) : f1 (n + 1) (256 * y + b) = 256 * f1 n y + d1 b := by
  have ht := List.all_eq_true.1 tab1 b (List.mem_range.2 hb)
  simp only [Bool.and_eq_true, decide_eq_true_eq] at ht
  have e : (256 * y + b) / 2 = 256 * (y / 2) + (128 * (y % 2) + b / 2) := by omega
  rw [f1, M1, e, and_split (by omega) (by decide), and_split hb (by decide), f1, d1]
  have : (128 * (y % 2) + b / 2) &&& 85 = b / 2 &&& 85 := by
    rcases Nat.mod_two_eq_zero_or_one y with h | h <;> rw [h]
    · rw [Nat.mul_zero, Nat.zero_add]
    · exact ht.1
  rw [this]; omega
theorem step2 (hb : b < 256) : f2 (n + 1) (256 * y + d1 b) = 256 * f2 n y + d2 b := by
  have h1 := List.all_eq_true.1 tab1 b (List.mem_range.2 hb)
  have ht := List.all_eq_true.1 tab2 b (List.mem_range.2 hb)
  simp only [Bool.and_eq_true, decide_eq_true_eq] at ht h1
  have e : (256 * y + d1 b) / 4 = 256 * (y / 4) + (64 * (y % 4) + d1 b / 4) := by omega
  rw [f2, M2, e, and_split (by omega) (by decide), and_split h1.2 (by decide), f2, d2]
  have : (64 * (y % 4) + d1 b / 4) &&& 51 = d1 b / 4 &&& 51 := by
    have : y % 4 = 0 ∨ y % 4 = 1 ∨ y % 4 = 2 ∨ y % 4 = 3 := by omega
    rcases this with h | h | h | h <;> rw [h]
    · rw [Nat.mul_zero, Nat.zero_add]
    · exact ht.1.1
    · exact ht.1.2
    · exact ht.2
  rw [this]; omega
theorem step3 (hb : b < 256) (hy : y % 16 ≤ 4) : f3 (n + 1) (256 * y + d2 b) = 256 * f3 n y + d3 b := by
  have ht := List.all_eq_true.1 tab3 b (List.mem_range.2 hb)
  simp only [Bool.and_eq_true, decide_eq_true_eq] at ht
  have e : (256 * y + d2 b) / 16 + (256 * y + d2 b) = 256 * (y / 16 + y) + (16 * (y % 16) + d2 b / 16 + d2 b) := by omega
  rw [f3, M3, e, and_split (by omega) (by decide), f3, d3]
  have : (16 * (y % 16) + d2 b / 16 + d2 b) &&& 15 = (d2 b / 16 + d2 b) &&& 15 := by
    rw [show 15 = 2 ^ 4 - 1 from rfl, Nat.and_two_pow_sub_one_eq_mod, Nat.and_two_pow_sub_one_eq_mod]; omega
  rw [this]
/-- Digit by digit. -/
def g1 : Nat → Nat → Nat | 0, _ => 0 | n + 1, x => 256 * g1 n (x / 256) + d1 (x % 256)
def g2 : Nat → Nat → Nat | 0, _ => 0 | n + 1, x => 256 * g2 n (x / 256) + d2 (x % 256)
def g3 : Nat → Nat → Nat | 0, _ => 0 | n + 1, x => 256 * g3 n (x / 256) + d3 (x % 256)
theorem split (x : Nat) : x = 256 * (x / 256) + x % 256 := by omega
theorem f1_eq : ∀ n x : Nat, f1 n x = g1 n x
  | 0, x => by simp [f1, g1, M1]
  | n + 1, x => by
    rw [g1, ← f1_eq n, ← step1 (Nat.mod_lt _ (by decide)), ← split x]
theorem f2_eq : ∀ n x : Nat, f2 n (g1 n x) = g2 n x
  | 0, x => by simp [f2, g2, M2]
  | n + 1, x => by rw [g1, step2 (Nat.mod_lt _ (by decide)), f2_eq n, g2]
theorem g2_mod : ∀ n x : Nat, g2 n x % 16 ≤ 4
  | 0, x => by simp [g2]
  | n + 1, x => by
    have ht := List.all_eq_true.1 tab3 (x % 256) (List.mem_range.2 (Nat.mod_lt _ (by decide)))
    simp only [Bool.and_eq_true, decide_eq_true_eq] at ht
    rw [g2]; omega
theorem f3_eq : ∀ n x : Nat, f3 n (g2 n x) = g3 n x
  | 0, x => by simp [f3, g3, M3]
  | n + 1, x => by rw [g2, step3 (Nat.mod_lt _ (by decide)) (g2_mod n _), f3_eq n, g3]
theorem f123 (x : Nat) : f3 8 (f2 8 (f1 8 x)) = g3 8 x := by rw [f1_eq, f2_eq, f3_eq]
theorem pop_step (n x : Nat) : (List.range (8 + n)).countP x.testBit = d3 (x % 256) + (List.range n).countP (x / 256).testBit := by
  have ht := List.all_eq_true.1 tab3 (x % 256) (List.mem_range.2 (Nat.mod_lt _ (by decide)))
  simp only [Bool.and_eq_true, decide_eq_true_eq] at ht
  rw [ht.2, List.range_add, List.countP_append, List.countP_map]
  congr 1
  · refine List.countP_congr fun i hi => ?_
    rw [show 256 = 2 ^ 8 from rfl, Nat.testBit_mod_two_pow]
    simp [List.mem_range.1 hi]
  · refine List.countP_congr fun i _ => ?_
    rw [Function.comp, show 256 = 2 ^ 8 from rfl, Nat.testBit_div_two_pow, Nat.add_comm]
def c (x k : Nat) : Nat := d3 (x / 256 ^ k % 256)
theorem c_le (x k : Nat) : c x k ≤ 8 := by
  have ht := List.all_eq_true.1 tab3 (x / 256 ^ k % 256) (List.mem_range.2 (Nat.mod_lt _ (by decide)))
  simp only [Bool.and_eq_true, decide_eq_true_eq] at ht
  exact ht.1.2
theorem g3_8 (x : Nat) : g3 8 x = c x 0 + 256 * (c x 1 + 256 * (c x 2 + 256 * (c x 3 + 256 * (c x 4 + 256 * (c x 5 + 256 * (c x 6 + 256 * c x 7)))))) := by
  simp only [g3, c, Nat.div_div_eq_div_mul, Nat.reduceMul, Nat.reducePow, Nat.div_one, Nat.mul_zero, Nat.zero_add]; omega
theorem pop_8 (x : Nat) : (bits x).length = c x 0 + c x 1 + c x 2 + c x 3 + c x 4 + c x 5 + c x 6 + c x 7 := by
  rw [bits, ← List.countP_eq_length_filter, show (64 : Nat) = 8 + (8 + (8 + (8 + (8 + (8 + (8 + (8 + 0))))))) from rfl, pop_step, pop_step, pop_step, pop_step, pop_step, pop_step, pop_step, pop_step]
  simp only [c, Nat.div_div_eq_div_mul, Nat.reduceMul, Nat.reducePow, Nat.div_one, List.range_zero, List.countP_nil]; omega
theorem dv {a b : Nat} (h : a < 256) : (a + 256 * b) / 256 = b := by omega
theorem dv2 {a a' b : Nat} (h : a < 256) (h' : a' < 256) : (a + 256 * (a' + 256 * b)) / 65536 = b := by rw [show 65536 = 256 * 256 from rfl, ← Nat.div_div_eq_div_mul, dv h, dv h']
theorem dv4 {a a' a2 a3 b : Nat} (h : a < 256) (h' : a' < 256) (h2 : a2 < 256) (h3 : a3 < 256) : (a + 256 * (a' + 256 * (a2 + 256 * (a3 + 256 * b)))) / 4294967296 = b := by
  rw [show 4294967296 = 65536 * 65536 from rfl, ← Nat.div_div_eq_div_mul, dv2 h h', dv2 h2 h3]
theorem ad {a b x y : Nat} : (a + 256 * x) + (b + 256 * y) = (a + b) + 256 * (x + y) := by omega
theorem ad0 {a b x : Nat} : (a + 256 * x) + b = (a + b) + 256 * x := by omega
theorem md {a x : Nat} (h : a < 128) : (a + 256 * x) % 128 = a := by omega
theorem bd {a x k : Nat} (h : a < 256) (hx : x < 256 ^ k) : a + 256 * x < 256 ^ (k + 1) := by rw [Nat.pow_succ]; omega
def y0 (c0 c1 c2 c3 c4 c5 c6 c7 : Nat) : Nat := c0 + 256 * (c1 + 256 * (c2 + 256 * (c3 + 256 * (c4 + 256 * (c5 + 256 * (c6 + 256 * c7))))))
section
variable {c0 c1 c2 c3 c4 c5 c6 c7 : Nat}
theorem y0_lt (h0 : c0 < 256) (h1 : c1 < 256) (h2 : c2 < 256) (h3 : c3 < 256) (h4 : c4 < 256) (h5 : c5 < 256) (h6 : c6 < 256) (h7 : c7 < 128) : y0 c0 c1 c2 c3 c4 c5 c6 c7 < 9223372036854775808 := by
  unfold y0; omega
theorem y0_256 (h0 : c0 < 256) : y0 c0 c1 c2 c3 c4 c5 c6 c7 / 256 = y0 c1 c2 c3 c4 c5 c6 c7 0 := by unfold y0; rw [dv h0]; omega
theorem y0_2 (h0 : c0 < 256) (h1 : c1 < 256) : y0 c0 c1 c2 c3 c4 c5 c6 c7 / 65536 = y0 c2 c3 c4 c5 c6 c7 0 0 := by unfold y0; rw [dv2 h0 h1]; omega
theorem y0_4 (h0 : c0 < 256) (h1 : c1 < 256) (h2 : c2 < 256) (h3 : c3 < 256) : y0 c0 c1 c2 c3 c4 c5 c6 c7 / 4294967296 = y0 c4 c5 c6 c7 0 0 0 0 := by unfold y0; rw [dv4 h0 h1 h2 h3]; omega
theorem y0_add {b0 b1 b2 b3 b4 b5 b6 b7 : Nat} : y0 c0 c1 c2 c3 c4 c5 c6 c7 + y0 b0 b1 b2 b3 b4 b5 b6 b7 = y0 (c0 + b0) (c1 + b1) (c2 + b2) (c3 + b3) (c4 + b4) (c5 + b5) (c6 + b6) (c7 + b7) := by unfold y0; omega
theorem y0_mod (h0 : c0 < 128) : y0 c0 c1 c2 c3 c4 c5 c6 c7 % 128 = c0 := md h0
end
theorem fold {z c0 c1 c2 c3 c4 c5 c6 c7 : Nat} (h0 : c0 ≤ 8) (h1 : c1 ≤ 8) (h2 : c2 ≤ 8) (h3 : c3 ≤ 8) (h4 : c4 ≤ 8) (h5 : c5 ≤ 8) (h6 : c6 ≤ 8) (h7 : c7 ≤ 8) (hz : z = y0 c0 c1 c2 c3 c4 c5 c6 c7) :
    z < 9223372036854775808 ∧ z + z / 256 < 9223372036854775808 ∧ (z + z / 256) + (z + z / 256) / 65536 < 9223372036854775808 ∧ (z + z / 256) + (z + z / 256) / 65536 + ((z + z / 256) + (z + z / 256) / 65536) / 4294967296 < 9223372036854775808 ∧
    ((z + z / 256) + (z + z / 256) / 65536 + ((z + z / 256) + (z + z / 256) / 65536) / 4294967296) % 128 = c0 + c1 + c2 + c3 + c4 + c5 + c6 + c7 := by
  have e1 : z + z / 256 = y0 (c0 + c1) (c1 + c2) (c2 + c3) (c3 + c4) (c4 + c5) (c5 + c6) (c6 + c7) (c7 + 0) := by rw [hz, y0_256 (by omega), y0_add]
  rw [e1, hz, y0_2 (by omega) (by omega), y0_add, y0_4 (by omega) (by omega) (by omega) (by omega), y0_add, y0_mod (by omega)]
  refine ⟨y0_lt (by omega) (by omega) (by omega) (by omega) (by omega) (by omega) (by omega) (by omega), y0_lt (by omega) (by omega) (by omega) (by omega) (by omega) (by omega) (by omega) (by omega), y0_lt (by omega) (by omega) (by omega) (by omega) (by omega) (by omega) (by omega) (by omega), y0_lt (by omega) (by omega) (by omega) (by omega) (by omega) (by omega) (by omega) (by omega), by omega⟩
end Oc

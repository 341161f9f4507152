/-
  bets: elimination, as the program does it: what it comes to. Plain Lean, no program.
  bets: determinants, by their first column. Plain Lean, no program.
  bets: elimination: what it keeps, how great its numbers are, what it tells. Plain Lean, no program.
  bets: corners, as the program finds them. Plain Lean, no program.
  bets: what a solution is; what it means that there is none. Plain Lean, no program.
  sure: Cramer's rule, and what a determinant of 0 means. Plain Lean, no program.
  sure: corners. Plain Lean, no program.
  sure: packings. Plain Lean, no program.
  sure: the determinant.
  sure: a copy that its maker may grow.
-/
import Derived.Test.YtaagkbbphgdcdaaDoorPk6
import Derived.Test.YtaagkbbphgdcdaaDoorPk4
import Derived.Test.YtaagkbbphgdcdaaDoorPk5
set_option linter.all false
namespace Bq

abbrev SysT := Nat → Nat → Rat
def swapT (a p : Nat) (T : SysT) : SysT := fun i => if i = a then T p else if i = p then T a else T i
def normT (a : Nat) (T : SysT) : SysT := fun i c => if i = a then T a c / T a a else T i c
def elimT (a : Nat) (T : SysT) : SysT := fun i c => if i = a then T a c else T i c - T i a * T a c
def findP (m a : Nat) (T : SysT) : Option Nat := (List.range m).find? fun p => decide (a ≤ p) && decide (T p a ≠ 0)
def elimStep (m a : Nat) (T : SysT) : Option SysT := (findP m a T).map fun p => elimT a (normT a (swapT a p T))
def Wa (m : Nat) (T : SysT) : Nat → Option SysT
  | 0 => some T
  | j + 1 => (Wa m T j).bind (elimStep m j)
def restT (m k : Nat) (T : SysT) : Bool := (List.range m).any fun i => decide (k ≤ i) && decide (T i k ≠ 0)
def solveT (m k : Nat) (T : SysT) : Option (List Rat) := (Wa m T k).bind fun S => if restT m k S then none else some ((List.range k).map fun i => S i k)

theorem find_spec {n : Nat} {F : Nat → Bool} {k : Nat} (hk : k < n) (hF : F k = true) (hlo : ∀ i, i < k → F i = false) : (List.range n).find? F = some k := by
  rw [List.find?_eq_some_iff_append]
  refine ⟨hF, List.range k, (List.range' (k + 1) (n - (k + 1))), ?_, fun a ha => by simp [hlo a (List.mem_range.1 ha)]⟩
  apply List.ext_getElem?
  intro i
  rw [List.getElem?_append, List.length_range]
  by_cases h : i < k
  · simp [h, show i < n by omega]
  · rw [if_neg h]
    rcases Nat.eq_or_lt_of_le (Nat.not_lt.1 h) with h1 | h1
    · subst h1; simp [hk]
    · rw [show i - k = (i - (k + 1)) + 1 by omega, List.getElem?_cons_succ]
      by_cases h2 : i < n
      · rw [List.getElem?_range h2, List.getElem?_range' (by omega)]; congr 1; omega
      · rw [List.getElem?_eq_none (by simp; omega), List.getElem?_eq_none (by simp; omega)]
theorem find_none {n : Nat} {F : Nat → Bool} (h : ∀ i, i < n → F i = false) : (List.range n).find? F = none := by
  rw [List.find?_eq_none]
  intro x hx
  simp [h x (List.mem_range.1 hx)]
theorem find_some {n : Nat} {F : Nat → Bool} {k : Nat} (h : (List.range n).find? F = some k) : k < n ∧ F k = true ∧ ∀ i, i < k → F i = false := by
  have h1 := List.find?_some h
  have h2 := List.mem_of_find?_eq_some h
  refine ⟨List.mem_range.1 h2, h1, fun i hi => ?_⟩
  cases hF : F i with
  | false => rfl
  | true =>
    exfalso
    have hin := List.mem_range.1 h2
    have key : ∀ i, i < k → F i = true → (∀ j, j < i → F j = false) → False := fun i hi hF hlo => by
      have := find_spec (show i < n by omega) hF hlo
      rw [h] at this; cases this; omega
    induction i using Nat.strongRecOn with
    | _ i ih =>
      exact key i hi hF fun j hj => by
        cases hb : F j with
        | false => rfl
        | true => exact (ih j hj (by omega) hb).elim
theorem findP_some {m a p : Nat} {T : SysT} (h : findP m a T = some p) : p < m ∧ a ≤ p ∧ T p a ≠ 0 ∧ ∀ i, a ≤ i → i < p → T i a = 0 := by
  obtain ⟨h1, h2, h3⟩ := find_some h
  simp only [Bool.and_eq_true, decide_eq_true_eq] at h2
  refine ⟨h1, h2.1, h2.2, fun i ha hi => ?_⟩
  have := h3 i hi
  simp only [Bool.and_eq_false_iff, decide_eq_false_iff_not] at this
  rcases this with h4 | h4
  · omega
  · exact Decidable.not_not.1 h4
end Bq

namespace Bq

def skp (i r : Nat) : Nat := if r < i then r else r + 1
def sgn : Nat → Rat
  | 0 => 1
  | n + 1 => - sgn n
def det : Nat → (Nat → Nat → Rat) → Rat
  | 0, _ => 1
  | n + 1, M => sumTo (fun i => sgn i * M 0 i * det n (fun c r => M (c + 1) (skp i r))) (n + 1)

theorem skp_lt {i r n : Nat} (h : r < n) : skp i r < n + 1 := by rw [skp]; split <;> omega
theorem Xn : ∀ (n : Nat) {M N : Nat → Nat → Rat}, (∀ c r, c < n → r < n → M c r = N c r) → det n M = det n N
  | 0, _, _, _ => rfl
  | n + 1, M, N, h => by
    rw [det, det]
    refine sumTo_congr fun i hi => ?_
    rw [h 0 i (by omega) hi, Xn n fun c r hc hr => h (c + 1) (skp i r) (by omega) (skp_lt hr)]
theorem det_lin {n : Nat} {M : Nat → Nat → Rat} (a b : Nat → Rat) (s : Rat) (h : ∀ r, r < n + 1 → M 0 r = a r + s * b r) :
    det (n + 1) M = det (n + 1) (fun c => if c = 0 then a else M c) + s * det (n + 1) (fun c => if c = 0 then b else M c) := by
  simp only [det, if_true]
  rw [← sumTo_mul, ← Xz]
  refine sumTo_congr fun i hi => ?_
  simp only [show ∀ c, (c + 1 = 0) = False from fun c => by simp, if_false]
  rw [h i hi]; grind
theorem sumTo_zero {g : Nat → Rat} {n : Nat} (h : ∀ i, i < n → g i = 0) : sumTo g n = 0 := by
  induction n with
  | zero => rfl
  | succ n ih => rw [sumTo, ih fun i hi => h i (by omega), h n (by omega)]; exact Rat.zero_add _
theorem det_zero {n : Nat} {M : Nat → Nat → Rat} (h : ∀ r, r < n + 1 → M 0 r = 0) : det (n + 1) M = 0 := by
  rw [det]
  refine sumTo_zero fun i hi => ?_
  rw [h i hi]; grind
theorem sgn_add (a b : Nat) : sgn (a + b) = sgn a * sgn b := by
  induction b with
  | zero => rw [Nat.add_zero, sgn, Rat.mul_one]
  | succ b ih => rw [← Nat.add_assoc, sgn, sgn, ih]; grind
theorem sgn_sq (a : Nat) : sgn a * sgn a = 1 := by
  induction a with
  | zero => rw [sgn, Rat.mul_one]
  | succ a ih => rw [sgn]; grind
theorem sum_pairs (t : Nat → Nat → Rat) : ∀ N, sumTo (fun i => sumTo (fun j => t i j) N) (N + 1) = sumTo (fun i => sumTo (fun j => t i j + t j (i - 1)) i) (N + 1)
  | 0 => rfl
  | N + 1 => by
    have ih := sum_pairs t N
    rw [sumTo]
    have e : sumTo (fun i => sumTo (fun j => t i j) (N + 1)) (N + 1) = sumTo (fun i => sumTo (fun j => t i j) N + t i N) (N + 1) := sumTo_congr fun i hi => rfl
    rw [e, Xz, ih]
    conv => rhs; rw [sumTo]
    rw [Xz (fun j => t (N + 1) j) (fun j => t j (N + 1 - 1)) (N + 1), show N + 1 - 1 = N from rfl]
    grind
theorem skp_skp {i j r : Nat} (h : j < i) : skp i (skp j r) = skp j (skp (i - 1) r) := by
  simp only [skp]
  by_cases h1 : r < j
  · simp [h1, show r < i by omega, show r < i - 1 by omega]
  · by_cases h2 : r < i - 1
    · simp [h1, h2, show r + 1 < i by omega]
    · simp [h1, h2, show ¬ r + 1 < i by omega, show ¬ r + 1 < j by omega]
def swp (a : Nat) (c : Nat) : Nat := if c = a then a + 1 else if c = a + 1 then a else c
theorem det_two (n : Nat) (M : Nat → Nat → Rat) : det (n + 2) M = sumTo (fun i => sumTo (fun j => sgn i * sgn j * (M 0 i * M 1 j - M 0 j * M 1 i) * det n (fun c r => M (c + 2) (skp i (skp j r)))) i) (n + 2) := by
  have e1 : det (n + 2) M = sumTo (fun i => sumTo (fun j => sgn i * M 0 i * (sgn j * M 1 (skp i j) * det n (fun c r => M (c + 2) (skp i (skp j r))))) (n + 1)) (n + 2) := by
    rw [det]
    refine sumTo_congr fun i hi => ?_
    rw [det, sumTo_mul]
  rw [e1, sum_pairs]
  refine sumTo_congr fun i hi => sumTo_congr fun j hj => ?_
  have h1 : skp i j = j := by rw [skp, if_pos hj]
  have h2 : skp j (i - 1) = i := by rw [skp, if_neg (by omega)]; omega
  have h3 : det n (fun c r => M (c + 2) (skp j (skp (i - 1) r))) = det n (fun c r => M (c + 2) (skp i (skp j r))) := Xn n fun c r hc hr => by rw [skp_skp hj]
  have h4 : sgn i = - sgn (i - 1) := by
    obtain ⟨i, rfl⟩ : ∃ k, i = k + 1 := ⟨i - 1, by omega⟩
    rfl
  rw [h1, h2, h3, h4]; grind
theorem det_swp : ∀ (a n : Nat) (M : Nat → Nat → Rat), a + 1 < n → det n (fun c => M (swp a c)) = - det n M
  | 0, n, M, h => by
    obtain ⟨n, rfl⟩ : ∃ k, n = k + 2 := ⟨n - 2, by omega⟩
    rw [det_two, det_two]
    have e : - sumTo (fun i => sumTo (fun j => sgn i * sgn j * (M 0 i * M 1 j - M 0 j * M 1 i) * det n (fun c r => M (c + 2) (skp i (skp j r)))) i) (n + 2) = sumTo (fun i => sumTo (fun j => sgn i * sgn j * (M 1 i * M 0 j - M 1 j * M 0 i) * det n (fun c r => M (c + 2) (skp i (skp j r)))) i) (n + 2) := by
      have := sumTo_mul (-1) (fun i => sumTo (fun j => sgn i * sgn j * (M 0 i * M 1 j - M 0 j * M 1 i) * det n (fun c r => M (c + 2) (skp i (skp j r)))) i) (n + 2)
      rw [show ∀ x : Rat, -x = -1 * x from fun x => by grind, ← this]
      refine sumTo_congr fun i hi => ?_
      rw [← sumTo_mul]
      refine sumTo_congr fun j hj => ?_
      grind
    rw [e]
    refine sumTo_congr fun i hi => sumTo_congr fun j hj => ?_
    have e0 : swp 0 0 = 1 := rfl
    have e1 : swp 0 1 = 0 := rfl
    have e2 : ∀ c, swp 0 (c + 2) = c + 2 := fun c => by simp [swp]
    simp only [e0, e1, e2]
  | a + 1, n, M, h => by
    obtain ⟨n, rfl⟩ : ∃ k, n = k + 1 := ⟨n - 1, by omega⟩
    rw [det, det]
    have := sumTo_mul (-1) (fun i => sgn i * M 0 i * det n (fun c r => M (c + 1) (skp i r))) (n + 1)
    rw [show ∀ x : Rat, -x = -1 * x from fun x => by grind, ← this]
    refine sumTo_congr fun i hi => ?_
    have e0 : swp (a + 1) 0 = 0 := by simp [swp]
    have e1 : ∀ c, swp (a + 1) (c + 1) = swp a c + 1 := fun c => by
      simp only [swp]
      by_cases h1 : c = a
      · simp [h1]
      · by_cases h2 : c = a + 1
        · simp [h2]
        · simp [h1, h2]
    have ih := det_swp a n (fun c r => M (c + 1) (skp i r)) (by omega)
    simp only [e0, e1]
    rw [ih]; grind
theorem det_same : ∀ (n t : Nat) (M : Nat → Nat → Rat), t + 1 < n → (∀ r, r < n → M 0 r = M (t + 1) r) → det n M = 0
  | 0, t, M, h, _ => by omega
  | n + 1, 0, M, h, he => by
    have h1 := det_swp 0 (n + 1) M h
    have h2 : det (n + 1) (fun c => M (swp 0 c)) = det (n + 1) M := Xn _ fun c r hc hr => by
      simp only [swp]
      by_cases h3 : c = 0
      · subst h3; simp only [if_true]; exact (he r hr).symm
      · by_cases h4 : c = 0 + 1
        · subst h4; simp only [show ¬ (0 + 1 = 0) by omega, if_false, if_true]; exact he r hr
        · simp only [h3, h4, if_false]
    rw [h2] at h1
    grind
  | n + 1, t + 1, M, h, he => by
    have h1 := det_swp 0 (n + 1) M (by omega)
    have h2 : det (n + 1) (fun c => M (swp 0 c)) = 0 := by
      rw [det]
      refine sumTo_zero fun i hi => ?_
      have h0 : det n (fun c r => M (swp 0 (c + 1)) (skp i r)) = 0 := by
        refine det_same n t _ (by omega) fun r hr => ?_
        have e1 : swp 0 (0 + 1) = 0 := rfl
        have e2 : swp 0 (t + 1 + 1) = t + 1 + 1 := by simp [swp]
        simp only [e1, e2]
        exact he _ (skp_lt hr)
      rw [h0]; grind
    rw [h2] at h1
    grind
theorem det_last {n : Nat} {M : Nat → Nat → Rat} (h : ∀ r, r < n → M 0 r = 0) : det (n + 1) M = sgn n * M 0 n * det n (fun c r => M (c + 1) r) := by
  rw [det, sumTo, sumTo_zero fun i hi => by rw [h i hi]; grind, Rat.zero_add]
  rw [Xn n fun c r hc hr => by rw [skp, if_pos hr]]
def Wd (t c : Nat) : Nat := if c = 0 then t else if c ≤ t then c - 1 else c
theorem det_bring : ∀ (t n : Nat) (M : Nat → Nat → Rat), t < n → det n (fun c => M (Wd t c)) = sgn t * det n M
  | 0, n, M, h => by
    rw [sgn, Rat.one_mul]
    refine Xn n fun c r hc hr => ?_
    have : Wd 0 c = c := by simp only [Wd]; split <;> (try split) <;> omega
    rw [this]
  | t + 1, n, M, h => by
    have h1 := det_bring t n (fun c => M (swp t c)) (by omega)
    have h2 := det_swp t n M h
    rw [h2] at h1
    have h3 : det n (fun c => M (Wd (t + 1) c)) = det n (fun c => M (swp t (Wd t c))) := Xn n fun c r hc hr => by
      have : Wd (t + 1) c = swp t (Wd t c) := by
        simp only [Wd, swp]
        by_cases h0 : c = 0
        · simp [h0]
        · by_cases h4 : c ≤ t
          · simp [h0, h4, show c ≤ t + 1 by omega, show c - 1 ≠ t by omega, show c - 1 ≠ t + 1 by omega]
          · by_cases h5 : c = t + 1
            · simp [h5]
            · simp [h0, h4, show ¬ c ≤ t + 1 by omega, show c ≠ t by omega, h5]
      rw [this]
    rw [h3, h1, sgn]; grind

/-! Sizes. -/
def Zq (b : Nat) (q : Rat) : Prop := ∃ z : Int, q = (z : Rat) ∧ z.natAbs ≤ b
theorem Zq.add {a b : Nat} {p q : Rat} (h1 : Zq a p) (h2 : Zq b q) : Zq (a + b) (p + q) := by
  obtain ⟨x, rfl, hx⟩ := h1
  obtain ⟨y, rfl, hy⟩ := h2
  exact ⟨x + y, (Rat.intCast_add x y).symm, by omega⟩
theorem Zq.mul {a b : Nat} {p q : Rat} (h1 : Zq a p) (h2 : Zq b q) : Zq (a * b) (p * q) := by
  obtain ⟨x, rfl, hx⟩ := h1
  obtain ⟨y, rfl, hy⟩ := h2
  exact ⟨x * y, (Rat.intCast_mul x y).symm, by rw [Int.natAbs_mul]; exact Nat.mul_le_mul hx hy⟩
theorem Zq.mono {a b : Nat} {p : Rat} (h : Zq a p) (hab : a ≤ b) : Zq b p := by
  obtain ⟨x, e, hx⟩ := h
  exact ⟨x, e, by omega⟩
theorem Zq.zero (b : Nat) : Zq b 0 := ⟨0, rfl, by simp⟩
theorem Zq.sgn (i : Nat) : Zq 1 (sgn i) := by
  induction i with
  | zero => exact ⟨1, rfl, by decide⟩
  | succ i ih =>
    obtain ⟨x, e, hx⟩ := ih
    refine ⟨-x, ?_, by omega⟩
    rw [Bq.sgn, e, Rat.intCast_neg]
theorem Zq.sum {b : Nat} {g : Nat → Rat} {n : Nat} (h : ∀ i, i < n → Zq b (g i)) : Zq (n * b) (sumTo g n) := by
  induction n with
  | zero => exact Zq.zero _
  | succ n ih =>
    rw [Nat.succ_mul]
    exact (ih fun i hi => h i (by omega)).add (h n (by omega))
theorem det_Zq {b0 F : Nat} {n : Nat} {M : Nat → Nat → Rat} (h0 : ∀ r, r < n + 1 → Zq b0 (M 0 r)) (hF : ∀ i, i < n + 1 → Zq F (det n (fun c r => M (c + 1) (skp i r)))) : Zq ((n + 1) * (b0 * F)) (det (n + 1) M) := by
  rw [det]
  refine Zq.sum fun i hi => ?_
  have := ((Zq.sgn i).mul (h0 i hi)).mul (hF i hi)
  rwa [Nat.one_mul] at this
end Bq

namespace Bq

/-! Sums. -/
theorem sumTo_pick {n t : Nat} (g : Nat → Rat) (h : t < n) : sumTo (fun c => if c = t then g c else 0) n = g t := by
  induction n with
  | zero => omega
  | succ n ih =>
    rw [sumTo]
    by_cases h1 : t = n
    · subst h1
      rw [sumTo_zero fun i hi => by rw [if_neg (by omega)], if_pos rfl, Rat.zero_add]
    · rw [ih (by omega), if_neg (by omega), Rat.add_zero]
theorem sumTo_swap (f : Nat → Nat → Rat) (m : Nat) : ∀ n, sumTo (fun i => sumTo (fun j => f i j) m) n = sumTo (fun j => sumTo (fun i => f i j) n) m
  | 0 => (sumTo_zero fun i hi => rfl).symm
  | n + 1 => by
    rw [sumTo, sumTo_swap f m n, ← Xz]; rfl

theorem det_comb {n : Nat} (a : Nat → Nat → Rat) (s : Nat → Rat) (e : Nat → Rat) : ∀ (J : Nat) {M : Nat → Nat → Rat}, (∀ r, r < n + 1 → M 0 r = sumTo (fun t => s t * a t r) J + e r) →
    (∀ t, t < J → s t = 0 ∨ det (n + 1) (fun c => if c = 0 then a t else M c) = 0) → det (n + 1) M = det (n + 1) (fun c => if c = 0 then e else M c)
  | 0, M, h, _ => Xn _ fun c r hc hr => by
    by_cases h0 : c = 0
    · subst h0; rw [if_pos rfl, h r hr, sumTo, Rat.zero_add]
    · rw [if_neg h0]
  | J + 1, M, h, hz => by
    have h1 := det_lin (M := M) (fun r => sumTo (fun t => s t * a t r) J + e r) (a J) (s J) fun r hr => by rw [h r hr, sumTo]; grind
    have h2 : s J * det (n + 1) (fun c => if c = 0 then a J else M c) = 0 := by
      rcases hz J (by omega) with h3 | h3 <;> rw [h3] <;> grind
    rw [h2, Rat.add_zero] at h1
    rw [h1]
    have h4 : ∀ v : Nat → Rat, (fun c => if c = 0 then v else (fun c => if c = 0 then (fun r => sumTo (fun t => s t * a t r) J + e r) else M c) c) = fun c => if c = 0 then v else M c := fun v => by
      funext c
      by_cases h0 : c = 0 <;> simp [h0]
    have ih := det_comb a s e J (M := fun c => if c = 0 then (fun r => sumTo (fun t => s t * a t r) J + e r) else M c) (fun r hr => by simp) fun t ht => by
      rcases hz t (by omega) with h3 | h3
      · exact .inl h3
      · refine .inr ?_
        rw [h4]; exact h3
    rw [ih, h4]
theorem det_scale {n : Nat} (M : Nat → Nat → Rat) (a : Nat → Rat) (s : Rat) : det (n + 1) (fun c => if c = 0 then (fun r => s * a r) else M c) = s * det (n + 1) (fun c => if c = 0 then a else M c) := by
  have h := det_lin (n := n) (M := fun c => if c = 0 then (fun r => s * a r) else M c) (fun _ => 0) a s fun r hr => by simp [Rat.zero_add]
  have e1 : ∀ v : Nat → Rat, (fun c => if c = 0 then v else (fun c => if c = 0 then (fun r => s * a r) else M c) c) = fun c => if c = 0 then v else M c := fun v => by
    funext c
    by_cases h0 : c = 0 <;> simp [h0]
  rw [e1, e1] at h
  rw [h, det_zero (fun r hr => rfl), Rat.zero_add]

structure GI (m : Nat) (T0 : SysT) (j : Nat) (S : SysT) (π : Nat → Nat) : Prop where
  lt : ∀ i, i < m → π i < m
  jm : j ≤ m
  row : ∀ i c, i < m → T0 (π i) c = sumTo (fun t => T0 (π i) t * S t c) j + (if j ≤ i then S i c else 0)
  unit : ∀ i t, i < m → t < j → S i t = if i = t then 1 else 0
  dt : det j (fun c r => T0 (π r) c) ≠ 0
theorem GI.init (m : Nat) (T0 : SysT) : GI m T0 0 T0 id where
  lt i hi := hi
  jm := Nat.zero_le _
  row i c hi := by rw [sumTo, if_pos (Nat.zero_le _), Rat.zero_add]; rfl
  unit i t hi ht := by omega
  dt := by rw [det]; decide
section
variable {m j : Nat} {T0 S : SysT} {π : Nat → Nat} (g : GI m T0 j S π)
include g
theorem GI.minor {i c : Nat} (hi : i < m) (hj : j ≤ i) : det (j + 1) (fun c' r => T0 (if r < j then π r else π i) (if c' = 0 then c else c' - 1)) = sgn j * S i c * det j (fun c r => T0 (π r) c) := by
  have h := det_comb (n := j) (fun t r => T0 (if r < j then π r else π i) t) (fun t => S t c) (fun r => if r < j then 0 else S i c) j (M := fun c' r => T0 (if r < j then π r else π i) (if c' = 0 then c else c' - 1)) (fun r hr => by
    simp only [if_true]
    by_cases h1 : r < j
    · simp only [h1, if_true]
      rw [g.row r c (by have := g.jm; omega), if_neg (by omega)]
      congr 1
      exact sumTo_congr fun t ht => Rat.mul_comm _ _
    · simp only [h1, if_false]
      rw [g.row i c hi, if_pos hj]
      congr 1
      exact sumTo_congr fun t ht => Rat.mul_comm _ _) fun t ht => .inr (by
    refine det_same _ t _ (by omega) fun r hr => ?_
    simp)
  rw [h, det_last (fun r hr => by simp only [if_true, hr])]
  simp only [if_true, Nat.lt_irrefl, if_false]
  congr 1
  refine Xn _ fun c' r hc hr => ?_
  simp [hr]
theorem GI.cramer {t c : Nat} (ht : t < j) : det j (fun c' r => T0 (π r) (if c' = 0 then c else Wd t c')) = S t c * (sgn t * det j (fun c r => T0 (π r) c)) := by
  have hb := det_bring t j (fun c r => T0 (π r) c) ht
  obtain ⟨n, rfl⟩ : ∃ n, j = n + 1 := ⟨j - 1, by omega⟩
  have hbr : ∀ s, s < n + 1 → s ≠ t → ∃ c', c' + 1 < n + 1 ∧ Wd t (c' + 1) = s := fun s hs hst => by
    by_cases h1 : s < t
    · exact ⟨s, by omega, by simp [Wd, show s + 1 ≤ t by omega]⟩
    · exact ⟨s - 1, by omega, by simp only [Wd]; rw [if_neg (by omega), if_neg (by omega)]; omega⟩
  have h := det_comb (n := n) (fun s r => T0 (π r) s) (fun s => if s = t then 0 else S s c) (fun r => S t c * T0 (π r) t) (n + 1) (M := fun c' r => T0 (π r) (if c' = 0 then c else Wd t c')) (fun r hr => by
    simp only [if_true]
    rw [g.row r c (by have := g.jm; omega), if_neg (by omega), Rat.add_zero]
    have e : sumTo (fun s => T0 (π r) s * S s c) (n + 1) = sumTo (fun s => (if s = t then 0 else S s c) * T0 (π r) s) (n + 1) + sumTo (fun s => if s = t then S s c * T0 (π r) s else 0) (n + 1) := by
      rw [← Xz]
      refine sumTo_congr fun s hs => ?_
      by_cases h1 : s = t
      · simp only [h1, if_true]; grind
      · simp only [h1, if_false]; grind
    rw [e, sumTo_pick _ ht]) fun s hs => by
    by_cases h1 : s = t
    · exact .inl (by simp [h1])
    · refine .inr ?_
      obtain ⟨c', h2, h3⟩ := hbr s hs h1
      refine det_same _ c' _ h2 fun r hr => ?_
      simp [h3]
  rw [h, det_scale]
  congr 1
end
theorem swapT_at (a p : Nat) (T : SysT) : swapT a p T a = T p := by simp [swapT]
theorem GI.step {m j p : Nat} {T0 S : SysT} {π : Nat → Nat} (g : GI m T0 j S π) (hp : p < m) (hjp : j ≤ p) (h0 : S p j ≠ 0) :
    ∃ π', GI m T0 (j + 1) (elimT j (normT j (swapT j p S))) π' := by
  have hj : j < m := by omega
  -- the rows changed
  obtain ⟨π', hπ⟩ : ∃ π' : Nat → Nat, π' = fun i => if i = j then π p else if i = p then π j else π i := ⟨_, rfl⟩
  obtain ⟨S', hS⟩ : ∃ S', S' = swapT j p S := ⟨_, rfl⟩
  have hS1 : S' j = S p := by rw [hS, swapT_at]
  have hS2 : ∀ t, t < j → S' t = S t := fun t ht => by rw [hS, swapT]; simp only [show t ≠ j by omega, show t ≠ p by omega, if_false]
  have hπ2 : ∀ t, t < j → π' t = π t := fun t ht => by rw [hπ]; simp only [show t ≠ j by omega, show t ≠ p by omega, if_false]
  have hsel : ∀ i, i < m → ∃ i', i' < m ∧ π' i = π i' ∧ S' i = S i' ∧ (j ≤ i ↔ j ≤ i') ∧ (i < j → i' = i) := fun i hi => by
    by_cases h1 : i = j
    · exact ⟨p, hp, by rw [hπ]; simp [h1], by rw [h1, hS1], by omega, by omega⟩
    · by_cases h2 : i = p
      · refine ⟨j, hj, by rw [hπ]; simp only [h1, if_false, h2, if_true]; rw [if_neg (by omega)], ?_, by omega, by omega⟩
        rw [hS, swapT]; simp only [h1, if_false]; rw [if_pos h2]
      · refine ⟨i, hi, by rw [hπ]; simp [h1, h2], ?_, Iff.rfl, fun _ => rfl⟩
        rw [hS, swapT]; simp [h1, h2]
  have g' : GI m T0 j S' π' := by
    refine ⟨fun i hi => ?_, g.jm, fun i c hi => ?_, fun i t hi ht => ?_, ?_⟩
    · obtain ⟨i', h1, h2, -⟩ := hsel i hi
      rw [h2]; exact g.lt i' h1
    · obtain ⟨i', h1, h2, h3, h4, -⟩ := hsel i hi
      rw [h2, h3, g.row i' c h1]
      congr 1
      · exact sumTo_congr fun t ht => by rw [hS2 t ht]
      · by_cases h5 : j ≤ i
        · rw [if_pos h5, if_pos (h4.1 h5)]
        · rw [if_neg h5, if_neg fun h => h5 (h4.2 h)]
    · obtain ⟨i', h1, h2, h3, h4, h5⟩ := hsel i hi
      rw [h3, g.unit i' t h1 ht]
      by_cases h6 : i < j
      · rw [h5 h6]
      · have := h4.1 (by omega)
        rw [if_neg (by omega), if_neg (by omega)]
    · have : det j (fun c r => T0 (π' r) c) = det j (fun c r => T0 (π r) c) := Xn _ fun c r hc hr => by rw [hπ2 r hr]
      rw [this]; exact g.dt
  have hv : S' j j ≠ 0 := by rw [hS1]; exact h0
  rw [← hS]
  clear hsel hπ2 hS2 hS1 hS hπ g h0
  refine ⟨π', g'.lt, by omega, fun i c hi => ?_, fun i t hi ht => ?_, ?_⟩
  · -- rows
    have r1 := g'.row i c hi
    have r2 := g'.row i j hi
    obtain ⟨v, hvv⟩ : ∃ v, S' j j = v := ⟨_, rfl⟩
    rw [hvv] at hv
    obtain ⟨q, hq⟩ : ∃ q, S' j c / v = q := ⟨_, rfl⟩
    have hqv : S' j c = q * v := by rw [← hq]; exact (Rat.div_mul_cancel hv).symm
    have e1 : ∀ i', elimT j (normT j S') i' c = if i' = j then q else S' i' c - S' i' j * q := fun i' => by
      simp only [elimT, normT, if_true, hvv, hq]
      by_cases h1 : i' = j
      · simp only [h1, if_true]
      · simp only [h1, if_false]
    rw [sumTo]
    have e2 : sumTo (fun t => T0 (π' i) t * elimT j (normT j S') t c) j = sumTo (fun t => T0 (π' i) t * S' t c) j + (-q) * sumTo (fun t => T0 (π' i) t * S' t j) j := by
      rw [← sumTo_mul, ← Xz]
      refine sumTo_congr fun t ht => ?_
      rw [e1, if_neg (by omega)]; grind
    rw [e2, e1 j, if_pos rfl, e1 i]
    generalize sumTo (fun t => T0 (π' i) t * S' t c) j = A at *
    generalize sumTo (fun t => T0 (π' i) t * S' t j) j = B at *
    rcases Nat.lt_trichotomy i j with h1 | h1 | h1
    · rw [if_neg (by omega)] at r1 r2
      rw [if_neg (by omega)]
      rw [r1, r2]; grind
    · subst h1
      rw [if_pos (Nat.le_refl _)] at r1 r2
      rw [if_neg (by omega)]
      rw [hvv] at r2
      rw [r1, r2, hqv]; grind
    · rw [if_pos (by omega)] at r1 r2
      rw [if_pos (by omega), if_neg (by omega)]
      rw [r1, r2]; grind
  · -- unit
    simp only [elimT, normT, if_true]
    by_cases h1 : t = j
    · subst h1
      by_cases h2 : i = t
      · subst h2
        rw [if_pos rfl, if_pos rfl, Rat.div_def, Rat.mul_inv_cancel _ hv]
      · rw [if_neg h2, if_neg h2, if_neg h2, Rat.div_def, Rat.mul_inv_cancel _ hv]; grind
    · have u1 := g'.unit j t hj (by omega)
      rw [if_neg (by omega)] at u1
      have u2 := g'.unit i t hi (by omega)
      by_cases h2 : i = j
      · subst h2
        rw [if_pos rfl, u1, if_neg (by omega), Rat.div_def, Rat.zero_mul]
      · rw [if_neg h2, if_neg h2, if_neg h2, u1, u2, Rat.div_def, Rat.zero_mul, Rat.mul_zero]; grind
  · -- the determinant
    have hm := g'.minor (i := j) (c := j) hj (Nat.le_refl _)
    have hb := det_bring j (j + 1) (fun c r => T0 (π' r) c) (by omega)
    have e : det (j + 1) (fun c' r => T0 (if r < j then π' r else π' j) (if c' = 0 then j else c' - 1)) = det (j + 1) (fun c r => T0 (π' r) (Wd j c)) := Xn _ fun c r hc hr => by
      have h1 : (if r < j then π' r else π' j) = π' r := by
        by_cases h2 : r < j
        · rw [if_pos h2]
        · rw [if_neg h2, show r = j by omega]
      have h3 : (if c = 0 then j else c - 1) = Wd j c := by
        simp only [Wd]
        by_cases h0 : c = 0
        · rw [if_pos h0, if_pos h0]
        · rw [if_neg h0, if_neg h0, if_pos (by omega)]
      rw [h1, h3]
    rw [e, hb] at hm
    intro hc
    rw [hc, Rat.mul_zero] at hm
    rcases Rat.mul_eq_zero.1 hm.symm with h1 | h1
    · rcases Rat.mul_eq_zero.1 h1 with h2 | h2
      · have := sgn_sq j; rw [h2] at this; exact absurd this (by decide +kernel)
      · exact hv h2
    · exact g'.dt h1
theorem elim_gi {m : Nat} {T0 : SysT} : ∀ {j : Nat} {S : SysT}, Wa m T0 j = some S → ∃ π, GI m T0 j S π
  | 0, S, h => by cases h; exact ⟨id, GI.init m _⟩
  | j + 1, S, h => by
    rw [Wa] at h
    cases hr : Wa m T0 j with
    | none => rw [hr] at h; cases h
    | some S1 =>
      rw [hr] at h
      simp only [Option.bind_some, elimStep] at h
      obtain ⟨π, g⟩ := elim_gi hr
      cases hf : findP m j S1 with
      | none => rw [hf] at h; cases h
      | some p =>
        rw [hf] at h
        cases h
        obtain ⟨h1, h2, h3, _⟩ := findP_some hf
        exact g.step h1 h2 h3

/-! How great. -/
theorem Zq.rp {b : Nat} {D z : Int} {q : Rat} {s : Rat} (hD : D ≠ 0) {N : Nat} (hN : 0 < N) (hs : Zq 1 s) (hq : Zq b (q * D * N * s)) (hss : s * s = 1) : ∃ x : Int, Rp (D.natAbs * N) x q ∧ x.natAbs ≤ b := by
  obtain ⟨y, hy, hyb⟩ := hq
  obtain ⟨u, hu, hub⟩ := hs
  have hD0 : 0 < D.natAbs := by omega
  have h1 : q * (D : Rat) * (N : Rat) = (y : Rat) * s := by
    rw [← hy]
    generalize q * (D : Rat) * (N : Rat) = A
    have : A * s * s = A * (s * s) := by grind
    rw [this, hss, Rat.mul_one]
  rcases Int.lt_or_le D 0 with h | h
  · refine ⟨-(y * u), ⟨Nat.mul_pos hD0 hN, ?_⟩, ?_⟩
    · have e : ((D.natAbs : Nat) : Rat) = -(D : Rat) := by
        rw [← Rat.intCast_natCast, ← Rat.intCast_neg]; congr 1; omega
      rw [Rat.natCast_mul, e, Rat.intCast_neg, Rat.intCast_mul, ← hu, ← h1]; grind
    · rw [Int.natAbs_neg, Int.natAbs_mul]
      exact Nat.le_trans (Nat.mul_le_mul hyb hub) (by omega)
  · refine ⟨y * u, ⟨Nat.mul_pos hD0 hN, ?_⟩, ?_⟩
    · have e : ((D.natAbs : Nat) : Rat) = (D : Rat) := by
        rw [← Rat.intCast_natCast]; congr 1; omega
      rw [Rat.natCast_mul, e, Rat.intCast_mul, ← hu, ← h1]; grind
    · rw [Int.natAbs_mul]
      exact Nat.le_trans (Nat.mul_le_mul hyb hub) (by omega)
theorem GI.parts {P : Rat → Prop} {F : Nat → Nat} (hF : ∀ n M, (∀ c r, c < n → r < n → P (M c r)) → Zq (F n) (det n M)) {m k j N B X : Nat} {T0 S : SysT} {π : Nat → Nat} (g : GI m T0 j S π) (hjk : j ≤ k) (hN : 0 < N)
    (hP : ∀ i c, i < m → c < k → P (T0 i c)) (hR : ∀ i, i < m → Zq B (T0 i k * N)) (hX1 : ∀ n, n ≤ k → F n * N ≤ X) (hX2 : ∀ n, n ≤ k → (n + 1) * (B * F n) ≤ X) :
    ∃ D, 0 < D ∧ D ≤ F j * N ∧ ∀ i c, i < m → c ≤ k → ∃ x : Int, Rp D x (S i c) ∧ x.natAbs ≤ X := by
  have hj := g.jm
  obtain ⟨d, hd, hdb⟩ := hF j (fun c r => T0 (π r) c) fun c r hc hr => hP _ _ (g.lt r (by omega)) (by omega)
  have hd0 : d ≠ 0 := fun h => g.dt (by rw [hd, h]; rfl)
  refine ⟨d.natAbs * N, Nat.mul_pos (by omega) hN, Nat.mul_le_mul_right _ hdb, fun i c hi hc => ?_⟩
  by_cases hcj : c < j
  · -- a column that is done
    rw [g.unit i c hi hcj]
    have hX := hX1 j hjk
    have hdX : d.natAbs * N ≤ X := Nat.le_trans (Nat.mul_le_mul_right _ hdb) hX
    by_cases h1 : i = c
    · refine ⟨((d.natAbs * N : Nat) : Int), ⟨Nat.mul_pos (by omega) hN, ?_⟩, by rw [Int.natAbs_natCast]; exact hdX⟩
      rw [if_pos h1, Rat.one_mul, Rat.intCast_natCast]
    · refine ⟨0, ⟨Nat.mul_pos (by omega) hN, ?_⟩, by simp⟩
      rw [if_neg h1, Rat.zero_mul]; rfl
  by_cases hij : i < j
  · -- a pivot's row
    have hcr := g.cramer (c := c) hij
    rw [hd] at hcr
    obtain ⟨n, rfl⟩ : ∃ n, j = n + 1 := ⟨j - 1, by omega⟩
    have hbl : ∀ c', c' + 1 < n + 1 → Wd i (c' + 1) < n + 1 := fun c' hc' => by
      simp only [Wd]; split
      · omega
      · split <;> omega
    have key : Zq X (S i c * (d : Rat) * (N : Rat) * sgn i) := by
      have e : S i c * (d : Rat) * (N : Rat) * sgn i = (N : Rat) * det (n + 1) (fun c' r => T0 (π r) (if c' = 0 then c else Wd i c')) := by rw [hcr]; grind
      rw [e]
      by_cases hck : c = k
      · subst hck
        have e2 : (N : Rat) * det (n + 1) (fun c' r => T0 (π r) (if c' = 0 then c else Wd i c')) = det (n + 1) (fun c' => if c' = 0 then (fun r => (N : Rat) * T0 (π r) c) else fun r => T0 (π r) (Wd i c')) := by
          rw [det_scale (fun c' r => T0 (π r) (Wd i c')) (fun r => T0 (π r) c) (N : Rat)]
          congr 1
        rw [e2]
        refine (det_Zq (b0 := B) (F := F n) (fun r hr => ?_) fun i' hi' => hF n _ fun c' r hc' hr => ?_).mono (hX2 n (by omega))
        · simp only [if_true]; rw [Rat.mul_comm]; exact hR _ (g.lt r (by omega))
        · simp only [show ¬ (c' + 1 = 0) by omega, if_false]
          exact hP _ _ (g.lt _ (by have := skp_lt (i := i') hr; omega)) (by have := hbl c' (by omega); omega)
      · refine Zq.mono (Zq.mul ⟨(N : Int), (Rat.intCast_natCast N).symm, Nat.le_refl _⟩ (hF (n + 1) _ fun c' r hc' hr => ?_)) (by rw [Int.natAbs_natCast, Nat.mul_comm]; exact hX1 (n + 1) hjk)
        refine hP _ _ (g.lt r (by omega)) ?_
        by_cases h0 : c' = 0
        · rw [if_pos h0]; omega
        · rw [if_neg h0]
          obtain ⟨c', rfl⟩ : ∃ t, c' = t + 1 := ⟨c' - 1, by omega⟩
          have := hbl c' hc'; omega
    exact Zq.rp (z := 0) hd0 hN (Zq.sgn i) key (sgn_sq i)
  · -- a row below
    have hmn := g.minor (c := c) hi (by omega)
    rw [hd] at hmn
    have key : Zq X (S i c * (d : Rat) * (N : Rat) * sgn j) := by
      have e : S i c * (d : Rat) * (N : Rat) * sgn j = (N : Rat) * det (j + 1) (fun c' r => T0 (if r < j then π r else π i) (if c' = 0 then c else c' - 1)) := by rw [hmn]; grind
      rw [e]
      have hρ : ∀ r, (if r < j then π r else π i) < m := fun r => by
        split
        · exact g.lt r (by omega)
        · exact g.lt i hi
      by_cases hck : c = k
      · subst hck
        have e2 : (N : Rat) * det (j + 1) (fun c' r => T0 (if r < j then π r else π i) (if c' = 0 then c else c' - 1)) = det (j + 1) (fun c' => if c' = 0 then (fun r => (N : Rat) * T0 (if r < j then π r else π i) c) else fun r => T0 (if r < j then π r else π i) (c' - 1)) := by
          rw [det_scale (fun c' r => T0 (if r < j then π r else π i) (c' - 1)) (fun r => T0 (if r < j then π r else π i) c) (N : Rat)]
          congr 1
        rw [e2]
        refine (det_Zq (b0 := B) (F := F j) (fun r hr => ?_) fun i' hi' => hF j _ fun c' r hc' hr => ?_).mono (hX2 j hjk)
        · simp only [if_true]; rw [Rat.mul_comm]; exact hR _ (hρ r)
        · simp only [show ¬ (c' + 1 = 0) by omega, if_false]
          exact hP _ _ (hρ _) (by omega)
      · refine Zq.mono (Zq.mul ⟨(N : Int), (Rat.intCast_natCast N).symm, Nat.le_refl _⟩ (hF (j + 1) _ fun c' r hc' hr => ?_)) (by rw [Int.natAbs_natCast, Nat.mul_comm]; exact hX1 (j + 1) (by omega))
        refine hP _ _ (hρ r) ?_
        by_cases h0 : c' = 0
        · rw [if_pos h0]; omega
        · rw [if_neg h0]; omega
    exact Zq.rp (z := 0) hd0 hN (Zq.sgn j) key (sgn_sq j)
end Bq

namespace Bq

def bitQ (e w : Nat) : Rat := if e.testBit w then 1 else 0
theorem solveT_len {m k : Nat} {T : SysT} {x : List Rat} (h : solveT m k T = some x) : x.length = k := by
  rw [solveT] at h
  cases hr : Wa m T k with
  | none => rw [hr] at h; cases h
  | some S =>
    rw [hr] at h
    simp only [Option.bind_some] at h
    split at h
    · cases h
    · cases h; simp
end Bq

namespace Bq

def Nul (m K : Nat) (T : SysT) (y : Nat → Rat) : Prop := ∀ i, i < m → sumTo (fun c => T i c * y c) K = 0
theorem nul_swap {m K a p : Nat} {T : SysT} {y : Nat → Rat} (ha : a < m) (hp : p < m) : Nul m K (swapT a p T) y ↔ Nul m K T y := by
  have key : ∀ T : SysT, Nul m K T y → Nul m K (swapT a p T) y := fun T h i hi => by
    by_cases h1 : i = a
    · subst h1; rw [swapT_at]; exact h p hp
    · by_cases h2 : i = p
      · have : swapT a p T i = T a := by simp only [swapT, h1, if_false]; rw [if_pos h2]
        rw [this]; exact h a ha
      · have : swapT a p T i = T i := by simp only [swapT, h1, h2, if_false]
        rw [this]; exact h i hi
  refine ⟨fun h => ?_, key T⟩
  have h2 := key _ h
  have e : swapT a p (swapT a p T) = T := by
    funext i
    simp only [swapT]
    by_cases h1 : i = a
    · subst h1
      simp only [if_true]
      by_cases h3 : p = i
      · rw [if_pos h3, h3]
      · rw [if_neg h3]
    · simp only [h1, if_false]
      by_cases h3 : i = p
      · subst h3; simp
      · simp [h3]
  rwa [e] at h2
theorem nul_norm {m K a : Nat} {T : SysT} {y : Nat → Rat} (ha : a < m) (h0 : T a a ≠ 0) : Nul m K (normT a T) y ↔ Nul m K T y := by
  have e : sumTo (fun c => normT a T a c * y c) K = (T a a)⁻¹ * sumTo (fun c => T a c * y c) K := by
    rw [← sumTo_mul]
    refine sumTo_congr fun c hc => ?_
    simp only [normT, if_true, Rat.div_def]; grind
  have e2 : ∀ i, i ≠ a → sumTo (fun c => normT a T i c * y c) K = sumTo (fun c => T i c * y c) K := fun i hi => sumTo_congr fun c hc => by simp only [normT, hi, if_false]
  constructor
  · intro h i hi
    by_cases h1 : i = a
    · subst h1
      have := h i hi
      rw [e] at this
      rcases Rat.mul_eq_zero.1 this with h2 | h2
      · have h3 := Rat.mul_inv_cancel _ h0
        rw [h2, Rat.mul_zero] at h3; exact absurd h3 (by decide +kernel)
      · exact h2
    · rw [← e2 i h1]; exact h i hi
  · intro h i hi
    by_cases h1 : i = a
    · subst h1; rw [e, h i hi, Rat.mul_zero]
    · rw [e2 i h1]; exact h i hi
theorem nul_elim {m K a : Nat} {T : SysT} {y : Nat → Rat} (ha : a < m) : Nul m K (elimT a T) y ↔ Nul m K T y := by
  have e : ∀ i, i ≠ a → sumTo (fun c => elimT a T i c * y c) K = sumTo (fun c => T i c * y c) K + (-(T i a)) * sumTo (fun c => T a c * y c) K := fun i hi => by
    rw [← sumTo_mul, ← Xz]
    refine sumTo_congr fun c hc => ?_
    simp only [elimT, hi, if_false]; grind
  have e2 : sumTo (fun c => elimT a T a c * y c) K = sumTo (fun c => T a c * y c) K := sumTo_congr fun c hc => by simp only [elimT, if_true]
  constructor
  · intro h i hi
    have h2 := h a ha
    rw [e2] at h2
    by_cases h1 : i = a
    · subst h1; exact h2
    · have := h i hi
      rw [e i h1, h2, Rat.mul_zero, Rat.add_zero] at this; exact this
  · intro h i hi
    by_cases h1 : i = a
    · subst h1; rw [e2]; exact h i hi
    · rw [e i h1, h i hi, h a ha, Rat.mul_zero, Rat.add_zero]
theorem nul_run {m K : Nat} {T : SysT} {y : Nat → Rat} : ∀ {j : Nat} {S : SysT}, Wa m T j = some S → (Nul m K S y ↔ Nul m K T y)
  | 0, S, h => by cases h; exact Iff.rfl
  | j + 1, S, h => by
    rw [Wa] at h
    cases hr : Wa m T j with
    | none => rw [hr] at h; cases h
    | some S1 =>
      rw [hr] at h
      simp only [Option.bind_some, elimStep] at h
      cases hf : findP m j S1 with
      | none => rw [hf] at h; cases h
      | some p =>
        rw [hf] at h
        cases h
        obtain ⟨h1, h2, h3, _⟩ := findP_some hf
        have hj : j < m := by omega
        rw [nul_elim hj, nul_norm hj (by rw [swapT_at]; exact h3), nul_swap hj h1]
        exact nul_run hr

def Sol (m k : Nat) (T : SysT) (x : Nat → Rat) : Prop := ∀ i, i < m → sumTo (fun c => T i c * x c) k = T i k
def Ker (m k : Nat) (T : SysT) (x : Nat → Rat) : Prop := ∀ i, i < m → sumTo (fun c => T i c * x c) k = 0
def ext1 (k : Nat) (x : Nat → Rat) (s : Rat) : Nat → Rat := fun c => if c < k then x c else s
theorem sum_ext1 (T : SysT) (i k : Nat) (x : Nat → Rat) (s : Rat) : sumTo (fun c => T i c * ext1 k x s c) (k + 1) = sumTo (fun c => T i c * x c) k + T i k * s := by
  rw [sumTo]
  have e : ext1 k x s k = s := by simp [ext1]
  simp only [e]
  congr 1
  exact sumTo_congr fun c hc => by simp only [ext1, hc, if_true]
theorem sol_nul {m k : Nat} {T : SysT} {x : Nat → Rat} : Sol m k T x ↔ Nul m (k + 1) T (ext1 k x (-1)) := by
  constructor
  · intro h i hi
    rw [sum_ext1, h i hi]; grind
  · intro h i hi
    have := h i hi
    rw [sum_ext1] at this
    generalize sumTo (fun c => T i c * x c) k = A at *
    grind
theorem ker_nul {m k : Nat} {T : SysT} {x : Nat → Rat} : Ker m k T x ↔ Nul m (k + 1) T (ext1 k x 0) := by
  constructor
  · intro h i hi
    rw [sum_ext1, h i hi]; grind
  · intro h i hi
    have := h i hi
    rw [sum_ext1] at this
    generalize sumTo (fun c => T i c * x c) k = A at *
    grind
theorem sum_unit {n t : Nat} (x : Nat → Rat) (h : t < n) : sumTo (fun c => (if t = c then 1 else 0) * x c) n = x t := by
  rw [← sumTo_pick x h]
  refine sumTo_congr fun c hc => ?_
  by_cases h1 : t = c
  · rw [if_pos h1, if_pos h1.symm, Rat.one_mul]
  · rw [if_neg h1, if_neg (Ne.symm h1), Rat.zero_mul]
theorem solve_some {m k : Nat} {T : SysT} {xs : List Rat} (h : solveT m k T = some xs) : xs.length = k ∧ ∀ y, Sol m k T y ↔ ∀ t, t < k → y t = xs.getD t 0 := by
  refine ⟨solveT_len h, fun y => ?_⟩
  rw [solveT] at h
  cases hr : Wa m T k with
  | none => rw [hr] at h; cases h
  | some S =>
    rw [hr] at h
    simp only [Option.bind_some] at h
    split at h
    · cases h
    · next hrest =>
      cases h
      obtain ⟨π, g⟩ := elim_gi hr
      rw [sol_nul, ← nul_run hr, ← sol_nul]
      have hu : ∀ i, i < m → sumTo (fun c => S i c * y c) k = if i < k then y i else 0 := fun i hi => by
        rw [sumTo_congr (g := fun c => (if i = c then 1 else 0) * y c) fun c hc => by rw [g.unit i c hi hc]]
        by_cases h1 : i < k
        · rw [if_pos h1, sum_unit y h1]
        · rw [if_neg h1]
          exact sumTo_zero fun c hc => by rw [if_neg (by omega), Rat.zero_mul]
      have hget : ∀ t, t < k → ((List.range k).map fun i => S i k).getD t 0 = S t k := fun t ht => by simp [List.getD, ht]
      constructor
      · intro h t ht
        rw [hget t ht]
        have := h t (by have := g.jm; omega)
        rw [hu t (by have := g.jm; omega), if_pos ht] at this
        exact this
      · intro h i hi
        rw [hu i hi]
        by_cases h1 : i < k
        · rw [if_pos h1, h i h1, hget i h1]
        · rw [if_neg h1]
          have : ¬ restT m k S = true := hrest
          rw [restT, List.any_eq_true] at this
          rcases Decidable.em (S i k = 0) with h2 | h2
          · exact h2.symm
          · exact absurd ⟨i, List.mem_range.2 hi, by simp [h2]; omega⟩ this
theorem run_none {m k : Nat} {T : SysT} : ∀ {j : Nat}, j ≤ k → Wa m T j = none → ∃ δ, Ker m k T δ ∧ ∃ c, c < k ∧ δ c ≠ 0
  | 0, _, h => by cases h
  | j + 1, hj, h => by
    rw [Wa] at h
    cases hr : Wa m T j with
    | none => exact run_none (by omega) hr
    | some S =>
      rw [hr] at h
      simp only [Option.bind_some, elimStep] at h
      cases hf : findP m j S with
      | some p => rw [hf] at h; cases h
      | none =>
        obtain ⟨π, g⟩ := elim_gi hr
        have h0 : ∀ i, i < m → j ≤ i → S i j = 0 := fun i hi hji => by
          rw [findP, List.find?_eq_none] at hf
          have := hf i (List.mem_range.2 hi)
          simpa [hji] using this
        refine ⟨fun c => if c < j then - S c j else if c = j then 1 else 0, ?_, j, by omega, by simp⟩
        rw [ker_nul, ← nul_run hr, ← ker_nul]
        intro i hi
        have e : ∀ K, K ≤ k → sumTo (fun c => S i c * (if c < j then - S c j else if c = j then 1 else 0)) K = if j < K then sumTo (fun c => S i c * (- S c j)) j + S i j else sumTo (fun c => S i c * (- S c j)) K := by
          intro K
          induction K with
          | zero => intro _; rw [if_neg (by omega)]; rfl
          | succ K ih =>
            intro hK
            rw [sumTo, ih (by omega)]
            rcases Nat.lt_trichotomy K j with h1 | h1 | h1
            · rw [if_neg (show ¬ j < K by omega), if_pos h1, if_neg (show ¬ j < K + 1 by omega)]; rfl
            · subst h1
              rw [if_neg (show ¬ K < K by omega), if_pos (show K < K + 1 by omega), if_neg (show ¬ K < K by omega), if_pos rfl, Rat.mul_one]
            · rw [if_pos (show j < K by omega), if_pos (show j < K + 1 by omega), if_neg (show ¬ K < j by omega), if_neg (show ¬ K = j by omega), Rat.mul_zero, Rat.add_zero]
        rw [e k (Nat.le_refl _), if_pos (by omega)]
        rw [sumTo_congr (g := fun c => (if i = c then 1 else 0) * (- S c j)) fun c hc => by rw [g.unit i c hi hc]]
        by_cases h1 : i < j
        · rw [sum_unit (fun c => - S c j) h1]; grind
        · rw [sumTo_zero fun c hc => by rw [if_neg (by omega), Rat.zero_mul], h0 i hi (by omega), Rat.zero_add]
theorem solve_none {m k : Nat} {T : SysT} (h : solveT m k T = none) : (∀ y, ¬ Sol m k T y) ∨ ∃ δ, Ker m k T δ ∧ ∃ c, c < k ∧ δ c ≠ 0 := by
  rw [solveT] at h
  cases hr : Wa m T k with
  | none => exact .inr (run_none (Nat.le_refl _) hr)
  | some S =>
    rw [hr] at h
    simp only [Option.bind_some] at h
    split at h
    · next hrest =>
      refine .inl fun y hy => ?_
      obtain ⟨π, g⟩ := elim_gi hr
      rw [sol_nul, ← nul_run hr, ← sol_nul] at hy
      rw [restT, List.any_eq_true] at hrest
      obtain ⟨i, hi, h1⟩ := hrest
      simp only [Bool.and_eq_true, decide_eq_true_eq] at h1
      have := hy i (List.mem_range.1 hi)
      rw [sumTo_zero fun c hc => by rw [g.unit i c (List.mem_range.1 hi) hc, if_neg (by omega), Rat.zero_mul]] at this
      exact h1.2 this.symm
    · cases h
theorem Sol.add {m k : Nat} {T : SysT} {x δ : Nat → Rat} (h : Sol m k T x) (hd : Ker m k T δ) (s : Rat) : Sol m k T (fun c => x c + s * δ c) := fun i hi => by
  rw [sumTo_congr (g := fun c => T i c * x c + s * (T i c * δ c)) fun c hc => by grind, Xz, sumTo_mul, h i hi, hd i hi, Rat.mul_zero, Rat.add_zero]
theorem solve_wide {m k : Nat} {T : SysT} (h : m < k) : solveT m k T = none := by
  have key : ∀ j, m < j → Wa m T j = none := by
    intro j
    induction j with
    | zero => intro h; omega
    | succ j ih =>
      intro hj
      rw [Wa]
      by_cases h1 : m < j
      · rw [ih h1]; rfl
      · obtain rfl : j = m := by omega
        cases hr : Wa j T j with
        | none => rfl
        | some S =>
          simp only [Option.bind_some, elimStep]
          have : findP j j S = none := find_none fun i hi => by simp; omega
          rw [this]; rfl
  rw [solveT, key k h]; rfl
end Bq

namespace Bq

theorem sgn_ne (a : Nat) : sgn a ≠ 0 := fun h => by
  have := sgn_sq a
  rw [h] at this; simp at this
theorem bring_ne {j c : Nat} (h : c ≠ 0) : Wd j c ≠ j := by
  rw [Wd, if_neg h]
  split <;> omega
theorem bring_at {j t : Nat} (h : t ≠ j) : Wd j ((if t < j then t else t - 1) + 1) = t := by
  rw [Wd, if_neg (by omega)]
  by_cases h1 : t < j
  · rw [if_pos h1, if_pos (by omega)]; omega
  · rw [if_neg h1, if_neg (by omega)]; omega
def putC (M : Nat → Nat → Rat) (j : Nat) (b : Nat → Rat) : Nat → Nat → Rat := fun c => if c = j then b else M c
theorem cramer {n j : Nat} {M : Nat → Nat → Rat} {b x : Nat → Rat} (hj : j < n) (hx : ∀ r, r < n → sumTo (fun c => x c * M c r) n = b r) : det n (putC M j b) = x j * det n M := by
  obtain ⟨n, rfl⟩ : ∃ k, n = k + 1 := ⟨n - 1, by omega⟩
  have h1 := det_bring j (n + 1) (putC M j b) hj
  have h2 := det_bring j (n + 1) M hj
  have hs : sumTo (fun c => if c = j then x c * (fun r => fun c => M c r) 0 c else 0) (n + 1) = x j * M j 0 := sumTo_pick _ hj
  have hB : ∀ c, c ≠ 0 → putC M j b (Wd j c) = M (Wd j c) := fun c hc => by rw [putC, if_neg (bring_ne hc)]
  have hB0 : putC M j b (Wd j 0) = b := by rw [Wd, if_pos rfl, putC, if_pos rfl]
  have h3 := det_comb (n := n) (fun t => M t) (fun t => if t = j then 0 else x t) (fun r => x j * M j r) (n + 1) (M := fun c => putC M j b (Wd j c)) (fun r hr => by
    rw [hB0, ← hx r hr]
    have hp : sumTo (fun c => if c = j then x c * M c r else 0) (n + 1) = x j * M j r := sumTo_pick _ hj
    rw [← hp, ← Xz]
    refine sumTo_congr fun c _ => ?_
    by_cases h : c = j
    · rw [if_pos h, if_pos h]; grind
    · rw [if_neg h, if_neg h]; grind) (fun t ht => by
    by_cases h : t = j
    · exact .inl (if_pos h)
    · refine .inr (det_same (n + 1) (if t < j then t else t - 1) _ (by split <;> omega) fun r hr => ?_)
      rw [if_pos rfl, if_neg (by omega), hB _ (by omega), bring_at h])
  have h4 := det_scale (n := n) (fun c => putC M j b (Wd j c)) (M j) (x j)
  have h5 : det (n + 1) (fun c => if c = 0 then M j else putC M j b (Wd j c)) = det (n + 1) (fun c => M (Wd j c)) := Xn _ fun c r hc hr => by
    by_cases h : c = 0
    · rw [if_pos h, h, Wd, if_pos rfl]
    · rw [if_neg h, hB c h]
  rw [h3, h4, h5, h2] at h1
  have hq := sgn_sq j
  have h6 : sgn j * (x j * (sgn j * det (n + 1) M)) = sgn j * (sgn j * det (n + 1) (putC M j b)) := by rw [h1]
  have h7 : sgn j * (sgn j * det (n + 1) (putC M j b)) = det (n + 1) (putC M j b) := by rw [← Rat.mul_assoc, hq, Rat.one_mul]
  have h8 : sgn j * (x j * (sgn j * det (n + 1) M)) = x j * det (n + 1) M := by
    have : sgn j * (x j * (sgn j * det (n + 1) M)) = (sgn j * sgn j) * (x j * det (n + 1) M) := by grind
    rw [this, hq, Rat.one_mul]
  rw [← h7, ← h6, h8]
theorem put_zero {n j : Nat} {M : Nat → Nat → Rat} (hj : j < n) : det n (putC M j fun _ => 0) = 0 := by
  obtain ⟨n, rfl⟩ : ∃ k, n = k + 1 := ⟨n - 1, by omega⟩
  have h1 := det_bring j (n + 1) (putC M j fun _ => 0) hj
  rw [det_zero (fun r _ => by rw [Wd, if_pos rfl, putC, if_pos rfl])] at h1
  have h2 : sgn j * (sgn j * det (n + 1) (putC M j fun _ => 0)) = 0 := by rw [← h1]; exact Rat.mul_zero _
  rw [← Rat.mul_assoc, sgn_sq, Rat.one_mul] at h2
  exact h2
theorem ker_det {n j : Nat} {M : Nat → Nat → Rat} {x : Nat → Rat} (hj : j < n) (h0 : x j ≠ 0) (hx : ∀ r, r < n → sumTo (fun c => x c * M c r) n = 0) : det n M = 0 := by
  have h1 := cramer (b := fun _ => 0) hj hx
  rw [put_zero hj] at h1
  rcases Rat.mul_eq_zero.1 h1.symm with h | h
  · exact absurd h h0
  · exact h
theorem sol_ex {n : Nat} {M : Nat → Nat → Rat} (h : det n M ≠ 0) (b : Nat → Rat) : ∃ x : Nat → Rat, ∀ r, r < n → sumTo (fun c => x c * M c r) n = b r := by
  obtain ⟨T, hT⟩ : ∃ T : SysT, T = fun r c => if c < n then M c r else b r := ⟨_, rfl⟩
  have hsum : ∀ (x : Nat → Rat) r, sumTo (fun c => T r c * x c) n = sumTo (fun c => x c * M c r) n := fun x r => sumTo_congr fun c hc => by rw [hT]; simp only [if_pos hc]; exact Rat.mul_comm _ _
  cases he : Wa n T n with
  | none =>
    obtain ⟨δ, hk, c, hc, h0⟩ := run_none (Nat.le_refl n) he
    exact absurd (ker_det hc h0 fun r hr => by rw [← hsum]; exact hk r hr) h
  | some S =>
    have hr : restT n n S = false := by
      rw [restT, List.any_eq_false]
      intro i hi
      rw [List.mem_range] at hi
      simp; omega
    have hs : solveT n n T = some ((List.range n).map fun i => S i n) := by
      rw [solveT, he, Option.bind_some, hr]; rfl
    obtain ⟨_, h2⟩ := solve_some hs
    have h3 := (h2 fun t => ((List.range n).map fun i => S i n).getD t 0).2 fun t _ => rfl
    refine ⟨fun t => ((List.range n).map fun i => S i n).getD t 0, fun r hr => ?_⟩
    have := h3 r hr
    rw [hsum] at this
    rw [this, hT]
    simp only [Nat.lt_irrefl, if_false]

/-! ### A determinant of 0: the rows depend on each other -/
theorem sum_skp (g : Nat → Rat) {i : Nat} : ∀ {n : Nat}, i ≤ n → sumTo g (n + 1) = sumTo (fun r => g (skp i r)) n + g i
  | 0, h => by
    obtain rfl : i = 0 := by omega
    simp only [sumTo]
  | n + 1, h => by
    rcases Nat.lt_or_ge n i with h1 | h1
    · obtain rfl : i = n + 1 := by omega
      rw [sumTo]
      congr 1
      exact sumTo_congr fun r hr => by rw [skp, if_pos hr]
    · rw [sumTo, sum_skp g h1, sumTo, show skp i n = n + 1 by rw [skp, if_neg (by omega)]]
      grind
def lift (i : Nat) (u : Nat → Rat) : Nat → Rat := fun r => if r = i then 0 else if r < i then u r else u (r - 1)
theorem lift_skp (i r : Nat) (u : Nat → Rat) : lift i u (skp i r) = u r := by
  rw [lift, skp]
  by_cases h : r < i
  · rw [if_pos h, if_neg (by omega), if_pos h]
  · rw [if_neg h, if_neg (by omega), if_neg (by omega)]; rfl
theorem lift_at (i : Nat) (u : Nat → Rat) : lift i u i = 0 := if_pos rfl
theorem sum_lift {i n : Nat} (hi : i ≤ n) (u g : Nat → Rat) : sumTo (fun r => lift i u r * g r) (n + 1) = sumTo (fun r => u r * g (skp i r)) n := by
  rw [sum_skp _ hi, lift_at, Rat.zero_mul, Rat.add_zero]
  exact sumTo_congr fun r _ => by rw [lift_skp]
theorem det_col {n : Nat} (M : Nat → Nat → Rat) (a : Nat → Rat) : sumTo (fun i => sgn i * det n (fun c r => M (c + 1) (skp i r)) * a i) (n + 1) = det (n + 1) fun c => if c = 0 then a else M c := by
  rw [det]
  refine sumTo_congr fun i _ => ?_
  rw [if_pos rfl]
  have : det n (fun c r => (if c + 1 = 0 then a else M (c + 1)) (skp i r)) = det n (fun c r => M (c + 1) (skp i r)) := Xn _ fun c r _ _ => by rw [if_neg (by omega)]
  rw [this]; grind
theorem left_ker : ∀ (n : Nat) (M : Nat → Nat → Rat), det n M = 0 → ∃ u : Nat → Rat, (∃ r, r < n ∧ u r ≠ 0) ∧ ∀ c, c < n → sumTo (fun r => u r * M c r) n = 0
  | 0, M, h => by rw [det] at h; exact absurd h (by decide)
  | n + 1, M, h => by
    obtain ⟨C, hC⟩ : ∃ C : Nat → Rat, C = fun i => det n (fun c r => M (c + 1) (skp i r)) := ⟨_, rfl⟩
    have hv : ∀ c, c < n + 1 → sumTo (fun i => sgn i * C i * M c i) (n + 1) = 0 := fun c hc => by
      rw [hC, det_col M (M c)]
      by_cases h0 : c = 0
      · rw [h0, ← h]
        exact Xn _ fun c' r _ _ => by
          by_cases h1 : c' = 0
          · rw [if_pos h1, h1]
          · rw [if_neg h1]
      · obtain ⟨t, rfl⟩ : ∃ t, c = t + 1 := ⟨c - 1, by omega⟩
        exact det_same (n + 1) t _ hc fun r _ => by rw [if_pos rfl, if_neg (by omega)]
    by_cases hex : ∃ i, i < n + 1 ∧ C i ≠ 0
    · obtain ⟨i, hi, h0⟩ := hex
      exact ⟨fun i => sgn i * C i, ⟨i, hi, fun hc => by
        rcases Rat.mul_eq_zero.1 hc with h | h
        · exact sgn_ne i h
        · exact h0 h⟩, hv⟩
    · have hz : ∀ i, i < n + 1 → C i = 0 := fun i hi => Classical.byContradiction fun hc => hex ⟨i, hi, hc⟩
      have hmk : ∀ i, i < n + 1 → ∃ w : Nat → Rat, (∃ r, r < n + 1 ∧ w r ≠ 0) ∧ w i = 0 ∧ ∀ c, c < n → sumTo (fun r => w r * M (c + 1) r) (n + 1) = 0 := fun i hi => by
        have h1 := hz i hi
        rw [hC] at h1
        obtain ⟨u, ⟨r, hr, h2⟩, h3⟩ := left_ker n _ h1
        exact ⟨lift i u, ⟨skp i r, skp_lt hr, by rw [lift_skp]; exact h2⟩, lift_at i u, fun c hc => by rw [sum_lift (by omega)]; exact h3 c hc⟩
      obtain ⟨w, ⟨r1, hr1, hw1⟩, _, hwc⟩ := hmk n (Nat.lt_succ_self n)
      obtain ⟨w', ⟨r2, hr2, hw2⟩, hz1, hwc'⟩ := hmk r1 hr1
      obtain ⟨α, hα⟩ : ∃ α, α = sumTo (fun r => w r * M 0 r) (n + 1) := ⟨_, rfl⟩
      obtain ⟨β, hβ⟩ : ∃ β, β = sumTo (fun r => w' r * M 0 r) (n + 1) := ⟨_, rfl⟩
      have fin : ∀ z : Nat → Rat, sumTo (fun r => z r * M 0 r) (n + 1) = 0 → (∀ c, c < n → sumTo (fun r => z r * M (c + 1) r) (n + 1) = 0) → ∀ c, c < n + 1 → sumTo (fun r => z r * M c r) (n + 1) = 0 := fun z h0 h1 c hc => by
        rcases Nat.eq_zero_or_pos c with rfl | h2
        · exact h0
        · obtain ⟨t, rfl⟩ : ∃ t, c = t + 1 := ⟨c - 1, by omega⟩
          exact h1 t (by omega)
      by_cases hb : β = 0
      · exact ⟨w', ⟨r2, hr2, hw2⟩, fin w' (hβ ▸ hb) hwc'⟩
      · have hcomb : ∀ c, sumTo (fun r => (β * w r - α * w' r) * M c r) (n + 1) = β * sumTo (fun r => w r * M c r) (n + 1) + (-α) * sumTo (fun r => w' r * M c r) (n + 1) := fun c => by
          rw [← sumTo_mul, ← sumTo_mul, ← Xz]
          exact sumTo_congr fun r _ => by grind
        refine ⟨fun r => β * w r - α * w' r, ⟨r1, hr1, ?_⟩, fin _ ?_ fun c hc => ?_⟩
        · intro hc
          have : β * w r1 = 0 := by grind
          rcases Rat.mul_eq_zero.1 this with h | h
          · exact hb h
          · exact hw1 h
        · rw [hcomb, ← hα, ← hβ]; grind
        · rw [hcomb, hwc c hc, hwc' c hc]; grind
end Bq

namespace Bq

def cntN (p : Nat → Rat) : Nat → Nat
  | 0 => 0
  | k + 1 => cntN p k + if p k = 0 then 0 else 1
theorem cntN_lt {p q : Nat → Rat} {w : Nat} : ∀ n, (∀ v, v < n → q v ≠ 0 → p v ≠ 0) → (w < n → q w = 0 ∧ p w ≠ 0 → cntN q n < cntN p n) ∧ cntN q n ≤ cntN p n
  | 0, _ => ⟨fun h => by omega, Nat.le_refl _⟩
  | n + 1, h => by
    obtain ⟨h1, h2⟩ := cntN_lt (w := w) n fun v hv => h v (by omega)
    have h3 := h n (by omega)
    simp only [cntN]
    refine ⟨fun hw hq => ?_, ?_⟩
    · by_cases hwn : w = n
      · subst hwn
        rw [if_pos hq.1, if_neg hq.2]; omega
      · have := h1 (by omega) hq
        by_cases h4 : q n = 0
        · rw [if_pos h4]; split <;> omega
        · rw [if_neg h4, if_neg (h3 h4)]; omega
    · by_cases h4 : q n = 0
      · rw [if_pos h4]; split <;> omega
      · rw [if_neg h4, if_neg (h3 h4)]; omega
theorem least_of (P : Nat → Prop) (r : Nat → Rat) : ∀ n, (∃ w, w < n ∧ P w) → ∃ w, w < n ∧ P w ∧ ∀ v, v < n → P v → r w ≤ r v
  | 0, ⟨w, h, _⟩ => by omega
  | n + 1, ⟨w, h, hp⟩ => by
    by_cases hex : ∃ w, w < n ∧ P w
    · obtain ⟨u, h1, h2, h3⟩ := least_of P r n hex
      by_cases hn : P n ∧ r n < r u
      · refine ⟨n, by omega, hn.1, fun v hv hpv => ?_⟩
        by_cases hvn : v = n
        · subst hvn; exact Rat.le_refl
        · exact Rat.le_trans (Rat.le_of_lt hn.2) (h3 v (by omega) hpv)
      · refine ⟨u, by omega, h2, fun v hv hpv => ?_⟩
        by_cases hvn : v = n
        · subst hvn
          rw [← Rat.not_lt]
          exact fun hc => hn ⟨hpv, hc⟩
        · exact h3 v (by omega) hpv
    · have hwn : w = n := by
        rcases Nat.lt_or_ge w n with h1 | h1
        · exact absurd ⟨w, h1, hp⟩ hex
        · omega
      subst hwn
      refine ⟨w, by omega, hp, fun v hv hpv => ?_⟩
      by_cases hvn : v = w
      · subst hvn; exact Rat.le_refl
      · exact absurd ⟨v, by omega, hpv⟩ hex

def dot (a x : Nat → Rat) (n : Nat) : Rat := sumTo (fun i => a i * x i) n
theorem dot_add (a x y : Nat → Rat) (s : Rat) (n : Nat) : dot a (fun i => x i + s * y i) n = dot a x n + s * dot a y n := by
  rw [dot, dot, dot, ← sumTo_mul, ← Xz]
  exact sumTo_congr fun i _ => by grind
theorem dot_neg (a x : Nat → Rat) (n : Nat) : dot a (fun i => - x i) n = - dot a x n := by
  have : dot a (fun i => - x i) n = (-1) * dot a x n := by
    rw [dot, dot, ← sumTo_mul]
    exact sumTo_congr fun i _ => by grind
  rw [this]; grind
theorem vert {n m : Nat} (A : Nat → Nat → Rat) (b : Nat → Rat) (w : Nat → Rat) (hb : ∀ d : Nat → Rat, (∃ i, i < n ∧ d i ≠ 0) → 0 ≤ dot w d n → ∃ k, k < m ∧ 0 < dot (A k) d n) :
    ∀ (N : Nat) (x : Nat → Rat), cntN (fun k => b k - dot (A k) x n) m ≤ N → (∀ k, k < m → dot (A k) x n ≤ b k) →
      ∃ v : Nat → Rat, (∀ k, k < m → dot (A k) v n ≤ b k) ∧ dot w x n ≤ dot w v n ∧ ∀ d : Nat → Rat, (∀ k, k < m → dot (A k) v n = b k → dot (A k) d n = 0) → ∀ i, i < n → d i = 0 := by
  intro N
  induction N with
  | zero =>
    intro x hc hx
    refine ⟨x, hx, Rat.le_refl, fun d hd i hi => Classical.byContradiction fun h0 => ?_⟩
    have key : ∀ d' : Nat → Rat, d' i ≠ 0 → 0 ≤ dot w d' n → (∀ k, k < m → dot (A k) x n = b k → dot (A k) d' n = 0) → False := fun d' h1 h2 h3 => by
      obtain ⟨k, hk, hp⟩ := hb d' ⟨i, hi, h1⟩ h2
      by_cases ht : dot (A k) x n = b k
      · have := h3 k hk ht; grind
      · have h4 := (cntN_lt (p := fun k => b k - dot (A k) x n) (q := fun _ => 0) (w := k) m fun v _ h => absurd rfl h).1 hk ⟨rfl, fun h => ht (by grind)⟩
        omega
    rcases Rat.le_total (a := 0) (b := dot w d n) with h | h
    · exact key d h0 h hd
    · refine key (fun i => - d i) (fun hc => h0 (by grind)) (by rw [dot_neg]; grind) fun k hk ht => by rw [dot_neg, hd k hk ht]; grind
  | succ N ih =>
    intro x hc hx
    by_cases hall : ∀ d : Nat → Rat, (∀ k, k < m → dot (A k) x n = b k → dot (A k) d n = 0) → ∀ i, i < n → d i = 0
    · exact ⟨x, hx, Rat.le_refl, hall⟩
    have hex : ∃ d : Nat → Rat, (∀ k, k < m → dot (A k) x n = b k → dot (A k) d n = 0) ∧ (∃ i, i < n ∧ d i ≠ 0) ∧ 0 ≤ dot w d n := by
      refine Classical.byContradiction fun hno => hall fun d hd i hi => Classical.byContradiction fun h0 => ?_
      rcases Rat.le_total (a := 0) (b := dot w d n) with h | h
      · exact hno ⟨d, hd, ⟨i, hi, h0⟩, h⟩
      · exact hno ⟨fun i => - d i, fun k hk ht => by rw [dot_neg, hd k hk ht]; grind, ⟨i, hi, fun hc => h0 (by grind)⟩, by rw [dot_neg]; grind⟩
    obtain ⟨d, hd, hne, hw⟩ := hex
    obtain ⟨k0, hk0, hp0⟩ := hb d hne hw
    obtain ⟨k, hk, hpk, hmin⟩ := least_of (fun k => 0 < dot (A k) d n) (fun k => (b k - dot (A k) x n) / dot (A k) d n) m ⟨k0, hk0, hp0⟩
    obtain ⟨t, ht⟩ : ∃ t, t = (b k - dot (A k) x n) / dot (A k) d n := ⟨_, rfl⟩
    have hne0 : ∀ k, 0 < dot (A k) d n → dot (A k) d n ≠ 0 := fun k h hc => by rw [hc] at h; exact absurd h (by decide)
    have hdiv : ∀ k, 0 < dot (A k) d n → (b k - dot (A k) x n) / dot (A k) d n * dot (A k) d n = b k - dot (A k) x n := fun k h => by
      rw [Rat.div_def, Rat.mul_assoc, Rat.inv_mul_cancel _ (hne0 k h), Rat.mul_one]
    have htk : t * dot (A k) d n = b k - dot (A k) x n := by rw [ht]; exact hdiv k hpk
    have htp : ∀ k', k' < m → 0 < dot (A k') d n → t * dot (A k') d n ≤ b k' - dot (A k') x n := fun k' h1 h2 => by
      rw [← hdiv k' h2]
      exact Rat.mul_le_mul_of_nonneg_right (by rw [ht]; exact hmin k' h1 h2) (Rat.le_of_lt h2)
    have ht0 : 0 ≤ t := by
      rw [ht, Rat.div_def]
      refine Rat.mul_nonneg ?_ (Rat.le_of_lt (Rat.inv_pos.2 hpk))
      have := hx k hk; grind
    have hx' : ∀ k', k' < m → dot (A k') (fun i => x i + t * d i) n ≤ b k' := fun k' h1 => by
      rw [dot_add]
      have h2 := hx k' h1
      rcases Rat.le_total (a := dot (A k') d n) (b := 0) with h | h
      · have : t * dot (A k') d n ≤ 0 := by
          have := Rat.mul_nonneg ht0 (show 0 ≤ - dot (A k') d n by grind)
          grind
        grind
      · by_cases h3 : dot (A k') d n = 0
        · rw [h3]; grind
        · have := htp k' h1 (by grind); grind
    have hnt : dot (A k) x n ≠ b k := fun h => by have := hd k hk h; exact hne0 k hpk this
    obtain ⟨v, v1, v2, v3⟩ := ih (fun i => x i + t * d i) (by
      have h4 := (cntN_lt (p := fun k => b k - dot (A k) x n) (q := fun k' => b k' - dot (A k') (fun i => x i + t * d i) n) (w := k) m fun v hv h h' => h (by
        have h5 : dot (A v) x n = b v := by grind
        simp only [dot_add, hd v hv h5]; grind)).1 hk ⟨by simp only [dot_add, htk]; grind, fun h => hnt (by grind)⟩
      omega) hx'
    exact ⟨v, v1, by rw [dot_add] at v2; have := Rat.mul_nonneg ht0 hw; grind, v3⟩

/-! ### Rows that do not depend on each other -/
/-- A row of the list, by its place. -/
def Wl (A : Nat → Nat → Rat) (B : List Nat) (r : Nat) : Nat → Rat := A (B.getD r 0)
def Ind (A : Nat → Nat → Rat) (n : Nat) (B : List Nat) : Prop := ∀ u : Nat → Rat, (∀ i, i < n → sumTo (fun r => u r * Wl A B r i) B.length = 0) → ∀ r, r < B.length → u r = 0
def Span (A : Nat → Nat → Rat) (n : Nat) (B : List Nat) (k : Nat) : Prop := ∃ u : Nat → Rat, ∀ i, i < n → sumTo (fun r => u r * Wl A B r i) B.length = A k i
theorem rowOf_app {A : Nat → Nat → Rat} {B : List Nat} {k r : Nat} (h : r < B.length) : Wl A (B ++ [k]) r = Wl A B r := by
  rw [Wl, Wl, List.getD, List.getElem?_append_left h, List.getD]
theorem rowOf_end (A : Nat → Nat → Rat) (B : List Nat) (k : Nat) : Wl A (B ++ [k]) B.length = A k := by
  rw [Wl, List.getD, List.getElem?_append_right (Nat.le_refl _)]; simp
theorem sum_snoc (A : Nat → Nat → Rat) (B : List Nat) (k i : Nat) (u : Nat → Rat) : sumTo (fun r => u r * Wl A (B ++ [k]) r i) (B ++ [k]).length = sumTo (fun r => u r * Wl A B r i) B.length + u B.length * A k i := by
  rw [List.length_append, List.length_singleton, sumTo, rowOf_end]
  congr 1
  exact sumTo_congr fun r hr => by rw [rowOf_app hr]
theorem sum_one {n t : Nat} (g : Nat → Rat) (h : t < n) : sumTo (fun r => (if r = t then 1 else 0) * g r) n = g t := by
  have := sumTo_pick (n := n) (t := t) g h
  rw [← this]
  exact sumTo_congr fun r _ => by split <;> grind
theorem basis (A : Nat → Nat → Rat) (n : Nat) : ∀ L : List Nat, ∃ B : List Nat, B.Sublist L ∧ Ind A n B ∧ ∀ k ∈ L, Span A n B k := by
  suffices h : ∀ L : List Nat, ∃ B : List Nat, B.Sublist L.reverse ∧ Ind A n B ∧ ∀ k ∈ L.reverse, Span A n B k from fun L => by
    have := h L.reverse
    rwa [List.reverse_reverse] at this
  intro L
  induction L with
  | nil => exact ⟨[], .slnil, fun u _ r hr => absurd hr (Nat.not_lt_zero r), fun k hk => by cases hk⟩
  | cons k L ih =>
    obtain ⟨B, h1, h2, h3⟩ := ih
    rw [List.reverse_cons]
    by_cases hs : Span A n B k
    · refine ⟨B, h1.trans (List.sublist_append_left _ _), h2, fun k' hk => ?_⟩
      rcases List.mem_append.1 hk with hk | hk
      · exact h3 k' hk
      · rw [List.mem_singleton.1 hk]; exact hs
    · refine ⟨B ++ [k], h1.append (List.Sublist.refl _), fun u hu r hr => ?_, fun k' hk => ?_⟩
      · have hk0 : u B.length = 0 := Classical.byContradiction fun hc => hs ⟨fun r => - u r / u B.length, fun i hi => by
          have h4 := hu i hi
          rw [sum_snoc] at h4
          have h5 : sumTo (fun r => - u r / u B.length * Wl A B r i) B.length = (- 1 / u B.length) * sumTo (fun r => u r * Wl A B r i) B.length := by
            rw [← sumTo_mul]
            exact sumTo_congr fun r _ => by rw [Rat.div_def, Rat.div_def]; grind
          have h6 : sumTo (fun r => u r * Wl A B r i) B.length = - (u B.length * A k i) := by grind
          rw [h5, h6, Rat.div_def]
          have h7 := Rat.mul_inv_cancel _ hc
          grind⟩
        rw [List.length_append, List.length_singleton] at hr
        rcases Nat.lt_or_ge r B.length with h4 | h4
        · refine h2 u (fun i hi => ?_) r h4
          have := hu i hi
          rw [sum_snoc, hk0] at this; grind
        · obtain rfl : r = B.length := by omega
          exact hk0
      · rcases List.mem_append.1 hk with hk | hk
        · obtain ⟨u, hu⟩ := h3 k' hk
          refine ⟨fun r => if r < B.length then u r else 0, fun i hi => ?_⟩
          rw [sum_snoc, if_neg (Nat.lt_irrefl _), ← hu i hi]
          have : sumTo (fun r => (if r < B.length then u r else 0) * Wl A B r i) B.length = sumTo (fun r => u r * Wl A B r i) B.length := sumTo_congr fun r hr => by rw [if_pos hr]
          rw [this]; grind
        · refine ⟨fun r => if r = B.length then 1 else 0, fun i hi => ?_⟩
          rw [List.mem_singleton.1 hk, sum_snoc, if_pos rfl]
          have : sumTo (fun r => (if r = B.length then (1 : Rat) else 0) * Wl A B r i) B.length = 0 := sumTo_zero fun r hr => by rw [if_neg (by omega)]; grind
          rw [this]; grind
theorem wide_ker {m k : Nat} (T : Nat → Nat → Rat) (h : m < k) : ∃ d : Nat → Rat, (∃ c, c < k ∧ d c ≠ 0) ∧ ∀ i, i < m → sumTo (fun c => T i c * d c) k = 0 := by
  obtain ⟨S, hS⟩ : ∃ S : SysT, S = fun i c => if c < k then T i c else 0 := ⟨_, rfl⟩
  have hsum : ∀ (d : Nat → Rat) i, sumTo (fun c => S i c * d c) k = sumTo (fun c => T i c * d c) k := fun d i => sumTo_congr fun c hc => by rw [hS]; simp only [if_pos hc]
  rcases solve_none (solve_wide (T := S) h) with h1 | ⟨d, h1, h2⟩
  · refine absurd (fun i _ => ?_) (h1 fun _ => 0)
    rw [hS]
    simp only [Nat.lt_irrefl, if_false]
    exact sumTo_zero fun c _ => Rat.mul_zero _
  · exact ⟨d, h2, fun i hi => by rw [← hsum]; exact h1 i hi⟩
theorem pick_rows {A : Nat → Nat → Rat} {n : Nat} {L : List Nat} (h : ∀ d : Nat → Rat, (∀ k ∈ L, dot (A k) d n = 0) → ∀ i, i < n → d i = 0) :
    ∃ B : List Nat, B.Sublist L ∧ B.length = n ∧ det n (fun c r => Wl A B r c) ≠ 0 := by
  obtain ⟨B, h1, h2, h3⟩ := basis A n L
  have hle : n ≤ B.length := Classical.byContradiction fun hc => by
    obtain ⟨d, ⟨c, hc1, hc2⟩, hd⟩ := wide_ker (fun r i => Wl A B r i) (show B.length < n by omega)
    refine hc2 (h d (fun k hk => ?_) c hc1)
    obtain ⟨u, hu⟩ := h3 k hk
    have e : dot (A k) d n = sumTo (fun i => sumTo (fun r => u r * Wl A B r i * d i) B.length) n := sumTo_congr fun i hi => by
      rw [← hu i hi, Rat.mul_comm, ← sumTo_mul]
      exact sumTo_congr fun r _ => by grind
    rw [e, sumTo_swap]
    exact sumTo_zero fun r hr => by
      have e2 : sumTo (fun i => u r * Wl A B r i * d i) n = u r * sumTo (fun i => Wl A B r i * d i) n := by
        rw [← sumTo_mul]; exact sumTo_congr fun i _ => by grind
      rw [e2, hd r hr]; grind
  have hge : B.length ≤ n := Classical.byContradiction fun hc => by
    obtain ⟨u, ⟨r, hr, hu⟩, hd⟩ := wide_ker (fun i r => Wl A B r i) (show n < B.length by omega)
    exact hu (h2 u (fun i hi => by rw [← hd i hi]; exact sumTo_congr fun r _ => Rat.mul_comm _ _) r hr)
  have hl : B.length = n := by omega
  refine ⟨B, h1, hl, fun hdet => ?_⟩
  obtain ⟨u, ⟨r, hr, hu⟩, hc⟩ := left_ker n _ hdet
  exact hu (h2 u (fun i hi => by rw [hl]; exact hc i hi) r (by omega))
end Bq

namespace Bq

def rowA (sets : List Nat) (k : Nat) : Nat → Rat := fun i => if k < sets.length then bitQ (sets.getD k 0) i else if i = k - sets.length then 1 else 0
def rhsA (sets : List Nat) (k : Nat) : Rat := if k < sets.length then 1 else 0
structure PFeas (n : Nat) (sets : List Nat) (x : Nat → Rat) : Prop where
  nn : ∀ i, i < n → 0 ≤ x i
  le : ∀ s ∈ sets, dot (bitQ s) x n ≤ 1
structure Corner (n : Nat) (sets B : List Nat) (x : Nat → Rat) : Prop where
  len : B.length = n
  sub : B.Sublist (List.range (sets.length + n))
  det : det n (fun c r => Wl (rowA sets) B r c) ≠ 0
  sol : ∀ r, r < n → sumTo (fun c => x c * Wl (rowA sets) B r c) n = rhsA sets (B.getD r 0)
  ok : PFeas n sets x
theorem dot_unit {n t : Nat} (a : Nat → Rat) (x : Nat → Rat) (h : t < n) (ha : ∀ i, i < n → a i = if i = t then 1 else 0) : dot a x n = x t := by
  rw [← sum_one x h, dot]
  exact sumTo_congr fun i hi => by rw [ha i hi]
theorem rowA_set {sets : List Nat} {k : Nat} (h : k < sets.length) : rowA sets k = bitQ (sets.getD k 0) := by
  funext i; rw [rowA, if_pos h]
theorem rowA_unit {sets : List Nat} {t n : Nat} (x : Nat → Rat) (h : t < n) : dot (rowA sets (sets.length + t)) x n = x t :=
  dot_unit _ x h fun i _ => by rw [rowA, if_neg (by omega), Nat.add_sub_cancel_left]
theorem getD_in {l : List Nat} {k : Nat} (h : k < l.length) : l.getD k 0 ∈ l := by
  rw [List.getD, List.getElem?_eq_getElem h]; exact List.getElem_mem h
theorem bitQ_nn (s i : Nat) : 0 ≤ bitQ s i := by
  rw [bitQ]; split <;> decide
theorem corner_ex {n : Nat} {sets : List Nat} (hc : ∀ i, i < n → ∃ s ∈ sets, s.testBit i = true) {x : Nat → Rat} (hx : PFeas n sets x) : ∃ B v, Corner n sets B v ∧ sumTo x n ≤ sumTo v n := by
  obtain ⟨σ, hσ⟩ : ∃ σ : Nat → Rat, σ = fun k => if k < sets.length then 1 else -1 := ⟨_, rfl⟩
  obtain ⟨A, hA⟩ : ∃ A : Nat → Nat → Rat, A = fun k i => σ k * rowA sets k i := ⟨_, rfl⟩
  obtain ⟨b, hb⟩ : ∃ b : Nat → Rat, b = rhsA sets := ⟨_, rfl⟩
  have hdA : ∀ k (y : Nat → Rat), dot (A k) y n = σ k * dot (rowA sets k) y n := fun k y => by
    rw [hA, dot, dot, ← sumTo_mul]
    exact sumTo_congr fun i _ => by grind
  have hs1 : ∀ {k}, k < sets.length → σ k = 1 := fun h => by rw [hσ]; exact if_pos h
  have hs2 : ∀ t, σ (sets.length + t) = -1 := fun t => by rw [hσ]; exact if_neg (by omega)
  have hb1 : ∀ {k}, k < sets.length → b k = 1 := fun h => by rw [hb]; exact if_pos h
  have hb2 : ∀ t, b (sets.length + t) = 0 := fun t => by rw [hb]; exact if_neg (by omega)
  have feas : ∀ y : Nat → Rat, (∀ k, k < sets.length + n → dot (A k) y n ≤ b k) ↔ PFeas n sets y := fun y => by
    constructor
    · intro h
      refine ⟨fun i hi => ?_, fun s hs => ?_⟩
      · have := h (sets.length + i) (by omega)
        rw [hdA, hs2, hb2, rowA_unit y hi] at this; grind
      · obtain ⟨k, hk, rfl⟩ := List.mem_iff_getElem.1 hs
        have := h k (by omega)
        rw [hdA, hs1 hk, hb1 hk, rowA_set hk, List.getD, List.getElem?_eq_getElem hk] at this
        simpa using this
    · intro h k hk
      rcases Nat.lt_or_ge k sets.length with h1 | h1
      · rw [hdA, hs1 h1, hb1 h1, rowA_set h1, Rat.one_mul]
        exact h.le _ (getD_in h1)
      · obtain ⟨t, rfl⟩ : ∃ t, k = sets.length + t := ⟨k - sets.length, by omega⟩
        rw [hdA, hs2, hb2, rowA_unit y (by omega)]
        have := h.nn t (by omega); grind
  obtain ⟨v, v1, v2, v3⟩ := vert (n := n) (m := sets.length + n) A b (fun _ => 1) (fun d hne hw => by
    refine Classical.byContradiction fun hno => ?_
    have hle : ∀ k, k < sets.length + n → dot (A k) d n ≤ 0 := fun k hk => by
      rcases Rat.le_total (a := dot (A k) d n) (b := 0) with h | h
      · exact h
      · by_cases h0 : dot (A k) d n = 0
        · rw [h0]; decide
        · exact absurd ⟨k, hk, by grind⟩ hno
    have hd0 : ∀ i, i < n → 0 ≤ d i := fun i hi => by
      have := hle (sets.length + i) (by omega)
      rw [hdA, hs2, rowA_unit d hi] at this; grind
    obtain ⟨i, hi, h0⟩ := hne
    obtain ⟨s, hs, hbit⟩ := hc i hi
    obtain ⟨k, hk, rfl⟩ := List.mem_iff_getElem.1 hs
    have h1 := hle k (by omega)
    rw [hdA, hs1 hk, rowA_set hk, List.getD, List.getElem?_eq_getElem hk, Option.getD_some, Rat.one_mul] at h1
    have h2 := sumTo_one (g := fun i => bitQ sets[k] i * d i) hi fun j hj => Rat.mul_nonneg (bitQ_nn _ _) (hd0 j hj)
    have h3 : bitQ sets[k] i = 1 := by rw [bitQ, if_pos hbit]
    simp only [h3, Rat.one_mul] at h2
    have h4 := hd0 i hi
    rw [dot] at h1
    grind) _ x (Nat.le_refl _) ((feas x).2 hx)
  have hvf := (feas v).1 v1
  have h0σ : ∀ k, σ k ≠ 0 := fun k => by rw [hσ]; simp only; split <;> decide
  obtain ⟨B, b1, b2, b3⟩ := pick_rows (A := rowA sets) (n := n) (L := (List.range (sets.length + n)).filter fun k => decide (dot (A k) v n = b k)) fun d hd => v3 d fun k hk ht => by
    rw [hdA, hd k (List.mem_filter.2 ⟨List.mem_range.2 hk, by simpa using ht⟩), Rat.mul_zero]
  have hsum : ∀ y : Nat → Rat, dot (fun _ => 1) y n = sumTo y n := fun y => by rw [dot]; exact sumTo_congr fun i _ => Rat.one_mul _
  rw [hsum, hsum] at v2
  refine ⟨B, v, ⟨b2, b1.trans (List.filter_sublist), b3, fun r hr => ?_, hvf⟩, v2⟩
  have hm : B.getD r 0 ∈ B := getD_in (by omega)
  obtain ⟨hm1, hm2⟩ := List.mem_filter.1 (b1.subset hm)
  rw [decide_eq_true_eq, hdA] at hm2
  rw [List.mem_range] at hm1
  have h4 : sumTo (fun c => v c * Wl (rowA sets) B r c) n = dot (rowA sets (B.getD r 0)) v n := sumTo_congr fun c _ => Rat.mul_comm _ _
  rw [h4, ← hb]
  rcases Nat.lt_or_ge (B.getD r 0) sets.length with h1 | h1
  · rw [hs1 h1] at hm2; grind
  · obtain ⟨t, ht⟩ : ∃ t, B.getD r 0 = sets.length + t := ⟨B.getD r 0 - sets.length, by omega⟩
    rw [ht] at hm2 ⊢
    rw [hs2, hb2] at hm2
    rw [hb2]; grind
structure IsOpt (n : Nat) (sets : List Nat) (q : Rat) : Prop where
  at_ : ∃ x, PFeas n sets x ∧ sumTo x n = q
  le : ∀ x, PFeas n sets x → sumTo x n ≤ q
theorem isOpt_of {n : Nat} {sets : List Nat} {q : Rat} (hc : ∀ i, i < n → ∃ s ∈ sets, s.testBit i = true) (h1 : ∃ x, PFeas n sets x ∧ sumTo x n = q) (h2 : ∀ B x, Corner n sets B x → sumTo x n ≤ q) : IsOpt n sets q :=
  ⟨h1, fun x hx => by
    obtain ⟨B, v, hv, hl⟩ := corner_ex hc hx
    exact Rat.le_trans hl (h2 B v hv)⟩
theorem IsOpt.inj {n : Nat} {sets : List Nat} {p q : Rat} (h1 : IsOpt n sets p) (h2 : IsOpt n sets q) : p = q := by
  obtain ⟨x, hx, e1⟩ := h1.at_
  obtain ⟨y, hy, e2⟩ := h2.at_
  have := h1.le y hy
  have := h2.le x hx
  grind

/-! ### The program's determinant -/
def pdet : Nat → List (List Int) → Int
  | 0, _ => 1
  | n + 1, s => isum (fun i => (if (i + n) % 2 = 0 then 1 else -1) * (s.getD i []).getD n 0 * pdet n (s.eraseIdx i)) s.length
where
  isum (f : Nat → Int) : Nat → Int
    | 0 => 0
    | n + 1 => isum f n + f n
def tau : Nat → Rat
  | 0 => 1
  | n + 1 => sgn n * tau n
theorem tau_sq (n : Nat) : tau n * tau n = 1 := by
  induction n with
  | zero => rw [tau, Rat.mul_one]
  | succ n ih =>
    rw [tau]
    have := sgn_sq n
    have e : sgn n * tau n * (sgn n * tau n) = (sgn n * sgn n) * (tau n * tau n) := by grind
    rw [e, this, ih, Rat.mul_one]
theorem sgn_even : ∀ k, ((if k % 2 = 0 then (1 : Int) else -1 : Int) : Rat) = sgn k
  | 0 => rfl
  | 1 => by rw [sgn, sgn]; rfl
  | k + 2 => by
    rw [sgn, sgn, ← sgn_even k, show (k + 2) % 2 = k % 2 by omega]
    split <;> decide
theorem getD_erase {α : Type} (l : List α) (d : α) (i r : Nat) : (l.eraseIdx i).getD r d = l.getD (skp i r) d := by
  rw [List.getD, List.getD, List.getElem?_eraseIdx, skp]
  split <;> rfl
theorem isum_cast (f : Nat → Int) (n : Nat) : ((pdet.isum f n : Int) : Rat) = sumTo (fun i => (f i : Rat)) n := by
  induction n with
  | zero => rfl
  | succ n ih => rw [pdet.isum, sumTo, Rat.intCast_add, ih]
def colsOf (n : Nat) (s : List (List Int)) : Nat → Nat → Rat := fun c r => (((s.getD r []).getD (n - 1 - c) 0 : Int) : Rat)
theorem pdet_det : ∀ (n : Nat) (s : List (List Int)), s.length = n → ((pdet n s : Int) : Rat) = tau n * det n (colsOf n s)
  | 0, s, h => by rw [pdet, tau, det, Rat.mul_one]; rfl
  | n + 1, s, h => by
    rw [pdet, isum_cast, h, tau, det, ← sumTo_mul]
    refine sumTo_congr fun i hi => ?_
    have h1 := pdet_det n (s.eraseIdx i) (by rw [List.length_eraseIdx, if_pos (by omega), h]; rfl)
    have h2 : det n (colsOf n (s.eraseIdx i)) = det n (fun c r => colsOf (n + 1) s (c + 1) (skp i r)) := Xn _ fun c r hc hr => by
      rw [colsOf, colsOf, getD_erase, show n + 1 - 1 - (c + 1) = n - 1 - c by omega]
    rw [Rat.intCast_mul, Rat.intCast_mul, h1, h2, sgn_even, sgn_add]
    have h3 : colsOf (n + 1) s 0 i = (((s.getD i []).getD n 0 : Int) : Rat) := rfl
    rw [h3]; grind
def putR (n j : Nat) (r : List Int) : List Int := r.set j (r.getD n 0)
theorem pdet_cram {n : Nat} {s : List (List Int)} (hl : s.length = n) (hr : ∀ r ∈ s, r.length = n + 1) {x : Nat → Rat} (hx : ∀ r, r < n → sumTo (fun c => x c * (((s.getD r []).getD c 0 : Int) : Rat)) n = (((s.getD r []).getD n 0 : Int) : Rat)) {j : Nat} (hj : j < n) :
    ((pdet n (s.map (putR n j)) : Int) : Rat) = x j * ((pdet n s : Int) : Rat) := by
  have hrev : ∀ g : Nat → Rat, sumTo (fun c => g (n - 1 - c)) n = sumTo g n := by
    intro g
    have key : ∀ m, m ≤ n → sumTo (fun c => g (n - 1 - c)) m + sumTo g (n - m) = sumTo g n := by
      intro m
      induction m with
      | zero => intro _; rw [sumTo, Rat.zero_add]; rfl
      | succ m ih =>
        intro hm
        rw [← ih (by omega), sumTo, show n - m = (n - (m + 1)) + 1 by omega, sumTo, show n - 1 - m = n - (m + 1) by omega]
        grind
    have := key n (Nat.le_refl n)
    rw [Nat.sub_self, sumTo, Rat.add_zero] at this
    exact this
  have h1 := cramer (n := n) (j := n - 1 - j) (M := colsOf n s) (b := fun r => (((s.getD r []).getD n 0 : Int) : Rat)) (x := fun c => x (n - 1 - c)) (by omega) fun r hr' => by
    have h2 : sumTo (fun c => x (n - 1 - c) * colsOf n s c r) n = sumTo (fun c => x c * (((s.getD r []).getD c 0 : Int) : Rat)) n := hrev fun c => x c * (((s.getD r []).getD c 0 : Int) : Rat)
    rw [h2]; exact hx r hr'
  rw [show n - 1 - (n - 1 - j) = j by omega] at h1
  rw [pdet_det n _ (by rw [List.length_map, hl]), pdet_det n s hl]
  have h3 : det n (colsOf n (s.map (putR n j))) = det n (putC (colsOf n s) (n - 1 - j) fun r => (((s.getD r []).getD n 0 : Int) : Rat)) := Xn _ fun c r hc hr' => by
    have hrs : r < s.length := by omega
    have hrl := hr _ (List.getElem_mem hrs)
    have e1 : (s.map (putR n j)).getD r [] = putR n j (s.getD r []) := by
      rw [List.getD, List.getElem?_map, List.getD, List.getElem?_eq_getElem hrs]; rfl
    have e2 : s.getD r [] = s[r] := by rw [List.getD, List.getElem?_eq_getElem hrs]; rfl
    rw [colsOf, e1, putC]
    by_cases h : c = n - 1 - j
    · rw [if_pos h, putR, h, show n - 1 - (n - 1 - j) = j by omega, List.getD, List.getElem?_set_self (by rw [e2]; omega)]; rfl
    · rw [if_neg h, putR, List.getD, List.getElem?_set_ne (by omega)]; rfl
  rw [h3, h1]; grind
def fact : Nat → Nat
  | 0 => 1
  | n + 1 => (n + 1) * fact n
theorem isum_abs {f : Nat → Int} {B : Nat} : ∀ {n : Nat}, (∀ i, i < n → (f i).natAbs ≤ B) → (pdet.isum f n).natAbs ≤ n * B
  | 0, _ => by simp [pdet.isum]
  | n + 1, h => by
    have h1 := isum_abs (n := n) fun i hi => h i (by omega)
    have h2 := h n (by omega)
    have h3 := Int.natAbs_add_le (pdet.isum f n) (f n)
    rw [pdet.isum, Nat.succ_mul]; omega
theorem pdet_abs : ∀ (n : Nat) (s : List (List Int)), s.length = n → (∀ r ∈ s, ∀ y ∈ r, y = 0 ∨ y = 1) → (pdet n s).natAbs ≤ fact n
  | 0, s, _, _ => by rw [pdet, fact]; decide
  | n + 1, s, h, h01 => by
    rw [pdet, h, fact]
    refine isum_abs fun i hi => ?_
    have h1 := pdet_abs n (s.eraseIdx i) (by rw [List.length_eraseIdx, if_pos (by omega), h]; rfl) fun r hr => h01 r (List.mem_of_mem_eraseIdx hr)
    have hy : (s.getD i []).getD n 0 = 0 ∨ (s.getD i []).getD n 0 = 1 := by
      have e2 : s.getD i [] = s[i]'(by omega) := by rw [List.getD, List.getElem?_eq_getElem]; rfl
      rw [e2]
      rcases Nat.lt_or_ge n (s[i]'(by omega)).length with h2 | h2
      · rw [List.getD, List.getElem?_eq_getElem h2]; exact h01 _ (List.getElem_mem _) _ (List.getElem_mem _)
      · left; rw [List.getD, List.getElem?_eq_none h2]; rfl
    rw [Int.natAbs_mul, Int.natAbs_mul]
    have h3 : (if (i + n) % 2 = 0 then (1 : Int) else -1).natAbs = 1 := by split <;> rfl
    rw [h3, Nat.one_mul]
    rcases hy with h4 | h4 <;> rw [h4]
    · simp
    · simpa using h1
end Bq

namespace Go.Proofs.Tryd.Am
open Go.Am
set_option maxRecDepth 100000
set_option maxHeartbeats 4000000

def RowsI (h : Yd) (v : Value) (rows : List (List Int)) : Prop := ∃ ws, ValSl h v ws ∧ Each (IntSl h) ws rows
theorem RowsI.ext {h h' : Yd} {v : Value} {rows : List (List Int)} (hr : RowsI h v rows) (hE : Ext (fun _ => False) h h') : RowsI h' v rows := by
  obtain ⟨ws, h1, h2⟩ := hr
  exact ⟨ws, h1.ext hE, h2.imp fun w l hw => hw.same fun b hb => hE.2 b (hw.lt hb) id⟩
theorem intSl_notI {h : Yd} {v : Value} {xs : List Int} (hv : IntSl h v xs) : notI v = true ∧ one v = true := by
  rcases hv with ⟨rfl, rfl⟩ | ⟨b, o, sp, cap, c, e, ro, rfl, _⟩ <;> exact ⟨rfl, rfl⟩
theorem Each.take' {R : Value → List Int → Prop} : ∀ {us : List Value} {bs : List (List Int)} (i : Nat), Each R us bs → Each R (us.take i) (bs.take i)
  | [], [], i, _ => by simp; trivial
  | _ :: _, _ :: _, 0, _ => trivial
  | _ :: _, _ :: _, i + 1, h => ⟨h.1, Each.take' i h.2⟩
  | [], _ :: _, _, h => h.elim
  | _ :: _, [], _, h => h.elim
theorem Each.drop' {R : Value → List Int → Prop} : ∀ {us : List Value} {bs : List (List Int)} (i : Nat), Each R us bs → Each R (us.drop i) (bs.drop i)
  | [], [], i, _ => by simp; trivial
  | _ :: _, _ :: _, 0, h => h
  | _ :: _, _ :: _, i + 1, h => Each.drop' i h.2
  | [], _ :: _, _, h => h.elim
  | _ :: _, [], _, h => h.elim
theorem ext_own {h h1 h2 : Yd} {v1 : Value} (hE1 : Ext (fun _ => False) h h1) (hb : ∀ b, Yq v1 = some b → h.length ≤ b) (hE2 : Ext (fun i => Yq v1 = some i) h1 h2) : Ext (fun _ => False) h h2 :=
  ⟨Nat.le_trans hE1.1 hE2.1, fun i hi _ => (hE2.2 i (Nat.lt_of_lt_of_le hi hE1.1) fun hc => by have := hb _ hc; omega).trans (hE1.2 i hi id)⟩
theorem tmod2 (k : Nat) : Int.tmod (k : Int) 2 = ((k % 2 : Nat) : Int) := rfl
theorem fact_le : ∀ {n : Nat}, n ≤ 6 → Bq.fact n ≤ 720
  | 0, _ => by decide
  | 1, _ => by decide
  | 2, _ => by decide
  | 3, _ => by decide
  | 4, _ => by decide
  | 5, _ => by decide
  | 6, _ => by decide
  | n + 7, h => by omega
def detF (n : Nat) (s : List (List Int)) (i : Nat) : Int := (if (i + n) % 2 = 0 then 1 else -1) * (s.getD i []).getD n 0 * Bq.pdet n (s.eraseIdx i)

theorem s99_callW [Tabs Tryd.prog] {args : List Value} {h : Yd} {Q : Value → Yd → Prop} (hsz : args.length ≤ 57) (hk : AWS Tryd.prog 57 s99 (Zv Tryd.prog [.tmp 4] Q) (Zp 0 args) h) : ACall Tryd.prog 99 args h Q :=
  Xq Tryd.func99 rfl (enters_of Tryd.func99 (by kernel_rfl) rfl) rfl rfl (by decide) s99_strip s99_ok hsz hk
theorem det_call [Tabs prog] : ∀ (n : Nat) {h : Yd} {v : Value} {s : List (List Int)}, n ≤ 6 → s.length = n → (∀ r ∈ s, n ≤ r.length ∧ ∀ y ∈ r, y = 0 ∨ y = 1) → RowsI h v s → APure prog 99 [v, Zy n] h (Zy (Bq.pdet n s)) := by
  intro n
  induction n with
  | zero =>
    intro h v s h6 hl hr hv
    refine s99_call (by simp) ?_
    simp only [s99]
    simp (maxSteps := 2000000) only [s99, ↓Za, ↓Zk, ↓Zs, ↓Ze, ↓Zj, ↓Zt, ↓Zg, ↓Zm, ↓Zf, ↓Zc, ↓Zb, ↓vdn, vup, Zo, Zh, Zi, Zn, Zl, List.map_cons, List.map_nil, cond_true, cond_false, aop, Zw, Zr, Zp, ev, sput, Zu, Zz, Yb, unK, Zd, Zx, Nat.reduceBEq, Nat.reduceAdd, Int.reduceBEq, Int.reduceBNe, Int.reduceLT, Zv, Ya, tup, tyf, Int.natCast_zero]
    rfl
  | succ n ih =>
    intro h v s h6 hl hr hv
    refine ACall.forget (.int _ _) ?_
    have hrow : ∀ i, i < n + 1 → n < (s.getD i []).length ∧ ((s.getD i []).getD n 0 = 0 ∨ (s.getD i []).getD n 0 = 1) := fun i hi => by
      have e2 : s.getD i [] = s[i]'(by omega) := by rw [List.getD, List.getElem?_eq_getElem]; rfl
      obtain ⟨h1, h2⟩ := hr _ (List.getElem_mem (show i < s.length by omega))
      rw [e2]
      have h3 : n < (s[i]'(by omega)).length := by omega
      exact ⟨h3, by rw [List.getD, List.getElem?_eq_getElem h3]; exact h2 _ (List.getElem_mem _)⟩
    have her : ∀ i, i < n + 1 → (s.eraseIdx i).length = n ∧ ∀ r ∈ s.eraseIdx i, n ≤ r.length ∧ ∀ y ∈ r, y = 0 ∨ y = 1 := fun i hi =>
      ⟨by rw [List.length_eraseIdx, if_pos (by omega)]; omega, fun r h => by
        obtain ⟨h1, h2⟩ := hr r (List.mem_of_mem_eraseIdx h)
        exact ⟨by omega, h2⟩⟩
    have habs : ∀ i, i < n + 1 → (Bq.pdet n (s.eraseIdx i)).natAbs ≤ 720 := fun i hi =>
      Nat.le_trans (Bq.pdet_abs n _ (her i hi).1 fun r h => ((her i hi).2 r h).2) (fact_le (by omega))
    have hF : ∀ i, i < n + 1 → (detF n s i).natAbs ≤ 720 := fun i hi => by
      rw [detF, Int.natAbs_mul, Int.natAbs_mul]
      have h3 : (if (i + n) % 2 = 0 then (1 : Int) else -1).natAbs = 1 := by split <;> rfl
      have h4 := habs i hi
      rw [h3, Nat.one_mul]
      rcases (hrow i hi).2 with h5 | h5 <;> rw [h5]
      · simp
      · simpa using h4
    have hsumb : ∀ i, i ≤ n + 1 → (Bq.pdet.isum (detF n s) i).natAbs ≤ 7 * 720 := fun i hi =>
      Nat.le_trans (Bq.isum_abs (f := detF n s) (B := 720) fun j hj => hF j (by omega)) (Nat.mul_le_mul_right _ (by omega))
    have hpd : Bq.pdet (n + 1) s = Bq.pdet.isum (detF n s) (n + 1) := by rw [Bq.pdet, hl]; rfl
    have hn0 : (((n + 1 : Nat) : Int) == 0) = false := by rw [beq_eq_false_iff_ne]; omega
    have hsub : subV .i64 ((n + 1 : Nat) : Int) 1 = ((n : Nat) : Int) := by rw [subV_id (by omega) (by omega)]; omega
    obtain ⟨ws, w1, w2⟩ := hv
    have hwl : ws.length = n + 1 := w2.len.trans hl
    have hnot : ∀ w ∈ ws, notI w = true ∧ one w = true := fun w hw => by obtain ⟨l, hl⟩ := w2.mem w hw; exact intSl_notI hl
    refine s99_callW (by simp) ?_
    simp only [s99]
    refine Yc fun N1 hN1 => ?_
    simp (maxSteps := 2000000) only [s99, ↓Za, ↓Zk, ↓Zs, ↓Ze, ↓Zj, ↓Zt, ↓Zg, ↓Zm, ↓Zf, ↓Zc, ↓Zb, ↓vdn, vup, Zo, Zh, Zi, Zn, Zl, List.map_cons, List.map_nil, cond_true, cond_false, aop, Zw, Zr, Zp, ev, sput, Zu, Zz, Yb, unK, Zd, Zx, Nat.reduceBEq, Nat.reduceAdd, Int.reduceBEq, Int.reduceBNe, Int.reduceLT, Zv, Ya, tup, tyf]
    refine hN1 [(0, v), (1, Zy (n + 1 : Nat)), (4, .int .i64 0)] _ _ ?_ (by simp (maxSteps := 2000000) only [↓Za, ↓Zk, ↓Zs, ↓Ze, ↓Zj, ↓Zt, ↓Zg, ↓Zm, ↓Zf, ↓Zc, ↓Zb, ↓vdn, vup, Zo, Zh, Zi, Zn, Zl, List.map_cons, List.map_nil, cond_true, cond_false, aop, Zw, Zr, Zp, ev, sput, Zu, Zz, Yb, unK, Zd, Zx, Nat.reduceBEq, Nat.reduceAdd, Int.reduceBEq, Int.reduceBNe, Int.reduceLT, Zv, Ya, tup, tyf])
    clear hN1
    try clear N1
    refine Yf fun M hM => ?_
    refine Yc fun N2 hN2 => ?_
    simp (maxSteps := 2000000) only [s99, ↓Za, ↓Zk, ↓Zs, ↓Ze, ↓Zj, ↓Zt, ↓Zg, ↓Zm, ↓Zf, ↓Zc, ↓Zb, ↓vdn, vup, Zo, Zh, Zi, Zn, Zl, List.map_cons, List.map_nil, cond_true, cond_false, aop, Zw, Zr, Zp, ev, sput, Zu, Zz, Yb, unK, Zd, Zx, Nat.reduceBEq, Nat.reduceAdd, Int.reduceBEq, Int.reduceBNe, Int.reduceLT, Zv, Ya, tup, tyf, hn0]
    refine hN2 [(0, v), (1, Zy (n + 1 : Nat)), (4, .int .i64 0), (11, .bool false)] _ _ ?_ (by simp (maxSteps := 2000000) only [↓Za, ↓Zk, ↓Zs, ↓Ze, ↓Zj, ↓Zt, ↓Zg, ↓Zm, ↓Zf, ↓Zc, ↓Zb, ↓vdn, vup, Zo, Zh, Zi, Zn, Zl, List.map_cons, List.map_nil, cond_true, cond_false, aop, Zw, Zr, Zp, ev, sput, Zu, Zz, Yb, unK, Zd, Zx, Nat.reduceBEq, Nat.reduceAdd, Int.reduceBEq, Int.reduceBNe, Int.reduceLT, Zv, Ya, tup, tyf])
    clear hN2
    try clear N2
    refine Yy rfl ?_
    refine Ye ?_
    simp (maxSteps := 2000000) only [s99, ↓Za, ↓Zk, ↓Zs, ↓Ze, ↓Zj, ↓Zt, ↓Zg, ↓Zm, ↓Zf, ↓Zc, ↓Zb, ↓vdn, vup, Zo, Zh, Zi, Zn, Zl, List.map_cons, List.map_nil, cond_true, cond_false, aop, Zw, Zr, Zp, ev, sput, Zu, Zz, Yb, unK, Zd, Zx, Nat.reduceBEq, Nat.reduceAdd, Int.reduceBEq, Int.reduceBNe, Int.reduceLT, Zv, Ya, tup, tyf]
    refine hM [(0, v), (1, Zy (n + 1 : Nat)), (4, .int .i64 0)] _ _ ?_ (by simp (maxSteps := 2000000) only [↓Za, ↓Zk, ↓Zs, ↓Ze, ↓Zj, ↓Zt, ↓Zg, ↓Zm, ↓Zf, ↓Zc, ↓Zb, ↓vdn, vup, Zo, Zh, Zi, Zn, Zl, List.map_cons, List.map_nil, cond_true, cond_false, aop, Zw, Zr, Zp, ev, sput, Zu, Zz, Yb, unK, Zd, Zx, Nat.reduceBEq, Nat.reduceAdd, Int.reduceBEq, Int.reduceBNe, Int.reduceLT, Zv, Ya, tup, tyf])
    clear hM
    try clear M
    refine Yc fun N3 hN3 => ?_
    simp (maxSteps := 2000000) only [s99, ↓Za, ↓Zk, ↓Zs, ↓Ze, ↓Zj, ↓Zt, ↓Zg, ↓Zm, ↓Zf, ↓Zc, ↓Zb, ↓vdn, vup, Zo, Zh, Zi, Zn, Zl, List.map_cons, List.map_nil, cond_true, cond_false, aop, Zw, Zr, Zp, ev, sput, Zu, Zz, Yb, unK, Zd, Zx, Nat.reduceBEq, Nat.reduceAdd, Int.reduceBEq, Int.reduceBNe, Int.reduceLT, Zv, Ya, tup, tyf]
    refine hN3 [(0, v), (1, Zy (n + 1 : Nat)), (4, .int .i64 0), (5, .int .i64 0), (6, .int .i64 1)] _ _ ?_ (by simp (maxSteps := 2000000) only [↓Za, ↓Zk, ↓Zs, ↓Ze, ↓Zj, ↓Zt, ↓Zg, ↓Zm, ↓Zf, ↓Zc, ↓Zb, ↓vdn, vup, Zo, Zh, Zi, Zn, Zl, List.map_cons, List.map_nil, cond_true, cond_false, aop, Zw, Zr, Zp, ev, sput, Zu, Zz, Yb, unK, Zd, Zx, Nat.reduceBEq, Nat.reduceAdd, Int.reduceBEq, Int.reduceBNe, Int.reduceLT, Zv, Ya, tup, tyf])
    clear hN3
    try clear N3
    refine Yf fun Z hZ => ?_
    refine Yc fun N4 hN4 => ?_
    simp (maxSteps := 2000000) only [s99, ↓Za, ↓Zk, ↓Zs, ↓Ze, ↓Zj, ↓Zt, ↓Zg, ↓Zm, ↓Zf, ↓Zc, ↓Zb, ↓vdn, vup, Zo, Zh, Zi, Zn, Zl, List.map_cons, List.map_nil, cond_true, cond_false, aop, Zw, Zr, Zp, ev, sput, Zu, Zz, Yb, unK, Zd, Zx, Nat.reduceBEq, Nat.reduceAdd, Int.reduceBEq, Int.reduceBNe, Int.reduceLT, Zv, Ya, tup, tyf, w1.len, hwl]
    refine hN4 [(0, v), (1, Zy (n + 1 : Nat)), (4, .int .i64 0), (5, .int .i64 0), (6, .int .i64 1), (12, v), (13, Zy (n + 1 : Nat)), (14, .int .i64 0)] _ _ ?_ (by simp (maxSteps := 2000000) only [↓Za, ↓Zk, ↓Zs, ↓Ze, ↓Zj, ↓Zt, ↓Zg, ↓Zm, ↓Zf, ↓Zc, ↓Zb, ↓vdn, vup, Zo, Zh, Zi, Zn, Zl, List.map_cons, List.map_nil, cond_true, cond_false, aop, Zw, Zr, Zp, ev, sput, Zu, Zz, Yb, unK, Zd, Zx, Nat.reduceBEq, Nat.reduceAdd, Int.reduceBEq, Int.reduceBNe, Int.reduceLT, Zv, Ya, tup, tyf])
    clear hN4
    try clear N4
    refine Ym ?_
    refine Yg fun Q hQ => ?_
    refine Xu (γ := Nat × Int × Yd) (fun g => g.1 ≤ n + 1 ∧ Ext (fun _ => False) h g.2.2)
      (fun g => ([(0, v), (1, Zy (n + 1 : Nat)), (4, .int .i64 0), (5, Zy (Bq.pdet.isum (detF n s) g.1)), (6, Zy g.2.1), (12, v), (13, Zy (n + 1 : Nat)), (14, Zy (g.1 : Nat))], g.2.2)) (fun g => n + 1 - g.1) (0, 1, h) ⟨Nat.zero_le _, Ext.refl _ _⟩ (by simp (maxSteps := 2000000) only [↓Za, ↓Zk, ↓Zs, ↓Ze, ↓Zj, ↓Zt, ↓Zg, ↓Zm, ↓Zf, ↓Zc, ↓Zb, ↓vdn, vup, Zo, Zh, Zi, Zn, Zl, List.map_cons, List.map_nil, cond_true, cond_false, aop, Zw, Zr, Zp, ev, sput, Zu, Zz, Yb, unK, Zd, Zx, Nat.reduceBEq, Nat.reduceAdd, Int.reduceBEq, Int.reduceBNe, Int.reduceLT, Zv, Ya, tup, tyf, Int.natCast_zero, show Bq.pdet.isum (detF n s) 0 = 0 from rfl]) rfl ?_
    rintro ⟨i, sg, H⟩ ⟨hi, hE⟩
    simp only at hi hE
    refine Yg fun Q2 hQ2 => ?_
    simp only [l99_0]
    by_cases hin : (i : Int) < ((n + 1 : Nat) : Int)
    · have hi' : i < n + 1 := by omega
      have hiW : i < ws.length := by omega
      have hiS : i < s.length := by omega
      obtain ⟨w, hwd⟩ : ∃ w, w = ws.getD i undef := ⟨_, rfl⟩
      have hw : IntSl H w (s.getD i []) := by
        have := w2.get undef [] hiS
        rw [← hwd] at this
        exact this.same fun b hb => hE.2 b (this.lt hb) id
      obtain ⟨hrl, hr01⟩ := hrow i hi'
      have hsn : Bq.pdet.isum (detF n s) (i + 1) = Bq.pdet.isum (detF n s) i + detF n s i := rfl
      refine Yc fun N5 hN5 => ?_
      simp (maxSteps := 2000000) only [s99, ↓Za, ↓Zk, ↓Zs, ↓Ze, ↓Zj, ↓Zt, ↓Zg, ↓Zm, ↓Zf, ↓Zc, ↓Zb, ↓vdn, vup, Zo, Zh, Zi, Zn, Zl, List.map_cons, List.map_nil, cond_true, cond_false, aop, Zw, Zr, Zp, ev, sput, Zu, Zz, Yb, unK, Zd, Zx, Nat.reduceBEq, Nat.reduceAdd, Int.reduceBEq, Int.reduceBNe, Int.reduceLT, Zv, Ya, tup, tyf, hin]
      refine hN5 [(0, v), (1, Zy (n + 1 : Nat)), (4, .int .i64 0), (5, Zy (Bq.pdet.isum (detF n s) i)), (6, Zy sg), (12, v), (13, Zy (n + 1 : Nat)), (14, Zy (i : Nat)), (15, .bool true)] _ _ ?_ (by simp (maxSteps := 2000000) only [↓Za, ↓Zk, ↓Zs, ↓Ze, ↓Zj, ↓Zt, ↓Zg, ↓Zm, ↓Zf, ↓Zc, ↓Zb, ↓vdn, vup, Zo, Zh, Zi, Zn, Zl, List.map_cons, List.map_nil, cond_true, cond_false, aop, Zw, Zr, Zp, ev, sput, Zu, Zz, Yb, unK, Zd, Zx, Nat.reduceBEq, Nat.reduceAdd, Int.reduceBEq, Int.reduceBNe, Int.reduceLT, Zv, Ya, tup, tyf])
      clear hN5
      try clear N5
      refine Yc fun N6 hN6 => ?_
      simp (maxSteps := 2000000) only [s99, ↓Za, ↓Zk, ↓Zs, ↓Ze, ↓Zj, ↓Zt, ↓Zg, ↓Zm, ↓Zf, ↓Zc, ↓Zb, ↓vdn, vup, Zo, Zh, Zi, Zn, Zl, List.map_cons, List.map_nil, cond_true, cond_false, aop, Zw, Zr, Zp, ev, sput, Zu, Zz, Yb, unK, Zd, Zx, Nat.reduceBEq, Nat.reduceAdd, Int.reduceBEq, Int.reduceBNe, Int.reduceLT, Zv, Ya, tup, tyf]
      refine hN6 [(0, v), (1, Zy (n + 1 : Nat)), (4, .int .i64 0), (5, Zy (Bq.pdet.isum (detF n s) i)), (6, Zy sg), (12, v), (13, Zy (n + 1 : Nat)), (14, Zy (i : Nat))] _ _ ?_ (by simp (maxSteps := 2000000) only [↓Za, ↓Zk, ↓Zs, ↓Ze, ↓Zj, ↓Zt, ↓Zg, ↓Zm, ↓Zf, ↓Zc, ↓Zb, ↓vdn, vup, Zo, Zh, Zi, Zn, Zl, List.map_cons, List.map_nil, cond_true, cond_false, aop, Zw, Zr, Zp, ev, sput, Zu, Zz, Yb, unK, Zd, Zx, Nat.reduceBEq, Nat.reduceAdd, Int.reduceBEq, Int.reduceBNe, Int.reduceLT, Zv, Ya, tup, tyf])
      clear hN6
      try clear N6
      refine Yf fun B hB => ?_
      refine Ym ?_
      refine Yc fun N7 hN7 => ?_
      simp (maxSteps := 2000000) only [s99, ↓Za, ↓Zk, ↓Zs, ↓Ze, ↓Zj, ↓Zt, ↓Zg, ↓Zm, ↓Zf, ↓Zc, ↓Zb, ↓vdn, vup, Zo, Zh, Zi, Zn, Zl, List.map_cons, List.map_nil, cond_true, cond_false, aop, Zw, Zr, Zp, ev, sput, Zu, Zz, Yb, unK, Zd, Zx, Nat.reduceBEq, Nat.reduceAdd, Int.reduceBEq, Int.reduceBNe, Int.reduceLT, Zv, Ya, tup, tyf, w1.idx el_84 esz_22 hiW, (w1.ext hE).load shp_22 hiW, ← hwd]
      refine hN7 [(0, v), (1, Zy (n + 1 : Nat)), (4, .int .i64 0), (5, Zy (Bq.pdet.isum (detF n s) i)), (6, Zy sg), (7, Zy (i : Nat)), (8, w), (12, v), (13, Zy (n + 1 : Nat)), (14, Zy (i : Nat))] _ _ ?_ (by simp (maxSteps := 2000000) only [↓Za, ↓Zk, ↓Zs, ↓Ze, ↓Zj, ↓Zt, ↓Zg, ↓Zm, ↓Zf, ↓Zc, ↓Zb, ↓vdn, vup, Zo, Zh, Zi, Zn, Zl, List.map_cons, List.map_nil, cond_true, cond_false, aop, Zw, Zr, Zp, ev, sput, Zu, Zz, Yb, unK, Zd, Zx, Nat.reduceBEq, Nat.reduceAdd, Int.reduceBEq, Int.reduceBNe, Int.reduceLT, Zv, Ya, tup, tyf])
      clear hN7
      try clear N7
      refine Yc fun N8 hN8 => ?_
      simp (maxSteps := 2000000) only [s99, ↓Za, ↓Zk, ↓Zs, ↓Ze, ↓Zj, ↓Zt, ↓Zg, ↓Zm, ↓Zf, ↓Zc, ↓Zb, ↓vdn, vup, Zo, Zh, Zi, Zn, Zl, List.map_cons, List.map_nil, cond_true, cond_false, aop, Zw, Zr, Zp, ev, sput, Zu, Zz, Yb, unK, Zd, Zx, Nat.reduceBEq, Nat.reduceAdd, Int.reduceBEq, Int.reduceBNe, Int.reduceLT, Zv, Ya, tup, tyf, hsub, hw.idx We Xk hrl, hw.load Xj hrl]
      refine hN8 [(0, v), (1, Zy (n + 1 : Nat)), (4, .int .i64 0), (5, Zy (Bq.pdet.isum (detF n s) i)), (6, Zy sg), (7, Zy (i : Nat)), (8, w), (12, v), (13, Zy (n + 1 : Nat)), (14, Zy (i : Nat)), (24, .bool ((s.getD i []).getD n 0 != 0))] _ _ ?_ (by simp (maxSteps := 2000000) only [↓Za, ↓Zk, ↓Zs, ↓Ze, ↓Zj, ↓Zt, ↓Zg, ↓Zm, ↓Zf, ↓Zc, ↓Zb, ↓vdn, vup, Zo, Zh, Zi, Zn, Zl, List.map_cons, List.map_nil, cond_true, cond_false, aop, Zw, Zr, Zp, ev, sput, Zu, Zz, Yb, unK, Zd, Zx, Nat.reduceBEq, Nat.reduceAdd, Int.reduceBEq, Int.reduceBNe, Int.reduceLT, Zv, Ya, tup, tyf])
      clear hN8
      try clear N8
      rcases hr01 with h01 | h01
      · have hz : detF n s i = 0 := by rw [detF, h01, Int.mul_zero, Int.zero_mul]
        rw [hz, Int.add_zero] at hsn
        refine Yy (by rw [h01]; rfl) ?_
        refine Ye ?_
        simp (maxSteps := 2000000) only [s99, ↓Za, ↓Zk, ↓Zs, ↓Ze, ↓Zj, ↓Zt, ↓Zg, ↓Zm, ↓Zf, ↓Zc, ↓Zb, ↓vdn, vup, Zo, Zh, Zi, Zn, Zl, List.map_cons, List.map_nil, cond_true, cond_false, aop, Zw, Zr, Zp, ev, sput, Zu, Zz, Yb, unK, Zd, Zx, Nat.reduceBEq, Nat.reduceAdd, Int.reduceBEq, Int.reduceBNe, Int.reduceLT, Zv, Ya, tup, tyf]
        refine hB [(0, v), (1, Zy (n + 1 : Nat)), (4, .int .i64 0), (5, Zy (Bq.pdet.isum (detF n s) i)), (6, Zy sg), (12, v), (13, Zy (n + 1 : Nat)), (14, Zy (i : Nat))] _ _ ?_ (by simp (maxSteps := 2000000) only [↓Za, ↓Zk, ↓Zs, ↓Ze, ↓Zj, ↓Zt, ↓Zg, ↓Zm, ↓Zf, ↓Zc, ↓Zb, ↓vdn, vup, Zo, Zh, Zi, Zn, Zl, List.map_cons, List.map_nil, cond_true, cond_false, aop, Zw, Zr, Zp, ev, sput, Zu, Zz, Yb, unK, Zd, Zx, Nat.reduceBEq, Nat.reduceAdd, Int.reduceBEq, Int.reduceBNe, Int.reduceLT, Zv, Ya, tup, tyf])
        clear hB
        try clear B
        refine Ye ?_
        simp (maxSteps := 2000000) only [s99, ↓Za, ↓Zk, ↓Zs, ↓Ze, ↓Zj, ↓Zt, ↓Zg, ↓Zm, ↓Zf, ↓Zc, ↓Zb, ↓vdn, vup, Zo, Zh, Zi, Zn, Zl, List.map_cons, List.map_nil, cond_true, cond_false, aop, Zw, Zr, Zp, ev, sput, Zu, Zz, Yb, unK, Zd, Zx, Nat.reduceBEq, Nat.reduceAdd, Int.reduceBEq, Int.reduceBNe, Int.reduceLT, Zv, Ya, tup, tyf, add1 (show i < 9223372036854775807 by omega)]
        exact hQ2 _ _ _ ⟨(i + 1, sg, H), ⟨hi', hE⟩, by simp only; omega, by simp (maxSteps := 2000000) only [↓Za, ↓Zk, ↓Zs, ↓Ze, ↓Zj, ↓Zt, ↓Zg, ↓Zm, ↓Zf, ↓Zc, ↓Zb, ↓vdn, vup, Zo, Zh, Zi, Zn, Zl, List.map_cons, List.map_nil, cond_true, cond_false, aop, Zw, Zr, Zp, ev, sput, Zu, Zz, Yb, unK, Zd, Zx, Nat.reduceBEq, Nat.reduceAdd, Int.reduceBEq, Int.reduceBNe, Int.reduceLT, Zv, Ya, tup, tyf, hsn], rfl⟩
      · have hf : detF n s i = (if (i + n) % 2 = 0 then 1 else -1) * Bq.pdet n (s.eraseIdx i) := by rw [detF, h01, Int.mul_one]
        refine Xm (by rw [h01]; rfl) ?_
        refine Yc fun N9 hN9 => ?_
        simp (maxSteps := 2000000) only [s99, ↓Za, ↓Zk, ↓Zs, ↓Ze, ↓Zj, ↓Zt, ↓Zg, ↓Zm, ↓Zf, ↓Zc, ↓Zb, ↓vdn, vup, Zo, Zh, Zi, Zn, Zl, List.map_cons, List.map_nil, cond_true, cond_false, aop, Zw, Zr, Zp, ev, sput, Zu, Zz, Yb, unK, Zd, Zx, Nat.reduceBEq, Nat.reduceAdd, Int.reduceBEq, Int.reduceBNe, Int.reduceLT, Zv, Ya, tup, tyf]
        refine hN9 [(0, v), (1, Zy (n + 1 : Nat)), (4, .int .i64 0), (5, Zy (Bq.pdet.isum (detF n s) i)), (6, Zy sg), (7, Zy (i : Nat)), (8, w), (9, .slice none 0 0), (12, v), (13, Zy (n + 1 : Nat)), (14, Zy (i : Nat)), (24, .bool ((s.getD i []).getD n 0 != 0))] _ _ ?_ (by simp (maxSteps := 2000000) only [↓Za, ↓Zk, ↓Zs, ↓Ze, ↓Zj, ↓Zt, ↓Zg, ↓Zm, ↓Zf, ↓Zc, ↓Zb, ↓vdn, vup, Zo, Zh, Zi, Zn, Zl, List.map_cons, List.map_nil, cond_true, cond_false, aop, Zw, Zr, Zp, ev, sput, Zu, Zz, Yb, unK, Zd, Zx, Nat.reduceBEq, Nat.reduceAdd, Int.reduceBEq, Int.reduceBNe, Int.reduceLT, Zv, Ya, tup, tyf])
        clear hN9
        try clear N9
        refine Yc fun N10 hN10 => ?_
        refine Wn [] (by kernel_rfl) (by kernel_rfl) (by kernel_rfl) (by kernel_rfl) ?_
        simp (maxSteps := 2000000) only [s99, ↓Za, ↓Zk, ↓Zs, ↓Ze, ↓Zj, ↓Zt, ↓Zg, ↓Zm, ↓Zf, ↓Zc, ↓Zb, ↓vdn, vup, Zo, Zh, Zi, Zn, Zl, List.map_cons, List.map_nil, cond_true, cond_false, aop, Zw, Zr, Zp, ev, sput, Zu, Zz, Yb, unK, Zd, Zx, Nat.reduceBEq, Nat.reduceAdd, Int.reduceBEq, Int.reduceBNe, Int.reduceLT, Zv, Ya, tup, tyf, Option.map_some, Option.map_none]
        refine (w1.ext hE).pre el_84 esz_22 (Nat.le_of_lt hiW) fun u1 hu1 _ => ?_
        refine OwnV.app (ws := []) (.inl ⟨rfl, rfl⟩) app_84_84 hu1 (fun w hw => hnot w (List.take_subset _ _ (by simpa using hw))) (by simp; omega) fun v1 h1 ho1 hE1 hb1 => ?_
        have hE1' : Ext (fun _ => False) H h1 := hE1.mono fun _ h => by cases h
        have hb1' : ∀ b, Yq v1 = some b → H.length ≤ b := fun b hb => by
          rcases hb1 with h2 | ⟨b', h2, h3⟩
          · rw [hb] at h2; cases h2
          · rw [hb] at h2; cases h2; exact h3
        simp (maxSteps := 2000000) only [s99, ↓Za, ↓Zk, ↓Zs, ↓Ze, ↓Zj, ↓Zt, ↓Zg, ↓Zm, ↓Zf, ↓Zc, ↓Zb, ↓vdn, vup, Zo, Zh, Zi, Zn, Zl, List.map_cons, List.map_nil, cond_true, cond_false, aop, Zw, Zr, Zp, ev, sput, Zu, Zz, Yb, unK, Zd, Zx, Nat.reduceBEq, Nat.reduceAdd, Int.reduceBEq, Int.reduceBNe, Int.reduceLT, Zv, Ya, tup, tyf, add1 (show i < 9223372036854775807 by omega), Option.map_some, Option.map_none]
        refine ((w1.ext hE).ext hE1').suf el_84 esz_22 hiW fun u2 hu2 hub2 => ?_
        refine ho1.appS app_84_84 hu2 (fun w hw => by
          rw [List.nil_append] at hw
          rcases List.mem_append.1 hw with hw | hw
          · exact hnot w (List.take_subset _ _ hw)
          · exact hnot w (List.drop_subset _ _ hw)) (by rw [List.nil_append, List.length_take, List.length_drop]; omega) fun v2 h2 ho2 hE2 hb2 => ?_
        rw [List.nil_append, ← List.eraseIdx_eq_take_drop_succ] at ho2
        have hE2' : Ext (fun _ => False) H h2 := ext_own hE1' hb1' hE2
        have hEn : Ext (fun _ => False) h h2 := hE.trans hE2'
        refine hN10 [(0, v), (1, Zy (n + 1 : Nat)), (4, .int .i64 0), (5, Zy (Bq.pdet.isum (detF n s) i)), (6, Zy sg), (7, Zy (i : Nat)), (8, w), (9, v2), (12, v), (13, Zy (n + 1 : Nat)), (14, Zy (i : Nat)), (24, .bool ((s.getD i []).getD n 0 != 0))] _ _ ?_ (by simp (maxSteps := 2000000) only [↓Za, ↓Zk, ↓Zs, ↓Ze, ↓Zj, ↓Zt, ↓Zg, ↓Zm, ↓Zf, ↓Zc, ↓Zb, ↓vdn, vup, Zo, Zh, Zi, Zn, Zl, List.map_cons, List.map_nil, cond_true, cond_false, aop, Zw, Zr, Zp, ev, sput, Zu, Zz, Yb, unK, Zd, Zx, Nat.reduceBEq, Nat.reduceAdd, Int.reduceBEq, Int.reduceBNe, Int.reduceLT, Zv, Ya, tup, tyf])
        clear hN10
        try clear N10
        have hrest : RowsI h2 v2 (s.eraseIdx i) := ⟨_, ho2.val, by
          rw [List.eraseIdx_eq_take_drop_succ, List.eraseIdx_eq_take_drop_succ]
          exact ((Each.take' i w2).app (Each.drop' (i + 1) w2)).imp fun w l hw => hw.same fun b hb => hEn.2 b (hw.lt hb) id⟩
        have hw2 : IntSl h2 w (s.getD i []) := hw.same fun b hb => hE2'.2 b (hw.lt hb) id
        obtain ⟨g, hg⟩ : ∃ g : Int, g = if (i + n) % 2 = 0 then 1 else -1 := ⟨_, rfl⟩
        rw [← hg] at hf
        have hcall := ih (h := h2) (v := v2) (s := s.eraseIdx i) (by omega) (her i hi').1 (her i hi').2 hrest
        have hadd1 : addV .i64 ((i : Nat) : Int) ((n + 1 : Nat) : Int) = ((i + n + 1 : Nat) : Int) := by rw [Vm (by omega) (by omega)]; omega
        have hsub2 : subV .i64 ((i + n + 1 : Nat) : Int) 1 = ((i + n : Nat) : Int) := by rw [subV_id (by omega) (by omega)]; omega
        have hpar : ((((i + n) % 2 : Nat) : Int) == 0) = decide ((i + n) % 2 = 0) := by
          rw [Bool.eq_iff_iff]; simp; omega
        have ha := habs i hi'
        have hs := hsumb i hi
        have hg1 : g = 1 ∨ g = -1 := by rw [hg]; split <;> simp
        have hm1 : mulV .i64 g 1 = g := by rcases hg1 with h | h <;> rw [h] <;> rfl
        have hm2 : mulV .i64 g (Bq.pdet n (s.eraseIdx i)) = g * Bq.pdet n (s.eraseIdx i) := by
          rcases hg1 with h | h <;> rw [h] <;> exact mulV_id (by omega) (by omega)
        have hm3 : addV .i64 (Bq.pdet.isum (detF n s) i) (g * Bq.pdet n (s.eraseIdx i)) = Bq.pdet.isum (detF n s) (i + 1) := by
          rw [hsn, hf]
          rcases hg1 with h | h <;> rw [h] <;> exact Vm (by omega) (by omega)
        refine Yf fun A hA => ?_
        refine Yc fun N11 hN11 => ?_
        simp (maxSteps := 2000000) only [s99, ↓Za, ↓Zk, ↓Zs, ↓Ze, ↓Zj, ↓Zt, ↓Zg, ↓Zm, ↓Zf, ↓Zc, ↓Zb, ↓vdn, vup, Zo, Zh, Zi, Zn, Zl, List.map_cons, List.map_nil, cond_true, cond_false, aop, Zw, Zr, Zp, ev, sput, Zu, Zz, Yb, unK, Zd, Zx, Nat.reduceBEq, Nat.reduceAdd, Int.reduceBEq, Int.reduceBNe, Int.reduceLT, Zv, Ya, tup, tyf, hadd1, hsub2, tmod2, hpar, show ((2 : Int) ≠ 0) = True from by simp]
        refine hN11 [(0, v), (1, Zy (n + 1 : Nat)), (4, .int .i64 0), (5, Zy (Bq.pdet.isum (detF n s) i)), (6, Zy sg), (7, Zy (i : Nat)), (8, w), (9, v2), (12, v), (13, Zy (n + 1 : Nat)), (14, Zy (i : Nat)), (24, .bool ((s.getD i []).getD n 0 != 0)), (40, .bool (decide ((i + n) % 2 = 0)))] _ _ ?_ (by simp (maxSteps := 2000000) only [↓Za, ↓Zk, ↓Zs, ↓Ze, ↓Zj, ↓Zt, ↓Zg, ↓Zm, ↓Zf, ↓Zc, ↓Zb, ↓vdn, vup, Zo, Zh, Zi, Zn, Zl, List.map_cons, List.map_nil, cond_true, cond_false, aop, Zw, Zr, Zp, ev, sput, Zu, Zz, Yb, unK, Zd, Zx, Nat.reduceBEq, Nat.reduceAdd, Int.reduceBEq, Int.reduceBNe, Int.reduceLT, Zv, Ya, tup, tyf])
        clear hN11
        try clear N11
        by_cases hp : (i + n) % 2 = 0
        · have hg2 : g = 1 := by rw [hg, if_pos hp]
          rw [decide_eq_true hp]
          refine Xm rfl ?_
          refine Ye ?_
          simp (maxSteps := 2000000) only [s99, ↓Za, ↓Zk, ↓Zs, ↓Ze, ↓Zj, ↓Zt, ↓Zg, ↓Zm, ↓Zf, ↓Zc, ↓Zb, ↓vdn, vup, Zo, Zh, Zi, Zn, Zl, List.map_cons, List.map_nil, cond_true, cond_false, aop, Zw, Zr, Zp, ev, sput, Zu, Zz, Yb, unK, Zd, Zx, Nat.reduceBEq, Nat.reduceAdd, Int.reduceBEq, Int.reduceBNe, Int.reduceLT, Zv, Ya, tup, tyf, show ((1 : Int)) = g from hg2.symm]
          refine hA [(0, v), (1, Zy (n + 1 : Nat)), (4, .int .i64 0), (5, Zy (Bq.pdet.isum (detF n s) i)), (6, Zy g), (7, Zy (i : Nat)), (8, w), (9, v2), (12, v), (13, Zy (n + 1 : Nat)), (14, Zy (i : Nat)), (24, .bool ((s.getD i []).getD n 0 != 0))] _ _ ?_ (by simp (maxSteps := 2000000) only [↓Za, ↓Zk, ↓Zs, ↓Ze, ↓Zj, ↓Zt, ↓Zg, ↓Zm, ↓Zf, ↓Zc, ↓Zb, ↓vdn, vup, Zo, Zh, Zi, Zn, Zl, List.map_cons, List.map_nil, cond_true, cond_false, aop, Zw, Zr, Zp, ev, sput, Zu, Zz, Yb, unK, Zd, Zx, Nat.reduceBEq, Nat.reduceAdd, Int.reduceBEq, Int.reduceBNe, Int.reduceLT, Zv, Ya, tup, tyf])
          clear hA
          try clear A
          refine Ye ?_
          simp only [q99_13]
          refine Wn [(11, 1)] (by kernel_rfl) (by kernel_rfl) (by kernel_rfl) (by kernel_rfl) ?_
          simp (maxSteps := 2000000) only [s99, ↓Za, ↓Zk, ↓Zs, ↓Ze, ↓Zj, ↓Zt, ↓Zg, ↓Zm, ↓Zf, ↓Zc, ↓Zb, ↓vdn, vup, Zo, Zh, Zi, Zn, Zl, List.map_cons, List.map_nil, cond_true, cond_false, aop, Zw, Zr, Zp, ev, sput, Zu, Zz, Yb, unK, Zd, Zx, Nat.reduceBEq, Nat.reduceAdd, Int.reduceBEq, Int.reduceBNe, Int.reduceLT, Zv, Ya, tup, tyf, hsub, hw2.idx We Xk hrl, hw2.load Xj hrl, h01, hm1, Yv, List.nil_append, List.append_nil, List.toList_toArray, List.cons_append]
          refine ⟨_, _, hcall, rfl, ?_⟩
          simp (maxSteps := 2000000) only [s99, ↓Za, ↓Zk, ↓Zs, ↓Ze, ↓Zj, ↓Zt, ↓Zg, ↓Zm, ↓Zf, ↓Zc, ↓Zb, ↓vdn, vup, Zo, Zh, Zi, Zn, Zl, List.map_cons, List.map_nil, cond_true, cond_false, aop, Zw, Zr, Zp, ev, sput, Zu, Zz, Yb, unK, Zd, Zx, Nat.reduceBEq, Nat.reduceAdd, Int.reduceBEq, Int.reduceBNe, Int.reduceLT, Zv, Ya, tup, tyf, hm2, hm3]
          refine hB [(0, v), (1, Zy (n + 1 : Nat)), (4, .int .i64 0), (5, Zy (Bq.pdet.isum (detF n s) (i + 1))), (6, Zy g), (12, v), (13, Zy (n + 1 : Nat)), (14, Zy (i : Nat))] _ _ ?_ (by simp (maxSteps := 2000000) only [↓Za, ↓Zk, ↓Zs, ↓Ze, ↓Zj, ↓Zt, ↓Zg, ↓Zm, ↓Zf, ↓Zc, ↓Zb, ↓vdn, vup, Zo, Zh, Zi, Zn, Zl, List.map_cons, List.map_nil, cond_true, cond_false, aop, Zw, Zr, Zp, ev, sput, Zu, Zz, Yb, unK, Zd, Zx, Nat.reduceBEq, Nat.reduceAdd, Int.reduceBEq, Int.reduceBNe, Int.reduceLT, Zv, Ya, tup, tyf])
          clear hB
          try clear B
          refine Ye ?_
          simp (maxSteps := 2000000) only [s99, ↓Za, ↓Zk, ↓Zs, ↓Ze, ↓Zj, ↓Zt, ↓Zg, ↓Zm, ↓Zf, ↓Zc, ↓Zb, ↓vdn, vup, Zo, Zh, Zi, Zn, Zl, List.map_cons, List.map_nil, cond_true, cond_false, aop, Zw, Zr, Zp, ev, sput, Zu, Zz, Yb, unK, Zd, Zx, Nat.reduceBEq, Nat.reduceAdd, Int.reduceBEq, Int.reduceBNe, Int.reduceLT, Zv, Ya, tup, tyf, add1 (show i < 9223372036854775807 by omega)]
          exact hQ2 _ _ _ ⟨(i + 1, g, h2), ⟨hi', hEn⟩, by simp only; omega, by simp (maxSteps := 2000000) only [↓Za, ↓Zk, ↓Zs, ↓Ze, ↓Zj, ↓Zt, ↓Zg, ↓Zm, ↓Zf, ↓Zc, ↓Zb, ↓vdn, vup, Zo, Zh, Zi, Zn, Zl, List.map_cons, List.map_nil, cond_true, cond_false, aop, Zw, Zr, Zp, ev, sput, Zu, Zz, Yb, unK, Zd, Zx, Nat.reduceBEq, Nat.reduceAdd, Int.reduceBEq, Int.reduceBNe, Int.reduceLT, Zv, Ya, tup, tyf], rfl⟩
        · have hg2 : g = -1 := by rw [hg, if_neg hp]
          rw [decide_eq_false hp]
          refine Yy rfl ?_
          refine Ye ?_
          simp (maxSteps := 2000000) only [s99, ↓Za, ↓Zk, ↓Zs, ↓Ze, ↓Zj, ↓Zt, ↓Zg, ↓Zm, ↓Zf, ↓Zc, ↓Zb, ↓vdn, vup, Zo, Zh, Zi, Zn, Zl, List.map_cons, List.map_nil, cond_true, cond_false, aop, Zw, Zr, Zp, ev, sput, Zu, Zz, Yb, unK, Zd, Zx, Nat.reduceBEq, Nat.reduceAdd, Int.reduceBEq, Int.reduceBNe, Int.reduceLT, Zv, Ya, tup, tyf, show ((-1 : Int)) = g from hg2.symm]
          refine hA [(0, v), (1, Zy (n + 1 : Nat)), (4, .int .i64 0), (5, Zy (Bq.pdet.isum (detF n s) i)), (6, Zy g), (7, Zy (i : Nat)), (8, w), (9, v2), (12, v), (13, Zy (n + 1 : Nat)), (14, Zy (i : Nat)), (24, .bool ((s.getD i []).getD n 0 != 0))] _ _ ?_ (by simp (maxSteps := 2000000) only [↓Za, ↓Zk, ↓Zs, ↓Ze, ↓Zj, ↓Zt, ↓Zg, ↓Zm, ↓Zf, ↓Zc, ↓Zb, ↓vdn, vup, Zo, Zh, Zi, Zn, Zl, List.map_cons, List.map_nil, cond_true, cond_false, aop, Zw, Zr, Zp, ev, sput, Zu, Zz, Yb, unK, Zd, Zx, Nat.reduceBEq, Nat.reduceAdd, Int.reduceBEq, Int.reduceBNe, Int.reduceLT, Zv, Ya, tup, tyf])
          clear hA
          try clear A
          refine Ye ?_
          simp only [q99_13]
          refine Wn [(11, 1)] (by kernel_rfl) (by kernel_rfl) (by kernel_rfl) (by kernel_rfl) ?_
          simp (maxSteps := 2000000) only [s99, ↓Za, ↓Zk, ↓Zs, ↓Ze, ↓Zj, ↓Zt, ↓Zg, ↓Zm, ↓Zf, ↓Zc, ↓Zb, ↓vdn, vup, Zo, Zh, Zi, Zn, Zl, List.map_cons, List.map_nil, cond_true, cond_false, aop, Zw, Zr, Zp, ev, sput, Zu, Zz, Yb, unK, Zd, Zx, Nat.reduceBEq, Nat.reduceAdd, Int.reduceBEq, Int.reduceBNe, Int.reduceLT, Zv, Ya, tup, tyf, hsub, hw2.idx We Xk hrl, hw2.load Xj hrl, h01, hm1, Yv, List.nil_append, List.append_nil, List.toList_toArray, List.cons_append]
          refine ⟨_, _, hcall, rfl, ?_⟩
          simp (maxSteps := 2000000) only [s99, ↓Za, ↓Zk, ↓Zs, ↓Ze, ↓Zj, ↓Zt, ↓Zg, ↓Zm, ↓Zf, ↓Zc, ↓Zb, ↓vdn, vup, Zo, Zh, Zi, Zn, Zl, List.map_cons, List.map_nil, cond_true, cond_false, aop, Zw, Zr, Zp, ev, sput, Zu, Zz, Yb, unK, Zd, Zx, Nat.reduceBEq, Nat.reduceAdd, Int.reduceBEq, Int.reduceBNe, Int.reduceLT, Zv, Ya, tup, tyf, hm2, hm3]
          refine hB [(0, v), (1, Zy (n + 1 : Nat)), (4, .int .i64 0), (5, Zy (Bq.pdet.isum (detF n s) (i + 1))), (6, Zy g), (12, v), (13, Zy (n + 1 : Nat)), (14, Zy (i : Nat))] _ _ ?_ (by simp (maxSteps := 2000000) only [↓Za, ↓Zk, ↓Zs, ↓Ze, ↓Zj, ↓Zt, ↓Zg, ↓Zm, ↓Zf, ↓Zc, ↓Zb, ↓vdn, vup, Zo, Zh, Zi, Zn, Zl, List.map_cons, List.map_nil, cond_true, cond_false, aop, Zw, Zr, Zp, ev, sput, Zu, Zz, Yb, unK, Zd, Zx, Nat.reduceBEq, Nat.reduceAdd, Int.reduceBEq, Int.reduceBNe, Int.reduceLT, Zv, Ya, tup, tyf])
          clear hB
          try clear B
          refine Ye ?_
          simp (maxSteps := 2000000) only [s99, ↓Za, ↓Zk, ↓Zs, ↓Ze, ↓Zj, ↓Zt, ↓Zg, ↓Zm, ↓Zf, ↓Zc, ↓Zb, ↓vdn, vup, Zo, Zh, Zi, Zn, Zl, List.map_cons, List.map_nil, cond_true, cond_false, aop, Zw, Zr, Zp, ev, sput, Zu, Zz, Yb, unK, Zd, Zx, Nat.reduceBEq, Nat.reduceAdd, Int.reduceBEq, Int.reduceBNe, Int.reduceLT, Zv, Ya, tup, tyf, add1 (show i < 9223372036854775807 by omega)]
          exact hQ2 _ _ _ ⟨(i + 1, g, h2), ⟨hi', hEn⟩, by simp only; omega, by simp (maxSteps := 2000000) only [↓Za, ↓Zk, ↓Zs, ↓Ze, ↓Zj, ↓Zt, ↓Zg, ↓Zm, ↓Zf, ↓Zc, ↓Zb, ↓vdn, vup, Zo, Zh, Zi, Zn, Zl, List.map_cons, List.map_nil, cond_true, cond_false, aop, Zw, Zr, Zp, ev, sput, Zu, Zz, Yb, unK, Zd, Zx, Nat.reduceBEq, Nat.reduceAdd, Int.reduceBEq, Int.reduceBNe, Int.reduceLT, Zv, Ya, tup, tyf], rfl⟩
    obtain rfl : i = n + 1 := by omega
    refine Yc fun N12 hN12 => ?_
    simp (maxSteps := 2000000) only [s99, ↓Za, ↓Zk, ↓Zs, ↓Ze, ↓Zj, ↓Zt, ↓Zg, ↓Zm, ↓Zf, ↓Zc, ↓Zb, ↓vdn, vup, Zo, Zh, Zi, Zn, Zl, List.map_cons, List.map_nil, cond_true, cond_false, aop, Zw, Zr, Zp, ev, sput, Zu, Zz, Yb, unK, Zd, Zx, Nat.reduceBEq, Nat.reduceAdd, Int.reduceBEq, Int.reduceBNe, Int.reduceLT, Zv, Ya, tup, tyf, hin]
    refine hN12 [(0, v), (1, Zy (n + 1 : Nat)), (4, .int .i64 0), (5, Zy (Bq.pdet.isum (detF n s) (n + 1))), (6, Zy sg), (12, v), (13, Zy (n + 1 : Nat)), (14, Zy (n + 1 : Nat)), (15, .bool false)] _ _ ?_ (by simp (maxSteps := 2000000) only [↓Za, ↓Zk, ↓Zs, ↓Ze, ↓Zj, ↓Zt, ↓Zg, ↓Zm, ↓Zf, ↓Zc, ↓Zb, ↓vdn, vup, Zo, Zh, Zi, Zn, Zl, List.map_cons, List.map_nil, cond_true, cond_false, aop, Zw, Zr, Zp, ev, sput, Zu, Zz, Yb, unK, Zd, Zx, Nat.reduceBEq, Nat.reduceAdd, Int.reduceBEq, Int.reduceBNe, Int.reduceLT, Zv, Ya, tup, tyf])
    clear hN12
    try clear N12
    refine Yc fun N13 hN13 => ?_
    simp (maxSteps := 2000000) only [s99, ↓Za, ↓Zk, ↓Zs, ↓Ze, ↓Zj, ↓Zt, ↓Zg, ↓Zm, ↓Zf, ↓Zc, ↓Zb, ↓vdn, vup, Zo, Zh, Zi, Zn, Zl, List.map_cons, List.map_nil, cond_true, cond_false, aop, Zw, Zr, Zp, ev, sput, Zu, Zz, Yb, unK, Zd, Zx, Nat.reduceBEq, Nat.reduceAdd, Int.reduceBEq, Int.reduceBNe, Int.reduceLT, Zv, Ya, tup, tyf]
    refine hQ2 _ _ _ (hQ _ _ _ ?_)
    simp (maxSteps := 2000000) only [s99, ↓Za, ↓Zk, ↓Zs, ↓Ze, ↓Zj, ↓Zt, ↓Zg, ↓Zm, ↓Zf, ↓Zc, ↓Zb, ↓vdn, vup, Zo, Zh, Zi, Zn, Zl, List.map_cons, List.map_nil, cond_true, cond_false, aop, Zw, Zr, Zp, ev, sput, Zu, Zz, Yb, unK, Zd, Zx, Nat.reduceBEq, Nat.reduceAdd, Int.reduceBEq, Int.reduceBNe, Int.reduceLT, Zv, Ya, tup, tyf, if_true]
    refine hZ [(0, v), (1, Zy (n + 1 : Nat)), (4, .int .i64 0), (5, Zy (Bq.pdet.isum (detF n s) (n + 1))), (6, Zy sg)] _ _ ?_ (by simp (maxSteps := 2000000) only [↓Za, ↓Zk, ↓Zs, ↓Ze, ↓Zj, ↓Zt, ↓Zg, ↓Zm, ↓Zf, ↓Zc, ↓Zb, ↓vdn, vup, Zo, Zh, Zi, Zn, Zl, List.map_cons, List.map_nil, cond_true, cond_false, aop, Zw, Zr, Zp, ev, sput, Zu, Zz, Yb, unK, Zd, Zx, Nat.reduceBEq, Nat.reduceAdd, Int.reduceBEq, Int.reduceBNe, Int.reduceLT, Zv, Ya, tup, tyf])
    clear hZ
    try clear Z
    refine Ye ?_
    simp (maxSteps := 2000000) only [s99, ↓Za, ↓Zk, ↓Zs, ↓Ze, ↓Zj, ↓Zt, ↓Zg, ↓Zm, ↓Zf, ↓Zc, ↓Zb, ↓vdn, vup, Zo, Zh, Zi, Zn, Zl, List.map_cons, List.map_nil, cond_true, cond_false, aop, Zw, Zr, Zp, ev, sput, Zu, Zz, Yb, unK, Zd, Zx, Nat.reduceBEq, Nat.reduceAdd, Int.reduceBEq, Int.reduceBNe, Int.reduceLT, Zv, Ya, tup, tyf]
    exact ⟨by rw [hpd], hE⟩
end Go.Proofs.Tryd.Am

namespace Go.Proofs.Tryd.Am
open Go.Am Sr
set_option maxRecDepth 100000
set_option maxHeartbeats 1000000

theorem fresh_rsi {h : Yd} {xs : List Int} : RSI h (h ++ [.ints [] 3 false] ++ [.ints xs 3 false]) (.slice (some ⟨h.length + 1, 0, some 0⟩) xs.length xs.length) xs :=
  ⟨.inr ⟨h.length + 1, [], by simp, by
    have := Xa (h ++ [.ints [] 3 false]) (.ints xs 3 false)
    rw [List.length_append, List.length_singleton] at this
    rw [List.append_nil]; exact this⟩, (Ext.app _ _ _).trans (Ext.app _ _ _), fun b hb => by
    simp only [Yq, Option.some.injEq] at hb; omega⟩
theorem clone_rsi [Tabs prog] {h : Yd} {v : Value} {xs : List Int} (hv : IntSl h v xs) (hx : xs ≠ []) (hl : xs.length < 1099511627776) : ACall prog 26 [v] h fun r h' => RSI h h' r xs := by
  refine s26_call (by simp) ?_
  have hv' := hv
  rcases hv with ⟨rfl, rfl⟩ | ⟨b, o, sp, cap, c, e, ro, rfl, hc, hb, _⟩
  · exact absurd rfl hx
  · simp (maxSteps := 2000000) only [s26, ↓Za, ↓Zk, ↓Zs, ↓Ze, ↓Zj, ↓Zt, ↓Zg, ↓Zm, ↓Zf, ↓Zc, ↓Zb, ↓vdn, vup, Zo, Zh, Zi, Zn, Zl, List.map_cons, List.map_nil, cond_true, cond_false, aop, Zw, Zr, Zp, ev, sput, Zu, Zz, Yb, unK, Zd, Zx, Nat.reduceBEq, Nat.reduceAdd, Int.reduceBEq, Int.reduceBNe, Int.reduceLT, Zv, Ya, tup, tyf, Option.isSome_some]
    simp only [Yt, We, zero_3, Xk, reps, fillL, mkb, Xl]
    refine And.intro rfl (And.intro Nat.zero_lt_one (And.intro (Nat.zero_le _) ?_))
    refine (hv'.grow [.ints [] 3 false]).copyOwn hx app_22_22 hl (by rw [List.getElem?_append_right (Nat.le_refl _)]; simp) ?_
    have := fresh_rsi (h := h) (xs := xs)
    simpa using this

end Go.Proofs.Tryd.Am

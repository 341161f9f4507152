/-
  Rows taken from each other until the rank is seen; the least rank of all choices of rows, plain.
-/
import Derived.Test.YtaagkbbphgdcdaaDoorRank
set_option linter.all false
namespace Rn
def rowsF (L : Nat → Nat) (n : Nat) : List Nat := (List.range n).map L
theorem mem_rowsF {L : Nat → Nat} {n x : Nat} : x ∈ rowsF L n ↔ ∃ i, i < n ∧ L i = x := by simp [rowsF]
theorem rowsF_S {L : Nat → Nat} {n i : Nat} (h : i < n) : S (rowsF L n) (L i) = true := S_mem (mem_rowsF.2 ⟨i, h, rfl⟩)
/-- The first c columns are done: k of them have a row of their own, which alone has a bit there; the other rows have nothing there. -/
structure EI (n : Nat) (L0 L : Nat → Nat) (k c : Nat) (pv : Nat → Nat) : Prop where
  kn : k ≤ n
  lt : ∀ i, i < n → L i < 2 ^ n
  same : ∀ y, S (rowsF L n) y = S (rowsF L0 n) y
  piv : ∀ j, j < k → (L j).testBit (pv j) = true ∧ ∀ i, i < n → i ≠ j → (L i).testBit (pv j) = false
  low : ∀ i, k ≤ i → i < n → ∀ b, b < c → (L i).testBit b = false
section
variable {n k c a : Nat} {L0 L : Nat → Nat} {pv : Nat → Nat}
theorem EI.start (h : ∀ i, i < n → L i < 2 ^ n) : EI n L L 0 0 pv := ⟨Nat.zero_le _, h, fun _ => rfl, fun _ h => by omega, fun _ _ _ _ h => by omega⟩
theorem EI.none (e : EI n L0 L k c pv) (h : ∀ i, k ≤ i → i < n → (L i).testBit c = false) : EI n L0 L k (c + 1) pv :=
  ⟨e.kn, e.lt, e.same, e.piv, fun i h1 h2 b hb => (Nat.lt_or_eq_of_le (Nat.le_of_lt_succ hb)).elim (fun hc => e.low i h1 h2 b hc) fun hc => by subst hc; exact h i h1 h2⟩
def swp (L : Nat → Nat) (k a : Nat) : Nat → Nat := fun i => if i = k then L a else if i = a then L k else L i
def elm (L : Nat → Nat) (k c : Nat) : Nat → Nat := fun i => if i ≠ k ∧ (L i).testBit c = true then L i ^^^ L k else L i
/-- What swp puts at i stood at some place, with k or behind it if i is. -/
theorem swp_from (L : Nat → Nat) {k a n : Nat} (hk : k ≤ a) (ha : a < n) (i : Nat) (hi : i < n) : ∃ j, j < n ∧ swp L k a i = L j ∧ (k ≤ i → k ≤ j) ∧ (i < k → j = i) := by
  unfold swp
  by_cases h1 : i = k
  · rw [if_pos h1]; exact ⟨a, ha, rfl, fun _ => hk, fun h => by omega⟩
  · rw [if_neg h1]
    by_cases h2 : i = a
    · rw [if_pos h2]; exact ⟨k, by omega, rfl, fun _ => Nat.le_refl _, fun h => by omega⟩
    · rw [if_neg h2]; exact ⟨i, hi, rfl, fun h => h, fun _ => rfl⟩
theorem swp_to (L : Nat → Nat) {k a n : Nat} (hk : k ≤ a) (ha : a < n) (j : Nat) (hj : j < n) : ∃ i, i < n ∧ swp L k a i = L j := by
  by_cases h1 : j = a
  · exact ⟨k, by omega, by rw [swp, if_pos rfl, h1]⟩
  · by_cases h2 : j = k
    · refine ⟨a, ha, ?_⟩
      unfold swp
      rw [if_neg (by omega), if_pos rfl, h2]
    · exact ⟨j, hj, by rw [swp, if_neg h2, if_neg h1]⟩
theorem swp_S (hk : k ≤ a) (ha : a < n) (y : Nat) : S (rowsF (swp L k a) n) y = S (rowsF L n) y := by
  refine S_eq (fun x hx => ?_) (fun x hx => ?_) y
  · obtain ⟨i, hi, rfl⟩ := mem_rowsF.1 hx
    obtain ⟨j, hj, e, _⟩ := swp_from L hk ha i hi
    rw [e]; exact rowsF_S hj
  · obtain ⟨j, hj, rfl⟩ := mem_rowsF.1 hx
    obtain ⟨i, hi, e⟩ := swp_to L hk ha j hj
    rw [← e]; exact rowsF_S hi
theorem elm_S (hk : k < n) (y : Nat) : S (rowsF (elm L k c) n) y = S (rowsF L n) y := by
  have ek : elm L k c k = L k := by rw [elm, if_neg (by simp)]
  refine S_eq (fun x hx => ?_) (fun x hx => ?_) y
  · obtain ⟨i, hi, rfl⟩ := mem_rowsF.1 hx
    unfold elm
    split
    · exact S_xor _ (rowsF_S hi) (rowsF_S hk)
    · exact rowsF_S hi
  · obtain ⟨i, hi, rfl⟩ := mem_rowsF.1 hx
    have h1 := rowsF_S (L := elm L k c) hi
    have h2 := rowsF_S (L := elm L k c) hk
    rw [ek] at h2
    unfold elm at h1
    split at h1
    · have := S_xor _ h1 h2
      rw [xor_cancel] at this; exact this
    · exact h1
theorem EI.some (e : EI n L0 L k c pv) (hk : k ≤ a) (ha : a < n) (hb : (L a).testBit c = true) : EI n L0 (elm (swp L k a) k c) (k + 1) (c + 1) fun j => if j = k then c else pv j := by
  have hkn : k < n := by omega
  have srow : swp L k a k = L a := by rw [swp, if_pos rfl]
  have ek : elm (swp L k a) k c k = L a := by rw [elm, if_neg (by simp), srow]
  have other : ∀ i, i ≠ k → elm (swp L k a) k c i = if (swp L k a i).testBit c = true then swp L k a i ^^^ L a else swp L k a i := fun i hi => by
    unfold elm; rw [srow]
    by_cases h : (swp L k a i).testBit c = true
    · rw [if_pos ⟨hi, h⟩, if_pos h]
    · rw [if_neg (fun h2 => h h2.2), if_neg h]
  refine ⟨by omega, fun i hi => ?_, fun y => ?_, fun j hj => ?_, fun i h1 h2 b hbc => ?_⟩
  · obtain ⟨j, hj, es, _⟩ := swp_from L hk ha i hi
    unfold elm
    rw [srow, es]
    split
    · exact Nat.xor_lt_two_pow (e.lt j hj) (e.lt a ha)
    · exact e.lt j hj
  · rw [elm_S hkn, swp_S hk ha]; exact e.same y
  · by_cases hjk : j = k
    · subst hjk
      rw [if_pos rfl, ek]
      refine ⟨hb, fun i hi hne => ?_⟩
      rw [other i hne]
      cases h : (swp L j a i).testBit c with
      | true => rw [if_pos rfl, Nat.testBit_xor, h, hb]; rfl
      | false => rw [if_neg (by decide), h]
    · rw [if_neg hjk]
      have hj' : j < k := by omega
      obtain ⟨p1, p2⟩ := e.piv j hj'
      have ra := p2 a ha (by omega)
      refine ⟨?_, fun i hi hne => ?_⟩
      · rw [other j hjk]
        obtain ⟨j2, _, es, _, e2⟩ := swp_from L hk ha j (by omega)
        rw [es, e2 hj']
        split
        · rw [Nat.testBit_xor, p1, ra]; rfl
        · exact p1
      · by_cases hik : i = k
        · subst hik; rw [ek]; exact ra
        · rw [other i hik]
          obtain ⟨i2, hi2, es, g1, g2⟩ := swp_from L hk ha i hi
          have hne2 : i2 ≠ j := by
            by_cases h : i < k
            · rw [g2 h]; exact hne
            · have := g1 (by omega); omega
          have r2 := p2 i2 hi2 hne2
          rw [es]
          split
          · rw [Nat.testBit_xor, r2, ra]; rfl
          · exact r2
  · have hik : i ≠ k := by omega
    rw [other i hik]
    by_cases hc : b = c
    · subst hc
      cases h : (swp L k a i).testBit b with
      | true => rw [if_pos rfl, Nat.testBit_xor, h, hb]; rfl
      | false => rw [if_neg (by decide), h]
    · obtain ⟨i2, hi2, es, g1, _⟩ := swp_from L hk ha i h2
      have r1 := e.low i2 (g1 (by omega)) hi2 b (by omega)
      have r2 := e.low a hk ha b (by omega)
      rw [es]
      split
      · rw [Nat.testBit_xor, r1, r2]; rfl
      · exact r1
theorem S_bit {p : Nat} : ∀ {l : List Nat} {y : Nat}, (∀ z ∈ l, z.testBit p = false) → S l y = true → y.testBit p = false
  | [], y, _, h => by rw [S, beq_iff_eq] at h; subst h; exact Nat.zero_testBit p
  | x :: l, y, hl, h => by
    rw [S, Bool.or_eq_true] at h
    rcases h with h | h
    · exact S_bit (fun z hz => hl z (by simp [hz])) h
    · have h1 := S_bit (fun z hz => hl z (by simp [hz])) h
      rw [Nat.testBit_xor, hl x (by simp), Bool.xor_false] at h1; exact h1
theorem ind_piv (L : Nat → Nat) (pv : Nat → Nat) : ∀ (k : Nat), (∀ j, j < k → (L j).testBit (pv j) = true ∧ ∀ i, i < k → i ≠ j → (L i).testBit (pv j) = false) → Ind (rowsF L k).reverse
  | 0, _ => trivial
  | k + 1, h => by
    have e : (rowsF L (k + 1)).reverse = L k :: (rowsF L k).reverse := by simp [rowsF, List.range_succ]
    rw [e]
    refine ⟨?_, ind_piv L pv k fun j hj => ⟨(h j (by omega)).1, fun i hi hne => (h j (by omega)).2 i (by omega) hne⟩⟩
    cases hs : S (rowsF L k).reverse (L k) with
    | false => rfl
    | true =>
      have := S_bit (p := pv k) (fun z hz => by
        obtain ⟨i, hi, rfl⟩ := mem_rowsF.1 (List.mem_reverse.1 hz)
        exact (h k (by omega)).2 i (by omega) (by omega)) hs
      rw [(h k (by omega)).1] at this; cases this
theorem zero_low {x n : Nat} (h : x < 2 ^ n) (hb : ∀ b, b < n → x.testBit b = false) : x = 0 := by
  apply Nat.eq_of_testBit_eq
  intro i
  rw [Nat.zero_testBit]
  by_cases hi : i < n
  · exact hb i hi
  · exact Nat.testBit_lt_two_pow (Nat.lt_of_lt_of_le h (Nat.pow_le_pow_right (by decide) (by omega)))
/-- At the end the rank is the number of columns with a row of their own. -/
theorem EI.fin (e : EI n L0 L k n pv) : dim n (rowsF L0 n) = k := by
  have h1 : ∀ y, S (rowsF L0 n) y = S (rowsF L k).reverse y := fun y => by
    rw [← e.same y]
    refine S_eq (fun x hx => ?_) (fun x hx => ?_) y
    · obtain ⟨i, hi, rfl⟩ := mem_rowsF.1 hx
      by_cases hik : i < k
      · exact S_mem (List.mem_reverse.2 (mem_rowsF.2 ⟨i, hik, rfl⟩))
      · rw [zero_low (e.lt i hi) (e.low i (by omega) hi)]; exact S_zero _
    · obtain ⟨i, hi, rfl⟩ := mem_rowsF.1 (List.mem_reverse.1 hx)
      have := e.kn
      exact rowsF_S (by omega)
  have hkn := e.kn
  rw [dim_congr h1, dim_ind (fun x hx => by
    obtain ⟨i, hi, rfl⟩ := mem_rowsF.1 (List.mem_reverse.1 hx)
    exact e.lt i (by omega)) (ind_piv L pv k fun j hj => ⟨(e.piv j hj).1, fun i hi hne => (e.piv j hj).2 i (by omega) hne⟩)]
  simp [rowsF]
end

/-! The least of b and of some numbers. -/
def IsMin (b : Nat) (P : Nat → Prop) (v : Nat) : Prop := (v = b ∨ P v) ∧ v ≤ b ∧ ∀ w, P w → v ≤ w
theorem IsMin.uniq {b : Nat} {P : Nat → Prop} {v w : Nat} (h1 : IsMin b P v) (h2 : IsMin b P w) : v = w := by
  obtain ⟨a1, b1, c1⟩ := h1
  obtain ⟨a2, b2, c2⟩ := h2
  have x1 : v ≤ w := by rcases a2 with rfl | h; exact b1; exact c1 w h
  have x2 : w ≤ v := by rcases a1 with rfl | h; exact b2; exact c2 v h
  omega
theorem IsMin.start (b : Nat) : IsMin b (fun _ => False) b := ⟨.inl rfl, Nat.le_refl _, fun _ h => h.elim⟩
theorem IsMin.next {b v w : Nat} {P P' : Nat → Prop} (h1 : IsMin b P v) (h2 : IsMin v P' w) : IsMin b (fun x => P x ∨ P' x) w := by
  obtain ⟨a1, b1, c1⟩ := h1
  obtain ⟨a2, b2, c2⟩ := h2
  refine ⟨?_, by omega, fun x hx => ?_⟩
  · rcases a2 with rfl | h
    · exact a1.imp id .inl
    · exact .inr (.inr h)
  · rcases hx with h | h
    · have := c1 x h; omega
    · exact c2 x h
theorem IsMin.congr {b v : Nat} {P P' : Nat → Prop} (h1 : IsMin b P v) (h : ∀ x, P x ↔ P' x) : IsMin b P' v :=
  ⟨h1.1.imp id (h v).1, h1.2.1, fun w hw => h1.2.2 w ((h w).2 hw)⟩
theorem IsMin.skip {b : Nat} {P : Nat → Prop} (h : ∀ w, P w → b ≤ w) : IsMin b P b := ⟨.inl rfl, Nat.le_refl _, h⟩

/-- A row that fits at i. -/
def okRow (g : Nat → Nat) (n i r : Nat) : Prop := r < 2 ^ n ∧ r.testBit i = true ∧ ∀ b, b ≠ i → r.testBit b = true → (g i).testBit b = true
/-- k rows that fit from i on. -/
def Cm (g : Nat → Nat) (n : Nat) : Nat → Nat → List Nat → Prop
  | 0, _, c => c = []
  | k + 1, i, c => ∃ r d, c = r :: d ∧ okRow g n i r ∧ Cm g n k (i + 1) d
/-- The ranks that are still to come. -/
def Rk (g : Nat → Nat) (n k i : Nat) (R : List Nat) (w : Nat) : Prop := ∃ c, Cm g n k i c ∧ w = dim n (R ++ c)
theorem S_app2 {l m : List Nat} (h : ∀ y, S l y = S m y) (c : List Nat) (y : Nat) : S (l ++ c) y = S (m ++ c) y := by
  have key : ∀ {l m : List Nat}, (∀ y, S l y = S m y) → ∀ x ∈ l ++ c, S (m ++ c) x = true := by
    intro l m h x hx
    rcases List.mem_append.1 hx with hx | hx
    · have h1 : S m x = true := by rw [← h]; exact S_mem hx
      exact S_sub (fun z hz => S_mem (List.mem_append_left _ hz)) h1
    · exact S_mem (List.mem_append_right _ hx)
  exact S_eq (key h) (key fun y => (h y).symm) y
theorem Rk.congr {g : Nat → Nat} {n k i : Nat} {R R' : List Nat} (h : ∀ y, S R y = S R' y) (w : Nat) : Rk g n k i R w ↔ Rk g n k i R' w := by
  constructor
  · rintro ⟨c, hc, e⟩; exact ⟨c, hc, by rw [e, dim_congr (S_app2 h c)]⟩
  · rintro ⟨c, hc, e⟩; exact ⟨c, hc, by rw [e, dim_congr (S_app2 h c)]⟩
theorem Rk.zero {g : Nat → Nat} {n i : Nat} {R : List Nat} (w : Nat) : Rk g n 0 i R w ↔ w = dim n R := by
  constructor
  · rintro ⟨c, hc, e⟩; rw [Cm] at hc; subst hc; rw [List.append_nil] at e; exact e
  · intro e; exact ⟨[], rfl, by rw [List.append_nil]; exact e⟩
theorem Rk.succ {g : Nat → Nat} {n k i : Nat} {R : List Nat} (w : Nat) : Rk g n (k + 1) i R w ↔ ∃ r, okRow g n i r ∧ Rk g n k (i + 1) (R ++ [r]) w := by
  constructor
  · rintro ⟨c, ⟨r, d, rfl, h1, h2⟩, e⟩
    exact ⟨r, h1, d, h2, by rw [e, List.append_assoc]; rfl⟩
  · rintro ⟨r, h1, d, h2, e⟩
    exact ⟨r :: d, ⟨r, d, rfl, h1, h2⟩, by rw [e, List.append_assoc]; rfl⟩
theorem Rk.ge {g : Nat → Nat} {n k i : Nat} {R : List Nat} {w : Nat} (h : Rk g n k i R w) : dim n R ≤ w := by
  obtain ⟨c, _, rfl⟩ := h
  exact dim_mono fun y hy => S_sub (fun z hz => S_mem (List.mem_append_left _ hz)) hy
end Rn

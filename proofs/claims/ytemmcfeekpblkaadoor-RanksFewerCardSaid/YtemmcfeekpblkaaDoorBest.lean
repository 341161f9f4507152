/-
  Best orders, plain: the least number of pairs that the players who are left bring, and the first order that brings no more.
-/
set_option linter.all false
namespace Rb
/-- The least of some numbers and b. -/
def mnF (v : Nat → Nat) : List Nat → Nat → Nat
  | [], b => b
  | i :: l, b => mnF v l (if v i < b then v i else b)
section
variable {v : Nat → Nat}
theorem mnF_le : ∀ (l : List Nat) (b : Nat), mnF v l b ≤ b
  | [], b => Nat.le_refl _
  | i :: l, b => by
    rw [mnF]
    have := mnF_le l (if v i < b then v i else b)
    split at this <;> split <;> omega
theorem mnF_mem : ∀ (l : List Nat) (b i : Nat), i ∈ l → mnF v l b ≤ v i
  | [], _, _, h => by cases h
  | j :: l, b, i, h => by
    rw [mnF]
    rcases List.mem_cons.1 h with rfl | h
    · have := mnF_le (v := v) l (if v i < b then v i else b)
      split at this <;> split <;> omega
    · exact mnF_mem l _ i h
theorem mnF_or : ∀ (l : List Nat) (b : Nat), mnF v l b = b ∨ ∃ i ∈ l, mnF v l b = v i
  | [], b => .inl rfl
  | j :: l, b => by
    rw [mnF]
    rcases mnF_or l (if v j < b then v j else b) with h | ⟨i, hi, h⟩
    · rw [h]
      by_cases hb : v j < b
      · rw [if_pos hb]; exact .inr ⟨j, by simp, rfl⟩
      · rw [if_neg hb]; exact .inl rfl
    · exact .inr ⟨i, by simp [hi], h⟩
/-- What a run keeps that takes each better one. -/
def keep {α : Type} (v : Nat → Nat) (p : Nat → α) (st : Nat × α) (i : Nat) : Nat × α := if v i < st.1 then (v i, p i) else st
theorem keep_fold {α : Type} (p : Nat → α) : ∀ (l : List Nat) (b : Nat) (o : α),
    (l.foldl (keep v p) (b, o)).1 = mnF v l b ∧ (mnF v l b < b → ∃ i, l.find? (fun i => v i == mnF v l b) = some i ∧ (l.foldl (keep v p) (b, o)).2 = p i) ∧ (¬ mnF v l b < b → (l.foldl (keep v p) (b, o)).2 = o)
  | [], b, o => ⟨rfl, fun h => absurd h (Nat.lt_irrefl _), fun _ => rfl⟩
  | j :: l, b, o => by
    rw [List.foldl_cons, mnF]
    by_cases hb : v j < b
    · have e : keep v p (b, o) j = (v j, p j) := by rw [keep, if_pos hb]
      rw [e, if_pos hb]
      obtain ⟨h1, h2, h3⟩ := keep_fold p l (v j) (p j)
      have hle := mnF_le (v := v) l (v j)
      refine ⟨h1, fun _ => ?_, fun h => absurd (Nat.lt_of_le_of_lt hle hb) h⟩
      by_cases hm : mnF v l (v j) < v j
      · obtain ⟨i, hi, ho⟩ := h2 hm
        refine ⟨i, ?_, ho⟩
        rw [List.find?_cons_of_neg (by simp; omega)]
        exact hi
      · refine ⟨j, ?_, h3 hm⟩
        rw [List.find?_cons_of_pos (by simp; omega)]
    · have e : keep v p (b, o) j = (b, o) := by rw [keep, if_neg hb]
      rw [e, if_neg hb]
      obtain ⟨h1, h2, h3⟩ := keep_fold p l b o
      refine ⟨h1, fun hm => ?_, h3⟩
      obtain ⟨i, hi, ho⟩ := h2 hm
      refine ⟨i, ?_, ho⟩
      rw [List.find?_cons_of_neg (by simp; omega)]
      exact hi
end

/-- Who is not in a set. -/
def fr (n s : Nat) : List Nat := (List.range n).filter fun i => !s.testBit i
theorem mem_fr {n s i : Nat} : i ∈ fr n s ↔ i < n ∧ s.testBit i = false := by simp [fr]
theorem testBit_put {s i x : Nat} : (s ||| 2 ^ i).testBit x = (s.testBit x || decide (i = x)) := by rw [Nat.testBit_or, Nat.testBit_two_pow]
theorem fr_put {n s i : Nat} (hi : i ∈ fr n s) : (fr n (s ||| 2 ^ i)).length + 1 = (fr n s).length := by
  have h : ∀ (l : List Nat), l.Nodup → (l.filter fun x => !(s ||| 2 ^ i).testBit x).length + (if i ∈ l ∧ s.testBit i = false then 1 else 0) = (l.filter fun x => !s.testBit x).length := by
    intro l
    induction l with
    | nil => intro _; simp
    | cons x l ih =>
      intro hn
      have hn' := List.nodup_cons.1 hn
      have := ih hn'.2
      by_cases hx : i = x
      · subst hx
        have h1 : ¬ (i ∈ l ∧ s.testBit i = false) := fun h => hn'.1 h.1
        rw [if_neg h1] at this
        cases hb : s.testBit i with
        | true => simp [List.filter_cons, testBit_put, hb] at this ⊢; exact this
        | false => simp [List.filter_cons, testBit_put, hb] at this ⊢; omega
      · have e : (s ||| 2 ^ i).testBit x = s.testBit x := by rw [testBit_put]; simp [hx]
        have h2 : (i ∈ x :: l ∧ s.testBit i = false) ↔ (i ∈ l ∧ s.testBit i = false) := by simp [hx]
        by_cases hp : i ∈ l ∧ s.testBit i = false
        · rw [if_pos hp] at this
          rw [if_pos (h2.2 hp), List.filter_cons, List.filter_cons, e]
          split <;> (try simp only [List.length_cons]) <;> omega
        · rw [if_neg hp] at this
          rw [if_neg (fun h => hp (h2.1 h)), List.filter_cons, List.filter_cons, e]
          split <;> (try simp only [List.length_cons]) <;> omega
  have := h (List.range n) List.nodup_range
  have hm := mem_fr.1 hi
  rw [if_pos ⟨List.mem_range.2 hm.1, hm.2⟩] at this
  exact this
theorem put_lt {n s i : Nat} (hs : s < 2 ^ n) (hi : i < n) : s ||| 2 ^ i < 2 ^ n := Nat.or_lt_two_pow hs (Nat.pow_lt_pow_right (by decide) hi)

section
variable (c : Nat → Nat → Nat) (n : Nat)
/-- The least number of pairs that k players bring who are not in s. -/
def rst : Nat → Nat → Nat
  | 0, _ => 0
  | k + 1, s => mnF (fun i => c i s + rst k (s ||| 2 ^ i)) (fr n s) (n * n)
def fv (k s i : Nat) : Nat := c i s + rst c n k (s ||| 2 ^ i)
theorem rst_succ (k s : Nat) : rst c n (k + 1) s = mnF (fv c n k s) (fr n s) (n * n) := rfl
/-- The first order of them that brings no more. -/
def gr : Nat → Nat → List Nat
  | 0, _ => []
  | k + 1, s => match (fr n s).find? (fun i => fv c n k s i == rst c n (k + 1) s) with
    | some i => i :: gr k (s ||| 2 ^ i)
    | none => []
/-- All orders, one behind the other: the best one so far is kept. -/
def dfs : Nat → List Nat → Nat → Nat → Nat × List Nat → Nat × List Nat
  | 0, begun, _, a, st => if st.1 ≤ a then st else (a, begun)
  | k + 1, begun, s, a, st => if st.1 ≤ a then st else (fr n s).foldl (fun st i => dfs k (begun ++ [i]) (s ||| 2 ^ i) (a + c i s) st) st
def tri : Nat → Nat
  | 0 => 0
  | k + 1 => (n - (k + 1)) + tri k
variable {c n}
theorem tri_le : ∀ n, n ≤ 8 → ∀ k, k ≤ n → tri n k ≤ n * n ∧ tri n k ≤ 28 := by decide
/-- A player brings no more pairs than there are players ahead of it. -/
def Few (c : Nat → Nat → Nat) (n : Nat) : Prop := ∀ i s, s < 2 ^ n → c i s ≤ n - (fr n s).length
theorem fr_ne {s k : Nat} (h : (fr n s).length = k + 1) : ∃ i, i ∈ fr n s := by
  cases e : fr n s with
  | nil => rw [e] at h; cases h
  | cons i l => exact ⟨i, by simp⟩
theorem fr_le (n s : Nat) : (fr n s).length ≤ n := by
  have := List.length_filter_le (fun i => !s.testBit i) (List.range n)
  rw [List.length_range] at this; exact this
theorem rst_le (hc : Few c n) : ∀ (k s : Nat), s < 2 ^ n → (fr n s).length = k → rst c n k s ≤ tri n k
  | 0, _, _, _ => Nat.le_refl _
  | k + 1, s, hs, hk => by
    obtain ⟨i, hi⟩ := fr_ne hk
    have h1 := mnF_mem (v := fv c n k s) (fr n s) (n * n) i hi
    have h2 := hc i s hs
    have h3 := fr_put hi
    have h4 := rst_le hc k (s ||| 2 ^ i) (put_lt hs (mem_fr.1 hi).1) (by omega)
    rw [rst_succ, tri]
    rw [fv] at h1
    rw [hk] at h2
    omega
theorem fv_le (hc : Few c n) (hn : n ≤ 8) {k s i : Nat} (hs : s < 2 ^ n) (hk : (fr n s).length = k + 1) (hi : i ∈ fr n s) : fv c n k s i ≤ n * n := by
  have h2 := hc i s hs
  have h3 := fr_put hi
  have h4 := rst_le hc k (s ||| 2 ^ i) (put_lt hs (mem_fr.1 hi).1) (by omega)
  have h5 := fr_le n s
  have h6 := (tri_le n hn (k + 1) (by omega)).1
  rw [tri] at h6
  rw [fv]
  rw [hk] at h2
  omega
/-- Some player brings just the least. -/
theorem rst_att (hc : Few c n) (hn : n ≤ 8) {k s : Nat} (hs : s < 2 ^ n) (hk : (fr n s).length = k + 1) : ∃ j ∈ fr n s, rst c n (k + 1) s = fv c n k s j := by
  rw [rst_succ]
  rcases mnF_or (v := fv c n k s) (fr n s) (n * n) with h | h
  · obtain ⟨i, hi⟩ := fr_ne hk
    have h1 := mnF_mem (v := fv c n k s) (fr n s) (n * n) i hi
    have h2 := fv_le hc hn hs hk hi
    exact ⟨i, hi, by omega⟩
  · exact h
theorem gr_succ (hc : Few c n) (hn : n ≤ 8) {k s : Nat} (hs : s < 2 ^ n) (hk : (fr n s).length = k + 1) :
    ∃ i, (fr n s).find? (fun i => fv c n k s i == rst c n (k + 1) s) = some i ∧ i ∈ fr n s ∧ gr c n (k + 1) s = i :: gr c n k (s ||| 2 ^ i) := by
  obtain ⟨j, hj, he⟩ := rst_att hc hn hs hk
  cases hf : (fr n s).find? (fun i => fv c n k s i == rst c n (k + 1) s) with
  | none =>
    rw [List.find?_eq_none] at hf
    exact absurd (beq_iff_eq.2 he.symm) (hf j hj)
  | some i => exact ⟨i, rfl, List.mem_of_find?_eq_some hf, by rw [gr, hf]⟩
theorem dfs_eq (hc : Few c n) (hn : n ≤ 8) : ∀ (k : Nat) (begun : List Nat) (s a : Nat) (st : Nat × List Nat), s < 2 ^ n → (fr n s).length = k →
    dfs c n k begun s a st = if a + rst c n k s < st.1 then (a + rst c n k s, begun ++ gr c n k s) else st
  | 0, begun, s, a, st, _, _ => by
    rw [dfs, rst, gr, Nat.add_zero, List.append_nil]
    by_cases h : st.1 ≤ a
    · rw [if_pos h, if_neg (by omega)]
    · rw [if_neg h, if_pos (by omega)]
  | k + 1, begun, s, a, (b, o), hs, hk => by
    rw [dfs]
    by_cases h : b ≤ a
    · rw [if_pos h, if_neg (by simp only; omega)]
    rw [if_neg h]
    have step : ∀ (l : List Nat), (∀ i ∈ l, i ∈ fr n s) → ∀ st, l.foldl (fun st i => dfs c n k (begun ++ [i]) (s ||| 2 ^ i) (a + c i s) st) st = l.foldl (keep (fun i => a + fv c n k s i) fun i => begun ++ (i :: gr c n k (s ||| 2 ^ i))) st := by
      intro l
      induction l with
      | nil => intro _ _; rfl
      | cons i l ih =>
        intro hl st
        have hi := hl i (by simp)
        have h3 := fr_put hi
        rw [List.foldl_cons, List.foldl_cons, dfs_eq hc hn k _ _ _ _ (put_lt hs (mem_fr.1 hi).1) (by omega), ih fun j hj => hl j (by simp [hj])]
        rw [keep, fv, ← Nat.add_assoc, List.append_assoc]; rfl
    rw [step _ fun _ h => h]
    obtain ⟨h1, h2, h3⟩ := keep_fold (v := fun i => a + fv c n k s i) (fun i => begun ++ (i :: gr c n k (s ||| 2 ^ i))) (fr n s) b o
    obtain ⟨j, hj, he⟩ := rst_att hc hn hs hk
    have lo : ∀ i ∈ fr n s, rst c n (k + 1) s ≤ fv c n k s i := fun i hi => mnF_mem (v := fv c n k s) (fr n s) (n * n) i hi
    have m1 := mnF_mem (v := fun i => a + fv c n k s i) (fr n s) b j hj
    have m2 := mnF_or (v := fun i => a + fv c n k s i) (fr n s) b
    have m3 := mnF_le (v := fun i => a + fv c n k s i) (fr n s) b
    generalize mnF (fun i => a + fv c n k s i) (fr n s) b = M at h1 h2 h3 m1 m2 m3
    generalize (fr n s).foldl (keep (fun i => a + fv c n k s i) fun i => begun ++ (i :: gr c n k (s ||| 2 ^ i))) (b, o) = r at h1 h2 h3
    by_cases hlt : a + rst c n (k + 1) s < b
    · have hM : M = a + rst c n (k + 1) s := by
        rcases m2 with m2 | ⟨i, hi, m2⟩
        · omega
        · have := lo i hi; omega
      rw [if_pos hlt]
      obtain ⟨i, hi, ho⟩ := h2 (by omega)
      obtain ⟨i', hf, _, hg⟩ := gr_succ hc hn hs hk
      have e : (fun i => a + fv c n k s i == M) = fun i => fv c n k s i == rst c n (k + 1) s := by
        funext x
        rw [hM, Bool.eq_iff_iff, beq_iff_eq, beq_iff_eq]; omega
      rw [e, hf] at hi
      obtain rfl := Option.some.inj hi
      rw [hg, ← ho, ← hM, ← h1]
    · have hM : M = b := by
        rcases m2 with m2 | ⟨i, hi, m2⟩
        · exact m2
        · have := lo i hi; omega
      rw [if_neg hlt, ← h3 (by omega)]
      rw [hM] at h1
      rw [← h1]
/-- So the first best order is found. -/
theorem dfs_all (hc : Few c n) (hn : n ≤ 8) : (dfs c n n [] 0 0 (29, [])).2 = gr c n n 0 := by
  have h0 : (fr n 0).length = n := by rw [fr, List.filter_eq_self.2 (fun i _ => by simp), List.length_range]
  have h1 := rst_le hc n 0 (Nat.two_pow_pos n) h0
  have h2 := (tri_le n hn n (Nat.le_refl _)).2
  rw [dfs_eq hc hn n [] 0 0 _ (Nat.two_pow_pos n) h0, if_pos (by simp only; omega)]
  rfl
end
end Rb

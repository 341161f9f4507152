/-
  The greatest independent sets of a graph, plain.
-/
set_option linter.all false
namespace Sr
/-- How many of a list, no two of them near, have p: the most. -/
def al (ok : Nat → Nat → Bool) : List Nat → (Nat → Bool) → Nat
  | [], _ => 0
  | c :: r, p => max (al ok r p) (if p c = true then 1 + al ok r (fun x => p x && ok c x) else 0)
def Ind (ok : Nat → Nat → Bool) (l : List Nat) (q : Nat → Bool) : Prop := ∀ i ∈ l, ∀ j ∈ l, i ≠ j → q i = true → q j = true → ok i j = true
variable {ok : Nat → Nat → Bool}
theorem al_congr : ∀ (l : List Nat) {p q : Nat → Bool}, (∀ x ∈ l, p x = q x) → al ok l p = al ok l q
  | [], _, _, _ => rfl
  | c :: r, p, q, h => by
    rw [al, al, al_congr r fun x hx => h x (by simp [hx]), h c (by simp), al_congr r (p := fun x => p x && ok c x) (q := fun x => q x && ok c x) fun x hx => by rw [h x (by simp [hx])]]
theorem al_upper : ∀ (l : List Nat) (p q : Nat → Bool), l.Nodup → Ind ok l q → (∀ i ∈ l, q i = true → p i = true) → l.countP q ≤ al ok l p
  | [], _, _, _, _, _ => by simp
  | c :: r, p, q, hn, hi, hp => by
    have hn' := List.nodup_cons.1 hn
    have hir : Ind ok r q := fun i h1 j h2 => hi i (by simp [h1]) j (by simp [h2])
    rw [al, List.countP_cons]
    cases hc : q c with
    | false =>
      have := al_upper r p q hn'.2 hir fun i h1 => hp i (by simp [h1])
      simp; omega
    | true =>
      have h1 := hp c (by simp) hc
      have := al_upper r (fun x => p x && ok c x) q hn'.2 hir fun i h2 h3 => by
        rw [hp i (by simp [h2]) h3, hi c (by simp) i (by simp [h2]) (fun e => hn'.1 (e ▸ h2)) hc h3]; rfl
      rw [if_pos h1]; simp; omega
theorem al_has (hs : ∀ i j, ok i j = ok j i) : ∀ (l : List Nat) (p : Nat → Bool), l.Nodup → ∃ q : Nat → Bool, Ind ok l q ∧ (∀ i, q i = true → i ∈ l ∧ p i = true) ∧ l.countP q = al ok l p
  | [], p, _ => ⟨fun _ => false, fun i h => by simp at h, fun i h => by simp at h, rfl⟩
  | c :: r, p, hn => by
    have hn' := List.nodup_cons.1 hn
    obtain ⟨q1, a1, b1, c1⟩ := al_has hs r p hn'.2
    obtain ⟨q2, a2, b2, c2⟩ := al_has hs r (fun x => p x && ok c x) hn'.2
    by_cases hc : p c = true ∧ al ok r p < 1 + al ok r (fun x => p x && ok c x)
    · refine ⟨fun x => q2 x || x == c, ?_, ?_, ?_⟩
      · intro i hi j hj hne h1 h2
        simp only [Bool.or_eq_true, beq_iff_eq] at h1 h2
        rcases h1 with h1 | h1 <;> rcases h2 with h2 | h2
        · exact a2 i (b2 i h1).1 j (b2 j h2).1 hne h1 h2
        · subst h2; have := (b2 i h1).2; simp at this; rw [hs]; exact this.2
        · subst h1; have := (b2 j h2).2; simp at this; exact this.2
        · subst h1 h2; exact absurd rfl hne
      · intro i h1
        simp only [Bool.or_eq_true, beq_iff_eq] at h1
        rcases h1 with h1 | h1
        · have := b2 i h1; simp at this; exact ⟨by simp [this.1], this.2.1⟩
        · subst h1; exact ⟨by simp, hc.1⟩
      · rw [al, if_pos hc.1, List.countP_cons]
        have : r.countP (fun x => q2 x || x == c) = r.countP q2 := List.countP_congr fun x hx => by
          have : x ≠ c := fun e => hn'.1 (e ▸ hx)
          simp [this]
        rw [this, c2]; simp; omega
    · refine ⟨q1, ?_, fun i h => ⟨by simp [(b1 i h).1], (b1 i h).2⟩, ?_⟩
      · intro i hi j hj hne h1 h2
        exact a1 i (b1 i h1).1 j (b1 j h2).1 hne h1 h2
      · have hq : q1 c = false := by
          cases h : q1 c with
          | false => rfl
          | true => exact absurd (b1 c h).1 hn'.1
        rw [al, List.countP_cons, hq, c1]
        by_cases h2 : p c = true
        · have : ¬ al ok r p < 1 + al ok r (fun x => p x && ok c x) := fun h => hc ⟨h2, h⟩
          rw [if_pos h2]; simp; omega
        · rw [if_neg h2]; simp
theorem countP_less (q : Nat → Bool) {v : Nat} : ∀ (l : List Nat), l.Nodup → v ∈ l → q v = true → l.countP q = l.countP (fun x => q x && x != v) + 1
  | [], _, h, _ => by simp at h
  | c :: r, hn, hv, hq => by
    have hn' := List.nodup_cons.1 hn
    rw [List.countP_cons, List.countP_cons]
    by_cases hc : c = v
    · subst hc
      have : r.countP (fun x => q x && x != c) = r.countP q := List.countP_congr fun x hx => by
        have : x ≠ c := fun e => hn'.1 (e ▸ hx)
        simp [this]
      rw [this, hq]; simp
    · have hv' : v ∈ r := by simpa [Ne.symm hc] using hv
      rw [countP_less q r hn'.2 hv' hq]
      have : (c != v) = true := by simp [hc]
      rw [this, Bool.and_true]; split <;> omega
section
variable {l : List Nat} {p : Nat → Bool} {v : Nat}
theorem al_mono (hs : ∀ i j, ok i j = ok j i) (hn : l.Nodup) {p' : Nat → Bool} (h : ∀ i ∈ l, p i = true → p' i = true) : al ok l p ≤ al ok l p' := by
  obtain ⟨q, a, b, c⟩ := al_has hs l p hn
  rw [← c]; exact al_upper l p' q hn a fun i hi hq => h i hi (b i hq).2
/-- With v there is one more. -/
theorem al_with (hs : ∀ i j, ok i j = ok j i) (hn : l.Nodup) (hv : v ∈ l) (hp : p v = true) : 1 + al ok l (fun x => p x && (x != v && ok v x)) ≤ al ok l p := by
  obtain ⟨q, a, b, c⟩ := al_has hs l (fun x => p x && (x != v && ok v x)) hn
  have hqv : q v = false := by
    cases h : q v with
    | false => rfl
    | true => have := (b v h).2; simp at this
  have e : l.countP (fun x => q x || x == v) = l.countP q + 1 := by
    rw [countP_less (fun x => q x || x == v) l hn hv (by simp)]
    congr 1
    refine List.countP_congr fun x hx => ?_
    by_cases hx : x = v
    · subst hx; simp [hqv]
    · simp [hx]
  rw [← c, Nat.add_comm, ← e]
  refine al_upper l p _ hn ?_ ?_
  · intro i hi j hj hne h1 h2
    simp only [Bool.or_eq_true, beq_iff_eq] at h1 h2
    rcases h1 with h1 | h1 <;> rcases h2 with h2 | h2
    · exact a i hi j hj hne h1 h2
    · subst h2; have := (b i h1).2; simp at this; rw [hs]; exact this.2.2
    · subst h1; have := (b j h2).2; simp at this; exact this.2.2
    · subst h1 h2; exact absurd rfl hne
  · intro i hi h1
    simp only [Bool.or_eq_true, beq_iff_eq] at h1
    rcases h1 with h1 | h1
    · have := (b i h1).2; simp at this; exact this.1
    · subst h1; exact hp
/-- With v or without it. -/
theorem al_pivot (hs : ∀ i j, ok i j = ok j i) (hn : l.Nodup) (hv : v ∈ l) (hp : p v = true) : al ok l p = max (al ok l (fun x => p x && x != v)) (1 + al ok l (fun x => p x && (x != v && ok v x))) := by
  have h1 := al_with (ok := ok) hs hn hv hp
  have h2 : al ok l (fun x => p x && x != v) ≤ al ok l p := al_mono hs hn fun i _ h => by simp at h; exact h.1
  obtain ⟨q, a, b, c⟩ := al_has hs l p hn
  have h3 : al ok l p ≤ max (al ok l (fun x => p x && x != v)) (1 + al ok l (fun x => p x && (x != v && ok v x))) := by
    rw [← c]
    cases hq : q v with
    | false =>
      have := al_upper l (fun x => p x && x != v) q hn a fun i hi h => by
        have : i ≠ v := fun e => by rw [e, hq] at h; cases h
        simp [(b i h).2, this]
      omega
    | true =>
      rw [countP_less q l hn hv hq]
      have := al_upper l (fun x => p x && (x != v && ok v x)) (fun x => q x && x != v) hn (fun i hi j hj hne g1 g2 => by
        simp at g1 g2; exact a i hi j hj hne g1.1 g2.1) fun i hi h => by
        simp at h
        simp [(b i h.1).2, h.2, a v hv i hi (Ne.symm h.2) hq h.1]
      omega
  omega
/-- One that is near to one other at most is always taken. -/
theorem al_one (hs : ∀ i j, ok i j = ok j i) (hn : l.Nodup) (hv : v ∈ l) (hp : p v = true) (hd : l.countP (fun x => p x && (x != v && !ok v x)) ≤ 1) : al ok l p = 1 + al ok l (fun x => p x && (x != v && ok v x)) := by
  have h1 := al_with (ok := ok) hs hn hv hp
  have h3 : al ok l p ≤ 1 + al ok l (fun x => p x && (x != v && ok v x)) := by
    obtain ⟨q, a, b, c⟩ := al_has hs l p hn
    rw [← c]
    cases hq : q v with
    | true =>
      rw [countP_less q l hn hv hq]
      have := al_upper l (fun x => p x && (x != v && ok v x)) (fun x => q x && x != v) hn (fun i hi j hj hne g1 g2 => by
        simp at g1 g2; exact a i hi j hj hne g1.1 g2.1) fun i hi h => by
        simp at h
        simp [(b i h.1).2, h.2, a v hv i hi (Ne.symm h.2) hq h.1]
      omega
    | false =>
      by_cases hu : ∃ u ∈ l, q u = true ∧ ok v u = false
      · obtain ⟨u, hul, hqu, hou⟩ := hu
        have huv : u ≠ v := fun e => by rw [e, hq] at hqu; cases hqu
        rw [countP_less q l hn hul hqu]
        have := al_upper l (fun x => p x && (x != v && ok v x)) (fun x => q x && x != u) hn (fun i hi j hj hne g1 g2 => by
          simp at g1 g2; exact a i hi j hj hne g1.1 g2.1) fun i hi h => by
          simp at h
          have hiv : i ≠ v := fun e => by rw [e, hq] at h; cases h.1
          have hoi : ok v i = true := by
            cases ho : ok v i with
            | true => rfl
            | false =>
              have e1 := countP_less (fun x => p x && (x != v && !ok v x)) l hn hul (by simp [(b u hqu).2, huv, hou])
              have e2 := countP_less (fun x => p x && (x != v && !ok v x) && x != u) l hn hi (by simp [(b i h.1).2, hiv, ho, h.2])
              omega
          simp [(b i h.1).2, hiv, hoi]
        omega
      · have := al_upper l (fun x => p x && (x != v && ok v x)) q hn a fun i hi h => by
          have hiv : i ≠ v := fun e => by rw [e, hq] at h; cases h
          have hoi : ok v i = true := by
            cases ho : ok v i with
            | true => rfl
            | false => exact absurd ⟨i, hi, h, ho⟩ hu
          simp [(b i h).2, hiv, hoi]
        omega
  omega
theorem al_none (h : ∀ i ∈ l, p i = false) : al ok l p = 0 := by
  have : al ok l p = al ok l fun _ => false := al_congr l h
  rw [this]
  clear this h
  induction l with
  | nil => rfl
  | cons c r ih => simp [al, ih]
theorem al_pos (hv : v ∈ l) (hs : ∀ i j, ok i j = ok j i) (hn : l.Nodup) (hp : p v = true) : 0 < al ok l p := by
  have := al_with (ok := ok) hs hn hv hp; omega
end
end Sr

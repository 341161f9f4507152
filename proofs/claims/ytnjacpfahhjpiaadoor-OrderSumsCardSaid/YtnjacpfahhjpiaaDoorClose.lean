/-
  Plain theory: the least order with some pairs: built pair by pair, and by rounds.
-/
import Derived.Test.YtnjacpfahhjpiaaDoorPlain
set_option linter.all false
namespace Ord
open Go.Am

inductive Reach (l : List (Nat × Nat)) : Nat → Nat → Prop
  | one {a b : Nat} (h : (a, b) ∈ l) : Reach l a b
  | tr {a b c : Nat} (h1 : Reach l a b) (h2 : Reach l b c) : Reach l a c
theorem Reach.mono {l l' : List (Nat × Nat)} (h : ∀ p ∈ l, p ∈ l') {a b : Nat} (hr : Reach l a b) : Reach l' a b := by
  induction hr with
  | one h1 => exact .one (h _ h1)
  | tr _ _ i1 i2 => exact .tr i1 i2
/-- m pairs, one behind the other. -/
def Path (l : List (Nat × Nat)) : Nat → Nat → Nat → Prop
  | 0, _, _ => False
  | 1, a, b => (a, b) ∈ l
  | m + 2, a, b => ∃ c, (a, c) ∈ l ∧ Path l (m + 1) c b
theorem Path.cat {l : List (Nat × Nat)} : ∀ {m k a b c}, Path l m a b → Path l k b c → Path l (m + k) a c
  | 0, _, _, _, _, h, _ => h.elim
  | 1, 0, _, _, _, _, h => h.elim
  | 1, k + 1, a, b, c, h1, h2 => by
    rw [show 1 + (k + 1) = k + 2 by omega]; exact ⟨b, h1, h2⟩
  | m + 2, k, a, b, c, ⟨d, h1, h2⟩, h3 => by
    rw [show m + 2 + k = (m + k) + 2 by omega]
    have := Path.cat h2 h3
    rw [show m + 1 + k = m + k + 1 by omega] at this
    exact ⟨d, h1, this⟩
theorem Reach.path {l : List (Nat × Nat)} {a b : Nat} (h : Reach l a b) : ∃ m, Path l m a b := by
  induction h with
  | one h => exact ⟨1, h⟩
  | tr _ _ i1 i2 =>
    obtain ⟨m, h1⟩ := i1
    obtain ⟨k, h2⟩ := i2
    exact ⟨_, h1.cat h2⟩
theorem Path.mono {l l' : List (Nat × Nat)} (h : ∀ p ∈ l, p ∈ l') : ∀ {m a b}, Path l m a b → Path l' m a b
  | 0, _, _, hp => hp.elim
  | 1, _, _, hp => h _ hp
  | m + 2, _, _, ⟨c, h1, h2⟩ => ⟨c, h _ h1, h2.mono h⟩

/-- All sets of n elements. -/
def Sets (n : Nat) (o : List Int) : Prop := o.length = n ∧ ∀ i, i < n → o.getD i 0 = (bt o i : Int) ∧ bt o i < 2 ^ n
theorem Sets.bit {n : Nat} {o : List Int} (h : Sets n o) {i j : Nat} (hij : ab o i j = true) : i < n ∧ j < n := by
  have hi : i < n := by
    rcases Nat.lt_or_ge i n with h' | h'
    · exact h'
    · rw [ab, bt_out (by rw [h.1]; exact h')] at hij; simp at hij
  refine ⟨hi, ?_⟩
  rcases Nat.lt_or_ge j n with h' | h'
  · exact h'
  · have := Nat.testBit_lt_two_pow (Nat.lt_of_lt_of_le (h.2 i hi).2 (Nat.pow_le_pow_right (by decide) h'))
    rw [ab, this] at hij; cases hij
theorem Sets.ext {n : Nat} {o o' : List Int} (h : Sets n o) (h' : Sets n o') (he : ∀ i j, ab o i j = ab o' i j) : o = o' := by
  refine List.ext_getElem (h.1.trans h'.1.symm) fun i h1 h2 => ?_
  have e1 : o[i] = o.getD i 0 := by simp [List.getD, h1]
  have e2 : o'[i] = o'.getD i 0 := by simp [List.getD, h2]
  rw [e1, e2, (h.2 i (h.1 ▸ h1)).1, (h'.2 i (h'.1 ▸ h2)).1]
  congr 1
  exact Nat.eq_of_testBit_eq fun j => he i j
theorem ord_sets {o : List Int} (h : ord o = true) : Sets o.length o := ⟨rfl, fun i hi => ord_nat h hi⟩
theorem Sets.ord {n : Nat} {o : List Int} (h : Sets n o) (hn : 1 ≤ n ∧ n ≤ 6) (hp : Po (ab o)) : Ord.ord o = true :=
  ord_of (by rw [h.1]; exact hn) (fun i hi => ⟨_, (h.2 i (by rw [← h.1]; exact hi)).1, by rw [h.1]; exact (h.2 i (by rw [← h.1]; exact hi)).2⟩) hp

/-- No pairs. -/
def zeros (n : Nat) : List Int := List.replicate n 0
theorem zeros_bt {n i : Nat} : bt (zeros n) i = 0 := by
  rw [bt, zeros, List.getD]
  by_cases h : i < n
  · simp [h]
  · simp [List.getElem?_replicate, h]
theorem zeros_sets {n : Nat} : Sets n (zeros n) := ⟨by simp [zeros], fun i hi => ⟨by rw [zeros_bt, zeros, List.getD]; simp [hi], by rw [zeros_bt]; exact Nat.two_pow_pos n⟩⟩
theorem zeros_ab {n i j : Nat} : ab (zeros n) i j = false := by rw [ab, zeros_bt, Nat.zero_testBit]
theorem zeros_ord {n : Nat} (hn : 1 ≤ n ∧ n ≤ 6) : ord (zeros n) = true :=
  zeros_sets.ord hn ⟨fun i => zeros_ab, fun i j k h _ => by rw [zeros_ab] at h; cases h⟩

/-- The pairs one by one. -/
def close (o : List Int) : List (Nat × Nat) → Option (List Int)
  | [] => some o
  | (i, j) :: l => if i = j ∨ ab o j i = true then none else close (addL o i j) l

theorem addR_reach {r : Nat → Nat → Bool} {d : List (Nat × Nat)} (hp : Po r) (hr : ∀ a b, r a b = true ↔ Reach d a b) {i j : Nat} (hn : i ≠ j) (hji : r j i = false) :
    ∀ a b, addR r i j a b = true ↔ Reach (d ++ [(i, j)]) a b := by
  have hpo := addR_po hp hn hji
  intro a b
  constructor
  · intro h
    have hm : ∀ {x y}, r x y = true → Reach (d ++ [(i, j)]) x y := fun h => ((hr _ _).1 h).mono fun p hp => List.mem_append.2 (.inl hp)
    have hij : Reach (d ++ [(i, j)]) i j := .one (by simp)
    simp only [addR, Bool.or_eq_true, Bool.and_eq_true, beq_iff_eq] at h
    rcases h with h | ⟨h1, h2⟩
    · exact hm h
    · have ha : Reach (d ++ [(i, j)]) a j := by
        rcases h1 with rfl | h1
        · exact hij
        · exact .tr (hm h1) hij
      rcases h2 with rfl | h2
      · exact ha
      · exact .tr ha (hm h2)
  · intro h
    induction h with
    | one h =>
      rcases List.mem_append.1 h with h | h
      · simp only [addR, Bool.or_eq_true]; exact .inl ((hr _ _).2 (.one h))
      · simp only [List.mem_singleton, Prod.mk.injEq] at h
        obtain ⟨rfl, rfl⟩ := h
        simp [addR]
    | tr _ _ i1 i2 => exact hpo.tr _ _ _ i1 i2

/-- What comes of the pairs: the order that they reach; or some path leads back. -/
theorem close_spec {n : Nat} (hn : 1 ≤ n ∧ n ≤ 6) : ∀ (l d : List (Nat × Nat)) (o : List Int), ord o = true → o.length = n → (∀ a b, ab o a b = true ↔ Reach d a b) → (∀ p ∈ l, p.1 < n ∧ p.2 < n) →
    (∀ o', close o l = some o' → ord o' = true ∧ o'.length = n ∧ ∀ a b, ab o' a b = true ↔ Reach (d ++ l) a b) ∧ (close o l = none → ∃ i m, m ≤ n + 1 ∧ Path (d ++ l) m i i)
  | [], d, o, ho, hl, hr, _ => by
    refine ⟨fun o' h => ?_, fun h => ?_⟩
    · simp only [close, Option.some.injEq] at h; subst h; rw [List.append_nil]; exact ⟨ho, hl, hr⟩
    · simp [close] at h
  | (i, j) :: l, d, o, ho, hl, hr, hp => by
    obtain ⟨hi, hj⟩ := hp (i, j) (by simp)
    simp only at hi hj
    have hpo := ord_po ho
    by_cases hc : i = j ∨ ab o j i = true
    · refine ⟨fun o' h => by simp [close, hc] at h, fun _ => ⟨i, ?_⟩⟩
      by_cases hij : i = j
      · exact ⟨1, by omega, by subst hij; show (i, i) ∈ _; simp⟩
      · obtain ⟨m, hm⟩ := ((hr _ _).1 (hc.resolve_left hij)).path
        have key : ∀ m a b, Path d m a b → m ≤ (bits (bt o a)).length := by
          intro m
          induction m with
          | zero => intro a b h; exact h.elim
          | succ m ih =>
            intro a b h
            have hstep : ∀ c, (a, c) ∈ d → c ∈ bits (bt o a) := fun c hc => mem_bits.2 (by
              have h1 := (hr a c).2 (.one hc)
              have := (ab_lt ho h1).2
              exact ⟨by omega, h1⟩)
            cases m with
            | zero =>
              have hb := hstep b h
              have := List.length_pos_of_mem hb
              omega
            | succ m =>
              obtain ⟨c, h1, h2⟩ := h
              have h3 := ih c b h2
              have hcm := hstep c h1
              have hac := (hr a c).2 (.one h1)
              have : (bits (bt o c)).length < (bits (bt o a)).length := by
                have hsub : ∀ x, x ∈ bits (bt o c) → x ∈ (bits (bt o a)).erase c := fun x hx => by
                  obtain ⟨hx1, hx2⟩ := mem_bits.1 hx
                  have hcx : ab o c x = true := hx2
                  have hne : x ≠ c := fun e => by rw [e, hpo.irr] at hcx; cases hcx
                  exact (List.mem_erase_of_ne hne).2 (mem_bits.2 ⟨hx1, hpo.tr _ _ _ hac hcx⟩)
                have hle : (bits (bt o c)).length ≤ ((bits (bt o a)).erase c).length := by
                  have : ∀ {l1 l2 : List Nat}, l1.Nodup → (∀ x, x ∈ l1 → x ∈ l2) → l1.length ≤ l2.length := by
                    intro l1
                    induction l1 with
                    | nil => intro l2 _ _; exact Nat.zero_le _
                    | cons x l1 ih =>
                      intro l2 hnd hs
                      have hx := hs x (by simp)
                      have hx2 := List.nodup_cons.1 hnd
                      have := ih (l2 := l2.erase x) hx2.2 fun y hy => (List.mem_erase_of_ne (fun (e : y = x) => hx2.1 (e ▸ hy))).2 (hs y (by simp [hy]))
                      rw [List.length_erase_of_mem hx] at this
                      have := List.length_pos_of_mem hx
                      simp only [List.length_cons]; omega
                  exact this (bits_nodup _) hsub
                rw [List.length_erase_of_mem hcm] at hle
                have := List.length_pos_of_mem hcm
                omega
              omega
        have hmn : m ≤ n := by
          have h1 := key m j i hm
          have h2 : (bits (bt o j)).length ≤ n := by
            rw [bits_range (n := n) (by rw [← hl]; exact (ord_nat ho (by omega)).2) (by omega)]
            have := List.length_filter_le (fun i => (bt o j).testBit i) (List.range n)
            rw [List.length_range] at this; exact this
          omega
        refine ⟨1 + m, by omega, ?_⟩
        have h1 : Path (d ++ (i, j) :: l) 1 i j := by show (i, j) ∈ _; simp
        exact h1.cat (hm.mono fun p hp => List.mem_append.2 (.inl hp))
    · have hij : i ≠ j := fun h => hc (.inl h)
      have hji : ab o j i = false := by
        cases e : ab o j i with
        | false => rfl
        | true => exact absurd (.inr e) hc
      have ih := close_spec hn l (d ++ [(i, j)]) (addL o i j) (addL_ord ho (by omega) (by omega) hij hji) (by rw [addL_len]; exact hl)
        (by rw [addL_ab (by omega) ho]; exact addR_reach hpo hr hij hji) (fun p hp' => hp p (by simp [hp']))
      rw [List.append_assoc, List.singleton_append] at ih
      have e : close o ((i, j) :: l) = close (addL o i j) l := by rw [close, if_neg hc]
      rw [e]
      exact ih

/-! By rounds. -/
def cstep (o : List Int) (i j : Nat) : List Int := if ab o i j = true then o.set i ((bt o i ||| bt o j : Nat) : Int) else o
def rowTo (o : List Int) (i : Nat) : Nat → List Int
  | 0 => o
  | j + 1 => cstep (rowTo o i j) i j
def rndTo (n : Nat) (o : List Int) : Nat → List Int
  | 0 => o
  | i + 1 => rowTo (rndTo n o i) i n
def rnds (n : Nat) (o : List Int) : Nat → List Int
  | 0 => o
  | t + 1 => rndTo n (rnds n o t) n
/-- The pairs as they are. -/
def pairsL (o : List Int) : List (Nat × Nat) → List Int
  | [] => o
  | (i, j) :: l => pairsL (o.set i ((bt o i ||| 2 ^ j : Nat) : Int)) l

theorem set_bt {o : List Int} {i s a : Nat} (hi : i < o.length) : bt (o.set i (s : Int)) a = if a = i then s else bt o a := by
  by_cases h : a = i
  · subst h; rw [if_pos rfl, bt, List.getD, List.getElem?_set_self hi]; simp
  · rw [if_neg h, bt, bt, List.getD, List.getD, List.getElem?_set_ne (Ne.symm h)]
theorem set_sets {n : Nat} {o : List Int} (h : Sets n o) {i s : Nat} (hs : s < 2 ^ n) : Sets n (o.set i (s : Int)) := by
  refine ⟨by rw [List.length_set]; exact h.1, fun a ha => ?_⟩
  by_cases hi : i < n
  · rw [set_bt (by rw [h.1]; exact hi)]
    by_cases hai : a = i
    · subst hai
      rw [if_pos rfl]
      refine ⟨?_, hs⟩
      rw [List.getD, List.getElem?_set_self (by rw [h.1]; exact hi)]; rfl
    · rw [if_neg hai]
      refine ⟨?_, (h.2 a ha).2⟩
      rw [List.getD, List.getElem?_set_ne (Ne.symm hai)]
      exact (h.2 a ha).1
  · rw [List.set_eq_of_length_le (by rw [h.1]; omega)]
    exact h.2 a ha
theorem pairsL_spec {n : Nat} : ∀ (l : List (Nat × Nat)) (o : List Int), Sets n o → (∀ p ∈ l, p.1 < n ∧ p.2 < n) → Sets n (pairsL o l) ∧ ∀ a b, ab (pairsL o l) a b = true ↔ ab o a b = true ∨ (a, b) ∈ l
  | [], o, h, _ => ⟨h, fun a b => by simp [pairsL]⟩
  | (i, j) :: l, o, h, hp => by
    obtain ⟨hi, hj⟩ := hp (i, j) (by simp)
    simp only at hi hj
    have hs := set_sets h (i := i) (s := bt o i ||| 2 ^ j) (Nat.or_lt_two_pow (h.2 i hi).2 (Nat.pow_lt_pow_right (by decide) hj))
    obtain ⟨h1, h2⟩ := pairsL_spec l _ hs fun p hp' => hp p (by simp [hp'])
    refine ⟨h1, fun a b => ?_⟩
    rw [pairsL, h2, ab, set_bt (by rw [h.1]; exact hi), List.mem_cons, Prod.mk.injEq]
    by_cases ha : a = i
    · subst ha
      rw [if_pos rfl, Nat.testBit_or, Nat.testBit_two_pow, Bool.or_eq_true, decide_eq_true_eq]
      constructor
      · rintro ((h | h) | h)
        · exact .inl h
        · exact .inr (.inl ⟨rfl, h.symm⟩)
        · exact .inr (.inr h)
      · rintro (h | ⟨-, h⟩ | h)
        · exact .inl (.inl h)
        · exact .inl (.inr h.symm)
        · exact .inr h
    · rw [if_neg ha]
      constructor
      · rintro (h | h)
        · exact .inl h
        · exact .inr (.inr h)
      · rintro (h | ⟨h, -⟩ | h)
        · exact .inl h
        · exact absurd h ha
        · exact .inr h

/-- What a step keeps: sets; nothing is lost; nothing comes that is not reached. -/
structure Good (n : Nat) (l : List (Nat × Nat)) (o o' : List Int) : Prop where
  sets : Sets n o'
  mono : ∀ a b, ab o a b = true → ab o' a b = true
  sound : (∀ a b, ab o a b = true → Reach l a b) → ∀ a b, ab o' a b = true → Reach l a b
theorem Good.refl {n : Nat} {l : List (Nat × Nat)} {o : List Int} (h : Sets n o) : Good n l o o := ⟨h, fun _ _ h => h, fun h => h⟩
theorem Good.trans {n : Nat} {l : List (Nat × Nat)} {o o' o'' : List Int} (h1 : Good n l o o') (h2 : Good n l o' o'') : Good n l o o'' :=
  ⟨h2.sets, fun a b h => h2.mono a b (h1.mono a b h), fun h => h2.sound (h1.sound h)⟩
theorem cstep_good {n : Nat} {l : List (Nat × Nat)} {o : List Int} (h : Sets n o) {i j : Nat} (hi : i < n) (hj : j < n) : Good n l o (cstep o i j) ∧ (ab o i j = true → ∀ b, ab o j b = true → ab (cstep o i j) i b = true) := by
  by_cases hc : ab o i j = true
  · rw [cstep, if_pos hc]
    have hb : ∀ a b, ab (o.set i ((bt o i ||| bt o j : Nat) : Int)) a b = if a = i then (ab o i b || ab o j b) else ab o a b := fun a b => by
      rw [ab, set_bt (by rw [h.1]; exact hi)]
      split
      · rw [Nat.testBit_or]; rfl
      · rfl
    refine ⟨⟨set_sets h (Nat.or_lt_two_pow (h.2 i hi).2 (h.2 j hj).2), fun a b hab => ?_, fun hs a b hab => ?_⟩, fun _ b hjb => ?_⟩
    · rw [hb]; split
      · next h' => subst h'; rw [hab]; rfl
      · exact hab
    · rw [hb] at hab
      split at hab
      · next h' =>
        subst h'
        rw [Bool.or_eq_true] at hab
        exact hab.elim (hs _ _) fun h' => .tr (hs _ _ hc) (hs _ _ h')
      · exact hs _ _ hab
    · rw [hb, if_pos rfl, hjb, Bool.or_true]
  · rw [cstep, if_neg hc]
    exact ⟨.refl h, fun h' => absurd h' hc⟩
theorem rowTo_good {n : Nat} {l : List (Nat × Nat)} {o : List Int} (h : Sets n o) {i : Nat} (hi : i < n) : ∀ m, m ≤ n → Good n l o (rowTo o i m) ∧ ∀ c, c < m → ab o i c = true → ∀ b, ab o c b = true → ab (rowTo o i m) i b = true
  | 0, _ => ⟨.refl h, fun c hc => by omega⟩
  | m + 1, hm => by
    obtain ⟨h1, h2⟩ := rowTo_good h hi m (by omega) (l := l)
    obtain ⟨h3, h4⟩ := cstep_good h1.sets hi (show m < n by omega) (l := l)
    refine ⟨h1.trans h3, fun c hc hic b hcb => ?_⟩
    rw [rowTo]
    by_cases hcm : c = m
    · subst hcm
      exact h4 (h1.mono _ _ hic) b (h1.mono _ _ hcb)
    · exact h3.mono _ _ (h2 c (by omega) hic b hcb)
theorem rndTo_good {n : Nat} {l : List (Nat × Nat)} {o : List Int} (h : Sets n o) : ∀ m, m ≤ n → Good n l o (rndTo n o m) ∧ ∀ i, i < m → ∀ c, ab o i c = true → ∀ b, ab o c b = true → ab (rndTo n o m) i b = true
  | 0, _ => ⟨.refl h, fun i hi => by omega⟩
  | m + 1, hm => by
    obtain ⟨h1, h2⟩ := rndTo_good h m (by omega) (l := l)
    obtain ⟨h3, h4⟩ := rowTo_good h1.sets (show m < n by omega) n (Nat.le_refl _) (l := l)
    refine ⟨h1.trans h3, fun i hi c hic b hcb => ?_⟩
    rw [rndTo]
    by_cases him : i = m
    · subst him
      exact h4 c (h.bit hic).2 (h1.mono _ _ hic) b (h1.mono _ _ hcb)
    · exact h3.mono _ _ (h2 i (by omega) c hic b hcb)
theorem rnds_good {n : Nat} {l : List (Nat × Nat)} {o : List Int} (h : Sets n o) (hl : ∀ p ∈ l, ab o p.1 p.2 = true) : ∀ t, Good n l o (rnds n o t) ∧ ∀ m, m ≤ t + 1 → ∀ a b, Path l m a b → ab (rnds n o t) a b = true
  | 0 => ⟨.refl h, fun m hm a b hp => by
      match m, hm, hp with
      | 1, _, hp => exact hl (a, b) hp⟩
  | t + 1 => by
    obtain ⟨h1, h2⟩ := rnds_good h hl t
    obtain ⟨h3, h4⟩ := rndTo_good h1.sets n (Nat.le_refl _) (l := l)
    refine ⟨h1.trans h3, fun m hm a b hp => ?_⟩
    rw [rnds]
    by_cases hmt : m ≤ t + 1
    · exact h3.mono _ _ (h2 m hmt a b hp)
    · obtain rfl : m = t + 2 := by omega
      obtain ⟨c, hac, hcb⟩ := hp
      have hac' := h1.mono _ _ (hl (a, c) hac)
      exact h4 a (h1.sets.bit hac').1 c hac' b (h2 (t + 1) (Nat.le_refl _) c b hcb)

/-- Both roads to the least order with some pairs. -/
theorem close_rnds {n : Nat} (hn : 1 ≤ n ∧ n ≤ 6) {l : List (Nat × Nat)} (hp : ∀ p ∈ l, p.1 < n ∧ p.2 < n) :
    close (zeros n) l = if (List.range n).any (fun i => ab (rnds n (pairsL (zeros n) l) n) i i) = true then none else some (rnds n (pairsL (zeros n) l) n) := by
  obtain ⟨p1, p2⟩ := pairsL_spec l (zeros n) zeros_sets hp
  have hl : ∀ p ∈ l, ab (pairsL (zeros n) l) p.1 p.2 = true := fun p hp => (p2 _ _).2 (.inr hp)
  obtain ⟨g1, g2⟩ := rnds_good p1 hl n
  have hs := g1.sound fun a b h => .one (((p2 a b).1 h).resolve_left (by rw [zeros_ab]; simp))
  have hnil : ∀ a b, Reach [] a b → False := by
    intro a b h
    induction h with
    | one h => cases h
    | tr _ _ i _ => exact i
  obtain ⟨c1, c2⟩ := close_spec hn l [] (zeros n) (zeros_ord hn) (by simp [zeros]) (fun a b => ⟨fun h => (by rw [zeros_ab] at h; cases h), fun h => (hnil a b h).elim⟩) hp
  rw [List.nil_append] at c1 c2
  cases hc : close (zeros n) l with
  | none =>
    obtain ⟨i, m, hm, hpath⟩ := c2 hc
    have h1 := g2 m hm i i hpath
    have hany : (List.range n).any (fun i => ab (rnds n (pairsL (zeros n) l) n) i i) = true := List.any_eq_true.2 ⟨i, List.mem_range.2 (g1.sets.bit h1).1, h1⟩
    rw [hany, if_pos rfl]
  | some o =>
    obtain ⟨ho, hlen, hr⟩ := c1 o hc
    have hiff : ∀ a b, ab (rnds n (pairsL (zeros n) l) n) a b = ab o a b := fun a b => by
      rw [Bool.eq_iff_iff]
      constructor
      · exact fun h => (hr a b).2 (hs a b h)
      · intro h
        obtain ⟨m, hm⟩ := ((hr a b).1 h).path
        refine g2 m ?_ a b hm
        -- paths of an order are short
        have key : ∀ m a b, Path l m a b → m ≤ (bits (bt o a)).length := by
          intro m
          induction m with
          | zero => intro a b h; exact h.elim
          | succ m ih =>
            intro a b h
            have hstep : ∀ c, (a, c) ∈ l → c ∈ bits (bt o a) := fun c hc => mem_bits.2 (by
              have h1 := (hr a c).2 (.one hc)
              have := (ab_lt ho h1).2
              exact ⟨by omega, h1⟩)
            cases m with
            | zero =>
              have hb := hstep b h
              have := List.length_pos_of_mem hb
              omega
            | succ m =>
              obtain ⟨c, h1, h2⟩ := h
              have h3 := ih c b h2
              have hcm := hstep c h1
              have hac := (hr a c).2 (.one h1)
              have : (bits (bt o c)).length < (bits (bt o a)).length := by
                have hsub : ∀ x, x ∈ bits (bt o c) → x ∈ (bits (bt o a)).erase c := fun x hx => by
                  obtain ⟨hx1, hx2⟩ := mem_bits.1 hx
                  have hcx : ab o c x = true := hx2
                  have hne : x ≠ c := fun e => by rw [e, (ord_po ho).irr] at hcx; cases hcx
                  exact (List.mem_erase_of_ne hne).2 (mem_bits.2 ⟨hx1, (ord_po ho).tr _ _ _ hac hcx⟩)
                have hle : (bits (bt o c)).length ≤ ((bits (bt o a)).erase c).length := by
                  have : ∀ {l1 l2 : List Nat}, l1.Nodup → (∀ x, x ∈ l1 → x ∈ l2) → l1.length ≤ l2.length := by
                    intro l1
                    induction l1 with
                    | nil => intro l2 _ _; exact Nat.zero_le _
                    | cons x l1 ih =>
                      intro l2 hnd hs
                      have hx := hs x (by simp)
                      have hx2 := List.nodup_cons.1 hnd
                      have := ih (l2 := l2.erase x) hx2.2 fun y hy => (List.mem_erase_of_ne (fun (e : y = x) => hx2.1 (e ▸ hy))).2 (hs y (by simp [hy]))
                      rw [List.length_erase_of_mem hx] at this
                      have := List.length_pos_of_mem hx
                      simp only [List.length_cons]; omega
                  exact this (bits_nodup _) hsub
                rw [List.length_erase_of_mem hcm] at hle
                have := List.length_pos_of_mem hcm
                omega
              omega
        have h1 := key m a b hm
        have h2 : (bits (bt o a)).length ≤ n := by
          rw [bits_range (n := n) (by rw [← hlen]; exact (ord_nat ho (ab_lt ho h).1).2) (by omega)]
          have := List.length_filter_le (fun i => (bt o a).testBit i) (List.range n)
          rw [List.length_range] at this; exact this
        omega
    have hno : (List.range n).any (fun i => ab (rnds n (pairsL (zeros n) l) n) i i) = false := by
      rw [List.any_eq_false]
      intro i _
      rw [hiff, (ord_po ho).irr]; decide
    rw [hno, if_neg (by decide)]
    congr 1
    exact ((hlen ▸ ord_sets ho : Sets n o)).ext g1.sets fun i j => (hiff i j).symm
end Ord

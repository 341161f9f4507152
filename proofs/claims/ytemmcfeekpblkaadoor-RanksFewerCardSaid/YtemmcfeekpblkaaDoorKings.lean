/-
  Kings of a tournament: plain counting. Whoever beats the most reaches all in two; who is beaten is beaten by a king.
-/
import Derived.Test.YtemmcfeekpblkaaDoorTypes
set_option linter.all false
namespace Go.Proofs.Tryd.Kings

/-- How many of a list. -/
def ct {α : Type} (p : α → Bool) : List α → Nat
  | [] => 0
  | x :: l => (if p x = true then 1 else 0) + ct p l

section
variable {α : Type} {p q : α → Bool}
theorem ct_le : ∀ {l : List α}, (∀ x ∈ l, p x = true → q x = true) → ct p l ≤ ct q l
  | [], _ => Nat.le_refl _
  | x :: l, h => by
    have h1 := h x (by simp)
    have h2 := ct_le (l := l) fun y hy => h y (by simp [hy])
    simp only [ct]
    split
    · rw [if_pos (h1 (by assumption))]; omega
    · split <;> omega
theorem ct_lt : ∀ {l : List α}, (∀ x ∈ l, p x = true → q x = true) → (∃ x ∈ l, q x = true ∧ p x = false) → ct p l < ct q l
  | [], _, ⟨_, h, _⟩ => by cases h
  | x :: l, h, ⟨y, hy, hq, hp⟩ => by
    have h1 := h x (by simp)
    have h2 := ct_le (l := l) fun y hy => h y (by simp [hy])
    simp only [ct]
    rcases List.mem_cons.1 hy with rfl | hy
    · rw [if_neg (by rw [hp]; decide), if_pos hq]; omega
    · have h3 := ct_lt (l := l) (fun y hy => h y (by simp [hy])) ⟨y, hy, hq, hp⟩
      split
      · rw [if_pos (h1 (by assumption))]; omega
      · split <;> omega
theorem ct_congr {l : List α} (h : ∀ x ∈ l, p x = q x) : ct p l = ct q l :=
  Nat.le_antisymm (ct_le fun x hx hp => by rw [← h x hx]; exact hp) (ct_le fun x hx hp => by rw [h x hx]; exact hp)
theorem ct_filter : ∀ l : List α, (l.filter p).length = ct p l
  | [] => rfl
  | x :: l => by
    rw [List.filter_cons]; simp only [ct]
    split
    · rw [List.length_cons, ct_filter l]; omega
    · rw [ct_filter l]; omega
theorem ct_false : ∀ l : List α, ct (fun _ => false) l = 0
  | [] => rfl
  | x :: l => by simp only [ct]; rw [ct_false l]; rfl
theorem ct_append : ∀ l l' : List α, ct p (l ++ l') = ct p l + ct p l'
  | [], l' => by simp [ct]
  | x :: l, l' => by simp only [List.cons_append, ct]; rw [ct_append l l']; omega
theorem most (f : α → Nat) : ∀ {l : List α}, l ≠ [] → ∃ u ∈ l, ∀ w ∈ l, f w ≤ f u
  | [], h => absurd rfl h
  | [x], _ => ⟨x, by simp, fun w hw => by rw [List.mem_singleton.1 hw]; exact Nat.le_refl _⟩
  | x :: y :: l, _ => by
    obtain ⟨u, hu, hm⟩ := most f (l := y :: l) (by simp)
    by_cases h : f x ≤ f u
    · exact ⟨u, List.mem_cons_of_mem _ hu, fun w hw => by rcases List.mem_cons.1 hw with rfl | hw; exact h; exact hm w hw⟩
    · exact ⟨x, by simp, fun w hw => by rcases List.mem_cons.1 hw with rfl | hw; exact Nat.le_refl _; have := hm w hw; omega⟩
end

/-- Of two, just one beats the other; nobody beats himself. -/
def Trn (n : Nat) (b : Nat → Nat → Bool) : Prop := (∀ i j, i < n → j < n → i ≠ j → b i j = !b j i) ∧ ∀ i, i < n → b i i = false

def King (n : Nat) (b : Nat → Nat → Bool) (i : Nat) : Prop := ∀ w, w < n → w = i ∨ b i w = true ∨ ∃ j, j < n ∧ b i j = true ∧ b j w = true

variable {n : Nat} {b : Nat → Nat → Bool}

/-- Whoever beats the most of a list reaches all of it in two. -/
theorem most_king (ht : Trn n b) {L : List Nat} (hL : ∀ x ∈ L, x < n) {u : Nat} (hu : u ∈ L) (hm : ∀ w ∈ L, ct (b w) L ≤ ct (b u) L) : ∀ w ∈ L, w = u ∨ b u w = true ∨ ∃ j ∈ L, b u j = true ∧ b j w = true := by
  intro w hw
  by_cases h1 : w = u
  · exact .inl h1
  cases h2 : b u w with
  | true => exact .inr (.inl rfl)
  | false =>
    refine .inr (.inr ?_)
    apply Classical.byContradiction
    intro h3
    have hlt : ct (b u) L < ct (b w) L := by
      refine ct_lt (fun j hj hb => ?_) ⟨u, hu, ?_, ht.2 u (hL u hu)⟩
      · have hjw : j ≠ w := fun h => by rw [h, h2] at hb; cases hb
        cases h4 : b j w with
        | true => exact absurd ⟨j, hj, hb, h4⟩ h3
        | false => rw [ht.1 w j (hL w hw) (hL j hj) (Ne.symm hjw), h4]; rfl
      · rw [ht.1 w u (hL w hw) (hL u hu) h1, h2]; rfl
    have := hm w hw
    omega

theorem king_most (ht : Trn n b) {u : Nat} (hu : u < n) (hm : ∀ w, w < n → ct (b w) (List.range n) ≤ ct (b u) (List.range n)) : King n b u := by
  intro w hw
  rcases most_king ht (L := List.range n) (fun x hx => List.mem_range.1 hx) (List.mem_range.2 hu) (fun w hw => hm w (List.mem_range.1 hw)) w (List.mem_range.2 hw) with h | h | ⟨j, hj, h⟩
  · exact .inl h
  · exact .inr (.inl h)
  · exact .inr (.inr ⟨j, List.mem_range.1 hj, h⟩)

/-- Who is beaten is beaten by a king. -/
theorem king_over (ht : Trn n b) {v : Nat} (hv : v < n) (hb : ∃ u, u < n ∧ b u v = true) : ∃ u, u < n ∧ b u v = true ∧ King n b u := by
  obtain ⟨u0, hu0, hb0⟩ := hb
  let L := (List.range n).filter fun u => b u v
  have hmem : ∀ x, x ∈ L ↔ x < n ∧ b x v = true := fun x => by simp [L, List.mem_filter]
  obtain ⟨u, hu, hm⟩ := most (fun u => ct (b u) L) (List.ne_nil_of_mem ((hmem u0).2 ⟨hu0, hb0⟩))
  have hun := (hmem u).1 hu
  refine ⟨u, hun.1, hun.2, fun w hw => ?_⟩
  by_cases hwv : w = v
  · exact .inr (.inl (hwv ▸ hun.2))
  cases hbw : b w v with
  | true =>
    rcases most_king ht (L := L) (fun x hx => ((hmem x).1 hx).1) hu hm w ((hmem w).2 ⟨hw, hbw⟩) with h | h | ⟨j, hj, h⟩
    · exact .inl h
    · exact .inr (.inl h)
    · exact .inr (.inr ⟨j, ((hmem j).1 hj).1, h⟩)
  | false => exact .inr (.inr ⟨v, hv, hun.2, by rw [ht.1 v w hv hw (Ne.symm hwv), hbw]; rfl⟩)

theorem ct_eq_one : ∀ {n i : Nat}, i < n → ct (fun x => x == i) (List.range n) = 1
  | 0, _, h => by omega
  | n + 1, i, h => by
    rw [List.range_succ, ct_append]
    by_cases hi : i = n
    · subst hi
      have : ct (fun x => x == i) (List.range i) = 0 := by
        rw [← ct_false (List.range i)]
        exact ct_congr fun x hx => by have := List.mem_range.1 hx; simp; omega
      rw [this]; simp [ct]
    · rw [ct_eq_one (show i < n by omega)]
      have : (n == i) = false := by simp; omega
      simp [ct, this]

/-- One who beats all others is the only king. -/
theorem one_king (ht : Trn n b) {i : Nat} (hi : i < n) (hall : ∀ j, j < n → j ≠ i → b i j = true) {K : Nat → Bool} (hK : ∀ j, j < n → (K j = true ↔ King n b j)) : ct K (List.range n) = 1 := by
  rw [← ct_eq_one hi]
  refine ct_congr fun j hj => ?_
  have hjn := List.mem_range.1 hj
  by_cases hji : j = i
  · subst hji
    rw [(hK j hjn).2 (fun w hw => by by_cases h : w = j; exact .inl h; exact .inr (.inl (hall w hw h)))]; simp
  · have : ¬ King n b j := fun hk => by
      rcases hk i hi with h | h | ⟨m, hm, h1, h2⟩
      · exact hji h.symm
      · rw [ht.1 j i hjn hi hji, hall j hjn hji] at h; cases h
      · by_cases hmi : m = i
        · subst hmi; rw [ht.1 j m hjn hm hji, hall j hjn hji] at h1; cases h1
        · rw [ht.1 m i hm hi hmi, hall m hm hmi] at h2; cases h2
    have hf : K j = false := by
      cases h : K j with
      | true => exact absurd ((hK j hjn).1 h) this
      | false => rfl
    rw [hf]; simp; exact hji
/-- Else there are at least three. -/
theorem three_kings (ht : Trn n b) (hn : 0 < n) (hno : ∀ i, i < n → ∃ j, j < n ∧ b j i = true) {K : Nat → Bool} (hK : ∀ j, j < n → (K j = true ↔ King n b j)) : 3 ≤ ct K (List.range n) := by
  obtain ⟨u, hu, hm⟩ := most (fun u => ct (b u) (List.range n)) (l := List.range n) (by rw [Ne, List.range_eq_nil]; omega)
  have hun := List.mem_range.1 hu
  have k1 := king_most ht hun (fun w hw => hm w (List.mem_range.2 hw))
  obtain ⟨v, hv, hvu, k2⟩ := king_over ht hun (hno u hun)
  obtain ⟨w, hw, hwv, k3⟩ := king_over ht hv (hno v hv)
  have huv : u ≠ v := fun h => by rw [h, ht.2 v hv] at hvu; cases hvu
  have hvw : v ≠ w := fun h => by rw [h, ht.2 w hw] at hwv; cases hwv
  have huw : u ≠ w := fun h => by rw [← h, ht.1 u v hun hv huv, hvu] at hwv; cases hwv
  have c1 : ct (fun _ => false) (List.range n) < ct (fun x => x == u) (List.range n) := ct_lt (fun _ _ h => by cases h) ⟨u, hu, by simp, rfl⟩
  have c2 : ct (fun x => x == u) (List.range n) < ct (fun x => x == u || x == v) (List.range n) := ct_lt (fun x _ h => by simp at h ⊢; exact .inl h) ⟨v, List.mem_range.2 hv, by simp, by simp; exact fun h => huv h.symm⟩
  have c3 : ct (fun x => x == u || x == v) (List.range n) < ct (fun x => x == u || x == v || x == w) (List.range n) := ct_lt (fun x _ h => by simp at h ⊢; exact .inl h) ⟨w, List.mem_range.2 hw, by simp, by simp; exact ⟨fun h => huw h.symm, fun h => hvw h.symm⟩⟩
  have c4 : ct (fun x => x == u || x == v || x == w) (List.range n) ≤ ct K (List.range n) := ct_le fun x hx h => by
    have hxn := List.mem_range.1 hx
    rw [hK x hxn]
    simp at h
    rcases h with (rfl | rfl) | rfl
    · exact k1
    · exact k2
    · exact k3
  rw [ct_false] at c1
  omega
end Go.Proofs.Tryd.Kings

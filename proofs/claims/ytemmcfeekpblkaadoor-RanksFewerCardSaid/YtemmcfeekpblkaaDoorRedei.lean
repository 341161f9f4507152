/-
  The number of ways through a tournament is odd (Rédei): plain counting.
-/
import Derived.Test.YtemmcfeekpblkaaDoorTypes
set_option linter.all false
namespace Go.Proofs.Tryd.Redei

/-- The sum of f over a list. -/
def sm {α : Type} (f : α → Nat) : List α → Nat
  | [] => 0
  | x :: l => f x + sm f l

section
variable {α β : Type}
theorem sm_congr {f g : α → Nat} : ∀ {l : List α}, (∀ x ∈ l, f x = g x) → sm f l = sm g l
  | [], _ => rfl
  | x :: l, h => by simp only [sm]; rw [h x (by simp), sm_congr fun y hy => h y (by simp [hy])]
theorem sm_add (f g : α → Nat) : ∀ l : List α, sm (fun x => f x + g x) l = sm f l + sm g l
  | [] => rfl
  | x :: l => by simp only [sm]; rw [sm_add f g l]; omega
theorem sm_zero : ∀ l : List α, sm (fun _ => 0) l = 0
  | [] => rfl
  | x :: l => by simp only [sm]; rw [sm_zero l]
theorem sm_map (f : β → Nat) (g : α → β) : ∀ l : List α, sm f (l.map g) = sm (fun x => f (g x)) l
  | [] => rfl
  | x :: l => by simp only [List.map_cons, sm]; rw [sm_map f g l]
theorem sm_append (f : α → Nat) : ∀ l l' : List α, sm f (l ++ l') = sm f l + sm f l'
  | [], l' => by simp [sm]
  | x :: l, l' => by simp only [List.cons_append, sm]; rw [sm_append f l l']; omega
theorem sm_mul (c : Nat) (f : α → Nat) : ∀ l : List α, sm (fun x => c * f x) l = c * sm f l
  | [] => rfl
  | x :: l => by simp only [sm]; rw [sm_mul c f l, Nat.mul_add]
theorem sm_mul' (c : Nat) (f : α → Nat) (l : List α) : sm (fun x => f x * c) l = sm f l * c := by
  rw [Nat.mul_comm, ← sm_mul]; exact sm_congr fun x _ => Nat.mul_comm _ _
theorem sm_swap (f : α → β → Nat) : ∀ (l : List α) (l' : List β), sm (fun x => sm (f x) l') l = sm (fun y => sm (fun x => f x y) l) l'
  | [], l' => by simp only [sm]; rw [sm_zero]
  | x :: l, l' => by simp only [sm]; rw [sm_swap f l l', ← sm_add]
theorem sm_mod {f g : α → Nat} : ∀ {l : List α}, (∀ x ∈ l, f x % 2 = g x % 2) → sm f l % 2 = sm g l % 2
  | [], _ => rfl
  | x :: l, h => by
    have h1 := h x (by simp)
    have h2 := sm_mod (l := l) fun y hy => h y (by simp [hy])
    simp only [sm]; omega
end

/-- One picked out of a list, and the rest. -/
def picks : List Nat → List (Nat × List Nat)
  | [] => []
  | x :: S => (x, S) :: (picks S).map fun p => (p.1, x :: p.2)
/-- A list parted in two. -/
def splits : List Nat → List (List Nat × List Nat)
  | [] => [([], [])]
  | x :: S => (splits S).map (fun p => (x :: p.1, p.2)) ++ (splits S).map (fun p => (p.1, x :: p.2))

theorem picks_len : ∀ {S : List Nat} {p}, p ∈ picks S → p.2.length + 1 = S.length
  | [], p, h => by simp [picks] at h
  | x :: S, p, h => by
    simp only [picks, List.mem_cons, List.mem_map] at h
    rcases h with rfl | ⟨q, hq, rfl⟩
    · rfl
    · have := picks_len hq; simp; omega
theorem picks_mem : ∀ {S : List Nat} {p}, p ∈ picks S → p.1 ∈ S ∧ ∀ z, z ∈ S ↔ z = p.1 ∨ z ∈ p.2
  | [], p, h => by simp [picks] at h
  | x :: S, p, h => by
    simp only [picks, List.mem_cons, List.mem_map] at h
    rcases h with rfl | ⟨q, hq, rfl⟩
    · exact ⟨by simp, fun z => by simp⟩
    · obtain ⟨h1, h2⟩ := picks_mem hq
      refine ⟨by simp [h1], fun z => ?_⟩
      simp only [List.mem_cons, h2 z]
      constructor <;> rintro (h | h | h) <;> simp [h]
theorem picks_nodup : ∀ {S : List Nat} {p}, S.Nodup → p ∈ picks S → p.2.Nodup ∧ p.1 ∉ p.2
  | [], p, _, h => by simp [picks] at h
  | x :: S, p, hn, h => by
    simp only [picks, List.mem_cons, List.mem_map] at h
    rw [List.nodup_cons] at hn
    rcases h with rfl | ⟨q, hq, rfl⟩
    · exact ⟨hn.2, hn.1⟩
    · obtain ⟨h1, h2⟩ := picks_nodup hn.2 hq
      obtain ⟨h3, h4⟩ := picks_mem hq
      refine ⟨List.nodup_cons.2 ⟨fun h => hn.1 ((h4 x).2 (.inr h)), h1⟩, ?_⟩
      simp only [List.mem_cons, not_or]
      exact ⟨fun h => hn.1 (h ▸ h3), h2⟩
theorem splits_len : ∀ {S : List Nat} {p}, p ∈ splits S → p.1.length + p.2.length = S.length
  | [], p, h => by simp [splits] at h; subst h; rfl
  | x :: S, p, h => by
    simp only [splits, List.mem_append, List.mem_map] at h
    rcases h with ⟨q, hq, rfl⟩ | ⟨q, hq, rfl⟩ <;> (have := splits_len hq; simp; omega)
theorem sm_splits_cons (F : List Nat → List Nat → Nat) (x : Nat) (S : List Nat) : sm (fun p => F p.1 p.2) (splits (x :: S)) = sm (fun p => F (x :: p.1) p.2) (splits S) + sm (fun p => F p.1 (x :: p.2)) (splits S) := by
  simp only [splits]; rw [sm_append, sm_map, sm_map]
theorem sm_picks_cons (F : Nat → List Nat → Nat) (x : Nat) (S : List Nat) : sm (fun p => F p.1 p.2) (picks (x :: S)) = F x S + sm (fun p => F p.1 (x :: p.2)) (picks S) := by
  simp only [picks, sm]; rw [sm_map]
/-- The parts change places. -/
theorem splits_swap : ∀ (S : List Nat) (F : List Nat → List Nat → Nat), sm (fun p => F p.1 p.2) (splits S) = sm (fun p => F p.2 p.1) (splits S)
  | [], F => rfl
  | x :: S, F => by
    rw [sm_splits_cons F, sm_splits_cons (fun a b => F b a), splits_swap S (fun a b => F (x :: a) b), splits_swap S (fun a b => F a (x :: b)), Nat.add_comm]
/-- One picked out of the first part: one picked ahead. -/
theorem splits_pick1 : ∀ (S : List Nat) (G : Nat → List Nat → List Nat → Nat),
    sm (fun p => sm (fun q => G q.1 q.2 p.2) (picks p.1)) (splits S) = sm (fun q => sm (fun p => G q.1 p.1 p.2) (splits q.2)) (picks S)
  | [], G => rfl
  | z :: S, G => by
    rw [sm_splits_cons (fun a b => sm (fun q => G q.1 q.2 b) (picks a)), sm_picks_cons (fun x T => sm (fun p => G x p.1 p.2) (splits T))]
    have e1 : sm (fun p => sm (fun q => G q.1 q.2 p.2) (picks (z :: p.1))) (splits S) = sm (fun p => G z p.1 p.2) (splits S) + sm (fun p => sm (fun q => G q.1 (z :: q.2) p.2) (picks p.1)) (splits S) := by
      rw [← sm_add]; exact sm_congr fun p _ => sm_picks_cons (fun x T => G x T p.2) z p.1
    have e2 : sm (fun q => sm (fun p => G q.1 p.1 p.2) (splits (z :: q.2))) (picks S) = sm (fun q => sm (fun p => G q.1 (z :: p.1) p.2) (splits q.2)) (picks S) + sm (fun q => sm (fun p => G q.1 p.1 (z :: p.2)) (splits q.2)) (picks S) := by
      rw [← sm_add]; exact sm_congr fun q _ => sm_splits_cons (fun a b => G q.1 a b) z q.2
    rw [e1, e2, splits_pick1 S (fun x a b => G x (z :: a) b), splits_pick1 S (fun x a b => G x a (z :: b))]
    omega
theorem splits_pick2 (S : List Nat) (G : Nat → List Nat → List Nat → Nat) :
    sm (fun p => sm (fun q => G q.1 p.1 q.2) (picks p.2)) (splits S) = sm (fun q => sm (fun p => G q.1 p.1 p.2) (splits q.2)) (picks S) := by
  rw [splits_swap S (fun a b => sm (fun q => G q.1 a q.2) (picks b)), splits_pick1 S (fun x a b => G x b a)]
  exact sm_congr fun q _ => splits_swap q.2 (fun a b => G q.1 b a)
/-- Two picked one behind the other: in either order. -/
theorem picks_swap : ∀ (S : List Nat) (g : Nat → Nat → List Nat → Nat),
    sm (fun p => sm (fun q => g p.1 q.1 q.2) (picks p.2)) (picks S) = sm (fun q => sm (fun p => g p.1 q.1 p.2) (picks q.2)) (picks S)
  | [], g => rfl
  | z :: S, g => by
    rw [sm_picks_cons (fun x T => sm (fun q => g x q.1 q.2) (picks T)), sm_picks_cons (fun y T => sm (fun p => g p.1 y p.2) (picks T))]
    have e1 : sm (fun p => sm (fun q => g p.1 q.1 q.2) (picks (z :: p.2))) (picks S) = sm (fun p => g p.1 z p.2) (picks S) + sm (fun p => sm (fun q => g p.1 q.1 (z :: q.2)) (picks p.2)) (picks S) := by
      rw [← sm_add]; exact sm_congr fun p _ => sm_picks_cons (fun y T => g p.1 y T) z p.2
    have e2 : sm (fun q => sm (fun p => g p.1 q.1 p.2) (picks (z :: q.2))) (picks S) = sm (fun q => g z q.1 q.2) (picks S) + sm (fun q => sm (fun p => g p.1 q.1 (z :: p.2)) (picks q.2)) (picks S) := by
      rw [← sm_add]; exact sm_congr fun q _ => sm_picks_cons (fun x T => g x q.1 T) z q.2
    rw [e1, e2, picks_swap S (fun x y T => g x y (z :: T))]
    omega
theorem splits_nil1 : ∀ (S : List Nat) (g : List Nat → Nat), sm (fun p => (if p.1 = [] then 1 else 0) * g p.2) (splits S) = g S
  | [], g => by simp [splits, sm]
  | x :: S, g => by
    rw [sm_splits_cons (fun a b => (if a = [] then 1 else 0) * g b), splits_nil1 S (fun b => g (x :: b))]
    have : sm (fun p : List Nat × List Nat => (if x :: p.1 = [] then 1 else 0) * g p.2) (splits S) = 0 := by
      refine (sm_congr fun p _ => ?_).trans (sm_zero (splits S)); simp
    rw [this, Nat.zero_add]

/-- The ways through all of a list that end with y behind it. -/
def en (r : Nat → Nat → Bool) : Nat → List Nat → Nat → Nat
  | 0, A, _ => if A = [] then 1 else 0
  | n + 1, A, y => (if A = [] then 1 else 0) + sm (fun p => if r p.1 y then en r n p.2 p.1 else 0) (picks A)
def E (r : Nat → Nat → Bool) (A : List Nat) (y : Nat) : Nat := en r A.length A y
theorem E_eq (r : Nat → Nat → Bool) (A : List Nat) (y : Nat) : E r A y = (if A = [] then 1 else 0) + sm (fun p => if r p.1 y then E r p.2 p.1 else 0) (picks A) := by
  unfold E
  cases A with
  | nil => simp [en, picks, sm]
  | cons x S =>
    simp only [List.length_cons, en]
    congr 1
    refine sm_congr fun p hp => ?_
    have := picks_len hp
    rw [show p.2.length = S.length by simpa using this]
/-- All ways through a list. -/
def H (r : Nat → Nat → Bool) (S : List Nat) : Nat := sm (fun p => E r p.2 p.1) (picks S)

def ind (b : Bool) : Nat := if b then 1 else 0

theorem two_parts (r : Nat → Nat → Bool) (S : List Nat) :
    sm (fun p => H r p.1 * H (fun x y => !r y x) p.2) (splits S) + H r S + H (fun x y => !r y x) S = 2 * sm (fun q => sm (fun p => E r p.1 q.1 * E (fun x y => !r y x) p.2 q.1) (splits q.2)) (picks S) := by
  have hT : sm (fun p => H r p.1 * H (fun x y => !r y x) p.2) (splits S) =
      sm (fun p => sm (fun q => sm (fun s => E r s.1 p.1 * E (fun x y => !r y x) s.2 q.1) (splits q.2)) (picks p.2)) (picks S) := by
    have e1 : ∀ p : List Nat × List Nat, H r p.1 * H (fun x y => !r y x) p.2 = sm (fun q => E r q.2 q.1 * H (fun x y => !r y x) p.2) (picks p.1) := fun p => by
      rw [sm_mul']; rfl
    rw [sm_congr fun p _ => e1 p, splits_pick1 S (fun x a b => E r a x * H (fun x y => !r y x) b)]
    refine sm_congr fun q _ => ?_
    have e2 : ∀ p : List Nat × List Nat, E r p.1 q.1 * H (fun x y => !r y x) p.2 = sm (fun s => E r p.1 q.1 * E (fun x y => !r y x) s.2 s.1) (picks p.2) := fun p => by
      rw [sm_mul]; rfl
    rw [sm_congr fun p _ => e2 p, splits_pick2 q.2 (fun y a b => E r a q.1 * E (fun x y => !r y x) b y)]
  have hsplit : sm (fun p => sm (fun q => sm (fun s => E r s.1 p.1 * E (fun x y => !r y x) s.2 q.1) (splits q.2)) (picks p.2)) (picks S) =
      sm (fun p => sm (fun q => sm (fun s => (if r p.1 q.1 then E r s.1 p.1 else 0) * E (fun x y => !r y x) s.2 q.1) (splits q.2)) (picks p.2)) (picks S) +
      sm (fun p => sm (fun q => sm (fun s => E r s.1 p.1 * (if !r p.1 q.1 then E (fun x y => !r y x) s.2 q.1 else 0)) (splits q.2)) (picks p.2)) (picks S) := by
    rw [← sm_add]
    refine sm_congr fun p _ => ?_
    rw [← sm_add]
    refine sm_congr fun q _ => ?_
    rw [← sm_add]
    refine sm_congr fun s _ => ?_
    cases r p.1 q.1 <;> simp
  have hA : sm (fun p => sm (fun q => sm (fun s => (if r p.1 q.1 then E r s.1 p.1 else 0) * E (fun x y => !r y x) s.2 q.1) (splits q.2)) (picks p.2)) (picks S) + H (fun x y => !r y x) S =
      sm (fun q => sm (fun p => E r p.1 q.1 * E (fun x y => !r y x) p.2 q.1) (splits q.2)) (picks S) := by
    rw [picks_swap S (fun x y T => sm (fun s => (if r x y then E r s.1 x else 0) * E (fun x y => !r y x) s.2 y) (splits T)), H, ← sm_add]
    refine sm_congr fun q _ => ?_
    rw [← splits_pick1 q.2 (fun x a b => (if r x q.1 then E r a x else 0) * E (fun x y => !r y x) b q.1), ← splits_nil1 q.2 (fun b => E (fun x y => !r y x) b q.1), ← sm_add]
    refine sm_congr fun p _ => ?_
    rw [sm_mul', ← Nat.add_mul, Nat.add_comm, ← E_eq]
  have hB : sm (fun p => sm (fun q => sm (fun s => E r s.1 p.1 * (if !r p.1 q.1 then E (fun x y => !r y x) s.2 q.1 else 0)) (splits q.2)) (picks p.2)) (picks S) + H r S =
      sm (fun q => sm (fun p => E r p.1 q.1 * E (fun x y => !r y x) p.2 q.1) (splits q.2)) (picks S) := by
    rw [H, ← sm_add]
    refine sm_congr fun p _ => ?_
    rw [← splits_pick2 p.2 (fun y a b => E r a p.1 * (if !r p.1 y then E (fun x y => !r y x) b y else 0))]
    have e0 : E r p.2 p.1 = sm (fun s => E r s.1 p.1 * (if s.2 = [] then 1 else 0)) (splits p.2) := by
      rw [splits_swap p.2 (fun a b => E r a p.1 * (if b = [] then 1 else 0)), ← splits_nil1 p.2 (fun a => E r a p.1)]
      exact sm_congr fun s _ => Nat.mul_comm _ _
    rw [e0, ← sm_add]
    refine sm_congr fun s _ => ?_
    rw [sm_mul, ← Nat.mul_add, Nat.add_comm, ← E_eq (fun x y => !r y x)]
  rw [hT, hsplit]
  omega

theorem parts_even (f : List Nat → Nat) : ∀ (x : Nat) (S : List Nat), sm (fun p => f p.1 * f p.2) (splits (x :: S)) % 2 = 0 := by
  intro x S
  rw [sm_splits_cons (fun a b => f a * f b), splits_swap S (fun a b => f (x :: a) * f b), sm_congr (g := fun p : List Nat × List Nat => f p.1 * f (x :: p.2)) fun p _ => Nat.mul_comm _ _]
  omega

/-- Through a graph and through what it is not, turned over, there are as many ways, but for an even number. -/
theorem H_comp (r : Nat → Nat → Bool) : ∀ (n : Nat) (S : List Nat), S.length ≤ n → H r S % 2 = H (fun x y => !r y x) S % 2 := by
  intro n
  induction n with
  | zero => intro S h; obtain rfl : S = [] := List.length_eq_zero_iff.1 (by omega); rfl
  | succ n ih =>
    intro S hS
    cases S with
    | nil => rfl
    | cons x S =>
      have h2 := two_parts r (x :: S)
      have hp : sm (fun p => H r p.1 * H (fun x y => !r y x) p.2) (splits (x :: S)) % 2 = sm (fun p => H r p.1 * H r p.2) (splits (x :: S)) % 2 := by
        refine sm_mod fun p hp => ?_
        have hl := splits_len hp
        cases hA : p.1 with
        | nil => simp [H, picks, sm]
        | cons a A =>
          rw [hA] at hl
          simp only [List.length_cons] at hl hS
          have := ih p.2 (by omega)
          rw [Nat.mul_mod, ← this, ← Nat.mul_mod]
      have he := parts_even (H r) x S
      omega

theorem E_congr {r r' : Nat → Nat → Bool} : ∀ (n : Nat) (A : List Nat) (y : Nat), A.length ≤ n → A.Nodup → y ∉ A → (∀ x z, x ∈ y :: A → z ∈ y :: A → x ≠ z → r x z = r' x z) → E r A y = E r' A y := by
  intro n
  induction n with
  | zero => intro A y h _ _ _; obtain rfl : A = [] := List.length_eq_zero_iff.1 (by omega); rfl
  | succ n ih =>
    intro A y hl hn hy hr
    rw [E_eq r, E_eq r']
    congr 1
    refine sm_congr fun p hp => ?_
    obtain ⟨h1, h2⟩ := picks_mem hp
    obtain ⟨h3, h4⟩ := picks_nodup hn hp
    have h5 := picks_len hp
    rw [hr p.1 y (by simp [h1]) (by simp) (fun h => hy (h ▸ h1)), ih p.2 p.1 (by omega) h3 h4 (fun x z hx hz => hr x z (by rw [List.mem_cons, ← h2] at hx; simp [hx]) (by rw [List.mem_cons, ← h2] at hz; simp [hz]))]
theorem H_congr {r r' : Nat → Nat → Bool} {S : List Nat} (hn : S.Nodup) (hr : ∀ x z, x ∈ S → z ∈ S → x ≠ z → r x z = r' x z) : H r S = H r' S := by
  refine sm_congr fun p hp => ?_
  obtain ⟨h1, h2⟩ := picks_mem hp
  obtain ⟨h3, h4⟩ := picks_nodup hn hp
  exact E_congr _ _ _ (Nat.le_refl _) h3 h4 fun x z hx hz => hr x z (by rw [h2]; simpa using hx) (by rw [h2]; simpa using hz)

/-- The arcs between a and b are told anew. -/
def put (r : Nat → Nat → Bool) (a b : Nat) (u v : Bool) (x y : Nat) : Bool := if x = a ∧ y = b then u else if x = b ∧ y = a then v else r x y

theorem E_put {r : Nat → Nat → Bool} {a b : Nat} : ∀ (n : Nat) (A : List Nat) (y : Nat), A.length ≤ n → A.Nodup → y ∉ A →
    E (put r a b true true) A y + E (put r a b false false) A y = E (put r a b true false) A y + E (put r a b false true) A y := by
  intro n
  induction n with
  | zero => intro A y h _ _; obtain rfl : A = [] := List.length_eq_zero_iff.1 (by omega); rfl
  | succ n ih =>
    intro A y hl hn hy
    rw [E_eq (put r a b true true), E_eq (put r a b false false), E_eq (put r a b true false), E_eq (put r a b false true)]
    have : sm (fun p => if put r a b true true p.1 y then E (put r a b true true) p.2 p.1 else 0) (picks A) + sm (fun p => if put r a b false false p.1 y then E (put r a b false false) p.2 p.1 else 0) (picks A) =
        sm (fun p => if put r a b true false p.1 y then E (put r a b true false) p.2 p.1 else 0) (picks A) + sm (fun p => if put r a b false true p.1 y then E (put r a b false true) p.2 p.1 else 0) (picks A) := by
      rw [← sm_add, ← sm_add]
      refine sm_congr fun p hp => ?_
      obtain ⟨h1, h2⟩ := picks_mem hp
      obtain ⟨h3, h4⟩ := picks_nodup hn hp
      have h5 := picks_len hp
      have hyp : y ∉ p.2 := fun h => hy ((h2 y).2 (.inr h))
      have hne : y ≠ p.1 := fun h => hy (h ▸ h1)
      -- nobody meets y again
      have away : ∀ u v u' v', (y = a ∨ y = b) → E (put r a b u v) p.2 p.1 = E (put r a b u' v') p.2 p.1 := by
        intro u v u' v' hyab
        refine E_congr n p.2 p.1 (by omega) h3 h4 fun x z hx hz _ => ?_
        have hx' : x ≠ y := fun h => by subst h; rcases List.mem_cons.1 hx with h | h; exact hne h; exact hyp h
        have hz' : z ≠ y := fun h => by subst h; rcases List.mem_cons.1 hz with h | h; exact hne h; exact hyp h
        unfold put
        rcases hyab with rfl | rfl
        · rw [if_neg (fun h => hx' h.1), if_neg (fun h => hz' h.2), if_neg (fun h => hx' h.1), if_neg (fun h => hz' h.2)]
        · rw [if_neg (fun h => hz' h.2), if_neg (fun h => hx' h.1), if_neg (fun h => hz' h.2), if_neg (fun h => hx' h.1)]
      by_cases c1 : p.1 = a ∧ y = b
      · have e1 := away true false true true (.inr c1.2)
        have e2 : ∀ u v, put r a b u v p.1 y = u := fun u v => by unfold put; rw [if_pos c1]
        simp only [e2, if_true, Bool.false_eq_true, if_false]
        omega
      · by_cases c2 : p.1 = b ∧ y = a
        · have e1 := away false true true true (.inl c2.2)
          have e2 : ∀ u v, put r a b u v p.1 y = v := fun u v => by unfold put; rw [if_neg c1, if_pos c2]
          simp only [e2, if_true, Bool.false_eq_true, if_false]
          omega
        · have e2 : ∀ u v, put r a b u v p.1 y = r p.1 y := fun u v => by unfold put; rw [if_neg c1, if_neg c2]
          simp only [e2]
          have := ih p.2 p.1 (by omega) h3 h4
          cases r p.1 y <;> simp [this]
    omega
theorem H_put {r : Nat → Nat → Bool} {a b : Nat} {S : List Nat} (hn : S.Nodup) : H (put r a b true true) S + H (put r a b false false) S = H (put r a b true false) S + H (put r a b false true) S := by
  unfold H
  rw [← sm_add, ← sm_add]
  refine sm_congr fun p hp => ?_
  obtain ⟨h3, h4⟩ := picks_nodup hn hp
  exact E_put _ _ _ (Nat.le_refl _) h3 h4

/-- Of two, just one beats the other. -/
def Tour (r : Nat → Nat → Bool) (S : List Nat) : Prop := ∀ x y, x ∈ S → y ∈ S → x ≠ y → r x y = !r y x

/-- One result turned. -/
theorem H_flip {r : Nat → Nat → Bool} {a b : Nat} {S : List Nat} (hn : S.Nodup) (ht : Tour r S) (hab : a ≠ b) : H (put r a b true false) S % 2 = H (put r a b false true) S % 2 := by
  have h1 := H_put (r := r) (a := a) (b := b) hn
  have h2 := H_comp (put r a b true true) S.length S (Nat.le_refl _)
  have h3 : H (fun x y => !put r a b true true y x) S = H (put r a b false false) S := by
    refine H_congr hn fun x z hx hz hxz => ?_
    unfold put
    by_cases c1 : x = a ∧ z = b
    · rw [if_neg (show ¬ (z = a ∧ x = b) from fun h => hab (h.2 ▸ c1.1).symm), if_pos (show z = b ∧ x = a from ⟨c1.2, c1.1⟩), if_pos c1]; rfl
    · by_cases c2 : x = b ∧ z = a
      · rw [if_pos (show z = a ∧ x = b from ⟨c2.2, c2.1⟩), if_neg c1, if_pos c2]; rfl
      · rw [if_neg (fun h => c2 ⟨h.2, h.1⟩), if_neg (fun h => c1 ⟨h.2, h.1⟩), if_neg c1, if_neg c2, ht x z hx hz hxz]
  omega

/-- All of L beat v. -/
def sink (r : Nat → Nat → Bool) (v : Nat) (L : List Nat) (x y : Nat) : Bool := if y = v ∧ x ∈ L then true else if x = v ∧ y ∈ L then false else r x y

theorem sink_tour {r : Nat → Nat → Bool} {v : Nat} {L S : List Nat} (ht : Tour r S) (hv : v ∉ L) : Tour (sink r v L) S := by
  intro x y hx hy hxy
  unfold sink
  by_cases c1 : y = v ∧ x ∈ L
  · rw [if_pos c1, if_neg (fun h => hxy (h.1.trans c1.1.symm)), if_pos ⟨c1.1, c1.2⟩]; rfl
  · by_cases c2 : x = v ∧ y ∈ L
    · rw [if_neg c1, if_pos c2, if_pos ⟨c2.1, c2.2⟩]; rfl
    · rw [if_neg c1, if_neg c2, if_neg (fun h => c2 h), if_neg (fun h => c1 h)]; exact ht x y hx hy hxy

theorem H_sink {r : Nat → Nat → Bool} {v : Nat} {S : List Nat} (hn : S.Nodup) (hvS : v ∈ S) (ht : Tour r S) : ∀ L : List Nat, (∀ x ∈ L, x ∈ S) → v ∉ L → H (sink r v L) S % 2 = H r S % 2
  | [], _, _ => by
    have : sink r v [] = r := by funext x y; simp [sink]
    rw [this]
  | z :: L, hL, hv => by
    have hz : z ≠ v := fun h => hv (by simp [h])
    have hvL : v ∉ L := fun h => hv (by simp [h])
    rw [← H_sink hn hvS ht L (fun x hx => hL x (by simp [hx])) hvL]
    have t1 := sink_tour (v := v) (L := L) ht hvL
    have f := H_flip (a := z) (b := v) hn t1 hz
    have e1 : H (sink r v (z :: L)) S = H (put (sink r v L) z v true false) S := by
      refine H_congr hn fun x y _ _ hxy => ?_
      unfold put sink
      by_cases c1 : x = z ∧ y = v
      · rw [if_pos c1, if_pos ⟨c1.2, by simp [c1.1]⟩]
      · by_cases c2 : x = v ∧ y = z
        · rw [if_neg c1, if_pos c2, if_neg (fun h => hxy (c2.1.trans h.1.symm)), if_pos ⟨c2.1, by simp [c2.2]⟩]
        · rw [if_neg c1, if_neg c2]
          have i1 : (y = v ∧ x ∈ z :: L) ↔ (y = v ∧ x ∈ L) := by
            constructor
            · rintro ⟨h1, h2⟩; exact ⟨h1, (List.mem_cons.1 h2).resolve_left fun h => c1 ⟨h, h1⟩⟩
            · rintro ⟨h1, h2⟩; exact ⟨h1, by simp [h2]⟩
          have i2 : (x = v ∧ y ∈ z :: L) ↔ (x = v ∧ y ∈ L) := by
            constructor
            · rintro ⟨h1, h2⟩; exact ⟨h1, (List.mem_cons.1 h2).resolve_left fun h => c2 ⟨h1, h⟩⟩
            · rintro ⟨h1, h2⟩; exact ⟨h1, by simp [h2]⟩
          simp only [i1, i2]
    rw [e1]
    have hzS := hL z (by simp)
    cases hr : sink r v L z v with
    | true =>
      have hr' : sink r v L v z = false := by have := t1 z v hzS hvS hz; rw [hr] at this; simpa using this.symm
      have e2 : H (put (sink r v L) z v true false) S = H (sink r v L) S := by
        refine H_congr hn fun x y _ _ _ => ?_
        unfold put
        by_cases c1 : x = z ∧ y = v
        · rw [if_pos c1, c1.1, c1.2, hr]
        · by_cases c2 : x = v ∧ y = z
          · rw [if_neg c1, if_pos c2, c2.1, c2.2, hr']
          · rw [if_neg c1, if_neg c2]
      rw [e2]
    | false =>
      have hr' : sink r v L v z = true := by have := t1 z v hzS hvS hz; rw [hr] at this; simpa using this.symm
      have e2 : H (put (sink r v L) z v false true) S = H (sink r v L) S := by
        refine H_congr hn fun x y _ _ _ => ?_
        unfold put
        by_cases c1 : x = z ∧ y = v
        · rw [if_pos c1, c1.1, c1.2, hr]
        · by_cases c2 : x = v ∧ y = z
          · rw [if_neg c1, if_pos c2, c2.1, c2.2, hr']
          · rw [if_neg c1, if_neg c2]
      rw [f, e2]

theorem E_dead {r : Nat → Nat → Bool} {v : Nat} : ∀ (n : Nat) (A : List Nat) (y : Nat), A.length ≤ n → v ∈ A → y ≠ v → (∀ z, z ∈ y :: A → z ≠ v → r v z = false) → A.Nodup → y ∉ A → E r A y = 0 := by
  intro n
  induction n with
  | zero => intro A y h hv; obtain rfl : A = [] := List.length_eq_zero_iff.1 (by omega); cases hv
  | succ n ih =>
    intro A y hl hv hy hs hn hyA
    rw [E_eq, if_neg (List.ne_nil_of_mem hv), Nat.zero_add]
    refine (sm_congr fun p hp => ?_).trans (sm_zero (picks A))
    obtain ⟨h1, h2⟩ := picks_mem hp
    obtain ⟨h3, h4⟩ := picks_nodup hn hp
    have h5 := picks_len hp
    by_cases hpv : p.1 = v
    · rw [hpv, hs y (by simp) hy]; rfl
    · have hv2 : v ∈ p.2 := ((h2 v).1 hv).resolve_left fun h => hpv h.symm
      rw [ih p.2 p.1 (by omega) hv2 hpv (fun z hz hzv => hs z (by rw [List.mem_cons, ← h2] at hz; simp [hz]) hzv) h3 h4]
      simp

/-- **Rédei.** -/
theorem redei {r : Nat → Nat → Bool} : ∀ (S : List Nat), S ≠ [] → S.Nodup → Tour r S → H r S % 2 = 1
  | [], h, _, _ => absurd rfl h
  | [x], _, _, _ => by simp [H, picks, sm, E, en]
  | v :: w :: S, _, hn, ht => by
    have hn' := (List.nodup_cons.1 hn)
    have h1 := H_sink (v := v) hn (by simp) ht (w :: S) (fun x hx => by simp only [List.mem_cons] at hx ⊢; exact .inr hx) hn'.1
    have ih := redei (w :: S) (by simp) hn'.2 (fun x y hx hy => ht x y (by simp only [List.mem_cons] at hx ⊢; exact .inr hx) (by simp only [List.mem_cons] at hy ⊢; exact .inr hy))
    have h2 : H (sink r v (w :: S)) (v :: w :: S) = H r (w :: S) := by
      unfold H
      rw [sm_picks_cons (fun x T => E (sink r v (w :: S)) T x)]
      have z : sm (fun p => E (sink r v (w :: S)) (v :: p.2) p.1) (picks (w :: S)) = 0 := by
        refine (sm_congr fun p hp => ?_).trans (sm_zero (picks (w :: S)))
        obtain ⟨g1, g2⟩ := picks_mem hp
        obtain ⟨g3, g4⟩ := picks_nodup hn'.2 hp
        have hv2 : v ∉ p.2 := fun h => hn'.1 ((g2 v).2 (.inr h))
        have hpv : p.1 ≠ v := fun h => hn'.1 (h ▸ g1)
        refine E_dead _ _ _ (Nat.le_refl _) (by simp) hpv (fun z hz hzv => ?_) (List.nodup_cons.2 ⟨hv2, g3⟩) (by simp only [List.mem_cons, not_or]; exact ⟨hpv, g4⟩)
        have hzS : z ∈ w :: S := by
          rw [g2]; simp only [List.mem_cons] at hz; rcases hz with h | h | h
          · exact .inl h
          · exact absurd h hzv
          · exact .inr h
        unfold sink
        rw [if_neg (fun h => hzv h.1), if_pos ⟨rfl, hzS⟩]
      rw [z, Nat.add_zero, E_eq, if_neg (by simp), Nat.zero_add]
      refine sm_congr fun p hp => ?_
      obtain ⟨g1, g2⟩ := picks_mem hp
      obtain ⟨g3, g4⟩ := picks_nodup hn'.2 hp
      have : sink r v (w :: S) p.1 v = true := by unfold sink; rw [if_pos ⟨rfl, g1⟩]
      rw [this, if_pos rfl]
      refine E_congr _ _ _ (Nat.le_refl _) g3 g4 fun x z hx hz _ => ?_
      have hx' : x ≠ v := fun h => hn'.1 (h ▸ (g2 x).2 (List.mem_cons.1 hx))
      have hz' : z ≠ v := fun h => hn'.1 (h ▸ (g2 z).2 (List.mem_cons.1 hz))
      unfold sink
      rw [if_neg (fun h => hz' h.1), if_neg (fun h => hx' h.1)]
    omega
end Go.Proofs.Tryd.Redei

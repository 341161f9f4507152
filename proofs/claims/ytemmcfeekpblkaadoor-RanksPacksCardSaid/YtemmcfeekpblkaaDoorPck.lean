/-
  Packings, plain: the search with a bound finds a greatest one.
-/
import Derived.Test.YtemmcfeekpblkaaDoorTypes
set_option linter.all false
namespace Pck
variable {α : Type} {ok : α → α → Bool}

def fits (ok : α → α → Bool) (now : List α) (c : α) : Bool := now.all fun x => ok x c
def better (now best : List α) : List α := if best.length < now.length then now else best
/-- The search from here to the end of the list. -/
def pk (ok : α → α → Bool) : List α → List α → List α → List α
  | [], _, best => best
  | c :: r, now, best => pk ok r now (if fits ok now c = true then (if now.length + 1 + r.length ≤ (better (now ++ [c]) best).length then better (now ++ [c]) best else pk ok r (now ++ [c]) (better (now ++ [c]) best)) else best)
/-- The search as it is called. -/
def go (ok : α → α → Bool) (r now best : List α) : List α := if now.length + r.length ≤ (better now best).length then better now best else pk ok r now (better now best)
theorem pk_cons (c : α) (r now best : List α) : pk ok (c :: r) now best = pk ok r now (if fits ok now c = true then go ok r (now ++ [c]) best else best) := by
  rw [pk, go, List.length_append, List.length_singleton]
theorem better_len (now best : List α) : (better now best).length = max best.length now.length := by
  unfold better; split <;> omega

/-- How many more fit: the most. -/
def G (ok : α → α → Bool) : List α → (α → Bool) → Nat
  | [], _ => 0
  | c :: r, p => max (G ok r p) (if p c = true then 1 + G ok r (fun x => p x && ok c x) else 0)
theorem G_le : ∀ (r : List α) (p : α → Bool), G ok r p ≤ r.length
  | [], _ => Nat.le_refl _
  | c :: r, p => by
    have h1 := G_le r p
    have h2 := G_le r (fun x => p x && ok c x)
    rw [G, List.length_cons]; split <;> omega
theorem G_congr : ∀ (r : List α) {p q : α → Bool}, (∀ x ∈ r, p x = q x) → G ok r p = G ok r q
  | [], _, _, _ => rfl
  | c :: r, p, q, h => by
    rw [G, G, G_congr r fun x hx => h x (by simp [hx]), h c (by simp), G_congr r (p := fun x => p x && ok c x) (q := fun x => q x && ok c x) fun x hx => by rw [h x (by simp [hx])]]
theorem G_filter : ∀ (r : List α) (p q : α → Bool), G ok (r.filter q) p = G ok r (fun x => q x && p x)
  | [], _, _ => rfl
  | c :: r, p, q => by
    have h1 := G_filter r p q
    have h2 := G_filter r (fun x => p x && ok c x) q
    have h3 : (fun x => q x && (p x && ok c x)) = (fun x => q x && p x && ok c x) := by funext x; rw [Bool.and_assoc]
    rw [G, List.filter_cons]
    cases hq : q c with
    | false => simp [h1]
    | true => simp only [if_true, Bool.true_and, G, h1, h2, h3]
theorem fits_snoc (now : List α) (c x : α) : fits ok (now ++ [c]) x = (fits ok now x && ok c x) := by simp [fits]
theorem pk_len : ∀ (r now best : List α), now.length ≤ best.length → (pk ok r now best).length = max best.length (now.length + G ok r (fits ok now))
  | [], now, best, h => by rw [pk, G]; omega
  | c :: r, now, best, h => by
    have hg : G ok r (fits ok (now ++ [c])) = G ok r (fun x => fits ok now x && ok c x) := G_congr r fun x _ => fits_snoc now c x
    have hgo : (go ok r (now ++ [c]) best).length = max best.length (now.length + (1 + G ok r (fun x => fits ok now x && ok c x))) := by
      have hb := better_len (now ++ [c]) best
      rw [List.length_append, List.length_singleton] at hb
      have hle := G_le (ok := ok) r (fun x => fits ok now x && ok c x)
      unfold go
      rw [List.length_append, List.length_singleton]
      split
      · omega
      · rw [pk_len r (now ++ [c]) _ (by rw [List.length_append, List.length_singleton]; omega), hg, List.length_append, List.length_singleton]; omega
    rw [pk_cons, G]
    cases hf : fits ok now c with
    | false => simp only [Bool.false_eq_true, if_false]; rw [pk_len r now best h]; omega
    | true =>
      simp only [if_true]
      rw [pk_len r now _ (by rw [hgo]; omega), hgo]; omega
theorem go_len (r now best : List α) : (go ok r now best).length = max best.length (now.length + G ok r (fits ok now)) := by
  have hb := better_len now best
  have hle := G_le (ok := ok) r (fits ok now)
  unfold go
  split
  · omega
  · rw [pk_len r now _ (by omega)]; omega
/-- A packing. -/
def Good (ok : α → α → Bool) (D l : List α) : Prop := l.Sublist D ∧ l.Pairwise fun x y => ok x y = true
theorem pk_good {D : List α} : ∀ (r now best : List α), (now ++ r).Sublist D → (now.Pairwise fun x y => ok x y = true) → Good ok D best → Good ok D (pk ok r now best)
  | [], now, best, _, _, hb => by rw [pk]; exact hb
  | c :: r, now, best, hs, hp, hb => by
    have hs1 : (now ++ r).Sublist D := ((List.append_sublist_append_left now).2 (List.sublist_cons_self c r)).trans hs
    have hs2 : (now ++ [c] ++ r).Sublist D := by rw [List.append_assoc]; exact hs
    rw [pk_cons]
    refine pk_good r now _ hs1 hp ?_
    split
    · rename_i hf
      have hp2 : (now ++ [c]).Pairwise fun x y => ok x y = true := List.pairwise_append.2 ⟨hp, List.pairwise_singleton _ _, fun x hx y hy => by
        rw [List.mem_singleton.1 hy]; exact List.all_eq_true.1 hf x hx⟩
      have hb2 : Good ok D (better (now ++ [c]) best) := by
        unfold better
        split
        · exact ⟨(List.sublist_append_left _ r).trans hs2, hp2⟩
        · exact hb
      unfold go
      split
      · exact hb2
      · exact pk_good r (now ++ [c]) _ hs2 hp2 hb2
    · exact hb
theorem go_good (D : List α) : Good ok D (go ok D [] []) := by
  have hn : Good ok D ([] : List α) := ⟨List.nil_sublist _, List.Pairwise.nil⟩
  have hb : better ([] : List α) [] = [] := by simp [better]
  unfold go
  rw [hb]
  split
  · exact hn
  · exact pk_good D [] [] (by simp) List.Pairwise.nil hn
theorem go_top (D : List α) : (go ok D [] []).length = G ok D (fun _ => true) := by
  rw [go_len, show fits ok ([] : List α) = fun _ => true from rfl]; simp

/-- How many two have in common. -/
def cm (x y : Int × Int × Int) : Nat :=
  let e (a b : Int) : Nat := if a = b then 1 else 0
  (e x.1 y.1 + e x.1 y.2.1 + e x.1 y.2.2) + (e x.2.1 y.1 + e x.2.1 y.2.1 + e x.2.1 y.2.2) + (e x.2.2 y.1 + e x.2.2 y.2.1 + e x.2.2 y.2.2)
theorem cm_comm (x y : Int × Int × Int) : cm x y = cm y x := by
  have h : ∀ a b : Int, (if a = b then 1 else 0) = (if b = a then 1 else 0) := fun a b => by
    by_cases h : a = b
    · rw [if_pos h, if_pos h.symm]
    · rw [if_neg h, if_neg (Ne.symm h)]
  simp only [cm]
  rw [h x.1, h x.1, h x.1, h x.2.1, h x.2.1, h x.2.1, h x.2.2, h x.2.2, h x.2.2]
  omega
/-- The same, if the second one has three different entries. -/
def inn (a : Int) (y : Int × Int × Int) : Nat := if a = y.1 ∨ a = y.2.1 ∨ a = y.2.2 then 1 else 0
def cm2 (x y : Int × Int × Int) : Nat := inn x.1 y + inn x.2.1 y + inn x.2.2 y
def Dist (y : Int × Int × Int) : Prop := y.1 ≠ y.2.1 ∧ y.1 ≠ y.2.2 ∧ y.2.1 ≠ y.2.2
theorem inn_eq {y : Int × Int × Int} (h : Dist y) (a : Int) : inn a y = (if a = y.1 then 1 else 0) + (if a = y.2.1 then 1 else 0) + (if a = y.2.2 then 1 else 0) := by
  obtain ⟨h1, h2, h3⟩ := h
  unfold inn
  by_cases g1 : a = y.1
  · subst g1; simp [h1, h2]
  · by_cases g2 : a = y.2.1
    · subst g2; simp [g1, h3]
    · by_cases g3 : a = y.2.2
      · rw [if_pos (.inr (.inr g3)), if_neg g1, if_neg g2, if_pos g3]
      · rw [if_neg (by rintro (h | h | h) <;> contradiction), if_neg g1, if_neg g2, if_neg g3]
theorem cm2_eq {x y : Int × Int × Int} (h : Dist y) : cm2 x y = cm x y := by
  rw [cm2, inn_eq h, inn_eq h, inn_eq h]; rfl
def okT (x y : Int × Int × Int) : Bool := decide (cm x y < 2)
theorem okT_comm (x y : Int × Int × Int) : okT x y = okT y x := by rw [okT, okT, cm_comm]

/-- One more of the list, taken in its order. -/
theorem sub_step [DecidableEq α] {l r : List α} {c : α} {d : α} (h : l.Sublist (c :: r)) : (if l ≠ [] ∧ c = l.getD 0 d then l.drop 1 else l).Sublist r := by
  cases l with
  | nil => simp
  | cons x l =>
    by_cases hc : c = x
    · subst hc; simpa using List.cons_sublist_cons.1 h
    · simp only [List.getD, List.getElem?_cons_zero, Option.getD_some, hc, and_false, if_false]
      cases h with
      | cons _ h => exact h
      | cons_cons _ h => exact absurd rfl hc
end Pck

/-
  Plain theory: in how many lines one element stands before another one; heights; fractions; the most even pair.
-/
import Derived.Test.YtnjacpfahhjpiaaDoorPlain
set_option linter.all false
namespace Ord
open Go.Am

/-- In how many lines i stands before j. -/
def befN (o : List Int) (i j : Nat) : Nat := if ab o i j = true then cn o else if fr o i j = true then cn (addL o i j) else 0
def allLines (o : List Int) : List (List Nat) := lines (ab o) o.length (List.range o.length)
theorem allLines_len (o : List Int) : (allLines o).length = cn o := by rw [allLines, cnt_len]; rfl
theorem mem_all {o : List Int} (h : ord o = true) {l : List Nat} : l ∈ allLines o ↔ l.Perm (List.range o.length) ∧ l.Pairwise fun a b => ab o b a = false := by
  rw [allLines, mem_lines (ord_po h).irr (by simp)]

theorem befN_eq {o : List Int} (h : ord o = true) {i j : Nat} (hi : i < o.length) (hj : j < o.length) (hn : i ≠ j) : befN o i j = ((allLines o).filter fun l => bef l i j).length := by
  have hmem : ∀ l, l ∈ allLines o → l.Nodup ∧ i ∈ l ∧ j ∈ l ∧ ∀ a ∈ l, ∀ b ∈ l, bef l a b = true → ab o b a = false := fun l hl => by
    obtain ⟨hp, hw⟩ := (mem_all h).1 hl
    have hnd : l.Nodup := hp.nodup_iff.2 List.nodup_range
    exact ⟨hnd, hp.mem_iff.2 (List.mem_range.2 hi), hp.mem_iff.2 (List.mem_range.2 hj), (bef_pw hnd).1 hw⟩
  rw [befN]
  split
  · next hij =>
    rw [List.filter_eq_self.2, allLines_len]
    intro l hl
    obtain ⟨h1, h2, h3, h4⟩ := hmem l hl
    cases e : bef l i j with
    | true => rfl
    | false =>
      have := h4 j h3 i h2 (by rw [bef_not h2 h3 hn, e]; rfl)
      rw [hij] at this; cases this
  · next hij =>
    split
    · next hf =>
      simp only [fr, Bool.and_eq_true, decide_eq_true_eq, Bool.not_eq_true'] at hf
      rw [cn, addL_len, addL_ab hi h]
      have := cnt_add (ord_po h) hn hf.2 (S := List.range o.length) List.nodup_range (List.mem_range.2 hi) (List.mem_range.2 hj)
      rw [List.length_range] at this
      exact this
    · next hf =>
      have hji : ab o j i = true := by
        cases e : ab o j i with
        | true => rfl
        | false =>
          simp only [Bool.not_eq_true] at hij
          exact absurd (by simp [fr, hn, hij, e]) hf
      rw [eq_comm, List.length_eq_zero_iff, List.filter_eq_nil_iff]
      intro l hl hb
      obtain ⟨h1, h2, h3, h4⟩ := hmem l hl
      have := h4 i h2 j h3 hb
      rw [hji] at this; cases this
theorem befN_le {o : List Int} (h : ord o = true) {i j : Nat} (hi : i < o.length) (hj : j < o.length) (hn : i ≠ j) : befN o i j ≤ cn o := by
  rw [befN_eq h hi hj hn, ← allLines_len]; exact List.length_filter_le _ _
theorem befN_two {o : List Int} (h : ord o = true) {i j : Nat} (hi : i < o.length) (hj : j < o.length) (hn : i ≠ j) : befN o i j + befN o j i = cn o := by
  rw [befN_eq h hi hj hn, befN_eq h hj hi (Ne.symm hn), ← allLines_len]
  have e : ((allLines o).filter fun l => bef l j i) = (allLines o).filter fun l => !bef l i j := by
    refine List.filter_congr fun l hl => ?_
    obtain ⟨hp, -⟩ := (mem_all h).1 hl
    exact bef_not (hp.mem_iff.2 (List.mem_range.2 hi)) (hp.mem_iff.2 (List.mem_range.2 hj)) hn
  rw [e]
  generalize allLines o = L
  clear e
  induction L with
  | nil => rfl
  | cons x L ih =>
    simp only [List.filter_cons, List.length_cons]
    cases bef x i j <;> simp <;> omega

theorem filter_idx : ∀ {l : List Nat}, l.Nodup → ∀ m, l.filter (fun j => decide (l.idxOf j < m)) = l.take m
  | [], _, m => by simp
  | x :: l, hl, 0 => by simp
  | x :: l, hl, m + 1 => by
    have hx := List.nodup_cons.1 hl
    rw [List.filter_cons, List.idxOf_cons_self, decide_eq_true (Nat.succ_pos m), if_pos rfl, List.take_succ_cons, ← filter_idx hx.2 m]
    congr 1
    refine List.filter_congr fun j hj => ?_
    have hne : x ≠ j := fun e => hx.1 (e ▸ hj)
    rw [idx_ne l hne]
    by_cases h : l.idxOf j < m
    · rw [decide_eq_true h, decide_eq_true (by omega)]
    · rw [decide_eq_false h, decide_eq_false (by omega)]
/-- An element's place is how many stand before it. -/
theorem idx_count {o : List Int} (h : ord o = true) {l : List Nat} (hl : l ∈ allLines o) {i : Nat} (hi : i < o.length) : l.idxOf i = ((List.range o.length).filter fun j => bef l j i).length := by
  obtain ⟨hp, -⟩ := (mem_all h).1 hl
  have hnd : l.Nodup := hp.nodup_iff.2 List.nodup_range
  have h1 := (hp.filter fun j => bef l j i).length_eq
  rw [← h1]
  show _ = (l.filter fun j => decide (l.idxOf j < l.idxOf i)).length
  rw [filter_idx hnd, List.length_take]
  have := List.idxOf_lt_length_of_mem (hp.mem_iff.2 (List.mem_range.2 hi))
  omega
theorem sum_swap {α β : Type} (p : α → β → Bool) : ∀ (L : List α) (J : List β), (L.map fun l => (J.filter (p l)).length).sum = (J.map fun j => (L.filter fun l => p l j).length).sum
  | [], J => by
    induction J with
    | nil => rfl
    | cons j J ih => simp only [List.map_cons, List.sum_cons, ← ih]; rfl
  | l :: L, J => by
    rw [List.map_cons, List.sum_cons, sum_swap p L J]
    induction J with
    | nil => rfl
    | cons j J ih =>
      simp only [List.map_cons, List.sum_cons, List.filter_cons] at ih ⊢
      cases p l j <;> simp <;> omega
/-- The heights: how often others stand before. -/
def hsum (o : List Int) (i : Nat) : Nat := (((List.range o.length).filter fun j => decide (j ≠ i)).map fun j => befN o j i).sum
theorem hsum_eq {o : List Int} (h : ord o = true) {i : Nat} (hi : i < o.length) : ((allLines o).map fun l => l.idxOf i).sum = hsum o i := by
  have e1 : ((allLines o).map fun l => l.idxOf i) = (allLines o).map fun l => ((List.range o.length).filter fun j => bef l j i).length := List.map_congr_left fun l hl => idx_count h hl hi
  rw [e1, sum_swap fun l j => bef l j i, hsum]
  have key : ∀ J : List Nat, (∀ j ∈ J, j < o.length) → (J.map fun j => ((allLines o).filter fun l => bef l j i).length).sum = ((J.filter fun j => decide (j ≠ i)).map fun j => befN o j i).sum := by
    intro J
    induction J with
    | nil => intro _; rfl
    | cons j J ih =>
      intro hJ
      rw [List.map_cons, List.sum_cons, ih fun j hj => hJ j (by simp [hj]), List.filter_cons]
      by_cases hji : j = i
      · subst hji
        have : ((allLines o).filter fun l => bef l j j).length = 0 := by
          rw [List.length_eq_zero_iff, List.filter_eq_nil_iff]
          intro l _
          simp [bef]
        rw [this, if_neg (by simp), Nat.zero_add]
      · rw [if_pos (by simpa using hji), List.map_cons, List.sum_cons, befN_eq h (hJ j (by simp)) hi hji]
  exact key _ fun j hj => List.mem_range.1 hj
theorem hsum_le {o : List Int} (h : ord o = true) {i : Nat} (hi : i < o.length) : hsum o i ≤ 6 * cn o := by
  have hl := ord_len h
  have key : ∀ J : List Nat, (∀ j ∈ J, j < o.length ∧ j ≠ i) → (J.map fun j => befN o j i).sum ≤ J.length * cn o := by
    intro J
    induction J with
    | nil => intro _; simp
    | cons j J ih =>
      intro hJ
      have h1 := ih fun j hj => hJ j (by simp [hj])
      have h2 := befN_le h (hJ j (by simp)).1 hi (hJ j (by simp)).2
      rw [List.map_cons, List.sum_cons, List.length_cons, Nat.succ_mul]; omega
  have h1 := key ((List.range o.length).filter fun j => decide (j ≠ i)) fun j hj => by
    have := List.mem_filter.1 hj
    exact ⟨List.mem_range.1 this.1, by simpa using this.2⟩
  have h2 := List.length_filter_le (fun j => decide (j ≠ i)) (List.range o.length)
  rw [List.length_range] at h2
  have h3 := Nat.mul_le_mul_right (cn o) (Nat.le_trans h2 hl.2)
  rw [hsum]; omega

/-- One step of the search for the most even pair. -/
def evD (o : List Int) (i j : Nat) : Nat := (2 * (cn (addL o i j) : Int) - cn o).natAbs
def evStep (o : List Int) (st : Option (Nat × Nat × Nat)) (i j : Nat) : Option (Nat × Nat × Nat) :=
  if fr o i j = true then (match st with | none => some (evD o i j, i, j) | some (e, a, b) => if evD o i j < e then some (evD o i j, i, j) else some (e, a, b)) else st
def evRow (o : List Int) (i : Nat) (st : Option (Nat × Nat × Nat)) : Nat → Option (Nat × Nat × Nat)
  | 0 => st
  | k + 1 => evStep o (evRow o i st k) i (i + 1 + k)
def evAll (o : List Int) : Nat → Option (Nat × Nat × Nat)
  | 0 => none
  | i + 1 => evRow o i (evAll o i) (o.length - (i + 1))
theorem evD_le {o : List Int} (h : ord o = true) {i j : Nat} (hi : i < o.length) (hj : j < o.length) (hf : fr o i j = true) : evD o i j ≤ cn o := by
  have := cn_two h hi hj hf
  unfold evD; omega
end Ord

/-
  Plain theory: the pairs of an order make it again.
-/
import Derived.Test.YtnjacpfahhjpiaaDoorClose
set_option linter.all false
namespace Ord
open Go.Am

theorem Path.reach {l : List (Nat × Nat)} : ∀ {m a b}, Path l m a b → Reach l a b
  | 0, _, _, h => h.elim
  | 1, _, _, h => .one h
  | m + 2, _, _, ⟨c, h1, h2⟩ => .tr (.one h1) (Path.reach h2)
theorem reach_nil {a b : Nat} (h : Reach [] a b) : False := by
  induction h with
  | one h => cases h
  | tr _ _ i _ => exact i
theorem close_eq {n : Nat} (hn : 1 ≤ n ∧ n ≤ 6) {l : List (Nat × Nat)} (hp : ∀ p ∈ l, p.1 < n ∧ p.2 < n) {q : List Int} (hq : ord q = true) (hl : q.length = n) (hr : ∀ a b, ab q a b = true ↔ Reach l a b) : close (zeros n) l = some q := by
  obtain ⟨c1, c2⟩ := close_spec hn l [] (zeros n) (zeros_ord hn) (by simp [zeros]) (fun a b => ⟨fun h => (by rw [zeros_ab] at h; cases h), fun h => (reach_nil h).elim⟩) hp
  rw [List.nil_append] at c1 c2
  cases hc : close (zeros n) l with
  | none =>
    obtain ⟨i, m, -, hm⟩ := c2 hc
    have := (hr i i).2 hm.reach
    rw [(ord_po hq).irr] at this; cases this
  | some q' =>
    obtain ⟨h1, h2, h3⟩ := c1 q' hc
    congr 1
    refine ((h2 ▸ ord_sets h1 : Sets n q')).ext (hl ▸ ord_sets hq) fun i j => ?_
    rw [Bool.eq_iff_iff, h3, hr]
theorem close_ord {n : Nat} (hn : 1 ≤ n ∧ n ≤ 6) {l : List (Nat × Nat)} (hp : ∀ p ∈ l, p.1 < n ∧ p.2 < n) {q : List Int} (hc : close (zeros n) l = some q) : ord q = true ∧ q.length = n ∧ ∀ a b, ab q a b = true ↔ Reach l a b := by
  obtain ⟨c1, -⟩ := close_spec hn l [] (zeros n) (zeros_ord hn) (by simp [zeros]) (fun a b => ⟨fun h => (by rw [zeros_ab] at h; cases h), fun h => (reach_nil h).elim⟩) hp
  rw [List.nil_append] at c1
  exact c1 q hc

/-- The pairs of x, up to y. -/
def rowP (q : List Int) (x y : Nat) : List (Nat × Nat) := ((List.range y).filter (ab q x)).map fun z => (x, z)
/-- The pairs of the first ones. -/
def allTo (q : List Int) (x : Nat) : List (Nat × Nat) := (List.range x).flatMap fun z => rowP q z q.length
theorem rowP_succ (q : List Int) (x y : Nat) : rowP q x (y + 1) = if ab q x y = true then rowP q x y ++ [(x, y)] else rowP q x y := by
  rw [rowP, rowP, List.range_succ, List.filter_append, List.map_append, List.filter_cons]
  split <;> simp
theorem allTo_succ (q : List Int) (x : Nat) : allTo q (x + 1) = allTo q x ++ rowP q x q.length := by
  rw [allTo, allTo, List.range_succ, List.flatMap_append]; simp
theorem mem_allTo {q : List Int} (hq : ord q = true) {a b : Nat} : (a, b) ∈ allTo q q.length ↔ ab q a b = true := by
  simp only [allTo, rowP, List.mem_flatMap, List.mem_map, List.mem_filter, List.mem_range, Prod.mk.injEq]
  constructor
  · rintro ⟨z, hz, y, ⟨hy, hab⟩, rfl, rfl⟩; exact hab
  · intro h
    have := ab_lt hq h
    exact ⟨a, this.1, b, ⟨this.2, h⟩, rfl, rfl⟩
theorem all_lt {q : List Int} (hq : ord q = true) : ∀ p ∈ allTo q q.length, p.1 < q.length ∧ p.2 < q.length := fun p hp => ab_lt hq ((mem_allTo hq (a := p.1) (b := p.2)).1 hp)
theorem row_le {q : List Int} (hq : ord q = true) (x : Nat) : (rowP q x q.length).length ≤ 5 := by
  have hl := ord_len hq
  rw [rowP, List.length_map]
  by_cases hx : x < q.length
  · have h1 : ((List.range q.length).filter (ab q x)).length < (List.range q.length).length := by
      have : ∀ l : List Nat, x ∈ l → (l.filter (ab q x)).length < l.length := by
        intro l
        induction l with
        | nil => intro h; cases h
        | cons a l ih =>
          intro h
          rw [List.filter_cons]
          have h2 := List.length_filter_le (ab q x) l
          rcases List.mem_cons.1 h with rfl | h
          · rw [(ord_po hq).irr, if_neg (by decide)]; simp only [List.length_cons]; omega
          · have := ih h
            split <;> simp only [List.length_cons] <;> omega
      exact this _ (List.mem_range.2 hx)
    rw [List.length_range] at h1; omega
  · have : (List.range q.length).filter (ab q x) = [] := by
      rw [List.filter_eq_nil_iff]; intro a _ h
      exact hx (ab_lt hq h).1
    rw [this]; exact Nat.zero_le _
/-- At most 25 pairs. -/
theorem all_len {q : List Int} (hq : ord q = true) : (allTo q q.length).length ≤ 25 := by
  have hl := ord_len hq
  have hne := firsts_ne (r := fun i j => ab q j i) ⟨(ord_po hq).irr, fun i j k h1 h2 => (ord_po hq).tr k j i h2 h1⟩ (S := List.range q.length) (by intro h; rw [List.range_eq_nil] at h; omega)
  obtain ⟨x, F, hF⟩ := List.exists_cons_of_ne_nil hne
  obtain ⟨hx, hno⟩ := mem_firsts.1 (by rw [hF]; simp : x ∈ firsts (fun i j => ab q j i) (List.range q.length))
  have hrow : rowP q x q.length = [] := by
    rw [rowP, List.map_eq_nil_iff, List.filter_eq_nil_iff]
    intro y hy h
    rw [hno y hy] at h; cases h
  have hx' := List.mem_range.1 hx
  have key : ∀ m, (allTo q m).length ≤ 5 * m ∧ (x < m → (allTo q m).length ≤ 5 * (m - 1)) := by
    intro m
    induction m with
    | zero => exact ⟨by simp [allTo], fun h => by omega⟩
    | succ m ih =>
      have hr := row_le hq m
      rw [allTo_succ, List.length_append]
      refine ⟨by omega, fun h => ?_⟩
      by_cases hxm : x = m
      · subst hxm; rw [hrow]; simp only [List.length_nil]; omega
      · have := ih.2 (by omega); omega
  have := (key q.length).2 hx'
  omega
theorem close_all {q : List Int} (hq : ord q = true) : close (zeros q.length) (allTo q q.length) = some q := by
  refine close_eq (ord_len hq) (all_lt hq) hq rfl fun a b => ⟨fun h => .one ((mem_allTo hq).2 h), fun h => ?_⟩
  induction h with
  | one h => exact (mem_allTo hq).1 h
  | tr _ _ i1 i2 => exact (ord_po hq).tr _ _ _ i1 i2
theorem close_more {q : List Int} (hq : ord q = true) {i j : Nat} (hi : i < q.length) (hj : j < q.length) (hf : fr q i j = true) : close (zeros q.length) (allTo q q.length ++ [(i, j)]) = some (addL q i j) := by
  simp only [fr, Bool.and_eq_true, decide_eq_true_eq, Bool.not_eq_true'] at hf
  refine close_eq (ord_len hq) (fun p hp => ?_) (addL_ord hq hi hj hf.1.1 hf.2) addL_len fun a b => ?_
  · rcases List.mem_append.1 hp with h | h
    · exact all_lt hq p h
    · rw [List.mem_singleton.1 h]; exact ⟨hi, hj⟩
  · rw [addL_ab hi hq]
    refine addR_reach (ord_po hq) (fun a b => ⟨fun h => .one ((mem_allTo hq).2 h), fun h => ?_⟩) hf.1.1 hf.2 a b
    induction h with
    | one h => exact (mem_allTo hq).1 h
    | tr _ _ i1 i2 => exact (ord_po hq).tr _ _ _ i1 i2
end Ord

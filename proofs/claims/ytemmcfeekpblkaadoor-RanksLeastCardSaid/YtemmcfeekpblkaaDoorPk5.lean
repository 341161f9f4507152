/-
  ranks: the table of math/bits, out of what the statement grants.
  Best orders, plain: the least number of pairs that the players who are left bring, and the first order that brings no more.
  Orders and the pairs that they go against, plain: the least cost; one result turned; a tournament without a cycle.
  The best order, plain: each one beats the next; it is the first of the best; the pairs that it goes against.
  Printed by gen.py: facts on the types of this seat, asked of the kernel.
  Packings, plain: the search with a bound finds a greatest one.
  The number of ways through a tournament is odd (Rédei): plain counting.
  Printed by gen.py: the code of some functions, without what no step looks at; held against the program's own by the kernel.
  ranks: whether a slice is a tournament: the two functions that say so.
  ranks: the small functions: beats, all, players.
  The seat's bits: TrailingZeros64 and TrailingZeros of math/bits, on the model's own worlds.
-/
import Derived.Test.YtemmcfeekpblkaaDoorPk4
import Derived.Test.YtemmcfeekpblkaaDoorRows
import Derived.Test.YtemmcfeekpblkaaDoorProg
import Derived.MakeChecks
import Derived.Test.YtemmcfeekpblkaaDoorPk3
import Derived.KernelRfl
import Derived.Shelf.Abstract
import Derived.Shelf.Spec.TrailingZeros
import Derived.TacticsInMore
import Derived.LoopNIn
import Derived.LoopIn
set_option linter.all false
namespace Go.Proofs.YtemmcfeekpblkaaDoor
open Go Go.Am Go.ChangeShapes Go.WideShapes Go.ChangeAt Go.WideMaps Go.WideElems Go.RowKit

theorem row_bytes {H : Type} {enc : TypeId × Value → H} {P : Program} {w : World} {base : Nat} {spare : Nat → Bool} {held : Bool} {fuel : Nat} {t e : TypeId} {n : Nat} {cs : List Value} {ns : List Nat} {p : List MemPlace}
    (ht : P.underlying t = some (.array n e)) (he : P.underlying e = some (.int .u8)) (hc : P.cellsOf e = 1) (hct : P.cellsOf t = n) (h : DataW.trod enc P w base spare held fuel t cs = some (.agg (ns.map fun (k : Nat) => .lit (.int .u8 k)), p)) : cs = ns.map fun (k : Nat) => Value.int .u8 k := by
  obtain ⟨xs, m, rfl, hx, hlen, hn, hel⟩ := DataW.trod_array ht h
  simp only [Prod.mk.injEq, DataW.agg.injEq] at hx
  have hns : ns.length = n := by rw [← hn, ← List.length_map (f := fun (x : DataW H × List MemPlace) => x.1), ← hx.1, List.length_map]
  apply List.ext_getElem (by rw [hlen, hct, List.length_map, hns])
  intro i h1 h2
  have hi : i < n := by rw [hlen, hct] at h1; exact h1
  have h3 := hel i hi
  rw [hc, Nat.mul_one, List.getElem?_eq_getElem (by omega)] at h3
  obtain ⟨k, g1, g2, _⟩ := DataW.trod_int he h3
  have h4 : (xs.map (·.1))[i]? = some (xs[i]'(by omega)).1 := by simp [List.getElem?_map, List.getElem?_eq_getElem (show i < xs.length by omega)]
  rw [← hx.1, g2] at h4
  rw [List.drop_eq_getElem_cons h1, List.take_succ_cons, List.take_zero] at g1
  have g1 := (List.cons.inj g1).1
  simp at h4
  obtain ⟨a, ha, hk⟩ := h4
  rw [g1, List.getElem_map]
  have : ns[i]'(by omega) = a := by
    rw [List.getElem?_eq_getElem (show i < ns.length by omega)] at ha; exact Option.some.inj ha
  rw [this, ← hk]

abbrev laid2 : List (String × DataW Unit) := [("math/bits.deBruijn32tab", Rows.laid_math_bits_deBruijn32tab), ("math/bits.deBruijn64tab", Rows.laid_math_bits_deBruijn64tab)]

theorem tab_of {W : World} (h : laidMetH Tryd.prog laid2 W) : ∃ e fr, W.heap[1]? = some (.cells (Lib.deBruijn64tab.map fun (n : Nat) => Value.int .u8 n).toArray e fr) := by
  rw [MakeChecks.laidMetH_plain _ _ _ (by kernel_rfl)] at h
  obtain ⟨ps, ⟨g0, t0, cs0, f0, p0, q0, hg0, ht0, hv0, hd0, ⟨g1, t1, cs1, f1, p1, q1, hg1, ht1, hv1, hd1, _, _⟩, _⟩, _, _⟩ := h
  obtain rfl := Option.some.inj ((show Tryd.prog.globalNamed "math/bits.deBruijn64tab" = some 1 by kernel_rfl).symm.trans hg1)
  obtain rfl := Option.some.inj ((show (Tryd.prog.globals[1]?).map (·.type) = some 103 by kernel_rfl).symm.trans ht1)
  have hrow := row_bytes (ns := Lib.deBruijn64tab) Tryd.underlying103 Tryd.underlying5 (by kernel_rfl) (by kernel_rfl) hd1
  simp only [World.var?, hg1, Option.bind_some] at hv1
  split at hv1
  · rename_i cs e fr hh
    cases hv1
    exact ⟨e, fr, by rw [hh, ← hrow]⟩
  · cases hv1
end Go.Proofs.YtemmcfeekpblkaaDoor

namespace Rb
/-- The least of some numbers and b. -/
def mnF (v : Nat → Nat) : List Nat → Nat → Nat
  | [], b => b
  | i :: l, b => mnF v l (if v i < b then v i else b)
section
variable {v : Nat → Nat}
theorem mnF_le : ∀ (l : List Nat) (b : Nat), mnF v l b ≤ b
  | [], b => Nat.le_refl _
  | i :: l, b => by
    rw [mnF]
    have := mnF_le l (if v i < b then v i else b)
    split at this <;> split <;> omega
theorem mnF_mem : ∀ (l : List Nat) (b i : Nat), i ∈ l → mnF v l b ≤ v i
  | [], _, _, h => by cases h
  | j :: l, b, i, h => by
    rw [mnF]
    rcases List.mem_cons.1 h with rfl | h
    · have := mnF_le (v := v) l (if v i < b then v i else b)
      split at this <;> split <;> omega
    · exact mnF_mem l _ i h
theorem mnF_or : ∀ (l : List Nat) (b : Nat), mnF v l b = b ∨ ∃ i ∈ l, mnF v l b = v i
  | [], b => .inl rfl
  | j :: l, b => by
    rw [mnF]
    rcases mnF_or l (if v j < b then v j else b) with h | ⟨i, hi, h⟩
    · rw [h]
      by_cases hb : v j < b
      · rw [if_pos hb]; exact .inr ⟨j, by simp, rfl⟩
      · rw [if_neg hb]; exact .inl rfl
    · exact .inr ⟨i, by simp [hi], h⟩
/-- What a run keeps that takes each better one. -/
def keep {α : Type} (v : Nat → Nat) (p : Nat → α) (st : Nat × α) (i : Nat) : Nat × α := if v i < st.1 then (v i, p i) else st
end

/-- Who is not in a set. -/
def fr (n s : Nat) : List Nat := (List.range n).filter fun i => !s.testBit i
theorem mem_fr {n s i : Nat} : i ∈ fr n s ↔ i < n ∧ s.testBit i = false := by simp [fr]
theorem testBit_put {s i x : Nat} : (s ||| 2 ^ i).testBit x = (s.testBit x || decide (i = x)) := by rw [Nat.testBit_or, Nat.testBit_two_pow]
theorem fr_put {n s i : Nat} (hi : i ∈ fr n s) : (fr n (s ||| 2 ^ i)).length + 1 = (fr n s).length := by
  have h : ∀ (l : List Nat), l.Nodup → (l.filter fun x => !(s ||| 2 ^ i).testBit x).length + (if i ∈ l ∧ s.testBit i = false then 1 else 0) = (l.filter fun x => !s.testBit x).length := by
    intro l
    induction l with
    | nil => intro _; simp
    | cons x l ih =>
      intro hn
      have hn' := List.nodup_cons.1 hn
      have := ih hn'.2
      by_cases hx : i = x
      · subst hx
        have h1 : ¬ (i ∈ l ∧ s.testBit i = false) := fun h => hn'.1 h.1
        rw [if_neg h1] at this
        cases hb : s.testBit i with
        | true => simp [List.filter_cons, testBit_put, hb] at this ⊢; exact this
        | false => simp [List.filter_cons, testBit_put, hb] at this ⊢; omega
      · have e : (s ||| 2 ^ i).testBit x = s.testBit x := by rw [testBit_put]; simp [hx]
        have h2 : (i ∈ x :: l ∧ s.testBit i = false) ↔ (i ∈ l ∧ s.testBit i = false) := by simp [hx]
        by_cases hp : i ∈ l ∧ s.testBit i = false
        · rw [if_pos hp] at this
          rw [if_pos (h2.2 hp), List.filter_cons, List.filter_cons, e]
          split <;> (try simp only [List.length_cons]) <;> omega
        · rw [if_neg hp] at this
          rw [if_neg (fun h => hp (h2.1 h)), List.filter_cons, List.filter_cons, e]
          split <;> (try simp only [List.length_cons]) <;> omega
  have := h (List.range n) List.nodup_range
  have hm := mem_fr.1 hi
  rw [if_pos ⟨List.mem_range.2 hm.1, hm.2⟩] at this
  exact this
theorem put_lt {n s i : Nat} (hs : s < 2 ^ n) (hi : i < n) : s ||| 2 ^ i < 2 ^ n := Nat.or_lt_two_pow hs (Nat.pow_lt_pow_right (by decide) hi)

section
variable (c : Nat → Nat → Nat) (n : Nat)
/-- The least number of pairs that k players bring who are not in s. -/
def rst : Nat → Nat → Nat
  | 0, _ => 0
  | k + 1, s => mnF (fun i => c i s + rst k (s ||| 2 ^ i)) (fr n s) (n * n)
def fv (k s i : Nat) : Nat := c i s + rst c n k (s ||| 2 ^ i)
theorem rst_succ (k s : Nat) : rst c n (k + 1) s = mnF (fv c n k s) (fr n s) (n * n) := rfl
/-- The first order of them that brings no more. -/
def gr : Nat → Nat → List Nat
  | 0, _ => []
  | k + 1, s => match (fr n s).find? (fun i => fv c n k s i == rst c n (k + 1) s) with
    | some i => i :: gr k (s ||| 2 ^ i)
    | none => []
def tri : Nat → Nat
  | 0 => 0
  | k + 1 => (n - (k + 1)) + tri k
variable {c n}
theorem tri_le : ∀ n, n ≤ 8 → ∀ k, k ≤ n → tri n k ≤ n * n ∧ tri n k ≤ 28 := by decide
/-- A player brings no more pairs than there are players ahead of it. -/
def Few (c : Nat → Nat → Nat) (n : Nat) : Prop := ∀ i s, s < 2 ^ n → c i s ≤ n - (fr n s).length
theorem fr_ne {s k : Nat} (h : (fr n s).length = k + 1) : ∃ i, i ∈ fr n s := by
  cases e : fr n s with
  | nil => rw [e] at h; cases h
  | cons i l => exact ⟨i, by simp⟩
theorem fr_le (n s : Nat) : (fr n s).length ≤ n := by
  have := List.length_filter_le (fun i => !s.testBit i) (List.range n)
  rw [List.length_range] at this; exact this
theorem rst_le (hc : Few c n) : ∀ (k s : Nat), s < 2 ^ n → (fr n s).length = k → rst c n k s ≤ tri n k
  | 0, _, _, _ => Nat.le_refl _
  | k + 1, s, hs, hk => by
    obtain ⟨i, hi⟩ := fr_ne hk
    have h1 := mnF_mem (v := fv c n k s) (fr n s) (n * n) i hi
    have h2 := hc i s hs
    have h3 := fr_put hi
    have h4 := rst_le hc k (s ||| 2 ^ i) (put_lt hs (mem_fr.1 hi).1) (by omega)
    rw [rst_succ, tri]
    rw [fv] at h1
    rw [hk] at h2
    omega
theorem fv_le (hc : Few c n) (hn : n ≤ 8) {k s i : Nat} (hs : s < 2 ^ n) (hk : (fr n s).length = k + 1) (hi : i ∈ fr n s) : fv c n k s i ≤ n * n := by
  have h2 := hc i s hs
  have h3 := fr_put hi
  have h4 := rst_le hc k (s ||| 2 ^ i) (put_lt hs (mem_fr.1 hi).1) (by omega)
  have h5 := fr_le n s
  have h6 := (tri_le n hn (k + 1) (by omega)).1
  rw [tri] at h6
  rw [fv]
  rw [hk] at h2
  omega
/-- Some player brings just the least. -/
theorem rst_att (hc : Few c n) (hn : n ≤ 8) {k s : Nat} (hs : s < 2 ^ n) (hk : (fr n s).length = k + 1) : ∃ j ∈ fr n s, rst c n (k + 1) s = fv c n k s j := by
  rw [rst_succ]
  rcases mnF_or (v := fv c n k s) (fr n s) (n * n) with h | h
  · obtain ⟨i, hi⟩ := fr_ne hk
    have h1 := mnF_mem (v := fv c n k s) (fr n s) (n * n) i hi
    have h2 := fv_le hc hn hs hk hi
    exact ⟨i, hi, by omega⟩
  · exact h
theorem gr_succ (hc : Few c n) (hn : n ≤ 8) {k s : Nat} (hs : s < 2 ^ n) (hk : (fr n s).length = k + 1) :
    ∃ i, (fr n s).find? (fun i => fv c n k s i == rst c n (k + 1) s) = some i ∧ i ∈ fr n s ∧ gr c n (k + 1) s = i :: gr c n k (s ||| 2 ^ i) := by
  obtain ⟨j, hj, he⟩ := rst_att hc hn hs hk
  cases hf : (fr n s).find? (fun i => fv c n k s i == rst c n (k + 1) s) with
  | none =>
    rw [List.find?_eq_none] at hf
    exact absurd (beq_iff_eq.2 he.symm) (hf j hj)
  | some i => exact ⟨i, rfl, List.mem_of_find?_eq_some hf, by rw [gr, hf]⟩
end
end Rb

namespace Rb
/-- How many pairs an order goes against: for each one, the earlier ones that it beats. -/
def back (b : Nat → Nat → Bool) (pre : List Nat) : List Nat → Nat
  | [] => 0
  | x :: l => pre.countP (b x) + back b (pre ++ [x]) l
def cost (c : Nat → Nat → Nat) : Nat → List Nat → Nat
  | _, [] => 0
  | s, x :: l => c x s + cost c (s ||| 2 ^ x) l
section
variable {c : Nat → Nat → Nat} {n : Nat}
/-- Each order of those who are left brings at least so many. -/
theorem rst_min : ∀ (l : List Nat) (s : Nat), l.Nodup → (∀ x ∈ l, x ∈ fr n s) → rst c n l.length s ≤ cost c s l
  | [], _, _, _ => Nat.le_refl _
  | x :: l, s, hd, hm => by
    have hd' := List.nodup_cons.1 hd
    rw [List.length_cons, rst_succ, cost]
    have h1 := mnF_mem (v := fv c n l.length s) (fr n s) (n * n) x (hm x (by simp))
    have h2 := rst_min l (s ||| 2 ^ x) hd'.2 fun y hy => by
      have := mem_fr.1 (hm y (by simp [hy]))
      refine mem_fr.2 ⟨this.1, ?_⟩
      have hne : x ≠ y := fun e => hd'.1 (e ▸ hy)
      rw [testBit_put, this.2, decide_eq_false hne]; rfl
    have h3 : fv c n l.length s x = c x s + rst c n l.length (s ||| 2 ^ x) := rfl
    rw [h3] at h1
    omega
/-- The order that is kept: it has all who are left, each once, and brings no more. -/
theorem gr_ok (hc : Few c n) (hn : n ≤ 8) : ∀ (k s : Nat), s < 2 ^ n → (fr n s).length = k → (gr c n k s).length = k ∧ (gr c n k s).Nodup ∧ (∀ x ∈ gr c n k s, x ∈ fr n s) ∧ cost c s (gr c n k s) = rst c n k s
  | 0, _, _, _ => ⟨rfl, List.nodup_nil, (fun _ h => by cases h), rfl⟩
  | k + 1, s, hs, hk => by
    obtain ⟨i, hf, hi, hg⟩ := gr_succ hc hn hs hk
    have hput := fr_put hi
    obtain ⟨h1, h2, h3, h4⟩ := gr_ok hc hn k (s ||| 2 ^ i) (put_lt hs (mem_fr.1 hi).1) (by omega)
    rw [hg]
    refine ⟨by rw [List.length_cons, h1], List.nodup_cons.2 ⟨fun h => ?_, h2⟩, fun x hx => ?_, ?_⟩
    · have := (mem_fr.1 (h3 i h)).2
      rw [testBit_put, decide_eq_true rfl, Bool.or_true] at this
      cases this
    · rcases List.mem_cons.1 hx with rfl | hx
      · exact hi
      · have := mem_fr.1 (h3 x hx)
        refine mem_fr.2 ⟨this.1, ?_⟩
        have h5 := this.2
        rw [testBit_put, Bool.or_eq_false_iff] at h5
        exact h5.1
    · rw [cost, h4]
      have := List.find?_some hf
      simp only [beq_iff_eq] at this
      rw [← this]; rfl
end
section
variable {b b' : Nat → Nat → Bool}
theorem back_zero : ∀ (l pre : List Nat), (∀ x ∈ pre, ∀ y ∈ l, b y x = false) → l.Pairwise (fun x y => b y x = false) → back b pre l = 0
  | [], _, _, _ => rfl
  | x :: l, pre, h, hp => by
    have hp' := List.pairwise_cons.1 hp
    rw [back, List.countP_eq_zero.2 fun y hy => by rw [h y hy x (by simp)]; decide, back_zero l (pre ++ [x]) (fun z hz y hy => ?_) hp'.2]
    rcases List.mem_append.1 hz with hz | hz
    · exact h z hz y (by simp [hy])
    · rw [List.mem_singleton.1 hz]; exact hp'.1 y hy
end
end Rb

namespace Rb
section
variable {b : Nat → Nat → Bool}
theorem back_perm : ∀ (l : List Nat) {p p' : List Nat}, p.Perm p' → back b p l = back b p' l
  | [], _, _, _ => rfl
  | x :: l, p, p', h => by rw [back, back, h.countP_eq, back_perm l (h.append_right [x])]
theorem back_app : ∀ (l m p : List Nat), back b p (l ++ m) = back b p l + back b (p ++ l) m
  | [], m, p => by simp [back]
  | x :: l, m, p => by
    rw [List.cons_append, back, back, back_app l m (p ++ [x]), List.append_assoc]
    simp only [List.singleton_append]
    omega
/-- Neighbours exchanged. -/
theorem back_swap {x y : Nat} (h1 : b x y = false) (h2 : b y x = true) (p l m : List Nat) : back b p (l ++ x :: y :: m) = back b p (l ++ y :: x :: m) + 1 := by
  have e : back b (p ++ l) (x :: y :: m) = back b (p ++ l) (y :: x :: m) + 1 := by
    simp only [back]
    rw [back_perm (b := b) m (p := p ++ l ++ [x] ++ [y]) (p' := p ++ l ++ [y] ++ [x]) (by
      rw [List.append_assoc, List.append_assoc (p ++ l)]
      exact (List.Perm.swap y x []).append_left _)]
    rw [List.countP_append, List.countP_append (l₂ := [y])]
    simp [h1, h2]
    omega
  rw [back_app, back_app, e]; omega
end
/-- One list stands first, or is the same. -/
def lexL : List Nat → List Nat → Prop
  | [], _ => True
  | _ :: _, [] => False
  | a :: l, x :: m => a < x ∨ (a = x ∧ lexL l m)
section
variable {c : Nat → Nat → Nat} {n : Nat}
theorem find_le {p : Nat → Bool} {i x : Nat} : ∀ {l : List Nat}, l.Pairwise (· < ·) → l.find? p = some i → x ∈ l → p x = true → i ≤ x
  | [], _, h, _, _ => by cases h
  | y :: l, hp, h, hx, hpx => by
    have hp' := List.pairwise_cons.1 hp
    by_cases hy : p y = true
    · rw [List.find?_cons_of_pos hy] at h
      injection h with h
      subst h
      rcases List.mem_cons.1 hx with rfl | hx
      · exact Nat.le_refl _
      · exact Nat.le_of_lt (hp'.1 x hx)
    · rw [List.find?_cons_of_neg hy] at h
      rcases List.mem_cons.1 hx with rfl | hx
      · exact absurd hpx hy
      · exact find_le hp'.2 h hx hpx
theorem gr_first (hc : Few c n) (hn : n ≤ 8) : ∀ (l : List Nat) (s : Nat), s < 2 ^ n → (fr n s).length = l.length → l.Nodup → (∀ x ∈ l, x ∈ fr n s) → cost c s l = rst c n l.length s → lexL (gr c n l.length s) l
  | [], _, _, _, _, _, _ => trivial
  | x :: l, s, hs, hk, hd, hm, he => by
    have hd' := List.nodup_cons.1 hd
    rw [List.length_cons] at hk
    obtain ⟨i, hf, hi, hg⟩ := gr_succ hc hn hs hk
    have hx := hm x (by simp)
    have hm2 : ∀ y ∈ l, y ∈ fr n (s ||| 2 ^ x) := fun y hy => by
      have := mem_fr.1 (hm y (by simp [hy]))
      have hne : x ≠ y := fun e => hd'.1 (e ▸ hy)
      exact mem_fr.2 ⟨this.1, by rw [testBit_put, this.2, decide_eq_false hne]; rfl⟩
    have h1 := rst_min (c := c) (n := n) l (s ||| 2 ^ x) hd'.2 hm2
    have h2 := mnF_mem (v := fv c n l.length s) (fr n s) (n * n) x hx
    rw [← rst_succ] at h2
    have h3 : fv c n l.length s x = c x s + rst c n l.length (s ||| 2 ^ x) := rfl
    rw [cost, List.length_cons] at he
    have hpx : (fv c n l.length s x == rst c n (l.length + 1) s) = true := by
      rw [beq_iff_eq]; omega
    have hle := find_le (List.pairwise_lt_range.filter _) hf hx hpx
    rw [List.length_cons, hg, lexL]
    rcases Nat.lt_or_ge i x with h | h
    · exact .inl h
    · have e : i = x := by omega
      subst e
      have hput := fr_put hi
      exact .inr ⟨rfl, gr_first hc hn l (s ||| 2 ^ i) (put_lt hs (mem_fr.1 hi).1) (by omega) hd'.2 hm2 (by omega)⟩
end
theorem nodup_le {α : Type} [DecidableEq α] : ∀ {l m : List α}, l.Nodup → (∀ x ∈ l, x ∈ m) → l.length ≤ m.length
  | [], _, _, _ => Nat.zero_le _
  | x :: l, m, hd, h => by
    have hd' := List.nodup_cons.1 hd
    have hx := h x (by simp)
    have := nodup_le (l := l) (m := m.erase x) hd'.2 fun y hy => (List.mem_erase_of_ne (show y ≠ x from fun e => hd'.1 (e ▸ hy))).2 (h y (by simp [hy]))
    rw [List.length_erase_of_mem hx] at this
    have : 0 < m.length := List.length_pos_of_mem hx
    rw [List.length_cons]; omega
end Rb
namespace Rb
section
variable {b : Nat → Nat → Bool}
/-- The pairs that an order goes against: who beats, and who stands before. -/
def bp (b : Nat → Nat → Bool) (pre : List Nat) : List Nat → List (Nat × Nat)
  | [] => []
  | x :: l => (pre.filter (b x)).map (fun y => (x, y)) ++ bp b (pre ++ [x]) l
theorem bp_len : ∀ (l pre : List Nat), (bp b pre l).length = back b pre l
  | [], _ => rfl
  | x :: l, pre => by rw [bp, back, List.length_append, List.length_map, bp_len l, List.countP_eq_length_filter]
theorem idx_ne {x y : Nat} {l : List Nat} (h : x ≠ y) : (x :: l).idxOf y = l.idxOf y + 1 := by
  rw [List.idxOf_cons, beq_eq_false_iff_ne.2 h]; rfl
theorem bp_in {u v : Nat} : ∀ (l pre : List Nat), u ∈ l → u ≠ v → b u v = true → (v ∈ pre ∨ (v ∈ l ∧ l.idxOf v < l.idxOf u)) → (u, v) ∈ bp b pre l
  | [], _, h, _, _, _ => by cases h
  | x :: l, pre, hu, hne, hb, hv => by
    rw [bp]
    by_cases hx : u = x
    · subst hx
      refine List.mem_append.2 (.inl (List.mem_map.2 ⟨v, List.mem_filter.2 ⟨?_, hb⟩, rfl⟩))
      rcases hv with h | ⟨_, h⟩
      · exact h
      · rw [List.idxOf_cons_self] at h; omega
    · have hu' : u ∈ l := by
        rcases List.mem_cons.1 hu with h | h
        · exact absurd h hx
        · exact h
      refine List.mem_append.2 (.inr (bp_in l (pre ++ [x]) hu' hne hb ?_))
      rcases hv with h | ⟨h, hi⟩
      · exact .inl (by simp [h])
      · by_cases hxv : v = x
        · exact .inl (by simp [hxv])
        · refine .inr ⟨(List.mem_cons.1 h).resolve_left hxv, ?_⟩
          rw [idx_ne (fun e => hxv e.symm), idx_ne (fun e => hx e.symm)] at hi
          omega
theorem bp_out {u v : Nat} : ∀ (l pre : List Nat), (pre ++ l).Nodup → (u, v) ∈ bp b pre l → u ∈ l ∧ b u v = true ∧ u ≠ v ∧ (v ∈ pre ∨ (v ∈ l ∧ l.idxOf v < l.idxOf u))
  | [], _, _, h => by cases h
  | x :: l, pre, hd, h => by
    have hd2 : ((pre ++ [x]) ++ l).Nodup := by simpa using hd
    have hxp : x ∉ pre := fun hm => (List.nodup_append.1 hd).2.2 x hm x (by simp) rfl
    have hxl : x ∉ l := (List.nodup_cons.1 (List.nodup_append.1 hd).2.1).1
    rw [bp] at h
    rcases List.mem_append.1 h with h | h
    · obtain ⟨y, hy, e⟩ := List.mem_map.1 h
      injection e with e1 e2
      subst e1; subst e2
      have := List.mem_filter.1 hy
      exact ⟨by simp, this.2, fun e => hxp (e ▸ this.1), .inl this.1⟩
    · obtain ⟨h1, h2, h3, h4⟩ := bp_out l (pre ++ [x]) hd2 h
      have hux : u ≠ x := fun e => hxl (e ▸ h1)
      refine ⟨by simp [h1], h2, h3, ?_⟩
      rcases h4 with h4 | ⟨h4, h5⟩
      · rcases List.mem_append.1 h4 with h4 | h4
        · exact .inl h4
        · have e := List.mem_singleton.1 h4
          subst e
          refine .inr ⟨by simp, ?_⟩
          rw [List.idxOf_cons_self, idx_ne (fun e => hux e.symm)]; omega
      · have hvx : v ≠ x := fun e => hxl (e ▸ h4)
        refine .inr ⟨by simp [h4], ?_⟩
        rw [idx_ne (fun e => hvx e.symm), idx_ne (fun e => hux e.symm)]; omega
/-- Each cycle has a pair that the order goes against. -/
def bk (l : List Nat) (t : Nat × Nat × Nat) : Nat × Nat :=
  if l.idxOf t.2.1 < l.idxOf t.1 then (t.1, t.2.1) else if l.idxOf t.2.2 < l.idxOf t.2.1 then (t.2.1, t.2.2) else (t.2.2, t.1)
theorem idx_inj {l : List Nat} {x y : Nat} (hx : x ∈ l) (hy : y ∈ l) (h : l.idxOf x = l.idxOf y) : x = y := by
  have h1 := List.getElem_idxOf (List.idxOf_lt_length_of_mem hx)
  have h2 := List.getElem_idxOf (List.idxOf_lt_length_of_mem hy)
  have h3 : l[l.idxOf x]'(List.idxOf_lt_length_of_mem hx) = l[l.idxOf y]'(List.idxOf_lt_length_of_mem hy) := by simp only [h]
  rw [h1, h2] at h3; exact h3
theorem bk_in {l : List Nat} {a x c : Nat} (ha : a ∈ l) (hx : x ∈ l) (hc : c ∈ l) (h1 : b a x = true) (h2 : b x c = true) (h3 : b c a = true) (n1 : a ≠ x) (n2 : x ≠ c) (n3 : c ≠ a) : bk l (a, x, c) ∈ bp b [] l := by
  rw [bk]
  split
  · next h => exact bp_in l [] ha n1 h1 (.inr ⟨hx, h⟩)
  · next g =>
    split
    · next h => exact bp_in l [] hx n2 h2 (.inr ⟨hc, h⟩)
    · next h =>
      refine bp_in l [] hc n3 h3 (.inr ⟨ha, ?_⟩)
      have e1 : l.idxOf a ≠ l.idxOf x := fun e => n1 (idx_inj ha hx e)
      have e2 : l.idxOf x ≠ l.idxOf c := fun e => n2 (idx_inj hx hc e)
      simp only at g h
      show l.idxOf a < l.idxOf c
      omega
end
end Rb

namespace Go.Proofs.Tryd.Am
open Go.Am
set_option maxRecDepth 100000
theorem app_22_22 : appT Tryd.prog 22 22 = some (3, 1, 8) := by kernel_rfl
theorem app_36_36 : appT Tryd.prog 36 36 = some (40, 3, 24) := by kernel_rfl
theorem app_46_46 : appT Tryd.prog 46 46 = some (52, 2, 16) := by kernel_rfl
theorem el_22 : elemOf' Tryd.prog 22 = some 3 := by kernel_rfl
theorem el_36 : elemOf' Tryd.prog 36 = some 40 := by kernel_rfl
theorem el_46 : elemOf' Tryd.prog 46 = some 52 := by kernel_rfl
theorem el_55 : elemOf' Tryd.prog 55 = some 3 := by kernel_rfl
theorem esz_22 : esz Tryd.prog 22 = some 1 := by kernel_rfl
theorem esz_27 : esz Tryd.prog 27 = some 1 := by kernel_rfl
theorem esz_3 : esz Tryd.prog 3 = some 1 := by kernel_rfl
theorem esz_40 : esz Tryd.prog 40 = some 3 := by kernel_rfl
theorem esz_52 : esz Tryd.prog 52 = some 2 := by kernel_rfl
theorem esz_55 : esz Tryd.prog 55 = some 1 := by kernel_rfl
theorem info_3 : (Tryd.prog.info? 3).map (fun i => (i.size, i.bytes)) = some (1, 8) := by kernel_rfl
theorem isl_22 : isSl Tryd.prog 22 = true := by kernel_rfl
theorem isl_36 : isSl Tryd.prog 36 = true := by kernel_rfl
theorem isl_46 : isSl Tryd.prog 46 = true := by kernel_rfl
theorem isl_55 : isSl Tryd.prog 55 = true := by kernel_rfl
theorem pl_40_0 : placeOf Tryd.prog 40 0 = some (0, 1) := by kernel_rfl
theorem pl_40_1 : placeOf Tryd.prog 40 1 = some (1, 1) := by kernel_rfl
theorem pl_40_2 : placeOf Tryd.prog 40 2 = some (2, 1) := by kernel_rfl
theorem pl_52_0 : placeOf Tryd.prog 52 0 = some (0, 1) := by kernel_rfl
theorem pl_52_1 : placeOf Tryd.prog 52 1 = some (1, 1) := by kernel_rfl
theorem shp_22 : shp Tryd.prog 22 = some none := by kernel_rfl
theorem shp_27 : shp Tryd.prog 27 = some none := by kernel_rfl
theorem shp_3 : shp Tryd.prog 3 = some none := by kernel_rfl
theorem shp_36 : shp Tryd.prog 36 = some none := by kernel_rfl
theorem shp_4 : shp Tryd.prog 4 = some none := by kernel_rfl
theorem shp_40 : shp Tryd.prog 40 = some (some 3) := by kernel_rfl
theorem shp_52 : shp Tryd.prog 52 = some (some 2) := by kernel_rfl
theorem shp_55 : shp Tryd.prog 55 = some none := by kernel_rfl
theorem shp_63 : shp Tryd.prog 63 = some none := by kernel_rfl
theorem shp_69 : shp Tryd.prog 69 = some none := by kernel_rfl
theorem shp_79 : shp Tryd.prog 79 = some none := by kernel_rfl
theorem und_22 : Program.underlying Tryd.prog 22 = some (.slice 3) := by kernel_rfl
theorem und_3 : Program.underlying Tryd.prog 3 = some (.int .i64) := by kernel_rfl
theorem und_36 : Program.underlying Tryd.prog 36 = some (.slice 40) := by kernel_rfl
theorem und_4 : Program.underlying Tryd.prog 4 = some (.bool) := by kernel_rfl
theorem und_40 : Program.underlying Tryd.prog 40 = some (.array 3 3) := by kernel_rfl
theorem und_46 : Program.underlying Tryd.prog 46 = some (.slice 52) := by kernel_rfl
theorem und_5 : Program.underlying Tryd.prog 5 = some (.int .u8) := by kernel_rfl
theorem und_52 : Program.underlying Tryd.prog 52 = some (.array 2 3) := by kernel_rfl
theorem und_53 : Program.underlying Tryd.prog 53 = some (.int .u64) := by kernel_rfl
theorem und_55 : Program.underlying Tryd.prog 55 = some (.slice 3) := by kernel_rfl
theorem und_87 : Program.underlying Tryd.prog 87 = some (.int .u32) := by kernel_rfl
theorem und_89 : Program.underlying Tryd.prog 89 = some (.int .u64) := by kernel_rfl
theorem und_9 : Program.underlying Tryd.prog 9 = some (.string) := by kernel_rfl
theorem zero_22 : zeroOf Tryd.prog 22 = some [.slice none 0 0] := by kernel_rfl
theorem zero_3 : zeroOf Tryd.prog 3 = some [.int .i64 0] := by kernel_rfl
theorem zero_36 : zeroOf Tryd.prog 36 = some [.slice none 0 0] := by kernel_rfl
theorem zero_4 : zeroOf Tryd.prog 4 = some [.bool false] := by kernel_rfl
theorem zero_40 : zeroOf Tryd.prog 40 = some [.int .i64 0, .int .i64 0, .int .i64 0] := by kernel_rfl
theorem zero_52 : zeroOf Tryd.prog 52 = some [.int .i64 0, .int .i64 0] := by kernel_rfl
theorem zero_55 : zeroOf Tryd.prog 55 = some [.slice none 0 0] := by kernel_rfl
theorem zero_63 : zeroOf Tryd.prog 63 = some [.nilFunc] := by kernel_rfl
theorem zero_69 : zeroOf Tryd.prog 69 = some [.nilFunc] := by kernel_rfl
theorem zero_79 : zeroOf Tryd.prog 79 = some [.nilFunc] := by kernel_rfl
def tyf := (And.intro (And.intro (And.intro (And.intro (And.intro (And.intro @app_22_22 @app_36_36) (And.intro @app_46_46 @el_22)) (And.intro (And.intro @el_36 @el_46) (And.intro @el_55 @esz_22))) (And.intro (And.intro (And.intro @esz_27 @esz_3) (And.intro @esz_40 @esz_52)) (And.intro (And.intro @esz_55 @info_3) @isl_22))) (And.intro (And.intro (And.intro (And.intro @isl_36 @isl_46) (And.intro @isl_55 @pl_40_0)) (And.intro (And.intro @pl_40_1 @pl_40_2) @pl_52_0)) (And.intro (And.intro (And.intro @pl_52_1 @shp_22) (And.intro @shp_27 @shp_3)) (And.intro (And.intro @shp_36 @shp_4) @shp_40)))) (And.intro (And.intro (And.intro (And.intro (And.intro @shp_52 @shp_55) (And.intro @shp_63 @shp_69)) (And.intro (And.intro @shp_79 @und_22) @und_3)) (And.intro (And.intro (And.intro @und_36 @und_4) (And.intro @und_40 @und_46)) (And.intro (And.intro @und_5 @und_52) @und_53))) (And.intro (And.intro (And.intro (And.intro @und_55 @und_87) (And.intro @und_89 @und_9)) (And.intro (And.intro @zero_22 @zero_3) @zero_36)) (And.intro (And.intro (And.intro @zero_4 @zero_40) (And.intro @zero_52 @zero_55)) (And.intro (And.intro @zero_63 @zero_69) @zero_79)))))
end Go.Proofs.Tryd.Am

namespace Pck
variable {α : Type} {ok : α → α → Bool}

def fits (ok : α → α → Bool) (now : List α) (c : α) : Bool := now.all fun x => ok x c
def better (now best : List α) : List α := if best.length < now.length then now else best
/-- The search from here to the end of the list. -/
def pk (ok : α → α → Bool) : List α → List α → List α → List α
  | [], _, best => best
  | c :: r, now, best => pk ok r now (if fits ok now c = true then (if now.length + 1 + r.length ≤ (better (now ++ [c]) best).length then better (now ++ [c]) best else pk ok r (now ++ [c]) (better (now ++ [c]) best)) else best)
/-- The search as it is called. -/
def go (ok : α → α → Bool) (r now best : List α) : List α := if now.length + r.length ≤ (better now best).length then better now best else pk ok r now (better now best)
theorem pk_cons (c : α) (r now best : List α) : pk ok (c :: r) now best = pk ok r now (if fits ok now c = true then go ok r (now ++ [c]) best else best) := by
  rw [pk, go, List.length_append, List.length_singleton]
theorem better_len (now best : List α) : (better now best).length = max best.length now.length := by
  unfold better; split <;> omega

/-- How many more fit: the most. -/
def G (ok : α → α → Bool) : List α → (α → Bool) → Nat
  | [], _ => 0
  | c :: r, p => max (G ok r p) (if p c = true then 1 + G ok r (fun x => p x && ok c x) else 0)
theorem G_le : ∀ (r : List α) (p : α → Bool), G ok r p ≤ r.length
  | [], _ => Nat.le_refl _
  | c :: r, p => by
    have h1 := G_le r p
    have h2 := G_le r (fun x => p x && ok c x)
    rw [G, List.length_cons]; split <;> omega
theorem G_congr : ∀ (r : List α) {p q : α → Bool}, (∀ x ∈ r, p x = q x) → G ok r p = G ok r q
  | [], _, _, _ => rfl
  | c :: r, p, q, h => by
    rw [G, G, G_congr r fun x hx => h x (by simp [hx]), h c (by simp), G_congr r (p := fun x => p x && ok c x) (q := fun x => q x && ok c x) fun x hx => by rw [h x (by simp [hx])]]
theorem fits_snoc (now : List α) (c x : α) : fits ok (now ++ [c]) x = (fits ok now x && ok c x) := by simp [fits]
theorem pk_len : ∀ (r now best : List α), now.length ≤ best.length → (pk ok r now best).length = max best.length (now.length + G ok r (fits ok now))
  | [], now, best, h => by rw [pk, G]; omega
  | c :: r, now, best, h => by
    have hg : G ok r (fits ok (now ++ [c])) = G ok r (fun x => fits ok now x && ok c x) := G_congr r fun x _ => fits_snoc now c x
    have hgo : (go ok r (now ++ [c]) best).length = max best.length (now.length + (1 + G ok r (fun x => fits ok now x && ok c x))) := by
      have hb := better_len (now ++ [c]) best
      rw [List.length_append, List.length_singleton] at hb
      have hle := G_le (ok := ok) r (fun x => fits ok now x && ok c x)
      unfold go
      rw [List.length_append, List.length_singleton]
      split
      · omega
      · rw [pk_len r (now ++ [c]) _ (by rw [List.length_append, List.length_singleton]; omega), hg, List.length_append, List.length_singleton]; omega
    rw [pk_cons, G]
    cases hf : fits ok now c with
    | false => simp only [Bool.false_eq_true, if_false]; rw [pk_len r now best h]; omega
    | true =>
      simp only [if_true]
      rw [pk_len r now _ (by rw [hgo]; omega), hgo]; omega
theorem go_len (r now best : List α) : (go ok r now best).length = max best.length (now.length + G ok r (fits ok now)) := by
  have hb := better_len now best
  have hle := G_le (ok := ok) r (fits ok now)
  unfold go
  split
  · omega
  · rw [pk_len r now _ (by omega)]; omega
/-- A packing. -/
def Good (ok : α → α → Bool) (D l : List α) : Prop := l.Sublist D ∧ l.Pairwise fun x y => ok x y = true
theorem pk_good {D : List α} : ∀ (r now best : List α), (now ++ r).Sublist D → (now.Pairwise fun x y => ok x y = true) → Good ok D best → Good ok D (pk ok r now best)
  | [], now, best, _, _, hb => by rw [pk]; exact hb
  | c :: r, now, best, hs, hp, hb => by
    have hs1 : (now ++ r).Sublist D := ((List.append_sublist_append_left now).2 (List.sublist_cons_self c r)).trans hs
    have hs2 : (now ++ [c] ++ r).Sublist D := by rw [List.append_assoc]; exact hs
    rw [pk_cons]
    refine pk_good r now _ hs1 hp ?_
    split
    · rename_i hf
      have hp2 : (now ++ [c]).Pairwise fun x y => ok x y = true := List.pairwise_append.2 ⟨hp, List.pairwise_singleton _ _, fun x hx y hy => by
        rw [List.mem_singleton.1 hy]; exact List.all_eq_true.1 hf x hx⟩
      have hb2 : Good ok D (better (now ++ [c]) best) := by
        unfold better
        split
        · exact ⟨(List.sublist_append_left _ r).trans hs2, hp2⟩
        · exact hb
      unfold go
      split
      · exact hb2
      · exact pk_good r (now ++ [c]) _ hs2 hp2 hb2
    · exact hb
theorem go_good (D : List α) : Good ok D (go ok D [] []) := by
  have hn : Good ok D ([] : List α) := ⟨List.nil_sublist _, List.Pairwise.nil⟩
  have hb : better ([] : List α) [] = [] := by simp [better]
  unfold go
  rw [hb]
  split
  · exact hn
  · exact pk_good D [] [] (by simp) List.Pairwise.nil hn
/-- How many two have in common. -/
def cm (x y : Int × Int × Int) : Nat :=
  let e (a b : Int) : Nat := if a = b then 1 else 0
  (e x.1 y.1 + e x.1 y.2.1 + e x.1 y.2.2) + (e x.2.1 y.1 + e x.2.1 y.2.1 + e x.2.1 y.2.2) + (e x.2.2 y.1 + e x.2.2 y.2.1 + e x.2.2 y.2.2)
theorem cm_comm (x y : Int × Int × Int) : cm x y = cm y x := by
  have h : ∀ a b : Int, (if a = b then 1 else 0) = (if b = a then 1 else 0) := fun a b => by
    by_cases h : a = b
    · rw [if_pos h, if_pos h.symm]
    · rw [if_neg h, if_neg (Ne.symm h)]
  simp only [cm]
  rw [h x.1, h x.1, h x.1, h x.2.1, h x.2.1, h x.2.1, h x.2.2, h x.2.2, h x.2.2]
  omega
/-- The same, if the second one has three different entries. -/
def inn (a : Int) (y : Int × Int × Int) : Nat := if a = y.1 ∨ a = y.2.1 ∨ a = y.2.2 then 1 else 0
def cm2 (x y : Int × Int × Int) : Nat := inn x.1 y + inn x.2.1 y + inn x.2.2 y
def Dist (y : Int × Int × Int) : Prop := y.1 ≠ y.2.1 ∧ y.1 ≠ y.2.2 ∧ y.2.1 ≠ y.2.2
theorem inn_eq {y : Int × Int × Int} (h : Dist y) (a : Int) : inn a y = (if a = y.1 then 1 else 0) + (if a = y.2.1 then 1 else 0) + (if a = y.2.2 then 1 else 0) := by
  obtain ⟨h1, h2, h3⟩ := h
  unfold inn
  by_cases g1 : a = y.1
  · subst g1; simp [h1, h2]
  · by_cases g2 : a = y.2.1
    · subst g2; simp [g1, h3]
    · by_cases g3 : a = y.2.2
      · rw [if_pos (.inr (.inr g3)), if_neg g1, if_neg g2, if_pos g3]
      · rw [if_neg (by rintro (h | h | h) <;> contradiction), if_neg g1, if_neg g2, if_neg g3]
theorem cm2_eq {x y : Int × Int × Int} (h : Dist y) : cm2 x y = cm x y := by
  rw [cm2, inn_eq h, inn_eq h, inn_eq h]; rfl
def okT (x y : Int × Int × Int) : Bool := decide (cm x y < 2)
end Pck

namespace Go.Proofs.Tryd.Redei

/-- The sum of f over a list. -/
def sm {α : Type} (f : α → Nat) : List α → Nat
  | [] => 0
  | x :: l => f x + sm f l

section
variable {α β : Type}
end

/-- One picked out of a list, and the rest. -/
def picks : List Nat → List (Nat × List Nat)
  | [] => []
  | x :: S => (x, S) :: (picks S).map fun p => (p.1, x :: p.2)
/-- The ways through all of a list that end with y behind it. -/
def en (r : Nat → Nat → Bool) : Nat → List Nat → Nat → Nat
  | 0, A, _ => if A = [] then 1 else 0
  | n + 1, A, y => (if A = [] then 1 else 0) + sm (fun p => if r p.1 y then en r n p.2 p.1 else 0) (picks A)
def E (r : Nat → Nat → Bool) (A : List Nat) (y : Nat) : Nat := en r A.length A y
/-- All ways through a list. -/
def H (r : Nat → Nat → Bool) (S : List Nat) : Nat := sm (fun p => E r p.2 p.1) (picks S)

def ind (b : Bool) : Nat := if b then 1 else 0

/-- The arcs between a and b are told anew. -/
def put (r : Nat → Nat → Bool) (a b : Nat) (u v : Bool) (x y : Nat) : Bool := if x = a ∧ y = b then u else if x = b ∧ y = a then v else r x y

end Go.Proofs.Tryd.Redei

namespace Go.Proofs.Tryd.Am
open Go.Am
set_option maxRecDepth 100000
/-! 4: planchet planchetlaw02.RanksWays -/
@[reducible] def q4_0 : SCode := .region [⟨some 4, .assign (.const (.bool false)), none⟩]
@[reducible] def q4_1 : SCode := .region [⟨some 12, .move (.tmp 0), none⟩,
    ⟨some 13, .call { callee := .value (.func 19), args := #[.tmp 12], argTypes := #[22] }, none⟩,
    ⟨some 14, .call { callee := .value (.func 18), args := #[.tmp 13], argTypes := #[22] }, none⟩,
    ⟨some 11, .move (.tmp 14), none⟩,
    ⟨some 15, .extract (.tmp 11) 0, none⟩,
    ⟨some 16, .extract (.tmp 11) 1, none⟩,
    ⟨some 5, .assign (.tmp 15), none⟩,
    ⟨some 6, .assign (.tmp 16), none⟩]
@[reducible] def q4_2 : SCode := .region [⟨some 18, .move (.tmp 0), none⟩,
    ⟨some 19, .call { callee := .value (.func 19), args := #[.tmp 18], argTypes := #[22] }, none⟩,
    ⟨some 20, .move (.tmp 1), none⟩,
    ⟨some 21, .call { callee := .value (.func 24), args := #[.tmp 19, .tmp 20], argTypes := #[22, 3] }, none⟩,
    ⟨some 17, .move (.tmp 21), none⟩,
    ⟨some 22, .extract (.tmp 17) 0, none⟩,
    ⟨some 23, .extract (.tmp 17) 1, none⟩,
    ⟨some 7, .assign (.tmp 22), none⟩,
    ⟨some 8, .assign (.tmp 23), none⟩]
@[reducible] def q4_3 : SCode := .region [⟨some 24, .move (.tmp 0), none⟩,
    ⟨some 25, .call { callee := .value (.func 20), args := #[.tmp 24], argTypes := #[22] }, none⟩,
    ⟨some 26, .unOp .not 4 (.tmp 25), none⟩]
@[reducible] def q4_4 : SCode := .region [⟨some 27, .move (.tmp 5), none⟩,
    ⟨some 28, .call { callee := .builtin .len, args := #[.tmp 27], argTypes := #[22] }, none⟩,
    ⟨some 29, .move (.tmp 7), none⟩,
    ⟨some 30, .call { callee := .builtin .len, args := #[.tmp 29], argTypes := #[22] }, none⟩,
    ⟨some 31, .binOp .add 3 (.tmp 28) (.tmp 30) 3, none⟩,
    ⟨some 32, .binOp .eql 3 (.tmp 31) (.const (.int .i64 0)) 3, none⟩,
    ⟨some 33, .move (.tmp 32), none⟩,
    ⟨some 34, .move (.tmp 6), some (33, true)⟩,
    ⟨some 35, .binOp .eql 23 (.tmp 34) (.const (.int .i64 2)) 23, some (33, true)⟩,
    ⟨some 36, .pick (.tmp 33) (.tmp 35) (.const (.bool false)), none⟩,
    ⟨some 37, .move (.tmp 36), none⟩,
    ⟨some 38, .move (.tmp 8), some (37, true)⟩,
    ⟨some 39, .binOp .eql 23 (.tmp 38) (.const (.int .i64 2)) 23, some (37, true)⟩,
    ⟨some 40, .pick (.tmp 37) (.tmp 39) (.const (.bool false)), none⟩,
    ⟨some 41, .move (.tmp 40), none⟩,
    ⟨some 42, .call { callee := .value (.func 21), args := #[], argTypes := #[] }, some (41, true)⟩,
    ⟨some 43, .pick (.tmp 41) (.tmp 42) (.const (.bool false)), none⟩,
    ⟨some 4, .assign (.tmp 43), none⟩]
@[reducible] def q4_5 : SCode := .region [⟨some 44, .move (.tmp 5), none⟩,
    ⟨some 45, .move (.tmp 0), none⟩,
    ⟨some 46, .call { callee := .value (.func 26), args := #[.tmp 45], argTypes := #[22] }, none⟩,
    ⟨some 47, .call { callee := .value (.func 25), args := #[.tmp 44, .tmp 46], argTypes := #[22, 22] }, none⟩,
    ⟨some 48, .unOp .not 4 (.tmp 47), none⟩,
    ⟨some 49, .move (.tmp 48), none⟩,
    ⟨some 50, .move (.tmp 6), some (49, false)⟩,
    ⟨some 51, .binOp .neq 23 (.tmp 50) (.const (.int .i64 0)) 23, some (49, false)⟩,
    ⟨some 52, .pick (.tmp 49) (.const (.bool true)) (.tmp 51), none⟩,
    ⟨some 53, .move (.tmp 52), none⟩,
    ⟨some 54, .call { callee := .value (.func 21), args := #[], argTypes := #[] }, some (53, false)⟩,
    ⟨some 55, .unOp .not 4 (.tmp 54), some (53, false)⟩,
    ⟨some 56, .pick (.tmp 53) (.const (.bool true)) (.tmp 55), none⟩]
@[reducible] def q4_6 : SCode := .region [⟨some 4, .assign (.const (.bool false)), none⟩]
@[reducible] def q4_7 : SCode := .region [⟨some 57, .move (.tmp 1), none⟩,
    ⟨some 58, .binOp .lss 3 (.tmp 57) (.const (.int .i64 3)) 3, none⟩,
    ⟨some 59, .move (.tmp 58), none⟩,
    ⟨some 60, .move (.tmp 1), some (59, false)⟩,
    ⟨some 61, .move (.tmp 0), some (59, false)⟩,
    ⟨some 62, .call { callee := .builtin .len, args := #[.tmp 61], argTypes := #[22] }, some (59, false)⟩,
    ⟨some 63, .binOp .gtr 3 (.tmp 60) (.tmp 62) 3, some (59, false)⟩,
    ⟨some 64, .pick (.tmp 59) (.const (.bool true)) (.tmp 63), none⟩]
@[reducible] def q4_8 : SCode := .region [⟨some 65, .move (.tmp 7), none⟩,
    ⟨some 66, .call { callee := .builtin .len, args := #[.tmp 65], argTypes := #[22] }, none⟩,
    ⟨some 67, .binOp .eql 3 (.tmp 66) (.const (.int .i64 0)) 3, none⟩,
    ⟨some 68, .move (.tmp 67), none⟩,
    ⟨some 69, .move (.tmp 8), some (68, true)⟩,
    ⟨some 70, .binOp .eql 23 (.tmp 69) (.const (.int .i64 2)) 23, some (68, true)⟩,
    ⟨some 71, .pick (.tmp 68) (.tmp 70) (.const (.bool false)), none⟩,
    ⟨some 4, .assign (.tmp 71), none⟩]
@[reducible] def q4_9 : SCode := .region [⟨some 73, .move (.tmp 0), none⟩,
    ⟨some 74, .move (.tmp 1), none⟩,
    ⟨some 75, .call { callee := .value (.func 27), args := #[.tmp 73, .tmp 74], argTypes := #[22, 3] }, none⟩,
    ⟨some 72, .move (.tmp 75), none⟩,
    ⟨some 76, .extract (.tmp 72) 0, none⟩,
    ⟨some 77, .extract (.tmp 72) 1, none⟩,
    ⟨some 9, .assign (.tmp 76), none⟩,
    ⟨some 10, .assign (.tmp 77), none⟩]
@[reducible] def q4_10 : SCode := .region [⟨some 78, .move (.tmp 7), none⟩,
    ⟨some 79, .move (.tmp 9), none⟩,
    ⟨some 80, .call { callee := .value (.func 25), args := #[.tmp 78, .tmp 79], argTypes := #[22, 22] }, none⟩,
    ⟨some 81, .move (.tmp 80), none⟩,
    ⟨some 82, .move (.tmp 8), some (81, true)⟩,
    ⟨some 83, .move (.tmp 10), some (81, true)⟩,
    ⟨some 84, .binOp .eql 23 (.tmp 82) (.tmp 83) 23, some (81, true)⟩,
    ⟨some 85, .pick (.tmp 81) (.tmp 84) (.const (.bool false)), none⟩,
    ⟨some 4, .assign (.tmp 85), none⟩]
def s4 : SCode := (.seq q4_0 (.seq q4_1 (.seq q4_2 (.seq (.seq q4_3 (.cond (.tmp 26) (.seq q4_4 .ret) .skip)) (.seq (.seq q4_5 (.cond (.tmp 56) (.seq q4_6 .ret) .skip)) (.seq (.seq q4_7 (.cond (.tmp 64) (.seq q4_8 .ret) .skip)) (.seq q4_9 (.seq q4_10 .ret))))))))
/-! 18: planchet ranks.Way -/
@[reducible] def q18_0 : SCode := .region [⟨some 2, .assign (.const (.slice none 0 0)), none⟩,
    ⟨some 3, .assign (.const (.int .i64 0)), none⟩]
@[reducible] def q18_1 : SCode := .region [⟨some 5, .move (.tmp 0), none⟩,
    ⟨some 4, .assign (.tmp 5), none⟩]
@[reducible] def q18_2 : SCode := .region [⟨some 6, .move (.tmp 4), none⟩,
    ⟨some 7, .call { callee := .value (.func 56), args := #[.tmp 6], argTypes := #[55] }, none⟩,
    ⟨some 8, .unOp .not 4 (.tmp 7), none⟩]
@[reducible] def q18_3 : SCode := .region [⟨some 2, .assign (.const (.slice none 0 0)), none⟩,
    ⟨some 3, .assign (.const (.int .i64 2)), none⟩]
@[reducible] def q18_4 : SCode := .region [⟨some 9, .move (.tmp 4), none⟩,
    ⟨some 10, .move (.tmp 0), none⟩,
    ⟨some 11, .call { callee := .builtin .len, args := #[.tmp 10], argTypes := #[22] }, none⟩,
    ⟨some 12, .call { callee := .value (.func 57), args := #[.tmp 9, .tmp 11, .func 58], argTypes := #[55, 3, 27] }, none⟩,
    ⟨some 2, .assign (.tmp 12), none⟩,
    ⟨some 3, .assign (.const (.int .i64 0)), none⟩]
def s18 : SCode := (.seq q18_0 (.seq q18_1 (.seq (.seq q18_2 (.cond (.tmp 8) (.seq q18_3 .ret) .skip)) (.seq q18_4 .ret))))
theorem s18_strip : stripC (bodyOf Tryd.f18) = s18 := by kernel_rfl
theorem s18_ok : codeOK 13 (bodyOf Tryd.f18) = true := by kernel_rfl
theorem s18_call [Tabs Tryd.prog] {args : List Value} {h : Heap} {Q : Value → Heap → Prop} (hsz : args.length ≤ 13) (hk : aw Tryd.prog 13 s18 (aPost Tryd.prog [.tmp 2, .tmp 3] Q) (argEnv 0 args) h) : ACall Tryd.prog 18 args h Q :=
  acall_s Tryd.func18 rfl (enters_of Tryd.func18 (by kernel_rfl) rfl) rfl rfl (by decide) s18_strip s18_ok hsz hk

/-! 19: planchet planchetlaw02.list -/
@[reducible] def q19_0 : SCode := .region [⟨some 2, .assign (.const (.slice none 0 0)), none⟩]
@[reducible] def q19_1 : SCode := .region [⟨some 3, .move (.tmp 0), none⟩,
    ⟨some 4, .move (.tmp 0), none⟩,
    ⟨some 5, .call { callee := .builtin .len, args := #[.tmp 4], argTypes := #[22] }, none⟩,
    ⟨some 6, .call { callee := .builtin .min, args := #[.tmp 5, .const (.int .i64 11)], argTypes := #[3, 3] }, none⟩,
    ⟨some 7, .slice 22 (.tmp 3) none (some (.tmp 6)) none, none⟩,
    ⟨some 8, .call { callee := .value (.func 46), args := #[.tmp 7], argTypes := #[22] }, none⟩,
    ⟨some 2, .assign (.tmp 8), none⟩]
def s19 : SCode := (.seq q19_0 (.seq q19_1 .ret))
theorem s19_strip : stripC (bodyOf Tryd.f19) = s19 := by kernel_rfl
theorem s19_ok : codeOK 9 (bodyOf Tryd.f19) = true := by kernel_rfl
theorem s19_call [Tabs Tryd.prog] {args : List Value} {h : Heap} {Q : Value → Heap → Prop} (hsz : args.length ≤ 9) (hk : aw Tryd.prog 9 s19 (aPost Tryd.prog [.tmp 2] Q) (argEnv 0 args) h) : ACall Tryd.prog 19 args h Q :=
  acall_s Tryd.func19 rfl (enters_of Tryd.func19 (by kernel_rfl) rfl) rfl rfl (by decide) s19_strip s19_ok hsz hk

/-! 20: planchet planchetref02.Valid -/
@[reducible] def q20_0 : SCode := .region [⟨some 2, .assign (.const (.bool false)), none⟩]
@[reducible] def q20_1 : SCode := .region [⟨some 7, .move (.tmp 0), none⟩,
    ⟨some 8, .call { callee := .builtin .len, args := #[.tmp 7], argTypes := #[22] }, none⟩,
    ⟨some 3, .assign (.tmp 8), none⟩]
@[reducible] def q20_2 : SCode := .region [⟨some 9, .move (.tmp 3), none⟩,
    ⟨some 10, .binOp .lss 3 (.tmp 9) (.const (.int .i64 1)) 3, none⟩,
    ⟨some 11, .move (.tmp 10), none⟩,
    ⟨some 12, .move (.tmp 3), some (11, false)⟩,
    ⟨some 13, .binOp .gtr 3 (.tmp 12) (.const (.int .i64 8)) 3, some (11, false)⟩,
    ⟨some 14, .pick (.tmp 11) (.const (.bool true)) (.tmp 13), none⟩]
@[reducible] def q20_3 : SCode := .region [⟨some 2, .assign (.const (.bool false)), none⟩]
@[reducible] def q20_4 : SCode := .region [⟨some 15, .move (.tmp 0), none⟩,
    ⟨some 16, .call { callee := .builtin .len, args := #[.tmp 15], argTypes := #[22] }, none⟩,
    ⟨some 17, .move (.const (.int .i64 0)), none⟩]
@[reducible] def q20_5 : SCode := .region [⟨some 18, .binOp .lss 3 (.tmp 17) (.tmp 16) 3, none⟩]
@[reducible] def q20_6 : SCode := .region [⟨some 19, .move (.tmp 17), none⟩,
    ⟨some 20, .indexAddr 22 (.tmp 15) (.tmp 17), none⟩,
    ⟨some 21, .load 3 (.tmp 20), none⟩,
    ⟨some 4, .assign (.tmp 19), none⟩,
    ⟨some 5, .assign (.tmp 21), none⟩]
@[reducible] def q20_7 : SCode := .region [⟨some 22, .move (.tmp 5), none⟩,
    ⟨some 23, .binOp .lss 3 (.tmp 22) (.const (.int .i64 0)) 3, none⟩,
    ⟨some 24, .move (.tmp 23), none⟩,
    ⟨some 25, .move (.tmp 5), some (24, false)⟩,
    ⟨some 26, .move (.tmp 3), some (24, false)⟩,
    ⟨some 27, .binOp .shl 3 (.const (.int .i64 1)) (.tmp 26) 3, some (24, false)⟩,
    ⟨some 28, .binOp .geq 3 (.tmp 25) (.tmp 27) 3, some (24, false)⟩,
    ⟨some 29, .pick (.tmp 24) (.const (.bool true)) (.tmp 28), none⟩,
    ⟨some 30, .move (.tmp 29), none⟩,
    ⟨some 31, .move (.tmp 5), some (30, false)⟩,
    ⟨some 32, .move (.tmp 4), some (30, false)⟩,
    ⟨some 33, .binOp .shr 3 (.tmp 31) (.tmp 32) 3, some (30, false)⟩,
    ⟨some 34, .binOp .and 3 (.tmp 33) (.const (.int .i64 1)) 3, some (30, false)⟩,
    ⟨some 35, .binOp .eql 3 (.tmp 34) (.const (.int .i64 1)) 3, some (30, false)⟩,
    ⟨some 36, .pick (.tmp 30) (.const (.bool true)) (.tmp 35), none⟩]
@[reducible] def q20_8 : SCode := .region [⟨some 2, .assign (.const (.bool false)), none⟩]
@[reducible] def q20_9 : SCode := .region [⟨some 37, .move (.tmp 4), none⟩,
    ⟨some 38, .move (.const (.int .i64 0)), none⟩]
@[reducible] def q20_10 : SCode := .region [⟨some 39, .binOp .lss 3 (.tmp 38) (.tmp 37) 3, none⟩]
@[reducible] def q20_11 : SCode := .region [⟨some 40, .move (.tmp 38), none⟩,
    ⟨some 6, .assign (.tmp 40), none⟩]
def q20_12 : SCode := .draw [⟨some 41, .move (.tmp 5), none⟩,
    ⟨some 42, .move (.tmp 6), none⟩,
    ⟨some 43, .binOp .shr 3 (.tmp 41) (.tmp 42) 3, none⟩,
    ⟨some 44, .binOp .and 3 (.tmp 43) (.const (.int .i64 1)) 3, none⟩,
    ⟨some 45, .move (.tmp 0), none⟩,
    ⟨some 46, .move (.tmp 6), none⟩,
    ⟨some 47, .indexAddr 22 (.tmp 45) (.tmp 46), none⟩,
    ⟨some 48, .load 3 (.tmp 47), none⟩,
    ⟨some 49, .move (.tmp 4), none⟩,
    ⟨some 50, .binOp .shr 3 (.tmp 48) (.tmp 49) 3, none⟩,
    ⟨some 51, .binOp .and 3 (.tmp 50) (.const (.int .i64 1)) 3, none⟩,
    ⟨some 52, .binOp .eql 3 (.tmp 44) (.tmp 51) 3, none⟩]
   [[], [], [0, 1], [2], [], [], [4, 5], [6], [], [7, 8], [9], [3, 10]]
@[reducible] def q20_13 : SCode := .region [⟨some 2, .assign (.const (.bool false)), none⟩]
@[reducible] def q20_14 : SCode := .region [⟨some 53, .binOp .add 3 (.tmp 38) (.const (.int .i64 1)) 3, none⟩,
    ⟨some 38, .move (.tmp 53), none⟩]
def l20_0 : SCode := (.seq q20_10 (.seq (.cond (.tmp 39) .skip (.exit 2)) (.seq (.block 3 (.seq q20_11 (.seq q20_12 (.cond (.tmp 52) (.seq q20_13 .ret) .skip)))) q20_14)))
@[reducible] def q20_15 : SCode := .region [⟨some 54, .binOp .add 3 (.tmp 17) (.const (.int .i64 1)) 3, none⟩,
    ⟨some 17, .move (.tmp 54), none⟩]
def l20_1 : SCode := (.seq q20_5 (.seq (.cond (.tmp 18) .skip (.exit 0)) (.seq (.block 1 (.seq q20_6 (.seq (.seq q20_7 (.cond (.tmp 36) (.seq q20_8 .ret) .skip)) (.seq q20_9 (.block 2 (.loop l20_0)))))) q20_15)))
@[reducible] def q20_16 : SCode := .region [⟨some 2, .assign (.const (.bool true)), none⟩]
def s20 : SCode := (.seq q20_0 (.seq q20_1 (.seq (.seq q20_2 (.cond (.tmp 14) (.seq q20_3 .ret) .skip)) (.seq (.seq q20_4 (.block 0 (.loop l20_1))) (.seq q20_16 .ret)))))
theorem s20_strip : stripC (bodyOf Tryd.f20) = s20 := by kernel_rfl
theorem s20_ok : codeOK 55 (bodyOf Tryd.f20) = true := by kernel_rfl
theorem s20_call [Tabs Tryd.prog] {args : List Value} {h : Heap} {Q : Value → Heap → Prop} (hsz : args.length ≤ 55) (hk : aw Tryd.prog 55 s20 (aPost Tryd.prog [.tmp 2] Q) (argEnv 0 args) h) : ACall Tryd.prog 20 args h Q :=
  acall_s Tryd.func20 rfl (enters_of Tryd.func20 (by kernel_rfl) rfl) rfl rfl (by decide) s20_strip s20_ok hsz hk

/-! 21: planchet planchetlaw02.awake -/
@[reducible] def q21_0 : SCode := .region [⟨some 0, .assign (.const (.bool false)), none⟩]
@[reducible] def q21_1 : SCode := .region [⟨some 4, .buildSlice 22 2 #[(0, .const (.int .i64 0)), (1, .const (.int .i64 1))], none⟩,
    ⟨some 5, .call { callee := .value (.func 18), args := #[.tmp 4], argTypes := #[22] }, none⟩,
    ⟨some 3, .move (.tmp 5), none⟩,
    ⟨some 6, .extract (.tmp 3) 0, none⟩,
    ⟨some 7, .extract (.tmp 3) 1, none⟩,
    ⟨some 1, .assign (.tmp 6), none⟩,
    ⟨some 2, .assign (.tmp 7), none⟩]
@[reducible] def q21_2 : SCode := .region [⟨some 8, .move (.tmp 2), none⟩,
    ⟨some 9, .binOp .eql 23 (.tmp 8) (.const (.int .i64 0)) 23, none⟩,
    ⟨some 10, .move (.tmp 9), none⟩,
    ⟨some 11, .move (.tmp 1), some (10, true)⟩,
    ⟨some 12, .buildSlice 22 2 #[(0, .const (.int .i64 1)), (1, .const (.int .i64 0))], some (10, true)⟩,
    ⟨some 13, .call { callee := .value (.func 25), args := #[.tmp 11, .tmp 12], argTypes := #[22, 22] }, some (10, true)⟩,
    ⟨some 14, .pick (.tmp 10) (.tmp 13) (.const (.bool false)), none⟩,
    ⟨some 0, .assign (.tmp 14), none⟩]
def s21 : SCode := (.seq q21_0 (.seq q21_1 (.seq q21_2 .ret)))
theorem s21_strip : stripC (bodyOf Tryd.f21) = s21 := by kernel_rfl
theorem s21_ok : codeOK 15 (bodyOf Tryd.f21) = true := by kernel_rfl
theorem s21_call [Tabs Tryd.prog] {args : List Value} {h : Heap} {Q : Value → Heap → Prop} (hsz : args.length ≤ 15) (hk : aw Tryd.prog 15 s21 (aPost Tryd.prog [.tmp 0] Q) (argEnv 0 args) h) : ACall Tryd.prog 21 args h Q :=
  acall_s Tryd.func21 rfl (enters_of Tryd.func21 (by kernel_rfl) rfl) rfl rfl (by decide) s21_strip s21_ok hsz hk

/-! 25: slices.Equal[[]int,int] -/
@[reducible] def q25_0 : SCode := .region [⟨some 4, .assign (.const (.bool false)), none⟩]
@[reducible] def q25_1 : SCode := .region [⟨some 6, .move (.tmp 0), none⟩,
    ⟨some 7, .call { callee := .builtin .len, args := #[.tmp 6], argTypes := #[22] }, none⟩,
    ⟨some 8, .move (.tmp 1), none⟩,
    ⟨some 9, .call { callee := .builtin .len, args := #[.tmp 8], argTypes := #[22] }, none⟩,
    ⟨some 10, .binOp .neq 3 (.tmp 7) (.tmp 9) 3, none⟩]
@[reducible] def q25_2 : SCode := .region [⟨some 4, .assign (.const (.bool false)), none⟩]
@[reducible] def q25_3 : SCode := .region [⟨some 11, .move (.tmp 0), none⟩,
    ⟨some 12, .call { callee := .builtin .len, args := #[.tmp 11], argTypes := #[22] }, none⟩,
    ⟨some 13, .move (.const (.int .i64 0)), none⟩]
@[reducible] def q25_4 : SCode := .region [⟨some 14, .binOp .lss 3 (.tmp 13) (.tmp 12) 3, none⟩]
@[reducible] def q25_5 : SCode := .region [⟨some 15, .move (.tmp 13), none⟩,
    ⟨some 5, .assign (.tmp 15), none⟩]
def q25_6 : SCode := .draw [⟨some 16, .move (.tmp 0), none⟩,
    ⟨some 17, .move (.tmp 5), none⟩,
    ⟨some 18, .indexAddr 22 (.tmp 16) (.tmp 17), none⟩,
    ⟨some 19, .load 3 (.tmp 18), none⟩,
    ⟨some 20, .move (.tmp 1), none⟩,
    ⟨some 21, .move (.tmp 5), none⟩,
    ⟨some 22, .indexAddr 22 (.tmp 20) (.tmp 21), none⟩,
    ⟨some 23, .load 3 (.tmp 22), none⟩,
    ⟨some 24, .binOp .neq 3 (.tmp 19) (.tmp 23) 3, none⟩]
   [[], [], [0, 1], [2], [], [], [4, 5], [6], [3, 7]]
@[reducible] def q25_7 : SCode := .region [⟨some 4, .assign (.const (.bool false)), none⟩]
@[reducible] def q25_8 : SCode := .region [⟨some 25, .binOp .add 3 (.tmp 13) (.const (.int .i64 1)) 3, none⟩,
    ⟨some 13, .move (.tmp 25), none⟩]
def l25_0 : SCode := (.seq q25_4 (.seq (.cond (.tmp 14) .skip (.exit 0)) (.seq (.block 1 (.seq q25_5 (.seq q25_6 (.cond (.tmp 24) (.seq q25_7 .ret) .skip)))) q25_8)))
@[reducible] def q25_9 : SCode := .region [⟨some 4, .assign (.const (.bool true)), none⟩]
def s25 : SCode := (.seq q25_0 (.seq (.seq q25_1 (.cond (.tmp 10) (.seq q25_2 .ret) .skip)) (.seq (.seq q25_3 (.block 0 (.loop l25_0))) (.seq q25_9 .ret))))
theorem s25_strip : stripC (bodyOf Tryd.f25) = s25 := by kernel_rfl
theorem s25_ok : codeOK 26 (bodyOf Tryd.f25) = true := by kernel_rfl
theorem s25_call [Tabs Tryd.prog] {args : List Value} {h : Heap} {Q : Value → Heap → Prop} (hsz : args.length ≤ 26) (hk : aw Tryd.prog 26 s25 (aPost Tryd.prog [.tmp 4] Q) (argEnv 0 args) h) : ACall Tryd.prog 25 args h Q :=
  acall_s Tryd.func25 rfl (enters_of Tryd.func25 (by kernel_rfl) rfl) rfl rfl (by decide) s25_strip s25_ok hsz hk

/-! 46: slices.Clone[[]int,int] -/
@[reducible] def q46_0 : SCode := .region [⟨some 2, .assign (.const (.slice none 0 0)), none⟩]
@[reducible] def q46_1 : SCode := .region [⟨some 3, .move (.tmp 0), none⟩,
    ⟨some 4, .binOp .eql 22 (.tmp 3) (.const (.slice none 0 0)) 22, none⟩]
@[reducible] def q46_2 : SCode := .region [⟨some 2, .assign (.const (.slice none 0 0)), none⟩]
@[reducible] def q46_3 : SCode := .region [⟨some 5, .buildSlice 22 0 #[], none⟩,
    ⟨some 6, .move (.tmp 0), none⟩,
    ⟨some 7, .call { callee := .builtin .append, args := #[.tmp 5, .tmp 6], argTypes := #[22, 22] }, none⟩,
    ⟨some 2, .assign (.tmp 7), none⟩]
def s46 : SCode := (.seq q46_0 (.seq (.seq q46_1 (.cond (.tmp 4) (.seq q46_2 .ret) .skip)) (.seq q46_3 .ret)))
theorem s46_strip : stripC (bodyOf Tryd.f46) = s46 := by kernel_rfl
theorem s46_ok : codeOK 8 (bodyOf Tryd.f46) = true := by kernel_rfl
theorem s46_call [Tabs Tryd.prog] {args : List Value} {h : Heap} {Q : Value → Heap → Prop} (hsz : args.length ≤ 8) (hk : aw Tryd.prog 8 s46 (aPost Tryd.prog [.tmp 2] Q) (argEnv 0 args) h) : ACall Tryd.prog 46 args h Q :=
  acall_s Tryd.func46 rfl (enters_of Tryd.func46 (by kernel_rfl) rfl) rfl rfl (by decide) s46_strip s46_ok hsz hk

/-! 56: (planchet ranks.tournament).valid -/
@[reducible] def q56_0 : SCode := .region [⟨some 2, .assign (.const (.bool false)), none⟩]
@[reducible] def q56_1 : SCode := .region [⟨some 7, .move (.tmp 0), none⟩,
    ⟨some 8, .call { callee := .builtin .len, args := #[.tmp 7], argTypes := #[55] }, none⟩,
    ⟨some 3, .assign (.tmp 8), none⟩]
@[reducible] def q56_2 : SCode := .region [⟨some 9, .move (.tmp 3), none⟩,
    ⟨some 10, .binOp .lss 3 (.tmp 9) (.const (.int .i64 1)) 3, none⟩,
    ⟨some 11, .move (.tmp 10), none⟩,
    ⟨some 12, .move (.tmp 3), some (11, false)⟩,
    ⟨some 13, .binOp .gtr 3 (.tmp 12) (.const (.int .i64 8)) 3, some (11, false)⟩,
    ⟨some 14, .pick (.tmp 11) (.const (.bool true)) (.tmp 13), none⟩]
@[reducible] def q56_3 : SCode := .region [⟨some 2, .assign (.const (.bool false)), none⟩]
@[reducible] def q56_4 : SCode := .region [⟨some 15, .move (.tmp 0), none⟩,
    ⟨some 16, .call { callee := .builtin .len, args := #[.tmp 15], argTypes := #[55] }, none⟩,
    ⟨some 17, .move (.const (.int .i64 0)), none⟩]
@[reducible] def q56_5 : SCode := .region [⟨some 18, .binOp .lss 3 (.tmp 17) (.tmp 16) 3, none⟩]
@[reducible] def q56_6 : SCode := .region [⟨some 19, .move (.tmp 17), none⟩,
    ⟨some 20, .indexAddr 55 (.tmp 15) (.tmp 17), none⟩,
    ⟨some 21, .load 3 (.tmp 20), none⟩,
    ⟨some 4, .assign (.tmp 19), none⟩,
    ⟨some 5, .assign (.tmp 21), none⟩]
@[reducible] def q56_7 : SCode := .region [⟨some 22, .move (.tmp 5), none⟩,
    ⟨some 23, .binOp .lss 3 (.tmp 22) (.const (.int .i64 0)) 3, none⟩,
    ⟨some 24, .move (.tmp 23), none⟩,
    ⟨some 25, .move (.tmp 5), some (24, false)⟩,
    ⟨some 26, .move (.tmp 3), some (24, false)⟩,
    ⟨some 27, .binOp .shl 3 (.const (.int .i64 1)) (.tmp 26) 3, some (24, false)⟩,
    ⟨some 28, .binOp .geq 3 (.tmp 25) (.tmp 27) 3, some (24, false)⟩,
    ⟨some 29, .pick (.tmp 24) (.const (.bool true)) (.tmp 28), none⟩,
    ⟨some 30, .move (.tmp 29), none⟩,
    ⟨some 31, .move (.tmp 5), some (30, false)⟩,
    ⟨some 32, .move (.tmp 4), some (30, false)⟩,
    ⟨some 33, .binOp .shr 3 (.tmp 31) (.tmp 32) 3, some (30, false)⟩,
    ⟨some 34, .binOp .and 3 (.tmp 33) (.const (.int .i64 1)) 3, some (30, false)⟩,
    ⟨some 35, .binOp .eql 3 (.tmp 34) (.const (.int .i64 1)) 3, some (30, false)⟩,
    ⟨some 36, .pick (.tmp 30) (.const (.bool true)) (.tmp 35), none⟩]
@[reducible] def q56_8 : SCode := .region [⟨some 2, .assign (.const (.bool false)), none⟩]
@[reducible] def q56_9 : SCode := .region [⟨some 37, .move (.tmp 4), none⟩,
    ⟨some 38, .move (.const (.int .i64 0)), none⟩]
@[reducible] def q56_10 : SCode := .region [⟨some 39, .binOp .lss 3 (.tmp 38) (.tmp 37) 3, none⟩]
@[reducible] def q56_11 : SCode := .region [⟨some 40, .move (.tmp 38), none⟩,
    ⟨some 6, .assign (.tmp 40), none⟩]
def q56_12 : SCode := .draw [⟨some 41, .move (.tmp 5), none⟩,
    ⟨some 42, .move (.tmp 6), none⟩,
    ⟨some 43, .binOp .shr 3 (.tmp 41) (.tmp 42) 3, none⟩,
    ⟨some 44, .binOp .and 3 (.tmp 43) (.const (.int .i64 1)) 3, none⟩,
    ⟨some 45, .move (.tmp 0), none⟩,
    ⟨some 46, .move (.tmp 6), none⟩,
    ⟨some 47, .indexAddr 55 (.tmp 45) (.tmp 46), none⟩,
    ⟨some 48, .load 3 (.tmp 47), none⟩,
    ⟨some 49, .move (.tmp 4), none⟩,
    ⟨some 50, .binOp .shr 3 (.tmp 48) (.tmp 49) 3, none⟩,
    ⟨some 51, .binOp .and 3 (.tmp 50) (.const (.int .i64 1)) 3, none⟩,
    ⟨some 52, .binOp .eql 3 (.tmp 44) (.tmp 51) 3, none⟩]
   [[], [], [0, 1], [2], [], [], [4, 5], [6], [], [7, 8], [9], [3, 10]]
@[reducible] def q56_13 : SCode := .region [⟨some 2, .assign (.const (.bool false)), none⟩]
@[reducible] def q56_14 : SCode := .region [⟨some 53, .binOp .add 3 (.tmp 38) (.const (.int .i64 1)) 3, none⟩,
    ⟨some 38, .move (.tmp 53), none⟩]
def l56_0 : SCode := (.seq q56_10 (.seq (.cond (.tmp 39) .skip (.exit 2)) (.seq (.block 3 (.seq q56_11 (.seq q56_12 (.cond (.tmp 52) (.seq q56_13 .ret) .skip)))) q56_14)))
@[reducible] def q56_15 : SCode := .region [⟨some 54, .binOp .add 3 (.tmp 17) (.const (.int .i64 1)) 3, none⟩,
    ⟨some 17, .move (.tmp 54), none⟩]
def l56_1 : SCode := (.seq q56_5 (.seq (.cond (.tmp 18) .skip (.exit 0)) (.seq (.block 1 (.seq q56_6 (.seq (.seq q56_7 (.cond (.tmp 36) (.seq q56_8 .ret) .skip)) (.seq q56_9 (.block 2 (.loop l56_0)))))) q56_15)))
@[reducible] def q56_16 : SCode := .region [⟨some 2, .assign (.const (.bool true)), none⟩]
def s56 : SCode := (.seq q56_0 (.seq q56_1 (.seq (.seq q56_2 (.cond (.tmp 14) (.seq q56_3 .ret) .skip)) (.seq (.seq q56_4 (.block 0 (.loop l56_1))) (.seq q56_16 .ret)))))
theorem s56_strip : stripC (bodyOf Tryd.f56) = s56 := by kernel_rfl
theorem s56_ok : codeOK 55 (bodyOf Tryd.f56) = true := by kernel_rfl
theorem s56_call [Tabs Tryd.prog] {args : List Value} {h : Heap} {Q : Value → Heap → Prop} (hsz : args.length ≤ 55) (hk : aw Tryd.prog 55 s56 (aPost Tryd.prog [.tmp 2] Q) (argEnv 0 args) h) : ACall Tryd.prog 56 args h Q :=
  acall_s Tryd.func56 rfl (enters_of Tryd.func56 (by kernel_rfl) rfl) rfl rfl (by decide) s56_strip s56_ok hsz hk

/-! 57: (planchet ranks.tournament).walk -/
@[reducible] def q57_0 : SCode := .region [⟨some 3, .box 55 (.tmp 0), none⟩,
    ⟨some 4, .box 3 (.tmp 1), none⟩,
    ⟨some 5, .box 27 (.tmp 2), none⟩,
    ⟨some 6, .assign (.const (.slice none 0 0)), none⟩]
@[reducible] def q57_1 : SCode := .region [⟨some 7, .alloc 22, none⟩]
@[reducible] def q57_2 : SCode := .region [⟨some 8, .alloc 79, none⟩]
@[reducible] def q57_3 : SCode := .region [⟨some 9, .makeFunc (.func 92) #[] #[.tmp 7, .tmp 4, .tmp 5, .tmp 3, .tmp 8], none⟩,
    ⟨none, .store 79 (.tmp 8) (.tmp 9), none⟩]
def q57_4 : SCode := .draw [⟨some 10, .load 79 (.tmp 8), none⟩,
    ⟨some 11, .load 55 (.tmp 3), none⟩,
    ⟨some 12, .call { callee := .value (.func 63), args := #[.tmp 11], argTypes := #[55] }, none⟩,
    ⟨some 13, .call { callee := .value (.tmp 10), args := #[.tmp 12], argTypes := #[3] }, none⟩,
    ⟨some 14, .unOp .not 4 (.tmp 13), none⟩]
   [[], [], [1], [0, 2, 2], [3]]
@[reducible] def q57_5 : SCode := .region [⟨some 6, .assign (.const (.slice none 0 0)), none⟩]
@[reducible] def q57_6 : SCode := .region [⟨some 15, .load 22 (.tmp 7), none⟩,
    ⟨some 6, .assign (.tmp 15), none⟩]
def s57 : SCode := (.seq q57_0 (.seq q57_1 (.seq q57_2 (.seq q57_3 (.seq (.seq q57_4 (.cond (.tmp 14) (.seq q57_5 .ret) .skip)) (.seq q57_6 .ret))))))
theorem s57_strip : stripC (bodyOf Tryd.f57) = s57 := by kernel_rfl
theorem s57_ok : codeOK 16 (bodyOf Tryd.f57) = true := by kernel_rfl
theorem s57_call [Tabs Tryd.prog] {args : List Value} {h : Heap} {Q : Value → Heap → Prop} (hsz : args.length ≤ 16) (hk : aw Tryd.prog 16 s57 (aPost Tryd.prog [.tmp 6] Q) (argEnv 0 args) h) : ACall Tryd.prog 57 args h Q :=
  acall_s Tryd.func57 rfl (enters_of Tryd.func57 (by kernel_rfl) rfl) rfl rfl (by decide) s57_strip s57_ok hsz hk

/-! 58: planchet ranks.Way$1 -/
@[reducible] def q58_0 : SCode := .region [⟨some 2, .assign (.const (.bool false)), none⟩]
@[reducible] def q58_1 : SCode := .region [⟨some 2, .assign (.const (.bool true)), none⟩]
def s58 : SCode := (.seq q58_0 (.seq q58_1 .ret))
theorem s58_strip : stripC (bodyOf Tryd.f58) = s58 := by kernel_rfl
theorem s58_ok : codeOK 3 (bodyOf Tryd.f58) = true := by kernel_rfl
theorem s58_call [Tabs Tryd.prog] {args : List Value} {h : Heap} {Q : Value → Heap → Prop} (hsz : args.length ≤ 3) (hk : aw Tryd.prog 3 s58 (aPost Tryd.prog [.tmp 2] Q) (argEnv 0 args) h) : ACall Tryd.prog 58 args h Q :=
  acall_s Tryd.func58 rfl (enters_of Tryd.func58 (by kernel_rfl) rfl) rfl rfl (by decide) s58_strip s58_ok hsz hk

/-! 60: (planchet ranks.tournament).beats -/
@[reducible] def q60_0 : SCode := .region [⟨some 6, .assign (.const (.bool false)), none⟩]
@[reducible] def q60_1 : SCode := .region [⟨some 7, .move (.tmp 0), none⟩,
    ⟨some 8, .move (.tmp 1), none⟩,
    ⟨some 9, .indexAddr 55 (.tmp 7) (.tmp 8), none⟩,
    ⟨some 10, .load 3 (.tmp 9), none⟩,
    ⟨some 11, .move (.tmp 2), none⟩,
    ⟨some 12, .binOp .shr 3 (.tmp 10) (.tmp 11) 3, none⟩,
    ⟨some 13, .binOp .and 3 (.tmp 12) (.const (.int .i64 1)) 3, none⟩,
    ⟨some 14, .binOp .eql 3 (.tmp 13) (.const (.int .i64 1)) 3, none⟩,
    ⟨some 6, .assign (.tmp 14), none⟩]
def s60 : SCode := (.seq q60_0 (.seq q60_1 .ret))
theorem s60_strip : stripC (bodyOf Tryd.f60) = s60 := by kernel_rfl
theorem s60_ok : codeOK 15 (bodyOf Tryd.f60) = true := by kernel_rfl
theorem s60_call [Tabs Tryd.prog] {args : List Value} {h : Heap} {Q : Value → Heap → Prop} (hsz : args.length ≤ 15) (hk : aw Tryd.prog 15 s60 (aPost Tryd.prog [.tmp 6] Q) (argEnv 0 args) h) : ACall Tryd.prog 60 args h Q :=
  acall_s Tryd.func60 rfl (enters_of Tryd.func60 (by kernel_rfl) rfl) rfl rfl (by decide) s60_strip s60_ok hsz hk

/-! 62: planchet ranks.players -/
@[reducible] def q62_0 : SCode := .region [⟨some 1, .box 3 (.tmp 0), none⟩,
    ⟨some 2, .assign (.const .nilFunc), none⟩]
@[reducible] def q62_1 : SCode := .region [⟨some 3, .makeFunc (.func 93) #[] #[.tmp 1], none⟩,
    ⟨some 2, .assign (.tmp 3), none⟩]
def s62 : SCode := (.seq q62_0 (.seq q62_1 .ret))
theorem s62_strip : stripC (bodyOf Tryd.f62) = s62 := by kernel_rfl
theorem s62_ok : codeOK 4 (bodyOf Tryd.f62) = true := by kernel_rfl
theorem s62_call [Tabs Tryd.prog] {args : List Value} {h : Heap} {Q : Value → Heap → Prop} (hsz : args.length ≤ 4) (hk : aw Tryd.prog 4 s62 (aPost Tryd.prog [.tmp 2] Q) (argEnv 0 args) h) : ACall Tryd.prog 62 args h Q :=
  acall_s Tryd.func62 rfl (enters_of Tryd.func62 (by kernel_rfl) rfl) rfl rfl (by decide) s62_strip s62_ok hsz hk

/-! 63: (planchet ranks.tournament).all -/
@[reducible] def q63_0 : SCode := .region [⟨some 2, .assign (.const (.int .i64 0)), none⟩]
@[reducible] def q63_1 : SCode := .region [⟨some 3, .move (.tmp 0), none⟩,
    ⟨some 4, .call { callee := .builtin .len, args := #[.tmp 3], argTypes := #[55] }, none⟩,
    ⟨some 5, .binOp .shl 3 (.const (.int .i64 1)) (.tmp 4) 3, none⟩,
    ⟨some 6, .binOp .sub 3 (.tmp 5) (.const (.int .i64 1)) 3, none⟩,
    ⟨some 2, .assign (.tmp 6), none⟩]
def s63 : SCode := (.seq q63_0 (.seq q63_1 .ret))
theorem s63_strip : stripC (bodyOf Tryd.f63) = s63 := by kernel_rfl
theorem s63_ok : codeOK 7 (bodyOf Tryd.f63) = true := by kernel_rfl
theorem s63_call [Tabs Tryd.prog] {args : List Value} {h : Heap} {Q : Value → Heap → Prop} (hsz : args.length ≤ 7) (hk : aw Tryd.prog 7 s63 (aPost Tryd.prog [.tmp 2] Q) (argEnv 0 args) h) : ACall Tryd.prog 63 args h Q :=
  acall_s Tryd.func63 rfl (enters_of Tryd.func63 (by kernel_rfl) rfl) rfl rfl (by decide) s63_strip s63_ok hsz hk

/-! 92: (planchet ranks.tournament).walk$1 -/
@[reducible] def q92_0 : SCode := .region [⟨some 6, .box 3 (.tmp 0), none⟩,
    ⟨some 7, .alloc 4, none⟩]
@[reducible] def q92_1 : SCode := .region [⟨some 9, .load 22 (.tmp 1), none⟩,
    ⟨some 10, .call { callee := .builtin .len, args := #[.tmp 9], argTypes := #[22] }, none⟩,
    ⟨some 11, .load 3 (.tmp 2), none⟩,
    ⟨some 12, .binOp .eql 3 (.tmp 10) (.tmp 11) 3, none⟩]
@[reducible] def q92_2 : SCode := .region [⟨some 13, .load 27 (.tmp 3), none⟩,
    ⟨some 14, .load 22 (.tmp 1), none⟩,
    ⟨some 15, .call { callee := .value (.tmp 13), args := #[.tmp 14], argTypes := #[22] }, none⟩,
    ⟨none, .store 4 (.tmp 7) (.tmp 15), none⟩]
@[reducible] def q92_3 : SCode := .region [⟨some 16, .load 3 (.tmp 6), none⟩,
    ⟨some 17, .call { callee := .value (.func 62), args := #[.tmp 16], argTypes := #[3] }, none⟩]
@[reducible] def q92_4 : SCode := .region [⟨some 8, .assign (.tmp 18), none⟩]
def q92_5 : SCode := .draw [⟨some 19, .load 22 (.tmp 1), none⟩,
    ⟨some 20, .call { callee := .builtin .len, args := #[.tmp 19], argTypes := #[22] }, none⟩,
    ⟨some 21, .binOp .gtr 3 (.tmp 20) (.const (.int .i64 0)) 3, none⟩,
    ⟨some 22, .move (.tmp 21), none⟩,
    ⟨some 23, .load 55 (.tmp 4), some (22, true)⟩,
    ⟨some 24, .load 22 (.tmp 1), some (22, true)⟩,
    ⟨some 25, .load 22 (.tmp 1), some (22, true)⟩,
    ⟨some 26, .call { callee := .builtin .len, args := #[.tmp 25], argTypes := #[22] }, some (22, true)⟩,
    ⟨some 27, .binOp .sub 3 (.tmp 26) (.const (.int .i64 1)) 3, some (22, true)⟩,
    ⟨some 28, .indexAddr 22 (.tmp 24) (.tmp 27), some (22, true)⟩,
    ⟨some 29, .load 3 (.tmp 28), some (22, true)⟩,
    ⟨some 30, .move (.tmp 8), some (22, true)⟩,
    ⟨some 31, .call { callee := .value (.func 60), args := #[.tmp 23, .tmp 29, .tmp 30], argTypes := #[55, 3, 3] }, some (22, true)⟩,
    ⟨some 32, .unOp .not 4 (.tmp 31), some (22, true)⟩,
    ⟨some 33, .pick (.tmp 22) (.tmp 32) (.const (.bool false)), none⟩]
   [[], [0], [1], [2], [3], [3], [3], [6, 3], [7, 3], [5, 8, 3], [9, 3], [3], [4, 10, 11, 3, 3], [12, 3], [3, 13]]
@[reducible] def q92_6 : SCode := .region [⟨some 34, .load 22 (.tmp 1), none⟩,
    ⟨some 35, .move (.tmp 8), none⟩,
    ⟨some 36, .buildSlice 22 1 #[(0, .tmp 35)], none⟩,
    ⟨some 37, .call { callee := .builtin .append, args := #[.tmp 34, .tmp 36], argTypes := #[22, 22] }, none⟩,
    ⟨none, .store 22 (.tmp 1) (.tmp 37), none⟩]
def q92_7 : SCode := .draw [⟨some 38, .load 79 (.tmp 5), none⟩,
    ⟨some 39, .load 3 (.tmp 6), none⟩,
    ⟨some 40, .move (.tmp 8), none⟩,
    ⟨some 41, .binOp .shl 3 (.const (.int .i64 1)) (.tmp 40) 3, none⟩,
    ⟨some 42, .binOp .andNot 3 (.tmp 39) (.tmp 41) 3, none⟩,
    ⟨some 43, .call { callee := .value (.tmp 38), args := #[.tmp 42], argTypes := #[3] }, none⟩]
   [[], [], [], [2], [1, 3], [0, 4]]
@[reducible] def q92_8 : SCode := .region [⟨none, .store 4 (.tmp 7) (.const (.bool true)), none⟩]
@[reducible] def q92_9 : SCode := .region [⟨some 44, .load 22 (.tmp 1), none⟩,
    ⟨some 45, .load 22 (.tmp 1), none⟩,
    ⟨some 46, .call { callee := .builtin .len, args := #[.tmp 45], argTypes := #[22] }, none⟩,
    ⟨some 47, .binOp .sub 3 (.tmp 46) (.const (.int .i64 1)) 3, none⟩,
    ⟨some 48, .slice 22 (.tmp 44) none (some (.tmp 47)) none, none⟩,
    ⟨none, .store 22 (.tmp 1) (.tmp 48), none⟩]
def r92_0_a : SCode := q92_4
def r92_0_b : SCode := (.block 1 (.seq (.seq q92_5 (.cond (.tmp 33) (.exit 1) .skip)) (.seq q92_6 (.seq (.seq q92_7 (.cond (.tmp 43) (.seq q92_8 .ret) .skip)) q92_9))))
@[reducible] def q92_10 : SCode := .region [⟨none, .store 4 (.tmp 7) (.const (.bool false)), none⟩]
def s92 : SCode := (.seq q92_0 (.seq (.seq q92_1 (.cond (.tmp 12) (.seq q92_2 .ret) .skip)) (.seq (.seq q92_3 (.block 0 (.range (.tmp 17) [18] r92_0_a r92_0_b))) (.seq q92_10 .ret))))
theorem s92_strip : stripC (bodyOf Tryd.f92) = s92 := by kernel_rfl
theorem s92_ok : codeOK 49 (bodyOf Tryd.f92) = true := by kernel_rfl
theorem s92_call [Tabs Tryd.prog] {args : List Value} {h : Heap} {Q : Value → Heap → Prop} (hsz : args.length ≤ 49) (hk : aw Tryd.prog 49 s92 (aPost Tryd.prog [.cell 7 4] Q) (argEnv 0 args) h) : ACall Tryd.prog 92 args h Q :=
  acall_s Tryd.func92 rfl (enters_of Tryd.func92 (by kernel_rfl) rfl) rfl rfl (by decide) s92_strip s92_ok hsz hk

end Go.Proofs.Tryd.Am

namespace Go.Proofs.Tryd.Am
open Go.Am

def bitI (z : Int) (j : Nat) : Bool := z.toNat.testBit j
/-- Player i's set is one, and goes with those of the players before. -/
def okAt (xs : List Int) (i : Nat) : Bool :=
  decide (0 ≤ xs.getD i 0) && decide (xs.getD i 0 < 2 ^ xs.length) && !bitI (xs.getD i 0) i && (List.range i).all fun j => bitI (xs.getD i 0) j != bitI (xs.getD j 0) i
def trn (xs : List Int) : Bool := decide (1 ≤ xs.length) && decide (xs.length ≤ 8) && (List.range xs.length).all (okAt xs)

theorem testI {z : Int} (h0 : 0 ≤ z) (h1 : z < 9223372036854775808) (i : Nat) : bitsV .and .i64 (shrV .i64 z i) 1 = if bitI z i then 1 else 0 := by
  have := testV (a := z.toNat) (y := i) (by omega)
  rw [Int.toNat_of_nonneg h0] at this
  exact this
theorem pow8 {n : Nat} (h : n ≤ 8) : (2 : Int) ^ n ≤ 256 ∧ 0 < (2 : Int) ^ n := by
  have : n = 0 ∨ n = 1 ∨ n = 2 ∨ n = 3 ∨ n = 4 ∨ n = 5 ∨ n = 6 ∨ n = 7 ∨ n = 8 := by omega
  rcases this with rfl | rfl | rfl | rfl | rfl | rfl | rfl | rfl | rfl <;> decide
theorem shl1 {n : Nat} (h : n ≤ 62) : shlV .i64 1 n = 2 ^ n := by
  have h2 : 2 ^ n ≤ 2 ^ 62 := Nat.pow_le_pow_right (by decide) h
  have := shlV_nat (a := 1) (y := n) (by omega) (by omega)
  simpa using this

theorem valid_call [Tabs prog] {h : Heap} {v : Value} {xs : List Int} (hv : IntSl h v xs) (hl : xs.length < 9223372036854775808) (hx : ∀ x ∈ xs, -9223372036854775808 ≤ x ∧ x < 9223372036854775808) : APure prog 56 [v] h (.bool (trn xs)) := by
  refine s56_call (by simp) ?_
  simp (maxSteps := 2000000) only [s56, ↓aw_region, ↓aw_skip, ↓aw_seq, ↓aw_block, ↓aw_exit, ↓aw_ret, ↓sops_nil, ↓sops_go, ↓dops_nil, ↓dopsX_nil, ↓dopsR_nil, ↓vdn, vup, extr_20, extr_21, extr_30, extr_31, extr_32, List.map_cons, List.map_nil, cond_true, cond_false, aop, aThen, aBlock, argEnv, ev, sput, sputO, binK, binI, unK, builtinK, pickK, Nat.reduceBEq, Nat.reduceAdd, Int.reduceBEq, Int.reduceBNe, Int.reduceLT, aPost, resK, tup, tyf, hv.len]
  by_cases h1 : (xs.length : Int) < 1
  · have ht : trn xs = false := by simp [trn]; omega
    simp (maxSteps := 2000000) only [s56, ↓aw_region, ↓aw_skip, ↓aw_seq, ↓aw_block, ↓aw_exit, ↓aw_ret, ↓sops_nil, ↓sops_go, ↓dops_nil, ↓dopsX_nil, ↓dopsR_nil, ↓vdn, vup, extr_20, extr_21, extr_30, extr_31, extr_32, List.map_cons, List.map_nil, cond_true, cond_false, aop, aThen, aBlock, argEnv, ev, sput, sputO, binK, binI, unK, builtinK, pickK, Nat.reduceBEq, Nat.reduceAdd, Int.reduceBEq, Int.reduceBNe, Int.reduceLT, aPost, resK, tup, tyf, h1, ht]
  by_cases h8 : (8 : Int) < xs.length
  · have ht : trn xs = false := by simp [trn]; omega
    simp (maxSteps := 2000000) only [s56, ↓aw_region, ↓aw_skip, ↓aw_seq, ↓aw_block, ↓aw_exit, ↓aw_ret, ↓sops_nil, ↓sops_go, ↓dops_nil, ↓dopsX_nil, ↓dopsR_nil, ↓vdn, vup, extr_20, extr_21, extr_30, extr_31, extr_32, List.map_cons, List.map_nil, cond_true, cond_false, aop, aThen, aBlock, argEnv, ev, sput, sputO, binK, binI, unK, builtinK, pickK, Nat.reduceBEq, Nat.reduceAdd, Int.reduceBEq, Int.reduceBNe, Int.reduceLT, aPost, resK, tup, tyf, h1, h8, ht]
  have hp := pow8 (n := xs.length) (by omega)
  simp (maxSteps := 2000000) only [s56, ↓aw_region, ↓aw_skip, ↓aw_seq, ↓aw_block, ↓aw_exit, ↓aw_ret, ↓sops_nil, ↓sops_go, ↓dops_nil, ↓dopsX_nil, ↓dopsR_nil, ↓vdn, vup, extr_20, extr_21, extr_30, extr_31, extr_32, List.map_cons, List.map_nil, cond_true, cond_false, aop, aThen, aBlock, argEnv, ev, sput, sputO, binK, binI, unK, builtinK, pickK, Nat.reduceBEq, Nat.reduceAdd, Int.reduceBEq, Int.reduceBNe, Int.reduceLT, aPost, resK, tup, tyf, h1, h8, hv.len, ↓aw_loop_eq]
  refine aws_hide fun Q hQ => ?_
  refine aw_loop (γ := Nat) (fun i => i ≤ xs.length ∧ ∀ k, k < i → okAt xs k = true)
    (fun i => ([(0, v), (2, .bool false), (3, vint xs.length), (15, v), (16, vint xs.length), (17, vint i)], h)) (fun i => xs.length - i) 0 ⟨by omega, fun _ hk => by omega⟩ (by simp (maxSteps := 2000000) only [↓aw_region, ↓aw_skip, ↓aw_seq, ↓aw_block, ↓aw_exit, ↓aw_ret, ↓sops_nil, ↓sops_go, ↓dops_nil, ↓dopsX_nil, ↓dopsR_nil, ↓vdn, vup, extr_20, extr_21, extr_30, extr_31, extr_32, List.map_cons, List.map_nil, cond_true, cond_false, aop, aThen, aBlock, argEnv, ev, sput, sputO, binK, binI, unK, builtinK, pickK, Nat.reduceBEq, Nat.reduceAdd, Int.reduceBEq, Int.reduceBNe, Int.reduceLT, aPost, resK, tup, tyf, Int.natCast_zero]) rfl ?_
  rintro i ⟨hi, hok⟩
  refine aw_hide fun Q2 hQ2 => ?_
  by_cases hin : (i : Int) < xs.length
  · have hin' : i < xs.length := by omega
    have hbad : okAt xs i = false → trn xs = false := fun hb => by
      have : (List.range xs.length).all (okAt xs) = false := by
        rw [List.all_eq_false]; exact ⟨i, by simpa using hin', by simp [hb]⟩
      simp [trn, this]
    obtain ⟨hx1, hx2⟩ := hx (xs.getD i 0) (by rw [List.getD, List.getElem?_eq_getElem hin']; exact List.getElem_mem hin')
    simp (maxSteps := 2000000) only [s56, ↓aw_region, ↓aw_skip, ↓aw_seq, ↓aw_block, ↓aw_exit, ↓aw_ret, ↓sops_nil, ↓sops_go, ↓dops_nil, ↓dopsX_nil, ↓dopsR_nil, ↓vdn, vup, extr_20, extr_21, extr_30, extr_31, extr_32, List.map_cons, List.map_nil, cond_true, cond_false, aop, aThen, aBlock, argEnv, ev, sput, sputO, binK, binI, unK, builtinK, pickK, Nat.reduceBEq, Nat.reduceAdd, Int.reduceBEq, Int.reduceBNe, Int.reduceLT, aPost, resK, tup, tyf, l56_1, hin, hv.idx el_55 esz_3 hin', hv.load shp_3 hin']
    by_cases hneg : xs.getD i 0 < 0
    · have hb := hbad (by rw [okAt, decide_eq_false (show ¬ 0 ≤ xs.getD i 0 by omega)]; rfl)
      simp (maxSteps := 2000000) only [s56, ↓aw_region, ↓aw_skip, ↓aw_seq, ↓aw_block, ↓aw_exit, ↓aw_ret, ↓sops_nil, ↓sops_go, ↓dops_nil, ↓dopsX_nil, ↓dopsR_nil, ↓vdn, vup, extr_20, extr_21, extr_30, extr_31, extr_32, List.map_cons, List.map_nil, cond_true, cond_false, aop, aThen, aBlock, argEnv, ev, sput, sputO, binK, binI, unK, builtinK, pickK, Nat.reduceBEq, Nat.reduceAdd, Int.reduceBEq, Int.reduceBNe, Int.reduceLT, aPost, resK, tup, tyf, hneg]
      refine hQ2 _ _ _ (hQ _ _ _ ?_)
      simp (maxSteps := 2000000) only [↓aw_region, ↓aw_skip, ↓aw_seq, ↓aw_block, ↓aw_exit, ↓aw_ret, ↓sops_nil, ↓sops_go, ↓dops_nil, ↓dopsX_nil, ↓dopsR_nil, ↓vdn, vup, extr_20, extr_21, extr_30, extr_31, extr_32, List.map_cons, List.map_nil, cond_true, cond_false, aop, aThen, aBlock, argEnv, ev, sput, sputO, binK, binI, unK, builtinK, pickK, Nat.reduceBEq, Nat.reduceAdd, Int.reduceBEq, Int.reduceBNe, Int.reduceLT, aPost, resK, tup, tyf, hb]
    simp (maxSteps := 2000000) only [s56, ↓aw_region, ↓aw_skip, ↓aw_seq, ↓aw_block, ↓aw_exit, ↓aw_ret, ↓sops_nil, ↓sops_go, ↓dops_nil, ↓dopsX_nil, ↓dopsR_nil, ↓vdn, vup, extr_20, extr_21, extr_30, extr_31, extr_32, List.map_cons, List.map_nil, cond_true, cond_false, aop, aThen, aBlock, argEnv, ev, sput, sputO, binK, binI, unK, builtinK, pickK, Nat.reduceBEq, Nat.reduceAdd, Int.reduceBEq, Int.reduceBNe, Int.reduceLT, aPost, resK, tup, tyf, hneg, shl1 (show xs.length ≤ 62 by omega), Int.natCast_nonneg]
    by_cases hbig : 2 ^ xs.length ≤ xs.getD i 0
    · have hb := hbad (by rw [okAt, decide_eq_false (show ¬ xs.getD i 0 < 2 ^ xs.length from Int.not_lt.2 hbig), Bool.and_false]; rfl)
      simp (maxSteps := 2000000) only [s56, ↓aw_region, ↓aw_skip, ↓aw_seq, ↓aw_block, ↓aw_exit, ↓aw_ret, ↓sops_nil, ↓sops_go, ↓dops_nil, ↓dopsX_nil, ↓dopsR_nil, ↓vdn, vup, extr_20, extr_21, extr_30, extr_31, extr_32, List.map_cons, List.map_nil, cond_true, cond_false, aop, aThen, aBlock, argEnv, ev, sput, sputO, binK, binI, unK, builtinK, pickK, Nat.reduceBEq, Nat.reduceAdd, Int.reduceBEq, Int.reduceBNe, Int.reduceLT, aPost, resK, tup, tyf, hbig]
      refine hQ2 _ _ _ (hQ _ _ _ ?_)
      simp (maxSteps := 2000000) only [↓aw_region, ↓aw_skip, ↓aw_seq, ↓aw_block, ↓aw_exit, ↓aw_ret, ↓sops_nil, ↓sops_go, ↓dops_nil, ↓dopsX_nil, ↓dopsR_nil, ↓vdn, vup, extr_20, extr_21, extr_30, extr_31, extr_32, List.map_cons, List.map_nil, cond_true, cond_false, aop, aThen, aBlock, argEnv, ev, sput, sputO, binK, binI, unK, builtinK, pickK, Nat.reduceBEq, Nat.reduceAdd, Int.reduceBEq, Int.reduceBNe, Int.reduceLT, aPost, resK, tup, tyf, hb]
    have hs0 : 0 ≤ xs.getD i 0 := by omega
    have hs1 : xs.getD i 0 < 9223372036854775808 := by omega
    by_cases hbit : bitI (xs.getD i 0) i = true
    · have hb := hbad (by rw [okAt, hbit, Bool.not_true, Bool.and_false]; rfl)
      simp (maxSteps := 2000000) only [s56, ↓aw_region, ↓aw_skip, ↓aw_seq, ↓aw_block, ↓aw_exit, ↓aw_ret, ↓sops_nil, ↓sops_go, ↓dops_nil, ↓dopsX_nil, ↓dopsR_nil, ↓vdn, vup, extr_20, extr_21, extr_30, extr_31, extr_32, List.map_cons, List.map_nil, cond_true, cond_false, aop, aThen, aBlock, argEnv, ev, sput, sputO, binK, binI, unK, builtinK, pickK, Nat.reduceBEq, Nat.reduceAdd, Int.reduceBEq, Int.reduceBNe, Int.reduceLT, aPost, resK, tup, tyf, hbig, Int.natCast_nonneg, testI hs0 hs1, hbit, if_true, Int.reduceBEq]
      refine hQ2 _ _ _ (hQ _ _ _ ?_)
      simp (maxSteps := 2000000) only [↓aw_region, ↓aw_skip, ↓aw_seq, ↓aw_block, ↓aw_exit, ↓aw_ret, ↓sops_nil, ↓sops_go, ↓dops_nil, ↓dopsX_nil, ↓dopsR_nil, ↓vdn, vup, extr_20, extr_21, extr_30, extr_31, extr_32, List.map_cons, List.map_nil, cond_true, cond_false, aop, aThen, aBlock, argEnv, ev, sput, sputO, binK, binI, unK, builtinK, pickK, Nat.reduceBEq, Nat.reduceAdd, Int.reduceBEq, Int.reduceBNe, Int.reduceLT, aPost, resK, tup, tyf, hb]
    simp only [Bool.not_eq_true] at hbit
    simp (maxSteps := 2000000) only [s56, ↓aw_region, ↓aw_skip, ↓aw_seq, ↓aw_block, ↓aw_exit, ↓aw_ret, ↓sops_nil, ↓sops_go, ↓dops_nil, ↓dopsX_nil, ↓dopsR_nil, ↓vdn, vup, extr_20, extr_21, extr_30, extr_31, extr_32, List.map_cons, List.map_nil, cond_true, cond_false, aop, aThen, aBlock, argEnv, ev, sput, sputO, binK, binI, unK, builtinK, pickK, Nat.reduceBEq, Nat.reduceAdd, Int.reduceBEq, Int.reduceBNe, Int.reduceLT, aPost, resK, tup, tyf, hbig, Int.natCast_nonneg, testI hs0 hs1, hbit, if_false, Bool.false_eq_true, Int.reduceBEq, ↓aw_loop_eq]
    refine aws_hide fun Q3 hQ3 => ?_
    refine aw_loop (γ := Nat) (fun j => j ≤ i ∧ ∀ k, k < j → (bitI (xs.getD i 0) k != bitI (xs.getD k 0) i) = true)
      (fun j => ([(0, v), (2, .bool false), (3, vint xs.length), (4, vint i), (5, vint (xs.getD i 0)), (15, v), (16, vint xs.length), (17, vint i), (37, vint i), (38, vint j)], h)) (fun j => i - j) 0 ⟨by omega, fun _ hk => by omega⟩ (by simp (maxSteps := 2000000) only [↓aw_region, ↓aw_skip, ↓aw_seq, ↓aw_block, ↓aw_exit, ↓aw_ret, ↓sops_nil, ↓sops_go, ↓dops_nil, ↓dopsX_nil, ↓dopsR_nil, ↓vdn, vup, extr_20, extr_21, extr_30, extr_31, extr_32, List.map_cons, List.map_nil, cond_true, cond_false, aop, aThen, aBlock, argEnv, ev, sput, sputO, binK, binI, unK, builtinK, pickK, Nat.reduceBEq, Nat.reduceAdd, Int.reduceBEq, Int.reduceBNe, Int.reduceLT, aPost, resK, tup, tyf, Int.natCast_zero]) rfl ?_
    rintro j ⟨hj, hokj⟩
    refine aw_hide fun Q4 hQ4 => ?_
    by_cases hji : (j : Int) < i
    · have hji' : j < i := by omega
      have hjn : j < xs.length := by omega
      have hoj := hok j hji'
      have hoj' := hoj
      rw [okAt, Bool.and_eq_true, Bool.and_eq_true, Bool.and_eq_true, decide_eq_true_eq, decide_eq_true_eq] at hoj'
      have ht0 : 0 ≤ xs.getD j 0 := hoj'.1.1.1
      have ht1 : xs.getD j 0 < 9223372036854775808 := by have := hoj'.1.1.2; omega
      simp (maxSteps := 2000000) only [s56, ↓aw_region, ↓aw_skip, ↓aw_seq, ↓aw_block, ↓aw_exit, ↓aw_ret, ↓sops_nil, ↓sops_go, ↓dops_nil, ↓dopsX_nil, ↓dopsR_nil, ↓vdn, vup, extr_20, extr_21, extr_30, extr_31, extr_32, List.map_cons, List.map_nil, cond_true, cond_false, aop, aThen, aBlock, argEnv, ev, sput, sputO, binK, binI, unK, builtinK, pickK, Nat.reduceBEq, Nat.reduceAdd, Int.reduceBEq, Int.reduceBNe, Int.reduceLT, aPost, resK, tup, tyf, l56_0, hji]
      refine aw_draw [] (by kernel_rfl) (by kernel_rfl) (by kernel_rfl) ?_
      by_cases heq : (bitI (xs.getD i 0) j == bitI (xs.getD j 0) i) = true
      · have hb := hbad (by
          have : ((List.range i).all fun j => bitI (xs.getD i 0) j != bitI (xs.getD j 0) i) = false := by
            rw [List.all_eq_false]; exact ⟨j, List.mem_range.2 hji', by rw [bne, heq]; decide⟩
          rw [okAt, this, Bool.and_false])
        simp (maxSteps := 2000000) only [s56, ↓aw_region, ↓aw_skip, ↓aw_seq, ↓aw_block, ↓aw_exit, ↓aw_ret, ↓sops_nil, ↓sops_go, ↓dops_nil, ↓dopsX_nil, ↓dopsR_nil, ↓vdn, vup, extr_20, extr_21, extr_30, extr_31, extr_32, List.map_cons, List.map_nil, cond_true, cond_false, aop, aThen, aBlock, argEnv, ev, sput, sputO, binK, binI, unK, builtinK, pickK, Nat.reduceBEq, Nat.reduceAdd, Int.reduceBEq, Int.reduceBNe, Int.reduceLT, aPost, resK, tup, tyf, Int.natCast_nonneg, testI hs0 hs1, testI ht0 ht1, hv.idx el_55 esz_3 hjn, hv.load shp_3 hjn, beq01, heq]
        refine hQ4 _ _ _ (hQ3 _ _ _ ?_)
        simp (maxSteps := 2000000) only [s56, ↓aw_region, ↓aw_skip, ↓aw_seq, ↓aw_block, ↓aw_exit, ↓aw_ret, ↓sops_nil, ↓sops_go, ↓dops_nil, ↓dopsX_nil, ↓dopsR_nil, ↓vdn, vup, extr_20, extr_21, extr_30, extr_31, extr_32, List.map_cons, List.map_nil, cond_true, cond_false, aop, aThen, aBlock, argEnv, ev, sput, sputO, binK, binI, unK, builtinK, pickK, Nat.reduceBEq, Nat.reduceAdd, Int.reduceBEq, Int.reduceBNe, Int.reduceLT, aPost, resK, tup, tyf]
        refine hQ2 _ _ _ (hQ _ _ _ ?_)
        simp (maxSteps := 2000000) only [↓aw_region, ↓aw_skip, ↓aw_seq, ↓aw_block, ↓aw_exit, ↓aw_ret, ↓sops_nil, ↓sops_go, ↓dops_nil, ↓dopsX_nil, ↓dopsR_nil, ↓vdn, vup, extr_20, extr_21, extr_30, extr_31, extr_32, List.map_cons, List.map_nil, cond_true, cond_false, aop, aThen, aBlock, argEnv, ev, sput, sputO, binK, binI, unK, builtinK, pickK, Nat.reduceBEq, Nat.reduceAdd, Int.reduceBEq, Int.reduceBNe, Int.reduceLT, aPost, resK, tup, tyf, hb]
      · simp only [Bool.not_eq_true] at heq
        simp (maxSteps := 2000000) only [s56, ↓aw_region, ↓aw_skip, ↓aw_seq, ↓aw_block, ↓aw_exit, ↓aw_ret, ↓sops_nil, ↓sops_go, ↓dops_nil, ↓dopsX_nil, ↓dopsR_nil, ↓vdn, vup, extr_20, extr_21, extr_30, extr_31, extr_32, List.map_cons, List.map_nil, cond_true, cond_false, aop, aThen, aBlock, argEnv, ev, sput, sputO, binK, binI, unK, builtinK, pickK, Nat.reduceBEq, Nat.reduceAdd, Int.reduceBEq, Int.reduceBNe, Int.reduceLT, aPost, resK, tup, tyf, Int.natCast_nonneg, testI hs0 hs1, testI ht0 ht1, hv.idx el_55 esz_3 hjn, hv.load shp_3 hjn, beq01, heq, add1 (show j < 9223372036854775807 by omega)]
        refine hQ4 _ _ _ ⟨j + 1, ⟨by omega, fun k hk => ?_⟩, by omega, by simp (maxSteps := 2000000) only [↓aw_region, ↓aw_skip, ↓aw_seq, ↓aw_block, ↓aw_exit, ↓aw_ret, ↓sops_nil, ↓sops_go, ↓dops_nil, ↓dopsX_nil, ↓dopsR_nil, ↓vdn, vup, extr_20, extr_21, extr_30, extr_31, extr_32, List.map_cons, List.map_nil, cond_true, cond_false, aop, aThen, aBlock, argEnv, ev, sput, sputO, binK, binI, unK, builtinK, pickK, Nat.reduceBEq, Nat.reduceAdd, Int.reduceBEq, Int.reduceBNe, Int.reduceLT, aPost, resK, tup, tyf], rfl⟩
        by_cases hkj : k = j
        · subst hkj; rw [bne, heq]; rfl
        · exact hokj k (by omega)
    · obtain rfl : j = i := by omega
      simp (maxSteps := 2000000) only [s56, ↓aw_region, ↓aw_skip, ↓aw_seq, ↓aw_block, ↓aw_exit, ↓aw_ret, ↓sops_nil, ↓sops_go, ↓dops_nil, ↓dopsX_nil, ↓dopsR_nil, ↓vdn, vup, extr_20, extr_21, extr_30, extr_31, extr_32, List.map_cons, List.map_nil, cond_true, cond_false, aop, aThen, aBlock, argEnv, ev, sput, sputO, binK, binI, unK, builtinK, pickK, Nat.reduceBEq, Nat.reduceAdd, Int.reduceBEq, Int.reduceBNe, Int.reduceLT, aPost, resK, tup, tyf, l56_0, Int.lt_irrefl]
      refine hQ4 _ _ _ (hQ3 _ _ _ ?_)
      simp (maxSteps := 2000000) only [s56, ↓aw_region, ↓aw_skip, ↓aw_seq, ↓aw_block, ↓aw_exit, ↓aw_ret, ↓sops_nil, ↓sops_go, ↓dops_nil, ↓dopsX_nil, ↓dopsR_nil, ↓vdn, vup, extr_20, extr_21, extr_30, extr_31, extr_32, List.map_cons, List.map_nil, cond_true, cond_false, aop, aThen, aBlock, argEnv, ev, sput, sputO, binK, binI, unK, builtinK, pickK, Nat.reduceBEq, Nat.reduceAdd, Int.reduceBEq, Int.reduceBNe, Int.reduceLT, aPost, resK, tup, tyf, if_true, add1 (show j < 9223372036854775807 by omega)]
      refine hQ2 _ _ _ ⟨j + 1, ⟨by omega, fun k hk => ?_⟩, by omega, by simp (maxSteps := 2000000) only [↓aw_region, ↓aw_skip, ↓aw_seq, ↓aw_block, ↓aw_exit, ↓aw_ret, ↓sops_nil, ↓sops_go, ↓dops_nil, ↓dopsX_nil, ↓dopsR_nil, ↓vdn, vup, extr_20, extr_21, extr_30, extr_31, extr_32, List.map_cons, List.map_nil, cond_true, cond_false, aop, aThen, aBlock, argEnv, ev, sput, sputO, binK, binI, unK, builtinK, pickK, Nat.reduceBEq, Nat.reduceAdd, Int.reduceBEq, Int.reduceBNe, Int.reduceLT, aPost, resK, tup, tyf], rfl⟩
      by_cases hkj : k = j
      · subst hkj
        have : ((List.range k).all fun j => bitI (xs.getD k 0) j != bitI (xs.getD j 0) k) = true := by
          rw [List.all_eq_true]; exact fun j hj => hokj j (List.mem_range.1 hj)
        rw [okAt, decide_eq_true hs0, decide_eq_true (Int.not_le.1 hbig), hbit, this]; rfl
      · exact hok k (by omega)
  · obtain rfl : i = xs.length := by omega
    have ht : trn xs = true := by simp only [trn, Bool.and_eq_true, decide_eq_true_eq, List.all_eq_true, List.mem_range]; exact ⟨⟨by omega, by omega⟩, hok⟩
    simp (maxSteps := 2000000) only [s56, ↓aw_region, ↓aw_skip, ↓aw_seq, ↓aw_block, ↓aw_exit, ↓aw_ret, ↓sops_nil, ↓sops_go, ↓dops_nil, ↓dopsX_nil, ↓dopsR_nil, ↓vdn, vup, extr_20, extr_21, extr_30, extr_31, extr_32, List.map_cons, List.map_nil, cond_true, cond_false, aop, aThen, aBlock, argEnv, ev, sput, sputO, binK, binI, unK, builtinK, pickK, Nat.reduceBEq, Nat.reduceAdd, Int.reduceBEq, Int.reduceBNe, Int.reduceLT, aPost, resK, tup, tyf, l56_1, Int.lt_irrefl]
    refine hQ2 _ _ _ (hQ _ _ _ ?_)
    simp (maxSteps := 2000000) only [s56, ↓aw_region, ↓aw_skip, ↓aw_seq, ↓aw_block, ↓aw_exit, ↓aw_ret, ↓sops_nil, ↓sops_go, ↓dops_nil, ↓dopsX_nil, ↓dopsR_nil, ↓vdn, vup, extr_20, extr_21, extr_30, extr_31, extr_32, List.map_cons, List.map_nil, cond_true, cond_false, aop, aThen, aBlock, argEnv, ev, sput, sputO, binK, binI, unK, builtinK, pickK, Nat.reduceBEq, Nat.reduceAdd, Int.reduceBEq, Int.reduceBNe, Int.reduceLT, aPost, resK, tup, tyf, if_true, ht]

theorem rvalid_call [Tabs prog] {h : Heap} {v : Value} {xs : List Int} (hv : IntSl h v xs) (hl : xs.length < 9223372036854775808) (hx : ∀ x ∈ xs, -9223372036854775808 ≤ x ∧ x < 9223372036854775808) : APure prog 20 [v] h (.bool (trn xs)) := by
  refine s20_call (by simp) ?_
  simp (maxSteps := 2000000) only [s20, ↓aw_region, ↓aw_skip, ↓aw_seq, ↓aw_block, ↓aw_exit, ↓aw_ret, ↓sops_nil, ↓sops_go, ↓dops_nil, ↓dopsX_nil, ↓dopsR_nil, ↓vdn, vup, extr_20, extr_21, extr_30, extr_31, extr_32, List.map_cons, List.map_nil, cond_true, cond_false, aop, aThen, aBlock, argEnv, ev, sput, sputO, binK, binI, unK, builtinK, pickK, Nat.reduceBEq, Nat.reduceAdd, Int.reduceBEq, Int.reduceBNe, Int.reduceLT, aPost, resK, tup, tyf, hv.len]
  by_cases h1 : (xs.length : Int) < 1
  · have ht : trn xs = false := by simp [trn]; omega
    simp (maxSteps := 2000000) only [s20, ↓aw_region, ↓aw_skip, ↓aw_seq, ↓aw_block, ↓aw_exit, ↓aw_ret, ↓sops_nil, ↓sops_go, ↓dops_nil, ↓dopsX_nil, ↓dopsR_nil, ↓vdn, vup, extr_20, extr_21, extr_30, extr_31, extr_32, List.map_cons, List.map_nil, cond_true, cond_false, aop, aThen, aBlock, argEnv, ev, sput, sputO, binK, binI, unK, builtinK, pickK, Nat.reduceBEq, Nat.reduceAdd, Int.reduceBEq, Int.reduceBNe, Int.reduceLT, aPost, resK, tup, tyf, h1, ht]
  by_cases h8 : (8 : Int) < xs.length
  · have ht : trn xs = false := by simp [trn]; omega
    simp (maxSteps := 2000000) only [s20, ↓aw_region, ↓aw_skip, ↓aw_seq, ↓aw_block, ↓aw_exit, ↓aw_ret, ↓sops_nil, ↓sops_go, ↓dops_nil, ↓dopsX_nil, ↓dopsR_nil, ↓vdn, vup, extr_20, extr_21, extr_30, extr_31, extr_32, List.map_cons, List.map_nil, cond_true, cond_false, aop, aThen, aBlock, argEnv, ev, sput, sputO, binK, binI, unK, builtinK, pickK, Nat.reduceBEq, Nat.reduceAdd, Int.reduceBEq, Int.reduceBNe, Int.reduceLT, aPost, resK, tup, tyf, h1, h8, ht]
  have hp := pow8 (n := xs.length) (by omega)
  simp (maxSteps := 2000000) only [s20, ↓aw_region, ↓aw_skip, ↓aw_seq, ↓aw_block, ↓aw_exit, ↓aw_ret, ↓sops_nil, ↓sops_go, ↓dops_nil, ↓dopsX_nil, ↓dopsR_nil, ↓vdn, vup, extr_20, extr_21, extr_30, extr_31, extr_32, List.map_cons, List.map_nil, cond_true, cond_false, aop, aThen, aBlock, argEnv, ev, sput, sputO, binK, binI, unK, builtinK, pickK, Nat.reduceBEq, Nat.reduceAdd, Int.reduceBEq, Int.reduceBNe, Int.reduceLT, aPost, resK, tup, tyf, h1, h8, hv.len, ↓aw_loop_eq]
  refine aws_hide fun Q hQ => ?_
  refine aw_loop (γ := Nat) (fun i => i ≤ xs.length ∧ ∀ k, k < i → okAt xs k = true)
    (fun i => ([(0, v), (2, .bool false), (3, vint xs.length), (15, v), (16, vint xs.length), (17, vint i)], h)) (fun i => xs.length - i) 0 ⟨by omega, fun _ hk => by omega⟩ (by simp (maxSteps := 2000000) only [↓aw_region, ↓aw_skip, ↓aw_seq, ↓aw_block, ↓aw_exit, ↓aw_ret, ↓sops_nil, ↓sops_go, ↓dops_nil, ↓dopsX_nil, ↓dopsR_nil, ↓vdn, vup, extr_20, extr_21, extr_30, extr_31, extr_32, List.map_cons, List.map_nil, cond_true, cond_false, aop, aThen, aBlock, argEnv, ev, sput, sputO, binK, binI, unK, builtinK, pickK, Nat.reduceBEq, Nat.reduceAdd, Int.reduceBEq, Int.reduceBNe, Int.reduceLT, aPost, resK, tup, tyf, Int.natCast_zero]) rfl ?_
  rintro i ⟨hi, hok⟩
  refine aw_hide fun Q2 hQ2 => ?_
  by_cases hin : (i : Int) < xs.length
  · have hin' : i < xs.length := by omega
    have hbad : okAt xs i = false → trn xs = false := fun hb => by
      have : (List.range xs.length).all (okAt xs) = false := by
        rw [List.all_eq_false]; exact ⟨i, by simpa using hin', by simp [hb]⟩
      simp [trn, this]
    obtain ⟨hx1, hx2⟩ := hx (xs.getD i 0) (by rw [List.getD, List.getElem?_eq_getElem hin']; exact List.getElem_mem hin')
    simp (maxSteps := 2000000) only [s20, ↓aw_region, ↓aw_skip, ↓aw_seq, ↓aw_block, ↓aw_exit, ↓aw_ret, ↓sops_nil, ↓sops_go, ↓dops_nil, ↓dopsX_nil, ↓dopsR_nil, ↓vdn, vup, extr_20, extr_21, extr_30, extr_31, extr_32, List.map_cons, List.map_nil, cond_true, cond_false, aop, aThen, aBlock, argEnv, ev, sput, sputO, binK, binI, unK, builtinK, pickK, Nat.reduceBEq, Nat.reduceAdd, Int.reduceBEq, Int.reduceBNe, Int.reduceLT, aPost, resK, tup, tyf, l20_1, hin, hv.idx el_22 esz_3 hin', hv.load shp_3 hin']
    by_cases hneg : xs.getD i 0 < 0
    · have hb := hbad (by rw [okAt, decide_eq_false (show ¬ 0 ≤ xs.getD i 0 by omega)]; rfl)
      simp (maxSteps := 2000000) only [s20, ↓aw_region, ↓aw_skip, ↓aw_seq, ↓aw_block, ↓aw_exit, ↓aw_ret, ↓sops_nil, ↓sops_go, ↓dops_nil, ↓dopsX_nil, ↓dopsR_nil, ↓vdn, vup, extr_20, extr_21, extr_30, extr_31, extr_32, List.map_cons, List.map_nil, cond_true, cond_false, aop, aThen, aBlock, argEnv, ev, sput, sputO, binK, binI, unK, builtinK, pickK, Nat.reduceBEq, Nat.reduceAdd, Int.reduceBEq, Int.reduceBNe, Int.reduceLT, aPost, resK, tup, tyf, hneg]
      refine hQ2 _ _ _ (hQ _ _ _ ?_)
      simp (maxSteps := 2000000) only [↓aw_region, ↓aw_skip, ↓aw_seq, ↓aw_block, ↓aw_exit, ↓aw_ret, ↓sops_nil, ↓sops_go, ↓dops_nil, ↓dopsX_nil, ↓dopsR_nil, ↓vdn, vup, extr_20, extr_21, extr_30, extr_31, extr_32, List.map_cons, List.map_nil, cond_true, cond_false, aop, aThen, aBlock, argEnv, ev, sput, sputO, binK, binI, unK, builtinK, pickK, Nat.reduceBEq, Nat.reduceAdd, Int.reduceBEq, Int.reduceBNe, Int.reduceLT, aPost, resK, tup, tyf, hb]
    simp (maxSteps := 2000000) only [s20, ↓aw_region, ↓aw_skip, ↓aw_seq, ↓aw_block, ↓aw_exit, ↓aw_ret, ↓sops_nil, ↓sops_go, ↓dops_nil, ↓dopsX_nil, ↓dopsR_nil, ↓vdn, vup, extr_20, extr_21, extr_30, extr_31, extr_32, List.map_cons, List.map_nil, cond_true, cond_false, aop, aThen, aBlock, argEnv, ev, sput, sputO, binK, binI, unK, builtinK, pickK, Nat.reduceBEq, Nat.reduceAdd, Int.reduceBEq, Int.reduceBNe, Int.reduceLT, aPost, resK, tup, tyf, hneg, shl1 (show xs.length ≤ 62 by omega), Int.natCast_nonneg]
    by_cases hbig : 2 ^ xs.length ≤ xs.getD i 0
    · have hb := hbad (by rw [okAt, decide_eq_false (show ¬ xs.getD i 0 < 2 ^ xs.length from Int.not_lt.2 hbig), Bool.and_false]; rfl)
      simp (maxSteps := 2000000) only [s20, ↓aw_region, ↓aw_skip, ↓aw_seq, ↓aw_block, ↓aw_exit, ↓aw_ret, ↓sops_nil, ↓sops_go, ↓dops_nil, ↓dopsX_nil, ↓dopsR_nil, ↓vdn, vup, extr_20, extr_21, extr_30, extr_31, extr_32, List.map_cons, List.map_nil, cond_true, cond_false, aop, aThen, aBlock, argEnv, ev, sput, sputO, binK, binI, unK, builtinK, pickK, Nat.reduceBEq, Nat.reduceAdd, Int.reduceBEq, Int.reduceBNe, Int.reduceLT, aPost, resK, tup, tyf, hbig]
      refine hQ2 _ _ _ (hQ _ _ _ ?_)
      simp (maxSteps := 2000000) only [↓aw_region, ↓aw_skip, ↓aw_seq, ↓aw_block, ↓aw_exit, ↓aw_ret, ↓sops_nil, ↓sops_go, ↓dops_nil, ↓dopsX_nil, ↓dopsR_nil, ↓vdn, vup, extr_20, extr_21, extr_30, extr_31, extr_32, List.map_cons, List.map_nil, cond_true, cond_false, aop, aThen, aBlock, argEnv, ev, sput, sputO, binK, binI, unK, builtinK, pickK, Nat.reduceBEq, Nat.reduceAdd, Int.reduceBEq, Int.reduceBNe, Int.reduceLT, aPost, resK, tup, tyf, hb]
    have hs0 : 0 ≤ xs.getD i 0 := by omega
    have hs1 : xs.getD i 0 < 9223372036854775808 := by omega
    by_cases hbit : bitI (xs.getD i 0) i = true
    · have hb := hbad (by rw [okAt, hbit, Bool.not_true, Bool.and_false]; rfl)
      simp (maxSteps := 2000000) only [s20, ↓aw_region, ↓aw_skip, ↓aw_seq, ↓aw_block, ↓aw_exit, ↓aw_ret, ↓sops_nil, ↓sops_go, ↓dops_nil, ↓dopsX_nil, ↓dopsR_nil, ↓vdn, vup, extr_20, extr_21, extr_30, extr_31, extr_32, List.map_cons, List.map_nil, cond_true, cond_false, aop, aThen, aBlock, argEnv, ev, sput, sputO, binK, binI, unK, builtinK, pickK, Nat.reduceBEq, Nat.reduceAdd, Int.reduceBEq, Int.reduceBNe, Int.reduceLT, aPost, resK, tup, tyf, hbig, Int.natCast_nonneg, testI hs0 hs1, hbit, if_true, Int.reduceBEq]
      refine hQ2 _ _ _ (hQ _ _ _ ?_)
      simp (maxSteps := 2000000) only [↓aw_region, ↓aw_skip, ↓aw_seq, ↓aw_block, ↓aw_exit, ↓aw_ret, ↓sops_nil, ↓sops_go, ↓dops_nil, ↓dopsX_nil, ↓dopsR_nil, ↓vdn, vup, extr_20, extr_21, extr_30, extr_31, extr_32, List.map_cons, List.map_nil, cond_true, cond_false, aop, aThen, aBlock, argEnv, ev, sput, sputO, binK, binI, unK, builtinK, pickK, Nat.reduceBEq, Nat.reduceAdd, Int.reduceBEq, Int.reduceBNe, Int.reduceLT, aPost, resK, tup, tyf, hb]
    simp only [Bool.not_eq_true] at hbit
    simp (maxSteps := 2000000) only [s20, ↓aw_region, ↓aw_skip, ↓aw_seq, ↓aw_block, ↓aw_exit, ↓aw_ret, ↓sops_nil, ↓sops_go, ↓dops_nil, ↓dopsX_nil, ↓dopsR_nil, ↓vdn, vup, extr_20, extr_21, extr_30, extr_31, extr_32, List.map_cons, List.map_nil, cond_true, cond_false, aop, aThen, aBlock, argEnv, ev, sput, sputO, binK, binI, unK, builtinK, pickK, Nat.reduceBEq, Nat.reduceAdd, Int.reduceBEq, Int.reduceBNe, Int.reduceLT, aPost, resK, tup, tyf, hbig, Int.natCast_nonneg, testI hs0 hs1, hbit, if_false, Bool.false_eq_true, Int.reduceBEq, ↓aw_loop_eq]
    refine aws_hide fun Q3 hQ3 => ?_
    refine aw_loop (γ := Nat) (fun j => j ≤ i ∧ ∀ k, k < j → (bitI (xs.getD i 0) k != bitI (xs.getD k 0) i) = true)
      (fun j => ([(0, v), (2, .bool false), (3, vint xs.length), (4, vint i), (5, vint (xs.getD i 0)), (15, v), (16, vint xs.length), (17, vint i), (37, vint i), (38, vint j)], h)) (fun j => i - j) 0 ⟨by omega, fun _ hk => by omega⟩ (by simp (maxSteps := 2000000) only [↓aw_region, ↓aw_skip, ↓aw_seq, ↓aw_block, ↓aw_exit, ↓aw_ret, ↓sops_nil, ↓sops_go, ↓dops_nil, ↓dopsX_nil, ↓dopsR_nil, ↓vdn, vup, extr_20, extr_21, extr_30, extr_31, extr_32, List.map_cons, List.map_nil, cond_true, cond_false, aop, aThen, aBlock, argEnv, ev, sput, sputO, binK, binI, unK, builtinK, pickK, Nat.reduceBEq, Nat.reduceAdd, Int.reduceBEq, Int.reduceBNe, Int.reduceLT, aPost, resK, tup, tyf, Int.natCast_zero]) rfl ?_
    rintro j ⟨hj, hokj⟩
    refine aw_hide fun Q4 hQ4 => ?_
    by_cases hji : (j : Int) < i
    · have hji' : j < i := by omega
      have hjn : j < xs.length := by omega
      have hoj := hok j hji'
      have hoj' := hoj
      rw [okAt, Bool.and_eq_true, Bool.and_eq_true, Bool.and_eq_true, decide_eq_true_eq, decide_eq_true_eq] at hoj'
      have ht0 : 0 ≤ xs.getD j 0 := hoj'.1.1.1
      have ht1 : xs.getD j 0 < 9223372036854775808 := by have := hoj'.1.1.2; omega
      simp (maxSteps := 2000000) only [s20, ↓aw_region, ↓aw_skip, ↓aw_seq, ↓aw_block, ↓aw_exit, ↓aw_ret, ↓sops_nil, ↓sops_go, ↓dops_nil, ↓dopsX_nil, ↓dopsR_nil, ↓vdn, vup, extr_20, extr_21, extr_30, extr_31, extr_32, List.map_cons, List.map_nil, cond_true, cond_false, aop, aThen, aBlock, argEnv, ev, sput, sputO, binK, binI, unK, builtinK, pickK, Nat.reduceBEq, Nat.reduceAdd, Int.reduceBEq, Int.reduceBNe, Int.reduceLT, aPost, resK, tup, tyf, l20_0, hji]
      refine aw_draw [] (by kernel_rfl) (by kernel_rfl) (by kernel_rfl) ?_
      by_cases heq : (bitI (xs.getD i 0) j == bitI (xs.getD j 0) i) = true
      · have hb := hbad (by
          have : ((List.range i).all fun j => bitI (xs.getD i 0) j != bitI (xs.getD j 0) i) = false := by
            rw [List.all_eq_false]; exact ⟨j, List.mem_range.2 hji', by rw [bne, heq]; decide⟩
          rw [okAt, this, Bool.and_false])
        simp (maxSteps := 2000000) only [s20, ↓aw_region, ↓aw_skip, ↓aw_seq, ↓aw_block, ↓aw_exit, ↓aw_ret, ↓sops_nil, ↓sops_go, ↓dops_nil, ↓dopsX_nil, ↓dopsR_nil, ↓vdn, vup, extr_20, extr_21, extr_30, extr_31, extr_32, List.map_cons, List.map_nil, cond_true, cond_false, aop, aThen, aBlock, argEnv, ev, sput, sputO, binK, binI, unK, builtinK, pickK, Nat.reduceBEq, Nat.reduceAdd, Int.reduceBEq, Int.reduceBNe, Int.reduceLT, aPost, resK, tup, tyf, Int.natCast_nonneg, testI hs0 hs1, testI ht0 ht1, hv.idx el_22 esz_3 hjn, hv.load shp_3 hjn, beq01, heq]
        refine hQ4 _ _ _ (hQ3 _ _ _ ?_)
        simp (maxSteps := 2000000) only [s20, ↓aw_region, ↓aw_skip, ↓aw_seq, ↓aw_block, ↓aw_exit, ↓aw_ret, ↓sops_nil, ↓sops_go, ↓dops_nil, ↓dopsX_nil, ↓dopsR_nil, ↓vdn, vup, extr_20, extr_21, extr_30, extr_31, extr_32, List.map_cons, List.map_nil, cond_true, cond_false, aop, aThen, aBlock, argEnv, ev, sput, sputO, binK, binI, unK, builtinK, pickK, Nat.reduceBEq, Nat.reduceAdd, Int.reduceBEq, Int.reduceBNe, Int.reduceLT, aPost, resK, tup, tyf]
        refine hQ2 _ _ _ (hQ _ _ _ ?_)
        simp (maxSteps := 2000000) only [↓aw_region, ↓aw_skip, ↓aw_seq, ↓aw_block, ↓aw_exit, ↓aw_ret, ↓sops_nil, ↓sops_go, ↓dops_nil, ↓dopsX_nil, ↓dopsR_nil, ↓vdn, vup, extr_20, extr_21, extr_30, extr_31, extr_32, List.map_cons, List.map_nil, cond_true, cond_false, aop, aThen, aBlock, argEnv, ev, sput, sputO, binK, binI, unK, builtinK, pickK, Nat.reduceBEq, Nat.reduceAdd, Int.reduceBEq, Int.reduceBNe, Int.reduceLT, aPost, resK, tup, tyf, hb]
      · simp only [Bool.not_eq_true] at heq
        simp (maxSteps := 2000000) only [s20, ↓aw_region, ↓aw_skip, ↓aw_seq, ↓aw_block, ↓aw_exit, ↓aw_ret, ↓sops_nil, ↓sops_go, ↓dops_nil, ↓dopsX_nil, ↓dopsR_nil, ↓vdn, vup, extr_20, extr_21, extr_30, extr_31, extr_32, List.map_cons, List.map_nil, cond_true, cond_false, aop, aThen, aBlock, argEnv, ev, sput, sputO, binK, binI, unK, builtinK, pickK, Nat.reduceBEq, Nat.reduceAdd, Int.reduceBEq, Int.reduceBNe, Int.reduceLT, aPost, resK, tup, tyf, Int.natCast_nonneg, testI hs0 hs1, testI ht0 ht1, hv.idx el_22 esz_3 hjn, hv.load shp_3 hjn, beq01, heq, add1 (show j < 9223372036854775807 by omega)]
        refine hQ4 _ _ _ ⟨j + 1, ⟨by omega, fun k hk => ?_⟩, by omega, by simp (maxSteps := 2000000) only [↓aw_region, ↓aw_skip, ↓aw_seq, ↓aw_block, ↓aw_exit, ↓aw_ret, ↓sops_nil, ↓sops_go, ↓dops_nil, ↓dopsX_nil, ↓dopsR_nil, ↓vdn, vup, extr_20, extr_21, extr_30, extr_31, extr_32, List.map_cons, List.map_nil, cond_true, cond_false, aop, aThen, aBlock, argEnv, ev, sput, sputO, binK, binI, unK, builtinK, pickK, Nat.reduceBEq, Nat.reduceAdd, Int.reduceBEq, Int.reduceBNe, Int.reduceLT, aPost, resK, tup, tyf], rfl⟩
        by_cases hkj : k = j
        · subst hkj; rw [bne, heq]; rfl
        · exact hokj k (by omega)
    · obtain rfl : j = i := by omega
      simp (maxSteps := 2000000) only [s20, ↓aw_region, ↓aw_skip, ↓aw_seq, ↓aw_block, ↓aw_exit, ↓aw_ret, ↓sops_nil, ↓sops_go, ↓dops_nil, ↓dopsX_nil, ↓dopsR_nil, ↓vdn, vup, extr_20, extr_21, extr_30, extr_31, extr_32, List.map_cons, List.map_nil, cond_true, cond_false, aop, aThen, aBlock, argEnv, ev, sput, sputO, binK, binI, unK, builtinK, pickK, Nat.reduceBEq, Nat.reduceAdd, Int.reduceBEq, Int.reduceBNe, Int.reduceLT, aPost, resK, tup, tyf, l20_0, Int.lt_irrefl]
      refine hQ4 _ _ _ (hQ3 _ _ _ ?_)
      simp (maxSteps := 2000000) only [s20, ↓aw_region, ↓aw_skip, ↓aw_seq, ↓aw_block, ↓aw_exit, ↓aw_ret, ↓sops_nil, ↓sops_go, ↓dops_nil, ↓dopsX_nil, ↓dopsR_nil, ↓vdn, vup, extr_20, extr_21, extr_30, extr_31, extr_32, List.map_cons, List.map_nil, cond_true, cond_false, aop, aThen, aBlock, argEnv, ev, sput, sputO, binK, binI, unK, builtinK, pickK, Nat.reduceBEq, Nat.reduceAdd, Int.reduceBEq, Int.reduceBNe, Int.reduceLT, aPost, resK, tup, tyf, if_true, add1 (show j < 9223372036854775807 by omega)]
      refine hQ2 _ _ _ ⟨j + 1, ⟨by omega, fun k hk => ?_⟩, by omega, by simp (maxSteps := 2000000) only [↓aw_region, ↓aw_skip, ↓aw_seq, ↓aw_block, ↓aw_exit, ↓aw_ret, ↓sops_nil, ↓sops_go, ↓dops_nil, ↓dopsX_nil, ↓dopsR_nil, ↓vdn, vup, extr_20, extr_21, extr_30, extr_31, extr_32, List.map_cons, List.map_nil, cond_true, cond_false, aop, aThen, aBlock, argEnv, ev, sput, sputO, binK, binI, unK, builtinK, pickK, Nat.reduceBEq, Nat.reduceAdd, Int.reduceBEq, Int.reduceBNe, Int.reduceLT, aPost, resK, tup, tyf], rfl⟩
      by_cases hkj : k = j
      · subst hkj
        have : ((List.range k).all fun j => bitI (xs.getD k 0) j != bitI (xs.getD j 0) k) = true := by
          rw [List.all_eq_true]; exact fun j hj => hokj j (List.mem_range.1 hj)
        rw [okAt, decide_eq_true hs0, decide_eq_true (Int.not_le.1 hbig), hbit, this]; rfl
      · exact hok k (by omega)
  · obtain rfl : i = xs.length := by omega
    have ht : trn xs = true := by simp only [trn, Bool.and_eq_true, decide_eq_true_eq, List.all_eq_true, List.mem_range]; exact ⟨⟨by omega, by omega⟩, hok⟩
    simp (maxSteps := 2000000) only [s20, ↓aw_region, ↓aw_skip, ↓aw_seq, ↓aw_block, ↓aw_exit, ↓aw_ret, ↓sops_nil, ↓sops_go, ↓dops_nil, ↓dopsX_nil, ↓dopsR_nil, ↓vdn, vup, extr_20, extr_21, extr_30, extr_31, extr_32, List.map_cons, List.map_nil, cond_true, cond_false, aop, aThen, aBlock, argEnv, ev, sput, sputO, binK, binI, unK, builtinK, pickK, Nat.reduceBEq, Nat.reduceAdd, Int.reduceBEq, Int.reduceBNe, Int.reduceLT, aPost, resK, tup, tyf, l20_1, Int.lt_irrefl]
    refine hQ2 _ _ _ (hQ _ _ _ ?_)
    simp (maxSteps := 2000000) only [s20, ↓aw_region, ↓aw_skip, ↓aw_seq, ↓aw_block, ↓aw_exit, ↓aw_ret, ↓sops_nil, ↓sops_go, ↓dops_nil, ↓dopsX_nil, ↓dopsR_nil, ↓vdn, vup, extr_20, extr_21, extr_30, extr_31, extr_32, List.map_cons, List.map_nil, cond_true, cond_false, aop, aThen, aBlock, argEnv, ev, sput, sputO, binK, binI, unK, builtinK, pickK, Nat.reduceBEq, Nat.reduceAdd, Int.reduceBEq, Int.reduceBNe, Int.reduceLT, aPost, resK, tup, tyf, if_true, ht]
end Go.Proofs.Tryd.Am

namespace Go.Proofs.Tryd.Am
open Go.Am

theorem beats_call [Tabs prog] {h : Heap} {v : Value} {xs : List Int} (hv : IntSl h v xs) {i j : Nat} (hi : i < xs.length) (h0 : 0 ≤ xs.getD i 0) (h1 : xs.getD i 0 < 9223372036854775808) :
    APure prog 60 [v, vint i, vint j] h (.bool (bitI (xs.getD i 0) j)) := by
  refine s60_call (by simp) ?_
  simp (maxSteps := 2000000) only [s60, ↓aw_region, ↓aw_skip, ↓aw_seq, ↓aw_block, ↓aw_exit, ↓aw_ret, ↓sops_nil, ↓sops_go, ↓dops_nil, ↓dopsX_nil, ↓dopsR_nil, ↓vdn, vup, extr_20, extr_21, extr_30, extr_31, extr_32, List.map_cons, List.map_nil, cond_true, cond_false, aop, aThen, aBlock, argEnv, ev, sput, sputO, binK, binI, unK, builtinK, pickK, Nat.reduceBEq, Nat.reduceAdd, Int.reduceBEq, Int.reduceBNe, Int.reduceLT, aPost, resK, tup, tyf, hv.idx el_55 esz_3 hi, hv.load shp_3 hi, Int.natCast_nonneg, testI h0 h1, beq1]

theorem all_call [Tabs prog] {h : Heap} {v : Value} {xs : List Int} (hv : IntSl h v xs) (hl : xs.length ≤ 8) : APure prog 63 [v] h (vint ((2 ^ xs.length - 1 : Nat) : Int)) := by
  have hp := pow8 hl
  have hs : subV .i64 (2 ^ xs.length) 1 = ((2 ^ xs.length - 1 : Nat) : Int) := by
    have e : ((2 ^ xs.length : Nat) : Int) = 2 ^ xs.length := by simp
    rw [subV_id (by omega) (by omega)]; omega
  refine s63_call (by simp) ?_
  simp (maxSteps := 2000000) only [s63, ↓aw_region, ↓aw_skip, ↓aw_seq, ↓aw_block, ↓aw_exit, ↓aw_ret, ↓sops_nil, ↓sops_go, ↓dops_nil, ↓dopsX_nil, ↓dopsR_nil, ↓vdn, vup, extr_20, extr_21, extr_30, extr_31, extr_32, List.map_cons, List.map_nil, cond_true, cond_false, aop, aThen, aBlock, argEnv, ev, sput, sputO, binK, binI, unK, builtinK, pickK, Nat.reduceBEq, Nat.reduceAdd, Int.reduceBEq, Int.reduceBNe, Int.reduceLT, aPost, resK, tup, tyf, hv.len, Int.natCast_nonneg, shl1 (show xs.length ≤ 62 by omega), hs]

theorem players_call [Tabs prog] {h : Heap} {s : Int} : ACall prog 62 [vint s] h fun r h' => r = .func (.func 93) #[] #[newPtr h] ∧ h' = h ++ [.cells [vint s] 3 false] := by
  refine s62_call (by simp) ?_
  simp (maxSteps := 2000000) only [s62, ↓aw_region, ↓aw_skip, ↓aw_seq, ↓aw_block, ↓aw_exit, ↓aw_ret, ↓sops_nil, ↓sops_go, ↓dops_nil, ↓dopsX_nil, ↓dopsR_nil, ↓vdn, vup, extr_20, extr_21, extr_30, extr_31, extr_32, List.map_cons, List.map_nil, cond_true, cond_false, aop, aThen, aBlock, argEnv, ev, sput, sputO, binK, binI, unK, builtinK, pickK, Nat.reduceBEq, Nat.reduceAdd, Int.reduceBEq, Int.reduceBNe, Int.reduceLT, aPost, resK, tup, tyf, boxK, cellsOf, Option.isSome_some, List.map_toArray]

theorem yes_call [Tabs prog] {h : Heap} {v : Value} : APure prog 58 [v] h (.bool true) := by
  refine s58_call (by simp) ?_
  simp (maxSteps := 2000000) only [s58, ↓aw_region, ↓aw_skip, ↓aw_seq, ↓aw_block, ↓aw_exit, ↓aw_ret, ↓sops_nil, ↓sops_go, ↓dops_nil, ↓dopsX_nil, ↓dopsR_nil, ↓vdn, vup, extr_20, extr_21, extr_30, extr_31, extr_32, List.map_cons, List.map_nil, cond_true, cond_false, aop, aThen, aBlock, argEnv, ev, sput, sputO, binK, binI, unK, builtinK, pickK, Nat.reduceBEq, Nat.reduceAdd, Int.reduceBEq, Int.reduceBNe, Int.reduceLT, aPost, resK, tup, tyf]

theorem equal_call [Tabs prog] {h : Heap} {v w : Value} {xs ys : List Int} (hv : IntSl h v xs) (hw : IntSl h w ys) (hl : xs.length < 9223372036854775808) (hl2 : ys.length < 9223372036854775808) :
    APure prog 25 [v, w] h (.bool (decide (xs = ys))) := by
  refine s25_call (by simp) ?_
  by_cases hlen : xs.length = ys.length
  · have hne : ((xs.length : Int) != ys.length) = false := by simp [hlen]
    simp (maxSteps := 2000000) only [s25, ↓aw_region, ↓aw_skip, ↓aw_seq, ↓aw_block, ↓aw_exit, ↓aw_ret, ↓sops_nil, ↓sops_go, ↓dops_nil, ↓dopsX_nil, ↓dopsR_nil, ↓vdn, vup, extr_20, extr_21, extr_30, extr_31, extr_32, List.map_cons, List.map_nil, cond_true, cond_false, aop, aThen, aBlock, argEnv, ev, sput, sputO, binK, binI, unK, builtinK, pickK, Nat.reduceBEq, Nat.reduceAdd, Int.reduceBEq, Int.reduceBNe, Int.reduceLT, aPost, resK, tup, tyf, hv.len, hw.len, hne, ↓aw_loop_eq]
    refine aws_hide fun Q hQ => ?_
    refine aw_loop (γ := Nat) (fun i => i ≤ xs.length ∧ ∀ k, k < i → xs.getD k 0 = ys.getD k 0)
      (fun i => ([(0, v), (1, w), (12, vint xs.length), (13, vint i)], h)) (fun i => xs.length - i) 0 ⟨by omega, fun _ hk => by omega⟩ (by simp (maxSteps := 2000000) only [↓aw_region, ↓aw_skip, ↓aw_seq, ↓aw_block, ↓aw_exit, ↓aw_ret, ↓sops_nil, ↓sops_go, ↓dops_nil, ↓dopsX_nil, ↓dopsR_nil, ↓vdn, vup, extr_20, extr_21, extr_30, extr_31, extr_32, List.map_cons, List.map_nil, cond_true, cond_false, aop, aThen, aBlock, argEnv, ev, sput, sputO, binK, binI, unK, builtinK, pickK, Nat.reduceBEq, Nat.reduceAdd, Int.reduceBEq, Int.reduceBNe, Int.reduceLT, aPost, resK, tup, tyf, Int.natCast_zero]) rfl ?_
    rintro i ⟨hi, hok⟩
    refine aw_hide fun Q2 hQ2 => ?_
    by_cases hin : (i : Int) < xs.length
    · have h1 : i < xs.length := by omega
      have h2 : i < ys.length := by omega
      simp (maxSteps := 2000000) only [s25, ↓aw_region, ↓aw_skip, ↓aw_seq, ↓aw_block, ↓aw_exit, ↓aw_ret, ↓sops_nil, ↓sops_go, ↓dops_nil, ↓dopsX_nil, ↓dopsR_nil, ↓vdn, vup, extr_20, extr_21, extr_30, extr_31, extr_32, List.map_cons, List.map_nil, cond_true, cond_false, aop, aThen, aBlock, argEnv, ev, sput, sputO, binK, binI, unK, builtinK, pickK, Nat.reduceBEq, Nat.reduceAdd, Int.reduceBEq, Int.reduceBNe, Int.reduceLT, aPost, resK, tup, tyf, l25_0, hin]
      refine aw_draw [] (by kernel_rfl) (by kernel_rfl) (by kernel_rfl) ?_
      by_cases heq : xs.getD i 0 = ys.getD i 0
      · have hb : (xs.getD i 0 != ys.getD i 0) = false := by rw [heq]; exact bne_self_eq_false _
        simp (maxSteps := 2000000) only [s25, ↓aw_region, ↓aw_skip, ↓aw_seq, ↓aw_block, ↓aw_exit, ↓aw_ret, ↓sops_nil, ↓sops_go, ↓dops_nil, ↓dopsX_nil, ↓dopsR_nil, ↓vdn, vup, extr_20, extr_21, extr_30, extr_31, extr_32, List.map_cons, List.map_nil, cond_true, cond_false, aop, aThen, aBlock, argEnv, ev, sput, sputO, binK, binI, unK, builtinK, pickK, Nat.reduceBEq, Nat.reduceAdd, Int.reduceBEq, Int.reduceBNe, Int.reduceLT, aPost, resK, tup, tyf, hv.idx el_22 esz_3 h1, hv.load shp_3 h1, hw.idx el_22 esz_3 h2, hw.load shp_3 h2, hb, add1 (show i < 9223372036854775807 by omega)]
        refine hQ2 _ _ _ ⟨i + 1, ⟨by omega, fun k hk => ?_⟩, by omega, by simp (maxSteps := 2000000) only [↓aw_region, ↓aw_skip, ↓aw_seq, ↓aw_block, ↓aw_exit, ↓aw_ret, ↓sops_nil, ↓sops_go, ↓dops_nil, ↓dopsX_nil, ↓dopsR_nil, ↓vdn, vup, extr_20, extr_21, extr_30, extr_31, extr_32, List.map_cons, List.map_nil, cond_true, cond_false, aop, aThen, aBlock, argEnv, ev, sput, sputO, binK, binI, unK, builtinK, pickK, Nat.reduceBEq, Nat.reduceAdd, Int.reduceBEq, Int.reduceBNe, Int.reduceLT, aPost, resK, tup, tyf], rfl⟩
        by_cases hki : k = i
        · subst hki; exact heq
        · exact hok k (by omega)
      · have hb : (xs.getD i 0 != ys.getD i 0) = true := by simp only [bne_iff_ne, ne_eq]; exact heq
        simp (maxSteps := 2000000) only [s25, ↓aw_region, ↓aw_skip, ↓aw_seq, ↓aw_block, ↓aw_exit, ↓aw_ret, ↓sops_nil, ↓sops_go, ↓dops_nil, ↓dopsX_nil, ↓dopsR_nil, ↓vdn, vup, extr_20, extr_21, extr_30, extr_31, extr_32, List.map_cons, List.map_nil, cond_true, cond_false, aop, aThen, aBlock, argEnv, ev, sput, sputO, binK, binI, unK, builtinK, pickK, Nat.reduceBEq, Nat.reduceAdd, Int.reduceBEq, Int.reduceBNe, Int.reduceLT, aPost, resK, tup, tyf, hv.idx el_22 esz_3 h1, hv.load shp_3 h1, hw.idx el_22 esz_3 h2, hw.load shp_3 h2, hb]
        refine hQ2 _ _ _ (hQ _ _ _ ?_)
        have hne : decide (xs = ys) = false := decide_eq_false (fun he => heq (by rw [he]))
        simp (maxSteps := 2000000) only [↓aw_region, ↓aw_skip, ↓aw_seq, ↓aw_block, ↓aw_exit, ↓aw_ret, ↓sops_nil, ↓sops_go, ↓dops_nil, ↓dopsX_nil, ↓dopsR_nil, ↓vdn, vup, extr_20, extr_21, extr_30, extr_31, extr_32, List.map_cons, List.map_nil, cond_true, cond_false, aop, aThen, aBlock, argEnv, ev, sput, sputO, binK, binI, unK, builtinK, pickK, Nat.reduceBEq, Nat.reduceAdd, Int.reduceBEq, Int.reduceBNe, Int.reduceLT, aPost, resK, tup, tyf, hne]
    · obtain rfl : i = xs.length := by omega
      simp (maxSteps := 2000000) only [s25, ↓aw_region, ↓aw_skip, ↓aw_seq, ↓aw_block, ↓aw_exit, ↓aw_ret, ↓sops_nil, ↓sops_go, ↓dops_nil, ↓dopsX_nil, ↓dopsR_nil, ↓vdn, vup, extr_20, extr_21, extr_30, extr_31, extr_32, List.map_cons, List.map_nil, cond_true, cond_false, aop, aThen, aBlock, argEnv, ev, sput, sputO, binK, binI, unK, builtinK, pickK, Nat.reduceBEq, Nat.reduceAdd, Int.reduceBEq, Int.reduceBNe, Int.reduceLT, aPost, resK, tup, tyf, l25_0, Int.lt_irrefl]
      refine hQ2 _ _ _ (hQ _ _ _ ?_)
      have he : decide (xs = ys) = true := decide_eq_true (List.ext_getElem hlen fun k h1 h2 => by
        have := hok k h1
        simpa [List.getD, List.getElem?_eq_getElem h1, List.getElem?_eq_getElem h2] using this)
      simp (maxSteps := 2000000) only [s25, ↓aw_region, ↓aw_skip, ↓aw_seq, ↓aw_block, ↓aw_exit, ↓aw_ret, ↓sops_nil, ↓sops_go, ↓dops_nil, ↓dopsX_nil, ↓dopsR_nil, ↓vdn, vup, extr_20, extr_21, extr_30, extr_31, extr_32, List.map_cons, List.map_nil, cond_true, cond_false, aop, aThen, aBlock, argEnv, ev, sput, sputO, binK, binI, unK, builtinK, pickK, Nat.reduceBEq, Nat.reduceAdd, Int.reduceBEq, Int.reduceBNe, Int.reduceLT, aPost, resK, tup, tyf, if_true, he]
  · have hne : ((xs.length : Int) != ys.length) = true := by simp only [bne_iff_ne, ne_eq]; omega
    have hf : decide (xs = ys) = false := decide_eq_false (fun he => hlen (by rw [he]))
    simp (maxSteps := 2000000) only [s25, ↓aw_region, ↓aw_skip, ↓aw_seq, ↓aw_block, ↓aw_exit, ↓aw_ret, ↓sops_nil, ↓sops_go, ↓dops_nil, ↓dopsX_nil, ↓dopsR_nil, ↓vdn, vup, extr_20, extr_21, extr_30, extr_31, extr_32, List.map_cons, List.map_nil, cond_true, cond_false, aop, aThen, aBlock, argEnv, ev, sput, sputO, binK, binI, unK, builtinK, pickK, Nat.reduceBEq, Nat.reduceAdd, Int.reduceBEq, Int.reduceBNe, Int.reduceLT, aPost, resK, tup, tyf, hv.len, hw.len, hne, hf]
end Go.Proofs.Tryd.Am

namespace Go.Proofs.Tryd
open Go.RowKit Go.Am

set_option maxHeartbeats 1000000 in
theorem tz64_core (x k idx : Nat) (w : World) (hx0 : ((x : Int) == 0) = false)
    (key : IntKind.u64.wrap (bits BinOp.and IntKind.u64 (x : Int) (IntKind.u64.wrap (-(x : Int))) * 285870213051353865) / 288230376151711744 = (idx : Int))
    (hi : idx < 64) (hk : k < 64) (hcell : w.cell? ⟨1, idx, none⟩ = some (.int .u8 k)) :
    Calls prog 106 #[.int .u64 x] w fun e w' => e = .returned (.int .i64 k) ∧ w' = w := by
  go_enter func106, ntmps106
  go_wp2_with (simp only [key])
  go_ret
  exact ⟨rfl, rfl⟩

theorem tz64_zero (w : World) : Calls prog 106 #[.int .u64 0] w fun e w' => e = .returned (.int .i64 64) ∧ w' = w := by
  go_enter func106, ntmps106
  go_wp2
  go_ret
  exact ⟨rfl, rfl⟩
theorem tz64 (x : Nat) (hx : x < 18446744073709551616) (w : World) (hT : x ≠ 0 → TabAt 1 Lib.deBruijn64tab w) :
    Calls prog 106 #[.int .u64 x] w fun e w' => e = .returned (.int .i64 (Lib.ctz 64 x)) ∧ w' = w := by
  by_cases hx0 : x = 0
  · subst hx0; exact tz64_zero w
  · obtain ⟨hlow, hk⟩ := Lib.lowest_bit 64 x hx0 hx
    obtain ⟨hi, htab⟩ := Lib.deBruijn64_at _ hk
    have hcell := hT hx0 _ hi
    rw [htab] at hcell
    exact tz64_core x _ _ w (by simp; omega) (tz64_key x _ hx hx0 hlow) hi hk hcell
theorem tz (x : Nat) (hx : x < 18446744073709551616) (w : World) (hT : x ≠ 0 → TabAt 1 Lib.deBruijn64tab w) :
    Calls prog 94 #[.int .u64 x] w fun e w' => e = .returned (.int .i64 (Lib.ctz 64 x)) ∧ w' = w := by
  have c64 := tz64 x hx w hT
  have e29 : ∀ args w, (callFunc 106 args).run prog w = .ok (.enter 106 args) w := enters_of func106 (by kernel_rfl) rfl
  have hw : IntKind.u64.wrap (x : Int) = (x : Int) := by rw [IntKind.wrap_u64]; omega
  go_enter func94, ntmps94
  go_wp2_with (go_at_fn 106; refine c64.mono ?_; rintro e w' ⟨rfl, hw'⟩; rw [hw'])
  go_ret
  exact ⟨rfl, rfl⟩

theorem and_pred_lt (s : Nat) (h : s ≠ 0) : s &&& (s - 1) < s := Nat.lt_of_le_of_lt Nat.and_le_right (by omega)

/-- What is left of a set, in its box. -/
def boxLeft (B : Nat) (w : World) : Nat := match w.cell? ⟨B, 0, none⟩ with | some (.int _ n) => n.toNat | _ => 0
theorem boxLeft_eq {B s : Nat} {w : World} (h : w.cell? ⟨B, 0, none⟩ = some (.int .i64 s)) : boxLeft B w = s := by simp [boxLeft, h]

attribute [local go_sem] Oper.semAt_some

set_option maxRecDepth 100000 in
set_option maxHeartbeats 2000000 in
theorem players1 (l B s : Nat) (J Jx : List Nat → World → Prop) (W : World) (hs : s < 9223372036854775808) (hB : W.cell? ⟨B, 0, none⟩ = some (.int .i64 s)) (hfz : W.frozen? ⟨B, 0, none⟩ = false)
    (hT : ∀ pre W, J pre W → TabAt 1 Lib.deBruijn64tab W)
    (hst : ∀ pre W v, J pre W → J pre (W.setCell ⟨B, 0, none⟩ v))
    (hY : ∀ pre (x : Nat) W, J pre W → pre ++ [x] <+: Am.bits s → YieldAt Fence.wide 0 prog l #[.int .i64 x] W fun en W' =>
      (en = .returned (.bool true) ∧ J (pre ++ [x]) W' ∧ W'.cell? ⟨B, 0, none⟩ = W.cell? ⟨B, 0, none⟩ ∧ W'.frozen? ⟨B, 0, none⟩ = W.frozen? ⟨B, 0, none⟩) ∨ (en = .returned (.bool false) ∧ Jx (pre ++ [x]) W'))
    (h0 : J [] W) :
    CallsIn Fence.wide 1 prog 93 #[.func (.yield l) #[] #[], .pointer (some ⟨B, 0, none⟩)] W fun en W' => (∃ v, en = .returned v) ∧ (J (Am.bits s) W' ∨ ∃ pre, Jx pre W') := by
  refine callsIn_of_wp func93 rfl trivial ?_ rfl
  simp only [ntmps93, List.size_toArray, List.length_cons, List.length_nil, Nat.reduceAdd, Nat.reduceSub, Array.replicate_succ, Array.replicate_zero, List.push_toArray, List.append_toArray, List.nil_append, List.cons_append]
  have e94 : ∀ args w, (callFunc 94 args).run prog w = .ok (.enter 94 args) w := enters_of func94 (by kernel_rfl) rfl
  gi_wp2
  gi_loopw [3] (fun _ wr => ∃ (pre : List Nat) (t : Nat), t < 9223372036854775808 ∧ Am.bits s = pre ++ Am.bits t ∧ wr.cell? ⟨B, 0, none⟩ = some (.int .i64 t) ∧ wr.frozen? ⟨B, 0, none⟩ = false ∧ J pre wr)
    (fun _ wr => boxLeft B wr)
  case atStart => exact ⟨[], s, hs, rfl, hB, hfz, h0⟩
  case round =>
    obtain ⟨pre, t, ht, hx, hc, hf, hJ⟩ := hrel
    by_cases ht0 : t = 0
    · subst ht0
      gi_wp2
      go_end0
      exact ⟨⟨_, rfl⟩, .inl (by rw [hx, show Am.bits 0 = [] from rfl, List.append_nil]; exact hJ)⟩
    · have hw : IntKind.u64.wrap (t : Int) = (t : Int) := by rw [IntKind.wrap_u64]; omega
      have htz := tz t (by omega) wr (fun _ => hT _ _ hJ)
      have hy := hY pre (Lib.ctz 64 t) wr hJ (by rw [hx, Am.bits_step t ht ht0]; simp)
      have hne : ((t : Int) == 0) = false := by simpa using ht0
      have htz' : CallsIn Fence.wide 0 prog 94 #[.int .u64 t] wr fun e w' => e = .returned (.int .i64 (Lib.ctz 64 t)) ∧ w' = wr := callsIn_wide.2 htz
      obtain ⟨fn, tmps, assign, body, hy1, hR⟩ := hy
      gi_wp2
      refine ⟨trivial, htz'.mono ?_⟩
      rintro e w2 ⟨rfl, rfl⟩
      gi_wp2
      refine hR.mono ?_
      rintro e W3 (⟨rfl, hJ3, hc3, hf3⟩ | ⟨rfl, hJx3⟩)
      · rw [hc] at hc3
        rw [hf] at hf3
        gi_wp2
        have hand : bits BinOp.and IntKind.i64 (t : Int) ((t : Int) - 1) = ((t &&& (t - 1) : Nat) : Int) := by
          have := bitsV_and (a := t) (b := t - 1) ht (by omega)
          rw [← this, show ((t - 1 : Nat) : Int) = (t : Int) - 1 by omega]; rfl
        have hlt := and_pred_lt t ht0
        rw [hand]
        have hcell : (W3.setCell ⟨B, 0, none⟩ (.int .i64 ((t &&& (t - 1) : Nat) : Int))).cell? ⟨B, 0, none⟩ = some (.int .i64 ((t &&& (t - 1) : Nat) : Int)) := World.cell?_setCell_same' _ _ _ (by rw [hc3]; rfl)
        refine ⟨⟨_, _, _, _, _, _, _, _, _, _, _, _, ⟨pre ++ [Lib.ctz 64 t], t &&& (t - 1), by omega, by rw [hx, Am.bits_step t ht ht0]; simp, hcell, by rw [World.frozen?_setCell]; exact hf3, hst _ _ _ hJ3⟩, rfl⟩, ?_⟩
        rw [boxLeft_eq hcell, boxLeft_eq hc]
        exact hlt
      · gi_wp2
        refine bodyPost_ret (results_none rfl _ _ _) rfl ?_
        exact ⟨⟨_, rfl⟩, .inr ⟨_, hJx3⟩⟩

theorem tabAt_of [T : BitTab prog 1] {w : World} (h : ∀ p ∈ Tabs.tabs prog, w.heap[p.1]? = some p.2) : TabAt 1 Lib.deBruijn64tab w := by
  intro j hj
  have := h (1, _) (by rw [T.eq]; exact List.mem_singleton.2 rfl)
  simp only [World.cell?, this]
  simp [hj]

theorem bitIter [BitTab prog 1] : BitIter prog 93 := by
  refine ⟨enters_of func93 (by kernel_rfl) rfl, ?_⟩
  intro r l B s J Jx W hs hB hfz hT hst hY h0
  cases r with
  | none => exact players1 l B s J Jx W hs hB hfz (fun pre W hJ => tabAt_of (hT pre W hJ)) hst hY h0
  | some l0 => exact CallsIn.inRound l0 (players1 l B s J Jx W hs hB hfz (fun pre W hJ => tabAt_of (hT pre W hJ)) hst hY h0)
#print axioms bitIter
end Go.Proofs.Tryd

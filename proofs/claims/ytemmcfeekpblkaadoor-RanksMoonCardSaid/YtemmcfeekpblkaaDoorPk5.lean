/-
  ranks: the table of math/bits, out of what the statement grants.
  Plain theory: players without a cycle.
  ranks, plain: who is reached; the parts of a tournament.
  ranks, plain: in a tournament whose players all reach each other each stands in a round of every length (Moon).
  Printed by gen.py: the code of some functions, without what no step looks at; held against the program's own by the kernel.
  Printed by gen.py: facts on the types of this seat, asked of the kernel.
  Printed by gen.py: the code of some functions, without what no step looks at; held against the program's own by the kernel.
  ranks: whether a slice is a tournament: the two functions that say so.
  ranks: the small functions: beats, all, players.
  The seat's bits: TrailingZeros64 and TrailingZeros of math/bits, on the model's own worlds.
-/
import Derived.Test.YtemmcfeekpblkaaDoorPk4
import Derived.Test.YtemmcfeekpblkaaDoorRows
import Derived.Test.YtemmcfeekpblkaaDoorProg
import Derived.MakeChecks
import Derived.Test.YtemmcfeekpblkaaDoorPk3
import Derived.KernelRfl
import Derived.Shelf.Abstract
import Derived.Shelf.Spec.TrailingZeros
import Derived.TacticsInMore
import Derived.LoopNIn
import Derived.LoopIn
set_option linter.all false
namespace Go.Proofs.YtemmcfeekpblkaaDoor
open Go Go.Am Go.ChangeShapes Go.WideShapes Go.ChangeAt Go.WideMaps Go.WideElems Go.RowKit

theorem row_bytes {H : Type} {enc : TypeId × Value → H} {P : Program} {w : World} {base : Nat} {spare : Nat → Bool} {held : Bool} {fuel : Nat} {t e : TypeId} {n : Nat} {cs : List Value} {ns : List Nat} {p : List MemPlace}
    (ht : P.underlying t = some (.array n e)) (he : P.underlying e = some (.int .u8)) (hc : P.cellsOf e = 1) (hct : P.cellsOf t = n) (h : DataW.trod enc P w base spare held fuel t cs = some (.agg (ns.map fun (k : Nat) => .lit (.int .u8 k)), p)) : cs = ns.map fun (k : Nat) => Value.int .u8 k := by
  obtain ⟨xs, m, rfl, hx, hlen, hn, hel⟩ := DataW.trod_array ht h
  simp only [Prod.mk.injEq, DataW.agg.injEq] at hx
  have hns : ns.length = n := by rw [← hn, ← List.length_map (f := fun (x : DataW H × List MemPlace) => x.1), ← hx.1, List.length_map]
  apply List.ext_getElem (by rw [hlen, hct, List.length_map, hns])
  intro i h1 h2
  have hi : i < n := by rw [hlen, hct] at h1; exact h1
  have h3 := hel i hi
  rw [hc, Nat.mul_one, List.getElem?_eq_getElem (by omega)] at h3
  obtain ⟨k, g1, g2, _⟩ := DataW.trod_int he h3
  have h4 : (xs.map (·.1))[i]? = some (xs[i]'(by omega)).1 := by simp [List.getElem?_map, List.getElem?_eq_getElem (show i < xs.length by omega)]
  rw [← hx.1, g2] at h4
  rw [List.drop_eq_getElem_cons h1, List.take_succ_cons, List.take_zero] at g1
  have g1 := (List.cons.inj g1).1
  simp at h4
  obtain ⟨a, ha, hk⟩ := h4
  rw [g1, List.getElem_map]
  have : ns[i]'(by omega) = a := by
    rw [List.getElem?_eq_getElem (show i < ns.length by omega)] at ha; exact Option.some.inj ha
  rw [this, ← hk]

abbrev laid2 : List (String × DataW Unit) := [("math/bits.deBruijn32tab", Rows.laid_math_bits_deBruijn32tab), ("math/bits.deBruijn64tab", Rows.laid_math_bits_deBruijn64tab)]

theorem tab_of {W : World} (h : laidMetH Tryd.prog laid2 W) : ∃ e fr, W.heap[1]? = some (.cells (Lib.deBruijn64tab.map fun (n : Nat) => Value.int .u8 n).toArray e fr) := by
  rw [MakeChecks.laidMetH_plain _ _ _ (by kernel_rfl)] at h
  obtain ⟨ps, ⟨g0, t0, cs0, f0, p0, q0, hg0, ht0, hv0, hd0, ⟨g1, t1, cs1, f1, p1, q1, hg1, ht1, hv1, hd1, _, _⟩, _⟩, _, _⟩ := h
  obtain rfl := Option.some.inj ((show Tryd.prog.globalNamed "math/bits.deBruijn64tab" = some 1 by kernel_rfl).symm.trans hg1)
  obtain rfl := Option.some.inj ((show (Tryd.prog.globals[1]?).map (·.type) = some 103 by kernel_rfl).symm.trans ht1)
  have hrow := row_bytes (ns := Lib.deBruijn64tab) Tryd.underlying103 Tryd.underlying5 (by kernel_rfl) (by kernel_rfl) hd1
  simp only [World.var?, hg1, Option.bind_some] at hv1
  split at hv1
  · rename_i cs e fr hh
    cases hv1
    exact ⟨e, fr, by rw [hh, ← hrow]⟩
  · cases hv1
end Go.Proofs.YtemmcfeekpblkaaDoor

namespace Clr
open Go.Am

theorem perm_of_nodup {α : Type} {l1 l2 : List α} (h1 : l1.Nodup) (h2 : l2.Nodup) (h : ∀ a, a ∈ l1 ↔ a ∈ l2) : l1.Perm l2 := by
  classical
  induction l1 generalizing l2 with
  | nil =>
    cases l2 with
    | nil => exact List.Perm.nil
    | cons b l => exact absurd ((h b).2 (by simp)) (by simp)
  | cons a l ih =>
    have ha : a ∈ l2 := (h a).1 (by simp)
    obtain ⟨s, t, rfl⟩ := List.append_of_mem ha
    refine List.Perm.trans ?_ (List.perm_middle).symm
    refine List.Perm.cons a (ih (List.nodup_cons.1 h1).2 ?_ ?_)
    · exact (List.nodup_cons.1 ((List.perm_middle).nodup_iff.1 h2)).2
    · intro b
      have hb := h b
      simp only [List.mem_cons, List.mem_append] at hb ⊢
      have hna : a ∉ l := (List.nodup_cons.1 h1).1
      have hnt : a ∉ s ++ t := (List.nodup_cons.1 ((List.perm_middle).nodup_iff.1 h2)).1
      constructor
      · intro hl
        have hba : b ≠ a := fun e => hna (e ▸ hl)
        rcases hb.1 (.inr hl) with h | h | h
        · exact .inl h
        · exact absurd h hba
        · exact .inr h
      · intro hst
        have hba : b ≠ a := fun e => hnt (e ▸ List.mem_append.2 hst)
        rcases hb.2 (hst.elim .inl fun h => .inr (.inr h)) with h | h
        · exact absurd h hba
        · exact h

/-- All cycles, each from its least player on. -/
def cycles (n : Nat) (b : Nat → Nat → Bool) : List (Nat × Nat × Nat) :=
  (List.range n).flatMap fun a => ((List.range n).filter (b a)).flatMap fun x => ((List.range n).filter (b x)).flatMap fun c => if a < x ∧ a < c ∧ b c a = true then [(a, x, c)] else []
/-- Whether a set has all of a cycle. -/
def has (s : Nat) (c : Nat × Nat × Nat) : Bool := s.testBit c.1 && s.testBit c.2.1 && s.testBit c.2.2
/-- A tournament. -/
def Trn (n : Nat) (b : Nat → Nat → Bool) : Prop := (∀ i j, i < n → j < n → i ≠ j → b i j = !b j i) ∧ ∀ i, i < n → b i i = false
def Acy (b : Nat → Nat → Bool) (l : List Nat) : Prop := ∀ p ∈ l, ∀ q ∈ l, ∀ r ∈ l, b p q = true → b q r = true → b r p = true → False

variable {n : Nat} {b : Nat → Nat → Bool}
/-- The set of a list. -/
def setL (l : List Nat) : Nat := l.foldl (fun s x => s ||| 2 ^ x) 0
theorem fold_bit : ∀ (l : List Nat) (s w : Nat), (l.foldl (fun s x => s ||| 2 ^ x) s).testBit w = (s.testBit w || l.contains w)
  | [], s, w => by simp
  | x :: l, s, w => by
    rw [List.foldl_cons, fold_bit l, Nat.testBit_or, Nat.testBit_two_pow, List.contains_cons, Bool.or_assoc]
    congr 2
    by_cases h : x = w
    · subst h; simp
    · rw [decide_eq_false h]; simp [Ne.symm h]
theorem setL_bit (l : List Nat) (w : Nat) : (setL l).testBit w = true ↔ w ∈ l := by
  rw [setL, fold_bit, Nat.zero_testBit, Bool.false_or]; simp
theorem setL_lt {l : List Nat} (hl : ∀ x ∈ l, x < n) : setL l < 2 ^ n := Nat.lt_pow_two_of_testBit _ fun j hj => by
  cases h : (setL l).testBit j with
  | false => rfl
  | true => have := hl j ((setL_bit l j).1 h); omega
theorem len_le {l : List Nat} (hl : ∀ x ∈ l, x < n) (hd : l.Nodup) : l.length ≤ n := by
  have h1 : l.Perm ((List.range n).filter fun x => l.contains x) := perm_of_nodup hd (List.nodup_range.filter _) fun x => by
    simp only [List.mem_filter, List.mem_range, List.contains_iff_mem]
    exact ⟨fun h => ⟨hl x h, h⟩, fun h => h.2⟩
  rw [h1.length_eq]
  have := List.length_filter_le (fun x => l.contains x) (List.range n)
  rwa [List.length_range] at this
/-- One before, or behind, all of some without a cycle. -/
theorem acy_top (ht : Trn n b) {x : Nat} {l : List Nat} (hx : x < n) (hl : ∀ y ∈ l, y < n) (ha : Acy b l) (h : (∀ y ∈ l, b x y = true) ∨ ∀ y ∈ l, b x y = false) (hn : x ∉ l) : Acy b (x :: l) := by
  have hxx := ht.2 x hx
  have hsw : ∀ y ∈ l, b y x = !b x y := fun y hy => ht.1 y x (hl y hy) hx fun e => hn (e ▸ hy)
  intro p hp q hq r hr h1 h2 h3
  have key : ∀ u v w : Nat, u = x → v ∈ x :: l → w ∈ x :: l → b u v = true → b v w = true → b w u = true → False := by
    rintro u v w rfl hv hw g1 g2 g3
    have hv' : v ∈ l := (List.mem_cons.1 hv).resolve_left fun e => by rw [e, hxx] at g1; cases g1
    have hw' : w ∈ l := (List.mem_cons.1 hw).resolve_left fun e => by rw [e, hxx] at g3; cases g3
    rcases h with h | h
    · rw [hsw w hw', h w hw'] at g3; cases g3
    · rw [h v hv'] at g1; cases g1
  by_cases hpx : p = x
  · exact key p q r hpx hq hr h1 h2 h3
  · by_cases hqx : q = x
    · exact key q r p hqx hr hp h2 h3 h1
    · by_cases hrx : r = x
      · exact key r p q hrx hp hq h3 h1 h2
      · exact ha p ((List.mem_cons.1 hp).resolve_left hpx) q ((List.mem_cons.1 hq).resolve_left hqx) r ((List.mem_cons.1 hr).resolve_left hrx) h1 h2 h3
/-- Of a list half stands on one side. -/
theorem side (f : Nat → Bool) : ∀ l : List Nat, (l.filter f).length + (l.filter fun x => !f x).length = l.length
  | [] => rfl
  | x :: l => by
    have := side f l
    rw [List.filter_cons, List.filter_cons]
    cases f x <;> simp <;> omega
/-- Of 2 k - 1 others at least k on one side of x: then those without a cycle among k go with x. -/
theorem grow (ht : Trn n b) {k m : Nat} (hk : ∀ l : List Nat, (∀ x ∈ l, x < n) → l.Nodup → k ≤ l.length → ∃ l', (∀ x ∈ l', x ∈ l) ∧ l'.Nodup ∧ Acy b l' ∧ l'.length = m) {l : List Nat} (hl : ∀ x ∈ l, x < n) (hd : l.Nodup) (hlen : 2 * k ≤ l.length) (hk0 : 0 < k) :
    ∃ l', (∀ x ∈ l', x ∈ l) ∧ l'.Nodup ∧ Acy b l' ∧ l'.length = m + 1 := by
  cases l with
  | nil => simp at hlen; omega
  | cons x l =>
    have hx := List.nodup_cons.1 hd
    have hs := side (b x) l
    simp only [List.length_cons] at hlen
    have hx' := hl x (by simp)
    have hl' : ∀ y ∈ l, y < n := fun y hy => hl y (by simp [hy])
    have fin : ∀ F : List Nat, (∀ y ∈ F, y ∈ l) → F.Nodup → ((∀ y ∈ F, b x y = true) ∨ ∀ y ∈ F, b x y = false) → k ≤ F.length → ∃ l', (∀ y ∈ l', y ∈ x :: l) ∧ l'.Nodup ∧ Acy b l' ∧ l'.length = m + 1 := by
      intro F h1 h2 h3 h4
      obtain ⟨l', g1, g2, g3, g4⟩ := hk F (fun y hy => hl' y (h1 y hy)) h2 h4
      have hxl : x ∉ l' := fun h => hx.1 (h1 x (g1 x h))
      refine ⟨x :: l', fun y hy => ?_, List.nodup_cons.2 ⟨hxl, g2⟩, acy_top ht hx' (fun y hy => hl' y (h1 y (g1 y hy))) g3 (h3.imp (fun h y hy => h y (g1 y hy)) fun h y hy => h y (g1 y hy)) hxl, by simp [g4]⟩
      rcases List.mem_cons.1 hy with rfl | h
      · simp
      · simp [h1 y (g1 y h)]
    by_cases hA : k ≤ (l.filter (b x)).length
    · exact fin _ (fun y hy => (List.mem_filter.1 hy).1) (hx.2.filter _) (.inl fun y hy => (List.mem_filter.1 hy).2) hA
    · exact fin (l.filter fun y => !b x y) (fun y hy => (List.mem_filter.1 hy).1) (hx.2.filter _) (.inr fun y hy => by simpa using (List.mem_filter.1 hy).2) (by omega)
end Clr

namespace Rch
/-- A chain of beatings. -/
inductive Rc (t : Nat → Nat) (i : Nat) : Nat → Prop
  | refl : Rc t i i
  | step {j k : Nat} (h : Rc t i j) (hb : (t j).testBit k = true) : Rc t i k
theorem Rc.trans {t : Nat → Nat} {i j k : Nat} (h1 : Rc t i j) (h2 : Rc t j k) : Rc t i k := by
  induction h2 with
  | refl => exact h1
  | step _ hb ih => exact ih.step hb
theorem countP_lt {p q : Nat → Bool} : ∀ {l : List Nat} {x : Nat}, (∀ y ∈ l, p y = true → q y = true) → x ∈ l → p x = false → q x = true → l.countP p < l.countP q
  | a :: l, x, h, hx, h1, h2 => by
    have hle : l.countP p ≤ l.countP q := List.countP_mono_left fun y hy => h y (by simp [hy])
    rw [List.countP_cons, List.countP_cons]
    rcases List.mem_cons.1 hx with rfl | hx
    · rw [h1, h2]; simp; omega
    · have ih := countP_lt (fun y hy => h y (by simp [hy])) hx h1 h2
      have : (if p a = true then 1 else 0) ≤ if q a = true then 1 else 0 := by
        by_cases ha : p a = true
        · rw [if_pos ha, if_pos (h a (by simp) ha)]; exact Nat.le_refl _
        · rw [if_neg ha]; exact Nat.zero_le _
      omega
def cnt (n s : Nat) : Nat := (List.range n).countP s.testBit
theorem cnt_le (n s : Nat) : cnt n s ≤ n := by
  have := List.countP_le_length (p := s.testBit) (l := List.range n)
  rwa [List.length_range] at this
/-- What grows round by round, by all that those in it beat, has all that is reached behind n rounds. -/
theorem grown {t A : Nat → Nat} {n i : Nat} (h0 : (A 0).testBit i = true) (hlt : ∀ k, A k < 2 ^ n) (mono : ∀ k x, (A k).testBit x = true → (A (k + 1)).testBit x = true)
    (step : ∀ k j x, (A k).testBit j = true → (t j).testBit x = true → (A (k + 1)).testBit x = true) (det : ∀ k, A (k + 1) = A k → ∀ m, A (k + m) = A k) :
    ∀ j x, (A n).testBit j = true → (t j).testBit x = true → (A n).testBit x = true := by
  have hb : ∀ k x, (A k).testBit x = true → x < n := fun k x hx => by
    apply Classical.byContradiction
    intro hn
    rw [Nat.testBit_lt_two_pow (Nat.lt_of_lt_of_le (hlt k) (Nat.pow_le_pow_right (by decide) (Nat.le_of_not_lt hn)))] at hx
    cases hx
  have main : ∀ k, (∃ m, m < k ∧ A (m + 1) = A m) ∨ k + 1 ≤ cnt n (A k) := by
    intro k
    induction k with
    | zero =>
      right
      have : i ∈ List.range n := List.mem_range.2 (hb 0 i h0)
      exact List.countP_pos_iff.2 ⟨i, this, h0⟩
    | succ k ih =>
      rcases ih with ⟨m, hm, he⟩ | ih
      · exact .inl ⟨m, by omega, he⟩
      · by_cases he : A (k + 1) = A k
        · exact .inl ⟨k, by omega, he⟩
        · right
          obtain ⟨x, hx⟩ : ∃ x, (A k).testBit x ≠ (A (k + 1)).testBit x := by
            apply Classical.byContradiction
            intro hn
            exact he (Nat.eq_of_testBit_eq fun x => (Classical.byContradiction fun h => hn ⟨x, h⟩ : (A k).testBit x = (A (k + 1)).testBit x).symm)
          have h1 : (A k).testBit x = false := by
            cases hh : (A k).testBit x with
            | false => rfl
            | true => rw [hh, mono k x hh] at hx; exact absurd rfl hx
          have h2 : (A (k + 1)).testBit x = true := by
            cases hh : (A (k + 1)).testBit x with
            | true => rfl
            | false => rw [h1, hh] at hx; exact absurd rfl hx
          have := countP_lt (p := (A k).testBit) (q := (A (k + 1)).testBit) (fun y _ => mono k y) (List.mem_range.2 (hb _ x h2)) h1 h2
          exact Nat.lt_of_le_of_lt ih this
  rcases main n with ⟨m, hm, he⟩ | h
  · have e1 := det m he (n - m)
    have e2 : m + (n - m) = n := by omega
    rw [e2] at e1
    intro j x hj hx
    rw [e1] at hj ⊢
    rw [← he]; exact step m j x hj hx
  · have := cnt_le n (A n); omega

/-! ### The parts -/
section
variable {n : Nat} {R : Nat → Nat}
def topL (n : Nat) (R : Nat → Nat) (left : Nat) : List Nat := (List.range n).filter fun j => left.testBit j && (R j &&& left == left)
def cps (n : Nat) (R : Nat → Nat) : Nat → Nat → List Nat
  | 0, _ => []
  | k + 1, left => if left = 0 then [] else Clr.setL (topL n R left) :: cps n R k (left ^^^ Clr.setL (topL n R left))
/-- Those with one reach. -/
def prt (n : Nat) (R : Nat → Nat) (r : Nat) : Nat := Clr.setL ((List.range n).filter fun j => R j == r)
structure Nest (n : Nat) (R : Nat → Nat) : Prop where
  lt : ∀ i, i < n → R i < 2 ^ n
  self : ∀ i, i < n → (R i).testBit i = true
  sub : ∀ i j x, i < n → (R i).testBit j = true → (R j).testBit x = true → (R i).testBit x = true
  lin : ∀ i j, i < n → j < n → (R i).testBit j = true ∨ (R j).testBit i = true
theorem Nest.mem (h : Nest n R) {i j : Nat} (hi : i < n) (hj : (R i).testBit j = true) : j < n := by
  apply Classical.byContradiction
  intro hn
  rw [Nat.testBit_lt_two_pow (Nat.lt_of_lt_of_le (h.lt i hi) (Nat.pow_le_pow_right (by decide) (Nat.le_of_not_lt hn)))] at hj
  cases hj
/-- The parts in the order of a list of all reaches, the greater ones first. -/
theorem cps_eq (h : Nest n R) : ∀ (L : List Nat) (k left : Nat), L.length ≤ k → left < 2 ^ n → L.Nodup → (∀ r ∈ L, ∃ i, i < n ∧ left.testBit i = true ∧ R i = r) → (∀ i, i < n → left.testBit i = true → R i ∈ L) →
    (∀ i x, i < n → left.testBit i = true → (R i).testBit x = true → left.testBit x = true) → L.Pairwise (fun a b => cnt n b ≤ cnt n a) → cps n R k left = L.map (prt n R)
  | [], k, left, _, hlt, _, _, hin, _, _ => by
    have hz : left = 0 := Nat.eq_of_testBit_eq fun x => by
      rw [Nat.zero_testBit]
      cases hx : left.testBit x with
      | false => rfl
      | true =>
        have hxn : x < n := by
          apply Classical.byContradiction
          intro hn
          rw [Nat.testBit_lt_two_pow (Nat.lt_of_lt_of_le hlt (Nat.pow_le_pow_right (by decide) (Nat.le_of_not_lt hn)))] at hx
          cases hx
        have := hin x hxn hx
        cases this
    cases k with
    | zero => rfl
    | succ k => rw [cps, if_pos hz]; rfl
  | r :: L, k + 1, left, hk, hlt, hnd, hex, hin, hcl, hpw => by
    have hbl : ∀ x, left.testBit x = true → x < n := fun x hx => by
      apply Classical.byContradiction
      intro hn
      rw [Nat.testBit_lt_two_pow (Nat.lt_of_lt_of_le hlt (Nat.pow_le_pow_right (by decide) (Nat.le_of_not_lt hn)))] at hx
      cases hx
    obtain ⟨i0, hi0, hi0l, rfl⟩ := hex r (by simp)
    obtain ⟨hp1, hp2⟩ := List.pairwise_cons.1 hpw
    obtain ⟨hn1, hn2⟩ := List.nodup_cons.1 hnd
    -- left is just what is reached from i0
    have hle : ∀ x, left.testBit x = true → (R i0).testBit x = true := fun x hx => by
      have hxn := hbl x hx
      rcases h.lin i0 x hi0 hxn with g | g
      · exact g
      · -- i0 is reached from x, so R x has all of R i0, and no more
        apply Classical.byContradiction
        intro hng
        have hlt2 : cnt n (R i0) < cnt n (R x) := countP_lt (fun y _ hy => h.sub x i0 y hxn g hy) (List.mem_range.2 hxn) (by simpa using hng) (h.self x hxn)
        rcases List.mem_cons.1 (hin x hxn hx) with e | hm
        · rw [e] at hlt2; omega
        · have := hp1 _ hm; omega
    have hge : ∀ x, (R i0).testBit x = true → left.testBit x = true := fun x hx => hcl i0 x hi0 hi0l hx
    have heq : left = R i0 := Nat.eq_of_testBit_eq fun x => by rw [Bool.eq_iff_iff]; exact ⟨hle x, hge x⟩
    have htop : topL n R left = (List.range n).filter fun j => R j == R i0 := by
      rw [topL]
      refine List.filter_congr fun j hj => ?_
      have hjn := List.mem_range.1 hj
      rw [Bool.eq_iff_iff, Bool.and_eq_true, beq_iff_eq, beq_iff_eq]
      constructor
      · rintro ⟨g1, g2⟩
        refine Nat.eq_of_testBit_eq fun x => ?_
        rw [Bool.eq_iff_iff]
        constructor
        · intro hx; exact hle x (hcl j x hjn g1 hx)
        · intro hx
          have := congrArg (fun z => z.testBit x) g2
          simp only [Nat.testBit_and, hge x hx, Bool.and_true] at this
          exact this
      · intro e
        refine ⟨hge j (by rw [← e]; exact h.self j hjn), ?_⟩
        rw [e, heq, Nat.and_self]
    have hne : left ≠ 0 := fun e => by rw [e, Nat.zero_testBit] at hi0l; cases hi0l
    rw [cps, if_neg hne, htop, List.map_cons, prt]
    congr 1
    have hbit : ∀ x, (left ^^^ Clr.setL ((List.range n).filter fun j => R j == R i0)).testBit x = (left.testBit x && !(R x == R i0)) := fun x => by
      rw [Nat.testBit_xor]
      have hs : (Clr.setL ((List.range n).filter fun j => R j == R i0)).testBit x = (decide (x < n) && (R x == R i0)) := by
        rw [Bool.eq_iff_iff, Clr.setL_bit, List.mem_filter, List.mem_range, Bool.and_eq_true, decide_eq_true_eq]
      rw [hs]
      cases hl : left.testBit x with
      | true => rw [decide_eq_true (hbl x hl)]; cases (R x == R i0) <;> rfl
      | false =>
        cases hr : (R x == R i0) with
        | false => simp
        | true =>
          by_cases hxn : x < n
          · have := hge x (by rw [← beq_iff_eq.1 hr]; exact h.self x hxn)
            rw [hl] at this; cases this
          · rw [decide_eq_false hxn]; rfl
    refine cps_eq h L k _ (by simpa using hk) (Nat.xor_lt_two_pow hlt ?_) hn2 (fun r hr => ?_) (fun i hi hil => ?_) (fun i x hi hil hx => ?_) hp2
    · refine Nat.lt_pow_two_of_testBit _ fun x hx => ?_
      cases hb : (Clr.setL ((List.range n).filter fun j => R j == R i0)).testBit x with
      | false => rfl
      | true =>
        rw [Clr.setL_bit, List.mem_filter, List.mem_range] at hb
        omega
    · obtain ⟨i, hi, hil, rfl⟩ := hex r (by simp [hr])
      refine ⟨i, hi, ?_, rfl⟩
      rw [hbit, hil]
      have : R i ≠ R i0 := fun e => hn1 (e ▸ hr)
      simp [this]
    · rw [hbit, Bool.and_eq_true] at hil
      have hne : R i ≠ R i0 := by simpa using hil.2
      exact (List.mem_cons.1 (hin i hi hil.1)).resolve_left hne
    · rw [hbit, Bool.and_eq_true] at hil ⊢
      have hne : R i ≠ R i0 := by simpa using hil.2
      refine ⟨hcl i x hi hil.1 hx, ?_⟩
      simp only [Bool.not_eq_true', beq_eq_false_iff_ne, ne_eq]
      intro e
      have hxn := h.mem hi hx
      refine hne (Nat.eq_of_testBit_eq fun y => ?_)
      rw [Bool.eq_iff_iff]
      constructor
      · intro hy; exact hle y (hcl i y hi hil.1 hy)
      · intro hy; rw [← e] at hy; exact h.sub i x y hi hx hy
  | _ :: _, 0, _, hk, _, _, _, _, _, _ => by simp at hk
end
end Rch

namespace Mn
/-- A path from a through l to z. -/
def Pth (t : Nat → Nat → Bool) : Nat → List Nat → Nat → Prop
  | a, [], z => t a z = true
  | a, x :: l, z => t a x = true ∧ Pth t x l z
inductive Rch (t : Nat → Nat → Bool) (n i : Nat) : Nat → Prop
  | refl : Rch t n i i
  | step {j k : Nat} (h : Rch t n i j) (hj : j < n) (hk : k < n) (hb : t j k = true) : Rch t n i k
structure Trn (t : Nat → Nat → Bool) (n : Nat) : Prop where
  ne : ∀ i j, i < n → j < n → i ≠ j → t i j = !t j i
  st : ∀ i j, i < n → j < n → Rch t n i j
variable {t : Nat → Nat → Bool} {n : Nat}
theorem Rch.closed {S : Nat → Prop} (hS : ∀ j k, j < n → k < n → S j → t j k = true → S k) {i j : Nat} (h : Rch t n i j) (hi : S i) : S j := by
  induction h with
  | refl => exact hi
  | step _ hj hk hb ih => exact hS _ _ hj hk ih hb
theorem ins2 {u : Nat} (htr : ∀ x, x ≠ u → x < n → t u x = !t x u) : ∀ (l : List Nat) (a z : Nat), (∀ x ∈ l, x ≠ u ∧ x < n) → Pth t a l z → t a u = true → ((∃ c ∈ l, t u c = true) ∨ t u z = true) → ∃ l', l'.Perm (u :: l) ∧ Pth t a l' z
  | [], a, z, _, _, h1, h2 => by
    rcases h2 with ⟨c, hc, _⟩ | h2
    · cases hc
    · exact ⟨[u], List.Perm.refl _, h1, h2⟩
  | x :: l, a, z, hx, hp, h1, h2 => by
    have hxu := hx x (by simp)
    cases hux : t u x with
    | true => exact ⟨u :: x :: l, List.Perm.refl _, h1, hux, hp.2⟩
    | false =>
      have hxu2 : t x u = true := by have := htr x hxu.1 hxu.2; rw [hux] at this; simpa using this.symm
      obtain ⟨l', q1, q2⟩ := ins2 htr l x z (fun y hy => hx y (by simp [hy])) hp.2 hxu2 (by
        rcases h2 with ⟨c, hc, h⟩ | h2
        · rcases List.mem_cons.1 hc with rfl | hc
          · rw [hux] at h; cases h
          · exact .inl ⟨c, hc, h⟩
        · exact .inr h2)
      exact ⟨x :: l', (q1.cons x).trans (List.Perm.swap u x l), hp.1, q2⟩
theorem ins3 {u : Nat} (htr : ∀ x, x ≠ u → x < n → t u x = !t x u) : ∀ (l : List Nat) (a z : Nat), (∀ x ∈ l, x ≠ u ∧ x < n) → Pth t a l z → t u z = true → ((∃ c ∈ l, t c u = true) ∨ t a u = true) → ∃ l', l'.Perm (u :: l) ∧ Pth t a l' z
  | l, a, z, hx, hp, h1, .inr h2 => ins2 htr l a z hx hp h2 (.inr h1)
  | [], a, z, _, _, _, .inl ⟨c, hc, _⟩ => by cases hc
  | x :: l, a, z, hx, hp, h1, .inl ⟨c, hc, h⟩ => by
    obtain ⟨l', q1, q2⟩ := ins3 htr l x z (fun y hy => hx y (by simp [hy])) hp.2 h1 (by
      rcases List.mem_cons.1 hc with rfl | hc
      · exact .inr h
      · exact .inl ⟨c, hc, h⟩)
    exact ⟨x :: l', (q1.cons x).trans (List.Perm.swap u x l), hp.1, q2⟩
theorem base (h : Trn t n) {v : Nat} (hv : v < n) (hn : 3 ≤ n) (hi : ∀ i, t i i = false) : ∃ l, l.length = 2 ∧ (v :: l).Nodup ∧ (∀ x ∈ v :: l, x < n) ∧ Pth t v l v := by
  by_cases hex : ∃ x y, x < n ∧ y < n ∧ t v x = true ∧ t x y = true ∧ t y v = true
  · obtain ⟨x, y, hx, hy, h1, h2, h3⟩ := hex
    have n1 : v ≠ x := fun e => by rw [← e, hi] at h1; cases h1
    have n2 : x ≠ y := fun e => by rw [← e, hi] at h2; cases h2
    have n3 : v ≠ y := fun e => by rw [← e, hi] at h3; cases h3
    exact ⟨[x, y], rfl, by simp [n1, n2, n3], by simp [hv, hx, hy], h1, h2, h3⟩
  · exfalso
    have hcl : ∀ j k, j < n → k < n → t v j = true → t j k = true → t v k = true := fun j k hj hk h1 h2 => by
      by_cases hkv : k = v
      · have hjv : j ≠ v := fun e => by rw [e, hi] at h1; cases h1
        have := h.ne v j hv hj (Ne.symm hjv)
        rw [hkv] at h2
        rw [h1, h2] at this; cases this
      · have := h.ne v k hv hk (Ne.symm hkv)
        cases hkk : t k v with
        | false => rw [hkk] at this; exact this
        | true => exact absurd ⟨j, k, hj, hk, h1, h2, hkk⟩ hex
    by_cases ho : ∃ x, x < n ∧ t v x = true
    · obtain ⟨x, hx, h1⟩ := ho
      have hvv : t v v = true := (h.st x v hx hv).closed (S := fun x => t v x = true) hcl h1
      rw [hi v] at hvv; cases hvv
    · obtain ⟨w, hw, hwv⟩ : ∃ w, w < n ∧ w ≠ v := by
        by_cases h0 : v = 0
        · exact ⟨1, by omega, by omega⟩
        · exact ⟨0, by omega, by omega⟩
      have := (h.st v w hv hw).closed (S := fun x => x = v) (fun j k hj hk hjv hb => absurd ⟨k, hk, by rw [← hjv]; exact hb⟩ ho) rfl
      exact hwv this
theorem nodup_full {l : List Nat} (hd : l.Nodup) (hl : ∀ x ∈ l, x < n) (hlen : l.length < n) : ∃ u, u < n ∧ u ∉ l := by
  apply Classical.byContradiction
  intro hno
  have hin : ∀ u, u < n → u ∈ l := fun u hu => Classical.byContradiction fun h => hno ⟨u, hu, h⟩
  have : (List.range n).Perm l := Clr.perm_of_nodup List.nodup_range hd fun x => by rw [List.mem_range]; exact ⟨hin x, hl x⟩
  have := this.length_eq
  rw [List.length_range] at this; omega
theorem more (h : Trn t n) (hi : ∀ i, t i i = false) {v : Nat} {l : List Nat} (hd : (v :: l).Nodup) (hl : ∀ x ∈ v :: l, x < n) (hp : Pth t v l v) (h2 : 2 ≤ l.length) (hlen : l.length + 1 < n) :
    ∃ l', l'.length = l.length + 1 ∧ (v :: l').Nodup ∧ (∀ x ∈ v :: l', x < n) ∧ Pth t v l' v := by
  have hv := hl v (by simp)
  by_cases hex : ∃ u, u < n ∧ u ∉ v :: l ∧ (∃ p ∈ v :: l, t p u = true) ∧ ∃ q ∈ v :: l, t u q = true
  · obtain ⟨u, hu, hul, ⟨p, hp1, hp2⟩, q, hq1, hq2⟩ := hex
    have hx : ∀ x ∈ l, x ≠ u ∧ x < n := fun x hx => ⟨fun e => hul (by rw [← e]; simp [hx]), hl x (by simp [hx])⟩
    have htr : ∀ x, x ≠ u → x < n → t u x = !t x u := fun x hxu hxn => h.ne u x hu hxn (Ne.symm hxu)
    have huv : v ≠ u := fun e => hul (by simp [e])
    obtain ⟨l', q1, q2⟩ : ∃ l', l'.Perm (u :: l) ∧ Pth t v l' v := by
      cases hvu : t v u with
      | true =>
        refine ins2 htr l v v hx hp hvu ?_
        rcases List.mem_cons.1 hq1 with rfl | hq1
        · exact .inr hq2
        · exact .inl ⟨q, hq1, hq2⟩
      | false =>
        have : t u v = true := by rw [htr v huv hv, hvu]; rfl
        refine ins3 htr l v v hx hp this ?_
        rcases List.mem_cons.1 hp1 with rfl | hp1
        · exact .inr hp2
        · exact .inl ⟨p, hp1, hp2⟩
    have hperm : (v :: l').Perm (u :: v :: l) := (q1.cons v).trans (List.Perm.swap u v l)
    refine ⟨l', by rw [q1.length_eq]; rfl, hperm.nodup_iff.2 (List.nodup_cons.2 ⟨hul, hd⟩), fun x hx => ?_, q2⟩
    rcases List.mem_cons.1 (hperm.mem_iff.1 hx) with rfl | hx
    · exact hu
    · exact hl x hx
  · -- all outside are beaten by all, or beat all
    have hside : ∀ u, u < n → u ∉ v :: l → (∀ p ∈ v :: l, t p u = true ∧ t u p = false) ∨ ∀ p ∈ v :: l, t p u = false ∧ t u p = true := fun u hu hul => by
      have hne : ∀ p ∈ v :: l, t u p = !t p u := fun p hp => h.ne u p hu (hl p hp) fun e => hul (by rw [e]; exact hp)
      cases hvu : t v u with
      | true =>
        left
        intro p hpm
        cases hpu : t p u with
        | true => exact ⟨rfl, by rw [hne p hpm, hpu]; rfl⟩
        | false => exact absurd ⟨u, hu, hul, ⟨v, by simp, hvu⟩, p, hpm, by rw [hne p hpm, hpu]; rfl⟩ hex
      | false =>
        right
        intro p hpm
        cases hpu : t p u with
        | false => exact ⟨rfl, by rw [hne p hpm, hpu]; rfl⟩
        | true => exact absurd ⟨u, hu, hul, ⟨p, hpm, hpu⟩, v, by simp, by rw [hne v (by simp), hvu]; rfl⟩ hex
    obtain ⟨a, b, ha, hb, hal, hbl, hva, hvb, hab⟩ : ∃ a b, a < n ∧ b < n ∧ a ∉ v :: l ∧ b ∉ v :: l ∧ t v a = true ∧ t v b = false ∧ t a b = true := by
      apply Classical.byContradiction
      intro hno
      obtain ⟨u, hu, hul⟩ := nodup_full hd hl (by simpa using hlen)
      have hA : ∀ u, u < n → u ∉ v :: l → t v u = true := fun u hu hul => by
        have := (h.st v u hv hu).closed (S := fun x => x ∈ v :: l ∨ (x ∉ v :: l ∧ t v x = true)) (fun j k hj hk hS hjk => by
          by_cases hkl : k ∈ v :: l
          · exact .inl hkl
          · refine .inr ⟨hkl, ?_⟩
            rcases hS with hS | ⟨hjl, hvj⟩
            · rcases hside k hk hkl with g | g
              · exact (g v (by simp)).1
              · have := (g j hS).1; rw [hjk] at this; cases this
            · cases hvk : t v k with
              | true => rfl
              | false => exact absurd ⟨j, k, hj, hk, hjl, hkl, hvj, hvk, hjk⟩ hno) (.inl (by simp))
        rcases this with g | g
        · exact absurd g hul
        · exact g.2
      have := (h.st u v hu hv).closed (S := fun x => x ∉ v :: l) (fun j k hj hk hS hjk hkl => by
        rcases hside j hj hS with g | g
        · have := (g k hkl).2; rw [hjk] at this; cases this
        · have := (g v (by simp)).1; rw [hA j hj hS] at this; cases this) hul
      exact this (by simp)
    have gb : ∀ p ∈ v :: l, t b p = true := fun p hpm => by
      rcases hside b hb hbl with g | g
      · have := (g v (by simp)).1; rw [hvb] at this; cases this
      · exact (g p hpm).2
    have hne : a ≠ b := fun e => by rw [e, hi] at hab; cases hab
    cases l with
    | nil => simp at h2
    | cons c l =>
      cases l with
      | nil => simp at h2
      | cons d l =>
        have hd2 : (v :: d :: l).Nodup := by
          have : (c :: v :: d :: l).Nodup := (List.Perm.swap v c (d :: l)).nodup_iff.2 hd
          exact (List.nodup_cons.1 this).2
        have hsub : ∀ x, x ∈ v :: d :: l → x ∈ v :: c :: d :: l := fun x hx => by
          rcases List.mem_cons.1 hx with rfl | hx
          · simp
          · simp only [List.mem_cons] at hx ⊢; exact .inr (.inr hx)
        have hperm : (v :: a :: b :: d :: l).Perm (a :: b :: v :: d :: l) := (List.Perm.swap a v _).trans ((List.Perm.swap b v _).cons a)
        refine ⟨a :: b :: d :: l, by simp, hperm.nodup_iff.2 (List.nodup_cons.2 ⟨fun hm => ?_, List.nodup_cons.2 ⟨fun hm => hbl (hsub b hm), hd2⟩⟩), fun x hx => ?_, hva, hab, gb d (by simp), hp.2.2⟩
        · rcases List.mem_cons.1 hm with e | hm
          · exact hne e
          · exact hal (hsub a hm)
        · rcases List.mem_cons.1 (hperm.mem_iff.1 hx) with rfl | hx
          · exact ha
          · rcases List.mem_cons.1 hx with rfl | hx
            · exact hb
            · exact hl x (hsub x hx)
theorem moon (h : Trn t n) (hi : ∀ i, t i i = false) {v : Nat} (hv : v < n) : ∀ k, 3 + k ≤ n → ∃ l, l.length = 2 + k ∧ (v :: l).Nodup ∧ (∀ x ∈ v :: l, x < n) ∧ Pth t v l v
  | 0, hk => base h hv hk hi
  | k + 1, hk => by
    obtain ⟨l, h1, h2, h3, h4⟩ := moon h hi hv k (by omega)
    obtain ⟨l', g1, g2, g3, g4⟩ := more h hi h2 h3 h4 (by omega) (by omega)
    exact ⟨l', by omega, g2, g3, g4⟩
end Mn

namespace Go.Proofs.Tryd.Am
open Go.Am
set_option maxRecDepth 100000
/-! 73: planchet ranks.count -/
@[reducible] def q73_0 : SCode := .region [⟨some 2, .assign (.const (.int .i64 0)), none⟩]
@[reducible] def q73_1 : SCode := .region [⟨some 3, .move (.tmp 0), none⟩,
    ⟨some 4, .convert 3 53 (.tmp 3), none⟩,
    ⟨some 5, .call { callee := .value (.func 97), args := #[.tmp 4], argTypes := #[53] }, none⟩,
    ⟨some 2, .assign (.tmp 5), none⟩]
def s73 : SCode := (.seq q73_0 (.seq q73_1 .ret))
theorem s73_strip : stripC (bodyOf Tryd.f73) = s73 := by kernel_rfl
theorem s73_ok : codeOK 6 (bodyOf Tryd.f73) = true := by kernel_rfl
theorem s73_call [Tabs Tryd.prog] {args : List Value} {h : Heap} {Q : Value → Heap → Prop} (hsz : args.length ≤ 6) (hk : aw Tryd.prog 6 s73 (aPost Tryd.prog [.tmp 2] Q) (argEnv 0 args) h) : ACall Tryd.prog 73 args h Q :=
  acall_s Tryd.func73 rfl (enters_of Tryd.func73 (by kernel_rfl) rfl) rfl rfl (by decide) s73_strip s73_ok hsz hk

/-! 97: math bits.OnesCount -/
@[reducible] def q97_0 : SCode := .region [⟨some 2, .assign (.const (.int .i64 0)), none⟩]
@[reducible] def q97_1 : SCode := .region [⟨some 3, .move (.tmp 0), none⟩,
    ⟨some 4, .convert 53 87 (.tmp 3), none⟩,
    ⟨some 5, .call { callee := .value (.func 108), args := #[.tmp 4], argTypes := #[87] }, none⟩,
    ⟨some 2, .assign (.tmp 5), none⟩]
@[reducible] def q97_2 : SCode := .region [⟨some 6, .move (.tmp 0), none⟩,
    ⟨some 7, .call { callee := .value (.func 109), args := #[.tmp 6], argTypes := #[89] }, none⟩,
    ⟨some 2, .assign (.tmp 7), none⟩]
def s97 : SCode := (.seq q97_0 (.seq (.cond (.const (.bool false)) (.seq q97_1 .ret) .skip) (.seq q97_2 .ret)))
theorem s97_strip : stripC (bodyOf Tryd.f97) = s97 := by kernel_rfl
theorem s97_ok : codeOK 8 (bodyOf Tryd.f97) = true := by kernel_rfl
theorem s97_call [Tabs Tryd.prog] {args : List Value} {h : Heap} {Q : Value → Heap → Prop} (hsz : args.length ≤ 8) (hk : aw Tryd.prog 8 s97 (aPost Tryd.prog [.tmp 2] Q) (argEnv 0 args) h) : ACall Tryd.prog 97 args h Q :=
  acall_s Tryd.func97 rfl (enters_of Tryd.func97 (by kernel_rfl) rfl) rfl rfl (by decide) s97_strip s97_ok hsz hk

/-! 109: math bits.OnesCount64 -/
@[reducible] def q109_0 : SCode := .region [⟨some 2, .assign (.const (.int .i64 0)), none⟩]
@[reducible] def q109_1 : SCode := .region [⟨some 3, .move (.tmp 0), none⟩,
    ⟨some 4, .binOp .shr 89 (.tmp 3) (.const (.int .u64 1)) 53, none⟩,
    ⟨some 5, .binOp .and 89 (.tmp 4) (.const (.int .u64 6148914691236517205)) 89, none⟩,
    ⟨some 6, .move (.tmp 0), none⟩,
    ⟨some 7, .binOp .and 89 (.tmp 6) (.const (.int .u64 6148914691236517205)) 89, none⟩,
    ⟨some 8, .binOp .add 89 (.tmp 5) (.tmp 7) 89, none⟩,
    ⟨some 0, .assign (.tmp 8), none⟩]
@[reducible] def q109_2 : SCode := .region [⟨some 9, .move (.tmp 0), none⟩,
    ⟨some 10, .binOp .shr 89 (.tmp 9) (.const (.int .u64 2)) 53, none⟩,
    ⟨some 11, .binOp .and 89 (.tmp 10) (.const (.int .u64 3689348814741910323)) 89, none⟩,
    ⟨some 12, .move (.tmp 0), none⟩,
    ⟨some 13, .binOp .and 89 (.tmp 12) (.const (.int .u64 3689348814741910323)) 89, none⟩,
    ⟨some 14, .binOp .add 89 (.tmp 11) (.tmp 13) 89, none⟩,
    ⟨some 0, .assign (.tmp 14), none⟩]
@[reducible] def q109_3 : SCode := .region [⟨some 15, .move (.tmp 0), none⟩,
    ⟨some 16, .binOp .shr 89 (.tmp 15) (.const (.int .u64 4)) 53, none⟩,
    ⟨some 17, .move (.tmp 0), none⟩,
    ⟨some 18, .binOp .add 89 (.tmp 16) (.tmp 17) 89, none⟩,
    ⟨some 19, .binOp .and 89 (.tmp 18) (.const (.int .u64 1085102592571150095)) 89, none⟩,
    ⟨some 0, .assign (.tmp 19), none⟩]
@[reducible] def q109_4 : SCode := .region [⟨some 20, .move (.tmp 0), none⟩,
    ⟨some 21, .move (.tmp 0), none⟩,
    ⟨some 22, .binOp .shr 89 (.tmp 21) (.const (.int .u64 8)) 53, none⟩,
    ⟨some 23, .binOp .add 89 (.tmp 20) (.tmp 22) 89, none⟩,
    ⟨some 0, .assign (.tmp 23), none⟩]
@[reducible] def q109_5 : SCode := .region [⟨some 24, .move (.tmp 0), none⟩,
    ⟨some 25, .move (.tmp 0), none⟩,
    ⟨some 26, .binOp .shr 89 (.tmp 25) (.const (.int .u64 16)) 53, none⟩,
    ⟨some 27, .binOp .add 89 (.tmp 24) (.tmp 26) 89, none⟩,
    ⟨some 0, .assign (.tmp 27), none⟩]
@[reducible] def q109_6 : SCode := .region [⟨some 28, .move (.tmp 0), none⟩,
    ⟨some 29, .move (.tmp 0), none⟩,
    ⟨some 30, .binOp .shr 89 (.tmp 29) (.const (.int .u64 32)) 53, none⟩,
    ⟨some 31, .binOp .add 89 (.tmp 28) (.tmp 30) 89, none⟩,
    ⟨some 0, .assign (.tmp 31), none⟩]
@[reducible] def q109_7 : SCode := .region [⟨some 32, .move (.tmp 0), none⟩,
    ⟨some 33, .convert 89 3 (.tmp 32), none⟩,
    ⟨some 34, .binOp .and 3 (.tmp 33) (.const (.int .i64 127)) 3, none⟩,
    ⟨some 2, .assign (.tmp 34), none⟩]
def s109 : SCode := (.seq q109_0 (.seq q109_1 (.seq q109_2 (.seq q109_3 (.seq q109_4 (.seq q109_5 (.seq q109_6 (.seq q109_7 .ret))))))))
theorem s109_strip : stripC (bodyOf Tryd.f109) = s109 := by kernel_rfl
theorem s109_ok : codeOK 35 (bodyOf Tryd.f109) = true := by kernel_rfl
theorem s109_call [Tabs Tryd.prog] {args : List Value} {h : Heap} {Q : Value → Heap → Prop} (hsz : args.length ≤ 35) (hk : aw Tryd.prog 35 s109 (aPost Tryd.prog [.tmp 2] Q) (argEnv 0 args) h) : ACall Tryd.prog 109 args h Q :=
  acall_s Tryd.func109 rfl (enters_of Tryd.func109 (by kernel_rfl) rfl) rfl rfl (by decide) s109_strip s109_ok hsz hk

end Go.Proofs.Tryd.Am

namespace Go.Proofs.Tryd.Am
open Go.Am
set_option maxRecDepth 100000
theorem app_22_22 : appT Tryd.prog 22 22 = some (3, 1, 8) := by kernel_rfl
theorem app_36_36 : appT Tryd.prog 36 36 = some (40, 3, 24) := by kernel_rfl
theorem app_46_46 : appT Tryd.prog 46 46 = some (52, 2, 16) := by kernel_rfl
theorem el_22 : elemOf' Tryd.prog 22 = some 3 := by kernel_rfl
theorem el_36 : elemOf' Tryd.prog 36 = some 40 := by kernel_rfl
theorem el_46 : elemOf' Tryd.prog 46 = some 52 := by kernel_rfl
theorem el_55 : elemOf' Tryd.prog 55 = some 3 := by kernel_rfl
theorem esz_22 : esz Tryd.prog 22 = some 1 := by kernel_rfl
theorem esz_27 : esz Tryd.prog 27 = some 1 := by kernel_rfl
theorem esz_3 : esz Tryd.prog 3 = some 1 := by kernel_rfl
theorem esz_40 : esz Tryd.prog 40 = some 3 := by kernel_rfl
theorem esz_52 : esz Tryd.prog 52 = some 2 := by kernel_rfl
theorem esz_55 : esz Tryd.prog 55 = some 1 := by kernel_rfl
theorem info_3 : (Tryd.prog.info? 3).map (fun i => (i.size, i.bytes)) = some (1, 8) := by kernel_rfl
theorem isl_22 : isSl Tryd.prog 22 = true := by kernel_rfl
theorem isl_36 : isSl Tryd.prog 36 = true := by kernel_rfl
theorem isl_46 : isSl Tryd.prog 46 = true := by kernel_rfl
theorem isl_55 : isSl Tryd.prog 55 = true := by kernel_rfl
theorem pl_40_0 : placeOf Tryd.prog 40 0 = some (0, 1) := by kernel_rfl
theorem pl_40_1 : placeOf Tryd.prog 40 1 = some (1, 1) := by kernel_rfl
theorem pl_40_2 : placeOf Tryd.prog 40 2 = some (2, 1) := by kernel_rfl
theorem pl_52_0 : placeOf Tryd.prog 52 0 = some (0, 1) := by kernel_rfl
theorem pl_52_1 : placeOf Tryd.prog 52 1 = some (1, 1) := by kernel_rfl
theorem shp_22 : shp Tryd.prog 22 = some none := by kernel_rfl
theorem shp_27 : shp Tryd.prog 27 = some none := by kernel_rfl
theorem shp_3 : shp Tryd.prog 3 = some none := by kernel_rfl
theorem shp_36 : shp Tryd.prog 36 = some none := by kernel_rfl
theorem shp_4 : shp Tryd.prog 4 = some none := by kernel_rfl
theorem shp_40 : shp Tryd.prog 40 = some (some 3) := by kernel_rfl
theorem shp_52 : shp Tryd.prog 52 = some (some 2) := by kernel_rfl
theorem shp_55 : shp Tryd.prog 55 = some none := by kernel_rfl
theorem shp_63 : shp Tryd.prog 63 = some none := by kernel_rfl
theorem shp_69 : shp Tryd.prog 69 = some none := by kernel_rfl
theorem shp_79 : shp Tryd.prog 79 = some none := by kernel_rfl
theorem und_22 : Program.underlying Tryd.prog 22 = some (.slice 3) := by kernel_rfl
theorem und_3 : Program.underlying Tryd.prog 3 = some (.int .i64) := by kernel_rfl
theorem und_36 : Program.underlying Tryd.prog 36 = some (.slice 40) := by kernel_rfl
theorem und_4 : Program.underlying Tryd.prog 4 = some (.bool) := by kernel_rfl
theorem und_40 : Program.underlying Tryd.prog 40 = some (.array 3 3) := by kernel_rfl
theorem und_46 : Program.underlying Tryd.prog 46 = some (.slice 52) := by kernel_rfl
theorem und_5 : Program.underlying Tryd.prog 5 = some (.int .u8) := by kernel_rfl
theorem und_52 : Program.underlying Tryd.prog 52 = some (.array 2 3) := by kernel_rfl
theorem und_53 : Program.underlying Tryd.prog 53 = some (.int .u64) := by kernel_rfl
theorem und_55 : Program.underlying Tryd.prog 55 = some (.slice 3) := by kernel_rfl
theorem und_75 : Program.underlying Tryd.prog 75 = some (.map 3 3) := by kernel_rfl
theorem und_87 : Program.underlying Tryd.prog 87 = some (.int .u32) := by kernel_rfl
theorem und_89 : Program.underlying Tryd.prog 89 = some (.int .u64) := by kernel_rfl
theorem und_9 : Program.underlying Tryd.prog 9 = some (.string) := by kernel_rfl
theorem zero_22 : zeroOf Tryd.prog 22 = some [.slice none 0 0] := by kernel_rfl
theorem zero_3 : zeroOf Tryd.prog 3 = some [.int .i64 0] := by kernel_rfl
theorem zero_36 : zeroOf Tryd.prog 36 = some [.slice none 0 0] := by kernel_rfl
theorem zero_4 : zeroOf Tryd.prog 4 = some [.bool false] := by kernel_rfl
theorem zero_40 : zeroOf Tryd.prog 40 = some [.int .i64 0, .int .i64 0, .int .i64 0] := by kernel_rfl
theorem zero_52 : zeroOf Tryd.prog 52 = some [.int .i64 0, .int .i64 0] := by kernel_rfl
theorem zero_55 : zeroOf Tryd.prog 55 = some [.slice none 0 0] := by kernel_rfl
theorem zero_63 : zeroOf Tryd.prog 63 = some [.nilFunc] := by kernel_rfl
theorem zero_69 : zeroOf Tryd.prog 69 = some [.nilFunc] := by kernel_rfl
theorem zero_79 : zeroOf Tryd.prog 79 = some [.nilFunc] := by kernel_rfl
theorem zv_3 : zeroV Tryd.prog 3 = some (.int .i64 0) := by kernel_rfl
def tyf := (And.intro (And.intro (And.intro (And.intro (And.intro (And.intro @app_22_22 @app_36_36) (And.intro @app_46_46 @el_22)) (And.intro (And.intro @el_36 @el_46) (And.intro @el_55 @esz_22))) (And.intro (And.intro (And.intro @esz_27 @esz_3) (And.intro @esz_40 @esz_52)) (And.intro (And.intro @esz_55 @info_3) @isl_22))) (And.intro (And.intro (And.intro (And.intro @isl_36 @isl_46) (And.intro @isl_55 @pl_40_0)) (And.intro (And.intro @pl_40_1 @pl_40_2) (And.intro @pl_52_0 @pl_52_1))) (And.intro (And.intro (And.intro @shp_22 @shp_27) (And.intro @shp_3 @shp_36)) (And.intro (And.intro @shp_4 @shp_40) @shp_52)))) (And.intro (And.intro (And.intro (And.intro (And.intro @shp_55 @shp_63) (And.intro @shp_69 @shp_79)) (And.intro (And.intro @und_22 @und_3) (And.intro @und_36 @und_4))) (And.intro (And.intro (And.intro @und_40 @und_46) (And.intro @und_5 @und_52)) (And.intro (And.intro @und_53 @und_55) @und_75))) (And.intro (And.intro (And.intro (And.intro @und_87 @und_89) (And.intro @und_9 @zero_22)) (And.intro (And.intro @zero_3 @zero_36) @zero_4)) (And.intro (And.intro (And.intro @zero_40 @zero_52) (And.intro @zero_55 @zero_63)) (And.intro (And.intro @zero_69 @zero_79) @zv_3)))))
end Go.Proofs.Tryd.Am

namespace Go.Proofs.Tryd.Am
open Go.Am
set_option maxRecDepth 100000
/-! 4: planchet planchetlaw02.RanksWays -/
@[reducible] def q4_0 : SCode := .region [⟨some 4, .assign (.const (.bool false)), none⟩]
@[reducible] def q4_1 : SCode := .region [⟨some 12, .move (.tmp 0), none⟩,
    ⟨some 13, .call { callee := .value (.func 19), args := #[.tmp 12], argTypes := #[22] }, none⟩,
    ⟨some 14, .call { callee := .value (.func 18), args := #[.tmp 13], argTypes := #[22] }, none⟩,
    ⟨some 11, .move (.tmp 14), none⟩,
    ⟨some 15, .extract (.tmp 11) 0, none⟩,
    ⟨some 16, .extract (.tmp 11) 1, none⟩,
    ⟨some 5, .assign (.tmp 15), none⟩,
    ⟨some 6, .assign (.tmp 16), none⟩]
@[reducible] def q4_2 : SCode := .region [⟨some 18, .move (.tmp 0), none⟩,
    ⟨some 19, .call { callee := .value (.func 19), args := #[.tmp 18], argTypes := #[22] }, none⟩,
    ⟨some 20, .move (.tmp 1), none⟩,
    ⟨some 21, .call { callee := .value (.func 24), args := #[.tmp 19, .tmp 20], argTypes := #[22, 3] }, none⟩,
    ⟨some 17, .move (.tmp 21), none⟩,
    ⟨some 22, .extract (.tmp 17) 0, none⟩,
    ⟨some 23, .extract (.tmp 17) 1, none⟩,
    ⟨some 7, .assign (.tmp 22), none⟩,
    ⟨some 8, .assign (.tmp 23), none⟩]
@[reducible] def q4_3 : SCode := .region [⟨some 24, .move (.tmp 0), none⟩,
    ⟨some 25, .call { callee := .value (.func 20), args := #[.tmp 24], argTypes := #[22] }, none⟩,
    ⟨some 26, .unOp .not 4 (.tmp 25), none⟩]
@[reducible] def q4_4 : SCode := .region [⟨some 27, .move (.tmp 5), none⟩,
    ⟨some 28, .call { callee := .builtin .len, args := #[.tmp 27], argTypes := #[22] }, none⟩,
    ⟨some 29, .move (.tmp 7), none⟩,
    ⟨some 30, .call { callee := .builtin .len, args := #[.tmp 29], argTypes := #[22] }, none⟩,
    ⟨some 31, .binOp .add 3 (.tmp 28) (.tmp 30) 3, none⟩,
    ⟨some 32, .binOp .eql 3 (.tmp 31) (.const (.int .i64 0)) 3, none⟩,
    ⟨some 33, .move (.tmp 32), none⟩,
    ⟨some 34, .move (.tmp 6), some (33, true)⟩,
    ⟨some 35, .binOp .eql 23 (.tmp 34) (.const (.int .i64 2)) 23, some (33, true)⟩,
    ⟨some 36, .pick (.tmp 33) (.tmp 35) (.const (.bool false)), none⟩,
    ⟨some 37, .move (.tmp 36), none⟩,
    ⟨some 38, .move (.tmp 8), some (37, true)⟩,
    ⟨some 39, .binOp .eql 23 (.tmp 38) (.const (.int .i64 2)) 23, some (37, true)⟩,
    ⟨some 40, .pick (.tmp 37) (.tmp 39) (.const (.bool false)), none⟩,
    ⟨some 41, .move (.tmp 40), none⟩,
    ⟨some 42, .call { callee := .value (.func 21), args := #[], argTypes := #[] }, some (41, true)⟩,
    ⟨some 43, .pick (.tmp 41) (.tmp 42) (.const (.bool false)), none⟩,
    ⟨some 4, .assign (.tmp 43), none⟩]
@[reducible] def q4_5 : SCode := .region [⟨some 44, .move (.tmp 5), none⟩,
    ⟨some 45, .move (.tmp 0), none⟩,
    ⟨some 46, .call { callee := .value (.func 26), args := #[.tmp 45], argTypes := #[22] }, none⟩,
    ⟨some 47, .call { callee := .value (.func 25), args := #[.tmp 44, .tmp 46], argTypes := #[22, 22] }, none⟩,
    ⟨some 48, .unOp .not 4 (.tmp 47), none⟩,
    ⟨some 49, .move (.tmp 48), none⟩,
    ⟨some 50, .move (.tmp 6), some (49, false)⟩,
    ⟨some 51, .binOp .neq 23 (.tmp 50) (.const (.int .i64 0)) 23, some (49, false)⟩,
    ⟨some 52, .pick (.tmp 49) (.const (.bool true)) (.tmp 51), none⟩,
    ⟨some 53, .move (.tmp 52), none⟩,
    ⟨some 54, .call { callee := .value (.func 21), args := #[], argTypes := #[] }, some (53, false)⟩,
    ⟨some 55, .unOp .not 4 (.tmp 54), some (53, false)⟩,
    ⟨some 56, .pick (.tmp 53) (.const (.bool true)) (.tmp 55), none⟩]
@[reducible] def q4_6 : SCode := .region [⟨some 4, .assign (.const (.bool false)), none⟩]
@[reducible] def q4_7 : SCode := .region [⟨some 57, .move (.tmp 1), none⟩,
    ⟨some 58, .binOp .lss 3 (.tmp 57) (.const (.int .i64 3)) 3, none⟩,
    ⟨some 59, .move (.tmp 58), none⟩,
    ⟨some 60, .move (.tmp 1), some (59, false)⟩,
    ⟨some 61, .move (.tmp 0), some (59, false)⟩,
    ⟨some 62, .call { callee := .builtin .len, args := #[.tmp 61], argTypes := #[22] }, some (59, false)⟩,
    ⟨some 63, .binOp .gtr 3 (.tmp 60) (.tmp 62) 3, some (59, false)⟩,
    ⟨some 64, .pick (.tmp 59) (.const (.bool true)) (.tmp 63), none⟩]
@[reducible] def q4_8 : SCode := .region [⟨some 65, .move (.tmp 7), none⟩,
    ⟨some 66, .call { callee := .builtin .len, args := #[.tmp 65], argTypes := #[22] }, none⟩,
    ⟨some 67, .binOp .eql 3 (.tmp 66) (.const (.int .i64 0)) 3, none⟩,
    ⟨some 68, .move (.tmp 67), none⟩,
    ⟨some 69, .move (.tmp 8), some (68, true)⟩,
    ⟨some 70, .binOp .eql 23 (.tmp 69) (.const (.int .i64 2)) 23, some (68, true)⟩,
    ⟨some 71, .pick (.tmp 68) (.tmp 70) (.const (.bool false)), none⟩,
    ⟨some 4, .assign (.tmp 71), none⟩]
@[reducible] def q4_9 : SCode := .region [⟨some 73, .move (.tmp 0), none⟩,
    ⟨some 74, .move (.tmp 1), none⟩,
    ⟨some 75, .call { callee := .value (.func 27), args := #[.tmp 73, .tmp 74], argTypes := #[22, 3] }, none⟩,
    ⟨some 72, .move (.tmp 75), none⟩,
    ⟨some 76, .extract (.tmp 72) 0, none⟩,
    ⟨some 77, .extract (.tmp 72) 1, none⟩,
    ⟨some 9, .assign (.tmp 76), none⟩,
    ⟨some 10, .assign (.tmp 77), none⟩]
@[reducible] def q4_10 : SCode := .region [⟨some 78, .move (.tmp 7), none⟩,
    ⟨some 79, .move (.tmp 9), none⟩,
    ⟨some 80, .call { callee := .value (.func 25), args := #[.tmp 78, .tmp 79], argTypes := #[22, 22] }, none⟩,
    ⟨some 81, .move (.tmp 80), none⟩,
    ⟨some 82, .move (.tmp 8), some (81, true)⟩,
    ⟨some 83, .move (.tmp 10), some (81, true)⟩,
    ⟨some 84, .binOp .eql 23 (.tmp 82) (.tmp 83) 23, some (81, true)⟩,
    ⟨some 85, .pick (.tmp 81) (.tmp 84) (.const (.bool false)), none⟩,
    ⟨some 4, .assign (.tmp 85), none⟩]
def s4 : SCode := (.seq q4_0 (.seq q4_1 (.seq q4_2 (.seq (.seq q4_3 (.cond (.tmp 26) (.seq q4_4 .ret) .skip)) (.seq (.seq q4_5 (.cond (.tmp 56) (.seq q4_6 .ret) .skip)) (.seq (.seq q4_7 (.cond (.tmp 64) (.seq q4_8 .ret) .skip)) (.seq q4_9 (.seq q4_10 .ret))))))))
/-! 18: planchet ranks.Way -/
@[reducible] def q18_0 : SCode := .region [⟨some 2, .assign (.const (.slice none 0 0)), none⟩,
    ⟨some 3, .assign (.const (.int .i64 0)), none⟩]
@[reducible] def q18_1 : SCode := .region [⟨some 5, .move (.tmp 0), none⟩,
    ⟨some 4, .assign (.tmp 5), none⟩]
@[reducible] def q18_2 : SCode := .region [⟨some 6, .move (.tmp 4), none⟩,
    ⟨some 7, .call { callee := .value (.func 56), args := #[.tmp 6], argTypes := #[55] }, none⟩,
    ⟨some 8, .unOp .not 4 (.tmp 7), none⟩]
@[reducible] def q18_3 : SCode := .region [⟨some 2, .assign (.const (.slice none 0 0)), none⟩,
    ⟨some 3, .assign (.const (.int .i64 2)), none⟩]
@[reducible] def q18_4 : SCode := .region [⟨some 9, .move (.tmp 4), none⟩,
    ⟨some 10, .move (.tmp 0), none⟩,
    ⟨some 11, .call { callee := .builtin .len, args := #[.tmp 10], argTypes := #[22] }, none⟩,
    ⟨some 12, .call { callee := .value (.func 57), args := #[.tmp 9, .tmp 11, .func 58], argTypes := #[55, 3, 27] }, none⟩,
    ⟨some 2, .assign (.tmp 12), none⟩,
    ⟨some 3, .assign (.const (.int .i64 0)), none⟩]
def s18 : SCode := (.seq q18_0 (.seq q18_1 (.seq (.seq q18_2 (.cond (.tmp 8) (.seq q18_3 .ret) .skip)) (.seq q18_4 .ret))))
theorem s18_strip : stripC (bodyOf Tryd.f18) = s18 := by kernel_rfl
theorem s18_ok : codeOK 13 (bodyOf Tryd.f18) = true := by kernel_rfl
theorem s18_call [Tabs Tryd.prog] {args : List Value} {h : Heap} {Q : Value → Heap → Prop} (hsz : args.length ≤ 13) (hk : aw Tryd.prog 13 s18 (aPost Tryd.prog [.tmp 2, .tmp 3] Q) (argEnv 0 args) h) : ACall Tryd.prog 18 args h Q :=
  acall_s Tryd.func18 rfl (enters_of Tryd.func18 (by kernel_rfl) rfl) rfl rfl (by decide) s18_strip s18_ok hsz hk

/-! 19: planchet planchetlaw02.list -/
@[reducible] def q19_0 : SCode := .region [⟨some 2, .assign (.const (.slice none 0 0)), none⟩]
@[reducible] def q19_1 : SCode := .region [⟨some 3, .move (.tmp 0), none⟩,
    ⟨some 4, .move (.tmp 0), none⟩,
    ⟨some 5, .call { callee := .builtin .len, args := #[.tmp 4], argTypes := #[22] }, none⟩,
    ⟨some 6, .call { callee := .builtin .min, args := #[.tmp 5, .const (.int .i64 11)], argTypes := #[3, 3] }, none⟩,
    ⟨some 7, .slice 22 (.tmp 3) none (some (.tmp 6)) none, none⟩,
    ⟨some 8, .call { callee := .value (.func 46), args := #[.tmp 7], argTypes := #[22] }, none⟩,
    ⟨some 2, .assign (.tmp 8), none⟩]
def s19 : SCode := (.seq q19_0 (.seq q19_1 .ret))
theorem s19_strip : stripC (bodyOf Tryd.f19) = s19 := by kernel_rfl
theorem s19_ok : codeOK 9 (bodyOf Tryd.f19) = true := by kernel_rfl
theorem s19_call [Tabs Tryd.prog] {args : List Value} {h : Heap} {Q : Value → Heap → Prop} (hsz : args.length ≤ 9) (hk : aw Tryd.prog 9 s19 (aPost Tryd.prog [.tmp 2] Q) (argEnv 0 args) h) : ACall Tryd.prog 19 args h Q :=
  acall_s Tryd.func19 rfl (enters_of Tryd.func19 (by kernel_rfl) rfl) rfl rfl (by decide) s19_strip s19_ok hsz hk

/-! 20: planchet planchetref02.Valid -/
@[reducible] def q20_0 : SCode := .region [⟨some 2, .assign (.const (.bool false)), none⟩]
@[reducible] def q20_1 : SCode := .region [⟨some 7, .move (.tmp 0), none⟩,
    ⟨some 8, .call { callee := .builtin .len, args := #[.tmp 7], argTypes := #[22] }, none⟩,
    ⟨some 3, .assign (.tmp 8), none⟩]
@[reducible] def q20_2 : SCode := .region [⟨some 9, .move (.tmp 3), none⟩,
    ⟨some 10, .binOp .lss 3 (.tmp 9) (.const (.int .i64 1)) 3, none⟩,
    ⟨some 11, .move (.tmp 10), none⟩,
    ⟨some 12, .move (.tmp 3), some (11, false)⟩,
    ⟨some 13, .binOp .gtr 3 (.tmp 12) (.const (.int .i64 8)) 3, some (11, false)⟩,
    ⟨some 14, .pick (.tmp 11) (.const (.bool true)) (.tmp 13), none⟩]
@[reducible] def q20_3 : SCode := .region [⟨some 2, .assign (.const (.bool false)), none⟩]
@[reducible] def q20_4 : SCode := .region [⟨some 15, .move (.tmp 0), none⟩,
    ⟨some 16, .call { callee := .builtin .len, args := #[.tmp 15], argTypes := #[22] }, none⟩,
    ⟨some 17, .move (.const (.int .i64 0)), none⟩]
@[reducible] def q20_5 : SCode := .region [⟨some 18, .binOp .lss 3 (.tmp 17) (.tmp 16) 3, none⟩]
@[reducible] def q20_6 : SCode := .region [⟨some 19, .move (.tmp 17), none⟩,
    ⟨some 20, .indexAddr 22 (.tmp 15) (.tmp 17), none⟩,
    ⟨some 21, .load 3 (.tmp 20), none⟩,
    ⟨some 4, .assign (.tmp 19), none⟩,
    ⟨some 5, .assign (.tmp 21), none⟩]
@[reducible] def q20_7 : SCode := .region [⟨some 22, .move (.tmp 5), none⟩,
    ⟨some 23, .binOp .lss 3 (.tmp 22) (.const (.int .i64 0)) 3, none⟩,
    ⟨some 24, .move (.tmp 23), none⟩,
    ⟨some 25, .move (.tmp 5), some (24, false)⟩,
    ⟨some 26, .move (.tmp 3), some (24, false)⟩,
    ⟨some 27, .binOp .shl 3 (.const (.int .i64 1)) (.tmp 26) 3, some (24, false)⟩,
    ⟨some 28, .binOp .geq 3 (.tmp 25) (.tmp 27) 3, some (24, false)⟩,
    ⟨some 29, .pick (.tmp 24) (.const (.bool true)) (.tmp 28), none⟩,
    ⟨some 30, .move (.tmp 29), none⟩,
    ⟨some 31, .move (.tmp 5), some (30, false)⟩,
    ⟨some 32, .move (.tmp 4), some (30, false)⟩,
    ⟨some 33, .binOp .shr 3 (.tmp 31) (.tmp 32) 3, some (30, false)⟩,
    ⟨some 34, .binOp .and 3 (.tmp 33) (.const (.int .i64 1)) 3, some (30, false)⟩,
    ⟨some 35, .binOp .eql 3 (.tmp 34) (.const (.int .i64 1)) 3, some (30, false)⟩,
    ⟨some 36, .pick (.tmp 30) (.const (.bool true)) (.tmp 35), none⟩]
@[reducible] def q20_8 : SCode := .region [⟨some 2, .assign (.const (.bool false)), none⟩]
@[reducible] def q20_9 : SCode := .region [⟨some 37, .move (.tmp 4), none⟩,
    ⟨some 38, .move (.const (.int .i64 0)), none⟩]
@[reducible] def q20_10 : SCode := .region [⟨some 39, .binOp .lss 3 (.tmp 38) (.tmp 37) 3, none⟩]
@[reducible] def q20_11 : SCode := .region [⟨some 40, .move (.tmp 38), none⟩,
    ⟨some 6, .assign (.tmp 40), none⟩]
def q20_12 : SCode := .draw [⟨some 41, .move (.tmp 5), none⟩,
    ⟨some 42, .move (.tmp 6), none⟩,
    ⟨some 43, .binOp .shr 3 (.tmp 41) (.tmp 42) 3, none⟩,
    ⟨some 44, .binOp .and 3 (.tmp 43) (.const (.int .i64 1)) 3, none⟩,
    ⟨some 45, .move (.tmp 0), none⟩,
    ⟨some 46, .move (.tmp 6), none⟩,
    ⟨some 47, .indexAddr 22 (.tmp 45) (.tmp 46), none⟩,
    ⟨some 48, .load 3 (.tmp 47), none⟩,
    ⟨some 49, .move (.tmp 4), none⟩,
    ⟨some 50, .binOp .shr 3 (.tmp 48) (.tmp 49) 3, none⟩,
    ⟨some 51, .binOp .and 3 (.tmp 50) (.const (.int .i64 1)) 3, none⟩,
    ⟨some 52, .binOp .eql 3 (.tmp 44) (.tmp 51) 3, none⟩]
   [[], [], [0, 1], [2], [], [], [4, 5], [6], [], [7, 8], [9], [3, 10]]
@[reducible] def q20_13 : SCode := .region [⟨some 2, .assign (.const (.bool false)), none⟩]
@[reducible] def q20_14 : SCode := .region [⟨some 53, .binOp .add 3 (.tmp 38) (.const (.int .i64 1)) 3, none⟩,
    ⟨some 38, .move (.tmp 53), none⟩]
def l20_0 : SCode := (.seq q20_10 (.seq (.cond (.tmp 39) .skip (.exit 2)) (.seq (.block 3 (.seq q20_11 (.seq q20_12 (.cond (.tmp 52) (.seq q20_13 .ret) .skip)))) q20_14)))
@[reducible] def q20_15 : SCode := .region [⟨some 54, .binOp .add 3 (.tmp 17) (.const (.int .i64 1)) 3, none⟩,
    ⟨some 17, .move (.tmp 54), none⟩]
def l20_1 : SCode := (.seq q20_5 (.seq (.cond (.tmp 18) .skip (.exit 0)) (.seq (.block 1 (.seq q20_6 (.seq (.seq q20_7 (.cond (.tmp 36) (.seq q20_8 .ret) .skip)) (.seq q20_9 (.block 2 (.loop l20_0)))))) q20_15)))
@[reducible] def q20_16 : SCode := .region [⟨some 2, .assign (.const (.bool true)), none⟩]
def s20 : SCode := (.seq q20_0 (.seq q20_1 (.seq (.seq q20_2 (.cond (.tmp 14) (.seq q20_3 .ret) .skip)) (.seq (.seq q20_4 (.block 0 (.loop l20_1))) (.seq q20_16 .ret)))))
theorem s20_strip : stripC (bodyOf Tryd.f20) = s20 := by kernel_rfl
theorem s20_ok : codeOK 55 (bodyOf Tryd.f20) = true := by kernel_rfl
theorem s20_call [Tabs Tryd.prog] {args : List Value} {h : Heap} {Q : Value → Heap → Prop} (hsz : args.length ≤ 55) (hk : aw Tryd.prog 55 s20 (aPost Tryd.prog [.tmp 2] Q) (argEnv 0 args) h) : ACall Tryd.prog 20 args h Q :=
  acall_s Tryd.func20 rfl (enters_of Tryd.func20 (by kernel_rfl) rfl) rfl rfl (by decide) s20_strip s20_ok hsz hk

/-! 21: planchet planchetlaw02.awake -/
@[reducible] def q21_0 : SCode := .region [⟨some 0, .assign (.const (.bool false)), none⟩]
@[reducible] def q21_1 : SCode := .region [⟨some 4, .buildSlice 22 2 #[(0, .const (.int .i64 0)), (1, .const (.int .i64 1))], none⟩,
    ⟨some 5, .call { callee := .value (.func 18), args := #[.tmp 4], argTypes := #[22] }, none⟩,
    ⟨some 3, .move (.tmp 5), none⟩,
    ⟨some 6, .extract (.tmp 3) 0, none⟩,
    ⟨some 7, .extract (.tmp 3) 1, none⟩,
    ⟨some 1, .assign (.tmp 6), none⟩,
    ⟨some 2, .assign (.tmp 7), none⟩]
@[reducible] def q21_2 : SCode := .region [⟨some 8, .move (.tmp 2), none⟩,
    ⟨some 9, .binOp .eql 23 (.tmp 8) (.const (.int .i64 0)) 23, none⟩,
    ⟨some 10, .move (.tmp 9), none⟩,
    ⟨some 11, .move (.tmp 1), some (10, true)⟩,
    ⟨some 12, .buildSlice 22 2 #[(0, .const (.int .i64 1)), (1, .const (.int .i64 0))], some (10, true)⟩,
    ⟨some 13, .call { callee := .value (.func 25), args := #[.tmp 11, .tmp 12], argTypes := #[22, 22] }, some (10, true)⟩,
    ⟨some 14, .pick (.tmp 10) (.tmp 13) (.const (.bool false)), none⟩,
    ⟨some 0, .assign (.tmp 14), none⟩]
def s21 : SCode := (.seq q21_0 (.seq q21_1 (.seq q21_2 .ret)))
theorem s21_strip : stripC (bodyOf Tryd.f21) = s21 := by kernel_rfl
theorem s21_ok : codeOK 15 (bodyOf Tryd.f21) = true := by kernel_rfl
theorem s21_call [Tabs Tryd.prog] {args : List Value} {h : Heap} {Q : Value → Heap → Prop} (hsz : args.length ≤ 15) (hk : aw Tryd.prog 15 s21 (aPost Tryd.prog [.tmp 0] Q) (argEnv 0 args) h) : ACall Tryd.prog 21 args h Q :=
  acall_s Tryd.func21 rfl (enters_of Tryd.func21 (by kernel_rfl) rfl) rfl rfl (by decide) s21_strip s21_ok hsz hk

/-! 24: planchet ranks.Round -/
@[reducible] def q24_0 : SCode := .region [⟨some 3, .box 3 (.tmp 1), none⟩,
    ⟨some 4, .assign (.const (.slice none 0 0)), none⟩,
    ⟨some 5, .assign (.const (.int .i64 0)), none⟩]
@[reducible] def q24_1 : SCode := .region [⟨some 8, .move (.tmp 0), none⟩,
    ⟨some 6, .alloc 55, none⟩,
    ⟨none, .store 55 (.tmp 6) (.tmp 8), none⟩]
@[reducible] def q24_2 : SCode := .region [⟨some 9, .load 55 (.tmp 6), none⟩,
    ⟨some 10, .call { callee := .value (.func 56), args := #[.tmp 9], argTypes := #[55] }, none⟩,
    ⟨some 11, .unOp .not 4 (.tmp 10), none⟩,
    ⟨some 12, .move (.tmp 11), none⟩,
    ⟨some 13, .load 3 (.tmp 3), some (12, false)⟩,
    ⟨some 14, .binOp .lss 3 (.tmp 13) (.const (.int .i64 3)) 3, some (12, false)⟩,
    ⟨some 15, .pick (.tmp 12) (.const (.bool true)) (.tmp 14), none⟩,
    ⟨some 16, .move (.tmp 15), none⟩,
    ⟨some 17, .load 3 (.tmp 3), some (16, false)⟩,
    ⟨some 18, .move (.tmp 0), some (16, false)⟩,
    ⟨some 19, .call { callee := .builtin .len, args := #[.tmp 18], argTypes := #[22] }, some (16, false)⟩,
    ⟨some 20, .binOp .gtr 3 (.tmp 17) (.tmp 19) 3, some (16, false)⟩,
    ⟨some 21, .pick (.tmp 16) (.const (.bool true)) (.tmp 20), none⟩]
@[reducible] def q24_3 : SCode := .region [⟨some 4, .assign (.const (.slice none 0 0)), none⟩,
    ⟨some 5, .assign (.const (.int .i64 2)), none⟩]
@[reducible] def q24_4 : SCode := .region [⟨some 22, .load 55 (.tmp 6), none⟩,
    ⟨some 23, .load 3 (.tmp 3), none⟩,
    ⟨some 24, .makeFunc (.func 59) #[] #[.tmp 6, .tmp 3], none⟩,
    ⟨some 25, .call { callee := .value (.func 57), args := #[.tmp 22, .tmp 23, .tmp 24], argTypes := #[55, 3, 27] }, none⟩,
    ⟨some 7, .assign (.tmp 25), none⟩]
@[reducible] def q24_5 : SCode := .region [⟨some 26, .move (.tmp 7), none⟩,
    ⟨some 27, .binOp .eql 22 (.tmp 26) (.const (.slice none 0 0)) 22, none⟩]
@[reducible] def q24_6 : SCode := .region [⟨some 4, .assign (.const (.slice none 0 0)), none⟩,
    ⟨some 5, .assign (.const (.int .i64 4)), none⟩]
@[reducible] def q24_7 : SCode := .region [⟨some 28, .move (.tmp 7), none⟩,
    ⟨some 4, .assign (.tmp 28), none⟩,
    ⟨some 5, .assign (.const (.int .i64 0)), none⟩]
def s24 : SCode := (.seq q24_0 (.seq q24_1 (.seq (.seq q24_2 (.cond (.tmp 21) (.seq q24_3 .ret) .skip)) (.seq q24_4 (.seq (.seq q24_5 (.cond (.tmp 27) (.seq q24_6 .ret) .skip)) (.seq q24_7 .ret))))))
theorem s24_strip : stripC (bodyOf Tryd.f24) = s24 := by kernel_rfl
theorem s24_ok : codeOK 29 (bodyOf Tryd.f24) = true := by kernel_rfl
theorem s24_call [Tabs Tryd.prog] {args : List Value} {h : Heap} {Q : Value → Heap → Prop} (hsz : args.length ≤ 29) (hk : aw Tryd.prog 29 s24 (aPost Tryd.prog [.tmp 4, .tmp 5] Q) (argEnv 0 args) h) : ACall Tryd.prog 24 args h Q :=
  acall_s Tryd.func24 rfl (enters_of Tryd.func24 (by kernel_rfl) rfl) rfl rfl (by decide) s24_strip s24_ok hsz hk

/-! 25: slices.Equal[[]int,int] -/
@[reducible] def q25_0 : SCode := .region [⟨some 4, .assign (.const (.bool false)), none⟩]
@[reducible] def q25_1 : SCode := .region [⟨some 6, .move (.tmp 0), none⟩,
    ⟨some 7, .call { callee := .builtin .len, args := #[.tmp 6], argTypes := #[22] }, none⟩,
    ⟨some 8, .move (.tmp 1), none⟩,
    ⟨some 9, .call { callee := .builtin .len, args := #[.tmp 8], argTypes := #[22] }, none⟩,
    ⟨some 10, .binOp .neq 3 (.tmp 7) (.tmp 9) 3, none⟩]
@[reducible] def q25_2 : SCode := .region [⟨some 4, .assign (.const (.bool false)), none⟩]
@[reducible] def q25_3 : SCode := .region [⟨some 11, .move (.tmp 0), none⟩,
    ⟨some 12, .call { callee := .builtin .len, args := #[.tmp 11], argTypes := #[22] }, none⟩,
    ⟨some 13, .move (.const (.int .i64 0)), none⟩]
@[reducible] def q25_4 : SCode := .region [⟨some 14, .binOp .lss 3 (.tmp 13) (.tmp 12) 3, none⟩]
@[reducible] def q25_5 : SCode := .region [⟨some 15, .move (.tmp 13), none⟩,
    ⟨some 5, .assign (.tmp 15), none⟩]
def q25_6 : SCode := .draw [⟨some 16, .move (.tmp 0), none⟩,
    ⟨some 17, .move (.tmp 5), none⟩,
    ⟨some 18, .indexAddr 22 (.tmp 16) (.tmp 17), none⟩,
    ⟨some 19, .load 3 (.tmp 18), none⟩,
    ⟨some 20, .move (.tmp 1), none⟩,
    ⟨some 21, .move (.tmp 5), none⟩,
    ⟨some 22, .indexAddr 22 (.tmp 20) (.tmp 21), none⟩,
    ⟨some 23, .load 3 (.tmp 22), none⟩,
    ⟨some 24, .binOp .neq 3 (.tmp 19) (.tmp 23) 3, none⟩]
   [[], [], [0, 1], [2], [], [], [4, 5], [6], [3, 7]]
@[reducible] def q25_7 : SCode := .region [⟨some 4, .assign (.const (.bool false)), none⟩]
@[reducible] def q25_8 : SCode := .region [⟨some 25, .binOp .add 3 (.tmp 13) (.const (.int .i64 1)) 3, none⟩,
    ⟨some 13, .move (.tmp 25), none⟩]
def l25_0 : SCode := (.seq q25_4 (.seq (.cond (.tmp 14) .skip (.exit 0)) (.seq (.block 1 (.seq q25_5 (.seq q25_6 (.cond (.tmp 24) (.seq q25_7 .ret) .skip)))) q25_8)))
@[reducible] def q25_9 : SCode := .region [⟨some 4, .assign (.const (.bool true)), none⟩]
def s25 : SCode := (.seq q25_0 (.seq (.seq q25_1 (.cond (.tmp 10) (.seq q25_2 .ret) .skip)) (.seq (.seq q25_3 (.block 0 (.loop l25_0))) (.seq q25_9 .ret))))
theorem s25_strip : stripC (bodyOf Tryd.f25) = s25 := by kernel_rfl
theorem s25_ok : codeOK 26 (bodyOf Tryd.f25) = true := by kernel_rfl
theorem s25_call [Tabs Tryd.prog] {args : List Value} {h : Heap} {Q : Value → Heap → Prop} (hsz : args.length ≤ 26) (hk : aw Tryd.prog 26 s25 (aPost Tryd.prog [.tmp 4] Q) (argEnv 0 args) h) : ACall Tryd.prog 25 args h Q :=
  acall_s Tryd.func25 rfl (enters_of Tryd.func25 (by kernel_rfl) rfl) rfl rfl (by decide) s25_strip s25_ok hsz hk

/-! 46: slices.Clone[[]int,int] -/
@[reducible] def q46_0 : SCode := .region [⟨some 2, .assign (.const (.slice none 0 0)), none⟩]
@[reducible] def q46_1 : SCode := .region [⟨some 3, .move (.tmp 0), none⟩,
    ⟨some 4, .binOp .eql 22 (.tmp 3) (.const (.slice none 0 0)) 22, none⟩]
@[reducible] def q46_2 : SCode := .region [⟨some 2, .assign (.const (.slice none 0 0)), none⟩]
@[reducible] def q46_3 : SCode := .region [⟨some 5, .buildSlice 22 0 #[], none⟩,
    ⟨some 6, .move (.tmp 0), none⟩,
    ⟨some 7, .call { callee := .builtin .append, args := #[.tmp 5, .tmp 6], argTypes := #[22, 22] }, none⟩,
    ⟨some 2, .assign (.tmp 7), none⟩]
def s46 : SCode := (.seq q46_0 (.seq (.seq q46_1 (.cond (.tmp 4) (.seq q46_2 .ret) .skip)) (.seq q46_3 .ret)))
theorem s46_strip : stripC (bodyOf Tryd.f46) = s46 := by kernel_rfl
theorem s46_ok : codeOK 8 (bodyOf Tryd.f46) = true := by kernel_rfl
theorem s46_call [Tabs Tryd.prog] {args : List Value} {h : Heap} {Q : Value → Heap → Prop} (hsz : args.length ≤ 8) (hk : aw Tryd.prog 8 s46 (aPost Tryd.prog [.tmp 2] Q) (argEnv 0 args) h) : ACall Tryd.prog 46 args h Q :=
  acall_s Tryd.func46 rfl (enters_of Tryd.func46 (by kernel_rfl) rfl) rfl rfl (by decide) s46_strip s46_ok hsz hk

/-! 56: (planchet ranks.tournament).valid -/
@[reducible] def q56_0 : SCode := .region [⟨some 2, .assign (.const (.bool false)), none⟩]
@[reducible] def q56_1 : SCode := .region [⟨some 7, .move (.tmp 0), none⟩,
    ⟨some 8, .call { callee := .builtin .len, args := #[.tmp 7], argTypes := #[55] }, none⟩,
    ⟨some 3, .assign (.tmp 8), none⟩]
@[reducible] def q56_2 : SCode := .region [⟨some 9, .move (.tmp 3), none⟩,
    ⟨some 10, .binOp .lss 3 (.tmp 9) (.const (.int .i64 1)) 3, none⟩,
    ⟨some 11, .move (.tmp 10), none⟩,
    ⟨some 12, .move (.tmp 3), some (11, false)⟩,
    ⟨some 13, .binOp .gtr 3 (.tmp 12) (.const (.int .i64 8)) 3, some (11, false)⟩,
    ⟨some 14, .pick (.tmp 11) (.const (.bool true)) (.tmp 13), none⟩]
@[reducible] def q56_3 : SCode := .region [⟨some 2, .assign (.const (.bool false)), none⟩]
@[reducible] def q56_4 : SCode := .region [⟨some 15, .move (.tmp 0), none⟩,
    ⟨some 16, .call { callee := .builtin .len, args := #[.tmp 15], argTypes := #[55] }, none⟩,
    ⟨some 17, .move (.const (.int .i64 0)), none⟩]
@[reducible] def q56_5 : SCode := .region [⟨some 18, .binOp .lss 3 (.tmp 17) (.tmp 16) 3, none⟩]
@[reducible] def q56_6 : SCode := .region [⟨some 19, .move (.tmp 17), none⟩,
    ⟨some 20, .indexAddr 55 (.tmp 15) (.tmp 17), none⟩,
    ⟨some 21, .load 3 (.tmp 20), none⟩,
    ⟨some 4, .assign (.tmp 19), none⟩,
    ⟨some 5, .assign (.tmp 21), none⟩]
@[reducible] def q56_7 : SCode := .region [⟨some 22, .move (.tmp 5), none⟩,
    ⟨some 23, .binOp .lss 3 (.tmp 22) (.const (.int .i64 0)) 3, none⟩,
    ⟨some 24, .move (.tmp 23), none⟩,
    ⟨some 25, .move (.tmp 5), some (24, false)⟩,
    ⟨some 26, .move (.tmp 3), some (24, false)⟩,
    ⟨some 27, .binOp .shl 3 (.const (.int .i64 1)) (.tmp 26) 3, some (24, false)⟩,
    ⟨some 28, .binOp .geq 3 (.tmp 25) (.tmp 27) 3, some (24, false)⟩,
    ⟨some 29, .pick (.tmp 24) (.const (.bool true)) (.tmp 28), none⟩,
    ⟨some 30, .move (.tmp 29), none⟩,
    ⟨some 31, .move (.tmp 5), some (30, false)⟩,
    ⟨some 32, .move (.tmp 4), some (30, false)⟩,
    ⟨some 33, .binOp .shr 3 (.tmp 31) (.tmp 32) 3, some (30, false)⟩,
    ⟨some 34, .binOp .and 3 (.tmp 33) (.const (.int .i64 1)) 3, some (30, false)⟩,
    ⟨some 35, .binOp .eql 3 (.tmp 34) (.const (.int .i64 1)) 3, some (30, false)⟩,
    ⟨some 36, .pick (.tmp 30) (.const (.bool true)) (.tmp 35), none⟩]
@[reducible] def q56_8 : SCode := .region [⟨some 2, .assign (.const (.bool false)), none⟩]
@[reducible] def q56_9 : SCode := .region [⟨some 37, .move (.tmp 4), none⟩,
    ⟨some 38, .move (.const (.int .i64 0)), none⟩]
@[reducible] def q56_10 : SCode := .region [⟨some 39, .binOp .lss 3 (.tmp 38) (.tmp 37) 3, none⟩]
@[reducible] def q56_11 : SCode := .region [⟨some 40, .move (.tmp 38), none⟩,
    ⟨some 6, .assign (.tmp 40), none⟩]
def q56_12 : SCode := .draw [⟨some 41, .move (.tmp 5), none⟩,
    ⟨some 42, .move (.tmp 6), none⟩,
    ⟨some 43, .binOp .shr 3 (.tmp 41) (.tmp 42) 3, none⟩,
    ⟨some 44, .binOp .and 3 (.tmp 43) (.const (.int .i64 1)) 3, none⟩,
    ⟨some 45, .move (.tmp 0), none⟩,
    ⟨some 46, .move (.tmp 6), none⟩,
    ⟨some 47, .indexAddr 55 (.tmp 45) (.tmp 46), none⟩,
    ⟨some 48, .load 3 (.tmp 47), none⟩,
    ⟨some 49, .move (.tmp 4), none⟩,
    ⟨some 50, .binOp .shr 3 (.tmp 48) (.tmp 49) 3, none⟩,
    ⟨some 51, .binOp .and 3 (.tmp 50) (.const (.int .i64 1)) 3, none⟩,
    ⟨some 52, .binOp .eql 3 (.tmp 44) (.tmp 51) 3, none⟩]
   [[], [], [0, 1], [2], [], [], [4, 5], [6], [], [7, 8], [9], [3, 10]]
@[reducible] def q56_13 : SCode := .region [⟨some 2, .assign (.const (.bool false)), none⟩]
@[reducible] def q56_14 : SCode := .region [⟨some 53, .binOp .add 3 (.tmp 38) (.const (.int .i64 1)) 3, none⟩,
    ⟨some 38, .move (.tmp 53), none⟩]
def l56_0 : SCode := (.seq q56_10 (.seq (.cond (.tmp 39) .skip (.exit 2)) (.seq (.block 3 (.seq q56_11 (.seq q56_12 (.cond (.tmp 52) (.seq q56_13 .ret) .skip)))) q56_14)))
@[reducible] def q56_15 : SCode := .region [⟨some 54, .binOp .add 3 (.tmp 17) (.const (.int .i64 1)) 3, none⟩,
    ⟨some 17, .move (.tmp 54), none⟩]
def l56_1 : SCode := (.seq q56_5 (.seq (.cond (.tmp 18) .skip (.exit 0)) (.seq (.block 1 (.seq q56_6 (.seq (.seq q56_7 (.cond (.tmp 36) (.seq q56_8 .ret) .skip)) (.seq q56_9 (.block 2 (.loop l56_0)))))) q56_15)))
@[reducible] def q56_16 : SCode := .region [⟨some 2, .assign (.const (.bool true)), none⟩]
def s56 : SCode := (.seq q56_0 (.seq q56_1 (.seq (.seq q56_2 (.cond (.tmp 14) (.seq q56_3 .ret) .skip)) (.seq (.seq q56_4 (.block 0 (.loop l56_1))) (.seq q56_16 .ret)))))
theorem s56_strip : stripC (bodyOf Tryd.f56) = s56 := by kernel_rfl
theorem s56_ok : codeOK 55 (bodyOf Tryd.f56) = true := by kernel_rfl
theorem s56_call [Tabs Tryd.prog] {args : List Value} {h : Heap} {Q : Value → Heap → Prop} (hsz : args.length ≤ 55) (hk : aw Tryd.prog 55 s56 (aPost Tryd.prog [.tmp 2] Q) (argEnv 0 args) h) : ACall Tryd.prog 56 args h Q :=
  acall_s Tryd.func56 rfl (enters_of Tryd.func56 (by kernel_rfl) rfl) rfl rfl (by decide) s56_strip s56_ok hsz hk

/-! 57: (planchet ranks.tournament).walk -/
@[reducible] def q57_0 : SCode := .region [⟨some 3, .box 55 (.tmp 0), none⟩,
    ⟨some 4, .box 3 (.tmp 1), none⟩,
    ⟨some 5, .box 27 (.tmp 2), none⟩,
    ⟨some 6, .assign (.const (.slice none 0 0)), none⟩]
@[reducible] def q57_1 : SCode := .region [⟨some 7, .alloc 22, none⟩]
@[reducible] def q57_2 : SCode := .region [⟨some 8, .alloc 79, none⟩]
@[reducible] def q57_3 : SCode := .region [⟨some 9, .makeFunc (.func 92) #[] #[.tmp 7, .tmp 4, .tmp 5, .tmp 3, .tmp 8], none⟩,
    ⟨none, .store 79 (.tmp 8) (.tmp 9), none⟩]
def q57_4 : SCode := .draw [⟨some 10, .load 79 (.tmp 8), none⟩,
    ⟨some 11, .load 55 (.tmp 3), none⟩,
    ⟨some 12, .call { callee := .value (.func 63), args := #[.tmp 11], argTypes := #[55] }, none⟩,
    ⟨some 13, .call { callee := .value (.tmp 10), args := #[.tmp 12], argTypes := #[3] }, none⟩,
    ⟨some 14, .unOp .not 4 (.tmp 13), none⟩]
   [[], [], [1], [0, 2, 2], [3]]
@[reducible] def q57_5 : SCode := .region [⟨some 6, .assign (.const (.slice none 0 0)), none⟩]
@[reducible] def q57_6 : SCode := .region [⟨some 15, .load 22 (.tmp 7), none⟩,
    ⟨some 6, .assign (.tmp 15), none⟩]
def s57 : SCode := (.seq q57_0 (.seq q57_1 (.seq q57_2 (.seq q57_3 (.seq (.seq q57_4 (.cond (.tmp 14) (.seq q57_5 .ret) .skip)) (.seq q57_6 .ret))))))
theorem s57_strip : stripC (bodyOf Tryd.f57) = s57 := by kernel_rfl
theorem s57_ok : codeOK 16 (bodyOf Tryd.f57) = true := by kernel_rfl
theorem s57_call [Tabs Tryd.prog] {args : List Value} {h : Heap} {Q : Value → Heap → Prop} (hsz : args.length ≤ 16) (hk : aw Tryd.prog 16 s57 (aPost Tryd.prog [.tmp 6] Q) (argEnv 0 args) h) : ACall Tryd.prog 57 args h Q :=
  acall_s Tryd.func57 rfl (enters_of Tryd.func57 (by kernel_rfl) rfl) rfl rfl (by decide) s57_strip s57_ok hsz hk

/-! 58: planchet ranks.Way$1 -/
@[reducible] def q58_0 : SCode := .region [⟨some 2, .assign (.const (.bool false)), none⟩]
@[reducible] def q58_1 : SCode := .region [⟨some 2, .assign (.const (.bool true)), none⟩]
def s58 : SCode := (.seq q58_0 (.seq q58_1 .ret))
theorem s58_strip : stripC (bodyOf Tryd.f58) = s58 := by kernel_rfl
theorem s58_ok : codeOK 3 (bodyOf Tryd.f58) = true := by kernel_rfl
theorem s58_call [Tabs Tryd.prog] {args : List Value} {h : Heap} {Q : Value → Heap → Prop} (hsz : args.length ≤ 3) (hk : aw Tryd.prog 3 s58 (aPost Tryd.prog [.tmp 2] Q) (argEnv 0 args) h) : ACall Tryd.prog 58 args h Q :=
  acall_s Tryd.func58 rfl (enters_of Tryd.func58 (by kernel_rfl) rfl) rfl rfl (by decide) s58_strip s58_ok hsz hk

/-! 59: planchet ranks.Round$1 -/
@[reducible] def q59_0 : SCode := .region [⟨some 4, .assign (.const (.bool false)), none⟩]
def q59_1 : SCode := .draw [⟨some 5, .load 55 (.tmp 1), none⟩,
    ⟨some 6, .move (.tmp 0), none⟩,
    ⟨some 7, .load 3 (.tmp 2), none⟩,
    ⟨some 8, .binOp .sub 3 (.tmp 7) (.const (.int .i64 1)) 3, none⟩,
    ⟨some 9, .indexAddr 22 (.tmp 6) (.tmp 8), none⟩,
    ⟨some 10, .load 3 (.tmp 9), none⟩,
    ⟨some 11, .move (.tmp 0), none⟩,
    ⟨some 12, .indexAddr 22 (.tmp 11) (.const (.int .i64 0)), none⟩,
    ⟨some 13, .load 3 (.tmp 12), none⟩,
    ⟨some 14, .call { callee := .value (.func 60), args := #[.tmp 5, .tmp 10, .tmp 13], argTypes := #[55, 3, 3] }, none⟩,
    ⟨some 4, .assign (.tmp 14), none⟩]
   [[], [], [], [2], [1, 3], [4], [], [6], [7], [0, 5, 8], [9, 9, 0, 1, 2, 3, 4, 5, 6, 7, 8, 9]]
def s59 : SCode := (.seq q59_0 (.seq q59_1 .ret))
theorem s59_strip : stripC (bodyOf Tryd.f59) = s59 := by kernel_rfl
theorem s59_ok : codeOK 15 (bodyOf Tryd.f59) = true := by kernel_rfl
theorem s59_call [Tabs Tryd.prog] {args : List Value} {h : Heap} {Q : Value → Heap → Prop} (hsz : args.length ≤ 15) (hk : aw Tryd.prog 15 s59 (aPost Tryd.prog [.tmp 4] Q) (argEnv 0 args) h) : ACall Tryd.prog 59 args h Q :=
  acall_s Tryd.func59 rfl (enters_of Tryd.func59 (by kernel_rfl) rfl) rfl rfl (by decide) s59_strip s59_ok hsz hk

/-! 60: (planchet ranks.tournament).beats -/
@[reducible] def q60_0 : SCode := .region [⟨some 6, .assign (.const (.bool false)), none⟩]
@[reducible] def q60_1 : SCode := .region [⟨some 7, .move (.tmp 0), none⟩,
    ⟨some 8, .move (.tmp 1), none⟩,
    ⟨some 9, .indexAddr 55 (.tmp 7) (.tmp 8), none⟩,
    ⟨some 10, .load 3 (.tmp 9), none⟩,
    ⟨some 11, .move (.tmp 2), none⟩,
    ⟨some 12, .binOp .shr 3 (.tmp 10) (.tmp 11) 3, none⟩,
    ⟨some 13, .binOp .and 3 (.tmp 12) (.const (.int .i64 1)) 3, none⟩,
    ⟨some 14, .binOp .eql 3 (.tmp 13) (.const (.int .i64 1)) 3, none⟩,
    ⟨some 6, .assign (.tmp 14), none⟩]
def s60 : SCode := (.seq q60_0 (.seq q60_1 .ret))
theorem s60_strip : stripC (bodyOf Tryd.f60) = s60 := by kernel_rfl
theorem s60_ok : codeOK 15 (bodyOf Tryd.f60) = true := by kernel_rfl
theorem s60_call [Tabs Tryd.prog] {args : List Value} {h : Heap} {Q : Value → Heap → Prop} (hsz : args.length ≤ 15) (hk : aw Tryd.prog 15 s60 (aPost Tryd.prog [.tmp 6] Q) (argEnv 0 args) h) : ACall Tryd.prog 60 args h Q :=
  acall_s Tryd.func60 rfl (enters_of Tryd.func60 (by kernel_rfl) rfl) rfl rfl (by decide) s60_strip s60_ok hsz hk

/-! 62: planchet ranks.players -/
@[reducible] def q62_0 : SCode := .region [⟨some 1, .box 3 (.tmp 0), none⟩,
    ⟨some 2, .assign (.const .nilFunc), none⟩]
@[reducible] def q62_1 : SCode := .region [⟨some 3, .makeFunc (.func 93) #[] #[.tmp 1], none⟩,
    ⟨some 2, .assign (.tmp 3), none⟩]
def s62 : SCode := (.seq q62_0 (.seq q62_1 .ret))
theorem s62_strip : stripC (bodyOf Tryd.f62) = s62 := by kernel_rfl
theorem s62_ok : codeOK 4 (bodyOf Tryd.f62) = true := by kernel_rfl
theorem s62_call [Tabs Tryd.prog] {args : List Value} {h : Heap} {Q : Value → Heap → Prop} (hsz : args.length ≤ 4) (hk : aw Tryd.prog 4 s62 (aPost Tryd.prog [.tmp 2] Q) (argEnv 0 args) h) : ACall Tryd.prog 62 args h Q :=
  acall_s Tryd.func62 rfl (enters_of Tryd.func62 (by kernel_rfl) rfl) rfl rfl (by decide) s62_strip s62_ok hsz hk

/-! 63: (planchet ranks.tournament).all -/
@[reducible] def q63_0 : SCode := .region [⟨some 2, .assign (.const (.int .i64 0)), none⟩]
@[reducible] def q63_1 : SCode := .region [⟨some 3, .move (.tmp 0), none⟩,
    ⟨some 4, .call { callee := .builtin .len, args := #[.tmp 3], argTypes := #[55] }, none⟩,
    ⟨some 5, .binOp .shl 3 (.const (.int .i64 1)) (.tmp 4) 3, none⟩,
    ⟨some 6, .binOp .sub 3 (.tmp 5) (.const (.int .i64 1)) 3, none⟩,
    ⟨some 2, .assign (.tmp 6), none⟩]
def s63 : SCode := (.seq q63_0 (.seq q63_1 .ret))
theorem s63_strip : stripC (bodyOf Tryd.f63) = s63 := by kernel_rfl
theorem s63_ok : codeOK 7 (bodyOf Tryd.f63) = true := by kernel_rfl
theorem s63_call [Tabs Tryd.prog] {args : List Value} {h : Heap} {Q : Value → Heap → Prop} (hsz : args.length ≤ 7) (hk : aw Tryd.prog 7 s63 (aPost Tryd.prog [.tmp 2] Q) (argEnv 0 args) h) : ACall Tryd.prog 63 args h Q :=
  acall_s Tryd.func63 rfl (enters_of Tryd.func63 (by kernel_rfl) rfl) rfl rfl (by decide) s63_strip s63_ok hsz hk

/-! 92: (planchet ranks.tournament).walk$1 -/
@[reducible] def q92_0 : SCode := .region [⟨some 6, .box 3 (.tmp 0), none⟩,
    ⟨some 7, .alloc 4, none⟩]
@[reducible] def q92_1 : SCode := .region [⟨some 9, .load 22 (.tmp 1), none⟩,
    ⟨some 10, .call { callee := .builtin .len, args := #[.tmp 9], argTypes := #[22] }, none⟩,
    ⟨some 11, .load 3 (.tmp 2), none⟩,
    ⟨some 12, .binOp .eql 3 (.tmp 10) (.tmp 11) 3, none⟩]
@[reducible] def q92_2 : SCode := .region [⟨some 13, .load 27 (.tmp 3), none⟩,
    ⟨some 14, .load 22 (.tmp 1), none⟩,
    ⟨some 15, .call { callee := .value (.tmp 13), args := #[.tmp 14], argTypes := #[22] }, none⟩,
    ⟨none, .store 4 (.tmp 7) (.tmp 15), none⟩]
@[reducible] def q92_3 : SCode := .region [⟨some 16, .load 3 (.tmp 6), none⟩,
    ⟨some 17, .call { callee := .value (.func 62), args := #[.tmp 16], argTypes := #[3] }, none⟩]
@[reducible] def q92_4 : SCode := .region [⟨some 8, .assign (.tmp 18), none⟩]
def q92_5 : SCode := .draw [⟨some 19, .load 22 (.tmp 1), none⟩,
    ⟨some 20, .call { callee := .builtin .len, args := #[.tmp 19], argTypes := #[22] }, none⟩,
    ⟨some 21, .binOp .gtr 3 (.tmp 20) (.const (.int .i64 0)) 3, none⟩,
    ⟨some 22, .move (.tmp 21), none⟩,
    ⟨some 23, .load 55 (.tmp 4), some (22, true)⟩,
    ⟨some 24, .load 22 (.tmp 1), some (22, true)⟩,
    ⟨some 25, .load 22 (.tmp 1), some (22, true)⟩,
    ⟨some 26, .call { callee := .builtin .len, args := #[.tmp 25], argTypes := #[22] }, some (22, true)⟩,
    ⟨some 27, .binOp .sub 3 (.tmp 26) (.const (.int .i64 1)) 3, some (22, true)⟩,
    ⟨some 28, .indexAddr 22 (.tmp 24) (.tmp 27), some (22, true)⟩,
    ⟨some 29, .load 3 (.tmp 28), some (22, true)⟩,
    ⟨some 30, .move (.tmp 8), some (22, true)⟩,
    ⟨some 31, .call { callee := .value (.func 60), args := #[.tmp 23, .tmp 29, .tmp 30], argTypes := #[55, 3, 3] }, some (22, true)⟩,
    ⟨some 32, .unOp .not 4 (.tmp 31), some (22, true)⟩,
    ⟨some 33, .pick (.tmp 22) (.tmp 32) (.const (.bool false)), none⟩]
   [[], [0], [1], [2], [3], [3], [3], [6, 3], [7, 3], [5, 8, 3], [9, 3], [3], [4, 10, 11, 3, 3], [12, 3], [3, 13]]
@[reducible] def q92_6 : SCode := .region [⟨some 34, .load 22 (.tmp 1), none⟩,
    ⟨some 35, .move (.tmp 8), none⟩,
    ⟨some 36, .buildSlice 22 1 #[(0, .tmp 35)], none⟩,
    ⟨some 37, .call { callee := .builtin .append, args := #[.tmp 34, .tmp 36], argTypes := #[22, 22] }, none⟩,
    ⟨none, .store 22 (.tmp 1) (.tmp 37), none⟩]
def q92_7 : SCode := .draw [⟨some 38, .load 79 (.tmp 5), none⟩,
    ⟨some 39, .load 3 (.tmp 6), none⟩,
    ⟨some 40, .move (.tmp 8), none⟩,
    ⟨some 41, .binOp .shl 3 (.const (.int .i64 1)) (.tmp 40) 3, none⟩,
    ⟨some 42, .binOp .andNot 3 (.tmp 39) (.tmp 41) 3, none⟩,
    ⟨some 43, .call { callee := .value (.tmp 38), args := #[.tmp 42], argTypes := #[3] }, none⟩]
   [[], [], [], [2], [1, 3], [0, 4]]
@[reducible] def q92_8 : SCode := .region [⟨none, .store 4 (.tmp 7) (.const (.bool true)), none⟩]
@[reducible] def q92_9 : SCode := .region [⟨some 44, .load 22 (.tmp 1), none⟩,
    ⟨some 45, .load 22 (.tmp 1), none⟩,
    ⟨some 46, .call { callee := .builtin .len, args := #[.tmp 45], argTypes := #[22] }, none⟩,
    ⟨some 47, .binOp .sub 3 (.tmp 46) (.const (.int .i64 1)) 3, none⟩,
    ⟨some 48, .slice 22 (.tmp 44) none (some (.tmp 47)) none, none⟩,
    ⟨none, .store 22 (.tmp 1) (.tmp 48), none⟩]
def r92_0_a : SCode := q92_4
def r92_0_b : SCode := (.block 1 (.seq (.seq q92_5 (.cond (.tmp 33) (.exit 1) .skip)) (.seq q92_6 (.seq (.seq q92_7 (.cond (.tmp 43) (.seq q92_8 .ret) .skip)) q92_9))))
@[reducible] def q92_10 : SCode := .region [⟨none, .store 4 (.tmp 7) (.const (.bool false)), none⟩]
def s92 : SCode := (.seq q92_0 (.seq (.seq q92_1 (.cond (.tmp 12) (.seq q92_2 .ret) .skip)) (.seq (.seq q92_3 (.block 0 (.range (.tmp 17) [18] r92_0_a r92_0_b))) (.seq q92_10 .ret))))
theorem s92_strip : stripC (bodyOf Tryd.f92) = s92 := by kernel_rfl
theorem s92_ok : codeOK 49 (bodyOf Tryd.f92) = true := by kernel_rfl
theorem s92_call [Tabs Tryd.prog] {args : List Value} {h : Heap} {Q : Value → Heap → Prop} (hsz : args.length ≤ 49) (hk : aw Tryd.prog 49 s92 (aPost Tryd.prog [.cell 7 4] Q) (argEnv 0 args) h) : ACall Tryd.prog 92 args h Q :=
  acall_s Tryd.func92 rfl (enters_of Tryd.func92 (by kernel_rfl) rfl) rfl rfl (by decide) s92_strip s92_ok hsz hk

end Go.Proofs.Tryd.Am

namespace Go.Proofs.Tryd.Am
open Go.Am

def bitI (z : Int) (j : Nat) : Bool := z.toNat.testBit j
/-- Player i's set is one, and goes with those of the players before. -/
def okAt (xs : List Int) (i : Nat) : Bool :=
  decide (0 ≤ xs.getD i 0) && decide (xs.getD i 0 < 2 ^ xs.length) && !bitI (xs.getD i 0) i && (List.range i).all fun j => bitI (xs.getD i 0) j != bitI (xs.getD j 0) i
def trn (xs : List Int) : Bool := decide (1 ≤ xs.length) && decide (xs.length ≤ 8) && (List.range xs.length).all (okAt xs)

theorem testI {z : Int} (h0 : 0 ≤ z) (h1 : z < 9223372036854775808) (i : Nat) : bitsV .and .i64 (shrV .i64 z i) 1 = if bitI z i then 1 else 0 := by
  have := testV (a := z.toNat) (y := i) (by omega)
  rw [Int.toNat_of_nonneg h0] at this
  exact this
theorem pow8 {n : Nat} (h : n ≤ 8) : (2 : Int) ^ n ≤ 256 ∧ 0 < (2 : Int) ^ n := by
  have : n = 0 ∨ n = 1 ∨ n = 2 ∨ n = 3 ∨ n = 4 ∨ n = 5 ∨ n = 6 ∨ n = 7 ∨ n = 8 := by omega
  rcases this with rfl | rfl | rfl | rfl | rfl | rfl | rfl | rfl | rfl <;> decide
theorem shl1 {n : Nat} (h : n ≤ 62) : shlV .i64 1 n = 2 ^ n := by
  have h2 : 2 ^ n ≤ 2 ^ 62 := Nat.pow_le_pow_right (by decide) h
  have := shlV_nat (a := 1) (y := n) (by omega) (by omega)
  simpa using this

theorem valid_call [Tabs prog] {h : Heap} {v : Value} {xs : List Int} (hv : IntSl h v xs) (hl : xs.length < 9223372036854775808) (hx : ∀ x ∈ xs, -9223372036854775808 ≤ x ∧ x < 9223372036854775808) : APure prog 56 [v] h (.bool (trn xs)) := by
  refine s56_call (by simp) ?_
  simp (maxSteps := 2000000) only [s56, ↓aw_region, ↓aw_skip, ↓aw_seq, ↓aw_block, ↓aw_exit, ↓aw_ret, ↓sops_nil, ↓sops_go, ↓dops_nil, ↓dopsX_nil, ↓dopsR_nil, ↓vdn, vup, extr_20, extr_21, extr_30, extr_31, extr_32, List.map_cons, List.map_nil, cond_true, cond_false, aop, aThen, aBlock, argEnv, ev, sput, sputO, binK, binI, unK, builtinK, pickK, Nat.reduceBEq, Nat.reduceAdd, Int.reduceBEq, Int.reduceBNe, Int.reduceLT, aPost, resK, tup, tyf, hv.len]
  by_cases h1 : (xs.length : Int) < 1
  · have ht : trn xs = false := by simp [trn]; omega
    simp (maxSteps := 2000000) only [s56, ↓aw_region, ↓aw_skip, ↓aw_seq, ↓aw_block, ↓aw_exit, ↓aw_ret, ↓sops_nil, ↓sops_go, ↓dops_nil, ↓dopsX_nil, ↓dopsR_nil, ↓vdn, vup, extr_20, extr_21, extr_30, extr_31, extr_32, List.map_cons, List.map_nil, cond_true, cond_false, aop, aThen, aBlock, argEnv, ev, sput, sputO, binK, binI, unK, builtinK, pickK, Nat.reduceBEq, Nat.reduceAdd, Int.reduceBEq, Int.reduceBNe, Int.reduceLT, aPost, resK, tup, tyf, h1, ht]
  by_cases h8 : (8 : Int) < xs.length
  · have ht : trn xs = false := by simp [trn]; omega
    simp (maxSteps := 2000000) only [s56, ↓aw_region, ↓aw_skip, ↓aw_seq, ↓aw_block, ↓aw_exit, ↓aw_ret, ↓sops_nil, ↓sops_go, ↓dops_nil, ↓dopsX_nil, ↓dopsR_nil, ↓vdn, vup, extr_20, extr_21, extr_30, extr_31, extr_32, List.map_cons, List.map_nil, cond_true, cond_false, aop, aThen, aBlock, argEnv, ev, sput, sputO, binK, binI, unK, builtinK, pickK, Nat.reduceBEq, Nat.reduceAdd, Int.reduceBEq, Int.reduceBNe, Int.reduceLT, aPost, resK, tup, tyf, h1, h8, ht]
  have hp := pow8 (n := xs.length) (by omega)
  simp (maxSteps := 2000000) only [s56, ↓aw_region, ↓aw_skip, ↓aw_seq, ↓aw_block, ↓aw_exit, ↓aw_ret, ↓sops_nil, ↓sops_go, ↓dops_nil, ↓dopsX_nil, ↓dopsR_nil, ↓vdn, vup, extr_20, extr_21, extr_30, extr_31, extr_32, List.map_cons, List.map_nil, cond_true, cond_false, aop, aThen, aBlock, argEnv, ev, sput, sputO, binK, binI, unK, builtinK, pickK, Nat.reduceBEq, Nat.reduceAdd, Int.reduceBEq, Int.reduceBNe, Int.reduceLT, aPost, resK, tup, tyf, h1, h8, hv.len, ↓aw_loop_eq]
  refine aws_hide fun Q hQ => ?_
  refine aw_loop (γ := Nat) (fun i => i ≤ xs.length ∧ ∀ k, k < i → okAt xs k = true)
    (fun i => ([(0, v), (2, .bool false), (3, vint xs.length), (15, v), (16, vint xs.length), (17, vint i)], h)) (fun i => xs.length - i) 0 ⟨by omega, fun _ hk => by omega⟩ (by simp (maxSteps := 2000000) only [↓aw_region, ↓aw_skip, ↓aw_seq, ↓aw_block, ↓aw_exit, ↓aw_ret, ↓sops_nil, ↓sops_go, ↓dops_nil, ↓dopsX_nil, ↓dopsR_nil, ↓vdn, vup, extr_20, extr_21, extr_30, extr_31, extr_32, List.map_cons, List.map_nil, cond_true, cond_false, aop, aThen, aBlock, argEnv, ev, sput, sputO, binK, binI, unK, builtinK, pickK, Nat.reduceBEq, Nat.reduceAdd, Int.reduceBEq, Int.reduceBNe, Int.reduceLT, aPost, resK, tup, tyf, Int.natCast_zero]) rfl ?_
  rintro i ⟨hi, hok⟩
  refine aw_hide fun Q2 hQ2 => ?_
  by_cases hin : (i : Int) < xs.length
  · have hin' : i < xs.length := by omega
    have hbad : okAt xs i = false → trn xs = false := fun hb => by
      have : (List.range xs.length).all (okAt xs) = false := by
        rw [List.all_eq_false]; exact ⟨i, by simpa using hin', by simp [hb]⟩
      simp [trn, this]
    obtain ⟨hx1, hx2⟩ := hx (xs.getD i 0) (by rw [List.getD, List.getElem?_eq_getElem hin']; exact List.getElem_mem hin')
    simp (maxSteps := 2000000) only [s56, ↓aw_region, ↓aw_skip, ↓aw_seq, ↓aw_block, ↓aw_exit, ↓aw_ret, ↓sops_nil, ↓sops_go, ↓dops_nil, ↓dopsX_nil, ↓dopsR_nil, ↓vdn, vup, extr_20, extr_21, extr_30, extr_31, extr_32, List.map_cons, List.map_nil, cond_true, cond_false, aop, aThen, aBlock, argEnv, ev, sput, sputO, binK, binI, unK, builtinK, pickK, Nat.reduceBEq, Nat.reduceAdd, Int.reduceBEq, Int.reduceBNe, Int.reduceLT, aPost, resK, tup, tyf, l56_1, hin, hv.idx el_55 esz_3 hin', hv.load shp_3 hin']
    by_cases hneg : xs.getD i 0 < 0
    · have hb := hbad (by rw [okAt, decide_eq_false (show ¬ 0 ≤ xs.getD i 0 by omega)]; rfl)
      simp (maxSteps := 2000000) only [s56, ↓aw_region, ↓aw_skip, ↓aw_seq, ↓aw_block, ↓aw_exit, ↓aw_ret, ↓sops_nil, ↓sops_go, ↓dops_nil, ↓dopsX_nil, ↓dopsR_nil, ↓vdn, vup, extr_20, extr_21, extr_30, extr_31, extr_32, List.map_cons, List.map_nil, cond_true, cond_false, aop, aThen, aBlock, argEnv, ev, sput, sputO, binK, binI, unK, builtinK, pickK, Nat.reduceBEq, Nat.reduceAdd, Int.reduceBEq, Int.reduceBNe, Int.reduceLT, aPost, resK, tup, tyf, hneg]
      refine hQ2 _ _ _ (hQ _ _ _ ?_)
      simp (maxSteps := 2000000) only [↓aw_region, ↓aw_skip, ↓aw_seq, ↓aw_block, ↓aw_exit, ↓aw_ret, ↓sops_nil, ↓sops_go, ↓dops_nil, ↓dopsX_nil, ↓dopsR_nil, ↓vdn, vup, extr_20, extr_21, extr_30, extr_31, extr_32, List.map_cons, List.map_nil, cond_true, cond_false, aop, aThen, aBlock, argEnv, ev, sput, sputO, binK, binI, unK, builtinK, pickK, Nat.reduceBEq, Nat.reduceAdd, Int.reduceBEq, Int.reduceBNe, Int.reduceLT, aPost, resK, tup, tyf, hb]
    simp (maxSteps := 2000000) only [s56, ↓aw_region, ↓aw_skip, ↓aw_seq, ↓aw_block, ↓aw_exit, ↓aw_ret, ↓sops_nil, ↓sops_go, ↓dops_nil, ↓dopsX_nil, ↓dopsR_nil, ↓vdn, vup, extr_20, extr_21, extr_30, extr_31, extr_32, List.map_cons, List.map_nil, cond_true, cond_false, aop, aThen, aBlock, argEnv, ev, sput, sputO, binK, binI, unK, builtinK, pickK, Nat.reduceBEq, Nat.reduceAdd, Int.reduceBEq, Int.reduceBNe, Int.reduceLT, aPost, resK, tup, tyf, hneg, shl1 (show xs.length ≤ 62 by omega), Int.natCast_nonneg]
    by_cases hbig : 2 ^ xs.length ≤ xs.getD i 0
    · have hb := hbad (by rw [okAt, decide_eq_false (show ¬ xs.getD i 0 < 2 ^ xs.length from Int.not_lt.2 hbig), Bool.and_false]; rfl)
      simp (maxSteps := 2000000) only [s56, ↓aw_region, ↓aw_skip, ↓aw_seq, ↓aw_block, ↓aw_exit, ↓aw_ret, ↓sops_nil, ↓sops_go, ↓dops_nil, ↓dopsX_nil, ↓dopsR_nil, ↓vdn, vup, extr_20, extr_21, extr_30, extr_31, extr_32, List.map_cons, List.map_nil, cond_true, cond_false, aop, aThen, aBlock, argEnv, ev, sput, sputO, binK, binI, unK, builtinK, pickK, Nat.reduceBEq, Nat.reduceAdd, Int.reduceBEq, Int.reduceBNe, Int.reduceLT, aPost, resK, tup, tyf, hbig]
      refine hQ2 _ _ _ (hQ _ _ _ ?_)
      simp (maxSteps := 2000000) only [↓aw_region, ↓aw_skip, ↓aw_seq, ↓aw_block, ↓aw_exit, ↓aw_ret, ↓sops_nil, ↓sops_go, ↓dops_nil, ↓dopsX_nil, ↓dopsR_nil, ↓vdn, vup, extr_20, extr_21, extr_30, extr_31, extr_32, List.map_cons, List.map_nil, cond_true, cond_false, aop, aThen, aBlock, argEnv, ev, sput, sputO, binK, binI, unK, builtinK, pickK, Nat.reduceBEq, Nat.reduceAdd, Int.reduceBEq, Int.reduceBNe, Int.reduceLT, aPost, resK, tup, tyf, hb]
    have hs0 : 0 ≤ xs.getD i 0 := by omega
    have hs1 : xs.getD i 0 < 9223372036854775808 := by omega
    by_cases hbit : bitI (xs.getD i 0) i = true
    · have hb := hbad (by rw [okAt, hbit, Bool.not_true, Bool.and_false]; rfl)
      simp (maxSteps := 2000000) only [s56, ↓aw_region, ↓aw_skip, ↓aw_seq, ↓aw_block, ↓aw_exit, ↓aw_ret, ↓sops_nil, ↓sops_go, ↓dops_nil, ↓dopsX_nil, ↓dopsR_nil, ↓vdn, vup, extr_20, extr_21, extr_30, extr_31, extr_32, List.map_cons, List.map_nil, cond_true, cond_false, aop, aThen, aBlock, argEnv, ev, sput, sputO, binK, binI, unK, builtinK, pickK, Nat.reduceBEq, Nat.reduceAdd, Int.reduceBEq, Int.reduceBNe, Int.reduceLT, aPost, resK, tup, tyf, hbig, Int.natCast_nonneg, testI hs0 hs1, hbit, if_true, Int.reduceBEq]
      refine hQ2 _ _ _ (hQ _ _ _ ?_)
      simp (maxSteps := 2000000) only [↓aw_region, ↓aw_skip, ↓aw_seq, ↓aw_block, ↓aw_exit, ↓aw_ret, ↓sops_nil, ↓sops_go, ↓dops_nil, ↓dopsX_nil, ↓dopsR_nil, ↓vdn, vup, extr_20, extr_21, extr_30, extr_31, extr_32, List.map_cons, List.map_nil, cond_true, cond_false, aop, aThen, aBlock, argEnv, ev, sput, sputO, binK, binI, unK, builtinK, pickK, Nat.reduceBEq, Nat.reduceAdd, Int.reduceBEq, Int.reduceBNe, Int.reduceLT, aPost, resK, tup, tyf, hb]
    simp only [Bool.not_eq_true] at hbit
    simp (maxSteps := 2000000) only [s56, ↓aw_region, ↓aw_skip, ↓aw_seq, ↓aw_block, ↓aw_exit, ↓aw_ret, ↓sops_nil, ↓sops_go, ↓dops_nil, ↓dopsX_nil, ↓dopsR_nil, ↓vdn, vup, extr_20, extr_21, extr_30, extr_31, extr_32, List.map_cons, List.map_nil, cond_true, cond_false, aop, aThen, aBlock, argEnv, ev, sput, sputO, binK, binI, unK, builtinK, pickK, Nat.reduceBEq, Nat.reduceAdd, Int.reduceBEq, Int.reduceBNe, Int.reduceLT, aPost, resK, tup, tyf, hbig, Int.natCast_nonneg, testI hs0 hs1, hbit, if_false, Bool.false_eq_true, Int.reduceBEq, ↓aw_loop_eq]
    refine aws_hide fun Q3 hQ3 => ?_
    refine aw_loop (γ := Nat) (fun j => j ≤ i ∧ ∀ k, k < j → (bitI (xs.getD i 0) k != bitI (xs.getD k 0) i) = true)
      (fun j => ([(0, v), (2, .bool false), (3, vint xs.length), (4, vint i), (5, vint (xs.getD i 0)), (15, v), (16, vint xs.length), (17, vint i), (37, vint i), (38, vint j)], h)) (fun j => i - j) 0 ⟨by omega, fun _ hk => by omega⟩ (by simp (maxSteps := 2000000) only [↓aw_region, ↓aw_skip, ↓aw_seq, ↓aw_block, ↓aw_exit, ↓aw_ret, ↓sops_nil, ↓sops_go, ↓dops_nil, ↓dopsX_nil, ↓dopsR_nil, ↓vdn, vup, extr_20, extr_21, extr_30, extr_31, extr_32, List.map_cons, List.map_nil, cond_true, cond_false, aop, aThen, aBlock, argEnv, ev, sput, sputO, binK, binI, unK, builtinK, pickK, Nat.reduceBEq, Nat.reduceAdd, Int.reduceBEq, Int.reduceBNe, Int.reduceLT, aPost, resK, tup, tyf, Int.natCast_zero]) rfl ?_
    rintro j ⟨hj, hokj⟩
    refine aw_hide fun Q4 hQ4 => ?_
    by_cases hji : (j : Int) < i
    · have hji' : j < i := by omega
      have hjn : j < xs.length := by omega
      have hoj := hok j hji'
      have hoj' := hoj
      rw [okAt, Bool.and_eq_true, Bool.and_eq_true, Bool.and_eq_true, decide_eq_true_eq, decide_eq_true_eq] at hoj'
      have ht0 : 0 ≤ xs.getD j 0 := hoj'.1.1.1
      have ht1 : xs.getD j 0 < 9223372036854775808 := by have := hoj'.1.1.2; omega
      simp (maxSteps := 2000000) only [s56, ↓aw_region, ↓aw_skip, ↓aw_seq, ↓aw_block, ↓aw_exit, ↓aw_ret, ↓sops_nil, ↓sops_go, ↓dops_nil, ↓dopsX_nil, ↓dopsR_nil, ↓vdn, vup, extr_20, extr_21, extr_30, extr_31, extr_32, List.map_cons, List.map_nil, cond_true, cond_false, aop, aThen, aBlock, argEnv, ev, sput, sputO, binK, binI, unK, builtinK, pickK, Nat.reduceBEq, Nat.reduceAdd, Int.reduceBEq, Int.reduceBNe, Int.reduceLT, aPost, resK, tup, tyf, l56_0, hji]
      refine aw_draw [] (by kernel_rfl) (by kernel_rfl) (by kernel_rfl) ?_
      by_cases heq : (bitI (xs.getD i 0) j == bitI (xs.getD j 0) i) = true
      · have hb := hbad (by
          have : ((List.range i).all fun j => bitI (xs.getD i 0) j != bitI (xs.getD j 0) i) = false := by
            rw [List.all_eq_false]; exact ⟨j, List.mem_range.2 hji', by rw [bne, heq]; decide⟩
          rw [okAt, this, Bool.and_false])
        simp (maxSteps := 2000000) only [s56, ↓aw_region, ↓aw_skip, ↓aw_seq, ↓aw_block, ↓aw_exit, ↓aw_ret, ↓sops_nil, ↓sops_go, ↓dops_nil, ↓dopsX_nil, ↓dopsR_nil, ↓vdn, vup, extr_20, extr_21, extr_30, extr_31, extr_32, List.map_cons, List.map_nil, cond_true, cond_false, aop, aThen, aBlock, argEnv, ev, sput, sputO, binK, binI, unK, builtinK, pickK, Nat.reduceBEq, Nat.reduceAdd, Int.reduceBEq, Int.reduceBNe, Int.reduceLT, aPost, resK, tup, tyf, Int.natCast_nonneg, testI hs0 hs1, testI ht0 ht1, hv.idx el_55 esz_3 hjn, hv.load shp_3 hjn, beq01, heq]
        refine hQ4 _ _ _ (hQ3 _ _ _ ?_)
        simp (maxSteps := 2000000) only [s56, ↓aw_region, ↓aw_skip, ↓aw_seq, ↓aw_block, ↓aw_exit, ↓aw_ret, ↓sops_nil, ↓sops_go, ↓dops_nil, ↓dopsX_nil, ↓dopsR_nil, ↓vdn, vup, extr_20, extr_21, extr_30, extr_31, extr_32, List.map_cons, List.map_nil, cond_true, cond_false, aop, aThen, aBlock, argEnv, ev, sput, sputO, binK, binI, unK, builtinK, pickK, Nat.reduceBEq, Nat.reduceAdd, Int.reduceBEq, Int.reduceBNe, Int.reduceLT, aPost, resK, tup, tyf]
        refine hQ2 _ _ _ (hQ _ _ _ ?_)
        simp (maxSteps := 2000000) only [↓aw_region, ↓aw_skip, ↓aw_seq, ↓aw_block, ↓aw_exit, ↓aw_ret, ↓sops_nil, ↓sops_go, ↓dops_nil, ↓dopsX_nil, ↓dopsR_nil, ↓vdn, vup, extr_20, extr_21, extr_30, extr_31, extr_32, List.map_cons, List.map_nil, cond_true, cond_false, aop, aThen, aBlock, argEnv, ev, sput, sputO, binK, binI, unK, builtinK, pickK, Nat.reduceBEq, Nat.reduceAdd, Int.reduceBEq, Int.reduceBNe, Int.reduceLT, aPost, resK, tup, tyf, hb]
      · simp only [Bool.not_eq_true] at heq
        simp (maxSteps := 2000000) only [s56, ↓aw_region, ↓aw_skip, ↓aw_seq, ↓aw_block, ↓aw_exit, ↓aw_ret, ↓sops_nil, ↓sops_go, ↓dops_nil, ↓dopsX_nil, ↓dopsR_nil, ↓vdn, vup, extr_20, extr_21, extr_30, extr_31, extr_32, List.map_cons, List.map_nil, cond_true, cond_false, aop, aThen, aBlock, argEnv, ev, sput, sputO, binK, binI, unK, builtinK, pickK, Nat.reduceBEq, Nat.reduceAdd, Int.reduceBEq, Int.reduceBNe, Int.reduceLT, aPost, resK, tup, tyf, Int.natCast_nonneg, testI hs0 hs1, testI ht0 ht1, hv.idx el_55 esz_3 hjn, hv.load shp_3 hjn, beq01, heq, add1 (show j < 9223372036854775807 by omega)]
        refine hQ4 _ _ _ ⟨j + 1, ⟨by omega, fun k hk => ?_⟩, by omega, by simp (maxSteps := 2000000) only [↓aw_region, ↓aw_skip, ↓aw_seq, ↓aw_block, ↓aw_exit, ↓aw_ret, ↓sops_nil, ↓sops_go, ↓dops_nil, ↓dopsX_nil, ↓dopsR_nil, ↓vdn, vup, extr_20, extr_21, extr_30, extr_31, extr_32, List.map_cons, List.map_nil, cond_true, cond_false, aop, aThen, aBlock, argEnv, ev, sput, sputO, binK, binI, unK, builtinK, pickK, Nat.reduceBEq, Nat.reduceAdd, Int.reduceBEq, Int.reduceBNe, Int.reduceLT, aPost, resK, tup, tyf], rfl⟩
        by_cases hkj : k = j
        · subst hkj; rw [bne, heq]; rfl
        · exact hokj k (by omega)
    · obtain rfl : j = i := by omega
      simp (maxSteps := 2000000) only [s56, ↓aw_region, ↓aw_skip, ↓aw_seq, ↓aw_block, ↓aw_exit, ↓aw_ret, ↓sops_nil, ↓sops_go, ↓dops_nil, ↓dopsX_nil, ↓dopsR_nil, ↓vdn, vup, extr_20, extr_21, extr_30, extr_31, extr_32, List.map_cons, List.map_nil, cond_true, cond_false, aop, aThen, aBlock, argEnv, ev, sput, sputO, binK, binI, unK, builtinK, pickK, Nat.reduceBEq, Nat.reduceAdd, Int.reduceBEq, Int.reduceBNe, Int.reduceLT, aPost, resK, tup, tyf, l56_0, Int.lt_irrefl]
      refine hQ4 _ _ _ (hQ3 _ _ _ ?_)
      simp (maxSteps := 2000000) only [s56, ↓aw_region, ↓aw_skip, ↓aw_seq, ↓aw_block, ↓aw_exit, ↓aw_ret, ↓sops_nil, ↓sops_go, ↓dops_nil, ↓dopsX_nil, ↓dopsR_nil, ↓vdn, vup, extr_20, extr_21, extr_30, extr_31, extr_32, List.map_cons, List.map_nil, cond_true, cond_false, aop, aThen, aBlock, argEnv, ev, sput, sputO, binK, binI, unK, builtinK, pickK, Nat.reduceBEq, Nat.reduceAdd, Int.reduceBEq, Int.reduceBNe, Int.reduceLT, aPost, resK, tup, tyf, if_true, add1 (show j < 9223372036854775807 by omega)]
      refine hQ2 _ _ _ ⟨j + 1, ⟨by omega, fun k hk => ?_⟩, by omega, by simp (maxSteps := 2000000) only [↓aw_region, ↓aw_skip, ↓aw_seq, ↓aw_block, ↓aw_exit, ↓aw_ret, ↓sops_nil, ↓sops_go, ↓dops_nil, ↓dopsX_nil, ↓dopsR_nil, ↓vdn, vup, extr_20, extr_21, extr_30, extr_31, extr_32, List.map_cons, List.map_nil, cond_true, cond_false, aop, aThen, aBlock, argEnv, ev, sput, sputO, binK, binI, unK, builtinK, pickK, Nat.reduceBEq, Nat.reduceAdd, Int.reduceBEq, Int.reduceBNe, Int.reduceLT, aPost, resK, tup, tyf], rfl⟩
      by_cases hkj : k = j
      · subst hkj
        have : ((List.range k).all fun j => bitI (xs.getD k 0) j != bitI (xs.getD j 0) k) = true := by
          rw [List.all_eq_true]; exact fun j hj => hokj j (List.mem_range.1 hj)
        rw [okAt, decide_eq_true hs0, decide_eq_true (Int.not_le.1 hbig), hbit, this]; rfl
      · exact hok k (by omega)
  · obtain rfl : i = xs.length := by omega
    have ht : trn xs = true := by simp only [trn, Bool.and_eq_true, decide_eq_true_eq, List.all_eq_true, List.mem_range]; exact ⟨⟨by omega, by omega⟩, hok⟩
    simp (maxSteps := 2000000) only [s56, ↓aw_region, ↓aw_skip, ↓aw_seq, ↓aw_block, ↓aw_exit, ↓aw_ret, ↓sops_nil, ↓sops_go, ↓dops_nil, ↓dopsX_nil, ↓dopsR_nil, ↓vdn, vup, extr_20, extr_21, extr_30, extr_31, extr_32, List.map_cons, List.map_nil, cond_true, cond_false, aop, aThen, aBlock, argEnv, ev, sput, sputO, binK, binI, unK, builtinK, pickK, Nat.reduceBEq, Nat.reduceAdd, Int.reduceBEq, Int.reduceBNe, Int.reduceLT, aPost, resK, tup, tyf, l56_1, Int.lt_irrefl]
    refine hQ2 _ _ _ (hQ _ _ _ ?_)
    simp (maxSteps := 2000000) only [s56, ↓aw_region, ↓aw_skip, ↓aw_seq, ↓aw_block, ↓aw_exit, ↓aw_ret, ↓sops_nil, ↓sops_go, ↓dops_nil, ↓dopsX_nil, ↓dopsR_nil, ↓vdn, vup, extr_20, extr_21, extr_30, extr_31, extr_32, List.map_cons, List.map_nil, cond_true, cond_false, aop, aThen, aBlock, argEnv, ev, sput, sputO, binK, binI, unK, builtinK, pickK, Nat.reduceBEq, Nat.reduceAdd, Int.reduceBEq, Int.reduceBNe, Int.reduceLT, aPost, resK, tup, tyf, if_true, ht]

theorem rvalid_call [Tabs prog] {h : Heap} {v : Value} {xs : List Int} (hv : IntSl h v xs) (hl : xs.length < 9223372036854775808) (hx : ∀ x ∈ xs, -9223372036854775808 ≤ x ∧ x < 9223372036854775808) : APure prog 20 [v] h (.bool (trn xs)) := by
  refine s20_call (by simp) ?_
  simp (maxSteps := 2000000) only [s20, ↓aw_region, ↓aw_skip, ↓aw_seq, ↓aw_block, ↓aw_exit, ↓aw_ret, ↓sops_nil, ↓sops_go, ↓dops_nil, ↓dopsX_nil, ↓dopsR_nil, ↓vdn, vup, extr_20, extr_21, extr_30, extr_31, extr_32, List.map_cons, List.map_nil, cond_true, cond_false, aop, aThen, aBlock, argEnv, ev, sput, sputO, binK, binI, unK, builtinK, pickK, Nat.reduceBEq, Nat.reduceAdd, Int.reduceBEq, Int.reduceBNe, Int.reduceLT, aPost, resK, tup, tyf, hv.len]
  by_cases h1 : (xs.length : Int) < 1
  · have ht : trn xs = false := by simp [trn]; omega
    simp (maxSteps := 2000000) only [s20, ↓aw_region, ↓aw_skip, ↓aw_seq, ↓aw_block, ↓aw_exit, ↓aw_ret, ↓sops_nil, ↓sops_go, ↓dops_nil, ↓dopsX_nil, ↓dopsR_nil, ↓vdn, vup, extr_20, extr_21, extr_30, extr_31, extr_32, List.map_cons, List.map_nil, cond_true, cond_false, aop, aThen, aBlock, argEnv, ev, sput, sputO, binK, binI, unK, builtinK, pickK, Nat.reduceBEq, Nat.reduceAdd, Int.reduceBEq, Int.reduceBNe, Int.reduceLT, aPost, resK, tup, tyf, h1, ht]
  by_cases h8 : (8 : Int) < xs.length
  · have ht : trn xs = false := by simp [trn]; omega
    simp (maxSteps := 2000000) only [s20, ↓aw_region, ↓aw_skip, ↓aw_seq, ↓aw_block, ↓aw_exit, ↓aw_ret, ↓sops_nil, ↓sops_go, ↓dops_nil, ↓dopsX_nil, ↓dopsR_nil, ↓vdn, vup, extr_20, extr_21, extr_30, extr_31, extr_32, List.map_cons, List.map_nil, cond_true, cond_false, aop, aThen, aBlock, argEnv, ev, sput, sputO, binK, binI, unK, builtinK, pickK, Nat.reduceBEq, Nat.reduceAdd, Int.reduceBEq, Int.reduceBNe, Int.reduceLT, aPost, resK, tup, tyf, h1, h8, ht]
  have hp := pow8 (n := xs.length) (by omega)
  simp (maxSteps := 2000000) only [s20, ↓aw_region, ↓aw_skip, ↓aw_seq, ↓aw_block, ↓aw_exit, ↓aw_ret, ↓sops_nil, ↓sops_go, ↓dops_nil, ↓dopsX_nil, ↓dopsR_nil, ↓vdn, vup, extr_20, extr_21, extr_30, extr_31, extr_32, List.map_cons, List.map_nil, cond_true, cond_false, aop, aThen, aBlock, argEnv, ev, sput, sputO, binK, binI, unK, builtinK, pickK, Nat.reduceBEq, Nat.reduceAdd, Int.reduceBEq, Int.reduceBNe, Int.reduceLT, aPost, resK, tup, tyf, h1, h8, hv.len, ↓aw_loop_eq]
  refine aws_hide fun Q hQ => ?_
  refine aw_loop (γ := Nat) (fun i => i ≤ xs.length ∧ ∀ k, k < i → okAt xs k = true)
    (fun i => ([(0, v), (2, .bool false), (3, vint xs.length), (15, v), (16, vint xs.length), (17, vint i)], h)) (fun i => xs.length - i) 0 ⟨by omega, fun _ hk => by omega⟩ (by simp (maxSteps := 2000000) only [↓aw_region, ↓aw_skip, ↓aw_seq, ↓aw_block, ↓aw_exit, ↓aw_ret, ↓sops_nil, ↓sops_go, ↓dops_nil, ↓dopsX_nil, ↓dopsR_nil, ↓vdn, vup, extr_20, extr_21, extr_30, extr_31, extr_32, List.map_cons, List.map_nil, cond_true, cond_false, aop, aThen, aBlock, argEnv, ev, sput, sputO, binK, binI, unK, builtinK, pickK, Nat.reduceBEq, Nat.reduceAdd, Int.reduceBEq, Int.reduceBNe, Int.reduceLT, aPost, resK, tup, tyf, Int.natCast_zero]) rfl ?_
  rintro i ⟨hi, hok⟩
  refine aw_hide fun Q2 hQ2 => ?_
  by_cases hin : (i : Int) < xs.length
  · have hin' : i < xs.length := by omega
    have hbad : okAt xs i = false → trn xs = false := fun hb => by
      have : (List.range xs.length).all (okAt xs) = false := by
        rw [List.all_eq_false]; exact ⟨i, by simpa using hin', by simp [hb]⟩
      simp [trn, this]
    obtain ⟨hx1, hx2⟩ := hx (xs.getD i 0) (by rw [List.getD, List.getElem?_eq_getElem hin']; exact List.getElem_mem hin')
    simp (maxSteps := 2000000) only [s20, ↓aw_region, ↓aw_skip, ↓aw_seq, ↓aw_block, ↓aw_exit, ↓aw_ret, ↓sops_nil, ↓sops_go, ↓dops_nil, ↓dopsX_nil, ↓dopsR_nil, ↓vdn, vup, extr_20, extr_21, extr_30, extr_31, extr_32, List.map_cons, List.map_nil, cond_true, cond_false, aop, aThen, aBlock, argEnv, ev, sput, sputO, binK, binI, unK, builtinK, pickK, Nat.reduceBEq, Nat.reduceAdd, Int.reduceBEq, Int.reduceBNe, Int.reduceLT, aPost, resK, tup, tyf, l20_1, hin, hv.idx el_22 esz_3 hin', hv.load shp_3 hin']
    by_cases hneg : xs.getD i 0 < 0
    · have hb := hbad (by rw [okAt, decide_eq_false (show ¬ 0 ≤ xs.getD i 0 by omega)]; rfl)
      simp (maxSteps := 2000000) only [s20, ↓aw_region, ↓aw_skip, ↓aw_seq, ↓aw_block, ↓aw_exit, ↓aw_ret, ↓sops_nil, ↓sops_go, ↓dops_nil, ↓dopsX_nil, ↓dopsR_nil, ↓vdn, vup, extr_20, extr_21, extr_30, extr_31, extr_32, List.map_cons, List.map_nil, cond_true, cond_false, aop, aThen, aBlock, argEnv, ev, sput, sputO, binK, binI, unK, builtinK, pickK, Nat.reduceBEq, Nat.reduceAdd, Int.reduceBEq, Int.reduceBNe, Int.reduceLT, aPost, resK, tup, tyf, hneg]
      refine hQ2 _ _ _ (hQ _ _ _ ?_)
      simp (maxSteps := 2000000) only [↓aw_region, ↓aw_skip, ↓aw_seq, ↓aw_block, ↓aw_exit, ↓aw_ret, ↓sops_nil, ↓sops_go, ↓dops_nil, ↓dopsX_nil, ↓dopsR_nil, ↓vdn, vup, extr_20, extr_21, extr_30, extr_31, extr_32, List.map_cons, List.map_nil, cond_true, cond_false, aop, aThen, aBlock, argEnv, ev, sput, sputO, binK, binI, unK, builtinK, pickK, Nat.reduceBEq, Nat.reduceAdd, Int.reduceBEq, Int.reduceBNe, Int.reduceLT, aPost, resK, tup, tyf, hb]
    simp (maxSteps := 2000000) only [s20, ↓aw_region, ↓aw_skip, ↓aw_seq, ↓aw_block, ↓aw_exit, ↓aw_ret, ↓sops_nil, ↓sops_go, ↓dops_nil, ↓dopsX_nil, ↓dopsR_nil, ↓vdn, vup, extr_20, extr_21, extr_30, extr_31, extr_32, List.map_cons, List.map_nil, cond_true, cond_false, aop, aThen, aBlock, argEnv, ev, sput, sputO, binK, binI, unK, builtinK, pickK, Nat.reduceBEq, Nat.reduceAdd, Int.reduceBEq, Int.reduceBNe, Int.reduceLT, aPost, resK, tup, tyf, hneg, shl1 (show xs.length ≤ 62 by omega), Int.natCast_nonneg]
    by_cases hbig : 2 ^ xs.length ≤ xs.getD i 0
    · have hb := hbad (by rw [okAt, decide_eq_false (show ¬ xs.getD i 0 < 2 ^ xs.length from Int.not_lt.2 hbig), Bool.and_false]; rfl)
      simp (maxSteps := 2000000) only [s20, ↓aw_region, ↓aw_skip, ↓aw_seq, ↓aw_block, ↓aw_exit, ↓aw_ret, ↓sops_nil, ↓sops_go, ↓dops_nil, ↓dopsX_nil, ↓dopsR_nil, ↓vdn, vup, extr_20, extr_21, extr_30, extr_31, extr_32, List.map_cons, List.map_nil, cond_true, cond_false, aop, aThen, aBlock, argEnv, ev, sput, sputO, binK, binI, unK, builtinK, pickK, Nat.reduceBEq, Nat.reduceAdd, Int.reduceBEq, Int.reduceBNe, Int.reduceLT, aPost, resK, tup, tyf, hbig]
      refine hQ2 _ _ _ (hQ _ _ _ ?_)
      simp (maxSteps := 2000000) only [↓aw_region, ↓aw_skip, ↓aw_seq, ↓aw_block, ↓aw_exit, ↓aw_ret, ↓sops_nil, ↓sops_go, ↓dops_nil, ↓dopsX_nil, ↓dopsR_nil, ↓vdn, vup, extr_20, extr_21, extr_30, extr_31, extr_32, List.map_cons, List.map_nil, cond_true, cond_false, aop, aThen, aBlock, argEnv, ev, sput, sputO, binK, binI, unK, builtinK, pickK, Nat.reduceBEq, Nat.reduceAdd, Int.reduceBEq, Int.reduceBNe, Int.reduceLT, aPost, resK, tup, tyf, hb]
    have hs0 : 0 ≤ xs.getD i 0 := by omega
    have hs1 : xs.getD i 0 < 9223372036854775808 := by omega
    by_cases hbit : bitI (xs.getD i 0) i = true
    · have hb := hbad (by rw [okAt, hbit, Bool.not_true, Bool.and_false]; rfl)
      simp (maxSteps := 2000000) only [s20, ↓aw_region, ↓aw_skip, ↓aw_seq, ↓aw_block, ↓aw_exit, ↓aw_ret, ↓sops_nil, ↓sops_go, ↓dops_nil, ↓dopsX_nil, ↓dopsR_nil, ↓vdn, vup, extr_20, extr_21, extr_30, extr_31, extr_32, List.map_cons, List.map_nil, cond_true, cond_false, aop, aThen, aBlock, argEnv, ev, sput, sputO, binK, binI, unK, builtinK, pickK, Nat.reduceBEq, Nat.reduceAdd, Int.reduceBEq, Int.reduceBNe, Int.reduceLT, aPost, resK, tup, tyf, hbig, Int.natCast_nonneg, testI hs0 hs1, hbit, if_true, Int.reduceBEq]
      refine hQ2 _ _ _ (hQ _ _ _ ?_)
      simp (maxSteps := 2000000) only [↓aw_region, ↓aw_skip, ↓aw_seq, ↓aw_block, ↓aw_exit, ↓aw_ret, ↓sops_nil, ↓sops_go, ↓dops_nil, ↓dopsX_nil, ↓dopsR_nil, ↓vdn, vup, extr_20, extr_21, extr_30, extr_31, extr_32, List.map_cons, List.map_nil, cond_true, cond_false, aop, aThen, aBlock, argEnv, ev, sput, sputO, binK, binI, unK, builtinK, pickK, Nat.reduceBEq, Nat.reduceAdd, Int.reduceBEq, Int.reduceBNe, Int.reduceLT, aPost, resK, tup, tyf, hb]
    simp only [Bool.not_eq_true] at hbit
    simp (maxSteps := 2000000) only [s20, ↓aw_region, ↓aw_skip, ↓aw_seq, ↓aw_block, ↓aw_exit, ↓aw_ret, ↓sops_nil, ↓sops_go, ↓dops_nil, ↓dopsX_nil, ↓dopsR_nil, ↓vdn, vup, extr_20, extr_21, extr_30, extr_31, extr_32, List.map_cons, List.map_nil, cond_true, cond_false, aop, aThen, aBlock, argEnv, ev, sput, sputO, binK, binI, unK, builtinK, pickK, Nat.reduceBEq, Nat.reduceAdd, Int.reduceBEq, Int.reduceBNe, Int.reduceLT, aPost, resK, tup, tyf, hbig, Int.natCast_nonneg, testI hs0 hs1, hbit, if_false, Bool.false_eq_true, Int.reduceBEq, ↓aw_loop_eq]
    refine aws_hide fun Q3 hQ3 => ?_
    refine aw_loop (γ := Nat) (fun j => j ≤ i ∧ ∀ k, k < j → (bitI (xs.getD i 0) k != bitI (xs.getD k 0) i) = true)
      (fun j => ([(0, v), (2, .bool false), (3, vint xs.length), (4, vint i), (5, vint (xs.getD i 0)), (15, v), (16, vint xs.length), (17, vint i), (37, vint i), (38, vint j)], h)) (fun j => i - j) 0 ⟨by omega, fun _ hk => by omega⟩ (by simp (maxSteps := 2000000) only [↓aw_region, ↓aw_skip, ↓aw_seq, ↓aw_block, ↓aw_exit, ↓aw_ret, ↓sops_nil, ↓sops_go, ↓dops_nil, ↓dopsX_nil, ↓dopsR_nil, ↓vdn, vup, extr_20, extr_21, extr_30, extr_31, extr_32, List.map_cons, List.map_nil, cond_true, cond_false, aop, aThen, aBlock, argEnv, ev, sput, sputO, binK, binI, unK, builtinK, pickK, Nat.reduceBEq, Nat.reduceAdd, Int.reduceBEq, Int.reduceBNe, Int.reduceLT, aPost, resK, tup, tyf, Int.natCast_zero]) rfl ?_
    rintro j ⟨hj, hokj⟩
    refine aw_hide fun Q4 hQ4 => ?_
    by_cases hji : (j : Int) < i
    · have hji' : j < i := by omega
      have hjn : j < xs.length := by omega
      have hoj := hok j hji'
      have hoj' := hoj
      rw [okAt, Bool.and_eq_true, Bool.and_eq_true, Bool.and_eq_true, decide_eq_true_eq, decide_eq_true_eq] at hoj'
      have ht0 : 0 ≤ xs.getD j 0 := hoj'.1.1.1
      have ht1 : xs.getD j 0 < 9223372036854775808 := by have := hoj'.1.1.2; omega
      simp (maxSteps := 2000000) only [s20, ↓aw_region, ↓aw_skip, ↓aw_seq, ↓aw_block, ↓aw_exit, ↓aw_ret, ↓sops_nil, ↓sops_go, ↓dops_nil, ↓dopsX_nil, ↓dopsR_nil, ↓vdn, vup, extr_20, extr_21, extr_30, extr_31, extr_32, List.map_cons, List.map_nil, cond_true, cond_false, aop, aThen, aBlock, argEnv, ev, sput, sputO, binK, binI, unK, builtinK, pickK, Nat.reduceBEq, Nat.reduceAdd, Int.reduceBEq, Int.reduceBNe, Int.reduceLT, aPost, resK, tup, tyf, l20_0, hji]
      refine aw_draw [] (by kernel_rfl) (by kernel_rfl) (by kernel_rfl) ?_
      by_cases heq : (bitI (xs.getD i 0) j == bitI (xs.getD j 0) i) = true
      · have hb := hbad (by
          have : ((List.range i).all fun j => bitI (xs.getD i 0) j != bitI (xs.getD j 0) i) = false := by
            rw [List.all_eq_false]; exact ⟨j, List.mem_range.2 hji', by rw [bne, heq]; decide⟩
          rw [okAt, this, Bool.and_false])
        simp (maxSteps := 2000000) only [s20, ↓aw_region, ↓aw_skip, ↓aw_seq, ↓aw_block, ↓aw_exit, ↓aw_ret, ↓sops_nil, ↓sops_go, ↓dops_nil, ↓dopsX_nil, ↓dopsR_nil, ↓vdn, vup, extr_20, extr_21, extr_30, extr_31, extr_32, List.map_cons, List.map_nil, cond_true, cond_false, aop, aThen, aBlock, argEnv, ev, sput, sputO, binK, binI, unK, builtinK, pickK, Nat.reduceBEq, Nat.reduceAdd, Int.reduceBEq, Int.reduceBNe, Int.reduceLT, aPost, resK, tup, tyf, Int.natCast_nonneg, testI hs0 hs1, testI ht0 ht1, hv.idx el_22 esz_3 hjn, hv.load shp_3 hjn, beq01, heq]
        refine hQ4 _ _ _ (hQ3 _ _ _ ?_)
        simp (maxSteps := 2000000) only [s20, ↓aw_region, ↓aw_skip, ↓aw_seq, ↓aw_block, ↓aw_exit, ↓aw_ret, ↓sops_nil, ↓sops_go, ↓dops_nil, ↓dopsX_nil, ↓dopsR_nil, ↓vdn, vup, extr_20, extr_21, extr_30, extr_31, extr_32, List.map_cons, List.map_nil, cond_true, cond_false, aop, aThen, aBlock, argEnv, ev, sput, sputO, binK, binI, unK, builtinK, pickK, Nat.reduceBEq, Nat.reduceAdd, Int.reduceBEq, Int.reduceBNe, Int.reduceLT, aPost, resK, tup, tyf]
        refine hQ2 _ _ _ (hQ _ _ _ ?_)
        simp (maxSteps := 2000000) only [↓aw_region, ↓aw_skip, ↓aw_seq, ↓aw_block, ↓aw_exit, ↓aw_ret, ↓sops_nil, ↓sops_go, ↓dops_nil, ↓dopsX_nil, ↓dopsR_nil, ↓vdn, vup, extr_20, extr_21, extr_30, extr_31, extr_32, List.map_cons, List.map_nil, cond_true, cond_false, aop, aThen, aBlock, argEnv, ev, sput, sputO, binK, binI, unK, builtinK, pickK, Nat.reduceBEq, Nat.reduceAdd, Int.reduceBEq, Int.reduceBNe, Int.reduceLT, aPost, resK, tup, tyf, hb]
      · simp only [Bool.not_eq_true] at heq
        simp (maxSteps := 2000000) only [s20, ↓aw_region, ↓aw_skip, ↓aw_seq, ↓aw_block, ↓aw_exit, ↓aw_ret, ↓sops_nil, ↓sops_go, ↓dops_nil, ↓dopsX_nil, ↓dopsR_nil, ↓vdn, vup, extr_20, extr_21, extr_30, extr_31, extr_32, List.map_cons, List.map_nil, cond_true, cond_false, aop, aThen, aBlock, argEnv, ev, sput, sputO, binK, binI, unK, builtinK, pickK, Nat.reduceBEq, Nat.reduceAdd, Int.reduceBEq, Int.reduceBNe, Int.reduceLT, aPost, resK, tup, tyf, Int.natCast_nonneg, testI hs0 hs1, testI ht0 ht1, hv.idx el_22 esz_3 hjn, hv.load shp_3 hjn, beq01, heq, add1 (show j < 9223372036854775807 by omega)]
        refine hQ4 _ _ _ ⟨j + 1, ⟨by omega, fun k hk => ?_⟩, by omega, by simp (maxSteps := 2000000) only [↓aw_region, ↓aw_skip, ↓aw_seq, ↓aw_block, ↓aw_exit, ↓aw_ret, ↓sops_nil, ↓sops_go, ↓dops_nil, ↓dopsX_nil, ↓dopsR_nil, ↓vdn, vup, extr_20, extr_21, extr_30, extr_31, extr_32, List.map_cons, List.map_nil, cond_true, cond_false, aop, aThen, aBlock, argEnv, ev, sput, sputO, binK, binI, unK, builtinK, pickK, Nat.reduceBEq, Nat.reduceAdd, Int.reduceBEq, Int.reduceBNe, Int.reduceLT, aPost, resK, tup, tyf], rfl⟩
        by_cases hkj : k = j
        · subst hkj; rw [bne, heq]; rfl
        · exact hokj k (by omega)
    · obtain rfl : j = i := by omega
      simp (maxSteps := 2000000) only [s20, ↓aw_region, ↓aw_skip, ↓aw_seq, ↓aw_block, ↓aw_exit, ↓aw_ret, ↓sops_nil, ↓sops_go, ↓dops_nil, ↓dopsX_nil, ↓dopsR_nil, ↓vdn, vup, extr_20, extr_21, extr_30, extr_31, extr_32, List.map_cons, List.map_nil, cond_true, cond_false, aop, aThen, aBlock, argEnv, ev, sput, sputO, binK, binI, unK, builtinK, pickK, Nat.reduceBEq, Nat.reduceAdd, Int.reduceBEq, Int.reduceBNe, Int.reduceLT, aPost, resK, tup, tyf, l20_0, Int.lt_irrefl]
      refine hQ4 _ _ _ (hQ3 _ _ _ ?_)
      simp (maxSteps := 2000000) only [s20, ↓aw_region, ↓aw_skip, ↓aw_seq, ↓aw_block, ↓aw_exit, ↓aw_ret, ↓sops_nil, ↓sops_go, ↓dops_nil, ↓dopsX_nil, ↓dopsR_nil, ↓vdn, vup, extr_20, extr_21, extr_30, extr_31, extr_32, List.map_cons, List.map_nil, cond_true, cond_false, aop, aThen, aBlock, argEnv, ev, sput, sputO, binK, binI, unK, builtinK, pickK, Nat.reduceBEq, Nat.reduceAdd, Int.reduceBEq, Int.reduceBNe, Int.reduceLT, aPost, resK, tup, tyf, if_true, add1 (show j < 9223372036854775807 by omega)]
      refine hQ2 _ _ _ ⟨j + 1, ⟨by omega, fun k hk => ?_⟩, by omega, by simp (maxSteps := 2000000) only [↓aw_region, ↓aw_skip, ↓aw_seq, ↓aw_block, ↓aw_exit, ↓aw_ret, ↓sops_nil, ↓sops_go, ↓dops_nil, ↓dopsX_nil, ↓dopsR_nil, ↓vdn, vup, extr_20, extr_21, extr_30, extr_31, extr_32, List.map_cons, List.map_nil, cond_true, cond_false, aop, aThen, aBlock, argEnv, ev, sput, sputO, binK, binI, unK, builtinK, pickK, Nat.reduceBEq, Nat.reduceAdd, Int.reduceBEq, Int.reduceBNe, Int.reduceLT, aPost, resK, tup, tyf], rfl⟩
      by_cases hkj : k = j
      · subst hkj
        have : ((List.range k).all fun j => bitI (xs.getD k 0) j != bitI (xs.getD j 0) k) = true := by
          rw [List.all_eq_true]; exact fun j hj => hokj j (List.mem_range.1 hj)
        rw [okAt, decide_eq_true hs0, decide_eq_true (Int.not_le.1 hbig), hbit, this]; rfl
      · exact hok k (by omega)
  · obtain rfl : i = xs.length := by omega
    have ht : trn xs = true := by simp only [trn, Bool.and_eq_true, decide_eq_true_eq, List.all_eq_true, List.mem_range]; exact ⟨⟨by omega, by omega⟩, hok⟩
    simp (maxSteps := 2000000) only [s20, ↓aw_region, ↓aw_skip, ↓aw_seq, ↓aw_block, ↓aw_exit, ↓aw_ret, ↓sops_nil, ↓sops_go, ↓dops_nil, ↓dopsX_nil, ↓dopsR_nil, ↓vdn, vup, extr_20, extr_21, extr_30, extr_31, extr_32, List.map_cons, List.map_nil, cond_true, cond_false, aop, aThen, aBlock, argEnv, ev, sput, sputO, binK, binI, unK, builtinK, pickK, Nat.reduceBEq, Nat.reduceAdd, Int.reduceBEq, Int.reduceBNe, Int.reduceLT, aPost, resK, tup, tyf, l20_1, Int.lt_irrefl]
    refine hQ2 _ _ _ (hQ _ _ _ ?_)
    simp (maxSteps := 2000000) only [s20, ↓aw_region, ↓aw_skip, ↓aw_seq, ↓aw_block, ↓aw_exit, ↓aw_ret, ↓sops_nil, ↓sops_go, ↓dops_nil, ↓dopsX_nil, ↓dopsR_nil, ↓vdn, vup, extr_20, extr_21, extr_30, extr_31, extr_32, List.map_cons, List.map_nil, cond_true, cond_false, aop, aThen, aBlock, argEnv, ev, sput, sputO, binK, binI, unK, builtinK, pickK, Nat.reduceBEq, Nat.reduceAdd, Int.reduceBEq, Int.reduceBNe, Int.reduceLT, aPost, resK, tup, tyf, if_true, ht]
end Go.Proofs.Tryd.Am

namespace Go.Proofs.Tryd.Am
open Go.Am

theorem beats_call [Tabs prog] {h : Heap} {v : Value} {xs : List Int} (hv : IntSl h v xs) {i j : Nat} (hi : i < xs.length) (h0 : 0 ≤ xs.getD i 0) (h1 : xs.getD i 0 < 9223372036854775808) :
    APure prog 60 [v, vint i, vint j] h (.bool (bitI (xs.getD i 0) j)) := by
  refine s60_call (by simp) ?_
  simp (maxSteps := 2000000) only [s60, ↓aw_region, ↓aw_skip, ↓aw_seq, ↓aw_block, ↓aw_exit, ↓aw_ret, ↓sops_nil, ↓sops_go, ↓dops_nil, ↓dopsX_nil, ↓dopsR_nil, ↓vdn, vup, extr_20, extr_21, extr_30, extr_31, extr_32, List.map_cons, List.map_nil, cond_true, cond_false, aop, aThen, aBlock, argEnv, ev, sput, sputO, binK, binI, unK, builtinK, pickK, Nat.reduceBEq, Nat.reduceAdd, Int.reduceBEq, Int.reduceBNe, Int.reduceLT, aPost, resK, tup, tyf, hv.idx el_55 esz_3 hi, hv.load shp_3 hi, Int.natCast_nonneg, testI h0 h1, beq1]

theorem all_call [Tabs prog] {h : Heap} {v : Value} {xs : List Int} (hv : IntSl h v xs) (hl : xs.length ≤ 8) : APure prog 63 [v] h (vint ((2 ^ xs.length - 1 : Nat) : Int)) := by
  have hp := pow8 hl
  have hs : subV .i64 (2 ^ xs.length) 1 = ((2 ^ xs.length - 1 : Nat) : Int) := by
    have e : ((2 ^ xs.length : Nat) : Int) = 2 ^ xs.length := by simp
    rw [subV_id (by omega) (by omega)]; omega
  refine s63_call (by simp) ?_
  simp (maxSteps := 2000000) only [s63, ↓aw_region, ↓aw_skip, ↓aw_seq, ↓aw_block, ↓aw_exit, ↓aw_ret, ↓sops_nil, ↓sops_go, ↓dops_nil, ↓dopsX_nil, ↓dopsR_nil, ↓vdn, vup, extr_20, extr_21, extr_30, extr_31, extr_32, List.map_cons, List.map_nil, cond_true, cond_false, aop, aThen, aBlock, argEnv, ev, sput, sputO, binK, binI, unK, builtinK, pickK, Nat.reduceBEq, Nat.reduceAdd, Int.reduceBEq, Int.reduceBNe, Int.reduceLT, aPost, resK, tup, tyf, hv.len, Int.natCast_nonneg, shl1 (show xs.length ≤ 62 by omega), hs]

theorem players_call [Tabs prog] {h : Heap} {s : Int} : ACall prog 62 [vint s] h fun r h' => r = .func (.func 93) #[] #[newPtr h] ∧ h' = h ++ [.cells [vint s] 3 false] := by
  refine s62_call (by simp) ?_
  simp (maxSteps := 2000000) only [s62, ↓aw_region, ↓aw_skip, ↓aw_seq, ↓aw_block, ↓aw_exit, ↓aw_ret, ↓sops_nil, ↓sops_go, ↓dops_nil, ↓dopsX_nil, ↓dopsR_nil, ↓vdn, vup, extr_20, extr_21, extr_30, extr_31, extr_32, List.map_cons, List.map_nil, cond_true, cond_false, aop, aThen, aBlock, argEnv, ev, sput, sputO, binK, binI, unK, builtinK, pickK, Nat.reduceBEq, Nat.reduceAdd, Int.reduceBEq, Int.reduceBNe, Int.reduceLT, aPost, resK, tup, tyf, boxK, cellsOf, Option.isSome_some, List.map_toArray]

theorem yes_call [Tabs prog] {h : Heap} {v : Value} : APure prog 58 [v] h (.bool true) := by
  refine s58_call (by simp) ?_
  simp (maxSteps := 2000000) only [s58, ↓aw_region, ↓aw_skip, ↓aw_seq, ↓aw_block, ↓aw_exit, ↓aw_ret, ↓sops_nil, ↓sops_go, ↓dops_nil, ↓dopsX_nil, ↓dopsR_nil, ↓vdn, vup, extr_20, extr_21, extr_30, extr_31, extr_32, List.map_cons, List.map_nil, cond_true, cond_false, aop, aThen, aBlock, argEnv, ev, sput, sputO, binK, binI, unK, builtinK, pickK, Nat.reduceBEq, Nat.reduceAdd, Int.reduceBEq, Int.reduceBNe, Int.reduceLT, aPost, resK, tup, tyf]

theorem equal_call [Tabs prog] {h : Heap} {v w : Value} {xs ys : List Int} (hv : IntSl h v xs) (hw : IntSl h w ys) (hl : xs.length < 9223372036854775808) (hl2 : ys.length < 9223372036854775808) :
    APure prog 25 [v, w] h (.bool (decide (xs = ys))) := by
  refine s25_call (by simp) ?_
  by_cases hlen : xs.length = ys.length
  · have hne : ((xs.length : Int) != ys.length) = false := by simp [hlen]
    simp (maxSteps := 2000000) only [s25, ↓aw_region, ↓aw_skip, ↓aw_seq, ↓aw_block, ↓aw_exit, ↓aw_ret, ↓sops_nil, ↓sops_go, ↓dops_nil, ↓dopsX_nil, ↓dopsR_nil, ↓vdn, vup, extr_20, extr_21, extr_30, extr_31, extr_32, List.map_cons, List.map_nil, cond_true, cond_false, aop, aThen, aBlock, argEnv, ev, sput, sputO, binK, binI, unK, builtinK, pickK, Nat.reduceBEq, Nat.reduceAdd, Int.reduceBEq, Int.reduceBNe, Int.reduceLT, aPost, resK, tup, tyf, hv.len, hw.len, hne, ↓aw_loop_eq]
    refine aws_hide fun Q hQ => ?_
    refine aw_loop (γ := Nat) (fun i => i ≤ xs.length ∧ ∀ k, k < i → xs.getD k 0 = ys.getD k 0)
      (fun i => ([(0, v), (1, w), (12, vint xs.length), (13, vint i)], h)) (fun i => xs.length - i) 0 ⟨by omega, fun _ hk => by omega⟩ (by simp (maxSteps := 2000000) only [↓aw_region, ↓aw_skip, ↓aw_seq, ↓aw_block, ↓aw_exit, ↓aw_ret, ↓sops_nil, ↓sops_go, ↓dops_nil, ↓dopsX_nil, ↓dopsR_nil, ↓vdn, vup, extr_20, extr_21, extr_30, extr_31, extr_32, List.map_cons, List.map_nil, cond_true, cond_false, aop, aThen, aBlock, argEnv, ev, sput, sputO, binK, binI, unK, builtinK, pickK, Nat.reduceBEq, Nat.reduceAdd, Int.reduceBEq, Int.reduceBNe, Int.reduceLT, aPost, resK, tup, tyf, Int.natCast_zero]) rfl ?_
    rintro i ⟨hi, hok⟩
    refine aw_hide fun Q2 hQ2 => ?_
    by_cases hin : (i : Int) < xs.length
    · have h1 : i < xs.length := by omega
      have h2 : i < ys.length := by omega
      simp (maxSteps := 2000000) only [s25, ↓aw_region, ↓aw_skip, ↓aw_seq, ↓aw_block, ↓aw_exit, ↓aw_ret, ↓sops_nil, ↓sops_go, ↓dops_nil, ↓dopsX_nil, ↓dopsR_nil, ↓vdn, vup, extr_20, extr_21, extr_30, extr_31, extr_32, List.map_cons, List.map_nil, cond_true, cond_false, aop, aThen, aBlock, argEnv, ev, sput, sputO, binK, binI, unK, builtinK, pickK, Nat.reduceBEq, Nat.reduceAdd, Int.reduceBEq, Int.reduceBNe, Int.reduceLT, aPost, resK, tup, tyf, l25_0, hin]
      refine aw_draw [] (by kernel_rfl) (by kernel_rfl) (by kernel_rfl) ?_
      by_cases heq : xs.getD i 0 = ys.getD i 0
      · have hb : (xs.getD i 0 != ys.getD i 0) = false := by rw [heq]; exact bne_self_eq_false _
        simp (maxSteps := 2000000) only [s25, ↓aw_region, ↓aw_skip, ↓aw_seq, ↓aw_block, ↓aw_exit, ↓aw_ret, ↓sops_nil, ↓sops_go, ↓dops_nil, ↓dopsX_nil, ↓dopsR_nil, ↓vdn, vup, extr_20, extr_21, extr_30, extr_31, extr_32, List.map_cons, List.map_nil, cond_true, cond_false, aop, aThen, aBlock, argEnv, ev, sput, sputO, binK, binI, unK, builtinK, pickK, Nat.reduceBEq, Nat.reduceAdd, Int.reduceBEq, Int.reduceBNe, Int.reduceLT, aPost, resK, tup, tyf, hv.idx el_22 esz_3 h1, hv.load shp_3 h1, hw.idx el_22 esz_3 h2, hw.load shp_3 h2, hb, add1 (show i < 9223372036854775807 by omega)]
        refine hQ2 _ _ _ ⟨i + 1, ⟨by omega, fun k hk => ?_⟩, by omega, by simp (maxSteps := 2000000) only [↓aw_region, ↓aw_skip, ↓aw_seq, ↓aw_block, ↓aw_exit, ↓aw_ret, ↓sops_nil, ↓sops_go, ↓dops_nil, ↓dopsX_nil, ↓dopsR_nil, ↓vdn, vup, extr_20, extr_21, extr_30, extr_31, extr_32, List.map_cons, List.map_nil, cond_true, cond_false, aop, aThen, aBlock, argEnv, ev, sput, sputO, binK, binI, unK, builtinK, pickK, Nat.reduceBEq, Nat.reduceAdd, Int.reduceBEq, Int.reduceBNe, Int.reduceLT, aPost, resK, tup, tyf], rfl⟩
        by_cases hki : k = i
        · subst hki; exact heq
        · exact hok k (by omega)
      · have hb : (xs.getD i 0 != ys.getD i 0) = true := by simp only [bne_iff_ne, ne_eq]; exact heq
        simp (maxSteps := 2000000) only [s25, ↓aw_region, ↓aw_skip, ↓aw_seq, ↓aw_block, ↓aw_exit, ↓aw_ret, ↓sops_nil, ↓sops_go, ↓dops_nil, ↓dopsX_nil, ↓dopsR_nil, ↓vdn, vup, extr_20, extr_21, extr_30, extr_31, extr_32, List.map_cons, List.map_nil, cond_true, cond_false, aop, aThen, aBlock, argEnv, ev, sput, sputO, binK, binI, unK, builtinK, pickK, Nat.reduceBEq, Nat.reduceAdd, Int.reduceBEq, Int.reduceBNe, Int.reduceLT, aPost, resK, tup, tyf, hv.idx el_22 esz_3 h1, hv.load shp_3 h1, hw.idx el_22 esz_3 h2, hw.load shp_3 h2, hb]
        refine hQ2 _ _ _ (hQ _ _ _ ?_)
        have hne : decide (xs = ys) = false := decide_eq_false (fun he => heq (by rw [he]))
        simp (maxSteps := 2000000) only [↓aw_region, ↓aw_skip, ↓aw_seq, ↓aw_block, ↓aw_exit, ↓aw_ret, ↓sops_nil, ↓sops_go, ↓dops_nil, ↓dopsX_nil, ↓dopsR_nil, ↓vdn, vup, extr_20, extr_21, extr_30, extr_31, extr_32, List.map_cons, List.map_nil, cond_true, cond_false, aop, aThen, aBlock, argEnv, ev, sput, sputO, binK, binI, unK, builtinK, pickK, Nat.reduceBEq, Nat.reduceAdd, Int.reduceBEq, Int.reduceBNe, Int.reduceLT, aPost, resK, tup, tyf, hne]
    · obtain rfl : i = xs.length := by omega
      simp (maxSteps := 2000000) only [s25, ↓aw_region, ↓aw_skip, ↓aw_seq, ↓aw_block, ↓aw_exit, ↓aw_ret, ↓sops_nil, ↓sops_go, ↓dops_nil, ↓dopsX_nil, ↓dopsR_nil, ↓vdn, vup, extr_20, extr_21, extr_30, extr_31, extr_32, List.map_cons, List.map_nil, cond_true, cond_false, aop, aThen, aBlock, argEnv, ev, sput, sputO, binK, binI, unK, builtinK, pickK, Nat.reduceBEq, Nat.reduceAdd, Int.reduceBEq, Int.reduceBNe, Int.reduceLT, aPost, resK, tup, tyf, l25_0, Int.lt_irrefl]
      refine hQ2 _ _ _ (hQ _ _ _ ?_)
      have he : decide (xs = ys) = true := decide_eq_true (List.ext_getElem hlen fun k h1 h2 => by
        have := hok k h1
        simpa [List.getD, List.getElem?_eq_getElem h1, List.getElem?_eq_getElem h2] using this)
      simp (maxSteps := 2000000) only [s25, ↓aw_region, ↓aw_skip, ↓aw_seq, ↓aw_block, ↓aw_exit, ↓aw_ret, ↓sops_nil, ↓sops_go, ↓dops_nil, ↓dopsX_nil, ↓dopsR_nil, ↓vdn, vup, extr_20, extr_21, extr_30, extr_31, extr_32, List.map_cons, List.map_nil, cond_true, cond_false, aop, aThen, aBlock, argEnv, ev, sput, sputO, binK, binI, unK, builtinK, pickK, Nat.reduceBEq, Nat.reduceAdd, Int.reduceBEq, Int.reduceBNe, Int.reduceLT, aPost, resK, tup, tyf, if_true, he]
  · have hne : ((xs.length : Int) != ys.length) = true := by simp only [bne_iff_ne, ne_eq]; omega
    have hf : decide (xs = ys) = false := decide_eq_false (fun he => hlen (by rw [he]))
    simp (maxSteps := 2000000) only [s25, ↓aw_region, ↓aw_skip, ↓aw_seq, ↓aw_block, ↓aw_exit, ↓aw_ret, ↓sops_nil, ↓sops_go, ↓dops_nil, ↓dopsX_nil, ↓dopsR_nil, ↓vdn, vup, extr_20, extr_21, extr_30, extr_31, extr_32, List.map_cons, List.map_nil, cond_true, cond_false, aop, aThen, aBlock, argEnv, ev, sput, sputO, binK, binI, unK, builtinK, pickK, Nat.reduceBEq, Nat.reduceAdd, Int.reduceBEq, Int.reduceBNe, Int.reduceLT, aPost, resK, tup, tyf, hv.len, hw.len, hne, hf]
end Go.Proofs.Tryd.Am

namespace Go.Proofs.Tryd
open Go.RowKit Go.Am

set_option maxHeartbeats 1000000 in
theorem tz64_core (x k idx : Nat) (w : World) (hx0 : ((x : Int) == 0) = false)
    (key : IntKind.u64.wrap (bits BinOp.and IntKind.u64 (x : Int) (IntKind.u64.wrap (-(x : Int))) * 285870213051353865) / 288230376151711744 = (idx : Int))
    (hi : idx < 64) (hk : k < 64) (hcell : w.cell? ⟨1, idx, none⟩ = some (.int .u8 k)) :
    Calls prog 106 #[.int .u64 x] w fun e w' => e = .returned (.int .i64 k) ∧ w' = w := by
  go_enter func106, ntmps106
  go_wp2_with (simp only [key])
  go_ret
  exact ⟨rfl, rfl⟩

theorem tz64_zero (w : World) : Calls prog 106 #[.int .u64 0] w fun e w' => e = .returned (.int .i64 64) ∧ w' = w := by
  go_enter func106, ntmps106
  go_wp2
  go_ret
  exact ⟨rfl, rfl⟩
theorem tz64 (x : Nat) (hx : x < 18446744073709551616) (w : World) (hT : x ≠ 0 → TabAt 1 Lib.deBruijn64tab w) :
    Calls prog 106 #[.int .u64 x] w fun e w' => e = .returned (.int .i64 (Lib.ctz 64 x)) ∧ w' = w := by
  by_cases hx0 : x = 0
  · subst hx0; exact tz64_zero w
  · obtain ⟨hlow, hk⟩ := Lib.lowest_bit 64 x hx0 hx
    obtain ⟨hi, htab⟩ := Lib.deBruijn64_at _ hk
    have hcell := hT hx0 _ hi
    rw [htab] at hcell
    exact tz64_core x _ _ w (by simp; omega) (tz64_key x _ hx hx0 hlow) hi hk hcell
theorem tz (x : Nat) (hx : x < 18446744073709551616) (w : World) (hT : x ≠ 0 → TabAt 1 Lib.deBruijn64tab w) :
    Calls prog 94 #[.int .u64 x] w fun e w' => e = .returned (.int .i64 (Lib.ctz 64 x)) ∧ w' = w := by
  have c64 := tz64 x hx w hT
  have e29 : ∀ args w, (callFunc 106 args).run prog w = .ok (.enter 106 args) w := enters_of func106 (by kernel_rfl) rfl
  have hw : IntKind.u64.wrap (x : Int) = (x : Int) := by rw [IntKind.wrap_u64]; omega
  go_enter func94, ntmps94
  go_wp2_with (go_at_fn 106; refine c64.mono ?_; rintro e w' ⟨rfl, hw'⟩; rw [hw'])
  go_ret
  exact ⟨rfl, rfl⟩

theorem and_pred_lt (s : Nat) (h : s ≠ 0) : s &&& (s - 1) < s := Nat.lt_of_le_of_lt Nat.and_le_right (by omega)

/-- What is left of a set, in its box. -/
def boxLeft (B : Nat) (w : World) : Nat := match w.cell? ⟨B, 0, none⟩ with | some (.int _ n) => n.toNat | _ => 0
theorem boxLeft_eq {B s : Nat} {w : World} (h : w.cell? ⟨B, 0, none⟩ = some (.int .i64 s)) : boxLeft B w = s := by simp [boxLeft, h]

attribute [local go_sem] Oper.semAt_some

set_option maxRecDepth 100000 in
set_option maxHeartbeats 2000000 in
theorem players1 (l B s : Nat) (J Jx : List Nat → World → Prop) (W : World) (hs : s < 9223372036854775808) (hB : W.cell? ⟨B, 0, none⟩ = some (.int .i64 s)) (hfz : W.frozen? ⟨B, 0, none⟩ = false)
    (hT : ∀ pre W, J pre W → TabAt 1 Lib.deBruijn64tab W)
    (hst : ∀ pre W v, J pre W → J pre (W.setCell ⟨B, 0, none⟩ v))
    (hY : ∀ pre (x : Nat) W, J pre W → pre ++ [x] <+: Am.bits s → YieldAt Fence.wide 0 prog l #[.int .i64 x] W fun en W' =>
      (en = .returned (.bool true) ∧ J (pre ++ [x]) W' ∧ W'.cell? ⟨B, 0, none⟩ = W.cell? ⟨B, 0, none⟩ ∧ W'.frozen? ⟨B, 0, none⟩ = W.frozen? ⟨B, 0, none⟩) ∨ (en = .returned (.bool false) ∧ Jx (pre ++ [x]) W'))
    (h0 : J [] W) :
    CallsIn Fence.wide 1 prog 93 #[.func (.yield l) #[] #[], .pointer (some ⟨B, 0, none⟩)] W fun en W' => (∃ v, en = .returned v) ∧ (J (Am.bits s) W' ∨ ∃ pre, Jx pre W') := by
  refine callsIn_of_wp func93 rfl trivial ?_ rfl
  simp only [ntmps93, List.size_toArray, List.length_cons, List.length_nil, Nat.reduceAdd, Nat.reduceSub, Array.replicate_succ, Array.replicate_zero, List.push_toArray, List.append_toArray, List.nil_append, List.cons_append]
  have e94 : ∀ args w, (callFunc 94 args).run prog w = .ok (.enter 94 args) w := enters_of func94 (by kernel_rfl) rfl
  gi_wp2
  gi_loopw [3] (fun _ wr => ∃ (pre : List Nat) (t : Nat), t < 9223372036854775808 ∧ Am.bits s = pre ++ Am.bits t ∧ wr.cell? ⟨B, 0, none⟩ = some (.int .i64 t) ∧ wr.frozen? ⟨B, 0, none⟩ = false ∧ J pre wr)
    (fun _ wr => boxLeft B wr)
  case atStart => exact ⟨[], s, hs, rfl, hB, hfz, h0⟩
  case round =>
    obtain ⟨pre, t, ht, hx, hc, hf, hJ⟩ := hrel
    by_cases ht0 : t = 0
    · subst ht0
      gi_wp2
      go_end0
      exact ⟨⟨_, rfl⟩, .inl (by rw [hx, show Am.bits 0 = [] from rfl, List.append_nil]; exact hJ)⟩
    · have hw : IntKind.u64.wrap (t : Int) = (t : Int) := by rw [IntKind.wrap_u64]; omega
      have htz := tz t (by omega) wr (fun _ => hT _ _ hJ)
      have hy := hY pre (Lib.ctz 64 t) wr hJ (by rw [hx, Am.bits_step t ht ht0]; simp)
      have hne : ((t : Int) == 0) = false := by simpa using ht0
      have htz' : CallsIn Fence.wide 0 prog 94 #[.int .u64 t] wr fun e w' => e = .returned (.int .i64 (Lib.ctz 64 t)) ∧ w' = wr := callsIn_wide.2 htz
      obtain ⟨fn, tmps, assign, body, hy1, hR⟩ := hy
      gi_wp2
      refine ⟨trivial, htz'.mono ?_⟩
      rintro e w2 ⟨rfl, rfl⟩
      gi_wp2
      refine hR.mono ?_
      rintro e W3 (⟨rfl, hJ3, hc3, hf3⟩ | ⟨rfl, hJx3⟩)
      · rw [hc] at hc3
        rw [hf] at hf3
        gi_wp2
        have hand : bits BinOp.and IntKind.i64 (t : Int) ((t : Int) - 1) = ((t &&& (t - 1) : Nat) : Int) := by
          have := bitsV_and (a := t) (b := t - 1) ht (by omega)
          rw [← this, show ((t - 1 : Nat) : Int) = (t : Int) - 1 by omega]; rfl
        have hlt := and_pred_lt t ht0
        rw [hand]
        have hcell : (W3.setCell ⟨B, 0, none⟩ (.int .i64 ((t &&& (t - 1) : Nat) : Int))).cell? ⟨B, 0, none⟩ = some (.int .i64 ((t &&& (t - 1) : Nat) : Int)) := World.cell?_setCell_same' _ _ _ (by rw [hc3]; rfl)
        refine ⟨⟨_, _, _, _, _, _, _, _, _, _, _, _, ⟨pre ++ [Lib.ctz 64 t], t &&& (t - 1), by omega, by rw [hx, Am.bits_step t ht ht0]; simp, hcell, by rw [World.frozen?_setCell]; exact hf3, hst _ _ _ hJ3⟩, rfl⟩, ?_⟩
        rw [boxLeft_eq hcell, boxLeft_eq hc]
        exact hlt
      · gi_wp2
        refine bodyPost_ret (results_none rfl _ _ _) rfl ?_
        exact ⟨⟨_, rfl⟩, .inr ⟨_, hJx3⟩⟩

theorem tabAt_of [T : BitTab prog 1] {w : World} (h : ∀ p ∈ Tabs.tabs prog, w.heap[p.1]? = some p.2) : TabAt 1 Lib.deBruijn64tab w := by
  intro j hj
  have := h (1, _) (by rw [T.eq]; exact List.mem_singleton.2 rfl)
  simp only [World.cell?, this]
  simp [hj]

theorem bitIter [BitTab prog 1] : BitIter prog 93 := by
  refine ⟨enters_of func93 (by kernel_rfl) rfl, ?_⟩
  intro r l B s J Jx W hs hB hfz hT hst hY h0
  cases r with
  | none => exact players1 l B s J Jx W hs hB hfz (fun pre W hJ => tabAt_of (hT pre W hJ)) hst hY h0
  | some l0 => exact CallsIn.inRound l0 (players1 l B s J Jx W hs hB hfz (fun pre W hJ => tabAt_of (hT pre W hJ)) hst hY h0)
#print axioms bitIter
end Go.Proofs.Tryd

/-
  ranks: the tournament without its last player; the cycles as ints.
-/
import Derived.Test.YtemmcfeekpblkaaDoorRkReach
import Derived.Test.YtemmcfeekpblkaaDoorClr
import Derived.Test.YtemmcfeekpblkaaDoorAmZ
set_option linter.all false
namespace Go.Proofs.Tryd.Am
open Go.Am
set_option maxRecDepth 100000
set_option maxHeartbeats 1000000

/-- The tournament without its last player. -/
def lessL (xs : List Int) : List Int := (xs.take (xs.length - 1)).map fun z => ((z.toNat &&& (2 ^ (xs.length - 1) - 1) : Nat) : Int)
theorem lessL_len (xs : List Int) : (lessL xs).length = xs.length - 1 := by simp [lessL]
theorem lessL_get {xs : List Int} {i : Nat} (hi : i < xs.length - 1) : (lessL xs).getD i 0 = (((xs.getD i 0).toNat &&& (2 ^ (xs.length - 1) - 1) : Nat) : Int) := by
  have h1 : i < xs.length := by omega
  simp [lessL, List.getD, List.getElem?_take, hi, h1]
theorem lessL_bb {xs : List Int} {i j : Nat} (hi : i < xs.length - 1) (hj : j < xs.length - 1) : bb (lessL xs) i j = bb xs i j := by
  rw [bb, bb, lessL_get hi, bitI, bitI, Int.toNat_natCast, Nat.testBit_and, Nat.testBit_two_pow_sub_one, decide_eq_true hj, Bool.and_true]
theorem trn_len {xs : List Int} (h : trn xs = true) : 1 ≤ xs.length ∧ xs.length ≤ 8 := by
  simp only [trn, Bool.and_eq_true, decide_eq_true_eq] at h; exact h.1
theorem lessL_trn {xs : List Int} (h : trn xs = true) (h2 : 2 ≤ xs.length) : trn (lessL xs) = true := by
  have hl := trn_len h
  have hl2 := lessL_len xs
  simp only [trn, Bool.and_eq_true, decide_eq_true_eq, List.all_eq_true, List.mem_range, hl2] at h ⊢
  refine ⟨⟨by omega, by omega⟩, fun i hi => ?_⟩
  have h1 := h.2 i (by omega)
  simp only [okAt, Bool.and_eq_true, decide_eq_true_eq, List.all_eq_true, List.mem_range] at h1 ⊢
  have hlt : (xs.getD i 0).toNat &&& (2 ^ (xs.length - 1) - 1) < 2 ^ (xs.length - 1) := Nat.and_lt_two_pow _ (by have := Nat.two_pow_pos (xs.length - 1); omega)
  refine ⟨⟨⟨by rw [lessL_get hi]; omega, ?_⟩, ?_⟩, fun j hj => ?_⟩
  · rw [lessL_get hi, hl2]
    have : ((2 : Int) ^ (xs.length - 1)) = ((2 ^ (xs.length - 1) : Nat) : Int) := by simp
    rw [this]; exact Int.ofNat_lt.2 hlt
  · have e := lessL_bb (xs := xs) hi hi
    rw [bb, bb] at e
    rw [e]; exact h1.1.2
  · have e1 := lessL_bb (xs := xs) hi (show j < xs.length - 1 by omega)
    have e2 := lessL_bb (xs := xs) (show j < xs.length - 1 by omega) hi
    rw [bb, bb] at e1 e2
    rw [e1, e2]; exact h1.2 j hj
theorem lessL_take {xs : List Int} {i : Nat} (hi : i < xs.length - 1) : (lessL xs).take (i + 1) = (lessL xs).take i ++ [(((xs.getD i 0).toNat &&& (2 ^ (xs.length - 1) - 1) : Nat) : Int)] := by
  have h1 : i < (lessL xs).length := by rw [lessL_len]; exact hi
  rw [List.take_succ_eq_append_getElem h1]
  have := lessL_get hi
  rw [List.getD, List.getElem?_eq_getElem h1] at this
  rw [← this]; rfl
theorem trn_clr {xs : List Int} (h : trn xs = true) : Clr.Trn xs.length (bb xs) := ⟨(trn_trn h).1, (trn_trn h).2⟩
/-- The clear players of a tournament. -/
def clr (xs : List Int) : Nat := Clr.clearN xs.length (bb xs)
theorem clr_less {xs : List Int} (h : trn xs = true) (h2 : 2 ≤ xs.length) : clr (lessL xs) ≤ clr xs ∧ clr xs ≤ clr (lessL xs) + 1 := by
  have hl := trn_len h
  obtain ⟨k, hk⟩ : ∃ k, xs.length = k + 1 := ⟨xs.length - 1, by omega⟩
  have e : clr (lessL xs) = Clr.clearN k (bb xs) := by
    rw [clr, lessL_len, hk]
    exact Clr.clear_congr fun i j hi hj => lessL_bb (by omega) (by omega)
  have ht := trn_clr h
  rw [hk] at ht
  rw [e, clr, hk]
  exact Clr.clear_sub ht (by omega)

/-- A cycle as ints. -/
def cI (c : Nat × Nat × Nat) : T3 := ((c.1 : Int), (c.2.1 : Int), (c.2.2 : Int))
def cC (xs : List Int) (a x : Nat) (pre : List Nat) : List T3 := pre.flatMap fun c => if a < x ∧ a < c ∧ bb xs c a = true then [((a : Int), (x : Int), (c : Int))] else []
def cX (xs : List Int) (a : Nat) (pre : List Nat) : List T3 := pre.flatMap fun x => cC xs a x (Am.bits (xs.getD x 0).toNat)
def cA (xs : List Int) (k : Nat) : List T3 := (List.range k).flatMap fun a => cX xs a (Am.bits (xs.getD a 0).toNat)
theorem cA_succ (xs : List Int) (k : Nat) : cA xs (k + 1) = cA xs k ++ cX xs k (Am.bits (xs.getD k 0).toNat) := by simp [cA, List.range_succ]
theorem cX_snoc (xs : List Int) (a : Nat) (pre : List Nat) (x : Nat) : cX xs a (pre ++ [x]) = cX xs a pre ++ cC xs a x (Am.bits (xs.getD x 0).toNat) := by simp [cX]
theorem cC_snoc (xs : List Int) (a x : Nat) (pre : List Nat) (c : Nat) : cC xs a x (pre ++ [c]) = cC xs a x pre ++ (if a < x ∧ a < c ∧ bb xs c a = true then [((a : Int), (x : Int), (c : Int))] else []) := by simp [cC]
theorem bits_bb {xs : List Int} (h : trn xs = true) {i : Nat} (hi : i < xs.length) : Am.bits (xs.getD i 0).toNat = (List.range xs.length).filter (bb xs i) := by
  have hl := trn_len h
  rw [bits_range (trn_nat h hi).2 (by omega)]; rfl
theorem cA_all {xs : List Int} (h : trn xs = true) : cA xs xs.length = (Clr.cycles xs.length (bb xs)).map cI := by
  rw [cA, Clr.cycles, List.map_flatMap, List.flatMap_def, List.flatMap_def]
  congr 1
  refine List.map_congr_left fun a ha => ?_
  have ha' := List.mem_range.1 ha
  rw [cX, bits_bb h ha', List.map_flatMap, List.flatMap_def, List.flatMap_def]
  congr 1
  refine List.map_congr_left fun x hx => ?_
  have hx' := List.mem_range.1 (List.mem_filter.1 hx).1
  rw [cC, bits_bb h hx', List.map_flatMap]
  congr 1
  funext c
  split <;> rfl
theorem flat_le {α β : Type} {f : α → List β} {k : Nat} : ∀ l : List α, (∀ x ∈ l, (f x).length ≤ k) → (l.flatMap f).length ≤ l.length * k
  | [], _ => by simp
  | x :: l, h => by
    have := flat_le l fun y hy => h y (by simp [hy])
    have := h x (by simp)
    rw [List.flatMap_cons, List.length_append, List.length_cons, Nat.succ_mul]; omega
theorem bits_len8 {xs : List Int} (h : trn xs = true) {i : Nat} (hi : i < xs.length) : (Am.bits (xs.getD i 0).toNat).length ≤ 8 := by
  rw [bits_bb h hi]
  have := List.length_filter_le (bb xs i) (List.range xs.length)
  rw [List.length_range] at this
  have := trn_len h; omega
theorem cC_le {xs : List Int} {a x : Nat} (pre : List Nat) : (cC xs a x pre).length ≤ pre.length := by
  have := flat_le (f := fun c => if a < x ∧ a < c ∧ bb xs c a = true then [((a : Int), (x : Int), (c : Int))] else []) (k := 1) pre fun c _ => by
    split <;> simp
  rw [Nat.mul_one] at this; exact this
end Go.Proofs.Tryd.Am

/-
  ranks: the first best order, as the program finds it: a table of what the players who are left bring.
-/
import Derived.Test.YtemmcfeekpblkaaDoorRkROrd
set_option linter.all false
namespace Go.Proofs.Tryd.Am
open Go.Am Redei Rb
set_option maxRecDepth 100000
set_option maxHeartbeats 1000000

theorem iL_get (L : List Nat) (i : Nat) : (iL L).getD i 0 = ((L.getD i 0 : Nat) : Int) := by
  rw [List.getD, List.getElem?_map, List.getD]; cases L[i]? <;> rfl
theorem iL_set (L : List Nat) (i x : Nat) : (iL L).set i ((x : Nat) : Int) = iL (L.set i x) := by simp only [iL, List.map_set]; rfl
theorem getD_setN {L : List Nat} {s x i : Nat} (hs : s < L.length) : (L.set s x).getD i 0 = if i = s then x else L.getD i 0 := by
  rw [List.getD, List.getElem?_set]
  by_cases h : s = i
  · subst h; simp [hs]
  · rw [if_neg h, if_neg (Ne.symm h)]; rfl
abbrev tv (b M : Nat) : Value := .slice (some ⟨b, 0, none⟩) M M
section tab
variable {hp : Heap} {b M : Nat} {L : List Nat}
theorem tab_idx (hb : hp[b]? = some (.ints (iL L) 3 false)) (hL : L.length = M) {i : Nat} (hi : i < M) {K : Value → Prop} : idxAddrK prog 22 (tv b M) (vint i) K = K (.pointer (some ⟨b, i, none⟩)) := by
  have h1 := intSl_blk hb
  rw [iL_len, hL] at h1
  rw [h1.idx el_22 esz_3 (by rw [iL_len, hL]; exact hi), elemP_new]
theorem tab_load (hb : hp[b]? = some (.ints (iL L) 3 false)) (hL : L.length = M) {i : Nat} (hi : i < M) {K : Value → Prop} : loadK prog hp 3 (.pointer (some ⟨b, i, none⟩)) K = K (vint (L.getD i 0 : Nat)) := by
  have h1 := intSl_blk hb
  rw [iL_len, hL] at h1
  have := h1.load shp_3 (i := i) (by rw [iL_len, hL]; exact hi) K
  rw [elemP_new, iL_get] at this
  exact this
theorem tab_store (hb : hp[b]? = some (.ints (iL L) 3 false)) (hL : L.length = M) {i x : Nat} (hi : i < M) {K : Heap → Prop} : storeK prog hp 3 (.pointer (some ⟨b, i, none⟩)) (vint (x : Nat)) K = K (hp.set b (.ints (iL (L.set i x)) 3 false)) := by
  rw [storeBI hb shp_3 (by rw [iL_len, hL]; exact hi), iL_set]
end tab

/-- What the run leans on: the tournament, the table, and the function that says what a player brings. -/
structure OB (h hp : Heap) (gv : Value) (M : Nat) (T : List Nat) : Prop where
  b1 : hp[h.length]? = some (.cells [gv] 22 false)
  bT : hp[h.length + 1]? = some (.ints (iL T) 3 false)
  b5 : hp[h.length + 2]? = some (.cells [tv (h.length + 1) M] 22 false)
  b6 : hp[h.length + 3]? = some (.cells [.func (.func 75) #[] #[pt h.length, pt (h.length + 2)]] 69 false)
  E : Ext (fun _ => False) h hp
  len : T.length = M
section
variable {h hp hp2 : Heap} {gv : Value} {M : Nat} {T : List Nat}
theorem OB.up (o : OB h hp gv M T) (hE : Ext (fun i => h.length + 4 ≤ i) hp hp2) : OB h hp2 gv M T := by
  have k : ∀ {i B}, i < h.length + 4 → hp[i]? = some B → hp2[i]? = some B := fun hi hb => (hE.2 _ (get_lt hb) (by omega)).trans hb
  exact ⟨k (by omega) o.b1, k (by omega) o.bT, k (by omega) o.b5, k (by omega) o.b6, ⟨Nat.le_trans o.E.1 hE.1, fun i hi _ => (hE.2 i (Nat.lt_of_lt_of_le hi o.E.1) (by omega)).trans (o.E.2 i hi id)⟩, o.len⟩
theorem OB.tab (o : OB h hp gv M T) {T2 : List Nat} (hT : T2.length = M) : OB h (hp.set (h.length + 1) (.ints (iL T2) 3 false)) gv M T2 := by
  have hl := get_lt o.bT
  refine ⟨?_, get_set hl _, ?_, ?_, o.E.set_ge (by omega) _, hT⟩
  · rw [List.getElem?_set_ne (by omega)]; exact o.b1
  · rw [List.getElem?_set_ne (by omega)]; exact o.b5
  · rw [List.getElem?_set_ne (by omega)]; exact o.b6
end
theorem cst_le (xs : List Int) (i s : Nat) : cst xs i s ≤ 64 := by
  rw [cst, bitsLen]
  have := List.countP_le_length (p := ((xs.getD i 0).toNat &&& s).testBit) (l := List.range 64)
  rw [List.length_range] at this; exact this

theorem mnF_snoc {v : Nat → Nat} : ∀ (l : List Nat) (b x : Nat), mnF v (l ++ [x]) b = if v x < mnF v l b then v x else mnF v l b
  | [], b, x => rfl
  | i :: l, b, x => by rw [List.cons_append, mnF, mnF_snoc l, mnF]
theorem mnI (a b : Nat) : (if ((b : Nat) : Int) < ((a : Nat) : Int) then ((b : Nat) : Int) else ((a : Nat) : Int)) = ((if b < a then b else a : Nat) : Int) := by
  by_cases h : b < a
  · rw [if_pos h, if_pos (by omega)]
  · rw [if_neg h, if_neg (by omega)]
/-- Who is left, as the program goes through them. -/
theorem bits_left {n s M : Nat} (hM : 2 ^ n = M) (hn : n ≤ 64) (hs : s < M) : Am.bits (less (M - 1) s) = fr n s := by
  rw [← hM] at hs ⊢
  have key : ∀ d, (List.range (n + d)).filter (less (2 ^ n - 1) s).testBit = (List.range n).filter fun i => !s.testBit i := by
    intro d
    induction d with
    | zero =>
      refine List.filter_congr fun i hi => ?_
      have hi' : i < n := List.mem_range.1 hi
      rw [less_testBit, Nat.testBit_two_pow_sub_one, decide_eq_true hi', Bool.true_and]
    | succ d ih =>
      rw [← Nat.add_assoc, List.range_succ, List.filter_append, ih]
      have : (less (2 ^ n - 1) s).testBit (n + d) = false := by rw [less_testBit, Nat.testBit_two_pow_sub_one, decide_eq_false (by omega), Bool.false_and]
      simp [this]
  have := key (64 - n)
  rw [show n + (64 - n) = 64 by omega] at this
  rw [Am.bits, fr]; exact this
/-- What the table says of the sets that are done. -/
def TOk (xs : List Int) (M t : Nat) (T : List Nat) : Prop := (∀ s, t ≤ s → s < M → T.getD s 0 = rst (cst xs) xs.length (fr xs.length s).length s) ∧ ∀ s, T.getD s 0 ≤ 64
theorem rst_64 {xs : List Int} (hl : xs.length ≤ 8) {s : Nat} (hs : s < 2 ^ xs.length) : rst (cst xs) xs.length (fr xs.length s).length s ≤ 64 := by
  have h1 := rst_le (cst_few hl) _ s hs rfl
  have h2 := (tri_le xs.length hl _ (fr_le xs.length s)).1
  have h3 : xs.length * xs.length ≤ 8 * 8 := Nat.mul_le_mul hl hl
  omega
theorem fr_full {n s M : Nat} (hM : 2 ^ n = M) (hs : s < M) : fr n s = [] ↔ s = M - 1 := by
  rw [← hM] at hs ⊢
  constructor
  · intro h0
    apply Nat.eq_of_testBit_eq
    intro i
    rw [Nat.testBit_two_pow_sub_one]
    by_cases hi : i < n
    · cases hb : s.testBit i with
      | true => simp [hi]
      | false =>
        have : i ∈ fr n s := mem_fr.2 ⟨hi, hb⟩
        rw [h0] at this; cases this
    · rw [Nat.testBit_lt_two_pow (Nat.lt_of_lt_of_le hs (Nat.pow_le_pow_right (by decide) (by omega)))]; simp [hi]
  · rintro rfl
    rw [List.eq_nil_iff_forall_not_mem]
    intro i hi
    have := mem_fr.1 hi
    rw [Nat.testBit_two_pow_sub_one] at this
    simp [this.1] at this
end Go.Proofs.Tryd.Am

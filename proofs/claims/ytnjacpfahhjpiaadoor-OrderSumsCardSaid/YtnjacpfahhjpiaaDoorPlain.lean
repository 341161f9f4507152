/-
  Plain theory: orders as lists of ints; their lines, counted by which sets can come first; an element taken out.
-/
import Derived.Test.YtnjacpfahhjpiaaDoorAmR
import Derived.Test.YtnjacpfahhjpiaaDoorLines
set_option linter.all false
namespace Ord
open Go.Am

/-- What is above i, as a set. -/
def bt (o : List Int) (i : Nat) : Nat := (o.getD i 0).toNat
/-- j is above i. -/
def ab (o : List Int) (i j : Nat) : Bool := (bt o i).testBit j
def okO (o : List Int) (i : Nat) : Bool :=
  decide (0 ≤ o.getD i 0) && decide (o.getD i 0 < 2 ^ o.length) && !ab o i i && (List.range o.length).all fun j => !ab o i j || (bitsV .andNot .i64 (o.getD j 0) (o.getD i 0) == 0)
def ord (o : List Int) : Bool := decide (1 ≤ o.length) && decide (o.length ≤ 6) && (List.range o.length).all (okO o)

theorem ord_len {o : List Int} (h : ord o = true) : 1 ≤ o.length ∧ o.length ≤ 6 := by
  simp only [ord, Bool.and_eq_true, decide_eq_true_eq] at h; exact h.1
theorem pow6 {n : Nat} (h : n ≤ 6) : 2 ^ n ≤ 64 ∧ 0 < 2 ^ n := ⟨Nat.pow_le_pow_right (n := 2) (by decide) h, Nat.two_pow_pos n⟩
theorem ord_at {o : List Int} (h : ord o = true) {i : Nat} (hi : i < o.length) : okO o i = true := by
  simp only [ord, Bool.and_eq_true, List.all_eq_true, List.mem_range] at h; exact h.2 i hi
theorem ord_nat {o : List Int} (h : ord o = true) {i : Nat} (hi : i < o.length) : o.getD i 0 = (bt o i : Int) ∧ bt o i < 2 ^ o.length := by
  have h2 := ord_at h hi
  simp only [okO, Bool.and_eq_true, decide_eq_true_eq] at h2
  have e : ((2 ^ o.length : Nat) : Int) = 2 ^ o.length := by simp
  have h3 := h2.1.1.1
  have h4 := h2.1.1.2
  refine ⟨(Int.toNat_of_nonneg h3).symm, ?_⟩
  rw [← Int.toNat_of_nonneg h3, ← e] at h4
  exact Int.ofNat_lt.1 h4
theorem bt_out {o : List Int} {i : Nat} (hi : o.length ≤ i) : bt o i = 0 := by simp [bt, List.getD, List.getElem?_eq_none hi]
theorem ab_lt {o : List Int} (h : ord o = true) {i j : Nat} (hij : ab o i j = true) : i < o.length ∧ j < o.length := by
  have hi : i < o.length := by
    rcases Nat.lt_or_ge i o.length with h | h
    · exact h
    · simp [ab, bt_out h] at hij
  refine ⟨hi, ?_⟩
  rcases Nat.lt_or_ge j o.length with h' | h'
  · exact h'
  · have := Nat.testBit_lt_two_pow (Nat.lt_of_lt_of_le (ord_nat h hi).2 (Nat.pow_le_pow_right (by decide) h'))
    rw [ab, this] at hij; cases hij
theorem less_zero {a b : Nat} : less a b = 0 ↔ ∀ k, a.testBit k = true → b.testBit k = true := by
  constructor
  · intro h k hk
    have := less_testBit a b k
    rw [h, hk, Nat.zero_testBit] at this
    cases hb : b.testBit k with
    | true => rfl
    | false => rw [hb] at this; cases this
  · intro h
    apply Nat.eq_of_testBit_eq
    intro k
    rw [less_testBit, Nat.zero_testBit]
    cases ha : a.testBit k with
    | false => rfl
    | true => rw [h k ha]; rfl
theorem ord_po {o : List Int} (h : ord o = true) : Po (ab o) := by
  have hlen := ord_len h
  have hp := pow6 hlen.2
  constructor
  · intro i
    rcases Nat.lt_or_ge i o.length with hi | hi
    · have h2 := ord_at h hi
      simp only [okO, Bool.and_eq_true, Bool.not_eq_true'] at h2
      exact h2.1.2
    · simp [ab, bt_out hi]
  · intro i j k hij hjk
    obtain ⟨hi, hj⟩ := ab_lt h hij
    have h2 := ord_at h hi
    simp only [okO, Bool.and_eq_true, List.all_eq_true, List.mem_range] at h2
    have h3 := h2.2 j hj
    rw [hij, Bool.not_true, Bool.false_or, beq_iff_eq] at h3
    obtain ⟨e1, l1⟩ := ord_nat h hi
    obtain ⟨e2, l2⟩ := ord_nat h hj
    rw [e1, e2, bitsV_andNot (by omega) (by omega)] at h3
    exact less_zero.1 (Int.ofNat.inj h3) k hjk

/-- What is below i. -/
def dn (o : List Int) (i : Nat) : Nat := (List.range o.length).foldl (fun s j => s ||| (if ab o j i then 2 ^ j else 0)) 0
theorem foldl_or_bit {f : Nat → Nat} {w : Nat} : ∀ (l : List Nat) (s : Nat), (l.foldl (fun r j => r ||| f j) s).testBit w = (s.testBit w || l.any fun j => (f j).testBit w)
  | [], s => by simp
  | x :: l, s => by rw [List.foldl_cons, foldl_or_bit l, Nat.testBit_or, List.any_cons, Bool.or_assoc]
theorem dn_bit {o : List Int} {i j : Nat} : (dn o i).testBit j = (decide (j < o.length) && ab o j i) := by
  rw [dn, foldl_or_bit, Nat.zero_testBit, Bool.false_or, Bool.eq_iff_iff, List.any_eq_true, Bool.and_eq_true, decide_eq_true_eq]
  constructor
  · rintro ⟨x, hx, hb⟩
    cases ha : ab o x i with
    | false => simp [ha] at hb
    | true =>
      rw [ha, if_pos rfl, Nat.testBit_two_pow, decide_eq_true_eq] at hb
      subst hb
      exact ⟨List.mem_range.1 hx, ha⟩
  · rintro ⟨h1, h2⟩
    exact ⟨j, List.mem_range.2 h1, by rw [h2, if_pos rfl, Nat.testBit_two_pow_self]⟩
theorem dn_bit' {o : List Int} (h : ord o = true) {i j : Nat} : (dn o i).testBit j = ab o j i := by
  rw [dn_bit]
  cases ha : ab o j i with
  | false => simp
  | true => simp [(ab_lt h ha).1]
theorem lt_of_bits {s n : Nat} (h : ∀ j, n ≤ j → s.testBit j = false) : s < 2 ^ n := Nat.lt_pow_two_of_testBit s fun j hj => h j hj
theorem dn_lt {o : List Int} {i : Nat} : dn o i < 2 ^ o.length := lt_of_bits fun j hj => by rw [dn_bit, decide_eq_false (by omega)]; rfl

theorem bits_nodup (s : Nat) : (bits s).Nodup := (List.nodup_range).filter _
theorem bits_erase {s i : Nat} (hi : i < 64) : (bits s).erase i = bits (less s (2 ^ i)) := by
  rw [List.Nodup.erase_eq_filter (bits_nodup s), bits, bits, List.filter_filter]
  refine List.filter_congr fun j hj => ?_
  rw [less_testBit, Nat.testBit_two_pow, Bool.and_comm]
  by_cases h : j = i
  · subst h; simp
  · simp [h, Ne.symm h]
theorem bits_range {s n : Nat} (h : s < 2 ^ n) (hn : n ≤ 64) : bits s = (List.range n).filter fun i => s.testBit i := by
  obtain ⟨d, hd⟩ : ∃ d, 64 = n + d := ⟨64 - n, by omega⟩
  rw [bits, hd, List.range_add, List.filter_append]
  have : (List.map (n + ·) (List.range d)).filter (fun i => s.testBit i) = [] := by
    rw [List.filter_eq_nil_iff]
    intro a ha
    obtain ⟨k, -, rfl⟩ := List.mem_map.1 ha
    rw [Nat.testBit_lt_two_pow (Nat.lt_of_lt_of_le h (Nat.pow_le_pow_right (by decide) (Nat.le_add_right n k)))]
    decide
  rw [this, List.append_nil]
theorem bits_all {n : Nat} (hn : n ≤ 64) : bits (2 ^ n - 1) = List.range n := by
  rw [bits_range (n := n) (by have := Nat.two_pow_pos n; omega) hn, List.filter_eq_self]
  intro i hi
  rw [Nat.testBit_two_pow_sub_one, decide_eq_true (List.mem_range.1 hi)]

/-- Whether i can be the last one of a set: all below it are there, none above it. -/
def okLast (o : List Int) (s i : Nat) : Bool := decide (less (dn o i) s = 0) && decide (bt o i &&& s = 0)
def Wf (o : List Int) : Nat → Nat → Nat
  | 0, _ => 1
  | k + 1, s => (((bits s).filter (okLast o s)).map fun i => Wf o k (less s (2 ^ i))).sum
/-- In how many ways a set can come first. -/
def W (o : List Int) (s : Nat) : Nat := Wf o (bits s).length s

theorem W_zero (o : List Int) : W o 0 = 1 := by
  have : bits 0 = [] := by decide
  rw [W, this]; rfl
theorem bits_ne {s : Nat} (h0 : s ≠ 0) (h : s < 2 ^ 63) : bits s ≠ [] := by rw [bits_step s h h0]; exact List.cons_ne_nil _ _
theorem W_step {o : List Int} {s : Nat} (h0 : s ≠ 0) (h : s < 2 ^ 63) : W o s = (((bits s).filter (okLast o s)).map fun i => W o (less s (2 ^ i))).sum := by
  have hne := bits_ne h0 h
  have hl : ∃ k, (bits s).length = k + 1 := ⟨(bits s).length - 1, by have := List.length_pos_iff.2 hne; omega⟩
  obtain ⟨k, hk⟩ := hl
  rw [W, hk, Wf]
  congr 1
  refine List.map_congr_left fun i hi => ?_
  have hib := (List.mem_filter.1 hi).1
  rw [W, ← bits_erase (mem_bits.1 hib).1, List.length_erase_of_mem hib, hk]; rfl

theorem Wf_le (o : List Int) : ∀ k s, s < 64 → Wf o k s ≤ 6 ^ k
  | 0, _, _ => Nat.le_refl _
  | k + 1, s, hs => by
    rw [Wf]
    have hlen : ((bits s).filter (okLast o s)).length ≤ 6 := by
      have h1 := List.length_filter_le (okLast o s) (bits s)
      have h2 : (bits s).length ≤ 6 := by
        rw [bits_range (n := 6) hs (by decide)]
        have := List.length_filter_le (fun i => s.testBit i) (List.range 6)
        rw [List.length_range] at this; exact this
      omega
    have key : ∀ l : List Nat, (l.map fun i => Wf o k (less s (2 ^ i))).sum ≤ l.length * 6 ^ k := by
      intro l
      induction l with
      | nil => simp
      | cons a l ih =>
        rw [List.map_cons, List.sum_cons, List.length_cons, Nat.succ_mul]
        have := Wf_le o k (less s (2 ^ a)) (less_lt (n := 6) hs)
        omega
    have h1 := key ((bits s).filter (okLast o s))
    have h2 := Nat.mul_le_mul_right (6 ^ k) hlen
    rw [Nat.pow_succ]
    omega
theorem bits_len6 {s : Nat} (hs : s < 64) : (bits s).length ≤ 6 := by
  rw [bits_range (n := 6) hs (by decide)]
  have := List.length_filter_le (fun i => s.testBit i) (List.range 6)
  rw [List.length_range] at this; exact this
theorem W_le {o : List Int} {s : Nat} (hs : s < 64) : W o s ≤ 46656 :=
  Nat.le_trans (Wf_le o _ s hs) (Nat.pow_le_pow_right (n := 6) (by decide) (bits_len6 hs))

theorem Wf_cnt {o : List Int} (h : ord o = true) : ∀ k s, (bits s).length = k → (∀ i j, s.testBit j = true → ab o i j = true → s.testBit i = true) → s < 64 → Wf o k s = cnt (fun i j => ab o j i) k (bits s)
  | 0, _, _, _, _ => rfl
  | k + 1, s, hk, hd, hs => by
    rw [Wf, cnt]
    have e : (bits s).filter (okLast o s) = firsts (fun i j => ab o j i) (bits s) := by
      refine List.filter_congr fun i hi => ?_
      rw [okLast, Bool.eq_iff_iff, Bool.and_eq_true, decide_eq_true_eq, decide_eq_true_eq, List.all_eq_true]
      have h1 : less (dn o i) s = 0 := less_zero.2 fun j hj => hd j i (mem_bits.1 hi).2 (by rwa [dn_bit' h] at hj)
      constructor
      · rintro ⟨-, h2⟩ j hj
        have := congrArg (fun x => x.testBit j) h2
        simp only [Nat.testBit_and, (mem_bits.1 hj).2, Bool.and_true, Nat.zero_testBit] at this
        show (!ab o i j) = true
        rw [ab, this]; rfl
      · intro H
        refine ⟨h1, ?_⟩
        apply Nat.eq_of_testBit_eq
        intro j
        rw [Nat.testBit_and, Nat.zero_testBit]
        cases hj : s.testBit j with
        | false => simp
        | true =>
          have hj64 : j < 64 := by
            rcases Nat.lt_or_ge j 64 with h | h
            · exact h
            · rw [Nat.testBit_lt_two_pow (Nat.lt_of_lt_of_le hs (Nat.pow_le_pow_right (n := 2) (i := 6) (by decide) (by omega)))] at hj; cases hj
          have := H j (mem_bits.2 ⟨hj64, hj⟩)
          simp only [Bool.not_eq_true', ab] at this
          rw [this]; rfl
    rw [e]
    congr 1
    refine List.map_congr_left fun i hi => ?_
    obtain ⟨hib, hm⟩ := mem_firsts.1 hi
    have hi64 := (mem_bits.1 hib).1
    rw [bits_erase hi64]
    refine Wf_cnt h k _ ?_ ?_ (less_lt (n := 6) hs)
    · rw [← bits_erase hi64, List.length_erase_of_mem hib]; omega
    · intro a b hb hab
      rw [less_testBit, Bool.and_eq_true, Nat.testBit_two_pow, Bool.not_eq_true', decide_eq_false_iff_not] at hb ⊢
      have ha := hd a b hb.1 hab
      refine ⟨ha, fun he => ?_⟩
      subst he
      have hb64 : b < 64 := by have := (ab_lt h hab).2; have := ord_len h; omega
      have := hm b (mem_bits.2 ⟨hb64, hb.1⟩)
      rw [hab] at this; cases this

/-- How many lines there are. -/
def cn (o : List Int) : Nat := cnt (ab o) o.length (List.range o.length)
theorem cn_len {o : List Int} (h : ord o = true) : W o (2 ^ o.length - 1) = cn o := by
  have hlen := ord_len h
  have hp := pow6 hlen.2
  have hb := bits_all (n := o.length) (by omega)
  rw [W, Wf_cnt h _ _ rfl ?_ (by omega), hb, cn]
  · have := cnt_flip (ord_po h).irr (S := List.range o.length) List.nodup_range
    rw [List.length_range] at this
    rw [List.length_range]; exact this
  · intro i j _ hij
    rw [Nat.testBit_two_pow_sub_one, decide_eq_true (ab_lt h hij).1]
theorem cn_le {o : List Int} (h : ord o = true) : cn o ≤ 46656 := by
  have := pow6 (ord_len h).2
  rw [← cn_len h]; exact W_le (by omega)
theorem cn_pos {o : List Int} (h : ord o = true) : 0 < cn o := cnt_pos (ord_po h) (by simp)

/-- The order with j above i. -/
def addL (o : List Int) (i j : Nat) : List Int := (List.range o.length).map fun k => if k = i ∨ ab o k i = true then ((bt o k ||| (bt o j ||| 2 ^ j) : Nat) : Int) else o.getD k 0
theorem addL_len {o : List Int} {i j : Nat} : (addL o i j).length = o.length := by simp [addL]
theorem getD_map {f : Nat → Int} {n k : Nat} : ((List.range n).map f).getD k 0 = if k < n then f k else 0 := by
  by_cases hk : k < n <;> simp [List.getD, hk]
theorem addL_bt {o : List Int} {i j k : Nat} : bt (addL o i j) k = if k < o.length ∧ (k = i ∨ ab o k i = true) then bt o k ||| (bt o j ||| 2 ^ j) else bt o k := by
  by_cases hk : k < o.length
  · by_cases hc : k = i ∨ ab o k i = true
    · rw [if_pos ⟨hk, hc⟩, bt, addL, getD_map, if_pos hk, if_pos hc, Int.toNat_natCast]
    · rw [if_neg (fun h => hc h.2), bt, addL, getD_map, if_pos hk, if_neg hc]; rfl
  · rw [if_neg (fun h => hk h.1), bt_out (by rw [addL_len]; omega), bt_out (by omega)]
theorem addL_ab {o : List Int} {i j : Nat} (hi : i < o.length) (h : ord o = true) : ab (addL o i j) = addR (ab o) i j := by
  funext a b
  rw [ab, addL_bt, addR]
  by_cases hc : a = i ∨ ab o a i = true
  · have ha : a < o.length := hc.elim (fun e => e ▸ hi) fun h' => (ab_lt h h').1
    rw [if_pos ⟨ha, hc⟩, Nat.testBit_or, Nat.testBit_or, Nat.testBit_two_pow]
    have : (a == i || ab o a i) = true := by rcases hc with h | h <;> simp [h]
    rw [this, Bool.true_and]
    show (ab o a b || (ab o j b || _)) = (ab o a b || ((b == j) || ab o j b))
    congr 1
    rw [Bool.or_comm]
    congr 1
    by_cases hbj : j = b
    · subst hbj; simp
    · simp [hbj, Ne.symm hbj]
  · rw [if_neg (fun h => hc h.2)]
    have : (a == i || ab o a i) = false := by
      cases e : (a == i || ab o a i) with
      | false => rfl
      | true => simp only [Bool.or_eq_true, beq_iff_eq] at e; exact absurd e hc
    rw [this, Bool.false_and, Bool.or_false]; rfl
/-- A list of sets of elements with a strict order is one. -/
theorem ord_of {o : List Int} (h1 : 1 ≤ o.length ∧ o.length ≤ 6) (hb : ∀ i, i < o.length → ∃ s : Nat, o.getD i 0 = (s : Int) ∧ s < 2 ^ o.length) (hp : Po (ab o)) : ord o = true := by
  have hp6 := pow6 h1.2
  simp only [ord, Bool.and_eq_true, decide_eq_true_eq, List.all_eq_true, List.mem_range]
  refine ⟨h1, fun i hi => ?_⟩
  obtain ⟨s, hs, hl⟩ := hb i hi
  have e : ((2 ^ o.length : Nat) : Int) = 2 ^ o.length := by simp
  simp only [okO, Bool.and_eq_true, decide_eq_true_eq, List.all_eq_true, List.mem_range, Bool.not_eq_true']
  refine ⟨⟨⟨by omega, by rw [hs, ← e]; exact Int.ofNat_lt.2 hl⟩, hp.irr i⟩, fun j hj => ?_⟩
  obtain ⟨t, ht, hl2⟩ := hb j hj
  cases hij : ab o i j with
  | false => rfl
  | true =>
    rw [Bool.not_true, Bool.false_or, hs, ht, bitsV_andNot (by omega) (by omega)]
    have hz : less t s = 0 := less_zero.2 fun k hk => by
      have h2 : ab o j k = true := by rw [ab, bt, ht, Int.toNat_natCast]; exact hk
      have := hp.tr i j k hij h2
      rwa [ab, bt, hs, Int.toNat_natCast] at this
    rw [hz]; rfl
theorem addL_ord {o : List Int} (h : ord o = true) {i j : Nat} (hi : i < o.length) (hj : j < o.length) (hn : i ≠ j) (hji : ab o j i = false) : ord (addL o i j) = true := by
  refine ord_of (by rw [addL_len]; exact ord_len h) (fun k hk => ?_) (by rw [addL_ab hi h]; exact addR_po (ord_po h) hn hji)
  rw [addL_len] at hk ⊢
  obtain ⟨e1, l1⟩ := ord_nat h hk
  obtain ⟨e2, l2⟩ := ord_nat h hj
  have e : (addL o i j).getD k 0 = if k = i ∨ ab o k i = true then ((bt o k ||| (bt o j ||| 2 ^ j) : Nat) : Int) else o.getD k 0 := by rw [addL, getD_map, if_pos hk]
  rw [e]
  split
  · exact ⟨_, rfl, Nat.or_lt_two_pow l1 (Nat.or_lt_two_pow l2 (Nat.pow_lt_pow_right (by decide) hj))⟩
  · exact ⟨_, e1, l1⟩
/-- Free elements. -/
def fr (o : List Int) (i j : Nat) : Bool := decide (i ≠ j) && !ab o i j && !ab o j i
theorem cn_two {o : List Int} (h : ord o = true) {i j : Nat} (hi : i < o.length) (hj : j < o.length) (hf : fr o i j = true) : cn (addL o i j) + cn (addL o j i) = cn o := by
  simp only [fr, Bool.and_eq_true, decide_eq_true_eq, Bool.not_eq_true'] at hf
  rw [cn, cn, cn, addL_len, addL_len, addL_ab hi h, addL_ab hj h]
  have := cnt_add_two (ord_po h) hf.1.1 hf.1.2 hf.2 (S := List.range o.length) List.nodup_range (List.mem_range.2 hi) (List.mem_range.2 hj)
  rw [List.length_range] at this
  exact this

/-- Element x taken out of a set. -/
def delB (s x : Nat) : Nat := s &&& (2 ^ x - 1) ||| (s >>> (x + 1)) <<< x
theorem delB_bit {s x j : Nat} : (delB s x).testBit j = s.testBit (if j < x then j else j + 1) := by
  rw [delB, Nat.testBit_or, Nat.testBit_and, Nat.testBit_two_pow_sub_one, Nat.testBit_shiftLeft, Nat.testBit_shiftRight]
  by_cases h : j < x
  · rw [if_pos h, decide_eq_true h, decide_eq_false (by omega)]; simp
  · rw [if_neg h, decide_eq_false h, decide_eq_true (by omega)]
    have : x + 1 + (j - x) = j + 1 := by omega
    rw [this]; simp
def up (x j : Nat) : Nat := if j < x then j else j + 1
/-- The order without x. -/
def delL (o : List Int) (x : Nat) : List Int := ((List.range o.length).filter fun y => decide (y ≠ x)).map fun y => (delB (bt o y) x : Int)
theorem range_del {n x : Nat} (hx : x < n + 1) : ((List.range (n + 1)).filter fun y => decide (y ≠ x)) = (List.range n).map (up x) := by
  induction n with
  | zero =>
    obtain rfl : x = 0 := by omega
    decide
  | succ n ih =>
    rw [List.range_succ, List.filter_append]
    by_cases hxn : x = n + 1
    · subst hxn
      have h1 : (List.range (n + 1)).filter (fun y => decide (y ≠ n + 1)) = List.range (n + 1) := by
        rw [List.filter_eq_self]; intro a ha; have := List.mem_range.1 ha; simp; omega
      have h2 : (List.range (n + 1)).map (up (n + 1)) = List.range (n + 1) := by
        conv => rhs; rw [← List.map_id (List.range (n + 1))]
        refine List.map_congr_left fun a ha => ?_
        have := List.mem_range.1 ha
        simp only [up, if_pos this, id]
      rw [h1, h2]; simp
    · rw [ih (by omega), List.range_succ, List.map_append]
      have h1 : up x n = n + 1 := by rw [up, if_neg (by omega)]
      simp [h1, Ne.symm hxn]
theorem delL_eq {o : List Int} {x : Nat} (hx : x < o.length) : delL o x = (List.range (o.length - 1)).map fun a => (delB (bt o (up x a)) x : Int) := by
  obtain ⟨n, hn⟩ : ∃ n, o.length = n + 1 := ⟨o.length - 1, by omega⟩
  rw [delL, hn, range_del (by omega), List.map_map]; rfl
theorem delL_len {o : List Int} {x : Nat} (hx : x < o.length) : (delL o x).length = o.length - 1 := by rw [delL_eq hx]; simp
theorem delL_ab {o : List Int} {x : Nat} (hx : x < o.length) {a b : Nat} (ha : a < o.length - 1) : ab (delL o x) a b = ab o (up x a) (up x b) := by
  rw [ab, bt, delL_eq hx, getD_map, if_pos ha, Int.toNat_natCast, delB_bit]; rfl
theorem up_inj {x a b : Nat} (h : up x a = up x b) : a = b := by
  unfold up at h; split at h <;> split at h <;> omega
theorem delL_ord {o : List Int} (h : ord o = true) {x : Nat} (hx : x < o.length) (h2 : 2 ≤ o.length) : ord (delL o x) = true := by
  have hl := ord_len h
  have hpo := ord_po h
  have hlt : ∀ i, i < o.length - 1 → delB (bt o (up x i)) x < 2 ^ (o.length - 1) := fun i hi => lt_of_bits fun j hj => by
    rw [delB_bit]
    have hu : up x i < o.length := by unfold up; split <;> omega
    exact Nat.testBit_lt_two_pow (Nat.lt_of_lt_of_le (ord_nat h hu).2 (Nat.pow_le_pow_right (by decide) (by split <;> omega)))
  refine ord_of (by rw [delL_len hx]; omega) (fun i hi => ?_) ?_
  · rw [delL_len hx] at hi ⊢
    exact ⟨_, by rw [delL_eq hx, getD_map, if_pos hi], hlt i hi⟩
  · have hout : ∀ a b, ab (delL o x) a b = true → a < o.length - 1 := fun a b hab => by
      rcases Nat.lt_or_ge a (o.length - 1) with h | h
      · exact h
      · rw [ab, bt_out (by rw [delL_len hx]; exact h)] at hab; simp at hab
    constructor
    · intro i
      cases e : ab (delL o x) i i with
      | false => rfl
      | true => rw [delL_ab hx (hout _ _ e), hpo.irr] at e; cases e
    · intro i j k hij hjk
      have hi := hout _ _ hij
      have hj := hout _ _ hjk
      rw [delL_ab hx hi] at hij ⊢
      rw [delL_ab hx hj] at hjk
      exact hpo.tr _ _ _ hij hjk
theorem delL_cn {o : List Int} {x : Nat} (hx : x < o.length) : cn (delL o x) = cnt (ab o) (o.length - 1) ((List.range o.length).erase x) := by
  have e : (List.range o.length).erase x = (List.range (o.length - 1)).map (up x) := by
    obtain ⟨n, hn⟩ : ∃ n, o.length = n + 1 := ⟨o.length - 1, by omega⟩
    rw [List.Nodup.erase_eq_filter List.nodup_range, hn]
    have := range_del (n := n) (x := x) (by omega)
    rw [show n + 1 - 1 = n from rfl, ← this]
    refine List.filter_congr fun a _ => ?_
    by_cases h : a = x <;> simp [h]
  rw [cn, delL_len hx, e]
  refine (cnt_map (up x) (fun i _ j _ hij => up_inj hij) fun i hi j _ => ?_).symm
  exact (delL_ab hx (List.mem_range.1 hi)).symm
/-- x is above none. -/
def low (o : List Int) (x : Nat) : Bool := (List.range o.length).all fun i => !ab o i x
/-- The lines are those without each lowest element, together. -/
theorem cn_sum {o : List Int} (h1 : 1 ≤ o.length) : cn o = (((List.range o.length).filter (low o)).map fun x => if o.length = 1 then 1 else cn (delL o x)).sum := by
  obtain ⟨n, hn⟩ : ∃ n, o.length = n + 1 := ⟨o.length - 1, by omega⟩
  rw [cn, show cnt (ab o) o.length (List.range o.length) = cnt (ab o) (n + 1) (List.range o.length) by rw [hn], cnt]
  congr 1
  refine List.map_congr_left fun x hx => ?_
  have hx' := List.mem_range.1 (List.mem_filter.1 hx).1
  by_cases h : o.length = 1
  · rw [if_pos h]
    obtain rfl : n = 0 := by omega
    rfl
  · rw [if_neg h, delL_cn hx', hn]; rfl
end Ord

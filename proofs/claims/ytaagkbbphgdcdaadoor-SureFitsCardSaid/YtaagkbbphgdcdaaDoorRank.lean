/-
  Sums of rows modulo 2, plain: how many rows a base has.
-/
set_option linter.all false
namespace Rn
/-- y is a sum of some of the rows. -/
def S : List Nat → Nat → Bool
  | [], y => y == 0
  | x :: l, y => S l y || S l (y ^^^ x)
theorem S_zero : ∀ l, S l 0 = true
  | [] => rfl
  | x :: l => by rw [S, S_zero l]; rfl
theorem xor_cancel (a b : Nat) : (a ^^^ b) ^^^ b = a := by rw [Nat.xor_assoc, Nat.xor_self, Nat.xor_zero]
theorem S_xor : ∀ (l : List Nat) {a b : Nat}, S l a = true → S l b = true → S l (a ^^^ b) = true
  | [], a, b, ha, hb => by
    rw [S, beq_iff_eq] at ha hb ⊢; subst ha hb; rfl
  | x :: l, a, b, ha, hb => by
    rw [S, Bool.or_eq_true] at ha hb ⊢
    rcases ha with ha | ha <;> rcases hb with hb | hb
    · exact .inl (S_xor l ha hb)
    · right; have := S_xor l ha hb; rw [← Nat.xor_assoc] at this; exact this
    · right; have := S_xor l ha hb
      rw [Nat.xor_assoc, Nat.xor_comm x b, ← Nat.xor_assoc] at this; exact this
    · left; have := S_xor l ha hb
      rw [Nat.xor_assoc, Nat.xor_comm x, xor_cancel] at this; exact this
theorem S_mem : ∀ {l : List Nat} {x : Nat}, x ∈ l → S l x = true
  | y :: l, x, h => by
    rw [S, Bool.or_eq_true]
    rcases List.mem_cons.1 h with rfl | h
    · right; rw [Nat.xor_self]; exact S_zero l
    · exact .inl (S_mem h)
theorem S_sub {m : List Nat} : ∀ {l : List Nat} {y : Nat}, (∀ x ∈ l, S m x = true) → S l y = true → S m y = true
  | [], y, _, h => by rw [S, beq_iff_eq] at h; subst h; exact S_zero m
  | x :: l, y, hm, h => by
    rw [S, Bool.or_eq_true] at h
    rcases h with h | h
    · exact S_sub (fun z hz => hm z (by simp [hz])) h
    · have h1 := S_sub (fun z hz => hm z (by simp [hz])) h
      have := S_xor m h1 (hm x (by simp))
      rw [xor_cancel] at this; exact this
theorem S_eq {l m : List Nat} (h1 : ∀ x ∈ l, S m x = true) (h2 : ∀ x ∈ m, S l x = true) (y : Nat) : S l y = S m y := by
  rw [Bool.eq_iff_iff]; exact ⟨S_sub h1, S_sub h2⟩
theorem S_same {l m : List Nat} (h : ∀ x, x ∈ l ↔ x ∈ m) (y : Nat) : S l y = S m y := S_eq (fun x hx => S_mem ((h x).1 hx)) (fun x hx => S_mem ((h x).2 hx)) y
theorem S_app {l m : List Nat} (h : ∀ y, S l y = S m y) (x y : Nat) : S (l ++ [x]) y = S (m ++ [x]) y := by
  have e : ∀ k : List Nat, S (k ++ [x]) y = S (x :: k) y := fun k => S_same (fun z => by simp [or_comm]) y
  rw [e, e, S, S, h, h]
theorem S_lt {n : Nat} : ∀ {l : List Nat} {y : Nat}, (∀ x ∈ l, x < 2 ^ n) → S l y = true → y < 2 ^ n
  | [], y, _, h => by rw [S, beq_iff_eq] at h; subst h; exact Nat.two_pow_pos n
  | x :: l, y, hl, h => by
    rw [S, Bool.or_eq_true] at h
    rcases h with h | h
    · exact S_lt (fun z hz => hl z (by simp [hz])) h
    · have h1 := S_lt (fun z hz => hl z (by simp [hz])) h
      have := Nat.xor_lt_two_pow h1 (hl x (by simp))
      rw [xor_cancel] at this; exact this

/-! How many sums there are. -/
theorem cnt_sub {L : List Nat} (hL : L.Nodup) : ∀ l : List Nat, l.Nodup → (∀ x ∈ l, x ∈ L) → l.length ≤ L.length := by
  intro l hl hs
  induction l generalizing L with
  | nil => exact Nat.zero_le _
  | cons x l ih =>
    have hn := List.nodup_cons.1 hl
    have hx := hs x (by simp)
    have h1 := ih (L := L.erase x) (hL.erase x) hn.2 fun y hy => (List.mem_erase_of_ne (by rintro rfl; exact hn.1 hy)).2 (hs y (by simp [hy]))
    rw [List.length_erase_of_mem hx] at h1
    have := List.length_pos_of_mem hx
    rw [List.length_cons]; omega
theorem countP_xor_le {p : Nat → Bool} {x n : Nat} (hx : x < 2 ^ n) : (List.range (2 ^ n)).countP (fun y => p (y ^^^ x)) ≤ (List.range (2 ^ n)).countP p := by
  rw [List.countP_eq_length_filter, List.countP_eq_length_filter, ← List.length_map (f := fun y => y ^^^ x)]
  refine cnt_sub (List.Pairwise.filter _ List.nodup_range) _ ?_ fun z hz => ?_
  · rw [List.Nodup, List.pairwise_map]
    refine (List.Pairwise.filter _ List.nodup_range).imp fun h e => h ?_
    have := congrArg (· ^^^ x) e
    simp only [xor_cancel] at this; exact this
  · obtain ⟨y, hy, rfl⟩ := List.mem_map.1 hz
    rw [List.mem_filter, List.mem_range] at hy ⊢
    exact ⟨Nat.xor_lt_two_pow hy.1 hx, hy.2⟩
theorem countP_xor {p : Nat → Bool} {x n : Nat} (hx : x < 2 ^ n) : (List.range (2 ^ n)).countP (fun y => p (y ^^^ x)) = (List.range (2 ^ n)).countP p := by
  refine Nat.le_antisymm (countP_xor_le hx) ?_
  have := countP_xor_le (p := fun y => p (y ^^^ x)) hx
  simp only [xor_cancel] at this; exact this
theorem countP_or {p q : Nat → Bool} (h : ∀ y, p y = true → q y = false) : ∀ l : List Nat, l.countP (fun y => p y || q y) = l.countP p + l.countP q
  | [] => rfl
  | y :: l => by
    rw [List.countP_cons, List.countP_cons, List.countP_cons, countP_or h l]
    cases hp : p y with
    | true => rw [h y hp]; simp; omega
    | false => simp; omega
def Ind : List Nat → Prop
  | [] => True
  | x :: l => S l x = false ∧ Ind l
def cnt (n : Nat) (l : List Nat) : Nat := (List.range (2 ^ n)).countP (S l)
theorem cnt_nil (n : Nat) : cnt n [] = 1 := by
  have : ∀ m, 0 < m → (List.range m).countP (fun y => y == 0) = 1 := by
    intro m
    induction m with
    | zero => intro h; omega
    | succ m ih =>
      intro _
      rw [List.range_succ, List.countP_append]
      by_cases hm : m = 0
      · subst hm; rfl
      · rw [ih (by omega)]; simp [hm]
  exact this _ (Nat.two_pow_pos n)
theorem cnt_ind {n : Nat} : ∀ (l : List Nat), (∀ x ∈ l, x < 2 ^ n) → Ind l → cnt n l = 2 ^ l.length
  | [], _, _ => cnt_nil n
  | x :: l, hl, ⟨h1, h2⟩ => by
    have ih := cnt_ind l (fun z hz => hl z (by simp [hz])) h2
    have e : cnt n (x :: l) = (List.range (2 ^ n)).countP (S l) + (List.range (2 ^ n)).countP fun y => S l (y ^^^ x) := by
      refine countP_or (q := fun y => S l (y ^^^ x)) (fun y hy => ?_) _
      cases h : S l (y ^^^ x) with
      | false => rfl
      | true =>
        have := S_xor l hy h
        rw [← Nat.xor_assoc, Nat.xor_self, Nat.zero_xor, h1] at this; cases this
    rw [e, countP_xor (hl x (by simp))]
    unfold cnt at ih
    rw [ih, List.length_cons, Nat.pow_succ]; omega
/-- The rank of some rows. -/
def dim (n : Nat) (l : List Nat) : Nat := (cnt n l).log2
theorem dim_ind {n : Nat} {l : List Nat} (hl : ∀ x ∈ l, x < 2 ^ n) (h : Ind l) : dim n l = l.length := by rw [dim, cnt_ind l hl h, Nat.log2_two_pow]
theorem dim_congr {n : Nat} {l m : List Nat} (h : ∀ y, S l y = S m y) : dim n l = dim n m := by
  rw [dim, dim, cnt, cnt, List.countP_congr fun y _ => by rw [h y]]
theorem cnt_pos (n : Nat) (l : List Nat) : cnt n l ≠ 0 := by
  have : 0 < cnt n l := List.countP_pos_iff.2 ⟨0, List.mem_range.2 (Nat.two_pow_pos n), S_zero l⟩
  omega
theorem dim_mono {n : Nat} {l m : List Nat} (h : ∀ y, S l y = true → S m y = true) : dim n l ≤ dim n m := by
  have h1 : cnt n l ≤ cnt n m := List.countP_mono_left fun y _ => h y
  rw [dim, dim, Nat.le_log2 (cnt_pos n m)]
  exact Nat.le_trans (Nat.log2_self_le (cnt_pos n l)) h1

/-! Bases: each row has a greatest column of its own. -/
theorem bit_top {b : Nat} (h : b ≠ 0) : b.testBit b.log2 = true := Nat.testBit_log2 h
theorem bit_over {b j : Nat} (h : b.log2 < j) : b.testBit j = false := Nat.testBit_lt_two_pow (Nat.lt_of_lt_of_le Nat.lt_log2_self (Nat.pow_le_pow_right (by decide) h))
theorem lt_bit {n m i : Nat} (hn : n.testBit i = false) (hm : m.testBit i = true) (h : ∀ j, i < j → n.testBit j = m.testBit j) : n < m := by
  have e : n / 2 ^ (i + 1) = m / 2 ^ (i + 1) := by
    apply Nat.eq_of_testBit_eq
    intro j
    rw [Nat.testBit_div_two_pow, Nat.testBit_div_two_pow]; exact h _ (by omega)
  have h1 : n % 2 ^ (i + 1) < 2 ^ i := by
    refine Nat.lt_pow_two_of_testBit _ fun j hj => ?_
    rw [Nat.testBit_mod_two_pow]
    by_cases hji : j = i
    · subst hji; rw [hn, Bool.and_false]
    · have : ¬ j < i + 1 := by omega
      simp [this]
  have h2 : 2 ^ i ≤ m % 2 ^ (i + 1) := Nat.ge_two_pow_of_testBit (by rw [Nat.testBit_mod_two_pow, hm]; simp)
  have a := Nat.div_add_mod n (2 ^ (i + 1))
  have b := Nat.div_add_mod m (2 ^ (i + 1))
  rw [e] at a
  generalize 2 ^ (i + 1) * (m / 2 ^ (i + 1)) = q at a b
  omega
def mn (a b : Nat) : Nat := if b < a then b else a
theorem mn_bits {r b : Nat} (hb : b ≠ 0) : (mn r (r ^^^ b)).testBit b.log2 = false ∧ (∀ j, b.log2 < j → (mn r (r ^^^ b)).testBit j = r.testBit j) ∧ (mn r (r ^^^ b) = r ∨ mn r (r ^^^ b) = r ^^^ b) := by
  have hi : ∀ j, b.log2 < j → (r ^^^ b).testBit j = r.testBit j := fun j hj => by rw [Nat.testBit_xor, bit_over hj, Bool.xor_false]
  have ht : (r ^^^ b).testBit b.log2 = !r.testBit b.log2 := by rw [Nat.testBit_xor, bit_top hb, Bool.xor_true]
  cases hr : r.testBit b.log2 with
  | true =>
    rw [hr] at ht
    have : r ^^^ b < r := lt_bit ht hr hi
    rw [mn, if_pos this]
    exact ⟨ht, hi, .inr rfl⟩
  | false =>
    rw [hr] at ht
    have : r < r ^^^ b := lt_bit hr ht fun j hj => (hi j hj).symm
    rw [mn, if_neg (by omega)]
    exact ⟨hr, fun _ _ => rfl, .inl rfl⟩
def red (B : List Nat) (row : Nat) : Nat := B.foldl (fun r b => mn r (r ^^^ b)) row
def Bs (B : List Nat) : Prop := B.Pairwise (fun a b => b.log2 < a.log2) ∧ ∀ x ∈ B, x ≠ 0
theorem red_keep : ∀ (B : List Nat) (r j : Nat), (∀ b ∈ B, b ≠ 0 ∧ b.log2 < j) → (red B r).testBit j = r.testBit j
  | [], _, _, _ => rfl
  | b :: B, r, j, h => by
    have hb := h b (by simp)
    rw [red, List.foldl_cons]
    exact (red_keep B _ j fun c hc => h c (by simp [hc])).trans ((mn_bits hb.1).2.1 j hb.2)
theorem red_clear : ∀ (B : List Nat) (r : Nat), Bs B → ∀ b ∈ B, (red B r).testBit b.log2 = false
  | [], _, _, _, h => by cases h
  | c :: B, r, ⟨hp, h0⟩, b, hb => by
    rw [List.pairwise_cons] at hp
    have hc := h0 c (by simp)
    rw [red, List.foldl_cons]
    rcases List.mem_cons.1 hb with rfl | hb
    · exact (red_keep B _ _ fun d hd => ⟨h0 d (by simp [hd]), hp.1 d hd⟩).trans (mn_bits hc).1
    · exact red_clear B _ ⟨hp.2, fun x hx => h0 x (by simp [hx])⟩ b hb
theorem red_S {B : List Nat} : ∀ (l : List Nat) (r : Nat), (∀ b ∈ l, b ∈ B ∧ b ≠ 0) → S B (r ^^^ red l r) = true
  | [], r, _ => by rw [red, List.foldl_nil, Nat.xor_self]; exact S_zero B
  | b :: l, r, h => by
    have hb := h b (by simp)
    rw [red, List.foldl_cons]
    have h1 := red_S l (mn r (r ^^^ b)) fun c hc => h c (by simp [hc])
    rw [red] at h1
    rcases (mn_bits (r := r) hb.2).2.2 with e | e
    · rw [e] at h1 ⊢; exact h1
    · rw [e] at h1 ⊢
      have := S_xor B (S_mem hb.1) h1
      rw [← Nat.xor_assoc, Nat.xor_comm b, xor_cancel] at this
      exact this
theorem red_lt {n : Nat} {B : List Nat} {r : Nat} (hB : ∀ b ∈ B, b < 2 ^ n) (h0 : ∀ b ∈ B, b ≠ 0) (hr : r < 2 ^ n) : red B r < 2 ^ n := by
  have h1 := S_lt hB (red_S (B := B) B r fun b hb => ⟨hb, h0 b hb⟩)
  have := Nat.xor_lt_two_pow hr h1
  rw [← Nat.xor_assoc, Nat.xor_self, Nat.zero_xor] at this; exact this
theorem log2_of {x p : Nat} (h1 : x.testBit p = true) (h2 : x < 2 ^ (p + 1)) : x.log2 = p := by
  have hx : x ≠ 0 := fun e => by rw [e, Nat.zero_testBit] at h1; cases h1
  exact (Nat.log2_eq_iff hx).2 ⟨Nat.ge_two_pow_of_testBit h1, h2⟩
/-- A sum of rows of a base begins where one of them does. -/
theorem S_top : ∀ {B : List Nat} {x : Nat}, Bs B → S B x = true → x ≠ 0 → ∃ b ∈ B, x.log2 = b.log2
  | [], x, _, h, h0 => by rw [S, beq_iff_eq] at h; exact absurd h h0
  | b :: B, x, ⟨hp, hz⟩, h, h0 => by
    rw [List.pairwise_cons] at hp
    have hB : Bs B := ⟨hp.2, fun y hy => hz y (by simp [hy])⟩
    have hb := hz b (by simp)
    rw [S, Bool.or_eq_true] at h
    rcases h with h | h
    · obtain ⟨c, hc, e⟩ := S_top hB h h0
      exact ⟨c, by simp [hc], e⟩
    · refine ⟨b, by simp, ?_⟩
      by_cases hy : x ^^^ b = 0
      · have := xor_cancel x b
        rw [hy, Nat.zero_xor] at this; rw [this]
      · obtain ⟨c, hc, e⟩ := S_top hB h hy
        have hlt := hp.1 c hc
        rw [← e] at hlt
        have e2 := xor_cancel x b
        rw [← e2]
        generalize x ^^^ b = y at hlt
        refine log2_of ?_ ?_
        · rw [Nat.testBit_xor, bit_top hb, bit_over hlt]; rfl
        · exact Nat.xor_lt_two_pow (Nat.lt_of_lt_of_le Nat.lt_log2_self (Nat.pow_le_pow_right (by decide) (by omega))) Nat.lt_log2_self
theorem Bs.ind : ∀ {B : List Nat}, Bs B → Ind B
  | [], _ => trivial
  | b :: B, ⟨hp, hz⟩ => by
    rw [List.pairwise_cons] at hp
    have hB : Bs B := ⟨hp.2, fun y hy => hz y (by simp [hy])⟩
    refine ⟨?_, hB.ind⟩
    cases h : S B b with
    | false => rfl
    | true =>
      obtain ⟨c, hc, e⟩ := S_top hB h (hz b (by simp))
      have := hp.1 c hc
      omega
/-- What is left of a row is nothing just if it is a sum. -/
theorem red_zero {B : List Nat} (hB : Bs B) {r : Nat} (h : red B r = 0) : S B r = true := by
  have := red_S (B := B) B r fun b hb => ⟨hb, hB.2 b hb⟩
  rw [h, Nat.xor_zero] at this; exact this
theorem red_top {B : List Nat} (hB : Bs B) {r : Nat} (h : red B r ≠ 0) : ∀ b ∈ B, (red B r).log2 ≠ b.log2 := fun b hb e => by
  have := red_clear B r hB b hb
  rw [← e, bit_top h] at this; cases this
/-- The base with one row more. -/
theorem Bs.more {B C : List Nat} (hB : Bs B) {r : Nat} (h : red B r ≠ 0) (hm : ∀ x, x ∈ C ↔ x ∈ B ∨ x = red B r) (hs : C.Pairwise fun a b => b ≤ a) (hn : C.Nodup) : Bs C ∧ ∀ y, S C y = S (B ++ [r]) y := by
  have hd : ∀ x ∈ C, ∀ y ∈ C, x ≠ y → x.log2 ≠ y.log2 := by
    have dB : ∀ x ∈ B, ∀ y ∈ B, x ≠ y → x.log2 ≠ y.log2 := by
      intro x hx y hy hne
      obtain ⟨i, hi, rfl⟩ := List.getElem_of_mem hx
      obtain ⟨j, hj, rfl⟩ := List.getElem_of_mem hy
      rcases Nat.lt_trichotomy i j with h1 | h1 | h1
      · have := List.pairwise_iff_getElem.1 hB.1 i j hi hj h1; omega
      · subst h1; exact absurd rfl hne
      · have := List.pairwise_iff_getElem.1 hB.1 j i hj hi h1; omega
    intro x hx y hy hne
    rcases (hm x).1 hx with hx | rfl <;> rcases (hm y).1 hy with hy | rfl
    · exact dB x hx y hy hne
    · exact fun e => red_top hB h x hx e.symm
    · exact red_top hB h y hy
    · exact absurd rfl hne
  have h0 : ∀ x ∈ C, x ≠ 0 := fun x hx => by
    rcases (hm x).1 hx with hx | rfl
    · exact hB.2 x hx
    · exact h
  refine ⟨⟨?_, h0⟩, fun y => ?_⟩
  · rw [List.pairwise_iff_getElem] at hs ⊢
    intro i j hi hj hij
    have h1 := hs i j hi hj hij
    have h2 := hd C[i] (List.getElem_mem hi) C[j] (List.getElem_mem hj) (List.pairwise_iff_getElem.1 hn i j hi hj hij)
    have h3 : C[j].log2 ≤ C[i].log2 := by
      rw [Nat.le_log2 (h0 _ (List.getElem_mem hi))]
      exact Nat.le_trans (Nat.log2_self_le (h0 _ (List.getElem_mem hj))) h1
    omega
  · have hx := red_S (B := B) B r fun b hb => ⟨hb, hB.2 b hb⟩
    have up : ∀ {z}, S B z = true → S (B ++ [r]) z = true := fun hz => S_sub (fun x hx => S_mem (by simp [hx])) hz
    have upC : ∀ {z}, S B z = true → S C z = true := fun hz => S_sub (fun x hx => S_mem ((hm x).2 (.inl hx))) hz
    refine S_eq (fun x hxC => ?_) (fun x hxB => ?_) y
    · rcases (hm x).1 hxC with h1 | rfl
      · exact S_mem (by simp [h1])
      · have := S_xor (B ++ [r]) (S_mem (show r ∈ B ++ [r] by simp)) (up hx)
        rw [← Nat.xor_assoc, Nat.xor_self, Nat.zero_xor] at this; exact this
    · rcases List.mem_append.1 hxB with h1 | h1
      · exact S_mem ((hm x).2 (.inl h1))
      · obtain rfl := List.mem_singleton.1 h1
        have := S_xor C (upC hx) (S_mem ((hm _).2 (.inr rfl)))
        rw [xor_cancel] at this; exact this
end Rn

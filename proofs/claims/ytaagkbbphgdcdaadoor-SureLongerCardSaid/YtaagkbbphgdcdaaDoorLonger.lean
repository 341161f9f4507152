/-
  What codes there are, plain; codes of longer words.
-/
import Derived.Test.YtaagkbbphgdcdaaDoorWords
set_option linter.all false
set_option maxRecDepth 100000
namespace Sr
open Go.Am
def fullA (nr : List Nat) : Nat := A nr (2 ^ nr.length - 1)
structure CI (nr : List Nat) (k : Nat) (s : Nat × Nat × List Nat) : Prop where
  lt : s.1 < 2 ^ nr.length
  need : s.2.1 = A nr s.1
  hi : ∀ i, s.1.testBit i = true → k ≤ i
  sum : s.2.2.length + A nr s.1 = fullA nr
  lo : ∀ u ∈ s.2.2, u < k
  far : ∀ u ∈ s.2.2, ∀ x, s.1.testBit x = true → ok nr u x = true
  pw : s.2.2.Pairwise fun x y => x < y ∧ ok nr x y = true
theorem cAt_ci {nr : List Nat} (g : Gr nr) : ∀ k, CI nr k (cAt nr k)
  | 0 => by
    have := Nat.two_pow_pos nr.length
    exact ⟨by show 2 ^ nr.length - 1 < _; omega, rfl, fun _ _ => Nat.zero_le _, by show 0 + _ = _; rw [Nat.zero_add]; rfl, (fun u h => by cases h), (fun u h => by cases h), List.Pairwise.nil⟩
  | k + 1 => by
    obtain ⟨h1, h2, h3, h4, h5, h6, h7⟩ := cAt_ci g k
    have h64 : (cAt nr k).1 < 2 ^ 64 := Nat.lt_of_lt_of_le h1 (Nat.pow_le_pow_right (by decide) g.len)
    rw [cAt_succ]
    generalize cAt nr k = s at h1 h2 h3 h4 h5 h6 h7 h64
    unfold cStep
    split
    · rename_i hb
      have hp := A_pivot g h64 hb
      split
      · rename_i ht
        refine ⟨cut_lt h1, by simp only; omega, fun i hi => ?_, ?_, ?_, ?_, ?_⟩
        · rw [cut_bit] at hi; simp at hi
          have := h3 i hi.1; omega
        · rw [List.length_append, List.length_singleton]; simp only; omega
        · intro u hu
          rcases List.mem_append.1 hu with hu | hu
          · have := h5 u hu; omega
          · rw [List.mem_singleton.1 hu]; omega
        · intro u hu x hx
          rw [cut_bit] at hx; simp at hx
          rcases List.mem_append.1 hu with hu | hu
          · exact h6 u hu x hx.1
          · rw [List.mem_singleton.1 hu]; exact hx.2.2
        · refine List.pairwise_append.2 ⟨h7, List.pairwise_singleton _ _, fun x hx y hy => ?_⟩
          rw [List.mem_singleton.1 hy]; exact ⟨h5 x hx, h6 x hx k hb⟩
      · rename_i ht
        refine ⟨less_lt h1, by simp only; omega, fun i hi => ?_, by simp only; omega, fun u hu => by have := h5 u hu; omega, fun u hu x hx => ?_, h7⟩
        · rw [less_bit] at hi; simp at hi
          have := h3 i hi.1; omega
        · rw [less_bit] at hx; simp at hx; exact h6 u hu x hx.1
    · rename_i hb
      refine ⟨h1, h2, fun i hi => ?_, h4, fun u hu => by have := h5 u hu; omega, h6, h7⟩
      have := h3 i hi
      have : i ≠ k := fun e => hb (e ▸ hi)
      omega
theorem codeL_len {nr : List Nat} (g : Gr nr) : (codeL nr).length = fullA nr := by
  have h := cAt_ci g nr.length
  have h0 : (cAt nr nr.length).1 = 0 := by
    apply Nat.eq_of_testBit_eq; intro i
    rw [Nat.zero_testBit, ← Bool.not_eq_true]; intro hi
    have h1 := h.hi i hi
    have := bit_lt h.lt hi; omega
  have hs := h.sum
  rw [h0, A_zero] at hs
  exact hs
theorem cnt_mem {L : List Nat} (hL : L.Nodup) : ∀ l : List Nat, l.Nodup → (∀ x ∈ l, x ∈ L) → L.countP (fun x => l.contains x) = l.length
  | [], _, _ => by simp
  | c :: r, hn, hs => by
    have hn' := List.nodup_cons.1 hn
    rw [countP_less _ L hL (hs c (by simp)) (by simp), List.length_cons]
    congr 1
    rw [← cnt_mem hL r hn'.2 fun x hx => hs x (by simp [hx])]
    refine List.countP_congr fun x _ => ?_
    by_cases h : x = c
    · subst h; simp [hn'.1]
    · simp [h]
/-- No code has more. -/
theorem code_le {nr : List Nat} (g : Gr nr) {l : List Nat} (hl : ∀ x ∈ l, x < nr.length) (hp : l.Pairwise fun x y => x < y ∧ ok nr x y = true) : l.length ≤ fullA nr := by
  have hn : l.Nodup := hp.imp fun h => by have := h.1; omega
  have h64 := g.len
  rw [← cnt_mem (L := List.range 64) List.nodup_range l hn fun x hx => List.mem_range.2 (by have := hl x hx; omega)]
  refine al_upper _ _ _ List.nodup_range ?_ ?_
  · intro i _ j _ hne h1 h2
    have m1 := List.contains_iff_mem.1 h1
    have m2 := List.contains_iff_mem.1 h2
    have : ∀ x ∈ l, ∀ y ∈ l, x ≠ y → ok nr x y = true := by
      clear hn hl h64 m1 m2 h1 h2
      induction l with
      | nil => intro x hx; cases hx
      | cons c r ih =>
        have hp' := List.pairwise_cons.1 hp
        intro x hx y hy hne
        rcases List.mem_cons.1 hx with e1 | hx <;> rcases List.mem_cons.1 hy with e2 | hy
        · exact absurd (e1.trans e2.symm) hne
        · rw [e1]; exact (hp'.1 y hy).2
        · rw [e2, ok_comm g]; exact (hp'.1 x hx).2
        · exact ih hp'.2 x hx y hy hne
    exact this i m1 j m2 hne
  · intro i _ h1
    have := hl i (List.contains_iff_mem.1 h1)
    rw [Nat.testBit_two_pow_sub_one]; simpa using this

/-- A code, by its pairs. -/
theorem code_pw {xs : List Int} {k : Nat} {c : List Int} : code xs k c = true ↔ (∀ x ∈ c, 0 ≤ x ∧ x < wn xs k) ∧ c.Pairwise fun x y => x < y ∧ cf xs k y.toNat x.toNat = false := by
  rw [code_iff]
  have gd : ∀ i (h : i < c.length), c.getD i 0 = c[i] := fun i h => by rw [List.getD, List.getElem?_eq_getElem h]; rfl
  constructor
  · intro h
    refine ⟨fun x hx => ?_, List.pairwise_iff_getElem.2 fun i j hi hj hij => ⟨?_, ?_⟩⟩
    · obtain ⟨i, hi, rfl⟩ := List.mem_iff_getElem.1 hx
      rw [← gd i hi]; exact ⟨(h i hi).1, (h i hi).2.1⟩
    · have : ∀ d, i + 1 + d < c.length → c.getD i 0 < c.getD (i + 1 + d) 0 := by
        intro d
        induction d with
        | zero =>
          intro hd
          have := (h (i + 1) hd).2.2.1
          rw [Nat.add_sub_cancel] at this
          rcases this with h1 | h1
          · omega
          · exact h1
        | succ d ih =>
          intro hd
          have := (h (i + 1 + d + 1) hd).2.2.1
          rw [Nat.add_sub_cancel] at this
          have := ih (by omega)
          rcases ‹_ ∨ _› with h1 | h1
          · omega
          · show c.getD i 0 < c.getD (i + 1 + d + 1) 0; omega
      have := this (j - (i + 1)) (by omega)
      rw [show i + 1 + (j - (i + 1)) = j by omega, gd i hi, gd j hj] at this; exact this
    · have := (h j hj).2.2.2 i hij
      rw [gd i hi, gd j hj] at this; exact this
  · rintro ⟨h1, h2⟩ i hi
    have h3 := List.pairwise_iff_getElem.1 h2
    rw [gd i hi]
    refine ⟨(h1 _ (List.getElem_mem hi)).1, (h1 _ (List.getElem_mem hi)).2, ?_, fun j hj => ?_⟩
    · by_cases h0 : i = 0
      · exact .inl h0
      · rw [gd (i - 1) (by omega)]; exact .inr (h3 _ _ (by omega) hi (by omega)).1
    · rw [gd j (by omega)]; exact (h3 _ _ (by omega) hi hj).2
theorem okW {xs : List Int} {k x y : Nat} (hx : x < wn xs k) (hy : y < wn xs k) (hne : x ≠ y) : ok (nearL xs k) x y = !cf xs k x y := by
  rw [ok, nearL_bit]; simp [hx, hy, hne]
/-- Code is a code. -/
theorem codeL_code {xs : List Int} (g : Gs xs) {k : Nat} (hk : wn xs k ≤ 64) : code xs k ((codeL (nearL xs k)).map Int.ofNat) = true := by
  have h := cAt_ci (nearL_gr g hk) (nearL xs k).length
  have hlo : ∀ u ∈ codeL (nearL xs k), u < wn xs k := fun u hu => by have := h.lo u hu; rw [nearL_len] at this; exact this
  refine code_pw.2 ⟨fun x hx => ?_, List.pairwise_map.2 ?_⟩
  · obtain ⟨u, hu, rfl⟩ := List.mem_map.1 hx
    have := hlo u hu
    exact ⟨Int.natCast_nonneg u, Int.ofNat_lt.2 this⟩
  · refine List.Pairwise.imp_of_mem ?_ h.pw
    intro x y hx hy hxy
    refine ⟨Int.ofNat_lt.2 hxy.1, ?_⟩
    have := hxy.2
    rw [okW (hlo x hx) (hlo y hy) (by omega)] at this
    show cf xs k y x = false
    rw [cf_comm g]; simpa using this
/-- No code is greater. -/
theorem code_max {xs : List Int} (g : Gs xs) {k : Nat} (hk : wn xs k ≤ 64) {c : List Int} (h : code xs k c = true) : c.length ≤ (codeL (nearL xs k)).length := by
  obtain ⟨h1, h2⟩ := code_pw.1 h
  rw [codeL_len (nearL_gr g hk)]
  have := code_le (nearL_gr g hk) (l := c.map Int.toNat) (fun x hx => ?_) (List.pairwise_map.2 (List.Pairwise.imp_of_mem ?_ h2))
  · rw [List.length_map] at this; exact this
  · obtain ⟨u, hu, rfl⟩ := List.mem_map.1 hx
    have := h1 u hu
    rw [nearL_len]; omega
  · intro x y hx hy hxy
    have a1 := h1 x hx
    have a2 := h1 y hy
    have := hxy.1
    refine ⟨by omega, ?_⟩
    rw [okW (by omega) (by omega) (by omega), cf_comm g]; simpa using hxy.2
theorem cf_split (xs : List Int) (h0 : 0 < xs.length) (j : Nat) : ∀ (k x x' y y' : Nat), y < wn xs k → y' < wn xs k → cf xs (k + j) (x * wn xs k + y) (x' * wn xs k + y') = (cf xs k y y' && cf xs j x x')
  | 0, x, x', y, y', h1, h2 => by
    rw [wn, Nat.pow_zero] at h1 h2
    obtain rfl : y = 0 := by omega
    obtain rfl : y' = 0 := by omega
    simp [wn, cf]
  | k + 1, x, x', y, y', h1, h2 => by
    have e : wn xs (k + 1) = wn xs k * xs.length := Nat.pow_succ ..
    have m : ∀ x y : Nat, (x * wn xs (k + 1) + y) % xs.length = y % xs.length := fun x y => by
      rw [e, ← Nat.mul_assoc, Nat.add_comm, Nat.add_mul_mod_self_right]
    have d : ∀ x y : Nat, (x * wn xs (k + 1) + y) / xs.length = x * wn xs k + y / xs.length := fun x y => by
      rw [e, ← Nat.mul_assoc, Nat.add_comm, Nat.add_mul_div_right _ _ h0, Nat.add_comm]
    have l : ∀ y, y < wn xs (k + 1) → y / xs.length < wn xs k := fun y h => Nat.div_lt_of_lt_mul (by rw [Nat.mul_comm, ← e]; exact h)
    rw [Nat.add_right_comm, cf, m, m, d, d, cf_split xs h0 j k x x' _ _ (l y h1) (l y' h2), cf, Bool.and_assoc]
theorem wn_add (xs : List Int) (j k : Nat) : wn xs (j + k) = wn xs j * wn xs k := Nat.pow_add ..
/-- Each word of one code, with each word of another one behind it. -/
def both (xs : List Int) (k : Nat) (a b : List Int) : List Int := a.flatMap fun x => b.map fun y => x * wn xs k + y
theorem both_len (xs : List Int) (k : Nat) (b : List Int) : ∀ a : List Int, (both xs k a b).length = a.length * b.length
  | [] => by simp [both]
  | c :: r => by
    have := both_len xs k b r
    rw [both] at this ⊢
    rw [List.flatMap_cons, List.length_append, this, List.length_map, List.length_cons, Nat.add_mul, Nat.one_mul, Nat.add_comm]
theorem both_code {xs : List Int} (h0 : 0 < xs.length) {j k : Nat} {a b : List Int} (ha : code xs j a = true) (hb : code xs k b = true) : code xs (j + k) (both xs k a b) = true := by
  obtain ⟨a1, a2⟩ := code_pw.1 ha
  obtain ⟨b1, b2⟩ := code_pw.1 hb
  have nn : ∀ x ∈ a, ∀ y ∈ b, (x * wn xs k + y).toNat = x.toNat * wn xs k + y.toNat := fun x hx y hy => by
    have h1 := a1 x hx
    have h2 := b1 y hy
    obtain ⟨n, rfl⟩ : ∃ n : Nat, x = n := ⟨x.toNat, by omega⟩
    obtain ⟨m, rfl⟩ : ∃ m : Nat, y = m := ⟨y.toNat, by omega⟩
    rw [← Int.natCast_mul, ← Int.natCast_add]; rfl
  have lt : ∀ x ∈ a, ∀ y ∈ b, ∀ x' ∈ a, ∀ y' ∈ b, x < x' → x * wn xs k + y < x' * wn xs k + y' := fun x hx y hy x' hx' y' hy' h => by
    have h2 := b1 y hy
    have h3 := b1 y' hy'
    have h4 : (x + 1) * (wn xs k : Int) ≤ x' * wn xs k := Int.mul_le_mul_of_nonneg_right (by omega) (by omega)
    rw [Int.add_mul] at h4
    omega
  refine code_pw.2 ⟨fun z hz => ?_, ?_⟩
  · obtain ⟨x, hx, hz⟩ := List.mem_flatMap.1 hz
    obtain ⟨y, hy, rfl⟩ := List.mem_map.1 hz
    have h1 := a1 x hx
    have h2 := b1 y hy
    have h3 : (x + 1) * (wn xs k : Int) ≤ (wn xs j : Int) * wn xs k := Int.mul_le_mul_of_nonneg_right (by omega) (by omega)
    have h4 : 0 ≤ x * (wn xs k : Int) := Int.mul_nonneg h1.1 (by omega)
    rw [Int.add_mul] at h3
    have e : ((wn xs (j + k) : Nat) : Int) = (wn xs j : Int) * wn xs k := by rw [wn_add, Int.natCast_mul]
    rw [e]; omega
  · refine List.pairwise_flatMap.2 ⟨fun x hx => List.pairwise_map.2 (List.Pairwise.imp_of_mem ?_ b2), List.Pairwise.imp_of_mem ?_ a2⟩
    · intro y y' hy hy' h
      refine ⟨by have := h.1; omega, ?_⟩
      have l1 := b1 y hy
      have l2 := b1 y' hy'
      rw [nn x hx y hy, nn x hx y' hy', Nat.add_comm j k, cf_split xs h0 j k _ _ _ _ (by omega) (by omega), h.2]; rfl
    · intro x x' hx hx' h z hz z' hz'
      obtain ⟨y, hy, rfl⟩ := List.mem_map.1 hz
      obtain ⟨y', hy', rfl⟩ := List.mem_map.1 hz'
      refine ⟨lt x hx y hy x' hx' y' hy' h.1, ?_⟩
      have l1 := b1 y hy
      have l2 := b1 y' hy'
      rw [nn x hx y hy, nn x' hx' y' hy', Nat.add_comm j k, cf_split xs h0 j k _ _ _ _ (by omega) (by omega), h.2, Bool.and_false]
end Sr

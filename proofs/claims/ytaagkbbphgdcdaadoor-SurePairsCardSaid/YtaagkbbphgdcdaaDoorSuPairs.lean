/-
  What codes there are, plain; codes of longer words.
  sure: the beginnings that the statements look at; what Code and Codes give back.
  sure: two graphs beside each other, by the program and by the reference.
  sure: the law SureJoins.
  sure: the law SurePairs.
-/
import Derived.Test.YtaagkbbphgdcdaaDoorWords
import Derived.Test.YtaagkbbphgdcdaaDoorSuRcodes
import Derived.Test.YtaagkbbphgdcdaaDoorSuJoin2
import Derived.Test.YtaagkbbphgdcdaaDoorFnE
set_option linter.all false
set_option maxRecDepth 100000
namespace Sr
open Go.Am
def fullA (nr : List Nat) : Nat := A nr (2 ^ nr.length - 1)
structure CI (nr : List Nat) (k : Nat) (s : Nat × Nat × List Nat) : Prop where
  lt : s.1 < 2 ^ nr.length
  need : s.2.1 = A nr s.1
  hi : ∀ i, s.1.testBit i = true → k ≤ i
  sum : s.2.2.length + A nr s.1 = fullA nr
  lo : ∀ u ∈ s.2.2, u < k
  far : ∀ u ∈ s.2.2, ∀ x, s.1.testBit x = true → ok nr u x = true
  pw : s.2.2.Pairwise fun x y => x < y ∧ ok nr x y = true
theorem cAt_ci {nr : List Nat} (g : Gr nr) : ∀ k, CI nr k (cAt nr k)
  | 0 => by
    have := Nat.two_pow_pos nr.length
    exact ⟨by show 2 ^ nr.length - 1 < _; omega, rfl, fun _ _ => Nat.zero_le _, by show 0 + _ = _; rw [Nat.zero_add]; rfl, (fun u h => by cases h), (fun u h => by cases h), List.Pairwise.nil⟩
  | k + 1 => by
    obtain ⟨h1, h2, h3, h4, h5, h6, h7⟩ := cAt_ci g k
    have h64 : (cAt nr k).1 < 2 ^ 64 := Nat.lt_of_lt_of_le h1 (Nat.pow_le_pow_right (by decide) g.len)
    rw [cAt_succ]
    generalize cAt nr k = s at h1 h2 h3 h4 h5 h6 h7 h64
    unfold cStep
    split
    · rename_i hb
      have hp := A_pivot g h64 hb
      split
      · rename_i ht
        refine ⟨cut_lt h1, by simp only; omega, fun i hi => ?_, ?_, ?_, ?_, ?_⟩
        · rw [cut_bit] at hi; simp at hi
          have := h3 i hi.1; omega
        · rw [List.length_append, List.length_singleton]; simp only; omega
        · intro u hu
          rcases List.mem_append.1 hu with hu | hu
          · have := h5 u hu; omega
          · rw [List.mem_singleton.1 hu]; omega
        · intro u hu x hx
          rw [cut_bit] at hx; simp at hx
          rcases List.mem_append.1 hu with hu | hu
          · exact h6 u hu x hx.1
          · rw [List.mem_singleton.1 hu]; exact hx.2.2
        · refine List.pairwise_append.2 ⟨h7, List.pairwise_singleton _ _, fun x hx y hy => ?_⟩
          rw [List.mem_singleton.1 hy]; exact ⟨h5 x hx, h6 x hx k hb⟩
      · rename_i ht
        refine ⟨less_lt h1, by simp only; omega, fun i hi => ?_, by simp only; omega, fun u hu => by have := h5 u hu; omega, fun u hu x hx => ?_, h7⟩
        · rw [less_bit] at hi; simp at hi
          have := h3 i hi.1; omega
        · rw [less_bit] at hx; simp at hx; exact h6 u hu x hx.1
    · rename_i hb
      refine ⟨h1, h2, fun i hi => ?_, h4, fun u hu => by have := h5 u hu; omega, h6, h7⟩
      have := h3 i hi
      have : i ≠ k := fun e => hb (e ▸ hi)
      omega
theorem codeL_len {nr : List Nat} (g : Gr nr) : (codeL nr).length = fullA nr := by
  have h := cAt_ci g nr.length
  have h0 : (cAt nr nr.length).1 = 0 := by
    apply Nat.eq_of_testBit_eq; intro i
    rw [Nat.zero_testBit, ← Bool.not_eq_true]; intro hi
    have h1 := h.hi i hi
    have := bit_lt h.lt hi; omega
  have hs := h.sum
  rw [h0, A_zero] at hs
  exact hs
theorem cnt_mem {L : List Nat} (hL : L.Nodup) : ∀ l : List Nat, l.Nodup → (∀ x ∈ l, x ∈ L) → L.countP (fun x => l.contains x) = l.length
  | [], _, _ => by simp
  | c :: r, hn, hs => by
    have hn' := List.nodup_cons.1 hn
    rw [countP_less _ L hL (hs c (by simp)) (by simp), List.length_cons]
    congr 1
    rw [← cnt_mem hL r hn'.2 fun x hx => hs x (by simp [hx])]
    refine List.countP_congr fun x _ => ?_
    by_cases h : x = c
    · subst h; simp [hn'.1]
    · simp [h]
/-- No code has more. -/
theorem code_le {nr : List Nat} (g : Gr nr) {l : List Nat} (hl : ∀ x ∈ l, x < nr.length) (hp : l.Pairwise fun x y => x < y ∧ ok nr x y = true) : l.length ≤ fullA nr := by
  have hn : l.Nodup := hp.imp fun h => by have := h.1; omega
  have h64 := g.len
  rw [← cnt_mem (L := List.range 64) List.nodup_range l hn fun x hx => List.mem_range.2 (by have := hl x hx; omega)]
  refine al_upper _ _ _ List.nodup_range ?_ ?_
  · intro i _ j _ hne h1 h2
    have m1 := List.contains_iff_mem.1 h1
    have m2 := List.contains_iff_mem.1 h2
    have : ∀ x ∈ l, ∀ y ∈ l, x ≠ y → ok nr x y = true := by
      clear hn hl h64 m1 m2 h1 h2
      induction l with
      | nil => intro x hx; cases hx
      | cons c r ih =>
        have hp' := List.pairwise_cons.1 hp
        intro x hx y hy hne
        rcases List.mem_cons.1 hx with e1 | hx <;> rcases List.mem_cons.1 hy with e2 | hy
        · exact absurd (e1.trans e2.symm) hne
        · rw [e1]; exact (hp'.1 y hy).2
        · rw [e2, ok_comm g]; exact (hp'.1 x hx).2
        · exact ih hp'.2 x hx y hy hne
    exact this i m1 j m2 hne
  · intro i _ h1
    have := hl i (List.contains_iff_mem.1 h1)
    rw [Nat.testBit_two_pow_sub_one]; simpa using this

/-- A code, by its pairs. -/
theorem code_pw {xs : List Int} {k : Nat} {c : List Int} : code xs k c = true ↔ (∀ x ∈ c, 0 ≤ x ∧ x < wn xs k) ∧ c.Pairwise fun x y => x < y ∧ cf xs k y.toNat x.toNat = false := by
  rw [code_iff]
  have gd : ∀ i (h : i < c.length), c.getD i 0 = c[i] := fun i h => by rw [List.getD, List.getElem?_eq_getElem h]; rfl
  constructor
  · intro h
    refine ⟨fun x hx => ?_, List.pairwise_iff_getElem.2 fun i j hi hj hij => ⟨?_, ?_⟩⟩
    · obtain ⟨i, hi, rfl⟩ := List.mem_iff_getElem.1 hx
      rw [← gd i hi]; exact ⟨(h i hi).1, (h i hi).2.1⟩
    · have : ∀ d, i + 1 + d < c.length → c.getD i 0 < c.getD (i + 1 + d) 0 := by
        intro d
        induction d with
        | zero =>
          intro hd
          have := (h (i + 1) hd).2.2.1
          rw [Nat.add_sub_cancel] at this
          rcases this with h1 | h1
          · omega
          · exact h1
        | succ d ih =>
          intro hd
          have := (h (i + 1 + d + 1) hd).2.2.1
          rw [Nat.add_sub_cancel] at this
          have := ih (by omega)
          rcases ‹_ ∨ _› with h1 | h1
          · omega
          · show c.getD i 0 < c.getD (i + 1 + d + 1) 0; omega
      have := this (j - (i + 1)) (by omega)
      rw [show i + 1 + (j - (i + 1)) = j by omega, gd i hi, gd j hj] at this; exact this
    · have := (h j hj).2.2.2 i hij
      rw [gd i hi, gd j hj] at this; exact this
  · rintro ⟨h1, h2⟩ i hi
    have h3 := List.pairwise_iff_getElem.1 h2
    rw [gd i hi]
    refine ⟨(h1 _ (List.getElem_mem hi)).1, (h1 _ (List.getElem_mem hi)).2, ?_, fun j hj => ?_⟩
    · by_cases h0 : i = 0
      · exact .inl h0
      · rw [gd (i - 1) (by omega)]; exact .inr (h3 _ _ (by omega) hi (by omega)).1
    · rw [gd j (by omega)]; exact (h3 _ _ (by omega) hi hj).2
theorem okW {xs : List Int} {k x y : Nat} (hx : x < wn xs k) (hy : y < wn xs k) (hne : x ≠ y) : ok (nearL xs k) x y = !cf xs k x y := by
  rw [ok, nearL_bit]; simp [hx, hy, hne]
/-- Code is a code. -/
theorem codeL_code {xs : List Int} (g : Gs xs) {k : Nat} (hk : wn xs k ≤ 64) : code xs k ((codeL (nearL xs k)).map Int.ofNat) = true := by
  have h := cAt_ci (nearL_gr g hk) (nearL xs k).length
  have hlo : ∀ u ∈ codeL (nearL xs k), u < wn xs k := fun u hu => by have := h.lo u hu; rw [nearL_len] at this; exact this
  refine code_pw.2 ⟨fun x hx => ?_, List.pairwise_map.2 ?_⟩
  · obtain ⟨u, hu, rfl⟩ := List.mem_map.1 hx
    have := hlo u hu
    exact ⟨Int.natCast_nonneg u, Int.ofNat_lt.2 this⟩
  · refine List.Pairwise.imp_of_mem ?_ h.pw
    intro x y hx hy hxy
    refine ⟨Int.ofNat_lt.2 hxy.1, ?_⟩
    have := hxy.2
    rw [okW (hlo x hx) (hlo y hy) (by omega)] at this
    show cf xs k y x = false
    rw [cf_comm g]; simpa using this
/-- No code is greater. -/
theorem code_max {xs : List Int} (g : Gs xs) {k : Nat} (hk : wn xs k ≤ 64) {c : List Int} (h : code xs k c = true) : c.length ≤ (codeL (nearL xs k)).length := by
  obtain ⟨h1, h2⟩ := code_pw.1 h
  rw [codeL_len (nearL_gr g hk)]
  have := code_le (nearL_gr g hk) (l := c.map Int.toNat) (fun x hx => ?_) (List.pairwise_map.2 (List.Pairwise.imp_of_mem ?_ h2))
  · rw [List.length_map] at this; exact this
  · obtain ⟨u, hu, rfl⟩ := List.mem_map.1 hx
    have := h1 u hu
    rw [nearL_len]; omega
  · intro x y hx hy hxy
    have a1 := h1 x hx
    have a2 := h1 y hy
    have := hxy.1
    refine ⟨by omega, ?_⟩
    rw [okW (by omega) (by omega) (by omega), cf_comm g]; simpa using hxy.2
theorem cf_split (xs : List Int) (h0 : 0 < xs.length) (j : Nat) : ∀ (k x x' y y' : Nat), y < wn xs k → y' < wn xs k → cf xs (k + j) (x * wn xs k + y) (x' * wn xs k + y') = (cf xs k y y' && cf xs j x x')
  | 0, x, x', y, y', h1, h2 => by
    rw [wn, Nat.pow_zero] at h1 h2
    obtain rfl : y = 0 := by omega
    obtain rfl : y' = 0 := by omega
    simp [wn, cf]
  | k + 1, x, x', y, y', h1, h2 => by
    have e : wn xs (k + 1) = wn xs k * xs.length := Nat.pow_succ ..
    have m : ∀ x y : Nat, (x * wn xs (k + 1) + y) % xs.length = y % xs.length := fun x y => by
      rw [e, ← Nat.mul_assoc, Nat.add_comm, Nat.add_mul_mod_self_right]
    have d : ∀ x y : Nat, (x * wn xs (k + 1) + y) / xs.length = x * wn xs k + y / xs.length := fun x y => by
      rw [e, ← Nat.mul_assoc, Nat.add_comm, Nat.add_mul_div_right _ _ h0, Nat.add_comm]
    have l : ∀ y, y < wn xs (k + 1) → y / xs.length < wn xs k := fun y h => Nat.div_lt_of_lt_mul (by rw [Nat.mul_comm, ← e]; exact h)
    rw [Nat.add_right_comm, cf, m, m, d, d, cf_split xs h0 j k x x' _ _ (l y h1) (l y' h2), cf, Bool.and_assoc]
theorem wn_add (xs : List Int) (j k : Nat) : wn xs (j + k) = wn xs j * wn xs k := Nat.pow_add ..
/-- Each word of one code, with each word of another one behind it. -/
def both (xs : List Int) (k : Nat) (a b : List Int) : List Int := a.flatMap fun x => b.map fun y => x * wn xs k + y
theorem both_len (xs : List Int) (k : Nat) (b : List Int) : ∀ a : List Int, (both xs k a b).length = a.length * b.length
  | [] => by simp [both]
  | c :: r => by
    have := both_len xs k b r
    rw [both] at this ⊢
    rw [List.flatMap_cons, List.length_append, this, List.length_map, List.length_cons, Nat.add_mul, Nat.one_mul, Nat.add_comm]
theorem both_code {xs : List Int} (h0 : 0 < xs.length) {j k : Nat} {a b : List Int} (ha : code xs j a = true) (hb : code xs k b = true) : code xs (j + k) (both xs k a b) = true := by
  obtain ⟨a1, a2⟩ := code_pw.1 ha
  obtain ⟨b1, b2⟩ := code_pw.1 hb
  have nn : ∀ x ∈ a, ∀ y ∈ b, (x * wn xs k + y).toNat = x.toNat * wn xs k + y.toNat := fun x hx y hy => by
    have h1 := a1 x hx
    have h2 := b1 y hy
    obtain ⟨n, rfl⟩ : ∃ n : Nat, x = n := ⟨x.toNat, by omega⟩
    obtain ⟨m, rfl⟩ : ∃ m : Nat, y = m := ⟨y.toNat, by omega⟩
    rw [← Int.natCast_mul, ← Int.natCast_add]; rfl
  have lt : ∀ x ∈ a, ∀ y ∈ b, ∀ x' ∈ a, ∀ y' ∈ b, x < x' → x * wn xs k + y < x' * wn xs k + y' := fun x hx y hy x' hx' y' hy' h => by
    have h2 := b1 y hy
    have h3 := b1 y' hy'
    have h4 : (x + 1) * (wn xs k : Int) ≤ x' * wn xs k := Int.mul_le_mul_of_nonneg_right (by omega) (by omega)
    rw [Int.add_mul] at h4
    omega
  refine code_pw.2 ⟨fun z hz => ?_, ?_⟩
  · obtain ⟨x, hx, hz⟩ := List.mem_flatMap.1 hz
    obtain ⟨y, hy, rfl⟩ := List.mem_map.1 hz
    have h1 := a1 x hx
    have h2 := b1 y hy
    have h3 : (x + 1) * (wn xs k : Int) ≤ (wn xs j : Int) * wn xs k := Int.mul_le_mul_of_nonneg_right (by omega) (by omega)
    have h4 : 0 ≤ x * (wn xs k : Int) := Int.mul_nonneg h1.1 (by omega)
    rw [Int.add_mul] at h3
    have e : ((wn xs (j + k) : Nat) : Int) = (wn xs j : Int) * wn xs k := by rw [wn_add, Int.natCast_mul]
    rw [e]; omega
  · refine List.pairwise_flatMap.2 ⟨fun x hx => List.pairwise_map.2 (List.Pairwise.imp_of_mem ?_ b2), List.Pairwise.imp_of_mem ?_ a2⟩
    · intro y y' hy hy' h
      refine ⟨by have := h.1; omega, ?_⟩
      have l1 := b1 y hy
      have l2 := b1 y' hy'
      rw [nn x hx y hy, nn x hx y' hy', Nat.add_comm j k, cf_split xs h0 j k _ _ _ _ (by omega) (by omega), h.2]; rfl
    · intro x x' hx hx' h z hz z' hz'
      obtain ⟨y, hy, rfl⟩ := List.mem_map.1 hz
      obtain ⟨y', hy', rfl⟩ := List.mem_map.1 hz'
      refine ⟨lt x hx y hy x' hx' y' hy' h.1, ?_⟩
      have l1 := b1 y hy
      have l2 := b1 y' hy'
      rw [nn x hx y hy, nn x' hx' y' hy', Nat.add_comm j k, cf_split xs h0 j k _ _ _ _ (by omega) (by omega), h.2, Bool.and_false]
end Sr

namespace Go.Proofs.Tryd.Am
open Go.Am Sr
set_option maxRecDepth 100000
set_option maxHeartbeats 1000000

/-! The beginnings that the statements look at. -/
theorem grs_take (xs : List Int) : grs (xs.take 80) = grs xs := by
  by_cases hl : xs.length ≤ 80
  · rw [List.take_of_length_le hl]
  · have h1 : grs xs = false := by
      cases h : grs xs with
      | false => rfl
      | true => have := (grs_iff.1 h).2.1; omega
    have h2 : grs (xs.take 80) = false := by
      cases h : grs (xs.take 80) with
      | false => rfl
      | true => have := (grs_iff.1 h).2.1; rw [List.length_take] at this; omega
    rw [h1, h2]
theorem grs_same {xs : List Int} (h : grs xs = true) : xs.take 80 = xs := List.take_of_length_le (by have := (grs_iff.1 h).2.1; omega)
abbrev Okk (xs : List Int) (k : Int) : Prop := grs xs = true ∧ 1 ≤ k ∧ k ≤ 3
theorem codesR_take (xs : List Int) (k : Int) (cs : List Int) : codesR (xs.take 80) k (cs.take 80) = codesR xs k cs := by
  unfold codesR
  rw [grs_take]
  by_cases h : grs xs = true ∧ 1 ≤ k ∧ k ≤ 3
  · rw [if_pos h, if_pos h, grs_same h.1]
    by_cases hw : wn xs k.toNat ≤ 64
    · rw [if_pos hw, if_pos hw, code_take (by omega)]
    · rw [if_neg hw, if_neg hw]
  · rw [if_neg h, if_neg h]
theorem codesR_take1 (xs : List Int) (k : Int) (cs : List Int) : codesR (xs.take 80) k cs = codesR xs k cs := by
  unfold codesR
  rw [grs_take]
  by_cases h : grs xs = true ∧ 1 ≤ k ∧ k ≤ 3
  · rw [if_pos h, if_pos h, grs_same h.1]
  · rw [if_neg h, if_neg h]
theorem codeR_take {h : Heap} {xs : List Int} {k : Int} {r : Value} (hr : codeR h (xs.take 80) k r) : codeR h xs k r := by
  unfold codeR at hr ⊢
  rw [grs_take] at hr
  by_cases h : grs xs = true ∧ 1 ≤ k ∧ k ≤ 3
  · rw [if_pos h, grs_same h.1] at hr; rw [if_pos h]; exact hr
  · rw [if_neg h] at hr ⊢; exact hr
theorem codesR_form (xs : List Int) (k : Int) (cs : List Int) : ∃ b e, codesR xs k cs = .tuple #[.bool b, .int .i64 e] ∧
    ((¬ Okk xs k ∧ b = false ∧ e = 2) ∨ (Okk xs k ∧ ¬ wn xs k.toNat ≤ 64 ∧ b = false ∧ e = 6) ∨ (Okk xs k ∧ wn xs k.toNat ≤ 64 ∧ b = code xs k.toNat cs ∧ e = 0)) := by
  unfold codesR
  by_cases h : grs xs = true ∧ 1 ≤ k ∧ k ≤ 3
  · rw [if_pos h]
    by_cases hw : wn xs k.toNat ≤ 64
    · rw [if_pos hw]; exact ⟨_, _, rfl, .inr (.inr ⟨h, hw, rfl, rfl⟩)⟩
    · rw [if_neg hw]; exact ⟨_, _, rfl, .inr (.inl ⟨h, hw, rfl, rfl⟩)⟩
  · rw [if_neg h]; exact ⟨_, _, rfl, .inl ⟨h, rfl, rfl⟩⟩
theorem codeR_form {h' : Heap} {xs : List Int} {k : Int} {r : Value} (hr : codeR h' xs k r) : ∃ w e, r = .tuple #[w, .int .i64 e] ∧
    ((¬ Okk xs k ∧ w = .slice none 0 0 ∧ e = 2) ∨ (Okk xs k ∧ ¬ wn xs k.toNat ≤ 64 ∧ w = .slice none 0 0 ∧ e = 6) ∨ (Okk xs k ∧ wn xs k.toNat ≤ 64 ∧ OwnSl 3 h' w ((codeL (nearL xs k.toNat)).map Int.ofNat) ∧ e = 0)) := by
  unfold codeR at hr
  by_cases h : grs xs = true ∧ 1 ≤ k ∧ k ≤ 3
  · rw [if_pos h] at hr
    by_cases hw : wn xs k.toNat ≤ 64
    · rw [if_pos hw] at hr
      obtain ⟨w, h1, h2⟩ := hr
      exact ⟨_, _, h1, .inr (.inr ⟨h, hw, h2, rfl⟩)⟩
    · rw [if_neg hw] at hr; exact ⟨_, _, hr, .inr (.inl ⟨h, hw, rfl, rfl⟩)⟩
  · rw [if_neg h] at hr; exact ⟨_, _, hr, .inl ⟨h, rfl, rfl⟩⟩
theorem awk [BitTab prog 0] {K : Value → Heap → Prop} {g : Heap} (hk : ∀ g', Ext (fun _ => False) g g' → K (.bool true) g') : ACall prog 21 [] g K := awake_call.mono fun v h' ⟨h1, h2⟩ => by rw [h1]; exact hk _ h2
theorem take80_rng {xs : List Int} (hx : ∀ x ∈ xs, -9223372036854775808 ≤ x ∧ x < 9223372036854775808) : ∀ x ∈ xs.take 80, -9223372036854775808 ≤ x ∧ x < 9223372036854775808 := fun x hm => hx x (List.take_subset _ _ hm)
theorem take80_len (xs : List Int) : (xs.take 80).length < 9223372036854775808 := by simp; omega
theorem codeL_lt (xs : List Int) (k : Nat) : ((codeL (nearL xs k)).map Int.ofNat).length < 9223372036854775808 ∨ True := .inr trivial

end Go.Proofs.Tryd.Am

namespace Go.Proofs.Tryd.Am
open Go.Am Sr
set_option maxRecDepth 100000
set_option maxHeartbeats 1000000

def sumTo (xs ys : List Int) (j : Nat) : List Int := xs ++ (List.range j).map fun t => ((gn ys t * 2 ^ xs.length : Nat) : Int)
def sumL (xs ys : List Int) : List Int := sumTo xs ys ys.length
theorem sumTo_zero (xs ys : List Int) : sumTo xs ys 0 = xs := by simp [sumTo]
theorem sumTo_succ (xs ys : List Int) (j : Nat) : sumTo xs ys (j + 1) = sumTo xs ys j ++ [((gn ys j * 2 ^ xs.length : Nat) : Int)] := by
  rw [sumTo, List.range_succ, List.map_append, ← List.append_assoc]; rfl
theorem sumTo_len (xs ys : List Int) (j : Nat) : (sumTo xs ys j).length = xs.length + j := by simp [sumTo]
/-- What Sum gives back. -/
def sumR (h' : Heap) (xs ys : List Int) (r : Value) : Prop :=
  if grs xs = true ∧ grs ys = true then (if xs.length + ys.length ≤ 6 then ∃ u, r = .tuple #[u, .int .i64 0] ∧ IntSl h' u (sumL xs ys) else r = .tuple #[.slice none 0 0, .int .i64 6]) else r = .tuple #[.slice none 0 0, .int .i64 2]
theorem shlG {a n : Nat} (ha : a < 64) (hn : n ≤ 6) : shlV .i64 (a : Int) (n : Int) = ((a * 2 ^ n : Nat) : Int) := by
  have h2 := pow6N hn
  exact shlV_nat (by have : a * 2 ^ n ≤ 64 * 64 := Nat.mul_le_mul (by omega) h2
                     omega) (by omega)
theorem fresh_rsi {h : Heap} {xs : List Int} : RSI h (h ++ [.ints [] 3 false] ++ [.ints xs 3 false]) (.slice (some ⟨h.length + 1, 0, some 0⟩) xs.length xs.length) xs :=
  ⟨.inr ⟨h.length + 1, [], by simp, by
    have := get_new (h ++ [.ints [] 3 false]) (.ints xs 3 false)
    rw [List.length_append, List.length_singleton] at this
    rw [List.append_nil]; exact this⟩, (Ext.app _ _ _).trans (Ext.app _ _ _), fun b hb => by
    simp only [blkOf, Option.some.injEq] at hb; omega⟩
theorem gs_ne {xs : List Int} (g : Gs xs) : xs ≠ [] := fun e => by have := g.1; rw [e] at this; simp at this

theorem clone_rsi [Tabs prog] {h : Heap} {v : Value} {xs : List Int} (hv : IntSl h v xs) (hx : xs ≠ []) (hl : xs.length < 1099511627776) : ACall prog 26 [v] h fun r h' => RSI h h' r xs := by
  refine s26_call (by simp) ?_
  have hv' := hv
  rcases hv with ⟨rfl, rfl⟩ | ⟨b, o, sp, cap, c, e, ro, rfl, hc, hb, _⟩
  · exact absurd rfl hx
  · simp (config := {maxSteps := 2000000}) only [s26, ↓aw_region, ↓aw_skip, ↓aw_seq, ↓aw_block, ↓aw_exit, ↓aw_ret, ↓sops_nil, ↓sops_go, ↓dops_nil, ↓dopsX_nil, ↓dopsR_nil, ↓vdn, vup, extr_20, extr_21, extr_30, extr_31, extr_32, List.map_cons, List.map_nil, cond_true, cond_false, aop, aThen, aBlock, argEnv, ev, sput, sputO, binK, binI, unK, builtinK, pickK, Nat.reduceBEq, Nat.reduceAdd, Int.reduceBEq, Int.reduceBNe, Int.reduceLT, aPost, resK, tup, tyf, Option.isSome_some]
    simp only [buildSliceK, el_22, zero_3, esz_3, reps, fillL, mkb, intsOf]
    refine And.intro rfl (And.intro Nat.zero_lt_one (And.intro (Nat.zero_le _) ?_))
    refine (hv'.grow [.ints [] 3 false]).copyOwn hx app_22_22 hl (by rw [List.getElem?_append_right (Nat.le_refl _)]; simp) ?_
    have := fresh_rsi (h := h) (xs := xs)
    simpa using this

theorem s32_callW [Tabs Tryd.prog] {args : List Value} {h : Heap} {Q : Value → Heap → Prop} (hsz : args.length ≤ 42) (hk : AWS Tryd.prog 42 s32 (aPost Tryd.prog [.tmp 4, .tmp 5] Q) (argEnv 0 args) h) : ACall Tryd.prog 32 args h Q :=
  acall_w Tryd.func32 rfl (enters_of Tryd.func32 (by kernel_rfl) rfl) rfl rfl (by decide) s32_strip s32_ok hsz hk
theorem sum_call [Tabs prog] {h : Heap} {v w : Value} {xs ys : List Int} (hv : IntSl h v xs) (hl : xs.length < 9223372036854775808) (hx : ∀ x ∈ xs, -9223372036854775808 ≤ x ∧ x < 9223372036854775808)
    (hw : IntSl h w ys) (hl2 : ys.length < 9223372036854775808) (hx2 : ∀ x ∈ ys, -9223372036854775808 ≤ x ∧ x < 9223372036854775808) : ACall prog 32 [v, w] h fun r h' => Ext (fun _ => False) h h' ∧ sumR h' xs ys r := by
  have hnn : ∀ i : Nat, (0 : Int) ≤ (i : Int) := Int.natCast_nonneg
  refine s32_callW (by simp) ?_
  simp only [s32]
  refine aws_cut fun N1 hN1 => ?_
  simp (config := {maxSteps := 2000000}) only [s32, ↓aw_region, ↓aw_skip, ↓aw_seq, ↓aw_block, ↓aw_exit, ↓aw_ret, ↓sops_nil, ↓sops_go, ↓dops_nil, ↓dopsX_nil, ↓dopsR_nil, ↓vdn, vup, extr_20, extr_21, extr_30, extr_31, extr_32, List.map_cons, List.map_nil, cond_true, cond_false, aop, aThen, aBlock, argEnv, ev, sput, sputO, binK, binI, unK, builtinK, pickK, Nat.reduceBEq, Nat.reduceAdd, Int.reduceBEq, Int.reduceBNe, Int.reduceLT, aPost, resK, tup, tyf]
  refine hN1 [(0, v), (1, w), (4, .slice none 0 0), (5, .int .i64 0)] _ _ ?_ (by simp (config := {maxSteps := 2000000}) only [↓aw_region, ↓aw_skip, ↓aw_seq, ↓aw_block, ↓aw_exit, ↓aw_ret, ↓sops_nil, ↓sops_go, ↓dops_nil, ↓dopsX_nil, ↓dopsR_nil, ↓vdn, vup, extr_20, extr_21, extr_30, extr_31, extr_32, List.map_cons, List.map_nil, cond_true, cond_false, aop, aThen, aBlock, argEnv, ev, sput, sputO, binK, binI, unK, builtinK, pickK, Nat.reduceBEq, Nat.reduceAdd, Int.reduceBEq, Int.reduceBNe, Int.reduceLT, aPost, resK, tup, tyf])
  clear hN1
  try clear N1
  refine aws_cut fun N2 hN2 => ?_
  simp (config := {maxSteps := 2000000}) only [s32, ↓aw_region, ↓aw_skip, ↓aw_seq, ↓aw_block, ↓aw_exit, ↓aw_ret, ↓sops_nil, ↓sops_go, ↓dops_nil, ↓dopsX_nil, ↓dopsR_nil, ↓vdn, vup, extr_20, extr_21, extr_30, extr_31, extr_32, List.map_cons, List.map_nil, cond_true, cond_false, aop, aThen, aBlock, argEnv, ev, sput, sputO, binK, binI, unK, builtinK, pickK, Nat.reduceBEq, Nat.reduceAdd, Int.reduceBEq, Int.reduceBNe, Int.reduceLT, aPost, resK, tup, tyf, callK, List.nil_append, List.append_nil, List.toList_toArray, List.cons_append]
  refine (valid_call hv hl hx).mono ?_
  rintro _ h ⟨rfl, rfl⟩
  cases hgx : grs xs with
  | false =>
    simp (config := {maxSteps := 2000000}) only [s32, ↓aw_region, ↓aw_skip, ↓aw_seq, ↓aw_block, ↓aw_exit, ↓aw_ret, ↓sops_nil, ↓sops_go, ↓dops_nil, ↓dopsX_nil, ↓dopsR_nil, ↓vdn, vup, extr_20, extr_21, extr_30, extr_31, extr_32, List.map_cons, List.map_nil, cond_true, cond_false, aop, aThen, aBlock, argEnv, ev, sput, sputO, binK, binI, unK, builtinK, pickK, Nat.reduceBEq, Nat.reduceAdd, Int.reduceBEq, Int.reduceBNe, Int.reduceLT, aPost, resK, tup, tyf, Bool.not_false]
    exact ⟨Ext.refl _ _, by rw [sumR, if_neg (by rw [hgx]; exact fun h => by cases h.1)]⟩
  | true =>
  simp (config := {maxSteps := 2000000}) only [s32, ↓aw_region, ↓aw_skip, ↓aw_seq, ↓aw_block, ↓aw_exit, ↓aw_ret, ↓sops_nil, ↓sops_go, ↓dops_nil, ↓dopsX_nil, ↓dopsR_nil, ↓vdn, vup, extr_20, extr_21, extr_30, extr_31, extr_32, List.map_cons, List.map_nil, cond_true, cond_false, aop, aThen, aBlock, argEnv, ev, sput, sputO, binK, binI, unK, builtinK, pickK, Nat.reduceBEq, Nat.reduceAdd, Int.reduceBEq, Int.reduceBNe, Int.reduceLT, aPost, resK, tup, tyf, callK, List.nil_append, List.append_nil, List.toList_toArray, List.cons_append, Bool.not_true]
  refine (valid_call hw hl2 hx2).mono ?_
  rintro _ h ⟨rfl, rfl⟩
  cases hgy : grs ys with
  | false =>
    simp (config := {maxSteps := 2000000}) only [s32, ↓aw_region, ↓aw_skip, ↓aw_seq, ↓aw_block, ↓aw_exit, ↓aw_ret, ↓sops_nil, ↓sops_go, ↓dops_nil, ↓dopsX_nil, ↓dopsR_nil, ↓vdn, vup, extr_20, extr_21, extr_30, extr_31, extr_32, List.map_cons, List.map_nil, cond_true, cond_false, aop, aThen, aBlock, argEnv, ev, sput, sputO, binK, binI, unK, builtinK, pickK, Nat.reduceBEq, Nat.reduceAdd, Int.reduceBEq, Int.reduceBNe, Int.reduceLT, aPost, resK, tup, tyf, Bool.not_false]
    exact ⟨Ext.refl _ _, by rw [sumR, if_neg (by rw [hgy]; exact fun h => by cases h.2)]⟩
  | true =>
  have gx := grs_iff.1 hgx
  have gy := grs_iff.1 hgy
  have hx6 := gx.2.1
  have hy6 := gy.2.1
  have hadd : addV .i64 (xs.length : Int) (ys.length : Int) = ((xs.length + ys.length : Nat) : Int) := by rw [addV_id (by omega) (by omega)]; omega
  by_cases hsm : xs.length + ys.length ≤ 6
  · have hng : ¬ (6 : Int) < ((xs.length + ys.length : Nat) : Int) := by omega
    simp (config := {maxSteps := 2000000}) only [s32, ↓aw_region, ↓aw_skip, ↓aw_seq, ↓aw_block, ↓aw_exit, ↓aw_ret, ↓sops_nil, ↓sops_go, ↓dops_nil, ↓dopsX_nil, ↓dopsR_nil, ↓vdn, vup, extr_20, extr_21, extr_30, extr_31, extr_32, List.map_cons, List.map_nil, cond_true, cond_false, aop, aThen, aBlock, argEnv, ev, sput, sputO, binK, binI, unK, builtinK, pickK, Nat.reduceBEq, Nat.reduceAdd, Int.reduceBEq, Int.reduceBNe, Int.reduceLT, aPost, resK, tup, tyf, Bool.not_true, hv.len, hw.len, hadd, gt_iff_lt, hng]
    refine hN2 [(0, v), (1, w), (4, .slice none 0 0), (5, .int .i64 0)] _ _ ?_ (by simp (config := {maxSteps := 2000000}) only [↓aw_region, ↓aw_skip, ↓aw_seq, ↓aw_block, ↓aw_exit, ↓aw_ret, ↓sops_nil, ↓sops_go, ↓dops_nil, ↓dopsX_nil, ↓dopsR_nil, ↓vdn, vup, extr_20, extr_21, extr_30, extr_31, extr_32, List.map_cons, List.map_nil, cond_true, cond_false, aop, aThen, aBlock, argEnv, ev, sput, sputO, binK, binI, unK, builtinK, pickK, Nat.reduceBEq, Nat.reduceAdd, Int.reduceBEq, Int.reduceBNe, Int.reduceLT, aPost, resK, tup, tyf])
    clear hN2
    try clear N2
    refine aws_cut fun N3 hN3 => ?_
    simp (config := {maxSteps := 2000000}) only [s32, ↓aw_region, ↓aw_skip, ↓aw_seq, ↓aw_block, ↓aw_exit, ↓aw_ret, ↓sops_nil, ↓sops_go, ↓dops_nil, ↓dopsX_nil, ↓dopsR_nil, ↓vdn, vup, extr_20, extr_21, extr_30, extr_31, extr_32, List.map_cons, List.map_nil, cond_true, cond_false, aop, aThen, aBlock, argEnv, ev, sput, sputO, binK, binI, unK, builtinK, pickK, Nat.reduceBEq, Nat.reduceAdd, Int.reduceBEq, Int.reduceBNe, Int.reduceLT, aPost, resK, tup, tyf, callK, List.nil_append, List.append_nil, List.toList_toArray, List.cons_append]
    refine (clone_rsi hv (gs_ne gx) (by omega)).mono ?_
    rintro r h1 hs1
    refine hN3 [(0, v), (1, w), (4, .slice none 0 0), (5, .int .i64 0), (6, r)] _ _ ?_ (by simp (config := {maxSteps := 2000000}) only [↓aw_region, ↓aw_skip, ↓aw_seq, ↓aw_block, ↓aw_exit, ↓aw_ret, ↓sops_nil, ↓sops_go, ↓dops_nil, ↓dopsX_nil, ↓dopsR_nil, ↓vdn, vup, extr_20, extr_21, extr_30, extr_31, extr_32, List.map_cons, List.map_nil, cond_true, cond_false, aop, aThen, aBlock, argEnv, ev, sput, sputO, binK, binI, unK, builtinK, pickK, Nat.reduceBEq, Nat.reduceAdd, Int.reduceBEq, Int.reduceBNe, Int.reduceLT, aPost, resK, tup, tyf])
    clear hN3
    try clear N3
    refine aws_cut fun Z hZ => ?_
    simp (config := {maxSteps := 2000000}) only [s32, ↓aw_region, ↓aw_skip, ↓aw_seq, ↓aw_block, ↓aw_exit, ↓aw_ret, ↓sops_nil, ↓sops_go, ↓dops_nil, ↓dopsX_nil, ↓dopsR_nil, ↓vdn, vup, extr_20, extr_21, extr_30, extr_31, extr_32, List.map_cons, List.map_nil, cond_true, cond_false, aop, aThen, aBlock, argEnv, ev, sput, sputO, binK, binI, unK, builtinK, pickK, Nat.reduceBEq, Nat.reduceAdd, Int.reduceBEq, Int.reduceBNe, Int.reduceLT, aPost, resK, tup, tyf, hw.len, ↓aw_loop_eq]
    refine aws_hide fun Q hQ => ?_
    refine aw_loop (γ := Nat × Value × Heap) (fun s => s.1 ≤ ys.length ∧ RSI h s.2.2 s.2.1 (sumTo xs ys s.1))
      (fun s => ([(0, v), (1, w), (4, .slice none 0 0), (5, .int .i64 0), (6, s.2.1), (27, w), (28, vint ys.length), (29, vint s.1)], s.2.2)) (fun s => ys.length - s.1) (0, r, h1) ⟨Nat.zero_le _, by rw [sumTo_zero]; exact hs1⟩ (by simp (config := {maxSteps := 2000000}) only [↓aw_region, ↓aw_skip, ↓aw_seq, ↓aw_block, ↓aw_exit, ↓aw_ret, ↓sops_nil, ↓sops_go, ↓dops_nil, ↓dopsX_nil, ↓dopsR_nil, ↓vdn, vup, extr_20, extr_21, extr_30, extr_31, extr_32, List.map_cons, List.map_nil, cond_true, cond_false, aop, aThen, aBlock, argEnv, ev, sput, sputO, binK, binI, unK, builtinK, pickK, Nat.reduceBEq, Nat.reduceAdd, Int.reduceBEq, Int.reduceBNe, Int.reduceLT, aPost, resK, tup, tyf, Int.natCast_zero]) rfl ?_
    rintro ⟨j, ov, hp⟩ ⟨hj, hs⟩
    simp only at hj hs
    refine aw_hide fun Q2 hQ2 => ?_
    have hv1 := IntSl_ext hv hs.2.1
    have hw1 := IntSl_ext hw hs.2.1
    by_cases hjn : (j : Int) < ys.length
    · have hj' : j < ys.length := by omega
      obtain ⟨hge, hgl⟩ := gnE gy hj'
      simp (config := {maxSteps := 2000000}) only [s32, ↓aw_region, ↓aw_skip, ↓aw_seq, ↓aw_block, ↓aw_exit, ↓aw_ret, ↓sops_nil, ↓sops_go, ↓dops_nil, ↓dopsX_nil, ↓dopsR_nil, ↓vdn, vup, extr_20, extr_21, extr_30, extr_31, extr_32, List.map_cons, List.map_nil, cond_true, cond_false, aop, aThen, aBlock, argEnv, ev, sput, sputO, binK, binI, unK, builtinK, pickK, Nat.reduceBEq, Nat.reduceAdd, Int.reduceBEq, Int.reduceBNe, Int.reduceLT, aPost, resK, tup, tyf, l32_0, hjn, hw1.idx el_22 esz_3 hj', hw1.load shp_3 hj', hge, hv1.len, hnn, shlG hgl hx6, litI1]
      refine hs.push (by rw [sumTo_len]; omega) fun v' h' s' => ?_
      simp (config := {maxSteps := 2000000}) only [s32, ↓aw_region, ↓aw_skip, ↓aw_seq, ↓aw_block, ↓aw_exit, ↓aw_ret, ↓sops_nil, ↓sops_go, ↓dops_nil, ↓dopsX_nil, ↓dopsR_nil, ↓vdn, vup, extr_20, extr_21, extr_30, extr_31, extr_32, List.map_cons, List.map_nil, cond_true, cond_false, aop, aThen, aBlock, argEnv, ev, sput, sputO, binK, binI, unK, builtinK, pickK, Nat.reduceBEq, Nat.reduceAdd, Int.reduceBEq, Int.reduceBNe, Int.reduceLT, aPost, resK, tup, tyf, add1 (show j < 9223372036854775807 by omega)]
      refine hQ2 _ _ _ ⟨(j + 1, v', h'), ⟨by simp only; omega, by rw [sumTo_succ]; exact s'⟩, by simp only; omega, by simp (config := {maxSteps := 2000000}) only [↓aw_region, ↓aw_skip, ↓aw_seq, ↓aw_block, ↓aw_exit, ↓aw_ret, ↓sops_nil, ↓sops_go, ↓dops_nil, ↓dopsX_nil, ↓dopsR_nil, ↓vdn, vup, extr_20, extr_21, extr_30, extr_31, extr_32, List.map_cons, List.map_nil, cond_true, cond_false, aop, aThen, aBlock, argEnv, ev, sput, sputO, binK, binI, unK, builtinK, pickK, Nat.reduceBEq, Nat.reduceAdd, Int.reduceBEq, Int.reduceBNe, Int.reduceLT, aPost, resK, tup, tyf], rfl⟩
    · obtain rfl : j = ys.length := by omega
      simp (config := {maxSteps := 2000000}) only [s32, ↓aw_region, ↓aw_skip, ↓aw_seq, ↓aw_block, ↓aw_exit, ↓aw_ret, ↓sops_nil, ↓sops_go, ↓dops_nil, ↓dopsX_nil, ↓dopsR_nil, ↓vdn, vup, extr_20, extr_21, extr_30, extr_31, extr_32, List.map_cons, List.map_nil, cond_true, cond_false, aop, aThen, aBlock, argEnv, ev, sput, sputO, binK, binI, unK, builtinK, pickK, Nat.reduceBEq, Nat.reduceAdd, Int.reduceBEq, Int.reduceBNe, Int.reduceLT, aPost, resK, tup, tyf, l32_0, Int.lt_irrefl]
      refine hQ2 _ _ _ (hQ _ _ _ ?_)
      simp (config := {maxSteps := 2000000}) only [s32, ↓aw_region, ↓aw_skip, ↓aw_seq, ↓aw_block, ↓aw_exit, ↓aw_ret, ↓sops_nil, ↓sops_go, ↓dops_nil, ↓dopsX_nil, ↓dopsR_nil, ↓vdn, vup, extr_20, extr_21, extr_30, extr_31, extr_32, List.map_cons, List.map_nil, cond_true, cond_false, aop, aThen, aBlock, argEnv, ev, sput, sputO, binK, binI, unK, builtinK, pickK, Nat.reduceBEq, Nat.reduceAdd, Int.reduceBEq, Int.reduceBNe, Int.reduceLT, aPost, resK, tup, tyf, if_true]
      refine hZ [(0, v), (1, w), (4, .slice none 0 0), (5, .int .i64 0), (6, ov)] _ _ ?_ (by simp (config := {maxSteps := 2000000}) only [↓aw_region, ↓aw_skip, ↓aw_seq, ↓aw_block, ↓aw_exit, ↓aw_ret, ↓sops_nil, ↓sops_go, ↓dops_nil, ↓dopsX_nil, ↓dopsR_nil, ↓vdn, vup, extr_20, extr_21, extr_30, extr_31, extr_32, List.map_cons, List.map_nil, cond_true, cond_false, aop, aThen, aBlock, argEnv, ev, sput, sputO, binK, binI, unK, builtinK, pickK, Nat.reduceBEq, Nat.reduceAdd, Int.reduceBEq, Int.reduceBNe, Int.reduceLT, aPost, resK, tup, tyf])
      clear hZ
      try clear Z
      refine aw_aws ?_
      simp (config := {maxSteps := 2000000}) only [s32, ↓aw_region, ↓aw_skip, ↓aw_seq, ↓aw_block, ↓aw_exit, ↓aw_ret, ↓sops_nil, ↓sops_go, ↓dops_nil, ↓dopsX_nil, ↓dopsR_nil, ↓vdn, vup, extr_20, extr_21, extr_30, extr_31, extr_32, List.map_cons, List.map_nil, cond_true, cond_false, aop, aThen, aBlock, argEnv, ev, sput, sputO, binK, binI, unK, builtinK, pickK, Nat.reduceBEq, Nat.reduceAdd, Int.reduceBEq, Int.reduceBNe, Int.reduceLT, aPost, resK, tup, tyf]
      refine ⟨hs.2.1, ?_⟩
      rw [sumR, if_pos ⟨hgx, hgy⟩, if_pos hsm]
      exact ⟨_, rfl, hs.1.int⟩
  · have hg : (6 : Int) < ((xs.length + ys.length : Nat) : Int) := by omega
    simp (config := {maxSteps := 2000000}) only [s32, ↓aw_region, ↓aw_skip, ↓aw_seq, ↓aw_block, ↓aw_exit, ↓aw_ret, ↓sops_nil, ↓sops_go, ↓dops_nil, ↓dopsX_nil, ↓dopsR_nil, ↓vdn, vup, extr_20, extr_21, extr_30, extr_31, extr_32, List.map_cons, List.map_nil, cond_true, cond_false, aop, aThen, aBlock, argEnv, ev, sput, sputO, binK, binI, unK, builtinK, pickK, Nat.reduceBEq, Nat.reduceAdd, Int.reduceBEq, Int.reduceBNe, Int.reduceLT, aPost, resK, tup, tyf, Bool.not_true, hv.len, hw.len, hadd, gt_iff_lt, hg]
    exact ⟨Ext.refl _ _, by rw [sumR, if_pos ⟨hgx, hgy⟩, if_neg hsm]⟩

theorem s34_callW [Tabs Tryd.prog] {args : List Value} {h : Heap} {Q : Value → Heap → Prop} (hsz : args.length ≤ 26) (hk : AWS Tryd.prog 26 s34 (aPost Tryd.prog [.tmp 4] Q) (argEnv 0 args) h) : ACall Tryd.prog 34 args h Q :=
  acall_w Tryd.func34 rfl (enters_of Tryd.func34 (by kernel_rfl) rfl) rfl rfl (by decide) s34_strip s34_ok hsz hk
theorem rsum_call [Tabs prog] {h : Heap} {v w : Value} {xs ys : List Int} (hv : IntSl h v xs) (hw : IntSl h w ys) (gx : Gs xs) (gy : Gs ys) :
    ACall prog 34 [v, w] h fun r h' => IntSl h' r (sumL xs ys) ∧ Ext (fun _ => False) h h' := by
  have hnn : ∀ i : Nat, (0 : Int) ≤ (i : Int) := Int.natCast_nonneg
  have hx6 := gx.2.1
  have hy6 := gy.2.1
  refine s34_callW (by simp) ?_
  simp only [s34]
  refine aws_cut fun N4 hN4 => ?_
  simp (config := {maxSteps := 2000000}) only [s34, ↓aw_region, ↓aw_skip, ↓aw_seq, ↓aw_block, ↓aw_exit, ↓aw_ret, ↓sops_nil, ↓sops_go, ↓dops_nil, ↓dopsX_nil, ↓dopsR_nil, ↓vdn, vup, extr_20, extr_21, extr_30, extr_31, extr_32, List.map_cons, List.map_nil, cond_true, cond_false, aop, aThen, aBlock, argEnv, ev, sput, sputO, binK, binI, unK, builtinK, pickK, Nat.reduceBEq, Nat.reduceAdd, Int.reduceBEq, Int.reduceBNe, Int.reduceLT, aPost, resK, tup, tyf]
  refine hN4 [(0, v), (1, w), (4, .slice none 0 0)] _ _ ?_ (by simp (config := {maxSteps := 2000000}) only [↓aw_region, ↓aw_skip, ↓aw_seq, ↓aw_block, ↓aw_exit, ↓aw_ret, ↓sops_nil, ↓sops_go, ↓dops_nil, ↓dopsX_nil, ↓dopsR_nil, ↓vdn, vup, extr_20, extr_21, extr_30, extr_31, extr_32, List.map_cons, List.map_nil, cond_true, cond_false, aop, aThen, aBlock, argEnv, ev, sput, sputO, binK, binI, unK, builtinK, pickK, Nat.reduceBEq, Nat.reduceAdd, Int.reduceBEq, Int.reduceBNe, Int.reduceLT, aPost, resK, tup, tyf])
  clear hN4
  try clear N4
  refine aws_cut fun N5 hN5 => ?_
  simp (config := {maxSteps := 2000000}) only [s34, ↓aw_region, ↓aw_skip, ↓aw_seq, ↓aw_block, ↓aw_exit, ↓aw_ret, ↓sops_nil, ↓sops_go, ↓dops_nil, ↓dopsX_nil, ↓dopsR_nil, ↓vdn, vup, extr_20, extr_21, extr_30, extr_31, extr_32, List.map_cons, List.map_nil, cond_true, cond_false, aop, aThen, aBlock, argEnv, ev, sput, sputO, binK, binI, unK, builtinK, pickK, Nat.reduceBEq, Nat.reduceAdd, Int.reduceBEq, Int.reduceBNe, Int.reduceLT, aPost, resK, tup, tyf]
  simp only [buildSliceK, el_22, zero_3, esz_3, reps, fillL, mkb, intsOf]
  refine And.intro rfl (And.intro Nat.zero_lt_one (And.intro (Nat.zero_le _) ?_))
  refine (hv.grow [.ints [] 3 false]).copyOwn (gs_ne gx) app_22_22 (by omega) (by rw [List.getElem?_append_right (Nat.le_refl _)]; simp) ?_
  have hs1 := fresh_rsi (h := h) (xs := xs)
  simp (config := {maxSteps := 2000000}) only [s34, ↓aw_region, ↓aw_skip, ↓aw_seq, ↓aw_block, ↓aw_exit, ↓aw_ret, ↓sops_nil, ↓sops_go, ↓dops_nil, ↓dopsX_nil, ↓dopsR_nil, ↓vdn, vup, extr_20, extr_21, extr_30, extr_31, extr_32, List.map_cons, List.map_nil, cond_true, cond_false, aop, aThen, aBlock, argEnv, ev, sput, sputO, binK, binI, unK, builtinK, pickK, Nat.reduceBEq, Nat.reduceAdd, Int.reduceBEq, Int.reduceBNe, Int.reduceLT, aPost, resK, tup, tyf, List.length_append, List.length_singleton]
  refine hN5 [(0, v), (1, w), (4, .slice none 0 0), (5, .slice (some ⟨h.length + 1, 0, some 0⟩) xs.length xs.length)] _ _ ?_ (by simp (config := {maxSteps := 2000000}) only [↓aw_region, ↓aw_skip, ↓aw_seq, ↓aw_block, ↓aw_exit, ↓aw_ret, ↓sops_nil, ↓sops_go, ↓dops_nil, ↓dopsX_nil, ↓dopsR_nil, ↓vdn, vup, extr_20, extr_21, extr_30, extr_31, extr_32, List.map_cons, List.map_nil, cond_true, cond_false, aop, aThen, aBlock, argEnv, ev, sput, sputO, binK, binI, unK, builtinK, pickK, Nat.reduceBEq, Nat.reduceAdd, Int.reduceBEq, Int.reduceBNe, Int.reduceLT, aPost, resK, tup, tyf])
  clear hN5
  try clear N5
  generalize h ++ [.ints [] 3 false] ++ [.ints xs 3 false] = h1 at hs1 ⊢
  generalize Value.slice (some ⟨h.length + 1, 0, some 0⟩) xs.length xs.length = r at hs1 ⊢
  have hw0 := IntSl_ext hw hs1.2.1
  refine aws_cut fun Z hZ => ?_
  simp (config := {maxSteps := 2000000}) only [s34, ↓aw_region, ↓aw_skip, ↓aw_seq, ↓aw_block, ↓aw_exit, ↓aw_ret, ↓sops_nil, ↓sops_go, ↓dops_nil, ↓dopsX_nil, ↓dopsR_nil, ↓vdn, vup, extr_20, extr_21, extr_30, extr_31, extr_32, List.map_cons, List.map_nil, cond_true, cond_false, aop, aThen, aBlock, argEnv, ev, sput, sputO, binK, binI, unK, builtinK, pickK, Nat.reduceBEq, Nat.reduceAdd, Int.reduceBEq, Int.reduceBNe, Int.reduceLT, aPost, resK, tup, tyf, hw0.len, ↓aw_loop_eq]
  refine aws_hide fun Q hQ => ?_
  refine aw_loop (γ := Nat × Value × Heap) (fun s => s.1 ≤ ys.length ∧ RSI h s.2.2 s.2.1 (sumTo xs ys s.1))
    (fun s => ([(0, v), (1, w), (4, .slice none 0 0), (5, s.2.1), (11, w), (12, vint ys.length), (13, vint s.1)], s.2.2)) (fun s => ys.length - s.1) (0, r, h1) ⟨Nat.zero_le _, by rw [sumTo_zero]; exact hs1⟩ (by simp (config := {maxSteps := 2000000}) only [↓aw_region, ↓aw_skip, ↓aw_seq, ↓aw_block, ↓aw_exit, ↓aw_ret, ↓sops_nil, ↓sops_go, ↓dops_nil, ↓dopsX_nil, ↓dopsR_nil, ↓vdn, vup, extr_20, extr_21, extr_30, extr_31, extr_32, List.map_cons, List.map_nil, cond_true, cond_false, aop, aThen, aBlock, argEnv, ev, sput, sputO, binK, binI, unK, builtinK, pickK, Nat.reduceBEq, Nat.reduceAdd, Int.reduceBEq, Int.reduceBNe, Int.reduceLT, aPost, resK, tup, tyf, Int.natCast_zero]) rfl ?_
  rintro ⟨j, ov, hp⟩ ⟨hj, hs⟩
  simp only at hj hs
  refine aw_hide fun Q2 hQ2 => ?_
  have hv1 := IntSl_ext hv hs.2.1
  have hw1 := IntSl_ext hw hs.2.1
  by_cases hjn : (j : Int) < ys.length
  · have hj' : j < ys.length := by omega
    obtain ⟨hge, hgl⟩ := gnE gy hj'
    simp (config := {maxSteps := 2000000}) only [s34, ↓aw_region, ↓aw_skip, ↓aw_seq, ↓aw_block, ↓aw_exit, ↓aw_ret, ↓sops_nil, ↓sops_go, ↓dops_nil, ↓dopsX_nil, ↓dopsR_nil, ↓vdn, vup, extr_20, extr_21, extr_30, extr_31, extr_32, List.map_cons, List.map_nil, cond_true, cond_false, aop, aThen, aBlock, argEnv, ev, sput, sputO, binK, binI, unK, builtinK, pickK, Nat.reduceBEq, Nat.reduceAdd, Int.reduceBEq, Int.reduceBNe, Int.reduceLT, aPost, resK, tup, tyf, l34_0, hjn, hw1.idx el_22 esz_3 hj', hw1.load shp_3 hj', hge, hv1.len, hnn, shlG hgl hx6, litI1]
    refine hs.push (by rw [sumTo_len]; omega) fun v' h' s' => ?_
    simp (config := {maxSteps := 2000000}) only [s34, ↓aw_region, ↓aw_skip, ↓aw_seq, ↓aw_block, ↓aw_exit, ↓aw_ret, ↓sops_nil, ↓sops_go, ↓dops_nil, ↓dopsX_nil, ↓dopsR_nil, ↓vdn, vup, extr_20, extr_21, extr_30, extr_31, extr_32, List.map_cons, List.map_nil, cond_true, cond_false, aop, aThen, aBlock, argEnv, ev, sput, sputO, binK, binI, unK, builtinK, pickK, Nat.reduceBEq, Nat.reduceAdd, Int.reduceBEq, Int.reduceBNe, Int.reduceLT, aPost, resK, tup, tyf, add1 (show j < 9223372036854775807 by omega)]
    refine hQ2 _ _ _ ⟨(j + 1, v', h'), ⟨by simp only; omega, by rw [sumTo_succ]; exact s'⟩, by simp only; omega, by simp (config := {maxSteps := 2000000}) only [↓aw_region, ↓aw_skip, ↓aw_seq, ↓aw_block, ↓aw_exit, ↓aw_ret, ↓sops_nil, ↓sops_go, ↓dops_nil, ↓dopsX_nil, ↓dopsR_nil, ↓vdn, vup, extr_20, extr_21, extr_30, extr_31, extr_32, List.map_cons, List.map_nil, cond_true, cond_false, aop, aThen, aBlock, argEnv, ev, sput, sputO, binK, binI, unK, builtinK, pickK, Nat.reduceBEq, Nat.reduceAdd, Int.reduceBEq, Int.reduceBNe, Int.reduceLT, aPost, resK, tup, tyf], rfl⟩
  · obtain rfl : j = ys.length := by omega
    simp (config := {maxSteps := 2000000}) only [s34, ↓aw_region, ↓aw_skip, ↓aw_seq, ↓aw_block, ↓aw_exit, ↓aw_ret, ↓sops_nil, ↓sops_go, ↓dops_nil, ↓dopsX_nil, ↓dopsR_nil, ↓vdn, vup, extr_20, extr_21, extr_30, extr_31, extr_32, List.map_cons, List.map_nil, cond_true, cond_false, aop, aThen, aBlock, argEnv, ev, sput, sputO, binK, binI, unK, builtinK, pickK, Nat.reduceBEq, Nat.reduceAdd, Int.reduceBEq, Int.reduceBNe, Int.reduceLT, aPost, resK, tup, tyf, l34_0, Int.lt_irrefl]
    refine hQ2 _ _ _ (hQ _ _ _ ?_)
    simp (config := {maxSteps := 2000000}) only [s34, ↓aw_region, ↓aw_skip, ↓aw_seq, ↓aw_block, ↓aw_exit, ↓aw_ret, ↓sops_nil, ↓sops_go, ↓dops_nil, ↓dopsX_nil, ↓dopsR_nil, ↓vdn, vup, extr_20, extr_21, extr_30, extr_31, extr_32, List.map_cons, List.map_nil, cond_true, cond_false, aop, aThen, aBlock, argEnv, ev, sput, sputO, binK, binI, unK, builtinK, pickK, Nat.reduceBEq, Nat.reduceAdd, Int.reduceBEq, Int.reduceBNe, Int.reduceLT, aPost, resK, tup, tyf, if_true]
    refine hZ [(0, v), (1, w), (4, .slice none 0 0), (5, ov)] _ _ ?_ (by simp (config := {maxSteps := 2000000}) only [↓aw_region, ↓aw_skip, ↓aw_seq, ↓aw_block, ↓aw_exit, ↓aw_ret, ↓sops_nil, ↓sops_go, ↓dops_nil, ↓dopsX_nil, ↓dopsR_nil, ↓vdn, vup, extr_20, extr_21, extr_30, extr_31, extr_32, List.map_cons, List.map_nil, cond_true, cond_false, aop, aThen, aBlock, argEnv, ev, sput, sputO, binK, binI, unK, builtinK, pickK, Nat.reduceBEq, Nat.reduceAdd, Int.reduceBEq, Int.reduceBNe, Int.reduceLT, aPost, resK, tup, tyf])
    clear hZ
    try clear Z
    refine aw_aws ?_
    simp (config := {maxSteps := 2000000}) only [s34, ↓aw_region, ↓aw_skip, ↓aw_seq, ↓aw_block, ↓aw_exit, ↓aw_ret, ↓sops_nil, ↓sops_go, ↓dops_nil, ↓dopsX_nil, ↓dopsR_nil, ↓vdn, vup, extr_20, extr_21, extr_30, extr_31, extr_32, List.map_cons, List.map_nil, cond_true, cond_false, aop, aThen, aBlock, argEnv, ev, sput, sputO, binK, binI, unK, builtinK, pickK, Nat.reduceBEq, Nat.reduceAdd, Int.reduceBEq, Int.reduceBNe, Int.reduceLT, aPost, resK, tup, tyf]
    exact ⟨hs.1.int, hs.2.1⟩
end Go.Proofs.Tryd.Am

namespace Go.Proofs.Tryd.Am
open Go.Am Sr
set_option maxRecDepth 100000
set_option maxHeartbeats 1000000

theorem joinR_take {h : Heap} {xs ys : List Int} {r : Value} (hr : joinR h (xs.take 80) (ys.take 80) r) : joinR h xs ys r := by
  unfold joinR at hr ⊢
  rw [grs_take, grs_take] at hr
  by_cases hg : grs xs = true ∧ grs ys = true
  · rw [if_pos hg, grs_same hg.1, grs_same hg.2] at hr; rw [if_pos hg]; exact hr
  · rw [if_neg hg] at hr ⊢; exact hr
theorem sumR_take {h : Heap} {xs ys : List Int} {r : Value} (hr : sumR h (xs.take 80) (ys.take 80) r) : sumR h xs ys r := by
  unfold sumR at hr ⊢
  rw [grs_take, grs_take] at hr
  by_cases hg : grs xs = true ∧ grs ys = true
  · rw [if_pos hg, grs_same hg.1, grs_same hg.2] at hr; rw [if_pos hg]; exact hr
  · rw [if_neg hg] at hr ⊢; exact hr
theorem joinR_form {h' : Heap} {xs ys : List Int} {r : Value} (hr : joinR h' xs ys r) : ∃ u e, r = .tuple #[u, .int .i64 e] ∧
    ((¬ (grs xs = true ∧ grs ys = true) ∧ u = .slice none 0 0 ∧ e = 2) ∨ ((grs xs = true ∧ grs ys = true) ∧ ¬ xs.length * ys.length ≤ 6 ∧ u = .slice none 0 0 ∧ e = 6) ∨ ((grs xs = true ∧ grs ys = true) ∧ xs.length * ys.length ≤ 6 ∧ IntSl h' u (joinL xs ys) ∧ e = 0)) := by
  unfold joinR at hr
  by_cases hg : grs xs = true ∧ grs ys = true
  · rw [if_pos hg] at hr
    by_cases hs : xs.length * ys.length ≤ 6
    · rw [if_pos hs] at hr
      obtain ⟨u, rfl, hu⟩ := hr
      exact ⟨_, _, rfl, .inr (.inr ⟨hg, hs, hu, rfl⟩)⟩
    · rw [if_neg hs] at hr; exact ⟨_, _, hr, .inr (.inl ⟨hg, hs, rfl, rfl⟩)⟩
  · rw [if_neg hg] at hr; exact ⟨_, _, hr, .inl ⟨hg, rfl, rfl⟩⟩
theorem sumR_form {h' : Heap} {xs ys : List Int} {r : Value} (hr : sumR h' xs ys r) : ∃ u e, r = .tuple #[u, .int .i64 e] ∧
    ((¬ (grs xs = true ∧ grs ys = true) ∧ u = .slice none 0 0 ∧ e = 2) ∨ ((grs xs = true ∧ grs ys = true) ∧ ¬ xs.length + ys.length ≤ 6 ∧ u = .slice none 0 0 ∧ e = 6) ∨ ((grs xs = true ∧ grs ys = true) ∧ xs.length + ys.length ≤ 6 ∧ IntSl h' u (sumL xs ys) ∧ e = 0)) := by
  unfold sumR at hr
  by_cases hg : grs xs = true ∧ grs ys = true
  · rw [if_pos hg] at hr
    by_cases hs : xs.length + ys.length ≤ 6
    · rw [if_pos hs] at hr
      obtain ⟨u, rfl, hu⟩ := hr
      exact ⟨_, _, rfl, .inr (.inr ⟨hg, hs, hu, rfl⟩)⟩
    · rw [if_neg hs] at hr; exact ⟨_, _, hr, .inr (.inl ⟨hg, hs, rfl, rfl⟩)⟩
  · rw [if_neg hg] at hr; exact ⟨_, _, hr, .inl ⟨hg, rfl, rfl⟩⟩

theorem joinL_len (xs ys : List Int) : (joinL xs ys).length = xs.length * ys.length := by rw [joinL, iL_len, mat_len]
theorem sumL_len (xs ys : List Int) : (sumL xs ys).length = xs.length + ys.length := by rw [sumL, sumTo_len]
theorem s6_callW [Tabs Tryd.prog] {args : List Value} {h : Heap} {Q : Value → Heap → Prop} (hsz : args.length ≤ 101) (hk : AWS Tryd.prog 101 s6 (aPost Tryd.prog [.tmp 4] Q) (argEnv 0 args) h) : ACall Tryd.prog 6 args h Q :=
  acall_w Tryd.func6 rfl (enters_of Tryd.func6 (by kernel_rfl) rfl) rfl rfl (by decide) s6_strip s6_ok hsz hk
theorem law_joins [BitTab prog 0] {h : Heap} {v w : Value} {xs ys : List Int} (hv : IntSl h v xs) (hl : xs.length < 9223372036854775808) (hx : ∀ x ∈ xs, -9223372036854775808 ≤ x ∧ x < 9223372036854775808)
    (hw : IntSl h w ys) (hl2 : ys.length < 9223372036854775808) (hx2 : ∀ x ∈ ys, -9223372036854775808 ≤ x ∧ x < 9223372036854775808) : ACall prog 6 [v, w] h fun r _ => r = .bool true := by
  have e22 : ((2 : Int) == 2) = true := rfl
  have e0 : ((0 : Int) == 0) = true := rfl
  have e66 : ((6 : Int) == 6) = true := rfl
  have n0 : ((0 : Int) != 0) = false := rfl
  have n6 : ((6 : Int) != 6) = false := rfl
  have a00 : addV .i64 0 0 = 0 := rfl
  have l0 : ∀ {K : Value → Prop}, lenK (.slice none 0 0) K = K (.int .i64 0) := fun {K} => rfl
  refine s6_callW (by simp) ?_
  simp only [s6]
  refine aws_cut fun N1 hN1 => ?_
  simp (config := {maxSteps := 2000000}) only [s6, ↓aw_region, ↓aw_skip, ↓aw_seq, ↓aw_block, ↓aw_exit, ↓aw_ret, ↓sops_nil, ↓sops_go, ↓dops_nil, ↓dopsX_nil, ↓dopsR_nil, ↓vdn, vup, extr_20, extr_21, extr_30, extr_31, extr_32, List.map_cons, List.map_nil, cond_true, cond_false, aop, aThen, aBlock, argEnv, ev, sput, sputO, binK, binI, unK, builtinK, pickK, Nat.reduceBEq, Nat.reduceAdd, Int.reduceBEq, Int.reduceBNe, Int.reduceLT, aPost, resK, tup, tyf]
  refine hN1 [(0, v), (1, w), (4, .bool false)] _ _ ?_ (by simp (config := {maxSteps := 2000000}) only [↓aw_region, ↓aw_skip, ↓aw_seq, ↓aw_block, ↓aw_exit, ↓aw_ret, ↓sops_nil, ↓sops_go, ↓dops_nil, ↓dopsX_nil, ↓dopsR_nil, ↓vdn, vup, extr_20, extr_21, extr_30, extr_31, extr_32, List.map_cons, List.map_nil, cond_true, cond_false, aop, aThen, aBlock, argEnv, ev, sput, sputO, binK, binI, unK, builtinK, pickK, Nat.reduceBEq, Nat.reduceAdd, Int.reduceBEq, Int.reduceBNe, Int.reduceLT, aPost, resK, tup, tyf])
  clear hN1
  try clear N1
  refine aws_cut fun N2 hN2 => ?_
  simp (config := {maxSteps := 2000000}) only [s6, ↓aw_region, ↓aw_skip, ↓aw_seq, ↓aw_block, ↓aw_exit, ↓aw_ret, ↓sops_nil, ↓sops_go, ↓dops_nil, ↓dopsX_nil, ↓dopsR_nil, ↓vdn, vup, extr_20, extr_21, extr_30, extr_31, extr_32, List.map_cons, List.map_nil, cond_true, cond_false, aop, aThen, aBlock, argEnv, ev, sput, sputO, binK, binI, unK, builtinK, pickK, Nat.reduceBEq, Nat.reduceAdd, Int.reduceBEq, Int.reduceBNe, Int.reduceLT, aPost, resK, tup, tyf, callK, List.nil_append, List.append_nil, List.toList_toArray, List.cons_append]
  refine (list_call hv hl).mono ?_
  rintro l1 _ ⟨hl1, g1, rfl⟩
  refine (list_call (hw.grow g1) hl2).mono ?_
  rintro l2 _ ⟨hm1, g2, rfl⟩
  refine (join_call (hl1.grow g2) (take80_len xs) (take80_rng hx) hm1 (take80_len ys) (take80_rng hx2)).mono ?_
  rintro r1 h1 ⟨hE1, hr1⟩
  obtain ⟨u1, e1, rfl, hc1⟩ := joinR_form (joinR_take hr1)
  simp (config := {maxSteps := 2000000}) only [s6, ↓aw_region, ↓aw_skip, ↓aw_seq, ↓aw_block, ↓aw_exit, ↓aw_ret, ↓sops_nil, ↓sops_go, ↓dops_nil, ↓dopsX_nil, ↓dopsR_nil, ↓vdn, vup, extr_20, extr_21, extr_30, extr_31, extr_32, List.map_cons, List.map_nil, cond_true, cond_false, aop, aThen, aBlock, argEnv, ev, sput, sputO, binK, binI, unK, builtinK, pickK, Nat.reduceBEq, Nat.reduceAdd, Int.reduceBEq, Int.reduceBNe, Int.reduceLT, aPost, resK, tup, tyf]
  refine hN2 [(0, v), (1, w), (4, .bool false), (5, u1), (6, .int .i64 e1)] _ _ ?_ (by simp (config := {maxSteps := 2000000}) only [↓aw_region, ↓aw_skip, ↓aw_seq, ↓aw_block, ↓aw_exit, ↓aw_ret, ↓sops_nil, ↓sops_go, ↓dops_nil, ↓dopsX_nil, ↓dopsR_nil, ↓vdn, vup, extr_20, extr_21, extr_30, extr_31, extr_32, List.map_cons, List.map_nil, cond_true, cond_false, aop, aThen, aBlock, argEnv, ev, sput, sputO, binK, binI, unK, builtinK, pickK, Nat.reduceBEq, Nat.reduceAdd, Int.reduceBEq, Int.reduceBNe, Int.reduceLT, aPost, resK, tup, tyf])
  clear hN2
  try clear N2
  have hE01 := ((Ext.app (fun _ => False) h g1).trans (Ext.app _ _ g2)).trans hE1
  have hv1 := IntSl_ext hv hE01
  have hw1 := IntSl_ext hw hE01
  clear hl1 hm1 hr1 hE1 hE01
  refine aws_cut fun N3 hN3 => ?_
  simp (config := {maxSteps := 2000000}) only [s6, ↓aw_region, ↓aw_skip, ↓aw_seq, ↓aw_block, ↓aw_exit, ↓aw_ret, ↓sops_nil, ↓sops_go, ↓dops_nil, ↓dopsX_nil, ↓dopsR_nil, ↓vdn, vup, extr_20, extr_21, extr_30, extr_31, extr_32, List.map_cons, List.map_nil, cond_true, cond_false, aop, aThen, aBlock, argEnv, ev, sput, sputO, binK, binI, unK, builtinK, pickK, Nat.reduceBEq, Nat.reduceAdd, Int.reduceBEq, Int.reduceBNe, Int.reduceLT, aPost, resK, tup, tyf, callK, List.nil_append, List.append_nil, List.toList_toArray, List.cons_append]
  refine (list_call hv1 hl).mono ?_
  rintro l3 _ ⟨hl3, g3, rfl⟩
  refine (list_call (hw1.grow g3) hl2).mono ?_
  rintro l4 _ ⟨hm3, g4, rfl⟩
  refine (sum_call (hl3.grow g4) (take80_len xs) (take80_rng hx) hm3 (take80_len ys) (take80_rng hx2)).mono ?_
  rintro r2 h2 ⟨hE2, hr2⟩
  obtain ⟨u2, e2, rfl, hc2⟩ := sumR_form (sumR_take hr2)
  simp (config := {maxSteps := 2000000}) only [s6, ↓aw_region, ↓aw_skip, ↓aw_seq, ↓aw_block, ↓aw_exit, ↓aw_ret, ↓sops_nil, ↓sops_go, ↓dops_nil, ↓dopsX_nil, ↓dopsR_nil, ↓vdn, vup, extr_20, extr_21, extr_30, extr_31, extr_32, List.map_cons, List.map_nil, cond_true, cond_false, aop, aThen, aBlock, argEnv, ev, sput, sputO, binK, binI, unK, builtinK, pickK, Nat.reduceBEq, Nat.reduceAdd, Int.reduceBEq, Int.reduceBNe, Int.reduceLT, aPost, resK, tup, tyf]
  refine hN3 [(0, v), (1, w), (4, .bool false), (5, u1), (6, .int .i64 e1), (7, u2), (8, .int .i64 e2)] _ _ ?_ (by simp (config := {maxSteps := 2000000}) only [↓aw_region, ↓aw_skip, ↓aw_seq, ↓aw_block, ↓aw_exit, ↓aw_ret, ↓sops_nil, ↓sops_go, ↓dops_nil, ↓dopsX_nil, ↓dopsR_nil, ↓vdn, vup, extr_20, extr_21, extr_30, extr_31, extr_32, List.map_cons, List.map_nil, cond_true, cond_false, aop, aThen, aBlock, argEnv, ev, sput, sputO, binK, binI, unK, builtinK, pickK, Nat.reduceBEq, Nat.reduceAdd, Int.reduceBEq, Int.reduceBNe, Int.reduceLT, aPost, resK, tup, tyf])
  clear hN3
  try clear N3
  have hE12 := ((Ext.app (fun _ => False) h1 g3).trans (Ext.app _ _ g4)).trans hE2
  have hv2 := IntSl_ext hv1 hE12
  have hw2 := IntSl_ext hw1 hE12
  clear hl3 hm3 hr2 hE2
  by_cases hok : grs xs = true ∧ grs ys = true
  · obtain ⟨hgx, hgy⟩ := hok
    have gx := grs_iff.1 hgx
    have gy := grs_iff.1 hgy
    have hb36 : xs.length * ys.length ≤ 6 * 6 := Nat.mul_le_mul gx.2.1 gy.2.1
    have hx6 := gx.2.1
    have hy6 := gy.2.1
    have hmul : mulV .i64 (xs.length : Int) (ys.length : Int) = ((xs.length * ys.length : Nat) : Int) := mulN (by omega)
    have hadd : addV .i64 (xs.length : Int) (ys.length : Int) = ((xs.length + ys.length : Nat) : Int) := by rw [addV_id (by omega) (by omega)]; omega
    refine aws_cut fun N4 hN4 => ?_
    simp (config := {maxSteps := 2000000}) only [s6, ↓aw_region, ↓aw_skip, ↓aw_seq, ↓aw_block, ↓aw_exit, ↓aw_ret, ↓sops_nil, ↓sops_go, ↓dops_nil, ↓dopsX_nil, ↓dopsR_nil, ↓vdn, vup, extr_20, extr_21, extr_30, extr_31, extr_32, List.map_cons, List.map_nil, cond_true, cond_false, aop, aThen, aBlock, argEnv, ev, sput, sputO, binK, binI, unK, builtinK, pickK, Nat.reduceBEq, Nat.reduceAdd, Int.reduceBEq, Int.reduceBNe, Int.reduceLT, aPost, resK, tup, tyf, callK, List.nil_append, List.append_nil, List.toList_toArray, List.cons_append]
    refine (rgraph_call hv2 hl hx).mono ?_
    rintro _ h2 ⟨rfl, rfl⟩
    simp (config := {maxSteps := 2000000}) only [s6, ↓aw_region, ↓aw_skip, ↓aw_seq, ↓aw_block, ↓aw_exit, ↓aw_ret, ↓sops_nil, ↓sops_go, ↓dops_nil, ↓dopsX_nil, ↓dopsR_nil, ↓vdn, vup, extr_20, extr_21, extr_30, extr_31, extr_32, List.map_cons, List.map_nil, cond_true, cond_false, aop, aThen, aBlock, argEnv, ev, sput, sputO, binK, binI, unK, builtinK, pickK, Nat.reduceBEq, Nat.reduceAdd, Int.reduceBEq, Int.reduceBNe, Int.reduceLT, aPost, resK, tup, tyf, callK, List.nil_append, List.append_nil, List.toList_toArray, List.cons_append, hgx, Bool.not_true]
    refine (rgraph_call hw2 hl2 hx2).mono ?_
    rintro _ h2 ⟨rfl, rfl⟩
    simp (config := {maxSteps := 2000000}) only [s6, ↓aw_region, ↓aw_skip, ↓aw_seq, ↓aw_block, ↓aw_exit, ↓aw_ret, ↓sops_nil, ↓sops_go, ↓dops_nil, ↓dopsX_nil, ↓dopsR_nil, ↓vdn, vup, extr_20, extr_21, extr_30, extr_31, extr_32, List.map_cons, List.map_nil, cond_true, cond_false, aop, aThen, aBlock, argEnv, ev, sput, sputO, binK, binI, unK, builtinK, pickK, Nat.reduceBEq, Nat.reduceAdd, Int.reduceBEq, Int.reduceBNe, Int.reduceLT, aPost, resK, tup, tyf, hgy, Bool.not_true]
    refine hN4 [(0, v), (1, w), (4, .bool false), (5, u1), (6, .int .i64 e1), (7, u2), (8, .int .i64 e2)] _ _ ?_ (by simp (config := {maxSteps := 2000000}) only [↓aw_region, ↓aw_skip, ↓aw_seq, ↓aw_block, ↓aw_exit, ↓aw_ret, ↓sops_nil, ↓sops_go, ↓dops_nil, ↓dopsX_nil, ↓dopsR_nil, ↓vdn, vup, extr_20, extr_21, extr_30, extr_31, extr_32, List.map_cons, List.map_nil, cond_true, cond_false, aop, aThen, aBlock, argEnv, ev, sput, sputO, binK, binI, unK, builtinK, pickK, Nat.reduceBEq, Nat.reduceAdd, Int.reduceBEq, Int.reduceBNe, Int.reduceLT, aPost, resK, tup, tyf])
    clear hN4
    try clear N4
    refine aws_cut fun M hM => ?_
    have go : ∀ H, Ext (fun _ => False) h2 H → ∀ e, ELe e [(0, v), (1, w), (4, .bool false), (7, u2), (8, .int .i64 e2)] → M e H := by
      intro H hEH e he
      refine hM [(0, v), (1, w), (4, .bool false), (7, u2), (8, .int .i64 e2)] _ _ ?_ he
      have hv3 := IntSl_ext hv2 hEH
      have hw3 := IntSl_ext hw2 hEH
      by_cases hs2 : xs.length + ys.length ≤ 6
      · have hng : ¬ (6 : Int) < ((xs.length + ys.length : Nat) : Int) := by omega
        obtain ⟨hu2, rfl⟩ : IntSl h2 u2 (sumL xs ys) ∧ e2 = 0 := by
          rcases hc2 with h | h | h
          · exact absurd ⟨hgx, hgy⟩ h.1
          · exact absurd hs2 h.2.1
          · exact h.2.2
        have hu3 := IntSl_ext hu2 hEH
        have hlen : (sumL xs ys).length < 9223372036854775808 := by rw [sumL_len]; omega
        have hd : decide (sumL xs ys = sumL xs ys) = true := decide_eq_true rfl
        refine aws_cut fun N5 hN5 => ?_
        simp (config := {maxSteps := 2000000}) only [s6, ↓aw_region, ↓aw_skip, ↓aw_seq, ↓aw_block, ↓aw_exit, ↓aw_ret, ↓sops_nil, ↓sops_go, ↓dops_nil, ↓dopsX_nil, ↓dopsR_nil, ↓vdn, vup, extr_20, extr_21, extr_30, extr_31, extr_32, List.map_cons, List.map_nil, cond_true, cond_false, aop, aThen, aBlock, argEnv, ev, sput, sputO, binK, binI, unK, builtinK, pickK, Nat.reduceBEq, Nat.reduceAdd, Int.reduceBEq, Int.reduceBNe, Int.reduceLT, aPost, resK, tup, tyf, hv3.len, hw3.len, hadd, gt_iff_lt, hng]
        refine hN5 [(0, v), (1, w), (4, .bool false), (7, u2), (8, .int .i64 0)] _ _ ?_ (by simp (config := {maxSteps := 2000000}) only [↓aw_region, ↓aw_skip, ↓aw_seq, ↓aw_block, ↓aw_exit, ↓aw_ret, ↓sops_nil, ↓sops_go, ↓dops_nil, ↓dopsX_nil, ↓dopsR_nil, ↓vdn, vup, extr_20, extr_21, extr_30, extr_31, extr_32, List.map_cons, List.map_nil, cond_true, cond_false, aop, aThen, aBlock, argEnv, ev, sput, sputO, binK, binI, unK, builtinK, pickK, Nat.reduceBEq, Nat.reduceAdd, Int.reduceBEq, Int.reduceBNe, Int.reduceLT, aPost, resK, tup, tyf])
        clear hN5
        try clear N5
        refine aw_aws ?_
        simp (config := {maxSteps := 2000000}) only [s6, ↓aw_region, ↓aw_skip, ↓aw_seq, ↓aw_block, ↓aw_exit, ↓aw_ret, ↓sops_nil, ↓sops_go, ↓dops_nil, ↓dopsX_nil, ↓dopsR_nil, ↓vdn, vup, extr_20, extr_21, extr_30, extr_31, extr_32, List.map_cons, List.map_nil, cond_true, cond_false, aop, aThen, aBlock, argEnv, ev, sput, sputO, binK, binI, unK, builtinK, pickK, Nat.reduceBEq, Nat.reduceAdd, Int.reduceBEq, Int.reduceBNe, Int.reduceLT, aPost, resK, tup, tyf, callK, List.nil_append, List.append_nil, List.toList_toArray, List.cons_append]
        refine (rsum_call hv3 hw3 gx gy).mono ?_
        rintro r5 h5 ⟨ho5, hE5⟩
        refine (equal_call (IntSl_ext hu3 hE5) ho5 hlen hlen).mono ?_
        rintro _ h5 ⟨rfl, rfl⟩
        simp (config := {maxSteps := 2000000}) only [s6, ↓aw_region, ↓aw_skip, ↓aw_seq, ↓aw_block, ↓aw_exit, ↓aw_ret, ↓sops_nil, ↓sops_go, ↓dops_nil, ↓dopsX_nil, ↓dopsR_nil, ↓vdn, vup, extr_20, extr_21, extr_30, extr_31, extr_32, List.map_cons, List.map_nil, cond_true, cond_false, aop, aThen, aBlock, argEnv, ev, sput, sputO, binK, binI, unK, builtinK, pickK, Nat.reduceBEq, Nat.reduceAdd, Int.reduceBEq, Int.reduceBNe, Int.reduceLT, aPost, resK, tup, tyf, callK, List.nil_append, List.append_nil, List.toList_toArray, List.cons_append, hd, e0]
        refine awk fun g _ => ?_
        simp (config := {maxSteps := 2000000}) only [s6, ↓aw_region, ↓aw_skip, ↓aw_seq, ↓aw_block, ↓aw_exit, ↓aw_ret, ↓sops_nil, ↓sops_go, ↓dops_nil, ↓dopsX_nil, ↓dopsR_nil, ↓vdn, vup, extr_20, extr_21, extr_30, extr_31, extr_32, List.map_cons, List.map_nil, cond_true, cond_false, aop, aThen, aBlock, argEnv, ev, sput, sputO, binK, binI, unK, builtinK, pickK, Nat.reduceBEq, Nat.reduceAdd, Int.reduceBEq, Int.reduceBNe, Int.reduceLT, aPost, resK, tup, tyf]
      · have hg6 : (6 : Int) < ((xs.length + ys.length : Nat) : Int) := by omega
        obtain ⟨rfl, rfl⟩ : u2 = .slice none 0 0 ∧ e2 = 6 := by
          rcases hc2 with h | h | h
          · exact absurd ⟨hgx, hgy⟩ h.1
          · exact h.2.2
          · exact absurd h.2.1 hs2
        refine aws_cut fun N6 hN6 => ?_
        simp (config := {maxSteps := 2000000}) only [s6, ↓aw_region, ↓aw_skip, ↓aw_seq, ↓aw_block, ↓aw_exit, ↓aw_ret, ↓sops_nil, ↓sops_go, ↓dops_nil, ↓dopsX_nil, ↓dopsR_nil, ↓vdn, vup, extr_20, extr_21, extr_30, extr_31, extr_32, List.map_cons, List.map_nil, cond_true, cond_false, aop, aThen, aBlock, argEnv, ev, sput, sputO, binK, binI, unK, builtinK, pickK, Nat.reduceBEq, Nat.reduceAdd, Int.reduceBEq, Int.reduceBNe, Int.reduceLT, aPost, resK, tup, tyf, callK, List.nil_append, List.append_nil, List.toList_toArray, List.cons_append, hv3.len, hw3.len, hadd, gt_iff_lt, hg6, l0, e0, e66]
        refine awk fun g _ => ?_
        simp (config := {maxSteps := 2000000}) only [s6, ↓aw_region, ↓aw_skip, ↓aw_seq, ↓aw_block, ↓aw_exit, ↓aw_ret, ↓sops_nil, ↓sops_go, ↓dops_nil, ↓dopsX_nil, ↓dopsR_nil, ↓vdn, vup, extr_20, extr_21, extr_30, extr_31, extr_32, List.map_cons, List.map_nil, cond_true, cond_false, aop, aThen, aBlock, argEnv, ev, sput, sputO, binK, binI, unK, builtinK, pickK, Nat.reduceBEq, Nat.reduceAdd, Int.reduceBEq, Int.reduceBNe, Int.reduceLT, aPost, resK, tup, tyf]
    by_cases hs1 : xs.length * ys.length ≤ 6
    · have hng : ¬ (6 : Int) < ((xs.length * ys.length : Nat) : Int) := by omega
      obtain ⟨hu1, rfl⟩ : IntSl h1 u1 (joinL xs ys) ∧ e1 = 0 := by
        rcases hc1 with h | h | h
        · exact absurd ⟨hgx, hgy⟩ h.1
        · exact absurd hs1 h.2.1
        · exact h.2.2
      have hu2 := IntSl_ext hu1 hE12
      have hlen : (joinL xs ys).length < 9223372036854775808 := by rw [joinL_len]; omega
      have hd : decide (joinL xs ys = joinL xs ys) = true := decide_eq_true rfl
      simp (config := {maxSteps := 2000000}) only [s6, ↓aw_region, ↓aw_skip, ↓aw_seq, ↓aw_block, ↓aw_exit, ↓aw_ret, ↓sops_nil, ↓sops_go, ↓dops_nil, ↓dopsX_nil, ↓dopsR_nil, ↓vdn, vup, extr_20, extr_21, extr_30, extr_31, extr_32, List.map_cons, List.map_nil, cond_true, cond_false, aop, aThen, aBlock, argEnv, ev, sput, sputO, binK, binI, unK, builtinK, pickK, Nat.reduceBEq, Nat.reduceAdd, Int.reduceBEq, Int.reduceBNe, Int.reduceLT, aPost, resK, tup, tyf, callK, List.nil_append, List.append_nil, List.toList_toArray, List.cons_append, hv2.len, hw2.len, hmul, gt_iff_lt, hng]
      refine (rjoin_call hv2 hw2 gx gy hs1).mono ?_
      rintro r5 h5 ⟨ho5, hE5⟩
      refine (equal_call (IntSl_ext hu2 hE5) ho5 hlen hlen).mono ?_
      rintro _ h5 ⟨rfl, rfl⟩
      simp (config := {maxSteps := 2000000}) only [s6, ↓aw_region, ↓aw_skip, ↓aw_seq, ↓aw_block, ↓aw_exit, ↓aw_ret, ↓sops_nil, ↓sops_go, ↓dops_nil, ↓dopsX_nil, ↓dopsR_nil, ↓vdn, vup, extr_20, extr_21, extr_30, extr_31, extr_32, List.map_cons, List.map_nil, cond_true, cond_false, aop, aThen, aBlock, argEnv, ev, sput, sputO, binK, binI, unK, builtinK, pickK, Nat.reduceBEq, Nat.reduceAdd, Int.reduceBEq, Int.reduceBNe, Int.reduceLT, aPost, resK, tup, tyf, hd, n0, Bool.not_true]
      exact go _ hE5 _ (by simp (config := {maxSteps := 2000000}) only [↓aw_region, ↓aw_skip, ↓aw_seq, ↓aw_block, ↓aw_exit, ↓aw_ret, ↓sops_nil, ↓sops_go, ↓dops_nil, ↓dopsX_nil, ↓dopsR_nil, ↓vdn, vup, extr_20, extr_21, extr_30, extr_31, extr_32, List.map_cons, List.map_nil, cond_true, cond_false, aop, aThen, aBlock, argEnv, ev, sput, sputO, binK, binI, unK, builtinK, pickK, Nat.reduceBEq, Nat.reduceAdd, Int.reduceBEq, Int.reduceBNe, Int.reduceLT, aPost, resK, tup, tyf])
    · have hg6 : (6 : Int) < ((xs.length * ys.length : Nat) : Int) := by omega
      obtain ⟨rfl, rfl⟩ : u1 = .slice none 0 0 ∧ e1 = 6 := by
        rcases hc1 with h | h | h
        · exact absurd ⟨hgx, hgy⟩ h.1
        · exact h.2.2
        · exact absurd h.2.1 hs1
      simp (config := {maxSteps := 2000000}) only [s6, ↓aw_region, ↓aw_skip, ↓aw_seq, ↓aw_block, ↓aw_exit, ↓aw_ret, ↓sops_nil, ↓sops_go, ↓dops_nil, ↓dopsX_nil, ↓dopsR_nil, ↓vdn, vup, extr_20, extr_21, extr_30, extr_31, extr_32, List.map_cons, List.map_nil, cond_true, cond_false, aop, aThen, aBlock, argEnv, ev, sput, sputO, binK, binI, unK, builtinK, pickK, Nat.reduceBEq, Nat.reduceAdd, Int.reduceBEq, Int.reduceBNe, Int.reduceLT, aPost, resK, tup, tyf, hv2.len, hw2.len, hmul, gt_iff_lt, hg6, l0, n0, n6]
      exact go _ (Ext.refl _ _) _ (by simp (config := {maxSteps := 2000000}) only [↓aw_region, ↓aw_skip, ↓aw_seq, ↓aw_block, ↓aw_exit, ↓aw_ret, ↓sops_nil, ↓sops_go, ↓dops_nil, ↓dopsX_nil, ↓dopsR_nil, ↓vdn, vup, extr_20, extr_21, extr_30, extr_31, extr_32, List.map_cons, List.map_nil, cond_true, cond_false, aop, aThen, aBlock, argEnv, ev, sput, sputO, binK, binI, unK, builtinK, pickK, Nat.reduceBEq, Nat.reduceAdd, Int.reduceBEq, Int.reduceBNe, Int.reduceLT, aPost, resK, tup, tyf])
  · obtain ⟨rfl, rfl⟩ : u1 = .slice none 0 0 ∧ e1 = 2 := by
      rcases hc1 with h | h | h
      · exact h.2
      · exact absurd h.1 hok
      · exact absurd h.1 hok
    obtain ⟨rfl, rfl⟩ : u2 = .slice none 0 0 ∧ e2 = 2 := by
      rcases hc2 with h | h | h
      · exact h.2
      · exact absurd h.1 hok
      · exact absurd h.1 hok
    refine aws_cut fun N7 hN7 => ?_
    simp (config := {maxSteps := 2000000}) only [s6, ↓aw_region, ↓aw_skip, ↓aw_seq, ↓aw_block, ↓aw_exit, ↓aw_ret, ↓sops_nil, ↓sops_go, ↓dops_nil, ↓dopsX_nil, ↓dopsR_nil, ↓vdn, vup, extr_20, extr_21, extr_30, extr_31, extr_32, List.map_cons, List.map_nil, cond_true, cond_false, aop, aThen, aBlock, argEnv, ev, sput, sputO, binK, binI, unK, builtinK, pickK, Nat.reduceBEq, Nat.reduceAdd, Int.reduceBEq, Int.reduceBNe, Int.reduceLT, aPost, resK, tup, tyf, callK, List.nil_append, List.append_nil, List.toList_toArray, List.cons_append]
    refine (rgraph_call hv2 hl hx).mono ?_
    rintro _ h2 ⟨rfl, rfl⟩
    cases hgx : grs xs with
    | false =>
      simp (config := {maxSteps := 2000000}) only [s6, ↓aw_region, ↓aw_skip, ↓aw_seq, ↓aw_block, ↓aw_exit, ↓aw_ret, ↓sops_nil, ↓sops_go, ↓dops_nil, ↓dopsX_nil, ↓dopsR_nil, ↓vdn, vup, extr_20, extr_21, extr_30, extr_31, extr_32, List.map_cons, List.map_nil, cond_true, cond_false, aop, aThen, aBlock, argEnv, ev, sput, sputO, binK, binI, unK, builtinK, pickK, Nat.reduceBEq, Nat.reduceAdd, Int.reduceBEq, Int.reduceBNe, Int.reduceLT, aPost, resK, tup, tyf, callK, List.nil_append, List.append_nil, List.toList_toArray, List.cons_append, hgx, Bool.not_false, l0, a00, e0, e22]
      refine awk fun g _ => ?_
      simp (config := {maxSteps := 2000000}) only [s6, ↓aw_region, ↓aw_skip, ↓aw_seq, ↓aw_block, ↓aw_exit, ↓aw_ret, ↓sops_nil, ↓sops_go, ↓dops_nil, ↓dopsX_nil, ↓dopsR_nil, ↓vdn, vup, extr_20, extr_21, extr_30, extr_31, extr_32, List.map_cons, List.map_nil, cond_true, cond_false, aop, aThen, aBlock, argEnv, ev, sput, sputO, binK, binI, unK, builtinK, pickK, Nat.reduceBEq, Nat.reduceAdd, Int.reduceBEq, Int.reduceBNe, Int.reduceLT, aPost, resK, tup, tyf]
    | true =>
      have hgy : grs ys = false := by
        cases h : grs ys with
        | false => rfl
        | true => exact absurd ⟨hgx, h⟩ hok
      simp (config := {maxSteps := 2000000}) only [s6, ↓aw_region, ↓aw_skip, ↓aw_seq, ↓aw_block, ↓aw_exit, ↓aw_ret, ↓sops_nil, ↓sops_go, ↓dops_nil, ↓dopsX_nil, ↓dopsR_nil, ↓vdn, vup, extr_20, extr_21, extr_30, extr_31, extr_32, List.map_cons, List.map_nil, cond_true, cond_false, aop, aThen, aBlock, argEnv, ev, sput, sputO, binK, binI, unK, builtinK, pickK, Nat.reduceBEq, Nat.reduceAdd, Int.reduceBEq, Int.reduceBNe, Int.reduceLT, aPost, resK, tup, tyf, callK, List.nil_append, List.append_nil, List.toList_toArray, List.cons_append, hgx, Bool.not_true]
      refine (rgraph_call hw2 hl2 hx2).mono ?_
      rintro _ h2 ⟨rfl, rfl⟩
      simp (config := {maxSteps := 2000000}) only [s6, ↓aw_region, ↓aw_skip, ↓aw_seq, ↓aw_block, ↓aw_exit, ↓aw_ret, ↓sops_nil, ↓sops_go, ↓dops_nil, ↓dopsX_nil, ↓dopsR_nil, ↓vdn, vup, extr_20, extr_21, extr_30, extr_31, extr_32, List.map_cons, List.map_nil, cond_true, cond_false, aop, aThen, aBlock, argEnv, ev, sput, sputO, binK, binI, unK, builtinK, pickK, Nat.reduceBEq, Nat.reduceAdd, Int.reduceBEq, Int.reduceBNe, Int.reduceLT, aPost, resK, tup, tyf, callK, List.nil_append, List.append_nil, List.toList_toArray, List.cons_append, hgy, Bool.not_false, l0, a00, e0, e22]
      refine awk fun g _ => ?_
      simp (config := {maxSteps := 2000000}) only [s6, ↓aw_region, ↓aw_skip, ↓aw_seq, ↓aw_block, ↓aw_exit, ↓aw_ret, ↓sops_nil, ↓sops_go, ↓dops_nil, ↓dopsX_nil, ↓dopsR_nil, ↓vdn, vup, extr_20, extr_21, extr_30, extr_31, extr_32, List.map_cons, List.map_nil, cond_true, cond_false, aop, aThen, aBlock, argEnv, ev, sput, sputO, binK, binI, unK, builtinK, pickK, Nat.reduceBEq, Nat.reduceAdd, Int.reduceBEq, Int.reduceBNe, Int.reduceLT, aPost, resK, tup, tyf]
end Go.Proofs.Tryd.Am

namespace Go.Proofs.Tryd.Am
open Go.Am Sr
set_option maxRecDepth 100000
set_option maxHeartbeats 1000000

theorem mk_congr {p q : Nat → Bool} : ∀ m, (∀ b, b < m → p b = q b) → mk p m = mk q m
  | 0, _ => rfl
  | m + 1, h => by rw [mk, mk, mk_congr m fun b hb => h b (by omega), h m (by omega)]
theorem gb_mat {p : Nat → Nat → Bool} {m i j : Nat} (hi : i < m) : gb (iL (mat p m)) i j = (decide (j < m) && (i != j && p i j)) := by
  have e : (iL (mat p m)).getD i 0 = ((rwM p i m : Nat) : Int) := by
    rw [iL_get, mat, List.getD, List.getElem?_map, List.getElem?_range hi]; rfl
  rw [gb, e, Int.toNat_natCast, rwM, mk_bit]
theorem mat_gs {p : Nat → Nat → Bool} {m : Nat} (h1 : 1 ≤ m) (h6 : m ≤ 6) (hp : ∀ i j, i < m → j < m → p i j = p j i) : Gs (iL (mat p m)) := by
  have hl : (iL (mat p m)).length = m := by rw [iL_len, mat_len]
  refine ⟨by rw [hl]; exact h1, by rw [hl]; exact h6, fun i hi => ?_⟩
  rw [hl] at hi ⊢
  have e : (iL (mat p m)).getD i 0 = ((rwM p i m : Nat) : Int) := by
    rw [iL_get, mat, List.getD, List.getElem?_map, List.getElem?_range hi]; rfl
  refine ⟨?_, ?_, fun j hj => ?_⟩
  · have := rwM_lt p i m
    have h2 : ((2 ^ m : Nat) : Int) = (2 : Int) ^ m := by simp
    rw [e, ← h2]
    generalize 2 ^ m = z at this
    omega
  · rw [gb_mat hi]; simp
  · rw [gb_mat hi, gb_mat hj, hp i j hi hj]
    have : (i != j) = (j != i) := bne_comm
    rw [this]; simp [hi, hj]
theorem nq_self (xs : List Int) (i : Nat) : nq xs i i = true := by simp [nq]
theorem nq_comm {xs : List Int} (g : Gs xs) {i j : Nat} (hi : i < xs.length) (hj : j < xs.length) : nq xs i j = nq xs j i := by
  rw [nq, nq, (g.2.2 i hi).2.2 j hj]
  have : (i == j) = (j == i) := Bool.beq_comm
  rw [this]
section
variable {xs ys : List Int}
theorem jp_comm (gx : Gs xs) (gy : Gs ys) {i j : Nat} (hi : i < xs.length * ys.length) (hj : j < xs.length * ys.length) : jp xs ys i j = jp xs ys j i := by
  have d : ∀ {t}, t < xs.length * ys.length → t / ys.length < xs.length := fun h => Nat.div_lt_of_lt_mul (by rw [Nat.mul_comm]; exact h)
  rw [jp, jp, nq_comm gx (d hi) (d hj), nq_comm gy (Nat.mod_lt _ gy.1) (Nat.mod_lt _ gy.1)]
theorem joinL_gs (gx : Gs xs) (gy : Gs ys) (h6 : xs.length * ys.length ≤ 6) : Gs (joinL xs ys) :=
  mat_gs (Nat.mul_pos gx.1 gy.1) h6 fun _ _ hi hj => jp_comm gx gy hi hj
end
section
variable {xs : List Int}
theorem wn_pair : wn (joinL xs xs) 1 = wn xs 2 := by rw [wn, wn, joinL_len, Nat.pow_one, Nat.pow_two]
theorem cf_pair (g : Gs xs) {a b : Nat} (ha : a < wn xs 2) (hb : b < wn xs 2) : cf (joinL xs xs) 1 a b = cf xs 2 a b := by
  have h0 := g.1
  rw [wn, Nat.pow_two] at ha hb
  have da : a / xs.length < xs.length := Nat.div_lt_of_lt_mul ha
  have db : b / xs.length < xs.length := Nat.div_lt_of_lt_mul hb
  rw [cf, cf, cf, cf, cf, joinL_len, Nat.mod_eq_of_lt ha, Nat.mod_eq_of_lt hb, Nat.mod_eq_of_lt da, Nat.mod_eq_of_lt db, joinL, gb_mat ha, jp, nq, nq]
  by_cases h : a = b
  · subst h; simp
  · have h2 : (a == b) = false := beq_eq_false_iff_ne.2 h
    rw [bne, h2, decide_eq_true hb, Bool.and_comm]
    simp
    exact Bool.and_comm _ _
theorem near_pair (g : Gs xs) : nearL (joinL xs xs) 1 = nearL xs 2 := by
  rw [nearL, nearL, wn_pair]
  refine List.map_congr_left fun a ha => ?_
  rw [nearW, nearW, wn_pair]
  exact mk_congr _ fun b hb => by rw [cf_pair g (List.mem_range.1 ha) hb]
theorem code_pair (g : Gs xs) (c : List Int) : code (joinL xs xs) 1 c = code xs 2 c := by
  rw [Bool.eq_iff_iff, code_iff, code_iff, wn_pair]
  constructor
  · intro h i hi
    obtain ⟨a, b, d, e⟩ := h i hi
    refine ⟨a, b, d, fun j hj => ?_⟩
    have := h j (by omega)
    rw [← cf_pair g (by omega) (by omega)]; exact e j hj
  · intro h i hi
    obtain ⟨a, b, d, e⟩ := h i hi
    refine ⟨a, b, d, fun j hj => ?_⟩
    have := h j (by omega)
    rw [cf_pair g (by omega) (by omega)]; exact e j hj
end

theorem s7_callW [Tabs Tryd.prog] {args : List Value} {h : Heap} {Q : Value → Heap → Prop} (hsz : args.length ≤ 88) (hk : AWS Tryd.prog 88 s7 (aPost Tryd.prog [.tmp 4] Q) (argEnv 0 args) h) : ACall Tryd.prog 7 args h Q :=
  acall_w Tryd.func7 rfl (enters_of Tryd.func7 (by kernel_rfl) rfl) rfl rfl (by decide) s7_strip s7_ok hsz hk
theorem law_pairs [BitTab prog 0] {h : Heap} {v cv : Value} {xs cs : List Int} (hv : IntSl h v xs) (hl : xs.length < 9223372036854775808) (hx : ∀ x ∈ xs, -9223372036854775808 ≤ x ∧ x < 9223372036854775808)
    (hc : IntSl h cv cs) (hcl : cs.length < 9223372036854775808) (hcx : ∀ x ∈ cs, -9223372036854775808 ≤ x ∧ x < 9223372036854775808) : ACall prog 7 [v, cv] h fun r _ => r = .bool true := by
  have e22 : ((2 : Int) == 2) = true := rfl
  have e0 : ((0 : Int) == 0) = true := rfl
  have e66 : ((6 : Int) == 6) = true := rfl
  have n0 : ((0 : Int) != 0) = false := rfl
  refine s7_callW (by simp) ?_
  simp only [s7]
  refine aws_cut fun N1 hN1 => ?_
  simp (config := {maxSteps := 2000000}) only [s7, ↓aw_region, ↓aw_skip, ↓aw_seq, ↓aw_block, ↓aw_exit, ↓aw_ret, ↓sops_nil, ↓sops_go, ↓dops_nil, ↓dopsX_nil, ↓dopsR_nil, ↓vdn, vup, extr_20, extr_21, extr_30, extr_31, extr_32, List.map_cons, List.map_nil, cond_true, cond_false, aop, aThen, aBlock, argEnv, ev, sput, sputO, binK, binI, unK, builtinK, pickK, Nat.reduceBEq, Nat.reduceAdd, Int.reduceBEq, Int.reduceBNe, Int.reduceLT, aPost, resK, tup, tyf]
  refine hN1 [(0, v), (1, cv), (4, .bool false)] _ _ ?_ (by simp (config := {maxSteps := 2000000}) only [↓aw_region, ↓aw_skip, ↓aw_seq, ↓aw_block, ↓aw_exit, ↓aw_ret, ↓sops_nil, ↓sops_go, ↓dops_nil, ↓dopsX_nil, ↓dopsR_nil, ↓vdn, vup, extr_20, extr_21, extr_30, extr_31, extr_32, List.map_cons, List.map_nil, cond_true, cond_false, aop, aThen, aBlock, argEnv, ev, sput, sputO, binK, binI, unK, builtinK, pickK, Nat.reduceBEq, Nat.reduceAdd, Int.reduceBEq, Int.reduceBNe, Int.reduceLT, aPost, resK, tup, tyf])
  clear hN1
  try clear N1
  refine aws_cut fun N2 hN2 => ?_
  simp (config := {maxSteps := 2000000}) only [s7, ↓aw_region, ↓aw_skip, ↓aw_seq, ↓aw_block, ↓aw_exit, ↓aw_ret, ↓sops_nil, ↓sops_go, ↓dops_nil, ↓dopsX_nil, ↓dopsR_nil, ↓vdn, vup, extr_20, extr_21, extr_30, extr_31, extr_32, List.map_cons, List.map_nil, cond_true, cond_false, aop, aThen, aBlock, argEnv, ev, sput, sputO, binK, binI, unK, builtinK, pickK, Nat.reduceBEq, Nat.reduceAdd, Int.reduceBEq, Int.reduceBNe, Int.reduceLT, aPost, resK, tup, tyf, callK, List.nil_append, List.append_nil, List.toList_toArray, List.cons_append]
  refine (list_call hv hl).mono ?_
  rintro l1 _ ⟨hl1, g1, rfl⟩
  refine (list_call (hv.grow g1) hl).mono ?_
  rintro l2 _ ⟨hm1, g2, rfl⟩
  refine (join_call (hl1.grow g2) (take80_len xs) (take80_rng hx) hm1 (take80_len xs) (take80_rng hx)).mono ?_
  rintro r1 h1 ⟨hE1, hr1⟩
  obtain ⟨u1, e1, rfl, hc1⟩ := joinR_form (joinR_take hr1)
  simp (config := {maxSteps := 2000000}) only [s7, ↓aw_region, ↓aw_skip, ↓aw_seq, ↓aw_block, ↓aw_exit, ↓aw_ret, ↓sops_nil, ↓sops_go, ↓dops_nil, ↓dopsX_nil, ↓dopsR_nil, ↓vdn, vup, extr_20, extr_21, extr_30, extr_31, extr_32, List.map_cons, List.map_nil, cond_true, cond_false, aop, aThen, aBlock, argEnv, ev, sput, sputO, binK, binI, unK, builtinK, pickK, Nat.reduceBEq, Nat.reduceAdd, Int.reduceBEq, Int.reduceBNe, Int.reduceLT, aPost, resK, tup, tyf]
  refine hN2 [(0, v), (1, cv), (4, .bool false), (5, u1), (6, .int .i64 e1)] _ _ ?_ (by simp (config := {maxSteps := 2000000}) only [↓aw_region, ↓aw_skip, ↓aw_seq, ↓aw_block, ↓aw_exit, ↓aw_ret, ↓sops_nil, ↓sops_go, ↓dops_nil, ↓dopsX_nil, ↓dopsR_nil, ↓vdn, vup, extr_20, extr_21, extr_30, extr_31, extr_32, List.map_cons, List.map_nil, cond_true, cond_false, aop, aThen, aBlock, argEnv, ev, sput, sputO, binK, binI, unK, builtinK, pickK, Nat.reduceBEq, Nat.reduceAdd, Int.reduceBEq, Int.reduceBNe, Int.reduceLT, aPost, resK, tup, tyf])
  clear hN2
  try clear N2
  have hE01 := ((Ext.app (fun _ => False) h g1).trans (Ext.app _ _ g2)).trans hE1
  have hv1 := IntSl_ext hv hE01
  have hc2 := IntSl_ext hc hE01
  clear hl1 hm1 hr1 hE1 hE01
  by_cases hok : (grs xs = true ∧ grs xs = true) ∧ xs.length * xs.length ≤ 6
  · obtain ⟨hu1, rfl⟩ : IntSl h1 u1 (joinL xs xs) ∧ e1 = 0 := by
      rcases hc1 with h | h | h
      · exact absurd hok.1 h.1
      · exact absurd hok.2 h.2.1
      · exact h.2.2
    obtain ⟨⟨hg, _⟩, h6⟩ := hok
    have g := grs_iff.1 hg
    have gJ := joinL_gs g g h6
    have hgJ := grs_iff.2 gJ
    have hJl := joinL_len xs xs
    have hJx : ∀ x ∈ joinL xs xs, -9223372036854775808 ≤ x ∧ x < 9223372036854775808 := fun x hm => by
      obtain ⟨i, hi, rfl⟩ := List.getElem_of_mem hm
      have := gs_lt gJ hi
      rw [List.getD, List.getElem?_eq_getElem hi, Option.getD_some] at this
      omega
    have hw2 : wn xs 2 ≤ 64 := by rw [wn, Nat.pow_two]; omega
    have hw1 : wn (joinL xs xs) 1 ≤ 64 := by rw [wn_pair]; exact hw2
    have k2 : Okk xs 2 := ⟨hg, by decide, by decide⟩
    have k1 : Okk (joinL xs xs) 1 := ⟨hgJ, by decide, by decide⟩
    have hnp := near_pair g
    have hcp := code_pair g
    have hclen : ((codeL (nearL xs 2)).map Int.ofNat).length < 9223372036854775808 := by
      have := (cAt_inv (nearL_gr g hw2) (nearL xs 2).length).2.2
      rw [List.length_map, codeL]
      rw [nearL_len] at this
      rw [nearL_len]; omega
    generalize joinL xs xs = J at hu1 gJ hgJ hJl hJx hw1 k1 hnp hcp
    refine aws_cut fun N3 hN3 => ?_
    simp (config := {maxSteps := 2000000}) only [s7, ↓aw_region, ↓aw_skip, ↓aw_seq, ↓aw_block, ↓aw_exit, ↓aw_ret, ↓sops_nil, ↓sops_go, ↓dops_nil, ↓dopsX_nil, ↓dopsR_nil, ↓vdn, vup, extr_20, extr_21, extr_30, extr_31, extr_32, List.map_cons, List.map_nil, cond_true, cond_false, aop, aThen, aBlock, argEnv, ev, sput, sputO, binK, binI, unK, builtinK, pickK, Nat.reduceBEq, Nat.reduceAdd, Int.reduceBEq, Int.reduceBNe, Int.reduceLT, aPost, resK, tup, tyf, n0]
    refine hN3 [(0, v), (1, cv), (4, .bool false), (5, u1)] _ _ ?_ (by simp (config := {maxSteps := 2000000}) only [↓aw_region, ↓aw_skip, ↓aw_seq, ↓aw_block, ↓aw_exit, ↓aw_ret, ↓sops_nil, ↓sops_go, ↓dops_nil, ↓dopsX_nil, ↓dopsR_nil, ↓vdn, vup, extr_20, extr_21, extr_30, extr_31, extr_32, List.map_cons, List.map_nil, cond_true, cond_false, aop, aThen, aBlock, argEnv, ev, sput, sputO, binK, binI, unK, builtinK, pickK, Nat.reduceBEq, Nat.reduceAdd, Int.reduceBEq, Int.reduceBNe, Int.reduceLT, aPost, resK, tup, tyf])
    clear hN3
    try clear N3
    refine aws_cut fun N4 hN4 => ?_
    simp (config := {maxSteps := 2000000}) only [s7, ↓aw_region, ↓aw_skip, ↓aw_seq, ↓aw_block, ↓aw_exit, ↓aw_ret, ↓sops_nil, ↓sops_go, ↓dops_nil, ↓dopsX_nil, ↓dopsR_nil, ↓vdn, vup, extr_20, extr_21, extr_30, extr_31, extr_32, List.map_cons, List.map_nil, cond_true, cond_false, aop, aThen, aBlock, argEnv, ev, sput, sputO, binK, binI, unK, builtinK, pickK, Nat.reduceBEq, Nat.reduceAdd, Int.reduceBEq, Int.reduceBNe, Int.reduceLT, aPost, resK, tup, tyf, callK, List.nil_append, List.append_nil, List.toList_toArray, List.cons_append]
    refine (list_call hv1 hl).mono ?_
    rintro l3 _ ⟨hl3, g3, rfl⟩
    refine (code_call (k := 2) hl3 (take80_len xs) (take80_rng hx)).mono ?_
    rintro r2 h2 ⟨hE2, hr2⟩
    obtain ⟨w1, x1, rfl, hc3⟩ := codeR_form (codeR_take hr2)
    obtain ⟨ho1, rfl⟩ : OwnSl 3 h2 w1 ((codeL (nearL xs 2)).map Int.ofNat) ∧ x1 = 0 := by
      rcases hc3 with h | h | h
      · exact absurd k2 h.1
      · exact absurd hw2 h.2.1
      · exact h.2.2
    simp (config := {maxSteps := 2000000}) only [s7, ↓aw_region, ↓aw_skip, ↓aw_seq, ↓aw_block, ↓aw_exit, ↓aw_ret, ↓sops_nil, ↓sops_go, ↓dops_nil, ↓dopsX_nil, ↓dopsR_nil, ↓vdn, vup, extr_20, extr_21, extr_30, extr_31, extr_32, List.map_cons, List.map_nil, cond_true, cond_false, aop, aThen, aBlock, argEnv, ev, sput, sputO, binK, binI, unK, builtinK, pickK, Nat.reduceBEq, Nat.reduceAdd, Int.reduceBEq, Int.reduceBNe, Int.reduceLT, aPost, resK, tup, tyf]
    refine hN4 [(0, v), (1, cv), (4, .bool false), (5, u1), (7, w1), (8, .int .i64 0)] _ _ ?_ (by simp (config := {maxSteps := 2000000}) only [↓aw_region, ↓aw_skip, ↓aw_seq, ↓aw_block, ↓aw_exit, ↓aw_ret, ↓sops_nil, ↓sops_go, ↓dops_nil, ↓dopsX_nil, ↓dopsR_nil, ↓vdn, vup, extr_20, extr_21, extr_30, extr_31, extr_32, List.map_cons, List.map_nil, cond_true, cond_false, aop, aThen, aBlock, argEnv, ev, sput, sputO, binK, binI, unK, builtinK, pickK, Nat.reduceBEq, Nat.reduceAdd, Int.reduceBEq, Int.reduceBNe, Int.reduceLT, aPost, resK, tup, tyf])
    clear hN4
    try clear N4
    have hE12 := (Ext.app (fun _ => False) h1 g3).trans hE2
    have hv2 := IntSl_ext hv1 hE12
    have hcv2 := IntSl_ext hc2 hE12
    have hu2 := IntSl_ext hu1 hE12
    clear hl3 hr2 hE2 hE12 hc3 hv1 hc2 hu1
    refine aws_cut fun N5 hN5 => ?_
    simp (config := {maxSteps := 2000000}) only [s7, ↓aw_region, ↓aw_skip, ↓aw_seq, ↓aw_block, ↓aw_exit, ↓aw_ret, ↓sops_nil, ↓sops_go, ↓dops_nil, ↓dopsX_nil, ↓dopsR_nil, ↓vdn, vup, extr_20, extr_21, extr_30, extr_31, extr_32, List.map_cons, List.map_nil, cond_true, cond_false, aop, aThen, aBlock, argEnv, ev, sput, sputO, binK, binI, unK, builtinK, pickK, Nat.reduceBEq, Nat.reduceAdd, Int.reduceBEq, Int.reduceBNe, Int.reduceLT, aPost, resK, tup, tyf, callK, List.nil_append, List.append_nil, List.toList_toArray, List.cons_append]
    refine (clone_call hu2 (by omega)).mono ?_
    rintro l4 _ ⟨hl4, g4, rfl⟩
    refine (code_call (k := 1) hl4 (by omega) hJx).mono ?_
    rintro r3 h3 ⟨hE3, hr3⟩
    obtain ⟨w2, x2, rfl, hc4⟩ := codeR_form hr3
    obtain ⟨ho2, rfl⟩ : OwnSl 3 h3 w2 ((codeL (nearL J 1)).map Int.ofNat) ∧ x2 = 0 := by
      rcases hc4 with h | h | h
      · exact absurd k1 h.1
      · exact absurd hw1 h.2.1
      · exact h.2.2
    rw [hnp] at ho2
    simp (config := {maxSteps := 2000000}) only [s7, ↓aw_region, ↓aw_skip, ↓aw_seq, ↓aw_block, ↓aw_exit, ↓aw_ret, ↓sops_nil, ↓sops_go, ↓dops_nil, ↓dopsX_nil, ↓dopsR_nil, ↓vdn, vup, extr_20, extr_21, extr_30, extr_31, extr_32, List.map_cons, List.map_nil, cond_true, cond_false, aop, aThen, aBlock, argEnv, ev, sput, sputO, binK, binI, unK, builtinK, pickK, Nat.reduceBEq, Nat.reduceAdd, Int.reduceBEq, Int.reduceBNe, Int.reduceLT, aPost, resK, tup, tyf]
    refine hN5 [(0, v), (1, cv), (4, .bool false), (5, u1), (7, w1), (8, .int .i64 0), (9, w2), (10, .int .i64 0)] _ _ ?_ (by simp (config := {maxSteps := 2000000}) only [↓aw_region, ↓aw_skip, ↓aw_seq, ↓aw_block, ↓aw_exit, ↓aw_ret, ↓sops_nil, ↓sops_go, ↓dops_nil, ↓dopsX_nil, ↓dopsR_nil, ↓vdn, vup, extr_20, extr_21, extr_30, extr_31, extr_32, List.map_cons, List.map_nil, cond_true, cond_false, aop, aThen, aBlock, argEnv, ev, sput, sputO, binK, binI, unK, builtinK, pickK, Nat.reduceBEq, Nat.reduceAdd, Int.reduceBEq, Int.reduceBNe, Int.reduceLT, aPost, resK, tup, tyf])
    clear hN5
    try clear N5
    have hE23 := (Ext.app (fun _ => False) h2 g4).trans hE3
    have hv3 := IntSl_ext hv2 hE23
    have hcv3 := IntSl_ext hcv2 hE23
    have hu3 := IntSl_ext hu2 hE23
    have hp3 := IntSl_ext ho1.int hE23
    clear hl4 hr3 hE3 hE23 hc4 hv2 hcv2 hu2 ho1
    refine aws_cut fun N6 hN6 => ?_
    simp (config := {maxSteps := 2000000}) only [s7, ↓aw_region, ↓aw_skip, ↓aw_seq, ↓aw_block, ↓aw_exit, ↓aw_ret, ↓sops_nil, ↓sops_go, ↓dops_nil, ↓dopsX_nil, ↓dopsR_nil, ↓vdn, vup, extr_20, extr_21, extr_30, extr_31, extr_32, List.map_cons, List.map_nil, cond_true, cond_false, aop, aThen, aBlock, argEnv, ev, sput, sputO, binK, binI, unK, builtinK, pickK, Nat.reduceBEq, Nat.reduceAdd, Int.reduceBEq, Int.reduceBNe, Int.reduceLT, aPost, resK, tup, tyf, callK, List.nil_append, List.append_nil, List.toList_toArray, List.cons_append]
    refine (list_call hv3 hl).mono ?_
    rintro l5 _ ⟨hl5, g5, rfl⟩
    refine (list_call (hcv3.grow g5) hcl).mono ?_
    rintro l6 _ ⟨hl6, g6, rfl⟩
    refine (codes_call (k := 2) (hl5.grow g6) (take80_len xs) (take80_rng hx) hl6 (take80_len cs) (take80_rng hcx)).mono ?_
    rintro r4 h4 ⟨hE4, rfl⟩
    rw [codesR_take]
    obtain ⟨b1, y1, hr4, hc5⟩ := codesR_form xs 2 cs
    obtain ⟨rfl, rfl⟩ : b1 = code xs 2 cs ∧ y1 = 0 := by
      rcases hc5 with h | h | h
      · exact absurd k2 h.1
      · exact absurd hw2 h.2.1
      · exact h.2.2
    rw [hr4]
    simp (config := {maxSteps := 2000000}) only [s7, ↓aw_region, ↓aw_skip, ↓aw_seq, ↓aw_block, ↓aw_exit, ↓aw_ret, ↓sops_nil, ↓sops_go, ↓dops_nil, ↓dopsX_nil, ↓dopsR_nil, ↓vdn, vup, extr_20, extr_21, extr_30, extr_31, extr_32, List.map_cons, List.map_nil, cond_true, cond_false, aop, aThen, aBlock, argEnv, ev, sput, sputO, binK, binI, unK, builtinK, pickK, Nat.reduceBEq, Nat.reduceAdd, Int.reduceBEq, Int.reduceBNe, Int.reduceLT, aPost, resK, tup, tyf]
    refine hN6 [(0, v), (1, cv), (4, .bool false), (5, u1), (7, w1), (8, .int .i64 0), (9, w2), (10, .int .i64 0), (11, .bool (code xs 2 cs)), (12, .int .i64 0)] _ _ ?_ (by simp (config := {maxSteps := 2000000}) only [↓aw_region, ↓aw_skip, ↓aw_seq, ↓aw_block, ↓aw_exit, ↓aw_ret, ↓sops_nil, ↓sops_go, ↓dops_nil, ↓dopsX_nil, ↓dopsR_nil, ↓vdn, vup, extr_20, extr_21, extr_30, extr_31, extr_32, List.map_cons, List.map_nil, cond_true, cond_false, aop, aThen, aBlock, argEnv, ev, sput, sputO, binK, binI, unK, builtinK, pickK, Nat.reduceBEq, Nat.reduceAdd, Int.reduceBEq, Int.reduceBNe, Int.reduceLT, aPost, resK, tup, tyf])
    clear hN6
    try clear N6
    have hE34 := ((Ext.app (fun _ => False) h3 g5).trans (Ext.app _ _ g6)).trans hE4
    have hcv4 := IntSl_ext hcv3 hE34
    have hu4 := IntSl_ext hu3 hE34
    have hp4 := IntSl_ext hp3 hE34
    have hq4 := IntSl_ext ho2.int hE34
    clear hl5 hl6 hE4 hE34 hc5 hr4 hv3 hcv3 hu3 hp3 ho2
    refine aws_cut fun N7 hN7 => ?_
    simp (config := {maxSteps := 2000000}) only [s7, ↓aw_region, ↓aw_skip, ↓aw_seq, ↓aw_block, ↓aw_exit, ↓aw_ret, ↓sops_nil, ↓sops_go, ↓dops_nil, ↓dopsX_nil, ↓dopsR_nil, ↓vdn, vup, extr_20, extr_21, extr_30, extr_31, extr_32, List.map_cons, List.map_nil, cond_true, cond_false, aop, aThen, aBlock, argEnv, ev, sput, sputO, binK, binI, unK, builtinK, pickK, Nat.reduceBEq, Nat.reduceAdd, Int.reduceBEq, Int.reduceBNe, Int.reduceLT, aPost, resK, tup, tyf, callK, List.nil_append, List.append_nil, List.toList_toArray, List.cons_append]
    refine (list_call hcv4 hcl).mono ?_
    rintro l7 _ ⟨hl7, g7, rfl⟩
    refine (codes_call (k := 1) (hu4.grow g7) (by omega) hJx hl7 (take80_len cs) (take80_rng hcx)).mono ?_
    rintro r5 h5 ⟨hE5, rfl⟩
    obtain ⟨b2, y2, hr5, hc6⟩ := codesR_form J 1 (cs.take 80)
    obtain ⟨rfl, rfl⟩ : b2 = code J 1 (cs.take 80) ∧ y2 = 0 := by
      rcases hc6 with h | h | h
      · exact absurd k1 h.1
      · exact absurd hw1 h.2.1
      · exact h.2.2
    rw [hr5, hcp, code_take (by omega)]
    simp (config := {maxSteps := 2000000}) only [s7, ↓aw_region, ↓aw_skip, ↓aw_seq, ↓aw_block, ↓aw_exit, ↓aw_ret, ↓sops_nil, ↓sops_go, ↓dops_nil, ↓dopsX_nil, ↓dopsR_nil, ↓vdn, vup, extr_20, extr_21, extr_30, extr_31, extr_32, List.map_cons, List.map_nil, cond_true, cond_false, aop, aThen, aBlock, argEnv, ev, sput, sputO, binK, binI, unK, builtinK, pickK, Nat.reduceBEq, Nat.reduceAdd, Int.reduceBEq, Int.reduceBNe, Int.reduceLT, aPost, resK, tup, tyf]
    refine hN7 [(0, v), (1, cv), (4, .bool false), (5, u1), (7, w1), (8, .int .i64 0), (9, w2), (10, .int .i64 0), (11, .bool (code xs 2 cs)), (12, .int .i64 0), (13, .bool (code xs 2 cs)), (14, .int .i64 0)] _ _ ?_ (by simp (config := {maxSteps := 2000000}) only [↓aw_region, ↓aw_skip, ↓aw_seq, ↓aw_block, ↓aw_exit, ↓aw_ret, ↓sops_nil, ↓sops_go, ↓dops_nil, ↓dopsX_nil, ↓dopsR_nil, ↓vdn, vup, extr_20, extr_21, extr_30, extr_31, extr_32, List.map_cons, List.map_nil, cond_true, cond_false, aop, aThen, aBlock, argEnv, ev, sput, sputO, binK, binI, unK, builtinK, pickK, Nat.reduceBEq, Nat.reduceAdd, Int.reduceBEq, Int.reduceBNe, Int.reduceLT, aPost, resK, tup, tyf])
    clear hN7
    try clear N7
    have hE45 := (Ext.app (fun _ => False) h4 g7).trans hE5
    refine aw_aws ?_
    have hd : decide ((codeL (nearL xs 2)).map Int.ofNat = (codeL (nearL xs 2)).map Int.ofNat) = true := decide_eq_true rfl
    have hbb : (code xs 2 cs == code xs 2 cs) = true := beq_self_eq_true _
    simp (config := {maxSteps := 2000000}) only [s7, ↓aw_region, ↓aw_skip, ↓aw_seq, ↓aw_block, ↓aw_exit, ↓aw_ret, ↓sops_nil, ↓sops_go, ↓dops_nil, ↓dopsX_nil, ↓dopsR_nil, ↓vdn, vup, extr_20, extr_21, extr_30, extr_31, extr_32, List.map_cons, List.map_nil, cond_true, cond_false, aop, aThen, aBlock, argEnv, ev, sput, sputO, binK, binI, unK, builtinK, pickK, Nat.reduceBEq, Nat.reduceAdd, Int.reduceBEq, Int.reduceBNe, Int.reduceLT, aPost, resK, tup, tyf, callK, List.nil_append, List.append_nil, List.toList_toArray, List.cons_append, e0]
    refine (equal_call (IntSl_ext hp4 hE45) (IntSl_ext hq4 hE45) hclen hclen).mono ?_
    rintro _ h5 ⟨rfl, rfl⟩
    simp (config := {maxSteps := 2000000}) only [s7, ↓aw_region, ↓aw_skip, ↓aw_seq, ↓aw_block, ↓aw_exit, ↓aw_ret, ↓sops_nil, ↓sops_go, ↓dops_nil, ↓dopsX_nil, ↓dopsR_nil, ↓vdn, vup, extr_20, extr_21, extr_30, extr_31, extr_32, List.map_cons, List.map_nil, cond_true, cond_false, aop, aThen, aBlock, argEnv, ev, sput, sputO, binK, binI, unK, builtinK, pickK, Nat.reduceBEq, Nat.reduceAdd, Int.reduceBEq, Int.reduceBNe, Int.reduceLT, aPost, resK, tup, tyf, callK, List.nil_append, List.append_nil, List.toList_toArray, List.cons_append, hd, hbb]
    refine awk fun g _ => ?_
    simp (config := {maxSteps := 2000000}) only [s7, ↓aw_region, ↓aw_skip, ↓aw_seq, ↓aw_block, ↓aw_exit, ↓aw_ret, ↓sops_nil, ↓sops_go, ↓dops_nil, ↓dopsX_nil, ↓dopsR_nil, ↓vdn, vup, extr_20, extr_21, extr_30, extr_31, extr_32, List.map_cons, List.map_nil, cond_true, cond_false, aop, aThen, aBlock, argEnv, ev, sput, sputO, binK, binI, unK, builtinK, pickK, Nat.reduceBEq, Nat.reduceAdd, Int.reduceBEq, Int.reduceBNe, Int.reduceLT, aPost, resK, tup, tyf]
  · have he1 : e1 = 2 ∨ e1 = 6 := by
      rcases hc1 with h | h | h
      · exact .inl h.2.2
      · exact .inr h.2.2.2
      · exact absurd ⟨h.1, h.2.1⟩ hok
    refine aws_cut fun N8 hN8 => ?_
    rcases he1 with rfl | rfl
    all_goals
      simp (config := {maxSteps := 2000000}) only [s7, ↓aw_region, ↓aw_skip, ↓aw_seq, ↓aw_block, ↓aw_exit, ↓aw_ret, ↓sops_nil, ↓sops_go, ↓dops_nil, ↓dopsX_nil, ↓dopsR_nil, ↓vdn, vup, extr_20, extr_21, extr_30, extr_31, extr_32, List.map_cons, List.map_nil, cond_true, cond_false, aop, aThen, aBlock, argEnv, ev, sput, sputO, binK, binI, unK, builtinK, pickK, Nat.reduceBEq, Nat.reduceAdd, Int.reduceBEq, Int.reduceBNe, Int.reduceLT, aPost, resK, tup, tyf, callK, List.nil_append, List.append_nil, List.toList_toArray, List.cons_append]
      refine awk fun g _ => ?_
      simp (config := {maxSteps := 2000000}) only [s7, ↓aw_region, ↓aw_skip, ↓aw_seq, ↓aw_block, ↓aw_exit, ↓aw_ret, ↓sops_nil, ↓sops_go, ↓dops_nil, ↓dopsX_nil, ↓dopsR_nil, ↓vdn, vup, extr_20, extr_21, extr_30, extr_31, extr_32, List.map_cons, List.map_nil, cond_true, cond_false, aop, aThen, aBlock, argEnv, ev, sput, sputO, binK, binI, unK, builtinK, pickK, Nat.reduceBEq, Nat.reduceAdd, Int.reduceBEq, Int.reduceBNe, Int.reduceLT, aPost, resK, tup, tyf]
end Go.Proofs.Tryd.Am

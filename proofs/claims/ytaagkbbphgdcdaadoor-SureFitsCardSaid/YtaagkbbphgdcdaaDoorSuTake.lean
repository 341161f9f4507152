/-
  sure: the beginnings that the statements look at; what Code and Codes give back.
-/
import Derived.Test.YtaagkbbphgdcdaaDoorSuRcodes
set_option linter.all false
namespace Go.Proofs.Tryd.Am
open Go.Am Sr
set_option maxRecDepth 100000
set_option maxHeartbeats 1000000

/-! The beginnings that the statements look at. -/
theorem grs_take (xs : List Int) : grs (xs.take 80) = grs xs := by
  by_cases hl : xs.length ≤ 80
  · rw [List.take_of_length_le hl]
  · have h1 : grs xs = false := by
      cases h : grs xs with
      | false => rfl
      | true => have := (grs_iff.1 h).2.1; omega
    have h2 : grs (xs.take 80) = false := by
      cases h : grs (xs.take 80) with
      | false => rfl
      | true => have := (grs_iff.1 h).2.1; rw [List.length_take] at this; omega
    rw [h1, h2]
theorem grs_same {xs : List Int} (h : grs xs = true) : xs.take 80 = xs := List.take_of_length_le (by have := (grs_iff.1 h).2.1; omega)
abbrev Okk (xs : List Int) (k : Int) : Prop := grs xs = true ∧ 1 ≤ k ∧ k ≤ 3
theorem codesR_take (xs : List Int) (k : Int) (cs : List Int) : codesR (xs.take 80) k (cs.take 80) = codesR xs k cs := by
  unfold codesR
  rw [grs_take]
  by_cases h : grs xs = true ∧ 1 ≤ k ∧ k ≤ 3
  · rw [if_pos h, if_pos h, grs_same h.1]
    by_cases hw : wn xs k.toNat ≤ 64
    · rw [if_pos hw, if_pos hw, code_take (by omega)]
    · rw [if_neg hw, if_neg hw]
  · rw [if_neg h, if_neg h]
theorem codesR_take1 (xs : List Int) (k : Int) (cs : List Int) : codesR (xs.take 80) k cs = codesR xs k cs := by
  unfold codesR
  rw [grs_take]
  by_cases h : grs xs = true ∧ 1 ≤ k ∧ k ≤ 3
  · rw [if_pos h, if_pos h, grs_same h.1]
  · rw [if_neg h, if_neg h]
theorem codeR_take {h : Heap} {xs : List Int} {k : Int} {r : Value} (hr : codeR h (xs.take 80) k r) : codeR h xs k r := by
  unfold codeR at hr ⊢
  rw [grs_take] at hr
  by_cases h : grs xs = true ∧ 1 ≤ k ∧ k ≤ 3
  · rw [if_pos h, grs_same h.1] at hr; rw [if_pos h]; exact hr
  · rw [if_neg h] at hr ⊢; exact hr
theorem codesR_form (xs : List Int) (k : Int) (cs : List Int) : ∃ b e, codesR xs k cs = .tuple #[.bool b, .int .i64 e] ∧
    ((¬ Okk xs k ∧ b = false ∧ e = 2) ∨ (Okk xs k ∧ ¬ wn xs k.toNat ≤ 64 ∧ b = false ∧ e = 6) ∨ (Okk xs k ∧ wn xs k.toNat ≤ 64 ∧ b = code xs k.toNat cs ∧ e = 0)) := by
  unfold codesR
  by_cases h : grs xs = true ∧ 1 ≤ k ∧ k ≤ 3
  · rw [if_pos h]
    by_cases hw : wn xs k.toNat ≤ 64
    · rw [if_pos hw]; exact ⟨_, _, rfl, .inr (.inr ⟨h, hw, rfl, rfl⟩)⟩
    · rw [if_neg hw]; exact ⟨_, _, rfl, .inr (.inl ⟨h, hw, rfl, rfl⟩)⟩
  · rw [if_neg h]; exact ⟨_, _, rfl, .inl ⟨h, rfl, rfl⟩⟩
theorem codeR_form {h' : Heap} {xs : List Int} {k : Int} {r : Value} (hr : codeR h' xs k r) : ∃ w e, r = .tuple #[w, .int .i64 e] ∧
    ((¬ Okk xs k ∧ w = .slice none 0 0 ∧ e = 2) ∨ (Okk xs k ∧ ¬ wn xs k.toNat ≤ 64 ∧ w = .slice none 0 0 ∧ e = 6) ∨ (Okk xs k ∧ wn xs k.toNat ≤ 64 ∧ OwnSl 3 h' w ((codeL (nearL xs k.toNat)).map Int.ofNat) ∧ e = 0)) := by
  unfold codeR at hr
  by_cases h : grs xs = true ∧ 1 ≤ k ∧ k ≤ 3
  · rw [if_pos h] at hr
    by_cases hw : wn xs k.toNat ≤ 64
    · rw [if_pos hw] at hr
      obtain ⟨w, h1, h2⟩ := hr
      exact ⟨_, _, h1, .inr (.inr ⟨h, hw, h2, rfl⟩)⟩
    · rw [if_neg hw] at hr; exact ⟨_, _, hr, .inr (.inl ⟨h, hw, rfl, rfl⟩)⟩
  · rw [if_neg h] at hr; exact ⟨_, _, hr, .inl ⟨h, rfl, rfl⟩⟩
theorem awk [BitTab prog 0] {K : Value → Heap → Prop} {g : Heap} (hk : ∀ g', Ext (fun _ => False) g g' → K (.bool true) g') : ACall prog 21 [] g K := awake_call.mono fun v h' ⟨h1, h2⟩ => by rw [h1]; exact hk _ h2
theorem take80_rng {xs : List Int} (hx : ∀ x ∈ xs, -9223372036854775808 ≤ x ∧ x < 9223372036854775808) : ∀ x ∈ xs.take 80, -9223372036854775808 ≤ x ∧ x < 9223372036854775808 := fun x hm => hx x (List.take_subset _ _ hm)
theorem take80_len (xs : List Int) : (xs.take 80).length < 9223372036854775808 := by simp; omega
theorem codeL_lt (xs : List Int) (k : Nat) : ((codeL (nearL xs k)).map Int.ofNat).length < 9223372036854775808 ∨ True := .inr trivial

end Go.Proofs.Tryd.Am

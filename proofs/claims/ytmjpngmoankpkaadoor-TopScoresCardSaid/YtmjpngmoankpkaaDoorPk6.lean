/-
  The best order, plain: each one beats the next; it is the first of the best; the pairs that it goes against.
  ranks: slices.Compare of two slices of ints.
  ranks: the library's sort of a short slice (insertion), with a key.
  ranks: the library's sort of a short slice: what stands ahead of the insertion; the stable sort by a function.
  Kings of a tournament: plain counting. Whoever beats the most reaches all in two; who is beaten is beaten by a king.
  ranks: the set that Kings returns is that of the kings; how many they are.
  Plain theory: players without a cycle.
  ranks: the tournament without its last player; the cycles as ints.
  ranks, plain: which numbers are the scores of a tournament: the greatest one taken away, and the sums of the least ones (Landau). What is decided of the short lists is decided by the kernel.
  ranks: the scores, rising.
  ranks: the cycles; whether a set has one; how many a set has.
  ranks: Clear and Cycles.
  ranks: Turn.
  ranks: what the orders and the turned results are, plain.
  ranks: results turned, bit by bit; the law RanksFewer's plain part.
  ranks, plain: a round of the making of a tournament keeps what can be made.
  ranks: what the making of a tournament keeps (plain).
  ranks: the library's sort of a short slice by a function: insertion; the stable sort.
  ranks: a tournament with some scores: what is asked of the scores; the comparison; the last look.
  ranks: a tournament with some scores: the rounds of the making.
  ranks: a tournament with some scores: one round of the making, walked.
  ranks: a tournament with some scores.
  ranks: a tournament with some scores: the whole.
  ranks: a tournament with some scores: the whole.
  ranks, plain: who is reached; the parts of a tournament.
-/
import Derived.Test.YtmjpngmoankpkaaDoorPk5
import Derived.Test.YtmjpngmoankpkaaDoorPk4
set_option linter.all false
namespace Rb
section
variable {b : Nat → Nat → Bool}
end
section
variable {c : Nat → Nat → Nat} {n : Nat}
end
theorem nodup_le {α : Type} [DecidableEq α] : ∀ {l m : List α}, l.Nodup → (∀ x ∈ l, x ∈ m) → l.length ≤ m.length
  | [], _, _, _ => Nat.zero_le _
  | x :: l, m, hd, h => by
    have hd' := List.nodup_cons.1 hd
    have hx := h x (by simp)
    have := nodup_le (l := l) (m := m.erase x) hd'.2 fun y hy => (List.mem_erase_of_ne (show y ≠ x from fun e => hd'.1 (e ▸ hy))).2 (h y (by simp [hy]))
    rw [List.length_erase_of_mem hx] at this
    have : 0 < m.length := List.length_pos_of_mem hx
    rw [List.length_cons]; omega
end Rb
namespace Rb
section
variable {b : Nat → Nat → Bool}
/-- The pairs that an order goes against: who beats, and who stands before. -/
def bp (b : Nat → Nat → Bool) (pre : List Nat) : List Nat → List (Nat × Nat)
  | [] => []
  | x :: l => (pre.filter (b x)).map (fun y => (x, y)) ++ bp b (pre ++ [x]) l
end
end Rb

namespace Go.Proofs.Tryd.Am.Ra
open Go.Proofs.Tryd.Am
open Go.Am
set_option maxRecDepth 100000
set_option maxHeartbeats 1000000

theorem isnan_call [Tabs prog] {h : Zd} {x : Int} : APure prog 148 [Zh x] h (.bool false) := by
  refine s148_call (by simp) ?_
  have hb : (x != x) = false := bne_self_eq_false _
  simp (maxSteps := 2000000) only [s148, ↓Za, ↓Zg, ↓Zv, ↓Zb, ↓Zc, vup, cond_true, cond_false, aop, Zf, Zm, ev, sput, Ze, Yj, Yo, Nat.reduceBEq, Zr, Wa, tup, hb]
end Go.Proofs.Tryd.Am.Ra

namespace Go.Proofs.Tryd.Am.Ra
open Go.Proofs.Tryd.Am
open Go.Am Rb
set_option maxRecDepth 100000
set_option maxHeartbeats 1000000

def swL (L : List Nat) (j : Nat) : List Nat := (L.set j (L.getD (j - 1) 0)).set (j - 1) (L.getD j 0)
theorem swL_get {L : List Nat} {j : Nat} (h1 : 1 ≤ j) (h2 : j < L.length) (t : Nat) : (swL L j).getD t 0 = if t = j - 1 then L.getD j 0 else if t = j then L.getD (j - 1) 0 else L.getD t 0 := by
  rw [swL, getD_setN (by rw [List.length_set]; omega), getD_setN h2]
theorem swL_perm {L : List Nat} {j : Nat} (h1 : 1 ≤ j) (h2 : j < L.length) : (swL L j).Perm L := by
  have := Array.swap_perm (xs := L.toArray) (i := j) (j := j - 1) (by simpa using h2) (by simp; omega)
  rw [Array.perm_iff_toList_perm, Array.toList_swap] at this
  simpa [swL, List.getD, List.getElem?_eq_getElem h2, List.getElem?_eq_getElem (show j - 1 < L.length by omega)] using this

section
variable {key : Nat → Int}
/-- The first i are sorted. -/
def SrtTo (key : Nat → Int) (L : List Nat) (i : Nat) : Prop := ∀ p q, p < q → q < i → key (L.getD p 0) ≤ key (L.getD q 0)
/-- The first i + 1 are sorted but for the one at j. -/
def SrtBut (key : Nat → Int) (L : List Nat) (i j : Nat) : Prop := ∀ p q, p < q → q ≤ i → q ≠ j → key (L.getD p 0) ≤ key (L.getD q 0)
theorem SrtBut.step {L : List Nat} {i j : Nat} (h : SrtBut key L i j) (h1 : 1 ≤ j) (h2 : j < L.length) (hj : j ≤ i) (hlt : key (L.getD j 0) < key (L.getD (j - 1) 0)) : SrtBut key (swL L j) i (j - 1) := by
  intro p q hpq hq hne
  rw [swL_get h1 h2, swL_get h1 h2, if_neg hne]
  by_cases hqj : q = j
  · rw [if_pos hqj]
    by_cases hp : p = j - 1
    · rw [if_pos hp]; omega
    · rw [if_neg hp, if_neg (by omega)]
      exact h p (j - 1) (by omega) (by omega) (by omega)
  · rw [if_neg hqj]
    by_cases hp : p = j - 1
    · rw [if_pos hp]; exact h j q (by omega) hq hqj
    · rw [if_neg hp]
      by_cases hpj : p = j
      · rw [if_pos hpj]; exact h (j - 1) q (by omega) hq hqj
      · rw [if_neg hpj]; exact h p q hpq hq hqj
theorem SrtBut.done {L : List Nat} {i j : Nat} (h : SrtBut key L i j) (hj : j = 0 ∨ key (L.getD (j - 1) 0) ≤ key (L.getD j 0)) : SrtTo key L (i + 1) := by
  intro p q hpq hq
  by_cases hqj : q = j
  · subst hqj
    rcases hj with hj | hj
    · omega
    · by_cases hp : p = q - 1
      · subst hp; exact hj
      · exact Int.le_trans (h p (q - 1) (by omega) (by omega) (by omega)) hj
  · exact h p q hpq (by omega) hqj
theorem SrtTo.pw {L : List Nat} (h : SrtTo key L L.length) : L.Pairwise fun a b => key a ≤ key b := by
  rw [List.pairwise_iff_getElem]
  intro i j hi hj hij
  have := h i j hij hj
  rw [List.getD, List.getD, List.getElem?_eq_getElem hi, List.getElem?_eq_getElem hj] at this
  exact this
end
theorem subN1 {n : Nat} (h1 : 1 ≤ n) (h : n < 9223372036854775808) : subV .i64 (n : Int) 1 = ((n - 1 : Nat) : Int) := by rw [subV_id (by omega) (by omega)]; omega
/-- A slice in a block of its own. -/
abbrev ov (b n m : Nat) : Value := .slice (some ⟨b, 0, some 0⟩) n (n + m)
theorem ov_own {h : Zd} {b n : Nat} {L : List Nat} {ys : List Int} (hb : b < h.length) (hn : L.length = n) : OwnSl 3 (h.set b (.ints (iL L ++ ys) 3 false)) (ov b n ys.length) (iL L) :=
  .inr ⟨b, ys, by rw [Xx, hn], Ys hb _⟩
theorem elemP_ov (b n m i : Nat) : elemP (ov b n m) 1 i = .pointer (some ⟨b, i, none⟩) := by simp [elemP]
theorem ov_load {h : Zd} {b n : Nat} {L : List Nat} {ys : List Int} {i : Nat} (hb : b < h.length) (hn : L.length = n) (hi : i < n) {K : Value → Prop} :
    Xd prog (h.set b (.ints (iL L ++ ys) 3 false)) 3 (.pointer (some ⟨b, i, none⟩)) K = K (Zh (L.getD i 0 : Nat)) := by
  have := (ov_own (h := h) (b := b) (n := n) (L := L) (ys := ys) hb hn).int.load Ya (i := i) (by rw [Xx]; omega) K
  rw [elemP_ov, iL_get] at this
  exact this
theorem ov_store {h : Zd} {b : Nat} {L : List Nat} {ys : List Int} {i x : Nat} (hb : b < h.length) (hi : i < L.length) {K : Zd → Prop} :
    Xf prog (h.set b (.ints (iL L ++ ys) 3 false)) 3 (.pointer (some ⟨b, i, none⟩)) (Zh (x : Nat)) K = K (h.set b (.ints (iL (L.set i x) ++ ys) 3 false)) := by
  rw [storeBI (Ys hb _) Ya (by rw [List.length_append, Xx]; omega), List.set_set, List.set_append_left _ _ (by rw [Xx]; exact hi), iL_set]

theorem s126_callW [Tabs Tryd.prog] {args : List Value} {h : Zd} {Q : Value → Zd → Prop} (hsz : args.length ≤ 17) (hk : AWS Tryd.prog 17 s126 (Zr Tryd.prog [.tmp 4] Q) (Zm 0 args) h) : ACall Tryd.prog 126 args h Q :=
  Xr Tryd.func126 rfl (enters_of Tryd.func126 (by kernel_rfl) rfl) rfl rfl (by decide) s126_strip s126_ok hsz hk
theorem less_call [Tabs prog] {h : Zd} {x y : Int} : APure prog 126 [Zh x, Zh y] h (.bool (decide (x < y))) := by
  refine s126_callW (by simp) ?_
  refine Xg ?_
  simp (maxSteps := 2000000) only [s126, ↓Za, ↓Zg, ↓Zb, ↓Zc, vup, List.map_cons, List.map_nil, cond_true, cond_false, aop, Zf, Zm, ev, sput, Ze, Nat.reduceBEq, Nat.reduceAdd, Yq, List.nil_append, List.append_nil]
  refine (isnan_call).mono ?_
  rintro _ h ⟨rfl, rfl⟩
  simp (maxSteps := 2000000) only [↓Zv, ↓Zb, ↓Zc, ↓vdn, vup, cond_true, cond_false, aop, Zf, ev, sput, Ze, Yj, Yo, Nat.reduceBEq, Zr, Wa, tup]
end Go.Proofs.Tryd.Am.Ra

namespace Go.Proofs.Tryd.Am.Ra
open Go.Proofs.Tryd.Am
open Go.Am Rb
set_option maxRecDepth 100000
set_option maxHeartbeats 1000000

theorem wrap8 {x : Nat} (h : x < 256) : IntKind.u8.wrap (x : Int) = (x : Int) := by
  simp [IntKind.wrap, IntKind.signed, IntKind.bits]; omega
theorem s139_callW [Tabs Tryd.prog] {args : List Value} {h : Zd} {Q : Value → Zd → Prop} (hsz : args.length ≤ 25) (hk : AWS Tryd.prog 25 s139 (Zr Tryd.prog [.tmp 2] Q) (Zm 0 args) h) : ACall Tryd.prog 139 args h Q :=
  Xr Tryd.func139 rfl (enters_of Tryd.func139 (by kernel_rfl) rfl) rfl rfl (by decide) s139_strip s139_ok hsz hk
theorem len64_call [Tabs prog] {h : Zd} {x : Nat} (hx : x < 256) : ACall prog 139 [vu x] h fun r h' => (∃ z, r = .int .i64 z) ∧ h' = h := by
  obtain ⟨s, hs, hq⟩ : ∃ s : ByteArray, s.size = 256 ∧ q139_10 = .region [⟨some 19, .move (.tmp 2), none⟩, ⟨some 20, .move (.tmp 0), none⟩, ⟨some 21, .convert 88 5 (.tmp 20), none⟩, ⟨some 22, .index 9 (.const (.string s)) (.tmp 21), none⟩,
      ⟨some 23, .convert 5 3 (.tmp 22), none⟩, ⟨some 24, .binOp .add 3 (.tmp 19) (.tmp 23) 3, none⟩, ⟨some 2, .assign (.tmp 24), none⟩] := by
    refine ⟨_, ?_, rfl⟩
    kernel_rfl
  have hidx : s[x]? = some (s[x]'(by omega)) := getElem?_pos s x (by omega)
  have hnn : ∀ i : Nat, (0 : Int) ≤ (i : Int) := Int.natCast_nonneg
  have n1 : ¬ (4294967296 : Int) ≤ (x : Int) := by omega
  have n2 : ¬ (65536 : Int) ≤ (x : Int) := by omega
  have n3 : ¬ (256 : Int) ≤ (x : Int) := by omega
  refine s139_callW (by simp) ?_
  simp only [s139]
  refine Zi fun N1 hN1 => ?_
  simp (maxSteps := 2000000) only [↓Za, ↓Zb, ↓Zc, vup, cond_false, aop, Zf, Zm, ev, sput, Ze, Nat.reduceBEq]
  refine hN1 [(0, vu x), (2, .int .i64 0)] _ _ ?_ (by simp (maxSteps := 2000000) only [vup, cond_true, cond_false, Nat.reduceBEq])
  clear hN1
  try clear N1
  refine Zi fun N2 hN2 => ?_
  simp (maxSteps := 2000000) only [↓Za, ↓Zs, ↓Zg, ↓Zb, ↓Zc, ↓vdn, vup, cond_true, cond_false, aop, Zf, ev, sput, Ze, Yj, Yo, Nat.reduceBEq, n1]
  refine hN2 [(0, vu x), (2, .int .i64 0)] _ _ ?_ (by simp (maxSteps := 2000000) only [vup, cond_true, cond_false, Nat.reduceBEq])
  clear hN2
  try clear N2
  refine Zi fun N3 hN3 => ?_
  simp (maxSteps := 2000000) only [↓Za, ↓Zs, ↓Zg, ↓Zb, ↓Zc, ↓vdn, vup, cond_true, cond_false, aop, Zf, ev, sput, Ze, Yj, Yo, Nat.reduceBEq, n2]
  refine hN3 [(0, vu x), (2, .int .i64 0)] _ _ ?_ (by simp (maxSteps := 2000000) only [vup, cond_true, cond_false, Nat.reduceBEq])
  clear hN3
  try clear N3
  refine Zi fun N4 hN4 => ?_
  simp (maxSteps := 2000000) only [↓Za, ↓Zs, ↓Zg, ↓Zb, ↓Zc, ↓vdn, vup, cond_true, cond_false, aop, Zf, ev, sput, Ze, Yj, Yo, Nat.reduceBEq, n3]
  refine hN4 [(0, vu x), (2, .int .i64 0)] _ _ ?_ (by simp (maxSteps := 2000000) only [vup, cond_true, cond_false, Nat.reduceBEq])
  clear hN4
  try clear N4
  rw [hq]
  refine Xg ?_
  simp (maxSteps := 2000000) only [↓Za, ↓Zg, ↓Zv, ↓Zb, ↓Zc, vup, cond_true, cond_false, aop, Zf, ev, sput, Ze, Yj, Yo, Nat.reduceBEq, Zr, Wa, tup, tyf, convK, wrap8 hx, indexK, hnn, Int.toNat_natCast, hidx]
  first | exact ⟨⟨_, rfl⟩, rfl⟩ | exact ⟨_, rfl⟩
theorem s101_callW [Tabs Tryd.prog] {args : List Value} {h : Zd} {Q : Value → Zd → Prop} (hsz : args.length ≤ 8) (hk : AWS Tryd.prog 8 s101 (Zr Tryd.prog [.tmp 2] Q) (Zm 0 args) h) : ACall Tryd.prog 101 args h Q :=
  Xr Tryd.func101 rfl (enters_of Tryd.func101 (by kernel_rfl) rfl) rfl rfl (by decide) s101_strip s101_ok hsz hk
theorem len_call [Tabs prog] {h : Zd} {x : Nat} (hx : x < 256) : ACall prog 101 [vu x] h fun r h' => (∃ z, r = .int .i64 z) ∧ h' = h := by
  refine s101_callW (by simp) ?_
  simp only [s101]
  refine Zi fun N5 hN5 => ?_
  simp (maxSteps := 2000000) only [↓Za, ↓Zb, ↓Zc, vup, cond_false, aop, Zf, Zm, ev, sput, Ze, Nat.reduceBEq]
  refine hN5 [(0, vu x), (2, .int .i64 0)] _ _ ?_ (by simp (maxSteps := 2000000) only [vup, cond_true, cond_false, Nat.reduceBEq])
  clear hN5
  try clear N5
  refine aws_cutW fun N6 hN6 => ?_
  refine aws_false rfl ?_
  refine Xg ?_
  simp (maxSteps := 2000000) only [↓Zs, Zf]
  refine hN6 [(0, vu x), (2, .int .i64 0)] _ _ ?_ (by simp (maxSteps := 2000000) only [vup, cond_true, cond_false, Nat.reduceBEq])
  clear hN6
  try clear N6
  refine Xg ?_
  simp (maxSteps := 2000000) only [↓Za, ↓Zg, ↓Zv, ↓Zb, ↓Zc, vup, List.map_cons, List.map_nil, cond_true, cond_false, aop, Zf, ev, sput, Ze, Nat.reduceBEq, Zr, Wa, tup, Yq, List.nil_append, List.append_nil]
  refine (len64_call hx).mono ?_
  rintro _ h ⟨⟨z, rfl⟩, rfl⟩
  first | exact ⟨⟨z, rfl⟩, rfl⟩ | exact ⟨z, rfl⟩

end Go.Proofs.Tryd.Am.Ra

namespace Go.Proofs.Tryd.Kings

section
variable {α : Type} {p q : α → Bool}
end

/-- Of two, just one beats the other; nobody beats himself. -/
def Trn (n : Nat) (b : Nat → Nat → Bool) : Prop := (∀ i j, i < n → j < n → i ≠ j → b i j = !b j i) ∧ ∀ i, i < n → b i i = false

variable {n : Nat} {b : Nat → Nat → Bool}

end Go.Proofs.Tryd.Kings

namespace Go.Proofs.Tryd.Am.Ra
open Go.Proofs.Tryd.Am
open Go.Am Kings

/-- i beats j. -/
def bb (xs : List Int) (i j : Nat) : Bool := bitI (xs.getD i 0) j

end Go.Proofs.Tryd.Am.Ra

namespace Clr
open Go.Am

theorem perm_of_nodup {α : Type} {l1 l2 : List α} (h1 : l1.Nodup) (h2 : l2.Nodup) (h : ∀ a, a ∈ l1 ↔ a ∈ l2) : l1.Perm l2 := by
  classical
  induction l1 generalizing l2 with
  | nil =>
    cases l2 with
    | nil => exact List.Perm.nil
    | cons b l => exact absurd ((h b).2 (by simp)) (by simp)
  | cons a l ih =>
    have ha : a ∈ l2 := (h a).1 (by simp)
    obtain ⟨s, t, rfl⟩ := List.append_of_mem ha
    refine List.Perm.trans ?_ (List.perm_middle).symm
    refine List.Perm.cons a (ih (List.nodup_cons.1 h1).2 ?_ ?_)
    · exact (List.nodup_cons.1 ((List.perm_middle).nodup_iff.1 h2)).2
    · intro b
      have hb := h b
      simp only [List.mem_cons, List.mem_append] at hb ⊢
      have hna : a ∉ l := (List.nodup_cons.1 h1).1
      have hnt : a ∉ s ++ t := (List.nodup_cons.1 ((List.perm_middle).nodup_iff.1 h2)).1
      constructor
      · intro hl
        have hba : b ≠ a := fun e => hna (e ▸ hl)
        rcases hb.1 (.inr hl) with h | h | h
        · exact .inl h
        · exact absurd h hba
        · exact .inr h
      · intro hst
        have hba : b ≠ a := fun e => hnt (e ▸ List.mem_append.2 hst)
        rcases hb.2 (hst.elim .inl fun h => .inr (.inr h)) with h | h
        · exact absurd h hba
        · exact h

/-- All cycles, each from its least player on. -/
def cycles (n : Nat) (b : Nat → Nat → Bool) : List (Nat × Nat × Nat) :=
  (List.range n).flatMap fun a => ((List.range n).filter (b a)).flatMap fun x => ((List.range n).filter (b x)).flatMap fun c => if a < x ∧ a < c ∧ b c a = true then [(a, x, c)] else []
/-- Whether a set has all of a cycle. -/
def has (s : Nat) (c : Nat × Nat × Nat) : Bool := s.testBit c.1 && s.testBit c.2.1 && s.testBit c.2.2
/-- A tournament. -/
def Trn (n : Nat) (b : Nat → Nat → Bool) : Prop := (∀ i j, i < n → j < n → i ≠ j → b i j = !b j i) ∧ ∀ i, i < n → b i i = false
def Acy (b : Nat → Nat → Bool) (l : List Nat) : Prop := ∀ p ∈ l, ∀ q ∈ l, ∀ r ∈ l, b p q = true → b q r = true → b r p = true → False

variable {n : Nat} {b : Nat → Nat → Bool}
/-- The set of a list. -/
def setL (l : List Nat) : Nat := l.foldl (fun s x => s ||| 2 ^ x) 0
theorem fold_bit : ∀ (l : List Nat) (s w : Nat), (l.foldl (fun s x => s ||| 2 ^ x) s).testBit w = (s.testBit w || l.contains w)
  | [], s, w => by simp
  | x :: l, s, w => by
    rw [List.foldl_cons, fold_bit l, Nat.testBit_or, Nat.testBit_two_pow, List.contains_cons, Bool.or_assoc]
    congr 2
    by_cases h : x = w
    · subst h; simp
    · rw [decide_eq_false h]; simp [Ne.symm h]
theorem setL_bit (l : List Nat) (w : Nat) : (setL l).testBit w = true ↔ w ∈ l := by
  rw [setL, fold_bit, Nat.zero_testBit, Bool.false_or]; simp
theorem setL_lt {l : List Nat} (hl : ∀ x ∈ l, x < n) : setL l < 2 ^ n := Nat.lt_pow_two_of_testBit _ fun j hj => by
  cases h : (setL l).testBit j with
  | false => rfl
  | true => have := hl j ((setL_bit l j).1 h); omega
/-- One before, or behind, all of some without a cycle. -/
theorem acy_top (ht : Trn n b) {x : Nat} {l : List Nat} (hx : x < n) (hl : ∀ y ∈ l, y < n) (ha : Acy b l) (h : (∀ y ∈ l, b x y = true) ∨ ∀ y ∈ l, b x y = false) (hn : x ∉ l) : Acy b (x :: l) := by
  have hxx := ht.2 x hx
  have hsw : ∀ y ∈ l, b y x = !b x y := fun y hy => ht.1 y x (hl y hy) hx fun e => hn (e ▸ hy)
  intro p hp q hq r hr h1 h2 h3
  have key : ∀ u v w : Nat, u = x → v ∈ x :: l → w ∈ x :: l → b u v = true → b v w = true → b w u = true → False := by
    rintro u v w rfl hv hw g1 g2 g3
    have hv' : v ∈ l := (List.mem_cons.1 hv).resolve_left fun e => by rw [e, hxx] at g1; cases g1
    have hw' : w ∈ l := (List.mem_cons.1 hw).resolve_left fun e => by rw [e, hxx] at g3; cases g3
    rcases h with h | h
    · rw [hsw w hw', h w hw'] at g3; cases g3
    · rw [h v hv'] at g1; cases g1
  by_cases hpx : p = x
  · exact key p q r hpx hq hr h1 h2 h3
  · by_cases hqx : q = x
    · exact key q r p hqx hr hp h2 h3 h1
    · by_cases hrx : r = x
      · exact key r p q hrx hp hq h3 h1 h2
      · exact ha p ((List.mem_cons.1 hp).resolve_left hpx) q ((List.mem_cons.1 hq).resolve_left hqx) r ((List.mem_cons.1 hr).resolve_left hrx) h1 h2 h3
/-- Of a list half stands on one side. -/
theorem side (f : Nat → Bool) : ∀ l : List Nat, (l.filter f).length + (l.filter fun x => !f x).length = l.length
  | [] => rfl
  | x :: l => by
    have := side f l
    rw [List.filter_cons, List.filter_cons]
    cases f x <;> simp <;> omega
/-- Of 2 k - 1 others at least k on one side of x: then those without a cycle among k go with x. -/
theorem grow (ht : Trn n b) {k m : Nat} (hk : ∀ l : List Nat, (∀ x ∈ l, x < n) → l.Nodup → k ≤ l.length → ∃ l', (∀ x ∈ l', x ∈ l) ∧ l'.Nodup ∧ Acy b l' ∧ l'.length = m) {l : List Nat} (hl : ∀ x ∈ l, x < n) (hd : l.Nodup) (hlen : 2 * k ≤ l.length) (hk0 : 0 < k) :
    ∃ l', (∀ x ∈ l', x ∈ l) ∧ l'.Nodup ∧ Acy b l' ∧ l'.length = m + 1 := by
  cases l with
  | nil => simp at hlen; omega
  | cons x l =>
    have hx := List.nodup_cons.1 hd
    have hs := side (b x) l
    simp only [List.length_cons] at hlen
    have hx' := hl x (by simp)
    have hl' : ∀ y ∈ l, y < n := fun y hy => hl y (by simp [hy])
    have fin : ∀ F : List Nat, (∀ y ∈ F, y ∈ l) → F.Nodup → ((∀ y ∈ F, b x y = true) ∨ ∀ y ∈ F, b x y = false) → k ≤ F.length → ∃ l', (∀ y ∈ l', y ∈ x :: l) ∧ l'.Nodup ∧ Acy b l' ∧ l'.length = m + 1 := by
      intro F h1 h2 h3 h4
      obtain ⟨l', g1, g2, g3, g4⟩ := hk F (fun y hy => hl' y (h1 y hy)) h2 h4
      have hxl : x ∉ l' := fun h => hx.1 (h1 x (g1 x h))
      refine ⟨x :: l', fun y hy => ?_, List.nodup_cons.2 ⟨hxl, g2⟩, acy_top ht hx' (fun y hy => hl' y (h1 y (g1 y hy))) g3 (h3.imp (fun h y hy => h y (g1 y hy)) fun h y hy => h y (g1 y hy)) hxl, by simp [g4]⟩
      rcases List.mem_cons.1 hy with rfl | h
      · simp
      · simp [h1 y (g1 y h)]
    by_cases hA : k ≤ (l.filter (b x)).length
    · exact fin _ (fun y hy => (List.mem_filter.1 hy).1) (hx.2.filter _) (.inl fun y hy => (List.mem_filter.1 hy).2) hA
    · exact fin (l.filter fun y => !b x y) (fun y hy => (List.mem_filter.1 hy).1) (hx.2.filter _) (.inr fun y hy => by simpa using (List.mem_filter.1 hy).2) (by omega)
end Clr

namespace Go.Proofs.Tryd.Am.Ra
open Go.Proofs.Tryd.Am
open Go.Am
set_option maxRecDepth 100000
set_option maxHeartbeats 1000000

theorem trn_len {xs : List Int} (h : trn xs = true) : 1 ≤ xs.length ∧ xs.length ≤ 8 := by
  simp only [trn, Bool.and_eq_true, decide_eq_true_eq] at h; exact h.1
def cC (xs : List Int) (a x : Nat) (pre : List Nat) : List T3 := pre.flatMap fun c => if a < x ∧ a < c ∧ bb xs c a = true then [((a : Int), (x : Int), (c : Int))] else []
def cX (xs : List Int) (a : Nat) (pre : List Nat) : List T3 := pre.flatMap fun x => cC xs a x (Am.bits (xs.getD x 0).toNat)
def cA (xs : List Int) (k : Nat) : List T3 := (List.range k).flatMap fun a => cX xs a (Am.bits (xs.getD a 0).toNat)
theorem cA_succ (xs : List Int) (k : Nat) : cA xs (k + 1) = cA xs k ++ cX xs k (Am.bits (xs.getD k 0).toNat) := by simp [cA, List.range_succ]
theorem cX_snoc (xs : List Int) (a : Nat) (pre : List Nat) (x : Nat) : cX xs a (pre ++ [x]) = cX xs a pre ++ cC xs a x (Am.bits (xs.getD x 0).toNat) := by simp [cX]
theorem cC_snoc (xs : List Int) (a x : Nat) (pre : List Nat) (c : Nat) : cC xs a x (pre ++ [c]) = cC xs a x pre ++ (if a < x ∧ a < c ∧ bb xs c a = true then [((a : Int), (x : Int), (c : Int))] else []) := by simp [cC]
theorem bits_bb {xs : List Int} (h : trn xs = true) {i : Nat} (hi : i < xs.length) : Am.bits (xs.getD i 0).toNat = (List.range xs.length).filter (bb xs i) := by
  have hl := trn_len h
  rw [bits_range (trn_nat h hi).2 (by omega)]; rfl
theorem flat_le {α β : Type} {f : α → List β} {k : Nat} : ∀ l : List α, (∀ x ∈ l, (f x).length ≤ k) → (l.flatMap f).length ≤ l.length * k
  | [], _ => by simp
  | x :: l, h => by
    have := flat_le l fun y hy => h y (by simp [hy])
    have := h x (by simp)
    rw [List.flatMap_cons, List.length_append, List.length_cons, Nat.succ_mul]; omega
theorem bits_len8 {xs : List Int} (h : trn xs = true) {i : Nat} (hi : i < xs.length) : (Am.bits (xs.getD i 0).toNat).length ≤ 8 := by
  rw [bits_bb h hi]
  have := List.length_filter_le (bb xs i) (List.range xs.length)
  rw [List.length_range] at this
  have := trn_len h; omega
theorem cC_le {xs : List Int} {a x : Nat} (pre : List Nat) : (cC xs a x pre).length ≤ pre.length := by
  have := flat_le (f := fun c => if a < x ∧ a < c ∧ bb xs c a = true then [((a : Int), (x : Int), (c : Int))] else []) (k := 1) pre fun c _ => by
    split <;> simp
  rw [Nat.mul_one] at this; exact this
end Go.Proofs.Tryd.Am.Ra

namespace Rb
set_option maxRecDepth 100000

/-- x put behind all that are not greater. -/
def insR (x : Nat) : List Nat → List Nat
  | [] => [x]
  | y :: l => if y ≤ x then y :: insR x l else x :: y :: l
def rising (l : List Nat) : List Nat := l.foldl (fun out x => insR x out) []
theorem insR_perm (x : Nat) : ∀ l, (insR x l).Perm (x :: l)
  | [] => .refl _
  | y :: l => by
    rw [insR]; split
    · exact ((insR_perm x l).cons y).trans (.swap x y l)
    · exact .refl _
theorem insR_sorted {x : Nat} : ∀ {l : List Nat}, l.Pairwise (· ≤ ·) → (insR x l).Pairwise (· ≤ ·)
  | [], _ => by simp [insR]
  | y :: l, h => by
    obtain ⟨h1, h2⟩ := List.pairwise_cons.1 h
    rw [insR]; split
    · rename_i hy
      refine List.pairwise_cons.2 ⟨fun z hz => ?_, insR_sorted h2⟩
      rcases List.mem_cons.1 ((insR_perm x l).mem_iff.1 hz) with rfl | hz
      · exact hy
      · exact h1 z hz
    · rename_i hy
      refine List.pairwise_cons.2 ⟨fun z hz => ?_, h⟩
      rcases List.mem_cons.1 hz with rfl | hz
      · omega
      · have := h1 z hz; omega
theorem rising_go : ∀ (l out : List Nat), out.Pairwise (· ≤ ·) → (l.foldl (fun out x => insR x out) out).Pairwise (· ≤ ·) ∧ (l.foldl (fun out x => insR x out) out).Perm (out ++ l)
  | [], out, h => ⟨h, by simp⟩
  | x :: l, out, h => by
    obtain ⟨h1, h2⟩ := rising_go l (insR x out) (insR_sorted h)
    refine ⟨h1, h2.trans ?_⟩
    exact ((insR_perm x out).append_right l).trans (by simpa using (List.perm_middle (a := x) (l₁ := out) (l₂ := l)).symm)
theorem rising_sorted (l : List Nat) : (rising l).Pairwise (· ≤ ·) := (rising_go l [] .nil).1
theorem rising_perm (l : List Nat) : (rising l).Perm l := (rising_go l [] .nil).2.trans (by simp)
theorem sorted_eq {a b : List Nat} (ha : a.Pairwise (· ≤ ·)) (hb : b.Pairwise (· ≤ ·)) (h : a.Perm b) : a = b :=
  h.eq_of_pairwise (fun _ _ _ _ h1 h2 => Nat.le_antisymm h1 h2) ha hb
theorem rising_eq {a l : List Nat} (ha : a.Pairwise (· ≤ ·)) (h : a.Perm l) : rising l = a := sorted_eq (rising_sorted l) ha ((rising_perm l).trans h.symm)
/-- What is left behind the greatest score: those with the least ones lose to it. -/
def red (l : List Nat) (d : Nat) : Option (List Nat) :=
  if d ≤ l.length ∧ (l.drop d).all (fun x => decide (0 < x)) = true then some (rising (l.take d ++ (l.drop d).map (· - 1))) else none
/-- Some tournament has these scores. -/
def poss : Nat → List Nat → Bool
  | 0, _ => false
  | k + 1, s => match s.reverse with
    | [] => false
    | d :: r => if r = [] then d == 0 else match red r.reverse d with
      | some t => poss k t
      | none => false
theorem poss_snoc (k : Nat) (r : List Nat) (d : Nat) : poss (k + 1) (r ++ [d]) = if r = [] then d == 0 else match red r d with
    | some t => poss k t
    | none => false := by
  rw [poss]
  simp only [List.reverse_append, List.reverse_cons, List.reverse_nil, List.nil_append, List.singleton_append, List.reverse_reverse, List.reverse_eq_nil_iff]
end Rb

namespace Go.Proofs.Tryd.Am.Ra
open Go.Proofs.Tryd.Am
open Go.Am Rb
set_option maxRecDepth 100000
set_option maxHeartbeats 1000000

/-- A slice of ints that a run makes, behind what was there. -/
def RSI (h hp : Zd) (ov : Value) (xs : List Int) : Prop := OwnSl 3 hp ov xs ∧ Ext (fun _ => False) h hp ∧ ∀ b, Zw ov = some b → h.length ≤ b
theorem RSI.nil (h : Zd) : RSI h h (.slice none 0 0) [] := ⟨.inl ⟨rfl, rfl⟩, Ext.refl _ _, fun b hb => by cases hb⟩
theorem RSI.push {h hp : Zd} {ov : Value} {xs : List Int} (s : RSI h hp ov xs) {x : Int} (hn : xs.length < 1099511627776) {K : Value → Zd → Prop} (hk : ∀ v' h', RSI h h' v' (xs ++ [x]) → K v' h') :
    Yh prog (hp ++ [.ints [x] 3 false]) 27 27 ov (.slice (some ⟨hp.length, 0, none⟩) 1 1) K := by
  obtain ⟨hown, hE, hblk⟩ := s
  have hx1 : Ext (fun _ => False) hp (hp ++ [.ints [x] 3 false]) := Ext.app _ _ _
  refine (hown.ext hx1 fun _ _ => id).append app_27_27 hn (Yk _ _) fun v' h' ho hE' hb => hk v' h' ⟨ho, ?_, fun b hbb => ?_⟩
  · have h1 := hE.1
    have h2 := hx1.1
    have h3 := hE'.1
    refine ⟨by omega, fun i hi _ => ?_⟩
    rw [hE'.2 i (by omega) fun hbb => by have := hblk i hbb; omega, hx1.2 i (by omega) id]
    exact hE.2 i hi id
  · rcases hb with h1 | ⟨b', h1, h2⟩
    · exact hblk b (h1 ▸ hbb)
    · rw [h1] at hbb; cases hbb; have := hE.1; have := hx1.1; omega

/-- How many a player beats. -/
def scr (x : Int) : Nat := (Am.bits x.toNat).length
theorem scr_le (x : Int) : scr x ≤ 64 := by rw [scr, Am.bits]; exact Nat.le_trans (List.length_filter_le _ _) (by simp)
end Go.Proofs.Tryd.Am.Ra

namespace Go.Proofs.Tryd.Am.Ra
open Go.Proofs.Tryd.Am
open Go.Am
set_option maxRecDepth 100000
set_option maxHeartbeats 1000000

/-- The cycles under way: t's box and the list's box; what lay before lies as it lay. -/
structure CS (h : Zd) (n : Nat) (v : Value) (hp : Zd) (ov : Value) (ts : List T3) : Prop where
  t : hp[n]? = some (.cells [v] 131 false)
  o : hp[n + 1]? = some (.cells [ov] 66 false)
  own : OwnT 163 hp ov ts
  blk : ∀ b, Zw ov = some b → n + 2 ≤ b
  ext : Ext (fun _ => False) h hp
  len : h.length = n
/-- What a part of the run may touch. -/
def cS (n : Nat) (ov : Value) (i : Nat) : Prop := i = n + 1 ∨ Zw ov = some i
def Mv (n : Nat) (ov : Value) (h : Zd) (ov' : Value) (h' : Zd) : Prop := Ext (cS n ov) h h' ∧ (Zw ov' = Zw ov ∨ ∃ b, Zw ov' = some b ∧ h.length ≤ b)
section
variable {h hp hq : Zd} {n : Nat} {v ov ov' ov2 : Value} {ts : List T3}
theorem _root_.Go.Am.OwnT.notCells {e e2 : TypeId} {c : List Value} {ro : Bool} {j : Nat} (ho : OwnT e hp v ts) (hj : hp[j]? = some (.cells c e2 ro)) : Zw v ≠ some j := fun hb => by
  obtain ⟨ys, hy⟩ := ho.ints hb
  rw [hj] at hy; cases hy
theorem CS.new (s : CS h n v hp ov ts) (hE : Ext (fun _ => False) hp hq) : CS h n v hq ov ts :=
  ⟨(hE.2 _ (Zt s.t) id).trans s.t, (hE.2 _ (Zt s.o) id).trans s.o, s.own.ext hE, s.blk, s.ext.trans hE, s.len⟩
theorem Mv.new (hE : Ext (fun _ => False) hp hq) : Mv n ov hp ov hq := ⟨hE.mono fun _ h => h.elim, .inl rfl⟩
theorem Mv.trans (a : Mv n ov h ov' hp) (b : Mv n ov' hp ov2 hq) (hn : n + 1 < h.length) : Mv n ov h ov2 hq := by
  have hl := a.1.1
  refine ⟨⟨Nat.le_trans hl b.1.1, fun i hi hs => ?_⟩, ?_⟩
  · rw [b.1.2 i (by omega) ?_, a.1.2 i hi hs]
    rintro (h1 | h1)
    · exact hs (.inl h1)
    · rcases a.2 with h2 | ⟨b', h2, h3⟩
      · exact hs (.inr (h2 ▸ h1))
      · rw [h2] at h1; cases h1; omega
  · rcases b.2 with h1 | ⟨b', h1, h2⟩
    · rw [h1]; exact a.2
    · exact .inr ⟨b', h1, by omega⟩
theorem Mv.box (m : Mv n ov hp ov' hq) (s : CS h n v hp ov ts) {j : Nat} {c : List Value} {e : TypeId} {ro : Bool} (hj : hp[j]? = some (.cells c e ro)) (hn : n + 2 ≤ j) : hq[j]? = some (.cells c e ro) := by
  rw [m.1.2 j (Zt hj) ?_]
  · exact hj
  · rintro (h1 | h1)
    · omega
    · exact s.own.notCells hj h1
/-- One cycle more. -/
theorem CS.push (s : CS h n v hp ov ts) {t : T3} (hE : Ext (fun i => Zw ov = some i) hp hq) (ho : OwnT 163 hq ov' (ts ++ [t])) (hb : Zw ov' = Zw ov ∨ ∃ b, Zw ov' = some b ∧ hp.length ≤ b) :
    CS h n v (hq.set (n + 1) (.cells [ov'] 66 false)) ov' (ts ++ [t]) ∧ Mv n ov hp ov' (hq.set (n + 1) (.cells [ov'] 66 false)) := by
  have hl := hE.1
  have ho1 := Zt s.o
  have hnb : ∀ b, Zw ov' = some b → n + 2 ≤ b := fun b hbb => by
    rcases hb with h1 | ⟨b', h1, h2⟩
    · exact s.blk b (h1 ▸ hbb)
    · rw [h1] at hbb; cases hbb; omega
  refine ⟨⟨?_, Ys (by omega) _, ?_, hnb, ⟨?_, fun i hi _ => ?_⟩, s.len⟩, ⟨(hE.mono fun _ h => .inr h).trans (Ext.set _ (.inl rfl)), hb⟩⟩
  · rw [List.getElem?_set_ne (by omega), hE.2 _ (Zt s.t) (s.own.notCells s.t)]; exact s.t
  · exact ho.same fun b hbb => List.getElem?_set_ne (by have := hnb b hbb; omega)
  · have := s.ext.1; simp; omega
  · have := s.ext.1
    have hsl := s.len
    rw [List.getElem?_set_ne (by omega), hE.2 i (by omega) fun hbb => by have := s.blk i hbb; omega]
    exact s.ext.2 i hi id
end
theorem boxS {h : Zd} {v : Value} {xs : List Int} (hv : IntSl h v xs) {K : Value → Zd → Prop} : boxK prog h 131 v K = K (Xi h) (h ++ [.cells [v] 131 false]) := by
  rcases hv with ⟨rfl, _⟩ | ⟨b, o, sp, cap, c, e, ro, rfl, _⟩ <;> simp [boxK, esz_131, cellsOf]
theorem newBox (g : Zd) (x : Int) : ((g ++ [Blk.cells [.int .i64 0] 3 false]).set g.length (.cells [.int .i64 x] 3 false))[g.length]? = some (.cells [.int .i64 x] 3 false) ∧ Ext (fun _ => False) g ((g ++ [Blk.cells [.int .i64 0] 3 false]).set g.length (.cells [.int .i64 x] 3 false)) :=
  ⟨Ys (by simp) _, by simp, fun i hi _ => by rw [List.getElem?_set_ne (by omega), List.getElem?_append_left hi]⟩
theorem deadBox (g : Zd) (B : Blk) : Ext (fun _ => False) g ((g ++ [B]).set g.length .dead) :=
  ⟨by simp, fun i hi _ => by rw [List.getElem?_set_ne (by omega), List.getElem?_append_left hi]⟩
theorem bld3 {x y z : Int} {K : Value → Prop} : buildK prog 163 [(0, Zh x), (1, Zh y), (2, Zh z)] K = K (.agg #[Zh x, Zh y, Zh z]) := by
  simp [buildK, zero_163, fillL, pl_163_0, pl_163_1, pl_163_2, notTuple, cellsOf, Zz]
theorem cX_le {xs : List Int} (h : trn xs = true) {a : Nat} {pre : List Nat} (hp : ∀ x ∈ pre, x < xs.length) (hl : pre.length ≤ 8) : (cX xs a pre).length ≤ 64 := by
  have := flat_le (f := fun x => cC xs a x (Am.bits (xs.getD x 0).toNat)) (k := 8) pre fun x hx => Nat.le_trans (cC_le _) (bits_len8 h (hp x hx))
  have e : cX xs a pre = pre.flatMap fun x => cC xs a x (Am.bits (xs.getD x 0).toNat) := rfl
  rw [e]; omega
theorem bits_in {xs : List Int} (h : trn xs = true) {i : Nat} (hi : i < xs.length) {x : Nat} (hx : x ∈ Am.bits (xs.getD i 0).toNat) : x < xs.length ∧ bb xs i x = true := by
  rw [bits_bb h hi, List.mem_filter, List.mem_range] at hx; exact hx
theorem cA_le {xs : List Int} (h : trn xs = true) {k : Nat} (hk : k ≤ xs.length) : (cA xs k).length ≤ 512 := by
  have hl := trn_len h
  have := flat_le (f := fun a => cX xs a (Am.bits (xs.getD a 0).toNat)) (k := 64) (List.range k) fun a ha => cX_le h (fun x hx => (bits_in h (by have := List.mem_range.1 ha; omega) hx).1) (bits_len8 h (by have := List.mem_range.1 ha; omega))
  have e : cA xs k = (List.range k).flatMap fun a => cX xs a (Am.bits (xs.getD a 0).toNat) := rfl
  rw [e]; rw [List.length_range] at this; omega
theorem pre_sub {α : Type} {pre l : List α} {x : α} (h : pre ++ [x] <+: l) : ∀ y ∈ pre, y ∈ l := fun y hy => h.subset (by simp [hy])
theorem pre_len {α : Type} {pre l : List α} {x : α} (h : pre ++ [x] <+: l) : pre.length ≤ l.length := by
  have := h.length_le
  simp at this; omega

theorem cycles_call [BitTab prog 0] {h : Zd} {v : Value} {xs : List Int} (hv : IntSl h v xs) (ht : trn xs = true) : ACall prog 86 [v] h fun r h' => OwnT 163 h' r (cA xs xs.length) ∧ Ext (fun _ => False) h h' := by
  have hl := trn_len ht
  have hpw : 2 ^ xs.length ≤ 2 ^ 8 := Nat.pow_le_pow_right (by decide) hl.2
  refine s86_call (by simp) ?_
  simp only [s86]
  refine aw_cut fun N hN => ?_
  simp (maxSteps := 2000000) only [↓Za, ↓Zb, ↓Zc, vup, cond_true, cond_false, aop, Zf, Zm, ev, sput, Ze, Nat.reduceBEq, boxS hv, Xi]
  refine hN _ _ ?_
  clear hN N
  refine aw_cut fun N hN => ?_
  simp (maxSteps := 2000000) only [↓Za, ↓Zb, ↓Zc, vup, cond_false, aop, Zf, sput, Ze, Nat.reduceBEq, tyf, Wb, Xi]
  refine hN _ _ ?_
  clear hN N
  obtain ⟨n, hn⟩ : ∃ n, n = h.length := ⟨_, rfl⟩
  simp only [List.length_append, List.length_cons, List.length_nil, Nat.zero_add, ← hn]
  have s0 : CS h n v (h ++ [Blk.cells [v] 131 false] ++ [Blk.cells [.slice none 0 0] 66 false]) (.slice none 0 0) [] :=
    ⟨by rw [hn]; exact Xw (Yk _ _) _, by have := Yk (h ++ [Blk.cells [v] 131 false]) (Blk.cells [.slice none 0 0] 66 false); simpa [hn] using this, .inl ⟨rfl, rfl⟩, fun _ h => (by cases h), by rw [List.append_assoc]; exact Ext.app _ _ _, hn.symm⟩
  generalize h ++ [Blk.cells [v] 131 false] ++ [Blk.cells [.slice none 0 0] 66 false] = H at s0 ⊢
  refine aw_cut fun N hN => ?_
  simp (maxSteps := 2000000) only [↓Za, ↓Zg, ↓Zx, ↓Zb, ↓Zc, vup, List.map_cons, List.map_nil, cond_true, cond_false, aop, Zf, ev, sput, Ze, Zj, Nat.reduceBEq, tyf, Yr s0.t shp_131, (Yf hv s0.ext).len, ↓Yw]
  refine Ye fun Q hQ => ?_
  refine Wo (γ := Nat × Value × Zd) (fun s => s.1 ≤ xs.length ∧ CS h n v s.2.2 s.2.1 (cA xs s.1))
    (fun s => ([(0, v), (1, .pointer (some ⟨n, 0, none⟩)), (2, .slice none 0 0), (3, .pointer (some ⟨n + 1, 0, none⟩)), (8, Zh xs.length), (9, Zh s.1)], s.2.2)) (fun s => xs.length - s.1) (0, .slice none 0 0, H) ⟨Nat.zero_le _, s0⟩ (by simp (maxSteps := 2000000) only [vup, cond_true, cond_false, Nat.reduceBEq, Int.natCast_zero]) rfl ?_
  rintro ⟨a, ov, hp⟩ ⟨ha, s⟩
  simp only at ha s
  refine Wp fun Q2 hQ2 => ?_
  by_cases hin : (a : Int) < xs.length
  · have ha' : a < xs.length := by omega
    obtain ⟨hX, hXl⟩ := trn_nat ht ha'
    simp only [l86_2]
    obtain ⟨ba1, hE1⟩ := newBox hp a
    have s1 := s.new hE1
    have hlp : n + 2 ≤ hp.length := by have := Zt s.o; omega
    simp (maxSteps := 2000000) only [↓Za, ↓Zs, ↓Zg, ↓Zx, ↓Zb, ↓Zc, ↓vdn, vup, List.map_cons, List.map_nil, cond_true, cond_false, aop, Zf, ev, sput, Ze, Yj, Yo, Nat.reduceBEq, tyf, hin, Wb, Xi]
    rw [storeI (Yk _ _) Ya]
    generalize hba : hp.length = ba at ba1 hE1 hlp s1 ⊢
    generalize (hp ++ [Blk.cells [.int .i64 0] 3 false]).set ba (.cells [.int .i64 (a : Int)] 3 false) = h1 at ba1 hE1 s1 ⊢
    have hv1 := Yf hv s1.ext
    simp (maxSteps := 2000000) only [Yr s1.t shp_131, Yr ba1 Ya, hv1.idx el_131 Xc ha', hv1.load Ya ha', Yq, List.nil_append, List.append_nil]
    refine players_call.mono ?_
    rintro _ _ ⟨rfl, rfl⟩
    simp (maxSteps := 2000000) only [Xi]
    have hE2 := deadBox h1 (Blk.cells [Zh (xs.getD a 0)] 3 false)
    have s2 := s1.new hE2
    have ba2 := (hE2.2 _ (Zt ba1) id).trans ba1
    have hlb : n + 2 ≤ h1.length := by have := Zt s1.o; omega
    generalize hX2 : (xs.getD a 0).toNat = X at hX hXl
    refine aw_range bitIter (bx := h1.length) (s := X) (et := 3) rfl (by rw [hX]; exact Yk _ _) (by omega) (fun pre hk => ∃ ov', CS h n v hk ov' (cA xs a ++ cX xs a pre) ∧ Mv n ov ((h1 ++ [Blk.cells [Zh (xs.getD a 0)] 3 false]).set h1.length .dead) ov' hk) ?_ ?_ ?_
    · exact ⟨ov, by simpa [cX] using s2, Mv.new (Ext.refl _ _)⟩
    · rintro pre x hk hpre ⟨ov1, s3, m3⟩
      have hxm := mem_pre hpre
      rw [← hX2] at hxm
      obtain ⟨hx', hxb⟩ := bits_in ht ha' hxm
      obtain ⟨hY, hYl⟩ := trn_nat ht hx'
      have ba3 := m3.box s2 ba2 (by omega)
      obtain ⟨bx4, hE4⟩ := newBox hk x
      have s4 := s3.new hE4
      have ba4 := (hE4.2 _ (Zt ba3) id).trans ba3
      have hlk : n + 2 ≤ hk.length := by have := Zt s3.o; omega
      simp (maxSteps := 2000000) only [↓Za, ↓Zg, ↓Zx, ↓Zb, ↓Zc, vup, List.map_cons, List.map_nil, cond_true, cond_false, aop, Zf, ev, sput, Ze, Nat.reduceBEq, tyf, r86_1_a, r86_1_b, Wb, Xi]
      rw [storeI (Yk _ _) Ya]
      generalize hbx : hk.length = bx at bx4 hE4 hlk s4 ba4 ⊢
      generalize (hk ++ [Blk.cells [.int .i64 0] 3 false]).set bx (.cells [.int .i64 (x : Int)] 3 false) = h4 at bx4 hE4 s4 ba4 ⊢
      have hv4 := Yf hv s4.ext
      simp (maxSteps := 2000000) only [Yr s4.t shp_131, Yr bx4 Ya, hv4.idx el_131 Xc hx', hv4.load Ya hx', Yq, List.nil_append, List.append_nil]
      refine players_call.mono ?_
      rintro _ _ ⟨rfl, rfl⟩
      simp (maxSteps := 2000000) only [Xi]
      have hE5 := deadBox h4 (Blk.cells [Zh (xs.getD x 0)] 3 false)
      have s5 := s4.new hE5
      have ba5 := (hE5.2 _ (Zt ba4) id).trans ba4
      have bx5 := (hE5.2 _ (Zt bx4) id).trans bx4
      have m5 : Mv n ov1 hk ov1 ((h4 ++ [Blk.cells [Zh (xs.getD x 0)] 3 false]).set h4.length .dead) := Mv.new (hE4.trans hE5)
      generalize hY2 : (xs.getD x 0).toNat = Y at hY hYl
      refine aw_range bitIter (bx := h4.length) (s := Y) (et := 3) rfl (by rw [hY]; exact Yk _ _) (by omega) (fun pre' hk' => ∃ ov2, CS h n v hk' ov2 (cA xs a ++ cX xs a pre ++ cC xs a x pre') ∧ Mv n ov1 ((h4 ++ [Blk.cells [Zh (xs.getD x 0)] 3 false]).set h4.length .dead) ov2 hk') ?_ ?_ ?_
      · exact ⟨ov1, by simpa [cC] using s5, Mv.new (Ext.refl _ _)⟩
      · rintro pre' c hk' hpre' ⟨ov2, s6, m6⟩
        have hcm := mem_pre hpre'
        rw [← hY2] at hcm
        obtain ⟨hc', hcb⟩ := bits_in ht hx' hcm
        obtain ⟨hC, hCl⟩ := trn_nat ht hc'
        have ba6 := m6.box s5 ba5 (by omega)
        have bx6 := m6.box s5 bx5 (by omega)
        have hv6 := Yf hv s6.ext
        have hlen : (cA xs a ++ cX xs a pre ++ cC xs a x pre').length ≤ 1024 := by
          have g1 := cA_le ht (show a ≤ xs.length by omega)
          have g2 := cX_le ht (a := a) (pre := pre) (fun y hy => (bits_in ht ha' (by rw [hX2]; exact pre_sub hpre y hy)).1) (Nat.le_trans (pre_len hpre) (by rw [← hX2]; exact bits_len8 ht ha'))
          have g3 := cC_le (xs := xs) (a := a) (x := x) pre'
          have g4 := Nat.le_trans (pre_len hpre') (by rw [← hY2]; exact bits_len8 ht hx')
          simp only [List.length_append]; omega
        have stay : ¬ (a < x ∧ a < c ∧ bb xs c a = true) → ∃ ov2', CS h n v hk' ov2' (cA xs a ++ cX xs a pre ++ cC xs a x (pre' ++ [c])) ∧ Mv n ov1 ((h4 ++ [Blk.cells [Zh (xs.getD x 0)] 3 false]).set h4.length .dead) ov2' hk' := fun hno => ⟨ov2, by rw [cC_snoc, if_neg hno, List.append_nil]; exact s6, m6⟩
        simp (maxSteps := 2000000) only [↓Za, ↓Zg, ↓Zx, ↓Zb, ↓Zc, vup, cond_true, cond_false, aop, Zf, ev, sput, Ze, Yj, Yo, Nat.reduceBEq, tyf, r86_0_a, r86_0_b]
        by_cases hax : a < x
        · have c1 : (a : Int) < (x : Int) := by omega
          by_cases hac : a < c
          · have c2 : (a : Int) < (c : Int) := by omega
            simp (maxSteps := 2000000) only [↓Zb, ↓Zc, ↓vdn, vup, List.map_cons, List.map_nil, cond_true, cond_false, aop, Zf, ev, sput, Ze, Yj, Yo, Nat.reduceBEq, tyf, Yr ba6 Ya, Yr bx6 Ya, Yr s6.t shp_131, c1, c2, Yq, List.nil_append, List.append_nil]
            refine (beats_call hv6 hc' (by omega) (by omega)).mono ?_
            rintro _ hk' ⟨rfl, rfl⟩
            cases hbb : bitI (xs.getD c 0) a with
            | false =>
              simp (maxSteps := 2000000) only [↓Zs, ↓vdn, vup, cond_true, cond_false, Zp, ev, Nat.reduceBEq, rangeQ]
              exact stay fun h => by rw [bb, hbb] at h; cases h.2.2
            | true =>
              simp (maxSteps := 2000000) only [↓Za, ↓Zb, ↓Zc, ↓vdn, vup, List.map_cons, List.map_nil, cond_true, cond_false, aop, Zp, ev, sput, Ze, Zj, Nat.reduceBEq, Yr s6.o shp_66, Yr ba6 Ya, Yr bx6 Ya, bld3, litT el_66 zero_163 esz_163]
              have hx1 : Ext (fun _ => False) hk' (hk' ++ [.ints [(a : Int), (x : Int), (c : Int)] 163 false]) := Ext.app _ _ _
              refine (s6.own.ext hx1).append app_66_66 (by omega) (Yk _ _) ?_
              intro ov3 h7 ho7 hx7 hb7
              have hx8 : Ext (fun i => Zw ov2 = some i) hk' h7 := (hx1.mono fun _ h => h.elim).trans hx7
              have hb8 : Zw ov3 = Zw ov2 ∨ ∃ b, Zw ov3 = some b ∧ hk'.length ≤ b := by
                rcases hb7 with h | ⟨b, h, hl⟩
                · exact .inl h
                · exact .inr ⟨b, h, by simp at hl; omega⟩
              have ho8 : h7[n + 1]? = some (.cells [ov2] 66 false) := (hx8.2 _ (Zt s6.o) (s6.own.notCells s6.o)).trans s6.o
              obtain ⟨s9, m9⟩ := s6.push hx8 ho7 hb8
              simp (maxSteps := 2000000) only [store1 ho8 shp_66 ho7.one, rangeQ]
              refine ⟨ov3, ?_, m6.trans m9 (by have := Zt s5.o; omega)⟩
              rw [cC_snoc, if_pos ⟨hax, hac, hbb⟩, ← List.append_assoc]
              exact s9
          · have c2 : ¬ (a : Int) < (c : Int) := by omega
            simp (maxSteps := 2000000) only [↓Zs, ↓Zb, ↓Zc, ↓vdn, vup, cond_true, cond_false, aop, Zf, Zp, ev, sput, Ze, Yj, Yo, Nat.reduceBEq, tyf, Yr ba6 Ya, Yr bx6 Ya, c1, c2, rangeQ]
            exact stay fun h => hac h.2.1
        · have c1 : ¬ (a : Int) < (x : Int) := by omega
          simp (maxSteps := 2000000) only [↓Zs, ↓Zb, ↓Zc, ↓vdn, vup, cond_true, cond_false, aop, Zf, Zp, ev, sput, Ze, Nat.reduceBEq, Yr ba6 Ya, Yr bx6 Ya, c1, rangeQ]
          exact stay fun h => hax h.1
      · rintro hk' ⟨ov2, s6, m6⟩
        simp (maxSteps := 2000000) only [Zp, rangeQ]
        refine ⟨ov2, ?_, (m3.trans m5 (by have := Zt s2.o; omega)).trans m6 (by have := Zt s2.o; omega)⟩
        rw [cX_snoc, hY2, ← List.append_assoc]
        exact s6
    · rintro hk ⟨ov1, s3, m3⟩
      simp (maxSteps := 2000000) only [↓Za, ↓Zb, ↓Zc, vup, cond_true, cond_false, aop, Zf, Zp, ev, sput, Ze, Yj, Yo, Nat.reduceBEq, add1 (show a < 9223372036854775807 by omega)]
      refine hQ2 _ _ _ ⟨(a + 1, ov1, hk), ⟨by simp only; omega, ?_⟩, by simp only; omega, by simp (maxSteps := 2000000) only [vup, cond_true, cond_false, Nat.reduceBEq], rfl⟩
      simp only
      rw [cA_succ, hX2]
      exact s3
  · obtain rfl : a = xs.length := by omega
    simp (maxSteps := 2000000) only [↓Za, ↓Zg, ↓Xa, ↓Zb, ↓Zc, ↓vdn, vup, cond_true, cond_false, aop, Zf, ev, sput, Ze, Yj, Yo, Nat.reduceBEq, l86_2, Int.lt_irrefl]
    refine hQ2 _ _ _ (hQ _ _ _ ?_)
    simp (maxSteps := 2000000) only [Zf, Zp, Zr, if_true]
    refine hN _ _ ?_
    simp (maxSteps := 2000000) only [↓Za, ↓Zg, ↓Zv, ↓Zb, ↓Zc, vup, cond_true, cond_false, aop, Zf, ev, sput, Ze, Nat.reduceBEq, Zr, Wa, tup, Yr s.o shp_66]
    exact ⟨s.own, s.ext⟩

end Go.Proofs.Tryd.Am.Ra

namespace Go.Proofs.Tryd.Am.Ra
open Go.Proofs.Tryd.Am
open Go.Am
set_option maxRecDepth 100000
set_option maxHeartbeats 1000000

/-- What Cycles hands back. -/
theorem cycles30_call [BitTab prog 0] {h : Zd} {v : Value} {xs : List Int} (hv : IntSl h v xs) (hl : xs.length < 9223372036854775808) (hx : ∀ x ∈ xs, -9223372036854775808 ≤ x ∧ x < 9223372036854775808) :
    ACall prog 33 [v] h fun r h' => Ext (fun _ => False) h h' ∧ if trn xs = true then ∃ w, r = .tuple #[w, .int .i64 0] ∧ OwnT 163 h' w (cA xs xs.length) else r = .tuple #[.slice none 0 0, .int .i64 2] := by
  refine s33_call (by simp) ?_
  simp (maxSteps := 2000000) only [s33, ↓Za, ↓Zg, ↓Zb, ↓Zc, vup, List.map_cons, List.map_nil, cond_true, cond_false, aop, Zf, Zm, ev, sput, Ze, unK, Nat.reduceBEq, Yq, List.nil_append, List.append_nil]
  refine (valid_call hv hl hx).mono ?_
  rintro _ h ⟨rfl, rfl⟩
  cases ht : trn xs with
  | false =>
    simp (maxSteps := 2000000) only [↓Za, ↓Zg, ↓Zv, ↓Zb, ↓Zc, ↓vdn, vup, cond_true, cond_false, aop, Zf, ev, sput, Ze, Nat.reduceBEq, Zr, Wa, tup, Bool.false_eq_true, if_false]
    exact Ext.refl _ _
  | true =>
    simp (maxSteps := 2000000) only [↓Za, ↓Zs, ↓Zg, ↓Zv, ↓Zb, ↓Zc, ↓vdn, vup, List.map_cons, List.map_nil, cond_true, cond_false, aop, Zf, ev, sput, Ze, Nat.reduceBEq, Zr, Wa, tup, Yq, List.nil_append, List.append_nil]
    refine (cycles_call hv ht).mono ?_
    rintro r h' ⟨hr, hE⟩
    simp (maxSteps := 2000000) only [if_true]
    exact ⟨hE, r, rfl, hr⟩

end Go.Proofs.Tryd.Am.Ra

namespace Go.Proofs.Tryd.Am.Ra
open Go.Proofs.Tryd.Am
open Go.Am
set_option maxRecDepth 100000
set_option maxHeartbeats 1000000

/-- A result turned in a player's set. -/
def xI (a : Int) (m : Nat) : Int := ((a.toNat ^^^ 2 ^ m : Nat) : Int)
def half (t : List Int) (i j : Nat) : List Int := t.set i (xI (t.getD i 0) j)
section
variable {h : Zd} {t e : TypeId} {b o n c k : Nat} {xs : List Int} {ro : Bool}
theorem idxW {K : Value → Prop} (hk : k < n) : Yd prog 27 (.slice (some ⟨b, 0, some 0⟩) n c) (Zh (k : Nat)) K = K (.pointer (some ⟨b, k, none⟩)) := by
  simp only [Yd, Wg, Xc, Int.natCast_nonneg, Int.toNat_natCast, Nat.mul_one, Nat.zero_add, true_and, Int.ofNat_lt.2 hk]
theorem loadX {K : Value → Prop} (hb : h[b]? = some (.ints xs e ro)) (ho : o < xs.length) : Xd prog h 3 (.pointer (some ⟨b, o, none⟩)) K = K (Zh (xs.getD o 0)) := by
  simp only [Xd, Ya, cellK, hb, ho, true_and]
theorem storeX {K : Zd → Prop} {x : Int} (hb : h[b]? = some (.ints xs e false)) (ho : o < xs.length) : Xf prog h 3 (.pointer (some ⟨b, o, none⟩)) (Zh x) K = K (h.set b (.ints (xs.set o x) e false)) := by
  simp only [Xf, Ya, hb, ho, true_and]
end
/-- A copy of a list, in a block of its own. -/
def Fresh (h : Zd) (xs : List Int) (r : Value) (h' : Zd) : Prop := ∃ b, r = .slice (some ⟨b, 0, some 0⟩) xs.length xs.length ∧ h'[b]? = some (.ints xs 3 false) ∧ h.length ≤ b ∧ Ext (fun _ => False) h h'
theorem lit0I {h : Zd} (K : Value → Zd → Prop) : Yn prog h 27 0 [] K = K (.slice (some ⟨h.length, 0, none⟩) 0 0) (h ++ [.ints [] 3 false]) := by
  simp only [Yn, Wg, zero_3, Xc, reps, fillL, mkb, Yx, List.length_cons, List.length_nil, Nat.mul_one]
  exact propext ⟨fun h => h.2.2.2, fun h => ⟨trivial, by decide, by decide, h⟩⟩
theorem appFresh {h : Zd} {v : Value} {xs : List Int} (hv : IntSl h v xs) (hx : xs ≠ []) (hl : xs.length < 1099511627776) {K : Value → Zd → Prop} (hk : ∀ r h', Fresh h xs r h' → K r h') :
    Yh prog (h ++ [.ints [] 3 false]) 27 27 (.slice (some ⟨h.length, 0, none⟩) 0 0) v K := by
  refine (hv.grow [.ints [] 3 false]).copyOwn hx app_27_27 hl (by rw [List.getElem?_append_right (Nat.le_refl _)]; simp) ?_
  refine hk _ _ ⟨h.length + 1, ?_, ?_, by omega, by rw [List.append_assoc]; exact Ext.app _ _ _⟩
  · simp
  · rw [List.getElem?_append_right (by simp)]; simp
theorem clone_fresh [Tabs prog] {h : Zd} {v : Value} {xs : List Int} (hv : IntSl h v xs) (hx : xs ≠ []) (hl : xs.length < 1099511627776) : ACall prog 13 [v] h fun r h' => Fresh h xs r h' := by
  refine s13_call (by simp) ?_
  have hv' := hv
  rcases hv with ⟨rfl, rfl⟩ | ⟨b, o, sp, cap, c, e, ro, rfl, hc, hb, _⟩
  · exact absurd rfl hx
  · simp (maxSteps := 2000000) only [s13, ↓Za, ↓Zs, ↓Zg, ↓Zv, ↓Zb, ↓Zc, ↓vdn, vup, List.map_cons, List.map_nil, cond_true, cond_false, aop, Zf, Zm, ev, sput, Ze, Yj, Zj, Nat.reduceBEq, Zr, Wa, tup, tyf, Option.isSome_some, lit0I]
    refine appFresh hv' hx hl fun r h' hf => ?_
    exact hf

end Go.Proofs.Tryd.Am.Ra

namespace Go.Proofs.Tryd.Am.Ra
open Go.Proofs.Tryd.Am
open Go.Am Rb
set_option maxRecDepth 100000
set_option maxHeartbeats 1000000

abbrev nl (os : List Int) : List Nat := os.map Int.toNat
end Go.Proofs.Tryd.Am.Ra

namespace Go.Proofs.Tryd.Am.Ra
open Go.Proofs.Tryd.Am
open Go.Am Rb
set_option maxRecDepth 100000
set_option maxHeartbeats 1000000

def hit (i j x y : Nat) : Bool := decide (x = i ∧ y = j) ^^ decide (x = j ∧ y = i)
theorem trn_iff {xs : List Int} : trn xs = true ↔ (1 ≤ xs.length ∧ xs.length ≤ 8) ∧ ∀ i, i < xs.length → 0 ≤ xs.getD i 0 ∧ xs.getD i 0 < 2 ^ xs.length ∧ bb xs i i = false ∧ ∀ j, j < i → bb xs i j ≠ bb xs j i := by
  simp only [trn, okAt, Bool.and_eq_true, decide_eq_true_eq, List.all_eq_true, List.mem_range, Bool.not_eq_true', bne_iff_ne, bb, and_assoc]
end Go.Proofs.Tryd.Am.Ra

namespace Rb
/-- Whether the players that are left, with what they must still win, can be served. -/
def possE : Nat → List Nat → Bool
  | 0, _ => true
  | k + 1, s => poss (k + 1) s
def gd (L : List Nat) (f : Nat → Int) : Bool := L.all (fun x => decide (0 ≤ f x)) && possE L.length (rising (L.map fun x => (f x).toNat))
theorem gd_perm {L L' : List Nat} (h : L.Perm L') (f : Nat → Int) : gd L f = gd L' f := by
  have h1 : L.all (fun x => decide (0 ≤ f x)) = L'.all (fun x => decide (0 ≤ f x)) := by
    rw [Bool.eq_iff_iff, List.all_eq_true, List.all_eq_true]
    exact ⟨fun g x hx => g x (h.mem_iff.2 hx), fun g x hx => g x (h.mem_iff.1 hx)⟩
  rw [gd, gd, h1, h.length_eq, rising_eq (rising_sorted _) ((rising_perm _).trans (h.map _).symm)]
theorem gd_start {s : List Nat} (hs : s.Pairwise (· ≤ ·)) (hne : s ≠ []) {L : List Nat} {f : Nat → Int} (hL : L.map f = s.map Int.ofNat) : gd L f = poss s.length s := by
  have hlen : L.length = s.length := by simpa using congrArg List.length hL
  have h1 : L.all (fun x => decide (0 ≤ f x)) = true := by
    rw [List.all_eq_true]
    intro x hx
    have : f x ∈ s.map Int.ofNat := by rw [← hL]; exact List.mem_map_of_mem hx
    obtain ⟨y, _, hy⟩ := List.mem_map.1 this
    rw [← hy]; exact decide_eq_true (Int.natCast_nonneg y)
  have h2 : L.map (fun x => (f x).toNat) = s := by
    have := congrArg (List.map Int.toNat) hL
    rw [List.map_map, List.map_map] at this
    exact this.trans ((List.map_congr_left fun x _ => rfl).trans (List.map_id s))
  rw [gd, h1, h2, rising_eq hs (.refl _), Bool.true_and, hlen]
  cases s with
  | nil => exact absurd rfl hne
  | cons x s => rfl
theorem gd_neg {L : List Nat} {f : Nat → Int} {x : Nat} (hx : x ∈ L) (h : f x < 0) : gd L f = false := by
  rw [gd]
  have : L.all (fun x => decide (0 ≤ f x)) = false := by
    rw [List.all_eq_false]
    exact ⟨x, hx, by simp; omega⟩
  rw [this, Bool.false_and]
theorem sorted_map {L : List Nat} {f : Nat → Int} (hs : L.Pairwise fun a b => f a ≤ f b) : (L.map fun x => (f x).toNat).Pairwise (· ≤ ·) :=
  List.pairwise_map.2 (hs.imp fun h => by omega)
theorem gd_many {r : List Nat} {top : Nat} {f : Nat → Int} (hs : (r ++ [top]).Pairwise fun a b => f a ≤ f b) (h : (r.length : Int) < f top) : gd (r ++ [top]) f = false := by
  rw [gd, Bool.and_eq_false_iff]
  right
  rw [rising_eq (sorted_map hs) (.refl _), List.length_append, List.length_singleton, possE, List.map_append, List.map_singleton, poss_snoc]
  split
  · rename_i hr
    have : r = [] := List.map_eq_nil_iff.1 hr
    subst this
    simp at h ⊢; omega
  · have : red (r.map fun x => (f x).toNat) (f top).toNat = none := by
      rw [red, if_neg]
      rintro ⟨h1, _⟩
      rw [List.length_map] at h1; omega
    rw [this]
theorem gd_step {r : List Nat} {top d : Nat} {f f' : Nat → Int} (hs : (r ++ [top]).Pairwise fun a b => f a ≤ f b) (hd : f top = d) (hdl : d ≤ r.length) (hf : ∀ j (hj : j < r.length), f' r[j] = f r[j] - if d ≤ j then 1 else 0) : gd (r ++ [top]) f = gd r f' := by
  by_cases hneg : ∃ x ∈ r ++ [top], f x < 0
  · obtain ⟨x, hx, hlt⟩ := hneg
    rw [gd_neg hx hlt]
    rcases List.mem_append.1 hx with hx | hx
    · obtain ⟨j, hj, rfl⟩ := List.getElem_of_mem hx
      have := hf j hj
      exact (gd_neg (x := r[j]) hx (by split at this <;> omega)).symm
    · rw [List.mem_singleton.1 hx] at hlt; omega
  · have hpos : ∀ x ∈ r ++ [top], 0 ≤ f x := fun x hx => by
      by_cases h : 0 ≤ f x
      · exact h
      · exact absurd ⟨x, hx, by omega⟩ hneg
    have hall : (r ++ [top]).all (fun x => decide (0 ≤ f x)) = true := List.all_eq_true.2 fun x hx => decide_eq_true (hpos x hx)
    rw [gd, hall, Bool.true_and, rising_eq (sorted_map hs) (.refl _), List.length_append, List.length_singleton, possE, List.map_append, List.map_singleton, poss_snoc, hd, Int.toNat_natCast]
    by_cases hr : r = []
    · subst hr
      simp at hdl; subst hdl
      rfl
    · rw [if_neg (by simpa using hr)]
      have hk : ∃ k, r.length = k + 1 := by cases r with | nil => exact absurd rfl hr | cons x l => exact ⟨_, rfl⟩
      obtain ⟨k, hk⟩ := hk
      have heq : (r.map fun x => (f x).toNat).take d ++ ((r.map fun x => (f x).toNat).drop d).map (· - 1) = r.map fun x => (f' x).toNat := by
        apply List.ext_getElem
        · simp; omega
        · intro j h1 h2
          have hj : j < r.length := by simpa using h2
          have := hf j hj
          have h0 := hpos r[j] (by simp)
          rw [List.getElem_append]
          split
          · rename_i h; simp at h ⊢
            rw [if_neg (by omega)] at this
            omega
          · rename_i h; simp at h ⊢
            rw [if_pos (by omega)] at this
            have e : d + (j - min d r.length) = j := by omega
            simp only [e]; omega
      by_cases hz : ∀ j (hj : j < r.length), d ≤ j → 0 < f r[j]
      · have hred : red (r.map fun x => (f x).toNat) d = some (rising (r.map fun x => (f' x).toNat)) := by
          rw [red, if_pos, heq]
          refine ⟨by simpa using hdl, List.all_eq_true.2 fun x hx => ?_⟩
          obtain ⟨i, hi, rfl⟩ := List.getElem_of_mem hx
          simp at hi ⊢
          exact hz _ (by omega) (by omega)
        have hall2 : r.all (fun x => decide (0 ≤ f' x)) = true := List.all_eq_true.2 fun x hx => by
          obtain ⟨j, hj, rfl⟩ := List.getElem_of_mem hx
          have := hf j hj
          have h0 := hpos r[j] (by simp)
          refine decide_eq_true ?_
          split at this
          · have := hz j hj ‹_›; omega
          · omega
        rw [hred, gd, hall2, hk, Bool.true_and]; rfl
      · have hred : red (r.map fun x => (f x).toNat) d = none := by
          rw [red, if_neg]
          rintro ⟨_, h2⟩
          refine hz fun j hj hdj => ?_
          have hm : r[j] ∈ r.drop d := by
            have e : d + (j - d) = j := by omega
            exact List.mem_iff_getElem.2 ⟨j - d, by simp; omega, by simp [e]⟩
          have := List.all_eq_true.1 h2 (f r[j]).toNat (by rw [← List.map_drop]; exact List.mem_map_of_mem hm)
          simp at this; omega
        rw [hred]
        have hex : ∃ j, ∃ hj : j < r.length, d ≤ j ∧ ¬ 0 < f r[j] :=
          Classical.byContradiction fun hc => hz fun j hj hd => Classical.byContradiction fun h => hc ⟨j, hj, hd, h⟩
        obtain ⟨j, hjl, hdj, hj⟩ := hex
        have := hf j hjl
        rw [if_pos hdj] at this
        have key : ∀ a b : Int, b = a - 1 → ¬ 0 < a → b < 0 := fun a b h1 h2 => by omega
        exact (gd_neg (List.getElem_mem hjl) (key _ _ this hj)).symm
end Rb

namespace Go.Proofs.Tryd.Am.Ra
open Go.Proofs.Tryd.Am
open Go.Am Rb
set_option maxRecDepth 100000

/-- Player i beats player j. -/
def orT (t : List Int) (i j : Nat) : List Int := t.set i (((t.getD i 0).toNat ||| 2 ^ j : Nat) : Int)
theorem orT_len (t : List Int) (i j : Nat) : (orT t i j).length = t.length := by simp [orT]
theorem orT_get {t : List Int} {i j : Nat} (hi : i < t.length) (x : Nat) : (orT t i j).getD x 0 = if x = i then (((t.getD i 0).toNat ||| 2 ^ j : Nat) : Int) else t.getD x 0 := by
  by_cases hx : x = i
  · subst hx; rw [if_pos rfl, orT, List.getD, List.getElem?_set_self hi]; rfl
  · rw [if_neg hx, orT, List.getD, List.getElem?_set_ne (Ne.symm hx)]; rfl
theorem orT_bb {t : List Int} {i j : Nat} (hi : i < t.length) (x y : Nat) : bb (orT t i j) x y = (bb t x y || decide (x = i ∧ y = j)) := by
  rw [bb, bb, bitI, bitI, orT_get hi]
  by_cases hx : x = i
  · subst hx
    rw [if_pos rfl, Int.toNat_natCast, Nat.testBit_or, Nat.testBit_two_pow]
    congr 1
    exact decide_eq_decide.2 ⟨fun h => ⟨rfl, h.symm⟩, fun h => h.2.symm⟩
  · rw [if_neg hx, decide_eq_false (fun h => hx h.1), Bool.or_false]
theorem orT_scr {n : Nat} {t : List Int} {i j : Nat} (hn : n ≤ 8) (hi : i < t.length) (hlt : t.getD i 0 < 2 ^ n) (h0 : 0 ≤ t.getD i 0) (hj : j < n) (hb : bb t i j = false) (x : Nat) : scr ((orT t i j).getD x 0) = scr (t.getD x 0) + if x = i then 1 else 0 := by
  rw [orT_get hi]
  by_cases hx : x = i
  · subst hx
    have hl : (t.getD x 0).toNat < 2 ^ n := by
      have : ((2 : Int) ^ n) = ((2 ^ n : Nat) : Int) := by simp
      rw [this] at hlt; omega
    rw [bb, bitI] at hb
    rw [if_pos rfl, if_pos rfl, scr, scr, Int.toNat_natCast, bits_put (by omega) hl hj, hb, if_neg (by decide)]
  · rw [if_neg hx, if_neg hx]; rfl

/-- The tournament so far: U, who has not met yet; w, how many wins are still to come; s, the scores. -/
structure MI (n : Nat) (s : Nat → Int) (ts : List Int) (U : Nat → Nat → Prop) (w : Nat → Int) : Prop where
  len : ts.length = n
  rng : ∀ i, i < n → 0 ≤ ts.getD i 0 ∧ ts.getD i 0 < 2 ^ n
  self : ∀ i, i < n → bb ts i i = false
  yet : ∀ i j, i < n → j < n → i ≠ j → U i j → bb ts i j = false
  met : ∀ i j, i < n → j < n → i ≠ j → ¬ U i j → bb ts i j = !bb ts j i
  won : ∀ i, i < n → (scr (ts.getD i 0) : Int) + w i = s i
theorem MI.congr {n : Nat} {s : Nat → Int} {ts : List Int} {U U' : Nat → Nat → Prop} {w w' : Nat → Int} (m : MI n s ts U w) (hU : ∀ i j, i < n → j < n → i ≠ j → (U' i j ↔ U i j)) (hw : ∀ i, i < n → w' i = w i) : MI n s ts U' w' :=
  ⟨m.len, m.rng, m.self, fun i j hi hj hne h => m.yet i j hi hj hne ((hU i j hi hj hne).1 h), fun i j hi hj hne h => m.met i j hi hj hne fun g => h ((hU i j hi hj hne).2 g), fun i hi => by rw [hw i hi]; exact m.won i hi⟩
theorem MI.win {n : Nat} {s : Nat → Int} {ts : List Int} {U U' : Nat → Nat → Prop} {w w' : Nat → Int} {i j : Nat} (m : MI n s ts U w) (hn : n ≤ 8) (hi : i < n) (hj : j < n) (hij : i ≠ j) (h1 : U i j) (h2 : U j i)
    (hU : ∀ a b, a < n → b < n → a ≠ b → (U' a b ↔ U a b ∧ ¬ (a = i ∧ b = j) ∧ ¬ (a = j ∧ b = i))) (hw : ∀ a, a < n → w' a = w a - if a = i then 1 else 0) : MI n s (orT ts i j) U' w' := by
  have hil : i < ts.length := by rw [m.len]; exact hi
  have hb := m.yet i j hi hj hij h1
  have hb2 := m.yet j i hj hi (Ne.symm hij) h2
  have h0 := m.rng i hi
  have hpow : ((2 : Int) ^ n) = ((2 ^ n : Nat) : Int) := by simp
  refine ⟨by rw [orT_len, m.len], fun a ha => ?_, fun a ha => ?_, fun a b ha hb' hne h => ?_, fun a b ha hb' hne h => ?_, fun a ha => ?_⟩
  · rw [orT_get hil]
    split
    · have : (ts.getD i 0).toNat ||| 2 ^ j < 2 ^ n := Nat.or_lt_two_pow (by rw [hpow] at h0; omega) (Nat.pow_lt_pow_right (by decide) hj)
      exact ⟨Int.natCast_nonneg _, by rw [hpow]; exact Int.ofNat_lt.2 this⟩
    · exact m.rng a ha
  · rw [orT_bb hil, m.self a ha, decide_eq_false (fun h => hij (h.1.symm.trans h.2)), Bool.or_false]
  · obtain ⟨g1, g2, g3⟩ := (hU a b ha hb' hne).1 h
    rw [orT_bb hil, m.yet a b ha hb' hne g1, decide_eq_false g2, Bool.or_false]
  · rw [orT_bb hil, orT_bb hil]
    by_cases e1 : a = i ∧ b = j
    · obtain ⟨rfl, rfl⟩ := e1
      rw [decide_eq_true ⟨rfl, rfl⟩, hb2, decide_eq_false (fun h => hij h.2)]
      simp
    · by_cases e2 : a = j ∧ b = i
      · obtain ⟨rfl, rfl⟩ := e2
        rw [decide_eq_false e1, hb2, decide_eq_true ⟨rfl, rfl⟩]
        simp
      · have hn' : ¬ U a b := fun g => h ((hU a b ha hb' hne).2 ⟨g, e1, e2⟩)
        rw [decide_eq_false e1, decide_eq_false (fun h => e2 ⟨h.2, h.1⟩), Bool.or_false, Bool.or_false]
        exact m.met a b ha hb' hne hn'
  · rw [orT_scr hn hil h0.2 h0.1 hj hb, hw a ha]
    have := m.won a ha
    split <;> omega
theorem MI.done {n : Nat} {s : Nat → Int} {ts : List Int} {U : Nat → Nat → Prop} {w : Nat → Int} (m : MI n s ts U w) (h1 : 1 ≤ n) (hn : n ≤ 8) (hU : ∀ i j, i < n → j < n → i ≠ j → ¬ U i j) (hw : ∀ i, i < n → w i = 0) : trn ts = true ∧ ∀ i, i < n → (scr (ts.getD i 0) : Int) = s i := by
  refine ⟨?_, fun i hi => by have := m.won i hi; have := hw i hi; omega⟩
  rw [trn_iff]
  have hl := m.len
  refine ⟨by omega, fun i hi => ?_⟩
  rw [hl] at hi ⊢
  refine ⟨(m.rng i hi).1, (m.rng i hi).2, m.self i hi, fun j hj => ?_⟩
  rw [m.met i j hi (by omega) (by omega) (hU i j hi (by omega) (by omega))]
  cases bb ts j i <;> decide
theorem MI.start {n : Nat} {s : Nat → Int} : MI n s (List.replicate n 0) (fun _ _ => True) s := by
  have hz : ∀ i, (List.replicate n (0 : Int)).getD i 0 = 0 := fun i => by
    rw [List.getD, List.getElem?_replicate]; split <;> rfl
  have hb : ∀ i j, bb (List.replicate n (0 : Int)) i j = false := fun i j => by rw [bb, hz]; exact Nat.zero_testBit j
  refine ⟨by simp, fun i hi => by
    have e : ((2 : Int) ^ n) = ((2 ^ n : Nat) : Int) := by simp
    rw [hz, e]; exact ⟨Int.le_refl _, Int.ofNat_lt.2 (Nat.two_pow_pos n)⟩, fun i _ => hb i i, fun i j _ _ _ _ => hb i j, fun i j _ _ _ h => absurd trivial h, fun i _ => ?_⟩
  rw [hz]
  have : scr 0 = 0 := by decide
  rw [this]; simp
end Go.Proofs.Tryd.Am.Ra

namespace Go.Proofs.Tryd.Am.Ra
open Go.Proofs.Tryd.Am
open Go.Am Rb
set_option maxRecDepth 100000
set_option maxHeartbeats 1000000

theorem s149_callW [Tabs Tryd.prog] {args : List Value} {h : Zd} {Q : Value → Zd → Prop} (hsz : args.length ≤ 53) (hk : AWS Tryd.prog 53 s149 (Zr Tryd.prog [] Q) (Zm 0 args) h) : ACall Tryd.prog 149 args h Q :=
  Xr Tryd.func149 rfl (enters_of Tryd.func149 (by kernel_rfl) rfl) rfl rfl (by decide) s149_strip s149_ok hsz hk
theorem isortF_call [Tabs prog] {h : Zd} {b : Nat} {L0 : List Nat} {ys : List Int} {g : FuncId} {cap : Array Value} {key : Nat → Int} (hk : ∀ x ∈ L0, -1000 ≤ key x ∧ key x ≤ 1000) (hc : ∀ L x y, x ∈ L0 → y ∈ L0 → APure prog g ([Zh x, Zh y] ++ cap.toList) (h.set b (.ints (iL L ++ ys) 3 false)) (Zh (key x - key y))) (hb : h[b]? = some (.ints (iL L0 ++ ys) 3 false)) (hl : L0.length ≤ 12) (hx : ∀ x ∈ L0, x < 4611686018427387904) :
    ACall prog 149 [ov b L0.length ys.length, .int .i64 0, Zh L0.length, .func (.func g) #[] cap] h fun _ h' => ∃ L : List Nat, L.Perm L0 ∧ L.Pairwise (fun a b => key a ≤ key b) ∧ h' = h.set b (.ints (iL L ++ ys) 3 false) := by
  have hlt := Zt hb
  have h0 : h = h.set b (.ints (iL L0 ++ ys) 3 false) := by
    apply List.ext_getElem?
    intro i
    by_cases hi : b = i
    · subst hi; rw [Ys hlt, hb]
    · rw [List.getElem?_set_ne hi]
  obtain ⟨n, hn⟩ : ∃ n, L0.length = n := ⟨_, rfl⟩
  rw [hn] at hl ⊢
  have hrange : ∀ {L : List Nat}, L.Perm L0 → ∀ i, L.getD i 0 < 4611686018427387904 := fun {L} hp i => by
    by_cases hi : i < L.length
    · rw [List.getD, List.getElem?_eq_getElem hi]; exact hx _ (hp.mem_iff.1 (List.getElem_mem hi))
    · rw [List.getD, List.getElem?_eq_none (by omega)]; decide
  refine s149_callW (by simp) ?_
  simp only [s149]
  have e01 : addV .i64 0 1 = 1 := rfl
  refine Zi fun N1 hN1 => ?_
  simp (maxSteps := 2000000) only [↓Za, ↓Zb, ↓Zc, vup, cond_true, cond_false, aop, Zf, Zm, ev, sput, Ze, Yj, Yo, Nat.reduceBEq, Nat.reduceAdd, e01]
  refine hN1 [(0, ov b n ys.length), (1, .int .i64 0), (2, Zh n), (3, .func (.func g) #[] cap), (8, .int .i64 1)] _ _ ?_ (by simp (maxSteps := 2000000) only [vup, cond_true, cond_false, Nat.reduceBEq])
  clear hN1
  try clear N1
  refine Yz ?_
  refine Ye fun Q hQ => ?_
  refine aw_loopW (γ := Nat × List Nat) (fun s => 1 ≤ s.1 ∧ (s.1 ≤ n ∨ s.1 = 1) ∧ s.2.Perm L0 ∧ SrtTo key s.2 s.1)
    (fun s => ([(0, ov b n ys.length), (1, .int .i64 0), (2, Zh n), (3, .func (.func g) #[] cap), (8, Zh s.1)], h.set b (.ints (iL s.2 ++ ys) 3 false))) (fun s => n - s.1) (1, L0) ⟨Nat.le_refl _, .inr rfl, .refl _, fun p q _ _ => by omega⟩ (by simp (maxSteps := 2000000) only [vup, cond_true, cond_false, Nat.reduceBEq, Int.natCast_one]) h0 ?_
  rintro ⟨i, L⟩ ⟨hi1, hi, hp, hs⟩
  simp only at hi1 hi hp hs
  have hLn : L.length = n := hp.length_eq.trans hn
  refine Ye fun Q2 hQ2 => ?_
  simp only [l149_1]
  by_cases hin : (i : Int) < n
  · have hi' : i < n := by omega
    refine Zi fun N2 hN2 => ?_
    simp (maxSteps := 2000000) only [↓Za, ↓Zs, ↓Zg, ↓Zb, ↓Zc, ↓vdn, vup, cond_true, cond_false, aop, Zf, ev, sput, Ze, Yj, Yo, Nat.reduceBEq, hin]
    refine hN2 [(0, ov b n ys.length), (1, .int .i64 0), (2, Zh n), (3, .func (.func g) #[] cap), (8, Zh i)] _ _ ?_ (by simp (maxSteps := 2000000) only [vup, cond_true, cond_false, Nat.reduceBEq])
    clear hN2
    try clear N2
    refine aws_cutW fun M hM => ?_
    refine Yz ?_
    refine Zi fun N3 hN3 => ?_
    simp (maxSteps := 2000000) only [↓Za, ↓Zb, ↓Zc, vup, cond_true, cond_false, aop, Zf, ev, sput, Ze, Nat.reduceBEq]
    refine hN3 [(0, ov b n ys.length), (1, .int .i64 0), (2, Zh n), (3, .func (.func g) #[] cap), (8, Zh i), (9, Zh i)] _ _ ?_ (by simp (maxSteps := 2000000) only [vup, cond_true, cond_false, Nat.reduceBEq])
    clear hN3
    try clear N3
    refine Yz ?_
    refine Ye fun Q3 hQ3 => ?_
    refine aw_loopW (γ := Nat × List Nat) (fun s => s.1 ≤ i ∧ s.2.Perm L0 ∧ SrtBut key s.2 i s.1)
      (fun s => ([(0, ov b n ys.length), (1, .int .i64 0), (2, Zh n), (3, .func (.func g) #[] cap), (8, Zh i), (9, Zh s.1)], h.set b (.ints (iL s.2 ++ ys) 3 false))) (fun s => s.1) (i, L) ⟨Nat.le_refl _, hp, fun p q h1 h2 h3 => hs p q h1 (by omega)⟩ (by simp (maxSteps := 2000000) only [vup, cond_true, cond_false, Nat.reduceBEq]) rfl ?_
    clear hp hs hLn
    rintro ⟨j, L⟩ ⟨hj, hp, hs⟩
    simp only at hj hp hs
    have hLn : L.length = n := hp.length_eq.trans hn
    have own := ov_own (h := h) (b := b) (n := n) (L := L) (ys := ys) hlt hLn
    refine Ye fun Q4 hQ4 => ?_
    simp only [l149_0]
    have fin : (j = 0 ∨ key (L.getD (j - 1) 0) ≤ key (L.getD j 0)) → ∀ e, ELe e [(0, ov b n ys.length), (1, .int .i64 0), (2, Zh n), (3, .func (.func g) #[] cap), (8, Zh i)] → M e (h.set b (.ints (iL L ++ ys) 3 false)) := by
      intro hd e he
      refine hM [(0, ov b n ys.length), (1, .int .i64 0), (2, Zh n), (3, .func (.func g) #[] cap), (8, Zh i)] _ _ ?_ he
      refine Xg ?_
      simp (maxSteps := 2000000) only [↓Za, ↓Zb, ↓Zc, vup, cond_true, cond_false, aop, ev, sput, Ze, Yj, Yo, Nat.reduceBEq, add1 (show i < 9223372036854775807 by omega)]
      exact hQ2 _ _ _ ⟨(i + 1, L), ⟨by simp only; omega, .inl (by simp only; omega), hp, hs.done hd⟩, by simp only; omega, by simp (maxSteps := 2000000) only [vup, cond_true, cond_false, Nat.reduceBEq], rfl⟩
    by_cases hj0 : j = 0
    · subst hj0
      refine Zi fun N4 hN4 => ?_
      simp (maxSteps := 2000000) only [↓Zg]
      refine Yy [(14, 1)] (by kernel_rfl) (by kernel_rfl) (by kernel_rfl) (by kernel_rfl) ?_
      simp (maxSteps := 2000000) only [↓Xa, ↓Yg, ↓vdn, vup, cond_true, cond_false, aop, Zf, ev, sput, Ze, Yj, Yo, pickK, Nat.reduceBEq, Int.natCast_zero, Int.lt_irrefl]
      refine hQ4 _ _ _ (hQ3 _ _ _ ?_)
      simp (maxSteps := 2000000) only [Zf, Zp, if_true]
      exact fin (.inl rfl) _ (by simp (maxSteps := 2000000) only [vup, cond_true, cond_false, Nat.reduceBEq])
    · have hjp : (0 : Int) < (j : Int) := by omega
      have hjn : j < (iL L).length := by rw [Xx]; omega
      have hj1n : j - 1 < (iL L).length := by omega
      have hin1 : ∀ i, i < n → L.getD i 0 ∈ L0 := fun i hi => hp.mem_iff.1 (by rw [List.getD, List.getElem?_eq_getElem (by omega), Option.getD_some]; exact List.getElem_mem _)
      have c1 := hc L _ _ (hin1 j (by omega)) (hin1 (j - 1) (by omega))
      have hk1 := hk _ (hin1 j (by omega))
      have hk2 := hk _ (hin1 (j - 1) (by omega))
      have hsub := subN1 (show 1 ≤ j by omega) (show j < 9223372036854775808 by omega)
      by_cases hlt2 : key (L.getD j 0) < key (L.getD (j - 1) 0)
      · have hneg : key (L.getD j 0) - key (L.getD (j - 1) 0) < 0 := by omega
        refine Zi fun N5 hN5 => ?_
        simp (maxSteps := 2000000) only [↓Zg]
        refine Yy [(14, 1)] (by kernel_rfl) (by kernel_rfl) (by kernel_rfl) (by kernel_rfl) ?_
        simp (maxSteps := 2000000) only [↓Yg, ↓vdn, vup, List.map_cons, List.map_nil, cond_true, cond_false, aop, Zf, ev, sput, Ze, Yj, Yo, pickK, Nat.reduceBEq, Nat.reduceAdd, tyf, hjp, hsub, own.int.idx Wg Xc hjn, own.int.load Ya hjn, own.int.idx Wg Xc hj1n, own.int.load Ya hj1n, iL_get, Yq, List.nil_append, List.cons_append]
        refine ⟨_, _, c1, rfl, ?_⟩
        simp (maxSteps := 2000000) only [↓Zs, ↓vdn, vup, cond_true, cond_false, Zf, ev, Nat.reduceBEq, hneg]
        refine hN5 [(0, ov b n ys.length), (1, .int .i64 0), (2, Zh n), (3, .func (.func g) #[] cap), (8, Zh i), (9, Zh j)] _ _ ?_ (by simp (maxSteps := 2000000) only [vup, cond_true, cond_false, Nat.reduceBEq])
        clear hN5
        try clear N5
        refine Xg ?_
        simp (maxSteps := 2000000) only [↓Zg, ↓Zx]
        refine Yy [] (by kernel_rfl) (by kernel_rfl) (by kernel_rfl) (by kernel_rfl) ?_
        have hjL : j < L.length := by omega
        simp (maxSteps := 2000000) only [↓Za, ↓Zb, ↓Zc, ↓Yg, ↓vdn, vup, cond_true, cond_false, aop, Zf, Zp, ev, sput, Ze, Yj, Yo, Nat.reduceBEq, Nat.reduceAdd, hsub, own.int.idx Wg Xc hjn, own.int.idx Wg Xc hj1n, elemP_ov, ov_load hlt hLn (show j < n by omega), ov_load hlt hLn (show j - 1 < n by omega), ov_store hlt hjL, ov_store hlt (show j - 1 < (L.set j (L.getD (j - 1) 0)).length by rw [List.length_set]; omega)]
        refine hQ4 _ _ _ ⟨(j - 1, swL L j), ⟨by simp only; omega, (swL_perm (by omega) hjL).trans hp, hs.step (by omega) hjL hj hlt2⟩, by simp only; omega, by simp (maxSteps := 2000000) only [vup, cond_true, cond_false, Nat.reduceBEq], rfl⟩
      · have hneg : ¬ key (L.getD j 0) - key (L.getD (j - 1) 0) < 0 := by omega
        refine Zi fun N6 hN6 => ?_
        simp (maxSteps := 2000000) only [↓Zg]
        refine Yy [(14, 1)] (by kernel_rfl) (by kernel_rfl) (by kernel_rfl) (by kernel_rfl) ?_
        simp (maxSteps := 2000000) only [↓Yg, ↓vdn, vup, List.map_cons, List.map_nil, cond_true, cond_false, aop, Zf, ev, sput, Ze, Yj, Yo, pickK, Nat.reduceBEq, Nat.reduceAdd, tyf, hjp, hsub, own.int.idx Wg Xc hjn, own.int.load Ya hjn, own.int.idx Wg Xc hj1n, own.int.load Ya hj1n, iL_get, Yq, List.nil_append, List.cons_append]
        refine ⟨_, _, c1, rfl, ?_⟩
        simp (maxSteps := 2000000) only [↓Xa, ↓vdn, vup, cond_true, cond_false, Zf, ev, Nat.reduceBEq, hneg]
        refine hQ4 _ _ _ (hQ3 _ _ _ ?_)
        simp (maxSteps := 2000000) only [Zf, Zp, if_true]
        exact fin (.inr (by omega)) _ (by simp (maxSteps := 2000000) only [vup, cond_true, cond_false, Nat.reduceBEq])
  · refine Zi fun M hM => ?_
    simp (maxSteps := 2000000) only [↓Za, ↓Zg, ↓Xa, ↓Zb, ↓Zc, ↓vdn, vup, cond_true, cond_false, aop, Zf, ev, sput, Ze, Yj, Yo, Nat.reduceBEq, hin]
    refine hQ2 _ _ _ (hQ _ _ _ ?_)
    simp (maxSteps := 2000000) only [Zp, Zr, Wa, if_true]
    refine ⟨L, hp, ?_, rfl⟩
    refine SrtTo.pw ?_
    rw [hLn]
    intro p q hpq hq
    exact hs p q hpq (by omega)

theorem s127_callW [Tabs Tryd.prog] {args : List Value} {h : Zd} {Q : Value → Zd → Prop} (hsz : args.length ≤ 63) (hk : AWS Tryd.prog 63 s127 (Zr Tryd.prog [] Q) (Zm 0 args) h) : ACall Tryd.prog 127 args h Q :=
  Xr Tryd.func127 rfl (enters_of Tryd.func127 (by kernel_rfl) rfl) rfl rfl (by decide) s127_strip s127_ok hsz hk
theorem stableF_call [Tabs prog] {h : Zd} {b : Nat} {L0 : List Nat} {ys : List Int} {g : FuncId} {cap : Array Value} {key : Nat → Int} (hk : ∀ x ∈ L0, -1000 ≤ key x ∧ key x ≤ 1000) (hc : ∀ L x y, x ∈ L0 → y ∈ L0 → APure prog g ([Zh x, Zh y] ++ cap.toList) (h.set b (.ints (iL L ++ ys) 3 false)) (Zh (key x - key y))) (hb : h[b]? = some (.ints (iL L0 ++ ys) 3 false)) (hl : L0.length ≤ 12) (hx : ∀ x ∈ L0, x < 4611686018427387904) :
    ACall prog 127 [ov b L0.length ys.length, Zh L0.length, .func (.func g) #[] cap] h fun _ h' => ∃ L : List Nat, L.Perm L0 ∧ L.Pairwise (fun a b => key a ≤ key b) ∧ h' = h.set b (.ints (iL L ++ ys) 3 false) := by
  have n20 : ¬ (20 : Int) ≤ (L0.length : Int) := by omega
  have n20' : ¬ (20 : Int) < (L0.length : Int) := by omega
  refine s127_callW (by simp) ?_
  simp only [s127]
  refine Zi fun N7 hN7 => ?_
  simp (maxSteps := 2000000) only [↓Za, ↓Zb, ↓Zc, vup, cond_false, aop, Zf, Zm, ev, sput, Ze, Nat.reduceBEq, Nat.reduceAdd]
  refine hN7 [(0, ov b L0.length ys.length), (1, Zh L0.length), (2, .func (.func g) #[] cap), (6, .int .i64 20)] _ _ ?_ (by simp (maxSteps := 2000000) only [vup, cond_true, cond_false, Nat.reduceBEq])
  clear hN7
  try clear N7
  refine Zi fun N8 hN8 => ?_
  simp (maxSteps := 2000000) only [↓Za, ↓Zb, ↓Zc, vup, cond_true, cond_false, aop, Zf, ev, sput, Ze, Nat.reduceBEq]
  refine hN8 [(0, ov b L0.length ys.length), (1, Zh L0.length), (2, .func (.func g) #[] cap), (6, .int .i64 20), (7, .int .i64 0), (8, .int .i64 20)] _ _ ?_ (by simp (maxSteps := 2000000) only [vup, cond_true, cond_false, Nat.reduceBEq])
  clear hN8
  try clear N8
  refine aws_cutW fun M hM => ?_
  refine Yz ?_
  refine Ye fun Q hQ => ?_
  refine aw_loopW (γ := Unit) (fun _ => True) (fun _ => ([(0, ov b L0.length ys.length), (1, Zh L0.length), (2, .func (.func g) #[] cap), (6, .int .i64 20), (7, .int .i64 0), (8, .int .i64 20)], h)) (fun _ => 0) () trivial (by simp (maxSteps := 2000000) only [vup, cond_true, cond_false, Nat.reduceBEq]) rfl ?_
  rintro _ _
  refine Ye fun Q2 hQ2 => ?_
  simp only [l127_0]
  refine Zi fun N9 hN9 => ?_
  simp (maxSteps := 2000000) only [↓Za, ↓Zg, ↓Xa, ↓Zb, ↓Zc, ↓vdn, vup, cond_true, cond_false, aop, Zf, ev, sput, Ze, Yj, Yo, Nat.reduceBEq, n20]
  refine hQ2 _ _ _ (hQ _ _ _ ?_)
  simp (maxSteps := 2000000) only [Zf, Zp, Zr, if_true]
  refine hM [(0, ov b L0.length ys.length), (1, Zh L0.length), (2, .func (.func g) #[] cap), (6, .int .i64 20), (7, .int .i64 0), (8, .int .i64 20)] _ _ ?_ (by simp (maxSteps := 2000000) only [vup, cond_true, cond_false, Nat.reduceBEq])
  clear hM
  try clear M
  refine Zi fun N10 hN10 => ?_
  simp (maxSteps := 2000000) only [↓Za, ↓Zb, ↓Zc, vup, List.map_cons, List.map_nil, cond_true, cond_false, aop, Zf, ev, sput, Ze, Nat.reduceBEq, Yq, List.nil_append, List.append_nil]
  refine (isortF_call hk hc hb hl hx).mono ?_
  rintro r h' hr
  refine hN10 [(0, ov b L0.length ys.length), (1, Zh L0.length), (2, .func (.func g) #[] cap), (6, .int .i64 20), (7, .int .i64 0), (8, .int .i64 20)] _ _ ?_ (by simp (maxSteps := 2000000) only [vup, cond_true, cond_false, Nat.reduceBEq])
  clear hN10
  try clear N10
  refine Yz ?_
  refine Ye fun Q hQ => ?_
  refine aw_loopW (γ := Unit) (fun _ => True) (fun _ => ([(0, ov b L0.length ys.length), (1, Zh L0.length), (2, .func (.func g) #[] cap), (6, .int .i64 20), (7, .int .i64 0), (8, .int .i64 20)], h')) (fun _ => 0) () trivial (by simp (maxSteps := 2000000) only [vup, cond_true, cond_false, Nat.reduceBEq]) rfl ?_
  rintro _ _
  refine Ye fun Q2 hQ2 => ?_
  simp only [l127_2]
  refine Zi fun N11 hN11 => ?_
  simp (maxSteps := 2000000) only [↓Za, ↓Zg, ↓Xa, ↓Zb, ↓Zc, ↓vdn, vup, cond_true, cond_false, aop, Zf, ev, sput, Ze, Yj, Yo, Nat.reduceBEq, n20']
  refine hQ2 _ _ _ (hQ _ _ _ ?_)
  simp (maxSteps := 2000000) only [Zp, Zr, Wa, if_true]
  exact hr
theorem s80_callW [Tabs Tryd.prog] {args : List Value} {h : Zd} {Q : Value → Zd → Prop} (hsz : args.length ≤ 9) (hk : AWS Tryd.prog 9 s80 (Zr Tryd.prog [] Q) (Zm 0 args) h) : ACall Tryd.prog 80 args h Q :=
  Xr Tryd.func80 rfl (enters_of Tryd.func80 (by kernel_rfl) rfl) rfl rfl (by decide) s80_strip s80_ok hsz hk
theorem sortF_call [Tabs prog] {h : Zd} {b : Nat} {L0 : List Nat} {ys : List Int} {g : FuncId} {cap : Array Value} {key : Nat → Int} (hk : ∀ x ∈ L0, -1000 ≤ key x ∧ key x ≤ 1000) (hc : ∀ L x y, x ∈ L0 → y ∈ L0 → APure prog g ([Zh x, Zh y] ++ cap.toList) (h.set b (.ints (iL L ++ ys) 3 false)) (Zh (key x - key y))) (hb : h[b]? = some (.ints (iL L0 ++ ys) 3 false)) (hl : L0.length ≤ 12) (hx : ∀ x ∈ L0, x < 4611686018427387904) :
    ACall prog 80 [ov b L0.length ys.length, .func (.func g) #[] cap] h fun _ h' => ∃ L : List Nat, L.Perm L0 ∧ L.Pairwise (fun a b => key a ≤ key b) ∧ h' = h.set b (.ints (iL L ++ ys) 3 false) := by
  refine s80_callW (by simp) ?_
  refine Xg ?_
  simp (maxSteps := 2000000) only [s80, ↓Za, ↓Zb, ↓Zc, vup, List.map_cons, List.map_nil, cond_true, cond_false, aop, Zm, ev, sput, Ze, Zj, Nat.reduceBEq, Nat.reduceAdd, Zr, Wa, tyf, Yq, List.nil_append, List.append_nil, lenK]
  refine (stableF_call hk hc hb hl hx).mono ?_
  rintro r h' hr
  exact hr
end Go.Proofs.Tryd.Am.Ra

namespace Go.Proofs.Tryd.Am.Ra
open Go.Proofs.Tryd.Am
open Go.Am Rb
set_option maxRecDepth 100000
set_option maxHeartbeats 1000000

/-- Each number is at least the one before it. -/
def srt (xs : List Int) : Bool := (List.range xs.length).all fun j => j == 0 || decide (xs.getD (j - 1) 0 ≤ xs.getD j 0)
def isS (xs : List Int) : Bool := decide (1 ≤ xs.length) && decide (xs.length ≤ 8) && srt xs && xs.all fun x => decide (0 ≤ x) && decide (x ≤ 7)
theorem srt_iff {xs : List Int} : srt xs = true ↔ ∀ j, j + 1 < xs.length → xs.getD j 0 ≤ xs.getD (j + 1) 0 := by
  rw [srt, List.all_eq_true]
  constructor
  · intro h j hj
    simpa using h (j + 1) (List.mem_range.2 hj)
  · intro h j hj
    cases j with
    | zero => rfl
    | succ j => simpa using h j (List.mem_range.1 hj)
theorem srt_le {xs : List Int} (h : srt xs = true) : ∀ k i, i + k < xs.length → xs.getD i 0 ≤ xs.getD (i + k) 0
  | 0, i, _ => Int.le_refl _
  | k + 1, i, hk => Int.le_trans (srt_le h k i (by omega)) (srt_iff.1 h (i + k) (by omega))
theorem srt_pw {xs : List Int} (h : srt xs = true) : xs.Pairwise (· ≤ ·) := by
  rw [List.pairwise_iff_getElem]
  intro i j hi hj hij
  have := srt_le h (j - i) i (by omega)
  have e : i + (j - i) = j := by omega
  rw [e, List.getD, List.getD, List.getElem?_eq_getElem hi, List.getElem?_eq_getElem hj] at this
  exact this
theorem s79_callW [Tabs Tryd.prog] {args : List Value} {h : Zd} {Q : Value → Zd → Prop} (hsz : args.length ≤ 21) (hk : AWS Tryd.prog 21 s79 (Zr Tryd.prog [.tmp 2] Q) (Zm 0 args) h) : ACall Tryd.prog 79 args h Q :=
  Xr Tryd.func79 rfl (enters_of Tryd.func79 (by kernel_rfl) rfl) rfl rfl (by decide) s79_strip s79_ok hsz hk
theorem issorted_call [Tabs prog] {h : Zd} {v : Value} {xs : List Int} (hv : IntSl h v xs) (hl : xs.length < 9223372036854775808) : APure prog 79 [v] h (.bool (srt xs)) := by
  have hsub : subV .i64 (xs.length : Int) 1 = (xs.length : Int) - 1 := subV_id (by omega) (by omega)
  refine s79_callW (by simp) ?_
  simp only [s79]
  refine Zi fun N1 hN1 => ?_
  simp (maxSteps := 2000000) only [↓Za, ↓Zb, ↓Zc, vup, cond_false, aop, Zf, Zm, ev, sput, Ze, Nat.reduceBEq]
  refine hN1 [(0, v), (2, .bool false)] _ _ ?_ (by simp (maxSteps := 2000000) only [vup, cond_true, cond_false, Nat.reduceBEq])
  clear hN1
  try clear N1
  refine Zi fun Z hZ => ?_
  simp (maxSteps := 2000000) only [↓Za, ↓Zg, ↓Zx, ↓Zb, ↓Zc, vup, List.map_cons, List.map_nil, cond_true, cond_false, aop, Zf, ev, sput, Ze, Yj, Yo, Zj, Nat.reduceBEq, tyf, hv.len, hsub, ↓Yw]
  refine Ye fun Q hQ => ?_
  refine aw_loopW (γ := Nat) (fun k => k ≤ xs.length ∧ ∀ j, k ≤ j → 1 ≤ j → j < xs.length → xs.getD (j - 1) 0 ≤ xs.getD j 0)
    (fun k => ([(0, v), (2, .bool false), (3, Zh ((k : Int) - 1))], h)) (fun k => k) xs.length ⟨Nat.le_refl _, fun j h1 _ h2 => by omega⟩ (by simp (maxSteps := 2000000) only [vup, cond_true, cond_false, Nat.reduceBEq]) rfl ?_
  rintro k ⟨hk, hs⟩
  refine Ye fun Q2 hQ2 => ?_
  simp only [l79_0]
  by_cases hk1 : (0 : Int) < (k : Int) - 1
  · have e1 : (k : Int) - 1 = ((k - 1 : Nat) : Int) := by omega
    have e2 : subV .i64 ((k - 1 : Nat) : Int) 1 = ((k - 2 : Nat) : Int) := by rw [subV_id (by omega) (by omega)]; omega
    have hi1 : k - 1 < xs.length := by omega
    have hi2 : k - 2 < xs.length := by omega
    refine Zi fun N2 hN2 => ?_
    simp (maxSteps := 2000000) only [↓Za, ↓Zs, ↓Zg, ↓Zb, ↓Zc, ↓vdn, vup, cond_true, cond_false, aop, Zf, ev, sput, Ze, Yj, Yo, Nat.reduceBEq, hk1]
    refine hN2 [(0, v), (2, .bool false), (3, Zh ((k : Int) - 1))] _ _ ?_ (by simp (maxSteps := 2000000) only [vup, cond_true, cond_false, Nat.reduceBEq])
    clear hN2
    try clear N2
    refine aws_cutW fun N3 hN3 => ?_
    refine Yz ?_
    refine Zi fun N4 hN4 => ?_
    rw [e1]
    refine Yy [(9, 1)] (by kernel_rfl) (by kernel_rfl) (by kernel_rfl) (by kernel_rfl) ?_
    simp (maxSteps := 2000000) only [↓Yg, ↓vdn, vup, List.map_cons, List.map_nil, cond_true, cond_false, aop, Zf, ev, sput, Ze, Yj, Yo, Nat.reduceBEq, Nat.reduceAdd, hv.idx Wg Xc hi1, hv.load Ya hi1, e2, hv.idx Wg Xc hi2, hv.load Ya hi2, Yq, List.nil_append, List.append_nil]
    refine ⟨_, _, less_call, rfl, ?_⟩
    cases hlt : decide (xs.getD (k - 1) 0 < xs.getD (k - 2) 0) with
    | true =>
      have hno : srt xs = false := by
        cases h : srt xs with
        | false => rfl
        | true =>
          have := srt_iff.1 h (k - 2) (by omega)
          have e : k - 2 + 1 = k - 1 := by omega
          rw [e] at this
          have := of_decide_eq_true hlt; omega
      refine hN4 [(0, v), (2, .bool false), (3, Zh ((k - 1 : Nat) : Int)), (20, .bool true)] _ _ ?_ (by simp (maxSteps := 2000000) only [vup, cond_true, cond_false, Nat.reduceBEq])
      clear hN4
      try clear N4
      refine Xg ?_
      simp (maxSteps := 2000000) only [↓Za, ↓Zg, ↓Zv, ↓Zb, ↓Zc, ↓vdn, vup, cond_true, cond_false, aop, Zf, Zp, ev, sput, Ze, Nat.reduceBEq]
      refine hQ2 _ _ _ (hQ _ _ _ ?_)
      simp (maxSteps := 2000000) only [vup, cond_true, cond_false, Zf, Zp, Nat.reduceBEq, Zr, Wa, tup, hno]
    | false =>
      refine hN4 [(0, v), (2, .bool false), (3, Zh ((k - 1 : Nat) : Int)), (20, .bool false)] _ _ ?_ (by simp (maxSteps := 2000000) only [vup, cond_true, cond_false, Nat.reduceBEq])
      clear hN4
      try clear N4
      refine Xg ?_
      simp (maxSteps := 2000000) only [↓Zs, ↓vdn, vup, cond_true, cond_false, Zf, Zp, ev, Nat.reduceBEq]
      refine hN3 [(0, v), (2, .bool false), (3, Zh ((k - 1 : Nat) : Int))] _ _ ?_ (by simp (maxSteps := 2000000) only [vup, cond_true, cond_false, Nat.reduceBEq])
      clear hN3
      try clear N3
      refine Xg ?_
      have e3 : subV .i64 ((k - 1 : Nat) : Int) 1 = ((k - 1 : Nat) : Int) - 1 := subV_id (by omega) (by omega)
      simp (maxSteps := 2000000) only [↓Za, ↓Zb, ↓Zc, vup, cond_true, cond_false, aop, ev, sput, Ze, Yj, Yo, Nat.reduceBEq, e3]
      refine hQ2 _ _ _ ⟨k - 1, ⟨by omega, fun j h1 h2 h3 => ?_⟩, by omega, by simp (maxSteps := 2000000) only [vup, cond_true, cond_false, Nat.reduceBEq], rfl⟩
      by_cases hj : k ≤ j
      · exact hs j hj h2 h3
      · obtain rfl : j = k - 1 := by omega
        have := of_decide_eq_false hlt
        have e : k - 1 - 1 = k - 2 := by omega
        rw [e]; omega
  · have hsr : srt xs = true := srt_iff.2 fun j hj => by
      have := hs (j + 1) (by omega) (by omega) hj
      simpa using this
    refine Zi fun N5 hN5 => ?_
    simp (maxSteps := 2000000) only [↓Za, ↓Zg, ↓Xa, ↓Zb, ↓Zc, ↓vdn, vup, cond_true, cond_false, aop, Zf, ev, sput, Ze, Yj, Yo, Nat.reduceBEq, hk1]
    refine hQ2 _ _ _ (hQ _ _ _ ?_)
    simp (maxSteps := 2000000) only [Zf, Zp, Zr, if_true]
    refine hZ [(0, v), (2, .bool false), (3, Zh ((k : Int) - 1))] _ _ ?_ (by simp (maxSteps := 2000000) only [vup, cond_true, cond_false, Nat.reduceBEq])
    clear hZ
    try clear Z
    refine Xg ?_
    simp (maxSteps := 2000000) only [↓Za, ↓Zg, ↓Zv, ↓Zb, ↓Zc, vup, cond_true, cond_false, aop, Zf, ev, sput, Ze, Nat.reduceBEq, Zr, Wa, tup, hsr]
theorem s81_callW [Tabs Tryd.prog] {args : List Value} {h : Zd} {Q : Value → Zd → Prop} (hsz : args.length ≤ 15) (hk : AWS Tryd.prog 15 s81 (Zr Tryd.prog [.tmp 5] Q) (Zm 0 args) h) : ACall Tryd.prog 81 args h Q :=
  Xr Tryd.func81 rfl (enters_of Tryd.func81 (by kernel_rfl) rfl) rfl rfl (by decide) s81_strip s81_ok hsz hk
theorem make1_call [Tabs prog] {h : Zd} {bx bn n x y : Nat} {nd : List Int} (hbx : h[bx]? = some (.cells [.slice (some ⟨bn, 0, some 0⟩) n n] 27 false)) (hn : h[bn]? = some (.ints nd 3 false)) (hl : nd.length = n) (hx : x < n) (hy : y < n)
    (h1 : -100 ≤ nd.getD x 0 ∧ nd.getD x 0 ≤ 100) (h2 : -100 ≤ nd.getD y 0 ∧ nd.getD y 0 ≤ 100) : APure prog 81 [Zh x, Zh y, .pointer (some ⟨bx, 0, none⟩)] h (Zh (nd.getD x 0 - nd.getD y 0)) := by
  have ld : ∀ {K : Value → Prop}, Xd prog h 27 (.pointer (some ⟨bx, 0, none⟩)) K = K (.slice (some ⟨bn, 0, some 0⟩) n n) := fun {K} => loadC (o := 0) hbx We rfl
  have hsub : subV .i64 (nd.getD x 0) (nd.getD y 0) = nd.getD x 0 - nd.getD y 0 := subV_id (by omega) (by omega)
  have hx' : x < nd.length := by omega
  have hy' : y < nd.length := by omega
  refine s81_callW (by simp) ?_
  simp only [s81]
  refine Zi fun N6 hN6 => ?_
  simp (maxSteps := 2000000) only [↓Za, ↓Zb, ↓Zc, vup, cond_false, aop, Zf, Zm, ev, sput, Ze, Nat.reduceBEq, Nat.reduceAdd]
  refine hN6 [(0, Zh x), (1, Zh y), (2, .pointer (some ⟨bx, 0, none⟩)), (5, .int .i64 0)] _ _ ?_ (by simp (maxSteps := 2000000) only [vup, cond_true, cond_false, Nat.reduceBEq])
  clear hN6
  try clear N6
  refine Zi fun N7 hN7 => ?_
  refine Yy [] (by kernel_rfl) (by kernel_rfl) (by kernel_rfl) (by kernel_rfl) ?_
  simp (maxSteps := 2000000) only [↓Yg, ↓vdn, vup, cond_true, cond_false, aop, Zf, ev, sput, Ze, Yj, Yo, Nat.reduceBEq, Nat.reduceAdd, tyf, ld, idxW hx, idxW hy, loadX hn hx', loadX hn hy', hsub]
  refine hN7 [(0, Zh x), (1, Zh y), (2, .pointer (some ⟨bx, 0, none⟩)), (5, Zh (nd.getD x 0 - nd.getD y 0))] _ _ ?_ (by simp (maxSteps := 2000000) only [vup, cond_true, cond_false, Nat.reduceBEq])
  clear hN7
  try clear N7
  refine Xg ?_
  simp (maxSteps := 2000000) only [↓Zv, vup, cond_true, cond_false, Nat.reduceBEq, Zr, Wa, tup]
theorem s83_callW [Tabs Tryd.prog] {args : List Value} {h : Zd} {Q : Value → Zd → Prop} (hsz : args.length ≤ 9) (hk : AWS Tryd.prog 9 s83 (Zr Tryd.prog [.tmp 4] Q) (Zm 0 args) h) : ACall Tryd.prog 83 args h Q :=
  Xr Tryd.func83 rfl (enters_of Tryd.func83 (by kernel_rfl) rfl) rfl rfl (by decide) s83_strip s83_ok hsz hk
theorem make2_call [Tabs prog] {h : Zd} {x y : Int} (h0 : 0 ≤ x) (h1 : x < 256) : APure prog 83 [Zh x, Zh y] h (.bool (decide ((scr x : Int) = y))) := by
  have hc := count_call (h := h) (show x.toNat < 256 by omega)
  rw [show ((x.toNat : Nat) : Int) = x by omega] at hc
  refine s83_callW (by simp) ?_
  simp only [s83]
  refine Zi fun N8 hN8 => ?_
  simp (maxSteps := 2000000) only [↓Za, ↓Zb, ↓Zc, vup, cond_false, aop, Zf, Zm, ev, sput, Ze, Nat.reduceBEq, Nat.reduceAdd]
  refine hN8 [(0, Zh x), (1, Zh y), (4, .bool false)] _ _ ?_ (by simp (maxSteps := 2000000) only [vup, cond_true, cond_false, Nat.reduceBEq])
  clear hN8
  try clear N8
  refine Zi fun N9 hN9 => ?_
  simp (maxSteps := 2000000) only [↓Za, ↓Zb, ↓Zc, vup, List.map_cons, List.map_nil, cond_true, cond_false, aop, Zf, ev, sput, Ze, Yj, Yo, Nat.reduceBEq, tyf, Yq, List.nil_append, List.append_nil]
  refine (hc).mono ?_
  rintro _ h ⟨rfl, rfl⟩
  have e : ((((Am.bits x.toNat).length : Nat) : Int) == y) = decide ((scr x : Int) = y) := by rw [scr]; rfl
  simp (maxSteps := 2000000) only [vup, e]
  refine hN9 [(0, Zh x), (1, Zh y), (4, .bool (decide ((scr x : Int) = y)))] _ _ ?_ (by simp (maxSteps := 2000000) only [vup, cond_true, cond_false, Nat.reduceBEq])
  clear hN9
  try clear N9
  refine Xg ?_
  simp (maxSteps := 2000000) only [↓Zv, vup, cond_true, cond_false, Nat.reduceBEq, Zr, Wa, tup]
end Go.Proofs.Tryd.Am.Ra

namespace Go.Proofs.Tryd.Am.Ra
open Go.Proofs.Tryd.Am
open Go.Am Rb
set_option maxRecDepth 100000
set_option maxHeartbeats 1000000

theorem s82_callW [Tabs Tryd.prog] {args : List Value} {h : Zd} {Q : Value → Zd → Prop} (hsz : args.length ≤ 32) (hk : AWS Tryd.prog 32 s82 (Zr Tryd.prog [.tmp 6] Q) (Zm 0 args) h) : ACall Tryd.prog 82 args h Q :=
  Xr Tryd.func82 rfl (enters_of Tryd.func82 (by kernel_rfl) rfl) rfl rfl (by decide) s82_strip s82_ok hsz hk
theorem equalf_call [Tabs prog] {h : Zd} {v w : Value} {ts xs : List Int} (hv : IntSl h v ts) (hw : IntSl h w xs) (hl : ts.length = xs.length) (hl2 : xs.length ≤ 8) (hr : ∀ i, i < xs.length → 0 ≤ ts.getD i 0 ∧ ts.getD i 0 < 256) (hs : ∀ i, i < xs.length → (scr (ts.getD i 0) : Int) = xs.getD i 0) :
    APure prog 82 [v, w, .func (.func 83) #[] #[]] h (.bool true) := by
  have hne : ((ts.length : Int) != (xs.length : Int)) = false := by rw [hl]; exact bne_self_eq_false _
  refine s82_callW (by simp) ?_
  simp only [s82]
  refine Zi fun N1 hN1 => ?_
  simp (maxSteps := 2000000) only [↓Za, ↓Zb, ↓Zc, vup, cond_false, aop, Zf, Zm, ev, sput, Ze, Nat.reduceBEq, Nat.reduceAdd]
  refine hN1 [(0, v), (1, w), (2, .func (.func 83) #[] #[]), (6, .bool false)] _ _ ?_ (by simp (maxSteps := 2000000) only [vup, cond_true, cond_false, Nat.reduceBEq])
  clear hN1
  try clear N1
  refine Zi fun N2 hN2 => ?_
  simp (maxSteps := 2000000) only [↓Za, ↓Zs, ↓Zg, ↓Zv, ↓Zb, ↓Zc, ↓vdn, vup, List.map_cons, List.map_nil, cond_true, cond_false, aop, Zf, ev, sput, Ze, Yj, Yo, Zj, Nat.reduceBEq, Zr, Wa, tup, tyf, hv.len, hw.len, hne]
  refine hN2 [(0, v), (1, w), (2, .func (.func 83) #[] #[]), (6, .bool false)] _ _ ?_ (by simp (maxSteps := 2000000) only [vup, cond_true, cond_false, Nat.reduceBEq])
  clear hN2
  try clear N2
  refine Zi fun Z hZ => ?_
  simp (maxSteps := 2000000) only [↓Za, ↓Zg, ↓Zx, ↓Zb, ↓Zc, vup, List.map_cons, List.map_nil, cond_true, cond_false, aop, Zf, ev, sput, Ze, Zj, Nat.reduceBEq, tyf, hv.len, ↓Yw]
  refine Ye fun Q hQ => ?_
  refine Wo (γ := Nat) (fun k => k ≤ ts.length)
    (fun k => ([(0, v), (1, w), (2, .func (.func 83) #[] #[]), (6, .bool false), (15, v), (16, Zh ts.length), (17, Zh k)], h)) (fun k => ts.length - k) 0 (Nat.zero_le _) (by simp (maxSteps := 2000000) only [vup, cond_true, cond_false, Nat.reduceBEq, Int.natCast_zero]) rfl ?_
  intro k hk
  refine Wp fun Q2 hQ2 => ?_
  by_cases hkn : (k : Int) < ts.length
  · have hk1 : k < ts.length := by omega
    have hk2 : k < xs.length := by omega
    have c := make2_call (h := h) (y := xs.getD k 0) (hr k hk2).1 (hr k hk2).2
    rw [decide_eq_true (hs k hk2)] at c
    simp (maxSteps := 2000000) only [↓Za, ↓Zs, ↓Zg, ↓Zx, ↓Zb, ↓Zc, ↓vdn, vup, List.map_cons, List.map_nil, cond_true, cond_false, aop, Zf, ev, sput, Ze, Yj, Yo, unK, Nat.reduceBEq, l82_0, hkn, hv.idx el_131 Xc hk1, hv.load Ya hk1, hw.idx Wg Xc hk2, hw.load Ya hk2, Yq, List.nil_append, List.append_nil]
    refine c.mono ?_
    rintro _ h ⟨rfl, rfl⟩
    simp (maxSteps := 2000000) only [↓Za, ↓Zs, ↓Zb, ↓Zc, ↓vdn, vup, cond_true, cond_false, aop, Zf, Zp, ev, sput, Ze, Yj, Yo, Nat.reduceBEq, add1 (show k < 9223372036854775807 by omega)]
    exact hQ2 _ _ _ ⟨k + 1, by omega, by omega, by simp (maxSteps := 2000000) only [vup, cond_true, cond_false, Nat.reduceBEq], rfl⟩
  · obtain rfl : k = ts.length := by omega
    simp (maxSteps := 2000000) only [↓Za, ↓Zg, ↓Xa, ↓Zb, ↓Zc, ↓vdn, vup, cond_true, cond_false, aop, Zf, ev, sput, Ze, Yj, Yo, Nat.reduceBEq, l82_0, Int.lt_irrefl]
    refine hQ2 _ _ _ (hQ _ _ _ ?_)
    simp (maxSteps := 2000000) only [Zf, Zp, Zr, if_true]
    refine hZ [(0, v), (1, w), (2, .func (.func 83) #[] #[]), (6, .bool false)] _ _ ?_ (by simp (maxSteps := 2000000) only [vup, cond_true, cond_false, Nat.reduceBEq])
    clear hZ
    try clear Z
    refine Xg ?_
    simp (maxSteps := 2000000) only [↓Za, ↓Zg, ↓Zv, ↓Zb, ↓Zc, vup, cond_true, cond_false, aop, Zf, ev, sput, Ze, Nat.reduceBEq, Zr, Wa, tup]

/-- What the making stands on: the wins to come, in a box; the tournament. -/
structure MS (h hp : Zd) (bx bn bt n : Nat) (nd ts : List Int) : Prop where
  box : hp[bx]? = some (.cells [.slice (some ⟨bn, 0, some 0⟩) n n] 27 false)
  nn : hp[bn]? = some (.ints nd 3 false)
  tt : hp[bt]? = some (.ints ts 3 false)
  E : Ext (fun _ => False) h hp
  ge : h.length ≤ bx ∧ h.length ≤ bn ∧ h.length ≤ bt
  ne : bx ≠ bn ∧ bx ≠ bt ∧ bn ≠ bt
section
variable {h hp : Zd} {bx bn bt n : Nat} {nd ts : List Int}
theorem MS.setT (m : MS h hp bx bn bt n nd ts) (t2 : List Int) : MS h (hp.set bt (.ints t2 3 false)) bx bn bt n nd t2 :=
  ⟨by rw [List.getElem?_set_ne (Ne.symm m.ne.2.1)]; exact m.box, by rw [List.getElem?_set_ne (Ne.symm m.ne.2.2)]; exact m.nn, Ys (Zt m.tt) _, m.E.set_ge m.ge.2.2 _, m.ge, m.ne⟩
theorem MS.setN (m : MS h hp bx bn bt n nd ts) (d2 : List Int) : MS h (hp.set bn (.ints d2 3 false)) bx bn bt n d2 ts :=
  ⟨by rw [List.getElem?_set_ne (Ne.symm m.ne.1)]; exact m.box, Ys (Zt m.nn) _, by rw [List.getElem?_set_ne m.ne.2.2]; exact m.tt, m.E.set_ge m.ge.2.1 _, m.ge, m.ne⟩
theorem MS.setL (m : MS h hp bx bn bt n nd ts) {b : Nat} (hb : h.length ≤ b) (h1 : b ≠ bx) (h2 : b ≠ bn) (h3 : b ≠ bt) (B : Blk) : MS h (hp.set b B) bx bn bt n nd ts :=
  ⟨by rw [List.getElem?_set_ne h1]; exact m.box, by rw [List.getElem?_set_ne h2]; exact m.nn, by rw [List.getElem?_set_ne h3]; exact m.tt, m.E.set_ge hb _, m.ge, m.ne⟩
theorem MS.ld (m : MS h hp bx bn bt n nd ts) {K : Value → Prop} : Xd prog hp 27 (.pointer (some ⟨bx, 0, none⟩)) K = K (.slice (some ⟨bn, 0, some 0⟩) n n) := loadC (o := 0) m.box We rfl
end
theorem idxT {b n : Nat} {K : Value → Prop} {k : Nat} (hk : k < n) : Yd prog 131 (tv b n) (Zh (k : Nat)) K = K (.pointer (some ⟨b, k, none⟩)) := by
  simp only [Yd, el_131, Xc, Int.natCast_nonneg, Int.toNat_natCast, Nat.mul_one, Nat.zero_add, true_and, Int.ofNat_lt.2 hk]
theorem or_orT {n : Nat} {t : List Int} {i j : Nat} (hn : n ≤ 8) (h0 : 0 ≤ t.getD i 0 ∧ t.getD i 0 < 2 ^ n) (hj : j < n) : Xz .or .i64 (t.getD i 0) (shlV .i64 1 ((j : Nat) : Int)) = (((t.getD i 0).toNat ||| 2 ^ j : Nat) : Int) := by
  have e : ((2 : Int) ^ n) = ((2 ^ n : Nat) : Int) := by simp
  have h8 := pow8N hn
  have h2 : 2 ^ j < 2 ^ 8 := Nat.pow_lt_pow_right (by decide) (by omega)
  rw [e] at h0
  rw [shlI1 (by omega)]
  have := bitsV_or (a := (t.getD i 0).toNat) (b := 2 ^ j) (by omega) (by omega)
  rw [← this, Int.toNat_of_nonneg h0.1]

open Classical in
/-- The wins to come, k players into a round: the first d keep theirs. -/
def ndK (r : List Nat) (d : Nat) (nd : List Int) (k : Nat) (nk : List Int) : Prop := nk.length = nd.length ∧ ∀ i, nk.getD i 0 = nd.getD i 0 - if ∃ j, d ≤ j ∧ j < k ∧ r[j]? = some i then 1 else 0
theorem ndK_step {r : List Nat} {d : Nat} {nd nk : List Int} {k i : Nat} (hr : r.Nodup) (h : ndK r d nd k nk) (hk : r[k]? = some i) (hi : i < nd.length) (hd : d ≤ k) : ndK r d nd (k + 1) (nk.set i (nk.getD i 0 - 1)) := by
  refine ⟨by rw [List.length_set, h.1], fun x => ?_⟩
  have hkl : k < r.length := (List.getElem?_eq_some_iff.1 hk).1
  by_cases hx : x = i
  · subst hx
    rw [List.getD, List.getElem?_set_self (by rw [h.1]; exact hi), Option.getD_some, h.2 x, if_neg, if_pos ⟨k, hd, by omega, hk⟩]
    · omega
    · rintro ⟨j, _, hj, hjx⟩
      have hjl : j < r.length := by omega
      rw [List.getElem?_eq_getElem hkl] at hk
      rw [List.getElem?_eq_getElem hjl] at hjx
      have := (List.nodup_iff_pairwise_ne.1 hr)
      exact absurd ((Option.some.inj hjx).trans (Option.some.inj hk).symm) ((List.pairwise_iff_getElem.1 this) j k hjl hkl hj)
  · rw [List.getD, List.getElem?_set_ne (Ne.symm hx)]
    refine (h.2 x).trans ?_
    congr 1
    by_cases he : ∃ j, d ≤ j ∧ j < k ∧ r[j]? = some x
    · obtain ⟨j, h1, h2, h3⟩ := he
      rw [if_pos ⟨j, h1, h2, h3⟩, if_pos ⟨j, h1, by omega, h3⟩]
    · rw [if_neg he, if_neg]
      rintro ⟨j, h1, h2, h3⟩
      by_cases hj : j < k
      · exact he ⟨j, h1, hj, h3⟩
      · obtain rfl : j = k := by omega
        rw [hk] at h3; exact hx (Option.some.inj h3).symm
theorem ndK_keep {r : List Nat} {d : Nat} {nd nk : List Int} {k : Nat} (h : ndK r d nd k nk) (hd : k < d) : ndK r d nd (k + 1) nk := by
  refine ⟨h.1, fun x => (h.2 x).trans ?_⟩
  rw [if_neg (by rintro ⟨j, h1, h2, _⟩; omega), if_neg (by rintro ⟨j, h1, h2, _⟩; omega)]
/-- Who has not met, and what is to come, k players into a round. -/
def UK (r : List Nat) (top k : Nat) (i j : Nat) : Prop := (i ∈ r ∧ j ∈ r) ∨ (i = top ∧ j ∈ r.drop k) ∨ (j = top ∧ i ∈ r.drop k)
def wK (r : List Nat) (top d k : Nat) (nk : List Int) (i : Nat) : Int := if i ∈ r then nk.getD i 0 else if i = top then (d : Int) - (min k d : Nat) else 0
theorem drop_mem {r : List Nat} {k i x : Nat} (hr : r.Nodup) (hk : r[k]? = some i) : x ∈ r.drop (k + 1) ↔ x ∈ r.drop k ∧ x ≠ i := by
  obtain ⟨hkl, rfl⟩ := List.getElem?_eq_some_iff.1 hk
  rw [List.drop_eq_getElem_cons hkl]
  have hn := hr.sublist (List.drop_sublist k r)
  rw [List.drop_eq_getElem_cons hkl] at hn
  rw [List.nodup_cons] at hn
  constructor
  · exact fun h => ⟨List.mem_cons_of_mem _ h, fun e => hn.1 (e ▸ h)⟩
  · rintro ⟨h, hne⟩
    rcases List.mem_cons.1 h with h | h
    · exact absurd h hne
    · exact h
theorem UK_step {r : List Nat} {top k i : Nat} (hr : r.Nodup) (ht : top ∉ r) (hk : r[k]? = some i) (a b : Nat) : UK r top (k + 1) a b ↔ UK r top k a b ∧ ¬ (a = top ∧ b = i) ∧ ¬ (a = i ∧ b = top) := by
  have hir : i ∈ r := List.mem_of_getElem? hk
  have hti : top ≠ i := fun e => ht (e ▸ hir)
  have ht2 : ∀ m, top ∉ r.drop m := fun m h => ht (List.mem_of_mem_drop h)
  rw [UK, UK, drop_mem hr hk, drop_mem hr hk]
  constructor
  · rintro (⟨h1, h2⟩ | ⟨rfl, h2, h3⟩ | ⟨rfl, h2, h3⟩)
    · exact ⟨.inl ⟨h1, h2⟩, fun e => ht (e.1 ▸ h1), fun e => ht (e.2 ▸ h2)⟩
    · exact ⟨.inr (.inl ⟨rfl, h2⟩), fun e => h3 e.2, fun e => hti e.1⟩
    · exact ⟨.inr (.inr ⟨rfl, h2⟩), fun e => hti e.2, fun e => h3 e.1⟩
  · rintro ⟨h1 | ⟨rfl, h2⟩ | ⟨rfl, h2⟩, g1, g2⟩
    · exact .inl h1
    · exact .inr (.inl ⟨rfl, h2, fun e => g1 ⟨rfl, e⟩⟩)
    · exact .inr (.inr ⟨rfl, h2, fun e => g2 ⟨e, rfl⟩⟩)
end Go.Proofs.Tryd.Am.Ra

namespace Go.Proofs.Tryd.Am.Ra
open Go.Proofs.Tryd.Am
open Go.Am Rb
set_option maxRecDepth 100000
set_option maxHeartbeats 1000000

theorem ov_cut {b m c : Nat} {K : Value → Prop} (hk : K (.slice (some ⟨b, 0, some 0⟩) m (m + 1 + c))) : Yv prog 27 (.slice (some ⟨b, 0, some 0⟩) (m + 1) (m + 1 + c)) none (some (Zh m)) none K := by
  simp only [Yv, Wg, Xc, bnd]
  simp
  refine ⟨by omega, ?_⟩
  exact hk
theorem getL {r : List Nat} {k i : Nat} (hk : r[k]? = some i) : r.getD k 0 = i := by rw [List.getD, hk]; rfl

theorem mk_inner [Tabs prog] {h hp : Zd} {v : Value} {bx bn bt bl n top d cap : Nat} {s : Nat → Int} {nd ts ys : List Int} {r : List Nat} (hn8 : n ≤ 8) (m : MS h hp bx bn bt n nd ts) (hnl : nd.length = n) (hb : hp[bl]? = some (.ints (iL r ++ ys) 3 false)) (hcap : cap = r.length + ys.length)
    (hb1 : bl ≠ bn) (hb2 : bl ≠ bt) (hr : r.Nodup) (hrn : ∀ x ∈ r, x < n) (ht : top < n) (htr : top ∉ r) (hd : nd.getD top 0 = (d : Int)) (hs : ∀ i, i < n → 0 ≤ s i ∧ s i ≤ 7)
    (mi : MI n s ts (UK r top 0) (wK r top d 0 nd)) {Q0 : Exit → Env → Zd → Prop}
    (hN : ∀ hq nk tk e, MS h hq bx bn bt n nk tk → hq[bl]? = some (.ints (iL r ++ ys) 3 false) → ndK r d nd r.length nk → MI n s tk (UK r top r.length) (wK r top d r.length nk) → ELe e [(0, v), (4, .pointer (some ⟨bx, 0, none⟩)), (5, tv bt n), (6, .slice (some ⟨bl, 0, some 0⟩) r.length cap), (8, Zh top)] → Q0 .normal e hq) :
    aw prog 126 (.seq q32_17 (.block 4 (.loop l32_1))) Q0 [(0, v), (4, .pointer (some ⟨bx, 0, none⟩)), (5, tv bt n), (6, .slice (some ⟨bl, 0, some 0⟩) r.length cap), (8, Zh top)] hp := by
  subst hcap
  have rl : ∀ {hq : Zd}, hq[bl]? = some (.ints (iL r ++ ys) 3 false) → IntSl hq (.slice (some ⟨bl, 0, some 0⟩) r.length (r.length + ys.length)) (iL r) := fun {hq} hb => (show OwnSl 3 hq _ (iL r) from .inr ⟨bl, ys, by rw [Xx], hb⟩).int
  have hrl : r.length ≤ 8 := by
    have := nodup_le hr (m := List.range n) (fun x hx => List.mem_range.2 (hrn x hx))
    rw [List.length_range] at this; omega
  simp (maxSteps := 2000000) only [↓Za, ↓Zg, ↓Zx, ↓Zb, ↓Zc, vup, List.map_cons, List.map_nil, cond_true, cond_false, aop, Zf, ev, sput, Ze, Zj, Nat.reduceBEq, tyf, (rl hb).len, Xx, ↓Yw]
  refine Ye fun Q hQ => ?_
  refine Wo (γ := Nat × Zd × List Int × List Int) (fun g => g.1 ≤ r.length ∧ MS h g.2.1 bx bn bt n g.2.2.1 g.2.2.2 ∧ g.2.1[bl]? = some (.ints (iL r ++ ys) 3 false) ∧ ndK r d nd g.1 g.2.2.1 ∧ MI n s g.2.2.2 (UK r top g.1) (wK r top d g.1 g.2.2.1))
    (fun g => ([(0, v), (4, .pointer (some ⟨bx, 0, none⟩)), (5, tv bt n), (6, .slice (some ⟨bl, 0, some 0⟩) r.length (r.length + ys.length)), (8, Zh top), (85, .slice (some ⟨bl, 0, some 0⟩) r.length (r.length + ys.length)), (86, Zh r.length), (87, Zh g.1)], g.2.1)) (fun g => r.length - g.1) (0, hp, nd, ts) ⟨Nat.zero_le _, m, hb, ⟨rfl, fun i => by rw [if_neg (by rintro ⟨j, _, h, _⟩; omega)]; exact (Int.sub_zero _).symm⟩, mi⟩ (by simp (maxSteps := 2000000) only [vup, cond_true, cond_false, Nat.reduceBEq, Int.natCast_zero]) rfl ?_
  clear mi hb m
  rintro ⟨k, hq, nk, tk⟩ ⟨hk, m, hb, hnk, mi⟩
  simp only at hk m hb hnk mi
  refine Wp fun Q2 hQ2 => ?_
  by_cases hkn : (k : Int) < r.length
  · have hk' : k < r.length := by omega
    have hkL : k < (iL r).length := by rw [Xx]; exact hk'
    obtain ⟨i, hi⟩ : ∃ i, r[k]? = some i := ⟨_, List.getElem?_eq_getElem hk'⟩
    have hir : i ∈ r := List.mem_of_getElem? hi
    have hin := hrn i hir
    have hti : top ≠ i := fun e => htr (e ▸ hir)
    have hnkl : nk.length = n := hnk.1.trans hnl
    have htop : nk.getD top 0 = (d : Int) := by
      rw [hnk.2 top, if_neg, hd]; · omega
      rintro ⟨j, _, _, hj⟩; exact htr (List.mem_of_getElem? hj)
    have htl : top < nk.length := by omega
    have hkd : i ∈ r.drop k := by
      obtain ⟨hkl, e⟩ := List.getElem?_eq_some_iff.1 hi
      rw [← e, List.drop_eq_getElem_cons hkl]; exact List.mem_cons_self
    have hlo := hQ2
    by_cases hkd2 : (k : Int) < (d : Int)
    · have mi2 := mi.win (U' := UK r top (k + 1)) (w' := wK r top d (k + 1) nk) hn8 ht hin hti (.inr (.inl ⟨rfl, hkd⟩)) (.inr (.inr ⟨rfl, hkd⟩)) (fun a b _ _ _ => UK_step hr htr hi a b) (fun a ha => by
        rw [wK, wK]
        by_cases har : a ∈ r
        · rw [if_pos har, if_pos har, if_neg (fun (e : a = top) => htr (e ▸ har))]; exact (Int.sub_zero _).symm
        · rw [if_neg har, if_neg har]
          by_cases hat : a = top
          · rw [if_pos hat, if_pos hat, if_pos hat]; omega
          · rw [if_neg hat, if_neg hat, if_neg hat]; rfl)
      have htt : top < tk.length := by rw [mi.len]; exact ht
      simp (maxSteps := 2000000) only [↓Za, ↓Zs, ↓Zg, ↓Zx, ↓Zb, ↓Zc, ↓vdn, vup, cond_true, cond_false, aop, Zf, ev, sput, Ze, Yj, Yo, Nat.reduceBEq, tyf, l32_1, hkn, (rl hb).idx Wg Xc hkL, (rl hb).load Ya hkL, iL_get, getL hi, m.ld, idxW ht, loadX m.nn htl, htop, hkd2]
      refine Yy [] (by kernel_rfl) (by kernel_rfl) (by kernel_rfl) (by kernel_rfl) ?_
      simp (maxSteps := 2000000) only [↓Za, ↓Zb, ↓Zc, ↓Yg, ↓vdn, vup, cond_true, cond_false, aop, Zf, Zp, ev, sput, Ze, Yj, Yo, Nat.reduceBEq, Nat.reduceAdd, tyf, idxT ht, loadX m.tt htt, Int.natCast_nonneg, or_orT hn8 (mi.rng top ht) hin, storeX m.tt htt, add1 (show k < 9223372036854775807 by omega)]
      refine hQ2 _ _ _ ⟨(k + 1, hq.set bt (.ints (orT tk top i) 3 false), nk, orT tk top i), ⟨hk', m.setT _, by rw [List.getElem?_set_ne (Ne.symm hb2)]; exact hb, ndK_keep hnk (by omega), mi2⟩, by simp only; omega, by simp (maxSteps := 2000000) only [vup, cond_true, cond_false, Nat.reduceBEq], rfl⟩
    · have hil : i < nk.length := by omega
      have hit : i < tk.length := by rw [mi.len]; exact hin
      have hw := mi.won i hin
      rw [wK, if_pos hir] at hw
      have hsi := hs i hin
      have hsc := scr_le (tk.getD i 0)
      have hsub : subV .i64 (nk.getD i 0) 1 = nk.getD i 0 - 1 := subV_id (by omega) (by omega)
      have hnk2 := ndK_step hr hnk hi (by omega) (show d ≤ k by omega)
      have mi2 := mi.win (U' := UK r top (k + 1)) (w' := wK r top d (k + 1) (nk.set i (nk.getD i 0 - 1))) hn8 hin ht (Ne.symm hti) (.inr (.inr ⟨rfl, hkd⟩)) (.inr (.inl ⟨rfl, hkd⟩)) (fun a b _ _ _ => by rw [UK_step hr htr hi a b, And.comm (a := ¬ (a = i ∧ b = top))]) (fun a ha => by
        rw [wK, wK]
        by_cases har : a ∈ r
        · rw [if_pos har, if_pos har]
          by_cases hai : a = i
          · subst hai; rw [if_pos rfl, List.getD, List.getElem?_set_self hil]; rfl
          · rw [if_neg hai, List.getD, List.getElem?_set_ne (Ne.symm hai)]; exact (Int.sub_zero _).symm
        · rw [if_neg har, if_neg har, if_neg (fun (e : a = i) => har (e ▸ hir))]
          split <;> omega)
      simp (maxSteps := 2000000) only [↓Za, ↓Zs, ↓Zg, ↓Zx, ↓Zb, ↓Zc, ↓vdn, vup, cond_true, cond_false, aop, Zf, ev, sput, Ze, Yj, Yo, Nat.reduceBEq, tyf, l32_1, hkn, (rl hb).idx Wg Xc hkL, (rl hb).load Ya hkL, iL_get, getL hi, m.ld, idxW ht, loadX m.nn htl, htop, hkd2]
      have m2 := m.setT (orT tk i top)
      have e2 : (hq.set bt (.ints (tk.set i (((tk.getD i 0).toNat ||| 2 ^ top : Nat) : Int)) 3 false)) = hq.set bt (.ints (orT tk i top) 3 false) := rfl
      refine Yy [] (by kernel_rfl) (by kernel_rfl) (by kernel_rfl) (by kernel_rfl) ?_
      simp (maxSteps := 2000000) only [↓Za, ↓Zb, ↓Zc, ↓Yg, ↓vdn, vup, cond_true, cond_false, aop, Zf, Zp, ev, sput, Ze, Yj, Yo, Nat.reduceBEq, Nat.reduceAdd, tyf, idxT hin, loadX m.tt hit, Int.natCast_nonneg, or_orT hn8 (mi.rng i hin) ht, storeX m.tt hit, e2, m2.ld, idxW hin, loadX m2.nn hil, hsub, storeX m2.nn hil, add1 (show k < 9223372036854775807 by omega)]
      refine hQ2 _ _ _ ⟨(k + 1, (hq.set bt (.ints (orT tk i top) 3 false)).set bn (.ints (nk.set i (nk.getD i 0 - 1)) 3 false), nk.set i (nk.getD i 0 - 1), orT tk i top), ⟨hk', m2.setN _, by rw [List.getElem?_set_ne (Ne.symm hb1), List.getElem?_set_ne (Ne.symm hb2)]; exact hb, hnk2, mi2⟩, by simp only; omega, by simp (maxSteps := 2000000) only [vup, cond_true, cond_false, Nat.reduceBEq], rfl⟩
  · obtain rfl : k = r.length := by omega
    simp (maxSteps := 2000000) only [↓Za, ↓Zg, ↓Xa, ↓Zb, ↓Zc, ↓vdn, vup, cond_true, cond_false, aop, Zf, ev, sput, Ze, Yj, Yo, Nat.reduceBEq, l32_1, Int.lt_irrefl]
    refine hQ2 _ _ _ (hQ _ _ _ ?_)
    simp (maxSteps := 2000000) only [Zp, if_true]
    exact hN hq nk tk _ m hb hnk mi (by simp (maxSteps := 2000000) only [vup, cond_true, cond_false, Nat.reduceBEq])
end Go.Proofs.Tryd.Am.Ra

namespace Go.Proofs.Tryd.Am.Ra
open Go.Proofs.Tryd.Am
open Go.Am Rb
set_option maxRecDepth 100000
set_option maxHeartbeats 1000000

theorem isS_iff {xs : List Int} : isS xs = true ↔ 1 ≤ xs.length ∧ xs.length ≤ 8 ∧ srt xs = true ∧ ∀ x ∈ xs, 0 ≤ x ∧ x ≤ 7 := by
  simp only [isS, Bool.and_eq_true, List.all_eq_true, decide_eq_true_eq]
  exact ⟨fun h => ⟨h.1.1.1, h.1.1.2, h.1.2, h.2⟩, fun h => ⟨⟨⟨h.1, h.2.1⟩, h.2.2.1⟩, h.2.2.2⟩⟩
theorem isS_ends {xs : List Int} (h1 : 1 ≤ xs.length) (h8 : xs.length ≤ 8) (hs : srt xs = true) : isS xs = true ↔ 0 ≤ xs.getD 0 0 ∧ xs.getD (xs.length - 1) 0 ≤ 7 := by
  rw [isS_iff]
  have hm : ∀ i, i < xs.length → xs.getD i 0 ∈ xs := fun i hi => by rw [List.getD, List.getElem?_eq_getElem hi, Option.getD_some]; exact List.getElem_mem _
  constructor
  · rintro ⟨_, _, _, h⟩
    exact ⟨(h _ (hm 0 (by omega))).1, (h _ (hm _ (by omega))).2⟩
  · rintro ⟨g1, g2⟩
    refine ⟨h1, h8, hs, fun x hx => ?_⟩
    obtain ⟨i, hi, rfl⟩ := List.getElem_of_mem hx
    have e1 := srt_le hs i 0 (by omega)
    have e2 := srt_le hs (xs.length - 1 - i) i (by omega)
    rw [show i + (xs.length - 1 - i) = xs.length - 1 by omega] at e2
    rw [Nat.zero_add] at e1
    have e3 : xs.getD i 0 = xs[i] := by rw [List.getD, List.getElem?_eq_getElem hi]; rfl
    omega
/-- What Make gives back. -/
def makeR (h' : Zd) (xs : List Int) (r : Value) : Prop :=
  if isS xs = true then (if poss xs.length (nl xs) = true then ∃ w ts, r = .tuple #[w, .int .i64 0] ∧ IntSl h' w ts ∧ trn ts = true ∧ ts.length = xs.length ∧ ∀ i, i < xs.length → (scr (ts.getD i 0) : Int) = xs.getD i 0 else r = .tuple #[.slice none 0 0, .int .i64 4]) else r = .tuple #[.slice none 0 0, .int .i64 2]
theorem iL_range (n : Nat) : iL (List.range (n + 1)) = iL (List.range n) ++ [((n : Nat) : Int)] := by rw [List.range_succ, iL, List.map_append]; rfl
theorem range_getD (xs : List Int) : (List.range xs.length).map (fun i => xs.getD i 0) = xs := by
  apply List.ext_getElem (by simp)
  intro i h1 h2
  simp [List.getD, List.getElem?_eq_getElem h2]

/-- What stands at the beginning of a round. -/
structure RMk (h hp : Zd) (bx bn bt bl n : Nat) (xs : List Int) (L : List Nat) (nd ts ys : List Int) : Prop where
  nodup : L.Nodup
  lt : ∀ x ∈ L, x < n
  m : MS h hp bx bn bt n nd ts
  nl : nd.length = n
  b : hp[bl]? = some (.ints (iL L ++ ys) 3 false)
  mi : MI n (fun i => xs.getD i 0) ts (fun i j => i ∈ L ∧ j ∈ L) (fun i => if i ∈ L then nd.getD i 0 else 0)
  g : gd L (fun i => nd.getD i 0) = poss n (Ra.nl xs)

theorem s32_callW [Tabs Tryd.prog] {args : List Value} {h : Zd} {Q : Value → Zd → Prop} (hsz : args.length ≤ 126) (hk : AWS Tryd.prog 126 s32 (Zr Tryd.prog [.tmp 2, .tmp 3] Q) (Zm 0 args) h) : ACall Tryd.prog 32 args h Q :=
  Xr Tryd.func32 rfl (enters_of Tryd.func32 (by kernel_rfl) rfl) rfl rfl (by decide) s32_strip s32_ok hsz hk
theorem make_rounds [Tabs prog] {h hp : Zd} {v : Value} {bx bn bt bl n : Nat} {xs ys : List Int} {nd ts : List Int} (hn1 : 1 ≤ n) (hn8 : n ≤ 8) (hxn : xs.length = n) (hS : isS xs = true) (hne : bl ≠ bx ∧ bl ≠ bn ∧ bl ≠ bt) (hbl : h.length ≤ bl)
    (rs : RMk h hp bx bn bt bl n xs (List.range n) nd ts ys) {N : Env → Zd → Prop} {Q0 : Exit → Env → Zd → Prop} (hQ0 : ∀ e hq, poss n (nl xs) = false → Ext (fun _ => False) h hq → ELe e [(2, .slice none 0 0), (3, .int .i64 4)] → Q0 .ret e hq)
    (hN : ∀ hq nk tk ys' e, poss n (nl xs) = true → RMk h hq bx bn bt bl n xs [] nk tk ys' → ELe e [(0, v), (5, tv bt n)] → N e hq) :
    AWS prog 126 (.block 2 (.loop l32_2)) (Zf N Q0) [(0, v), (4, .pointer (some ⟨bx, 0, none⟩)), (5, tv bt n), (6, .slice (some ⟨bl, 0, some 0⟩) n (n + ys.length))] hp := by
  have hSx := isS_iff.1 hS
  have hsx : ∀ i, i < n → 0 ≤ xs.getD i 0 ∧ xs.getD i 0 ≤ 7 := fun i hi => hSx.2.2.2 _ (by rw [List.getD, List.getElem?_eq_getElem (by omega), Option.getD_some]; exact List.getElem_mem _)
  refine Yz ?_
  refine Ye fun Q hQ => ?_
  refine aw_loopW (γ := Zd × List Nat × List Int × List Int × List Int) (fun g => RMk h g.1 bx bn bt bl n xs g.2.1 g.2.2.1 g.2.2.2.1 g.2.2.2.2)
    (fun g => ([(0, v), (4, .pointer (some ⟨bx, 0, none⟩)), (5, tv bt n), (6, .slice (some ⟨bl, 0, some 0⟩) g.2.1.length (g.2.1.length + g.2.2.2.2.length))], g.1)) (fun g => g.2.1.length) (hp, List.range n, nd, ts, ys) rs (by simp (maxSteps := 2000000) only [vup, cond_true, cond_false, Nat.reduceBEq, List.length_range]) rfl ?_
  clear rs ys nd ts hp
  rintro ⟨hp, L, nd, ts, ys⟩ rs
  simp only at rs
  refine Ye fun Q2 hQ2 => ?_
  simp only [l32_2]
  by_cases h0 : L = []
  · subst h0
    refine Zi fun N1 hN1 => ?_
    simp (maxSteps := 2000000) only [↓Za, ↓Zg, ↓Xa, ↓Zb, ↓Zc, ↓vdn, vup, List.map_cons, List.map_nil, cond_true, cond_false, aop, Zf, ev, sput, Ze, Yj, Yo, Zj, Nat.reduceBEq, tyf, lenK, List.length_nil, Int.natCast_zero, Int.lt_irrefl]
    refine hQ2 _ _ _ (hQ _ _ _ ?_)
    simp (maxSteps := 2000000) only [Zf, Zp, if_true]
    refine hN hp nd ts ys _ ?_ rs (by simp (maxSteps := 2000000) only [vup, cond_true, cond_false, Nat.reduceBEq])
    have := rs.g
    rw [← this]; rfl
  · have hpos : (0 : Int) < (L.length : Int) := by cases L with | nil => exact absurd rfl h0 | cons x l => simp
    have hLn : L.length ≤ n := by
      have := nodup_le rs.nodup (m := List.range n) (fun x hx => List.mem_range.2 (rs.lt x hx))
      rw [List.length_range] at this; exact this
    have hb100 : ∀ i, i ∈ L → -100 ≤ nd.getD i 0 ∧ nd.getD i 0 ≤ 100 := fun i hi => by
      have := rs.mi.won i (rs.lt i hi)
      simp only [if_pos hi] at this
      have h1 := hsx i (rs.lt i hi)
      have h2 := scr_le (ts.getD i 0)
      omega
    refine Zi fun N2 hN2 => ?_
    simp (maxSteps := 2000000) only [↓Za, ↓Zs, ↓Zg, ↓Zb, ↓Zc, ↓vdn, vup, List.map_cons, List.map_nil, cond_true, cond_false, aop, Zf, ev, sput, Ze, Yj, Yo, Zj, Nat.reduceBEq, tyf, lenK, hpos]
    refine hN2 [(0, v), (4, .pointer (some ⟨bx, 0, none⟩)), (5, tv bt n), (6, .slice (some ⟨bl, 0, some 0⟩) L.length (L.length + ys.length))] _ _ ?_ (by simp (maxSteps := 2000000) only [vup, cond_true, cond_false, Nat.reduceBEq])
    clear hN2
    try clear N2
    refine Yz ?_
    refine Zi fun N3 hN3 => ?_
    simp (maxSteps := 2000000) only [↓Za, ↓Zb, ↓Zc, vup, List.map_cons, List.map_nil, cond_true, cond_false, aop, Zf, ev, sput, Ze, Nat.reduceBEq, Yq, List.nil_append, List.append_nil, List.map_toArray]
    refine ((show ACall prog 80 [ov bl L.length ys.length, .func (.func 81) #[] #[.pointer (some ⟨bx, 0, none⟩)]] hp _ from sortF_call (key := fun i => nd.getD i 0) (fun x hx => by have := hb100 x hx; omega) (fun L' x y hx hy => make1_call (rs.m.setL hbl hne.1 hne.2.1 hne.2.2 _).box (rs.m.setL hbl hne.1 hne.2.1 hne.2.2 _).nn rs.nl (rs.lt x hx) (rs.lt y hy) (hb100 x hx) (hb100 y hy)) rs.b (by omega) (fun x hx => by have := rs.lt x hx; omega))).mono ?_
    rintro rr h1 ⟨L', hp1, hp2, rfl⟩
    refine hN3 [(0, v), (4, .pointer (some ⟨bx, 0, none⟩)), (5, tv bt n), (6, .slice (some ⟨bl, 0, some 0⟩) L.length (L.length + ys.length))] _ _ ?_ (by simp (maxSteps := 2000000) only [vup, cond_true, cond_false, Nat.reduceBEq])
    clear hN3
    try clear N3
    have hL'n : L'.length = L.length := hp1.length_eq
    obtain ⟨r, top, rfl⟩ : ∃ r top, L' = r ++ [top] := ⟨L'.dropLast, L'.getLast (fun e => by rw [e] at hL'n; simp at hL'n; exact h0 (List.length_eq_zero_iff.1 hL'n.symm)), (List.dropLast_concat_getLast _).symm⟩
    have hlr : L.length = r.length + 1 := by simpa using hL'n.symm
    have hm : ∀ x, x ∈ L ↔ x ∈ r ∨ x = top := fun x => by rw [← hp1.mem_iff]; simp
    have hnd' := hp1.nodup_iff.2 rs.nodup
    obtain ⟨hnr, _, hdis⟩ := List.nodup_append.1 hnd'
    have htr : top ∉ r := fun h => hdis top h top (by simp) rfl
    have htn : top < n := rs.lt top ((hm top).2 (.inr rfl))
    have m1 := rs.m.setL hbl hne.1 hne.2.1 hne.2.2 (.ints (iL (r ++ [top]) ++ ys) 3 false)
    have hbb : (hp.set bl (.ints (iL (r ++ [top]) ++ ys) 3 false))[bl]? = some (.ints (iL r ++ ((top : Int) :: ys)) 3 false) := by
      rw [Ys (Zt rs.b)]; simp [iL]
    have hgd : gd (r ++ [top]) (fun i => nd.getD i 0) = poss n (nl xs) := (gd_perm hp1 _).trans rs.g
    generalize hp.set bl (.ints (iL (r ++ [top]) ++ ys) 3 false) = h1 at m1 hbb ⊢
    have hrl : IntSl h1 (.slice (some ⟨bl, 0, some 0⟩) (r.length + 1) (r.length + 1 + ys.length)) (iL (r ++ [top])) := by
      have : OwnSl 3 h1 (.slice (some ⟨bl, 0, some 0⟩) (iL (r ++ [top])).length ((iL (r ++ [top])).length + ys.length)) (iL (r ++ [top])) := .inr ⟨bl, ys, rfl, by rw [hbb]; simp [iL]⟩
      rw [Xx, List.length_append, List.length_singleton] at this
      exact this.int
    rw [hlr]
    have hr8 : r.length ≤ 8 := by omega
    have e1 : subV .i64 ((r.length + 1 : Nat) : Int) 1 = ((r.length : Nat) : Int) := by rw [subV_id (by omega) (by omega)]; omega
    have hil : r.length < (iL (r ++ [top])).length := by rw [Xx]; simp
    have hgt : (r ++ [top]).getD r.length 0 = top := by simp [List.getD]
    refine Zi fun N4 hN4 => ?_
    simp (maxSteps := 2000000) only [↓Za, ↓Zb, ↓Zc, vup, List.map_cons, List.map_nil, cond_true, cond_false, aop, Zf, ev, sput, Ze, Yj, Yo, Zj, Nat.reduceBEq, tyf, lenK, e1, hrl.idx Wg Xc hil, hrl.load Ya hil, iL_get, hgt]
    refine hN4 [(0, v), (4, .pointer (some ⟨bx, 0, none⟩)), (5, tv bt n), (6, .slice (some ⟨bl, 0, some 0⟩) (r.length + 1) (r.length + 1 + ys.length)), (8, Zh top)] _ _ ?_ (by simp (maxSteps := 2000000) only [vup, cond_true, cond_false, Nat.reduceBEq])
    clear hN4
    try clear N4
    refine Zi fun N5 hN5 => ?_
    simp (maxSteps := 2000000) only [↓Za, ↓Zb, ↓Zc, vup, List.map_cons, List.map_nil, cond_true, cond_false, aop, Zf, ev, sput, Ze, Yj, Yo, Zj, Nat.reduceBEq, tyf, lenK, e1, Option.map_none, Option.map_some]
    refine ov_cut ?_
    refine hN5 [(0, v), (4, .pointer (some ⟨bx, 0, none⟩)), (5, tv bt n), (6, .slice (some ⟨bl, 0, some 0⟩) r.length (r.length + 1 + ys.length)), (8, Zh top)] _ _ ?_ (by simp (maxSteps := 2000000) only [vup, cond_true, cond_false, Nat.reduceBEq])
    clear hN5
    try clear N5
    have htl : top < nd.length := by rw [rs.nl]; exact htn
    have hfail : poss n (nl xs) = false → ∀ e, ELe e [(2, .slice none 0 0), (3, .int .i64 4)] → Q2 .ret e h1 := fun hf e he => hQ2 _ _ _ (hQ _ _ _ (hQ0 e h1 hf m1.E he))
    by_cases hneg : nd.getD top 0 < 0
    · have hf : poss n (nl xs) = false := by rw [← hgd]; exact gd_neg (x := top) (by simp) hneg
      refine Zi fun N6 hN6 => ?_
      simp (maxSteps := 2000000) only [↓Za, ↓Zg, ↓Zv, ↓Zb, ↓Zc, ↓vdn, vup, cond_true, cond_false, aop, Zf, Zp, ev, sput, Ze, Yj, Yo, Nat.reduceBEq, tyf, m1.ld, idxW htn, loadX m1.nn htl, hneg]
      exact hfail hf _ (by simp (maxSteps := 2000000) only [vup, cond_true, cond_false, Nat.reduceBEq])
    · obtain ⟨d, hd⟩ : ∃ d : Nat, nd.getD top 0 = (d : Int) := ⟨(nd.getD top 0).toNat, by omega⟩
      by_cases hbig : (r.length : Int) < (d : Int)
      · have hf : poss n (nl xs) = false := by rw [← hgd]; exact gd_many hp2 (by show (r.length : Int) < nd.getD top 0; omega)
        have hneg' : ¬ (d : Int) < 0 := by omega
        refine Zi fun N7 hN7 => ?_
        simp (maxSteps := 2000000) only [↓Za, ↓Zg, ↓Zv, ↓Zb, ↓Zc, ↓vdn, vup, List.map_cons, List.map_nil, cond_true, cond_false, aop, Zf, Zp, ev, sput, Ze, Yj, Yo, Zj, Nat.reduceBEq, tyf, m1.ld, idxW htn, loadX m1.nn htl, hd, hneg', lenK, hbig]
        exact hfail hf _ (by simp (maxSteps := 2000000) only [vup, cond_true, cond_false, Nat.reduceBEq])
      · have hneg' : ¬ (d : Int) < 0 := by omega
        have hdl : d ≤ r.length := by omega
        refine Zi fun N8 hN8 => ?_
        simp (maxSteps := 2000000) only [↓Za, ↓Zs, ↓Zg, ↓Zb, ↓Zc, ↓vdn, vup, List.map_cons, List.map_nil, cond_true, cond_false, aop, Zf, ev, sput, Ze, Yj, Yo, Zj, Nat.reduceBEq, tyf, m1.ld, idxW htn, loadX m1.nn htl, hd, hneg', lenK, hbig]
        refine hN8 [(0, v), (4, .pointer (some ⟨bx, 0, none⟩)), (5, tv bt n), (6, .slice (some ⟨bl, 0, some 0⟩) r.length (r.length + 1 + ys.length)), (8, Zh top)] _ _ ?_ (by simp (maxSteps := 2000000) only [vup, cond_true, cond_false, Nat.reduceBEq])
        clear hN8
        try clear N8
        have mi0 : MI n (fun i => xs.getD i 0) ts (UK r top 0) (wK r top d 0 nd) := rs.mi.congr (fun i j hi hj hij => by
          rw [UK, List.drop_zero, hm, hm]
          constructor
          · rintro (⟨h1, h2⟩ | ⟨h1, h2⟩ | ⟨h1, h2⟩)
            · exact ⟨.inl h1, .inl h2⟩
            · exact ⟨.inr h1, .inl h2⟩
            · exact ⟨.inl h2, .inr h1⟩
          · rintro ⟨h1 | h1, h2 | h2⟩
            · exact .inl ⟨h1, h2⟩
            · exact .inr (.inr ⟨h2, h1⟩)
            · exact .inr (.inl ⟨h1, h2⟩)
            · exact absurd (h1.trans h2.symm) hij) (fun i hi => by
          rw [wK]
          by_cases h1 : i ∈ r
          · rw [if_pos h1, if_pos ((hm i).2 (.inl h1))]
          · rw [if_neg h1]
            by_cases h2 : i = top
            · rw [if_pos h2, if_pos ((hm i).2 (.inr h2)), h2, hd]; simp
            · rw [if_neg h2, if_neg (fun h => (hm i).1 h |>.elim h1 h2)])
        refine Xg ?_
        refine mk_inner (cap := r.length + 1 + ys.length) (ys := (top : Int) :: ys) (nd := nd) (ts := ts) hn8 m1 rs.nl hbb (by rw [List.length_cons]; omega) hne.2.1 hne.2.2 hnr (fun x hx => rs.lt x ((hm x).2 (.inl hx))) htn htr hd hsx mi0 fun hq nk tk e m2 hb2 hnk mi2 he => ?_
        refine hQ2 _ _ _ ⟨(hq, r, nk, tk, (top : Int) :: ys), ⟨hnr, fun x hx => rs.lt x ((hm x).2 (.inl hx)), m2, hnk.1.trans rs.nl, hb2, mi2.congr (fun i j _ _ _ => ?_) (fun i _ => ?_), ?_⟩, by simp only; omega, ?_, rfl⟩
        · rw [UK, List.drop_length]; simp
        · rw [wK]
          by_cases h1 : i ∈ r
          · rw [if_pos h1, if_pos h1]
          · rw [if_neg h1, if_neg h1]; split <;> omega
        · rw [← hgd]
          refine (gd_step hp2 hd hdl fun j hj => ?_).symm
          rw [hnk.2 r[j]]
          congr 1
          by_cases hdj : d ≤ j
          · rw [if_pos hdj, if_pos ⟨j, hdj, hj, List.getElem?_eq_getElem hj⟩]
          · rw [if_neg hdj, if_neg]
            rintro ⟨i, h1, h2, h3⟩
            rw [List.getElem?_eq_getElem h2] at h3
            have hne := List.nodup_iff_pairwise_ne.1 hnr
            exact (List.pairwise_iff_getElem.1 hne) j i hj h2 (by omega) (Option.some.inj h3).symm
        · have hc : r.length + 1 + ys.length = r.length + ((top : Int) :: ys).length := by rw [List.length_cons]; omega
          rw [hc] at he
          intro p hp
          exact he p (by simp only [List.mem_cons, List.not_mem_nil, or_false] at hp ⊢; rcases hp with h | h | h | h <;> simp [h])
end Go.Proofs.Tryd.Am.Ra

namespace Go.Proofs.Tryd.Am.Ra
open Go.Proofs.Tryd.Am
open Go.Am Rb
set_option maxRecDepth 100000
set_option maxHeartbeats 1000000

theorem srt_nl {xs : List Int} (h : srt xs = true) : (nl xs).Pairwise (· ≤ ·) :=
  List.pairwise_map.2 ((srt_pw h).imp fun h => by omega)
theorem makeR_no {h' : Zd} {xs : List Int} (h : isS xs = false) : makeR h' xs (.tuple #[.slice none 0 0, .int .i64 2]) := by
  rw [makeR, h, if_neg (by decide)]
theorem make_chk [Tabs prog] {h : Zd} {v : Value} {xs : List Int} (hv : IntSl h v xs) (hl : xs.length < 9223372036854775808) {Q : Exit → Env → Zd → Prop}
    (hbad : isS xs = false → ∀ e, ELe e [(2, .slice none 0 0), (3, .int .i64 2)] → Q .ret e h) (hok : isS xs = true → ∀ e, ELe e [(0, v)] → Q .normal e h) :
    aw prog 126 (.seq q32_1 (.cond (.tmp 38) (.seq q32_2 .ret) .skip)) Q [(0, v), (2, .slice none 0 0), (3, .int .i64 0)] h := by
  by_cases h1 : (xs.length : Int) < 1
  · have hno : isS xs = false := by
      cases hS : isS xs with
      | false => rfl
      | true => have := isS_iff.1 hS; omega
    simp (maxSteps := 2000000) only [↓Za, ↓Zg, ↓Zv, ↓Zb, ↓Zc, ↓vdn, vup, List.map_cons, List.map_nil, cond_true, cond_false, aop, Zf, ev, sput, Ze, Yj, Yo, Zj, Nat.reduceBEq, tyf, hv.len, h1]
    exact hbad hno _ (by simp (maxSteps := 2000000) only [vup, cond_true, cond_false, Nat.reduceBEq])
  by_cases h8 : (8 : Int) < (xs.length : Int)
  · have hno : isS xs = false := by
      cases hS : isS xs with
      | false => rfl
      | true => have := isS_iff.1 hS; omega
    simp (maxSteps := 2000000) only [↓Za, ↓Zg, ↓Zv, ↓Zb, ↓Zc, ↓vdn, vup, List.map_cons, List.map_nil, cond_true, cond_false, aop, Zf, ev, sput, Ze, Yj, Yo, Zj, Nat.reduceBEq, tyf, hv.len, h1, h8]
    exact hbad hno _ (by simp (maxSteps := 2000000) only [vup, cond_true, cond_false, Nat.reduceBEq])
  have hl1 : 1 ≤ xs.length := by omega
  have hl8 : xs.length ≤ 8 := by omega
  have hi0 : 0 < xs.length := by omega
  have hi9 : xs.length - 1 < xs.length := by omega
  have e1 : subV .i64 (xs.length : Int) 1 = ((xs.length - 1 : Nat) : Int) := by rw [subV_id (by omega) (by omega)]; omega
  have hix0 : ∀ {K : Value → Prop}, Yd prog 27 v (.int .i64 0) K = K (elemP v 1 0) := fun {K} => hv.idx (i := 0) Wg Xc hi0 K
  simp (maxSteps := 2000000) only [↓Za, ↓Zg, ↓Zc, ↓vdn, vup, List.map_cons, List.map_nil, cond_true, cond_false, aop, ev, sput, Ze, Yj, Yo, unK, Zj, Nat.reduceBEq, tyf, Yq, List.nil_append, List.append_nil, hv.len, h1, h8]
  refine (issorted_call hv hl).mono ?_
  rintro _ h ⟨rfl, rfl⟩
  cases hs : srt xs with
  | false =>
    have hno : isS xs = false := by
      cases hS : isS xs with
      | false => rfl
      | true => have := (isS_iff.1 hS).2.2.1; rw [hs] at this; cases this
    simp (maxSteps := 2000000) only [↓Za, ↓Zg, ↓Zv, ↓Zb, ↓Zc, ↓vdn, vup, cond_true, cond_false, aop, Zf, ev, sput, Ze, Nat.reduceBEq]
    exact hbad hno _ (by simp (maxSteps := 2000000) only [vup, cond_true, cond_false, Nat.reduceBEq])
  | true =>
  have hends := isS_ends hl1 hl8 hs
  by_cases hneg : xs.getD 0 0 < 0
  · have hno : isS xs = false := by
      cases hS : isS xs with
      | false => rfl
      | true => have := (hends.1 hS).1; omega
    simp (maxSteps := 2000000) only [↓Za, ↓Zg, ↓Zv, ↓Zb, ↓Zc, ↓vdn, vup, cond_true, cond_false, aop, Zf, ev, sput, Ze, Yj, Yo, Nat.reduceBEq, tyf, hix0, hv.load Ya hi0, hneg]
    exact hbad hno _ (by simp (maxSteps := 2000000) only [vup, cond_true, cond_false, Nat.reduceBEq])
  by_cases hbig : (7 : Int) < xs.getD (xs.length - 1) 0
  · have hno : isS xs = false := by
      cases hS : isS xs with
      | false => rfl
      | true => have := (hends.1 hS).2; omega
    simp (maxSteps := 2000000) only [↓Za, ↓Zg, ↓Zv, ↓Zb, ↓Zc, ↓vdn, vup, List.map_cons, List.map_nil, cond_true, cond_false, aop, Zf, ev, sput, Ze, Yj, Yo, Zj, Nat.reduceBEq, tyf, hix0, hv.load Ya hi0, hneg, hv.len, e1, hv.idx Wg Xc hi9, hv.load Ya hi9, hbig]
    exact hbad hno _ (by simp (maxSteps := 2000000) only [vup, cond_true, cond_false, Nat.reduceBEq])
  have hS : isS xs = true := hends.2 ⟨by omega, by omega⟩
  simp (maxSteps := 2000000) only [↓Zs, ↓Zb, ↓Zc, ↓vdn, vup, List.map_cons, List.map_nil, cond_true, cond_false, aop, Zf, ev, sput, Ze, Yj, Yo, Zj, Nat.reduceBEq, tyf, hix0, hv.load Ya hi0, hneg, hv.len, e1, hv.idx Wg Xc hi9, hv.load Ya hi9, hbig]
  exact hok hS _ (by simp (maxSteps := 2000000) only [vup, cond_true, cond_false, Nat.reduceBEq])
end Go.Proofs.Tryd.Am.Ra

namespace Go.Proofs.Tryd.Am.Ra
open Go.Proofs.Tryd.Am
open Go.Am Rb
set_option maxRecDepth 100000
set_option maxHeartbeats 1000000

theorem make_call [Tabs prog] {h : Zd} {v : Value} {xs : List Int} (hv : IntSl h v xs) (hl : xs.length < 9223372036854775808) (hx : ∀ x ∈ xs, -9223372036854775808 ≤ x ∧ x < 9223372036854775808) :
    ACall prog 32 [v] h fun r h' => Ext (fun _ => False) h h' ∧ makeR h' xs r := by
  refine s32_callW (by simp) ?_
  simp only [s32]
  refine Zi fun N1 hN1 => ?_
  simp (maxSteps := 2000000) only [↓Za, ↓Zb, ↓Zc, vup, cond_false, aop, Zf, Zm, ev, sput, Ze, Nat.reduceBEq]
  refine hN1 [(0, v), (2, .slice none 0 0), (3, .int .i64 0)] _ _ ?_ (by simp (maxSteps := 2000000) only [vup, cond_true, cond_false, Nat.reduceBEq])
  clear hN1
  try clear N1
  refine Zi fun N2 hN2 => ?_
  refine make_chk hv hl (fun hno e he => ?_) (fun hS e he => ?_)
  · have h2 : sget e 2 = .slice none 0 0 := he (2, .slice none 0 0) (by simp)
    have h3 : sget e 3 = .int .i64 2 := he (3, .int .i64 2) (by simp)
    simp (maxSteps := 2000000) only [Zf, Zr, Wa, tup, h2, h3]
    exact ⟨Ext.refl _ _, makeR_no hno⟩
  refine hN2 [(0, v)] _ _ ?_ he
  have hSx := isS_iff.1 hS
  have hs := hSx.2.2.1
  have hl1 := hSx.1
  have hl8 := hSx.2.1
  have hne : xs ≠ [] := by rintro rfl; simp at hl1
  refine Zi fun N3 hN3 => ?_
  simp (maxSteps := 2000000) only [↓Za, ↓Zb, ↓Zc, vup, List.map_cons, List.map_nil, cond_true, cond_false, aop, Zf, ev, sput, Ze, Nat.reduceBEq, Yq, List.nil_append, List.append_nil]
  refine (clone_fresh hv hne (by omega)).mono ?_
  rintro _ g1 ⟨bn, rfl, hbn, hbl, hE1⟩
  have c0 := Yk g1 (Blk.cells [.slice none 0 0] 27 false)
  simp (maxSteps := 2000000) only [tyf, Wb, Xi, storeC c0 We (show one (.slice (some ⟨bn, 0, some 0⟩) xs.length xs.length) = true from rfl) (show 0 < 1 by decide), List.set_cons_zero]
  have c1 : ((g1 ++ [Blk.cells [.slice none 0 0] 27 false]).set g1.length (.cells [.slice (some ⟨bn, 0, some 0⟩) xs.length xs.length] 27 false))[g1.length]? = some (.cells [.slice (some ⟨bn, 0, some 0⟩) xs.length xs.length] 27 false) := Ys (by simp) _
  have hE2 : Ext (fun _ => False) g1 ((g1 ++ [Blk.cells [.slice none 0 0] 27 false]).set g1.length (.cells [.slice (some ⟨bn, 0, some 0⟩) xs.length xs.length] 27 false)) := ⟨by simp, fun j hj _ => by rw [List.getElem?_set_ne (by omega), List.getElem?_append_left hj]⟩
  have hlen2 : ((g1 ++ [Blk.cells [.slice none 0 0] 27 false]).set g1.length (.cells [.slice (some ⟨bn, 0, some 0⟩) xs.length xs.length] 27 false)).length = g1.length + 1 := by simp
  refine hN3 [(0, v), (4, .pointer (some ⟨g1.length, 0, none⟩))] _ _ ?_ (by simp (maxSteps := 2000000) only [vup, cond_true, cond_false, Nat.reduceBEq])
  clear hN3
  try clear N3
  have hg1 : bn < g1.length := Zt hbn
  have hgE := hE1.1
  have hbn2 := (hE2.2 _ hg1 id).trans hbn
  have hEx := hE1.trans hE2
  generalize ((g1 ++ [Blk.cells [.slice none 0 0] 27 false]).set g1.length (.cells [.slice (some ⟨bn, 0, some 0⟩) xs.length xs.length] 27 false)) = g2 at c1 hE2 hlen2 hbn2 hEx ⊢
  generalize hbx : g1.length = bx at c1 hlen2 hg1 hgE ⊢
  have hv2 := Yf hv hEx
  refine Zi fun N4 hN4 => ?_
  simp (maxSteps := 2000000) only [↓Za, ↓Zb, ↓Zc, vup, List.map_cons, List.map_nil, cond_true, cond_false, aop, Zf, ev, sput, Ze, Zj, Nat.reduceBEq, tyf, hv2.len, makeI el_131 zero_3 info_3 (show (0 : Int) ≤ (xs.length : Int) by omega) (show (xs.length : Int) ≤ 35184372088832 by omega), Int.toNat_natCast]
  refine hN4 [(0, v), (4, .pointer (some ⟨bx, 0, none⟩)), (5, tv g2.length xs.length)] _ _ ?_ (by simp (maxSteps := 2000000) only [vup, cond_true, cond_false, Nat.reduceBEq])
  clear hN4
  try clear N4
  have hbt : (g2 ++ [Blk.ints (List.replicate xs.length 0) 3 false])[g2.length]? = some (.ints (List.replicate xs.length 0) 3 false) := Yk _ _
  have hE3 : Ext (fun _ => False) g2 (g2 ++ [Blk.ints (List.replicate xs.length 0) 3 false]) := Ext.app _ _ _
  have hlen3 : (g2 ++ [Blk.ints (List.replicate xs.length 0) 3 false]).length = g2.length + 1 := by simp
  generalize g2 ++ [Blk.ints (List.replicate xs.length 0) 3 false] = g3 at hbt hE3 hlen3 ⊢
  have ms3 : MS h g3 bx bn g2.length xs.length xs (List.replicate xs.length 0) :=
    ⟨(hE3.2 _ (by omega) id).trans c1, (hE3.2 _ (by omega) id).trans hbn2, hbt, hEx.trans hE3, ⟨by omega, by omega, by omega⟩, ⟨by omega, by omega, by omega⟩⟩
  generalize hbte : g2.length = bt at *
  refine Zi fun N5 hN5 => ?_
  simp (maxSteps := 2000000) only [↓Za, ↓Zb, ↓Zc, vup, cond_false, aop, Zf, ev, sput, Ze, Nat.reduceBEq]
  refine hN5 [(0, v), (4, .pointer (some ⟨bx, 0, none⟩)), (5, tv bt xs.length), (6, .slice none 0 0)] _ _ ?_ (by simp (maxSteps := 2000000) only [vup, cond_true, cond_false, Nat.reduceBEq])
  clear hN5
  try clear N5
  have hv3 := Yf hv2 hE3
  refine Zi fun Z hZ => ?_
  simp (maxSteps := 2000000) only [↓Za, ↓Zg, ↓Zx, ↓Zb, ↓Zc, vup, List.map_cons, List.map_nil, cond_true, cond_false, aop, Zf, ev, sput, Ze, Zj, Nat.reduceBEq, tyf, hv3.len, ↓Yw]
  refine Ye fun Q hQ => ?_
  refine Wo (γ := Nat × Value × Zd) (fun s => s.1 ≤ xs.length ∧ RSI g3 s.2.2 s.2.1 (iL (List.range s.1)))
    (fun s => ([(0, v), (4, .pointer (some ⟨bx, 0, none⟩)), (5, tv bt xs.length), (6, s.2.1), (44, v), (45, Zh xs.length), (46, Zh s.1)], s.2.2)) (fun s => xs.length - s.1) (0, .slice none 0 0, g3) ⟨Nat.zero_le _, RSI.nil g3⟩ (by simp (maxSteps := 2000000) only [vup, cond_true, cond_false, Nat.reduceBEq, Int.natCast_zero]) rfl ?_
  rintro ⟨j, w0, hp⟩ ⟨hj, hr⟩
  simp only at hj hr
  refine Wp fun Q2 hQ2 => ?_
  by_cases hjn : (j : Int) < xs.length
  · simp (maxSteps := 2000000) only [↓Za, ↓Zs, ↓Zg, ↓Zx, ↓Zb, ↓Zc, ↓vdn, vup, List.map_cons, List.map_nil, cond_true, cond_false, aop, Zf, Zp, ev, sput, Ze, Yj, Yo, Zj, Nat.reduceBEq, l32_0, hjn, litI1]
    refine hr.push (by rw [Xx, List.length_range]; omega) fun v' h' s' => ?_
    simp (maxSteps := 2000000) only [add1 (show j < 9223372036854775807 by omega)]
    refine hQ2 _ _ _ ⟨(j + 1, v', h'), ⟨by simp only; omega, by rw [iL_range]; exact s'⟩, by simp only; omega, by simp (maxSteps := 2000000) only [vup, cond_true, cond_false, Nat.reduceBEq], rfl⟩
  · obtain rfl : j = xs.length := by omega
    simp (maxSteps := 2000000) only [↓Za, ↓Zg, ↓Xa, ↓Zb, ↓Zc, ↓vdn, vup, cond_true, cond_false, aop, Zf, ev, sput, Ze, Yj, Yo, Nat.reduceBEq, l32_0, Int.lt_irrefl]
    refine hQ2 _ _ _ (hQ _ _ _ ?_)
    simp (maxSteps := 2000000) only [Zf, Zp, Zr, if_true]
    refine hZ [(0, v), (4, .pointer (some ⟨bx, 0, none⟩)), (5, tv bt xs.length), (6, w0)] _ _ ?_ (by simp (maxSteps := 2000000) only [vup, cond_true, cond_false, Nat.reduceBEq])
    clear hZ
    try clear Z
    obtain ⟨hown, hE4, hblk⟩ := hr
    rcases hown with ⟨_, hnil⟩ | ⟨bl, ys, hov, hb⟩
    · have h0 := congrArg List.length hnil
      rw [Xx, List.length_range] at h0; simp at h0; exact absurd h0 hne
    have hblg := hblk bl (by rw [hov]; rfl)
    rw [Xx, List.length_range] at hov
    subst hov
    have ms4 : MS h hp bx bn bt xs.length xs (List.replicate xs.length 0) :=
      ⟨(hE4.2 _ (Zt ms3.box) id).trans ms3.box, (hE4.2 _ (Zt ms3.nn) id).trans ms3.nn, (hE4.2 _ (Zt ms3.tt) id).trans ms3.tt, ms3.E.trans hE4, ms3.ge, ms3.ne⟩
    have hbx3 := Zt ms3.box
    have hbn3 := Zt ms3.nn
    have hbt3 := Zt ms3.tt
    have rs : RMk h hp bx bn bt bl xs.length xs (List.range xs.length) xs (List.replicate xs.length 0) ys :=
      ⟨List.nodup_range, fun x hx => List.mem_range.1 hx, ms4, rfl, hb, MI.start.congr (fun i j hi hj _ => by simp [hi, hj]) (fun i hi => by rw [if_pos (List.mem_range.2 hi)]), by
        have := gd_start (srt_nl hs) (s := nl xs) (by rw [nl]; simpa using hne) (L := List.range xs.length) (f := fun i => xs.getD i 0) (by
          rw [range_getD, nl, List.map_map]
          have hpos := (isS_iff.1 hS).2.2.2
          refine ((List.map_congr_left fun x hx => ?_).trans (List.map_id xs)).symm
          have := hpos x hx
          show ((x.toNat : Nat) : Int) = x
          omega)
        rw [this, nl, List.length_map]⟩
    clear ms4 ms3
    have rng : ∀ e hq, poss xs.length (nl xs) = false → Ext (fun _ => False) h hq → ELe e [(2, .slice none 0 0), (3, .int .i64 4)] → True := fun _ _ _ _ _ => trivial
    refine aws_cutW fun Y hY => ?_
    refine make_rounds hl1 hl8 rfl hS ⟨by omega, by omega, by omega⟩ (by have := hEx.1; have := hE3.1; omega) rs (fun e hq hf hE he => ?_) (fun hq nk tk ys' e hp1 rs2 he => ?_)
    · have h2 : sget e 2 = .slice none 0 0 := he (2, .slice none 0 0) (by simp)
      have h3 : sget e 3 = .int .i64 4 := he (3, .int .i64 4) (by simp)
      simp (maxSteps := 2000000) only [Zr, Wa, tup, h2, h3]
      exact ⟨hE, by rw [makeR, if_pos hS, if_neg (by rw [hf]; decide)]⟩
    · refine hY [(0, v), (5, tv bt xs.length)] _ _ ?_ he
      have hd := rs2.mi.done hl1 hl8 (fun i j _ _ _ h => by cases h.1) (fun i _ => if_neg (by simp))
      have hv5 := Yf hv rs2.m.E
      have ht5 : IntSl hq (tv bt xs.length) tk := by
        have := intSl_blk rs2.m.tt
        rw [rs2.mi.len] at this
        exact this
      have hrng : ∀ i, i < xs.length → 0 ≤ tk.getD i 0 ∧ tk.getD i 0 < 256 := fun i hi => by
        have h1 := rs2.mi.rng i hi
        have h2 := pow8N hl8
        have e : ((2 : Int) ^ xs.length) = ((2 ^ xs.length : Nat) : Int) := by simp
        rw [e] at h1; omega
      have hEq := rs2.m.E
      have hlk := rs2.mi.len
      clear rs2
      refine Zi fun N6 hN6 => ?_
      simp (maxSteps := 2000000) only [↓Za, ↓Zg, ↓Zb, ↓Zc, vup, List.map_cons, List.map_nil, cond_true, cond_false, aop, Zf, ev, sput, Ze, unK, Nat.reduceBEq, Yq, List.nil_append, List.append_nil]
      refine (equalf_call ht5 hv5 hlk hl8 hrng hd.2).mono ?_
      rintro _ hq ⟨rfl, rfl⟩
      simp (maxSteps := 2000000) only [↓Zs, ↓vdn, vup, cond_true, cond_false, Zf, ev, Nat.reduceBEq]
      refine hN6 [(0, v), (5, tv bt xs.length)] _ _ ?_ (by simp (maxSteps := 2000000) only [vup, cond_true, cond_false, Nat.reduceBEq])
      clear hN6
      try clear N6
      refine Xg ?_
      simp (maxSteps := 2000000) only [↓Za, ↓Zg, ↓Zv, ↓Zb, ↓Zc, vup, cond_true, cond_false, aop, Zf, ev, sput, Ze, Nat.reduceBEq, Zr, Wa, tup]
      exact ⟨hEq, by rw [makeR, if_pos hS, if_pos hp1]; exact ⟨_, tk, rfl, ht5, hd.1, hlk, hd.2⟩⟩
end Go.Proofs.Tryd.Am.Ra

namespace Rch
/-- A chain of beatings. -/
inductive Rc (t : Nat → Nat) (i : Nat) : Nat → Prop
  | refl : Rc t i i
  | step {j k : Nat} (h : Rc t i j) (hb : (t j).testBit k = true) : Rc t i k
theorem Rc.trans {t : Nat → Nat} {i j k : Nat} (h1 : Rc t i j) (h2 : Rc t j k) : Rc t i k := by
  induction h2 with
  | refl => exact h1
  | step _ hb ih => exact ih.step hb
theorem countP_lt {p q : Nat → Bool} : ∀ {l : List Nat} {x : Nat}, (∀ y ∈ l, p y = true → q y = true) → x ∈ l → p x = false → q x = true → l.countP p < l.countP q
  | a :: l, x, h, hx, h1, h2 => by
    have hle : l.countP p ≤ l.countP q := List.countP_mono_left fun y hy => h y (by simp [hy])
    rw [List.countP_cons, List.countP_cons]
    rcases List.mem_cons.1 hx with rfl | hx
    · rw [h1, h2]; simp; omega
    · have ih := countP_lt (fun y hy => h y (by simp [hy])) hx h1 h2
      have : (if p a = true then 1 else 0) ≤ if q a = true then 1 else 0 := by
        by_cases ha : p a = true
        · rw [if_pos ha, if_pos (h a (by simp) ha)]; exact Nat.le_refl _
        · rw [if_neg ha]; exact Nat.zero_le _
      omega
def cnt (n s : Nat) : Nat := (List.range n).countP s.testBit
theorem cnt_le (n s : Nat) : cnt n s ≤ n := by
  have := List.countP_le_length (p := s.testBit) (l := List.range n)
  rwa [List.length_range] at this
/-- What grows round by round, by all that those in it beat, has all that is reached behind n rounds. -/
theorem grown {t A : Nat → Nat} {n i : Nat} (h0 : (A 0).testBit i = true) (hlt : ∀ k, A k < 2 ^ n) (mono : ∀ k x, (A k).testBit x = true → (A (k + 1)).testBit x = true)
    (step : ∀ k j x, (A k).testBit j = true → (t j).testBit x = true → (A (k + 1)).testBit x = true) (det : ∀ k, A (k + 1) = A k → ∀ m, A (k + m) = A k) :
    ∀ j x, (A n).testBit j = true → (t j).testBit x = true → (A n).testBit x = true := by
  have hb : ∀ k x, (A k).testBit x = true → x < n := fun k x hx => by
    apply Classical.byContradiction
    intro hn
    rw [Nat.testBit_lt_two_pow (Nat.lt_of_lt_of_le (hlt k) (Nat.pow_le_pow_right (by decide) (Nat.le_of_not_lt hn)))] at hx
    cases hx
  have main : ∀ k, (∃ m, m < k ∧ A (m + 1) = A m) ∨ k + 1 ≤ cnt n (A k) := by
    intro k
    induction k with
    | zero =>
      right
      have : i ∈ List.range n := List.mem_range.2 (hb 0 i h0)
      exact List.countP_pos_iff.2 ⟨i, this, h0⟩
    | succ k ih =>
      rcases ih with ⟨m, hm, he⟩ | ih
      · exact .inl ⟨m, by omega, he⟩
      · by_cases he : A (k + 1) = A k
        · exact .inl ⟨k, by omega, he⟩
        · right
          obtain ⟨x, hx⟩ : ∃ x, (A k).testBit x ≠ (A (k + 1)).testBit x := by
            apply Classical.byContradiction
            intro hn
            exact he (Nat.eq_of_testBit_eq fun x => (Classical.byContradiction fun h => hn ⟨x, h⟩ : (A k).testBit x = (A (k + 1)).testBit x).symm)
          have h1 : (A k).testBit x = false := by
            cases hh : (A k).testBit x with
            | false => rfl
            | true => rw [hh, mono k x hh] at hx; exact absurd rfl hx
          have h2 : (A (k + 1)).testBit x = true := by
            cases hh : (A (k + 1)).testBit x with
            | true => rfl
            | false => rw [h1, hh] at hx; exact absurd rfl hx
          have := countP_lt (p := (A k).testBit) (q := (A (k + 1)).testBit) (fun y _ => mono k y) (List.mem_range.2 (hb _ x h2)) h1 h2
          exact Nat.lt_of_le_of_lt ih this
  rcases main n with ⟨m, hm, he⟩ | h
  · have e1 := det m he (n - m)
    have e2 : m + (n - m) = n := by omega
    rw [e2] at e1
    intro j x hj hx
    rw [e1] at hj ⊢
    rw [← he]; exact step m j x hj hx
  · have := cnt_le n (A n); omega

/-! ### The parts -/
section
variable {n : Nat} {R : Nat → Nat}
def topL (n : Nat) (R : Nat → Nat) (left : Nat) : List Nat := (List.range n).filter fun j => left.testBit j && (R j &&& left == left)
def cps (n : Nat) (R : Nat → Nat) : Nat → Nat → List Nat
  | 0, _ => []
  | k + 1, left => if left = 0 then [] else Clr.setL (topL n R left) :: cps n R k (left ^^^ Clr.setL (topL n R left))
/-- Those with one reach. -/
def prt (n : Nat) (R : Nat → Nat) (r : Nat) : Nat := Clr.setL ((List.range n).filter fun j => R j == r)
structure Nest (n : Nat) (R : Nat → Nat) : Prop where
  lt : ∀ i, i < n → R i < 2 ^ n
  self : ∀ i, i < n → (R i).testBit i = true
  sub : ∀ i j x, i < n → (R i).testBit j = true → (R j).testBit x = true → (R i).testBit x = true
  lin : ∀ i j, i < n → j < n → (R i).testBit j = true ∨ (R j).testBit i = true
theorem Nest.mem (h : Nest n R) {i j : Nat} (hi : i < n) (hj : (R i).testBit j = true) : j < n := by
  apply Classical.byContradiction
  intro hn
  rw [Nat.testBit_lt_two_pow (Nat.lt_of_lt_of_le (h.lt i hi) (Nat.pow_le_pow_right (by decide) (Nat.le_of_not_lt hn)))] at hj
  cases hj
/-- The parts in the order of a list of all reaches, the greater ones first. -/
theorem cps_eq (h : Nest n R) : ∀ (L : List Nat) (k left : Nat), L.length ≤ k → left < 2 ^ n → L.Nodup → (∀ r ∈ L, ∃ i, i < n ∧ left.testBit i = true ∧ R i = r) → (∀ i, i < n → left.testBit i = true → R i ∈ L) →
    (∀ i x, i < n → left.testBit i = true → (R i).testBit x = true → left.testBit x = true) → L.Pairwise (fun a b => cnt n b ≤ cnt n a) → cps n R k left = L.map (prt n R)
  | [], k, left, _, hlt, _, _, hin, _, _ => by
    have hz : left = 0 := Nat.eq_of_testBit_eq fun x => by
      rw [Nat.zero_testBit]
      cases hx : left.testBit x with
      | false => rfl
      | true =>
        have hxn : x < n := by
          apply Classical.byContradiction
          intro hn
          rw [Nat.testBit_lt_two_pow (Nat.lt_of_lt_of_le hlt (Nat.pow_le_pow_right (by decide) (Nat.le_of_not_lt hn)))] at hx
          cases hx
        have := hin x hxn hx
        cases this
    cases k with
    | zero => rfl
    | succ k => rw [cps, if_pos hz]; rfl
  | r :: L, k + 1, left, hk, hlt, hnd, hex, hin, hcl, hpw => by
    have hbl : ∀ x, left.testBit x = true → x < n := fun x hx => by
      apply Classical.byContradiction
      intro hn
      rw [Nat.testBit_lt_two_pow (Nat.lt_of_lt_of_le hlt (Nat.pow_le_pow_right (by decide) (Nat.le_of_not_lt hn)))] at hx
      cases hx
    obtain ⟨i0, hi0, hi0l, rfl⟩ := hex r (by simp)
    obtain ⟨hp1, hp2⟩ := List.pairwise_cons.1 hpw
    obtain ⟨hn1, hn2⟩ := List.nodup_cons.1 hnd
    -- left is just what is reached from i0
    have hle : ∀ x, left.testBit x = true → (R i0).testBit x = true := fun x hx => by
      have hxn := hbl x hx
      rcases h.lin i0 x hi0 hxn with g | g
      · exact g
      · -- i0 is reached from x, so R x has all of R i0, and no more
        apply Classical.byContradiction
        intro hng
        have hlt2 : cnt n (R i0) < cnt n (R x) := countP_lt (fun y _ hy => h.sub x i0 y hxn g hy) (List.mem_range.2 hxn) (by simpa using hng) (h.self x hxn)
        rcases List.mem_cons.1 (hin x hxn hx) with e | hm
        · rw [e] at hlt2; omega
        · have := hp1 _ hm; omega
    have hge : ∀ x, (R i0).testBit x = true → left.testBit x = true := fun x hx => hcl i0 x hi0 hi0l hx
    have heq : left = R i0 := Nat.eq_of_testBit_eq fun x => by rw [Bool.eq_iff_iff]; exact ⟨hle x, hge x⟩
    have htop : topL n R left = (List.range n).filter fun j => R j == R i0 := by
      rw [topL]
      refine List.filter_congr fun j hj => ?_
      have hjn := List.mem_range.1 hj
      rw [Bool.eq_iff_iff, Bool.and_eq_true, beq_iff_eq, beq_iff_eq]
      constructor
      · rintro ⟨g1, g2⟩
        refine Nat.eq_of_testBit_eq fun x => ?_
        rw [Bool.eq_iff_iff]
        constructor
        · intro hx; exact hle x (hcl j x hjn g1 hx)
        · intro hx
          have := congrArg (fun z => z.testBit x) g2
          simp only [Nat.testBit_and, hge x hx, Bool.and_true] at this
          exact this
      · intro e
        refine ⟨hge j (by rw [← e]; exact h.self j hjn), ?_⟩
        rw [e, heq, Nat.and_self]
    have hne : left ≠ 0 := fun e => by rw [e, Nat.zero_testBit] at hi0l; cases hi0l
    rw [cps, if_neg hne, htop, List.map_cons, prt]
    congr 1
    have hbit : ∀ x, (left ^^^ Clr.setL ((List.range n).filter fun j => R j == R i0)).testBit x = (left.testBit x && !(R x == R i0)) := fun x => by
      rw [Nat.testBit_xor]
      have hs : (Clr.setL ((List.range n).filter fun j => R j == R i0)).testBit x = (decide (x < n) && (R x == R i0)) := by
        rw [Bool.eq_iff_iff, Clr.setL_bit, List.mem_filter, List.mem_range, Bool.and_eq_true, decide_eq_true_eq]
      rw [hs]
      cases hl : left.testBit x with
      | true => rw [decide_eq_true (hbl x hl)]; cases (R x == R i0) <;> rfl
      | false =>
        cases hr : (R x == R i0) with
        | false => simp
        | true =>
          by_cases hxn : x < n
          · have := hge x (by rw [← beq_iff_eq.1 hr]; exact h.self x hxn)
            rw [hl] at this; cases this
          · rw [decide_eq_false hxn]; rfl
    refine cps_eq h L k _ (by simpa using hk) (Nat.xor_lt_two_pow hlt ?_) hn2 (fun r hr => ?_) (fun i hi hil => ?_) (fun i x hi hil hx => ?_) hp2
    · refine Nat.lt_pow_two_of_testBit _ fun x hx => ?_
      cases hb : (Clr.setL ((List.range n).filter fun j => R j == R i0)).testBit x with
      | false => rfl
      | true =>
        rw [Clr.setL_bit, List.mem_filter, List.mem_range] at hb
        omega
    · obtain ⟨i, hi, hil, rfl⟩ := hex r (by simp [hr])
      refine ⟨i, hi, ?_, rfl⟩
      rw [hbit, hil]
      have : R i ≠ R i0 := fun e => hn1 (e ▸ hr)
      simp [this]
    · rw [hbit, Bool.and_eq_true] at hil
      have hne : R i ≠ R i0 := by simpa using hil.2
      exact (List.mem_cons.1 (hin i hi hil.1)).resolve_left hne
    · rw [hbit, Bool.and_eq_true] at hil ⊢
      have hne : R i ≠ R i0 := by simpa using hil.2
      refine ⟨hcl i x hi hil.1 hx, ?_⟩
      simp only [Bool.not_eq_true', beq_eq_false_iff_ne, ne_eq]
      intro e
      have hxn := h.mem hi hx
      refine hne (Nat.eq_of_testBit_eq fun y => ?_)
      rw [Bool.eq_iff_iff]
      constructor
      · intro hy; exact hle y (hcl i y hi hil.1 hy)
      · intro hy; rw [← e] at hy; exact h.sub i x y hi hx hy
  | _ :: _, 0, _, hk, _, _, _, _, _, _ => by simp at hk
end
end Rch

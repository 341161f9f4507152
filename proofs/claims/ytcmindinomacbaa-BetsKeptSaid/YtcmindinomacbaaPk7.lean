/-
  bets: the library's stable sort of a short slice of the first numbers, by a function.
  bets: Grow: the order, the choice.
  bets: least and greatest.
  bets: fractions: sums, products, quotients.
  bets: fractions: the reference's arithmetic; a fraction's checks.
  Printed by gen.py: the code of some functions, without what no step looks at; held against the program's own by the kernel.
  bets: the common multiple of fractions.
  Printed by gen.py: the code of some functions, without what no step looks at; held against the program's own by the kernel.
  bets: chances: their checks, sums over an event, parts.
  Printed by gen.py: the code of some functions, without what no step looks at; held against the program's own by the kernel.
  Printed by gen.py: the code of some functions, without what no step looks at; held against the program's own by the kernel.
  bets: parts as numbers; a slice of parts; the program's checks of chances; the chance of an event.
-/
import Derived.Test.YtcmindinomacbaaPk6
import Derived.Test.YtcmindinomacbaaPk5
import Derived.Test.YtcmindinomacbaaPk3
import Derived.Test.YtcmindinomacbaaProg
import Derived.KernelRfl
import Derived.Shelf.Abstract
set_option linter.all false
namespace Go.Proofs.Try.Am
open Go.Am
set_option maxRecDepth 100000
set_option maxHeartbeats 1000000
abbrev iL (L : List Nat) : List Int := L.map Int.ofNat
theorem iL_len (L : List Nat) : (iL L).length = L.length := List.length_map _
theorem iL_get (L : List Nat) (i : Nat) : (iL L).getD i 0 = ((L.getD i 0 : Nat) : Int) := by
  simp only [List.getD, List.getElem?_map]; cases L[i]? <;> rfl
theorem iL_set (L : List Nat) (i x : Nat) : (iL L).set i ((x : Nat) : Int) = iL (L.set i x) := by rw [iL, iL, List.map_set]; rfl
theorem getD_setN {L : List Nat} {i x : Nat} (h : i < L.length) (t : Nat) : (L.set i x).getD t 0 = if t = i then x else L.getD t 0 := by
  by_cases hti : t = i
  · subst hti; rw [if_pos rfl, List.getD, List.getElem?_set_self h]; rfl
  · rw [if_neg hti, List.getD, List.getD, List.getElem?_set_ne (Ne.symm hti)]
def swL (L : List Nat) (j : Nat) : List Nat := (L.set j (L.getD (j - 1) 0)).set (j - 1) (L.getD j 0)
theorem swL_get {L : List Nat} {j : Nat} (h1 : 1 ≤ j) (h2 : j < L.length) (t : Nat) : (swL L j).getD t 0 = if t = j - 1 then L.getD j 0 else if t = j then L.getD (j - 1) 0 else L.getD t 0 := by
  rw [swL, getD_setN (by rw [List.length_set]; omega), getD_setN h2]
theorem swL_perm {L : List Nat} {j : Nat} (h1 : 1 ≤ j) (h2 : j < L.length) : (swL L j).Perm L := by
  have := Array.swap_perm (xs := L.toArray) (i := j) (j := j - 1) (by simpa using h2) (by simp; omega)
  rw [Array.perm_iff_toList_perm, Array.toList_swap] at this
  simpa [swL, List.getD, List.getElem?_eq_getElem h2, List.getElem?_eq_getElem (show j - 1 < L.length by omega)] using this

section
variable {key : Nat → Int}
/-- The first i are sorted. -/
def SrtTo (key : Nat → Int) (L : List Nat) (i : Nat) : Prop := ∀ p q, p < q → q < i → key (L.getD p 0) ≤ key (L.getD q 0)
/-- The first i + 1 are sorted but for the one at j. -/
def SrtBut (key : Nat → Int) (L : List Nat) (i j : Nat) : Prop := ∀ p q, p < q → q ≤ i → q ≠ j → key (L.getD p 0) ≤ key (L.getD q 0)
theorem SrtBut.step {L : List Nat} {i j : Nat} (h : SrtBut key L i j) (h1 : 1 ≤ j) (h2 : j < L.length) (hj : j ≤ i) (hlt : key (L.getD j 0) < key (L.getD (j - 1) 0)) : SrtBut key (swL L j) i (j - 1) := by
  intro p q hpq hq hne
  rw [swL_get h1 h2, swL_get h1 h2, if_neg hne]
  by_cases hqj : q = j
  · rw [if_pos hqj]
    by_cases hp : p = j - 1
    · rw [if_pos hp]; omega
    · rw [if_neg hp, if_neg (by omega)]
      exact h p (j - 1) (by omega) (by omega) (by omega)
  · rw [if_neg hqj]
    by_cases hp : p = j - 1
    · rw [if_pos hp]; exact h j q (by omega) hq hqj
    · rw [if_neg hp]
      by_cases hpj : p = j
      · rw [if_pos hpj]; exact h (j - 1) q (by omega) hq hqj
      · rw [if_neg hpj]; exact h p q hpq hq hqj
theorem SrtBut.done {L : List Nat} {i j : Nat} (h : SrtBut key L i j) (hj : j = 0 ∨ key (L.getD (j - 1) 0) ≤ key (L.getD j 0)) : SrtTo key L (i + 1) := by
  intro p q hpq hq
  by_cases hqj : q = j
  · subst hqj
    rcases hj with hj | hj
    · omega
    · by_cases hp : p = q - 1
      · subst hp; exact hj
      · exact Int.le_trans (h p (q - 1) (by omega) (by omega) (by omega)) hj
  · exact h p q hpq (by omega) hqj
theorem SrtTo.pw {L : List Nat} (h : SrtTo key L L.length) : L.Pairwise fun a b => key a ≤ key b := by
  rw [List.pairwise_iff_getElem]
  intro i j hi hj hij
  have := h i j hij hj
  rw [List.getD, List.getD, List.getElem?_eq_getElem hi, List.getElem?_eq_getElem hj] at this
  exact this
end
theorem subN1 {n : Nat} (h1 : 1 ≤ n) (h : n < 9223372036854775808) : subV .i64 (n : Int) 1 = ((n - 1 : Nat) : Int) := by rw [subV_id (by omega) (by omega)]; omega
/-- A slice in a block of its own. -/
abbrev ov (b n m : Nat) : Value := .slice (some ⟨b, 0, some 0⟩) n (n + m)
theorem ov_own {h : Zh} {b n : Nat} {L : List Nat} {ys : List Int} (hb : b < h.length) (hn : L.length = n) : OwnSl 3 (h.set b (.ints (iL L ++ ys) 3 false)) (ov b n ys.length) (iL L) :=
  .inr ⟨b, ys, by rw [iL_len, hn], Xs hb _⟩
theorem elemP_ov (b n m i : Nat) : Vf (ov b n m) 1 i = .pointer (some ⟨b, i, none⟩) := by simp [Vf]
theorem ov_load {h : Zh} {b n : Nat} {L : List Nat} {ys : List Int} {i : Nat} (hb : b < h.length) (hn : L.length = n) (hi : i < n) {K : Value → Prop} :
    Xm prog (h.set b (.ints (iL L ++ ys) 3 false)) 3 (.pointer (some ⟨b, i, none⟩)) K = K (Zd (L.getD i 0 : Nat)) := by
  have := (ov_own (h := h) (b := b) (n := n) (L := L) (ys := ys) hb hn).int.load Xl (i := i) (by rw [iL_len]; omega) K
  rw [elemP_ov, iL_get] at this
  exact this
theorem ov_store {h : Zh} {b : Nat} {L : List Nat} {ys : List Int} {i x : Nat} (hb : b < h.length) (hi : i < L.length) {K : Zh → Prop} :
    Xf prog (h.set b (.ints (iL L ++ ys) 3 false)) 3 (.pointer (some ⟨b, i, none⟩)) (Zd (x : Nat)) K = K (h.set b (.ints (iL (L.set i x) ++ ys) 3 false)) := by
  rw [storeBI (Xs hb _) Xl (by rw [List.length_append, iL_len]; omega), List.set_set, List.set_append_left _ _ (by rw [iL_len]; exact hi), iL_set]

theorem s120_callW [Tabs Try.prog] {args : List Value} {h : Zh} {Q : Value → Zh → Prop} (hsz : args.length ≤ 53) (hk : AWS Try.prog 53 s120 (Zr Try.prog [] Q) (Zt 0 args) h) : ACall Try.prog 120 args h Q :=
  Ym Try.func120 rfl (enters_of Try.func120 (by kernel_rfl) rfl) rfl rfl (by decide) s120_strip s120_ok hsz hk
theorem isortF_call [Tabs prog] {h : Zh} {b : Nat} {L0 : List Nat} {ys : List Int} {g : FuncId} {cap : Array Value} {key : Nat → Int} {cmp : Nat → Nat → Int} {n0 : Nat} (hL0 : L0 = List.range n0) (hinj : ∀ x y, x < 12 → y < x → (cmp x y < 0 ↔ key x < key y)) (hc : ∀ L x y, x ∈ L0 → y ∈ L0 → Yv prog g ([Zd x, Zd y] ++ cap.toList) (h.set b (.ints (iL L ++ ys) 3 false)) (Zd (cmp x y))) (hb : h[b]? = some (.ints (iL L0 ++ ys) 3 false)) (hl : L0.length ≤ 12) (hx : ∀ x ∈ L0, x < 4611686018427387904) :
    ACall prog 120 [ov b L0.length ys.length, .int .i64 0, Zd L0.length, .func (.func g) #[] cap] h fun _ h' => ∃ L : List Nat, L.Perm L0 ∧ L.Pairwise (fun a b => key a ≤ key b) ∧ h' = h.set b (.ints (iL L ++ ys) 3 false) := by
  have hlt := Yj hb
  have h0 : h = h.set b (.ints (iL L0 ++ ys) 3 false) := by
    apply List.ext_getElem?
    intro i
    by_cases hi : b = i
    · subst hi; rw [Xs hlt, hb]
    · rw [List.getElem?_set_ne hi]
  obtain ⟨n, hn⟩ : ∃ n, L0.length = n := ⟨_, rfl⟩
  rw [hn] at hl ⊢
  have hrange : ∀ {L : List Nat}, L.Perm L0 → ∀ i, L.getD i 0 < 4611686018427387904 := fun {L} hp i => by
    by_cases hi : i < L.length
    · rw [List.getD, List.getElem?_eq_getElem hi]; exact hx _ (hp.mem_iff.1 (List.getElem_mem hi))
    · rw [List.getD, List.getElem?_eq_none (by omega)]; decide
  refine s120_callW (by simp) ?_
  simp only [s120]
  have e01 : addV .i64 0 1 = 1 := rfl
  have hst1 : ∀ q, q < 1 → L0.getD q 0 < 1 := fun q hq => by
    obtain rfl : q = 0 := by omega
    rw [hL0]
    cases n0 with
    | zero => decide
    | succ m => rw [List.getD, List.getElem?_range (Nat.succ_pos m)]; decide
  have hst2 : ∀ q, 1 ≤ q → q < n → L0.getD q 0 = q := fun q _ hq => by
    rw [← hn, hL0, List.length_range] at hq
    rw [hL0, List.getD, List.getElem?_range hq]; rfl
  refine Ze fun N1 hN1 => ?_
  simp (maxSteps := 2000000) only [↓Za, ↓Zb, ↓Zc, vup, cond_true, cond_false, aop, Zg, Zt, ev, sput, Zf, Zz, Ya, Nat.reduceBEq, Nat.reduceAdd, e01]
  refine hN1 [(0, ov b n ys.length), (1, .int .i64 0), (2, Zd n), (3, .func (.func g) #[] cap), (8, .int .i64 1)] _ _ ?_ (by simp (maxSteps := 2000000) only [vup, cond_true, cond_false, Nat.reduceBEq])
  clear hN1
  try clear N1
  refine Zl ?_
  refine Zm fun Q hQ => ?_
  refine Yh (γ := Nat × List Nat) (fun s => 1 ≤ s.1 ∧ (s.1 ≤ n ∨ s.1 = 1) ∧ s.2.Perm L0 ∧ SrtTo key s.2 s.1 ∧ (∀ q, q < s.1 → s.2.getD q 0 < s.1) ∧ ∀ q, s.1 ≤ q → q < n → s.2.getD q 0 = q)
    (fun s => ([(0, ov b n ys.length), (1, .int .i64 0), (2, Zd n), (3, .func (.func g) #[] cap), (8, Zd s.1)], h.set b (.ints (iL s.2 ++ ys) 3 false))) (fun s => n - s.1) (1, L0) ⟨Nat.le_refl _, .inr rfl, .refl _, fun p q _ _ => by omega, hst1, hst2⟩ (by simp (maxSteps := 2000000) only [vup, cond_true, cond_false, Nat.reduceBEq, Int.natCast_one]) h0 ?_
  rintro ⟨i, L⟩ ⟨hi1, hi, hp, hs, hb1, hb2⟩
  simp only at hi1 hi hp hs hb1 hb2
  have hLn : L.length = n := hp.length_eq.trans hn
  refine Zm fun Q2 hQ2 => ?_
  simp only [l120_1]
  by_cases hin : (i : Int) < n
  · have hi' : i < n := by omega
    refine Ze fun N2 hN2 => ?_
    simp (maxSteps := 2000000) only [↓Za, ↓Zo, ↓Zs, ↓Zb, ↓Zc, ↓vdn, vup, cond_true, cond_false, aop, Zg, ev, sput, Zf, Zz, Ya, Nat.reduceBEq, hin]
    refine hN2 [(0, ov b n ys.length), (1, .int .i64 0), (2, Zd n), (3, .func (.func g) #[] cap), (8, Zd i)] _ _ ?_ (by simp (maxSteps := 2000000) only [vup, cond_true, cond_false, Nat.reduceBEq])
    clear hN2
    try clear N2
    refine Zk fun M hM => ?_
    refine Zl ?_
    refine Ze fun N3 hN3 => ?_
    simp (maxSteps := 2000000) only [↓Za, ↓Zb, ↓Zc, vup, cond_true, cond_false, aop, Zg, ev, sput, Zf, Nat.reduceBEq]
    refine hN3 [(0, ov b n ys.length), (1, .int .i64 0), (2, Zd n), (3, .func (.func g) #[] cap), (8, Zd i), (9, Zd i)] _ _ ?_ (by simp (maxSteps := 2000000) only [vup, cond_true, cond_false, Nat.reduceBEq])
    clear hN3
    try clear N3
    refine Zl ?_
    refine Zm fun Q3 hQ3 => ?_
    refine Yh (γ := Nat × List Nat) (fun s => s.1 ≤ i ∧ s.2.Perm L0 ∧ SrtBut key s.2 i s.1 ∧ s.2.getD s.1 0 = i ∧ (∀ q, q ≤ i → q ≠ s.1 → s.2.getD q 0 < i) ∧ ∀ q, i < q → q < n → s.2.getD q 0 = q)
      (fun s => ([(0, ov b n ys.length), (1, .int .i64 0), (2, Zd n), (3, .func (.func g) #[] cap), (8, Zd i), (9, Zd s.1)], h.set b (.ints (iL s.2 ++ ys) 3 false))) (fun s => s.1) (i, L) ⟨Nat.le_refl _, hp, fun p q h1 h2 h3 => hs p q h1 (by omega), hb2 i (Nat.le_refl _) hi', fun q hq hne => hb1 q (by omega), fun q hq hqn => hb2 q (by omega) hqn⟩ (by simp (maxSteps := 2000000) only [vup, cond_true, cond_false, Nat.reduceBEq]) rfl ?_
    clear hp hs hLn hb1 hb2
    rintro ⟨j, L⟩ ⟨hj, hp, hs, hji, hb1, hb2⟩
    simp only at hj hp hs hji hb1 hb2
    have hLn : L.length = n := hp.length_eq.trans hn
    have own := ov_own (h := h) (b := b) (n := n) (L := L) (ys := ys) hlt hLn
    refine Zm fun Q4 hQ4 => ?_
    simp only [l120_0]
    have fin : (j = 0 ∨ key (L.getD (j - 1) 0) ≤ key (L.getD j 0)) → ∀ e, ELe e [(0, ov b n ys.length), (1, .int .i64 0), (2, Zd n), (3, .func (.func g) #[] cap), (8, Zd i)] → M e (h.set b (.ints (iL L ++ ys) 3 false)) := by
      intro hd e he
      refine hM [(0, ov b n ys.length), (1, .int .i64 0), (2, Zd n), (3, .func (.func g) #[] cap), (8, Zd i)] _ _ ?_ he
      refine Zj ?_
      simp (maxSteps := 2000000) only [↓Za, ↓Zb, ↓Zc, vup, cond_true, cond_false, aop, ev, sput, Zf, Zz, Ya, Nat.reduceBEq, add1 (show i < 9223372036854775807 by omega)]
      have hd1 : ∀ q, q < i + 1 → L.getD q 0 < i + 1 := fun q hq => by
        by_cases hqj : q = j
        · subst hqj; omega
        · have := hb1 q (by omega) hqj; omega
      exact hQ2 _ _ _ ⟨(i + 1, L), ⟨by simp only; omega, .inl (by simp only; omega), hp, hs.done hd, hd1, fun q hq hqn => hb2 q hq hqn⟩, by simp only; omega, by simp (maxSteps := 2000000) only [vup, cond_true, cond_false, Nat.reduceBEq], rfl⟩
    by_cases hj0 : j = 0
    · subst hj0
      refine Ze fun N4 hN4 => ?_
      simp (maxSteps := 2000000) only [↓Zs]
      refine Yo [(14, 1)] (by kernel_rfl) (by kernel_rfl) (by kernel_rfl) (by kernel_rfl) ?_
      simp (maxSteps := 2000000) only [↓Yn, ↓Zp, ↓vdn, vup, cond_true, cond_false, aop, Zg, ev, sput, Zf, Zz, Ya, pickK, Nat.reduceBEq, Int.natCast_zero, Int.lt_irrefl]
      refine hQ4 _ _ _ (hQ3 _ _ _ ?_)
      simp (maxSteps := 2000000) only [Zg, Zn, if_true]
      exact fin (.inl rfl) _ (by simp (maxSteps := 2000000) only [vup, cond_true, cond_false, Nat.reduceBEq])
    · have hjp : (0 : Int) < (j : Int) := by omega
      have hjn : j < (iL L).length := by rw [iL_len]; omega
      have hj1n : j - 1 < (iL L).length := by omega
      have hin1 : ∀ i, i < n → L.getD i 0 ∈ L0 := fun i hi => hp.mem_iff.1 (by rw [List.getD, List.getElem?_eq_getElem (by omega), Option.getD_some]; exact List.getElem_mem _)
      have c1 := hc L _ _ (hin1 j (by omega)) (hin1 (j - 1) (by omega))
      have hlt1 := hb1 (j - 1) (by omega) (by omega)
      have hiff := hinj (L.getD j 0) (L.getD (j - 1) 0) (by omega) (by omega)
      have hsub := subN1 (show 1 ≤ j by omega) (show j < 9223372036854775808 by omega)
      by_cases hlt2 : key (L.getD j 0) < key (L.getD (j - 1) 0)
      · have hneg : cmp (L.getD j 0) (L.getD (j - 1) 0) < 0 := hiff.2 hlt2
        refine Ze fun N5 hN5 => ?_
        simp (maxSteps := 2000000) only [↓Zs]
        refine Yo [(14, 1)] (by kernel_rfl) (by kernel_rfl) (by kernel_rfl) (by kernel_rfl) ?_
        simp (maxSteps := 2000000) only [↓Zp, ↓vdn, vup, List.map_cons, List.map_nil, cond_true, cond_false, aop, Zg, ev, sput, Zf, Zz, Ya, pickK, Nat.reduceBEq, Nat.reduceAdd, tyf, hjp, hsub, own.int.idx Wb Xt hjn, own.int.load Xl hjn, own.int.idx Wb Xt hj1n, own.int.load Xl hj1n, iL_get, Yk, List.nil_append, List.cons_append]
        refine ⟨_, _, c1, rfl, ?_⟩
        simp (maxSteps := 2000000) only [↓Zo, ↓vdn, vup, cond_true, cond_false, Zg, ev, Nat.reduceBEq, hneg]
        refine hN5 [(0, ov b n ys.length), (1, .int .i64 0), (2, Zd n), (3, .func (.func g) #[] cap), (8, Zd i), (9, Zd j)] _ _ ?_ (by simp (maxSteps := 2000000) only [vup, cond_true, cond_false, Nat.reduceBEq])
        clear hN5
        try clear N5
        refine Zj ?_
        simp (maxSteps := 2000000) only [↓Zs, ↓aw_block]
        refine Yo [] (by kernel_rfl) (by kernel_rfl) (by kernel_rfl) (by kernel_rfl) ?_
        have hjL : j < L.length := by omega
        simp (maxSteps := 2000000) only [↓Za, ↓Zb, ↓Zc, ↓Zp, ↓vdn, vup, cond_true, cond_false, aop, Zg, Zn, ev, sput, Zf, Zz, Ya, Nat.reduceBEq, Nat.reduceAdd, hsub, own.int.idx Wb Xt hjn, own.int.idx Wb Xt hj1n, elemP_ov, ov_load hlt hLn (show j < n by omega), ov_load hlt hLn (show j - 1 < n by omega), ov_store hlt hjL, ov_store hlt (show j - 1 < (L.set j (L.getD (j - 1) 0)).length by rw [List.length_set]; omega)]
        have hs1 : (swL L j).getD (j - 1) 0 = i := by rw [swL_get (by omega) hjL, if_pos rfl]; exact hji
        have hs2 : ∀ q, q ≤ i → q ≠ j - 1 → (swL L j).getD q 0 < i := fun q hq hne => by
          rw [swL_get (by omega) hjL, if_neg hne]
          split
          · exact hlt1
          · exact hb1 q hq (by assumption)
        have hs3 : ∀ q, i < q → q < n → (swL L j).getD q 0 = q := fun q hq hqn => by
          rw [swL_get (by omega) hjL, if_neg (by omega), if_neg (by omega)]
          exact hb2 q hq hqn
        refine hQ4 _ _ _ ⟨(j - 1, swL L j), ⟨by simp only; omega, (swL_perm (by omega) hjL).trans hp, hs.step (by omega) hjL hj hlt2, hs1, hs2, hs3⟩, by simp only; omega, by simp (maxSteps := 2000000) only [vup, cond_true, cond_false, Nat.reduceBEq], rfl⟩
      · have hneg : ¬ cmp (L.getD j 0) (L.getD (j - 1) 0) < 0 := fun hc => hlt2 (hiff.1 hc)
        refine Ze fun N6 hN6 => ?_
        simp (maxSteps := 2000000) only [↓Zs]
        refine Yo [(14, 1)] (by kernel_rfl) (by kernel_rfl) (by kernel_rfl) (by kernel_rfl) ?_
        simp (maxSteps := 2000000) only [↓Zp, ↓vdn, vup, List.map_cons, List.map_nil, cond_true, cond_false, aop, Zg, ev, sput, Zf, Zz, Ya, pickK, Nat.reduceBEq, Nat.reduceAdd, tyf, hjp, hsub, own.int.idx Wb Xt hjn, own.int.load Xl hjn, own.int.idx Wb Xt hj1n, own.int.load Xl hj1n, iL_get, Yk, List.nil_append, List.cons_append]
        refine ⟨_, _, c1, rfl, ?_⟩
        simp (maxSteps := 2000000) only [↓Yn, ↓vdn, vup, cond_true, cond_false, Zg, ev, Nat.reduceBEq, hneg]
        refine hQ4 _ _ _ (hQ3 _ _ _ ?_)
        simp (maxSteps := 2000000) only [Zg, Zn, if_true]
        exact fin (.inr (by omega)) _ (by simp (maxSteps := 2000000) only [vup, cond_true, cond_false, Nat.reduceBEq])
  · refine Ze fun M hM => ?_
    simp (maxSteps := 2000000) only [↓Za, ↓Zs, ↓Yn, ↓Zb, ↓Zc, ↓vdn, vup, cond_true, cond_false, aop, Zg, ev, sput, Zf, Zz, Ya, Nat.reduceBEq, hin]
    refine hQ2 _ _ _ (hQ _ _ _ ?_)
    simp (maxSteps := 2000000) only [Zn, Zr, Xo, if_true]
    refine ⟨L, hp, ?_, rfl⟩
    refine SrtTo.pw ?_
    rw [hLn]
    intro p q hpq hq
    exact hs p q hpq (by omega)

theorem s113_callW [Tabs Try.prog] {args : List Value} {h : Zh} {Q : Value → Zh → Prop} (hsz : args.length ≤ 63) (hk : AWS Try.prog 63 s113 (Zr Try.prog [] Q) (Zt 0 args) h) : ACall Try.prog 113 args h Q :=
  Ym Try.func113 rfl (enters_of Try.func113 (by kernel_rfl) rfl) rfl rfl (by decide) s113_strip s113_ok hsz hk
theorem stableF_call [Tabs prog] {h : Zh} {b : Nat} {L0 : List Nat} {ys : List Int} {g : FuncId} {cap : Array Value} {key : Nat → Int} {cmp : Nat → Nat → Int} {n0 : Nat} (hL0 : L0 = List.range n0) (hinj : ∀ x y, x < 12 → y < x → (cmp x y < 0 ↔ key x < key y)) (hc : ∀ L x y, x ∈ L0 → y ∈ L0 → Yv prog g ([Zd x, Zd y] ++ cap.toList) (h.set b (.ints (iL L ++ ys) 3 false)) (Zd (cmp x y))) (hb : h[b]? = some (.ints (iL L0 ++ ys) 3 false)) (hl : L0.length ≤ 12) (hx : ∀ x ∈ L0, x < 4611686018427387904) :
    ACall prog 113 [ov b L0.length ys.length, Zd L0.length, .func (.func g) #[] cap] h fun _ h' => ∃ L : List Nat, L.Perm L0 ∧ L.Pairwise (fun a b => key a ≤ key b) ∧ h' = h.set b (.ints (iL L ++ ys) 3 false) := by
  have n20 : ¬ (20 : Int) ≤ (L0.length : Int) := by omega
  have n20' : ¬ (20 : Int) < (L0.length : Int) := by omega
  refine s113_callW (by simp) ?_
  simp only [s113]
  refine Ze fun N7 hN7 => ?_
  simp (maxSteps := 2000000) only [↓Za, ↓Zb, ↓Zc, vup, cond_false, aop, Zg, Zt, ev, sput, Zf, Nat.reduceBEq, Nat.reduceAdd]
  refine hN7 [(0, ov b L0.length ys.length), (1, Zd L0.length), (2, .func (.func g) #[] cap), (6, .int .i64 20)] _ _ ?_ (by simp (maxSteps := 2000000) only [vup, cond_true, cond_false, Nat.reduceBEq])
  clear hN7
  try clear N7
  refine Ze fun N8 hN8 => ?_
  simp (maxSteps := 2000000) only [↓Za, ↓Zb, ↓Zc, vup, cond_true, cond_false, aop, Zg, ev, sput, Zf, Nat.reduceBEq]
  refine hN8 [(0, ov b L0.length ys.length), (1, Zd L0.length), (2, .func (.func g) #[] cap), (6, .int .i64 20), (7, .int .i64 0), (8, .int .i64 20)] _ _ ?_ (by simp (maxSteps := 2000000) only [vup, cond_true, cond_false, Nat.reduceBEq])
  clear hN8
  try clear N8
  refine Zk fun M hM => ?_
  refine Zl ?_
  refine Zm fun Q hQ => ?_
  refine Yh (γ := Unit) (fun _ => True) (fun _ => ([(0, ov b L0.length ys.length), (1, Zd L0.length), (2, .func (.func g) #[] cap), (6, .int .i64 20), (7, .int .i64 0), (8, .int .i64 20)], h)) (fun _ => 0) () trivial (by simp (maxSteps := 2000000) only [vup, cond_true, cond_false, Nat.reduceBEq]) rfl ?_
  rintro _ _
  refine Zm fun Q2 hQ2 => ?_
  simp only [l113_0]
  refine Ze fun N9 hN9 => ?_
  simp (maxSteps := 2000000) only [↓Za, ↓Zs, ↓Yn, ↓Zb, ↓Zc, ↓vdn, vup, cond_true, cond_false, aop, Zg, ev, sput, Zf, Zz, Ya, Nat.reduceBEq, n20]
  refine hQ2 _ _ _ (hQ _ _ _ ?_)
  simp (maxSteps := 2000000) only [Zg, Zn, Zr, if_true]
  refine hM [(0, ov b L0.length ys.length), (1, Zd L0.length), (2, .func (.func g) #[] cap), (6, .int .i64 20), (7, .int .i64 0), (8, .int .i64 20)] _ _ ?_ (by simp (maxSteps := 2000000) only [vup, cond_true, cond_false, Nat.reduceBEq])
  clear hM
  try clear M
  refine Ze fun N10 hN10 => ?_
  simp (maxSteps := 2000000) only [↓Za, ↓Zb, ↓Zc, vup, List.map_cons, List.map_nil, cond_true, cond_false, aop, Zg, ev, sput, Zf, Nat.reduceBEq, Yk, List.nil_append, List.append_nil]
  refine (isortF_call hL0 hinj hc hb hl hx).mono ?_
  rintro r h' hr
  refine hN10 [(0, ov b L0.length ys.length), (1, Zd L0.length), (2, .func (.func g) #[] cap), (6, .int .i64 20), (7, .int .i64 0), (8, .int .i64 20)] _ _ ?_ (by simp (maxSteps := 2000000) only [vup, cond_true, cond_false, Nat.reduceBEq])
  clear hN10
  try clear N10
  refine Zl ?_
  refine Zm fun Q hQ => ?_
  refine Yh (γ := Unit) (fun _ => True) (fun _ => ([(0, ov b L0.length ys.length), (1, Zd L0.length), (2, .func (.func g) #[] cap), (6, .int .i64 20), (7, .int .i64 0), (8, .int .i64 20)], h')) (fun _ => 0) () trivial (by simp (maxSteps := 2000000) only [vup, cond_true, cond_false, Nat.reduceBEq]) rfl ?_
  rintro _ _
  refine Zm fun Q2 hQ2 => ?_
  simp only [l113_2]
  refine Ze fun N11 hN11 => ?_
  simp (maxSteps := 2000000) only [↓Za, ↓Zs, ↓Yn, ↓Zb, ↓Zc, ↓vdn, vup, cond_true, cond_false, aop, Zg, ev, sput, Zf, Zz, Ya, Nat.reduceBEq, n20']
  refine hQ2 _ _ _ (hQ _ _ _ ?_)
  simp (maxSteps := 2000000) only [Zn, Zr, Xo, if_true]
  exact hr
theorem s92_callW [Tabs Try.prog] {args : List Value} {h : Zh} {Q : Value → Zh → Prop} (hsz : args.length ≤ 9) (hk : AWS Try.prog 9 s92 (Zr Try.prog [] Q) (Zt 0 args) h) : ACall Try.prog 92 args h Q :=
  Ym Try.func92 rfl (enters_of Try.func92 (by kernel_rfl) rfl) rfl rfl (by decide) s92_strip s92_ok hsz hk
theorem sortF_call [Tabs prog] {h : Zh} {b : Nat} {L0 : List Nat} {ys : List Int} {g : FuncId} {cap : Array Value} {key : Nat → Int} {cmp : Nat → Nat → Int} {n0 : Nat} (hL0 : L0 = List.range n0) (hinj : ∀ x y, x < 12 → y < x → (cmp x y < 0 ↔ key x < key y)) (hc : ∀ L x y, x ∈ L0 → y ∈ L0 → Yv prog g ([Zd x, Zd y] ++ cap.toList) (h.set b (.ints (iL L ++ ys) 3 false)) (Zd (cmp x y))) (hb : h[b]? = some (.ints (iL L0 ++ ys) 3 false)) (hl : L0.length ≤ 12) (hx : ∀ x ∈ L0, x < 4611686018427387904) :
    ACall prog 92 [ov b L0.length ys.length, .func (.func g) #[] cap] h fun _ h' => ∃ L : List Nat, L.Perm L0 ∧ L.Pairwise (fun a b => key a ≤ key b) ∧ h' = h.set b (.ints (iL L ++ ys) 3 false) := by
  refine s92_callW (by simp) ?_
  refine Zj ?_
  simp (maxSteps := 2000000) only [s92, ↓Za, ↓Zb, ↓Zc, vup, List.map_cons, List.map_nil, cond_true, cond_false, aop, Zt, ev, sput, Zf, Zi, Nat.reduceBEq, Nat.reduceAdd, Zr, Xo, tyf, Yk, List.nil_append, List.append_nil, lenK]
  refine (stableF_call hL0 hinj hc hb hl hx).mono ?_
  rintro r h' hr
  exact hr
end Go.Proofs.Try.Am

namespace Go.Proofs.Try.Am
open Go.Am Bq
set_option maxRecDepth 100000
set_option maxHeartbeats 4000000

/-- The first k as a set. -/
def tkS (L : List Nat) : Nat → Nat
  | 0 => 0
  | k + 1 => tkS L k ||| 2 ^ L.getD k 0
theorem tkS_bit (L : List Nat) (i : Nat) : ∀ k, (tkS L k).testBit i = true ↔ ∃ j, j < k ∧ L.getD j 0 = i
  | 0 => by simp [tkS]
  | k + 1 => by
    rw [tkS, Nat.testBit_or, Bool.or_eq_true, tkS_bit L i k, Nat.testBit_two_pow]
    constructor
    · rintro (⟨j, h1, h2⟩ | h)
      · exact ⟨j, by omega, h2⟩
      · exact ⟨k, by omega, by simpa using h⟩
    · rintro ⟨j, h1, h2⟩
      by_cases hj : j = k
      · subst hj; exact .inr (by simpa using h2)
      · exact .inl ⟨j, by omega, h2⟩
section
variable {v : Nat → Int} {n : Nat} (hn : n ≤ 12) {L : List Nat} (hp : L.Perm (List.range n)) (hs : L.Pairwise fun a b => -(v a) * 16 + (a : Int) ≤ -(v b) * 16 + (b : Int))
include hn hp hs
end
/-- What is staked. -/
def Vg (xs ys : List Int) (L : List Nat) (K : Rat) (k i : Nat) : Rat := if (tkS L k).testBit i then gVa xs i + ((-1 : Int) : Rat) * (K * gVb ys i) else 0
def Wo (xs ys : List Int) (L : List Nat) (K : Rat) (k : Nat) : List (Int × Int) := (List.range xs.length).map fun i => ofQ (Vg xs ys L K k i)

theorem s93_callW [Tabs Try.prog] {args : List Value} {h : Zh} {Q : Value → Zh → Prop} (hsz : args.length ≤ 26) (hk : AWS Try.prog 26 s93 (Zr Try.prog [.tmp 6] Q) (Zt 0 args) h) : ACall Try.prog 93 args h Q :=
  Ym Try.func93 rfl (enters_of Try.func93 (by kernel_rfl) rfl) rfl rfl (by decide) s93_strip s93_ok hsz hk
theorem cmp_call [Tabs prog] {h : Zh} {u v : Value} {xs ys : List Int} {b2 b3 x y : Nat} (h2 : h[b2]? = some (.cells [u] 38 false)) (h3 : h[b3]? = some (.cells [v] 38 false)) (hu : IntSl h u xs) (hv : IntSl h v ys)
    (ha : ∀ i, i < xs.length → 0 ≤ xs.getD i 0 ∧ xs.getD i 0 ≤ 12) (hb : ∀ i, i < ys.length → 1 ≤ ys.getD i 0 ∧ ys.getD i 0 ≤ 12) (hl : ys.length = xs.length) (hx : x < xs.length) (hy : y < xs.length) :
    Yv prog 93 [Zd (x : Nat), Zd (y : Nat), .pointer (some ⟨b2, 0, none⟩), .pointer (some ⟨b3, 0, none⟩)] h (Zd (xs.getD y 0 * ys.getD y 0 - xs.getD x 0 * ys.getD x 0)) := by
  refine s93_callW (by simp) ?_
  simp only [s93]
  refine Ze fun N1 hN1 => ?_
  simp (maxSteps := 2000000) only [↓Za, ↓Zb, ↓Zc, vup, cond_false, aop, Zg, Zt, ev, sput, Zf, Nat.reduceBEq, Nat.reduceAdd]
  refine hN1 [(0, Zd (x : Nat)), (1, Zd (y : Nat)), (2, .pointer (some ⟨b2, 0, none⟩)), (3, .pointer (some ⟨b3, 0, none⟩)), (6, .int .i64 0)] _ _ ?_ (by simp (maxSteps := 2000000) only [vup, cond_true, cond_false, Nat.reduceBEq])
  clear hN1
  try clear N1
  have a1 := ha x hx
  have a2 := ha y hy
  have b1 := hb x (by omega)
  have b4 := hb y (by omega)
  obtain ⟨p, hp⟩ : ∃ p, xs.getD x 0 = p := ⟨_, rfl⟩
  obtain ⟨q, hq⟩ : ∃ p, xs.getD y 0 = p := ⟨_, rfl⟩
  obtain ⟨r, hr⟩ : ∃ p, ys.getD x 0 = p := ⟨_, rfl⟩
  obtain ⟨s, hs⟩ : ∃ p, ys.getD y 0 = p := ⟨_, rfl⟩
  rw [hp] at a1
  rw [hq] at a2
  rw [hr] at b1
  rw [hs] at b4
  have e1 : (q * s).natAbs ≤ 144 := by rw [Int.natAbs_mul]; exact Nat.mul_le_mul (show q.natAbs ≤ 12 by omega) (show s.natAbs ≤ 12 by omega)
  have e2 : (p * r).natAbs ≤ 144 := by rw [Int.natAbs_mul]; exact Nat.mul_le_mul (show p.natAbs ≤ 12 by omega) (show r.natAbs ≤ 12 by omega)
  have m1 : mulV .i64 q s = q * s := mulV_id (by omega) (by omega)
  have m2 : mulV .i64 p r = p * r := mulV_id (by omega) (by omega)
  have m3 : subV .i64 (q * s) (p * r) = q * s - p * r := subV_id (by omega) (by omega)
  have hxl : x < ys.length := by omega
  have hyl : y < ys.length := by omega
  rw [hp, hq, hr, hs]
  refine Zj ?_
  simp only [q93_1]
  refine Yo [] (by kernel_rfl) (by kernel_rfl) (by kernel_rfl) (by kernel_rfl) ?_
  simp (maxSteps := 2000000) only [↓Zx, ↓Zp, ↓vdn, vup, cond_true, cond_false, aop, Zg, ev, sput, Zf, Zz, Ya, Nat.reduceBEq, Nat.reduceAdd, Zr, Xo, tup, tyf, load1 h2 Vb, load1 h3 Vb, hu.idx Wb Xt hx, hu.idx Wb Xt hy, hv.idx Wb Xt hxl, hv.idx Wb Xt hyl, hu.load Xl hx, hu.load Xl hy, hv.load Xl hxl, hv.load Xl hyl, hp, hq, hr, hs, m1, m2, m3]
end Go.Proofs.Try.Am

namespace Go.Proofs.Try.Am
open Go.Am
set_option maxRecDepth 100000
set_option maxHeartbeats 4000000

def minTo (xs : List Int) : Nat → Int
  | 0 => xs.getD 0 0
  | k + 1 => if xs.getD (k + 1) 0 < minTo xs k then xs.getD (k + 1) 0 else minTo xs k
theorem minTo_spec (xs : List Int) : ∀ k, (∀ i, i ≤ k → minTo xs k ≤ xs.getD i 0) ∧ ∃ i, i ≤ k ∧ minTo xs k = xs.getD i 0
  | 0 => ⟨fun i hi => by obtain rfl : i = 0 := by omega
                         rw [minTo]; exact Int.le_refl _, 0, Nat.le_refl _, rfl⟩
  | k + 1 => by
    obtain ⟨h1, j, hj, h2⟩ := minTo_spec xs k
    rw [minTo]
    by_cases h : xs.getD (k + 1) 0 < minTo xs k
    · rw [if_pos h]
      refine ⟨fun i hi => ?_, k + 1, Nat.le_refl _, rfl⟩
      by_cases hik : i = k + 1
      · subst hik; exact Int.le_refl _
      · have := h1 i (by omega); omega
    · rw [if_neg h]
      refine ⟨fun i hi => ?_, j, by omega, h2⟩
      by_cases hik : i = k + 1
      · subst hik; omega
      · exact h1 i (by omega)
theorem s90_callW [Tabs Try.prog] {args : List Value} {h : Zh} {Q : Value → Zh → Prop} (hsz : args.length ≤ 25) (hk : AWS Try.prog 25 s90 (Zr Try.prog [.tmp 2] Q) (Zt 0 args) h) : ACall Try.prog 90 args h Q :=
  Ym Try.func90 rfl (enters_of Try.func90 (by kernel_rfl) rfl) rfl rfl (by decide) s90_strip s90_ok hsz hk
theorem min_call [Tabs prog] {h : Zh} {u : Value} {xs : List Int} (hu : IntSl h u xs) (h0 : 0 < xs.length) (hl : xs.length < 9223372036854775808) : Yv prog 90 [u] h (Zd (minTo xs (xs.length - 1))) := by
  refine s90_callW (by simp) ?_
  simp only [s90]
  refine Ze fun N1 hN1 => ?_
  simp (maxSteps := 2000000) only [↓Za, ↓Zb, ↓Zc, vup, cond_false, aop, Zg, Zt, ev, sput, Zf, Nat.reduceBEq]
  refine hN1 [(0, u), (2, .int .i64 0)] _ _ ?_ (by simp (maxSteps := 2000000) only [vup, cond_true, cond_false, Nat.reduceBEq])
  clear hN1
  try clear N1
  have h1 : ¬ (xs.length : Int) < 1 := by omega
  refine Zk fun M hM => ?_
  refine Ze fun N2 hN2 => ?_
  simp (maxSteps := 2000000) only [↓Za, ↓Zb, ↓Zc, vup, List.map_cons, List.map_nil, cond_true, cond_false, aop, Zg, ev, sput, Zf, Zz, Ya, Zi, Nat.reduceBEq, tyf, hu.len, h1]
  refine hN2 [(0, u), (2, .int .i64 0), (7, .bool false)] _ _ ?_ (by simp (maxSteps := 2000000) only [vup, cond_true, cond_false, Nat.reduceBEq])
  clear hN2
  try clear N2
  refine Xa rfl ?_
  refine Zj ?_
  simp (maxSteps := 2000000) only [↓Zo, Zg]
  refine hM [(0, u), (2, .int .i64 0)] _ _ ?_ (by simp (maxSteps := 2000000) only [vup, cond_true, cond_false, Nat.reduceBEq])
  clear hM
  try clear M
  have hi0 := fun K => hu.idx Wb Xt (k := .i64) h0 K
  rw [Int.natCast_zero] at hi0
  refine Ze fun N3 hN3 => ?_
  simp (maxSteps := 2000000) only [↓Za, ↓Zb, ↓Zc, vup, cond_true, cond_false, aop, Zg, ev, sput, Zf, Nat.reduceBEq, hi0, hu.load Xl h0]
  refine hN3 [(0, u), (2, .int .i64 0), (3, Zd (xs.getD 0 0))] _ _ ?_ (by simp (maxSteps := 2000000) only [vup, cond_true, cond_false, Nat.reduceBEq])
  clear hN3
  try clear N3
  refine Zk fun Z hZ => ?_
  refine Ze fun N4 hN4 => ?_
  simp (maxSteps := 2000000) only [↓Za, ↓Zb, ↓Zc, vup, cond_false, aop, Zg, ev, sput, Zf, Nat.reduceBEq]
  refine hN4 [(0, u), (2, .int .i64 0), (3, Zd (xs.getD 0 0)), (4, .int .i64 1)] _ _ ?_ (by simp (maxSteps := 2000000) only [vup, cond_true, cond_false, Nat.reduceBEq])
  clear hN4
  try clear N4
  refine Zl ?_
  refine Zm fun Q hQ => ?_
  refine Yh (γ := Nat) (fun k => k < xs.length)
    (fun k => ([(0, u), (2, .int .i64 0), (3, Zd (minTo xs k)), (4, Zd ((k + 1 : Nat) : Int))], h)) (fun k => xs.length - k) 0 h0 (by simp (maxSteps := 2000000) only [vup, cond_true, cond_false, Nat.reduceBEq, minTo, Nat.zero_add, Int.natCast_one]) rfl ?_
  rintro k hk
  refine Zm fun Q2 hQ2 => ?_
  simp only [l90_0]
  obtain ⟨j, hj⟩ : ∃ j, k + 1 = j := ⟨_, rfl⟩
  rw [hj]
  by_cases hin : (j : Int) < xs.length
  · have hk' : j < xs.length := by omega
    refine Zk fun C hC => ?_
    refine Ze fun N5 hN5 => ?_
    simp (maxSteps := 2000000) only [↓Za, ↓Zb, ↓Zc, vup, List.map_cons, List.map_nil, cond_true, cond_false, aop, Zg, ev, sput, Zf, Zz, Ya, Zi, Nat.reduceBEq, tyf, hu.len, hin]
    refine hN5 [(0, u), (2, .int .i64 0), (3, Zd (minTo xs k)), (4, Zd (j : Nat)), (15, .bool true)] _ _ ?_ (by simp (maxSteps := 2000000) only [vup, cond_true, cond_false, Nat.reduceBEq])
    clear hN5
    try clear N5
    refine Zj ?_
    simp (maxSteps := 2000000) only [↓Zo, ↓vdn, vup, cond_true, cond_false, Zg, ev, Nat.reduceBEq]
    refine hC [(0, u), (2, .int .i64 0), (3, Zd (minTo xs k)), (4, Zd (j : Nat))] _ _ ?_ (by simp (maxSteps := 2000000) only [vup, cond_true, cond_false, Nat.reduceBEq])
    clear hC
    try clear C
    refine Zk fun B hB => ?_
    refine Zl ?_
    refine Zj ?_
    have hm : (if xs.getD j 0 < minTo xs k then xs.getD j 0 else minTo xs k) = minTo xs j := by
      rw [← hj, minTo]
    simp (maxSteps := 2000000) only [↓Za, ↓Zb, ↓Zc, vup, List.map_cons, List.map_nil, cond_true, cond_false, aop, Zg, Zn, ev, sput, Zf, Zi, Nat.reduceBEq, hu.idx Wb Xt hk', hu.load Xl hk', mmK, Bool.false_eq_true, if_false, gt_iff_lt, hm]
    refine hB [(0, u), (2, .int .i64 0), (3, Zd (minTo xs j)), (4, Zd (j : Nat))] _ _ ?_ (by simp (maxSteps := 2000000) only [vup, cond_true, cond_false, Nat.reduceBEq])
    clear hB
    try clear B
    refine Zj ?_
    simp (maxSteps := 2000000) only [↓Za, ↓Zb, ↓Zc, vup, cond_true, cond_false, aop, ev, sput, Zf, Zz, Ya, Nat.reduceBEq, add1 (show j < 9223372036854775807 by omega)]
    exact hQ2 _ _ _ ⟨j, hk', by omega, by simp (maxSteps := 2000000) only [vup, cond_true, cond_false, Nat.reduceBEq], rfl⟩
  · refine Ze fun N6 hN6 => ?_
    simp (maxSteps := 2000000) only [↓Za, ↓Zs, ↓Yn, ↓Zb, ↓Zc, ↓vdn, vup, List.map_cons, List.map_nil, cond_true, cond_false, aop, Zg, ev, sput, Zf, Zz, Ya, Zi, Nat.reduceBEq, tyf, hu.len, hin]
    refine hQ2 _ _ _ (hQ _ _ _ ?_)
    simp (maxSteps := 2000000) only [Zg, Zn, Zr, if_true]
    refine hZ [(0, u), (2, .int .i64 0), (3, Zd (minTo xs k))] _ _ ?_ (by simp (maxSteps := 2000000) only [vup, cond_true, cond_false, Nat.reduceBEq])
    clear hZ
    try clear Z
    have hn : xs.length - 1 = k := by omega
    rw [hn]
    refine Zj ?_
    simp (maxSteps := 2000000) only [↓Za, ↓Zs, ↓Zx, ↓Zb, ↓Zc, vup, cond_true, cond_false, aop, Zg, ev, sput, Zf, Nat.reduceBEq, Zr, Xo, tup]

def maxTo (xs : List Int) : Nat → Int
  | 0 => xs.getD 0 0
  | k + 1 => if xs.getD (k + 1) 0 > maxTo xs k then xs.getD (k + 1) 0 else maxTo xs k
theorem maxTo_spec (xs : List Int) : ∀ k, (∀ i, i ≤ k → xs.getD i 0 ≤ maxTo xs k) ∧ ∃ i, i ≤ k ∧ maxTo xs k = xs.getD i 0
  | 0 => ⟨fun i hi => by obtain rfl : i = 0 := by omega
                         rw [maxTo]; exact Int.le_refl _, 0, Nat.le_refl _, rfl⟩
  | k + 1 => by
    obtain ⟨h1, j, hj, h2⟩ := maxTo_spec xs k
    rw [maxTo]
    by_cases h : xs.getD (k + 1) 0 > maxTo xs k
    · rw [if_pos h]
      refine ⟨fun i hi => ?_, k + 1, Nat.le_refl _, rfl⟩
      by_cases hik : i = k + 1
      · subst hik; exact Int.le_refl _
      · have := h1 i (by omega); omega
    · rw [if_neg h]
      refine ⟨fun i hi => ?_, j, by omega, h2⟩
      by_cases hik : i = k + 1
      · subst hik; omega
      · exact h1 i (by omega)
theorem s91_callW [Tabs Try.prog] {args : List Value} {h : Zh} {Q : Value → Zh → Prop} (hsz : args.length ≤ 25) (hk : AWS Try.prog 25 s91 (Zr Try.prog [.tmp 2] Q) (Zt 0 args) h) : ACall Try.prog 91 args h Q :=
  Ym Try.func91 rfl (enters_of Try.func91 (by kernel_rfl) rfl) rfl rfl (by decide) s91_strip s91_ok hsz hk
theorem max_call [Tabs prog] {h : Zh} {u : Value} {xs : List Int} (hu : IntSl h u xs) (h0 : 0 < xs.length) (hl : xs.length < 9223372036854775808) : Yv prog 91 [u] h (Zd (maxTo xs (xs.length - 1))) := by
  refine s91_callW (by simp) ?_
  simp only [s91]
  refine Ze fun N7 hN7 => ?_
  simp (maxSteps := 2000000) only [↓Za, ↓Zb, ↓Zc, vup, cond_false, aop, Zg, Zt, ev, sput, Zf, Nat.reduceBEq]
  refine hN7 [(0, u), (2, .int .i64 0)] _ _ ?_ (by simp (maxSteps := 2000000) only [vup, cond_true, cond_false, Nat.reduceBEq])
  clear hN7
  try clear N7
  have h1 : ¬ (xs.length : Int) < 1 := by omega
  refine Zk fun M hM => ?_
  refine Ze fun N8 hN8 => ?_
  simp (maxSteps := 2000000) only [↓Za, ↓Zb, ↓Zc, vup, List.map_cons, List.map_nil, cond_true, cond_false, aop, Zg, ev, sput, Zf, Zz, Ya, Zi, Nat.reduceBEq, tyf, hu.len, h1]
  refine hN8 [(0, u), (2, .int .i64 0), (7, .bool false)] _ _ ?_ (by simp (maxSteps := 2000000) only [vup, cond_true, cond_false, Nat.reduceBEq])
  clear hN8
  try clear N8
  refine Xa rfl ?_
  refine Zj ?_
  simp (maxSteps := 2000000) only [↓Zo, Zg]
  refine hM [(0, u), (2, .int .i64 0)] _ _ ?_ (by simp (maxSteps := 2000000) only [vup, cond_true, cond_false, Nat.reduceBEq])
  clear hM
  try clear M
  have hi0 := fun K => hu.idx Wb Xt (k := .i64) h0 K
  rw [Int.natCast_zero] at hi0
  refine Ze fun N9 hN9 => ?_
  simp (maxSteps := 2000000) only [↓Za, ↓Zb, ↓Zc, vup, cond_true, cond_false, aop, Zg, ev, sput, Zf, Nat.reduceBEq, hi0, hu.load Xl h0]
  refine hN9 [(0, u), (2, .int .i64 0), (3, Zd (xs.getD 0 0))] _ _ ?_ (by simp (maxSteps := 2000000) only [vup, cond_true, cond_false, Nat.reduceBEq])
  clear hN9
  try clear N9
  refine Zk fun Z hZ => ?_
  refine Ze fun N10 hN10 => ?_
  simp (maxSteps := 2000000) only [↓Za, ↓Zb, ↓Zc, vup, cond_false, aop, Zg, ev, sput, Zf, Nat.reduceBEq]
  refine hN10 [(0, u), (2, .int .i64 0), (3, Zd (xs.getD 0 0)), (4, .int .i64 1)] _ _ ?_ (by simp (maxSteps := 2000000) only [vup, cond_true, cond_false, Nat.reduceBEq])
  clear hN10
  try clear N10
  refine Zl ?_
  refine Zm fun Q hQ => ?_
  refine Yh (γ := Nat) (fun k => k < xs.length)
    (fun k => ([(0, u), (2, .int .i64 0), (3, Zd (maxTo xs k)), (4, Zd ((k + 1 : Nat) : Int))], h)) (fun k => xs.length - k) 0 h0 (by simp (maxSteps := 2000000) only [vup, cond_true, cond_false, Nat.reduceBEq, maxTo, Nat.zero_add, Int.natCast_one]) rfl ?_
  rintro k hk
  refine Zm fun Q2 hQ2 => ?_
  simp only [l91_0]
  obtain ⟨j, hj⟩ : ∃ j, k + 1 = j := ⟨_, rfl⟩
  rw [hj]
  by_cases hin : (j : Int) < xs.length
  · have hk' : j < xs.length := by omega
    refine Zk fun C hC => ?_
    refine Ze fun N11 hN11 => ?_
    simp (maxSteps := 2000000) only [↓Za, ↓Zb, ↓Zc, vup, List.map_cons, List.map_nil, cond_true, cond_false, aop, Zg, ev, sput, Zf, Zz, Ya, Zi, Nat.reduceBEq, tyf, hu.len, hin]
    refine hN11 [(0, u), (2, .int .i64 0), (3, Zd (maxTo xs k)), (4, Zd (j : Nat)), (15, .bool true)] _ _ ?_ (by simp (maxSteps := 2000000) only [vup, cond_true, cond_false, Nat.reduceBEq])
    clear hN11
    try clear N11
    refine Zj ?_
    simp (maxSteps := 2000000) only [↓Zo, ↓vdn, vup, cond_true, cond_false, Zg, ev, Nat.reduceBEq]
    refine hC [(0, u), (2, .int .i64 0), (3, Zd (maxTo xs k)), (4, Zd (j : Nat))] _ _ ?_ (by simp (maxSteps := 2000000) only [vup, cond_true, cond_false, Nat.reduceBEq])
    clear hC
    try clear C
    refine Zk fun B hB => ?_
    refine Zl ?_
    refine Zj ?_
    have hm : (if xs.getD j 0 > maxTo xs k then xs.getD j 0 else maxTo xs k) = maxTo xs j := by
      rw [← hj, maxTo]
    simp (maxSteps := 2000000) only [↓Za, ↓Zb, ↓Zc, vup, List.map_cons, List.map_nil, cond_true, cond_false, aop, Zg, Zn, ev, sput, Zf, Zi, Nat.reduceBEq, hu.idx Wb Xt hk', hu.load Xl hk', mmK, if_true, gt_iff_lt, hm]
    refine hB [(0, u), (2, .int .i64 0), (3, Zd (maxTo xs j)), (4, Zd (j : Nat))] _ _ ?_ (by simp (maxSteps := 2000000) only [vup, cond_true, cond_false, Nat.reduceBEq])
    clear hB
    try clear B
    refine Zj ?_
    simp (maxSteps := 2000000) only [↓Za, ↓Zb, ↓Zc, vup, cond_true, cond_false, aop, ev, sput, Zf, Zz, Ya, Nat.reduceBEq, add1 (show j < 9223372036854775807 by omega)]
    exact hQ2 _ _ _ ⟨j, hk', by omega, by simp (maxSteps := 2000000) only [vup, cond_true, cond_false, Nat.reduceBEq], rfl⟩
  · refine Ze fun N12 hN12 => ?_
    simp (maxSteps := 2000000) only [↓Za, ↓Zs, ↓Yn, ↓Zb, ↓Zc, ↓vdn, vup, List.map_cons, List.map_nil, cond_true, cond_false, aop, Zg, ev, sput, Zf, Zz, Ya, Zi, Nat.reduceBEq, tyf, hu.len, hin]
    refine hQ2 _ _ _ (hQ _ _ _ ?_)
    simp (maxSteps := 2000000) only [Zg, Zn, Zr, if_true]
    refine hZ [(0, u), (2, .int .i64 0), (3, Zd (maxTo xs k))] _ _ ?_ (by simp (maxSteps := 2000000) only [vup, cond_true, cond_false, Nat.reduceBEq])
    clear hZ
    try clear Z
    have hn : xs.length - 1 = k := by omega
    rw [hn]
    refine Zj ?_
    simp (maxSteps := 2000000) only [↓Za, ↓Zs, ↓Zx, ↓Zb, ↓Zc, vup, cond_true, cond_false, aop, Zg, ev, sput, Zf, Nat.reduceBEq, Zr, Xo, tup]

end Go.Proofs.Try.Am

namespace Go.Proofs.Try.Am
open Go.Am Bq
set_option maxRecDepth 100000
set_option maxHeartbeats 1000000

section
variable (h : Zh) (A B C : Blk)
theorem b2_0 : (h ++ [A] ++ [B])[h.length]? = some A := by simp
theorem b2_1 : (h ++ [A] ++ [B])[h.length + 1]? = some B := by simp
theorem b3_0 : (h ++ [A] ++ [B] ++ [C])[h.length]? = some A := by simp
theorem b3_1 : (h ++ [A] ++ [B] ++ [C])[h.length + 1]? = some B := by simp
theorem b3_2 : (h ++ [A] ++ [B] ++ [C])[h.length + 2]? = some C := by simp
theorem e2 : Ext (fun _ => False) h (h ++ [A] ++ [B]) := by rw [List.append_assoc]; exact Ext.app _ _ _
theorem e3 : Ext (fun _ => False) h (h ++ [A] ++ [B] ++ [C]) := by rw [List.append_assoc, List.append_assoc]; exact Ext.app _ _ _
end
abbrev fC (x y : Int) : Blk := .cells [Zd x, Zd y] 26 false
abbrev z0 : Blk := .cells [.int .i64 0, .int .i64 0] 26 false

theorem quoD {x y : Nat} (hx : x < 9223372036854775808) (hd : y ∣ x) : quoV .i64 (x : Int) (y : Int) = ((x / y : Nat) : Int) := by
  rw [quo_dvd (by omega) (Int.natCast_dvd_natCast.2 hd), Int.natCast_ediv]
theorem mulN {a b : Int} (h : (a * b).natAbs < 9223372036854775808) : mulV .i64 a b = a * b := mulV_id (by omega) (by omega)
theorem addN {a b : Int} (h : a.natAbs + b.natAbs < 9223372036854775808) : addV .i64 a b = a + b := addV_id (by omega) (by omega)
theorem subN {a b : Int} (h : a.natAbs + b.natAbs < 9223372036854775808) : subV .i64 a b = a - b := subV_id (by omega) (by omega)

theorem s71_callW [Tabs Try.prog] {args : List Value} {h : Zh} {Q : Value → Zh → Prop} (hsz : args.length ≤ 38) (hk : AWS Try.prog 38 s71 (Zr Try.prog [.cell 6 26] Q) (Zt 0 args) h) : ACall Try.prog 71 args h Q :=
  Ym Try.func71 rfl (enters_of Try.func71 (by kernel_rfl) rfl) rfl rfl (by decide) s71_strip s71_ok hsz hk
theorem plus_call [Tabs prog] {h : Zh} {a b : Rat} {k x y : Int} {N : Nat} (ha : Rp N x a) (hb : Rp N y b) (hx : x.natAbs + (k * y).natAbs < 9223372036854775808) (hN : N < 9223372036854775808) : Yv prog 71 [qV a, Zd k, qV b] h (qV (a + k * b)) := by
  obtain ⟨p1, p2, p3, p4, p5⟩ := plus_bound (k := k) ha hb
  have da := ha.den_le
  have db := hb.den_le
  have hg := Nat.gcd_pos_of_pos_left b.den a.den_pos
  have pe := plus_eq a b k
  obtain ⟨H, hH⟩ : ∃ H, H = h ++ [fC a.num a.den] ++ [fC b.num b.den] ++ [z0] := ⟨_, rfl⟩
  have c3 : H[h.length]? = some (fC a.num a.den) := by rw [hH]; exact b3_0 ..
  have c5 : H[h.length + 1]? = some (fC b.num b.den) := by rw [hH]; exact b3_1 ..
  have c6 : H[h.length + 2]? = some z0 := by rw [hH]; exact b3_2 ..
  have hE : Ext (fun _ => False) h H := by rw [hH]; exact e3 ..
  have hg0 : ¬ ((Nat.gcd a.den b.den : Nat) : Int) = 0 := by omega
  have q1 := quoD (x := b.den) (show b.den < 9223372036854775808 by omega) (Nat.gcd_dvd_right a.den b.den)
  have q2 := quoD (x := a.den) (show a.den < 9223372036854775808 by omega) (Nat.gcd_dvd_left a.den b.den)
  have m1 := mulN (a := a.num) (b := ((b.den / Nat.gcd a.den b.den : Nat) : Int)) (by omega)
  have m2 := mulN (a := k) (b := b.num) (by omega)
  have m3 := mulN (a := k * b.num) (b := ((a.den / Nat.gcd a.den b.den : Nat) : Int)) (by omega)
  have m4 := addN (a := a.num * ((b.den / Nat.gcd a.den b.den : Nat) : Int)) (b := k * b.num * ((a.den / Nat.gcd a.den b.den : Nat) : Int)) (by omega)
  have m5 : mulV .i64 ((a.den / Nat.gcd a.den b.den : Nat) : Int) (b.den : Int) = ((a.den / Nat.gcd a.den b.den * b.den : Nat) : Int) := by
    rw [mulN (by rw [← Int.natCast_mul]; omega), Int.natCast_mul]
  have pe' : Rat.divInt (a.num * ((b.den / Nat.gcd a.den b.den : Nat) : Int) + k * b.num * ((a.den / Nat.gcd a.den b.den : Nat) : Int)) ((a.den / Nat.gcd a.den b.den * b.den : Nat) : Int) = a + k * b := by
    rw [Int.natCast_mul]; exact pe
  have fc := Wp (h := H) (a := a.num * ((b.den / Nat.gcd a.den b.den : Nat) : Int) + k * b.num * ((a.den / Nat.gcd a.den b.den : Nat) : Int)) (b := ((a.den / Nat.gcd a.den b.den * b.den : Nat) : Int)) (by omega) (by omega) (by omega)
  rw [pe'] at fc
  obtain ⟨q, hq⟩ : ∃ q, a + (k : Rat) * b = q := ⟨_, rfl⟩
  rw [hq] at fc ⊢
  refine ACall.forget (low_frV _ _) ?_
  refine s71_callW (by simp) ?_
  simp only [s71]
  refine Ze fun N1 hN1 => ?_
  simp (maxSteps := 2000000) only [↓Za, ↓Zb, ↓Zc, vup, cond_true, cond_false, aop, Zg, Zt, ev, sput, Zf, Nat.reduceBEq, Nat.reduceAdd, tyf, qV, frV, boxF, Xe, Yr, List.length_append, List.length_singleton, Nat.add_assoc]
  rw [← hH]
  refine hN1 [(1, Zd k), (3, .pointer (some ⟨h.length, 0, none⟩)), (5, .pointer (some ⟨h.length + 1, 0, none⟩)), (6, .pointer (some ⟨h.length + 2, 0, none⟩))] _ _ ?_ (by simp (maxSteps := 2000000) only [vup, cond_true, cond_false, Nat.reduceBEq])
  clear hN1
  try clear N1
  refine Ze fun N2 hN2 => ?_
  simp (maxSteps := 2000000) only [↓Za, ↓Zb, ↓Zc, vup, List.map_cons, List.map_nil, cond_true, cond_false, aop, Zg, ev, sput, Zf, Nat.reduceBEq, Yk, List.nil_append, List.append_nil, fA1, Xu c3, Xu c5]
  refine (gcd_call (.inl (by omega)) (by omega)).mono ?_
  rintro _ _ ⟨rfl, rfl⟩
  rw [Int.natAbs_natCast, Int.natAbs_natCast]
  refine hN2 [(1, Zd k), (3, .pointer (some ⟨h.length, 0, none⟩)), (5, .pointer (some ⟨h.length + 1, 0, none⟩)), (6, .pointer (some ⟨h.length + 2, 0, none⟩)), (7, Zd (Nat.gcd a.den b.den : Nat))] _ _ ?_ (by simp (maxSteps := 2000000) only [vup, cond_true, cond_false, Nat.reduceBEq])
  clear hN2
  try clear N2
  refine Zj ?_
  simp only [q71_2]
  refine aw_cut fun N hN => ?_
  refine Yo [(24, 1)] (by kernel_rfl) (by kernel_rfl) (by kernel_rfl) (by kernel_rfl) ?_
  simp (maxSteps := 2000000) only [↓Zp, ↓vdn, vup, List.map_cons, List.map_nil, cond_true, cond_false, aop, Zg, ev, sput, Zf, Zz, Ya, Nat.reduceBEq, Nat.reduceAdd, tyf, fA0, fA1, Xu c3, Xu c5, Wk c3, Wk c5, ne_eq, hg0, not_false_eq_true, q1, q2, m1, m2, m3, m4, m5, Yk, List.nil_append, List.append_nil]
  refine ⟨_, _, fc, rfl, ?_⟩
  simp (maxSteps := 2000000) only [qV, frV, Xk c6 rfl]
  refine hN _ _ ?_
  simp (maxSteps := 2000000) only [↓Zx, vup, cond_true, cond_false, Nat.reduceBEq, Zr, Xo, tup, Ws (Xs (Yj c6) _)]
  exact ⟨rfl, hE.set_ge (by omega) _⟩

/-- The product fits. -/
def Fits (q : Rat) : Prop := q.num.natAbs < 9223372036854775808 ∧ q.den < 9223372036854775808
theorem s72_callW [Tabs Try.prog] {args : List Value} {h : Zh} {Q : Value → Zh → Prop} (hsz : args.length ≤ 28) (hk : AWS Try.prog 28 s72 (Zr Try.prog [.cell 4 26] Q) (Zt 0 args) h) : ACall Try.prog 72 args h Q :=
  Ym Try.func72 rfl (enters_of Try.func72 (by kernel_rfl) rfl) rfl rfl (by decide) s72_strip s72_ok hsz hk
theorem times_call [Tabs prog] {h : Zh} {a b : Rat} (ha : Fits a) (hb : Fits b) (hab : Fits (a * b)) : Yv prog 72 [qV a, qV b] h (qV (a * b)) := by
  have da := a.den_nz
  have db := b.den_nz
  obtain ⟨t1, t2⟩ := times_eq a b
  have f1 : ∀ h : Zh, Yv prog 64 [Zd a.num, Zd b.den] h (qV (Rat.divInt a.num b.den)) := fun h => Wp (by omega) ha.1 (by have := hb.2; omega)
  have f2 : ∀ h : Zh, Yv prog 64 [Zd b.num, Zd a.den] h (qV (Rat.divInt b.num a.den)) := fun h => Wp (by omega) hb.1 (by have := ha.2; omega)
  obtain ⟨u, hu⟩ : ∃ u, Rat.divInt a.num b.den = u := ⟨_, rfl⟩
  obtain ⟨v, hv⟩ : ∃ v, Rat.divInt b.num a.den = v := ⟨_, rfl⟩
  rw [hu] at f1 t1 t2
  rw [hv] at f2 t1 t2
  have m1 : mulV .i64 u.num v.num = (a * b).num := by rw [← t1]; exact mulN (by rw [t1]; exact hab.1)
  have m2 : mulV .i64 (u.den : Int) (v.den : Int) = ((a * b).den : Int) := by
    rw [← t2, Int.natCast_mul]; exact mulN (by rw [← Int.natCast_mul, t2]; have := hab.2; omega)
  obtain ⟨q, hq⟩ : ∃ q, a * b = q := ⟨_, rfl⟩
  rw [hq] at m1 m2 ⊢
  obtain ⟨H, hH⟩ : ∃ H, H = h ++ [fC a.num a.den] ++ [fC b.num b.den] ++ [z0] := ⟨_, rfl⟩
  have c2 : H[h.length]? = some (fC a.num a.den) := by rw [hH]; exact b3_0 ..
  have c3 : H[h.length + 1]? = some (fC b.num b.den) := by rw [hH]; exact b3_1 ..
  have c4 : H[h.length + 2]? = some z0 := by rw [hH]; exact b3_2 ..
  have hE : Ext (fun _ => False) h H := by rw [hH]; exact e3 ..
  have hlen : H.length = h.length + 3 := by rw [hH]; simp
  refine ACall.forget (low_frV _ _) ?_
  refine s72_callW (by simp) ?_
  simp only [s72]
  refine Ze fun N3 hN3 => ?_
  simp (maxSteps := 2000000) only [↓Za, ↓Zb, ↓Zc, vup, cond_true, cond_false, aop, Zg, Zt, ev, sput, Zf, Nat.reduceBEq, Nat.reduceAdd, tyf, qV, frV, boxF, Xe, Yr, List.length_append, List.length_singleton, Nat.add_assoc]
  rw [← hH]
  refine hN3 [(2, .pointer (some ⟨h.length, 0, none⟩)), (3, .pointer (some ⟨h.length + 1, 0, none⟩)), (4, .pointer (some ⟨h.length + 2, 0, none⟩))] _ _ ?_ (by simp (maxSteps := 2000000) only [vup, cond_true, cond_false, Nat.reduceBEq])
  clear hN3
  try clear N3
  refine Ze fun N4 hN4 => ?_
  refine aw_drawE (fun hp => hp[h.length]? = some (fC a.num a.den) ∧ hp[h.length + 1]? = some (fC b.num b.den)) [(1, 5), (3, 5), (6, 5), (8, 5), (4, 2), (9, 2)] 11 6 [10] (by kernel_rfl) (by kernel_rfl) (by kernel_rfl) (by kernel_rfl) (by kernel_rfl) (by rfl) ⟨c2, c3⟩ ?_
  simp (maxSteps := 2000000) only [↓dopsR_nil, ↓vdn, vup, List.map_cons, List.map_nil, cond_true, cond_false, aop, Zg, ev, sput, Zf, Nat.reduceBEq, Nat.reduceAdd, fA0, fA1, Yk, List.nil_append, List.append_nil]
  refine ⟨Zd a.num, fun _ g => by rw [Wk g.1], Zd b.den, fun _ g => by rw [Xu g.2], qV u, fun _ _ => ⟨_, _, f1 _, rfl, rfl⟩, Zd b.num, fun _ g => by rw [Wk g.2], Zd a.den, fun _ g => by rw [Xu g.1], qV v, fun _ _ => ⟨_, _, f2 _, rfl, rfl⟩, ?_⟩
  have k1 : (H ++ [z0] ++ [z0])[H.length]? = some z0 := b2_0 ..
  obtain ⟨H2, hH2⟩ : ∃ H2, H2 = (H ++ [z0] ++ [z0]).set H.length (fC u.num u.den) := ⟨_, rfl⟩
  have k2 : H2[H.length + 1]? = some z0 := by rw [hH2, List.getElem?_set_ne (by omega)]; exact b2_1 ..
  have k3 : H2[H.length]? = some (fC u.num u.den) := by rw [hH2]; exact Xs (by simp) _
  have k4 : Ext (fun _ => False) h H2 := by rw [hH2]; exact (hE.trans (e2 ..)).set_ge (by omega) _
  have k5 : H2[h.length]? = some (fC a.num a.den) ∧ H2[h.length + 1]? = some (fC b.num b.den) ∧ H2[h.length + 2]? = some z0 := by
    rw [hH2, List.getElem?_set_ne (by omega), List.getElem?_set_ne (by omega), List.getElem?_set_ne (by omega)]
    exact ⟨Xg (Xg c2 _) _, Xg (Xg c3 _) _, Xg (Xg c4 _) _⟩
  obtain ⟨H3, hH3⟩ : ∃ H3, H3 = H2.set (H.length + 1) (fC v.num v.den) := ⟨_, rfl⟩
  have l1 : H3[H.length + 1]? = some (fC v.num v.den) := by rw [hH3]; exact Xs (Yj k2) _
  have l2 : H3[H.length]? = some (fC u.num u.den) := by rw [hH3, List.getElem?_set_ne (by omega)]; exact k3
  have l3 : H3[h.length + 2]? = some z0 := by rw [hH3, List.getElem?_set_ne (by omega)]; exact k5.2.2
  have l4 : Ext (fun _ => False) h H3 := by rw [hH3]; exact k4.set_ge (by omega) _
  have l5 : H3[h.length]? = some (fC a.num a.den) ∧ H3[h.length + 1]? = some (fC b.num b.den) := by
    rw [hH3, List.getElem?_set_ne (by omega), List.getElem?_set_ne (by omega)]
    exact ⟨k5.1, k5.2.1⟩
  simp (maxSteps := 2000000) only [tyf, Xe, Yr]
  refine ⟨⟨Xg c2 _, Xg c3 _⟩, ⟨Xg (Xg c2 _) _, Xg (Xg c3 _) _⟩, ?_⟩
  simp only [qV, frV, Xk k1 rfl, List.length_append, List.length_singleton]
  rw [← hH2, Xk k2 rfl, ← hH3]
  refine ⟨⟨k5.1, k5.2.1⟩, l5, ?_⟩
  refine hN4 [(2, .pointer (some ⟨h.length, 0, none⟩)), (3, .pointer (some ⟨h.length + 1, 0, none⟩)), (4, .pointer (some ⟨h.length + 2, 0, none⟩)), (5, .pointer (some ⟨H.length, 0, none⟩)), (6, .pointer (some ⟨H.length + 1, 0, none⟩))] _ _ ?_ (by simp (maxSteps := 2000000) only [vup, cond_true, cond_false, Nat.reduceBEq])
  clear hN4
  try clear N4
  refine Zj ?_
  simp (maxSteps := 2000000) only [↓Za, ↓Zs, ↓Zx, ↓Zb, ↓Zc, vup, List.map_cons, List.map_nil, cond_true, cond_false, aop, Zg, ev, sput, Zf, Zz, Ya, Nat.reduceBEq, Zr, Xo, tup, tyf, fA0, fA1, Wk l1, Xu l1, Wk l2, Xu l2, m1, m2, bldF, Xk l3 rfl, Ws (Xs (Yj l3) _)]
  exact ⟨rfl, l4.set_ge (by omega) _⟩

theorem fits_inv {a b : Rat} (hb : b ≠ 0) (h : Fits b) : Rat.divInt b.den b.num = b⁻¹ ∧ Fits b⁻¹ := by
  have hn : b.num ≠ 0 := fun hc => hb (Rat.num_eq_zero.1 hc)
  refine ⟨(Rat.inv_def b).symm, ?_, ?_⟩
  · rw [Rat.num_inv, Int.natAbs_mul, Int.natAbs_sign_of_ne_zero hn]
    have := h.2; simpa using this
  · rw [Rat.den_inv, if_neg hn]; exact h.1

theorem s94_callW [Tabs Try.prog] {args : List Value} {h : Zh} {Q : Value → Zh → Prop} (hsz : args.length ≤ 12) (hk : AWS Try.prog 12 s94 (Zr Try.prog [.cell 4 26] Q) (Zt 0 args) h) : ACall Try.prog 94 args h Q :=
  Ym Try.func94 rfl (enters_of Try.func94 (by kernel_rfl) rfl) rfl rfl (by decide) s94_strip s94_ok hsz hk
theorem over_call [Tabs prog] {h : Zh} {a b : Rat} (ha : Fits a) (hb : Fits b) (hb0 : b ≠ 0) (hab : Fits (a / b)) : Yv prog 94 [qV a, qV b] h (qV (a / b)) := by
  obtain ⟨i1, i2⟩ := fits_inv (a := a) hb0 hb
  have hn : b.num ≠ 0 := fun hc => hb0 (Rat.num_eq_zero.1 hc)
  have f1 : ∀ h : Zh, Yv prog 64 [Zd b.den, Zd b.num] h (qV b⁻¹) := fun h => by
    rw [← i1]; exact Wp hn (by have := hb.2; omega) hb.1
  have f2 : ∀ h : Zh, Yv prog 72 [qV a, qV b⁻¹] h (qV (a / b)) := fun h => times_call ha i2 hab
  obtain ⟨q, hq⟩ : ∃ q, a / b = q := ⟨_, rfl⟩
  rw [hq] at f2 ⊢
  obtain ⟨H, hH⟩ : ∃ H, H = h ++ [fC a.num a.den] ++ [fC b.num b.den] ++ [z0] := ⟨_, rfl⟩
  have c2 : H[h.length]? = some (fC a.num a.den) := by rw [hH]; exact b3_0 ..
  have c3 : H[h.length + 1]? = some (fC b.num b.den) := by rw [hH]; exact b3_1 ..
  have c4 : H[h.length + 2]? = some z0 := by rw [hH]; exact b3_2 ..
  have hE : Ext (fun _ => False) h H := by rw [hH]; exact e3 ..
  refine ACall.forget (low_frV _ _) ?_
  refine s94_callW (by simp) ?_
  simp only [s94]
  refine Ze fun N5 hN5 => ?_
  simp (maxSteps := 2000000) only [↓Za, ↓Zb, ↓Zc, vup, cond_true, cond_false, aop, Zg, Zt, ev, sput, Zf, Nat.reduceBEq, Nat.reduceAdd, tyf, qV, frV, boxF, Xe, Yr, List.length_append, List.length_singleton, Nat.add_assoc]
  rw [← hH]
  refine hN5 [(2, .pointer (some ⟨h.length, 0, none⟩)), (3, .pointer (some ⟨h.length + 1, 0, none⟩)), (4, .pointer (some ⟨h.length + 2, 0, none⟩))] _ _ ?_ (by simp (maxSteps := 2000000) only [vup, cond_true, cond_false, Nat.reduceBEq])
  clear hN5
  try clear N5
  refine Zj ?_
  simp only [q94_1]
  refine aw_cut fun N hN => ?_
  refine Yo [(5, 1), (6, 1)] (by kernel_rfl) (by kernel_rfl) (by kernel_rfl) (by kernel_rfl) ?_
  simp (maxSteps := 2000000) only [↓Zp, ↓vdn, vup, List.map_cons, List.map_nil, cond_true, cond_false, aop, Zg, ev, sput, Zf, Nat.reduceBEq, Nat.reduceAdd, fA0, fA1, Ws c2, Wk c3, Xu c3, Yk, List.nil_append, List.append_nil]
  refine ⟨_, _, f1 _, rfl, ?_⟩
  refine ⟨_, _, f2 _, rfl, ?_⟩
  simp (maxSteps := 2000000) only [qV, frV, Xk c4 rfl]
  refine hN _ _ ?_
  simp (maxSteps := 2000000) only [↓Zx, vup, cond_true, cond_false, Nat.reduceBEq, Zr, Xo, tup, Ws (Xs (Yj c4) _)]
  exact ⟨rfl, hE.set_ge (by omega) _⟩

theorem s62_callW [Tabs Try.prog] {args : List Value} {h : Zh} {Q : Value → Zh → Prop} (hsz : args.length ≤ 10) (hk : AWS Try.prog 10 s62 (Zr Try.prog [.tmp 4] Q) (Zt 0 args) h) : ACall Try.prog 62 args h Q :=
  Ym Try.func62 rfl (enters_of Try.func62 (by kernel_rfl) rfl) rfl rfl (by decide) s62_strip s62_ok hsz hk
theorem less_call [Tabs prog] {h : Zh} {a b : Rat} {x y : Int} {N : Nat} (ha : Rp N x a) (hb : Rp N y b) (hx : x.natAbs + y.natAbs < 9223372036854775808) (hN : N < 9223372036854775808) : Yv prog 62 [qV a, qV b] h (.bool (decide (a < b))) := by
  have p := plus_call (h := h ++ [fC a.num a.den] ++ [fC b.num b.den]) (k := -1) ha hb (by omega) hN
  have e1 : decide ((a + ((-1 : Int) : Rat) * b).num < 0) = decide (a < b) := by
    have hpl := ha.plus hb (-1)
    have h0 := hpl.num
    have h1 : 0 < N / (a + ((-1 : Int) : Rat) * b).den := Nat.div_pos hpl.den_le (Rat.den_pos _)
    rw [decide_eq_decide, ha.lt hb]
    generalize (a + ((-1 : Int) : Rat) * b).num = u at *
    generalize N / (a + ((-1 : Int) : Rat) * b).den = t at *
    constructor
    · intro hu
      have : u * (t : Int) < 0 := Int.mul_neg_of_neg_of_pos hu (by omega)
      omega
    · intro hu
      rcases Int.lt_or_le u 0 with h2 | h2
      · exact h2
      · have : 0 ≤ u * (t : Int) := Int.mul_nonneg h2 (by omega)
        omega
  obtain ⟨q, hq⟩ : ∃ q, a + ((-1 : Int) : Rat) * b = q := ⟨_, rfl⟩
  rw [hq] at p e1
  refine ACall.forget (Low.bool _) ?_
  refine s62_callW (by simp) ?_
  refine Zj ?_
  simp (maxSteps := 2000000) only [s62, ↓Za, ↓Zs, ↓Zx, ↓Zb, ↓Zc, vup, List.map_cons, List.map_nil, cond_true, cond_false, aop, Zg, Zt, ev, sput, Zf, Zz, Ya, Nat.reduceBEq, Nat.reduceAdd, Zr, Xo, tup, tyf, qV, frV, boxF, Yr, List.length_append, List.length_singleton, Ws (b2_0 ..), Ws (b2_1 ..), Yk, List.nil_append, List.append_nil]
  refine p.mono ?_
  rintro _ _ ⟨rfl, rfl⟩
  simp (maxSteps := 2000000) only [vup, qV, frV, fld0, e1]
  exact e2 ..

theorem s70_callW [Tabs Try.prog] {args : List Value} {h : Zh} {Q : Value → Zh → Prop} (hsz : args.length ≤ 5) (hk : AWS Try.prog 5 s70 (Zr Try.prog [.cell 2 26] Q) (Zt 0 args) h) : ACall Try.prog 70 args h Q :=
  Ym Try.func70 rfl (enters_of Try.func70 (by kernel_rfl) rfl) rfl rfl (by decide) s70_strip s70_ok hsz hk
theorem Wu [Tabs prog] {h : Zh} {k : Int} : Yv prog 70 [Zd k] h (qV (k : Rat)) := by
  refine ACall.forget (low_frV _ _) ?_
  refine s70_callW (by simp) ?_
  refine Zj ?_
  simp (maxSteps := 2000000) only [s70, ↓Za, ↓Zs, ↓Zx, ↓Zb, ↓Zc, vup, List.map_cons, List.map_nil, cond_true, cond_false, aop, Zg, Zt, ev, sput, Zf, Nat.reduceBEq, Zr, Xo, tup, tyf, Xe, Yr, bldF, Xk (Zy h z0) rfl, Ws (Xs (h := h ++ [z0]) (b := h.length) (by simp) _)]
  exact ⟨rfl, (Ext.app _ _ _).set_ge (Nat.le_refl _) _⟩
end Go.Proofs.Try.Am

namespace Go.Proofs.Try.Am
open Go.Am Bq
set_option maxRecDepth 100000
set_option maxHeartbeats 1000000

theorem s68_callW [Tabs Try.prog] {args : List Value} {h : Zh} {Q : Value → Zh → Prop} (hsz : args.length ≤ 31) (hk : AWS Try.prog 31 s68 (Zr Try.prog [.cell 4 26] Q) (Zt 0 args) h) : ACall Try.prog 68 args h Q :=
  Ym Try.func68 rfl (enters_of Try.func68 (by kernel_rfl) rfl) rfl rfl (by decide) s68_strip s68_ok hsz hk
theorem rfrac_call [Tabs prog] {h : Zh} {a b : Int} (hb : b ≠ 0) (ha : a.natAbs < 9223372036854775808) (hb2 : b.natAbs < 9223372036854775808) : Yv prog 68 [Zd a, Zd b] h (qV (Rat.divInt a b)) := by
  have c0 := Zy h z0
  have hE0 : Ext (fun _ => False) h (h ++ [z0]) := Ext.app _ _ _
  obtain ⟨x, n, hn, hx, hn2, hq, hneg, hpos⟩ : ∃ (x : Int) (n : Nat), 0 < n ∧ x.natAbs < 9223372036854775808 ∧ n < 9223372036854775808 ∧ Rat.divInt x n = Rat.divInt a b ∧ (b < 0 → subV .i64 0 a = x ∧ subV .i64 0 b = n) ∧ (¬ b < 0 → a = x ∧ b = n) := by
    by_cases h0 : b < 0
    · refine ⟨-a, b.natAbs, by omega, by omega, hb2, ?_, fun _ => ⟨?_, ?_⟩, fun h => absurd h0 h⟩
      · rw [show ((b.natAbs : Nat) : Int) = -b by omega]; exact Rat.neg_divInt_neg a b
      · rw [subV_id (by omega) (by omega)]; omega
      · rw [subV_id (by omega) (by omega)]; omega
    · exact ⟨a, b.natAbs, by omega, ha, hb2, by rw [show ((b.natAbs : Nat) : Int) = b by omega], fun h => absurd h h0, fun _ => ⟨rfl, by omega⟩⟩
  refine ACall.forget (low_frV _ _) ?_
  refine s68_callW (by simp) ?_
  simp only [s68]
  refine Ze fun N1 hN1 => ?_
  simp (maxSteps := 2000000) only [↓Za, ↓Zb, ↓Zc, vup, cond_false, aop, Zg, Zt, sput, Zf, Nat.reduceBEq, Nat.reduceAdd, tyf, Xe, Yr]
  refine hN1 [(0, Zd a), (1, Zd b), (4, .pointer (some ⟨h.length, 0, none⟩))] _ _ ?_ (by simp (maxSteps := 2000000) only [vup, cond_true, cond_false, Nat.reduceBEq])
  clear hN1
  try clear N1
  refine Ze fun M hM => ?_
  have key : ∀ e, ELe e [(0, Zd x), (1, Zd (n : Int)), (4, .pointer (some ⟨h.length, 0, none⟩))] → M e (h ++ [z0]) := by
    intro e he
    refine hM [(0, Zd x), (1, Zd (n : Int)), (4, .pointer (some ⟨h.length, 0, none⟩))] _ _ ?_ he
    refine Ze fun N2 hN2 => ?_
    simp (maxSteps := 2000000) only [↓Za, ↓Zb, ↓Zc, vup, List.map_cons, List.map_nil, cond_true, cond_false, aop, Zg, ev, sput, Zf, unK, Zi, Nat.reduceBEq, mmK, if_true, max_abs hx]
    refine hN2 [(0, Zd x), (1, Zd (n : Int)), (4, .pointer (some ⟨h.length, 0, none⟩)), (5, Zd (x.natAbs : Nat)), (6, Zd (n : Int))] _ _ ?_ (by simp (maxSteps := 2000000) only [vup, cond_true, cond_false, Nat.reduceBEq])
    clear hN2
    try clear N2
    refine Zk fun M2 hM2 => ?_
    refine Zl ?_
    refine Zm fun Q hQ => ?_
    refine Yh (γ := Nat × Nat) (fun s => Nat.gcd s.1 s.2 = Nat.gcd x.natAbs n ∧ s.1 < 9223372036854775808 ∧ s.2 < 9223372036854775808)
      (fun s => ([(0, Zd x), (1, Zd (n : Int)), (4, .pointer (some ⟨h.length, 0, none⟩)), (5, Zd (s.1 : Nat)), (6, Zd (s.2 : Nat))], h ++ [z0])) (fun s => s.2) (x.natAbs, n) ⟨rfl, hx, hn2⟩ (by simp (maxSteps := 2000000) only [vup, cond_true, cond_false, Nat.reduceBEq]) rfl ?_
    rintro ⟨u, w⟩ ⟨huw, hu, hw⟩
    simp only at huw hu hw
    refine Zm fun Q2 hQ2 => ?_
    simp only [l68_0]
    by_cases hw0 : w = 0
    · subst hw0
      have e0 : (((0 : Nat) : Int) != 0) = false := rfl
      rw [Nat.gcd_zero_right] at huw
      subst huw
      refine Ze fun N3 hN3 => ?_
      simp (maxSteps := 2000000) only [↓Za, ↓Zs, ↓Yn, ↓Zb, ↓Zc, ↓vdn, vup, cond_true, cond_false, aop, Zg, ev, sput, Zf, Zz, Ya, Nat.reduceBEq, e0]
      refine hQ2 _ _ _ (hQ _ _ _ ?_)
      simp (maxSteps := 2000000) only [Zg, Zn, Zr, if_true]
      refine hM2 [(0, Zd x), (1, Zd (n : Int)), (4, .pointer (some ⟨h.length, 0, none⟩)), (5, Zd (Nat.gcd x.natAbs n : Nat))] _ _ ?_ (by simp (maxSteps := 2000000) only [vup, cond_true, cond_false, Nat.reduceBEq])
      clear hM2
      try clear M2
      have hg : ¬ ((Nat.gcd x.natAbs n : Nat) : Int) = 0 := by have := Nat.gcd_pos_of_pos_right x.natAbs hn; omega
      have q1 : quoV .i64 x ((Nat.gcd x.natAbs n : Nat) : Int) = (Rat.divInt a b).num := by rw [quo_dvd hx (gcd_dvd_int _ _), (terms hn).1, hq]
      have q2 : quoV .i64 (n : Int) ((Nat.gcd x.natAbs n : Nat) : Int) = (Rat.divInt a b).den := by
        rw [quo_dvd (by omega) (Int.natCast_dvd_natCast.2 (Nat.gcd_dvd_right _ _)), ← hq, ← (terms hn).2, Int.natCast_ediv]
      refine Zj ?_
      simp only [q68_6]
      refine aw_cut fun N hN => ?_
      refine Yo [] (by kernel_rfl) (by kernel_rfl) (by kernel_rfl) (by kernel_rfl) ?_
      simp (maxSteps := 2000000) only [↓Zp, ↓vdn, vup, List.map_cons, List.map_nil, cond_true, cond_false, aop, Zg, ev, sput, Zf, Zz, Ya, Nat.reduceBEq, ne_eq, hg, not_false_eq_true, q1, q2, bldF, Xk c0 rfl]
      refine hN _ _ ?_
      simp (maxSteps := 2000000) only [↓Zx, vup, cond_true, cond_false, Nat.reduceBEq, Zr, Xo, tup, Ws (Xs (h := h ++ [Blk.cells [.int .i64 0, .int .i64 0] 26 false]) (b := h.length) (by simp) _)]
      exact ⟨rfl, hE0.set_ge (Nat.le_refl _) _⟩
    · have e0 : (((w : Nat) : Int) != 0) = true := by
        have : ((w : Nat) : Int) ≠ 0 := by omega
        simpa using this
      have e1 : ¬ ((w : Nat) : Int) = 0 := by omega
      have etm : ((u : Nat) : Int).tmod ((w : Nat) : Int) = ((u % w : Nat) : Int) := by rw [Int.tmod_eq_emod_of_nonneg (by omega)]; rfl
      have hlt := Nat.mod_lt u (show w > 0 by omega)
      refine Ze fun N4 hN4 => ?_
      simp (maxSteps := 2000000) only [↓Za, ↓Zo, ↓Zs, ↓Zb, ↓Zc, ↓vdn, vup, cond_true, cond_false, aop, Zg, ev, sput, Zf, Zz, Ya, Nat.reduceBEq, e0]
      refine hN4 [(0, Zd x), (1, Zd (n : Int)), (4, .pointer (some ⟨h.length, 0, none⟩)), (5, Zd (u : Nat)), (6, Zd (w : Nat))] _ _ ?_ (by simp (maxSteps := 2000000) only [vup, cond_true, cond_false, Nat.reduceBEq])
      clear hN4
      try clear N4
      refine Zj ?_
      simp only [q68_5, aw_block]
      refine Yo [] (by kernel_rfl) (by kernel_rfl) (by kernel_rfl) (by kernel_rfl) ?_
      simp (maxSteps := 2000000) only [↓Zp, ↓vdn, vup, cond_true, cond_false, aop, Zn, ev, sput, Zf, Zz, Ya, Nat.reduceBEq, ne_eq, e1, not_false_eq_true, etm]
      refine hQ2 _ _ _ ⟨(w, u % w), ⟨?_, hw, by simp only; omega⟩, hlt, by simp (maxSteps := 2000000) only [vup, cond_true, cond_false, Nat.reduceBEq], rfl⟩
      simp only
      rw [← huw, Nat.gcd_comm u w, Nat.gcd_rec w u, Nat.gcd_comm]
  by_cases hb0 : b < 0
  · simp (maxSteps := 2000000) only [↓Za, ↓Zs, ↓Zb, ↓Zc, ↓vdn, vup, cond_true, cond_false, aop, Zg, ev, sput, Zf, Zz, Ya, unK, Nat.reduceBEq, hb0, (hneg hb0).1, (hneg hb0).2]
    exact key _ (by simp (maxSteps := 2000000) only [vup, cond_true, cond_false, Nat.reduceBEq])
  · simp (maxSteps := 2000000) only [↓Za, ↓Zo, ↓Zs, ↓Zb, ↓Zc, ↓vdn, vup, cond_true, cond_false, aop, Zg, ev, sput, Zf, Zz, Ya, Nat.reduceBEq, hb0]
    exact key _ (by simp (maxSteps := 2000000) only [vup, cond_true, cond_false, Nat.reduceBEq, (hpos hb0).1, (hpos hb0).2])

theorem s118_callW [Tabs Try.prog] {args : List Value} {h : Zh} {Q : Value → Zh → Prop} (hsz : args.length ≤ 22) (hk : AWS Try.prog 22 s118 (Zr Try.prog [.tmp 4] Q) (Zt 0 args) h) : ACall Try.prog 118 args h Q :=
  Ym Try.func118 rfl (enters_of Try.func118 (by kernel_rfl) rfl) rfl rfl (by decide) s118_strip s118_ok hsz hk
theorem lowest_call [Tabs prog] {h : Zh} {x y m : Int} (hm : m < 9223372036854775808) : Yv prog 118 [frV x y, Zd m] h (.bool (decide (1 ≤ y) && (decide (y ≤ m) && (Nat.gcd x.natAbs y.natAbs == 1)))) := by
  have hE : Ext (fun _ => False) h (h ++ [fC x y]) := Ext.app _ _ _
  refine ACall.forget (Low.bool _) ?_
  refine s118_callW (by simp) ?_
  refine Zj ?_
  by_cases h1 : 1 ≤ y
  · by_cases h2 : y ≤ m
    · simp (maxSteps := 2000000) only [s118, ↓Za, ↓Zs, ↓Zx, ↓Zb, ↓Zc, ↓vdn, vup, List.map_cons, List.map_nil, cond_true, cond_false, aop, Zg, Zt, ev, sput, Zf, Zz, Ya, Nat.reduceBEq, Nat.reduceAdd, Zr, Xo, tup, tyf, frV, boxF, Yr, fA0, fA1, Wk (Zy h _), Xu (Zy h _), h1, h2, Yk, List.nil_append, List.append_nil]
      refine (gcd_call (.inr (by omega)) (by omega)).mono ?_
      rintro _ _ ⟨rfl, rfl⟩
      have e : ((((Nat.gcd x.natAbs y.natAbs : Nat)) : Int) == 1) = (Nat.gcd x.natAbs y.natAbs == 1) := by
        rw [Bool.eq_iff_iff]; simp; omega
      simp (maxSteps := 2000000) only [vup, e, Bool.true_and]
      exact hE
    · simp (maxSteps := 2000000) only [s118, ↓Za, ↓Zs, ↓Zx, ↓Zb, ↓Zc, ↓vdn, vup, cond_true, cond_false, aop, Zg, Zt, ev, sput, Zf, Zz, Ya, Nat.reduceBEq, Nat.reduceAdd, Zr, Xo, tup, tyf, frV, boxF, Yr, fA1, Xu (Zy h _), h1, h2, Bool.true_and, Bool.false_and]
      exact hE
  · simp (maxSteps := 2000000) only [s118, ↓Za, ↓Zs, ↓Zx, ↓Zb, ↓Zc, ↓vdn, vup, cond_true, cond_false, aop, Zg, Zt, ev, sput, Zf, Zz, Ya, Nat.reduceBEq, Nat.reduceAdd, Zr, Xo, tup, tyf, frV, boxF, Yr, fA1, Xu (Zy h _), h1, Bool.false_and]
    exact hE

theorem s107_callW [Tabs Try.prog] {args : List Value} {h : Zh} {Q : Value → Zh → Prop} (hsz : args.length ≤ 20) (hk : AWS Try.prog 20 s107 (Zr Try.prog [.tmp 4] Q) (Zt 0 args) h) : ACall Try.prog 107 args h Q :=
  Ym Try.func107 rfl (enters_of Try.func107 (by kernel_rfl) rfl) rfl rfl (by decide) s107_strip s107_ok hsz hk
theorem chance_call [Tabs prog] {h : Zh} {x y m : Int} (hm : m < 9223372036854775808) : Yv prog 107 [frV x y, Zd m] h (.bool (chB m (x, y))) := by
  have hE : Ext (fun _ => False) h (h ++ [fC x y]) := Ext.app _ _ _
  refine ACall.forget (Low.bool _) ?_
  refine s107_callW (by simp) ?_
  refine Zj ?_
  simp (maxSteps := 2000000) only [s107, ↓Za, ↓Zs, ↓Zb, ↓Zc, vup, List.map_cons, List.map_nil, cond_true, cond_false, aop, Zg, Zt, ev, sput, Zf, Nat.reduceBEq, Nat.reduceAdd, frV, boxF, Yr, Ws (Zy h _), Yk, List.nil_append, List.append_nil]
  refine (show Yv prog 118 [.agg #[Zd x, Zd y], Zd m] (h ++ [Blk.cells [Zd x, Zd y] 26 false]) _ from lowest_call hm).mono ?_
  rintro _ _ ⟨rfl, rfl⟩
  rw [chB]
  cases hl : (decide (1 ≤ y) && (decide (y ≤ m) && (Nat.gcd x.natAbs y.natAbs == 1))) with
  | false =>
    simp (maxSteps := 2000000) only [↓Zx, ↓Zb, ↓Zc, ↓vdn, vup, cond_true, cond_false, aop, Zg, ev, sput, Zf, Nat.reduceBEq, Zr, Xo, tup, Bool.false_and]
    exact hE
  | true =>
    by_cases h1 : 0 ≤ x
    · simp (maxSteps := 2000000) only [↓Zx, ↓Zb, ↓Zc, ↓vdn, vup, cond_true, cond_false, aop, Zg, ev, sput, Zf, Zz, Ya, Nat.reduceBEq, Zr, Xo, tup, tyf, fA0, fA1, Wk (Zy h _), Xu (Zy h _), h1, Bool.true_and]
      exact hE
    · simp (maxSteps := 2000000) only [↓Zx, ↓Zb, ↓Zc, ↓vdn, vup, cond_true, cond_false, aop, Zg, ev, sput, Zf, Zz, Ya, Nat.reduceBEq, Zr, Xo, tup, tyf, fA0, Wk (Zy h _), h1, Bool.true_and, Bool.false_and]
      exact hE
end Go.Proofs.Try.Am

namespace Go.Proofs.Try.Am
open Go.Am
set_option maxRecDepth 100000
/-! 116: slices.IndexFunc[[]planchet api.Frac,planchet api.Frac] -/
@[reducible] def q116_0 : SCode := .region [⟨some 4, .assign (.const (.int .i64 0)), none⟩]
@[reducible] def q116_1 : SCode := .region [⟨some 6, .move (.tmp 0), none⟩,
    ⟨some 7, .call { callee := .builtin .len, args := #[.tmp 6], argTypes := #[47] }, none⟩,
    ⟨some 8, .move (.const (.int .i64 0)), none⟩]
@[reducible] def q116_2 : SCode := .region [⟨some 9, .binOp .lss 3 (.tmp 8) (.tmp 7) 3, none⟩]
@[reducible] def q116_3 : SCode := .region [⟨some 10, .move (.tmp 8), none⟩,
    ⟨some 5, .assign (.tmp 10), none⟩]
@[reducible] def q116_4 : SCode := .region [⟨some 11, .move (.tmp 1), none⟩,
    ⟨some 12, .move (.tmp 0), none⟩,
    ⟨some 13, .move (.tmp 5), none⟩,
    ⟨some 14, .indexAddr 47 (.tmp 12) (.tmp 13), none⟩,
    ⟨some 15, .load 26 (.tmp 14), none⟩,
    ⟨some 16, .call { callee := .value (.tmp 11), args := #[.tmp 15], argTypes := #[26] }, none⟩]
@[reducible] def q116_5 : SCode := .region [⟨some 17, .move (.tmp 5), none⟩,
    ⟨some 4, .assign (.tmp 17), none⟩]
@[reducible] def q116_6 : SCode := .region [⟨some 18, .binOp .add 3 (.tmp 8) (.const (.int .i64 1)) 3, none⟩,
    ⟨some 8, .move (.tmp 18), none⟩]
def l116_0 : SCode := (.seq q116_2 (.seq (.cond (.tmp 9) .skip (.exit 0)) (.seq (.block 1 (.seq q116_3 (.seq q116_4 (.cond (.tmp 16) (.seq q116_5 .ret) .skip)))) q116_6)))
@[reducible] def q116_7 : SCode := .region [⟨some 4, .assign (.const (.int .i64 (-1))), none⟩]
def s116 : SCode := (.seq q116_0 (.seq (.seq q116_1 (.block 0 (.loop l116_0))) (.seq q116_7 .ret)))
theorem s116_strip : Zw (Zu Try.f116) = s116 := by kernel_rfl
theorem s116_ok : Yi 19 (Zu Try.f116) = true := by kernel_rfl
/-! 34: planchet planchetref09.Multiple -/
@[reducible] def q34_0 : SCode := .region [⟨some 2, .assign (.const (.int .i64 0)), none⟩]
@[reducible] def q34_1 : SCode := .region [⟨some 3, .assign (.const (.int .i64 1)), none⟩]
@[reducible] def q34_2 : SCode := .region [⟨some 8, .move (.tmp 0), none⟩,
    ⟨some 9, .call { callee := .builtin .len, args := #[.tmp 8], argTypes := #[47] }, none⟩,
    ⟨some 10, .move (.const (.int .i64 0)), none⟩]
@[reducible] def q34_3 : SCode := .region [⟨some 11, .binOp .lss 3 (.tmp 10) (.tmp 9) 3, none⟩]
@[reducible] def q34_4 : SCode := .region [⟨some 12, .indexAddr 47 (.tmp 8) (.tmp 10), none⟩,
    ⟨some 13, .load 26 (.tmp 12), none⟩,
    ⟨some 5, .alloc 26, none⟩,
    ⟨none, .store 26 (.tmp 5) (.tmp 13), none⟩]
def q34_5 : SCode := .draw [⟨some 14, .fieldAddr 26 (.tmp 5) 1, none⟩,
    ⟨some 15, .load 3 (.tmp 14), none⟩,
    ⟨some 16, .binOp .lss 3 (.tmp 15) (.const (.int .i64 1)) 3, none⟩,
    ⟨some 17, .move (.tmp 16), none⟩,
    ⟨some 18, .fieldAddr 26 (.tmp 5) 1, some (17, false)⟩,
    ⟨some 19, .load 3 (.tmp 18), some (17, false)⟩,
    ⟨some 20, .binOp .gtr 3 (.tmp 19) (.const (.int .i64 10000000000)) 3, some (17, false)⟩,
    ⟨some 21, .pick (.tmp 17) (.const (.bool true)) (.tmp 20), none⟩,
    ⟨some 22, .move (.tmp 21), none⟩,
    ⟨some 23, .fieldAddr 26 (.tmp 5) 0, some (22, false)⟩,
    ⟨some 24, .load 3 (.tmp 23), some (22, false)⟩,
    ⟨some 25, .binOp .lss 3 (.tmp 24) (.const (.int .i64 0)) 3, some (22, false)⟩,
    ⟨some 26, .pick (.tmp 22) (.const (.bool true)) (.tmp 25), none⟩,
    ⟨some 27, .move (.tmp 26), none⟩,
    ⟨some 28, .fieldAddr 26 (.tmp 5) 0, some (27, false)⟩,
    ⟨some 29, .load 3 (.tmp 28), some (27, false)⟩,
    ⟨some 30, .fieldAddr 26 (.tmp 5) 1, some (27, false)⟩,
    ⟨some 31, .load 3 (.tmp 30), some (27, false)⟩,
    ⟨some 32, .call { callee := .value (.func 68), args := #[.tmp 29, .tmp 31], argTypes := #[3, 3] }, some (27, false)⟩,
    ⟨some 33, .load 26 (.tmp 5), some (27, false)⟩,
    ⟨some 34, .binOp .neq 26 (.tmp 32) (.tmp 33) 26, some (27, false)⟩,
    ⟨some 35, .pick (.tmp 27) (.const (.bool true)) (.tmp 34), none⟩]
   [[], [0], [1], [2], [3], [4, 3], [5, 3], [3, 6], [7, 3], [8], [9, 8], [10, 8], [8, 11], [12, 8], [13], [14, 13], [13], [16, 13], [15, 17, 13, 13], [13], [18, 19, 13], [13, 20]]
@[reducible] def q34_6 : SCode := .region [⟨some 2, .assign (.const (.int .i64 0)), none⟩]
def q34_7 : SCode := .draw [⟨some 36, .move (.tmp 3), none⟩,
    ⟨some 37, .fieldAddr 26 (.tmp 5) 1, none⟩,
    ⟨some 38, .load 3 (.tmp 37), none⟩,
    ⟨some 6, .assign (.tmp 36), none⟩,
    ⟨some 7, .assign (.tmp 38), none⟩]
   [[], [], [1], [0, 0], [2, 3, 0, 1, 2, 3]]
@[reducible] def q34_8 : SCode := .region [⟨some 39, .move (.tmp 7), none⟩,
    ⟨some 40, .binOp .neq 3 (.tmp 39) (.const (.int .i64 0)) 3, none⟩]
def q34_9 : SCode := .draw [⟨some 41, .move (.tmp 7), none⟩,
    ⟨some 42, .move (.tmp 6), none⟩,
    ⟨some 43, .move (.tmp 7), none⟩,
    ⟨some 44, .binOp .rem 3 (.tmp 42) (.tmp 43) 3, none⟩,
    ⟨some 6, .assign (.tmp 41), none⟩,
    ⟨some 7, .assign (.tmp 44), none⟩]
   [[], [], [], [1, 2], [0, 0, 1], [3, 4, 0, 1, 2, 3, 4]]
def l34_0 : SCode := (.seq (.seq q34_8 (.cond (.tmp 40) .skip (.exit 2))) (.block 3 q34_9))
def q34_10 : SCode := .draw [⟨some 45, .move (.tmp 3), none⟩,
    ⟨some 46, .move (.tmp 6), none⟩,
    ⟨some 47, .binOp .quo 3 (.tmp 45) (.tmp 46) 3, none⟩,
    ⟨some 48, .fieldAddr 26 (.tmp 5) 1, none⟩,
    ⟨some 49, .load 3 (.tmp 48), none⟩,
    ⟨some 50, .binOp .quo 3 (.const (.int .i64 10000000000)) (.tmp 49) 3, none⟩,
    ⟨some 51, .binOp .gtr 3 (.tmp 47) (.tmp 50) 3, none⟩]
   [[], [], [0, 1], [], [3], [4], [2, 5]]
@[reducible] def q34_11 : SCode := .region [⟨some 2, .assign (.const (.int .i64 0)), none⟩]
def q34_12 : SCode := .draw [⟨some 52, .move (.tmp 3), none⟩,
    ⟨some 53, .move (.tmp 6), none⟩,
    ⟨some 54, .binOp .quo 3 (.tmp 52) (.tmp 53) 3, none⟩,
    ⟨some 55, .fieldAddr 26 (.tmp 5) 1, none⟩,
    ⟨some 56, .load 3 (.tmp 55), none⟩,
    ⟨some 57, .binOp .mul 3 (.tmp 54) (.tmp 56) 3, none⟩,
    ⟨some 3, .assign (.tmp 57), none⟩]
   [[], [], [0, 1], [], [3], [2, 4], [5, 0, 1, 2, 3, 4, 5]]
@[reducible] def q34_13 : SCode := .region [⟨some 58, .binOp .add 3 (.tmp 10) (.const (.int .i64 1)) 3, none⟩,
    ⟨some 10, .move (.tmp 58), none⟩]
def l34_1 : SCode := (.seq q34_3 (.seq (.cond (.tmp 11) .skip (.exit 0)) (.seq (.block 1 (.seq q34_4 (.seq (.seq q34_5 (.cond (.tmp 35) (.seq q34_6 .ret) .skip)) (.seq q34_7 (.seq (.block 2 (.loop l34_0)) (.seq (.seq q34_10 (.cond (.tmp 51) (.seq q34_11 .ret) .skip)) q34_12)))))) q34_13)))
@[reducible] def q34_14 : SCode := .region [⟨some 59, .move (.tmp 3), none⟩,
    ⟨some 2, .assign (.tmp 59), none⟩]
def s34 : SCode := (.seq q34_0 (.seq q34_1 (.seq (.seq q34_2 (.block 0 (.loop l34_1))) (.seq q34_14 .ret))))
theorem s34_strip : Zw (Zu Try.f34) = s34 := by kernel_rfl
theorem s34_ok : Yi 60 (Zu Try.f34) = true := by kernel_rfl
/-! 38: planchet planchetref09.Chances -/
@[reducible] def q38_0 : SCode := .region [⟨some 4, .assign (.const (.bool false)), none⟩]
@[reducible] def q38_1 : SCode := .region [⟨some 7, .move (.tmp 1), none⟩,
    ⟨some 8, .call { callee := .builtin .len, args := #[.tmp 7], argTypes := #[47] }, none⟩,
    ⟨some 9, .move (.tmp 0), none⟩,
    ⟨some 10, .binOp .neq 3 (.tmp 8) (.tmp 9) 3, none⟩,
    ⟨some 11, .move (.tmp 10), none⟩,
    ⟨some 12, .move (.tmp 1), some (11, false)⟩,
    ⟨some 13, .call { callee := .value (.func 34), args := #[.tmp 12], argTypes := #[47] }, some (11, false)⟩,
    ⟨some 14, .binOp .eql 3 (.tmp 13) (.const (.int .i64 0)) 3, some (11, false)⟩,
    ⟨some 15, .pick (.tmp 11) (.const (.bool true)) (.tmp 14), none⟩]
@[reducible] def q38_2 : SCode := .region [⟨some 4, .assign (.const (.bool false)), none⟩]
@[reducible] def q38_3 : SCode := .region [⟨some 16, .move (.tmp 1), none⟩,
    ⟨some 17, .call { callee := .builtin .len, args := #[.tmp 16], argTypes := #[47] }, none⟩,
    ⟨some 18, .move (.const (.int .i64 0)), none⟩]
@[reducible] def q38_4 : SCode := .region [⟨some 19, .binOp .lss 3 (.tmp 18) (.tmp 17) 3, none⟩]
@[reducible] def q38_5 : SCode := .region [⟨some 20, .indexAddr 47 (.tmp 16) (.tmp 18), none⟩,
    ⟨some 21, .load 26 (.tmp 20), none⟩,
    ⟨some 6, .alloc 26, none⟩,
    ⟨none, .store 26 (.tmp 6) (.tmp 21), none⟩]
@[reducible] def q38_6 : SCode := .region [⟨some 22, .fieldAddr 26 (.tmp 6) 0, none⟩,
    ⟨some 23, .load 3 (.tmp 22), none⟩,
    ⟨some 24, .fieldAddr 26 (.tmp 6) 1, none⟩,
    ⟨some 25, .load 3 (.tmp 24), none⟩,
    ⟨some 26, .binOp .gtr 3 (.tmp 23) (.tmp 25) 3, none⟩]
@[reducible] def q38_7 : SCode := .region [⟨some 4, .assign (.const (.bool false)), none⟩]
@[reducible] def q38_8 : SCode := .region [⟨some 27, .binOp .add 3 (.tmp 18) (.const (.int .i64 1)) 3, none⟩,
    ⟨some 18, .move (.tmp 27), none⟩]
def l38_0 : SCode := (.seq q38_4 (.seq (.cond (.tmp 19) .skip (.exit 0)) (.seq (.block 1 (.seq q38_5 (.seq q38_6 (.cond (.tmp 26) (.seq q38_7 .ret) .skip)))) q38_8)))
@[reducible] def q38_9 : SCode := .region [⟨some 4, .assign (.const (.bool true)), none⟩]
def s38 : SCode := (.seq q38_0 (.seq (.seq q38_1 (.cond (.tmp 15) (.seq q38_2 .ret) .skip)) (.seq (.seq q38_3 (.block 0 (.loop l38_0))) (.seq q38_9 .ret))))
theorem s38_strip : Zw (Zu Try.f38) = s38 := by kernel_rfl
theorem s38_ok : Yi 28 (Zu Try.f38) = true := by kernel_rfl
/-! 74: planchet planchetref09.part -/
@[reducible] def q74_0 : SCode := .region [⟨some 4, .assign (.const (.int .i64 0)), none⟩]
@[reducible] def q74_1 : SCode := .region [⟨some 9, .move (.tmp 0), none⟩,
    ⟨some 10, .call { callee := .value (.func 34), args := #[.tmp 9], argTypes := #[47] }, none⟩,
    ⟨some 5, .assign (.tmp 10), none⟩,
    ⟨some 6, .assign (.const (.int .i64 0)), none⟩]
@[reducible] def q74_2 : SCode := .region [⟨some 11, .move (.tmp 0), none⟩,
    ⟨some 12, .call { callee := .builtin .len, args := #[.tmp 11], argTypes := #[47] }, none⟩,
    ⟨some 13, .move (.const (.int .i64 0)), none⟩]
@[reducible] def q74_3 : SCode := .region [⟨some 14, .binOp .lss 3 (.tmp 13) (.tmp 12) 3, none⟩]
@[reducible] def q74_4 : SCode := .region [⟨some 15, .move (.tmp 13), none⟩,
    ⟨some 16, .indexAddr 47 (.tmp 11) (.tmp 13), none⟩,
    ⟨some 17, .load 26 (.tmp 16), none⟩,
    ⟨some 8, .alloc 26, none⟩,
    ⟨some 7, .assign (.tmp 15), none⟩,
    ⟨none, .store 26 (.tmp 8) (.tmp 17), none⟩]
@[reducible] def q74_5 : SCode := .region [⟨some 18, .move (.tmp 1), none⟩,
    ⟨some 19, .move (.tmp 7), none⟩,
    ⟨some 20, .binOp .shr 3 (.tmp 18) (.tmp 19) 3, none⟩,
    ⟨some 21, .binOp .and 3 (.tmp 20) (.const (.int .i64 1)) 3, none⟩,
    ⟨some 22, .binOp .eql 3 (.tmp 21) (.const (.int .i64 1)) 3, none⟩]
def q74_6 : SCode := .draw [⟨some 23, .move (.tmp 6), none⟩,
    ⟨some 24, .move (.tmp 5), none⟩,
    ⟨some 25, .fieldAddr 26 (.tmp 8) 1, none⟩,
    ⟨some 26, .load 3 (.tmp 25), none⟩,
    ⟨some 27, .binOp .quo 3 (.tmp 24) (.tmp 26) 3, none⟩,
    ⟨some 28, .fieldAddr 26 (.tmp 8) 0, none⟩,
    ⟨some 29, .load 3 (.tmp 28), none⟩,
    ⟨some 30, .binOp .mul 3 (.tmp 27) (.tmp 29) 3, none⟩,
    ⟨some 31, .binOp .add 3 (.tmp 23) (.tmp 30) 3, none⟩,
    ⟨some 6, .assign (.tmp 31), none⟩]
   [[], [], [], [2], [1, 3], [], [5], [4, 6], [0, 7], [8, 0, 1, 2, 3, 4, 5, 6, 7, 8]]
@[reducible] def q74_7 : SCode := .region [⟨some 32, .binOp .add 3 (.tmp 13) (.const (.int .i64 1)) 3, none⟩,
    ⟨some 13, .move (.tmp 32), none⟩]
def l74_0 : SCode := (.seq q74_3 (.seq (.cond (.tmp 14) .skip (.exit 0)) (.seq (.block 1 (.seq q74_4 (.seq q74_5 (.cond (.tmp 22) q74_6 .skip)))) q74_7)))
@[reducible] def q74_8 : SCode := .region [⟨some 33, .move (.tmp 6), none⟩,
    ⟨some 4, .assign (.tmp 33), none⟩]
def s74 : SCode := (.seq q74_0 (.seq q74_1 (.seq (.seq q74_2 (.block 0 (.loop l74_0))) (.seq q74_8 .ret))))
theorem s74_strip : Zw (Zu Try.f74) = s74 := by kernel_rfl
theorem s74_ok : Yi 34 (Zu Try.f74) = true := by kernel_rfl
end Go.Proofs.Try.Am

namespace Go.Proofs.Try.Am
open Go.Am Bq
set_option maxRecDepth 100000
set_option maxHeartbeats 1000000

/-- Fractions within the range of ints. -/
def InR (ps : List (Int × Int)) : Prop := ∀ p ∈ ps, (-(2 ^ 63) ≤ p.1 ∧ p.1 < 2 ^ 63) ∧ -(2 ^ 63) ≤ p.2 ∧ p.2 < 2 ^ 63
theorem drop_getD {ps : List (Int × Int)} {k : Nat} (hk : k < ps.length) : ps.drop k = ps.getD k (0, 0) :: ps.drop (k + 1) := by
  rw [List.getD, List.getElem?_eq_getElem hk]; exact List.drop_eq_getElem_cons hk
theorem mulTo_no {p : Int × Int} {ps : List (Int × Int)} {m : Nat} (h : okP p = false) : mulTo (p :: ps) m = 0 := by rw [mulTo, h]; simp
theorem neq_frac {x y : Int} (h1 : 1 ≤ y) : (([(Rat.divInt x y).num, ((Rat.divInt x y).den : Int)] : List Int) != [x, y]) = !(Nat.gcd x.natAbs y.natAbs == 1) := by
  obtain ⟨n, rfl⟩ : ∃ n : Nat, y = n := ⟨y.toNat, by omega⟩
  have hn : 0 < n := by omega
  obtain ⟨t1, t2⟩ := terms (x := x) hn
  rw [bne, Int.natAbs_natCast]
  congr 1
  rw [Bool.eq_iff_iff, beq_iff_eq, beq_iff_eq, List.cons.injEq, List.cons.injEq]
  constructor
  · rintro ⟨_, h3, _⟩
    have h4 : n / Nat.gcd x.natAbs n = n := by rw [← t2] at h3; omega
    rcases Nat.lt_or_ge 1 (Nat.gcd x.natAbs n) with h5 | h5
    · have := Nat.div_lt_self hn h5; omega
    · have := Nat.gcd_pos_of_pos_right x.natAbs hn; omega
  · intro h3
    rw [← t1, ← t2, h3]; simp

/-- Whether what is common is too great. -/
theorem lcm_gt {m n : Nat} (hm : 0 < m) (hn : 0 < n) : (10000000000 / n < m / Nat.gcd m n) ↔ 10000000000 < Nat.lcm m n := by
  have e : Nat.lcm m n = m / Nat.gcd m n * n := by rw [Nat.lcm, Nat.div_mul_right_comm (Nat.gcd_dvd_left _ _)]
  rw [e]; exact Nat.div_lt_iff_lt_mul hn
theorem lcm_gt' {m n : Nat} (hm : 0 < m) (hn : 0 < n) : (10000000000 / (n / Nat.gcd m n) < m) ↔ 10000000000 < Nat.lcm m n := by
  have hg := Nat.gcd_pos_of_pos_left n hm
  have e : Nat.lcm m n = m * (n / Nat.gcd m n) := by rw [Nat.lcm, Nat.mul_div_assoc _ (Nat.gcd_dvd_right _ _)]
  rw [e]; exact Nat.div_lt_iff_lt_mul (Nat.div_pos (Nat.le_of_dvd hn (Nat.gcd_dvd_right _ _)) hg)

theorem s34_callW [Tabs Try.prog] {args : List Value} {h : Zh} {Q : Value → Zh → Prop} (hsz : args.length ≤ 60) (hk : AWS Try.prog 60 s34 (Zr Try.prog [.tmp 2] Q) (Zt 0 args) h) : ACall Try.prog 34 args h Q :=
  Ym Try.func34 rfl (enters_of Try.func34 (by kernel_rfl) rfl) rfl rfl (by decide) s34_strip s34_ok hsz hk
theorem mult_call [Tabs prog] {h : Zh} {v : Value} {ps : List (Int × Int)} (hv : PairSl h v ps) (hl : ps.length < 9223372036854775808) (hx : InR ps) : Yv prog 34 [v] h (Zd (Xd ps : Nat)) := by
  refine ACall.forget (Low.int _ _) ?_
  refine s34_callW (by simp) ?_
  simp only [s34]
  refine Ze fun N1 hN1 => ?_
  simp (maxSteps := 2000000) only [↓Za, ↓Zb, ↓Zc, vup, cond_false, aop, Zg, Zt, ev, sput, Zf, Nat.reduceBEq]
  refine hN1 [(0, v), (2, .int .i64 0)] _ _ ?_ (by simp (maxSteps := 2000000) only [vup, cond_true, cond_false, Nat.reduceBEq])
  clear hN1
  try clear N1
  refine Ze fun N2 hN2 => ?_
  simp (maxSteps := 2000000) only [↓Za, ↓Zb, ↓Zc, vup, cond_false, aop, Zg, ev, sput, Zf, Nat.reduceBEq]
  refine hN2 [(0, v), (2, .int .i64 0), (3, .int .i64 1)] _ _ ?_ (by simp (maxSteps := 2000000) only [vup, cond_true, cond_false, Nat.reduceBEq])
  clear hN2
  try clear N2
  refine Zk fun M hM => ?_
  refine Ze fun N3 hN3 => ?_
  simp (maxSteps := 2000000) only [↓Za, ↓Zb, ↓Zc, vup, List.map_cons, List.map_nil, cond_true, cond_false, aop, Zg, ev, sput, Zf, Zi, Nat.reduceBEq, tyf, hv.len]
  refine hN3 [(0, v), (2, .int .i64 0), (3, .int .i64 1), (8, v), (9, Zd ps.length), (10, .int .i64 0)] _ _ ?_ (by simp (maxSteps := 2000000) only [vup, cond_true, cond_false, Nat.reduceBEq])
  clear hN3
  try clear N3
  refine Zl ?_
  refine Zm fun Q hQ => ?_
  refine Yh (γ := Nat × Nat × Zh) (fun s => s.1 ≤ ps.length ∧ 0 < s.2.1 ∧ s.2.1 ≤ 10000000000 ∧ mulTo (ps.drop s.1) s.2.1 = Xd ps ∧ Ext (fun _ => False) h s.2.2)
    (fun s => ([(0, v), (2, .int .i64 0), (3, Zd (s.2.1 : Nat)), (8, v), (9, Zd ps.length), (10, Zd (s.1 : Nat))], s.2.2)) (fun s => ps.length - s.1) (0, 1, h) ⟨Nat.zero_le _, Nat.one_pos, (by decide : (1 : Nat) ≤ 10000000000), rfl, Ext.refl _ _⟩ (by simp (maxSteps := 2000000) only [vup, cond_true, cond_false, Nat.reduceBEq, Int.natCast_zero, Int.natCast_one]) rfl ?_
  rintro ⟨k, m, hp⟩ ⟨hk, hm0, hm, hmul, hE⟩
  simp only at hk hm0 hm hmul hE
  refine Zm fun Q2 hQ2 => ?_
  simp only [l34_1]
  by_cases hin : (k : Int) < ps.length
  · have hk' : k < ps.length := by omega
    have hvp := hv.ext hE
    obtain ⟨⟨x, y⟩, hxy⟩ : ∃ p, ps.getD k (0, 0) = p := ⟨_, rfl⟩
    have hmem : (x, y) ∈ ps := hxy ▸ Xv hk'
    have hr := hx _ hmem
    simp only at hr
    have hdr := drop_getD hk'
    rw [hxy] at hdr
    rw [hdr] at hmul
    refine Ze fun N4 hN4 => ?_
    simp (maxSteps := 2000000) only [↓Za, ↓Zb, ↓Zc, vup, cond_true, cond_false, aop, Zg, ev, sput, Zf, Zz, Ya, Nat.reduceBEq, hin]
    refine hN4 [(0, v), (2, .int .i64 0), (3, Zd (m : Nat)), (8, v), (9, Zd ps.length), (10, Zd (k : Nat)), (11, .bool true)] _ _ ?_ (by simp (maxSteps := 2000000) only [vup, cond_true, cond_false, Nat.reduceBEq])
    clear hN4
    try clear N4
    refine Ze fun N5 hN5 => ?_
    simp (maxSteps := 2000000) only [↓Zo, ↓vdn, vup, cond_true, cond_false, Zg, ev, Nat.reduceBEq]
    refine hN5 [(0, v), (2, .int .i64 0), (3, Zd (m : Nat)), (8, v), (9, Zd ps.length), (10, Zd (k : Nat))] _ _ ?_ (by simp (maxSteps := 2000000) only [vup, cond_true, cond_false, Nat.reduceBEq])
    clear hN5
    try clear N5
    obtain ⟨H, hH⟩ : ∃ H, H = hp ++ [fC x y] := ⟨_, rfl⟩
    have c5 : H[hp.length]? = some (fC x y) := by rw [hH]; exact Zy _ _
    have hEH : Ext (fun _ => False) h H := by rw [hH]; exact hE.trans (Ext.app _ _ _)
    refine Zk fun B hB => ?_
    refine Zl ?_
    refine Ze fun N6 hN6 => ?_
    simp (maxSteps := 2000000) only [↓Za, ↓Zb, ↓Zc, vup, cond_true, cond_false, aop, Zg, ev, sput, Zf, Nat.reduceBEq, tyf, hvp.idx Vo Xw hk', hvp.load Wv hk', hxy, Xe, Yr, Xk (Zy hp z0) rfl, Xn]
    rw [← hH]
    refine hN6 [(0, v), (2, .int .i64 0), (3, Zd (m : Nat)), (5, .pointer (some ⟨hp.length, 0, none⟩)), (8, v), (9, Zd ps.length), (10, Zd (k : Nat))] _ _ ?_ (by simp (maxSteps := 2000000) only [vup, cond_true, cond_false, Nat.reduceBEq])
    clear hN6
    try clear N6
    have none0 : Xd ps = 0 → ∀ e, sget e 2 = .int .i64 0 → Q2 .ret e H := by
      intro h0 e he
      refine hQ2 _ _ _ (hQ _ _ _ ?_)
      simp (maxSteps := 2000000) only [vup, Zg, Zn, Zr, Xo, tup, he, h0, Int.natCast_zero]
      exact hEH
    refine Ze fun C hC => ?_
    simp only [q34_5]
    refine aw_cut fun D hD => ?_
    refine Yo [(18, 1)] (by kernel_rfl) (by kernel_rfl) (by kernel_rfl) (by kernel_rfl) ?_
    have bad : okP (x, y) = false → ∀ e, sget e 35 = .bool true → D e H := by
      intro hok e he
      have h0 : Xd ps = 0 := by rw [← hmul, mulTo_no hok]
      refine hD _ _ ?_
      simp (maxSteps := 2000000) only [↓Za, ↓Zs, ↓Zx, ↓Zb, ↓Zc, ↓vdn, vup, aop, Zg, Zn, ev, Zf, he]
      exact none0 h0 _ (by simp [sget_sput])
    by_cases h1 : y < 1
    · simp (maxSteps := 2000000) only [↓Zp, ↓vdn, vup, cond_true, cond_false, aop, Zg, ev, sput, Zf, Zz, Ya, pickK, Nat.reduceBEq, Nat.reduceAdd, tyf, fA1, Xu c5, h1]
      exact bad (by simp [okP]; omega) _ rfl
    by_cases h2 : y > 10000000000
    · simp (maxSteps := 2000000) only [↓Zp, ↓vdn, vup, cond_true, cond_false, aop, Zg, ev, sput, Zf, Zz, Ya, pickK, Nat.reduceBEq, Nat.reduceAdd, tyf, fA1, Xu c5, h1, h2]
      exact bad (by simp [okP]; omega) _ rfl
    by_cases h3 : x < 0
    · simp (maxSteps := 2000000) only [↓Zp, ↓vdn, vup, cond_true, cond_false, aop, Zg, ev, sput, Zf, Zz, Ya, pickK, Nat.reduceBEq, Nat.reduceAdd, tyf, fA1, fA0, Xu c5, Wk c5, h1, h2, h3]
      exact bad (by simp [okP]; omega) _ rfl
    have rf := rfrac_call (h := H) (a := x) (b := y) (by omega) (by omega) (by omega)
    simp (maxSteps := 2000000) only [↓Zp, ↓vdn, vup, List.map_cons, List.map_nil, cond_true, cond_false, aop, Zg, ev, sput, Zf, Zz, Ya, pickK, Nat.reduceBEq, Nat.reduceAdd, tyf, fA1, fA0, Xu c5, Wk c5, h1, h2, h3, Yk, List.nil_append, List.append_nil]
    refine ⟨_, _, rf, rfl, ?_⟩
    simp (maxSteps := 2000000) only [vup, Nat.reduceAdd, qV, frV, Ws c5, Xc, Option.map_some, List.length_cons, List.length_nil, Nat.zero_add, eqF, neq_frac (show 1 ≤ y by omega)]
    cases hg : (Nat.gcd x.natAbs y.natAbs == 1) with
    | false => exact bad (by simp [okP, hg]) _ rfl
    | true =>
      refine hD _ _ ?_
      have hok : okP (x, y) = true := by simp [okP, hg]; omega
      obtain ⟨n, hn⟩ : ∃ n : Nat, y = n := ⟨y.toNat, by omega⟩
      subst hn
      have hn0 : 0 < n := by omega
      simp (maxSteps := 2000000) only [↓Zo, ↓vdn, vup, cond_true, cond_false, Zg, ev, Nat.reduceBEq]
      refine hC [(0, v), (2, .int .i64 0), (3, Zd (m : Nat)), (5, .pointer (some ⟨hp.length, 0, none⟩)), (8, v), (9, Zd ps.length), (10, Zd (k : Nat))] _ _ ?_ (by simp (maxSteps := 2000000) only [vup, cond_true, cond_false, Nat.reduceBEq])
      clear hC
      try clear C
      refine Ze fun N7 hN7 => ?_
      simp only [q34_7]
      refine Yo [] (by kernel_rfl) (by kernel_rfl) (by kernel_rfl) (by kernel_rfl) ?_
      simp (maxSteps := 2000000) only [↓Zp, ↓vdn, vup, cond_true, cond_false, aop, Zg, ev, sput, Zf, Nat.reduceBEq, Nat.reduceAdd, fA1, Xu c5]
      refine hN7 [(0, v), (2, .int .i64 0), (3, Zd (m : Nat)), (5, .pointer (some ⟨hp.length, 0, none⟩)), (6, Zd (m : Nat)), (7, Zd (n : Nat)), (8, v), (9, Zd ps.length), (10, Zd (k : Nat))] _ _ ?_ (by simp (maxSteps := 2000000) only [vup, cond_true, cond_false, Nat.reduceBEq])
      clear hN7
      try clear N7
      refine Zk fun G hG => ?_
      refine Zl ?_
      refine Zm fun Q3 hQ3 => ?_
      refine Yh (γ := Nat × Nat) (fun s => Nat.gcd s.1 s.2 = Nat.gcd m n ∧ s.1 < 9223372036854775808 ∧ s.2 < 9223372036854775808)
        (fun s => ([(0, v), (2, .int .i64 0), (3, Zd (m : Nat)), (5, .pointer (some ⟨hp.length, 0, none⟩)), (6, Zd (s.1 : Nat)), (7, Zd (s.2 : Nat)), (8, v), (9, Zd ps.length), (10, Zd (k : Nat))], H)) (fun s => s.2) (m, n) ⟨rfl, by simp only; omega, by simp only; omega⟩ (by simp (maxSteps := 2000000) only [vup, cond_true, cond_false, Nat.reduceBEq]) rfl ?_
      rintro ⟨u, w⟩ ⟨huw, hu, hw⟩
      simp only at huw hu hw
      refine Zm fun Q4 hQ4 => ?_
      simp only [l34_0]
      by_cases hw0 : w = 0
      · subst hw0
        have e0 : (((0 : Nat) : Int) != 0) = false := rfl
        rw [Nat.gcd_zero_right] at huw
        subst huw
        refine Ze fun N8 hN8 => ?_
        simp (maxSteps := 2000000) only [↓Za, ↓Zs, ↓Yn, ↓Zb, ↓Zc, ↓vdn, vup, cond_true, cond_false, aop, Zg, ev, sput, Zf, Zz, Ya, Nat.reduceBEq, e0]
        refine hQ4 _ _ _ (hQ3 _ _ _ ?_)
        simp (maxSteps := 2000000) only [Zg, Zn, if_true]
        refine hG [(0, v), (2, .int .i64 0), (3, Zd (m : Nat)), (5, .pointer (some ⟨hp.length, 0, none⟩)), (6, Zd (Nat.gcd m n : Nat)), (8, v), (9, Zd ps.length), (10, Zd (k : Nat))] _ _ ?_ (by simp (maxSteps := 2000000) only [vup, cond_true, cond_false, Nat.reduceBEq])
        clear hG
        try clear G
        have hgp := Nat.gcd_pos_of_pos_left n hm0
        have hg0 : ¬ ((Nat.gcd m n : Nat) : Int) = 0 := by omega
        have q1 := quoD (x := m) (show m < 9223372036854775808 by omega) (Nat.gcd_dvd_left m n)
        have q2 : quoV .i64 10000000000 ((n : Nat) : Int) = ((10000000000 / n : Nat) : Int) := by
          have h5 : (10000000000 : Int).tdiv ((n : Nat) : Int) = ((10000000000 / n : Nat) : Int) := by rw [Int.tdiv_eq_ediv_of_nonneg (by omega)]; rfl
          have h6 := Nat.div_le_self 10000000000 n
          rw [quoV, h5]
          generalize 10000000000 / n = z at h6 ⊢
          exact wrap_id (by omega) (by omega)
        have hn0' : ¬ ((n : Nat) : Int) = 0 := by omega
        have el : Nat.lcm m n = m / Nat.gcd m n * n := by rw [Nat.lcm, Nat.div_mul_right_comm (Nat.gcd_dvd_left _ _)]
        have hgt := lcm_gt hm0 hn0
        rw [mulTo] at hmul
        refine Ze fun K hK => ?_
        simp only [q34_10]
        refine aw_cut fun D hD => ?_
        refine Yo [] (by kernel_rfl) (by kernel_rfl) (by kernel_rfl) (by kernel_rfl) ?_
        by_cases hbig : 10000000000 < Nat.lcm m n
        · have hb2 : ((m / Nat.gcd m n : Nat) : Int) > ((10000000000 / n : Nat) : Int) := by have := hgt.2 hbig; omega
          rw [if_neg (by rw [Int.natAbs_natCast]; omega)] at hmul
          simp (maxSteps := 2000000) only [↓Zp, ↓vdn, vup, cond_true, cond_false, aop, Zg, ev, sput, Zf, Zz, Ya, Nat.reduceBEq, Nat.reduceAdd, tyf, fA1, Xu c5, ne_eq, hg0, hn0', not_false_eq_true, q1, q2, hb2]
          refine hD _ _ ?_
          simp (maxSteps := 2000000) only [↓Za, ↓Zs, ↓Zx, ↓Zb, ↓Zc, ↓vdn, vup, cond_true, cond_false, aop, Zg, Zn, ev, sput, Zf, Nat.reduceBEq]
          exact none0 hmul.symm _ rfl
        · have hb2 : ¬ ((m / Nat.gcd m n : Nat) : Int) > ((10000000000 / n : Nat) : Int) := by
            intro hc
            exact hbig (hgt.1 (by omega))
          rw [if_pos ⟨hok, by rw [Int.natAbs_natCast]; omega⟩, Int.natAbs_natCast] at hmul
          simp (maxSteps := 2000000) only [↓Zp, ↓vdn, vup, cond_true, cond_false, aop, Zg, ev, sput, Zf, Zz, Ya, Nat.reduceBEq, Nat.reduceAdd, tyf, fA1, Xu c5, ne_eq, hg0, hn0', not_false_eq_true, q1, q2, hb2]
          refine hD _ _ ?_
          simp (maxSteps := 2000000) only [↓Zo, ↓vdn, vup, cond_true, cond_false, Zg, ev, Nat.reduceBEq]
          refine hK [(0, v), (2, .int .i64 0), (3, Zd (m : Nat)), (5, .pointer (some ⟨hp.length, 0, none⟩)), (6, Zd (Nat.gcd m n : Nat)), (8, v), (9, Zd ps.length), (10, Zd (k : Nat))] _ _ ?_ (by simp (maxSteps := 2000000) only [vup, cond_true, cond_false, Nat.reduceBEq])
          clear hK
          try clear K
          have m1 : mulV .i64 ((m / Nat.gcd m n : Nat) : Int) (n : Int) = ((Nat.lcm m n : Nat) : Int) := by
            rw [mulN (by rw [← Int.natCast_mul, ← el]; omega), el, Int.natCast_mul]
          refine Zj ?_
          simp only [q34_12]
          refine Yo [] (by kernel_rfl) (by kernel_rfl) (by kernel_rfl) (by kernel_rfl) ?_
          simp (maxSteps := 2000000) only [↓Zp, ↓vdn, vup, cond_true, cond_false, aop, Zg, Zn, ev, sput, Zf, Zz, Ya, Nat.reduceBEq, Nat.reduceAdd, tyf, fA1, Xu c5, ne_eq, hg0, not_false_eq_true, q1, m1]
          refine hB [(0, v), (2, .int .i64 0), (3, Zd (Nat.lcm m n : Nat)), (8, v), (9, Zd ps.length), (10, Zd (k : Nat))] _ _ ?_ (by simp (maxSteps := 2000000) only [vup, cond_true, cond_false, Nat.reduceBEq])
          clear hB
          try clear B
          refine Zj ?_
          simp (maxSteps := 2000000) only [↓Za, ↓Zb, ↓Zc, vup, cond_true, cond_false, aop, ev, sput, Zf, Zz, Ya, Nat.reduceBEq, add1 (show k < 9223372036854775807 by omega)]
          exact hQ2 _ _ _ ⟨(k + 1, Nat.lcm m n, H), ⟨hk', Nat.lcm_pos hm0 hn0, by simp only; omega, hmul, hEH⟩, by simp only; omega, by simp (maxSteps := 2000000) only [vup, cond_true, cond_false, Nat.reduceBEq], rfl⟩
      · have e0 : (((w : Nat) : Int) != 0) = true := by
          have : ((w : Nat) : Int) ≠ 0 := by omega
          simpa using this
        have e1 : ¬ ((w : Nat) : Int) = 0 := by omega
        have etm : ((u : Nat) : Int).tmod ((w : Nat) : Int) = ((u % w : Nat) : Int) := by rw [Int.tmod_eq_emod_of_nonneg (by omega)]; rfl
        have hlt := Nat.mod_lt u (show w > 0 by omega)
        refine Ze fun N9 hN9 => ?_
        simp (maxSteps := 2000000) only [↓Za, ↓Zo, ↓Zs, ↓Zb, ↓Zc, ↓vdn, vup, cond_true, cond_false, aop, Zg, ev, sput, Zf, Zz, Ya, Nat.reduceBEq, e0]
        refine hN9 [(0, v), (2, .int .i64 0), (3, Zd (m : Nat)), (5, .pointer (some ⟨hp.length, 0, none⟩)), (6, Zd (u : Nat)), (7, Zd (w : Nat)), (8, v), (9, Zd ps.length), (10, Zd (k : Nat))] _ _ ?_ (by simp (maxSteps := 2000000) only [vup, cond_true, cond_false, Nat.reduceBEq])
        clear hN9
        try clear N9
        refine Zj ?_
        simp only [q34_9, aw_block]
        refine Yo [] (by kernel_rfl) (by kernel_rfl) (by kernel_rfl) (by kernel_rfl) ?_
        simp (maxSteps := 2000000) only [↓Zp, ↓vdn, vup, cond_true, cond_false, aop, Zn, ev, sput, Zf, Zz, Ya, Nat.reduceBEq, ne_eq, e1, not_false_eq_true, etm]
        refine hQ4 _ _ _ ⟨(w, u % w), ⟨?_, hw, by simp only; omega⟩, hlt, by simp (maxSteps := 2000000) only [vup, cond_true, cond_false, Nat.reduceBEq], rfl⟩
        simp only
        rw [← huw, Nat.gcd_comm u w, Nat.gcd_rec w u, Nat.gcd_comm]
  · obtain rfl : k = ps.length := by omega
    rw [List.drop_length, mulTo] at hmul
    refine Ze fun N10 hN10 => ?_
    simp (maxSteps := 2000000) only [↓Za, ↓Zb, ↓Zc, vup, cond_true, cond_false, aop, Zg, ev, sput, Zf, Zz, Ya, Nat.reduceBEq, hin]
    refine hN10 [(0, v), (2, .int .i64 0), (3, Zd (m : Nat)), (8, v), (9, Zd ps.length), (10, Zd ps.length), (11, .bool false)] _ _ ?_ (by simp (maxSteps := 2000000) only [vup, cond_true, cond_false, Nat.reduceBEq])
    clear hN10
    try clear N10
    refine Ze fun N11 hN11 => ?_
    simp (maxSteps := 2000000) only [↓Yn, ↓vdn, vup, cond_true, cond_false, Zg, ev, Nat.reduceBEq]
    refine hQ2 _ _ _ (hQ _ _ _ ?_)
    simp (maxSteps := 2000000) only [Zg, Zn, Zr, if_true]
    refine hM [(0, v), (2, .int .i64 0), (3, Zd (m : Nat)), (8, v), (9, Zd ps.length), (10, Zd ps.length), (11, .bool false)] _ _ ?_ (by simp (maxSteps := 2000000) only [vup, cond_true, cond_false, Nat.reduceBEq])
    clear hM
    try clear M
    refine Zj ?_
    simp (maxSteps := 2000000) only [↓Za, ↓Zs, ↓Zx, ↓Zb, ↓Zc, vup, cond_true, cond_false, aop, Zg, ev, sput, Zf, Nat.reduceBEq, Zr, Xo, tup, hmul]
    exact hE
end Go.Proofs.Try.Am

namespace Go.Proofs.Try.Am
open Go.Am
set_option maxRecDepth 100000
/-! 61: (planchet bets.belief).of -/
@[reducible] def q61_0 : SCode := .region [⟨some 4, .alloc 26, none⟩]
@[reducible] def q61_1 : SCode := .region [⟨some 8, .call { callee := .value (.func 70), args := #[.const (.int .i64 0)], argTypes := #[3] }, none⟩,
    ⟨some 5, .alloc 26, none⟩,
    ⟨none, .store 26 (.tmp 5) (.tmp 8), none⟩]
@[reducible] def q61_2 : SCode := .region [⟨some 9, .move (.tmp 0), none⟩,
    ⟨some 10, .call { callee := .builtin .len, args := #[.tmp 9], argTypes := #[90] }, none⟩,
    ⟨some 11, .move (.const (.int .i64 0)), none⟩]
@[reducible] def q61_3 : SCode := .region [⟨some 12, .binOp .lss 3 (.tmp 11) (.tmp 10) 3, none⟩]
@[reducible] def q61_4 : SCode := .region [⟨some 13, .move (.tmp 11), none⟩,
    ⟨some 14, .indexAddr 90 (.tmp 9) (.tmp 11), none⟩,
    ⟨some 15, .load 26 (.tmp 14), none⟩,
    ⟨some 7, .alloc 26, none⟩,
    ⟨some 6, .assign (.tmp 13), none⟩,
    ⟨none, .store 26 (.tmp 7) (.tmp 15), none⟩]
@[reducible] def q61_5 : SCode := .region [⟨some 16, .move (.tmp 1), none⟩,
    ⟨some 17, .move (.tmp 6), none⟩,
    ⟨some 18, .binOp .shr 3 (.tmp 16) (.tmp 17) 3, none⟩,
    ⟨some 19, .binOp .and 3 (.tmp 18) (.const (.int .i64 1)) 3, none⟩,
    ⟨some 20, .binOp .eql 3 (.tmp 19) (.const (.int .i64 1)) 3, none⟩]
@[reducible] def q61_6 : SCode := .region [⟨some 21, .load 26 (.tmp 5), none⟩,
    ⟨some 22, .load 26 (.tmp 7), none⟩,
    ⟨some 23, .call { callee := .value (.func 71), args := #[.tmp 21, .const (.int .i64 1), .tmp 22], argTypes := #[26, 3, 26] }, none⟩,
    ⟨none, .store 26 (.tmp 5) (.tmp 23), none⟩]
@[reducible] def q61_7 : SCode := .region [⟨some 24, .binOp .add 3 (.tmp 11) (.const (.int .i64 1)) 3, none⟩,
    ⟨some 11, .move (.tmp 24), none⟩]
def l61_0 : SCode := (.seq q61_3 (.seq (.cond (.tmp 12) .skip (.exit 0)) (.seq (.block 1 (.seq q61_4 (.seq q61_5 (.cond (.tmp 20) q61_6 .skip)))) q61_7)))
@[reducible] def q61_8 : SCode := .region [⟨some 25, .load 26 (.tmp 5), none⟩,
    ⟨none, .store 26 (.tmp 4) (.tmp 25), none⟩]
def s61 : SCode := (.seq q61_0 (.seq q61_1 (.seq (.seq q61_2 (.block 0 (.loop l61_0))) (.seq q61_8 .ret))))
theorem s61_strip : Zw (Zu Try.f61) = s61 := by kernel_rfl
theorem s61_ok : Yi 26 (Zu Try.f61) = true := by kernel_rfl
end Go.Proofs.Try.Am

namespace Go.Proofs.Try.Am
open Go.Am Bq
set_option maxRecDepth 100000
set_option maxHeartbeats 1000000

/-- Whether fractions are n chances. -/
def chances (n : Int) (ps : List (Int × Int)) : Bool := decide ((ps.length : Int) = n) && (decide (Xd ps ≠ 0) && ps.all fun p => decide (p.1 ≤ p.2))

theorem s38_callW [Tabs Try.prog] {args : List Value} {h : Zh} {Q : Value → Zh → Prop} (hsz : args.length ≤ 28) (hk : AWS Try.prog 28 s38 (Zr Try.prog [.tmp 4] Q) (Zt 0 args) h) : ACall Try.prog 38 args h Q :=
  Ym Try.func38 rfl (enters_of Try.func38 (by kernel_rfl) rfl) rfl rfl (by decide) s38_strip s38_ok hsz hk
theorem chances_call [Tabs prog] {h : Zh} {v : Value} {n : Int} {ps : List (Int × Int)} (hv : PairSl h v ps) (hl : ps.length < 9223372036854775808) (hx : InR ps) : Yv prog 38 [Zd n, v] h (.bool (chances n ps)) := by
  refine ACall.forget (Low.bool _) ?_
  refine s38_callW (by simp) ?_
  simp only [s38]
  refine Ze fun N1 hN1 => ?_
  simp (maxSteps := 2000000) only [↓Za, ↓Zb, ↓Zc, vup, cond_false, aop, Zg, Zt, ev, sput, Zf, Nat.reduceBEq, Nat.reduceAdd]
  refine hN1 [(0, Zd n), (1, v), (4, .bool false)] _ _ ?_ (by simp (maxSteps := 2000000) only [vup, cond_true, cond_false, Nat.reduceBEq])
  clear hN1
  try clear N1
  by_cases hn : (ps.length : Int) = n
  · have hne : (((ps.length : Nat) : Int) != n) = false := by simp [bne, hn]
    have e0 : chances n ps = (decide (Xd ps ≠ 0) && ps.all fun p => decide (p.1 ≤ p.2)) := by rw [chances, hn]; simp
    refine Ze fun M hM => ?_
    simp (maxSteps := 2000000) only [↓Za, ↓Zo, ↓Zs, ↓Zx, ↓Zb, ↓Zc, ↓vdn, vup, List.map_cons, List.map_nil, cond_true, cond_false, aop, Zg, ev, sput, Zf, Zz, Ya, Zi, Nat.reduceBEq, Zr, Xo, tup, tyf, hv.len, hne, Yk, List.nil_append, List.append_nil]
    refine (mult_call hv hl hx).mono ?_
    rintro _ h ⟨rfl, rfl⟩
    by_cases hm : Xd ps = 0
    · have h1 : (((Xd ps : Nat) : Int) == 0) = true := by simp [hm]
      simp (maxSteps := 2000000) only [↓Za, ↓Zs, ↓Zx, ↓Zb, ↓Zc, ↓vdn, vup, cond_true, cond_false, aop, Zg, ev, sput, Zf, Nat.reduceBEq, Zr, Xo, tup, h1]
      rw [e0, hm]
      exact ⟨by simp, Ext.refl _ _⟩
    · have h1 : (((Xd ps : Nat) : Int) == 0) = false := by simp; omega
      simp (maxSteps := 2000000) only [↓Zo, ↓vdn, vup, cond_true, cond_false, Zg, ev, Nat.reduceBEq, h1]
      refine hM [(0, Zd n), (1, v), (4, .bool false)] _ _ ?_ (by simp (maxSteps := 2000000) only [vup, cond_true, cond_false, Nat.reduceBEq])
      clear hM
      try clear M
      refine Zk fun Z hZ => ?_
      refine Ze fun N2 hN2 => ?_
      simp (maxSteps := 2000000) only [↓Za, ↓Zb, ↓Zc, vup, List.map_cons, List.map_nil, cond_true, cond_false, aop, Zg, ev, sput, Zf, Zi, Nat.reduceBEq, tyf, hv.len]
      refine hN2 [(0, Zd n), (1, v), (4, .bool false), (16, v), (17, Zd ps.length), (18, .int .i64 0)] _ _ ?_ (by simp (maxSteps := 2000000) only [vup, cond_true, cond_false, Nat.reduceBEq])
      clear hN2
      try clear N2
      refine Zl ?_
      refine Zm fun Q hQ => ?_
      refine Yh (γ := Nat × Zh) (fun s => s.1 ≤ ps.length ∧ (∀ p ∈ ps.take s.1, p.1 ≤ p.2) ∧ Ext (fun _ => False) h s.2)
        (fun s => ([(0, Zd n), (1, v), (4, .bool false), (16, v), (17, Zd ps.length), (18, Zd (s.1 : Nat))], s.2)) (fun s => ps.length - s.1) (0, h) ⟨Nat.zero_le _, by simp, Ext.refl _ _⟩ (by simp (maxSteps := 2000000) only [vup, cond_true, cond_false, Nat.reduceBEq, Int.natCast_zero]) rfl ?_
      rintro ⟨k, hp⟩ ⟨hk, hall, hE⟩
      simp only at hk hall hE
      refine Zm fun Q2 hQ2 => ?_
      simp only [l38_0]
      by_cases hin : (k : Int) < ps.length
      · have hk' : k < ps.length := by omega
        have hvp := hv.ext hE
        obtain ⟨⟨x, y⟩, hxy⟩ : ∃ p, ps.getD k (0, 0) = p := ⟨_, rfl⟩
        have hmem : (x, y) ∈ ps := hxy ▸ Xv hk'
        obtain ⟨H, hH⟩ : ∃ H, H = hp ++ [fC x y] := ⟨_, rfl⟩
        have c5 : H[hp.length]? = some (fC x y) := by rw [hH]; exact Zy _ _
        have hEH : Ext (fun _ => False) h H := by rw [hH]; exact hE.trans (Ext.app _ _ _)
        refine Ze fun N3 hN3 => ?_
        simp (maxSteps := 2000000) only [↓Za, ↓Zb, ↓Zc, vup, cond_true, cond_false, aop, Zg, ev, sput, Zf, Zz, Ya, Nat.reduceBEq, hin]
        refine hN3 [(0, Zd n), (1, v), (4, .bool false), (16, v), (17, Zd ps.length), (18, Zd (k : Nat)), (19, .bool true)] _ _ ?_ (by simp (maxSteps := 2000000) only [vup, cond_true, cond_false, Nat.reduceBEq])
        clear hN3
        try clear N3
        refine Ze fun N4 hN4 => ?_
        simp (maxSteps := 2000000) only [↓Zo, ↓vdn, vup, cond_true, cond_false, Zg, ev, Nat.reduceBEq]
        refine hN4 [(0, Zd n), (1, v), (4, .bool false), (16, v), (17, Zd ps.length), (18, Zd (k : Nat))] _ _ ?_ (by simp (maxSteps := 2000000) only [vup, cond_true, cond_false, Nat.reduceBEq])
        clear hN4
        try clear N4
        refine Zk fun B hB => ?_
        refine Zl ?_
        refine Ze fun N5 hN5 => ?_
        simp (maxSteps := 2000000) only [↓Za, ↓Zb, ↓Zc, vup, cond_true, cond_false, aop, Zg, ev, sput, Zf, Nat.reduceBEq, tyf, hvp.idx Vo Xw hk', hvp.load Wv hk', hxy, Xe, Yr, Xk (Zy hp z0) rfl, Xn]
        rw [← hH]
        refine hN5 [(0, Zd n), (1, v), (4, .bool false), (6, .pointer (some ⟨hp.length, 0, none⟩)), (16, v), (17, Zd ps.length), (18, Zd (k : Nat))] _ _ ?_ (by simp (maxSteps := 2000000) only [vup, cond_true, cond_false, Nat.reduceBEq])
        clear hN5
        try clear N5
        refine Zj ?_
        by_cases hgt : x > y
        · simp (maxSteps := 2000000) only [↓Za, ↓Zs, ↓Zx, ↓Zb, ↓Zc, ↓vdn, vup, cond_true, cond_false, aop, Zg, Zn, ev, sput, Zf, Zz, Ya, Nat.reduceBEq, tyf, fA0, fA1, Wk c5, Xu c5, hgt]
          refine hQ2 _ _ _ (hQ _ _ _ ?_)
          have h2 : (ps.all fun p => decide (p.1 ≤ p.2)) = false := by
            rw [List.all_eq_false]; exact ⟨_, hmem, by simp; omega⟩
          simp (maxSteps := 2000000) only [vup, cond_true, cond_false, Zg, Zn, Nat.reduceBEq, Zr, Xo, tup, e0, h2, Bool.and_false]
          exact hEH
        · simp (maxSteps := 2000000) only [↓Za, ↓Zo, ↓Zs, ↓Zb, ↓Zc, ↓vdn, vup, cond_true, cond_false, aop, Zg, Zn, ev, sput, Zf, Zz, Ya, Nat.reduceBEq, tyf, fA0, fA1, Wk c5, Xu c5, hgt]
          refine hB [(0, Zd n), (1, v), (4, .bool false), (16, v), (17, Zd ps.length), (18, Zd (k : Nat))] _ _ ?_ (by simp (maxSteps := 2000000) only [vup, cond_true, cond_false, Nat.reduceBEq])
          clear hB
          try clear B
          refine Zj ?_
          simp (maxSteps := 2000000) only [↓Za, ↓Zb, ↓Zc, vup, cond_true, cond_false, aop, ev, sput, Zf, Zz, Ya, Nat.reduceBEq, add1 (show k < 9223372036854775807 by omega)]
          refine hQ2 _ _ _ ⟨(k + 1, H), ⟨hk', ?_, hEH⟩, by simp only; omega, by simp (maxSteps := 2000000) only [vup, cond_true, cond_false, Nat.reduceBEq], rfl⟩
          intro p hp'
          simp only [List.take_succ] at hp'
          rw [List.getD, List.getElem?_eq_getElem hk', Option.getD_some] at hxy
          rw [List.getElem?_eq_getElem hk', hxy] at hp'
          rcases List.mem_append.1 hp' with h3 | h3
          · exact hall p h3
          · simp at h3; subst h3; simp only; omega
      · obtain rfl : k = ps.length := by omega
        refine Ze fun N6 hN6 => ?_
        simp (maxSteps := 2000000) only [↓Za, ↓Zb, ↓Zc, vup, cond_true, cond_false, aop, Zg, ev, sput, Zf, Zz, Ya, Nat.reduceBEq, hin]
        refine hN6 [(0, Zd n), (1, v), (4, .bool false), (16, v), (17, Zd ps.length), (18, Zd ps.length), (19, .bool false)] _ _ ?_ (by simp (maxSteps := 2000000) only [vup, cond_true, cond_false, Nat.reduceBEq])
        clear hN6
        try clear N6
        refine Ze fun N7 hN7 => ?_
        simp (maxSteps := 2000000) only [↓Yn, ↓vdn, vup, cond_true, cond_false, Zg, ev, Nat.reduceBEq]
        refine hQ2 _ _ _ (hQ _ _ _ ?_)
        simp (maxSteps := 2000000) only [Zg, Zn, Zr, if_true]
        refine hZ [(0, Zd n), (1, v), (4, .bool false), (16, v), (17, Zd ps.length), (18, Zd ps.length), (19, .bool false)] _ _ ?_ (by simp (maxSteps := 2000000) only [vup, cond_true, cond_false, Nat.reduceBEq])
        clear hZ
        try clear Z
        refine Zj ?_
        have h2 : (ps.all fun p => decide (p.1 ≤ p.2)) = true := by
          rw [List.take_length] at hall
          rw [List.all_eq_true]; exact fun p hp => by simp [hall p hp]
        simp (maxSteps := 2000000) only [↓Za, ↓Zs, ↓Zx, ↓Zb, ↓Zc, vup, cond_true, cond_false, aop, Zg, ev, sput, Zf, Nat.reduceBEq, Zr, Xo, tup]
        rw [e0, h2]
        exact ⟨by simp [hm], hE⟩
  · have hne : (((ps.length : Nat) : Int) != n) = true := by simpa [bne] using hn
    refine Zj ?_
    simp (maxSteps := 2000000) only [↓Za, ↓Zo, ↓Zs, ↓aw_block, ↓Zx, ↓Zb, ↓Zc, ↓vdn, vup, List.map_cons, List.map_nil, cond_true, cond_false, aop, Zg, ev, sput, Zf, Zz, Ya, Zi, Nat.reduceBEq, Zr, Xo, tup, tyf, hv.len, hne]
    exact ⟨by simp [chances, hn], Ext.refl _ _⟩

/-- The parts of the first ones in an event. -/
def Xp (m : Nat) (ps : List (Int × Int)) (evt : Nat) : Nat → Int
  | 0 => 0
  | k + 1 => Xp m ps evt k + if evt.testBit k then (m : Int) / (ps.getD k (0, 0)).2 * (ps.getD k (0, 0)).1 else 0
theorem chances_chn {n : Int} {ps : List (Int × Int)} (h : chances n ps = true) : Chn ps ∧ (ps.length : Int) = n := by
  simp only [chances, Bool.and_eq_true, decide_eq_true_eq, List.all_eq_true] at h
  exact ⟨⟨h.2.1, h.2.2⟩, h.1⟩
theorem partTo_bound {ps : List (Int × Int)} (c : Chn ps) (evt : Nat) : ∀ k, k ≤ ps.length → 0 ≤ Xp (Xd ps) ps evt k ∧ Xp (Xd ps) ps evt k ≤ k * Xd ps
  | 0, _ => ⟨Int.le_refl _, by simp [Xp]⟩
  | k + 1, hk => by
    obtain ⟨h1, h2⟩ := partTo_bound c evt k (by omega)
    obtain ⟨-, h3, h4, -⟩ := c.rp (Xv (show k < ps.length by omega))
    have e : ((k + 1 : Nat) : Int) * (Xd ps : Int) = k * Xd ps + Xd ps := by push_cast; grind
    rw [e, Xp]
    split <;> omega

theorem s74_callW [Tabs Try.prog] {args : List Value} {h : Zh} {Q : Value → Zh → Prop} (hsz : args.length ≤ 34) (hk : AWS Try.prog 34 s74 (Zr Try.prog [.tmp 4] Q) (Zt 0 args) h) : ACall Try.prog 74 args h Q :=
  Ym Try.func74 rfl (enters_of Try.func74 (by kernel_rfl) rfl) rfl rfl (by decide) s74_strip s74_ok hsz hk
theorem part_call [Tabs prog] {h : Zh} {v : Value} {evt : Nat} {ps : List (Int × Int)} (hv : PairSl h v ps) (hl : ps.length ≤ 100) (hx : InR ps) (c : Chn ps) (hev : evt < 9223372036854775808) : Yv prog 74 [v, Zd (evt : Nat)] h (Zd (Xp (Xd ps) ps evt ps.length)) := by
  have hm10 := (mult_spec c.m).2.2
  refine ACall.forget (Low.int _ _) ?_
  refine s74_callW (by simp) ?_
  simp only [s74]
  refine Ze fun N8 hN8 => ?_
  simp (maxSteps := 2000000) only [↓Za, ↓Zb, ↓Zc, vup, cond_false, aop, Zg, Zt, ev, sput, Zf, Nat.reduceBEq, Nat.reduceAdd]
  refine hN8 [(0, v), (1, Zd (evt : Nat)), (4, .int .i64 0)] _ _ ?_ (by simp (maxSteps := 2000000) only [vup, cond_true, cond_false, Nat.reduceBEq])
  clear hN8
  try clear N8
  refine Ze fun N9 hN9 => ?_
  simp (maxSteps := 2000000) only [↓Za, ↓Zb, ↓Zc, vup, List.map_cons, List.map_nil, cond_true, cond_false, aop, Zg, ev, sput, Zf, Nat.reduceBEq, Yk, List.nil_append, List.append_nil]
  refine (mult_call hv (by omega) hx).mono ?_
  rintro _ h ⟨rfl, rfl⟩
  refine hN9 [(0, v), (1, Zd (evt : Nat)), (4, .int .i64 0), (5, Zd (Xd ps : Nat)), (6, .int .i64 0)] _ _ ?_ (by simp (maxSteps := 2000000) only [vup, cond_true, cond_false, Nat.reduceBEq])
  clear hN9
  try clear N9
  refine Zk fun Z hZ => ?_
  refine Ze fun N10 hN10 => ?_
  simp (maxSteps := 2000000) only [↓Za, ↓Zb, ↓Zc, vup, List.map_cons, List.map_nil, cond_true, cond_false, aop, Zg, ev, sput, Zf, Zi, Nat.reduceBEq, tyf, hv.len]
  refine hN10 [(0, v), (1, Zd (evt : Nat)), (4, .int .i64 0), (5, Zd (Xd ps : Nat)), (6, .int .i64 0), (11, v), (12, Zd ps.length), (13, .int .i64 0)] _ _ ?_ (by simp (maxSteps := 2000000) only [vup, cond_true, cond_false, Nat.reduceBEq])
  clear hN10
  try clear N10
  refine Zl ?_
  refine Zm fun Q hQ => ?_
  refine Yh (γ := Nat × Zh) (fun s => s.1 ≤ ps.length ∧ Ext (fun _ => False) h s.2)
    (fun s => ([(0, v), (1, Zd (evt : Nat)), (4, .int .i64 0), (5, Zd (Xd ps : Nat)), (6, Zd (Xp (Xd ps) ps evt s.1)), (11, v), (12, Zd ps.length), (13, Zd (s.1 : Nat))], s.2)) (fun s => ps.length - s.1) (0, h) ⟨Nat.zero_le _, Ext.refl _ _⟩ (by simp (maxSteps := 2000000) only [vup, cond_true, cond_false, Nat.reduceBEq, Int.natCast_zero, Xp]) rfl ?_
  rintro ⟨k, hp⟩ ⟨hk, hE⟩
  simp only at hk hE
  refine Zm fun Q2 hQ2 => ?_
  simp only [l74_0]
  by_cases hin : (k : Int) < ps.length
  · have hk' : k < ps.length := by omega
    have hvp := hv.ext hE
    obtain ⟨⟨x, y⟩, hxy⟩ : ∃ p, ps.getD k (0, 0) = p := ⟨_, rfl⟩
    obtain ⟨r1, r2, r3, r4, r5, r6⟩ := c.rp (Xv hk')
    obtain ⟨b1, b2⟩ := partTo_bound c evt k hk
    have ht := testV (y := k) hev
    have hnext : Xp (Xd ps) ps evt (k + 1) = Xp (Xd ps) ps evt k + if evt.testBit k then (Xd ps : Int) / y * x else 0 := by rw [Xp, hxy]
    rw [hxy] at r1 r2 r3 r4 r5 r6
    simp only at r1 r2 r3 r4 r5 r6
    have hbm : (k : Int) * (Xd ps : Int) ≤ 100 * (Xd ps : Int) := Int.mul_le_mul_of_nonneg_right (by omega) (by omega)
    obtain ⟨H, hH⟩ : ∃ H, H = hp ++ [fC x y] := ⟨_, rfl⟩
    have c5 : H[hp.length]? = some (fC x y) := by rw [hH]; exact Zy _ _
    have hEH : Ext (fun _ => False) h H := by rw [hH]; exact hE.trans (Ext.app _ _ _)
    refine Ze fun N11 hN11 => ?_
    simp (maxSteps := 2000000) only [↓Za, ↓Zb, ↓Zc, vup, cond_true, cond_false, aop, Zg, ev, sput, Zf, Zz, Ya, Nat.reduceBEq, hin]
    refine hN11 [(0, v), (1, Zd (evt : Nat)), (4, .int .i64 0), (5, Zd (Xd ps : Nat)), (6, Zd (Xp (Xd ps) ps evt k)), (11, v), (12, Zd ps.length), (13, Zd (k : Nat)), (14, .bool true)] _ _ ?_ (by simp (maxSteps := 2000000) only [vup, cond_true, cond_false, Nat.reduceBEq])
    clear hN11
    try clear N11
    refine Ze fun N12 hN12 => ?_
    simp (maxSteps := 2000000) only [↓Zo, ↓vdn, vup, cond_true, cond_false, Zg, ev, Nat.reduceBEq]
    refine hN12 [(0, v), (1, Zd (evt : Nat)), (4, .int .i64 0), (5, Zd (Xd ps : Nat)), (6, Zd (Xp (Xd ps) ps evt k)), (11, v), (12, Zd ps.length), (13, Zd (k : Nat))] _ _ ?_ (by simp (maxSteps := 2000000) only [vup, cond_true, cond_false, Nat.reduceBEq])
    clear hN12
    try clear N12
    refine Zk fun B hB => ?_
    refine Zl ?_
    refine Ze fun N13 hN13 => ?_
    simp (maxSteps := 2000000) only [↓Za, ↓Zb, ↓Zc, vup, cond_true, cond_false, aop, Zg, ev, sput, Zf, Nat.reduceBEq, tyf, hvp.idx Vo Xw hk', hvp.load Wv hk', hxy, Xe, Yr, Xk (Zy hp z0) rfl, Xn]
    rw [← hH]
    refine hN13 [(0, v), (1, Zd (evt : Nat)), (4, .int .i64 0), (5, Zd (Xd ps : Nat)), (6, Zd (Xp (Xd ps) ps evt k)), (7, Zd (k : Nat)), (8, .pointer (some ⟨hp.length, 0, none⟩)), (11, v), (12, Zd ps.length), (13, Zd (k : Nat))] _ _ ?_ (by simp (maxSteps := 2000000) only [vup, cond_true, cond_false, Nat.reduceBEq])
    clear hN13
    try clear N13
    have fin : ∀ e z, z = Xp (Xd ps) ps evt (k + 1) → ELe e [(0, v), (1, Zd (evt : Nat)), (4, .int .i64 0), (5, Zd (Xd ps : Nat)), (6, Zd z), (11, v), (12, Zd ps.length), (13, Zd (k : Nat))] → B e H := by
      intro e z hz he
      subst hz
      refine hB _ _ _ ?_ he
      refine Zj ?_
      simp (maxSteps := 2000000) only [↓Za, ↓Zb, ↓Zc, vup, cond_true, cond_false, aop, ev, sput, Zf, Zz, Ya, Nat.reduceBEq, add1 (show k < 9223372036854775807 by omega)]
      exact hQ2 _ _ _ ⟨(k + 1, H), ⟨hk', hEH⟩, by simp only; omega, by simp (maxSteps := 2000000) only [vup, cond_true, cond_false, Nat.reduceBEq], rfl⟩
    refine Ze fun N14 hN14 => ?_
    simp (maxSteps := 2000000) only [↓Za, ↓Zb, ↓Zc, vup, cond_true, cond_false, aop, Zg, ev, sput, Zf, Zz, Ya, Nat.reduceBEq, ht, beq1]
    refine hN14 [(0, v), (1, Zd (evt : Nat)), (4, .int .i64 0), (5, Zd (Xd ps : Nat)), (6, Zd (Xp (Xd ps) ps evt k)), (7, Zd (k : Nat)), (8, .pointer (some ⟨hp.length, 0, none⟩)), (11, v), (12, Zd ps.length), (13, Zd (k : Nat)), (22, .bool (evt.testBit k))] _ _ ?_ (by simp (maxSteps := 2000000) only [vup, cond_true, cond_false, Nat.reduceBEq])
    clear hN14
    try clear N14
    refine Zj ?_
    have hy0 : ¬ y = 0 := by omega
    have q1 : quoV .i64 ((Xd ps : Nat) : Int) y = (Xd ps : Int) / y := quo_dvd (by omega) r6
    have m1 : mulV .i64 ((Xd ps : Int) / y) x = (Xd ps : Int) / y * x := mulN (by omega)
    have a1 : addV .i64 (Xp (Xd ps) ps evt k) ((Xd ps : Int) / y * x) = Xp (Xd ps) ps evt k + (Xd ps : Int) / y * x := addN (by omega)
    cases hbit : evt.testBit k with
    | false =>
      simp (maxSteps := 2000000) only [↓Zo, ↓vdn, vup, cond_true, cond_false, Zg, Zn, ev, Nat.reduceBEq]
      exact fin _ (Xp (Xd ps) ps evt k) (by rw [hnext, hbit]; simp) (by simp (maxSteps := 2000000) only [vup, cond_true, cond_false, Nat.reduceBEq])
    | true =>
      simp (maxSteps := 2000000) only [↓vdn, vup, cond_true, cond_false, ev, Nat.reduceBEq]
      refine Yo [] (by kernel_rfl) (by kernel_rfl) (by kernel_rfl) (by kernel_rfl) ?_
      simp (maxSteps := 2000000) only [↓Zp, ↓vdn, vup, cond_true, cond_false, aop, Zg, Zn, ev, sput, Zf, Zz, Ya, Nat.reduceBEq, Nat.reduceAdd, tyf, fA0, fA1, Wk c5, Xu c5, ne_eq, hy0, not_false_eq_true, q1, m1, a1]
      exact fin _ (Xp (Xd ps) ps evt k + (Xd ps : Int) / y * x) (by rw [hnext, hbit]; simp) (by simp (maxSteps := 2000000) only [vup, cond_true, cond_false, Nat.reduceBEq])
  · obtain rfl : k = ps.length := by omega
    refine Ze fun N15 hN15 => ?_
    simp (maxSteps := 2000000) only [↓Za, ↓Zb, ↓Zc, vup, cond_true, cond_false, aop, Zg, ev, sput, Zf, Zz, Ya, Nat.reduceBEq, hin]
    refine hN15 [(0, v), (1, Zd (evt : Nat)), (4, .int .i64 0), (5, Zd (Xd ps : Nat)), (6, Zd (Xp (Xd ps) ps evt ps.length)), (11, v), (12, Zd ps.length), (13, Zd ps.length), (14, .bool false)] _ _ ?_ (by simp (maxSteps := 2000000) only [vup, cond_true, cond_false, Nat.reduceBEq])
    clear hN15
    try clear N15
    refine Ze fun N16 hN16 => ?_
    simp (maxSteps := 2000000) only [↓Yn, ↓vdn, vup, cond_true, cond_false, Zg, ev, Nat.reduceBEq]
    refine hQ2 _ _ _ (hQ _ _ _ ?_)
    simp (maxSteps := 2000000) only [Zg, Zn, Zr, if_true]
    refine hZ [(0, v), (1, Zd (evt : Nat)), (4, .int .i64 0), (5, Zd (Xd ps : Nat)), (6, Zd (Xp (Xd ps) ps evt ps.length)), (11, v), (12, Zd ps.length), (13, Zd ps.length), (14, .bool false)] _ _ ?_ (by simp (maxSteps := 2000000) only [vup, cond_true, cond_false, Nat.reduceBEq])
    clear hZ
    try clear Z
    refine Zj ?_
    simp (maxSteps := 2000000) only [↓Za, ↓Zs, ↓Zx, ↓Zb, ↓Zc, vup, cond_true, cond_false, aop, Zg, ev, sput, Zf, Nat.reduceBEq, Zr, Xo, tup]
    exact hE
end Go.Proofs.Try.Am

namespace Go.Proofs.Try.Am
open Go.Am
set_option maxRecDepth 100000
end Go.Proofs.Try.Am

namespace Go.Proofs.Try.Am
open Go.Am
set_option maxRecDepth 100000
/-! 35: slices.Equal[[]planchet api.Frac,planchet api.Frac] -/
@[reducible] def q35_0 : SCode := .region [⟨some 4, .assign (.const (.bool false)), none⟩]
@[reducible] def q35_1 : SCode := .region [⟨some 6, .move (.tmp 0), none⟩,
    ⟨some 7, .call { callee := .builtin .len, args := #[.tmp 6], argTypes := #[47] }, none⟩,
    ⟨some 8, .move (.tmp 1), none⟩,
    ⟨some 9, .call { callee := .builtin .len, args := #[.tmp 8], argTypes := #[47] }, none⟩,
    ⟨some 10, .binOp .neq 3 (.tmp 7) (.tmp 9) 3, none⟩]
@[reducible] def q35_2 : SCode := .region [⟨some 4, .assign (.const (.bool false)), none⟩]
@[reducible] def q35_3 : SCode := .region [⟨some 11, .move (.tmp 0), none⟩,
    ⟨some 12, .call { callee := .builtin .len, args := #[.tmp 11], argTypes := #[47] }, none⟩,
    ⟨some 13, .move (.const (.int .i64 0)), none⟩]
@[reducible] def q35_4 : SCode := .region [⟨some 14, .binOp .lss 3 (.tmp 13) (.tmp 12) 3, none⟩]
@[reducible] def q35_5 : SCode := .region [⟨some 15, .move (.tmp 13), none⟩,
    ⟨some 5, .assign (.tmp 15), none⟩]
def q35_6 : SCode := .draw [⟨some 16, .move (.tmp 0), none⟩,
    ⟨some 17, .move (.tmp 5), none⟩,
    ⟨some 18, .indexAddr 47 (.tmp 16) (.tmp 17), none⟩,
    ⟨some 19, .load 26 (.tmp 18), none⟩,
    ⟨some 20, .move (.tmp 1), none⟩,
    ⟨some 21, .move (.tmp 5), none⟩,
    ⟨some 22, .indexAddr 47 (.tmp 20) (.tmp 21), none⟩,
    ⟨some 23, .load 26 (.tmp 22), none⟩,
    ⟨some 24, .binOp .neq 26 (.tmp 19) (.tmp 23) 26, none⟩]
   [[], [], [0, 1], [2], [], [], [4, 5], [6], [3, 7]]
@[reducible] def q35_7 : SCode := .region [⟨some 4, .assign (.const (.bool false)), none⟩]
@[reducible] def q35_8 : SCode := .region [⟨some 25, .binOp .add 3 (.tmp 13) (.const (.int .i64 1)) 3, none⟩,
    ⟨some 13, .move (.tmp 25), none⟩]
def l35_0 : SCode := (.seq q35_4 (.seq (.cond (.tmp 14) .skip (.exit 0)) (.seq (.block 1 (.seq q35_5 (.seq q35_6 (.cond (.tmp 24) (.seq q35_7 .ret) .skip)))) q35_8)))
@[reducible] def q35_9 : SCode := .region [⟨some 4, .assign (.const (.bool true)), none⟩]
def s35 : SCode := (.seq q35_0 (.seq (.seq q35_1 (.cond (.tmp 10) (.seq q35_2 .ret) .skip)) (.seq (.seq q35_3 (.block 0 (.loop l35_0))) (.seq q35_9 .ret))))
theorem s35_strip : Zw (Zu Try.f35) = s35 := by kernel_rfl
theorem s35_ok : Yi 26 (Zu Try.f35) = true := by kernel_rfl
/-! 101: slices.ContainsFunc[[]planchet api.Frac,planchet api.Frac] -/
@[reducible] def q101_0 : SCode := .region [⟨some 4, .assign (.const (.bool false)), none⟩]
@[reducible] def q101_1 : SCode := .region [⟨some 5, .move (.tmp 0), none⟩,
    ⟨some 6, .move (.tmp 1), none⟩,
    ⟨some 7, .call { callee := .value (.func 116), args := #[.tmp 5, .tmp 6], argTypes := #[47, 35] }, none⟩,
    ⟨some 8, .binOp .geq 3 (.tmp 7) (.const (.int .i64 0)) 3, none⟩,
    ⟨some 4, .assign (.tmp 8), none⟩]
def s101 : SCode := (.seq q101_0 (.seq q101_1 .ret))
theorem s101_strip : Zw (Zu Try.f101) = s101 := by kernel_rfl
theorem s101_ok : Yi 9 (Zu Try.f101) = true := by kernel_rfl
/-! 102: (planchet bets.table).corners$2 -/
@[reducible] def q102_0 : SCode := .region [⟨some 1, .box 26 (.tmp 0), none⟩,
    ⟨some 2, .assign (.const (.bool false)), none⟩]
@[reducible] def q102_1 : SCode := .region [⟨some 3, .fieldAddr 26 (.tmp 1) 0, none⟩,
    ⟨some 4, .load 3 (.tmp 3), none⟩,
    ⟨some 5, .binOp .lss 3 (.tmp 4) (.const (.int .i64 0)) 3, none⟩,
    ⟨some 2, .assign (.tmp 5), none⟩]
def s102 : SCode := (.seq q102_0 (.seq q102_1 .ret))
theorem s102_strip : Zw (Zu Try.f102) = s102 := by kernel_rfl
theorem s102_ok : Yi 6 (Zu Try.f102) = true := by kernel_rfl
end Go.Proofs.Try.Am

namespace Go.Proofs.Try.Am
open Go.Am Bq
set_option maxRecDepth 100000
set_option maxHeartbeats 1000000

/-- The chance of an event, of the first worlds. -/
def inEv (f : Nat → Rat) (evt : Nat) (w : Nat) : Rat := if evt.testBit w then f w else 0
theorem partTo_rp {ps : List (Int × Int)} (c : Chn ps) (evt : Nat) : ∀ k, k ≤ ps.length → Rp (Xd ps) (Xp (Xd ps) ps evt k) (Yd (inEv (fq ps) evt) k)
  | 0, _ => ⟨Nat.pos_of_ne_zero c.m, by simp [Yd, Xp]⟩
  | k + 1, hk => by
    have ih := partTo_rp c evt k (by omega)
    obtain ⟨r, _⟩ := c.rp (Xv (show k < ps.length by omega))
    rw [Xp, Yd, inEv]
    split
    · have := ih.plus r 1
      have e : (((1 : Int)) : Rat) = 1 := rfl
      rw [e, Rat.one_mul, Int.one_mul] at this
      exact this
    · rw [Rat.add_zero, Int.add_zero]; exact ih

theorem litI1 [Tabs prog] {h : Zh} {x : Int} (K : Value → Zh → Prop) : Yp prog h 38 1 [(0, Zd x)] K = K (.slice (some ⟨h.length, 0, none⟩) 1 1) (h ++ [.ints [x] 3 false]) := by
  simp only [Yp, Wb, zero_3, Xt, reps, fillL, mkb, Wr, cellsOf, List.length_singleton, Nat.mul_one, Nat.zero_add]
  exact propext ⟨fun h => h.2.2.2, fun h => ⟨trivial, by decide, by decide, h⟩⟩

theorem take_snoc {α : Type} {l : List α} {k : Nat} {d : α} (hk : k < l.length) : l.take (k + 1) = l.take k ++ [l.getD k d] := by
  rw [List.take_succ, List.getElem?_eq_getElem hk, List.getD, List.getElem?_eq_getElem hk]; rfl

theorem s75_callW [Tabs Try.prog] {args : List Value} {h : Zh} {Q : Value → Zh → Prop} (hsz : args.length ≤ 31) (hk : AWS Try.prog 31 s75 (Zr Try.prog [.tmp 2] Q) (Zt 0 args) h) : ACall Try.prog 75 args h Q :=
  Ym Try.func75 rfl (enters_of Try.func75 (by kernel_rfl) rfl) rfl rfl (by decide) s75_strip s75_ok hsz hk
theorem common_call [Tabs prog] {h : Zh} {v : Value} {ps : List (Int × Int)} (hv : PairSl h v ps) (hl : ps.length < 9223372036854775808) (hx : InR ps) : Yv prog 75 [v] h (.bool (decide (Xd ps ≠ 0) && ps.all fun p => decide (p.1 ≤ p.2))) := by
  refine ACall.forget (Low.bool _) ?_
  refine s75_callW (by simp) ?_
  simp only [s75]
  refine Ze fun N10 hN10 => ?_
  simp (maxSteps := 2000000) only [↓Za, ↓Zb, ↓Zc, vup, cond_false, aop, Zg, Zt, ev, sput, Zf, Nat.reduceBEq]
  refine hN10 [(0, v), (2, .bool false)] _ _ ?_ (by simp (maxSteps := 2000000) only [vup, cond_true, cond_false, Nat.reduceBEq])
  clear hN10
  try clear N10
  refine Ze fun N11 hN11 => ?_
  simp (maxSteps := 2000000) only [↓Za, ↓Zb, ↓Zc, vup, cond_false, aop, Zg, ev, sput, Zf, Nat.reduceBEq]
  refine hN11 [(0, v), (2, .bool false), (3, .int .i64 1)] _ _ ?_ (by simp (maxSteps := 2000000) only [vup, cond_true, cond_false, Nat.reduceBEq])
  clear hN11
  try clear N11
  refine Zk fun M hM => ?_
  refine Ze fun N12 hN12 => ?_
  simp (maxSteps := 2000000) only [↓Za, ↓Zb, ↓Zc, vup, List.map_cons, List.map_nil, cond_true, cond_false, aop, Zg, ev, sput, Zf, Zi, Nat.reduceBEq, tyf, hv.len]
  refine hN12 [(0, v), (2, .bool false), (3, .int .i64 1), (7, v), (8, Zd ps.length), (9, .int .i64 0)] _ _ ?_ (by simp (maxSteps := 2000000) only [vup, cond_true, cond_false, Nat.reduceBEq])
  clear hN12
  try clear N12
  refine Zl ?_
  refine Zm fun Q hQ => ?_
  refine Yh (γ := Nat × Nat × Zh) (fun s => s.1 ≤ ps.length ∧ 0 < s.2.1 ∧ s.2.1 ≤ 10000000000 ∧ mulTo (ps.drop s.1) s.2.1 = Xd ps ∧ (∀ p ∈ ps.take s.1, p.1 ≤ p.2) ∧ Ext (fun _ => False) h s.2.2)
    (fun s => ([(0, v), (2, .bool false), (3, Zd (s.2.1 : Nat)), (7, v), (8, Zd ps.length), (9, Zd (s.1 : Nat))], s.2.2)) (fun s => ps.length - s.1) (0, 1, h) ⟨Nat.zero_le _, Nat.one_pos, (by decide : (1 : Nat) ≤ 10000000000), rfl, by simp, Ext.refl _ _⟩ (by simp (maxSteps := 2000000) only [vup, cond_true, cond_false, Nat.reduceBEq, Int.natCast_zero, Int.natCast_one]) rfl ?_
  rintro ⟨k, m, hp⟩ ⟨hk, hm0, hm, hmul, hall, hE⟩
  simp only at hk hm0 hm hmul hall hE
  refine Zm fun Q2 hQ2 => ?_
  simp only [l75_0]
  by_cases hin : (k : Int) < ps.length
  · have hk' : k < ps.length := by omega
    have hvp := hv.ext hE
    obtain ⟨⟨x, y⟩, hxy⟩ : ∃ p, ps.getD k (0, 0) = p := ⟨_, rfl⟩
    have hmem : (x, y) ∈ ps := hxy ▸ Xv hk'
    have hr := hx _ hmem
    simp only at hr
    have hdr := drop_getD hk'
    rw [hxy] at hdr
    rw [hdr] at hmul
    obtain ⟨H, hH⟩ : ∃ H, H = hp ++ [fC x y] := ⟨_, rfl⟩
    have c5 : H[hp.length]? = some (fC x y) := by rw [hH]; exact Zy _ _
    have hEH : Ext (fun _ => False) h H := by rw [hH]; exact hE.trans (Ext.app _ _ _)
    refine Ze fun N13 hN13 => ?_
    simp (maxSteps := 2000000) only [↓Za, ↓Zb, ↓Zc, vup, cond_true, cond_false, aop, Zg, ev, sput, Zf, Zz, Ya, Nat.reduceBEq, hin]
    refine hN13 [(0, v), (2, .bool false), (3, Zd (m : Nat)), (7, v), (8, Zd ps.length), (9, Zd (k : Nat)), (10, .bool true)] _ _ ?_ (by simp (maxSteps := 2000000) only [vup, cond_true, cond_false, Nat.reduceBEq])
    clear hN13
    try clear N13
    refine Ze fun N14 hN14 => ?_
    simp (maxSteps := 2000000) only [↓Zo, ↓vdn, vup, cond_true, cond_false, Zg, ev, Nat.reduceBEq]
    refine hN14 [(0, v), (2, .bool false), (3, Zd (m : Nat)), (7, v), (8, Zd ps.length), (9, Zd (k : Nat))] _ _ ?_ (by simp (maxSteps := 2000000) only [vup, cond_true, cond_false, Nat.reduceBEq])
    clear hN14
    try clear N14
    refine Zk fun B hB => ?_
    refine Zl ?_
    refine Ze fun N15 hN15 => ?_
    simp (maxSteps := 2000000) only [↓Za, ↓Zb, ↓Zc, vup, cond_true, cond_false, aop, Zg, ev, sput, Zf, Nat.reduceBEq, tyf, hvp.idx Vo Xw hk', hvp.load Wv hk', hxy, Xe, Yr, Xk (Zy hp z0) rfl, Xn]
    rw [← hH]
    refine hN15 [(0, v), (2, .bool false), (3, Zd (m : Nat)), (5, .pointer (some ⟨hp.length, 0, none⟩)), (7, v), (8, Zd ps.length), (9, Zd (k : Nat))] _ _ ?_ (by simp (maxSteps := 2000000) only [vup, cond_true, cond_false, Nat.reduceBEq])
    clear hN15
    try clear N15
    have none0 : (decide (Xd ps ≠ 0) && ps.all fun p => decide (p.1 ≤ p.2)) = false → ∀ e, sget e 2 = .bool false → Q2 .ret e H := by
      intro h0 e he
      refine hQ2 _ _ _ (hQ _ _ _ ?_)
      simp (maxSteps := 2000000) only [Zg, Zn, Zr, Xo, tup, he]
      rw [h0]
      exact ⟨rfl, hEH⟩
    have cc : Yv prog 107 [.agg #[Zd x, Zd y], .int .i64 10000000000] H (.bool (chB 10000000000 (x, y))) := chance_call (by decide)
    refine Zk fun C hC => ?_
    refine Ze fun N16 hN16 => ?_
    simp (maxSteps := 2000000) only [↓Za, ↓Zb, ↓Zc, vup, List.map_cons, List.map_nil, cond_true, cond_false, aop, Zg, ev, sput, Zf, unK, Nat.reduceBEq, Yk, List.nil_append, List.append_nil, Ws c5]
    refine (cc).mono ?_
    rintro _ H2 ⟨rfl, rfl⟩
    refine hN16 [(0, v), (2, .bool false), (3, Zd (m : Nat)), (5, .pointer (some ⟨hp.length, 0, none⟩)), (7, v), (8, Zd ps.length), (9, Zd (k : Nat)), (15, .bool (!chB 10000000000 (x, y)))] _ _ ?_ (by simp (maxSteps := 2000000) only [vup, cond_true, cond_false, Nat.reduceBEq])
    clear hN16
    try clear N16
    refine Zj ?_
    cases hch : chB 10000000000 (x, y) with
    | false =>
      simp (maxSteps := 2000000) only [↓Za, ↓Zs, ↓Zx, ↓Zb, ↓Zc, ↓vdn, vup, cond_true, cond_false, aop, Zg, Zn, ev, sput, Zf, Nat.reduceBEq]
      refine none0 ?_ _ rfl
      rw [chB_okP] at hch
      rcases Bool.and_eq_false_iff.1 hch with h1 | h1
      · rw [← hmul, mulTo_no h1]; rfl
      · have h2 : (ps.all fun p => decide (p.1 ≤ p.2)) = false := by
          rw [List.all_eq_false]; exact ⟨_, hmem, by simpa using h1⟩
        rw [h2, Bool.and_false]
    | true =>
      simp (maxSteps := 2000000) only [↓Zo, ↓vdn, vup, cond_true, cond_false, Zg, ev, Nat.reduceBEq]
      rw [chB_okP, Bool.and_eq_true] at hch
      obtain ⟨hok, hxy1⟩ := hch
      have hxy2 : x ≤ y := by simpa using hxy1
      have hok' := hok
      simp only [okP, Bool.and_eq_true, decide_eq_true_eq] at hok'
      obtain ⟨n, hn⟩ : ∃ n : Nat, y = n := ⟨y.toNat, by omega⟩
      subst hn
      have hn0 : 0 < n := by omega
      have hgp := Nat.gcd_pos_of_pos_left n hm0
      have hg0 : ¬ ((Nat.gcd m n : Nat) : Int) = 0 := by omega
      have q1 := quoD (x := n) (show n < 9223372036854775808 by omega) (Nat.gcd_dvd_right m n)
      have hd0 : 0 < n / Nat.gcd m n := Nat.div_pos (Nat.le_of_dvd hn0 (Nat.gcd_dvd_right _ _)) hgp
      have hd0' : ¬ ((n / Nat.gcd m n : Nat) : Int) = 0 := by omega
      have q2 : quoV .i64 10000000000 ((n / Nat.gcd m n : Nat) : Int) = ((10000000000 / (n / Nat.gcd m n) : Nat) : Int) := by
        generalize n / Nat.gcd m n = d
        have h5 : (10000000000 : Int).tdiv ((d : Nat) : Int) = ((10000000000 / d : Nat) : Int) := by rw [Int.tdiv_eq_ediv_of_nonneg (by omega)]; rfl
        have h6 := Nat.div_le_self 10000000000 d
        rw [quoV, h5]
        generalize 10000000000 / d = z at h6 ⊢
        exact wrap_id (by omega) (by omega)
      have el : Nat.lcm m n = m * (n / Nat.gcd m n) := by rw [Nat.lcm, Nat.mul_div_assoc _ (Nat.gcd_dvd_right _ _)]
      have hgt := lcm_gt' hm0 hn0
      have gc : Yv prog 88 [Zd (m : Nat), Zd (n : Nat)] H2 _ := gcd_call (a := (m : Int)) (b := (n : Int)) (.inl (by omega)) (by omega)
      rw [Int.natAbs_natCast, Int.natAbs_natCast] at gc
      rw [mulTo] at hmul
      refine hC [(0, v), (2, .bool false), (3, Zd (m : Nat)), (5, .pointer (some ⟨hp.length, 0, none⟩)), (7, v), (8, Zd ps.length), (9, Zd (k : Nat))] _ _ ?_ (by simp (maxSteps := 2000000) only [vup, cond_true, cond_false, Nat.reduceBEq])
      clear hC
      try clear C
      refine Ze fun N17 hN17 => ?_
      simp only [q75_7]
      refine Yo [(5, 1)] (by kernel_rfl) (by kernel_rfl) (by kernel_rfl) (by kernel_rfl) ?_
      simp (maxSteps := 2000000) only [↓Zp, ↓vdn, vup, List.map_cons, List.map_nil, cond_true, cond_false, aop, Zg, ev, sput, Zf, Zz, Ya, Nat.reduceBEq, Nat.reduceAdd, tyf, fA1, Xu c5, Yk, List.nil_append, List.append_nil]
      refine ⟨_, _, gc, rfl, ?_⟩
      simp (maxSteps := 2000000) only [vup, ne_eq, hg0, not_false_eq_true, q1]
      refine hN17 [(0, v), (2, .bool false), (3, Zd (m : Nat)), (5, .pointer (some ⟨hp.length, 0, none⟩)), (6, Zd (n / Nat.gcd m n : Nat)), (7, v), (8, Zd ps.length), (9, Zd (k : Nat))] _ _ ?_ (by simp (maxSteps := 2000000) only [vup, cond_true, cond_false, Nat.reduceBEq])
      clear hN17
      try clear N17
      refine Ze fun N18 hN18 => ?_
      by_cases hbig : 10000000000 < Nat.lcm m n
      · have hb2 : (m : Int) > ((10000000000 / (n / Nat.gcd m n) : Nat) : Int) := by have := hgt.2 hbig; omega
        rw [if_neg (by rw [Int.natAbs_natCast]; omega)] at hmul
        simp (maxSteps := 2000000) only [↓Za, ↓Zs, ↓Zx, ↓Zb, ↓Zc, ↓vdn, vup, cond_true, cond_false, aop, Zg, Zn, ev, sput, Zf, Zz, Ya, Nat.reduceBEq, ne_eq, hd0', not_false_eq_true, q2, hb2]
        exact none0 (by rw [← hmul]; rfl) _ rfl
      · have hb2 : ¬ (m : Int) > ((10000000000 / (n / Nat.gcd m n) : Nat) : Int) := by
          intro hc
          exact hbig (hgt.1 (by omega))
        rw [if_pos ⟨hok, by rw [Int.natAbs_natCast]; omega⟩, Int.natAbs_natCast] at hmul
        have m1 : mulV .i64 (m : Int) ((n / Nat.gcd m n : Nat) : Int) = ((Nat.lcm m n : Nat) : Int) := by
          rw [mulN (by rw [← Int.natCast_mul, ← el]; omega), el, Int.natCast_mul]
        simp (maxSteps := 2000000) only [↓Za, ↓Zo, ↓Zs, ↓Zb, ↓Zc, ↓vdn, vup, cond_true, cond_false, aop, Zg, ev, sput, Zf, Zz, Ya, Nat.reduceBEq, ne_eq, hd0', not_false_eq_true, q2, hb2]
        refine hN18 [(0, v), (2, .bool false), (3, Zd (m : Nat)), (5, .pointer (some ⟨hp.length, 0, none⟩)), (6, Zd (n / Nat.gcd m n : Nat)), (7, v), (8, Zd ps.length), (9, Zd (k : Nat))] _ _ ?_ (by simp (maxSteps := 2000000) only [vup, cond_true, cond_false, Nat.reduceBEq])
        clear hN18
        try clear N18
        refine Zj ?_
        simp (maxSteps := 2000000) only [↓Za, ↓Zb, ↓Zc, vup, cond_true, cond_false, aop, Zg, Zn, ev, sput, Zf, Zz, Ya, Nat.reduceBEq, m1]
        refine hB [(0, v), (2, .bool false), (3, Zd (Nat.lcm m n : Nat)), (6, Zd (n / Nat.gcd m n : Nat)), (7, v), (8, Zd ps.length), (9, Zd (k : Nat))] _ _ ?_ (by simp (maxSteps := 2000000) only [vup, cond_true, cond_false, Nat.reduceBEq])
        clear hB
        try clear B
        refine Zj ?_
        simp (maxSteps := 2000000) only [↓Za, ↓Zb, ↓Zc, vup, cond_true, cond_false, aop, ev, sput, Zf, Zz, Ya, Nat.reduceBEq, add1 (show k < 9223372036854775807 by omega)]
        refine hQ2 _ _ _ ⟨(k + 1, Nat.lcm m n, H2), ⟨hk', Nat.lcm_pos hm0 hn0, by simp only; omega, hmul, ?_, hEH⟩, by simp only; omega, by simp (maxSteps := 2000000) only [vup, cond_true, cond_false, Nat.reduceBEq], rfl⟩
        intro p hp'
        simp only [take_snoc (d := ((0, 0) : Int × Int)) hk', hxy] at hp'
        rcases List.mem_append.1 hp' with h3 | h3
        · exact hall p h3
        · simp at h3; subst h3; simp only; omega
  · obtain rfl : k = ps.length := by omega
    rw [List.drop_length, mulTo] at hmul
    rw [List.take_length] at hall
    refine Ze fun N19 hN19 => ?_
    simp (maxSteps := 2000000) only [↓Za, ↓Zb, ↓Zc, vup, cond_true, cond_false, aop, Zg, ev, sput, Zf, Zz, Ya, Nat.reduceBEq, hin]
    refine hN19 [(0, v), (2, .bool false), (3, Zd (m : Nat)), (7, v), (8, Zd ps.length), (9, Zd ps.length), (10, .bool false)] _ _ ?_ (by simp (maxSteps := 2000000) only [vup, cond_true, cond_false, Nat.reduceBEq])
    clear hN19
    try clear N19
    refine Ze fun N20 hN20 => ?_
    simp (maxSteps := 2000000) only [↓Yn, ↓vdn, vup, cond_true, cond_false, Zg, ev, Nat.reduceBEq]
    refine hQ2 _ _ _ (hQ _ _ _ ?_)
    simp (maxSteps := 2000000) only [Zg, Zn, Zr, if_true]
    refine hM [(0, v), (2, .bool false), (3, Zd (m : Nat)), (7, v), (8, Zd ps.length), (9, Zd ps.length), (10, .bool false)] _ _ ?_ (by simp (maxSteps := 2000000) only [vup, cond_true, cond_false, Nat.reduceBEq])
    clear hM
    try clear M
    refine Zj ?_
    simp (maxSteps := 2000000) only [↓Za, ↓Zs, ↓Zx, ↓Zb, ↓Zc, vup, cond_true, cond_false, aop, Zg, ev, sput, Zf, Nat.reduceBEq, Zr, Xo, tup]
    refine ⟨?_, hE⟩
    have h2 : (ps.all fun p => decide (p.1 ≤ p.2)) = true := by
      rw [List.all_eq_true]; exact fun p hp => by simp [hall p hp]
    rw [h2, ← hmul]
    simp; omega
end Go.Proofs.Try.Am

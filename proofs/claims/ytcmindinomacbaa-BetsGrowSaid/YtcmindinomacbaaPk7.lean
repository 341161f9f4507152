/-
  bets: the library's stable sort of a short slice of the first numbers, by a function.
  bets: Grow: the order, the choice.
  bets: least and greatest.
  bets: fractions: sums, products, quotients.
  bets: fractions: the reference's arithmetic; a fraction's checks.
  Printed by gen.py: the code of some functions, without what no step looks at; held against the program's own by the kernel.
  bets: the common multiple of fractions.
  Printed by gen.py: the code of some functions, without what no step looks at; held against the program's own by the kernel.
  bets: chances: their checks, sums over an event, parts.
  Printed by gen.py: the code of some functions, without what no step looks at; held against the program's own by the kernel.
  Printed by gen.py: the code of some functions, without what no step looks at; held against the program's own by the kernel.
  bets: parts as numbers; a slice of parts; the program's checks of chances; the chance of an event.
  bets: the program's forecasts: checks over all elements, the chance of an event.
  bets: forecasts, in the program and in the reference.
-/
import Derived.Test.YtcmindinomacbaaPk6
import Derived.Test.YtcmindinomacbaaPk5
import Derived.Test.YtcmindinomacbaaPk3
import Derived.Test.YtcmindinomacbaaProg
import Derived.KernelRfl
import Derived.Shelf.Abstract
set_option linter.all false
namespace Go.Proofs.Try.Am
open Go.Am
set_option maxRecDepth 100000
set_option maxHeartbeats 1000000
abbrev iL (L : List Nat) : List Int := L.map Int.ofNat
theorem iL_len (L : List Nat) : (iL L).length = L.length := List.length_map _
theorem iL_get (L : List Nat) (i : Nat) : (iL L).getD i 0 = ((L.getD i 0 : Nat) : Int) := by
  simp only [List.getD, List.getElem?_map]; cases L[i]? <;> rfl
theorem iL_set (L : List Nat) (i x : Nat) : (iL L).set i ((x : Nat) : Int) = iL (L.set i x) := by rw [iL, iL, List.map_set]; rfl
theorem getD_setN {L : List Nat} {i x : Nat} (h : i < L.length) (t : Nat) : (L.set i x).getD t 0 = if t = i then x else L.getD t 0 := by
  by_cases hti : t = i
  · subst hti; rw [if_pos rfl, List.getD, List.getElem?_set_self h]; rfl
  · rw [if_neg hti, List.getD, List.getD, List.getElem?_set_ne (Ne.symm hti)]
def swL (L : List Nat) (j : Nat) : List Nat := (L.set j (L.getD (j - 1) 0)).set (j - 1) (L.getD j 0)
theorem swL_get {L : List Nat} {j : Nat} (h1 : 1 ≤ j) (h2 : j < L.length) (t : Nat) : (swL L j).getD t 0 = if t = j - 1 then L.getD j 0 else if t = j then L.getD (j - 1) 0 else L.getD t 0 := by
  rw [swL, getD_setN (by rw [List.length_set]; omega), getD_setN h2]
theorem swL_perm {L : List Nat} {j : Nat} (h1 : 1 ≤ j) (h2 : j < L.length) : (swL L j).Perm L := by
  have := Array.swap_perm (xs := L.toArray) (i := j) (j := j - 1) (by simpa using h2) (by simp; omega)
  rw [Array.perm_iff_toList_perm, Array.toList_swap] at this
  simpa [swL, List.getD, List.getElem?_eq_getElem h2, List.getElem?_eq_getElem (show j - 1 < L.length by omega)] using this

section
variable {key : Nat → Int}
/-- The first i are sorted. -/
def SrtTo (key : Nat → Int) (L : List Nat) (i : Nat) : Prop := ∀ p q, p < q → q < i → key (L.getD p 0) ≤ key (L.getD q 0)
/-- The first i + 1 are sorted but for the one at j. -/
def SrtBut (key : Nat → Int) (L : List Nat) (i j : Nat) : Prop := ∀ p q, p < q → q ≤ i → q ≠ j → key (L.getD p 0) ≤ key (L.getD q 0)
theorem SrtBut.step {L : List Nat} {i j : Nat} (h : SrtBut key L i j) (h1 : 1 ≤ j) (h2 : j < L.length) (hj : j ≤ i) (hlt : key (L.getD j 0) < key (L.getD (j - 1) 0)) : SrtBut key (swL L j) i (j - 1) := by
  intro p q hpq hq hne
  rw [swL_get h1 h2, swL_get h1 h2, if_neg hne]
  by_cases hqj : q = j
  · rw [if_pos hqj]
    by_cases hp : p = j - 1
    · rw [if_pos hp]; omega
    · rw [if_neg hp, if_neg (by omega)]
      exact h p (j - 1) (by omega) (by omega) (by omega)
  · rw [if_neg hqj]
    by_cases hp : p = j - 1
    · rw [if_pos hp]; exact h j q (by omega) hq hqj
    · rw [if_neg hp]
      by_cases hpj : p = j
      · rw [if_pos hpj]; exact h (j - 1) q (by omega) hq hqj
      · rw [if_neg hpj]; exact h p q hpq hq hqj
theorem SrtBut.done {L : List Nat} {i j : Nat} (h : SrtBut key L i j) (hj : j = 0 ∨ key (L.getD (j - 1) 0) ≤ key (L.getD j 0)) : SrtTo key L (i + 1) := by
  intro p q hpq hq
  by_cases hqj : q = j
  · subst hqj
    rcases hj with hj | hj
    · omega
    · by_cases hp : p = q - 1
      · subst hp; exact hj
      · exact Int.le_trans (h p (q - 1) (by omega) (by omega) (by omega)) hj
  · exact h p q hpq (by omega) hqj
theorem SrtTo.pw {L : List Nat} (h : SrtTo key L L.length) : L.Pairwise fun a b => key a ≤ key b := by
  rw [List.pairwise_iff_getElem]
  intro i j hi hj hij
  have := h i j hij hj
  rw [List.getD, List.getD, List.getElem?_eq_getElem hi, List.getElem?_eq_getElem hj] at this
  exact this
end
theorem subN1 {n : Nat} (h1 : 1 ≤ n) (h : n < 9223372036854775808) : subV .i64 (n : Int) 1 = ((n - 1 : Nat) : Int) := by rw [subV_id (by omega) (by omega)]; omega
/-- A slice in a block of its own. -/
abbrev ov (b n m : Nat) : Value := .slice (some ⟨b, 0, some 0⟩) n (n + m)
theorem ov_own {h : Yc} {b n : Nat} {L : List Nat} {ys : List Int} (hb : b < h.length) (hn : L.length = n) : OwnSl 3 (h.set b (.ints (iL L ++ ys) 3 false)) (ov b n ys.length) (iL L) :=
  .inr ⟨b, ys, by rw [iL_len, hn], Xq hb _⟩
theorem elemP_ov (b n m i : Nat) : Vi (ov b n m) 1 i = .pointer (some ⟨b, i, none⟩) := by simp [Vi]
theorem ov_load {h : Yc} {b n : Nat} {L : List Nat} {ys : List Int} {i : Nat} (hb : b < h.length) (hn : L.length = n) (hi : i < n) {K : Value → Prop} :
    Xy prog (h.set b (.ints (iL L ++ ys) 3 false)) 3 (.pointer (some ⟨b, i, none⟩)) K = K (Zx (L.getD i 0 : Nat)) := by
  have := (ov_own (h := h) (b := b) (n := n) (L := L) (ys := ys) hb hn).int.load Xl (i := i) (by rw [iL_len]; omega) K
  rw [elemP_ov, iL_get] at this
  exact this
theorem ov_store {h : Yc} {b : Nat} {L : List Nat} {ys : List Int} {i x : Nat} (hb : b < h.length) (hi : i < L.length) {K : Yc → Prop} :
    Xj prog (h.set b (.ints (iL L ++ ys) 3 false)) 3 (.pointer (some ⟨b, i, none⟩)) (Zx (x : Nat)) K = K (h.set b (.ints (iL (L.set i x) ++ ys) 3 false)) := by
  rw [storeBI (Xq hb _) Xl (by rw [List.length_append, iL_len]; omega), List.set_set, List.set_append_left _ _ (by rw [iL_len]; exact hi), iL_set]

theorem s120_callW [Tabs Try.prog] {args : List Value} {h : Yc} {Q : Value → Yc → Prop} (hsz : args.length ≤ 53) (hk : AWS Try.prog 53 s120 (Zu Try.prog [] Q) (Zp 0 args) h) : ACall Try.prog 120 args h Q :=
  Yx Try.func120 rfl (enters_of Try.func120 (by kernel_rfl) rfl) rfl rfl (by decide) s120_strip s120_ok hsz hk
theorem isortF_call [Tabs prog] {h : Yc} {b : Nat} {L0 : List Nat} {ys : List Int} {g : FuncId} {cap : Array Value} {key : Nat → Int} {cmp : Nat → Nat → Int} {n0 : Nat} (hL0 : L0 = List.range n0) (hinj : ∀ x y, x < 12 → y < x → (cmp x y < 0 ↔ key x < key y)) (hc : ∀ L x y, x ∈ L0 → y ∈ L0 → Xa prog g ([Zx x, Zx y] ++ cap.toList) (h.set b (.ints (iL L ++ ys) 3 false)) (Zx (cmp x y))) (hb : h[b]? = some (.ints (iL L0 ++ ys) 3 false)) (hl : L0.length ≤ 12) (hx : ∀ x ∈ L0, x < 4611686018427387904) :
    ACall prog 120 [ov b L0.length ys.length, .int .i64 0, Zx L0.length, .func (.func g) #[] cap] h fun _ h' => ∃ L : List Nat, L.Perm L0 ∧ L.Pairwise (fun a b => key a ≤ key b) ∧ h' = h.set b (.ints (iL L ++ ys) 3 false) := by
  have hlt := Yp hb
  have h0 : h = h.set b (.ints (iL L0 ++ ys) 3 false) := by
    apply List.ext_getElem?
    intro i
    by_cases hi : b = i
    · subst hi; rw [Xq hlt, hb]
    · rw [List.getElem?_set_ne hi]
  obtain ⟨n, hn⟩ : ∃ n, L0.length = n := ⟨_, rfl⟩
  rw [hn] at hl ⊢
  have hrange : ∀ {L : List Nat}, L.Perm L0 → ∀ i, L.getD i 0 < 4611686018427387904 := fun {L} hp i => by
    by_cases hi : i < L.length
    · rw [List.getD, List.getElem?_eq_getElem hi]; exact hx _ (hp.mem_iff.1 (List.getElem_mem hi))
    · rw [List.getD, List.getElem?_eq_none (by omega)]; decide
  refine s120_callW (by simp) ?_
  simp only [s120]
  have e01 : addV .i64 0 1 = 1 := rfl
  have hst1 : ∀ q, q < 1 → L0.getD q 0 < 1 := fun q hq => by
    obtain rfl : q = 0 := by omega
    rw [hL0]
    cases n0 with
    | zero => decide
    | succ m => rw [List.getD, List.getElem?_range (Nat.succ_pos m)]; decide
  have hst2 : ∀ q, 1 ≤ q → q < n → L0.getD q 0 = q := fun q _ hq => by
    rw [← hn, hL0, List.length_range] at hq
    rw [hL0, List.getD, List.getElem?_range hq]; rfl
  refine Zy fun N1 hN1 => ?_
  simp (maxSteps := 2000000) only [s120, ↓Za, ↓Zo, ↓Zr, ↓Ze, ↓Zi, ↓Zs, ↓Zf, ↓Zl, ↓Zg, ↓Zc, ↓Zb, ↓vdn, vup, Zh, Zk, Zm, Zn, Zj, List.map_cons, List.map_nil, cond_true, cond_false, aop, Zv, Zq, Zp, ev, sput, Zt, Zz, Yb, unK, Zd, Zw, Nat.reduceBEq, Nat.reduceAdd, Int.reduceBEq, Int.reduceBNe, Int.reduceLT, Zu, Ya, tup, tyf, e01]
  refine hN1 [(0, ov b n ys.length), (1, .int .i64 0), (2, Zx n), (3, .func (.func g) #[] cap), (8, .int .i64 1)] _ _ ?_ (by simp (maxSteps := 2000000) only [↓Za, ↓Zo, ↓Zr, ↓Ze, ↓Zi, ↓Zs, ↓Zf, ↓Zl, ↓Zg, ↓Zc, ↓Zb, ↓vdn, vup, Zh, Zk, Zm, Zn, Zj, List.map_cons, List.map_nil, cond_true, cond_false, aop, Zv, Zq, Zp, ev, sput, Zt, Zz, Yb, unK, Zd, Zw, Nat.reduceBEq, Nat.reduceAdd, Int.reduceBEq, Int.reduceBNe, Int.reduceLT, Zu, Ya, tup, tyf])
  clear hN1
  try clear N1
  refine Yf ?_
  refine Yh fun Q hQ => ?_
  refine Yv (γ := Nat × List Nat) (fun s => 1 ≤ s.1 ∧ (s.1 ≤ n ∨ s.1 = 1) ∧ s.2.Perm L0 ∧ SrtTo key s.2 s.1 ∧ (∀ q, q < s.1 → s.2.getD q 0 < s.1) ∧ ∀ q, s.1 ≤ q → q < n → s.2.getD q 0 = q)
    (fun s => ([(0, ov b n ys.length), (1, .int .i64 0), (2, Zx n), (3, .func (.func g) #[] cap), (8, Zx s.1)], h.set b (.ints (iL s.2 ++ ys) 3 false))) (fun s => n - s.1) (1, L0) ⟨Nat.le_refl _, .inr rfl, .refl _, fun p q _ _ => by omega, hst1, hst2⟩ (by simp (maxSteps := 2000000) only [↓Za, ↓Zo, ↓Zr, ↓Ze, ↓Zi, ↓Zs, ↓Zf, ↓Zl, ↓Zg, ↓Zc, ↓Zb, ↓vdn, vup, Zh, Zk, Zm, Zn, Zj, List.map_cons, List.map_nil, cond_true, cond_false, aop, Zv, Zq, Zp, ev, sput, Zt, Zz, Yb, unK, Zd, Zw, Nat.reduceBEq, Nat.reduceAdd, Int.reduceBEq, Int.reduceBNe, Int.reduceLT, Zu, Ya, tup, tyf, Int.natCast_one]) h0 ?_
  rintro ⟨i, L⟩ ⟨hi1, hi, hp, hs, hb1, hb2⟩
  simp only at hi1 hi hp hs hb1 hb2
  have hLn : L.length = n := hp.length_eq.trans hn
  refine Yh fun Q2 hQ2 => ?_
  simp only [l120_1]
  by_cases hin : (i : Int) < n
  · have hi' : i < n := by omega
    refine Zy fun N2 hN2 => ?_
    simp (maxSteps := 2000000) only [s120, ↓Za, ↓Zo, ↓Zr, ↓Ze, ↓Zi, ↓Zs, ↓Zf, ↓Zl, ↓Zg, ↓Zc, ↓Zb, ↓vdn, vup, Zh, Zk, Zm, Zn, Zj, List.map_cons, List.map_nil, cond_true, cond_false, aop, Zv, Zq, Zp, ev, sput, Zt, Zz, Yb, unK, Zd, Zw, Nat.reduceBEq, Nat.reduceAdd, Int.reduceBEq, Int.reduceBNe, Int.reduceLT, Zu, Ya, tup, tyf, hin]
    refine hN2 [(0, ov b n ys.length), (1, .int .i64 0), (2, Zx n), (3, .func (.func g) #[] cap), (8, Zx i)] _ _ ?_ (by simp (maxSteps := 2000000) only [↓Za, ↓Zo, ↓Zr, ↓Ze, ↓Zi, ↓Zs, ↓Zf, ↓Zl, ↓Zg, ↓Zc, ↓Zb, ↓vdn, vup, Zh, Zk, Zm, Zn, Zj, List.map_cons, List.map_nil, cond_true, cond_false, aop, Zv, Zq, Zp, ev, sput, Zt, Zz, Yb, unK, Zd, Zw, Nat.reduceBEq, Nat.reduceAdd, Int.reduceBEq, Int.reduceBNe, Int.reduceLT, Zu, Ya, tup, tyf])
    clear hN2
    try clear N2
    refine Ye fun M hM => ?_
    refine Yf ?_
    refine Zy fun N3 hN3 => ?_
    simp (maxSteps := 2000000) only [s120, ↓Za, ↓Zo, ↓Zr, ↓Ze, ↓Zi, ↓Zs, ↓Zf, ↓Zl, ↓Zg, ↓Zc, ↓Zb, ↓vdn, vup, Zh, Zk, Zm, Zn, Zj, List.map_cons, List.map_nil, cond_true, cond_false, aop, Zv, Zq, Zp, ev, sput, Zt, Zz, Yb, unK, Zd, Zw, Nat.reduceBEq, Nat.reduceAdd, Int.reduceBEq, Int.reduceBNe, Int.reduceLT, Zu, Ya, tup, tyf]
    refine hN3 [(0, ov b n ys.length), (1, .int .i64 0), (2, Zx n), (3, .func (.func g) #[] cap), (8, Zx i), (9, Zx i)] _ _ ?_ (by simp (maxSteps := 2000000) only [↓Za, ↓Zo, ↓Zr, ↓Ze, ↓Zi, ↓Zs, ↓Zf, ↓Zl, ↓Zg, ↓Zc, ↓Zb, ↓vdn, vup, Zh, Zk, Zm, Zn, Zj, List.map_cons, List.map_nil, cond_true, cond_false, aop, Zv, Zq, Zp, ev, sput, Zt, Zz, Yb, unK, Zd, Zw, Nat.reduceBEq, Nat.reduceAdd, Int.reduceBEq, Int.reduceBNe, Int.reduceLT, Zu, Ya, tup, tyf])
    clear hN3
    try clear N3
    refine Yf ?_
    refine Yh fun Q3 hQ3 => ?_
    refine Yv (γ := Nat × List Nat) (fun s => s.1 ≤ i ∧ s.2.Perm L0 ∧ SrtBut key s.2 i s.1 ∧ s.2.getD s.1 0 = i ∧ (∀ q, q ≤ i → q ≠ s.1 → s.2.getD q 0 < i) ∧ ∀ q, i < q → q < n → s.2.getD q 0 = q)
      (fun s => ([(0, ov b n ys.length), (1, .int .i64 0), (2, Zx n), (3, .func (.func g) #[] cap), (8, Zx i), (9, Zx s.1)], h.set b (.ints (iL s.2 ++ ys) 3 false))) (fun s => s.1) (i, L) ⟨Nat.le_refl _, hp, fun p q h1 h2 h3 => hs p q h1 (by omega), hb2 i (Nat.le_refl _) hi', fun q hq hne => hb1 q (by omega), fun q hq hqn => hb2 q (by omega) hqn⟩ (by simp (maxSteps := 2000000) only [↓Za, ↓Zo, ↓Zr, ↓Ze, ↓Zi, ↓Zs, ↓Zf, ↓Zl, ↓Zg, ↓Zc, ↓Zb, ↓vdn, vup, Zh, Zk, Zm, Zn, Zj, List.map_cons, List.map_nil, cond_true, cond_false, aop, Zv, Zq, Zp, ev, sput, Zt, Zz, Yb, unK, Zd, Zw, Nat.reduceBEq, Nat.reduceAdd, Int.reduceBEq, Int.reduceBNe, Int.reduceLT, Zu, Ya, tup, tyf]) rfl ?_
    clear hp hs hLn hb1 hb2
    rintro ⟨j, L⟩ ⟨hj, hp, hs, hji, hb1, hb2⟩
    simp only at hj hp hs hji hb1 hb2
    have hLn : L.length = n := hp.length_eq.trans hn
    have own := ov_own (h := h) (b := b) (n := n) (L := L) (ys := ys) hlt hLn
    refine Yh fun Q4 hQ4 => ?_
    simp only [l120_0]
    have fin : (j = 0 ∨ key (L.getD (j - 1) 0) ≤ key (L.getD j 0)) → ∀ e, ELe e [(0, ov b n ys.length), (1, .int .i64 0), (2, Zx n), (3, .func (.func g) #[] cap), (8, Zx i)] → M e (h.set b (.ints (iL L ++ ys) 3 false)) := by
      intro hd e he
      refine hM [(0, ov b n ys.length), (1, .int .i64 0), (2, Zx n), (3, .func (.func g) #[] cap), (8, Zx i)] _ _ ?_ he
      refine Yd ?_
      simp (maxSteps := 2000000) only [s120, ↓Za, ↓Zo, ↓Zr, ↓Ze, ↓Zi, ↓Zs, ↓Zf, ↓Zl, ↓Zg, ↓Zc, ↓Zb, ↓vdn, vup, Zh, Zk, Zm, Zn, Zj, List.map_cons, List.map_nil, cond_true, cond_false, aop, Zv, Zq, Zp, ev, sput, Zt, Zz, Yb, unK, Zd, Zw, Nat.reduceBEq, Nat.reduceAdd, Int.reduceBEq, Int.reduceBNe, Int.reduceLT, Zu, Ya, tup, tyf, add1 (show i < 9223372036854775807 by omega)]
      have hd1 : ∀ q, q < i + 1 → L.getD q 0 < i + 1 := fun q hq => by
        by_cases hqj : q = j
        · subst hqj; omega
        · have := hb1 q (by omega) hqj; omega
      exact hQ2 _ _ _ ⟨(i + 1, L), ⟨by simp only; omega, .inl (by simp only; omega), hp, hs.done hd, hd1, fun q hq hqn => hb2 q hq hqn⟩, by simp only; omega, by simp (maxSteps := 2000000) only [↓Za, ↓Zo, ↓Zr, ↓Ze, ↓Zi, ↓Zs, ↓Zf, ↓Zl, ↓Zg, ↓Zc, ↓Zb, ↓vdn, vup, Zh, Zk, Zm, Zn, Zj, List.map_cons, List.map_nil, cond_true, cond_false, aop, Zv, Zq, Zp, ev, sput, Zt, Zz, Yb, unK, Zd, Zw, Nat.reduceBEq, Nat.reduceAdd, Int.reduceBEq, Int.reduceBNe, Int.reduceLT, Zu, Ya, tup, tyf], rfl⟩
    by_cases hj0 : j = 0
    · subst hj0
      refine Zy fun N4 hN4 => ?_
      simp (maxSteps := 2000000) only [s120, ↓Za, ↓Zo, ↓Zr, ↓Ze, ↓Zi, ↓Zs, ↓Zf, ↓Zl, ↓Zg, ↓Zc, ↓Zb, ↓vdn, vup, Zh, Zk, Zm, Zn, Zj, List.map_cons, List.map_nil, cond_true, cond_false, aop, Zv, Zq, Zp, ev, sput, Zt, Zz, Yb, unK, Zd, Zw, Nat.reduceBEq, Nat.reduceAdd, Int.reduceBEq, Int.reduceBNe, Int.reduceLT, Zu, Ya, tup, tyf]
      refine Xd [(14, 1)] (by kernel_rfl) (by kernel_rfl) (by kernel_rfl) (by kernel_rfl) ?_
      simp (maxSteps := 2000000) only [s120, ↓Za, ↓Zo, ↓Zr, ↓Ze, ↓Zi, ↓Zs, ↓Zf, ↓Zl, ↓Zg, ↓Zc, ↓Zb, ↓vdn, vup, Zh, Zk, Zm, Zn, Zj, List.map_cons, List.map_nil, cond_true, cond_false, aop, Zv, Zq, Zp, ev, sput, Zt, Zz, Yb, unK, Zd, Zw, Nat.reduceBEq, Nat.reduceAdd, Int.reduceBEq, Int.reduceBNe, Int.reduceLT, Zu, Ya, tup, tyf, gt_iff_lt, Int.natCast_zero, Int.lt_irrefl]
      refine hQ4 _ _ _ (hQ3 _ _ _ ?_)
      simp (maxSteps := 2000000) only [s120, ↓Za, ↓Zo, ↓Zr, ↓Ze, ↓Zi, ↓Zs, ↓Zf, ↓Zl, ↓Zg, ↓Zc, ↓Zb, ↓vdn, vup, Zh, Zk, Zm, Zn, Zj, List.map_cons, List.map_nil, cond_true, cond_false, aop, Zv, Zq, Zp, ev, sput, Zt, Zz, Yb, unK, Zd, Zw, Nat.reduceBEq, Nat.reduceAdd, Int.reduceBEq, Int.reduceBNe, Int.reduceLT, Zu, Ya, tup, tyf, if_true]
      exact fin (.inl rfl) _ (by simp (maxSteps := 2000000) only [↓Za, ↓Zo, ↓Zr, ↓Ze, ↓Zi, ↓Zs, ↓Zf, ↓Zl, ↓Zg, ↓Zc, ↓Zb, ↓vdn, vup, Zh, Zk, Zm, Zn, Zj, List.map_cons, List.map_nil, cond_true, cond_false, aop, Zv, Zq, Zp, ev, sput, Zt, Zz, Yb, unK, Zd, Zw, Nat.reduceBEq, Nat.reduceAdd, Int.reduceBEq, Int.reduceBNe, Int.reduceLT, Zu, Ya, tup, tyf])
    · have hjp : (0 : Int) < (j : Int) := by omega
      have hjn : j < (iL L).length := by rw [iL_len]; omega
      have hj1n : j - 1 < (iL L).length := by omega
      have hin1 : ∀ i, i < n → L.getD i 0 ∈ L0 := fun i hi => hp.mem_iff.1 (by rw [List.getD, List.getElem?_eq_getElem (by omega), Option.getD_some]; exact List.getElem_mem _)
      have c1 := hc L _ _ (hin1 j (by omega)) (hin1 (j - 1) (by omega))
      have hlt1 := hb1 (j - 1) (by omega) (by omega)
      have hiff := hinj (L.getD j 0) (L.getD (j - 1) 0) (by omega) (by omega)
      have hsub := subN1 (show 1 ≤ j by omega) (show j < 9223372036854775808 by omega)
      by_cases hlt2 : key (L.getD j 0) < key (L.getD (j - 1) 0)
      · have hneg : cmp (L.getD j 0) (L.getD (j - 1) 0) < 0 := hiff.2 hlt2
        refine Zy fun N5 hN5 => ?_
        simp (maxSteps := 2000000) only [s120, ↓Za, ↓Zo, ↓Zr, ↓Ze, ↓Zi, ↓Zs, ↓Zf, ↓Zl, ↓Zg, ↓Zc, ↓Zb, ↓vdn, vup, Zh, Zk, Zm, Zn, Zj, List.map_cons, List.map_nil, cond_true, cond_false, aop, Zv, Zq, Zp, ev, sput, Zt, Zz, Yb, unK, Zd, Zw, Nat.reduceBEq, Nat.reduceAdd, Int.reduceBEq, Int.reduceBNe, Int.reduceLT, Zu, Ya, tup, tyf]
        refine Xd [(14, 1)] (by kernel_rfl) (by kernel_rfl) (by kernel_rfl) (by kernel_rfl) ?_
        simp (maxSteps := 2000000) only [s120, ↓Za, ↓Zo, ↓Zr, ↓Ze, ↓Zi, ↓Zs, ↓Zf, ↓Zl, ↓Zg, ↓Zc, ↓Zb, ↓vdn, vup, Zh, Zk, Zm, Zn, Zj, List.map_cons, List.map_nil, cond_true, cond_false, aop, Zv, Zq, Zp, ev, sput, Zt, Zz, Yb, unK, Zd, Zw, Nat.reduceBEq, Nat.reduceAdd, Int.reduceBEq, Int.reduceBNe, Int.reduceLT, Zu, Ya, tup, tyf, gt_iff_lt, hjp, hsub, own.int.idx Xu Xp hjn, own.int.load Xl hjn, own.int.idx Xu Xp hj1n, own.int.load Xl hj1n, iL_get, Yr, List.nil_append, List.append_nil, List.toList_toArray, List.cons_append]
        refine ⟨_, _, c1, rfl, ?_⟩
        simp (maxSteps := 2000000) only [s120, ↓Za, ↓Zo, ↓Zr, ↓Ze, ↓Zi, ↓Zs, ↓Zf, ↓Zl, ↓Zg, ↓Zc, ↓Zb, ↓vdn, vup, Zh, Zk, Zm, Zn, Zj, List.map_cons, List.map_nil, cond_true, cond_false, aop, Zv, Zq, Zp, ev, sput, Zt, Zz, Yb, unK, Zd, Zw, Nat.reduceBEq, Nat.reduceAdd, Int.reduceBEq, Int.reduceBNe, Int.reduceLT, Zu, Ya, tup, tyf, hneg, decide_true, decide_false]
        refine hN5 [(0, ov b n ys.length), (1, .int .i64 0), (2, Zx n), (3, .func (.func g) #[] cap), (8, Zx i), (9, Zx j)] _ _ ?_ (by simp (maxSteps := 2000000) only [↓Za, ↓Zo, ↓Zr, ↓Ze, ↓Zi, ↓Zs, ↓Zf, ↓Zl, ↓Zg, ↓Zc, ↓Zb, ↓vdn, vup, Zh, Zk, Zm, Zn, Zj, List.map_cons, List.map_nil, cond_true, cond_false, aop, Zv, Zq, Zp, ev, sput, Zt, Zz, Yb, unK, Zd, Zw, Nat.reduceBEq, Nat.reduceAdd, Int.reduceBEq, Int.reduceBNe, Int.reduceLT, Zu, Ya, tup, tyf])
        clear hN5
        try clear N5
        refine Yd ?_
        simp (maxSteps := 2000000) only [s120, ↓Za, ↓Zo, ↓Zr, ↓Ze, ↓Zi, ↓Zs, ↓Zf, ↓Zl, ↓Zg, ↓Zc, ↓Zb, ↓vdn, vup, Zh, Zk, Zm, Zn, Zj, List.map_cons, List.map_nil, cond_true, cond_false, aop, Zv, Zq, Zp, ev, sput, Zt, Zz, Yb, unK, Zd, Zw, Nat.reduceBEq, Nat.reduceAdd, Int.reduceBEq, Int.reduceBNe, Int.reduceLT, Zu, Ya, tup, tyf]
        refine Xd [] (by kernel_rfl) (by kernel_rfl) (by kernel_rfl) (by kernel_rfl) ?_
        have hjL : j < L.length := by omega
        simp (maxSteps := 2000000) only [s120, ↓Za, ↓Zo, ↓Zr, ↓Ze, ↓Zi, ↓Zs, ↓Zf, ↓Zl, ↓Zg, ↓Zc, ↓Zb, ↓vdn, vup, Zh, Zk, Zm, Zn, Zj, List.map_cons, List.map_nil, cond_true, cond_false, aop, Zv, Zq, Zp, ev, sput, Zt, Zz, Yb, unK, Zd, Zw, Nat.reduceBEq, Nat.reduceAdd, Int.reduceBEq, Int.reduceBNe, Int.reduceLT, Zu, Ya, tup, tyf, hsub, own.int.idx Xu Xp hjn, own.int.idx Xu Xp hj1n, elemP_ov, ov_load hlt hLn (show j < n by omega), ov_load hlt hLn (show j - 1 < n by omega), ov_store hlt hjL, ov_store hlt (show j - 1 < (L.set j (L.getD (j - 1) 0)).length by rw [List.length_set]; omega)]
        have hs1 : (swL L j).getD (j - 1) 0 = i := by rw [swL_get (by omega) hjL, if_pos rfl]; exact hji
        have hs2 : ∀ q, q ≤ i → q ≠ j - 1 → (swL L j).getD q 0 < i := fun q hq hne => by
          rw [swL_get (by omega) hjL, if_neg hne]
          split
          · exact hlt1
          · exact hb1 q hq (by assumption)
        have hs3 : ∀ q, i < q → q < n → (swL L j).getD q 0 = q := fun q hq hqn => by
          rw [swL_get (by omega) hjL, if_neg (by omega), if_neg (by omega)]
          exact hb2 q hq hqn
        refine hQ4 _ _ _ ⟨(j - 1, swL L j), ⟨by simp only; omega, (swL_perm (by omega) hjL).trans hp, hs.step (by omega) hjL hj hlt2, hs1, hs2, hs3⟩, by simp only; omega, by simp (maxSteps := 2000000) only [↓Za, ↓Zo, ↓Zr, ↓Ze, ↓Zi, ↓Zs, ↓Zf, ↓Zl, ↓Zg, ↓Zc, ↓Zb, ↓vdn, vup, Zh, Zk, Zm, Zn, Zj, List.map_cons, List.map_nil, cond_true, cond_false, aop, Zv, Zq, Zp, ev, sput, Zt, Zz, Yb, unK, Zd, Zw, Nat.reduceBEq, Nat.reduceAdd, Int.reduceBEq, Int.reduceBNe, Int.reduceLT, Zu, Ya, tup, tyf], rfl⟩
      · have hneg : ¬ cmp (L.getD j 0) (L.getD (j - 1) 0) < 0 := fun hc => hlt2 (hiff.1 hc)
        refine Zy fun N6 hN6 => ?_
        simp (maxSteps := 2000000) only [s120, ↓Za, ↓Zo, ↓Zr, ↓Ze, ↓Zi, ↓Zs, ↓Zf, ↓Zl, ↓Zg, ↓Zc, ↓Zb, ↓vdn, vup, Zh, Zk, Zm, Zn, Zj, List.map_cons, List.map_nil, cond_true, cond_false, aop, Zv, Zq, Zp, ev, sput, Zt, Zz, Yb, unK, Zd, Zw, Nat.reduceBEq, Nat.reduceAdd, Int.reduceBEq, Int.reduceBNe, Int.reduceLT, Zu, Ya, tup, tyf]
        refine Xd [(14, 1)] (by kernel_rfl) (by kernel_rfl) (by kernel_rfl) (by kernel_rfl) ?_
        simp (maxSteps := 2000000) only [s120, ↓Za, ↓Zo, ↓Zr, ↓Ze, ↓Zi, ↓Zs, ↓Zf, ↓Zl, ↓Zg, ↓Zc, ↓Zb, ↓vdn, vup, Zh, Zk, Zm, Zn, Zj, List.map_cons, List.map_nil, cond_true, cond_false, aop, Zv, Zq, Zp, ev, sput, Zt, Zz, Yb, unK, Zd, Zw, Nat.reduceBEq, Nat.reduceAdd, Int.reduceBEq, Int.reduceBNe, Int.reduceLT, Zu, Ya, tup, tyf, gt_iff_lt, hjp, hsub, own.int.idx Xu Xp hjn, own.int.load Xl hjn, own.int.idx Xu Xp hj1n, own.int.load Xl hj1n, iL_get, Yr, List.nil_append, List.append_nil, List.toList_toArray, List.cons_append]
        refine ⟨_, _, c1, rfl, ?_⟩
        simp (maxSteps := 2000000) only [s120, ↓Za, ↓Zo, ↓Zr, ↓Ze, ↓Zi, ↓Zs, ↓Zf, ↓Zl, ↓Zg, ↓Zc, ↓Zb, ↓vdn, vup, Zh, Zk, Zm, Zn, Zj, List.map_cons, List.map_nil, cond_true, cond_false, aop, Zv, Zq, Zp, ev, sput, Zt, Zz, Yb, unK, Zd, Zw, Nat.reduceBEq, Nat.reduceAdd, Int.reduceBEq, Int.reduceBNe, Int.reduceLT, Zu, Ya, tup, tyf, hneg, decide_true, decide_false]
        refine hQ4 _ _ _ (hQ3 _ _ _ ?_)
        simp (maxSteps := 2000000) only [s120, ↓Za, ↓Zo, ↓Zr, ↓Ze, ↓Zi, ↓Zs, ↓Zf, ↓Zl, ↓Zg, ↓Zc, ↓Zb, ↓vdn, vup, Zh, Zk, Zm, Zn, Zj, List.map_cons, List.map_nil, cond_true, cond_false, aop, Zv, Zq, Zp, ev, sput, Zt, Zz, Yb, unK, Zd, Zw, Nat.reduceBEq, Nat.reduceAdd, Int.reduceBEq, Int.reduceBNe, Int.reduceLT, Zu, Ya, tup, tyf, if_true]
        exact fin (.inr (by omega)) _ (by simp (maxSteps := 2000000) only [↓Za, ↓Zo, ↓Zr, ↓Ze, ↓Zi, ↓Zs, ↓Zf, ↓Zl, ↓Zg, ↓Zc, ↓Zb, ↓vdn, vup, Zh, Zk, Zm, Zn, Zj, List.map_cons, List.map_nil, cond_true, cond_false, aop, Zv, Zq, Zp, ev, sput, Zt, Zz, Yb, unK, Zd, Zw, Nat.reduceBEq, Nat.reduceAdd, Int.reduceBEq, Int.reduceBNe, Int.reduceLT, Zu, Ya, tup, tyf])
  · refine Zy fun M hM => ?_
    simp (maxSteps := 2000000) only [s120, ↓Za, ↓Zo, ↓Zr, ↓Ze, ↓Zi, ↓Zs, ↓Zf, ↓Zl, ↓Zg, ↓Zc, ↓Zb, ↓vdn, vup, Zh, Zk, Zm, Zn, Zj, List.map_cons, List.map_nil, cond_true, cond_false, aop, Zv, Zq, Zp, ev, sput, Zt, Zz, Yb, unK, Zd, Zw, Nat.reduceBEq, Nat.reduceAdd, Int.reduceBEq, Int.reduceBNe, Int.reduceLT, Zu, Ya, tup, tyf, hin]
    refine hQ2 _ _ _ (hQ _ _ _ ?_)
    simp (maxSteps := 2000000) only [s120, ↓Za, ↓Zo, ↓Zr, ↓Ze, ↓Zi, ↓Zs, ↓Zf, ↓Zl, ↓Zg, ↓Zc, ↓Zb, ↓vdn, vup, Zh, Zk, Zm, Zn, Zj, List.map_cons, List.map_nil, cond_true, cond_false, aop, Zv, Zq, Zp, ev, sput, Zt, Zz, Yb, unK, Zd, Zw, Nat.reduceBEq, Nat.reduceAdd, Int.reduceBEq, Int.reduceBNe, Int.reduceLT, Zu, Ya, tup, tyf, if_true]
    refine ⟨L, hp, ?_, rfl⟩
    refine SrtTo.pw ?_
    rw [hLn]
    intro p q hpq hq
    exact hs p q hpq (by omega)

theorem s113_callW [Tabs Try.prog] {args : List Value} {h : Yc} {Q : Value → Yc → Prop} (hsz : args.length ≤ 63) (hk : AWS Try.prog 63 s113 (Zu Try.prog [] Q) (Zp 0 args) h) : ACall Try.prog 113 args h Q :=
  Yx Try.func113 rfl (enters_of Try.func113 (by kernel_rfl) rfl) rfl rfl (by decide) s113_strip s113_ok hsz hk
theorem stableF_call [Tabs prog] {h : Yc} {b : Nat} {L0 : List Nat} {ys : List Int} {g : FuncId} {cap : Array Value} {key : Nat → Int} {cmp : Nat → Nat → Int} {n0 : Nat} (hL0 : L0 = List.range n0) (hinj : ∀ x y, x < 12 → y < x → (cmp x y < 0 ↔ key x < key y)) (hc : ∀ L x y, x ∈ L0 → y ∈ L0 → Xa prog g ([Zx x, Zx y] ++ cap.toList) (h.set b (.ints (iL L ++ ys) 3 false)) (Zx (cmp x y))) (hb : h[b]? = some (.ints (iL L0 ++ ys) 3 false)) (hl : L0.length ≤ 12) (hx : ∀ x ∈ L0, x < 4611686018427387904) :
    ACall prog 113 [ov b L0.length ys.length, Zx L0.length, .func (.func g) #[] cap] h fun _ h' => ∃ L : List Nat, L.Perm L0 ∧ L.Pairwise (fun a b => key a ≤ key b) ∧ h' = h.set b (.ints (iL L ++ ys) 3 false) := by
  have n20 : ¬ (20 : Int) ≤ (L0.length : Int) := by omega
  have n20' : ¬ (20 : Int) < (L0.length : Int) := by omega
  refine s113_callW (by simp) ?_
  simp only [s113]
  refine Zy fun N7 hN7 => ?_
  simp (maxSteps := 2000000) only [s113, ↓Za, ↓Zo, ↓Zr, ↓Ze, ↓Zi, ↓Zs, ↓Zf, ↓Zl, ↓Zg, ↓Zc, ↓Zb, ↓vdn, vup, Zh, Zk, Zm, Zn, Zj, List.map_cons, List.map_nil, cond_true, cond_false, aop, Zv, Zq, Zp, ev, sput, Zt, Zz, Yb, unK, Zd, Zw, Nat.reduceBEq, Nat.reduceAdd, Int.reduceBEq, Int.reduceBNe, Int.reduceLT, Zu, Ya, tup, tyf]
  refine hN7 [(0, ov b L0.length ys.length), (1, Zx L0.length), (2, .func (.func g) #[] cap), (6, .int .i64 20)] _ _ ?_ (by simp (maxSteps := 2000000) only [↓Za, ↓Zo, ↓Zr, ↓Ze, ↓Zi, ↓Zs, ↓Zf, ↓Zl, ↓Zg, ↓Zc, ↓Zb, ↓vdn, vup, Zh, Zk, Zm, Zn, Zj, List.map_cons, List.map_nil, cond_true, cond_false, aop, Zv, Zq, Zp, ev, sput, Zt, Zz, Yb, unK, Zd, Zw, Nat.reduceBEq, Nat.reduceAdd, Int.reduceBEq, Int.reduceBNe, Int.reduceLT, Zu, Ya, tup, tyf])
  clear hN7
  try clear N7
  refine Zy fun N8 hN8 => ?_
  simp (maxSteps := 2000000) only [s113, ↓Za, ↓Zo, ↓Zr, ↓Ze, ↓Zi, ↓Zs, ↓Zf, ↓Zl, ↓Zg, ↓Zc, ↓Zb, ↓vdn, vup, Zh, Zk, Zm, Zn, Zj, List.map_cons, List.map_nil, cond_true, cond_false, aop, Zv, Zq, Zp, ev, sput, Zt, Zz, Yb, unK, Zd, Zw, Nat.reduceBEq, Nat.reduceAdd, Int.reduceBEq, Int.reduceBNe, Int.reduceLT, Zu, Ya, tup, tyf]
  refine hN8 [(0, ov b L0.length ys.length), (1, Zx L0.length), (2, .func (.func g) #[] cap), (6, .int .i64 20), (7, .int .i64 0), (8, .int .i64 20)] _ _ ?_ (by simp (maxSteps := 2000000) only [↓Za, ↓Zo, ↓Zr, ↓Ze, ↓Zi, ↓Zs, ↓Zf, ↓Zl, ↓Zg, ↓Zc, ↓Zb, ↓vdn, vup, Zh, Zk, Zm, Zn, Zj, List.map_cons, List.map_nil, cond_true, cond_false, aop, Zv, Zq, Zp, ev, sput, Zt, Zz, Yb, unK, Zd, Zw, Nat.reduceBEq, Nat.reduceAdd, Int.reduceBEq, Int.reduceBNe, Int.reduceLT, Zu, Ya, tup, tyf])
  clear hN8
  try clear N8
  refine Ye fun M hM => ?_
  refine Yf ?_
  refine Yh fun Q hQ => ?_
  refine Yv (γ := Unit) (fun _ => True) (fun _ => ([(0, ov b L0.length ys.length), (1, Zx L0.length), (2, .func (.func g) #[] cap), (6, .int .i64 20), (7, .int .i64 0), (8, .int .i64 20)], h)) (fun _ => 0) () trivial (by simp (maxSteps := 2000000) only [↓Za, ↓Zo, ↓Zr, ↓Ze, ↓Zi, ↓Zs, ↓Zf, ↓Zl, ↓Zg, ↓Zc, ↓Zb, ↓vdn, vup, Zh, Zk, Zm, Zn, Zj, List.map_cons, List.map_nil, cond_true, cond_false, aop, Zv, Zq, Zp, ev, sput, Zt, Zz, Yb, unK, Zd, Zw, Nat.reduceBEq, Nat.reduceAdd, Int.reduceBEq, Int.reduceBNe, Int.reduceLT, Zu, Ya, tup, tyf]) rfl ?_
  rintro _ _
  refine Yh fun Q2 hQ2 => ?_
  simp only [l113_0]
  refine Zy fun N9 hN9 => ?_
  simp (maxSteps := 2000000) only [s113, ↓Za, ↓Zo, ↓Zr, ↓Ze, ↓Zi, ↓Zs, ↓Zf, ↓Zl, ↓Zg, ↓Zc, ↓Zb, ↓vdn, vup, Zh, Zk, Zm, Zn, Zj, List.map_cons, List.map_nil, cond_true, cond_false, aop, Zv, Zq, Zp, ev, sput, Zt, Zz, Yb, unK, Zd, Zw, Nat.reduceBEq, Nat.reduceAdd, Int.reduceBEq, Int.reduceBNe, Int.reduceLT, Zu, Ya, tup, tyf, n20]
  refine hQ2 _ _ _ (hQ _ _ _ ?_)
  simp (maxSteps := 2000000) only [s113, ↓Za, ↓Zo, ↓Zr, ↓Ze, ↓Zi, ↓Zs, ↓Zf, ↓Zl, ↓Zg, ↓Zc, ↓Zb, ↓vdn, vup, Zh, Zk, Zm, Zn, Zj, List.map_cons, List.map_nil, cond_true, cond_false, aop, Zv, Zq, Zp, ev, sput, Zt, Zz, Yb, unK, Zd, Zw, Nat.reduceBEq, Nat.reduceAdd, Int.reduceBEq, Int.reduceBNe, Int.reduceLT, Zu, Ya, tup, tyf, if_true]
  refine hM [(0, ov b L0.length ys.length), (1, Zx L0.length), (2, .func (.func g) #[] cap), (6, .int .i64 20), (7, .int .i64 0), (8, .int .i64 20)] _ _ ?_ (by simp (maxSteps := 2000000) only [↓Za, ↓Zo, ↓Zr, ↓Ze, ↓Zi, ↓Zs, ↓Zf, ↓Zl, ↓Zg, ↓Zc, ↓Zb, ↓vdn, vup, Zh, Zk, Zm, Zn, Zj, List.map_cons, List.map_nil, cond_true, cond_false, aop, Zv, Zq, Zp, ev, sput, Zt, Zz, Yb, unK, Zd, Zw, Nat.reduceBEq, Nat.reduceAdd, Int.reduceBEq, Int.reduceBNe, Int.reduceLT, Zu, Ya, tup, tyf])
  clear hM
  try clear M
  refine Zy fun N10 hN10 => ?_
  simp (maxSteps := 2000000) only [s113, ↓Za, ↓Zo, ↓Zr, ↓Ze, ↓Zi, ↓Zs, ↓Zf, ↓Zl, ↓Zg, ↓Zc, ↓Zb, ↓vdn, vup, Zh, Zk, Zm, Zn, Zj, List.map_cons, List.map_nil, cond_true, cond_false, aop, Zv, Zq, Zp, ev, sput, Zt, Zz, Yb, unK, Zd, Zw, Nat.reduceBEq, Nat.reduceAdd, Int.reduceBEq, Int.reduceBNe, Int.reduceLT, Zu, Ya, tup, tyf, Yr, List.nil_append, List.append_nil, List.toList_toArray, List.cons_append]
  refine (isortF_call hL0 hinj hc hb hl hx).mono ?_
  rintro r h' hr
  refine hN10 [(0, ov b L0.length ys.length), (1, Zx L0.length), (2, .func (.func g) #[] cap), (6, .int .i64 20), (7, .int .i64 0), (8, .int .i64 20)] _ _ ?_ (by simp (maxSteps := 2000000) only [↓Za, ↓Zo, ↓Zr, ↓Ze, ↓Zi, ↓Zs, ↓Zf, ↓Zl, ↓Zg, ↓Zc, ↓Zb, ↓vdn, vup, Zh, Zk, Zm, Zn, Zj, List.map_cons, List.map_nil, cond_true, cond_false, aop, Zv, Zq, Zp, ev, sput, Zt, Zz, Yb, unK, Zd, Zw, Nat.reduceBEq, Nat.reduceAdd, Int.reduceBEq, Int.reduceBNe, Int.reduceLT, Zu, Ya, tup, tyf])
  clear hN10
  try clear N10
  refine Yf ?_
  refine Yh fun Q hQ => ?_
  refine Yv (γ := Unit) (fun _ => True) (fun _ => ([(0, ov b L0.length ys.length), (1, Zx L0.length), (2, .func (.func g) #[] cap), (6, .int .i64 20), (7, .int .i64 0), (8, .int .i64 20)], h')) (fun _ => 0) () trivial (by simp (maxSteps := 2000000) only [↓Za, ↓Zo, ↓Zr, ↓Ze, ↓Zi, ↓Zs, ↓Zf, ↓Zl, ↓Zg, ↓Zc, ↓Zb, ↓vdn, vup, Zh, Zk, Zm, Zn, Zj, List.map_cons, List.map_nil, cond_true, cond_false, aop, Zv, Zq, Zp, ev, sput, Zt, Zz, Yb, unK, Zd, Zw, Nat.reduceBEq, Nat.reduceAdd, Int.reduceBEq, Int.reduceBNe, Int.reduceLT, Zu, Ya, tup, tyf]) rfl ?_
  rintro _ _
  refine Yh fun Q2 hQ2 => ?_
  simp only [l113_2]
  refine Zy fun N11 hN11 => ?_
  simp (maxSteps := 2000000) only [s113, ↓Za, ↓Zo, ↓Zr, ↓Ze, ↓Zi, ↓Zs, ↓Zf, ↓Zl, ↓Zg, ↓Zc, ↓Zb, ↓vdn, vup, Zh, Zk, Zm, Zn, Zj, List.map_cons, List.map_nil, cond_true, cond_false, aop, Zv, Zq, Zp, ev, sput, Zt, Zz, Yb, unK, Zd, Zw, Nat.reduceBEq, Nat.reduceAdd, Int.reduceBEq, Int.reduceBNe, Int.reduceLT, Zu, Ya, tup, tyf, n20']
  refine hQ2 _ _ _ (hQ _ _ _ ?_)
  simp (maxSteps := 2000000) only [s113, ↓Za, ↓Zo, ↓Zr, ↓Ze, ↓Zi, ↓Zs, ↓Zf, ↓Zl, ↓Zg, ↓Zc, ↓Zb, ↓vdn, vup, Zh, Zk, Zm, Zn, Zj, List.map_cons, List.map_nil, cond_true, cond_false, aop, Zv, Zq, Zp, ev, sput, Zt, Zz, Yb, unK, Zd, Zw, Nat.reduceBEq, Nat.reduceAdd, Int.reduceBEq, Int.reduceBNe, Int.reduceLT, Zu, Ya, tup, tyf, if_true]
  exact hr
theorem s92_callW [Tabs Try.prog] {args : List Value} {h : Yc} {Q : Value → Yc → Prop} (hsz : args.length ≤ 9) (hk : AWS Try.prog 9 s92 (Zu Try.prog [] Q) (Zp 0 args) h) : ACall Try.prog 92 args h Q :=
  Yx Try.func92 rfl (enters_of Try.func92 (by kernel_rfl) rfl) rfl rfl (by decide) s92_strip s92_ok hsz hk
theorem sortF_call [Tabs prog] {h : Yc} {b : Nat} {L0 : List Nat} {ys : List Int} {g : FuncId} {cap : Array Value} {key : Nat → Int} {cmp : Nat → Nat → Int} {n0 : Nat} (hL0 : L0 = List.range n0) (hinj : ∀ x y, x < 12 → y < x → (cmp x y < 0 ↔ key x < key y)) (hc : ∀ L x y, x ∈ L0 → y ∈ L0 → Xa prog g ([Zx x, Zx y] ++ cap.toList) (h.set b (.ints (iL L ++ ys) 3 false)) (Zx (cmp x y))) (hb : h[b]? = some (.ints (iL L0 ++ ys) 3 false)) (hl : L0.length ≤ 12) (hx : ∀ x ∈ L0, x < 4611686018427387904) :
    ACall prog 92 [ov b L0.length ys.length, .func (.func g) #[] cap] h fun _ h' => ∃ L : List Nat, L.Perm L0 ∧ L.Pairwise (fun a b => key a ≤ key b) ∧ h' = h.set b (.ints (iL L ++ ys) 3 false) := by
  refine s92_callW (by simp) ?_
  refine Yd ?_
  simp (maxSteps := 2000000) only [s92, ↓Za, ↓Zo, ↓Zr, ↓Ze, ↓Zi, ↓Zs, ↓Zf, ↓Zl, ↓Zg, ↓Zc, ↓Zb, ↓vdn, vup, Zh, Zk, Zm, Zn, Zj, List.map_cons, List.map_nil, cond_true, cond_false, aop, Zv, Zq, Zp, ev, sput, Zt, Zz, Yb, unK, Zd, Zw, Nat.reduceBEq, Nat.reduceAdd, Int.reduceBEq, Int.reduceBNe, Int.reduceLT, Zu, Ya, tup, tyf, Yr, List.nil_append, List.append_nil, List.toList_toArray, List.cons_append, lenK]
  refine (stableF_call hL0 hinj hc hb hl hx).mono ?_
  rintro r h' hr
  exact hr
end Go.Proofs.Try.Am

namespace Go.Proofs.Try.Am
open Go.Am Bq
set_option maxRecDepth 100000
set_option maxHeartbeats 4000000

/-- The least of the best that is not taken. -/
def Va (v : Nat → Int) (s : Nat) : Nat → Option Nat
  | 0 => none
  | t + 1 => if s.testBit t then Va v s t else match Va v s t with | none => some t | some c => if v t > v c then some t else some c
theorem bstTo_spec (v : Nat → Int) (s : Nat) : ∀ t, match Va v s t with | none => ∀ i, i < t → s.testBit i = true | some c => c < t ∧ s.testBit c = false ∧ ∀ i, i < t → s.testBit i = false → v i < v c ∨ (v i = v c ∧ c ≤ i)
  | 0 => by intro i hi; omega
  | t + 1 => by
    have ih := bstTo_spec v s t
    rw [Va]
    cases hb : s.testBit t with
    | true =>
      rw [if_pos rfl]
      cases hc : Va v s t with
      | none =>
        rw [hc] at ih
        intro i hi
        by_cases hit : i = t
        · subst hit; exact hb
        · exact ih i (by omega)
      | some c =>
        rw [hc] at ih
        obtain ⟨h1, h2, h3⟩ := ih
        refine ⟨by omega, h2, fun i hi hn => ?_⟩
        by_cases hit : i = t
        · subst hit; rw [hb] at hn; cases hn
        · exact h3 i (by omega) hn
    | false =>
      rw [if_neg (by simp)]
      cases hc : Va v s t with
      | none =>
        rw [hc] at ih
        refine ⟨by omega, hb, fun i hi hn => ?_⟩
        by_cases hit : i = t
        · subst hit; exact .inr ⟨rfl, Nat.le_refl _⟩
        · rw [ih i (by omega)] at hn; cases hn
      | some c =>
        rw [hc] at ih
        obtain ⟨h1, h2, h3⟩ := ih
        simp only
        by_cases hv : v t > v c
        · rw [if_pos hv]
          refine ⟨by omega, hb, fun i hi hn => ?_⟩
          by_cases hit : i = t
          · subst hit; exact .inr ⟨rfl, Nat.le_refl _⟩
          · rcases h3 i (by omega) hn with h | h
            · exact .inl (by omega)
            · exact .inl (by omega)
        · rw [if_neg hv]
          refine ⟨by omega, h2, fun i hi hn => ?_⟩
          by_cases hit : i = t
          · subst hit
            by_cases he : v i = v c
            · exact .inr ⟨he, by omega⟩
            · exact .inl (by omega)
          · exact h3 i (by omega) hn
/-- The first k as a set. -/
def tkS (L : List Nat) : Nat → Nat
  | 0 => 0
  | k + 1 => tkS L k ||| 2 ^ L.getD k 0
theorem tkS_bit (L : List Nat) (i : Nat) : ∀ k, (tkS L k).testBit i = true ↔ ∃ j, j < k ∧ L.getD j 0 = i
  | 0 => by simp [tkS]
  | k + 1 => by
    rw [tkS, Nat.testBit_or, Bool.or_eq_true, tkS_bit L i k, Nat.testBit_two_pow]
    constructor
    · rintro (⟨j, h1, h2⟩ | h)
      · exact ⟨j, by omega, h2⟩
      · exact ⟨k, by omega, by simpa using h⟩
    · rintro ⟨j, h1, h2⟩
      by_cases hj : j = k
      · subst hj; exact .inr (by simpa using h2)
      · exact .inl ⟨j, by omega, h2⟩
section
variable {v : Nat → Int} {n : Nat} (hn : n ≤ 12) {L : List Nat} (hp : L.Perm (List.range n)) (hs : L.Pairwise fun a b => -(v a) * 16 + (a : Int) ≤ -(v b) * 16 + (b : Int))
include hn hp hs
theorem pick_some {k : Nat} (hk : k < n) : Va v (tkS L k) n = some (L.getD k 0) := by
  have hl : L.length = n := by rw [hp.length_eq, List.length_range]
  have hnd : L.Nodup := hp.nodup_iff.2 List.nodup_range
  have hget : ∀ j, j < n → L.getD j 0 = L[j]! := fun j hj => by simp [List.getD, List.getElem?_eq_getElem (show j < L.length by omega)]
  have hinj : ∀ i j, i < n → j < n → L.getD i 0 = L.getD j 0 → i = j := by
    intro i j hi hj h
    rw [List.getD, List.getD, List.getElem?_eq_getElem (show i < L.length by omega), List.getElem?_eq_getElem (show j < L.length by omega)] at h
    exact (List.getElem_inj hnd).1 h
  have hlt : ∀ j, j < n → L.getD j 0 < n := fun j hj => by
    have : L.getD j 0 ∈ L := by rw [List.getD, List.getElem?_eq_getElem (show j < L.length by omega)]; exact List.getElem_mem _
    exact List.mem_range.1 (hp.mem_iff.1 this)
  have hall : ∀ i, i < n → ∃ j, j < n ∧ L.getD j 0 = i := fun i hi => by
    have : i ∈ L := hp.mem_iff.2 (List.mem_range.2 hi)
    obtain ⟨j, hj, h⟩ := List.getElem_of_mem this
    exact ⟨j, by omega, by rw [List.getD, List.getElem?_eq_getElem hj]; exact h⟩
  have hsrt : ∀ i j, i < j → j < n → -(v (L.getD i 0)) * 16 + ((L.getD i 0 : Nat) : Int) ≤ -(v (L.getD j 0)) * 16 + ((L.getD j 0 : Nat) : Int) := by
    intro i j hij hj
    have := (List.pairwise_iff_getElem.1 hs) i j (by omega) (by omega) hij
    rw [List.getD, List.getD, List.getElem?_eq_getElem (show i < L.length by omega), List.getElem?_eq_getElem (show j < L.length by omega)]
    exact this
  have sp := bstTo_spec v (tkS L k) n
  have nk : (tkS L k).testBit (L.getD k 0) = false := by
    rw [← Bool.not_eq_true, tkS_bit]
    rintro ⟨j, h1, h2⟩
    have := hinj j k (by omega) hk h2
    omega
  cases hb : Va v (tkS L k) n with
  | none =>
    rw [hb] at sp
    rw [sp _ (hlt k hk)] at nk; cases nk
  | some c =>
    rw [hb] at sp
    obtain ⟨h1, h2, h3⟩ := sp
    obtain ⟨j, hj, hjc⟩ := hall c h1
    have hkj : k ≤ j := by
      rcases Nat.lt_or_ge j k with h | h
      · have : (tkS L k).testBit c = true := (tkS_bit L c k).2 ⟨j, h, hjc⟩
        rw [this] at h2; cases h2
      · exact h
    by_cases he : j = k
    · rw [← hjc, he]
    · have q1 := hsrt k j (by omega) hj
      have q2 := h3 _ (hlt k hk) nk
      rw [hjc] at q1
      have l1 := hlt k hk
      rcases q2 with q2 | ⟨q2, q3⟩
      · omega
      · have : L.getD k 0 = c := by omega
        exact absurd (hinj j k hj hk (by rw [hjc, this])) he
theorem pick_none : Va v (tkS L n) n = none := by
  have hl : L.length = n := by rw [hp.length_eq, List.length_range]
  have sp := bstTo_spec v (tkS L n) n
  cases hb : Va v (tkS L n) n with
  | none => rfl
  | some c =>
    rw [hb] at sp
    obtain ⟨h1, h2, _⟩ := sp
    have : c ∈ L := hp.mem_iff.2 (List.mem_range.2 h1)
    obtain ⟨j, hj, h⟩ := List.getElem_of_mem this
    have h4 : (tkS L n).testBit c = true := (tkS_bit L c n).2 ⟨j, by omega, by rw [List.getD, List.getElem?_eq_getElem hj]; exact h⟩
    rw [h4] at h2; cases h2
end
/-- What is staked. -/
def growQ (xs ys : List Int) (L : List Nat) (K : Rat) (k i : Nat) : Rat := if (tkS L k).testBit i then gVa xs i + ((-1 : Int) : Rat) * (K * gVb ys i) else 0
def Vn (xs ys : List Int) (L : List Nat) (K : Rat) (k : Nat) : List (Int × Int) := (List.range xs.length).map fun i => ofQ (growQ xs ys L K k i)

theorem s93_callW [Tabs Try.prog] {args : List Value} {h : Yc} {Q : Value → Yc → Prop} (hsz : args.length ≤ 26) (hk : AWS Try.prog 26 s93 (Zu Try.prog [.tmp 6] Q) (Zp 0 args) h) : ACall Try.prog 93 args h Q :=
  Yx Try.func93 rfl (enters_of Try.func93 (by kernel_rfl) rfl) rfl rfl (by decide) s93_strip s93_ok hsz hk
theorem cmp_call [Tabs prog] {h : Yc} {u v : Value} {xs ys : List Int} {b2 b3 x y : Nat} (h2 : h[b2]? = some (.cells [u] 38 false)) (h3 : h[b3]? = some (.cells [v] 38 false)) (hu : IntSl h u xs) (hv : IntSl h v ys)
    (ha : ∀ i, i < xs.length → 0 ≤ xs.getD i 0 ∧ xs.getD i 0 ≤ 12) (hb : ∀ i, i < ys.length → 1 ≤ ys.getD i 0 ∧ ys.getD i 0 ≤ 12) (hl : ys.length = xs.length) (hx : x < xs.length) (hy : y < xs.length) :
    Xa prog 93 [Zx (x : Nat), Zx (y : Nat), .pointer (some ⟨b2, 0, none⟩), .pointer (some ⟨b3, 0, none⟩)] h (Zx (xs.getD y 0 * ys.getD y 0 - xs.getD x 0 * ys.getD x 0)) := by
  refine s93_callW (by simp) ?_
  simp only [s93]
  refine Zy fun N1 hN1 => ?_
  simp (maxSteps := 2000000) only [s93, ↓Za, ↓Zo, ↓Zr, ↓Ze, ↓Zi, ↓Zs, ↓Zf, ↓Zl, ↓Zg, ↓Zc, ↓Zb, ↓vdn, vup, Zh, Zk, Zm, Zn, Zj, List.map_cons, List.map_nil, cond_true, cond_false, aop, Zv, Zq, Zp, ev, sput, Zt, Zz, Yb, unK, Zd, Zw, Nat.reduceBEq, Nat.reduceAdd, Int.reduceBEq, Int.reduceBNe, Int.reduceLT, Zu, Ya, tup, tyf]
  refine hN1 [(0, Zx (x : Nat)), (1, Zx (y : Nat)), (2, .pointer (some ⟨b2, 0, none⟩)), (3, .pointer (some ⟨b3, 0, none⟩)), (6, .int .i64 0)] _ _ ?_ (by simp (maxSteps := 2000000) only [↓Za, ↓Zo, ↓Zr, ↓Ze, ↓Zi, ↓Zs, ↓Zf, ↓Zl, ↓Zg, ↓Zc, ↓Zb, ↓vdn, vup, Zh, Zk, Zm, Zn, Zj, List.map_cons, List.map_nil, cond_true, cond_false, aop, Zv, Zq, Zp, ev, sput, Zt, Zz, Yb, unK, Zd, Zw, Nat.reduceBEq, Nat.reduceAdd, Int.reduceBEq, Int.reduceBNe, Int.reduceLT, Zu, Ya, tup, tyf])
  clear hN1
  try clear N1
  have a1 := ha x hx
  have a2 := ha y hy
  have b1 := hb x (by omega)
  have b4 := hb y (by omega)
  obtain ⟨p, hp⟩ : ∃ p, xs.getD x 0 = p := ⟨_, rfl⟩
  obtain ⟨q, hq⟩ : ∃ p, xs.getD y 0 = p := ⟨_, rfl⟩
  obtain ⟨r, hr⟩ : ∃ p, ys.getD x 0 = p := ⟨_, rfl⟩
  obtain ⟨s, hs⟩ : ∃ p, ys.getD y 0 = p := ⟨_, rfl⟩
  rw [hp] at a1
  rw [hq] at a2
  rw [hr] at b1
  rw [hs] at b4
  have e1 : (q * s).natAbs ≤ 144 := by rw [Int.natAbs_mul]; exact Nat.mul_le_mul (show q.natAbs ≤ 12 by omega) (show s.natAbs ≤ 12 by omega)
  have e2 : (p * r).natAbs ≤ 144 := by rw [Int.natAbs_mul]; exact Nat.mul_le_mul (show p.natAbs ≤ 12 by omega) (show r.natAbs ≤ 12 by omega)
  have m1 : mulV .i64 q s = q * s := mulV_id (by omega) (by omega)
  have m2 : mulV .i64 p r = p * r := mulV_id (by omega) (by omega)
  have m3 : subV .i64 (q * s) (p * r) = q * s - p * r := subV_id (by omega) (by omega)
  have hxl : x < ys.length := by omega
  have hyl : y < ys.length := by omega
  rw [hp, hq, hr, hs]
  refine Yd ?_
  simp only [q93_1]
  refine Xd [] (by kernel_rfl) (by kernel_rfl) (by kernel_rfl) (by kernel_rfl) ?_
  simp (maxSteps := 2000000) only [s93, ↓Za, ↓Zo, ↓Zr, ↓Ze, ↓Zi, ↓Zs, ↓Zf, ↓Zl, ↓Zg, ↓Zc, ↓Zb, ↓vdn, vup, Zh, Zk, Zm, Zn, Zj, List.map_cons, List.map_nil, cond_true, cond_false, aop, Zv, Zq, Zp, ev, sput, Zt, Zz, Yb, unK, Zd, Zw, Nat.reduceBEq, Nat.reduceAdd, Int.reduceBEq, Int.reduceBNe, Int.reduceLT, Zu, Ya, tup, tyf, load1 h2 Vb, load1 h3 Vb, hu.idx Xu Xp hx, hu.idx Xu Xp hy, hv.idx Xu Xp hxl, hv.idx Xu Xp hyl, hu.load Xl hx, hu.load Xl hy, hv.load Xl hxl, hv.load Xl hyl, hp, hq, hr, hs, m1, m2, m3]
end Go.Proofs.Try.Am

namespace Go.Proofs.Try.Am
open Go.Am
set_option maxRecDepth 100000
set_option maxHeartbeats 4000000

def minTo (xs : List Int) : Nat → Int
  | 0 => xs.getD 0 0
  | k + 1 => if xs.getD (k + 1) 0 < minTo xs k then xs.getD (k + 1) 0 else minTo xs k
theorem minTo_spec (xs : List Int) : ∀ k, (∀ i, i ≤ k → minTo xs k ≤ xs.getD i 0) ∧ ∃ i, i ≤ k ∧ minTo xs k = xs.getD i 0
  | 0 => ⟨fun i hi => by obtain rfl : i = 0 := by omega
                         rw [minTo]; exact Int.le_refl _, 0, Nat.le_refl _, rfl⟩
  | k + 1 => by
    obtain ⟨h1, j, hj, h2⟩ := minTo_spec xs k
    rw [minTo]
    by_cases h : xs.getD (k + 1) 0 < minTo xs k
    · rw [if_pos h]
      refine ⟨fun i hi => ?_, k + 1, Nat.le_refl _, rfl⟩
      by_cases hik : i = k + 1
      · subst hik; exact Int.le_refl _
      · have := h1 i (by omega); omega
    · rw [if_neg h]
      refine ⟨fun i hi => ?_, j, by omega, h2⟩
      by_cases hik : i = k + 1
      · subst hik; omega
      · exact h1 i (by omega)
theorem s90_callW [Tabs Try.prog] {args : List Value} {h : Yc} {Q : Value → Yc → Prop} (hsz : args.length ≤ 25) (hk : AWS Try.prog 25 s90 (Zu Try.prog [.tmp 2] Q) (Zp 0 args) h) : ACall Try.prog 90 args h Q :=
  Yx Try.func90 rfl (enters_of Try.func90 (by kernel_rfl) rfl) rfl rfl (by decide) s90_strip s90_ok hsz hk
theorem min_call [Tabs prog] {h : Yc} {u : Value} {xs : List Int} (hu : IntSl h u xs) (h0 : 0 < xs.length) (hl : xs.length < 9223372036854775808) : Xa prog 90 [u] h (Zx (minTo xs (xs.length - 1))) := by
  refine s90_callW (by simp) ?_
  simp only [s90]
  refine Zy fun N1 hN1 => ?_
  simp (maxSteps := 2000000) only [s90, ↓Za, ↓Zo, ↓Zr, ↓Ze, ↓Zi, ↓Zs, ↓Zf, ↓Zl, ↓Zg, ↓Zc, ↓Zb, ↓vdn, vup, Zh, Zk, Zm, Zn, Zj, List.map_cons, List.map_nil, cond_true, cond_false, aop, Zv, Zq, Zp, ev, sput, Zt, Zz, Yb, unK, Zd, Zw, Nat.reduceBEq, Nat.reduceAdd, Int.reduceBEq, Int.reduceBNe, Int.reduceLT, Zu, Ya, tup, tyf]
  refine hN1 [(0, u), (2, .int .i64 0)] _ _ ?_ (by simp (maxSteps := 2000000) only [↓Za, ↓Zo, ↓Zr, ↓Ze, ↓Zi, ↓Zs, ↓Zf, ↓Zl, ↓Zg, ↓Zc, ↓Zb, ↓vdn, vup, Zh, Zk, Zm, Zn, Zj, List.map_cons, List.map_nil, cond_true, cond_false, aop, Zv, Zq, Zp, ev, sput, Zt, Zz, Yb, unK, Zd, Zw, Nat.reduceBEq, Nat.reduceAdd, Int.reduceBEq, Int.reduceBNe, Int.reduceLT, Zu, Ya, tup, tyf])
  clear hN1
  try clear N1
  have h1 : ¬ (xs.length : Int) < 1 := by omega
  refine Ye fun M hM => ?_
  refine Zy fun N2 hN2 => ?_
  simp (maxSteps := 2000000) only [s90, ↓Za, ↓Zo, ↓Zr, ↓Ze, ↓Zi, ↓Zs, ↓Zf, ↓Zl, ↓Zg, ↓Zc, ↓Zb, ↓vdn, vup, Zh, Zk, Zm, Zn, Zj, List.map_cons, List.map_nil, cond_true, cond_false, aop, Zv, Zq, Zp, ev, sput, Zt, Zz, Yb, unK, Zd, Zw, Nat.reduceBEq, Nat.reduceAdd, Int.reduceBEq, Int.reduceBNe, Int.reduceLT, Zu, Ya, tup, tyf, hu.len, h1]
  refine hN2 [(0, u), (2, .int .i64 0), (7, .bool false)] _ _ ?_ (by simp (maxSteps := 2000000) only [↓Za, ↓Zo, ↓Zr, ↓Ze, ↓Zi, ↓Zs, ↓Zf, ↓Zl, ↓Zg, ↓Zc, ↓Zb, ↓vdn, vup, Zh, Zk, Zm, Zn, Zj, List.map_cons, List.map_nil, cond_true, cond_false, aop, Zv, Zq, Zp, ev, sput, Zt, Zz, Yb, unK, Zd, Zw, Nat.reduceBEq, Nat.reduceAdd, Int.reduceBEq, Int.reduceBNe, Int.reduceLT, Zu, Ya, tup, tyf])
  clear hN2
  try clear N2
  refine Xs rfl ?_
  refine Yd ?_
  simp (maxSteps := 2000000) only [s90, ↓Za, ↓Zo, ↓Zr, ↓Ze, ↓Zi, ↓Zs, ↓Zf, ↓Zl, ↓Zg, ↓Zc, ↓Zb, ↓vdn, vup, Zh, Zk, Zm, Zn, Zj, List.map_cons, List.map_nil, cond_true, cond_false, aop, Zv, Zq, Zp, ev, sput, Zt, Zz, Yb, unK, Zd, Zw, Nat.reduceBEq, Nat.reduceAdd, Int.reduceBEq, Int.reduceBNe, Int.reduceLT, Zu, Ya, tup, tyf]
  refine hM [(0, u), (2, .int .i64 0)] _ _ ?_ (by simp (maxSteps := 2000000) only [↓Za, ↓Zo, ↓Zr, ↓Ze, ↓Zi, ↓Zs, ↓Zf, ↓Zl, ↓Zg, ↓Zc, ↓Zb, ↓vdn, vup, Zh, Zk, Zm, Zn, Zj, List.map_cons, List.map_nil, cond_true, cond_false, aop, Zv, Zq, Zp, ev, sput, Zt, Zz, Yb, unK, Zd, Zw, Nat.reduceBEq, Nat.reduceAdd, Int.reduceBEq, Int.reduceBNe, Int.reduceLT, Zu, Ya, tup, tyf])
  clear hM
  try clear M
  have hi0 := fun K => hu.idx Xu Xp (k := .i64) h0 K
  rw [Int.natCast_zero] at hi0
  refine Zy fun N3 hN3 => ?_
  simp (maxSteps := 2000000) only [s90, ↓Za, ↓Zo, ↓Zr, ↓Ze, ↓Zi, ↓Zs, ↓Zf, ↓Zl, ↓Zg, ↓Zc, ↓Zb, ↓vdn, vup, Zh, Zk, Zm, Zn, Zj, List.map_cons, List.map_nil, cond_true, cond_false, aop, Zv, Zq, Zp, ev, sput, Zt, Zz, Yb, unK, Zd, Zw, Nat.reduceBEq, Nat.reduceAdd, Int.reduceBEq, Int.reduceBNe, Int.reduceLT, Zu, Ya, tup, tyf, hi0, hu.load Xl h0]
  refine hN3 [(0, u), (2, .int .i64 0), (3, Zx (xs.getD 0 0))] _ _ ?_ (by simp (maxSteps := 2000000) only [↓Za, ↓Zo, ↓Zr, ↓Ze, ↓Zi, ↓Zs, ↓Zf, ↓Zl, ↓Zg, ↓Zc, ↓Zb, ↓vdn, vup, Zh, Zk, Zm, Zn, Zj, List.map_cons, List.map_nil, cond_true, cond_false, aop, Zv, Zq, Zp, ev, sput, Zt, Zz, Yb, unK, Zd, Zw, Nat.reduceBEq, Nat.reduceAdd, Int.reduceBEq, Int.reduceBNe, Int.reduceLT, Zu, Ya, tup, tyf])
  clear hN3
  try clear N3
  refine Ye fun Z hZ => ?_
  refine Zy fun N4 hN4 => ?_
  simp (maxSteps := 2000000) only [s90, ↓Za, ↓Zo, ↓Zr, ↓Ze, ↓Zi, ↓Zs, ↓Zf, ↓Zl, ↓Zg, ↓Zc, ↓Zb, ↓vdn, vup, Zh, Zk, Zm, Zn, Zj, List.map_cons, List.map_nil, cond_true, cond_false, aop, Zv, Zq, Zp, ev, sput, Zt, Zz, Yb, unK, Zd, Zw, Nat.reduceBEq, Nat.reduceAdd, Int.reduceBEq, Int.reduceBNe, Int.reduceLT, Zu, Ya, tup, tyf]
  refine hN4 [(0, u), (2, .int .i64 0), (3, Zx (xs.getD 0 0)), (4, .int .i64 1)] _ _ ?_ (by simp (maxSteps := 2000000) only [↓Za, ↓Zo, ↓Zr, ↓Ze, ↓Zi, ↓Zs, ↓Zf, ↓Zl, ↓Zg, ↓Zc, ↓Zb, ↓vdn, vup, Zh, Zk, Zm, Zn, Zj, List.map_cons, List.map_nil, cond_true, cond_false, aop, Zv, Zq, Zp, ev, sput, Zt, Zz, Yb, unK, Zd, Zw, Nat.reduceBEq, Nat.reduceAdd, Int.reduceBEq, Int.reduceBNe, Int.reduceLT, Zu, Ya, tup, tyf])
  clear hN4
  try clear N4
  refine Yf ?_
  refine Yh fun Q hQ => ?_
  refine Yv (γ := Nat) (fun k => k < xs.length)
    (fun k => ([(0, u), (2, .int .i64 0), (3, Zx (minTo xs k)), (4, Zx ((k + 1 : Nat) : Int))], h)) (fun k => xs.length - k) 0 h0 (by simp (maxSteps := 2000000) only [↓Za, ↓Zo, ↓Zr, ↓Ze, ↓Zi, ↓Zs, ↓Zf, ↓Zl, ↓Zg, ↓Zc, ↓Zb, ↓vdn, vup, Zh, Zk, Zm, Zn, Zj, List.map_cons, List.map_nil, cond_true, cond_false, aop, Zv, Zq, Zp, ev, sput, Zt, Zz, Yb, unK, Zd, Zw, Nat.reduceBEq, Nat.reduceAdd, Int.reduceBEq, Int.reduceBNe, Int.reduceLT, Zu, Ya, tup, tyf, minTo, Nat.zero_add, Int.natCast_one]) rfl ?_
  rintro k hk
  refine Yh fun Q2 hQ2 => ?_
  simp only [l90_0]
  obtain ⟨j, hj⟩ : ∃ j, k + 1 = j := ⟨_, rfl⟩
  rw [hj]
  by_cases hin : (j : Int) < xs.length
  · have hk' : j < xs.length := by omega
    refine Ye fun C hC => ?_
    refine Zy fun N5 hN5 => ?_
    simp (maxSteps := 2000000) only [s90, ↓Za, ↓Zo, ↓Zr, ↓Ze, ↓Zi, ↓Zs, ↓Zf, ↓Zl, ↓Zg, ↓Zc, ↓Zb, ↓vdn, vup, Zh, Zk, Zm, Zn, Zj, List.map_cons, List.map_nil, cond_true, cond_false, aop, Zv, Zq, Zp, ev, sput, Zt, Zz, Yb, unK, Zd, Zw, Nat.reduceBEq, Nat.reduceAdd, Int.reduceBEq, Int.reduceBNe, Int.reduceLT, Zu, Ya, tup, tyf, hu.len, hin]
    refine hN5 [(0, u), (2, .int .i64 0), (3, Zx (minTo xs k)), (4, Zx (j : Nat)), (15, .bool true)] _ _ ?_ (by simp (maxSteps := 2000000) only [↓Za, ↓Zo, ↓Zr, ↓Ze, ↓Zi, ↓Zs, ↓Zf, ↓Zl, ↓Zg, ↓Zc, ↓Zb, ↓vdn, vup, Zh, Zk, Zm, Zn, Zj, List.map_cons, List.map_nil, cond_true, cond_false, aop, Zv, Zq, Zp, ev, sput, Zt, Zz, Yb, unK, Zd, Zw, Nat.reduceBEq, Nat.reduceAdd, Int.reduceBEq, Int.reduceBNe, Int.reduceLT, Zu, Ya, tup, tyf])
    clear hN5
    try clear N5
    refine Yd ?_
    simp (maxSteps := 2000000) only [s90, ↓Za, ↓Zo, ↓Zr, ↓Ze, ↓Zi, ↓Zs, ↓Zf, ↓Zl, ↓Zg, ↓Zc, ↓Zb, ↓vdn, vup, Zh, Zk, Zm, Zn, Zj, List.map_cons, List.map_nil, cond_true, cond_false, aop, Zv, Zq, Zp, ev, sput, Zt, Zz, Yb, unK, Zd, Zw, Nat.reduceBEq, Nat.reduceAdd, Int.reduceBEq, Int.reduceBNe, Int.reduceLT, Zu, Ya, tup, tyf]
    refine hC [(0, u), (2, .int .i64 0), (3, Zx (minTo xs k)), (4, Zx (j : Nat))] _ _ ?_ (by simp (maxSteps := 2000000) only [↓Za, ↓Zo, ↓Zr, ↓Ze, ↓Zi, ↓Zs, ↓Zf, ↓Zl, ↓Zg, ↓Zc, ↓Zb, ↓vdn, vup, Zh, Zk, Zm, Zn, Zj, List.map_cons, List.map_nil, cond_true, cond_false, aop, Zv, Zq, Zp, ev, sput, Zt, Zz, Yb, unK, Zd, Zw, Nat.reduceBEq, Nat.reduceAdd, Int.reduceBEq, Int.reduceBNe, Int.reduceLT, Zu, Ya, tup, tyf])
    clear hC
    try clear C
    refine Ye fun B hB => ?_
    refine Yf ?_
    refine Yd ?_
    have hm : (if xs.getD j 0 < minTo xs k then xs.getD j 0 else minTo xs k) = minTo xs j := by
      rw [← hj, minTo]
    simp (maxSteps := 2000000) only [s90, ↓Za, ↓Zo, ↓Zr, ↓Ze, ↓Zi, ↓Zs, ↓Zf, ↓Zl, ↓Zg, ↓Zc, ↓Zb, ↓vdn, vup, Zh, Zk, Zm, Zn, Zj, List.map_cons, List.map_nil, cond_true, cond_false, aop, Zv, Zq, Zp, ev, sput, Zt, Zz, Yb, unK, Zd, Zw, Nat.reduceBEq, Nat.reduceAdd, Int.reduceBEq, Int.reduceBNe, Int.reduceLT, Zu, Ya, tup, tyf, hu.idx Xu Xp hk', hu.load Xl hk', mmK, Bool.false_eq_true, if_false, gt_iff_lt, hm]
    refine hB [(0, u), (2, .int .i64 0), (3, Zx (minTo xs j)), (4, Zx (j : Nat))] _ _ ?_ (by simp (maxSteps := 2000000) only [↓Za, ↓Zo, ↓Zr, ↓Ze, ↓Zi, ↓Zs, ↓Zf, ↓Zl, ↓Zg, ↓Zc, ↓Zb, ↓vdn, vup, Zh, Zk, Zm, Zn, Zj, List.map_cons, List.map_nil, cond_true, cond_false, aop, Zv, Zq, Zp, ev, sput, Zt, Zz, Yb, unK, Zd, Zw, Nat.reduceBEq, Nat.reduceAdd, Int.reduceBEq, Int.reduceBNe, Int.reduceLT, Zu, Ya, tup, tyf])
    clear hB
    try clear B
    refine Yd ?_
    simp (maxSteps := 2000000) only [s90, ↓Za, ↓Zo, ↓Zr, ↓Ze, ↓Zi, ↓Zs, ↓Zf, ↓Zl, ↓Zg, ↓Zc, ↓Zb, ↓vdn, vup, Zh, Zk, Zm, Zn, Zj, List.map_cons, List.map_nil, cond_true, cond_false, aop, Zv, Zq, Zp, ev, sput, Zt, Zz, Yb, unK, Zd, Zw, Nat.reduceBEq, Nat.reduceAdd, Int.reduceBEq, Int.reduceBNe, Int.reduceLT, Zu, Ya, tup, tyf, add1 (show j < 9223372036854775807 by omega)]
    exact hQ2 _ _ _ ⟨j, hk', by omega, by simp (maxSteps := 2000000) only [↓Za, ↓Zo, ↓Zr, ↓Ze, ↓Zi, ↓Zs, ↓Zf, ↓Zl, ↓Zg, ↓Zc, ↓Zb, ↓vdn, vup, Zh, Zk, Zm, Zn, Zj, List.map_cons, List.map_nil, cond_true, cond_false, aop, Zv, Zq, Zp, ev, sput, Zt, Zz, Yb, unK, Zd, Zw, Nat.reduceBEq, Nat.reduceAdd, Int.reduceBEq, Int.reduceBNe, Int.reduceLT, Zu, Ya, tup, tyf], rfl⟩
  · refine Zy fun N6 hN6 => ?_
    simp (maxSteps := 2000000) only [s90, ↓Za, ↓Zo, ↓Zr, ↓Ze, ↓Zi, ↓Zs, ↓Zf, ↓Zl, ↓Zg, ↓Zc, ↓Zb, ↓vdn, vup, Zh, Zk, Zm, Zn, Zj, List.map_cons, List.map_nil, cond_true, cond_false, aop, Zv, Zq, Zp, ev, sput, Zt, Zz, Yb, unK, Zd, Zw, Nat.reduceBEq, Nat.reduceAdd, Int.reduceBEq, Int.reduceBNe, Int.reduceLT, Zu, Ya, tup, tyf, hu.len, hin]
    refine hQ2 _ _ _ (hQ _ _ _ ?_)
    simp (maxSteps := 2000000) only [s90, ↓Za, ↓Zo, ↓Zr, ↓Ze, ↓Zi, ↓Zs, ↓Zf, ↓Zl, ↓Zg, ↓Zc, ↓Zb, ↓vdn, vup, Zh, Zk, Zm, Zn, Zj, List.map_cons, List.map_nil, cond_true, cond_false, aop, Zv, Zq, Zp, ev, sput, Zt, Zz, Yb, unK, Zd, Zw, Nat.reduceBEq, Nat.reduceAdd, Int.reduceBEq, Int.reduceBNe, Int.reduceLT, Zu, Ya, tup, tyf, if_true]
    refine hZ [(0, u), (2, .int .i64 0), (3, Zx (minTo xs k))] _ _ ?_ (by simp (maxSteps := 2000000) only [↓Za, ↓Zo, ↓Zr, ↓Ze, ↓Zi, ↓Zs, ↓Zf, ↓Zl, ↓Zg, ↓Zc, ↓Zb, ↓vdn, vup, Zh, Zk, Zm, Zn, Zj, List.map_cons, List.map_nil, cond_true, cond_false, aop, Zv, Zq, Zp, ev, sput, Zt, Zz, Yb, unK, Zd, Zw, Nat.reduceBEq, Nat.reduceAdd, Int.reduceBEq, Int.reduceBNe, Int.reduceLT, Zu, Ya, tup, tyf])
    clear hZ
    try clear Z
    have hn : xs.length - 1 = k := by omega
    rw [hn]
    refine Yd ?_
    simp (maxSteps := 2000000) only [s90, ↓Za, ↓Zo, ↓Zr, ↓Ze, ↓Zi, ↓Zs, ↓Zf, ↓Zl, ↓Zg, ↓Zc, ↓Zb, ↓vdn, vup, Zh, Zk, Zm, Zn, Zj, List.map_cons, List.map_nil, cond_true, cond_false, aop, Zv, Zq, Zp, ev, sput, Zt, Zz, Yb, unK, Zd, Zw, Nat.reduceBEq, Nat.reduceAdd, Int.reduceBEq, Int.reduceBNe, Int.reduceLT, Zu, Ya, tup, tyf]

def maxTo (xs : List Int) : Nat → Int
  | 0 => xs.getD 0 0
  | k + 1 => if xs.getD (k + 1) 0 > maxTo xs k then xs.getD (k + 1) 0 else maxTo xs k
theorem maxTo_spec (xs : List Int) : ∀ k, (∀ i, i ≤ k → xs.getD i 0 ≤ maxTo xs k) ∧ ∃ i, i ≤ k ∧ maxTo xs k = xs.getD i 0
  | 0 => ⟨fun i hi => by obtain rfl : i = 0 := by omega
                         rw [maxTo]; exact Int.le_refl _, 0, Nat.le_refl _, rfl⟩
  | k + 1 => by
    obtain ⟨h1, j, hj, h2⟩ := maxTo_spec xs k
    rw [maxTo]
    by_cases h : xs.getD (k + 1) 0 > maxTo xs k
    · rw [if_pos h]
      refine ⟨fun i hi => ?_, k + 1, Nat.le_refl _, rfl⟩
      by_cases hik : i = k + 1
      · subst hik; exact Int.le_refl _
      · have := h1 i (by omega); omega
    · rw [if_neg h]
      refine ⟨fun i hi => ?_, j, by omega, h2⟩
      by_cases hik : i = k + 1
      · subst hik; omega
      · exact h1 i (by omega)
theorem s91_callW [Tabs Try.prog] {args : List Value} {h : Yc} {Q : Value → Yc → Prop} (hsz : args.length ≤ 25) (hk : AWS Try.prog 25 s91 (Zu Try.prog [.tmp 2] Q) (Zp 0 args) h) : ACall Try.prog 91 args h Q :=
  Yx Try.func91 rfl (enters_of Try.func91 (by kernel_rfl) rfl) rfl rfl (by decide) s91_strip s91_ok hsz hk
theorem max_call [Tabs prog] {h : Yc} {u : Value} {xs : List Int} (hu : IntSl h u xs) (h0 : 0 < xs.length) (hl : xs.length < 9223372036854775808) : Xa prog 91 [u] h (Zx (maxTo xs (xs.length - 1))) := by
  refine s91_callW (by simp) ?_
  simp only [s91]
  refine Zy fun N7 hN7 => ?_
  simp (maxSteps := 2000000) only [s91, ↓Za, ↓Zo, ↓Zr, ↓Ze, ↓Zi, ↓Zs, ↓Zf, ↓Zl, ↓Zg, ↓Zc, ↓Zb, ↓vdn, vup, Zh, Zk, Zm, Zn, Zj, List.map_cons, List.map_nil, cond_true, cond_false, aop, Zv, Zq, Zp, ev, sput, Zt, Zz, Yb, unK, Zd, Zw, Nat.reduceBEq, Nat.reduceAdd, Int.reduceBEq, Int.reduceBNe, Int.reduceLT, Zu, Ya, tup, tyf]
  refine hN7 [(0, u), (2, .int .i64 0)] _ _ ?_ (by simp (maxSteps := 2000000) only [↓Za, ↓Zo, ↓Zr, ↓Ze, ↓Zi, ↓Zs, ↓Zf, ↓Zl, ↓Zg, ↓Zc, ↓Zb, ↓vdn, vup, Zh, Zk, Zm, Zn, Zj, List.map_cons, List.map_nil, cond_true, cond_false, aop, Zv, Zq, Zp, ev, sput, Zt, Zz, Yb, unK, Zd, Zw, Nat.reduceBEq, Nat.reduceAdd, Int.reduceBEq, Int.reduceBNe, Int.reduceLT, Zu, Ya, tup, tyf])
  clear hN7
  try clear N7
  have h1 : ¬ (xs.length : Int) < 1 := by omega
  refine Ye fun M hM => ?_
  refine Zy fun N8 hN8 => ?_
  simp (maxSteps := 2000000) only [s91, ↓Za, ↓Zo, ↓Zr, ↓Ze, ↓Zi, ↓Zs, ↓Zf, ↓Zl, ↓Zg, ↓Zc, ↓Zb, ↓vdn, vup, Zh, Zk, Zm, Zn, Zj, List.map_cons, List.map_nil, cond_true, cond_false, aop, Zv, Zq, Zp, ev, sput, Zt, Zz, Yb, unK, Zd, Zw, Nat.reduceBEq, Nat.reduceAdd, Int.reduceBEq, Int.reduceBNe, Int.reduceLT, Zu, Ya, tup, tyf, hu.len, h1]
  refine hN8 [(0, u), (2, .int .i64 0), (7, .bool false)] _ _ ?_ (by simp (maxSteps := 2000000) only [↓Za, ↓Zo, ↓Zr, ↓Ze, ↓Zi, ↓Zs, ↓Zf, ↓Zl, ↓Zg, ↓Zc, ↓Zb, ↓vdn, vup, Zh, Zk, Zm, Zn, Zj, List.map_cons, List.map_nil, cond_true, cond_false, aop, Zv, Zq, Zp, ev, sput, Zt, Zz, Yb, unK, Zd, Zw, Nat.reduceBEq, Nat.reduceAdd, Int.reduceBEq, Int.reduceBNe, Int.reduceLT, Zu, Ya, tup, tyf])
  clear hN8
  try clear N8
  refine Xs rfl ?_
  refine Yd ?_
  simp (maxSteps := 2000000) only [s91, ↓Za, ↓Zo, ↓Zr, ↓Ze, ↓Zi, ↓Zs, ↓Zf, ↓Zl, ↓Zg, ↓Zc, ↓Zb, ↓vdn, vup, Zh, Zk, Zm, Zn, Zj, List.map_cons, List.map_nil, cond_true, cond_false, aop, Zv, Zq, Zp, ev, sput, Zt, Zz, Yb, unK, Zd, Zw, Nat.reduceBEq, Nat.reduceAdd, Int.reduceBEq, Int.reduceBNe, Int.reduceLT, Zu, Ya, tup, tyf]
  refine hM [(0, u), (2, .int .i64 0)] _ _ ?_ (by simp (maxSteps := 2000000) only [↓Za, ↓Zo, ↓Zr, ↓Ze, ↓Zi, ↓Zs, ↓Zf, ↓Zl, ↓Zg, ↓Zc, ↓Zb, ↓vdn, vup, Zh, Zk, Zm, Zn, Zj, List.map_cons, List.map_nil, cond_true, cond_false, aop, Zv, Zq, Zp, ev, sput, Zt, Zz, Yb, unK, Zd, Zw, Nat.reduceBEq, Nat.reduceAdd, Int.reduceBEq, Int.reduceBNe, Int.reduceLT, Zu, Ya, tup, tyf])
  clear hM
  try clear M
  have hi0 := fun K => hu.idx Xu Xp (k := .i64) h0 K
  rw [Int.natCast_zero] at hi0
  refine Zy fun N9 hN9 => ?_
  simp (maxSteps := 2000000) only [s91, ↓Za, ↓Zo, ↓Zr, ↓Ze, ↓Zi, ↓Zs, ↓Zf, ↓Zl, ↓Zg, ↓Zc, ↓Zb, ↓vdn, vup, Zh, Zk, Zm, Zn, Zj, List.map_cons, List.map_nil, cond_true, cond_false, aop, Zv, Zq, Zp, ev, sput, Zt, Zz, Yb, unK, Zd, Zw, Nat.reduceBEq, Nat.reduceAdd, Int.reduceBEq, Int.reduceBNe, Int.reduceLT, Zu, Ya, tup, tyf, hi0, hu.load Xl h0]
  refine hN9 [(0, u), (2, .int .i64 0), (3, Zx (xs.getD 0 0))] _ _ ?_ (by simp (maxSteps := 2000000) only [↓Za, ↓Zo, ↓Zr, ↓Ze, ↓Zi, ↓Zs, ↓Zf, ↓Zl, ↓Zg, ↓Zc, ↓Zb, ↓vdn, vup, Zh, Zk, Zm, Zn, Zj, List.map_cons, List.map_nil, cond_true, cond_false, aop, Zv, Zq, Zp, ev, sput, Zt, Zz, Yb, unK, Zd, Zw, Nat.reduceBEq, Nat.reduceAdd, Int.reduceBEq, Int.reduceBNe, Int.reduceLT, Zu, Ya, tup, tyf])
  clear hN9
  try clear N9
  refine Ye fun Z hZ => ?_
  refine Zy fun N10 hN10 => ?_
  simp (maxSteps := 2000000) only [s91, ↓Za, ↓Zo, ↓Zr, ↓Ze, ↓Zi, ↓Zs, ↓Zf, ↓Zl, ↓Zg, ↓Zc, ↓Zb, ↓vdn, vup, Zh, Zk, Zm, Zn, Zj, List.map_cons, List.map_nil, cond_true, cond_false, aop, Zv, Zq, Zp, ev, sput, Zt, Zz, Yb, unK, Zd, Zw, Nat.reduceBEq, Nat.reduceAdd, Int.reduceBEq, Int.reduceBNe, Int.reduceLT, Zu, Ya, tup, tyf]
  refine hN10 [(0, u), (2, .int .i64 0), (3, Zx (xs.getD 0 0)), (4, .int .i64 1)] _ _ ?_ (by simp (maxSteps := 2000000) only [↓Za, ↓Zo, ↓Zr, ↓Ze, ↓Zi, ↓Zs, ↓Zf, ↓Zl, ↓Zg, ↓Zc, ↓Zb, ↓vdn, vup, Zh, Zk, Zm, Zn, Zj, List.map_cons, List.map_nil, cond_true, cond_false, aop, Zv, Zq, Zp, ev, sput, Zt, Zz, Yb, unK, Zd, Zw, Nat.reduceBEq, Nat.reduceAdd, Int.reduceBEq, Int.reduceBNe, Int.reduceLT, Zu, Ya, tup, tyf])
  clear hN10
  try clear N10
  refine Yf ?_
  refine Yh fun Q hQ => ?_
  refine Yv (γ := Nat) (fun k => k < xs.length)
    (fun k => ([(0, u), (2, .int .i64 0), (3, Zx (maxTo xs k)), (4, Zx ((k + 1 : Nat) : Int))], h)) (fun k => xs.length - k) 0 h0 (by simp (maxSteps := 2000000) only [↓Za, ↓Zo, ↓Zr, ↓Ze, ↓Zi, ↓Zs, ↓Zf, ↓Zl, ↓Zg, ↓Zc, ↓Zb, ↓vdn, vup, Zh, Zk, Zm, Zn, Zj, List.map_cons, List.map_nil, cond_true, cond_false, aop, Zv, Zq, Zp, ev, sput, Zt, Zz, Yb, unK, Zd, Zw, Nat.reduceBEq, Nat.reduceAdd, Int.reduceBEq, Int.reduceBNe, Int.reduceLT, Zu, Ya, tup, tyf, maxTo, Nat.zero_add, Int.natCast_one]) rfl ?_
  rintro k hk
  refine Yh fun Q2 hQ2 => ?_
  simp only [l91_0]
  obtain ⟨j, hj⟩ : ∃ j, k + 1 = j := ⟨_, rfl⟩
  rw [hj]
  by_cases hin : (j : Int) < xs.length
  · have hk' : j < xs.length := by omega
    refine Ye fun C hC => ?_
    refine Zy fun N11 hN11 => ?_
    simp (maxSteps := 2000000) only [s91, ↓Za, ↓Zo, ↓Zr, ↓Ze, ↓Zi, ↓Zs, ↓Zf, ↓Zl, ↓Zg, ↓Zc, ↓Zb, ↓vdn, vup, Zh, Zk, Zm, Zn, Zj, List.map_cons, List.map_nil, cond_true, cond_false, aop, Zv, Zq, Zp, ev, sput, Zt, Zz, Yb, unK, Zd, Zw, Nat.reduceBEq, Nat.reduceAdd, Int.reduceBEq, Int.reduceBNe, Int.reduceLT, Zu, Ya, tup, tyf, hu.len, hin]
    refine hN11 [(0, u), (2, .int .i64 0), (3, Zx (maxTo xs k)), (4, Zx (j : Nat)), (15, .bool true)] _ _ ?_ (by simp (maxSteps := 2000000) only [↓Za, ↓Zo, ↓Zr, ↓Ze, ↓Zi, ↓Zs, ↓Zf, ↓Zl, ↓Zg, ↓Zc, ↓Zb, ↓vdn, vup, Zh, Zk, Zm, Zn, Zj, List.map_cons, List.map_nil, cond_true, cond_false, aop, Zv, Zq, Zp, ev, sput, Zt, Zz, Yb, unK, Zd, Zw, Nat.reduceBEq, Nat.reduceAdd, Int.reduceBEq, Int.reduceBNe, Int.reduceLT, Zu, Ya, tup, tyf])
    clear hN11
    try clear N11
    refine Yd ?_
    simp (maxSteps := 2000000) only [s91, ↓Za, ↓Zo, ↓Zr, ↓Ze, ↓Zi, ↓Zs, ↓Zf, ↓Zl, ↓Zg, ↓Zc, ↓Zb, ↓vdn, vup, Zh, Zk, Zm, Zn, Zj, List.map_cons, List.map_nil, cond_true, cond_false, aop, Zv, Zq, Zp, ev, sput, Zt, Zz, Yb, unK, Zd, Zw, Nat.reduceBEq, Nat.reduceAdd, Int.reduceBEq, Int.reduceBNe, Int.reduceLT, Zu, Ya, tup, tyf]
    refine hC [(0, u), (2, .int .i64 0), (3, Zx (maxTo xs k)), (4, Zx (j : Nat))] _ _ ?_ (by simp (maxSteps := 2000000) only [↓Za, ↓Zo, ↓Zr, ↓Ze, ↓Zi, ↓Zs, ↓Zf, ↓Zl, ↓Zg, ↓Zc, ↓Zb, ↓vdn, vup, Zh, Zk, Zm, Zn, Zj, List.map_cons, List.map_nil, cond_true, cond_false, aop, Zv, Zq, Zp, ev, sput, Zt, Zz, Yb, unK, Zd, Zw, Nat.reduceBEq, Nat.reduceAdd, Int.reduceBEq, Int.reduceBNe, Int.reduceLT, Zu, Ya, tup, tyf])
    clear hC
    try clear C
    refine Ye fun B hB => ?_
    refine Yf ?_
    refine Yd ?_
    have hm : (if xs.getD j 0 > maxTo xs k then xs.getD j 0 else maxTo xs k) = maxTo xs j := by
      rw [← hj, maxTo]
    simp (maxSteps := 2000000) only [s91, ↓Za, ↓Zo, ↓Zr, ↓Ze, ↓Zi, ↓Zs, ↓Zf, ↓Zl, ↓Zg, ↓Zc, ↓Zb, ↓vdn, vup, Zh, Zk, Zm, Zn, Zj, List.map_cons, List.map_nil, cond_true, cond_false, aop, Zv, Zq, Zp, ev, sput, Zt, Zz, Yb, unK, Zd, Zw, Nat.reduceBEq, Nat.reduceAdd, Int.reduceBEq, Int.reduceBNe, Int.reduceLT, Zu, Ya, tup, tyf, hu.idx Xu Xp hk', hu.load Xl hk', mmK, if_true, gt_iff_lt, hm]
    refine hB [(0, u), (2, .int .i64 0), (3, Zx (maxTo xs j)), (4, Zx (j : Nat))] _ _ ?_ (by simp (maxSteps := 2000000) only [↓Za, ↓Zo, ↓Zr, ↓Ze, ↓Zi, ↓Zs, ↓Zf, ↓Zl, ↓Zg, ↓Zc, ↓Zb, ↓vdn, vup, Zh, Zk, Zm, Zn, Zj, List.map_cons, List.map_nil, cond_true, cond_false, aop, Zv, Zq, Zp, ev, sput, Zt, Zz, Yb, unK, Zd, Zw, Nat.reduceBEq, Nat.reduceAdd, Int.reduceBEq, Int.reduceBNe, Int.reduceLT, Zu, Ya, tup, tyf])
    clear hB
    try clear B
    refine Yd ?_
    simp (maxSteps := 2000000) only [s91, ↓Za, ↓Zo, ↓Zr, ↓Ze, ↓Zi, ↓Zs, ↓Zf, ↓Zl, ↓Zg, ↓Zc, ↓Zb, ↓vdn, vup, Zh, Zk, Zm, Zn, Zj, List.map_cons, List.map_nil, cond_true, cond_false, aop, Zv, Zq, Zp, ev, sput, Zt, Zz, Yb, unK, Zd, Zw, Nat.reduceBEq, Nat.reduceAdd, Int.reduceBEq, Int.reduceBNe, Int.reduceLT, Zu, Ya, tup, tyf, add1 (show j < 9223372036854775807 by omega)]
    exact hQ2 _ _ _ ⟨j, hk', by omega, by simp (maxSteps := 2000000) only [↓Za, ↓Zo, ↓Zr, ↓Ze, ↓Zi, ↓Zs, ↓Zf, ↓Zl, ↓Zg, ↓Zc, ↓Zb, ↓vdn, vup, Zh, Zk, Zm, Zn, Zj, List.map_cons, List.map_nil, cond_true, cond_false, aop, Zv, Zq, Zp, ev, sput, Zt, Zz, Yb, unK, Zd, Zw, Nat.reduceBEq, Nat.reduceAdd, Int.reduceBEq, Int.reduceBNe, Int.reduceLT, Zu, Ya, tup, tyf], rfl⟩
  · refine Zy fun N12 hN12 => ?_
    simp (maxSteps := 2000000) only [s91, ↓Za, ↓Zo, ↓Zr, ↓Ze, ↓Zi, ↓Zs, ↓Zf, ↓Zl, ↓Zg, ↓Zc, ↓Zb, ↓vdn, vup, Zh, Zk, Zm, Zn, Zj, List.map_cons, List.map_nil, cond_true, cond_false, aop, Zv, Zq, Zp, ev, sput, Zt, Zz, Yb, unK, Zd, Zw, Nat.reduceBEq, Nat.reduceAdd, Int.reduceBEq, Int.reduceBNe, Int.reduceLT, Zu, Ya, tup, tyf, hu.len, hin]
    refine hQ2 _ _ _ (hQ _ _ _ ?_)
    simp (maxSteps := 2000000) only [s91, ↓Za, ↓Zo, ↓Zr, ↓Ze, ↓Zi, ↓Zs, ↓Zf, ↓Zl, ↓Zg, ↓Zc, ↓Zb, ↓vdn, vup, Zh, Zk, Zm, Zn, Zj, List.map_cons, List.map_nil, cond_true, cond_false, aop, Zv, Zq, Zp, ev, sput, Zt, Zz, Yb, unK, Zd, Zw, Nat.reduceBEq, Nat.reduceAdd, Int.reduceBEq, Int.reduceBNe, Int.reduceLT, Zu, Ya, tup, tyf, if_true]
    refine hZ [(0, u), (2, .int .i64 0), (3, Zx (maxTo xs k))] _ _ ?_ (by simp (maxSteps := 2000000) only [↓Za, ↓Zo, ↓Zr, ↓Ze, ↓Zi, ↓Zs, ↓Zf, ↓Zl, ↓Zg, ↓Zc, ↓Zb, ↓vdn, vup, Zh, Zk, Zm, Zn, Zj, List.map_cons, List.map_nil, cond_true, cond_false, aop, Zv, Zq, Zp, ev, sput, Zt, Zz, Yb, unK, Zd, Zw, Nat.reduceBEq, Nat.reduceAdd, Int.reduceBEq, Int.reduceBNe, Int.reduceLT, Zu, Ya, tup, tyf])
    clear hZ
    try clear Z
    have hn : xs.length - 1 = k := by omega
    rw [hn]
    refine Yd ?_
    simp (maxSteps := 2000000) only [s91, ↓Za, ↓Zo, ↓Zr, ↓Ze, ↓Zi, ↓Zs, ↓Zf, ↓Zl, ↓Zg, ↓Zc, ↓Zb, ↓vdn, vup, Zh, Zk, Zm, Zn, Zj, List.map_cons, List.map_nil, cond_true, cond_false, aop, Zv, Zq, Zp, ev, sput, Zt, Zz, Yb, unK, Zd, Zw, Nat.reduceBEq, Nat.reduceAdd, Int.reduceBEq, Int.reduceBNe, Int.reduceLT, Zu, Ya, tup, tyf]

end Go.Proofs.Try.Am

namespace Go.Proofs.Try.Am
open Go.Am Bq
set_option maxRecDepth 100000
set_option maxHeartbeats 1000000

section
variable (h : Yc) (A B C : Blk)
theorem b2_0 : (h ++ [A] ++ [B])[h.length]? = some A := by simp
theorem b2_1 : (h ++ [A] ++ [B])[h.length + 1]? = some B := by simp
theorem b3_0 : (h ++ [A] ++ [B] ++ [C])[h.length]? = some A := by simp
theorem b3_1 : (h ++ [A] ++ [B] ++ [C])[h.length + 1]? = some B := by simp
theorem b3_2 : (h ++ [A] ++ [B] ++ [C])[h.length + 2]? = some C := by simp
theorem e2 : Ext (fun _ => False) h (h ++ [A] ++ [B]) := by rw [List.append_assoc]; exact Ext.app _ _ _
theorem e3 : Ext (fun _ => False) h (h ++ [A] ++ [B] ++ [C]) := by rw [List.append_assoc, List.append_assoc]; exact Ext.app _ _ _
end
abbrev fC (x y : Int) : Blk := .cells [Zx x, Zx y] 26 false
abbrev z0 : Blk := .cells [.int .i64 0, .int .i64 0] 26 false

theorem quoD {x y : Nat} (hx : x < 9223372036854775808) (hd : y ∣ x) : quoV .i64 (x : Int) (y : Int) = ((x / y : Nat) : Int) := by
  rw [quo_dvd (by omega) (Int.natCast_dvd_natCast.2 hd), Int.natCast_ediv]
theorem mulN {a b : Int} (h : (a * b).natAbs < 9223372036854775808) : mulV .i64 a b = a * b := mulV_id (by omega) (by omega)
theorem addN {a b : Int} (h : a.natAbs + b.natAbs < 9223372036854775808) : addV .i64 a b = a + b := addV_id (by omega) (by omega)
theorem subN {a b : Int} (h : a.natAbs + b.natAbs < 9223372036854775808) : subV .i64 a b = a - b := subV_id (by omega) (by omega)

theorem s71_callW [Tabs Try.prog] {args : List Value} {h : Yc} {Q : Value → Yc → Prop} (hsz : args.length ≤ 38) (hk : AWS Try.prog 38 s71 (Zu Try.prog [.cell 6 26] Q) (Zp 0 args) h) : ACall Try.prog 71 args h Q :=
  Yx Try.func71 rfl (enters_of Try.func71 (by kernel_rfl) rfl) rfl rfl (by decide) s71_strip s71_ok hsz hk
theorem plus_call [Tabs prog] {h : Yc} {a b : Rat} {k x y : Int} {N : Nat} (ha : Rp N x a) (hb : Rp N y b) (hx : x.natAbs + (k * y).natAbs < 9223372036854775808) (hN : N < 9223372036854775808) : Xa prog 71 [qV a, Zx k, qV b] h (qV (a + k * b)) := by
  obtain ⟨p1, p2, p3, p4, p5⟩ := plus_bound (k := k) ha hb
  have da := ha.den_le
  have db := hb.den_le
  have hg := Nat.gcd_pos_of_pos_left b.den a.den_pos
  have pe := plus_eq a b k
  obtain ⟨H, hH⟩ : ∃ H, H = h ++ [fC a.num a.den] ++ [fC b.num b.den] ++ [z0] := ⟨_, rfl⟩
  have c3 : H[h.length]? = some (fC a.num a.den) := by rw [hH]; exact b3_0 ..
  have c5 : H[h.length + 1]? = some (fC b.num b.den) := by rw [hH]; exact b3_1 ..
  have c6 : H[h.length + 2]? = some z0 := by rw [hH]; exact b3_2 ..
  have hE : Ext (fun _ => False) h H := by rw [hH]; exact e3 ..
  have hg0 : ¬ ((Nat.gcd a.den b.den : Nat) : Int) = 0 := by omega
  have q1 := quoD (x := b.den) (show b.den < 9223372036854775808 by omega) (Nat.gcd_dvd_right a.den b.den)
  have q2 := quoD (x := a.den) (show a.den < 9223372036854775808 by omega) (Nat.gcd_dvd_left a.den b.den)
  have m1 := mulN (a := a.num) (b := ((b.den / Nat.gcd a.den b.den : Nat) : Int)) (by omega)
  have m2 := mulN (a := k) (b := b.num) (by omega)
  have m3 := mulN (a := k * b.num) (b := ((a.den / Nat.gcd a.den b.den : Nat) : Int)) (by omega)
  have m4 := addN (a := a.num * ((b.den / Nat.gcd a.den b.den : Nat) : Int)) (b := k * b.num * ((a.den / Nat.gcd a.den b.den : Nat) : Int)) (by omega)
  have m5 : mulV .i64 ((a.den / Nat.gcd a.den b.den : Nat) : Int) (b.den : Int) = ((a.den / Nat.gcd a.den b.den * b.den : Nat) : Int) := by
    rw [mulN (by rw [← Int.natCast_mul]; omega), Int.natCast_mul]
  have pe' : Rat.divInt (a.num * ((b.den / Nat.gcd a.den b.den : Nat) : Int) + k * b.num * ((a.den / Nat.gcd a.den b.den : Nat) : Int)) ((a.den / Nat.gcd a.den b.den * b.den : Nat) : Int) = a + k * b := by
    rw [Int.natCast_mul]; exact pe
  have fc := Wr (h := H) (a := a.num * ((b.den / Nat.gcd a.den b.den : Nat) : Int) + k * b.num * ((a.den / Nat.gcd a.den b.den : Nat) : Int)) (b := ((a.den / Nat.gcd a.den b.den * b.den : Nat) : Int)) (by omega) (by omega) (by omega)
  rw [pe'] at fc
  obtain ⟨q, hq⟩ : ∃ q, a + (k : Rat) * b = q := ⟨_, rfl⟩
  rw [hq] at fc ⊢
  refine ACall.forget (low_frV _ _) ?_
  refine s71_callW (by simp) ?_
  simp only [s71]
  refine Zy fun N1 hN1 => ?_
  simp (maxSteps := 2000000) only [s71, ↓Za, ↓Zo, ↓Zr, ↓Ze, ↓Zi, ↓Zs, ↓Zf, ↓Zl, ↓Zg, ↓Zc, ↓Zb, ↓vdn, vup, Zh, Zk, Zm, Zn, Zj, List.map_cons, List.map_nil, cond_true, cond_false, aop, Zv, Zq, Zp, ev, sput, Zt, Zz, Yb, unK, Zd, Zw, Nat.reduceBEq, Nat.reduceAdd, Int.reduceBEq, Int.reduceBNe, Int.reduceLT, Zu, Ya, tup, tyf, qV, frV, boxF, Xw, Xe, Xx, List.length_append, List.length_singleton, Nat.add_assoc]
  rw [← hH]
  refine hN1 [(1, Zx k), (3, .pointer (some ⟨h.length, 0, none⟩)), (5, .pointer (some ⟨h.length + 1, 0, none⟩)), (6, .pointer (some ⟨h.length + 2, 0, none⟩))] _ _ ?_ (by simp (maxSteps := 2000000) only [↓Za, ↓Zo, ↓Zr, ↓Ze, ↓Zi, ↓Zs, ↓Zf, ↓Zl, ↓Zg, ↓Zc, ↓Zb, ↓vdn, vup, Zh, Zk, Zm, Zn, Zj, List.map_cons, List.map_nil, cond_true, cond_false, aop, Zv, Zq, Zp, ev, sput, Zt, Zz, Yb, unK, Zd, Zw, Nat.reduceBEq, Nat.reduceAdd, Int.reduceBEq, Int.reduceBNe, Int.reduceLT, Zu, Ya, tup, tyf])
  clear hN1
  try clear N1
  refine Zy fun N2 hN2 => ?_
  simp (maxSteps := 2000000) only [s71, ↓Za, ↓Zo, ↓Zr, ↓Ze, ↓Zi, ↓Zs, ↓Zf, ↓Zl, ↓Zg, ↓Zc, ↓Zb, ↓vdn, vup, Zh, Zk, Zm, Zn, Zj, List.map_cons, List.map_nil, cond_true, cond_false, aop, Zv, Zq, Zp, ev, sput, Zt, Zz, Yb, unK, Zd, Zw, Nat.reduceBEq, Nat.reduceAdd, Int.reduceBEq, Int.reduceBNe, Int.reduceLT, Zu, Ya, tup, tyf, Yr, List.nil_append, List.append_nil, List.toList_toArray, List.cons_append, fA0, fA1, Vk c3, Vk c5]
  refine (gcd_call (.inl (by omega)) (by omega)).mono ?_
  rintro _ _ ⟨rfl, rfl⟩
  rw [Int.natAbs_natCast, Int.natAbs_natCast]
  refine hN2 [(1, Zx k), (3, .pointer (some ⟨h.length, 0, none⟩)), (5, .pointer (some ⟨h.length + 1, 0, none⟩)), (6, .pointer (some ⟨h.length + 2, 0, none⟩)), (7, Zx (Nat.gcd a.den b.den : Nat))] _ _ ?_ (by simp (maxSteps := 2000000) only [↓Za, ↓Zo, ↓Zr, ↓Ze, ↓Zi, ↓Zs, ↓Zf, ↓Zl, ↓Zg, ↓Zc, ↓Zb, ↓vdn, vup, Zh, Zk, Zm, Zn, Zj, List.map_cons, List.map_nil, cond_true, cond_false, aop, Zv, Zq, Zp, ev, sput, Zt, Zz, Yb, unK, Zd, Zw, Nat.reduceBEq, Nat.reduceAdd, Int.reduceBEq, Int.reduceBNe, Int.reduceLT, Zu, Ya, tup, tyf])
  clear hN2
  try clear N2
  refine Yd ?_
  simp only [q71_2]
  refine aw_cut fun N hN => ?_
  refine Xd [(24, 1)] (by kernel_rfl) (by kernel_rfl) (by kernel_rfl) (by kernel_rfl) ?_
  simp (maxSteps := 2000000) only [s71, ↓Za, ↓Zo, ↓Zr, ↓Ze, ↓Zi, ↓Zs, ↓Zf, ↓Zl, ↓Zg, ↓Zc, ↓Zb, ↓vdn, vup, Zh, Zk, Zm, Zn, Zj, List.map_cons, List.map_nil, cond_true, cond_false, aop, Zv, Zq, Zp, ev, sput, Zt, Zz, Yb, unK, Zd, Zw, Nat.reduceBEq, Nat.reduceAdd, Int.reduceBEq, Int.reduceBNe, Int.reduceLT, Zu, Ya, tup, tyf, fA0, fA1, Vk c3, Vk c5, Vc c3, Vc c5, ne_eq, hg0, not_false_eq_true, q1, q2, m1, m2, m3, m4, m5, Yr, List.nil_append, List.append_nil, List.toList_toArray, List.cons_append]
  refine ⟨_, _, fc, rfl, ?_⟩
  simp (maxSteps := 2000000) only [s71, ↓Za, ↓Zo, ↓Zr, ↓Ze, ↓Zi, ↓Zs, ↓Zf, ↓Zl, ↓Zg, ↓Zc, ↓Zb, ↓vdn, vup, Zh, Zk, Zm, Zn, Zj, List.map_cons, List.map_nil, cond_true, cond_false, aop, Zv, Zq, Zp, ev, sput, Zt, Zz, Yb, unK, Zd, Zw, Nat.reduceBEq, Nat.reduceAdd, Int.reduceBEq, Int.reduceBNe, Int.reduceLT, Zu, Ya, tup, tyf, qV, frV, Wb c6 rfl]
  refine hN _ _ ?_
  simp (maxSteps := 2000000) only [s71, ↓Za, ↓Zo, ↓Zr, ↓Ze, ↓Zi, ↓Zs, ↓Zf, ↓Zl, ↓Zg, ↓Zc, ↓Zb, ↓vdn, vup, Zh, Zk, Zm, Zn, Zj, List.map_cons, List.map_nil, cond_true, cond_false, aop, Zv, Zq, Zp, ev, sput, Zt, Zz, Yb, unK, Zd, Zw, Nat.reduceBEq, Nat.reduceAdd, Int.reduceBEq, Int.reduceBNe, Int.reduceLT, Zu, Ya, tup, tyf, Wz (Xq (Yp c6) _)]
  exact ⟨rfl, hE.set_ge (by omega) _⟩

/-- The product fits. -/
def Fits (q : Rat) : Prop := q.num.natAbs < 9223372036854775808 ∧ q.den < 9223372036854775808
theorem s72_callW [Tabs Try.prog] {args : List Value} {h : Yc} {Q : Value → Yc → Prop} (hsz : args.length ≤ 28) (hk : AWS Try.prog 28 s72 (Zu Try.prog [.cell 4 26] Q) (Zp 0 args) h) : ACall Try.prog 72 args h Q :=
  Yx Try.func72 rfl (enters_of Try.func72 (by kernel_rfl) rfl) rfl rfl (by decide) s72_strip s72_ok hsz hk
theorem times_call [Tabs prog] {h : Yc} {a b : Rat} (ha : Fits a) (hb : Fits b) (hab : Fits (a * b)) : Xa prog 72 [qV a, qV b] h (qV (a * b)) := by
  have da := a.den_nz
  have db := b.den_nz
  obtain ⟨t1, t2⟩ := times_eq a b
  have f1 : ∀ h : Yc, Xa prog 64 [Zx a.num, Zx b.den] h (qV (Rat.divInt a.num b.den)) := fun h => Wr (by omega) ha.1 (by have := hb.2; omega)
  have f2 : ∀ h : Yc, Xa prog 64 [Zx b.num, Zx a.den] h (qV (Rat.divInt b.num a.den)) := fun h => Wr (by omega) hb.1 (by have := ha.2; omega)
  obtain ⟨u, hu⟩ : ∃ u, Rat.divInt a.num b.den = u := ⟨_, rfl⟩
  obtain ⟨v, hv⟩ : ∃ v, Rat.divInt b.num a.den = v := ⟨_, rfl⟩
  rw [hu] at f1 t1 t2
  rw [hv] at f2 t1 t2
  have m1 : mulV .i64 u.num v.num = (a * b).num := by rw [← t1]; exact mulN (by rw [t1]; exact hab.1)
  have m2 : mulV .i64 (u.den : Int) (v.den : Int) = ((a * b).den : Int) := by
    rw [← t2, Int.natCast_mul]; exact mulN (by rw [← Int.natCast_mul, t2]; have := hab.2; omega)
  obtain ⟨q, hq⟩ : ∃ q, a * b = q := ⟨_, rfl⟩
  rw [hq] at m1 m2 ⊢
  obtain ⟨H, hH⟩ : ∃ H, H = h ++ [fC a.num a.den] ++ [fC b.num b.den] ++ [z0] := ⟨_, rfl⟩
  have c2 : H[h.length]? = some (fC a.num a.den) := by rw [hH]; exact b3_0 ..
  have c3 : H[h.length + 1]? = some (fC b.num b.den) := by rw [hH]; exact b3_1 ..
  have c4 : H[h.length + 2]? = some z0 := by rw [hH]; exact b3_2 ..
  have hE : Ext (fun _ => False) h H := by rw [hH]; exact e3 ..
  have hlen : H.length = h.length + 3 := by rw [hH]; simp
  refine ACall.forget (low_frV _ _) ?_
  refine s72_callW (by simp) ?_
  simp only [s72]
  refine Zy fun N3 hN3 => ?_
  simp (maxSteps := 2000000) only [s72, ↓Za, ↓Zo, ↓Zr, ↓Ze, ↓Zi, ↓Zs, ↓Zf, ↓Zl, ↓Zg, ↓Zc, ↓Zb, ↓vdn, vup, Zh, Zk, Zm, Zn, Zj, List.map_cons, List.map_nil, cond_true, cond_false, aop, Zv, Zq, Zp, ev, sput, Zt, Zz, Yb, unK, Zd, Zw, Nat.reduceBEq, Nat.reduceAdd, Int.reduceBEq, Int.reduceBNe, Int.reduceLT, Zu, Ya, tup, tyf, qV, frV, boxF, Xw, Xe, Xx, List.length_append, List.length_singleton, Nat.add_assoc]
  rw [← hH]
  refine hN3 [(2, .pointer (some ⟨h.length, 0, none⟩)), (3, .pointer (some ⟨h.length + 1, 0, none⟩)), (4, .pointer (some ⟨h.length + 2, 0, none⟩))] _ _ ?_ (by simp (maxSteps := 2000000) only [↓Za, ↓Zo, ↓Zr, ↓Ze, ↓Zi, ↓Zs, ↓Zf, ↓Zl, ↓Zg, ↓Zc, ↓Zb, ↓vdn, vup, Zh, Zk, Zm, Zn, Zj, List.map_cons, List.map_nil, cond_true, cond_false, aop, Zv, Zq, Zp, ev, sput, Zt, Zz, Yb, unK, Zd, Zw, Nat.reduceBEq, Nat.reduceAdd, Int.reduceBEq, Int.reduceBNe, Int.reduceLT, Zu, Ya, tup, tyf])
  clear hN3
  try clear N3
  refine Zy fun N4 hN4 => ?_
  refine aw_drawE (fun hp => hp[h.length]? = some (fC a.num a.den) ∧ hp[h.length + 1]? = some (fC b.num b.den)) [(1, 5), (3, 5), (6, 5), (8, 5), (4, 2), (9, 2)] 11 6 [10] (by kernel_rfl) (by kernel_rfl) (by kernel_rfl) (by kernel_rfl) (by kernel_rfl) (by rfl) ⟨c2, c3⟩ ?_
  simp (maxSteps := 2000000) only [s72, ↓Za, ↓Zo, ↓Zr, ↓Ze, ↓Zi, ↓Zs, ↓Zf, ↓Zl, ↓Zg, ↓Zc, ↓Zb, ↓vdn, vup, Zh, Zk, Zm, Zn, Zj, List.map_cons, List.map_nil, cond_true, cond_false, aop, Zv, Zq, Zp, ev, sput, Zt, Zz, Yb, unK, Zd, Zw, Nat.reduceBEq, Nat.reduceAdd, Int.reduceBEq, Int.reduceBNe, Int.reduceLT, Zu, Ya, tup, tyf, fA0, fA1, Yr, List.nil_append, List.append_nil, List.toList_toArray, List.cons_append]
  refine ⟨Zx a.num, fun _ g => by rw [Vc g.1], Zx b.den, fun _ g => by rw [Vk g.2], qV u, fun _ _ => ⟨_, _, f1 _, rfl, rfl⟩, Zx b.num, fun _ g => by rw [Vc g.2], Zx a.den, fun _ g => by rw [Vk g.1], qV v, fun _ _ => ⟨_, _, f2 _, rfl, rfl⟩, ?_⟩
  have k1 : (H ++ [z0] ++ [z0])[H.length]? = some z0 := b2_0 ..
  obtain ⟨H2, hH2⟩ : ∃ H2, H2 = (H ++ [z0] ++ [z0]).set H.length (fC u.num u.den) := ⟨_, rfl⟩
  have k2 : H2[H.length + 1]? = some z0 := by rw [hH2, List.getElem?_set_ne (by omega)]; exact b2_1 ..
  have k3 : H2[H.length]? = some (fC u.num u.den) := by rw [hH2]; exact Xq (by simp) _
  have k4 : Ext (fun _ => False) h H2 := by rw [hH2]; exact (hE.trans (e2 ..)).set_ge (by omega) _
  have k5 : H2[h.length]? = some (fC a.num a.den) ∧ H2[h.length + 1]? = some (fC b.num b.den) ∧ H2[h.length + 2]? = some z0 := by
    rw [hH2, List.getElem?_set_ne (by omega), List.getElem?_set_ne (by omega), List.getElem?_set_ne (by omega)]
    exact ⟨Wa (Wa c2 _) _, Wa (Wa c3 _) _, Wa (Wa c4 _) _⟩
  obtain ⟨H3, hH3⟩ : ∃ H3, H3 = H2.set (H.length + 1) (fC v.num v.den) := ⟨_, rfl⟩
  have l1 : H3[H.length + 1]? = some (fC v.num v.den) := by rw [hH3]; exact Xq (Yp k2) _
  have l2 : H3[H.length]? = some (fC u.num u.den) := by rw [hH3, List.getElem?_set_ne (by omega)]; exact k3
  have l3 : H3[h.length + 2]? = some z0 := by rw [hH3, List.getElem?_set_ne (by omega)]; exact k5.2.2
  have l4 : Ext (fun _ => False) h H3 := by rw [hH3]; exact k4.set_ge (by omega) _
  have l5 : H3[h.length]? = some (fC a.num a.den) ∧ H3[h.length + 1]? = some (fC b.num b.den) := by
    rw [hH3, List.getElem?_set_ne (by omega), List.getElem?_set_ne (by omega)]
    exact ⟨k5.1, k5.2.1⟩
  simp (maxSteps := 2000000) only [s72, ↓Za, ↓Zo, ↓Zr, ↓Ze, ↓Zi, ↓Zs, ↓Zf, ↓Zl, ↓Zg, ↓Zc, ↓Zb, ↓vdn, vup, Zh, Zk, Zm, Zn, Zj, List.map_cons, List.map_nil, cond_true, cond_false, aop, Zv, Zq, Zp, ev, sput, Zt, Zz, Yb, unK, Zd, Zw, Nat.reduceBEq, Nat.reduceAdd, Int.reduceBEq, Int.reduceBNe, Int.reduceLT, Zu, Ya, tup, tyf, Xw, Xe, Xx]
  refine ⟨⟨Wa c2 _, Wa c3 _⟩, ⟨Wa (Wa c2 _) _, Wa (Wa c3 _) _⟩, ?_⟩
  simp only [qV, frV, Wb k1 rfl, List.length_append, List.length_singleton]
  rw [← hH2, Wb k2 rfl, ← hH3]
  refine ⟨⟨k5.1, k5.2.1⟩, l5, ?_⟩
  refine hN4 [(2, .pointer (some ⟨h.length, 0, none⟩)), (3, .pointer (some ⟨h.length + 1, 0, none⟩)), (4, .pointer (some ⟨h.length + 2, 0, none⟩)), (5, .pointer (some ⟨H.length, 0, none⟩)), (6, .pointer (some ⟨H.length + 1, 0, none⟩))] _ _ ?_ (by simp (maxSteps := 2000000) only [↓Za, ↓Zo, ↓Zr, ↓Ze, ↓Zi, ↓Zs, ↓Zf, ↓Zl, ↓Zg, ↓Zc, ↓Zb, ↓vdn, vup, Zh, Zk, Zm, Zn, Zj, List.map_cons, List.map_nil, cond_true, cond_false, aop, Zv, Zq, Zp, ev, sput, Zt, Zz, Yb, unK, Zd, Zw, Nat.reduceBEq, Nat.reduceAdd, Int.reduceBEq, Int.reduceBNe, Int.reduceLT, Zu, Ya, tup, tyf])
  clear hN4
  try clear N4
  refine Yd ?_
  simp (maxSteps := 2000000) only [s72, ↓Za, ↓Zo, ↓Zr, ↓Ze, ↓Zi, ↓Zs, ↓Zf, ↓Zl, ↓Zg, ↓Zc, ↓Zb, ↓vdn, vup, Zh, Zk, Zm, Zn, Zj, List.map_cons, List.map_nil, cond_true, cond_false, aop, Zv, Zq, Zp, ev, sput, Zt, Zz, Yb, unK, Zd, Zw, Nat.reduceBEq, Nat.reduceAdd, Int.reduceBEq, Int.reduceBNe, Int.reduceLT, Zu, Ya, tup, tyf, fA0, fA1, Vc l1, Vk l1, Vc l2, Vk l2, m1, m2, List.toList_toArray, bldF, Wb l3 rfl, Wz (Xq (Yp l3) _)]
  exact ⟨rfl, l4.set_ge (by omega) _⟩

theorem fits_inv {a b : Rat} (hb : b ≠ 0) (h : Fits b) : Rat.divInt b.den b.num = b⁻¹ ∧ Fits b⁻¹ := by
  have hn : b.num ≠ 0 := fun hc => hb (Rat.num_eq_zero.1 hc)
  refine ⟨(Rat.inv_def b).symm, ?_, ?_⟩
  · rw [Rat.num_inv, Int.natAbs_mul, Int.natAbs_sign_of_ne_zero hn]
    have := h.2; simpa using this
  · rw [Rat.den_inv, if_neg hn]; exact h.1

theorem s94_callW [Tabs Try.prog] {args : List Value} {h : Yc} {Q : Value → Yc → Prop} (hsz : args.length ≤ 12) (hk : AWS Try.prog 12 s94 (Zu Try.prog [.cell 4 26] Q) (Zp 0 args) h) : ACall Try.prog 94 args h Q :=
  Yx Try.func94 rfl (enters_of Try.func94 (by kernel_rfl) rfl) rfl rfl (by decide) s94_strip s94_ok hsz hk
theorem over_call [Tabs prog] {h : Yc} {a b : Rat} (ha : Fits a) (hb : Fits b) (hb0 : b ≠ 0) (hab : Fits (a / b)) : Xa prog 94 [qV a, qV b] h (qV (a / b)) := by
  obtain ⟨i1, i2⟩ := fits_inv (a := a) hb0 hb
  have hn : b.num ≠ 0 := fun hc => hb0 (Rat.num_eq_zero.1 hc)
  have f1 : ∀ h : Yc, Xa prog 64 [Zx b.den, Zx b.num] h (qV b⁻¹) := fun h => by
    rw [← i1]; exact Wr hn (by have := hb.2; omega) hb.1
  have f2 : ∀ h : Yc, Xa prog 72 [qV a, qV b⁻¹] h (qV (a / b)) := fun h => times_call ha i2 hab
  obtain ⟨q, hq⟩ : ∃ q, a / b = q := ⟨_, rfl⟩
  rw [hq] at f2 ⊢
  obtain ⟨H, hH⟩ : ∃ H, H = h ++ [fC a.num a.den] ++ [fC b.num b.den] ++ [z0] := ⟨_, rfl⟩
  have c2 : H[h.length]? = some (fC a.num a.den) := by rw [hH]; exact b3_0 ..
  have c3 : H[h.length + 1]? = some (fC b.num b.den) := by rw [hH]; exact b3_1 ..
  have c4 : H[h.length + 2]? = some z0 := by rw [hH]; exact b3_2 ..
  have hE : Ext (fun _ => False) h H := by rw [hH]; exact e3 ..
  refine ACall.forget (low_frV _ _) ?_
  refine s94_callW (by simp) ?_
  simp only [s94]
  refine Zy fun N5 hN5 => ?_
  simp (maxSteps := 2000000) only [s94, ↓Za, ↓Zo, ↓Zr, ↓Ze, ↓Zi, ↓Zs, ↓Zf, ↓Zl, ↓Zg, ↓Zc, ↓Zb, ↓vdn, vup, Zh, Zk, Zm, Zn, Zj, List.map_cons, List.map_nil, cond_true, cond_false, aop, Zv, Zq, Zp, ev, sput, Zt, Zz, Yb, unK, Zd, Zw, Nat.reduceBEq, Nat.reduceAdd, Int.reduceBEq, Int.reduceBNe, Int.reduceLT, Zu, Ya, tup, tyf, qV, frV, boxF, Xw, Xe, Xx, List.length_append, List.length_singleton, Nat.add_assoc]
  rw [← hH]
  refine hN5 [(2, .pointer (some ⟨h.length, 0, none⟩)), (3, .pointer (some ⟨h.length + 1, 0, none⟩)), (4, .pointer (some ⟨h.length + 2, 0, none⟩))] _ _ ?_ (by simp (maxSteps := 2000000) only [↓Za, ↓Zo, ↓Zr, ↓Ze, ↓Zi, ↓Zs, ↓Zf, ↓Zl, ↓Zg, ↓Zc, ↓Zb, ↓vdn, vup, Zh, Zk, Zm, Zn, Zj, List.map_cons, List.map_nil, cond_true, cond_false, aop, Zv, Zq, Zp, ev, sput, Zt, Zz, Yb, unK, Zd, Zw, Nat.reduceBEq, Nat.reduceAdd, Int.reduceBEq, Int.reduceBNe, Int.reduceLT, Zu, Ya, tup, tyf])
  clear hN5
  try clear N5
  refine Yd ?_
  simp only [q94_1]
  refine aw_cut fun N hN => ?_
  refine Xd [(5, 1), (6, 1)] (by kernel_rfl) (by kernel_rfl) (by kernel_rfl) (by kernel_rfl) ?_
  simp (maxSteps := 2000000) only [s94, ↓Za, ↓Zo, ↓Zr, ↓Ze, ↓Zi, ↓Zs, ↓Zf, ↓Zl, ↓Zg, ↓Zc, ↓Zb, ↓vdn, vup, Zh, Zk, Zm, Zn, Zj, List.map_cons, List.map_nil, cond_true, cond_false, aop, Zv, Zq, Zp, ev, sput, Zt, Zz, Yb, unK, Zd, Zw, Nat.reduceBEq, Nat.reduceAdd, Int.reduceBEq, Int.reduceBNe, Int.reduceLT, Zu, Ya, tup, tyf, fA0, fA1, Wz c2, Vc c3, Vk c3, Yr, List.nil_append, List.append_nil, List.toList_toArray, List.cons_append]
  refine ⟨_, _, f1 _, rfl, ?_⟩
  refine ⟨_, _, f2 _, rfl, ?_⟩
  simp (maxSteps := 2000000) only [s94, ↓Za, ↓Zo, ↓Zr, ↓Ze, ↓Zi, ↓Zs, ↓Zf, ↓Zl, ↓Zg, ↓Zc, ↓Zb, ↓vdn, vup, Zh, Zk, Zm, Zn, Zj, List.map_cons, List.map_nil, cond_true, cond_false, aop, Zv, Zq, Zp, ev, sput, Zt, Zz, Yb, unK, Zd, Zw, Nat.reduceBEq, Nat.reduceAdd, Int.reduceBEq, Int.reduceBNe, Int.reduceLT, Zu, Ya, tup, tyf, qV, frV, Wb c4 rfl]
  refine hN _ _ ?_
  simp (maxSteps := 2000000) only [s94, ↓Za, ↓Zo, ↓Zr, ↓Ze, ↓Zi, ↓Zs, ↓Zf, ↓Zl, ↓Zg, ↓Zc, ↓Zb, ↓vdn, vup, Zh, Zk, Zm, Zn, Zj, List.map_cons, List.map_nil, cond_true, cond_false, aop, Zv, Zq, Zp, ev, sput, Zt, Zz, Yb, unK, Zd, Zw, Nat.reduceBEq, Nat.reduceAdd, Int.reduceBEq, Int.reduceBNe, Int.reduceLT, Zu, Ya, tup, tyf, Wz (Xq (Yp c4) _)]
  exact ⟨rfl, hE.set_ge (by omega) _⟩

theorem s62_callW [Tabs Try.prog] {args : List Value} {h : Yc} {Q : Value → Yc → Prop} (hsz : args.length ≤ 10) (hk : AWS Try.prog 10 s62 (Zu Try.prog [.tmp 4] Q) (Zp 0 args) h) : ACall Try.prog 62 args h Q :=
  Yx Try.func62 rfl (enters_of Try.func62 (by kernel_rfl) rfl) rfl rfl (by decide) s62_strip s62_ok hsz hk
theorem less_call [Tabs prog] {h : Yc} {a b : Rat} {x y : Int} {N : Nat} (ha : Rp N x a) (hb : Rp N y b) (hx : x.natAbs + y.natAbs < 9223372036854775808) (hN : N < 9223372036854775808) : Xa prog 62 [qV a, qV b] h (.bool (decide (a < b))) := by
  have p := plus_call (h := h ++ [fC a.num a.den] ++ [fC b.num b.den]) (k := -1) ha hb (by omega) hN
  have e1 : decide ((a + ((-1 : Int) : Rat) * b).num < 0) = decide (a < b) := by
    have hpl := ha.plus hb (-1)
    have h0 := hpl.num
    have h1 : 0 < N / (a + ((-1 : Int) : Rat) * b).den := Nat.div_pos hpl.den_le (Rat.den_pos _)
    rw [decide_eq_decide, ha.lt hb]
    generalize (a + ((-1 : Int) : Rat) * b).num = u at *
    generalize N / (a + ((-1 : Int) : Rat) * b).den = t at *
    constructor
    · intro hu
      have : u * (t : Int) < 0 := Int.mul_neg_of_neg_of_pos hu (by omega)
      omega
    · intro hu
      rcases Int.lt_or_le u 0 with h2 | h2
      · exact h2
      · have : 0 ≤ u * (t : Int) := Int.mul_nonneg h2 (by omega)
        omega
  obtain ⟨q, hq⟩ : ∃ q, a + ((-1 : Int) : Rat) * b = q := ⟨_, rfl⟩
  rw [hq] at p e1
  refine ACall.forget (Low.bool _) ?_
  refine s62_callW (by simp) ?_
  refine Yd ?_
  simp (maxSteps := 2000000) only [s62, ↓Za, ↓Zo, ↓Zr, ↓Ze, ↓Zi, ↓Zs, ↓Zf, ↓Zl, ↓Zg, ↓Zc, ↓Zb, ↓vdn, vup, Zh, Zk, Zm, Zn, Zj, List.map_cons, List.map_nil, cond_true, cond_false, aop, Zv, Zq, Zp, ev, sput, Zt, Zz, Yb, unK, Zd, Zw, Nat.reduceBEq, Nat.reduceAdd, Int.reduceBEq, Int.reduceBNe, Int.reduceLT, Zu, Ya, tup, tyf, qV, frV, boxF, Xe, List.length_append, List.length_singleton, Wz (b2_0 ..), Wz (b2_1 ..), Yr, List.nil_append, List.append_nil, List.toList_toArray, List.cons_append]
  refine p.mono ?_
  rintro _ _ ⟨rfl, rfl⟩
  simp (maxSteps := 2000000) only [s62, ↓Za, ↓Zo, ↓Zr, ↓Ze, ↓Zi, ↓Zs, ↓Zf, ↓Zl, ↓Zg, ↓Zc, ↓Zb, ↓vdn, vup, Zh, Zk, Zm, Zn, Zj, List.map_cons, List.map_nil, cond_true, cond_false, aop, Zv, Zq, Zp, ev, sput, Zt, Zz, Yb, unK, Zd, Zw, Nat.reduceBEq, Nat.reduceAdd, Int.reduceBEq, Int.reduceBNe, Int.reduceLT, Zu, Ya, tup, tyf, qV, frV, fld0, e1]
  exact e2 ..

theorem s70_callW [Tabs Try.prog] {args : List Value} {h : Yc} {Q : Value → Yc → Prop} (hsz : args.length ≤ 5) (hk : AWS Try.prog 5 s70 (Zu Try.prog [.cell 2 26] Q) (Zp 0 args) h) : ACall Try.prog 70 args h Q :=
  Yx Try.func70 rfl (enters_of Try.func70 (by kernel_rfl) rfl) rfl rfl (by decide) s70_strip s70_ok hsz hk
theorem whole_call [Tabs prog] {h : Yc} {k : Int} : Xa prog 70 [Zx k] h (qV (k : Rat)) := by
  refine ACall.forget (low_frV _ _) ?_
  refine s70_callW (by simp) ?_
  refine Yd ?_
  simp (maxSteps := 2000000) only [s70, ↓Za, ↓Zo, ↓Zr, ↓Ze, ↓Zi, ↓Zs, ↓Zf, ↓Zl, ↓Zg, ↓Zc, ↓Zb, ↓vdn, vup, Zh, Zk, Zm, Zn, Zj, List.map_cons, List.map_nil, cond_true, cond_false, aop, Zv, Zq, Zp, ev, sput, Zt, Zz, Yb, unK, Zd, Zw, Nat.reduceBEq, Nat.reduceAdd, Int.reduceBEq, Int.reduceBNe, Int.reduceLT, Zu, Ya, tup, tyf, Xw, Xe, Xx, List.toList_toArray, bldF, Wb (Xb h z0) rfl, Wz (Xq (h := h ++ [z0]) (b := h.length) (by simp) _)]
  exact ⟨rfl, (Ext.app _ _ _).set_ge (Nat.le_refl _) _⟩
end Go.Proofs.Try.Am

namespace Go.Proofs.Try.Am
open Go.Am Bq
set_option maxRecDepth 100000
set_option maxHeartbeats 1000000

theorem s68_callW [Tabs Try.prog] {args : List Value} {h : Yc} {Q : Value → Yc → Prop} (hsz : args.length ≤ 31) (hk : AWS Try.prog 31 s68 (Zu Try.prog [.cell 4 26] Q) (Zp 0 args) h) : ACall Try.prog 68 args h Q :=
  Yx Try.func68 rfl (enters_of Try.func68 (by kernel_rfl) rfl) rfl rfl (by decide) s68_strip s68_ok hsz hk
theorem Vh [Tabs prog] {h : Yc} {a b : Int} (hb : b ≠ 0) (ha : a.natAbs < 9223372036854775808) (hb2 : b.natAbs < 9223372036854775808) : Xa prog 68 [Zx a, Zx b] h (qV (Rat.divInt a b)) := by
  have c0 := Xb h z0
  have hE0 : Ext (fun _ => False) h (h ++ [z0]) := Ext.app _ _ _
  obtain ⟨x, n, hn, hx, hn2, hq, hneg, hpos⟩ : ∃ (x : Int) (n : Nat), 0 < n ∧ x.natAbs < 9223372036854775808 ∧ n < 9223372036854775808 ∧ Rat.divInt x n = Rat.divInt a b ∧ (b < 0 → subV .i64 0 a = x ∧ subV .i64 0 b = n) ∧ (¬ b < 0 → a = x ∧ b = n) := by
    by_cases h0 : b < 0
    · refine ⟨-a, b.natAbs, by omega, by omega, hb2, ?_, fun _ => ⟨?_, ?_⟩, fun h => absurd h0 h⟩
      · rw [show ((b.natAbs : Nat) : Int) = -b by omega]; exact Rat.neg_divInt_neg a b
      · rw [subV_id (by omega) (by omega)]; omega
      · rw [subV_id (by omega) (by omega)]; omega
    · exact ⟨a, b.natAbs, by omega, ha, hb2, by rw [show ((b.natAbs : Nat) : Int) = b by omega], fun h => absurd h h0, fun _ => ⟨rfl, by omega⟩⟩
  refine ACall.forget (low_frV _ _) ?_
  refine s68_callW (by simp) ?_
  simp only [s68]
  refine Zy fun N1 hN1 => ?_
  simp (maxSteps := 2000000) only [s68, ↓Za, ↓Zo, ↓Zr, ↓Ze, ↓Zi, ↓Zs, ↓Zf, ↓Zl, ↓Zg, ↓Zc, ↓Zb, ↓vdn, vup, Zh, Zk, Zm, Zn, Zj, List.map_cons, List.map_nil, cond_true, cond_false, aop, Zv, Zq, Zp, ev, sput, Zt, Zz, Yb, unK, Zd, Zw, Nat.reduceBEq, Nat.reduceAdd, Int.reduceBEq, Int.reduceBNe, Int.reduceLT, Zu, Ya, tup, tyf, Xw, Xe, Xx]
  refine hN1 [(0, Zx a), (1, Zx b), (4, .pointer (some ⟨h.length, 0, none⟩))] _ _ ?_ (by simp (maxSteps := 2000000) only [↓Za, ↓Zo, ↓Zr, ↓Ze, ↓Zi, ↓Zs, ↓Zf, ↓Zl, ↓Zg, ↓Zc, ↓Zb, ↓vdn, vup, Zh, Zk, Zm, Zn, Zj, List.map_cons, List.map_nil, cond_true, cond_false, aop, Zv, Zq, Zp, ev, sput, Zt, Zz, Yb, unK, Zd, Zw, Nat.reduceBEq, Nat.reduceAdd, Int.reduceBEq, Int.reduceBNe, Int.reduceLT, Zu, Ya, tup, tyf])
  clear hN1
  try clear N1
  refine Zy fun M hM => ?_
  have key : ∀ e, ELe e [(0, Zx x), (1, Zx (n : Int)), (4, .pointer (some ⟨h.length, 0, none⟩))] → M e (h ++ [z0]) := by
    intro e he
    refine hM [(0, Zx x), (1, Zx (n : Int)), (4, .pointer (some ⟨h.length, 0, none⟩))] _ _ ?_ he
    refine Zy fun N2 hN2 => ?_
    simp (maxSteps := 2000000) only [s68, ↓Za, ↓Zo, ↓Zr, ↓Ze, ↓Zi, ↓Zs, ↓Zf, ↓Zl, ↓Zg, ↓Zc, ↓Zb, ↓vdn, vup, Zh, Zk, Zm, Zn, Zj, List.map_cons, List.map_nil, cond_true, cond_false, aop, Zv, Zq, Zp, ev, sput, Zt, Zz, Yb, unK, Zd, Zw, Nat.reduceBEq, Nat.reduceAdd, Int.reduceBEq, Int.reduceBNe, Int.reduceLT, Zu, Ya, tup, tyf, mmK, if_true, max_abs hx]
    refine hN2 [(0, Zx x), (1, Zx (n : Int)), (4, .pointer (some ⟨h.length, 0, none⟩)), (5, Zx (x.natAbs : Nat)), (6, Zx (n : Int))] _ _ ?_ (by simp (maxSteps := 2000000) only [↓Za, ↓Zo, ↓Zr, ↓Ze, ↓Zi, ↓Zs, ↓Zf, ↓Zl, ↓Zg, ↓Zc, ↓Zb, ↓vdn, vup, Zh, Zk, Zm, Zn, Zj, List.map_cons, List.map_nil, cond_true, cond_false, aop, Zv, Zq, Zp, ev, sput, Zt, Zz, Yb, unK, Zd, Zw, Nat.reduceBEq, Nat.reduceAdd, Int.reduceBEq, Int.reduceBNe, Int.reduceLT, Zu, Ya, tup, tyf])
    clear hN2
    try clear N2
    refine Ye fun M2 hM2 => ?_
    refine Yf ?_
    refine Yh fun Q hQ => ?_
    refine Yv (γ := Nat × Nat) (fun s => Nat.gcd s.1 s.2 = Nat.gcd x.natAbs n ∧ s.1 < 9223372036854775808 ∧ s.2 < 9223372036854775808)
      (fun s => ([(0, Zx x), (1, Zx (n : Int)), (4, .pointer (some ⟨h.length, 0, none⟩)), (5, Zx (s.1 : Nat)), (6, Zx (s.2 : Nat))], h ++ [z0])) (fun s => s.2) (x.natAbs, n) ⟨rfl, hx, hn2⟩ (by simp (maxSteps := 2000000) only [↓Za, ↓Zo, ↓Zr, ↓Ze, ↓Zi, ↓Zs, ↓Zf, ↓Zl, ↓Zg, ↓Zc, ↓Zb, ↓vdn, vup, Zh, Zk, Zm, Zn, Zj, List.map_cons, List.map_nil, cond_true, cond_false, aop, Zv, Zq, Zp, ev, sput, Zt, Zz, Yb, unK, Zd, Zw, Nat.reduceBEq, Nat.reduceAdd, Int.reduceBEq, Int.reduceBNe, Int.reduceLT, Zu, Ya, tup, tyf]) rfl ?_
    rintro ⟨u, w⟩ ⟨huw, hu, hw⟩
    simp only at huw hu hw
    refine Yh fun Q2 hQ2 => ?_
    simp only [l68_0]
    by_cases hw0 : w = 0
    · subst hw0
      have e0 : (((0 : Nat) : Int) != 0) = false := rfl
      rw [Nat.gcd_zero_right] at huw
      subst huw
      refine Zy fun N3 hN3 => ?_
      simp (maxSteps := 2000000) only [s68, ↓Za, ↓Zo, ↓Zr, ↓Ze, ↓Zi, ↓Zs, ↓Zf, ↓Zl, ↓Zg, ↓Zc, ↓Zb, ↓vdn, vup, Zh, Zk, Zm, Zn, Zj, List.map_cons, List.map_nil, cond_true, cond_false, aop, Zv, Zq, Zp, ev, sput, Zt, Zz, Yb, unK, Zd, Zw, Nat.reduceBEq, Nat.reduceAdd, Int.reduceBEq, Int.reduceBNe, Int.reduceLT, Zu, Ya, tup, tyf, e0]
      refine hQ2 _ _ _ (hQ _ _ _ ?_)
      simp (maxSteps := 2000000) only [s68, ↓Za, ↓Zo, ↓Zr, ↓Ze, ↓Zi, ↓Zs, ↓Zf, ↓Zl, ↓Zg, ↓Zc, ↓Zb, ↓vdn, vup, Zh, Zk, Zm, Zn, Zj, List.map_cons, List.map_nil, cond_true, cond_false, aop, Zv, Zq, Zp, ev, sput, Zt, Zz, Yb, unK, Zd, Zw, Nat.reduceBEq, Nat.reduceAdd, Int.reduceBEq, Int.reduceBNe, Int.reduceLT, Zu, Ya, tup, tyf, if_true]
      refine hM2 [(0, Zx x), (1, Zx (n : Int)), (4, .pointer (some ⟨h.length, 0, none⟩)), (5, Zx (Nat.gcd x.natAbs n : Nat))] _ _ ?_ (by simp (maxSteps := 2000000) only [↓Za, ↓Zo, ↓Zr, ↓Ze, ↓Zi, ↓Zs, ↓Zf, ↓Zl, ↓Zg, ↓Zc, ↓Zb, ↓vdn, vup, Zh, Zk, Zm, Zn, Zj, List.map_cons, List.map_nil, cond_true, cond_false, aop, Zv, Zq, Zp, ev, sput, Zt, Zz, Yb, unK, Zd, Zw, Nat.reduceBEq, Nat.reduceAdd, Int.reduceBEq, Int.reduceBNe, Int.reduceLT, Zu, Ya, tup, tyf])
      clear hM2
      try clear M2
      have hg : ¬ ((Nat.gcd x.natAbs n : Nat) : Int) = 0 := by have := Nat.gcd_pos_of_pos_right x.natAbs hn; omega
      have q1 : quoV .i64 x ((Nat.gcd x.natAbs n : Nat) : Int) = (Rat.divInt a b).num := by rw [quo_dvd hx (gcd_dvd_int _ _), (terms hn).1, hq]
      have q2 : quoV .i64 (n : Int) ((Nat.gcd x.natAbs n : Nat) : Int) = (Rat.divInt a b).den := by
        rw [quo_dvd (by omega) (Int.natCast_dvd_natCast.2 (Nat.gcd_dvd_right _ _)), ← hq, ← (terms hn).2, Int.natCast_ediv]
      refine Yd ?_
      simp only [q68_6]
      refine aw_cut fun N hN => ?_
      refine Xd [] (by kernel_rfl) (by kernel_rfl) (by kernel_rfl) (by kernel_rfl) ?_
      simp (maxSteps := 2000000) only [s68, ↓Za, ↓Zo, ↓Zr, ↓Ze, ↓Zi, ↓Zs, ↓Zf, ↓Zl, ↓Zg, ↓Zc, ↓Zb, ↓vdn, vup, Zh, Zk, Zm, Zn, Zj, List.map_cons, List.map_nil, cond_true, cond_false, aop, Zv, Zq, Zp, ev, sput, Zt, Zz, Yb, unK, Zd, Zw, Nat.reduceBEq, Nat.reduceAdd, Int.reduceBEq, Int.reduceBNe, Int.reduceLT, Zu, Ya, tup, tyf, ne_eq, hg, not_false_eq_true, q1, q2, List.toList_toArray, bldF, Wb c0 rfl]
      refine hN _ _ ?_
      simp (maxSteps := 2000000) only [s68, ↓Za, ↓Zo, ↓Zr, ↓Ze, ↓Zi, ↓Zs, ↓Zf, ↓Zl, ↓Zg, ↓Zc, ↓Zb, ↓vdn, vup, Zh, Zk, Zm, Zn, Zj, List.map_cons, List.map_nil, cond_true, cond_false, aop, Zv, Zq, Zp, ev, sput, Zt, Zz, Yb, unK, Zd, Zw, Nat.reduceBEq, Nat.reduceAdd, Int.reduceBEq, Int.reduceBNe, Int.reduceLT, Zu, Ya, tup, tyf, Wz (Xq (h := h ++ [Blk.cells [.int .i64 0, .int .i64 0] 26 false]) (b := h.length) (by simp) _)]
      exact ⟨rfl, hE0.set_ge (Nat.le_refl _) _⟩
    · have e0 : (((w : Nat) : Int) != 0) = true := by
        have : ((w : Nat) : Int) ≠ 0 := by omega
        simpa using this
      have e1 : ¬ ((w : Nat) : Int) = 0 := by omega
      have etm : ((u : Nat) : Int).tmod ((w : Nat) : Int) = ((u % w : Nat) : Int) := by rw [Int.tmod_eq_emod_of_nonneg (by omega)]; rfl
      have hlt := Nat.mod_lt u (show w > 0 by omega)
      refine Zy fun N4 hN4 => ?_
      simp (maxSteps := 2000000) only [s68, ↓Za, ↓Zo, ↓Zr, ↓Ze, ↓Zi, ↓Zs, ↓Zf, ↓Zl, ↓Zg, ↓Zc, ↓Zb, ↓vdn, vup, Zh, Zk, Zm, Zn, Zj, List.map_cons, List.map_nil, cond_true, cond_false, aop, Zv, Zq, Zp, ev, sput, Zt, Zz, Yb, unK, Zd, Zw, Nat.reduceBEq, Nat.reduceAdd, Int.reduceBEq, Int.reduceBNe, Int.reduceLT, Zu, Ya, tup, tyf, e0]
      refine hN4 [(0, Zx x), (1, Zx (n : Int)), (4, .pointer (some ⟨h.length, 0, none⟩)), (5, Zx (u : Nat)), (6, Zx (w : Nat))] _ _ ?_ (by simp (maxSteps := 2000000) only [↓Za, ↓Zo, ↓Zr, ↓Ze, ↓Zi, ↓Zs, ↓Zf, ↓Zl, ↓Zg, ↓Zc, ↓Zb, ↓vdn, vup, Zh, Zk, Zm, Zn, Zj, List.map_cons, List.map_nil, cond_true, cond_false, aop, Zv, Zq, Zp, ev, sput, Zt, Zz, Yb, unK, Zd, Zw, Nat.reduceBEq, Nat.reduceAdd, Int.reduceBEq, Int.reduceBNe, Int.reduceLT, Zu, Ya, tup, tyf])
      clear hN4
      try clear N4
      refine Yd ?_
      simp only [q68_5, Ze]
      refine Xd [] (by kernel_rfl) (by kernel_rfl) (by kernel_rfl) (by kernel_rfl) ?_
      simp (maxSteps := 2000000) only [s68, ↓Za, ↓Zo, ↓Zr, ↓Ze, ↓Zi, ↓Zs, ↓Zf, ↓Zl, ↓Zg, ↓Zc, ↓Zb, ↓vdn, vup, Zh, Zk, Zm, Zn, Zj, List.map_cons, List.map_nil, cond_true, cond_false, aop, Zv, Zq, Zp, ev, sput, Zt, Zz, Yb, unK, Zd, Zw, Nat.reduceBEq, Nat.reduceAdd, Int.reduceBEq, Int.reduceBNe, Int.reduceLT, Zu, Ya, tup, tyf, ne_eq, e1, not_false_eq_true, etm]
      refine hQ2 _ _ _ ⟨(w, u % w), ⟨?_, hw, by simp only; omega⟩, hlt, by simp (maxSteps := 2000000) only [↓Za, ↓Zo, ↓Zr, ↓Ze, ↓Zi, ↓Zs, ↓Zf, ↓Zl, ↓Zg, ↓Zc, ↓Zb, ↓vdn, vup, Zh, Zk, Zm, Zn, Zj, List.map_cons, List.map_nil, cond_true, cond_false, aop, Zv, Zq, Zp, ev, sput, Zt, Zz, Yb, unK, Zd, Zw, Nat.reduceBEq, Nat.reduceAdd, Int.reduceBEq, Int.reduceBNe, Int.reduceLT, Zu, Ya, tup, tyf], rfl⟩
      simp only
      rw [← huw, Nat.gcd_comm u w, Nat.gcd_rec w u, Nat.gcd_comm]
  by_cases hb0 : b < 0
  · simp (maxSteps := 2000000) only [s68, ↓Za, ↓Zo, ↓Zr, ↓Ze, ↓Zi, ↓Zs, ↓Zf, ↓Zl, ↓Zg, ↓Zc, ↓Zb, ↓vdn, vup, Zh, Zk, Zm, Zn, Zj, List.map_cons, List.map_nil, cond_true, cond_false, aop, Zv, Zq, Zp, ev, sput, Zt, Zz, Yb, unK, Zd, Zw, Nat.reduceBEq, Nat.reduceAdd, Int.reduceBEq, Int.reduceBNe, Int.reduceLT, Zu, Ya, tup, tyf, hb0, (hneg hb0).1, (hneg hb0).2]
    exact key _ (by simp (maxSteps := 2000000) only [↓Za, ↓Zo, ↓Zr, ↓Ze, ↓Zi, ↓Zs, ↓Zf, ↓Zl, ↓Zg, ↓Zc, ↓Zb, ↓vdn, vup, Zh, Zk, Zm, Zn, Zj, List.map_cons, List.map_nil, cond_true, cond_false, aop, Zv, Zq, Zp, ev, sput, Zt, Zz, Yb, unK, Zd, Zw, Nat.reduceBEq, Nat.reduceAdd, Int.reduceBEq, Int.reduceBNe, Int.reduceLT, Zu, Ya, tup, tyf])
  · simp (maxSteps := 2000000) only [s68, ↓Za, ↓Zo, ↓Zr, ↓Ze, ↓Zi, ↓Zs, ↓Zf, ↓Zl, ↓Zg, ↓Zc, ↓Zb, ↓vdn, vup, Zh, Zk, Zm, Zn, Zj, List.map_cons, List.map_nil, cond_true, cond_false, aop, Zv, Zq, Zp, ev, sput, Zt, Zz, Yb, unK, Zd, Zw, Nat.reduceBEq, Nat.reduceAdd, Int.reduceBEq, Int.reduceBNe, Int.reduceLT, Zu, Ya, tup, tyf, hb0]
    exact key _ (by simp (maxSteps := 2000000) only [↓Za, ↓Zo, ↓Zr, ↓Ze, ↓Zi, ↓Zs, ↓Zf, ↓Zl, ↓Zg, ↓Zc, ↓Zb, ↓vdn, vup, Zh, Zk, Zm, Zn, Zj, List.map_cons, List.map_nil, cond_true, cond_false, aop, Zv, Zq, Zp, ev, sput, Zt, Zz, Yb, unK, Zd, Zw, Nat.reduceBEq, Nat.reduceAdd, Int.reduceBEq, Int.reduceBNe, Int.reduceLT, Zu, Ya, tup, tyf, (hpos hb0).1, (hpos hb0).2])

theorem s66_callW [Tabs Try.prog] {args : List Value} {h : Yc} {Q : Value → Yc → Prop} (hsz : args.length ≤ 5) (hk : AWS Try.prog 5 s66 (Zu Try.prog [.cell 2 26] Q) (Zp 0 args) h) : ACall Try.prog 66 args h Q :=
  Yx Try.func66 rfl (enters_of Try.func66 (by kernel_rfl) rfl) rfl rfl (by decide) s66_strip s66_ok hsz hk
theorem rwhole_call [Tabs prog] {h : Yc} {k : Int} : Xa prog 66 [Zx k] h (qV (k : Rat)) := by
  refine ACall.forget (low_frV _ _) ?_
  refine s66_callW (by simp) ?_
  refine Yd ?_
  simp (maxSteps := 2000000) only [s66, ↓Za, ↓Zo, ↓Zr, ↓Ze, ↓Zi, ↓Zs, ↓Zf, ↓Zl, ↓Zg, ↓Zc, ↓Zb, ↓vdn, vup, Zh, Zk, Zm, Zn, Zj, List.map_cons, List.map_nil, cond_true, cond_false, aop, Zv, Zq, Zp, ev, sput, Zt, Zz, Yb, unK, Zd, Zw, Nat.reduceBEq, Nat.reduceAdd, Int.reduceBEq, Int.reduceBNe, Int.reduceLT, Zu, Ya, tup, tyf, Xw, Xe, Xx, List.toList_toArray, bldF, Wb (Xb h z0) rfl, Wz (Xq (h := h ++ [z0]) (b := h.length) (by simp) _)]
  exact ⟨rfl, (Ext.app _ _ _).set_ge (Nat.le_refl _) _⟩

theorem add_frac (a b : Rat) : Rat.divInt (a.num * b.den + b.num * a.den) ((a.den * b.den : Nat) : Int) = a + b := by
  rw [Rat.divInt_ofNat, ← Rat.add_def']
theorem mul_frac (a b : Rat) : Rat.divInt (a.num * b.num) ((a.den * b.den : Nat) : Int) = a * b := by
  rw [Rat.divInt_ofNat, ← Rat.mul_def']
theorem div_frac {a b : Rat} (hb : b ≠ 0) : Rat.divInt (a.num * b.den) ((a.den : Int) * b.num) = a / b := by
  have hn : b.num ≠ 0 := fun hc => hb (Rat.num_eq_zero.1 hc)
  refine divInt_of_mul (Int.mul_ne_zero (by have := a.den_nz; omega) hn) ?_
  have h1 := mul_den a
  have h2 := mul_den b
  have h3 := Rat.div_mul_cancel (a := a) hb
  push_cast
  rw [← h1, ← h2]
  generalize hc : a / b = c at h3
  grind

theorem s67_callW [Tabs Try.prog] {args : List Value} {h : Yc} {Q : Value → Yc → Prop} (hsz : args.length ≤ 22) (hk : AWS Try.prog 22 s67 (Zu Try.prog [.cell 4 26] Q) (Zp 0 args) h) : ACall Try.prog 67 args h Q :=
  Yx Try.func67 rfl (enters_of Try.func67 (by kernel_rfl) rfl) rfl rfl (by decide) s67_strip s67_ok hsz hk
theorem rplus_call [Tabs prog] {h : Yc} {a b : Rat} (h1 : (a.num * b.den).natAbs + (b.num * a.den).natAbs < 9223372036854775808) (h2 : a.den * b.den < 9223372036854775808) : Xa prog 67 [qV a, qV b] h (qV (a + b)) := by
  obtain ⟨H, hH⟩ : ∃ H, H = h ++ [fC a.num a.den] ++ [fC b.num b.den] ++ [z0] := ⟨_, rfl⟩
  have c2 : H[h.length]? = some (fC a.num a.den) := by rw [hH]; exact b3_0 ..
  have c3 : H[h.length + 1]? = some (fC b.num b.den) := by rw [hH]; exact b3_1 ..
  have c4 : H[h.length + 2]? = some z0 := by rw [hH]; exact b3_2 ..
  have hE : Ext (fun _ => False) h H := by rw [hH]; exact e3 ..
  have m1 := mulN (a := a.num) (b := b.den) (by omega)
  have m2 := mulN (a := b.num) (b := a.den) (by omega)
  have m3 := addN (a := a.num * b.den) (b := b.num * a.den) h1
  have m4 : mulV .i64 (a.den : Int) (b.den : Int) = ((a.den * b.den : Nat) : Int) := by rw [mulN (by rw [← Int.natCast_mul]; omega), Int.natCast_mul]
  have hd := Nat.mul_pos a.den_pos b.den_pos
  have f := Vh (h := H) (a := a.num * b.den + b.num * a.den) (b := ((a.den * b.den : Nat) : Int)) (by omega) (by omega) (by omega)
  rw [add_frac] at f
  obtain ⟨q, hq⟩ : ∃ q, a + b = q := ⟨_, rfl⟩
  rw [hq] at f ⊢
  refine ACall.forget (low_frV _ _) ?_
  refine s67_callW (by simp) ?_
  simp only [s67]
  refine Zy fun N5 hN5 => ?_
  simp (maxSteps := 2000000) only [s67, ↓Za, ↓Zo, ↓Zr, ↓Ze, ↓Zi, ↓Zs, ↓Zf, ↓Zl, ↓Zg, ↓Zc, ↓Zb, ↓vdn, vup, Zh, Zk, Zm, Zn, Zj, List.map_cons, List.map_nil, cond_true, cond_false, aop, Zv, Zq, Zp, ev, sput, Zt, Zz, Yb, unK, Zd, Zw, Nat.reduceBEq, Nat.reduceAdd, Int.reduceBEq, Int.reduceBNe, Int.reduceLT, Zu, Ya, tup, tyf, qV, frV, boxF, Xw, Xe, Xx, List.length_append, List.length_singleton, Nat.add_assoc]
  rw [← hH]
  refine hN5 [(2, .pointer (some ⟨h.length, 0, none⟩)), (3, .pointer (some ⟨h.length + 1, 0, none⟩)), (4, .pointer (some ⟨h.length + 2, 0, none⟩))] _ _ ?_ (by simp (maxSteps := 2000000) only [↓Za, ↓Zo, ↓Zr, ↓Ze, ↓Zi, ↓Zs, ↓Zf, ↓Zl, ↓Zg, ↓Zc, ↓Zb, ↓vdn, vup, Zh, Zk, Zm, Zn, Zj, List.map_cons, List.map_nil, cond_true, cond_false, aop, Zv, Zq, Zp, ev, sput, Zt, Zz, Yb, unK, Zd, Zw, Nat.reduceBEq, Nat.reduceAdd, Int.reduceBEq, Int.reduceBNe, Int.reduceLT, Zu, Ya, tup, tyf])
  clear hN5
  try clear N5
  refine Yd ?_
  simp (maxSteps := 2000000) only [s67, ↓Za, ↓Zo, ↓Zr, ↓Ze, ↓Zi, ↓Zs, ↓Zf, ↓Zl, ↓Zg, ↓Zc, ↓Zb, ↓vdn, vup, Zh, Zk, Zm, Zn, Zj, List.map_cons, List.map_nil, cond_true, cond_false, aop, Zv, Zq, Zp, ev, sput, Zt, Zz, Yb, unK, Zd, Zw, Nat.reduceBEq, Nat.reduceAdd, Int.reduceBEq, Int.reduceBNe, Int.reduceLT, Zu, Ya, tup, tyf, fA0, fA1, Vc c2, Vk c2, Vc c3, Vk c3, m1, m2, m3, m4, Yr, List.nil_append, List.append_nil, List.toList_toArray, List.cons_append]
  refine f.mono ?_
  rintro _ _ ⟨rfl, rfl⟩
  simp (maxSteps := 2000000) only [s67, ↓Za, ↓Zo, ↓Zr, ↓Ze, ↓Zi, ↓Zs, ↓Zf, ↓Zl, ↓Zg, ↓Zc, ↓Zb, ↓vdn, vup, Zh, Zk, Zm, Zn, Zj, List.map_cons, List.map_nil, cond_true, cond_false, aop, Zv, Zq, Zp, ev, sput, Zt, Zz, Yb, unK, Zd, Zw, Nat.reduceBEq, Nat.reduceAdd, Int.reduceBEq, Int.reduceBNe, Int.reduceLT, Zu, Ya, tup, tyf, qV, frV, Wb c4 rfl, Wz (Xq (Yp c4) _)]
  exact hE.set_ge (by omega) _

theorem s97_callW [Tabs Try.prog] {args : List Value} {h : Yc} {Q : Value → Yc → Prop} (hsz : args.length ≤ 16) (hk : AWS Try.prog 16 s97 (Zu Try.prog [.cell 4 26] Q) (Zp 0 args) h) : ACall Try.prog 97 args h Q :=
  Yx Try.func97 rfl (enters_of Try.func97 (by kernel_rfl) rfl) rfl rfl (by decide) s97_strip s97_ok hsz hk
theorem rtimes_call [Tabs prog] {h : Yc} {a b : Rat} (h1 : (a.num * b.num).natAbs < 9223372036854775808) (h2 : a.den * b.den < 9223372036854775808) : Xa prog 97 [qV a, qV b] h (qV (a * b)) := by
  obtain ⟨H, hH⟩ : ∃ H, H = h ++ [fC a.num a.den] ++ [fC b.num b.den] ++ [z0] := ⟨_, rfl⟩
  have c2 : H[h.length]? = some (fC a.num a.den) := by rw [hH]; exact b3_0 ..
  have c3 : H[h.length + 1]? = some (fC b.num b.den) := by rw [hH]; exact b3_1 ..
  have c4 : H[h.length + 2]? = some z0 := by rw [hH]; exact b3_2 ..
  have hE : Ext (fun _ => False) h H := by rw [hH]; exact e3 ..
  have m1 := mulN h1
  have m4 : mulV .i64 (a.den : Int) (b.den : Int) = ((a.den * b.den : Nat) : Int) := by rw [mulN (by rw [← Int.natCast_mul]; omega), Int.natCast_mul]
  have hd := Nat.mul_pos a.den_pos b.den_pos
  have f := Vh (h := H) (a := a.num * b.num) (b := ((a.den * b.den : Nat) : Int)) (by omega) (by omega) (by omega)
  rw [mul_frac] at f
  obtain ⟨q, hq⟩ : ∃ q, a * b = q := ⟨_, rfl⟩
  rw [hq] at f ⊢
  refine ACall.forget (low_frV _ _) ?_
  refine s97_callW (by simp) ?_
  simp only [s97]
  refine Zy fun N6 hN6 => ?_
  simp (maxSteps := 2000000) only [s97, ↓Za, ↓Zo, ↓Zr, ↓Ze, ↓Zi, ↓Zs, ↓Zf, ↓Zl, ↓Zg, ↓Zc, ↓Zb, ↓vdn, vup, Zh, Zk, Zm, Zn, Zj, List.map_cons, List.map_nil, cond_true, cond_false, aop, Zv, Zq, Zp, ev, sput, Zt, Zz, Yb, unK, Zd, Zw, Nat.reduceBEq, Nat.reduceAdd, Int.reduceBEq, Int.reduceBNe, Int.reduceLT, Zu, Ya, tup, tyf, qV, frV, boxF, Xw, Xe, Xx, List.length_append, List.length_singleton, Nat.add_assoc]
  rw [← hH]
  refine hN6 [(2, .pointer (some ⟨h.length, 0, none⟩)), (3, .pointer (some ⟨h.length + 1, 0, none⟩)), (4, .pointer (some ⟨h.length + 2, 0, none⟩))] _ _ ?_ (by simp (maxSteps := 2000000) only [↓Za, ↓Zo, ↓Zr, ↓Ze, ↓Zi, ↓Zs, ↓Zf, ↓Zl, ↓Zg, ↓Zc, ↓Zb, ↓vdn, vup, Zh, Zk, Zm, Zn, Zj, List.map_cons, List.map_nil, cond_true, cond_false, aop, Zv, Zq, Zp, ev, sput, Zt, Zz, Yb, unK, Zd, Zw, Nat.reduceBEq, Nat.reduceAdd, Int.reduceBEq, Int.reduceBNe, Int.reduceLT, Zu, Ya, tup, tyf])
  clear hN6
  try clear N6
  refine Yd ?_
  simp (maxSteps := 2000000) only [s97, ↓Za, ↓Zo, ↓Zr, ↓Ze, ↓Zi, ↓Zs, ↓Zf, ↓Zl, ↓Zg, ↓Zc, ↓Zb, ↓vdn, vup, Zh, Zk, Zm, Zn, Zj, List.map_cons, List.map_nil, cond_true, cond_false, aop, Zv, Zq, Zp, ev, sput, Zt, Zz, Yb, unK, Zd, Zw, Nat.reduceBEq, Nat.reduceAdd, Int.reduceBEq, Int.reduceBNe, Int.reduceLT, Zu, Ya, tup, tyf, fA0, fA1, Vc c2, Vk c2, Vc c3, Vk c3, m1, m4, Yr, List.nil_append, List.append_nil, List.toList_toArray, List.cons_append]
  refine f.mono ?_
  rintro _ _ ⟨rfl, rfl⟩
  simp (maxSteps := 2000000) only [s97, ↓Za, ↓Zo, ↓Zr, ↓Ze, ↓Zi, ↓Zs, ↓Zf, ↓Zl, ↓Zg, ↓Zc, ↓Zb, ↓vdn, vup, Zh, Zk, Zm, Zn, Zj, List.map_cons, List.map_nil, cond_true, cond_false, aop, Zv, Zq, Zp, ev, sput, Zt, Zz, Yb, unK, Zd, Zw, Nat.reduceBEq, Nat.reduceAdd, Int.reduceBEq, Int.reduceBNe, Int.reduceLT, Zu, Ya, tup, tyf, qV, frV, Wb c4 rfl, Wz (Xq (Yp c4) _)]
  exact hE.set_ge (by omega) _

theorem s96_callW [Tabs Try.prog] {args : List Value} {h : Yc} {Q : Value → Yc → Prop} (hsz : args.length ≤ 16) (hk : AWS Try.prog 16 s96 (Zu Try.prog [.cell 4 26] Q) (Zp 0 args) h) : ACall Try.prog 96 args h Q :=
  Yx Try.func96 rfl (enters_of Try.func96 (by kernel_rfl) rfl) rfl rfl (by decide) s96_strip s96_ok hsz hk
theorem rover_call [Tabs prog] {h : Yc} {a b : Rat} (hb0 : b ≠ 0) (h1 : (a.num * b.den).natAbs < 9223372036854775808) (h2 : ((a.den : Int) * b.num).natAbs < 9223372036854775808) : Xa prog 96 [qV a, qV b] h (qV (a / b)) := by
  obtain ⟨H, hH⟩ : ∃ H, H = h ++ [fC a.num a.den] ++ [fC b.num b.den] ++ [z0] := ⟨_, rfl⟩
  have c2 : H[h.length]? = some (fC a.num a.den) := by rw [hH]; exact b3_0 ..
  have c3 : H[h.length + 1]? = some (fC b.num b.den) := by rw [hH]; exact b3_1 ..
  have c4 : H[h.length + 2]? = some z0 := by rw [hH]; exact b3_2 ..
  have hE : Ext (fun _ => False) h H := by rw [hH]; exact e3 ..
  have m1 := mulN h1
  have m4 := mulN h2
  have hn : b.num ≠ 0 := fun hc => hb0 (Rat.num_eq_zero.1 hc)
  have f := Vh (h := H) (a := a.num * b.den) (b := (a.den : Int) * b.num) (Int.mul_ne_zero (by have := a.den_nz; omega) hn) h1 h2
  rw [div_frac hb0] at f
  obtain ⟨q, hq⟩ : ∃ q, a / b = q := ⟨_, rfl⟩
  rw [hq] at f ⊢
  refine ACall.forget (low_frV _ _) ?_
  refine s96_callW (by simp) ?_
  simp only [s96]
  refine Zy fun N7 hN7 => ?_
  simp (maxSteps := 2000000) only [s96, ↓Za, ↓Zo, ↓Zr, ↓Ze, ↓Zi, ↓Zs, ↓Zf, ↓Zl, ↓Zg, ↓Zc, ↓Zb, ↓vdn, vup, Zh, Zk, Zm, Zn, Zj, List.map_cons, List.map_nil, cond_true, cond_false, aop, Zv, Zq, Zp, ev, sput, Zt, Zz, Yb, unK, Zd, Zw, Nat.reduceBEq, Nat.reduceAdd, Int.reduceBEq, Int.reduceBNe, Int.reduceLT, Zu, Ya, tup, tyf, qV, frV, boxF, Xw, Xe, Xx, List.length_append, List.length_singleton, Nat.add_assoc]
  rw [← hH]
  refine hN7 [(2, .pointer (some ⟨h.length, 0, none⟩)), (3, .pointer (some ⟨h.length + 1, 0, none⟩)), (4, .pointer (some ⟨h.length + 2, 0, none⟩))] _ _ ?_ (by simp (maxSteps := 2000000) only [↓Za, ↓Zo, ↓Zr, ↓Ze, ↓Zi, ↓Zs, ↓Zf, ↓Zl, ↓Zg, ↓Zc, ↓Zb, ↓vdn, vup, Zh, Zk, Zm, Zn, Zj, List.map_cons, List.map_nil, cond_true, cond_false, aop, Zv, Zq, Zp, ev, sput, Zt, Zz, Yb, unK, Zd, Zw, Nat.reduceBEq, Nat.reduceAdd, Int.reduceBEq, Int.reduceBNe, Int.reduceLT, Zu, Ya, tup, tyf])
  clear hN7
  try clear N7
  refine Yd ?_
  simp (maxSteps := 2000000) only [s96, ↓Za, ↓Zo, ↓Zr, ↓Ze, ↓Zi, ↓Zs, ↓Zf, ↓Zl, ↓Zg, ↓Zc, ↓Zb, ↓vdn, vup, Zh, Zk, Zm, Zn, Zj, List.map_cons, List.map_nil, cond_true, cond_false, aop, Zv, Zq, Zp, ev, sput, Zt, Zz, Yb, unK, Zd, Zw, Nat.reduceBEq, Nat.reduceAdd, Int.reduceBEq, Int.reduceBNe, Int.reduceLT, Zu, Ya, tup, tyf, fA0, fA1, Vc c2, Vk c2, Vc c3, Vk c3, m1, m4, Yr, List.nil_append, List.append_nil, List.toList_toArray, List.cons_append]
  refine f.mono ?_
  rintro _ _ ⟨rfl, rfl⟩
  simp (maxSteps := 2000000) only [s96, ↓Za, ↓Zo, ↓Zr, ↓Ze, ↓Zi, ↓Zs, ↓Zf, ↓Zl, ↓Zg, ↓Zc, ↓Zb, ↓vdn, vup, Zh, Zk, Zm, Zn, Zj, List.map_cons, List.map_nil, cond_true, cond_false, aop, Zv, Zq, Zp, ev, sput, Zt, Zz, Yb, unK, Zd, Zw, Nat.reduceBEq, Nat.reduceAdd, Int.reduceBEq, Int.reduceBNe, Int.reduceLT, Zu, Ya, tup, tyf, qV, frV, Wb c4 rfl, Wz (Xq (Yp c4) _)]
  exact hE.set_ge (by omega) _

theorem s23_callW [Tabs Try.prog] {args : List Value} {h : Yc} {Q : Value → Yc → Prop} (hsz : args.length ≤ 16) (hk : AWS Try.prog 16 s23 (Zu Try.prog [.tmp 4] Q) (Zp 0 args) h) : ACall Try.prog 23 args h Q :=
  Yx Try.func23 rfl (enters_of Try.func23 (by kernel_rfl) rfl) rfl rfl (by decide) s23_strip s23_ok hsz hk
theorem rless_call [Tabs prog] {h : Yc} {a b : Rat} (h1 : (a.num * b.den).natAbs < 9223372036854775808) (h2 : (b.num * a.den).natAbs < 9223372036854775808) : Xa prog 23 [qV a, qV b] h (.bool (decide (a < b))) := by
  have m1 := mulN h1
  have m2 := mulN h2
  have e1 : decide (a.num * b.den < b.num * a.den) = decide (a < b) := by rw [decide_eq_decide, Rat.lt_iff]
  refine ACall.forget (Low.bool _) ?_
  refine s23_callW (by simp) ?_
  refine Yd ?_
  simp (maxSteps := 2000000) only [s23, ↓Za, ↓Zo, ↓Zr, ↓Ze, ↓Zi, ↓Zs, ↓Zf, ↓Zl, ↓Zg, ↓Zc, ↓Zb, ↓vdn, vup, Zh, Zk, Zm, Zn, Zj, List.map_cons, List.map_nil, cond_true, cond_false, aop, Zv, Zq, Zp, ev, sput, Zt, Zz, Yb, unK, Zd, Zw, Nat.reduceBEq, Nat.reduceAdd, Int.reduceBEq, Int.reduceBNe, Int.reduceLT, Zu, Ya, tup, tyf, qV, frV, boxF, Xe, List.length_append, List.length_singleton, fA0, fA1, Vc (b2_0 ..), Vk (b2_0 ..), Vc (b2_1 ..), Vk (b2_1 ..), m1, m2, e1]
  exact e2 ..

end Go.Proofs.Try.Am

namespace Go.Proofs.Try.Am
open Go.Am
set_option maxRecDepth 100000
/-! 116: slices.IndexFunc[[]planchet api.Frac,planchet api.Frac] -/
@[reducible] def q116_0 : SCode := .region [⟨some 4, .assign (.const (.int .i64 0)), none⟩]
@[reducible] def q116_1 : SCode := .region [⟨some 6, .move (.tmp 0), none⟩,
    ⟨some 7, .call { callee := .builtin .len, args := #[.tmp 6], argTypes := #[47] }, none⟩,
    ⟨some 8, .move (.const (.int .i64 0)), none⟩]
@[reducible] def q116_2 : SCode := .region [⟨some 9, .binOp .lss 3 (.tmp 8) (.tmp 7) 3, none⟩]
@[reducible] def q116_3 : SCode := .region [⟨some 10, .move (.tmp 8), none⟩,
    ⟨some 5, .assign (.tmp 10), none⟩]
@[reducible] def q116_4 : SCode := .region [⟨some 11, .move (.tmp 1), none⟩,
    ⟨some 12, .move (.tmp 0), none⟩,
    ⟨some 13, .move (.tmp 5), none⟩,
    ⟨some 14, .indexAddr 47 (.tmp 12) (.tmp 13), none⟩,
    ⟨some 15, .load 26 (.tmp 14), none⟩,
    ⟨some 16, .call { callee := .value (.tmp 11), args := #[.tmp 15], argTypes := #[26] }, none⟩]
@[reducible] def q116_5 : SCode := .region [⟨some 17, .move (.tmp 5), none⟩,
    ⟨some 4, .assign (.tmp 17), none⟩]
@[reducible] def q116_6 : SCode := .region [⟨some 18, .binOp .add 3 (.tmp 8) (.const (.int .i64 1)) 3, none⟩,
    ⟨some 8, .move (.tmp 18), none⟩]
def l116_0 : SCode := (.seq q116_2 (.seq (.cond (.tmp 9) .skip (.exit 0)) (.seq (.block 1 (.seq q116_3 (.seq q116_4 (.cond (.tmp 16) (.seq q116_5 .ret) .skip)))) q116_6)))
@[reducible] def q116_7 : SCode := .region [⟨some 4, .assign (.const (.int .i64 (-1))), none⟩]
def s116 : SCode := (.seq q116_0 (.seq (.seq q116_1 (.block 0 (.loop l116_0))) (.seq q116_7 .ret)))
theorem s116_strip : Yk (Yj Try.f116) = s116 := by kernel_rfl
theorem s116_ok : Yt 19 (Yj Try.f116) = true := by kernel_rfl
end Go.Proofs.Try.Am

namespace Go.Proofs.Try.Am
open Go.Am Bq
set_option maxRecDepth 100000
set_option maxHeartbeats 1000000

end Go.Proofs.Try.Am

namespace Go.Proofs.Try.Am
open Go.Am
set_option maxRecDepth 100000
end Go.Proofs.Try.Am

namespace Go.Proofs.Try.Am
open Go.Am Bq
set_option maxRecDepth 100000
set_option maxHeartbeats 1000000

/-- Whether fractions are n chances. -/
def chances (n : Int) (ps : List (Int × Int)) : Bool := decide ((ps.length : Int) = n) && (decide (mult ps ≠ 0) && ps.all fun p => decide (p.1 ≤ p.2))

end Go.Proofs.Try.Am

namespace Go.Proofs.Try.Am
open Go.Am
set_option maxRecDepth 100000
end Go.Proofs.Try.Am

namespace Go.Proofs.Try.Am
open Go.Am
set_option maxRecDepth 100000
/-! 35: slices.Equal[[]planchet api.Frac,planchet api.Frac] -/
@[reducible] def q35_0 : SCode := .region [⟨some 4, .assign (.const (.bool false)), none⟩]
@[reducible] def q35_1 : SCode := .region [⟨some 6, .move (.tmp 0), none⟩,
    ⟨some 7, .call { callee := .builtin .len, args := #[.tmp 6], argTypes := #[47] }, none⟩,
    ⟨some 8, .move (.tmp 1), none⟩,
    ⟨some 9, .call { callee := .builtin .len, args := #[.tmp 8], argTypes := #[47] }, none⟩,
    ⟨some 10, .binOp .neq 3 (.tmp 7) (.tmp 9) 3, none⟩]
@[reducible] def q35_2 : SCode := .region [⟨some 4, .assign (.const (.bool false)), none⟩]
@[reducible] def q35_3 : SCode := .region [⟨some 11, .move (.tmp 0), none⟩,
    ⟨some 12, .call { callee := .builtin .len, args := #[.tmp 11], argTypes := #[47] }, none⟩,
    ⟨some 13, .move (.const (.int .i64 0)), none⟩]
@[reducible] def q35_4 : SCode := .region [⟨some 14, .binOp .lss 3 (.tmp 13) (.tmp 12) 3, none⟩]
@[reducible] def q35_5 : SCode := .region [⟨some 15, .move (.tmp 13), none⟩,
    ⟨some 5, .assign (.tmp 15), none⟩]
def q35_6 : SCode := .draw [⟨some 16, .move (.tmp 0), none⟩,
    ⟨some 17, .move (.tmp 5), none⟩,
    ⟨some 18, .indexAddr 47 (.tmp 16) (.tmp 17), none⟩,
    ⟨some 19, .load 26 (.tmp 18), none⟩,
    ⟨some 20, .move (.tmp 1), none⟩,
    ⟨some 21, .move (.tmp 5), none⟩,
    ⟨some 22, .indexAddr 47 (.tmp 20) (.tmp 21), none⟩,
    ⟨some 23, .load 26 (.tmp 22), none⟩,
    ⟨some 24, .binOp .neq 26 (.tmp 19) (.tmp 23) 26, none⟩]
   [[], [], [0, 1], [2], [], [], [4, 5], [6], [3, 7]]
@[reducible] def q35_7 : SCode := .region [⟨some 4, .assign (.const (.bool false)), none⟩]
@[reducible] def q35_8 : SCode := .region [⟨some 25, .binOp .add 3 (.tmp 13) (.const (.int .i64 1)) 3, none⟩,
    ⟨some 13, .move (.tmp 25), none⟩]
def l35_0 : SCode := (.seq q35_4 (.seq (.cond (.tmp 14) .skip (.exit 0)) (.seq (.block 1 (.seq q35_5 (.seq q35_6 (.cond (.tmp 24) (.seq q35_7 .ret) .skip)))) q35_8)))
@[reducible] def q35_9 : SCode := .region [⟨some 4, .assign (.const (.bool true)), none⟩]
def s35 : SCode := (.seq q35_0 (.seq (.seq q35_1 (.cond (.tmp 10) (.seq q35_2 .ret) .skip)) (.seq (.seq q35_3 (.block 0 (.loop l35_0))) (.seq q35_9 .ret))))
theorem s35_strip : Yk (Yj Try.f35) = s35 := by kernel_rfl
theorem s35_ok : Yt 26 (Yj Try.f35) = true := by kernel_rfl
/-! 101: slices.ContainsFunc[[]planchet api.Frac,planchet api.Frac] -/
@[reducible] def q101_0 : SCode := .region [⟨some 4, .assign (.const (.bool false)), none⟩]
@[reducible] def q101_1 : SCode := .region [⟨some 5, .move (.tmp 0), none⟩,
    ⟨some 6, .move (.tmp 1), none⟩,
    ⟨some 7, .call { callee := .value (.func 116), args := #[.tmp 5, .tmp 6], argTypes := #[47, 35] }, none⟩,
    ⟨some 8, .binOp .geq 3 (.tmp 7) (.const (.int .i64 0)) 3, none⟩,
    ⟨some 4, .assign (.tmp 8), none⟩]
def s101 : SCode := (.seq q101_0 (.seq q101_1 .ret))
theorem s101_strip : Yk (Yj Try.f101) = s101 := by kernel_rfl
theorem s101_ok : Yt 9 (Yj Try.f101) = true := by kernel_rfl
/-! 102: (planchet bets.table).corners$2 -/
@[reducible] def q102_0 : SCode := .region [⟨some 1, .box 26 (.tmp 0), none⟩,
    ⟨some 2, .assign (.const (.bool false)), none⟩]
@[reducible] def q102_1 : SCode := .region [⟨some 3, .fieldAddr 26 (.tmp 1) 0, none⟩,
    ⟨some 4, .load 3 (.tmp 3), none⟩,
    ⟨some 5, .binOp .lss 3 (.tmp 4) (.const (.int .i64 0)) 3, none⟩,
    ⟨some 2, .assign (.tmp 5), none⟩]
def s102 : SCode := (.seq q102_0 (.seq q102_1 .ret))
theorem s102_strip : Yk (Yj Try.f102) = s102 := by kernel_rfl
theorem s102_ok : Yt 6 (Yj Try.f102) = true := by kernel_rfl
end Go.Proofs.Try.Am

namespace Go.Proofs.Try.Am
open Go.Am Bq
set_option maxRecDepth 100000
set_option maxHeartbeats 1000000

theorem litI1 [Tabs prog] {h : Yc} {x : Int} (K : Value → Yc → Prop) : Yw prog h 38 1 [(0, Zx x)] K = K (.slice (some ⟨h.length, 0, none⟩) 1 1) (h ++ [.ints [x] 3 false]) := by
  simp only [Yw, Xu, zero_3, Xp, reps, fillL, mkb, Xk, Wv, cellsOf, List.length_singleton, Nat.mul_one, Nat.zero_mul, Nat.zero_add]
  exact propext ⟨fun h => h.2.2.2, fun h => ⟨trivial, by decide, by decide, h⟩⟩

theorem take_snoc {α : Type} {l : List α} {k : Nat} {d : α} (hk : k < l.length) : l.take (k + 1) = l.take k ++ [l.getD k d] := by
  rw [List.take_succ, List.getElem?_eq_getElem hk, List.getD, List.getElem?_eq_getElem hk]; rfl

end Go.Proofs.Try.Am

namespace Go.Proofs.Try.Am
open Go.Am Bq
set_option maxRecDepth 100000
set_option maxHeartbeats 1000000

theorem fits_of {q : Rat} {N : Nat} {x : Int} (h : Rp N x q) (hN : N < 9223372036854775808) (hx : x.natAbs < 9223372036854775808) : Fits q := ⟨Nat.lt_of_le_of_lt h.le hx, Nat.lt_of_le_of_lt h.den_le hN⟩
section
theorem s116_callW [Tabs Try.prog] {args : List Value} {h : Yc} {Q : Value → Yc → Prop} (hsz : args.length ≤ 19) (hk : AWS Try.prog 19 s116 (Zu Try.prog [.tmp 4] Q) (Zp 0 args) h) : ACall Try.prog 116 args h Q :=
  Yx Try.func116 rfl (enters_of Try.func116 (by kernel_rfl) rfl) rfl rfl (by decide) s116_strip s116_ok hsz hk
theorem idxF_call [Tabs prog] {h : Yc} {v : Value} {ps : List (Int × Int)} {g : FuncId} {cap : Array Value} {f : Int × Int → Bool} (hv : PairSl h v ps) (hl : ps.length < 9223372036854775808)
    (hc : ∀ h', Ext (fun _ => False) h h' → ∀ p ∈ ps, Xa prog g ([frV p.1 p.2] ++ cap.toList) h' (.bool (f p))) : ACall prog 116 [v, .func (.func g) #[] cap] h fun r h' => h' = h ∧ ∃ i : Int, r = Zx i ∧ decide (0 ≤ i) = ps.any f := by
  refine s116_callW (by simp) ?_
  simp only [s116]
  refine Zy fun N1 hN1 => ?_
  simp (maxSteps := 2000000) only [s116, ↓Za, ↓Zo, ↓Zr, ↓Ze, ↓Zi, ↓Zs, ↓Zf, ↓Zl, ↓Zg, ↓Zc, ↓Zb, ↓vdn, vup, Zh, Zk, Zm, Zn, Zj, List.map_cons, List.map_nil, cond_true, cond_false, aop, Zv, Zq, Zp, ev, sput, Zt, Zz, Yb, unK, Zd, Zw, Nat.reduceBEq, Nat.reduceAdd, Int.reduceBEq, Int.reduceBNe, Int.reduceLT, Zu, Ya, tup, tyf]
  refine hN1 [(0, v), (1, .func (.func g) #[] cap), (4, .int .i64 0)] _ _ ?_ (by simp (maxSteps := 2000000) only [↓Za, ↓Zo, ↓Zr, ↓Ze, ↓Zi, ↓Zs, ↓Zf, ↓Zl, ↓Zg, ↓Zc, ↓Zb, ↓vdn, vup, Zh, Zk, Zm, Zn, Zj, List.map_cons, List.map_nil, cond_true, cond_false, aop, Zv, Zq, Zp, ev, sput, Zt, Zz, Yb, unK, Zd, Zw, Nat.reduceBEq, Nat.reduceAdd, Int.reduceBEq, Int.reduceBNe, Int.reduceLT, Zu, Ya, tup, tyf])
  clear hN1
  try clear N1
  refine Ye fun Z hZ => ?_
  refine Zy fun N2 hN2 => ?_
  simp (maxSteps := 2000000) only [s116, ↓Za, ↓Zo, ↓Zr, ↓Ze, ↓Zi, ↓Zs, ↓Zf, ↓Zl, ↓Zg, ↓Zc, ↓Zb, ↓vdn, vup, Zh, Zk, Zm, Zn, Zj, List.map_cons, List.map_nil, cond_true, cond_false, aop, Zv, Zq, Zp, ev, sput, Zt, Zz, Yb, unK, Zd, Zw, Nat.reduceBEq, Nat.reduceAdd, Int.reduceBEq, Int.reduceBNe, Int.reduceLT, Zu, Ya, tup, tyf, hv.len]
  refine hN2 [(0, v), (1, .func (.func g) #[] cap), (4, .int .i64 0), (6, v), (7, Zx ps.length), (8, .int .i64 0)] _ _ ?_ (by simp (maxSteps := 2000000) only [↓Za, ↓Zo, ↓Zr, ↓Ze, ↓Zi, ↓Zs, ↓Zf, ↓Zl, ↓Zg, ↓Zc, ↓Zb, ↓vdn, vup, Zh, Zk, Zm, Zn, Zj, List.map_cons, List.map_nil, cond_true, cond_false, aop, Zv, Zq, Zp, ev, sput, Zt, Zz, Yb, unK, Zd, Zw, Nat.reduceBEq, Nat.reduceAdd, Int.reduceBEq, Int.reduceBNe, Int.reduceLT, Zu, Ya, tup, tyf])
  clear hN2
  try clear N2
  refine Yf ?_
  refine Yh fun Q hQ => ?_
  refine Yv (γ := Nat) (fun k => k ≤ ps.length ∧ ∀ p ∈ ps.take k, f p = false)
    (fun k => ([(0, v), (1, .func (.func g) #[] cap), (4, .int .i64 0), (6, v), (7, Zx ps.length), (8, Zx (k : Nat))], h)) (fun k => ps.length - k) 0 ⟨Nat.zero_le _, by simp⟩ (by simp (maxSteps := 2000000) only [↓Za, ↓Zo, ↓Zr, ↓Ze, ↓Zi, ↓Zs, ↓Zf, ↓Zl, ↓Zg, ↓Zc, ↓Zb, ↓vdn, vup, Zh, Zk, Zm, Zn, Zj, List.map_cons, List.map_nil, cond_true, cond_false, aop, Zv, Zq, Zp, ev, sput, Zt, Zz, Yb, unK, Zd, Zw, Nat.reduceBEq, Nat.reduceAdd, Int.reduceBEq, Int.reduceBNe, Int.reduceLT, Zu, Ya, tup, tyf, Int.natCast_zero]) rfl ?_
  rintro k ⟨hk, hall⟩
  refine Yh fun Q2 hQ2 => ?_
  simp only [l116_0]
  by_cases hin : (k : Int) < ps.length
  · have hk' : k < ps.length := by omega
    obtain ⟨⟨x, y⟩, hxy⟩ : ∃ p, ps.getD k (0, 0) = p := ⟨_, rfl⟩
    have hmem : (x, y) ∈ ps := hxy ▸ getD_mem hk'
    refine Zy fun N3 hN3 => ?_
    simp (maxSteps := 2000000) only [s116, ↓Za, ↓Zo, ↓Zr, ↓Ze, ↓Zi, ↓Zs, ↓Zf, ↓Zl, ↓Zg, ↓Zc, ↓Zb, ↓vdn, vup, Zh, Zk, Zm, Zn, Zj, List.map_cons, List.map_nil, cond_true, cond_false, aop, Zv, Zq, Zp, ev, sput, Zt, Zz, Yb, unK, Zd, Zw, Nat.reduceBEq, Nat.reduceAdd, Int.reduceBEq, Int.reduceBNe, Int.reduceLT, Zu, Ya, tup, tyf, hin]
    refine hN3 [(0, v), (1, .func (.func g) #[] cap), (4, .int .i64 0), (6, v), (7, Zx ps.length), (8, Zx (k : Nat)), (9, .bool true)] _ _ ?_ (by simp (maxSteps := 2000000) only [↓Za, ↓Zo, ↓Zr, ↓Ze, ↓Zi, ↓Zs, ↓Zf, ↓Zl, ↓Zg, ↓Zc, ↓Zb, ↓vdn, vup, Zh, Zk, Zm, Zn, Zj, List.map_cons, List.map_nil, cond_true, cond_false, aop, Zv, Zq, Zp, ev, sput, Zt, Zz, Yb, unK, Zd, Zw, Nat.reduceBEq, Nat.reduceAdd, Int.reduceBEq, Int.reduceBNe, Int.reduceLT, Zu, Ya, tup, tyf])
    clear hN3
    try clear N3
    refine Zy fun N4 hN4 => ?_
    simp (maxSteps := 2000000) only [s116, ↓Za, ↓Zo, ↓Zr, ↓Ze, ↓Zi, ↓Zs, ↓Zf, ↓Zl, ↓Zg, ↓Zc, ↓Zb, ↓vdn, vup, Zh, Zk, Zm, Zn, Zj, List.map_cons, List.map_nil, cond_true, cond_false, aop, Zv, Zq, Zp, ev, sput, Zt, Zz, Yb, unK, Zd, Zw, Nat.reduceBEq, Nat.reduceAdd, Int.reduceBEq, Int.reduceBNe, Int.reduceLT, Zu, Ya, tup, tyf]
    refine hN4 [(0, v), (1, .func (.func g) #[] cap), (4, .int .i64 0), (6, v), (7, Zx ps.length), (8, Zx (k : Nat))] _ _ ?_ (by simp (maxSteps := 2000000) only [↓Za, ↓Zo, ↓Zr, ↓Ze, ↓Zi, ↓Zs, ↓Zf, ↓Zl, ↓Zg, ↓Zc, ↓Zb, ↓vdn, vup, Zh, Zk, Zm, Zn, Zj, List.map_cons, List.map_nil, cond_true, cond_false, aop, Zv, Zq, Zp, ev, sput, Zt, Zz, Yb, unK, Zd, Zw, Nat.reduceBEq, Nat.reduceAdd, Int.reduceBEq, Int.reduceBNe, Int.reduceLT, Zu, Ya, tup, tyf])
    clear hN4
    try clear N4
    refine Ye fun B hB => ?_
    refine Yf ?_
    refine Zy fun N5 hN5 => ?_
    simp (maxSteps := 2000000) only [s116, ↓Za, ↓Zo, ↓Zr, ↓Ze, ↓Zi, ↓Zs, ↓Zf, ↓Zl, ↓Zg, ↓Zc, ↓Zb, ↓vdn, vup, Zh, Zk, Zm, Zn, Zj, List.map_cons, List.map_nil, cond_true, cond_false, aop, Zv, Zq, Zp, ev, sput, Zt, Zz, Yb, unK, Zd, Zw, Nat.reduceBEq, Nat.reduceAdd, Int.reduceBEq, Int.reduceBNe, Int.reduceLT, Zu, Ya, tup, tyf]
    refine hN5 [(0, v), (1, .func (.func g) #[] cap), (4, .int .i64 0), (5, Zx (k : Nat)), (6, v), (7, Zx ps.length), (8, Zx (k : Nat))] _ _ ?_ (by simp (maxSteps := 2000000) only [↓Za, ↓Zo, ↓Zr, ↓Ze, ↓Zi, ↓Zs, ↓Zf, ↓Zl, ↓Zg, ↓Zc, ↓Zb, ↓vdn, vup, Zh, Zk, Zm, Zn, Zj, List.map_cons, List.map_nil, cond_true, cond_false, aop, Zv, Zq, Zp, ev, sput, Zt, Zz, Yb, unK, Zd, Zw, Nat.reduceBEq, Nat.reduceAdd, Int.reduceBEq, Int.reduceBNe, Int.reduceLT, Zu, Ya, tup, tyf])
    clear hN5
    try clear N5
    refine Zy fun N6 hN6 => ?_
    simp (maxSteps := 2000000) only [s116, ↓Za, ↓Zo, ↓Zr, ↓Ze, ↓Zi, ↓Zs, ↓Zf, ↓Zl, ↓Zg, ↓Zc, ↓Zb, ↓vdn, vup, Zh, Zk, Zm, Zn, Zj, List.map_cons, List.map_nil, cond_true, cond_false, aop, Zv, Zq, Zp, ev, sput, Zt, Zz, Yb, unK, Zd, Zw, Nat.reduceBEq, Nat.reduceAdd, Int.reduceBEq, Int.reduceBNe, Int.reduceLT, Zu, Ya, tup, tyf, hv.idx el_47 Vm hk', hv.load shp_26 hk', hxy, Yr, List.nil_append, List.append_nil]
    refine (show Xa prog g ([.agg #[Zx x, Zx y]] ++ cap.toList) h (.bool (f (x, y))) from hc h (Ext.refl _ _) _ hmem).mono ?_
    rintro _ h ⟨rfl, rfl⟩
    refine hN6 [(0, v), (1, .func (.func g) #[] cap), (4, .int .i64 0), (5, Zx (k : Nat)), (6, v), (7, Zx ps.length), (8, Zx (k : Nat)), (16, .bool (f (x, y)))] _ _ ?_ (by simp (maxSteps := 2000000) only [↓Za, ↓Zo, ↓Zr, ↓Ze, ↓Zi, ↓Zs, ↓Zf, ↓Zl, ↓Zg, ↓Zc, ↓Zb, ↓vdn, vup, Zh, Zk, Zm, Zn, Zj, List.map_cons, List.map_nil, cond_true, cond_false, aop, Zv, Zq, Zp, ev, sput, Zt, Zz, Yb, unK, Zd, Zw, Nat.reduceBEq, Nat.reduceAdd, Int.reduceBEq, Int.reduceBNe, Int.reduceLT, Zu, Ya, tup, tyf])
    clear hN6
    try clear N6
    refine Yd ?_
    cases hf : f (x, y) with
    | true =>
      simp (maxSteps := 2000000) only [s116, ↓Za, ↓Zo, ↓Zr, ↓Ze, ↓Zi, ↓Zs, ↓Zf, ↓Zl, ↓Zg, ↓Zc, ↓Zb, ↓vdn, vup, Zh, Zk, Zm, Zn, Zj, List.map_cons, List.map_nil, cond_true, cond_false, aop, Zv, Zq, Zp, ev, sput, Zt, Zz, Yb, unK, Zd, Zw, Nat.reduceBEq, Nat.reduceAdd, Int.reduceBEq, Int.reduceBNe, Int.reduceLT, Zu, Ya, tup, tyf]
      refine hQ2 _ _ _ (hQ _ _ _ ?_)
      simp (maxSteps := 2000000) only [s116, ↓Za, ↓Zo, ↓Zr, ↓Ze, ↓Zi, ↓Zs, ↓Zf, ↓Zl, ↓Zg, ↓Zc, ↓Zb, ↓vdn, vup, Zh, Zk, Zm, Zn, Zj, List.map_cons, List.map_nil, cond_true, cond_false, aop, Zv, Zq, Zp, ev, sput, Zt, Zz, Yb, unK, Zd, Zw, Nat.reduceBEq, Nat.reduceAdd, Int.reduceBEq, Int.reduceBNe, Int.reduceLT, Zu, Ya, tup, tyf]
      exact ⟨_, rfl, by rw [show ps.any f = true from List.any_eq_true.2 ⟨_, hmem, hf⟩]; simp⟩
    | false =>
      simp (maxSteps := 2000000) only [s116, ↓Za, ↓Zo, ↓Zr, ↓Ze, ↓Zi, ↓Zs, ↓Zf, ↓Zl, ↓Zg, ↓Zc, ↓Zb, ↓vdn, vup, Zh, Zk, Zm, Zn, Zj, List.map_cons, List.map_nil, cond_true, cond_false, aop, Zv, Zq, Zp, ev, sput, Zt, Zz, Yb, unK, Zd, Zw, Nat.reduceBEq, Nat.reduceAdd, Int.reduceBEq, Int.reduceBNe, Int.reduceLT, Zu, Ya, tup, tyf]
      refine hB [(0, v), (1, .func (.func g) #[] cap), (4, .int .i64 0), (6, v), (7, Zx ps.length), (8, Zx (k : Nat))] _ _ ?_ (by simp (maxSteps := 2000000) only [↓Za, ↓Zo, ↓Zr, ↓Ze, ↓Zi, ↓Zs, ↓Zf, ↓Zl, ↓Zg, ↓Zc, ↓Zb, ↓vdn, vup, Zh, Zk, Zm, Zn, Zj, List.map_cons, List.map_nil, cond_true, cond_false, aop, Zv, Zq, Zp, ev, sput, Zt, Zz, Yb, unK, Zd, Zw, Nat.reduceBEq, Nat.reduceAdd, Int.reduceBEq, Int.reduceBNe, Int.reduceLT, Zu, Ya, tup, tyf])
      clear hB
      try clear B
      refine Yd ?_
      simp (maxSteps := 2000000) only [s116, ↓Za, ↓Zo, ↓Zr, ↓Ze, ↓Zi, ↓Zs, ↓Zf, ↓Zl, ↓Zg, ↓Zc, ↓Zb, ↓vdn, vup, Zh, Zk, Zm, Zn, Zj, List.map_cons, List.map_nil, cond_true, cond_false, aop, Zv, Zq, Zp, ev, sput, Zt, Zz, Yb, unK, Zd, Zw, Nat.reduceBEq, Nat.reduceAdd, Int.reduceBEq, Int.reduceBNe, Int.reduceLT, Zu, Ya, tup, tyf, add1 (show k < 9223372036854775807 by omega)]
      refine hQ2 _ _ _ ⟨k + 1, ⟨hk', fun p hp => ?_⟩, by omega, by simp (maxSteps := 2000000) only [↓Za, ↓Zo, ↓Zr, ↓Ze, ↓Zi, ↓Zs, ↓Zf, ↓Zl, ↓Zg, ↓Zc, ↓Zb, ↓vdn, vup, Zh, Zk, Zm, Zn, Zj, List.map_cons, List.map_nil, cond_true, cond_false, aop, Zv, Zq, Zp, ev, sput, Zt, Zz, Yb, unK, Zd, Zw, Nat.reduceBEq, Nat.reduceAdd, Int.reduceBEq, Int.reduceBNe, Int.reduceLT, Zu, Ya, tup, tyf], rfl⟩
      rw [take_snoc (d := ((0, 0) : Int × Int)) hk', hxy] at hp
      rcases List.mem_append.1 hp with h3 | h3
      · exact hall p h3
      · simp at h3; subst h3; exact hf
  · obtain rfl : k = ps.length := by omega
    refine Zy fun N7 hN7 => ?_
    simp (maxSteps := 2000000) only [s116, ↓Za, ↓Zo, ↓Zr, ↓Ze, ↓Zi, ↓Zs, ↓Zf, ↓Zl, ↓Zg, ↓Zc, ↓Zb, ↓vdn, vup, Zh, Zk, Zm, Zn, Zj, List.map_cons, List.map_nil, cond_true, cond_false, aop, Zv, Zq, Zp, ev, sput, Zt, Zz, Yb, unK, Zd, Zw, Nat.reduceBEq, Nat.reduceAdd, Int.reduceBEq, Int.reduceBNe, Int.reduceLT, Zu, Ya, tup, tyf, hin]
    refine hN7 [(0, v), (1, .func (.func g) #[] cap), (4, .int .i64 0), (6, v), (7, Zx ps.length), (8, Zx ps.length), (9, .bool false)] _ _ ?_ (by simp (maxSteps := 2000000) only [↓Za, ↓Zo, ↓Zr, ↓Ze, ↓Zi, ↓Zs, ↓Zf, ↓Zl, ↓Zg, ↓Zc, ↓Zb, ↓vdn, vup, Zh, Zk, Zm, Zn, Zj, List.map_cons, List.map_nil, cond_true, cond_false, aop, Zv, Zq, Zp, ev, sput, Zt, Zz, Yb, unK, Zd, Zw, Nat.reduceBEq, Nat.reduceAdd, Int.reduceBEq, Int.reduceBNe, Int.reduceLT, Zu, Ya, tup, tyf])
    clear hN7
    try clear N7
    refine Zy fun N8 hN8 => ?_
    simp (maxSteps := 2000000) only [s116, ↓Za, ↓Zo, ↓Zr, ↓Ze, ↓Zi, ↓Zs, ↓Zf, ↓Zl, ↓Zg, ↓Zc, ↓Zb, ↓vdn, vup, Zh, Zk, Zm, Zn, Zj, List.map_cons, List.map_nil, cond_true, cond_false, aop, Zv, Zq, Zp, ev, sput, Zt, Zz, Yb, unK, Zd, Zw, Nat.reduceBEq, Nat.reduceAdd, Int.reduceBEq, Int.reduceBNe, Int.reduceLT, Zu, Ya, tup, tyf]
    refine hQ2 _ _ _ (hQ _ _ _ ?_)
    simp (maxSteps := 2000000) only [s116, ↓Za, ↓Zo, ↓Zr, ↓Ze, ↓Zi, ↓Zs, ↓Zf, ↓Zl, ↓Zg, ↓Zc, ↓Zb, ↓vdn, vup, Zh, Zk, Zm, Zn, Zj, List.map_cons, List.map_nil, cond_true, cond_false, aop, Zv, Zq, Zp, ev, sput, Zt, Zz, Yb, unK, Zd, Zw, Nat.reduceBEq, Nat.reduceAdd, Int.reduceBEq, Int.reduceBNe, Int.reduceLT, Zu, Ya, tup, tyf, if_true]
    refine hZ [(0, v), (1, .func (.func g) #[] cap), (4, .int .i64 0), (6, v), (7, Zx ps.length), (8, Zx ps.length), (9, .bool false)] _ _ ?_ (by simp (maxSteps := 2000000) only [↓Za, ↓Zo, ↓Zr, ↓Ze, ↓Zi, ↓Zs, ↓Zf, ↓Zl, ↓Zg, ↓Zc, ↓Zb, ↓vdn, vup, Zh, Zk, Zm, Zn, Zj, List.map_cons, List.map_nil, cond_true, cond_false, aop, Zv, Zq, Zp, ev, sput, Zt, Zz, Yb, unK, Zd, Zw, Nat.reduceBEq, Nat.reduceAdd, Int.reduceBEq, Int.reduceBNe, Int.reduceLT, Zu, Ya, tup, tyf])
    clear hZ
    try clear Z
    refine Yd ?_
    simp (maxSteps := 2000000) only [s116, ↓Za, ↓Zo, ↓Zr, ↓Ze, ↓Zi, ↓Zs, ↓Zf, ↓Zl, ↓Zg, ↓Zc, ↓Zb, ↓vdn, vup, Zh, Zk, Zm, Zn, Zj, List.map_cons, List.map_nil, cond_true, cond_false, aop, Zv, Zq, Zp, ev, sput, Zt, Zz, Yb, unK, Zd, Zw, Nat.reduceBEq, Nat.reduceAdd, Int.reduceBEq, Int.reduceBNe, Int.reduceLT, Zu, Ya, tup, tyf]
    rw [List.take_length] at hall
    exact ⟨_, rfl, by rw [show ps.any f = false from List.any_eq_false.2 fun p hp => by simp [hall p hp]]; decide⟩
end

theorem s101_callW [Tabs Try.prog] {args : List Value} {h : Yc} {Q : Value → Yc → Prop} (hsz : args.length ≤ 9) (hk : AWS Try.prog 9 s101 (Zu Try.prog [.tmp 4] Q) (Zp 0 args) h) : ACall Try.prog 101 args h Q :=
  Yx Try.func101 rfl (enters_of Try.func101 (by kernel_rfl) rfl) rfl rfl (by decide) s101_strip s101_ok hsz hk
theorem hasF_call [Tabs prog] {h : Yc} {v : Value} {ps : List (Int × Int)} {g : FuncId} {cap : Array Value} {f : Int × Int → Bool} (hv : PairSl h v ps) (hl : ps.length < 9223372036854775808)
    (hc : ∀ h', Ext (fun _ => False) h h' → ∀ p ∈ ps, Xa prog g ([frV p.1 p.2] ++ cap.toList) h' (.bool (f p))) : Xa prog 101 [v, .func (.func g) #[] cap] h (.bool (ps.any f)) := by
  refine s101_callW (by simp) ?_
  refine Yd ?_
  simp (maxSteps := 2000000) only [s101, ↓Za, ↓Zo, ↓Zr, ↓Ze, ↓Zi, ↓Zs, ↓Zf, ↓Zl, ↓Zg, ↓Zc, ↓Zb, ↓vdn, vup, Zh, Zk, Zm, Zn, Zj, List.map_cons, List.map_nil, cond_true, cond_false, aop, Zv, Zq, Zp, ev, sput, Zt, Zz, Yb, unK, Zd, Zw, Nat.reduceBEq, Nat.reduceAdd, Int.reduceBEq, Int.reduceBNe, Int.reduceLT, Zu, Ya, tup, tyf, Yr, List.nil_append, List.append_nil, List.toList_toArray, List.cons_append]
  refine (idxF_call hv hl hc).mono ?_
  rintro _ h1 ⟨rfl, i, rfl, hi⟩
  simp (maxSteps := 2000000) only [s101, ↓Za, ↓Zo, ↓Zr, ↓Ze, ↓Zi, ↓Zs, ↓Zf, ↓Zl, ↓Zg, ↓Zc, ↓Zb, ↓vdn, vup, Zh, Zk, Zm, Zn, Zj, List.map_cons, List.map_nil, cond_true, cond_false, aop, Zv, Zq, Zp, ev, sput, Zt, Zz, Yb, unK, Zd, Zw, Nat.reduceBEq, Nat.reduceAdd, Int.reduceBEq, Int.reduceBNe, Int.reduceLT, Zu, Ya, tup, tyf, ge_iff_le, hi]

end Go.Proofs.Try.Am

namespace Go.Proofs.Try.Am
open Go.Am Bq
set_option maxRecDepth 100000
set_option maxHeartbeats 1000000

theorem shl1 {n : Nat} (h : n ≤ 62) : shlV .i64 1 n = 2 ^ n := by
  have h2 : 2 ^ n ≤ 2 ^ 62 := Nat.pow_le_pow_right (by decide) h
  have := shlV_nat (a := 1) (y := n) (by omega) (by omega)
  simpa using this
theorem pow_cast (n : Nat) : ((2 ^ n : Nat) : Int) = 2 ^ n := by simp
end Go.Proofs.Try.Am

/-
  order: the library's sort of a short slice (insertion).
  Plain theory: Dilworth's theorem: an antichain with as many elements as chains that have all.
  Plain theory: chains, antichains and ideals as sets of bits; the fewest chains are as many as a greatest antichain has elements; an ideal for each antichain.
  order: the reference's chains, antichains and ideals.
  order: the program's ideals and antichains: sets for which something is so, any two elements of a set.
-/
import Derived.Test.YtnjacpfahhjpiaaDoorPk6
import Derived.Test.YtnjacpfahhjpiaaDoorPk4
import Derived.Test.YtnjacpfahhjpiaaDoorPk5
set_option linter.all false
namespace Go.Proofs.Tryd.Am
open Go.Am Ord
set_option maxRecDepth 100000
set_option maxHeartbeats 1000000

abbrev iL (L : List Nat) : List Int := L.map Int.ofNat
theorem iL_len (L : List Nat) : (iL L).length = L.length := by simp
theorem iL_snoc (L : List Nat) (i : Nat) : iL L ++ [(i : Int)] = iL (L ++ [i]) := by simp [iL]
theorem iL_get (L : List Nat) (i : Nat) : (iL L).getD i 0 = ((L.getD i 0 : Nat) : Int) := by
  rw [List.getD, List.getElem?_map, List.getD]; cases L[i]? <;> rfl
theorem iL_set (L : List Nat) (i x : Nat) : (iL L).set i ((x : Nat) : Int) = iL (L.set i x) := by simp only [iL, List.map_set]; rfl
theorem getD_setN {L : List Nat} {s x i : Nat} (hs : s < L.length) : (L.set s x).getD i 0 = if i = s then x else L.getD i 0 := by
  rw [List.getD, List.getElem?_set]
  by_cases h : s = i
  · subst h; simp [hs]
  · rw [if_neg h, if_neg (Ne.symm h)]; rfl
def swL (L : List Nat) (j : Nat) : List Nat := (L.set j (L.getD (j - 1) 0)).set (j - 1) (L.getD j 0)
theorem swL_get {L : List Nat} {j : Nat} (h1 : 1 ≤ j) (h2 : j < L.length) (t : Nat) : (swL L j).getD t 0 = if t = j - 1 then L.getD j 0 else if t = j then L.getD (j - 1) 0 else L.getD t 0 := by
  rw [swL, getD_setN (by rw [List.length_set]; omega), getD_setN h2]
theorem swL_perm {L : List Nat} {j : Nat} (h1 : 1 ≤ j) (h2 : j < L.length) : (swL L j).Perm L := by
  have := Array.swap_perm (xs := L.toArray) (i := j) (j := j - 1) (by simpa using h2) (by simp; omega)
  rw [Array.perm_iff_toList_perm, Array.toList_swap] at this
  simpa [swL, List.getD, List.getElem?_eq_getElem h2, List.getElem?_eq_getElem (show j - 1 < L.length by omega)] using this

section
variable {key : Nat → Int}
/-- The first i are sorted. -/
def SrtTo (key : Nat → Int) (L : List Nat) (i : Nat) : Prop := ∀ p q, p < q → q < i → key (L.getD p 0) ≤ key (L.getD q 0)
/-- The first i + 1 are sorted but for the one at j. -/
def SrtBut (key : Nat → Int) (L : List Nat) (i j : Nat) : Prop := ∀ p q, p < q → q ≤ i → q ≠ j → key (L.getD p 0) ≤ key (L.getD q 0)
theorem SrtBut.step {L : List Nat} {i j : Nat} (h : SrtBut key L i j) (h1 : 1 ≤ j) (h2 : j < L.length) (hj : j ≤ i) (hlt : key (L.getD j 0) < key (L.getD (j - 1) 0)) : SrtBut key (swL L j) i (j - 1) := by
  intro p q hpq hq hne
  rw [swL_get h1 h2, swL_get h1 h2, if_neg hne]
  by_cases hqj : q = j
  · rw [if_pos hqj]
    by_cases hp : p = j - 1
    · rw [if_pos hp]; omega
    · rw [if_neg hp, if_neg (by omega)]
      exact h p (j - 1) (by omega) (by omega) (by omega)
  · rw [if_neg hqj]
    by_cases hp : p = j - 1
    · rw [if_pos hp]; exact h j q (by omega) hq hqj
    · rw [if_neg hp]
      by_cases hpj : p = j
      · rw [if_pos hpj]; exact h (j - 1) q (by omega) hq hqj
      · rw [if_neg hpj]; exact h p q hpq hq hqj
theorem SrtBut.done {L : List Nat} {i j : Nat} (h : SrtBut key L i j) (hj : j = 0 ∨ key (L.getD (j - 1) 0) ≤ key (L.getD j 0)) : SrtTo key L (i + 1) := by
  intro p q hpq hq
  by_cases hqj : q = j
  · subst hqj
    rcases hj with hj | hj
    · omega
    · by_cases hp : p = q - 1
      · subst hp; exact hj
      · exact Int.le_trans (h p (q - 1) (by omega) (by omega) (by omega)) hj
  · exact h p q hpq (by omega) hqj
theorem SrtTo.pw {L : List Nat} (h : SrtTo key L L.length) : L.Pairwise fun a b => key a ≤ key b := by
  rw [List.pairwise_iff_getElem]
  intro i j hi hj hij
  have := h i j hij hj
  rw [List.getD, List.getD, List.getElem?_eq_getElem hi, List.getElem?_eq_getElem hj] at this
  exact this
end
theorem subN1 {n : Nat} (h1 : 1 ≤ n) (h : n < 9223372036854775808) : subV .i64 (n : Int) 1 = ((n - 1 : Nat) : Int) := by rw [subV_id (by omega) (by omega)]; omega
/-- A slice in a block of its own. -/
abbrev ov (b n m : Nat) : Value := .slice (some ⟨b, 0, some 0⟩) n (n + m)
theorem ov_own {h : Zx} {b n : Nat} {L : List Nat} {ys : List Int} (hb : b < h.length) (hn : L.length = n) : OwnSl 3 (h.set b (.ints (iL L ++ ys) 3 false)) (ov b n ys.length) (iL L) :=
  .inr ⟨b, ys, by rw [iL_len, hn], Xs hb _⟩
theorem elemP_ov (b n m i : Nat) : elemP (ov b n m) 1 i = .pointer (some ⟨b, i, none⟩) := by simp [elemP]
theorem ov_load {h : Zx} {b n : Nat} {L : List Nat} {ys : List Int} {i : Nat} (hb : b < h.length) (hn : L.length = n) (hi : i < n) {K : Value → Prop} :
    Xz prog (h.set b (.ints (iL L ++ ys) 3 false)) 3 (.pointer (some ⟨b, i, none⟩)) K = K (Yb (L.getD i 0 : Nat)) := by
  have := (ov_own (h := h) (b := b) (n := n) (L := L) (ys := ys) hb hn).int.load Yq (i := i) (by rw [iL_len]; omega) K
  rw [elemP_ov, iL_get] at this
  exact this
theorem ov_store {h : Zx} {b : Nat} {L : List Nat} {ys : List Int} {i x : Nat} (hb : b < h.length) (hi : i < L.length) {K : Zx → Prop} :
    Wd prog (h.set b (.ints (iL L ++ ys) 3 false)) 3 (.pointer (some ⟨b, i, none⟩)) (Yb (x : Nat)) K = K (h.set b (.ints (iL (L.set i x) ++ ys) 3 false)) := by
  rw [storeBI (Xs hb _) Yq (by rw [List.length_append, iL_len]; omega), List.set_set, List.set_append_left _ _ (by rw [iL_len]; exact hi), iL_set]

abbrev kO : Nat → Int := Int.ofNat
theorem isnan_call [Tabs prog] {h : Zx} {x : Int} : Wv prog 140 [Yb x] h (.bool false) := by
  refine s140_call (by simp) ?_
  have hb : (x != x) = false := bne_self_eq_false _
  simp (maxSteps := 2000000) only [s140, ↓Za, ↓Zj, ↓Zr, ↓Ze, ↓Zl, ↓Zs, ↓Zf, ↓Zm, ↓Zg, ↓Zb, ↓Zc, ↓vdn, vup, Zk, Zo, Zn, Zi, Zh, List.map_cons, List.map_nil, cond_true, cond_false, aop, Zv, Zq, Zp, ev, sput, Zt, Zy, Ya, unK, Zd, Zw, Nat.reduceBEq, Nat.reduceAdd, Int.reduceBEq, Int.reduceBNe, Int.reduceLT, Zu, Zz, tup, tyf, hb]
theorem s129_callW [Tabs Tryd.prog] {args : List Value} {h : Zx} {Q : Value → Zx → Prop} (hsz : args.length ≤ 17) (hk : AWS Tryd.prog 17 s129 (Zu Tryd.prog [.tmp 4] Q) (Zp 0 args) h) : ACall Tryd.prog 129 args h Q :=
  Wa Tryd.func129 rfl (enters_of Tryd.func129 (by kernel_rfl) rfl) rfl rfl (by decide) s129_strip s129_ok hsz hk
theorem less_call [Tabs prog] {h : Zx} {x y : Int} : Wv prog 129 [Yb x, Yb y] h (.bool (decide (x < y))) := by
  refine s129_callW (by simp) ?_
  refine Yj ?_
  simp (maxSteps := 2000000) only [s129, ↓Za, ↓Zj, ↓Zr, ↓Ze, ↓Zl, ↓Zs, ↓Zf, ↓Zm, ↓Zg, ↓Zb, ↓Zc, ↓vdn, vup, Zk, Zo, Zn, Zi, Zh, List.map_cons, List.map_nil, cond_true, cond_false, aop, Zv, Zq, Zp, ev, sput, Zt, Zy, Ya, unK, Zd, Zw, Nat.reduceBEq, Nat.reduceAdd, Int.reduceBEq, Int.reduceBNe, Int.reduceLT, Zu, Zz, tup, tyf, Yr, List.nil_append, List.append_nil, List.toList_toArray, List.cons_append]
  refine (isnan_call).mono ?_
  rintro _ h ⟨rfl, rfl⟩
  simp (maxSteps := 2000000) only [s129, ↓Za, ↓Zj, ↓Zr, ↓Ze, ↓Zl, ↓Zs, ↓Zf, ↓Zm, ↓Zg, ↓Zb, ↓Zc, ↓vdn, vup, Zk, Zo, Zn, Zi, Zh, List.map_cons, List.map_nil, cond_true, cond_false, aop, Zv, Zq, Zp, ev, sput, Zt, Zy, Ya, unK, Zd, Zw, Nat.reduceBEq, Nat.reduceAdd, Int.reduceBEq, Int.reduceBNe, Int.reduceLT, Zu, Zz, tup, tyf]
theorem s123_callW [Tabs Tryd.prog] {args : List Value} {h : Zx} {Q : Value → Zx → Prop} (hsz : args.length ≤ 49) (hk : AWS Tryd.prog 49 s123 (Zu Tryd.prog [] Q) (Zp 0 args) h) : ACall Tryd.prog 123 args h Q :=
  Wa Tryd.func123 rfl (enters_of Tryd.func123 (by kernel_rfl) rfl) rfl rfl (by decide) s123_strip s123_ok hsz hk
theorem isortO_call [Tabs prog] {h : Zx} {b : Nat} {L0 : List Nat} {ys : List Int} (hb : h[b]? = some (.ints (iL L0 ++ ys) 3 false)) (hl : L0.length ≤ 12) (hx : ∀ x ∈ L0, x < 4611686018427387904) :
    ACall prog 123 [ov b L0.length ys.length, .int .i64 0, Yb L0.length] h fun _ h' => ∃ L : List Nat, L.Perm L0 ∧ L.Pairwise (fun a b => a ≤ b) ∧ h' = h.set b (.ints (iL L ++ ys) 3 false) := by
  have hlt := Yz hb
  have h0 : h = h.set b (.ints (iL L0 ++ ys) 3 false) := by
    apply List.ext_getElem?
    intro i
    by_cases hi : b = i
    · subst hi; rw [Xs hlt, hb]
    · rw [List.getElem?_set_ne hi]
  obtain ⟨n, hn⟩ : ∃ n, L0.length = n := ⟨_, rfl⟩
  rw [hn] at hl ⊢
  have hrange : ∀ {L : List Nat}, L.Perm L0 → ∀ i, L.getD i 0 < 4611686018427387904 := fun {L} hp i => by
    by_cases hi : i < L.length
    · rw [List.getD, List.getElem?_eq_getElem hi]; exact hx _ (hp.mem_iff.1 (List.getElem_mem hi))
    · rw [List.getD, List.getElem?_eq_none (by omega)]; decide
  refine s123_callW (by simp) ?_
  simp only [s123]
  have e01 : addV .i64 0 1 = 1 := rfl
  refine Yc fun N1 hN1 => ?_
  simp (maxSteps := 2000000) only [s123, ↓Za, ↓Zj, ↓Zr, ↓Ze, ↓Zl, ↓Zs, ↓Zf, ↓Zm, ↓Zg, ↓Zb, ↓Zc, ↓vdn, vup, Zk, Zo, Zn, Zi, Zh, List.map_cons, List.map_nil, cond_true, cond_false, aop, Zv, Zq, Zp, ev, sput, Zt, Zy, Ya, unK, Zd, Zw, Nat.reduceBEq, Nat.reduceAdd, Int.reduceBEq, Int.reduceBNe, Int.reduceLT, Zu, Zz, tup, tyf, e01]
  refine hN1 [(0, ov b n ys.length), (1, .int .i64 0), (2, Yb n), (6, .int .i64 1)] _ _ ?_ (by simp (maxSteps := 2000000) only [↓Za, ↓Zj, ↓Zr, ↓Ze, ↓Zl, ↓Zs, ↓Zf, ↓Zm, ↓Zg, ↓Zb, ↓Zc, ↓vdn, vup, Zk, Zo, Zn, Zi, Zh, List.map_cons, List.map_nil, cond_true, cond_false, aop, Zv, Zq, Zp, ev, sput, Zt, Zy, Ya, unK, Zd, Zw, Nat.reduceBEq, Nat.reduceAdd, Int.reduceBEq, Int.reduceBNe, Int.reduceLT, Zu, Zz, tup, tyf])
  clear hN1
  try clear N1
  refine Yp ?_
  refine Yo fun Q hQ => ?_
  refine Wm (γ := Nat × List Nat) (fun s => 1 ≤ s.1 ∧ (s.1 ≤ n ∨ s.1 = 1) ∧ s.2.Perm L0 ∧ SrtTo kO s.2 s.1)
    (fun s => ([(0, ov b n ys.length), (1, .int .i64 0), (2, Yb n), (6, Yb s.1)], h.set b (.ints (iL s.2 ++ ys) 3 false))) (fun s => n - s.1) (1, L0) ⟨Nat.le_refl _, .inr rfl, .refl _, fun p q _ _ => by omega⟩ (by simp (maxSteps := 2000000) only [↓Za, ↓Zj, ↓Zr, ↓Ze, ↓Zl, ↓Zs, ↓Zf, ↓Zm, ↓Zg, ↓Zb, ↓Zc, ↓vdn, vup, Zk, Zo, Zn, Zi, Zh, List.map_cons, List.map_nil, cond_true, cond_false, aop, Zv, Zq, Zp, ev, sput, Zt, Zy, Ya, unK, Zd, Zw, Nat.reduceBEq, Nat.reduceAdd, Int.reduceBEq, Int.reduceBNe, Int.reduceLT, Zu, Zz, tup, tyf, Int.natCast_one]) h0 ?_
  rintro ⟨i, L⟩ ⟨hi1, hi, hp, hs⟩
  simp only at hi1 hi hp hs
  have hLn : L.length = n := hp.length_eq.trans hn
  refine Yo fun Q2 hQ2 => ?_
  simp only [l123_1]
  by_cases hin : (i : Int) < n
  · have hi' : i < n := by omega
    refine Yc fun N2 hN2 => ?_
    simp (maxSteps := 2000000) only [s123, ↓Za, ↓Zj, ↓Zr, ↓Ze, ↓Zl, ↓Zs, ↓Zf, ↓Zm, ↓Zg, ↓Zb, ↓Zc, ↓vdn, vup, Zk, Zo, Zn, Zi, Zh, List.map_cons, List.map_nil, cond_true, cond_false, aop, Zv, Zq, Zp, ev, sput, Zt, Zy, Ya, unK, Zd, Zw, Nat.reduceBEq, Nat.reduceAdd, Int.reduceBEq, Int.reduceBNe, Int.reduceLT, Zu, Zz, tup, tyf, hin]
    refine hN2 [(0, ov b n ys.length), (1, .int .i64 0), (2, Yb n), (6, Yb i)] _ _ ?_ (by simp (maxSteps := 2000000) only [↓Za, ↓Zj, ↓Zr, ↓Ze, ↓Zl, ↓Zs, ↓Zf, ↓Zm, ↓Zg, ↓Zb, ↓Zc, ↓vdn, vup, Zk, Zo, Zn, Zi, Zh, List.map_cons, List.map_nil, cond_true, cond_false, aop, Zv, Zq, Zp, ev, sput, Zt, Zy, Ya, unK, Zd, Zw, Nat.reduceBEq, Nat.reduceAdd, Int.reduceBEq, Int.reduceBNe, Int.reduceLT, Zu, Zz, tup, tyf])
    clear hN2
    try clear N2
    refine Yu fun M hM => ?_
    refine Yp ?_
    refine Yc fun N3 hN3 => ?_
    simp (maxSteps := 2000000) only [s123, ↓Za, ↓Zj, ↓Zr, ↓Ze, ↓Zl, ↓Zs, ↓Zf, ↓Zm, ↓Zg, ↓Zb, ↓Zc, ↓vdn, vup, Zk, Zo, Zn, Zi, Zh, List.map_cons, List.map_nil, cond_true, cond_false, aop, Zv, Zq, Zp, ev, sput, Zt, Zy, Ya, unK, Zd, Zw, Nat.reduceBEq, Nat.reduceAdd, Int.reduceBEq, Int.reduceBNe, Int.reduceLT, Zu, Zz, tup, tyf]
    refine hN3 [(0, ov b n ys.length), (1, .int .i64 0), (2, Yb n), (6, Yb i), (7, Yb i)] _ _ ?_ (by simp (maxSteps := 2000000) only [↓Za, ↓Zj, ↓Zr, ↓Ze, ↓Zl, ↓Zs, ↓Zf, ↓Zm, ↓Zg, ↓Zb, ↓Zc, ↓vdn, vup, Zk, Zo, Zn, Zi, Zh, List.map_cons, List.map_nil, cond_true, cond_false, aop, Zv, Zq, Zp, ev, sput, Zt, Zy, Ya, unK, Zd, Zw, Nat.reduceBEq, Nat.reduceAdd, Int.reduceBEq, Int.reduceBNe, Int.reduceLT, Zu, Zz, tup, tyf])
    clear hN3
    try clear N3
    refine Yp ?_
    refine Yo fun Q3 hQ3 => ?_
    refine Wm (γ := Nat × List Nat) (fun s => s.1 ≤ i ∧ s.2.Perm L0 ∧ SrtBut kO s.2 i s.1)
      (fun s => ([(0, ov b n ys.length), (1, .int .i64 0), (2, Yb n), (6, Yb i), (7, Yb s.1)], h.set b (.ints (iL s.2 ++ ys) 3 false))) (fun s => s.1) (i, L) ⟨Nat.le_refl _, hp, fun p q h1 h2 h3 => hs p q h1 (by omega)⟩ (by simp (maxSteps := 2000000) only [↓Za, ↓Zj, ↓Zr, ↓Ze, ↓Zl, ↓Zs, ↓Zf, ↓Zm, ↓Zg, ↓Zb, ↓Zc, ↓vdn, vup, Zk, Zo, Zn, Zi, Zh, List.map_cons, List.map_nil, cond_true, cond_false, aop, Zv, Zq, Zp, ev, sput, Zt, Zy, Ya, unK, Zd, Zw, Nat.reduceBEq, Nat.reduceAdd, Int.reduceBEq, Int.reduceBNe, Int.reduceLT, Zu, Zz, tup, tyf]) rfl ?_
    clear hp hs hLn
    rintro ⟨j, L⟩ ⟨hj, hp, hs⟩
    simp only at hj hp hs
    have hLn : L.length = n := hp.length_eq.trans hn
    have own := ov_own (h := h) (b := b) (n := n) (L := L) (ys := ys) hlt hLn
    refine Yo fun Q4 hQ4 => ?_
    simp only [l123_0]
    have fin : (j = 0 ∨ kO (L.getD (j - 1) 0) ≤ kO (L.getD j 0)) → ∀ e, ELe e [(0, ov b n ys.length), (1, .int .i64 0), (2, Yb n), (6, Yb i)] → M e (h.set b (.ints (iL L ++ ys) 3 false)) := by
      intro hd e he
      refine hM [(0, ov b n ys.length), (1, .int .i64 0), (2, Yb n), (6, Yb i)] _ _ ?_ he
      refine Yj ?_
      simp (maxSteps := 2000000) only [s123, ↓Za, ↓Zj, ↓Zr, ↓Ze, ↓Zl, ↓Zs, ↓Zf, ↓Zm, ↓Zg, ↓Zb, ↓Zc, ↓vdn, vup, Zk, Zo, Zn, Zi, Zh, List.map_cons, List.map_nil, cond_true, cond_false, aop, Zv, Zq, Zp, ev, sput, Zt, Zy, Ya, unK, Zd, Zw, Nat.reduceBEq, Nat.reduceAdd, Int.reduceBEq, Int.reduceBNe, Int.reduceLT, Zu, Zz, tup, tyf, add1 (show i < 9223372036854775807 by omega)]
      exact hQ2 _ _ _ ⟨(i + 1, L), ⟨by simp only; omega, .inl (by simp only; omega), hp, hs.done hd⟩, by simp only; omega, by simp (maxSteps := 2000000) only [↓Za, ↓Zj, ↓Zr, ↓Ze, ↓Zl, ↓Zs, ↓Zf, ↓Zm, ↓Zg, ↓Zb, ↓Zc, ↓vdn, vup, Zk, Zo, Zn, Zi, Zh, List.map_cons, List.map_nil, cond_true, cond_false, aop, Zv, Zq, Zp, ev, sput, Zt, Zy, Ya, unK, Zd, Zw, Nat.reduceBEq, Nat.reduceAdd, Int.reduceBEq, Int.reduceBNe, Int.reduceLT, Zu, Zz, tup, tyf], rfl⟩
    by_cases hj0 : j = 0
    · subst hj0
      refine Yc fun N4 hN4 => ?_
      simp (maxSteps := 2000000) only [s123, ↓Za, ↓Zj, ↓Zr, ↓Ze, ↓Zl, ↓Zs, ↓Zf, ↓Zm, ↓Zg, ↓Zb, ↓Zc, ↓vdn, vup, Zk, Zo, Zn, Zi, Zh, List.map_cons, List.map_nil, cond_true, cond_false, aop, Zv, Zq, Zp, ev, sput, Zt, Zy, Ya, unK, Zd, Zw, Nat.reduceBEq, Nat.reduceAdd, Int.reduceBEq, Int.reduceBNe, Int.reduceLT, Zu, Zz, tup, tyf]
      refine Xx [(13, 1)] (by kernel_rfl) (by kernel_rfl) (by kernel_rfl) (by kernel_rfl) ?_
      simp (maxSteps := 2000000) only [s123, ↓Za, ↓Zj, ↓Zr, ↓Ze, ↓Zl, ↓Zs, ↓Zf, ↓Zm, ↓Zg, ↓Zb, ↓Zc, ↓vdn, vup, Zk, Zo, Zn, Zi, Zh, List.map_cons, List.map_nil, cond_true, cond_false, aop, Zv, Zq, Zp, ev, sput, Zt, Zy, Ya, unK, Zd, Zw, Nat.reduceBEq, Nat.reduceAdd, Int.reduceBEq, Int.reduceBNe, Int.reduceLT, Zu, Zz, tup, tyf, gt_iff_lt, Int.natCast_zero, Int.lt_irrefl]
      refine hQ4 _ _ _ (hQ3 _ _ _ ?_)
      simp (maxSteps := 2000000) only [s123, ↓Za, ↓Zj, ↓Zr, ↓Ze, ↓Zl, ↓Zs, ↓Zf, ↓Zm, ↓Zg, ↓Zb, ↓Zc, ↓vdn, vup, Zk, Zo, Zn, Zi, Zh, List.map_cons, List.map_nil, cond_true, cond_false, aop, Zv, Zq, Zp, ev, sput, Zt, Zy, Ya, unK, Zd, Zw, Nat.reduceBEq, Nat.reduceAdd, Int.reduceBEq, Int.reduceBNe, Int.reduceLT, Zu, Zz, tup, tyf, if_true]
      exact fin (.inl rfl) _ (by simp (maxSteps := 2000000) only [↓Za, ↓Zj, ↓Zr, ↓Ze, ↓Zl, ↓Zs, ↓Zf, ↓Zm, ↓Zg, ↓Zb, ↓Zc, ↓vdn, vup, Zk, Zo, Zn, Zi, Zh, List.map_cons, List.map_nil, cond_true, cond_false, aop, Zv, Zq, Zp, ev, sput, Zt, Zy, Ya, unK, Zd, Zw, Nat.reduceBEq, Nat.reduceAdd, Int.reduceBEq, Int.reduceBNe, Int.reduceLT, Zu, Zz, tup, tyf])
    · have hjp : (0 : Int) < (j : Int) := by omega
      have hjn : j < (iL L).length := by rw [iL_len]; omega
      have hj1n : j - 1 < (iL L).length := by omega
      have c1 := less_call (h := h.set b (.ints (iL L ++ ys) 3 false)) (x := ((L.getD j 0 : Nat) : Int)) (y := ((L.getD (j - 1) 0 : Nat) : Int))
      have hsub := subN1 (show 1 ≤ j by omega) (show j < 9223372036854775808 by omega)
      by_cases hlt2 : L.getD j 0 < L.getD (j - 1) 0
      · have hneg : decide (((L.getD j 0 : Nat) : Int) < ((L.getD (j - 1) 0 : Nat) : Int)) = true := decide_eq_true (by omega)
        rw [hneg] at c1
        refine Yc fun N5 hN5 => ?_
        simp (maxSteps := 2000000) only [s123, ↓Za, ↓Zj, ↓Zr, ↓Ze, ↓Zl, ↓Zs, ↓Zf, ↓Zm, ↓Zg, ↓Zb, ↓Zc, ↓vdn, vup, Zk, Zo, Zn, Zi, Zh, List.map_cons, List.map_nil, cond_true, cond_false, aop, Zv, Zq, Zp, ev, sput, Zt, Zy, Ya, unK, Zd, Zw, Nat.reduceBEq, Nat.reduceAdd, Int.reduceBEq, Int.reduceBNe, Int.reduceLT, Zu, Zz, tup, tyf]
        refine Xx [(13, 1)] (by kernel_rfl) (by kernel_rfl) (by kernel_rfl) (by kernel_rfl) ?_
        simp (maxSteps := 2000000) only [s123, ↓Za, ↓Zj, ↓Zr, ↓Ze, ↓Zl, ↓Zs, ↓Zf, ↓Zm, ↓Zg, ↓Zb, ↓Zc, ↓vdn, vup, Zk, Zo, Zn, Zi, Zh, List.map_cons, List.map_nil, cond_true, cond_false, aop, Zv, Zq, Zp, ev, sput, Zt, Zy, Ya, unK, Zd, Zw, Nat.reduceBEq, Nat.reduceAdd, Int.reduceBEq, Int.reduceBNe, Int.reduceLT, Zu, Zz, tup, tyf, gt_iff_lt, hjp, hsub, own.int.idx Xy Xr hjn, own.int.load Yq hjn, own.int.idx Xy Xr hj1n, own.int.load Yq hj1n, iL_get, Yr, List.nil_append, List.append_nil, List.toList_toArray, List.cons_append]
        refine ⟨_, _, c1, rfl, ?_⟩
        simp (maxSteps := 2000000) only [s123, ↓Za, ↓Zj, ↓Zr, ↓Ze, ↓Zl, ↓Zs, ↓Zf, ↓Zm, ↓Zg, ↓Zb, ↓Zc, ↓vdn, vup, Zk, Zo, Zn, Zi, Zh, List.map_cons, List.map_nil, cond_true, cond_false, aop, Zv, Zq, Zp, ev, sput, Zt, Zy, Ya, unK, Zd, Zw, Nat.reduceBEq, Nat.reduceAdd, Int.reduceBEq, Int.reduceBNe, Int.reduceLT, Zu, Zz, tup, tyf]
        refine hN5 [(0, ov b n ys.length), (1, .int .i64 0), (2, Yb n), (6, Yb i), (7, Yb j)] _ _ ?_ (by simp (maxSteps := 2000000) only [↓Za, ↓Zj, ↓Zr, ↓Ze, ↓Zl, ↓Zs, ↓Zf, ↓Zm, ↓Zg, ↓Zb, ↓Zc, ↓vdn, vup, Zk, Zo, Zn, Zi, Zh, List.map_cons, List.map_nil, cond_true, cond_false, aop, Zv, Zq, Zp, ev, sput, Zt, Zy, Ya, unK, Zd, Zw, Nat.reduceBEq, Nat.reduceAdd, Int.reduceBEq, Int.reduceBNe, Int.reduceLT, Zu, Zz, tup, tyf])
        clear hN5
        try clear N5
        refine Yj ?_
        simp (maxSteps := 2000000) only [s123, ↓Za, ↓Zj, ↓Zr, ↓Ze, ↓Zl, ↓Zs, ↓Zf, ↓Zm, ↓Zg, ↓Zb, ↓Zc, ↓vdn, vup, Zk, Zo, Zn, Zi, Zh, List.map_cons, List.map_nil, cond_true, cond_false, aop, Zv, Zq, Zp, ev, sput, Zt, Zy, Ya, unK, Zd, Zw, Nat.reduceBEq, Nat.reduceAdd, Int.reduceBEq, Int.reduceBNe, Int.reduceLT, Zu, Zz, tup, tyf]
        refine Xx [] (by kernel_rfl) (by kernel_rfl) (by kernel_rfl) (by kernel_rfl) ?_
        have hjL : j < L.length := by omega
        simp (maxSteps := 2000000) only [s123, ↓Za, ↓Zj, ↓Zr, ↓Ze, ↓Zl, ↓Zs, ↓Zf, ↓Zm, ↓Zg, ↓Zb, ↓Zc, ↓vdn, vup, Zk, Zo, Zn, Zi, Zh, List.map_cons, List.map_nil, cond_true, cond_false, aop, Zv, Zq, Zp, ev, sput, Zt, Zy, Ya, unK, Zd, Zw, Nat.reduceBEq, Nat.reduceAdd, Int.reduceBEq, Int.reduceBNe, Int.reduceLT, Zu, Zz, tup, tyf, hsub, own.int.idx Xy Xr hjn, own.int.idx Xy Xr hj1n, elemP_ov, ov_load hlt hLn (show j < n by omega), ov_load hlt hLn (show j - 1 < n by omega), ov_store hlt hjL, ov_store hlt (show j - 1 < (L.set j (L.getD (j - 1) 0)).length by rw [List.length_set]; omega)]
        refine hQ4 _ _ _ ⟨(j - 1, swL L j), ⟨by simp only; omega, (swL_perm (by omega) hjL).trans hp, hs.step (by omega) hjL hj (Int.ofNat_lt.2 hlt2)⟩, by simp only; omega, by simp (maxSteps := 2000000) only [↓Za, ↓Zj, ↓Zr, ↓Ze, ↓Zl, ↓Zs, ↓Zf, ↓Zm, ↓Zg, ↓Zb, ↓Zc, ↓vdn, vup, Zk, Zo, Zn, Zi, Zh, List.map_cons, List.map_nil, cond_true, cond_false, aop, Zv, Zq, Zp, ev, sput, Zt, Zy, Ya, unK, Zd, Zw, Nat.reduceBEq, Nat.reduceAdd, Int.reduceBEq, Int.reduceBNe, Int.reduceLT, Zu, Zz, tup, tyf], rfl⟩
      · have hneg : decide (((L.getD j 0 : Nat) : Int) < ((L.getD (j - 1) 0 : Nat) : Int)) = false := decide_eq_false (by omega)
        rw [hneg] at c1
        refine Yc fun N6 hN6 => ?_
        simp (maxSteps := 2000000) only [s123, ↓Za, ↓Zj, ↓Zr, ↓Ze, ↓Zl, ↓Zs, ↓Zf, ↓Zm, ↓Zg, ↓Zb, ↓Zc, ↓vdn, vup, Zk, Zo, Zn, Zi, Zh, List.map_cons, List.map_nil, cond_true, cond_false, aop, Zv, Zq, Zp, ev, sput, Zt, Zy, Ya, unK, Zd, Zw, Nat.reduceBEq, Nat.reduceAdd, Int.reduceBEq, Int.reduceBNe, Int.reduceLT, Zu, Zz, tup, tyf]
        refine Xx [(13, 1)] (by kernel_rfl) (by kernel_rfl) (by kernel_rfl) (by kernel_rfl) ?_
        simp (maxSteps := 2000000) only [s123, ↓Za, ↓Zj, ↓Zr, ↓Ze, ↓Zl, ↓Zs, ↓Zf, ↓Zm, ↓Zg, ↓Zb, ↓Zc, ↓vdn, vup, Zk, Zo, Zn, Zi, Zh, List.map_cons, List.map_nil, cond_true, cond_false, aop, Zv, Zq, Zp, ev, sput, Zt, Zy, Ya, unK, Zd, Zw, Nat.reduceBEq, Nat.reduceAdd, Int.reduceBEq, Int.reduceBNe, Int.reduceLT, Zu, Zz, tup, tyf, gt_iff_lt, hjp, hsub, own.int.idx Xy Xr hjn, own.int.load Yq hjn, own.int.idx Xy Xr hj1n, own.int.load Yq hj1n, iL_get, Yr, List.nil_append, List.append_nil, List.toList_toArray, List.cons_append]
        refine ⟨_, _, c1, rfl, ?_⟩
        simp (maxSteps := 2000000) only [s123, ↓Za, ↓Zj, ↓Zr, ↓Ze, ↓Zl, ↓Zs, ↓Zf, ↓Zm, ↓Zg, ↓Zb, ↓Zc, ↓vdn, vup, Zk, Zo, Zn, Zi, Zh, List.map_cons, List.map_nil, cond_true, cond_false, aop, Zv, Zq, Zp, ev, sput, Zt, Zy, Ya, unK, Zd, Zw, Nat.reduceBEq, Nat.reduceAdd, Int.reduceBEq, Int.reduceBNe, Int.reduceLT, Zu, Zz, tup, tyf]
        refine hQ4 _ _ _ (hQ3 _ _ _ ?_)
        simp (maxSteps := 2000000) only [s123, ↓Za, ↓Zj, ↓Zr, ↓Ze, ↓Zl, ↓Zs, ↓Zf, ↓Zm, ↓Zg, ↓Zb, ↓Zc, ↓vdn, vup, Zk, Zo, Zn, Zi, Zh, List.map_cons, List.map_nil, cond_true, cond_false, aop, Zv, Zq, Zp, ev, sput, Zt, Zy, Ya, unK, Zd, Zw, Nat.reduceBEq, Nat.reduceAdd, Int.reduceBEq, Int.reduceBNe, Int.reduceLT, Zu, Zz, tup, tyf, if_true]
        exact fin (.inr (Int.ofNat_le.2 (by omega))) _ (by simp (maxSteps := 2000000) only [↓Za, ↓Zj, ↓Zr, ↓Ze, ↓Zl, ↓Zs, ↓Zf, ↓Zm, ↓Zg, ↓Zb, ↓Zc, ↓vdn, vup, Zk, Zo, Zn, Zi, Zh, List.map_cons, List.map_nil, cond_true, cond_false, aop, Zv, Zq, Zp, ev, sput, Zt, Zy, Ya, unK, Zd, Zw, Nat.reduceBEq, Nat.reduceAdd, Int.reduceBEq, Int.reduceBNe, Int.reduceLT, Zu, Zz, tup, tyf])
  · refine Yc fun M hM => ?_
    simp (maxSteps := 2000000) only [s123, ↓Za, ↓Zj, ↓Zr, ↓Ze, ↓Zl, ↓Zs, ↓Zf, ↓Zm, ↓Zg, ↓Zb, ↓Zc, ↓vdn, vup, Zk, Zo, Zn, Zi, Zh, List.map_cons, List.map_nil, cond_true, cond_false, aop, Zv, Zq, Zp, ev, sput, Zt, Zy, Ya, unK, Zd, Zw, Nat.reduceBEq, Nat.reduceAdd, Int.reduceBEq, Int.reduceBNe, Int.reduceLT, Zu, Zz, tup, tyf, hin]
    refine hQ2 _ _ _ (hQ _ _ _ ?_)
    simp (maxSteps := 2000000) only [s123, ↓Za, ↓Zj, ↓Zr, ↓Ze, ↓Zl, ↓Zs, ↓Zf, ↓Zm, ↓Zg, ↓Zb, ↓Zc, ↓vdn, vup, Zk, Zo, Zn, Zi, Zh, List.map_cons, List.map_nil, cond_true, cond_false, aop, Zv, Zq, Zp, ev, sput, Zt, Zy, Ya, unK, Zd, Zw, Nat.reduceBEq, Nat.reduceAdd, Int.reduceBEq, Int.reduceBNe, Int.reduceLT, Zu, Zz, tup, tyf, if_true]
    refine ⟨L, hp, ?_, rfl⟩
    refine (SrtTo.pw (key := kO) ?_).imp fun h => Int.ofNat_le.1 h
    rw [hLn]
    intro p q hpq hq
    exact hs p q hpq (by omega)
theorem wrap8 {x : Nat} (h : x < 256) : IntKind.u8.wrap (x : Int) = (x : Int) := by
  simp [IntKind.wrap, IntKind.signed, IntKind.bits]; omega
theorem s119_callW [Tabs Tryd.prog] {args : List Value} {h : Zx} {Q : Value → Zx → Prop} (hsz : args.length ≤ 25) (hk : AWS Tryd.prog 25 s119 (Zu Tryd.prog [.tmp 2] Q) (Zp 0 args) h) : ACall Tryd.prog 119 args h Q :=
  Wa Tryd.func119 rfl (enters_of Tryd.func119 (by kernel_rfl) rfl) rfl rfl (by decide) s119_strip s119_ok hsz hk
theorem len64_call [Tabs prog] {h : Zx} {x : Nat} (hx : x < 256) : ACall prog 119 [vu x] h fun r h' => (∃ z, r = .int .i64 z) ∧ h' = h := by
  obtain ⟨s, hs, hq⟩ : ∃ s : ByteArray, s.size = 256 ∧ q119_10 = .region [⟨some 19, .move (.tmp 2), none⟩, ⟨some 20, .move (.tmp 0), none⟩, ⟨some 21, .convert 133 5 (.tmp 20), none⟩, ⟨some 22, .index 9 (.const (.string s)) (.tmp 21), none⟩,
      ⟨some 23, .convert 5 3 (.tmp 22), none⟩, ⟨some 24, .binOp .add 3 (.tmp 19) (.tmp 23) 3, none⟩, ⟨some 2, .assign (.tmp 24), none⟩] := by
    refine ⟨_, ?_, rfl⟩
    kernel_rfl
  have hidx : s[x]? = some (s[x]'(by omega)) := getElem?_pos s x (by omega)
  have hnn : ∀ i : Nat, (0 : Int) ≤ (i : Int) := Int.natCast_nonneg
  have n1 : ¬ (4294967296 : Int) ≤ (x : Int) := by omega
  have n2 : ¬ (65536 : Int) ≤ (x : Int) := by omega
  have n3 : ¬ (256 : Int) ≤ (x : Int) := by omega
  refine s119_callW (by simp) ?_
  simp only [s119]
  refine Yc fun N7 hN7 => ?_
  simp (maxSteps := 2000000) only [s119, ↓Za, ↓Zj, ↓Zr, ↓Ze, ↓Zl, ↓Zs, ↓Zf, ↓Zm, ↓Zg, ↓Zb, ↓Zc, ↓vdn, vup, Zk, Zo, Zn, Zi, Zh, List.map_cons, List.map_nil, cond_true, cond_false, aop, Zv, Zq, Zp, ev, sput, Zt, Zy, Ya, unK, Zd, Zw, Nat.reduceBEq, Nat.reduceAdd, Int.reduceBEq, Int.reduceBNe, Int.reduceLT, Zu, Zz, tup, tyf]
  refine hN7 [(0, vu x), (2, .int .i64 0)] _ _ ?_ (by simp (maxSteps := 2000000) only [↓Za, ↓Zj, ↓Zr, ↓Ze, ↓Zl, ↓Zs, ↓Zf, ↓Zm, ↓Zg, ↓Zb, ↓Zc, ↓vdn, vup, Zk, Zo, Zn, Zi, Zh, List.map_cons, List.map_nil, cond_true, cond_false, aop, Zv, Zq, Zp, ev, sput, Zt, Zy, Ya, unK, Zd, Zw, Nat.reduceBEq, Nat.reduceAdd, Int.reduceBEq, Int.reduceBNe, Int.reduceLT, Zu, Zz, tup, tyf])
  clear hN7
  try clear N7
  refine Yc fun N8 hN8 => ?_
  simp (maxSteps := 2000000) only [s119, ↓Za, ↓Zj, ↓Zr, ↓Ze, ↓Zl, ↓Zs, ↓Zf, ↓Zm, ↓Zg, ↓Zb, ↓Zc, ↓vdn, vup, Zk, Zo, Zn, Zi, Zh, List.map_cons, List.map_nil, cond_true, cond_false, aop, Zv, Zq, Zp, ev, sput, Zt, Zy, Ya, unK, Zd, Zw, Nat.reduceBEq, Nat.reduceAdd, Int.reduceBEq, Int.reduceBNe, Int.reduceLT, Zu, Zz, tup, tyf, ge_iff_le, n1]
  refine hN8 [(0, vu x), (2, .int .i64 0)] _ _ ?_ (by simp (maxSteps := 2000000) only [↓Za, ↓Zj, ↓Zr, ↓Ze, ↓Zl, ↓Zs, ↓Zf, ↓Zm, ↓Zg, ↓Zb, ↓Zc, ↓vdn, vup, Zk, Zo, Zn, Zi, Zh, List.map_cons, List.map_nil, cond_true, cond_false, aop, Zv, Zq, Zp, ev, sput, Zt, Zy, Ya, unK, Zd, Zw, Nat.reduceBEq, Nat.reduceAdd, Int.reduceBEq, Int.reduceBNe, Int.reduceLT, Zu, Zz, tup, tyf])
  clear hN8
  try clear N8
  refine Yc fun N9 hN9 => ?_
  simp (maxSteps := 2000000) only [s119, ↓Za, ↓Zj, ↓Zr, ↓Ze, ↓Zl, ↓Zs, ↓Zf, ↓Zm, ↓Zg, ↓Zb, ↓Zc, ↓vdn, vup, Zk, Zo, Zn, Zi, Zh, List.map_cons, List.map_nil, cond_true, cond_false, aop, Zv, Zq, Zp, ev, sput, Zt, Zy, Ya, unK, Zd, Zw, Nat.reduceBEq, Nat.reduceAdd, Int.reduceBEq, Int.reduceBNe, Int.reduceLT, Zu, Zz, tup, tyf, ge_iff_le, n2]
  refine hN9 [(0, vu x), (2, .int .i64 0)] _ _ ?_ (by simp (maxSteps := 2000000) only [↓Za, ↓Zj, ↓Zr, ↓Ze, ↓Zl, ↓Zs, ↓Zf, ↓Zm, ↓Zg, ↓Zb, ↓Zc, ↓vdn, vup, Zk, Zo, Zn, Zi, Zh, List.map_cons, List.map_nil, cond_true, cond_false, aop, Zv, Zq, Zp, ev, sput, Zt, Zy, Ya, unK, Zd, Zw, Nat.reduceBEq, Nat.reduceAdd, Int.reduceBEq, Int.reduceBNe, Int.reduceLT, Zu, Zz, tup, tyf])
  clear hN9
  try clear N9
  refine Yc fun N10 hN10 => ?_
  simp (maxSteps := 2000000) only [s119, ↓Za, ↓Zj, ↓Zr, ↓Ze, ↓Zl, ↓Zs, ↓Zf, ↓Zm, ↓Zg, ↓Zb, ↓Zc, ↓vdn, vup, Zk, Zo, Zn, Zi, Zh, List.map_cons, List.map_nil, cond_true, cond_false, aop, Zv, Zq, Zp, ev, sput, Zt, Zy, Ya, unK, Zd, Zw, Nat.reduceBEq, Nat.reduceAdd, Int.reduceBEq, Int.reduceBNe, Int.reduceLT, Zu, Zz, tup, tyf, ge_iff_le, n3]
  refine hN10 [(0, vu x), (2, .int .i64 0)] _ _ ?_ (by simp (maxSteps := 2000000) only [↓Za, ↓Zj, ↓Zr, ↓Ze, ↓Zl, ↓Zs, ↓Zf, ↓Zm, ↓Zg, ↓Zb, ↓Zc, ↓vdn, vup, Zk, Zo, Zn, Zi, Zh, List.map_cons, List.map_nil, cond_true, cond_false, aop, Zv, Zq, Zp, ev, sput, Zt, Zy, Ya, unK, Zd, Zw, Nat.reduceBEq, Nat.reduceAdd, Int.reduceBEq, Int.reduceBNe, Int.reduceLT, Zu, Zz, tup, tyf])
  clear hN10
  try clear N10
  rw [hq]
  refine Yj ?_
  simp (maxSteps := 2000000) only [s119, ↓Za, ↓Zj, ↓Zr, ↓Ze, ↓Zl, ↓Zs, ↓Zf, ↓Zm, ↓Zg, ↓Zb, ↓Zc, ↓vdn, vup, Zk, Zo, Zn, Zi, Zh, List.map_cons, List.map_nil, cond_true, cond_false, aop, Zv, Zq, Zp, ev, sput, Zt, Zy, Ya, unK, Zd, Zw, Nat.reduceBEq, Nat.reduceAdd, Int.reduceBEq, Int.reduceBNe, Int.reduceLT, Zu, Zz, tup, tyf, convK, und_133, und_5, und_3, wrap8 hx, indexK, und_9, hnn, Int.toNat_natCast, hidx]
  first | exact ⟨⟨_, rfl⟩, rfl⟩ | exact ⟨_, rfl⟩
theorem s108_callW [Tabs Tryd.prog] {args : List Value} {h : Zx} {Q : Value → Zx → Prop} (hsz : args.length ≤ 8) (hk : AWS Tryd.prog 8 s108 (Zu Tryd.prog [.tmp 2] Q) (Zp 0 args) h) : ACall Tryd.prog 108 args h Q :=
  Wa Tryd.func108 rfl (enters_of Tryd.func108 (by kernel_rfl) rfl) rfl rfl (by decide) s108_strip s108_ok hsz hk
theorem len_call [Tabs prog] {h : Zx} {x : Nat} (hx : x < 256) : ACall prog 108 [vu x] h fun r h' => (∃ z, r = .int .i64 z) ∧ h' = h := by
  refine s108_callW (by simp) ?_
  simp only [s108]
  refine Yc fun N11 hN11 => ?_
  simp (maxSteps := 2000000) only [s108, ↓Za, ↓Zj, ↓Zr, ↓Ze, ↓Zl, ↓Zs, ↓Zf, ↓Zm, ↓Zg, ↓Zb, ↓Zc, ↓vdn, vup, Zk, Zo, Zn, Zi, Zh, List.map_cons, List.map_nil, cond_true, cond_false, aop, Zv, Zq, Zp, ev, sput, Zt, Zy, Ya, unK, Zd, Zw, Nat.reduceBEq, Nat.reduceAdd, Int.reduceBEq, Int.reduceBNe, Int.reduceLT, Zu, Zz, tup, tyf]
  refine hN11 [(0, vu x), (2, .int .i64 0)] _ _ ?_ (by simp (maxSteps := 2000000) only [↓Za, ↓Zj, ↓Zr, ↓Ze, ↓Zl, ↓Zs, ↓Zf, ↓Zm, ↓Zg, ↓Zb, ↓Zc, ↓vdn, vup, Zk, Zo, Zn, Zi, Zh, List.map_cons, List.map_nil, cond_true, cond_false, aop, Zv, Zq, Zp, ev, sput, Zt, Zy, Ya, unK, Zd, Zw, Nat.reduceBEq, Nat.reduceAdd, Int.reduceBEq, Int.reduceBNe, Int.reduceLT, Zu, Zz, tup, tyf])
  clear hN11
  try clear N11
  refine Yu fun N12 hN12 => ?_
  refine Xf rfl ?_
  refine Yj ?_
  simp (maxSteps := 2000000) only [s108, ↓Za, ↓Zj, ↓Zr, ↓Ze, ↓Zl, ↓Zs, ↓Zf, ↓Zm, ↓Zg, ↓Zb, ↓Zc, ↓vdn, vup, Zk, Zo, Zn, Zi, Zh, List.map_cons, List.map_nil, cond_true, cond_false, aop, Zv, Zq, Zp, ev, sput, Zt, Zy, Ya, unK, Zd, Zw, Nat.reduceBEq, Nat.reduceAdd, Int.reduceBEq, Int.reduceBNe, Int.reduceLT, Zu, Zz, tup, tyf]
  refine hN12 [(0, vu x), (2, .int .i64 0)] _ _ ?_ (by simp (maxSteps := 2000000) only [↓Za, ↓Zj, ↓Zr, ↓Ze, ↓Zl, ↓Zs, ↓Zf, ↓Zm, ↓Zg, ↓Zb, ↓Zc, ↓vdn, vup, Zk, Zo, Zn, Zi, Zh, List.map_cons, List.map_nil, cond_true, cond_false, aop, Zv, Zq, Zp, ev, sput, Zt, Zy, Ya, unK, Zd, Zw, Nat.reduceBEq, Nat.reduceAdd, Int.reduceBEq, Int.reduceBNe, Int.reduceLT, Zu, Zz, tup, tyf])
  clear hN12
  try clear N12
  refine Yj ?_
  simp (maxSteps := 2000000) only [s108, ↓Za, ↓Zj, ↓Zr, ↓Ze, ↓Zl, ↓Zs, ↓Zf, ↓Zm, ↓Zg, ↓Zb, ↓Zc, ↓vdn, vup, Zk, Zo, Zn, Zi, Zh, List.map_cons, List.map_nil, cond_true, cond_false, aop, Zv, Zq, Zp, ev, sput, Zt, Zy, Ya, unK, Zd, Zw, Nat.reduceBEq, Nat.reduceAdd, Int.reduceBEq, Int.reduceBNe, Int.reduceLT, Zu, Zz, tup, tyf, Yr, List.nil_append, List.append_nil, List.toList_toArray, List.cons_append]
  refine (len64_call hx).mono ?_
  rintro _ h ⟨⟨z, rfl⟩, rfl⟩
  first | exact ⟨⟨z, rfl⟩, rfl⟩ | exact ⟨z, rfl⟩

theorem s113_callW [Tabs Tryd.prog] {args : List Value} {h : Zx} {Q : Value → Zx → Prop} (hsz : args.length ≤ 134) (hk : AWS Tryd.prog 134 s113 (Zu Tryd.prog [] Q) (Zp 0 args) h) : ACall Tryd.prog 113 args h Q :=
  Wa Tryd.func113 rfl (enters_of Tryd.func113 (by kernel_rfl) rfl) rfl rfl (by decide) s113_strip s113_ok hsz hk
theorem pdqO_call [Tabs prog] {h : Zx} {b : Nat} {L0 : List Nat} {ys : List Int} {z : Int} (hb : h[b]? = some (.ints (iL L0 ++ ys) 3 false)) (hl : L0.length ≤ 12) (hx : ∀ x ∈ L0, x < 4611686018427387904) :
    ACall prog 113 [ov b L0.length ys.length, .int .i64 0, Yb L0.length, .int .i64 z] h fun _ h' => ∃ L : List Nat, L.Perm L0 ∧ L.Pairwise (fun a b => a ≤ b) ∧ h' = h.set b (.ints (iL L ++ ys) 3 false) := by
  have hsub : subV .i64 (L0.length : Int) 0 = (L0.length : Int) := by rw [subV_id (by omega) (by omega)]; omega
  have hle : (L0.length : Int) ≤ 12 := by omega
  refine s113_callW (by simp) ?_
  simp only [s113]
  refine Yc fun N13 hN13 => ?_
  simp (maxSteps := 2000000) only [s113, ↓Za, ↓Zj, ↓Zr, ↓Ze, ↓Zl, ↓Zs, ↓Zf, ↓Zm, ↓Zg, ↓Zb, ↓Zc, ↓vdn, vup, Zk, Zo, Zn, Zi, Zh, List.map_cons, List.map_nil, cond_true, cond_false, aop, Zv, Zq, Zp, ev, sput, Zt, Zy, Ya, unK, Zd, Zw, Nat.reduceBEq, Nat.reduceAdd, Int.reduceBEq, Int.reduceBNe, Int.reduceLT, Zu, Zz, tup, tyf]
  refine hN13 [(0, ov b L0.length ys.length), (1, .int .i64 0), (2, Yb L0.length), (3, .int .i64 z), (8, .bool true)] _ _ ?_ (by simp (maxSteps := 2000000) only [↓Za, ↓Zj, ↓Zr, ↓Ze, ↓Zl, ↓Zs, ↓Zf, ↓Zm, ↓Zg, ↓Zb, ↓Zc, ↓vdn, vup, Zk, Zo, Zn, Zi, Zh, List.map_cons, List.map_nil, cond_true, cond_false, aop, Zv, Zq, Zp, ev, sput, Zt, Zy, Ya, unK, Zd, Zw, Nat.reduceBEq, Nat.reduceAdd, Int.reduceBEq, Int.reduceBNe, Int.reduceLT, Zu, Zz, tup, tyf])
  clear hN13
  try clear N13
  refine Yc fun N14 hN14 => ?_
  simp (maxSteps := 2000000) only [s113, ↓Za, ↓Zj, ↓Zr, ↓Ze, ↓Zl, ↓Zs, ↓Zf, ↓Zm, ↓Zg, ↓Zb, ↓Zc, ↓vdn, vup, Zk, Zo, Zn, Zi, Zh, List.map_cons, List.map_nil, cond_true, cond_false, aop, Zv, Zq, Zp, ev, sput, Zt, Zy, Ya, unK, Zd, Zw, Nat.reduceBEq, Nat.reduceAdd, Int.reduceBEq, Int.reduceBNe, Int.reduceLT, Zu, Zz, tup, tyf]
  refine hN14 [(0, ov b L0.length ys.length), (1, .int .i64 0), (2, Yb L0.length), (3, .int .i64 z), (8, .bool true), (9, .bool true)] _ _ ?_ (by simp (maxSteps := 2000000) only [↓Za, ↓Zj, ↓Zr, ↓Ze, ↓Zl, ↓Zs, ↓Zf, ↓Zm, ↓Zg, ↓Zb, ↓Zc, ↓vdn, vup, Zk, Zo, Zn, Zi, Zh, List.map_cons, List.map_nil, cond_true, cond_false, aop, Zv, Zq, Zp, ev, sput, Zt, Zy, Ya, unK, Zd, Zw, Nat.reduceBEq, Nat.reduceAdd, Int.reduceBEq, Int.reduceBNe, Int.reduceLT, Zu, Zz, tup, tyf])
  clear hN14
  try clear N14
  refine Yp ?_
  refine Yo fun Q hQ => ?_
  refine Wm (γ := Unit) (fun _ => True) (fun _ => ([(0, ov b L0.length ys.length), (1, .int .i64 0), (2, Yb L0.length), (3, .int .i64 z), (8, .bool true), (9, .bool true)], h)) (fun _ => 0) () trivial (by simp (maxSteps := 2000000) only [↓Za, ↓Zj, ↓Zr, ↓Ze, ↓Zl, ↓Zs, ↓Zf, ↓Zm, ↓Zg, ↓Zb, ↓Zc, ↓vdn, vup, Zk, Zo, Zn, Zi, Zh, List.map_cons, List.map_nil, cond_true, cond_false, aop, Zv, Zq, Zp, ev, sput, Zt, Zy, Ya, unK, Zd, Zw, Nat.reduceBEq, Nat.reduceAdd, Int.reduceBEq, Int.reduceBNe, Int.reduceLT, Zu, Zz, tup, tyf]) rfl ?_
  rintro _ _
  refine Yo fun Q2 hQ2 => ?_
  simp only [l113_0]
  refine Yp ?_
  refine Yc fun N15 hN15 => ?_
  simp (maxSteps := 2000000) only [s113, ↓Za, ↓Zj, ↓Zr, ↓Ze, ↓Zl, ↓Zs, ↓Zf, ↓Zm, ↓Zg, ↓Zb, ↓Zc, ↓vdn, vup, Zk, Zo, Zn, Zi, Zh, List.map_cons, List.map_nil, cond_true, cond_false, aop, Zv, Zq, Zp, ev, sput, Zt, Zy, Ya, unK, Zd, Zw, Nat.reduceBEq, Nat.reduceAdd, Int.reduceBEq, Int.reduceBNe, Int.reduceLT, Zu, Zz, tup, tyf, hsub]
  refine hN15 [(0, ov b L0.length ys.length), (1, .int .i64 0), (2, Yb L0.length), (3, .int .i64 z), (8, .bool true), (9, .bool true), (10, Yb L0.length)] _ _ ?_ (by simp (maxSteps := 2000000) only [↓Za, ↓Zj, ↓Zr, ↓Ze, ↓Zl, ↓Zs, ↓Zf, ↓Zm, ↓Zg, ↓Zb, ↓Zc, ↓vdn, vup, Zk, Zo, Zn, Zi, Zh, List.map_cons, List.map_nil, cond_true, cond_false, aop, Zv, Zq, Zp, ev, sput, Zt, Zy, Ya, unK, Zd, Zw, Nat.reduceBEq, Nat.reduceAdd, Int.reduceBEq, Int.reduceBNe, Int.reduceLT, Zu, Zz, tup, tyf])
  clear hN15
  try clear N15
  refine Yc fun N16 hN16 => ?_
  simp (maxSteps := 2000000) only [s113, ↓Za, ↓Zj, ↓Zr, ↓Ze, ↓Zl, ↓Zs, ↓Zf, ↓Zm, ↓Zg, ↓Zb, ↓Zc, ↓vdn, vup, Zk, Zo, Zn, Zi, Zh, List.map_cons, List.map_nil, cond_true, cond_false, aop, Zv, Zq, Zp, ev, sput, Zt, Zy, Ya, unK, Zd, Zw, Nat.reduceBEq, Nat.reduceAdd, Int.reduceBEq, Int.reduceBNe, Int.reduceLT, Zu, Zz, tup, tyf, Yr, List.nil_append, List.append_nil, List.toList_toArray, List.cons_append, hle]
  refine (isortO_call hb hl hx).mono ?_
  rintro r h' hr
  refine hQ2 _ _ _ (hQ _ _ _ ?_)
  try simp (maxSteps := 2000000) only [s113, ↓Za, ↓Zj, ↓Zr, ↓Ze, ↓Zl, ↓Zs, ↓Zf, ↓Zm, ↓Zg, ↓Zb, ↓Zc, ↓vdn, vup, Zk, Zo, Zn, Zi, Zh, List.map_cons, List.map_nil, cond_true, cond_false, aop, Zv, Zq, Zp, ev, sput, Zt, Zy, Ya, unK, Zd, Zw, Nat.reduceBEq, Nat.reduceAdd, Int.reduceBEq, Int.reduceBNe, Int.reduceLT, Zu, Zz, tup, tyf]
  exact hr
theorem s99_callW [Tabs Tryd.prog] {args : List Value} {h : Zx} {Q : Value → Zx → Prop} (hsz : args.length ≤ 11) (hk : AWS Tryd.prog 11 s99 (Zu Tryd.prog [] Q) (Zp 0 args) h) : ACall Tryd.prog 99 args h Q :=
  Wa Tryd.func99 rfl (enters_of Tryd.func99 (by kernel_rfl) rfl) rfl rfl (by decide) s99_strip s99_ok hsz hk
theorem sortO_call [Tabs prog] {h : Zx} {b : Nat} {L0 : List Nat} {ys : List Int} (hb : h[b]? = some (.ints (iL L0 ++ ys) 3 false)) (hl : L0.length ≤ 12) (hx : ∀ x ∈ L0, x < 4611686018427387904) :
    ACall prog 99 [ov b L0.length ys.length] h fun _ h' => ∃ L : List Nat, L.Perm L0 ∧ L.Pairwise (fun a b => a ≤ b) ∧ h' = h.set b (.ints (iL L ++ ys) 3 false) := by
  have hw : IntKind.u64.wrap (L0.length : Int) = (L0.length : Int) := wrapU_id (by omega) (by omega)
  refine s99_callW (by simp) ?_
  simp only [s99]
  refine Yc fun N17 hN17 => ?_
  simp (maxSteps := 2000000) only [s99, ↓Za, ↓Zj, ↓Zr, ↓Ze, ↓Zl, ↓Zs, ↓Zf, ↓Zm, ↓Zg, ↓Zb, ↓Zc, ↓vdn, vup, Zk, Zo, Zn, Zi, Zh, List.map_cons, List.map_nil, cond_true, cond_false, aop, Zv, Zq, Zp, ev, sput, Zt, Zy, Ya, unK, Zd, Zw, Nat.reduceBEq, Nat.reduceAdd, Int.reduceBEq, Int.reduceBNe, Int.reduceLT, Zu, Zz, tup, tyf, lenK]
  refine hN17 [(0, ov b L0.length ys.length), (2, Yb L0.length)] _ _ ?_ (by simp (maxSteps := 2000000) only [↓Za, ↓Zj, ↓Zr, ↓Ze, ↓Zl, ↓Zs, ↓Zf, ↓Zm, ↓Zg, ↓Zb, ↓Zc, ↓vdn, vup, Zk, Zo, Zn, Zi, Zh, List.map_cons, List.map_nil, cond_true, cond_false, aop, Zv, Zq, Zp, ev, sput, Zt, Zy, Ya, unK, Zd, Zw, Nat.reduceBEq, Nat.reduceAdd, Int.reduceBEq, Int.reduceBNe, Int.reduceLT, Zu, Zz, tup, tyf])
  clear hN17
  try clear N17
  refine Yj ?_
  simp (maxSteps := 2000000) only [s99, ↓Za, ↓Zj, ↓Zr, ↓Ze, ↓Zl, ↓Zs, ↓Zf, ↓Zm, ↓Zg, ↓Zb, ↓Zc, ↓vdn, vup, Zk, Zo, Zn, Zi, Zh, List.map_cons, List.map_nil, cond_true, cond_false, aop, Zv, Zq, Zp, ev, sput, Zt, Zy, Ya, unK, Zd, Zw, Nat.reduceBEq, Nat.reduceAdd, Int.reduceBEq, Int.reduceBNe, Int.reduceLT, Zu, Zz, tup, tyf, Yr, List.nil_append, List.append_nil, List.toList_toArray, List.cons_append, convK, und_3, und_29, hw]
  refine (len_call (show L0.length < 256 by omega)).mono ?_
  rintro _ h ⟨⟨z, rfl⟩, rfl⟩
  refine (pdqO_call hb hl hx).mono ?_
  rintro r h' hr
  exact hr
end Go.Proofs.Tryd.Am

namespace Ord

theorem sub_len {α : Type} [DecidableEq α] : ∀ {l1 l2 : List α}, l1.Nodup → (∀ a ∈ l1, a ∈ l2) → l1.length ≤ l2.length
  | [], _, _, _ => Nat.zero_le _
  | a :: l1, l2, hn, hs => by
    obtain ⟨ha, hn'⟩ := List.nodup_cons.1 hn
    have hal : a ∈ l2 := hs a (by simp)
    have := sub_len (l1 := l1) (l2 := l2.erase a) hn' fun b hb => (List.mem_erase_of_ne (by rintro rfl; exact ha hb)).2 (hs b (by simp [hb]))
    rw [List.length_erase_of_mem hal] at this
    have := List.length_pos_of_mem hal
    simp only [List.length_cons]; omega
theorem sub_full {α : Type} [DecidableEq α] {l1 l2 : List α} (hn : l1.Nodup) (hs : ∀ a ∈ l1, a ∈ l2) (hl : l2.length ≤ l1.length) {b : α} (hb : b ∈ l2) : b ∈ l1 := Classical.byContradiction fun hc => by
  have := sub_len (l2 := l2.erase b) hn fun a ha => (List.mem_erase_of_ne (by rintro rfl; exact hc ha)).2 (hs a ha)
  rw [List.length_erase_of_mem hb] at this
  have := List.length_pos_of_mem hb
  omega
theorem map_nodup {α β : Type} {f : α → β} : ∀ {l : List α}, l.Nodup → (∀ a ∈ l, ∀ b ∈ l, f a = f b → a = b) → (l.map f).Nodup
  | [], _, _ => List.nodup_nil
  | a :: l, hn, hf => by
    obtain ⟨ha, hn'⟩ := List.nodup_cons.1 hn
    rw [List.map_cons, List.nodup_cons]
    refine ⟨fun hm => ?_, map_nodup hn' fun b hb c hc => hf b (by simp [hb]) c (by simp [hc])⟩
    obtain ⟨b, hb, he⟩ := List.mem_map.1 hm
    exact ha (hf b (by simp [hb]) a (by simp) he ▸ hb)

/-- Two elements of a chain. -/
def cmpb (r : Nat → Nat → Bool) (x y : Nat) : Prop := x = y ∨ r x y = true ∨ r y x = true
structure Chn (r : Nat → Nat → Bool) (S : List Nat) (k : Nat) (f : Nat → Nat) : Prop where
  lt : ∀ x ∈ S, f x < k
  ch : ∀ x ∈ S, ∀ y ∈ S, f x = f y → cmpb r x y
structure Ant (r : Nat → Nat → Bool) (S A : List Nat) : Prop where
  sub : ∀ a ∈ A, a ∈ S
  nd : A.Nodup
  an : ∀ a ∈ A, ∀ b ∈ A, r a b = false
section
variable {r : Nat → Nat → Bool} {S A : List Nat} {k : Nat} {f : Nat → Nat}
theorem Chn.inj (hc : Chn r S k f) (ha : Ant r S A) : ∀ a ∈ A, ∀ b ∈ A, f a = f b → a = b := fun a h1 b h2 he => by
  rcases hc.ch a (ha.sub a h1) b (ha.sub b h2) he with h | h | h
  · exact h
  · rw [ha.an a h1 b h2] at h; cases h
  · rw [ha.an b h2 a h1] at h; cases h
theorem Chn.nd (hc : Chn r S k f) (ha : Ant r S A) : (A.map f).Nodup := map_nodup ha.nd (hc.inj ha)
theorem Chn.sub (hc : Chn r S k f) (ha : Ant r S A) : ∀ i ∈ A.map f, i ∈ List.range k := fun i hi => by
  obtain ⟨a, h1, rfl⟩ := List.mem_map.1 hi
  exact List.mem_range.2 (hc.lt a (ha.sub a h1))
/-- An antichain has at most as many elements as there are chains. -/
theorem Chn.le (hc : Chn r S k f) (ha : Ant r S A) : A.length ≤ k := by
  have := sub_len (hc.nd ha) (hc.sub ha)
  simpa using this
/-- One with just as many has one of each. -/
theorem Chn.full (hc : Chn r S k f) (ha : Ant r S A) (hl : A.length = k) {i : Nat} (hi : i < k) : ∃ a ∈ A, f a = i := by
  have := sub_full (hc.nd ha) (hc.sub ha) (by simp [hl]) (List.mem_range.2 hi)
  exact List.mem_map.1 this
end

theorem Ant.mono {r : Nat → Nat → Bool} {S T A : List Nat} (h : Ant r T A) (hs : ∀ a ∈ T, a ∈ S) : Ant r S A := ⟨fun a ha => hs a (h.sub a ha), h.nd, h.an⟩

open Classical in
/-- **Dilworth's theorem.** -/
theorem dilworth {r : Nat → Nat → Bool} (h : Po r) : ∀ (n : Nat) (S : List Nat), S.length ≤ n → S.Nodup → ∃ (A : List Nat) (f : Nat → Nat), Ant r S A ∧ Chn r S A.length f
  | 0, S, hl, _ => by
    obtain rfl : S = [] := List.length_eq_zero_iff.1 (by omega)
    exact ⟨[], id, ⟨fun _ h => h, List.nodup_nil, fun _ h => by cases h⟩, fun _ h => (by cases h), fun _ h => by cases h⟩
  | n + 1, S, hl, hn => by
    by_cases hS : S = []
    · subst hS
      exact ⟨[], id, ⟨fun _ h => h, List.nodup_nil, fun _ h => by cases h⟩, fun _ h => (by cases h), fun _ h => by cases h⟩
    obtain ⟨m, hm⟩ := List.exists_mem_of_ne_nil _ (firsts_ne h hS)
    obtain ⟨hmS, hmin⟩ := mem_firsts.1 hm
    have hmem : ∀ {z}, z ∈ S.erase m ↔ z ≠ m ∧ z ∈ S := fun {z} => hn.mem_erase_iff
    have hlen : (S.erase m).length = S.length - 1 := List.length_erase_of_mem hmS
    have hpos := List.length_pos_of_mem hmS
    obtain ⟨A0, f, ha0, hf⟩ := dilworth h n (S.erase m) (by omega) (hn.erase m)
    obtain ⟨k, hk⟩ : ∃ k, A0.length = k := ⟨_, rfl⟩
    rw [hk] at hf
    have sup : ∀ {B}, Ant r (S.erase m) B → Ant r S B := fun hB => hB.mono fun a ha => (hmem.1 ha).2
    -- the lowest of each chain that is in some greatest antichain
    have hx : ∀ i, ∃ x, i < k → (x ∈ S.erase m ∧ f x = i ∧ ∃ B, Ant r (S.erase m) B ∧ B.length = k ∧ x ∈ B) ∧ ∀ z B, Ant r (S.erase m) B → B.length = k → z ∈ B → f z = i → z = x ∨ r x z = true := fun i => by
      by_cases hi : i < k
      · obtain ⟨X, hX⟩ : ∃ X, X = (S.erase m).filter fun z => decide (f z = i ∧ ∃ B, Ant r (S.erase m) B ∧ B.length = k ∧ z ∈ B) := ⟨_, rfl⟩
        have hXm : ∀ {z}, z ∈ X ↔ z ∈ S.erase m ∧ f z = i ∧ ∃ B, Ant r (S.erase m) B ∧ B.length = k ∧ z ∈ B := fun {z} => by
          rw [hX, List.mem_filter, decide_eq_true_eq]
        obtain ⟨a, h1, h2⟩ := hf.full ha0 hk hi
        have hXne : X ≠ [] := List.ne_nil_of_mem (hXm.2 ⟨ha0.sub a h1, h2, A0, ha0, hk, h1⟩)
        obtain ⟨x, hxm⟩ := List.exists_mem_of_ne_nil _ (firsts_ne h hXne)
        obtain ⟨hxX, hxmin⟩ := mem_firsts.1 hxm
        obtain ⟨h3, h4, h5⟩ := hXm.1 hxX
        refine ⟨x, fun _ => ⟨⟨h3, h4, h5⟩, fun z B hB hl hz hfz => ?_⟩⟩
        have hzX := hXm.2 ⟨hB.sub z hz, hfz, B, hB, hl, hz⟩
        rcases hf.ch z (hB.sub z hz) x h3 (hfz.trans h4.symm) with h6 | h6 | h6
        · exact .inl h6
        · rw [hxmin z hzX] at h6; cases h6
        · exact .inr h6
      · exact ⟨0, fun h => absurd h hi⟩
    obtain ⟨x, hx⟩ := Classical.skolem.1 hx
    have hA : Ant r (S.erase m) ((List.range k).map x) := by
      refine ⟨fun a ha => ?_, map_nodup List.nodup_range fun i hi j hj he => ?_, fun a ha b hb => ?_⟩
      · obtain ⟨i, hi, rfl⟩ := List.mem_map.1 ha
        exact (hx i (List.mem_range.1 hi)).1.1
      · rw [← (hx i (List.mem_range.1 hi)).1.2.1, he, (hx j (List.mem_range.1 hj)).1.2.1]
      · obtain ⟨i, hi, rfl⟩ := List.mem_map.1 ha
        obtain ⟨j, hj, rfl⟩ := List.mem_map.1 hb
        rw [List.mem_range] at hi hj
        obtain ⟨⟨h1, h2, B, hB, hl, hxB⟩, _⟩ := hx i hi
        obtain ⟨y, hy, hfy⟩ := hf.full hB hl hj
        rw [← Bool.not_eq_true]
        intro hc
        rcases (hx j hj).2 y B hB hl hy hfy with h3 | h3
        · rw [← h3, hB.an _ hxB y hy] at hc; cases hc
        · have := h.tr _ _ _ hc h3
          rw [hB.an _ hxB y hy] at this; cases this
    have hAl : ((List.range k).map x).length = k := by simp
    by_cases hcase : ∃ i, i < k ∧ r m (x i) = true
    · obtain ⟨i, hi, hmx⟩ := hcase
      obtain ⟨⟨hx1, hx2, _⟩, hx3⟩ := hx i hi
      obtain ⟨p, hp⟩ : ∃ p : Nat → Bool, p = fun z => decide (z = m ∨ (f z = i ∧ (z = x i ∨ r (x i) z = true))) := ⟨_, rfl⟩
      have hpt : ∀ z, p z = true ↔ z = m ∨ (f z = i ∧ (z = x i ∨ r (x i) z = true)) := fun z => by rw [hp]; exact decide_eq_true_iff
      obtain ⟨T, hT⟩ : ∃ T, T = S.filter fun z => !p z := ⟨_, rfl⟩
      have hTm : ∀ {z}, z ∈ T ↔ z ∈ S ∧ p z = false := fun {z} => by rw [hT, List.mem_filter, Bool.not_eq_true']
      have hTS : ∀ z ∈ T, z ∈ S.erase m := fun z hz => by
        refine hmem.2 ⟨fun he => ?_, (hTm.1 hz).1⟩
        have := (hpt z).2 (.inl he)
        rw [(hTm.1 hz).2] at this
        cases this
      have hTn : T.Nodup := by rw [hT]; exact hn.filter _
      have hTl : T.length ≤ n := by
        have := sub_len hTn hTS
        omega
      obtain ⟨A1, f1, ha1, hf1⟩ := dilworth h n T hTl hTn
      have ha1' := ha1.mono hTS
      have hle := hf.le ha1'
      have hne : A1.length ≠ k := fun he => by
        obtain ⟨z, hz, hfz⟩ := hf.full ha1' he hi
        have := (hpt z).2 (.inr ⟨hfz, hx3 z A1 ha1' he hz hfz⟩)
        rw [(hTm.1 (ha1.sub z hz)).2] at this; cases this
      have hg : Chn r S (A1.length + 1) fun z => if p z = true then A1.length else f1 z := by
        have hmz : ∀ z, z ∈ S → p z = true → z ≠ m → r m z = true ∧ f z = i ∧ z ∈ S.erase m := fun z hz hpz hne => by
          rcases (hpt z).1 hpz with h1 | ⟨h1, h2⟩
          · exact absurd h1 hne
          · refine ⟨?_, h1, hmem.2 ⟨hne, hz⟩⟩
            rcases h2 with rfl | h2
            · exact hmx
            · exact h.tr _ _ _ hmx h2
        refine ⟨fun z hz => ?_, fun z hz w hw he => ?_⟩
        · split
          · omega
          · rename_i hpz
            have := hf1.lt z (hTm.2 ⟨hz, by simpa using hpz⟩)
            omega
        · cases hpz : p z with
          | true =>
            rw [hpz, if_pos rfl] at he
            cases hpw : p w with
            | false =>
              rw [hpw, if_neg (by decide)] at he
              have := hf1.lt w (hTm.2 ⟨hw, hpw⟩)
              omega
            | true =>
              by_cases h1 : z = m
              · by_cases h2 : w = m
                · exact .inl (h1.trans h2.symm)
                · subst h1; exact .inr (.inl (hmz w hw hpw h2).1)
              · by_cases h2 : w = m
                · subst h2; exact .inr (.inr (hmz z hz hpz h1).1)
                · obtain ⟨_, h3, h4⟩ := hmz z hz hpz h1
                  obtain ⟨_, h5, h6⟩ := hmz w hw hpw h2
                  exact hf.ch z h4 w h6 (h3.trans h5.symm)
          | false =>
            rw [hpz, if_neg (by decide)] at he
            have h1 := hTm.2 ⟨hz, hpz⟩
            cases hpw : p w with
            | true =>
              rw [hpw, if_pos rfl] at he
              have := hf1.lt z h1
              omega
            | false =>
              rw [hpw, if_neg (by decide)] at he
              exact hf1.ch z h1 w (hTm.2 ⟨hw, hpw⟩) he
      have hle2 := hg.le (sup ha0)
      have hkk : A0.length = A1.length + 1 := by omega
      exact ⟨A0, _, sup ha0, by rw [hkk]; exact hg⟩
    · have hno : ∀ i, i < k → r m (x i) = false := fun i hi => by
        cases hc : r m (x i) with
        | false => rfl
        | true => exact absurd ⟨i, hi, hc⟩ hcase
      have hmA : m ∉ (List.range k).map x := fun hc => (hmem.1 (hA.sub m hc)).1 rfl
      refine ⟨m :: (List.range k).map x, fun z => if z = m then k else f z, ⟨fun a ha => ?_, List.nodup_cons.2 ⟨hmA, hA.nd⟩, fun a ha b hb => ?_⟩, fun z hz => ?_, fun z hz w hw he => ?_⟩
      · rcases List.mem_cons.1 ha with rfl | ha
        · exact hmS
        · exact (hmem.1 (hA.sub a ha)).2
      · rcases List.mem_cons.1 ha with rfl | ha'
        · rcases List.mem_cons.1 hb with rfl | hb'
          · exact h.irr _
          · obtain ⟨i, hi, rfl⟩ := List.mem_map.1 hb'
            exact hno i (List.mem_range.1 hi)
        · rcases List.mem_cons.1 hb with rfl | hb'
          · exact hmin a (hmem.1 (hA.sub a ha')).2
          · exact hA.an a ha' b hb'
      · simp only [List.length_cons, List.length_map, List.length_range]
        split
        · omega
        · rename_i hz2
          have := hf.lt z (hmem.2 ⟨hz2, hz⟩)
          omega
      · by_cases h1 : z = m
        · by_cases h2 : w = m
          · exact .inl (h1.trans h2.symm)
          · rw [if_pos h1, if_neg h2] at he
            have := hf.lt w (hmem.2 ⟨h2, hw⟩)
            omega
        · by_cases h2 : w = m
          · rw [if_neg h1, if_pos h2] at he
            have := hf.lt z (hmem.2 ⟨h1, hz⟩)
            omega
          · rw [if_neg h1, if_neg h2] at he
            exact hf.ch z (hmem.2 ⟨h1, hz⟩) w (hmem.2 ⟨h2, hw⟩) he
end Ord

namespace Ord
open Go.Am

/-- Of any two elements of a set: free (or: never). -/
def uni (o : List Int) (s : Nat) (f : Bool) : Bool := (List.range o.length).all fun i => (List.range i).all fun j => !(s.testBit i && (s.testBit j && (fr o i j != f)))
theorem fr_symm (o : List Int) (i j : Nat) : fr o i j = fr o j i := by
  rw [fr, fr, Bool.and_right_comm]
  simp only [ne_comm]
theorem uni_iff {o : List Int} {s : Nat} {f : Bool} (hs : s < 2 ^ o.length) : uni o s f = true ↔ ∀ i j, i ≠ j → s.testBit i = true → s.testBit j = true → fr o i j = f := by
  simp only [uni, List.all_eq_true, List.mem_range, Bool.not_eq_true', Bool.and_eq_false_iff, bne_eq_false_iff_eq]
  have hlt : ∀ i, s.testBit i = true → i < o.length := fun i hi => by
    rcases Nat.lt_or_ge i o.length with h | h
    · exact h
    · rw [Nat.testBit_lt_two_pow (Nat.lt_of_lt_of_le hs (Nat.pow_le_pow_right (by decide) h))] at hi; cases hi
  constructor
  · intro h i j hne hi hj
    have key : ∀ i j, j < i → s.testBit i = true → s.testBit j = true → fr o i j = f := fun i j hji hi hj => by
      rcases h i (hlt i hi) j hji with h1 | h1 | h1
      · rw [hi] at h1; cases h1
      · rw [hj] at h1; cases h1
      · exact h1
    rcases Nat.lt_or_gt_of_ne hne with h1 | h1
    · rw [fr_symm]; exact key j i h1 hj hi
    · exact key i j h1 hi hj
  · intro h i hi j hj
    cases h1 : s.testBit i with
    | false => exact .inl rfl
    | true =>
      cases h2 : s.testBit j with
      | false => exact .inr (.inl rfl)
      | true => exact .inr (.inr (h i j (by omega) h1 h2))
/-- Whether a set is an ideal. -/
def idl (o : List Int) (s : Nat) : Bool := (List.range o.length).all fun i => s.testBit i || decide (bt o i &&& s = 0)
theorem and_zero {a b : Nat} : a &&& b = 0 ↔ ∀ k, a.testBit k = true → b.testBit k = false := by
  constructor
  · intro h k hk
    have := congrArg (fun z => Nat.testBit z k) h
    simpa [Nat.testBit_and, hk] using this
  · intro h
    refine Nat.eq_of_testBit_eq fun k => ?_
    rw [Nat.testBit_and, Nat.zero_testBit]
    cases hk : a.testBit k with
    | false => rfl
    | true => rw [h k hk]; rfl
theorem idl_iff {o : List Int} {s : Nat} : idl o s = true ↔ ∀ i j, i < o.length → s.testBit j = true → ab o i j = true → s.testBit i = true := by
  simp only [idl, List.all_eq_true, List.mem_range, Bool.or_eq_true, decide_eq_true_eq, and_zero]
  constructor
  · intro h i j hi hj hij
    rcases h i hi with h1 | h1
    · exact h1
    · rw [h1 j hij] at hj; cases hj
  · intro h i hi
    cases h1 : s.testBit i with
    | true => exact .inl rfl
    | false =>
      refine .inr fun j hj => ?_
      cases h2 : s.testBit j with
      | false => rfl
      | true => rw [h i j hi h2 hj] at h1; cases h1
def setsL (o : List Int) (p : Nat → Bool) : List Nat := (List.range (2 ^ o.length)).filter p

/-! ### A set of bits out of a list -/
def msk (A : List Nat) : Nat := A.foldl (fun r j => r ||| 2 ^ j) 0
theorem msk_bit {A : List Nat} {k : Nat} : (msk A).testBit k = true ↔ k ∈ A := by
  rw [msk, foldl_or_bit, Nat.zero_testBit, Bool.false_or, List.any_eq_true]
  constructor
  · rintro ⟨j, hj, h⟩
    rw [Nat.testBit_two_pow, decide_eq_true_eq] at h
    exact h ▸ hj
  · intro h
    exact ⟨k, h, by rw [Nat.testBit_two_pow, decide_eq_true_eq]⟩
theorem msk_lt {A : List Nat} {n : Nat} (h : ∀ a ∈ A, a < n) : msk A < 2 ^ n := lt_of_bits fun j hj => by
  cases hb : (msk A).testBit j with
  | false => rfl
  | true => have := h j (msk_bit.1 hb); omega
theorem bits_msk {A : List Nat} (hn : A.Nodup) (h : ∀ a ∈ A, a < 64) : (bits (msk A)).length = A.length :=
  (perm_of_nodup (bits_nodup _) hn fun a => by rw [Xg, msk_bit]; exact ⟨fun h => h.2, fun ha => ⟨h a ha, ha⟩⟩).length_eq

/-! ### The greatest antichain -/
def Vd (o : List Int) : Nat → Nat
  | 0 => 0
  | s + 1 => if uni o s true = true ∧ (bits (Vd o s)).length < (bits s).length then s else Vd o s
theorem antiTo_spec (o : List Int) : ∀ k, 0 < k → Vd o k < k ∧ uni o (Vd o k) true = true ∧ (∀ s, s < k → uni o s true = true → (bits s).length ≤ (bits (Vd o k)).length) ∧ ∀ s, s < Vd o k → uni o s true = true → (bits s).length < (bits (Vd o k)).length
  | 0, h => by omega
  | 1, _ => by
    have h0 : Vd o 1 = 0 := by rw [Vd, Vd]; split <;> rfl
    rw [h0]
    refine ⟨by omega, ?_, fun s hs _ => by rw [show s = 0 by omega]; exact Nat.le_refl _, fun s hs => by omega⟩
    simp [uni]
  | k + 2, _ => by
    obtain ⟨h1, h2, h3, h4⟩ := antiTo_spec o (k + 1) (by omega)
    rw [Vd]
    split
    · rename_i hc
      refine ⟨by omega, hc.1, fun s hs hu => ?_, fun s hs hu => ?_⟩
      · by_cases he : s = k + 1
        · rw [he]; exact Nat.le_refl _
        · have := h3 s (by omega) hu; omega
      · have := h3 s hs hu; omega
    · rename_i hc
      refine ⟨by omega, h2, fun s hs hu => ?_, h4⟩
      by_cases he : s = k + 1
      · subst he
        rcases Nat.lt_or_ge (bits (Vd o (k + 1))).length (bits (k + 1)).length with h5 | h5
        · exact absurd ⟨hu, h5⟩ hc
        · exact h5
      · exact h3 s (by omega) hu
def Wj (o : List Int) : Nat := Vd o (2 ^ o.length)

/-! ### Chains that part a set -/
def Part (o : List Int) : Nat → List Nat → Prop
  | s, [] => s = 0
  | s, c :: cs => c ≠ 0 ∧ Xi c s = 0 ∧ uni o c false = true ∧ Part o (Xi s c) cs
theorem less_bit' {a b k : Nat} : (Xi a b).testBit k = (a.testBit k && !b.testBit k) := Xt a b k
theorem less_le (s c : Nat) : Xi s c ≤ s := by
  have : Xi s c = s &&& Xi s c := Nat.eq_of_testBit_eq fun k => by
    rw [Nat.testBit_and, less_bit', ← Bool.and_assoc, Bool.and_self]
  rw [this]; exact Nat.and_le_left
theorem less_lt {s c : Nat} (h0 : c ≠ 0) (h : Xi c s = 0) : Xi s c < s := by
  refine Nat.lt_of_le_of_ne (less_le s c) fun he => h0 ?_
  refine Nat.eq_of_testBit_eq fun k => ?_
  rw [Nat.zero_testBit]
  cases hk : c.testBit k with
  | false => rfl
  | true =>
    have h1 := Wr.1 h k hk
    have h2 := congrArg (fun z => Nat.testBit z k) he
    simp only [less_bit', h1, hk] at h2
    cases h2
/-- The fewest chains, counted: k suffice, fewer do not. -/
def Fewest (o : List Int) (s k : Nat) : Prop := (∃ cs, Part o s cs ∧ cs.length = k) ∧ ∀ cs, Part o s cs → k ≤ cs.length
theorem Fewest.uniq {o : List Int} {s k l : Nat} (h1 : Fewest o s k) (h2 : Fewest o s l) : k = l := by
  obtain ⟨⟨c1, p1, l1⟩, m1⟩ := h1
  obtain ⟨⟨c2, p2, l2⟩, m2⟩ := h2
  have := m1 c2 p2; have := m2 c1 p1; omega
theorem fewest_zero (o : List Int) : Fewest o 0 0 := ⟨⟨[], rfl, rfl⟩, fun _ _ => Nat.zero_le _⟩
/-- One step: over all first chains. -/
theorem fewest_step {o : List Int} {s k : Nat} {v : Nat → Nat} (h0 : s ≠ 0) (hv : ∀ t, t < s → Fewest o t (v t)) (hex : ∃ c, c ≠ 0 ∧ Xi c s = 0 ∧ uni o c false = true ∧ k = 1 + v (Xi s c))
    (hmin : ∀ c, c ≠ 0 → Xi c s = 0 → uni o c false = true → k ≤ 1 + v (Xi s c)) : Fewest o s k := by
  obtain ⟨c, c0, c1, c2, rfl⟩ := hex
  refine ⟨?_, fun cs hp => ?_⟩
  · obtain ⟨⟨cs, p, l⟩, _⟩ := hv _ (less_lt c0 c1)
    exact ⟨c :: cs, ⟨c0, c1, c2, p⟩, by rw [List.length_cons, l]; omega⟩
  · match cs, hp with
    | [], hp => exact absurd hp h0
    | d :: cs, hp =>
      obtain ⟨d0, d1, d2, p⟩ := hp
      have := (hv _ (less_lt d0 d1)).2 cs p
      have := hmin d d0 d1 d2
      rw [List.length_cons]; omega
theorem uni_single {o : List Int} {i : Nat} : uni o (2 ^ i) false = true := by
  simp only [uni, List.all_eq_true, List.mem_range, Nat.testBit_two_pow]
  intro a _ b hb
  by_cases h1 : i = a
  · have : ¬ i = b := by omega
    simp [this]
  · simp [h1]
theorem low_bit {s : Nat} (h : s ≠ 0) : ∃ i, s.testBit i = true := by
  refine Classical.byContradiction fun hc => h ?_
  refine Nat.eq_of_testBit_eq fun k => ?_
  rw [Nat.zero_testBit, ← Bool.not_eq_true]
  exact fun hk => hc ⟨k, hk⟩
theorem single_sub {s i : Nat} (h : s.testBit i = true) : Xi (2 ^ i) s = 0 := Wr.2 fun k hk => by
  rw [Nat.testBit_two_pow, decide_eq_true_eq] at hk
  exact hk ▸ h
theorem fewest_exTo {o : List Int} : ∀ m t, t ≤ m → ∃ l, Fewest o t l := fun m => by
  induction m with
  | zero => intro t ht; rw [show t = 0 by omega]; exact ⟨0, fewest_zero o⟩
  | succ m ih =>
    intro t ht
    by_cases ht0 : t = 0
    · rw [ht0]; exact ⟨0, fewest_zero o⟩
    obtain ⟨v, hv⟩ := Classical.skolem.1 (show ∀ u, ∃ l, u < t → Fewest o u l from fun u => by
      by_cases hu : u < t
      · obtain ⟨l, hl⟩ := ih u (by omega)
        exact ⟨l, fun _ => hl⟩
      · exact ⟨0, fun h => absurd h hu⟩)
    obtain ⟨i, hi⟩ := low_bit ht0
    obtain ⟨m0, ⟨c, c0, c1, c2, hm⟩, hmin⟩ : ∃ m0, (∃ c, c ≠ 0 ∧ Xi c t = 0 ∧ uni o c false = true ∧ m0 = 1 + v (Xi t c)) ∧ ∀ c, c ≠ 0 → Xi c t = 0 → uni o c false = true → m0 ≤ 1 + v (Xi t c) := by
      have hne : ∃ m0, ∃ c, c ≠ 0 ∧ Xi c t = 0 ∧ uni o c false = true ∧ m0 = 1 + v (Xi t c) := ⟨_, 2 ^ i, Nat.ne_of_gt (Nat.two_pow_pos i), single_sub hi, uni_single, rfl⟩
      have wf : ∀ b m0, m0 ≤ b → (∃ c, c ≠ 0 ∧ Xi c t = 0 ∧ uni o c false = true ∧ m0 = 1 + v (Xi t c)) → ∃ m1, (∃ c, c ≠ 0 ∧ Xi c t = 0 ∧ uni o c false = true ∧ m1 = 1 + v (Xi t c)) ∧ ∀ c, c ≠ 0 → Xi c t = 0 → uni o c false = true → m1 ≤ 1 + v (Xi t c) := fun b => by
        induction b with
        | zero => intro m0 hb h; obtain ⟨c, _, _, _, h⟩ := h; omega
        | succ b ihb =>
          intro m0 hb h
          by_cases hall : ∀ c, c ≠ 0 → Xi c t = 0 → uni o c false = true → m0 ≤ 1 + v (Xi t c)
          · exact ⟨m0, h, hall⟩
          · simp only [Classical.not_forall] at hall
            obtain ⟨c, c0, c1, c2, hlt⟩ := hall
            exact ihb (1 + v (Xi t c)) (by omega) ⟨c, c0, c1, c2, rfl⟩
      obtain ⟨m0, h⟩ := hne
      exact wf m0 m0 (Nat.le_refl _) h
    exact ⟨m0, fewest_step ht0 (fun u hu => hv u hu) ⟨c, c0, c1, c2, hm⟩ hmin⟩
theorem fewest_ex (o : List Int) (t : Nat) : ∃ l, Fewest o t l := fewest_exTo t t (Nat.le_refl _)
/-- The fewest chains that part a set. -/
noncomputable def fw (o : List Int) (t : Nat) : Nat := Classical.choose (fewest_ex o t)
theorem fw_spec (o : List Int) (t : Nat) : Fewest o t (fw o t) := Classical.choose_spec (fewest_ex o t)
theorem fw_zero (o : List Int) : fw o 0 = 0 := (fw_spec o 0).uniq (fewest_zero o)
/-- A chain that may stand first. -/
def okC (o : List Int) (s c : Nat) : Prop := c ≠ 0 ∧ Xi c s = 0 ∧ uni o c false = true
theorem fw_le_one {o : List Int} {s c : Nat} (h : okC o s c) : fw o s ≤ 1 + fw o (Xi s c) := by
  obtain ⟨⟨cs, p, l⟩, _⟩ := fw_spec o (Xi s c)
  have := (fw_spec o s).2 (c :: cs) ⟨h.1, h.2.1, h.2.2, p⟩
  rw [List.length_cons, l] at this; omega
theorem fw_first {o : List Int} {s : Nat} (h0 : s ≠ 0) : ∃ c, okC o s c ∧ fw o s = 1 + fw o (Xi s c) := by
  obtain ⟨⟨cs, p, l⟩, hm⟩ := fw_spec o s
  match cs, p, l with
  | [], p, _ => exact absurd p h0
  | c :: cs, p, l =>
    obtain ⟨c0, c1, c2, p'⟩ := p
    refine ⟨c, ⟨c0, c1, c2⟩, ?_⟩
    have h1 := (fw_spec o (Xi s c)).2 cs p'
    have h2 := fw_le_one (o := o) (s := s) (c := c) ⟨c0, c1, c2⟩
    rw [List.length_cons] at l; omega
/-- No more than there are elements. -/
theorem fewest_le {o : List Int} : ∀ (n s k : Nat), s < 2 ^ n → Fewest o s k → k ≤ n
  | 0, s, k, hs, hk => by
    obtain rfl : s = 0 := by omega
    rw [hk.uniq (fewest_zero o)]; exact Nat.le_refl _
  | n + 1, s, k, hs, hk => by
    cases hb : s.testBit n with
    | false =>
      have : s < 2 ^ n := lt_of_bits fun j hj => by
        by_cases he : j = n
        · rw [he]; exact hb
        · exact Nat.testBit_lt_two_pow (Nat.lt_of_lt_of_le hs (Nat.pow_le_pow_right (by decide) (by omega)))
      have := fewest_le n s k this hk; omega
    | true =>
      have hlt : Xi s (2 ^ n) < 2 ^ n := lt_of_bits fun j hj => by
        rw [less_bit', Nat.testBit_two_pow]
        by_cases he : n = j
        · simp [he]
        · rw [Nat.testBit_lt_two_pow (x := s) (i := j) (Nat.lt_of_lt_of_le hs (Nat.pow_le_pow_right (by decide) (by omega)))]; rfl
      obtain ⟨l, hl⟩ := fewest_ex o (Xi s (2 ^ n))
      have h1 := fewest_le n _ l hlt hl
      obtain ⟨⟨cs, p, pl⟩, _⟩ := hl
      have := hk.2 (2 ^ n :: cs) ⟨Nat.ne_of_gt (Nat.two_pow_pos n), single_sub hb, uni_single, p⟩
      rw [List.length_cons, pl] at this
      omega
theorem fw_le {o : List Int} {n s : Nat} (hs : s < 2 ^ n) : fw o s ≤ n := fewest_le n s _ hs (fw_spec o s)
/-- An antichain has one element at most in each chain. -/
theorem part_anti {o : List Int} {a : Nat} (ha : ∀ i j, i ≠ j → a.testBit i = true → a.testBit j = true → fr o i j = true) : ∀ (cs : List Nat) (s : Nat), s < 2 ^ o.length → o.length ≤ 64 → Part o s cs → ((bits s).filter fun i => a.testBit i).length ≤ cs.length
  | [], s, hs, hl, hp => by
    obtain rfl : s = 0 := hp
    simp [bits]
  | c :: cs, s, hs, hl, hp => by
    obtain ⟨c0, c1, c2, p⟩ := hp
    have hcl : c < 2 ^ o.length := lt_of_bits fun j hj => by
      cases hb : c.testBit j with
      | false => rfl
      | true =>
        have := Wr.1 c1 j hb
        rw [Nat.testBit_lt_two_pow (Nat.lt_of_lt_of_le hs (Nat.pow_le_pow_right (by decide) hj))] at this
        cases this
    have ih := part_anti ha cs (Xi s c) (Nat.lt_of_le_of_lt (less_le s c) hs) hl p
    obtain ⟨X, hX⟩ : ∃ X, X = (bits s).filter fun i => a.testBit i && c.testBit i := ⟨_, rfl⟩
    have hX1 : X.length ≤ 1 := by
      match hXX : X with
      | [] => simp
      | [_] => simp
      | i :: j :: l =>
        exfalso
        have hn : (i :: j :: l).Nodup := by rw [hX]; exact (bits_nodup s).filter _
        have hm : ∀ k, k ∈ i :: j :: l → a.testBit k = true ∧ c.testBit k = true := fun k hk => by
          rw [hX] at hk
          have := (List.mem_filter.1 hk).2
          simpa using this
        have hij : i ≠ j := by
          rintro rfl; simp at hn
        have h1 := hm i (by simp)
        have h2 := hm j (by simp)
        have := (uni_iff hcl).1 c2 i j hij h1.2 h2.2
        rw [ha i j hij h1.1 h2.1] at this
        cases this
    have hsplit : ((bits s).filter fun i => a.testBit i).length ≤ (((bits (Xi s c)).filter fun i => a.testBit i) ++ X).length := by
      refine sub_len ((bits_nodup s).filter _) fun k hk => ?_
      obtain ⟨h1, h2⟩ := List.mem_filter.1 hk
      rw [List.mem_append]
      obtain ⟨h64, hks⟩ := Xg.1 h1
      cases hc : c.testBit k with
      | true => exact .inr (by rw [hX, List.mem_filter]; exact ⟨h1, by rw [h2, hc]; rfl⟩)
      | false => exact .inl (List.mem_filter.2 ⟨Xg.2 ⟨h64, by rw [less_bit', hks, hc]; rfl⟩, h2⟩)
    rw [List.length_append] at hsplit
    rw [List.length_cons]; omega

/-- The classes of a colouring, one Wt the other. -/
theorem part_of {o : List Int} {f : Nat → Nat} : ∀ (k : Nat) (s : Nat), s < 2 ^ o.length → (∀ i, s.testBit i = true → f i < k) → (∀ c, c < k → ∃ i, s.testBit i = true ∧ f i = c) → (∀ i j, s.testBit i = true → s.testBit j = true → f i = f j → i ≠ j → fr o i j = false) → ∃ cs, Part o s cs ∧ cs.length = k
  | 0, s, hs, h1, _, _ => ⟨[], by
      show s = 0
      refine Classical.byContradiction fun hne => ?_
      obtain ⟨i, hi⟩ := low_bit hne
      have := h1 i hi; omega, rfl⟩
  | k + 1, s, hs, h1, h2, h3 => by
    obtain ⟨c, hc⟩ : ∃ c, c = msk ((List.range o.length).filter fun i => s.testBit i && decide (f i = k)) := ⟨_, rfl⟩
    have hcb : ∀ i, c.testBit i = true ↔ s.testBit i = true ∧ f i = k := fun i => by
      rw [hc, msk_bit, List.mem_filter, List.mem_range, Bool.and_eq_true, decide_eq_true_eq]
      refine ⟨fun h => h.2, fun h => ⟨?_, h⟩⟩
      rcases Nat.lt_or_ge i o.length with h4 | h4
      · exact h4
      · rw [Nat.testBit_lt_two_pow (Nat.lt_of_lt_of_le hs (Nat.pow_le_pow_right (by decide) h4))] at h; cases h.1
    have hcl : c < 2 ^ o.length := by rw [hc]; exact msk_lt fun a ha => List.mem_range.1 (List.mem_filter.1 ha).1
    have hrb : ∀ i, (Xi s c).testBit i = true ↔ s.testBit i = true ∧ f i ≠ k := fun i => by
      rw [less_bit', Bool.and_eq_true, Bool.not_eq_true']
      constructor
      · rintro ⟨h4, h5⟩
        exact ⟨h4, fun h6 => by rw [(hcb i).2 ⟨h4, h6⟩] at h5; cases h5⟩
      · rintro ⟨h4, h5⟩
        refine ⟨h4, ?_⟩
        cases h6 : c.testBit i with
        | false => rfl
        | true => exact absurd ((hcb i).1 h6).2 h5
    obtain ⟨i0, hi0, hf0⟩ := h2 k (by omega)
    obtain ⟨cs, p, l⟩ := part_of k (Xi s c) (Nat.lt_of_le_of_lt (less_le s c) hs) (fun i hi => by
      obtain ⟨h4, h5⟩ := (hrb i).1 hi
      have := h1 i h4; omega) (fun d hd => by
      obtain ⟨i, hi, hfi⟩ := h2 d (by omega)
      exact ⟨i, (hrb i).2 ⟨hi, by omega⟩, hfi⟩) fun i j hi hj => h3 i j ((hrb i).1 hi).1 ((hrb j).1 hj).1
    refine ⟨c :: cs, ⟨fun h => ?_, Wr.2 fun i hi => ((hcb i).1 hi).1, (uni_iff hcl).2 fun i j hij hi hj => ?_, p⟩, by rw [List.length_cons, l]⟩
    · have := (hcb i0).2 ⟨hi0, hf0⟩
      rw [h, Nat.zero_testBit] at this; cases this
    · exact h3 i j ((hcb i).1 hi).1 ((hcb j).1 hj).1 (((hcb i).1 hi).2.trans ((hcb j).1 hj).2.symm) hij
theorem all_bit {n i : Nat} : (2 ^ n - 1).testBit i = decide (i < n) := Nat.testBit_two_pow_sub_one ..
/-- **Dilworth: as many chains as a greatest antichain has elements.** -/
theorem fewest_anti {o : List Int} (ho : ord o = true) {k : Nat} (hk : Fewest o (2 ^ o.length - 1) k) : k = (bits (Wj o)).length := by
  have hl := Yx ho
  have hp := pow6 hl.2
  obtain ⟨m1, m2, m3, m4⟩ := antiTo_spec o (2 ^ o.length) (by omega)
  have hM : Vd o (2 ^ o.length) = Wj o := rfl
  rw [hM] at m1 m2 m3 m4
  have hpo := ord_po ho
  have hall : 2 ^ o.length - 1 < 2 ^ o.length := by omega
  refine Nat.le_antisymm ?_ ?_
  · obtain ⟨A, f, ha, hf⟩ := dilworth hpo _ (List.range o.length) (Nat.le_refl _) List.nodup_range
    have hA : ∀ a ∈ A, a < o.length := fun a h => List.mem_range.1 (ha.sub a h)
    have hmA : (bits (msk A)).length = A.length := bits_msk ha.nd fun a h => by have := hA a h; omega
    have hu : uni o (msk A) true = true := (uni_iff (msk_lt hA)).2 fun i j hij hi hj => by
      rw [fr, decide_eq_true hij, ha.an i (msk_bit.1 hi) j (msk_bit.1 hj), ha.an j (msk_bit.1 hj) i (msk_bit.1 hi)]; rfl
    have h1 := m3 _ (msk_lt hA) hu
    obtain ⟨cs, p, l⟩ := part_of (o := o) (f := f) A.length (2 ^ o.length - 1) hall (fun i hi => hf.lt i (by rw [all_bit, decide_eq_true_eq] at hi; exact List.mem_range.2 hi)) (fun c hc => by
      obtain ⟨a, h2, h3⟩ := hf.full ha rfl hc
      exact ⟨a, by rw [all_bit, decide_eq_true_eq]; exact hA a h2, h3⟩) fun i j hi hj he hij => by
        rw [all_bit, decide_eq_true_eq] at hi hj
        rcases hf.ch i (List.mem_range.2 hi) j (List.mem_range.2 hj) he with h2 | h2 | h2
        · exact absurd h2 hij
        · rw [fr, h2]; simp
        · rw [fr, h2]; simp
    have := hk.2 cs p
    omega
  · obtain ⟨⟨cs, p, l⟩, _⟩ := hk
    have h1 := part_anti ((uni_iff m1).1 m2) cs _ hall (by omega) p
    rw [← l]
    refine Nat.le_trans (sub_len (bits_nodup _) fun i hi => ?_) h1
    obtain ⟨h64, hb⟩ := Xg.1 hi
    refine List.mem_filter.2 ⟨Xg.2 ⟨h64, ?_⟩, hb⟩
    rw [all_bit, decide_eq_true_eq]
    rcases Nat.lt_or_ge i o.length with h4 | h4
    · exact h4
    · rw [Nat.testBit_lt_two_pow (Nat.lt_of_lt_of_le m1 (Nat.pow_le_pow_right (by decide) h4))] at hb; cases hb

/-! ### An ideal for each antichain -/
/-- The elements of a set that have none of it above them. -/
def tops (o : List Int) (s : Nat) : Nat := msk ((List.range o.length).filter fun i => s.testBit i && decide (bt o i &&& s = 0))
/-- All that is below a set, and it. -/
def down (o : List Int) (a : Nat) : Nat := msk ((List.range o.length).filter fun i => a.testBit i || !decide (bt o i &&& a = 0))
theorem inj_len {α β : Type} [DecidableEq β] {f : α → β} {l1 : List α} {l2 : List β} (h1 : l1.Nodup) (hf : ∀ a ∈ l1, f a ∈ l2) (hi : ∀ a ∈ l1, ∀ b ∈ l1, f a = f b → a = b) : l1.length ≤ l2.length := by
  have := sub_len (map_nodup h1 hi) fun b hb => by
    obtain ⟨a, ha, rfl⟩ := List.mem_map.1 hb
    exact hf a ha
  rwa [List.length_map] at this
theorem tops_bit {o : List Int} {s i : Nat} : (tops o s).testBit i = true ↔ i < o.length ∧ s.testBit i = true ∧ ∀ j, ab o i j = true → s.testBit j = false := by
  rw [tops, msk_bit, List.mem_filter, List.mem_range, Bool.and_eq_true, decide_eq_true_eq, and_zero]; rfl
theorem down_bit {o : List Int} {a i : Nat} : (down o a).testBit i = true ↔ i < o.length ∧ (a.testBit i = true ∨ ∃ j, ab o i j = true ∧ a.testBit j = true) := by
  rw [down, msk_bit, List.mem_filter, List.mem_range, Bool.or_eq_true, Bool.not_eq_true', decide_eq_false_iff_not, and_zero]
  simp only [Classical.not_forall]
  refine and_congr_right fun _ => or_congr Iff.rfl ?_
  constructor
  · rintro ⟨j, h1, h2⟩; exact ⟨j, h1, by simpa using h2⟩
  · rintro ⟨j, h1, h2⟩; exact ⟨j, h1, by simpa using h2⟩
theorem lt_bit {s n i : Nat} (hs : s < 2 ^ n) (h : s.testBit i = true) : i < n := by
  rcases Nat.lt_or_ge i n with h4 | h4
  · exact h4
  · rw [Nat.testBit_lt_two_pow (Nat.lt_of_lt_of_le hs (Nat.pow_le_pow_right (by decide) h4))] at h; cases h
/-- Each element of a set has a top of it above it, or is one. -/
theorem top_above {o : List Int} (ho : ord o = true) {s : Nat} (hs : s < 2 ^ o.length) {i : Nat} (hi : s.testBit i = true) : (tops o s).testBit i = true ∨ ∃ j, ab o i j = true ∧ (tops o s).testBit j = true := by
  have hpo := ord_po ho
  by_cases htop : (tops o s).testBit i = true
  · exact .inl htop
  obtain ⟨X, hX⟩ : ∃ X, X = (List.range o.length).filter fun j => s.testBit j && ab o i j := ⟨_, rfl⟩
  have hXm : ∀ j, j ∈ X ↔ j < o.length ∧ s.testBit j = true ∧ ab o i j = true := fun j => by rw [hX, List.mem_filter, List.mem_range, Bool.and_eq_true]
  have hne : X ≠ [] := fun h => htop (tops_bit.2 ⟨lt_bit hs hi, hi, fun j hj => by
    cases hsj : s.testBit j with
    | false => rfl
    | true =>
      have := (hXm j).2 ⟨lt_bit hs hsj, hsj, hj⟩
      rw [h] at this; cases this⟩)
  have hpo2 : Po fun a b => ab o b a := ⟨fun a => hpo.irr a, fun a b c h1 h2 => hpo.tr _ _ _ h2 h1⟩
  obtain ⟨m, hm⟩ := List.exists_mem_of_ne_nil _ (firsts_ne hpo2 hne)
  obtain ⟨hmX, hmin⟩ := mem_firsts.1 hm
  obtain ⟨g1, g2, g3⟩ := (hXm m).1 hmX
  refine .inr ⟨m, g3, tops_bit.2 ⟨g1, g2, fun j hj => ?_⟩⟩
  cases hsj : s.testBit j with
  | false => rfl
  | true =>
    have := hmin j ((hXm j).2 ⟨lt_bit hs hsj, hsj, hpo.tr _ _ _ g3 hj⟩)
    rw [hj] at this; cases this
theorem ideals_anti {o : List Int} (ho : ord o = true) : (setsL o (idl o)).length = (setsL o fun s => uni o s true).length := by
  have hpo := ord_po ho
  have hm : ∀ p s, s ∈ setsL o p ↔ s < 2 ^ o.length ∧ p s = true := fun p s => by rw [setsL, List.mem_filter, List.mem_range]
  have hn : ∀ p, (setsL o p).Nodup := fun p => List.nodup_range.filter _
  refine Nat.le_antisymm (inj_len (f := tops o) (hn _) (fun s hs => ?_) fun s hs t ht he => ?_) (inj_len (f := down o) (hn _) (fun a ha => ?_) fun a ha b hb he => ?_)
  · obtain ⟨h1, h2⟩ := (hm _ s).1 hs
    have hlt : tops o s < 2 ^ o.length := msk_lt fun a ha => List.mem_range.1 (List.mem_filter.1 ha).1
    refine (hm _ _).2 ⟨hlt, (uni_iff hlt).2 fun i j hij hi hj => ?_⟩
    obtain ⟨i1, i2, i3⟩ := tops_bit.1 hi
    obtain ⟨j1, j2, j3⟩ := tops_bit.1 hj
    have e1 : ab o i j = false := by
      cases hc : ab o i j with
      | false => rfl
      | true => rw [i3 j hc] at j2; cases j2
    have e2 : ab o j i = false := by
      cases hc : ab o j i with
      | false => rfl
      | true => rw [j3 i hc] at i2; cases i2
    rw [fr, decide_eq_true hij, e1, e2]; rfl
  · obtain ⟨s1, s2⟩ := (hm _ s).1 hs
    obtain ⟨t1, t2⟩ := (hm _ t).1 ht
    have key : ∀ s t, s < 2 ^ o.length → t < 2 ^ o.length → idl o t = true → tops o s = tops o t → ∀ i, s.testBit i = true → t.testBit i = true := fun s t s1 t1 t2 he i hi => by
      rcases top_above ho s1 hi with h1 | ⟨j, h1, h2⟩
      · rw [he] at h1; exact (tops_bit.1 h1).2.1
      · rw [he] at h2
        exact idl_iff.1 t2 i j (lt_bit s1 hi) (tops_bit.1 h2).2.1 h1
    refine Nat.eq_of_testBit_eq fun i => ?_
    rw [Bool.eq_iff_iff]
    exact ⟨key s t s1 t1 t2 he i, key t s t1 s1 s2 he.symm i⟩
  · have hlt : down o a < 2 ^ o.length := msk_lt fun a ha => List.mem_range.1 (List.mem_filter.1 ha).1
    refine (hm _ _).2 ⟨hlt, idl_iff.2 fun i j hi hj hij => down_bit.2 ⟨hi, .inr ?_⟩⟩
    obtain ⟨_, h1 | ⟨k, h1, h2⟩⟩ := down_bit.1 hj
    · exact ⟨j, hij, h1⟩
    · exact ⟨k, hpo.tr _ _ _ hij h1, h2⟩
  · obtain ⟨a1, a2⟩ := (hm _ a).1 ha
    obtain ⟨b1, b2⟩ := (hm _ b).1 hb
    have key : ∀ a b, a < 2 ^ o.length → b < 2 ^ o.length → uni o a true = true → down o a = down o b → ∀ i, a.testBit i = true → b.testBit i = true := fun a b a1 b1 a2 he i hi => by
      have h1 : (down o b).testBit i = true := by rw [← he]; exact down_bit.2 ⟨lt_bit a1 hi, .inl hi⟩
      obtain ⟨_, h2 | ⟨j, h2, h3⟩⟩ := down_bit.1 h1
      · exact h2
      · exfalso
        have h4 : (down o a).testBit j = true := by rw [he]; exact down_bit.2 ⟨lt_bit b1 h3, .inl h3⟩
        obtain ⟨_, h5 | ⟨k, h5, h6⟩⟩ := down_bit.1 h4
        · have hij : i ≠ j := by rintro rfl; rw [hpo.irr] at h2; cases h2
          have := (uni_iff a1).1 a2 i j hij hi h5
          rw [fr, h2] at this; simp at this
        · have hik := hpo.tr _ _ _ h2 h5
          have hne : i ≠ k := by rintro rfl; rw [hpo.irr] at hik; cases hik
          have := (uni_iff a1).1 a2 i k hne hi h6
          rw [fr, hik] at this; simp at this
    refine Nat.eq_of_testBit_eq fun i => ?_
    rw [Bool.eq_iff_iff]
    exact ⟨key a b a1 b1 a2 he i, key b a b1 a1 b2 he.symm i⟩
end Ord

namespace Go.Proofs.Tryd.Am
open Go.Am Ord
set_option maxRecDepth 100000
set_option maxHeartbeats 2000000

theorem ext_app {h hp H' h' : Zx} {w : Value} (hE : Ext (fun _ => False) h hp) (hl : hp.length ≤ H'.length) (hk : ∀ q, q < h.length → H'[q]? = hp[q]?) (hb : ∀ b, Yy w = some b → h.length ≤ b) (hE' : Ext (fun i => Yy w = some i) H' h') : Ext (fun _ => False) h h' := by
  refine ⟨by have := hE.1; have := hE'.1; omega, fun q hq _ => ?_⟩
  have l1 := hE.1
  rw [hE'.2 q (by omega) (fun hb0 => by have := hb q hb0; omega), hk q hq]
  exact hE.2 q hq id
/-- One pair of the test. -/
def uniP (o : List Int) (s : Nat) (f : Bool) (i j : Nat) : Bool := !(s.testBit i && (s.testBit j && (fr o i j != f)))
theorem uni_false {o : List Int} {s : Nat} {f : Bool} {i j : Nat} (hi : i < o.length) (hj : j < i) (h : uniP o s f i j = false) : uni o s f = false := by
  rw [← Bool.not_eq_true]
  intro hc
  have := List.all_eq_true.1 (List.all_eq_true.1 hc i (List.mem_range.2 hi)) j (List.mem_range.2 hj)
  rw [show (!(s.testBit i && (s.testBit j && (fr o i j != f)))) = uniP o s f i j from rfl, h] at this
  cases this

theorem s102_callW [Tabs Tryd.prog] {args : List Value} {h : Zx} {Q : Value → Zx → Prop} (hsz : args.length ≤ 40) (hk : AWS Tryd.prog 40 s102 (Zu Tryd.prog [.tmp 6] Q) (Zp 0 args) h) : ACall Tryd.prog 102 args h Q :=
  Wa Tryd.func102 rfl (enters_of Tryd.func102 (by kernel_rfl) rfl) rfl rfl (by decide) s102_strip s102_ok hsz hk
theorem uniform_call [Tabs prog] {h : Zx} {v : Value} {o : List Int} {s : Nat} {f : Bool} (hv : IntSl h v o) (ho : ord o = true) (hs : s < 2 ^ o.length) : Wv prog 102 [v, Yb (s : Nat), .bool f] h (.bool (uni o s f)) := by
  have hl := Yx ho
  have hp := pow6 hl.2
  refine s102_callW (by simp) ?_
  simp only [s102]
  refine Yc fun N1 hN1 => ?_
  simp (maxSteps := 2000000) only [s102, ↓Za, ↓Zj, ↓Zr, ↓Ze, ↓Zl, ↓Zs, ↓Zf, ↓Zm, ↓Zg, ↓Zb, ↓Zc, ↓vdn, vup, Zk, Zo, Zn, Zi, Zh, List.map_cons, List.map_nil, cond_true, cond_false, aop, Zv, Zq, Zp, ev, sput, Zt, Zy, Ya, unK, Zd, Zw, Nat.reduceBEq, Nat.reduceAdd, Int.reduceBEq, Int.reduceBNe, Int.reduceLT, Zu, Zz, tup, tyf]
  refine hN1 [(0, v), (1, Yb (s : Nat)), (2, .bool f), (6, .bool false)] _ _ ?_ (by simp (maxSteps := 2000000) only [↓Za, ↓Zj, ↓Zr, ↓Ze, ↓Zl, ↓Zs, ↓Zf, ↓Zm, ↓Zg, ↓Zb, ↓Zc, ↓vdn, vup, Zk, Zo, Zn, Zi, Zh, List.map_cons, List.map_nil, cond_true, cond_false, aop, Zv, Zq, Zp, ev, sput, Zt, Zy, Ya, unK, Zd, Zw, Nat.reduceBEq, Nat.reduceAdd, Int.reduceBEq, Int.reduceBNe, Int.reduceLT, Zu, Zz, tup, tyf])
  clear hN1
  try clear N1
  refine Yu fun Z hZ => ?_
  refine Yc fun N2 hN2 => ?_
  simp (maxSteps := 2000000) only [s102, ↓Za, ↓Zj, ↓Zr, ↓Ze, ↓Zl, ↓Zs, ↓Zf, ↓Zm, ↓Zg, ↓Zb, ↓Zc, ↓vdn, vup, Zk, Zo, Zn, Zi, Zh, List.map_cons, List.map_nil, cond_true, cond_false, aop, Zv, Zq, Zp, ev, sput, Zt, Zy, Ya, unK, Zd, Zw, Nat.reduceBEq, Nat.reduceAdd, Int.reduceBEq, Int.reduceBNe, Int.reduceLT, Zu, Zz, tup, tyf, hv.len]
  refine hN2 [(0, v), (1, Yb (s : Nat)), (2, .bool f), (6, .bool false), (9, v), (10, Yb o.length), (11, .int .i64 0)] _ _ ?_ (by simp (maxSteps := 2000000) only [↓Za, ↓Zj, ↓Zr, ↓Ze, ↓Zl, ↓Zs, ↓Zf, ↓Zm, ↓Zg, ↓Zb, ↓Zc, ↓vdn, vup, Zk, Zo, Zn, Zi, Zh, List.map_cons, List.map_nil, cond_true, cond_false, aop, Zv, Zq, Zp, ev, sput, Zt, Zy, Ya, unK, Zd, Zw, Nat.reduceBEq, Nat.reduceAdd, Int.reduceBEq, Int.reduceBNe, Int.reduceLT, Zu, Zz, tup, tyf])
  clear hN2
  try clear N2
  refine Yp ?_
  refine Yo fun Q hQ => ?_
  refine Wm (γ := Nat) (fun i => i ≤ o.length ∧ ∀ a b, a < i → b < a → uniP o s f a b = true) (fun i => ([(0, v), (1, Yb (s : Nat)), (2, .bool f), (6, .bool false), (9, v), (10, Yb o.length), (11, Yb (i : Nat))], h)) (fun i => o.length - i) 0 ⟨Nat.zero_le _, fun a b ha => absurd ha (Nat.not_lt_zero a)⟩ (by simp (maxSteps := 2000000) only [↓Za, ↓Zj, ↓Zr, ↓Ze, ↓Zl, ↓Zs, ↓Zf, ↓Zm, ↓Zg, ↓Zb, ↓Zc, ↓vdn, vup, Zk, Zo, Zn, Zi, Zh, List.map_cons, List.map_nil, cond_true, cond_false, aop, Zv, Zq, Zp, ev, sput, Zt, Zy, Ya, unK, Zd, Zw, Nat.reduceBEq, Nat.reduceAdd, Int.reduceBEq, Int.reduceBNe, Int.reduceLT, Zu, Zz, tup, tyf, Int.natCast_zero]) rfl ?_
  rintro i ⟨hi, hall⟩
  refine Yo fun Q2 hQ2 => ?_
  simp only [l102_1]
  by_cases hin : (i : Int) < o.length
  · have hi' : i < o.length := by omega
    have ret0 : uni o s f = false → ∀ e G, G = h → sget e 6 = .bool false → Q2 .ret e G := by
      intro hf e G hG he
      refine hQ2 _ _ _ (hQ _ _ _ ?_)
      simp (maxSteps := 2000000) only [s102, ↓Za, ↓Zj, ↓Zr, ↓Ze, ↓Zl, ↓Zs, ↓Zf, ↓Zm, ↓Zg, ↓Zb, ↓Zc, ↓vdn, vup, Zk, Zo, Zn, Zi, Zh, List.map_cons, List.map_nil, cond_true, cond_false, aop, Zv, Zq, Zp, ev, sput, Zt, Zy, Ya, unK, Zd, Zw, Nat.reduceBEq, Nat.reduceAdd, Int.reduceBEq, Int.reduceBNe, Int.reduceLT, Zu, Zz, tup, tyf, he, hf]
      exact hG
    refine Yc fun N3 hN3 => ?_
    simp (maxSteps := 2000000) only [s102, ↓Za, ↓Zj, ↓Zr, ↓Ze, ↓Zl, ↓Zs, ↓Zf, ↓Zm, ↓Zg, ↓Zb, ↓Zc, ↓vdn, vup, Zk, Zo, Zn, Zi, Zh, List.map_cons, List.map_nil, cond_true, cond_false, aop, Zv, Zq, Zp, ev, sput, Zt, Zy, Ya, unK, Zd, Zw, Nat.reduceBEq, Nat.reduceAdd, Int.reduceBEq, Int.reduceBNe, Int.reduceLT, Zu, Zz, tup, tyf, hin]
    refine hN3 [(0, v), (1, Yb (s : Nat)), (2, .bool f), (6, .bool false), (9, v), (10, Yb o.length), (11, Yb (i : Nat)), (12, .bool true)] _ _ ?_ (by simp (maxSteps := 2000000) only [↓Za, ↓Zj, ↓Zr, ↓Ze, ↓Zl, ↓Zs, ↓Zf, ↓Zm, ↓Zg, ↓Zb, ↓Zc, ↓vdn, vup, Zk, Zo, Zn, Zi, Zh, List.map_cons, List.map_nil, cond_true, cond_false, aop, Zv, Zq, Zp, ev, sput, Zt, Zy, Ya, unK, Zd, Zw, Nat.reduceBEq, Nat.reduceAdd, Int.reduceBEq, Int.reduceBNe, Int.reduceLT, Zu, Zz, tup, tyf])
    clear hN3
    try clear N3
    refine Yc fun N4 hN4 => ?_
    simp (maxSteps := 2000000) only [s102, ↓Za, ↓Zj, ↓Zr, ↓Ze, ↓Zl, ↓Zs, ↓Zf, ↓Zm, ↓Zg, ↓Zb, ↓Zc, ↓vdn, vup, Zk, Zo, Zn, Zi, Zh, List.map_cons, List.map_nil, cond_true, cond_false, aop, Zv, Zq, Zp, ev, sput, Zt, Zy, Ya, unK, Zd, Zw, Nat.reduceBEq, Nat.reduceAdd, Int.reduceBEq, Int.reduceBNe, Int.reduceLT, Zu, Zz, tup, tyf]
    refine hN4 [(0, v), (1, Yb (s : Nat)), (2, .bool f), (6, .bool false), (9, v), (10, Yb o.length), (11, Yb (i : Nat))] _ _ ?_ (by simp (maxSteps := 2000000) only [↓Za, ↓Zj, ↓Zr, ↓Ze, ↓Zl, ↓Zs, ↓Zf, ↓Zm, ↓Zg, ↓Zb, ↓Zc, ↓vdn, vup, Zk, Zo, Zn, Zi, Zh, List.map_cons, List.map_nil, cond_true, cond_false, aop, Zv, Zq, Zp, ev, sput, Zt, Zy, Ya, unK, Zd, Zw, Nat.reduceBEq, Nat.reduceAdd, Int.reduceBEq, Int.reduceBNe, Int.reduceLT, Zu, Zz, tup, tyf])
    clear hN4
    try clear N4
    refine Yu fun B hB => ?_
    refine Yp ?_
    refine Yc fun N5 hN5 => ?_
    simp (maxSteps := 2000000) only [s102, ↓Za, ↓Zj, ↓Zr, ↓Ze, ↓Zl, ↓Zs, ↓Zf, ↓Zm, ↓Zg, ↓Zb, ↓Zc, ↓vdn, vup, Zk, Zo, Zn, Zi, Zh, List.map_cons, List.map_nil, cond_true, cond_false, aop, Zv, Zq, Zp, ev, sput, Zt, Zy, Ya, unK, Zd, Zw, Nat.reduceBEq, Nat.reduceAdd, Int.reduceBEq, Int.reduceBNe, Int.reduceLT, Zu, Zz, tup, tyf]
    refine hN5 [(0, v), (1, Yb (s : Nat)), (2, .bool f), (6, .bool false), (7, Yb (i : Nat)), (9, v), (10, Yb o.length), (11, Yb (i : Nat))] _ _ ?_ (by simp (maxSteps := 2000000) only [↓Za, ↓Zj, ↓Zr, ↓Ze, ↓Zl, ↓Zs, ↓Zf, ↓Zm, ↓Zg, ↓Zb, ↓Zc, ↓vdn, vup, Zk, Zo, Zn, Zi, Zh, List.map_cons, List.map_nil, cond_true, cond_false, aop, Zv, Zq, Zp, ev, sput, Zt, Zy, Ya, unK, Zd, Zw, Nat.reduceBEq, Nat.reduceAdd, Int.reduceBEq, Int.reduceBNe, Int.reduceLT, Zu, Zz, tup, tyf])
    clear hN5
    try clear N5
    refine Yc fun N6 hN6 => ?_
    simp (maxSteps := 2000000) only [s102, ↓Za, ↓Zj, ↓Zr, ↓Ze, ↓Zl, ↓Zs, ↓Zf, ↓Zm, ↓Zg, ↓Zb, ↓Zc, ↓vdn, vup, Zk, Zo, Zn, Zi, Zh, List.map_cons, List.map_nil, cond_true, cond_false, aop, Zv, Zq, Zp, ev, sput, Zt, Zy, Ya, unK, Zd, Zw, Nat.reduceBEq, Nat.reduceAdd, Int.reduceBEq, Int.reduceBNe, Int.reduceLT, Zu, Zz, tup, tyf]
    refine hN6 [(0, v), (1, Yb (s : Nat)), (2, .bool f), (6, .bool false), (7, Yb (i : Nat)), (9, v), (10, Yb o.length), (11, Yb (i : Nat)), (14, Yb (i : Nat)), (15, .int .i64 0)] _ _ ?_ (by simp (maxSteps := 2000000) only [↓Za, ↓Zj, ↓Zr, ↓Ze, ↓Zl, ↓Zs, ↓Zf, ↓Zm, ↓Zg, ↓Zb, ↓Zc, ↓vdn, vup, Zk, Zo, Zn, Zi, Zh, List.map_cons, List.map_nil, cond_true, cond_false, aop, Zv, Zq, Zp, ev, sput, Zt, Zy, Ya, unK, Zd, Zw, Nat.reduceBEq, Nat.reduceAdd, Int.reduceBEq, Int.reduceBNe, Int.reduceLT, Zu, Zz, tup, tyf])
    clear hN6
    try clear N6
    refine Yp ?_
    refine Yo fun Qa hQa => ?_
    refine Wm (γ := Nat) (fun j => j ≤ i ∧ ∀ b, b < j → uniP o s f i b = true) (fun j => ([(0, v), (1, Yb (s : Nat)), (2, .bool f), (6, .bool false), (7, Yb (i : Nat)), (9, v), (10, Yb o.length), (11, Yb (i : Nat)), (14, Yb (i : Nat)), (15, Yb (j : Nat))], h)) (fun j => i - j) 0 ⟨Nat.zero_le _, fun b hb => absurd hb (Nat.not_lt_zero b)⟩ (by simp (maxSteps := 2000000) only [↓Za, ↓Zj, ↓Zr, ↓Ze, ↓Zl, ↓Zs, ↓Zf, ↓Zm, ↓Zg, ↓Zb, ↓Zc, ↓vdn, vup, Zk, Zo, Zn, Zi, Zh, List.map_cons, List.map_nil, cond_true, cond_false, aop, Zv, Zq, Zp, ev, sput, Zt, Zy, Ya, unK, Zd, Zw, Nat.reduceBEq, Nat.reduceAdd, Int.reduceBEq, Int.reduceBNe, Int.reduceLT, Zu, Zz, tup, tyf, Int.natCast_zero]) rfl ?_
    rintro j ⟨hj, hjall⟩
    refine Yo fun Qb hQb => ?_
    simp only [l102_0]
    by_cases hjin : (j : Int) < i
    · have hj' : j < i := by omega
      have t1 := testV (a := s) (y := i) (by omega)
      have t2 := testV (a := s) (y := j) (by omega)
      have rf := rfree_call hv ho (i := i) (j := j) hi' (by omega)
      refine Yc fun N7 hN7 => ?_
      simp (maxSteps := 2000000) only [s102, ↓Za, ↓Zj, ↓Zr, ↓Ze, ↓Zl, ↓Zs, ↓Zf, ↓Zm, ↓Zg, ↓Zb, ↓Zc, ↓vdn, vup, Zk, Zo, Zn, Zi, Zh, List.map_cons, List.map_nil, cond_true, cond_false, aop, Zv, Zq, Zp, ev, sput, Zt, Zy, Ya, unK, Zd, Zw, Nat.reduceBEq, Nat.reduceAdd, Int.reduceBEq, Int.reduceBNe, Int.reduceLT, Zu, Zz, tup, tyf, hjin]
      refine hN7 [(0, v), (1, Yb (s : Nat)), (2, .bool f), (6, .bool false), (7, Yb (i : Nat)), (9, v), (10, Yb o.length), (11, Yb (i : Nat)), (14, Yb (i : Nat)), (15, Yb (j : Nat)), (16, .bool true)] _ _ ?_ (by simp (maxSteps := 2000000) only [↓Za, ↓Zj, ↓Zr, ↓Ze, ↓Zl, ↓Zs, ↓Zf, ↓Zm, ↓Zg, ↓Zb, ↓Zc, ↓vdn, vup, Zk, Zo, Zn, Zi, Zh, List.map_cons, List.map_nil, cond_true, cond_false, aop, Zv, Zq, Zp, ev, sput, Zt, Zy, Ya, unK, Zd, Zw, Nat.reduceBEq, Nat.reduceAdd, Int.reduceBEq, Int.reduceBNe, Int.reduceLT, Zu, Zz, tup, tyf])
      clear hN7
      try clear N7
      refine Yc fun N8 hN8 => ?_
      simp (maxSteps := 2000000) only [s102, ↓Za, ↓Zj, ↓Zr, ↓Ze, ↓Zl, ↓Zs, ↓Zf, ↓Zm, ↓Zg, ↓Zb, ↓Zc, ↓vdn, vup, Zk, Zo, Zn, Zi, Zh, List.map_cons, List.map_nil, cond_true, cond_false, aop, Zv, Zq, Zp, ev, sput, Zt, Zy, Ya, unK, Zd, Zw, Nat.reduceBEq, Nat.reduceAdd, Int.reduceBEq, Int.reduceBNe, Int.reduceLT, Zu, Zz, tup, tyf]
      refine hN8 [(0, v), (1, Yb (s : Nat)), (2, .bool f), (6, .bool false), (7, Yb (i : Nat)), (9, v), (10, Yb o.length), (11, Yb (i : Nat)), (14, Yb (i : Nat)), (15, Yb (j : Nat))] _ _ ?_ (by simp (maxSteps := 2000000) only [↓Za, ↓Zj, ↓Zr, ↓Ze, ↓Zl, ↓Zs, ↓Zf, ↓Zm, ↓Zg, ↓Zb, ↓Zc, ↓vdn, vup, Zk, Zo, Zn, Zi, Zh, List.map_cons, List.map_nil, cond_true, cond_false, aop, Zv, Zq, Zp, ev, sput, Zt, Zy, Ya, unK, Zd, Zw, Nat.reduceBEq, Nat.reduceAdd, Int.reduceBEq, Int.reduceBNe, Int.reduceLT, Zu, Zz, tup, tyf])
      clear hN8
      try clear N8
      refine Yu fun D hD => ?_
      refine Yp ?_
      refine Yc fun N9 hN9 => ?_
      simp (maxSteps := 2000000) only [s102, ↓Za, ↓Zj, ↓Zr, ↓Ze, ↓Zl, ↓Zs, ↓Zf, ↓Zm, ↓Zg, ↓Zb, ↓Zc, ↓vdn, vup, Zk, Zo, Zn, Zi, Zh, List.map_cons, List.map_nil, cond_true, cond_false, aop, Zv, Zq, Zp, ev, sput, Zt, Zy, Ya, unK, Zd, Zw, Nat.reduceBEq, Nat.reduceAdd, Int.reduceBEq, Int.reduceBNe, Int.reduceLT, Zu, Zz, tup, tyf]
      refine hN9 [(0, v), (1, Yb (s : Nat)), (2, .bool f), (6, .bool false), (7, Yb (i : Nat)), (8, Yb (j : Nat)), (9, v), (10, Yb o.length), (11, Yb (i : Nat)), (14, Yb (i : Nat)), (15, Yb (j : Nat))] _ _ ?_ (by simp (maxSteps := 2000000) only [↓Za, ↓Zj, ↓Zr, ↓Ze, ↓Zl, ↓Zs, ↓Zf, ↓Zm, ↓Zg, ↓Zb, ↓Zc, ↓vdn, vup, Zk, Zo, Zn, Zi, Zh, List.map_cons, List.map_nil, cond_true, cond_false, aop, Zv, Zq, Zp, ev, sput, Zt, Zy, Ya, unK, Zd, Zw, Nat.reduceBEq, Nat.reduceAdd, Int.reduceBEq, Int.reduceBNe, Int.reduceLT, Zu, Zz, tup, tyf])
      clear hN9
      try clear N9
      have goOn : uniP o s f i j = true → ∀ e, ELe e [(0, v), (1, Yb (s : Nat)), (2, .bool f), (6, .bool false), (7, Yb (i : Nat)), (9, v), (10, Yb o.length), (11, Yb (i : Nat)), (14, Yb (i : Nat)), (15, Yb (j : Nat))] → D e h := by
        intro hu e he
        refine hD _ _ _ ?_ he
        refine Yj ?_
        simp (maxSteps := 2000000) only [s102, ↓Za, ↓Zj, ↓Zr, ↓Ze, ↓Zl, ↓Zs, ↓Zf, ↓Zm, ↓Zg, ↓Zb, ↓Zc, ↓vdn, vup, Zk, Zo, Zn, Zi, Zh, List.map_cons, List.map_nil, cond_true, cond_false, aop, Zv, Zq, Zp, ev, sput, Zt, Zy, Ya, unK, Zd, Zw, Nat.reduceBEq, Nat.reduceAdd, Int.reduceBEq, Int.reduceBNe, Int.reduceLT, Zu, Zz, tup, tyf, add1 (show j < 9223372036854775807 by omega)]
        refine hQb _ _ _ ⟨j + 1, ⟨hj', fun b hb => ?_⟩, by omega, by simp (maxSteps := 2000000) only [↓Za, ↓Zj, ↓Zr, ↓Ze, ↓Zl, ↓Zs, ↓Zf, ↓Zm, ↓Zg, ↓Zb, ↓Zc, ↓vdn, vup, Zk, Zo, Zn, Zi, Zh, List.map_cons, List.map_nil, cond_true, cond_false, aop, Zv, Zq, Zp, ev, sput, Zt, Zy, Ya, unK, Zd, Zw, Nat.reduceBEq, Nat.reduceAdd, Int.reduceBEq, Int.reduceBNe, Int.reduceLT, Zu, Zz, tup, tyf], rfl⟩
        by_cases hbj : b = j
        · rw [hbj]; exact hu
        · exact hjall b (by omega)
      refine Yc fun N10 hN10 => ?_
      simp only [q102_7]
      cases hb1 : s.testBit i with
      | false =>
        simp (maxSteps := 2000000) only [s102, ↓Za, ↓Zj, ↓Zr, ↓Ze, ↓Zl, ↓Zs, ↓Zf, ↓Zm, ↓Zg, ↓Zb, ↓Zc, ↓vdn, vup, Zk, Zo, Zn, Zi, Zh, List.map_cons, List.map_nil, cond_true, cond_false, aop, Zv, Zq, Zp, ev, sput, Zt, Zy, Ya, unK, Zd, Zw, Nat.reduceBEq, Nat.reduceAdd, Int.reduceBEq, Int.reduceBNe, Int.reduceLT, Zu, Zz, tup, tyf, t1, hb1, beq1, Bool.false_eq_true, if_false, Int.natCast_nonneg]
        refine hN10 [(0, v), (1, Yb (s : Nat)), (2, .bool f), (6, .bool false), (7, Yb (i : Nat)), (8, Yb (j : Nat)), (9, v), (10, Yb o.length), (11, Yb (i : Nat)), (14, Yb (i : Nat)), (15, Yb (j : Nat)), (37, .bool false)] _ _ ?_ (by simp (maxSteps := 2000000) only [↓Za, ↓Zj, ↓Zr, ↓Ze, ↓Zl, ↓Zs, ↓Zf, ↓Zm, ↓Zg, ↓Zb, ↓Zc, ↓vdn, vup, Zk, Zo, Zn, Zi, Zh, List.map_cons, List.map_nil, cond_true, cond_false, aop, Zv, Zq, Zp, ev, sput, Zt, Zy, Ya, unK, Zd, Zw, Nat.reduceBEq, Nat.reduceAdd, Int.reduceBEq, Int.reduceBNe, Int.reduceLT, Zu, Zz, tup, tyf])
        clear hN10
        try clear N10
        refine Xf rfl ?_
        refine Yj ?_
        simp (maxSteps := 2000000) only [s102, ↓Za, ↓Zj, ↓Zr, ↓Ze, ↓Zl, ↓Zs, ↓Zf, ↓Zm, ↓Zg, ↓Zb, ↓Zc, ↓vdn, vup, Zk, Zo, Zn, Zi, Zh, List.map_cons, List.map_nil, cond_true, cond_false, aop, Zv, Zq, Zp, ev, sput, Zt, Zy, Ya, unK, Zd, Zw, Nat.reduceBEq, Nat.reduceAdd, Int.reduceBEq, Int.reduceBNe, Int.reduceLT, Zu, Zz, tup, tyf]
        exact goOn (by simp [uniP, hb1]) _ (by simp (maxSteps := 2000000) only [↓Za, ↓Zj, ↓Zr, ↓Ze, ↓Zl, ↓Zs, ↓Zf, ↓Zm, ↓Zg, ↓Zb, ↓Zc, ↓vdn, vup, Zk, Zo, Zn, Zi, Zh, List.map_cons, List.map_nil, cond_true, cond_false, aop, Zv, Zq, Zp, ev, sput, Zt, Zy, Ya, unK, Zd, Zw, Nat.reduceBEq, Nat.reduceAdd, Int.reduceBEq, Int.reduceBNe, Int.reduceLT, Zu, Zz, tup, tyf])
      | true =>
        cases hb2 : s.testBit j with
        | false =>
          simp (maxSteps := 2000000) only [s102, ↓Za, ↓Zj, ↓Zr, ↓Ze, ↓Zl, ↓Zs, ↓Zf, ↓Zm, ↓Zg, ↓Zb, ↓Zc, ↓vdn, vup, Zk, Zo, Zn, Zi, Zh, List.map_cons, List.map_nil, cond_true, cond_false, aop, Zv, Zq, Zp, ev, sput, Zt, Zy, Ya, unK, Zd, Zw, Nat.reduceBEq, Nat.reduceAdd, Int.reduceBEq, Int.reduceBNe, Int.reduceLT, Zu, Zz, tup, tyf, t1, t2, hb1, hb2, beq1, Bool.false_eq_true, if_false, if_true, Int.natCast_nonneg]
          refine hN10 [(0, v), (1, Yb (s : Nat)), (2, .bool f), (6, .bool false), (7, Yb (i : Nat)), (8, Yb (j : Nat)), (9, v), (10, Yb o.length), (11, Yb (i : Nat)), (14, Yb (i : Nat)), (15, Yb (j : Nat)), (37, .bool false)] _ _ ?_ (by simp (maxSteps := 2000000) only [↓Za, ↓Zj, ↓Zr, ↓Ze, ↓Zl, ↓Zs, ↓Zf, ↓Zm, ↓Zg, ↓Zb, ↓Zc, ↓vdn, vup, Zk, Zo, Zn, Zi, Zh, List.map_cons, List.map_nil, cond_true, cond_false, aop, Zv, Zq, Zp, ev, sput, Zt, Zy, Ya, unK, Zd, Zw, Nat.reduceBEq, Nat.reduceAdd, Int.reduceBEq, Int.reduceBNe, Int.reduceLT, Zu, Zz, tup, tyf])
          clear hN10
          try clear N10
          refine Xf rfl ?_
          refine Yj ?_
          simp (maxSteps := 2000000) only [s102, ↓Za, ↓Zj, ↓Zr, ↓Ze, ↓Zl, ↓Zs, ↓Zf, ↓Zm, ↓Zg, ↓Zb, ↓Zc, ↓vdn, vup, Zk, Zo, Zn, Zi, Zh, List.map_cons, List.map_nil, cond_true, cond_false, aop, Zv, Zq, Zp, ev, sput, Zt, Zy, Ya, unK, Zd, Zw, Nat.reduceBEq, Nat.reduceAdd, Int.reduceBEq, Int.reduceBNe, Int.reduceLT, Zu, Zz, tup, tyf]
          exact goOn (by simp [uniP, hb2]) _ (by simp (maxSteps := 2000000) only [↓Za, ↓Zj, ↓Zr, ↓Ze, ↓Zl, ↓Zs, ↓Zf, ↓Zm, ↓Zg, ↓Zb, ↓Zc, ↓vdn, vup, Zk, Zo, Zn, Zi, Zh, List.map_cons, List.map_nil, cond_true, cond_false, aop, Zv, Zq, Zp, ev, sput, Zt, Zy, Ya, unK, Zd, Zw, Nat.reduceBEq, Nat.reduceAdd, Int.reduceBEq, Int.reduceBNe, Int.reduceLT, Zu, Zz, tup, tyf])
        | true =>
          refine Wl 12 fun N1 hN1 => ?_
          simp (maxSteps := 2000000) only [s102, ↓Za, ↓Zj, ↓Zr, ↓Ze, ↓Zl, ↓Zs, ↓Zf, ↓Zm, ↓Zg, ↓Zb, ↓Zc, ↓vdn, vup, Zk, Zo, Zn, Zi, Zh, List.map_cons, List.map_nil, cond_true, cond_false, aop, Zv, Zq, Zp, ev, sput, Zt, Zy, Ya, unK, Zd, Zw, Nat.reduceBEq, Nat.reduceAdd, Int.reduceBEq, Int.reduceBNe, Int.reduceLT, Zu, Zz, tup, tyf, List.take_succ_cons, List.take_zero, t1, t2, hb1, hb2, beq1, if_true, Int.natCast_nonneg]
          refine hN1 _ _ ?_
          clear hN1 N1
          simp only [List.drop_succ_cons, List.drop_zero]
          simp (maxSteps := 2000000) only [s102, ↓Za, ↓Zj, ↓Zr, ↓Ze, ↓Zl, ↓Zs, ↓Zf, ↓Zm, ↓Zg, ↓Zb, ↓Zc, ↓vdn, vup, Zk, Zo, Zn, Zi, Zh, List.map_cons, List.map_nil, cond_true, cond_false, aop, Zv, Zq, Zp, ev, sput, Zt, Zy, Ya, unK, Zd, Zw, Nat.reduceBEq, Nat.reduceAdd, Int.reduceBEq, Int.reduceBNe, Int.reduceLT, Zu, Zz, tup, tyf, Yr, List.nil_append, List.append_nil, List.toList_toArray, List.cons_append]
          refine (rf).mono ?_
          rintro _ h ⟨rfl, rfl⟩
          simp (maxSteps := 2000000) only [s102, ↓Za, ↓Zj, ↓Zr, ↓Ze, ↓Zl, ↓Zs, ↓Zf, ↓Zm, ↓Zg, ↓Zb, ↓Zc, ↓vdn, vup, Zk, Zo, Zn, Zi, Zh, List.map_cons, List.map_nil, cond_true, cond_false, aop, Zv, Zq, Zp, ev, sput, Zt, Zy, Ya, unK, Zd, Zw, Nat.reduceBEq, Nat.reduceAdd, Int.reduceBEq, Int.reduceBNe, Int.reduceLT, Zu, Zz, tup, tyf]
          refine hN10 [(0, v), (1, Yb (s : Nat)), (2, .bool f), (6, .bool false), (7, Yb (i : Nat)), (8, Yb (j : Nat)), (9, v), (10, Yb o.length), (11, Yb (i : Nat)), (14, Yb (i : Nat)), (15, Yb (j : Nat)), (37, .bool (fr o i j != f))] _ _ ?_ (by simp (maxSteps := 2000000) only [↓Za, ↓Zj, ↓Zr, ↓Ze, ↓Zl, ↓Zs, ↓Zf, ↓Zm, ↓Zg, ↓Zb, ↓Zc, ↓vdn, vup, Zk, Zo, Zn, Zi, Zh, List.map_cons, List.map_nil, cond_true, cond_false, aop, Zv, Zq, Zp, ev, sput, Zt, Zy, Ya, unK, Zd, Zw, Nat.reduceBEq, Nat.reduceAdd, Int.reduceBEq, Int.reduceBNe, Int.reduceLT, Zu, Zz, tup, tyf])
          clear hN10
          try clear N10
          cases hb3 : (fr o i j != f) with
          | false =>
            refine Xf rfl ?_
            refine Yj ?_
            simp (maxSteps := 2000000) only [s102, ↓Za, ↓Zj, ↓Zr, ↓Ze, ↓Zl, ↓Zs, ↓Zf, ↓Zm, ↓Zg, ↓Zb, ↓Zc, ↓vdn, vup, Zk, Zo, Zn, Zi, Zh, List.map_cons, List.map_nil, cond_true, cond_false, aop, Zv, Zq, Zp, ev, sput, Zt, Zy, Ya, unK, Zd, Zw, Nat.reduceBEq, Nat.reduceAdd, Int.reduceBEq, Int.reduceBNe, Int.reduceLT, Zu, Zz, tup, tyf]
            exact goOn (by simp [uniP, hb1, hb2, hb3]) _ (by simp (maxSteps := 2000000) only [↓Za, ↓Zj, ↓Zr, ↓Ze, ↓Zl, ↓Zs, ↓Zf, ↓Zm, ↓Zg, ↓Zb, ↓Zc, ↓vdn, vup, Zk, Zo, Zn, Zi, Zh, List.map_cons, List.map_nil, cond_true, cond_false, aop, Zv, Zq, Zp, ev, sput, Zt, Zy, Ya, unK, Zd, Zw, Nat.reduceBEq, Nat.reduceAdd, Int.reduceBEq, Int.reduceBNe, Int.reduceLT, Zu, Zz, tup, tyf])
          | true =>
            refine Ws rfl ?_
            refine Yj ?_
            simp (maxSteps := 2000000) only [s102, ↓Za, ↓Zj, ↓Zr, ↓Ze, ↓Zl, ↓Zs, ↓Zf, ↓Zm, ↓Zg, ↓Zb, ↓Zc, ↓vdn, vup, Zk, Zo, Zn, Zi, Zh, List.map_cons, List.map_nil, cond_true, cond_false, aop, Zv, Zq, Zp, ev, sput, Zt, Zy, Ya, unK, Zd, Zw, Nat.reduceBEq, Nat.reduceAdd, Int.reduceBEq, Int.reduceBNe, Int.reduceLT, Zu, Zz, tup, tyf]
            refine hQb _ _ _ (hQa _ _ _ ?_)
            simp (maxSteps := 2000000) only [s102, ↓Za, ↓Zj, ↓Zr, ↓Ze, ↓Zl, ↓Zs, ↓Zf, ↓Zm, ↓Zg, ↓Zb, ↓Zc, ↓vdn, vup, Zk, Zo, Zn, Zi, Zh, List.map_cons, List.map_nil, cond_true, cond_false, aop, Zv, Zq, Zp, ev, sput, Zt, Zy, Ya, unK, Zd, Zw, Nat.reduceBEq, Nat.reduceAdd, Int.reduceBEq, Int.reduceBNe, Int.reduceLT, Zu, Zz, tup, tyf]
            exact ret0 (uni_false hi' hj' (by simp [uniP, hb1, hb2, hb3])) _ _ rfl rfl
    · obtain rfl : i = j := by omega
      refine Yc fun N11 hN11 => ?_
      simp (maxSteps := 2000000) only [s102, ↓Za, ↓Zj, ↓Zr, ↓Ze, ↓Zl, ↓Zs, ↓Zf, ↓Zm, ↓Zg, ↓Zb, ↓Zc, ↓vdn, vup, Zk, Zo, Zn, Zi, Zh, List.map_cons, List.map_nil, cond_true, cond_false, aop, Zv, Zq, Zp, ev, sput, Zt, Zy, Ya, unK, Zd, Zw, Nat.reduceBEq, Nat.reduceAdd, Int.reduceBEq, Int.reduceBNe, Int.reduceLT, Zu, Zz, tup, tyf, hjin]
      refine hN11 [(0, v), (1, Yb (s : Nat)), (2, .bool f), (6, .bool false), (7, Yb (i : Nat)), (9, v), (10, Yb o.length), (11, Yb (i : Nat)), (14, Yb (i : Nat)), (15, Yb (i : Nat)), (16, .bool false)] _ _ ?_ (by simp (maxSteps := 2000000) only [↓Za, ↓Zj, ↓Zr, ↓Ze, ↓Zl, ↓Zs, ↓Zf, ↓Zm, ↓Zg, ↓Zb, ↓Zc, ↓vdn, vup, Zk, Zo, Zn, Zi, Zh, List.map_cons, List.map_nil, cond_true, cond_false, aop, Zv, Zq, Zp, ev, sput, Zt, Zy, Ya, unK, Zd, Zw, Nat.reduceBEq, Nat.reduceAdd, Int.reduceBEq, Int.reduceBNe, Int.reduceLT, Zu, Zz, tup, tyf])
      clear hN11
      try clear N11
      refine Yc fun N12 hN12 => ?_
      simp (maxSteps := 2000000) only [s102, ↓Za, ↓Zj, ↓Zr, ↓Ze, ↓Zl, ↓Zs, ↓Zf, ↓Zm, ↓Zg, ↓Zb, ↓Zc, ↓vdn, vup, Zk, Zo, Zn, Zi, Zh, List.map_cons, List.map_nil, cond_true, cond_false, aop, Zv, Zq, Zp, ev, sput, Zt, Zy, Ya, unK, Zd, Zw, Nat.reduceBEq, Nat.reduceAdd, Int.reduceBEq, Int.reduceBNe, Int.reduceLT, Zu, Zz, tup, tyf]
      refine hQb _ _ _ (hQa _ _ _ ?_)
      simp (maxSteps := 2000000) only [s102, ↓Za, ↓Zj, ↓Zr, ↓Ze, ↓Zl, ↓Zs, ↓Zf, ↓Zm, ↓Zg, ↓Zb, ↓Zc, ↓vdn, vup, Zk, Zo, Zn, Zi, Zh, List.map_cons, List.map_nil, cond_true, cond_false, aop, Zv, Zq, Zp, ev, sput, Zt, Zy, Ya, unK, Zd, Zw, Nat.reduceBEq, Nat.reduceAdd, Int.reduceBEq, Int.reduceBNe, Int.reduceLT, Zu, Zz, tup, tyf, if_true]
      refine hB [(0, v), (1, Yb (s : Nat)), (2, .bool f), (6, .bool false), (9, v), (10, Yb o.length), (11, Yb (i : Nat))] _ _ ?_ (by simp (maxSteps := 2000000) only [↓Za, ↓Zj, ↓Zr, ↓Ze, ↓Zl, ↓Zs, ↓Zf, ↓Zm, ↓Zg, ↓Zb, ↓Zc, ↓vdn, vup, Zk, Zo, Zn, Zi, Zh, List.map_cons, List.map_nil, cond_true, cond_false, aop, Zv, Zq, Zp, ev, sput, Zt, Zy, Ya, unK, Zd, Zw, Nat.reduceBEq, Nat.reduceAdd, Int.reduceBEq, Int.reduceBNe, Int.reduceLT, Zu, Zz, tup, tyf])
      clear hB
      try clear B
      refine Yj ?_
      simp (maxSteps := 2000000) only [s102, ↓Za, ↓Zj, ↓Zr, ↓Ze, ↓Zl, ↓Zs, ↓Zf, ↓Zm, ↓Zg, ↓Zb, ↓Zc, ↓vdn, vup, Zk, Zo, Zn, Zi, Zh, List.map_cons, List.map_nil, cond_true, cond_false, aop, Zv, Zq, Zp, ev, sput, Zt, Zy, Ya, unK, Zd, Zw, Nat.reduceBEq, Nat.reduceAdd, Int.reduceBEq, Int.reduceBNe, Int.reduceLT, Zu, Zz, tup, tyf, add1 (show i < 9223372036854775807 by omega)]
      refine hQ2 _ _ _ ⟨i + 1, ⟨hi', fun a b ha hb => ?_⟩, by omega, by simp (maxSteps := 2000000) only [↓Za, ↓Zj, ↓Zr, ↓Ze, ↓Zl, ↓Zs, ↓Zf, ↓Zm, ↓Zg, ↓Zb, ↓Zc, ↓vdn, vup, Zk, Zo, Zn, Zi, Zh, List.map_cons, List.map_nil, cond_true, cond_false, aop, Zv, Zq, Zp, ev, sput, Zt, Zy, Ya, unK, Zd, Zw, Nat.reduceBEq, Nat.reduceAdd, Int.reduceBEq, Int.reduceBNe, Int.reduceLT, Zu, Zz, tup, tyf], rfl⟩
      by_cases hai : a = i
      · rw [hai] at hb ⊢; exact hjall b hb
      · exact hall a b (by omega) hb
  · obtain rfl : i = o.length := by omega
    refine Yc fun N13 hN13 => ?_
    simp (maxSteps := 2000000) only [s102, ↓Za, ↓Zj, ↓Zr, ↓Ze, ↓Zl, ↓Zs, ↓Zf, ↓Zm, ↓Zg, ↓Zb, ↓Zc, ↓vdn, vup, Zk, Zo, Zn, Zi, Zh, List.map_cons, List.map_nil, cond_true, cond_false, aop, Zv, Zq, Zp, ev, sput, Zt, Zy, Ya, unK, Zd, Zw, Nat.reduceBEq, Nat.reduceAdd, Int.reduceBEq, Int.reduceBNe, Int.reduceLT, Zu, Zz, tup, tyf, hin]
    refine hN13 [(0, v), (1, Yb (s : Nat)), (2, .bool f), (6, .bool false), (9, v), (10, Yb o.length), (11, Yb o.length), (12, .bool false)] _ _ ?_ (by simp (maxSteps := 2000000) only [↓Za, ↓Zj, ↓Zr, ↓Ze, ↓Zl, ↓Zs, ↓Zf, ↓Zm, ↓Zg, ↓Zb, ↓Zc, ↓vdn, vup, Zk, Zo, Zn, Zi, Zh, List.map_cons, List.map_nil, cond_true, cond_false, aop, Zv, Zq, Zp, ev, sput, Zt, Zy, Ya, unK, Zd, Zw, Nat.reduceBEq, Nat.reduceAdd, Int.reduceBEq, Int.reduceBNe, Int.reduceLT, Zu, Zz, tup, tyf])
    clear hN13
    try clear N13
    refine Yc fun N14 hN14 => ?_
    simp (maxSteps := 2000000) only [s102, ↓Za, ↓Zj, ↓Zr, ↓Ze, ↓Zl, ↓Zs, ↓Zf, ↓Zm, ↓Zg, ↓Zb, ↓Zc, ↓vdn, vup, Zk, Zo, Zn, Zi, Zh, List.map_cons, List.map_nil, cond_true, cond_false, aop, Zv, Zq, Zp, ev, sput, Zt, Zy, Ya, unK, Zd, Zw, Nat.reduceBEq, Nat.reduceAdd, Int.reduceBEq, Int.reduceBNe, Int.reduceLT, Zu, Zz, tup, tyf]
    refine hQ2 _ _ _ (hQ _ _ _ ?_)
    simp (maxSteps := 2000000) only [s102, ↓Za, ↓Zj, ↓Zr, ↓Ze, ↓Zl, ↓Zs, ↓Zf, ↓Zm, ↓Zg, ↓Zb, ↓Zc, ↓vdn, vup, Zk, Zo, Zn, Zi, Zh, List.map_cons, List.map_nil, cond_true, cond_false, aop, Zv, Zq, Zp, ev, sput, Zt, Zy, Ya, unK, Zd, Zw, Nat.reduceBEq, Nat.reduceAdd, Int.reduceBEq, Int.reduceBNe, Int.reduceLT, Zu, Zz, tup, tyf, if_true]
    refine hZ [(0, v), (1, Yb (s : Nat)), (2, .bool f), (6, .bool false)] _ _ ?_ (by simp (maxSteps := 2000000) only [↓Za, ↓Zj, ↓Zr, ↓Ze, ↓Zl, ↓Zs, ↓Zf, ↓Zm, ↓Zg, ↓Zb, ↓Zc, ↓vdn, vup, Zk, Zo, Zn, Zi, Zh, List.map_cons, List.map_nil, cond_true, cond_false, aop, Zv, Zq, Zp, ev, sput, Zt, Zy, Ya, unK, Zd, Zw, Nat.reduceBEq, Nat.reduceAdd, Int.reduceBEq, Int.reduceBNe, Int.reduceLT, Zu, Zz, tup, tyf])
    clear hZ
    try clear Z
    have hu : uni o s f = true := List.all_eq_true.2 fun a ha => List.all_eq_true.2 fun b hb => hall a b (List.mem_range.1 ha) (List.mem_range.1 hb)
    refine Yj ?_
    simp (maxSteps := 2000000) only [s102, ↓Za, ↓Zj, ↓Zr, ↓Ze, ↓Zl, ↓Zs, ↓Zf, ↓Zm, ↓Zg, ↓Zb, ↓Zc, ↓vdn, vup, Zk, Zo, Zn, Zi, Zh, List.map_cons, List.map_nil, cond_true, cond_false, aop, Zv, Zq, Zp, ev, sput, Zt, Zy, Ya, unK, Zd, Zw, Nat.reduceBEq, Nat.reduceAdd, Int.reduceBEq, Int.reduceBNe, Int.reduceLT, Zu, Zz, tup, tyf, hu]

theorem s59_callW [Tabs Tryd.prog] {args : List Value} {h : Zx} {Q : Value → Zx → Prop} (hsz : args.length ≤ 8) (hk : AWS Tryd.prog 8 s59 (Zu Tryd.prog [.tmp 4] Q) (Zp 0 args) h) : ACall Tryd.prog 59 args h Q :=
  Wa Tryd.func59 rfl (enters_of Tryd.func59 (by kernel_rfl) rfl) rfl rfl (by decide) s59_strip s59_ok hsz hk
theorem ranti_call [Tabs prog] {h : Zx} {v : Value} {o : List Int} {s : Nat} (hv : IntSl h v o) (ho : ord o = true) (hs : s < 2 ^ o.length) : Wv prog 59 [v, Yb (s : Nat)] h (.bool (uni o s true)) := by
  refine s59_callW (by simp) ?_
  refine Yj ?_
  simp (maxSteps := 2000000) only [s59, ↓Za, ↓Zj, ↓Zr, ↓Ze, ↓Zl, ↓Zs, ↓Zf, ↓Zm, ↓Zg, ↓Zb, ↓Zc, ↓vdn, vup, Zk, Zo, Zn, Zi, Zh, List.map_cons, List.map_nil, cond_true, cond_false, aop, Zv, Zq, Zp, ev, sput, Zt, Zy, Ya, unK, Zd, Zw, Nat.reduceBEq, Nat.reduceAdd, Int.reduceBEq, Int.reduceBNe, Int.reduceLT, Zu, Zz, tup, tyf, Yr, List.nil_append, List.append_nil, List.toList_toArray, List.cons_append]
  refine (uniform_call hv ho hs).mono ?_
  rintro _ h ⟨rfl, rfl⟩
  simp (maxSteps := 2000000) only [s59, ↓Za, ↓Zj, ↓Zr, ↓Ze, ↓Zl, ↓Zs, ↓Zf, ↓Zm, ↓Zg, ↓Zb, ↓Zc, ↓vdn, vup, Zk, Zo, Zn, Zi, Zh, List.map_cons, List.map_nil, cond_true, cond_false, aop, Zv, Zq, Zp, ev, sput, Zt, Zy, Ya, unK, Zd, Zw, Nat.reduceBEq, Nat.reduceAdd, Int.reduceBEq, Int.reduceBNe, Int.reduceLT, Zu, Zz, tup, tyf]

/-- The ideals, the first s sets looked at. -/
theorem filter_succ {p : Nat → Bool} (s : Nat) : (List.range (s + 1)).filter p = (List.range s).filter p ++ if p s = true then [s] else [] := by
  rw [List.range_succ, List.filter_append, List.filter_cons]
  cases p s <;> rfl
end Go.Proofs.Tryd.Am

namespace Go.Proofs.Tryd.Am
open Go.Am Ord
set_option maxRecDepth 100000
set_option maxHeartbeats 2000000

theorem dn_lt64 {o : List Int} (ho : ord o = true) (i : Nat) : dn o i < 64 := by
  have := pow6 (Yx ho).2
  have := dn_lt (o := o) (i := i); omega
theorem idl_dn {o : List Int} (ho : ord o = true) {s : Nat} (hs : s < 2 ^ o.length) : idl o s = (Am.bits s).all fun k => decide (Xi (dn o k) s = 0) := by
  have hp := pow6 (Yx ho).2
  rw [Bool.eq_iff_iff, idl_iff, List.all_eq_true]
  simp only [decide_eq_true_eq, Wr, Xg]
  constructor
  · rintro h k ⟨_, hk⟩ j hj
    rw [dn_bit' ho] at hj
    exact h j k (ab_lt ho hj).1 hk hj
  · intro h i j hi hj hij
    exact h j ⟨by have := (ab_lt ho hij).2; have := (Yx ho).2; omega, hj⟩ i (by rw [dn_bit' ho]; exact hij)
theorem ideals1_call [BitTab prog 1] {h : Zx} {bo : Nat} {o : List Int} {s : Nat} (ho : ord o = true) (hs : s < 2 ^ o.length) (hb : h[bo]? = some (.cells (Wx o) 77 false)) : Wv prog 100 [Yb (s : Nat), .pointer (some ⟨bo, 0, none⟩)] h (.bool (idl o s)) := by
  refine ACall.forget (Low.bool _) ?_
  have hl := Yx ho
  have hp := pow6 hl.2
  obtain ⟨H, hH⟩ : ∃ H, H = h ++ [Blk.cells [Yb (s : Nat)] 3 false] ++ [Blk.cells [.bool false] 4 false] := ⟨_, rfl⟩
  have hE : Ext (fun _ => False) h H := by rw [hH, List.append_assoc]; exact Ext.app _ _ _
  have b2 : H[h.length]? = some (Blk.cells [Yb (s : Nat)] 3 false) := by rw [hH]; simp
  have b3 : H[h.length + 1]? = some (.cells [.bool false] 4 false) := by rw [hH]; simp
  have hbH := (hE.2 _ (Yz hb) id).trans hb
  refine s100_call (by simp) ?_
  simp (maxSteps := 2000000) only [s100, ↓Za, ↓Zj, ↓Zr, ↓Ze, ↓Zl, ↓Zs, ↓Zf, ↓Zm, ↓Zg, ↓Zb, ↓Zc, ↓vdn, vup, Zk, Zo, Zn, Zi, Zh, List.map_cons, List.map_nil, cond_true, cond_false, aop, Zv, Zq, Zp, ev, sput, Zt, Zy, Ya, unK, Zd, Zw, Nat.reduceBEq, Nat.reduceAdd, Int.reduceBEq, Int.reduceBNe, Int.reduceLT, Zu, Zz, tup, tyf, boxK, cellsOf, Option.isSome_some, Wk, Wo, zero_4, List.length_append, List.length_singleton]
  rw [← hH]
  simp (maxSteps := 2000000) only [s100, ↓Za, ↓Zj, ↓Zr, ↓Ze, ↓Zl, ↓Zs, ↓Zf, ↓Zm, ↓Zg, ↓Zb, ↓Zc, ↓vdn, vup, Zk, Zo, Zn, Zi, Zh, List.map_cons, List.map_nil, cond_true, cond_false, aop, Zv, Zq, Zp, ev, sput, Zt, Zy, Ya, unK, Zd, Zw, Nat.reduceBEq, Nat.reduceAdd, Int.reduceBEq, Int.reduceBNe, Int.reduceLT, Zu, Zz, tup, tyf, Xn b2 Yq, Yr, List.nil_append, List.append_nil, List.toList_toArray, List.cons_append]
  refine elements_call.mono ?_
  rintro _ _ ⟨rfl, rfl⟩
  refine aw_range bitIter (bx := H.length) (s := s) (et := 3) rfl (Xc _ _) (by omega) (fun pre hk => Ext (fun _ => False) H hk ∧ ∀ k ∈ pre, Xi (dn o k) s = 0) ⟨?_, fun _ hk => by cases hk⟩ ?_ ?_
  · refine ⟨by simp, fun j hj _ => ?_⟩
    rw [List.getElem?_set_ne (by omega), List.getElem?_append_left hj]
  · rintro pre x hk hpre ⟨hEk, hall⟩
    have hxm := mem_pre hpre
    have k2 := (hEk.2 _ (Yz b2) id).trans b2
    have k3 := (hEk.2 _ (Yz b3) id).trans b3
    have kb := (hEk.2 _ (Yz hbH) id).trans hbH
    have hand : Wg .andNot .i64 ((dn o x : Nat) : Int) ((s : Nat) : Int) = ((Xi (dn o x) s : Nat) : Int) := Wp (by have := dn_lt64 ho x; omega) (by omega)
    simp (maxSteps := 2000000) only [s100, ↓Za, ↓Zj, ↓Zr, ↓Ze, ↓Zl, ↓Zs, ↓Zf, ↓Zm, ↓Zg, ↓Zb, ↓Zc, ↓vdn, vup, Zk, Zo, Zn, Zi, Zh, List.map_cons, List.map_nil, cond_true, cond_false, aop, Zv, Zq, Zp, ev, sput, Zt, Zy, Ya, unK, Zd, Zw, Nat.reduceBEq, Nat.reduceAdd, Int.reduceBEq, Int.reduceBNe, Int.reduceLT, Zu, Zz, tup, tyf, r100_0_a, r100_0_b]
    refine Xx [(2, 1)] (by kernel_rfl) (by kernel_rfl) (by kernel_rfl) (by kernel_rfl) ?_
    simp (maxSteps := 2000000) only [s100, ↓Za, ↓Zj, ↓Zr, ↓Ze, ↓Zl, ↓Zs, ↓Zf, ↓Zm, ↓Zg, ↓Zb, ↓Zc, ↓vdn, vup, Zk, Zo, Zn, Zi, Zh, List.map_cons, List.map_nil, cond_true, cond_false, aop, Zv, Zq, Zp, ev, sput, Zt, Zy, Ya, unK, Zd, Zw, Nat.reduceBEq, Nat.reduceAdd, Int.reduceBEq, Int.reduceBNe, Int.reduceLT, Zu, Zz, tup, tyf, loadO kb Xa hl.2, Yr, List.nil_append, List.append_nil, List.toList_toArray, List.cons_append]
    refine ⟨_, _, below_call ho, rfl, ?_⟩
    by_cases hz : Xi (dn o x) s = 0
    · have hz' : (((Xi (dn o x) s : Nat) : Int) != 0) = false := by rw [hz]; rfl
      simp (maxSteps := 2000000) only [s100, ↓Za, ↓Zj, ↓Zr, ↓Ze, ↓Zl, ↓Zs, ↓Zf, ↓Zm, ↓Zg, ↓Zb, ↓Zc, ↓vdn, vup, Zk, Zo, Zn, Zi, Zh, List.map_cons, List.map_nil, cond_true, cond_false, aop, Zv, Zq, Zp, ev, sput, Zt, Zy, Ya, unK, Zd, Zw, Nat.reduceBEq, Nat.reduceAdd, Int.reduceBEq, Int.reduceBNe, Int.reduceLT, Zu, Zz, tup, tyf, Xn k2 Yq, hand, hz']
      refine ⟨hEk, fun k hk => ?_⟩
      rcases List.mem_append.1 hk with h1 | h1
      · exact hall k h1
      · rw [List.mem_singleton.1 h1]; exact hz
    · have hz' : (((Xi (dn o x) s : Nat) : Int) != 0) = true := by rw [bne_iff_ne]; omega
      have hf : idl o s = false := by
        rw [idl_dn ho hs, List.all_eq_false]; exact ⟨x, hxm, by simpa using hz⟩
      simp (maxSteps := 2000000) only [s100, ↓Za, ↓Zj, ↓Zr, ↓Ze, ↓Zl, ↓Zs, ↓Zf, ↓Zm, ↓Zg, ↓Zb, ↓Zc, ↓vdn, vup, Zk, Zo, Zn, Zi, Zh, List.map_cons, List.map_nil, cond_true, cond_false, aop, Zv, Zq, Zp, ev, sput, Zt, Zy, Ya, unK, Zd, Zw, Nat.reduceBEq, Nat.reduceAdd, Int.reduceBEq, Int.reduceBNe, Int.reduceLT, Zu, Zz, tup, tyf, Xn k2 Yq, hand, hz', storeB k3 shp_4, rangeQ]
      simp (maxSteps := 2000000) only [s100, ↓Za, ↓Zj, ↓Zr, ↓Ze, ↓Zl, ↓Zs, ↓Zf, ↓Zm, ↓Zg, ↓Zb, ↓Zc, ↓vdn, vup, Zk, Zo, Zn, Zi, Zh, List.map_cons, List.map_nil, cond_true, cond_false, aop, Zv, Zq, Zp, ev, sput, Zt, Zy, Ya, unK, Zd, Zw, Nat.reduceBEq, Nat.reduceAdd, Int.reduceBEq, Int.reduceBNe, Int.reduceLT, Zu, Zz, tup, tyf, Xn (Xs (Yz k3) _) shp_4, hf]
      exact (hE.trans hEk).set_ge (by omega) _
  · rintro hk ⟨hEk, hall⟩
    have k3 := (hEk.2 _ (Yz b3) id).trans b3
    have hf : idl o s = true := by
      rw [idl_dn ho hs, List.all_eq_true]; exact fun x hx => decide_eq_true (hall x hx)
    simp (maxSteps := 2000000) only [s100, ↓Za, ↓Zj, ↓Zr, ↓Ze, ↓Zl, ↓Zs, ↓Zf, ↓Zm, ↓Zg, ↓Zb, ↓Zc, ↓vdn, vup, Zk, Zo, Zn, Zi, Zh, List.map_cons, List.map_nil, cond_true, cond_false, aop, Zv, Zq, Zp, ev, sput, Zt, Zy, Ya, unK, Zd, Zw, Nat.reduceBEq, Nat.reduceAdd, Int.reduceBEq, Int.reduceBNe, Int.reduceLT, Zu, Zz, tup, tyf, storeB k3 shp_4]
    simp (maxSteps := 2000000) only [s100, ↓Za, ↓Zj, ↓Zr, ↓Ze, ↓Zl, ↓Zs, ↓Zf, ↓Zm, ↓Zg, ↓Zb, ↓Zc, ↓vdn, vup, Zk, Zo, Zn, Zi, Zh, List.map_cons, List.map_nil, cond_true, cond_false, aop, Zv, Zq, Zp, ev, sput, Zt, Zy, Ya, unK, Zd, Zw, Nat.reduceBEq, Nat.reduceAdd, Int.reduceBEq, Int.reduceBNe, Int.reduceLT, Zu, Zz, tup, tyf, Xn (Xs (Yz k3) _) shp_4, hf]
    exact (hE.trans hEk).set_ge (by omega) _

/-- Something is so of any two elements. -/
def prB (s : Nat) (q : Nat → Nat → Bool) : Bool := (Am.bits s).all fun i => (Am.bits (s &&& (2 ^ i - 1))).all (q i)
theorem low_mem {s i j : Nat} (hs : s < 64) : j ∈ Am.bits (s &&& (2 ^ i - 1)) ↔ s.testBit j = true ∧ j < i := by
  rw [Xg, Nat.testBit_and, Nat.testBit_two_pow_sub_one, Bool.and_eq_true, decide_eq_true_eq]
  refine ⟨fun h => h.2, fun h => ⟨?_, h⟩⟩
  have := lt_bit (n := 6) hs h.1; omega
theorem prB_uni {o : List Int} {s : Nat} {f : Bool} (hs : s < 2 ^ o.length) (hn : o.length ≤ 6) : prB s (fun i j => fr o i j == f) = uni o s f := by
  have hp := pow6 hn
  rw [Bool.eq_iff_iff, uni_iff hs, prB, List.all_eq_true]
  simp only [List.all_eq_true, low_mem (show s < 64 by omega), beq_iff_eq]
  constructor
  · intro h i j hij hi hj
    have key : ∀ i j, j < i → s.testBit i = true → s.testBit j = true → fr o i j = f := fun i j hji hi hj => h i (Xg.2 ⟨by have := lt_bit hs hi; omega, hi⟩) j ⟨hj, hji⟩
    rcases Nat.lt_or_gt_of_ne hij with h1 | h1
    · rw [fr_symm]; exact key j i h1 hj hi
    · exact key i j h1 hi hj
  · intro h i hi j hj
    exact h i j (by omega) (Xg.1 hi).2 hj.1
theorem two_call [BitTab prog 1] {h : Zx} {s : Nat} {fn : Nat} {first cap : Array Value} (hs : s < 64) (q : Nat → Nat → Bool)
    (hf : ∀ i j h', s.testBit i = true → s.testBit j = true → j < i → Ext (fun _ => False) h h' → Wv prog fn (first.toList ++ [Yb (i : Nat), Yb (j : Nat)] ++ cap.toList) h' (.bool (q i j))) :
    Wv prog 85 [Yb (s : Nat), .func (.func fn) first cap] h (.bool (prB s q)) := by
  refine ACall.forget (Low.bool _) ?_
  obtain ⟨H, hH⟩ : ∃ H, H = h ++ [Blk.cells [Yb (s : Nat)] 3 false] ++ [Blk.cells [.func (.func fn) first cap] 82 false] ++ [Blk.cells [.bool false] 4 false] := ⟨_, rfl⟩
  have hE : Ext (fun _ => False) h H := by rw [hH, List.append_assoc, List.append_assoc]; exact Ext.app _ _ _
  have b2 : H[h.length]? = some (Blk.cells [Yb (s : Nat)] 3 false) := by rw [hH]; simp
  have b3 : H[h.length + 1]? = some (.cells [.func (.func fn) first cap] 82 false) := by rw [hH]; simp
  have b4 : H[h.length + 2]? = some (.cells [.bool false] 4 false) := by rw [hH]; simp
  refine s85_call (by simp) ?_
  simp (maxSteps := 2000000) only [s85, ↓Za, ↓Zj, ↓Zr, ↓Ze, ↓Zl, ↓Zs, ↓Zf, ↓Zm, ↓Zg, ↓Zb, ↓Zc, ↓vdn, vup, Zk, Zo, Zn, Zi, Zh, List.map_cons, List.map_nil, cond_true, cond_false, aop, Zv, Zq, Zp, ev, sput, Zt, Zy, Ya, unK, Zd, Zw, Nat.reduceBEq, Nat.reduceAdd, Int.reduceBEq, Int.reduceBNe, Int.reduceLT, Zu, Zz, tup, tyf, boxK, cellsOf, Option.isSome_some, Wk, Wo, zero_4, List.length_append, List.length_singleton, Nat.add_assoc, Nat.reduceAdd]
  rw [← hH]
  simp (maxSteps := 2000000) only [s85, ↓Za, ↓Zj, ↓Zr, ↓Ze, ↓Zl, ↓Zs, ↓Zf, ↓Zm, ↓Zg, ↓Zb, ↓Zc, ↓vdn, vup, Zk, Zo, Zn, Zi, Zh, List.map_cons, List.map_nil, cond_true, cond_false, aop, Zv, Zq, Zp, ev, sput, Zt, Zy, Ya, unK, Zd, Zw, Nat.reduceBEq, Nat.reduceAdd, Int.reduceBEq, Int.reduceBNe, Int.reduceLT, Zu, Zz, tup, tyf, Xn b2 Yq, Yr, List.nil_append, List.append_nil, List.toList_toArray, List.cons_append]
  refine elements_call.mono ?_
  rintro _ _ ⟨rfl, rfl⟩
  refine aw_range bitIter (bx := H.length) (s := s) (et := 3) rfl (Xc _ _) (by omega) (fun pre hk => Ext (fun _ => False) H hk ∧ ∀ i ∈ pre, (Am.bits (s &&& (2 ^ i - 1))).all (q i) = true) ⟨?_, fun _ hk => by cases hk⟩ ?_ ?_
  · refine ⟨by simp, fun j hj _ => ?_⟩
    rw [List.getElem?_set_ne (by omega), List.getElem?_append_left hj]
  · rintro pre x hk hpre ⟨hEk, hall⟩
    have hxm := mem_pre hpre
    have hxb := (Xg.1 hxm).2
    have hx6 : x < 6 := lt_bit (n := 6) hs hxb
    have hp6 : (2 : Nat) ^ x ≤ 2 ^ 6 := Nat.pow_le_pow_right (by decide) (by omega)
    have hp1 : 1 ≤ 2 ^ x := Nat.one_le_two_pow
    have hsh : subV .i64 (shlV .i64 1 ((x : Nat) : Int)) 1 = ((2 ^ x - 1 : Nat) : Int) := by
      rw [shl1 (by omega), ← pow_cast, subV_id (by omega) (by omega)]; omega
    have hand := bitsV_and (a := s) (b := 2 ^ x - 1) (by omega) (by omega)
    obtain ⟨G, hG⟩ : ∃ G, G = hk ++ [Blk.cells [Yb (x : Nat)] 3 false] := ⟨_, rfl⟩
    have hkG : Ext (fun _ => False) hk G := by rw [hG]; exact Ext.app _ _ _
    have hEG := hEk.trans hkG
    have g2 := (hEG.2 _ (Yz b2) id).trans b2
    have g5 : G[hk.length]? = some (.cells [Yb (x : Nat)] 3 false) := by rw [hG]; exact Xc _ _
    have hlt : s &&& (2 ^ x - 1) < 64 := Nat.lt_of_le_of_lt Nat.and_le_left hs
    have stx : ∀ {K : Zx → Prop}, Wd prog (hk ++ [Blk.cells [.int .i64 0] 3 false]) 3 (.pointer (some ⟨hk.length, 0, none⟩)) (Yb (x : Nat)) K = K G := fun {K} => by
      rw [storeI (Xc _ _) Yq, List.set_append_right _ _ (Nat.le_refl _), Nat.sub_self, List.set_cons_zero, ← hG]
    simp (maxSteps := 2000000) only [s85, ↓Za, ↓Zj, ↓Zr, ↓Ze, ↓Zl, ↓Zs, ↓Zf, ↓Zm, ↓Zg, ↓Zb, ↓Zc, ↓vdn, vup, Zk, Zo, Zn, Zi, Zh, List.map_cons, List.map_nil, cond_true, cond_false, aop, Zv, Zq, Zp, ev, sput, Zt, Zy, Ya, unK, Zd, Zw, Nat.reduceBEq, Nat.reduceAdd, Int.reduceBEq, Int.reduceBNe, Int.reduceLT, Zu, Zz, tup, tyf, r85_1_a, r85_1_b, Wo, Wk, zero_3, stx]
    refine Xx [] (by kernel_rfl) (by kernel_rfl) (by kernel_rfl) (by kernel_rfl) ?_
    simp (maxSteps := 2000000) only [s85, ↓Za, ↓Zj, ↓Zr, ↓Ze, ↓Zl, ↓Zs, ↓Zf, ↓Zm, ↓Zg, ↓Zb, ↓Zc, ↓vdn, vup, Zk, Zo, Zn, Zi, Zh, List.map_cons, List.map_nil, cond_true, cond_false, aop, Zv, Zq, Zp, ev, sput, Zt, Zy, Ya, unK, Zd, Zw, Nat.reduceBEq, Nat.reduceAdd, Int.reduceBEq, Int.reduceBNe, Int.reduceLT, Zu, Zz, tup, tyf, Xn g2 Yq, Xn g5 Yq, hsh, hand, Int.natCast_nonneg, Yr, List.nil_append, List.append_nil, List.toList_toArray, List.cons_append]
    refine ⟨_, _, elements_call, ?_⟩
    refine aw_range bitIter (bx := G.length) (s := s &&& (2 ^ x - 1)) (et := 3) rfl (Xc _ _) (by omega) (fun pre' hk' => Ext (fun _ => False) G hk' ∧ ∀ j ∈ pre', q x j = true) ⟨?_, fun _ hk => by cases hk⟩ ?_ ?_
    · refine ⟨by simp, fun j hj _ => ?_⟩
      rw [List.getElem?_set_ne (by omega), List.getElem?_append_left hj]
    · rintro pre' y hk' hpre' ⟨hEk', hall'⟩
      have hym := mem_pre hpre'
      obtain ⟨hyb, hyx⟩ := (low_mem hs).1 hym
      have m3 := ((hEG.trans hEk').2 _ (Yz b3) id).trans b3
      have m4 := ((hEG.trans hEk').2 _ (Yz b4) id).trans b4
      have m5 := (hEk'.2 _ (Yz g5) id).trans g5
      have hfn := hf x y hk' hxb hyb hyx (hE.trans (hEG.trans hEk'))
      simp (maxSteps := 2000000) only [s85, ↓Za, ↓Zj, ↓Zr, ↓Ze, ↓Zl, ↓Zs, ↓Zf, ↓Zm, ↓Zg, ↓Zb, ↓Zc, ↓vdn, vup, Zk, Zo, Zn, Zi, Zh, List.map_cons, List.map_nil, cond_true, cond_false, aop, Zv, Zq, Zp, ev, sput, Zt, Zy, Ya, unK, Zd, Zw, Nat.reduceBEq, Nat.reduceAdd, Int.reduceBEq, Int.reduceBNe, Int.reduceLT, Zu, Zz, tup, tyf, r85_0_a, r85_0_b, Xn m3 shp_82, Xn m5 Yq, Yr]
      refine hfn.mono ?_
      rintro _ _ ⟨rfl, rfl⟩
      cases hq : q x y with
      | true =>
        simp (maxSteps := 2000000) only [s85, ↓Za, ↓Zj, ↓Zr, ↓Ze, ↓Zl, ↓Zs, ↓Zf, ↓Zm, ↓Zg, ↓Zb, ↓Zc, ↓vdn, vup, Zk, Zo, Zn, Zi, Zh, List.map_cons, List.map_nil, cond_true, cond_false, aop, Zv, Zq, Zp, ev, sput, Zt, Zy, Ya, unK, Zd, Zw, Nat.reduceBEq, Nat.reduceAdd, Int.reduceBEq, Int.reduceBNe, Int.reduceLT, Zu, Zz, tup, tyf, Bool.not_true]
        refine ⟨hEk', fun j hj => ?_⟩
        rcases List.mem_append.1 hj with h1 | h1
        · exact hall' j h1
        · rw [List.mem_singleton.1 h1]; exact hq
      | false =>
        have hff : prB s q = false := by
          rw [prB, List.all_eq_false]
          refine ⟨x, hxm, ?_⟩
          rw [List.all_eq_true]
          exact fun hc => by rw [hc y hym] at hq; cases hq
        simp (maxSteps := 2000000) only [s85, ↓Za, ↓Zj, ↓Zr, ↓Ze, ↓Zl, ↓Zs, ↓Zf, ↓Zm, ↓Zg, ↓Zb, ↓Zc, ↓vdn, vup, Zk, Zo, Zn, Zi, Zh, List.map_cons, List.map_nil, cond_true, cond_false, aop, Zv, Zq, Zp, ev, sput, Zt, Zy, Ya, unK, Zd, Zw, Nat.reduceBEq, Nat.reduceAdd, Int.reduceBEq, Int.reduceBNe, Int.reduceLT, Zu, Zz, tup, tyf, Bool.not_false, storeB m4 shp_4, rangeQ]
        simp (maxSteps := 2000000) only [s85, ↓Za, ↓Zj, ↓Zr, ↓Ze, ↓Zl, ↓Zs, ↓Zf, ↓Zm, ↓Zg, ↓Zb, ↓Zc, ↓vdn, vup, Zk, Zo, Zn, Zi, Zh, List.map_cons, List.map_nil, cond_true, cond_false, aop, Zv, Zq, Zp, ev, sput, Zt, Zy, Ya, unK, Zd, Zw, Nat.reduceBEq, Nat.reduceAdd, Int.reduceBEq, Int.reduceBNe, Int.reduceLT, Zu, Zz, tup, tyf, Xn (Xs (Yz m4) _) shp_4, hff]
        exact (hE.trans (hEG.trans hEk')).set_ge (by omega) _
    · rintro hk' ⟨hEk', hall'⟩
      simp (maxSteps := 2000000) only [s85, ↓Za, ↓Zj, ↓Zr, ↓Ze, ↓Zl, ↓Zs, ↓Zf, ↓Zm, ↓Zg, ↓Zb, ↓Zc, ↓vdn, vup, Zk, Zo, Zn, Zi, Zh, List.map_cons, List.map_nil, cond_true, cond_false, aop, Zv, Zq, Zp, ev, sput, Zt, Zy, Ya, unK, Zd, Zw, Nat.reduceBEq, Nat.reduceAdd, Int.reduceBEq, Int.reduceBNe, Int.reduceLT, Zu, Zz, tup, tyf, rangeQ]
      refine ⟨hEG.trans hEk', fun i hi => ?_⟩
      rcases List.mem_append.1 hi with h1 | h1
      · exact hall i h1
      · rw [List.mem_singleton.1 h1, List.all_eq_true]; exact hall'
  · rintro hk ⟨hEk, hall⟩
    have k4 := (hEk.2 _ (Yz b4) id).trans b4
    have hff : prB s q = true := List.all_eq_true.2 hall
    simp (maxSteps := 2000000) only [s85, ↓Za, ↓Zj, ↓Zr, ↓Ze, ↓Zl, ↓Zs, ↓Zf, ↓Zm, ↓Zg, ↓Zb, ↓Zc, ↓vdn, vup, Zk, Zo, Zn, Zi, Zh, List.map_cons, List.map_nil, cond_true, cond_false, aop, Zv, Zq, Zp, ev, sput, Zt, Zy, Ya, unK, Zd, Zw, Nat.reduceBEq, Nat.reduceAdd, Int.reduceBEq, Int.reduceBNe, Int.reduceLT, Zu, Zz, tup, tyf, storeB k4 shp_4]
    simp (maxSteps := 2000000) only [s85, ↓Za, ↓Zj, ↓Zr, ↓Ze, ↓Zl, ↓Zs, ↓Zf, ↓Zm, ↓Zg, ↓Zb, ↓Zc, ↓vdn, vup, Zk, Zo, Zn, Zi, Zh, List.map_cons, List.map_nil, cond_true, cond_false, aop, Zv, Zq, Zp, ev, sput, Zt, Zy, Ya, unK, Zd, Zw, Nat.reduceBEq, Nat.reduceAdd, Int.reduceBEq, Int.reduceBNe, Int.reduceLT, Zu, Zz, tup, tyf, Xn (Xs (Yz k4) _) shp_4, hff]
    exact (hE.trans hEk).set_ge (by omega) _
end Go.Proofs.Tryd.Am

/-
  order: the library's sort of a short slice (insertion).
  Plain theory: Dilworth's theorem: an antichain with as many elements as chains that have all.
  Plain theory: chains, antichains and ideals as sets of bits; the fewest chains are as many as a greatest antichain has elements; an ideal for each antichain.
  order: the reference's chains, antichains and ideals.
  order: the program's ideals and antichains: sets for which something is so, any two elements of a set.
-/
import Derived.Test.YtnjacpfahhjpiaaDoorPk6
import Derived.Test.YtnjacpfahhjpiaaDoorPk4
import Derived.Test.YtnjacpfahhjpiaaDoorPk5
set_option linter.all false
namespace Go.Proofs.Tryd.Am
open Go.Am Ord
set_option maxRecDepth 100000
set_option maxHeartbeats 1000000

abbrev iL (L : List Nat) : List Int := L.map Int.ofNat
theorem Wy (L : List Nat) : (iL L).length = L.length := by simp
theorem iL_snoc (L : List Nat) (i : Nat) : iL L ++ [(i : Int)] = iL (L ++ [i]) := by simp [iL]
theorem iL_get (L : List Nat) (i : Nat) : (iL L).getD i 0 = ((L.getD i 0 : Nat) : Int) := by
  rw [List.getD, List.getElem?_map, List.getD]; cases L[i]? <;> rfl
theorem iL_set (L : List Nat) (i x : Nat) : (iL L).set i ((x : Nat) : Int) = iL (L.set i x) := by simp only [iL, List.map_set]; rfl
theorem getD_setN {L : List Nat} {s x i : Nat} (hs : s < L.length) : (L.set s x).getD i 0 = if i = s then x else L.getD i 0 := by
  rw [List.getD, List.getElem?_set]
  by_cases h : s = i
  · subst h; simp [hs]
  · rw [if_neg h, if_neg (Ne.symm h)]; rfl
def swL (L : List Nat) (j : Nat) : List Nat := (L.set j (L.getD (j - 1) 0)).set (j - 1) (L.getD j 0)
theorem swL_get {L : List Nat} {j : Nat} (h1 : 1 ≤ j) (h2 : j < L.length) (t : Nat) : (swL L j).getD t 0 = if t = j - 1 then L.getD j 0 else if t = j then L.getD (j - 1) 0 else L.getD t 0 := by
  rw [swL, getD_setN (by rw [List.length_set]; omega), getD_setN h2]
theorem swL_perm {L : List Nat} {j : Nat} (h1 : 1 ≤ j) (h2 : j < L.length) : (swL L j).Perm L := by
  have := Array.swap_perm (xs := L.toArray) (i := j) (j := j - 1) (by simpa using h2) (by simp; omega)
  rw [Array.perm_iff_toList_perm, Array.toList_swap] at this
  simpa [swL, List.getD, List.getElem?_eq_getElem h2, List.getElem?_eq_getElem (show j - 1 < L.length by omega)] using this

section
variable {key : Nat → Int}
/-- The first i are sorted. -/
def SrtTo (key : Nat → Int) (L : List Nat) (i : Nat) : Prop := ∀ p q, p < q → q < i → key (L.getD p 0) ≤ key (L.getD q 0)
/-- The first i + 1 are sorted but for the one at j. -/
def SrtBut (key : Nat → Int) (L : List Nat) (i j : Nat) : Prop := ∀ p q, p < q → q ≤ i → q ≠ j → key (L.getD p 0) ≤ key (L.getD q 0)
theorem SrtBut.step {L : List Nat} {i j : Nat} (h : SrtBut key L i j) (h1 : 1 ≤ j) (h2 : j < L.length) (hj : j ≤ i) (hlt : key (L.getD j 0) < key (L.getD (j - 1) 0)) : SrtBut key (swL L j) i (j - 1) := by
  intro p q hpq hq hne
  rw [swL_get h1 h2, swL_get h1 h2, if_neg hne]
  by_cases hqj : q = j
  · rw [if_pos hqj]
    by_cases hp : p = j - 1
    · rw [if_pos hp]; omega
    · rw [if_neg hp, if_neg (by omega)]
      exact h p (j - 1) (by omega) (by omega) (by omega)
  · rw [if_neg hqj]
    by_cases hp : p = j - 1
    · rw [if_pos hp]; exact h j q (by omega) hq hqj
    · rw [if_neg hp]
      by_cases hpj : p = j
      · rw [if_pos hpj]; exact h (j - 1) q (by omega) hq hqj
      · rw [if_neg hpj]; exact h p q hpq hq hqj
theorem SrtBut.done {L : List Nat} {i j : Nat} (h : SrtBut key L i j) (hj : j = 0 ∨ key (L.getD (j - 1) 0) ≤ key (L.getD j 0)) : SrtTo key L (i + 1) := by
  intro p q hpq hq
  by_cases hqj : q = j
  · subst hqj
    rcases hj with hj | hj
    · omega
    · by_cases hp : p = q - 1
      · subst hp; exact hj
      · exact Int.le_trans (h p (q - 1) (by omega) (by omega) (by omega)) hj
  · exact h p q hpq (by omega) hqj
theorem SrtTo.pw {L : List Nat} (h : SrtTo key L L.length) : L.Pairwise fun a b => key a ≤ key b := by
  rw [List.pairwise_iff_getElem]
  intro i j hi hj hij
  have := h i j hij hj
  rw [List.getD, List.getD, List.getElem?_eq_getElem hi, List.getElem?_eq_getElem hj] at this
  exact this
end
theorem subN1 {n : Nat} (h1 : 1 ≤ n) (h : n < 9223372036854775808) : subV .i64 (n : Int) 1 = ((n - 1 : Nat) : Int) := by rw [subV_id (by omega) (by omega)]; omega
/-- A slice in a block of its own. -/
abbrev ov (b n m : Nat) : Value := .slice (some ⟨b, 0, some 0⟩) n (n + m)
theorem ov_own {h : Ya} {b n : Nat} {L : List Nat} {ys : List Int} (hb : b < h.length) (hn : L.length = n) : OwnSl 3 (h.set b (.ints (iL L ++ ys) 3 false)) (ov b n ys.length) (iL L) :=
  .inr ⟨b, ys, by rw [Wy, hn], Xw hb _⟩
theorem elemP_ov (b n m i : Nat) : elemP (ov b n m) 1 i = .pointer (some ⟨b, i, none⟩) := by simp [elemP]
theorem ov_load {h : Ya} {b n : Nat} {L : List Nat} {ys : List Int} {i : Nat} (hb : b < h.length) (hn : L.length = n) (hi : i < n) {K : Value → Prop} :
    Wg prog (h.set b (.ints (iL L ++ ys) 3 false)) 3 (.pointer (some ⟨b, i, none⟩)) K = K (Yb (L.getD i 0 : Nat)) := by
  have := (ov_own (h := h) (b := b) (n := n) (L := L) (ys := ys) hb hn).int.load Yp (i := i) (by rw [Wy]; omega) K
  rw [elemP_ov, iL_get] at this
  exact this
theorem ov_store {h : Ya} {b : Nat} {L : List Nat} {ys : List Int} {i x : Nat} (hb : b < h.length) (hi : i < L.length) {K : Ya → Prop} :
    Wh prog (h.set b (.ints (iL L ++ ys) 3 false)) 3 (.pointer (some ⟨b, i, none⟩)) (Yb (x : Nat)) K = K (h.set b (.ints (iL (L.set i x) ++ ys) 3 false)) := by
  rw [storeBI (Xw hb _) Yp (by rw [List.length_append, Wy]; omega), List.set_set, List.set_append_left _ _ (by rw [Wy]; exact hi), iL_set]

abbrev kO : Nat → Int := Int.ofNat
theorem isnan_call [Tabs prog] {h : Ya} {x : Int} : Wo prog 140 [Yb x] h (.bool false) := by
  refine s140_call (by simp) ?_
  have hb : (x != x) = false := bne_self_eq_false _
  simp (maxSteps := 2000000) only [s140, ↓Za, ↓Zl, ↓Zr, ↓Ze, ↓Zo, ↓Zs, ↓Zg, ↓Zj, ↓Zf, ↓Zc, ↓Zb, ↓vdn, vup, Zn, Zm, Zi, Zh, Zk, List.map_cons, List.map_nil, cond_true, cond_false, aop, Zv, Zq, Zp, ev, sput, Zt, Zx, Zz, unK, Zd, Zw, Nat.reduceBEq, Nat.reduceAdd, Int.reduceBEq, Int.reduceBNe, Int.reduceLT, Zu, Zy, tup, tyf, hb]
theorem s129_callW [Tabs Tryd.prog] {args : List Value} {h : Ya} {Q : Value → Ya → Prop} (hsz : args.length ≤ 17) (hk : AWS Tryd.prog 17 s129 (Zu Tryd.prog [.tmp 4] Q) (Zp 0 args) h) : ACall Tryd.prog 129 args h Q :=
  Xu Tryd.func129 rfl (enters_of Tryd.func129 (by kernel_rfl) rfl) rfl rfl (by decide) s129_strip s129_ok hsz hk
theorem less_call [Tabs prog] {h : Ya} {x y : Int} : Wo prog 129 [Yb x, Yb y] h (.bool (decide (x < y))) := by
  refine s129_callW (by simp) ?_
  refine Yf ?_
  simp (maxSteps := 2000000) only [s129, ↓Za, ↓Zl, ↓Zr, ↓Ze, ↓Zo, ↓Zs, ↓Zg, ↓Zj, ↓Zf, ↓Zc, ↓Zb, ↓vdn, vup, Zn, Zm, Zi, Zh, Zk, List.map_cons, List.map_nil, cond_true, cond_false, aop, Zv, Zq, Zp, ev, sput, Zt, Zx, Zz, unK, Zd, Zw, Nat.reduceBEq, Nat.reduceAdd, Int.reduceBEq, Int.reduceBNe, Int.reduceLT, Zu, Zy, tup, tyf, Yt, List.nil_append, List.append_nil, List.toList_toArray, List.cons_append]
  refine (isnan_call).mono ?_
  rintro _ h ⟨rfl, rfl⟩
  simp (maxSteps := 2000000) only [s129, ↓Za, ↓Zl, ↓Zr, ↓Ze, ↓Zo, ↓Zs, ↓Zg, ↓Zj, ↓Zf, ↓Zc, ↓Zb, ↓vdn, vup, Zn, Zm, Zi, Zh, Zk, List.map_cons, List.map_nil, cond_true, cond_false, aop, Zv, Zq, Zp, ev, sput, Zt, Zx, Zz, unK, Zd, Zw, Nat.reduceBEq, Nat.reduceAdd, Int.reduceBEq, Int.reduceBNe, Int.reduceLT, Zu, Zy, tup, tyf]
theorem s123_callW [Tabs Tryd.prog] {args : List Value} {h : Ya} {Q : Value → Ya → Prop} (hsz : args.length ≤ 49) (hk : AWS Tryd.prog 49 s123 (Zu Tryd.prog [] Q) (Zp 0 args) h) : ACall Tryd.prog 123 args h Q :=
  Xu Tryd.func123 rfl (enters_of Tryd.func123 (by kernel_rfl) rfl) rfl rfl (by decide) s123_strip s123_ok hsz hk
theorem isortO_call [Tabs prog] {h : Ya} {b : Nat} {L0 : List Nat} {ys : List Int} (hb : h[b]? = some (.ints (iL L0 ++ ys) 3 false)) (hl : L0.length ≤ 12) (hx : ∀ x ∈ L0, x < 4611686018427387904) :
    ACall prog 123 [ov b L0.length ys.length, .int .i64 0, Yb L0.length] h fun _ h' => ∃ L : List Nat, L.Perm L0 ∧ L.Pairwise (fun a b => a ≤ b) ∧ h' = h.set b (.ints (iL L ++ ys) 3 false) := by
  have hlt := Xd hb
  have h0 : h = h.set b (.ints (iL L0 ++ ys) 3 false) := by
    apply List.ext_getElem?
    intro i
    by_cases hi : b = i
    · subst hi; rw [Xw hlt, hb]
    · rw [List.getElem?_set_ne hi]
  obtain ⟨n, hn⟩ : ∃ n, L0.length = n := ⟨_, rfl⟩
  rw [hn] at hl ⊢
  have hrange : ∀ {L : List Nat}, L.Perm L0 → ∀ i, L.getD i 0 < 4611686018427387904 := fun {L} hp i => by
    by_cases hi : i < L.length
    · rw [List.getD, List.getElem?_eq_getElem hi]; exact hx _ (hp.mem_iff.1 (List.getElem_mem hi))
    · rw [List.getD, List.getElem?_eq_none (by omega)]; decide
  refine s123_callW (by simp) ?_
  simp only [s123]
  have e01 : addV .i64 0 1 = 1 := rfl
  refine Yc fun N1 hN1 => ?_
  simp (maxSteps := 2000000) only [s123, ↓Za, ↓Zl, ↓Zr, ↓Ze, ↓Zo, ↓Zs, ↓Zg, ↓Zj, ↓Zf, ↓Zc, ↓Zb, ↓vdn, vup, Zn, Zm, Zi, Zh, Zk, List.map_cons, List.map_nil, cond_true, cond_false, aop, Zv, Zq, Zp, ev, sput, Zt, Zx, Zz, unK, Zd, Zw, Nat.reduceBEq, Nat.reduceAdd, Int.reduceBEq, Int.reduceBNe, Int.reduceLT, Zu, Zy, tup, tyf, e01]
  refine hN1 [(0, ov b n ys.length), (1, .int .i64 0), (2, Yb n), (6, .int .i64 1)] _ _ ?_ (by simp (maxSteps := 2000000) only [↓Za, ↓Zl, ↓Zr, ↓Ze, ↓Zo, ↓Zs, ↓Zg, ↓Zj, ↓Zf, ↓Zc, ↓Zb, ↓vdn, vup, Zn, Zm, Zi, Zh, Zk, List.map_cons, List.map_nil, cond_true, cond_false, aop, Zv, Zq, Zp, ev, sput, Zt, Zx, Zz, unK, Zd, Zw, Nat.reduceBEq, Nat.reduceAdd, Int.reduceBEq, Int.reduceBNe, Int.reduceLT, Zu, Zy, tup, tyf])
  clear hN1
  try clear N1
  refine Yl ?_
  refine Yj fun Q hQ => ?_
  refine Xt (γ := Nat × List Nat) (fun s => 1 ≤ s.1 ∧ (s.1 ≤ n ∨ s.1 = 1) ∧ s.2.Perm L0 ∧ SrtTo kO s.2 s.1)
    (fun s => ([(0, ov b n ys.length), (1, .int .i64 0), (2, Yb n), (6, Yb s.1)], h.set b (.ints (iL s.2 ++ ys) 3 false))) (fun s => n - s.1) (1, L0) ⟨Nat.le_refl _, .inr rfl, .refl _, fun p q _ _ => by omega⟩ (by simp (maxSteps := 2000000) only [↓Za, ↓Zl, ↓Zr, ↓Ze, ↓Zo, ↓Zs, ↓Zg, ↓Zj, ↓Zf, ↓Zc, ↓Zb, ↓vdn, vup, Zn, Zm, Zi, Zh, Zk, List.map_cons, List.map_nil, cond_true, cond_false, aop, Zv, Zq, Zp, ev, sput, Zt, Zx, Zz, unK, Zd, Zw, Nat.reduceBEq, Nat.reduceAdd, Int.reduceBEq, Int.reduceBNe, Int.reduceLT, Zu, Zy, tup, tyf, Int.natCast_one]) h0 ?_
  rintro ⟨i, L⟩ ⟨hi1, hi, hp, hs⟩
  simp only at hi1 hi hp hs
  have hLn : L.length = n := hp.length_eq.trans hn
  refine Yj fun Q2 hQ2 => ?_
  simp only [l123_1]
  by_cases hin : (i : Int) < n
  · have hi' : i < n := by omega
    refine Yc fun N2 hN2 => ?_
    simp (maxSteps := 2000000) only [s123, ↓Za, ↓Zl, ↓Zr, ↓Ze, ↓Zo, ↓Zs, ↓Zg, ↓Zj, ↓Zf, ↓Zc, ↓Zb, ↓vdn, vup, Zn, Zm, Zi, Zh, Zk, List.map_cons, List.map_nil, cond_true, cond_false, aop, Zv, Zq, Zp, ev, sput, Zt, Zx, Zz, unK, Zd, Zw, Nat.reduceBEq, Nat.reduceAdd, Int.reduceBEq, Int.reduceBNe, Int.reduceLT, Zu, Zy, tup, tyf, hin]
    refine hN2 [(0, ov b n ys.length), (1, .int .i64 0), (2, Yb n), (6, Yb i)] _ _ ?_ (by simp (maxSteps := 2000000) only [↓Za, ↓Zl, ↓Zr, ↓Ze, ↓Zo, ↓Zs, ↓Zg, ↓Zj, ↓Zf, ↓Zc, ↓Zb, ↓vdn, vup, Zn, Zm, Zi, Zh, Zk, List.map_cons, List.map_nil, cond_true, cond_false, aop, Zv, Zq, Zp, ev, sput, Zt, Zx, Zz, unK, Zd, Zw, Nat.reduceBEq, Nat.reduceAdd, Int.reduceBEq, Int.reduceBNe, Int.reduceLT, Zu, Zy, tup, tyf])
    clear hN2
    try clear N2
    refine Yk fun M hM => ?_
    refine Yl ?_
    refine Yc fun N3 hN3 => ?_
    simp (maxSteps := 2000000) only [s123, ↓Za, ↓Zl, ↓Zr, ↓Ze, ↓Zo, ↓Zs, ↓Zg, ↓Zj, ↓Zf, ↓Zc, ↓Zb, ↓vdn, vup, Zn, Zm, Zi, Zh, Zk, List.map_cons, List.map_nil, cond_true, cond_false, aop, Zv, Zq, Zp, ev, sput, Zt, Zx, Zz, unK, Zd, Zw, Nat.reduceBEq, Nat.reduceAdd, Int.reduceBEq, Int.reduceBNe, Int.reduceLT, Zu, Zy, tup, tyf]
    refine hN3 [(0, ov b n ys.length), (1, .int .i64 0), (2, Yb n), (6, Yb i), (7, Yb i)] _ _ ?_ (by simp (maxSteps := 2000000) only [↓Za, ↓Zl, ↓Zr, ↓Ze, ↓Zo, ↓Zs, ↓Zg, ↓Zj, ↓Zf, ↓Zc, ↓Zb, ↓vdn, vup, Zn, Zm, Zi, Zh, Zk, List.map_cons, List.map_nil, cond_true, cond_false, aop, Zv, Zq, Zp, ev, sput, Zt, Zx, Zz, unK, Zd, Zw, Nat.reduceBEq, Nat.reduceAdd, Int.reduceBEq, Int.reduceBNe, Int.reduceLT, Zu, Zy, tup, tyf])
    clear hN3
    try clear N3
    refine Yl ?_
    refine Yj fun Q3 hQ3 => ?_
    refine Xt (γ := Nat × List Nat) (fun s => s.1 ≤ i ∧ s.2.Perm L0 ∧ SrtBut kO s.2 i s.1)
      (fun s => ([(0, ov b n ys.length), (1, .int .i64 0), (2, Yb n), (6, Yb i), (7, Yb s.1)], h.set b (.ints (iL s.2 ++ ys) 3 false))) (fun s => s.1) (i, L) ⟨Nat.le_refl _, hp, fun p q h1 h2 h3 => hs p q h1 (by omega)⟩ (by simp (maxSteps := 2000000) only [↓Za, ↓Zl, ↓Zr, ↓Ze, ↓Zo, ↓Zs, ↓Zg, ↓Zj, ↓Zf, ↓Zc, ↓Zb, ↓vdn, vup, Zn, Zm, Zi, Zh, Zk, List.map_cons, List.map_nil, cond_true, cond_false, aop, Zv, Zq, Zp, ev, sput, Zt, Zx, Zz, unK, Zd, Zw, Nat.reduceBEq, Nat.reduceAdd, Int.reduceBEq, Int.reduceBNe, Int.reduceLT, Zu, Zy, tup, tyf]) rfl ?_
    clear hp hs hLn
    rintro ⟨j, L⟩ ⟨hj, hp, hs⟩
    simp only at hj hp hs
    have hLn : L.length = n := hp.length_eq.trans hn
    have own := ov_own (h := h) (b := b) (n := n) (L := L) (ys := ys) hlt hLn
    refine Yj fun Q4 hQ4 => ?_
    simp only [l123_0]
    have fin : (j = 0 ∨ kO (L.getD (j - 1) 0) ≤ kO (L.getD j 0)) → ∀ e, ELe e [(0, ov b n ys.length), (1, .int .i64 0), (2, Yb n), (6, Yb i)] → M e (h.set b (.ints (iL L ++ ys) 3 false)) := by
      intro hd e he
      refine hM [(0, ov b n ys.length), (1, .int .i64 0), (2, Yb n), (6, Yb i)] _ _ ?_ he
      refine Yf ?_
      simp (maxSteps := 2000000) only [s123, ↓Za, ↓Zl, ↓Zr, ↓Ze, ↓Zo, ↓Zs, ↓Zg, ↓Zj, ↓Zf, ↓Zc, ↓Zb, ↓vdn, vup, Zn, Zm, Zi, Zh, Zk, List.map_cons, List.map_nil, cond_true, cond_false, aop, Zv, Zq, Zp, ev, sput, Zt, Zx, Zz, unK, Zd, Zw, Nat.reduceBEq, Nat.reduceAdd, Int.reduceBEq, Int.reduceBNe, Int.reduceLT, Zu, Zy, tup, tyf, add1 (show i < 9223372036854775807 by omega)]
      exact hQ2 _ _ _ ⟨(i + 1, L), ⟨by simp only; omega, .inl (by simp only; omega), hp, hs.done hd⟩, by simp only; omega, by simp (maxSteps := 2000000) only [↓Za, ↓Zl, ↓Zr, ↓Ze, ↓Zo, ↓Zs, ↓Zg, ↓Zj, ↓Zf, ↓Zc, ↓Zb, ↓vdn, vup, Zn, Zm, Zi, Zh, Zk, List.map_cons, List.map_nil, cond_true, cond_false, aop, Zv, Zq, Zp, ev, sput, Zt, Zx, Zz, unK, Zd, Zw, Nat.reduceBEq, Nat.reduceAdd, Int.reduceBEq, Int.reduceBNe, Int.reduceLT, Zu, Zy, tup, tyf], rfl⟩
    by_cases hj0 : j = 0
    · subst hj0
      refine Yc fun N4 hN4 => ?_
      simp (maxSteps := 2000000) only [s123, ↓Za, ↓Zl, ↓Zr, ↓Ze, ↓Zo, ↓Zs, ↓Zg, ↓Zj, ↓Zf, ↓Zc, ↓Zb, ↓vdn, vup, Zn, Zm, Zi, Zh, Zk, List.map_cons, List.map_nil, cond_true, cond_false, aop, Zv, Zq, Zp, ev, sput, Zt, Zx, Zz, unK, Zd, Zw, Nat.reduceBEq, Nat.reduceAdd, Int.reduceBEq, Int.reduceBNe, Int.reduceLT, Zu, Zy, tup, tyf]
      refine Xy [(13, 1)] (by kernel_rfl) (by kernel_rfl) (by kernel_rfl) (by kernel_rfl) ?_
      simp (maxSteps := 2000000) only [s123, ↓Za, ↓Zl, ↓Zr, ↓Ze, ↓Zo, ↓Zs, ↓Zg, ↓Zj, ↓Zf, ↓Zc, ↓Zb, ↓vdn, vup, Zn, Zm, Zi, Zh, Zk, List.map_cons, List.map_nil, cond_true, cond_false, aop, Zv, Zq, Zp, ev, sput, Zt, Zx, Zz, unK, Zd, Zw, Nat.reduceBEq, Nat.reduceAdd, Int.reduceBEq, Int.reduceBNe, Int.reduceLT, Zu, Zy, tup, tyf, gt_iff_lt, Int.natCast_zero, Int.lt_irrefl]
      refine hQ4 _ _ _ (hQ3 _ _ _ ?_)
      simp (maxSteps := 2000000) only [s123, ↓Za, ↓Zl, ↓Zr, ↓Ze, ↓Zo, ↓Zs, ↓Zg, ↓Zj, ↓Zf, ↓Zc, ↓Zb, ↓vdn, vup, Zn, Zm, Zi, Zh, Zk, List.map_cons, List.map_nil, cond_true, cond_false, aop, Zv, Zq, Zp, ev, sput, Zt, Zx, Zz, unK, Zd, Zw, Nat.reduceBEq, Nat.reduceAdd, Int.reduceBEq, Int.reduceBNe, Int.reduceLT, Zu, Zy, tup, tyf, if_true]
      exact fin (.inl rfl) _ (by simp (maxSteps := 2000000) only [↓Za, ↓Zl, ↓Zr, ↓Ze, ↓Zo, ↓Zs, ↓Zg, ↓Zj, ↓Zf, ↓Zc, ↓Zb, ↓vdn, vup, Zn, Zm, Zi, Zh, Zk, List.map_cons, List.map_nil, cond_true, cond_false, aop, Zv, Zq, Zp, ev, sput, Zt, Zx, Zz, unK, Zd, Zw, Nat.reduceBEq, Nat.reduceAdd, Int.reduceBEq, Int.reduceBNe, Int.reduceLT, Zu, Zy, tup, tyf])
    · have hjp : (0 : Int) < (j : Int) := by omega
      have hjn : j < (iL L).length := by rw [Wy]; omega
      have hj1n : j - 1 < (iL L).length := by omega
      have c1 := less_call (h := h.set b (.ints (iL L ++ ys) 3 false)) (x := ((L.getD j 0 : Nat) : Int)) (y := ((L.getD (j - 1) 0 : Nat) : Int))
      have hsub := subN1 (show 1 ≤ j by omega) (show j < 9223372036854775808 by omega)
      by_cases hlt2 : L.getD j 0 < L.getD (j - 1) 0
      · have hneg : decide (((L.getD j 0 : Nat) : Int) < ((L.getD (j - 1) 0 : Nat) : Int)) = true := decide_eq_true (by omega)
        rw [hneg] at c1
        refine Yc fun N5 hN5 => ?_
        simp (maxSteps := 2000000) only [s123, ↓Za, ↓Zl, ↓Zr, ↓Ze, ↓Zo, ↓Zs, ↓Zg, ↓Zj, ↓Zf, ↓Zc, ↓Zb, ↓vdn, vup, Zn, Zm, Zi, Zh, Zk, List.map_cons, List.map_nil, cond_true, cond_false, aop, Zv, Zq, Zp, ev, sput, Zt, Zx, Zz, unK, Zd, Zw, Nat.reduceBEq, Nat.reduceAdd, Int.reduceBEq, Int.reduceBNe, Int.reduceLT, Zu, Zy, tup, tyf]
        refine Xy [(13, 1)] (by kernel_rfl) (by kernel_rfl) (by kernel_rfl) (by kernel_rfl) ?_
        simp (maxSteps := 2000000) only [s123, ↓Za, ↓Zl, ↓Zr, ↓Ze, ↓Zo, ↓Zs, ↓Zg, ↓Zj, ↓Zf, ↓Zc, ↓Zb, ↓vdn, vup, Zn, Zm, Zi, Zh, Zk, List.map_cons, List.map_nil, cond_true, cond_false, aop, Zv, Zq, Zp, ev, sput, Zt, Zx, Zz, unK, Zd, Zw, Nat.reduceBEq, Nat.reduceAdd, Int.reduceBEq, Int.reduceBNe, Int.reduceLT, Zu, Zy, tup, tyf, gt_iff_lt, hjp, hsub, own.int.idx Xm Xh hjn, own.int.load Yp hjn, own.int.idx Xm Xh hj1n, own.int.load Yp hj1n, iL_get, Yt, List.nil_append, List.append_nil, List.toList_toArray, List.cons_append]
        refine ⟨_, _, c1, rfl, ?_⟩
        simp (maxSteps := 2000000) only [s123, ↓Za, ↓Zl, ↓Zr, ↓Ze, ↓Zo, ↓Zs, ↓Zg, ↓Zj, ↓Zf, ↓Zc, ↓Zb, ↓vdn, vup, Zn, Zm, Zi, Zh, Zk, List.map_cons, List.map_nil, cond_true, cond_false, aop, Zv, Zq, Zp, ev, sput, Zt, Zx, Zz, unK, Zd, Zw, Nat.reduceBEq, Nat.reduceAdd, Int.reduceBEq, Int.reduceBNe, Int.reduceLT, Zu, Zy, tup, tyf]
        refine hN5 [(0, ov b n ys.length), (1, .int .i64 0), (2, Yb n), (6, Yb i), (7, Yb j)] _ _ ?_ (by simp (maxSteps := 2000000) only [↓Za, ↓Zl, ↓Zr, ↓Ze, ↓Zo, ↓Zs, ↓Zg, ↓Zj, ↓Zf, ↓Zc, ↓Zb, ↓vdn, vup, Zn, Zm, Zi, Zh, Zk, List.map_cons, List.map_nil, cond_true, cond_false, aop, Zv, Zq, Zp, ev, sput, Zt, Zx, Zz, unK, Zd, Zw, Nat.reduceBEq, Nat.reduceAdd, Int.reduceBEq, Int.reduceBNe, Int.reduceLT, Zu, Zy, tup, tyf])
        clear hN5
        try clear N5
        refine Yf ?_
        simp (maxSteps := 2000000) only [s123, ↓Za, ↓Zl, ↓Zr, ↓Ze, ↓Zo, ↓Zs, ↓Zg, ↓Zj, ↓Zf, ↓Zc, ↓Zb, ↓vdn, vup, Zn, Zm, Zi, Zh, Zk, List.map_cons, List.map_nil, cond_true, cond_false, aop, Zv, Zq, Zp, ev, sput, Zt, Zx, Zz, unK, Zd, Zw, Nat.reduceBEq, Nat.reduceAdd, Int.reduceBEq, Int.reduceBNe, Int.reduceLT, Zu, Zy, tup, tyf]
        refine Xy [] (by kernel_rfl) (by kernel_rfl) (by kernel_rfl) (by kernel_rfl) ?_
        have hjL : j < L.length := by omega
        simp (maxSteps := 2000000) only [s123, ↓Za, ↓Zl, ↓Zr, ↓Ze, ↓Zo, ↓Zs, ↓Zg, ↓Zj, ↓Zf, ↓Zc, ↓Zb, ↓vdn, vup, Zn, Zm, Zi, Zh, Zk, List.map_cons, List.map_nil, cond_true, cond_false, aop, Zv, Zq, Zp, ev, sput, Zt, Zx, Zz, unK, Zd, Zw, Nat.reduceBEq, Nat.reduceAdd, Int.reduceBEq, Int.reduceBNe, Int.reduceLT, Zu, Zy, tup, tyf, hsub, own.int.idx Xm Xh hjn, own.int.idx Xm Xh hj1n, elemP_ov, ov_load hlt hLn (show j < n by omega), ov_load hlt hLn (show j - 1 < n by omega), ov_store hlt hjL, ov_store hlt (show j - 1 < (L.set j (L.getD (j - 1) 0)).length by rw [List.length_set]; omega)]
        refine hQ4 _ _ _ ⟨(j - 1, swL L j), ⟨by simp only; omega, (swL_perm (by omega) hjL).trans hp, hs.step (by omega) hjL hj (Int.ofNat_lt.2 hlt2)⟩, by simp only; omega, by simp (maxSteps := 2000000) only [↓Za, ↓Zl, ↓Zr, ↓Ze, ↓Zo, ↓Zs, ↓Zg, ↓Zj, ↓Zf, ↓Zc, ↓Zb, ↓vdn, vup, Zn, Zm, Zi, Zh, Zk, List.map_cons, List.map_nil, cond_true, cond_false, aop, Zv, Zq, Zp, ev, sput, Zt, Zx, Zz, unK, Zd, Zw, Nat.reduceBEq, Nat.reduceAdd, Int.reduceBEq, Int.reduceBNe, Int.reduceLT, Zu, Zy, tup, tyf], rfl⟩
      · have hneg : decide (((L.getD j 0 : Nat) : Int) < ((L.getD (j - 1) 0 : Nat) : Int)) = false := decide_eq_false (by omega)
        rw [hneg] at c1
        refine Yc fun N6 hN6 => ?_
        simp (maxSteps := 2000000) only [s123, ↓Za, ↓Zl, ↓Zr, ↓Ze, ↓Zo, ↓Zs, ↓Zg, ↓Zj, ↓Zf, ↓Zc, ↓Zb, ↓vdn, vup, Zn, Zm, Zi, Zh, Zk, List.map_cons, List.map_nil, cond_true, cond_false, aop, Zv, Zq, Zp, ev, sput, Zt, Zx, Zz, unK, Zd, Zw, Nat.reduceBEq, Nat.reduceAdd, Int.reduceBEq, Int.reduceBNe, Int.reduceLT, Zu, Zy, tup, tyf]
        refine Xy [(13, 1)] (by kernel_rfl) (by kernel_rfl) (by kernel_rfl) (by kernel_rfl) ?_
        simp (maxSteps := 2000000) only [s123, ↓Za, ↓Zl, ↓Zr, ↓Ze, ↓Zo, ↓Zs, ↓Zg, ↓Zj, ↓Zf, ↓Zc, ↓Zb, ↓vdn, vup, Zn, Zm, Zi, Zh, Zk, List.map_cons, List.map_nil, cond_true, cond_false, aop, Zv, Zq, Zp, ev, sput, Zt, Zx, Zz, unK, Zd, Zw, Nat.reduceBEq, Nat.reduceAdd, Int.reduceBEq, Int.reduceBNe, Int.reduceLT, Zu, Zy, tup, tyf, gt_iff_lt, hjp, hsub, own.int.idx Xm Xh hjn, own.int.load Yp hjn, own.int.idx Xm Xh hj1n, own.int.load Yp hj1n, iL_get, Yt, List.nil_append, List.append_nil, List.toList_toArray, List.cons_append]
        refine ⟨_, _, c1, rfl, ?_⟩
        simp (maxSteps := 2000000) only [s123, ↓Za, ↓Zl, ↓Zr, ↓Ze, ↓Zo, ↓Zs, ↓Zg, ↓Zj, ↓Zf, ↓Zc, ↓Zb, ↓vdn, vup, Zn, Zm, Zi, Zh, Zk, List.map_cons, List.map_nil, cond_true, cond_false, aop, Zv, Zq, Zp, ev, sput, Zt, Zx, Zz, unK, Zd, Zw, Nat.reduceBEq, Nat.reduceAdd, Int.reduceBEq, Int.reduceBNe, Int.reduceLT, Zu, Zy, tup, tyf]
        refine hQ4 _ _ _ (hQ3 _ _ _ ?_)
        simp (maxSteps := 2000000) only [s123, ↓Za, ↓Zl, ↓Zr, ↓Ze, ↓Zo, ↓Zs, ↓Zg, ↓Zj, ↓Zf, ↓Zc, ↓Zb, ↓vdn, vup, Zn, Zm, Zi, Zh, Zk, List.map_cons, List.map_nil, cond_true, cond_false, aop, Zv, Zq, Zp, ev, sput, Zt, Zx, Zz, unK, Zd, Zw, Nat.reduceBEq, Nat.reduceAdd, Int.reduceBEq, Int.reduceBNe, Int.reduceLT, Zu, Zy, tup, tyf, if_true]
        exact fin (.inr (Int.ofNat_le.2 (by omega))) _ (by simp (maxSteps := 2000000) only [↓Za, ↓Zl, ↓Zr, ↓Ze, ↓Zo, ↓Zs, ↓Zg, ↓Zj, ↓Zf, ↓Zc, ↓Zb, ↓vdn, vup, Zn, Zm, Zi, Zh, Zk, List.map_cons, List.map_nil, cond_true, cond_false, aop, Zv, Zq, Zp, ev, sput, Zt, Zx, Zz, unK, Zd, Zw, Nat.reduceBEq, Nat.reduceAdd, Int.reduceBEq, Int.reduceBNe, Int.reduceLT, Zu, Zy, tup, tyf])
  · refine Yc fun M hM => ?_
    simp (maxSteps := 2000000) only [s123, ↓Za, ↓Zl, ↓Zr, ↓Ze, ↓Zo, ↓Zs, ↓Zg, ↓Zj, ↓Zf, ↓Zc, ↓Zb, ↓vdn, vup, Zn, Zm, Zi, Zh, Zk, List.map_cons, List.map_nil, cond_true, cond_false, aop, Zv, Zq, Zp, ev, sput, Zt, Zx, Zz, unK, Zd, Zw, Nat.reduceBEq, Nat.reduceAdd, Int.reduceBEq, Int.reduceBNe, Int.reduceLT, Zu, Zy, tup, tyf, hin]
    refine hQ2 _ _ _ (hQ _ _ _ ?_)
    simp (maxSteps := 2000000) only [s123, ↓Za, ↓Zl, ↓Zr, ↓Ze, ↓Zo, ↓Zs, ↓Zg, ↓Zj, ↓Zf, ↓Zc, ↓Zb, ↓vdn, vup, Zn, Zm, Zi, Zh, Zk, List.map_cons, List.map_nil, cond_true, cond_false, aop, Zv, Zq, Zp, ev, sput, Zt, Zx, Zz, unK, Zd, Zw, Nat.reduceBEq, Nat.reduceAdd, Int.reduceBEq, Int.reduceBNe, Int.reduceLT, Zu, Zy, tup, tyf, if_true]
    refine ⟨L, hp, ?_, rfl⟩
    refine (SrtTo.pw (key := kO) ?_).imp fun h => Int.ofNat_le.1 h
    rw [hLn]
    intro p q hpq hq
    exact hs p q hpq (by omega)
theorem wrap8 {x : Nat} (h : x < 256) : IntKind.u8.wrap (x : Int) = (x : Int) := by
  simp [IntKind.wrap, IntKind.signed, IntKind.bits]; omega
theorem s119_callW [Tabs Tryd.prog] {args : List Value} {h : Ya} {Q : Value → Ya → Prop} (hsz : args.length ≤ 25) (hk : AWS Tryd.prog 25 s119 (Zu Tryd.prog [.tmp 2] Q) (Zp 0 args) h) : ACall Tryd.prog 119 args h Q :=
  Xu Tryd.func119 rfl (enters_of Tryd.func119 (by kernel_rfl) rfl) rfl rfl (by decide) s119_strip s119_ok hsz hk
theorem len64_call [Tabs prog] {h : Ya} {x : Nat} (hx : x < 256) : ACall prog 119 [vu x] h fun r h' => (∃ z, r = .int .i64 z) ∧ h' = h := by
  obtain ⟨s, hs, hq⟩ : ∃ s : ByteArray, s.size = 256 ∧ q119_10 = .region [⟨some 19, .move (.tmp 2), none⟩, ⟨some 20, .move (.tmp 0), none⟩, ⟨some 21, .convert 133 5 (.tmp 20), none⟩, ⟨some 22, .index 9 (.const (.string s)) (.tmp 21), none⟩,
      ⟨some 23, .convert 5 3 (.tmp 22), none⟩, ⟨some 24, .binOp .add 3 (.tmp 19) (.tmp 23) 3, none⟩, ⟨some 2, .assign (.tmp 24), none⟩] := by
    refine ⟨_, ?_, rfl⟩
    kernel_rfl
  have hidx : s[x]? = some (s[x]'(by omega)) := getElem?_pos s x (by omega)
  have hnn : ∀ i : Nat, (0 : Int) ≤ (i : Int) := Int.natCast_nonneg
  have n1 : ¬ (4294967296 : Int) ≤ (x : Int) := by omega
  have n2 : ¬ (65536 : Int) ≤ (x : Int) := by omega
  have n3 : ¬ (256 : Int) ≤ (x : Int) := by omega
  refine s119_callW (by simp) ?_
  simp only [s119]
  refine Yc fun N7 hN7 => ?_
  simp (maxSteps := 2000000) only [s119, ↓Za, ↓Zl, ↓Zr, ↓Ze, ↓Zo, ↓Zs, ↓Zg, ↓Zj, ↓Zf, ↓Zc, ↓Zb, ↓vdn, vup, Zn, Zm, Zi, Zh, Zk, List.map_cons, List.map_nil, cond_true, cond_false, aop, Zv, Zq, Zp, ev, sput, Zt, Zx, Zz, unK, Zd, Zw, Nat.reduceBEq, Nat.reduceAdd, Int.reduceBEq, Int.reduceBNe, Int.reduceLT, Zu, Zy, tup, tyf]
  refine hN7 [(0, vu x), (2, .int .i64 0)] _ _ ?_ (by simp (maxSteps := 2000000) only [↓Za, ↓Zl, ↓Zr, ↓Ze, ↓Zo, ↓Zs, ↓Zg, ↓Zj, ↓Zf, ↓Zc, ↓Zb, ↓vdn, vup, Zn, Zm, Zi, Zh, Zk, List.map_cons, List.map_nil, cond_true, cond_false, aop, Zv, Zq, Zp, ev, sput, Zt, Zx, Zz, unK, Zd, Zw, Nat.reduceBEq, Nat.reduceAdd, Int.reduceBEq, Int.reduceBNe, Int.reduceLT, Zu, Zy, tup, tyf])
  clear hN7
  try clear N7
  refine Yc fun N8 hN8 => ?_
  simp (maxSteps := 2000000) only [s119, ↓Za, ↓Zl, ↓Zr, ↓Ze, ↓Zo, ↓Zs, ↓Zg, ↓Zj, ↓Zf, ↓Zc, ↓Zb, ↓vdn, vup, Zn, Zm, Zi, Zh, Zk, List.map_cons, List.map_nil, cond_true, cond_false, aop, Zv, Zq, Zp, ev, sput, Zt, Zx, Zz, unK, Zd, Zw, Nat.reduceBEq, Nat.reduceAdd, Int.reduceBEq, Int.reduceBNe, Int.reduceLT, Zu, Zy, tup, tyf, ge_iff_le, n1]
  refine hN8 [(0, vu x), (2, .int .i64 0)] _ _ ?_ (by simp (maxSteps := 2000000) only [↓Za, ↓Zl, ↓Zr, ↓Ze, ↓Zo, ↓Zs, ↓Zg, ↓Zj, ↓Zf, ↓Zc, ↓Zb, ↓vdn, vup, Zn, Zm, Zi, Zh, Zk, List.map_cons, List.map_nil, cond_true, cond_false, aop, Zv, Zq, Zp, ev, sput, Zt, Zx, Zz, unK, Zd, Zw, Nat.reduceBEq, Nat.reduceAdd, Int.reduceBEq, Int.reduceBNe, Int.reduceLT, Zu, Zy, tup, tyf])
  clear hN8
  try clear N8
  refine Yc fun N9 hN9 => ?_
  simp (maxSteps := 2000000) only [s119, ↓Za, ↓Zl, ↓Zr, ↓Ze, ↓Zo, ↓Zs, ↓Zg, ↓Zj, ↓Zf, ↓Zc, ↓Zb, ↓vdn, vup, Zn, Zm, Zi, Zh, Zk, List.map_cons, List.map_nil, cond_true, cond_false, aop, Zv, Zq, Zp, ev, sput, Zt, Zx, Zz, unK, Zd, Zw, Nat.reduceBEq, Nat.reduceAdd, Int.reduceBEq, Int.reduceBNe, Int.reduceLT, Zu, Zy, tup, tyf, ge_iff_le, n2]
  refine hN9 [(0, vu x), (2, .int .i64 0)] _ _ ?_ (by simp (maxSteps := 2000000) only [↓Za, ↓Zl, ↓Zr, ↓Ze, ↓Zo, ↓Zs, ↓Zg, ↓Zj, ↓Zf, ↓Zc, ↓Zb, ↓vdn, vup, Zn, Zm, Zi, Zh, Zk, List.map_cons, List.map_nil, cond_true, cond_false, aop, Zv, Zq, Zp, ev, sput, Zt, Zx, Zz, unK, Zd, Zw, Nat.reduceBEq, Nat.reduceAdd, Int.reduceBEq, Int.reduceBNe, Int.reduceLT, Zu, Zy, tup, tyf])
  clear hN9
  try clear N9
  refine Yc fun N10 hN10 => ?_
  simp (maxSteps := 2000000) only [s119, ↓Za, ↓Zl, ↓Zr, ↓Ze, ↓Zo, ↓Zs, ↓Zg, ↓Zj, ↓Zf, ↓Zc, ↓Zb, ↓vdn, vup, Zn, Zm, Zi, Zh, Zk, List.map_cons, List.map_nil, cond_true, cond_false, aop, Zv, Zq, Zp, ev, sput, Zt, Zx, Zz, unK, Zd, Zw, Nat.reduceBEq, Nat.reduceAdd, Int.reduceBEq, Int.reduceBNe, Int.reduceLT, Zu, Zy, tup, tyf, ge_iff_le, n3]
  refine hN10 [(0, vu x), (2, .int .i64 0)] _ _ ?_ (by simp (maxSteps := 2000000) only [↓Za, ↓Zl, ↓Zr, ↓Ze, ↓Zo, ↓Zs, ↓Zg, ↓Zj, ↓Zf, ↓Zc, ↓Zb, ↓vdn, vup, Zn, Zm, Zi, Zh, Zk, List.map_cons, List.map_nil, cond_true, cond_false, aop, Zv, Zq, Zp, ev, sput, Zt, Zx, Zz, unK, Zd, Zw, Nat.reduceBEq, Nat.reduceAdd, Int.reduceBEq, Int.reduceBNe, Int.reduceLT, Zu, Zy, tup, tyf])
  clear hN10
  try clear N10
  rw [hq]
  refine Yf ?_
  simp (maxSteps := 2000000) only [s119, ↓Za, ↓Zl, ↓Zr, ↓Ze, ↓Zo, ↓Zs, ↓Zg, ↓Zj, ↓Zf, ↓Zc, ↓Zb, ↓vdn, vup, Zn, Zm, Zi, Zh, Zk, List.map_cons, List.map_nil, cond_true, cond_false, aop, Zv, Zq, Zp, ev, sput, Zt, Zx, Zz, unK, Zd, Zw, Nat.reduceBEq, Nat.reduceAdd, Int.reduceBEq, Int.reduceBNe, Int.reduceLT, Zu, Zy, tup, tyf, convK, und_133, und_5, und_3, wrap8 hx, indexK, und_9, hnn, Int.toNat_natCast, hidx]
  first | exact ⟨⟨_, rfl⟩, rfl⟩ | exact ⟨_, rfl⟩
theorem s108_callW [Tabs Tryd.prog] {args : List Value} {h : Ya} {Q : Value → Ya → Prop} (hsz : args.length ≤ 8) (hk : AWS Tryd.prog 8 s108 (Zu Tryd.prog [.tmp 2] Q) (Zp 0 args) h) : ACall Tryd.prog 108 args h Q :=
  Xu Tryd.func108 rfl (enters_of Tryd.func108 (by kernel_rfl) rfl) rfl rfl (by decide) s108_strip s108_ok hsz hk
theorem len_call [Tabs prog] {h : Ya} {x : Nat} (hx : x < 256) : ACall prog 108 [vu x] h fun r h' => (∃ z, r = .int .i64 z) ∧ h' = h := by
  refine s108_callW (by simp) ?_
  simp only [s108]
  refine Yc fun N11 hN11 => ?_
  simp (maxSteps := 2000000) only [s108, ↓Za, ↓Zl, ↓Zr, ↓Ze, ↓Zo, ↓Zs, ↓Zg, ↓Zj, ↓Zf, ↓Zc, ↓Zb, ↓vdn, vup, Zn, Zm, Zi, Zh, Zk, List.map_cons, List.map_nil, cond_true, cond_false, aop, Zv, Zq, Zp, ev, sput, Zt, Zx, Zz, unK, Zd, Zw, Nat.reduceBEq, Nat.reduceAdd, Int.reduceBEq, Int.reduceBNe, Int.reduceLT, Zu, Zy, tup, tyf]
  refine hN11 [(0, vu x), (2, .int .i64 0)] _ _ ?_ (by simp (maxSteps := 2000000) only [↓Za, ↓Zl, ↓Zr, ↓Ze, ↓Zo, ↓Zs, ↓Zg, ↓Zj, ↓Zf, ↓Zc, ↓Zb, ↓vdn, vup, Zn, Zm, Zi, Zh, Zk, List.map_cons, List.map_nil, cond_true, cond_false, aop, Zv, Zq, Zp, ev, sput, Zt, Zx, Zz, unK, Zd, Zw, Nat.reduceBEq, Nat.reduceAdd, Int.reduceBEq, Int.reduceBNe, Int.reduceLT, Zu, Zy, tup, tyf])
  clear hN11
  try clear N11
  refine Yk fun N12 hN12 => ?_
  refine Ys rfl ?_
  refine Yf ?_
  simp (maxSteps := 2000000) only [s108, ↓Za, ↓Zl, ↓Zr, ↓Ze, ↓Zo, ↓Zs, ↓Zg, ↓Zj, ↓Zf, ↓Zc, ↓Zb, ↓vdn, vup, Zn, Zm, Zi, Zh, Zk, List.map_cons, List.map_nil, cond_true, cond_false, aop, Zv, Zq, Zp, ev, sput, Zt, Zx, Zz, unK, Zd, Zw, Nat.reduceBEq, Nat.reduceAdd, Int.reduceBEq, Int.reduceBNe, Int.reduceLT, Zu, Zy, tup, tyf]
  refine hN12 [(0, vu x), (2, .int .i64 0)] _ _ ?_ (by simp (maxSteps := 2000000) only [↓Za, ↓Zl, ↓Zr, ↓Ze, ↓Zo, ↓Zs, ↓Zg, ↓Zj, ↓Zf, ↓Zc, ↓Zb, ↓vdn, vup, Zn, Zm, Zi, Zh, Zk, List.map_cons, List.map_nil, cond_true, cond_false, aop, Zv, Zq, Zp, ev, sput, Zt, Zx, Zz, unK, Zd, Zw, Nat.reduceBEq, Nat.reduceAdd, Int.reduceBEq, Int.reduceBNe, Int.reduceLT, Zu, Zy, tup, tyf])
  clear hN12
  try clear N12
  refine Yf ?_
  simp (maxSteps := 2000000) only [s108, ↓Za, ↓Zl, ↓Zr, ↓Ze, ↓Zo, ↓Zs, ↓Zg, ↓Zj, ↓Zf, ↓Zc, ↓Zb, ↓vdn, vup, Zn, Zm, Zi, Zh, Zk, List.map_cons, List.map_nil, cond_true, cond_false, aop, Zv, Zq, Zp, ev, sput, Zt, Zx, Zz, unK, Zd, Zw, Nat.reduceBEq, Nat.reduceAdd, Int.reduceBEq, Int.reduceBNe, Int.reduceLT, Zu, Zy, tup, tyf, Yt, List.nil_append, List.append_nil, List.toList_toArray, List.cons_append]
  refine (len64_call hx).mono ?_
  rintro _ h ⟨⟨z, rfl⟩, rfl⟩
  first | exact ⟨⟨z, rfl⟩, rfl⟩ | exact ⟨z, rfl⟩

theorem s113_callW [Tabs Tryd.prog] {args : List Value} {h : Ya} {Q : Value → Ya → Prop} (hsz : args.length ≤ 134) (hk : AWS Tryd.prog 134 s113 (Zu Tryd.prog [] Q) (Zp 0 args) h) : ACall Tryd.prog 113 args h Q :=
  Xu Tryd.func113 rfl (enters_of Tryd.func113 (by kernel_rfl) rfl) rfl rfl (by decide) s113_strip s113_ok hsz hk
theorem pdqO_call [Tabs prog] {h : Ya} {b : Nat} {L0 : List Nat} {ys : List Int} {z : Int} (hb : h[b]? = some (.ints (iL L0 ++ ys) 3 false)) (hl : L0.length ≤ 12) (hx : ∀ x ∈ L0, x < 4611686018427387904) :
    ACall prog 113 [ov b L0.length ys.length, .int .i64 0, Yb L0.length, .int .i64 z] h fun _ h' => ∃ L : List Nat, L.Perm L0 ∧ L.Pairwise (fun a b => a ≤ b) ∧ h' = h.set b (.ints (iL L ++ ys) 3 false) := by
  have hsub : subV .i64 (L0.length : Int) 0 = (L0.length : Int) := by rw [subV_id (by omega) (by omega)]; omega
  have hle : (L0.length : Int) ≤ 12 := by omega
  refine s113_callW (by simp) ?_
  simp only [s113]
  refine Yc fun N13 hN13 => ?_
  simp (maxSteps := 2000000) only [s113, ↓Za, ↓Zl, ↓Zr, ↓Ze, ↓Zo, ↓Zs, ↓Zg, ↓Zj, ↓Zf, ↓Zc, ↓Zb, ↓vdn, vup, Zn, Zm, Zi, Zh, Zk, List.map_cons, List.map_nil, cond_true, cond_false, aop, Zv, Zq, Zp, ev, sput, Zt, Zx, Zz, unK, Zd, Zw, Nat.reduceBEq, Nat.reduceAdd, Int.reduceBEq, Int.reduceBNe, Int.reduceLT, Zu, Zy, tup, tyf]
  refine hN13 [(0, ov b L0.length ys.length), (1, .int .i64 0), (2, Yb L0.length), (3, .int .i64 z), (8, .bool true)] _ _ ?_ (by simp (maxSteps := 2000000) only [↓Za, ↓Zl, ↓Zr, ↓Ze, ↓Zo, ↓Zs, ↓Zg, ↓Zj, ↓Zf, ↓Zc, ↓Zb, ↓vdn, vup, Zn, Zm, Zi, Zh, Zk, List.map_cons, List.map_nil, cond_true, cond_false, aop, Zv, Zq, Zp, ev, sput, Zt, Zx, Zz, unK, Zd, Zw, Nat.reduceBEq, Nat.reduceAdd, Int.reduceBEq, Int.reduceBNe, Int.reduceLT, Zu, Zy, tup, tyf])
  clear hN13
  try clear N13
  refine Yc fun N14 hN14 => ?_
  simp (maxSteps := 2000000) only [s113, ↓Za, ↓Zl, ↓Zr, ↓Ze, ↓Zo, ↓Zs, ↓Zg, ↓Zj, ↓Zf, ↓Zc, ↓Zb, ↓vdn, vup, Zn, Zm, Zi, Zh, Zk, List.map_cons, List.map_nil, cond_true, cond_false, aop, Zv, Zq, Zp, ev, sput, Zt, Zx, Zz, unK, Zd, Zw, Nat.reduceBEq, Nat.reduceAdd, Int.reduceBEq, Int.reduceBNe, Int.reduceLT, Zu, Zy, tup, tyf]
  refine hN14 [(0, ov b L0.length ys.length), (1, .int .i64 0), (2, Yb L0.length), (3, .int .i64 z), (8, .bool true), (9, .bool true)] _ _ ?_ (by simp (maxSteps := 2000000) only [↓Za, ↓Zl, ↓Zr, ↓Ze, ↓Zo, ↓Zs, ↓Zg, ↓Zj, ↓Zf, ↓Zc, ↓Zb, ↓vdn, vup, Zn, Zm, Zi, Zh, Zk, List.map_cons, List.map_nil, cond_true, cond_false, aop, Zv, Zq, Zp, ev, sput, Zt, Zx, Zz, unK, Zd, Zw, Nat.reduceBEq, Nat.reduceAdd, Int.reduceBEq, Int.reduceBNe, Int.reduceLT, Zu, Zy, tup, tyf])
  clear hN14
  try clear N14
  refine Yl ?_
  refine Yj fun Q hQ => ?_
  refine Xt (γ := Unit) (fun _ => True) (fun _ => ([(0, ov b L0.length ys.length), (1, .int .i64 0), (2, Yb L0.length), (3, .int .i64 z), (8, .bool true), (9, .bool true)], h)) (fun _ => 0) () trivial (by simp (maxSteps := 2000000) only [↓Za, ↓Zl, ↓Zr, ↓Ze, ↓Zo, ↓Zs, ↓Zg, ↓Zj, ↓Zf, ↓Zc, ↓Zb, ↓vdn, vup, Zn, Zm, Zi, Zh, Zk, List.map_cons, List.map_nil, cond_true, cond_false, aop, Zv, Zq, Zp, ev, sput, Zt, Zx, Zz, unK, Zd, Zw, Nat.reduceBEq, Nat.reduceAdd, Int.reduceBEq, Int.reduceBNe, Int.reduceLT, Zu, Zy, tup, tyf]) rfl ?_
  rintro _ _
  refine Yj fun Q2 hQ2 => ?_
  simp only [l113_0]
  refine Yl ?_
  refine Yc fun N15 hN15 => ?_
  simp (maxSteps := 2000000) only [s113, ↓Za, ↓Zl, ↓Zr, ↓Ze, ↓Zo, ↓Zs, ↓Zg, ↓Zj, ↓Zf, ↓Zc, ↓Zb, ↓vdn, vup, Zn, Zm, Zi, Zh, Zk, List.map_cons, List.map_nil, cond_true, cond_false, aop, Zv, Zq, Zp, ev, sput, Zt, Zx, Zz, unK, Zd, Zw, Nat.reduceBEq, Nat.reduceAdd, Int.reduceBEq, Int.reduceBNe, Int.reduceLT, Zu, Zy, tup, tyf, hsub]
  refine hN15 [(0, ov b L0.length ys.length), (1, .int .i64 0), (2, Yb L0.length), (3, .int .i64 z), (8, .bool true), (9, .bool true), (10, Yb L0.length)] _ _ ?_ (by simp (maxSteps := 2000000) only [↓Za, ↓Zl, ↓Zr, ↓Ze, ↓Zo, ↓Zs, ↓Zg, ↓Zj, ↓Zf, ↓Zc, ↓Zb, ↓vdn, vup, Zn, Zm, Zi, Zh, Zk, List.map_cons, List.map_nil, cond_true, cond_false, aop, Zv, Zq, Zp, ev, sput, Zt, Zx, Zz, unK, Zd, Zw, Nat.reduceBEq, Nat.reduceAdd, Int.reduceBEq, Int.reduceBNe, Int.reduceLT, Zu, Zy, tup, tyf])
  clear hN15
  try clear N15
  refine Yc fun N16 hN16 => ?_
  simp (maxSteps := 2000000) only [s113, ↓Za, ↓Zl, ↓Zr, ↓Ze, ↓Zo, ↓Zs, ↓Zg, ↓Zj, ↓Zf, ↓Zc, ↓Zb, ↓vdn, vup, Zn, Zm, Zi, Zh, Zk, List.map_cons, List.map_nil, cond_true, cond_false, aop, Zv, Zq, Zp, ev, sput, Zt, Zx, Zz, unK, Zd, Zw, Nat.reduceBEq, Nat.reduceAdd, Int.reduceBEq, Int.reduceBNe, Int.reduceLT, Zu, Zy, tup, tyf, Yt, List.nil_append, List.append_nil, List.toList_toArray, List.cons_append, hle]
  refine (isortO_call hb hl hx).mono ?_
  rintro r h' hr
  refine hQ2 _ _ _ (hQ _ _ _ ?_)
  try simp (maxSteps := 2000000) only [s113, ↓Za, ↓Zl, ↓Zr, ↓Ze, ↓Zo, ↓Zs, ↓Zg, ↓Zj, ↓Zf, ↓Zc, ↓Zb, ↓vdn, vup, Zn, Zm, Zi, Zh, Zk, List.map_cons, List.map_nil, cond_true, cond_false, aop, Zv, Zq, Zp, ev, sput, Zt, Zx, Zz, unK, Zd, Zw, Nat.reduceBEq, Nat.reduceAdd, Int.reduceBEq, Int.reduceBNe, Int.reduceLT, Zu, Zy, tup, tyf]
  exact hr
theorem s99_callW [Tabs Tryd.prog] {args : List Value} {h : Ya} {Q : Value → Ya → Prop} (hsz : args.length ≤ 11) (hk : AWS Tryd.prog 11 s99 (Zu Tryd.prog [] Q) (Zp 0 args) h) : ACall Tryd.prog 99 args h Q :=
  Xu Tryd.func99 rfl (enters_of Tryd.func99 (by kernel_rfl) rfl) rfl rfl (by decide) s99_strip s99_ok hsz hk
theorem sortO_call [Tabs prog] {h : Ya} {b : Nat} {L0 : List Nat} {ys : List Int} (hb : h[b]? = some (.ints (iL L0 ++ ys) 3 false)) (hl : L0.length ≤ 12) (hx : ∀ x ∈ L0, x < 4611686018427387904) :
    ACall prog 99 [ov b L0.length ys.length] h fun _ h' => ∃ L : List Nat, L.Perm L0 ∧ L.Pairwise (fun a b => a ≤ b) ∧ h' = h.set b (.ints (iL L ++ ys) 3 false) := by
  have hw : IntKind.u64.wrap (L0.length : Int) = (L0.length : Int) := wrapU_id (by omega) (by omega)
  refine s99_callW (by simp) ?_
  simp only [s99]
  refine Yc fun N17 hN17 => ?_
  simp (maxSteps := 2000000) only [s99, ↓Za, ↓Zl, ↓Zr, ↓Ze, ↓Zo, ↓Zs, ↓Zg, ↓Zj, ↓Zf, ↓Zc, ↓Zb, ↓vdn, vup, Zn, Zm, Zi, Zh, Zk, List.map_cons, List.map_nil, cond_true, cond_false, aop, Zv, Zq, Zp, ev, sput, Zt, Zx, Zz, unK, Zd, Zw, Nat.reduceBEq, Nat.reduceAdd, Int.reduceBEq, Int.reduceBNe, Int.reduceLT, Zu, Zy, tup, tyf, lenK]
  refine hN17 [(0, ov b L0.length ys.length), (2, Yb L0.length)] _ _ ?_ (by simp (maxSteps := 2000000) only [↓Za, ↓Zl, ↓Zr, ↓Ze, ↓Zo, ↓Zs, ↓Zg, ↓Zj, ↓Zf, ↓Zc, ↓Zb, ↓vdn, vup, Zn, Zm, Zi, Zh, Zk, List.map_cons, List.map_nil, cond_true, cond_false, aop, Zv, Zq, Zp, ev, sput, Zt, Zx, Zz, unK, Zd, Zw, Nat.reduceBEq, Nat.reduceAdd, Int.reduceBEq, Int.reduceBNe, Int.reduceLT, Zu, Zy, tup, tyf])
  clear hN17
  try clear N17
  refine Yf ?_
  simp (maxSteps := 2000000) only [s99, ↓Za, ↓Zl, ↓Zr, ↓Ze, ↓Zo, ↓Zs, ↓Zg, ↓Zj, ↓Zf, ↓Zc, ↓Zb, ↓vdn, vup, Zn, Zm, Zi, Zh, Zk, List.map_cons, List.map_nil, cond_true, cond_false, aop, Zv, Zq, Zp, ev, sput, Zt, Zx, Zz, unK, Zd, Zw, Nat.reduceBEq, Nat.reduceAdd, Int.reduceBEq, Int.reduceBNe, Int.reduceLT, Zu, Zy, tup, tyf, Yt, List.nil_append, List.append_nil, List.toList_toArray, List.cons_append, convK, und_3, und_29, hw]
  refine (len_call (show L0.length < 256 by omega)).mono ?_
  rintro _ h ⟨⟨z, rfl⟩, rfl⟩
  refine (pdqO_call hb hl hx).mono ?_
  rintro r h' hr
  exact hr
end Go.Proofs.Tryd.Am

namespace Ord

theorem sub_len {α : Type} [DecidableEq α] : ∀ {l1 l2 : List α}, l1.Nodup → (∀ a ∈ l1, a ∈ l2) → l1.length ≤ l2.length
  | [], _, _, _ => Nat.zero_le _
  | a :: l1, l2, hn, hs => by
    obtain ⟨ha, hn'⟩ := List.nodup_cons.1 hn
    have hal : a ∈ l2 := hs a (by simp)
    have := sub_len (l1 := l1) (l2 := l2.erase a) hn' fun b hb => (List.mem_erase_of_ne (by rintro rfl; exact ha hb)).2 (hs b (by simp [hb]))
    rw [List.length_erase_of_mem hal] at this
    have := List.length_pos_of_mem hal
    simp only [List.length_cons]; omega
theorem map_nodup {α β : Type} {f : α → β} : ∀ {l : List α}, l.Nodup → (∀ a ∈ l, ∀ b ∈ l, f a = f b → a = b) → (l.map f).Nodup
  | [], _, _ => List.nodup_nil
  | a :: l, hn, hf => by
    obtain ⟨ha, hn'⟩ := List.nodup_cons.1 hn
    rw [List.map_cons, List.nodup_cons]
    refine ⟨fun hm => ?_, map_nodup hn' fun b hb c hc => hf b (by simp [hb]) c (by simp [hc])⟩
    obtain ⟨b, hb, he⟩ := List.mem_map.1 hm
    exact ha (hf b (by simp [hb]) a (by simp) he ▸ hb)

/-- Two elements of a chain. -/
def cmpb (r : Nat → Nat → Bool) (x y : Nat) : Prop := x = y ∨ r x y = true ∨ r y x = true
structure Chn (r : Nat → Nat → Bool) (S : List Nat) (k : Nat) (f : Nat → Nat) : Prop where
  lt : ∀ x ∈ S, f x < k
  ch : ∀ x ∈ S, ∀ y ∈ S, f x = f y → cmpb r x y
structure Ant (r : Nat → Nat → Bool) (S A : List Nat) : Prop where
  sub : ∀ a ∈ A, a ∈ S
  nd : A.Nodup
  an : ∀ a ∈ A, ∀ b ∈ A, r a b = false
section
variable {r : Nat → Nat → Bool} {S A : List Nat} {k : Nat} {f : Nat → Nat}
theorem Chn.inj (hc : Chn r S k f) (ha : Ant r S A) : ∀ a ∈ A, ∀ b ∈ A, f a = f b → a = b := fun a h1 b h2 he => by
  rcases hc.ch a (ha.sub a h1) b (ha.sub b h2) he with h | h | h
  · exact h
  · rw [ha.an a h1 b h2] at h; cases h
  · rw [ha.an b h2 a h1] at h; cases h
theorem Chn.nd (hc : Chn r S k f) (ha : Ant r S A) : (A.map f).Nodup := map_nodup ha.nd (hc.inj ha)
theorem Chn.sub (hc : Chn r S k f) (ha : Ant r S A) : ∀ i ∈ A.map f, i ∈ List.range k := fun i hi => by
  obtain ⟨a, h1, rfl⟩ := List.mem_map.1 hi
  exact List.mem_range.2 (hc.lt a (ha.sub a h1))
/-- An antichain has at most as many elements as there are chains. -/
theorem Chn.le (hc : Chn r S k f) (ha : Ant r S A) : A.length ≤ k := by
  have := sub_len (hc.nd ha) (hc.sub ha)
  simpa using this
end

theorem Ant.mono {r : Nat → Nat → Bool} {S T A : List Nat} (h : Ant r T A) (hs : ∀ a ∈ T, a ∈ S) : Ant r S A := ⟨fun a ha => hs a (h.sub a ha), h.nd, h.an⟩

end Ord

namespace Ord
open Go.Am

/-- Of any two elements of a set: free (or: never). -/
def uni (o : List Int) (s : Nat) (f : Bool) : Bool := (List.range o.length).all fun i => (List.range i).all fun j => !(s.testBit i && (s.testBit j && (fr o i j != f)))
theorem fr_symm (o : List Int) (i j : Nat) : fr o i j = fr o j i := by
  rw [fr, fr, Bool.and_right_comm]
  simp only [ne_comm]
theorem uni_iff {o : List Int} {s : Nat} {f : Bool} (hs : s < 2 ^ o.length) : uni o s f = true ↔ ∀ i j, i ≠ j → s.testBit i = true → s.testBit j = true → fr o i j = f := by
  simp only [uni, List.all_eq_true, List.mem_range, Bool.not_eq_true', Bool.and_eq_false_iff, bne_eq_false_iff_eq]
  have hlt : ∀ i, s.testBit i = true → i < o.length := fun i hi => by
    rcases Nat.lt_or_ge i o.length with h | h
    · exact h
    · rw [Nat.testBit_lt_two_pow (Nat.lt_of_lt_of_le hs (Nat.pow_le_pow_right (by decide) h))] at hi; cases hi
  constructor
  · intro h i j hne hi hj
    have key : ∀ i j, j < i → s.testBit i = true → s.testBit j = true → fr o i j = f := fun i j hji hi hj => by
      rcases h i (hlt i hi) j hji with h1 | h1 | h1
      · rw [hi] at h1; cases h1
      · rw [hj] at h1; cases h1
      · exact h1
    rcases Nat.lt_or_gt_of_ne hne with h1 | h1
    · rw [fr_symm]; exact key j i h1 hj hi
    · exact key i j h1 hi hj
  · intro h i hi j hj
    cases h1 : s.testBit i with
    | false => exact .inl rfl
    | true =>
      cases h2 : s.testBit j with
      | false => exact .inr (.inl rfl)
      | true => exact .inr (.inr (h i j (by omega) h1 h2))
/-- Whether a set is an ideal. -/
def idl (o : List Int) (s : Nat) : Bool := (List.range o.length).all fun i => s.testBit i || decide (bt o i &&& s = 0)
theorem and_zero {a b : Nat} : a &&& b = 0 ↔ ∀ k, a.testBit k = true → b.testBit k = false := by
  constructor
  · intro h k hk
    have := congrArg (fun z => Nat.testBit z k) h
    simpa [Nat.testBit_and, hk] using this
  · intro h
    refine Nat.eq_of_testBit_eq fun k => ?_
    rw [Nat.testBit_and, Nat.zero_testBit]
    cases hk : a.testBit k with
    | false => rfl
    | true => rw [h k hk]; rfl
theorem idl_iff {o : List Int} {s : Nat} : idl o s = true ↔ ∀ i j, i < o.length → s.testBit j = true → ab o i j = true → s.testBit i = true := by
  simp only [idl, List.all_eq_true, List.mem_range, Bool.or_eq_true, decide_eq_true_eq, and_zero]
  constructor
  · intro h i j hi hj hij
    rcases h i hi with h1 | h1
    · exact h1
    · rw [h1 j hij] at hj; cases hj
  · intro h i hi
    cases h1 : s.testBit i with
    | true => exact .inl rfl
    | false =>
      refine .inr fun j hj => ?_
      cases h2 : s.testBit j with
      | false => rfl
      | true => rw [h i j hi h2 hj] at h1; cases h1
def setsL (o : List Int) (p : Nat → Bool) : List Nat := (List.range (2 ^ o.length)).filter p

/-! ### A set of bits out of a list -/
def msk (A : List Nat) : Nat := A.foldl (fun r j => r ||| 2 ^ j) 0
/-! ### The greatest antichain -/
def Xb (o : List Int) : Nat → Nat
  | 0 => 0
  | s + 1 => if uni o s true = true ∧ (bits (Xb o s)).length < (bits s).length then s else Xb o s
theorem antiTo_spec (o : List Int) : ∀ k, 0 < k → Xb o k < k ∧ uni o (Xb o k) true = true ∧ (∀ s, s < k → uni o s true = true → (bits s).length ≤ (bits (Xb o k)).length) ∧ ∀ s, s < Xb o k → uni o s true = true → (bits s).length < (bits (Xb o k)).length
  | 0, h => by omega
  | 1, _ => by
    have h0 : Xb o 1 = 0 := by rw [Xb, Xb]; split <;> rfl
    rw [h0]
    refine ⟨by omega, ?_, fun s hs _ => by rw [show s = 0 by omega]; exact Nat.le_refl _, fun s hs => by omega⟩
    simp [uni]
  | k + 2, _ => by
    obtain ⟨h1, h2, h3, h4⟩ := antiTo_spec o (k + 1) (by omega)
    rw [Xb]
    split
    · rename_i hc
      refine ⟨by omega, hc.1, fun s hs hu => ?_, fun s hs hu => ?_⟩
      · by_cases he : s = k + 1
        · rw [he]; exact Nat.le_refl _
        · have := h3 s (by omega) hu; omega
      · have := h3 s hs hu; omega
    · rename_i hc
      refine ⟨by omega, h2, fun s hs hu => ?_, h4⟩
      by_cases he : s = k + 1
      · subst he
        rcases Nat.lt_or_ge (bits (Xb o (k + 1))).length (bits (k + 1)).length with h5 | h5
        · exact absurd ⟨hu, h5⟩ hc
        · exact h5
      · exact h3 s (by omega) hu
def Wv (o : List Int) : Nat := Xb o (2 ^ o.length)

/-! ### Chains that part a set -/
def Part (o : List Int) : Nat → List Nat → Prop
  | s, [] => s = 0
  | s, c :: cs => c ≠ 0 ∧ Xk c s = 0 ∧ uni o c false = true ∧ Part o (Xk s c) cs
theorem less_bit' {a b k : Nat} : (Xk a b).testBit k = (a.testBit k && !b.testBit k) := Xx a b k
theorem less_le (s c : Nat) : Xk s c ≤ s := by
  have : Xk s c = s &&& Xk s c := Nat.eq_of_testBit_eq fun k => by
    rw [Nat.testBit_and, less_bit', ← Bool.and_assoc, Bool.and_self]
  rw [this]; exact Nat.and_le_left
theorem less_lt {s c : Nat} (h0 : c ≠ 0) (h : Xk c s = 0) : Xk s c < s := by
  refine Nat.lt_of_le_of_ne (less_le s c) fun he => h0 ?_
  refine Nat.eq_of_testBit_eq fun k => ?_
  rw [Nat.zero_testBit]
  cases hk : c.testBit k with
  | false => rfl
  | true =>
    have h1 := Wj.1 h k hk
    have h2 := congrArg (fun z => Nat.testBit z k) he
    simp only [less_bit', h1, hk] at h2
    cases h2
/-- The fewest chains, counted: k suffice, fewer do not. -/
def Fewest (o : List Int) (s k : Nat) : Prop := (∃ cs, Part o s cs ∧ cs.length = k) ∧ ∀ cs, Part o s cs → k ≤ cs.length
theorem Fewest.uniq {o : List Int} {s k l : Nat} (h1 : Fewest o s k) (h2 : Fewest o s l) : k = l := by
  obtain ⟨⟨c1, p1, l1⟩, m1⟩ := h1
  obtain ⟨⟨c2, p2, l2⟩, m2⟩ := h2
  have := m1 c2 p2; have := m2 c1 p1; omega
theorem fewest_zero (o : List Int) : Fewest o 0 0 := ⟨⟨[], rfl, rfl⟩, fun _ _ => Nat.zero_le _⟩
/-- One step: over all first chains. -/
theorem fewest_step {o : List Int} {s k : Nat} {v : Nat → Nat} (h0 : s ≠ 0) (hv : ∀ t, t < s → Fewest o t (v t)) (hex : ∃ c, c ≠ 0 ∧ Xk c s = 0 ∧ uni o c false = true ∧ k = 1 + v (Xk s c))
    (hmin : ∀ c, c ≠ 0 → Xk c s = 0 → uni o c false = true → k ≤ 1 + v (Xk s c)) : Fewest o s k := by
  obtain ⟨c, c0, c1, c2, rfl⟩ := hex
  refine ⟨?_, fun cs hp => ?_⟩
  · obtain ⟨⟨cs, p, l⟩, _⟩ := hv _ (less_lt c0 c1)
    exact ⟨c :: cs, ⟨c0, c1, c2, p⟩, by rw [List.length_cons, l]; omega⟩
  · match cs, hp with
    | [], hp => exact absurd hp h0
    | d :: cs, hp =>
      obtain ⟨d0, d1, d2, p⟩ := hp
      have := (hv _ (less_lt d0 d1)).2 cs p
      have := hmin d d0 d1 d2
      rw [List.length_cons]; omega
theorem uni_single {o : List Int} {i : Nat} : uni o (2 ^ i) false = true := by
  simp only [uni, List.all_eq_true, List.mem_range, Nat.testBit_two_pow]
  intro a _ b hb
  by_cases h1 : i = a
  · have : ¬ i = b := by omega
    simp [this]
  · simp [h1]
theorem low_bit {s : Nat} (h : s ≠ 0) : ∃ i, s.testBit i = true := by
  refine Classical.byContradiction fun hc => h ?_
  refine Nat.eq_of_testBit_eq fun k => ?_
  rw [Nat.zero_testBit, ← Bool.not_eq_true]
  exact fun hk => hc ⟨k, hk⟩
theorem single_sub {s i : Nat} (h : s.testBit i = true) : Xk (2 ^ i) s = 0 := Wj.2 fun k hk => by
  rw [Nat.testBit_two_pow, decide_eq_true_eq] at hk
  exact hk ▸ h
theorem fewest_exTo {o : List Int} : ∀ m t, t ≤ m → ∃ l, Fewest o t l := fun m => by
  induction m with
  | zero => intro t ht; rw [show t = 0 by omega]; exact ⟨0, fewest_zero o⟩
  | succ m ih =>
    intro t ht
    by_cases ht0 : t = 0
    · rw [ht0]; exact ⟨0, fewest_zero o⟩
    obtain ⟨v, hv⟩ := Classical.skolem.1 (show ∀ u, ∃ l, u < t → Fewest o u l from fun u => by
      by_cases hu : u < t
      · obtain ⟨l, hl⟩ := ih u (by omega)
        exact ⟨l, fun _ => hl⟩
      · exact ⟨0, fun h => absurd h hu⟩)
    obtain ⟨i, hi⟩ := low_bit ht0
    obtain ⟨m0, ⟨c, c0, c1, c2, hm⟩, hmin⟩ : ∃ m0, (∃ c, c ≠ 0 ∧ Xk c t = 0 ∧ uni o c false = true ∧ m0 = 1 + v (Xk t c)) ∧ ∀ c, c ≠ 0 → Xk c t = 0 → uni o c false = true → m0 ≤ 1 + v (Xk t c) := by
      have hne : ∃ m0, ∃ c, c ≠ 0 ∧ Xk c t = 0 ∧ uni o c false = true ∧ m0 = 1 + v (Xk t c) := ⟨_, 2 ^ i, Nat.ne_of_gt (Nat.two_pow_pos i), single_sub hi, uni_single, rfl⟩
      have wf : ∀ b m0, m0 ≤ b → (∃ c, c ≠ 0 ∧ Xk c t = 0 ∧ uni o c false = true ∧ m0 = 1 + v (Xk t c)) → ∃ m1, (∃ c, c ≠ 0 ∧ Xk c t = 0 ∧ uni o c false = true ∧ m1 = 1 + v (Xk t c)) ∧ ∀ c, c ≠ 0 → Xk c t = 0 → uni o c false = true → m1 ≤ 1 + v (Xk t c) := fun b => by
        induction b with
        | zero => intro m0 hb h; obtain ⟨c, _, _, _, h⟩ := h; omega
        | succ b ihb =>
          intro m0 hb h
          by_cases hall : ∀ c, c ≠ 0 → Xk c t = 0 → uni o c false = true → m0 ≤ 1 + v (Xk t c)
          · exact ⟨m0, h, hall⟩
          · simp only [Classical.not_forall] at hall
            obtain ⟨c, c0, c1, c2, hlt⟩ := hall
            exact ihb (1 + v (Xk t c)) (by omega) ⟨c, c0, c1, c2, rfl⟩
      obtain ⟨m0, h⟩ := hne
      exact wf m0 m0 (Nat.le_refl _) h
    exact ⟨m0, fewest_step ht0 (fun u hu => hv u hu) ⟨c, c0, c1, c2, hm⟩ hmin⟩
theorem fewest_ex (o : List Int) (t : Nat) : ∃ l, Fewest o t l := fewest_exTo t t (Nat.le_refl _)
/-- The fewest chains that part a set. -/
noncomputable def fw (o : List Int) (t : Nat) : Nat := Classical.choose (fewest_ex o t)
theorem fw_spec (o : List Int) (t : Nat) : Fewest o t (fw o t) := Classical.choose_spec (fewest_ex o t)
theorem fw_zero (o : List Int) : fw o 0 = 0 := (fw_spec o 0).uniq (fewest_zero o)
/-- A chain that may stand first. -/
def okC (o : List Int) (s c : Nat) : Prop := c ≠ 0 ∧ Xk c s = 0 ∧ uni o c false = true
theorem fw_le_one {o : List Int} {s c : Nat} (h : okC o s c) : fw o s ≤ 1 + fw o (Xk s c) := by
  obtain ⟨⟨cs, p, l⟩, _⟩ := fw_spec o (Xk s c)
  have := (fw_spec o s).2 (c :: cs) ⟨h.1, h.2.1, h.2.2, p⟩
  rw [List.length_cons, l] at this; omega
theorem fw_first {o : List Int} {s : Nat} (h0 : s ≠ 0) : ∃ c, okC o s c ∧ fw o s = 1 + fw o (Xk s c) := by
  obtain ⟨⟨cs, p, l⟩, hm⟩ := fw_spec o s
  match cs, p, l with
  | [], p, _ => exact absurd p h0
  | c :: cs, p, l =>
    obtain ⟨c0, c1, c2, p'⟩ := p
    refine ⟨c, ⟨c0, c1, c2⟩, ?_⟩
    have h1 := (fw_spec o (Xk s c)).2 cs p'
    have h2 := fw_le_one (o := o) (s := s) (c := c) ⟨c0, c1, c2⟩
    rw [List.length_cons] at l; omega
/-- No more than there are elements. -/
theorem fewest_le {o : List Int} : ∀ (n s k : Nat), s < 2 ^ n → Fewest o s k → k ≤ n
  | 0, s, k, hs, hk => by
    obtain rfl : s = 0 := by omega
    rw [hk.uniq (fewest_zero o)]; exact Nat.le_refl _
  | n + 1, s, k, hs, hk => by
    cases hb : s.testBit n with
    | false =>
      have : s < 2 ^ n := lt_of_bits fun j hj => by
        by_cases he : j = n
        · rw [he]; exact hb
        · exact Nat.testBit_lt_two_pow (Nat.lt_of_lt_of_le hs (Nat.pow_le_pow_right (by decide) (by omega)))
      have := fewest_le n s k this hk; omega
    | true =>
      have hlt : Xk s (2 ^ n) < 2 ^ n := lt_of_bits fun j hj => by
        rw [less_bit', Nat.testBit_two_pow]
        by_cases he : n = j
        · simp [he]
        · rw [Nat.testBit_lt_two_pow (x := s) (i := j) (Nat.lt_of_lt_of_le hs (Nat.pow_le_pow_right (by decide) (by omega)))]; rfl
      obtain ⟨l, hl⟩ := fewest_ex o (Xk s (2 ^ n))
      have h1 := fewest_le n _ l hlt hl
      obtain ⟨⟨cs, p, pl⟩, _⟩ := hl
      have := hk.2 (2 ^ n :: cs) ⟨Nat.ne_of_gt (Nat.two_pow_pos n), single_sub hb, uni_single, p⟩
      rw [List.length_cons, pl] at this
      omega
theorem fw_le {o : List Int} {n s : Nat} (hs : s < 2 ^ n) : fw o s ≤ n := fewest_le n s _ hs (fw_spec o s)
/-- All that is below a set, and it. -/
def down (o : List Int) (a : Nat) : Nat := msk ((List.range o.length).filter fun i => a.testBit i || !decide (bt o i &&& a = 0))
theorem lt_bit {s n i : Nat} (hs : s < 2 ^ n) (h : s.testBit i = true) : i < n := by
  rcases Nat.lt_or_ge i n with h4 | h4
  · exact h4
  · rw [Nat.testBit_lt_two_pow (Nat.lt_of_lt_of_le hs (Nat.pow_le_pow_right (by decide) h4))] at h; cases h
end Ord

namespace Go.Proofs.Tryd.Am
open Go.Am Ord
set_option maxRecDepth 100000
set_option maxHeartbeats 2000000

theorem ext_app {h hp H' h' : Ya} {w : Value} (hE : Ext (fun _ => False) h hp) (hl : hp.length ≤ H'.length) (hk : ∀ q, q < h.length → H'[q]? = hp[q]?) (hb : ∀ b, Xa w = some b → h.length ≤ b) (hE' : Ext (fun i => Xa w = some i) H' h') : Ext (fun _ => False) h h' := by
  refine ⟨by have := hE.1; have := hE'.1; omega, fun q hq _ => ?_⟩
  have l1 := hE.1
  rw [hE'.2 q (by omega) (fun hb0 => by have := hb q hb0; omega), hk q hq]
  exact hE.2 q hq id
/-- One pair of the test. -/
def uniP (o : List Int) (s : Nat) (f : Bool) (i j : Nat) : Bool := !(s.testBit i && (s.testBit j && (fr o i j != f)))
theorem uni_false {o : List Int} {s : Nat} {f : Bool} {i j : Nat} (hi : i < o.length) (hj : j < i) (h : uniP o s f i j = false) : uni o s f = false := by
  rw [← Bool.not_eq_true]
  intro hc
  have := List.all_eq_true.1 (List.all_eq_true.1 hc i (List.mem_range.2 hi)) j (List.mem_range.2 hj)
  rw [show (!(s.testBit i && (s.testBit j && (fr o i j != f)))) = uniP o s f i j from rfl, h] at this
  cases this

theorem s102_callW [Tabs Tryd.prog] {args : List Value} {h : Ya} {Q : Value → Ya → Prop} (hsz : args.length ≤ 40) (hk : AWS Tryd.prog 40 s102 (Zu Tryd.prog [.tmp 6] Q) (Zp 0 args) h) : ACall Tryd.prog 102 args h Q :=
  Xu Tryd.func102 rfl (enters_of Tryd.func102 (by kernel_rfl) rfl) rfl rfl (by decide) s102_strip s102_ok hsz hk
theorem uniform_call [Tabs prog] {h : Ya} {v : Value} {o : List Int} {s : Nat} {f : Bool} (hv : IntSl h v o) (ho : ord o = true) (hs : s < 2 ^ o.length) : Wo prog 102 [v, Yb (s : Nat), .bool f] h (.bool (uni o s f)) := by
  have hl := Yz ho
  have hp := pow6 hl.2
  refine s102_callW (by simp) ?_
  simp only [s102]
  refine Yc fun N1 hN1 => ?_
  simp (maxSteps := 2000000) only [s102, ↓Za, ↓Zl, ↓Zr, ↓Ze, ↓Zo, ↓Zs, ↓Zg, ↓Zj, ↓Zf, ↓Zc, ↓Zb, ↓vdn, vup, Zn, Zm, Zi, Zh, Zk, List.map_cons, List.map_nil, cond_true, cond_false, aop, Zv, Zq, Zp, ev, sput, Zt, Zx, Zz, unK, Zd, Zw, Nat.reduceBEq, Nat.reduceAdd, Int.reduceBEq, Int.reduceBNe, Int.reduceLT, Zu, Zy, tup, tyf]
  refine hN1 [(0, v), (1, Yb (s : Nat)), (2, .bool f), (6, .bool false)] _ _ ?_ (by simp (maxSteps := 2000000) only [↓Za, ↓Zl, ↓Zr, ↓Ze, ↓Zo, ↓Zs, ↓Zg, ↓Zj, ↓Zf, ↓Zc, ↓Zb, ↓vdn, vup, Zn, Zm, Zi, Zh, Zk, List.map_cons, List.map_nil, cond_true, cond_false, aop, Zv, Zq, Zp, ev, sput, Zt, Zx, Zz, unK, Zd, Zw, Nat.reduceBEq, Nat.reduceAdd, Int.reduceBEq, Int.reduceBNe, Int.reduceLT, Zu, Zy, tup, tyf])
  clear hN1
  try clear N1
  refine Yk fun Z hZ => ?_
  refine Yc fun N2 hN2 => ?_
  simp (maxSteps := 2000000) only [s102, ↓Za, ↓Zl, ↓Zr, ↓Ze, ↓Zo, ↓Zs, ↓Zg, ↓Zj, ↓Zf, ↓Zc, ↓Zb, ↓vdn, vup, Zn, Zm, Zi, Zh, Zk, List.map_cons, List.map_nil, cond_true, cond_false, aop, Zv, Zq, Zp, ev, sput, Zt, Zx, Zz, unK, Zd, Zw, Nat.reduceBEq, Nat.reduceAdd, Int.reduceBEq, Int.reduceBNe, Int.reduceLT, Zu, Zy, tup, tyf, hv.len]
  refine hN2 [(0, v), (1, Yb (s : Nat)), (2, .bool f), (6, .bool false), (9, v), (10, Yb o.length), (11, .int .i64 0)] _ _ ?_ (by simp (maxSteps := 2000000) only [↓Za, ↓Zl, ↓Zr, ↓Ze, ↓Zo, ↓Zs, ↓Zg, ↓Zj, ↓Zf, ↓Zc, ↓Zb, ↓vdn, vup, Zn, Zm, Zi, Zh, Zk, List.map_cons, List.map_nil, cond_true, cond_false, aop, Zv, Zq, Zp, ev, sput, Zt, Zx, Zz, unK, Zd, Zw, Nat.reduceBEq, Nat.reduceAdd, Int.reduceBEq, Int.reduceBNe, Int.reduceLT, Zu, Zy, tup, tyf])
  clear hN2
  try clear N2
  refine Yl ?_
  refine Yj fun Q hQ => ?_
  refine Xt (γ := Nat) (fun i => i ≤ o.length ∧ ∀ a b, a < i → b < a → uniP o s f a b = true) (fun i => ([(0, v), (1, Yb (s : Nat)), (2, .bool f), (6, .bool false), (9, v), (10, Yb o.length), (11, Yb (i : Nat))], h)) (fun i => o.length - i) 0 ⟨Nat.zero_le _, fun a b ha => absurd ha (Nat.not_lt_zero a)⟩ (by simp (maxSteps := 2000000) only [↓Za, ↓Zl, ↓Zr, ↓Ze, ↓Zo, ↓Zs, ↓Zg, ↓Zj, ↓Zf, ↓Zc, ↓Zb, ↓vdn, vup, Zn, Zm, Zi, Zh, Zk, List.map_cons, List.map_nil, cond_true, cond_false, aop, Zv, Zq, Zp, ev, sput, Zt, Zx, Zz, unK, Zd, Zw, Nat.reduceBEq, Nat.reduceAdd, Int.reduceBEq, Int.reduceBNe, Int.reduceLT, Zu, Zy, tup, tyf, Int.natCast_zero]) rfl ?_
  rintro i ⟨hi, hall⟩
  refine Yj fun Q2 hQ2 => ?_
  simp only [l102_1]
  by_cases hin : (i : Int) < o.length
  · have hi' : i < o.length := by omega
    have ret0 : uni o s f = false → ∀ e G, G = h → sget e 6 = .bool false → Q2 .ret e G := by
      intro hf e G hG he
      refine hQ2 _ _ _ (hQ _ _ _ ?_)
      simp (maxSteps := 2000000) only [s102, ↓Za, ↓Zl, ↓Zr, ↓Ze, ↓Zo, ↓Zs, ↓Zg, ↓Zj, ↓Zf, ↓Zc, ↓Zb, ↓vdn, vup, Zn, Zm, Zi, Zh, Zk, List.map_cons, List.map_nil, cond_true, cond_false, aop, Zv, Zq, Zp, ev, sput, Zt, Zx, Zz, unK, Zd, Zw, Nat.reduceBEq, Nat.reduceAdd, Int.reduceBEq, Int.reduceBNe, Int.reduceLT, Zu, Zy, tup, tyf, he, hf]
      exact hG
    refine Yc fun N3 hN3 => ?_
    simp (maxSteps := 2000000) only [s102, ↓Za, ↓Zl, ↓Zr, ↓Ze, ↓Zo, ↓Zs, ↓Zg, ↓Zj, ↓Zf, ↓Zc, ↓Zb, ↓vdn, vup, Zn, Zm, Zi, Zh, Zk, List.map_cons, List.map_nil, cond_true, cond_false, aop, Zv, Zq, Zp, ev, sput, Zt, Zx, Zz, unK, Zd, Zw, Nat.reduceBEq, Nat.reduceAdd, Int.reduceBEq, Int.reduceBNe, Int.reduceLT, Zu, Zy, tup, tyf, hin]
    refine hN3 [(0, v), (1, Yb (s : Nat)), (2, .bool f), (6, .bool false), (9, v), (10, Yb o.length), (11, Yb (i : Nat)), (12, .bool true)] _ _ ?_ (by simp (maxSteps := 2000000) only [↓Za, ↓Zl, ↓Zr, ↓Ze, ↓Zo, ↓Zs, ↓Zg, ↓Zj, ↓Zf, ↓Zc, ↓Zb, ↓vdn, vup, Zn, Zm, Zi, Zh, Zk, List.map_cons, List.map_nil, cond_true, cond_false, aop, Zv, Zq, Zp, ev, sput, Zt, Zx, Zz, unK, Zd, Zw, Nat.reduceBEq, Nat.reduceAdd, Int.reduceBEq, Int.reduceBNe, Int.reduceLT, Zu, Zy, tup, tyf])
    clear hN3
    try clear N3
    refine Yc fun N4 hN4 => ?_
    simp (maxSteps := 2000000) only [s102, ↓Za, ↓Zl, ↓Zr, ↓Ze, ↓Zo, ↓Zs, ↓Zg, ↓Zj, ↓Zf, ↓Zc, ↓Zb, ↓vdn, vup, Zn, Zm, Zi, Zh, Zk, List.map_cons, List.map_nil, cond_true, cond_false, aop, Zv, Zq, Zp, ev, sput, Zt, Zx, Zz, unK, Zd, Zw, Nat.reduceBEq, Nat.reduceAdd, Int.reduceBEq, Int.reduceBNe, Int.reduceLT, Zu, Zy, tup, tyf]
    refine hN4 [(0, v), (1, Yb (s : Nat)), (2, .bool f), (6, .bool false), (9, v), (10, Yb o.length), (11, Yb (i : Nat))] _ _ ?_ (by simp (maxSteps := 2000000) only [↓Za, ↓Zl, ↓Zr, ↓Ze, ↓Zo, ↓Zs, ↓Zg, ↓Zj, ↓Zf, ↓Zc, ↓Zb, ↓vdn, vup, Zn, Zm, Zi, Zh, Zk, List.map_cons, List.map_nil, cond_true, cond_false, aop, Zv, Zq, Zp, ev, sput, Zt, Zx, Zz, unK, Zd, Zw, Nat.reduceBEq, Nat.reduceAdd, Int.reduceBEq, Int.reduceBNe, Int.reduceLT, Zu, Zy, tup, tyf])
    clear hN4
    try clear N4
    refine Yk fun B hB => ?_
    refine Yl ?_
    refine Yc fun N5 hN5 => ?_
    simp (maxSteps := 2000000) only [s102, ↓Za, ↓Zl, ↓Zr, ↓Ze, ↓Zo, ↓Zs, ↓Zg, ↓Zj, ↓Zf, ↓Zc, ↓Zb, ↓vdn, vup, Zn, Zm, Zi, Zh, Zk, List.map_cons, List.map_nil, cond_true, cond_false, aop, Zv, Zq, Zp, ev, sput, Zt, Zx, Zz, unK, Zd, Zw, Nat.reduceBEq, Nat.reduceAdd, Int.reduceBEq, Int.reduceBNe, Int.reduceLT, Zu, Zy, tup, tyf]
    refine hN5 [(0, v), (1, Yb (s : Nat)), (2, .bool f), (6, .bool false), (7, Yb (i : Nat)), (9, v), (10, Yb o.length), (11, Yb (i : Nat))] _ _ ?_ (by simp (maxSteps := 2000000) only [↓Za, ↓Zl, ↓Zr, ↓Ze, ↓Zo, ↓Zs, ↓Zg, ↓Zj, ↓Zf, ↓Zc, ↓Zb, ↓vdn, vup, Zn, Zm, Zi, Zh, Zk, List.map_cons, List.map_nil, cond_true, cond_false, aop, Zv, Zq, Zp, ev, sput, Zt, Zx, Zz, unK, Zd, Zw, Nat.reduceBEq, Nat.reduceAdd, Int.reduceBEq, Int.reduceBNe, Int.reduceLT, Zu, Zy, tup, tyf])
    clear hN5
    try clear N5
    refine Yc fun N6 hN6 => ?_
    simp (maxSteps := 2000000) only [s102, ↓Za, ↓Zl, ↓Zr, ↓Ze, ↓Zo, ↓Zs, ↓Zg, ↓Zj, ↓Zf, ↓Zc, ↓Zb, ↓vdn, vup, Zn, Zm, Zi, Zh, Zk, List.map_cons, List.map_nil, cond_true, cond_false, aop, Zv, Zq, Zp, ev, sput, Zt, Zx, Zz, unK, Zd, Zw, Nat.reduceBEq, Nat.reduceAdd, Int.reduceBEq, Int.reduceBNe, Int.reduceLT, Zu, Zy, tup, tyf]
    refine hN6 [(0, v), (1, Yb (s : Nat)), (2, .bool f), (6, .bool false), (7, Yb (i : Nat)), (9, v), (10, Yb o.length), (11, Yb (i : Nat)), (14, Yb (i : Nat)), (15, .int .i64 0)] _ _ ?_ (by simp (maxSteps := 2000000) only [↓Za, ↓Zl, ↓Zr, ↓Ze, ↓Zo, ↓Zs, ↓Zg, ↓Zj, ↓Zf, ↓Zc, ↓Zb, ↓vdn, vup, Zn, Zm, Zi, Zh, Zk, List.map_cons, List.map_nil, cond_true, cond_false, aop, Zv, Zq, Zp, ev, sput, Zt, Zx, Zz, unK, Zd, Zw, Nat.reduceBEq, Nat.reduceAdd, Int.reduceBEq, Int.reduceBNe, Int.reduceLT, Zu, Zy, tup, tyf])
    clear hN6
    try clear N6
    refine Yl ?_
    refine Yj fun Qa hQa => ?_
    refine Xt (γ := Nat) (fun j => j ≤ i ∧ ∀ b, b < j → uniP o s f i b = true) (fun j => ([(0, v), (1, Yb (s : Nat)), (2, .bool f), (6, .bool false), (7, Yb (i : Nat)), (9, v), (10, Yb o.length), (11, Yb (i : Nat)), (14, Yb (i : Nat)), (15, Yb (j : Nat))], h)) (fun j => i - j) 0 ⟨Nat.zero_le _, fun b hb => absurd hb (Nat.not_lt_zero b)⟩ (by simp (maxSteps := 2000000) only [↓Za, ↓Zl, ↓Zr, ↓Ze, ↓Zo, ↓Zs, ↓Zg, ↓Zj, ↓Zf, ↓Zc, ↓Zb, ↓vdn, vup, Zn, Zm, Zi, Zh, Zk, List.map_cons, List.map_nil, cond_true, cond_false, aop, Zv, Zq, Zp, ev, sput, Zt, Zx, Zz, unK, Zd, Zw, Nat.reduceBEq, Nat.reduceAdd, Int.reduceBEq, Int.reduceBNe, Int.reduceLT, Zu, Zy, tup, tyf, Int.natCast_zero]) rfl ?_
    rintro j ⟨hj, hjall⟩
    refine Yj fun Qb hQb => ?_
    simp only [l102_0]
    by_cases hjin : (j : Int) < i
    · have hj' : j < i := by omega
      have t1 := testV (a := s) (y := i) (by omega)
      have t2 := testV (a := s) (y := j) (by omega)
      have rf := rfree_call hv ho (i := i) (j := j) hi' (by omega)
      refine Yc fun N7 hN7 => ?_
      simp (maxSteps := 2000000) only [s102, ↓Za, ↓Zl, ↓Zr, ↓Ze, ↓Zo, ↓Zs, ↓Zg, ↓Zj, ↓Zf, ↓Zc, ↓Zb, ↓vdn, vup, Zn, Zm, Zi, Zh, Zk, List.map_cons, List.map_nil, cond_true, cond_false, aop, Zv, Zq, Zp, ev, sput, Zt, Zx, Zz, unK, Zd, Zw, Nat.reduceBEq, Nat.reduceAdd, Int.reduceBEq, Int.reduceBNe, Int.reduceLT, Zu, Zy, tup, tyf, hjin]
      refine hN7 [(0, v), (1, Yb (s : Nat)), (2, .bool f), (6, .bool false), (7, Yb (i : Nat)), (9, v), (10, Yb o.length), (11, Yb (i : Nat)), (14, Yb (i : Nat)), (15, Yb (j : Nat)), (16, .bool true)] _ _ ?_ (by simp (maxSteps := 2000000) only [↓Za, ↓Zl, ↓Zr, ↓Ze, ↓Zo, ↓Zs, ↓Zg, ↓Zj, ↓Zf, ↓Zc, ↓Zb, ↓vdn, vup, Zn, Zm, Zi, Zh, Zk, List.map_cons, List.map_nil, cond_true, cond_false, aop, Zv, Zq, Zp, ev, sput, Zt, Zx, Zz, unK, Zd, Zw, Nat.reduceBEq, Nat.reduceAdd, Int.reduceBEq, Int.reduceBNe, Int.reduceLT, Zu, Zy, tup, tyf])
      clear hN7
      try clear N7
      refine Yc fun N8 hN8 => ?_
      simp (maxSteps := 2000000) only [s102, ↓Za, ↓Zl, ↓Zr, ↓Ze, ↓Zo, ↓Zs, ↓Zg, ↓Zj, ↓Zf, ↓Zc, ↓Zb, ↓vdn, vup, Zn, Zm, Zi, Zh, Zk, List.map_cons, List.map_nil, cond_true, cond_false, aop, Zv, Zq, Zp, ev, sput, Zt, Zx, Zz, unK, Zd, Zw, Nat.reduceBEq, Nat.reduceAdd, Int.reduceBEq, Int.reduceBNe, Int.reduceLT, Zu, Zy, tup, tyf]
      refine hN8 [(0, v), (1, Yb (s : Nat)), (2, .bool f), (6, .bool false), (7, Yb (i : Nat)), (9, v), (10, Yb o.length), (11, Yb (i : Nat)), (14, Yb (i : Nat)), (15, Yb (j : Nat))] _ _ ?_ (by simp (maxSteps := 2000000) only [↓Za, ↓Zl, ↓Zr, ↓Ze, ↓Zo, ↓Zs, ↓Zg, ↓Zj, ↓Zf, ↓Zc, ↓Zb, ↓vdn, vup, Zn, Zm, Zi, Zh, Zk, List.map_cons, List.map_nil, cond_true, cond_false, aop, Zv, Zq, Zp, ev, sput, Zt, Zx, Zz, unK, Zd, Zw, Nat.reduceBEq, Nat.reduceAdd, Int.reduceBEq, Int.reduceBNe, Int.reduceLT, Zu, Zy, tup, tyf])
      clear hN8
      try clear N8
      refine Yk fun D hD => ?_
      refine Yl ?_
      refine Yc fun N9 hN9 => ?_
      simp (maxSteps := 2000000) only [s102, ↓Za, ↓Zl, ↓Zr, ↓Ze, ↓Zo, ↓Zs, ↓Zg, ↓Zj, ↓Zf, ↓Zc, ↓Zb, ↓vdn, vup, Zn, Zm, Zi, Zh, Zk, List.map_cons, List.map_nil, cond_true, cond_false, aop, Zv, Zq, Zp, ev, sput, Zt, Zx, Zz, unK, Zd, Zw, Nat.reduceBEq, Nat.reduceAdd, Int.reduceBEq, Int.reduceBNe, Int.reduceLT, Zu, Zy, tup, tyf]
      refine hN9 [(0, v), (1, Yb (s : Nat)), (2, .bool f), (6, .bool false), (7, Yb (i : Nat)), (8, Yb (j : Nat)), (9, v), (10, Yb o.length), (11, Yb (i : Nat)), (14, Yb (i : Nat)), (15, Yb (j : Nat))] _ _ ?_ (by simp (maxSteps := 2000000) only [↓Za, ↓Zl, ↓Zr, ↓Ze, ↓Zo, ↓Zs, ↓Zg, ↓Zj, ↓Zf, ↓Zc, ↓Zb, ↓vdn, vup, Zn, Zm, Zi, Zh, Zk, List.map_cons, List.map_nil, cond_true, cond_false, aop, Zv, Zq, Zp, ev, sput, Zt, Zx, Zz, unK, Zd, Zw, Nat.reduceBEq, Nat.reduceAdd, Int.reduceBEq, Int.reduceBNe, Int.reduceLT, Zu, Zy, tup, tyf])
      clear hN9
      try clear N9
      have goOn : uniP o s f i j = true → ∀ e, ELe e [(0, v), (1, Yb (s : Nat)), (2, .bool f), (6, .bool false), (7, Yb (i : Nat)), (9, v), (10, Yb o.length), (11, Yb (i : Nat)), (14, Yb (i : Nat)), (15, Yb (j : Nat))] → D e h := by
        intro hu e he
        refine hD _ _ _ ?_ he
        refine Yf ?_
        simp (maxSteps := 2000000) only [s102, ↓Za, ↓Zl, ↓Zr, ↓Ze, ↓Zo, ↓Zs, ↓Zg, ↓Zj, ↓Zf, ↓Zc, ↓Zb, ↓vdn, vup, Zn, Zm, Zi, Zh, Zk, List.map_cons, List.map_nil, cond_true, cond_false, aop, Zv, Zq, Zp, ev, sput, Zt, Zx, Zz, unK, Zd, Zw, Nat.reduceBEq, Nat.reduceAdd, Int.reduceBEq, Int.reduceBNe, Int.reduceLT, Zu, Zy, tup, tyf, add1 (show j < 9223372036854775807 by omega)]
        refine hQb _ _ _ ⟨j + 1, ⟨hj', fun b hb => ?_⟩, by omega, by simp (maxSteps := 2000000) only [↓Za, ↓Zl, ↓Zr, ↓Ze, ↓Zo, ↓Zs, ↓Zg, ↓Zj, ↓Zf, ↓Zc, ↓Zb, ↓vdn, vup, Zn, Zm, Zi, Zh, Zk, List.map_cons, List.map_nil, cond_true, cond_false, aop, Zv, Zq, Zp, ev, sput, Zt, Zx, Zz, unK, Zd, Zw, Nat.reduceBEq, Nat.reduceAdd, Int.reduceBEq, Int.reduceBNe, Int.reduceLT, Zu, Zy, tup, tyf], rfl⟩
        by_cases hbj : b = j
        · rw [hbj]; exact hu
        · exact hjall b (by omega)
      refine Yc fun N10 hN10 => ?_
      simp only [q102_7]
      cases hb1 : s.testBit i with
      | false =>
        simp (maxSteps := 2000000) only [s102, ↓Za, ↓Zl, ↓Zr, ↓Ze, ↓Zo, ↓Zs, ↓Zg, ↓Zj, ↓Zf, ↓Zc, ↓Zb, ↓vdn, vup, Zn, Zm, Zi, Zh, Zk, List.map_cons, List.map_nil, cond_true, cond_false, aop, Zv, Zq, Zp, ev, sput, Zt, Zx, Zz, unK, Zd, Zw, Nat.reduceBEq, Nat.reduceAdd, Int.reduceBEq, Int.reduceBNe, Int.reduceLT, Zu, Zy, tup, tyf, t1, hb1, beq1, Bool.false_eq_true, if_false, Int.natCast_nonneg]
        refine hN10 [(0, v), (1, Yb (s : Nat)), (2, .bool f), (6, .bool false), (7, Yb (i : Nat)), (8, Yb (j : Nat)), (9, v), (10, Yb o.length), (11, Yb (i : Nat)), (14, Yb (i : Nat)), (15, Yb (j : Nat)), (37, .bool false)] _ _ ?_ (by simp (maxSteps := 2000000) only [↓Za, ↓Zl, ↓Zr, ↓Ze, ↓Zo, ↓Zs, ↓Zg, ↓Zj, ↓Zf, ↓Zc, ↓Zb, ↓vdn, vup, Zn, Zm, Zi, Zh, Zk, List.map_cons, List.map_nil, cond_true, cond_false, aop, Zv, Zq, Zp, ev, sput, Zt, Zx, Zz, unK, Zd, Zw, Nat.reduceBEq, Nat.reduceAdd, Int.reduceBEq, Int.reduceBNe, Int.reduceLT, Zu, Zy, tup, tyf])
        clear hN10
        try clear N10
        refine Ys rfl ?_
        refine Yf ?_
        simp (maxSteps := 2000000) only [s102, ↓Za, ↓Zl, ↓Zr, ↓Ze, ↓Zo, ↓Zs, ↓Zg, ↓Zj, ↓Zf, ↓Zc, ↓Zb, ↓vdn, vup, Zn, Zm, Zi, Zh, Zk, List.map_cons, List.map_nil, cond_true, cond_false, aop, Zv, Zq, Zp, ev, sput, Zt, Zx, Zz, unK, Zd, Zw, Nat.reduceBEq, Nat.reduceAdd, Int.reduceBEq, Int.reduceBNe, Int.reduceLT, Zu, Zy, tup, tyf]
        exact goOn (by simp [uniP, hb1]) _ (by simp (maxSteps := 2000000) only [↓Za, ↓Zl, ↓Zr, ↓Ze, ↓Zo, ↓Zs, ↓Zg, ↓Zj, ↓Zf, ↓Zc, ↓Zb, ↓vdn, vup, Zn, Zm, Zi, Zh, Zk, List.map_cons, List.map_nil, cond_true, cond_false, aop, Zv, Zq, Zp, ev, sput, Zt, Zx, Zz, unK, Zd, Zw, Nat.reduceBEq, Nat.reduceAdd, Int.reduceBEq, Int.reduceBNe, Int.reduceLT, Zu, Zy, tup, tyf])
      | true =>
        cases hb2 : s.testBit j with
        | false =>
          simp (maxSteps := 2000000) only [s102, ↓Za, ↓Zl, ↓Zr, ↓Ze, ↓Zo, ↓Zs, ↓Zg, ↓Zj, ↓Zf, ↓Zc, ↓Zb, ↓vdn, vup, Zn, Zm, Zi, Zh, Zk, List.map_cons, List.map_nil, cond_true, cond_false, aop, Zv, Zq, Zp, ev, sput, Zt, Zx, Zz, unK, Zd, Zw, Nat.reduceBEq, Nat.reduceAdd, Int.reduceBEq, Int.reduceBNe, Int.reduceLT, Zu, Zy, tup, tyf, t1, t2, hb1, hb2, beq1, Bool.false_eq_true, if_false, if_true, Int.natCast_nonneg]
          refine hN10 [(0, v), (1, Yb (s : Nat)), (2, .bool f), (6, .bool false), (7, Yb (i : Nat)), (8, Yb (j : Nat)), (9, v), (10, Yb o.length), (11, Yb (i : Nat)), (14, Yb (i : Nat)), (15, Yb (j : Nat)), (37, .bool false)] _ _ ?_ (by simp (maxSteps := 2000000) only [↓Za, ↓Zl, ↓Zr, ↓Ze, ↓Zo, ↓Zs, ↓Zg, ↓Zj, ↓Zf, ↓Zc, ↓Zb, ↓vdn, vup, Zn, Zm, Zi, Zh, Zk, List.map_cons, List.map_nil, cond_true, cond_false, aop, Zv, Zq, Zp, ev, sput, Zt, Zx, Zz, unK, Zd, Zw, Nat.reduceBEq, Nat.reduceAdd, Int.reduceBEq, Int.reduceBNe, Int.reduceLT, Zu, Zy, tup, tyf])
          clear hN10
          try clear N10
          refine Ys rfl ?_
          refine Yf ?_
          simp (maxSteps := 2000000) only [s102, ↓Za, ↓Zl, ↓Zr, ↓Ze, ↓Zo, ↓Zs, ↓Zg, ↓Zj, ↓Zf, ↓Zc, ↓Zb, ↓vdn, vup, Zn, Zm, Zi, Zh, Zk, List.map_cons, List.map_nil, cond_true, cond_false, aop, Zv, Zq, Zp, ev, sput, Zt, Zx, Zz, unK, Zd, Zw, Nat.reduceBEq, Nat.reduceAdd, Int.reduceBEq, Int.reduceBNe, Int.reduceLT, Zu, Zy, tup, tyf]
          exact goOn (by simp [uniP, hb2]) _ (by simp (maxSteps := 2000000) only [↓Za, ↓Zl, ↓Zr, ↓Ze, ↓Zo, ↓Zs, ↓Zg, ↓Zj, ↓Zf, ↓Zc, ↓Zb, ↓vdn, vup, Zn, Zm, Zi, Zh, Zk, List.map_cons, List.map_nil, cond_true, cond_false, aop, Zv, Zq, Zp, ev, sput, Zt, Zx, Zz, unK, Zd, Zw, Nat.reduceBEq, Nat.reduceAdd, Int.reduceBEq, Int.reduceBNe, Int.reduceLT, Zu, Zy, tup, tyf])
        | true =>
          refine Wc 12 fun N1 hN1 => ?_
          simp (maxSteps := 2000000) only [s102, ↓Za, ↓Zl, ↓Zr, ↓Ze, ↓Zo, ↓Zs, ↓Zg, ↓Zj, ↓Zf, ↓Zc, ↓Zb, ↓vdn, vup, Zn, Zm, Zi, Zh, Zk, List.map_cons, List.map_nil, cond_true, cond_false, aop, Zv, Zq, Zp, ev, sput, Zt, Zx, Zz, unK, Zd, Zw, Nat.reduceBEq, Nat.reduceAdd, Int.reduceBEq, Int.reduceBNe, Int.reduceLT, Zu, Zy, tup, tyf, List.take_succ_cons, List.take_zero, t1, t2, hb1, hb2, beq1, if_true, Int.natCast_nonneg]
          refine hN1 _ _ ?_
          clear hN1 N1
          simp only [List.drop_succ_cons, List.drop_zero]
          simp (maxSteps := 2000000) only [s102, ↓Za, ↓Zl, ↓Zr, ↓Ze, ↓Zo, ↓Zs, ↓Zg, ↓Zj, ↓Zf, ↓Zc, ↓Zb, ↓vdn, vup, Zn, Zm, Zi, Zh, Zk, List.map_cons, List.map_nil, cond_true, cond_false, aop, Zv, Zq, Zp, ev, sput, Zt, Zx, Zz, unK, Zd, Zw, Nat.reduceBEq, Nat.reduceAdd, Int.reduceBEq, Int.reduceBNe, Int.reduceLT, Zu, Zy, tup, tyf, Yt, List.nil_append, List.append_nil, List.toList_toArray, List.cons_append]
          refine (rf).mono ?_
          rintro _ h ⟨rfl, rfl⟩
          simp (maxSteps := 2000000) only [s102, ↓Za, ↓Zl, ↓Zr, ↓Ze, ↓Zo, ↓Zs, ↓Zg, ↓Zj, ↓Zf, ↓Zc, ↓Zb, ↓vdn, vup, Zn, Zm, Zi, Zh, Zk, List.map_cons, List.map_nil, cond_true, cond_false, aop, Zv, Zq, Zp, ev, sput, Zt, Zx, Zz, unK, Zd, Zw, Nat.reduceBEq, Nat.reduceAdd, Int.reduceBEq, Int.reduceBNe, Int.reduceLT, Zu, Zy, tup, tyf]
          refine hN10 [(0, v), (1, Yb (s : Nat)), (2, .bool f), (6, .bool false), (7, Yb (i : Nat)), (8, Yb (j : Nat)), (9, v), (10, Yb o.length), (11, Yb (i : Nat)), (14, Yb (i : Nat)), (15, Yb (j : Nat)), (37, .bool (fr o i j != f))] _ _ ?_ (by simp (maxSteps := 2000000) only [↓Za, ↓Zl, ↓Zr, ↓Ze, ↓Zo, ↓Zs, ↓Zg, ↓Zj, ↓Zf, ↓Zc, ↓Zb, ↓vdn, vup, Zn, Zm, Zi, Zh, Zk, List.map_cons, List.map_nil, cond_true, cond_false, aop, Zv, Zq, Zp, ev, sput, Zt, Zx, Zz, unK, Zd, Zw, Nat.reduceBEq, Nat.reduceAdd, Int.reduceBEq, Int.reduceBNe, Int.reduceLT, Zu, Zy, tup, tyf])
          clear hN10
          try clear N10
          cases hb3 : (fr o i j != f) with
          | false =>
            refine Ys rfl ?_
            refine Yf ?_
            simp (maxSteps := 2000000) only [s102, ↓Za, ↓Zl, ↓Zr, ↓Ze, ↓Zo, ↓Zs, ↓Zg, ↓Zj, ↓Zf, ↓Zc, ↓Zb, ↓vdn, vup, Zn, Zm, Zi, Zh, Zk, List.map_cons, List.map_nil, cond_true, cond_false, aop, Zv, Zq, Zp, ev, sput, Zt, Zx, Zz, unK, Zd, Zw, Nat.reduceBEq, Nat.reduceAdd, Int.reduceBEq, Int.reduceBNe, Int.reduceLT, Zu, Zy, tup, tyf]
            exact goOn (by simp [uniP, hb1, hb2, hb3]) _ (by simp (maxSteps := 2000000) only [↓Za, ↓Zl, ↓Zr, ↓Ze, ↓Zo, ↓Zs, ↓Zg, ↓Zj, ↓Zf, ↓Zc, ↓Zb, ↓vdn, vup, Zn, Zm, Zi, Zh, Zk, List.map_cons, List.map_nil, cond_true, cond_false, aop, Zv, Zq, Zp, ev, sput, Zt, Zx, Zz, unK, Zd, Zw, Nat.reduceBEq, Nat.reduceAdd, Int.reduceBEq, Int.reduceBNe, Int.reduceLT, Zu, Zy, tup, tyf])
          | true =>
            refine Wb rfl ?_
            refine Yf ?_
            simp (maxSteps := 2000000) only [s102, ↓Za, ↓Zl, ↓Zr, ↓Ze, ↓Zo, ↓Zs, ↓Zg, ↓Zj, ↓Zf, ↓Zc, ↓Zb, ↓vdn, vup, Zn, Zm, Zi, Zh, Zk, List.map_cons, List.map_nil, cond_true, cond_false, aop, Zv, Zq, Zp, ev, sput, Zt, Zx, Zz, unK, Zd, Zw, Nat.reduceBEq, Nat.reduceAdd, Int.reduceBEq, Int.reduceBNe, Int.reduceLT, Zu, Zy, tup, tyf]
            refine hQb _ _ _ (hQa _ _ _ ?_)
            simp (maxSteps := 2000000) only [s102, ↓Za, ↓Zl, ↓Zr, ↓Ze, ↓Zo, ↓Zs, ↓Zg, ↓Zj, ↓Zf, ↓Zc, ↓Zb, ↓vdn, vup, Zn, Zm, Zi, Zh, Zk, List.map_cons, List.map_nil, cond_true, cond_false, aop, Zv, Zq, Zp, ev, sput, Zt, Zx, Zz, unK, Zd, Zw, Nat.reduceBEq, Nat.reduceAdd, Int.reduceBEq, Int.reduceBNe, Int.reduceLT, Zu, Zy, tup, tyf]
            exact ret0 (uni_false hi' hj' (by simp [uniP, hb1, hb2, hb3])) _ _ rfl rfl
    · obtain rfl : i = j := by omega
      refine Yc fun N11 hN11 => ?_
      simp (maxSteps := 2000000) only [s102, ↓Za, ↓Zl, ↓Zr, ↓Ze, ↓Zo, ↓Zs, ↓Zg, ↓Zj, ↓Zf, ↓Zc, ↓Zb, ↓vdn, vup, Zn, Zm, Zi, Zh, Zk, List.map_cons, List.map_nil, cond_true, cond_false, aop, Zv, Zq, Zp, ev, sput, Zt, Zx, Zz, unK, Zd, Zw, Nat.reduceBEq, Nat.reduceAdd, Int.reduceBEq, Int.reduceBNe, Int.reduceLT, Zu, Zy, tup, tyf, hjin]
      refine hN11 [(0, v), (1, Yb (s : Nat)), (2, .bool f), (6, .bool false), (7, Yb (i : Nat)), (9, v), (10, Yb o.length), (11, Yb (i : Nat)), (14, Yb (i : Nat)), (15, Yb (i : Nat)), (16, .bool false)] _ _ ?_ (by simp (maxSteps := 2000000) only [↓Za, ↓Zl, ↓Zr, ↓Ze, ↓Zo, ↓Zs, ↓Zg, ↓Zj, ↓Zf, ↓Zc, ↓Zb, ↓vdn, vup, Zn, Zm, Zi, Zh, Zk, List.map_cons, List.map_nil, cond_true, cond_false, aop, Zv, Zq, Zp, ev, sput, Zt, Zx, Zz, unK, Zd, Zw, Nat.reduceBEq, Nat.reduceAdd, Int.reduceBEq, Int.reduceBNe, Int.reduceLT, Zu, Zy, tup, tyf])
      clear hN11
      try clear N11
      refine Yc fun N12 hN12 => ?_
      simp (maxSteps := 2000000) only [s102, ↓Za, ↓Zl, ↓Zr, ↓Ze, ↓Zo, ↓Zs, ↓Zg, ↓Zj, ↓Zf, ↓Zc, ↓Zb, ↓vdn, vup, Zn, Zm, Zi, Zh, Zk, List.map_cons, List.map_nil, cond_true, cond_false, aop, Zv, Zq, Zp, ev, sput, Zt, Zx, Zz, unK, Zd, Zw, Nat.reduceBEq, Nat.reduceAdd, Int.reduceBEq, Int.reduceBNe, Int.reduceLT, Zu, Zy, tup, tyf]
      refine hQb _ _ _ (hQa _ _ _ ?_)
      simp (maxSteps := 2000000) only [s102, ↓Za, ↓Zl, ↓Zr, ↓Ze, ↓Zo, ↓Zs, ↓Zg, ↓Zj, ↓Zf, ↓Zc, ↓Zb, ↓vdn, vup, Zn, Zm, Zi, Zh, Zk, List.map_cons, List.map_nil, cond_true, cond_false, aop, Zv, Zq, Zp, ev, sput, Zt, Zx, Zz, unK, Zd, Zw, Nat.reduceBEq, Nat.reduceAdd, Int.reduceBEq, Int.reduceBNe, Int.reduceLT, Zu, Zy, tup, tyf, if_true]
      refine hB [(0, v), (1, Yb (s : Nat)), (2, .bool f), (6, .bool false), (9, v), (10, Yb o.length), (11, Yb (i : Nat))] _ _ ?_ (by simp (maxSteps := 2000000) only [↓Za, ↓Zl, ↓Zr, ↓Ze, ↓Zo, ↓Zs, ↓Zg, ↓Zj, ↓Zf, ↓Zc, ↓Zb, ↓vdn, vup, Zn, Zm, Zi, Zh, Zk, List.map_cons, List.map_nil, cond_true, cond_false, aop, Zv, Zq, Zp, ev, sput, Zt, Zx, Zz, unK, Zd, Zw, Nat.reduceBEq, Nat.reduceAdd, Int.reduceBEq, Int.reduceBNe, Int.reduceLT, Zu, Zy, tup, tyf])
      clear hB
      try clear B
      refine Yf ?_
      simp (maxSteps := 2000000) only [s102, ↓Za, ↓Zl, ↓Zr, ↓Ze, ↓Zo, ↓Zs, ↓Zg, ↓Zj, ↓Zf, ↓Zc, ↓Zb, ↓vdn, vup, Zn, Zm, Zi, Zh, Zk, List.map_cons, List.map_nil, cond_true, cond_false, aop, Zv, Zq, Zp, ev, sput, Zt, Zx, Zz, unK, Zd, Zw, Nat.reduceBEq, Nat.reduceAdd, Int.reduceBEq, Int.reduceBNe, Int.reduceLT, Zu, Zy, tup, tyf, add1 (show i < 9223372036854775807 by omega)]
      refine hQ2 _ _ _ ⟨i + 1, ⟨hi', fun a b ha hb => ?_⟩, by omega, by simp (maxSteps := 2000000) only [↓Za, ↓Zl, ↓Zr, ↓Ze, ↓Zo, ↓Zs, ↓Zg, ↓Zj, ↓Zf, ↓Zc, ↓Zb, ↓vdn, vup, Zn, Zm, Zi, Zh, Zk, List.map_cons, List.map_nil, cond_true, cond_false, aop, Zv, Zq, Zp, ev, sput, Zt, Zx, Zz, unK, Zd, Zw, Nat.reduceBEq, Nat.reduceAdd, Int.reduceBEq, Int.reduceBNe, Int.reduceLT, Zu, Zy, tup, tyf], rfl⟩
      by_cases hai : a = i
      · rw [hai] at hb ⊢; exact hjall b hb
      · exact hall a b (by omega) hb
  · obtain rfl : i = o.length := by omega
    refine Yc fun N13 hN13 => ?_
    simp (maxSteps := 2000000) only [s102, ↓Za, ↓Zl, ↓Zr, ↓Ze, ↓Zo, ↓Zs, ↓Zg, ↓Zj, ↓Zf, ↓Zc, ↓Zb, ↓vdn, vup, Zn, Zm, Zi, Zh, Zk, List.map_cons, List.map_nil, cond_true, cond_false, aop, Zv, Zq, Zp, ev, sput, Zt, Zx, Zz, unK, Zd, Zw, Nat.reduceBEq, Nat.reduceAdd, Int.reduceBEq, Int.reduceBNe, Int.reduceLT, Zu, Zy, tup, tyf, hin]
    refine hN13 [(0, v), (1, Yb (s : Nat)), (2, .bool f), (6, .bool false), (9, v), (10, Yb o.length), (11, Yb o.length), (12, .bool false)] _ _ ?_ (by simp (maxSteps := 2000000) only [↓Za, ↓Zl, ↓Zr, ↓Ze, ↓Zo, ↓Zs, ↓Zg, ↓Zj, ↓Zf, ↓Zc, ↓Zb, ↓vdn, vup, Zn, Zm, Zi, Zh, Zk, List.map_cons, List.map_nil, cond_true, cond_false, aop, Zv, Zq, Zp, ev, sput, Zt, Zx, Zz, unK, Zd, Zw, Nat.reduceBEq, Nat.reduceAdd, Int.reduceBEq, Int.reduceBNe, Int.reduceLT, Zu, Zy, tup, tyf])
    clear hN13
    try clear N13
    refine Yc fun N14 hN14 => ?_
    simp (maxSteps := 2000000) only [s102, ↓Za, ↓Zl, ↓Zr, ↓Ze, ↓Zo, ↓Zs, ↓Zg, ↓Zj, ↓Zf, ↓Zc, ↓Zb, ↓vdn, vup, Zn, Zm, Zi, Zh, Zk, List.map_cons, List.map_nil, cond_true, cond_false, aop, Zv, Zq, Zp, ev, sput, Zt, Zx, Zz, unK, Zd, Zw, Nat.reduceBEq, Nat.reduceAdd, Int.reduceBEq, Int.reduceBNe, Int.reduceLT, Zu, Zy, tup, tyf]
    refine hQ2 _ _ _ (hQ _ _ _ ?_)
    simp (maxSteps := 2000000) only [s102, ↓Za, ↓Zl, ↓Zr, ↓Ze, ↓Zo, ↓Zs, ↓Zg, ↓Zj, ↓Zf, ↓Zc, ↓Zb, ↓vdn, vup, Zn, Zm, Zi, Zh, Zk, List.map_cons, List.map_nil, cond_true, cond_false, aop, Zv, Zq, Zp, ev, sput, Zt, Zx, Zz, unK, Zd, Zw, Nat.reduceBEq, Nat.reduceAdd, Int.reduceBEq, Int.reduceBNe, Int.reduceLT, Zu, Zy, tup, tyf, if_true]
    refine hZ [(0, v), (1, Yb (s : Nat)), (2, .bool f), (6, .bool false)] _ _ ?_ (by simp (maxSteps := 2000000) only [↓Za, ↓Zl, ↓Zr, ↓Ze, ↓Zo, ↓Zs, ↓Zg, ↓Zj, ↓Zf, ↓Zc, ↓Zb, ↓vdn, vup, Zn, Zm, Zi, Zh, Zk, List.map_cons, List.map_nil, cond_true, cond_false, aop, Zv, Zq, Zp, ev, sput, Zt, Zx, Zz, unK, Zd, Zw, Nat.reduceBEq, Nat.reduceAdd, Int.reduceBEq, Int.reduceBNe, Int.reduceLT, Zu, Zy, tup, tyf])
    clear hZ
    try clear Z
    have hu : uni o s f = true := List.all_eq_true.2 fun a ha => List.all_eq_true.2 fun b hb => hall a b (List.mem_range.1 ha) (List.mem_range.1 hb)
    refine Yf ?_
    simp (maxSteps := 2000000) only [s102, ↓Za, ↓Zl, ↓Zr, ↓Ze, ↓Zo, ↓Zs, ↓Zg, ↓Zj, ↓Zf, ↓Zc, ↓Zb, ↓vdn, vup, Zn, Zm, Zi, Zh, Zk, List.map_cons, List.map_nil, cond_true, cond_false, aop, Zv, Zq, Zp, ev, sput, Zt, Zx, Zz, unK, Zd, Zw, Nat.reduceBEq, Nat.reduceAdd, Int.reduceBEq, Int.reduceBNe, Int.reduceLT, Zu, Zy, tup, tyf, hu]

theorem s63_callW [Tabs Tryd.prog] {args : List Value} {h : Ya} {Q : Value → Ya → Prop} (hsz : args.length ≤ 8) (hk : AWS Tryd.prog 8 s63 (Zu Tryd.prog [.tmp 4] Q) (Zp 0 args) h) : ACall Tryd.prog 63 args h Q :=
  Xu Tryd.func63 rfl (enters_of Tryd.func63 (by kernel_rfl) rfl) rfl rfl (by decide) s63_strip s63_ok hsz hk
theorem rchain_call [Tabs prog] {h : Ya} {v : Value} {o : List Int} {s : Nat} (hv : IntSl h v o) (ho : ord o = true) (hs : s < 2 ^ o.length) : Wo prog 63 [v, Yb (s : Nat)] h (.bool (uni o s false)) := by
  refine s63_callW (by simp) ?_
  refine Yf ?_
  simp (maxSteps := 2000000) only [s63, ↓Za, ↓Zl, ↓Zr, ↓Ze, ↓Zo, ↓Zs, ↓Zg, ↓Zj, ↓Zf, ↓Zc, ↓Zb, ↓vdn, vup, Zn, Zm, Zi, Zh, Zk, List.map_cons, List.map_nil, cond_true, cond_false, aop, Zv, Zq, Zp, ev, sput, Zt, Zx, Zz, unK, Zd, Zw, Nat.reduceBEq, Nat.reduceAdd, Int.reduceBEq, Int.reduceBNe, Int.reduceLT, Zu, Zy, tup, tyf, Yt, List.nil_append, List.append_nil, List.toList_toArray, List.cons_append]
  refine (uniform_call hv ho hs).mono ?_
  rintro _ h ⟨rfl, rfl⟩
  simp (maxSteps := 2000000) only [s63, ↓Za, ↓Zl, ↓Zr, ↓Ze, ↓Zo, ↓Zs, ↓Zg, ↓Zj, ↓Zf, ↓Zc, ↓Zb, ↓vdn, vup, Zn, Zm, Zi, Zh, Zk, List.map_cons, List.map_nil, cond_true, cond_false, aop, Zv, Zq, Zp, ev, sput, Zt, Zx, Zz, unK, Zd, Zw, Nat.reduceBEq, Nat.reduceAdd, Int.reduceBEq, Int.reduceBNe, Int.reduceLT, Zu, Zy, tup, tyf]
theorem s59_callW [Tabs Tryd.prog] {args : List Value} {h : Ya} {Q : Value → Ya → Prop} (hsz : args.length ≤ 8) (hk : AWS Tryd.prog 8 s59 (Zu Tryd.prog [.tmp 4] Q) (Zp 0 args) h) : ACall Tryd.prog 59 args h Q :=
  Xu Tryd.func59 rfl (enters_of Tryd.func59 (by kernel_rfl) rfl) rfl rfl (by decide) s59_strip s59_ok hsz hk
theorem ranti_call [Tabs prog] {h : Ya} {v : Value} {o : List Int} {s : Nat} (hv : IntSl h v o) (ho : ord o = true) (hs : s < 2 ^ o.length) : Wo prog 59 [v, Yb (s : Nat)] h (.bool (uni o s true)) := by
  refine s59_callW (by simp) ?_
  refine Yf ?_
  simp (maxSteps := 2000000) only [s59, ↓Za, ↓Zl, ↓Zr, ↓Ze, ↓Zo, ↓Zs, ↓Zg, ↓Zj, ↓Zf, ↓Zc, ↓Zb, ↓vdn, vup, Zn, Zm, Zi, Zh, Zk, List.map_cons, List.map_nil, cond_true, cond_false, aop, Zv, Zq, Zp, ev, sput, Zt, Zx, Zz, unK, Zd, Zw, Nat.reduceBEq, Nat.reduceAdd, Int.reduceBEq, Int.reduceBNe, Int.reduceLT, Zu, Zy, tup, tyf, Yt, List.nil_append, List.append_nil, List.toList_toArray, List.cons_append]
  refine (uniform_call hv ho hs).mono ?_
  rintro _ h ⟨rfl, rfl⟩
  simp (maxSteps := 2000000) only [s59, ↓Za, ↓Zl, ↓Zr, ↓Ze, ↓Zo, ↓Zs, ↓Zg, ↓Zj, ↓Zf, ↓Zc, ↓Zb, ↓vdn, vup, Zn, Zm, Zi, Zh, Zk, List.map_cons, List.map_nil, cond_true, cond_false, aop, Zv, Zq, Zp, ev, sput, Zt, Zx, Zz, unK, Zd, Zw, Nat.reduceBEq, Nat.reduceAdd, Int.reduceBEq, Int.reduceBNe, Int.reduceLT, Zu, Zy, tup, tyf]

theorem s61_callW [Tabs Tryd.prog] {args : List Value} {h : Ya} {Q : Value → Ya → Prop} (hsz : args.length ≤ 24) (hk : AWS Tryd.prog 24 s61 (Zu Tryd.prog [.tmp 2] Q) (Zp 0 args) h) : ACall Tryd.prog 61 args h Q :=
  Xu Tryd.func61 rfl (enters_of Tryd.func61 (by kernel_rfl) rfl) rfl rfl (by decide) s61_strip s61_ok hsz hk
theorem rantiM_call [Tabs prog] {h : Ya} {v : Value} {o : List Int} (hv : IntSl h v o) (ho : ord o = true) : Wo prog 61 [v] h (Yb (Wv o : Nat)) := by
  have hl := Yz ho
  have hp := pow6 hl.2
  have hsh : shlV .i64 1 ((o.length : Nat) : Int) = ((2 ^ o.length : Nat) : Int) := by rw [shl1 (by omega), Wu]
  refine s61_callW (by simp) ?_
  simp only [s61]
  refine Yc fun N15 hN15 => ?_
  simp (maxSteps := 2000000) only [s61, ↓Za, ↓Zl, ↓Zr, ↓Ze, ↓Zo, ↓Zs, ↓Zg, ↓Zj, ↓Zf, ↓Zc, ↓Zb, ↓vdn, vup, Zn, Zm, Zi, Zh, Zk, List.map_cons, List.map_nil, cond_true, cond_false, aop, Zv, Zq, Zp, ev, sput, Zt, Zx, Zz, unK, Zd, Zw, Nat.reduceBEq, Nat.reduceAdd, Int.reduceBEq, Int.reduceBNe, Int.reduceLT, Zu, Zy, tup, tyf]
  refine hN15 [(0, v), (2, .int .i64 0)] _ _ ?_ (by simp (maxSteps := 2000000) only [↓Za, ↓Zl, ↓Zr, ↓Ze, ↓Zo, ↓Zs, ↓Zg, ↓Zj, ↓Zf, ↓Zc, ↓Zb, ↓vdn, vup, Zn, Zm, Zi, Zh, Zk, List.map_cons, List.map_nil, cond_true, cond_false, aop, Zv, Zq, Zp, ev, sput, Zt, Zx, Zz, unK, Zd, Zw, Nat.reduceBEq, Nat.reduceAdd, Int.reduceBEq, Int.reduceBNe, Int.reduceLT, Zu, Zy, tup, tyf])
  clear hN15
  try clear N15
  refine Yc fun N16 hN16 => ?_
  simp (maxSteps := 2000000) only [s61, ↓Za, ↓Zl, ↓Zr, ↓Ze, ↓Zo, ↓Zs, ↓Zg, ↓Zj, ↓Zf, ↓Zc, ↓Zb, ↓vdn, vup, Zn, Zm, Zi, Zh, Zk, List.map_cons, List.map_nil, cond_true, cond_false, aop, Zv, Zq, Zp, ev, sput, Zt, Zx, Zz, unK, Zd, Zw, Nat.reduceBEq, Nat.reduceAdd, Int.reduceBEq, Int.reduceBNe, Int.reduceLT, Zu, Zy, tup, tyf]
  refine hN16 [(0, v), (2, .int .i64 0), (3, .int .i64 0)] _ _ ?_ (by simp (maxSteps := 2000000) only [↓Za, ↓Zl, ↓Zr, ↓Ze, ↓Zo, ↓Zs, ↓Zg, ↓Zj, ↓Zf, ↓Zc, ↓Zb, ↓vdn, vup, Zn, Zm, Zi, Zh, Zk, List.map_cons, List.map_nil, cond_true, cond_false, aop, Zv, Zq, Zp, ev, sput, Zt, Zx, Zz, unK, Zd, Zw, Nat.reduceBEq, Nat.reduceAdd, Int.reduceBEq, Int.reduceBNe, Int.reduceLT, Zu, Zy, tup, tyf])
  clear hN16
  try clear N16
  refine Yk fun Z hZ => ?_
  refine Yc fun N17 hN17 => ?_
  simp (maxSteps := 2000000) only [s61, ↓Za, ↓Zl, ↓Zr, ↓Ze, ↓Zo, ↓Zs, ↓Zg, ↓Zj, ↓Zf, ↓Zc, ↓Zb, ↓vdn, vup, Zn, Zm, Zi, Zh, Zk, List.map_cons, List.map_nil, cond_true, cond_false, aop, Zv, Zq, Zp, ev, sput, Zt, Zx, Zz, unK, Zd, Zw, Nat.reduceBEq, Nat.reduceAdd, Int.reduceBEq, Int.reduceBNe, Int.reduceLT, Zu, Zy, tup, tyf, hv.len, hsh, Int.natCast_nonneg]
  refine hN17 [(0, v), (2, .int .i64 0), (3, .int .i64 0), (7, Yb ((2 ^ o.length : Nat) : Nat)), (8, .int .i64 0)] _ _ ?_ (by simp (maxSteps := 2000000) only [↓Za, ↓Zl, ↓Zr, ↓Ze, ↓Zo, ↓Zs, ↓Zg, ↓Zj, ↓Zf, ↓Zc, ↓Zb, ↓vdn, vup, Zn, Zm, Zi, Zh, Zk, List.map_cons, List.map_nil, cond_true, cond_false, aop, Zv, Zq, Zp, ev, sput, Zt, Zx, Zz, unK, Zd, Zw, Nat.reduceBEq, Nat.reduceAdd, Int.reduceBEq, Int.reduceBNe, Int.reduceLT, Zu, Zy, tup, tyf])
  clear hN17
  try clear N17
  refine Yl ?_
  refine Yj fun Q hQ => ?_
  refine Xt (γ := Nat) (fun s => s ≤ 2 ^ o.length) (fun s => ([(0, v), (2, .int .i64 0), (3, Yb (Xb o s : Nat)), (7, Yb ((2 ^ o.length : Nat) : Nat)), (8, Yb (s : Nat))], h)) (fun s => 2 ^ o.length - s) 0 (Nat.zero_le _) (by simp (maxSteps := 2000000) only [↓Za, ↓Zl, ↓Zr, ↓Ze, ↓Zo, ↓Zs, ↓Zg, ↓Zj, ↓Zf, ↓Zc, ↓Zb, ↓vdn, vup, Zn, Zm, Zi, Zh, Zk, List.map_cons, List.map_nil, cond_true, cond_false, aop, Zv, Zq, Zp, ev, sput, Zt, Zx, Zz, unK, Zd, Zw, Nat.reduceBEq, Nat.reduceAdd, Int.reduceBEq, Int.reduceBNe, Int.reduceLT, Zu, Zy, tup, tyf, Int.natCast_zero, Xb]) rfl ?_
  rintro s hs
  refine Yj fun Q2 hQ2 => ?_
  simp only [l61_0]
  by_cases hin : (s : Int) < ((2 ^ o.length : Nat) : Int)
  · have hs' : s < 2 ^ o.length := by omega
    have hat : Xb o s < 64 := by
      rcases Nat.eq_zero_or_pos s with rfl | h0
      · show (0 : Nat) < 64
        decide
      · have := (antiTo_spec o s h0).1; omega
    refine Yc fun N18 hN18 => ?_
    simp (maxSteps := 2000000) only [s61, ↓Za, ↓Zl, ↓Zr, ↓Ze, ↓Zo, ↓Zs, ↓Zg, ↓Zj, ↓Zf, ↓Zc, ↓Zb, ↓vdn, vup, Zn, Zm, Zi, Zh, Zk, List.map_cons, List.map_nil, cond_true, cond_false, aop, Zv, Zq, Zp, ev, sput, Zt, Zx, Zz, unK, Zd, Zw, Nat.reduceBEq, Nat.reduceAdd, Int.reduceBEq, Int.reduceBNe, Int.reduceLT, Zu, Zy, tup, tyf, hin]
    refine hN18 [(0, v), (2, .int .i64 0), (3, Yb (Xb o s : Nat)), (7, Yb ((2 ^ o.length : Nat) : Nat)), (8, Yb (s : Nat)), (9, .bool true)] _ _ ?_ (by simp (maxSteps := 2000000) only [↓Za, ↓Zl, ↓Zr, ↓Ze, ↓Zo, ↓Zs, ↓Zg, ↓Zj, ↓Zf, ↓Zc, ↓Zb, ↓vdn, vup, Zn, Zm, Zi, Zh, Zk, List.map_cons, List.map_nil, cond_true, cond_false, aop, Zv, Zq, Zp, ev, sput, Zt, Zx, Zz, unK, Zd, Zw, Nat.reduceBEq, Nat.reduceAdd, Int.reduceBEq, Int.reduceBNe, Int.reduceLT, Zu, Zy, tup, tyf])
    clear hN18
    try clear N18
    refine Yc fun N19 hN19 => ?_
    simp (maxSteps := 2000000) only [s61, ↓Za, ↓Zl, ↓Zr, ↓Ze, ↓Zo, ↓Zs, ↓Zg, ↓Zj, ↓Zf, ↓Zc, ↓Zb, ↓vdn, vup, Zn, Zm, Zi, Zh, Zk, List.map_cons, List.map_nil, cond_true, cond_false, aop, Zv, Zq, Zp, ev, sput, Zt, Zx, Zz, unK, Zd, Zw, Nat.reduceBEq, Nat.reduceAdd, Int.reduceBEq, Int.reduceBNe, Int.reduceLT, Zu, Zy, tup, tyf]
    refine hN19 [(0, v), (2, .int .i64 0), (3, Yb (Xb o s : Nat)), (7, Yb ((2 ^ o.length : Nat) : Nat)), (8, Yb (s : Nat))] _ _ ?_ (by simp (maxSteps := 2000000) only [↓Za, ↓Zl, ↓Zr, ↓Ze, ↓Zo, ↓Zs, ↓Zg, ↓Zj, ↓Zf, ↓Zc, ↓Zb, ↓vdn, vup, Zn, Zm, Zi, Zh, Zk, List.map_cons, List.map_nil, cond_true, cond_false, aop, Zv, Zq, Zp, ev, sput, Zt, Zx, Zz, unK, Zd, Zw, Nat.reduceBEq, Nat.reduceAdd, Int.reduceBEq, Int.reduceBNe, Int.reduceLT, Zu, Zy, tup, tyf])
    clear hN19
    try clear N19
    refine Yk fun B hB => ?_
    refine Yl ?_
    refine Yc fun N20 hN20 => ?_
    simp (maxSteps := 2000000) only [s61, ↓Za, ↓Zl, ↓Zr, ↓Ze, ↓Zo, ↓Zs, ↓Zg, ↓Zj, ↓Zf, ↓Zc, ↓Zb, ↓vdn, vup, Zn, Zm, Zi, Zh, Zk, List.map_cons, List.map_nil, cond_true, cond_false, aop, Zv, Zq, Zp, ev, sput, Zt, Zx, Zz, unK, Zd, Zw, Nat.reduceBEq, Nat.reduceAdd, Int.reduceBEq, Int.reduceBNe, Int.reduceLT, Zu, Zy, tup, tyf]
    refine hN20 [(0, v), (2, .int .i64 0), (3, Yb (Xb o s : Nat)), (4, Yb (s : Nat)), (7, Yb ((2 ^ o.length : Nat) : Nat)), (8, Yb (s : Nat))] _ _ ?_ (by simp (maxSteps := 2000000) only [↓Za, ↓Zl, ↓Zr, ↓Ze, ↓Zo, ↓Zs, ↓Zg, ↓Zj, ↓Zf, ↓Zc, ↓Zb, ↓vdn, vup, Zn, Zm, Zi, Zh, Zk, List.map_cons, List.map_nil, cond_true, cond_false, aop, Zv, Zq, Zp, ev, sput, Zt, Zx, Zz, unK, Zd, Zw, Nat.reduceBEq, Nat.reduceAdd, Int.reduceBEq, Int.reduceBNe, Int.reduceLT, Zu, Zy, tup, tyf])
    clear hN20
    try clear N20
    have goOn : ∀ e, ELe e [(0, v), (2, .int .i64 0), (3, Yb (Xb o (s + 1) : Nat)), (7, Yb ((2 ^ o.length : Nat) : Nat)), (8, Yb (s : Nat))] → B e h := by
      intro e he
      refine hB _ _ _ ?_ he
      refine Yf ?_
      simp (maxSteps := 2000000) only [s61, ↓Za, ↓Zl, ↓Zr, ↓Ze, ↓Zo, ↓Zs, ↓Zg, ↓Zj, ↓Zf, ↓Zc, ↓Zb, ↓vdn, vup, Zn, Zm, Zi, Zh, Zk, List.map_cons, List.map_nil, cond_true, cond_false, aop, Zv, Zq, Zp, ev, sput, Zt, Zx, Zz, unK, Zd, Zw, Nat.reduceBEq, Nat.reduceAdd, Int.reduceBEq, Int.reduceBNe, Int.reduceLT, Zu, Zy, tup, tyf, add1 (show s < 9223372036854775807 by omega)]
      exact hQ2 _ _ _ ⟨s + 1, hs', by omega, by simp (maxSteps := 2000000) only [↓Za, ↓Zl, ↓Zr, ↓Ze, ↓Zo, ↓Zs, ↓Zg, ↓Zj, ↓Zf, ↓Zc, ↓Zb, ↓vdn, vup, Zn, Zm, Zi, Zh, Zk, List.map_cons, List.map_nil, cond_true, cond_false, aop, Zv, Zq, Zp, ev, sput, Zt, Zx, Zz, unK, Zd, Zw, Nat.reduceBEq, Nat.reduceAdd, Int.reduceBEq, Int.reduceBNe, Int.reduceLT, Zu, Zy, tup, tyf], rfl⟩
    refine Yc fun N21 hN21 => ?_
    simp only [q61_5]
    simp (maxSteps := 2000000) only [s61, ↓Za, ↓Zl, ↓Zr, ↓Ze, ↓Zo, ↓Zs, ↓Zg, ↓Zj, ↓Zf, ↓Zc, ↓Zb, ↓vdn, vup, Zn, Zm, Zi, Zh, Zk, List.map_cons, List.map_nil, cond_true, cond_false, aop, Zv, Zq, Zp, ev, sput, Zt, Zx, Zz, unK, Zd, Zw, Nat.reduceBEq, Nat.reduceAdd, Int.reduceBEq, Int.reduceBNe, Int.reduceLT, Zu, Zy, tup, tyf, Yt, List.nil_append, List.append_nil, List.toList_toArray, List.cons_append]
    refine (ranti_call hv ho hs').mono ?_
    rintro _ h ⟨rfl, rfl⟩
    cases hu : uni o s true with
    | false =>
      simp (maxSteps := 2000000) only [s61, ↓Za, ↓Zl, ↓Zr, ↓Ze, ↓Zo, ↓Zs, ↓Zg, ↓Zj, ↓Zf, ↓Zc, ↓Zb, ↓vdn, vup, Zn, Zm, Zi, Zh, Zk, List.map_cons, List.map_nil, cond_true, cond_false, aop, Zv, Zq, Zp, ev, sput, Zt, Zx, Zz, unK, Zd, Zw, Nat.reduceBEq, Nat.reduceAdd, Int.reduceBEq, Int.reduceBNe, Int.reduceLT, Zu, Zy, tup, tyf]
      refine hN21 [(0, v), (2, .int .i64 0), (3, Yb (Xb o s : Nat)), (4, Yb (s : Nat)), (7, Yb ((2 ^ o.length : Nat) : Nat)), (8, Yb (s : Nat)), (20, .bool false)] _ _ ?_ (by simp (maxSteps := 2000000) only [↓Za, ↓Zl, ↓Zr, ↓Ze, ↓Zo, ↓Zs, ↓Zg, ↓Zj, ↓Zf, ↓Zc, ↓Zb, ↓vdn, vup, Zn, Zm, Zi, Zh, Zk, List.map_cons, List.map_nil, cond_true, cond_false, aop, Zv, Zq, Zp, ev, sput, Zt, Zx, Zz, unK, Zd, Zw, Nat.reduceBEq, Nat.reduceAdd, Int.reduceBEq, Int.reduceBNe, Int.reduceLT, Zu, Zy, tup, tyf])
      clear hN21
      try clear N21
      refine Ys rfl ?_
      refine Yf ?_
      simp (maxSteps := 2000000) only [s61, ↓Za, ↓Zl, ↓Zr, ↓Ze, ↓Zo, ↓Zs, ↓Zg, ↓Zj, ↓Zf, ↓Zc, ↓Zb, ↓vdn, vup, Zn, Zm, Zi, Zh, Zk, List.map_cons, List.map_nil, cond_true, cond_false, aop, Zv, Zq, Zp, ev, sput, Zt, Zx, Zz, unK, Zd, Zw, Nat.reduceBEq, Nat.reduceAdd, Int.reduceBEq, Int.reduceBNe, Int.reduceLT, Zu, Zy, tup, tyf]
      have he : Xb o (s + 1) = Xb o s := by rw [Xb, if_neg (by simp [hu])]
      exact goOn _ (by simp (maxSteps := 2000000) only [↓Za, ↓Zl, ↓Zr, ↓Ze, ↓Zo, ↓Zs, ↓Zg, ↓Zj, ↓Zf, ↓Zc, ↓Zb, ↓vdn, vup, Zn, Zm, Zi, Zh, Zk, List.map_cons, List.map_nil, cond_true, cond_false, aop, Zv, Zq, Zp, ev, sput, Zt, Zx, Zz, unK, Zd, Zw, Nat.reduceBEq, Nat.reduceAdd, Int.reduceBEq, Int.reduceBNe, Int.reduceLT, Zu, Zy, tup, tyf, he])
    | true =>
      simp (maxSteps := 2000000) only [s61, ↓Za, ↓Zl, ↓Zr, ↓Ze, ↓Zo, ↓Zs, ↓Zg, ↓Zj, ↓Zf, ↓Zc, ↓Zb, ↓vdn, vup, Zn, Zm, Zi, Zh, Zk, List.map_cons, List.map_nil, cond_true, cond_false, aop, Zv, Zq, Zp, ev, sput, Zt, Zx, Zz, unK, Zd, Zw, Nat.reduceBEq, Nat.reduceAdd, Int.reduceBEq, Int.reduceBNe, Int.reduceLT, Zu, Zy, tup, tyf, Yt, List.nil_append, List.append_nil, List.toList_toArray, List.cons_append]
      refine (size_call (show s < 9223372036854775808 by omega)).mono ?_
      rintro _ h ⟨rfl, rfl⟩
      refine (size_call (show Xb o s < 9223372036854775808 by omega)).mono ?_
      rintro _ h ⟨rfl, rfl⟩
      by_cases hlt : (Am.bits (Xb o s)).length < (Am.bits s).length
      · have hlt2 : (((Am.bits (Xb o s)).length : Nat) : Int) < (((Am.bits s).length : Nat) : Int) := by omega
        simp (maxSteps := 2000000) only [s61, ↓Za, ↓Zl, ↓Zr, ↓Ze, ↓Zo, ↓Zs, ↓Zg, ↓Zj, ↓Zf, ↓Zc, ↓Zb, ↓vdn, vup, Zn, Zm, Zi, Zh, Zk, List.map_cons, List.map_nil, cond_true, cond_false, aop, Zv, Zq, Zp, ev, sput, Zt, Zx, Zz, unK, Zd, Zw, Nat.reduceBEq, Nat.reduceAdd, Int.reduceBEq, Int.reduceBNe, Int.reduceLT, Zu, Zy, tup, tyf, gt_iff_lt, decide_eq_true hlt2]
        refine hN21 [(0, v), (2, .int .i64 0), (3, Yb (Xb o s : Nat)), (4, Yb (s : Nat)), (7, Yb ((2 ^ o.length : Nat) : Nat)), (8, Yb (s : Nat)), (20, .bool true)] _ _ ?_ (by simp (maxSteps := 2000000) only [↓Za, ↓Zl, ↓Zr, ↓Ze, ↓Zo, ↓Zs, ↓Zg, ↓Zj, ↓Zf, ↓Zc, ↓Zb, ↓vdn, vup, Zn, Zm, Zi, Zh, Zk, List.map_cons, List.map_nil, cond_true, cond_false, aop, Zv, Zq, Zp, ev, sput, Zt, Zx, Zz, unK, Zd, Zw, Nat.reduceBEq, Nat.reduceAdd, Int.reduceBEq, Int.reduceBNe, Int.reduceLT, Zu, Zy, tup, tyf])
        clear hN21
        try clear N21
        refine Wb rfl ?_
        refine Yf ?_
        simp (maxSteps := 2000000) only [s61, ↓Za, ↓Zl, ↓Zr, ↓Ze, ↓Zo, ↓Zs, ↓Zg, ↓Zj, ↓Zf, ↓Zc, ↓Zb, ↓vdn, vup, Zn, Zm, Zi, Zh, Zk, List.map_cons, List.map_nil, cond_true, cond_false, aop, Zv, Zq, Zp, ev, sput, Zt, Zx, Zz, unK, Zd, Zw, Nat.reduceBEq, Nat.reduceAdd, Int.reduceBEq, Int.reduceBNe, Int.reduceLT, Zu, Zy, tup, tyf]
        have he : Xb o (s + 1) = s := by rw [Xb, if_pos ⟨hu, hlt⟩]
        exact goOn _ (by simp (maxSteps := 2000000) only [↓Za, ↓Zl, ↓Zr, ↓Ze, ↓Zo, ↓Zs, ↓Zg, ↓Zj, ↓Zf, ↓Zc, ↓Zb, ↓vdn, vup, Zn, Zm, Zi, Zh, Zk, List.map_cons, List.map_nil, cond_true, cond_false, aop, Zv, Zq, Zp, ev, sput, Zt, Zx, Zz, unK, Zd, Zw, Nat.reduceBEq, Nat.reduceAdd, Int.reduceBEq, Int.reduceBNe, Int.reduceLT, Zu, Zy, tup, tyf, he])
      · have hlt2 : ¬ (((Am.bits (Xb o s)).length : Nat) : Int) < (((Am.bits s).length : Nat) : Int) := by omega
        simp (maxSteps := 2000000) only [s61, ↓Za, ↓Zl, ↓Zr, ↓Ze, ↓Zo, ↓Zs, ↓Zg, ↓Zj, ↓Zf, ↓Zc, ↓Zb, ↓vdn, vup, Zn, Zm, Zi, Zh, Zk, List.map_cons, List.map_nil, cond_true, cond_false, aop, Zv, Zq, Zp, ev, sput, Zt, Zx, Zz, unK, Zd, Zw, Nat.reduceBEq, Nat.reduceAdd, Int.reduceBEq, Int.reduceBNe, Int.reduceLT, Zu, Zy, tup, tyf, gt_iff_lt, decide_eq_false hlt2]
        refine hN21 [(0, v), (2, .int .i64 0), (3, Yb (Xb o s : Nat)), (4, Yb (s : Nat)), (7, Yb ((2 ^ o.length : Nat) : Nat)), (8, Yb (s : Nat)), (20, .bool false)] _ _ ?_ (by simp (maxSteps := 2000000) only [↓Za, ↓Zl, ↓Zr, ↓Ze, ↓Zo, ↓Zs, ↓Zg, ↓Zj, ↓Zf, ↓Zc, ↓Zb, ↓vdn, vup, Zn, Zm, Zi, Zh, Zk, List.map_cons, List.map_nil, cond_true, cond_false, aop, Zv, Zq, Zp, ev, sput, Zt, Zx, Zz, unK, Zd, Zw, Nat.reduceBEq, Nat.reduceAdd, Int.reduceBEq, Int.reduceBNe, Int.reduceLT, Zu, Zy, tup, tyf])
        clear hN21
        try clear N21
        refine Ys rfl ?_
        refine Yf ?_
        simp (maxSteps := 2000000) only [s61, ↓Za, ↓Zl, ↓Zr, ↓Ze, ↓Zo, ↓Zs, ↓Zg, ↓Zj, ↓Zf, ↓Zc, ↓Zb, ↓vdn, vup, Zn, Zm, Zi, Zh, Zk, List.map_cons, List.map_nil, cond_true, cond_false, aop, Zv, Zq, Zp, ev, sput, Zt, Zx, Zz, unK, Zd, Zw, Nat.reduceBEq, Nat.reduceAdd, Int.reduceBEq, Int.reduceBNe, Int.reduceLT, Zu, Zy, tup, tyf]
        have he : Xb o (s + 1) = Xb o s := by rw [Xb, if_neg (fun hc => hlt hc.2)]
        exact goOn _ (by simp (maxSteps := 2000000) only [↓Za, ↓Zl, ↓Zr, ↓Ze, ↓Zo, ↓Zs, ↓Zg, ↓Zj, ↓Zf, ↓Zc, ↓Zb, ↓vdn, vup, Zn, Zm, Zi, Zh, Zk, List.map_cons, List.map_nil, cond_true, cond_false, aop, Zv, Zq, Zp, ev, sput, Zt, Zx, Zz, unK, Zd, Zw, Nat.reduceBEq, Nat.reduceAdd, Int.reduceBEq, Int.reduceBNe, Int.reduceLT, Zu, Zy, tup, tyf, he])
  · obtain rfl : s = 2 ^ o.length := by omega
    refine Yc fun N22 hN22 => ?_
    simp (maxSteps := 2000000) only [s61, ↓Za, ↓Zl, ↓Zr, ↓Ze, ↓Zo, ↓Zs, ↓Zg, ↓Zj, ↓Zf, ↓Zc, ↓Zb, ↓vdn, vup, Zn, Zm, Zi, Zh, Zk, List.map_cons, List.map_nil, cond_true, cond_false, aop, Zv, Zq, Zp, ev, sput, Zt, Zx, Zz, unK, Zd, Zw, Nat.reduceBEq, Nat.reduceAdd, Int.reduceBEq, Int.reduceBNe, Int.reduceLT, Zu, Zy, tup, tyf, hin]
    refine hN22 [(0, v), (2, .int .i64 0), (3, Yb (Xb o (2 ^ o.length) : Nat)), (7, Yb ((2 ^ o.length : Nat) : Nat)), (8, Yb ((2 ^ o.length : Nat) : Nat)), (9, .bool false)] _ _ ?_ (by simp (maxSteps := 2000000) only [↓Za, ↓Zl, ↓Zr, ↓Ze, ↓Zo, ↓Zs, ↓Zg, ↓Zj, ↓Zf, ↓Zc, ↓Zb, ↓vdn, vup, Zn, Zm, Zi, Zh, Zk, List.map_cons, List.map_nil, cond_true, cond_false, aop, Zv, Zq, Zp, ev, sput, Zt, Zx, Zz, unK, Zd, Zw, Nat.reduceBEq, Nat.reduceAdd, Int.reduceBEq, Int.reduceBNe, Int.reduceLT, Zu, Zy, tup, tyf])
    clear hN22
    try clear N22
    refine Yc fun N23 hN23 => ?_
    simp (maxSteps := 2000000) only [s61, ↓Za, ↓Zl, ↓Zr, ↓Ze, ↓Zo, ↓Zs, ↓Zg, ↓Zj, ↓Zf, ↓Zc, ↓Zb, ↓vdn, vup, Zn, Zm, Zi, Zh, Zk, List.map_cons, List.map_nil, cond_true, cond_false, aop, Zv, Zq, Zp, ev, sput, Zt, Zx, Zz, unK, Zd, Zw, Nat.reduceBEq, Nat.reduceAdd, Int.reduceBEq, Int.reduceBNe, Int.reduceLT, Zu, Zy, tup, tyf]
    refine hQ2 _ _ _ (hQ _ _ _ ?_)
    simp (maxSteps := 2000000) only [s61, ↓Za, ↓Zl, ↓Zr, ↓Ze, ↓Zo, ↓Zs, ↓Zg, ↓Zj, ↓Zf, ↓Zc, ↓Zb, ↓vdn, vup, Zn, Zm, Zi, Zh, Zk, List.map_cons, List.map_nil, cond_true, cond_false, aop, Zv, Zq, Zp, ev, sput, Zt, Zx, Zz, unK, Zd, Zw, Nat.reduceBEq, Nat.reduceAdd, Int.reduceBEq, Int.reduceBNe, Int.reduceLT, Zu, Zy, tup, tyf, if_true]
    refine hZ [(0, v), (2, .int .i64 0), (3, Yb (Xb o (2 ^ o.length) : Nat))] _ _ ?_ (by simp (maxSteps := 2000000) only [↓Za, ↓Zl, ↓Zr, ↓Ze, ↓Zo, ↓Zs, ↓Zg, ↓Zj, ↓Zf, ↓Zc, ↓Zb, ↓vdn, vup, Zn, Zm, Zi, Zh, Zk, List.map_cons, List.map_nil, cond_true, cond_false, aop, Zv, Zq, Zp, ev, sput, Zt, Zx, Zz, unK, Zd, Zw, Nat.reduceBEq, Nat.reduceAdd, Int.reduceBEq, Int.reduceBNe, Int.reduceLT, Zu, Zy, tup, tyf])
    clear hZ
    try clear Z
    refine Yf ?_
    simp (maxSteps := 2000000) only [s61, ↓Za, ↓Zl, ↓Zr, ↓Ze, ↓Zo, ↓Zs, ↓Zg, ↓Zj, ↓Zf, ↓Zc, ↓Zb, ↓vdn, vup, Zn, Zm, Zi, Zh, Zk, List.map_cons, List.map_nil, cond_true, cond_false, aop, Zv, Zq, Zp, ev, sput, Zt, Zx, Zz, unK, Zd, Zw, Nat.reduceBEq, Nat.reduceAdd, Int.reduceBEq, Int.reduceBNe, Int.reduceLT, Zu, Zy, tup, tyf, Wv]

/-- The ideals, the first s sets looked at. -/
theorem filter_succ {p : Nat → Bool} (s : Nat) : (List.range (s + 1)).filter p = (List.range s).filter p ++ if p s = true then [s] else [] := by
  rw [List.range_succ, List.filter_append, List.filter_cons]
  cases p s <;> rfl
theorem s60_callW [Tabs Tryd.prog] {args : List Value} {h : Ya} {Q : Value → Ya → Prop} (hsz : args.length ≤ 43) (hk : AWS Tryd.prog 43 s60 (Zu Tryd.prog [.tmp 2] Q) (Zp 0 args) h) : ACall Tryd.prog 60 args h Q :=
  Xu Tryd.func60 rfl (enters_of Tryd.func60 (by kernel_rfl) rfl) rfl rfl (by decide) s60_strip s60_ok hsz hk
theorem rideals_call [Tabs prog] {h : Ya} {v : Value} {o : List Int} (hv : IntSl h v o) (ho : ord o = true) : ACall prog 60 [v] h fun r h' => OwnSl 3 h' r (iL (setsL o (idl o))) ∧ Ext (fun _ => False) h h' := by
  have hl := Yz ho
  have hp := pow6 hl.2
  have hsh : shlV .i64 1 ((o.length : Nat) : Int) = ((2 ^ o.length : Nat) : Int) := by rw [shl1 (by omega), Wu]
  refine s60_callW (by simp) ?_
  simp only [s60]
  refine Yc fun N24 hN24 => ?_
  simp (maxSteps := 2000000) only [s60, ↓Za, ↓Zl, ↓Zr, ↓Ze, ↓Zo, ↓Zs, ↓Zg, ↓Zj, ↓Zf, ↓Zc, ↓Zb, ↓vdn, vup, Zn, Zm, Zi, Zh, Zk, List.map_cons, List.map_nil, cond_true, cond_false, aop, Zv, Zq, Zp, ev, sput, Zt, Zx, Zz, unK, Zd, Zw, Nat.reduceBEq, Nat.reduceAdd, Int.reduceBEq, Int.reduceBNe, Int.reduceLT, Zu, Zy, tup, tyf]
  refine hN24 [(0, v), (2, .slice none 0 0)] _ _ ?_ (by simp (maxSteps := 2000000) only [↓Za, ↓Zl, ↓Zr, ↓Ze, ↓Zo, ↓Zs, ↓Zg, ↓Zj, ↓Zf, ↓Zc, ↓Zb, ↓vdn, vup, Zn, Zm, Zi, Zh, Zk, List.map_cons, List.map_nil, cond_true, cond_false, aop, Zv, Zq, Zp, ev, sput, Zt, Zx, Zz, unK, Zd, Zw, Nat.reduceBEq, Nat.reduceAdd, Int.reduceBEq, Int.reduceBNe, Int.reduceLT, Zu, Zy, tup, tyf])
  clear hN24
  try clear N24
  refine Yc fun N25 hN25 => ?_
  simp (maxSteps := 2000000) only [s60, ↓Za, ↓Zl, ↓Zr, ↓Ze, ↓Zo, ↓Zs, ↓Zg, ↓Zj, ↓Zf, ↓Zc, ↓Zb, ↓vdn, vup, Zn, Zm, Zi, Zh, Zk, List.map_cons, List.map_nil, cond_true, cond_false, aop, Zv, Zq, Zp, ev, sput, Zt, Zx, Zz, unK, Zd, Zw, Nat.reduceBEq, Nat.reduceAdd, Int.reduceBEq, Int.reduceBNe, Int.reduceLT, Zu, Zy, tup, tyf]
  refine hN25 [(0, v), (2, .slice none 0 0), (3, .slice none 0 0)] _ _ ?_ (by simp (maxSteps := 2000000) only [↓Za, ↓Zl, ↓Zr, ↓Ze, ↓Zo, ↓Zs, ↓Zg, ↓Zj, ↓Zf, ↓Zc, ↓Zb, ↓vdn, vup, Zn, Zm, Zi, Zh, Zk, List.map_cons, List.map_nil, cond_true, cond_false, aop, Zv, Zq, Zp, ev, sput, Zt, Zx, Zz, unK, Zd, Zw, Nat.reduceBEq, Nat.reduceAdd, Int.reduceBEq, Int.reduceBNe, Int.reduceLT, Zu, Zy, tup, tyf])
  clear hN25
  try clear N25
  refine Yk fun Z hZ => ?_
  refine Yc fun N26 hN26 => ?_
  simp (maxSteps := 2000000) only [s60, ↓Za, ↓Zl, ↓Zr, ↓Ze, ↓Zo, ↓Zs, ↓Zg, ↓Zj, ↓Zf, ↓Zc, ↓Zb, ↓vdn, vup, Zn, Zm, Zi, Zh, Zk, List.map_cons, List.map_nil, cond_true, cond_false, aop, Zv, Zq, Zp, ev, sput, Zt, Zx, Zz, unK, Zd, Zw, Nat.reduceBEq, Nat.reduceAdd, Int.reduceBEq, Int.reduceBNe, Int.reduceLT, Zu, Zy, tup, tyf, hv.len, hsh, Int.natCast_nonneg]
  refine hN26 [(0, v), (2, .slice none 0 0), (3, .slice none 0 0), (9, Yb ((2 ^ o.length : Nat) : Nat)), (10, .int .i64 0)] _ _ ?_ (by simp (maxSteps := 2000000) only [↓Za, ↓Zl, ↓Zr, ↓Ze, ↓Zo, ↓Zs, ↓Zg, ↓Zj, ↓Zf, ↓Zc, ↓Zb, ↓vdn, vup, Zn, Zm, Zi, Zh, Zk, List.map_cons, List.map_nil, cond_true, cond_false, aop, Zv, Zq, Zp, ev, sput, Zt, Zx, Zz, unK, Zd, Zw, Nat.reduceBEq, Nat.reduceAdd, Int.reduceBEq, Int.reduceBNe, Int.reduceLT, Zu, Zy, tup, tyf])
  clear hN26
  try clear N26
  refine Yl ?_
  refine Yj fun Q hQ => ?_
  refine Xt (γ := Nat × Value × Ya) (fun g => g.1 ≤ 2 ^ o.length ∧ OwnSl 3 g.2.2 g.2.1 (iL ((List.range g.1).filter (idl o))) ∧ Ext (fun _ => False) h g.2.2 ∧ ∀ b, Xa g.2.1 = some b → h.length ≤ b)
    (fun g => ([(0, v), (2, .slice none 0 0), (3, g.2.1), (9, Yb ((2 ^ o.length : Nat) : Nat)), (10, Yb (g.1 : Nat))], g.2.2)) (fun g => 2 ^ o.length - g.1) (0, .slice none 0 0, h) ⟨Nat.zero_le _, .inl ⟨rfl, rfl⟩, Ext.refl _ _, fun b hb => by cases hb⟩ (by simp (maxSteps := 2000000) only [↓Za, ↓Zl, ↓Zr, ↓Ze, ↓Zo, ↓Zs, ↓Zg, ↓Zj, ↓Zf, ↓Zc, ↓Zb, ↓vdn, vup, Zn, Zm, Zi, Zh, Zk, List.map_cons, List.map_nil, cond_true, cond_false, aop, Zv, Zq, Zp, ev, sput, Zt, Zx, Zz, unK, Zd, Zw, Nat.reduceBEq, Nat.reduceAdd, Int.reduceBEq, Int.reduceBNe, Int.reduceLT, Zu, Zy, tup, tyf, Int.natCast_zero]) rfl ?_
  rintro ⟨s, w, H⟩ ⟨hs, how, hEH, hbw⟩
  simp only at hs how hEH hbw
  refine Yj fun Q2 hQ2 => ?_
  simp only [l60_1]
  by_cases hin : (s : Int) < ((2 ^ o.length : Nat) : Int)
  · have hs' : s < 2 ^ o.length := by omega
    have hvH := Xg hv hEH
    refine Yc fun N27 hN27 => ?_
    simp (maxSteps := 2000000) only [s60, ↓Za, ↓Zl, ↓Zr, ↓Ze, ↓Zo, ↓Zs, ↓Zg, ↓Zj, ↓Zf, ↓Zc, ↓Zb, ↓vdn, vup, Zn, Zm, Zi, Zh, Zk, List.map_cons, List.map_nil, cond_true, cond_false, aop, Zv, Zq, Zp, ev, sput, Zt, Zx, Zz, unK, Zd, Zw, Nat.reduceBEq, Nat.reduceAdd, Int.reduceBEq, Int.reduceBNe, Int.reduceLT, Zu, Zy, tup, tyf, hin]
    refine hN27 [(0, v), (2, .slice none 0 0), (3, w), (9, Yb ((2 ^ o.length : Nat) : Nat)), (10, Yb (s : Nat)), (11, .bool true)] _ _ ?_ (by simp (maxSteps := 2000000) only [↓Za, ↓Zl, ↓Zr, ↓Ze, ↓Zo, ↓Zs, ↓Zg, ↓Zj, ↓Zf, ↓Zc, ↓Zb, ↓vdn, vup, Zn, Zm, Zi, Zh, Zk, List.map_cons, List.map_nil, cond_true, cond_false, aop, Zv, Zq, Zp, ev, sput, Zt, Zx, Zz, unK, Zd, Zw, Nat.reduceBEq, Nat.reduceAdd, Int.reduceBEq, Int.reduceBNe, Int.reduceLT, Zu, Zy, tup, tyf])
    clear hN27
    try clear N27
    refine Yc fun N28 hN28 => ?_
    simp (maxSteps := 2000000) only [s60, ↓Za, ↓Zl, ↓Zr, ↓Ze, ↓Zo, ↓Zs, ↓Zg, ↓Zj, ↓Zf, ↓Zc, ↓Zb, ↓vdn, vup, Zn, Zm, Zi, Zh, Zk, List.map_cons, List.map_nil, cond_true, cond_false, aop, Zv, Zq, Zp, ev, sput, Zt, Zx, Zz, unK, Zd, Zw, Nat.reduceBEq, Nat.reduceAdd, Int.reduceBEq, Int.reduceBNe, Int.reduceLT, Zu, Zy, tup, tyf]
    refine hN28 [(0, v), (2, .slice none 0 0), (3, w), (9, Yb ((2 ^ o.length : Nat) : Nat)), (10, Yb (s : Nat))] _ _ ?_ (by simp (maxSteps := 2000000) only [↓Za, ↓Zl, ↓Zr, ↓Ze, ↓Zo, ↓Zs, ↓Zg, ↓Zj, ↓Zf, ↓Zc, ↓Zb, ↓vdn, vup, Zn, Zm, Zi, Zh, Zk, List.map_cons, List.map_nil, cond_true, cond_false, aop, Zv, Zq, Zp, ev, sput, Zt, Zx, Zz, unK, Zd, Zw, Nat.reduceBEq, Nat.reduceAdd, Int.reduceBEq, Int.reduceBNe, Int.reduceLT, Zu, Zy, tup, tyf])
    clear hN28
    try clear N28
    refine Yk fun B hB => ?_
    refine Yl ?_
    refine Yc fun N29 hN29 => ?_
    simp (maxSteps := 2000000) only [s60, ↓Za, ↓Zl, ↓Zr, ↓Ze, ↓Zo, ↓Zs, ↓Zg, ↓Zj, ↓Zf, ↓Zc, ↓Zb, ↓vdn, vup, Zn, Zm, Zi, Zh, Zk, List.map_cons, List.map_nil, cond_true, cond_false, aop, Zv, Zq, Zp, ev, sput, Zt, Zx, Zz, unK, Zd, Zw, Nat.reduceBEq, Nat.reduceAdd, Int.reduceBEq, Int.reduceBNe, Int.reduceLT, Zu, Zy, tup, tyf]
    refine hN29 [(0, v), (2, .slice none 0 0), (3, w), (4, Yb (s : Nat)), (9, Yb ((2 ^ o.length : Nat) : Nat)), (10, Yb (s : Nat))] _ _ ?_ (by simp (maxSteps := 2000000) only [↓Za, ↓Zl, ↓Zr, ↓Ze, ↓Zo, ↓Zs, ↓Zg, ↓Zj, ↓Zf, ↓Zc, ↓Zb, ↓vdn, vup, Zn, Zm, Zi, Zh, Zk, List.map_cons, List.map_nil, cond_true, cond_false, aop, Zv, Zq, Zp, ev, sput, Zt, Zx, Zz, unK, Zd, Zw, Nat.reduceBEq, Nat.reduceAdd, Int.reduceBEq, Int.reduceBNe, Int.reduceLT, Zu, Zy, tup, tyf])
    clear hN29
    try clear N29
    refine Yc fun N30 hN30 => ?_
    simp (maxSteps := 2000000) only [s60, ↓Za, ↓Zl, ↓Zr, ↓Ze, ↓Zo, ↓Zs, ↓Zg, ↓Zj, ↓Zf, ↓Zc, ↓Zb, ↓vdn, vup, Zn, Zm, Zi, Zh, Zk, List.map_cons, List.map_nil, cond_true, cond_false, aop, Zv, Zq, Zp, ev, sput, Zt, Zx, Zz, unK, Zd, Zw, Nat.reduceBEq, Nat.reduceAdd, Int.reduceBEq, Int.reduceBNe, Int.reduceLT, Zu, Zy, tup, tyf]
    refine hN30 [(0, v), (2, .slice none 0 0), (3, w), (4, Yb (s : Nat)), (5, .bool true), (9, Yb ((2 ^ o.length : Nat) : Nat)), (10, Yb (s : Nat))] _ _ ?_ (by simp (maxSteps := 2000000) only [↓Za, ↓Zl, ↓Zr, ↓Ze, ↓Zo, ↓Zs, ↓Zg, ↓Zj, ↓Zf, ↓Zc, ↓Zb, ↓vdn, vup, Zn, Zm, Zi, Zh, Zk, List.map_cons, List.map_nil, cond_true, cond_false, aop, Zv, Zq, Zp, ev, sput, Zt, Zx, Zz, unK, Zd, Zw, Nat.reduceBEq, Nat.reduceAdd, Int.reduceBEq, Int.reduceBNe, Int.reduceLT, Zu, Zy, tup, tyf])
    clear hN30
    try clear N30
    refine Yk fun Y hY => ?_
    refine Yc fun N31 hN31 => ?_
    simp (maxSteps := 2000000) only [s60, ↓Za, ↓Zl, ↓Zr, ↓Ze, ↓Zo, ↓Zs, ↓Zg, ↓Zj, ↓Zf, ↓Zc, ↓Zb, ↓vdn, vup, Zn, Zm, Zi, Zh, Zk, List.map_cons, List.map_nil, cond_true, cond_false, aop, Zv, Zq, Zp, ev, sput, Zt, Zx, Zz, unK, Zd, Zw, Nat.reduceBEq, Nat.reduceAdd, Int.reduceBEq, Int.reduceBNe, Int.reduceLT, Zu, Zy, tup, tyf, hvH.len]
    refine hN31 [(0, v), (2, .slice none 0 0), (3, w), (4, Yb (s : Nat)), (5, .bool true), (9, Yb ((2 ^ o.length : Nat) : Nat)), (10, Yb (s : Nat)), (14, Yb o.length), (15, .int .i64 0)] _ _ ?_ (by simp (maxSteps := 2000000) only [↓Za, ↓Zl, ↓Zr, ↓Ze, ↓Zo, ↓Zs, ↓Zg, ↓Zj, ↓Zf, ↓Zc, ↓Zb, ↓vdn, vup, Zn, Zm, Zi, Zh, Zk, List.map_cons, List.map_nil, cond_true, cond_false, aop, Zv, Zq, Zp, ev, sput, Zt, Zx, Zz, unK, Zd, Zw, Nat.reduceBEq, Nat.reduceAdd, Int.reduceBEq, Int.reduceBNe, Int.reduceLT, Zu, Zy, tup, tyf])
    clear hN31
    try clear N31
    refine Yl ?_
    refine Yj fun Qa hQa => ?_
    refine Xt (γ := Nat) (fun i => i ≤ o.length) (fun i => ([(0, v), (2, .slice none 0 0), (3, w), (4, Yb (s : Nat)), (5, .bool ((List.range i).all fun i => s.testBit i || decide (bt o i &&& s = 0))), (9, Yb ((2 ^ o.length : Nat) : Nat)), (10, Yb (s : Nat)), (14, Yb o.length), (15, Yb (i : Nat))], H)) (fun i => o.length - i) 0 (Nat.zero_le _) (by simp (maxSteps := 2000000) only [↓Za, ↓Zl, ↓Zr, ↓Ze, ↓Zo, ↓Zs, ↓Zg, ↓Zj, ↓Zf, ↓Zc, ↓Zb, ↓vdn, vup, Zn, Zm, Zi, Zh, Zk, List.map_cons, List.map_nil, cond_true, cond_false, aop, Zv, Zq, Zp, ev, sput, Zt, Zx, Zz, unK, Zd, Zw, Nat.reduceBEq, Nat.reduceAdd, Int.reduceBEq, Int.reduceBNe, Int.reduceLT, Zu, Zy, tup, tyf, Int.natCast_zero, List.range_zero, List.all_nil]) rfl ?_
    rintro i hi
    obtain ⟨T, hT⟩ : ∃ T, ((List.range i).all fun i => s.testBit i || decide (bt o i &&& s = 0)) = T := ⟨_, rfl⟩
    have hnx : ((List.range (i + 1)).all fun i => s.testBit i || decide (bt o i &&& s = 0)) = (T && (s.testBit i || decide (bt o i &&& s = 0))) := by
      rw [List.range_succ, List.all_append, hT]; simp
    rw [hT]
    refine Yj fun Qb hQb => ?_
    simp only [l60_0]
    by_cases hjin : (i : Int) < o.length
    · have hi' : i < o.length := by omega
      obtain ⟨hbe, hbl⟩ := ord_nat ho hi'
      have t1 := testV (a := s) (y := i) (by omega)
      have hand := bitsV_and (a := bt o i) (b := s) (by omega) (by omega)
      have hz : ((((bt o i &&& s : Nat) : Nat) : Int) == 0) = decide (bt o i &&& s = 0) := eq0 _
      refine Yc fun N32 hN32 => ?_
      simp (maxSteps := 2000000) only [s60, ↓Za, ↓Zl, ↓Zr, ↓Ze, ↓Zo, ↓Zs, ↓Zg, ↓Zj, ↓Zf, ↓Zc, ↓Zb, ↓vdn, vup, Zn, Zm, Zi, Zh, Zk, List.map_cons, List.map_nil, cond_true, cond_false, aop, Zv, Zq, Zp, ev, sput, Zt, Zx, Zz, unK, Zd, Zw, Nat.reduceBEq, Nat.reduceAdd, Int.reduceBEq, Int.reduceBNe, Int.reduceLT, Zu, Zy, tup, tyf, hjin]
      refine hN32 [(0, v), (2, .slice none 0 0), (3, w), (4, Yb (s : Nat)), (5, .bool T), (9, Yb ((2 ^ o.length : Nat) : Nat)), (10, Yb (s : Nat)), (14, Yb o.length), (15, Yb (i : Nat)), (16, .bool true)] _ _ ?_ (by simp (maxSteps := 2000000) only [↓Za, ↓Zl, ↓Zr, ↓Ze, ↓Zo, ↓Zs, ↓Zg, ↓Zj, ↓Zf, ↓Zc, ↓Zb, ↓vdn, vup, Zn, Zm, Zi, Zh, Zk, List.map_cons, List.map_nil, cond_true, cond_false, aop, Zv, Zq, Zp, ev, sput, Zt, Zx, Zz, unK, Zd, Zw, Nat.reduceBEq, Nat.reduceAdd, Int.reduceBEq, Int.reduceBNe, Int.reduceLT, Zu, Zy, tup, tyf])
      clear hN32
      try clear N32
      refine Yc fun N33 hN33 => ?_
      simp (maxSteps := 2000000) only [s60, ↓Za, ↓Zl, ↓Zr, ↓Ze, ↓Zo, ↓Zs, ↓Zg, ↓Zj, ↓Zf, ↓Zc, ↓Zb, ↓vdn, vup, Zn, Zm, Zi, Zh, Zk, List.map_cons, List.map_nil, cond_true, cond_false, aop, Zv, Zq, Zp, ev, sput, Zt, Zx, Zz, unK, Zd, Zw, Nat.reduceBEq, Nat.reduceAdd, Int.reduceBEq, Int.reduceBNe, Int.reduceLT, Zu, Zy, tup, tyf]
      refine hN33 [(0, v), (2, .slice none 0 0), (3, w), (4, Yb (s : Nat)), (5, .bool T), (9, Yb ((2 ^ o.length : Nat) : Nat)), (10, Yb (s : Nat)), (14, Yb o.length), (15, Yb (i : Nat))] _ _ ?_ (by simp (maxSteps := 2000000) only [↓Za, ↓Zl, ↓Zr, ↓Ze, ↓Zo, ↓Zs, ↓Zg, ↓Zj, ↓Zf, ↓Zc, ↓Zb, ↓vdn, vup, Zn, Zm, Zi, Zh, Zk, List.map_cons, List.map_nil, cond_true, cond_false, aop, Zv, Zq, Zp, ev, sput, Zt, Zx, Zz, unK, Zd, Zw, Nat.reduceBEq, Nat.reduceAdd, Int.reduceBEq, Int.reduceBNe, Int.reduceLT, Zu, Zy, tup, tyf])
      clear hN33
      try clear N33
      refine Yk fun D hD => ?_
      refine Yl ?_
      refine Yc fun N34 hN34 => ?_
      simp (maxSteps := 2000000) only [s60, ↓Za, ↓Zl, ↓Zr, ↓Ze, ↓Zo, ↓Zs, ↓Zg, ↓Zj, ↓Zf, ↓Zc, ↓Zb, ↓vdn, vup, Zn, Zm, Zi, Zh, Zk, List.map_cons, List.map_nil, cond_true, cond_false, aop, Zv, Zq, Zp, ev, sput, Zt, Zx, Zz, unK, Zd, Zw, Nat.reduceBEq, Nat.reduceAdd, Int.reduceBEq, Int.reduceBNe, Int.reduceLT, Zu, Zy, tup, tyf]
      refine hN34 [(0, v), (2, .slice none 0 0), (3, w), (4, Yb (s : Nat)), (5, .bool T), (6, Yb (i : Nat)), (9, Yb ((2 ^ o.length : Nat) : Nat)), (10, Yb (s : Nat)), (14, Yb o.length), (15, Yb (i : Nat))] _ _ ?_ (by simp (maxSteps := 2000000) only [↓Za, ↓Zl, ↓Zr, ↓Ze, ↓Zo, ↓Zs, ↓Zg, ↓Zj, ↓Zf, ↓Zc, ↓Zb, ↓vdn, vup, Zn, Zm, Zi, Zh, Zk, List.map_cons, List.map_nil, cond_true, cond_false, aop, Zv, Zq, Zp, ev, sput, Zt, Zx, Zz, unK, Zd, Zw, Nat.reduceBEq, Nat.reduceAdd, Int.reduceBEq, Int.reduceBNe, Int.reduceLT, Zu, Zy, tup, tyf])
      clear hN34
      try clear N34
      have goOn : ∀ e, ELe e [(0, v), (2, .slice none 0 0), (3, w), (4, Yb (s : Nat)), (5, .bool (T && (s.testBit i || decide (bt o i &&& s = 0)))), (9, Yb ((2 ^ o.length : Nat) : Nat)), (10, Yb (s : Nat)), (14, Yb o.length), (15, Yb (i : Nat))] → D e H := by
        intro e he
        refine hD _ _ _ ?_ he
        refine Yf ?_
        simp (maxSteps := 2000000) only [s60, ↓Za, ↓Zl, ↓Zr, ↓Ze, ↓Zo, ↓Zs, ↓Zg, ↓Zj, ↓Zf, ↓Zc, ↓Zb, ↓vdn, vup, Zn, Zm, Zi, Zh, Zk, List.map_cons, List.map_nil, cond_true, cond_false, aop, Zv, Zq, Zp, ev, sput, Zt, Zx, Zz, unK, Zd, Zw, Nat.reduceBEq, Nat.reduceAdd, Int.reduceBEq, Int.reduceBNe, Int.reduceLT, Zu, Zy, tup, tyf, add1 (show i < 9223372036854775807 by omega)]
        exact hQb _ _ _ ⟨i + 1, hi', by omega, by simp (maxSteps := 2000000) only [↓Za, ↓Zl, ↓Zr, ↓Ze, ↓Zo, ↓Zs, ↓Zg, ↓Zj, ↓Zf, ↓Zc, ↓Zb, ↓vdn, vup, Zn, Zm, Zi, Zh, Zk, List.map_cons, List.map_nil, cond_true, cond_false, aop, Zv, Zq, Zp, ev, sput, Zt, Zx, Zz, unK, Zd, Zw, Nat.reduceBEq, Nat.reduceAdd, Int.reduceBEq, Int.reduceBNe, Int.reduceLT, Zu, Zy, tup, tyf, hnx], rfl⟩
      refine Yf ?_
      simp only [q60_9]
      cases T with
      | false =>
        simp (maxSteps := 2000000) only [s60, ↓Za, ↓Zl, ↓Zr, ↓Ze, ↓Zo, ↓Zs, ↓Zg, ↓Zj, ↓Zf, ↓Zc, ↓Zb, ↓vdn, vup, Zn, Zm, Zi, Zh, Zk, List.map_cons, List.map_nil, cond_true, cond_false, aop, Zv, Zq, Zp, ev, sput, Zt, Zx, Zz, unK, Zd, Zw, Nat.reduceBEq, Nat.reduceAdd, Int.reduceBEq, Int.reduceBNe, Int.reduceLT, Zu, Zy, tup, tyf]
        exact goOn _ (by simp (maxSteps := 2000000) only [↓Za, ↓Zl, ↓Zr, ↓Ze, ↓Zo, ↓Zs, ↓Zg, ↓Zj, ↓Zf, ↓Zc, ↓Zb, ↓vdn, vup, Zn, Zm, Zi, Zh, Zk, List.map_cons, List.map_nil, cond_true, cond_false, aop, Zv, Zq, Zp, ev, sput, Zt, Zx, Zz, unK, Zd, Zw, Nat.reduceBEq, Nat.reduceAdd, Int.reduceBEq, Int.reduceBNe, Int.reduceLT, Zu, Zy, tup, tyf, Bool.false_and])
      | true =>
        cases hb : s.testBit i with
        | true =>
          simp (maxSteps := 2000000) only [s60, ↓Za, ↓Zl, ↓Zr, ↓Ze, ↓Zo, ↓Zs, ↓Zg, ↓Zj, ↓Zf, ↓Zc, ↓Zb, ↓vdn, vup, Zn, Zm, Zi, Zh, Zk, List.map_cons, List.map_nil, cond_true, cond_false, aop, Zv, Zq, Zp, ev, sput, Zt, Zx, Zz, unK, Zd, Zw, Nat.reduceBEq, Nat.reduceAdd, Int.reduceBEq, Int.reduceBNe, Int.reduceLT, Zu, Zy, tup, tyf, t1, hb, beq1, if_true, Int.natCast_nonneg]
          exact goOn _ (by simp (maxSteps := 2000000) only [↓Za, ↓Zl, ↓Zr, ↓Ze, ↓Zo, ↓Zs, ↓Zg, ↓Zj, ↓Zf, ↓Zc, ↓Zb, ↓vdn, vup, Zn, Zm, Zi, Zh, Zk, List.map_cons, List.map_nil, cond_true, cond_false, aop, Zv, Zq, Zp, ev, sput, Zt, Zx, Zz, unK, Zd, Zw, Nat.reduceBEq, Nat.reduceAdd, Int.reduceBEq, Int.reduceBNe, Int.reduceLT, Zu, Zy, tup, tyf, hb, Bool.true_or, Bool.true_and])
        | false =>
          simp (maxSteps := 2000000) only [s60, ↓Za, ↓Zl, ↓Zr, ↓Ze, ↓Zo, ↓Zs, ↓Zg, ↓Zj, ↓Zf, ↓Zc, ↓Zb, ↓vdn, vup, Zn, Zm, Zi, Zh, Zk, List.map_cons, List.map_nil, cond_true, cond_false, aop, Zv, Zq, Zp, ev, sput, Zt, Zx, Zz, unK, Zd, Zw, Nat.reduceBEq, Nat.reduceAdd, Int.reduceBEq, Int.reduceBNe, Int.reduceLT, Zu, Zy, tup, tyf, t1, hb, beq1, Bool.false_eq_true, if_false, Int.natCast_nonneg, hvH.idx Xm Xh hi', hvH.load Yp hi', hbe, hand, hz]
          exact goOn _ (by simp (maxSteps := 2000000) only [↓Za, ↓Zl, ↓Zr, ↓Ze, ↓Zo, ↓Zs, ↓Zg, ↓Zj, ↓Zf, ↓Zc, ↓Zb, ↓vdn, vup, Zn, Zm, Zi, Zh, Zk, List.map_cons, List.map_nil, cond_true, cond_false, aop, Zv, Zq, Zp, ev, sput, Zt, Zx, Zz, unK, Zd, Zw, Nat.reduceBEq, Nat.reduceAdd, Int.reduceBEq, Int.reduceBNe, Int.reduceLT, Zu, Zy, tup, tyf, hb, Bool.false_or, Bool.true_and])
    · obtain rfl : i = o.length := by omega
      have hTi : T = idl o s := hT.symm
      subst hTi
      refine Yc fun N35 hN35 => ?_
      simp (maxSteps := 2000000) only [s60, ↓Za, ↓Zl, ↓Zr, ↓Ze, ↓Zo, ↓Zs, ↓Zg, ↓Zj, ↓Zf, ↓Zc, ↓Zb, ↓vdn, vup, Zn, Zm, Zi, Zh, Zk, List.map_cons, List.map_nil, cond_true, cond_false, aop, Zv, Zq, Zp, ev, sput, Zt, Zx, Zz, unK, Zd, Zw, Nat.reduceBEq, Nat.reduceAdd, Int.reduceBEq, Int.reduceBNe, Int.reduceLT, Zu, Zy, tup, tyf, hjin]
      refine hN35 [(0, v), (2, .slice none 0 0), (3, w), (4, Yb (s : Nat)), (5, .bool (idl o s)), (9, Yb ((2 ^ o.length : Nat) : Nat)), (10, Yb (s : Nat)), (14, Yb o.length), (15, Yb o.length), (16, .bool false)] _ _ ?_ (by simp (maxSteps := 2000000) only [↓Za, ↓Zl, ↓Zr, ↓Ze, ↓Zo, ↓Zs, ↓Zg, ↓Zj, ↓Zf, ↓Zc, ↓Zb, ↓vdn, vup, Zn, Zm, Zi, Zh, Zk, List.map_cons, List.map_nil, cond_true, cond_false, aop, Zv, Zq, Zp, ev, sput, Zt, Zx, Zz, unK, Zd, Zw, Nat.reduceBEq, Nat.reduceAdd, Int.reduceBEq, Int.reduceBNe, Int.reduceLT, Zu, Zy, tup, tyf])
      clear hN35
      try clear N35
      refine Yc fun N36 hN36 => ?_
      simp (maxSteps := 2000000) only [s60, ↓Za, ↓Zl, ↓Zr, ↓Ze, ↓Zo, ↓Zs, ↓Zg, ↓Zj, ↓Zf, ↓Zc, ↓Zb, ↓vdn, vup, Zn, Zm, Zi, Zh, Zk, List.map_cons, List.map_nil, cond_true, cond_false, aop, Zv, Zq, Zp, ev, sput, Zt, Zx, Zz, unK, Zd, Zw, Nat.reduceBEq, Nat.reduceAdd, Int.reduceBEq, Int.reduceBNe, Int.reduceLT, Zu, Zy, tup, tyf]
      refine hQb _ _ _ (hQa _ _ _ ?_)
      simp (maxSteps := 2000000) only [s60, ↓Za, ↓Zl, ↓Zr, ↓Ze, ↓Zo, ↓Zs, ↓Zg, ↓Zj, ↓Zf, ↓Zc, ↓Zb, ↓vdn, vup, Zn, Zm, Zi, Zh, Zk, List.map_cons, List.map_nil, cond_true, cond_false, aop, Zv, Zq, Zp, ev, sput, Zt, Zx, Zz, unK, Zd, Zw, Nat.reduceBEq, Nat.reduceAdd, Int.reduceBEq, Int.reduceBNe, Int.reduceLT, Zu, Zy, tup, tyf, if_true]
      refine hY [(0, v), (2, .slice none 0 0), (3, w), (4, Yb (s : Nat)), (5, .bool (idl o s)), (9, Yb ((2 ^ o.length : Nat) : Nat)), (10, Yb (s : Nat))] _ _ ?_ (by simp (maxSteps := 2000000) only [↓Za, ↓Zl, ↓Zr, ↓Ze, ↓Zo, ↓Zs, ↓Zg, ↓Zj, ↓Zf, ↓Zc, ↓Zb, ↓vdn, vup, Zn, Zm, Zi, Zh, Zk, List.map_cons, List.map_nil, cond_true, cond_false, aop, Zv, Zq, Zp, ev, sput, Zt, Zx, Zz, unK, Zd, Zw, Nat.reduceBEq, Nat.reduceAdd, Int.reduceBEq, Int.reduceBNe, Int.reduceLT, Zu, Zy, tup, tyf])
      clear hY
      try clear Y
      have hfs := filter_succ (p := idl o) s
      refine Yc fun N37 hN37 => ?_
      simp (maxSteps := 2000000) only [s60, ↓Za, ↓Zl, ↓Zr, ↓Ze, ↓Zo, ↓Zs, ↓Zg, ↓Zj, ↓Zf, ↓Zc, ↓Zb, ↓vdn, vup, Zn, Zm, Zi, Zh, Zk, List.map_cons, List.map_nil, cond_true, cond_false, aop, Zv, Zq, Zp, ev, sput, Zt, Zx, Zz, unK, Zd, Zw, Nat.reduceBEq, Nat.reduceAdd, Int.reduceBEq, Int.reduceBNe, Int.reduceLT, Zu, Zy, tup, tyf]
      refine hN37 [(0, v), (2, .slice none 0 0), (3, w), (4, Yb (s : Nat)), (5, .bool (idl o s)), (9, Yb ((2 ^ o.length : Nat) : Nat)), (10, Yb (s : Nat)), (36, .bool (idl o s))] _ _ ?_ (by simp (maxSteps := 2000000) only [↓Za, ↓Zl, ↓Zr, ↓Ze, ↓Zo, ↓Zs, ↓Zg, ↓Zj, ↓Zf, ↓Zc, ↓Zb, ↓vdn, vup, Zn, Zm, Zi, Zh, Zk, List.map_cons, List.map_nil, cond_true, cond_false, aop, Zv, Zq, Zp, ev, sput, Zt, Zx, Zz, unK, Zd, Zw, Nat.reduceBEq, Nat.reduceAdd, Int.reduceBEq, Int.reduceBNe, Int.reduceLT, Zu, Zy, tup, tyf])
      clear hN37
      try clear N37
      cases hid : idl o s with
      | true =>
        rw [hid, if_pos rfl] at hfs
        refine Wb rfl ?_
        refine Yf ?_
        simp (maxSteps := 2000000) only [s60, ↓Za, ↓Zl, ↓Zr, ↓Ze, ↓Zo, ↓Zs, ↓Zg, ↓Zj, ↓Zf, ↓Zc, ↓Zb, ↓vdn, vup, Zn, Zm, Zi, Zh, Zk, List.map_cons, List.map_nil, cond_true, cond_false, aop, Zv, Zq, Zp, ev, sput, Zt, Zx, Zz, unK, Zd, Zw, Nat.reduceBEq, Nat.reduceAdd, Int.reduceBEq, Int.reduceBNe, Int.reduceLT, Zu, Zy, tup, tyf, litI1]
        refine OwnSl.append (x := (s : Int)) (how.ext (S := fun _ => False) (Ext.app _ _ _) (fun _ _ => id)) app_22_22 (by rw [Wy]; have := List.length_filter_le (idl o) (List.range s); rw [List.length_range] at this; omega) (Xc _ _) ?_
        intro w' G ho' hE' hb'
        rw [iL_snoc, ← hfs] at ho'
        have hE2 : Ext (fun _ => False) h G := ext_app hEH (H' := H ++ [Blk.ints [(s : Int)] 3 false]) (by simp) (fun q hq => List.getElem?_append_left (by have := hEH.1; omega)) (fun b hb => hbw b hb) hE'
        have hbw' : ∀ b, Xa w' = some b → h.length ≤ b := fun b hb => by
          rcases hb' with h1 | ⟨b', h1, h2⟩
          · exact hbw b (h1 ▸ hb)
          · rw [h1] at hb; cases hb
            rw [List.length_append] at h2
            have := hEH.1; omega
        refine hB [(0, v), (2, .slice none 0 0), (3, w'), (9, Yb ((2 ^ o.length : Nat) : Nat)), (10, Yb (s : Nat))] _ _ ?_ (by simp (maxSteps := 2000000) only [↓Za, ↓Zl, ↓Zr, ↓Ze, ↓Zo, ↓Zs, ↓Zg, ↓Zj, ↓Zf, ↓Zc, ↓Zb, ↓vdn, vup, Zn, Zm, Zi, Zh, Zk, List.map_cons, List.map_nil, cond_true, cond_false, aop, Zv, Zq, Zp, ev, sput, Zt, Zx, Zz, unK, Zd, Zw, Nat.reduceBEq, Nat.reduceAdd, Int.reduceBEq, Int.reduceBNe, Int.reduceLT, Zu, Zy, tup, tyf])
        clear hB
        try clear B
        refine Yf ?_
        simp (maxSteps := 2000000) only [s60, ↓Za, ↓Zl, ↓Zr, ↓Ze, ↓Zo, ↓Zs, ↓Zg, ↓Zj, ↓Zf, ↓Zc, ↓Zb, ↓vdn, vup, Zn, Zm, Zi, Zh, Zk, List.map_cons, List.map_nil, cond_true, cond_false, aop, Zv, Zq, Zp, ev, sput, Zt, Zx, Zz, unK, Zd, Zw, Nat.reduceBEq, Nat.reduceAdd, Int.reduceBEq, Int.reduceBNe, Int.reduceLT, Zu, Zy, tup, tyf, add1 (show s < 9223372036854775807 by omega)]
        exact hQ2 _ _ _ ⟨(s + 1, w', G), ⟨hs', ho', hE2, hbw'⟩, by simp only; omega, by simp (maxSteps := 2000000) only [↓Za, ↓Zl, ↓Zr, ↓Ze, ↓Zo, ↓Zs, ↓Zg, ↓Zj, ↓Zf, ↓Zc, ↓Zb, ↓vdn, vup, Zn, Zm, Zi, Zh, Zk, List.map_cons, List.map_nil, cond_true, cond_false, aop, Zv, Zq, Zp, ev, sput, Zt, Zx, Zz, unK, Zd, Zw, Nat.reduceBEq, Nat.reduceAdd, Int.reduceBEq, Int.reduceBNe, Int.reduceLT, Zu, Zy, tup, tyf], rfl⟩
      | false =>
        rw [hid, if_neg (by decide), List.append_nil] at hfs
        refine Ys rfl ?_
        refine Yf ?_
        simp (maxSteps := 2000000) only [s60, ↓Za, ↓Zl, ↓Zr, ↓Ze, ↓Zo, ↓Zs, ↓Zg, ↓Zj, ↓Zf, ↓Zc, ↓Zb, ↓vdn, vup, Zn, Zm, Zi, Zh, Zk, List.map_cons, List.map_nil, cond_true, cond_false, aop, Zv, Zq, Zp, ev, sput, Zt, Zx, Zz, unK, Zd, Zw, Nat.reduceBEq, Nat.reduceAdd, Int.reduceBEq, Int.reduceBNe, Int.reduceLT, Zu, Zy, tup, tyf]
        refine hB [(0, v), (2, .slice none 0 0), (3, w), (9, Yb ((2 ^ o.length : Nat) : Nat)), (10, Yb (s : Nat))] _ _ ?_ (by simp (maxSteps := 2000000) only [↓Za, ↓Zl, ↓Zr, ↓Ze, ↓Zo, ↓Zs, ↓Zg, ↓Zj, ↓Zf, ↓Zc, ↓Zb, ↓vdn, vup, Zn, Zm, Zi, Zh, Zk, List.map_cons, List.map_nil, cond_true, cond_false, aop, Zv, Zq, Zp, ev, sput, Zt, Zx, Zz, unK, Zd, Zw, Nat.reduceBEq, Nat.reduceAdd, Int.reduceBEq, Int.reduceBNe, Int.reduceLT, Zu, Zy, tup, tyf])
        clear hB
        try clear B
        refine Yf ?_
        simp (maxSteps := 2000000) only [s60, ↓Za, ↓Zl, ↓Zr, ↓Ze, ↓Zo, ↓Zs, ↓Zg, ↓Zj, ↓Zf, ↓Zc, ↓Zb, ↓vdn, vup, Zn, Zm, Zi, Zh, Zk, List.map_cons, List.map_nil, cond_true, cond_false, aop, Zv, Zq, Zp, ev, sput, Zt, Zx, Zz, unK, Zd, Zw, Nat.reduceBEq, Nat.reduceAdd, Int.reduceBEq, Int.reduceBNe, Int.reduceLT, Zu, Zy, tup, tyf, add1 (show s < 9223372036854775807 by omega)]
        exact hQ2 _ _ _ ⟨(s + 1, w, H), ⟨hs', by simp only; rw [hfs]; exact how, hEH, hbw⟩, by simp only; omega, by simp (maxSteps := 2000000) only [↓Za, ↓Zl, ↓Zr, ↓Ze, ↓Zo, ↓Zs, ↓Zg, ↓Zj, ↓Zf, ↓Zc, ↓Zb, ↓vdn, vup, Zn, Zm, Zi, Zh, Zk, List.map_cons, List.map_nil, cond_true, cond_false, aop, Zv, Zq, Zp, ev, sput, Zt, Zx, Zz, unK, Zd, Zw, Nat.reduceBEq, Nat.reduceAdd, Int.reduceBEq, Int.reduceBNe, Int.reduceLT, Zu, Zy, tup, tyf], rfl⟩
  · obtain rfl : s = 2 ^ o.length := by omega
    refine Yc fun N38 hN38 => ?_
    simp (maxSteps := 2000000) only [s60, ↓Za, ↓Zl, ↓Zr, ↓Ze, ↓Zo, ↓Zs, ↓Zg, ↓Zj, ↓Zf, ↓Zc, ↓Zb, ↓vdn, vup, Zn, Zm, Zi, Zh, Zk, List.map_cons, List.map_nil, cond_true, cond_false, aop, Zv, Zq, Zp, ev, sput, Zt, Zx, Zz, unK, Zd, Zw, Nat.reduceBEq, Nat.reduceAdd, Int.reduceBEq, Int.reduceBNe, Int.reduceLT, Zu, Zy, tup, tyf, hin]
    refine hN38 [(0, v), (2, .slice none 0 0), (3, w), (9, Yb ((2 ^ o.length : Nat) : Nat)), (10, Yb ((2 ^ o.length : Nat) : Nat)), (11, .bool false)] _ _ ?_ (by simp (maxSteps := 2000000) only [↓Za, ↓Zl, ↓Zr, ↓Ze, ↓Zo, ↓Zs, ↓Zg, ↓Zj, ↓Zf, ↓Zc, ↓Zb, ↓vdn, vup, Zn, Zm, Zi, Zh, Zk, List.map_cons, List.map_nil, cond_true, cond_false, aop, Zv, Zq, Zp, ev, sput, Zt, Zx, Zz, unK, Zd, Zw, Nat.reduceBEq, Nat.reduceAdd, Int.reduceBEq, Int.reduceBNe, Int.reduceLT, Zu, Zy, tup, tyf])
    clear hN38
    try clear N38
    refine Yc fun N39 hN39 => ?_
    simp (maxSteps := 2000000) only [s60, ↓Za, ↓Zl, ↓Zr, ↓Ze, ↓Zo, ↓Zs, ↓Zg, ↓Zj, ↓Zf, ↓Zc, ↓Zb, ↓vdn, vup, Zn, Zm, Zi, Zh, Zk, List.map_cons, List.map_nil, cond_true, cond_false, aop, Zv, Zq, Zp, ev, sput, Zt, Zx, Zz, unK, Zd, Zw, Nat.reduceBEq, Nat.reduceAdd, Int.reduceBEq, Int.reduceBNe, Int.reduceLT, Zu, Zy, tup, tyf]
    refine hQ2 _ _ _ (hQ _ _ _ ?_)
    simp (maxSteps := 2000000) only [s60, ↓Za, ↓Zl, ↓Zr, ↓Ze, ↓Zo, ↓Zs, ↓Zg, ↓Zj, ↓Zf, ↓Zc, ↓Zb, ↓vdn, vup, Zn, Zm, Zi, Zh, Zk, List.map_cons, List.map_nil, cond_true, cond_false, aop, Zv, Zq, Zp, ev, sput, Zt, Zx, Zz, unK, Zd, Zw, Nat.reduceBEq, Nat.reduceAdd, Int.reduceBEq, Int.reduceBNe, Int.reduceLT, Zu, Zy, tup, tyf, if_true]
    refine hZ [(0, v), (2, .slice none 0 0), (3, w)] _ _ ?_ (by simp (maxSteps := 2000000) only [↓Za, ↓Zl, ↓Zr, ↓Ze, ↓Zo, ↓Zs, ↓Zg, ↓Zj, ↓Zf, ↓Zc, ↓Zb, ↓vdn, vup, Zn, Zm, Zi, Zh, Zk, List.map_cons, List.map_nil, cond_true, cond_false, aop, Zv, Zq, Zp, ev, sput, Zt, Zx, Zz, unK, Zd, Zw, Nat.reduceBEq, Nat.reduceAdd, Int.reduceBEq, Int.reduceBNe, Int.reduceLT, Zu, Zy, tup, tyf])
    clear hZ
    try clear Z
    refine Yf ?_
    simp (maxSteps := 2000000) only [s60, ↓Za, ↓Zl, ↓Zr, ↓Ze, ↓Zo, ↓Zs, ↓Zg, ↓Zj, ↓Zf, ↓Zc, ↓Zb, ↓vdn, vup, Zn, Zm, Zi, Zh, Zk, List.map_cons, List.map_nil, cond_true, cond_false, aop, Zv, Zq, Zp, ev, sput, Zt, Zx, Zz, unK, Zd, Zw, Nat.reduceBEq, Nat.reduceAdd, Int.reduceBEq, Int.reduceBNe, Int.reduceLT, Zu, Zy, tup, tyf]
    exact ⟨how, hEH⟩
end Go.Proofs.Tryd.Am

namespace Go.Proofs.Tryd.Am
open Go.Am Ord
set_option maxRecDepth 100000
set_option maxHeartbeats 2000000

theorem dn_lt64 {o : List Int} (ho : ord o = true) (i : Nat) : dn o i < 64 := by
  have := pow6 (Yz ho).2
  have := dn_lt (o := o) (i := i); omega
theorem idl_dn {o : List Int} (ho : ord o = true) {s : Nat} (hs : s < 2 ^ o.length) : idl o s = (Am.bits s).all fun k => decide (Xk (dn o k) s = 0) := by
  have hp := pow6 (Yz ho).2
  rw [Bool.eq_iff_iff, idl_iff, List.all_eq_true]
  simp only [decide_eq_true_eq, Wj, We]
  constructor
  · rintro h k ⟨_, hk⟩ j hj
    rw [dn_bit' ho] at hj
    exact h j k (ab_lt ho hj).1 hk hj
  · intro h i j hi hj hij
    exact h j ⟨by have := (ab_lt ho hij).2; have := (Yz ho).2; omega, hj⟩ i (by rw [dn_bit' ho]; exact hij)
theorem ideals1_call [BitTab prog 1] {h : Ya} {bo : Nat} {o : List Int} {s : Nat} (ho : ord o = true) (hs : s < 2 ^ o.length) (hb : h[bo]? = some (.cells (Vb o) 77 false)) : Wo prog 100 [Yb (s : Nat), .pointer (some ⟨bo, 0, none⟩)] h (.bool (idl o s)) := by
  refine ACall.forget (Low.bool _) ?_
  have hl := Yz ho
  have hp := pow6 hl.2
  obtain ⟨H, hH⟩ : ∃ H, H = h ++ [Blk.cells [Yb (s : Nat)] 3 false] ++ [Blk.cells [.bool false] 4 false] := ⟨_, rfl⟩
  have hE : Ext (fun _ => False) h H := by rw [hH, List.append_assoc]; exact Ext.app _ _ _
  have b2 : H[h.length]? = some (Blk.cells [Yb (s : Nat)] 3 false) := by rw [hH]; simp
  have b3 : H[h.length + 1]? = some (.cells [.bool false] 4 false) := by rw [hH]; simp
  have hbH := (hE.2 _ (Xd hb) id).trans hb
  refine s100_call (by simp) ?_
  simp (maxSteps := 2000000) only [s100, ↓Za, ↓Zl, ↓Zr, ↓Ze, ↓Zo, ↓Zs, ↓Zg, ↓Zj, ↓Zf, ↓Zc, ↓Zb, ↓vdn, vup, Zn, Zm, Zi, Zh, Zk, List.map_cons, List.map_nil, cond_true, cond_false, aop, Zv, Zq, Zp, ev, sput, Zt, Zx, Zz, unK, Zd, Zw, Nat.reduceBEq, Nat.reduceAdd, Int.reduceBEq, Int.reduceBNe, Int.reduceLT, Zu, Zy, tup, tyf, boxK, cellsOf, Option.isSome_some, Wp, Wr, zero_4, List.length_append, List.length_singleton]
  rw [← hH]
  simp (maxSteps := 2000000) only [s100, ↓Za, ↓Zl, ↓Zr, ↓Ze, ↓Zo, ↓Zs, ↓Zg, ↓Zj, ↓Zf, ↓Zc, ↓Zb, ↓vdn, vup, Zn, Zm, Zi, Zh, Zk, List.map_cons, List.map_nil, cond_true, cond_false, aop, Zv, Zq, Zp, ev, sput, Zt, Zx, Zz, unK, Zd, Zw, Nat.reduceBEq, Nat.reduceAdd, Int.reduceBEq, Int.reduceBNe, Int.reduceLT, Zu, Zy, tup, tyf, Xr b2 Yp, Yt, List.nil_append, List.append_nil, List.toList_toArray, List.cons_append]
  refine elements_call.mono ?_
  rintro _ _ ⟨rfl, rfl⟩
  refine aw_range bitIter (bx := H.length) (s := s) (et := 3) rfl (Xc _ _) (by omega) (fun pre hk => Ext (fun _ => False) H hk ∧ ∀ k ∈ pre, Xk (dn o k) s = 0) ⟨?_, fun _ hk => by cases hk⟩ ?_ ?_
  · refine ⟨by simp, fun j hj _ => ?_⟩
    rw [List.getElem?_set_ne (by omega), List.getElem?_append_left hj]
  · rintro pre x hk hpre ⟨hEk, hall⟩
    have hxm := mem_pre hpre
    have k2 := (hEk.2 _ (Xd b2) id).trans b2
    have k3 := (hEk.2 _ (Xd b3) id).trans b3
    have kb := (hEk.2 _ (Xd hbH) id).trans hbH
    have hand : Wi .andNot .i64 ((dn o x : Nat) : Int) ((s : Nat) : Int) = ((Xk (dn o x) s : Nat) : Int) := Ws (by have := dn_lt64 ho x; omega) (by omega)
    simp (maxSteps := 2000000) only [s100, ↓Za, ↓Zl, ↓Zr, ↓Ze, ↓Zo, ↓Zs, ↓Zg, ↓Zj, ↓Zf, ↓Zc, ↓Zb, ↓vdn, vup, Zn, Zm, Zi, Zh, Zk, List.map_cons, List.map_nil, cond_true, cond_false, aop, Zv, Zq, Zp, ev, sput, Zt, Zx, Zz, unK, Zd, Zw, Nat.reduceBEq, Nat.reduceAdd, Int.reduceBEq, Int.reduceBNe, Int.reduceLT, Zu, Zy, tup, tyf, r100_0_a, r100_0_b]
    refine Xy [(2, 1)] (by kernel_rfl) (by kernel_rfl) (by kernel_rfl) (by kernel_rfl) ?_
    simp (maxSteps := 2000000) only [s100, ↓Za, ↓Zl, ↓Zr, ↓Ze, ↓Zo, ↓Zs, ↓Zg, ↓Zj, ↓Zf, ↓Zc, ↓Zb, ↓vdn, vup, Zn, Zm, Zi, Zh, Zk, List.map_cons, List.map_nil, cond_true, cond_false, aop, Zv, Zq, Zp, ev, sput, Zt, Zx, Zz, unK, Zd, Zw, Nat.reduceBEq, Nat.reduceAdd, Int.reduceBEq, Int.reduceBNe, Int.reduceLT, Zu, Zy, tup, tyf, loadO kb Xf hl.2, Yt, List.nil_append, List.append_nil, List.toList_toArray, List.cons_append]
    refine ⟨_, _, below_call ho, rfl, ?_⟩
    by_cases hz : Xk (dn o x) s = 0
    · have hz' : (((Xk (dn o x) s : Nat) : Int) != 0) = false := by rw [hz]; rfl
      simp (maxSteps := 2000000) only [s100, ↓Za, ↓Zl, ↓Zr, ↓Ze, ↓Zo, ↓Zs, ↓Zg, ↓Zj, ↓Zf, ↓Zc, ↓Zb, ↓vdn, vup, Zn, Zm, Zi, Zh, Zk, List.map_cons, List.map_nil, cond_true, cond_false, aop, Zv, Zq, Zp, ev, sput, Zt, Zx, Zz, unK, Zd, Zw, Nat.reduceBEq, Nat.reduceAdd, Int.reduceBEq, Int.reduceBNe, Int.reduceLT, Zu, Zy, tup, tyf, Xr k2 Yp, hand, hz']
      refine ⟨hEk, fun k hk => ?_⟩
      rcases List.mem_append.1 hk with h1 | h1
      · exact hall k h1
      · rw [List.mem_singleton.1 h1]; exact hz
    · have hz' : (((Xk (dn o x) s : Nat) : Int) != 0) = true := by rw [bne_iff_ne]; omega
      have hf : idl o s = false := by
        rw [idl_dn ho hs, List.all_eq_false]; exact ⟨x, hxm, by simpa using hz⟩
      simp (maxSteps := 2000000) only [s100, ↓Za, ↓Zl, ↓Zr, ↓Ze, ↓Zo, ↓Zs, ↓Zg, ↓Zj, ↓Zf, ↓Zc, ↓Zb, ↓vdn, vup, Zn, Zm, Zi, Zh, Zk, List.map_cons, List.map_nil, cond_true, cond_false, aop, Zv, Zq, Zp, ev, sput, Zt, Zx, Zz, unK, Zd, Zw, Nat.reduceBEq, Nat.reduceAdd, Int.reduceBEq, Int.reduceBNe, Int.reduceLT, Zu, Zy, tup, tyf, Xr k2 Yp, hand, hz', storeB k3 shp_4, rangeQ]
      simp (maxSteps := 2000000) only [s100, ↓Za, ↓Zl, ↓Zr, ↓Ze, ↓Zo, ↓Zs, ↓Zg, ↓Zj, ↓Zf, ↓Zc, ↓Zb, ↓vdn, vup, Zn, Zm, Zi, Zh, Zk, List.map_cons, List.map_nil, cond_true, cond_false, aop, Zv, Zq, Zp, ev, sput, Zt, Zx, Zz, unK, Zd, Zw, Nat.reduceBEq, Nat.reduceAdd, Int.reduceBEq, Int.reduceBNe, Int.reduceLT, Zu, Zy, tup, tyf, Xr (Xw (Xd k3) _) shp_4, hf]
      exact (hE.trans hEk).set_ge (by omega) _
  · rintro hk ⟨hEk, hall⟩
    have k3 := (hEk.2 _ (Xd b3) id).trans b3
    have hf : idl o s = true := by
      rw [idl_dn ho hs, List.all_eq_true]; exact fun x hx => decide_eq_true (hall x hx)
    simp (maxSteps := 2000000) only [s100, ↓Za, ↓Zl, ↓Zr, ↓Ze, ↓Zo, ↓Zs, ↓Zg, ↓Zj, ↓Zf, ↓Zc, ↓Zb, ↓vdn, vup, Zn, Zm, Zi, Zh, Zk, List.map_cons, List.map_nil, cond_true, cond_false, aop, Zv, Zq, Zp, ev, sput, Zt, Zx, Zz, unK, Zd, Zw, Nat.reduceBEq, Nat.reduceAdd, Int.reduceBEq, Int.reduceBNe, Int.reduceLT, Zu, Zy, tup, tyf, storeB k3 shp_4]
    simp (maxSteps := 2000000) only [s100, ↓Za, ↓Zl, ↓Zr, ↓Ze, ↓Zo, ↓Zs, ↓Zg, ↓Zj, ↓Zf, ↓Zc, ↓Zb, ↓vdn, vup, Zn, Zm, Zi, Zh, Zk, List.map_cons, List.map_nil, cond_true, cond_false, aop, Zv, Zq, Zp, ev, sput, Zt, Zx, Zz, unK, Zd, Zw, Nat.reduceBEq, Nat.reduceAdd, Int.reduceBEq, Int.reduceBNe, Int.reduceLT, Zu, Zy, tup, tyf, Xr (Xw (Xd k3) _) shp_4, hf]
    exact (hE.trans hEk).set_ge (by omega) _

/-- Something is so of any two elements. -/
def prB (s : Nat) (q : Nat → Nat → Bool) : Bool := (Am.bits s).all fun i => (Am.bits (s &&& (2 ^ i - 1))).all (q i)
theorem low_mem {s i j : Nat} (hs : s < 64) : j ∈ Am.bits (s &&& (2 ^ i - 1)) ↔ s.testBit j = true ∧ j < i := by
  rw [We, Nat.testBit_and, Nat.testBit_two_pow_sub_one, Bool.and_eq_true, decide_eq_true_eq]
  refine ⟨fun h => h.2, fun h => ⟨?_, h⟩⟩
  have := lt_bit (n := 6) hs h.1; omega
theorem prB_uni {o : List Int} {s : Nat} {f : Bool} (hs : s < 2 ^ o.length) (hn : o.length ≤ 6) : prB s (fun i j => fr o i j == f) = uni o s f := by
  have hp := pow6 hn
  rw [Bool.eq_iff_iff, uni_iff hs, prB, List.all_eq_true]
  simp only [List.all_eq_true, low_mem (show s < 64 by omega), beq_iff_eq]
  constructor
  · intro h i j hij hi hj
    have key : ∀ i j, j < i → s.testBit i = true → s.testBit j = true → fr o i j = f := fun i j hji hi hj => h i (We.2 ⟨by have := lt_bit hs hi; omega, hi⟩) j ⟨hj, hji⟩
    rcases Nat.lt_or_gt_of_ne hij with h1 | h1
    · rw [fr_symm]; exact key j i h1 hj hi
    · exact key i j h1 hi hj
  · intro h i hi j hj
    exact h i j (by omega) (We.1 hi).2 hj.1
theorem two_call [BitTab prog 1] {h : Ya} {s : Nat} {fn : Nat} {first cap : Array Value} (hs : s < 64) (q : Nat → Nat → Bool)
    (hf : ∀ i j h', s.testBit i = true → s.testBit j = true → j < i → Ext (fun _ => False) h h' → Wo prog fn (first.toList ++ [Yb (i : Nat), Yb (j : Nat)] ++ cap.toList) h' (.bool (q i j))) :
    Wo prog 85 [Yb (s : Nat), .func (.func fn) first cap] h (.bool (prB s q)) := by
  refine ACall.forget (Low.bool _) ?_
  obtain ⟨H, hH⟩ : ∃ H, H = h ++ [Blk.cells [Yb (s : Nat)] 3 false] ++ [Blk.cells [.func (.func fn) first cap] 82 false] ++ [Blk.cells [.bool false] 4 false] := ⟨_, rfl⟩
  have hE : Ext (fun _ => False) h H := by rw [hH, List.append_assoc, List.append_assoc]; exact Ext.app _ _ _
  have b2 : H[h.length]? = some (Blk.cells [Yb (s : Nat)] 3 false) := by rw [hH]; simp
  have b3 : H[h.length + 1]? = some (.cells [.func (.func fn) first cap] 82 false) := by rw [hH]; simp
  have b4 : H[h.length + 2]? = some (.cells [.bool false] 4 false) := by rw [hH]; simp
  refine s85_call (by simp) ?_
  simp (maxSteps := 2000000) only [s85, ↓Za, ↓Zl, ↓Zr, ↓Ze, ↓Zo, ↓Zs, ↓Zg, ↓Zj, ↓Zf, ↓Zc, ↓Zb, ↓vdn, vup, Zn, Zm, Zi, Zh, Zk, List.map_cons, List.map_nil, cond_true, cond_false, aop, Zv, Zq, Zp, ev, sput, Zt, Zx, Zz, unK, Zd, Zw, Nat.reduceBEq, Nat.reduceAdd, Int.reduceBEq, Int.reduceBNe, Int.reduceLT, Zu, Zy, tup, tyf, boxK, cellsOf, Option.isSome_some, Wp, Wr, zero_4, List.length_append, List.length_singleton, Nat.add_assoc, Nat.reduceAdd]
  rw [← hH]
  simp (maxSteps := 2000000) only [s85, ↓Za, ↓Zl, ↓Zr, ↓Ze, ↓Zo, ↓Zs, ↓Zg, ↓Zj, ↓Zf, ↓Zc, ↓Zb, ↓vdn, vup, Zn, Zm, Zi, Zh, Zk, List.map_cons, List.map_nil, cond_true, cond_false, aop, Zv, Zq, Zp, ev, sput, Zt, Zx, Zz, unK, Zd, Zw, Nat.reduceBEq, Nat.reduceAdd, Int.reduceBEq, Int.reduceBNe, Int.reduceLT, Zu, Zy, tup, tyf, Xr b2 Yp, Yt, List.nil_append, List.append_nil, List.toList_toArray, List.cons_append]
  refine elements_call.mono ?_
  rintro _ _ ⟨rfl, rfl⟩
  refine aw_range bitIter (bx := H.length) (s := s) (et := 3) rfl (Xc _ _) (by omega) (fun pre hk => Ext (fun _ => False) H hk ∧ ∀ i ∈ pre, (Am.bits (s &&& (2 ^ i - 1))).all (q i) = true) ⟨?_, fun _ hk => by cases hk⟩ ?_ ?_
  · refine ⟨by simp, fun j hj _ => ?_⟩
    rw [List.getElem?_set_ne (by omega), List.getElem?_append_left hj]
  · rintro pre x hk hpre ⟨hEk, hall⟩
    have hxm := mem_pre hpre
    have hxb := (We.1 hxm).2
    have hx6 : x < 6 := lt_bit (n := 6) hs hxb
    have hp6 : (2 : Nat) ^ x ≤ 2 ^ 6 := Nat.pow_le_pow_right (by decide) (by omega)
    have hp1 : 1 ≤ 2 ^ x := Nat.one_le_two_pow
    have hsh : subV .i64 (shlV .i64 1 ((x : Nat) : Int)) 1 = ((2 ^ x - 1 : Nat) : Int) := by
      rw [shl1 (by omega), ← Wu, subV_id (by omega) (by omega)]; omega
    have hand := bitsV_and (a := s) (b := 2 ^ x - 1) (by omega) (by omega)
    obtain ⟨G, hG⟩ : ∃ G, G = hk ++ [Blk.cells [Yb (x : Nat)] 3 false] := ⟨_, rfl⟩
    have hkG : Ext (fun _ => False) hk G := by rw [hG]; exact Ext.app _ _ _
    have hEG := hEk.trans hkG
    have g2 := (hEG.2 _ (Xd b2) id).trans b2
    have g5 : G[hk.length]? = some (.cells [Yb (x : Nat)] 3 false) := by rw [hG]; exact Xc _ _
    have hlt : s &&& (2 ^ x - 1) < 64 := Nat.lt_of_le_of_lt Nat.and_le_left hs
    have stx : ∀ {K : Ya → Prop}, Wh prog (hk ++ [Blk.cells [.int .i64 0] 3 false]) 3 (.pointer (some ⟨hk.length, 0, none⟩)) (Yb (x : Nat)) K = K G := fun {K} => by
      rw [storeI (Xc _ _) Yp, List.set_append_right _ _ (Nat.le_refl _), Nat.sub_self, List.set_cons_zero, ← hG]
    simp (maxSteps := 2000000) only [s85, ↓Za, ↓Zl, ↓Zr, ↓Ze, ↓Zo, ↓Zs, ↓Zg, ↓Zj, ↓Zf, ↓Zc, ↓Zb, ↓vdn, vup, Zn, Zm, Zi, Zh, Zk, List.map_cons, List.map_nil, cond_true, cond_false, aop, Zv, Zq, Zp, ev, sput, Zt, Zx, Zz, unK, Zd, Zw, Nat.reduceBEq, Nat.reduceAdd, Int.reduceBEq, Int.reduceBNe, Int.reduceLT, Zu, Zy, tup, tyf, r85_1_a, r85_1_b, Wr, Wp, zero_3, stx]
    refine Xy [] (by kernel_rfl) (by kernel_rfl) (by kernel_rfl) (by kernel_rfl) ?_
    simp (maxSteps := 2000000) only [s85, ↓Za, ↓Zl, ↓Zr, ↓Ze, ↓Zo, ↓Zs, ↓Zg, ↓Zj, ↓Zf, ↓Zc, ↓Zb, ↓vdn, vup, Zn, Zm, Zi, Zh, Zk, List.map_cons, List.map_nil, cond_true, cond_false, aop, Zv, Zq, Zp, ev, sput, Zt, Zx, Zz, unK, Zd, Zw, Nat.reduceBEq, Nat.reduceAdd, Int.reduceBEq, Int.reduceBNe, Int.reduceLT, Zu, Zy, tup, tyf, Xr g2 Yp, Xr g5 Yp, hsh, hand, Int.natCast_nonneg, Yt, List.nil_append, List.append_nil, List.toList_toArray, List.cons_append]
    refine ⟨_, _, elements_call, ?_⟩
    refine aw_range bitIter (bx := G.length) (s := s &&& (2 ^ x - 1)) (et := 3) rfl (Xc _ _) (by omega) (fun pre' hk' => Ext (fun _ => False) G hk' ∧ ∀ j ∈ pre', q x j = true) ⟨?_, fun _ hk => by cases hk⟩ ?_ ?_
    · refine ⟨by simp, fun j hj _ => ?_⟩
      rw [List.getElem?_set_ne (by omega), List.getElem?_append_left hj]
    · rintro pre' y hk' hpre' ⟨hEk', hall'⟩
      have hym := mem_pre hpre'
      obtain ⟨hyb, hyx⟩ := (low_mem hs).1 hym
      have m3 := ((hEG.trans hEk').2 _ (Xd b3) id).trans b3
      have m4 := ((hEG.trans hEk').2 _ (Xd b4) id).trans b4
      have m5 := (hEk'.2 _ (Xd g5) id).trans g5
      have hfn := hf x y hk' hxb hyb hyx (hE.trans (hEG.trans hEk'))
      simp (maxSteps := 2000000) only [s85, ↓Za, ↓Zl, ↓Zr, ↓Ze, ↓Zo, ↓Zs, ↓Zg, ↓Zj, ↓Zf, ↓Zc, ↓Zb, ↓vdn, vup, Zn, Zm, Zi, Zh, Zk, List.map_cons, List.map_nil, cond_true, cond_false, aop, Zv, Zq, Zp, ev, sput, Zt, Zx, Zz, unK, Zd, Zw, Nat.reduceBEq, Nat.reduceAdd, Int.reduceBEq, Int.reduceBNe, Int.reduceLT, Zu, Zy, tup, tyf, r85_0_a, r85_0_b, Xr m3 shp_82, Xr m5 Yp, Yt]
      refine hfn.mono ?_
      rintro _ _ ⟨rfl, rfl⟩
      cases hq : q x y with
      | true =>
        simp (maxSteps := 2000000) only [s85, ↓Za, ↓Zl, ↓Zr, ↓Ze, ↓Zo, ↓Zs, ↓Zg, ↓Zj, ↓Zf, ↓Zc, ↓Zb, ↓vdn, vup, Zn, Zm, Zi, Zh, Zk, List.map_cons, List.map_nil, cond_true, cond_false, aop, Zv, Zq, Zp, ev, sput, Zt, Zx, Zz, unK, Zd, Zw, Nat.reduceBEq, Nat.reduceAdd, Int.reduceBEq, Int.reduceBNe, Int.reduceLT, Zu, Zy, tup, tyf, Bool.not_true]
        refine ⟨hEk', fun j hj => ?_⟩
        rcases List.mem_append.1 hj with h1 | h1
        · exact hall' j h1
        · rw [List.mem_singleton.1 h1]; exact hq
      | false =>
        have hff : prB s q = false := by
          rw [prB, List.all_eq_false]
          refine ⟨x, hxm, ?_⟩
          rw [List.all_eq_true]
          exact fun hc => by rw [hc y hym] at hq; cases hq
        simp (maxSteps := 2000000) only [s85, ↓Za, ↓Zl, ↓Zr, ↓Ze, ↓Zo, ↓Zs, ↓Zg, ↓Zj, ↓Zf, ↓Zc, ↓Zb, ↓vdn, vup, Zn, Zm, Zi, Zh, Zk, List.map_cons, List.map_nil, cond_true, cond_false, aop, Zv, Zq, Zp, ev, sput, Zt, Zx, Zz, unK, Zd, Zw, Nat.reduceBEq, Nat.reduceAdd, Int.reduceBEq, Int.reduceBNe, Int.reduceLT, Zu, Zy, tup, tyf, Bool.not_false, storeB m4 shp_4, rangeQ]
        simp (maxSteps := 2000000) only [s85, ↓Za, ↓Zl, ↓Zr, ↓Ze, ↓Zo, ↓Zs, ↓Zg, ↓Zj, ↓Zf, ↓Zc, ↓Zb, ↓vdn, vup, Zn, Zm, Zi, Zh, Zk, List.map_cons, List.map_nil, cond_true, cond_false, aop, Zv, Zq, Zp, ev, sput, Zt, Zx, Zz, unK, Zd, Zw, Nat.reduceBEq, Nat.reduceAdd, Int.reduceBEq, Int.reduceBNe, Int.reduceLT, Zu, Zy, tup, tyf, Xr (Xw (Xd m4) _) shp_4, hff]
        exact (hE.trans (hEG.trans hEk')).set_ge (by omega) _
    · rintro hk' ⟨hEk', hall'⟩
      simp (maxSteps := 2000000) only [s85, ↓Za, ↓Zl, ↓Zr, ↓Ze, ↓Zo, ↓Zs, ↓Zg, ↓Zj, ↓Zf, ↓Zc, ↓Zb, ↓vdn, vup, Zn, Zm, Zi, Zh, Zk, List.map_cons, List.map_nil, cond_true, cond_false, aop, Zv, Zq, Zp, ev, sput, Zt, Zx, Zz, unK, Zd, Zw, Nat.reduceBEq, Nat.reduceAdd, Int.reduceBEq, Int.reduceBNe, Int.reduceLT, Zu, Zy, tup, tyf, rangeQ]
      refine ⟨hEG.trans hEk', fun i hi => ?_⟩
      rcases List.mem_append.1 hi with h1 | h1
      · exact hall i h1
      · rw [List.mem_singleton.1 h1, List.all_eq_true]; exact hall'
  · rintro hk ⟨hEk, hall⟩
    have k4 := (hEk.2 _ (Xd b4) id).trans b4
    have hff : prB s q = true := List.all_eq_true.2 hall
    simp (maxSteps := 2000000) only [s85, ↓Za, ↓Zl, ↓Zr, ↓Ze, ↓Zo, ↓Zs, ↓Zg, ↓Zj, ↓Zf, ↓Zc, ↓Zb, ↓vdn, vup, Zn, Zm, Zi, Zh, Zk, List.map_cons, List.map_nil, cond_true, cond_false, aop, Zv, Zq, Zp, ev, sput, Zt, Zx, Zz, unK, Zd, Zw, Nat.reduceBEq, Nat.reduceAdd, Int.reduceBEq, Int.reduceBNe, Int.reduceLT, Zu, Zy, tup, tyf, storeB k4 shp_4]
    simp (maxSteps := 2000000) only [s85, ↓Za, ↓Zl, ↓Zr, ↓Ze, ↓Zo, ↓Zs, ↓Zg, ↓Zj, ↓Zf, ↓Zc, ↓Zb, ↓vdn, vup, Zn, Zm, Zi, Zh, Zk, List.map_cons, List.map_nil, cond_true, cond_false, aop, Zv, Zq, Zp, ev, sput, Zt, Zx, Zz, unK, Zd, Zw, Nat.reduceBEq, Nat.reduceAdd, Int.reduceBEq, Int.reduceBNe, Int.reduceLT, Zu, Zy, tup, tyf, Xr (Xw (Xd k4) _) shp_4, hff]
    exact (hE.trans hEk).set_ge (by omega) _
end Go.Proofs.Tryd.Am

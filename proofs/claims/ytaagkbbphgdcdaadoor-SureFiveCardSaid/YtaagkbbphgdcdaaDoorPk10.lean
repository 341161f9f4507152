/-
  sure: the library's sort of a short slice, with the comparison that puts the greatest first.
  sure: the library's sort of a short slice: what stands ahead of the insertion.
  sure: a base with one row more.
  sure: the least rank, as the program finds it.
  sure: the reference's rank.
  sure: Fit, by the program and by the reference.
  sure: codes against weights and ranks.
  sure: the cycle of five.
  Printed by gen.py: the code of some functions, without what no step looks at; held against the program's own by the kernel.
-/
import Derived.Test.YtaagkbbphgdcdaaDoorPk6
import Derived.Test.YtaagkbbphgdcdaaDoorPk9
import Derived.Test.YtaagkbbphgdcdaaDoorPk7
import Derived.Test.YtaagkbbphgdcdaaDoorPk3
import Derived.Test.YtaagkbbphgdcdaaDoorProg
import Derived.KernelRfl
import Derived.Shelf.Abstract
set_option linter.all false
namespace Go.Proofs.Tryd.Am
open Go.Am Sr
set_option maxRecDepth 100000
set_option maxHeartbeats 1000000

def swL (L : List Nat) (j : Nat) : List Nat := (L.set j (L.getD (j - 1) 0)).set (j - 1) (L.getD j 0)
theorem swL_get {L : List Nat} {j : Nat} (h1 : 1 ≤ j) (h2 : j < L.length) (t : Nat) : (swL L j).getD t 0 = if t = j - 1 then L.getD j 0 else if t = j then L.getD (j - 1) 0 else L.getD t 0 := by
  rw [swL, Wx (by rw [List.length_set]; omega), Wx h2]
theorem swL_perm {L : List Nat} {j : Nat} (h1 : 1 ≤ j) (h2 : j < L.length) : (swL L j).Perm L := by
  have := Array.swap_perm (xs := L.toArray) (i := j) (j := j - 1) (by simpa using h2) (by simp; omega)
  rw [Array.perm_iff_toList_perm, Array.toList_swap] at this
  simpa [swL, List.getD, List.getElem?_eq_getElem h2, List.getElem?_eq_getElem (show j - 1 < L.length by omega)] using this

def SrtTo (L : List Nat) (i : Nat) : Prop := ∀ p q, p < q → q < i → L.getD q 0 ≤ L.getD p 0
def SrtBut (L : List Nat) (i j : Nat) : Prop := ∀ p q, p < q → q ≤ i → q ≠ j → L.getD q 0 ≤ L.getD p 0
theorem SrtBut.step {L : List Nat} {i j : Nat} (h : SrtBut L i j) (h1 : 1 ≤ j) (h2 : j < L.length) (hj : j ≤ i) (hlt : L.getD (j - 1) 0 < L.getD j 0) : SrtBut (swL L j) i (j - 1) := by
  intro p q hpq hq hne
  rw [swL_get h1 h2, swL_get h1 h2, if_neg hne]
  by_cases hqj : q = j
  · rw [if_pos hqj]
    by_cases hp : p = j - 1
    · rw [if_pos hp]; omega
    · rw [if_neg hp, if_neg (by omega)]
      exact h p (j - 1) (by omega) (by omega) (by omega)
  · rw [if_neg hqj]
    by_cases hp : p = j - 1
    · rw [if_pos hp]; exact h j q (by omega) hq hqj
    · rw [if_neg hp]
      by_cases hpj : p = j
      · rw [if_pos hpj]; exact h (j - 1) q (by omega) hq hqj
      · rw [if_neg hpj]; exact h p q hpq hq hqj
theorem SrtBut.done {L : List Nat} {i j : Nat} (h : SrtBut L i j) (hj : j = 0 ∨ L.getD j 0 ≤ L.getD (j - 1) 0) : SrtTo L (i + 1) := by
  intro p q hpq hq
  by_cases hqj : q = j
  · subst hqj
    rcases hj with hj | hj
    · omega
    · by_cases hp : p = q - 1
      · subst hp; exact hj
      · exact Nat.le_trans hj (h p (q - 1) (by omega) (by omega) (by omega))
  · exact h p q hpq (by omega) hqj
theorem SrtTo.pw {L : List Nat} (h : SrtTo L L.length) : L.Pairwise fun a b => b ≤ a := by
  rw [List.pairwise_iff_getElem]
  intro i j hi hj hij
  have := h i j hij hj
  rw [List.getD, List.getD, List.getElem?_eq_getElem hi, List.getElem?_eq_getElem hj] at this
  exact this

theorem s96_callW [Tabs Tryd.prog] {args : List Value} {h : Zh} {Q : Value → Zh → Prop} (hsz : args.length ≤ 8) (hk : AWS Tryd.prog 8 s96 (Zr Tryd.prog [.tmp 4] Q) (Zo 0 args) h) : ACall Tryd.prog 96 args h Q :=
  Xb Tryd.func96 rfl (enters_of Tryd.func96 (by kernel_rfl) rfl) rfl rfl (by decide) s96_strip s96_ok hsz hk
theorem cmp_call [Tabs prog] {h : Zh} {x y : Nat} (hx : x < 4611686018427387904) (hy : y < 4611686018427387904) : APure prog 96 [Zd x, Zd y] h (Zd ((y : Int) - (x : Int))) := by
  refine s96_callW (by simp) ?_
  refine Zm ?_
  simp (maxSteps := 2000000) only [s96, ↓Za, ↓Zi, ↓Zw, ↓Zb, ↓Zc, vup, cond_true, cond_false, aop, Zf, Zo, ev, sput, Ze, Zy, Ya, Nat.reduceBEq, Nat.reduceAdd, Zr, Xj, tup, subV_id (show -9223372036854775808 ≤ (y : Int) - (x : Int) by omega) (show (y : Int) - (x : Int) < 9223372036854775808 by omega)]

abbrev ov (b n m : Nat) : Value := .slice (some ⟨b, 0, some 0⟩) n (n + m)
abbrev cmpV : Value := .func (.func 96) #[] #[]
theorem ov_own {h : Zh} {b n : Nat} {L : List Nat} {ys : List Int} (hb : b < h.length) (hn : L.length = n) : OwnSl 3 (h.set b (.ints (iL L ++ ys) 3 false)) (ov b n ys.length) (iL L) :=
  .inr ⟨b, ys, by rw [Ww, hn], Wg hb _⟩
theorem elemP_ov (b n m i : Nat) : Wd (ov b n m) 1 i = .pointer (some ⟨b, i, none⟩) := by simp [Wd]
theorem ov_load {h : Zh} {b n : Nat} {L : List Nat} {ys : List Int} {i : Nat} (hb : b < h.length) (hn : L.length = n) (hi : i < n) {K : Value → Prop} :
    Xk prog (h.set b (.ints (iL L ++ ys) 3 false)) 3 (.pointer (some ⟨b, i, none⟩)) K = K (Zd (L.getD i 0 : Nat)) := by
  have := (ov_own (h := h) (b := b) (n := n) (L := L) (ys := ys) hb hn).int.load Yq (i := i) (by rw [Ww]; omega) K
  rw [elemP_ov, iL_get] at this
  exact this
theorem ov_store {h : Zh} {b : Nat} {L : List Nat} {ys : List Int} {i x : Nat} (hb : b < h.length) (hi : i < L.length) {K : Zh → Prop} :
    Xi prog (h.set b (.ints (iL L ++ ys) 3 false)) 3 (.pointer (some ⟨b, i, none⟩)) (Zd (x : Nat)) K = K (h.set b (.ints (iL (L.set i x) ++ ys) 3 false)) := by
  rw [storeBI (Wg hb _) Yq (by rw [List.length_append, Ww]; omega), List.set_set, List.set_append_left _ _ (by rw [Ww]; exact hi), iL_set]

theorem s102_callW [Tabs Tryd.prog] {args : List Value} {h : Zh} {Q : Value → Zh → Prop} (hsz : args.length ≤ 53) (hk : AWS Tryd.prog 53 s102 (Zr Tryd.prog [] Q) (Zo 0 args) h) : ACall Tryd.prog 102 args h Q :=
  Xb Tryd.func102 rfl (enters_of Tryd.func102 (by kernel_rfl) rfl) rfl rfl (by decide) s102_strip s102_ok hsz hk
theorem isort_call [Tabs prog] {h : Zh} {b : Nat} {L0 : List Nat} {ys : List Int} (hb : h[b]? = some (.ints (iL L0 ++ ys) 3 false)) (hl : L0.length ≤ 12) (hx : ∀ x ∈ L0, x < 4611686018427387904) :
    ACall prog 102 [ov b L0.length ys.length, .int .i64 0, Zd L0.length, cmpV] h fun _ h' => ∃ L : List Nat, L.Perm L0 ∧ L.Pairwise (fun a b => b ≤ a) ∧ h' = h.set b (.ints (iL L ++ ys) 3 false) := by
  have hlt := Yo hb
  have h0 : h = h.set b (.ints (iL L0 ++ ys) 3 false) := by
    apply List.ext_getElem?
    intro i
    by_cases hi : b = i
    · subst hi; rw [Wg hlt, hb]
    · rw [List.getElem?_set_ne hi]
  obtain ⟨n, hn⟩ : ∃ n, L0.length = n := ⟨_, rfl⟩
  rw [hn] at hl ⊢
  have hrange : ∀ {L : List Nat}, L.Perm L0 → ∀ i, L.getD i 0 < 4611686018427387904 := fun {L} hp i => by
    by_cases hi : i < L.length
    · rw [List.getD, List.getElem?_eq_getElem hi]; exact hx _ (hp.mem_iff.1 (List.getElem_mem hi))
    · rw [List.getD, List.getElem?_eq_none (by omega)]; decide
  refine s102_callW (by simp) ?_
  simp only [s102]
  have e01 : addV .i64 0 1 = 1 := rfl
  refine Zg fun N1 hN1 => ?_
  simp (maxSteps := 2000000) only [↓Za, ↓Zb, ↓Zc, vup, cond_true, cond_false, aop, Zf, Zo, ev, sput, Ze, Zy, Ya, Nat.reduceBEq, Nat.reduceAdd, e01]
  refine hN1 [(0, ov b n ys.length), (1, .int .i64 0), (2, Zd n), (3, cmpV), (8, .int .i64 1)] _ _ ?_ (by simp (maxSteps := 2000000) only [vup, cond_true, cond_false, Nat.reduceBEq])
  clear hN1
  try clear N1
  refine Zt ?_
  refine Zn fun Q hQ => ?_
  refine Yw (γ := Nat × List Nat) (fun s => 1 ≤ s.1 ∧ (s.1 ≤ n ∨ s.1 = 1) ∧ s.2.Perm L0 ∧ SrtTo s.2 s.1)
    (fun s => ([(0, ov b n ys.length), (1, .int .i64 0), (2, Zd n), (3, cmpV), (8, Zd s.1)], h.set b (.ints (iL s.2 ++ ys) 3 false))) (fun s => n - s.1) (1, L0) ⟨Nat.le_refl _, .inr rfl, .refl _, fun p q _ _ => by omega⟩ (by simp (maxSteps := 2000000) only [vup, cond_true, cond_false, Nat.reduceBEq, Int.natCast_one]) h0 ?_
  rintro ⟨i, L⟩ ⟨hi1, hi, hp, hs⟩
  simp only at hi1 hi hp hs
  have hLn : L.length = n := hp.length_eq.trans hn
  refine Zn fun Q2 hQ2 => ?_
  simp only [l102_1]
  by_cases hin : (i : Int) < n
  · have hi' : i < n := by omega
    refine Zg fun N2 hN2 => ?_
    simp (maxSteps := 2000000) only [↓Za, ↓Zk, ↓Zi, ↓Zb, ↓Zc, ↓vdn, vup, cond_true, cond_false, aop, Zf, ev, sput, Ze, Zy, Ya, Nat.reduceBEq, hin]
    refine hN2 [(0, ov b n ys.length), (1, .int .i64 0), (2, Zd n), (3, cmpV), (8, Zd i)] _ _ ?_ (by simp (maxSteps := 2000000) only [vup, cond_true, cond_false, Nat.reduceBEq])
    clear hN2
    try clear N2
    refine Zp fun M hM => ?_
    refine Zt ?_
    refine Zg fun N3 hN3 => ?_
    simp (maxSteps := 2000000) only [↓Za, ↓Zb, ↓Zc, vup, cond_true, cond_false, aop, Zf, ev, sput, Ze, Nat.reduceBEq]
    refine hN3 [(0, ov b n ys.length), (1, .int .i64 0), (2, Zd n), (3, cmpV), (8, Zd i), (9, Zd i)] _ _ ?_ (by simp (maxSteps := 2000000) only [vup, cond_true, cond_false, Nat.reduceBEq])
    clear hN3
    try clear N3
    refine Zt ?_
    refine Zn fun Q3 hQ3 => ?_
    refine Yw (γ := Nat × List Nat) (fun s => s.1 ≤ i ∧ s.2.Perm L0 ∧ SrtBut s.2 i s.1)
      (fun s => ([(0, ov b n ys.length), (1, .int .i64 0), (2, Zd n), (3, cmpV), (8, Zd i), (9, Zd s.1)], h.set b (.ints (iL s.2 ++ ys) 3 false))) (fun s => s.1) (i, L) ⟨Nat.le_refl _, hp, fun p q h1 h2 h3 => hs p q h1 (by omega)⟩ (by simp (maxSteps := 2000000) only [vup, cond_true, cond_false, Nat.reduceBEq]) rfl ?_
    clear hp hs hLn
    rintro ⟨j, L⟩ ⟨hj, hp, hs⟩
    simp only at hj hp hs
    have hLn : L.length = n := hp.length_eq.trans hn
    have own := ov_own (h := h) (b := b) (n := n) (L := L) (ys := ys) hlt hLn
    refine Zn fun Q4 hQ4 => ?_
    simp only [l102_0]
    have fin : (j = 0 ∨ L.getD j 0 ≤ L.getD (j - 1) 0) → ∀ e, ELe e [(0, ov b n ys.length), (1, .int .i64 0), (2, Zd n), (3, cmpV), (8, Zd i)] → M e (h.set b (.ints (iL L ++ ys) 3 false)) := by
      intro hd e he
      refine hM [(0, ov b n ys.length), (1, .int .i64 0), (2, Zd n), (3, cmpV), (8, Zd i)] _ _ ?_ he
      refine Zm ?_
      simp (maxSteps := 2000000) only [↓Za, ↓Zb, ↓Zc, vup, cond_true, cond_false, aop, ev, sput, Ze, Zy, Ya, Nat.reduceBEq, Wz (show i < 9223372036854775807 by omega)]
      exact hQ2 _ _ _ ⟨(i + 1, L), ⟨by simp only; omega, .inl (by simp only; omega), hp, hs.done hd⟩, by simp only; omega, by simp (maxSteps := 2000000) only [vup, cond_true, cond_false, Nat.reduceBEq], rfl⟩
    by_cases hj0 : j = 0
    · subst hj0
      refine Zg fun N4 hN4 => ?_
      simp (maxSteps := 2000000) only [↓Zi]
      refine Xh [(14, 1)] (by kernel_rfl) (by kernel_rfl) (by kernel_rfl) (by kernel_rfl) ?_
      simp (maxSteps := 2000000) only [↓Yg, ↓Yj, ↓vdn, vup, cond_true, cond_false, aop, Zf, ev, sput, Ze, Zy, Ya, pickK, Nat.reduceBEq, Int.natCast_zero, Int.lt_irrefl]
      refine hQ4 _ _ _ (hQ3 _ _ _ ?_)
      simp (maxSteps := 2000000) only [Zf, Zl, if_true]
      exact fin (.inl rfl) _ (by simp (maxSteps := 2000000) only [vup, cond_true, cond_false, Nat.reduceBEq])
    · have hjp : (0 : Int) < (j : Int) := by omega
      have hjn : j < (iL L).length := by rw [Ww]; omega
      have hj1n : j - 1 < (iL L).length := by omega
      have c1 := cmp_call (h := h.set b (.ints (iL L ++ ys) 3 false)) (hrange hp j) (hrange hp (j - 1))
      have hsub := subN1 (show 1 ≤ j by omega) (show j < 9223372036854775808 by omega)
      by_cases hlt2 : L.getD (j - 1) 0 < L.getD j 0
      · have hneg : ((L.getD (j - 1) 0 : Nat) : Int) - ((L.getD j 0 : Nat) : Int) < 0 := by omega
        refine Zg fun N5 hN5 => ?_
        simp (maxSteps := 2000000) only [↓Zi]
        refine Xh [(14, 1)] (by kernel_rfl) (by kernel_rfl) (by kernel_rfl) (by kernel_rfl) ?_
        simp (maxSteps := 2000000) only [↓Yj, ↓vdn, vup, List.map_cons, List.map_nil, cond_true, cond_false, aop, Zf, ev, sput, Ze, Zy, Ya, pickK, Nat.reduceBEq, Nat.reduceAdd, tyf, hjp, hsub, own.int.idx Xg Yv hjn, own.int.load Yq hjn, own.int.idx Xg Yv hj1n, own.int.load Yq hj1n, iL_get, Ym, List.nil_append, List.append_nil]
        refine ⟨_, _, c1, rfl, ?_⟩
        simp (maxSteps := 2000000) only [↓Zk, ↓vdn, vup, cond_true, cond_false, Zf, ev, Nat.reduceBEq, hneg]
        refine hN5 [(0, ov b n ys.length), (1, .int .i64 0), (2, Zd n), (3, cmpV), (8, Zd i), (9, Zd j)] _ _ ?_ (by simp (maxSteps := 2000000) only [vup, cond_true, cond_false, Nat.reduceBEq])
        clear hN5
        try clear N5
        refine Zm ?_
        simp (maxSteps := 2000000) only [↓Zi, ↓Yc]
        refine Xh [] (by kernel_rfl) (by kernel_rfl) (by kernel_rfl) (by kernel_rfl) ?_
        have hjL : j < L.length := by omega
        simp (maxSteps := 2000000) only [↓Za, ↓Zb, ↓Zc, ↓Yj, ↓vdn, vup, cond_true, cond_false, aop, Zf, Zl, ev, sput, Ze, Zy, Ya, Nat.reduceBEq, Nat.reduceAdd, hsub, own.int.idx Xg Yv hjn, own.int.idx Xg Yv hj1n, elemP_ov, ov_load hlt hLn (show j < n by omega), ov_load hlt hLn (show j - 1 < n by omega), ov_store hlt hjL, ov_store hlt (show j - 1 < (L.set j (L.getD (j - 1) 0)).length by rw [List.length_set]; omega)]
        refine hQ4 _ _ _ ⟨(j - 1, swL L j), ⟨by simp only; omega, (swL_perm (by omega) hjL).trans hp, hs.step (by omega) hjL hj hlt2⟩, by simp only; omega, by simp (maxSteps := 2000000) only [vup, cond_true, cond_false, Nat.reduceBEq], rfl⟩
      · have hneg : ¬ ((L.getD (j - 1) 0 : Nat) : Int) - ((L.getD j 0 : Nat) : Int) < 0 := by omega
        refine Zg fun N6 hN6 => ?_
        simp (maxSteps := 2000000) only [↓Zi]
        refine Xh [(14, 1)] (by kernel_rfl) (by kernel_rfl) (by kernel_rfl) (by kernel_rfl) ?_
        simp (maxSteps := 2000000) only [↓Yj, ↓vdn, vup, List.map_cons, List.map_nil, cond_true, cond_false, aop, Zf, ev, sput, Ze, Zy, Ya, pickK, Nat.reduceBEq, Nat.reduceAdd, tyf, hjp, hsub, own.int.idx Xg Yv hjn, own.int.load Yq hjn, own.int.idx Xg Yv hj1n, own.int.load Yq hj1n, iL_get, Ym, List.nil_append, List.append_nil]
        refine ⟨_, _, c1, rfl, ?_⟩
        simp (maxSteps := 2000000) only [↓Yg, ↓vdn, vup, cond_true, cond_false, Zf, ev, Nat.reduceBEq, hneg]
        refine hQ4 _ _ _ (hQ3 _ _ _ ?_)
        simp (maxSteps := 2000000) only [Zf, Zl, if_true]
        exact fin (.inr (by omega)) _ (by simp (maxSteps := 2000000) only [vup, cond_true, cond_false, Nat.reduceBEq])
  · refine Zg fun M hM => ?_
    simp (maxSteps := 2000000) only [↓Za, ↓Zi, ↓Yg, ↓Zb, ↓Zc, ↓vdn, vup, cond_true, cond_false, aop, Zf, ev, sput, Ze, Zy, Ya, Nat.reduceBEq, hin]
    refine hQ2 _ _ _ (hQ _ _ _ ?_)
    simp (maxSteps := 2000000) only [Zl, Zr, Xj, if_true]
    refine ⟨L, hp, ?_, rfl⟩
    refine SrtTo.pw ?_
    rw [hLn]
    intro p q hpq hq
    exact hs p q hpq (by omega)
end Go.Proofs.Tryd.Am

namespace Go.Proofs.Tryd.Am
open Go.Am Sr
set_option maxRecDepth 100000
set_option maxHeartbeats 1000000

theorem wrap8 {x : Nat} (h : x < 256) : IntKind.u8.wrap (x : Int) = (x : Int) := by
  simp [IntKind.wrap, IntKind.signed, IntKind.bits]; omega
theorem s111_callW [Tabs Tryd.prog] {args : List Value} {h : Zh} {Q : Value → Zh → Prop} (hsz : args.length ≤ 25) (hk : AWS Tryd.prog 25 s111 (Zr Tryd.prog [.tmp 2] Q) (Zo 0 args) h) : ACall Tryd.prog 111 args h Q :=
  Xb Tryd.func111 rfl (enters_of Tryd.func111 (by kernel_rfl) rfl) rfl rfl (by decide) s111_strip s111_ok hsz hk
theorem len64_call [Tabs prog] {h : Zh} {x : Nat} (hx : x < 256) : ACall prog 111 [vu x] h fun r h' => (∃ z, r = .int .i64 z) ∧ h' = h := by
  obtain ⟨s, hs, hq⟩ : ∃ s : ByteArray, s.size = 256 ∧ q111_10 = .region [⟨some 19, .move (.tmp 2), none⟩, ⟨some 20, .move (.tmp 0), none⟩, ⟨some 21, .convert 63 5 (.tmp 20), none⟩, ⟨some 22, .index 9 (.const (.string s)) (.tmp 21), none⟩,
      ⟨some 23, .convert 5 3 (.tmp 22), none⟩, ⟨some 24, .binOp .add 3 (.tmp 19) (.tmp 23) 3, none⟩, ⟨some 2, .assign (.tmp 24), none⟩] := by
    refine ⟨_, ?_, rfl⟩
    kernel_rfl
  have hidx : s[x]? = some (s[x]'(by omega)) := getElem?_pos s x (by omega)
  have hnn : ∀ i : Nat, (0 : Int) ≤ (i : Int) := Int.natCast_nonneg
  have n1 : ¬ (4294967296 : Int) ≤ (x : Int) := by omega
  have n2 : ¬ (65536 : Int) ≤ (x : Int) := by omega
  have n3 : ¬ (256 : Int) ≤ (x : Int) := by omega
  refine s111_callW (by simp) ?_
  simp only [s111]
  refine Zg fun N1 hN1 => ?_
  simp (maxSteps := 2000000) only [↓Za, ↓Zb, ↓Zc, vup, cond_false, aop, Zf, Zo, ev, sput, Ze, Nat.reduceBEq]
  refine hN1 [(0, vu x), (2, .int .i64 0)] _ _ ?_ (by simp (maxSteps := 2000000) only [vup, cond_true, cond_false, Nat.reduceBEq])
  clear hN1
  try clear N1
  refine Zg fun N2 hN2 => ?_
  simp (maxSteps := 2000000) only [↓Za, ↓Zk, ↓Zi, ↓Zb, ↓Zc, ↓vdn, vup, cond_true, cond_false, aop, Zf, ev, sput, Ze, Zy, Ya, Nat.reduceBEq, n1]
  refine hN2 [(0, vu x), (2, .int .i64 0)] _ _ ?_ (by simp (maxSteps := 2000000) only [vup, cond_true, cond_false, Nat.reduceBEq])
  clear hN2
  try clear N2
  refine Zg fun N3 hN3 => ?_
  simp (maxSteps := 2000000) only [↓Za, ↓Zk, ↓Zi, ↓Zb, ↓Zc, ↓vdn, vup, cond_true, cond_false, aop, Zf, ev, sput, Ze, Zy, Ya, Nat.reduceBEq, n2]
  refine hN3 [(0, vu x), (2, .int .i64 0)] _ _ ?_ (by simp (maxSteps := 2000000) only [vup, cond_true, cond_false, Nat.reduceBEq])
  clear hN3
  try clear N3
  refine Zg fun N4 hN4 => ?_
  simp (maxSteps := 2000000) only [↓Za, ↓Zk, ↓Zi, ↓Zb, ↓Zc, ↓vdn, vup, cond_true, cond_false, aop, Zf, ev, sput, Ze, Zy, Ya, Nat.reduceBEq, n3]
  refine hN4 [(0, vu x), (2, .int .i64 0)] _ _ ?_ (by simp (maxSteps := 2000000) only [vup, cond_true, cond_false, Nat.reduceBEq])
  clear hN4
  try clear N4
  rw [hq]
  refine Zm ?_
  simp (maxSteps := 2000000) only [↓Za, ↓Zi, ↓Zw, ↓Zb, ↓Zc, vup, cond_true, cond_false, aop, Zf, ev, sput, Ze, Zy, Ya, Nat.reduceBEq, Zr, Xj, tup, tyf, convK, wrap8 hx, indexK, hnn, Int.toNat_natCast, hidx]
  first | exact ⟨⟨_, rfl⟩, rfl⟩ | exact ⟨_, rfl⟩
theorem s101_callW [Tabs Tryd.prog] {args : List Value} {h : Zh} {Q : Value → Zh → Prop} (hsz : args.length ≤ 8) (hk : AWS Tryd.prog 8 s101 (Zr Tryd.prog [.tmp 2] Q) (Zo 0 args) h) : ACall Tryd.prog 101 args h Q :=
  Xb Tryd.func101 rfl (enters_of Tryd.func101 (by kernel_rfl) rfl) rfl rfl (by decide) s101_strip s101_ok hsz hk
theorem len_call [Tabs prog] {h : Zh} {x : Nat} (hx : x < 256) : ACall prog 101 [vu x] h fun r h' => (∃ z, r = .int .i64 z) ∧ h' = h := by
  refine s101_callW (by simp) ?_
  simp only [s101]
  refine Zg fun N5 hN5 => ?_
  simp (maxSteps := 2000000) only [↓Za, ↓Zb, ↓Zc, vup, cond_false, aop, Zf, Zo, ev, sput, Ze, Nat.reduceBEq]
  refine hN5 [(0, vu x), (2, .int .i64 0)] _ _ ?_ (by simp (maxSteps := 2000000) only [vup, cond_true, cond_false, Nat.reduceBEq])
  clear hN5
  try clear N5
  refine Zp fun N6 hN6 => ?_
  refine Yt rfl ?_
  refine Zm ?_
  simp (maxSteps := 2000000) only [↓Zk, Zf]
  refine hN6 [(0, vu x), (2, .int .i64 0)] _ _ ?_ (by simp (maxSteps := 2000000) only [vup, cond_true, cond_false, Nat.reduceBEq])
  clear hN6
  try clear N6
  refine Zm ?_
  simp (maxSteps := 2000000) only [↓Za, ↓Zi, ↓Zw, ↓Zb, ↓Zc, vup, List.map_cons, List.map_nil, cond_true, cond_false, aop, Zf, ev, sput, Ze, Nat.reduceBEq, Zr, Xj, tup, Ym, List.nil_append, List.append_nil]
  refine (len64_call hx).mono ?_
  rintro _ h ⟨⟨z, rfl⟩, rfl⟩
  first | exact ⟨⟨z, rfl⟩, rfl⟩ | exact ⟨z, rfl⟩

theorem s100_callW [Tabs Tryd.prog] {args : List Value} {h : Zh} {Q : Value → Zh → Prop} (hsz : args.length ≤ 148) (hk : AWS Tryd.prog 148 s100 (Zr Tryd.prog [] Q) (Zo 0 args) h) : ACall Tryd.prog 100 args h Q :=
  Xb Tryd.func100 rfl (enters_of Tryd.func100 (by kernel_rfl) rfl) rfl rfl (by decide) s100_strip s100_ok hsz hk
theorem pdq_call [Tabs prog] {h : Zh} {b : Nat} {L0 : List Nat} {ys : List Int} {z : Int} (hb : h[b]? = some (.ints (iL L0 ++ ys) 3 false)) (hl : L0.length ≤ 12) (hx : ∀ x ∈ L0, x < 4611686018427387904) :
    ACall prog 100 [ov b L0.length ys.length, .int .i64 0, Zd L0.length, .int .i64 z, cmpV] h fun _ h' => ∃ L : List Nat, L.Perm L0 ∧ L.Pairwise (fun a b => b ≤ a) ∧ h' = h.set b (.ints (iL L ++ ys) 3 false) := by
  have hsub : subV .i64 (L0.length : Int) 0 = (L0.length : Int) := by rw [subV_id (by omega) (by omega)]; omega
  have hle : (L0.length : Int) ≤ 12 := by omega
  refine s100_callW (by simp) ?_
  simp only [s100]
  refine Zg fun N7 hN7 => ?_
  simp (maxSteps := 2000000) only [↓Za, ↓Zb, ↓Zc, vup, cond_false, aop, Zf, Zo, ev, sput, Ze, Nat.reduceBEq, Nat.reduceAdd]
  refine hN7 [(0, ov b L0.length ys.length), (1, .int .i64 0), (2, Zd L0.length), (3, .int .i64 z), (4, cmpV), (10, .bool true)] _ _ ?_ (by simp (maxSteps := 2000000) only [vup, cond_true, cond_false, Nat.reduceBEq])
  clear hN7
  try clear N7
  refine Zg fun N8 hN8 => ?_
  simp (maxSteps := 2000000) only [↓Za, ↓Zb, ↓Zc, vup, cond_false, aop, Zf, ev, sput, Ze, Nat.reduceBEq]
  refine hN8 [(0, ov b L0.length ys.length), (1, .int .i64 0), (2, Zd L0.length), (3, .int .i64 z), (4, cmpV), (10, .bool true), (11, .bool true)] _ _ ?_ (by simp (maxSteps := 2000000) only [vup, cond_true, cond_false, Nat.reduceBEq])
  clear hN8
  try clear N8
  refine Zt ?_
  refine Zn fun Q hQ => ?_
  refine Yw (γ := Unit) (fun _ => True) (fun _ => ([(0, ov b L0.length ys.length), (1, .int .i64 0), (2, Zd L0.length), (3, .int .i64 z), (4, cmpV), (10, .bool true), (11, .bool true)], h)) (fun _ => 0) () trivial (by simp (maxSteps := 2000000) only [vup, cond_true, cond_false, Nat.reduceBEq]) rfl ?_
  rintro _ _
  refine Zn fun Q2 hQ2 => ?_
  simp only [l100_0]
  refine Zt ?_
  refine Zg fun N9 hN9 => ?_
  simp (maxSteps := 2000000) only [↓Za, ↓Zb, ↓Zc, vup, cond_true, cond_false, aop, Zf, ev, sput, Ze, Zy, Ya, Nat.reduceBEq, hsub]
  refine hN9 [(0, ov b L0.length ys.length), (1, .int .i64 0), (2, Zd L0.length), (3, .int .i64 z), (4, cmpV), (10, .bool true), (11, .bool true), (12, Zd L0.length)] _ _ ?_ (by simp (maxSteps := 2000000) only [vup, cond_true, cond_false, Nat.reduceBEq])
  clear hN9
  try clear N9
  refine Zg fun N10 hN10 => ?_
  simp (maxSteps := 2000000) only [↓Za, ↓Zi, ↓Zw, ↓Zb, ↓Zc, ↓vdn, vup, List.map_cons, List.map_nil, cond_true, cond_false, aop, Zf, Zl, ev, sput, Ze, Zy, Ya, Nat.reduceBEq, Ym, List.nil_append, List.append_nil, hle]
  refine (isort_call hb hl hx).mono ?_
  rintro r h' hr
  refine hQ2 _ _ _ (hQ _ _ _ ?_)
  try simp (maxSteps := 2000000) only [Zl, Zr, Xj]
  exact hr
theorem s95_callW [Tabs Tryd.prog] {args : List Value} {h : Zh} {Q : Value → Zh → Prop} (hsz : args.length ≤ 14) (hk : AWS Tryd.prog 14 s95 (Zr Tryd.prog [] Q) (Zo 0 args) h) : ACall Tryd.prog 95 args h Q :=
  Xb Tryd.func95 rfl (enters_of Tryd.func95 (by kernel_rfl) rfl) rfl rfl (by decide) s95_strip s95_ok hsz hk
theorem sort_call [Tabs prog] {h : Zh} {b : Nat} {L0 : List Nat} {ys : List Int} (hb : h[b]? = some (.ints (iL L0 ++ ys) 3 false)) (hl : L0.length ≤ 12) (hx : ∀ x ∈ L0, x < 4611686018427387904) :
    ACall prog 95 [ov b L0.length ys.length, cmpV] h fun _ h' => ∃ L : List Nat, L.Perm L0 ∧ L.Pairwise (fun a b => b ≤ a) ∧ h' = h.set b (.ints (iL L ++ ys) 3 false) := by
  have hw : IntKind.u64.wrap (L0.length : Int) = (L0.length : Int) := wrapU_id (by omega) (by omega)
  refine s95_callW (by simp) ?_
  simp only [s95]
  refine Zg fun N11 hN11 => ?_
  simp (maxSteps := 2000000) only [↓Za, ↓Zb, ↓Zc, vup, List.map_cons, List.map_nil, cond_true, cond_false, aop, Zf, Zo, ev, sput, Ze, Zj, Nat.reduceBEq, Nat.reduceAdd, tyf, lenK]
  refine hN11 [(0, ov b L0.length ys.length), (1, cmpV), (4, Zd L0.length)] _ _ ?_ (by simp (maxSteps := 2000000) only [vup, cond_true, cond_false, Nat.reduceBEq])
  clear hN11
  try clear N11
  refine Zm ?_
  simp (maxSteps := 2000000) only [↓Za, ↓Zb, ↓Zc, vup, List.map_cons, List.map_nil, cond_true, cond_false, aop, ev, sput, Ze, Nat.reduceBEq, Zr, Xj, tyf, Ym, List.nil_append, List.append_nil, convK, hw]
  refine (len_call (show L0.length < 256 by omega)).mono ?_
  rintro _ h ⟨⟨z, rfl⟩, rfl⟩
  refine (pdq_call hb hl hx).mono ?_
  rintro r h' hr
  exact hr
end Go.Proofs.Tryd.Am

namespace Go.Proofs.Tryd.Am
open Go.Am Sr
set_option maxRecDepth 100000
set_option maxHeartbeats 1000000

theorem mnI' (a b : Nat) : (if ((b : Nat) : Int) < ((a : Nat) : Int) then ((b : Nat) : Int) else ((a : Nat) : Int)) = ((Rn.mn a b : Nat) : Int) := mnI a b
def SpSl (h : Zh) (v : Value) (B : List Nat) : Prop := (v = .slice none 0 0 ∧ B = []) ∨ (B ≠ [] ∧ IntSl h v (iL B))
theorem SpSl.int {h : Zh} {v : Value} {B : List Nat} (hv : SpSl h v B) : IntSl h v (iL B) := by
  rcases hv with ⟨rfl, rfl⟩ | ⟨_, h⟩
  · exact .inl ⟨rfl, rfl⟩
  · exact h
theorem SpSl.ext {h h' : Zh} {v : Value} {B : List Nat} (hv : SpSl h v B) (hE : Ext (fun _ => False) h h') : SpSl h' v B := hv.imp id fun h => ⟨h.1, Xm h.2 hE⟩
theorem clone_span [Tabs prog] {h : Zh} {v : Value} {B : List Nat} (hv : SpSl h v B) (hl : B.length < 1099511627776) : ACall prog 26 [v] h fun r h' => RSI h h' r (iL B) := by
  rcases hv with ⟨rfl, rfl⟩ | ⟨hne, hv⟩
  · refine s26_call (by simp) ?_
    simp (maxSteps := 2000000) only [s26, ↓Za, ↓Zi, ↓Zw, ↓Zb, ↓Zc, ↓vdn, vup, List.map_nil, cond_true, cond_false, aop, Zf, Zo, ev, sput, Ze, Zy, Nat.reduceBEq, Zr, Xj, tup, tyf, Option.isSome_some]
    exact RSI.nil h
  · exact clone_rsi hv (by simpa [iL] using hne) (by rw [Ww]; exact hl)
theorem bs_len {n : Nat} {B : List Nat} (hB : Rn.Bs B) (hl : ∀ x ∈ B, x < 2 ^ n) : B.length ≤ n := by
  have h1 := Rn.cnt_ind B hl hB.ind
  have h2 : Rn.cnt n B ≤ 2 ^ n := by
    have := List.countP_le_length (p := Rn.S B) (l := List.range (2 ^ n))
    rw [List.length_range] at this; exact this
  rw [h1] at h2
  exact (Nat.pow_le_pow_iff_right (by decide)).1 h2
theorem red_take {B : List Nat} {r j : Nat} (hj : j < B.length) : Rn.red (B.take (j + 1)) r = Rn.mn (Rn.red (B.take j) r) (Rn.red (B.take j) r ^^^ B.getD j 0) := by
  rw [List.take_succ_eq_append_getElem hj, Rn.red, List.foldl_append, List.getD, List.getElem?_eq_getElem hj]; rfl
theorem red_take_lt {n : Nat} {B : List Nat} {r : Nat} (hB : ∀ b ∈ B, b < 2 ^ n ∧ b ≠ 0) (hr : r < 2 ^ n) (j : Nat) : Rn.red (B.take j) r < 2 ^ n :=
  Rn.red_lt (fun b hb => (hB b (List.take_subset _ _ hb)).1) (fun b hb => (hB b (List.take_subset _ _ hb)).2) hr
theorem getD_mem {B : List Nat} {j : Nat} (hj : j < B.length) : B.getD j 0 ∈ B := by
  rw [List.getD, List.getElem?_eq_getElem hj]; exact List.getElem_mem hj

theorem s75_callW [Tabs Tryd.prog] {args : List Value} {h : Zh} {Q : Value → Zh → Prop} (hsz : args.length ≤ 31) (hk : AWS Tryd.prog 31 s75 (Zr Tryd.prog [.tmp 4] Q) (Zo 0 args) h) : ACall Tryd.prog 75 args h Q :=
  Xb Tryd.func75 rfl (enters_of Tryd.func75 (by kernel_rfl) rfl) rfl rfl (by decide) s75_strip s75_ok hsz hk
theorem spanned_call [Tabs prog] {h : Zh} {v : Value} {B : List Nat} {n r : Nat} (hv : SpSl h v B) (hn : n ≤ 5) (hB : Rn.Bs B) (hl : ∀ b ∈ B, b < 2 ^ n) (hr : r < 2 ^ n) :
    ACall prog 75 [v, Zd r] h fun u h' => Ext (fun _ => False) h h' ∧ (u = v ∨ ∀ b, Yd u = some b → h.length ≤ b) ∧ ∃ C, SpSl h' u C ∧ Rn.Bs C ∧ (∀ x ∈ C, x < 2 ^ n) ∧ ∀ y, Rn.S C y = Rn.S (B ++ [r]) y := by
  have h32 : 2 ^ n ≤ 2 ^ 5 := Nat.pow_le_pow_right (by decide) hn
  have hl0 : ∀ b ∈ B, b < 2 ^ n ∧ b ≠ 0 := fun b hb => ⟨hl b hb, hB.2 b hb⟩
  have hBl := bs_len hB hl
  refine s75_callW (by simp) ?_
  simp only [s75]
  refine Zg fun N1 hN1 => ?_
  simp (maxSteps := 2000000) only [↓Za, ↓Zb, ↓Zc, vup, cond_false, aop, Zf, Zo, ev, sput, Ze, Nat.reduceBEq, Nat.reduceAdd]
  refine hN1 [(0, v), (1, Zd r), (4, .slice none 0 0)] _ _ ?_ (by simp (maxSteps := 2000000) only [vup, cond_true, cond_false, Nat.reduceBEq])
  clear hN1
  try clear N1
  refine Zg fun Z hZ => ?_
  simp (maxSteps := 2000000) only [↓Za, ↓Zi, ↓Yc, ↓Zb, ↓Zc, vup, List.map_cons, List.map_nil, cond_true, cond_false, aop, Zf, ev, sput, Ze, Zj, Nat.reduceBEq, tyf, hv.int.len, List.length_map, ↓Yy]
  refine Zn fun Q hQ => ?_
  refine Wt (γ := Nat) (fun j => j ≤ B.length)
    (fun j => ([(0, v), (1, Zd (Rn.red (B.take j) r : Nat)), (4, .slice none 0 0), (8, v), (9, Zd B.length), (10, Zd j)], h)) (fun j => B.length - j) 0 (Nat.zero_le _) (by simp (maxSteps := 2000000) only [vup, cond_true, cond_false, Nat.reduceBEq, Int.natCast_zero, List.take_zero, Rn.red, List.foldl_nil]) rfl ?_
  intro j hj
  refine Wp fun Q2 hQ2 => ?_
  by_cases hjn : (j : Int) < B.length
  · have hj' : j < B.length := by omega
    have hj2 : j < (iL B).length := by rw [Ww]; exact hj'
    have b1 := red_take_lt hl0 hr j
    have b2 := hl _ (getD_mem hj')
    simp (maxSteps := 2000000) only [↓Za, ↓Zk, ↓Zi, ↓Yc, ↓Zb, ↓Zc, ↓vdn, vup, List.map_cons, List.map_nil, cond_true, cond_false, aop, Zf, Zl, ev, sput, Ze, Zy, Ya, Zj, Nat.reduceBEq, tyf, l75_0, hjn, hv.int.idx Xg Yv hj2, hv.int.load Yq hj2, iL_get, bitsV_xor (show Rn.red (B.take j) r < 9223372036854775808 by omega) (show B.getD j 0 < 9223372036854775808 by omega), mmK, Bool.false_eq_true, if_false, gt_iff_lt, mnI', Wz (show j < 9223372036854775807 by omega)]
    refine hQ2 _ _ _ ⟨j + 1, by omega, by omega, by simp (maxSteps := 2000000) only [vup, cond_true, cond_false, Nat.reduceBEq, red_take hj'], rfl⟩
  · obtain rfl : j = B.length := by omega
    simp (maxSteps := 2000000) only [↓Za, ↓Zi, ↓Yg, ↓Zb, ↓Zc, ↓vdn, vup, cond_true, cond_false, aop, Zf, ev, sput, Ze, Zy, Ya, Nat.reduceBEq, l75_0, Int.lt_irrefl]
    refine hQ2 _ _ _ (hQ _ _ _ ?_)
    simp (maxSteps := 2000000) only [Zf, Zl, Zr, if_true]
    have b1 := red_take_lt hl0 hr B.length
    rw [List.take_length] at b1 ⊢
    refine hZ [(0, v), (1, Zd (Rn.red B r : Nat)), (4, .slice none 0 0)] _ _ ?_ (by simp (maxSteps := 2000000) only [vup, cond_true, cond_false, Nat.reduceBEq])
    clear hZ
    try clear Z
    have hz : ∀ z : Nat, (((z : Nat) : Int) == 0) = (z == 0) := fun z => beqN (b := 0)
    by_cases h0 : Rn.red B r = 0
    · have hb0 : (Rn.red B r == 0) = true := beq_iff_eq.2 h0
      refine Zg fun N2 hN2 => ?_
      simp (maxSteps := 2000000) only [↓Za, ↓Zi, ↓Zw, ↓Zb, ↓Zc, ↓vdn, vup, cond_true, cond_false, aop, Zf, ev, sput, Ze, Zy, Ya, Nat.reduceBEq, Zr, Xj, tup, hz, hb0]
      refine ⟨Ext.refl _ _, by simp, B, hv, hB, hl, fun y => ?_⟩
      refine Rn.S_eq (fun x hx => Rn.S_mem (by simp [hx])) (fun x hx => ?_) y
      rcases List.mem_append.1 hx with hx | hx
      · exact Rn.S_mem hx
      · obtain rfl := List.mem_singleton.1 hx
        exact Rn.red_zero hB h0
    · have hb0 : (Rn.red B r == 0) = false := beq_eq_false_iff_ne.2 h0
      refine Zg fun N3 hN3 => ?_
      simp (maxSteps := 2000000) only [↓Za, ↓Zk, ↓Zi, ↓Zb, ↓Zc, ↓vdn, vup, cond_true, cond_false, aop, Zf, ev, sput, Ze, Zy, Ya, Nat.reduceBEq, hz, hb0]
      refine hN3 [(0, v), (1, Zd (Rn.red B r : Nat)), (4, .slice none 0 0)] _ _ ?_ (by simp (maxSteps := 2000000) only [vup, cond_true, cond_false, Nat.reduceBEq])
      clear hN3
      try clear N3
      refine Zg fun N4 hN4 => ?_
      simp (maxSteps := 2000000) only [↓Za, ↓Zb, ↓Zc, vup, List.map_cons, List.map_nil, cond_true, cond_false, aop, Zf, ev, sput, Ze, Zj, Nat.reduceBEq, Ym, List.nil_append, List.append_nil]
      refine (clone_span hv (by omega)).mono ?_
      rintro u h1 hs1
      simp (maxSteps := 2000000) only [litI1]
      refine hs1.push (by rw [Ww]; omega) fun v' h2 s2 => ?_
      have em : iL B ++ [((Rn.red B r : Nat) : Int)] = iL (B ++ [Rn.red B r]) := by simp [iL]
      rw [em] at s2
      try simp (maxSteps := 2000000) only [s75, ↓Za, ↓Zk, ↓Zi, ↓Yc, ↓Yg, ↓Zw, ↓Zb, ↓Zc, ↓dops_nil, ↓Yj, ↓dopsR_nil, ↓vdn, vup, extr_20, extr_21, extr_30, extr_31, extr_32, List.map_cons, List.map_nil, cond_true, cond_false, aop, Zf, Zl, Zo, ev, sput, Ze, Zy, Ya, unK, Zj, pickK, Nat.reduceBEq, Nat.reduceAdd, Int.reduceBEq, Int.reduceBNe, Int.reduceLT, Zr, Xj, tup, tyf]
      refine hN4 [(0, v), (1, Zd (Rn.red B r : Nat)), (4, .slice none 0 0), (7, v')] _ _ ?_ (by simp (maxSteps := 2000000) only [vup, cond_true, cond_false, Nat.reduceBEq])
      clear hN4
      try clear N4
      obtain ⟨ho, hE, hbk⟩ := s2
      rcases ho with ⟨_, hnil⟩ | ⟨b, ys, rfl, hb⟩
      · simp [iL] at hnil
      have hbl := hbk b rfl
      have hlen : (B ++ [Rn.red B r]).length ≤ 12 := by rw [List.length_append, List.length_singleton]; omega
      have hsm : ∀ x ∈ B ++ [Rn.red B r], x < 4611686018427387904 := fun x hx => by
        rcases List.mem_append.1 hx with hx | hx
        · have := hl x hx; omega
        · rw [List.mem_singleton.1 hx]; omega
      rw [Ww]
      refine Zg fun N5 hN5 => ?_
      simp (maxSteps := 2000000) only [↓Za, ↓Zb, ↓Zc, vup, List.map_cons, List.map_nil, cond_true, cond_false, aop, Zf, ev, sput, Ze, Nat.reduceBEq, Ym, List.nil_append, List.append_nil]
      refine (sort_call hb hlen hsm).mono ?_
      rintro _ h3 ⟨C, hperm, hsort, rfl⟩
      refine hN5 [(0, v), (1, Zd (Rn.red B r : Nat)), (4, .slice none 0 0), (7, ov b (B ++ [Rn.red B r]).length ys.length)] _ _ ?_ (by simp (maxSteps := 2000000) only [vup, cond_true, cond_false, Nat.reduceBEq])
      clear hN5
      try clear N5
      refine Zm ?_
      simp (maxSteps := 2000000) only [↓Za, ↓Zi, ↓Zw, ↓Zb, ↓Zc, vup, cond_true, cond_false, aop, Zf, ev, sput, Ze, Nat.reduceBEq, Zr, Xj, tup]
      have hn1 : (B ++ [Rn.red B r]).Nodup := by
        rw [List.nodup_append]
        refine ⟨?_, by simp, ?_⟩
        · rw [List.Nodup]
          exact hB.1.imp fun h e => by rw [e] at h; omega
        · intro x hx y hy e
          rw [List.mem_singleton] at hy
          subst hy e
          exact Rn.red_top hB h0 _ hx rfl
      obtain ⟨m1, m2⟩ := hB.more h0 (C := C) (fun x => by rw [hperm.mem_iff]; simp) hsort (hperm.nodup_iff.2 hn1)
      refine ⟨hE.set_ge hbl _, .inr hbk, C, .inr ⟨fun e => ?_, ?_⟩, m1, fun x hx => ?_, m2⟩
      · have := hperm.length_eq
        rw [e] at this; simp at this
      · have := ov_own (h := h2) (b := b) (n := (B ++ [Rn.red B r]).length) (L := C) (ys := ys) (Yo hb) hperm.length_eq
        exact this.int
      · rw [hperm.mem_iff] at hx
        rcases List.mem_append.1 hx with hx | hx
        · exact hl x hx
        · rw [List.mem_singleton.1 hx]; exact b1
end Go.Proofs.Tryd.Am

namespace Go.Proofs.Tryd.Am
open Go.Am Sr
set_option maxRecDepth 100000
set_option maxHeartbeats 1000000

theorem okRow_iff {g : Nat → Nat} {n i r : Nat} (hr : r < 2 ^ n) : Rn.okRow g n i r ↔ (r.testBit i && (less (less r (2 ^ i)) (g i) == 0)) = true := by
  rw [Bool.and_eq_true, beq_iff_eq, Rn.okRow]
  constructor
  · rintro ⟨_, h2, h3⟩
    refine ⟨h2, ?_⟩
    apply Nat.eq_of_testBit_eq
    intro b
    rw [Zs, Zs, Nat.testBit_two_pow, Nat.zero_testBit]
    cases hb : r.testBit b with
    | false => rfl
    | true =>
      by_cases hbi : i = b
      · simp [hbi]
      · rw [h3 b (Ne.symm hbi) hb]; simp
  · rintro ⟨h1, h2⟩
    refine ⟨hr, h1, fun b hb hrb => ?_⟩
    have := congrArg (fun z : Nat => z.testBit b) h2
    simp only [Zs, Nat.testBit_two_pow, Nat.zero_testBit, hrb] at this
    cases hg : (g i).testBit b with
    | true => rfl
    | false => rw [hg] at this; simp [Ne.symm hb] at this

structure FH (h : Zh) (gv : Value) (bb bg bx bf : Nat) : Prop where
  g : h[bg]? = some (.cells [gv] 22 false)
  x : h[bx]? = some (.cells [gv] 56 false)
  f : h[bf]? = some (.cells [.func (.func 74) #[] #[pt bb, pt bg, pt bx, pt bf]] 75 false)
  ng : bg ≠ bb
  nx : bx ≠ bb
  nf : bf ≠ bb
theorem FH.ext {h h' : Zh} {gv : Value} {bb bg bx bf : Nat} (f : FH h gv bb bg bx bf) (hE : Ext (fun i => i = bb) h h') : FH h' gv bb bg bx bf :=
  { f with g := (hE.2 _ (Yo f.g) f.ng).trans f.g, x := (hE.2 _ (Yo f.x) f.nx).trans f.x, f := (hE.2 _ (Yo f.f) f.nf).trans f.f }
theorem intSl_but {h h' : Zh} {v : Value} {xs : List Int} {bb : Nat} (hv : IntSl h v xs) (hn : Yd v ≠ some bb) (hE : Ext (fun i => i = bb) h h') : IntSl h' v xs :=
  hv.same fun b hb => hE.2 b (hv.lt hb) fun e => hn (by rw [hb, e])
theorem spSl_but {h h' : Zh} {v : Value} {B : List Nat} {bb : Nat} (hv : SpSl h v B) (hn : Yd v ≠ some bb) (hE : Ext (fun i => i = bb) h h') : SpSl h' v B := hv.imp id fun h => ⟨h.1, intSl_but h.2 hn hE⟩
theorem s74_callW [Tabs Tryd.prog] {args : List Value} {h : Zh} {Q : Value → Zh → Prop} (hsz : args.length ≤ 50) (hk : AWS Tryd.prog 50 s74 (Zr Tryd.prog [] Q) (Zo 0 args) h) : ACall Tryd.prog 74 args h Q :=
  Xb Tryd.func74 rfl (enters_of Tryd.func74 (by kernel_rfl) rfl) rfl rfl (by decide) s74_strip s74_ok hsz hk
theorem fit1_call [Tabs prog] {gv : Value} {xs : List Int} {bb bg bx bf n : Nat} (g : Gs xs) (hn : xs.length = n) (h5 : n ≤ 5) (hgb : Yd gv ≠ some bb) : ∀ (k i : Nat), i + k = n → ∀ {h : Zh} {B R : List Nat} {best : Nat} {sv : Value},
    FH h gv bb bg bx bf → IntSl h gv xs → h[bb]? = some (.cells [Zd best] 3 false) → SpSl h sv B → Yd sv ≠ some bb → Rn.Bs B → (∀ b ∈ B, b < 2 ^ n) → (∀ y, Rn.S B y = Rn.S R y) → best ≤ n →
    ACall prog 74 [Zd i, sv, pt bb, pt bg, pt bx, pt bf] h fun _ h' => ∃ best' : Nat, h'[bb]? = some (.cells [Zd best'] 3 false) ∧ Ext (fun i => i = bb) h h' ∧ Rn.IsMin best (Rn.Rk (gn xs) n k i R) best' := by
  intro k
  induction k with
  | zero =>
    intro i hik h B R best sv fh hg hb hsv hsb hB hl hS hbn
    have hdim : Rn.dim n R = B.length := by rw [← Rn.dim_congr hS, Rn.dim_ind hl hB.ind]
    refine s74_callW (by simp) ?_
    simp only [s74]
    refine Zg fun N1 hN1 => ?_
    by_cases hge : best ≤ B.length
    · have hge2 : (best : Int) ≤ (B.length : Int) := by omega
      simp (maxSteps := 2000000) only [↓Za, ↓Zi, ↓Zw, ↓Zb, ↓Zc, ↓vdn, vup, List.map_cons, List.map_nil, cond_true, cond_false, aop, Zf, Zo, ev, sput, Ze, Zy, Ya, Zj, Nat.reduceBEq, Nat.reduceAdd, Zr, Xj, tyf, hsv.int.len, List.length_map, Wa hb Yq, hge2]
      exact ⟨best, hb, Ext.refl _ _, .skip fun w hw => by have := hw.ge; omega⟩
    · have hge2 : ¬ (best : Int) ≤ (B.length : Int) := by omega
      simp (maxSteps := 2000000) only [↓Za, ↓Zk, ↓Zi, ↓Zb, ↓Zc, ↓vdn, vup, List.map_cons, List.map_nil, cond_true, cond_false, aop, Zf, Zo, ev, sput, Ze, Zy, Ya, Zj, Nat.reduceBEq, Nat.reduceAdd, tyf, hsv.int.len, List.length_map, Wa hb Yq, hge2]
      refine hN1 [(0, Zd i), (1, sv), (2, pt bb), (3, pt bg), (4, pt bx), (5, pt bf)] _ _ ?_ (by simp (maxSteps := 2000000) only [vup, cond_true, cond_false, Nat.reduceBEq])
      clear hN1
      try clear N1
      have hii : ((i : Int) == (xs.length : Int)) = true := by rw [beq_iff_eq]; omega
      refine Zg fun N2 hN2 => ?_
      simp (maxSteps := 2000000) only [↓Za, ↓Zk, ↓Zi, ↓Zw, ↓Zb, ↓Zc, ↓vdn, vup, List.map_cons, List.map_nil, cond_true, cond_false, aop, Zf, ev, sput, Ze, Zy, Ya, Zj, Nat.reduceBEq, Zr, Xj, tyf, Wa fh.g Vd, hg.len, hii, hsv.int.len, List.length_map, Go.Am.storeI hb Yq]
      refine ⟨B.length, Wg (Yo hb) _, Ext.set _ rfl, ?_⟩
      exact ⟨.inr ((Rn.Rk.zero _).2 hdim.symm), by omega, fun w hw => by have := (Rn.Rk.zero _).1 hw; omega⟩
  | succ k ih =>
    intro i hik h B R best sv fh hg hb hsv hsb hB hl hS hbn
    have hdim : Rn.dim n R = B.length := by rw [← Rn.dim_congr hS, Rn.dim_ind hl hB.ind]
    have hnn : ∀ i : Nat, (0 : Int) ≤ (i : Int) := Int.natCast_nonneg
    have h32 : 2 ^ n ≤ 2 ^ 5 := Nat.pow_le_pow_right (by decide) h5
    have hp0 := Nat.two_pow_pos n
    obtain ⟨M, hM⟩ : ∃ M, 2 ^ n = M := ⟨_, rfl⟩
    rw [hM] at h32 hp0
    have hiX : i < xs.length := by omega
    obtain ⟨hge, hgl⟩ := gnE g hiX
    refine s74_callW (by simp) ?_
    simp only [s74]
    refine Zg fun N3 hN3 => ?_
    by_cases hgB : best ≤ B.length
    · have hge2 : (best : Int) ≤ (B.length : Int) := by omega
      simp (maxSteps := 2000000) only [↓Za, ↓Zi, ↓Zw, ↓Zb, ↓Zc, ↓vdn, vup, List.map_cons, List.map_nil, cond_true, cond_false, aop, Zf, Zo, ev, sput, Ze, Zy, Ya, Zj, Nat.reduceBEq, Nat.reduceAdd, Zr, Xj, tyf, hsv.int.len, List.length_map, Wa hb Yq, hge2]
      exact ⟨best, hb, Ext.refl _ _, .skip fun w hw => by have := hw.ge; omega⟩
    have hge2 : ¬ (best : Int) ≤ (B.length : Int) := by omega
    simp (maxSteps := 2000000) only [↓Za, ↓Zk, ↓Zi, ↓Zb, ↓Zc, ↓vdn, vup, List.map_cons, List.map_nil, cond_true, cond_false, aop, Zf, Zo, ev, sput, Ze, Zy, Ya, Zj, Nat.reduceBEq, Nat.reduceAdd, tyf, hsv.int.len, List.length_map, Wa hb Yq, hge2]
    refine hN3 [(0, Zd i), (1, sv), (2, pt bb), (3, pt bg), (4, pt bx), (5, pt bf)] _ _ ?_ (by simp (maxSteps := 2000000) only [vup, cond_true, cond_false, Nat.reduceBEq])
    clear hN3
    try clear N3
    have hii : ((i : Int) == (xs.length : Int)) = false := by rw [beq_eq_false_iff_ne]; omega
    refine Zg fun N4 hN4 => ?_
    simp (maxSteps := 2000000) only [↓Za, ↓Zk, ↓Zi, ↓Zw, ↓Zb, ↓Zc, ↓vdn, vup, List.map_cons, List.map_nil, cond_true, cond_false, aop, Zf, ev, sput, Ze, Zy, Ya, Zj, Nat.reduceBEq, Zr, Xj, tyf, Wa fh.g Vd, hg.len, hii]
    refine hN4 [(0, Zd i), (1, sv), (2, pt bb), (3, pt bg), (4, pt bx), (5, pt bf)] _ _ ?_ (by simp (maxSteps := 2000000) only [vup, cond_true, cond_false, Nat.reduceBEq])
    clear hN4
    try clear N4
    have hmk : (((M - 1 + 1 : Nat) : Int)) = ((M : Nat) : Int) := by omega
    refine Zg fun N5 hN5 => ?_
    simp (maxSteps := 2000000) only [↓Za, ↓Zb, ↓Zc, vup, List.map_cons, List.map_nil, cond_true, cond_false, aop, Zf, ev, sput, Ze, Zy, Ya, Nat.reduceBEq, tyf, Ym, List.nil_append, List.append_nil, Wa fh.x shp_56]
    refine (all_call hg (by omega) (show 2 ^ xs.length = M by rw [hn]; exact hM)).mono ?_
    rintro _ h ⟨rfl, rfl⟩
    simp (maxSteps := 2000000) only [vup, Wz (show M - 1 < 9223372036854775807 by omega), hmk]
    refine hN5 [(0, Zd i), (1, sv), (2, pt bb), (3, pt bg), (4, pt bx), (5, pt bf), (21, Zd M), (22, .int .i64 0)] _ _ ?_ (by simp (maxSteps := 2000000) only [vup, cond_true, cond_false, Nat.reduceBEq])
    clear hN5
    try clear N5
    refine Zt ?_
    refine Zn fun Q hQ => ?_
    refine Yw (γ := Nat × Zh × Nat) (fun s => s.1 ≤ M ∧ Ext (fun i => i = bb) h s.2.1 ∧ s.2.1[bb]? = some (.cells [Zd s.2.2] 3 false) ∧ Rn.IsMin best (fun w => ∃ r, r < s.1 ∧ Rn.okRow (gn xs) n i r ∧ Rn.Rk (gn xs) n k (i + 1) (R ++ [r]) w) s.2.2)
      (fun s => ([(0, Zd i), (1, sv), (2, pt bb), (3, pt bg), (4, pt bx), (5, pt bf), (21, Zd M), (22, Zd s.1)], s.2.1)) (fun s => M - s.1) (0, h, best) ⟨Nat.zero_le _, Ext.refl _ _, hb, (Rn.IsMin.start best).congr fun w => ⟨False.elim, fun ⟨r, hr, _⟩ => by omega⟩⟩ (by simp (maxSteps := 2000000) only [vup, cond_true, cond_false, Nat.reduceBEq, Int.natCast_zero]) rfl ?_
    rintro ⟨r, hp, bst⟩ ⟨hr, hE, hbp, hmin⟩
    simp only at hr hE hbp hmin
    refine Zn fun Q2 hQ2 => ?_
    simp only [l74_0]
    by_cases hrn : (r : Int) < M
    · have hr' : r < M := by omega
      have hrM : r < 2 ^ n := by rw [hM]; exact hr'
      have fhp := fh.ext hE
      have hgp := intSl_but hg hgb hE
      have hsvp := spSl_but hsv hsb hE
      refine Zg fun N6 hN6 => ?_
      simp (maxSteps := 2000000) only [↓Za, ↓Zb, ↓Zc, vup, cond_true, cond_false, aop, Zf, ev, sput, Ze, Zy, Ya, Nat.reduceBEq, hrn]
      refine hN6 [(0, Zd i), (1, sv), (2, pt bb), (3, pt bg), (4, pt bx), (5, pt bf), (21, Zd M), (22, Zd r), (23, .bool true)] _ _ ?_ (by simp (maxSteps := 2000000) only [vup, cond_true, cond_false, Nat.reduceBEq])
      clear hN6
      try clear N6
      refine Zg fun N7 hN7 => ?_
      simp (maxSteps := 2000000) only [↓Zk, ↓vdn, vup, cond_true, cond_false, Zf, ev, Nat.reduceBEq]
      refine hN7 [(0, Zd i), (1, sv), (2, pt bb), (3, pt bg), (4, pt bx), (5, pt bf), (21, Zd M), (22, Zd r)] _ _ ?_ (by simp (maxSteps := 2000000) only [vup, cond_true, cond_false, Nat.reduceBEq])
      clear hN7
      try clear N7
      refine Zp fun K hK => ?_
      have fin : ∀ (hq : Zh) (b2 : Nat), Ext (fun i => i = bb) h hq → hq[bb]? = some (.cells [Zd b2] 3 false) → Rn.IsMin best (fun w => ∃ r', r' < r + 1 ∧ Rn.okRow (gn xs) n i r' ∧ Rn.Rk (gn xs) n k (i + 1) (R ++ [r']) w) b2 → ∀ e, ELe e [(0, Zd i), (1, sv), (2, pt bb), (3, pt bg), (4, pt bx), (5, pt bf), (21, Zd M), (22, Zd r)] → K e hq := by
        intro hq b2 hE2 hb2 hm2 e he
        refine hK [(0, Zd i), (1, sv), (2, pt bb), (3, pt bg), (4, pt bx), (5, pt bf), (21, Zd M), (22, Zd r)] _ _ ?_ he
        refine Zm ?_
        simp (maxSteps := 2000000) only [↓Za, ↓Zb, ↓Zc, vup, cond_true, cond_false, aop, ev, sput, Ze, Zy, Ya, Nat.reduceBEq, Wz (show r < 9223372036854775807 by omega)]
        exact hQ2 _ _ _ ⟨(r + 1, hq, b2), ⟨by simp only; omega, hE2, hb2, hm2⟩, by simp only; omega, by simp (maxSteps := 2000000) only [vup, cond_true, cond_false, Nat.reduceBEq], rfl⟩
      clear hK
      refine Zt ?_
      refine Zg fun N8 hN8 => ?_
      simp (maxSteps := 2000000) only [↓Za, ↓Zb, ↓Zc, vup, cond_true, cond_false, aop, Zf, ev, sput, Ze, Nat.reduceBEq]
      refine hN8 [(0, Zd i), (1, sv), (2, pt bb), (3, pt bg), (4, pt bx), (5, pt bf), (8, Zd r), (21, Zd M), (22, Zd r)] _ _ ?_ (by simp (maxSteps := 2000000) only [vup, cond_true, cond_false, Nat.reduceBEq])
      clear hN8
      try clear N8
      refine Zg fun N9 hN9 => ?_
      have go : ∀ e, ELe e [(0, Zd i), (1, sv), (2, pt bb), (3, pt bg), (4, pt bx), (5, pt bf), (8, Zd r), (21, Zd M), (22, Zd r), (41, .bool (r.testBit i && (less (less r (2 ^ i)) (gn xs i) == 0)))] → N9 e hp := by
        intro e he
        refine hN9 [(0, Zd i), (1, sv), (2, pt bb), (3, pt bg), (4, pt bx), (5, pt bf), (8, Zd r), (21, Zd M), (22, Zd r), (41, .bool (r.testBit i && (less (less r (2 ^ i)) (gn xs i) == 0)))] _ _ ?_ he
        refine Zm ?_
        cases hok : (r.testBit i && (less (less r (2 ^ i)) (gn xs i) == 0)) with
        | false =>
          have hno : ¬ Rn.okRow (gn xs) n i r := fun h => by rw [okRow_iff hrM, hok] at h; cases h
          simp (maxSteps := 2000000) only [↓Zk, ↓vdn, vup, cond_true, cond_false, Zf, Zl, ev, Nat.reduceBEq]
          refine fin hp bst hE hbp (hmin.congr fun w => ?_) _ (by simp (maxSteps := 2000000) only [vup, cond_true, cond_false, Nat.reduceBEq])
          constructor
          · rintro ⟨r', h1, h2⟩; exact ⟨r', by omega, h2⟩
          · rintro ⟨r', h1, h2⟩
            refine ⟨r', ?_, h2⟩
            by_cases e : r' = r
            · subst e; exact absurd h2.1 hno
            · omega
        | true =>
          have hyes : Rn.okRow (gn xs) n i r := (okRow_iff hrM).2 hok
          simp (maxSteps := 2000000) only [↓vdn, vup, cond_true, cond_false, ev, Nat.reduceBEq]
          refine aw_drawR (fun hq => hq[bf]? = some (.cells [.func (.func 74) #[] #[pt bb, pt bg, pt bx, pt bf]] 75 false)) [(0, 5), (5, 4), (6, 4)] (by kernel_rfl) (by kernel_rfl) (by kernel_rfl) (by kernel_rfl) fhp.f ?_
          simp (maxSteps := 2000000) only [↓dopsR_nil, ↓vdn, vup, List.map_cons, List.map_nil, cond_true, cond_false, aop, Zf, Zl, ev, sput, Ze, Zy, Ya, Nat.reduceBEq, Nat.reduceAdd, Nat.reduceLT, Bool.false_or, Bool.true_or]
          refine ⟨.func (.func 74) #[] #[pt bb, pt bg, pt bx, pt bf], fun hq hhq => by simp only [Wa hhq shp_75], ?_⟩
          simp (maxSteps := 2000000) only [Wz (show i < 9223372036854775807 by omega), Ym, List.nil_append, List.append_nil, List.cons_append]
          refine (spanned_call hsvp h5 hB hl hrM).mono ?_
          rintro u h1 ⟨hE1, huv, C, hC, hCb, hCl, hCS⟩
          have hE1b : Ext (fun i => i = bb) hp h1 := hE1.mono fun i h => h.elim
          have fh1 := fhp.ext hE1b
          have hg1 := Xm hgp hE1
          have hb1 : h1[bb]? = some (.cells [Zd bst] 3 false) := (hE1.2 _ (Yo hbp) id).trans hbp
          have hub : Yd u ≠ some bb := by
            intro hu
            rcases huv with rfl | huv
            · exact hsb hu
            · have := huv _ hu
              have := Yo hbp
              omega
          refine ⟨fh1.f, ?_⟩
          try simp (maxSteps := 2000000) only [s74, ↓Za, ↓Zk, ↓Zi, ↓Yc, ↓Yg, ↓Zw, ↓Zb, ↓Zc, ↓dops_nil, ↓Yj, ↓dopsR_nil, ↓vdn, vup, extr_20, extr_21, extr_30, extr_31, extr_32, List.map_cons, List.map_nil, cond_true, cond_false, aop, Zf, Zl, Zo, ev, sput, Ze, Zy, Ya, unK, Zj, pickK, Nat.reduceBEq, Nat.reduceAdd, Int.reduceBEq, Int.reduceBNe, Int.reduceLT, Zr, Xj, tup, tyf, Nat.reduceLT, Bool.false_or, Bool.true_or, Ym, List.nil_append, List.append_nil, List.toList_toArray, List.cons_append]
          have hSC : ∀ y, Rn.S C y = Rn.S (R ++ [r]) y := fun y => (hCS y).trans (Rn.S_app hS r y)
          refine (ih (i + 1) (by omega) fh1 hg1 hb1 hC hub hCb hCl hSC (by have := hmin.2.1; omega)).mono ?_
          rintro _ h2 ⟨b2, hb2, hE2, hm2⟩
          refine ⟨(fh1.ext hE2).f, ?_⟩
          try simp (maxSteps := 2000000) only [s74, ↓Za, ↓Zk, ↓Zi, ↓Yc, ↓Yg, ↓Zw, ↓Zb, ↓Zc, ↓dops_nil, ↓Yj, ↓dopsR_nil, ↓vdn, vup, extr_20, extr_21, extr_30, extr_31, extr_32, List.map_cons, List.map_nil, cond_true, cond_false, aop, Zf, Zl, Zo, ev, sput, Ze, Zy, Ya, unK, Zj, pickK, Nat.reduceBEq, Nat.reduceAdd, Int.reduceBEq, Int.reduceBNe, Int.reduceLT, Zr, Xj, tup, tyf, Nat.reduceLT, Bool.false_or, Bool.true_or]
          refine fin h2 b2 ((hE.trans hE1b).trans hE2) hb2 ((hmin.next hm2).congr fun w => ?_) _ (by simp (maxSteps := 2000000) only [vup, cond_true, cond_false, Nat.reduceBEq])
          constructor
          · rintro (⟨r', h1, h2⟩ | h)
            · exact ⟨r', by omega, h2⟩
            · exact ⟨r, by omega, hyes, h⟩
          · rintro ⟨r', h1, h2⟩
            by_cases e : r' = r
            · subst e; exact .inr h2.2
            · exact .inl ⟨r', by omega, h2⟩
      refine Xh [] (by kernel_rfl) (by kernel_rfl) (by kernel_rfl) (by kernel_rfl) ?_
      have hz : ∀ z : Nat, (((z : Nat) : Int) == 0) = (z == 0) := fun z => beqN (b := 0)
      have i62 : i ≤ 62 := by omega
      have l1 : less r (2 ^ i) < 9223372036854775808 := by have := Sr.less_le r (2 ^ i); omega
      have p2 : 2 ^ i < 9223372036854775808 := by
        have : 2 ^ i ≤ 2 ^ 5 := Nat.pow_le_pow_right (by decide) (by omega)
        omega
      cases hbi : r.testBit i with
      | false =>
        simp (maxSteps := 2000000) only [↓Yj, ↓vdn, vup, cond_true, cond_false, aop, Zf, ev, sput, Ze, Zy, Ya, pickK, Nat.reduceBEq, Int.reduceBEq, hnn, testV (show r < 9223372036854775808 by omega), hbi, Bool.false_eq_true, if_false]
        exact go _ (by simp (maxSteps := 2000000) only [vup, cond_true, cond_false, Nat.reduceBEq, hbi, Bool.false_and])
      | true =>
        simp (maxSteps := 2000000) only [↓Yj, ↓vdn, vup, cond_true, cond_false, aop, Zf, ev, sput, Ze, Zy, Ya, pickK, Nat.reduceBEq, Nat.reduceAdd, Int.reduceBEq, tyf, hnn, testV (show r < 9223372036854775808 by omega), hbi, if_true, shlI1 i62, Wh (show r < 9223372036854775808 by omega) p2, Wa fhp.g Vd, hgp.idx Xg Yv hiX, hgp.load Yq hiX, hge, Wh l1 (show gn xs i < 9223372036854775808 by omega), hz]
        exact go _ (by simp (maxSteps := 2000000) only [vup, cond_true, cond_false, Nat.reduceBEq, hbi, Bool.true_and])
    · obtain rfl : r = M := by omega
      refine Zg fun K hK => ?_
      simp (maxSteps := 2000000) only [↓Za, ↓Zb, ↓Zc, vup, cond_true, cond_false, aop, Zf, ev, sput, Ze, Zy, Ya, Nat.reduceBEq, Int.lt_irrefl]
      refine hK [(23, .bool false)] _ _ ?_ (by simp (maxSteps := 2000000) only [vup, cond_true, cond_false, Nat.reduceBEq])
      clear hK
      try clear K
      refine Zm ?_
      simp (maxSteps := 2000000) only [↓Zi, ↓Yg, ↓vdn, vup, cond_true, Zf, ev, Nat.reduceBEq]
      refine hQ2 _ _ _ (hQ _ _ _ ?_)
      simp (maxSteps := 2000000) only [Zl, Zr, Xj, if_true]
      refine ⟨bst, hbp, hE, hmin.congr fun w => ?_⟩
      rw [Rn.Rk.succ]
      constructor
      · rintro ⟨r', _, h2⟩; exact ⟨r', h2⟩
      · rintro ⟨r', h2⟩; exact ⟨r', by have := h2.1.1; rw [hM] at this; exact this, h2⟩
end Go.Proofs.Tryd.Am

namespace Go.Proofs.Tryd.Am
open Go.Am Sr
set_option maxRecDepth 100000
set_option maxHeartbeats 1000000

def c5 (L : Nat → Nat) : List Value := (List.range 5).map fun i => Zd (L i : Nat)
def upd (L : Nat → Nat) (i x : Nat) : Nat → Nat := fun t => if t = i then x else L t
section
variable {h : Zh} {b i : Nat} {L : Nat → Nat}
end
end Go.Proofs.Tryd.Am

namespace Go.Proofs.Tryd.Am
open Go.Am Sr
set_option maxRecDepth 100000
set_option maxHeartbeats 1000000

theorem box22 {h : Zh} {v : Value} {xs : List Int} (hv : IntSl h v xs) {K : Value → Zh → Prop} : boxK prog h 22 v K = K (Xo h) (h ++ [.cells [v] 22 false]) := by
  rcases hv with ⟨rfl, _⟩ | ⟨b, o, sp, cap, c, e, ro, rfl, _⟩ <;> simp [boxK, esz_22, cellsOf]
theorem slOne {h : Zh} {v : Value} {xs : List Int} (hv : IntSl h v xs) : one v = true := by
  rcases hv with ⟨rfl, _⟩ | ⟨b, o, sp, cap, c, e, ro, rfl, _⟩ <;> rfl
theorem extPast {h h1 h2 : Zh} {b : Nat} (h12 : Ext (fun _ => False) h h1) (h3 : Ext (fun i => i = b) h1 h2) (hb : h.length ≤ b) : Ext (fun _ => False) h h2 :=
  ⟨Nat.le_trans h12.1 h3.1, fun i hi _ => (h3.2 i (Nat.lt_of_lt_of_le hi h12.1) (by omega)).trans (h12.2 i hi id)⟩

def FitM (xs : List Int) (m : Nat) : Prop := Rn.IsMin xs.length (Rn.Rk (gn xs) xs.length xs.length 0 []) m
theorem s49_callW [Tabs Tryd.prog] {args : List Value} {h : Zh} {Q : Value → Zh → Prop} (hsz : args.length ≤ 22) (hk : AWS Tryd.prog 22 s49 (Zr Tryd.prog [.tmp 2, .tmp 3] Q) (Zo 0 args) h) : ACall Tryd.prog 49 args h Q :=
  Xb Tryd.func49 rfl (enters_of Tryd.func49 (by kernel_rfl) rfl) rfl rfl (by decide) s49_strip s49_ok hsz hk
theorem fit_call [Tabs prog] {h : Zh} {v : Value} {xs : List Int} (hv : IntSl h v xs) (hl : xs.length < 9223372036854775808) (hx : ∀ x ∈ xs, -9223372036854775808 ≤ x ∧ x < 9223372036854775808) :
    ACall prog 49 [v] h fun r h' => Ext (fun _ => False) h h' ∧ if grs xs = true ∧ xs.length ≤ 5 then ∃ m : Nat, r = .tuple #[Zd m, .int .i64 0] ∧ FitM xs m else r = .tuple #[.int .i64 0, .int .i64 2] := by
  refine s49_callW (by simp) ?_
  simp only [s49]
  refine Zg fun N1 hN1 => ?_
  simp (maxSteps := 2000000) only [↓Za, ↓Zb, ↓Zc, vup, cond_true, cond_false, aop, Zf, Zo, ev, sput, Ze, Nat.reduceBEq, box22 hv, Xo]
  refine hN1 [(1, pt h.length), (2, .int .i64 0), (3, .int .i64 0)] _ _ ?_ (by simp (maxSteps := 2000000) only [vup, cond_true, cond_false, Nat.reduceBEq])
  clear hN1
  try clear N1
  have hE0 : Ext (fun _ => False) h (h ++ [Blk.cells [v] 22 false]) := Ext.app _ _ _
  have b1 := Yz h (Blk.cells [v] 22 false)
  generalize hH0 : h ++ [Blk.cells [v] 22 false] = H0 at hE0 b1 ⊢
  have l0 : H0.length = h.length + 1 := by rw [← hH0]; simp
  clear hH0
  refine Zg fun N2 hN2 => ?_
  simp (maxSteps := 2000000) only [↓Za, ↓Zb, ↓Zc, vup, cond_true, cond_false, aop, Zf, ev, sput, Ze, Nat.reduceBEq, tyf, Wa b1 Vd, Wl, Xo, store1 (Yz _ _) shp_56 (slOne hv), set_last]
  refine hN2 [(1, pt h.length), (2, .int .i64 0), (3, .int .i64 0), (4, pt H0.length)] _ _ ?_ (by simp (maxSteps := 2000000) only [vup, cond_true, cond_false, Nat.reduceBEq])
  clear hN2
  try clear N2
  have hE1 := hE0.trans (Ext.app (fun _ => False) H0 [Blk.cells [v] 56 false])
  have c1 := Vc b1 [Blk.cells [v] 56 false]
  have c4 := Yz H0 (Blk.cells [v] 56 false)
  generalize hH1 : H0 ++ [Blk.cells [v] 56 false] = H1 at hE1 c1 c4 ⊢
  have l1 : H1.length = h.length + 2 := by rw [← hH1]; simp [l0]
  clear hH1
  rw [l0] at c4 ⊢
  have hv1 := Xm hv hE1
  have hvlt : ∀ b, Yd v = some b → b < h.length := fun b hb => hv.lt hb
  refine Zg fun N3 hN3 => ?_
  simp (maxSteps := 2000000) only [↓Za, ↓Zi, ↓Zc, vup, List.map_cons, List.map_nil, cond_true, cond_false, aop, ev, sput, Ze, unK, Nat.reduceBEq, Ym, List.nil_append, List.append_nil, Wa c4 shp_56]
  refine (valid_call hv1 hl hx).mono ?_
  rintro _ H1 ⟨rfl, rfl⟩
  cases hg : grs xs with
  | false =>
    simp (maxSteps := 2000000) only [↓Za, ↓Zi, ↓Zw, ↓Zb, ↓Zc, ↓vdn, vup, cond_true, cond_false, aop, Zf, ev, sput, Ze, Nat.reduceBEq, Zr, Xj, tup]
    exact ⟨hE1, by simp⟩
  | true =>
  by_cases h5 : xs.length ≤ 5
  · have hng : ¬ (5 : Int) < (xs.length : Int) := by omega
    have g := grs_iff.1 hg
    simp (maxSteps := 2000000) only [↓Zk, ↓Zb, ↓Zc, ↓vdn, vup, List.map_cons, List.map_nil, cond_true, cond_false, aop, Zf, ev, sput, Ze, Zy, Ya, Zj, Nat.reduceBEq, tyf, Wa c1 Vd, hv1.len, hng]
    refine hN3 [(1, pt h.length), (2, .int .i64 0), (3, .int .i64 0), (4, pt (h.length + 1))] _ _ ?_ (by simp (maxSteps := 2000000) only [vup, cond_true, cond_false, Nat.reduceBEq])
    clear hN3
    try clear N3
    refine Zg fun N4 hN4 => ?_
    simp (maxSteps := 2000000) only [↓Za, ↓Zb, ↓Zc, vup, List.map_cons, List.map_nil, cond_true, cond_false, aop, Zf, ev, sput, Ze, Zj, Nat.reduceBEq, tyf, Wa c1 Vd, hv1.len, Wl, Xo, Go.Am.storeI (Yz _ _) Yq, set_last]
    refine hN4 [(1, pt h.length), (2, .int .i64 0), (3, .int .i64 0), (4, pt (h.length + 1)), (5, pt H1.length)] _ _ ?_ (by simp (maxSteps := 2000000) only [vup, cond_true, cond_false, Nat.reduceBEq])
    clear hN4
    try clear N4
    have hE2 := hE1.trans (Ext.app (fun _ => False) H1 [Blk.cells [Zd xs.length] 3 false])
    have d1 := Vc c1 [Blk.cells [Zd xs.length] 3 false]
    have d4 := Vc c4 [Blk.cells [Zd xs.length] 3 false]
    have d5 := Yz H1 (Blk.cells [Zd xs.length] 3 false)
    generalize hH2 : H1 ++ [Blk.cells [Zd xs.length] 3 false] = H2 at hE2 d1 d4 d5 ⊢
    have l2 : H2.length = h.length + 3 := by rw [← hH2]; simp [l1]
    clear hH2
    rw [l1] at d5 ⊢
    refine Zg fun N5 hN5 => ?_
    simp (maxSteps := 2000000) only [↓Za, ↓Zb, ↓Zc, vup, cond_false, aop, Zf, sput, Ze, Nat.reduceBEq, tyf, Wl, Xo]
    refine hN5 [(1, pt h.length), (2, .int .i64 0), (3, .int .i64 0), (4, pt (h.length + 1)), (5, pt (h.length + 2)), (6, pt H2.length)] _ _ ?_ (by simp (maxSteps := 2000000) only [vup, cond_true, cond_false, Nat.reduceBEq])
    clear hN5
    try clear N5
    have fcell := Yz H2 (Blk.cells [.nilFunc] 75 false)
    refine Zg fun N6 hN6 => ?_
    simp (maxSteps := 2000000) only [↓Za, ↓Zb, ↓Zc, vup, List.map_cons, List.map_nil, cond_true, cond_false, aop, Zf, ev, sput, Ze, Nat.reduceBEq, List.map_toArray, Go.Am.storeF fcell shp_75, set_last]
    refine hN6 [(1, pt h.length), (2, .int .i64 0), (3, .int .i64 0), (4, pt (h.length + 1)), (5, pt (h.length + 2)), (6, pt H2.length)] _ _ ?_ (by simp (maxSteps := 2000000) only [vup, cond_true, cond_false, Nat.reduceBEq])
    clear hN6
    try clear N6
    refine Zg fun N hN => ?_
    have hE3 := hE2.trans (Ext.app (fun _ => False) H2 [Blk.cells [.func (.func 74) #[] #[pt (h.length + 2), pt h.length, pt (h.length + 1), pt H2.length]] 75 false])
    have e1 := Vc d1 [Blk.cells [.func (.func 74) #[] #[pt (h.length + 2), pt h.length, pt (h.length + 1), pt H2.length]] 75 false]
    have e4 := Vc d4 [Blk.cells [.func (.func 74) #[] #[pt (h.length + 2), pt h.length, pt (h.length + 1), pt H2.length]] 75 false]
    have e5 := Vc d5 [Blk.cells [.func (.func 74) #[] #[pt (h.length + 2), pt h.length, pt (h.length + 1), pt H2.length]] 75 false]
    have e6 := Yz H2 (Blk.cells [.func (.func 74) #[] #[pt (h.length + 2), pt h.length, pt (h.length + 1), pt H2.length]] 75 false)
    generalize H2 ++ [Blk.cells [.func (.func 74) #[] #[pt (h.length + 2), pt h.length, pt (h.length + 1), pt H2.length]] 75 false] = H3 at hE3 e1 e4 e5 e6 ⊢
    have fh : FH H3 v (h.length + 2) h.length (h.length + 1) H2.length := ⟨e1, e4, e6, by omega, by omega, by omega⟩
    have hgb : Yd v ≠ some (h.length + 2) := fun e => by have := hvlt _ e; omega
    have hB : Rn.Bs [] := ⟨List.Pairwise.nil, fun x hx => by cases hx⟩
    simp (maxSteps := 2000000) only [↓Za, ↓Zb, ↓Zc, vup, List.map_cons, List.map_nil, cond_true, cond_false, aop, Zf, ev, sput, Ze, Nat.reduceBEq, Ym, List.nil_append, List.cons_append, Wa e6 shp_75]
    refine (fit1_call g rfl h5 hgb xs.length 0 (by omega) (R := []) (B := []) fh (Xm hv hE3) e5 (.inl ⟨rfl, rfl⟩) (fun e => by cases e) hB (fun b hb => by cases hb) (fun _ => rfl) (Nat.le_refl _)).mono ?_
    rintro _ h4 ⟨m, hm, hE4, hmin⟩
    refine hN [(5, pt (h.length + 2))] _ _ ?_ (by simp (maxSteps := 2000000) only [vup, cond_true, cond_false, Nat.reduceBEq])
    clear hN
    refine Zm ?_
    simp (maxSteps := 2000000) only [↓Za, ↓Zi, ↓Zw, ↓Zb, ↓Zc, vup, cond_true, cond_false, aop, Zf, ev, sput, Ze, Nat.reduceBEq, Zr, Xj, tup, Wa hm Yq]
    refine ⟨extPast hE3 hE4 (by omega), ?_⟩
    rw [if_pos ⟨hg, h5⟩]
    exact ⟨m, rfl, hmin⟩
  · have hgt : (5 : Int) < (xs.length : Int) := by omega
    simp (maxSteps := 2000000) only [↓Za, ↓Zi, ↓Zw, ↓Zb, ↓Zc, ↓vdn, vup, List.map_cons, List.map_nil, cond_true, cond_false, aop, Zf, ev, sput, Ze, Zy, Ya, Zj, Nat.reduceBEq, Zr, Xj, tup, tyf, Wa c1 Vd, hv1.len, hgt]
    exact ⟨hE1, by simp [h5]⟩

end Go.Proofs.Tryd.Am

namespace Go.Proofs.Tryd.Am
open Go.Am Sr

def qpow (q : Rat) : Nat → Rat
  | 0 => 1
  | k + 1 => q * qpow q k
theorem qpow_pos {q : Rat} (h : 0 < q) : ∀ k, 0 < qpow q k
  | 0 => by rw [qpow]; decide
  | k + 1 => by rw [qpow]; exact Rat.mul_pos h (qpow_pos h k)
def Lt (xs : List Int) : Nat → (Nat → Rat) → Prop
  | 0, z => z 0 ≤ 1
  | k + 1, z => ∀ A ∈ clq xs, Lt xs k fun w => Bq.sumTo (fun a => Bq.bitQ A a * z (w * xs.length + a)) xs.length
theorem lt_sum {xs : List Int} (g : Gs xs) {q : Rat} (hq : WQ xs q) : ∀ (k : Nat) (z : Nat → Rat), (∀ w, w < xs.length ^ k → 0 ≤ z w) → Lt xs k z → Bq.sumTo z (xs.length ^ k) ≤ qpow q k
  | 0, z, _, h => by
    rw [Nat.pow_zero, Bq.sumTo, Bq.sumTo, Rat.zero_add]; exact h
  | k + 1, z, h0, h => by
    have q1 := hq.ge g
    have hqp : 0 < q := by grind
    have hp := qpow_pos hqp k
    have hp0 : qpow q k ≠ 0 := fun hc => by rw [hc] at hp; exact absurd hp (by decide)
    have hi := Rat.le_of_lt (Rat.inv_pos.2 hp)
    have h0' : ∀ w a, w < xs.length ^ k → a < xs.length → 0 ≤ z (w * xs.length + a) := fun w a hw ha => h0 _ (by rw [Nat.pow_succ]; exact pair_lt hw ha)
    obtain ⟨Z, hZ⟩ : ∃ Z : Nat → Rat, Z = fun a => Bq.sumTo (fun w => z (w * xs.length + a)) (xs.length ^ k) := ⟨_, rfl⟩
    have hZ0 : ∀ a, a < xs.length → 0 ≤ Z a := fun a ha => by rw [hZ]; exact qsum_nn fun w hw => h0' w a hw ha
    have key : ∀ A ∈ clq xs, Bq.dot (Bq.bitQ A) Z xs.length ≤ qpow q k := fun A hA => by
      have h1 := lt_sum g hq k _ (fun w hw => qsum_nn fun a ha => Rat.mul_nonneg (Bq.bitQ_nn _ _) (h0' w a hw ha)) (h A hA)
      rw [Bq.sumTo_swap] at h1
      have e : Bq.dot (Bq.bitQ A) Z xs.length = Bq.sumTo (fun j => Bq.sumTo (fun i => Bq.bitQ A j * z (i * xs.length + j)) (xs.length ^ k)) xs.length := by
        rw [Bq.dot, hZ]
        exact Bq.sumTo_congr fun a _ => by rw [← Bq.sumTo_mul]
      rw [e]; exact h1
    have h3 := hq.1.le (fun a => (qpow q k)⁻¹ * Z a) ⟨fun a ha => Rat.mul_nonneg hi (hZ0 a ha), fun A hA => by
      have h4 := key A hA
      have e : Bq.dot (Bq.bitQ A) (fun a => (qpow q k)⁻¹ * Z a) xs.length = (qpow q k)⁻¹ * Bq.dot (Bq.bitQ A) Z xs.length := by
        rw [Bq.dot, Bq.dot, ← Bq.sumTo_mul]
        exact Bq.sumTo_congr fun a _ => by grind
      rw [e]
      have h5 := Rat.mul_le_mul_of_nonneg_left h4 hi
      rwa [Rat.inv_mul_cancel _ hp0] at h5⟩
    rw [Bq.sumTo_mul] at h3
    have h6 := Rat.mul_le_mul_of_nonneg_left h3 (Rat.le_of_lt hp)
    rw [← Rat.mul_assoc, Rat.mul_inv_cancel _ hp0, Rat.one_mul] at h6
    rw [qpow, Nat.pow_succ, qsum_prod, Bq.sumTo_swap, Rat.mul_comm q, ← hZ]
    exact h6
theorem one_place {n : Nat} {p : Nat → Bool} (h : ∀ a b, a < n → b < n → p a = true → p b = true → a = b) : Bq.sumTo (fun a => if p a = true then (1 : Rat) else 0) n = if (List.range n).any p = true then 1 else 0 := by
  by_cases hc : (List.range n).any p = true
  · rw [if_pos hc]
    obtain ⟨a, ha, hp⟩ := List.any_eq_true.1 hc
    rw [List.mem_range] at ha
    refine (Bq.sumTo_congr fun b hb => ?_).trans (Bq.sumTo_pick (fun _ => (1 : Rat)) ha)
    by_cases e : b = a
    · rw [e, if_pos hp, if_pos rfl]
    · rw [if_neg e, if_neg fun hb2 => e (h b a hb ha hb2 hp)]
  · rw [if_neg hc]
    refine Bq.sumTo_zero fun a ha => if_neg fun hp => hc (List.any_eq_true.2 ⟨a, List.mem_range.2 ha, hp⟩)
theorem code_lt {xs : List Int} (g : Gs xs) : ∀ (k : Nat) (p : Nat → Bool), (∀ w v, w < xs.length ^ k → v < xs.length ^ k → w ≠ v → p w = true → p v = true → cf xs k w v = false) → Lt xs k fun w => if p w = true then 1 else 0
  | 0, p, _ => by
    show (if p 0 = true then (1 : Rat) else 0) ≤ 1
    split <;> decide
  | k + 1, p, h => by
    intro A hA
    obtain ⟨hA1, hA2, hA3⟩ := (mem_clq g).1 hA
    have hn0 : 0 < xs.length := g.1
    have same : ∀ a b, a < xs.length → b < xs.length → A.testBit a = true → A.testBit b = true → nq xs a b = true := fun a b ha hb h1 h2 => by
      rw [nq, Bool.or_eq_true, beq_iff_eq]
      by_cases e : a = b
      · exact .inl e
      · exact .inr (hA3 a ha h1 b (Ne.symm e) h2)
    have cfs : ∀ w v a b, a < xs.length → b < xs.length → cf xs (k + 1) (w * xs.length + a) (v * xs.length + b) = (nq xs a b && cf xs k w v) := fun w v a b ha hb => by
      rw [cf, pair_mod ha, pair_mod hb, pair_div ha, pair_div hb]; rfl
    have e : (fun w => Bq.sumTo (fun a => Bq.bitQ A a * (fun w => if p w = true then (1 : Rat) else 0) (w * xs.length + a)) xs.length) = fun w => Bq.sumTo (fun a => if (A.testBit a && p (w * xs.length + a)) = true then (1 : Rat) else 0) xs.length := by
      funext w
      refine Bq.sumTo_congr fun a _ => ?_
      show Bq.bitQ A a * (if p (w * xs.length + a) = true then (1 : Rat) else 0) = _
      rw [Bq.bitQ]
      cases A.testBit a <;> cases p (w * xs.length + a) <;> simp
    rw [e]
    have hone : ∀ w, w < xs.length ^ k → Bq.sumTo (fun a => if (A.testBit a && p (w * xs.length + a)) = true then (1 : Rat) else 0) xs.length = if (List.range xs.length).any (fun a => A.testBit a && p (w * xs.length + a)) = true then 1 else 0 := fun w hw => by
      refine one_place fun a b ha hb h1 h2 => Classical.byContradiction fun hne => ?_
      rw [Bool.and_eq_true] at h1 h2
      have := h (w * xs.length + a) (w * xs.length + b) (by rw [Nat.pow_succ]; exact pair_lt hw ha) (by rw [Nat.pow_succ]; exact pair_lt hw hb) (by omega) h1.2 h2.2
      rw [cfs w w a b ha hb, same a b ha hb h1.1 h2.1, cf_self] at this; cases this
    have ih := code_lt g k (fun w => (List.range xs.length).any fun a => A.testBit a && p (w * xs.length + a)) fun w v hw hv hne h1 h2 => by
      obtain ⟨a, ha, h1⟩ := List.any_eq_true.1 h1
      obtain ⟨b, hb, h2⟩ := List.any_eq_true.1 h2
      rw [List.mem_range] at ha hb
      rw [Bool.and_eq_true] at h1 h2
      have hne2 : w * xs.length + a ≠ v * xs.length + b := fun hc => hne (by
        have := congrArg (· / xs.length) hc
        simpa only [pair_div ha, pair_div hb] using this)
      have := h _ _ (by rw [Nat.pow_succ]; exact pair_lt hw ha) (by rw [Nat.pow_succ]; exact pair_lt hv hb) hne2 h1.2 h2.2
      rw [cfs w v a b ha hb, same a b ha hb h1.1 h2.1, Bool.true_and] at this
      exact this
    have congr : ∀ (k : Nat) {y z : Nat → Rat}, (∀ w, w < xs.length ^ k → y w = z w) → Lt xs k z → Lt xs k y := by
      intro k
      induction k with
      | zero => intro y z hyz hz; show y 0 ≤ 1; rw [hyz 0 (by simp)]; exact hz
      | succ k ih2 =>
        intro y z hyz hz A hA
        refine ih2 (fun w hw => Bq.sumTo_congr fun a ha => ?_) (hz A hA)
        rw [hyz _ (by rw [Nat.pow_succ]; exact pair_lt hw ha)]
    exact congr k hone ih
theorem count_sum (p : Nat → Bool) : ∀ n, Bq.sumTo (fun w => if p w = true then (1 : Rat) else 0) n = (((List.range n).countP p : Nat) : Rat)
  | 0 => rfl
  | n + 1 => by
    rw [Bq.sumTo, count_sum p n, List.range_succ, List.countP_append, Rat.natCast_add]
    congr 1
    cases hp : p n <;> simp [hp]
theorem code_nat {xs : List Int} {k : Nat} {c : List Int} (hc : code xs k c = true) : (c.map Int.toNat).Nodup ∧ (∀ w ∈ c.map Int.toNat, w < wn xs k) ∧ ∀ w v, w ∈ c.map Int.toNat → v ∈ c.map Int.toNat → w ≠ v → cf xs k w v = false ∨ cf xs k v w = false := by
  obtain ⟨h1, h2⟩ := code_pw.1 hc
  refine ⟨?_, fun w hw => ?_, fun w v hw hv hne => ?_⟩
  · refine List.pairwise_map.2 (h2.imp_of_mem fun {x y} hx hy h => ?_)
    have := h1 x hx
    have := h1 y hy
    have := h.1
    omega
  · obtain ⟨x, hx, rfl⟩ := List.mem_map.1 hw
    have := h1 x hx
    omega
  · obtain ⟨x, hx, rfl⟩ := List.mem_map.1 hw
    obtain ⟨y, hy, rfl⟩ := List.mem_map.1 hv
    obtain ⟨i, hi, rfl⟩ := List.mem_iff_getElem.1 hx
    obtain ⟨j, hj, rfl⟩ := List.mem_iff_getElem.1 hy
    have h3 := List.pairwise_iff_getElem.1 h2
    rcases Nat.lt_trichotomy i j with h | h | h
    · exact .inr (h3 i j hi hj h).2
    · subst h; exact absurd rfl hne
    · exact .inl (h3 j i hj hi h).2
theorem code_cf {xs : List Int} (g : Gs xs) {k : Nat} {c : List Int} (hc : code xs k c = true) {w v : Nat} (hw : w ∈ c.map Int.toNat) (hv : v ∈ c.map Int.toNat) (hne : w ≠ v) : cf xs k w v = false := by
  rcases (code_nat hc).2.2 w v hw hv hne with h | h
  · exact h
  · rw [cf_comm g]; exact h
theorem code_weigh {xs : List Int} (g : Gs xs) {q : Rat} (hq : WQ xs q) {k : Nat} {c : List Int} (hc : code xs k c = true) : ((c.length : Nat) : Rat) ≤ qpow q k := by
  obtain ⟨h1, h2, h3⟩ := code_nat hc
  have h4 := lt_sum g hq k _ (fun w _ => by split <;> decide) (code_lt g k (fun w => (c.map Int.toNat).contains w) fun w v _ _ hne hw hv => code_cf g hc (List.contains_iff_mem.1 hw) (List.contains_iff_mem.1 hv) hne)
  rw [count_sum] at h4
  have h5 := cnt_mem (L := List.range (xs.length ^ k)) List.nodup_range _ h1 fun w hw => List.mem_range.2 (h2 w hw)
  rw [h5, List.length_map] at h4
  exact h4
def ipow (x : Int) : Nat → Int
  | 0 => 1
  | k + 1 => ipow x k * x
theorem ipow_pos {x : Int} (h : 0 < x) : ∀ k, 0 < ipow x k
  | 0 => by rw [ipow]; decide
  | k + 1 => by rw [ipow]; exact Int.mul_pos (ipow_pos h k) h
theorem qpow_ints (q : Rat) : ∀ k, ((ipow q.num k : Int) : Rat) = qpow q k * ((ipow q.den k : Int) : Rat)
  | 0 => by rw [ipow, ipow, qpow, Rat.one_mul]
  | k + 1 => by rw [ipow, ipow, qpow, Rat.intCast_mul, Rat.intCast_mul, qpow_ints q k, num_eq q]; grind
theorem code_ints {xs : List Int} (g : Gs xs) {q : Rat} (hq : WQ xs q) {k : Nat} {c : List Int} (hc : code xs k c = true) : (c.length : Int) * ipow q.den k ≤ ipow q.num k := by
  have h1 := code_weigh g hq hc
  have h2 := ipow_pos (x := (q.den : Int)) (by have := q.den_pos; omega) k
  have h3 := Rat.mul_le_mul_of_nonneg_right h1 (Rat.le_of_lt (Rat.intCast_pos.2 h2))
  rw [← qpow_ints] at h3
  have e : (((c.length : Int) * ipow q.den k : Int) : Rat) = ((c.length : Nat) : Rat) * ((ipow q.den k : Int) : Rat) := by rw [Rat.intCast_mul]; rfl
  rw [← e] at h3
  exact Rat.intCast_le_intCast.1 h3
theorem weigh_cov_int {xs : List Int} (g : Gs xs) {q : Rat} (hq : WQ xs q) : q.num ≤ (cov xs : Int) * q.den := by
  have h := weigh_cov g hq
  rw [Rat.le_iff] at h
  have e1 : (((cov xs : Nat) : Rat)).num = ((cov xs : Nat) : Int) := rfl
  have e2 : (((cov xs : Nat) : Rat)).den = 1 := rfl
  rw [e1, e2] at h
  omega
/-! ### Ranks -/
theorem cm_rows {g : Nat → Nat} {n : Nat} : ∀ {k i : Nat} {c : List Nat}, Rn.Cm g n k i c → c.length = k ∧ ∀ t, t < k → Rn.okRow g n (i + t) (c.getD t 0)
  | 0, i, c, h => by
    rw [Rn.Cm] at h; subst h
    exact ⟨rfl, fun t ht => by omega⟩
  | k + 1, i, c, h => by
    obtain ⟨r, d, rfl, h1, h2⟩ := h
    obtain ⟨h3, h4⟩ := cm_rows h2
    refine ⟨by rw [List.length_cons, h3], fun t ht => ?_⟩
    cases t with
    | zero => exact h1
    | succ t =>
      have := h4 t (by omega)
      rw [show i + 1 + t = i + (t + 1) by omega] at this
      exact this
theorem fit_le {xs : List Int} {m : Nat} (hm : FitM xs m) : m ≤ xs.length := hm.2.1
theorem fit_vec {xs : List Int} (g : Gs xs) {m : Nat} (hm : FitM xs m) : m = xs.length ∨ ∃ a b : Nat → Nat → Bool, ∀ i, i < xs.length → Rn.ip m (a i) (b i) = true ∧ ∀ j, j < xs.length → nq xs i j = false → Rn.ip m (a i) (b j) = false := by
  rcases hm.1 with h | ⟨c, hc, hd⟩
  · exact .inl h
  · right
    rw [List.nil_append] at hd
    obtain ⟨hl, hr⟩ := cm_rows hc
    obtain ⟨B, hB1, hB2, hB3⟩ := Rn.base_ex c
    have hlt : ∀ x ∈ c, x < 2 ^ xs.length := fun x hx => by
      obtain ⟨t, ht, rfl⟩ := List.mem_iff_getElem.1 hx
      have := (hr t (by omega)).1
      rwa [List.getD, List.getElem?_eq_getElem ht, Option.getD_some] at this
    have hBl : m = B.length := by
      rw [hd, ← Rn.dim_congr hB3]
      exact Rn.dim_ind (fun x hx => hlt x (hB1 x hx)) hB2
    have hco : ∀ i, ∃ a : Nat → Bool, i < xs.length → ∀ t, (c.getD i 0).testBit t = Rn.ip B.length a fun j => (B.getD j 0).testBit t := fun i => by
      by_cases hi : i < xs.length
      · have hS : Rn.S B (c.getD i 0) = true := by
          rw [hB3]
          refine Rn.S_mem ?_
          rw [List.getD, List.getElem?_eq_getElem (by omega)]
          exact List.getElem_mem _
        obtain ⟨a, ha⟩ := Rn.S_coef hS
        exact ⟨a, fun _ => ha⟩
      · exact ⟨fun _ => false, fun h => absurd h hi⟩
    refine ⟨fun i => (hco i).choose, fun j t => (B.getD t 0).testBit j, fun i hi => ?_⟩
    have ha := (hco i).choose_spec hi
    have hrow := hr i hi
    rw [Nat.zero_add] at hrow
    rw [hBl]
    refine ⟨by rw [← ha]; exact hrow.2.1, fun j hj hn => ?_⟩
    rw [← ha]
    rw [nq, Bool.or_eq_false_iff, beq_eq_false_iff_ne] at hn
    cases hb : (c.getD i 0).testBit j with
    | false => rfl
    | true =>
      have := hrow.2.2 j (Ne.symm hn.1) hb
      rw [gn_bit, hn.2] at this; cases this
theorem ten_eq {xs : List Int} (g : Gs xs) {m : Nat} {a b : Nat → Nat → Bool} (h : ∀ i, i < xs.length → Rn.ip m (a i) (b i) = true ∧ ∀ j, j < xs.length → nq xs i j = false → Rn.ip m (a i) (b j) = false) : ∀ k w, Rn.ip (m ^ k) (Rn.ten xs.length m a k w) (Rn.ten xs.length m b k w) = true ∧ ∀ v, cf xs k w v = false → Rn.ip (m ^ k) (Rn.ten xs.length m a k w) (Rn.ten xs.length m b k v) = false
  | 0, w => ⟨rfl, fun v hv => by rw [cf] at hv; cases hv⟩
  | k + 1, w => by
    have hn0 : 0 < xs.length := g.1
    obtain ⟨h1, h2⟩ := ten_eq g h k (w / xs.length)
    obtain ⟨h3, h4⟩ := h _ (Nat.mod_lt w hn0)
    refine ⟨by rw [Rn.ten_ip, h1, h3]; rfl, fun v hv => ?_⟩
    rw [Rn.ten_ip]
    rw [cf] at hv
    rcases Bool.and_eq_false_iff.1 hv with hv | hv
    · rw [h4 _ (Nat.mod_lt v hn0) hv, Bool.and_false]
    · rw [h2 _ hv, Bool.false_and]
theorem code_fit {xs : List Int} (g : Gs xs) {m : Nat} (hm : FitM xs m) {k : Nat} {c : List Int} (hc : code xs k c = true) : c.length ≤ m ^ k := by
  obtain ⟨h1, h2, _⟩ := code_nat hc
  rcases fit_vec g hm with rfl | ⟨a, b, hab⟩
  · have := Rn.cnt_sub (L := List.range (wn xs k)) List.nodup_range _ h1 fun w hw => List.mem_range.2 (h2 w hw)
    rw [List.length_map, List.length_range] at this
    exact this
  · have := Rn.dual_len (N := m ^ k) (ta := Rn.ten xs.length m a k) (tb := Rn.ten xs.length m b k) (c := c.map Int.toNat) (fun w _ => (ten_eq g hab k w).1) (h1.imp_of_mem fun {w v} hw hv hne => (ten_eq g hab k v).2 w (code_cf g hc hv hw (Ne.symm hne)))
    rwa [List.length_map] at this
end Go.Proofs.Tryd.Am

namespace Go.Proofs.Tryd.Am
open Go.Am Sr
set_option maxRecDepth 100000

/-! ### One letter more -/
def Indep (xs : List Int) (k : Nat) (p : Nat → Bool) : Prop := ∀ w v, w < xs.length ^ k → v < xs.length ^ k → w ≠ v → p w = true → p v = true → cf xs k w v = false
theorem indep_step {xs : List Int} (g : Gs xs) {q : Rat} (hq : WQ xs q) {k : Nat} {N : Rat} (hN : 0 < N) (hk : ∀ p, Indep xs k p → (((List.range (xs.length ^ k)).countP p : Nat) : Rat) ≤ N) {p : Nat → Bool} (h : Indep xs (k + 1) p) :
    (((List.range (xs.length ^ (k + 1))).countP p : Nat) : Rat) ≤ q * N := by
  have hn0 : 0 < xs.length := g.1
  have hN0 : N ≠ 0 := fun hc => by rw [hc] at hN; exact absurd hN (by decide)
  have hi := Rat.le_of_lt (Rat.inv_pos.2 hN)
  obtain ⟨z, hz⟩ : ∃ z : Nat → Rat, z = fun w => if p w = true then 1 else 0 := ⟨_, rfl⟩
  have z0 : ∀ w, 0 ≤ z w := fun w => by rw [hz]; simp only; split <;> decide
  obtain ⟨Z, hZ⟩ : ∃ Z : Nat → Rat, Z = fun a => Bq.sumTo (fun w => z (w * xs.length + a)) (xs.length ^ k) := ⟨_, rfl⟩
  have key : ∀ A ∈ clq xs, Bq.dot (Bq.bitQ A) Z xs.length ≤ N := fun A hA => by
    obtain ⟨hA1, hA2, hA3⟩ := (mem_clq g).1 hA
    have same : ∀ a b, a < xs.length → b < xs.length → A.testBit a = true → A.testBit b = true → nq xs a b = true := fun a b ha hb h1 h2 => by
      rw [nq, Bool.or_eq_true, beq_iff_eq]
      by_cases e : a = b
      · exact .inl e
      · exact .inr (hA3 a ha h1 b (Ne.symm e) h2)
    have cfs : ∀ w v a b, a < xs.length → b < xs.length → cf xs (k + 1) (w * xs.length + a) (v * xs.length + b) = (nq xs a b && cf xs k w v) := fun w v a b ha hb => by
      rw [cf, pair_mod ha, pair_mod hb, pair_div ha, pair_div hb]; rfl
    have e : Bq.dot (Bq.bitQ A) Z xs.length = Bq.sumTo (fun w => if (List.range xs.length).any (fun a => A.testBit a && p (w * xs.length + a)) = true then (1 : Rat) else 0) (xs.length ^ k) := by
      have e1 : Bq.dot (Bq.bitQ A) Z xs.length = Bq.sumTo (fun j => Bq.sumTo (fun i => Bq.bitQ A j * z (i * xs.length + j)) (xs.length ^ k)) xs.length := by
        rw [Bq.dot, hZ]
        exact Bq.sumTo_congr fun a _ => by rw [← Bq.sumTo_mul]
      rw [e1, Bq.sumTo_swap]
      refine Bq.sumTo_congr fun w hw => ?_
      have e2 : Bq.sumTo (fun a => Bq.bitQ A a * z (w * xs.length + a)) xs.length = Bq.sumTo (fun a => if (A.testBit a && p (w * xs.length + a)) = true then (1 : Rat) else 0) xs.length := Bq.sumTo_congr fun a _ => by
        rw [hz]
        show Bq.bitQ A a * (if p (w * xs.length + a) = true then (1 : Rat) else 0) = _
        rw [Bq.bitQ]
        cases A.testBit a <;> cases p (w * xs.length + a) <;> simp
      rw [e2]
      refine one_place fun a b ha hb h1 h2 => Classical.byContradiction fun hne => ?_
      rw [Bool.and_eq_true] at h1 h2
      have := h (w * xs.length + a) (w * xs.length + b) (by rw [Nat.pow_succ]; exact pair_lt hw ha) (by rw [Nat.pow_succ]; exact pair_lt hw hb) (by omega) h1.2 h2.2
      rw [cfs w w a b ha hb, same a b ha hb h1.1 h2.1, cf_self] at this; cases this
    rw [e, count_sum]
    refine hk _ fun w v hw hv hne h1 h2 => ?_
    obtain ⟨a, ha, h1⟩ := List.any_eq_true.1 h1
    obtain ⟨b, hb, h2⟩ := List.any_eq_true.1 h2
    rw [List.mem_range] at ha hb
    rw [Bool.and_eq_true] at h1 h2
    have hne2 : w * xs.length + a ≠ v * xs.length + b := fun hc => hne (by
      have := congrArg (· / xs.length) hc
      simpa only [pair_div ha, pair_div hb] using this)
    have := h _ _ (by rw [Nat.pow_succ]; exact pair_lt hw ha) (by rw [Nat.pow_succ]; exact pair_lt hv hb) hne2 h1.2 h2.2
    rw [cfs w v a b ha hb, same a b ha hb h1.1 h2.1, Bool.true_and] at this
    exact this
  have h3 := hq.1.le (fun a => N⁻¹ * Z a) ⟨fun a ha => Rat.mul_nonneg hi (by rw [hZ]; exact qsum_nn fun w _ => z0 _), fun A hA => by
    have h4 := key A hA
    have e : Bq.dot (Bq.bitQ A) (fun a => N⁻¹ * Z a) xs.length = N⁻¹ * Bq.dot (Bq.bitQ A) Z xs.length := by
      rw [Bq.dot, Bq.dot, ← Bq.sumTo_mul]
      exact Bq.sumTo_congr fun a _ => by grind
    rw [e]
    have h5 := Rat.mul_le_mul_of_nonneg_left h4 hi
    rwa [Rat.inv_mul_cancel _ hN0] at h5⟩
  rw [Bq.sumTo_mul] at h3
  have h6 := Rat.mul_le_mul_of_nonneg_left h3 (Rat.le_of_lt hN)
  rw [← Rat.mul_assoc, Rat.mul_inv_cancel _ hN0, Rat.one_mul] at h6
  rw [← count_sum, Nat.pow_succ, qsum_prod, Bq.sumTo_swap, Rat.mul_comm q]
  have e : (fun j => Bq.sumTo (fun i => if p (i * xs.length + j) = true then (1 : Rat) else 0) (xs.length ^ k)) = Z := by rw [hZ, hz]
  rw [e]
  exact h6
theorem most_indep {xs : List Int} (g : Gs xs) {k : Nat} (hk : wn xs k ≤ 64) : ∃ p, Indep xs k p ∧ (List.range (xs.length ^ k)).countP p = (codeL (Xy xs k)).length := by
  have hc := codeL_code g hk
  obtain ⟨h1, h2, _⟩ := code_nat hc
  refine ⟨fun w => (((codeL (Xy xs k)).map Int.ofNat).map Int.toNat).contains w, fun w v _ _ hne hw hv => code_cf g hc (List.contains_iff_mem.1 hw) (List.contains_iff_mem.1 hv) hne, ?_⟩
  have h3 := cnt_mem (L := List.range (xs.length ^ k)) List.nodup_range _ h1 fun w hw => List.mem_range.2 (h2 w hw)
  rw [List.length_map, List.length_map] at h3
  exact h3
theorem most_ge {xs : List Int} (g : Gs xs) {k : Nat} (hk : wn xs k ≤ 64) {l : List Nat} (hn : l.Nodup) (hl : ∀ w ∈ l, w < wn xs k) (hc : ∀ w ∈ l, ∀ v ∈ l, w ≠ v → cf xs k w v = false) : l.length ≤ (codeL (Xy xs k)).length := by
  rw [codeL_len (nearL_gr g hk), fullA, A, nearL_len]
  have h1 := Wu (ok := ok (Xy xs k)) (List.range 64) (2 ^ wn xs k - 1).testBit (fun w => l.contains w) List.nodup_range (fun i _ j _ hne hi hj => by
    have hi := List.contains_iff_mem.1 hi
    have hj := List.contains_iff_mem.1 hj
    rw [okW (hl i hi) (hl j hj) hne, hc i hi j hj hne]; rfl) (fun i _ hi => by
    have := hl i (List.contains_iff_mem.1 hi)
    rw [Nat.testBit_two_pow_sub_one]; simpa using this)
  rwa [cnt_mem List.nodup_range _ hn fun w hw => List.mem_range.2 (Nat.lt_of_lt_of_le (hl w hw) hk)] at h1

/-! ### The cycle -/
structure C5 (g : List Int) (o : Nat → Nat) : Prop where
  gs : Gs g
  len : g.length = 5
  lt : ∀ i, i < 5 → o i < 5
  inj : ∀ i j, i < 5 → j < 5 → o i = o j → i = j
  sur : ∀ v, v < 5 → ∃ i, i < 5 ∧ o i = v
  adj : ∀ i j, i < 5 → j < 5 → gb g (o i) (o j) = (decide (j = (i + 1) % 5) || decide (i = (j + 1) % 5))
section
variable {g : List Int} {o : Nat → Nat}
theorem C5.sum (c : C5 g o) (x : Nat → Rat) : Bq.sumTo x 5 = Bq.sumTo (fun i => x (o i)) 5 := by
  have e1 : Bq.sumTo x 5 = Bq.sumTo (fun v => Bq.sumTo (fun i => if v = o i then x v else 0) 5) 5 := Bq.sumTo_congr fun v hv => by
    obtain ⟨i, hi, rfl⟩ := c.sur v hv
    refine ((Bq.sumTo_congr fun j hj => ?_).trans (Bq.sumTo_pick (fun _ => x (o i)) hi)).symm
    by_cases h : j = i
    · rw [if_pos h, if_pos (by rw [h])]
    · rw [if_neg h, if_neg fun he => h (c.inj i j hi hj he).symm]
  rw [e1, Bq.sumTo_swap]
  exact Bq.sumTo_congr fun i hi => Bq.sumTo_pick x (c.lt i hi)
theorem sum5 (x : Nat → Rat) : Bq.sumTo x 5 = x 0 + x 1 + x 2 + x 3 + x 4 := by
  rw [Bq.sumTo, Bq.sumTo, Bq.sumTo, Bq.sumTo, Bq.sumTo, Bq.sumTo, Rat.zero_add]
theorem C5.edge (c : C5 g o) {i j : Nat} (hi : i < 5) (hj : j = (i + 1) % 5) {x : Nat → Rat} (hx : Bq.PFeas 5 (clq g) x) : x (o i) + x (o j) ≤ 1 := by
  have hj5 : j < 5 := by omega
  have hij : i ≠ j := by omega
  have ha := c.adj i j hi hj5
  have hb := c.adj j i hj5 hi
  rw [decide_eq_true hj, Bool.true_or] at ha
  rw [decide_eq_true hj, Bool.or_true] at hb
  have hs : Sr.mk (fun v => decide (v = o i) || decide (v = o j)) g.length ∈ clq g := mk_clq c.gs ⟨o i, by rw [c.len]; exact c.lt i hi, by simp⟩ fun a b _ _ hne h1 h2 => by
    rw [Bool.or_eq_true, decide_eq_true_eq, decide_eq_true_eq] at h1 h2
    rcases h1 with rfl | rfl <;> rcases h2 with rfl | rfl
    · exact absurd rfl hne
    · exact ha
    · exact hb
    · exact absurd rfl hne
  refine Rat.le_trans ?_ (hx.le _ hs)
  rw [c.len, ← Bq.sumTo_pick x (c.lt i hi), ← Bq.sumTo_pick x (c.lt j hj5), ← Bq.sumTo_add]
  refine Bq.sumTo_le fun v hv => ?_
  have h0 := hx.nn v hv
  rw [Bq.bitQ, Wk, decide_eq_true hv, Bool.true_and]
  have hne : o i ≠ o j := fun h => hij (c.inj i j hi hj5 h)
  by_cases h1 : v = o i
  · subst h1
    rw [if_pos rfl, if_neg hne, decide_eq_true rfl, Bool.true_or, if_pos rfl]; grind
  · rw [if_neg h1, decide_eq_false h1, Bool.false_or]
    by_cases h2 : v = o j
    · rw [if_pos h2, decide_eq_true h2, if_pos rfl]; grind
    · rw [if_neg h2, decide_eq_false h2, if_neg (by decide)]; grind
theorem C5.weigh (c : C5 g o) : WQ g (5 / 2) := by
  refine ⟨⟨⟨fun _ => 1 / 2, ⟨fun _ _ => by decide +kernel, fun s hs => ?_⟩, ?_⟩, fun x hx => ?_⟩, by decide +kernel, by decide +kernel⟩
  · obtain ⟨h1, h2, h3⟩ := (mem_clq c.gs).1 hs
    rw [c.len] at h1 h3 ⊢
    have non : ∀ i j, i < 5 → j < 5 → i ≠ j → (decide (j = (i + 1) % 5) || decide (i = (j + 1) % 5)) = false → s.testBit (o i) = true → s.testBit (o j) = true → False := fun i j hi hj hne hd hb1 hb2 => by
      have := h3 (o i) (c.lt i hi) hb1 (o j) (fun h => hne (c.inj j i hj hi h).symm) hb2
      rw [c.adj i j hi hj, hd] at this; cases this
    have n02 := non 0 2 (by decide) (by decide) (by decide) (by decide)
    have n03 := non 0 3 (by decide) (by decide) (by decide) (by decide)
    have n13 := non 1 3 (by decide) (by decide) (by decide) (by decide)
    have n14 := non 1 4 (by decide) (by decide) (by decide) (by decide)
    have n24 := non 2 4 (by decide) (by decide) (by decide) (by decide)
    rw [Bq.dot, c.sum, sum5]
    simp only [Bq.bitQ]
    revert n02 n03 n13 n14 n24
    cases s.testBit (o 0) <;> cases s.testBit (o 1) <;> cases s.testBit (o 2) <;> cases s.testBit (o 3) <;> cases s.testBit (o 4) <;> intro n02 n03 n13 n14 n24 <;>
      first
        | exact (n02 rfl rfl).elim
        | exact (n03 rfl rfl).elim
        | exact (n13 rfl rfl).elim
        | exact (n14 rfl rfl).elim
        | exact (n24 rfl rfl).elim
        | decide +kernel
  · rw [c.len, sum5]; decide +kernel
  · rw [c.len] at hx ⊢
    have a0 := c.edge (i := 0) (j := 1) (by decide) (by decide) hx
    have a1 := c.edge (i := 1) (j := 2) (by decide) (by decide) hx
    have a2 := c.edge (i := 2) (j := 3) (by decide) (by decide) hx
    have a3 := c.edge (i := 3) (j := 4) (by decide) (by decide) hx
    have a4 := c.edge (i := 4) (j := 0) (by decide) (by decide) hx
    rw [c.sum, sum5]
    grind
theorem C5.most1 (c : C5 g o) : (codeL (Xy g 1)).length = 2 := by
  have hk : wn g 1 ≤ 64 := by rw [wn_one, c.len]; decide
  refine Nat.le_antisymm ?_ ?_
  · have h := code_ints c.gs c.weigh (codeL_code c.gs hk)
    have e1 : ipow ((5 / 2 : Rat).num) 1 = 5 := by decide +kernel
    have e2 : ipow (((5 / 2 : Rat).den : Nat) : Int) 1 = 2 := by decide +kernel
    rw [e1, e2, List.length_map] at h
    omega
  · have h02 : o 0 ≠ o 2 := fun h => absurd (c.inj 0 2 (by decide) (by decide) h) (by decide)
    have hn : ∀ i j, i < 5 → j < 5 → i ≠ j → (decide (j = (i + 1) % 5) || decide (i = (j + 1) % 5)) = false → cf g 1 (o i) (o j) = false := fun i j hi hj hne hd => by
      rw [cf_one (by rw [c.len]; exact c.lt i hi) (by rw [c.len]; exact c.lt j hj), nq, c.adj i j hi hj, hd, Bool.or_false, beq_eq_false_iff_ne]
      exact fun h => hne (c.inj i j hi hj h)
    refine most_ge c.gs hk (l := [o 0, o 2]) (by simp [h02]) (fun w hw => ?_) fun w hw v hv hne => ?_
    · rw [wn_one, c.len]
      simp at hw
      rcases hw with rfl | rfl
      · exact c.lt 0 (by decide)
      · exact c.lt 2 (by decide)
    · simp at hw hv
      rcases hw with rfl | rfl <;> rcases hv with rfl | rfl
      · exact absurd rfl hne
      · exact hn 0 2 (by decide) (by decide) (by decide) (by decide)
      · exact hn 2 0 (by decide) (by decide) (by decide) (by decide)
      · exact absurd rfl hne
theorem C5.most2 (c : C5 g o) : (codeL (Xy g 2)).length = 5 := by
  have hk : wn g 2 ≤ 64 := by rw [wn, c.len]; decide
  have hk1 : wn g 1 ≤ 64 := by rw [wn_one, c.len]; decide
  refine Nat.le_antisymm ?_ ?_
  · obtain ⟨p, hp, hpl⟩ := most_indep c.gs hk
    have h2 : (0 : Rat) < 2 := by decide
    have h := indep_step c.gs c.weigh h2 (k := 1) (fun p hp => by
      have h1 := most_ge c.gs hk1 (l := (List.range (g.length ^ 1)).filter p) (List.nodup_range.sublist List.filter_sublist) (fun w hw => List.mem_range.1 (List.mem_filter.1 hw).1) fun w hw v hv hne => by
        obtain ⟨a1, a2⟩ := List.mem_filter.1 hw
        obtain ⟨b1, b2⟩ := List.mem_filter.1 hv
        exact hp w v (List.mem_range.1 a1) (List.mem_range.1 b1) hne a2 b2
      rw [c.most1, ← List.countP_eq_length_filter] at h1
      have : ((((List.range (g.length ^ 1)).countP p : Nat) : Int) : Rat) ≤ ((2 : Int) : Rat) := Rat.intCast_le_intCast.2 (by omega)
      exact this) hp
    rw [hpl] at h
    have e : (5 / 2 : Rat) * 2 = ((5 : Int) : Rat) := by decide +kernel
    rw [e] at h
    have : (((codeL (Xy g 2)).length : Int) : Rat) ≤ ((5 : Int) : Rat) := h
    have := Rat.intCast_le_intCast.1 this
    omega
  · have ol := c.lt
    have hdg : ∀ a b, a < 5 → b < 5 → (a + 5 * b) % 5 = a ∧ (a + 5 * b) / 5 = b := fun a b ha hb => by omega
    have hcf : ∀ i j, i < 5 → j < 5 → i ≠ j → cf g 2 (o i + 5 * o (2 * i % 5)) (o j + 5 * o (2 * j % 5)) = false := fun i j hi hj hne => by
      have hdi := hdg _ _ (ol i hi) (ol (2 * i % 5) (by omega))
      have hdj := hdg _ _ (ol j hj) (ol (2 * j % 5) (by omega))
      have e : ∀ a b, a < 5 → b < 5 → (o a % 5 == o b % 5 || gb g (o a % 5) (o b % 5)) = (decide (a = b) || (decide (b = (a + 1) % 5) || decide (a = (b + 1) % 5))) := fun a b ha hb => by
        rw [Nat.mod_eq_of_lt (ol a ha), Nat.mod_eq_of_lt (ol b hb), c.adj a b ha hb]
        congr 1
        rw [Bool.eq_iff_iff, beq_iff_eq, decide_eq_true_eq]
        exact ⟨fun h => c.inj a b ha hb h, fun h => by rw [h]⟩
      have e' : ∀ a b, a < 5 → b < 5 → (o a == o b || gb g (o a) (o b)) = (decide (a = b) || (decide (b = (a + 1) % 5) || decide (a = (b + 1) % 5))) := fun a b ha hb => by
        have := e a b ha hb
        rwa [Nat.mod_eq_of_lt (ol a ha), Nat.mod_eq_of_lt (ol b hb)] at this
      rw [cf, cf, cf, c.len, hdi.1, hdi.2, hdj.1, hdj.2, Bool.and_true, e' i j hi hj, e (2 * i % 5) (2 * j % 5) (by omega) (by omega)]
      have : ∀ i j : Fin 5, i ≠ j → ((decide (i.1 = j.1) || (decide (j.1 = (i.1 + 1) % 5) || decide (i.1 = (j.1 + 1) % 5))) && (decide (2 * i.1 % 5 = 2 * j.1 % 5) || (decide (2 * j.1 % 5 = (2 * i.1 % 5 + 1) % 5) || decide (2 * i.1 % 5 = (2 * j.1 % 5 + 1) % 5)))) = false := by decide
      exact this ⟨i, hi⟩ ⟨j, hj⟩ (fun h => hne (congrArg Fin.val h))
    have h := most_ge c.gs hk (l := (List.range 5).map fun i => o i + 5 * o (2 * i % 5)) (by
      refine List.pairwise_map.2 (List.nodup_range.imp_of_mem fun {i j} hi hj hne he => hne ?_)
      rw [List.mem_range] at hi hj
      have h1 := hdg _ _ (ol i hi) (ol (2 * i % 5) (by omega))
      have h2 := hdg _ _ (ol j hj) (ol (2 * j % 5) (by omega))
      exact c.inj i j hi hj (by rw [← h1.1, ← h2.1, he])) (fun w hw => by
      obtain ⟨i, hi, rfl⟩ := List.mem_map.1 hw
      rw [List.mem_range] at hi
      have := ol i hi
      have := ol (2 * i % 5) (by omega)
      rw [wn, c.len]; omega) fun w hw v hv hne => by
      obtain ⟨i, hi, rfl⟩ := List.mem_map.1 hw
      obtain ⟨j, hj, rfl⟩ := List.mem_map.1 hv
      rw [List.mem_range] at hi hj
      exact hcf i j hi hj fun h => hne (by rw [h])
    simpa using h
theorem C5.cov (c : C5 g o) : cov g = 3 := by
  refine Nat.le_antisymm ?_ ?_
  · have hS : ∀ i j, i < 5 → j < 5 → i = j ∨ (decide (j = (i + 1) % 5) || decide (i = (j + 1) % 5)) = true → Sr.mk (fun v => decide (v = o i) || decide (v = o j)) 5 ∈ clq g := fun i j hi hj hd => by
      rw [← c.len]
      refine mk_clq c.gs ⟨o i, by rw [c.len]; exact c.lt i hi, by simp⟩ fun a b _ _ hne h1 h2 => ?_
      rw [Bool.or_eq_true, decide_eq_true_eq, decide_eq_true_eq] at h1 h2
      rcases h1 with rfl | rfl <;> rcases h2 with rfl | rfl
      · exact absurd rfl hne
      · rcases hd with h | h
        · exact absurd (by rw [h]) hne
        · rw [c.adj i j hi hj]; exact h
      · rcases hd with h | h
        · exact absurd (by rw [h]) hne
        · rw [c.adj j i hj hi, Bool.or_comm]; exact h
      · exact absurd rfl hne
    have hb : ∀ i j v, v < 5 → (Sr.mk (fun v => decide (v = o i) || decide (v = o j)) 5).testBit v = (decide (v = o i) || decide (v = o j)) := fun i j v hv => by rw [Wk, decide_eq_true hv, Bool.true_and]
    obtain ⟨s1, h1⟩ : ∃ s, s = Sr.mk (fun v => decide (v = o 0) || decide (v = o 1)) 5 := ⟨_, rfl⟩
    obtain ⟨s2, h2⟩ : ∃ s, s = Sr.mk (fun v => decide (v = o 2) || decide (v = o 3)) 5 := ⟨_, rfl⟩
    obtain ⟨s3, h3⟩ : ∃ s, s = Sr.mk (fun v => decide (v = o 4) || decide (v = o 4)) 5 := ⟨_, rfl⟩
    have m1 : s1 ∈ clq g := h1 ▸ hS 0 1 (by decide) (by decide) (.inr (by decide))
    have m2 : s2 ∈ clq g := h2 ▸ hS 2 3 (by decide) (by decide) (.inr (by decide))
    have m3 : s3 ∈ clq g := h3 ▸ hS 4 4 (by decide) (by decide) (.inl rfl)
    have ol := c.lt
    have bit : ∀ {i j : Nat} {s : Nat}, s = Sr.mk (fun v => decide (v = o i) || decide (v = o j)) 5 → ∀ t, t < 5 → i < 5 → j < 5 → s.testBit (o t) = (decide (t = i) || decide (t = j)) := fun {i j s} hs t ht hi hj => by
      rw [hs, hb i j (o t) (ol t ht)]
      congr 1
      · rw [decide_eq_decide]; exact ⟨fun h => c.inj t i ht hi h, fun h => by rw [h]⟩
      · rw [decide_eq_decide]; exact ⟨fun h => c.inj t j ht hj h, fun h => by rw [h]⟩
    rw [cov_eq, c.len]
    obtain ⟨F, hF⟩ : ∃ F, F = cvV (clq g) 5 (2 ^ 5) := ⟨_, rfl⟩
    rw [← hF]
    have step : ∀ s c', 0 < s → s < 2 ^ 5 → c' ∈ clq g → c' &&& s ≠ 0 → F s ≤ 1 + F (less s c') := fun s c' a1 a2 a3 a4 => by
      rw [hF]; exact (cvV_spec a1 a2).2.2 c' a3 a4
    have ne : ∀ s c' t, t < 5 → s.testBit (o t) = true → c'.testBit (o t) = true → c' &&& s ≠ 0 := fun s c' t ht a b h => by
      have := Nat.testBit_and c' s (o t)
      rw [h, Nat.zero_testBit, a, b] at this; cases this
    have pos : ∀ s t, s.testBit (o t) = true → 0 < s := fun s t h => Nat.pos_of_ne_zero fun h0 => by rw [h0, Nat.zero_testBit] at h; cases h
    have full : ∀ t, t < 5 → (2 ^ 5 - 1).testBit (o t) = true := fun t ht => by rw [Nat.testBit_two_pow_sub_one]; simpa using ol t ht
    obtain ⟨u1, hu1⟩ : ∃ u, u = less (2 ^ 5 - 1) s1 := ⟨_, rfl⟩
    obtain ⟨u2, hu2⟩ : ∃ u, u = less u1 s2 := ⟨_, rfl⟩
    have b1 : ∀ t, t < 5 → u1.testBit (o t) = !(decide (t = 0) || decide (t = 1)) := fun t ht => by
      rw [hu1, Zs, full t ht, bit h1 t ht (by decide) (by decide)]; simp
    have b2 : ∀ t, t < 5 → u2.testBit (o t) = (!(decide (t = 0) || decide (t = 1)) && !(decide (t = 2) || decide (t = 3))) := fun t ht => by
      rw [hu2, Zs, b1 t ht, bit h2 t ht (by decide) (by decide)]
    have l1 : u1 < 2 ^ 5 := hu1 ▸ Va (by decide)
    have l2 : u2 < 2 ^ 5 := hu2 ▸ Va l1
    have z3 : less u2 s3 = 0 := Nat.eq_of_testBit_eq fun v => by
      rw [Nat.zero_testBit]
      by_cases hv : v < 5
      · obtain ⟨t, ht, rfl⟩ := c.sur v hv
        rw [Zs, b2 t ht, bit h3 t ht (by decide) (by decide)]
        have : t = 0 ∨ t = 1 ∨ t = 2 ∨ t = 3 ∨ t = 4 := by omega
        rcases this with rfl | rfl | rfl | rfl | rfl <;> rfl
      · exact Nat.testBit_lt_two_pow (Nat.lt_of_lt_of_le (Va l2) (Nat.pow_le_pow_right (by decide) (by omega)))
    have a1 := step (2 ^ 5 - 1) s1 (by decide) (by decide) m1 (ne _ _ 0 (by decide) (full 0 (by decide)) (by rw [bit h1 0 (by decide) (by decide) (by decide)]; rfl))
    rw [← hu1] at a1
    have a2 := step u1 s2 (pos _ 2 (by rw [b1 2 (by decide)]; rfl)) l1 m2 (ne _ _ 2 (by decide) (by rw [b1 2 (by decide)]; rfl) (by rw [bit h2 2 (by decide) (by decide) (by decide)]; rfl))
    rw [← hu2] at a2
    have a3 := step u2 s3 (pos _ 4 (by rw [b2 4 (by decide)]; rfl)) l2 m3 (ne _ _ 4 (by decide) (by rw [b2 4 (by decide)]; rfl) (by rw [bit h3 4 (by decide) (by decide) (by decide)]; rfl))
    rw [z3] at a3
    have a4 : F 0 = 0 := by rw [hF]; exact cvV_zero _ _ _
    omega
  · have h := weigh_cov_int c.gs c.weigh
    have e1 : (5 / 2 : Rat).num = 5 := by decide +kernel
    have e2 : (((5 / 2 : Rat).den : Nat) : Int) = 2 := by decide +kernel
    rw [e1, e2] at h
    omega
end
theorem cm_of {g : Nat → Nat} {n : Nat} (F : Nat → Nat) : ∀ (k i : Nat), (∀ t, t < k → Rn.okRow g n (i + t) (F (i + t))) → Rn.Cm g n k i ((List.range' i k).map F)
  | 0, i, _ => rfl
  | k + 1, i, h => by
    rw [List.range'_succ, List.map_cons]
    refine ⟨F i, _, rfl, h 0 (by omega), cm_of F k (i + 1) fun t ht => ?_⟩
    rw [show i + 1 + t = i + (t + 1) by omega]
    exact h (t + 1) (by omega)
theorem countP_or_le (p q : Nat → Bool) : ∀ l : List Nat, l.countP (fun y => p y || q y) ≤ l.countP p + l.countP q
  | [] => by simp
  | y :: l => by
    have := countP_or_le p q l
    rw [List.countP_cons, List.countP_cons, List.countP_cons]
    cases p y <;> cases q y <;> simp <;> omega
theorem cnt_le {n : Nat} : ∀ (l : List Nat), (∀ x ∈ l, x < 2 ^ n) → Rn.cnt n l ≤ 2 ^ l.length
  | [], _ => by rw [Rn.cnt_nil]; exact Nat.le_refl _
  | x :: l, h => by
    have ih := cnt_le l fun z hz => h z (by simp [hz])
    have e := countP_or_le (Rn.S l) (fun y => Rn.S l (y ^^^ x)) (List.range (2 ^ n))
    rw [Rn.countP_xor (h x (by simp))] at e
    have e2 : Rn.cnt n (x :: l) = (List.range (2 ^ n)).countP fun y => Rn.S l y || Rn.S l (y ^^^ x) := rfl
    rw [e2, List.length_cons, Nat.pow_succ]
    unfold Rn.cnt at ih
    omega
theorem dim_le {n : Nat} {l : List Nat} (h : ∀ x ∈ l, x < 2 ^ n) : Rn.dim n l ≤ l.length := by
  rw [Rn.dim]
  have h1 := cnt_le l h
  have h2 := Nat.log2_self_le (Rn.cnt_pos n l)
  exact (Nat.pow_le_pow_iff_right (by decide : 1 < 2)).1 (Nat.le_trans h2 h1)
theorem C5.fit {g : List Int} {o : Nat → Nat} (c : C5 g o) {m : Nat} (hm : FitM g m) : m = 3 := by
  have hk : wn g 2 ≤ 64 := by rw [wn, c.len]; decide
  have h5 := code_fit c.gs hm (codeL_code c.gs hk)
  rw [List.length_map, c.most2] at h5
  have hm5 := fit_le hm
  rw [c.len] at hm5
  refine Nat.le_antisymm ?_ ?_
  · have ol := c.lt
    obtain ⟨U, hU⟩ : ∃ U : Nat → Nat, U = fun i => if i < 2 then Sr.mk (fun v => decide (v = o 0) || decide (v = o 1)) 5 else if i < 4 then Sr.mk (fun v => decide (v = o 2) || decide (v = o 3)) 5 else Sr.mk (fun v => decide (v = o 4)) 5 := ⟨_, rfl⟩
    have u0 : U 0 = Sr.mk (fun v => decide (v = o 0) || decide (v = o 1)) 5 := by rw [hU]; rfl
    have u1 : U 1 = Sr.mk (fun v => decide (v = o 0) || decide (v = o 1)) 5 := by rw [hU]; rfl
    have u2 : U 2 = Sr.mk (fun v => decide (v = o 2) || decide (v = o 3)) 5 := by rw [hU]; rfl
    have u3 : U 3 = Sr.mk (fun v => decide (v = o 2) || decide (v = o 3)) 5 := by rw [hU]; rfl
    have u4 : U 4 = Sr.mk (fun v => decide (v = o 4)) 5 := by rw [hU]; rfl
    have adj : ∀ i j, i < 5 → j < 5 → (decide (j = (i + 1) % 5) || decide (i = (j + 1) % 5)) = true → gb g (o i) (o j) = true := fun i j hi hj h => by rw [c.adj i j hi hj, h]
    have row : ∀ t, t < 5 → Rn.okRow (gn g) 5 (o t) (U t) := fun t ht => by
      have ho := ol t ht
      have : t = 0 ∨ t = 1 ∨ t = 2 ∨ t = 3 ∨ t = 4 := by omega
      rcases this with rfl | rfl | rfl | rfl | rfl
      · rw [u0]
        refine ⟨mk_lt _ _, by rw [Wk]; simp [ho], fun b hb h => ?_⟩
        rw [Wk, Bool.and_eq_true, Bool.or_eq_true, decide_eq_true_eq, decide_eq_true_eq, decide_eq_true_eq] at h
        rcases h.2 with h1 | h1
        · exact absurd h1 hb
        · rw [h1]; exact adj 0 1 (by decide) (by decide) (by decide)
      · rw [u1]
        refine ⟨mk_lt _ _, by rw [Wk]; simp [ho], fun b hb h => ?_⟩
        rw [Wk, Bool.and_eq_true, Bool.or_eq_true, decide_eq_true_eq, decide_eq_true_eq, decide_eq_true_eq] at h
        rcases h.2 with h1 | h1
        · rw [h1]; exact adj 1 0 (by decide) (by decide) (by decide)
        · exact absurd h1 hb
      · rw [u2]
        refine ⟨mk_lt _ _, by rw [Wk]; simp [ho], fun b hb h => ?_⟩
        rw [Wk, Bool.and_eq_true, Bool.or_eq_true, decide_eq_true_eq, decide_eq_true_eq, decide_eq_true_eq] at h
        rcases h.2 with h1 | h1
        · exact absurd h1 hb
        · rw [h1]; exact adj 2 3 (by decide) (by decide) (by decide)
      · rw [u3]
        refine ⟨mk_lt _ _, by rw [Wk]; simp [ho], fun b hb h => ?_⟩
        rw [Wk, Bool.and_eq_true, Bool.or_eq_true, decide_eq_true_eq, decide_eq_true_eq, decide_eq_true_eq] at h
        rcases h.2 with h1 | h1
        · rw [h1]; exact adj 3 2 (by decide) (by decide) (by decide)
        · exact absurd h1 hb
      · rw [u4]
        refine ⟨mk_lt _ _, by rw [Wk]; simp [ho], fun b hb h => ?_⟩
        rw [Wk, Bool.and_eq_true, decide_eq_true_eq, decide_eq_true_eq] at h
        exact absurd h.2 hb
    have hF : ∀ v, ∃ r t, v < 5 → t < 5 ∧ o t = v ∧ r = U t := fun v => by
      by_cases hv : v < 5
      · obtain ⟨t, ht, e⟩ := c.sur v hv
        exact ⟨U t, t, fun _ => ⟨ht, e, rfl⟩⟩
      · exact ⟨0, 0, fun h => absurd h hv⟩
    obtain ⟨F, hFd⟩ : ∃ F : Nat → Nat, F = fun v => (hF v).choose := ⟨_, rfl⟩
    have hFs : ∀ v, v < 5 → ∃ t, t < 5 ∧ o t = v ∧ F v = U t := fun v hv => by
      obtain ⟨t, h⟩ := (hF v).choose_spec
      exact ⟨t, (h hv).1, (h hv).2.1, by rw [hFd]; exact (h hv).2.2⟩
    have hcm := cm_of (g := gn g) (n := 5) F 5 0 fun t ht => by
      rw [Nat.zero_add]
      obtain ⟨s, hs, e, hF2⟩ := hFs t ht
      rw [hF2, ← e]; exact row s hs
    have hle : Rn.dim 5 ((List.range' 0 5).map F) ≤ 3 := by
      have hsub : ∀ y, Rn.S ((List.range' 0 5).map F) y = true → Rn.S [U 0, U 2, U 4] y = true := fun y hy => Rn.S_sub (fun x hx => by
        obtain ⟨v, hv, rfl⟩ := List.mem_map.1 hx
        have hv5 : v < 5 := by
          have := List.mem_range'_1.1 hv; omega
        obtain ⟨s, hs, e, hF2⟩ := hFs v hv5
        rw [hF2]
        refine Rn.S_mem ?_
        have : s = 0 ∨ s = 1 ∨ s = 2 ∨ s = 3 ∨ s = 4 := by omega
        rcases this with rfl | rfl | rfl | rfl | rfl
        · simp
        · rw [u1, ← u0]; simp
        · simp
        · rw [u3, ← u2]; simp
        · simp) hy
      refine Nat.le_trans (Rn.dim_mono hsub) (dim_le (l := [U 0, U 2, U 4]) fun x hx => ?_)
      simp at hx
      rcases hx with rfl | rfl | rfl
      · exact (row 0 (by decide)).1
      · exact (row 2 (by decide)).1
      · exact (row 4 (by decide)).1
    have := hm.2.2 (Rn.dim 5 ((List.range' 0 5).map F)) (by rw [c.len]; exact ⟨_, hcm, rfl⟩)
    omega
  · have : m = 0 ∨ m = 1 ∨ m = 2 ∨ 3 ≤ m := by omega
    rcases this with rfl | rfl | rfl | h
    · exact absurd h5 (by decide)
    · exact absurd h5 (by decide)
    · exact absurd h5 (by decide)
    · exact h
/-! ### Its table, as it is laid -/
def stepG (o g : List Nat) (i : Nat) : List Nat :=
  ((g.set (o.getD i 0) (g.getD (o.getD i 0) 0 ||| 2 ^ o.getD ((i + 1) % 5) 0))).set (o.getD ((i + 1) % 5) 0) ((g.set (o.getD i 0) (g.getD (o.getD i 0) 0 ||| 2 ^ o.getD ((i + 1) % 5) 0)).getD (o.getD ((i + 1) % 5) 0) 0 ||| 2 ^ o.getD i 0)
def GT (o : List Nat) (i : Nat) : List Nat := (List.range i).foldl (stepG o) (List.replicate 5 0)
theorem GT_succ (o : List Nat) (i : Nat) : GT o (i + 1) = stepG o (GT o i) i := by rw [GT, List.range_succ, List.foldl_append]; rfl
theorem GT_len (o : List Nat) : ∀ i, (GT o i).length = 5
  | 0 => rfl
  | i + 1 => by rw [GT_succ, stepG, List.length_set, List.length_set, GT_len o i]
def okG (o : List Nat) : Bool := (List.range 5).all fun i => decide ((GT o 5).getD i 0 < 32) && (List.range 5).any (fun j => o.getD j 0 == i) && (List.range 5).all fun j => ((GT o 5).getD (o.getD i 0) 0).testBit (o.getD j 0) == (decide (j = (i + 1) % 5) || decide (i = (j + 1) % 5))
theorem okG_b : ((List.range 5).all fun a => (List.range 5).all fun b => (List.range 5).all fun c => (List.range 5).all fun d => (List.range 5).all fun e => (a == b || a == c || a == d || a == e || b == c || b == d || b == e || c == d || c == e || d == e) || okG [a, b, c, d, e]) = true := by decide +kernel
theorem okG_all {a b c d e : Nat} (ha : a < 5) (hb : b < 5) (hc : c < 5) (hd : d < 5) (he : e < 5) (h : a ≠ b ∧ a ≠ c ∧ a ≠ d ∧ a ≠ e ∧ b ≠ c ∧ b ≠ d ∧ b ≠ e ∧ c ≠ d ∧ c ≠ e ∧ d ≠ e) : okG [a, b, c, d, e] = true := by
  have := List.all_eq_true.1 (List.all_eq_true.1 (List.all_eq_true.1 (List.all_eq_true.1 (List.all_eq_true.1 okG_b a (List.mem_range.2 ha)) b (List.mem_range.2 hb)) c (List.mem_range.2 hc)) d (List.mem_range.2 hd)) e (List.mem_range.2 he)
  rw [Bool.or_eq_true] at this
  rcases this with h1 | h1
  · simp only [Bool.or_eq_true, beq_iff_eq] at h1
    omega
  · exact h1
theorem getI (L : List Nat) (i : Nat) : (iL L).getD i 0 = ((L.getD i 0 : Nat) : Int) := iL_get L i
theorem C5_of {o : List Nat} (hl : o.length = 5) (h5 : ∀ x ∈ o, x < 5) (hn : o.Nodup) : C5 (iL (GT o 5)) fun i => o.getD i 0 := by
  have hok : okG o = true := by
    match o, hl with
    | [a, b, c, d, e], _ =>
      simp only [List.nodup_cons, List.mem_cons, List.not_mem_nil, not_or, or_false, List.nodup_nil, and_true, not_false_eq_true] at hn
      exact okG_all (h5 a (by simp)) (h5 b (by simp)) (h5 c (by simp)) (h5 d (by simp)) (h5 e (by simp)) ⟨hn.1.1, hn.1.2.1, hn.1.2.2.1, hn.1.2.2.2, hn.2.1.1, hn.2.1.2.1, hn.2.1.2.2, hn.2.2.1.1, hn.2.2.1.2, hn.2.2.2⟩
  have hall : ∀ i, i < 5 → (GT o 5).getD i 0 < 32 ∧ (∃ j, j < 5 ∧ o.getD j 0 = i) ∧ ∀ j, j < 5 → ((GT o 5).getD (o.getD i 0) 0).testBit (o.getD j 0) = (decide (j = (i + 1) % 5) || decide (i = (j + 1) % 5)) := fun i hi => by
    have := List.all_eq_true.1 hok i (List.mem_range.2 hi)
    rw [Bool.and_eq_true, Bool.and_eq_true, decide_eq_true_eq] at this
    refine ⟨this.1.1, ?_, fun j hj => by simpa using List.all_eq_true.1 this.2 j (List.mem_range.2 hj)⟩
    obtain ⟨j, hj, e⟩ := List.any_eq_true.1 this.1.2
    exact ⟨j, List.mem_range.1 hj, beq_iff_eq.1 e⟩
  have lt : ∀ i, i < 5 → o.getD i 0 < 5 := fun i hi => by
    rw [List.getD, List.getElem?_eq_getElem (by omega)]; exact h5 _ (List.getElem_mem _)
  have inj : ∀ i j, i < 5 → j < 5 → o.getD i 0 = o.getD j 0 → i = j := fun i j hi hj h => by
    rw [List.getD, List.getElem?_eq_getElem (by omega), List.getD, List.getElem?_eq_getElem (by omega)] at h
    have hp := List.pairwise_iff_getElem.1 hn
    rcases Nat.lt_trichotomy i j with h1 | h1 | h1
    · exact absurd h (hp i j (by omega) (by omega) h1)
    · exact h1
    · exact absurd h.symm (hp j i (by omega) (by omega) h1)
  have adj : ∀ i j, i < 5 → j < 5 → gb (iL (GT o 5)) (o.getD i 0) (o.getD j 0) = (decide (j = (i + 1) % 5) || decide (i = (j + 1) % 5)) := fun i j hi hj => by
    rw [gb, getI, Int.toNat_natCast]; exact (hall i hi).2.2 j hj
  have hlen : (iL (GT o 5)).length = 5 := by rw [Ww, GT_len]
  refine ⟨⟨by rw [hlen]; decide, by rw [hlen]; decide, fun v hv => ?_⟩, hlen, lt, inj, fun v hv => (hall v hv).2.1, adj⟩
  rw [hlen] at hv ⊢
  obtain ⟨i, hi, rfl⟩ := (hall v hv).2.1
  refine ⟨?_, ?_, fun u hu => ?_⟩
  · have := (hall _ (lt i hi)).1
    rw [getI]
    have e : (2 : Int) ^ 5 = 32 := by decide
    rw [e]; omega
  · rw [adj i i hi hi]
    have : i = 0 ∨ i = 1 ∨ i = 2 ∨ i = 3 ∨ i = 4 := by omega
    rcases this with rfl | rfl | rfl | rfl | rfl <;> rfl
  · obtain ⟨j, hj, rfl⟩ := (hall u hu).2.1
    rw [adj i j hi hj, adj j i hj hi, Bool.or_comm]
end Go.Proofs.Tryd.Am

namespace Go.Proofs.Tryd.Am
open Go.Am
set_option maxRecDepth 100000
/-! 16: planchet planchetlaw05.SureFive -/
@[reducible] def q16_0 : SCode := .region [⟨some 2, .assign (.const (.bool false)), none⟩]
@[reducible] def q16_1 : SCode := .region [⟨some 3, .assign (.const (.int .i64 0)), none⟩]
@[reducible] def q16_2 : SCode := .region [⟨some 20, .move (.tmp 0), none⟩,
    ⟨some 21, .call { callee := .builtin .len, args := #[.tmp 20], argTypes := #[22] }, none⟩,
    ⟨some 22, .move (.const (.int .i64 0)), none⟩]
@[reducible] def q16_3 : SCode := .region [⟨some 23, .binOp .lss 3 (.tmp 22) (.tmp 21) 3, none⟩]
@[reducible] def q16_4 : SCode := .region [⟨some 24, .indexAddr 22 (.tmp 20) (.tmp 22), none⟩,
    ⟨some 25, .load 3 (.tmp 24), none⟩,
    ⟨some 5, .assign (.tmp 25), none⟩]
@[reducible] def q16_5 : SCode := .region [⟨some 26, .move (.tmp 5), none⟩,
    ⟨some 27, .binOp .lss 3 (.tmp 26) (.const (.int .i64 0)) 3, none⟩,
    ⟨some 28, .move (.tmp 27), none⟩,
    ⟨some 29, .move (.tmp 5), some (28, false)⟩,
    ⟨some 30, .binOp .gtr 3 (.tmp 29) (.const (.int .i64 4)) 3, some (28, false)⟩,
    ⟨some 31, .pick (.tmp 28) (.const (.bool true)) (.tmp 30), none⟩,
    ⟨some 32, .move (.tmp 31), none⟩,
    ⟨some 33, .move (.tmp 3), some (32, false)⟩,
    ⟨some 34, .move (.tmp 5), some (32, false)⟩,
    ⟨some 35, .binOp .shr 3 (.tmp 33) (.tmp 34) 3, some (32, false)⟩,
    ⟨some 36, .binOp .and 3 (.tmp 35) (.const (.int .i64 1)) 3, some (32, false)⟩,
    ⟨some 37, .binOp .eql 3 (.tmp 36) (.const (.int .i64 1)) 3, some (32, false)⟩,
    ⟨some 38, .pick (.tmp 32) (.const (.bool true)) (.tmp 37), none⟩]
@[reducible] def q16_6 : SCode := .region [⟨some 39, .call { callee := .value (.func 21), args := #[], argTypes := #[] }, none⟩,
    ⟨some 2, .assign (.tmp 39), none⟩]
@[reducible] def q16_7 : SCode := .region [⟨some 40, .move (.tmp 3), none⟩,
    ⟨some 41, .move (.tmp 5), none⟩,
    ⟨some 42, .binOp .shl 3 (.const (.int .i64 1)) (.tmp 41) 3, none⟩,
    ⟨some 43, .binOp .or 3 (.tmp 40) (.tmp 42) 3, none⟩,
    ⟨some 3, .assign (.tmp 43), none⟩]
@[reducible] def q16_8 : SCode := .region [⟨some 44, .binOp .add 3 (.tmp 22) (.const (.int .i64 1)) 3, none⟩,
    ⟨some 22, .move (.tmp 44), none⟩]
def l16_0 : SCode := (.seq q16_3 (.seq (.cond (.tmp 23) .skip (.exit 0)) (.seq (.block 1 (.seq q16_4 (.seq (.seq q16_5 (.cond (.tmp 38) (.seq q16_6 .ret) .skip)) q16_7))) q16_8)))
@[reducible] def q16_9 : SCode := .region [⟨some 45, .move (.tmp 3), none⟩,
    ⟨some 46, .binOp .neq 3 (.tmp 45) (.const (.int .i64 31)) 3, none⟩]
@[reducible] def q16_10 : SCode := .region [⟨some 47, .call { callee := .value (.func 21), args := #[], argTypes := #[] }, none⟩,
    ⟨some 2, .assign (.tmp 47), none⟩]
@[reducible] def q16_11 : SCode := .region [⟨some 48, .makeSlice 22 (.const (.int .i64 5)) (.const (.int .i64 5)), none⟩,
    ⟨some 6, .assign (.tmp 48), none⟩]
@[reducible] def q16_12 : SCode := .region [⟨some 49, .move (.tmp 0), none⟩,
    ⟨some 50, .call { callee := .builtin .len, args := #[.tmp 49], argTypes := #[22] }, none⟩,
    ⟨some 51, .move (.const (.int .i64 0)), none⟩]
@[reducible] def q16_13 : SCode := .region [⟨some 52, .binOp .lss 3 (.tmp 51) (.tmp 50) 3, none⟩]
@[reducible] def q16_14 : SCode := .region [⟨some 53, .move (.tmp 51), none⟩,
    ⟨some 54, .indexAddr 22 (.tmp 49) (.tmp 51), none⟩,
    ⟨some 55, .load 3 (.tmp 54), none⟩,
    ⟨some 7, .assign (.tmp 53), none⟩,
    ⟨some 8, .assign (.tmp 55), none⟩]
@[reducible] def q16_15 : SCode := .region [⟨some 56, .move (.tmp 0), none⟩,
    ⟨some 57, .move (.tmp 7), none⟩,
    ⟨some 58, .binOp .add 3 (.tmp 57) (.const (.int .i64 1)) 3, none⟩,
    ⟨some 59, .binOp .rem 3 (.tmp 58) (.const (.int .i64 5)) 3, none⟩,
    ⟨some 60, .indexAddr 22 (.tmp 56) (.tmp 59), none⟩,
    ⟨some 61, .load 3 (.tmp 60), none⟩,
    ⟨some 9, .assign (.tmp 61), none⟩]
def q16_16 : SCode := .draw [⟨some 62, .move (.tmp 6), none⟩,
    ⟨some 63, .move (.tmp 8), none⟩,
    ⟨some 64, .indexAddr 22 (.tmp 62) (.tmp 63), none⟩,
    ⟨some 65, .load 3 (.tmp 64), none⟩,
    ⟨some 66, .move (.tmp 9), none⟩,
    ⟨some 67, .binOp .shl 3 (.const (.int .i64 1)) (.tmp 66) 3, none⟩,
    ⟨some 68, .binOp .or 3 (.tmp 65) (.tmp 67) 3, none⟩,
    ⟨some 69, .indexAddr 22 (.tmp 62) (.tmp 63), none⟩,
    ⟨none, .store 3 (.tmp 69) (.tmp 68), none⟩]
   [[], [], [0, 1], [2], [], [4], [3, 5], [0, 1, 0, 1, 2, 3, 4, 5, 6], [7, 6, 0, 1, 2, 3, 4, 5, 6]]
def q16_17 : SCode := .draw [⟨some 70, .move (.tmp 6), none⟩,
    ⟨some 71, .move (.tmp 9), none⟩,
    ⟨some 72, .indexAddr 22 (.tmp 70) (.tmp 71), none⟩,
    ⟨some 73, .load 3 (.tmp 72), none⟩,
    ⟨some 74, .move (.tmp 8), none⟩,
    ⟨some 75, .binOp .shl 3 (.const (.int .i64 1)) (.tmp 74) 3, none⟩,
    ⟨some 76, .binOp .or 3 (.tmp 73) (.tmp 75) 3, none⟩,
    ⟨some 77, .indexAddr 22 (.tmp 70) (.tmp 71), none⟩,
    ⟨none, .store 3 (.tmp 77) (.tmp 76), none⟩]
   [[], [], [0, 1], [2], [], [4], [3, 5], [0, 1, 0, 1, 2, 3, 4, 5, 6], [7, 6, 0, 1, 2, 3, 4, 5, 6]]
@[reducible] def q16_18 : SCode := .region [⟨some 78, .binOp .add 3 (.tmp 51) (.const (.int .i64 1)) 3, none⟩,
    ⟨some 51, .move (.tmp 78), none⟩]
def l16_1 : SCode := (.seq q16_13 (.seq (.cond (.tmp 52) .skip (.exit 2)) (.seq (.block 3 (.seq q16_14 (.seq q16_15 (.seq q16_16 q16_17)))) q16_18)))
@[reducible] def q16_19 : SCode := .region [⟨some 80, .move (.tmp 6), none⟩,
    ⟨some 81, .call { callee := .value (.func 18), args := #[.tmp 80], argTypes := #[22] }, none⟩,
    ⟨some 82, .call { callee := .value (.func 19), args := #[.tmp 81, .const (.int .i64 1)], argTypes := #[22, 3] }, none⟩,
    ⟨some 79, .move (.tmp 82), none⟩,
    ⟨some 83, .extract (.tmp 79) 0, none⟩,
    ⟨some 84, .extract (.tmp 79) 1, none⟩,
    ⟨some 10, .assign (.tmp 83), none⟩,
    ⟨some 11, .assign (.tmp 84), none⟩]
@[reducible] def q16_20 : SCode := .region [⟨some 86, .move (.tmp 6), none⟩,
    ⟨some 87, .call { callee := .value (.func 18), args := #[.tmp 86], argTypes := #[22] }, none⟩,
    ⟨some 88, .call { callee := .value (.func 19), args := #[.tmp 87, .const (.int .i64 2)], argTypes := #[22, 3] }, none⟩,
    ⟨some 85, .move (.tmp 88), none⟩,
    ⟨some 89, .extract (.tmp 85) 0, none⟩,
    ⟨some 90, .extract (.tmp 85) 1, none⟩,
    ⟨some 12, .assign (.tmp 89), none⟩,
    ⟨some 13, .assign (.tmp 90), none⟩]
@[reducible] def q16_21 : SCode := .region [⟨some 92, .move (.tmp 6), none⟩,
    ⟨some 93, .call { callee := .value (.func 18), args := #[.tmp 92], argTypes := #[22] }, none⟩,
    ⟨some 94, .call { callee := .value (.func 35), args := #[.tmp 93], argTypes := #[22] }, none⟩,
    ⟨some 91, .move (.tmp 94), none⟩,
    ⟨some 95, .extract (.tmp 91) 0, none⟩,
    ⟨some 96, .extract (.tmp 91) 1, none⟩,
    ⟨some 14, .alloc 44, none⟩,
    ⟨none, .store 44 (.tmp 14) (.tmp 95), none⟩,
    ⟨some 15, .assign (.tmp 96), none⟩]
@[reducible] def q16_22 : SCode := .region [⟨some 98, .move (.tmp 6), none⟩,
    ⟨some 99, .call { callee := .value (.func 18), args := #[.tmp 98], argTypes := #[22] }, none⟩,
    ⟨some 100, .call { callee := .value (.func 28), args := #[.tmp 99], argTypes := #[22] }, none⟩,
    ⟨some 97, .move (.tmp 100), none⟩,
    ⟨some 101, .extract (.tmp 97) 0, none⟩,
    ⟨some 102, .extract (.tmp 97) 1, none⟩,
    ⟨some 16, .assign (.tmp 101), none⟩,
    ⟨some 17, .assign (.tmp 102), none⟩]
@[reducible] def q16_23 : SCode := .region [⟨some 104, .move (.tmp 6), none⟩,
    ⟨some 105, .call { callee := .value (.func 49), args := #[.tmp 104], argTypes := #[22] }, none⟩,
    ⟨some 103, .move (.tmp 105), none⟩,
    ⟨some 106, .extract (.tmp 103) 0, none⟩,
    ⟨some 107, .extract (.tmp 103) 1, none⟩,
    ⟨some 18, .assign (.tmp 106), none⟩,
    ⟨some 19, .assign (.tmp 107), none⟩]
@[reducible] def q16_24 : SCode := .region [⟨some 108, .move (.tmp 11), none⟩,
    ⟨some 109, .binOp .eql 23 (.tmp 108) (.const (.int .i64 0)) 23, none⟩,
    ⟨some 110, .move (.tmp 109), none⟩,
    ⟨some 111, .move (.tmp 13), some (110, true)⟩,
    ⟨some 112, .binOp .eql 23 (.tmp 111) (.const (.int .i64 0)) 23, some (110, true)⟩,
    ⟨some 113, .pick (.tmp 110) (.tmp 112) (.const (.bool false)), none⟩,
    ⟨some 114, .move (.tmp 113), none⟩,
    ⟨some 115, .move (.tmp 15), some (114, true)⟩,
    ⟨some 116, .binOp .eql 23 (.tmp 115) (.const (.int .i64 0)) 23, some (114, true)⟩,
    ⟨some 117, .pick (.tmp 114) (.tmp 116) (.const (.bool false)), none⟩,
    ⟨some 118, .move (.tmp 117), none⟩,
    ⟨some 119, .move (.tmp 17), some (118, true)⟩,
    ⟨some 120, .binOp .eql 23 (.tmp 119) (.const (.int .i64 0)) 23, some (118, true)⟩,
    ⟨some 121, .pick (.tmp 118) (.tmp 120) (.const (.bool false)), none⟩,
    ⟨some 122, .move (.tmp 121), none⟩,
    ⟨some 123, .move (.tmp 19), some (122, true)⟩,
    ⟨some 124, .binOp .eql 23 (.tmp 123) (.const (.int .i64 0)) 23, some (122, true)⟩,
    ⟨some 125, .pick (.tmp 122) (.tmp 124) (.const (.bool false)), none⟩,
    ⟨some 126, .move (.tmp 125), none⟩,
    ⟨some 127, .move (.tmp 10), some (126, true)⟩,
    ⟨some 128, .call { callee := .builtin .len, args := #[.tmp 127], argTypes := #[22] }, some (126, true)⟩,
    ⟨some 129, .binOp .eql 3 (.tmp 128) (.const (.int .i64 2)) 3, some (126, true)⟩,
    ⟨some 130, .pick (.tmp 126) (.tmp 129) (.const (.bool false)), none⟩,
    ⟨some 131, .move (.tmp 130), none⟩,
    ⟨some 132, .move (.tmp 12), some (131, true)⟩,
    ⟨some 133, .call { callee := .builtin .len, args := #[.tmp 132], argTypes := #[22] }, some (131, true)⟩,
    ⟨some 134, .binOp .eql 3 (.tmp 133) (.const (.int .i64 5)) 3, some (131, true)⟩,
    ⟨some 135, .pick (.tmp 131) (.tmp 134) (.const (.bool false)), none⟩,
    ⟨some 136, .move (.tmp 135), none⟩,
    ⟨some 137, .load 44 (.tmp 14), some (136, true)⟩,
    ⟨some 138, .build 44 #[(0, .const (.int .i64 5)), (1, .const (.int .i64 2))], some (136, true)⟩,
    ⟨some 139, .binOp .eql 44 (.tmp 137) (.tmp 138) 44, some (136, true)⟩,
    ⟨some 140, .pick (.tmp 136) (.tmp 139) (.const (.bool false)), none⟩,
    ⟨some 141, .move (.tmp 140), none⟩,
    ⟨some 142, .move (.tmp 16), some (141, true)⟩,
    ⟨some 143, .binOp .eql 3 (.tmp 142) (.const (.int .i64 3)) 3, some (141, true)⟩,
    ⟨some 144, .pick (.tmp 141) (.tmp 143) (.const (.bool false)), none⟩,
    ⟨some 145, .move (.tmp 144), none⟩,
    ⟨some 146, .move (.tmp 18), some (145, true)⟩,
    ⟨some 147, .binOp .eql 3 (.tmp 146) (.const (.int .i64 3)) 3, some (145, true)⟩,
    ⟨some 148, .pick (.tmp 145) (.tmp 147) (.const (.bool false)), none⟩,
    ⟨some 149, .move (.tmp 148), none⟩,
    ⟨some 150, .call { callee := .value (.func 21), args := #[], argTypes := #[] }, some (149, true)⟩,
    ⟨some 151, .pick (.tmp 149) (.tmp 150) (.const (.bool false)), none⟩,
    ⟨some 2, .assign (.tmp 151), none⟩]
def s16 : SCode := (.seq q16_0 (.seq q16_1 (.seq (.seq q16_2 (.block 0 (.loop l16_0))) (.seq (.seq q16_9 (.cond (.tmp 46) (.seq q16_10 .ret) .skip)) (.seq q16_11 (.seq (.seq q16_12 (.block 2 (.loop l16_1))) (.seq q16_19 (.seq q16_20 (.seq q16_21 (.seq q16_22 (.seq q16_23 (.seq q16_24 .ret))))))))))))
theorem s16_strip : Zu (Zv Tryd.f16) = s16 := by kernel_rfl
theorem s16_ok : Yi 152 (Zv Tryd.f16) = true := by kernel_rfl
end Go.Proofs.Tryd.Am

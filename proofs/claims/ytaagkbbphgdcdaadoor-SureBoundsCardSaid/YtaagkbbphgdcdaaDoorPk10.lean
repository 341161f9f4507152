/-
  sure: the library's sort of a short slice, with the comparison that puts the greatest first.
  sure: the library's sort of a short slice: what stands ahead of the insertion.
  sure: a base with one row more.
  sure: the least rank, as the program finds it.
  sure: the reference's rank.
  sure: Fit, by the program and by the reference.
  sure: codes against weights and ranks.
  Printed by gen.py: the code of some functions, without what no step looks at; held against the program's own by the kernel.
  sure: the law SureBounds.
-/
import Derived.Test.YtaagkbbphgdcdaaDoorPk6
import Derived.Test.YtaagkbbphgdcdaaDoorPk9
import Derived.Test.YtaagkbbphgdcdaaDoorPk7
import Derived.Test.YtaagkbbphgdcdaaDoorPk3
import Derived.Test.YtaagkbbphgdcdaaDoorProg
import Derived.KernelRfl
import Derived.Shelf.Abstract
set_option linter.all false
namespace Go.Proofs.Tryd.Am
open Go.Am Sr
set_option maxRecDepth 100000
set_option maxHeartbeats 1000000

def swL (L : List Nat) (j : Nat) : List Nat := (L.set j (L.getD (j - 1) 0)).set (j - 1) (L.getD j 0)
theorem swL_get {L : List Nat} {j : Nat} (h1 : 1 ≤ j) (h2 : j < L.length) (t : Nat) : (swL L j).getD t 0 = if t = j - 1 then L.getD j 0 else if t = j then L.getD (j - 1) 0 else L.getD t 0 := by
  rw [swL, getD_setN (by rw [List.length_set]; omega), getD_setN h2]
theorem swL_perm {L : List Nat} {j : Nat} (h1 : 1 ≤ j) (h2 : j < L.length) : (swL L j).Perm L := by
  have := Array.swap_perm (xs := L.toArray) (i := j) (j := j - 1) (by simpa using h2) (by simp; omega)
  rw [Array.perm_iff_toList_perm, Array.toList_swap] at this
  simpa [swL, List.getD, List.getElem?_eq_getElem h2, List.getElem?_eq_getElem (show j - 1 < L.length by omega)] using this

def SrtTo (L : List Nat) (i : Nat) : Prop := ∀ p q, p < q → q < i → L.getD q 0 ≤ L.getD p 0
def SrtBut (L : List Nat) (i j : Nat) : Prop := ∀ p q, p < q → q ≤ i → q ≠ j → L.getD q 0 ≤ L.getD p 0
theorem SrtBut.step {L : List Nat} {i j : Nat} (h : SrtBut L i j) (h1 : 1 ≤ j) (h2 : j < L.length) (hj : j ≤ i) (hlt : L.getD (j - 1) 0 < L.getD j 0) : SrtBut (swL L j) i (j - 1) := by
  intro p q hpq hq hne
  rw [swL_get h1 h2, swL_get h1 h2, if_neg hne]
  by_cases hqj : q = j
  · rw [if_pos hqj]
    by_cases hp : p = j - 1
    · rw [if_pos hp]; omega
    · rw [if_neg hp, if_neg (by omega)]
      exact h p (j - 1) (by omega) (by omega) (by omega)
  · rw [if_neg hqj]
    by_cases hp : p = j - 1
    · rw [if_pos hp]; exact h j q (by omega) hq hqj
    · rw [if_neg hp]
      by_cases hpj : p = j
      · rw [if_pos hpj]; exact h (j - 1) q (by omega) hq hqj
      · rw [if_neg hpj]; exact h p q hpq hq hqj
theorem SrtBut.done {L : List Nat} {i j : Nat} (h : SrtBut L i j) (hj : j = 0 ∨ L.getD j 0 ≤ L.getD (j - 1) 0) : SrtTo L (i + 1) := by
  intro p q hpq hq
  by_cases hqj : q = j
  · subst hqj
    rcases hj with hj | hj
    · omega
    · by_cases hp : p = q - 1
      · subst hp; exact hj
      · exact Nat.le_trans hj (h p (q - 1) (by omega) (by omega) (by omega))
  · exact h p q hpq (by omega) hqj
theorem SrtTo.pw {L : List Nat} (h : SrtTo L L.length) : L.Pairwise fun a b => b ≤ a := by
  rw [List.pairwise_iff_getElem]
  intro i j hi hj hij
  have := h i j hij hj
  rw [List.getD, List.getD, List.getElem?_eq_getElem hi, List.getElem?_eq_getElem hj] at this
  exact this

theorem s96_callW [Tabs Tryd.prog] {args : List Value} {h : Zh} {Q : Value → Zh → Prop} (hsz : args.length ≤ 8) (hk : AWS Tryd.prog 8 s96 (Zr Tryd.prog [.tmp 4] Q) (Zp 0 args) h) : ACall Tryd.prog 96 args h Q :=
  Xb Tryd.func96 rfl (enters_of Tryd.func96 (by kernel_rfl) rfl) rfl rfl (by decide) s96_strip s96_ok hsz hk
theorem cmp_call [Tabs prog] {h : Zh} {x y : Nat} (hx : x < 4611686018427387904) (hy : y < 4611686018427387904) : APure prog 96 [Zd x, Zd y] h (Zd ((y : Int) - (x : Int))) := by
  refine s96_callW (by simp) ?_
  refine Zm ?_
  simp (maxSteps := 2000000) only [s96, ↓Za, ↓Zi, ↓Zu, ↓Zb, ↓Zc, vup, cond_true, cond_false, aop, Zf, Zp, ev, sput, Ze, Zw, Zy, Nat.reduceBEq, Nat.reduceAdd, Zr, Xg, tup, subV_id (show -9223372036854775808 ≤ (y : Int) - (x : Int) by omega) (show (y : Int) - (x : Int) < 9223372036854775808 by omega)]

abbrev ov (b n m : Nat) : Value := .slice (some ⟨b, 0, some 0⟩) n (n + m)
abbrev cmpV : Value := .func (.func 96) #[] #[]
theorem ov_own {h : Zh} {b n : Nat} {L : List Nat} {ys : List Int} (hb : b < h.length) (hn : L.length = n) : OwnSl 3 (h.set b (.ints (iL L ++ ys) 3 false)) (ov b n ys.length) (iL L) :=
  .inr ⟨b, ys, by rw [iL_len, hn], Wh hb _⟩
theorem elemP_ov (b n m i : Nat) : Wc (ov b n m) 1 i = .pointer (some ⟨b, i, none⟩) := by simp [Wc]
theorem ov_load {h : Zh} {b n : Nat} {L : List Nat} {ys : List Int} {i : Nat} (hb : b < h.length) (hn : L.length = n) (hi : i < n) {K : Value → Prop} :
    Xj prog (h.set b (.ints (iL L ++ ys) 3 false)) 3 (.pointer (some ⟨b, i, none⟩)) K = K (Zd (L.getD i 0 : Nat)) := by
  have := (ov_own (h := h) (b := b) (n := n) (L := L) (ys := ys) hb hn).int.load Yu (i := i) (by rw [iL_len]; omega) K
  rw [elemP_ov, iL_get] at this
  exact this
theorem ov_store {h : Zh} {b : Nat} {L : List Nat} {ys : List Int} {i x : Nat} (hb : b < h.length) (hi : i < L.length) {K : Zh → Prop} :
    Xi prog (h.set b (.ints (iL L ++ ys) 3 false)) 3 (.pointer (some ⟨b, i, none⟩)) (Zd (x : Nat)) K = K (h.set b (.ints (iL (L.set i x) ++ ys) 3 false)) := by
  rw [storeBI (Wh hb _) Yu (by rw [List.length_append, iL_len]; omega), List.set_set, List.set_append_left _ _ (by rw [iL_len]; exact hi), iL_set]

theorem s102_callW [Tabs Tryd.prog] {args : List Value} {h : Zh} {Q : Value → Zh → Prop} (hsz : args.length ≤ 53) (hk : AWS Tryd.prog 53 s102 (Zr Tryd.prog [] Q) (Zp 0 args) h) : ACall Tryd.prog 102 args h Q :=
  Xb Tryd.func102 rfl (enters_of Tryd.func102 (by kernel_rfl) rfl) rfl rfl (by decide) s102_strip s102_ok hsz hk
theorem isort_call [Tabs prog] {h : Zh} {b : Nat} {L0 : List Nat} {ys : List Int} (hb : h[b]? = some (.ints (iL L0 ++ ys) 3 false)) (hl : L0.length ≤ 12) (hx : ∀ x ∈ L0, x < 4611686018427387904) :
    ACall prog 102 [ov b L0.length ys.length, .int .i64 0, Zd L0.length, cmpV] h fun _ h' => ∃ L : List Nat, L.Perm L0 ∧ L.Pairwise (fun a b => b ≤ a) ∧ h' = h.set b (.ints (iL L ++ ys) 3 false) := by
  have hlt := Yp hb
  have h0 : h = h.set b (.ints (iL L0 ++ ys) 3 false) := by
    apply List.ext_getElem?
    intro i
    by_cases hi : b = i
    · subst hi; rw [Wh hlt, hb]
    · rw [List.getElem?_set_ne hi]
  obtain ⟨n, hn⟩ : ∃ n, L0.length = n := ⟨_, rfl⟩
  rw [hn] at hl ⊢
  have hrange : ∀ {L : List Nat}, L.Perm L0 → ∀ i, L.getD i 0 < 4611686018427387904 := fun {L} hp i => by
    by_cases hi : i < L.length
    · rw [List.getD, List.getElem?_eq_getElem hi]; exact hx _ (hp.mem_iff.1 (List.getElem_mem hi))
    · rw [List.getD, List.getElem?_eq_none (by omega)]; decide
  refine s102_callW (by simp) ?_
  simp only [s102]
  have e01 : addV .i64 0 1 = 1 := rfl
  refine Zg fun N1 hN1 => ?_
  simp (maxSteps := 2000000) only [↓Za, ↓Zb, ↓Zc, vup, cond_true, cond_false, aop, Zf, Zp, ev, sput, Ze, Zw, Zy, Nat.reduceBEq, Nat.reduceAdd, e01]
  refine hN1 [(0, ov b n ys.length), (1, .int .i64 0), (2, Zd n), (3, cmpV), (8, .int .i64 1)] _ _ ?_ (by simp (maxSteps := 2000000) only [vup, cond_true, cond_false, Nat.reduceBEq])
  clear hN1
  try clear N1
  refine Zv ?_
  refine Zn fun Q hQ => ?_
  refine Yx (γ := Nat × List Nat) (fun s => 1 ≤ s.1 ∧ (s.1 ≤ n ∨ s.1 = 1) ∧ s.2.Perm L0 ∧ SrtTo s.2 s.1)
    (fun s => ([(0, ov b n ys.length), (1, .int .i64 0), (2, Zd n), (3, cmpV), (8, Zd s.1)], h.set b (.ints (iL s.2 ++ ys) 3 false))) (fun s => n - s.1) (1, L0) ⟨Nat.le_refl _, .inr rfl, .refl _, fun p q _ _ => by omega⟩ (by simp (maxSteps := 2000000) only [vup, cond_true, cond_false, Nat.reduceBEq, Int.natCast_one]) h0 ?_
  rintro ⟨i, L⟩ ⟨hi1, hi, hp, hs⟩
  simp only at hi1 hi hp hs
  have hLn : L.length = n := hp.length_eq.trans hn
  refine Zn fun Q2 hQ2 => ?_
  simp only [l102_1]
  by_cases hin : (i : Int) < n
  · have hi' : i < n := by omega
    refine Zg fun N2 hN2 => ?_
    simp (maxSteps := 2000000) only [↓Za, ↓Zk, ↓Zi, ↓Zb, ↓Zc, ↓vdn, vup, cond_true, cond_false, aop, Zf, ev, sput, Ze, Zw, Zy, Nat.reduceBEq, hin]
    refine hN2 [(0, ov b n ys.length), (1, .int .i64 0), (2, Zd n), (3, cmpV), (8, Zd i)] _ _ ?_ (by simp (maxSteps := 2000000) only [vup, cond_true, cond_false, Nat.reduceBEq])
    clear hN2
    try clear N2
    refine Zo fun M hM => ?_
    refine Zv ?_
    refine Zg fun N3 hN3 => ?_
    simp (maxSteps := 2000000) only [↓Za, ↓Zb, ↓Zc, vup, cond_true, cond_false, aop, Zf, ev, sput, Ze, Nat.reduceBEq]
    refine hN3 [(0, ov b n ys.length), (1, .int .i64 0), (2, Zd n), (3, cmpV), (8, Zd i), (9, Zd i)] _ _ ?_ (by simp (maxSteps := 2000000) only [vup, cond_true, cond_false, Nat.reduceBEq])
    clear hN3
    try clear N3
    refine Zv ?_
    refine Zn fun Q3 hQ3 => ?_
    refine Yx (γ := Nat × List Nat) (fun s => s.1 ≤ i ∧ s.2.Perm L0 ∧ SrtBut s.2 i s.1)
      (fun s => ([(0, ov b n ys.length), (1, .int .i64 0), (2, Zd n), (3, cmpV), (8, Zd i), (9, Zd s.1)], h.set b (.ints (iL s.2 ++ ys) 3 false))) (fun s => s.1) (i, L) ⟨Nat.le_refl _, hp, fun p q h1 h2 h3 => hs p q h1 (by omega)⟩ (by simp (maxSteps := 2000000) only [vup, cond_true, cond_false, Nat.reduceBEq]) rfl ?_
    clear hp hs hLn
    rintro ⟨j, L⟩ ⟨hj, hp, hs⟩
    simp only at hj hp hs
    have hLn : L.length = n := hp.length_eq.trans hn
    have own := ov_own (h := h) (b := b) (n := n) (L := L) (ys := ys) hlt hLn
    refine Zn fun Q4 hQ4 => ?_
    simp only [l102_0]
    have fin : (j = 0 ∨ L.getD j 0 ≤ L.getD (j - 1) 0) → ∀ e, ELe e [(0, ov b n ys.length), (1, .int .i64 0), (2, Zd n), (3, cmpV), (8, Zd i)] → M e (h.set b (.ints (iL L ++ ys) 3 false)) := by
      intro hd e he
      refine hM [(0, ov b n ys.length), (1, .int .i64 0), (2, Zd n), (3, cmpV), (8, Zd i)] _ _ ?_ he
      refine Zm ?_
      simp (maxSteps := 2000000) only [↓Za, ↓Zb, ↓Zc, vup, cond_true, cond_false, aop, ev, sput, Ze, Zw, Zy, Nat.reduceBEq, Wy (show i < 9223372036854775807 by omega)]
      exact hQ2 _ _ _ ⟨(i + 1, L), ⟨by simp only; omega, .inl (by simp only; omega), hp, hs.done hd⟩, by simp only; omega, by simp (maxSteps := 2000000) only [vup, cond_true, cond_false, Nat.reduceBEq], rfl⟩
    by_cases hj0 : j = 0
    · subst hj0
      refine Zg fun N4 hN4 => ?_
      simp (maxSteps := 2000000) only [↓Zi]
      refine Xm [(14, 1)] (by kernel_rfl) (by kernel_rfl) (by kernel_rfl) (by kernel_rfl) ?_
      simp (maxSteps := 2000000) only [↓Ye, ↓Yl, ↓vdn, vup, cond_true, cond_false, aop, Zf, ev, sput, Ze, Zw, Zy, pickK, Nat.reduceBEq, Int.natCast_zero, Int.lt_irrefl]
      refine hQ4 _ _ _ (hQ3 _ _ _ ?_)
      simp (maxSteps := 2000000) only [Zf, Zl, if_true]
      exact fin (.inl rfl) _ (by simp (maxSteps := 2000000) only [vup, cond_true, cond_false, Nat.reduceBEq])
    · have hjp : (0 : Int) < (j : Int) := by omega
      have hjn : j < (iL L).length := by rw [iL_len]; omega
      have hj1n : j - 1 < (iL L).length := by omega
      have c1 := cmp_call (h := h.set b (.ints (iL L ++ ys) 3 false)) (hrange hp j) (hrange hp (j - 1))
      have hsub := subN1 (show 1 ≤ j by omega) (show j < 9223372036854775808 by omega)
      by_cases hlt2 : L.getD (j - 1) 0 < L.getD j 0
      · have hneg : ((L.getD (j - 1) 0 : Nat) : Int) - ((L.getD j 0 : Nat) : Int) < 0 := by omega
        refine Zg fun N5 hN5 => ?_
        simp (maxSteps := 2000000) only [↓Zi]
        refine Xm [(14, 1)] (by kernel_rfl) (by kernel_rfl) (by kernel_rfl) (by kernel_rfl) ?_
        simp (maxSteps := 2000000) only [↓Yl, ↓vdn, vup, List.map_cons, List.map_nil, cond_true, cond_false, aop, Zf, ev, sput, Ze, Zw, Zy, pickK, Nat.reduceBEq, Nat.reduceAdd, tyf, hjp, hsub, own.int.idx Xh Yw hjn, own.int.load Yu hjn, own.int.idx Xh Yw hj1n, own.int.load Yu hj1n, iL_get, Ym, List.nil_append, List.append_nil]
        refine ⟨_, _, c1, rfl, ?_⟩
        simp (maxSteps := 2000000) only [↓Zk, ↓vdn, vup, cond_true, cond_false, Zf, ev, Nat.reduceBEq, hneg]
        refine hN5 [(0, ov b n ys.length), (1, .int .i64 0), (2, Zd n), (3, cmpV), (8, Zd i), (9, Zd j)] _ _ ?_ (by simp (maxSteps := 2000000) only [vup, cond_true, cond_false, Nat.reduceBEq])
        clear hN5
        try clear N5
        refine Zm ?_
        simp (maxSteps := 2000000) only [↓Zi, ↓Yc]
        refine Xm [] (by kernel_rfl) (by kernel_rfl) (by kernel_rfl) (by kernel_rfl) ?_
        have hjL : j < L.length := by omega
        simp (maxSteps := 2000000) only [↓Za, ↓Zb, ↓Zc, ↓Yl, ↓vdn, vup, cond_true, cond_false, aop, Zf, Zl, ev, sput, Ze, Zw, Zy, Nat.reduceBEq, Nat.reduceAdd, hsub, own.int.idx Xh Yw hjn, own.int.idx Xh Yw hj1n, elemP_ov, ov_load hlt hLn (show j < n by omega), ov_load hlt hLn (show j - 1 < n by omega), ov_store hlt hjL, ov_store hlt (show j - 1 < (L.set j (L.getD (j - 1) 0)).length by rw [List.length_set]; omega)]
        refine hQ4 _ _ _ ⟨(j - 1, swL L j), ⟨by simp only; omega, (swL_perm (by omega) hjL).trans hp, hs.step (by omega) hjL hj hlt2⟩, by simp only; omega, by simp (maxSteps := 2000000) only [vup, cond_true, cond_false, Nat.reduceBEq], rfl⟩
      · have hneg : ¬ ((L.getD (j - 1) 0 : Nat) : Int) - ((L.getD j 0 : Nat) : Int) < 0 := by omega
        refine Zg fun N6 hN6 => ?_
        simp (maxSteps := 2000000) only [↓Zi]
        refine Xm [(14, 1)] (by kernel_rfl) (by kernel_rfl) (by kernel_rfl) (by kernel_rfl) ?_
        simp (maxSteps := 2000000) only [↓Yl, ↓vdn, vup, List.map_cons, List.map_nil, cond_true, cond_false, aop, Zf, ev, sput, Ze, Zw, Zy, pickK, Nat.reduceBEq, Nat.reduceAdd, tyf, hjp, hsub, own.int.idx Xh Yw hjn, own.int.load Yu hjn, own.int.idx Xh Yw hj1n, own.int.load Yu hj1n, iL_get, Ym, List.nil_append, List.append_nil]
        refine ⟨_, _, c1, rfl, ?_⟩
        simp (maxSteps := 2000000) only [↓Ye, ↓vdn, vup, cond_true, cond_false, Zf, ev, Nat.reduceBEq, hneg]
        refine hQ4 _ _ _ (hQ3 _ _ _ ?_)
        simp (maxSteps := 2000000) only [Zf, Zl, if_true]
        exact fin (.inr (by omega)) _ (by simp (maxSteps := 2000000) only [vup, cond_true, cond_false, Nat.reduceBEq])
  · refine Zg fun M hM => ?_
    simp (maxSteps := 2000000) only [↓Za, ↓Zi, ↓Ye, ↓Zb, ↓Zc, ↓vdn, vup, cond_true, cond_false, aop, Zf, ev, sput, Ze, Zw, Zy, Nat.reduceBEq, hin]
    refine hQ2 _ _ _ (hQ _ _ _ ?_)
    simp (maxSteps := 2000000) only [Zl, Zr, Xg, if_true]
    refine ⟨L, hp, ?_, rfl⟩
    refine SrtTo.pw ?_
    rw [hLn]
    intro p q hpq hq
    exact hs p q hpq (by omega)
end Go.Proofs.Tryd.Am

namespace Go.Proofs.Tryd.Am
open Go.Am Sr
set_option maxRecDepth 100000
set_option maxHeartbeats 1000000

theorem wrap8 {x : Nat} (h : x < 256) : IntKind.u8.wrap (x : Int) = (x : Int) := by
  simp [IntKind.wrap, IntKind.signed, IntKind.bits]; omega
theorem s111_callW [Tabs Tryd.prog] {args : List Value} {h : Zh} {Q : Value → Zh → Prop} (hsz : args.length ≤ 25) (hk : AWS Tryd.prog 25 s111 (Zr Tryd.prog [.tmp 2] Q) (Zp 0 args) h) : ACall Tryd.prog 111 args h Q :=
  Xb Tryd.func111 rfl (enters_of Tryd.func111 (by kernel_rfl) rfl) rfl rfl (by decide) s111_strip s111_ok hsz hk
theorem len64_call [Tabs prog] {h : Zh} {x : Nat} (hx : x < 256) : ACall prog 111 [vu x] h fun r h' => (∃ z, r = .int .i64 z) ∧ h' = h := by
  obtain ⟨s, hs, hq⟩ : ∃ s : ByteArray, s.size = 256 ∧ q111_10 = .region [⟨some 19, .move (.tmp 2), none⟩, ⟨some 20, .move (.tmp 0), none⟩, ⟨some 21, .convert 63 5 (.tmp 20), none⟩, ⟨some 22, .index 9 (.const (.string s)) (.tmp 21), none⟩,
      ⟨some 23, .convert 5 3 (.tmp 22), none⟩, ⟨some 24, .binOp .add 3 (.tmp 19) (.tmp 23) 3, none⟩, ⟨some 2, .assign (.tmp 24), none⟩] := by
    refine ⟨_, ?_, rfl⟩
    kernel_rfl
  have hidx : s[x]? = some (s[x]'(by omega)) := getElem?_pos s x (by omega)
  have hnn : ∀ i : Nat, (0 : Int) ≤ (i : Int) := Int.natCast_nonneg
  have n1 : ¬ (4294967296 : Int) ≤ (x : Int) := by omega
  have n2 : ¬ (65536 : Int) ≤ (x : Int) := by omega
  have n3 : ¬ (256 : Int) ≤ (x : Int) := by omega
  refine s111_callW (by simp) ?_
  simp only [s111]
  refine Zg fun N1 hN1 => ?_
  simp (maxSteps := 2000000) only [↓Za, ↓Zb, ↓Zc, vup, cond_false, aop, Zf, Zp, ev, sput, Ze, Nat.reduceBEq]
  refine hN1 [(0, vu x), (2, .int .i64 0)] _ _ ?_ (by simp (maxSteps := 2000000) only [vup, cond_true, cond_false, Nat.reduceBEq])
  clear hN1
  try clear N1
  refine Zg fun N2 hN2 => ?_
  simp (maxSteps := 2000000) only [↓Za, ↓Zk, ↓Zi, ↓Zb, ↓Zc, ↓vdn, vup, cond_true, cond_false, aop, Zf, ev, sput, Ze, Zw, Zy, Nat.reduceBEq, n1]
  refine hN2 [(0, vu x), (2, .int .i64 0)] _ _ ?_ (by simp (maxSteps := 2000000) only [vup, cond_true, cond_false, Nat.reduceBEq])
  clear hN2
  try clear N2
  refine Zg fun N3 hN3 => ?_
  simp (maxSteps := 2000000) only [↓Za, ↓Zk, ↓Zi, ↓Zb, ↓Zc, ↓vdn, vup, cond_true, cond_false, aop, Zf, ev, sput, Ze, Zw, Zy, Nat.reduceBEq, n2]
  refine hN3 [(0, vu x), (2, .int .i64 0)] _ _ ?_ (by simp (maxSteps := 2000000) only [vup, cond_true, cond_false, Nat.reduceBEq])
  clear hN3
  try clear N3
  refine Zg fun N4 hN4 => ?_
  simp (maxSteps := 2000000) only [↓Za, ↓Zk, ↓Zi, ↓Zb, ↓Zc, ↓vdn, vup, cond_true, cond_false, aop, Zf, ev, sput, Ze, Zw, Zy, Nat.reduceBEq, n3]
  refine hN4 [(0, vu x), (2, .int .i64 0)] _ _ ?_ (by simp (maxSteps := 2000000) only [vup, cond_true, cond_false, Nat.reduceBEq])
  clear hN4
  try clear N4
  rw [hq]
  refine Zm ?_
  simp (maxSteps := 2000000) only [↓Za, ↓Zi, ↓Zu, ↓Zb, ↓Zc, vup, cond_true, cond_false, aop, Zf, ev, sput, Ze, Zw, Zy, Nat.reduceBEq, Zr, Xg, tup, tyf, convK, wrap8 hx, indexK, hnn, Int.toNat_natCast, hidx]
  first | exact ⟨⟨_, rfl⟩, rfl⟩ | exact ⟨_, rfl⟩
theorem s101_callW [Tabs Tryd.prog] {args : List Value} {h : Zh} {Q : Value → Zh → Prop} (hsz : args.length ≤ 8) (hk : AWS Tryd.prog 8 s101 (Zr Tryd.prog [.tmp 2] Q) (Zp 0 args) h) : ACall Tryd.prog 101 args h Q :=
  Xb Tryd.func101 rfl (enters_of Tryd.func101 (by kernel_rfl) rfl) rfl rfl (by decide) s101_strip s101_ok hsz hk
theorem len_call [Tabs prog] {h : Zh} {x : Nat} (hx : x < 256) : ACall prog 101 [vu x] h fun r h' => (∃ z, r = .int .i64 z) ∧ h' = h := by
  refine s101_callW (by simp) ?_
  simp only [s101]
  refine Zg fun N5 hN5 => ?_
  simp (maxSteps := 2000000) only [↓Za, ↓Zb, ↓Zc, vup, cond_false, aop, Zf, Zp, ev, sput, Ze, Nat.reduceBEq]
  refine hN5 [(0, vu x), (2, .int .i64 0)] _ _ ?_ (by simp (maxSteps := 2000000) only [vup, cond_true, cond_false, Nat.reduceBEq])
  clear hN5
  try clear N5
  refine Zo fun N6 hN6 => ?_
  refine Yo rfl ?_
  refine Zm ?_
  simp (maxSteps := 2000000) only [↓Zk, Zf]
  refine hN6 [(0, vu x), (2, .int .i64 0)] _ _ ?_ (by simp (maxSteps := 2000000) only [vup, cond_true, cond_false, Nat.reduceBEq])
  clear hN6
  try clear N6
  refine Zm ?_
  simp (maxSteps := 2000000) only [↓Za, ↓Zi, ↓Zu, ↓Zb, ↓Zc, vup, List.map_cons, List.map_nil, cond_true, cond_false, aop, Zf, ev, sput, Ze, Nat.reduceBEq, Zr, Xg, tup, Ym, List.nil_append, List.append_nil]
  refine (len64_call hx).mono ?_
  rintro _ h ⟨⟨z, rfl⟩, rfl⟩
  first | exact ⟨⟨z, rfl⟩, rfl⟩ | exact ⟨z, rfl⟩

theorem s100_callW [Tabs Tryd.prog] {args : List Value} {h : Zh} {Q : Value → Zh → Prop} (hsz : args.length ≤ 148) (hk : AWS Tryd.prog 148 s100 (Zr Tryd.prog [] Q) (Zp 0 args) h) : ACall Tryd.prog 100 args h Q :=
  Xb Tryd.func100 rfl (enters_of Tryd.func100 (by kernel_rfl) rfl) rfl rfl (by decide) s100_strip s100_ok hsz hk
theorem pdq_call [Tabs prog] {h : Zh} {b : Nat} {L0 : List Nat} {ys : List Int} {z : Int} (hb : h[b]? = some (.ints (iL L0 ++ ys) 3 false)) (hl : L0.length ≤ 12) (hx : ∀ x ∈ L0, x < 4611686018427387904) :
    ACall prog 100 [ov b L0.length ys.length, .int .i64 0, Zd L0.length, .int .i64 z, cmpV] h fun _ h' => ∃ L : List Nat, L.Perm L0 ∧ L.Pairwise (fun a b => b ≤ a) ∧ h' = h.set b (.ints (iL L ++ ys) 3 false) := by
  have hsub : subV .i64 (L0.length : Int) 0 = (L0.length : Int) := by rw [subV_id (by omega) (by omega)]; omega
  have hle : (L0.length : Int) ≤ 12 := by omega
  refine s100_callW (by simp) ?_
  simp only [s100]
  refine Zg fun N7 hN7 => ?_
  simp (maxSteps := 2000000) only [↓Za, ↓Zb, ↓Zc, vup, cond_false, aop, Zf, Zp, ev, sput, Ze, Nat.reduceBEq, Nat.reduceAdd]
  refine hN7 [(0, ov b L0.length ys.length), (1, .int .i64 0), (2, Zd L0.length), (3, .int .i64 z), (4, cmpV), (10, .bool true)] _ _ ?_ (by simp (maxSteps := 2000000) only [vup, cond_true, cond_false, Nat.reduceBEq])
  clear hN7
  try clear N7
  refine Zg fun N8 hN8 => ?_
  simp (maxSteps := 2000000) only [↓Za, ↓Zb, ↓Zc, vup, cond_false, aop, Zf, ev, sput, Ze, Nat.reduceBEq]
  refine hN8 [(0, ov b L0.length ys.length), (1, .int .i64 0), (2, Zd L0.length), (3, .int .i64 z), (4, cmpV), (10, .bool true), (11, .bool true)] _ _ ?_ (by simp (maxSteps := 2000000) only [vup, cond_true, cond_false, Nat.reduceBEq])
  clear hN8
  try clear N8
  refine Zv ?_
  refine Zn fun Q hQ => ?_
  refine Yx (γ := Unit) (fun _ => True) (fun _ => ([(0, ov b L0.length ys.length), (1, .int .i64 0), (2, Zd L0.length), (3, .int .i64 z), (4, cmpV), (10, .bool true), (11, .bool true)], h)) (fun _ => 0) () trivial (by simp (maxSteps := 2000000) only [vup, cond_true, cond_false, Nat.reduceBEq]) rfl ?_
  rintro _ _
  refine Zn fun Q2 hQ2 => ?_
  simp only [l100_0]
  refine Zv ?_
  refine Zg fun N9 hN9 => ?_
  simp (maxSteps := 2000000) only [↓Za, ↓Zb, ↓Zc, vup, cond_true, cond_false, aop, Zf, ev, sput, Ze, Zw, Zy, Nat.reduceBEq, hsub]
  refine hN9 [(0, ov b L0.length ys.length), (1, .int .i64 0), (2, Zd L0.length), (3, .int .i64 z), (4, cmpV), (10, .bool true), (11, .bool true), (12, Zd L0.length)] _ _ ?_ (by simp (maxSteps := 2000000) only [vup, cond_true, cond_false, Nat.reduceBEq])
  clear hN9
  try clear N9
  refine Zg fun N10 hN10 => ?_
  simp (maxSteps := 2000000) only [↓Za, ↓Zi, ↓Zu, ↓Zb, ↓Zc, ↓vdn, vup, List.map_cons, List.map_nil, cond_true, cond_false, aop, Zf, Zl, ev, sput, Ze, Zw, Zy, Nat.reduceBEq, Ym, List.nil_append, List.append_nil, hle]
  refine (isort_call hb hl hx).mono ?_
  rintro r h' hr
  refine hQ2 _ _ _ (hQ _ _ _ ?_)
  try simp (maxSteps := 2000000) only [Zl, Zr, Xg]
  exact hr
theorem s95_callW [Tabs Tryd.prog] {args : List Value} {h : Zh} {Q : Value → Zh → Prop} (hsz : args.length ≤ 14) (hk : AWS Tryd.prog 14 s95 (Zr Tryd.prog [] Q) (Zp 0 args) h) : ACall Tryd.prog 95 args h Q :=
  Xb Tryd.func95 rfl (enters_of Tryd.func95 (by kernel_rfl) rfl) rfl rfl (by decide) s95_strip s95_ok hsz hk
theorem sort_call [Tabs prog] {h : Zh} {b : Nat} {L0 : List Nat} {ys : List Int} (hb : h[b]? = some (.ints (iL L0 ++ ys) 3 false)) (hl : L0.length ≤ 12) (hx : ∀ x ∈ L0, x < 4611686018427387904) :
    ACall prog 95 [ov b L0.length ys.length, cmpV] h fun _ h' => ∃ L : List Nat, L.Perm L0 ∧ L.Pairwise (fun a b => b ≤ a) ∧ h' = h.set b (.ints (iL L ++ ys) 3 false) := by
  have hw : IntKind.u64.wrap (L0.length : Int) = (L0.length : Int) := wrapU_id (by omega) (by omega)
  refine s95_callW (by simp) ?_
  simp only [s95]
  refine Zg fun N11 hN11 => ?_
  simp (maxSteps := 2000000) only [↓Za, ↓Zb, ↓Zc, vup, List.map_cons, List.map_nil, cond_true, cond_false, aop, Zf, Zp, ev, sput, Ze, Zj, Nat.reduceBEq, Nat.reduceAdd, tyf, lenK]
  refine hN11 [(0, ov b L0.length ys.length), (1, cmpV), (4, Zd L0.length)] _ _ ?_ (by simp (maxSteps := 2000000) only [vup, cond_true, cond_false, Nat.reduceBEq])
  clear hN11
  try clear N11
  refine Zm ?_
  simp (maxSteps := 2000000) only [↓Za, ↓Zb, ↓Zc, vup, List.map_cons, List.map_nil, cond_true, cond_false, aop, ev, sput, Ze, Nat.reduceBEq, Zr, Xg, tyf, Ym, List.nil_append, List.append_nil, convK, hw]
  refine (len_call (show L0.length < 256 by omega)).mono ?_
  rintro _ h ⟨⟨z, rfl⟩, rfl⟩
  refine (pdq_call hb hl hx).mono ?_
  rintro r h' hr
  exact hr
end Go.Proofs.Tryd.Am

namespace Go.Proofs.Tryd.Am
open Go.Am Sr
set_option maxRecDepth 100000
set_option maxHeartbeats 1000000

theorem mnI' (a b : Nat) : (if ((b : Nat) : Int) < ((a : Nat) : Int) then ((b : Nat) : Int) else ((a : Nat) : Int)) = ((Rn.mn a b : Nat) : Int) := mnI a b
def SpSl (h : Zh) (v : Value) (B : List Nat) : Prop := (v = .slice none 0 0 ∧ B = []) ∨ (B ≠ [] ∧ IntSl h v (iL B))
theorem SpSl.int {h : Zh} {v : Value} {B : List Nat} (hv : SpSl h v B) : IntSl h v (iL B) := by
  rcases hv with ⟨rfl, rfl⟩ | ⟨_, h⟩
  · exact .inl ⟨rfl, rfl⟩
  · exact h
theorem SpSl.ext {h h' : Zh} {v : Value} {B : List Nat} (hv : SpSl h v B) (hE : Ext (fun _ => False) h h') : SpSl h' v B := hv.imp id fun h => ⟨h.1, Xl h.2 hE⟩
theorem clone_span [Tabs prog] {h : Zh} {v : Value} {B : List Nat} (hv : SpSl h v B) (hl : B.length < 1099511627776) : ACall prog 26 [v] h fun r h' => RSI h h' r (iL B) := by
  rcases hv with ⟨rfl, rfl⟩ | ⟨hne, hv⟩
  · refine s26_call (by simp) ?_
    simp (maxSteps := 2000000) only [s26, ↓Za, ↓Zi, ↓Zu, ↓Zb, ↓Zc, ↓vdn, vup, List.map_nil, cond_true, cond_false, aop, Zf, Zp, ev, sput, Ze, Zw, Nat.reduceBEq, Zr, Xg, tup, tyf, Option.isSome_some]
    exact RSI.nil h
  · exact clone_rsi hv (by simpa [iL] using hne) (by rw [iL_len]; exact hl)
theorem bs_len {n : Nat} {B : List Nat} (hB : Rn.Bs B) (hl : ∀ x ∈ B, x < 2 ^ n) : B.length ≤ n := by
  have h1 := Rn.cnt_ind B hl hB.ind
  have h2 : Rn.cnt n B ≤ 2 ^ n := by
    have := List.countP_le_length (p := Rn.S B) (l := List.range (2 ^ n))
    rw [List.length_range] at this; exact this
  rw [h1] at h2
  exact (Nat.pow_le_pow_iff_right (by decide)).1 h2
theorem red_take {B : List Nat} {r j : Nat} (hj : j < B.length) : Rn.red (B.take (j + 1)) r = Rn.mn (Rn.red (B.take j) r) (Rn.red (B.take j) r ^^^ B.getD j 0) := by
  rw [List.take_succ_eq_append_getElem hj, Rn.red, List.foldl_append, List.getD, List.getElem?_eq_getElem hj]; rfl
theorem red_take_lt {n : Nat} {B : List Nat} {r : Nat} (hB : ∀ b ∈ B, b < 2 ^ n ∧ b ≠ 0) (hr : r < 2 ^ n) (j : Nat) : Rn.red (B.take j) r < 2 ^ n :=
  Rn.red_lt (fun b hb => (hB b (List.take_subset _ _ hb)).1) (fun b hb => (hB b (List.take_subset _ _ hb)).2) hr
theorem getD_mem {B : List Nat} {j : Nat} (hj : j < B.length) : B.getD j 0 ∈ B := by
  rw [List.getD, List.getElem?_eq_getElem hj]; exact List.getElem_mem hj

theorem s75_callW [Tabs Tryd.prog] {args : List Value} {h : Zh} {Q : Value → Zh → Prop} (hsz : args.length ≤ 31) (hk : AWS Tryd.prog 31 s75 (Zr Tryd.prog [.tmp 4] Q) (Zp 0 args) h) : ACall Tryd.prog 75 args h Q :=
  Xb Tryd.func75 rfl (enters_of Tryd.func75 (by kernel_rfl) rfl) rfl rfl (by decide) s75_strip s75_ok hsz hk
theorem spanned_call [Tabs prog] {h : Zh} {v : Value} {B : List Nat} {n r : Nat} (hv : SpSl h v B) (hn : n ≤ 5) (hB : Rn.Bs B) (hl : ∀ b ∈ B, b < 2 ^ n) (hr : r < 2 ^ n) :
    ACall prog 75 [v, Zd r] h fun u h' => Ext (fun _ => False) h h' ∧ (u = v ∨ ∀ b, Yd u = some b → h.length ≤ b) ∧ ∃ C, SpSl h' u C ∧ Rn.Bs C ∧ (∀ x ∈ C, x < 2 ^ n) ∧ ∀ y, Rn.S C y = Rn.S (B ++ [r]) y := by
  have h32 : 2 ^ n ≤ 2 ^ 5 := Nat.pow_le_pow_right (by decide) hn
  have hl0 : ∀ b ∈ B, b < 2 ^ n ∧ b ≠ 0 := fun b hb => ⟨hl b hb, hB.2 b hb⟩
  have hBl := bs_len hB hl
  refine s75_callW (by simp) ?_
  simp only [s75]
  refine Zg fun N1 hN1 => ?_
  simp (maxSteps := 2000000) only [↓Za, ↓Zb, ↓Zc, vup, cond_false, aop, Zf, Zp, ev, sput, Ze, Nat.reduceBEq, Nat.reduceAdd]
  refine hN1 [(0, v), (1, Zd r), (4, .slice none 0 0)] _ _ ?_ (by simp (maxSteps := 2000000) only [vup, cond_true, cond_false, Nat.reduceBEq])
  clear hN1
  try clear N1
  refine Zg fun Z hZ => ?_
  simp (maxSteps := 2000000) only [↓Za, ↓Zi, ↓Yc, ↓Zb, ↓Zc, vup, List.map_cons, List.map_nil, cond_true, cond_false, aop, Zf, ev, sput, Ze, Zj, Nat.reduceBEq, tyf, hv.int.len, List.length_map, ↓Yr]
  refine Zn fun Q hQ => ?_
  refine Wg (γ := Nat) (fun j => j ≤ B.length)
    (fun j => ([(0, v), (1, Zd (Rn.red (B.take j) r : Nat)), (4, .slice none 0 0), (8, v), (9, Zd B.length), (10, Zd j)], h)) (fun j => B.length - j) 0 (Nat.zero_le _) (by simp (maxSteps := 2000000) only [vup, cond_true, cond_false, Nat.reduceBEq, Int.natCast_zero, List.take_zero, Rn.red, List.foldl_nil]) rfl ?_
  intro j hj
  refine Wi fun Q2 hQ2 => ?_
  by_cases hjn : (j : Int) < B.length
  · have hj' : j < B.length := by omega
    have hj2 : j < (iL B).length := by rw [iL_len]; exact hj'
    have b1 := red_take_lt hl0 hr j
    have b2 := hl _ (getD_mem hj')
    simp (maxSteps := 2000000) only [↓Za, ↓Zk, ↓Zi, ↓Yc, ↓Zb, ↓Zc, ↓vdn, vup, List.map_cons, List.map_nil, cond_true, cond_false, aop, Zf, Zl, ev, sput, Ze, Zw, Zy, Zj, Nat.reduceBEq, tyf, l75_0, hjn, hv.int.idx Xh Yw hj2, hv.int.load Yu hj2, iL_get, bitsV_xor (show Rn.red (B.take j) r < 9223372036854775808 by omega) (show B.getD j 0 < 9223372036854775808 by omega), mmK, Bool.false_eq_true, if_false, gt_iff_lt, mnI', Wy (show j < 9223372036854775807 by omega)]
    refine hQ2 _ _ _ ⟨j + 1, by omega, by omega, by simp (maxSteps := 2000000) only [vup, cond_true, cond_false, Nat.reduceBEq, red_take hj'], rfl⟩
  · obtain rfl : j = B.length := by omega
    simp (maxSteps := 2000000) only [↓Za, ↓Zi, ↓Ye, ↓Zb, ↓Zc, ↓vdn, vup, cond_true, cond_false, aop, Zf, ev, sput, Ze, Zw, Zy, Nat.reduceBEq, l75_0, Int.lt_irrefl]
    refine hQ2 _ _ _ (hQ _ _ _ ?_)
    simp (maxSteps := 2000000) only [Zf, Zl, Zr, if_true]
    have b1 := red_take_lt hl0 hr B.length
    rw [List.take_length] at b1 ⊢
    refine hZ [(0, v), (1, Zd (Rn.red B r : Nat)), (4, .slice none 0 0)] _ _ ?_ (by simp (maxSteps := 2000000) only [vup, cond_true, cond_false, Nat.reduceBEq])
    clear hZ
    try clear Z
    have hz : ∀ z : Nat, (((z : Nat) : Int) == 0) = (z == 0) := fun z => beqN (b := 0)
    by_cases h0 : Rn.red B r = 0
    · have hb0 : (Rn.red B r == 0) = true := beq_iff_eq.2 h0
      refine Zg fun N2 hN2 => ?_
      simp (maxSteps := 2000000) only [↓Za, ↓Zi, ↓Zu, ↓Zb, ↓Zc, ↓vdn, vup, cond_true, cond_false, aop, Zf, ev, sput, Ze, Zw, Zy, Nat.reduceBEq, Zr, Xg, tup, hz, hb0]
      refine ⟨Ext.refl _ _, by simp, B, hv, hB, hl, fun y => ?_⟩
      refine Rn.S_eq (fun x hx => Rn.S_mem (by simp [hx])) (fun x hx => ?_) y
      rcases List.mem_append.1 hx with hx | hx
      · exact Rn.S_mem hx
      · obtain rfl := List.mem_singleton.1 hx
        exact Rn.red_zero hB h0
    · have hb0 : (Rn.red B r == 0) = false := beq_eq_false_iff_ne.2 h0
      refine Zg fun N3 hN3 => ?_
      simp (maxSteps := 2000000) only [↓Za, ↓Zk, ↓Zi, ↓Zb, ↓Zc, ↓vdn, vup, cond_true, cond_false, aop, Zf, ev, sput, Ze, Zw, Zy, Nat.reduceBEq, hz, hb0]
      refine hN3 [(0, v), (1, Zd (Rn.red B r : Nat)), (4, .slice none 0 0)] _ _ ?_ (by simp (maxSteps := 2000000) only [vup, cond_true, cond_false, Nat.reduceBEq])
      clear hN3
      try clear N3
      refine Zg fun N4 hN4 => ?_
      simp (maxSteps := 2000000) only [↓Za, ↓Zb, ↓Zc, vup, List.map_cons, List.map_nil, cond_true, cond_false, aop, Zf, ev, sput, Ze, Zj, Nat.reduceBEq, Ym, List.nil_append, List.append_nil]
      refine (clone_span hv (by omega)).mono ?_
      rintro u h1 hs1
      simp (maxSteps := 2000000) only [litI1]
      refine hs1.push (by rw [iL_len]; omega) fun v' h2 s2 => ?_
      have em : iL B ++ [((Rn.red B r : Nat) : Int)] = iL (B ++ [Rn.red B r]) := by simp [iL]
      rw [em] at s2
      try simp (maxSteps := 2000000) only [s75, ↓Za, ↓Zk, ↓Zi, ↓Yc, ↓Ye, ↓Zu, ↓Zb, ↓Zc, ↓Ww, ↓Yl, ↓dopsR_nil, ↓vdn, vup, extr_20, extr_21, extr_30, extr_31, extr_32, List.map_cons, List.map_nil, cond_true, cond_false, aop, Zf, Zl, Zp, ev, sput, Ze, Zw, Zy, unK, Zj, pickK, Nat.reduceBEq, Nat.reduceAdd, Int.reduceBEq, Int.reduceBNe, Int.reduceLT, Zr, Xg, tup, tyf]
      refine hN4 [(0, v), (1, Zd (Rn.red B r : Nat)), (4, .slice none 0 0), (7, v')] _ _ ?_ (by simp (maxSteps := 2000000) only [vup, cond_true, cond_false, Nat.reduceBEq])
      clear hN4
      try clear N4
      obtain ⟨ho, hE, hbk⟩ := s2
      rcases ho with ⟨_, hnil⟩ | ⟨b, ys, rfl, hb⟩
      · simp [iL] at hnil
      have hbl := hbk b rfl
      have hlen : (B ++ [Rn.red B r]).length ≤ 12 := by rw [List.length_append, List.length_singleton]; omega
      have hsm : ∀ x ∈ B ++ [Rn.red B r], x < 4611686018427387904 := fun x hx => by
        rcases List.mem_append.1 hx with hx | hx
        · have := hl x hx; omega
        · rw [List.mem_singleton.1 hx]; omega
      rw [iL_len]
      refine Zg fun N5 hN5 => ?_
      simp (maxSteps := 2000000) only [↓Za, ↓Zb, ↓Zc, vup, List.map_cons, List.map_nil, cond_true, cond_false, aop, Zf, ev, sput, Ze, Nat.reduceBEq, Ym, List.nil_append, List.append_nil]
      refine (sort_call hb hlen hsm).mono ?_
      rintro _ h3 ⟨C, hperm, hsort, rfl⟩
      refine hN5 [(0, v), (1, Zd (Rn.red B r : Nat)), (4, .slice none 0 0), (7, ov b (B ++ [Rn.red B r]).length ys.length)] _ _ ?_ (by simp (maxSteps := 2000000) only [vup, cond_true, cond_false, Nat.reduceBEq])
      clear hN5
      try clear N5
      refine Zm ?_
      simp (maxSteps := 2000000) only [↓Za, ↓Zi, ↓Zu, ↓Zb, ↓Zc, vup, cond_true, cond_false, aop, Zf, ev, sput, Ze, Nat.reduceBEq, Zr, Xg, tup]
      have hn1 : (B ++ [Rn.red B r]).Nodup := by
        rw [List.nodup_append]
        refine ⟨?_, by simp, ?_⟩
        · rw [List.Nodup]
          exact hB.1.imp fun h e => by rw [e] at h; omega
        · intro x hx y hy e
          rw [List.mem_singleton] at hy
          subst hy e
          exact Rn.red_top hB h0 _ hx rfl
      obtain ⟨m1, m2⟩ := hB.more h0 (C := C) (fun x => by rw [hperm.mem_iff]; simp) hsort (hperm.nodup_iff.2 hn1)
      refine ⟨hE.set_ge hbl _, .inr hbk, C, .inr ⟨fun e => ?_, ?_⟩, m1, fun x hx => ?_, m2⟩
      · have := hperm.length_eq
        rw [e] at this; simp at this
      · have := ov_own (h := h2) (b := b) (n := (B ++ [Rn.red B r]).length) (L := C) (ys := ys) (Yp hb) hperm.length_eq
        exact this.int
      · rw [hperm.mem_iff] at hx
        rcases List.mem_append.1 hx with hx | hx
        · exact hl x hx
        · rw [List.mem_singleton.1 hx]; exact b1
end Go.Proofs.Tryd.Am

namespace Go.Proofs.Tryd.Am
open Go.Am Sr
set_option maxRecDepth 100000
set_option maxHeartbeats 1000000

theorem okRow_iff {g : Nat → Nat} {n i r : Nat} (hr : r < 2 ^ n) : Rn.okRow g n i r ↔ (r.testBit i && (less (less r (2 ^ i)) (g i) == 0)) = true := by
  rw [Bool.and_eq_true, beq_iff_eq, Rn.okRow]
  constructor
  · rintro ⟨_, h2, h3⟩
    refine ⟨h2, ?_⟩
    apply Nat.eq_of_testBit_eq
    intro b
    rw [Zz, Zz, Nat.testBit_two_pow, Nat.zero_testBit]
    cases hb : r.testBit b with
    | false => rfl
    | true =>
      by_cases hbi : i = b
      · simp [hbi]
      · rw [h3 b (Ne.symm hbi) hb]; simp
  · rintro ⟨h1, h2⟩
    refine ⟨hr, h1, fun b hb hrb => ?_⟩
    have := congrArg (fun z : Nat => z.testBit b) h2
    simp only [Zz, Nat.testBit_two_pow, Nat.zero_testBit, hrb] at this
    cases hg : (g i).testBit b with
    | true => rfl
    | false => rw [hg] at this; simp [Ne.symm hb] at this

structure FH (h : Zh) (gv : Value) (bb bg bx bf : Nat) : Prop where
  g : h[bg]? = some (.cells [gv] 22 false)
  x : h[bx]? = some (.cells [gv] 56 false)
  f : h[bf]? = some (.cells [.func (.func 74) #[] #[pt bb, pt bg, pt bx, pt bf]] 75 false)
  ng : bg ≠ bb
  nx : bx ≠ bb
  nf : bf ≠ bb
theorem FH.ext {h h' : Zh} {gv : Value} {bb bg bx bf : Nat} (f : FH h gv bb bg bx bf) (hE : Ext (fun i => i = bb) h h') : FH h' gv bb bg bx bf :=
  { f with g := (hE.2 _ (Yp f.g) f.ng).trans f.g, x := (hE.2 _ (Yp f.x) f.nx).trans f.x, f := (hE.2 _ (Yp f.f) f.nf).trans f.f }
theorem intSl_but {h h' : Zh} {v : Value} {xs : List Int} {bb : Nat} (hv : IntSl h v xs) (hn : Yd v ≠ some bb) (hE : Ext (fun i => i = bb) h h') : IntSl h' v xs :=
  hv.same fun b hb => hE.2 b (hv.lt hb) fun e => hn (by rw [hb, e])
theorem spSl_but {h h' : Zh} {v : Value} {B : List Nat} {bb : Nat} (hv : SpSl h v B) (hn : Yd v ≠ some bb) (hE : Ext (fun i => i = bb) h h') : SpSl h' v B := hv.imp id fun h => ⟨h.1, intSl_but h.2 hn hE⟩
theorem s74_callW [Tabs Tryd.prog] {args : List Value} {h : Zh} {Q : Value → Zh → Prop} (hsz : args.length ≤ 50) (hk : AWS Tryd.prog 50 s74 (Zr Tryd.prog [] Q) (Zp 0 args) h) : ACall Tryd.prog 74 args h Q :=
  Xb Tryd.func74 rfl (enters_of Tryd.func74 (by kernel_rfl) rfl) rfl rfl (by decide) s74_strip s74_ok hsz hk
theorem fit1_call [Tabs prog] {gv : Value} {xs : List Int} {bb bg bx bf n : Nat} (g : Gs xs) (hn : xs.length = n) (h5 : n ≤ 5) (hgb : Yd gv ≠ some bb) : ∀ (k i : Nat), i + k = n → ∀ {h : Zh} {B R : List Nat} {best : Nat} {sv : Value},
    FH h gv bb bg bx bf → IntSl h gv xs → h[bb]? = some (.cells [Zd best] 3 false) → SpSl h sv B → Yd sv ≠ some bb → Rn.Bs B → (∀ b ∈ B, b < 2 ^ n) → (∀ y, Rn.S B y = Rn.S R y) → best ≤ n →
    ACall prog 74 [Zd i, sv, pt bb, pt bg, pt bx, pt bf] h fun _ h' => ∃ best' : Nat, h'[bb]? = some (.cells [Zd best'] 3 false) ∧ Ext (fun i => i = bb) h h' ∧ Rn.IsMin best (Rn.Rk (gn xs) n k i R) best' := by
  intro k
  induction k with
  | zero =>
    intro i hik h B R best sv fh hg hb hsv hsb hB hl hS hbn
    have hdim : Rn.dim n R = B.length := by rw [← Rn.dim_congr hS, Rn.dim_ind hl hB.ind]
    refine s74_callW (by simp) ?_
    simp only [s74]
    refine Zg fun N1 hN1 => ?_
    by_cases hge : best ≤ B.length
    · have hge2 : (best : Int) ≤ (B.length : Int) := by omega
      simp (maxSteps := 2000000) only [↓Za, ↓Zi, ↓Zu, ↓Zb, ↓Zc, ↓vdn, vup, List.map_cons, List.map_nil, cond_true, cond_false, aop, Zf, Zp, ev, sput, Ze, Zw, Zy, Zj, Nat.reduceBEq, Nat.reduceAdd, Zr, Xg, tyf, hsv.int.len, List.length_map, Wa hb Yu, hge2]
      exact ⟨best, hb, Ext.refl _ _, .skip fun w hw => by have := hw.ge; omega⟩
    · have hge2 : ¬ (best : Int) ≤ (B.length : Int) := by omega
      simp (maxSteps := 2000000) only [↓Za, ↓Zk, ↓Zi, ↓Zb, ↓Zc, ↓vdn, vup, List.map_cons, List.map_nil, cond_true, cond_false, aop, Zf, Zp, ev, sput, Ze, Zw, Zy, Zj, Nat.reduceBEq, Nat.reduceAdd, tyf, hsv.int.len, List.length_map, Wa hb Yu, hge2]
      refine hN1 [(0, Zd i), (1, sv), (2, pt bb), (3, pt bg), (4, pt bx), (5, pt bf)] _ _ ?_ (by simp (maxSteps := 2000000) only [vup, cond_true, cond_false, Nat.reduceBEq])
      clear hN1
      try clear N1
      have hii : ((i : Int) == (xs.length : Int)) = true := by rw [beq_iff_eq]; omega
      refine Zg fun N2 hN2 => ?_
      simp (maxSteps := 2000000) only [↓Za, ↓Zk, ↓Zi, ↓Zu, ↓Zb, ↓Zc, ↓vdn, vup, List.map_cons, List.map_nil, cond_true, cond_false, aop, Zf, ev, sput, Ze, Zw, Zy, Zj, Nat.reduceBEq, Zr, Xg, tyf, Wa fh.g Vb, hg.len, hii, hsv.int.len, List.length_map, Go.Am.storeI hb Yu]
      refine ⟨B.length, Wh (Yp hb) _, Ext.set _ rfl, ?_⟩
      exact ⟨.inr ((Rn.Rk.zero _).2 hdim.symm), by omega, fun w hw => by have := (Rn.Rk.zero _).1 hw; omega⟩
  | succ k ih =>
    intro i hik h B R best sv fh hg hb hsv hsb hB hl hS hbn
    have hdim : Rn.dim n R = B.length := by rw [← Rn.dim_congr hS, Rn.dim_ind hl hB.ind]
    have hnn : ∀ i : Nat, (0 : Int) ≤ (i : Int) := Int.natCast_nonneg
    have h32 : 2 ^ n ≤ 2 ^ 5 := Nat.pow_le_pow_right (by decide) h5
    have hp0 := Nat.two_pow_pos n
    obtain ⟨M, hM⟩ : ∃ M, 2 ^ n = M := ⟨_, rfl⟩
    rw [hM] at h32 hp0
    have hiX : i < xs.length := by omega
    obtain ⟨hge, hgl⟩ := gnE g hiX
    refine s74_callW (by simp) ?_
    simp only [s74]
    refine Zg fun N3 hN3 => ?_
    by_cases hgB : best ≤ B.length
    · have hge2 : (best : Int) ≤ (B.length : Int) := by omega
      simp (maxSteps := 2000000) only [↓Za, ↓Zi, ↓Zu, ↓Zb, ↓Zc, ↓vdn, vup, List.map_cons, List.map_nil, cond_true, cond_false, aop, Zf, Zp, ev, sput, Ze, Zw, Zy, Zj, Nat.reduceBEq, Nat.reduceAdd, Zr, Xg, tyf, hsv.int.len, List.length_map, Wa hb Yu, hge2]
      exact ⟨best, hb, Ext.refl _ _, .skip fun w hw => by have := hw.ge; omega⟩
    have hge2 : ¬ (best : Int) ≤ (B.length : Int) := by omega
    simp (maxSteps := 2000000) only [↓Za, ↓Zk, ↓Zi, ↓Zb, ↓Zc, ↓vdn, vup, List.map_cons, List.map_nil, cond_true, cond_false, aop, Zf, Zp, ev, sput, Ze, Zw, Zy, Zj, Nat.reduceBEq, Nat.reduceAdd, tyf, hsv.int.len, List.length_map, Wa hb Yu, hge2]
    refine hN3 [(0, Zd i), (1, sv), (2, pt bb), (3, pt bg), (4, pt bx), (5, pt bf)] _ _ ?_ (by simp (maxSteps := 2000000) only [vup, cond_true, cond_false, Nat.reduceBEq])
    clear hN3
    try clear N3
    have hii : ((i : Int) == (xs.length : Int)) = false := by rw [beq_eq_false_iff_ne]; omega
    refine Zg fun N4 hN4 => ?_
    simp (maxSteps := 2000000) only [↓Za, ↓Zk, ↓Zi, ↓Zu, ↓Zb, ↓Zc, ↓vdn, vup, List.map_cons, List.map_nil, cond_true, cond_false, aop, Zf, ev, sput, Ze, Zw, Zy, Zj, Nat.reduceBEq, Zr, Xg, tyf, Wa fh.g Vb, hg.len, hii]
    refine hN4 [(0, Zd i), (1, sv), (2, pt bb), (3, pt bg), (4, pt bx), (5, pt bf)] _ _ ?_ (by simp (maxSteps := 2000000) only [vup, cond_true, cond_false, Nat.reduceBEq])
    clear hN4
    try clear N4
    have hmk : (((M - 1 + 1 : Nat) : Int)) = ((M : Nat) : Int) := by omega
    refine Zg fun N5 hN5 => ?_
    simp (maxSteps := 2000000) only [↓Za, ↓Zb, ↓Zc, vup, List.map_cons, List.map_nil, cond_true, cond_false, aop, Zf, ev, sput, Ze, Zw, Zy, Nat.reduceBEq, tyf, Ym, List.nil_append, List.append_nil, Wa fh.x shp_56]
    refine (all_call hg (by omega) (show 2 ^ xs.length = M by rw [hn]; exact hM)).mono ?_
    rintro _ h ⟨rfl, rfl⟩
    simp (maxSteps := 2000000) only [vup, Wy (show M - 1 < 9223372036854775807 by omega), hmk]
    refine hN5 [(0, Zd i), (1, sv), (2, pt bb), (3, pt bg), (4, pt bx), (5, pt bf), (21, Zd M), (22, .int .i64 0)] _ _ ?_ (by simp (maxSteps := 2000000) only [vup, cond_true, cond_false, Nat.reduceBEq])
    clear hN5
    try clear N5
    refine Zv ?_
    refine Zn fun Q hQ => ?_
    refine Yx (γ := Nat × Zh × Nat) (fun s => s.1 ≤ M ∧ Ext (fun i => i = bb) h s.2.1 ∧ s.2.1[bb]? = some (.cells [Zd s.2.2] 3 false) ∧ Rn.IsMin best (fun w => ∃ r, r < s.1 ∧ Rn.okRow (gn xs) n i r ∧ Rn.Rk (gn xs) n k (i + 1) (R ++ [r]) w) s.2.2)
      (fun s => ([(0, Zd i), (1, sv), (2, pt bb), (3, pt bg), (4, pt bx), (5, pt bf), (21, Zd M), (22, Zd s.1)], s.2.1)) (fun s => M - s.1) (0, h, best) ⟨Nat.zero_le _, Ext.refl _ _, hb, (Rn.IsMin.start best).congr fun w => ⟨False.elim, fun ⟨r, hr, _⟩ => by omega⟩⟩ (by simp (maxSteps := 2000000) only [vup, cond_true, cond_false, Nat.reduceBEq, Int.natCast_zero]) rfl ?_
    rintro ⟨r, hp, bst⟩ ⟨hr, hE, hbp, hmin⟩
    simp only at hr hE hbp hmin
    refine Zn fun Q2 hQ2 => ?_
    simp only [l74_0]
    by_cases hrn : (r : Int) < M
    · have hr' : r < M := by omega
      have hrM : r < 2 ^ n := by rw [hM]; exact hr'
      have fhp := fh.ext hE
      have hgp := intSl_but hg hgb hE
      have hsvp := spSl_but hsv hsb hE
      refine Zg fun N6 hN6 => ?_
      simp (maxSteps := 2000000) only [↓Za, ↓Zb, ↓Zc, vup, cond_true, cond_false, aop, Zf, ev, sput, Ze, Zw, Zy, Nat.reduceBEq, hrn]
      refine hN6 [(0, Zd i), (1, sv), (2, pt bb), (3, pt bg), (4, pt bx), (5, pt bf), (21, Zd M), (22, Zd r), (23, .bool true)] _ _ ?_ (by simp (maxSteps := 2000000) only [vup, cond_true, cond_false, Nat.reduceBEq])
      clear hN6
      try clear N6
      refine Zg fun N7 hN7 => ?_
      simp (maxSteps := 2000000) only [↓Zk, ↓vdn, vup, cond_true, cond_false, Zf, ev, Nat.reduceBEq]
      refine hN7 [(0, Zd i), (1, sv), (2, pt bb), (3, pt bg), (4, pt bx), (5, pt bf), (21, Zd M), (22, Zd r)] _ _ ?_ (by simp (maxSteps := 2000000) only [vup, cond_true, cond_false, Nat.reduceBEq])
      clear hN7
      try clear N7
      refine Zo fun K hK => ?_
      have fin : ∀ (hq : Zh) (b2 : Nat), Ext (fun i => i = bb) h hq → hq[bb]? = some (.cells [Zd b2] 3 false) → Rn.IsMin best (fun w => ∃ r', r' < r + 1 ∧ Rn.okRow (gn xs) n i r' ∧ Rn.Rk (gn xs) n k (i + 1) (R ++ [r']) w) b2 → ∀ e, ELe e [(0, Zd i), (1, sv), (2, pt bb), (3, pt bg), (4, pt bx), (5, pt bf), (21, Zd M), (22, Zd r)] → K e hq := by
        intro hq b2 hE2 hb2 hm2 e he
        refine hK [(0, Zd i), (1, sv), (2, pt bb), (3, pt bg), (4, pt bx), (5, pt bf), (21, Zd M), (22, Zd r)] _ _ ?_ he
        refine Zm ?_
        simp (maxSteps := 2000000) only [↓Za, ↓Zb, ↓Zc, vup, cond_true, cond_false, aop, ev, sput, Ze, Zw, Zy, Nat.reduceBEq, Wy (show r < 9223372036854775807 by omega)]
        exact hQ2 _ _ _ ⟨(r + 1, hq, b2), ⟨by simp only; omega, hE2, hb2, hm2⟩, by simp only; omega, by simp (maxSteps := 2000000) only [vup, cond_true, cond_false, Nat.reduceBEq], rfl⟩
      clear hK
      refine Zv ?_
      refine Zg fun N8 hN8 => ?_
      simp (maxSteps := 2000000) only [↓Za, ↓Zb, ↓Zc, vup, cond_true, cond_false, aop, Zf, ev, sput, Ze, Nat.reduceBEq]
      refine hN8 [(0, Zd i), (1, sv), (2, pt bb), (3, pt bg), (4, pt bx), (5, pt bf), (8, Zd r), (21, Zd M), (22, Zd r)] _ _ ?_ (by simp (maxSteps := 2000000) only [vup, cond_true, cond_false, Nat.reduceBEq])
      clear hN8
      try clear N8
      refine Zg fun N9 hN9 => ?_
      have go : ∀ e, ELe e [(0, Zd i), (1, sv), (2, pt bb), (3, pt bg), (4, pt bx), (5, pt bf), (8, Zd r), (21, Zd M), (22, Zd r), (41, .bool (r.testBit i && (less (less r (2 ^ i)) (gn xs i) == 0)))] → N9 e hp := by
        intro e he
        refine hN9 [(0, Zd i), (1, sv), (2, pt bb), (3, pt bg), (4, pt bx), (5, pt bf), (8, Zd r), (21, Zd M), (22, Zd r), (41, .bool (r.testBit i && (less (less r (2 ^ i)) (gn xs i) == 0)))] _ _ ?_ he
        refine Zm ?_
        cases hok : (r.testBit i && (less (less r (2 ^ i)) (gn xs i) == 0)) with
        | false =>
          have hno : ¬ Rn.okRow (gn xs) n i r := fun h => by rw [okRow_iff hrM, hok] at h; cases h
          simp (maxSteps := 2000000) only [↓Zk, ↓vdn, vup, cond_true, cond_false, Zf, Zl, ev, Nat.reduceBEq]
          refine fin hp bst hE hbp (hmin.congr fun w => ?_) _ (by simp (maxSteps := 2000000) only [vup, cond_true, cond_false, Nat.reduceBEq])
          constructor
          · rintro ⟨r', h1, h2⟩; exact ⟨r', by omega, h2⟩
          · rintro ⟨r', h1, h2⟩
            refine ⟨r', ?_, h2⟩
            by_cases e : r' = r
            · subst e; exact absurd h2.1 hno
            · omega
        | true =>
          have hyes : Rn.okRow (gn xs) n i r := (okRow_iff hrM).2 hok
          simp (maxSteps := 2000000) only [↓vdn, vup, cond_true, cond_false, ev, Nat.reduceBEq]
          refine aw_drawR (fun hq => hq[bf]? = some (.cells [.func (.func 74) #[] #[pt bb, pt bg, pt bx, pt bf]] 75 false)) [(0, 5), (5, 4), (6, 4)] (by kernel_rfl) (by kernel_rfl) (by kernel_rfl) (by kernel_rfl) fhp.f ?_
          simp (maxSteps := 2000000) only [↓dopsR_nil, ↓vdn, vup, List.map_cons, List.map_nil, cond_true, cond_false, aop, Zf, Zl, ev, sput, Ze, Zw, Zy, Nat.reduceBEq, Nat.reduceAdd, Nat.reduceLT, Bool.false_or, Bool.true_or]
          refine ⟨.func (.func 74) #[] #[pt bb, pt bg, pt bx, pt bf], fun hq hhq => by simp only [Wa hhq shp_75], ?_⟩
          simp (maxSteps := 2000000) only [Wy (show i < 9223372036854775807 by omega), Ym, List.nil_append, List.append_nil, List.cons_append]
          refine (spanned_call hsvp h5 hB hl hrM).mono ?_
          rintro u h1 ⟨hE1, huv, C, hC, hCb, hCl, hCS⟩
          have hE1b : Ext (fun i => i = bb) hp h1 := hE1.mono fun i h => h.elim
          have fh1 := fhp.ext hE1b
          have hg1 := Xl hgp hE1
          have hb1 : h1[bb]? = some (.cells [Zd bst] 3 false) := (hE1.2 _ (Yp hbp) id).trans hbp
          have hub : Yd u ≠ some bb := by
            intro hu
            rcases huv with rfl | huv
            · exact hsb hu
            · have := huv _ hu
              have := Yp hbp
              omega
          refine ⟨fh1.f, ?_⟩
          try simp (maxSteps := 2000000) only [s74, ↓Za, ↓Zk, ↓Zi, ↓Yc, ↓Ye, ↓Zu, ↓Zb, ↓Zc, ↓Ww, ↓Yl, ↓dopsR_nil, ↓vdn, vup, extr_20, extr_21, extr_30, extr_31, extr_32, List.map_cons, List.map_nil, cond_true, cond_false, aop, Zf, Zl, Zp, ev, sput, Ze, Zw, Zy, unK, Zj, pickK, Nat.reduceBEq, Nat.reduceAdd, Int.reduceBEq, Int.reduceBNe, Int.reduceLT, Zr, Xg, tup, tyf, Nat.reduceLT, Bool.false_or, Bool.true_or, Ym, List.nil_append, List.append_nil, List.toList_toArray, List.cons_append]
          have hSC : ∀ y, Rn.S C y = Rn.S (R ++ [r]) y := fun y => (hCS y).trans (Rn.S_app hS r y)
          refine (ih (i + 1) (by omega) fh1 hg1 hb1 hC hub hCb hCl hSC (by have := hmin.2.1; omega)).mono ?_
          rintro _ h2 ⟨b2, hb2, hE2, hm2⟩
          refine ⟨(fh1.ext hE2).f, ?_⟩
          try simp (maxSteps := 2000000) only [s74, ↓Za, ↓Zk, ↓Zi, ↓Yc, ↓Ye, ↓Zu, ↓Zb, ↓Zc, ↓Ww, ↓Yl, ↓dopsR_nil, ↓vdn, vup, extr_20, extr_21, extr_30, extr_31, extr_32, List.map_cons, List.map_nil, cond_true, cond_false, aop, Zf, Zl, Zp, ev, sput, Ze, Zw, Zy, unK, Zj, pickK, Nat.reduceBEq, Nat.reduceAdd, Int.reduceBEq, Int.reduceBNe, Int.reduceLT, Zr, Xg, tup, tyf, Nat.reduceLT, Bool.false_or, Bool.true_or]
          refine fin h2 b2 ((hE.trans hE1b).trans hE2) hb2 ((hmin.next hm2).congr fun w => ?_) _ (by simp (maxSteps := 2000000) only [vup, cond_true, cond_false, Nat.reduceBEq])
          constructor
          · rintro (⟨r', h1, h2⟩ | h)
            · exact ⟨r', by omega, h2⟩
            · exact ⟨r, by omega, hyes, h⟩
          · rintro ⟨r', h1, h2⟩
            by_cases e : r' = r
            · subst e; exact .inr h2.2
            · exact .inl ⟨r', by omega, h2⟩
      refine Xm [] (by kernel_rfl) (by kernel_rfl) (by kernel_rfl) (by kernel_rfl) ?_
      have hz : ∀ z : Nat, (((z : Nat) : Int) == 0) = (z == 0) := fun z => beqN (b := 0)
      have i62 : i ≤ 62 := by omega
      have l1 : less r (2 ^ i) < 9223372036854775808 := by have := Sr.less_le r (2 ^ i); omega
      have p2 : 2 ^ i < 9223372036854775808 := by
        have : 2 ^ i ≤ 2 ^ 5 := Nat.pow_le_pow_right (by decide) (by omega)
        omega
      cases hbi : r.testBit i with
      | false =>
        simp (maxSteps := 2000000) only [↓Yl, ↓vdn, vup, cond_true, cond_false, aop, Zf, ev, sput, Ze, Zw, Zy, pickK, Nat.reduceBEq, Int.reduceBEq, hnn, testV (show r < 9223372036854775808 by omega), hbi, Bool.false_eq_true, if_false]
        exact go _ (by simp (maxSteps := 2000000) only [vup, cond_true, cond_false, Nat.reduceBEq, hbi, Bool.false_and])
      | true =>
        simp (maxSteps := 2000000) only [↓Yl, ↓vdn, vup, cond_true, cond_false, aop, Zf, ev, sput, Ze, Zw, Zy, pickK, Nat.reduceBEq, Nat.reduceAdd, Int.reduceBEq, tyf, hnn, testV (show r < 9223372036854775808 by omega), hbi, if_true, shlI1 i62, Wj (show r < 9223372036854775808 by omega) p2, Wa fhp.g Vb, hgp.idx Xh Yw hiX, hgp.load Yu hiX, hge, Wj l1 (show gn xs i < 9223372036854775808 by omega), hz]
        exact go _ (by simp (maxSteps := 2000000) only [vup, cond_true, cond_false, Nat.reduceBEq, hbi, Bool.true_and])
    · obtain rfl : r = M := by omega
      refine Zg fun K hK => ?_
      simp (maxSteps := 2000000) only [↓Za, ↓Zb, ↓Zc, vup, cond_true, cond_false, aop, Zf, ev, sput, Ze, Zw, Zy, Nat.reduceBEq, Int.lt_irrefl]
      refine hK [(23, .bool false)] _ _ ?_ (by simp (maxSteps := 2000000) only [vup, cond_true, cond_false, Nat.reduceBEq])
      clear hK
      try clear K
      refine Zm ?_
      simp (maxSteps := 2000000) only [↓Zi, ↓Ye, ↓vdn, vup, cond_true, Zf, ev, Nat.reduceBEq]
      refine hQ2 _ _ _ (hQ _ _ _ ?_)
      simp (maxSteps := 2000000) only [Zl, Zr, Xg, if_true]
      refine ⟨bst, hbp, hE, hmin.congr fun w => ?_⟩
      rw [Rn.Rk.succ]
      constructor
      · rintro ⟨r', _, h2⟩; exact ⟨r', h2⟩
      · rintro ⟨r', h2⟩; exact ⟨r', by have := h2.1.1; rw [hM] at this; exact this, h2⟩
end Go.Proofs.Tryd.Am

namespace Go.Proofs.Tryd.Am
open Go.Am Sr
set_option maxRecDepth 100000
set_option maxHeartbeats 1000000

def c5 (L : Nat → Nat) : List Value := (List.range 5).map fun i => Zd (L i : Nat)
def upd (L : Nat → Nat) (i x : Nat) : Nat → Nat := fun t => if t = i then x else L t
section
variable {h : Zh} {b i : Nat} {L : Nat → Nat}
end
end Go.Proofs.Tryd.Am

namespace Go.Proofs.Tryd.Am
open Go.Am Sr
set_option maxRecDepth 100000
set_option maxHeartbeats 1000000

theorem box22 {h : Zh} {v : Value} {xs : List Int} (hv : IntSl h v xs) {K : Value → Zh → Prop} : boxK prog h 22 v K = K (Xn h) (h ++ [.cells [v] 22 false]) := by
  rcases hv with ⟨rfl, _⟩ | ⟨b, o, sp, cap, c, e, ro, rfl, _⟩ <;> simp [boxK, esz_22, cellsOf]
theorem slOne {h : Zh} {v : Value} {xs : List Int} (hv : IntSl h v xs) : one v = true := by
  rcases hv with ⟨rfl, _⟩ | ⟨b, o, sp, cap, c, e, ro, rfl, _⟩ <;> rfl
theorem extPast {h h1 h2 : Zh} {b : Nat} (h12 : Ext (fun _ => False) h h1) (h3 : Ext (fun i => i = b) h1 h2) (hb : h.length ≤ b) : Ext (fun _ => False) h h2 :=
  ⟨Nat.le_trans h12.1 h3.1, fun i hi _ => (h3.2 i (Nat.lt_of_lt_of_le hi h12.1) (by omega)).trans (h12.2 i hi id)⟩

def FitM (xs : List Int) (m : Nat) : Prop := Rn.IsMin xs.length (Rn.Rk (gn xs) xs.length xs.length 0 []) m
theorem s49_callW [Tabs Tryd.prog] {args : List Value} {h : Zh} {Q : Value → Zh → Prop} (hsz : args.length ≤ 22) (hk : AWS Tryd.prog 22 s49 (Zr Tryd.prog [.tmp 2, .tmp 3] Q) (Zp 0 args) h) : ACall Tryd.prog 49 args h Q :=
  Xb Tryd.func49 rfl (enters_of Tryd.func49 (by kernel_rfl) rfl) rfl rfl (by decide) s49_strip s49_ok hsz hk
theorem fit_call [Tabs prog] {h : Zh} {v : Value} {xs : List Int} (hv : IntSl h v xs) (hl : xs.length < 9223372036854775808) (hx : ∀ x ∈ xs, -9223372036854775808 ≤ x ∧ x < 9223372036854775808) :
    ACall prog 49 [v] h fun r h' => Ext (fun _ => False) h h' ∧ if grs xs = true ∧ xs.length ≤ 5 then ∃ m : Nat, r = .tuple #[Zd m, .int .i64 0] ∧ FitM xs m else r = .tuple #[.int .i64 0, .int .i64 2] := by
  refine s49_callW (by simp) ?_
  simp only [s49]
  refine Zg fun N1 hN1 => ?_
  simp (maxSteps := 2000000) only [↓Za, ↓Zb, ↓Zc, vup, cond_true, cond_false, aop, Zf, Zp, ev, sput, Ze, Nat.reduceBEq, box22 hv, Xn]
  refine hN1 [(1, pt h.length), (2, .int .i64 0), (3, .int .i64 0)] _ _ ?_ (by simp (maxSteps := 2000000) only [vup, cond_true, cond_false, Nat.reduceBEq])
  clear hN1
  try clear N1
  have hE0 : Ext (fun _ => False) h (h ++ [Blk.cells [v] 22 false]) := Ext.app _ _ _
  have b1 := Xa h (Blk.cells [v] 22 false)
  generalize hH0 : h ++ [Blk.cells [v] 22 false] = H0 at hE0 b1 ⊢
  have l0 : H0.length = h.length + 1 := by rw [← hH0]; simp
  clear hH0
  refine Zg fun N2 hN2 => ?_
  simp (maxSteps := 2000000) only [↓Za, ↓Zb, ↓Zc, vup, cond_true, cond_false, aop, Zf, ev, sput, Ze, Nat.reduceBEq, tyf, Wa b1 Vb, Wn, Xn, store1 (Xa _ _) shp_56 (slOne hv), set_last]
  refine hN2 [(1, pt h.length), (2, .int .i64 0), (3, .int .i64 0), (4, pt H0.length)] _ _ ?_ (by simp (maxSteps := 2000000) only [vup, cond_true, cond_false, Nat.reduceBEq])
  clear hN2
  try clear N2
  have hE1 := hE0.trans (Ext.app (fun _ => False) H0 [Blk.cells [v] 56 false])
  have c1 := Va b1 [Blk.cells [v] 56 false]
  have c4 := Xa H0 (Blk.cells [v] 56 false)
  generalize hH1 : H0 ++ [Blk.cells [v] 56 false] = H1 at hE1 c1 c4 ⊢
  have l1 : H1.length = h.length + 2 := by rw [← hH1]; simp [l0]
  clear hH1
  rw [l0] at c4 ⊢
  have hv1 := Xl hv hE1
  have hvlt : ∀ b, Yd v = some b → b < h.length := fun b hb => hv.lt hb
  refine Zg fun N3 hN3 => ?_
  simp (maxSteps := 2000000) only [↓Za, ↓Zi, ↓Zc, vup, List.map_cons, List.map_nil, cond_true, cond_false, aop, ev, sput, Ze, unK, Nat.reduceBEq, Ym, List.nil_append, List.append_nil, Wa c4 shp_56]
  refine (valid_call hv1 hl hx).mono ?_
  rintro _ H1 ⟨rfl, rfl⟩
  cases hg : grs xs with
  | false =>
    simp (maxSteps := 2000000) only [↓Za, ↓Zi, ↓Zu, ↓Zb, ↓Zc, ↓vdn, vup, cond_true, cond_false, aop, Zf, ev, sput, Ze, Nat.reduceBEq, Zr, Xg, tup]
    exact ⟨hE1, by simp⟩
  | true =>
  by_cases h5 : xs.length ≤ 5
  · have hng : ¬ (5 : Int) < (xs.length : Int) := by omega
    have g := grs_iff.1 hg
    simp (maxSteps := 2000000) only [↓Zk, ↓Zb, ↓Zc, ↓vdn, vup, List.map_cons, List.map_nil, cond_true, cond_false, aop, Zf, ev, sput, Ze, Zw, Zy, Zj, Nat.reduceBEq, tyf, Wa c1 Vb, hv1.len, hng]
    refine hN3 [(1, pt h.length), (2, .int .i64 0), (3, .int .i64 0), (4, pt (h.length + 1))] _ _ ?_ (by simp (maxSteps := 2000000) only [vup, cond_true, cond_false, Nat.reduceBEq])
    clear hN3
    try clear N3
    refine Zg fun N4 hN4 => ?_
    simp (maxSteps := 2000000) only [↓Za, ↓Zb, ↓Zc, vup, List.map_cons, List.map_nil, cond_true, cond_false, aop, Zf, ev, sput, Ze, Zj, Nat.reduceBEq, tyf, Wa c1 Vb, hv1.len, Wn, Xn, Go.Am.storeI (Xa _ _) Yu, set_last]
    refine hN4 [(1, pt h.length), (2, .int .i64 0), (3, .int .i64 0), (4, pt (h.length + 1)), (5, pt H1.length)] _ _ ?_ (by simp (maxSteps := 2000000) only [vup, cond_true, cond_false, Nat.reduceBEq])
    clear hN4
    try clear N4
    have hE2 := hE1.trans (Ext.app (fun _ => False) H1 [Blk.cells [Zd xs.length] 3 false])
    have d1 := Va c1 [Blk.cells [Zd xs.length] 3 false]
    have d4 := Va c4 [Blk.cells [Zd xs.length] 3 false]
    have d5 := Xa H1 (Blk.cells [Zd xs.length] 3 false)
    generalize hH2 : H1 ++ [Blk.cells [Zd xs.length] 3 false] = H2 at hE2 d1 d4 d5 ⊢
    have l2 : H2.length = h.length + 3 := by rw [← hH2]; simp [l1]
    clear hH2
    rw [l1] at d5 ⊢
    refine Zg fun N5 hN5 => ?_
    simp (maxSteps := 2000000) only [↓Za, ↓Zb, ↓Zc, vup, cond_false, aop, Zf, sput, Ze, Nat.reduceBEq, tyf, Wn, Xn]
    refine hN5 [(1, pt h.length), (2, .int .i64 0), (3, .int .i64 0), (4, pt (h.length + 1)), (5, pt (h.length + 2)), (6, pt H2.length)] _ _ ?_ (by simp (maxSteps := 2000000) only [vup, cond_true, cond_false, Nat.reduceBEq])
    clear hN5
    try clear N5
    have fcell := Xa H2 (Blk.cells [.nilFunc] 75 false)
    refine Zg fun N6 hN6 => ?_
    simp (maxSteps := 2000000) only [↓Za, ↓Zb, ↓Zc, vup, List.map_cons, List.map_nil, cond_true, cond_false, aop, Zf, ev, sput, Ze, Nat.reduceBEq, List.map_toArray, Go.Am.storeF fcell shp_75, set_last]
    refine hN6 [(1, pt h.length), (2, .int .i64 0), (3, .int .i64 0), (4, pt (h.length + 1)), (5, pt (h.length + 2)), (6, pt H2.length)] _ _ ?_ (by simp (maxSteps := 2000000) only [vup, cond_true, cond_false, Nat.reduceBEq])
    clear hN6
    try clear N6
    refine Zg fun N hN => ?_
    have hE3 := hE2.trans (Ext.app (fun _ => False) H2 [Blk.cells [.func (.func 74) #[] #[pt (h.length + 2), pt h.length, pt (h.length + 1), pt H2.length]] 75 false])
    have e1 := Va d1 [Blk.cells [.func (.func 74) #[] #[pt (h.length + 2), pt h.length, pt (h.length + 1), pt H2.length]] 75 false]
    have e4 := Va d4 [Blk.cells [.func (.func 74) #[] #[pt (h.length + 2), pt h.length, pt (h.length + 1), pt H2.length]] 75 false]
    have e5 := Va d5 [Blk.cells [.func (.func 74) #[] #[pt (h.length + 2), pt h.length, pt (h.length + 1), pt H2.length]] 75 false]
    have e6 := Xa H2 (Blk.cells [.func (.func 74) #[] #[pt (h.length + 2), pt h.length, pt (h.length + 1), pt H2.length]] 75 false)
    generalize H2 ++ [Blk.cells [.func (.func 74) #[] #[pt (h.length + 2), pt h.length, pt (h.length + 1), pt H2.length]] 75 false] = H3 at hE3 e1 e4 e5 e6 ⊢
    have fh : FH H3 v (h.length + 2) h.length (h.length + 1) H2.length := ⟨e1, e4, e6, by omega, by omega, by omega⟩
    have hgb : Yd v ≠ some (h.length + 2) := fun e => by have := hvlt _ e; omega
    have hB : Rn.Bs [] := ⟨List.Pairwise.nil, fun x hx => by cases hx⟩
    simp (maxSteps := 2000000) only [↓Za, ↓Zb, ↓Zc, vup, List.map_cons, List.map_nil, cond_true, cond_false, aop, Zf, ev, sput, Ze, Nat.reduceBEq, Ym, List.nil_append, List.cons_append, Wa e6 shp_75]
    refine (fit1_call g rfl h5 hgb xs.length 0 (by omega) (R := []) (B := []) fh (Xl hv hE3) e5 (.inl ⟨rfl, rfl⟩) (fun e => by cases e) hB (fun b hb => by cases hb) (fun _ => rfl) (Nat.le_refl _)).mono ?_
    rintro _ h4 ⟨m, hm, hE4, hmin⟩
    refine hN [(5, pt (h.length + 2))] _ _ ?_ (by simp (maxSteps := 2000000) only [vup, cond_true, cond_false, Nat.reduceBEq])
    clear hN
    refine Zm ?_
    simp (maxSteps := 2000000) only [↓Za, ↓Zi, ↓Zu, ↓Zb, ↓Zc, vup, cond_true, cond_false, aop, Zf, ev, sput, Ze, Nat.reduceBEq, Zr, Xg, tup, Wa hm Yu]
    refine ⟨extPast hE3 hE4 (by omega), ?_⟩
    rw [if_pos ⟨hg, h5⟩]
    exact ⟨m, rfl, hmin⟩
  · have hgt : (5 : Int) < (xs.length : Int) := by omega
    simp (maxSteps := 2000000) only [↓Za, ↓Zi, ↓Zu, ↓Zb, ↓Zc, ↓vdn, vup, List.map_cons, List.map_nil, cond_true, cond_false, aop, Zf, ev, sput, Ze, Zw, Zy, Zj, Nat.reduceBEq, Zr, Xg, tup, tyf, Wa c1 Vb, hv1.len, hgt]
    exact ⟨hE1, by simp [h5]⟩

end Go.Proofs.Tryd.Am

namespace Go.Proofs.Tryd.Am
open Go.Am Sr

def qpow (q : Rat) : Nat → Rat
  | 0 => 1
  | k + 1 => q * qpow q k
theorem qpow_pos {q : Rat} (h : 0 < q) : ∀ k, 0 < qpow q k
  | 0 => by rw [qpow]; decide
  | k + 1 => by rw [qpow]; exact Rat.mul_pos h (qpow_pos h k)
def Lt (xs : List Int) : Nat → (Nat → Rat) → Prop
  | 0, z => z 0 ≤ 1
  | k + 1, z => ∀ A ∈ clq xs, Lt xs k fun w => Bq.sumTo (fun a => Bq.bitQ A a * z (w * xs.length + a)) xs.length
theorem lt_sum {xs : List Int} (g : Gs xs) {q : Rat} (hq : WQ xs q) : ∀ (k : Nat) (z : Nat → Rat), (∀ w, w < xs.length ^ k → 0 ≤ z w) → Lt xs k z → Bq.sumTo z (xs.length ^ k) ≤ qpow q k
  | 0, z, _, h => by
    rw [Nat.pow_zero, Bq.sumTo, Bq.sumTo, Rat.zero_add]; exact h
  | k + 1, z, h0, h => by
    have q1 := hq.ge g
    have hqp : 0 < q := by grind
    have hp := qpow_pos hqp k
    have hp0 : qpow q k ≠ 0 := fun hc => by rw [hc] at hp; exact absurd hp (by decide)
    have hi := Rat.le_of_lt (Rat.inv_pos.2 hp)
    have h0' : ∀ w a, w < xs.length ^ k → a < xs.length → 0 ≤ z (w * xs.length + a) := fun w a hw ha => h0 _ (by rw [Nat.pow_succ]; exact pair_lt hw ha)
    obtain ⟨Z, hZ⟩ : ∃ Z : Nat → Rat, Z = fun a => Bq.sumTo (fun w => z (w * xs.length + a)) (xs.length ^ k) := ⟨_, rfl⟩
    have hZ0 : ∀ a, a < xs.length → 0 ≤ Z a := fun a ha => by rw [hZ]; exact qsum_nn fun w hw => h0' w a hw ha
    have key : ∀ A ∈ clq xs, Bq.dot (Bq.bitQ A) Z xs.length ≤ qpow q k := fun A hA => by
      have h1 := lt_sum g hq k _ (fun w hw => qsum_nn fun a ha => Rat.mul_nonneg (Bq.bitQ_nn _ _) (h0' w a hw ha)) (h A hA)
      rw [Bq.sumTo_swap] at h1
      have e : Bq.dot (Bq.bitQ A) Z xs.length = Bq.sumTo (fun j => Bq.sumTo (fun i => Bq.bitQ A j * z (i * xs.length + j)) (xs.length ^ k)) xs.length := by
        rw [Bq.dot, hZ]
        exact Bq.sumTo_congr fun a _ => by rw [← Bq.sumTo_mul]
      rw [e]; exact h1
    have h3 := hq.1.le (fun a => (qpow q k)⁻¹ * Z a) ⟨fun a ha => Rat.mul_nonneg hi (hZ0 a ha), fun A hA => by
      have h4 := key A hA
      have e : Bq.dot (Bq.bitQ A) (fun a => (qpow q k)⁻¹ * Z a) xs.length = (qpow q k)⁻¹ * Bq.dot (Bq.bitQ A) Z xs.length := by
        rw [Bq.dot, Bq.dot, ← Bq.sumTo_mul]
        exact Bq.sumTo_congr fun a _ => by grind
      rw [e]
      have h5 := Rat.mul_le_mul_of_nonneg_left h4 hi
      rwa [Rat.inv_mul_cancel _ hp0] at h5⟩
    rw [Bq.sumTo_mul] at h3
    have h6 := Rat.mul_le_mul_of_nonneg_left h3 (Rat.le_of_lt hp)
    rw [← Rat.mul_assoc, Rat.mul_inv_cancel _ hp0, Rat.one_mul] at h6
    rw [qpow, Nat.pow_succ, qsum_prod, Bq.sumTo_swap, Rat.mul_comm q, ← hZ]
    exact h6
theorem one_place {n : Nat} {p : Nat → Bool} (h : ∀ a b, a < n → b < n → p a = true → p b = true → a = b) : Bq.sumTo (fun a => if p a = true then (1 : Rat) else 0) n = if (List.range n).any p = true then 1 else 0 := by
  by_cases hc : (List.range n).any p = true
  · rw [if_pos hc]
    obtain ⟨a, ha, hp⟩ := List.any_eq_true.1 hc
    rw [List.mem_range] at ha
    refine (Bq.sumTo_congr fun b hb => ?_).trans (Bq.sumTo_pick (fun _ => (1 : Rat)) ha)
    by_cases e : b = a
    · rw [e, if_pos hp, if_pos rfl]
    · rw [if_neg e, if_neg fun hb2 => e (h b a hb ha hb2 hp)]
  · rw [if_neg hc]
    refine Bq.sumTo_zero fun a ha => if_neg fun hp => hc (List.any_eq_true.2 ⟨a, List.mem_range.2 ha, hp⟩)
theorem code_lt {xs : List Int} (g : Gs xs) : ∀ (k : Nat) (p : Nat → Bool), (∀ w v, w < xs.length ^ k → v < xs.length ^ k → w ≠ v → p w = true → p v = true → cf xs k w v = false) → Lt xs k fun w => if p w = true then 1 else 0
  | 0, p, _ => by
    show (if p 0 = true then (1 : Rat) else 0) ≤ 1
    split <;> decide
  | k + 1, p, h => by
    intro A hA
    obtain ⟨hA1, hA2, hA3⟩ := (mem_clq g).1 hA
    have hn0 : 0 < xs.length := g.1
    have same : ∀ a b, a < xs.length → b < xs.length → A.testBit a = true → A.testBit b = true → nq xs a b = true := fun a b ha hb h1 h2 => by
      rw [nq, Bool.or_eq_true, beq_iff_eq]
      by_cases e : a = b
      · exact .inl e
      · exact .inr (hA3 a ha h1 b (Ne.symm e) h2)
    have cfs : ∀ w v a b, a < xs.length → b < xs.length → cf xs (k + 1) (w * xs.length + a) (v * xs.length + b) = (nq xs a b && cf xs k w v) := fun w v a b ha hb => by
      rw [cf, pair_mod ha, pair_mod hb, pair_div ha, pair_div hb]; rfl
    have e : (fun w => Bq.sumTo (fun a => Bq.bitQ A a * (fun w => if p w = true then (1 : Rat) else 0) (w * xs.length + a)) xs.length) = fun w => Bq.sumTo (fun a => if (A.testBit a && p (w * xs.length + a)) = true then (1 : Rat) else 0) xs.length := by
      funext w
      refine Bq.sumTo_congr fun a _ => ?_
      show Bq.bitQ A a * (if p (w * xs.length + a) = true then (1 : Rat) else 0) = _
      rw [Bq.bitQ]
      cases A.testBit a <;> cases p (w * xs.length + a) <;> simp
    rw [e]
    have hone : ∀ w, w < xs.length ^ k → Bq.sumTo (fun a => if (A.testBit a && p (w * xs.length + a)) = true then (1 : Rat) else 0) xs.length = if (List.range xs.length).any (fun a => A.testBit a && p (w * xs.length + a)) = true then 1 else 0 := fun w hw => by
      refine one_place fun a b ha hb h1 h2 => Classical.byContradiction fun hne => ?_
      rw [Bool.and_eq_true] at h1 h2
      have := h (w * xs.length + a) (w * xs.length + b) (by rw [Nat.pow_succ]; exact pair_lt hw ha) (by rw [Nat.pow_succ]; exact pair_lt hw hb) (by omega) h1.2 h2.2
      rw [cfs w w a b ha hb, same a b ha hb h1.1 h2.1, cf_self] at this; cases this
    have ih := code_lt g k (fun w => (List.range xs.length).any fun a => A.testBit a && p (w * xs.length + a)) fun w v hw hv hne h1 h2 => by
      obtain ⟨a, ha, h1⟩ := List.any_eq_true.1 h1
      obtain ⟨b, hb, h2⟩ := List.any_eq_true.1 h2
      rw [List.mem_range] at ha hb
      rw [Bool.and_eq_true] at h1 h2
      have hne2 : w * xs.length + a ≠ v * xs.length + b := fun hc => hne (by
        have := congrArg (· / xs.length) hc
        simpa only [pair_div ha, pair_div hb] using this)
      have := h _ _ (by rw [Nat.pow_succ]; exact pair_lt hw ha) (by rw [Nat.pow_succ]; exact pair_lt hv hb) hne2 h1.2 h2.2
      rw [cfs w v a b ha hb, same a b ha hb h1.1 h2.1, Bool.true_and] at this
      exact this
    have congr : ∀ (k : Nat) {y z : Nat → Rat}, (∀ w, w < xs.length ^ k → y w = z w) → Lt xs k z → Lt xs k y := by
      intro k
      induction k with
      | zero => intro y z hyz hz; show y 0 ≤ 1; rw [hyz 0 (by simp)]; exact hz
      | succ k ih2 =>
        intro y z hyz hz A hA
        refine ih2 (fun w hw => Bq.sumTo_congr fun a ha => ?_) (hz A hA)
        rw [hyz _ (by rw [Nat.pow_succ]; exact pair_lt hw ha)]
    exact congr k hone ih
theorem count_sum (p : Nat → Bool) : ∀ n, Bq.sumTo (fun w => if p w = true then (1 : Rat) else 0) n = (((List.range n).countP p : Nat) : Rat)
  | 0 => rfl
  | n + 1 => by
    rw [Bq.sumTo, count_sum p n, List.range_succ, List.countP_append, Rat.natCast_add]
    congr 1
    cases hp : p n <;> simp [hp]
theorem code_nat {xs : List Int} {k : Nat} {c : List Int} (hc : code xs k c = true) : (c.map Int.toNat).Nodup ∧ (∀ w ∈ c.map Int.toNat, w < wn xs k) ∧ ∀ w v, w ∈ c.map Int.toNat → v ∈ c.map Int.toNat → w ≠ v → cf xs k w v = false ∨ cf xs k v w = false := by
  obtain ⟨h1, h2⟩ := code_pw.1 hc
  refine ⟨?_, fun w hw => ?_, fun w v hw hv hne => ?_⟩
  · refine List.pairwise_map.2 (h2.imp_of_mem fun {x y} hx hy h => ?_)
    have := h1 x hx
    have := h1 y hy
    have := h.1
    omega
  · obtain ⟨x, hx, rfl⟩ := List.mem_map.1 hw
    have := h1 x hx
    omega
  · obtain ⟨x, hx, rfl⟩ := List.mem_map.1 hw
    obtain ⟨y, hy, rfl⟩ := List.mem_map.1 hv
    obtain ⟨i, hi, rfl⟩ := List.mem_iff_getElem.1 hx
    obtain ⟨j, hj, rfl⟩ := List.mem_iff_getElem.1 hy
    have h3 := List.pairwise_iff_getElem.1 h2
    rcases Nat.lt_trichotomy i j with h | h | h
    · exact .inr (h3 i j hi hj h).2
    · subst h; exact absurd rfl hne
    · exact .inl (h3 j i hj hi h).2
theorem code_cf {xs : List Int} (g : Gs xs) {k : Nat} {c : List Int} (hc : code xs k c = true) {w v : Nat} (hw : w ∈ c.map Int.toNat) (hv : v ∈ c.map Int.toNat) (hne : w ≠ v) : cf xs k w v = false := by
  rcases (code_nat hc).2.2 w v hw hv hne with h | h
  · exact h
  · rw [cf_comm g]; exact h
theorem code_weigh {xs : List Int} (g : Gs xs) {q : Rat} (hq : WQ xs q) {k : Nat} {c : List Int} (hc : code xs k c = true) : ((c.length : Nat) : Rat) ≤ qpow q k := by
  obtain ⟨h1, h2, h3⟩ := code_nat hc
  have h4 := lt_sum g hq k _ (fun w _ => by split <;> decide) (code_lt g k (fun w => (c.map Int.toNat).contains w) fun w v _ _ hne hw hv => code_cf g hc (List.contains_iff_mem.1 hw) (List.contains_iff_mem.1 hv) hne)
  rw [count_sum] at h4
  have h5 := cnt_mem (L := List.range (xs.length ^ k)) List.nodup_range _ h1 fun w hw => List.mem_range.2 (h2 w hw)
  rw [h5, List.length_map] at h4
  exact h4
def Wu (x : Int) : Nat → Int
  | 0 => 1
  | k + 1 => Wu x k * x
theorem ipow_abs {x : Int} {X : Nat} (h : x.natAbs ≤ X) : ∀ k, (Wu x k).natAbs ≤ X ^ k
  | 0 => by rw [Wu]; exact Nat.le_refl _
  | k + 1 => by rw [Wu, Int.natAbs_mul, Nat.pow_succ]; exact Nat.mul_le_mul (ipow_abs h k) h
theorem ipow_pos {x : Int} (h : 0 < x) : ∀ k, 0 < Wu x k
  | 0 => by rw [Wu]; decide
  | k + 1 => by rw [Wu]; exact Int.mul_pos (ipow_pos h k) h
theorem ipow_nat (m : Nat) : ∀ k, Wu (m : Int) k = ((m ^ k : Nat) : Int)
  | 0 => rfl
  | k + 1 => by rw [Wu, ipow_nat m k, Nat.pow_succ, Int.natCast_mul]
theorem qpow_ints (q : Rat) : ∀ k, ((Wu q.num k : Int) : Rat) = qpow q k * ((Wu q.den k : Int) : Rat)
  | 0 => by rw [Wu, Wu, qpow, Rat.one_mul]
  | k + 1 => by rw [Wu, Wu, qpow, Rat.intCast_mul, Rat.intCast_mul, qpow_ints q k, num_eq q]; grind
theorem code_ints {xs : List Int} (g : Gs xs) {q : Rat} (hq : WQ xs q) {k : Nat} {c : List Int} (hc : code xs k c = true) : (c.length : Int) * Wu q.den k ≤ Wu q.num k := by
  have h1 := code_weigh g hq hc
  have h2 := ipow_pos (x := (q.den : Int)) (by have := q.den_pos; omega) k
  have h3 := Rat.mul_le_mul_of_nonneg_right h1 (Rat.le_of_lt (Rat.intCast_pos.2 h2))
  rw [← qpow_ints] at h3
  have e : (((c.length : Int) * Wu q.den k : Int) : Rat) = ((c.length : Nat) : Rat) * ((Wu q.den k : Int) : Rat) := by rw [Rat.intCast_mul]; rfl
  rw [← e] at h3
  exact Rat.intCast_le_intCast.1 h3
theorem weigh_cov_int {xs : List Int} (g : Gs xs) {q : Rat} (hq : WQ xs q) : q.num ≤ (cov xs : Int) * q.den := by
  have h := weigh_cov g hq
  rw [Rat.le_iff] at h
  have e1 : (((cov xs : Nat) : Rat)).num = ((cov xs : Nat) : Int) := rfl
  have e2 : (((cov xs : Nat) : Rat)).den = 1 := rfl
  rw [e1, e2] at h
  omega
/-! ### Ranks -/
theorem cm_rows {g : Nat → Nat} {n : Nat} : ∀ {k i : Nat} {c : List Nat}, Rn.Cm g n k i c → c.length = k ∧ ∀ t, t < k → Rn.okRow g n (i + t) (c.getD t 0)
  | 0, i, c, h => by
    rw [Rn.Cm] at h; subst h
    exact ⟨rfl, fun t ht => by omega⟩
  | k + 1, i, c, h => by
    obtain ⟨r, d, rfl, h1, h2⟩ := h
    obtain ⟨h3, h4⟩ := cm_rows h2
    refine ⟨by rw [List.length_cons, h3], fun t ht => ?_⟩
    cases t with
    | zero => exact h1
    | succ t =>
      have := h4 t (by omega)
      rw [show i + 1 + t = i + (t + 1) by omega] at this
      exact this
theorem fit_le {xs : List Int} {m : Nat} (hm : FitM xs m) : m ≤ xs.length := hm.2.1
theorem fit_vec {xs : List Int} (g : Gs xs) {m : Nat} (hm : FitM xs m) : m = xs.length ∨ ∃ a b : Nat → Nat → Bool, ∀ i, i < xs.length → Rn.ip m (a i) (b i) = true ∧ ∀ j, j < xs.length → nq xs i j = false → Rn.ip m (a i) (b j) = false := by
  rcases hm.1 with h | ⟨c, hc, hd⟩
  · exact .inl h
  · right
    rw [List.nil_append] at hd
    obtain ⟨hl, hr⟩ := cm_rows hc
    obtain ⟨B, hB1, hB2, hB3⟩ := Rn.base_ex c
    have hlt : ∀ x ∈ c, x < 2 ^ xs.length := fun x hx => by
      obtain ⟨t, ht, rfl⟩ := List.mem_iff_getElem.1 hx
      have := (hr t (by omega)).1
      rwa [List.getD, List.getElem?_eq_getElem ht, Option.getD_some] at this
    have hBl : m = B.length := by
      rw [hd, ← Rn.dim_congr hB3]
      exact Rn.dim_ind (fun x hx => hlt x (hB1 x hx)) hB2
    have hco : ∀ i, ∃ a : Nat → Bool, i < xs.length → ∀ t, (c.getD i 0).testBit t = Rn.ip B.length a fun j => (B.getD j 0).testBit t := fun i => by
      by_cases hi : i < xs.length
      · have hS : Rn.S B (c.getD i 0) = true := by
          rw [hB3]
          refine Rn.S_mem ?_
          rw [List.getD, List.getElem?_eq_getElem (by omega)]
          exact List.getElem_mem _
        obtain ⟨a, ha⟩ := Rn.S_coef hS
        exact ⟨a, fun _ => ha⟩
      · exact ⟨fun _ => false, fun h => absurd h hi⟩
    refine ⟨fun i => (hco i).choose, fun j t => (B.getD t 0).testBit j, fun i hi => ?_⟩
    have ha := (hco i).choose_spec hi
    have hrow := hr i hi
    rw [Nat.zero_add] at hrow
    rw [hBl]
    refine ⟨by rw [← ha]; exact hrow.2.1, fun j hj hn => ?_⟩
    rw [← ha]
    rw [nq, Bool.or_eq_false_iff, beq_eq_false_iff_ne] at hn
    cases hb : (c.getD i 0).testBit j with
    | false => rfl
    | true =>
      have := hrow.2.2 j (Ne.symm hn.1) hb
      rw [gn_bit, hn.2] at this; cases this
theorem ten_eq {xs : List Int} (g : Gs xs) {m : Nat} {a b : Nat → Nat → Bool} (h : ∀ i, i < xs.length → Rn.ip m (a i) (b i) = true ∧ ∀ j, j < xs.length → nq xs i j = false → Rn.ip m (a i) (b j) = false) : ∀ k w, Rn.ip (m ^ k) (Rn.ten xs.length m a k w) (Rn.ten xs.length m b k w) = true ∧ ∀ v, cf xs k w v = false → Rn.ip (m ^ k) (Rn.ten xs.length m a k w) (Rn.ten xs.length m b k v) = false
  | 0, w => ⟨rfl, fun v hv => by rw [cf] at hv; cases hv⟩
  | k + 1, w => by
    have hn0 : 0 < xs.length := g.1
    obtain ⟨h1, h2⟩ := ten_eq g h k (w / xs.length)
    obtain ⟨h3, h4⟩ := h _ (Nat.mod_lt w hn0)
    refine ⟨by rw [Rn.ten_ip, h1, h3]; rfl, fun v hv => ?_⟩
    rw [Rn.ten_ip]
    rw [cf] at hv
    rcases Bool.and_eq_false_iff.1 hv with hv | hv
    · rw [h4 _ (Nat.mod_lt v hn0) hv, Bool.and_false]
    · rw [h2 _ hv, Bool.false_and]
theorem code_fit {xs : List Int} (g : Gs xs) {m : Nat} (hm : FitM xs m) {k : Nat} {c : List Int} (hc : code xs k c = true) : c.length ≤ m ^ k := by
  obtain ⟨h1, h2, _⟩ := code_nat hc
  rcases fit_vec g hm with rfl | ⟨a, b, hab⟩
  · have := Rn.cnt_sub (L := List.range (wn xs k)) List.nodup_range _ h1 fun w hw => List.mem_range.2 (h2 w hw)
    rw [List.length_map, List.length_range] at this
    exact this
  · have := Rn.dual_len (N := m ^ k) (ta := Rn.ten xs.length m a k) (tb := Rn.ten xs.length m b k) (c := c.map Int.toNat) (fun w _ => (ten_eq g hab k w).1) (h1.imp_of_mem fun {w v} hw hv hne => (ten_eq g hab k v).2 w (code_cf g hc hv hw (Ne.symm hne)))
    rwa [List.length_map] at this
theorem fit_pos {xs : List Int} (g : Gs xs) {m : Nat} (hm : FitM xs m) : 1 ≤ m := by
  have hn0 : 0 < xs.length := g.1
  rcases fit_vec g hm with rfl | ⟨a, b, hab⟩
  · exact hn0
  · refine Nat.pos_of_ne_zero fun h => ?_
    have := (hab 0 hn0).1
    rw [h] at this; cases this
end Go.Proofs.Tryd.Am

namespace Go.Proofs.Tryd.Am
open Go.Am
set_option maxRecDepth 100000
/-! 15: planchet planchetlaw05.SureBounds -/
@[reducible] def q15_0 : SCode := .region [⟨some 4, .assign (.const (.bool false)), none⟩]
@[reducible] def q15_1 : SCode := .region [⟨some 17, .move (.tmp 0), none⟩,
    ⟨some 18, .call { callee := .value (.func 18), args := #[.tmp 17], argTypes := #[22] }, none⟩,
    ⟨some 19, .move (.tmp 1), none⟩,
    ⟨some 20, .call { callee := .value (.func 19), args := #[.tmp 18, .tmp 19], argTypes := #[22, 3] }, none⟩,
    ⟨some 16, .move (.tmp 20), none⟩,
    ⟨some 21, .extract (.tmp 16) 0, none⟩,
    ⟨some 22, .extract (.tmp 16) 1, none⟩,
    ⟨some 5, .assign (.tmp 21), none⟩,
    ⟨some 6, .assign (.tmp 22), none⟩]
@[reducible] def q15_2 : SCode := .region [⟨some 24, .move (.tmp 0), none⟩,
    ⟨some 25, .call { callee := .value (.func 18), args := #[.tmp 24], argTypes := #[22] }, none⟩,
    ⟨some 26, .call { callee := .value (.func 35), args := #[.tmp 25], argTypes := #[22] }, none⟩,
    ⟨some 23, .move (.tmp 26), none⟩,
    ⟨some 27, .extract (.tmp 23) 0, none⟩,
    ⟨some 28, .extract (.tmp 23) 1, none⟩,
    ⟨some 7, .alloc 44, none⟩,
    ⟨none, .store 44 (.tmp 7) (.tmp 27), none⟩,
    ⟨some 8, .assign (.tmp 28), none⟩]
@[reducible] def q15_3 : SCode := .region [⟨some 30, .move (.tmp 0), none⟩,
    ⟨some 31, .call { callee := .value (.func 18), args := #[.tmp 30], argTypes := #[22] }, none⟩,
    ⟨some 32, .call { callee := .value (.func 28), args := #[.tmp 31], argTypes := #[22] }, none⟩,
    ⟨some 29, .move (.tmp 32), none⟩,
    ⟨some 33, .extract (.tmp 29) 0, none⟩,
    ⟨some 34, .extract (.tmp 29) 1, none⟩,
    ⟨some 9, .assign (.tmp 33), none⟩,
    ⟨some 10, .assign (.tmp 34), none⟩]
@[reducible] def q15_4 : SCode := .region [⟨some 35, .move (.tmp 6), none⟩,
    ⟨some 36, .binOp .neq 23 (.tmp 35) (.const (.int .i64 0)) 23, none⟩,
    ⟨some 37, .move (.tmp 36), none⟩,
    ⟨some 38, .move (.tmp 0), some (37, false)⟩,
    ⟨some 39, .call { callee := .value (.func 20), args := #[.tmp 38], argTypes := #[22] }, some (37, false)⟩,
    ⟨some 40, .unOp .not 4 (.tmp 39), some (37, false)⟩,
    ⟨some 41, .pick (.tmp 37) (.const (.bool true)) (.tmp 40), none⟩,
    ⟨some 42, .move (.tmp 41), none⟩,
    ⟨some 43, .move (.tmp 1), some (42, false)⟩,
    ⟨some 44, .binOp .lss 3 (.tmp 43) (.const (.int .i64 1)) 3, some (42, false)⟩,
    ⟨some 45, .pick (.tmp 42) (.const (.bool true)) (.tmp 44), none⟩,
    ⟨some 46, .move (.tmp 45), none⟩,
    ⟨some 47, .move (.tmp 1), some (46, false)⟩,
    ⟨some 48, .binOp .gtr 3 (.tmp 47) (.const (.int .i64 3)) 3, some (46, false)⟩,
    ⟨some 49, .pick (.tmp 46) (.const (.bool true)) (.tmp 48), none⟩]
@[reducible] def q15_5 : SCode := .region [⟨some 50, .move (.tmp 6), none⟩,
    ⟨some 51, .binOp .eql 23 (.tmp 50) (.const (.int .i64 2)) 23, none⟩,
    ⟨some 52, .move (.tmp 51), none⟩,
    ⟨some 53, .move (.tmp 6), some (52, false)⟩,
    ⟨some 54, .binOp .eql 23 (.tmp 53) (.const (.int .i64 6)) 23, some (52, false)⟩,
    ⟨some 55, .pick (.tmp 52) (.const (.bool true)) (.tmp 54), none⟩,
    ⟨some 56, .move (.tmp 55), none⟩,
    ⟨some 57, .call { callee := .value (.func 21), args := #[], argTypes := #[] }, some (56, true)⟩,
    ⟨some 58, .pick (.tmp 56) (.tmp 57) (.const (.bool false)), none⟩,
    ⟨some 4, .assign (.tmp 58), none⟩]
@[reducible] def q15_6 : SCode := .region [⟨some 59, .move (.tmp 8), none⟩,
    ⟨some 60, .binOp .neq 23 (.tmp 59) (.const (.int .i64 0)) 23, none⟩,
    ⟨some 61, .move (.tmp 60), none⟩,
    ⟨some 62, .move (.tmp 10), some (61, false)⟩,
    ⟨some 63, .binOp .neq 23 (.tmp 62) (.const (.int .i64 0)) 23, some (61, false)⟩,
    ⟨some 64, .pick (.tmp 61) (.const (.bool true)) (.tmp 63), none⟩,
    ⟨some 65, .move (.tmp 64), none⟩,
    ⟨some 66, .load 44 (.tmp 7), some (65, false)⟩,
    ⟨some 67, .call { callee := .value (.func 36), args := #[.tmp 66], argTypes := #[44] }, some (65, false)⟩,
    ⟨some 68, .unOp .not 4 (.tmp 67), some (65, false)⟩,
    ⟨some 69, .pick (.tmp 65) (.const (.bool true)) (.tmp 68), none⟩,
    ⟨some 70, .move (.tmp 69), none⟩,
    ⟨some 71, .fieldAddr 44 (.tmp 7) 0, some (70, false)⟩,
    ⟨some 72, .load 3 (.tmp 71), some (70, false)⟩,
    ⟨some 73, .move (.tmp 9), some (70, false)⟩,
    ⟨some 74, .fieldAddr 44 (.tmp 7) 1, some (70, false)⟩,
    ⟨some 75, .load 3 (.tmp 74), some (70, false)⟩,
    ⟨some 76, .binOp .mul 3 (.tmp 73) (.tmp 75) 3, some (70, false)⟩,
    ⟨some 77, .binOp .gtr 3 (.tmp 72) (.tmp 76) 3, some (70, false)⟩,
    ⟨some 78, .pick (.tmp 70) (.const (.bool true)) (.tmp 77), none⟩]
@[reducible] def q15_7 : SCode := .region [⟨some 4, .assign (.const (.bool false)), none⟩]
@[reducible] def q15_8 : SCode := .region [⟨some 11, .assign (.const (.int .i64 1)), none⟩,
    ⟨some 12, .assign (.const (.int .i64 1)), none⟩]
@[reducible] def q15_9 : SCode := .region [⟨some 79, .move (.tmp 1), none⟩,
    ⟨some 80, .move (.const (.int .i64 0)), none⟩]
@[reducible] def q15_10 : SCode := .region [⟨some 81, .binOp .lss 3 (.tmp 80) (.tmp 79) 3, none⟩]
def q15_11 : SCode := .draw [⟨some 82, .move (.tmp 11), none⟩,
    ⟨some 83, .fieldAddr 44 (.tmp 7) 0, none⟩,
    ⟨some 84, .load 3 (.tmp 83), none⟩,
    ⟨some 85, .binOp .mul 3 (.tmp 82) (.tmp 84) 3, none⟩,
    ⟨some 86, .move (.tmp 12), none⟩,
    ⟨some 87, .fieldAddr 44 (.tmp 7) 1, none⟩,
    ⟨some 88, .load 3 (.tmp 87), none⟩,
    ⟨some 89, .binOp .mul 3 (.tmp 86) (.tmp 88) 3, none⟩,
    ⟨some 11, .assign (.tmp 85), none⟩,
    ⟨some 12, .assign (.tmp 89), none⟩]
   [[], [], [1], [0, 2], [], [], [5], [4, 6], [3, 0, 1, 2, 3], [7, 8, 0, 1, 2, 3, 4, 5, 6, 7, 8]]
@[reducible] def q15_12 : SCode := .region [⟨some 90, .binOp .add 3 (.tmp 80) (.const (.int .i64 1)) 3, none⟩,
    ⟨some 80, .move (.tmp 90), none⟩]
def l15_0 : SCode := (.seq q15_10 (.seq (.cond (.tmp 81) .skip (.exit 0)) (.seq (.block 1 q15_11) q15_12)))
@[reducible] def q15_13 : SCode := .region [⟨some 91, .move (.tmp 5), none⟩,
    ⟨some 92, .call { callee := .builtin .len, args := #[.tmp 91], argTypes := #[22] }, none⟩,
    ⟨some 93, .move (.tmp 12), none⟩,
    ⟨some 94, .binOp .mul 3 (.tmp 92) (.tmp 93) 3, none⟩,
    ⟨some 95, .move (.tmp 11), none⟩,
    ⟨some 96, .binOp .gtr 3 (.tmp 94) (.tmp 95) 3, none⟩]
@[reducible] def q15_14 : SCode := .region [⟨some 4, .assign (.const (.bool false)), none⟩]
@[reducible] def q15_15 : SCode := .region [⟨some 98, .move (.tmp 0), none⟩,
    ⟨some 99, .call { callee := .value (.func 18), args := #[.tmp 98], argTypes := #[22] }, none⟩,
    ⟨some 100, .call { callee := .value (.func 49), args := #[.tmp 99], argTypes := #[22] }, none⟩,
    ⟨some 97, .move (.tmp 100), none⟩,
    ⟨some 101, .extract (.tmp 97) 0, none⟩,
    ⟨some 102, .extract (.tmp 97) 1, none⟩,
    ⟨some 13, .assign (.tmp 101), none⟩,
    ⟨some 14, .assign (.tmp 102), none⟩]
@[reducible] def q15_16 : SCode := .region [⟨some 103, .move (.tmp 14), none⟩,
    ⟨some 104, .binOp .neq 23 (.tmp 103) (.const (.int .i64 0)) 23, none⟩]
@[reducible] def q15_17 : SCode := .region [⟨some 105, .move (.tmp 14), none⟩,
    ⟨some 106, .binOp .eql 23 (.tmp 105) (.const (.int .i64 2)) 23, none⟩,
    ⟨some 107, .move (.tmp 106), none⟩,
    ⟨some 108, .move (.tmp 0), some (107, true)⟩,
    ⟨some 109, .call { callee := .builtin .len, args := #[.tmp 108], argTypes := #[22] }, some (107, true)⟩,
    ⟨some 110, .binOp .gtr 3 (.tmp 109) (.const (.int .i64 5)) 3, some (107, true)⟩,
    ⟨some 111, .pick (.tmp 107) (.tmp 110) (.const (.bool false)), none⟩,
    ⟨some 112, .move (.tmp 111), none⟩,
    ⟨some 113, .call { callee := .value (.func 21), args := #[], argTypes := #[] }, some (112, true)⟩,
    ⟨some 114, .pick (.tmp 112) (.tmp 113) (.const (.bool false)), none⟩,
    ⟨some 4, .assign (.tmp 114), none⟩]
@[reducible] def q15_18 : SCode := .region [⟨some 15, .assign (.const (.int .i64 1)), none⟩]
@[reducible] def q15_19 : SCode := .region [⟨some 115, .move (.tmp 1), none⟩,
    ⟨some 116, .move (.const (.int .i64 0)), none⟩]
@[reducible] def q15_20 : SCode := .region [⟨some 117, .binOp .lss 3 (.tmp 116) (.tmp 115) 3, none⟩]
@[reducible] def q15_21 : SCode := .region [⟨some 118, .move (.tmp 15), none⟩,
    ⟨some 119, .move (.tmp 13), none⟩,
    ⟨some 120, .binOp .mul 3 (.tmp 118) (.tmp 119) 3, none⟩,
    ⟨some 15, .assign (.tmp 120), none⟩]
@[reducible] def q15_22 : SCode := .region [⟨some 121, .binOp .add 3 (.tmp 116) (.const (.int .i64 1)) 3, none⟩,
    ⟨some 116, .move (.tmp 121), none⟩]
def l15_1 : SCode := (.seq q15_20 (.seq (.cond (.tmp 117) .skip (.exit 2)) (.seq (.block 3 q15_21) q15_22)))
@[reducible] def q15_23 : SCode := .region [⟨some 122, .move (.tmp 13), none⟩,
    ⟨some 123, .binOp .geq 3 (.tmp 122) (.const (.int .i64 1)) 3, none⟩,
    ⟨some 124, .move (.tmp 123), none⟩,
    ⟨some 125, .move (.tmp 13), some (124, true)⟩,
    ⟨some 126, .move (.tmp 0), some (124, true)⟩,
    ⟨some 127, .call { callee := .builtin .len, args := #[.tmp 126], argTypes := #[22] }, some (124, true)⟩,
    ⟨some 128, .binOp .leq 3 (.tmp 125) (.tmp 127) 3, some (124, true)⟩,
    ⟨some 129, .pick (.tmp 124) (.tmp 128) (.const (.bool false)), none⟩,
    ⟨some 130, .move (.tmp 129), none⟩,
    ⟨some 131, .move (.tmp 5), some (130, true)⟩,
    ⟨some 132, .call { callee := .builtin .len, args := #[.tmp 131], argTypes := #[22] }, some (130, true)⟩,
    ⟨some 133, .move (.tmp 15), some (130, true)⟩,
    ⟨some 134, .binOp .leq 3 (.tmp 132) (.tmp 133) 3, some (130, true)⟩,
    ⟨some 135, .pick (.tmp 130) (.tmp 134) (.const (.bool false)), none⟩,
    ⟨some 136, .move (.tmp 135), none⟩,
    ⟨some 137, .call { callee := .value (.func 21), args := #[], argTypes := #[] }, some (136, true)⟩,
    ⟨some 138, .pick (.tmp 136) (.tmp 137) (.const (.bool false)), none⟩,
    ⟨some 4, .assign (.tmp 138), none⟩]
def s15 : SCode := (.seq q15_0 (.seq q15_1 (.seq q15_2 (.seq q15_3 (.seq (.seq q15_4 (.cond (.tmp 49) (.seq q15_5 .ret) .skip)) (.seq (.seq q15_6 (.cond (.tmp 78) (.seq q15_7 .ret) .skip)) (.seq q15_8 (.seq (.seq q15_9 (.block 0 (.loop l15_0))) (.seq (.seq q15_13 (.cond (.tmp 96) (.seq q15_14 .ret) .skip)) (.seq q15_15 (.seq (.seq q15_16 (.cond (.tmp 104) (.seq q15_17 .ret) .skip)) (.seq q15_18 (.seq (.seq q15_19 (.block 2 (.loop l15_1))) (.seq q15_23 .ret))))))))))))))
theorem s15_strip : Zs (Zt Tryd.f15) = s15 := by kernel_rfl
theorem s15_ok : Yh 139 (Zt Tryd.f15) = true := by kernel_rfl
end Go.Proofs.Tryd.Am

namespace Go.Proofs.Tryd.Am
open Go.Am Sr
set_option maxRecDepth 100000
set_option maxHeartbeats 4000000

theorem cov_le {xs : List Int} : cov xs ≤ xs.length := by
  rw [cov_eq]
  by_cases h : 2 ^ xs.length - 1 = 0
  · rw [h, cvV_zero]; exact Nat.zero_le _
  · exact (cvV_spec (C := clq xs) (n := xs.length) (by omega) (by omega)).2.1
theorem cover_form {xs : List Int} {r : Value} (hr : r = if grs xs = true then .tuple #[Zd (cov xs : Nat), .int .i64 0] else .tuple #[.int .i64 0, .int .i64 2]) : ∃ x e, r = .tuple #[Zd x, .int .i64 e] ∧ (grs xs = true → x = (cov xs : Nat) ∧ e = 0) := by
  by_cases hg : grs xs = true
  · rw [if_pos hg] at hr; exact ⟨_, _, hr, fun _ => ⟨rfl, rfl⟩⟩
  · rw [if_neg hg] at hr; exact ⟨_, _, hr, fun h => absurd h hg⟩
theorem s15_callW [Tabs Tryd.prog] {args : List Value} {h : Zh} {Q : Value → Zh → Prop} (hsz : args.length ≤ 139) (hk : AWS Tryd.prog 139 s15 (Zr Tryd.prog [.tmp 4] Q) (Zp 0 args) h) : ACall Tryd.prog 15 args h Q :=
  Xb Tryd.func15 rfl (enters_of Tryd.func15 (by kernel_rfl) rfl) rfl rfl (by decide) s15_strip s15_ok hsz hk
theorem law_bounds [BitTab prog 0] {h : Zh} {v : Value} {xs : List Int} (hv : IntSl h v xs) (hl : xs.length < 9223372036854775808) (hx : ∀ x ∈ xs, -9223372036854775808 ≤ x ∧ x < 9223372036854775808) (k : Int) :
    ACall prog 15 [v, Zd k] h fun r _ => r = .bool true := by
  have e22 : ((2 : Int) == 2) = true := rfl
  have e62 : ((6 : Int) == 2) = false := rfl
  have e66 : ((6 : Int) == 6) = true := rfl
  have n00 : ((0 : Int) != 0) = false := rfl
  have n20 : ((2 : Int) != 0) = true := rfl
  have n60 : ((6 : Int) != 0) = true := rfl
  refine s15_callW (by simp) ?_
  simp only [s15]
  refine Zg fun N1 hN1 => ?_
  simp (maxSteps := 2000000) only [↓Za, ↓Zb, ↓Zc, vup, cond_false, aop, Zf, Zp, ev, sput, Ze, Nat.reduceBEq, Nat.reduceAdd]
  refine hN1 [(0, v), (1, Zd k), (4, .bool false)] _ _ ?_ (by simp (maxSteps := 2000000) only [vup, cond_true, cond_false, Nat.reduceBEq])
  clear hN1
  try clear N1
  refine Zg fun N2 hN2 => ?_
  simp (maxSteps := 2000000) only [↓Za, ↓Zb, ↓Zc, vup, List.map_cons, List.map_nil, cond_true, cond_false, aop, Zf, ev, sput, Ze, Nat.reduceBEq, Ym, List.nil_append, List.append_nil]
  refine (list_call hv hl).mono ?_
  rintro l1 _ ⟨hl1, g1, rfl⟩
  refine (code_call (k := k) hl1 (take80_len xs) (take80_rng hx)).mono ?_
  rintro r1 h1 ⟨hE1, hr1⟩
  obtain ⟨w1, e1, rfl, hc1⟩ := codeR_form (codeR_take hr1)
  simp (maxSteps := 2000000) only [extr_20, extr_21]
  refine hN2 [(0, v), (1, Zd k), (4, .bool false), (5, w1), (6, .int .i64 e1)] _ _ ?_ (by simp (maxSteps := 2000000) only [vup, cond_true, cond_false, Nat.reduceBEq])
  clear hN2
  try clear N2
  have hE01 := (Ext.app (fun _ => False) h g1).trans hE1
  have hv1 := Xl hv hE01
  refine Zg fun N3 hN3 => ?_
  simp (maxSteps := 2000000) only [↓Za, ↓Zb, ↓Zc, vup, List.map_cons, List.map_nil, cond_true, cond_false, aop, Zf, ev, sput, Ze, Nat.reduceBEq, Ym, List.nil_append, List.append_nil]
  refine (list_call hv1 hl).mono ?_
  rintro l2 _ ⟨hl2, g2, rfl⟩
  refine (weigh_call hl2 (take80_len xs) (take80_rng hx)).mono ?_
  rintro r2 h2 ⟨hE2, hr2⟩
  obtain ⟨px, py, e2, rfl, hf2⟩ := weighR_form (weighR_take hr2 (grs_take xs) grs_same)
  simp (maxSteps := 2000000) only [extr_20, extr_21, tyf, Wn, Xn, newF]
  have hE12 := ((Ext.app (fun _ => False) h1 g2).trans hE2).trans (Ext.app _ _ [Blk.cells [Zd px, Zd py] 44 false])
  have c7 := Xa h2 (Blk.cells [Zd px, Zd py] 44 false)
  generalize h2 ++ [Blk.cells [Zd px, Zd py] 44 false] = H2 at hE12 c7 ⊢
  generalize h2.length = b7 at c7 ⊢
  refine hN3 [(0, v), (1, Zd k), (4, .bool false), (5, w1), (6, .int .i64 e1), (7, .pointer (some ⟨b7, 0, none⟩)), (8, .int .i64 e2)] _ _ ?_ (by simp (maxSteps := 2000000) only [vup, cond_true, cond_false, Nat.reduceBEq])
  clear hN3
  try clear N3
  have hv2 := Xl hv1 hE12
  refine Zg fun N4 hN4 => ?_
  simp (maxSteps := 2000000) only [↓Za, ↓Zb, ↓Zc, vup, List.map_cons, List.map_nil, cond_true, cond_false, aop, Zf, ev, sput, Ze, Nat.reduceBEq, Ym, List.nil_append, List.append_nil]
  refine (list_call hv2 hl).mono ?_
  rintro l3 _ ⟨hl3, g3, rfl⟩
  refine (cover_call hl3 (take80_len xs) (take80_rng hx)).mono ?_
  rintro r3 h3 ⟨hE3, hr3⟩
  obtain ⟨cx, e3, rfl, hf3⟩ := cover_form hr3
  simp (maxSteps := 2000000) only [extr_20, extr_21]
  refine hN4 [(0, v), (1, Zd k), (4, .bool false), (5, w1), (6, .int .i64 e1), (7, .pointer (some ⟨b7, 0, none⟩)), (8, .int .i64 e2), (9, Zd cx), (10, .int .i64 e3)] _ _ ?_ (by simp (maxSteps := 2000000) only [vup, cond_true, cond_false, Nat.reduceBEq])
  clear hN4
  try clear N4
  have hE23 := (Ext.app (fun _ => False) H2 g3).trans hE3
  have hv3 := Xl hv2 hE23
  have d7 := (hE23.2 _ (Yp c7) id).trans c7
  clear hr1 hr2 hr3 hl1 hl2 hl3 hE1 hE2 hE3 hE01 c7 hv1 hv2
  refine Zo fun A hA => ?_
  rcases hc1 with ⟨c1, rfl, rfl⟩ | ⟨c1, c1', rfl, rfl⟩ | ⟨c1, c1', co1, rfl⟩
  · skip
    refine Zg fun N5 hN5 => ?_
    simp (maxSteps := 2000000) only [↓Za, ↓Zb, ↓Zc, ↓vdn, vup, cond_true, cond_false, aop, Zf, ev, sput, Ze, Zw, Zy, Nat.reduceBEq, n20]
    refine hN5 [(0, v), (1, Zd k), (4, .bool false), (5, .slice none 0 0), (6, .int .i64 2), (7, .pointer (some ⟨b7, 0, none⟩)), (8, .int .i64 e2), (9, Zd cx), (10, .int .i64 e3), (49, .bool true)] _ _ ?_ (by simp (maxSteps := 2000000) only [vup, cond_true, cond_false, Nat.reduceBEq])
    clear hN5
    try clear N5
    refine Xd rfl ?_
    refine Zm ?_
    simp (maxSteps := 2000000) only [↓Za, ↓Zi, ↓Zu, ↓Zb, ↓Zc, ↓vdn, vup, List.map_nil, cond_true, cond_false, aop, Zf, ev, sput, Ze, Zw, Zy, Nat.reduceBEq, Zr, Xg, tup, e22, Ym, List.append_nil]
    refine awk fun g _ => ?_
    trivial
  · skip
    refine Zg fun N6 hN6 => ?_
    simp (maxSteps := 2000000) only [↓Za, ↓Zb, ↓Zc, ↓vdn, vup, cond_true, cond_false, aop, Zf, ev, sput, Ze, Zw, Zy, Nat.reduceBEq, n60]
    refine hN6 [(0, v), (1, Zd k), (4, .bool false), (5, .slice none 0 0), (6, .int .i64 6), (7, .pointer (some ⟨b7, 0, none⟩)), (8, .int .i64 e2), (9, Zd cx), (10, .int .i64 e3), (49, .bool true)] _ _ ?_ (by simp (maxSteps := 2000000) only [vup, cond_true, cond_false, Nat.reduceBEq])
    clear hN6
    try clear N6
    refine Xd rfl ?_
    refine Zm ?_
    simp (maxSteps := 2000000) only [↓Za, ↓Zi, ↓Zu, ↓Zb, ↓Zc, ↓vdn, vup, List.map_nil, cond_true, cond_false, aop, Zf, ev, sput, Ze, Zw, Zy, Nat.reduceBEq, Zr, Xg, tup, e62, e66, Ym, List.append_nil]
    refine awk fun g _ => ?_
    trivial
  have hg := c1.1
  have g := grs_iff.1 hg
  have h6 := g.2.1
  obtain ⟨n, rfl⟩ : ∃ n : Nat, k = (n : Int) := ⟨k.toNat, by have := c1.2.1; omega⟩
  have hn1 : ¬ (n : Int) < 1 := by have := c1.2.1; omega
  have hn3 : ¬ 3 < (n : Int) := by have := c1.2.2; omega
  rw [Int.toNat_natCast] at c1' co1
  rcases hf2 with ⟨hgx, _⟩ | ⟨_, rfl, p, rfl, rfl, hp⟩
  · rw [hg] at hgx; cases hgx
  obtain ⟨rfl, rfl⟩ := hf3 (by rw [grs_take]; exact hg)
  rw [grs_same hg] at *
  have lc1 := IntSl.len (h := h1) co1.int
  obtain ⟨C, hC⟩ : ∃ C, C = (codeL (Wk xs n)).map Int.ofNat := ⟨_, rfl⟩
  have hCc := codeL_code g c1'
  rw [← hC] at lc1 hCc
  have hC64 : C.length ≤ 64 := by
    have := A_le (Wk xs n) (2 ^ (Wk xs n).length - 1)
    rw [hC, List.length_map, codeL_len (nearL_gr g c1')]; exact this
  have sp := hp.small g
  have pn : p.num.natAbs ≤ 4320 := hp.2.1
  have pd : (p.den : Int).natAbs ≤ 720 := hp.2.2
  have f1 := small_call (h := h3) sp.1 sp.2 hp.2.2
  simp only [qV, frV] at f1
  have hcov := cov_le (xs := xs)
  have m1 := mulB (a := ((cov xs : Nat) : Int)) (A := 6) (by omega) pd (by decide)
  have hcl : ¬ ((cov xs : Nat) : Int) * (p.den : Int) < p.num := by have := weigh_cov_int g hp; omega
  refine Zg fun N7 hN7 => ?_
  simp only [q15_4]
  refine aw_regcut 4 fun N1 hN1 => ?_
  simp (maxSteps := 2000000) only [↓Za, ↓Zb, ↓Zc, ↓vdn, vup, cond_true, cond_false, aop, ev, sput, Ze, Zw, Zy, Nat.reduceBEq, List.take_succ_cons, List.take_zero, n00]
  refine hN1 _ _ ?_
  clear hN1 N1
  simp only [List.drop_succ_cons, List.drop_zero]
  refine aw_regcut 1 fun N1 hN1 => ?_
  simp (maxSteps := 2000000) only [↓Za, ↓Zb, ↓Zc, ↓vdn, vup, List.map_cons, List.map_nil, cond_true, cond_false, aop, ev, sput, Ze, Nat.reduceBEq, Ym, List.nil_append, List.append_nil, List.take_succ_cons, List.take_zero]
  refine (rgraph_call hv3 hl hx).mono ?_
  rintro _ h3 ⟨rfl, rfl⟩
  refine hN1 _ _ ?_
  clear hN1 N1
  simp only [List.drop_succ_cons, List.drop_zero]
  simp (maxSteps := 2000000) only [↓Za, ↓Zb, ↓Zc, ↓vdn, vup, cond_true, cond_false, aop, Zf, ev, sput, Ze, Zw, Zy, unK, Nat.reduceBEq, hg, hn1, hn3]
  refine hN7 [(0, v), (1, Zd (n : Nat)), (4, .bool false), (5, w1), (6, .int .i64 0), (7, .pointer (some ⟨b7, 0, none⟩)), (8, .int .i64 0), (9, Zd (cov xs : Nat)), (10, .int .i64 0), (49, .bool false)] _ _ ?_ (by simp (maxSteps := 2000000) only [vup, cond_true, cond_false, Nat.reduceBEq])
  clear hN7
  try clear N7
  refine Yo rfl ?_
  refine Zm ?_
  simp (maxSteps := 2000000) only [↓Zk, Zf]
  refine hA [(0, v), (1, Zd (n : Nat)), (4, .bool false), (5, w1), (7, .pointer (some ⟨b7, 0, none⟩)), (8, .int .i64 0), (9, Zd (cov xs : Nat)), (10, .int .i64 0)] _ _ ?_ (by simp (maxSteps := 2000000) only [vup, cond_true, cond_false, Nat.reduceBEq])
  clear hA
  try clear A
  refine Zo fun A hA => ?_
  refine Zg fun N8 hN8 => ?_
  simp only [q15_6]
  refine aw_regcut 7 fun N1 hN1 => ?_
  simp (maxSteps := 2000000) only [↓Za, ↓Zb, ↓Zc, ↓vdn, vup, cond_true, cond_false, aop, ev, sput, Ze, Zw, Zy, Nat.reduceBEq, List.take_succ_cons, List.take_zero, n00]
  refine hN1 _ _ ?_
  clear hN1 N1
  simp only [List.drop_succ_cons, List.drop_zero]
  refine aw_regcut 2 fun N1 hN1 => ?_
  simp (maxSteps := 2000000) only [↓Za, ↓Zb, ↓Zc, ↓vdn, vup, List.map_cons, List.map_nil, cond_true, cond_false, aop, ev, sput, Ze, Nat.reduceBEq, Ym, List.nil_append, List.append_nil, List.take_succ_cons, List.take_zero, loadF d7]
  refine (f1).mono ?_
  rintro _ h3 ⟨rfl, rfl⟩
  refine hN1 _ _ ?_
  clear hN1 N1
  simp only [List.drop_succ_cons, List.drop_zero]
  refine aw_regcut 3 fun N1 hN1 => ?_
  simp (maxSteps := 2000000) only [↓Za, ↓Zb, ↓Zc, ↓vdn, vup, cond_true, cond_false, aop, ev, sput, Ze, unK, Nat.reduceBEq, List.take_succ_cons, List.take_zero]
  refine hN1 _ _ ?_
  clear hN1 N1
  simp only [List.drop_succ_cons, List.drop_zero]
  simp (maxSteps := 2000000) only [↓Za, ↓Zb, ↓Zc, ↓vdn, vup, cond_true, cond_false, aop, Zf, ev, sput, Ze, Zw, Zy, Nat.reduceBEq, tyf, fA0, fA1, loadF0 d7, loadF1 d7, m1.1, hcl]
  refine hN8 [(0, v), (1, Zd (n : Nat)), (4, .bool false), (5, w1), (7, .pointer (some ⟨b7, 0, none⟩)), (8, .int .i64 0), (9, Zd (cov xs : Nat)), (10, .int .i64 0), (78, .bool false)] _ _ ?_ (by simp (maxSteps := 2000000) only [vup, cond_true, cond_false, Nat.reduceBEq])
  clear hN8
  try clear N8
  refine Yo rfl ?_
  refine Zm ?_
  simp (maxSteps := 2000000) only [↓Zk, Zf]
  refine hA [(0, v), (1, Zd (n : Nat)), (4, .bool false), (5, w1), (7, .pointer (some ⟨b7, 0, none⟩))] _ _ ?_ (by simp (maxSteps := 2000000) only [vup, cond_true, cond_false, Nat.reduceBEq])
  clear hA
  try clear A
  refine Zg fun N9 hN9 => ?_
  simp (maxSteps := 2000000) only [↓Za, ↓Zb, ↓Zc, vup, cond_false, aop, Zf, ev, sput, Ze, Nat.reduceBEq]
  refine hN9 [(0, v), (1, Zd (n : Nat)), (4, .bool false), (5, w1), (7, .pointer (some ⟨b7, 0, none⟩)), (11, .int .i64 1), (12, .int .i64 1)] _ _ ?_ (by simp (maxSteps := 2000000) only [vup, cond_true, cond_false, Nat.reduceBEq])
  clear hN9
  try clear N9
  refine Zo fun Z hZ => ?_
  refine Zg fun N10 hN10 => ?_
  simp (maxSteps := 2000000) only [↓Za, ↓Zb, ↓Zc, vup, cond_true, cond_false, aop, Zf, ev, sput, Ze, Nat.reduceBEq]
  refine hN10 [(0, v), (1, Zd (n : Nat)), (4, .bool false), (5, w1), (7, .pointer (some ⟨b7, 0, none⟩)), (11, .int .i64 1), (12, .int .i64 1), (79, Zd (n : Nat)), (80, .int .i64 0)] _ _ ?_ (by simp (maxSteps := 2000000) only [vup, cond_true, cond_false, Nat.reduceBEq])
  clear hN10
  try clear N10
  refine Zv ?_
  refine Zn fun Q hQ => ?_
  refine Yx (γ := Nat) (fun i => i ≤ n) (fun i => ([(0, v), (1, Zd (n : Nat)), (4, .bool false), (5, w1), (7, .pointer (some ⟨b7, 0, none⟩)), (11, Zd (Wu p.num i)), (12, Zd (Wu p.den i)), (79, Zd (n : Nat)), (80, Zd (i : Nat))], h3)) (fun i => n - i) 0 (Nat.zero_le _) (by simp (maxSteps := 2000000) only [vup, cond_true, cond_false, Nat.reduceBEq, Int.natCast_zero, Wu]) rfl ?_
  rintro i hi
  refine Zn fun Q2 hQ2 => ?_
  simp only [l15_0]
  by_cases hin : (i : Int) < n
  · have hi' : i < n := by omega
    have u1 : (Wu p.num i).natAbs ≤ 4320 ^ 2 := Nat.le_trans (ipow_abs pn i) (Nat.pow_le_pow_right (by decide) (by omega))
    have u2 : (Wu p.den i).natAbs ≤ 720 ^ 2 := Nat.le_trans (ipow_abs pd i) (Nat.pow_le_pow_right (by decide) (by omega))
    have v1 : mulV .i64 (Wu p.num i) p.num = Wu p.num (i + 1) := (mulB u1 pn (by decide)).1
    have v2 : mulV .i64 (Wu p.den i) p.den = Wu p.den (i + 1) := (mulB u2 pd (by decide)).1
    refine Zg fun N11 hN11 => ?_
    simp (maxSteps := 2000000) only [↓Za, ↓Zb, ↓Zc, vup, cond_true, cond_false, aop, Zf, ev, sput, Ze, Zw, Zy, Nat.reduceBEq, hin]
    refine hN11 [(0, v), (1, Zd (n : Nat)), (4, .bool false), (5, w1), (7, .pointer (some ⟨b7, 0, none⟩)), (11, Zd (Wu p.num i)), (12, Zd (Wu p.den i)), (79, Zd (n : Nat)), (80, Zd (i : Nat)), (81, .bool true)] _ _ ?_ (by simp (maxSteps := 2000000) only [vup, cond_true, cond_false, Nat.reduceBEq])
    clear hN11
    try clear N11
    refine Zg fun N12 hN12 => ?_
    simp (maxSteps := 2000000) only [↓Zk, ↓vdn, vup, cond_true, cond_false, Zf, ev, Nat.reduceBEq]
    refine hN12 [(0, v), (1, Zd (n : Nat)), (4, .bool false), (5, w1), (7, .pointer (some ⟨b7, 0, none⟩)), (11, Zd (Wu p.num i)), (12, Zd (Wu p.den i)), (79, Zd (n : Nat)), (80, Zd (i : Nat))] _ _ ?_ (by simp (maxSteps := 2000000) only [vup, cond_true, cond_false, Nat.reduceBEq])
    clear hN12
    try clear N12
    refine Zo fun B hB => ?_
    refine Zv ?_
    refine Zm ?_
    refine Xm [] (by kernel_rfl) (by kernel_rfl) (by kernel_rfl) (by kernel_rfl) ?_
    simp (maxSteps := 2000000) only [↓Yl, ↓vdn, vup, cond_true, cond_false, aop, Zf, Zl, ev, sput, Ze, Zw, Zy, Nat.reduceBEq, Nat.reduceAdd, tyf, fA0, fA1, loadF0 d7, loadF1 d7, v1, v2]
    refine hB [(0, v), (1, Zd (n : Nat)), (4, .bool false), (5, w1), (7, .pointer (some ⟨b7, 0, none⟩)), (11, Zd (Wu p.num (i + 1))), (12, Zd (Wu p.den (i + 1))), (79, Zd (n : Nat)), (80, Zd (i : Nat))] _ _ ?_ (by simp (maxSteps := 2000000) only [vup, cond_true, cond_false, Nat.reduceBEq])
    clear hB
    try clear B
    refine Zm ?_
    simp (maxSteps := 2000000) only [↓Za, ↓Zb, ↓Zc, vup, cond_true, cond_false, aop, ev, sput, Ze, Zw, Zy, Nat.reduceBEq, Wy (show i < 9223372036854775807 by omega)]
    exact hQ2 _ _ _ ⟨i + 1, hi', by omega, by simp (maxSteps := 2000000) only [vup, cond_true, cond_false, Nat.reduceBEq], rfl⟩
  obtain rfl : n = i := by omega
  refine Zg fun N13 hN13 => ?_
  simp (maxSteps := 2000000) only [↓Za, ↓Zb, ↓Zc, vup, cond_true, cond_false, aop, Zf, ev, sput, Ze, Zw, Zy, Nat.reduceBEq, hin]
  refine hN13 [(0, v), (1, Zd (n : Nat)), (4, .bool false), (5, w1), (7, .pointer (some ⟨b7, 0, none⟩)), (11, Zd (Wu p.num n)), (12, Zd (Wu p.den n)), (79, Zd (n : Nat)), (80, Zd (n : Nat)), (81, .bool false)] _ _ ?_ (by simp (maxSteps := 2000000) only [vup, cond_true, cond_false, Nat.reduceBEq])
  clear hN13
  try clear N13
  refine Zg fun N14 hN14 => ?_
  simp (maxSteps := 2000000) only [↓Ye, ↓vdn, vup, cond_true, cond_false, Zf, ev, Nat.reduceBEq]
  refine hQ2 _ _ _ (hQ _ _ _ ?_)
  simp (maxSteps := 2000000) only [Zf, Zl, Zr, if_true]
  refine hZ [(0, v), (1, Zd (n : Nat)), (4, .bool false), (5, w1), (7, .pointer (some ⟨b7, 0, none⟩)), (11, Zd (Wu p.num n)), (12, Zd (Wu p.den n))] _ _ ?_ (by simp (maxSteps := 2000000) only [vup, cond_true, cond_false, Nat.reduceBEq])
  clear hZ
  try clear Z
  clear hQ hQ2
  have u2 : (Wu p.den n).natAbs ≤ 720 ^ 3 := Nat.le_trans (ipow_abs pd n) (Nat.pow_le_pow_right (by decide) (by omega))
  have m2 := mulB (a := ((C.length : Nat) : Int)) (A := 64) (by omega) u2 (by decide)
  have hbd : ¬ Wu p.num n < ((C.length : Nat) : Int) * Wu p.den n := by have := code_ints g hp hCc; omega
  refine Zo fun A hA => ?_
  refine Zg fun N15 hN15 => ?_
  simp (maxSteps := 2000000) only [↓Za, ↓Zb, ↓Zc, vup, List.map_cons, List.map_nil, cond_true, cond_false, aop, Zf, ev, sput, Ze, Zw, Zy, Zj, Nat.reduceBEq, tyf, lc1, m2.1, hbd]
  refine hN15 [(0, v), (1, Zd (n : Nat)), (4, .bool false), (5, w1), (7, .pointer (some ⟨b7, 0, none⟩)), (11, Zd (Wu p.num n)), (12, Zd (Wu p.den n)), (96, .bool false)] _ _ ?_ (by simp (maxSteps := 2000000) only [vup, cond_true, cond_false, Nat.reduceBEq])
  clear hN15
  try clear N15
  refine Yo rfl ?_
  refine Zm ?_
  simp (maxSteps := 2000000) only [↓Zk, Zf]
  refine hA [(0, v), (1, Zd (n : Nat)), (4, .bool false), (5, w1), (7, .pointer (some ⟨b7, 0, none⟩))] _ _ ?_ (by simp (maxSteps := 2000000) only [vup, cond_true, cond_false, Nat.reduceBEq])
  clear hA
  try clear A
  refine Zg fun N16 hN16 => ?_
  simp (maxSteps := 2000000) only [↓Za, ↓Zb, ↓Zc, vup, List.map_cons, List.map_nil, cond_true, cond_false, aop, Zf, ev, sput, Ze, Nat.reduceBEq, Ym, List.nil_append, List.append_nil]
  refine (list_call hv3 hl).mono ?_
  rintro l4 _ ⟨hl4, g4, rfl⟩
  rw [grs_same hg] at hl4
  refine (fit_call hl4 hl hx).mono ?_
  rintro r4 h4 ⟨hE4, hr4⟩
  have hE34 := (Ext.app (fun _ => False) h3 g4).trans hE4
  have hv4 := Xl hv3 hE34
  by_cases h5 : xs.length ≤ 5
  · rw [if_pos ⟨hg, h5⟩] at hr4
    obtain ⟨m, rfl, hm⟩ := hr4
    have hm1 := fit_pos g hm
    have hmn := fit_le hm
    have hcm := code_fit g hm hCc
    simp (maxSteps := 2000000) only [extr_20, extr_21]
    refine hN16 [(0, v), (1, Zd (n : Nat)), (4, .bool false), (5, w1), (7, .pointer (some ⟨b7, 0, none⟩)), (13, Zd (m : Nat)), (14, .int .i64 0)] _ _ ?_ (by simp (maxSteps := 2000000) only [vup, cond_true, cond_false, Nat.reduceBEq])
    clear hN16
    try clear N16
    refine Zo fun A hA => ?_
    refine Zg fun N17 hN17 => ?_
    simp (maxSteps := 2000000) only [↓Za, ↓Zb, ↓Zc, vup, cond_true, cond_false, aop, Zf, ev, sput, Ze, Zw, Zy, Nat.reduceBEq, n00]
    refine hN17 [(0, v), (1, Zd (n : Nat)), (4, .bool false), (5, w1), (7, .pointer (some ⟨b7, 0, none⟩)), (13, Zd (m : Nat)), (14, .int .i64 0), (104, .bool false)] _ _ ?_ (by simp (maxSteps := 2000000) only [vup, cond_true, cond_false, Nat.reduceBEq])
    clear hN17
    try clear N17
    refine Yo rfl ?_
    refine Zm ?_
    simp (maxSteps := 2000000) only [↓Zk, Zf]
    refine hA [(0, v), (1, Zd (n : Nat)), (4, .bool false), (5, w1), (7, .pointer (some ⟨b7, 0, none⟩)), (13, Zd (m : Nat))] _ _ ?_ (by simp (maxSteps := 2000000) only [vup, cond_true, cond_false, Nat.reduceBEq])
    clear hA
    try clear A
    refine Zg fun N18 hN18 => ?_
    simp (maxSteps := 2000000) only [↓Za, ↓Zb, ↓Zc, vup, cond_false, aop, Zf, ev, sput, Ze, Nat.reduceBEq]
    refine hN18 [(0, v), (1, Zd (n : Nat)), (4, .bool false), (5, w1), (7, .pointer (some ⟨b7, 0, none⟩)), (13, Zd (m : Nat)), (15, .int .i64 1)] _ _ ?_ (by simp (maxSteps := 2000000) only [vup, cond_true, cond_false, Nat.reduceBEq])
    clear hN18
    try clear N18
    refine Zo fun Z hZ => ?_
    refine Zg fun N19 hN19 => ?_
    simp (maxSteps := 2000000) only [↓Za, ↓Zb, ↓Zc, vup, cond_true, cond_false, aop, Zf, ev, sput, Ze, Nat.reduceBEq]
    refine hN19 [(0, v), (1, Zd (n : Nat)), (4, .bool false), (5, w1), (7, .pointer (some ⟨b7, 0, none⟩)), (13, Zd (m : Nat)), (15, .int .i64 1), (115, Zd (n : Nat)), (116, .int .i64 0)] _ _ ?_ (by simp (maxSteps := 2000000) only [vup, cond_true, cond_false, Nat.reduceBEq])
    clear hN19
    try clear N19
    refine Zv ?_
    refine Zn fun Q hQ => ?_
    refine Yx (γ := Nat) (fun i => i ≤ n) (fun i => ([(0, v), (1, Zd (n : Nat)), (4, .bool false), (5, w1), (7, .pointer (some ⟨b7, 0, none⟩)), (13, Zd (m : Nat)), (15, Zd (Wu m i)), (115, Zd (n : Nat)), (116, Zd (i : Nat))], h4)) (fun i => n - i) 0 (Nat.zero_le _) (by simp (maxSteps := 2000000) only [vup, cond_true, cond_false, Nat.reduceBEq, Int.natCast_zero, Wu]) rfl ?_
    rintro i hi
    refine Zn fun Q2 hQ2 => ?_
    simp only [l15_1]
    by_cases hin : (i : Int) < n
    · have hi' : i < n := by omega
      have u1 : (Wu m i).natAbs ≤ 6 ^ 2 := Nat.le_trans (ipow_abs (X := 6) (by omega) i) (Nat.pow_le_pow_right (by decide) (by omega))
      have v1 : mulV .i64 (Wu m i) m = Wu m (i + 1) := (mulB (b := (m : Int)) (B := 6) u1 (by omega) (by decide)).1
      refine Zg fun N20 hN20 => ?_
      simp (maxSteps := 2000000) only [↓Za, ↓Zb, ↓Zc, vup, cond_true, cond_false, aop, Zf, ev, sput, Ze, Zw, Zy, Nat.reduceBEq, hin]
      refine hN20 [(0, v), (1, Zd (n : Nat)), (4, .bool false), (5, w1), (7, .pointer (some ⟨b7, 0, none⟩)), (13, Zd (m : Nat)), (15, Zd (Wu m i)), (115, Zd (n : Nat)), (116, Zd (i : Nat)), (117, .bool true)] _ _ ?_ (by simp (maxSteps := 2000000) only [vup, cond_true, cond_false, Nat.reduceBEq])
      clear hN20
      try clear N20
      refine Zg fun N21 hN21 => ?_
      simp (maxSteps := 2000000) only [↓Zk, ↓vdn, vup, cond_true, cond_false, Zf, ev, Nat.reduceBEq]
      refine hN21 [(0, v), (1, Zd (n : Nat)), (4, .bool false), (5, w1), (7, .pointer (some ⟨b7, 0, none⟩)), (13, Zd (m : Nat)), (15, Zd (Wu m i)), (115, Zd (n : Nat)), (116, Zd (i : Nat))] _ _ ?_ (by simp (maxSteps := 2000000) only [vup, cond_true, cond_false, Nat.reduceBEq])
      clear hN21
      try clear N21
      refine Zo fun B hB => ?_
      refine Zv ?_
      refine Zm ?_
      simp (maxSteps := 2000000) only [↓Za, ↓Zb, ↓Zc, vup, cond_true, cond_false, aop, Zf, Zl, ev, sput, Ze, Zw, Zy, Nat.reduceBEq, v1]
      refine hB [(0, v), (1, Zd (n : Nat)), (4, .bool false), (5, w1), (7, .pointer (some ⟨b7, 0, none⟩)), (13, Zd (m : Nat)), (15, Zd (Wu m (i + 1))), (115, Zd (n : Nat)), (116, Zd (i : Nat))] _ _ ?_ (by simp (maxSteps := 2000000) only [vup, cond_true, cond_false, Nat.reduceBEq])
      clear hB
      try clear B
      refine Zm ?_
      simp (maxSteps := 2000000) only [↓Za, ↓Zb, ↓Zc, vup, cond_true, cond_false, aop, ev, sput, Ze, Zw, Zy, Nat.reduceBEq, Wy (show i < 9223372036854775807 by omega)]
      exact hQ2 _ _ _ ⟨i + 1, hi', by omega, by simp (maxSteps := 2000000) only [vup, cond_true, cond_false, Nat.reduceBEq], rfl⟩
    obtain rfl : n = i := by omega
    refine Zg fun N22 hN22 => ?_
    simp (maxSteps := 2000000) only [↓Za, ↓Zb, ↓Zc, vup, cond_true, cond_false, aop, Zf, ev, sput, Ze, Zw, Zy, Nat.reduceBEq, hin]
    refine hN22 [(0, v), (1, Zd (n : Nat)), (4, .bool false), (5, w1), (7, .pointer (some ⟨b7, 0, none⟩)), (13, Zd (m : Nat)), (15, Zd (Wu m n)), (115, Zd (n : Nat)), (116, Zd (n : Nat)), (117, .bool false)] _ _ ?_ (by simp (maxSteps := 2000000) only [vup, cond_true, cond_false, Nat.reduceBEq])
    clear hN22
    try clear N22
    refine Zg fun N23 hN23 => ?_
    simp (maxSteps := 2000000) only [↓Ye, ↓vdn, vup, cond_true, cond_false, Zf, ev, Nat.reduceBEq]
    refine hQ2 _ _ _ (hQ _ _ _ ?_)
    simp (maxSteps := 2000000) only [Zf, Zl, Zr, if_true]
    refine hZ [(0, v), (1, Zd (n : Nat)), (4, .bool false), (5, w1), (7, .pointer (some ⟨b7, 0, none⟩)), (13, Zd (m : Nat)), (15, Zd (Wu m n))] _ _ ?_ (by simp (maxSteps := 2000000) only [vup, cond_true, cond_false, Nat.reduceBEq])
    clear hZ
    try clear Z
    clear hQ hQ2
    have i1 : (1 : Int) ≤ (m : Int) := by omega
    have i2 : (m : Int) ≤ (xs.length : Int) := by omega
    have i3 : ((C.length : Nat) : Int) ≤ Wu m n := by rw [ipow_nat]; omega
    refine Zg fun N24 hN24 => ?_
    simp only [q15_23]
    refine aw_regcut 8 fun N1 hN1 => ?_
    simp (maxSteps := 2000000) only [↓Za, ↓Zb, ↓Zc, ↓vdn, vup, List.map_cons, List.map_nil, cond_true, cond_false, aop, ev, sput, Ze, Zw, Zy, Zj, Nat.reduceBEq, tyf, List.take_succ_cons, List.take_zero, i1, hv4.len, i2]
    refine hN1 _ _ ?_
    clear hN1 N1
    simp only [List.drop_succ_cons, List.drop_zero]
    refine aw_regcut 7 fun N1 hN1 => ?_
    simp (maxSteps := 2000000) only [↓Za, ↓Zb, ↓Zc, ↓vdn, vup, List.map_cons, List.map_nil, cond_true, cond_false, aop, ev, sput, Ze, Zw, Zy, Zj, Nat.reduceBEq, tyf, List.take_succ_cons, List.take_zero, lc1, i3]
    refine hN1 _ _ ?_
    clear hN1 N1
    simp only [List.drop_succ_cons, List.drop_zero]
    simp (maxSteps := 2000000) only [↓Za, ↓Zb, ↓Zc, ↓vdn, vup, List.map_nil, cond_true, cond_false, aop, Zf, ev, sput, Ze, Nat.reduceBEq, Ym, List.append_nil]
    refine awk fun g _ => ?_
    refine hN24 [(0, v), (1, Zd (n : Nat)), (4, .bool true), (5, w1), (7, .pointer (some ⟨b7, 0, none⟩)), (13, Zd (m : Nat)), (15, Zd (Wu m n))] _ _ ?_ (by simp (maxSteps := 2000000) only [vup, cond_true, cond_false, Nat.reduceBEq])
    clear hN24
    try clear N24
    refine Zm ?_
    simp (maxSteps := 2000000) only [↓Zu, vup, cond_true, cond_false, Nat.reduceBEq, Zr, Xg, tup]
  · rw [if_neg fun h => h5 h.2] at hr4
    subst hr4
    have h5' : (5 : Int) < (xs.length : Int) := by omega
    simp (maxSteps := 2000000) only [extr_20, extr_21]
    refine hN16 [(0, v), (1, Zd (n : Nat)), (4, .bool false), (5, w1), (7, .pointer (some ⟨b7, 0, none⟩)), (13, .int .i64 0), (14, .int .i64 2)] _ _ ?_ (by simp (maxSteps := 2000000) only [vup, cond_true, cond_false, Nat.reduceBEq])
    clear hN16
    try clear N16
    refine Zo fun A hA => ?_
    refine Zg fun N25 hN25 => ?_
    simp (maxSteps := 2000000) only [↓Za, ↓Zb, ↓Zc, vup, cond_true, cond_false, aop, Zf, ev, sput, Ze, Zw, Zy, Nat.reduceBEq, n20]
    refine hN25 [(0, v), (1, Zd (n : Nat)), (4, .bool false), (5, w1), (7, .pointer (some ⟨b7, 0, none⟩)), (13, .int .i64 0), (14, .int .i64 2), (104, .bool true)] _ _ ?_ (by simp (maxSteps := 2000000) only [vup, cond_true, cond_false, Nat.reduceBEq])
    clear hN25
    try clear N25
    refine Xd rfl ?_
    refine Zm ?_
    simp (maxSteps := 2000000) only [↓Za, ↓Zi, ↓Zu, ↓Zb, ↓Zc, ↓vdn, vup, List.map_cons, List.map_nil, cond_true, cond_false, aop, Zf, ev, sput, Ze, Zw, Zy, Zj, Nat.reduceBEq, Zr, Xg, tup, tyf, e22, hv4.len, h5', Ym, List.append_nil]
    refine awk fun g _ => ?_
    trivial
end Go.Proofs.Tryd.Am

/-
  sure: weights of joined graphs.
  Printed by gen.py: the code of some functions, without what no step looks at; held against the program's own by the kernel.
  sure: fractions as weights.
  sure: Light, and the reference's Weights.
  Sums of rows modulo 2, plain: how many rows a base has.
  Rows taken from each other until the rank is seen; the least rank of all choices of rows, plain.
  Products of rows modulo 2: vectors with duals are at most as many as their places. Plain Lean, no program.
  Printed by gen.py: the code of some functions, without what no step looks at; held against the program's own by the kernel.
  sure: the library's sort of a short slice, with the comparison that puts the greatest first.
  sure: the library's sort of a short slice: what stands ahead of the insertion.
  sure: a base with one row more.
  sure: the least rank, as the program finds it.
  sure: the reference's rank.
  sure: Fit, by the program and by the reference.
  sure: codes against weights and ranks.
  Printed by gen.py: the code of some functions, without what no step looks at; held against the program's own by the kernel.
-/
import Derived.Test.YtaagkbbphgdcdaaDoorPk9
import Derived.Test.YtaagkbbphgdcdaaDoorPk3
import Derived.Test.YtaagkbbphgdcdaaDoorProg
import Derived.KernelRfl
import Derived.Shelf.Abstract
import Derived.Test.YtaagkbbphgdcdaaDoorPk4
import Derived.Test.YtaagkbbphgdcdaaDoorPk5
import Derived.Test.YtaagkbbphgdcdaaDoorPk6
import Derived.Test.YtaagkbbphgdcdaaDoorPk7
import Derived.Test.YtaagkbbphgdcdaaDoorPk8
set_option linter.all false
namespace Go.Proofs.Tryd.Am
open Go.Am Sr

section
variable {xs ys : List Int}
/-! ### Codes of single signals -/
theorem wn_one (xs : List Int) : wn xs 1 = xs.length := Nat.pow_one _
theorem cf_one {a b : Nat} (ha : a < xs.length) (hb : b < xs.length) : cf xs 1 a b = nq xs a b := by
  rw [cf, cf, Nat.mod_eq_of_lt ha, Nat.mod_eq_of_lt hb, Bool.and_true]; rfl
theorem code1_iff {c : List Int} : code xs 1 c = true ↔ (∀ x ∈ c, 0 ≤ x ∧ x < xs.length) ∧ c.Pairwise fun x y => x < y ∧ nq xs y.toNat x.toNat = false := by
  rw [code_pw, wn_one]
  constructor
  · rintro ⟨h1, h2⟩
    refine ⟨h1, h2.imp_of_mem fun {x y} hx hy h => ⟨h.1, ?_⟩⟩
    have a := h1 x hx
    have b := h1 y hy
    rw [← cf_one (by omega) (by omega)]; exact h.2
  · rintro ⟨h1, h2⟩
    refine ⟨h1, h2.imp_of_mem fun {x y} hx hy h => ⟨h.1, ?_⟩⟩
    have a := h1 x hx
    have b := h1 y hy
    rw [cf_one (by omega) (by omega)]; exact h.2
end
theorem num_eq (q : Rat) : ((q.num : Int) : Rat) = q * ((q.den : Int) : Rat) := by
  have h := Rat.num_divInt_den q
  rw [Rat.divInt_eq_div] at h
  have h0 : ((q.den : Int) : Rat) ≠ 0 := fun hc => by
    have := Rat.intCast_eq_zero_iff.1 hc
    have := q.den_pos; omega
  have h1 := Rat.div_mul_cancel (a := (q.num : Rat)) h0
  rw [h] at h1; exact h1.symm
theorem mulB {a b : Int} {A B : Nat} (ha : a.natAbs ≤ A) (hb : b.natAbs ≤ B) (h : A * B < 9223372036854775808) : mulV .i64 a b = a * b ∧ (a * b).natAbs ≤ A * B := by
  have h1 : (a * b).natAbs ≤ A * B := by rw [Int.natAbs_mul]; exact Nat.mul_le_mul ha hb
  exact ⟨mulV_id (by omega) (by omega), h1⟩
theorem weighR_form {xs : List Int} {r : Value} (hr : weighR xs r) : ∃ x y e, r = .tuple #[.agg #[Zd x, Zd y], .int .i64 e] ∧ ((grs xs = false ∧ e = 2) ∨ (grs xs = true ∧ e = 0 ∧ ∃ q : Rat, x = q.num ∧ y = q.den ∧ WQ xs q)) := by
  cases hg : grs xs with
  | false => rw [weighR, hg, if_neg (by decide)] at hr; exact ⟨0, 0, 2, hr, .inl ⟨rfl, rfl⟩⟩
  | true =>
    rw [weighR, hg, if_pos rfl] at hr
    obtain ⟨q, h1, h2⟩ := hr
    exact ⟨q.num, q.den, 0, h1, .inr ⟨rfl, rfl, q, rfl, rfl, h2⟩⟩
theorem code1_ok {h' : Zh} {xs : List Int} {r : Value} (hg : grs xs = true) (hr : codeR h' xs 1 r) : ∃ w, r = .tuple #[w, .int .i64 0] ∧ OwnSl 3 h' w ((codeL (Wg xs 1)).map Int.ofNat) := by
  have h6 := (Va.1 hg).2.1
  rw [codeR, if_pos ⟨hg, by decide, by decide⟩] at hr
  rw [if_pos (by show wn xs 1 ≤ 64; rw [wn_one]; omega)] at hr
  exact hr
end Go.Proofs.Tryd.Am

namespace Go.Proofs.Tryd.Am
open Go.Am
set_option maxRecDepth 100000
/-! 68: planchet planchetref05.frac -/
@[reducible] def q68_0 : SCode := .region [⟨some 4, .alloc 44, none⟩]
@[reducible] def q68_1 : SCode := .region [⟨some 7, .move (.tmp 1), none⟩,
    ⟨some 8, .binOp .lss 3 (.tmp 7) (.const (.int .i64 0)) 3, none⟩]
@[reducible] def q68_2 : SCode := .region [⟨some 9, .move (.tmp 0), none⟩,
    ⟨some 10, .unOp .neg 3 (.tmp 9), none⟩,
    ⟨some 11, .move (.tmp 1), none⟩,
    ⟨some 12, .unOp .neg 3 (.tmp 11), none⟩,
    ⟨some 0, .assign (.tmp 10), none⟩,
    ⟨some 1, .assign (.tmp 12), none⟩]
@[reducible] def q68_3 : SCode := .region [⟨some 13, .move (.tmp 0), none⟩,
    ⟨some 14, .move (.tmp 0), none⟩,
    ⟨some 15, .unOp .neg 3 (.tmp 14), none⟩,
    ⟨some 16, .call { callee := .builtin .max, args := #[.tmp 13, .tmp 15], argTypes := #[3, 3] }, none⟩,
    ⟨some 17, .move (.tmp 1), none⟩,
    ⟨some 5, .assign (.tmp 16), none⟩,
    ⟨some 6, .assign (.tmp 17), none⟩]
@[reducible] def q68_4 : SCode := .region [⟨some 18, .move (.tmp 6), none⟩,
    ⟨some 19, .binOp .neq 3 (.tmp 18) (.const (.int .i64 0)) 3, none⟩]
def q68_5 : SCode := .draw [⟨some 20, .move (.tmp 6), none⟩,
    ⟨some 21, .move (.tmp 5), none⟩,
    ⟨some 22, .move (.tmp 6), none⟩,
    ⟨some 23, .binOp .rem 3 (.tmp 21) (.tmp 22) 3, none⟩,
    ⟨some 5, .assign (.tmp 20), none⟩,
    ⟨some 6, .assign (.tmp 23), none⟩]
   [[], [], [], [1, 2], [0, 0, 1], [3, 4, 0, 1, 2, 3, 4]]
def l68_0 : SCode := (.seq (.seq q68_4 (.cond (.tmp 19) .skip (.exit 0))) (.block 1 q68_5))
def q68_6 : SCode := .draw [⟨some 24, .move (.tmp 0), none⟩,
    ⟨some 25, .move (.tmp 5), none⟩,
    ⟨some 26, .binOp .quo 3 (.tmp 24) (.tmp 25) 3, none⟩,
    ⟨some 27, .move (.tmp 1), none⟩,
    ⟨some 28, .move (.tmp 5), none⟩,
    ⟨some 29, .binOp .quo 3 (.tmp 27) (.tmp 28) 3, none⟩,
    ⟨some 30, .build 44 #[(0, .tmp 26), (1, .tmp 29)], none⟩,
    ⟨none, .store 44 (.tmp 4) (.tmp 30), none⟩]
   [[], [], [0, 1], [], [], [3, 4], [2, 5], [6, 0, 1, 2, 3, 4, 5, 6]]
def s68 : SCode := (.seq q68_0 (.seq (.seq q68_1 (.cond (.tmp 8) q68_2 .skip)) (.seq q68_3 (.seq (.block 0 (.loop l68_0)) (.seq q68_6 .ret)))))
theorem s68_strip : Zu (Zv Tryd.f68) = s68 := by kernel_rfl
theorem s68_ok : Yi 31 (Zv Tryd.f68) = true := by kernel_rfl
end Go.Proofs.Tryd.Am

namespace Go.Proofs.Tryd.Am
open Go.Am Sr
set_option maxRecDepth 100000
set_option maxHeartbeats 1000000

abbrev fC (x y : Int) : Blk := .cells [Zd x, Zd y] 44 false
abbrev z0 : Blk := .cells [.int .i64 0, .int .i64 0] 44 false
section
variable (h : Zh) (A B C : Blk)
theorem b3_0 : (h ++ [A] ++ [B] ++ [C])[h.length]? = some A := by simp
theorem b3_1 : (h ++ [A] ++ [B] ++ [C])[h.length + 1]? = some B := by simp
theorem b3_2 : (h ++ [A] ++ [B] ++ [C])[h.length + 2]? = some C := by simp
theorem e3 : Ext (fun _ => False) h (h ++ [A] ++ [B] ++ [C]) := by rw [List.append_assoc, List.append_assoc]; exact Ext.app _ _ _
end
theorem quoD {x y : Nat} (hx : x < 9223372036854775808) (hd : y ∣ x) : quoV .i64 (x : Int) (y : Int) = ((x / y : Nat) : Int) := by
  rw [quo_dvd (by omega) (Int.natCast_dvd_natCast.2 hd), Int.natCast_ediv]
theorem mulZ {a b : Int} (h : (a * b).natAbs < 9223372036854775808) : mulV .i64 a b = a * b := mulV_id (by omega) (by omega)
theorem addZ {a b : Int} (h : a.natAbs + b.natAbs < 9223372036854775808) : addV .i64 a b = a + b := addV_id (by omega) (by omega)
theorem getP_mem {ps : List (Int × Int)} {k : Nat} (hk : k < ps.length) : ps.getD k (0, 0) ∈ ps := by
  rw [List.getD, List.getElem?_eq_getElem hk]; exact List.getElem_mem _
theorem take_snoc {α : Type} {l : List α} {k : Nat} {d : α} (hk : k < l.length) : l.take (k + 1) = l.take k ++ [l.getD k d] := by
  rw [List.take_succ_eq_append_getElem hk, List.getD, List.getElem?_eq_getElem hk]; rfl

theorem s68_callW [Tabs Tryd.prog] {args : List Value} {h : Zh} {Q : Value → Zh → Prop} (hsz : args.length ≤ 31) (hk : AWS Tryd.prog 31 s68 (Zo Tryd.prog [.cell 4 44] Q) (Zr 0 args) h) : ACall Tryd.prog 68 args h Q :=
  Xg Tryd.func68 rfl (enters_of Tryd.func68 (by kernel_rfl) rfl) rfl rfl (by decide) s68_strip s68_ok hsz hk
theorem rfrac_call [Tabs prog] {h : Zh} {a b : Int} (hb : b ≠ 0) (ha : a.natAbs < 9223372036854775808) (hb2 : b.natAbs < 9223372036854775808) : Wk prog 68 [Zd a, Zd b] h (qV (Rat.divInt a b)) := by
  have c0 := Yq h z0
  have hE0 : Ext (fun _ => False) h (h ++ [z0]) := Ext.app _ _ _
  obtain ⟨x, n, hn, hx, hn2, hq, hneg, hpos⟩ : ∃ (x : Int) (n : Nat), 0 < n ∧ x.natAbs < 9223372036854775808 ∧ n < 9223372036854775808 ∧ Rat.divInt x n = Rat.divInt a b ∧ (b < 0 → subV .i64 0 a = x ∧ subV .i64 0 b = n) ∧ (¬ b < 0 → a = x ∧ b = n) := by
    by_cases h0 : b < 0
    · refine ⟨-a, b.natAbs, by omega, by omega, hb2, ?_, fun _ => ⟨?_, ?_⟩, fun h => absurd h0 h⟩
      · rw [show ((b.natAbs : Nat) : Int) = -b by omega]; exact Rat.neg_divInt_neg a b
      · rw [subV_id (by omega) (by omega)]; omega
      · rw [subV_id (by omega) (by omega)]; omega
    · exact ⟨a, b.natAbs, by omega, ha, hb2, by rw [show ((b.natAbs : Nat) : Int) = b by omega], fun h => absurd h h0, fun _ => ⟨rfl, by omega⟩⟩
  refine ACall.forget (low_frV _ _) ?_
  refine s68_callW (by simp) ?_
  simp only [s68]
  refine Zg fun N1 hN1 => ?_
  simp (maxSteps := 2000000) only [↓Za, ↓Zb, ↓Zc, vup, cond_false, aop, Zf, Zr, sput, Ze, Nat.reduceBEq, Nat.reduceAdd, tyf, Wd, Xd]
  refine hN1 [(0, Zd a), (1, Zd b), (4, .pointer (some ⟨h.length, 0, none⟩))] _ _ ?_ (by simp (maxSteps := 2000000) only [vup, cond_true, cond_false, Nat.reduceBEq])
  clear hN1
  try clear N1
  refine Zg fun M hM => ?_
  have key : ∀ e, ELe e [(0, Zd x), (1, Zd (n : Int)), (4, .pointer (some ⟨h.length, 0, none⟩))] → M e (h ++ [z0]) := by
    intro e he
    refine hM [(0, Zd x), (1, Zd (n : Int)), (4, .pointer (some ⟨h.length, 0, none⟩))] _ _ ?_ he
    refine Zg fun N2 hN2 => ?_
    simp (maxSteps := 2000000) only [↓Za, ↓Zb, ↓Zc, vup, List.map_cons, List.map_nil, cond_true, cond_false, aop, Zf, ev, sput, Ze, unK, Zj, Nat.reduceBEq, mmK, if_true, max_abs hx]
    refine hN2 [(0, Zd x), (1, Zd (n : Int)), (4, .pointer (some ⟨h.length, 0, none⟩)), (5, Zd (x.natAbs : Nat)), (6, Zd (n : Int))] _ _ ?_ (by simp (maxSteps := 2000000) only [vup, cond_true, cond_false, Nat.reduceBEq])
    clear hN2
    try clear N2
    refine Zn fun M2 hM2 => ?_
    refine Zt ?_
    refine Zp fun Q hQ => ?_
    refine Yx (γ := Nat × Nat) (fun s => Nat.gcd s.1 s.2 = Nat.gcd x.natAbs n ∧ s.1 < 9223372036854775808 ∧ s.2 < 9223372036854775808)
      (fun s => ([(0, Zd x), (1, Zd (n : Int)), (4, .pointer (some ⟨h.length, 0, none⟩)), (5, Zd (s.1 : Nat)), (6, Zd (s.2 : Nat))], h ++ [z0])) (fun s => s.2) (x.natAbs, n) ⟨rfl, hx, hn2⟩ (by simp (maxSteps := 2000000) only [vup, cond_true, cond_false, Nat.reduceBEq]) rfl ?_
    rintro ⟨u, w⟩ ⟨huw, hu, hw⟩
    simp only at huw hu hw
    refine Zp fun Q2 hQ2 => ?_
    simp only [l68_0]
    by_cases hw0 : w = 0
    · subst hw0
      have e0 : (((0 : Nat) : Int) != 0) = false := rfl
      rw [Nat.gcd_zero_right] at huw
      subst huw
      refine Zg fun N3 hN3 => ?_
      simp (maxSteps := 2000000) only [↓Za, ↓Zi, ↓Yk, ↓Zb, ↓Zc, ↓vdn, vup, cond_true, cond_false, aop, Zf, ev, sput, Ze, Zw, Zz, Nat.reduceBEq, e0]
      refine hQ2 _ _ _ (hQ _ _ _ ?_)
      simp (maxSteps := 2000000) only [Zf, Zk, Zo, if_true]
      refine hM2 [(0, Zd x), (1, Zd (n : Int)), (4, .pointer (some ⟨h.length, 0, none⟩)), (5, Zd (Nat.gcd x.natAbs n : Nat))] _ _ ?_ (by simp (maxSteps := 2000000) only [vup, cond_true, cond_false, Nat.reduceBEq])
      clear hM2
      try clear M2
      have hg : ¬ ((Nat.gcd x.natAbs n : Nat) : Int) = 0 := by have := Nat.gcd_pos_of_pos_right x.natAbs hn; omega
      have q1 : quoV .i64 x ((Nat.gcd x.natAbs n : Nat) : Int) = (Rat.divInt a b).num := by rw [quo_dvd hx (gcd_dvd_int _ _), (terms hn).1, hq]
      have q2 : quoV .i64 (n : Int) ((Nat.gcd x.natAbs n : Nat) : Int) = (Rat.divInt a b).den := by
        rw [quo_dvd (by omega) (Int.natCast_dvd_natCast.2 (Nat.gcd_dvd_right _ _)), ← hq, ← (terms hn).2, Int.natCast_ediv]
      refine Zl ?_
      simp only [q68_6]
      refine aw_cut fun N hN => ?_
      refine Xp [] (by kernel_rfl) (by kernel_rfl) (by kernel_rfl) (by kernel_rfl) ?_
      simp (maxSteps := 2000000) only [↓Yp, ↓vdn, vup, List.map_cons, List.map_nil, cond_true, cond_false, aop, Zf, ev, sput, Ze, Zw, Zz, Nat.reduceBEq, ne_eq, hg, not_false_eq_true, q1, q2, bldF, storeF c0 rfl]
      refine hN _ _ ?_
      simp (maxSteps := 2000000) only [↓Zs, vup, cond_true, cond_false, Nat.reduceBEq, Zo, Xh, tup, loadF (Wx (h := h ++ [Blk.cells [.int .i64 0, .int .i64 0] 44 false]) (b := h.length) (by simp) _)]
      exact ⟨rfl, hE0.set_ge (Nat.le_refl _) _⟩
    · have e0 : (((w : Nat) : Int) != 0) = true := by
        have : ((w : Nat) : Int) ≠ 0 := by omega
        simpa using this
      have e1 : ¬ ((w : Nat) : Int) = 0 := by omega
      have etm : ((u : Nat) : Int).tmod ((w : Nat) : Int) = ((u % w : Nat) : Int) := by rw [Int.tmod_eq_emod_of_nonneg (by omega)]; rfl
      have hlt := Nat.mod_lt u (show w > 0 by omega)
      refine Zg fun N4 hN4 => ?_
      simp (maxSteps := 2000000) only [↓Za, ↓Zm, ↓Zi, ↓Zb, ↓Zc, ↓vdn, vup, cond_true, cond_false, aop, Zf, ev, sput, Ze, Zw, Zz, Nat.reduceBEq, e0]
      refine hN4 [(0, Zd x), (1, Zd (n : Int)), (4, .pointer (some ⟨h.length, 0, none⟩)), (5, Zd (u : Nat)), (6, Zd (w : Nat))] _ _ ?_ (by simp (maxSteps := 2000000) only [vup, cond_true, cond_false, Nat.reduceBEq])
      clear hN4
      try clear N4
      refine Zl ?_
      simp only [q68_5, Yj]
      refine Xp [] (by kernel_rfl) (by kernel_rfl) (by kernel_rfl) (by kernel_rfl) ?_
      simp (maxSteps := 2000000) only [↓Yp, ↓vdn, vup, cond_true, cond_false, aop, Zk, ev, sput, Ze, Zw, Zz, Nat.reduceBEq, ne_eq, e1, not_false_eq_true, etm]
      refine hQ2 _ _ _ ⟨(w, u % w), ⟨?_, hw, by simp only; omega⟩, hlt, by simp (maxSteps := 2000000) only [vup, cond_true, cond_false, Nat.reduceBEq], rfl⟩
      simp only
      rw [← huw, Nat.gcd_comm u w, Nat.gcd_rec w u, Nat.gcd_comm]
  by_cases hb0 : b < 0
  · simp (maxSteps := 2000000) only [↓Za, ↓Zi, ↓Zb, ↓Zc, ↓vdn, vup, cond_true, cond_false, aop, Zf, ev, sput, Ze, Zw, Zz, unK, Nat.reduceBEq, hb0, (hneg hb0).1, (hneg hb0).2]
    exact key _ (by simp (maxSteps := 2000000) only [vup, cond_true, cond_false, Nat.reduceBEq])
  · simp (maxSteps := 2000000) only [↓Za, ↓Zm, ↓Zi, ↓Zb, ↓Zc, ↓vdn, vup, cond_true, cond_false, aop, Zf, ev, sput, Ze, Zw, Zz, Nat.reduceBEq, hb0]
    exact key _ (by simp (maxSteps := 2000000) only [vup, cond_true, cond_false, Nat.reduceBEq, (hpos hb0).1, (hpos hb0).2])

theorem s65_callW [Tabs Tryd.prog] {args : List Value} {h : Zh} {Q : Value → Zh → Prop} (hsz : args.length ≤ 34) (hk : AWS Tryd.prog 34 s65 (Zo Tryd.prog [.cell 4 44] Q) (Zr 0 args) h) : ACall Tryd.prog 65 args h Q :=
  Xg Tryd.func65 rfl (enters_of Tryd.func65 (by kernel_rfl) rfl) rfl rfl (by decide) s65_strip s65_ok hsz hk
theorem plus_call [Tabs prog] {h : Zh} {a b : Rat} {x y : Int} {N : Nat} (ha : Bq.Rp N x a) (hb : Bq.Rp N y b) (hx : x.natAbs + y.natAbs < 9223372036854775808) (hN : N < 9223372036854775808) : Wk prog 65 [qV a, qV b] h (qV (a + b)) := by
  obtain ⟨p1, p2, p3, p4, p5⟩ := Bq.plus_bound (k := 1) ha hb
  rw [Int.one_mul] at p2 p3
  have da := ha.den_le
  have db := hb.den_le
  have hg := Nat.gcd_pos_of_pos_left b.den a.den_pos
  have pe := Bq.plus_eq a b 1
  rw [Int.one_mul, show ((1 : Int) : Rat) = 1 from rfl, Rat.one_mul] at pe
  rw [Int.one_mul] at p2 p3
  obtain ⟨H, hH⟩ : ∃ H, H = h ++ [fC a.num a.den] ++ [fC b.num b.den] ++ [z0] := ⟨_, rfl⟩
  have c3 : H[h.length]? = some (fC a.num a.den) := by rw [hH]; exact b3_0 ..
  have c5 : H[h.length + 1]? = some (fC b.num b.den) := by rw [hH]; exact b3_1 ..
  have c6 : H[h.length + 2]? = some z0 := by rw [hH]; exact b3_2 ..
  have hE : Ext (fun _ => False) h H := by rw [hH]; exact e3 ..
  have hg0 : ¬ ((Nat.gcd a.den b.den : Nat) : Int) = 0 := by omega
  have q1 := quoD (x := b.den) (show b.den < 9223372036854775808 by omega) (Nat.gcd_dvd_right a.den b.den)
  have q2 := quoD (x := a.den) (show a.den < 9223372036854775808 by omega) (Nat.gcd_dvd_left a.den b.den)
  have m1 := mulZ (a := a.num) (b := ((b.den / Nat.gcd a.den b.den : Nat) : Int)) (by omega)
  have m3 := mulZ (a := b.num) (b := ((a.den / Nat.gcd a.den b.den : Nat) : Int)) (by omega)
  have m4 := addZ (a := a.num * ((b.den / Nat.gcd a.den b.den : Nat) : Int)) (b := b.num * ((a.den / Nat.gcd a.den b.den : Nat) : Int)) (by omega)
  have m5 : mulV .i64 ((a.den / Nat.gcd a.den b.den : Nat) : Int) (b.den : Int) = ((a.den / Nat.gcd a.den b.den * b.den : Nat) : Int) := by
    rw [mulZ (by rw [← Int.natCast_mul]; omega), Int.natCast_mul]
  have pe' : Rat.divInt (a.num * ((b.den / Nat.gcd a.den b.den : Nat) : Int) + b.num * ((a.den / Nat.gcd a.den b.den : Nat) : Int)) ((a.den / Nat.gcd a.den b.den * b.den : Nat) : Int) = a + b := by
    rw [Int.natCast_mul]; exact pe
  have fc := frac_call (h := H) (a := a.num * ((b.den / Nat.gcd a.den b.den : Nat) : Int) + b.num * ((a.den / Nat.gcd a.den b.den : Nat) : Int)) (b := ((a.den / Nat.gcd a.den b.den * b.den : Nat) : Int)) (by omega) (by omega) (by omega)
  rw [pe'] at fc
  obtain ⟨q, hq⟩ : ∃ q, a + b = q := ⟨_, rfl⟩
  rw [hq] at fc ⊢
  refine ACall.forget (low_frV _ _) ?_
  refine s65_callW (by simp) ?_
  simp only [s65]
  refine Zg fun N5 hN5 => ?_
  simp (maxSteps := 2000000) only [↓Za, ↓Zb, ↓Zc, vup, cond_true, cond_false, aop, Zf, Zr, ev, sput, Ze, Nat.reduceBEq, Nat.reduceAdd, tyf, qV, frV, boxF, Wd, Xd, List.length_append, List.length_singleton, Nat.add_assoc]
  rw [← hH]
  refine hN5 [(2, .pointer (some ⟨h.length, 0, none⟩)), (3, .pointer (some ⟨h.length + 1, 0, none⟩)), (4, .pointer (some ⟨h.length + 2, 0, none⟩))] _ _ ?_ (by simp (maxSteps := 2000000) only [vup, cond_true, cond_false, Nat.reduceBEq])
  clear hN5
  try clear N5
  refine Zg fun N6 hN6 => ?_
  simp (maxSteps := 2000000) only [↓Za, ↓Zb, ↓Zc, vup, List.map_cons, List.map_nil, cond_true, cond_false, aop, Zf, ev, sput, Ze, Nat.reduceBEq, Yt, List.nil_append, List.append_nil, fA1, Wn c3, Wn c5]
  refine (gcd_call (.inl (by omega)) (by omega)).mono ?_
  rintro _ _ ⟨rfl, rfl⟩
  rw [Int.natAbs_natCast, Int.natAbs_natCast]
  refine hN6 [(2, .pointer (some ⟨h.length, 0, none⟩)), (3, .pointer (some ⟨h.length + 1, 0, none⟩)), (4, .pointer (some ⟨h.length + 2, 0, none⟩)), (5, Zd (Nat.gcd a.den b.den : Nat))] _ _ ?_ (by simp (maxSteps := 2000000) only [vup, cond_true, cond_false, Nat.reduceBEq])
  clear hN6
  try clear N6
  refine Zl ?_
  simp only [q65_2]
  refine aw_cut fun N hN => ?_
  refine Xp [(22, 1)] (by kernel_rfl) (by kernel_rfl) (by kernel_rfl) (by kernel_rfl) ?_
  simp (maxSteps := 2000000) only [↓Yp, ↓vdn, vup, List.map_cons, List.map_nil, cond_true, cond_false, aop, Zf, ev, sput, Ze, Zw, Zz, Nat.reduceBEq, Nat.reduceAdd, tyf, fA0, fA1, Wn c3, Wn c5, loadF0 c3, loadF0 c5, ne_eq, hg0, not_false_eq_true, q1, q2, m1, m3, m4, m5, Yt, List.nil_append, List.append_nil]
  refine ⟨_, _, fc, rfl, ?_⟩
  simp (maxSteps := 2000000) only [qV, frV, storeF c6 rfl]
  refine hN _ _ ?_
  simp (maxSteps := 2000000) only [↓Zs, vup, cond_true, cond_false, Nat.reduceBEq, Zo, Xh, tup, loadF (Wx (Yr c6) _)]
  exact ⟨rfl, hE.set_ge (by omega) _⟩

/-! ### Weights -/
def isW (p : Int × Int) : Bool := decide (1 ≤ p.2) && (decide (p.2 ≤ 60) && (decide (0 ≤ p.1) && (decide (p.1 ≤ p.2) && (Nat.gcd p.1.natAbs p.2.natAbs == 1))))
def allW (ps : List (Int × Int)) : Bool := ps.all isW
def wq (p : Int × Int) : Rat := Rat.divInt p.1 p.2
theorem isW_iff {p : Int × Int} : isW p = true ↔ 1 ≤ p.2 ∧ p.2 ≤ 60 ∧ 0 ≤ p.1 ∧ p.1 ≤ p.2 ∧ Nat.gcd p.1.natAbs p.2.natAbs = 1 := by
  simp only [isW, Bool.and_eq_true, decide_eq_true_eq, beq_iff_eq]
theorem wq_parts {p : Int × Int} (h1 : 1 ≤ p.2) (hg : Nat.gcd p.1.natAbs p.2.natAbs = 1) : (wq p).num = p.1 ∧ ((wq p).den : Int) = p.2 := by
  obtain ⟨t1, t2⟩ := terms (x := p.1) (n := p.2.natAbs) (by omega)
  rw [show ((p.2.natAbs : Nat) : Int) = p.2 by omega] at t1 t2
  rw [hg] at t1 t2
  refine ⟨?_, ?_⟩
  · rw [wq, ← t1]; simp
  · rw [wq, ← t2, Nat.div_one]; omega
theorem isW_parts {p : Int × Int} (h : isW p = true) : (wq p).num = p.1 ∧ ((wq p).den : Int) = p.2 := by
  obtain ⟨h1, _, _, _, hg⟩ := isW_iff.1 h
  exact wq_parts h1 hg
theorem low_iff {p : Int × Int} (h1 : 1 ≤ p.2) : ((wq p).num = p.1 ∧ ((wq p).den : Int) = p.2) ↔ Nat.gcd p.1.natAbs p.2.natAbs = 1 := by
  constructor
  · rintro ⟨e1, e2⟩
    have := (wq p).reduced
    have e3 : (wq p).den = p.2.natAbs := by omega
    rw [e1, e3] at this
    exact this
  · exact wq_parts h1
theorem s64_callW [Tabs Tryd.prog] {args : List Value} {h : Zh} {Q : Value → Zh → Prop} (hsz : args.length ≤ 31) (hk : AWS Tryd.prog 31 s64 (Zo Tryd.prog [.tmp 2] Q) (Zr 0 args) h) : ACall Tryd.prog 64 args h Q :=
  Xg Tryd.func64 rfl (enters_of Tryd.func64 (by kernel_rfl) rfl) rfl rfl (by decide) s64_strip s64_ok hsz hk
theorem isw_call [Tabs prog] {h : Zh} {x y : Int} : Wk prog 64 [frV x y] h (.bool (isW (x, y))) := by
  have hE : Ext (fun _ => False) h (h ++ [fC x y]) := Ext.app _ _ _
  refine ACall.forget (Low.bool _) ?_
  refine s64_callW (by simp) ?_
  refine Zl ?_
  have e : isW (x, y) = (decide (1 ≤ y) && (decide (y ≤ 60) && (decide (0 ≤ x) && (decide (x ≤ y) && (Nat.gcd x.natAbs y.natAbs == 1))))) := rfl
  by_cases h1 : 1 ≤ y
  · by_cases h2 : y ≤ 60
    · by_cases h3 : 0 ≤ x
      · by_cases h4 : x ≤ y
        · simp (maxSteps := 2000000) only [s64, ↓Za, ↓Zi, ↓Zs, ↓Zb, ↓Zc, ↓vdn, vup, List.map_cons, List.map_nil, cond_true, cond_false, aop, Zf, Zr, ev, sput, Ze, Zw, Zz, Nat.reduceBEq, Zo, Xh, tup, tyf, frV, boxF, Xd, fA0, fA1, loadF0 (Yq h _), Wn (Yq h _), h1, h2, h3, h4, Yt, List.nil_append, List.append_nil]
          refine (gcd_call (.inr (by omega)) (by omega)).mono ?_
          rintro _ _ ⟨rfl, rfl⟩
          have eg : ((((Nat.gcd x.natAbs y.natAbs : Nat)) : Int) == 1) = (Nat.gcd x.natAbs y.natAbs == 1) := by
            rw [Bool.eq_iff_iff]; simp; omega
          simp (maxSteps := 2000000) only [vup, eg]
          exact ⟨by rw [e, decide_eq_true h1, decide_eq_true h2, decide_eq_true h3, decide_eq_true h4]; rfl, hE⟩
        · simp (maxSteps := 2000000) only [s64, ↓Za, ↓Zi, ↓Zs, ↓Zb, ↓Zc, ↓vdn, vup, cond_true, cond_false, aop, Zf, Zr, ev, sput, Ze, Zw, Zz, Nat.reduceBEq, Zo, Xh, tup, tyf, frV, boxF, Xd, fA0, fA1, loadF0 (Yq h _), Wn (Yq h _), h1, h2, h3, h4]
          exact ⟨by rw [e, decide_eq_false h4, Bool.false_and, Bool.and_false, Bool.and_false, Bool.and_false], hE⟩
      · simp (maxSteps := 2000000) only [s64, ↓Za, ↓Zi, ↓Zs, ↓Zb, ↓Zc, ↓vdn, vup, cond_true, cond_false, aop, Zf, Zr, ev, sput, Ze, Zw, Zz, Nat.reduceBEq, Zo, Xh, tup, tyf, frV, boxF, Xd, fA0, fA1, loadF0 (Yq h _), Wn (Yq h _), h1, h2, h3]
        exact ⟨by rw [e, decide_eq_false h3, Bool.false_and, Bool.and_false, Bool.and_false], hE⟩
    · simp (maxSteps := 2000000) only [s64, ↓Za, ↓Zi, ↓Zs, ↓Zb, ↓Zc, ↓vdn, vup, cond_true, cond_false, aop, Zf, Zr, ev, sput, Ze, Zw, Zz, Nat.reduceBEq, Zo, Xh, tup, tyf, frV, boxF, Xd, fA1, Wn (Yq h _), h1, h2]
      exact ⟨by rw [e, decide_eq_false h2, Bool.false_and, Bool.and_false], hE⟩
  · simp (maxSteps := 2000000) only [s64, ↓Za, ↓Zi, ↓Zs, ↓Zb, ↓Zc, ↓vdn, vup, cond_true, cond_false, aop, Zf, Zr, ev, sput, Ze, Zw, Zz, Nat.reduceBEq, Zo, Xh, tup, tyf, frV, boxF, Xd, fA1, Wn (Yq h _), h1]
    exact ⟨by rw [e, decide_eq_false h1, Bool.false_and], hE⟩
theorem s63_callW [Tabs Tryd.prog] {args : List Value} {h : Zh} {Q : Value → Zh → Prop} (hsz : args.length ≤ 6) (hk : AWS Tryd.prog 6 s63 (Zo Tryd.prog [.tmp 2] Q) (Zr 0 args) h) : ACall Tryd.prog 63 args h Q :=
  Xg Tryd.func63 rfl (enters_of Tryd.func63 (by kernel_rfl) rfl) rfl rfl (by decide) s63_strip s63_ok hsz hk
theorem noW_call [Tabs prog] {h : Zh} {x y : Int} : Wk prog 63 [frV x y] h (.bool (!isW (x, y))) := by
  have hE : Ext (fun _ => False) h (h ++ [fC x y]) := Ext.app _ _ _
  refine ACall.forget (Low.bool _) ?_
  refine s63_callW (by simp) ?_
  refine Zl ?_
  simp (maxSteps := 2000000) only [s63, ↓Za, ↓Zi, ↓Zs, ↓Zb, ↓Zc, vup, List.map_cons, List.map_nil, cond_true, cond_false, aop, Zf, Zr, ev, sput, Ze, unK, Nat.reduceBEq, Zo, Xh, tup, frV, boxF, Xd, loadF (Yq h _), Yt, List.nil_append, List.append_nil]
  refine (show Wk prog 64 [.agg #[Zd x, Zd y]] (h ++ [fC x y]) _ from isw_call).mono ?_
  rintro _ _ ⟨rfl, rfl⟩
  simp (maxSteps := 2000000) only [vup]
  exact hE

theorem s89_callW [Tabs Tryd.prog] {args : List Value} {h : Zh} {Q : Value → Zh → Prop} (hsz : args.length ≤ 19) (hk : AWS Tryd.prog 19 s89 (Zo Tryd.prog [.tmp 4] Q) (Zr 0 args) h) : ACall Tryd.prog 89 args h Q :=
  Xg Tryd.func89 rfl (enters_of Tryd.func89 (by kernel_rfl) rfl) rfl rfl (by decide) s89_strip s89_ok hsz hk
theorem idxFr_call [Tabs prog] {h : Zh} {v : Value} {ps : List (Int × Int)} {g : FuncId} {cap : Array Value} {f : Int × Int → Bool} (hv : PairSl h v ps) (hl : ps.length < 9223372036854775808)
    (hc : ∀ h', Ext (fun _ => False) h h' → ∀ p ∈ ps, Wk prog g ([.agg #[Zd p.1, Zd p.2]] ++ cap.toList) h' (.bool (f p))) : ACall prog 89 [v, .func (.func g) #[] cap] h fun r h' => h' = h ∧ ∃ i : Int, r = Zd i ∧ decide (0 ≤ i) = ps.any f := by
  refine s89_callW (by simp) ?_
  simp only [s89]
  refine Zg fun N7 hN7 => ?_
  simp (maxSteps := 2000000) only [↓Za, ↓Zb, ↓Zc, vup, cond_false, aop, Zf, Zr, ev, sput, Ze, Nat.reduceBEq, Nat.reduceAdd]
  refine hN7 [(0, v), (1, .func (.func g) #[] cap), (4, .int .i64 0)] _ _ ?_ (by simp (maxSteps := 2000000) only [vup, cond_true, cond_false, Nat.reduceBEq])
  clear hN7
  try clear N7
  refine Zn fun Z hZ => ?_
  refine Zg fun N8 hN8 => ?_
  simp (maxSteps := 2000000) only [↓Za, ↓Zb, ↓Zc, vup, List.map_cons, List.map_nil, cond_true, cond_false, aop, Zf, ev, sput, Ze, Zj, Nat.reduceBEq, tyf, hv.len]
  refine hN8 [(0, v), (1, .func (.func g) #[] cap), (4, .int .i64 0), (6, v), (7, Zd ps.length), (8, .int .i64 0)] _ _ ?_ (by simp (maxSteps := 2000000) only [vup, cond_true, cond_false, Nat.reduceBEq])
  clear hN8
  try clear N8
  refine Zt ?_
  refine Zp fun Q hQ => ?_
  refine Yx (γ := Nat) (fun k => k ≤ ps.length ∧ ∀ p ∈ ps.take k, f p = false)
    (fun k => ([(0, v), (1, .func (.func g) #[] cap), (4, .int .i64 0), (6, v), (7, Zd ps.length), (8, Zd (k : Nat))], h)) (fun k => ps.length - k) 0 ⟨Nat.zero_le _, by simp⟩ (by simp (maxSteps := 2000000) only [vup, cond_true, cond_false, Nat.reduceBEq, Int.natCast_zero]) rfl ?_
  rintro k ⟨hk, hall⟩
  refine Zp fun Q2 hQ2 => ?_
  simp only [l89_0]
  by_cases hin : (k : Int) < ps.length
  · have hk' : k < ps.length := by omega
    obtain ⟨⟨x, y⟩, hxy⟩ : ∃ p, ps.getD k (0, 0) = p := ⟨_, rfl⟩
    have hmem : (x, y) ∈ ps := hxy ▸ getP_mem hk'
    refine Zg fun N9 hN9 => ?_
    simp (maxSteps := 2000000) only [↓Za, ↓Zb, ↓Zc, vup, cond_true, cond_false, aop, Zf, ev, sput, Ze, Zw, Zz, Nat.reduceBEq, hin]
    refine hN9 [(0, v), (1, .func (.func g) #[] cap), (4, .int .i64 0), (6, v), (7, Zd ps.length), (8, Zd (k : Nat)), (9, .bool true)] _ _ ?_ (by simp (maxSteps := 2000000) only [vup, cond_true, cond_false, Nat.reduceBEq])
    clear hN9
    try clear N9
    refine Zg fun N10 hN10 => ?_
    simp (maxSteps := 2000000) only [↓Zm, ↓vdn, vup, cond_true, cond_false, Zf, ev, Nat.reduceBEq]
    refine hN10 [(0, v), (1, .func (.func g) #[] cap), (4, .int .i64 0), (6, v), (7, Zd ps.length), (8, Zd (k : Nat))] _ _ ?_ (by simp (maxSteps := 2000000) only [vup, cond_true, cond_false, Nat.reduceBEq])
    clear hN10
    try clear N10
    refine Zn fun B hB => ?_
    refine Zt ?_
    refine Zg fun N11 hN11 => ?_
    simp (maxSteps := 2000000) only [↓Za, ↓Zb, ↓Zc, vup, cond_true, cond_false, aop, Zf, ev, sput, Ze, Nat.reduceBEq]
    refine hN11 [(0, v), (1, .func (.func g) #[] cap), (4, .int .i64 0), (5, Zd (k : Nat)), (6, v), (7, Zd ps.length), (8, Zd (k : Nat))] _ _ ?_ (by simp (maxSteps := 2000000) only [vup, cond_true, cond_false, Nat.reduceBEq])
    clear hN11
    try clear N11
    refine Zg fun N12 hN12 => ?_
    simp (maxSteps := 2000000) only [↓Za, ↓Zb, ↓Zc, vup, List.map_cons, List.map_nil, cond_true, cond_false, aop, Zf, ev, sput, Ze, Nat.reduceBEq, hv.idx el_50 esz_44 hk', hv.load shp_44 hk', hxy, Yt, List.nil_append]
    refine (show Wk prog g ([.agg #[Zd x, Zd y]] ++ cap.toList) h (.bool (f (x, y))) from hc h (Ext.refl _ _) _ hmem).mono ?_
    rintro _ h ⟨rfl, rfl⟩
    refine hN12 [(0, v), (1, .func (.func g) #[] cap), (4, .int .i64 0), (5, Zd (k : Nat)), (6, v), (7, Zd ps.length), (8, Zd (k : Nat)), (16, .bool (f (x, y)))] _ _ ?_ (by simp (maxSteps := 2000000) only [vup, cond_true, cond_false, Nat.reduceBEq])
    clear hN12
    try clear N12
    refine Zl ?_
    cases hf : f (x, y) with
    | true =>
      simp (maxSteps := 2000000) only [↓Za, ↓Zi, ↓Zs, ↓Zb, ↓Zc, ↓vdn, vup, cond_true, cond_false, aop, Zf, Zk, ev, sput, Ze, Nat.reduceBEq]
      refine hQ2 _ _ _ (hQ _ _ _ ?_)
      simp (maxSteps := 2000000) only [vup, cond_true, cond_false, Zf, Zk, Nat.reduceBEq, Zo, Xh, tup]
      exact ⟨_, rfl, by rw [show ps.any f = true from List.any_eq_true.2 ⟨_, hmem, hf⟩]; simp⟩
    | false =>
      simp (maxSteps := 2000000) only [↓Zm, ↓vdn, vup, cond_true, cond_false, Zf, Zk, ev, Nat.reduceBEq]
      refine hB [(0, v), (1, .func (.func g) #[] cap), (4, .int .i64 0), (6, v), (7, Zd ps.length), (8, Zd (k : Nat))] _ _ ?_ (by simp (maxSteps := 2000000) only [vup, cond_true, cond_false, Nat.reduceBEq])
      clear hB
      try clear B
      refine Zl ?_
      simp (maxSteps := 2000000) only [↓Za, ↓Zb, ↓Zc, vup, cond_true, cond_false, aop, ev, sput, Ze, Zw, Zz, Nat.reduceBEq, add1 (show k < 9223372036854775807 by omega)]
      refine hQ2 _ _ _ ⟨k + 1, ⟨hk', fun p hp => ?_⟩, by omega, by simp (maxSteps := 2000000) only [vup, cond_true, cond_false, Nat.reduceBEq], rfl⟩
      rw [take_snoc (d := ((0, 0) : Int × Int)) hk', hxy] at hp
      rcases List.mem_append.1 hp with h3 | h3
      · exact hall p h3
      · simp at h3; subst h3; exact hf
  · obtain rfl : k = ps.length := by omega
    refine Zg fun N13 hN13 => ?_
    simp (maxSteps := 2000000) only [↓Za, ↓Zb, ↓Zc, vup, cond_true, cond_false, aop, Zf, ev, sput, Ze, Zw, Zz, Nat.reduceBEq, hin]
    refine hN13 [(0, v), (1, .func (.func g) #[] cap), (4, .int .i64 0), (6, v), (7, Zd ps.length), (8, Zd ps.length), (9, .bool false)] _ _ ?_ (by simp (maxSteps := 2000000) only [vup, cond_true, cond_false, Nat.reduceBEq])
    clear hN13
    try clear N13
    refine Zg fun N14 hN14 => ?_
    simp (maxSteps := 2000000) only [↓Yk, ↓vdn, vup, cond_true, cond_false, Zf, ev, Nat.reduceBEq]
    refine hQ2 _ _ _ (hQ _ _ _ ?_)
    simp (maxSteps := 2000000) only [Zf, Zk, Zo, if_true]
    refine hZ [(0, v), (1, .func (.func g) #[] cap), (4, .int .i64 0), (6, v), (7, Zd ps.length), (8, Zd ps.length), (9, .bool false)] _ _ ?_ (by simp (maxSteps := 2000000) only [vup, cond_true, cond_false, Nat.reduceBEq])
    clear hZ
    try clear Z
    refine Zl ?_
    simp (maxSteps := 2000000) only [↓Za, ↓Zi, ↓Zs, ↓Zb, ↓Zc, vup, cond_true, cond_false, aop, Zf, ev, sput, Ze, Nat.reduceBEq, Zo, Xh, tup]
    rw [List.take_length] at hall
    exact ⟨_, rfl, by rw [show ps.any f = false from List.any_eq_false.2 fun p hp => by simp [hall p hp]]; decide⟩

theorem s62_callW [Tabs Tryd.prog] {args : List Value} {h : Zh} {Q : Value → Zh → Prop} (hsz : args.length ≤ 9) (hk : AWS Tryd.prog 9 s62 (Zo Tryd.prog [.tmp 4] Q) (Zr 0 args) h) : ACall Tryd.prog 62 args h Q :=
  Xg Tryd.func62 rfl (enters_of Tryd.func62 (by kernel_rfl) rfl) rfl rfl (by decide) s62_strip s62_ok hsz hk
theorem contW_call [Tabs prog] {h : Zh} {v : Value} {ps : List (Int × Int)} (hv : PairSl h v ps) (hl : ps.length < 9223372036854775808) : Wk prog 62 [v, .func (.func 63) #[] #[]] h (.bool (!allW ps)) := by
  refine s62_callW (by simp) ?_
  simp only [s62]
  refine Zg fun N15 hN15 => ?_
  simp (maxSteps := 2000000) only [↓Za, ↓Zb, ↓Zc, vup, cond_false, aop, Zf, Zr, ev, sput, Ze, Nat.reduceBEq, Nat.reduceAdd]
  refine hN15 [(0, v), (1, .func (.func 63) #[] #[]), (4, .bool false)] _ _ ?_ (by simp (maxSteps := 2000000) only [vup, cond_true, cond_false, Nat.reduceBEq])
  clear hN15
  try clear N15
  refine Zl ?_
  refine aw_cut fun N hN => ?_
  simp (maxSteps := 2000000) only [↓Za, ↓Zb, ↓Zc, vup, List.map_cons, List.map_nil, cond_true, cond_false, aop, Zf, ev, sput, Ze, Zw, Zz, Nat.reduceBEq, tyf, Yt, List.nil_append, List.append_nil]
  refine (idxFr_call (f := fun p => !isW p) hv hl fun h' _ p _ => noW_call).mono ?_
  rintro _ h ⟨rfl, i, rfl, hi⟩
  have e : ps.any (fun p => !isW p) = !allW ps := by rw [allW, List.not_all_eq_any_not]
  rw [e] at hi
  simp (maxSteps := 2000000) only [vup, hi]
  refine hN _ _ ?_
  simp (maxSteps := 2000000) only [↓Zs, vup, cond_true, cond_false, Nat.reduceBEq, Zo, Xh, tup]
end Go.Proofs.Tryd.Am

namespace Go.Proofs.Tryd.Am
open Go.Am Sr
set_option maxRecDepth 100000
set_option maxHeartbeats 4000000

def prodD (ps : List (Int × Int)) : Nat := ps.foldr (fun p n => p.2.natAbs * n) 1
theorem prodD_cons (p : Int × Int) (ps : List (Int × Int)) : prodD (p :: ps) = p.2.natAbs * prodD ps := rfl
theorem prodD_pos : ∀ {ps : List (Int × Int)}, allW ps = true → 0 < prodD ps
  | [], _ => by decide
  | p :: ps, h => by
    rw [allW, List.all_cons, Bool.and_eq_true] at h
    have := isW_iff.1 h.1
    rw [prodD_cons]
    exact Nat.mul_pos (by omega) (prodD_pos h.2)
theorem prodD_le : ∀ {ps : List (Int × Int)}, allW ps = true → prodD ps ≤ 60 ^ ps.length
  | [], _ => by decide
  | p :: ps, h => by
    rw [allW, List.all_cons, Bool.and_eq_true] at h
    have := isW_iff.1 h.1
    rw [prodD_cons, List.length_cons, Nat.pow_succ, Nat.mul_comm]
    exact Nat.mul_le_mul (prodD_le h.2) (by omega)
theorem prodD_dvd : ∀ {ps : List (Int × Int)}, ∀ p ∈ ps, p.2.natAbs ∣ prodD ps
  | [], p, h => by cases h
  | a :: ps, p, h => by
    rw [prodD_cons]
    rcases List.mem_cons.1 h with rfl | h
    · exact Nat.dvd_mul_right _ _
    · exact Nat.dvd_trans (prodD_dvd p h) (Nat.dvd_mul_left _ _)
def wf (ps : List (Int × Int)) (i : Nat) : Rat := wq (ps.getD i (0, 0))
theorem wf_isW {ps : List (Int × Int)} (ha : allW ps = true) {i : Nat} (hi : i < ps.length) : isW (ps.getD i (0, 0)) = true := List.all_eq_true.1 ha _ (getP_mem hi)
theorem wf_nn {ps : List (Int × Int)} (ha : allW ps = true) {i : Nat} (hi : i < ps.length) : 0 ≤ wf ps i := by
  have h := wf_isW ha hi
  have e := (isW_parts h).1
  have := (isW_iff.1 h).2.2.1
  rw [← e] at this
  exact Rat.num_nonneg.1 this
theorem wf_rp {ps : List (Int × Int)} (ha : allW ps = true) {i : Nat} (hi : i < ps.length) : ∃ x : Int, 0 ≤ x ∧ x ≤ prodD ps ∧ Bq.Rp (prodD ps) x (wf ps i) := by
  have h := wf_isW ha hi
  obtain ⟨h1, h2, h3, h4, h5⟩ := isW_iff.1 h
  obtain ⟨e1, e2⟩ := isW_parts h
  have hd : (wf ps i).den ∣ prodD ps := by
    have := prodD_dvd _ (getP_mem hi)
    have e3 : (wf ps i).den = (ps.getD i (0, 0)).2.natAbs := by rw [wf]; omega
    rw [e3]; exact this
  have hr := (Bq.Rp.own (wf ps i)).up' hd (prodD_pos ha)
  have hn : (wf ps i).num ≤ (wf ps i).den := by rw [wf, e1, e2]; exact h4
  have hn0 : 0 ≤ (wf ps i).num := by rw [wf, e1]; exact h3
  refine ⟨_, Int.mul_nonneg hn0 (Int.natCast_nonneg _), ?_, hr⟩
  have h6 : (wf ps i).num * ((prodD ps / (wf ps i).den : Nat) : Int) ≤ ((wf ps i).den : Int) * ((prodD ps / (wf ps i).den : Nat) : Int) := Int.mul_le_mul_of_nonneg_right hn (Int.natCast_nonneg _)
  rw [← Int.natCast_mul, Nat.mul_div_cancel' hd] at h6
  exact h6
def sumW (ps : List (Int × Int)) (s i : Nat) : Rat := Bq.sumTo (fun j => Bq.bitQ s j * wf ps j) i
theorem sumW_succ (ps : List (Int × Int)) (s i : Nat) : sumW ps s (i + 1) = if s.testBit i = true then sumW ps s i + wf ps i else sumW ps s i := by
  have e : sumW ps s (i + 1) = sumW ps s i + Bq.bitQ s i * wf ps i := rfl
  rw [e, Bq.bitQ]
  split
  · rw [Rat.one_mul]
  · rw [Rat.zero_mul, Rat.add_zero]
theorem sumW_rp {ps : List (Int × Int)} (ha : allW ps = true) (s : Nat) : ∀ {i : Nat}, i ≤ ps.length → ∃ x : Int, 0 ≤ x ∧ x ≤ i * prodD ps ∧ Bq.Rp (prodD ps) x (sumW ps s i)
  | 0, _ => ⟨0, by decide, by simp, ⟨prodD_pos ha, by rw [sumW, Bq.sumTo, Rat.zero_mul]; rfl⟩⟩
  | i + 1, h => by
    obtain ⟨x, x0, x1, hx⟩ := sumW_rp ha s (i := i) (by omega)
    obtain ⟨y, y0, y1, hy⟩ := wf_rp ha (i := i) (by omega)
    rw [sumW_succ]
    have e : ((i + 1 : Nat) : Int) * (prodD ps : Int) = i * (prodD ps : Int) + prodD ps := by rw [Int.natCast_add, Int.add_mul]; simp
    split
    · have := hx.plus hy 1
      rw [Int.one_mul, show ((1 : Int) : Rat) = 1 from rfl, Rat.one_mul] at this
      exact ⟨x + y, by omega, by omega, this⟩
    · exact ⟨x, x0, by omega, hx⟩
def lightB (xs : List Int) (ps : List (Int × Int)) : Bool := (clq xs).all fun s => decide (sumW ps s xs.length ≤ 1)
theorem light_iff {xs : List Int} {ps : List (Int × Int)} : lightB xs ps = true ↔ ∀ s ∈ clq xs, Bq.dot (Bq.bitQ s) (wf ps) xs.length ≤ 1 := by
  simp only [lightB, List.all_eq_true, decide_eq_true_eq]; rfl
def okL (xs : List Int) (ps : List (Int × Int)) : Bool := grs xs && (decide (ps.length = xs.length) && allW ps)
def lightV (xs : List Int) (ps : List (Int × Int)) : Value := if okL xs ps = true then .tuple #[.bool (lightB xs ps), .int .i64 0] else .tuple #[.bool false, .int .i64 2]

theorem s38_callW [Tabs Tryd.prog] {args : List Value} {h : Zh} {Q : Value → Zh → Prop} (hsz : args.length ≤ 57) (hk : AWS Tryd.prog 57 s38 (Zo Tryd.prog [.tmp 4, .tmp 5] Q) (Zr 0 args) h) : ACall Tryd.prog 38 args h Q :=
  Xg Tryd.func38 rfl (enters_of Tryd.func38 (by kernel_rfl) rfl) rfl rfl (by decide) s38_strip s38_ok hsz hk
theorem light_call [Tabs prog] {h : Zh} {v w : Value} {xs : List Int} {ps : List (Int × Int)} (hv : IntSl h v xs) (hl : xs.length < 9223372036854775808) (hx : ∀ x ∈ xs, -9223372036854775808 ≤ x ∧ x < 9223372036854775808) (hw : PairSl h w ps) (hwl : ps.length < 9223372036854775808) :
    ACall prog 38 [v, w] h fun r h' => Ext (fun _ => False) h h' ∧ r = lightV xs ps := by
  refine s38_callW (by simp) ?_
  simp only [s38]
  refine Zg fun N1 hN1 => ?_
  simp (maxSteps := 2000000) only [↓Za, ↓Zb, ↓Zc, vup, cond_false, aop, Zf, Zr, ev, sput, Ze, Nat.reduceBEq, Nat.reduceAdd]
  refine hN1 [(0, v), (1, w), (4, .bool false), (5, .int .i64 0)] _ _ ?_ (by simp (maxSteps := 2000000) only [vup, cond_true, cond_false, Nat.reduceBEq])
  clear hN1
  try clear N1
  refine Zg fun N2 hN2 => ?_
  simp (maxSteps := 2000000) only [↓Za, ↓Zb, ↓Zc, vup, cond_true, cond_false, aop, Zf, ev, sput, Ze, Nat.reduceBEq]
  refine hN2 [(0, v), (1, w), (4, .bool false), (5, .int .i64 0), (6, v)] _ _ ?_ (by simp (maxSteps := 2000000) only [vup, cond_true, cond_false, Nat.reduceBEq])
  clear hN2
  try clear N2
  refine Zn fun M hM => ?_
  refine Zg fun N3 hN3 => ?_
  simp (maxSteps := 2000000) only [↓Za, ↓Zc, vup, List.map_cons, List.map_nil, cond_true, cond_false, aop, ev, sput, Ze, unK, Nat.reduceBEq, Yt, List.nil_append, List.append_nil]
  refine (valid_call hv hl hx).mono ?_
  rintro _ h ⟨rfl, rfl⟩
  have bad : okL xs ps = false → lightV xs ps = .tuple #[.bool false, .int .i64 2] := fun hno => by rw [lightV, hno, if_neg (by decide)]
  cases hg : grs xs with
  | false =>
    simp (maxSteps := 2000000) only [↓Zb, ↓Zc, ↓vdn, vup, cond_true, cond_false, aop, Zf, ev, sput, Ze, Nat.reduceBEq]
    refine hN3 [(0, v), (1, w), (4, .bool false), (5, .int .i64 0), (6, v), (27, .bool true)] _ _ ?_ (by simp (maxSteps := 2000000) only [vup, cond_true, cond_false, Nat.reduceBEq])
    clear hN3
    try clear N3
    refine Yo rfl ?_
    refine Zl ?_
    simp (maxSteps := 2000000) only [↓Za, ↓Zi, ↓Zs, ↓Zb, ↓Zc, vup, cond_true, cond_false, aop, Zf, ev, sput, Ze, Nat.reduceBEq, Zo, Xh, tup]
    exact ⟨Ext.refl _ _, (bad (by rw [okL, hg]; rfl)).symm⟩
  | true =>
    have g := Va.1 hg
    have h6 := g.2.1
    by_cases hlen : ps.length = xs.length
    case neg =>
      have hne : ((ps.length : Int) != (xs.length : Int)) = true := by rw [bne_iff_ne]; omega
      simp (maxSteps := 2000000) only [↓Zb, ↓Zc, ↓vdn, vup, List.map_cons, List.map_nil, cond_true, cond_false, aop, Zf, ev, sput, Ze, Zw, Zz, Zj, Nat.reduceBEq, tyf, hw.len, hv.len, hne]
      refine hN3 [(0, v), (1, w), (4, .bool false), (5, .int .i64 0), (6, v), (27, .bool true)] _ _ ?_ (by simp (maxSteps := 2000000) only [vup, cond_true, cond_false, Nat.reduceBEq])
      clear hN3
      try clear N3
      refine Yo rfl ?_
      refine Zl ?_
      simp (maxSteps := 2000000) only [↓Za, ↓Zi, ↓Zs, ↓Zb, ↓Zc, vup, cond_true, cond_false, aop, Zf, ev, sput, Ze, Nat.reduceBEq, Zo, Xh, tup]
      exact ⟨Ext.refl _ _, (bad (by rw [okL, decide_eq_false hlen, Bool.false_and, Bool.and_false])).symm⟩
    have hne : ((ps.length : Int) != (xs.length : Int)) = false := by rw [bne_eq_false_iff_eq]; omega
    simp (maxSteps := 2000000) only [↓Zb, ↓Zc, ↓vdn, vup, List.map_cons, List.map_nil, cond_true, cond_false, aop, Zf, ev, sput, Ze, Zw, Zz, Zj, Nat.reduceBEq, tyf, hw.len, hv.len, hne, Yt, List.nil_append, List.append_nil]
    refine (contW_call hw hwl).mono ?_
    rintro _ h ⟨rfl, rfl⟩
    cases ha : allW ps with
    | false =>
      simp (maxSteps := 2000000) only [vup]
      refine hN3 [(0, v), (1, w), (4, .bool false), (5, .int .i64 0), (6, v), (27, .bool true)] _ _ ?_ (by simp (maxSteps := 2000000) only [vup, cond_true, cond_false, Nat.reduceBEq])
      clear hN3
      try clear N3
      refine Yo rfl ?_
      refine Zl ?_
      simp (maxSteps := 2000000) only [↓Za, ↓Zi, ↓Zs, ↓Zb, ↓Zc, vup, cond_true, cond_false, aop, Zf, ev, sput, Ze, Nat.reduceBEq, Zo, Xh, tup]
      exact ⟨Ext.refl _ _, (bad (by rw [okL, ha, Bool.and_false, Bool.and_false])).symm⟩
    | true =>
      have hok : okL xs ps = true := by rw [okL, hg, ha, decide_eq_true hlen]; rfl
      have good : lightV xs ps = .tuple #[.bool (lightB xs ps), .int .i64 0] := by rw [lightV, if_pos hok]
      simp (maxSteps := 2000000) only [vup]
      refine hN3 [(0, v), (1, w), (4, .bool false), (5, .int .i64 0), (6, v), (27, .bool false)] _ _ ?_ (by simp (maxSteps := 2000000) only [vup, cond_true, cond_false, Nat.reduceBEq])
      clear hN3
      try clear N3
      refine Yl rfl ?_
      refine Zl ?_
      simp (maxSteps := 2000000) only [↓Zm, Zf]
      refine hM [(0, v), (1, w), (4, .bool false), (5, .int .i64 0), (6, v)] _ _ ?_ (by simp (maxSteps := 2000000) only [vup, cond_true, cond_false, Nat.reduceBEq])
      clear hM
      try clear M
      have hNp := prodD_pos ha
      have hN6 : prodD ps ≤ 46656000000 := Nat.le_trans (prodD_le ha) (by rw [hlen]; exact Nat.le_trans (Nat.pow_le_pow_right (by decide) h6) (by decide))
      refine Zg fun N4 hN4 => ?_
      simp (maxSteps := 2000000) only [↓Za, ↓Zb, ↓Zc, vup, List.map_cons, List.map_nil, cond_true, cond_false, aop, Zf, ev, sput, Ze, Nat.reduceBEq, tyf, bldF, Wd, Xd, newF]
      have c7 := Yq h (fC 1 1)
      have hE7 : Ext (fun _ => False) h (h ++ [fC 1 1]) := Ext.app _ _ _
      generalize h ++ [fC 1 1] = H at c7 hE7 ⊢
      generalize h.length = b7 at c7 ⊢
      refine hN4 [(0, v), (1, w), (4, .bool false), (5, .int .i64 0), (6, v), (7, .pointer (some ⟨b7, 0, none⟩))] _ _ ?_ (by simp (maxSteps := 2000000) only [vup, cond_true, cond_false, Nat.reduceBEq])
      clear hN4
      try clear N4
      have hvH := Xn hv hE7
      have hwH := hw.ext hE7
      refine Zn fun Z hZ => ?_
      refine Zg fun N5 hN5 => ?_
      simp (maxSteps := 2000000) only [↓Za, ↓Zb, ↓Zc, vup, List.map_cons, List.map_nil, cond_true, cond_false, aop, Zf, ev, sput, Ze, Zj, Nat.reduceBEq, tyf, Yt, List.nil_append, List.append_nil]
      refine (cliques_call hvH g).mono ?_
      rintro u H1 ⟨hu, hE1, hub⟩
      have hcl : ((clq xs).map Int.ofNat).length = (clq xs).length := List.length_map ..
      simp (maxSteps := 2000000) only [hu.int.len, hcl]
      refine hN5 [(0, v), (1, w), (4, .bool false), (5, .int .i64 0), (6, v), (7, .pointer (some ⟨b7, 0, none⟩)), (30, u), (31, Zd (clq xs).length), (32, .int .i64 0)] _ _ ?_ (by simp (maxSteps := 2000000) only [vup, cond_true, cond_false, Nat.reduceBEq])
      clear hN5
      try clear N5
      refine Zt ?_
      refine Zp fun Q hQ => ?_
      refine Yx (γ := Nat × Zh) (fun t => t.1 ≤ (clq xs).length ∧ Ext (fun _ => False) H1 t.2 ∧ ∀ j, j < t.1 → sumW ps ((clq xs).getD j 0) xs.length ≤ 1)
        (fun t => ([(0, v), (1, w), (4, .bool false), (5, .int .i64 0), (6, v), (7, .pointer (some ⟨b7, 0, none⟩)), (30, u), (31, Zd (clq xs).length), (32, Zd (t.1 : Nat))], t.2)) (fun t => (clq xs).length - t.1) (0, H1) ⟨Nat.zero_le _, Ext.refl _ _, fun j hj => absurd hj (Nat.not_lt_zero j)⟩ (by simp (maxSteps := 2000000) only [vup, cond_true, cond_false, Nat.reduceBEq, Int.natCast_zero]) rfl ?_
      rintro ⟨k, G⟩ ⟨hk, hEG, hall⟩
      simp only at hk hEG hall
      refine Zp fun Q2 hQ2 => ?_
      simp only [l38_1]
      by_cases hkn : (k : Int) < (clq xs).length
      · have hk' : k < (clq xs).length := by omega
        have hkC : k < ((clq xs).map Int.ofNat).length := by rw [hcl]; exact hk'
        obtain ⟨s, hs⟩ : ∃ s, (clq xs).getD k 0 = s := ⟨_, rfl⟩
        have hsm : s ∈ clq xs := by
          rw [← hs, List.getD, List.getElem?_eq_getElem hk']; exact List.getElem_mem _
        have hs64 : s < 64 := Nat.lt_of_lt_of_le ((mem_clq g).1 hsm).1 (pow6N h6)
        have hgs : ((clq xs).map Int.ofNat).getD k 0 = ((s : Nat) : Int) := by
          rw [← hs, List.getD, List.getElem?_map, List.getD, List.getElem?_eq_getElem hk']; rfl
        have huG : IntSl G u ((clq xs).map Int.ofNat) := Xn hu.int hEG
        have hEHG := hE1.trans hEG
        have hwG := hwH.ext hEHG
        have c7G := (hEHG.2 _ (Yr c7) id).trans c7
        refine Zg fun N6 hN6 => ?_
        simp (maxSteps := 2000000) only [↓Za, ↓Zb, ↓Zc, vup, cond_true, cond_false, aop, Zf, ev, sput, Ze, Zw, Zz, Nat.reduceBEq, hkn]
        refine hN6 [(0, v), (1, w), (4, .bool false), (5, .int .i64 0), (6, v), (7, .pointer (some ⟨b7, 0, none⟩)), (30, u), (31, Zd (clq xs).length), (32, Zd (k : Nat)), (33, .bool true)] _ _ ?_ (by simp (maxSteps := 2000000) only [vup, cond_true, cond_false, Nat.reduceBEq])
        clear hN6
        try clear N6
        refine Zg fun N7 hN7 => ?_
        simp (maxSteps := 2000000) only [↓Zm, ↓vdn, vup, cond_true, cond_false, Zf, ev, Nat.reduceBEq]
        refine hN7 [(0, v), (1, w), (4, .bool false), (5, .int .i64 0), (6, v), (7, .pointer (some ⟨b7, 0, none⟩)), (30, u), (31, Zd (clq xs).length), (32, Zd (k : Nat))] _ _ ?_ (by simp (maxSteps := 2000000) only [vup, cond_true, cond_false, Nat.reduceBEq])
        clear hN7
        try clear N7
        refine Zn fun B hB => ?_
        refine Zt ?_
        refine Zg fun N8 hN8 => ?_
        simp (maxSteps := 2000000) only [↓Za, ↓Zb, ↓Zc, vup, cond_true, cond_false, aop, Zf, ev, sput, Ze, Nat.reduceBEq, huG.idx Xu Xe hkC, huG.load Xm hkC, hgs]
        refine hN8 [(0, v), (1, w), (4, .bool false), (5, .int .i64 0), (6, v), (7, .pointer (some ⟨b7, 0, none⟩)), (9, Zd (s : Nat)), (30, u), (31, Zd (clq xs).length), (32, Zd (k : Nat))] _ _ ?_ (by simp (maxSteps := 2000000) only [vup, cond_true, cond_false, Nat.reduceBEq])
        clear hN8
        try clear N8
        refine Zg fun N9 hN9 => ?_
        simp (maxSteps := 2000000) only [↓Za, ↓Zb, ↓Zc, vup, List.map_cons, List.map_nil, cond_true, cond_false, aop, Zf, ev, sput, Ze, Nat.reduceBEq, tyf, bldF, Wd, Xd, newF]
        have c10 := Yq G (fC 0 1)
        have hE10 : Ext (fun _ => False) G (G ++ [fC 0 1]) := Ext.app _ _ _
        have hb10 : b7 < G.length := Yr c7G
        generalize G ++ [fC 0 1] = G0 at c10 hE10 ⊢
        obtain ⟨b10, hb10e⟩ : ∃ b, b = G.length := ⟨_, rfl⟩
        rw [← hb10e] at c10 hb10 ⊢
        refine hN9 [(0, v), (1, w), (4, .bool false), (5, .int .i64 0), (6, v), (7, .pointer (some ⟨b7, 0, none⟩)), (9, Zd (s : Nat)), (10, .pointer (some ⟨b10, 0, none⟩)), (30, u), (31, Zd (clq xs).length), (32, Zd (k : Nat))] _ _ ?_ (by simp (maxSteps := 2000000) only [vup, cond_true, cond_false, Nat.reduceBEq])
        clear hN9
        try clear N9
        have hwG0 := hwG.ext hE10
        have c7G0 := (hE10.2 _ (Yr c7G) id).trans c7G
        refine Zn fun A hA => ?_
        refine Zg fun N10 hN10 => ?_
        simp (maxSteps := 2000000) only [↓Za, ↓Zb, ↓Zc, vup, List.map_cons, List.map_nil, cond_true, cond_false, aop, Zf, ev, sput, Ze, Zj, Nat.reduceBEq, tyf, hwG0.len]
        refine hN10 [(0, v), (1, w), (4, .bool false), (5, .int .i64 0), (6, v), (7, .pointer (some ⟨b7, 0, none⟩)), (9, Zd (s : Nat)), (10, .pointer (some ⟨b10, 0, none⟩)), (30, u), (31, Zd (clq xs).length), (32, Zd (k : Nat)), (37, w), (38, Zd ps.length), (39, .int .i64 0)] _ _ ?_ (by simp (maxSteps := 2000000) only [vup, cond_true, cond_false, Nat.reduceBEq])
        clear hN10
        try clear N10
        refine Zt ?_
        refine Zp fun Qa hQa => ?_
        refine Yx (γ := Nat × Zh) (fun t => t.1 ≤ ps.length ∧ Ext (fun b => b = b10) G0 t.2 ∧ t.2[b10]? = some (fC (sumW ps s t.1).num (sumW ps s t.1).den))
          (fun t => ([(0, v), (1, w), (4, .bool false), (5, .int .i64 0), (6, v), (7, .pointer (some ⟨b7, 0, none⟩)), (9, Zd (s : Nat)), (10, .pointer (some ⟨b10, 0, none⟩)), (30, u), (31, Zd (clq xs).length), (32, Zd (k : Nat)), (37, w), (38, Zd ps.length), (39, Zd (t.1 : Nat))], t.2)) (fun t => ps.length - t.1) (0, G0) ⟨Nat.zero_le _, Ext.refl _ _, c10⟩ (by simp (maxSteps := 2000000) only [vup, cond_true, cond_false, Nat.reduceBEq, Int.natCast_zero]) rfl ?_
        rintro ⟨i, F⟩ ⟨hi, hEF, cF⟩
        simp only at hi hEF cF
        refine Zp fun Qb hQb => ?_
        simp only [l38_0]
        by_cases hin : (i : Int) < ps.length
        · have hi' : i < ps.length := by omega
          have hwF : PairSl F w ps := hwG0.same fun b hb => by
            have hlt := hwG.lt hb
            exact hEF.2 b (by have := hE10.1; omega) (by omega)
          obtain ⟨⟨px, py⟩, hp⟩ : ∃ p, ps.getD i (0, 0) = p := ⟨_, rfl⟩
          have hW := wf_isW ha hi'
          rw [hp] at hW
          obtain ⟨e1, e2⟩ := isW_parts hW
          have hwfe : wf ps i = wq (px, py) := by rw [wf, hp]
          refine Zg fun N11 hN11 => ?_
          simp (maxSteps := 2000000) only [↓Za, ↓Zb, ↓Zc, vup, cond_true, cond_false, aop, Zf, ev, sput, Ze, Zw, Zz, Nat.reduceBEq, hin]
          refine hN11 [(0, v), (1, w), (4, .bool false), (5, .int .i64 0), (6, v), (7, .pointer (some ⟨b7, 0, none⟩)), (9, Zd (s : Nat)), (10, .pointer (some ⟨b10, 0, none⟩)), (30, u), (31, Zd (clq xs).length), (32, Zd (k : Nat)), (37, w), (38, Zd ps.length), (39, Zd (i : Nat)), (40, .bool true)] _ _ ?_ (by simp (maxSteps := 2000000) only [vup, cond_true, cond_false, Nat.reduceBEq])
          clear hN11
          try clear N11
          refine Zg fun N12 hN12 => ?_
          simp (maxSteps := 2000000) only [↓Zm, ↓vdn, vup, cond_true, cond_false, Zf, ev, Nat.reduceBEq]
          refine hN12 [(0, v), (1, w), (4, .bool false), (5, .int .i64 0), (6, v), (7, .pointer (some ⟨b7, 0, none⟩)), (9, Zd (s : Nat)), (10, .pointer (some ⟨b10, 0, none⟩)), (30, u), (31, Zd (clq xs).length), (32, Zd (k : Nat)), (37, w), (38, Zd ps.length), (39, Zd (i : Nat))] _ _ ?_ (by simp (maxSteps := 2000000) only [vup, cond_true, cond_false, Nat.reduceBEq])
          clear hN12
          try clear N12
          refine Zn fun D hD => ?_
          refine Zt ?_
          refine Zg fun N13 hN13 => ?_
          simp (maxSteps := 2000000) only [↓Za, ↓Zb, ↓Zc, vup, cond_true, cond_false, aop, Zf, ev, sput, Ze, Nat.reduceBEq, tyf, hwF.idx el_50 esz_44 hi', hwF.load shp_44 hi', hp, Wd, Xd, newF]
          have c12 := Yq F (fC px py)
          have hEF1 : Ext (fun _ => False) F (F ++ [fC px py]) := Ext.app _ _ _
          have cF1 := get_old cF [fC px py]
          generalize F ++ [fC px py] = F1 at c12 hEF1 cF1 ⊢
          generalize F.length = b12 at c12 ⊢
          refine hN13 [(0, v), (1, w), (4, .bool false), (5, .int .i64 0), (6, v), (7, .pointer (some ⟨b7, 0, none⟩)), (9, Zd (s : Nat)), (10, .pointer (some ⟨b10, 0, none⟩)), (11, Zd (i : Nat)), (12, .pointer (some ⟨b12, 0, none⟩)), (30, u), (31, Zd (clq xs).length), (32, Zd (k : Nat)), (37, w), (38, Zd ps.length), (39, Zd (i : Nat))] _ _ ?_ (by simp (maxSteps := 2000000) only [vup, cond_true, cond_false, Nat.reduceBEq])
          clear hN13
          try clear N13
          have hE01 : Ext (fun b => b = b10) G0 F1 := hEF.trans (hEF1.mono fun _ h => h.elim)
          have htst := @testV s i (by omega)
          have hnn : (0 : Int) ≤ (i : Int) := Int.natCast_nonneg i
          have fin : ∀ F2, Ext (fun b => b = b10) G0 F2 → F2[b10]? = some (fC (sumW ps s (i + 1)).num (sumW ps s (i + 1)).den) → ∀ e, ELe e [(0, v), (1, w), (4, .bool false), (5, .int .i64 0), (6, v), (7, .pointer (some ⟨b7, 0, none⟩)), (9, Zd (s : Nat)), (10, .pointer (some ⟨b10, 0, none⟩)), (30, u), (31, Zd (clq xs).length), (32, Zd (k : Nat)), (37, w), (38, Zd ps.length), (39, Zd (i : Nat))] → D e F2 := by
            intro F2 hE2 c2 e he
            refine hD [(0, v), (1, w), (4, .bool false), (5, .int .i64 0), (6, v), (7, .pointer (some ⟨b7, 0, none⟩)), (9, Zd (s : Nat)), (10, .pointer (some ⟨b10, 0, none⟩)), (30, u), (31, Zd (clq xs).length), (32, Zd (k : Nat)), (37, w), (38, Zd ps.length), (39, Zd (i : Nat))] _ _ ?_ he
            refine Zl ?_
            simp (maxSteps := 2000000) only [↓Za, ↓Zb, ↓Zc, vup, cond_true, cond_false, aop, ev, sput, Ze, Zw, Zz, Nat.reduceBEq, add1 (show i < 9223372036854775807 by omega)]
            exact hQb _ _ _ ⟨(i + 1, F2), ⟨hi', hE2, c2⟩, by simp only; omega, by simp (maxSteps := 2000000) only [vup, cond_true, cond_false, Nat.reduceBEq], rfl⟩
          cases hb : s.testBit i with
          | false =>
            rw [hb, if_neg (by decide)] at htst
            have e01 : ((0 : Int) == 1) = false := rfl
            refine Zg fun N14 hN14 => ?_
            simp (maxSteps := 2000000) only [↓Za, ↓Zb, ↓Zc, vup, cond_true, cond_false, aop, Zf, ev, sput, Ze, Zw, Zz, Nat.reduceBEq, hnn, htst, e01]
            refine hN14 [(0, v), (1, w), (4, .bool false), (5, .int .i64 0), (6, v), (7, .pointer (some ⟨b7, 0, none⟩)), (9, Zd (s : Nat)), (10, .pointer (some ⟨b10, 0, none⟩)), (11, Zd (i : Nat)), (12, .pointer (some ⟨b12, 0, none⟩)), (30, u), (31, Zd (clq xs).length), (32, Zd (k : Nat)), (37, w), (38, Zd ps.length), (39, Zd (i : Nat)), (48, .bool false)] _ _ ?_ (by simp (maxSteps := 2000000) only [vup, cond_true, cond_false, Nat.reduceBEq])
            clear hN14
            try clear N14
            refine Yl rfl ?_
            refine Zl ?_
            simp (maxSteps := 2000000) only [↓Zm, Zf, Zk]
            refine fin F1 hE01 ?_ _ (by simp (maxSteps := 2000000) only [vup, cond_true, cond_false, Nat.reduceBEq])
            rw [sumW_succ, hb, if_neg (by decide)]; exact cF1
          | true =>
            rw [hb, if_pos rfl] at htst
            have e11 : ((1 : Int) == 1) = true := rfl
            refine Zg fun N15 hN15 => ?_
            simp (maxSteps := 2000000) only [↓Za, ↓Zb, ↓Zc, vup, cond_true, cond_false, aop, Zf, ev, sput, Ze, Zw, Zz, Nat.reduceBEq, hnn, htst, e11]
            refine hN15 [(0, v), (1, w), (4, .bool false), (5, .int .i64 0), (6, v), (7, .pointer (some ⟨b7, 0, none⟩)), (9, Zd (s : Nat)), (10, .pointer (some ⟨b10, 0, none⟩)), (11, Zd (i : Nat)), (12, .pointer (some ⟨b12, 0, none⟩)), (30, u), (31, Zd (clq xs).length), (32, Zd (k : Nat)), (37, w), (38, Zd ps.length), (39, Zd (i : Nat)), (48, .bool true)] _ _ ?_ (by simp (maxSteps := 2000000) only [vup, cond_true, cond_false, Nat.reduceBEq])
            clear hN15
            try clear N15
            refine Yo rfl ?_
            refine Zl ?_
            obtain ⟨x, x0, x1, hxr⟩ := sumW_rp ha s (i := i) hi
            obtain ⟨y, y0, y1, hyr⟩ := wf_rp ha (i := i) hi'
            have hi6 : (i : Int) * prodD ps ≤ 6 * 46656000000 := Int.mul_le_mul (by omega) (by omega) (by omega) (by omega)
            have hpl := plus_call (h := F1) hxr hyr (by omega) (by omega)
            rw [hwfe] at hpl
            simp only [qV, frV, e1, e2] at hpl
            have es : sumW ps s i + wq (px, py) = sumW ps s (i + 1) := by rw [sumW_succ, hb, if_pos rfl, hwfe]
            rw [es] at hpl
            simp (maxSteps := 2000000) only [↓Za, ↓Zb, ↓Zc, vup, List.map_cons, List.map_nil, cond_true, cond_false, aop, Zf, Zk, ev, sput, Ze, Nat.reduceBEq, Yt, List.nil_append, List.append_nil, loadF cF1, loadF c12]
            refine (hpl).mono ?_
            rintro _ F1 ⟨rfl, rfl⟩
            simp (maxSteps := 2000000) only [storeF cF1 rfl]
            exact fin _ (hE01.trans (Ext.set _ rfl)) (Wx (Yr cF1) _) _ (by simp (maxSteps := 2000000) only [vup, cond_true, cond_false, Nat.reduceBEq])
        obtain rfl : i = ps.length := by omega
        refine Zg fun N16 hN16 => ?_
        simp (maxSteps := 2000000) only [↓Za, ↓Zb, ↓Zc, vup, cond_true, cond_false, aop, Zf, ev, sput, Ze, Zw, Zz, Nat.reduceBEq, hin]
        refine hN16 [(0, v), (1, w), (4, .bool false), (5, .int .i64 0), (6, v), (7, .pointer (some ⟨b7, 0, none⟩)), (9, Zd (s : Nat)), (10, .pointer (some ⟨b10, 0, none⟩)), (30, u), (31, Zd (clq xs).length), (32, Zd (k : Nat)), (37, w), (38, Zd ps.length), (39, Zd ps.length), (40, .bool false)] _ _ ?_ (by simp (maxSteps := 2000000) only [vup, cond_true, cond_false, Nat.reduceBEq])
        clear hN16
        try clear N16
        refine Zg fun N17 hN17 => ?_
        simp (maxSteps := 2000000) only [↓Yk, ↓vdn, vup, cond_true, cond_false, Zf, ev, Nat.reduceBEq]
        refine hQb _ _ _ (hQa _ _ _ ?_)
        simp (maxSteps := 2000000) only [Zf, Zk, if_true]
        refine hA [(0, v), (1, w), (4, .bool false), (5, .int .i64 0), (6, v), (7, .pointer (some ⟨b7, 0, none⟩)), (9, Zd (s : Nat)), (10, .pointer (some ⟨b10, 0, none⟩)), (30, u), (31, Zd (clq xs).length), (32, Zd (k : Nat))] _ _ ?_ (by simp (maxSteps := 2000000) only [vup, cond_true, cond_false, Nat.reduceBEq])
        clear hA
        try clear A
        clear hQa hQb
        have c7F := (hEF.2 _ (Yr c7G0) (by omega)).trans c7G0
        rw [hlen] at cF
        obtain ⟨x, x0, x1, hxr⟩ := sumW_rp ha s (i := xs.length) (by omega)
        have hi6 : (xs.length : Int) * prodD ps ≤ 6 * 46656000000 := Int.mul_le_mul (by omega) (by omega) (by omega) (by omega)
        have hnb := hxr.le
        have hdb := hxr.den_le
        have hlc := less_call (h := F) (a := 1) (b := 1) (c := (sumW ps s xs.length).num) (d := (sumW ps s xs.length).den) (by omega) (by omega)
        simp only [frV] at hlc
        have hEnd : Ext (fun _ => False) H1 F := hEG.trans (ext_ge hE10 (fun b hb => by omega) hEF)
        by_cases hle : sumW ps s xs.length ≤ 1
        · have hd : decide ((1 : Int) * (sumW ps s xs.length).den < (sumW ps s xs.length).num * 1) = false := decide_eq_false fun h => by
            rw [Rat.le_iff] at hle
            have a1 : (1 : Rat).num = 1 := rfl
            have a2 : (1 : Rat).den = 1 := rfl
            rw [a1, a2] at hle
            omega
          rw [hd] at hlc
          refine Zg fun N18 hN18 => ?_
          simp (maxSteps := 2000000) only [↓Za, ↓Zb, ↓Zc, vup, List.map_cons, List.map_nil, cond_true, cond_false, aop, Zf, ev, sput, Ze, Nat.reduceBEq, Yt, List.nil_append, List.append_nil, loadF c7F, loadF cF]
          refine (hlc).mono ?_
          rintro _ F ⟨rfl, rfl⟩
          refine hN18 [(0, v), (1, w), (4, .bool false), (5, .int .i64 0), (6, v), (7, .pointer (some ⟨b7, 0, none⟩)), (9, Zd (s : Nat)), (10, .pointer (some ⟨b10, 0, none⟩)), (30, u), (31, Zd (clq xs).length), (32, Zd (k : Nat)), (55, .bool false)] _ _ ?_ (by simp (maxSteps := 2000000) only [vup, cond_true, cond_false, Nat.reduceBEq])
          clear hN18
          try clear N18
          refine Yl rfl ?_
          refine Zl ?_
          simp (maxSteps := 2000000) only [↓Zm, Zf, Zk]
          refine hB [(0, v), (1, w), (4, .bool false), (5, .int .i64 0), (6, v), (7, .pointer (some ⟨b7, 0, none⟩)), (30, u), (31, Zd (clq xs).length), (32, Zd (k : Nat))] _ _ ?_ (by simp (maxSteps := 2000000) only [vup, cond_true, cond_false, Nat.reduceBEq])
          clear hB
          try clear B
          refine Zl ?_
          simp (maxSteps := 2000000) only [↓Za, ↓Zb, ↓Zc, vup, cond_true, cond_false, aop, ev, sput, Ze, Zw, Zz, Nat.reduceBEq, add1 (show k < 9223372036854775807 by have := clqTo_len xs (2 ^ xs.length); have := pow6N h6; rw [clq] at hk'; omega)]
          refine hQ2 _ _ _ ⟨(k + 1, F), ⟨hk', hEnd, fun j hj => ?_⟩, by simp only; omega, by simp (maxSteps := 2000000) only [vup, cond_true, cond_false, Nat.reduceBEq], rfl⟩
          by_cases hjk : j = k
          · rw [hjk, hs]; exact hle
          · exact hall j (by omega)
        · have hd : decide ((1 : Int) * (sumW ps s xs.length).den < (sumW ps s xs.length).num * 1) = true := decide_eq_true (by
            rw [Rat.le_iff] at hle
            have a1 : (1 : Rat).num = 1 := rfl
            have a2 : (1 : Rat).den = 1 := rfl
            rw [a1, a2] at hle
            omega)
          rw [hd] at hlc
          refine Zg fun N19 hN19 => ?_
          simp (maxSteps := 2000000) only [↓Za, ↓Zb, ↓Zc, vup, List.map_cons, List.map_nil, cond_true, cond_false, aop, Zf, ev, sput, Ze, Nat.reduceBEq, Yt, List.nil_append, List.append_nil, loadF c7F, loadF cF]
          refine (hlc).mono ?_
          rintro _ F ⟨rfl, rfl⟩
          refine hN19 [(0, v), (1, w), (4, .bool false), (5, .int .i64 0), (6, v), (7, .pointer (some ⟨b7, 0, none⟩)), (9, Zd (s : Nat)), (10, .pointer (some ⟨b10, 0, none⟩)), (30, u), (31, Zd (clq xs).length), (32, Zd (k : Nat)), (55, .bool true)] _ _ ?_ (by simp (maxSteps := 2000000) only [vup, cond_true, cond_false, Nat.reduceBEq])
          clear hN19
          try clear N19
          refine Yo rfl ?_
          refine Zl ?_
          simp (maxSteps := 2000000) only [↓Za, ↓Zi, ↓Zs, ↓Zb, ↓Zc, vup, cond_true, cond_false, aop, Zf, Zk, ev, sput, Ze, Nat.reduceBEq]
          refine hQ2 _ _ _ (hQ _ _ _ ?_)
          simp (maxSteps := 2000000) only [vup, cond_true, cond_false, Zf, Zk, Nat.reduceBEq, Zo, Xh, tup]
          have hlB : lightB xs ps = false := by
            rw [← Bool.not_eq_true, lightB, List.all_eq_true]
            exact fun h => hle (of_decide_eq_true (h s hsm))
          exact ⟨(hE7.trans hE1).trans hEnd, by rw [good, hlB]⟩
      obtain rfl : k = (clq xs).length := by omega
      refine Zg fun N20 hN20 => ?_
      simp (maxSteps := 2000000) only [↓Za, ↓Zb, ↓Zc, vup, cond_true, cond_false, aop, Zf, ev, sput, Ze, Zw, Zz, Nat.reduceBEq, hkn]
      refine hN20 [(0, v), (1, w), (4, .bool false), (5, .int .i64 0), (6, v), (7, .pointer (some ⟨b7, 0, none⟩)), (30, u), (31, Zd (clq xs).length), (32, Zd (clq xs).length), (33, .bool false)] _ _ ?_ (by simp (maxSteps := 2000000) only [vup, cond_true, cond_false, Nat.reduceBEq])
      clear hN20
      try clear N20
      refine Zg fun N21 hN21 => ?_
      simp (maxSteps := 2000000) only [↓Yk, ↓vdn, vup, cond_true, cond_false, Zf, ev, Nat.reduceBEq]
      refine hQ2 _ _ _ (hQ _ _ _ ?_)
      simp (maxSteps := 2000000) only [Zf, Zk, Zo, if_true]
      refine hZ [(0, v), (1, w), (4, .bool false), (5, .int .i64 0), (6, v), (7, .pointer (some ⟨b7, 0, none⟩))] _ _ ?_ (by simp (maxSteps := 2000000) only [vup, cond_true, cond_false, Nat.reduceBEq])
      clear hZ
      try clear Z
      refine Zl ?_
      simp (maxSteps := 2000000) only [↓Za, ↓Zi, ↓Zs, ↓Zb, ↓Zc, vup, cond_true, cond_false, aop, Zf, ev, sput, Ze, Nat.reduceBEq, Zo, Xh, tup]
      have hlB : lightB xs ps = true := by
        rw [lightB, List.all_eq_true]
        intro s hs
        obtain ⟨j, hj, rfl⟩ := List.mem_iff_getElem.1 hs
        have := hall j hj
        rw [List.getD, List.getElem?_eq_getElem hj] at this
        exact decide_eq_true this
      exact ⟨(hE7.trans hE1).trans hEG, by rw [good, hlB]⟩

theorem s42_callW [Tabs Tryd.prog] {args : List Value} {h : Zh} {Q : Value → Zh → Prop} (hsz : args.length ≤ 48) (hk : AWS Tryd.prog 48 s42 (Zo Tryd.prog [.tmp 4] Q) (Zr 0 args) h) : ACall Tryd.prog 42 args h Q :=
  Xg Tryd.func42 rfl (enters_of Tryd.func42 (by kernel_rfl) rfl) rfl rfl (by decide) s42_strip s42_ok hsz hk
theorem wts_call [Tabs prog] {h : Zh} {v w : Value} {xs : List Int} {ps : List (Int × Int)} (hv : IntSl h v xs) (hw : PairSl h w ps) (hwl : ps.length < 9223372036854775808) :
    ACall prog 42 [v, w] h fun r h' => Ext (fun _ => False) h h' ∧ r = .bool (decide (ps.length = xs.length) && allW ps) := by
  refine s42_callW (by simp) ?_
  simp only [s42]
  refine Zg fun N22 hN22 => ?_
  simp (maxSteps := 2000000) only [↓Za, ↓Zb, ↓Zc, vup, cond_false, aop, Zf, Zr, ev, sput, Ze, Nat.reduceBEq, Nat.reduceAdd]
  refine hN22 [(0, v), (1, w), (4, .bool false)] _ _ ?_ (by simp (maxSteps := 2000000) only [vup, cond_true, cond_false, Nat.reduceBEq])
  clear hN22
  try clear N22
  refine Zn fun Z hZ => ?_
  refine Zg fun N23 hN23 => ?_
  simp (maxSteps := 2000000) only [↓Za, ↓Zb, ↓Zc, vup, List.map_cons, List.map_nil, cond_true, cond_false, aop, Zf, ev, sput, Ze, Zj, Nat.reduceBEq, tyf, hw.len]
  refine hN23 [(0, v), (1, w), (4, .bool false), (7, w), (8, Zd ps.length), (9, .int .i64 0)] _ _ ?_ (by simp (maxSteps := 2000000) only [vup, cond_true, cond_false, Nat.reduceBEq])
  clear hN23
  try clear N23
  refine Zt ?_
  refine Zp fun Q hQ => ?_
  refine Yx (γ := Nat × Zh) (fun t => t.1 ≤ ps.length ∧ Ext (fun _ => False) h t.2 ∧ ∀ p ∈ ps.take t.1, isW p = true) (fun t => ([(0, v), (1, w), (4, .bool false), (7, w), (8, Zd ps.length), (9, Zd (t.1 : Nat))], t.2)) (fun t => ps.length - t.1) (0, h) ⟨Nat.zero_le _, Ext.refl _ _, by simp⟩ (by simp (maxSteps := 2000000) only [vup, cond_true, cond_false, Nat.reduceBEq, Int.natCast_zero]) rfl ?_
  rintro ⟨k, G⟩ ⟨hk, hEG, hall⟩
  simp only at hk hEG hall
  refine Zp fun Q2 hQ2 => ?_
  simp only [l42_0]
  have hwG := hw.ext hEG
  by_cases hin : (k : Int) < ps.length
  · have hk' : k < ps.length := by omega
    obtain ⟨⟨x, y⟩, hp⟩ : ∃ p, ps.getD k (0, 0) = p := ⟨_, rfl⟩
    have hmem : (x, y) ∈ ps := hp ▸ getP_mem hk'
    refine Zg fun N24 hN24 => ?_
    simp (maxSteps := 2000000) only [↓Za, ↓Zb, ↓Zc, vup, cond_true, cond_false, aop, Zf, ev, sput, Ze, Zw, Zz, Nat.reduceBEq, hin]
    refine hN24 [(0, v), (1, w), (4, .bool false), (7, w), (8, Zd ps.length), (9, Zd (k : Nat)), (10, .bool true)] _ _ ?_ (by simp (maxSteps := 2000000) only [vup, cond_true, cond_false, Nat.reduceBEq])
    clear hN24
    try clear N24
    refine Zg fun N25 hN25 => ?_
    simp (maxSteps := 2000000) only [↓Zm, ↓vdn, vup, cond_true, cond_false, Zf, ev, Nat.reduceBEq]
    refine hN25 [(0, v), (1, w), (4, .bool false), (7, w), (8, Zd ps.length), (9, Zd (k : Nat))] _ _ ?_ (by simp (maxSteps := 2000000) only [vup, cond_true, cond_false, Nat.reduceBEq])
    clear hN25
    try clear N25
    refine Zn fun B hB => ?_
    refine Zt ?_
    refine Zg fun N26 hN26 => ?_
    simp (maxSteps := 2000000) only [↓Za, ↓Zb, ↓Zc, vup, cond_true, cond_false, aop, Zf, ev, sput, Ze, Nat.reduceBEq, tyf, hwG.idx el_50 esz_44 hk', hwG.load shp_44 hk', hp, Wd, Xd, newF]
    have c6 := Yq G (fC x y)
    have hE6 : Ext (fun _ => False) G (G ++ [fC x y]) := Ext.app _ _ _
    generalize G ++ [fC x y] = F at c6 hE6 ⊢
    generalize G.length = b6 at c6 ⊢
    refine hN26 [(0, v), (1, w), (4, .bool false), (6, .pointer (some ⟨b6, 0, none⟩)), (7, w), (8, Zd ps.length), (9, Zd (k : Nat))] _ _ ?_ (by simp (maxSteps := 2000000) only [vup, cond_true, cond_false, Nat.reduceBEq])
    clear hN26
    try clear N26
    have hEF := hEG.trans hE6
    refine Zg fun N27 hN27 => ?_
    simp only [q42_4]
    refine Xp [(25, 1)] (by kernel_rfl) (by kernel_rfl) (by kernel_rfl) (by kernel_rfl) ?_
    have none_ : isW (x, y) = false → allW ps = false := fun h => by
      rw [← Bool.not_eq_true, allW, List.all_eq_true]
      intro ha; rw [ha _ hmem] at h; cases h
    have e0 : isW (x, y) = (decide (1 ≤ y) && (decide (y ≤ 60) && (decide (0 ≤ x) && (decide (x ≤ y) && (Nat.gcd x.natAbs y.natAbs == 1))))) := rfl
    by_cases h1 : y < 1
    · simp (maxSteps := 2000000) only [↓Yp, ↓vdn, vup, cond_true, cond_false, aop, Zf, ev, sput, Ze, Zw, Zz, pickK, Nat.reduceBEq, Nat.reduceAdd, tyf, fA1, Wn c6, h1]
      refine hN27 [(0, v), (1, w), (4, .bool false), (6, .pointer (some ⟨b6, 0, none⟩)), (7, w), (8, Zd ps.length), (9, Zd (k : Nat)), (41, .bool true)] _ _ ?_ (by simp (maxSteps := 2000000) only [vup, cond_true, cond_false, Nat.reduceBEq])
      clear hN27
      try clear N27
      refine Yo rfl ?_
      refine Zl ?_
      simp (maxSteps := 2000000) only [↓Za, ↓Zi, ↓Zs, ↓Zb, ↓Zc, vup, cond_true, cond_false, aop, Zf, Zk, ev, sput, Ze, Nat.reduceBEq]
      refine hQ2 _ _ _ (hQ _ _ _ ?_)
      simp (maxSteps := 2000000) only [vup, cond_true, cond_false, Zf, Zk, Nat.reduceBEq, Zo, Xh, tup]
      exact ⟨hEF, by rw [none_ (by rw [e0, decide_eq_false (by omega), Bool.false_and]), Bool.and_false]⟩
    by_cases h2 : 60 < y
    · simp (maxSteps := 2000000) only [↓Yp, ↓vdn, vup, cond_true, cond_false, aop, Zf, ev, sput, Ze, Zw, Zz, pickK, Nat.reduceBEq, Nat.reduceAdd, tyf, fA1, Wn c6, h1, h2]
      refine hN27 [(0, v), (1, w), (4, .bool false), (6, .pointer (some ⟨b6, 0, none⟩)), (7, w), (8, Zd ps.length), (9, Zd (k : Nat)), (41, .bool true)] _ _ ?_ (by simp (maxSteps := 2000000) only [vup, cond_true, cond_false, Nat.reduceBEq])
      clear hN27
      try clear N27
      refine Yo rfl ?_
      refine Zl ?_
      simp (maxSteps := 2000000) only [↓Za, ↓Zi, ↓Zs, ↓Zb, ↓Zc, vup, cond_true, cond_false, aop, Zf, Zk, ev, sput, Ze, Nat.reduceBEq]
      refine hQ2 _ _ _ (hQ _ _ _ ?_)
      simp (maxSteps := 2000000) only [vup, cond_true, cond_false, Zf, Zk, Nat.reduceBEq, Zo, Xh, tup]
      exact ⟨hEF, by rw [none_ (by rw [e0, decide_eq_false (show ¬ y ≤ 60 by omega), Bool.false_and, Bool.and_false]), Bool.and_false]⟩
    by_cases h3 : x < 0
    · simp (maxSteps := 2000000) only [↓Yp, ↓vdn, vup, cond_true, cond_false, aop, Zf, ev, sput, Ze, Zw, Zz, pickK, Nat.reduceBEq, Nat.reduceAdd, tyf, fA0, fA1, loadF0 c6, Wn c6, h1, h2, h3]
      refine hN27 [(0, v), (1, w), (4, .bool false), (6, .pointer (some ⟨b6, 0, none⟩)), (7, w), (8, Zd ps.length), (9, Zd (k : Nat)), (41, .bool true)] _ _ ?_ (by simp (maxSteps := 2000000) only [vup, cond_true, cond_false, Nat.reduceBEq])
      clear hN27
      try clear N27
      refine Yo rfl ?_
      refine Zl ?_
      simp (maxSteps := 2000000) only [↓Za, ↓Zi, ↓Zs, ↓Zb, ↓Zc, vup, cond_true, cond_false, aop, Zf, Zk, ev, sput, Ze, Nat.reduceBEq]
      refine hQ2 _ _ _ (hQ _ _ _ ?_)
      simp (maxSteps := 2000000) only [vup, cond_true, cond_false, Zf, Zk, Nat.reduceBEq, Zo, Xh, tup]
      exact ⟨hEF, by rw [none_ (by rw [e0, decide_eq_false (show ¬ 0 ≤ x by omega), Bool.false_and, Bool.and_false, Bool.and_false]), Bool.and_false]⟩
    by_cases h4 : y < x
    · simp (maxSteps := 2000000) only [↓Yp, ↓vdn, vup, cond_true, cond_false, aop, Zf, ev, sput, Ze, Zw, Zz, pickK, Nat.reduceBEq, Nat.reduceAdd, tyf, fA0, fA1, loadF0 c6, Wn c6, h1, h2, h3, h4]
      refine hN27 [(0, v), (1, w), (4, .bool false), (6, .pointer (some ⟨b6, 0, none⟩)), (7, w), (8, Zd ps.length), (9, Zd (k : Nat)), (41, .bool true)] _ _ ?_ (by simp (maxSteps := 2000000) only [vup, cond_true, cond_false, Nat.reduceBEq])
      clear hN27
      try clear N27
      refine Yo rfl ?_
      refine Zl ?_
      simp (maxSteps := 2000000) only [↓Za, ↓Zi, ↓Zs, ↓Zb, ↓Zc, vup, cond_true, cond_false, aop, Zf, Zk, ev, sput, Ze, Nat.reduceBEq]
      refine hQ2 _ _ _ (hQ _ _ _ ?_)
      simp (maxSteps := 2000000) only [vup, cond_true, cond_false, Zf, Zk, Nat.reduceBEq, Zo, Xh, tup]
      exact ⟨hEF, by rw [none_ (by rw [e0, decide_eq_false (show ¬ x ≤ y by omega), Bool.false_and, Bool.and_false, Bool.and_false, Bool.and_false]), Bool.and_false]⟩
    have h1' : 1 ≤ y := by omega
    have hrf := rfrac_call (h := F) (a := x) (b := y) (by omega) (by omega) (by omega)
    have hlow : ([(wq (x, y)).num, ((wq (x, y)).den : Int)] != [x, y]) = !isW (x, y) := by
      rw [e0, decide_eq_true h1', decide_eq_true (show y ≤ 60 by omega), decide_eq_true (show 0 ≤ x by omega), decide_eq_true (show x ≤ y by omega), Bool.true_and, Bool.true_and, Bool.true_and, Bool.true_and, bne]
      congr 1
      rw [Bool.eq_iff_iff, beq_iff_eq, beq_iff_eq, ← low_iff (p := (x, y)) h1']
      simp
    simp (maxSteps := 2000000) only [↓Yp, ↓vdn, vup, List.map_cons, List.map_nil, cond_true, cond_false, aop, Zf, ev, sput, Ze, Zw, Zz, pickK, Nat.reduceBEq, Nat.reduceAdd, tyf, fA0, fA1, loadF0 c6, Wn c6, h1, h2, h3, h4, Yt, List.nil_append, List.append_nil]
    refine ⟨_, _, hrf, rfl, ?_⟩
    have hrw : Rat.divInt x y = wq (x, y) := rfl
    simp (maxSteps := 2000000) only [vup, Nat.reduceAdd, loadF c6, hrw, qV, frV, Xc, Option.map_some, List.length_cons, List.length_nil, Nat.zero_add, eqF, hlow]
    cases hW : isW (x, y) with
    | false =>
      refine hN27 [(0, v), (1, w), (4, .bool false), (6, .pointer (some ⟨b6, 0, none⟩)), (7, w), (8, Zd ps.length), (9, Zd (k : Nat)), (41, .bool true)] _ _ ?_ (by simp (maxSteps := 2000000) only [vup, cond_true, cond_false, Nat.reduceBEq])
      clear hN27
      try clear N27
      refine Yo rfl ?_
      refine Zl ?_
      simp (maxSteps := 2000000) only [↓Za, ↓Zi, ↓Zs, ↓Zb, ↓Zc, vup, cond_true, cond_false, aop, Zf, Zk, ev, sput, Ze, Nat.reduceBEq]
      refine hQ2 _ _ _ (hQ _ _ _ ?_)
      simp (maxSteps := 2000000) only [vup, cond_true, cond_false, Zf, Zk, Nat.reduceBEq, Zo, Xh, tup]
      exact ⟨hEF, by rw [none_ hW, Bool.and_false]⟩
    | true =>
      refine hN27 [(0, v), (1, w), (4, .bool false), (6, .pointer (some ⟨b6, 0, none⟩)), (7, w), (8, Zd ps.length), (9, Zd (k : Nat)), (41, .bool false)] _ _ ?_ (by simp (maxSteps := 2000000) only [vup, cond_true, cond_false, Nat.reduceBEq])
      clear hN27
      try clear N27
      refine Yl rfl ?_
      refine Zl ?_
      simp (maxSteps := 2000000) only [↓Zm, Zf, Zk]
      refine hB [(0, v), (1, w), (4, .bool false), (7, w), (8, Zd ps.length), (9, Zd (k : Nat))] _ _ ?_ (by simp (maxSteps := 2000000) only [vup, cond_true, cond_false, Nat.reduceBEq])
      clear hB
      try clear B
      refine Zl ?_
      simp (maxSteps := 2000000) only [↓Za, ↓Zb, ↓Zc, vup, cond_true, cond_false, aop, ev, sput, Ze, Zw, Zz, Nat.reduceBEq, add1 (show k < 9223372036854775807 by omega)]
      refine hQ2 _ _ _ ⟨(k + 1, F), ⟨hk', hEF, fun p hpm => ?_⟩, by simp only; omega, by simp (maxSteps := 2000000) only [vup, cond_true, cond_false, Nat.reduceBEq], rfl⟩
      rw [take_snoc (d := ((0, 0) : Int × Int)) hk', hp] at hpm
      rcases List.mem_append.1 hpm with h5 | h5
      · exact hall p h5
      · rw [List.mem_singleton.1 h5]; exact hW
  obtain rfl : k = ps.length := by omega
  refine Zg fun N28 hN28 => ?_
  simp (maxSteps := 2000000) only [↓Za, ↓Zb, ↓Zc, vup, cond_true, cond_false, aop, Zf, ev, sput, Ze, Zw, Zz, Nat.reduceBEq, hin]
  refine hN28 [(0, v), (1, w), (4, .bool false), (7, w), (8, Zd ps.length), (9, Zd ps.length), (10, .bool false)] _ _ ?_ (by simp (maxSteps := 2000000) only [vup, cond_true, cond_false, Nat.reduceBEq])
  clear hN28
  try clear N28
  refine Zg fun N29 hN29 => ?_
  simp (maxSteps := 2000000) only [↓Yk, ↓vdn, vup, cond_true, cond_false, Zf, ev, Nat.reduceBEq]
  refine hQ2 _ _ _ (hQ _ _ _ ?_)
  simp (maxSteps := 2000000) only [Zf, Zk, Zo, if_true]
  refine hZ [(0, v), (1, w), (4, .bool false)] _ _ ?_ (by simp (maxSteps := 2000000) only [vup, cond_true, cond_false, Nat.reduceBEq])
  clear hZ
  try clear Z
  refine Zl ?_
  rw [List.take_length] at hall
  have ha : allW ps = true := List.all_eq_true.2 hall
  have he : ((ps.length : Int) == (xs.length : Int)) = (decide (ps.length = xs.length) && allW ps) := by
    rw [ha, Bool.and_true, Bool.eq_iff_iff, beq_iff_eq, decide_eq_true_eq]; omega
  have hvG := Xn hv hEG
  simp (maxSteps := 2000000) only [↓Za, ↓Zi, ↓Zs, ↓Zb, ↓Zc, vup, List.map_cons, List.map_nil, cond_true, cond_false, aop, Zf, ev, sput, Ze, Zw, Zz, Zj, Nat.reduceBEq, Zo, Xh, tup, tyf, hwG.len, hvG.len, he]
  exact hEG
end Go.Proofs.Tryd.Am

namespace Rn
def S : List Nat → Nat → Bool
  | [], y => y == 0
  | x :: l, y => S l y || S l (y ^^^ x)
theorem S_zero : ∀ l, S l 0 = true
  | [] => rfl
  | x :: l => by rw [S, S_zero l]; rfl
theorem Ww (a b : Nat) : (a ^^^ b) ^^^ b = a := by rw [Nat.xor_assoc, Nat.xor_self, Nat.xor_zero]
theorem S_xor : ∀ (l : List Nat) {a b : Nat}, S l a = true → S l b = true → S l (a ^^^ b) = true
  | [], a, b, ha, hb => by
    rw [S, beq_iff_eq] at ha hb ⊢; subst ha hb; rfl
  | x :: l, a, b, ha, hb => by
    rw [S, Bool.or_eq_true] at ha hb ⊢
    rcases ha with ha | ha <;> rcases hb with hb | hb
    · exact .inl (S_xor l ha hb)
    · right; have := S_xor l ha hb; rw [← Nat.xor_assoc] at this; exact this
    · right; have := S_xor l ha hb
      rw [Nat.xor_assoc, Nat.xor_comm x b, ← Nat.xor_assoc] at this; exact this
    · left; have := S_xor l ha hb
      rw [Nat.xor_assoc, Nat.xor_comm x, Ww] at this; exact this
theorem S_mem : ∀ {l : List Nat} {x : Nat}, x ∈ l → S l x = true
  | y :: l, x, h => by
    rw [S, Bool.or_eq_true]
    rcases List.mem_cons.1 h with rfl | h
    · right; rw [Nat.xor_self]; exact S_zero l
    · exact .inl (S_mem h)
theorem S_sub {m : List Nat} : ∀ {l : List Nat} {y : Nat}, (∀ x ∈ l, S m x = true) → S l y = true → S m y = true
  | [], y, _, h => by rw [S, beq_iff_eq] at h; subst h; exact S_zero m
  | x :: l, y, hm, h => by
    rw [S, Bool.or_eq_true] at h
    rcases h with h | h
    · exact S_sub (fun z hz => hm z (by simp [hz])) h
    · have h1 := S_sub (fun z hz => hm z (by simp [hz])) h
      have := S_xor m h1 (hm x (by simp))
      rw [Ww] at this; exact this
theorem S_eq {l m : List Nat} (h1 : ∀ x ∈ l, S m x = true) (h2 : ∀ x ∈ m, S l x = true) (y : Nat) : S l y = S m y := by
  rw [Bool.eq_iff_iff]; exact ⟨S_sub h1, S_sub h2⟩
/-! How many sums there are. -/
theorem cnt_sub {L : List Nat} (hL : L.Nodup) : ∀ l : List Nat, l.Nodup → (∀ x ∈ l, x ∈ L) → l.length ≤ L.length := by
  intro l hl hs
  induction l generalizing L with
  | nil => exact Nat.zero_le _
  | cons x l ih =>
    have hn := List.nodup_cons.1 hl
    have hx := hs x (by simp)
    have h1 := ih (L := L.erase x) (hL.erase x) hn.2 fun y hy => (List.mem_erase_of_ne (by rintro rfl; exact hn.1 hy)).2 (hs y (by simp [hy]))
    rw [List.length_erase_of_mem hx] at h1
    have := List.length_pos_of_mem hx
    rw [List.length_cons]; omega
theorem countP_xor_le {p : Nat → Bool} {x n : Nat} (hx : x < 2 ^ n) : (List.range (2 ^ n)).countP (fun y => p (y ^^^ x)) ≤ (List.range (2 ^ n)).countP p := by
  rw [List.countP_eq_length_filter, List.countP_eq_length_filter, ← List.length_map (f := fun y => y ^^^ x)]
  refine cnt_sub (List.Pairwise.filter _ List.nodup_range) _ ?_ fun z hz => ?_
  · rw [List.Nodup, List.pairwise_map]
    refine (List.Pairwise.filter _ List.nodup_range).imp fun h e => h ?_
    have := congrArg (· ^^^ x) e
    simp only [Ww] at this; exact this
  · obtain ⟨y, hy, rfl⟩ := List.mem_map.1 hz
    rw [List.mem_filter, List.mem_range] at hy ⊢
    exact ⟨Nat.xor_lt_two_pow hy.1 hx, hy.2⟩
theorem countP_xor {p : Nat → Bool} {x n : Nat} (hx : x < 2 ^ n) : (List.range (2 ^ n)).countP (fun y => p (y ^^^ x)) = (List.range (2 ^ n)).countP p := by
  refine Nat.le_antisymm (countP_xor_le hx) ?_
  have := countP_xor_le (p := fun y => p (y ^^^ x)) hx
  simp only [Ww] at this; exact this
theorem countP_or {p q : Nat → Bool} (h : ∀ y, p y = true → q y = false) : ∀ l : List Nat, l.countP (fun y => p y || q y) = l.countP p + l.countP q
  | [] => rfl
  | y :: l => by
    rw [List.countP_cons, List.countP_cons, List.countP_cons, countP_or h l]
    cases hp : p y with
    | true => rw [h y hp]; simp; omega
    | false => simp; omega
def Ind : List Nat → Prop
  | [] => True
  | x :: l => S l x = false ∧ Ind l
def cnt (n : Nat) (l : List Nat) : Nat := (List.range (2 ^ n)).countP (S l)
theorem cnt_nil (n : Nat) : cnt n [] = 1 := by
  have : ∀ m, 0 < m → (List.range m).countP (fun y => y == 0) = 1 := by
    intro m
    induction m with
    | zero => intro h; omega
    | succ m ih =>
      intro _
      rw [List.range_succ, List.countP_append]
      by_cases hm : m = 0
      · subst hm; rfl
      · rw [ih (by omega)]; simp [hm]
  exact this _ (Nat.two_pow_pos n)
theorem cnt_ind {n : Nat} : ∀ (l : List Nat), (∀ x ∈ l, x < 2 ^ n) → Ind l → cnt n l = 2 ^ l.length
  | [], _, _ => cnt_nil n
  | x :: l, hl, ⟨h1, h2⟩ => by
    have ih := cnt_ind l (fun z hz => hl z (by simp [hz])) h2
    have e : cnt n (x :: l) = (List.range (2 ^ n)).countP (S l) + (List.range (2 ^ n)).countP fun y => S l (y ^^^ x) := by
      refine countP_or (q := fun y => S l (y ^^^ x)) (fun y hy => ?_) _
      cases h : S l (y ^^^ x) with
      | false => rfl
      | true =>
        have := S_xor l hy h
        rw [← Nat.xor_assoc, Nat.xor_self, Nat.zero_xor, h1] at this; cases this
    rw [e, countP_xor (hl x (by simp))]
    unfold cnt at ih
    rw [ih, List.length_cons, Nat.pow_succ]; omega
def dim (n : Nat) (l : List Nat) : Nat := (cnt n l).log2
theorem dim_ind {n : Nat} {l : List Nat} (hl : ∀ x ∈ l, x < 2 ^ n) (h : Ind l) : dim n l = l.length := by rw [dim, cnt_ind l hl h, Nat.log2_two_pow]
theorem dim_congr {n : Nat} {l m : List Nat} (h : ∀ y, S l y = S m y) : dim n l = dim n m := by
  rw [dim, dim, cnt, cnt, List.countP_congr fun y _ => by rw [h y]]
theorem cnt_pos (n : Nat) (l : List Nat) : cnt n l ≠ 0 := by
  have : 0 < cnt n l := List.countP_pos_iff.2 ⟨0, List.mem_range.2 (Nat.two_pow_pos n), S_zero l⟩
  omega
theorem dim_mono {n : Nat} {l m : List Nat} (h : ∀ y, S l y = true → S m y = true) : dim n l ≤ dim n m := by
  have h1 : cnt n l ≤ cnt n m := List.countP_mono_left fun y _ => h y
  rw [dim, dim, Nat.le_log2 (cnt_pos n m)]
  exact Nat.le_trans (Nat.log2_self_le (cnt_pos n l)) h1

/-! Bases: each row has a greatest column of its own. -/
theorem bit_top {b : Nat} (h : b ≠ 0) : b.testBit b.log2 = true := Nat.testBit_log2 h
theorem bit_over {b j : Nat} (h : b.log2 < j) : b.testBit j = false := Nat.testBit_lt_two_pow (Nat.lt_of_lt_of_le Nat.lt_log2_self (Nat.pow_le_pow_right (by decide) h))
theorem lt_bit {n m i : Nat} (hn : n.testBit i = false) (hm : m.testBit i = true) (h : ∀ j, i < j → n.testBit j = m.testBit j) : n < m := by
  have e : n / 2 ^ (i + 1) = m / 2 ^ (i + 1) := by
    apply Nat.eq_of_testBit_eq
    intro j
    rw [Nat.testBit_div_two_pow, Nat.testBit_div_two_pow]; exact h _ (by omega)
  have h1 : n % 2 ^ (i + 1) < 2 ^ i := by
    refine Nat.lt_pow_two_of_testBit _ fun j hj => ?_
    rw [Nat.testBit_mod_two_pow]
    by_cases hji : j = i
    · subst hji; rw [hn, Bool.and_false]
    · have : ¬ j < i + 1 := by omega
      simp [this]
  have h2 : 2 ^ i ≤ m % 2 ^ (i + 1) := Nat.ge_two_pow_of_testBit (by rw [Nat.testBit_mod_two_pow, hm]; simp)
  have a := Nat.div_add_mod n (2 ^ (i + 1))
  have b := Nat.div_add_mod m (2 ^ (i + 1))
  rw [e] at a
  generalize 2 ^ (i + 1) * (m / 2 ^ (i + 1)) = q at a b
  omega
def mn (a b : Nat) : Nat := if b < a then b else a
theorem mn_bits {r b : Nat} (hb : b ≠ 0) : (mn r (r ^^^ b)).testBit b.log2 = false ∧ (∀ j, b.log2 < j → (mn r (r ^^^ b)).testBit j = r.testBit j) ∧ (mn r (r ^^^ b) = r ∨ mn r (r ^^^ b) = r ^^^ b) := by
  have hi : ∀ j, b.log2 < j → (r ^^^ b).testBit j = r.testBit j := fun j hj => by rw [Nat.testBit_xor, bit_over hj, Bool.xor_false]
  have ht : (r ^^^ b).testBit b.log2 = !r.testBit b.log2 := by rw [Nat.testBit_xor, bit_top hb, Bool.xor_true]
  cases hr : r.testBit b.log2 with
  | true =>
    rw [hr] at ht
    have : r ^^^ b < r := lt_bit ht hr hi
    rw [mn, if_pos this]
    exact ⟨ht, hi, .inr rfl⟩
  | false =>
    rw [hr] at ht
    have : r < r ^^^ b := lt_bit hr ht fun j hj => (hi j hj).symm
    rw [mn, if_neg (by omega)]
    exact ⟨hr, fun _ _ => rfl, .inl rfl⟩
def red (B : List Nat) (row : Nat) : Nat := B.foldl (fun r b => mn r (r ^^^ b)) row
def Bs (B : List Nat) : Prop := B.Pairwise (fun a b => b.log2 < a.log2) ∧ ∀ x ∈ B, x ≠ 0
theorem red_keep : ∀ (B : List Nat) (r j : Nat), (∀ b ∈ B, b ≠ 0 ∧ b.log2 < j) → (red B r).testBit j = r.testBit j
  | [], _, _, _ => rfl
  | b :: B, r, j, h => by
    have hb := h b (by simp)
    rw [red, List.foldl_cons]
    exact (red_keep B _ j fun c hc => h c (by simp [hc])).trans ((mn_bits hb.1).2.1 j hb.2)
theorem red_clear : ∀ (B : List Nat) (r : Nat), Bs B → ∀ b ∈ B, (red B r).testBit b.log2 = false
  | [], _, _, _, h => by cases h
  | c :: B, r, ⟨hp, h0⟩, b, hb => by
    rw [List.pairwise_cons] at hp
    have hc := h0 c (by simp)
    rw [red, List.foldl_cons]
    rcases List.mem_cons.1 hb with rfl | hb
    · exact (red_keep B _ _ fun d hd => ⟨h0 d (by simp [hd]), hp.1 d hd⟩).trans (mn_bits hc).1
    · exact red_clear B _ ⟨hp.2, fun x hx => h0 x (by simp [hx])⟩ b hb
theorem red_S {B : List Nat} : ∀ (l : List Nat) (r : Nat), (∀ b ∈ l, b ∈ B ∧ b ≠ 0) → S B (r ^^^ red l r) = true
  | [], r, _ => by rw [red, List.foldl_nil, Nat.xor_self]; exact S_zero B
  | b :: l, r, h => by
    have hb := h b (by simp)
    rw [red, List.foldl_cons]
    have h1 := red_S l (mn r (r ^^^ b)) fun c hc => h c (by simp [hc])
    rw [red] at h1
    rcases (mn_bits (r := r) hb.2).2.2 with e | e
    · rw [e] at h1 ⊢; exact h1
    · rw [e] at h1 ⊢
      have := S_xor B (S_mem hb.1) h1
      rw [← Nat.xor_assoc, Nat.xor_comm b, Ww] at this
      exact this
theorem red_top {B : List Nat} (hB : Bs B) {r : Nat} (h : red B r ≠ 0) : ∀ b ∈ B, (red B r).log2 ≠ b.log2 := fun b hb e => by
  have := red_clear B r hB b hb
  rw [← e, bit_top h] at this; cases this
theorem Bs.more {B C : List Nat} (hB : Bs B) {r : Nat} (h : red B r ≠ 0) (hm : ∀ x, x ∈ C ↔ x ∈ B ∨ x = red B r) (hs : C.Pairwise fun a b => b ≤ a) (hn : C.Nodup) : Bs C ∧ ∀ y, S C y = S (B ++ [r]) y := by
  have hd : ∀ x ∈ C, ∀ y ∈ C, x ≠ y → x.log2 ≠ y.log2 := by
    have dB : ∀ x ∈ B, ∀ y ∈ B, x ≠ y → x.log2 ≠ y.log2 := by
      intro x hx y hy hne
      obtain ⟨i, hi, rfl⟩ := List.getElem_of_mem hx
      obtain ⟨j, hj, rfl⟩ := List.getElem_of_mem hy
      rcases Nat.lt_trichotomy i j with h1 | h1 | h1
      · have := List.pairwise_iff_getElem.1 hB.1 i j hi hj h1; omega
      · subst h1; exact absurd rfl hne
      · have := List.pairwise_iff_getElem.1 hB.1 j i hj hi h1; omega
    intro x hx y hy hne
    rcases (hm x).1 hx with hx | rfl <;> rcases (hm y).1 hy with hy | rfl
    · exact dB x hx y hy hne
    · exact fun e => red_top hB h x hx e.symm
    · exact red_top hB h y hy
    · exact absurd rfl hne
  have h0 : ∀ x ∈ C, x ≠ 0 := fun x hx => by
    rcases (hm x).1 hx with hx | rfl
    · exact hB.2 x hx
    · exact h
  refine ⟨⟨?_, h0⟩, fun y => ?_⟩
  · rw [List.pairwise_iff_getElem] at hs ⊢
    intro i j hi hj hij
    have h1 := hs i j hi hj hij
    have h2 := hd C[i] (List.getElem_mem hi) C[j] (List.getElem_mem hj) (List.pairwise_iff_getElem.1 hn i j hi hj hij)
    have h3 : C[j].log2 ≤ C[i].log2 := by
      rw [Nat.le_log2 (h0 _ (List.getElem_mem hi))]
      exact Nat.le_trans (Nat.log2_self_le (h0 _ (List.getElem_mem hj))) h1
    omega
  · have hx := red_S (B := B) B r fun b hb => ⟨hb, hB.2 b hb⟩
    have up : ∀ {z}, S B z = true → S (B ++ [r]) z = true := fun hz => S_sub (fun x hx => S_mem (by simp [hx])) hz
    have upC : ∀ {z}, S B z = true → S C z = true := fun hz => S_sub (fun x hx => S_mem ((hm x).2 (.inl hx))) hz
    refine S_eq (fun x hxC => ?_) (fun x hxB => ?_) y
    · rcases (hm x).1 hxC with h1 | rfl
      · exact S_mem (by simp [h1])
      · have := S_xor (B ++ [r]) (S_mem (show r ∈ B ++ [r] by simp)) (up hx)
        rw [← Nat.xor_assoc, Nat.xor_self, Nat.zero_xor] at this; exact this
    · rcases List.mem_append.1 hxB with h1 | h1
      · exact S_mem ((hm x).2 (.inl h1))
      · obtain rfl := List.mem_singleton.1 h1
        have := S_xor C (upC hx) (S_mem ((hm _).2 (.inr rfl)))
        rw [Ww] at this; exact this
end Rn

namespace Rn
def rowsF (L : Nat → Nat) (n : Nat) : List Nat := (List.range n).map L
theorem Wh {L : Nat → Nat} {n x : Nat} : x ∈ rowsF L n ↔ ∃ i, i < n ∧ L i = x := by simp [rowsF]
theorem rowsF_S {L : Nat → Nat} {n i : Nat} (h : i < n) : S (rowsF L n) (L i) = true := S_mem (Wh.2 ⟨i, h, rfl⟩)
structure EI (n : Nat) (L0 L : Nat → Nat) (k c : Nat) (pv : Nat → Nat) : Prop where
  kn : k ≤ n
  lt : ∀ i, i < n → L i < 2 ^ n
  same : ∀ y, S (rowsF L n) y = S (rowsF L0 n) y
  piv : ∀ j, j < k → (L j).testBit (pv j) = true ∧ ∀ i, i < n → i ≠ j → (L i).testBit (pv j) = false
  low : ∀ i, k ≤ i → i < n → ∀ b, b < c → (L i).testBit b = false
section
variable {n k c a : Nat} {L0 L : Nat → Nat} {pv : Nat → Nat}
theorem EI.none (e : EI n L0 L k c pv) (h : ∀ i, k ≤ i → i < n → (L i).testBit c = false) : EI n L0 L k (c + 1) pv :=
  ⟨e.kn, e.lt, e.same, e.piv, fun i h1 h2 b hb => (Nat.lt_or_eq_of_le (Nat.le_of_lt_succ hb)).elim (fun hc => e.low i h1 h2 b hc) fun hc => by subst hc; exact h i h1 h2⟩
def swp (L : Nat → Nat) (k a : Nat) : Nat → Nat := fun i => if i = k then L a else if i = a then L k else L i
def elm (L : Nat → Nat) (k c : Nat) : Nat → Nat := fun i => if i ≠ k ∧ (L i).testBit c = true then L i ^^^ L k else L i
theorem swp_from (L : Nat → Nat) {k a n : Nat} (hk : k ≤ a) (ha : a < n) (i : Nat) (hi : i < n) : ∃ j, j < n ∧ swp L k a i = L j ∧ (k ≤ i → k ≤ j) ∧ (i < k → j = i) := by
  unfold swp
  by_cases h1 : i = k
  · rw [if_pos h1]; exact ⟨a, ha, rfl, fun _ => hk, fun h => by omega⟩
  · rw [if_neg h1]
    by_cases h2 : i = a
    · rw [if_pos h2]; exact ⟨k, by omega, rfl, fun _ => Nat.le_refl _, fun h => by omega⟩
    · rw [if_neg h2]; exact ⟨i, hi, rfl, fun h => h, fun _ => rfl⟩
theorem swp_to (L : Nat → Nat) {k a n : Nat} (hk : k ≤ a) (ha : a < n) (j : Nat) (hj : j < n) : ∃ i, i < n ∧ swp L k a i = L j := by
  by_cases h1 : j = a
  · exact ⟨k, by omega, by rw [swp, if_pos rfl, h1]⟩
  · by_cases h2 : j = k
    · refine ⟨a, ha, ?_⟩
      unfold swp
      rw [if_neg (by omega), if_pos rfl, h2]
    · exact ⟨j, hj, by rw [swp, if_neg h2, if_neg h1]⟩
theorem swp_S (hk : k ≤ a) (ha : a < n) (y : Nat) : S (rowsF (swp L k a) n) y = S (rowsF L n) y := by
  refine S_eq (fun x hx => ?_) (fun x hx => ?_) y
  · obtain ⟨i, hi, rfl⟩ := Wh.1 hx
    obtain ⟨j, hj, e, _⟩ := swp_from L hk ha i hi
    rw [e]; exact rowsF_S hj
  · obtain ⟨j, hj, rfl⟩ := Wh.1 hx
    obtain ⟨i, hi, e⟩ := swp_to L hk ha j hj
    rw [← e]; exact rowsF_S hi
theorem elm_S (hk : k < n) (y : Nat) : S (rowsF (elm L k c) n) y = S (rowsF L n) y := by
  have ek : elm L k c k = L k := by rw [elm, if_neg (by simp)]
  refine S_eq (fun x hx => ?_) (fun x hx => ?_) y
  · obtain ⟨i, hi, rfl⟩ := Wh.1 hx
    unfold elm
    split
    · exact S_xor _ (rowsF_S hi) (rowsF_S hk)
    · exact rowsF_S hi
  · obtain ⟨i, hi, rfl⟩ := Wh.1 hx
    have h1 := rowsF_S (L := elm L k c) hi
    have h2 := rowsF_S (L := elm L k c) hk
    rw [ek] at h2
    unfold elm at h1
    split at h1
    · have := S_xor _ h1 h2
      rw [Ww] at this; exact this
    · exact h1
theorem EI.some (e : EI n L0 L k c pv) (hk : k ≤ a) (ha : a < n) (hb : (L a).testBit c = true) : EI n L0 (elm (swp L k a) k c) (k + 1) (c + 1) fun j => if j = k then c else pv j := by
  have hkn : k < n := by omega
  have srow : swp L k a k = L a := by rw [swp, if_pos rfl]
  have ek : elm (swp L k a) k c k = L a := by rw [elm, if_neg (by simp), srow]
  have other : ∀ i, i ≠ k → elm (swp L k a) k c i = if (swp L k a i).testBit c = true then swp L k a i ^^^ L a else swp L k a i := fun i hi => by
    unfold elm; rw [srow]
    by_cases h : (swp L k a i).testBit c = true
    · rw [if_pos ⟨hi, h⟩, if_pos h]
    · rw [if_neg (fun h2 => h h2.2), if_neg h]
  refine ⟨by omega, fun i hi => ?_, fun y => ?_, fun j hj => ?_, fun i h1 h2 b hbc => ?_⟩
  · obtain ⟨j, hj, es, _⟩ := swp_from L hk ha i hi
    unfold elm
    rw [srow, es]
    split
    · exact Nat.xor_lt_two_pow (e.lt j hj) (e.lt a ha)
    · exact e.lt j hj
  · rw [elm_S hkn, swp_S hk ha]; exact e.same y
  · by_cases hjk : j = k
    · subst hjk
      rw [if_pos rfl, ek]
      refine ⟨hb, fun i hi hne => ?_⟩
      rw [other i hne]
      cases h : (swp L j a i).testBit c with
      | true => rw [if_pos rfl, Nat.testBit_xor, h, hb]; rfl
      | false => rw [if_neg (by decide), h]
    · rw [if_neg hjk]
      have hj' : j < k := by omega
      obtain ⟨p1, p2⟩ := e.piv j hj'
      have ra := p2 a ha (by omega)
      refine ⟨?_, fun i hi hne => ?_⟩
      · rw [other j hjk]
        obtain ⟨j2, _, es, _, e2⟩ := swp_from L hk ha j (by omega)
        rw [es, e2 hj']
        split
        · rw [Nat.testBit_xor, p1, ra]; rfl
        · exact p1
      · by_cases hik : i = k
        · subst hik; rw [ek]; exact ra
        · rw [other i hik]
          obtain ⟨i2, hi2, es, g1, g2⟩ := swp_from L hk ha i hi
          have hne2 : i2 ≠ j := by
            by_cases h : i < k
            · rw [g2 h]; exact hne
            · have := g1 (by omega); omega
          have r2 := p2 i2 hi2 hne2
          rw [es]
          split
          · rw [Nat.testBit_xor, r2, ra]; rfl
          · exact r2
  · have hik : i ≠ k := by omega
    rw [other i hik]
    by_cases hc : b = c
    · subst hc
      cases h : (swp L k a i).testBit b with
      | true => rw [if_pos rfl, Nat.testBit_xor, h, hb]; rfl
      | false => rw [if_neg (by decide), h]
    · obtain ⟨i2, hi2, es, g1, _⟩ := swp_from L hk ha i h2
      have r1 := e.low i2 (g1 (by omega)) hi2 b (by omega)
      have r2 := e.low a hk ha b (by omega)
      rw [es]
      split
      · rw [Nat.testBit_xor, r1, r2]; rfl
      · exact r1
theorem S_bit {p : Nat} : ∀ {l : List Nat} {y : Nat}, (∀ z ∈ l, z.testBit p = false) → S l y = true → y.testBit p = false
  | [], y, _, h => by rw [S, beq_iff_eq] at h; subst h; exact Nat.zero_testBit p
  | x :: l, y, hl, h => by
    rw [S, Bool.or_eq_true] at h
    rcases h with h | h
    · exact S_bit (fun z hz => hl z (by simp [hz])) h
    · have h1 := S_bit (fun z hz => hl z (by simp [hz])) h
      rw [Nat.testBit_xor, hl x (by simp), Bool.xor_false] at h1; exact h1
theorem ind_piv (L : Nat → Nat) (pv : Nat → Nat) : ∀ (k : Nat), (∀ j, j < k → (L j).testBit (pv j) = true ∧ ∀ i, i < k → i ≠ j → (L i).testBit (pv j) = false) → Ind (rowsF L k).reverse
  | 0, _ => trivial
  | k + 1, h => by
    have e : (rowsF L (k + 1)).reverse = L k :: (rowsF L k).reverse := by simp [rowsF, List.range_succ]
    rw [e]
    refine ⟨?_, ind_piv L pv k fun j hj => ⟨(h j (by omega)).1, fun i hi hne => (h j (by omega)).2 i (by omega) hne⟩⟩
    cases hs : S (rowsF L k).reverse (L k) with
    | false => rfl
    | true =>
      have := S_bit (p := pv k) (fun z hz => by
        obtain ⟨i, hi, rfl⟩ := Wh.1 (List.mem_reverse.1 hz)
        exact (h k (by omega)).2 i (by omega) (by omega)) hs
      rw [(h k (by omega)).1] at this; cases this
theorem zero_low {x n : Nat} (h : x < 2 ^ n) (hb : ∀ b, b < n → x.testBit b = false) : x = 0 := by
  apply Nat.eq_of_testBit_eq
  intro i
  rw [Nat.zero_testBit]
  by_cases hi : i < n
  · exact hb i hi
  · exact Nat.testBit_lt_two_pow (Nat.lt_of_lt_of_le h (Nat.pow_le_pow_right (by decide) (by omega)))
theorem EI.fin (e : EI n L0 L k n pv) : dim n (rowsF L0 n) = k := by
  have h1 : ∀ y, S (rowsF L0 n) y = S (rowsF L k).reverse y := fun y => by
    rw [← e.same y]
    refine S_eq (fun x hx => ?_) (fun x hx => ?_) y
    · obtain ⟨i, hi, rfl⟩ := Wh.1 hx
      by_cases hik : i < k
      · exact S_mem (List.mem_reverse.2 (Wh.2 ⟨i, hik, rfl⟩))
      · rw [zero_low (e.lt i hi) (e.low i (by omega) hi)]; exact S_zero _
    · obtain ⟨i, hi, rfl⟩ := Wh.1 (List.mem_reverse.1 hx)
      have := e.kn
      exact rowsF_S (by omega)
  have hkn := e.kn
  rw [dim_congr h1, dim_ind (fun x hx => by
    obtain ⟨i, hi, rfl⟩ := Wh.1 (List.mem_reverse.1 hx)
    exact e.lt i (by omega)) (ind_piv L pv k fun j hj => ⟨(e.piv j hj).1, fun i hi hne => (e.piv j hj).2 i (by omega) hne⟩)]
  simp [rowsF]
end

/-! The least of b and of some numbers. -/
def IsMin (b : Nat) (P : Nat → Prop) (v : Nat) : Prop := (v = b ∨ P v) ∧ v ≤ b ∧ ∀ w, P w → v ≤ w
theorem IsMin.next {b v w : Nat} {P P' : Nat → Prop} (h1 : IsMin b P v) (h2 : IsMin v P' w) : IsMin b (fun x => P x ∨ P' x) w := by
  obtain ⟨a1, b1, c1⟩ := h1
  obtain ⟨a2, b2, c2⟩ := h2
  refine ⟨?_, by omega, fun x hx => ?_⟩
  · rcases a2 with rfl | h
    · exact a1.imp id .inl
    · exact .inr (.inr h)
  · rcases hx with h | h
    · have := c1 x h; omega
    · exact c2 x h
theorem IsMin.congr {b v : Nat} {P P' : Nat → Prop} (h1 : IsMin b P v) (h : ∀ x, P x ↔ P' x) : IsMin b P' v :=
  ⟨h1.1.imp id (h v).1, h1.2.1, fun w hw => h1.2.2 w ((h w).2 hw)⟩
theorem IsMin.skip {b : Nat} {P : Nat → Prop} (h : ∀ w, P w → b ≤ w) : IsMin b P b := ⟨.inl rfl, Nat.le_refl _, h⟩

def okRow (g : Nat → Nat) (n i r : Nat) : Prop := r < 2 ^ n ∧ r.testBit i = true ∧ ∀ b, b ≠ i → r.testBit b = true → (g i).testBit b = true
def Cm (g : Nat → Nat) (n : Nat) : Nat → Nat → List Nat → Prop
  | 0, _, c => c = []
  | k + 1, i, c => ∃ r d, c = r :: d ∧ okRow g n i r ∧ Cm g n k (i + 1) d
def Rk (g : Nat → Nat) (n k i : Nat) (R : List Nat) (w : Nat) : Prop := ∃ c, Cm g n k i c ∧ w = dim n (R ++ c)
theorem S_app2 {l m : List Nat} (h : ∀ y, S l y = S m y) (c : List Nat) (y : Nat) : S (l ++ c) y = S (m ++ c) y := by
  have key : ∀ {l m : List Nat}, (∀ y, S l y = S m y) → ∀ x ∈ l ++ c, S (m ++ c) x = true := by
    intro l m h x hx
    rcases List.mem_append.1 hx with hx | hx
    · have h1 : S m x = true := by rw [← h]; exact S_mem hx
      exact S_sub (fun z hz => S_mem (List.mem_append_left _ hz)) h1
    · exact S_mem (List.mem_append_right _ hx)
  exact S_eq (key h) (key fun y => (h y).symm) y
theorem Rk.congr {g : Nat → Nat} {n k i : Nat} {R R' : List Nat} (h : ∀ y, S R y = S R' y) (w : Nat) : Rk g n k i R w ↔ Rk g n k i R' w := by
  constructor
  · rintro ⟨c, hc, e⟩; exact ⟨c, hc, by rw [e, dim_congr (S_app2 h c)]⟩
  · rintro ⟨c, hc, e⟩; exact ⟨c, hc, by rw [e, dim_congr (S_app2 h c)]⟩
theorem Rk.zero {g : Nat → Nat} {n i : Nat} {R : List Nat} (w : Nat) : Rk g n 0 i R w ↔ w = dim n R := by
  constructor
  · rintro ⟨c, hc, e⟩; rw [Cm] at hc; subst hc; rw [List.append_nil] at e; exact e
  · intro e; exact ⟨[], rfl, by rw [List.append_nil]; exact e⟩
theorem Rk.succ {g : Nat → Nat} {n k i : Nat} {R : List Nat} (w : Nat) : Rk g n (k + 1) i R w ↔ ∃ r, okRow g n i r ∧ Rk g n k (i + 1) (R ++ [r]) w := by
  constructor
  · rintro ⟨c, ⟨r, d, rfl, h1, h2⟩, e⟩
    exact ⟨r, h1, d, h2, by rw [e, List.append_assoc]; rfl⟩
  · rintro ⟨r, h1, d, h2, e⟩
    exact ⟨r :: d, ⟨r, d, rfl, h1, h2⟩, by rw [e, List.append_assoc]; rfl⟩
theorem Rk.ge {g : Nat → Nat} {n k i : Nat} {R : List Nat} {w : Nat} (h : Rk g n k i R w) : dim n R ≤ w := by
  obtain ⟨c, _, rfl⟩ := h
  exact dim_mono fun y hy => S_sub (fun z hz => S_mem (List.mem_append_left _ hz)) hy
end Rn

namespace Rn
open Sr

end Rn

namespace Go.Proofs.Tryd.Am
open Go.Am
set_option maxRecDepth 100000
end Go.Proofs.Tryd.Am

namespace Go.Proofs.Tryd.Am
open Go.Am Sr
set_option maxRecDepth 100000
set_option maxHeartbeats 1000000

def swL (L : List Nat) (j : Nat) : List Nat := (L.set j (L.getD (j - 1) 0)).set (j - 1) (L.getD j 0)
theorem swL_get {L : List Nat} {j : Nat} (h1 : 1 ≤ j) (h2 : j < L.length) (t : Nat) : (swL L j).getD t 0 = if t = j - 1 then L.getD j 0 else if t = j then L.getD (j - 1) 0 else L.getD t 0 := by
  rw [swL, getD_setN (by rw [List.length_set]; omega), getD_setN h2]
def SrtTo (L : List Nat) (i : Nat) : Prop := ∀ p q, p < q → q < i → L.getD q 0 ≤ L.getD p 0
def SrtBut (L : List Nat) (i j : Nat) : Prop := ∀ p q, p < q → q ≤ i → q ≠ j → L.getD q 0 ≤ L.getD p 0
theorem SrtBut.step {L : List Nat} {i j : Nat} (h : SrtBut L i j) (h1 : 1 ≤ j) (h2 : j < L.length) (hj : j ≤ i) (hlt : L.getD (j - 1) 0 < L.getD j 0) : SrtBut (swL L j) i (j - 1) := by
  intro p q hpq hq hne
  rw [swL_get h1 h2, swL_get h1 h2, if_neg hne]
  by_cases hqj : q = j
  · rw [if_pos hqj]
    by_cases hp : p = j - 1
    · rw [if_pos hp]; omega
    · rw [if_neg hp, if_neg (by omega)]
      exact h p (j - 1) (by omega) (by omega) (by omega)
  · rw [if_neg hqj]
    by_cases hp : p = j - 1
    · rw [if_pos hp]; exact h j q (by omega) hq hqj
    · rw [if_neg hp]
      by_cases hpj : p = j
      · rw [if_pos hpj]; exact h (j - 1) q (by omega) hq hqj
      · rw [if_neg hpj]; exact h p q hpq hq hqj
theorem SrtBut.done {L : List Nat} {i j : Nat} (h : SrtBut L i j) (hj : j = 0 ∨ L.getD j 0 ≤ L.getD (j - 1) 0) : SrtTo L (i + 1) := by
  intro p q hpq hq
  by_cases hqj : q = j
  · subst hqj
    rcases hj with hj | hj
    · omega
    · by_cases hp : p = q - 1
      · subst hp; exact hj
      · exact Nat.le_trans hj (h p (q - 1) (by omega) (by omega) (by omega))
  · exact h p q hpq (by omega) hqj
theorem SrtTo.pw {L : List Nat} (h : SrtTo L L.length) : L.Pairwise fun a b => b ≤ a := by
  rw [List.pairwise_iff_getElem]
  intro i j hi hj hij
  have := h i j hij hj
  rw [List.getD, List.getD, List.getElem?_eq_getElem hi, List.getElem?_eq_getElem hj] at this
  exact this

abbrev ov (b n m : Nat) : Value := .slice (some ⟨b, 0, some 0⟩) n (n + m)
end Go.Proofs.Tryd.Am

namespace Go.Proofs.Tryd.Am
open Go.Am Sr
set_option maxRecDepth 100000
set_option maxHeartbeats 1000000

end Go.Proofs.Tryd.Am

namespace Go.Proofs.Tryd.Am
open Go.Am Sr
set_option maxRecDepth 100000
set_option maxHeartbeats 1000000

def SpSl (h : Zh) (v : Value) (B : List Nat) : Prop := (v = .slice none 0 0 ∧ B = []) ∨ (B ≠ [] ∧ IntSl h v (iL B))
theorem SpSl.int {h : Zh} {v : Value} {B : List Nat} (hv : SpSl h v B) : IntSl h v (iL B) := by
  rcases hv with ⟨rfl, rfl⟩ | ⟨_, h⟩
  · exact .inl ⟨rfl, rfl⟩
  · exact h
theorem SpSl.ext {h h' : Zh} {v : Value} {B : List Nat} (hv : SpSl h v B) (hE : Ext (fun _ => False) h h') : SpSl h' v B := hv.imp id fun h => ⟨h.1, Xn h.2 hE⟩
theorem getD_mem {B : List Nat} {j : Nat} (hj : j < B.length) : B.getD j 0 ∈ B := by
  rw [List.getD, List.getElem?_eq_getElem hj]; exact List.getElem_mem hj

end Go.Proofs.Tryd.Am

namespace Go.Proofs.Tryd.Am
open Go.Am Sr
set_option maxRecDepth 100000
set_option maxHeartbeats 1000000

structure FH (h : Zh) (gv : Value) (bb bg bx bf : Nat) : Prop where
  g : h[bg]? = some (.cells [gv] 22 false)
  x : h[bx]? = some (.cells [gv] 56 false)
  f : h[bf]? = some (.cells [.func (.func 74) #[] #[pt bb, pt bg, pt bx, pt bf]] 75 false)
  ng : bg ≠ bb
  nx : bx ≠ bb
  nf : bf ≠ bb
theorem FH.ext {h h' : Zh} {gv : Value} {bb bg bx bf : Nat} (f : FH h gv bb bg bx bf) (hE : Ext (fun i => i = bb) h h') : FH h' gv bb bg bx bf :=
  { f with g := (hE.2 _ (Yr f.g) f.ng).trans f.g, x := (hE.2 _ (Yr f.x) f.nx).trans f.x, f := (hE.2 _ (Yr f.f) f.nf).trans f.f }
end Go.Proofs.Tryd.Am

namespace Go.Proofs.Tryd.Am
open Go.Am Sr
set_option maxRecDepth 100000
set_option maxHeartbeats 1000000

def c5 (L : Nat → Nat) : List Value := (List.range 5).map fun i => Zd (L i : Nat)
def upd (L : Nat → Nat) (i x : Nat) : Nat → Nat := fun t => if t = i then x else L t
section
variable {h : Zh} {b i : Nat} {L : Nat → Nat}
end
abbrev H5 (h : Zh) (L : Nat → Nat) : Zh := h ++ [.cells (c5 L) 77 false]
end Go.Proofs.Tryd.Am

namespace Go.Proofs.Tryd.Am
open Go.Am Sr
set_option maxRecDepth 100000
set_option maxHeartbeats 1000000

end Go.Proofs.Tryd.Am

namespace Go.Proofs.Tryd.Am
open Go.Am Sr

theorem one_place {n : Nat} {p : Nat → Bool} (h : ∀ a b, a < n → b < n → p a = true → p b = true → a = b) : Bq.sumTo (fun a => if p a = true then (1 : Rat) else 0) n = if (List.range n).any p = true then 1 else 0 := by
  by_cases hc : (List.range n).any p = true
  · rw [if_pos hc]
    obtain ⟨a, ha, hp⟩ := List.any_eq_true.1 hc
    rw [List.mem_range] at ha
    refine (Bq.sumTo_congr fun b hb => ?_).trans (Bq.sumTo_pick (fun _ => (1 : Rat)) ha)
    by_cases e : b = a
    · rw [e, if_pos hp, if_pos rfl]
    · rw [if_neg e, if_neg fun hb2 => e (h b a hb ha hb2 hp)]
  · rw [if_neg hc]
    refine Bq.sumTo_zero fun a ha => if_neg fun hp => hc (List.any_eq_true.2 ⟨a, List.mem_range.2 ha, hp⟩)
theorem code_nat {xs : List Int} {k : Nat} {c : List Int} (hc : code xs k c = true) : (c.map Int.toNat).Nodup ∧ (∀ w ∈ c.map Int.toNat, w < wn xs k) ∧ ∀ w v, w ∈ c.map Int.toNat → v ∈ c.map Int.toNat → w ≠ v → cf xs k w v = false ∨ cf xs k v w = false := by
  obtain ⟨h1, h2⟩ := code_pw.1 hc
  refine ⟨?_, fun w hw => ?_, fun w v hw hv hne => ?_⟩
  · refine List.pairwise_map.2 (h2.imp_of_mem fun {x y} hx hy h => ?_)
    have := h1 x hx
    have := h1 y hy
    have := h.1
    omega
  · obtain ⟨x, hx, rfl⟩ := List.mem_map.1 hw
    have := h1 x hx
    omega
  · obtain ⟨x, hx, rfl⟩ := List.mem_map.1 hw
    obtain ⟨y, hy, rfl⟩ := List.mem_map.1 hv
    obtain ⟨i, hi, rfl⟩ := List.mem_iff_getElem.1 hx
    obtain ⟨j, hj, rfl⟩ := List.mem_iff_getElem.1 hy
    have h3 := List.pairwise_iff_getElem.1 h2
    rcases Nat.lt_trichotomy i j with h | h | h
    · exact .inr (h3 i j hi hj h).2
    · subst h; exact absurd rfl hne
    · exact .inl (h3 j i hj hi h).2
theorem code_cf {xs : List Int} (g : Gs xs) {k : Nat} {c : List Int} (hc : code xs k c = true) {w v : Nat} (hw : w ∈ c.map Int.toNat) (hv : v ∈ c.map Int.toNat) (hne : w ≠ v) : cf xs k w v = false := by
  rcases (code_nat hc).2.2 w v hw hv hne with h | h
  · exact h
  · rw [cf_comm g]; exact h
end Go.Proofs.Tryd.Am

namespace Go.Proofs.Tryd.Am
open Go.Am
set_option maxRecDepth 100000
/-! 10: planchet planchetlaw05.SureLight -/
@[reducible] def q10_0 : SCode := .region [⟨some 4, .assign (.const (.bool false)), none⟩]
@[reducible] def q10_1 : SCode := .region [⟨some 22, .move (.tmp 0), none⟩,
    ⟨some 23, .call { callee := .value (.func 18), args := #[.tmp 22], argTypes := #[22] }, none⟩,
    ⟨some 24, .call { callee := .value (.func 35), args := #[.tmp 23], argTypes := #[22] }, none⟩,
    ⟨some 21, .move (.tmp 24), none⟩,
    ⟨some 25, .extract (.tmp 21) 0, none⟩,
    ⟨some 26, .extract (.tmp 21) 1, none⟩,
    ⟨some 5, .alloc 44, none⟩,
    ⟨none, .store 44 (.tmp 5) (.tmp 25), none⟩,
    ⟨some 6, .assign (.tmp 26), none⟩]
@[reducible] def q10_2 : SCode := .region [⟨some 27, .move (.tmp 6), none⟩,
    ⟨some 28, .binOp .neq 23 (.tmp 27) (.const (.int .i64 0)) 23, none⟩,
    ⟨some 29, .move (.tmp 28), none⟩,
    ⟨some 30, .move (.tmp 0), some (29, false)⟩,
    ⟨some 31, .call { callee := .value (.func 20), args := #[.tmp 30], argTypes := #[22] }, some (29, false)⟩,
    ⟨some 32, .unOp .not 4 (.tmp 31), some (29, false)⟩,
    ⟨some 33, .pick (.tmp 29) (.const (.bool true)) (.tmp 32), none⟩]
@[reducible] def q10_3 : SCode := .region [⟨some 34, .move (.tmp 6), none⟩,
    ⟨some 35, .binOp .eql 23 (.tmp 34) (.const (.int .i64 2)) 23, none⟩,
    ⟨some 36, .move (.tmp 35), none⟩,
    ⟨some 37, .call { callee := .value (.func 21), args := #[], argTypes := #[] }, some (36, true)⟩,
    ⟨some 38, .pick (.tmp 36) (.tmp 37) (.const (.bool false)), none⟩,
    ⟨some 4, .assign (.tmp 38), none⟩]
@[reducible] def q10_4 : SCode := .region [⟨some 40, .move (.tmp 0), none⟩,
    ⟨some 41, .call { callee := .value (.func 18), args := #[.tmp 40], argTypes := #[22] }, none⟩,
    ⟨some 42, .call { callee := .value (.func 19), args := #[.tmp 41, .const (.int .i64 1)], argTypes := #[22, 3] }, none⟩,
    ⟨some 39, .move (.tmp 42), none⟩,
    ⟨some 43, .extract (.tmp 39) 0, none⟩,
    ⟨some 44, .extract (.tmp 39) 1, none⟩,
    ⟨some 7, .assign (.tmp 43), none⟩,
    ⟨some 8, .assign (.tmp 44), none⟩]
@[reducible] def q10_5 : SCode := .region [⟨some 45, .move (.tmp 8), none⟩,
    ⟨some 46, .binOp .neq 23 (.tmp 45) (.const (.int .i64 0)) 23, none⟩,
    ⟨some 47, .move (.tmp 46), none⟩,
    ⟨some 48, .load 44 (.tmp 5), some (47, false)⟩,
    ⟨some 49, .call { callee := .value (.func 36), args := #[.tmp 48], argTypes := #[44] }, some (47, false)⟩,
    ⟨some 50, .unOp .not 4 (.tmp 49), some (47, false)⟩,
    ⟨some 51, .pick (.tmp 47) (.const (.bool true)) (.tmp 50), none⟩]
@[reducible] def q10_6 : SCode := .region [⟨some 4, .assign (.const (.bool false)), none⟩]
@[reducible] def q10_7 : SCode := .region [⟨some 52, .move (.tmp 0), none⟩,
    ⟨some 53, .call { callee := .builtin .len, args := #[.tmp 52], argTypes := #[22] }, none⟩,
    ⟨some 54, .makeSlice 50 (.tmp 53) (.tmp 53), none⟩,
    ⟨some 9, .assign (.tmp 54), none⟩]
@[reducible] def q10_8 : SCode := .region [⟨some 55, .move (.tmp 9), none⟩,
    ⟨some 56, .call { callee := .builtin .len, args := #[.tmp 55], argTypes := #[50] }, none⟩,
    ⟨some 57, .move (.const (.int .i64 0)), none⟩]
@[reducible] def q10_9 : SCode := .region [⟨some 58, .binOp .lss 3 (.tmp 57) (.tmp 56) 3, none⟩]
@[reducible] def q10_10 : SCode := .region [⟨some 59, .move (.tmp 57), none⟩,
    ⟨some 10, .assign (.tmp 59), none⟩]
@[reducible] def q10_11 : SCode := .region [⟨some 60, .move (.tmp 9), none⟩,
    ⟨some 61, .move (.tmp 10), none⟩,
    ⟨some 62, .build 44 #[(1, .const (.int .i64 1))], none⟩,
    ⟨some 63, .indexAddr 50 (.tmp 60) (.tmp 61), none⟩,
    ⟨none, .store 44 (.tmp 63) (.tmp 62), none⟩]
@[reducible] def q10_12 : SCode := .region [⟨some 64, .binOp .add 3 (.tmp 57) (.const (.int .i64 1)) 3, none⟩,
    ⟨some 57, .move (.tmp 64), none⟩]
def l10_0 : SCode := (.seq q10_9 (.seq (.cond (.tmp 58) .skip (.exit 0)) (.seq (.block 1 (.seq q10_10 q10_11)) q10_12)))
@[reducible] def q10_13 : SCode := .region [⟨some 65, .move (.tmp 7), none⟩,
    ⟨some 66, .call { callee := .builtin .len, args := #[.tmp 65], argTypes := #[22] }, none⟩,
    ⟨some 67, .move (.const (.int .i64 0)), none⟩]
@[reducible] def q10_14 : SCode := .region [⟨some 68, .binOp .lss 3 (.tmp 67) (.tmp 66) 3, none⟩]
@[reducible] def q10_15 : SCode := .region [⟨some 69, .indexAddr 22 (.tmp 65) (.tmp 67), none⟩,
    ⟨some 70, .load 3 (.tmp 69), none⟩,
    ⟨some 12, .assign (.tmp 70), none⟩]
@[reducible] def q10_16 : SCode := .region [⟨some 71, .move (.tmp 12), none⟩,
    ⟨some 72, .binOp .lss 3 (.tmp 71) (.const (.int .i64 0)) 3, none⟩,
    ⟨some 73, .move (.tmp 72), none⟩,
    ⟨some 74, .move (.tmp 12), some (73, false)⟩,
    ⟨some 75, .move (.tmp 0), some (73, false)⟩,
    ⟨some 76, .call { callee := .builtin .len, args := #[.tmp 75], argTypes := #[22] }, some (73, false)⟩,
    ⟨some 77, .binOp .geq 3 (.tmp 74) (.tmp 76) 3, some (73, false)⟩,
    ⟨some 78, .pick (.tmp 73) (.const (.bool true)) (.tmp 77), none⟩]
@[reducible] def q10_17 : SCode := .region [⟨some 4, .assign (.const (.bool false)), none⟩]
@[reducible] def q10_18 : SCode := .region [⟨some 79, .move (.tmp 9), none⟩,
    ⟨some 80, .move (.tmp 12), none⟩,
    ⟨some 81, .indexAddr 50 (.tmp 79) (.tmp 80), none⟩,
    ⟨some 82, .fieldAddr 44 (.tmp 81) 0, none⟩,
    ⟨none, .store 3 (.tmp 82) (.const (.int .i64 1)), none⟩]
@[reducible] def q10_19 : SCode := .region [⟨some 83, .binOp .add 3 (.tmp 67) (.const (.int .i64 1)) 3, none⟩,
    ⟨some 67, .move (.tmp 83), none⟩]
def l10_1 : SCode := (.seq q10_14 (.seq (.cond (.tmp 68) .skip (.exit 2)) (.seq (.block 3 (.seq q10_15 (.seq (.seq q10_16 (.cond (.tmp 78) (.seq q10_17 .ret) .skip)) q10_18))) q10_19)))
@[reducible] def q10_20 : SCode := .region [⟨some 85, .move (.tmp 0), none⟩,
    ⟨some 86, .call { callee := .value (.func 18), args := #[.tmp 85], argTypes := #[22] }, none⟩,
    ⟨some 87, .move (.tmp 9), none⟩,
    ⟨some 88, .call { callee := .value (.func 38), args := #[.tmp 86, .tmp 87], argTypes := #[22, 50] }, none⟩,
    ⟨some 84, .move (.tmp 88), none⟩,
    ⟨some 89, .extract (.tmp 84) 0, none⟩,
    ⟨some 90, .extract (.tmp 84) 1, none⟩,
    ⟨some 13, .assign (.tmp 89), none⟩,
    ⟨some 14, .assign (.tmp 90), none⟩]
@[reducible] def q10_21 : SCode := .region [⟨some 91, .move (.tmp 13), none⟩,
    ⟨some 92, .unOp .not 4 (.tmp 91), none⟩,
    ⟨some 93, .move (.tmp 92), none⟩,
    ⟨some 94, .move (.tmp 14), some (93, false)⟩,
    ⟨some 95, .binOp .neq 23 (.tmp 94) (.const (.int .i64 0)) 23, some (93, false)⟩,
    ⟨some 96, .pick (.tmp 93) (.const (.bool true)) (.tmp 95), none⟩]
@[reducible] def q10_22 : SCode := .region [⟨some 4, .assign (.const (.bool false)), none⟩]
def q10_23 : SCode := .draw [⟨some 98, .move (.tmp 0), none⟩,
    ⟨some 99, .call { callee := .value (.func 18), args := #[.tmp 98], argTypes := #[22] }, none⟩,
    ⟨some 100, .move (.tmp 1), none⟩,
    ⟨some 101, .move (.tmp 1), none⟩,
    ⟨some 102, .call { callee := .builtin .len, args := #[.tmp 101], argTypes := #[50] }, none⟩,
    ⟨some 103, .call { callee := .builtin .min, args := #[.tmp 102, .const (.int .i64 9)], argTypes := #[3, 3] }, none⟩,
    ⟨some 104, .slice 50 (.tmp 100) none (some (.tmp 103)) none, none⟩,
    ⟨some 105, .call { callee := .value (.func 39), args := #[.tmp 104], argTypes := #[50] }, none⟩,
    ⟨some 106, .call { callee := .value (.func 38), args := #[.tmp 99, .tmp 105], argTypes := #[22, 50] }, none⟩,
    ⟨some 97, .move (.tmp 106), none⟩,
    ⟨some 107, .extract (.tmp 97) 0, none⟩,
    ⟨some 108, .extract (.tmp 97) 1, none⟩,
    ⟨some 15, .assign (.tmp 107), none⟩,
    ⟨some 16, .assign (.tmp 108), none⟩]
   [[], [0], [], [], [3], [4], [2, 5], [6, 1], [1, 7, 7], [8], [9], [9], [10, 8, 0, 1, 2, 3, 4, 5, 6, 7, 8, 9, 10], [11, 12, 0, 1, 2, 3, 4, 5, 6, 7, 8, 9, 10, 11, 12]]
@[reducible] def q10_24 : SCode := .region [⟨some 109, .move (.tmp 16), none⟩,
    ⟨some 110, .binOp .neq 23 (.tmp 109) (.const (.int .i64 0)) 23, none⟩,
    ⟨some 111, .move (.tmp 110), none⟩,
    ⟨some 112, .move (.tmp 15), some (111, false)⟩,
    ⟨some 113, .unOp .not 4 (.tmp 112), some (111, false)⟩,
    ⟨some 114, .pick (.tmp 111) (.const (.bool true)) (.tmp 113), none⟩,
    ⟨some 115, .move (.tmp 114), none⟩,
    ⟨some 116, .move (.tmp 0), some (115, false)⟩,
    ⟨some 117, .move (.tmp 1), some (115, false)⟩,
    ⟨some 118, .call { callee := .value (.func 42), args := #[.tmp 116, .tmp 117], argTypes := #[22, 50] }, some (115, false)⟩,
    ⟨some 119, .unOp .not 4 (.tmp 118), some (115, false)⟩,
    ⟨some 120, .pick (.tmp 115) (.const (.bool true)) (.tmp 119), none⟩]
@[reducible] def q10_25 : SCode := .region [⟨some 121, .move (.tmp 16), none⟩,
    ⟨some 122, .binOp .eql 23 (.tmp 121) (.const (.int .i64 0)) 23, none⟩,
    ⟨some 123, .move (.tmp 122), none⟩,
    ⟨some 124, .move (.tmp 15), some (123, true)⟩,
    ⟨some 125, .unOp .not 4 (.tmp 124), some (123, true)⟩,
    ⟨some 126, .pick (.tmp 123) (.tmp 125) (.const (.bool false)), none⟩,
    ⟨some 127, .move (.tmp 126), none⟩,
    ⟨some 128, .move (.tmp 16), some (127, false)⟩,
    ⟨some 129, .binOp .eql 23 (.tmp 128) (.const (.int .i64 2)) 23, some (127, false)⟩,
    ⟨some 130, .pick (.tmp 127) (.const (.bool true)) (.tmp 129), none⟩,
    ⟨some 131, .move (.tmp 130), none⟩,
    ⟨some 132, .call { callee := .value (.func 21), args := #[], argTypes := #[] }, some (131, true)⟩,
    ⟨some 133, .pick (.tmp 131) (.tmp 132) (.const (.bool false)), none⟩,
    ⟨some 4, .assign (.tmp 133), none⟩]
@[reducible] def q10_26 : SCode := .region [⟨some 17, .assign (.const (.int .i64 0)), none⟩,
    ⟨some 18, .assign (.const (.int .i64 1)), none⟩]
@[reducible] def q10_27 : SCode := .region [⟨some 134, .move (.tmp 1), none⟩,
    ⟨some 135, .call { callee := .builtin .len, args := #[.tmp 134], argTypes := #[50] }, none⟩,
    ⟨some 136, .move (.const (.int .i64 0)), none⟩]
@[reducible] def q10_28 : SCode := .region [⟨some 137, .binOp .lss 3 (.tmp 136) (.tmp 135) 3, none⟩]
@[reducible] def q10_29 : SCode := .region [⟨some 138, .indexAddr 50 (.tmp 134) (.tmp 136), none⟩,
    ⟨some 139, .load 44 (.tmp 138), none⟩,
    ⟨some 20, .alloc 44, none⟩,
    ⟨none, .store 44 (.tmp 20) (.tmp 139), none⟩]
def q10_30 : SCode := .draw [⟨some 140, .move (.tmp 17), none⟩,
    ⟨some 141, .fieldAddr 44 (.tmp 20) 1, none⟩,
    ⟨some 142, .load 3 (.tmp 141), none⟩,
    ⟨some 143, .binOp .mul 3 (.tmp 140) (.tmp 142) 3, none⟩,
    ⟨some 144, .fieldAddr 44 (.tmp 20) 0, none⟩,
    ⟨some 145, .load 3 (.tmp 144), none⟩,
    ⟨some 146, .move (.tmp 18), none⟩,
    ⟨some 147, .binOp .mul 3 (.tmp 145) (.tmp 146) 3, none⟩,
    ⟨some 148, .binOp .add 3 (.tmp 143) (.tmp 147) 3, none⟩,
    ⟨some 149, .move (.tmp 18), none⟩,
    ⟨some 150, .fieldAddr 44 (.tmp 20) 1, none⟩,
    ⟨some 151, .load 3 (.tmp 150), none⟩,
    ⟨some 152, .binOp .mul 3 (.tmp 149) (.tmp 151) 3, none⟩,
    ⟨some 17, .assign (.tmp 148), none⟩,
    ⟨some 18, .assign (.tmp 152), none⟩]
   [[], [], [1], [0, 2], [], [4], [], [5, 6], [3, 7], [], [], [10], [9, 11], [8, 0, 1, 2, 3, 4, 5, 6, 7, 8], [12, 13, 0, 1, 2, 3, 4, 5, 6, 7, 8, 9, 10, 11, 12, 13]]
@[reducible] def q10_31 : SCode := .region [⟨some 153, .binOp .add 3 (.tmp 136) (.const (.int .i64 1)) 3, none⟩,
    ⟨some 136, .move (.tmp 153), none⟩]
def l10_2 : SCode := (.seq q10_28 (.seq (.cond (.tmp 137) .skip (.exit 4)) (.seq (.block 5 (.seq q10_29 q10_30)) q10_31)))
@[reducible] def q10_32 : SCode := .region [⟨some 154, .move (.tmp 17), none⟩,
    ⟨some 155, .fieldAddr 44 (.tmp 5) 1, none⟩,
    ⟨some 156, .load 3 (.tmp 155), none⟩,
    ⟨some 157, .binOp .mul 3 (.tmp 154) (.tmp 156) 3, none⟩,
    ⟨some 158, .fieldAddr 44 (.tmp 5) 0, none⟩,
    ⟨some 159, .load 3 (.tmp 158), none⟩,
    ⟨some 160, .move (.tmp 18), none⟩,
    ⟨some 161, .binOp .mul 3 (.tmp 159) (.tmp 160) 3, none⟩,
    ⟨some 162, .binOp .leq 3 (.tmp 157) (.tmp 161) 3, none⟩,
    ⟨some 163, .move (.tmp 162), none⟩,
    ⟨some 164, .call { callee := .value (.func 21), args := #[], argTypes := #[] }, some (163, true)⟩,
    ⟨some 165, .pick (.tmp 163) (.tmp 164) (.const (.bool false)), none⟩,
    ⟨some 4, .assign (.tmp 165), none⟩]
def s10 : SCode := (.seq q10_0 (.seq q10_1 (.seq (.seq q10_2 (.cond (.tmp 33) (.seq q10_3 .ret) .skip)) (.seq q10_4 (.seq (.seq q10_5 (.cond (.tmp 51) (.seq q10_6 .ret) .skip)) (.seq q10_7 (.seq (.seq q10_8 (.block 0 (.loop l10_0))) (.seq (.seq q10_13 (.block 2 (.loop l10_1))) (.seq (.seq q10_20 (.seq q10_21 (.cond (.tmp 96) (.seq q10_22 .ret) .skip))) (.seq q10_23 (.seq (.seq q10_24 (.cond (.tmp 120) (.seq q10_25 .ret) .skip)) (.seq q10_26 (.seq (.seq q10_27 (.block 4 (.loop l10_2))) (.seq q10_32 .ret))))))))))))))
theorem s10_strip : Zu (Zv Tryd.f10) = s10 := by kernel_rfl
theorem s10_ok : Yi 166 (Zv Tryd.f10) = true := by kernel_rfl
end Go.Proofs.Tryd.Am
